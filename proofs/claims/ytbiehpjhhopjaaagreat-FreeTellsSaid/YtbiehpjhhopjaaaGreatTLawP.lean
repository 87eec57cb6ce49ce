/-
 free.Is, walked.
 The station may run.
 The law's state, walked.
 law 25's alive, walked.
 What layer 25's statements say, in plain words.
-/
import Derived.Test.YtbiehpjhhopjaaaGreatTFreeD
import Derived.Test.YtbiehpjhhopjaaaGreatTRwH
import Derived.Test.YtbiehpjhhopjaaaGreatTLawA
import Derived.Test.YtbiehpjhhopjaaaGreatTSameWalk
set_option linter.unusedVariables false
set_option linter.unusedSimpArgs false
namespace Go.Proofs.YtbiehpjhhopjaaaGreat
open Go.RowKit Go.Maps Go.Sort
def isFree (p : Pl) (st : St) (x : Ar) : Bool := decide (ofErr p st = 0) && sameA (oddA p st x) zAr
theorem normI_len (l : List Int) : (normI l).length ≤ l.length := by
 unfold normI
 exact Nat.le_trans (Lib.compact_length_le _) (by rw [sortI_len]; exact Nat.le_refl _)
theorem odd_mid {p : Pl} {st : St} {x : Ar} (h : x.mid) : (oddA p st x).mid := by
 unfold oddA
 split
 ·have k : ∀ (l : List Int) (pr : Int → Bool), l.length ≤ 1000 → (normI (l.filter pr)).length ≤ 1000 := fun l pr hl => Nat.le_trans (normI_len _) (Nat.le_trans (List.length_filter_le _ _) hl)
  exact ⟨k _ _ h.1, k _ _ h.2.1, k _ _ h.2.2.1, k _ _ h.2.2.2⟩
 ·exact ⟨by decide, by decide, by decide, by decide⟩
def IsPost (w : World) (b : Bool) (n : Int) (e : Ending) (w' : World) : Prop := e = .returned (.tuple #[.bool b, .int .i64 n]) ∧ Below w.heap.size w w'
set_option maxRecDepth 100000 in
set_option maxHeartbeats 8000000 in
theorem is_any (p : Pl) (st : St) (x : Ar) (s q gg rr t sw lk : Value) (u1 u2 u3 u4 : Value) (w : World) (hp : PlM w s q gg rr p) (hf : p.Fit) (hs : StM w t sw lk st) (hsf : st.fit) (hx : AL w u1 u2 u3 u4 x) (hxs : x.mid) :
  Calls Tryz.prog 36 #[plV p s q gg rr, stV t sw lk, .agg #[u1, u2, u3, u4]] w (IsPost w (isFree p st x) (ofErr p st)) := by
 have HOD : Hid (∀ w', Below w.heap.size w w' → Calls Tryz.prog 38 #[plV p s q gg rr, stV t sw lk, .agg #[u1, u2, u3, u4]] w' (OddPost w' (oddA p st x) (ofErr p st))) := fun w' hb => odd_any p st x s q gg rr t sw lk u1 u2 u3 u4 w' (hp.below hb) hf (hs.below hb) hsf (hx.below hb) hxs
 have HSM := Lib.hid (odd_mid (p := p) (st := st) hxs)
 have HE : Hid (isFree p st x = (decide (ofErr p st = 0) && sameA (oddA p st x) zAr)) := rfl
 obtain ⟨e1, f1, rfl, -⟩ := hx.s.at_
 obtain ⟨e2, f2, rfl, -⟩ := hx.p.at_
 obtain ⟨e3, f3, rfl, -⟩ := hx.g.at_
 obtain ⟨e4, f4, rfl, -⟩ := hx.r.at_
 obtain ⟨a1, c1, rfl, -⟩ := hp.secs
 obtain ⟨a2, c2, rfl, -⟩ := hp.pts
 obtain ⟨a3, c3, rfl, -⟩ := hp.sigs
 obtain ⟨a4, c4, rfl, -⟩ := hp.rts
 obtain ⟨b1, d1, rfl, -⟩ := hs.tks
 obtain ⟨b2, d2, rfl, -⟩ := hs.sws
 obtain ⟨b3, d3, rfl, -⟩ := hs.lks
 clear hp hf hs hsf hx hxs
 generalize isFree p st x = R at *
 generalize ofErr p st = E at *
 generalize oddA p st x = OA at *
 unfold plV stV at *
 go_enter Tryz.func36, Tryz.ntmps36
 go_upto_region 1 with fail
 generalize hW0 : World.alloc _ _ = W0
 have K0 : Hid (Below w.heap.size w W0) := by show Below _ _ _; rw [← hW0]; exact (((Below.refl _ _).alloc (Nat.le_refl _) _).alloc (by simp) _).alloc (by simp <;> omega) _
 have hbP : W0.heap[w.heap.size]? = some (.cells #[.int .i64 p.ver, .int .i64 p.par, .slice a1 p.secs.length c1, .slice a2 p.pts.length c2, .slice a3 p.sigs.length c3, .slice a4 p.rts.length c4] 28 (0, 0)) := by
  rw [← hW0]; exact (heap_alloc_old _ _ (by simp <;> omega)).trans ((heap_alloc_old _ _ (by simp)).trans (heap_alloc_new _ _))
 have hbS : W0.heap[w.heap.size + 1]? = some (.cells #[.slice b1 st.tks.length d1, .slice b2 st.sws.length d2, .slice b3 st.lks.length d3] 33 (0, 0)) := by
  rw [← hW0]; exact (heap_alloc_old _ _ (by simp)).trans (heap_alloc2_new _ _ _)
 have hbA : W0.heap[w.heap.size + 1 + 1]? = some (.cells #[.slice e1 x.s.length f1, .slice e2 x.p.length f2, .slice e3 x.g.length f3, .slice e4 x.r.length f4] 56 (0, 0)) := by
  rw [← hW0]
  have := heap_alloc2_new (w.alloc (.cells #[.int .i64 p.ver, .int .i64 p.par, .slice a1 p.secs.length c1, .slice a2 p.pts.length c2, .slice a3 p.sigs.length c3, .slice a4 p.rts.length c4] 28)) (.cells #[.slice b1 st.tks.length d1, .slice b2 st.sws.length d2, .slice b3 st.lks.length d3] 33) (.cells #[.slice e1 x.s.length f1, .slice e2 x.p.length f2, .slice e3 x.g.length f3, .slice e4 x.r.length f4] 56)
  simpa using this
 obtain ⟨pp0, pp1, pp2, pp3, pp4, pp5⟩ := cells6 hbP
 obtain ⟨ss0, ss1, ss2⟩ := cells3 hbS
 obtain ⟨aa0, aa1, aa2, aa3⟩ := cells4 hbA
 clear hW0 hbP hbS hbA
 have HC := Lib.hid (HOD.out W0 K0.out)
 clear HOD
 go_wp2_with fail
 refine HC.out.mono ?_
 rintro e w1 ⟨v1, v2, v3, v4, rfl, hal, hb1⟩
 have K1 : Hid (Below w.heap.size w w1) := K0.out.trans (hb1.mono K0.out.size)
 obtain ⟨g1, m1, rfl, -⟩ := hal.s.at_
 obtain ⟨g2, m2, rfl, -⟩ := hal.p.at_
 obtain ⟨g3, m3, rfl, -⟩ := hal.g.at_
 obtain ⟨g4, m4, rfl, -⟩ := hal.r.at_
 have HAL := Lib.hid hal
 clear hb1 HC pp0 pp1 pp2 pp3 pp4 pp5 ss0 ss1 ss2 aa0 aa1 aa2 aa3 hal
 by_cases hE : E = 0
 ·subst hE
  have HB2 : Hid (Below w1.heap.size w1 (w1.alloc (.cells #[.slice g1 OA.s.length m1, .slice g2 OA.p.length m2, .slice g3 OA.g.length m3, .slice g4 OA.r.length m4] 56))) := (Below.refl _ _).alloc (Nat.le_refl _) _
  have HSA := Lib.hid (same_mid _ _ _ _ (.slice none 0 0) (.slice none 0 0) (.slice none 0 0) (.slice none 0 0) OA zAr _ (HAL.out.below HB2.out) ⟨ILv.nil _, ILv.nil _, ILv.nil _, ILv.nil _⟩ HSM.out ⟨by decide, by decide, by decide, by decide⟩)
  go_wp2_with fail
  refine HSA.out.mono ?_
  rintro e w2 ⟨rfl, hb2⟩
  have K2 : Hid (Below w.heap.size w w2) := (K1.out.trans (HB2.out.mono K1.out.size)).trans (hb2.mono (K1.out.trans (HB2.out.mono K1.out.size)).size)
  clear hb2 HSA
  go_wp2_with fail
  exact bodyPost_ret (v := .tuple #[.bool (sameA OA zAr), .int .i64 0]) (by simp [results, Tryz.f36, go_sem]) rfl ⟨by rw [HE.out]; simp, K2.out⟩
 ·have hd : decide (E = 0) = false := decide_eq_false hE
  go_wp2_with fail
  exact bodyPost_ret (v := .tuple #[.bool false, .int .i64 E]) (by simp [results, Tryz.f36, go_sem, hE]) rfl ⟨by rw [HE.out, hd]; rfl, K1.out.alloc K1.out.size _⟩
end Go.Proofs.YtbiehpjhhopjaaaGreat
namespace Go.Proofs.YtbiehpjhhopjaaaGreat
open Go.RowKit
end Go.Proofs.YtbiehpjhhopjaaaGreat
namespace Go.Proofs.YtbiehpjhhopjaaaGreat
open Go.RowKit
end Go.Proofs.YtbiehpjhhopjaaaGreat
namespace Go.Proofs.YtbiehpjhhopjaaaGreat
open Go.RowKit
structure R43 (w0 : World) (SV : Value) (L : List Int) (B : Bool) (n : Int) (f0 f1 f2 f3 f4 f5 f6 f7 f8 f9 : Bool) (s0 s1 s2 s3 s4 s5 s6 s7 s8 s9 : Value) (W : World) : Prop where
 bel : Below w0.heap.size w0 W
 h0 : f0 = true → ∃ a1 c1 a2 c2 a3 c3 a4 c4, s0 = plV stn (.slice a1 stn.secs.length c1) (.slice a2 stn.pts.length c2) (.slice a3 stn.sigs.length c3) (.slice a4 stn.rts.length c4) ∧ PlM W (.slice a1 stn.secs.length c1) (.slice a2 stn.pts.length c2) (.slice a3 stn.sigs.length c3) (.slice a4 stn.rts.length c4) stn
 h1 : f1 = true → s1 = SV
 h2 : f2 = true → ∃ b, s2 = .slice (some ⟨b, 0, none⟩) L.length L.length ∧ IL W (some ⟨b, 0, none⟩) L.length L
 h3 : f3 = true → ∃ b, s3 = .agg #[.slice (some ⟨b, 0, none⟩) L.length L.length, .slice none 0 0, .slice none 0 0, .slice none 0 0] ∧ IL W (some ⟨b, 0, none⟩) L.length L
 h4 : f4 = true → s4 = .tuple #[.bool B, .int .i64 n]
 h5 : f5 = true → s5 = .tuple #[.bool B, .int .i64 n]
 h6 : f6 = true → s6 = .bool B
 h7 : f7 = true → s7 = .int .i64 n
 h8 : f8 = true → s8 = .bool B
 h9 : f9 = true → s9 = .int .i64 n
theorem R43.below {w0 : World} {SV : Value} {L : List Int} {B : Bool} {n : Int} {f0 f1 f2 f3 f4 f5 f6 f7 f8 f9 : Bool} {s0 s1 s2 s3 s4 s5 s6 s7 s8 s9 : Value} {W W' : World} (h : R43 w0 SV L B n f0 f1 f2 f3 f4 f5 f6 f7 f8 f9 s0 s1 s2 s3 s4 s5 s6 s7 s8 s9 W) (hb : Below W.heap.size W W') : R43 w0 SV L B n f0 f1 f2 f3 f4 f5 f6 f7 f8 f9 s0 s1 s2 s3 s4 s5 s6 s7 s8 s9 W' :=
 { h with
  bel := h.bel.trans (hb.mono h.bel.size)
  h0 := fun k => by
   obtain ⟨a1, c1, a2, c2, a3, c3, a4, c4, e, hp⟩ := h.h0 k
   exact ⟨a1, c1, a2, c2, a3, c3, a4, c4, e, hp.below hb⟩
  h2 := fun k => by
   obtain ⟨b, e, hi⟩ := h.h2 k
   exact ⟨b, e, hi.below hb⟩
  h3 := fun k => by
   obtain ⟨b, e, hi⟩ := h.h3 k
   exact ⟨b, e, hi.below hb⟩ }
end Go.Proofs.YtbiehpjhhopjaaaGreat
namespace Go.Proofs.YtbiehpjhhopjaaaGreat
open Go.RowKit
theorem mem_sortI (l : List Int) (a : Int) : a ∈ sortI l ↔ a ∈ l := (List.mergeSort_perm l _).mem_iff
theorem mem_upTo (d : Array Int) (a : Int) : ∀ m : Nat, a ∈ Lib.compactUpTo d m ↔ ∃ j, j < m ∧ d[j]! = a
 | 0 => by simp [Lib.compactUpTo]
 | m + 1 => by
  rw [Lib.compactUpTo_succ, List.mem_append, mem_upTo d a m]
  constructor
  ·rintro (⟨j, hj, e⟩ | h)
   ·exact ⟨j, by omega, e⟩
   ·split at h
    ·rw [List.mem_singleton] at h; exact ⟨m, by omega, h.symm⟩
    ·simp at h
  ·rintro ⟨j, hj, e⟩
   by_cases hjm : j < m
   ·exact .inl ⟨j, hjm, e⟩
   ·obtain rfl : j = m := by omega
    cases hk : Lib.keeps d j with
    | true => right; simp [e]
    | false =>
     left
     unfold Lib.keeps at hk
     rw [decide_eq_false_iff_not, not_or, Classical.not_not] at hk
     exact ⟨j - 1, by omega, by rw [← hk.2]; exact e⟩
theorem mem_compact (l : List Int) (a : Int) : a ∈ Lib.compact l ↔ a ∈ l := by
 unfold Lib.compact
 rw [mem_upTo]
 constructor
 ·rintro ⟨j, hj, e⟩
  have h1 : l.toArray[j]! = l[j] := by simp [hj]
  rw [h1] at e
  subst e
  exact List.getElem_mem hj
 ·intro h
  obtain ⟨j, hj, e⟩ := List.getElem_of_mem h
  exact ⟨j, hj, by simp [hj, e]⟩
theorem mem_normI (l : List Int) (a : Int) : a ∈ normI l ↔ a ∈ l := by unfold normI; rw [mem_compact, mem_sortI]
end Go.Proofs.YtbiehpjhhopjaaaGreat
