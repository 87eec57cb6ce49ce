/-
  The station may run.
  The law's state, walked.
  law 25's alive, walked.
-/
import Derived.Test.YtbiehpjhhopjaaaGreatAtA
import Derived.Test.YtbiehpjhhopjaaaGreatLawA
import Derived.Test.YtbiehpjhhopjaaaGreatFreeE
import Derived.Test.YtbiehpjhhopjaaaGreatAreaWalk
set_option linter.unusedVariables false
namespace Go.Proofs.YtbiehpjhhopjaaaGreat
open Go.RowKit
set_option maxRecDepth 100000 in
theorem stn_sound : PlanSound stn := of_decide_eq_true (by kernel_rfl)
theorem stn_fit : stn.Fit := ⟨by decide, by decide, by decide, by decide, by decide, fun i hi => by
  rcases i with _ | _ | _ | i
  · unfold Rt.fit; simp [stn]
  · unfold Rt.fit; simp [stn]
  · unfold Rt.fit; simp [stn]
  · exact absurd hi (by simp [stn])⟩
/-- the law's state: all occupied but section 2 -/
def stn1 : St := ⟨[⟨1, 2⟩, ⟨2, 0⟩, ⟨3, 2⟩, ⟨4, 2⟩, ⟨5, 2⟩, ⟨6, 2⟩], [⟨2, 0, 0⟩, ⟨5, 0, 0⟩], [⟨1, 0, 0, 0⟩, ⟨3, 0, 0, 0⟩, ⟨6, 0, 0, 0⟩]⟩
set_option maxRecDepth 100000 in
theorem stn1_err : ofErr stn stn1 = 0 := by kernel_rfl
set_option maxRecDepth 100000 in
theorem alive_1 : isFree stn stn1 ⟨[2], [], [], []⟩ = true := by kernel_rfl
set_option maxRecDepth 100000 in
theorem alive_2 : isFree stn stn1 ⟨[2, 3], [], [], []⟩ = false := by kernel_rfl
end Go.Proofs.YtbiehpjhhopjaaaGreat
set_option linter.unusedVariables false
set_option linter.unusedSimpArgs false
namespace Go.Proofs.YtbiehpjhhopjaaaGreat
open Go.RowKit
theorem grown_set (W : World) (g i : Nat) (u : Value) : W.grownBy (W.setCell ⟨g, i, none⟩ u) (some g) :=
  ⟨rfl, rfl, rfl, by simp [World.setCell], fun k _ h => Below.heap_setCell W _ u k (fun e => h (by rw [e]))⟩
/-- one cell of a row of one's own is set -/
theorem own_put {W : World} {base g n cap sz : Nat} {e : TypeId} {xs : List Value} (h : W.ownsRow base e sz (.slice (some ⟨g, 0, none⟩) n cap) n xs) {i : Nat} (hi : i < xs.length) (u : Value) :
    (W.setCell ⟨g, i, none⟩ u).ownsRow base e sz (.slice (some ⟨g, 0, none⟩) n cap) n (xs.set i u) := by
  refine ⟨by rw [List.length_set]; exact h.1, ?_⟩
  rcases h.2 with ⟨h1, _⟩ | ⟨g', cap', cur, he, hbg, hgb, r1, r2, r3, r4⟩
  · cases h1
  · cases he
    refine .inr ⟨g, cap, cur.setIfInBounds i u, rfl, hbg, by simp [World.setCell, Array.getElem?_modify, hgb], r1, r2, by simp [r3], ?_⟩
    rw [← r4, Array.toList_setIfInBounds, List.take_set]
theorem StOwn.setTk {W : World} {N g n cap : Nat} {s l : Value} {x : St} (h : StOwn W N (.slice (some ⟨g, 0, none⟩) n cap) s l x) {i : Nat} (hi : i < (x.tks.flatMap tkC).length) (u : Value) (y : List Tk) (hy : y.length = x.tks.length) (hyc : y.flatMap tkC = (x.tks.flatMap tkC).set i u) (hn : n = x.tks.length) :
    StOwn (W.setCell ⟨g, i, none⟩ u) N (.slice (some ⟨g, 0, none⟩) n cap) s l ⟨y, x.sws, x.lks⟩ := by
  subst hn
  refine ⟨?_, h.sws.kept (grown_set W g i u) ?_, h.lks.kept (grown_set W g i u) ?_⟩
  · show World.ownsRow _ _ _ _ _ y.length (y.flatMap tkC)
    rw [hy, hyc]
    exact own_put h.tks hi u
  · rcases own_apart h.sws h.tks (by decide) with h | h
    · exact .inl h
    · exact .inr h
  · rcases own_apart h.lks h.tks (by decide) with h | h
    · exact .inl h
    · exact .inr h
theorem atSt_stn : atSt stn = ⟨[⟨1, 2⟩, ⟨2, 2⟩, ⟨3, 2⟩, ⟨4, 2⟩, ⟨5, 2⟩, ⟨6, 2⟩], [⟨2, 0, 0⟩, ⟨5, 0, 0⟩], [⟨1, 0, 0, 0⟩, ⟨3, 0, 0, 0⟩, ⟨6, 0, 0, 0⟩]⟩ := rfl
def OnePost (w : World) (e : Ending) (w' : World) : Prop := Below w.heap.size w w' ∧ ∃ t s l, e = .returned (.tuple #[.agg #[t, s, l], .bool true]) ∧ StOwn w' w.heap.size t s l stn1
set_option maxRecDepth 100000 in
set_option maxHeartbeats 8000000 in
theorem one_any (w : World) : Calls Tryz.prog 41 #[] w (OnePost w) := by
  go_enter Tryz.func41, Tryz.ntmps41
  go_upto_region 1 with fail
  generalize hW0 : World.alloc _ _ = W0
  have hb0 : Below w.heap.size w W0 := by rw [← hW0]; exact (Below.refl _ _).alloc (Nat.le_refl _) _
  have hq0 : W0.heap[w.heap.size]? = some (.cells #[.slice none 0 0, .slice none 0 0, .slice none 0 0] 33 (0, 0)) := by rw [← hW0]; exact heap_alloc_new _ _
  have K0 := Lib.hid hb0
  have HQ0 := Lib.hid hq0
  clear hW0 hb0 hq0
  go_wp2_with fail
  refine (station_any W0).mono ?_
  rintro e w1 ⟨s, q, gg, rr, rfl, hpm, hb1⟩
  have K1 : Hid (Below w.heap.size w w1) := K0.out.trans (hb1.mono K0.out.size)
  have HQ1 := Lib.hid ((hb1.block _ (lt_of_block HQ0.out)).trans HQ0.out)
  have HAT := Lib.hid (at_any stn s q gg rr w1 hpm stn_fit)
  clear hpm hb1
  unfold plV at *
  go_wp2_with fail
  refine HAT.out.mono ?_
  rintro e w2 ⟨hb2, hor⟩
  rcases hor with ⟨hno, _⟩ | ⟨_, t, s', l, rfl, hown⟩
  · exact absurd stn_sound hno
  have K2 : Hid (Below w.heap.size w w2) := K1.out.trans (hb2.mono K1.out.size)
  have HQ2 := Lib.hid ((hb2.block _ (lt_of_block HQ1.out)).trans HQ1.out)
  rw [atSt_stn] at hown
  obtain ⟨g1, m1, rfl⟩ := own_slice hown.sws
  obtain ⟨g2, m2, rfl⟩ := own_slice hown.lks
  rcases hown.tks.2 with ⟨_, h0⟩ | ⟨g, cap, cur, rfl, hbg, hgb, r1, r2, r3, r4⟩
  · cases h0
  have HOW := Lib.hid hown
  have hgw : w.heap.size < w1.heap.size := lt_of_block HQ1.out
  clear hown hb2 HAT
  have lg := lt_of_block hgb
  have f0 : w2.frozen? ⟨g, 3, none⟩ = false := by simp [World.frozen?, hgb]
  have hq3 : w2.cell? ⟨g, 3, none⟩ = some (.int .u8 2) := by
    have := HOW.out.tks.cells (g := g) rfl 3 _ rfl
    rwa [add_lit0] at this
  have lw := lt_of_block HQ2.out
  have fq : ∀ o, w2.frozen? ⟨w.heap.size, o, none⟩ = false := fun o => by simp [World.frozen?, HQ2.out]
  have hc0 : w2.cell? ⟨w.heap.size, 0, none⟩ = some (.slice none 0 0) := (cell_of_row w2 _ 0 _ _ _ HQ2.out).trans rfl
  have hc1 : w2.cell? ⟨w.heap.size, 1, none⟩ = some (.slice none 0 0) := (cell_of_row w2 _ 1 _ _ _ HQ2.out).trans rfl
  have hc2 : w2.cell? ⟨w.heap.size, 2, none⟩ = some (.slice none 0 0) := (cell_of_row w2 _ 2 _ _ _ HQ2.out).trans rfl
  have f1 := fq 0
  have f2 := fq 1
  have f3 := fq 2
  clear hgb r3 r4 fq
  go_wp2_with fail
  have own1 := HOW.out.setTk (i := 3) (by simp [tkC]) (.int .u8 0) stn1.tks rfl rfl rfl
  have own2 := ((own1.setCell (a := ⟨w.heap.size, 0, none⟩) hgw (.slice (some ⟨g, 0, none⟩) 6 cap)).setCell (a := ⟨w.heap.size, 1, none⟩) hgw (.slice g1 2 m1)).setCell (a := ⟨w.heap.size, 2, none⟩) hgw (.slice g2 3 m2)
  generalize hWE : (((w2.setCell ⟨g, 3, none⟩ (.int .u8 0)).setCell ⟨w.heap.size, 0, none⟩ (.slice (some ⟨g, 0, none⟩) 6 cap)).setCell ⟨w.heap.size, 1, none⟩ (.slice g1 2 m1)).setCell ⟨w.heap.size, 2, none⟩ (.slice g2 3 m2) = WE at *
  have hne : g ≠ w.heap.size := by omega
  have hqe : WE.heap[w.heap.size]? = some (.cells #[.slice (some ⟨g, 0, none⟩) 6 cap, .slice g1 2 m1, .slice g2 3 m2] 33 (0, 0)) := by
    rw [← hWE]
    simp [World.setCell, Array.getElem?_modify, HQ2.out, hne]
  have hbe : Below w.heap.size w WE := by
    rw [← hWE]
    exact (((K2.out.setCell (by show w.heap.size ≤ g; omega) _).setCell (Nat.le_refl _) _).setCell (Nat.le_refl _) _).setCell (Nat.le_refl _) _
  have e0 : WE.cell? ⟨w.heap.size, 0, none⟩ = some (.slice (some ⟨g, 0, none⟩) 6 cap) := (cell_of_row WE _ 0 _ _ _ hqe).trans rfl
  have e1 : WE.cell? ⟨w.heap.size, 1, none⟩ = some (.slice g1 2 m1) := (cell_of_row WE _ 1 _ _ _ hqe).trans rfl
  have e2 : WE.cell? ⟨w.heap.size, 2, none⟩ = some (.slice g2 3 m2) := (cell_of_row WE _ 2 _ _ _ hqe).trans rfl
  have le := lt_of_block hqe
  have own3 := (own2.below ((Below.refl WE.heap.size WE).alloc (Nat.le_refl _) (.cells #[.slice (some ⟨g, 0, none⟩) 6 cap, .slice g1 2 m1, .slice g2 3 m2] 33))).base K1.out.size
  clear hWE
  exact bodyPost_ret (v := .tuple #[.agg #[.slice (some ⟨g, 0, none⟩) 6 cap, .slice g1 2 m1, .slice g2 3 m2], .bool true]) (by simp [results, Tryz.f41, go_sem, e0, e1, e2, le]) rfl ⟨hbe.alloc hbe.size _, _, _, _, rfl, own3⟩
end Go.Proofs.YtbiehpjhhopjaaaGreat
set_option linter.unusedVariables false
set_option linter.unusedSimpArgs false
namespace Go.Proofs.YtbiehpjhhopjaaaGreat
open Go.RowKit
theorem stn1_fit : stn1.fit := ⟨by decide, by decide, by decide⟩
/-- where a region that asks Is stands -/
structure R43 (w0 : World) (SV : Value) (L : List Int) (B : Bool) (n : Int) (f0 f1 f2 f3 f4 f5 f6 f7 f8 f9 : Bool) (s0 s1 s2 s3 s4 s5 s6 s7 s8 s9 : Value) (W : World) : Prop where
  bel : Below w0.heap.size w0 W
  h0 : f0 = true → ∃ a1 c1 a2 c2 a3 c3 a4 c4, s0 = plV stn (.slice a1 stn.secs.length c1) (.slice a2 stn.pts.length c2) (.slice a3 stn.sigs.length c3) (.slice a4 stn.rts.length c4) ∧ PlM W (.slice a1 stn.secs.length c1) (.slice a2 stn.pts.length c2) (.slice a3 stn.sigs.length c3) (.slice a4 stn.rts.length c4) stn
  h1 : f1 = true → s1 = SV
  h2 : f2 = true → ∃ b, s2 = .slice (some ⟨b, 0, none⟩) L.length L.length ∧ IL W (some ⟨b, 0, none⟩) L.length L
  h3 : f3 = true → ∃ b, s3 = .agg #[.slice (some ⟨b, 0, none⟩) L.length L.length, .slice none 0 0, .slice none 0 0, .slice none 0 0] ∧ IL W (some ⟨b, 0, none⟩) L.length L
  h4 : f4 = true → s4 = .tuple #[.bool B, .int .i64 n]
  h5 : f5 = true → s5 = .tuple #[.bool B, .int .i64 n]
  h6 : f6 = true → s6 = .bool B
  h7 : f7 = true → s7 = .int .i64 n
  h8 : f8 = true → s8 = .bool B
  h9 : f9 = true → s9 = .int .i64 n
theorem R43.below {w0 : World} {SV : Value} {L : List Int} {B : Bool} {n : Int} {f0 f1 f2 f3 f4 f5 f6 f7 f8 f9 : Bool} {s0 s1 s2 s3 s4 s5 s6 s7 s8 s9 : Value} {W W' : World} (h : R43 w0 SV L B n f0 f1 f2 f3 f4 f5 f6 f7 f8 f9 s0 s1 s2 s3 s4 s5 s6 s7 s8 s9 W) (hb : Below W.heap.size W W') : R43 w0 SV L B n f0 f1 f2 f3 f4 f5 f6 f7 f8 f9 s0 s1 s2 s3 s4 s5 s6 s7 s8 s9 W' :=
  { h with
    bel := h.bel.trans (hb.mono h.bel.size)
    h0 := fun k => by
      obtain ⟨a1, c1, a2, c2, a3, c3, a4, c4, e, hp⟩ := h.h0 k
      exact ⟨a1, c1, a2, c2, a3, c3, a4, c4, e, hp.below hb⟩
    h2 := fun k => by
      obtain ⟨b, e, hi⟩ := h.h2 k
      exact ⟨b, e, hi.below hb⟩
    h3 := fun k => by
      obtain ⟨b, e, hi⟩ := h.h3 k
      exact ⟨b, e, hi.below hb⟩ }
set_option maxRecDepth 100000 in
set_option maxHeartbeats 8000000 in
theorem alive_any (w : World) : Calls Tryz.prog 43 #[] w (BoolPost w true) := by
  go_enter Tryz.func43, Tryz.ntmps43
  go_wp2_with fail
  refine (one_any w).mono ?_
  rintro e w1 ⟨hb1, t, s, l, rfl, hown⟩
  obtain ⟨g0, m0, rfl⟩ := own_slice hown.tks
  obtain ⟨g1, m1, rfl⟩ := own_slice hown.sws
  obtain ⟨g2, m2, rfl⟩ := own_slice hown.lks
  have HSM := Lib.hid hown.stM
  have K1 := Lib.hid hb1
  clear hown hb1
  go_upto_region 2 with fail
  generalize hW2 : w1.alloc (.cells #[.slice g0 stn1.tks.length m0, .slice g1 stn1.sws.length m1, .slice g2 stn1.lks.length m2] 33) = W2
  have hb2 : Below w1.heap.size w1 W2 := by rw [← hW2]; exact (Below.refl _ _).alloc (Nat.le_refl _) _
  have HST : Hid (W2.heap[w1.heap.size]? = some (.cells #[.slice g0 stn1.tks.length m0, .slice g1 stn1.sws.length m1, .slice g2 stn1.lks.length m2] 33 (0, 0))) := by show _ = _; rw [← hW2]; exact heap_alloc_new _ _
  have K0 := Lib.hid hb2
  have KZ : Hid (Below w.heap.size w W2) := K1.out.trans (hb2.mono K1.out.size)
  clear hW2 hb2
  refine wp_region_inv' (by kernel_rfl) (by kernel_rfl) (fun f a W9 => ∃ s12 s13 s14 s15 s16 s11 s17 s18 s3 s4 : Value, a = { tmps := #[.bool false, .pointer (some ⟨w1.heap.size, 0, none⟩), .bool true, s3, s4, undef, undef, .tuple #[.agg #[.slice g0 stn1.tks.length m0, .slice g1 stn1.sws.length m1, .slice g2 stn1.lks.length m2], .bool true], .tuple #[.agg #[.slice g0 stn1.tks.length m0, .slice g1 stn1.sws.length m1, .slice g2 stn1.lks.length m2], .bool true], .agg #[.slice g0 stn1.tks.length m0, .slice g1 stn1.sws.length m1, .slice g2 stn1.lks.length m2], .bool true, s11, s12, s13, s14, s15, s16, s17, s18, undef, undef, undef, undef, undef, undef, undef, undef, undef, undef, undef, undef, undef, undef, undef, undef, undef, undef, undef, undef, undef, undef, undef, undef], defers := [] } ∧ R43 W2 (.agg #[.slice g0 stn1.tks.length m0, .slice g1 stn1.sws.length m1, .slice g2 stn1.lks.length m2]) [2] true 0 (f 0) (f 1) (f 2) (f 3) (f 4) (f 5) (f 6) (f 7) (f 8) (f 9) s12 s13 s14 s15 s16 s11 s17 s18 s3 s4 W9) ?_ ?_ ?_
  · exact ⟨_, _, _, _, _, _, _, _, _, _, rfl, { bel := ⟨rfl, rfl, rfl, Nat.le_refl _, fun _ _ => rfl⟩, h0 := by simp, h1 := by simp, h2 := by simp, h3 := by simp, h4 := by simp, h5 := by simp, h6 := by simp, h7 := by simp, h8 := by simp, h9 := by simp }⟩
  · intro i o ho f a W9 hI hd hun
    obtain ⟨s12, s13, s14, s15, s16, s11, s17, s18, s3, s4, rfl, hS⟩ := hI
    have q9 := (hS.bel.block _ (lt_of_block HST.out)).trans HST.out
    have KW : Below w.heap.size w W9 := KZ.out.trans (hS.bel.mono KZ.out.size)
    rcases i with _ | _ | _ | _ | _ | _ | _ | _ | _ | _ | i
    · simp at ho
      subst ho
      simp [wpOp, go_sem]
      refine .inl ((station_any W9).mono ?_)
      rintro e w' ⟨s', q', gg', rr', rfl, hpm, hb⟩
      obtain ⟨a1, c1, rfl, -⟩ := hpm.secs
      obtain ⟨a2, c2, rfl, -⟩ := hpm.pts
      obtain ⟨a3, c3, rfl, -⟩ := hpm.sigs
      obtain ⟨a4, c4, rfl, -⟩ := hpm.rts
      simp [go_sem]
      exact ⟨_, _, _, _, _, _, _, _, _, _, ⟨rfl, rfl, rfl, rfl, rfl, rfl, rfl, rfl, rfl, rfl⟩, { R43.below hS hb with h0 := fun _ => ⟨_, _, _, _, _, _, _, _, rfl, hpm⟩ }⟩
    · simp at ho
      subst ho
      have cc0 : W9.cell? ⟨w1.heap.size, 0, none⟩ = some (.slice g0 stn1.tks.length m0) := (cell_of_row W9 _ 0 _ _ _ q9).trans rfl
      have cc1 : W9.cell? ⟨w1.heap.size, 1, none⟩ = some (.slice g1 stn1.sws.length m1) := (cell_of_row W9 _ 1 _ _ _ q9).trans rfl
      have cc2 : W9.cell? ⟨w1.heap.size, 2, none⟩ = some (.slice g2 stn1.lks.length m2) := (cell_of_row W9 _ 2 _ _ _ q9).trans rfl
      simp [wpOp, go_sem, cc0, cc1, cc2]
      exact .inl ⟨_, _, _, _, _, _, _, _, _, _, ⟨rfl, rfl, rfl, rfl, rfl, rfl, rfl, rfl, rfl, rfl⟩, { hS with h1 := fun _ => rfl }⟩
    · simp at ho
      subst ho
      have hb : Below W9.heap.size W9 (W9.alloc (.cells #[.int .i64 2] 3)) := (Below.refl _ _).alloc (Nat.le_refl _) _
      have hil : IL (W9.alloc (.cells #[.int .i64 2] 3)) (some ⟨W9.heap.size, 0, none⟩) ([2] : List Int).length [2] := IL.mk_row (heap_alloc_new _ _) rfl
      simp [wpOp, go_sem]
      exact .inl ⟨_, _, _, _, _, _, _, _, _, _, ⟨rfl, rfl, rfl, rfl, rfl, rfl, rfl, rfl, rfl, rfl⟩, { R43.below hS hb with h2 := fun _ => ⟨_, rfl, hil⟩ }⟩
    · simp at ho
      subst ho
      obtain ⟨b, rfl, hil⟩ := hS.h2 (hd ⟨2, .data⟩ (by simp) (by rfl))
      simp [wpOp, go_sem]
      exact .inl ⟨_, _, _, _, _, _, _, _, _, _, ⟨rfl, rfl, rfl, rfl, rfl, rfl, rfl, rfl, rfl, rfl⟩, { hS with h3 := fun _ => ⟨_, rfl, hil⟩ }⟩
    · simp at ho
      subst ho
      obtain ⟨a1, c1, a2, c2, a3, c3, a4, c4, rfl, hpm⟩ := hS.h0 (hd ⟨0, .data⟩ (by simp) (by rfl))
      obtain rfl := hS.h1 (hd ⟨1, .data⟩ (by simp) (by rfl))
      obtain ⟨b, rfl, hil⟩ := hS.h3 (hd ⟨3, .data⟩ (by simp) (by rfl))
      have hc := is_any stn stn1 ⟨[2], [], [], []⟩ _ _ _ _ _ _ _ _ _ _ _ W9 hpm stn_fit ((HSM.out.below K0.out).below (hS.bel.mono (Nat.le_refl _))) stn1_fit (⟨(⟨_, _, _, rfl, hil⟩ : ILv W9 (.slice (some ⟨b, 0, none⟩) ([2] : List Int).length ([2] : List Int).length) [2]), ILv.nil _, ILv.nil _, ILv.nil _⟩ : AL W9 (.slice (some ⟨b, 0, none⟩) ([2] : List Int).length ([2] : List Int).length) (.slice none 0 0) (.slice none 0 0) (.slice none 0 0) ⟨[2], [], [], []⟩) (by decide)
      rw [stn1_err] at hc
      rw [show isFree stn stn1 ⟨[2], [], [], []⟩ = true from by kernel_rfl] at hc
      simp [wpOp, go_sem]
      refine .inl (hc.mono ?_)
      rintro e w' ⟨rfl, hb⟩
      simp [go_sem]
      exact ⟨_, _, _, _, _, _, _, _, _, _, ⟨rfl, rfl, rfl, rfl, rfl, rfl, rfl, rfl, rfl, rfl⟩, { R43.below hS hb with h4 := fun _ => rfl }⟩
    · simp at ho
      subst ho
      obtain rfl := hS.h4 (hd ⟨4, .data⟩ (by simp) (by rfl))
      simp [wpOp, go_sem]
      exact .inl ⟨_, _, _, _, _, _, _, _, _, _, ⟨rfl, rfl, rfl, rfl, rfl, rfl, rfl, rfl, rfl, rfl⟩, { hS with h5 := fun _ => rfl }⟩
    · simp at ho
      subst ho
      obtain rfl := hS.h5 (hd ⟨5, .data⟩ (by simp) (by rfl))
      simp [wpOp, go_sem]
      exact .inl ⟨_, _, _, _, _, _, _, _, _, _, ⟨rfl, rfl, rfl, rfl, rfl, rfl, rfl, rfl, rfl, rfl⟩, { hS with h6 := fun _ => rfl }⟩
    · simp at ho
      subst ho
      obtain rfl := hS.h5 (hd ⟨5, .data⟩ (by simp) (by rfl))
      simp [wpOp, go_sem]
      exact .inl ⟨_, _, _, _, _, _, _, _, _, _, ⟨rfl, rfl, rfl, rfl, rfl, rfl, rfl, rfl, rfl, rfl⟩, { hS with h7 := fun _ => rfl }⟩
    · simp at ho
      subst ho
      obtain rfl := hS.h6 (hd ⟨6, .data⟩ (by simp) (by rfl))
      simp [wpOp, go_sem]
      exact .inl ⟨_, _, _, _, _, _, _, _, _, _, ⟨rfl, rfl, rfl, rfl, rfl, rfl, rfl, rfl, rfl, rfl⟩, { hS with h8 := fun _ => rfl }⟩
    · simp at ho
      subst ho
      obtain rfl := hS.h7 (hd ⟨7, .data⟩ (by simp) (by rfl))
      simp [wpOp, go_sem]
      exact .inl ⟨_, _, _, _, _, _, _, _, _, _, ⟨rfl, rfl, rfl, rfl, rfl, rfl, rfl, rfl, rfl, rfl⟩, { hS with h9 := fun _ => rfl }⟩
    · simp at ho
  · intro f a W9 hI hall
    obtain ⟨s12, s13, s14, s15, s16, s11, s17, s18, s3, s4, rfl, hS⟩ := hI
    obtain rfl := hS.h8 (hall 8 (by decide))
    obtain rfl := hS.h9 (hall 9 (by decide))
    have hb3 := hS.bel
    obtain ⟨W3, rfl⟩ : ∃ W3 : World, W3 = W9 := ⟨_, rfl⟩
    have K3 : Hid (Below w.heap.size w W3) := KZ.out.trans (hb3.mono KZ.out.size)
    have HST3 := Lib.hid ((hb3.block _ (lt_of_block HST.out)).trans HST.out)
    have K0' := Lib.hid (K0.out.trans (hb3.mono K0.out.size))
    have K2 := K3
    clear hS hall hb3
    go_upto_region 3 with fail
    refine wp_region_inv' (by kernel_rfl) (by kernel_rfl) (fun f a W9 => ∃ s20 s21 s22 s23 s24 s19 s25 s26 s5 s6 : Value, a = { tmps := #[.bool false, .pointer (some ⟨w1.heap.size, 0, none⟩), .bool true, .bool true, .int .i64 0, s5, s6, .tuple #[.agg #[.slice g0 stn1.tks.length m0, .slice g1 stn1.sws.length m1, .slice g2 stn1.lks.length m2], .bool true], .tuple #[.agg #[.slice g0 stn1.tks.length m0, .slice g1 stn1.sws.length m1, .slice g2 stn1.lks.length m2], .bool true], .agg #[.slice g0 stn1.tks.length m0, .slice g1 stn1.sws.length m1, .slice g2 stn1.lks.length m2], .bool true, s11, s12, s13, s14, s15, s16, s17, s18, s19, s20, s21, s22, s23, s24, s25, s26, undef, undef, undef, undef, undef, undef, undef, undef, undef, undef, undef, undef, undef, undef, undef, undef], defers := [] } ∧ R43 W3 (.agg #[.slice g0 stn1.tks.length m0, .slice g1 stn1.sws.length m1, .slice g2 stn1.lks.length m2]) [2, 3] false 0 (f 0) (f 1) (f 2) (f 3) (f 4) (f 5) (f 6) (f 7) (f 8) (f 9) s20 s21 s22 s23 s24 s19 s25 s26 s5 s6 W9) ?_ ?_ ?_
    · exact ⟨_, _, _, _, _, _, _, _, _, _, rfl, { bel := ⟨rfl, rfl, rfl, Nat.le_refl _, fun _ _ => rfl⟩, h0 := by simp, h1 := by simp, h2 := by simp, h3 := by simp, h4 := by simp, h5 := by simp, h6 := by simp, h7 := by simp, h8 := by simp, h9 := by simp }⟩
    · intro i o ho f a W9 hI hd hun
      obtain ⟨s20, s21, s22, s23, s24, s19, s25, s26, s5, s6, rfl, hS⟩ := hI
      have q9 := (hS.bel.block _ (lt_of_block HST3.out)).trans HST3.out
      have KW : Below w.heap.size w W9 := K3.out.trans (hS.bel.mono K3.out.size)
      rcases i with _ | _ | _ | _ | _ | _ | _ | _ | _ | _ | i
      · simp at ho
        subst ho
        simp [wpOp, go_sem]
        refine .inl ((station_any W9).mono ?_)
        rintro e w' ⟨s', q', gg', rr', rfl, hpm, hb⟩
        obtain ⟨a1, c1, rfl, -⟩ := hpm.secs
        obtain ⟨a2, c2, rfl, -⟩ := hpm.pts
        obtain ⟨a3, c3, rfl, -⟩ := hpm.sigs
        obtain ⟨a4, c4, rfl, -⟩ := hpm.rts
        simp [go_sem]
        exact ⟨_, _, _, _, _, _, _, _, _, _, ⟨rfl, rfl, rfl, rfl, rfl, rfl, rfl, rfl, rfl, rfl⟩, { R43.below hS hb with h0 := fun _ => ⟨_, _, _, _, _, _, _, _, rfl, hpm⟩ }⟩
      · simp at ho
        subst ho
        have cc0 : W9.cell? ⟨w1.heap.size, 0, none⟩ = some (.slice g0 stn1.tks.length m0) := (cell_of_row W9 _ 0 _ _ _ q9).trans rfl
        have cc1 : W9.cell? ⟨w1.heap.size, 1, none⟩ = some (.slice g1 stn1.sws.length m1) := (cell_of_row W9 _ 1 _ _ _ q9).trans rfl
        have cc2 : W9.cell? ⟨w1.heap.size, 2, none⟩ = some (.slice g2 stn1.lks.length m2) := (cell_of_row W9 _ 2 _ _ _ q9).trans rfl
        simp [wpOp, go_sem, cc0, cc1, cc2]
        exact .inl ⟨_, _, _, _, _, _, _, _, _, _, ⟨rfl, rfl, rfl, rfl, rfl, rfl, rfl, rfl, rfl, rfl⟩, { hS with h1 := fun _ => rfl }⟩
      · simp at ho
        subst ho
        have hb : Below W9.heap.size W9 (W9.alloc (.cells #[.int .i64 2, .int .i64 3] 3)) := (Below.refl _ _).alloc (Nat.le_refl _) _
        have hil : IL (W9.alloc (.cells #[.int .i64 2, .int .i64 3] 3)) (some ⟨W9.heap.size, 0, none⟩) ([2, 3] : List Int).length [2, 3] := IL.mk_row (heap_alloc_new _ _) rfl
        simp [wpOp, go_sem]
        exact .inl ⟨_, _, _, _, _, _, _, _, _, _, ⟨rfl, rfl, rfl, rfl, rfl, rfl, rfl, rfl, rfl, rfl⟩, { R43.below hS hb with h2 := fun _ => ⟨_, rfl, hil⟩ }⟩
      · simp at ho
        subst ho
        obtain ⟨b, rfl, hil⟩ := hS.h2 (hd ⟨2, .data⟩ (by simp) (by rfl))
        simp [wpOp, go_sem]
        exact .inl ⟨_, _, _, _, _, _, _, _, _, _, ⟨rfl, rfl, rfl, rfl, rfl, rfl, rfl, rfl, rfl, rfl⟩, { hS with h3 := fun _ => ⟨_, rfl, hil⟩ }⟩
      · simp at ho
        subst ho
        obtain ⟨a1, c1, a2, c2, a3, c3, a4, c4, rfl, hpm⟩ := hS.h0 (hd ⟨0, .data⟩ (by simp) (by rfl))
        obtain rfl := hS.h1 (hd ⟨1, .data⟩ (by simp) (by rfl))
        obtain ⟨b, rfl, hil⟩ := hS.h3 (hd ⟨3, .data⟩ (by simp) (by rfl))
        have hc := is_any stn stn1 ⟨[2, 3], [], [], []⟩ _ _ _ _ _ _ _ _ _ _ _ W9 hpm stn_fit ((HSM.out.below K0'.out).below (hS.bel.mono (Nat.le_refl _))) stn1_fit (⟨(⟨_, _, _, rfl, hil⟩ : ILv W9 (.slice (some ⟨b, 0, none⟩) ([2, 3] : List Int).length ([2, 3] : List Int).length) [2, 3]), ILv.nil _, ILv.nil _, ILv.nil _⟩ : AL W9 (.slice (some ⟨b, 0, none⟩) ([2, 3] : List Int).length ([2, 3] : List Int).length) (.slice none 0 0) (.slice none 0 0) (.slice none 0 0) ⟨[2, 3], [], [], []⟩) (by decide)
        rw [stn1_err] at hc
        rw [show isFree stn stn1 ⟨[2, 3], [], [], []⟩ = false from by kernel_rfl] at hc
        simp [wpOp, go_sem]
        refine .inl (hc.mono ?_)
        rintro e w' ⟨rfl, hb⟩
        simp [go_sem]
        exact ⟨_, _, _, _, _, _, _, _, _, _, ⟨rfl, rfl, rfl, rfl, rfl, rfl, rfl, rfl, rfl, rfl⟩, { R43.below hS hb with h4 := fun _ => rfl }⟩
      · simp at ho
        subst ho
        obtain rfl := hS.h4 (hd ⟨4, .data⟩ (by simp) (by rfl))
        simp [wpOp, go_sem]
        exact .inl ⟨_, _, _, _, _, _, _, _, _, _, ⟨rfl, rfl, rfl, rfl, rfl, rfl, rfl, rfl, rfl, rfl⟩, { hS with h5 := fun _ => rfl }⟩
      · simp at ho
        subst ho
        obtain rfl := hS.h5 (hd ⟨5, .data⟩ (by simp) (by rfl))
        simp [wpOp, go_sem]
        exact .inl ⟨_, _, _, _, _, _, _, _, _, _, ⟨rfl, rfl, rfl, rfl, rfl, rfl, rfl, rfl, rfl, rfl⟩, { hS with h6 := fun _ => rfl }⟩
      · simp at ho
        subst ho
        obtain rfl := hS.h5 (hd ⟨5, .data⟩ (by simp) (by rfl))
        simp [wpOp, go_sem]
        exact .inl ⟨_, _, _, _, _, _, _, _, _, _, ⟨rfl, rfl, rfl, rfl, rfl, rfl, rfl, rfl, rfl, rfl⟩, { hS with h7 := fun _ => rfl }⟩
      · simp at ho
        subst ho
        obtain rfl := hS.h6 (hd ⟨6, .data⟩ (by simp) (by rfl))
        simp [wpOp, go_sem]
        exact .inl ⟨_, _, _, _, _, _, _, _, _, _, ⟨rfl, rfl, rfl, rfl, rfl, rfl, rfl, rfl, rfl, rfl⟩, { hS with h8 := fun _ => rfl }⟩
      · simp at ho
        subst ho
        obtain rfl := hS.h7 (hd ⟨7, .data⟩ (by simp) (by rfl))
        simp [wpOp, go_sem]
        exact .inl ⟨_, _, _, _, _, _, _, _, _, _, ⟨rfl, rfl, rfl, rfl, rfl, rfl, rfl, rfl, rfl, rfl⟩, { hS with h9 := fun _ => rfl }⟩
      · simp at ho
    · intro f a W9 hI hall
      obtain ⟨s20, s21, s22, s23, s24, s19, s25, s26, s5, s6, rfl, hS⟩ := hI
      obtain rfl := hS.h8 (hall 8 (by decide))
      obtain rfl := hS.h9 (hall 9 (by decide))
      have K3 : Hid (Below w.heap.size w W9) := K2.out.trans (hS.bel.mono K2.out.size)
      clear hS hall
      go_wp2_with fail
      go_ret
      exact ⟨rfl, K3.out⟩
end Go.Proofs.YtbiehpjhhopjaaaGreat
