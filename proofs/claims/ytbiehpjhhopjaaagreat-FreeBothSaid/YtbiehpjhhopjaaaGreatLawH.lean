/-
  law 25's FreeBoth, walked.
-/
import Derived.Test.YtbiehpjhhopjaaaGreatLawG
import Derived.Test.YtbiehpjhhopjaaaGreatLawF
import Derived.Test.YtbiehpjhhopjaaaGreatGreatA
import Derived.Test.YtbiehpjhhopjaaaGreatLawP
import Derived.StillTailTactics
set_option linter.unusedVariables false
set_option linter.unusedSimpArgs false
namespace Go.Proofs.YtbiehpjhhopjaaaGreat
open Go.RowKit Go.Maps
theorem join_mid {x y : Ar} (sx : x.small) (sy : y.small) : (joinA x y).mid := by
  obtain ⟨a, b, c, d⟩ := sx
  obtain ⟨a', b', c', d'⟩ := sy
  unfold joinA Ar.mid
  simp only [List.length_append]
  omega
theorem oddA_small {p : Pl} {st : St} {x : Ar} (h : x.small) : (oddA p st x).small := by
  unfold oddA
  split
  · have k : ∀ (l : List Int) (pr : Int → Bool), l.length ≤ 200 → (normI (l.filter pr)).length ≤ 200 := fun l pr hl => Nat.le_trans (normI_len _) (Nat.le_trans (List.length_filter_le _ _) hl)
    exact ⟨k _ _ h.1, k _ _ h.2.1, k _ _ h.2.2.1, k _ _ h.2.2.2⟩
  · exact ⟨by decide, by decide, by decide, by decide⟩
/-- where the region that asks of two areas together stands -/
structure RB (w0 : World) (PV SV XV YV : Value) (z : Ar) (C : Bool) (n : Int) (f0 f1 f2 f3 f4 f5 f6 f7 f8 f9 f10 : Bool) (s0 s1 s2 s3 s4 s5 s6 s7 s8 s9 s10 : Value) (W : World) : Prop where
  bel : Below w0.heap.size w0 W
  h0 : f0 = true → s0 = PV
  h1 : f1 = true → s1 = SV
  h2 : f2 = true → s2 = XV
  h3 : f3 = true → s3 = YV
  h4 : f4 = true → ∃ z1 z2 z3 z4, s4 = .agg #[z1, z2, z3, z4] ∧ AL W z1 z2 z3 z4 z
  h5 : f5 = true → s5 = .tuple #[.bool C, .int .i64 n]
  h6 : f6 = true → s6 = .tuple #[.bool C, .int .i64 n]
  h7 : f7 = true → s7 = .bool C
  h8 : f8 = true → s8 = .int .i64 n
  h9 : f9 = true → s9 = .bool C
  h10 : f10 = true → s10 = .int .i64 n
theorem RB.below {w0 : World} {PV SV XV YV : Value} {z : Ar} {C : Bool} {n : Int} {f0 f1 f2 f3 f4 f5 f6 f7 f8 f9 f10 : Bool} {s0 s1 s2 s3 s4 s5 s6 s7 s8 s9 s10 : Value} {W W' : World} (h : RB w0 PV SV XV YV z C n f0 f1 f2 f3 f4 f5 f6 f7 f8 f9 f10 s0 s1 s2 s3 s4 s5 s6 s7 s8 s9 s10 W) (hb : Below W.heap.size W W') : RB w0 PV SV XV YV z C n f0 f1 f2 f3 f4 f5 f6 f7 f8 f9 f10 s0 s1 s2 s3 s4 s5 s6 s7 s8 s9 s10 W' :=
  { h with
    bel := h.bel.trans (hb.mono h.bel.size)
    h4 := fun k => by
      obtain ⟨z1, z2, z3, z4, e, hi⟩ := h.h4 k
      exact ⟨z1, z2, z3, z4, e, hi.below hb⟩ }
set_option maxRecDepth 100000 in
set_option maxHeartbeats 16000000 in
theorem freeBoth_any (p : Pl) (s q gg rr : Value) (st : St) (t sw lk : Value) (x : Ar) (u1 u2 u3 u4 : Value) (y : Ar) (v1 v2 v3 v4 : Value) (w : World) (hp : PlM w s q gg rr p) (hs : StM w t sw lk st) (hx : AL w u1 u2 u3 u4 x) (hy : AL w v1 v2 v3 v4 y) :
    Calls Tryz.prog 7 #[plV p s q gg rr, .agg #[t, sw, lk], .agg #[u1, u2, u3, u4], .agg #[v1, v2, v3, v4]] w (BoolPost w true) := by
  have HP : Hid (∀ W, Below w.heap.size w W → PlM W s q gg rr p) := fun W hb => hp.below hb
  have HS : Hid (∀ W, Below w.heap.size w W → StM W t sw lk st) := fun W hb => hs.below hb
  have HX : Hid (∀ W, Below w.heap.size w W → AL W u1 u2 u3 u4 x) := fun W hb => hx.below hb
  have HY : Hid (∀ W, Below w.heap.size w W → AL W v1 v2 v3 v4 y) := fun W hb => hy.below hb
  obtain ⟨e1, f1, rfl, -⟩ := hx.s.at_
  obtain ⟨e2, f2, rfl, -⟩ := hx.p.at_
  obtain ⟨e3, f3, rfl, -⟩ := hx.g.at_
  obtain ⟨e4, f4, rfl, -⟩ := hx.r.at_
  obtain ⟨i1, j1, rfl, -⟩ := hy.s.at_
  obtain ⟨i2, j2, rfl, -⟩ := hy.p.at_
  obtain ⟨i3, j3, rfl, -⟩ := hy.g.at_
  obtain ⟨i4, j4, rfl, -⟩ := hy.r.at_
  obtain ⟨a1, c1, rfl, -⟩ := hp.secs
  obtain ⟨a2, c2, rfl, -⟩ := hp.pts
  obtain ⟨a3, c3, rfl, -⟩ := hp.sigs
  obtain ⟨a4, c4, rfl, -⟩ := hp.rts
  obtain ⟨b1, d1, rfl, -⟩ := hs.tks
  obtain ⟨b2, d2, rfl, -⟩ := hs.sws
  obtain ⟨b3, d3, rfl, -⟩ := hs.lks
  clear hp hs hx hy
  have HIS : Hid (p.Fit → st.fit → x.small → ∀ W, Below w.heap.size w W → Calls Tryz.prog 36 #[.agg #[.int .i64 p.ver, .int .i64 p.par, .slice a1 p.secs.length c1, .slice a2 p.pts.length c2, .slice a3 p.sigs.length c3, .slice a4 p.rts.length c4], .agg #[.slice b1 st.tks.length d1, .slice b2 st.sws.length d2, .slice b3 st.lks.length d3], .agg #[.slice e1 x.s.length f1, .slice e2 x.p.length f2, .slice e3 x.g.length f3, .slice e4 x.r.length f4]] W (IsPost W (isFree p st x) (ofErr p st))) := fun hf hsf sx W hb => is_any p st x _ _ _ _ _ _ _ _ _ _ _ W (HP.out W hb) hf (HS.out W hb) hsf (HX.out W hb) sx.mid
  have HIT : Hid (p.Fit → st.fit → y.small → ∀ W, Below w.heap.size w W → Calls Tryz.prog 36 #[.agg #[.int .i64 p.ver, .int .i64 p.par, .slice a1 p.secs.length c1, .slice a2 p.pts.length c2, .slice a3 p.sigs.length c3, .slice a4 p.rts.length c4], .agg #[.slice b1 st.tks.length d1, .slice b2 st.sws.length d2, .slice b3 st.lks.length d3], .agg #[.slice i1 y.s.length j1, .slice i2 y.p.length j2, .slice i3 y.g.length j3, .slice i4 y.r.length j4]] W (IsPost W (isFree p st y) (ofErr p st))) := fun hf hsf sy W hb => is_any p st y _ _ _ _ _ _ _ _ _ _ _ W (HP.out W hb) hf (HS.out W hb) hsf (HY.out W hb) sy.mid
  have HIJ : Hid (p.Fit → st.fit → x.small → y.small → ∀ W, Below w.heap.size w W → ∀ z1 z2 z3 z4, AL W z1 z2 z3 z4 (joinA x y) → Calls Tryz.prog 36 #[.agg #[.int .i64 p.ver, .int .i64 p.par, .slice a1 p.secs.length c1, .slice a2 p.pts.length c2, .slice a3 p.sigs.length c3, .slice a4 p.rts.length c4], .agg #[.slice b1 st.tks.length d1, .slice b2 st.sws.length d2, .slice b3 st.lks.length d3], .agg #[z1, z2, z3, z4]] W (IsPost W (isFree p st (joinA x y)) (ofErr p st))) := fun hf hsf sx sy W hb z1 z2 z3 z4 hz => is_any p st (joinA x y) _ _ _ _ _ _ _ _ _ _ _ W (HP.out W hb) hf (HS.out W hb) hsf hz (join_mid sx sy)
  have HOD : Hid (p.Fit → st.fit → x.small → ∀ W, Below w.heap.size w W → Calls Tryz.prog 38 #[.agg #[.int .i64 p.ver, .int .i64 p.par, .slice a1 p.secs.length c1, .slice a2 p.pts.length c2, .slice a3 p.sigs.length c3, .slice a4 p.rts.length c4], .agg #[.slice b1 st.tks.length d1, .slice b2 st.sws.length d2, .slice b3 st.lks.length d3], .agg #[.slice e1 x.s.length f1, .slice e2 x.p.length f2, .slice e3 x.g.length f3, .slice e4 x.r.length f4]] W (OddPost W (oddA p st x) (ofErr p st))) := fun hf hsf sx W hb => odd_any p st x _ _ _ _ _ _ _ _ _ _ _ W (HP.out W hb) hf (HS.out W hb) hsf (HX.out W hb) sx.mid
  have HJO : Hid (x.small → y.small → ∀ W, Below w.heap.size w W → Calls Tryz.prog 45 #[.agg #[.slice e1 x.s.length f1, .slice e2 x.p.length f2, .slice e3 x.g.length f3, .slice e4 x.r.length f4], .agg #[.slice i1 y.s.length j1, .slice i2 y.p.length j2, .slice i3 y.g.length j3, .slice i4 y.r.length j4]] W fun e w' => ∃ z1 z2 z3 z4, e = .returned (.agg #[z1, z2, z3, z4]) ∧ AL w' z1 z2 z3 z4 (joinA x y) ∧ Below W.heap.size W w') := fun sx sy W hb => joinboth_any _ _ _ _ _ _ _ _ x y W (HX.out W hb) (HY.out W hb) sx sy
  have HGP : Hid (∀ W, Below w.heap.size w W → Calls Tryz.prog 33 #[.agg #[.int .i64 p.ver, .int .i64 p.par, .slice a1 p.secs.length c1, .slice a2 p.pts.length c2, .slice a3 p.sigs.length c3, .slice a4 p.rts.length c4]] W (FalsePost W p.Fit)) := fun W hb => plgreat_any p _ _ _ _ W (HP.out W hb)
  have HGS : Hid (∀ W, Below w.heap.size w W → Calls Tryz.prog 34 #[.agg #[.slice b1 st.tks.length d1, .slice b2 st.sws.length d2, .slice b3 st.lks.length d3]] W (FalsePost W st.fit)) := fun W hb => stgreat_any _ _ _ st W (HS.out W hb)
  have HGX : Hid (∀ W, Below w.heap.size w W → Calls Tryz.prog 35 #[.agg #[.slice e1 x.s.length f1, .slice e2 x.p.length f2, .slice e3 x.g.length f3, .slice e4 x.r.length f4]] W fun e w' => e = .returned (.bool (!decide x.small)) ∧ Below W.heap.size W w') := fun W hb => great_any _ _ _ _ x W (HX.out W hb)
  have HGY : Hid (∀ W, Below w.heap.size w W → Calls Tryz.prog 35 #[.agg #[.slice i1 y.s.length j1, .slice i2 y.p.length j2, .slice i3 y.g.length j3, .slice i4 y.r.length j4]] W fun e w' => e = .returned (.bool (!decide y.small)) ∧ Below W.heap.size W w') := fun W hb => great_any _ _ _ _ y W (HY.out W hb)
  have HHX : Hid (x.small → ∀ W, Below w.heap.size w W → ∀ k n : Int, 0 ≤ k → k ≤ 255 → Calls Tryz.prog 46 #[.agg #[.slice e1 x.s.length f1, .slice e2 x.p.length f2, .slice e3 x.g.length f3, .slice e4 x.r.length f4], .int .u8 k, .int .i64 n] W fun e w' => e = .returned (.bool (hasA x k n)) ∧ Below W.heap.size W w') := fun sx W hb k n k0 k1 => has_any _ _ _ _ x k n W (HX.out W hb) sx k0 k1
  have HOS : Hid (x.small → (oddA p st x).small) := fun h => oddA_small h
  have HBAD : Hid (ofErr p st ≠ 0 → isFree p st x = false ∧ isFree p st y = false ∧ isFree p st (joinA x y) = false ∧ oddA p st x = zAr) := fun h => ⟨free_bad h _, free_bad h _, free_bad h _, odd_bad h _⟩
  have HGOOD : Hid (ofErr p st = 0 → isFree p st x = sameA (oddA p st x) zAr ∧ isFree p st (joinA x y) = (isFree p st x && isFree p st y)) := fun h => ⟨free_same h _, free_both p st x y⟩
  have HHAS : Hid (∀ k n, hasA (oddA p st x) k n = true → hasA x k n = true) := fun k n => odd_has p st x k n
  clear HP HS HX HY
  generalize isFree p st x = A at *
  generalize isFree p st y = B at *
  generalize isFree p st (joinA x y) = C at *
  generalize ofErr p st = E at *
  generalize oddA p st x = O at *
  unfold plV at *
  go_enter Tryz.func7, Tryz.ntmps7
  go_upto_region 1 with fail
  generalize hW0 : World.alloc _ _ = W0
  have K0 : Hid (Below w.heap.size w W0) := by
    show Below _ _ _
    rw [← hW0]
    exact ((((Below.refl _ _).alloc (Nat.le_refl _) _).alloc (by simp) _).alloc (by simp <;> omega) _).alloc (by simp <;> omega) _
  have BX0 : Hid (W0.heap[w.heap.size]? = some (.cells #[.int .i64 p.ver, .int .i64 p.par, .slice a1 p.secs.length c1, .slice a2 p.pts.length c2, .slice a3 p.sigs.length c3, .slice a4 p.rts.length c4] 28 (0, 0)) ∧ W0.heap[w.heap.size + 1]? = some (.cells #[.slice b1 st.tks.length d1, .slice b2 st.sws.length d2, .slice b3 st.lks.length d3] 33 (0, 0)) ∧ W0.heap[w.heap.size + 1 + 1]? = some (.cells #[.slice e1 x.s.length f1, .slice e2 x.p.length f2, .slice e3 x.g.length f3, .slice e4 x.r.length f4] 56 (0, 0)) ∧ W0.heap[w.heap.size + 1 + 1 + 1]? = some (.cells #[.slice i1 y.s.length j1, .slice i2 y.p.length j2, .slice i3 y.g.length j3, .slice i4 y.r.length j4] 56 (0, 0))) := by
    show _ ∧ _
    have q0 : ((w.alloc (.cells #[.int .i64 p.ver, .int .i64 p.par, .slice a1 p.secs.length c1, .slice a2 p.pts.length c2, .slice a3 p.sigs.length c3, .slice a4 p.rts.length c4] 28)).alloc (.cells #[.slice b1 st.tks.length d1, .slice b2 st.sws.length d2, .slice b3 st.lks.length d3] 33)).heap[w.heap.size]? = some (.cells #[.int .i64 p.ver, .int .i64 p.par, .slice a1 p.secs.length c1, .slice a2 p.pts.length c2, .slice a3 p.sigs.length c3, .slice a4 p.rts.length c4] 28 (0, 0)) := (heap_alloc_old _ _ (by simp)).trans (heap_alloc_new _ _)
    have q1 : ((w.alloc (.cells #[.int .i64 p.ver, .int .i64 p.par, .slice a1 p.secs.length c1, .slice a2 p.pts.length c2, .slice a3 p.sigs.length c3, .slice a4 p.rts.length c4] 28)).alloc (.cells #[.slice b1 st.tks.length d1, .slice b2 st.sws.length d2, .slice b3 st.lks.length d3] 33)).heap[w.heap.size + 1]? = some (.cells #[.slice b1 st.tks.length d1, .slice b2 st.sws.length d2, .slice b3 st.lks.length d3] 33 (0, 0)) := heap_alloc2_new _ _ _
    have q2 := heap_alloc_new ((w.alloc (.cells #[.int .i64 p.ver, .int .i64 p.par, .slice a1 p.secs.length c1, .slice a2 p.pts.length c2, .slice a3 p.sigs.length c3, .slice a4 p.rts.length c4] 28)).alloc (.cells #[.slice b1 st.tks.length d1, .slice b2 st.sws.length d2, .slice b3 st.lks.length d3] 33)) (.cells #[.slice e1 x.s.length f1, .slice e2 x.p.length f2, .slice e3 x.g.length f3, .slice e4 x.r.length f4] 56)
    have q3 := heap_alloc_new (((w.alloc (.cells #[.int .i64 p.ver, .int .i64 p.par, .slice a1 p.secs.length c1, .slice a2 p.pts.length c2, .slice a3 p.sigs.length c3, .slice a4 p.rts.length c4] 28)).alloc (.cells #[.slice b1 st.tks.length d1, .slice b2 st.sws.length d2, .slice b3 st.lks.length d3] 33)).alloc (.cells #[.slice e1 x.s.length f1, .slice e2 x.p.length f2, .slice e3 x.g.length f3, .slice e4 x.r.length f4] 56)) (.cells #[.slice i1 y.s.length j1, .slice i2 y.p.length j2, .slice i3 y.g.length j3, .slice i4 y.r.length j4] 56)
    rw [← hW0]
    refine ⟨(heap_alloc_old _ _ (by simp <;> omega)).trans ((heap_alloc_old _ _ (by simp <;> omega)).trans q0), (heap_alloc_old _ _ (by simp <;> omega)).trans ((heap_alloc_old _ _ (by simp <;> omega)).trans q1), (heap_alloc_old _ _ (by simp <;> omega)).trans (by simpa using q2), by simpa using q3⟩
  have HBB : Hid (∀ W W' : World, (W.heap[w.heap.size]? = some (.cells #[.int .i64 p.ver, .int .i64 p.par, .slice a1 p.secs.length c1, .slice a2 p.pts.length c2, .slice a3 p.sigs.length c3, .slice a4 p.rts.length c4] 28 (0, 0)) ∧ W.heap[w.heap.size + 1]? = some (.cells #[.slice b1 st.tks.length d1, .slice b2 st.sws.length d2, .slice b3 st.lks.length d3] 33 (0, 0)) ∧ W.heap[w.heap.size + 1 + 1]? = some (.cells #[.slice e1 x.s.length f1, .slice e2 x.p.length f2, .slice e3 x.g.length f3, .slice e4 x.r.length f4] 56 (0, 0)) ∧ W.heap[w.heap.size + 1 + 1 + 1]? = some (.cells #[.slice i1 y.s.length j1, .slice i2 y.p.length j2, .slice i3 y.g.length j3, .slice i4 y.r.length j4] 56 (0, 0))) → Below W.heap.size W W' → (W'.heap[w.heap.size]? = some (.cells #[.int .i64 p.ver, .int .i64 p.par, .slice a1 p.secs.length c1, .slice a2 p.pts.length c2, .slice a3 p.sigs.length c3, .slice a4 p.rts.length c4] 28 (0, 0)) ∧ W'.heap[w.heap.size + 1]? = some (.cells #[.slice b1 st.tks.length d1, .slice b2 st.sws.length d2, .slice b3 st.lks.length d3] 33 (0, 0)) ∧ W'.heap[w.heap.size + 1 + 1]? = some (.cells #[.slice e1 x.s.length f1, .slice e2 x.p.length f2, .slice e3 x.g.length f3, .slice e4 x.r.length f4] 56 (0, 0)) ∧ W'.heap[w.heap.size + 1 + 1 + 1]? = some (.cells #[.slice i1 y.s.length j1, .slice i2 y.p.length j2, .slice i3 y.g.length j3, .slice i4 y.r.length j4] 56 (0, 0)))) := fun W W' hh hb => ⟨(hb.block _ (lt_of_block hh.1)).trans hh.1, (hb.block _ (lt_of_block hh.2.1)).trans hh.2.1, (hb.block _ (lt_of_block hh.2.2.1)).trans hh.2.2.1, (hb.block _ (lt_of_block hh.2.2.2)).trans hh.2.2.2⟩
  clear hW0
  go_wp2_with fail
  refine (alive_any W0).mono ?_
  rintro e w1 ⟨rfl, hb1⟩
  have K1 : Hid (Below w.heap.size w w1) := K0.out.trans (hb1.mono K0.out.size)
  have BX1 := Lib.hid (HBB.out _ _ BX0.out hb1)
  clear hb1 K0 BX0
  have pp0 : w1.cell? ⟨w.heap.size, 0, none⟩ = some (.int .i64 p.ver) := (cell_of_row w1 _ 0 _ _ _ (BX1.out).1).trans rfl
  have pp1 : w1.cell? ⟨w.heap.size, 1, none⟩ = some (.int .i64 p.par) := (cell_of_row w1 _ 1 _ _ _ (BX1.out).1).trans rfl
  have pp2 : w1.cell? ⟨w.heap.size, 2, none⟩ = some (.slice a1 p.secs.length c1) := (cell_of_row w1 _ 2 _ _ _ (BX1.out).1).trans rfl
  have pp3 : w1.cell? ⟨w.heap.size, 3, none⟩ = some (.slice a2 p.pts.length c2) := (cell_of_row w1 _ 3 _ _ _ (BX1.out).1).trans rfl
  have pp4 : w1.cell? ⟨w.heap.size, 4, none⟩ = some (.slice a3 p.sigs.length c3) := (cell_of_row w1 _ 4 _ _ _ (BX1.out).1).trans rfl
  have pp5 : w1.cell? ⟨w.heap.size, 5, none⟩ = some (.slice a4 p.rts.length c4) := (cell_of_row w1 _ 5 _ _ _ (BX1.out).1).trans rfl
  go_wp2_with fail
  refine (HGP.out w1 K1.out).mono ?_
  rintro e w2 ⟨g1, rfl, hF, hb2⟩
  clear pp0 pp1 pp2 pp3 pp4 pp5
  have K2 : Hid (Below w.heap.size w w2) := K1.out.trans (hb2.mono K1.out.size)
  have BX2 := Lib.hid (HBB.out _ _ BX1.out hb2)
  clear hb2 K1 BX1
  cases g1 with
  | true =>
    go_wp2_with fail
    go_ret
    exact ⟨rfl, K2.out⟩
  | false =>
    have HF := Lib.hid (hF rfl)
    clear hF
    have ss0 : w2.cell? ⟨w.heap.size + 1, 0, none⟩ = some (.slice b1 st.tks.length d1) := (cell_of_row w2 _ 0 _ _ _ (BX2.out).2.1).trans rfl
    have ss1 : w2.cell? ⟨w.heap.size + 1, 1, none⟩ = some (.slice b2 st.sws.length d2) := (cell_of_row w2 _ 1 _ _ _ (BX2.out).2.1).trans rfl
    have ss2 : w2.cell? ⟨w.heap.size + 1, 2, none⟩ = some (.slice b3 st.lks.length d3) := (cell_of_row w2 _ 2 _ _ _ (BX2.out).2.1).trans rfl
    go_wp2_with fail
    refine (HGS.out w2 K2.out).mono ?_
    rintro e w3 ⟨g2, rfl, hF, hb3⟩
    clear ss0 ss1 ss2
    have K3 : Hid (Below w.heap.size w w3) := K2.out.trans (hb3.mono K2.out.size)
    have BX3 := Lib.hid (HBB.out _ _ BX2.out hb3)
    clear hb3 K2 BX2
    cases g2 with
    | true =>
      go_wp2_with fail
      go_ret
      exact ⟨rfl, K3.out⟩
    | false =>
      have HSF := Lib.hid (hF rfl)
      clear hF
      have xx0 : w3.cell? ⟨w.heap.size + 1 + 1, 0, none⟩ = some (.slice e1 x.s.length f1) := (cell_of_row w3 _ 0 _ _ _ (BX3.out).2.2.1).trans rfl
      have xx1 : w3.cell? ⟨w.heap.size + 1 + 1, 1, none⟩ = some (.slice e2 x.p.length f2) := (cell_of_row w3 _ 1 _ _ _ (BX3.out).2.2.1).trans rfl
      have xx2 : w3.cell? ⟨w.heap.size + 1 + 1, 2, none⟩ = some (.slice e3 x.g.length f3) := (cell_of_row w3 _ 2 _ _ _ (BX3.out).2.2.1).trans rfl
      have xx3 : w3.cell? ⟨w.heap.size + 1 + 1, 3, none⟩ = some (.slice e4 x.r.length f4) := (cell_of_row w3 _ 3 _ _ _ (BX3.out).2.2.1).trans rfl
      go_wp2_with fail
      refine (HGX.out w3 K3.out).mono ?_
      rintro e w4 ⟨rfl, hb4⟩
      clear xx0 xx1 xx2 xx3
      have K4 : Hid (Below w.heap.size w w4) := K3.out.trans (hb4.mono K3.out.size)
      have BX4 := Lib.hid (HBB.out _ _ BX3.out hb4)
      clear hb4 K3 BX3
      by_cases sx : x.small
      · have HSX := Lib.hid sx
        rw [decide_eq_true sx]
        clear sx
        simp only [Bool.not_true]
        have yy0 : w4.cell? ⟨w.heap.size + 1 + 1 + 1, 0, none⟩ = some (.slice i1 y.s.length j1) := (cell_of_row w4 _ 0 _ _ _ (BX4.out).2.2.2).trans rfl
        have yy1 : w4.cell? ⟨w.heap.size + 1 + 1 + 1, 1, none⟩ = some (.slice i2 y.p.length j2) := (cell_of_row w4 _ 1 _ _ _ (BX4.out).2.2.2).trans rfl
        have yy2 : w4.cell? ⟨w.heap.size + 1 + 1 + 1, 2, none⟩ = some (.slice i3 y.g.length j3) := (cell_of_row w4 _ 2 _ _ _ (BX4.out).2.2.2).trans rfl
        have yy3 : w4.cell? ⟨w.heap.size + 1 + 1 + 1, 3, none⟩ = some (.slice i4 y.r.length j4) := (cell_of_row w4 _ 3 _ _ _ (BX4.out).2.2.2).trans rfl
        go_wp2_with fail
        refine (HGY.out w4 K4.out).mono ?_
        rintro e w5 ⟨rfl, hb5⟩
        clear yy0 yy1 yy2 yy3
        have K5 : Hid (Below w.heap.size w w5) := K4.out.trans (hb5.mono K4.out.size)
        have BX5 := Lib.hid (HBB.out _ _ BX4.out hb5)
        clear hb5 K4 BX4
        by_cases sy : y.small
        · have HSY := Lib.hid sy
          rw [decide_eq_true sy]
          clear sy
          simp only [Bool.not_true]
          have pp0 : w5.cell? ⟨w.heap.size, 0, none⟩ = some (.int .i64 p.ver) := (cell_of_row w5 _ 0 _ _ _ (BX5.out).1).trans rfl
          have pp1 : w5.cell? ⟨w.heap.size, 1, none⟩ = some (.int .i64 p.par) := (cell_of_row w5 _ 1 _ _ _ (BX5.out).1).trans rfl
          have pp2 : w5.cell? ⟨w.heap.size, 2, none⟩ = some (.slice a1 p.secs.length c1) := (cell_of_row w5 _ 2 _ _ _ (BX5.out).1).trans rfl
          have pp3 : w5.cell? ⟨w.heap.size, 3, none⟩ = some (.slice a2 p.pts.length c2) := (cell_of_row w5 _ 3 _ _ _ (BX5.out).1).trans rfl
          have pp4 : w5.cell? ⟨w.heap.size, 4, none⟩ = some (.slice a3 p.sigs.length c3) := (cell_of_row w5 _ 4 _ _ _ (BX5.out).1).trans rfl
          have pp5 : w5.cell? ⟨w.heap.size, 5, none⟩ = some (.slice a4 p.rts.length c4) := (cell_of_row w5 _ 5 _ _ _ (BX5.out).1).trans rfl
          have ss0 : w5.cell? ⟨w.heap.size + 1, 0, none⟩ = some (.slice b1 st.tks.length d1) := (cell_of_row w5 _ 0 _ _ _ (BX5.out).2.1).trans rfl
          have ss1 : w5.cell? ⟨w.heap.size + 1, 1, none⟩ = some (.slice b2 st.sws.length d2) := (cell_of_row w5 _ 1 _ _ _ (BX5.out).2.1).trans rfl
          have ss2 : w5.cell? ⟨w.heap.size + 1, 2, none⟩ = some (.slice b3 st.lks.length d3) := (cell_of_row w5 _ 2 _ _ _ (BX5.out).2.1).trans rfl
          have xx0 : w5.cell? ⟨w.heap.size + 1 + 1, 0, none⟩ = some (.slice e1 x.s.length f1) := (cell_of_row w5 _ 0 _ _ _ (BX5.out).2.2.1).trans rfl
          have xx1 : w5.cell? ⟨w.heap.size + 1 + 1, 1, none⟩ = some (.slice e2 x.p.length f2) := (cell_of_row w5 _ 1 _ _ _ (BX5.out).2.2.1).trans rfl
          have xx2 : w5.cell? ⟨w.heap.size + 1 + 1, 2, none⟩ = some (.slice e3 x.g.length f3) := (cell_of_row w5 _ 2 _ _ _ (BX5.out).2.2.1).trans rfl
          have xx3 : w5.cell? ⟨w.heap.size + 1 + 1, 3, none⟩ = some (.slice e4 x.r.length f4) := (cell_of_row w5 _ 3 _ _ _ (BX5.out).2.2.1).trans rfl
          go_wp2_with fail
          refine (HIS.out HF.out HSF.out HSX.out w5 K5.out).mono ?_
          rintro e w6 ⟨rfl, hb6⟩
          clear pp0 pp1 pp2 pp3 pp4 pp5 ss0 ss1 ss2 xx0 xx1 xx2 xx3
          have K6 : Hid (Below w.heap.size w w6) := K5.out.trans (hb6.mono K5.out.size)
          have BX6 := Lib.hid (HBB.out _ _ BX5.out hb6)
          clear hb6 K5 BX5
          have pp0 : w6.cell? ⟨w.heap.size, 0, none⟩ = some (.int .i64 p.ver) := (cell_of_row w6 _ 0 _ _ _ (BX6.out).1).trans rfl
          have pp1 : w6.cell? ⟨w.heap.size, 1, none⟩ = some (.int .i64 p.par) := (cell_of_row w6 _ 1 _ _ _ (BX6.out).1).trans rfl
          have pp2 : w6.cell? ⟨w.heap.size, 2, none⟩ = some (.slice a1 p.secs.length c1) := (cell_of_row w6 _ 2 _ _ _ (BX6.out).1).trans rfl
          have pp3 : w6.cell? ⟨w.heap.size, 3, none⟩ = some (.slice a2 p.pts.length c2) := (cell_of_row w6 _ 3 _ _ _ (BX6.out).1).trans rfl
          have pp4 : w6.cell? ⟨w.heap.size, 4, none⟩ = some (.slice a3 p.sigs.length c3) := (cell_of_row w6 _ 4 _ _ _ (BX6.out).1).trans rfl
          have pp5 : w6.cell? ⟨w.heap.size, 5, none⟩ = some (.slice a4 p.rts.length c4) := (cell_of_row w6 _ 5 _ _ _ (BX6.out).1).trans rfl
          have ss0 : w6.cell? ⟨w.heap.size + 1, 0, none⟩ = some (.slice b1 st.tks.length d1) := (cell_of_row w6 _ 0 _ _ _ (BX6.out).2.1).trans rfl
          have ss1 : w6.cell? ⟨w.heap.size + 1, 1, none⟩ = some (.slice b2 st.sws.length d2) := (cell_of_row w6 _ 1 _ _ _ (BX6.out).2.1).trans rfl
          have ss2 : w6.cell? ⟨w.heap.size + 1, 2, none⟩ = some (.slice b3 st.lks.length d3) := (cell_of_row w6 _ 2 _ _ _ (BX6.out).2.1).trans rfl
          have yy0 : w6.cell? ⟨w.heap.size + 1 + 1 + 1, 0, none⟩ = some (.slice i1 y.s.length j1) := (cell_of_row w6 _ 0 _ _ _ (BX6.out).2.2.2).trans rfl
          have yy1 : w6.cell? ⟨w.heap.size + 1 + 1 + 1, 1, none⟩ = some (.slice i2 y.p.length j2) := (cell_of_row w6 _ 1 _ _ _ (BX6.out).2.2.2).trans rfl
          have yy2 : w6.cell? ⟨w.heap.size + 1 + 1 + 1, 2, none⟩ = some (.slice i3 y.g.length j3) := (cell_of_row w6 _ 2 _ _ _ (BX6.out).2.2.2).trans rfl
          have yy3 : w6.cell? ⟨w.heap.size + 1 + 1 + 1, 3, none⟩ = some (.slice i4 y.r.length j4) := (cell_of_row w6 _ 3 _ _ _ (BX6.out).2.2.2).trans rfl
          go_wp2_with fail
          refine (HIT.out HF.out HSF.out HSY.out w6 K6.out).mono ?_
          rintro e w7 ⟨rfl, hb7⟩
          clear pp0 pp1 pp2 pp3 pp4 pp5 ss0 ss1 ss2 yy0 yy1 yy2 yy3
          have K7 : Hid (Below w.heap.size w w7) := K6.out.trans (hb7.mono K6.out.size)
          have BX7 := Lib.hid (HBB.out _ _ BX6.out hb7)
          clear hb7 K6 BX6
          go_upto_region 6 with fail
          refine wp_region_inv' (by kernel_rfl) (by kernel_rfl) (fun f a W9 => ∃ s55 s56 s57 s58 s59 s60 s54 s61 s62 s14 s15 : Value, a = { tmps := #[.agg #[.int .i64 p.ver, .int .i64 p.par, .slice a1 p.secs.length c1, .slice a2 p.pts.length c2, .slice a3 p.sigs.length c3, .slice a4 p.rts.length c4], .agg #[.slice b1 st.tks.length d1, .slice b2 st.sws.length d2, .slice b3 st.lks.length d3], .agg #[.slice e1 x.s.length f1, .slice e2 x.p.length f2, .slice e3 x.g.length f3, .slice e4 x.r.length f4], .agg #[.slice i1 y.s.length j1, .slice i2 y.p.length j2, .slice i3 y.g.length j3, .slice i4 y.r.length j4], .pointer (some ⟨w.heap.size, 0, none⟩), .pointer (some ⟨w.heap.size + 1, 0, none⟩), .pointer (some ⟨w.heap.size + 1 + 1, 0, none⟩), .pointer (some ⟨w.heap.size + 1 + 1 + 1, 0, none⟩), .bool false, .bool true, .bool A, .int .i64 E, .bool B, .int .i64 E, s14, s15, undef, undef, undef, undef, .bool true, .agg #[.int .i64 p.ver, .int .i64 p.par, .slice a1 p.secs.length c1, .slice a2 p.pts.length c2, .slice a3 p.sigs.length c3, .slice a4 p.rts.length c4], .bool false, .bool false, .agg #[.slice b1 st.tks.length d1, .slice b2 st.sws.length d2, .slice b3 st.lks.length d3], .bool false, .bool false, .bool false, .agg #[.slice e1 x.s.length f1, .slice e2 x.p.length f2, .slice e3 x.g.length f3, .slice e4 x.r.length f4], .bool false, .bool false, .bool false, .agg #[.slice i1 y.s.length j1, .slice i2 y.p.length j2, .slice i3 y.g.length j3, .slice i4 y.r.length j4], .bool false, .bool false, .bool false, .bool true, .bool false, .bool false, undef, .tuple #[.bool A, .int .i64 E], .agg #[.int .i64 p.ver, .int .i64 p.par, .slice a1 p.secs.length c1, .slice a2 p.pts.length c2, .slice a3 p.sigs.length c3, .slice a4 p.rts.length c4], .agg #[.slice b1 st.tks.length d1, .slice b2 st.sws.length d2, .slice b3 st.lks.length d3], .agg #[.slice e1 x.s.length f1, .slice e2 x.p.length f2, .slice e3 x.g.length f3, .slice e4 x.r.length f4], .tuple #[.bool A, .int .i64 E], .bool A, .int .i64 E, .tuple #[.bool B, .int .i64 E], .agg #[.int .i64 p.ver, .int .i64 p.par, .slice a1 p.secs.length c1, .slice a2 p.pts.length c2, .slice a3 p.sigs.length c3, .slice a4 p.rts.length c4], .agg #[.slice b1 st.tks.length d1, .slice b2 st.sws.length d2, .slice b3 st.lks.length d3], .agg #[.slice i1 y.s.length j1, .slice i2 y.p.length j2, .slice i3 y.g.length j3, .slice i4 y.r.length j4], .tuple #[.bool B, .int .i64 E], .bool B, .int .i64 E, s54, s55, s56, s57, s58, s59, s60, s61, s62, undef, undef, undef, undef, undef, undef, undef, undef, undef, undef, undef, undef, undef, undef, undef, undef, undef, undef, undef, undef, undef, undef, undef, undef, undef, undef, undef, undef, undef, undef, undef, undef, undef, undef, undef, undef, undef, undef, undef, undef, undef, undef, undef, undef, undef, undef, undef, undef, undef, undef, undef, undef, undef, undef, undef, undef, undef, undef, undef, undef, undef, undef, undef, undef, undef, undef, undef, undef, undef], defers := [] } ∧ RB w7 (.agg #[.int .i64 p.ver, .int .i64 p.par, .slice a1 p.secs.length c1, .slice a2 p.pts.length c2, .slice a3 p.sigs.length c3, .slice a4 p.rts.length c4]) (.agg #[.slice b1 st.tks.length d1, .slice b2 st.sws.length d2, .slice b3 st.lks.length d3]) (.agg #[.slice e1 x.s.length f1, .slice e2 x.p.length f2, .slice e3 x.g.length f3, .slice e4 x.r.length f4]) (.agg #[.slice i1 y.s.length j1, .slice i2 y.p.length j2, .slice i3 y.g.length j3, .slice i4 y.r.length j4]) (joinA x y) C E (f 0) (f 1) (f 2) (f 3) (f 4) (f 5) (f 6) (f 7) (f 8) (f 9) (f 10) s55 s56 s57 s58 s59 s60 s54 s61 s62 s14 s15 W9) ?_ ?_ ?_
          · exact ⟨_, _, _, _, _, _, _, _, _, _, _, rfl, { bel := ⟨rfl, rfl, rfl, Nat.le_refl _, fun _ _ => rfl⟩, h0 := by simp, h1 := by simp, h2 := by simp, h3 := by simp, h4 := by simp, h5 := by simp, h6 := by simp, h7 := by simp, h8 := by simp, h9 := by simp, h10 := by simp }⟩
          · intro i o ho f a W9 hI hd hun
            obtain ⟨s55, s56, s57, s58, s59, s60, s54, s61, s62, s14, s15, rfl, hS⟩ := hI
            have hBX := HBB.out _ _ BX7.out hS.bel
            have KW : Below w.heap.size w W9 := K7.out.trans (hS.bel.mono K7.out.size)
            rcases i with _ | _ | _ | _ | _ | _ | _ | _ | _ | _ | _ | i
            · simp at ho
              subst ho
              have pp0 : W9.cell? ⟨w.heap.size, 0, none⟩ = some (.int .i64 p.ver) := (cell_of_row W9 _ 0 _ _ _ (hBX).1).trans rfl
              have pp1 : W9.cell? ⟨w.heap.size, 1, none⟩ = some (.int .i64 p.par) := (cell_of_row W9 _ 1 _ _ _ (hBX).1).trans rfl
              have pp2 : W9.cell? ⟨w.heap.size, 2, none⟩ = some (.slice a1 p.secs.length c1) := (cell_of_row W9 _ 2 _ _ _ (hBX).1).trans rfl
              have pp3 : W9.cell? ⟨w.heap.size, 3, none⟩ = some (.slice a2 p.pts.length c2) := (cell_of_row W9 _ 3 _ _ _ (hBX).1).trans rfl
              have pp4 : W9.cell? ⟨w.heap.size, 4, none⟩ = some (.slice a3 p.sigs.length c3) := (cell_of_row W9 _ 4 _ _ _ (hBX).1).trans rfl
              have pp5 : W9.cell? ⟨w.heap.size, 5, none⟩ = some (.slice a4 p.rts.length c4) := (cell_of_row W9 _ 5 _ _ _ (hBX).1).trans rfl
              simp [wpOp, go_sem, pp0, pp1, pp2, pp3, pp4, pp5]
              exact .inl ⟨_, _, _, _, _, _, _, _, _, _, _, ⟨rfl, rfl, rfl, rfl, rfl, rfl, rfl, rfl, rfl, rfl, rfl⟩, { hS with h0 := fun _ => rfl }⟩
            · simp at ho
              subst ho
              have ss0 : W9.cell? ⟨w.heap.size + 1, 0, none⟩ = some (.slice b1 st.tks.length d1) := (cell_of_row W9 _ 0 _ _ _ (hBX).2.1).trans rfl
              have ss1 : W9.cell? ⟨w.heap.size + 1, 1, none⟩ = some (.slice b2 st.sws.length d2) := (cell_of_row W9 _ 1 _ _ _ (hBX).2.1).trans rfl
              have ss2 : W9.cell? ⟨w.heap.size + 1, 2, none⟩ = some (.slice b3 st.lks.length d3) := (cell_of_row W9 _ 2 _ _ _ (hBX).2.1).trans rfl
              simp [wpOp, go_sem, ss0, ss1, ss2]
              exact .inl ⟨_, _, _, _, _, _, _, _, _, _, _, ⟨rfl, rfl, rfl, rfl, rfl, rfl, rfl, rfl, rfl, rfl, rfl⟩, { hS with h1 := fun _ => rfl }⟩
            · simp at ho
              subst ho
              have xx0 : W9.cell? ⟨w.heap.size + 1 + 1, 0, none⟩ = some (.slice e1 x.s.length f1) := (cell_of_row W9 _ 0 _ _ _ (hBX).2.2.1).trans rfl
              have xx1 : W9.cell? ⟨w.heap.size + 1 + 1, 1, none⟩ = some (.slice e2 x.p.length f2) := (cell_of_row W9 _ 1 _ _ _ (hBX).2.2.1).trans rfl
              have xx2 : W9.cell? ⟨w.heap.size + 1 + 1, 2, none⟩ = some (.slice e3 x.g.length f3) := (cell_of_row W9 _ 2 _ _ _ (hBX).2.2.1).trans rfl
              have xx3 : W9.cell? ⟨w.heap.size + 1 + 1, 3, none⟩ = some (.slice e4 x.r.length f4) := (cell_of_row W9 _ 3 _ _ _ (hBX).2.2.1).trans rfl
              simp [wpOp, go_sem, xx0, xx1, xx2, xx3]
              exact .inl ⟨_, _, _, _, _, _, _, _, _, _, _, ⟨rfl, rfl, rfl, rfl, rfl, rfl, rfl, rfl, rfl, rfl, rfl⟩, { hS with h2 := fun _ => rfl }⟩
            · simp at ho
              subst ho
              have yy0 : W9.cell? ⟨w.heap.size + 1 + 1 + 1, 0, none⟩ = some (.slice i1 y.s.length j1) := (cell_of_row W9 _ 0 _ _ _ (hBX).2.2.2).trans rfl
              have yy1 : W9.cell? ⟨w.heap.size + 1 + 1 + 1, 1, none⟩ = some (.slice i2 y.p.length j2) := (cell_of_row W9 _ 1 _ _ _ (hBX).2.2.2).trans rfl
              have yy2 : W9.cell? ⟨w.heap.size + 1 + 1 + 1, 2, none⟩ = some (.slice i3 y.g.length j3) := (cell_of_row W9 _ 2 _ _ _ (hBX).2.2.2).trans rfl
              have yy3 : W9.cell? ⟨w.heap.size + 1 + 1 + 1, 3, none⟩ = some (.slice i4 y.r.length j4) := (cell_of_row W9 _ 3 _ _ _ (hBX).2.2.2).trans rfl
              simp [wpOp, go_sem, yy0, yy1, yy2, yy3]
              exact .inl ⟨_, _, _, _, _, _, _, _, _, _, _, ⟨rfl, rfl, rfl, rfl, rfl, rfl, rfl, rfl, rfl, rfl, rfl⟩, { hS with h3 := fun _ => rfl }⟩
            · simp at ho
              subst ho
              obtain rfl := hS.h2 (hd ⟨2, .data⟩ (by simp) (by rfl))
              obtain rfl := hS.h3 (hd ⟨3, .data⟩ (by simp) (by rfl))
              have hc := HJO.out HSX.out HSY.out W9 KW
              simp [wpOp, go_sem]
              refine .inl (hc.mono ?_)
              rintro e w' ⟨z1, z2, z3, z4, rfl, hal, hb⟩
              simp [go_sem]
              exact ⟨_, _, _, _, _, _, _, _, _, _, _, ⟨rfl, rfl, rfl, rfl, rfl, rfl, rfl, rfl, rfl, rfl, rfl⟩, { RB.below hS hb with h4 := fun _ => ⟨_, _, _, _, rfl, hal⟩ }⟩
            · simp at ho
              subst ho
              obtain rfl := hS.h0 (hd ⟨0, .data⟩ (by simp) (by rfl))
              obtain rfl := hS.h1 (hd ⟨1, .data⟩ (by simp) (by rfl))
              obtain ⟨z1, z2, z3, z4, rfl, hal⟩ := hS.h4 (hd ⟨4, .data⟩ (by simp) (by rfl))
              have hc := HIJ.out HF.out HSF.out HSX.out HSY.out W9 KW z1 z2 z3 z4 hal
              simp [wpOp, go_sem]
              refine .inl (hc.mono ?_)
              rintro e w' ⟨rfl, hb⟩
              simp [go_sem]
              exact ⟨_, _, _, _, _, _, _, _, _, _, _, ⟨rfl, rfl, rfl, rfl, rfl, rfl, rfl, rfl, rfl, rfl, rfl⟩, { RB.below hS hb with h5 := fun _ => rfl }⟩
            · simp at ho
              subst ho
              obtain rfl := hS.h5 (hd ⟨5, .data⟩ (by simp) (by rfl))
              simp [wpOp, go_sem]
              exact .inl ⟨_, _, _, _, _, _, _, _, _, _, _, ⟨rfl, rfl, rfl, rfl, rfl, rfl, rfl, rfl, rfl, rfl, rfl⟩, { hS with h6 := fun _ => rfl }⟩
            · simp at ho
              subst ho
              obtain rfl := hS.h6 (hd ⟨6, .data⟩ (by simp) (by rfl))
              simp [wpOp, go_sem]
              exact .inl ⟨_, _, _, _, _, _, _, _, _, _, _, ⟨rfl, rfl, rfl, rfl, rfl, rfl, rfl, rfl, rfl, rfl, rfl⟩, { hS with h7 := fun _ => rfl }⟩
            · simp at ho
              subst ho
              obtain rfl := hS.h6 (hd ⟨6, .data⟩ (by simp) (by rfl))
              simp [wpOp, go_sem]
              exact .inl ⟨_, _, _, _, _, _, _, _, _, _, _, ⟨rfl, rfl, rfl, rfl, rfl, rfl, rfl, rfl, rfl, rfl, rfl⟩, { hS with h8 := fun _ => rfl }⟩
            · simp at ho
              subst ho
              obtain rfl := hS.h7 (hd ⟨7, .data⟩ (by simp) (by rfl))
              simp [wpOp, go_sem]
              exact .inl ⟨_, _, _, _, _, _, _, _, _, _, _, ⟨rfl, rfl, rfl, rfl, rfl, rfl, rfl, rfl, rfl, rfl, rfl⟩, { hS with h9 := fun _ => rfl }⟩
            · simp at ho
              subst ho
              obtain rfl := hS.h8 (hd ⟨8, .data⟩ (by simp) (by rfl))
              simp [wpOp, go_sem]
              exact .inl ⟨_, _, _, _, _, _, _, _, _, _, _, ⟨rfl, rfl, rfl, rfl, rfl, rfl, rfl, rfl, rfl, rfl, rfl⟩, { hS with h10 := fun _ => rfl }⟩
            · simp at ho
          · intro f a W9 hI hall
            obtain ⟨s55, s56, s57, s58, s59, s60, s54, s61, s62, s14, s15, rfl, hS⟩ := hI
            obtain rfl := hS.h9 (hall 9 (by decide))
            obtain rfl := hS.h10 (hall 10 (by decide))
            have hb8 := hS.bel
            obtain ⟨w8, rfl⟩ : ∃ w8 : World, w8 = W9 := ⟨_, rfl⟩
            clear hS hall
            have K8 : Hid (Below w.heap.size w w8) := K7.out.trans (hb8.mono K7.out.size)
            have BX8 := Lib.hid (HBB.out _ _ BX7.out hb8)
            clear hb8 K7 BX7
            have pp0 : w8.cell? ⟨w.heap.size, 0, none⟩ = some (.int .i64 p.ver) := (cell_of_row w8 _ 0 _ _ _ (BX8.out).1).trans rfl
            have pp1 : w8.cell? ⟨w.heap.size, 1, none⟩ = some (.int .i64 p.par) := (cell_of_row w8 _ 1 _ _ _ (BX8.out).1).trans rfl
            have pp2 : w8.cell? ⟨w.heap.size, 2, none⟩ = some (.slice a1 p.secs.length c1) := (cell_of_row w8 _ 2 _ _ _ (BX8.out).1).trans rfl
            have pp3 : w8.cell? ⟨w.heap.size, 3, none⟩ = some (.slice a2 p.pts.length c2) := (cell_of_row w8 _ 3 _ _ _ (BX8.out).1).trans rfl
            have pp4 : w8.cell? ⟨w.heap.size, 4, none⟩ = some (.slice a3 p.sigs.length c3) := (cell_of_row w8 _ 4 _ _ _ (BX8.out).1).trans rfl
            have pp5 : w8.cell? ⟨w.heap.size, 5, none⟩ = some (.slice a4 p.rts.length c4) := (cell_of_row w8 _ 5 _ _ _ (BX8.out).1).trans rfl
            have ss0 : w8.cell? ⟨w.heap.size + 1, 0, none⟩ = some (.slice b1 st.tks.length d1) := (cell_of_row w8 _ 0 _ _ _ (BX8.out).2.1).trans rfl
            have ss1 : w8.cell? ⟨w.heap.size + 1, 1, none⟩ = some (.slice b2 st.sws.length d2) := (cell_of_row w8 _ 1 _ _ _ (BX8.out).2.1).trans rfl
            have ss2 : w8.cell? ⟨w.heap.size + 1, 2, none⟩ = some (.slice b3 st.lks.length d3) := (cell_of_row w8 _ 2 _ _ _ (BX8.out).2.1).trans rfl
            have xx0 : w8.cell? ⟨w.heap.size + 1 + 1, 0, none⟩ = some (.slice e1 x.s.length f1) := (cell_of_row w8 _ 0 _ _ _ (BX8.out).2.2.1).trans rfl
            have xx1 : w8.cell? ⟨w.heap.size + 1 + 1, 1, none⟩ = some (.slice e2 x.p.length f2) := (cell_of_row w8 _ 1 _ _ _ (BX8.out).2.2.1).trans rfl
            have xx2 : w8.cell? ⟨w.heap.size + 1 + 1, 2, none⟩ = some (.slice e3 x.g.length f3) := (cell_of_row w8 _ 2 _ _ _ (BX8.out).2.2.1).trans rfl
            have xx3 : w8.cell? ⟨w.heap.size + 1 + 1, 3, none⟩ = some (.slice e4 x.r.length f4) := (cell_of_row w8 _ 3 _ _ _ (BX8.out).2.2.1).trans rfl
            go_wp2_with fail
            refine (HOD.out HF.out HSF.out HSX.out w8 K8.out).mono ?_
            rintro e w9 ⟨z1, z2, z3, z4, rfl, hal, hb9⟩
            obtain ⟨o1, n1, rfl, -⟩ := hal.s.at_
            obtain ⟨o2, n2, rfl, -⟩ := hal.p.at_
            obtain ⟨o3, n3, rfl, -⟩ := hal.g.at_
            obtain ⟨o4, n4, rfl, -⟩ := hal.r.at_
            clear pp0 pp1 pp2 pp3 pp4 pp5 ss0 ss1 ss2 xx0 xx1 xx2 xx3
            have K9 : Hid (Below w.heap.size w w9) := K8.out.trans (hb9.mono K8.out.size)
            have BX9 := Lib.hid (HBB.out _ _ BX8.out hb9)
            clear hb9 K8 BX8
            have HAL := Lib.hid hal
            clear hal
            go_upto_region 8 with fail
            generalize hW10 : World.alloc _ _ = W10
            have hb10 : Below w9.heap.size w9 W10 := by rw [← hW10]; exact (Below.refl _ _).alloc (Nat.le_refl _) _
            have HO10 : Hid (W10.heap[w9.heap.size]? = some (.cells #[.slice o1 O.s.length n1, .slice o2 O.p.length n2, .slice o3 O.g.length n3, .slice o4 O.r.length n4] 56 (0, 0))) := by show _ = _; rw [← hW10]; exact heap_alloc_new _ _
            have K10 : Hid (Below w.heap.size w W10) := K9.out.trans (hb10.mono K9.out.size)
            have BX10 := Lib.hid (HBB.out _ _ BX9.out hb10)
            have HAL10 := Lib.hid (HAL.out.below hb10)
            clear hb10 hW10 K9 BX9 HAL
            have HSA : Hid (∀ W, Below W10.heap.size W10 W → Calls Tryz.prog 44 #[.agg #[.slice o1 O.s.length n1, .slice o2 O.p.length n2, .slice o3 O.g.length n3, .slice o4 O.r.length n4], .agg #[.slice none 0 0, .slice none 0 0, .slice none 0 0, .slice none 0 0]] W fun e w' => e = .returned (.bool (sameA O zAr)) ∧ Below W.heap.size W w') := fun W hb => same_mid _ _ _ _ _ _ _ _ O zAr W (HAL10.out.below hb) (zAr_mem W) (HOS.out HSX.out).mid (by decide)
            have HHO : Hid (∀ W, Below W10.heap.size W10 W → ∀ k n : Int, 0 ≤ k → k ≤ 255 → Calls Tryz.prog 46 #[.agg #[.slice o1 O.s.length n1, .slice o2 O.p.length n2, .slice o3 O.g.length n3, .slice o4 O.r.length n4], .int .u8 k, .int .i64 n] W fun e w' => e = .returned (.bool (hasA O k n)) ∧ Below W.heap.size W w') := fun W hb k n k0 k1 => has_any _ _ _ _ O k n W (HAL10.out.below hb) (HOS.out HSX.out) k0 k1
            by_cases hE : E = 0
            · obtain ⟨hA, hC⟩ := HGOOD.out hE
              subst hE
              subst hC
              have HA := Lib.hid hA
              clear hA
              go_wp2_with fail
              go_loopg [18] 4 (fun g i wr => ∃ k : Nat, 1 ≤ k ∧ k ≤ 5 ∧ g = 5 - k ∧ i = .int .u8 k ∧ Below W10.heap.size W10 wr)
              case atStart => exact ⟨1, by decide, by decide, rfl, rfl, Below.refl _ _⟩
              case round =>
                obtain ⟨k, hk1, hk2, rfl, rfl, hb⟩ := hrel
                obtain ⟨wo, rfl⟩ : ∃ wo : World, wo = wr := ⟨_, rfl⟩
                have KO := Lib.hid hb
                clear hb
                by_cases hk4 : k ≤ 4
                · have hdk : decide ((k : Int) ≤ 4) = true := by simp; omega
                  go_wp2_with fail
                  go_loopg [19] 101 (fun g i wr => ∃ nn : Nat, nn ≤ 101 ∧ g = 101 - nn ∧ i = .int .i64 nn ∧ Below W10.heap.size W10 wr)
                  case atStart => exact ⟨0, by omega, by omega, rfl, KO.out⟩
                  case round =>
                    obtain ⟨nn, hn, rfl, rfl, hb⟩ := hrel
                    obtain ⟨wj, rfl⟩ : ∃ wj : World, wj = wr := ⟨_, rfl⟩
                    have KJ := Lib.hid hb
                    have KWJ : Hid (Below w.heap.size w wj) := K10.out.trans (hb.mono K10.out.size)
                    have hoj := (hb.block _ (lt_of_block HO10.out)).trans HO10.out
                    have BXJ := Lib.hid (HBB.out _ _ BX10.out hb)
                    clear hb
                    by_cases hnlt : nn < 101
                    · have hdn : decide ((nn : Int) < 101) = true := by simp; omega
                      have oo0 : wj.cell? ⟨w9.heap.size, 0, none⟩ = some (.slice o1 O.s.length n1) := (cell_of_row wj _ 0 _ _ _ (hoj)).trans rfl
                      have oo1 : wj.cell? ⟨w9.heap.size, 1, none⟩ = some (.slice o2 O.p.length n2) := (cell_of_row wj _ 1 _ _ _ (hoj)).trans rfl
                      have oo2 : wj.cell? ⟨w9.heap.size, 2, none⟩ = some (.slice o3 O.g.length n3) := (cell_of_row wj _ 2 _ _ _ (hoj)).trans rfl
                      have oo3 : wj.cell? ⟨w9.heap.size, 3, none⟩ = some (.slice o4 O.r.length n4) := (cell_of_row wj _ 3 _ _ _ (hoj)).trans rfl
                      have HC1 := Lib.hid (HHO.out wj KJ.out k nn (by omega) (by omega))
                      clear hoj
                      by_cases hh : hasA O k nn = true
                      · have hx2 := HHAS.out _ _ hh
                        rw [hh] at HC1
                        have HX2 := Lib.hid hx2
                        clear hh hx2
                        go_wp2_with fail
                        refine HC1.out.mono ?_
                        rintro e wk ⟨rfl, hbk⟩
                        have KK : Hid (Below W10.heap.size W10 wk) := KJ.out.trans (hbk.mono KJ.out.size)
                        have KWK : Hid (Below w.heap.size w wk) := KWJ.out.trans (hbk.mono KWJ.out.size)
                        have BXK := Lib.hid (HBB.out _ _ BXJ.out hbk)
                        have hc2 := HHX.out HSX.out wk KWK.out k nn (by omega) (by omega)
                        rw [HX2.out] at hc2
                        have HC2 := Lib.hid hc2
                        clear hbk oo0 oo1 oo2 oo3 hc2 HC1
                        have xx0 : wk.cell? ⟨w.heap.size + 1 + 1, 0, none⟩ = some (.slice e1 x.s.length f1) := (cell_of_row wk _ 0 _ _ _ (BXK.out).2.2.1).trans rfl
                        have xx1 : wk.cell? ⟨w.heap.size + 1 + 1, 1, none⟩ = some (.slice e2 x.p.length f2) := (cell_of_row wk _ 1 _ _ _ (BXK.out).2.2.1).trans rfl
                        have xx2 : wk.cell? ⟨w.heap.size + 1 + 1, 2, none⟩ = some (.slice e3 x.g.length f3) := (cell_of_row wk _ 2 _ _ _ (BXK.out).2.2.1).trans rfl
                        have xx3 : wk.cell? ⟨w.heap.size + 1 + 1, 3, none⟩ = some (.slice e4 x.r.length f4) := (cell_of_row wk _ 3 _ _ _ (BXK.out).2.2.1).trans rfl
                        go_wp2_with fail
                        refine HC2.out.mono ?_
                        rintro e wl ⟨rfl, hbl⟩
                        have KL : Hid (Below W10.heap.size W10 wl) := KK.out.trans (hbl.mono KK.out.size)
                        clear hbl xx0 xx1 xx2 xx3 HC2
                        go_wp2_with fail
                        go_roundg (101 - (nn + 1))
                        case measure => go_light; omega
                        case rel => go_light; exact ⟨nn + 1, by omega, by omega, by go_num, KL.out⟩
                      · rw [Bool.not_eq_true] at hh
                        rw [hh] at HC1
                        clear hh
                        go_wp2_with fail
                        refine HC1.out.mono ?_
                        rintro e wk ⟨rfl, hbk⟩
                        have KK : Hid (Below W10.heap.size W10 wk) := KJ.out.trans (hbk.mono KJ.out.size)
                        clear hbk oo0 oo1 oo2 oo3 HC1
                        go_wp2_with fail
                        go_roundg (101 - (nn + 1))
                        case measure => go_light; omega
                        case rel => go_light; exact ⟨nn + 1, by omega, by omega, by go_num, KK.out⟩
                    · have hdn : decide ((nn : Int) < 101) = false := by simp; omega
                      go_wp2_with fail
                      go_roundg (5 - (k + 1))
                      case measure => go_light; omega
                      case rel => go_light; exact ⟨k + 1, by omega, by omega, by omega, by go_num, KJ.out⟩
                · have hdk : decide ((k : Int) ≤ 4) = false := by simp; omega
                  have KWO : Hid (Below w.heap.size w wo) := K10.out.trans (KO.out.mono K10.out.size)
                  have hoj := (KO.out.block _ (lt_of_block HO10.out)).trans HO10.out
                  have oo0 : wo.cell? ⟨w9.heap.size, 0, none⟩ = some (.slice o1 O.s.length n1) := (cell_of_row wo _ 0 _ _ _ (hoj)).trans rfl
                  have oo1 : wo.cell? ⟨w9.heap.size, 1, none⟩ = some (.slice o2 O.p.length n2) := (cell_of_row wo _ 1 _ _ _ (hoj)).trans rfl
                  have oo2 : wo.cell? ⟨w9.heap.size, 2, none⟩ = some (.slice o3 O.g.length n3) := (cell_of_row wo _ 2 _ _ _ (hoj)).trans rfl
                  have oo3 : wo.cell? ⟨w9.heap.size, 3, none⟩ = some (.slice o4 O.r.length n4) := (cell_of_row wo _ 3 _ _ _ (hoj)).trans rfl
                  have hsa := HSA.out wo KO.out
                  rw [← HA.out] at hsa
                  have HS2 := Lib.hid hsa
                  clear hsa hoj
                  go_wp2_with fail
                  refine HS2.out.mono ?_
                  rintro e w11 ⟨rfl, hb11⟩
                  have K11 : Hid (Below w.heap.size w w11) := KWO.out.trans (hb11.mono KWO.out.size)
                  clear hb11 HS2 HA
                  cases A <;> cases B
                  all_goals
                    go_wp2_with fail
                    go_ret
                    exact ⟨rfl, K11.out⟩
            · obtain ⟨rfl, rfl, rfl, rfl⟩ := HBAD.out hE
              have hsa := HSA.out W10 (Below.refl _ _)
              have e0 : sameA zAr zAr = true := by decide
              rw [e0] at hsa
              have HS2 := Lib.hid hsa
              have oo0 : W10.cell? ⟨w9.heap.size, 0, none⟩ = some (.slice o1 zAr.s.length n1) := (cell_of_row W10 _ 0 _ _ _ (HO10.out)).trans rfl
              have oo1 : W10.cell? ⟨w9.heap.size, 1, none⟩ = some (.slice o2 zAr.p.length n2) := (cell_of_row W10 _ 1 _ _ _ (HO10.out)).trans rfl
              have oo2 : W10.cell? ⟨w9.heap.size, 2, none⟩ = some (.slice o3 zAr.g.length n3) := (cell_of_row W10 _ 2 _ _ _ (HO10.out)).trans rfl
              have oo3 : W10.cell? ⟨w9.heap.size, 3, none⟩ = some (.slice o4 zAr.r.length n4) := (cell_of_row W10 _ 3 _ _ _ (HO10.out)).trans rfl
              clear hsa
              go_wp2_with fail
              refine HS2.out.mono ?_
              rintro e w11 ⟨rfl, hb11⟩
              have K11 : Hid (Below w.heap.size w w11) := K10.out.trans (hb11.mono K10.out.size)
              clear hb11 HS2
              go_wp2_with fail
              go_ret
              exact ⟨rfl, K11.out⟩
        · rw [decide_eq_false sy]
          simp only [Bool.not_false]
          go_wp2_with fail
          go_ret
          exact ⟨rfl, K5.out⟩
      · rw [decide_eq_false sx]
        simp only [Bool.not_false]
        go_wp2_with fail
        go_ret
        exact ⟨rfl, K4.out⟩
end Go.Proofs.YtbiehpjhhopjaaaGreat
