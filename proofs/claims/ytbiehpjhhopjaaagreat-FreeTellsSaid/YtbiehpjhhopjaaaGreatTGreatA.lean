/-
 Whether an area is free, and what is odd of it, as the references have it, walked. (Written by wip/tools/gen_rwz.py.)
 The references' bounds on plans and states, walked.
-/
import Derived.Test.YtbiehpjhhopjaaaGreatTRwY
import Derived.Test.YtbiehpjhhopjaaaGreatTMem
import Derived.Deep.LoopGhost
import Derived.Deep.Light
set_option linter.unusedVariables false
set_option linter.unusedSimpArgs false
namespace Go.Proofs.YtbiehpjhhopjaaaGreat
open Go.RowKit Go.Sort
theorem box3 {w W : World} {a b c : Array Value} {A B C : TypeId} (h : ((w.alloc (.cells a A)).alloc (.cells b B)).alloc (.cells c C) = W) : Hid (Below w.heap.size w W) ∧ Hid (W.heap[w.heap.size]? = some (.cells a A (0, 0))) ∧ Hid (W.heap[w.heap.size + 1]? = some (.cells b B (0, 0))) ∧ Hid (W.heap[w.heap.size + 1 + 1]? = some (.cells c C (0, 0))) := by
 subst h
 refine ⟨Lib.hid ((((Below.refl _ _).alloc (Nat.le_refl _) _).alloc (by simp) _).alloc (by simp <;> omega) _), Lib.hid ((heap_alloc_old _ _ (by simp <;> omega)).trans ((heap_alloc_old _ _ (by simp)).trans (heap_alloc_new _ _))), Lib.hid ((heap_alloc_old _ _ (by simp)).trans (heap_alloc2_new _ _ _)), Lib.hid ?_⟩
 have := heap_alloc2_new (w.alloc (.cells a A)) (.cells b B) (.cells c C)
 simpa using this
theorem left_small (p : Pl) (st : St) (x : Ar) : (leftR p st x).small := by
 have h : ∀ f, (pick f).length ≤ 200 := fun f => Nat.le_trans (pickTo_len f 99) (by decide)
 unfold leftR
 refine ⟨?_, ?_, ?_, ?_⟩ <;> (dsimp only; exact h _)
theorem zAr_small : zAr.small := by unfold Ar.small zAr; simp
theorem al_zero (W : World) : AL W (.slice none 0 0) (.slice none 0 0) (.slice none 0 0) (.slice none 0 0) zAr := ⟨ILv.nil _, ILv.nil _, ILv.nil _, ILv.nil _⟩
set_option maxRecDepth 100000 in
set_option maxHeartbeats 4000000 in
theorem refIs (p : Pl) (st : St) (x : Ar) (s q gg rr t sw lk : Value) (u1 u2 u3 u4 : Value) (w : World) (hp : PlM w s q gg rr p) (hf : p.Fit) (hs : StM w t sw lk st) (hsf : st.fit) (hx : AL w u1 u2 u3 u4 x) (hxs : x.small) (h0 : ofErr p st = 0) :
  Calls Tryz.prog 90 #[plV p s q gg rr, stV t sw lk, .agg #[u1, u2, u3, u4]] w (BoolPost w (isFree p st x)) := by
 have HLF : Hid (∀ W, Below w.heap.size w W → Calls Tryz.prog 96 #[plV p s q gg rr, stV t sw lk, .agg #[u1, u2, u3, u4]] W (ArPost W (leftR p st x))) := fun W hb => refLeft p st x s q gg rr t sw lk u1 u2 u3 u4 W (hp.below hb) hf (hs.below hb) hsf (hx.below hb) hxs h0
 have HSM : Hid (∀ W v1 v2 v3 v4, AL W v1 v2 v3 v4 (leftR p st x) → Calls Tryz.prog 40 #[.agg #[v1, v2, v3, v4], .agg #[.slice none 0 0, .slice none 0 0, .slice none 0 0, .slice none 0 0]] W (BoolPost W (sameA (leftR p st x) zAr))) := fun W v1 v2 v3 v4 h => refsame_any _ _ _ _ _ _ _ _ _ _ W h (al_zero W) (left_small _ _ _) zAr_small
 have HE : Hid (isFree p st x = sameA (leftR p st x) zAr) := by show _ = _; unfold isFree; rw [left_eq h0, decide_eq_true h0, Bool.true_and]
 generalize isFree p st x = B at *
 generalize hS : sameA (leftR p st x) zAr = S at *
 clear hS
 generalize leftR p st x = LR at *
 obtain ⟨a1, k1, rfl, -⟩ := hp.secs
 obtain ⟨a2, k2, rfl, -⟩ := hp.pts
 obtain ⟨a3, k3, rfl, -⟩ := hp.sigs
 obtain ⟨a4, k4, rfl, -⟩ := hp.rts
 obtain ⟨b1, d1, rfl, -⟩ := hs.tks
 obtain ⟨b2, d2, rfl, -⟩ := hs.sws
 obtain ⟨b3, d3, rfl, -⟩ := hs.lks
 obtain ⟨e1, f1, rfl, -⟩ := hx.s.at_
 obtain ⟨e2, f2, rfl, -⟩ := hx.p.at_
 obtain ⟨e3, f3, rfl, -⟩ := hx.g.at_
 obtain ⟨e4, f4, rfl, -⟩ := hx.r.at_
 clear hp hf hs hsf hx hxs h0
 unfold plV stV at *
 go_enter Tryz.func90, Tryz.ntmps90
 go_upto_region 1 with fail
 generalize hW0 : World.alloc _ _ = W0
 obtain ⟨K0, HP0, HS0, HXX⟩ := box3 hW0
 clear hW0
 have KR : Hid (Below W0.heap.size W0 W0) := Below.refl _ _
 have bx0 := (KR.out.block _ (lt_of_block HP0.out)).trans HP0.out
 have bx1 := (KR.out.block _ (lt_of_block HS0.out)).trans HS0.out
 have bx2 := (KR.out.block _ (lt_of_block HXX.out)).trans HXX.out
 obtain ⟨pp0, pp1, pp2, pp3, pp4, pp5⟩ := cells6 (bx0)
 obtain ⟨ss0, ss1, ss2⟩ := cells3 (bx1)
 obtain ⟨xx0, xx1, xx2, xx3⟩ := cells4 (bx2)
 have lp := block_lt_of_cell pp0
 have ls := block_lt_of_cell ss0
 have lx := block_lt_of_cell xx0
 clear bx0 bx1 bx2
 go_wp2_with fail
 refine (HLF.out W0 K0.out).mono ?_
 rintro e W1 ⟨v1, v2, v3, v4, rfl, hal, hb⟩
 have KW : Hid (Below w.heap.size w W1) := K0.out.trans (hb.mono K0.out.size)
 have HC := Lib.hid (HSM.out W1 v1 v2 v3 v4 hal)
 clear hb hal
 clear pp0 pp1 pp2 pp3 pp4 pp5 ss0 ss1 ss2 xx0 xx1 xx2 xx3 lp ls lx
 go_wp2_with fail
 refine HC.out.mono ?_
 rintro e W2 ⟨rfl, hb⟩
 have KW2 : Hid (Below w.heap.size w W2) := KW.out.trans (hb.mono KW.out.size)
 clear hb HC
 go_wp2_with fail
 go_ret
 exact ⟨by rw [HE.out]; rfl, KW2.out⟩
set_option maxRecDepth 100000 in
set_option maxHeartbeats 4000000 in
theorem refTold (p : Pl) (st : St) (x : Ar) (s q gg rr t sw lk : Value) (u1 u2 u3 u4 : Value) (w : World) (hp : PlM w s q gg rr p) (hf : p.Fit) (hs : StM w t sw lk st) (hsf : st.fit) (hx : AL w u1 u2 u3 u4 x) (hxs : x.small) :
  Calls Tryz.prog 37 #[plV p s q gg rr, stV t sw lk, .agg #[u1, u2, u3, u4]] w (IsPost w (isFree p st x) (ofErr p st)) := by
 have HCK : Hid (∀ W, Below w.heap.size w W → Calls Tryz.prog 89 #[plV p s q gg rr, stV t sw lk] W (ErrPost W (ofErr p st))) := fun W hb => refCheck p st s q gg rr t sw lk W (hp.below hb) hf (hs.below hb) hsf
 have HIS : Hid (ofErr p st = 0 → ∀ W, Below w.heap.size w W → Calls Tryz.prog 90 #[plV p s q gg rr, stV t sw lk, .agg #[u1, u2, u3, u4]] W (BoolPost W (isFree p st x))) := fun h0 W hb => refIs p st x s q gg rr t sw lk u1 u2 u3 u4 W (hp.below hb) hf (hs.below hb) hsf (hx.below hb) hxs h0
 have HNO : Hid (ofErr p st ≠ 0 → isFree p st x = false) := fun h => by unfold isFree; rw [decide_eq_false h]; rfl
 generalize isFree p st x = B at *
 generalize ofErr p st = E at *
 obtain ⟨a1, k1, rfl, -⟩ := hp.secs
 obtain ⟨a2, k2, rfl, -⟩ := hp.pts
 obtain ⟨a3, k3, rfl, -⟩ := hp.sigs
 obtain ⟨a4, k4, rfl, -⟩ := hp.rts
 obtain ⟨b1, d1, rfl, -⟩ := hs.tks
 obtain ⟨b2, d2, rfl, -⟩ := hs.sws
 obtain ⟨b3, d3, rfl, -⟩ := hs.lks
 obtain ⟨e1, f1, rfl, -⟩ := hx.s.at_
 obtain ⟨e2, f2, rfl, -⟩ := hx.p.at_
 obtain ⟨e3, f3, rfl, -⟩ := hx.g.at_
 obtain ⟨e4, f4, rfl, -⟩ := hx.r.at_
 clear hp hf hs hsf hx hxs
 unfold plV stV at *
 go_enter Tryz.func37, Tryz.ntmps37
 go_upto_region 1 with fail
 generalize hW0 : World.alloc _ _ = W0
 obtain ⟨K0, HP0, HS0, HXX⟩ := box3 hW0
 clear hW0
 have KR : Hid (Below W0.heap.size W0 W0) := Below.refl _ _
 have bx0 := (KR.out.block _ (lt_of_block HP0.out)).trans HP0.out
 have bx1 := (KR.out.block _ (lt_of_block HS0.out)).trans HS0.out
 have bx2 := (KR.out.block _ (lt_of_block HXX.out)).trans HXX.out
 obtain ⟨pp0, pp1, pp2, pp3, pp4, pp5⟩ := cells6 (bx0)
 obtain ⟨ss0, ss1, ss2⟩ := cells3 (bx1)
 obtain ⟨xx0, xx1, xx2, xx3⟩ := cells4 (bx2)
 have lp := block_lt_of_cell pp0
 have ls := block_lt_of_cell ss0
 have lx := block_lt_of_cell xx0
 clear bx0 bx1 bx2
 go_wp2_with fail
 refine (HCK.out W0 K0.out).mono ?_
 rintro e W1 ⟨rfl, hb⟩
 have HB1 : Hid (Below W0.heap.size W0 W1) := hb
 have KW : Hid (Below w.heap.size w W1) := K0.out.trans (hb.mono K0.out.size)
 clear hb
 clear pp0 pp1 pp2 pp3 pp4 pp5 ss0 ss1 ss2 xx0 xx1 xx2 xx3 lp ls lx
 by_cases hE : E = 0
 ·subst hE
  have bx0 := (HB1.out.block _ (lt_of_block HP0.out)).trans HP0.out
  have bx1 := (HB1.out.block _ (lt_of_block HS0.out)).trans HS0.out
  have bx2 := (HB1.out.block _ (lt_of_block HXX.out)).trans HXX.out
  obtain ⟨pp0, pp1, pp2, pp3, pp4, pp5⟩ := cells6 (bx0)
  obtain ⟨ss0, ss1, ss2⟩ := cells3 (bx1)
  obtain ⟨xx0, xx1, xx2, xx3⟩ := cells4 (bx2)
  have lp := block_lt_of_cell pp0
  have ls := block_lt_of_cell ss0
  have lx := block_lt_of_cell xx0
  clear bx0 bx1 bx2
  have HI2 := Lib.hid (HIS.out rfl)
  go_wp2_with fail
  refine (HI2.out W1 KW.out).mono ?_
  rintro e W2 ⟨rfl, hb⟩
  have KW2 : Hid (Below w.heap.size w W2) := KW.out.trans (hb.mono KW.out.size)
  clear hb
  clear pp0 pp1 pp2 pp3 pp4 pp5 ss0 ss1 ss2 xx0 xx1 xx2 xx3 lp ls lx
  go_wp2_with fail
  exact bodyPost_ret (v := .tuple #[.bool B, .int .i64 0]) (by simp [results, Tryz.f37, go_sem]) rfl ⟨rfl, KW2.out⟩
 ·have hd : (E == 0) = false := by rw [beq_eq_false_iff_ne]; exact hE
  have HV := Lib.hid (HNO.out hE)
  go_wp2_with fail
  exact bodyPost_ret (v := .tuple #[.bool false, .int .i64 E]) (by simp [results, Tryz.f37, go_sem]) rfl ⟨by rw [HV.out], KW.out⟩
set_option maxRecDepth 100000 in
set_option maxHeartbeats 4000000 in
theorem refOddA (p : Pl) (st : St) (x : Ar) (s q gg rr t sw lk : Value) (u1 u2 u3 u4 : Value) (w : World) (hp : PlM w s q gg rr p) (hf : p.Fit) (hs : StM w t sw lk st) (hsf : st.fit) (hx : AL w u1 u2 u3 u4 x) (hxs : x.small) :
  Calls Tryz.prog 39 #[plV p s q gg rr, stV t sw lk, .agg #[u1, u2, u3, u4]] w (OddPost w (oddA p st x) (ofErr p st)) := by
 have HCK : Hid (∀ W, Below w.heap.size w W → Calls Tryz.prog 89 #[plV p s q gg rr, stV t sw lk] W (ErrPost W (ofErr p st))) := fun W hb => refCheck p st s q gg rr t sw lk W (hp.below hb) hf (hs.below hb) hsf
 have HLF : Hid (ofErr p st = 0 → ∀ W, Below w.heap.size w W → Calls Tryz.prog 96 #[plV p s q gg rr, stV t sw lk, .agg #[u1, u2, u3, u4]] W (ArPost W (oddA p st x))) := fun h0 W hb => by
  have := refLeft p st x s q gg rr t sw lk u1 u2 u3 u4 W (hp.below hb) hf (hs.below hb) hsf (hx.below hb) hxs h0
  rw [← left_eq h0] at this
  exact this
 have HNO : Hid (ofErr p st ≠ 0 → oddA p st x = zAr) := fun h => by unfold oddA; rw [if_neg h]
 generalize oddA p st x = R at *
 generalize ofErr p st = E at *
 obtain ⟨a1, k1, rfl, -⟩ := hp.secs
 obtain ⟨a2, k2, rfl, -⟩ := hp.pts
 obtain ⟨a3, k3, rfl, -⟩ := hp.sigs
 obtain ⟨a4, k4, rfl, -⟩ := hp.rts
 obtain ⟨b1, d1, rfl, -⟩ := hs.tks
 obtain ⟨b2, d2, rfl, -⟩ := hs.sws
 obtain ⟨b3, d3, rfl, -⟩ := hs.lks
 obtain ⟨e1, f1, rfl, -⟩ := hx.s.at_
 obtain ⟨e2, f2, rfl, -⟩ := hx.p.at_
 obtain ⟨e3, f3, rfl, -⟩ := hx.g.at_
 obtain ⟨e4, f4, rfl, -⟩ := hx.r.at_
 clear hp hf hs hsf hx hxs
 unfold plV stV at *
 go_enter Tryz.func39, Tryz.ntmps39
 go_upto_region 1 with fail
 generalize hW0 : World.alloc _ _ = W0
 have K0 : Hid (Below w.heap.size w W0) := by show Below _ _ _; rw [← hW0]; exact ((((Below.refl _ _).alloc (Nat.le_refl _) _).alloc (by simp) _).alloc (by simp <;> omega) _).alloc (by simp <;> omega) _
 have HP0 : Hid (W0.heap[w.heap.size]? = some (.cells #[.int .i64 p.ver, .int .i64 p.par, .slice a1 p.secs.length k1, .slice a2 p.pts.length k2, .slice a3 p.sigs.length k3, .slice a4 p.rts.length k4] 28 (0, 0))) := by show _ = _; rw [← hW0]; exact (heap_alloc_old _ _ (by simp <;> omega)).trans ((heap_alloc_old _ _ (by simp <;> omega)).trans ((heap_alloc_old _ _ (by simp)).trans (heap_alloc_new _ _)))
 have HS0 : Hid (W0.heap[w.heap.size + 1]? = some (.cells #[.slice b1 st.tks.length d1, .slice b2 st.sws.length d2, .slice b3 st.lks.length d3] 33 (0, 0))) := by show _ = _; rw [← hW0]; exact (heap_alloc_old _ _ (by simp <;> omega)).trans ((heap_alloc_old _ _ (by simp)).trans (heap_alloc2_new _ _ _))
 have HXX : Hid (W0.heap[w.heap.size + 1 + 1]? = some (.cells #[.slice e1 x.s.length f1, .slice e2 x.p.length f2, .slice e3 x.g.length f3, .slice e4 x.r.length f4] 56 (0, 0))) := by
  show _ = _
  rw [← hW0]
  refine (heap_alloc_old _ _ (by simp <;> omega)).trans ?_
  have := heap_alloc2_new (w.alloc (.cells #[.int .i64 p.ver, .int .i64 p.par, .slice a1 p.secs.length k1, .slice a2 p.pts.length k2, .slice a3 p.sigs.length k3, .slice a4 p.rts.length k4] 28)) (.cells #[.slice b1 st.tks.length d1, .slice b2 st.sws.length d2, .slice b3 st.lks.length d3] 33) (.cells #[.slice e1 x.s.length f1, .slice e2 x.p.length f2, .slice e3 x.g.length f3, .slice e4 x.r.length f4] 56)
  simpa using this
 have HR0 : Hid (W0.heap[w.heap.size + 1 + 1 + 1]? = some (.cells #[.slice none 0 0, .slice none 0 0, .slice none 0 0, .slice none 0 0] 56 (0, 0))) := by
  show _ = _
  rw [← hW0]
  have := heap_alloc2_new ((w.alloc (.cells #[.int .i64 p.ver, .int .i64 p.par, .slice a1 p.secs.length k1, .slice a2 p.pts.length k2, .slice a3 p.sigs.length k3, .slice a4 p.rts.length k4] 28)).alloc (.cells #[.slice b1 st.tks.length d1, .slice b2 st.sws.length d2, .slice b3 st.lks.length d3] 33)) (.cells #[.slice e1 x.s.length f1, .slice e2 x.p.length f2, .slice e3 x.g.length f3, .slice e4 x.r.length f4] 56) (.cells #[.slice none 0 0, .slice none 0 0, .slice none 0 0, .slice none 0 0] 56)
  simpa using this
 clear hW0
 have KR : Hid (Below W0.heap.size W0 W0) := Below.refl _ _
 have bx0 := (KR.out.block _ (lt_of_block HP0.out)).trans HP0.out
 have bx1 := (KR.out.block _ (lt_of_block HS0.out)).trans HS0.out
 have bx2 := (KR.out.block _ (lt_of_block HXX.out)).trans HXX.out
 obtain ⟨pp0, pp1, pp2, pp3, pp4, pp5⟩ := cells6 (bx0)
 obtain ⟨ss0, ss1, ss2⟩ := cells3 (bx1)
 obtain ⟨xx0, xx1, xx2, xx3⟩ := cells4 (bx2)
 have lp := block_lt_of_cell pp0
 have ls := block_lt_of_cell ss0
 have lx := block_lt_of_cell xx0
 clear bx0 bx1 bx2
 go_wp2_with fail
 refine (HCK.out W0 K0.out).mono ?_
 rintro e W1 ⟨rfl, hb⟩
 have HB1 : Hid (Below W0.heap.size W0 W1) := hb
 have KW : Hid (Below w.heap.size w W1) := K0.out.trans (hb.mono K0.out.size)
 have HR1 := Lib.hid ((hb.block _ (lt_of_block HR0.out)).trans HR0.out)
 clear hb
 clear pp0 pp1 pp2 pp3 pp4 pp5 ss0 ss1 ss2 xx0 xx1 xx2 xx3 lp ls lx
 by_cases hE : E = 0
 ·subst hE
  have bx0 := (HB1.out.block _ (lt_of_block HP0.out)).trans HP0.out
  have bx1 := (HB1.out.block _ (lt_of_block HS0.out)).trans HS0.out
  have bx2 := (HB1.out.block _ (lt_of_block HXX.out)).trans HXX.out
  obtain ⟨pp0, pp1, pp2, pp3, pp4, pp5⟩ := cells6 (bx0)
  obtain ⟨ss0, ss1, ss2⟩ := cells3 (bx1)
  obtain ⟨xx0, xx1, xx2, xx3⟩ := cells4 (bx2)
  have lp := block_lt_of_cell pp0
  have ls := block_lt_of_cell ss0
  have lx := block_lt_of_cell xx0
  clear bx0 bx1 bx2
  have HI2 := Lib.hid (HLF.out rfl)
  go_wp2_with fail
  refine (HI2.out W1 KW.out).mono ?_
  rintro e W2 ⟨v1, v2, v3, v4, rfl, hal, hb⟩
  have KW2 : Hid (Below w.heap.size w W2) := KW.out.trans (hb.mono KW.out.size)
  have hr2 := (hb.block _ (lt_of_block HR1.out)).trans HR1.out
  have HR2 := Lib.hid hr2
  have HAL : Hid (AL W2 v1 v2 v3 v4 R) := hal
  clear hb hal hr2
  clear pp0 pp1 pp2 pp3 pp4 pp5 ss0 ss1 ss2 xx0 xx1 xx2 xx3 lp ls lx
  obtain ⟨g1, m1, rfl, -⟩ := HAL.out.s.at_
  obtain ⟨g2, m2, rfl, -⟩ := HAL.out.p.at_
  obtain ⟨g3, m3, rfl, -⟩ := HAL.out.g.at_
  obtain ⟨g4, m4, rfl, -⟩ := HAL.out.r.at_
  obtain ⟨zc0, zc1, zc2, zc3⟩ := cells4 (HR2.out)
  have zz : ∀ o, W2.frozen? ⟨w.heap.size + 1 + 1 + 1, o, none⟩ = false := fun o => frozen_of_row HR2.out o
  have lz := lt_of_block HR2.out
  go_wp2_with fail
  obtain ⟨WE, hWE⟩ : ∃ WE, WE = ((((W2.setCell ⟨w.heap.size + 1 + 1 + 1, 0, none⟩ (.slice g1 R.s.length m1)).setCell ⟨w.heap.size + 1 + 1 + 1, 1, none⟩ (.slice g2 R.p.length m2)).setCell ⟨w.heap.size + 1 + 1 + 1, 2, none⟩ (.slice g3 R.g.length m3)).setCell ⟨w.heap.size + 1 + 1 + 1, 3, none⟩ (.slice g4 R.r.length m4)) := ⟨_, rfl⟩
  rw [← hWE]
  have hrow : WE.heap[w.heap.size + 1 + 1 + 1]? = some (.cells #[.slice g1 R.s.length m1, .slice g2 R.p.length m2, .slice g3 R.g.length m3, .slice g4 R.r.length m4] 56 (0, 0)) := by rw [hWE]; exact (row_set (row_set (row_set (row_set HR2.out)))).trans rfl
  have hF : AL WE (.slice g1 R.s.length m1) (.slice g2 R.p.length m2) (.slice g3 R.g.length m3) (.slice g4 R.r.length m4) R := HAL.out.off HR2.out (fun k hk => by rw [hWE]; exact (Below.heap_setCell _ ⟨w.heap.size + 1 + 1 + 1, 3, none⟩ _ k hk).trans ((Below.heap_setCell _ ⟨w.heap.size + 1 + 1 + 1, 2, none⟩ _ k hk).trans ((Below.heap_setCell _ ⟨w.heap.size + 1 + 1 + 1, 1, none⟩ _ k hk).trans (Below.heap_setCell _ ⟨w.heap.size + 1 + 1 + 1, 0, none⟩ _ k hk))))
  have hK : Below w.heap.size w WE := by rw [hWE]; exact (((KW2.out.setCell (by simp <;> omega) _).setCell (by simp <;> omega) _).setCell (by simp <;> omega) _).setCell (by simp <;> omega) _
  obtain ⟨ww0, ww1, ww2, ww3⟩ := cells4 (hrow)
  exact bodyPost_ret (v := .tuple #[.agg #[.slice g1 R.s.length m1, .slice g2 R.p.length m2, .slice g3 R.g.length m3, .slice g4 R.r.length m4], .int .i64 0]) (by simp [results, Tryz.f39, go_sem, ww0, ww1, ww2, ww3]) rfl ⟨_, _, _, _, rfl, hF, hK⟩
 ·have hd : (E == 0) = false := by rw [beq_eq_false_iff_ne]; exact hE
  have HZ := Lib.hid (HNO.out hE)
  obtain ⟨z0, z1, z2, z3⟩ := cells4 (HR1.out)
  have zz : ∀ o, W1.frozen? ⟨w.heap.size + 1 + 1 + 1, o, none⟩ = false := fun o => by simp [World.frozen?, HR1.out]
  have lz := lt_of_block HR1.out
  go_wp2_with fail
  have s0 : W1.setCell ⟨w.heap.size + 1 + 1 + 1, 0, none⟩ (.slice none 0 0) = W1 := set_own HR1.out rfl
  have s1 : W1.setCell ⟨w.heap.size + 1 + 1 + 1, 1, none⟩ (.slice none 0 0) = W1 := set_own HR1.out rfl
  have s2 : W1.setCell ⟨w.heap.size + 1 + 1 + 1, 2, none⟩ (.slice none 0 0) = W1 := set_own HR1.out rfl
  have s3 : W1.setCell ⟨w.heap.size + 1 + 1 + 1, 3, none⟩ (.slice none 0 0) = W1 := set_own HR1.out rfl
  rw [s0, s1, s2, s3]
  exact bodyPost_ret (v := .tuple #[.agg #[.slice none 0 0, .slice none 0 0, .slice none 0 0, .slice none 0 0], .int .i64 E]) (by simp [results, Tryz.f39, go_sem, z0, z1, z2, z3]) rfl ⟨_, _, _, _, rfl, by rw [HZ.out]; exact al_zero _, KW.out⟩
end Go.Proofs.YtbiehpjhhopjaaaGreat
namespace Go.Proofs.YtbiehpjhhopjaaaGreat
open Go.RowKit
def FalsePost (w : World) (R : Prop) (e : Ending) (w' : World) : Prop := ∃ b, e = .returned (.bool b) ∧ (b = false → R) ∧ Below w.heap.size w w'
set_option maxHeartbeats 1000000 in
theorem secgreat_any (a : Option Addr) (cap : Nat) (l : List Sec) (w : World) (hl : SlA w 3 RSec a cap l) :
  Calls Tryz.prog 88 #[.slice a l.length cap] w (FalsePost w (l.length ≤ 40 ∧ ∀ i (h : i < l.length), l[i].ends.length ≤ 20)) := by
 have HL : Hid (∀ w', Below w.heap.size w w' → SlA w' 3 RSec a cap l) := fun w' hb => hl.below keeps_sec hb
 clear hl
 go_enter Tryz.func88, Tryz.ntmps88
 go_wp2_with fail
 go_loopg [3] 40 (fun g i wr => ∃ k : Nat, k ≤ 40 ∧ k ≤ l.length ∧ g = 40 - k ∧ i = .int .i64 k ∧ Below w.heap.size w wr ∧ ∀ j (h : j < l.length), j < k → l[j].ends.length ≤ 20)
 case atStart => exact ⟨0, by omega, by omega, by omega, rfl, Below.refl _ _, fun j h hj => by omega⟩
 case round =>
  obtain ⟨k, hk, hkl, rfl, rfl, hb, hA⟩ := hrel
  obtain ⟨wo, rfl⟩ : ∃ wo : World, wo = wr := ⟨_, rfl⟩
  have HB := Lib.hid hb
  have HA := Lib.hid hA
  clear hb hA
  by_cases hlt : k < l.length
  ·have hd1 : decide ((k : Int) < (l.length : Int)) = true := by simp; omega
   by_cases h40 : k < 40
   ·have hd2 : decide ((k : Int) < 40) = true := by simp; omega
    obtain ⟨b, off, a', c', rfl, x0, x1, x2, hends⟩ := (HL.out _ HB.out).sec hlt
    have c0 : (0 : Int) ≤ (k : Int) := by omega
    have c1 : (k : Int) < (l.length : Int) := by omega
    have l1 := World.block_lt_of_cell? _ _ x0
    clear hends
    by_cases hbig : 20 < l[k].ends.length
    ·have hd3 : decide ((20 : Int) < (l[k].ends.length : Int)) = true := by simp; omega
     go_wp2_with fail
     go_ret
     exact ⟨true, rfl, (fun h => nomatch h), HB.out⟩
    ·have hd3 : decide ((20 : Int) < (l[k].ends.length : Int)) = false := by simp; omega
     have HST : Hid (∀ j (h : j < l.length), j < k + 1 → l[j].ends.length ≤ 20) := fun j h hj => by
      by_cases hjk : j < k
      ·exact HA.out j h hjk
      ·obtain rfl : j = k := by omega
       omega
     go_wp2_with fail
     go_roundg (40 - (k + 1))
     case measure => go_light; omega
     case rel => go_light; exact ⟨k + 1, by omega, by omega, by omega, by go_num, HB.out, HST.out⟩
   ·have hd2 : decide ((k : Int) < 40) = false := by simp; omega
    by_cases hbig : 40 < l.length
    ·have hd3 : decide ((40 : Int) < (l.length : Int)) = true := by simp; omega
     go_wp2_with fail
     go_ret
     exact ⟨true, rfl, (fun h => nomatch h), HB.out⟩
    ·exact absurd hlt (by omega)
  ·have hd1 : decide ((k : Int) < (l.length : Int)) = false := by simp; omega
   obtain rfl : k = l.length := by omega
   have hd3 : decide ((40 : Int) < (l.length : Int)) = false := by simp; omega
   go_wp2_with fail
   go_ret
   exact ⟨false, rfl, fun _ => ⟨hk, fun i h => HA.out i h h⟩, HB.out⟩
set_option maxHeartbeats 1000000 in
theorem stgreat_any (t s l : Value) (x : St) (w : World) (hx : StM w t s l x) : Calls Tryz.prog 34 #[.agg #[t, s, l]] w (FalsePost w x.fit) := by
 obtain ⟨a1, c1, rfl, -⟩ := hx.tks
 obtain ⟨a2, c2, rfl, -⟩ := hx.sws
 obtain ⟨a3, c3, rfl, -⟩ := hx.lks
 clear hx
 have HF : Hid (x.tks.length ≤ 200 → x.sws.length ≤ 200 → x.lks.length ≤ 200 → x.fit) := fun h1 h2 h3 => ⟨by omega, by omega, by omega⟩
 go_enter Tryz.func34, Tryz.ntmps34
 go_wp2_with fail
 all_goals
  go_ret
  refine ⟨_, rfl, fun h => ?_, (Below.refl _ _).alloc (Nat.le_refl _) _⟩
  simp at h <;> exact HF.out (by omega) (by omega) (by omega)
set_option maxHeartbeats 2000000 in
theorem plgreat_any (p : Pl) (s q gg rr : Value) (w : World) (hp : PlM w s q gg rr p) : Calls Tryz.prog 33 #[plV p s q gg rr] w (FalsePost w p.Fit) := by
 have HSG : Hid (∀ w', Below w.heap.size w w' → Calls Tryz.prog 88 #[s] w' (FalsePost w' (p.secs.length ≤ 40 ∧ ∀ i (h : i < p.secs.length), p.secs[i].ends.length ≤ 20))) := fun w' hb => by
  obtain ⟨a, c, rfl, h⟩ := (hp.below hb).secs
  exact secgreat_any a c p.secs w' h
 obtain ⟨a1, c1, rfl, -⟩ := hp.secs
 obtain ⟨a2, c2, rfl, -⟩ := hp.pts
 obtain ⟨a3, c3, rfl, -⟩ := hp.sigs
 obtain ⟨a4, c4, rfl, hr⟩ := hp.rts
 have HR : Hid (∀ w', Below w.heap.size w w' → SlA w' 7 RRt a4 c4 p.rts) := fun w' hb => hr.below keeps_rt hb
 have HF : Hid ((p.secs.length ≤ 40 ∧ ∀ i (h : i < p.secs.length), p.secs[i].ends.length ≤ 20) → p.pts.length ≤ 40 → p.sigs.length ≤ 40 → p.rts.length ≤ 40 → (∀ i (h : i < p.rts.length), p.rts[i].path.length ≤ 20 ∧ p.rts[i].over.length ≤ 20 ∧ p.rts[i].fl.length ≤ 20) → p.Fit) := fun h1 h2 h3 h4 h5 =>
  ⟨by omega, fun i h => by have := h1.2 i h; omega, by omega, by omega, by omega, fun i h => by have := h5 i h; exact ⟨by omega, by omega, by omega⟩⟩
 clear hp hr
 unfold plV at *
 go_enter Tryz.func33, Tryz.ntmps33
 go_upto_region 1 with fail
 generalize hW0 : World.alloc _ _ = W0
 have K0 : Hid (Below w.heap.size w W0) := by show Below _ _ _; rw [← hW0]; exact (Below.refl _ _).alloc (Nat.le_refl _) _
 have HBP : Hid (W0.heap[w.heap.size]? = some (.cells #[.int .i64 p.ver, .int .i64 p.par, .slice a1 p.secs.length c1, .slice a2 p.pts.length c2, .slice a3 p.sigs.length c3, .slice a4 p.rts.length c4] 28 (0, 0))) := by
  show _ = _; rw [← hW0]; exact heap_alloc_new _ _
 clear hW0
 go_wp2_with fail
 go_loopg [3] 40 (fun g i wr => ∃ k : Nat, k ≤ 40 ∧ k ≤ p.rts.length ∧ g = 40 - k ∧ i = .int .i64 k ∧ Below W0.heap.size W0 wr ∧ ∀ j (h : j < p.rts.length), j < k → p.rts[j].path.length ≤ 20 ∧ p.rts[j].over.length ≤ 20 ∧ p.rts[j].fl.length ≤ 20)
 case atStart => exact ⟨0, by omega, by omega, by omega, rfl, Below.refl _ _, fun j h hj => by omega⟩
 case round =>
  obtain ⟨k, hk, hkl, rfl, rfl, hb, hA⟩ := hrel
  obtain ⟨wo, rfl⟩ : ∃ wo : World, wo = wr := ⟨_, rfl⟩
  have KB : Hid (Below w.heap.size w wo) := K0.out.trans (hb.mono K0.out.size)
  have hbp := (hb.block _ (lt_of_block HBP.out)).trans HBP.out
  have pp2 : wo.cell? ⟨w.heap.size, 2, none⟩ = some (.slice a1 p.secs.length c1) := (cell_of_row wo _ 2 _ _ _ hbp).trans rfl
  have pp3 : wo.cell? ⟨w.heap.size, 3, none⟩ = some (.slice a2 p.pts.length c2) := (cell_of_row wo _ 3 _ _ _ hbp).trans rfl
  have pp4 : wo.cell? ⟨w.heap.size, 4, none⟩ = some (.slice a3 p.sigs.length c3) := (cell_of_row wo _ 4 _ _ _ hbp).trans rfl
  have pp5 : wo.cell? ⟨w.heap.size, 5, none⟩ = some (.slice a4 p.rts.length c4) := (cell_of_row wo _ 5 _ _ _ hbp).trans rfl
  have HBPo := Lib.hid hbp
  have HB := Lib.hid hb
  have HA := Lib.hid hA
  clear hb hA hbp
  have key : Hid (¬ (k < p.rts.length ∧ k < 40) → (p.rts.length ≤ 40 → ∀ i (h : i < p.rts.length), p.rts[i].path.length ≤ 20 ∧ p.rts[i].over.length ≤ 20 ∧ p.rts[i].fl.length ≤ 20)) := fun h1 h2 i h => HA.out i h (by omega)
  by_cases hin : k < p.rts.length ∧ k < 40
  ·have hd1 : decide ((k : Int) < (p.rts.length : Int)) = true := by simp; omega
   have hd2 : decide ((k : Int) < 40) = true := by simp; omega
   have hlt := hin.1
   obtain ⟨b, off, vp, vo, vf, rfl, r0, r1, r2, r3, r4, r5, r6, hrm⟩ := (HR.out _ KB.out).rt hlt
   obtain ⟨ap, np, cp, rfl, ip⟩ := hrm.path
   obtain ⟨ao, no, co, rfl, io⟩ := hrm.over
   obtain rfl := ip.len
   obtain rfl := io.len
   obtain ⟨af, cf, rfl, -⟩ := hrm.fl
   have e0 : (0 : Int) ≤ (k : Int) := by omega
   have e1 : (k : Int) < (p.rts.length : Int) := by omega
   have l9 := World.block_lt_of_cell? _ _ r0
   clear hrm
   by_cases h1 : 20 < p.rts[k].path.length
   ·have t1 : decide ((20 : Int) < (p.rts[k].path.length : Int)) = true := by simp; omega
    go_wp2_with fail
    go_ret
    exact ⟨true, rfl, (fun h => nomatch h), KB.out⟩
   ·have t1 : decide ((20 : Int) < (p.rts[k].path.length : Int)) = false := by simp; omega
    by_cases h2 : 20 < p.rts[k].over.length
    ·have t2 : decide ((20 : Int) < (p.rts[k].over.length : Int)) = true := by simp; omega
     go_wp2_with fail
     go_ret
     exact ⟨true, rfl, (fun h => nomatch h), KB.out⟩
    ·have t2 : decide ((20 : Int) < (p.rts[k].over.length : Int)) = false := by simp; omega
     by_cases h3 : 20 < p.rts[k].fl.length
     ·have t3 : decide ((20 : Int) < (p.rts[k].fl.length : Int)) = true := by simp; omega
      go_wp2_with fail
      go_ret
      exact ⟨true, rfl, (fun h => nomatch h), KB.out⟩
     ·have t3 : decide ((20 : Int) < (p.rts[k].fl.length : Int)) = false := by simp; omega
      have HST : Hid (∀ j (h : j < p.rts.length), j < k + 1 → p.rts[j].path.length ≤ 20 ∧ p.rts[j].over.length ≤ 20 ∧ p.rts[j].fl.length ≤ 20) := fun j h hj => by
       by_cases hjk : j < k
       ·exact HA.out j h hjk
       ·obtain rfl : j = k := by omega
        exact ⟨by omega, by omega, by omega⟩
      go_wp2_with fail
      go_roundg (40 - (k + 1))
      case measure => go_light; omega
      case rel => go_light; exact ⟨k + 1, by omega, by omega, by omega, by go_num, HB.out, HST.out⟩
  ·have HK := Lib.hid (key.out hin)
   clear key
   by_cases hin1 : k < p.rts.length
   ·have hd1 : decide ((k : Int) < (p.rts.length : Int)) = true := by simp; omega
    have hd2 : decide ((k : Int) < 40) = false := by simp; omega
    have hd4 : decide ((40 : Int) < (p.rts.length : Int)) = true := by simp; omega
    have hk40 : ¬ k < 40 := fun h => hin ⟨hin1, h⟩
    clear hin
    go_wp2_with fail
    refine (HSG.out _ KB.out).mono ?_
    rintro e w1 ⟨b, rfl, -, hb1⟩
    have K1 : Hid (Below w.heap.size w w1) := KB.out.trans (hb1.mono KB.out.size)
    have hbp := (hb1.block _ (lt_of_block HBPo.out)).trans HBPo.out
    clear hb1 pp2 pp3 pp4 pp5
    have pp3 : w1.cell? ⟨w.heap.size, 3, none⟩ = some (.slice a2 p.pts.length c2) := (cell_of_row w1 _ 3 _ _ _ hbp).trans rfl
    have pp4 : w1.cell? ⟨w.heap.size, 4, none⟩ = some (.slice a3 p.sigs.length c3) := (cell_of_row w1 _ 4 _ _ _ hbp).trans rfl
    have pp5 : w1.cell? ⟨w.heap.size, 5, none⟩ = some (.slice a4 p.rts.length c4) := (cell_of_row w1 _ 5 _ _ _ hbp).trans rfl
    clear hbp
    cases b with
    | true =>
     go_wp2_with fail
     go_ret
     exact ⟨true, rfl, (fun h => nomatch h), K1.out⟩
    | false =>
     by_cases h3 : 40 < p.pts.length
     ·have t1 : decide ((40 : Int) < (p.pts.length : Int)) = true := by simp; omega
      go_wp2_with fail
      go_ret
      exact ⟨true, rfl, (fun h => nomatch h), K1.out⟩
     ·have t1 : decide ((40 : Int) < (p.pts.length : Int)) = false := by simp; omega
      by_cases h4 : 40 < p.sigs.length
      ·have t2 : decide ((40 : Int) < (p.sigs.length : Int)) = true := by simp; omega
       go_wp2_with fail
       go_ret
       exact ⟨true, rfl, (fun h => nomatch h), K1.out⟩
      ·have t2 : decide ((40 : Int) < (p.sigs.length : Int)) = false := by simp; omega
       go_wp2_with fail
       go_ret
       exact ⟨true, rfl, (fun h => nomatch h), K1.out⟩
   ·have hd1 : decide ((k : Int) < (p.rts.length : Int)) = false := by simp; omega
    have h40 : p.rts.length ≤ 40 := by omega
    have hd4 : decide ((40 : Int) < (p.rts.length : Int)) = false := by simp; omega
    clear hin
    go_wp2_with fail
    refine (HSG.out _ KB.out).mono ?_
    rintro e w1 ⟨b, rfl, hR, hb1⟩
    have HRR := Lib.hid hR
    have K1 : Hid (Below w.heap.size w w1) := KB.out.trans (hb1.mono KB.out.size)
    have hbp := (hb1.block _ (lt_of_block HBPo.out)).trans HBPo.out
    clear hb1 pp2 pp3 pp4 pp5 hR
    have pp3 : w1.cell? ⟨w.heap.size, 3, none⟩ = some (.slice a2 p.pts.length c2) := (cell_of_row w1 _ 3 _ _ _ hbp).trans rfl
    have pp4 : w1.cell? ⟨w.heap.size, 4, none⟩ = some (.slice a3 p.sigs.length c3) := (cell_of_row w1 _ 4 _ _ _ hbp).trans rfl
    have pp5 : w1.cell? ⟨w.heap.size, 5, none⟩ = some (.slice a4 p.rts.length c4) := (cell_of_row w1 _ 5 _ _ _ hbp).trans rfl
    clear hbp
    cases b with
    | true =>
     go_wp2_with fail
     go_ret
     exact ⟨true, rfl, (fun h => nomatch h), K1.out⟩
    | false =>
     by_cases h3 : 40 < p.pts.length
     ·have t1 : decide ((40 : Int) < (p.pts.length : Int)) = true := by simp; omega
      go_wp2_with fail
      go_ret
      exact ⟨true, rfl, (fun h => nomatch h), K1.out⟩
     ·have t1 : decide ((40 : Int) < (p.pts.length : Int)) = false := by simp; omega
      by_cases h4 : 40 < p.sigs.length
      ·have t2 : decide ((40 : Int) < (p.sigs.length : Int)) = true := by simp; omega
       go_wp2_with fail
       go_ret
       exact ⟨true, rfl, (fun h => nomatch h), K1.out⟩
      ·have t2 : decide ((40 : Int) < (p.sigs.length : Int)) = false := by simp; omega
       go_wp2_with fail
       go_ret
       exact ⟨false, rfl, fun _ => HF.out (HRR.out trivial) (by omega) (by omega) h40 (HK.out h40), K1.out⟩
end Go.Proofs.YtbiehpjhhopjaaaGreat
