/-
 The references' check of a plan and a state, and whether an element is not free, walked. (Written by wip/tools/gen_rww.py.)
 Four rows of one's own: one grows, the others stay. The numbers of 1 to k that are so.
-/
import Derived.Test.YtbiehpjhhopjaaaGreatTRwV
import Derived.Test.YtbiehpjhhopjaaaGreatTRwM
import Derived.Test.YtbiehpjhhopjaaaGreatTRefC
set_option linter.unusedVariables false
set_option linter.unusedSimpArgs false
namespace Go.Proofs.YtbiehpjhhopjaaaGreat
open Go.RowKit Go.Sort
theorem ofErr_ref (p : Pl) (st : St) : ofErr p st = if PlanSound p then (if StSound p st then 0 else 8) else 100 := by
 unfold ofErr
 by_cases h : PlanSound p
 ·rw [if_pos h, if_pos h]
  by_cases h2 : StMay p st
  ·rw [if_pos h2, if_pos (show StSound p st from ⟨h, (stmay_iff h).1 h2⟩)]
  ·rw [if_neg h2, if_neg (show ¬ StSound p st from fun h3 => h2 ((stmay_iff h).2 h3.2))]
 ·rw [if_neg h, if_neg h]
set_option maxRecDepth 100000 in
set_option maxHeartbeats 4000000 in
theorem refCheck (p : Pl) (st : St) (s q gg rr t sw lk : Value) (w : World) (hp : PlM w s q gg rr p) (hf : p.Fit) (hs : StM w t sw lk st) (hsf : st.fit) :
  Calls Tryz.prog 89 #[plV p s q gg rr, stV t sw lk] w (ErrPost w (ofErr p st)) := by
 have HPS : Hid (∀ W, Below w.heap.size w W → Calls Tryz.prog 62 #[plV p s q gg rr] W (BoolPost W (decide (PlanSound p)))) := fun W hb => refPlan p s q gg rr W (hp.below hb) hf
 have HPM : Hid (∀ W, Below w.heap.size w W → Calls Tryz.prog 133 #[plV p s q gg rr, stV t sw lk] W (BoolPost W (decide (StSound p st)))) := fun W hb => refStMay p st s q gg rr t sw lk W (hp.below hb) hf (hs.below hb) hsf
 rw [ofErr_ref]
 generalize hR : (if PlanSound p then (if StSound p st then (0 : Int) else 8) else 100) = R
 have HR := Lib.hid hR
 clear hR
 obtain ⟨a1, k1, rfl, g1⟩ := hp.secs
 obtain ⟨a2, k2, rfl, g2⟩ := hp.pts
 obtain ⟨a3, k3, rfl, -⟩ := hp.sigs
 obtain ⟨a4, k4, rfl, g4⟩ := hp.rts
 obtain ⟨b1, d1, rfl, g5⟩ := hs.tks
 obtain ⟨b2, d2, rfl, -⟩ := hs.sws
 obtain ⟨b3, d3, rfl, g7⟩ := hs.lks
 clear hp hf hs hsf g1 g2 g4 g5 g7
 unfold plV stV at *
 go_enter Tryz.func89, Tryz.ntmps89
 go_upto_region 1 with fail
 generalize hW0 : World.alloc _ _ = W0
 have K0 : Hid (Below w.heap.size w W0) := by show Below _ _ _; rw [← hW0]; exact ((Below.refl _ _).alloc (Nat.le_refl _) _).alloc (by simp) _
 have HP0 : Hid (W0.heap[w.heap.size]? = some (.cells #[.int .i64 p.ver, .int .i64 p.par, .slice a1 p.secs.length k1, .slice a2 p.pts.length k2, .slice a3 p.sigs.length k3, .slice a4 p.rts.length k4] 28 (0, 0))) := by show _ = _; rw [← hW0]; exact (heap_alloc_old _ _ (by simp)).trans (heap_alloc_new _ _)
 have HS0 : Hid (W0.heap[w.heap.size + 1]? = some (.cells #[.slice b1 st.tks.length d1, .slice b2 st.sws.length d2, .slice b3 st.lks.length d3] 33 (0, 0))) := by show _ = _; rw [← hW0]; exact heap_alloc2_new _ _ _
 clear hW0
 have KR : Hid (Below W0.heap.size W0 W0) := Below.refl _ _
 have bx0 := (KR.out.block _ (lt_of_block HP0.out)).trans HP0.out
 have bx1 := (KR.out.block _ (lt_of_block HS0.out)).trans HS0.out
 obtain ⟨pp0, pp1, pp2, pp3, pp4, pp5⟩ := cells6 (bx0)
 obtain ⟨ss0, ss1, ss2⟩ := cells3 (bx1)
 have lb := block_lt_of_cell pp0
 have ls := block_lt_of_cell ss0
 clear bx0 bx1
 by_cases hPS : PlanSound p
 ·rw [decide_eq_true hPS] at HPS
  have HE0 : Hid (R = if StSound p st then (0 : Int) else 8) := by rw [← HR.out, if_pos hPS]; rfl
  clear HR hPS
  go_wp2_with fail
  refine (HPS.out W0 K0.out).mono ?_
  rintro e W1 ⟨rfl, hb⟩
  have HB1 : Hid (Below W0.heap.size W0 W1) := hb
  have KB1 : Hid (Below w.heap.size w W1) := K0.out.trans (hb.mono K0.out.size)
  clear hb
  clear pp0 pp1 pp2 pp3 pp4 pp5 ss0 ss1 ss2 lb ls
  have bx0 := (HB1.out.block _ (lt_of_block HP0.out)).trans HP0.out
  have bx1 := (HB1.out.block _ (lt_of_block HS0.out)).trans HS0.out
  obtain ⟨pp0, pp1, pp2, pp3, pp4, pp5⟩ := cells6 (bx0)
  obtain ⟨ss0, ss1, ss2⟩ := cells3 (bx1)
  have lb := block_lt_of_cell pp0
  have ls := block_lt_of_cell ss0
  clear bx0 bx1
  by_cases hM : StSound p st
  ·rw [decide_eq_true hM] at HPM
   have HE : Hid (R = 0) := by rw [HE0.out, if_pos hM]; rfl
   clear HE0 hM
   go_wp2_with fail
   refine (HPM.out W1 KB1.out).mono ?_
   rintro e W2 ⟨rfl, hb⟩
   have HB2 : Hid (Below w.heap.size w W2) := KB1.out.trans (hb.mono KB1.out.size)
   clear hb
   go_wp2_with fail
   go_ret
   exact ⟨by rw [HE.out]; rfl, HB2.out⟩
  ·rw [decide_eq_false hM] at HPM
   have HE : Hid (R = 8) := by rw [HE0.out, if_neg hM]; rfl
   clear HE0 hM
   go_wp2_with fail
   refine (HPM.out W1 KB1.out).mono ?_
   rintro e W2 ⟨rfl, hb⟩
   have HB2 : Hid (Below w.heap.size w W2) := KB1.out.trans (hb.mono KB1.out.size)
   clear hb
   go_wp2_with fail
   go_ret
   exact ⟨by rw [HE.out]; rfl, HB2.out⟩
 ·rw [decide_eq_false hPS] at HPS
  have HE : Hid (R = 100) := by rw [← HR.out, if_neg hPS]; rfl
  clear HR hPS
  go_wp2_with fail
  refine (HPS.out W0 K0.out).mono ?_
  rintro e W1 ⟨rfl, hb⟩
  have KB1 : Hid (Below w.heap.size w W1) := K0.out.trans (hb.mono K0.out.size)
  clear hb
  go_wp2_with fail
  go_ret
  exact ⟨by rw [HE.out]; rfl, KB1.out⟩
theorem oneFix {α : Type} (f : α → Int) (l : List α) (n : Int) : (fix (fun x => decide (f x = n)) l = -1 ∧ isOne f l n = false) ∨ ∃ k, ∃ h : k < l.length, fix (fun x => decide (f x = n)) l = (k : Int) ∧ isOne f l n = true ∧ plIx f l n = k := by
 rcases fix_cases (fun x => decide (f x = n)) l with ⟨h1, h2⟩ | ⟨k, hk, e, h1, h2⟩
 ·refine .inl ⟨h1, ?_⟩
  unfold isOne
  rw [List.any_eq_false]
  intro x hx
  obtain ⟨i, hi, rfl⟩ := List.getElem_of_mem hx
  have := h2 i hi
  simpa using this
 ·refine .inr ⟨k, hk, e, ?_, by unfold plIx; rw [e]; rfl⟩
  unfold isOne
  rw [List.any_eq_true]
  exact ⟨l[k], List.getElem_mem hk, h1⟩
set_option maxRecDepth 100000 in
set_option maxHeartbeats 4000000 in
theorem refOdd1 (n : Int) (p : Pl) (st : St) (s q gg rr t sw lk : Value) (w : World) (hp : PlM w s q gg rr p) (hf : p.Fit) (hs : StM w t sw lk st) (hsf : st.fit) (h0 : ofErr p st = 0) :
  Calls Tryz.prog 169 #[plV p s q gg rr, stV t sw lk, .int .i64 1, .int .i64 n] w (BoolPost w (oddR1 p st n)) := by
 obtain ⟨hPS, hM⟩ := ofErr_zero h0
 have hA := hM.1
 have HL0 : Hid (st.tks.length = p.secs.length) := hA.1.1
 have hle : st.lks.length ≤ p.rts.length := Nat.le_of_eq hA.2.2.1
 have HOF : Hid (∀ W, Below w.heap.size w W → Calls Tryz.prog 256 #[plV p s q gg rr, stV t sw lk, .int .i64 n] W (NumPost W (ofR p st n))) := fun W hb => refOf p st n s q gg rr t sw lk W (hp.below hb) hf hPS (hs.below hb) hsf hle
 have HN : Hid (isOne Sec.id p.secs n = false → oddR1 p st n = false) := fun h => by unfold oddR1; rw [h]; rfl
 have HY : Hid (∀ k (hk : k < st.tks.length), isOne Sec.id p.secs n = true → plIx Sec.id p.secs n = k → oddR1 p st n = (decide (st.tks[k].is ≠ 0) || decide (ofR p st n ≠ 0))) := fun k hk h1 h2 => by unfold oddR1; rw [h1, h2, List.getD_eq_getElem?_getD, List.getElem?_eq_getElem hk]; rfl
 generalize oddR1 p st n = B at *
 generalize ofR p st n = R at *
 obtain ⟨a1, k1, rfl, g1⟩ := hp.secs
 obtain ⟨a2, k2, rfl, g2⟩ := hp.pts
 obtain ⟨a3, k3, rfl, -⟩ := hp.sigs
 obtain ⟨a4, k4, rfl, g4⟩ := hp.rts
 obtain ⟨b1, d1, rfl, g5⟩ := hs.tks
 obtain ⟨b2, d2, rfl, -⟩ := hs.sws
 obtain ⟨b3, d3, rfl, g7⟩ := hs.lks
 have HSE : Hid (∀ W, Below w.heap.size w W → SlA W 3 RSec a1 k1 p.secs) := fun W hb => g1.below keeps_sec hb
 have HTK : Hid (∀ W, Below w.heap.size w W → SlA W 2 RTk b1 d1 st.tks) := fun W hb => g5.below keeps_tk hb
 have HLS := Lib.hid hf.secs
 have hls := hf.secs
 clear hp hf hs hsf g1 g2 g4 g5 g7 hPS hM hA h0 hle
 unfold plV stV at *
 go_enter Tryz.func169, Tryz.ntmps169
 go_upto_region 1 with fail
 generalize hW0 : World.alloc _ _ = W0
 have K0 : Hid (Below w.heap.size w W0) := by show Below _ _ _; rw [← hW0]; exact ((Below.refl _ _).alloc (Nat.le_refl _) _).alloc (by simp) _
 have HP0 : Hid (W0.heap[w.heap.size]? = some (.cells #[.int .i64 p.ver, .int .i64 p.par, .slice a1 p.secs.length k1, .slice a2 p.pts.length k2, .slice a3 p.sigs.length k3, .slice a4 p.rts.length k4] 28 (0, 0))) := by show _ = _; rw [← hW0]; exact (heap_alloc_old _ _ (by simp)).trans (heap_alloc_new _ _)
 have HS0 : Hid (W0.heap[w.heap.size + 1]? = some (.cells #[.slice b1 st.tks.length d1, .slice b2 st.sws.length d2, .slice b3 st.lks.length d3] 33 (0, 0))) := by show _ = _; rw [← hW0]; exact heap_alloc2_new _ _ _
 clear hW0
 have KR : Hid (Below W0.heap.size W0 W0) := Below.refl _ _
 have bx0 := (KR.out.block _ (lt_of_block HP0.out)).trans HP0.out
 have bx1 := (KR.out.block _ (lt_of_block HS0.out)).trans HS0.out
 obtain ⟨pp0, pp1, pp2, pp3, pp4, pp5⟩ := cells6 (bx0)
 obtain ⟨ss0, ss1, ss2⟩ := cells3 (bx1)
 have lb := block_lt_of_cell pp0
 have ls := block_lt_of_cell ss0
 clear bx0 bx1
 go_wp2_with fail
 refine (secAt a1 k1 p.secs n W0 (HSE.out _ K0.out) HLS.out).mono ?_
 rintro e w' ⟨rfl, rfl⟩
 have hfx := oneFix Sec.id p.secs n
 generalize hF : fix (fun x : Sec => decide (x.id = n)) p.secs = F at *
 clear hF
 rcases hfx with ⟨rfl, hn⟩ | ⟨k, hk, rfl, hn, hix⟩
 ·have HV := Lib.hid (HN.out hn)
  clear hn
  go_wp2_with fail
  go_ret
  exact ⟨by rw [HV.out]; rfl, K0.out⟩
 ·have hkt : k < st.tks.length := by rw [HL0.out]; exact hk
  have HV0 := Lib.hid (HY.out k hkt hn hix)
  clear hn hix
  obtain ⟨gt, ot, vt, rfl, htl, htc, htr⟩ := (HTK.out W0 K0.out).at_ k hkt
  obtain rfl : vt = [.int .i64 st.tks[k].id, .int .u8 st.tks[k].is] := htr
  have y1 : W0.cell? ⟨gt, ot + k * 2 + 1, none⟩ = some (.int .u8 st.tks[k].is) := htc 1 (by simp)
  have ly := block_lt_of_cell y1
  have c0 : (0 : Int) ≤ (k : Int) := by omega
  have c1 : (k : Int) < (st.tks.length : Int) := by omega
  have cg : decide ((0 : Int) ≤ (k : Int)) = true := by simp
  clear htl htc
  by_cases hi : st.tks[k].is = 0
  ·have t1 : (st.tks[k].is == 0) = true := by rw [beq_iff_eq]; exact hi
   have tbt1 : (st.tks[k].is != 0) = false := by rw [bne, t1]; rfl
   rw [hi] at HV0
   clear hi
   go_wp2_with fail
   refine (HOF.out W0 K0.out).mono ?_
   rintro e W1 ⟨rfl, hb⟩
   have KB : Hid (Below w.heap.size w W1) := K0.out.trans (hb.mono K0.out.size)
   clear hb
   clear y1 ly pp0 pp1 pp2 pp3 pp4 pp5 ss0 ss1 ss2 lb ls
   by_cases hr : R = 0
   ·have t2 : (R == 0) = true := by rw [beq_iff_eq]; exact hr
    have tbt2 : (R != 0) = false := by rw [bne, t2]; rfl
    have HV : Hid (B = false) := by rw [HV0.out, hr]; rfl
    clear hr
    go_wp2_with fail
    go_ret
    exact ⟨by rw [HV.out]; rfl, KB.out⟩
   ·have t2 : (R == 0) = false := by rw [beq_eq_false_iff_ne]; exact hr
    have tbt2 : (R != 0) = true := by rw [bne, t2]; rfl
    have HV : Hid (B = true) := by rw [HV0.out, decide_eq_true hr, Bool.or_true]; rfl
    clear hr
    go_wp2_with fail
    go_ret
    exact ⟨by rw [HV.out]; rfl, KB.out⟩
  ·have t1 : (st.tks[k].is == 0) = false := by rw [beq_eq_false_iff_ne]; exact hi
   have tbt1 : (st.tks[k].is != 0) = true := by rw [bne, t1]; rfl
   have HV : Hid (B = true) := by rw [HV0.out, decide_eq_true hi, Bool.true_or]; rfl
   clear hi
   go_wp2_with fail
   go_ret
   exact ⟨by rw [HV.out]; rfl, K0.out⟩
set_option maxRecDepth 100000 in
set_option maxHeartbeats 4000000 in
theorem refOdd2 (n : Int) (p : Pl) (st : St) (s q gg rr t sw lk : Value) (w : World) (hp : PlM w s q gg rr p) (hf : p.Fit) (hs : StM w t sw lk st) (hsf : st.fit) (h0 : ofErr p st = 0) :
  Calls Tryz.prog 169 #[plV p s q gg rr, stV t sw lk, .int .i64 2, .int .i64 n] w (BoolPost w (oddR2 p st n)) := by
 obtain ⟨hPS, hM⟩ := ofErr_zero h0
 have hA := hM.1
 have hle : st.lks.length ≤ p.rts.length := Nat.le_of_eq hA.2.2.1
 have HOF : Hid (∀ W, Below w.heap.size w W → Calls Tryz.prog 258 #[plV p s q gg rr, stV t sw lk, .int .i64 n] W (NumPost W (lieOf p st n))) := fun W hb => refAskLie p st n s q gg rr t sw lk W (hp.below hb) hf hPS (hs.below hb) hsf hle
 have HN : Hid (isOne Pt.id p.pts n = false → oddR2 p st n = false) := fun h => by unfold oddR2; rw [h]; rfl
 have HY : Hid (isOne Pt.id p.pts n = true → oddR2 p st n = decide (lieOf p st n ≠ 0)) := fun h1 => by unfold oddR2; rw [h1]; rfl
 generalize oddR2 p st n = B at *
 generalize lieOf p st n = R at *
 obtain ⟨a1, k1, rfl, g1⟩ := hp.secs
 obtain ⟨a2, k2, rfl, g2⟩ := hp.pts
 obtain ⟨a3, k3, rfl, -⟩ := hp.sigs
 obtain ⟨a4, k4, rfl, g4⟩ := hp.rts
 obtain ⟨b1, d1, rfl, g5⟩ := hs.tks
 obtain ⟨b2, d2, rfl, -⟩ := hs.sws
 obtain ⟨b3, d3, rfl, g7⟩ := hs.lks
 have HPT : Hid (∀ W, Below w.heap.size w W → SlA W 2 RPt a2 k2 p.pts) := fun W hb => g2.below keeps_pt hb
 have HLS := Lib.hid hf.pts
 clear hp hf hs hsf g1 g2 g4 g5 g7 hPS hM hA h0 hle
 unfold plV stV at *
 go_enter Tryz.func169, Tryz.ntmps169
 go_upto_region 1 with fail
 generalize hW0 : World.alloc _ _ = W0
 have K0 : Hid (Below w.heap.size w W0) := by show Below _ _ _; rw [← hW0]; exact ((Below.refl _ _).alloc (Nat.le_refl _) _).alloc (by simp) _
 have HP0 : Hid (W0.heap[w.heap.size]? = some (.cells #[.int .i64 p.ver, .int .i64 p.par, .slice a1 p.secs.length k1, .slice a2 p.pts.length k2, .slice a3 p.sigs.length k3, .slice a4 p.rts.length k4] 28 (0, 0))) := by show _ = _; rw [← hW0]; exact (heap_alloc_old _ _ (by simp)).trans (heap_alloc_new _ _)
 have HS0 : Hid (W0.heap[w.heap.size + 1]? = some (.cells #[.slice b1 st.tks.length d1, .slice b2 st.sws.length d2, .slice b3 st.lks.length d3] 33 (0, 0))) := by show _ = _; rw [← hW0]; exact heap_alloc2_new _ _ _
 clear hW0
 have KR : Hid (Below W0.heap.size W0 W0) := Below.refl _ _
 have bx0 := (KR.out.block _ (lt_of_block HP0.out)).trans HP0.out
 have bx1 := (KR.out.block _ (lt_of_block HS0.out)).trans HS0.out
 obtain ⟨pp0, pp1, pp2, pp3, pp4, pp5⟩ := cells6 (bx0)
 obtain ⟨ss0, ss1, ss2⟩ := cells3 (bx1)
 have lb := block_lt_of_cell pp0
 have ls := block_lt_of_cell ss0
 clear bx0 bx1
 go_wp2_with fail
 refine (ptAt a2 k2 p.pts n W0 (HPT.out _ K0.out) HLS.out).mono ?_
 rintro e w' ⟨rfl, rfl⟩
 have hfx := oneFix Pt.id p.pts n
 generalize hF : fix (fun x : Pt => decide (x.id = n)) p.pts = F at *
 clear hF
 rcases hfx with ⟨rfl, hn⟩ | ⟨k, hk, rfl, hn, hix⟩
 ·have HV := Lib.hid (HN.out hn)
  clear hn
  go_wp2_with fail
  go_ret
  exact ⟨by rw [HV.out]; rfl, K0.out⟩
 ·have HV0 := Lib.hid (HY.out hn)
  clear hn hix
  have c0 : (0 : Int) ≤ (k : Int) := by omega
  have cg : decide ((0 : Int) ≤ (k : Int)) = true := by simp
  go_wp2_with fail
  refine (HOF.out W0 K0.out).mono ?_
  rintro e W1 ⟨rfl, hb⟩
  have KB : Hid (Below w.heap.size w W1) := K0.out.trans (hb.mono K0.out.size)
  clear hb
  clear pp0 pp1 pp2 pp3 pp4 pp5 ss0 ss1 ss2 lb ls
  by_cases hr : R = 0
  ·have t2 : (R == 0) = true := by rw [beq_iff_eq]; exact hr
   have tbt2 : (R != 0) = false := by rw [bne, t2]; rfl
   have HV : Hid (B = false) := by rw [HV0.out, hr]; rfl
   clear hr
   go_wp2_with fail
   go_ret
   exact ⟨by rw [HV.out]; rfl, KB.out⟩
  ·have t2 : (R == 0) = false := by rw [beq_eq_false_iff_ne]; exact hr
   have tbt2 : (R != 0) = true := by rw [bne, t2]; rfl
   have HV : Hid (B = true) := by rw [HV0.out, decide_eq_true hr]; rfl
   clear hr
   go_wp2_with fail
   go_ret
   exact ⟨by rw [HV.out]; rfl, KB.out⟩
set_option maxRecDepth 100000 in
set_option maxHeartbeats 4000000 in
theorem refOdd4 (n : Int) (p : Pl) (st : St) (s q gg rr t sw lk : Value) (w : World) (hp : PlM w s q gg rr p) (hf : p.Fit) (hs : StM w t sw lk st) (hsf : st.fit) (h0 : ofErr p st = 0) :
  Calls Tryz.prog 169 #[plV p s q gg rr, stV t sw lk, .int .i64 4, .int .i64 n] w (BoolPost w (oddR4 p st n)) := by
 obtain ⟨hPS, hM⟩ := ofErr_zero h0
 have hA := hM.1
 have HL0 : Hid (st.lks.length = p.rts.length) := hA.2.2.1
 have HN : Hid (isOne Rt.id p.rts n = false → oddR4 p st n = false) := fun h => by unfold oddR4; rw [h]; rfl
 have HY : Hid (∀ k (hk : k < st.lks.length), isOne Rt.id p.rts n = true → plIx Rt.id p.rts n = k → oddR4 p st n = decide (st.lks[k].ph ≠ 0)) := fun k hk h1 h2 => by unfold oddR4; rw [h1, h2, List.getD_eq_getElem?_getD, List.getElem?_eq_getElem hk]; rfl
 generalize oddR4 p st n = B at *
 obtain ⟨a1, k1, rfl, g1⟩ := hp.secs
 obtain ⟨a2, k2, rfl, g2⟩ := hp.pts
 obtain ⟨a3, k3, rfl, -⟩ := hp.sigs
 obtain ⟨a4, k4, rfl, g4⟩ := hp.rts
 obtain ⟨b1, d1, rfl, g5⟩ := hs.tks
 obtain ⟨b2, d2, rfl, -⟩ := hs.sws
 obtain ⟨b3, d3, rfl, g7⟩ := hs.lks
 have HRT : Hid (∀ W, Below w.heap.size w W → SlA W 7 RRt a4 k4 p.rts) := fun W hb => g4.below keeps_rt hb
 have HLK : Hid (∀ W, Below w.heap.size w W → SlA W 4 RLk b3 d3 st.lks) := fun W hb => g7.below keeps_lk hb
 have HLS := Lib.hid hf.rts
 have hls := hf.rts
 clear hp hf hs hsf g1 g2 g4 g5 g7 hPS hM hA h0
 unfold plV stV at *
 go_enter Tryz.func169, Tryz.ntmps169
 go_upto_region 1 with fail
 generalize hW0 : World.alloc _ _ = W0
 have K0 : Hid (Below w.heap.size w W0) := by show Below _ _ _; rw [← hW0]; exact ((Below.refl _ _).alloc (Nat.le_refl _) _).alloc (by simp) _
 have HP0 : Hid (W0.heap[w.heap.size]? = some (.cells #[.int .i64 p.ver, .int .i64 p.par, .slice a1 p.secs.length k1, .slice a2 p.pts.length k2, .slice a3 p.sigs.length k3, .slice a4 p.rts.length k4] 28 (0, 0))) := by show _ = _; rw [← hW0]; exact (heap_alloc_old _ _ (by simp)).trans (heap_alloc_new _ _)
 have HS0 : Hid (W0.heap[w.heap.size + 1]? = some (.cells #[.slice b1 st.tks.length d1, .slice b2 st.sws.length d2, .slice b3 st.lks.length d3] 33 (0, 0))) := by show _ = _; rw [← hW0]; exact heap_alloc2_new _ _ _
 clear hW0
 have KR : Hid (Below W0.heap.size W0 W0) := Below.refl _ _
 have bx0 := (KR.out.block _ (lt_of_block HP0.out)).trans HP0.out
 have bx1 := (KR.out.block _ (lt_of_block HS0.out)).trans HS0.out
 obtain ⟨pp0, pp1, pp2, pp3, pp4, pp5⟩ := cells6 (bx0)
 obtain ⟨ss0, ss1, ss2⟩ := cells3 (bx1)
 have lb := block_lt_of_cell pp0
 have ls := block_lt_of_cell ss0
 clear bx0 bx1
 go_wp2_with fail
 refine (rtAt a4 k4 p.rts n W0 (HRT.out _ K0.out) HLS.out).mono ?_
 rintro e w' ⟨rfl, rfl⟩
 have hfx := oneFix Rt.id p.rts n
 generalize hF : fix (fun x : Rt => decide (x.id = n)) p.rts = F at *
 clear hF
 rcases hfx with ⟨rfl, hn⟩ | ⟨k, hk, rfl, hn, hix⟩
 ·have HV := Lib.hid (HN.out hn)
  clear hn
  go_wp2_with fail
  go_ret
  exact ⟨by rw [HV.out]; rfl, K0.out⟩
 ·have hkt : k < st.lks.length := by rw [HL0.out]; exact hk
  have HV0 := Lib.hid (HY.out k hkt hn hix)
  clear hn hix
  obtain ⟨gt, ot, vt, rfl, htl, htc, htr⟩ := (HLK.out W0 K0.out).at_ k hkt
  obtain rfl : vt = [.int .i64 st.lks[k].id, .int .u8 st.lks[k].ph, .int .i64 st.lks[k].gone, .int .i64 st.lks[k].left] := htr
  have y1 : W0.cell? ⟨gt, ot + k * 4 + 1, none⟩ = some (.int .u8 st.lks[k].ph) := htc 1 (by simp)
  have ly := block_lt_of_cell y1
  have c0 : (0 : Int) ≤ (k : Int) := by omega
  have c1 : (k : Int) < (st.lks.length : Int) := by omega
  have cg : decide ((0 : Int) ≤ (k : Int)) = true := by simp
  clear htl htc
  by_cases hi : st.lks[k].ph = 0
  ·have t1 : (st.lks[k].ph == 0) = true := by rw [beq_iff_eq]; exact hi
   have tbt1 : (st.lks[k].ph != 0) = false := by rw [bne, t1]; rfl
   have HV : Hid (B = false) := by rw [HV0.out, hi]; rfl
   clear hi
   go_wp2_with fail
   go_ret
   exact ⟨by rw [HV.out]; rfl, K0.out⟩
  ·have t1 : (st.lks[k].ph == 0) = false := by rw [beq_eq_false_iff_ne]; exact hi
   have tbt1 : (st.lks[k].ph != 0) = true := by rw [bne, t1]; rfl
   have HV : Hid (B = true) := by rw [HV0.out, decide_eq_true hi]; rfl
   clear hi
   go_wp2_with fail
   go_ret
   exact ⟨by rw [HV.out]; rfl, K0.out⟩
set_option maxRecDepth 100000 in
set_option maxHeartbeats 4000000 in
theorem refOdd3 (n : Int) (p : Pl) (st : St) (s q gg rr t sw lk : Value) (w : World) (hp : PlM w s q gg rr p) (hf : p.Fit) (hs : StM w t sw lk st) (hsf : st.fit) (h0 : ofErr p st = 0) :
  Calls Tryz.prog 169 #[plV p s q gg rr, stV t sw lk, .int .i64 3, .int .i64 n] w (BoolPost w (oddR3 p st n)) := by
 obtain ⟨hPS, hM⟩ := ofErr_zero h0
 have hA := hM.1
 have HL0 : Hid (st.lks.length = p.rts.length) := hA.2.2.1
 obtain ⟨bad, hbad⟩ : ∃ bad : Nat → Prop, bad = fun i => ((p.rts.getD i zRt).entry = n ∨ (p.rts.getD i zRt).exit = n) ∧ (st.lks.getD i zLk).ph ≠ 0 := ⟨_, rfl⟩
 have HBD : Hid (∀ k (hk : k < p.rts.length) (hl : k < st.lks.length), bad k = ((p.rts[k].entry = n ∨ p.rts[k].exit = n) ∧ st.lks[k].ph ≠ 0)) := fun k hk hl => by rw [hbad]; simp [List.getD_eq_getElem?_getD, hk, hl]
 have HYES : Hid (∀ k, k < p.rts.length → bad k → oddR3 p st n = true) := fun k hk h => by unfold oddR3; rw [List.any_eq_true]; rw [hbad] at h; exact ⟨k, List.mem_range.2 hk, decide_eq_true h⟩
 have HNON : Hid ((∀ j, j < p.rts.length → ¬ bad j) → oddR3 p st n = false) := fun h => by
  unfold oddR3
  rw [List.any_eq_false]
  intro i hi
  rw [hbad] at h
  have := h i (List.mem_range.1 hi)
  simpa using this
 clear hbad
 generalize oddR3 p st n = B at *
 obtain ⟨a1, k1, rfl, g1⟩ := hp.secs
 obtain ⟨a2, k2, rfl, g2⟩ := hp.pts
 obtain ⟨a3, k3, rfl, -⟩ := hp.sigs
 obtain ⟨a4, k4, rfl, g4⟩ := hp.rts
 obtain ⟨b1, d1, rfl, g5⟩ := hs.tks
 obtain ⟨b2, d2, rfl, -⟩ := hs.sws
 obtain ⟨b3, d3, rfl, g7⟩ := hs.lks
 have HRT : Hid (∀ W, Below w.heap.size w W → SlA W 7 RRt a4 k4 p.rts) := fun W hb => g4.below keeps_rt hb
 have HLK : Hid (∀ W, Below w.heap.size w W → SlA W 4 RLk b3 d3 st.lks) := fun W hb => g7.below keeps_lk hb
 have hls := hf.rts
 clear hp hf hs hsf g1 g2 g4 g5 g7 hPS hM hA h0
 unfold plV stV at *
 go_enter Tryz.func169, Tryz.ntmps169
 go_upto_region 1 with fail
 generalize hW0 : World.alloc _ _ = W0
 have K0 : Hid (Below w.heap.size w W0) := by show Below _ _ _; rw [← hW0]; exact ((Below.refl _ _).alloc (Nat.le_refl _) _).alloc (by simp) _
 have HP0 : Hid (W0.heap[w.heap.size]? = some (.cells #[.int .i64 p.ver, .int .i64 p.par, .slice a1 p.secs.length k1, .slice a2 p.pts.length k2, .slice a3 p.sigs.length k3, .slice a4 p.rts.length k4] 28 (0, 0))) := by show _ = _; rw [← hW0]; exact (heap_alloc_old _ _ (by simp)).trans (heap_alloc_new _ _)
 have HS0 : Hid (W0.heap[w.heap.size + 1]? = some (.cells #[.slice b1 st.tks.length d1, .slice b2 st.sws.length d2, .slice b3 st.lks.length d3] 33 (0, 0))) := by show _ = _; rw [← hW0]; exact heap_alloc2_new _ _ _
 clear hW0
 have KR : Hid (Below W0.heap.size W0 W0) := Below.refl _ _
 have bx0 := (KR.out.block _ (lt_of_block HP0.out)).trans HP0.out
 have bx1 := (KR.out.block _ (lt_of_block HS0.out)).trans HS0.out
 obtain ⟨pp0, pp1, pp2, pp3, pp4, pp5⟩ := cells6 (bx0)
 obtain ⟨ss0, ss1, ss2⟩ := cells3 (bx1)
 have lb := block_lt_of_cell pp0
 have ls := block_lt_of_cell ss0
 clear bx0 bx1
 go_wp2_with fail
 go_loopg [10] p.rts.length (fun g i wr => ∃ (k : Nat), k ≤ p.rts.length ∧ g = p.rts.length - k ∧ i = .int .i64 k ∧ wr = W0 ∧ (∀ j (hj : j < p.rts.length), j < k → ¬ bad j))
 case atStart => exact ⟨0, by omega, by omega, rfl, rfl, fun j _ hj => absurd hj (Nat.not_lt_zero _)⟩
 case round =>
  obtain ⟨k, hk, rfl, rfl, hw, hno⟩ := hrel
  obtain rfl := hw.symm
  clear hw
  have HNO := Lib.hid hno
  clear hno
  by_cases hlt : k < p.rts.length
  ·have hd : decide ((k : Int) < (p.rts.length : Int)) = true := by simp; omega
   have hkl : k < st.lks.length := by rw [HL0.out]; exact hlt
   obtain ⟨g, off, vs, rfl, hvl, hvc, hvr⟩ := (HRT.out W0 K0.out).at_ k hlt
   obtain ⟨c5, c6, c7, rfl, hr⟩ := hvr
   have x1 : W0.cell? ⟨g, off + k * 7 + 1, none⟩ = some (.int .i64 p.rts[k].entry) := hvc 1 (by simp)
   have x2 : W0.cell? ⟨g, off + k * 7 + 2, none⟩ = some (.int .i64 p.rts[k].exit) := hvc 2 (by simp)
   have lx := block_lt_of_cell x1
   clear hvl hvc hr
   obtain ⟨gt, ot, vt, rfl, htl, htc, htr⟩ := (HLK.out W0 K0.out).at_ k hkl
   obtain rfl : vt = [.int .i64 st.lks[k].id, .int .u8 st.lks[k].ph, .int .i64 st.lks[k].gone, .int .i64 st.lks[k].left] := htr
   have y1 : W0.cell? ⟨gt, ot + k * 4 + 1, none⟩ = some (.int .u8 st.lks[k].ph) := htc 1 (by simp)
   have ly := block_lt_of_cell y1
   clear htl htc
   have c0 : (0 : Int) ≤ (k : Int) := by omega
   have c1 : (k : Int) < (p.rts.length : Int) := by omega
   have c2 : (k : Int) < (st.lks.length : Int) := by omega
   by_cases h1 : p.rts[k].entry = n
   ·have ta1 : (p.rts[k].entry == n) = true := by rw [beq_iff_eq]; exact h1
    have tbta1 : (p.rts[k].entry != n) = false := by rw [bne, ta1]; rfl
    by_cases h3 : st.lks[k].ph = 0
    ·have ta3 : (st.lks[k].ph == 0) = true := by rw [beq_iff_eq]; exact h3
     have tbta3 : (st.lks[k].ph != 0) = false := by rw [bne, ta3]; rfl
     have HNX : Hid (∀ j (hj : j < p.rts.length), j < k + 1 → ¬ bad j) := fun j j1 j2 => by
      by_cases hjk : j = k
      ·subst hjk; rw [HBD.out j j1 hkl]; exact fun h => h.2 h3
      ·exact HNO.out j j1 (by omega)
     go_wp2_with fail
     go_roundg (p.rts.length - (k + 1))
     case measure => go_light; omega
     case rel => go_light; exact ⟨k + 1, by omega, by omega, by go_num, rfl, HNX.out⟩
    ·have ta3 : (st.lks[k].ph == 0) = false := by rw [beq_eq_false_iff_ne]; exact h3
     have tbta3 : (st.lks[k].ph != 0) = true := by rw [bne, ta3]; rfl
     have HV : Hid (B = true) := HYES.out k hlt (by rw [HBD.out k hlt hkl]; exact ⟨.inl h1, h3⟩)
     go_wp2_with fail
     go_ret
     exact ⟨by rw [HV.out]; rfl, K0.out⟩
   ·have ta1 : (p.rts[k].entry == n) = false := by rw [beq_eq_false_iff_ne]; exact h1
    have tbta1 : (p.rts[k].entry != n) = true := by rw [bne, ta1]; rfl
    by_cases h2 : p.rts[k].exit = n
    ·have ta2 : (p.rts[k].exit == n) = true := by rw [beq_iff_eq]; exact h2
     have tbta2 : (p.rts[k].exit != n) = false := by rw [bne, ta2]; rfl
     by_cases h3 : st.lks[k].ph = 0
     ·have ta3 : (st.lks[k].ph == 0) = true := by rw [beq_iff_eq]; exact h3
      have tbta3 : (st.lks[k].ph != 0) = false := by rw [bne, ta3]; rfl
      have HNX : Hid (∀ j (hj : j < p.rts.length), j < k + 1 → ¬ bad j) := fun j j1 j2 => by
       by_cases hjk : j = k
       ·subst hjk; rw [HBD.out j j1 hkl]; exact fun h => h.2 h3
       ·exact HNO.out j j1 (by omega)
      go_wp2_with fail
      go_roundg (p.rts.length - (k + 1))
      case measure => go_light; omega
      case rel => go_light; exact ⟨k + 1, by omega, by omega, by go_num, rfl, HNX.out⟩
     ·have ta3 : (st.lks[k].ph == 0) = false := by rw [beq_eq_false_iff_ne]; exact h3
      have tbta3 : (st.lks[k].ph != 0) = true := by rw [bne, ta3]; rfl
      have HV : Hid (B = true) := HYES.out k hlt (by rw [HBD.out k hlt hkl]; exact ⟨.inr h2, h3⟩)
      go_wp2_with fail
      go_ret
      exact ⟨by rw [HV.out]; rfl, K0.out⟩
    ·have ta2 : (p.rts[k].exit == n) = false := by rw [beq_eq_false_iff_ne]; exact h2
     have tbta2 : (p.rts[k].exit != n) = true := by rw [bne, ta2]; rfl
     have HNX : Hid (∀ j (hj : j < p.rts.length), j < k + 1 → ¬ bad j) := fun j j1 j2 => by
      by_cases hjk : j = k
      ·subst hjk; rw [HBD.out j j1 hkl]; exact fun h => h.1.elim h1 h2
      ·exact HNO.out j j1 (by omega)
     go_wp2_with fail
     go_roundg (p.rts.length - (k + 1))
     case measure => go_light; omega
     case rel => go_light; exact ⟨k + 1, by omega, by omega, by go_num, rfl, HNX.out⟩
  ·obtain rfl : k = p.rts.length := by omega
   have hd : decide ((p.rts.length : Int) < (p.rts.length : Int)) = false := by simp
   have HV : Hid (B = false) := HNON.out fun j hj => HNO.out j hj hj
   go_wp2_with fail
   go_ret
   exact ⟨by rw [HV.out]; rfl, K0.out⟩
end Go.Proofs.YtbiehpjhhopjaaaGreat
namespace Go.Proofs.YtbiehpjhhopjaaaGreat
open Go.RowKit
def Apart (v1 v2 : Value) : Prop := ∀ k, v1.ownBlock = some k → v2.ownBlock = some k → False
theorem Apart.symm {v1 v2 : Value} (h : Apart v1 v2) : Apart v2 v1 := fun k a b => h k b a
structure Four (W : World) (B : Nat) (v1 : Value) (l1 : List Int) (v2 : Value) (l2 : List Int) (v3 : Value) (l3 : List Int) (v4 : Value) (l4 : List Int) : Prop where
 a : IntOwn W B v1 l1
 b : IntOwn W B v2 l2
 c : IntOwn W B v3 l3
 d : IntOwn W B v4 l4
 ab : Apart v1 v2
 ac : Apart v1 v3
 ad : Apart v1 v4
 bc : Apart v2 v3
 bd : Apart v2 v4
 cd : Apart v3 v4
section
variable {W W' : World} {B : Nat} {v1 v2 v3 v4 : Value} {l1 l2 l3 l4 : List Int}
theorem Four.below (h : Four W B v1 l1 v2 l2 v3 l3 v4 l4) (hb : Below W.heap.size W W') : Four W' B v1 l1 v2 l2 v3 l3 v4 l4 :=
 ⟨own_below h.a hb, own_below h.b hb, own_below h.c hb, own_below h.d hb, h.ab, h.ac, h.ad, h.bc, h.bd, h.cd⟩
theorem Four.nil (W : World) (B : Nat) : Four W B (.slice none 0 0) [] (.slice none 0 0) [] (.slice none 0 0) [] (.slice none 0 0) [] := by
 have h : Apart (.slice none 0 0) (.slice none 0 0) := fun k e => by simp [Value.ownBlock] at e
 have o := World.ownsRow_nil W B 3 1
 exact ⟨o, o, o, o, h, h, h, h, h, h⟩
theorem Four.setCell (h : Four W B v1 l1 v2 l2 v3 l3 v4 l4) {a : Addr} (ha : a.block < B) (u : Value) : Four (W.setCell a u) B v1 l1 v2 l2 v3 l3 v4 l4 :=
 ⟨own_setCell h.a ha u, own_setCell h.b ha u, own_setCell h.c ha u, own_setCell h.d ha u, h.ab, h.ac, h.ad, h.bc, h.bd, h.cd⟩
theorem Four.turn (h : Four W B v1 l1 v2 l2 v3 l3 v4 l4) : Four W B v2 l2 v3 l3 v4 l4 v1 l1 := ⟨h.b, h.c, h.d, h.a, h.bc, h.bd, h.ab.symm, h.cd, h.ac.symm, h.ad.symm⟩
theorem wpList_append_four {ops : Array Oper} {rest : List Oper} {o : Oper} {a : Act} {Q : Exit → Act → World → Prop} (hgd : o.guard = none) (s x : Operand)
  (ho : o.op = .call { callee := .builtin .append, args := #[s, x], argTypes := #[54, 54] }) (B : Nat) (v1 : Value) (l1 : List Int) (v2 : Value) (l2 : List Int) (v3 : Value) (l3 : List Int) (v4 : Value) (l4 : List Int) (hT : Four W B v1 l1 v2 l2 v3 l3 v4 l4) (n : Int) (hs : a.eval s = v1)
  (hx : a.eval x = .slice (some ⟨W.heap.size, 0, none⟩) 1 1) (hn : l1.length ≤ 1000) (hB : B ≤ W.heap.size)
  (h : ∀ a' c' w', Four w' B (.slice a' (l1.length + 1) c') (l1 ++ [n]) v2 l2 v3 l3 v4 l4 → Below B W w' → wpList Tryz.prog ops Q rest (a.put o.dst (.slice a' (l1.length + 1) c')) w') :
  wpList Tryz.prog ops Q (o :: rest) a (W.alloc (.cells #[.int .i64 n] 3)) := by
 obtain ⟨i0, hi, hz0, hz1, hz2⟩ := info_parts info3
 refine wpList_append_own_at _ hgd s x 54 ho B 3 i0 (.int .i64 0) 1 8 Tryz.underlying54 hi hz0 hz1 hz2 rfl (by decide) v1 l1.length (l1.map (.int .i64)) hs (hT.a.alloc _) ⟨W.heap.size, 0, none⟩ 1 1 [.int .i64 n] hx rfl (Go.cell_one_new W _ 3) (by intro u hu; simp at hu; subst hu; rfl) (by unfold maxLen; omega) (by omega) (by simp; omega) ?_
 intro v' w' h1 h2 _ h4
 have hb : Below B (W.alloc (.cells #[.int .i64 n] 3)) w' := grown_below (hT.a.alloc _) (Nat.le_refl _) (by simp; omega) h2
 have h1' : IntOwn w' B v' (l1 ++ [n]) := by
  unfold IntOwn
  rw [List.length_append, List.map_append]
  exact h1
 obtain ⟨a', c', rfl⟩ := h1'.slice
 rw [List.length_append, List.length_singleton] at h1' h4 ⊢
 have key : ∀ v2 l2, IntOwn W B v2 l2 → Apart v1 v2 → IntOwn w' B v2 l2 ∧ Apart (.slice a' (l1.length + 1) c') v2 := fun v2 l2 ho hp => by
  have hlt : ∀ k, v2.ownBlock = some k → k < W.heap.size := fun k hk => by
   obtain ⟨c, hc, _⟩ := own_block ho hk
   exact lt_of_block hc
  refine ⟨World.ownsRow.kept (World.ownsRow.alloc ho _) h2 (by
   cases e : v2.ownBlock with
   | none => exact .inl rfl
   | some k => exact .inr (fun e' => hp k e'.symm e)), fun k e1 e2 => ?_⟩
  rcases h4 with h4 | h4
  ·rw [h4] at e1
   exact hp k e1 e2
  ·rw [h4] at e1
   cases e1
   exact absurd (hlt _ e2) (by simp)
 obtain ⟨b1, b2⟩ := key _ _ hT.b hT.ab
 obtain ⟨c1, c2⟩ := key _ _ hT.c hT.ac
 obtain ⟨d1, d2⟩ := key _ _ hT.d hT.ad
 exact h a' c' w' ⟨h1', b1, c1, d1, b2, c2, d2, hT.bc, hT.bd, hT.cd⟩ (((Below.refl B W).alloc hB _).trans hb)
end
theorem frozen_of_row {W : World} {g : Nat} {cs : Array Value} {T : TypeId} (h : W.heap[g]? = some (.cells cs T (0, 0))) (o : Nat) : W.frozen? ⟨g, o, none⟩ = false := by simp [World.frozen?, h]
theorem row_set {W : World} {g o : Nat} {cs : Array Value} {T : TypeId} {u : Value} (h : W.heap[g]? = some (.cells cs T (0, 0))) : (W.setCell ⟨g, o, none⟩ u).heap[g]? = some (.cells (cs.setIfInBounds o u) T (0, 0)) := by simp [World.setCell, Array.getElem?_modify, h]
def pickTo (f : Int → Bool) (k : Nat) : List Int := ((List.range k).map fun (i : Nat) => (i : Int) + 1).filter f
theorem pickTo_t {f : Int → Bool} {k : Nat} (h : f ((k : Int) + 1) = true) : pickTo f (k + 1) = pickTo f k ++ [(k : Int) + 1] := by
 unfold pickTo
 rw [List.range_succ, List.map_append, List.filter_append]
 simp [h]
theorem pickTo_f {f : Int → Bool} {k : Nat} (h : f ((k : Int) + 1) = false) : pickTo f (k + 1) = pickTo f k := by
 unfold pickTo
 rw [List.range_succ, List.map_append, List.filter_append]
 simp [h]
theorem pickTo_len (f : Int → Bool) (k : Nat) : (pickTo f k).length ≤ k := by
 unfold pickTo
 exact Nat.le_trans (List.length_filter_le _ _) (by simp)
def ArPost (w : World) (x : Ar) (e : Ending) (w' : World) : Prop := ∃ v1 v2 v3 v4, e = .returned (.agg #[v1, v2, v3, v4]) ∧ AL w' v1 v2 v3 v4 x ∧ Below w.heap.size w w'
end Go.Proofs.YtbiehpjhhopjaaaGreat
