/-
 The references' word on a plan, walked. (Written by wip/tools/gen_rwe.py.)
-/
import Derived.Test.YtbiehpjhhopjaaaGreatTRwD
set_option linter.unusedVariables false
set_option linter.unusedSimpArgs false
namespace Go.Proofs.YtbiehpjhhopjaaaGreat
open Go.RowKit Go.Sort
def RsR (p : Pl) (j : Nat) (h : j < p.rts.length) : Prop := (1 ≤ p.rts[j].id ∧ p.rts[j].id ≤ 99) ∧ (∀ h' : 0 < j, p.rts[j - 1].id < p.rts[j].id) ∧ RtMay (endsOf p.secs p.secs.length) p.sigs p.pts p.rts[j]
theorem planMay_ref (p : Pl) : PlanMay p ↔ (1 ≤ p.ver ∧ p.ver ≤ 2147483647 ∧ 0 ≤ p.par ∧ p.par < p.ver) ∧ (p.rts.length : Int) ≤ 16 ∧ SecsMay p.secs ∧ PtsMay p ∧ SigsMay (endsOf p.secs p.secs.length) p.sigs ∧ ∀ j (h : j < p.rts.length), RsR p j h := by
 constructor
 ·rintro ⟨⟨h1, h2, h3, h4, h5⟩, ⟨h6, h7, h8, h9⟩, h10⟩
  exact ⟨⟨h1, h2, h3, h4⟩, h9, h5, h6, h7, fun j h => ⟨(h8 j h h).1, (h8 j h h).2, h10 j h h⟩⟩
 ·rintro ⟨⟨h1, h2, h3, h4⟩, h9, h5, h6, h7, h8⟩
  exact ⟨⟨h1, h2, h3, h4, h5⟩, ⟨h6, h7, fun j h _ => ⟨(h8 j h).1, (h8 j h).2.1⟩, h9⟩, fun j h _ => (h8 j h).2.2⟩
set_option maxRecDepth 100000 in
set_option maxHeartbeats 16000000 in
theorem refMay (p : Pl) (s q gg rr : Value) (w : World) (hp : PlM w s q gg rr p) (hf : p.Fit) : Calls Tryz.prog 129 #[plV p s q gg rr] w (BoolPost w (decide (PlanMay p))) := by
 have HREF : Hid (PlanMay p ↔ (1 ≤ p.ver ∧ p.ver ≤ 2147483647 ∧ 0 ≤ p.par ∧ p.par < p.ver) ∧ (p.rts.length : Int) ≤ 16 ∧ SecsMay p.secs ∧ PtsMay p ∧ SigsMay (endsOf p.secs p.secs.length) p.sigs ∧ ∀ j (h : j < p.rts.length), RsR p j h) := planMay_ref p
 have HB : Hid (∀ b : Bool, (b = true ↔ PlanMay p) → decide (PlanMay p) = b) := fun b h => by rw [Bool.eq_iff_iff, h, decide_eq_true_iff]
 have HNO : Hid (¬ PlanMay p → decide (PlanMay p) = false) := fun h => decide_eq_false h
 generalize decide (PlanMay p) = B at *
 have HP : Hid (∀ W, Below w.heap.size w W → PlM W s q gg rr p) := fun W hb => hp.below hb
 have HF := Lib.hid hf
 obtain ⟨a1, k1, rfl, h1⟩ := hp.secs
 obtain ⟨a2, k2, rfl, -⟩ := hp.pts
 obtain ⟨a3, k3, rfl, -⟩ := hp.sigs
 obtain ⟨a4, k4, rfl, h4⟩ := hp.rts
 have HRT : Hid (∀ W, Below w.heap.size w W → SlA W 7 RRt a4 k4 p.rts) := fun W hb => h4.below keeps_rt hb
 have HC1 : Hid (∀ W, Below w.heap.size w W → Calls Tryz.prog 212 #[.slice a1 p.secs.length k1] W (BoolPost W (decide (SecsMay p.secs)))) := fun W hb => secsMay_any a1 k1 p.secs W (h1.below keeps_sec hb) hf.secs hf.ends
 have HC2 : Hid (SecsMay p.secs → ∀ W, Below w.heap.size w W → Calls Tryz.prog 213 #[.agg #[.int .i64 p.ver, .int .i64 p.par, .slice a1 p.secs.length k1, .slice a2 p.pts.length k2, .slice a3 p.sigs.length k3, .slice a4 p.rts.length k4]] W (BoolPost W (decide (PtsMay p)))) := fun h W hb => refPoints p _ _ _ _ W (HP.out W hb) hf h.2.1
 have HC3 : Hid (SecsMay p.secs → ∀ W, Below w.heap.size w W → Calls Tryz.prog 214 #[.agg #[.int .i64 p.ver, .int .i64 p.par, .slice a1 p.secs.length k1, .slice a2 p.pts.length k2, .slice a3 p.sigs.length k3, .slice a4 p.rts.length k4]] W (BoolPost W (decide (SigsMay (endsOf p.secs p.secs.length) p.sigs)))) := fun h W hb => refSignals p _ _ _ _ W (HP.out W hb) hf h.2.1
 have HC4 : Hid (SecsMay p.secs → ∀ (k : Nat) (hk : k < p.rts.length) W vp vo vf, Below w.heap.size w W → RtM W vp vo vf p.rts[k] → Calls Tryz.prog 215 #[.agg #[.int .i64 p.ver, .int .i64 p.par, .slice a1 p.secs.length k1, .slice a2 p.pts.length k2, .slice a3 p.sigs.length k3, .slice a4 p.rts.length k4], .agg #[.int .i64 p.rts[k].id, .int .i64 p.rts[k].entry, .int .i64 p.rts[k].exit, vp, vo, vf, .int .i64 p.rts[k].timer]] W (BoolPost W (decide (RtMay (endsOf p.secs p.secs.length) p.sigs p.pts p.rts[k])))) := fun h k hk W vp vo vf hb hm => refRoute p _ _ _ _ p.rts[k] vp vo vf W (HP.out W hb) hf h.2.1 hm (hf.rt k hk)
 have hrl := hf.rts
 clear hp hf h1 h4 HP
 unfold plV
 go_enter Tryz.func129, Tryz.ntmps129
 go_upto_region 1 with fail
 generalize hW0 : World.alloc _ _ = W0
 have K0 : Hid (Below w.heap.size w W0) := by show Below _ _ _; rw [← hW0]; exact (Below.refl _ _).alloc (Nat.le_refl _) _
 have BX0 : Hid (W0.heap[w.heap.size]? = some (.cells #[.int .i64 p.ver, .int .i64 p.par, .slice a1 p.secs.length k1, .slice a2 p.pts.length k2, .slice a3 p.sigs.length k3, .slice a4 p.rts.length k4] 28 (0, 0))) := by show _ = _; rw [← hW0]; exact heap_alloc_new _ _
 have BXW : Hid (∀ W, Below W0.heap.size W0 W → W.heap[w.heap.size]? = some (.cells #[.int .i64 p.ver, .int .i64 p.par, .slice a1 p.secs.length k1, .slice a2 p.pts.length k2, .slice a3 p.sigs.length k3, .slice a4 p.rts.length k4] 28 (0, 0))) := fun W hb => (hb.block _ (lt_of_block BX0.out)).trans BX0.out
 have KW : Hid (∀ W, Below W0.heap.size W0 W → Below w.heap.size w W) := fun W hb => K0.out.trans (hb.mono K0.out.size)
 clear hW0
 obtain ⟨pp0, pp1, pp2, pp3, pp4, pp5⟩ := cells6 (BX0.out)
 by_cases h1 : p.ver < 1
 ·have t1 : decide (p.ver < 1) = true := by simp only [decide_eq_true_eq]; omega
  have HE := Lib.hid (HNO.out (fun hh => by have hz := HREF.out.1 hh; have := hz.1; have := hz.2.1; omega))
  clear h1
  go_wp2_with fail
  go_ret
  exact ⟨rbool HE.out.symm, K0.out⟩
 ·have t50 : decide (p.ver < 1) = false := by simp only [decide_eq_false_iff_not]; omega
  have H50 := Lib.hid h1
  clear h1
  by_cases h1 : 2147483647 < p.ver
  ·have t1 : decide ((2147483647 : Int) < p.ver) = true := by simp only [decide_eq_true_eq]; omega
   have HE := Lib.hid (HNO.out (fun hh => by have hz := HREF.out.1 hh; have := hz.1; have := hz.2.1; omega))
   clear h1
   go_wp2_with fail
   go_ret
   exact ⟨rbool HE.out.symm, K0.out⟩
  ·have t40 : decide ((2147483647 : Int) < p.ver) = false := by simp only [decide_eq_false_iff_not]; omega
   have H40 := Lib.hid h1
   clear h1
   by_cases h1 : p.par < 0
   ·have t1 : decide (p.par < 0) = true := by simp only [decide_eq_true_eq]; omega
    have HE := Lib.hid (HNO.out (fun hh => by have hz := HREF.out.1 hh; have := hz.1; have := hz.2.1; omega))
    clear h1
    go_wp2_with fail
    go_ret
    exact ⟨rbool HE.out.symm, K0.out⟩
   ·have t30 : decide (p.par < 0) = false := by simp only [decide_eq_false_iff_not]; omega
    have H30 := Lib.hid h1
    clear h1
    by_cases h1 : p.ver ≤ p.par
    ·have t1 : decide (p.ver ≤ p.par) = true := by simp only [decide_eq_true_eq]; omega
     have HE := Lib.hid (HNO.out (fun hh => by have hz := HREF.out.1 hh; have := hz.1; have := hz.2.1; omega))
     clear h1
     go_wp2_with fail
     go_ret
     exact ⟨rbool HE.out.symm, K0.out⟩
    ·have t20 : decide (p.ver ≤ p.par) = false := by simp only [decide_eq_false_iff_not]; omega
     have H20 := Lib.hid h1
     clear h1
     by_cases h1 : 16 < p.rts.length
     ·have t1 : decide ((16 : Int) < (p.rts.length : Int)) = true := by simp only [decide_eq_true_eq]; omega
      have HE := Lib.hid (HNO.out (fun hh => by have hz := HREF.out.1 hh; have := hz.1; have := hz.2.1; omega))
      clear h1
      go_wp2_with fail
      go_ret
      exact ⟨rbool HE.out.symm, K0.out⟩
     ·have t10 : decide ((16 : Int) < (p.rts.length : Int)) = false := by simp only [decide_eq_false_iff_not]; omega
      have H10 := Lib.hid h1
      clear h1
      have B0 : Hid (Below W0.heap.size W0 W0) := Below.refl _ _
      go_wp2_with fail
      refine (HC1.out W0 K0.out).mono ?_
      rintro e W1 ⟨rfl, hb1⟩
      have B1 : Hid (Below W0.heap.size W0 W1) := B0.out.trans (hb1.mono B0.out.size)
      have bx1 := BXW.out _ B1.out
      clear hb1 pp0 pp1 pp2 pp3 pp4 pp5
      obtain ⟨pp0, pp1, pp2, pp3, pp4, pp5⟩ := cells6 (bx1)
      clear bx1
      by_cases hs1 : SecsMay p.secs
      ·rw [decide_eq_true hs1]
       have S1 := Lib.hid hs1
       clear hs1
       go_wp2_with fail
       refine (HC2.out S1.out W1 (KW.out _ B1.out)).mono ?_
       rintro e W2 ⟨rfl, hb2⟩
       have B2 : Hid (Below W0.heap.size W0 W2) := B1.out.trans (hb2.mono B1.out.size)
       have bx2 := BXW.out _ B2.out
       clear hb2 pp0 pp1 pp2 pp3 pp4 pp5
       obtain ⟨pp0, pp1, pp2, pp3, pp4, pp5⟩ := cells6 (bx2)
       clear bx2
       by_cases hs2 : PtsMay p
       ·rw [decide_eq_true hs2]
        have S2 := Lib.hid hs2
        clear hs2
        go_wp2_with fail
        refine (HC3.out S1.out W2 (KW.out _ B2.out)).mono ?_
        rintro e W3 ⟨rfl, hb3⟩
        have B3 : Hid (Below W0.heap.size W0 W3) := B2.out.trans (hb3.mono B2.out.size)
        have bx3 := BXW.out _ B3.out
        clear hb3 pp0 pp1 pp2 pp3 pp4 pp5
        obtain ⟨pp0, pp1, pp2, pp3, pp4, pp5⟩ := cells6 (bx3)
        clear bx3
        by_cases hs3 : SigsMay (endsOf p.secs p.secs.length) p.sigs
        ·rw [decide_eq_true hs3]
         have S3 := Lib.hid hs3
         clear hs3
         clear pp0 pp1 pp2 pp3 pp4 pp5 t10 t20 t30 t40 t50
         have HG0 : Hid ((∀ j (h : j < p.rts.length), RsR p j h) → B = true) := fun h => HB.out true (by simp only [true_iff]; exact HREF.out.2 ⟨⟨by have := H50.out; omega, by have := H40.out; omega, by have := H30.out; omega, by have := H20.out; omega⟩, by have := H10.out; omega, S1.out, S2.out, S3.out, h⟩)
         have HBAD : Hid (∀ j (h : j < p.rts.length), ¬ RsR p j h → B = false) := fun j h hn => HNO.out (fun hh => hn ((HREF.out.1 hh).2.2.2.2.2 j h))
         have HC5 := Lib.hid (HC4.out S1.out)
         clear HREF HB HNO HC1 HC2 HC3 HC4
         go_wp2_with fail
         go_loopg [3] p.rts.length (fun g i wr => ∃ k : Nat, k ≤ p.rts.length ∧ g = p.rts.length - k ∧ i = .int .i64 k ∧ Below W0.heap.size W0 wr ∧ ∀ j (h : j < p.rts.length), j < k → RsR p j h)
         case atStart => exact ⟨0, by omega, by omega, rfl, B3.out, fun j h hj => by omega⟩
         case round =>
          obtain ⟨k, hk, rfl, rfl, hb, hno⟩ := hrel
          obtain ⟨wo, rfl⟩ : ∃ wo : World, wo = wr := ⟨_, rfl⟩
          have HNI := Lib.hid hno
          have KO := Lib.hid hb
          have KWO := Lib.hid (KW.out _ hb)
          have bxo := BXW.out _ hb
          clear hb hno
          have pp5 : wo.cell? ⟨w.heap.size, 5, none⟩ = some (.slice a4 p.rts.length k4) := (cell_of_row wo _ 5 _ _ _ (bxo)).trans rfl
          have HBX := Lib.hid bxo
          clear bxo
          by_cases hlt : k < p.rts.length
          ·have hd1 : decide ((k : Int) < (p.rts.length : Int)) = true := by simp; omega
           obtain ⟨b, off, vp, vo, vf, rfl, x0, x1, x2, x3, x4, x5, x6, hrm⟩ := (HRT.out _ KWO.out).rt hlt
           obtain ⟨v1, v2, v3, rfl, -⟩ := hrm.path
           obtain ⟨v4, v5, v6, rfl, -⟩ := hrm.over
           obtain ⟨v7, v8, rfl, -⟩ := hrm.fl
           have HM := Lib.hid hrm
           have c0 : (0 : Int) ≤ (k : Int) := by omega
           have c1 : (k : Int) < (p.rts.length : Int) := by omega
           have l2 := World.block_lt_of_cell? _ _ x0
           clear hrm
           go_upto_region 9 with fail
           generalize hWA : World.alloc _ _ = wA
           have hbA : Below wo.heap.size wo wA := by rw [← hWA]; exact (Below.refl _ _).alloc (Nat.le_refl _) _
           have hya : wA.heap[wo.heap.size]? = some (.cells #[.int .i64 p.rts[k].id, .int .i64 p.rts[k].entry, .int .i64 p.rts[k].exit, .slice v1 v2 v3, .slice v4 v5 v6, .slice v7 p.rts[k].fl.length v8, .int .i64 p.rts[k].timer] 102 (0, 0)) := by rw [← hWA]; exact heap_alloc_new _ _
           have KA : Hid (Below W0.heap.size W0 wA) := KO.out.trans (hbA.mono KO.out.size)
           have HMA := Lib.hid (HM.out.below hbA)
           have bxa := BXW.out _ KA.out
           obtain ⟨gg0, gg1, gg2, gg3, gg4, gg5⟩ := cells6 (bxa)
           obtain ⟨y0, y1, y2, y3, y4, y5, y6⟩ := cells7 hya
           clear hWA hbA x0 x1 x2 x3 x4 x5 x6 pp5 l2 hya bxa
           have hR : ∀ (d : Nat) (os : Array Obj), Below W0.heap.size W0 (grow (redrawn wA d) os) := fun d os => KA.out.trans ((below_regrown wA d os).mono KA.out.size)
           have HRW := Lib.hid hR
           have G0 := cell_regrown gg0
           have G1 := cell_regrown gg1
           have G2 := cell_regrown gg2
           have G3 := cell_regrown gg3
           have G4 := cell_regrown gg4
           have G5 := cell_regrown gg5
           have Y0 := cell_regrown y0
           have Y1 := cell_regrown y1
           have Y2 := cell_regrown y2
           have Y3 := cell_regrown y3
           have Y4 := cell_regrown y4
           have Y5 := cell_regrown y5
           have Y6 := cell_regrown y6
           have hcc := fun (d : Nat) (os : Array Obj) => Calls.regrown_of (HC5.out k hlt (grow (redrawn wA d) os) _ _ _ (KW.out _ (hR d os)) (HMA.out.below (below_regrown wA d os)))
           clear hR gg0 gg1 gg2 gg3 gg4 gg5 y0 y1 y2 y3 y4 y5 y6
           by_cases h1 : p.rts[k].id < 1
           ·have u1 : decide (p.rts[k].id < 1) = true := by simp [h1]
            clear hcc
            have HE := Lib.hid (HBAD.out k hlt (fun hh => by have := hh.1.1; omega))
            go_upto_region 9 with fail
            refine wp_region_quiet_below (by kernel_rfl) (by kernel_rfl) ?_
            repeat (go_big_quiet_step (fail))
            refine wpQuiet_nil ?_
            rintro _ ⟨⟨dq, osq⟩, rfl⟩
            go_wp2_with fail
            go_ret
            exact ⟨rbool HE.out.symm, KW.out _ (HRW.out dq osq)⟩
           ·have u1 : decide (p.rts[k].id < 1) = false := by simp; omega
            by_cases h2 : 99 < p.rts[k].id
            ·have u2 : decide (99 < p.rts[k].id) = true := by simp [h2]
             clear hcc
             have HE := Lib.hid (HBAD.out k hlt (fun hh => by have := hh.1.2; omega))
             go_upto_region 9 with fail
             refine wp_region_quiet_below (by kernel_rfl) (by kernel_rfl) ?_
             repeat (go_big_quiet_step (fail))
             refine wpQuiet_nil ?_
             rintro _ ⟨⟨dq, osq⟩, rfl⟩
             go_wp2_with fail
             go_ret
             exact ⟨rbool HE.out.symm, KW.out _ (HRW.out dq osq)⟩
            ·have u2 : decide (99 < p.rts[k].id) = false := by simp; omega
             by_cases h3 : 0 < k
             ·have u3 : decide ((0 : Int) < (k : Int)) = true := by simp; omega
              obtain ⟨b', off', _, _, _, hbe, z0, -⟩ := (HRT.out _ (KW.out _ KA.out)).rt (i := k - 1) (by omega)
              cases hbe
              have Z0 := cell_regrown z0
              have e0 : (0 : Int) ≤ (k : Int) - 1 := by omega
              have e1 : (k : Int) - 1 < (p.rts.length : Int) := by omega
              have et : ((k : Int) - 1).toNat = k - 1 := by omega
              clear z0
              by_cases h4 : p.rts[k].id ≤ p.rts[k - 1].id
              ·have u6 : decide (p.rts[k].id ≤ p.rts[k - 1].id) = true := by simp [h4]
               clear hcc
               have HE := Lib.hid (HBAD.out k hlt (fun hh => by have := hh.2.1 h3; omega))
               go_upto_region 9 with fail
               refine wp_region_quiet_below (by kernel_rfl) (by kernel_rfl) ?_
               repeat (go_big_quiet_step (fail))
               refine wpQuiet_nil ?_
               rintro _ ⟨⟨dq, osq⟩, rfl⟩
               go_wp2_with fail
               go_ret
               exact ⟨rbool HE.out.symm, KW.out _ (HRW.out dq osq)⟩
              ·have u6 : decide (p.rts[k].id ≤ p.rts[k - 1].id) = false := by simp; omega
               by_cases h7 : RtMay (endsOf p.secs p.secs.length) p.sigs p.pts p.rts[k]
               ·rw [decide_eq_true h7] at hcc
                have cC : Hid (∀ (d : Nat) (os : Array Obj), Calls Tryz.prog 215 #[.agg #[.int .i64 p.ver, .int .i64 p.par, .slice a1 p.secs.length k1, .slice a2 p.pts.length k2, .slice a3 p.sigs.length k3, .slice (some ⟨b, off, none⟩) p.rts.length k4], .agg #[.int .i64 p.rts[k].id, .int .i64 p.rts[k].entry, .int .i64 p.rts[k].exit, .slice v1 v2 v3, .slice v4 v5 v6, .slice v7 p.rts[k].fl.length v8, .int .i64 p.rts[k].timer]] (grow (redrawn wA d) os) fun e w'' => e = .returned (.bool true) ∧ ∃ p : Regrown, w'' = grow (redrawn wA p.d) p.os) := hcc
                have HG : Hid (RsR p k hlt) := ⟨⟨by omega, by omega⟩, fun _ => by omega, h7⟩
                clear hcc h7
                go_upto_region 9 with fail
                refine wp_region_quiet_below (by kernel_rfl) (by kernel_rfl) ?_
                repeat (go_big_quiet_step ((with_reducible exact cC.out _ _)))
                refine wpQuiet_nil ?_
                rintro _ ⟨⟨dq, osq⟩, rfl⟩
                go_wp2_with fail
                go_roundg (p.rts.length - (k + 1))
                case measure => go_light; omega
                case rel =>
                 go_light
                 refine ⟨k + 1, by omega, by omega, by go_num, HRW.out dq osq, fun j h hj => ?_⟩
                 by_cases hjk : j = k
                 ·subst hjk; exact HG.out
                 ·exact HNI.out j h (by omega)
               ·rw [decide_eq_false h7] at hcc
                have cC : Hid (∀ (d : Nat) (os : Array Obj), Calls Tryz.prog 215 #[.agg #[.int .i64 p.ver, .int .i64 p.par, .slice a1 p.secs.length k1, .slice a2 p.pts.length k2, .slice a3 p.sigs.length k3, .slice (some ⟨b, off, none⟩) p.rts.length k4], .agg #[.int .i64 p.rts[k].id, .int .i64 p.rts[k].entry, .int .i64 p.rts[k].exit, .slice v1 v2 v3, .slice v4 v5 v6, .slice v7 p.rts[k].fl.length v8, .int .i64 p.rts[k].timer]] (grow (redrawn wA d) os) fun e w'' => e = .returned (.bool false) ∧ ∃ p : Regrown, w'' = grow (redrawn wA p.d) p.os) := hcc
                clear hcc
                have HE := Lib.hid (HBAD.out k hlt (fun hh => h7 hh.2.2))
                go_upto_region 9 with fail
                refine wp_region_quiet_below (by kernel_rfl) (by kernel_rfl) ?_
                repeat (go_big_quiet_step ((with_reducible exact cC.out _ _)))
                refine wpQuiet_nil ?_
                rintro _ ⟨⟨dq, osq⟩, rfl⟩
                go_wp2_with fail
                go_ret
                exact ⟨rbool HE.out.symm, KW.out _ (HRW.out dq osq)⟩
             ·have u3 : decide ((0 : Int) < (k : Int)) = false := by simp; omega
              by_cases h7 : RtMay (endsOf p.secs p.secs.length) p.sigs p.pts p.rts[k]
              ·rw [decide_eq_true h7] at hcc
               have cC : Hid (∀ (d : Nat) (os : Array Obj), Calls Tryz.prog 215 #[.agg #[.int .i64 p.ver, .int .i64 p.par, .slice a1 p.secs.length k1, .slice a2 p.pts.length k2, .slice a3 p.sigs.length k3, .slice (some ⟨b, off, none⟩) p.rts.length k4], .agg #[.int .i64 p.rts[k].id, .int .i64 p.rts[k].entry, .int .i64 p.rts[k].exit, .slice v1 v2 v3, .slice v4 v5 v6, .slice v7 p.rts[k].fl.length v8, .int .i64 p.rts[k].timer]] (grow (redrawn wA d) os) fun e w'' => e = .returned (.bool true) ∧ ∃ p : Regrown, w'' = grow (redrawn wA p.d) p.os) := hcc
               have HG : Hid (RsR p k hlt) := ⟨⟨by omega, by omega⟩, fun h => absurd h h3, h7⟩
               clear hcc h7
               go_upto_region 9 with fail
               refine wp_region_quiet_below (by kernel_rfl) (by kernel_rfl) ?_
               repeat (go_big_quiet_step ((with_reducible exact cC.out _ _)))
               refine wpQuiet_nil ?_
               rintro _ ⟨⟨dq, osq⟩, rfl⟩
               go_wp2_with fail
               go_roundg (p.rts.length - (k + 1))
               case measure => go_light; omega
               case rel =>
                go_light
                refine ⟨k + 1, by omega, by omega, by go_num, HRW.out dq osq, fun j h hj => ?_⟩
                by_cases hjk : j = k
                ·subst hjk; exact HG.out
                ·exact HNI.out j h (by omega)
              ·rw [decide_eq_false h7] at hcc
               have cC : Hid (∀ (d : Nat) (os : Array Obj), Calls Tryz.prog 215 #[.agg #[.int .i64 p.ver, .int .i64 p.par, .slice a1 p.secs.length k1, .slice a2 p.pts.length k2, .slice a3 p.sigs.length k3, .slice (some ⟨b, off, none⟩) p.rts.length k4], .agg #[.int .i64 p.rts[k].id, .int .i64 p.rts[k].entry, .int .i64 p.rts[k].exit, .slice v1 v2 v3, .slice v4 v5 v6, .slice v7 p.rts[k].fl.length v8, .int .i64 p.rts[k].timer]] (grow (redrawn wA d) os) fun e w'' => e = .returned (.bool false) ∧ ∃ p : Regrown, w'' = grow (redrawn wA p.d) p.os) := hcc
               clear hcc
               have HE := Lib.hid (HBAD.out k hlt (fun hh => h7 hh.2.2))
               go_upto_region 9 with fail
               refine wp_region_quiet_below (by kernel_rfl) (by kernel_rfl) ?_
               repeat (go_big_quiet_step ((with_reducible exact cC.out _ _)))
               refine wpQuiet_nil ?_
               rintro _ ⟨⟨dq, osq⟩, rfl⟩
               go_wp2_with fail
               go_ret
               exact ⟨rbool HE.out.symm, KW.out _ (HRW.out dq osq)⟩
          ·obtain rfl : k = p.rts.length := by omega
           have hd1 : decide ((p.rts.length : Int) < (p.rts.length : Int)) = false := by simp
           have HE := Lib.hid (HG0.out (fun j h => HNI.out j h h))
           go_wp2_with fail
           go_ret
           exact ⟨rbool HE.out.symm, KWO.out⟩
        ·rw [decide_eq_false hs3]
         have HE := Lib.hid (HNO.out (fun hh => hs3 (HREF.out.1 hh).2.2.2.2.1))
         clear hs3
         go_wp2_with fail
         go_ret
         exact ⟨rbool HE.out.symm, (KW.out _ B3.out)⟩
       ·rw [decide_eq_false hs2]
        have HE := Lib.hid (HNO.out (fun hh => hs2 (HREF.out.1 hh).2.2.2.1))
        clear hs2
        go_wp2_with fail
        go_ret
        exact ⟨rbool HE.out.symm, (KW.out _ B2.out)⟩
      ·rw [decide_eq_false hs1]
       have HE := Lib.hid (HNO.out (fun hh => hs1 (HREF.out.1 hh).2.2.1))
       clear hs1
       go_wp2_with fail
       go_ret
       exact ⟨rbool HE.out.symm, (KW.out _ B1.out)⟩
end Go.Proofs.YtbiehpjhhopjaaaGreat
