/-
 The references' word on a state's parts, walked. (Written by wip/tools/gen_rwi.py.)
-/
import Derived.Test.YtbiehpjhhopjaaaGreatTRwD
import Derived.Test.YtbiehpjhhopjaaaGreatTStateE
set_option linter.unusedVariables false
set_option linter.unusedSimpArgs false
namespace Go.Proofs.YtbiehpjhhopjaaaGreat
open Go.RowKit Go.Sort
theorem sta_ref (p : Pl) (st : St) : StA p st ↔ st.tks.length = p.secs.length ∧ st.sws.length = p.pts.length ∧ st.lks.length = p.rts.length ∧ (∀ j (h : j < st.tks.length) (h' : j < p.secs.length), TkAt st.tks[j] p.secs[j]) ∧ (∀ j (h : j < st.sws.length) (h' : j < p.pts.length), SwAt st.sws[j] p.pts[j]) ∧ ∀ j (h : j < st.lks.length) (h' : j < p.rts.length), LkAt st.lks[j] p.rts[j] := by
 constructor
 ·rintro ⟨⟨h1, h2⟩, ⟨h3, h4⟩, ⟨h5, h6⟩⟩
  exact ⟨h1, h3, h5, fun j h h' => h2 j h h' h, fun j h h' => h4 j h h' h, fun j h h' => h6 j h h' h⟩
 ·rintro ⟨h1, h3, h5, h2, h4, h6⟩
  exact ⟨⟨h1, fun j h h' _ => h2 j h h'⟩, ⟨h3, fun j h h' _ => h4 j h h'⟩, ⟨h5, fun j h h' _ => h6 j h h'⟩⟩
set_option maxRecDepth 100000 in
set_option maxHeartbeats 16000000 in
theorem refParts (p : Pl) (st : St) (s q gg rr t sw lk : Value) (w : World) (hp : PlM w s q gg rr p) (hf : p.Fit) (hs : StM w t sw lk st) (hsf : st.fit) :
  Calls Tryz.prog 220 #[plV p s q gg rr, stV t sw lk] w (BoolPost w (decide (StA p st))) := by
 have HREF : Hid (StA p st ↔ st.tks.length = p.secs.length ∧ st.sws.length = p.pts.length ∧ st.lks.length = p.rts.length ∧ (∀ j (h : j < st.tks.length) (h' : j < p.secs.length), TkAt st.tks[j] p.secs[j]) ∧ (∀ j (h : j < st.sws.length) (h' : j < p.pts.length), SwAt st.sws[j] p.pts[j]) ∧ ∀ j (h : j < st.lks.length) (h' : j < p.rts.length), LkAt st.lks[j] p.rts[j]) := sta_ref p st
 have HNO : Hid (¬ StA p st → decide (StA p st) = false) := fun h => decide_eq_false h
 have HYES : Hid (StA p st → decide (StA p st) = true) := fun h => decide_eq_true h
 generalize decide (StA p st) = B at *
 obtain ⟨a1, k1, rfl, g1⟩ := hp.secs
 obtain ⟨a2, k2, rfl, g2⟩ := hp.pts
 obtain ⟨a3, k3, rfl, -⟩ := hp.sigs
 obtain ⟨a4, k4, rfl, g4⟩ := hp.rts
 obtain ⟨b1, d1, rfl, g5⟩ := hs.tks
 obtain ⟨b2, d2, rfl, g6⟩ := hs.sws
 obtain ⟨b3, d3, rfl, g7⟩ := hs.lks
 have HSE : Hid (∀ W, Below w.heap.size w W → SlA W 3 RSec a1 k1 p.secs) := fun W hb => g1.below keeps_sec hb
 have HPT : Hid (∀ W, Below w.heap.size w W → SlA W 2 RPt a2 k2 p.pts) := fun W hb => g2.below keeps_pt hb
 have HRT : Hid (∀ W, Below w.heap.size w W → SlA W 7 RRt a4 k4 p.rts) := fun W hb => g4.below keeps_rt hb
 have HTK : Hid (∀ W, Below w.heap.size w W → SlA W 2 RTk b1 d1 st.tks) := fun W hb => g5.below keeps_tk hb
 have HSW : Hid (∀ W, Below w.heap.size w W → SlA W 3 RSw b2 d2 st.sws) := fun W hb => g6.below keeps_sw hb
 have HLK : Hid (∀ W, Below w.heap.size w W → SlA W 4 RLk b3 d3 st.lks) := fun W hb => g7.below keeps_lk hb
 have LT := Lib.hid hsf.1
 have LW := Lib.hid hsf.2.1
 have LL := Lib.hid hsf.2.2
 have HRF : Hid (∀ j (h : j < p.rts.length), p.rts[j].path.length ≤ 1000) := fun j h => (hf.rt j h).1
 clear hp hf hs hsf g1 g2 g4 g5 g6 g7
 unfold plV stV
 go_enter Tryz.func220, Tryz.ntmps220
 go_upto_region 1 with fail
 generalize hW0 : World.alloc _ _ = W0
 have K0 : Hid (Below w.heap.size w W0) := by show Below _ _ _; rw [← hW0]; exact ((Below.refl _ _).alloc (Nat.le_refl _) _).alloc (by simp) _
 have BX0 : Hid (W0.heap[w.heap.size]? = some (.cells #[.int .i64 p.ver, .int .i64 p.par, .slice a1 p.secs.length k1, .slice a2 p.pts.length k2, .slice a3 p.sigs.length k3, .slice a4 p.rts.length k4] 28 (0, 0)) ∧ W0.heap[w.heap.size + 1]? = some (.cells #[.slice b1 st.tks.length d1, .slice b2 st.sws.length d2, .slice b3 st.lks.length d3] 33 (0, 0))) := by
  show _ ∧ _
  rw [← hW0]
  exact ⟨(heap_alloc_old _ _ (by simp)).trans (heap_alloc_new _ _), heap_alloc2_new _ _ _⟩
 have BXW : Hid (∀ W, Below W0.heap.size W0 W → W.heap[w.heap.size]? = some (.cells #[.int .i64 p.ver, .int .i64 p.par, .slice a1 p.secs.length k1, .slice a2 p.pts.length k2, .slice a3 p.sigs.length k3, .slice a4 p.rts.length k4] 28 (0, 0)) ∧ W.heap[w.heap.size + 1]? = some (.cells #[.slice b1 st.tks.length d1, .slice b2 st.sws.length d2, .slice b3 st.lks.length d3] 33 (0, 0))) := fun W hb => ⟨(hb.block _ (lt_of_block BX0.out.1)).trans BX0.out.1, (hb.block _ (lt_of_block BX0.out.2)).trans BX0.out.2⟩
 have KW : Hid (∀ W, Below W0.heap.size W0 W → Below w.heap.size w W) := fun W hb => K0.out.trans (hb.mono K0.out.size)
 clear hW0
 have pp2 : W0.cell? ⟨w.heap.size, 2, none⟩ = some (.slice a1 p.secs.length k1) := (cell_of_row W0 _ 2 _ _ _ (BX0.out).1).trans rfl
 have pp3 : W0.cell? ⟨w.heap.size, 3, none⟩ = some (.slice a2 p.pts.length k2) := (cell_of_row W0 _ 3 _ _ _ (BX0.out).1).trans rfl
 have pp5 : W0.cell? ⟨w.heap.size, 5, none⟩ = some (.slice a4 p.rts.length k4) := (cell_of_row W0 _ 5 _ _ _ (BX0.out).1).trans rfl
 obtain ⟨ss0, ss1, ss2⟩ := cells3 (BX0.out).2
 have lb := block_lt_of_cell pp2
 have lc := block_lt_of_cell ss0
 by_cases e1 : st.tks.length = p.secs.length
 ·have n1 : ((st.tks.length : Int) != (p.secs.length : Int)) = false := by simp [e1]
  have E1 := Lib.hid e1
  clear e1
  by_cases e2 : st.sws.length = p.pts.length
  ·have n2 : ((st.sws.length : Int) != (p.pts.length : Int)) = false := by simp [e2]
   have E2 := Lib.hid e2
   clear e2
   by_cases e3 : st.lks.length = p.rts.length
   ·have n3 : ((st.lks.length : Int) != (p.rts.length : Int)) = false := by simp [e3]
    have E3 := Lib.hid e3
    clear e3
    have hlt1 := LT.out
    have hlt2 := LW.out
    have hlt3 := LL.out
    go_wp2_with fail
    clear pp2 pp3 pp5 ss0 ss1 ss2 lb lc n1 n2 n3
    go_loopg [5] st.tks.length (fun g i wr => ∃ k : Nat, k ≤ st.tks.length ∧ g = st.tks.length - k ∧ i = .int .i64 k ∧ Below W0.heap.size W0 wr ∧ ∀ j (h : j < st.tks.length) (h' : j < p.secs.length), j < k → TkAt st.tks[j] p.secs[j])
    case atStart => exact ⟨0, by omega, by omega, rfl, Below.refl _ _, fun j h h' hj => by omega⟩
    case round =>
     obtain ⟨k, hk, rfl, rfl, hb, hno⟩ := hrel
     obtain ⟨wo, rfl⟩ : ∃ wo : World, wo = wr := ⟨_, rfl⟩
     have HNI := Lib.hid hno
     have KO := Lib.hid hb
     have KWO := Lib.hid (KW.out _ hb)
     have bx := BXW.out _ hb
     clear hb hno
     have pp2 : wo.cell? ⟨w.heap.size, 2, none⟩ = some (.slice a1 p.secs.length k1) := (cell_of_row wo _ 2 _ _ _ (bx).1).trans rfl
     have ss0 : wo.cell? ⟨w.heap.size + 1, 0, none⟩ = some (.slice b1 st.tks.length d1) := (cell_of_row wo _ 0 _ _ _ (bx).2).trans rfl
     clear bx
     by_cases hlt : k < st.tks.length
     ·have hd1 : decide ((k : Int) < (st.tks.length : Int)) = true := by simp; omega
      have hlm : k < p.secs.length := by have := E1.out; omega
      have c0 : (0 : Int) ≤ (k : Int) := by omega
      have c1 : (k : Int) < (st.tks.length : Int) := by omega
      have c2 : (k : Int) < (p.secs.length : Int) := by omega
      obtain ⟨q1, q2, rfl, x0, x1⟩ := (HTK.out _ KWO.out).tk hlt
      obtain ⟨q3, q4, _, _, rfl, y0, -⟩ := (HSE.out _ KWO.out).sec hlm
      have l8 := World.block_lt_of_cell? _ _ x0
      have l9 := World.block_lt_of_cell? _ _ y0
      have Kwo := Lib.hid KO.out
      have hR : ∀ (d : Nat) (os : Array Obj), Below W0.heap.size W0 (grow (redrawn wo d) os) := fun d os => Kwo.out.trans ((below_regrown wo d os).mono Kwo.out.size)
      have HRW := Lib.hid hR
      have X0 := cell_regrown x0
      have X1 := cell_regrown x1
      have Y0 := cell_regrown y0
      have P2 := cell_regrown pp2
      have S0 := cell_regrown ss0
      have HLW : Hid (¬ TkAt st.tks[k] p.secs[k] → ¬ StA p st) := fun h hh => h ((HREF.out.1 hh).2.2.2.1 k hlt hlm)
      clear x0 x1 y0 hR pp2
      by_cases h0 : st.tks[k].id = p.secs[k].id
      ·have t0 : (st.tks[k].id != p.secs[k].id) = false := by simp [h0]
       by_cases h1 : 2 < st.tks[k].is
       ·have t1 : decide ((2 : Int) < st.tks[k].is) = true := by simp [h1]
        have HE := Lib.hid (HNO.out (HLW.out (fun hh => by have := hh.2; omega)))
        clear h1
        go_upto_region 6 with fail
        refine wp_region_quiet_below (by kernel_rfl) (by kernel_rfl) ?_
        repeat (go_big_quiet_step (fail))
        refine wpQuiet_nil ?_
        rintro _ ⟨⟨dq, osq⟩, rfl⟩
        go_wp2_with fail
        go_ret
        exact ⟨rbool HE.out.symm, KW.out _ (HRW.out dq osq)⟩
       ·have t1 : decide ((2 : Int) < st.tks[k].is) = false := by simp; omega
        have HG : Hid (TkAt st.tks[k] p.secs[k]) := ⟨h0, by omega⟩
        clear h0 h1
        go_upto_region 6 with fail
        refine wp_region_quiet_below (by kernel_rfl) (by kernel_rfl) ?_
        repeat (go_big_quiet_step (fail))
        refine wpQuiet_nil ?_
        rintro _ ⟨⟨dq, osq⟩, rfl⟩
        go_wp2_with fail
        go_roundg (st.tks.length - (k + 1))
        case measure => go_light; omega
        case rel =>
         go_light
         refine ⟨k + 1, by omega, by omega, by go_num, HRW.out dq osq, fun j h h' hj => ?_⟩
         by_cases hjk : j = k
         ·subst hjk; exact HG.out
         ·exact HNI.out j h h' (by omega)
      ·have t0 : (st.tks[k].id != p.secs[k].id) = true := by simp [h0]
       have HE := Lib.hid (HNO.out (HLW.out (fun hh => h0 hh.1)))
       clear h0
       go_upto_region 6 with fail
       refine wp_region_quiet_below (by kernel_rfl) (by kernel_rfl) ?_
       repeat (go_big_quiet_step (fail))
       refine wpQuiet_nil ?_
       rintro _ ⟨⟨dq, osq⟩, rfl⟩
       go_wp2_with fail
       go_ret
       exact ⟨rbool HE.out.symm, KW.out _ (HRW.out dq osq)⟩
     ·obtain rfl : k = st.tks.length := by omega
      have hd1 : decide ((st.tks.length : Int) < (st.tks.length : Int)) = false := by simp
      have R1 : Hid (∀ j (h : j < st.tks.length) (h' : j < p.secs.length), TkAt st.tks[j] p.secs[j]) := fun j h h' => HNI.out j h h' h
      have KZ := Lib.hid KO.out
      clear KO KWO HNI
      go_wp2_with fail
      clear pp2 ss0
      go_loopg [6] st.sws.length (fun g i wr => ∃ k : Nat, k ≤ st.sws.length ∧ g = st.sws.length - k ∧ i = .int .i64 k ∧ Below W0.heap.size W0 wr ∧ ∀ j (h : j < st.sws.length) (h' : j < p.pts.length), j < k → SwAt st.sws[j] p.pts[j])
      case atStart => exact ⟨0, by omega, by omega, rfl, KZ.out, fun j h h' hj => by omega⟩
      case round =>
       obtain ⟨k, hk, rfl, rfl, hb, hno⟩ := hrel
       obtain ⟨wo, rfl⟩ : ∃ wo : World, wo = wr := ⟨_, rfl⟩
       have HNI := Lib.hid hno
       have KO := Lib.hid hb
       have KWO := Lib.hid (KW.out _ hb)
       have bx := BXW.out _ hb
       clear hb hno
       have pp3 : wo.cell? ⟨w.heap.size, 3, none⟩ = some (.slice a2 p.pts.length k2) := (cell_of_row wo _ 3 _ _ _ (bx).1).trans rfl
       have ss1 : wo.cell? ⟨w.heap.size + 1, 1, none⟩ = some (.slice b2 st.sws.length d2) := (cell_of_row wo _ 1 _ _ _ (bx).2).trans rfl
       clear bx
       by_cases hlt : k < st.sws.length
       ·have hd1 : decide ((k : Int) < (st.sws.length : Int)) = true := by simp; omega
        have hlm : k < p.pts.length := by have := E2.out; omega
        have c0 : (0 : Int) ≤ (k : Int) := by omega
        have c1 : (k : Int) < (st.sws.length : Int) := by omega
        have c2 : (k : Int) < (p.pts.length : Int) := by omega
        obtain ⟨q1, q2, rfl, x0, x1, x2⟩ := (HSW.out _ KWO.out).sw hlt
        have l8 := World.block_lt_of_cell? _ _ x0
        go_upto_region 12 with fail
        generalize hWA : World.alloc _ _ = wA
        have hbA : Below wo.heap.size wo wA := by rw [← hWA]; exact (Below.refl _ _).alloc (Nat.le_refl _) _
        have z0 : wA.cell? ⟨wo.heap.size, 0, none⟩ = some (.int .i64 st.sws[k].id) := by rw [← hWA]; simp
        have z1 : wA.cell? ⟨wo.heap.size, 1, none⟩ = some (.int .i64 st.sws[k].lie) := by rw [← hWA]; simp
        have z2 : wA.cell? ⟨wo.heap.size, 2, none⟩ = some (.int .i64 st.sws[k].call) := by rw [← hWA]; simp
        have KwA : Hid (Below W0.heap.size W0 wA) := KO.out.trans (hbA.mono KO.out.size)
        have g3 := ccell hbA pp3
        obtain ⟨q3, q4, rfl, y0, y1⟩ := (HPT.out _ (KW.out _ KwA.out)).pt hlm
        have l9 := World.block_lt_of_cell? _ _ y0
        clear hWA hbA x0 x1 x2 pp3 ss1 l8
        have hR : ∀ (d : Nat) (os : Array Obj), Below W0.heap.size W0 (grow (redrawn wA d) os) := fun d os => KwA.out.trans ((below_regrown wA d os).mono KwA.out.size)
        have HRW := Lib.hid hR
        have Z0 := cell_regrown z0
        have Z1 := cell_regrown z1
        have Z2 := cell_regrown z2
        have Y0 := cell_regrown y0
        have G3 := cell_regrown g3
        have HLW : Hid (¬ SwAt st.sws[k] p.pts[k] → ¬ StA p st) := fun h hh => h ((HREF.out.1 hh).2.2.2.2.1 k hlt hlm)
        clear z0 z1 z2 y0 y1 g3 hR
        by_cases h0 : st.sws[k].id = p.pts[k].id
        ·have t0 : (st.sws[k].id != p.pts[k].id) = false := by simp [h0]
         by_cases h4 : st.sws[k].lie < 0
         ·have t4 : decide (st.sws[k].lie < 0) = true := by simp [h4]
          have HE := Lib.hid (HNO.out (HLW.out (fun hh => by have := hh.2.1.1; omega)))
          clear h4
          go_upto_region 12 with fail
          refine wp_region_quiet_below (by kernel_rfl) (by kernel_rfl) ?_
          repeat (go_big_quiet_step (fail))
          refine wpQuiet_nil ?_
          rintro _ ⟨⟨dq, osq⟩, rfl⟩
          go_wp2_with fail
          go_ret
          exact ⟨rbool HE.out.symm, KW.out _ (HRW.out dq osq)⟩
         ·have t4 : decide (st.sws[k].lie < 0) = false := by simp; omega
          by_cases h3 : 2 < st.sws[k].lie
          ·have t3 : decide ((2 : Int) < st.sws[k].lie) = true := by simp [h3]
           have HE := Lib.hid (HNO.out (HLW.out (fun hh => by have := hh.2.1.2; omega)))
           clear h3
           go_upto_region 12 with fail
           refine wp_region_quiet_below (by kernel_rfl) (by kernel_rfl) ?_
           repeat (go_big_quiet_step (fail))
           refine wpQuiet_nil ?_
           rintro _ ⟨⟨dq, osq⟩, rfl⟩
           go_wp2_with fail
           go_ret
           exact ⟨rbool HE.out.symm, KW.out _ (HRW.out dq osq)⟩
          ·have t3 : decide ((2 : Int) < st.sws[k].lie) = false := by simp; omega
           by_cases h2 : st.sws[k].call < 0
           ·have t2 : decide (st.sws[k].call < 0) = true := by simp [h2]
            have HE := Lib.hid (HNO.out (HLW.out (fun hh => by have := hh.2.2.1; omega)))
            clear h2
            go_upto_region 12 with fail
            refine wp_region_quiet_below (by kernel_rfl) (by kernel_rfl) ?_
            repeat (go_big_quiet_step (fail))
            refine wpQuiet_nil ?_
            rintro _ ⟨⟨dq, osq⟩, rfl⟩
            go_wp2_with fail
            go_ret
            exact ⟨rbool HE.out.symm, KW.out _ (HRW.out dq osq)⟩
           ·have t2 : decide (st.sws[k].call < 0) = false := by simp; omega
            by_cases h1 : 2 < st.sws[k].call
            ·have t1 : decide ((2 : Int) < st.sws[k].call) = true := by simp [h1]
             have HE := Lib.hid (HNO.out (HLW.out (fun hh => by have := hh.2.2.2; omega)))
             clear h1
             go_upto_region 12 with fail
             refine wp_region_quiet_below (by kernel_rfl) (by kernel_rfl) ?_
             repeat (go_big_quiet_step (fail))
             refine wpQuiet_nil ?_
             rintro _ ⟨⟨dq, osq⟩, rfl⟩
             go_wp2_with fail
             go_ret
             exact ⟨rbool HE.out.symm, KW.out _ (HRW.out dq osq)⟩
            ·have t1 : decide ((2 : Int) < st.sws[k].call) = false := by simp; omega
             have HG : Hid (SwAt st.sws[k] p.pts[k]) := ⟨h0, ⟨by omega, by omega⟩, ⟨by omega, by omega⟩⟩
             clear h0 h1 h2 h3 h4
             go_upto_region 12 with fail
             refine wp_region_quiet_below (by kernel_rfl) (by kernel_rfl) ?_
             repeat (go_big_quiet_step (fail))
             refine wpQuiet_nil ?_
             rintro _ ⟨⟨dq, osq⟩, rfl⟩
             go_wp2_with fail
             go_roundg (st.sws.length - (k + 1))
             case measure => go_light; omega
             case rel =>
              go_light
              refine ⟨k + 1, by omega, by omega, by go_num, HRW.out dq osq, fun j h h' hj => ?_⟩
              by_cases hjk : j = k
              ·subst hjk; exact HG.out
              ·exact HNI.out j h h' (by omega)
        ·have t0 : (st.sws[k].id != p.pts[k].id) = true := by simp [h0]
         have HE := Lib.hid (HNO.out (HLW.out (fun hh => h0 hh.1)))
         clear h0
         go_upto_region 12 with fail
         refine wp_region_quiet_below (by kernel_rfl) (by kernel_rfl) ?_
         repeat (go_big_quiet_step (fail))
         refine wpQuiet_nil ?_
         rintro _ ⟨⟨dq, osq⟩, rfl⟩
         go_wp2_with fail
         go_ret
         exact ⟨rbool HE.out.symm, KW.out _ (HRW.out dq osq)⟩
       ·obtain rfl : k = st.sws.length := by omega
        have hd1 : decide ((st.sws.length : Int) < (st.sws.length : Int)) = false := by simp
        have R2 : Hid (∀ j (h : j < st.sws.length) (h' : j < p.pts.length), SwAt st.sws[j] p.pts[j]) := fun j h h' => HNI.out j h h' h
        clear KZ
        have KZ := Lib.hid KO.out
        clear KO KWO HNI
        go_wp2_with fail
        clear pp3 ss1
        go_loopg [8] st.lks.length (fun g i wr => ∃ k : Nat, k ≤ st.lks.length ∧ g = st.lks.length - k ∧ i = .int .i64 k ∧ Below W0.heap.size W0 wr ∧ ∀ j (h : j < st.lks.length) (h' : j < p.rts.length), j < k → LkAt st.lks[j] p.rts[j])
        case atStart => exact ⟨0, by omega, by omega, rfl, KZ.out, fun j h h' hj => by omega⟩
        case round =>
         obtain ⟨k, hk, rfl, rfl, hb, hno⟩ := hrel
         obtain ⟨wo, rfl⟩ : ∃ wo : World, wo = wr := ⟨_, rfl⟩
         have HNI := Lib.hid hno
         have KO := Lib.hid hb
         have KWO := Lib.hid (KW.out _ hb)
         have bx := BXW.out _ hb
         clear hb hno
         have pp5 : wo.cell? ⟨w.heap.size, 5, none⟩ = some (.slice a4 p.rts.length k4) := (cell_of_row wo _ 5 _ _ _ (bx).1).trans rfl
         have ss2 : wo.cell? ⟨w.heap.size + 1, 2, none⟩ = some (.slice b3 st.lks.length d3) := (cell_of_row wo _ 2 _ _ _ (bx).2).trans rfl
         clear bx
         by_cases hlt : k < st.lks.length
         ·have hd1 : decide ((k : Int) < (st.lks.length : Int)) = true := by simp; omega
          have hlm : k < p.rts.length := by have := E3.out; omega
          have c0 : (0 : Int) ≤ (k : Int) := by omega
          have c1 : (k : Int) < (st.lks.length : Int) := by omega
          have c2 : (k : Int) < (p.rts.length : Int) := by omega
          obtain ⟨q1, q2, rfl, x0, x1, x2, x3⟩ := (HLK.out _ KWO.out).lk hlt
          obtain ⟨q3, q4, vp, vo, vf, rfl, y0, y1, y2, y3, y4, y5, y6, hrm⟩ := (HRT.out _ KWO.out).rt hlm
          obtain ⟨v1, v2, v3, rfl, ip⟩ := hrm.path
          obtain rfl := ip.len
          have l8 := World.block_lt_of_cell? _ _ x0
          have l9 := World.block_lt_of_cell? _ _ y0
          have Kwo := Lib.hid KO.out
          have hR : ∀ (d : Nat) (os : Array Obj), Below W0.heap.size W0 (grow (redrawn wo d) os) := fun d os => Kwo.out.trans ((below_regrown wo d os).mono Kwo.out.size)
          have HRW := Lib.hid hR
          have X0 := cell_regrown x0
          have X1 := cell_regrown x1
          have X2 := cell_regrown x2
          have X3 := cell_regrown x3
          have Y0 := cell_regrown y0
          have Y3 := cell_regrown y3
          have Y6 := cell_regrown y6
          have P5 := cell_regrown pp5
          have S2 := cell_regrown ss2
          have hcc := fun (d : Nat) (os : Array Obj) => Calls.regrown_of (refPhase st.lks[k] p.rts[k] (grow (redrawn wo d) os) (HRF.out k hlm))
          have HLW : Hid (¬ LkAt st.lks[k] p.rts[k] → ¬ StA p st) := fun h hh => h ((HREF.out.1 hh).2.2.2.2.2 k hlt hlm)
          clear x0 x1 x2 x3 y0 y1 y2 y3 y4 y5 y6 hrm ip hR pp5
          by_cases h1 : st.lks[k].id = p.rts[k].id
          ·have t1 : (st.lks[k].id != p.rts[k].id) = false := by simp [h1]
           by_cases h2 : Phase st.lks[k] p.rts[k]
           ·rw [decide_eq_true h2] at hcc
            have cC := Lib.hid hcc
            have HG : Hid (LkAt st.lks[k] p.rts[k]) := ⟨h1, h2⟩
            clear h1 h2 hcc
            go_upto_region 17 with fail
            refine wp_region_quiet_below (by kernel_rfl) (by kernel_rfl) ?_
            repeat (go_big_quiet_step ((with_reducible exact cC.out _ _)))
            refine wpQuiet_nil ?_
            rintro _ ⟨⟨dq, osq⟩, rfl⟩
            go_wp2_with fail
            go_roundg (st.lks.length - (k + 1))
            case measure => go_light; omega
            case rel =>
             go_light
             refine ⟨k + 1, by omega, by omega, by go_num, HRW.out dq osq, fun j h h' hj => ?_⟩
             by_cases hjk : j = k
             ·subst hjk; exact HG.out
             ·exact HNI.out j h h' (by omega)
           ·rw [decide_eq_false h2] at hcc
            have cC := Lib.hid hcc
            have HE := Lib.hid (HNO.out (HLW.out (fun hh => h2 hh.2)))
            clear h1 h2 hcc
            go_upto_region 17 with fail
            refine wp_region_quiet_below (by kernel_rfl) (by kernel_rfl) ?_
            repeat (go_big_quiet_step ((with_reducible exact cC.out _ _)))
            refine wpQuiet_nil ?_
            rintro _ ⟨⟨dq, osq⟩, rfl⟩
            go_wp2_with fail
            go_ret
            exact ⟨rbool HE.out.symm, KW.out _ (HRW.out dq osq)⟩
          ·have t1 : (st.lks[k].id != p.rts[k].id) = true := by simp [h1]
           have HE := Lib.hid (HNO.out (HLW.out (fun hh => h1 hh.1)))
           clear h1 hcc
           go_upto_region 17 with fail
           refine wp_region_quiet_below (by kernel_rfl) (by kernel_rfl) ?_
           repeat (go_big_quiet_step (fail))
           refine wpQuiet_nil ?_
           rintro _ ⟨⟨dq, osq⟩, rfl⟩
           go_wp2_with fail
           go_ret
           exact ⟨rbool HE.out.symm, KW.out _ (HRW.out dq osq)⟩
         ·obtain rfl : k = st.lks.length := by omega
          have hd1 : decide ((st.lks.length : Int) < (st.lks.length : Int)) = false := by simp
          have HE := Lib.hid (HYES.out (HREF.out.2 ⟨E1.out, E2.out, E3.out, R1.out, R2.out, fun j h h' => HNI.out j h h' h⟩))
          go_wp2_with fail
          go_ret
          exact ⟨rbool HE.out.symm, KWO.out⟩
   ·have n3 : ((st.lks.length : Int) != (p.rts.length : Int)) = true := by simp; omega
    have HE := Lib.hid (HNO.out (fun h => e3 (HREF.out.1 h).2.2.1))
    clear e3
    go_wp2_with fail
    go_ret
    exact ⟨rbool HE.out.symm, K0.out⟩
  ·have n2 : ((st.sws.length : Int) != (p.pts.length : Int)) = true := by simp; omega
   have HE := Lib.hid (HNO.out (fun h => e2 (HREF.out.1 h).2.1))
   clear e2
   go_wp2_with fail
   go_ret
   exact ⟨rbool HE.out.symm, K0.out⟩
 ·have n1 : ((st.tks.length : Int) != (p.secs.length : Int)) = true := by simp; omega
  have HE := Lib.hid (HNO.out (fun h => e1 (HREF.out.1 h).1))
  clear e1
  go_wp2_with fail
  go_ret
  exact ⟨rbool HE.out.symm, K0.out⟩
end Go.Proofs.YtbiehpjhhopjaaaGreat
