/-
 area.Same, walked: of longer lists.
-/
import Derived.Test.YtbiehpjhhopjaaaGreatTSameOwn
set_option linter.unusedVariables false
namespace Go.Proofs.YtbiehpjhhopjaaaGreat
open Go.RowKit Go.Sort
def Ar.mid (x : Ar) : Prop := x.s.length ≤ 1000 ∧ x.p.length ≤ 1000 ∧ x.g.length ≤ 1000 ∧ x.r.length ≤ 1000
instance (x : Ar) : Decidable x.mid := by unfold Ar.mid; exact inferInstance
theorem Ar.small.mid {x : Ar} (h : x.small) : x.mid := ⟨Nat.le_trans h.1 (by decide), Nat.le_trans h.2.1 (by decide), Nat.le_trans h.2.2.1 (by decide), Nat.le_trans h.2.2.2 (by decide)⟩
set_option maxHeartbeats 1000000 in
theorem same_mid (s p g r s' p' g' r' : Value) (x y : Ar) (w : World) (hx : AL w s p g r x) (hy : AL w s' p' g' r' y) (sx : x.mid) (sy : y.mid) :
  Calls Tryz.prog 44 #[.agg #[s, p, g, r], .agg #[s', p', g', r']] w fun e w' => e = .returned (.bool (sameA x y)) ∧ Below w.heap.size w w' := by
 obtain ⟨x1, x2, x3, x4⟩ := sx
 obtain ⟨y1, y2, y3, y4⟩ := sy
 have HX : Hid (∀ w', Below w.heap.size w w' → AL w' s p g r x) := fun w' hb => hx.below hb
 have HY : Hid (∀ w', Below w.heap.size w w' → AL w' s' p' g' r' y) := fun w' hb => hy.below hb
 obtain ⟨⟨a1, l1, c1, rfl, h1⟩, ⟨a2, l2, c2, rfl, h2⟩, ⟨a3, l3, c3, rfl, h3⟩, ⟨a4, l4, c4, rfl, h4⟩⟩ := hx
 clear h1 h2 h3 h4
 obtain ⟨⟨b1, m1, d1, rfl, h1⟩, ⟨b2, m2, d2, rfl, h2⟩, ⟨b3, m3, d3, rfl, h3⟩, ⟨b4, m4, d4, rfl, h4⟩⟩ := hy
 clear h1 h2 h3 h4
 go_enter Tryz.func44, Tryz.ntmps44
 go_upto_region 1 with fail
 go_cut [5, 6] (fun s5 s6 wx => ∃ g1 g2 : Nat, s5 = .pointer (some ⟨g1, 0, none⟩) ∧ s6 = .pointer (some ⟨g2, 0, none⟩) ∧ wx.heap[g1]? = some (.cells #[.slice none 0 0, .slice a1 l1 c1, .slice a2 l2 c2, .slice a3 l3 c3, .slice a4 l4 c4] 146 (0, 0)) ∧ wx.heap[g2]? = some (.cells #[.slice none 0 0, .slice b1 m1 d1, .slice b2 m2 d2, .slice b3 m3 d3, .slice b4 m4 d4] 146 (0, 0)) ∧ Below w.heap.size w wx)
 case first =>
  generalize hw0 : (w.alloc (.cells #[.slice a1 l1 c1, .slice a2 l2 c2, .slice a3 l3 c3, .slice a4 l4 c4] 56)).alloc (.cells #[.slice b1 m1 d1, .slice b2 m2 d2, .slice b3 m3 d3, .slice b4 m4 d4] 56) = w0
  have r0 : w0.heap[w.heap.size]? = some (.cells #[.slice a1 l1 c1, .slice a2 l2 c2, .slice a3 l3 c3, .slice a4 l4 c4] 56 (0, 0)) := by
   subst hw0; exact (Below.heap_alloc _ _ _ (by simp)).trans (heap_alloc_new w _)
  have r1 : w0.heap[w.heap.size + 1]? = some (.cells #[.slice b1 m1 d1, .slice b2 m2 d2, .slice b3 m3 d3, .slice b4 m4 d4] 56 (0, 0)) := by
   subst hw0; have := heap_alloc_new (w.alloc (.cells #[.slice a1 l1 c1, .slice a2 l2 c2, .slice a3 l3 c3, .slice a4 l4 c4] 56)) (.cells #[.slice b1 m1 d1, .slice b2 m2 d2, .slice b3 m3 d3, .slice b4 m4 d4] 56); rwa [World.size_alloc] at this
  have hz : w.heap.size + 2 ≤ w0.heap.size := by subst hw0; simp
  have hB0 : Below w.heap.size w w0 := by subst hw0; exact ((Below.refl _ _).alloc (Nat.le_refl _) _).alloc (by simp) _
  have HB0 := Lib.hid hB0
  have HX0 := HX
  clear hw0 hB0 HX HY
  refine wp_region_inv' (by kernel_rfl) (by kernel_rfl) (fun f a W => ∃ s5 s6 s8 s9 s10 s11 : Value, a = { tmps := #[.agg #[.slice a1 l1 c1, .slice a2 l2 c2, .slice a3 l3 c3, .slice a4 l4 c4], .agg #[.slice b1 m1 d1, .slice b2 m2 d2, .slice b3 m3 d3, .slice b4 m4 d4], .pointer (some ⟨w.heap.size, 0, none⟩), .pointer (some ⟨w.heap.size + 1, 0, none⟩), .bool false, s5, s6, undef, s8, s9, s10, s11, undef, undef, undef, undef, undef, undef, undef, undef, undef, undef, undef, undef], defers := [] } ∧ S17 w0.heap.size w0 #[.slice a1 l1 c1, .slice a2 l2 c2, .slice a3 l3 c3, .slice a4 l4 c4] #[.slice none 0 0, .slice a1 l1 c1, .slice a2 l2 c2, .slice a3 l3 c3, .slice a4 l4 c4] #[.slice b1 m1 d1, .slice b2 m2 d2, .slice b3 m3 d3, .slice b4 m4 d4] #[.slice none 0 0, .slice b1 m1 d1, .slice b2 m2 d2, .slice b3 m3 d3, .slice b4 m4 d4] (f 0) (f 1) (f 2) (f 3) (f 4) (f 5) (f 6) (f 7) s5 s6 s8 s9 s10 s11 W) ?_ ?_ ?_
  ·exact ⟨_, _, _, _, _, _, rfl, ⟨⟨rfl, rfl, rfl, Nat.le_refl _, fun _ _ => rfl⟩, by simp, by simp, by simp, by simp, by simp, by simp, by simp, by simp, by simp⟩⟩
  ·intro i o ho f a W hI hd hun
   obtain ⟨s5, s6, s8, s9, s10, s11, rfl, hS⟩ := hI
   rcases i with _ | _ | _ | _ | _ | _ | _ | _ | i
   ·simp at ho
    subst ho
    have q := hS.old.block (w.heap.size) (by omega)
    rw [r0] at q
    obtain ⟨cc0, cc1, cc2, cc3⟩ := cells4 q
    simp [wpOp, go_sem, cc0, cc1, cc2, cc3]
    exact .inl ⟨_, _, _, _, _, _, ⟨rfl, rfl, rfl, rfl, rfl, rfl⟩, { hS with h0 := fun _ => rfl}⟩
   ·simp at ho
    subst ho
    have d0 := hd ⟨0, .data⟩ (by simp) (by rfl)
    obtain rfl := hS.h0 d0
    simp [wpOp, go_sem]
    refine .inl ((lists_any _ _ _ _ _ _ _ _ _ _ _ _ _).mono ?_)
    rintro e w' ⟨rfl, hb⟩
    simp [go_sem]
    exact ⟨_, _, _, _, _, _, ⟨rfl, rfl, rfl, rfl, rfl, rfl⟩, {S17.below hS hb with h1 := fun _ => rfl}⟩
   ·simp at ho
    subst ho
    have q := hS.old.block (w.heap.size + 1) (by omega)
    rw [r1] at q
    obtain ⟨cc0, cc1, cc2, cc3⟩ := cells4 q
    simp [wpOp, go_sem, cc0, cc1, cc2, cc3]
    exact .inl ⟨_, _, _, _, _, _, ⟨rfl, rfl, rfl, rfl, rfl, rfl⟩, { hS with h2 := fun _ => rfl}⟩
   ·simp at ho
    subst ho
    have d0 := hd ⟨2, .data⟩ (by simp) (by rfl)
    obtain rfl := hS.h2 d0
    simp [wpOp, go_sem]
    refine .inl ((lists_any _ _ _ _ _ _ _ _ _ _ _ _ _).mono ?_)
    rintro e w' ⟨rfl, hb⟩
    simp [go_sem]
    exact ⟨_, _, _, _, _, _, ⟨rfl, rfl, rfl, rfl, rfl, rfl⟩, {S17.below hS hb with h3 := fun _ => rfl}⟩
   ·simp at ho
    subst ho
    have hb : Below W.heap.size W (W.alloc (.cells #[.slice none 0 0, .slice none 0 0, .slice none 0 0, .slice none 0 0, .slice none 0 0] 146)) := (Below.refl _ _).alloc (Nat.le_refl _) _
    have hS' := S17.below hS hb
    have hnew := heap_alloc_new W (.cells #[.slice none 0 0, .slice none 0 0, .slice none 0 0, .slice none 0 0, .slice none 0 0] 146)
    have hN := hS.old.size
    have f6 : f 6 = false := by
     cases h : f 6 with
     | false => rfl
     | true => have := hS.h7 h; rw [hun] at this; cases this
    simp [wpOp, go_sem]
    refine .inl ⟨_, _, _, _, _, _, ⟨rfl, rfl, rfl, rfl, rfl, rfl⟩, { hS' with h4 := fun _ => ⟨_, rfl, hN, by rw [f6]; exact hnew⟩, h6 := ?_, h7 := fun _ => rfl }⟩
    intro _ hq
    obtain ⟨g, e1, -, e3⟩ := hS.h5 hq
    rw [e1]
    intro e
    injection e with e
    injection e with e
    injection e with e
    subst e
    rw [Array.getElem?_eq_none (Nat.le_refl _)] at e3
    cases e3
   ·simp at ho
    subst ho
    have hb : Below W.heap.size W (W.alloc (.cells #[.slice none 0 0, .slice none 0 0, .slice none 0 0, .slice none 0 0, .slice none 0 0] 146)) := (Below.refl _ _).alloc (Nat.le_refl _) _
    have hS' := S17.below hS hb
    have hnew := heap_alloc_new W (.cells #[.slice none 0 0, .slice none 0 0, .slice none 0 0, .slice none 0 0, .slice none 0 0] 146)
    have hN := hS.old.size
    have f6 : f 7 = false := by
     cases h : f 7 with
     | false => rfl
     | true => have := hS.h8 h; rw [hun] at this; cases this
    simp [wpOp, go_sem]
    refine .inl ⟨_, _, _, _, _, _, ⟨rfl, rfl, rfl, rfl, rfl, rfl⟩, { hS' with h5 := fun _ => ⟨_, rfl, hN, by rw [f6]; exact hnew⟩, h6 := ?_, h8 := fun _ => rfl }⟩
    intro hq _
    obtain ⟨g, e1, -, e3⟩ := hS.h4 hq
    rw [e1]
    intro e
    injection e with e
    injection e with e
    injection e with e
    subst e
    rw [Array.getElem?_eq_none (Nat.le_refl _)] at e3
    cases e3
   ·simp at ho
    subst ho
    have d1 := hd ⟨1, .data⟩ (by simp) (by rfl)
    have d4 := hd ⟨4, .phase⟩ (by simp) (by rfl)
    have d5 := hd ⟨5, .phase⟩ (by simp) (by rfl)
    obtain rfl := hS.h1 d1
    obtain ⟨g, e1, e2, e3⟩ := hS.h4 d4
    obtain ⟨g', e1', e2', e3'⟩ := hS.h5 d5
    have hne : g' ≠ g := by
     intro e
     exact hS.h6 d4 d5 (by rw [e1, e1', e])
    subst e1 e1'
    rw [hun] at e3
    simp only [Bool.false_eq_true, if_false] at e3
    have cc0 : W.cell? ⟨g, 0, none⟩ = some (.slice none 0 0) := (cell_of_row W g 0 _ _ _ e3).trans rfl
    have cc1 : W.cell? ⟨g, 1, none⟩ = some (.slice none 0 0) := (cell_of_row W g 1 _ _ _ e3).trans rfl
    have cc2 : W.cell? ⟨g, 2, none⟩ = some (.slice none 0 0) := (cell_of_row W g 2 _ _ _ e3).trans rfl
    have cc3 : W.cell? ⟨g, 3, none⟩ = some (.slice none 0 0) := (cell_of_row W g 3 _ _ _ e3).trans rfl
    have cc4 : W.cell? ⟨g, 4, none⟩ = some (.slice none 0 0) := (cell_of_row W g 4 _ _ _ e3).trans rfl
    have hf := (by simp [World.frozen?, e3] : ∀ o, W.frozen? ⟨g, o, none⟩ = false)
    simp [wpOp, go_sem, cc0, cc1, cc2, cc3, cc4, hf]
    refine .inl ⟨_, _, _, _, _, _, ⟨rfl, rfl, rfl, rfl, rfl, rfl⟩, { hS with old := ((((hS.old.setCell e2 _).setCell e2 _).setCell e2 _).setCell e2 _).setCell e2 _, h4 := fun _ => ⟨g, rfl, e2, ?_⟩, h5 := fun _ => ⟨g', rfl, e2', ?_⟩, h7 := fun _ => d4 }⟩
    ·simp [World.setCell, Array.getElem?_modify, e3]
    ·simp only [World.setCell, Array.getElem?_modify, if_neg (Ne.symm hne)]
     exact e3'
   ·simp at ho
    subst ho
    have d1 := hd ⟨3, .data⟩ (by simp) (by rfl)
    have d4 := hd ⟨5, .phase⟩ (by simp) (by rfl)
    have d5 := hd ⟨4, .phase⟩ (by simp) (by rfl)
    obtain rfl := hS.h3 d1
    obtain ⟨g, e1, e2, e3⟩ := hS.h5 d4
    obtain ⟨g', e1', e2', e3'⟩ := hS.h4 d5
    have hne : g' ≠ g := by
     intro e
     exact hS.h6 d5 d4 (by rw [e1, e1', e])
    subst e1 e1'
    rw [hun] at e3
    simp only [Bool.false_eq_true, if_false] at e3
    have cc0 : W.cell? ⟨g, 0, none⟩ = some (.slice none 0 0) := (cell_of_row W g 0 _ _ _ e3).trans rfl
    have cc1 : W.cell? ⟨g, 1, none⟩ = some (.slice none 0 0) := (cell_of_row W g 1 _ _ _ e3).trans rfl
    have cc2 : W.cell? ⟨g, 2, none⟩ = some (.slice none 0 0) := (cell_of_row W g 2 _ _ _ e3).trans rfl
    have cc3 : W.cell? ⟨g, 3, none⟩ = some (.slice none 0 0) := (cell_of_row W g 3 _ _ _ e3).trans rfl
    have cc4 : W.cell? ⟨g, 4, none⟩ = some (.slice none 0 0) := (cell_of_row W g 4 _ _ _ e3).trans rfl
    have hf := (by simp [World.frozen?, e3] : ∀ o, W.frozen? ⟨g, o, none⟩ = false)
    simp [wpOp, go_sem, cc0, cc1, cc2, cc3, cc4, hf]
    refine .inl ⟨_, _, _, _, _, _, ⟨rfl, rfl, rfl, rfl, rfl, rfl⟩, { hS with old := ((((hS.old.setCell e2 _).setCell e2 _).setCell e2 _).setCell e2 _).setCell e2 _, h5 := fun _ => ⟨g, rfl, e2, ?_⟩, h4 := fun _ => ⟨g', rfl, e2', ?_⟩, h8 := fun _ => d4 }⟩
    ·simp only [World.setCell, Array.getElem?_modify, if_neg (Ne.symm hne)]
     exact e3'
    ·simp [World.setCell, Array.getElem?_modify, e3]
   ·simp at ho
  ·intro f a W hI hall
   obtain ⟨s5, s6, s8, s9, s10, s11, rfl, hS⟩ := hI
   have t4 := hall 4 (by decide)
   have t5 := hall 5 (by decide)
   obtain ⟨g, e1, e2, e3⟩ := hS.h4 t4
   obtain ⟨g', e1', e2', e3'⟩ := hS.h5 t5
   rw [hall 6 (by decide)] at e3
   rw [hall 7 (by decide)] at e3'
   subst e1 e1'
   have HBW : Below w.heap.size w W := Below.of_old hS.old HB0.out (by omega) (by omega)
   clear hS hall r0 r1
   go_wp2_with fail
   go_meet
   exact ⟨g, g', rfl, rfl, by simpa using e3, by simpa using e3', HBW⟩
 case rest =>
  obtain ⟨g, g', rfl, rfl, h1, h2, hb⟩ := hcut
  have HB := Lib.hid hb
  have H1 := Lib.hid h1
  have H2 := Lib.hid h2
  clear h1 h2 hb
  go_wp2_with fail
  go_loopw [12] (fun i wr => ∃ k n : Nat, k ≤ 5 ∧ i = .int .i64 k ∧ wr = wc.drewN n ∧ ∀ j, j < k → eqB (nthA x j) (nthA y j) = true) (fun i _ => 5 - (intOf i).toNat)
  case atStart => exact ⟨0, 0, by omega, rfl, rfl, fun j h => by omega⟩
  case round =>
   obtain ⟨k, q, hk, rfl, hwr, hall⟩ := hrel
   have HWR := Lib.hid hwr
   have HBr : Hid (Below w.heap.size w wr) := by show Below _ _ _; rw [hwr]; exact below_drewN' HB.out q
   clear hwr
   have HA := Lib.hid hall
   clear hall
   by_cases hlt : k < 5
   ·have kcells : ∀ j : Nat, True := fun _ => trivial
    clear kcells
    have HR : Hid (∀ (B : Bool), eqB (nthA x k) (nthA y k) = B → True) := fun _ _ => trivial
    clear HR
    have HNO : Hid (eqB (nthA x k) (nthA y k) = false → sameA x y = false) := sameA_no hlt
    have HXW : Hid (∀ n, AL (wr.drewN n) (.slice a1 l1 c1) (.slice a2 l2 c2) (.slice a3 l3 c3) (.slice a4 l4 c4) x) := fun n => HX.out _ (below_drewN' HBr.out n)
    have HYW : Hid (∀ n, AL (wr.drewN n) (.slice b1 m1 d1) (.slice b2 m2 d2) (.slice b3 m3 d3) (.slice b4 m4 d4) y) := fun n => HY.out _ (below_drewN' HBr.out n)
    have HT : Hid (eqB (nthA x k) (nthA y k) = true → ∀ j, j < k + 1 → eqB (nthA x j) (nthA y j) = true) := fun e j hj => by
     by_cases hjk : j = k
     ·subst hjk; exact e
     ·exact HA.out j (by omega)
    rcases (by omega : k = 0 ∨ k = 1 ∨ k = 2 ∨ k = 3 ∨ k = 4) with rfl | rfl | rfl | rfl | rfl
    ·have e1 : wr.cell? ⟨g, 0, none⟩ = some (.slice none 0 0) := by rw [HWR.out]; exact (cell_of_row wc g 0 _ _ _ H1.out).trans rfl
     have e2 : wr.cell? ⟨g', 0, none⟩ = some (.slice none 0 0) := by rw [HWR.out]; exact (cell_of_row wc g' 0 _ _ _ H2.out).trans rfl
     cases hq : eqB (nthA x 0) (nthA y 0) with
     | true =>
      have HQ : Hid (∀ n, Calls Tryz.prog 99 #[.slice none 0 0, .slice none 0 0] (wr.drewN n) fun e w' => e = .returned (.bool true) ∧ ∃ m, w' = (wr.drewN n).drewN m) := fun n => by
       have := equal_q _ _ (nthA x 0) (nthA y 0) (wr.drewN n) (ILv.nil _) (ILv.nil _) (by simp [nthA]) (by simp [nthA])
       rw [hq] at this
       exact this
      have HT' := Lib.hid (HT.out hq)
      clear HNO HT
      go_wp2_with fail
      go_quiet ((go_at_call 99; exact Calls.quiet_of (HQ.out _)))
      go_wp2_with fail
      go_roundw
      case rel => exact ⟨1, _, by omega, by go_num, by rw [HWR.out]; exact World.drewN_drewN _ _ _, HT'.out⟩
      case measure => simp [intOf]
     | false =>
      have HQ : Hid (∀ n, Calls Tryz.prog 99 #[.slice none 0 0, .slice none 0 0] (wr.drewN n) fun e w' => e = .returned (.bool false) ∧ ∃ m, w' = (wr.drewN n).drewN m) := fun n => by
       have := equal_q _ _ (nthA x 0) (nthA y 0) (wr.drewN n) (ILv.nil _) (ILv.nil _) (by simp [nthA]) (by simp [nthA])
       rw [hq] at this
       exact this
      have HE := Lib.hid (HNO.out hq)
      clear HNO HT
      go_wp2_with fail
      go_quiet ((go_at_call 99; exact Calls.quiet_of (HQ.out _)))
      go_wp2_with fail
      go_ret
      exact ⟨rbool HE.out.symm, below_drewN' HBr.out _⟩
    ·have e1 : wr.cell? ⟨g, 1, none⟩ = some (.slice a1 l1 c1) := by rw [HWR.out]; exact (cell_of_row wc g 1 _ _ _ H1.out).trans rfl
     have e2 : wr.cell? ⟨g', 1, none⟩ = some (.slice b1 m1 d1) := by rw [HWR.out]; exact (cell_of_row wc g' 1 _ _ _ H2.out).trans rfl
     cases hq : eqB (nthA x 1) (nthA y 1) with
     | true =>
      have HQ : Hid (∀ n, Calls Tryz.prog 99 #[.slice a1 l1 c1, .slice b1 m1 d1] (wr.drewN n) fun e w' => e = .returned (.bool true) ∧ ∃ m, w' = (wr.drewN n).drewN m) := fun n => by
       have := equal_q _ _ (nthA x 1) (nthA y 1) (wr.drewN n) ((HXW.out _).s) ((HYW.out _).s) (by first | exact Nat.le_trans x1 (by decide) | exact Nat.le_trans y1 (by decide)) (by first | exact Nat.le_trans x1 (by decide) | exact Nat.le_trans y1 (by decide))
       rw [hq] at this
       exact this
      have HT' := Lib.hid (HT.out hq)
      clear HNO HT
      go_wp2_with fail
      go_quiet ((go_at_call 99; exact Calls.quiet_of (HQ.out _)))
      go_wp2_with fail
      go_roundw
      case rel => exact ⟨2, _, by omega, by go_num, by rw [HWR.out]; exact World.drewN_drewN _ _ _, HT'.out⟩
      case measure => simp [intOf]
     | false =>
      have HQ : Hid (∀ n, Calls Tryz.prog 99 #[.slice a1 l1 c1, .slice b1 m1 d1] (wr.drewN n) fun e w' => e = .returned (.bool false) ∧ ∃ m, w' = (wr.drewN n).drewN m) := fun n => by
       have := equal_q _ _ (nthA x 1) (nthA y 1) (wr.drewN n) ((HXW.out _).s) ((HYW.out _).s) (by first | exact Nat.le_trans x1 (by decide) | exact Nat.le_trans y1 (by decide)) (by first | exact Nat.le_trans x1 (by decide) | exact Nat.le_trans y1 (by decide))
       rw [hq] at this
       exact this
      have HE := Lib.hid (HNO.out hq)
      clear HNO HT
      go_wp2_with fail
      go_quiet ((go_at_call 99; exact Calls.quiet_of (HQ.out _)))
      go_wp2_with fail
      go_ret
      exact ⟨rbool HE.out.symm, below_drewN' HBr.out _⟩
    ·have e1 : wr.cell? ⟨g, 2, none⟩ = some (.slice a2 l2 c2) := by rw [HWR.out]; exact (cell_of_row wc g 2 _ _ _ H1.out).trans rfl
     have e2 : wr.cell? ⟨g', 2, none⟩ = some (.slice b2 m2 d2) := by rw [HWR.out]; exact (cell_of_row wc g' 2 _ _ _ H2.out).trans rfl
     cases hq : eqB (nthA x 2) (nthA y 2) with
     | true =>
      have HQ : Hid (∀ n, Calls Tryz.prog 99 #[.slice a2 l2 c2, .slice b2 m2 d2] (wr.drewN n) fun e w' => e = .returned (.bool true) ∧ ∃ m, w' = (wr.drewN n).drewN m) := fun n => by
       have := equal_q _ _ (nthA x 2) (nthA y 2) (wr.drewN n) ((HXW.out _).p) ((HYW.out _).p) (by first | exact Nat.le_trans x2 (by decide) | exact Nat.le_trans y2 (by decide)) (by first | exact Nat.le_trans x2 (by decide) | exact Nat.le_trans y2 (by decide))
       rw [hq] at this
       exact this
      have HT' := Lib.hid (HT.out hq)
      clear HNO HT
      go_wp2_with fail
      go_quiet ((go_at_call 99; exact Calls.quiet_of (HQ.out _)))
      go_wp2_with fail
      go_roundw
      case rel => exact ⟨3, _, by omega, by go_num, by rw [HWR.out]; exact World.drewN_drewN _ _ _, HT'.out⟩
      case measure => simp [intOf]
     | false =>
      have HQ : Hid (∀ n, Calls Tryz.prog 99 #[.slice a2 l2 c2, .slice b2 m2 d2] (wr.drewN n) fun e w' => e = .returned (.bool false) ∧ ∃ m, w' = (wr.drewN n).drewN m) := fun n => by
       have := equal_q _ _ (nthA x 2) (nthA y 2) (wr.drewN n) ((HXW.out _).p) ((HYW.out _).p) (by first | exact Nat.le_trans x2 (by decide) | exact Nat.le_trans y2 (by decide)) (by first | exact Nat.le_trans x2 (by decide) | exact Nat.le_trans y2 (by decide))
       rw [hq] at this
       exact this
      have HE := Lib.hid (HNO.out hq)
      clear HNO HT
      go_wp2_with fail
      go_quiet ((go_at_call 99; exact Calls.quiet_of (HQ.out _)))
      go_wp2_with fail
      go_ret
      exact ⟨rbool HE.out.symm, below_drewN' HBr.out _⟩
    ·have e1 : wr.cell? ⟨g, 3, none⟩ = some (.slice a3 l3 c3) := by rw [HWR.out]; exact (cell_of_row wc g 3 _ _ _ H1.out).trans rfl
     have e2 : wr.cell? ⟨g', 3, none⟩ = some (.slice b3 m3 d3) := by rw [HWR.out]; exact (cell_of_row wc g' 3 _ _ _ H2.out).trans rfl
     cases hq : eqB (nthA x 3) (nthA y 3) with
     | true =>
      have HQ : Hid (∀ n, Calls Tryz.prog 99 #[.slice a3 l3 c3, .slice b3 m3 d3] (wr.drewN n) fun e w' => e = .returned (.bool true) ∧ ∃ m, w' = (wr.drewN n).drewN m) := fun n => by
       have := equal_q _ _ (nthA x 3) (nthA y 3) (wr.drewN n) ((HXW.out _).g) ((HYW.out _).g) (by first | exact Nat.le_trans x3 (by decide) | exact Nat.le_trans y3 (by decide)) (by first | exact Nat.le_trans x3 (by decide) | exact Nat.le_trans y3 (by decide))
       rw [hq] at this
       exact this
      have HT' := Lib.hid (HT.out hq)
      clear HNO HT
      go_wp2_with fail
      go_quiet ((go_at_call 99; exact Calls.quiet_of (HQ.out _)))
      go_wp2_with fail
      go_roundw
      case rel => exact ⟨4, _, by omega, by go_num, by rw [HWR.out]; exact World.drewN_drewN _ _ _, HT'.out⟩
      case measure => simp [intOf]
     | false =>
      have HQ : Hid (∀ n, Calls Tryz.prog 99 #[.slice a3 l3 c3, .slice b3 m3 d3] (wr.drewN n) fun e w' => e = .returned (.bool false) ∧ ∃ m, w' = (wr.drewN n).drewN m) := fun n => by
       have := equal_q _ _ (nthA x 3) (nthA y 3) (wr.drewN n) ((HXW.out _).g) ((HYW.out _).g) (by first | exact Nat.le_trans x3 (by decide) | exact Nat.le_trans y3 (by decide)) (by first | exact Nat.le_trans x3 (by decide) | exact Nat.le_trans y3 (by decide))
       rw [hq] at this
       exact this
      have HE := Lib.hid (HNO.out hq)
      clear HNO HT
      go_wp2_with fail
      go_quiet ((go_at_call 99; exact Calls.quiet_of (HQ.out _)))
      go_wp2_with fail
      go_ret
      exact ⟨rbool HE.out.symm, below_drewN' HBr.out _⟩
    ·have e1 : wr.cell? ⟨g, 4, none⟩ = some (.slice a4 l4 c4) := by rw [HWR.out]; exact (cell_of_row wc g 4 _ _ _ H1.out).trans rfl
     have e2 : wr.cell? ⟨g', 4, none⟩ = some (.slice b4 m4 d4) := by rw [HWR.out]; exact (cell_of_row wc g' 4 _ _ _ H2.out).trans rfl
     cases hq : eqB (nthA x 4) (nthA y 4) with
     | true =>
      have HQ : Hid (∀ n, Calls Tryz.prog 99 #[.slice a4 l4 c4, .slice b4 m4 d4] (wr.drewN n) fun e w' => e = .returned (.bool true) ∧ ∃ m, w' = (wr.drewN n).drewN m) := fun n => by
       have := equal_q _ _ (nthA x 4) (nthA y 4) (wr.drewN n) ((HXW.out _).r) ((HYW.out _).r) (by first | exact Nat.le_trans x4 (by decide) | exact Nat.le_trans y4 (by decide)) (by first | exact Nat.le_trans x4 (by decide) | exact Nat.le_trans y4 (by decide))
       rw [hq] at this
       exact this
      have HT' := Lib.hid (HT.out hq)
      clear HNO HT
      go_wp2_with fail
      go_quiet ((go_at_call 99; exact Calls.quiet_of (HQ.out _)))
      go_wp2_with fail
      go_roundw
      case rel => exact ⟨5, _, by omega, by go_num, by rw [HWR.out]; exact World.drewN_drewN _ _ _, HT'.out⟩
      case measure => simp [intOf]
     | false =>
      have HQ : Hid (∀ n, Calls Tryz.prog 99 #[.slice a4 l4 c4, .slice b4 m4 d4] (wr.drewN n) fun e w' => e = .returned (.bool false) ∧ ∃ m, w' = (wr.drewN n).drewN m) := fun n => by
       have := equal_q _ _ (nthA x 4) (nthA y 4) (wr.drewN n) ((HXW.out _).r) ((HYW.out _).r) (by first | exact Nat.le_trans x4 (by decide) | exact Nat.le_trans y4 (by decide)) (by first | exact Nat.le_trans x4 (by decide) | exact Nat.le_trans y4 (by decide))
       rw [hq] at this
       exact this
      have HE := Lib.hid (HNO.out hq)
      clear HNO HT
      go_wp2_with fail
      go_quiet ((go_at_call 99; exact Calls.quiet_of (HQ.out _)))
      go_wp2_with fail
      go_ret
      exact ⟨rbool HE.out.symm, below_drewN' HBr.out _⟩
   ·obtain rfl : k = 5 := by omega
    have HE : Hid (sameA x y = true) := sameA_yes HA.out
    go_wp2_with fail
    go_ret
    exact ⟨rbool HE.out.symm, HBr.out⟩
end Go.Proofs.YtbiehpjhhopjaaaGreat
