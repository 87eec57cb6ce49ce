/-
  The walk of the law AreaHas.
-/
import Derived.Test.YtigkfjgmidnbhaaSameOwn
set_option linter.unusedVariables false
namespace Go.Proofs.Ytigkfjgmidnbhaa
open Go.RowKit Go.Sort
theorem sameA_refl (x : Ar) : sameA x x = true := by unfold sameA eqB; simp
set_option maxHeartbeats 1000000 in
theorem arehas_any (s p g r s' p' g' r' : Value) (x y : Ar) (kind n : Int) (w : World) (hx : AL w s p g r x) (hy : AL w s' p' g' r' y) (hk : 0 ≤ kind) (hk2 : kind ≤ 255) :
    Calls Try.prog 8 #[.agg #[s, p, g, r], .agg #[s', p', g', r'], .int .u8 kind, .int .i64 n] w fun e w' => e = .returned (.bool true) ∧ Below w.heap.size w w' := by
  have HX : Hid (∀ w', Below w.heap.size w w' → AL w' s p g r x) := fun w' hb => hx.below hb
  have HY : Hid (∀ w', Below w.heap.size w w' → AL w' s' p' g' r' y) := fun w' hb => hy.below hb
  obtain ⟨⟨a1, l1, c1, rfl, h1⟩, ⟨a2, l2, c2, rfl, h2⟩, ⟨a3, l3, c3, rfl, h3⟩, ⟨a4, l4, c4, rfl, h4⟩⟩ := hx
  clear h1 h2 h3 h4
  obtain ⟨⟨b1, m1, d1, rfl, h1⟩, ⟨b2, m2, d2, rfl, h2⟩, ⟨b3, m3, d3, rfl, h3⟩, ⟨b4, m4, d4, rfl, h4⟩⟩ := hy
  clear h1 h2 h3 h4
  have k0 : Below w.heap.size w ((w.alloc (.cells #[.slice a1 l1 c1, .slice a2 l2 c2, .slice a3 l3 c3, .slice a4 l4 c4] 33)).alloc (.cells #[.slice b1 m1 d1, .slice b2 m2 d2, .slice b3 m3 d3, .slice b4 m4 d4] 33)) := ((Below.refl _ _).alloc (Nat.le_refl _) _).alloc (by simp) _
  have K0 := Lib.hid k0
  clear k0
  by_cases sx : x.small
  · have SX : Hid ((!decide x.small) = false) := by show _ = _; simp [sx]
    by_cases sy : y.small
    · have SY : Hid ((!decide y.small) = false) := by show _ = _; simp [sy]
      go_enter Try.func8, Try.ntmps8
      go_wp2_with fail
      refine (great_any _ _ _ _ x _ (HX.out _ K0.out)).mono ?_
      rintro e w1 ⟨rfl, hb⟩
      rw [SX.out]
      have K1 := Lib.hid (K0.out.trans (hb.mono K0.out.size))
      have S1 : w.heap.size + 1 + 1 ≤ w1.heap.size := by have := hb.size; simp at this; omega
      have hc := fun b o (h : b < w.heap.size + 1 + 1) => hb.cell (p := ⟨b, o, none⟩) (by simpa using h)
      have HC1 := Lib.hid hc
      clear hb
      go_wp2_with fail
      refine (great_any _ _ _ _ y _ (HY.out _ K1.out)).mono ?_
      rintro e w2 ⟨rfl, hb⟩
      rw [SY.out]
      have K2 := Lib.hid (K1.out.trans (hb.mono K1.out.size))
      clear hc
      have hc := fun b o (h : b < w.heap.size + 1 + 1) => (hb.cell (p := ⟨b, o, none⟩) (Nat.lt_of_lt_of_le h S1)).trans (HC1.out b o h)
      have x0 : w2.cell? ⟨w.heap.size, 0, none⟩ = some (.slice a1 l1 c1) := (hc _ _ (by omega)).trans (by simp)
      have x1 : w2.cell? ⟨w.heap.size, 1, none⟩ = some (.slice a2 l2 c2) := (hc _ _ (by omega)).trans (by simp)
      have x2 : w2.cell? ⟨w.heap.size, 2, none⟩ = some (.slice a3 l3 c3) := (hc _ _ (by omega)).trans (by simp)
      have x3 : w2.cell? ⟨w.heap.size, 3, none⟩ = some (.slice a4 l4 c4) := (hc _ _ (by omega)).trans (by simp)
      have y0 : w2.cell? ⟨w.heap.size + 1, 0, none⟩ = some (.slice b1 m1 d1) := (hc _ _ (by omega)).trans (by simp)
      have y1 : w2.cell? ⟨w.heap.size + 1, 1, none⟩ = some (.slice b2 m2 d2) := (hc _ _ (by omega)).trans (by simp)
      have y2 : w2.cell? ⟨w.heap.size + 1, 2, none⟩ = some (.slice b3 m3 d3) := (hc _ _ (by omega)).trans (by simp)
      have y3 : w2.cell? ⟨w.heap.size + 1, 3, none⟩ = some (.slice b4 m4 d4) := (hc _ _ (by omega)).trans (by simp)
      have X0 := cell_regrown x0
      have X1 := cell_regrown x1
      have X2 := cell_regrown x2
      have X3 := cell_regrown x3
      have Y0 := cell_regrown y0
      have Y1 := cell_regrown y1
      have Y2 := cell_regrown y2
      have Y3 := cell_regrown y3
      have hR : ∀ (d : Nat) (os : Array Obj), Below w.heap.size w (grow (redrawn w2 d) os) := fun d os => K2.out.trans ((below_regrown w2 d os).mono K2.out.size)
      have cH : Hid (∀ d os, Calls Try.prog 15 #[.agg #[.slice a1 l1 c1, .slice a2 l2 c2, .slice a3 l3 c3, .slice a4 l4 c4], .int .u8 kind, .int .i64 n] (grow (redrawn w2 d) os) fun e w'' => e = .returned (.bool (hasA x kind n)) ∧ ∃ p : Regrown, w'' = grow (redrawn w2 p.d) p.os) := fun d os => Calls.regrown_of (has_any _ _ _ _ x kind n _ (HX.out _ (hR d os)) sx hk hk2)
      have cR : Hid (∀ d os, Calls Try.prog 16 #[.agg #[.slice a1 l1 c1, .slice a2 l2 c2, .slice a3 l3 c3, .slice a4 l4 c4], .int .u8 kind, .int .i64 n] (grow (redrawn w2 d) os) fun e w'' => e = .returned (.bool (hasA x kind n)) ∧ ∃ p : Regrown, w'' = grow (redrawn w2 p.d) p.os) := fun d os => Calls.regrown_of (refhas_any _ _ _ _ x kind n _ (HX.out _ (hR d os)) sx hk hk2)
      have cS : Hid (∀ d os, Calls Try.prog 17 #[.agg #[.slice a1 l1 c1, .slice a2 l2 c2, .slice a3 l3 c3, .slice a4 l4 c4], .agg #[.slice b1 m1 d1, .slice b2 m2 d2, .slice b3 m3 d3, .slice b4 m4 d4]] (grow (redrawn w2 d) os) fun e w'' => e = .returned (.bool (sameA x y)) ∧ ∃ p : Regrown, w'' = grow (redrawn w2 p.d) p.os) := fun d os => Calls.regrown_of (same_any _ _ _ _ _ _ _ _ x y _ (HX.out _ (hR d os)) (HY.out _ (hR d os)) sx sy)
      have cT : Hid (∀ d os, Calls Try.prog 18 #[.agg #[.slice a1 l1 c1, .slice a2 l2 c2, .slice a3 l3 c3, .slice a4 l4 c4], .agg #[.slice b1 m1 d1, .slice b2 m2 d2, .slice b3 m3 d3, .slice b4 m4 d4]] (grow (redrawn w2 d) os) fun e w'' => e = .returned (.bool (sameA x y)) ∧ ∃ p : Regrown, w'' = grow (redrawn w2 p.d) p.os) := fun d os => Calls.regrown_of (refsame_any _ _ _ _ _ _ _ _ x y _ (HX.out _ (hR d os)) (HY.out _ (hR d os)) sx sy)
      have cU : Hid (∀ d os, Calls Try.prog 17 #[.agg #[.slice a1 l1 c1, .slice a2 l2 c2, .slice a3 l3 c3, .slice a4 l4 c4], .agg #[.slice a1 l1 c1, .slice a2 l2 c2, .slice a3 l3 c3, .slice a4 l4 c4]] (grow (redrawn w2 d) os) fun e w'' => e = .returned (.bool true) ∧ ∃ p : Regrown, w'' = grow (redrawn w2 p.d) p.os) := fun d os => by
        have := Calls.regrown_of (same_any _ _ _ _ _ _ _ _ x x _ (HX.out _ (hR d os)) (HX.out _ (hR d os)) sx sx)
        rw [sameA_refl] at this
        exact this
      have HR := Lib.hid hR
      clear hR hc x0 x1 x2 x3 y0 y1 y2 y3 hb
      go_wp2_with fail
      refine wp_region_quiet_below (by kernel_rfl) (by kernel_rfl) ?_
      repeat (go_big_quiet_step (first | (with_reducible exact cH.out _ _) | (with_reducible exact cR.out _ _) | (with_reducible exact cU.out _ _) | (with_reducible exact cS.out _ _) | (with_reducible exact cT.out _ _)))
      refine wpQuiet_nil ?_
      rintro _ ⟨⟨dq, osq⟩, rfl⟩
      go_wp2_with fail
      go_ret
      exact ⟨rfl, HR.out dq osq⟩
    · have SY : Hid ((!decide y.small) = true) := by show _ = _; simp [sy]
      go_enter Try.func8, Try.ntmps8
      go_wp2_with fail
      refine (great_any _ _ _ _ x _ (HX.out _ K0.out)).mono ?_
      rintro e w1 ⟨rfl, hb⟩
      rw [SX.out]
      have K1 := Lib.hid (K0.out.trans (hb.mono K0.out.size))
      have hc := fun b o (h : b < w.heap.size + 1 + 1) => hb.cell (p := ⟨b, o, none⟩) (by simpa using h)
      clear hb
      go_wp2_with fail
      refine (great_any _ _ _ _ y _ (HY.out _ K1.out)).mono ?_
      rintro e w2 ⟨rfl, hb⟩
      rw [SY.out]
      have K2 := Lib.hid (K1.out.trans (hb.mono K1.out.size))
      clear hc hb
      go_wp2_with fail
      go_ret
      exact ⟨rfl, K2.out⟩
  · have SX : Hid ((!decide x.small) = true) := by show _ = _; simp [sx]
    go_enter Try.func8, Try.ntmps8
    go_wp2_with fail
    refine (great_any _ _ _ _ x _ (HX.out _ K0.out)).mono ?_
    rintro e w1 ⟨rfl, hb⟩
    rw [SX.out]
    have K1 := Lib.hid (K0.out.trans (hb.mono K0.out.size))
    clear hb
    go_wp2_with fail
    go_ret
    exact ⟨rfl, K1.out⟩
end Go.Proofs.Ytigkfjgmidnbhaa
