/-
  Two areas compared, walked.
-/
import Derived.Test.YtbiehpjhhopjaaaGreatAreaWalk
import Derived.Deep.RegionHeld3
import Derived.Deep.DeepCutAuto
set_option linter.unusedVariables false
namespace Go.Proofs.YtbiehpjhhopjaaaGreat
open Go.RowKit Go.Sort
theorem refsame_any (s p g r s' p' g' r' : Value) (x y : Ar) (w : World) (hx : AL w s p g r x) (hy : AL w s' p' g' r' y) (sx : x.small) (sy : y.small) :
    Calls Tryz.prog 40 #[.agg #[s, p, g, r], .agg #[s', p', g', r']] w fun e w' => e = .returned (.bool (sameA x y)) ∧ Below w.heap.size w w' := by
  obtain ⟨x1, x2, x3, x4⟩ := sx
  obtain ⟨y1, y2, y3, y4⟩ := sy
  have HX : Hid (∀ w', Below w.heap.size w w' → AL w' s p g r x) := fun w' hb => hx.below hb
  have HY : Hid (∀ w', Below w.heap.size w w' → AL w' s' p' g' r' y) := fun w' hb => hy.below hb
  obtain ⟨⟨a1, l1, c1, rfl, h1⟩, ⟨a2, l2, c2, rfl, h2⟩, ⟨a3, l3, c3, rfl, h3⟩, ⟨a4, l4, c4, rfl, h4⟩⟩ := hx
  clear h1 h2 h3 h4
  obtain ⟨⟨b1, m1, d1, rfl, h1⟩, ⟨b2, m2, d2, rfl, h2⟩, ⟨b3, m3, d3, rfl, h3⟩, ⟨b4, m4, d4, rfl, h4⟩⟩ := hy
  clear h1 h2 h3 h4
  have k0 : Below w.heap.size w ((w.alloc (.cells #[.slice a1 l1 c1, .slice a2 l2 c2, .slice a3 l3 c3, .slice a4 l4 c4] 56)).alloc (.cells #[.slice b1 m1 d1, .slice b2 m2 d2, .slice b3 m3 d3, .slice b4 m4 d4] 56)) := ((Below.refl _ _).alloc (Nat.le_refl _) _).alloc (by simp) _
  have K0 := Lib.hid k0
  clear k0
  by_cases q1 : eqB x.s y.s = true
  · have Q1 := Lib.hid q1
    by_cases q2 : eqB x.p y.p = true
    · have Q2 := Lib.hid q2
      by_cases q3 : eqB x.g y.g = true
      · have Q3 := Lib.hid q3
        by_cases q4 : eqB x.r y.r = true
        · have Q4 := Lib.hid q4
          have HE : Hid (sameA x y = true) := by show _ = _; unfold sameA; rw [q1, q2, q3, q4]; rfl
          clear q1 q2 q3 q4
          go_enter Tryz.func40, Tryz.ntmps40
          go_wp2_with fail
          refine (ints_v _ _ x.s y.s _ (HX.out _ K0.out).s (HY.out _ K0.out).s (by omega) (by omega)).mono ?_
          rintro e w1 ⟨rfl, hb⟩
          have K1 := Lib.hid (K0.out.trans (hb.mono K0.out.size))
          rw [Q1.out]
          have S1 : w.heap.size + 1 + 1 ≤ w1.heap.size := by have := hb.size; simp at this; omega
          have hc := fun b o (h : b < w.heap.size + 1 + 1) => hb.cell (p := ⟨b, o, none⟩) (by simpa using h)
          have HC1 := Lib.hid hc
          clear hb
          go_wp2_with fail
          refine (ints_v _ _ x.p y.p _ (HX.out _ K1.out).p (HY.out _ K1.out).p (by omega) (by omega)).mono ?_
          rintro e w2 ⟨rfl, hb⟩
          have K2 := Lib.hid (K1.out.trans (hb.mono K1.out.size))
          rw [Q2.out]
          have S2 : w.heap.size + 1 + 1 ≤ w2.heap.size := by have := hb.size; omega
          clear hc
          have hc := fun b o (h : b < w.heap.size + 1 + 1) => (hb.cell (p := ⟨b, o, none⟩) (Nat.lt_of_lt_of_le h S1)).trans (HC1.out b o h)
          have HC2 := Lib.hid hc
          clear hb
          go_wp2_with fail
          refine (ints_v _ _ x.g y.g _ (HX.out _ K2.out).g (HY.out _ K2.out).g (by omega) (by omega)).mono ?_
          rintro e w3 ⟨rfl, hb⟩
          have K3 := Lib.hid (K2.out.trans (hb.mono K2.out.size))
          rw [Q3.out]
          have S3 : w.heap.size + 1 + 1 ≤ w3.heap.size := by have := hb.size; omega
          clear hc
          have hc := fun b o (h : b < w.heap.size + 1 + 1) => (hb.cell (p := ⟨b, o, none⟩) (Nat.lt_of_lt_of_le h S2)).trans (HC2.out b o h)
          have HC3 := Lib.hid hc
          clear hb
          go_wp2_with fail
          refine (ints_v _ _ x.r y.r _ (HX.out _ K3.out).r (HY.out _ K3.out).r (by omega) (by omega)).mono ?_
          rintro e w4 ⟨rfl, hb⟩
          have K4 := Lib.hid (K3.out.trans (hb.mono K3.out.size))
          rw [Q4.out]
          clear hb
          go_wp2_with fail
          go_ret
          exact ⟨rbool HE.out.symm, K4.out⟩
        · rw [Bool.not_eq_true] at q4
          have Q4 := Lib.hid q4
          have HE : Hid (sameA x y = false) := by show _ = _; unfold sameA; rw [q1, q2, q3, q4]; simp
          clear q1 q2 q3 q4
          go_enter Tryz.func40, Tryz.ntmps40
          go_wp2_with fail
          refine (ints_v _ _ x.s y.s _ (HX.out _ K0.out).s (HY.out _ K0.out).s (by omega) (by omega)).mono ?_
          rintro e w1 ⟨rfl, hb⟩
          have K1 := Lib.hid (K0.out.trans (hb.mono K0.out.size))
          rw [Q1.out]
          have S1 : w.heap.size + 1 + 1 ≤ w1.heap.size := by have := hb.size; simp at this; omega
          have hc := fun b o (h : b < w.heap.size + 1 + 1) => hb.cell (p := ⟨b, o, none⟩) (by simpa using h)
          have HC1 := Lib.hid hc
          clear hb
          go_wp2_with fail
          refine (ints_v _ _ x.p y.p _ (HX.out _ K1.out).p (HY.out _ K1.out).p (by omega) (by omega)).mono ?_
          rintro e w2 ⟨rfl, hb⟩
          have K2 := Lib.hid (K1.out.trans (hb.mono K1.out.size))
          rw [Q2.out]
          have S2 : w.heap.size + 1 + 1 ≤ w2.heap.size := by have := hb.size; omega
          clear hc
          have hc := fun b o (h : b < w.heap.size + 1 + 1) => (hb.cell (p := ⟨b, o, none⟩) (Nat.lt_of_lt_of_le h S1)).trans (HC1.out b o h)
          have HC2 := Lib.hid hc
          clear hb
          go_wp2_with fail
          refine (ints_v _ _ x.g y.g _ (HX.out _ K2.out).g (HY.out _ K2.out).g (by omega) (by omega)).mono ?_
          rintro e w3 ⟨rfl, hb⟩
          have K3 := Lib.hid (K2.out.trans (hb.mono K2.out.size))
          rw [Q3.out]
          have S3 : w.heap.size + 1 + 1 ≤ w3.heap.size := by have := hb.size; omega
          clear hc
          have hc := fun b o (h : b < w.heap.size + 1 + 1) => (hb.cell (p := ⟨b, o, none⟩) (Nat.lt_of_lt_of_le h S2)).trans (HC2.out b o h)
          have HC3 := Lib.hid hc
          clear hb
          go_wp2_with fail
          refine (ints_v _ _ x.r y.r _ (HX.out _ K3.out).r (HY.out _ K3.out).r (by omega) (by omega)).mono ?_
          rintro e w4 ⟨rfl, hb⟩
          have K4 := Lib.hid (K3.out.trans (hb.mono K3.out.size))
          rw [Q4.out]
          clear hb
          go_wp2_with fail
          go_ret
          exact ⟨rbool HE.out.symm, K4.out⟩
      · rw [Bool.not_eq_true] at q3
        have Q3 := Lib.hid q3
        have HE : Hid (sameA x y = false) := by show _ = _; unfold sameA; rw [q1, q2, q3]; simp
        clear q1 q2 q3
        go_enter Tryz.func40, Tryz.ntmps40
        go_wp2_with fail
        refine (ints_v _ _ x.s y.s _ (HX.out _ K0.out).s (HY.out _ K0.out).s (by omega) (by omega)).mono ?_
        rintro e w1 ⟨rfl, hb⟩
        have K1 := Lib.hid (K0.out.trans (hb.mono K0.out.size))
        rw [Q1.out]
        have S1 : w.heap.size + 1 + 1 ≤ w1.heap.size := by have := hb.size; simp at this; omega
        have hc := fun b o (h : b < w.heap.size + 1 + 1) => hb.cell (p := ⟨b, o, none⟩) (by simpa using h)
        have HC1 := Lib.hid hc
        clear hb
        go_wp2_with fail
        refine (ints_v _ _ x.p y.p _ (HX.out _ K1.out).p (HY.out _ K1.out).p (by omega) (by omega)).mono ?_
        rintro e w2 ⟨rfl, hb⟩
        have K2 := Lib.hid (K1.out.trans (hb.mono K1.out.size))
        rw [Q2.out]
        have S2 : w.heap.size + 1 + 1 ≤ w2.heap.size := by have := hb.size; omega
        clear hc
        have hc := fun b o (h : b < w.heap.size + 1 + 1) => (hb.cell (p := ⟨b, o, none⟩) (Nat.lt_of_lt_of_le h S1)).trans (HC1.out b o h)
        have HC2 := Lib.hid hc
        clear hb
        go_wp2_with fail
        refine (ints_v _ _ x.g y.g _ (HX.out _ K2.out).g (HY.out _ K2.out).g (by omega) (by omega)).mono ?_
        rintro e w3 ⟨rfl, hb⟩
        have K3 := Lib.hid (K2.out.trans (hb.mono K2.out.size))
        rw [Q3.out]
        clear hb
        go_wp2_with fail
        go_ret
        exact ⟨rbool HE.out.symm, K3.out⟩
    · rw [Bool.not_eq_true] at q2
      have Q2 := Lib.hid q2
      have HE : Hid (sameA x y = false) := by show _ = _; unfold sameA; rw [q1, q2]; simp
      clear q1 q2
      go_enter Tryz.func40, Tryz.ntmps40
      go_wp2_with fail
      refine (ints_v _ _ x.s y.s _ (HX.out _ K0.out).s (HY.out _ K0.out).s (by omega) (by omega)).mono ?_
      rintro e w1 ⟨rfl, hb⟩
      have K1 := Lib.hid (K0.out.trans (hb.mono K0.out.size))
      rw [Q1.out]
      have S1 : w.heap.size + 1 + 1 ≤ w1.heap.size := by have := hb.size; simp at this; omega
      have hc := fun b o (h : b < w.heap.size + 1 + 1) => hb.cell (p := ⟨b, o, none⟩) (by simpa using h)
      have HC1 := Lib.hid hc
      clear hb
      go_wp2_with fail
      refine (ints_v _ _ x.p y.p _ (HX.out _ K1.out).p (HY.out _ K1.out).p (by omega) (by omega)).mono ?_
      rintro e w2 ⟨rfl, hb⟩
      have K2 := Lib.hid (K1.out.trans (hb.mono K1.out.size))
      rw [Q2.out]
      clear hb
      go_wp2_with fail
      go_ret
      exact ⟨rbool HE.out.symm, K2.out⟩
  · rw [Bool.not_eq_true] at q1
    have Q1 := Lib.hid q1
    have HE : Hid (sameA x y = false) := by show _ = _; unfold sameA; rw [q1]; simp
    clear q1
    go_enter Tryz.func40, Tryz.ntmps40
    go_wp2_with fail
    refine (ints_v _ _ x.s y.s _ (HX.out _ K0.out).s (HY.out _ K0.out).s (by omega) (by omega)).mono ?_
    rintro e w1 ⟨rfl, hb⟩
    have K1 := Lib.hid (K0.out.trans (hb.mono K0.out.size))
    rw [Q1.out]
    clear hb
    go_wp2_with fail
    go_ret
    exact ⟨rbool HE.out.symm, K1.out⟩
end Go.Proofs.YtbiehpjhhopjaaaGreat
