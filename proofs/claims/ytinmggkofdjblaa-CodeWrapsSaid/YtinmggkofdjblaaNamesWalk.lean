/-
  The walk of the law CodeNames.
-/
import Derived.Test.YtinmggkofdjblaaUnwrap
namespace Go.Proofs.Ytinmggkofdjblaa
open Go.RowKit
open CodeMath
theorem unwU_str {w w' : World} {r : List Nat × Nat × Int} (hl : ∀ i (h : i < r.1.length), r.1[i] < 256) {e : Ending} (h : UnwU w r e w') :
    ∃ a cap, e = .returned (.tuple #[.slice a r.1.length cap, .int .i64 (r.2.1 : Int), .int .i64 r.2.2]) ∧ BL w' a r.1.length r.1 ∧ (a = none → cap = 0) ∧ r.1.length ≤ cap ∧ Below w.heap.size w w' := by
  obtain ⟨v, rfl, hown, hb⟩ := h
  obtain ⟨a, cap, rfl, hB, hn⟩ := BL.of_own hown hl
  exact ⟨a, cap, rfl, hB, hn, own_cap hown, hb⟩
set_option maxRecDepth 100000 in
set_option maxHeartbeats 1000000 in
theorem names_any (w : World) : Calls Try.prog 6 #[] w fun e w' => e = .returned (.bool true) ∧ Below w.heap.size w w' := by
  have g1 : Hid (getU [9, 172, 2] (1 : Int) = (300, 3, 0) ∧ getU [128, 0] (0 : Int) = (0, 0, 8) ∧ getU [128] (0 : Int) = (0, 0, 8)) := by
    refine ⟨?_, ?_, ?_⟩ <;> decide +kernel
  have g2 : Hid (wrapL [7, 8] = [2, 7, 8] ∧ wrapE [7, 8] = 0) := by
    refine ⟨?_, ?_⟩ <;> decide +kernel
  have g3 : Hid (unwS [2, 7, 8, 9] 0 2 = ([7, 8], 3, 0) ∧ unwS [2, 7, 8, 9] 0 1 = ([], 0, 4)) := by
    refine ⟨?_, ?_⟩ <;> decide +kernel
  go_enter Try.func6, Try.ntmps6
  go_wp2_with fail
  have b1 := BL.lit (w := w.alloc (.cells #[.int .u8 9, .int .u8 172, .int .u8 2] 5)) (g := w.heap.size) (l := [9, 172, 2]) (heap_alloc_new w _) (by decide) rfl
  refine (get_u _ 3 3 [9, 172, 2] 1 _ b1 (by decide) (by decide)).mono ?_
  rintro e w1 ⟨rfl, rfl⟩
  simp only [g1.out.1]
  clear b1
  obtain ⟨w1, hw1⟩ : ∃ w1, w1 = w.alloc (.cells #[.int .u8 9, .int .u8 172, .int .u8 2] 5) := ⟨_, rfl⟩
  have k1 : Below w.heap.size w w1 := by rw [hw1]; exact (Below.refl _ _).alloc (Nat.le_refl _) _
  rw [← hw1]
  clear hw1
  go_wp2_with fail
  have b1 := BL.lit (w := w1.alloc (.cells #[.int .u8 128, .int .u8 0] 5)) (g := w1.heap.size) (l := [128, 0]) (heap_alloc_new w1 _) (by decide) rfl
  refine (get_u _ 2 2 [128, 0] 0 _ b1 (by decide) (by decide)).mono ?_
  rintro e w2 ⟨rfl, rfl⟩
  simp only [g1.out.2.1]
  clear b1
  obtain ⟨w2, hw2⟩ : ∃ w2, w2 = w1.alloc (.cells #[.int .u8 128, .int .u8 0] 5) := ⟨_, rfl⟩
  have k2 : Below w.heap.size w w2 := by rw [hw2]; exact k1.alloc k1.size _
  rw [← hw2]
  clear hw2 k1
  go_wp2_with fail
  have b1 := BL.lit (w := w2.alloc (.cells #[.int .u8 128] 5)) (g := w2.heap.size) (l := [128]) (heap_alloc_new w2 _) (by decide) rfl
  refine (get_u _ 1 1 [128] 0 _ b1 (by decide) (by decide)).mono ?_
  rintro e w3 ⟨rfl, rfl⟩
  simp only [g1.out.2.2]
  clear b1 g1
  obtain ⟨w3, hw3⟩ : ∃ w3, w3 = w2.alloc (.cells #[.int .u8 128] 5) := ⟨_, rfl⟩
  have k3 : Below w.heap.size w w3 := by rw [hw3]; exact k2.alloc k2.size _
  rw [← hw3]
  clear hw3 k2
  go_wp2_with fail
  have b1 := BL.lit (w := w3.alloc (.cells #[.int .u8 7, .int .u8 8] 5)) (g := w3.heap.size) (l := [7, 8]) (heap_alloc_new w3 _) (by decide) rfl
  refine (wrap_any _ 2 2 [7, 8] _ b1 (fun e => nomatch e) (by decide)).mono ?_
  rintro e w4 ⟨a4, len4, cap4, rfl, hB4, n4, lc4, hb4⟩
  rw [g2.out.1] at hB4
  rw [g2.out.2]
  clear b1 g2
  have k4 : Below w.heap.size w w4 := (k3.alloc k3.size _).trans (hb4.mono (by have := k3.size; simp; omega))
  clear k3 hb4
  have HB4 : Hid (∀ w', Below w4.heap.size w4 w' → BL w' a4 len4 [2, 7, 8]) := fun w' h => hB4.below h
  clear hB4
  go_wp2_with fail
  have b1 := BL.lit (w := w4.alloc (.cells #[.int .u8 2, .int .u8 7, .int .u8 8, .int .u8 9] 5)) (g := w4.heap.size) (l := [2, 7, 8, 9]) (heap_alloc_new w4 _) (by decide) rfl
  refine (unwrap_any _ 4 4 0 2 [2, 7, 8, 9] _ b1 (by decide) (by decide)).mono ?_
  rw [g3.out.1]
  intro e w5 hU
  obtain ⟨a5, cap5, rfl, hB5, n5, lc5, hb5⟩ := unwU_str (by decide) hU
  simp only [] at hB5 lc5
  clear b1 hU
  have k45 : Below w4.heap.size w4 w5 := ((Below.refl _ w4).alloc (Nat.le_refl _) _).trans (hb5.mono (by simp))
  have k5 : Below w.heap.size w w5 := k4.trans (k45.mono k4.size)
  clear hb5 k4
  have HB5 : Hid (∀ w', Below w5.heap.size w5 w' → BL w' a5 2 [7, 8]) := fun w' h => hB5.below h
  clear hB5
  go_wp2_with fail
  have b1 := BL.lit (w := w5.alloc (.cells #[.int .u8 2, .int .u8 7, .int .u8 8, .int .u8 9] 5)) (g := w5.heap.size) (l := [2, 7, 8, 9]) (heap_alloc_new w5 _) (by decide) rfl
  refine (unwrap_any _ 4 4 0 1 [2, 7, 8, 9] _ b1 (by decide) (by decide)).mono ?_
  rw [g3.out.2]
  intro e w6 hU
  obtain ⟨a6, cap6, rfl, -, -, -, hb6⟩ := unwU_str (by decide) hU
  clear b1 hU g3
  have k56 : Below w5.heap.size w5 w6 := ((Below.refl _ w5).alloc (Nat.le_refl _) _).trans (hb6.mono (by simp))
  have k6 : Below w.heap.size w w6 := k5.trans (k56.mono k5.size)
  have k46 : Below w4.heap.size w4 w6 := k45.trans (k56.mono k45.size)
  clear hb6 k5 k45
  go_wp2_with fail
  refine (alive_any _).mono ?_
  rintro e w7 ⟨rfl, hb7⟩
  have hx := BL.str (HB4.out w7 (k46.trans (hb7.mono k46.size))) cap4
  have hy := BL.str (HB5.out w7 (k56.trans (hb7.mono k56.size))) cap5
  have k7 : Below w.heap.size w w7 := k6.trans (hb7.mono k6.size)
  have s1 : strB [2, 7, 8] = ⟨#[2, 7, 8]⟩ := by decide
  have s2 : strB [7, 8] = ⟨#[7, 8]⟩ := by decide
  rw [s1] at hx
  rw [s2] at hy
  clear HB4 HB5 s1 s2 k46 k56 hb7
  go_wp2_with fail
  go_ret
  exact ⟨rfl, k7⟩
end Go.Proofs.Ytinmggkofdjblaa
