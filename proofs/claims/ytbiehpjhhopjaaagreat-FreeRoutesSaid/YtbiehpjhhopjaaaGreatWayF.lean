/-
  way.walk's stay, walked.
-/
import Derived.Test.YtbiehpjhhopjaaaGreatWayB
import Derived.StillTailTactics
set_option linter.unusedVariables false
set_option linter.unusedSimpArgs false
namespace Go.Proofs.YtbiehpjhhopjaaaGreat
open Go.RowKit Go.Sort
set_option maxRecDepth 100000 in
set_option maxHeartbeats 4000000 in
theorem stay_any (g : Nat) (p : Pl) (a1 : Option Addr) (c1 : Nat) (q gg r va vo : Value) (k : Wk) (id pl : Int) (W : World)
    (hW : WkM W g p (.slice a1 p.secs.length c1) q gg r k va vo) (hS : ∀ W', Below g W W' → SlA W' 3 RSec a1 c1 p.secs) (hm : p.secs.length ≤ 1000) (hn1 : k.asks.length ≤ 900) :
    Calls Tryz.prog 306 #[.pointer (some ⟨g, 0, none⟩), .int .i64 id, .int .i64 pl] W (WkPost W g p (.slice a1 p.secs.length c1) q gg r (wkStay p.secs k id pl)) := by
  have HC := Lib.hid (section_any g p a1 c1 q gg r va vo k id W hW hS hm)
  have l0 := hW.lt
  have hK1 : (wkS p.secs k id).asks.length ≤ 900 := by rw [wkS_asks]; exact hn1
  have HT : Hid (wkStay p.secs k id pl = if (wkS p.secs k id).lost = false ∧ 0 < (wkS p.secs k id).inn.en then wkAsk (wkS p.secs k id) (wkSec p.secs k id).pt (wkS p.secs k id).inn.en pl else wkS p.secs k id) := by
    show _ = _
    rw [wkS_inn]
    rfl
  generalize wkStay p.secs k id pl = R at *
  unfold SecPost at HC
  generalize wkSec p.secs k id = S at *
  generalize wkS p.secs k id = K at *
  clear hW hS hm hn1
  go_enter Tryz.func306, Tryz.ntmps306
  go_wp2_with fail
  refine HC.out.mono ?_
  rintro e w1 ⟨a, c, rfl, hends, hw1, ho1⟩
  unfold secV
  have hl1 := hw1.lt
  go_upto_region 1 with fail
  generalize hWW : w1.alloc _ = W1
  have hb1 : Below w1.heap.size w1 W1 := by rw [← hWW]; exact (Below.refl _ _).alloc (Nat.le_refl _) _
  have HO1 : Hid (Off g W W1) := ho1.trans (Off.of_below hb1 (Nat.le_of_lt hl1))
  have HW1 := Lib.hid (hw1.below hb1)
  have s0 : W1.cell? ⟨w1.heap.size, 0, none⟩ = some (.int .i64 S.id) := by rw [← hWW]; simp
  have s1 : W1.cell? ⟨w1.heap.size, 1, none⟩ = some (.int .i64 S.pt) := by rw [← hWW]; simp
  have s2 : W1.cell? ⟨w1.heap.size, 2, none⟩ = some (.slice a S.ends.length c) := by rw [← hWW]; simp
  have y7 := HW1.out.en
  have y10 := HW1.out.lost
  have l1 := HW1.out.lt
  have l2 : w1.heap.size < W1.heap.size := by rw [← hWW]; simp
  clear hWW hends hw1 ho1 hb1
  cases hL : K.lost with
  | true =>
    rw [hL] at y10
    have HE : Hid (R = K) := HT.out.trans <| if_neg (fun h => by rw [hL] at h; cases h.1)
    clear hL
    go_wp2_with fail
    refine bodyPost_ret (v := .tuple #[]) (by simp [results, Tryz.f306, go_sem]) rfl ⟨rfl, HO1.out, va, vo, ?_⟩
    rw [HE.out]
    exact HW1.out
  | false =>
    rw [hL] at y10
    by_cases hE : 0 < K.inn.en
    · have t1 : decide (0 < K.inn.en) = true := by simpa using hE
      have HE : Hid (R = wkAsk K S.pt K.inn.en pl) := HT.out.trans <| if_pos ⟨hL, hE⟩
      clear hL hE
      go_upto_region 2 with fail
      go_still_tail 9, (by kernel_rfl)
      change wpList _ _ _ _ _ W1.drew
      generalize hWD : W1.drew = WD
      have hbD : Below W1.heap.size W1 WD := by rw [← hWD]; exact (Below.refl _ _).drew
      have HOD : Hid (Off g W WD) := HO1.out.trans (Off.of_below hbD (Nat.le_of_lt l1))
      have HWD := Lib.hid (HW1.out.below hbD)
      clear hWD hbD s0 s1 s2 y7 y10
      go_wp2_with fail
      refine (ask_any g p _ q gg r va vo K S.pt K.inn.en pl WD HWD.out (by omega)).mono ?_
      rintro e w2 ⟨rfl, hO, -, va', hw⟩
      have HO2 : Hid (Off g W w2) := HOD.out.trans hO
      have HW2 := Lib.hid hw
      clear hO hw
      go_wp2_with fail
      refine bodyPost_ret (v := .tuple #[]) (by simp [results, Tryz.f306, go_sem]) rfl ⟨rfl, HO2.out, va', vo, ?_⟩
      rw [HE.out]
      exact HW2.out
    · have t1 : decide (0 < K.inn.en) = false := by simpa using hE
      have HE : Hid (R = K) := HT.out.trans <| if_neg (fun h => hE h.2)
      clear hL hE
      go_wp2_with fail
      refine bodyPost_ret (v := .tuple #[]) (by simp [results, Tryz.f306, go_sem]) rfl ⟨rfl, HO1.out, va, vo, ?_⟩
      rw [HE.out]
      exact HW1.out
end Go.Proofs.YtbiehpjhhopjaaaGreat
