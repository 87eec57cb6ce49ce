/-
  The walk of the law CrcTells.
-/
import Derived.Test.YtigkfjgmidnbhaaLaws
namespace Go.Proofs.Ytigkfjgmidnbhaa
open Go.RowKit
open CrcMath
set_option maxRecDepth 20000 in
theorem tells_any (a : Option Addr) (len cap : Nat) (l : List Nat) (s : BitVec 32) (w : World) (hBL : BL w a len l) :
    Calls Try.prog 4 #[.slice a len cap, .int .u32 s.toNat] w fun e w' => e = .returned (.bool true) ∧ Below w.heap.size w w' := by
  have hs := s.isLt
  have hl := hBL.len
  by_cases hm : 5000 < len
  · have hd : decide ((5000 : Int) < (len : Int)) = true := by simp; omega
    go_enter Try.func4, Try.ntmps4
    go_wp2_with fail
    go_ret
    exact ⟨rfl, Below.refl _ _⟩
  · have hd : decide ((5000 : Int) < (len : Int)) = false := by simp; omega
    have hcv := BL.str hBL cap
    clear hl
    go_enter Try.func4, Try.ntmps4
    go_wp2_with fail
    refine (of_any a len cap l _ hBL (by omega)).mono ?_
    rintro e w1 ⟨rfl, hb1⟩
    have hB1 := hBL.below hb1
    go_wp2_with fail
    refine (refof_any a len cap l _ hB1 (by omega)).mono ?_
    rintro e w1 ⟨rfl, rfl⟩
    go_wp2_with fail
    refine (over_any s a len cap l _ hB1 (by omega)).mono ?_
    rintro e w2 ⟨rfl, hb2⟩
    have hB2 := hB1.below hb2
    have hcv2 := BL.str hB2 cap
    go_wp2_with fail
    refine (refover_any s a len cap l _ hB2 (by omega)).mono ?_
    rintro e w2 ⟨rfl, rfl⟩
    go_wp2_with fail
    go_ret
    refine ⟨rfl, hb1.trans (hb2.mono hb1.size)⟩
end Go.Proofs.Ytigkfjgmidnbhaa
