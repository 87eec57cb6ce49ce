/-
  The iterator of code.digits, walked: it hands over the digits to 128 of the number in its own cell.
-/
import Derived.RangeFuncNested
import Derived.RangeFuncBound
import Derived.RangeFuncCalls
import Derived.RangeFuncLeaves
import Derived.Shelf.Abstract
import Derived.Shelf.RegionOpen
import Derived.WalkKit
import Derived.OwnWalkIn
import Derived.TacticsInMore
import Derived.LoopNIn
import Derived.LoopIn
import Derived.Test.YtinmggkofdjblaaRows
import Derived.Lib.Hide
namespace Go.Proofs.Ytinmggkofdjblaa
open Go.RowKit Go.Shelf
attribute [local go_sem] Oper.semAt_some
/-- the number in the iterator's own cell -/
def left (N : Nat) (W : World) : Nat := match W.cell? ⟨N, 0, none⟩ with | some (.int _ v) => v.toNat | _ => 0
theorem left_eq {N : Nat} {W : World} {m : Nat} (h : W.cell? ⟨N, 0, none⟩ = some (.int .i64 (m : Int))) : left N W = m := by
  unfold left; rw [h]; simp
def GoesOn (J : Nat → World → Prop) (Jend : World → Prop) (N n k : Nat) (e : Ending) (W' : World) : Prop :=
  e = .returned (.bool true) ∧ W'.cell? ⟨N, 0, none⟩ = some (.int .i64 ((n / 128 ^ k : Nat) : Int)) ∧ W'.frozen? ⟨N, 0, none⟩ = false ∧
    (128 ≤ n / 128 ^ k → J (k + 1) (W'.setCell ⟨N, 0, none⟩ (.int .i64 ((n / 128 ^ (k + 1) : Nat) : Int)))) ∧ (n / 128 ^ k < 128 → Jend W')
theorem dig_in (m l N n : Nat) (hn : n ≤ 2147483647) (J : Nat → World → Prop) (Jend : World → Prop)
    (hY : ∀ k W, J k W → W.cell? ⟨N, 0, none⟩ = some (.int .i64 ((n / 128 ^ k : Nat) : Int)) ∧
      YieldAt Fence.wide (m - 1) Try.prog l #[.int .u8 (((n / 128 ^ k : Nat) : Int) % 128), .bool (decide (128 ≤ n / 128 ^ k))] W (GoesOn J Jend N n k))
    (W : World) (h0 : J 0 W) :
    CallsIn Fence.wide m Try.prog 22 #[.func (.yield l) #[] #[], .pointer (some ⟨N, 0, none⟩)] W fun e W' => (∃ v, e = .returned v) ∧ Jend W' := by
  refine callsIn_of_wp Try.func22 rfl trivial ?_ rfl
  simp only [Try.ntmps22, List.size_toArray, List.length_cons, List.length_nil, Nat.reduceAdd, Nat.reduceSub, Array.replicate_succ, Array.replicate_zero, List.push_toArray, List.append_toArray, List.nil_append, List.cons_append]
  gi_wp2
  gi_loopw [3] (fun _ wr => ∃ k, J k wr) (fun _ wr => left N wr)
  case atStart => exact ⟨0, h0⟩
  case round =>
    obtain ⟨k, hJ⟩ := hrel
    obtain ⟨hc, fn, tmps, assign, body, hy, hR⟩ := hY k wr hJ
    have hb : n / 128 ^ k ≤ n := Nat.div_le_self _ _
    have hq : n / 128 ^ (k + 1) = n / 128 ^ k / 128 := by rw [Nat.pow_succ, Nat.div_div_eq_div_mul]
    have HQ := Lib.hid hq
    have hc0 := hc
    clear hq
    have HRR := Lib.hid hR
    clear hR
    unfold GoesOn at HRR
    generalize n / 128 ^ k = q at *
    by_cases h128 : 128 ≤ q
    · rw [decide_eq_true h128] at hy
      have hge : decide ((128 : Int) ≤ (q : Int)) = true := by simp; omega
      gi_wp2
      refine ⟨fun h => (nomatch h), HRR.out.mono ?_⟩
      rintro e W3 ⟨rfl, hc3, hf3, hj3, -⟩
      have HJ := Lib.hid (hj3 h128)
      clear hj3
      gi_wp2
      go_roundw
      case rel =>
        refine ⟨k + 1, ?_⟩
        have := HJ.out
        rw [HQ.out] at this
        exact this
      case measure =>
        rw [left_eq hc0, show ((q : Int) / 128) = ((q / 128 : Nat) : Int) by omega, left_eq (m := q / 128) (World.cell?_setCell_same' _ _ _ (by rw [hc3]; rfl))]
        omega
    · rw [decide_eq_false h128] at hy
      have hge : decide ((128 : Int) ≤ (q : Int)) = false := by simp; omega
      gi_wp2
      refine ⟨fun h => (nomatch h), HRR.out.mono ?_⟩
      rintro e W3 ⟨rfl, hc3, hf3, -, hend⟩
      have HE := Lib.hid (hend (by omega))
      clear hend
      gi_wp2
      go_end0
      exact ⟨⟨_, rfl⟩, HE.out⟩
end Go.Proofs.Ytinmggkofdjblaa
