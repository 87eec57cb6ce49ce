/-
  The plain law of CodeWrapped: what is wrapped is unwrapped, and what is unwrapped is wrapped so.
-/
import Derived.Test.YtinmggkofdjblaaNamesWalk
namespace Go.Proofs.Ytinmggkofdjblaa
open Go.RowKit
open CodeMath
theorem unwS_wrap (x b y : List Nat) (h : b.length ≤ 65536) : unwS ((x ++ (digs b.length ++ b)) ++ y) (x.length : Int) (b.length : Int) = (b, x.length + ((digs b.length).length + b.length), 0) := by
  have hg : getU ((x ++ (digs b.length ++ b)) ++ y) (x.length : Int) = (b.length, x.length + (digs b.length).length, 0) := by
    have e : (x ++ (digs b.length ++ b)) ++ y = x ++ (digs b.length ++ (b ++ y)) := by simp
    rw [e, getU, if_pos ⟨by omega, by simp; omega⟩, Int.toNat_natCast, getS_digs x (b ++ y) b.length (by omega)]
  have hlen : ((x ++ (digs b.length ++ b)) ++ y).length = x.length + ((digs b.length).length + b.length) + y.length := by simp; omega
  unfold unwS
  rw [if_pos ⟨by omega, by rw [hlen]; omega, by omega, by omega⟩, hg]
  simp only []
  rw [if_pos trivial, if_neg (by omega), if_neg (by rw [hlen]; omega)]
  have e : (x ++ (digs b.length ++ b)) ++ y = (x ++ digs b.length) ++ (b ++ y) := by simp
  rw [e, List.drop_left' (by simp), List.take_left' rfl]
  rw [Nat.add_assoc]
theorem unwS_ok (l : List Nat) (p most : Int) (hb : ∀ i (h : i < l.length), l[i] < 256) (h : (unwS l p most).2.2 = 0) :
    ∃ q : Nat, p = (q : Int) ∧ q < (unwS l p most).2.1 ∧ (unwS l p most).2.1 ≤ l.length ∧ (unwS l p most).1.length ≤ 65536 ∧ ((unwS l p most).1.length : Int) ≤ most ∧
      wrapL (unwS l p most).1 = (l.drop q).take ((unwS l p most).2.1 - q) ∧ wrapE (unwS l p most).1 = 0 := by
  unfold unwS at h ⊢
  by_cases hp : 0 ≤ p ∧ p ≤ l.length ∧ 0 ≤ most ∧ most ≤ 65536
  · rw [if_pos hp] at h ⊢
    by_cases hz : (getU l p).2.2 = 0
    · rw [if_pos hz] at h ⊢
      obtain ⟨q, rfl, hq, hm, hqn, hnl, hdg⟩ := getU_ok l p hb hz
      generalize getU l (q : Int) = r at *
      obtain ⟨n, nx, ee⟩ := r
      simp only [] at hz hm hqn hnl hdg h ⊢
      by_cases h1 : most < (n : Int)
      · rw [if_pos h1] at h; cases h
      · rw [if_neg h1] at h ⊢
        by_cases h2 : l.length < nx + n
        · rw [if_pos h2] at h; cases h
        · rw [if_neg h2]
          have hul : ((l.drop nx).take n).length = n := by rw [List.length_take, List.length_drop]; omega
          have hpos := digs_pos n
          have hdl := congrArg List.length hdg
          rw [List.length_take, List.length_drop] at hdl
          simp only []
          refine ⟨q, rfl, by omega, by omega, by omega, by omega, ?_, by rw [wrapE, if_pos (by omega)]⟩
          rw [wrapL, if_pos (by omega), hul]
          have e : nx + n - q = (nx - q) + n := by omega
          rw [e, List.take_add, List.drop_drop, hdg, show q + (nx - q) = nx by omega]
    · rw [if_neg hz] at h; exact absurd h hz
  · rw [if_neg hp] at h; cases h
theorem unwS_no (l : List Nat) (p most : Int) (h : (unwS l p most).2.2 ≠ 0) : (unwS l p most).1 = [] ∧ (unwS l p most).2.1 = 0 := by
  unfold unwS at h ⊢
  split
  · split
    · split
      · exact ⟨rfl, rfl⟩
      · split
        · exact ⟨rfl, rfl⟩
        · rename_i h1 h2 h3 h4
          rw [if_pos h1, if_pos h2, if_neg h3, if_neg h4] at h
          exact absurd rfl h
    · exact ⟨rfl, rfl⟩
  · exact ⟨rfl, rfl⟩
end Go.Proofs.Ytinmggkofdjblaa
