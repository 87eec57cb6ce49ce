/-
  The plain law of CodeBack: what is written is read, and what is read is written so.
-/
import Derived.Test.YtinmggkofdjblaaOrderWalk
namespace Go.Proofs.Ytinmggkofdjblaa
open Go.RowKit
open CodeMath
theorem scan_fwd (l y : List Nat) (hs : shaped l) : ∀ (k acc : Nat), k + l.length ≤ 5 → acc + val l * 128 ^ k ≤ 2147483647 → ¬ (l.getLast? = some 0 ∧ (0 < k ∨ 1 < l.length)) →
    scan k acc (l ++ y) = some (acc + val l * 128 ^ k, k + l.length) := by
  induction l with
  | nil => exact hs.elim
  | cons c l ih =>
    intro k acc hk hx hlast
    cases l with
    | nil =>
      have hc : c < 128 := hs
      have hv : val [c] = c % 128 := by simp [val]
      rw [hv] at hx ⊢
      show scan k acc (c :: y) = _
      rw [scan, if_neg (by simp at hk; omega), if_neg (by omega), if_neg]
      · rfl
      · intro h
        rcases h with h | h
        · exact hlast ⟨by simp [h.1], .inl h.2⟩
        · omega
    | cons d l =>
      obtain ⟨h1, h2, h3⟩ := hs
      have hv : acc + val (c :: d :: l) * 128 ^ k = acc + c % 128 * 128 ^ k + val (d :: l) * 128 ^ (k + 1) := by
        show acc + (c % 128 + 128 * val (d :: l)) * 128 ^ k = _
        rw [Nat.pow_succ, Nat.add_mul, Nat.add_assoc]
        congr 2
        rw [Nat.mul_comm 128, Nat.mul_assoc, Nat.mul_comm 128]
      show scan k acc (c :: (d :: l ++ y)) = _
      rw [scan, if_neg (by simp at hk; omega), if_pos h1, ih h3 (k + 1) _ (by simp at hk ⊢; omega) (by omega), ← hv]
      · simp; omega
      · intro h
        exact hlast ⟨by rw [List.getLast?_cons_cons]; exact h.1, .inr (by simp)⟩
theorem digs_last {n : Nat} : ¬ ((digs n).getLast? = some 0 ∧ (0 < 0 ∨ 1 < (digs n).length)) := by
  intro h
  have := (digs_val (digs n) (shaped_digs n)).1 (by rw [val_digs])
  rcases this with h1 | h1
  · rcases h.2 with h2 | h2 <;> omega
  · exact h1 h.1
theorem getS_digs (x y : List Nat) (n : Nat) (hn : n ≤ 2147483647) : getS (x ++ (digs n ++ y)) x.length = (n, x.length + (digs n).length, 0) := by
  have h5 := digs_len5 (n := n) (by omega)
  have := scan_fwd (digs n) y (shaped_digs n) 0 0 (by omega) (by rw [val_digs]; omega) digs_last
  unfold getS
  rw [List.drop_left, this, val_digs]
  simp
theorem scan_bwd (r : List Nat) (hb : ∀ i (h : i < r.length), r[i] < 256) : ∀ (k acc x c : Nat), scan k acc r = some (x, c) →
    ∃ l t, r = l ++ t ∧ shaped l ∧ c = k + l.length ∧ x = acc + val l * 128 ^ k ∧ x ≤ 2147483647 ∧ ¬ (l.getLast? = some 0 ∧ (0 < k ∨ 1 < l.length)) := by
  induction r with
  | nil => intro k acc x c h; rw [scan] at h; cases h
  | cons d r ih =>
    intro k acc x c h
    rw [scan] at h
    by_cases h5 : k = 5
    · rw [if_pos h5] at h; cases h
    · rw [if_neg h5] at h
      by_cases h128 : 128 ≤ d
      · rw [if_pos h128] at h
        obtain ⟨l, t, hr, hs, hc, hx, hm, hl⟩ := ih (fun i hi => hb (i + 1) (by simpa using hi)) _ _ _ _ h
        refine ⟨d :: l, t, by rw [hr]; rfl, ?_, by rw [hc, List.length_cons]; omega, ?_, hm, ?_⟩
        · cases l with
          | nil => exact hs.elim
          | cons e l => exact ⟨h128, hb 0 (by simp), hs⟩
        · rw [hx]
          show _ = acc + (d % 128 + 128 * val l) * 128 ^ k
          rw [Nat.pow_succ, Nat.add_mul, Nat.add_assoc]
          congr 2
          rw [Nat.mul_comm 128 (val l), Nat.mul_assoc, Nat.mul_comm 128]
        · intro hh
          cases l with
          | nil => exact hs.elim
          | cons e l =>
            rw [List.getLast?_cons_cons] at hh
            exact hl ⟨hh.1, .inl (by omega)⟩
      · rw [if_neg h128] at h
        split at h
        · cases h
        · rename_i hno
          cases h
          refine ⟨[d], r, rfl, by show d < 128; omega, rfl, by simp [val], by omega, ?_⟩
          intro hh
          apply hno
          left
          refine ⟨by simpa using hh.1, ?_⟩
          rcases hh.2 with h2 | h2
          · exact h2
          · simp at h2
theorem getU_ok (l : List Nat) (p : Int) (hb : ∀ i (h : i < l.length), l[i] < 256) (h : (getU l p).2.2 = 0) :
    ∃ q : Nat, p = (q : Int) ∧ q ≤ l.length ∧ (getU l p).1 ≤ 2147483647 ∧ q ≤ (getU l p).2.1 ∧ (getU l p).2.1 ≤ l.length ∧ digs (getU l p).1 = (l.drop q).take ((getU l p).2.1 - q) := by
  unfold getU at h ⊢
  by_cases hp : 0 ≤ p ∧ p ≤ l.length
  · rw [if_pos hp] at h ⊢
    obtain ⟨q, rfl⟩ := Int.eq_ofNat_of_zero_le hp.1
    rw [Int.toNat_natCast] at h ⊢
    have hq : q ≤ l.length := by omega
    unfold getS at h ⊢
    cases hsc : scan 0 0 (l.drop q) with
    | none => rw [hsc] at h; cases h
    | some xc =>
      obtain ⟨x, c⟩ := xc
      obtain ⟨m, t, hr, hs, hc, hx, hm, hl⟩ := scan_bwd (l.drop q) (fun i hi => by rw [List.getElem_drop]; exact hb _ _) 0 0 x c hsc
      have hlen := congrArg List.length hr
      rw [List.length_drop, List.length_append] at hlen
      have hx2 : x = val m := by rw [hx]; simp
      have hc2 : c = m.length := by omega
      refine ⟨q, rfl, hq, hm, by simp, by simp; omega, ?_⟩
      show digs x = _
      rw [hx2, hr, (digs_val m hs).2]
      · simp [hc2]
      · by_cases h1 : m.length = 1
        · exact .inl h1
        · right
          intro hh
          have : 0 < m.length := by cases m with | nil => exact hs.elim | cons a b => simp
          exact hl ⟨hh, .inr (by omega)⟩
  · rw [if_neg hp] at h; cases h
end Go.Proofs.Ytinmggkofdjblaa
