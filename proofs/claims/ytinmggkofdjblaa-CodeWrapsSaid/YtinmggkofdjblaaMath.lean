/-
  Plain mathematics of numbers as bytes: no program in sight.
-/
namespace Go.CodeMath

def digsF : Nat → Nat → List Nat
  | 0, n => [n]
  | f + 1, n => if n < 128 then [n] else (128 + n % 128) :: digsF f (n / 128)

/-- a number's bytes -/
def digs (n : Nat) : List Nat := digsF n n

theorem digsF_eq (f g n : Nat) (hf : n ≤ f) (hg : n ≤ g) : digsF f n = digsF g n := by
  induction f generalizing g n with
  | zero =>
    obtain rfl : n = 0 := by omega
    cases g with
    | zero => rfl
    | succ g => simp [digsF]
  | succ f ih =>
    cases g with
    | zero =>
      obtain rfl : n = 0 := by omega
      simp [digsF]
    | succ g =>
      unfold digsF
      by_cases h : n < 128
      · rw [if_pos h, if_pos h]
      · rw [if_neg h, if_neg h, ih g (n / 128) (by omega) (by omega)]

theorem digs_lt {n : Nat} (h : n < 128) : digs n = [n] := by
  unfold digs
  cases n with
  | zero => rfl
  | succ n => unfold digsF; rw [if_pos h]

theorem digs_ge {n : Nat} (h : 128 ≤ n) : digs n = (128 + n % 128) :: digs (n / 128) := by
  unfold digs
  cases n with
  | zero => omega
  | succ n =>
    rw [digsF, if_neg (by omega), digsF_eq n ((n + 1) / 128) _ (by omega) (by omega)]

theorem digs_byte (n : Nat) : ∀ i (h : i < (digs n).length), (digs n)[i] < 256 := by
  induction n using Nat.strongRecOn with
  | _ n ih =>
    intro i h
    by_cases h1 : n < 128
    · simp only [digs_lt h1] at h ⊢
      have : i = 0 := by simpa using h
      subst this
      show n < 256
      omega
    · simp only [digs_ge (Nat.le_of_not_lt h1)] at h ⊢
      cases i with
      | zero => show 128 + n % 128 < 256; omega
      | succ i => exact ih (n / 128) (by omega) i (by simpa using h)

theorem digs_pos (n : Nat) : 0 < (digs n).length := by
  by_cases h : n < 128
  · rw [digs_lt h]; simp
  · rw [digs_ge (by omega)]; simp

theorem digs_mono {a b : Nat} (h : a ≤ b) : (digs a).length ≤ (digs b).length := by
  induction b using Nat.strongRecOn generalizing a with
  | _ b ih =>
    by_cases h1 : a < 128
    · rw [digs_lt h1]; exact digs_pos b
    · rw [digs_ge (Nat.le_of_not_lt h1), digs_ge (by omega : 128 ≤ b)]
      simp only [List.length_cons]
      exact Nat.succ_le_succ (ih (b / 128) (by omega) (Nat.div_le_div_right h))

theorem digs_len5 {n : Nat} (h : n < 34359738368) : (digs n).length ≤ 5 := by
  have e1 : ∀ m, m < 128 → (digs m).length ≤ 1 := fun m hm => by rw [digs_lt hm]; simp
  have st : ∀ (m k b : Nat), (∀ x, x < b → (digs x).length ≤ k) → m < 128 * b → 0 < b → (digs m).length ≤ k + 1 := fun m k b hx hm hb => by
    by_cases h1 : m < 128
    · rw [digs_lt h1]; simp
    · rw [digs_ge (Nat.le_of_not_lt h1), List.length_cons]
      exact Nat.succ_le_succ (hx _ (by omega))
  have e2 : ∀ m, m < 16384 → (digs m).length ≤ 2 := fun m hm => st m 1 128 e1 hm (by omega)
  have e3 : ∀ m, m < 2097152 → (digs m).length ≤ 3 := fun m hm => st m 2 16384 e2 hm (by omega)
  have e4 : ∀ m, m < 268435456 → (digs m).length ≤ 4 := fun m hm => st m 3 2097152 e3 hm (by omega)
  exact st n 4 268435456 e4 h (by omega)

/-- What some bytes come to: digits to 128, the lowest one first. -/
def val : List Nat → Nat
  | [] => 0
  | c :: l => c % 128 + 128 * val l

/-- the bytes of a number as reading meets them: all but the last one from 128 on. -/
def shaped : List Nat → Prop
  | [] => False
  | [c] => c < 128
  | c :: l => 128 ≤ c ∧ c < 256 ∧ shaped l

theorem shaped_digs (n : Nat) : shaped (digs n) := by
  induction n using Nat.strongRecOn with
  | _ n ih =>
    by_cases h : n < 128
    · rw [digs_lt h]; exact h
    · rw [digs_ge (Nat.le_of_not_lt h)]
      have hs := ih (n / 128) (by omega)
      cases hd : digs (n / 128) with
      | nil => rw [hd] at hs; exact hs.elim
      | cons c l => rw [hd] at hs; exact ⟨by omega, by omega, hs⟩

theorem val_digs (n : Nat) : val (digs n) = n := by
  induction n using Nat.strongRecOn with
  | _ n ih =>
    by_cases h : n < 128
    · rw [digs_lt h]; simp [val]; omega
    · rw [digs_ge (Nat.le_of_not_lt h), val, ih (n / 128) (by omega)]
      omega

/-- bytes of that shape are those of what they come to, but where the last one is 0 behind others -/
theorem digs_val (l : List Nat) (hs : shaped l) : digs (val l) = l ↔ (l.length = 1 ∨ l.getLast? ≠ some 0) := by
  induction l with
  | nil => exact hs.elim
  | cons c l ih =>
    cases l with
    | nil =>
      have hc : c < 128 := hs
      have : val [c] = c := by simp [val]; omega
      rw [this, digs_lt hc]
      simp
    | cons d l =>
      obtain ⟨h1, h2, h3⟩ := hs
      have ih := ih h3
      have hv : val (c :: d :: l) = c % 128 + 128 * val (d :: l) := rfl
      have hlast : (c :: d :: l).getLast? = (d :: l).getLast? := by simp [List.getLast?_cons_cons]
      rw [hlast]
      by_cases h0 : val (d :: l) = 0
      · constructor
        · intro h
          rw [hv, h0, digs_lt (by omega)] at h
          simp at h
        · intro h
          exfalso
          rcases h with h | h
          · simp at h
          · rw [h0, digs_lt (by omega)] at ih
            cases l with
            | nil =>
              have : d % 128 = 0 := by simp [val] at h0; omega
              have hd : d < 128 := h3
              apply h
              simp
              omega
            | cons e l =>
              have := ih.2 (.inr h)
              simp at this
      · rw [hv, digs_ge (by omega), show (c % 128 + 128 * val (d :: l)) / 128 = val (d :: l) by omega, show 128 + (c % 128 + 128 * val (d :: l)) % 128 = c by omega]
        constructor
        · intro h
          have h := (List.cons.inj h).2
          rcases ih.1 h with h' | h'
          · right
            have : l = [] := by simpa using h'
            subst this
            intro h2
            have : d = 0 := by simpa using h2
            subst this
            exact h0 (by simp [val])
          · exact .inr h'
        · intro h
          rcases h with h | h
          · simp at h
          · rw [ih.2 (.inr h)]

theorem val_append (a b : List Nat) : val (a ++ b) = val a + 128 ^ a.length * val b := by
  induction a with
  | nil => simp [val]
  | cons c a ih =>
    rw [List.cons_append, val, val, ih, List.length_cons, Nat.pow_succ]
    rw [Nat.mul_add, Nat.add_assoc, Nat.mul_comm (128 ^ a.length) 128, Nat.mul_assoc]

theorem val_lt (a : List Nat) : val a < 128 ^ a.length := by
  induction a with
  | nil => simp [val]
  | cons c a ih =>
    rw [val, List.length_cons, Nat.pow_succ]
    have : c % 128 < 128 := Nat.mod_lt _ (by omega)
    omega

end Go.CodeMath
