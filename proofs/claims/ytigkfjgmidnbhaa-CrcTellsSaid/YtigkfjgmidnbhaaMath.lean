/- Plain mathematics of the check sum: no program in sight. -/
namespace Go.CrcMath

/-- one step of a word of 32 bits -/
def stp (w : BitVec 32) : BitVec 32 := if w.getLsbD 0 then (w >>> 1) ^^^ 0xedb88320#32 else w >>> 1

def stpN : Nat → BitVec 32 → BitVec 32
  | 0, w => w
  | n + 1, w => stpN n (stp w)

theorem stpN_add (a b : Nat) (w : BitVec 32) : stpN (a + b) w = stpN b (stpN a w) := by
  induction a generalizing w with
  | zero => simp [stpN]
  | succ a ih => rw [Nat.succ_add]; simp only [stpN]; exact ih _

theorem stpN_succ' (n : Nat) (w : BitVec 32) : stpN (n + 1) w = stp (stpN n w) := by
  rw [stpN_add n 1]; rfl

theorem stp_zero : stp 0#32 = 0#32 := by decide

theorem stp_xor (a b : BitVec 32) : stp (a ^^^ b) = stp a ^^^ stp b := by
  unfold stp
  rw [BitVec.getLsbD_xor, BitVec.ushiftRight_xor_distrib]
  cases a.getLsbD 0 <;> cases b.getLsbD 0
  · simp
  · simp [BitVec.xor_assoc]
  · simp only [Bool.xor_false, if_true, Bool.false_eq_true, if_false]
    rw [BitVec.xor_assoc, BitVec.xor_comm (b >>> 1), ← BitVec.xor_assoc]
  · simp only [Bool.xor_self, Bool.false_eq_true, if_false, if_true]
    rw [BitVec.xor_assoc (a >>> 1), BitVec.xor_comm (0xedb88320#32), BitVec.xor_assoc (b >>> 1), BitVec.xor_self, BitVec.xor_zero]

theorem stpN_zero (n : Nat) : stpN n 0#32 = 0#32 := by
  induction n with
  | zero => rfl
  | succ n ih => rw [stpN_succ', ih, stp_zero]

theorem stpN_xor (n : Nat) (a b : BitVec 32) : stpN n (a ^^^ b) = stpN n a ^^^ stpN n b := by
  induction n generalizing a b with
  | zero => rfl
  | succ n ih => simp only [stpN]; rw [stp_xor, ih]

theorem stp_eq_zero (a : BitVec 32) (h : stp a = 0#32) : a = 0#32 := by
  unfold stp at h
  by_cases h0 : a.getLsbD 0
  · rw [if_pos h0] at h
    have h2 : ((a >>> 1) ^^^ 0xedb88320#32).getLsbD 31 = (0#32).getLsbD 31 := by rw [h]
    rw [BitVec.getLsbD_xor, BitVec.getLsbD_ushiftRight, BitVec.getLsbD_of_ge a (1 + 31) (by decide)] at h2
    exact absurd h2 (by decide)
  · rw [if_neg h0] at h
    apply BitVec.eq_of_toNat_eq
    have h2 : (a >>> 1).toNat = 0 := by rw [h]; rfl
    rw [BitVec.toNat_ushiftRight, Nat.shiftRight_eq_div_pow] at h2
    have h3 : a.toNat % 2 = 0 := by
      rw [BitVec.getLsbD, Nat.testBit_zero] at h0
      simpa using h0
    show a.toNat = 0
    omega

theorem stpN_eq_zero (n : Nat) (a : BitVec 32) (h : stpN n a = 0#32) : a = 0#32 := by
  induction n generalizing a with
  | zero => exact h
  | succ n ih => exact stp_eq_zero _ (ih _ h)

theorem xor_eq_zero {a b : BitVec 32} (h : a ^^^ b = 0#32) : a = b := by
  have : a ^^^ b ^^^ b = 0#32 ^^^ b := by rw [h]
  rwa [BitVec.xor_assoc, BitVec.xor_self, BitVec.xor_zero, BitVec.zero_xor] at this

theorem stpN_inj (n : Nat) {a b : BitVec 32} (h : stpN n a = stpN n b) : a = b := by
  apply xor_eq_zero
  apply stpN_eq_zero n
  rw [stpN_xor, h, BitVec.xor_self]

/-- one byte -/
def byt (w : BitVec 32) (c : Nat) : BitVec 32 := stpN 8 (w ^^^ BitVec.ofNat 32 c)

/-- the word behind some bytes -/
def run (w : BitVec 32) (l : List Nat) : BitVec 32 := l.foldl byt w

theorem run_append (w : BitVec 32) (a b : List Nat) : run w (a ++ b) = run (run w a) b := by
  unfold run; exact List.foldl_append ..

theorem run_cons (w : BitVec 32) (c : Nat) (l : List Nat) : run w (c :: l) = run (byt w c) l := rfl
theorem run_nil (w : BitVec 32) : run w [] = w := rfl

theorem byt_xor (w d : BitVec 32) (c : Nat) : byt (w ^^^ d) c = byt w c ^^^ stpN 8 d := by
  unfold byt
  rw [BitVec.xor_assoc, BitVec.xor_comm d, ← BitVec.xor_assoc, stpN_xor]

theorem run_xor (w d : BitVec 32) (l : List Nat) : run (w ^^^ d) l = run w l ^^^ stpN (8 * l.length) d := by
  induction l generalizing w d with
  | nil => rfl
  | cons c l ih =>
    rw [run_cons, run_cons, byt_xor, ih, List.length_cons, show 8 * (l.length + 1) = 8 + 8 * l.length by omega, stpN_add]

theorem run_inj (l : List Nat) {a b : BitVec 32} (h : run a l = run b l) : a = b := by
  have h2 : run (a ^^^ (a ^^^ b)) l = run a l ^^^ stpN (8 * l.length) (a ^^^ b) := run_xor ..
  rw [← BitVec.xor_assoc, BitVec.xor_self, BitVec.zero_xor] at h2
  apply xor_eq_zero
  apply stpN_eq_zero (8 * l.length)
  have : run a l ^^^ run b l = stpN (8 * l.length) (a ^^^ b) := by
    rw [h2, ← BitVec.xor_assoc, BitVec.xor_self, BitVec.zero_xor]
  rw [← this, h, BitVec.xor_self]

/-- the check sum of bytes behind those whose check sum is s -/
def over (s : BitVec 32) (l : List Nat) : BitVec 32 := ~~~ run (~~~ s) l

theorem not_not (a : BitVec 32) : ~~~ ~~~ a = a := BitVec.not_not ..
theorem not_inj {a b : BitVec 32} (h : ~~~ a = ~~~ b) : a = b := by
  rw [← not_not a, h, not_not]

theorem over_append (s : BitVec 32) (a b : List Nat) : over s (a ++ b) = over (over s a) b := by
  unfold over; rw [not_not, run_append]

theorem over_inj (l : List Nat) {a b : BitVec 32} (h : over a l = over b l) : a = b :=
  not_inj (run_inj l (not_inj h))

/-! three texts -/

def xor3 : List Nat → List Nat → List Nat → List Nat
  | a :: l, b :: m, c :: n => (a ^^^ b ^^^ c) :: xor3 l m n
  | _, _, _ => []

theorem run_xor3 (l m n : List Nat) (x y z : BitVec 32) (h1 : m.length = l.length) (h2 : n.length = l.length) :
    run (x ^^^ y ^^^ z) (xor3 l m n) = run x l ^^^ run y m ^^^ run z n := by
  induction l generalizing m n x y z with
  | nil =>
    obtain rfl : m = [] := List.length_eq_zero_iff.1 h1
    obtain rfl : n = [] := List.length_eq_zero_iff.1 h2
    rfl
  | cons a l ih =>
    match m, n, h1, h2 with
    | b :: m, c :: n, h1, h2 =>
      rw [xor3, run_cons, run_cons, run_cons, run_cons]
      rw [← ih m n _ _ _ (by simpa using h1) (by simpa using h2)]
      congr 1
      unfold byt
      rw [← stpN_xor, ← stpN_xor]
      congr 1
      have e : BitVec.ofNat 32 (a ^^^ b ^^^ c) = BitVec.ofNat 32 a ^^^ BitVec.ofNat 32 b ^^^ BitVec.ofNat 32 c := by
        apply BitVec.eq_of_toNat_eq
        simp
      rw [e]
      ac_rfl

theorem over_xor3 (l m n : List Nat) (h1 : m.length = l.length) (h2 : n.length = l.length) :
    over 0#32 (xor3 l m n) = over 0#32 l ^^^ over 0#32 m ^^^ over 0#32 n := by
  unfold over
  have h := run_xor3 l m n (~~~0#32) (~~~0#32) (~~~0#32) h1 h2
  rw [show (~~~0#32 ^^^ ~~~0#32 ^^^ ~~~0#32 : BitVec 32) = ~~~0#32 by decide] at h
  rw [h]
  generalize run (~~~0#32) l = a
  generalize run (~~~0#32) m = b
  generalize run (~~~0#32) n = c
  rw [← BitVec.xor_allOnes, ← BitVec.xor_allOnes, ← BitVec.xor_allOnes, ← BitVec.xor_allOnes]
  have : BitVec.allOnes 32 ^^^ BitVec.allOnes 32 = 0#32 := by decide
  calc a ^^^ b ^^^ c ^^^ BitVec.allOnes 32 = a ^^^ b ^^^ c ^^^ BitVec.allOnes 32 ^^^ (BitVec.allOnes 32 ^^^ BitVec.allOnes 32) := by rw [this, BitVec.xor_zero]
    _ = _ := by ac_rfl

/-! bits turned -/

theorem stp_shl (i : Nat) (h : i < 31) : stp (1#32 <<< (i + 1)) = 1#32 <<< i := by
  have : ∀ i : Fin 31, stp (1#32 <<< (i.val + 1)) = 1#32 <<< i.val := by decide
  exact this ⟨i, h⟩

theorem stpN_shl (i : Nat) (h : i < 32) : stpN i (1#32 <<< i) = 1#32 := by
  induction i with
  | zero => rfl
  | succ i ih => rw [stpN, stp_shl i (by omega), ih (by omega)]

/-- one bit turned, in the byte j, the bit t. -/
theorem run_turn (w : BitVec 32) (l : List Nat) (j t : Nat) (hj : j < l.length) (ht : t < 8) :
    run w (l.set j (l[j] ^^^ 2 ^ t)) = run w l ^^^ stpN (8 * l.length - (8 * j + t)) 1#32 := by
  induction l generalizing w j with
  | nil => simp at hj
  | cons c l ih =>
    cases j with
    | zero =>
      rw [List.set_cons_zero, run_cons, run_cons]
      have e : byt w ((c :: l)[0] ^^^ 2 ^ t) = byt w c ^^^ stpN (8 - t) 1#32 := by
        unfold byt
        have e1 : BitVec.ofNat 32 (c ^^^ 2 ^ t) = BitVec.ofNat 32 c ^^^ (1#32 <<< t) := by
          apply BitVec.eq_of_toNat_eq
          rw [BitVec.toNat_xor, BitVec.toNat_ofNat, BitVec.toNat_ofNat, BitVec.toNat_shiftLeft, Nat.xor_mod_two_pow, Nat.shiftLeft_eq]
          simp
        rw [show (c :: l)[0] = c from rfl, e1, ← BitVec.xor_assoc, stpN_xor]
        congr 1
        rw [show (8 : Nat) = t + (8 - t) by omega, stpN_add, stpN_shl t (by omega)]
        congr 1
        omega
      rw [e, run_xor, ← stpN_add]
      congr 2
      simp only [List.length_cons]
      omega
    | succ j =>
      rw [List.set_cons_succ, run_cons, run_cons]
      have h := ih (byt w c) j (by simpa using hj)
      rw [show (c :: l)[j + 1] = l[j]'(by simpa using hj) from rfl, h]
      congr 2
      simp only [List.length_cons]
      omega

/-- What the loop that turns bits keeps: t is which bits have been turned. -/
structure Turned (b c : List Nat) (first i : Nat) (t : BitVec 32) : Prop where
  len : c.length = b.length
  sum : ∀ w, run w c = run w b ^^^ stpN (8 * b.length - first) t
  low : ∀ k, i ≤ k → t.getLsbD k = false
  same : t = 0#32 → c = b
  out : ∀ k, first + k ≥ 8 * b.length → t.getLsbD k = false

theorem Turned.start (b : List Nat) (first : Nat) : Turned b b first 0 0#32 :=
  ⟨rfl, fun w => by rw [stpN_zero, BitVec.xor_zero], fun k _ => by simp, fun _ => rfl, fun k _ => by simp⟩

theorem Turned.keep {b c : List Nat} {first i : Nat} {t : BitVec 32} (h : Turned b c first i t) : Turned b c first (i + 1) t :=
  ⟨h.len, h.sum, fun k hk => h.low k (by omega), h.same, h.out⟩

theorem Turned.turn {b c : List Nat} {first i : Nat} {t : BitVec 32} (h : Turned b c first i t) (hi : i < 32) (hk : first + i < 8 * b.length)
    (hj : (first + i) / 8 < c.length) :
    Turned b (c.set ((first + i) / 8) (c[(first + i) / 8] ^^^ 2 ^ ((first + i) % 8))) first (i + 1) (t ^^^ (1#32 <<< i)) := by
  refine ⟨by rw [List.length_set]; exact h.len, fun w => ?_, fun k hk => ?_, fun e => ?_, fun k hk2 => ?_⟩
  · rw [run_turn w c _ _ hj (Nat.mod_lt _ (by decide)), h.sum, stpN_xor, ← BitVec.xor_assoc]
    congr 1
    rw [h.len, show 8 * ((first + i) / 8) + (first + i) % 8 = first + i by omega]
    rw [show 8 * b.length - first = i + (8 * b.length - (first + i)) by omega, stpN_add, stpN_shl i hi]
  · rw [BitVec.getLsbD_xor, h.low k (by omega), BitVec.getLsbD_shiftLeft]
    by_cases h32 : k < 32
    · have : (1#32).getLsbD (k - i) = false := by
        have : k - i ≠ 0 := by omega
        simp [BitVec.getLsbD_one, this]
      simp [this]
    · simp [h32]
  · exfalso
    have e2 : (t ^^^ (1#32 <<< i)).getLsbD i = false := by rw [e]; simp
    rw [BitVec.getLsbD_xor, h.low i (Nat.le_refl _), BitVec.getLsbD_shiftLeft] at e2
    simp [hi] at e2
  · rw [BitVec.getLsbD_xor, h.out k hk2, BitVec.getLsbD_shiftLeft]
    by_cases h32 : k < 32
    · by_cases hki : k < i
      · simp [hki]
      · have : k - i ≠ 0 := by omega
        simp [BitVec.getLsbD_one, this]
    · simp [h32]

theorem Turned.fin {b c : List Nat} {first i : Nat} {t : BitVec 32} (h : Turned b c first i t) (s : BitVec 32) : (over s b = over s c) ↔ b = c := by
  constructor
  · intro e
    have e1 := not_inj e
    rw [h.sum] at e1
    have e2 : stpN (8 * b.length - first) t = 0#32 := by
      have : run (~~~s) b ^^^ run (~~~s) b = run (~~~s) b ^^^ (run (~~~s) b ^^^ stpN (8 * b.length - first) t) := by rw [← e1]
      rw [BitVec.xor_self, ← BitVec.xor_assoc, BitVec.xor_self, BitVec.zero_xor] at this
      exact this.symm
    exact (h.same (stpN_eq_zero _ _ e2)).symm
  · rintro rfl; rfl

/-! the table -/

/-- what eight steps make of a byte -/
def tab (i : Nat) : BitVec 32 := stpN 8 (BitVec.ofNat 32 i)

theorem stpN_high : ∀ (n : Nat) (w : BitVec 32), n ≤ 32 → (∀ k, k < n → w.getLsbD k = false) → stpN n w = w >>> n := by
  intro n
  induction n with
  | zero => intro w _ _; rw [BitVec.ushiftRight_zero]; rfl
  | succ n ih =>
    intro w hn h
    rw [stpN]
    have e : stp w = w >>> 1 := by unfold stp; rw [h 0 (by omega)]; rfl
    rw [e, ih _ (by omega) (fun k hk => by rw [BitVec.getLsbD_ushiftRight]; exact h _ (by omega)), ← BitVec.shiftRight_add, Nat.add_comm]

theorem byt_tab (w : BitVec 32) (c : Nat) (hc : c < 256) : byt w c = (w >>> 8) ^^^ tab ((w.toNat % 256) ^^^ c) := by
  unfold byt tab
  have hx : w ^^^ BitVec.ofNat 32 c = (w &&& 0xffffff00#32) ^^^ BitVec.ofNat 32 ((w.toNat % 256) ^^^ c) := by
    have e : BitVec.ofNat 32 ((w.toNat % 256) ^^^ c) = (w &&& 0xff#32) ^^^ BitVec.ofNat 32 c := by
      apply BitVec.eq_of_toNat_eq
      rw [BitVec.toNat_xor, BitVec.toNat_and, BitVec.toNat_ofNat, BitVec.toNat_ofNat, Nat.xor_mod_two_pow]
      congr 1
      show w.toNat % 256 % 2 ^ 32 = w.toNat &&& (2 ^ 8 - 1)
      rw [Nat.and_two_pow_sub_one_eq_mod]
      omega
    rw [e, ← BitVec.xor_assoc]
    congr 1
    apply BitVec.eq_of_getLsbD_eq
    intro i hi
    have h2 : ∀ i : Fin 32, (0xff#32).getLsbD i.val = !(0xffffff00#32).getLsbD i.val := by decide
    rw [BitVec.getLsbD_xor, BitVec.getLsbD_and, BitVec.getLsbD_and, h2 ⟨i, hi⟩]
    cases w.getLsbD i <;> cases (0xffffff00#32).getLsbD i <;> rfl
  rw [hx, stpN_xor]
  congr 1
  rw [stpN_high 8 _ (by decide)]
  · apply BitVec.eq_of_getLsbD_eq
    intro i hi
    rw [BitVec.getLsbD_ushiftRight, BitVec.getLsbD_ushiftRight, BitVec.getLsbD_and]
    by_cases h : 8 + i < 32
    · have h2 : ∀ i : Fin 32, 8 ≤ i.val → (0xffffff00#32).getLsbD i.val = true := by decide
      rw [h2 ⟨8 + i, h⟩ (by simp), Bool.and_true]
    · rw [BitVec.getLsbD_of_ge w (8 + i) (by omega), Bool.false_and]
  · intro k hk
    have h2 : ∀ i : Fin 8, (0xffffff00#32).getLsbD i.val = false := by decide
    rw [BitVec.getLsbD_and, h2 ⟨k, hk⟩, Bool.and_false]

end Go.CrcMath
