/-
  Slices of numbers that read as lists, and the functions that search and compare them, walked.
-/
import Derived.WalkKit
import Derived.Lib.Hide
import Derived.Below
import Derived.LoopTactic
import Derived.BigQuiet
import Derived.Deep.QuietTactic
import Derived.Test.YtigkfjgmidnbhaaChecked
set_option linter.unusedVariables false
namespace Go.Proofs.Ytigkfjgmidnbhaa
open Go.RowKit
/-- a slice of numbers that reads as a list -/
structure IL (w : World) (a : Option Addr) (len : Nat) (l : List Int) : Prop where
  len : l.length = len
  cell : ∀ i (h : i < l.length), ∃ b off, a = some ⟨b, off, none⟩ ∧ w.cell? ⟨b, off + i, none⟩ = some (.int .i64 l[i])
theorem IL.below {w w' : World} {a : Option Addr} {len : Nat} {l : List Int} (h : IL w a len l) (hb : Below w.heap.size w w') : IL w' a len l :=
  ⟨h.len, fun i hi => by
    obtain ⟨b, off, e, hc⟩ := h.cell i hi
    exact ⟨b, off, e, (hb.cell (p := ⟨b, off + i, none⟩) (block_lt_of_cell hc)).trans hc⟩⟩
theorem IL.drewN {w : World} {a : Option Addr} {len : Nat} {l : List Int} (h : IL w a len l) (n : Nat) : IL (w.drewN n) a len l := ⟨h.len, h.cell⟩
theorem rbool {a b : Bool} (h : a = b) : Ending.returned (.bool a) = .returned (.bool b) := by rw [h]
/-- is a number among some? -/
def hasB (l : List Int) (n : Int) : Bool := decide (n ∈ l)
/-- the place of the first -/
def idxFrom : Nat → List Int → Int → Int
  | _, [], _ => -1
  | k, c :: r, n => if c = n then (k : Int) else idxFrom (k + 1) r n
def idxI (l : List Int) (n : Int) : Int := idxFrom 0 l n
theorem idxFrom_ge : ∀ (l : List Int) (k : Nat) (n : Int), (0 ≤ idxFrom k l n) ↔ n ∈ l
  | [], k, n => by simp [idxFrom]
  | c :: r, k, n => by
    unfold idxFrom
    split
    · rename_i h; subst h; simp
    · rename_i h
      rw [idxFrom_ge r (k + 1) n]
      constructor
      · intro h2; exact List.mem_cons_of_mem _ h2
      · intro h2
        rcases List.mem_cons.1 h2 with h3 | h3
        · exact absurd h3.symm h
        · exact h3
theorem in_any (a : Option Addr) (len cap : Nat) (l : List Int) (n : Int) (w : World) (hl : IL w a len l) (hm : len ≤ 1000000) :
    Calls Try.prog 23 #[.slice a len cap, .int .i64 n] w fun e w' => e = .returned (.bool (hasB l n)) ∧ w = w' := by
  have HL := Lib.hid hl
  have hll := Lib.hid hl.len
  clear hl
  go_enter Try.func23, Try.ntmps23
  go_wp2_with fail
  go_loop [5] (fun i => ∃ k : Nat, k ≤ len ∧ i = .int .i64 k ∧ ∀ j (h : j < l.length), j < k → l[j] ≠ n) (fun i => len - (intOf i).toNat)
  case atStart => exact ⟨0, by omega, rfl, fun j h h0 => by omega⟩
  case round =>
    obtain ⟨k, hk, rfl, hno⟩ := hrel
    have HNO := Lib.hid hno
    clear hno
    by_cases hlt : k < len
    · have hd : decide ((k : Int) < (len : Int)) = true := by simp; omega
      have hkl : k < l.length := by rw [hll.out]; exact hlt
      obtain ⟨b, off, rfl, hc⟩ := HL.out.cell k hkl
      have c0 : (0 : Int) ≤ (k : Int) := by omega
      have c1 : (k : Int) < (len : Int) := by omega
      by_cases he : l[k] = n
      · have heq : (l[k] == n) = true := by rw [beq_iff_eq]; exact he
        have HE : Hid (hasB l n = true) := by
          show _ = _
          unfold hasB
          rw [decide_eq_true_iff, ← he]
          exact List.getElem_mem hkl
        clear he
        go_wp2_with fail
        go_ret
        exact ⟨rbool HE.out.symm, rfl⟩
      · have heq : (l[k] == n) = false := by rw [beq_eq_false_iff_ne]; exact he
        have HE := Lib.hid he
        clear he
        go_wp2_with fail
        go_round
        case rel =>
          refine ⟨k + 1, by omega, by go_num, fun j h hj => ?_⟩
          by_cases hjk : j = k
          · subst hjk; exact HE.out
          · exact HNO.out j h (by omega)
        case measure => simp [intOf]; omega
    · obtain rfl : k = len := by omega
      have hd : decide ((k : Int) < (k : Int)) = false := by simp
      have HE : Hid (hasB l n = false) := by
        show _ = _
        unfold hasB
        rw [decide_eq_false_iff_not]
        intro hmem
        obtain ⟨j, hj, e⟩ := List.getElem_of_mem hmem
        exact HNO.out j hj (by rw [← hll.out]; exact hj) e
      go_wp2_with fail
      go_ret
      exact ⟨rbool HE.out.symm, rfl⟩
theorem idxFrom_snoc (l : List Int) (n : Int) : ∀ (k : Nat) (h : k < l.length), (∀ j (h : j < l.length), j < k → l[j] ≠ n) → l[k] = n → ∀ m, idxFrom m l n = (m + k : Nat) := by
  induction l with
  | nil => intro k h; simp at h
  | cons c r ih =>
    intro k h hno he m
    unfold idxFrom
    cases k with
    | zero => rw [if_pos (by simpa using he)]; simp
    | succ k =>
      rw [if_neg (by have := hno 0 (by simp) (by omega); simpa using this)]
      rw [ih k (by simpa using h) (fun j hj hjk => by have := hno (j + 1) (by simpa using hj) (by omega); simpa using this) (by simpa using he) (m + 1)]
      congr 1; omega
theorem idxFrom_none (l : List Int) (n : Int) : (∀ j (h : j < l.length), l[j] ≠ n) → ∀ m, idxFrom m l n = -1 := by
  induction l with
  | nil => intro _ m; rfl
  | cons c r ih =>
    intro hno m
    unfold idxFrom
    rw [if_neg (by have := hno 0 (by simp); simpa using this)]
    exact ih (fun j hj => by have := hno (j + 1) (by simpa using hj); simpa using this) (m + 1)
theorem rint {k : IntKind} {a b : Int} (h : a = b) : Ending.returned (.int k a) = .returned (.int k b) := by rw [h]
theorem index_any (a : Option Addr) (len cap : Nat) (l : List Int) (n : Int) (w : World) (hl : IL w a len l) (hm : len ≤ 1000000) :
    Calls Try.prog 27 #[.slice a len cap, .int .i64 n] w fun e w' => e = .returned (.int .i64 (idxI l n)) ∧ w = w' := by
  have HL := Lib.hid hl
  have hll := Lib.hid hl.len
  clear hl
  go_enter Try.func27, Try.ntmps27
  go_wp2_with fail
  go_loop [8] (fun i => ∃ k : Nat, k ≤ len ∧ i = .int .i64 k ∧ ∀ j (h : j < l.length), j < k → l[j] ≠ n) (fun i => len - (intOf i).toNat)
  case atStart => exact ⟨0, by omega, rfl, fun j h h0 => by omega⟩
  case round =>
    obtain ⟨k, hk, rfl, hno⟩ := hrel
    have HNO := Lib.hid hno
    clear hno
    by_cases hlt : k < len
    · have hd : decide ((k : Int) < (len : Int)) = true := by simp; omega
      have hkl : k < l.length := by rw [hll.out]; exact hlt
      obtain ⟨b, off, rfl, hc⟩ := HL.out.cell k hkl
      have c0 : (0 : Int) ≤ (k : Int) := by omega
      have c1 : (k : Int) < (len : Int) := by omega
      by_cases he : l[k] = n
      · have heq : (n == l[k]) = true := by rw [beq_iff_eq]; exact he.symm
        have HE : Hid (idxI l n = (k : Int)) := by
          show _ = _
          have := idxFrom_snoc l n k hkl HNO.out he 0
          rw [Nat.zero_add] at this
          exact this
        clear he
        go_wp2_with fail
        go_ret
        exact ⟨rint HE.out.symm, rfl⟩
      · have heq : (n == l[k]) = false := by rw [beq_eq_false_iff_ne]; exact fun e => he e.symm
        have HE := Lib.hid he
        clear he
        go_wp2_with fail
        go_round
        case rel =>
          refine ⟨k + 1, by omega, by go_num, fun j h hj => ?_⟩
          by_cases hjk : j = k
          · subst hjk; exact HE.out
          · exact HNO.out j h (by omega)
        case measure => simp [intOf]; omega
    · obtain rfl : k = len := by omega
      have hd : decide ((k : Int) < (k : Int)) = false := by simp
      have HE : Hid (idxI l n = -1) := idxFrom_none l n (fun j hj => HNO.out j hj (by rw [← hll.out]; exact hj)) 0
      go_wp2_with fail
      go_ret
      exact ⟨rint HE.out.symm, rfl⟩
theorem contains_any (a : Option Addr) (len cap : Nat) (l : List Int) (n : Int) (w : World) (hl : IL w a len l) (hm : len ≤ 1000000) :
    Calls Try.prog 21 #[.slice a len cap, .int .i64 n] w fun e w' => e = .returned (.bool (hasB l n)) ∧ w = w' := by
  have HC := Lib.hid (index_any a len cap l n w hl hm)
  have HE : Hid (decide (0 ≤ idxI l n) = hasB l n) := by
    show _ = _
    unfold hasB idxI
    exact decide_eq_decide.2 (idxFrom_ge l 0 n)
  clear hl
  go_enter Try.func21, Try.ntmps21
  go_wp2_with fail
  refine HC.out.mono ?_
  rintro e w1 ⟨rfl, rfl⟩
  generalize idxI l n = x at *
  go_wp2_with fail
  go_ret
  exact ⟨rbool HE.out, rfl⟩
/-- are two lists the same? -/
def eqB (l m : List Int) : Bool := decide (l = m)
def Drew (w : World) (b : Bool) (e : Ending) (w' : World) : Prop := e = .returned (.bool b) ∧ ∃ n, w' = w.drewN n
theorem eqB_len {l m : List Int} (h : l.length ≠ m.length) : eqB l m = false := by
  unfold eqB; rw [decide_eq_false_iff_not]; rintro rfl; exact h rfl
theorem eqB_at {l m : List Int} {k : Nat} (h1 : k < l.length) (h2 : k < m.length) (h : l[k] ≠ m[k]) : eqB l m = false := by
  unfold eqB; rw [decide_eq_false_iff_not]; rintro rfl; exact h rfl
theorem eqB_all {l m : List Int} (hl : l.length = m.length) (h : ∀ j (h1 : j < l.length) (h2 : j < m.length), l[j] = m[j]) : eqB l m = true := by
  unfold eqB; rw [decide_eq_true_iff]; exact List.ext_getElem hl h
theorem equal_any (a b : Option Addr) (la lb ca cb : Nat) (l m : List Int) (w : World) (hl : IL w a la l) (hm : IL w b lb m) (ha : la ≤ 1000000) (hb : lb ≤ 1000000) :
    Calls Try.prog 24 #[.slice a la ca, .slice b lb cb] w (Drew w (eqB l m)) := by
  have HL := Lib.hid hl
  have HM := Lib.hid hm
  have hll := Lib.hid hl.len
  have hml := Lib.hid hm.len
  clear hl hm
  by_cases hne : la = lb
  · subst hne
    have hd0 : ((la : Int) != (la : Int)) = false := by simp
    go_enter Try.func24, Try.ntmps24
    go_wp2_with fail
    go_loopw [13] (fun i wr => ∃ k : Nat, k ≤ la ∧ i = .int .i64 k ∧ (∃ q, wr = w.drewN q) ∧ ∀ j (h1 : j < l.length) (h2 : j < m.length), j < k → l[j] = m[j]) (fun i _ => la - (intOf i).toNat)
    case atStart => exact ⟨0, by omega, rfl, ⟨0, rfl⟩, fun j h1 h2 h0 => by omega⟩
    case round =>
      obtain ⟨k, hk, rfl, ⟨q, rfl⟩, hno⟩ := hrel
      have HNO := Lib.hid hno
      clear hno
      by_cases hlt : k < la
      · have hd : decide ((k : Int) < (la : Int)) = true := by simp; omega
        have hkl : k < l.length := by rw [hll.out]; exact hlt
        have hkm : k < m.length := by rw [hml.out]; exact hlt
        obtain ⟨b1, o1, rfl, hc⟩ := HL.out.cell k hkl
        obtain ⟨b2, o2, rfl, hc2⟩ := HM.out.cell k hkm
        have c0 : (0 : Int) ≤ (k : Int) := by omega
        have c1 : (k : Int) < (la : Int) := by omega
        by_cases he : l[k] = m[k]
        · have heq : (l[k] != m[k]) = false := by rw [he]; simp
          have HE := Lib.hid he
          clear he
          go_wp2_with fail
          go_quiet (fail)
          go_wp2_with fail
          go_roundw
          case rel =>
            refine ⟨k + 1, by omega, by go_num, ⟨_, rfl⟩, fun j h1 h2 hj => ?_⟩
            by_cases hjk : j = k
            · subst hjk; exact HE.out
            · exact HNO.out j h1 h2 (by omega)
          case measure => simp [intOf]; omega
        · have heq : (l[k] != m[k]) = true := by rw [bne_iff_ne]; exact he
          have HE : Hid (eqB l m = false) := eqB_at hkl hkm he
          clear he
          go_wp2_with fail
          go_quiet (fail)
          go_wp2_with fail
          go_ret
          exact ⟨rbool HE.out.symm, by first | exact ⟨_, rfl⟩ | exact ⟨_, World.drewN_drewN _ _ _⟩⟩
      · obtain rfl : k = la := by omega
        have hd : decide ((k : Int) < (k : Int)) = false := by simp
        have HE : Hid (eqB l m = true) := eqB_all (hll.out.trans hml.out.symm) (fun j h1 h2 => HNO.out j h1 h2 (by rw [← hll.out]; exact h1))
        go_wp2_with fail
        go_ret
        exact ⟨rbool HE.out.symm, by first | exact ⟨_, rfl⟩ | exact ⟨_, World.drewN_drewN _ _ _⟩⟩
  · have hd0 : ((la : Int) != (lb : Int)) = true := by rw [bne_iff_ne]; omega
    have HE : Hid (eqB l m = false) := eqB_len (by rw [hll.out, hml.out]; exact hne)
    clear hne
    go_enter Try.func24, Try.ntmps24
    go_wp2_with fail
    go_ret
    exact ⟨rbool HE.out.symm, 0, rfl⟩
theorem ints_any (a b : Option Addr) (la lb ca cb : Nat) (l m : List Int) (w : World) (hl : IL w a la l) (hm : IL w b lb m) (ha : la ≤ 1000000) (hb : lb ≤ 1000000) :
    Calls Try.prog 25 #[.slice a la ca, .slice b lb cb] w (Drew w (eqB l m)) := by
  have HL := Lib.hid hl
  have HM := Lib.hid hm
  have hll := Lib.hid hl.len
  have hml := Lib.hid hm.len
  clear hl hm
  by_cases hne : la = lb
  · subst hne
    have hd0 : ((la : Int) != (la : Int)) = false := by simp
    go_enter Try.func25, Try.ntmps25
    go_wp2_with fail
    go_loopw [5] (fun i wr => ∃ k : Nat, k ≤ la ∧ i = .int .i64 k ∧ (∃ q, wr = w.drewN q) ∧ ∀ j (h1 : j < l.length) (h2 : j < m.length), j < k → l[j] = m[j]) (fun i _ => la - (intOf i).toNat)
    case atStart => exact ⟨0, by omega, rfl, ⟨0, rfl⟩, fun j h1 h2 h0 => by omega⟩
    case round =>
      obtain ⟨k, hk, rfl, ⟨q, rfl⟩, hno⟩ := hrel
      have HNO := Lib.hid hno
      clear hno
      by_cases hlt : k < la
      · have hd : decide ((k : Int) < (la : Int)) = true := by simp; omega
        have hkl : k < l.length := by rw [hll.out]; exact hlt
        have hkm : k < m.length := by rw [hml.out]; exact hlt
        obtain ⟨b1, o1, rfl, hc⟩ := HL.out.cell k hkl
        obtain ⟨b2, o2, rfl, hc2⟩ := HM.out.cell k hkm
        have c0 : (0 : Int) ≤ (k : Int) := by omega
        have c1 : (k : Int) < (la : Int) := by omega
        by_cases he : l[k] = m[k]
        · have heq : (l[k] != m[k]) = false := by rw [he]; simp
          have HE := Lib.hid he
          clear he
          go_wp2_with fail
          go_quiet (fail)
          go_wp2_with fail
          go_roundw
          case rel =>
            refine ⟨k + 1, by omega, by go_num, ⟨_, rfl⟩, fun j h1 h2 hj => ?_⟩
            by_cases hjk : j = k
            · subst hjk; exact HE.out
            · exact HNO.out j h1 h2 (by omega)
          case measure => simp [intOf]; omega
        · have heq : (l[k] != m[k]) = true := by rw [bne_iff_ne]; exact he
          have HE : Hid (eqB l m = false) := eqB_at hkl hkm he
          clear he
          go_wp2_with fail
          go_quiet (fail)
          go_wp2_with fail
          go_ret
          exact ⟨rbool HE.out.symm, by first | exact ⟨_, rfl⟩ | exact ⟨_, World.drewN_drewN _ _ _⟩⟩
      · obtain rfl : k = la := by omega
        have hd : decide ((k : Int) < (k : Int)) = false := by simp
        have HE : Hid (eqB l m = true) := eqB_all (hll.out.trans hml.out.symm) (fun j h1 h2 => HNO.out j h1 h2 (by rw [← hll.out]; exact h1))
        go_wp2_with fail
        go_ret
        exact ⟨rbool HE.out.symm, by first | exact ⟨_, rfl⟩ | exact ⟨_, World.drewN_drewN _ _ _⟩⟩
  · have hd0 : ((la : Int) != (lb : Int)) = true := by rw [bne_iff_ne]; omega
    have HE : Hid (eqB l m = false) := eqB_len (by rw [hll.out, hml.out]; exact hne)
    clear hne
    go_enter Try.func25, Try.ntmps25
    go_wp2_with fail
    go_ret
    exact ⟨rbool HE.out.symm, 0, rfl⟩
end Go.Proofs.Ytigkfjgmidnbhaa
