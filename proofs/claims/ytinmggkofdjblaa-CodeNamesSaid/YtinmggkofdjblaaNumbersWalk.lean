/-
  Put and Get of the program and of the reference by one contract each; the walk of the law CodeNumbers.
-/
import Derived.Test.YtinmggkofdjblaaRefGet
namespace Go.Proofs.Ytinmggkofdjblaa
open Go.RowKit
open CodeMath
abbrev putOk (n : Int) : Prop := 0 ≤ n ∧ n ≤ 2147483647
def putL (n : Int) : List Nat := if putOk n then digs n.toNat else []
def putE (n : Int) : Int := if putOk n then 0 else 2
def PutU (w : World) (n : Int) (e : Ending) (w' : World) : Prop :=
  ∃ a len cap, e = .returned (.tuple #[.slice a len cap, .int .i64 (putE n)]) ∧ BL w' a len (putL n) ∧ (a = none → cap = 0) ∧ Below w.heap.size w w'
theorem putU_of {w : World} {n : Int} {e : Ending} {w' : World} (h : putOk n) (hp : PutPost w n.toNat e w') : PutU w n e w' := by
  obtain ⟨v, he, hown, hb⟩ := hp
  obtain ⟨g, cap, rfl, hB, _⟩ := own_slice hown (digs_pos _) (digs_byte _)
  exact ⟨some ⟨g, 0, none⟩, _, cap, by rw [putE, if_pos h]; exact he, by rw [putL, if_pos h]; exact hB, (fun e => nomatch e), hb⟩
theorem putU_no {w : World} {n : Int} {e : Ending} {w' : World} (h : ¬ putOk n) (hp : e = .returned (.tuple #[.slice none 0 0, .int .i64 2]) ∧ w = w') : PutU w n e w' := by
  obtain ⟨rfl, rfl⟩ := hp
  exact ⟨none, 0, 0, by rw [putE, if_neg h], by rw [putL, if_neg h]; exact BL.nil _, fun _ => rfl, Below.refl _ _⟩
theorem put_u (n : Int) (w : World) : Calls Try.prog 10 #[.int .i64 n] w (PutU w n) := by
  by_cases h : putOk n
  · have := put_any n.toNat w (by have := h.2; omega)
    rw [Int.toNat_of_nonneg h.1] at this
    exact this.mono fun e w' hp => putU_of h hp
  · exact (put_no n w (by unfold putOk at h; omega)).mono fun e w' hp => putU_no h hp
theorem refput_u (n : Int) (w : World) : Calls Try.prog 11 #[.int .i64 n] w (PutU w n) := by
  by_cases h : putOk n
  · have := refput_any n.toNat w (by have := h.2; omega)
    rw [Int.toNat_of_nonneg h.1] at this
    exact this.mono fun e w' hp => putU_of h hp
  · exact (refput_no n w (by unfold putOk at h; omega)).mono fun e w' hp => putU_no h hp
def getU (l : List Nat) (p : Int) : Nat × Nat × Int := if 0 ≤ p ∧ p ≤ l.length then getS l p.toNat else (0, 0, 2)
theorem getS_end (l : List Nat) : getS l l.length = (0, 0, 8) := by
  unfold getS; rw [List.drop_of_length_le (Nat.le_refl _), scan]
theorem get_u (a : Option Addr) (len cap : Nat) (l : List Nat) (p : Int) (w : World) (hBL : BL w a len l) (hm : len ≤ 1000000) (hcap : len ≤ cap) :
    Calls Try.prog 12 #[.slice a len cap, .int .i64 p] w (GetPost w (getU l p)) := by
  by_cases h : 0 ≤ p ∧ p ≤ l.length
  · have hl := hBL.len
    obtain ⟨q, rfl⟩ := Int.eq_ofNat_of_zero_le h.1
    rw [getU, if_pos h, Int.toNat_natCast]
    by_cases he : q = len
    · subst he
      rw [← hl, getS_end, hl]
      exact get_end a q cap w hm hcap
    · obtain ⟨m, rfl⟩ : ∃ m, len = q + m := ⟨len - q, by omega⟩
      obtain ⟨b, off, rfl, _⟩ := hBL.cell 0 (by omega)
      exact get_any b off cap q m l w hBL hm (by omega) hcap
  · rw [getU, if_neg h]
    exact get_arg a len cap p w (by have := hBL.len; omega)
theorem refget_u (a : Option Addr) (len cap : Nat) (l : List Nat) (p : Int) (w : World) (hBL : BL w a len l) (hm : len ≤ 1000000) (hcap : len ≤ cap) :
    Calls Try.prog 13 #[.slice a len cap, .int .i64 p] w (RGPost w (getU l p)) := by
  by_cases h : 0 ≤ p ∧ p ≤ l.length
  · have hl := hBL.len
    obtain ⟨q, rfl⟩ := Int.eq_ofNat_of_zero_le h.1
    rw [getU, if_pos h, Int.toNat_natCast]
    obtain ⟨m, rfl⟩ : ∃ m, len = q + m := ⟨len - q, by omega⟩
    exact refget_any a cap q m l w hBL hm hcap
  · rw [getU, if_neg h]
    exact refget_arg a len cap p w (by have := hBL.len; omega)
theorem BL.lecap {w : World} {a : Option Addr} {len cap : Nat} {zs : List Int}
    (h : (a = none ∧ len = 0 ∧ cap = 0 ∧ zs = []) ∨
      ∃ x, a = some x ∧ len ≤ cap ∧ cap ≤ maxLen ∧ zs.length = cap ∧ (∀ i, i < zs.length → w.cell? (x.add i) = some (.int .u8 (zs.getD i 0))) ∧ ∀ n ∈ zs, (Lit.int .u8 n).wf = true) :
    len ≤ cap := by
  rcases h with ⟨rfl, rfl, rfl, rfl⟩ | ⟨x, rfl, hl, _⟩
  · exact Nat.le_refl _
  · exact hl
set_option maxRecDepth 20000 in
theorem numbers_any (n : Int) (a : Option Addr) (len cap : Nat) (p : Int) (l : List Nat) (w : World) (hBL : BL w a len l) (hcap : len ≤ cap) :
    Calls Try.prog 4 #[.int .i64 n, .slice a len cap, .int .i64 p] w fun e w' => e = .returned (.bool true) ∧ Below w.heap.size w w' := by
  by_cases hm : 10000 < len
  · have hd : decide ((10000 : Int) < (len : Int)) = true := by simp; omega
    go_enter Try.func4, Try.ntmps4
    go_wp2_with fail
    go_ret
    exact ⟨rfl, Below.refl _ _⟩
  · have hd : decide ((10000 : Int) < (len : Int)) = false := by simp; omega
    have hcv := BL.str hBL cap
    have HB : Hid (∀ w', Below w.heap.size w w' → BL w' a len l) := fun w' h => hBL.below h
    clear hBL
    go_enter Try.func4, Try.ntmps4
    go_wp2_with fail
    refine (put_u n _).mono ?_
    rintro e w1 ⟨a1, len1, cap1, rfl, hB1, _, hb1⟩
    go_wp2_with fail
    refine (refput_u n _).mono ?_
    rintro e w2 ⟨a2, len2, cap2, rfl, hB2, _, hb2⟩
    have k2 : Below w.heap.size w w2 := hb1.trans (hb2.mono hb1.size)
    have hB12 := hB1.below hb2
    clear hB1
    go_wp2_with fail
    refine (get_u a len cap l p _ (HB.out _ k2) (by omega) hcap).mono ?_
    rintro e w3 ⟨rfl, rfl⟩
    go_wp2_with fail
    refine (refget_u a len cap l p _ (HB.out _ k2) (by omega) hcap).mono ?_
    rintro e w3 ⟨rfl, hb3⟩
    have k3 : Below w.heap.size w w3 := k2.trans (hb3.mono k2.size)
    have hx := BL.str (hB12.below hb3) cap1
    have hy := BL.str (hB2.below hb3) cap2
    have hz := BL.str (HB.out _ k3) cap
    clear hB12 hB2
    go_wp2_with fail
    go_ret
    exact ⟨rfl, k3⟩
end Go.Proofs.Ytinmggkofdjblaa
