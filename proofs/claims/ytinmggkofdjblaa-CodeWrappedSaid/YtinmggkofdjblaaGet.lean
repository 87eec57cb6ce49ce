/-
  code.Get, walked.
-/
import Derived.Test.YtinmggkofdjblaaBytes
namespace Go.Proofs.Ytinmggkofdjblaa
open Go.RowKit
open CodeMath
/-- what Get says of the bytes from its place on: the number, and how many bytes it takes -/
def scan : Nat → Nat → List Nat → Option (Nat × Nat)
  | _, _, [] => none
  | i, acc, c :: r =>
    if i = 5 then none
    else if 128 ≤ c then scan (i + 1) (acc + c % 128 * 128 ^ i) r
    else if (c = 0 ∧ 0 < i) ∨ 2147483647 < acc + c % 128 * 128 ^ i then none
    else some (acc + c % 128 * 128 ^ i, i + 1)
def getS (l : List Nat) (p : Nat) : Nat × Nat × Int :=
  match scan 0 0 (l.drop p) with
  | some (n, m) => (n, p + m, 0)
  | none => (0, 0, 8)
def GetPost (w : World) (r : Nat × Nat × Int) (e : Ending) (w' : World) : Prop := e = .returned (.tuple #[.int .i64 (r.1 : Int), .int .i64 (r.2.1 : Int), .int .i64 r.2.2]) ∧ w = w'
theorem get_arg (a : Option Addr) (len cap : Nat) (at_ : Int) (w : World) (h : at_ < 0 ∨ (len : Int) < at_) :
    Calls Try.prog 12 #[.slice a len cap, .int .i64 at_] w (GetPost w (0, 0, 2)) := by
  by_cases h0 : at_ < 0
  · have h1 : decide (at_ < 0) = true := by simp; omega
    go_enter Try.func12, Try.ntmps12
    go_wp2
    go_ret3
    exact ⟨rfl, rfl⟩
  · have h1 : decide (at_ < 0) = false := by simp; omega
    have h2 : decide ((len : Int) < at_) = true := by simp; omega
    go_enter Try.func12, Try.ntmps12
    go_wp2
    go_ret3
    exact ⟨rfl, rfl⟩
theorem get_end (a : Option Addr) (len cap : Nat) (w : World) (hm : len ≤ 1000000) (hcap : len ≤ cap) :
    Calls Try.prog 12 #[.slice a len cap, .int .i64 (len : Int)] w (GetPost w (0, 0, 8)) := by
  have h1 : decide ((len : Int) < 0) = false := by simp
  have h2 : decide ((len : Int) < (len : Int)) = false := by simp
  by_cases hc : cap = len
  · subst hc
    go_enter Try.func12, Try.ntmps12
    go_wp2_with fail
    refine wp_loop_rounds 1 ?_
    rw [rounds_succ]
    go_wp2
    go_ret3
    exact ⟨rfl, rfl⟩
  · go_enter Try.func12, Try.ntmps12
    go_wp2_with fail
    refine wp_loop_rounds 1 ?_
    rw [rounds_succ]
    go_wp2
    go_ret3
    exact ⟨rfl, rfl⟩
theorem and127 (c : Nat) (h : c < 256) : bits .and .u8 (c : Int) 127 = ((c % 128 : Nat) : Int) := by
  have : ∀ m : Fin 256, bits .and .u8 ((m.val : Nat) : Int) 127 = ((m.val % 128 : Nat) : Int) := by decide +kernel
  exact this ⟨c, h⟩
theorem or_add (acc c k : Nat) (hk : k ≤ 4) (ha : acc < 128 ^ k) : bits .or .i64 (acc : Int) (wrap64 ((c : Int) % 128 * 2 ^ (7 * k))) = ((acc + c % 128 * 128 ^ k : Nat) : Int) ∧ acc + c % 128 * 128 ^ k < 128 ^ (k + 1) := by
  have hc : c % 128 < 128 := Nat.mod_lt _ (by decide)
  have hp : (2 : Nat) ^ (7 * k) = 128 ^ k := by rw [Nat.pow_mul]
  have hb : 128 ^ k ≤ 268435456 := Nat.le_trans (Nat.pow_le_pow_right (by decide) hk) (by decide)
  have hs : 128 ^ (k + 1) = 128 ^ k * 128 := Nat.pow_succ ..
  have e1 : ((c : Int) % 128 * 2 ^ (7 * k)) = ((c % 128 * 128 ^ k : Nat) : Int) := by
    rw [← hp]; simp
  have hx : c % 128 * 128 ^ k ≤ 127 * 128 ^ k := Nat.mul_le_mul_right _ (by omega)
  have hsum : acc + c % 128 * 128 ^ k < 128 ^ (k + 1) := by rw [hs]; omega
  refine ⟨?_, hsum⟩
  rw [e1]
  have hor : acc ||| c % 128 * 128 ^ k = acc + c % 128 * 128 ^ k := by
    have := Nat.shiftLeft_add_eq_or_of_lt (b := acc) (i := 7 * k) (by rw [hp]; exact ha) (c % 128)
    rw [Nat.shiftLeft_eq, hp] at this
    rw [Nat.or_comm, ← this, Nat.add_comm]
  generalize c % 128 * 128 ^ k = x at *
  have hxl : x < 34359738368 := by omega
  rw [IntWalk.wrap64_in _ ⟨by omega, by omega⟩]
  show IntKind.i64.wrap ((BitVec.ofInt 64 (acc : Int) ||| BitVec.ofInt 64 (x : Int)).toNat : Int) = _
  have h1 : (BitVec.ofInt 64 (acc : Int)).toNat = acc := by
    rw [BitVec.ofInt_natCast, BitVec.toNat_ofNat]; exact Nat.mod_eq_of_lt (by omega)
  have h2 : (BitVec.ofInt 64 (x : Int)).toNat = x := by
    rw [BitVec.ofInt_natCast, BitVec.toNat_ofNat]; exact Nat.mod_eq_of_lt (by omega)
  rw [BitVec.toNat_or, h1, h2, hor, IntKind.wrap_i64]
  omega
theorem get_any (b off cap p m : Nat) (l : List Nat) (w : World) (hBL : BL w (some ⟨b, off, none⟩) (p + m) l) (hm : p + m ≤ 1000000) (hp : 0 < m) (hcap : p + m ≤ cap) :
    Calls Try.prog 12 #[.slice (some ⟨b, off, none⟩) (p + m : Nat) cap, .int .i64 (p : Int)] w (GetPost w (getS l p)) := by
  have h1 : decide ((p : Int) < 0) = false := by simp
  have h2 : decide (((p + m : Nat) : Int) < (p : Int)) = false := by simp; omega
  have h3 : ¬ cap = p := by omega
  have hlen := Lib.hid hBL.len
  obtain ⟨r, hr⟩ : ∃ r, l.drop p = r := ⟨_, rfl⟩
  have hrl : r.length = m := by rw [← hr, List.length_drop, hlen.out]; omega
  have hrc : ∀ k (h : k < r.length), r[k] < 256 ∧ w.cell? ⟨b, off + p + k, none⟩ = some (.int .u8 (r[k] : Int)) := by
    intro k hk
    obtain ⟨b', off', e, hc⟩ := hBL.cell (p + k) (by rw [hlen.out]; omega)
    cases e
    have e2 : r[k] = l[p + k]'(by rw [hlen.out]; omega) := by subst hr; exact List.getElem_drop
    rw [e2, Nat.add_assoc]
    exact ⟨hBL.lt _ _, hc⟩
  have HRL := Lib.hid hrl
  have HRC := Lib.hid hrc
  have HR := Lib.hid hr
  clear hrl hrc hr
  have hlen2 : p + m - p = m := by omega
  go_enter Try.func12, Try.ntmps12
  go_wp2_with fail
  go_loop [21, 4] (fun i n => ∃ k acc : Nat, k ≤ m ∧ k ≤ 5 ∧ i = .int .i64 k ∧ n = .int .i64 acc ∧ acc < 128 ^ k ∧ scan 0 0 r = scan k acc (r.drop k)) (fun i _ => m - (intOf i).toNat)
  case atStart => exact ⟨0, 0, by omega, by omega, rfl, rfl, by simp, rfl⟩
  case round =>
    obtain ⟨k, acc, hk, hk5, rfl, rfl, hacc, hsc⟩ := hrel
    have HS := Lib.hid hsc
    have HA := Lib.hid hacc
    clear hsc hacc
    by_cases hlt : k < m
    · have hd : decide ((k : Int) < (m : Int)) = true := by simp; omega
      obtain ⟨hc8, hcell⟩ := HRC.out k (by rw [HRL.out]; exact hlt)
      have hdrop : r.drop k = r[k]'(by rw [HRL.out]; exact hlt) :: r.drop (k + 1) := List.drop_eq_getElem_cons _
      have HD := Lib.hid hdrop
      clear hdrop
      generalize r[k]'(by rw [HRL.out]; exact hlt) = c at *
      by_cases h5 : k = 5
      · subst h5
        go_wp2_with fail
        go_ret3
        refine ⟨?_, rfl⟩
        have e : getS l p = (0, 0, 8) := by unfold getS; rw [HR.out, HS.out, HD.out, scan, if_pos rfl]
        rw [e]
        rfl
      · have hk4 : k ≤ 4 := by omega
        have hd5 : ((k : Int) == 5) = false := by rw [beq_eq_false_iff_ne]; omega
        have ha := and127 c hc8
        obtain ⟨hor, hsum⟩ := or_add acc c k hk4 HA.out
        have hsc2 : scan k acc (c :: r.drop (k + 1)) = if 128 ≤ c then scan (k + 1) (acc + c % 128 * 128 ^ k) (r.drop (k + 1)) else if (c = 0 ∧ 0 < k) ∨ 2147483647 < acc + c % 128 * 128 ^ k then none else some (acc + c % 128 * 128 ^ k, k + 1) := by
          rw [scan, if_neg h5]
        rw [← HD.out] at hsc2
        have HS2 := Lib.hid hsc2
        have HSUM := Lib.hid hsum
        clear hsc2 hsum
        have hxb : acc + c % 128 * 128 ^ k < 34359738368 := Nat.lt_of_lt_of_le HSUM.out (Nat.le_trans (Nat.pow_le_pow_right (by decide) (by omega : k + 1 ≤ 5)) (by decide))
        generalize acc + c % 128 * 128 ^ k = x at *
        by_cases h128 : 128 ≤ c
        · have hd8 : decide ((128 : Int) ≤ (c : Int)) = true := by simp; omega
          go_wp2_with fail
          go_round
          case rel => exact ⟨k + 1, x, by omega, by omega, by go_num, rfl, HSUM.out, by rw [HS.out, HS2.out, if_pos h128]⟩
          case measure => simp [intOf]; omega
        · have hd8 : decide ((128 : Int) ≤ (c : Int)) = false := by simp; omega
          by_cases hbad : c = 0 ∧ 0 < k
          · have e : getS l p = (0, 0, 8) := by unfold getS; rw [HR.out, HS.out, HS2.out, if_neg h128, if_pos (.inl hbad)]
            have hc0 : ((c : Int) == 0) = true := by rw [beq_iff_eq]; omega
            have hk0 : decide ((0 : Int) < (k : Int)) = true := by simp; omega
            have hE := Lib.hid e
            clear e
            obtain ⟨rfl, hkk⟩ := hbad
            go_wp2_with fail
            go_ret3
            refine ⟨?_, rfl⟩
            rw [hE.out]
            rfl
          · by_cases hx : 2147483647 < x
            · have e : getS l p = (0, 0, 8) := by unfold getS; rw [HR.out, HS.out, HS2.out, if_neg h128, if_pos (.inr hx)]
              have hE := Lib.hid e
              clear e
              have hdx : decide ((2147483647 : Int) < (x : Int)) = true := by simp; omega
              by_cases hc : c = 0
              · have hkz : k = 0 := by omega
                have HKZ := Lib.hid hkz
                have hk0 : decide ((0 : Int) < (k : Int)) = false := by simp; omega
                have hc0 : ((c : Int) == 0) = true := by rw [beq_iff_eq]; omega
                clear hkz hc hbad
                go_wp2_with fail
                go_ret3
                refine ⟨?_, rfl⟩
                rw [hE.out]
                rfl
              · have hc0 : ((c : Int) == 0) = false := by rw [beq_eq_false_iff_ne]; omega
                clear hc hbad
                go_wp2_with fail
                go_ret3
                refine ⟨?_, rfl⟩
                rw [hE.out]
                rfl
            · have e : getS l p = (x, p + (k + 1), 0) := by unfold getS; rw [HR.out, HS.out, HS2.out, if_neg h128, if_neg (by intro hh; rcases hh with hh | hh; exact hbad hh; exact hx hh)]
              have hE := Lib.hid e
              clear e
              have hdx : decide ((2147483647 : Int) < (x : Int)) = false := by simp; omega
              by_cases hc : c = 0
              · have hkz : k = 0 := by omega
                have HKZ := Lib.hid hkz
                have hk0 : decide ((0 : Int) < (k : Int)) = false := by simp; omega
                have hc0 : ((c : Int) == 0) = true := by rw [beq_iff_eq]; omega
                clear hkz hc hbad
                go_wp2_with fail
                go_ret3
                refine ⟨?_, rfl⟩
                rw [hE.out, HKZ.out, show ((p + (0 + 1) : Nat) : Int) = (p : Int) + 1 by omega]
                rfl
              · have hc0 : ((c : Int) == 0) = false := by rw [beq_eq_false_iff_ne]; omega
                clear hc hbad
                go_wp2_with fail
                go_ret3
                refine ⟨?_, rfl⟩
                rw [hE.out, show ((p + (k + 1) : Nat) : Int) = (p : Int) + (k : Int) + 1 by omega]
                rfl
    · obtain rfl : k = m := by omega
      have hd : decide ((k : Int) < (k : Int)) = false := by simp
      have e : getS l p = (0, 0, 8) := by
        unfold getS; rw [HR.out, HS.out, List.drop_of_length_le (by rw [HRL.out]; exact Nat.le_refl _)]; cases k <;> rfl
      have hE := Lib.hid e
      clear e
      go_wp2_with fail
      go_ret3
      refine ⟨?_, rfl⟩
      rw [hE.out]
      rfl
end Go.Proofs.Ytinmggkofdjblaa
