/-
  The walks of the program's check sum (crc.Over, crc.Of) and of the reference's.
-/
import Derived.Test.YtigkfjgmidnbhaaBase
import Derived.Lib.Hide
namespace Go.Proofs.Ytigkfjgmidnbhaa
open Go.RowKit
open CrcMath
theorem bnot (s : BitVec 32) : bits .xor .u32 IntKind.u32.max (s.toNat : Int) = ((~~~ s).toNat : Int) := by
  rw [show IntKind.u32.max = ((BitVec.allOnes 32).toNat : Int) by decide, bxor, BitVec.allOnes_xor]
theorem wrapU8 (n : Int) : IntKind.u8.wrap n = n % 256 := by simp [IntKind.wrap, IntKind.bits, IntKind.signed]
theorem bxor8 (a c : Nat) (ha : a < 256) (hc : c < 256) : bits .xor .u8 (a : Int) (c : Int) = ((a ^^^ c : Nat) : Int) ∧ a ^^^ c < 256 := by
  have hx : a ^^^ c < 2 ^ 8 := Nat.xor_lt_two_pow (by omega) (by omega)
  refine ⟨?_, hx⟩
  show IntKind.u8.wrap ((BitVec.ofInt 8 (a : Int) ^^^ BitVec.ofInt 8 (c : Int)).toNat : Int) = _
  have h1 : (BitVec.ofInt 8 (a : Int)).toNat = a := by
    rw [BitVec.ofInt_natCast, BitVec.toNat_ofNat]; exact Nat.mod_eq_of_lt (by omega)
  have h2 : (BitVec.ofInt 8 (c : Int)).toNat = c := by
    rw [BitVec.ofInt_natCast, BitVec.toNat_ofNat]; exact Nat.mod_eq_of_lt (by omega)
  rw [BitVec.toNat_xor, h1, h2, wrapU8]
  omega
theorem shr8 (a : BitVec 32) : (a.toNat : Int) / (256 : Int) = ((a >>> 8).toNat : Int) := by
  rw [BitVec.toNat_ushiftRight, Nat.shiftRight_eq_div_pow]; omega
set_option maxRecDepth 20000 in
theorem over_any (s : BitVec 32) (a : Option Addr) (len cap : Nat) (l : List Nat) (w : World) (hBL : BL w a len l) (hm : len ≤ 100000) :
    Calls Try.prog 11 #[.int .u32 s.toNat, .slice a len cap] w fun e w' => e = .returned (.int .u32 (over s l).toNat) ∧ Below w.heap.size w w' := by
  have hz := zero38
  have hs := s.isLt
  have hsz := tabA_size 256
  have hsz0 := tabA_size 0
  go_enter Try.func11, Try.ntmps11
  go_wp2_with (first | (go_at_call 19; refine (table_any _).mono ?_; rintro e w1 ⟨rfl, hb1⟩) | (refine wpList_store_new rfl 38 _ _ rfl (tabA 256) (tabA 0) rfl rfl (by rw [tabA_size]; kernel_rfl) (by rw [tabA_size, tabA_size]) (tabA_one 256) ?_))
  go_loop [14, 6] (fun i x => ∃ k : Nat, k ≤ len ∧ i = .int .i64 k ∧ x = .int .u32 (run (~~~ s) (l.take k)).toNat) (fun i _ => len - (intOf i).toNat)
  case atStart => exact ⟨0, by omega, rfl, by rw [bnot]; rfl⟩
  case round =>
    obtain ⟨k, hk, rfl, rfl⟩ := hrel
    have hl := hBL.len
    by_cases hlt : k < len
    · have hc := hBL.below hb1
      obtain ⟨b, off, rfl, hcell⟩ := hc.cell k (by omega)
      have hbl := block_lt_of_cell hcell
      simp only [] at hbl
      have hx := (run (~~~ s) (l.take k)).isLt
      have h8 := hBL.lt k (by omega)
      have hd : decide ((k : Int) < (len : Int)) = true := by simp; omega
      have hrun : run (~~~ s) (l.take (k + 1)) = byt (run (~~~ s) (l.take k)) l[k] := by
        rw [List.take_succ_eq_append_getElem (by omega), run_append]; rfl
      have HR := Lib.hid hrun
      clear hrun
      generalize l[k] = c at *
      generalize run (~~~ s) (l.take k) = x at *
      clear hz hsz hsz0 hl
      obtain ⟨hb8', hj⟩ := bxor8 (x.toNat % 256) c (by omega) h8
      have hb8 : bits .xor .u8 ((x.toNat : Int) % (256 : Int)) (c : Int) = ((x.toNat % 256 ^^^ c : Nat) : Int) := hb8'
      clear hb8'
      have hT : (tabA 256)[x.toNat % 256 ^^^ c]? = some (.int .u32 (tab (x.toNat % 256 ^^^ c)).toNat) := by rw [tabA_get _ _ hj, if_pos hj]
      have HB : Hid (byt x c = (x >>> 8) ^^^ tab (x.toNat % 256 ^^^ c)) := byt_tab x c h8
      generalize x.toNat % 256 ^^^ c = j at *
      go_wp2_with fail
      go_round
      case rel => exact ⟨k + 1, by omega, by go_num, by rw [HR.out, HB.out, shr8, bxor]⟩
      case measure => simp [intOf]; omega
    · obtain rfl : k = len := by omega
      have hd : decide ((k : Int) < (k : Int)) = false := by simp
      have HR : Hid (run (~~~ s) (l.take k) = run (~~~ s) l) := by rw [List.take_of_length_le (by omega)]; rfl
      clear hl
      go_wp2_with fail
      go_ret
      refine ⟨ret_int (by rw [HR.out, bnot]; rfl), ?_⟩
      exact hb1.trans ((Below.refl _ _).alloc hb1.size _)
theorem of_any (a : Option Addr) (len cap : Nat) (l : List Nat) (w : World) (hBL : BL w a len l) (hm : len ≤ 100000) :
    Calls Try.prog 10 #[.slice a len cap] w fun e w' => e = .returned (.int .u32 (over 0#32 l).toNat) ∧ Below w.heap.size w w' := by
  have HO : Calls Try.prog 11 #[.int .u32 0, .slice a len cap] w fun e w' => e = .returned (.int .u32 (over 0#32 l).toNat) ∧ Below w.heap.size w w' := over_any 0#32 a len cap l w hBL hm
  have HH := Lib.hid HO
  clear HO
  go_enter Try.func10, Try.ntmps10
  go_wp2_with (go_at_call 11; refine HH.out.mono ?_; rintro e w1 ⟨rfl, hb1⟩)
  go_ret
  exact ⟨rfl, hb1⟩
theorem refstep_any (b : BitVec 32) (w : World) :
    Calls Try.prog 20 #[.int .u32 b.toNat] w fun e w' => e = .returned (.int .u32 (stp b).toNat) ∧ w = w' := by
  have hb := b.isLt
  have e0 : b.getLsbD 0 = decide (b.toNat % 2 = 1) := by rw [BitVec.getLsbD, Nat.testBit_zero]
  by_cases h0 : b.toNat % 2 = 1
  · have ht : ((b.toNat : Int) % 2 == 1) = true := by rw [beq_iff_eq]; omega
    have HE := Lib.hid e0
    clear e0
    go_enter Try.func20, Try.ntmps20
    go_wp2
    go_ret
    exact ⟨ret_int (by rw [shr1, poly, stp, HE.out, decide_eq_true h0]; rfl), rfl⟩
  · have ht : ((b.toNat : Int) % 2 == 1) = false := by rw [beq_eq_false_iff_ne]; omega
    have HE := Lib.hid e0
    clear e0
    go_enter Try.func20, Try.ntmps20
    go_wp2
    go_ret
    exact ⟨ret_int (by rw [shr1, stp, HE.out, decide_eq_false h0]; rfl), rfl⟩
theorem subnot (s : BitVec 32) : (4294967295 : Int) - (s.toNat : Int) = ((~~~ s).toNat : Int) := by
  rw [BitVec.toNat_not]; have := s.isLt; omega
set_option maxRecDepth 20000 in
theorem refover_any (s : BitVec 32) (a : Option Addr) (len cap : Nat) (l : List Nat) (w : World) (hBL : BL w a len l) (hm : len ≤ 100000) :
    Calls Try.prog 13 #[.int .u32 s.toNat, .slice a len cap] w fun e w' => e = .returned (.int .u32 (over s l).toNat) ∧ w = w' := by
  have hs := s.isLt
  have hl := hBL.len
  go_enter Try.func13, Try.ntmps13
  go_wp2_with fail
  go_loop [6, 5] (fun i x => ∃ k : Nat, k ≤ len ∧ i = .int .i64 k ∧ x = .int .u32 (run (~~~ s) (l.take k)).toNat) (fun i _ => len - (intOf i).toNat)
  case atStart => exact ⟨0, by omega, rfl, by rw [subnot]; rfl⟩
  case round =>
    obtain ⟨k, hk, rfl, rfl⟩ := hrel
    by_cases hlt : k < len
    · obtain ⟨b, off, rfl, hcell⟩ := hBL.cell k (by omega)
      have hx := (run (~~~ s) (l.take k)).isLt
      have h8 := hBL.lt k (by omega)
      have hd : decide ((k : Int) < (len : Int)) = true := by simp; omega
      have hrun : run (~~~ s) (l.take (k + 1)) = byt (run (~~~ s) (l.take k)) l[k] := by
        rw [List.take_succ_eq_append_getElem (by omega), run_append]; rfl
      have HR := Lib.hid hrun
      clear hrun
      generalize l[k] = c at *
      generalize run (~~~ s) (l.take k) = x at *
      have HB : Hid (bits .xor .u32 (x.toNat : Int) (c : Int) = ((x ^^^ BitVec.ofNat 32 c).toNat : Int)) := by
        have := bxor x (BitVec.ofNat 32 c)
        rwa [show ((BitVec.ofNat 32 c).toNat : Int) = (c : Int) by rw [BitVec.toNat_ofNat]; omega] at this
      clear hl
      go_wp2_with fail
      go_loop [7, 5] (fun j y => ∃ m : Nat, m ≤ 8 ∧ j = .int .i64 m ∧ y = .int .u32 (stpN m (x ^^^ BitVec.ofNat 32 c)).toNat) (fun j _ => 8 - (intOf j).toNat)
      case atStart => exact ⟨0, by omega, rfl, by rw [HB.out]; rfl⟩
      case round =>
        obtain ⟨m, hm8, rfl, rfl⟩ := hrel
        by_cases hlm : m < 8
        · have hdm : decide ((m : Int) < 8) = true := by simp; omega
          go_wp2_with (go_at_call 20; refine (refstep_any _ _).mono ?_; rintro e w' ⟨rfl, rfl⟩)
          go_round
          case rel => exact ⟨m + 1, by omega, by go_num, by rw [stpN_succ']⟩
          case measure => simp [intOf]; omega
        · obtain rfl : m = 8 := by omega
          go_wp2_with fail
          go_round
          case rel => exact ⟨k + 1, by omega, by go_num, by rw [HR.out]; rfl⟩
          case measure => simp [intOf]; omega
    · obtain rfl : k = len := by omega
      have hd : decide ((k : Int) < (k : Int)) = false := by simp
      have HR : Hid (run (~~~ s) (l.take k) = run (~~~ s) l) := by rw [List.take_of_length_le (by omega)]; rfl
      have hx := (run (~~~ s) (l.take k)).isLt
      clear hl
      go_wp2_with fail
      go_ret
      exact ⟨ret_int (by rw [HR.out, subnot]; rfl), rfl⟩
theorem refof_any (a : Option Addr) (len cap : Nat) (l : List Nat) (w : World) (hBL : BL w a len l) (hm : len ≤ 100000) :
    Calls Try.prog 12 #[.slice a len cap] w fun e w' => e = .returned (.int .u32 (over 0#32 l).toNat) ∧ w = w' := by
  have HO : Calls Try.prog 13 #[.int .u32 0, .slice a len cap] w fun e w' => e = .returned (.int .u32 (over 0#32 l).toNat) ∧ w = w' := refover_any 0#32 a len cap l w hBL hm
  have HH := Lib.hid HO
  clear HO
  go_enter Try.func12, Try.ntmps12
  go_wp2_with (go_at_call 13; refine HH.out.mono ?_; rintro e w1 ⟨rfl, rfl⟩)
  go_ret
  exact ⟨rfl, rfl⟩
end Go.Proofs.Ytigkfjgmidnbhaa
