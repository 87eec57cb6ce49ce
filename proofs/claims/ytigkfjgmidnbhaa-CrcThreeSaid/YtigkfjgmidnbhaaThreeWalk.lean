/-
  The walk of the law CrcThree.
-/
import Derived.Test.YtigkfjgmidnbhaaPartsWalk
import Derived.BigRegion
namespace Go.Proofs.Ytigkfjgmidnbhaa
open Go.RowKit
open CrcMath
def arr (l : List Nat) (n k : Nat) : Array Value := (byv (l.take k) ++ List.replicate (n - k) (Value.int .u8 0)).toArray
theorem arr_size (l : List Nat) (n k : Nat) (h : l.length = n) (hk : k ≤ n) : (arr l n k).size = n := by
  unfold arr byv; simp; omega
theorem arr_set (l : List Nat) (n k : Nat) (h : l.length = n) (hk : k < n) : (arr l n k).setIfInBounds k (.int .u8 ((l[k]'(by omega) : Nat) : Int)) = arr l n (k + 1) := by
  apply Array.ext'
  unfold arr
  simp only [Array.toList_setIfInBounds]
  have e : List.replicate (n - k) (Value.int .u8 0) = .int .u8 0 :: List.replicate (n - (k + 1)) (.int .u8 0) := by
    rw [show n - k = (n - (k + 1)) + 1 by omega, List.replicate_succ]
  have hl : (byv (l.take k)).length = k := by unfold byv; simp; omega
  rw [e, List.set_append_right _ _ (by omega), hl, Nat.sub_self, List.set_cons_zero, List.take_succ_eq_append_getElem (by omega), byv_append, List.append_assoc]
  rfl
theorem arr_get (l : List Nat) (n k : Nat) (h : l.length = n) (hk : k < n) : (arr l n k)[k]? = some (.int .u8 0) := by
  unfold arr
  have hl : (byv (l.take k)).length = k := by unfold byv; simp; omega
  rw [List.getElem?_toArray, List.getElem?_append_right (by omega), hl, Nat.sub_self, List.getElem?_replicate, if_pos (by omega)]
attribute [irreducible] arr
theorem madeArr (l : List Nat) (n : Nat) : madeCells (Value.cells (.int .u8 0)) (n * 1) = arr l n 0 := by
  apply Array.ext
  · unfold arr; simp [size_madeCells, byv]
  · intro i h1 h2
    unfold arr
    simp [madeCells, Value.cells, byv, Nat.mod_one]
theorem xor3_length (l m n : List Nat) (h1 : m.length = l.length) (h2 : n.length = l.length) : (xor3 l m n).length = l.length := by
  induction l generalizing m n with
  | nil => rfl
  | cons a l ih =>
    match m, n, h1, h2 with
    | b :: m, c :: n, h1, h2 => rw [xor3, List.length_cons, List.length_cons, ih m n (by simpa using h1) (by simpa using h2)]
theorem xor3_get (l m n : List Nat) (h1 : m.length = l.length) (h2 : n.length = l.length) (i : Nat) (h : i < (xor3 l m n).length) (a : i < l.length) (b : i < m.length) (c : i < n.length) :
    (xor3 l m n)[i] = l[i] ^^^ m[i] ^^^ n[i] := by
  induction l generalizing m n i with
  | nil => simp at a
  | cons x l ih =>
    match m, n, h1, h2 with
    | y :: m, z :: n, h1, h2 =>
      cases i with
      | zero => rfl
      | succ i => exact ih m n (by simpa using h1) (by simpa using h2) i (by simpa [xor3] using h) (by simpa using a) (by simpa using b) (by simpa using c)
theorem xor3_lt (l m n : List Nat) (h1 : m.length = l.length) (h2 : n.length = l.length) (a : ∀ i (h : i < l.length), l[i] < 256) (b : ∀ i (h : i < m.length), m[i] < 256) (c : ∀ i (h : i < n.length), n[i] < 256) :
    ∀ i (h : i < (xor3 l m n).length), (xor3 l m n)[i] < 256 := by
  intro i h
  have hl := xor3_length l m n h1 h2
  rw [xor3_get l m n h1 h2 i h (by omega) (by omega) (by omega)]
  have e1 : l[i] < 2 ^ 8 := a i (by omega)
  have e2 : m[i] < 2 ^ 8 := b i (by omega)
  have e3 : n[i] < 2 ^ 8 := c i (by omega)
  exact Nat.xor_lt_two_pow (Nat.xor_lt_two_pow e1 e2) e3
theorem BL.arr {w : World} {l : List Nat} {n : Nat} (h : l.length = n) (hl : ∀ i (h : i < l.length), l[i] < 256) : BL (w.alloc (.cells (arr l n n) 5)) (some ⟨w.heap.size, 0, none⟩) n l := by
  have := BL.lit (w := w.alloc (.cells (Ytigkfjgmidnbhaa.arr l n n) 5)) (l := l) (heap_alloc_new w _) (fun x hx => by obtain ⟨i, hi, rfl⟩ := List.getElem_of_mem hx; exact hl i hi) (by
    unfold Ytigkfjgmidnbhaa.arr byv; simp [List.take_of_length_le (Nat.le_of_eq h)])
  rwa [h] at this
theorem setCell_drewN (w : World) (n : Nat) (a : Addr) (v : Value) : (w.drewN n).setCell a v = (w.setCell a v).drewN n := rfl
theorem BL.drewN {w : World} {a : Option Addr} {len : Nat} {l : List Nat} (h : BL w a len l) (n : Nat) : BL (w.drewN n) a len l := ⟨h.len, h.lt, fun i hi => h.cell i hi⟩
theorem below_drewN {B : Nat} {a w : World} (h : Below B a w) (n : Nat) : Below B a (w.drewN n) := ⟨h.os, h.tape, h.output, h.size, h.block⟩
set_option maxRecDepth 20000 in
theorem three_any (a b c : Option Addr) (la ca cb cc : Nat) (x y z : List Nat) (w : World) (hA : BL w a la x) (hB : BL w b la y) (hC : BL w c la z) (h1 : ¬ 5000 < la) :
    Calls Try.prog 7 #[.slice a la ca, .slice b la cb, .slice c la cc] w fun e w' => e = .returned (.bool true) ∧ Below w.heap.size w w' := by
  obtain ⟨i0, hi, hz0, hz1, hz2⟩ := info_parts Try.info5
  have hd : decide ((5000 : Int) < (la : Int)) = false := by simp; omega
  have hmk := fun W : World => run_make W 25 5 i0 (.int .u8 0) Try.underlying25 hi hz0 .i64 .i64 la la (by omega) (by omega) (by rw [hz2]; omega) (by omega)
  rw [hz1, Int.toNat_natCast, madeArr (xor3 x y z)] at hmk
  have HA : Hid (∀ w', Below w.heap.size w w' → BL w' a la x) := fun w' h => hA.below h
  have HB : Hid (∀ w', Below w.heap.size w w' → BL w' b la y) := fun w' h => hB.below h
  have HC : Hid (∀ w', Below w.heap.size w w' → BL w' c la z) := fun w' h => hC.below h
  have lx := hA.len
  have ly := hB.len
  have lz := hC.len
  have HL : Hid ((xor3 x y z).length = la) := by have := xor3_length x y z (by omega) (by omega); exact this.trans lx
  clear hi hz0 hz1 hz2
  go_enter Try.func7, Try.ntmps7
  go_wp2_with fail
  refine (alive_any _).mono ?_
  rintro e w1 ⟨rfl, hb1⟩
  go_wp2_with fail
  clear hmk
  go_loopw [9] (fun i wr => ∃ k : Nat, k ≤ la ∧ i = .int .i64 k ∧ ∃ nq, wr = (w1.alloc (.cells (arr (xor3 x y z) la k) 5)).drewN nq) (fun i _ => la - (intOf i).toNat)
  case atStart => exact ⟨0, by omega, rfl, 0, rfl⟩
  case round =>
    obtain ⟨k, hk, rfl, nq, rfl⟩ := hrel
    by_cases hlt : k < la
    · have hdk : decide ((k : Int) < (la : Int)) = true := by simp; omega
      obtain ⟨b1, o1, rfl, hc1⟩ := (HA.out w1 hb1).cell k (by omega)
      obtain ⟨b2, o2, rfl, hc2⟩ := (HB.out w1 hb1).cell k (by omega)
      obtain ⟨b3, o3, rfl, hc3⟩ := (HC.out w1 hb1).cell k (by omega)
      have t1 := block_lt_of_cell hc1
      have t2 := block_lt_of_cell hc2
      have t3 := block_lt_of_cell hc3
      simp only [] at t1 t2 t3
      have q1 := hA.lt k (by omega)
      have q2 := hB.lt k (by omega)
      have q3 := hC.lt k (by omega)
      have hg := arr_get (xor3 x y z) la k HL.out hlt
      have hset := arr_set (xor3 x y z) la k HL.out hlt
      have HX : Hid ((xor3 x y z)[k]'(by rw [HL.out]; omega) = x[k] ^^^ y[k] ^^^ z[k]) := xor3_get x y z (by omega) (by omega) k _ (by omega) (by omega) (by omega)
      generalize (xor3 x y z)[k]'(by rw [HL.out]; omega) = u at *
      generalize x[k] = u1 at *
      generalize y[k] = u2 at *
      generalize z[k] = u3 at *
      obtain ⟨e1, f1⟩ := bxor8 u1 u2 q1 q2
      obtain ⟨e2, f2⟩ := bxor8 (u1 ^^^ u2) u3 f1 q3
      rw [← HX.out] at e2
      clear HX f1 f2
      go_wp2_with fail
      go_region
      go_wp2_with fail
      have hw : ((w1.alloc (.cells (arr (xor3 x y z) la k) 5)).drewN (nq + 1)).setCell ⟨w1.heap.size, k, none⟩ (.int .u8 (u : Int)) = (w1.alloc (.cells (arr (xor3 x y z) la (k + 1)) 5)).drewN (nq + 1) := by
        rw [setCell_drewN, World.setCell_alloc_at _ _ _ _ _ rfl, hset]
      go_roundw
      case rel => exact ⟨k + 1, by omega, by go_num, nq + 1, hw⟩
      case measure => simp [intOf]; omega
    · obtain rfl : k = la := by omega
      have hdk : decide ((k : Int) < (k : Int)) = false := by simp
      have hlt3 := xor3_lt x y z (by omega) (by omega) hA.lt hB.lt hC.lt
      have hE := BL.arr (w := w1) HL.out hlt3
      have HE : Hid (BL ((w1.alloc (.cells (arr (xor3 x y z) k k) 5)).drewN nq) (some ⟨w1.heap.size, 0, none⟩) k (xor3 x y z)) := BL.drewN hE nq
      have k2 : Below w.heap.size w ((w1.alloc (.cells (arr (xor3 x y z) k k) 5)).drewN nq) := below_drewN (hb1.trans ((Below.refl _ _).alloc hb1.size _)) nq
      have H3 : Hid (over 0#32 (xor3 x y z) = over 0#32 x ^^^ over 0#32 y ^^^ over 0#32 z) := over_xor3 x y z (by omega) (by omega)
      clear hE hlt3
      go_wp2_with fail
      refine (of_any _ k k _ _ HE.out (by omega)).mono ?_
      rintro e w3 ⟨rfl, hb3⟩
      have k3 := k2.trans (hb3.mono k2.size)
      clear hb3
      go_wp2_with fail
      refine (of_any a k ca x _ (HA.out w3 k3) (by omega)).mono ?_
      rintro e w4 ⟨rfl, hb4⟩
      have k4 := k3.trans (hb4.mono k3.size)
      clear hb4
      go_wp2_with fail
      refine (of_any b k cb y _ (HB.out w4 k4) (by omega)).mono ?_
      rintro e w5 ⟨rfl, hb5⟩
      have k5 := k4.trans (hb5.mono k4.size)
      clear hb5
      go_wp2_with fail
      refine (of_any c k cc z _ (HC.out w5 k5) (by omega)).mono ?_
      rintro e w6 ⟨rfl, hb6⟩
      have k6 := k5.trans (hb6.mono k5.size)
      clear hb6
      have e1 := bxor (over 0#32 x) (over 0#32 y)
      go_wp2_with fail
      go_ret
      refine ⟨ret_bool ?_, k6⟩
      rw [← BitVec.toNat_xor, bxor, ← H3.out]
      exact beq_self_eq_true _
theorem threelaw_any (a b c : Option Addr) (la lb lc ca cb cc : Nat) (x y z : List Nat) (w : World) (hA : BL w a la x) (hB : BL w b lb y) (hC : BL w c lc z) :
    Calls Try.prog 7 #[.slice a la ca, .slice b lb cb, .slice c lc cc] w fun e w' => e = .returned (.bool true) ∧ Below w.heap.size w w' := by
  by_cases h1 : 5000 < la
  · have hd : decide ((5000 : Int) < (la : Int)) = true := by simp; omega
    go_enter Try.func7, Try.ntmps7
    go_wp2_with (go_at_call 9; refine (alive_any _).mono ?_; rintro e w1 ⟨rfl, hb1⟩)
    go_ret
    exact ⟨rfl, hb1⟩
  · by_cases h2 : lb = la
    · subst h2
      by_cases h3 : lc = lb
      · subst h3
        exact three_any a b c lc ca cb cc x y z w hA hB hC h1
      · have hd : decide ((5000 : Int) < (lb : Int)) = false := by simp; omega
        have hd3 : ((lc : Int) != (lb : Int)) = true := by rw [bne_iff_ne]; omega
        have hd4 : decide (lc = lb) = false := by simp [h3]
        go_enter Try.func7, Try.ntmps7
        go_wp2_with (go_at_call 9; refine (alive_any _).mono ?_; rintro e w1 ⟨rfl, hb1⟩)
        go_ret
        exact ⟨rfl, hb1⟩
    · have hd : decide ((5000 : Int) < (la : Int)) = false := by simp; omega
      have hd3 : ((lb : Int) != (la : Int)) = true := by rw [bne_iff_ne]; omega
      go_enter Try.func7, Try.ntmps7
      go_wp2_with (go_at_call 9; refine (alive_any _).mono ?_; rintro e w1 ⟨rfl, hb1⟩)
      go_ret
      exact ⟨rfl, hb1⟩
end Go.Proofs.Ytigkfjgmidnbhaa
