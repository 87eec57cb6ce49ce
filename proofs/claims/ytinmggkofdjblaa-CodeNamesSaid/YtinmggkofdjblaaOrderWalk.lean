/-
  The chapter's first examples; the walk of the law CodeOrder.
-/
import Derived.Test.YtinmggkofdjblaaNumbersWalk
set_option linter.unusedSimpArgs false
namespace Go.Proofs.Ytinmggkofdjblaa
open Go.RowKit
open CodeMath
theorem alive_any (w : World) : Calls Try.prog 9 #[] w fun e w' => e = .returned (.bool true) ∧ Below w.heap.size w w' := by
  have e1 : Hid (putE 127 = 0 ∧ putL 127 = [127] ∧ putE 300 = 0 ∧ putL 300 = [172, 2] ∧ putE (-1) = 2) := by
    refine ⟨?_, ?_, ?_, ?_, ?_⟩ <;> decide +kernel
  go_enter Try.func9, Try.ntmps9
  go_wp2_with fail
  refine (put_u 127 _).mono ?_
  rintro e w1 ⟨a1, len1, cap1, rfl, hB1, _, hb1⟩
  rw [e1.out.2.1] at hB1
  rw [e1.out.1]
  go_wp2_with fail
  refine (put_u 300 _).mono ?_
  rintro e w2 ⟨a2, len2, cap2, rfl, hB2, _, hb2⟩
  rw [e1.out.2.2.2.1] at hB2
  rw [e1.out.2.2.1]
  have k2 : Below w.heap.size w w2 := hb1.trans (hb2.mono hb1.size)
  have hB12 := hB1.below hb2
  clear hB1
  go_wp2_with fail
  refine (put_u (-1) _).mono ?_
  rintro e w3 ⟨a3, len3, cap3, rfl, _, _, hb3⟩
  rw [e1.out.2.2.2.2]
  have k3 : Below w.heap.size w w3 := k2.trans (hb3.mono k2.size)
  have hx := BL.str (hB12.below hb3) cap1
  have hy := BL.str (hB2.below hb3) cap2
  have s1 : strB [127] = ⟨#[127]⟩ := by decide
  have s2 : strB [172, 2] = ⟨#[172, 2]⟩ := by decide
  rw [s1] at hx
  rw [s2] at hy
  clear hB12 hB2 s1 s2
  go_wp2_with fail
  go_ret
  exact ⟨rfl, k3⟩
theorem digs1 {q : Nat} (h : q < 128) : (digs q).length = 1 := by rw [digs_lt h]; rfl
theorem digs_succ {q : Nat} (h : 128 ≤ q) : (digs q).length = (digs (q / 128)).length + 1 := by rw [digs_ge h]; rfl
set_option maxRecDepth 20000 in
theorem order_any (A B : Int) (w : World) :
    Calls Try.prog 3 #[.int .i64 A, .int .i64 B] w fun e w' => e = .returned (.bool true) ∧ Below w.heap.size w w' := by
  obtain ⟨lo, hi, hlo, hhi⟩ : ∃ lo hi : Int, lo = min A B ∧ hi = max A B := ⟨_, _, rfl, rfl⟩
  have hcase : (A < B ∧ lo = A ∧ hi = B) ∨ (A = B ∧ lo = A ∧ hi = A) ∨ (B < A ∧ lo = B ∧ hi = A) := by omega
  clear hlo hhi
  have hlh : lo ≤ hi := by omega
  have HLH := Lib.hid hlh
  clear hlh
  rcases hcase with ⟨hlt, rfl, rfl⟩ | ⟨rfl, rfl, hhi⟩ | ⟨hlt, rfl, rfl⟩
  case' inr.inl => subst hhi
  · go_enter Try.func3, Try.ntmps3
    go_wp2_with fail
    refine (alive_any _).mono ?_
    rintro e w1 ⟨rfl, hb1⟩
    go_wp2_with fail
    refine (put_u _ _).mono ?_
    rintro e w2 ⟨a2, len2, cap2, rfl, hB2, _, hb2⟩
    have k2 : Below w.heap.size w w2 := hb1.trans (hb2.mono hb1.size)
    clear hb1 hb2
    go_wp2_with fail
    refine (put_u _ _).mono ?_
    rintro e w3 ⟨a3, len3, cap3, rfl, hB3, _, hb3⟩
    have k3 : Below w.heap.size w w3 := k2.trans (hb3.mono k2.size)
    clear hb3
    have l2 := hB2.len
    have l3 := hB3.len
    clear hB2 hB3
    by_cases hok : putOk hi ∧ putOk hi
    · obtain ⟨ok1, ok2⟩ := hok
      rw [putL, if_pos ok1] at l2
      rw [putL, if_pos ok2] at l3
      have z1 : Hid (putE hi = 0) := by show _ = _; rw [putE, if_pos ok1]
      have z2 : Hid (putE hi = 0) := by show _ = _; rw [putE, if_pos ok2]
      simp only [z1.out, z2.out]
      obtain ⟨q, hq⟩ : ∃ q : Nat, hi = (q : Int) ∧ hi.toNat = q := ⟨hi.toNat, by have := ok2.1; omega, rfl⟩
      have hlen : len2 ≤ len3 := by rw [← l2, ← l3]; exact digs_mono (by have := HLH.out; omega)
      have h5 : (digs q).length ≤ 5 := digs_len5 (by have := ok2.2; omega)
      rw [hq.2] at l3
      have L3 := Lib.hid l3
      have HQ := Lib.hid hq.1
      have hdl : decide ((len2 : Int) ≤ (len3 : Int)) = true := by simp; omega
      have b5 : len3 ≤ 5 := by rw [← l3]; exact h5
      have HQB : Hid (q ≤ 2147483647) := by show _ ≤ _; have := ok2.2; omega
      clear l2 l3 hq ok1 ok2
      go_wp2_with fail
      go_loop [10, 11] (fun s k => ∃ sv qv : Nat, s = .int .i64 sv ∧ k = .int .i64 qv ∧ sv + (digs qv).length = len3 + 1 ∧ qv ≤ 2147483647 ∧ sv ≤ 6) (fun _ k => (intOf k).toNat)
      case atStart => exact ⟨1, q, rfl, by rw [HQ.out], by rw [L3.out]; omega, by have := HQB.out; omega, by omega⟩
      case round =>
        obtain ⟨sv, qv, rfl, rfl, hs, hqv, hs6⟩ := hrel
        have HS := Lib.hid hs
        clear hs
        by_cases h128 : 128 ≤ qv
        · have hd : decide ((128 : Int) ≤ (qv : Int)) = true := by simp; omega
          have hds := digs_succ h128
          have hdp := digs_pos (qv / 128)
          have HDS := Lib.hid hds
          have HDP := Lib.hid hdp
          clear hds hdp
          go_wp2_with fail
          go_round
          case rel => exact ⟨sv + 1, qv / 128, by go_num, by go_num, by have := HS.out; have := HDS.out; omega, by omega, by have := HS.out; have := HDS.out; have := HDP.out; omega⟩
          case measure => simp [intOf]; omega
        · have hd : decide ((128 : Int) ≤ (qv : Int)) = false := by simp; omega
          obtain rfl : sv = len3 := by have := HS.out; have := digs1 (by omega : qv < 128); omega
          go_wp2_with fail
          go_ret
          exact ⟨rfl, k3⟩
    · have HN : Hid (¬ (putOk hi ∧ putOk hi)) := hok
      clear hok
      by_cases ok1 : putOk hi
      · exact absurd ⟨ok1, ok1⟩ HN.out
      · have e1 : putE hi = 2 := by rw [putE, if_neg ok1]
        have E1 := Lib.hid e1
        clear e1 ok1
        simp only [E1.out]
        go_wp2_with fail
        go_ret
        exact ⟨rfl, k3⟩
  · go_enter Try.func3, Try.ntmps3
    go_wp2_with fail
    refine (alive_any _).mono ?_
    rintro e w1 ⟨rfl, hb1⟩
    go_wp2_with fail
    refine (put_u _ _).mono ?_
    rintro e w2 ⟨a2, len2, cap2, rfl, hB2, _, hb2⟩
    have k2 : Below w.heap.size w w2 := hb1.trans (hb2.mono hb1.size)
    clear hb1 hb2
    go_wp2_with fail
    refine (put_u _ _).mono ?_
    rintro e w3 ⟨a3, len3, cap3, rfl, hB3, _, hb3⟩
    have k3 : Below w.heap.size w w3 := k2.trans (hb3.mono k2.size)
    clear hb3
    have l2 := hB2.len
    have l3 := hB3.len
    clear hB2 hB3
    by_cases hok : putOk lo ∧ putOk hi
    · obtain ⟨ok1, ok2⟩ := hok
      rw [putL, if_pos ok1] at l2
      rw [putL, if_pos ok2] at l3
      have z1 : Hid (putE lo = 0) := by show _ = _; rw [putE, if_pos ok1]
      have z2 : Hid (putE hi = 0) := by show _ = _; rw [putE, if_pos ok2]
      simp only [z1.out, z2.out]
      obtain ⟨q, hq⟩ : ∃ q : Nat, hi = (q : Int) ∧ hi.toNat = q := ⟨hi.toNat, by have := ok2.1; omega, rfl⟩
      have hlen : len2 ≤ len3 := by rw [← l2, ← l3]; exact digs_mono (by have := HLH.out; omega)
      have h5 : (digs q).length ≤ 5 := digs_len5 (by have := ok2.2; omega)
      rw [hq.2] at l3
      have L3 := Lib.hid l3
      have HQ := Lib.hid hq.1
      have hdl : decide ((len2 : Int) ≤ (len3 : Int)) = true := by simp; omega
      have b5 : len3 ≤ 5 := by rw [← l3]; exact h5
      have HQB : Hid (q ≤ 2147483647) := by show _ ≤ _; have := ok2.2; omega
      clear l2 l3 hq ok1 ok2
      go_wp2_with fail
      go_loop [10, 11] (fun s k => ∃ sv qv : Nat, s = .int .i64 sv ∧ k = .int .i64 qv ∧ sv + (digs qv).length = len3 + 1 ∧ qv ≤ 2147483647 ∧ sv ≤ 6) (fun _ k => (intOf k).toNat)
      case atStart => exact ⟨1, q, rfl, by rw [HQ.out], by rw [L3.out]; omega, by have := HQB.out; omega, by omega⟩
      case round =>
        obtain ⟨sv, qv, rfl, rfl, hs, hqv, hs6⟩ := hrel
        have HS := Lib.hid hs
        clear hs
        by_cases h128 : 128 ≤ qv
        · have hd : decide ((128 : Int) ≤ (qv : Int)) = true := by simp; omega
          have hds := digs_succ h128
          have hdp := digs_pos (qv / 128)
          have HDS := Lib.hid hds
          have HDP := Lib.hid hdp
          clear hds hdp
          go_wp2_with fail
          go_round
          case rel => exact ⟨sv + 1, qv / 128, by go_num, by go_num, by have := HS.out; have := HDS.out; omega, by omega, by have := HS.out; have := HDS.out; have := HDP.out; omega⟩
          case measure => simp [intOf]; omega
        · have hd : decide ((128 : Int) ≤ (qv : Int)) = false := by simp; omega
          obtain rfl : sv = len3 := by have := HS.out; have := digs1 (by omega : qv < 128); omega
          go_wp2_with fail
          go_ret
          exact ⟨rfl, k3⟩
    · have HN : Hid (¬ (putOk lo ∧ putOk hi)) := hok
      clear hok
      by_cases ok1 : putOk lo
      · have ok2 : ¬ putOk hi := fun h => HN.out ⟨ok1, h⟩
        have z1 : Hid (putE lo = 0) := by show _ = _; rw [putE, if_pos ok1]
        have z2 : Hid (putE hi = 2) := by show _ = _; rw [putE, if_neg ok2]
        simp only [z1.out, z2.out]
        clear ok1 ok2
        go_wp2_with fail
        go_ret
        exact ⟨rfl, k3⟩
      · have e1 : putE lo = 2 := by rw [putE, if_neg ok1]
        have E1 := Lib.hid e1
        clear e1 ok1
        simp only [E1.out]
        go_wp2_with fail
        go_ret
        exact ⟨rfl, k3⟩
  · go_enter Try.func3, Try.ntmps3
    go_wp2_with fail
    refine (alive_any _).mono ?_
    rintro e w1 ⟨rfl, hb1⟩
    go_wp2_with fail
    refine (put_u _ _).mono ?_
    rintro e w2 ⟨a2, len2, cap2, rfl, hB2, _, hb2⟩
    have k2 : Below w.heap.size w w2 := hb1.trans (hb2.mono hb1.size)
    clear hb1 hb2
    go_wp2_with fail
    refine (put_u _ _).mono ?_
    rintro e w3 ⟨a3, len3, cap3, rfl, hB3, _, hb3⟩
    have k3 : Below w.heap.size w w3 := k2.trans (hb3.mono k2.size)
    clear hb3
    have l2 := hB2.len
    have l3 := hB3.len
    clear hB2 hB3
    by_cases hok : putOk lo ∧ putOk hi
    · obtain ⟨ok1, ok2⟩ := hok
      rw [putL, if_pos ok1] at l2
      rw [putL, if_pos ok2] at l3
      have z1 : Hid (putE lo = 0) := by show _ = _; rw [putE, if_pos ok1]
      have z2 : Hid (putE hi = 0) := by show _ = _; rw [putE, if_pos ok2]
      simp only [z1.out, z2.out]
      obtain ⟨q, hq⟩ : ∃ q : Nat, hi = (q : Int) ∧ hi.toNat = q := ⟨hi.toNat, by have := ok2.1; omega, rfl⟩
      have hlen : len2 ≤ len3 := by rw [← l2, ← l3]; exact digs_mono (by have := HLH.out; omega)
      have h5 : (digs q).length ≤ 5 := digs_len5 (by have := ok2.2; omega)
      rw [hq.2] at l3
      have L3 := Lib.hid l3
      have HQ := Lib.hid hq.1
      have hdl : decide ((len2 : Int) ≤ (len3 : Int)) = true := by simp; omega
      have b5 : len3 ≤ 5 := by rw [← l3]; exact h5
      have HQB : Hid (q ≤ 2147483647) := by show _ ≤ _; have := ok2.2; omega
      clear l2 l3 hq ok1 ok2
      go_wp2_with fail
      go_loop [10, 11] (fun s k => ∃ sv qv : Nat, s = .int .i64 sv ∧ k = .int .i64 qv ∧ sv + (digs qv).length = len3 + 1 ∧ qv ≤ 2147483647 ∧ sv ≤ 6) (fun _ k => (intOf k).toNat)
      case atStart => exact ⟨1, q, rfl, by rw [HQ.out], by rw [L3.out]; omega, by have := HQB.out; omega, by omega⟩
      case round =>
        obtain ⟨sv, qv, rfl, rfl, hs, hqv, hs6⟩ := hrel
        have HS := Lib.hid hs
        clear hs
        by_cases h128 : 128 ≤ qv
        · have hd : decide ((128 : Int) ≤ (qv : Int)) = true := by simp; omega
          have hds := digs_succ h128
          have hdp := digs_pos (qv / 128)
          have HDS := Lib.hid hds
          have HDP := Lib.hid hdp
          clear hds hdp
          go_wp2_with fail
          go_round
          case rel => exact ⟨sv + 1, qv / 128, by go_num, by go_num, by have := HS.out; have := HDS.out; omega, by omega, by have := HS.out; have := HDS.out; have := HDP.out; omega⟩
          case measure => simp [intOf]; omega
        · have hd : decide ((128 : Int) ≤ (qv : Int)) = false := by simp; omega
          obtain rfl : sv = len3 := by have := HS.out; have := digs1 (by omega : qv < 128); omega
          go_wp2_with fail
          go_ret
          exact ⟨rfl, k3⟩
    · have HN : Hid (¬ (putOk lo ∧ putOk hi)) := hok
      clear hok
      by_cases ok1 : putOk lo
      · have ok2 : ¬ putOk hi := fun h => HN.out ⟨ok1, h⟩
        have z1 : Hid (putE lo = 0) := by show _ = _; rw [putE, if_pos ok1]
        have z2 : Hid (putE hi = 2) := by show _ = _; rw [putE, if_neg ok2]
        simp only [z1.out, z2.out]
        clear ok1 ok2
        go_wp2_with fail
        go_ret
        exact ⟨rfl, k3⟩
      · have e1 : putE lo = 2 := by rw [putE, if_neg ok1]
        have E1 := Lib.hid e1
        clear e1 ok1
        simp only [E1.out]
        go_wp2_with fail
        go_ret
        exact ⟨rfl, k3⟩
end Go.Proofs.Ytinmggkofdjblaa
