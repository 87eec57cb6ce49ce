/-
  The reference's Get, walked; the region that draws its order is taken by hand, operation by operation.
-/
import Derived.Test.YtinmggkofdjblaaBytesOf
import Derived.Deep.RegionWith
import Derived.Deep.QuietTactic
import Derived.BigQuiet
import Derived.BigRegion
import Derived.Deep.RegionHeld3
set_option linter.unusedSimpArgs false
namespace Go.Proofs.Ytinmggkofdjblaa
open Go.RowKit
open CodeMath
/-- what the reading of a number answers; the world has at most new memory -/
def RGPost (w : World) (r : Nat × Nat × Int) (e : Ending) (w' : World) : Prop := e = .returned (.tuple #[.int .i64 (r.1 : Int), .int .i64 (r.2.1 : Int), .int .i64 r.2.2]) ∧ Below w.heap.size w w'
theorem refget_arg (a : Option Addr) (len cap : Nat) (at_ : Int) (w : World) (h : at_ < 0 ∨ (len : Int) < at_) :
    Calls Try.prog 13 #[.slice a len cap, .int .i64 at_] w (RGPost w (0, 0, 2)) := by
  by_cases h0 : at_ < 0
  · have h1 : decide (at_ < 0) = true := by simp; omega
    go_enter Try.func13, Try.ntmps13
    go_wp2
    go_ret3
    exact ⟨rfl, Below.refl _ _⟩
  · have h1 : decide (at_ < 0) = false := by simp; omega
    have h2 : decide ((len : Int) < at_) = true := by simp; omega
    go_enter Try.func13, Try.ntmps13
    go_wp2
    go_ret3
    exact ⟨rfl, Below.refl _ _⟩
theorem below_drewN {B : Nat} {a w : World} (h : Below B a w) (n : Nat) : Below B a (w.drewN n) := ⟨h.os, h.tape, h.output, h.size, h.block⟩
theorem shaped_snoc (l : List Nat) (c : Nat) (hc : c < 128) (h : ∀ x ∈ l, 128 ≤ x ∧ x < 256) : shaped (l ++ [c]) := by
  induction l with
  | nil => exact hc
  | cons a l ih =>
    have ih := ih (fun x hx => h x (List.mem_cons_of_mem _ hx))
    have ha := h a (List.mem_cons_self ..)
    cases l with
    | nil => exact ⟨ha.1, ha.2, hc⟩
    | cons b l => exact ⟨ha.1, ha.2, ih⟩
theorem rg_arith (acc c k o : Nat) (hk : k ≤ 4) (ho : o = 128 ^ k) (ha : acc < 128 ^ k) : ∃ x y o' : Nat, x = acc + c % 128 * 128 ^ k ∧ o' = 128 ^ (k + 1) ∧ wrap64 ((c : Int) % 128 * (o : Int)) = (y : Int) ∧ wrap64 ((acc : Int) + (y : Int)) = (x : Int) ∧
    wrap64 ((o : Int) * 128) = (o' : Int) ∧ x < 128 ^ (k + 1) ∧ x < 34359738368 := by
  have hc : c % 128 < 128 := Nat.mod_lt _ (by decide)
  have hb : 128 ^ k ≤ 268435456 := Nat.le_trans (Nat.pow_le_pow_right (by decide) hk) (by decide)
  have hs : 128 ^ (k + 1) = 128 ^ k * 128 := Nat.pow_succ ..
  subst ho
  have hx : c % 128 * 128 ^ k ≤ 127 * 128 ^ k := Nat.mul_le_mul_right _ (by omega)
  have hmul : (c : Int) % 128 * ((128 ^ k : Nat) : Int) = ((c % 128 * 128 ^ k : Nat) : Int) := by simp
  refine ⟨acc + c % 128 * 128 ^ k, c % 128 * 128 ^ k, 128 ^ (k + 1), rfl, rfl, ?_, ?_, ?_, ?_, ?_⟩
  · rw [hmul]
    generalize c % 128 * 128 ^ k = y at *
    generalize 128 ^ k = o at *
    exact IntWalk.wrap64_in _ ⟨by omega, by omega⟩
  · generalize c % 128 * 128 ^ k = y at *
    generalize 128 ^ k = o at *
    rw [IntWalk.wrap64_in _ ⟨by omega, by omega⟩]; omega
  · rw [hs]
    generalize 128 ^ k = o at *
    rw [IntWalk.wrap64_in _ ⟨by omega, by omega⟩]; omega
  · rw [hs]; omega
  · omega
def BP2 (w : World) (x : Nat) (e : Ending) (w' : World) : Prop :=
  ∃ g cap, e = .returned (.slice (some ⟨g, 0, none⟩) (digs x).length cap) ∧ Sem.run Try.prog (convert 23 9 (.slice (some ⟨g, 0, none⟩) (digs x).length cap)) w' = .ok (.string (strB (digs x))) w' ∧ Below w.heap.size w w'
theorem bytes_bp2 (x : Nat) (w : World) (hx : x ≤ 34359738367) : Calls Try.prog 19 #[.int .i64 (x : Int)] w (BP2 w x) :=
  (bytes_any x w hx).mono fun e w' ⟨v, he, hown, hb⟩ => by
    obtain ⟨g, c, rfl, hB, _⟩ := own_slice hown (digs_pos x) (digs_byte x)
    exact ⟨g, c, he, BL.str hB c, hb⟩
set_option maxRecDepth 20000 in
set_option maxHeartbeats 1000000 in
theorem refget_any (a : Option Addr) (cap p m : Nat) (l : List Nat) (w : World) (hBL : BL w a (p + m) l) (hm : p + m ≤ 1000000) (hcap : p + m ≤ cap) :
    Calls Try.prog 13 #[.slice a (p + m : Nat) cap, .int .i64 (p : Int)] w (RGPost w (getS l p)) := by
  have h1 : decide ((p : Int) < 0) = false := by simp
  have h2 : decide (((p + m : Nat) : Int) < (p : Int)) = false := by simp; omega
  have hlen := Lib.hid hBL.len
  obtain ⟨r, hr⟩ : ∃ r, l.drop p = r := ⟨_, rfl⟩
  have hrl : r.length = m := by rw [← hr, List.length_drop, hlen.out]; omega
  have hrc : ∀ k (h : k < r.length), r[k] < 256 ∧ ∃ b off, a = some ⟨b, off, none⟩ ∧ w.cell? ⟨b, off + (p + k), none⟩ = some (.int .u8 (r[k] : Int)) := by
    intro k hk
    obtain ⟨b', off', e, hc⟩ := hBL.cell (p + k) (by rw [hlen.out]; omega)
    have e2 : r[k] = l[p + k]'(by rw [hlen.out]; omega) := by subst hr; exact List.getElem_drop
    rw [e2]
    exact ⟨hBL.lt _ _, b', off', e, hc⟩
  have HRL := Lib.hid hrl
  have HRC := Lib.hid hrc
  have HR := Lib.hid hr
  clear hrl hrc hr
  go_enter Try.func13, Try.ntmps13
  go_wp2_with fail
  go_loop [7, 8, 9] (fun n o i => ∃ k acc : Nat, k ≤ m ∧ k ≤ 5 ∧ i = .int .i64 ((p : Int) + (k : Int)) ∧ n = .int .i64 acc ∧ (∃ ov : Nat, o = .int .i64 (ov : Int) ∧ ov = 128 ^ k) ∧ acc < 128 ^ k ∧ scan 0 0 r = scan k acc (r.drop k) ∧ acc = val (r.take k) ∧ (∀ j (h : j < r.length), j < k → 128 ≤ r[j])) (fun _ _ i => p + m - (intOf i).toNat)
  case atStart => exact ⟨0, 0, by omega, by omega, by simp, rfl, ⟨1, rfl, rfl⟩, by simp, rfl, rfl, fun j _ h => by omega⟩
  case round =>
    obtain ⟨k, acc, hk, hk5, rfl, rfl, ⟨o, rfl, ho⟩, hacc, hsc, hval, hpre⟩ := hrel
    have HO := Lib.hid ho
    clear ho
    have HS := Lib.hid hsc
    have HA := Lib.hid hacc
    have HV := Lib.hid hval
    have HPR := Lib.hid hpre
    clear hsc hacc hval hpre
    by_cases hend : k < m ∧ k < 5
    · obtain ⟨hlt, hk4⟩ := hend
      have hd : decide ((p : Int) + (k : Int) < ((p + m : Nat) : Int)) = true := by simp; omega
      have hd' : decide ((p : Int) + (k : Int) < (p : Int) + 5) = true := by simp; omega
      obtain ⟨hc8, b, off, rfl, hcell⟩ := HRC.out k (by rw [HRL.out]; exact hlt)
      have hdrop : r.drop k = r[k]'(by rw [HRL.out]; exact hlt) :: r.drop (k + 1) := List.drop_eq_getElem_cons _
      have HD := Lib.hid hdrop
      have htake : r.take (k + 1) = r.take k ++ [r[k]'(by rw [HRL.out]; exact hlt)] := List.take_succ_eq_append_getElem _
      have HTK := Lib.hid htake
      have hgetk : ∀ (h : k < r.length), r[k] = r[k]'(by rw [HRL.out]; exact hlt) := fun _ => rfl
      have HGK := Lib.hid hgetk
      clear hdrop htake hgetk
      generalize r[k]'(by rw [HRL.out]; exact hlt) = c at *
      have hsc2 : scan k acc (c :: r.drop (k + 1)) = if 128 ≤ c then scan (k + 1) (acc + c % 128 * 128 ^ k) (r.drop (k + 1)) else if (c = 0 ∧ 0 < k) ∨ 2147483647 < acc + c % 128 * 128 ^ k then none else some (acc + c % 128 * 128 ^ k, k + 1) := by
        rw [scan, if_neg (by omega)]
      have hvx : acc + c % 128 * 128 ^ k = val (r.take (k + 1)) := by
        rw [HTK.out, val_append, ← HV.out, List.length_take, Nat.min_eq_left (by rw [HRL.out]; omega)]
        simp [val, Nat.mul_comm]
      rw [← HD.out] at hsc2
      obtain ⟨x, y, o', hx, ho', hw1, hw2, hw3, hsum, hxb⟩ := rg_arith acc c k o (by omega) HO.out HA.out
      rw [← hx] at hsc2 hvx
      have HS2 := Lib.hid hsc2
      have HSUM := Lib.hid hsum
      have HVX := Lib.hid hvx
      have HOO := Lib.hid ho'
      clear hsc2 hsum hvx hx ho'
      by_cases h128 : 128 ≤ c
      · have hd8 : decide ((128 : Int) ≤ (c : Int)) = true := by simp; omega
        go_wp2_with fail
        go_round
        case rel =>
          refine ⟨k + 1, x, by omega, by omega, by go_num, by rw [hw2], ⟨o', by rw [hw3], HOO.out⟩, HSUM.out, by rw [HS.out, HS2.out, if_pos h128], HVX.out, ?_⟩
          intro j hj hjk
          by_cases e : j = k
          · subst e; rw [HGK.out hj]; exact h128
          · exact HPR.out j hj (by omega)
        case measure => simp [intOf]; omega
      · have hd8 : decide ((128 : Int) ≤ (c : Int)) = false := by simp; omega
        have hsh : shaped (r.take (k + 1)) := by
          rw [HTK.out]
          refine shaped_snoc _ c (by omega) (fun x hx => ?_)
          obtain ⟨j, hj, rfl⟩ := List.getElem_of_mem hx
          rw [List.getElem_take]
          rw [List.length_take] at hj
          exact ⟨HPR.out j (by omega) (by omega), (HRC.out j (by omega)).1⟩
        have hdv := digs_val _ hsh
        rw [← HVX.out] at hdv
        have hlast : ((r.take (k + 1)).length = 1 ∨ (r.take (k + 1)).getLast? ≠ some 0) ↔ ¬ (c = 0 ∧ 0 < k) := by
          rw [HTK.out, List.length_append, List.length_take, Nat.min_eq_left (by rw [HRL.out]; omega), List.getLast?_append]
          simp
          omega
        rw [hlast] at hdv
        have HDV := Lib.hid hdv
        clear hdv hlast hsh
        by_cases hmax : 2147483647 < x
        · have e : getS l p = (0, 0, 8) := by unfold getS; rw [HR.out, HS.out, HS2.out, if_neg h128, if_pos (.inr hmax)]
          have hE := Lib.hid e
          clear e
          have hdx : decide ((2147483647 : Int) < (x : Int)) = true := by simp; omega
          go_wp2_with fail
          go_quiet (fail)
          go_wp2_with fail
          go_ret3
          refine ⟨?_, ?_⟩
          · rw [hE.out]
            rfl
          · exact below_drewN (Below.refl _ _) _
        · have hdx : decide ((2147483647 : Int) < (x : Int)) = false := by simp; omega
          have hne : ¬ cap = p := by omega
          have hsub : ∀ W, Below w.heap.size w W → BL W (some ⟨b, off + p, none⟩) (k + 1) (r.take (k + 1)) := by
            intro W hW
            refine ⟨by rw [List.length_take, HRL.out]; omega, fun i hi => ?_, fun i hi => ⟨b, off + p, rfl, ?_⟩⟩
            · rw [List.getElem_take]; exact (HRC.out i (by rw [List.length_take] at hi; omega)).1
            · obtain ⟨_, b', off', e, hc⟩ := HRC.out i (by rw [List.length_take] at hi; omega)
              cases e
              rw [List.getElem_take, Nat.add_assoc]
              exact (hW.cell (p := ⟨b, off + (p + i), none⟩) (block_lt_of_cell hc)).trans hc
          have hconv : ∀ W, Below w.heap.size w W → Sem.run Try.prog (convert 23 9 (.slice (some ⟨b, off + p, none⟩) (k + 1) (cap - p))) W = .ok (.string (strB (r.take (k + 1)))) W := fun W hW => BL.str (hsub W hW) _
          have hb0 : Below w.heap.size w w := Below.refl _ _
          have hb1 : Below w.heap.size w w.drew := (Below.refl _ _).drew
          have hbyte := Lib.hid (digs_byte x)
          have hpos := Lib.hid (digs_pos x)
          have hlt2 : Hid (∀ i (h : i < (r.take (k + 1)).length), (r.take (k + 1))[i] < 256) := (hsub w hb0).lt
          have HQ : Hid (((strB (digs x)).toList == (strB (r.take (k + 1))).toList) = decide (¬ (c = 0 ∧ 0 < k))) := by
            show _ = _
            rw [Bool.eq_iff_iff, beq_iff_eq, decide_eq_true_iff, ← HDV.out, ← strB_inj hbyte.out hlt2.out]
            exact ⟨fun e => strB_toList e, fun e => by rw [e]⟩
          have HB : Hid (∀ W, Calls Try.prog 19 #[.int .i64 (x : Int)] W (BP2 W x)) := fun W => bytes_bp2 x W (by omega)
          clear hsub
          have hs0 : (0 : Int) ≤ (p : Int) := by omega
          have hs1 : (p : Int) ≤ (p : Int) + (k : Int) + 1 := by omega
          have hs2 : (p : Int) + (k : Int) + 1 ≤ (cap : Int) := by omega
          have hs3 : (0 : Int) ≤ (p : Int) + (k : Int) + 1 := by omega
          have hs4 : ((p : Int) + (k : Int) + 1).toNat = p + k + 1 := by omega
          have hs5 : p + k + 1 - p = k + 1 := by omega
          have hs6 : IntKind.i64.wrap ((p : Int) + (k : Int) + 1) = (p : Int) + (k : Int) + 1 := IntWalk.i64_in _ ⟨by omega, by omega⟩
          by_cases hbad : c = 0 ∧ 0 < k
          · have hq := HQ.out
            rw [decide_eq_false (fun h => h hbad)] at hq
            have e : getS l p = (0, 0, 8) := by unfold getS; rw [HR.out, HS.out, HS2.out, if_neg h128, if_pos (.inl hbad)]
            have hE := Lib.hid e
            clear e hbad
            go_wp2_with fail
            clear hw1 hw2 hw3 hd hd' hd8 h1 h2 hBL
            refine wp_region_held_drew (S := fun W => Below w.heap.size w W) (by kernel_rfl) hb1 ?_
            intro hS
            refine wpAnyH_take (i := 0) (oi := ⟨some 48, .move (.tmp 7), _, _, _, none⟩) (v := ?_) rfl (by kernel_rfl) (by kernel_rfl) (by kernel_rfl) (fun _ _ _ h => h) (Or.inl ⟨by rfl, ?_⟩) hS ?_
            rotate_left
            · intro W hSW
              (try dsimp only at hSW)
              go_simp
              (try with_reducible rfl)
            (try simp only [Act.put, List.setIfInBounds_toArray, List.set_cons_zero, List.set_cons_succ])
            refine wpAnyH_take (i := 1) (oi := ⟨some 49, .binOp .gtr 3 (.tmp 48) (.const (.int .i64 2147483647)) 3, _, _, _, none⟩) (v := ?_) rfl (by kernel_rfl) (by kernel_rfl) (by kernel_rfl) (fun _ _ _ h => h) (Or.inl ⟨by rfl, ?_⟩) hS ?_
            rotate_left
            · intro W hSW
              (try dsimp only at hSW)
              go_simp
              (try with_reducible rfl)
            (try simp only [Act.put, List.setIfInBounds_toArray, List.set_cons_zero, List.set_cons_succ])
            refine wpAnyH_take (i := 2) (oi := ⟨some 50, .move (.tmp 49), _, _, _, none⟩) (v := ?_) rfl (by kernel_rfl) (by kernel_rfl) (by kernel_rfl) (fun _ _ _ h => h) (Or.inl ⟨by rfl, ?_⟩) hS ?_
            rotate_left
            · intro W hSW
              (try dsimp only at hSW)
              go_simp
              (try with_reducible rfl)
            (try simp only [Act.put, List.setIfInBounds_toArray, List.set_cons_zero, List.set_cons_succ])
            refine wpAnyH_take (i := 3) (oi := ⟨some 51, .move (.tmp 7), _, _, _, some (2, false)⟩) (v := ?_) rfl (by kernel_rfl) (by kernel_rfl) (by kernel_rfl) (fun _ _ _ h => h) (Or.inl ⟨by rfl, ?_⟩) hS ?_
            rotate_left
            · intro W hSW
              (try dsimp only at hSW)
              go_simp
              (try with_reducible rfl)
            (try simp only [Act.put, List.setIfInBounds_toArray, List.set_cons_zero, List.set_cons_succ])
            refine wpAnyH_take (i := 6) (oi := ⟨some 54, .move (.tmp 0), _, _, _, some (2, false)⟩) (v := ?_) rfl (by kernel_rfl) (by kernel_rfl) (by kernel_rfl) (fun _ _ _ h => h) (Or.inl ⟨by rfl, ?_⟩) hS ?_
            rotate_left
            · intro W hSW
              (try dsimp only at hSW)
              go_simp
              (try with_reducible rfl)
            (try simp only [Act.put, List.setIfInBounds_toArray, List.set_cons_zero, List.set_cons_succ])
            refine wpAnyH_take (i := 7) (oi := ⟨some 55, .move (.tmp 1), _, _, _, some (2, false)⟩) (v := ?_) rfl (by kernel_rfl) (by kernel_rfl) (by kernel_rfl) (fun _ _ _ h => h) (Or.inl ⟨by rfl, ?_⟩) hS ?_
            rotate_left
            · intro W hSW
              (try dsimp only at hSW)
              go_simp
              (try with_reducible rfl)
            (try simp only [Act.put, List.setIfInBounds_toArray, List.set_cons_zero, List.set_cons_succ])
            refine wpAnyH_take (i := 8) (oi := ⟨some 56, .move (.tmp 9), _, _, _, some (2, false)⟩) (v := ?_) rfl (by kernel_rfl) (by kernel_rfl) (by kernel_rfl) (fun _ _ _ h => h) (Or.inl ⟨by rfl, ?_⟩) hS ?_
            rotate_left
            · intro W hSW
              (try dsimp only at hSW)
              go_simp
              (try with_reducible rfl)
            (try simp only [Act.put, List.setIfInBounds_toArray, List.set_cons_zero, List.set_cons_succ])
            refine wpAnyH_take (i := 9) (oi := ⟨some 57, .binOp .add 3 (.tmp 56) (.const (.int .i64 1)) 3, _, _, _, some (2, false)⟩) (v := ?_) rfl (by kernel_rfl) (by kernel_rfl) (by kernel_rfl) (fun _ _ _ h => h) (Or.inl ⟨by rfl, ?_⟩) hS ?_
            rotate_left
            · intro W hSW
              (try dsimp only at hSW)
              go_simp
              (try with_reducible rfl)
            (try simp only [Act.put, List.setIfInBounds_toArray, List.set_cons_zero, List.set_cons_succ])
            refine wpAnyH_take (i := 10) (oi := ⟨some 58, .slice 23 (.tmp 54) (some (.tmp 55)) (some (.tmp 57)) none, _, _, _, some (2, false)⟩) (v := ?_) rfl (by kernel_rfl) (by kernel_rfl) (by kernel_rfl) (fun _ _ _ h => h) (Or.inl ⟨by rfl, ?_⟩) hS ?_
            rotate_left
            · intro W hSW
              (try dsimp only at hSW)
              go_simp
              (try with_reducible rfl)
            (try simp only [Act.put, List.setIfInBounds_toArray, List.set_cons_zero, List.set_cons_succ])
            refine wpAnyH_take (i := 11) (oi := ⟨some 59, .convert 23 9 (.tmp 58), _, _, _, some (2, false)⟩) (v := ?_) rfl (by kernel_rfl) (by kernel_rfl) (by kernel_rfl) (fun _ _ _ h => h) (Or.inl ⟨by rfl, ?_⟩) hS ?_
            rotate_left
            · intro W hSW
              (try dsimp only at hSW)
              go_simp
              (try with_reducible rfl)
            (try simp only [Act.put, List.setIfInBounds_toArray, List.set_cons_zero, List.set_cons_succ])
            refine wpAnyH_ready (rs := [4]) (by kernel_rfl) (by simp) ?_
            refine AllReadyH.cons rfl (fun K hK => ?_) AllReadyH.nil
            go_simp
            refine (HB.out _).mono ?_
            rintro e w1 ⟨g1, c1, rfl, hcv1, hbw⟩
            have hbb : Below w.heap.size w w1 := hb1.trans (hbw.mono (Nat.le_refl _))
            refine hK.out _ _ hbb (fun hS2 => ?_)
            clear hK K hS
            have hS := hS2
            clear hS2
            (try simp only [Act.put, List.setIfInBounds_toArray, List.set_cons_zero, List.set_cons_succ])
            refine wpAnyH_ready (rs := [5]) (by kernel_rfl) (by simp) ?_
            refine AllReadyH.cons (o := ⟨some 53, .convert 23 9 (.tmp 52), _, _, _, some (2, false)⟩) rfl (fun K hK => ?_) AllReadyH.nil
            go_simp
            refine hK.out _ _ hbb (fun hS2 => ?_)
            clear hK K hS
            have hS := hS2
            clear hS2
            (try simp only [Act.put, List.setIfInBounds_toArray, List.set_cons_zero, List.set_cons_succ])
            refine wpAnyH_take (i := 12) (oi := ⟨some 60, .binOp .neq 9 (.tmp 53) (.tmp 59) 9, _, _, _, some (2, false)⟩) (v := ?_) rfl (by kernel_rfl) (by kernel_rfl) (by kernel_rfl) (fun _ _ _ h => h) (Or.inl ⟨by rfl, ?_⟩) hS ?_
            rotate_left
            · intro W hSW
              (try dsimp only at hSW)
              go_simp
              (try with_reducible rfl)
            (try simp only [Act.put, List.setIfInBounds_toArray, List.set_cons_zero, List.set_cons_succ])
            refine wpAnyH_take (i := 13) (oi := ⟨some 61, .pick (.tmp 50) (.const (.bool true)) (.tmp 60), _, _, _, none⟩) (v := ?_) rfl (by kernel_rfl) (by kernel_rfl) (by kernel_rfl) (fun _ _ _ h => h) (Or.inl ⟨by rfl, ?_⟩) hS ?_
            rotate_left
            · intro W hSW
              (try dsimp only at hSW)
              go_simp
              (try with_reducible rfl)
            (try simp only [Act.put, List.setIfInBounds_toArray, List.set_cons_zero, List.set_cons_succ])
            refine wpAnyH_done (by kernel_rfl) ?_ _
            go_wp2_with fail
            go_ret3
            refine ⟨?_, hbb⟩
            rw [hE.out]
            rfl
          · have hq := HQ.out
            rw [decide_eq_true hbad] at hq
            have e : getS l p = (x, p + (k + 1), 0) := by unfold getS; rw [HR.out, HS.out, HS2.out, if_neg h128, if_neg (by intro hh; rcases hh with hh | hh; exact hbad hh; exact hmax hh)]
            have hE := Lib.hid e
            clear e hbad
            go_wp2_with fail
            clear hw1 hw2 hw3 hd hd' hd8 h1 h2 hBL
            refine wp_region_held_drew (S := fun W => Below w.heap.size w W) (by kernel_rfl) hb1 ?_
            intro hS
            refine wpAnyH_take (i := 0) (oi := ⟨some 48, .move (.tmp 7), _, _, _, none⟩) (v := ?_) rfl (by kernel_rfl) (by kernel_rfl) (by kernel_rfl) (fun _ _ _ h => h) (Or.inl ⟨by rfl, ?_⟩) hS ?_
            rotate_left
            · intro W hSW
              (try dsimp only at hSW)
              go_simp
              (try with_reducible rfl)
            (try simp only [Act.put, List.setIfInBounds_toArray, List.set_cons_zero, List.set_cons_succ])
            refine wpAnyH_take (i := 1) (oi := ⟨some 49, .binOp .gtr 3 (.tmp 48) (.const (.int .i64 2147483647)) 3, _, _, _, none⟩) (v := ?_) rfl (by kernel_rfl) (by kernel_rfl) (by kernel_rfl) (fun _ _ _ h => h) (Or.inl ⟨by rfl, ?_⟩) hS ?_
            rotate_left
            · intro W hSW
              (try dsimp only at hSW)
              go_simp
              (try with_reducible rfl)
            (try simp only [Act.put, List.setIfInBounds_toArray, List.set_cons_zero, List.set_cons_succ])
            refine wpAnyH_take (i := 2) (oi := ⟨some 50, .move (.tmp 49), _, _, _, none⟩) (v := ?_) rfl (by kernel_rfl) (by kernel_rfl) (by kernel_rfl) (fun _ _ _ h => h) (Or.inl ⟨by rfl, ?_⟩) hS ?_
            rotate_left
            · intro W hSW
              (try dsimp only at hSW)
              go_simp
              (try with_reducible rfl)
            (try simp only [Act.put, List.setIfInBounds_toArray, List.set_cons_zero, List.set_cons_succ])
            refine wpAnyH_take (i := 3) (oi := ⟨some 51, .move (.tmp 7), _, _, _, some (2, false)⟩) (v := ?_) rfl (by kernel_rfl) (by kernel_rfl) (by kernel_rfl) (fun _ _ _ h => h) (Or.inl ⟨by rfl, ?_⟩) hS ?_
            rotate_left
            · intro W hSW
              (try dsimp only at hSW)
              go_simp
              (try with_reducible rfl)
            (try simp only [Act.put, List.setIfInBounds_toArray, List.set_cons_zero, List.set_cons_succ])
            refine wpAnyH_take (i := 6) (oi := ⟨some 54, .move (.tmp 0), _, _, _, some (2, false)⟩) (v := ?_) rfl (by kernel_rfl) (by kernel_rfl) (by kernel_rfl) (fun _ _ _ h => h) (Or.inl ⟨by rfl, ?_⟩) hS ?_
            rotate_left
            · intro W hSW
              (try dsimp only at hSW)
              go_simp
              (try with_reducible rfl)
            (try simp only [Act.put, List.setIfInBounds_toArray, List.set_cons_zero, List.set_cons_succ])
            refine wpAnyH_take (i := 7) (oi := ⟨some 55, .move (.tmp 1), _, _, _, some (2, false)⟩) (v := ?_) rfl (by kernel_rfl) (by kernel_rfl) (by kernel_rfl) (fun _ _ _ h => h) (Or.inl ⟨by rfl, ?_⟩) hS ?_
            rotate_left
            · intro W hSW
              (try dsimp only at hSW)
              go_simp
              (try with_reducible rfl)
            (try simp only [Act.put, List.setIfInBounds_toArray, List.set_cons_zero, List.set_cons_succ])
            refine wpAnyH_take (i := 8) (oi := ⟨some 56, .move (.tmp 9), _, _, _, some (2, false)⟩) (v := ?_) rfl (by kernel_rfl) (by kernel_rfl) (by kernel_rfl) (fun _ _ _ h => h) (Or.inl ⟨by rfl, ?_⟩) hS ?_
            rotate_left
            · intro W hSW
              (try dsimp only at hSW)
              go_simp
              (try with_reducible rfl)
            (try simp only [Act.put, List.setIfInBounds_toArray, List.set_cons_zero, List.set_cons_succ])
            refine wpAnyH_take (i := 9) (oi := ⟨some 57, .binOp .add 3 (.tmp 56) (.const (.int .i64 1)) 3, _, _, _, some (2, false)⟩) (v := ?_) rfl (by kernel_rfl) (by kernel_rfl) (by kernel_rfl) (fun _ _ _ h => h) (Or.inl ⟨by rfl, ?_⟩) hS ?_
            rotate_left
            · intro W hSW
              (try dsimp only at hSW)
              go_simp
              (try with_reducible rfl)
            (try simp only [Act.put, List.setIfInBounds_toArray, List.set_cons_zero, List.set_cons_succ])
            refine wpAnyH_take (i := 10) (oi := ⟨some 58, .slice 23 (.tmp 54) (some (.tmp 55)) (some (.tmp 57)) none, _, _, _, some (2, false)⟩) (v := ?_) rfl (by kernel_rfl) (by kernel_rfl) (by kernel_rfl) (fun _ _ _ h => h) (Or.inl ⟨by rfl, ?_⟩) hS ?_
            rotate_left
            · intro W hSW
              (try dsimp only at hSW)
              go_simp
              (try with_reducible rfl)
            (try simp only [Act.put, List.setIfInBounds_toArray, List.set_cons_zero, List.set_cons_succ])
            refine wpAnyH_take (i := 11) (oi := ⟨some 59, .convert 23 9 (.tmp 58), _, _, _, some (2, false)⟩) (v := ?_) rfl (by kernel_rfl) (by kernel_rfl) (by kernel_rfl) (fun _ _ _ h => h) (Or.inl ⟨by rfl, ?_⟩) hS ?_
            rotate_left
            · intro W hSW
              (try dsimp only at hSW)
              go_simp
              (try with_reducible rfl)
            (try simp only [Act.put, List.setIfInBounds_toArray, List.set_cons_zero, List.set_cons_succ])
            refine wpAnyH_ready (rs := [4]) (by kernel_rfl) (by simp) ?_
            refine AllReadyH.cons rfl (fun K hK => ?_) AllReadyH.nil
            go_simp
            refine (HB.out _).mono ?_
            rintro e w1 ⟨g1, c1, rfl, hcv1, hbw⟩
            have hbb : Below w.heap.size w w1 := hb1.trans (hbw.mono (Nat.le_refl _))
            refine hK.out _ _ hbb (fun hS2 => ?_)
            clear hK K hS
            have hS := hS2
            clear hS2
            (try simp only [Act.put, List.setIfInBounds_toArray, List.set_cons_zero, List.set_cons_succ])
            refine wpAnyH_ready (rs := [5]) (by kernel_rfl) (by simp) ?_
            refine AllReadyH.cons (o := ⟨some 53, .convert 23 9 (.tmp 52), _, _, _, some (2, false)⟩) rfl (fun K hK => ?_) AllReadyH.nil
            go_simp
            refine hK.out _ _ hbb (fun hS2 => ?_)
            clear hK K hS
            have hS := hS2
            clear hS2
            (try simp only [Act.put, List.setIfInBounds_toArray, List.set_cons_zero, List.set_cons_succ])
            refine wpAnyH_take (i := 12) (oi := ⟨some 60, .binOp .neq 9 (.tmp 53) (.tmp 59) 9, _, _, _, some (2, false)⟩) (v := ?_) rfl (by kernel_rfl) (by kernel_rfl) (by kernel_rfl) (fun _ _ _ h => h) (Or.inl ⟨by rfl, ?_⟩) hS ?_
            rotate_left
            · intro W hSW
              (try dsimp only at hSW)
              go_simp
              (try with_reducible rfl)
            (try simp only [Act.put, List.setIfInBounds_toArray, List.set_cons_zero, List.set_cons_succ])
            refine wpAnyH_take (i := 13) (oi := ⟨some 61, .pick (.tmp 50) (.const (.bool true)) (.tmp 60), _, _, _, none⟩) (v := ?_) rfl (by kernel_rfl) (by kernel_rfl) (by kernel_rfl) (fun _ _ _ h => h) (Or.inl ⟨by rfl, ?_⟩) hS ?_
            rotate_left
            · intro W hSW
              (try dsimp only at hSW)
              go_simp
              (try with_reducible rfl)
            (try simp only [Act.put, List.setIfInBounds_toArray, List.set_cons_zero, List.set_cons_succ])
            refine wpAnyH_done (by kernel_rfl) ?_ _
            go_wp2_with fail
            go_ret3
            refine ⟨?_, hbb⟩
            rw [hE.out, show ((p + (k + 1) : Nat) : Int) = (p : Int) + (k : Int) + 1 by omega]
            rfl
    · have hx : scan k acc (r.drop k) = none := by
        by_cases h5 : k = 5
        · cases hd : r.drop k with
          | nil => rw [scan]
          | cons c t => rw [scan, if_pos h5]
        · have : r.drop k = [] := List.drop_of_length_le (by rw [HRL.out]; omega)
          rw [this, scan]
      have e : getS l p = (0, 0, 8) := by unfold getS; rw [HR.out, HS.out, hx]
      have hE := Lib.hid e
      clear e hx
      by_cases hkm : k < m
      · have hd : decide ((p : Int) + (k : Int) < ((p + m : Nat) : Int)) = true := by simp; omega
        have hd' : decide ((p : Int) + (k : Int) < (p : Int) + 5) = false := by simp; omega
        have hd2 : decide ((p : Int) + (k : Int) < (p : Int) + (m : Int)) = true := by simp; omega
        have hd4 : (5 : Int) ≤ (k : Int) := by omega
        clear hend hk5
        go_wp2_with fail
        go_ret3
        refine ⟨?_, Below.refl _ _⟩
        rw [hE.out]
        rfl
      · have hd : decide ((p : Int) + (k : Int) < ((p + m : Nat) : Int)) = false := by simp; omega
        have hd2 : decide ((p : Int) + (k : Int) < (p : Int) + (m : Int)) = false := by simp; omega
        have hd3 : m ≤ k := by omega
        clear hend
        go_wp2_with fail
        go_ret3
        refine ⟨?_, Below.refl _ _⟩
        rw [hE.out]
        rfl
end Go.Proofs.Ytinmggkofdjblaa
