/-
  Sections: small functions of package track and of its reference, walked.
  A section's place by halving, walked.
-/
import Derived.Test.YtbiehpjhhopjaaaGreatMem
set_option linter.unusedVariables false
namespace Go.Proofs.YtbiehpjhhopjaaaGreat
open Go.RowKit
/-- a section's value -/
def secV (s : Sec) (a : Option Addr) (c : Nat) : Value := .agg #[.int .i64 s.id, .int .i64 s.pt, .slice a s.ends.length c]
theorem numbered_any (n : Int) (w : World) : Calls Tryz.prog 373 #[.int .i64 n] w fun e w' => e = .returned (.bool (decide (1 ≤ n) && decide (n ≤ 99))) ∧ w = w' := by
  go_enter Tryz.func373, Tryz.ntmps373
  go_wp2_with fail
  all_goals
    go_ret
    refine ⟨rbool ?_, rfl⟩
    simp <;> omega
theorem shaped_any (s : Sec) (a : Option Addr) (c : Nat) (w : World) : Calls Tryz.prog 374 #[secV s a c] w fun e w' => e = .returned (.bool (decide s.Shaped)) ∧ Below w.heap.size w w' := by
  have HE : Hid (s.Shaped ↔ ((s.pt = 0 ∧ s.ends.length = 2) ∨ (1 ≤ s.pt ∧ s.pt ≤ 99 ∧ s.ends.length = 3))) := Iff.rfl
  unfold secV
  generalize s.ends.length = n at *
  generalize s.pt = q at *
  by_cases h0 : q = 0
  · subst h0
    by_cases h2 : n = 2
    · subst h2
      go_enter Tryz.func374, Tryz.ntmps374
      go_wp2_with (go_at_call 373; refine (numbered_any _ _).mono ?_; rintro e w' ⟨rfl, rfl⟩)
      go_ret
      exact ⟨rbool (by have h := HE.out; simp at h; simp [h]), (Below.refl _ _).alloc (Nat.le_refl _) _⟩
    · have hd : ((n : Int) == 2) = false := by rw [beq_eq_false_iff_ne]; omega
      go_enter Tryz.func374, Tryz.ntmps374
      go_wp2_with (go_at_call 373; refine (numbered_any _ _).mono ?_; rintro e w' ⟨rfl, rfl⟩)
      go_ret
      exact ⟨rbool (by have h := HE.out; simp [h2] at h; simp [h]), (Below.refl _ _).alloc (Nat.le_refl _) _⟩
  · have hd : (q == 0) = false := by rw [beq_eq_false_iff_ne]; exact h0
    by_cases h1 : 1 ≤ q ∧ q ≤ 99
    · have e1 : (decide (1 ≤ q) && decide (q ≤ 99)) = true := by simp [h1]
      by_cases h3 : n = 3
      · subst h3
        go_enter Tryz.func374, Tryz.ntmps374
        go_wp2_with (go_at_call 373; refine (numbered_any _ _).mono ?_; rintro e w' ⟨rfl, rfl⟩)
        go_ret
        exact ⟨rbool (by have h := HE.out; simp [h0, h1] at h; simp [h]), (Below.refl _ _).alloc (Nat.le_refl _) _⟩
      · have hd : ((n : Int) == 3) = false := by rw [beq_eq_false_iff_ne]; omega
        go_enter Tryz.func374, Tryz.ntmps374
        go_wp2_with (go_at_call 373; refine (numbered_any _ _).mono ?_; rintro e w' ⟨rfl, rfl⟩)
        go_ret
        exact ⟨rbool (by have h := HE.out; simp [h0, h3] at h; simp [h]), (Below.refl _ _).alloc (Nat.le_refl _) _⟩
    · have e1 : (decide (1 ≤ q) && decide (q ≤ 99)) = false := by
        cases hh : (decide (1 ≤ q) && decide (q ≤ 99)) with
        | false => rfl
        | true => simp at hh; exact absurd hh h1
      go_enter Tryz.func374, Tryz.ntmps374
      go_wp2_with (go_at_call 373; refine (numbered_any _ _).mono ?_; rintro e w' ⟨rfl, rfl⟩)
      go_ret
      exact ⟨rbool (by have h := HE.out; simp [h0] at h; simp [h]; intro a b; exact absurd ⟨a, b⟩ h1), (Below.refl _ _).alloc (Nat.le_refl _) _⟩
theorem refshaped_any (s : Sec) (a : Option Addr) (c : Nat) (w : World) : Calls Tryz.prog 309 #[secV s a c] w fun e w' => e = .returned (.bool (decide s.Shaped)) ∧ Below w.heap.size w w' := by
  have HE : Hid (s.Shaped ↔ ((s.pt = 0 ∧ s.ends.length = 2) ∨ (1 ≤ s.pt ∧ s.pt ≤ 99 ∧ s.ends.length = 3))) := Iff.rfl
  unfold secV
  generalize s.ends.length = n at *
  generalize s.pt = q at *
  by_cases h0 : q = 0
  · subst h0
    go_enter Tryz.func309, Tryz.ntmps309
    go_wp2_with fail
    go_ret
    exact ⟨rbool (by have h := HE.out; simp at h; rw [Bool.eq_iff_iff]; simp [h]; try omega), (Below.refl _ _).alloc (Nat.le_refl _) _⟩
  · have hd : (q == 0) = false := by rw [beq_eq_false_iff_ne]; exact h0
    go_enter Tryz.func309, Tryz.ntmps309
    go_wp2_with fail
    all_goals
      go_ret
      exact ⟨rbool (by have h := HE.out; simp [h0] at h; rw [Bool.eq_iff_iff]; simp [h]; try omega), (Below.refl _ _).alloc (Nat.le_refl _) _⟩
/-- Go's way to compare -/
def cmpI (a b : Int) : Int := if a < b then -1 else if b < a then 1 else 0
theorem nan_any (n : Int) (w : World) : Calls Tryz.prog 401 #[.int .i64 n] w fun e w' => e = .returned (.bool false) ∧ w = w' := by
  go_enter Tryz.func401, Tryz.ntmps401
  go_wp2_with fail
  go_ret
  exact ⟨rbool (by simp), rfl⟩
theorem compare_any (a b : Int) (w : World) : Calls Tryz.prog 412 #[.int .i64 a, .int .i64 b] w fun e w' => e = .returned (.int .i64 (cmpI a b)) ∧ w = w' := by
  have HE : Hid (cmpI a b = if a < b then -1 else if b < a then 1 else 0) := rfl
  go_enter Tryz.func412, Tryz.ntmps412
  go_wp2_with (go_at_call 401; refine (nan_any _ _).mono ?_; rintro e w' ⟨rfl, rfl⟩)
  all_goals
    go_ret
    refine ⟨rint ?_, rfl⟩
    rw [HE.out]
    split <;> (try split) <;> first | rfl | omega
theorem place1_any (s : Sec) (a : Option Addr) (c : Nat) (n : Int) (w : World) : Calls Tryz.prog 411 #[secV s a c, .int .i64 n] w fun e w' => e = .returned (.int .i64 (cmpI s.id n)) ∧ Below w.heap.size w w' := by
  unfold secV
  go_enter Tryz.func411, Tryz.ntmps411
  go_wp2_with (go_at_call 412; refine (compare_any _ _ _).mono ?_; rintro e w' ⟨rfl, rfl⟩)
  go_ret
  exact ⟨rfl, (Below.refl _ _).alloc (Nat.le_refl _) _⟩
end Go.Proofs.YtbiehpjhhopjaaaGreat
set_option linter.unusedVariables false
namespace Go.Proofs.YtbiehpjhhopjaaaGreat
open Go.RowKit
def Rising (l : List Sec) : Prop := ∀ i j (hi : i < l.length) (hj : j < l.length), i < j → l[i].id < l[j].id
def PlaceAt (l : List Sec) (n : Int) (k : Nat) (b : Bool) : Prop := k ≤ l.length ∧ (b = true → ∃ h : k < l.length, l[k].id = n) ∧ (b = false → ∀ j (h : j < l.length), l[j].id ≠ n)
def PlacePost (l : List Sec) (n : Int) (w : World) (e : Ending) (w' : World) : Prop := ∃ k b, e = .returned (.tuple #[.int .i64 ((k : Nat) : Int), .bool b]) ∧ PlaceAt l n k b ∧ Below w.heap.size w w'
set_option maxRecDepth 100000 in
set_option maxHeartbeats 1000000 in
theorem search_any (a : Option Addr) (cap : Nat) (l : List Sec) (n : Int) (w : World) (hl : SlA w 3 RSec a cap l) (hm : l.length ≤ 1000) (hr : Rising l) :
    Calls Tryz.prog 410 #[.slice a l.length cap, .int .i64 n, .func (.func 411) #[] #[]] w (PlacePost l n w) := by
  have HL : Hid (∀ w', Below w.heap.size w w' → SlA w' 3 RSec a cap l) := fun w' hb => hl.below keeps_sec hb
  have HR := Lib.hid hr
  clear hl hr
  go_enter Tryz.func410, Tryz.ntmps410
  go_wp2_with fail
  go_loopw [9, 10] (fun i j wr => ∃ p q : Nat, p ≤ q ∧ q ≤ l.length ∧ i = .int .i64 p ∧ j = .int .i64 q ∧ Below w.heap.size w wr ∧ (∀ m (h : m < l.length), m < p → l[m].id < n) ∧ (∀ m (h : m < l.length), q ≤ m → n ≤ l[m].id)) (fun i j _ => (intOf j).toNat - (intOf i).toNat)
  case atStart => exact ⟨0, l.length, by omega, by omega, rfl, rfl, Below.refl _ _, fun m h h0 => by omega, fun m h h0 => by omega⟩
  case round =>
    obtain ⟨p, q, hpq, hq, rfl, rfl, hb, hlo, hhi⟩ := hrel
    have HLO := Lib.hid hlo
    have HHI := Lib.hid hhi
    have HB := Lib.hid hb
    clear hlo hhi hb
    by_cases hlt : p < q
    · have hd : decide ((p : Int) < (q : Int)) = true := by simp; omega
      obtain ⟨m, hmd⟩ : ∃ m, (p + q) / 2 = m := ⟨_, rfl⟩
      have hmm : ((p : Int) + (q : Int)) / 2 = (m : Int) := by omega
      have hmp : p ≤ m := by omega
      have hmq : m < q := by omega
      have hml : m < l.length := by omega
      clear hmd
      obtain ⟨b, off, a', c', rfl, x0, x1, x2, -⟩ := (HL.out _ HB.out).sec hml
      have c0 : (0 : Int) ≤ (m : Int) := by omega
      have c1 : (m : Int) < (l.length : Int) := by omega
      by_cases he : l[m].id < n
      · have HE := Lib.hid he
        have ht : cmpI l[m].id n = -1 := by unfold cmpI; rw [if_pos he]
        have HP : Hid (∀ W, Calls Tryz.prog 411 #[.agg #[.int .i64 l[m].id, .int .i64 l[m].pt, .slice a' l[m].ends.length c'], .int .i64 n] W fun e w' => e = .returned (.int .i64 (-1)) ∧ Below W.heap.size W w') := fun W => by
          have := place1_any l[m] a' c' n W
          rw [ht] at this
          exact this
        clear he ht
        go_wp2_with fail
        refine (HP.out _).mono ?_
        rintro e w1 ⟨rfl, hb1⟩
        have K1 : Hid (Below w.heap.size w w1) := HB.out.trans (hb1.mono HB.out.size)
        clear hb1
        go_wp2_with fail
        go_roundw
        case rel =>
          refine ⟨m + 1, q, by omega, hq, by go_num, rfl, K1.out, fun t h hlt2 => ?_, HHI.out⟩
          by_cases htm : t = m
          · subst htm; exact HE.out
          · have := HR.out t m h hml (by omega); have := HE.out; omega
        case measure => simp [intOf]; omega
      · have HE := Lib.hid he
        have ht : 0 ≤ cmpI l[m].id n := by unfold cmpI; rw [if_neg he]; split <;> omega
        have hz : decide (cmpI l[m].id n < 0) = false := by simp; omega
        have HP : Hid (∀ W, Calls Tryz.prog 411 #[.agg #[.int .i64 l[m].id, .int .i64 l[m].pt, .slice a' l[m].ends.length c'], .int .i64 n] W fun e w' => e = .returned (.int .i64 (cmpI l[m].id n)) ∧ Below W.heap.size W w') := fun W => place1_any l[m] a' c' n W
        clear he ht
        generalize cmpI l[m].id n = z at *
        go_wp2_with fail
        refine (HP.out _).mono ?_
        rintro e w1 ⟨rfl, hb1⟩
        have K1 : Hid (Below w.heap.size w w1) := HB.out.trans (hb1.mono HB.out.size)
        clear hb1
        go_wp2_with fail
        go_roundw
        case rel =>
          refine ⟨p, m, hmp, by omega, rfl, rfl, K1.out, HLO.out, fun t h hlt2 => ?_⟩
          by_cases htm : t = m
          · subst htm; have := HE.out; omega
          · have := HR.out m t hml h (by omega); have := HE.out; omega
        case measure => simp [intOf]; omega
    · obtain rfl : p = q := by omega
      have hd : decide ((p : Int) < (p : Int)) = false := by simp
      by_cases hpl : p < l.length
      · have hd2 : decide ((p : Int) < (l.length : Int)) = true := by simp; omega
        obtain ⟨b, off, a', c', rfl, x0, x1, x2, -⟩ := (HL.out _ HB.out).sec hpl
        have c0 : (0 : Int) ≤ (p : Int) := by omega
        have c1 : (p : Int) < (l.length : Int) := by omega
        have HP : Hid (∀ W, Calls Tryz.prog 411 #[.agg #[.int .i64 l[p].id, .int .i64 l[p].pt, .slice a' l[p].ends.length c'], .int .i64 n] W fun e w' => e = .returned (.int .i64 (cmpI l[p].id n)) ∧ Below W.heap.size W w') := fun W => place1_any l[p] a' c' n W
        have HPA : Hid (PlaceAt l n p (cmpI l[p].id n == 0)) := by
          refine ⟨hq, fun h => ⟨hpl, ?_⟩, fun h j hj => ?_⟩
          · have h := beq_iff_eq.1 h; unfold cmpI at h; split at h
            · omega
            · split at h <;> omega
          · have h := beq_eq_false_iff_ne.1 h
            have h1 := HHI.out p hpl (Nat.le_refl _)
            have h2 : l[p].id ≠ n := by
              intro e; apply h; unfold cmpI; rw [e]; simp
            by_cases hjp : j < p
            · have := HLO.out j hj hjp; omega
            · by_cases hje : j = p
              · subst hje; exact h2
              · have := HR.out p j hpl hj (by omega); omega
        generalize cmpI l[p].id n = z at *
        go_wp2_with fail
        refine (HP.out _).mono ?_
        rintro e w1 ⟨rfl, hb1⟩
        have K1 : Hid (Below w.heap.size w w1) := HB.out.trans (hb1.mono HB.out.size)
        clear hb1
        go_wp2_with fail
        go_ret2
        exact ⟨p, _, rfl, HPA.out, K1.out⟩
      · have hd2 : decide ((p : Int) < (l.length : Int)) = false := by simp; omega
        have HPA : Hid (PlaceAt l n p false) := ⟨hq, fun h => by simp at h, fun _ j hj => by have := HLO.out j hj (by omega); omega⟩
        go_wp2_with fail
        go_ret2
        exact ⟨p, _, rfl, HPA.out, HB.out⟩
theorem place_any (a : Option Addr) (cap : Nat) (l : List Sec) (n : Int) (w : World) (hl : SlA w 3 RSec a cap l) (hm : l.length ≤ 1000) (hr : Rising l) :
    Calls Tryz.prog 375 #[.slice a l.length cap, .int .i64 n] w (PlacePost l n w) := by
  have HS := Lib.hid (search_any a cap l n w hl hm hr)
  clear hl hr
  go_enter Tryz.func375, Tryz.ntmps375
  go_wp2_with fail
  refine HS.out.mono ?_
  rintro e w1 ⟨k, b, rfl, hp, hb⟩
  have HP := Lib.hid hp
  have HB := Lib.hid hb
  clear hp hb
  go_wp2_with fail
  go_ret2
  exact ⟨k, b, rfl, HP.out, HB.out⟩
end Go.Proofs.YtbiehpjhhopjaaaGreat
