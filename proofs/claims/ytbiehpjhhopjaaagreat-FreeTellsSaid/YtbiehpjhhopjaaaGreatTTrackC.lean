/-
 Numbers of a plan's elements, walked.
 Sections: small functions of package track and of its reference, walked.
 A section's place by halving, walked.
 The reference's joined, walked.
-/
import Derived.Test.YtbiehpjhhopjaaaGreatTMem
import Derived.Deep.RegionHeld3
set_option linter.unusedVariables false
namespace Go.Proofs.YtbiehpjhhopjaaaGreat
open Go.RowKit Go.Sort
theorem as_pt_pt (v : Value) (w : World) : Sem.run Tryz.prog (Instr.typeAssert (.iface 143 v) 20 143 true) w = .ok (.tuple #[v, .bool true]) w := by kernel_rfl
theorem as_sg_pt (v : Value) (w : World) : Sem.run Tryz.prog (Instr.typeAssert (.iface 145 v) 20 143 true) w = .ok (.tuple #[.agg #[.int .i64 0, .int .i64 0], .bool false]) w := by kernel_rfl
theorem as_sg_sg (v : Value) (w : World) : Sem.run Tryz.prog (Instr.typeAssert (.iface 145 v) 20 145 true) w = .ok (.tuple #[v, .bool true]) w := by kernel_rfl
theorem as_rt_pt (v : Value) (w : World) : Sem.run Tryz.prog (Instr.typeAssert (.iface 102 v) 20 143 true) w = .ok (.tuple #[.agg #[.int .i64 0, .int .i64 0], .bool false]) w := by kernel_rfl
theorem as_rt_sg (v : Value) (w : World) : Sem.run Tryz.prog (Instr.typeAssert (.iface 102 v) 20 145 true) w = .ok (.tuple #[.agg #[.int .i64 0, .int .i64 0, .int .i64 0], .bool false]) w := by kernel_rfl
theorem as_rt_rt (v : Value) (w : World) : Sem.run Tryz.prog (Instr.typeAssert (.iface 102 v) 20 102 true) w = .ok (.tuple #[v, .bool true]) w := by kernel_rfl
set_option maxRecDepth 100000 in
theorem ptId_any (id sec : Int) (w : World) : Calls Tryz.prog 413 #[.agg #[.int .i64 id, .int .i64 sec]] w fun e w' => e = .returned (.int .i64 id) ∧ Below w.heap.size w w' := by
 have h1 := as_pt_pt
 go_enter Tryz.func413, Tryz.ntmps413
 go_wp2_with fail
 go_ret
 exact ⟨rfl, ((Below.refl _ _).alloc (Nat.le_refl _) _).alloc (by simp) _⟩
set_option maxRecDepth 100000 in
theorem sgId_any (id sec en : Int) (w : World) : Calls Tryz.prog 414 #[.agg #[.int .i64 id, .int .i64 sec, .int .i64 en]] w fun e w' => e = .returned (.int .i64 id) ∧ Below w.heap.size w w' := by
 have h1 := as_sg_pt
 have h2 := as_sg_sg
 go_enter Tryz.func414, Tryz.ntmps414
 go_wp2_with fail
 go_ret
 exact ⟨rfl, ((Below.refl _ _).alloc (Nat.le_refl _) _).alloc (by simp) _⟩
set_option maxRecDepth 100000 in
theorem rtId_any (id entry exit timer : Int) (a b c : Option Addr) (la lb lc ca cb cc : Nat) (w : World) : Calls Tryz.prog 372 #[.agg #[.int .i64 id, .int .i64 entry, .int .i64 exit, .slice a la ca, .slice b lb cb, .slice c lc cc, .int .i64 timer]] w fun e w' => e = .returned (.int .i64 id) ∧ Below w.heap.size w w' := by
 have h1 := as_rt_pt
 have h2 := as_rt_sg
 have h3 := as_rt_rt
 go_enter Tryz.func372, Tryz.ntmps372
 go_wp2_with fail
 go_ret
 exact ⟨rfl, ((Below.refl _ _).alloc (Nat.le_refl _) _).alloc (by simp) _⟩
end Go.Proofs.YtbiehpjhhopjaaaGreat
namespace Go.Proofs.YtbiehpjhhopjaaaGreat
open Go.RowKit
def secV (s : Sec) (a : Option Addr) (c : Nat) : Value := .agg #[.int .i64 s.id, .int .i64 s.pt, .slice a s.ends.length c]
theorem numbered_any (n : Int) (w : World) : Calls Tryz.prog 373 #[.int .i64 n] w fun e w' => e = .returned (.bool (decide (1 ≤ n) && decide (n ≤ 99))) ∧ w = w' := by
 go_enter Tryz.func373, Tryz.ntmps373
 go_wp2_with fail
 all_goals
  go_ret
  refine ⟨rbool ?_, rfl⟩
  simp <;> omega
theorem shaped_any (s : Sec) (a : Option Addr) (c : Nat) (w : World) : Calls Tryz.prog 374 #[secV s a c] w fun e w' => e = .returned (.bool (decide s.Shaped)) ∧ Below w.heap.size w w' := by
 have HE : Hid (s.Shaped ↔ ((s.pt = 0 ∧ s.ends.length = 2) ∨ (1 ≤ s.pt ∧ s.pt ≤ 99 ∧ s.ends.length = 3))) := Iff.rfl
 unfold secV
 generalize s.ends.length = n at *
 generalize s.pt = q at *
 by_cases h0 : q = 0
 ·subst h0
  by_cases h2 : n = 2
  ·subst h2
   go_enter Tryz.func374, Tryz.ntmps374
   go_wp2_with (go_at_call 373; refine (numbered_any _ _).mono ?_; rintro e w' ⟨rfl, rfl⟩)
   go_ret
   exact ⟨rbool (by have h := HE.out; simp at h; simp [h]), (Below.refl _ _).alloc (Nat.le_refl _) _⟩
  ·have hd : ((n : Int) == 2) = false := by rw [beq_eq_false_iff_ne]; omega
   go_enter Tryz.func374, Tryz.ntmps374
   go_wp2_with (go_at_call 373; refine (numbered_any _ _).mono ?_; rintro e w' ⟨rfl, rfl⟩)
   go_ret
   exact ⟨rbool (by have h := HE.out; simp [h2] at h; simp [h]), (Below.refl _ _).alloc (Nat.le_refl _) _⟩
 ·have hd : (q == 0) = false := by rw [beq_eq_false_iff_ne]; exact h0
  by_cases h1 : 1 ≤ q ∧ q ≤ 99
  ·have e1 : (decide (1 ≤ q) && decide (q ≤ 99)) = true := by simp [h1]
   by_cases h3 : n = 3
   ·subst h3
    go_enter Tryz.func374, Tryz.ntmps374
    go_wp2_with (go_at_call 373; refine (numbered_any _ _).mono ?_; rintro e w' ⟨rfl, rfl⟩)
    go_ret
    exact ⟨rbool (by have h := HE.out; simp [h0, h1] at h; simp [h]), (Below.refl _ _).alloc (Nat.le_refl _) _⟩
   ·have hd : ((n : Int) == 3) = false := by rw [beq_eq_false_iff_ne]; omega
    go_enter Tryz.func374, Tryz.ntmps374
    go_wp2_with (go_at_call 373; refine (numbered_any _ _).mono ?_; rintro e w' ⟨rfl, rfl⟩)
    go_ret
    exact ⟨rbool (by have h := HE.out; simp [h0, h3] at h; simp [h]), (Below.refl _ _).alloc (Nat.le_refl _) _⟩
  ·have e1 : (decide (1 ≤ q) && decide (q ≤ 99)) = false := by
    cases hh : (decide (1 ≤ q) && decide (q ≤ 99)) with
    | false => rfl
    | true => simp at hh; exact absurd hh h1
   go_enter Tryz.func374, Tryz.ntmps374
   go_wp2_with (go_at_call 373; refine (numbered_any _ _).mono ?_; rintro e w' ⟨rfl, rfl⟩)
   go_ret
   exact ⟨rbool (by have h := HE.out; simp [h0] at h; simp [h]; intro a b; exact absurd ⟨a, b⟩ h1), (Below.refl _ _).alloc (Nat.le_refl _) _⟩
theorem refshaped_any (s : Sec) (a : Option Addr) (c : Nat) (w : World) : Calls Tryz.prog 309 #[secV s a c] w fun e w' => e = .returned (.bool (decide s.Shaped)) ∧ Below w.heap.size w w' := by
 have HE : Hid (s.Shaped ↔ ((s.pt = 0 ∧ s.ends.length = 2) ∨ (1 ≤ s.pt ∧ s.pt ≤ 99 ∧ s.ends.length = 3))) := Iff.rfl
 unfold secV
 generalize s.ends.length = n at *
 generalize s.pt = q at *
 by_cases h0 : q = 0
 ·subst h0
  go_enter Tryz.func309, Tryz.ntmps309
  go_wp2_with fail
  go_ret
  exact ⟨rbool (by have h := HE.out; simp at h; rw [Bool.eq_iff_iff]; simp [h]; try omega), (Below.refl _ _).alloc (Nat.le_refl _) _⟩
 ·have hd : (q == 0) = false := by rw [beq_eq_false_iff_ne]; exact h0
  go_enter Tryz.func309, Tryz.ntmps309
  go_wp2_with fail
  all_goals
   go_ret
   exact ⟨rbool (by have h := HE.out; simp [h0] at h; rw [Bool.eq_iff_iff]; simp [h]; try omega), (Below.refl _ _).alloc (Nat.le_refl _) _⟩
def cmpI (a b : Int) : Int := if a < b then -1 else if b < a then 1 else 0
theorem nan_any (n : Int) (w : World) : Calls Tryz.prog 401 #[.int .i64 n] w fun e w' => e = .returned (.bool false) ∧ w = w' := by
 go_enter Tryz.func401, Tryz.ntmps401
 go_wp2_with fail
 go_ret
 exact ⟨rbool (by simp), rfl⟩
theorem compare_any (a b : Int) (w : World) : Calls Tryz.prog 412 #[.int .i64 a, .int .i64 b] w fun e w' => e = .returned (.int .i64 (cmpI a b)) ∧ w = w' := by
 have HE : Hid (cmpI a b = if a < b then -1 else if b < a then 1 else 0) := rfl
 go_enter Tryz.func412, Tryz.ntmps412
 go_wp2_with (go_at_call 401; refine (nan_any _ _).mono ?_; rintro e w' ⟨rfl, rfl⟩)
 all_goals
  go_ret
  refine ⟨rint ?_, rfl⟩
  rw [HE.out]
  split <;> (try split) <;> first | rfl | omega
theorem place1_any (s : Sec) (a : Option Addr) (c : Nat) (n : Int) (w : World) : Calls Tryz.prog 411 #[secV s a c, .int .i64 n] w fun e w' => e = .returned (.int .i64 (cmpI s.id n)) ∧ Below w.heap.size w w' := by
 unfold secV
 go_enter Tryz.func411, Tryz.ntmps411
 go_wp2_with (go_at_call 412; refine (compare_any _ _ _).mono ?_; rintro e w' ⟨rfl, rfl⟩)
 go_ret
 exact ⟨rfl, (Below.refl _ _).alloc (Nat.le_refl _) _⟩
end Go.Proofs.YtbiehpjhhopjaaaGreat
namespace Go.Proofs.YtbiehpjhhopjaaaGreat
open Go.RowKit
def Rising (l : List Sec) : Prop := ∀ i j (hi : i < l.length) (hj : j < l.length), i < j → l[i].id < l[j].id
def PlaceAt (l : List Sec) (n : Int) (k : Nat) (b : Bool) : Prop := k ≤ l.length ∧ (b = true → ∃ h : k < l.length, l[k].id = n) ∧ (b = false → ∀ j (h : j < l.length), l[j].id ≠ n)
def PlacePost (l : List Sec) (n : Int) (w : World) (e : Ending) (w' : World) : Prop := ∃ k b, e = .returned (.tuple #[.int .i64 ((k : Nat) : Int), .bool b]) ∧ PlaceAt l n k b ∧ Below w.heap.size w w'
set_option maxRecDepth 100000 in
set_option maxHeartbeats 1000000 in
theorem search_any (a : Option Addr) (cap : Nat) (l : List Sec) (n : Int) (w : World) (hl : SlA w 3 RSec a cap l) (hm : l.length ≤ 1000) (hr : Rising l) :
  Calls Tryz.prog 410 #[.slice a l.length cap, .int .i64 n, .func (.func 411) #[] #[]] w (PlacePost l n w) := by
 have HL : Hid (∀ w', Below w.heap.size w w' → SlA w' 3 RSec a cap l) := fun w' hb => hl.below keeps_sec hb
 have HR := Lib.hid hr
 clear hl hr
 go_enter Tryz.func410, Tryz.ntmps410
 go_wp2_with fail
 go_loopw [9, 10] (fun i j wr => ∃ p q : Nat, p ≤ q ∧ q ≤ l.length ∧ i = .int .i64 p ∧ j = .int .i64 q ∧ Below w.heap.size w wr ∧ (∀ m (h : m < l.length), m < p → l[m].id < n) ∧ (∀ m (h : m < l.length), q ≤ m → n ≤ l[m].id)) (fun i j _ => (intOf j).toNat - (intOf i).toNat)
 case atStart => exact ⟨0, l.length, by omega, by omega, rfl, rfl, Below.refl _ _, fun m h h0 => by omega, fun m h h0 => by omega⟩
 case round =>
  obtain ⟨p, q, hpq, hq, rfl, rfl, hb, hlo, hhi⟩ := hrel
  have HLO := Lib.hid hlo
  have HHI := Lib.hid hhi
  have HB := Lib.hid hb
  clear hlo hhi hb
  by_cases hlt : p < q
  ·have hd : decide ((p : Int) < (q : Int)) = true := by simp; omega
   obtain ⟨m, hmd⟩ : ∃ m, (p + q) / 2 = m := ⟨_, rfl⟩
   have hmm : ((p : Int) + (q : Int)) / 2 = (m : Int) := by omega
   have hmp : p ≤ m := by omega
   have hmq : m < q := by omega
   have hml : m < l.length := by omega
   clear hmd
   obtain ⟨b, off, a', c', rfl, x0, x1, x2, -⟩ := (HL.out _ HB.out).sec hml
   have c0 : (0 : Int) ≤ (m : Int) := by omega
   have c1 : (m : Int) < (l.length : Int) := by omega
   by_cases he : l[m].id < n
   ·have HE := Lib.hid he
    have ht : cmpI l[m].id n = -1 := by unfold cmpI; rw [if_pos he]
    have HP : Hid (∀ W, Calls Tryz.prog 411 #[.agg #[.int .i64 l[m].id, .int .i64 l[m].pt, .slice a' l[m].ends.length c'], .int .i64 n] W fun e w' => e = .returned (.int .i64 (-1)) ∧ Below W.heap.size W w') := fun W => by
     have := place1_any l[m] a' c' n W
     rw [ht] at this
     exact this
    clear he ht
    go_wp2_with fail
    refine (HP.out _).mono ?_
    rintro e w1 ⟨rfl, hb1⟩
    have K1 : Hid (Below w.heap.size w w1) := HB.out.trans (hb1.mono HB.out.size)
    clear hb1
    go_wp2_with fail
    go_roundw
    case rel =>
     refine ⟨m + 1, q, by omega, hq, by go_num, rfl, K1.out, fun t h hlt2 => ?_, HHI.out⟩
     by_cases htm : t = m
     ·subst htm; exact HE.out
     ·have := HR.out t m h hml (by omega); have := HE.out; omega
    case measure => simp [intOf]; omega
   ·have HE := Lib.hid he
    have ht : 0 ≤ cmpI l[m].id n := by unfold cmpI; rw [if_neg he]; split <;> omega
    have hz : decide (cmpI l[m].id n < 0) = false := by simp; omega
    have HP : Hid (∀ W, Calls Tryz.prog 411 #[.agg #[.int .i64 l[m].id, .int .i64 l[m].pt, .slice a' l[m].ends.length c'], .int .i64 n] W fun e w' => e = .returned (.int .i64 (cmpI l[m].id n)) ∧ Below W.heap.size W w') := fun W => place1_any l[m] a' c' n W
    clear he ht
    generalize cmpI l[m].id n = z at *
    go_wp2_with fail
    refine (HP.out _).mono ?_
    rintro e w1 ⟨rfl, hb1⟩
    have K1 : Hid (Below w.heap.size w w1) := HB.out.trans (hb1.mono HB.out.size)
    clear hb1
    go_wp2_with fail
    go_roundw
    case rel =>
     refine ⟨p, m, hmp, by omega, rfl, rfl, K1.out, HLO.out, fun t h hlt2 => ?_⟩
     by_cases htm : t = m
     ·subst htm; have := HE.out; omega
     ·have := HR.out m t hml h (by omega); have := HE.out; omega
    case measure => simp [intOf]; omega
  ·obtain rfl : p = q := by omega
   have hd : decide ((p : Int) < (p : Int)) = false := by simp
   by_cases hpl : p < l.length
   ·have hd2 : decide ((p : Int) < (l.length : Int)) = true := by simp; omega
    obtain ⟨b, off, a', c', rfl, x0, x1, x2, -⟩ := (HL.out _ HB.out).sec hpl
    have c0 : (0 : Int) ≤ (p : Int) := by omega
    have c1 : (p : Int) < (l.length : Int) := by omega
    have HP : Hid (∀ W, Calls Tryz.prog 411 #[.agg #[.int .i64 l[p].id, .int .i64 l[p].pt, .slice a' l[p].ends.length c'], .int .i64 n] W fun e w' => e = .returned (.int .i64 (cmpI l[p].id n)) ∧ Below W.heap.size W w') := fun W => place1_any l[p] a' c' n W
    have HPA : Hid (PlaceAt l n p (cmpI l[p].id n == 0)) := by
     refine ⟨hq, fun h => ⟨hpl, ?_⟩, fun h j hj => ?_⟩
     ·have h := beq_iff_eq.1 h; unfold cmpI at h; split at h
      ·omega
      ·split at h <;> omega
     ·have h := beq_eq_false_iff_ne.1 h
      have h1 := HHI.out p hpl (Nat.le_refl _)
      have h2 : l[p].id ≠ n := by
       intro e; apply h; unfold cmpI; rw [e]; simp
      by_cases hjp : j < p
      ·have := HLO.out j hj hjp; omega
      ·by_cases hje : j = p
       ·subst hje; exact h2
       ·have := HR.out p j hpl hj (by omega); omega
    generalize cmpI l[p].id n = z at *
    go_wp2_with fail
    refine (HP.out _).mono ?_
    rintro e w1 ⟨rfl, hb1⟩
    have K1 : Hid (Below w.heap.size w w1) := HB.out.trans (hb1.mono HB.out.size)
    clear hb1
    go_wp2_with fail
    go_ret2
    exact ⟨p, _, rfl, HPA.out, K1.out⟩
   ·have hd2 : decide ((p : Int) < (l.length : Int)) = false := by simp; omega
    have HPA : Hid (PlaceAt l n p false) := ⟨hq, fun h => by simp at h, fun _ j hj => by have := HLO.out j hj (by omega); omega⟩
    go_wp2_with fail
    go_ret2
    exact ⟨p, _, rfl, HPA.out, HB.out⟩
theorem place_any (a : Option Addr) (cap : Nat) (l : List Sec) (n : Int) (w : World) (hl : SlA w 3 RSec a cap l) (hm : l.length ≤ 1000) (hr : Rising l) :
  Calls Tryz.prog 375 #[.slice a l.length cap, .int .i64 n] w (PlacePost l n w) := by
 have HS := Lib.hid (search_any a cap l n w hl hm hr)
 clear hl hr
 go_enter Tryz.func375, Tryz.ntmps375
 go_wp2_with fail
 refine HS.out.mono ?_
 rintro e w1 ⟨k, b, rfl, hp, hb⟩
 have HP := Lib.hid hp
 have HB := Lib.hid hb
 clear hp hb
 go_wp2_with fail
 go_ret2
 exact ⟨k, b, rfl, HP.out, HB.out⟩
end Go.Proofs.YtbiehpjhhopjaaaGreat
namespace Go.Proofs.YtbiehpjhhopjaaaGreat
open Go.RowKit
theorem secAt_b (a : Option Addr) (cap : Nat) (l : List Sec) (n : Int) (w : World) (hl : SlA w 3 RSec a cap l) (hm : l.length ≤ 1000) :
  Calls Tryz.prog 255 #[.slice a l.length cap, .int .i64 n] w fun e w' => e = .returned (.int .i64 (fix (fun x => decide (x.id = n)) l)) ∧ Below w.heap.size w w' :=
 (secAt a cap l n w hl hm).mono fun e w' ⟨h1, h2⟩ => ⟨h1, by subst h2; exact Below.refl _ _⟩
theorem joined_at {l : List Sec} (hr : Rising l) {s : Sec} {e : Nat} {j : Jn} {k : Nat} (hk : k < l.length) (hid : l[k].id = j.to) (hz : ¬ (j.to = 0 ∧ j.en = 0)) :
  Joined l s e j ↔ (¬ (j.to = s.id ∧ j.en = e) ∧ 0 ≤ j.en ∧ l[k].ends[j.en.toNat]? = some ⟨s.id, e⟩) := by
 unfold Joined
 constructor
 ·rintro (h | ⟨h1, t, ht, h2, h3, h4⟩)
  ·exact absurd h hz
  ·obtain ⟨i, hi, rfl⟩ := List.getElem_of_mem ht
   have : i = k := by
    rcases Nat.lt_trichotomy i k with h | h | h
    ·have := hr i k hi hk h; omega
    ·exact h
    ·have := hr k i hk hi h; omega
   subst this
   exact ⟨h1, h3, h4⟩
 ·rintro ⟨h1, h3, h4⟩
  exact .inr ⟨h1, l[k], List.getElem_mem hk, hid, h3, h4⟩
theorem joined_none {l : List Sec} {s : Sec} {e : Nat} {j : Jn} (hno : ∀ i (h : i < l.length), decide (l[i].id = j.to) = false) (hz : ¬ (j.to = 0 ∧ j.en = 0)) : ¬ Joined l s e j := by
 rintro (h | ⟨h1, t, ht, h2, h3, h4⟩)
 ·exact hz h
 ·obtain ⟨i, hi, rfl⟩ := List.getElem_of_mem ht
  have := hno i hi
  simp [h2] at this
def BoolPost (w : World) (b : Bool) (e : Ending) (w' : World) : Prop := e = .returned (.bool b) ∧ Below w.heap.size w w'
structure JoinB (l : List Sec) (sid : Int) (e : Nat) (j : Jn) (b : Bool) : Prop where
 zero : (j.to = 0 ∧ j.en = 0) → b = true
 none : (∀ i (h : i < l.length), decide (l[i].id = j.to) = false) → ¬ (j.to = 0 ∧ j.en = 0) → b = false
 at_ : ∀ k (h : k < l.length), l[k].id = j.to → ¬ (j.to = 0 ∧ j.en = 0) → (b = true ↔ (¬ (j.to = sid ∧ j.en = e) ∧ 0 ≤ j.en ∧ l[k].ends[j.en.toNat]? = some ⟨sid, e⟩))
set_option maxRecDepth 100000 in
set_option maxHeartbeats 2000000 in
theorem joined_core (a : Option Addr) (cap : Nat) (l : List Sec) (sid spt : Int) (b2 o2 ns c2 : Nat) (e : Nat) (he : e < ns) (j : Jn) (B : Bool) (w : World) (hl : SlA w 3 RSec a cap l) (hj0 : w.cell? ⟨b2, o2 + e * 2, none⟩ = some (.int .i64 j.to)) (hj1 : w.cell? ⟨b2, o2 + e * 2 + 1, none⟩ = some (.int .i64 j.en)) (hm : l.length ≤ 1000) (hmm : ∀ i (h : i < l.length), l[i].ends.length ≤ 1000) (hm2 : ns ≤ 1000) (hB : JoinB l sid e j B) :
  Calls Tryz.prog 310 #[.slice a l.length cap, .agg #[.int .i64 sid, .int .i64 spt, .slice (some ⟨b2, o2, none⟩) ns c2], .int .i64 (e : Int)] w (BoolPost w B) := by
 have HL : Hid (∀ w', Below w.heap.size w w' → SlA w' 3 RSec a cap l) := fun w' hb => hl.below keeps_sec hb
 have c0 : (0 : Int) ≤ (e : Int) := by omega
 have c1 : (e : Int) < (ns : Int) := by omega
 have b2lt := block_lt_of_cell hj0
 have HB := Lib.hid hB
 have HMM := Lib.hid hmm
 clear hl hB hmm
 obtain ⟨jt, je⟩ := j
 simp only [] at hj0 hj1
 have k0 : Below w.heap.size w ((w.alloc (.cells #[.int .i64 sid, .int .i64 spt, .slice (some ⟨b2, o2, none⟩) ns c2] 80)).alloc (.cells #[.int .i64 jt, .int .i64 je] 133)) := ((Below.refl _ _).alloc (Nat.le_refl _) _).alloc (by simp) _
 have K0 := Lib.hid k0
 clear k0
 by_cases hz : jt = 0 ∧ je = 0
 ·have HE := Lib.hid (HB.out.zero hz)
  obtain ⟨rfl, rfl⟩ := hz
  go_enter Tryz.func310, Tryz.ntmps310
  go_wp2_with fail
  go_ret
  exact ⟨rbool HE.out.symm, K0.out⟩
 ·have HZ := Lib.hid hz
  have e12 : ((jt == 0) = false ∨ ((jt == 0) = true ∧ (je == 0) = false)) := by
   by_cases h0 : jt = 0
   ·right; exact ⟨by rw [beq_iff_eq]; exact h0, by rw [beq_eq_false_iff_ne]; intro h; exact hz ⟨h0, h⟩⟩
   ·left; rw [beq_eq_false_iff_ne]; exact h0
  clear hz
  have rest : Calls Tryz.prog 310 #[.slice a l.length cap, .agg #[.int .i64 sid, .int .i64 spt, .slice (some ⟨b2, o2, none⟩) ns c2], .int .i64 (e : Int)] w (BoolPost w B) := by
   rcases e12 with h1 | ⟨h1, h2⟩
   all_goals
    go_enter Tryz.func310, Tryz.ntmps310
    go_wp2_with fail
    refine (secAt_b a cap l jt _ (HL.out _ K0.out) hm).mono ?_
    rintro e0 w1 ⟨rfl, hb⟩
    have f0 : w1.cell? ⟨w.heap.size, 0, none⟩ = some (.int .i64 sid) := ccell hb (by simp)
    have f1 : w1.cell? ⟨w.heap.size, 1, none⟩ = some (.int .i64 spt) := ccell hb (by simp)
    have f2 : w1.cell? ⟨w.heap.size, 2, none⟩ = some (.slice (some ⟨b2, o2, none⟩) ns c2) := ccell hb (by simp)
    have g0 : w1.cell? ⟨w.heap.size + 1, 0, none⟩ = some (.int .i64 jt) := ccell hb (by simp)
    have g1 : w1.cell? ⟨w.heap.size + 1, 1, none⟩ = some (.int .i64 je) := ccell hb (by simp)
    have K1 := Lib.hid (K0.out.trans (hb.mono K0.out.size))
    clear hb
    rcases fix_cases (fun x : Sec => decide (x.id = jt)) l with ⟨hf, hno⟩ | ⟨k, hk, hf, hid, -⟩
    ·rw [hf]
     have HE := Lib.hid (HB.out.none hno HZ.out)
     clear hno hf
     go_wp2_with fail
     go_quiet (fail)
     go_wp2_with fail
     go_ret
     exact ⟨rbool HE.out.symm, below_drewN' K1.out _⟩
    ·rw [hf]
     have HJ := Lib.hid (HB.out.at_ k hk (by simpa using hid) HZ.out)
     obtain ⟨b, off, a', c', rfl, x0, x1, x2, hends⟩ := (HL.out _ K1.out).sec hk
     have HEN := Lib.hid hends
     have hmk := HMM.out k hk
     have d0 : (0 : Int) ≤ (k : Int) := by omega
     have d1 : (k : Int) < (l.length : Int) := by omega
     have d2 : decide ((k : Int) < 0) = false := by simp
     clear hends hf hid
     generalize hte : l[k].ends = te at *
     clear hte
     by_cases hn : je < 0
     ·have t1 : decide (je < 0) = true := by simp; exact hn
      have HE : Hid (B = false) := by show _ = _; cases hbb : B with | false => rfl | true => have := HJ.out.1 hbb; simp only [] at this; omega
      go_wp2_with fail
      go_quiet (fail)
      go_wp2_with fail
      go_ret
      exact ⟨rbool HE.out.symm, below_drewN' K1.out _⟩
     ·have t1 : decide (je < 0) = false := by simp; omega
      by_cases hl2 : (te.length : Int) ≤ je
      ·have t2 : decide ((te.length : Int) ≤ je) = true := by simp; exact hl2
       have HE : Hid (B = false) := by
        show _ = _
        cases hbb : B with
        | false => rfl
        | true =>
         have := HJ.out.1 hbb
         simp only [] at this
         rw [List.getElem?_eq_none (by omega)] at this
         simp at this
       go_wp2_with fail
       go_quiet (fail)
       go_wp2_with fail
       go_ret
       exact ⟨rbool HE.out.symm, below_drewN' K1.out _⟩
      ·have t2 : decide ((te.length : Int) ≤ je) = false := by simp; omega
       obtain ⟨m, rfl⟩ := Int.eq_ofNat_of_zero_le (by omega : 0 ≤ je)
       have hml : m < te.length := by omega
       by_cases hs : jt = sid ∧ (m : Int) = e
       ·have HE : Hid (B = false) := by show _ = _; cases hbb : B with | false => rfl | true => have := HJ.out.1 hbb; simp only [] at this; exact absurd hs this.1
        obtain ⟨rfl, hme⟩ := hs
        have t3 : ((m : Int) == (e : Int)) = true := by rw [beq_iff_eq]; exact hme
        clear hme
        go_wp2_with fail
        go_quiet (fail)
        go_wp2_with fail
        go_ret
        exact ⟨rbool HE.out.symm, below_drewN' K1.out _⟩
       ·obtain ⟨b3, o3, rfl, y0, y1⟩ := HEN.out.jn hml
        have HE : Hid (B = true ↔ (te[m].to = sid ∧ te[m].en = (e : Int))) := by
         show _ ↔ _
         rw [HJ.out]
         simp only [Int.toNat_natCast, List.getElem?_eq_getElem hml, Option.some.injEq]
         constructor
         ·rintro ⟨-, -, h⟩; rw [h]; exact ⟨rfl, rfl⟩
         ·rintro ⟨h1, h2⟩
          refine ⟨hs, by omega, ?_⟩
          cases hx : te[m] with
          | mk t0 t1 => rw [hx] at h1 h2; simp only [] at h1 h2; rw [h1, h2]
        have m0 : (0 : Int) ≤ (m : Int) := by omega
        have m1 : (m : Int) < (te.length : Int) := by omega
        have hways : ((jt == sid) = false ∨ ((jt == sid) = true ∧ ((m : Int) == (e : Int)) = false)) := by
         by_cases h0 : jt = sid
         ·right; exact ⟨by rw [beq_iff_eq]; exact h0, by rw [beq_eq_false_iff_ne]; intro h; exact hs ⟨h0, h⟩⟩
         ·left; rw [beq_eq_false_iff_ne]; exact h0
        clear hs
        generalize te[m].to = z0 at *
        generalize te[m].en = z1 at *
        rcases hways with q1 | ⟨q1, q2⟩
        all_goals
         go_wp2_with fail
         go_quiet (fail)
         go_wp2_with fail
         obtain ⟨w2, hw2⟩ : ∃ w2, w2 = w1.drewN nq := ⟨_, rfl⟩
         have X2 : w2.cell? ⟨b, off + k * 3 + 2, none⟩ = some (.slice (some ⟨b3, o3, none⟩) te.length c') := by rw [hw2]; exact x2
         have G1 : w2.cell? ⟨w.heap.size + 1, 1, none⟩ = some (.int .i64 (m : Int)) := by rw [hw2]; exact g1
         have Y0 : w2.cell? ⟨b3, o3 + m * 2, none⟩ = some (.int .i64 z0) := by rw [hw2]; exact y0
         have Y1 : w2.cell? ⟨b3, o3 + m * 2 + 1, none⟩ = some (.int .i64 z1) := by rw [hw2]; exact y1
         have F0 : w2.cell? ⟨w.heap.size, 0, none⟩ = some (.int .i64 sid) := by rw [hw2]; exact f0
         rw [← hw2]
         have K2 : Hid (Below w.heap.size w w2) := by show Below _ _ _; rw [hw2]; exact below_drewN' K1.out _
         have n1 := World.new_ne w2 _ X2
         have n2 := World.new_ne w2 _ Y0
         have n3 := World.new_ne w2 _ Y1
         have n4 := World.new_ne w2 _ G1
         have n5 := World.new_ne w2 _ F0
         have l5 : w.heap.size < w2.heap.size := block_lt_of_cell F0
         clear hw2 x0 x1 x2 y0 y1 g0 g1 f0 f1 f2 HL HEN HB HMM HZ HJ
         go_region_held3 (fun w' => w'.cell? ⟨b, off + k * 3 + 2, none⟩ = some (.slice (some ⟨b3, o3, none⟩) te.length c') ∧ w'.cell? ⟨w.heap.size + 1, 1, none⟩ = some (.int .i64 (m : Int)) ∧ w'.cell? ⟨b3, o3 + m * 2, none⟩ = some (.int .i64 z0) ∧ w'.cell? ⟨b3, o3 + m * 2 + 1, none⟩ = some (.int .i64 z1)) (go_keep) (fail)
         go_wp2_with fail
         all_goals
          go_ret
          refine ⟨rbool ?_, ?_⟩
          ·have h := HE.out
           rw [Bool.eq_iff_iff, h]
           simp
           try omega
          ·exact (K2.out.drew).alloc (Nat.le_trans K2.out.size (Nat.le_refl _)) _
  exact rest
theorem joined_any (a : Option Addr) (cap : Nat) (l : List Sec) (s : Sec) (a2 : Option Addr) (c2 : Nat) (e : Nat) (he : e < s.ends.length) (w : World) (hl : SlA w 3 RSec a cap l) (hs : SlA w 2 RJn a2 c2 s.ends) (hm : l.length ≤ 1000) (hmm : ∀ i (h : i < l.length), l[i].ends.length ≤ 1000) (hm2 : s.ends.length ≤ 1000) (hr : Rising l) :
  Calls Tryz.prog 310 #[.slice a l.length cap, secV s a2 c2, .int .i64 (e : Int)] w (BoolPost w (decide (Joined l s e s.ends[e]))) := by
 obtain ⟨b2, o2, rfl, hj0, hj1⟩ := hs.jn he
 refine joined_core a cap l s.id s.pt b2 o2 s.ends.length c2 e he s.ends[e] _ w hl hj0 hj1 hm hmm hm2 ⟨fun h => decide_eq_true (.inl h), fun h1 h2 => decide_eq_false (joined_none h1 h2), fun k hk h1 h2 => ?_⟩
 rw [decide_eq_true_iff]
 exact joined_at hr hk h1 h2
end Go.Proofs.YtbiehpjhhopjaaaGreat
