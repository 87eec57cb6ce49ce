/-
 track.Check, walked.
-/
import Derived.Test.YtbiehpjhhopjaaaGreatTTrackD
import Derived.Test.YtbiehpjhhopjaaaGreatTMem
set_option linter.unusedVariables false
namespace Go.Proofs.YtbiehpjhhopjaaaGreat
open Go.RowKit Go.Sort
def BoolRow (W : World) (g n : Nat) (T : TypeId) (f : Nat → Bool) : Prop := ∃ cur : Array Value, W.heap[g]? = some (.cells cur T (0, 0)) ∧ cur.size = n ∧ ∀ q, q < n → cur[q]? = some (.bool (f q))
section
variable {W W' : World} {g n : Nat} {T : TypeId} {f : Nat → Bool}
theorem BoolRow.lt (h : BoolRow W g n T f) : g < W.heap.size := by
 obtain ⟨cur, hc, -, -⟩ := h
 rcases Nat.lt_or_ge g W.heap.size with h | h
 ·exact h
 ·rw [Array.getElem?_eq_none h] at hc; cases hc
theorem BoolRow.cell (h : BoolRow W g n T f) {q : Nat} (hq : q < n) : W.cell? ⟨g, q, none⟩ = some (.bool (f q)) := by
 obtain ⟨cur, hc, -, hx⟩ := h
 rw [cell_of_row W g q cur T _ hc]; exact hx q hq
theorem BoolRow.frozen (h : BoolRow W g n T f) (q : Nat) : W.frozen? ⟨g, q, none⟩ = false := by
 obtain ⟨cur, hc, -, -⟩ := h
 simp [World.frozen?, hc]
theorem BoolRow.below (h : BoolRow W g n T f) (hb : Below W.heap.size W W') : BoolRow W' g n T f := by
 have hl := h.lt
 obtain ⟨cur, hc, hs, hx⟩ := h
 exact ⟨cur, (hb.block g hl).trans hc, hs, hx⟩
theorem BoolRow.set (h : BoolRow W g n T f) {q : Nat} (hq : q < n) (b : Bool) : BoolRow (W.setCell ⟨g, q, none⟩ (.bool b)) g n T (fun i => if i = q then b else f i) := by
 obtain ⟨cur, hc, hs, hx⟩ := h
 refine ⟨cur.setIfInBounds q (.bool b), by simp [World.setCell, Array.getElem?_modify, hc], by simp [hs], fun i hi => ?_⟩
 rw [Array.getElem?_setIfInBounds]
 by_cases hiq : q = i
 ·subst hiq
  simp [hs, hq]
 ·rw [if_neg hiq]
  simp only [if_neg (Ne.symm hiq)]
  exact hx i hi
theorem BoolRow.new (W : World) (cs : Array Value) (T : TypeId) (hs : cs.size = n) (hx : ∀ q, q < n → cs[q]? = some (.bool false)) : BoolRow (W.alloc (.cells cs T)) W.heap.size n T (fun _ => false) := ⟨cs, heap_alloc_new W _, hs, hx⟩
theorem BoolRow.congr (h : BoolRow W g n T f) {f' : Nat → Bool} (he : ∀ q, q < n → f q = f' q) : BoolRow W g n T f' := by
 obtain ⟨cur, hc, hs, hx⟩ := h
 exact ⟨cur, hc, hs, fun q hq => by rw [← he q hq]; exact hx q hq⟩
end
def ErrPost (w : World) (n : Int) (e : Ending) (w' : World) : Prop := e = .returned (.int .i64 n) ∧ Below w.heap.size w w'
def ptsOf (l : List Sec) (k : Nat) (q : Nat) : Bool := decide (0 < q ∧ ∃ m, ∃ h : m < l.length, m < k ∧ l[m].pt = (q : Int))
theorem zero279 : Tryz.zeroCells279 = Array.replicate 100 (.bool false) := by kernel_rfl
theorem zero279_at (q : Nat) (h : q < 100) : Tryz.zeroCells279[q]? = some (.bool false) := by rw [zero279]; simp [h]
theorem ptsOf_zero (l : List Sec) (q : Nat) : ptsOf l 0 q = false := decide_eq_false fun h => by obtain ⟨_, m, _, h2, _⟩ := h; omega
theorem ptsOf_step {l : List Sec} {k : Nat} (h : k < l.length) (p : Nat) (hp : l[k].pt = (p : Int)) (q : Nat) : (if q = p then decide (0 < p) else ptsOf l k q) = ptsOf l (k + 1) q := by
 unfold ptsOf
 by_cases hq : q = p
 ·subst hq
  rw [if_pos rfl]
  apply decide_eq_decide.2
  exact ⟨fun h1 => ⟨h1, k, h, by omega, hp⟩, fun h1 => h1.1⟩
 ·rw [if_neg hq]
  apply decide_eq_decide.2
  constructor
  ·rintro ⟨h1, m, hm, h2, h3⟩; exact ⟨h1, m, hm, by omega, h3⟩
  ·rintro ⟨h1, m, hm, h2, h3⟩
   refine ⟨h1, m, hm, ?_, h3⟩
   by_cases e : m = k
   ·subst e; rw [hp] at h3; omega
   ·omega
def BadAt (l : List Sec) (k : Nat) (h : k < l.length) : Prop :=
 (decide (1 ≤ l[k].id) && decide (l[k].id ≤ 99)) = false ∨
 ((decide (1 ≤ l[k].id) && decide (l[k].id ≤ 99)) = true ∧ decide l[k].Shaped = false) ∨
 ((decide (1 ≤ l[k].id) && decide (l[k].id ≤ 99)) = true ∧ decide l[k].Shaped = true ∧ ∃ h' : 0 < k, l[k].id ≤ l[k - 1].id) ∨
 ((decide (1 ≤ l[k].id) && decide (l[k].id ≤ 99)) = true ∧ decide l[k].Shaped = true ∧ (∀ h' : 0 < k, l[k - 1].id < l[k].id) ∧ ptsOf l k l[k].pt.toNat = true)
def GoodAt (l : List Sec) (k : Nat) (h : k < l.length) : Prop :=
 (decide (1 ≤ l[k].id) && decide (l[k].id ≤ 99)) = true ∧ decide l[k].Shaped = true ∧ (∀ h' : 0 < k, l[k - 1].id < l[k].id) ∧ ptsOf l k l[k].pt.toNat = false
theorem shaped_pt {s : Sec} (h : s.Shaped) : 0 ≤ s.pt ∧ s.pt ≤ 99 := by
 rcases h with ⟨h, _⟩ | ⟨h1, h2, _⟩
 ·omega
 ·omega
theorem good_or_bad (l : List Sec) (k : Nat) (h : k < l.length) : GoodAt l k h ∨ BadAt l k h := by
 unfold GoodAt BadAt
 cases h1 : (decide (1 ≤ l[k].id) && decide (l[k].id ≤ 99)) with
 | false => right; left; rfl
 | true =>
  cases h2 : decide l[k].Shaped with
  | false => right; right; left; exact ⟨rfl, rfl⟩
  | true =>
   by_cases h3 : ∃ h' : 0 < k, l[k].id ≤ l[k - 1].id
   ·right; right; right; left; exact ⟨rfl, rfl, h3⟩
   ·have h3 : ∀ h' : 0 < k, l[k - 1].id < l[k].id := fun h' => by
     rcases Int.lt_or_le l[k - 1].id l[k].id with h | h
     ·exact h
     ·exact absurd ⟨h', h⟩ h3
    cases h4 : ptsOf l k l[k].pt.toNat with
    | false => left; exact ⟨rfl, rfl, h3, rfl⟩
    | true => right; right; right; right; exact ⟨rfl, rfl, h3, rfl⟩
theorem good_step {l : List Sec} {k : Nat} (h : k < l.length) (hA : SecsA l k) (hg : GoodAt l k h) : SecsA l (k + 1) := by
 obtain ⟨h1, h2, h3, h4⟩ := hg
 rw [Bool.and_eq_true, decide_eq_true_iff, decide_eq_true_iff] at h1
 have hs : l[k].Shaped := by simpa using h2
 have hp := shaped_pt hs
 refine secsA_step h hA ⟨h1.1, h1.2, hs⟩ fun j hj _ => ⟨?_, fun hz e => ?_⟩
 ·have h5 := h3 (by omega)
  by_cases e : j = k - 1
  ·subst e; exact h5
  ·have := ((hA (k - 1) (by omega) (by omega)).2 j (by omega)).1
   omega
 ·unfold ptsOf at h4
  rw [decide_eq_false_iff_not] at h4
  exact h4 ⟨by omega, j, by omega, hj, by rw [e]; omega⟩
theorem bad_no {l : List Sec} {k : Nat} (h : k < l.length) (hb : BadAt l k h) : ¬ SecsA l l.length := by
 intro hA
 obtain ⟨⟨h1, h2, h3⟩, h4⟩ := hA k h h
 rcases hb with hb | ⟨_, hb⟩ | ⟨_, _, h', hb⟩ | ⟨_, _, _, hb⟩
 ·rw [Bool.and_eq_false_iff, decide_eq_false_iff_not, decide_eq_false_iff_not] at hb
  omega
 ·exact (decide_eq_false_iff_not.1 hb) h3
 ·have := (h4 (k - 1) (by omega)).1; omega
 ·unfold ptsOf at hb
  rw [decide_eq_true_iff] at hb
  obtain ⟨h5, m, hm, hmk, h6⟩ := hb
  have hp := shaped_pt h3
  exact (h4 m hmk).2 (by omega) (by rw [h6]; omega)
set_option maxRecDepth 100000 in
set_option maxHeartbeats 4000000 in
theorem check_any (a : Option Addr) (cap : Nat) (l : List Sec) (w : World) (hl : SlA w 3 RSec a cap l) (hm : l.length ≤ 1000) (hmm : ∀ i (h : i < l.length), l[i].ends.length ≤ 1000) :
  Calls Tryz.prog 295 #[.slice a l.length cap] w (ErrPost w (if SecsMay l then 0 else 8)) := by
 have HL : Hid (∀ w', Below w.heap.size w w' → SlA w' 3 RSec a cap l) := fun w' hb => hl.below keeps_sec hb
 have HMM := Lib.hid hmm
 clear hl hmm
 have HNL : Hid (¬ l.length ≤ 16 → (if SecsMay l then (0 : Int) else 8) = 8) := fun h => if_neg fun h' => h h'.1
 have HNA : Hid (¬ SecsA l l.length → (if SecsMay l then (0 : Int) else 8) = 8) := fun h => if_neg fun h' => h h'.2.1
 have HNB : Hid (¬ SecsB l l.length → (if SecsMay l then (0 : Int) else 8) = 8) := fun h => if_neg fun h' => h h'.2.2
 have HY : Hid (l.length ≤ 16 → SecsA l l.length → SecsB l l.length → (if SecsMay l then (0 : Int) else 8) = 0) := fun h0 h1 h2 => if_pos ⟨h0, h1, h2⟩
 generalize (if SecsMay l then (0 : Int) else 8) = E at *
 by_cases hbig : 16 < l.length
 ·have hd : decide ((16 : Int) < (l.length : Int)) = true := by simp; omega
  have HE := Lib.hid (HNL.out (by omega))
  go_enter Tryz.func295, Tryz.ntmps295
  go_wp2_with fail
  go_ret
  exact ⟨rint HE.out.symm, Below.refl _ _⟩
 ·have hd : decide ((16 : Int) < (l.length : Int)) = false := by simp; omega
  have h16 : l.length ≤ 16 := by omega
  go_enter Tryz.func295, Tryz.ntmps295
  go_wp2_with fail
  have hR0 : BoolRow (w.alloc (.cells Tryz.zeroCells279 279)) w.heap.size 100 279 (ptsOf l 0) := (BoolRow.new w _ _ (by rw [zero279]; simp) zero279_at).congr fun q _ => (ptsOf_zero l q).symm
  have HR0 := Lib.hid hR0
  clear hR0
  go_loopg [18] l.length (fun g i wr => ∃ k : Nat, k ≤ l.length ∧ g = l.length - k ∧ i = .int .i64 k ∧ Below w.heap.size w wr ∧ SecsA l k ∧ BoolRow wr w.heap.size 100 279 (ptsOf l k))
  case atStart => exact ⟨0, by omega, by omega, rfl, (Below.refl _ _).alloc (Nat.le_refl _) _, fun i h h0 => by omega, HR0.out⟩
  case round =>
   obtain ⟨k, hk, rfl, rfl, hb, hA, hR⟩ := hrel
   obtain ⟨wo, rfl⟩ : ∃ wo : World, wo = wr := ⟨_, rfl⟩
   have HB := Lib.hid hb
   have HA := Lib.hid hA
   have HR := Lib.hid hR
   clear hb hA hR
   by_cases hlt : k < l.length
   ·have hdk : decide ((k : Int) < (l.length : Int)) = true := by simp; omega
    obtain ⟨b, off, a', c', rfl, x0, x1, x2, hends⟩ := (HL.out _ HB.out).sec hlt
    have c0 : (0 : Int) ≤ (k : Int) := by omega
    have c1 : (k : Int) < (l.length : Int) := by omega
    have l1 := World.block_lt_of_cell? _ _ x0
    go_wp2_with fail
    generalize hW : wo.alloc (.cells #[.int .i64 l[k].id, .int .i64 l[k].pt, .slice a' l[k].ends.length c'] 80) = W
    have hbW : Below wo.heap.size wo W := by rw [← hW]; exact (Below.refl _ _).alloc (Nat.le_refl _) _
    have K0 : Hid (Below w.heap.size w W) := HB.out.trans (hbW.mono HB.out.size)
    have HY1 : Hid (W.cell? ⟨wo.heap.size, 1, none⟩ = some (.int .i64 l[k].pt)) := by show _ = _; rw [← hW]; simp
    have y0 := cell_regrown (show W.cell? ⟨wo.heap.size, 0, none⟩ = some (.int .i64 l[k].id) by rw [← hW]; simp)
    have y1 := cell_regrown (show W.cell? ⟨wo.heap.size, 1, none⟩ = some (.int .i64 l[k].pt) by rw [← hW]; simp)
    have y2 := cell_regrown (show W.cell? ⟨wo.heap.size, 2, none⟩ = some (.slice a' l[k].ends.length c') by rw [← hW]; simp)
    have HRW := Lib.hid (HR.out.below hbW)
    have cS : Hid (∀ d os, Calls Tryz.prog 374 #[.agg #[.int .i64 l[k].id, .int .i64 l[k].pt, .slice a' l[k].ends.length c']] (grow (redrawn W d) os) fun e w'' => e = .returned (.bool (decide l[k].Shaped)) ∧ ∃ p : Regrown, w'' = grow (redrawn W p.d) p.os) := fun d os => Calls.regrown_of (shaped_any l[k] a' c' _)
    have cN : Hid (∀ d os, Calls Tryz.prog 373 #[.int .i64 l[k].id] (grow (redrawn W d) os) fun e w'' => e = .returned (.bool (decide (1 ≤ l[k].id) && decide (l[k].id ≤ 99))) ∧ ∃ p : Regrown, w'' = grow (redrawn W p.d) p.os) := fun d os => (numbered_any l[k].id _).mono fun e w' ⟨h1, h2⟩ => ⟨h1, ⟨d, os⟩, h2.symm⟩
    have HP : Hid (∀ h' : 0 < k, ∃ hk1 : k - 1 < l.length, ∀ d os, (grow (redrawn W d) os).cell? ⟨b, off + (k - 1) * 3, none⟩ = some (.int .i64 l[k - 1].id)) := fun h' => ⟨by omega, by
     obtain ⟨b', off', _, _, e, z0, -⟩ := (HL.out _ K0.out).sec (show k - 1 < l.length by omega)
     cases e
     exact cell_regrown z0⟩
    clear hW hends x0 x1 x2 hbW
    rcases good_or_bad l k hlt with hg | hbad
    ·have HG := Lib.hid (good_step hlt HA.out hg)
     have HST : Hid (∀ W', BoolRow W' w.heap.size 100 279 (ptsOf l k) → BoolRow (W'.setCell ⟨w.heap.size, l[k].pt.toNat, none⟩ (.bool (decide (0 < l[k].pt)))) w.heap.size 100 279 (ptsOf l (k + 1))) := fun W' h => by
      have hsh : l[k].Shaped := by simpa using hg.2.1
      have hp := shaped_pt hsh
      refine (h.set (q := l[k].pt.toNat) (by omega) _).congr fun q hq => ?_
      have := ptsOf_step hlt l[k].pt.toNat (by omega) q
      rw [← this]
      by_cases e : q = l[k].pt.toNat
      ·rw [if_pos e, if_pos e]; apply decide_eq_decide.2; omega
      ·rw [if_neg e, if_neg e]
     have y1' : W.cell? ⟨wo.heap.size, 1, none⟩ = some (.int .i64 l[k].pt) := HY1.out
     obtain ⟨h1, h2, h3, h4⟩ := hg
     have hsh : l[k].Shaped := by simpa using h2
     have hp := shaped_pt hsh
     have p0 : (0 : Int) ≤ l[k].pt := hp.1
     have p1 : l[k].pt < 100 := by have := hp.2; omega
     have r0 := cell_regrown (HRW.out.cell (q := l[k].pt.toNat) (by omega))
     rw [h4] at r0
     rw [h1] at cN
     rw [h2] at cS
     clear h1 h2 h4 hsh hp
     rcases Nat.eq_zero_or_pos k with hk0 | hk0
     ·have t0 : decide ((0 : Int) < (k : Int)) = false := by simp; omega
      have t0' : decide (0 < k) = false := by simp; omega
      clear hk0 h3
      refine wp_region_quiet_below (by kernel_rfl) (by kernel_rfl) ?_
      repeat (go_big_quiet_step (first | (with_reducible exact cN.out _ _) | (with_reducible exact cS.out _ _)))
      refine wpQuiet_nil ?_
      rintro _ ⟨⟨dq, osq⟩, rfl⟩
      have hb2 := below_regrown W dq osq
      generalize grow (redrawn W dq) osq = W2 at *
      have K2 : Hid (Below w.heap.size w W2) := K0.out.trans (hb2.mono K0.out.size)
      have HR2 := Lib.hid (HRW.out.below hb2)
      have v1 : W2.cell? ⟨wo.heap.size, 1, none⟩ = some (.int .i64 l[k].pt) := ccell hb2 y1'
      have v2 := HR2.out.cell (q := l[k].pt.toNat) (by omega)
      have v3 := HR2.out.frozen l[k].pt.toNat
      clear hb2 y0 y1 y2 r0 cN cS
      go_wp2_with fail
      go_roundg (l.length - (k + 1))
      case measure => go_light; omega
      case rel => go_light; exact ⟨k + 1, by omega, by omega, by go_num, K2.out.setCell (by simp) _, HG.out, HST.out _ HR2.out⟩
     ·obtain ⟨hk1, z0⟩ := HP.out hk0
      have t0 : decide ((0 : Int) < (k : Int)) = true := by simp; omega
      have t1 : decide (l[k].id ≤ l[k - 1].id) = false := by have := h3 hk0; simp; omega
      have i0 : (0 : Int) ≤ (k : Int) - 1 := by omega
      have i1 : (k : Int) - 1 < (l.length : Int) := by omega
      have i2 : ((k : Int) - 1).toNat = k - 1 := by omega
      clear h3
      refine wp_region_quiet_below (by kernel_rfl) (by kernel_rfl) ?_
      repeat (go_big_quiet_step (first | (with_reducible exact cN.out _ _) | (with_reducible exact cS.out _ _)))
      refine wpQuiet_nil ?_
      rintro _ ⟨⟨dq, osq⟩, rfl⟩
      have hb2 := below_regrown W dq osq
      generalize grow (redrawn W dq) osq = W2 at *
      have K2 : Hid (Below w.heap.size w W2) := K0.out.trans (hb2.mono K0.out.size)
      have HR2 := Lib.hid (HRW.out.below hb2)
      have v1 : W2.cell? ⟨wo.heap.size, 1, none⟩ = some (.int .i64 l[k].pt) := ccell hb2 y1'
      have v2 := HR2.out.cell (q := l[k].pt.toNat) (by omega)
      have v3 := HR2.out.frozen l[k].pt.toNat
      clear hb2 y0 y1 y2 r0 cN cS
      go_wp2_with fail
      go_roundg (l.length - (k + 1))
      case measure => go_light; omega
      case rel => go_light; exact ⟨k + 1, by omega, by omega, by go_num, K2.out.setCell (by simp) _, HG.out, HST.out _ HR2.out⟩
    ·have HE := Lib.hid (HNA.out (bad_no hlt hbad))
     rcases hbad with h1 | ⟨h1, h2⟩ | ⟨h1, h2, h', h3⟩ | ⟨h1, h2, h3, h4⟩
     ·rw [h1] at cN
      clear h1
      refine wp_region_quiet_below (by kernel_rfl) (by kernel_rfl) ?_
      repeat (go_big_quiet_step (first | (with_reducible exact cN.out _ _) | (with_reducible exact cS.out _ _)))
      refine wpQuiet_nil ?_
      rintro _ ⟨⟨dq, osq⟩, rfl⟩
      go_wp2_with fail
      go_ret
      exact ⟨rint HE.out.symm, K0.out.trans ((below_regrown W dq osq).mono K0.out.size)⟩
     ·rw [h1] at cN
      rw [h2] at cS
      clear h1 h2
      refine wp_region_quiet_below (by kernel_rfl) (by kernel_rfl) ?_
      repeat (go_big_quiet_step (first | (with_reducible exact cN.out _ _) | (with_reducible exact cS.out _ _)))
      refine wpQuiet_nil ?_
      rintro _ ⟨⟨dq, osq⟩, rfl⟩
      go_wp2_with fail
      go_ret
      exact ⟨rint HE.out.symm, K0.out.trans ((below_regrown W dq osq).mono K0.out.size)⟩
     ·rw [h1] at cN
      rw [h2] at cS
      obtain ⟨hk1, z0⟩ := HP.out h'
      have t0 : decide ((0 : Int) < (k : Int)) = true := by simp; omega
      have t1 : decide (l[k].id ≤ l[k - 1].id) = true := by simpa using h3
      have i0 : (0 : Int) ≤ (k : Int) - 1 := by omega
      have i1 : (k : Int) - 1 < (l.length : Int) := by omega
      have i2 : ((k : Int) - 1).toNat = k - 1 := by omega
      clear h1 h2 h3
      refine wp_region_quiet_below (by kernel_rfl) (by kernel_rfl) ?_
      repeat (go_big_quiet_step (first | (with_reducible exact cN.out _ _) | (with_reducible exact cS.out _ _)))
      refine wpQuiet_nil ?_
      rintro _ ⟨⟨dq, osq⟩, rfl⟩
      go_wp2_with fail
      go_ret
      exact ⟨rint HE.out.symm, K0.out.trans ((below_regrown W dq osq).mono K0.out.size)⟩
     ·have hsh : l[k].Shaped := by simpa using h2
      have hp := shaped_pt hsh
      have p0 : (0 : Int) ≤ l[k].pt := hp.1
      have p1 : l[k].pt < 100 := by have := hp.2; omega
      have r0 := cell_regrown (HRW.out.cell (q := l[k].pt.toNat) (by omega))
      rw [h4] at r0
      rw [h1] at cN
      rw [h2] at cS
      clear h1 h2 h4 hsh hp
      rcases Nat.eq_zero_or_pos k with hk0 | hk0
      ·have t0 : decide ((0 : Int) < (k : Int)) = false := by simp; omega
       have t0' : decide (0 < k) = false := by simp; omega
       clear hk0 h3
       refine wp_region_quiet_below (by kernel_rfl) (by kernel_rfl) ?_
       repeat (go_big_quiet_step (first | (with_reducible exact cN.out _ _) | (with_reducible exact cS.out _ _)))
       refine wpQuiet_nil ?_
       rintro _ ⟨⟨dq, osq⟩, rfl⟩
       go_wp2_with fail
       go_ret
       exact ⟨rint HE.out.symm, K0.out.trans ((below_regrown W dq osq).mono K0.out.size)⟩
      ·obtain ⟨hk1, z0⟩ := HP.out hk0
       have t0 : decide ((0 : Int) < (k : Int)) = true := by simp; omega
       have t1 : decide (l[k].id ≤ l[k - 1].id) = false := by have := h3 hk0; simp; omega
       have i0 : (0 : Int) ≤ (k : Int) - 1 := by omega
       have i1 : (k : Int) - 1 < (l.length : Int) := by omega
       have i2 : ((k : Int) - 1).toNat = k - 1 := by omega
       clear h3
       refine wp_region_quiet_below (by kernel_rfl) (by kernel_rfl) ?_
       repeat (go_big_quiet_step (first | (with_reducible exact cN.out _ _) | (with_reducible exact cS.out _ _)))
       refine wpQuiet_nil ?_
       rintro _ ⟨⟨dq, osq⟩, rfl⟩
       go_wp2_with fail
       go_ret
       exact ⟨rint HE.out.symm, K0.out.trans ((below_regrown W dq osq).mono K0.out.size)⟩
   ·obtain rfl : k = l.length := by omega
    have hdk : decide ((l.length : Int) < (l.length : Int)) = false := by simp
    have hr := Lib.hid (rising_of HA.out)
    clear HR
    go_wp2_with fail
    go_loopg [62] l.length (fun g i wi => ∃ k : Nat, k ≤ l.length ∧ g = l.length - k ∧ i = .int .i64 k ∧ Below w.heap.size w wi ∧ SecsB l k)
    case atStart => exact ⟨0, by omega, by omega, rfl, HB.out, fun i h h0 => by omega⟩
    case round =>
     obtain ⟨k, hk2, rfl, rfl, hb2, hB2⟩ := hrel
     obtain ⟨wi, rfl⟩ : ∃ wi : World, wi = wr := ⟨_, rfl⟩
     have HBi := Lib.hid hb2
     have HBB := Lib.hid hB2
     clear hb2 hB2
     by_cases hlt : k < l.length
     ·have hdk : decide ((k : Int) < (l.length : Int)) = true := by simp; omega
      have c0 : (0 : Int) ≤ (k : Int) := by omega
      have c1 : (k : Int) < (l.length : Int) := by omega
      have hmk := HMM.out k hlt
      obtain ⟨b, off, a', c', rfl, u0, u1, u2, hen⟩ := (HL.out _ (Below.refl _ _)).sec hlt
      have HEN : Hid (∀ w', Below w.heap.size w w' → SlA w' 2 RJn a' c' l[k].ends) := fun w' h => hen.below keeps_jn h
      have x0 := ccell HBi.out u0
      have x1 := ccell HBi.out u1
      have x2 := ccell HBi.out u2
      clear u0 u1 u2 hen
      have l1 := World.block_lt_of_cell? _ _ x0
      go_wp2_with fail
      go_loopg [69] l[k].ends.length (fun g i wj => ∃ m : Nat, m ≤ l[k].ends.length ∧ g = l[k].ends.length - m ∧ i = .int .i64 m ∧ Below w.heap.size w wj ∧ SecB1 l k hlt m ∧ wj.cell? ⟨wi.heap.size, 0, none⟩ = some (.int .i64 l[k].id))
      case atStart => exact ⟨0, by omega, by omega, rfl, HBi.out.alloc HBi.out.size _, fun j hj h0 => by omega, by simp⟩
      case round =>
       obtain ⟨m, hmk2, rfl, rfl, hb3, hB3, hs0⟩ := hrel
       obtain ⟨wj, rfl⟩ : ∃ wj : World, wj = wr := ⟨_, rfl⟩
       have HBj := Lib.hid hb3
       have HB1 := Lib.hid hB3
       clear hb3 hB3 x0 x1 x2
       have l2 := World.block_lt_of_cell? _ _ hs0
       by_cases hm2 : m < l[k].ends.length
       ·have hdm : decide ((m : Int) < (l[k].ends.length : Int)) = true := by simp; omega
        obtain ⟨b2, off2, rfl, y0, y1⟩ := (HEN.out _ HBj.out).jn hm2
        have l3 := World.block_lt_of_cell? _ _ y0
        have m0 : (0 : Int) ≤ (m : Int) := by omega
        have m1 : (m : Int) < (l[k].ends.length : Int) := by omega
        have HNOB : Hid (¬ Joined l l[k] m l[k].ends[m] → E = 8) := fun h => HNB.out (secsB_no hlt hm2 h)
        have HOKB : Hid (Joined l l[k] m l[k].ends[m] → SecB1 l k hlt (m + 1)) := fun h e he hem => by
         by_cases h' : e = m
         ·subst h'; exact h
         ·exact HB1.out e he (by omega)
        have HJN : Hid ((∀ i (h : i < l.length), decide (l[i].id = l[k].ends[m].to) = false) → ¬ (l[k].ends[m].to = 0 ∧ l[k].ends[m].en = 0) → ¬ Joined l l[k] m l[k].ends[m]) := fun h1 h2 => joined_none h1 h2
        have HJA : Hid (∀ k2 (h2 : k2 < l.length), l[k2].id = l[k].ends[m].to → ¬ (l[k].ends[m].to = 0 ∧ l[k].ends[m].en = 0) → (Joined l l[k] m l[k].ends[m] ↔ (¬ (l[k].ends[m].to = l[k].id ∧ l[k].ends[m].en = m) ∧ 0 ≤ l[k].ends[m].en ∧ l[k2].ends[l[k].ends[m].en.toNat]? = some ⟨l[k].id, m⟩))) := fun k2 h2 h3 h4 => joined_at hr.out h2 h3 h4
        have HJZ : Hid ((l[k].ends[m].to = 0 ∧ l[k].ends[m].en = 0) → Joined l l[k] m l[k].ends[m]) := fun h => .inl h
        generalize Joined l l[k] m l[k].ends[m] = Q at *
        generalize l[k].ends[m].to = jt at *
        generalize l[k].ends[m].en = je at *
        generalize hsi : l[k].id = sid at *
        have HSI := Lib.hid hsi
        clear hsi
        generalize l[k].ends.length = ne at *
        by_cases hz : jt = 0 ∧ je = 0
        ·have HO := Lib.hid (HOKB.out (HJZ.out hz))
         have ez : ∀ w, Sem.run Tryz.prog (binOp .eql 133 (.agg #[.int .i64 jt, .int .i64 je]) (.agg #[.int .i64 0, .int .i64 0])) w = .ok (.bool true) w := fun w => by rw [eql_jn, decide_eq_true hz]
         clear hz
         go_wp2_with fail
         go_roundg (ne - (m + 1))
         case measure => go_light; omega
         case rel => go_light; exact ⟨m + 1, by omega, by omega, by go_num, HBj.out.alloc HBj.out.size _, HO.out, (World.cell?_alloc_lt _ _ _ l2).trans hs0⟩
        ·have ez : ∀ w, Sem.run Tryz.prog (binOp .eql 133 (.agg #[.int .i64 jt, .int .i64 je]) (.agg #[.int .i64 0, .int .i64 0])) w = .ok (.bool false) w := fun w => by rw [eql_jn, decide_eq_false hz]
         have HZ := Lib.hid hz
         clear hz
         go_wp2_with fail
         have KA : Hid (Below w.heap.size w ((wj.alloc (.cells #[.int .i64 jt, .int .i64 je] 133)).alloc (.cells #[.int .i64 sid, .int .i64 (m : Int)] 133))) := (HBj.out.alloc HBj.out.size _).alloc (by have := HBj.out.size; simp; omega) _
         refine (place_any _ cap l jt _ (HL.out _ KA.out) hm hr.out).mono ?_
         rintro e0 w1 ⟨k2, bb, rfl, hpl, hb1⟩
         have K1 : Hid (Below w.heap.size w w1) := KA.out.trans (hb1.mono KA.out.size)
         have f0 : w1.cell? ⟨wj.heap.size, 0, none⟩ = some (.int .i64 jt) := ccell hb1 (by simp)
         have f1 : w1.cell? ⟨wj.heap.size, 1, none⟩ = some (.int .i64 je) := ccell hb1 (by simp)
         have g0 : w1.cell? ⟨wj.heap.size + 1, 0, none⟩ = some (.int .i64 sid) := ccell hb1 (by simp)
         have g1 : w1.cell? ⟨wj.heap.size + 1, 1, none⟩ = some (.int .i64 (m : Int)) := ccell hb1 (by simp)
         have s0 : w1.cell? ⟨wi.heap.size, 0, none⟩ = some (.int .i64 sid) := ccell hb1 ((World.cell?_alloc_lt _ _ _ (by simp; omega)).trans ((World.cell?_alloc_lt _ _ _ l2).trans hs0))
         have HPL := Lib.hid hpl
         clear hb1 hpl hs0
         cases bb with
         | false =>
          have HE := Lib.hid (HNOB.out (HJN.out (fun i h => decide_eq_false (HPL.out.2.2 rfl i h)) HZ.out))
          go_wp2_with fail
          go_quiet (fail)
          go_wp2_with fail
          go_ret
          exact ⟨rint HE.out.symm, below_drewN' K1.out _⟩
         | true =>
          obtain ⟨hk2l, hid2⟩ := HPL.out.2.1 rfl
          have HJ := Lib.hid (HJA.out k2 hk2l hid2 HZ.out)
          obtain ⟨b3, off3, a3, c3, e3, x0, x1, x2, hends⟩ := (HL.out _ K1.out).sec hk2l
          cases e3
          have HEN3 := Lib.hid hends
          have hm3 := HMM.out k2 hk2l
          have d0 : (0 : Int) ≤ (k2 : Int) := by omega
          have d1 : (k2 : Int) < (l.length : Int) := by omega
          clear hends hid2
          generalize l[k2].ends = te at *
          by_cases hs : jt = sid ∧ je = (m : Int)
          ·have HE := Lib.hid (HNOB.out (fun h => (HJ.out.1 h).1 hs))
           have eo : ∀ w, Sem.run Tryz.prog (binOp .eql 133 (.agg #[.int .i64 jt, .int .i64 je]) (.agg #[.int .i64 sid, .int .i64 (m : Int)])) w = .ok (.bool true) w := fun w => by rw [eql_jn, decide_eq_true hs]
           clear hs
           go_wp2_with fail
           go_quiet (fail)
           go_wp2_with fail
           go_ret
           exact ⟨rint HE.out.symm, below_drewN' K1.out _⟩
          ·have eo : ∀ w, Sem.run Tryz.prog (binOp .eql 133 (.agg #[.int .i64 jt, .int .i64 je]) (.agg #[.int .i64 sid, .int .i64 (m : Int)])) w = .ok (.bool false) w := fun w => by rw [eql_jn, decide_eq_false hs]
           have HS := Lib.hid hs
           clear hs
           by_cases hn : je < 0
           ·have t1 : decide (je < 0) = true := by simp; exact hn
            have HE := Lib.hid (HNOB.out (fun h => by have := (HJ.out.1 h).2.1; omega))
            go_wp2_with fail
            go_quiet (fail)
            go_wp2_with fail
            go_ret
            exact ⟨rint HE.out.symm, below_drewN' K1.out _⟩
           ·have t1 : decide (je < 0) = false := by simp; omega
            by_cases hl2 : (te.length : Int) ≤ je
            ·have t2 : decide ((te.length : Int) ≤ je) = true := by simp; exact hl2
             have HE := Lib.hid (HNOB.out (fun h => by have := (HJ.out.1 h).2.2; rw [List.getElem?_eq_none (by omega)] at this; simp at this))
             go_wp2_with fail
             go_quiet (fail)
             go_wp2_with fail
             go_ret
             exact ⟨rint HE.out.symm, below_drewN' K1.out _⟩
            ·have t2 : decide ((te.length : Int) ≤ je) = false := by simp; omega
             obtain ⟨n, rfl⟩ := Int.eq_ofNat_of_zero_le (by omega : 0 ≤ je)
             have hnl : n < te.length := by omega
             obtain ⟨b4, o4, rfl, z0, z1⟩ := HEN3.out.jn hnl
             have n0 : (0 : Int) ≤ (n : Int) := by omega
             have n1 : (n : Int) < (te.length : Int) := by omega
             have HQ : Hid (Q ↔ (te[n].to = sid ∧ te[n].en = (m : Int))) := by
              show _ ↔ _
              rw [HJ.out]
              simp only [Int.toNat_natCast, List.getElem?_eq_getElem hnl, Option.some.injEq]
              constructor
              ·rintro ⟨-, -, h⟩; rw [h]; exact ⟨rfl, rfl⟩
              ·rintro ⟨h1, h2⟩
               refine ⟨HS.out, by omega, ?_⟩
               cases hx : te[n] with
               | mk t0 t1 => rw [hx] at h1 h2; simp only [] at h1 h2; rw [h1, h2]
             generalize te[n].to = q0 at *
             generalize te[n].en = q1 at *
             by_cases hq : q0 = sid ∧ q1 = (m : Int)
             ·have HO := Lib.hid (HOKB.out (HQ.out.2 hq))
              have en : ∀ w, Sem.run Tryz.prog (binOp .neq 133 (.agg #[.int .i64 q0, .int .i64 q1]) (.agg #[.int .i64 sid, .int .i64 (m : Int)])) w = .ok (.bool false) w := fun w => by rw [neq_jn, decide_eq_true hq]; rfl
              clear hq
              go_wp2_with fail
              go_quiet (fail)
              go_wp2_with fail
              go_roundg (ne - (m + 1))
              case measure => go_light; omega
              case rel => go_light; exact ⟨m + 1, by omega, by omega, by go_num, below_drewN' K1.out _, HO.out, s0⟩
             ·have HE := Lib.hid (HNOB.out (fun h => hq (HQ.out.1 h)))
              have en : ∀ w, Sem.run Tryz.prog (binOp .neq 133 (.agg #[.int .i64 q0, .int .i64 q1]) (.agg #[.int .i64 sid, .int .i64 (m : Int)])) w = .ok (.bool true) w := fun w => by rw [neq_jn, decide_eq_false hq]; rfl
              clear hq
              go_wp2_with fail
              go_quiet (fail)
              go_wp2_with fail
              go_ret
              exact ⟨rint HE.out.symm, below_drewN' K1.out _⟩
       ·have hme : m = l[k].ends.length := by omega
        have HO := Lib.hid (secsB_step hlt HBB.out (by rw [← hme]; exact HB1.out))
        have hdm : decide ((m : Int) < (l[k].ends.length : Int)) = false := by simp; omega
        clear hme
        go_wp2_with fail
        go_roundg (l.length - (k + 1))
        case measure => go_light; omega
        case rel => go_light; exact ⟨k + 1, by omega, by omega, by go_num, HBj.out, HO.out⟩
     ·obtain rfl : k = l.length := by omega
      have hdk : decide ((l.length : Int) < (l.length : Int)) = false := by simp
      have HE := Lib.hid (HY.out h16 HA.out HBB.out)
      go_wp2_with fail
      go_ret
      exact ⟨rint HE.out.symm, HBi.out⟩
end Go.Proofs.YtbiehpjhhopjaaaGreat
