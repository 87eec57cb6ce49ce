/-
 The references' small words, walked: how a point has to lie, which signal stands, a point's place, a lock's phase, a route's sections.
 The references' word on a plan's points, walked. (Written by wip/tools/gen_rwb.py.)
-/
import Derived.Test.YtbiehpjhhopjaaaGreatTRefA
import Derived.Test.YtbiehpjhhopjaaaGreatTConcat
import Derived.Lib.QuietBelow
set_option linter.unusedVariables false
set_option linter.unusedSimpArgs false
namespace Go.Proofs.YtbiehpjhhopjaaaGreat
open Go.RowKit Go.Sort
def NumPost (w : World) (n : Int) (e : Ending) (w' : World) : Prop := e = .returned (.int .i64 n) ∧ Below w.heap.size w w'
set_option maxHeartbeats 1000000 in
theorem refLie (x : Sec) (a' : Option Addr) (c' : Nat) (a b : Int) (w : World) : Calls Tryz.prog 314 #[secV x a' c', .int .i64 a, .int .i64 b] w (NumPost w (lieR x a b)) := by
 have HL : Hid (∀ n : Int, (if x.pt = 0 then (if (a = 0 ∧ b = 1) ∨ (a = 1 ∧ b = 0) then 0 else -1) else if a = 0 ∧ (b = 1 ∨ b = 2) then b else if b = 0 ∧ (a = 1 ∨ a = 2) then a else -1) = n → NumPost w (lieR x a b) (.returned (.int .i64 n)) (w.alloc (.cells #[.int .i64 x.id, .int .i64 x.pt, .slice a' x.ends.length c'] 80))) := fun n h => by
  subst h
  exact ⟨rfl, (Below.refl _ _).alloc (Nat.le_refl _) _⟩
 generalize lieR x a b = L at *
 unfold secV
 go_enter Tryz.func314, Tryz.ntmps314
 go_wp2_with fail
 all_goals
  go_ret
  refine HL.out _ ?_
  simp only [beq_iff_eq, beq_eq_false_iff_ne, ne_eq] at *
  repeat' split
  all_goals omega
theorem stand_at {p : Pl} {a b : Int} {k : Nat} (hk : k < p.sigs.length) (h1 : p.sigs[k].sec = a) (h2 : p.sigs[k].en = b) (hno : ∀ j (h : j < p.sigs.length), j < k → decide (p.sigs[j].sec = a ∧ p.sigs[j].en = b) = false) : standAt p a b = p.sigs[k].id := by
 unfold standAt
 have : p.sigs.find? (fun x => decide (x.sec = a ∧ x.en = b)) = some p.sigs[k] := List.find?_eq_some_iff_getElem.2 ⟨decide_eq_true ⟨h1, h2⟩, k, hk, rfl, fun j hj => by rw [hno j (by omega) hj]; rfl⟩
 rw [this]
theorem stand_no {p : Pl} {a b : Int} (hno : ∀ j (h : j < p.sigs.length), decide (p.sigs[j].sec = a ∧ p.sigs[j].en = b) = false) : standAt p a b = 0 := by
 unfold standAt
 rw [List.find?_eq_none.2]
 intro x hx
 obtain ⟨i, hi, rfl⟩ := List.getElem_of_mem hx
 rw [hno i hi]
 simp
set_option maxRecDepth 100000 in
set_option maxHeartbeats 1000000 in
theorem refStand (p : Pl) (s q gg rr : Value) (a b : Int) (w : World) (hp : PlM w s q gg rr p) (hf : p.Fit) : Calls Tryz.prog 219 #[plV p s q gg rr, .int .i64 a, .int .i64 b] w (NumPost w (standAt p a b)) := by
 have HN : Hid ((∀ j (h : j < p.sigs.length), decide (p.sigs[j].sec = a ∧ p.sigs[j].en = b) = false) → standAt p a b = 0) := stand_no
 have HA : Hid (∀ k (hk : k < p.sigs.length), p.sigs[k].sec = a → p.sigs[k].en = b → (∀ j (h : j < p.sigs.length), j < k → decide (p.sigs[j].sec = a ∧ p.sigs[j].en = b) = false) → standAt p a b = p.sigs[k].id) := fun k hk => stand_at hk
 obtain ⟨a3, k3, rfl, h3⟩ := hp.sigs
 have HS : Hid (∀ W, Below w.heap.size w W → SlA W 3 RSg a3 k3 p.sigs) := fun W hb => h3.below keeps_sg hb
 have hm := hf.sigs
 clear hp hf h3
 generalize standAt p a b = L at *
 unfold plV
 go_enter Tryz.func219, Tryz.ntmps219
 go_upto_region 1 with fail
 generalize hW0 : World.alloc _ _ = W0
 have K0 : Hid (Below w.heap.size w W0) := by show Below _ _ _; rw [← hW0]; exact (Below.refl _ _).alloc (Nat.le_refl _) _
 have pp4 : W0.cell? ⟨w.heap.size, 4, none⟩ = some (.slice a3 p.sigs.length k3) := by rw [← hW0]; simp
 have lb := block_lt_of_cell pp4
 clear hW0
 go_wp2_with fail
 go_loop [7] (fun i => ∃ k : Nat, k ≤ p.sigs.length ∧ i = .int .i64 k ∧ ∀ j (h : j < p.sigs.length), j < k → decide (p.sigs[j].sec = a ∧ p.sigs[j].en = b) = false) (fun i => p.sigs.length - (intOf i).toNat)
 case atStart => exact ⟨0, by omega, rfl, fun j h h0 => by omega⟩
 case round =>
  obtain ⟨k, hk, rfl, hno⟩ := hrel
  have HNO := Lib.hid hno
  clear hno
  by_cases hlt : k < p.sigs.length
  ·have hd : decide ((k : Int) < (p.sigs.length : Int)) = true := by simp; omega
   obtain ⟨b', off, rfl, x0, x1, x2⟩ := (HS.out _ K0.out).sg hlt
   have c0 : (0 : Int) ≤ (k : Int) := by omega
   have c1 : (k : Int) < (p.sigs.length : Int) := by omega
   have l9 := World.block_lt_of_cell? _ _ x0
   by_cases h1 : p.sigs[k].sec = a
   ·have e1 : (p.sigs[k].sec == a) = true := by simp [h1]
    by_cases h2 : p.sigs[k].en = b
    ·have e2 : (p.sigs[k].en == b) = true := by simp [h2]
     have HE := Lib.hid (HA.out k hlt h1 h2 HNO.out)
     clear h1 h2
     go_wp2_with fail
     go_ret
     exact ⟨rint HE.out.symm, K0.out⟩
    ·have e2 : (p.sigs[k].en == b) = false := by simp [h2]
     have HE : Hid (decide (p.sigs[k].sec = a ∧ p.sigs[k].en = b) = false) := by show _ = _; simp [h2]
     clear h1 h2
     go_wp2_with fail
     go_round
     case rel =>
      refine ⟨k + 1, by omega, by go_num, fun j h hj => ?_⟩
      by_cases hjk : j = k
      ·subst hjk; exact HE.out
      ·exact HNO.out j h (by omega)
     case measure => simp [intOf]; omega
   ·have e1 : (p.sigs[k].sec == a) = false := by simp [h1]
    have HE : Hid (decide (p.sigs[k].sec = a ∧ p.sigs[k].en = b) = false) := by show _ = _; simp [h1]
    clear h1
    go_wp2_with fail
    go_round
    case rel =>
     refine ⟨k + 1, by omega, by go_num, fun j h hj => ?_⟩
     by_cases hjk : j = k
     ·subst hjk; exact HE.out
     ·exact HNO.out j h (by omega)
    case measure => simp [intOf]; omega
  ·obtain rfl : k = p.sigs.length := by omega
   have hd : decide ((p.sigs.length : Int) < (p.sigs.length : Int)) = false := by simp
   have HE := Lib.hid (HN.out fun j hj => HNO.out j hj hj)
   go_wp2_with fail
   go_ret
   exact ⟨rint HE.out.symm, K0.out⟩
set_option maxRecDepth 100000 in
set_option maxHeartbeats 1000000 in
theorem refPoint (p : Pl) (s q gg rr : Value) (n : Int) (w : World) (hp : PlM w s q gg rr p) (hf : p.Fit) : Calls Tryz.prog 223 #[plV p s q gg rr, .int .i64 n] w (NumPost w (fix (fun x => decide (x.id = n)) p.pts)) := by
 have HN : Hid ((∀ j (h : j < p.pts.length), decide (p.pts[j].id = n) = false) → fix (fun x => decide (x.id = n)) p.pts = -1) := fun h => fix_none h
 have HA : Hid (∀ k (hk : k < p.pts.length), decide (p.pts[k].id = n) = true → (∀ j (h : j < p.pts.length), j < k → decide (p.pts[j].id = n) = false) → fix (fun x => decide (x.id = n)) p.pts = (k : Int)) := fun k hk h1 h2 => fix_some hk h1 h2
 obtain ⟨a3, k3, rfl, h3⟩ := hp.pts
 have HS : Hid (∀ W, Below w.heap.size w W → SlA W 2 RPt a3 k3 p.pts) := fun W hb => h3.below keeps_pt hb
 have hm := hf.pts
 clear hp hf h3
 generalize fix (fun x => decide (x.id = n)) p.pts = L at *
 unfold plV
 go_enter Tryz.func223, Tryz.ntmps223
 go_upto_region 1 with fail
 generalize hW0 : World.alloc _ _ = W0
 have K0 : Hid (Below w.heap.size w W0) := by show Below _ _ _; rw [← hW0]; exact (Below.refl _ _).alloc (Nat.le_refl _) _
 have pp4 : W0.cell? ⟨w.heap.size, 3, none⟩ = some (.slice a3 p.pts.length k3) := by rw [← hW0]; simp
 have lb := block_lt_of_cell pp4
 clear hW0
 go_wp2_with fail
 go_loop [5] (fun i => ∃ k : Nat, k ≤ p.pts.length ∧ i = .int .i64 k ∧ ∀ j (h : j < p.pts.length), j < k → decide (p.pts[j].id = n) = false) (fun i => p.pts.length - (intOf i).toNat)
 case atStart => exact ⟨0, by omega, rfl, fun j h h0 => by omega⟩
 case round =>
  obtain ⟨k, hk, rfl, hno⟩ := hrel
  have HNO := Lib.hid hno
  clear hno
  by_cases hlt : k < p.pts.length
  ·have hd : decide ((k : Int) < (p.pts.length : Int)) = true := by simp; omega
   obtain ⟨b', off, rfl, x0, x1⟩ := (HS.out _ K0.out).pt hlt
   have c0 : (0 : Int) ≤ (k : Int) := by omega
   have c1 : (k : Int) < (p.pts.length : Int) := by omega
   have l9 := World.block_lt_of_cell? _ _ x0
   by_cases h1 : p.pts[k].id = n
   ·have e1 : (p.pts[k].id == n) = true := by simp [h1]
    have HE := Lib.hid (HA.out k hlt (by simp [h1]) HNO.out)
    clear h1
    go_wp2_with fail
    go_ret
    exact ⟨rint HE.out.symm, K0.out⟩
   ·have e1 : (p.pts[k].id == n) = false := by simp [h1]
    have HE : Hid (decide (p.pts[k].id = n) = false) := by show _ = _; simp [h1]
    clear h1
    go_wp2_with fail
    go_round
    case rel =>
     refine ⟨k + 1, by omega, by go_num, fun j h hj => ?_⟩
     by_cases hjk : j = k
     ·subst hjk; exact HE.out
     ·exact HNO.out j h (by omega)
    case measure => simp [intOf]; omega
  ·obtain rfl : k = p.pts.length := by omega
   have hd : decide ((p.pts.length : Int) < (p.pts.length : Int)) = false := by simp
   have HE := Lib.hid (HN.out fun j hj => HNO.out j hj hj)
   go_wp2_with fail
   go_ret
   exact ⟨rint HE.out.symm, K0.out⟩
set_option maxHeartbeats 4000000 in
theorem refPhase (l : Lk) (r : Rt) (w : World) (hn : r.path.length ≤ 1000) : Calls Tryz.prog 315 #[.agg #[.int .i64 l.id, .int .u8 l.ph, .int .i64 l.gone, .int .i64 l.left], .int .i64 r.path.length, .int .i64 r.timer] w (BoolPost w (decide (Phase l r))) := by
 have HL : Hid (∀ (b : Bool) X, (b = true ↔ Phase l r) → BoolPost w (decide (Phase l r)) (.returned (.bool b)) (w.alloc X)) := fun b X h => by
  have : b = decide (Phase l r) := by rw [Bool.eq_iff_iff, h]; simp
  subst this
  exact ⟨rfl, (Below.refl _ _).alloc (Nat.le_refl _) _⟩
 generalize decide (Phase l r) = L at *
 go_enter Tryz.func315, Tryz.ntmps315
 go_wp2_with fail
 all_goals
  go_ret
  refine HL.out _ _ ?_
  unfold Phase
  try simp only [beq_iff_eq, beq_eq_false_iff_ne, ne_eq] at *
  first | omega | (simp <;> omega)
end Go.Proofs.YtbiehpjhhopjaaaGreat
namespace Go.Proofs.YtbiehpjhhopjaaaGreat
open Go.RowKit Go.Sort
def PtR (p : Pl) (j : Nat) (h : j < p.pts.length) : Prop := (1 ≤ p.pts[j].id ∧ p.pts[j].id ≤ 99) ∧ (∀ h' : 0 < j, p.pts[j - 1].id < p.pts[j].id) ∧ ∃ m, ∃ hm : m < p.secs.length, fix (fun x => decide (x.id = p.pts[j].sec)) p.secs = (m : Int) ∧ p.secs[m].pt = p.pts[j].id
theorem ptsMay_ref {p : Pl} (hA : SecsA p.secs p.secs.length) : PtsMay p ↔ (∀ j (h : j < p.pts.length), PtR p j h) ∧ (p.pts.length : Int) ≤ 6 ∧ cntPt p.secs p.secs.length = p.pts.length := by
 constructor
 ·rintro ⟨⟨h1, h2⟩, h3, h4⟩
  refine ⟨fun j h => ⟨(h1 j h h).1, (h1 j h h).2, ?_⟩, h2, h3⟩
  obtain ⟨s, hs, e1, e2⟩ := h4 j h
  obtain ⟨i, hi, rfl⟩ := List.getElem_of_mem hs
  rcases fix_cases (fun x : Sec => decide (x.id = p.pts[j].sec)) p.secs with ⟨_, hno⟩ | ⟨m, hm, e, h5, _⟩
  ·have := hno i hi; simp [e1] at this
  ·refine ⟨m, hm, e, ?_⟩
   have : p.secs[m] = p.secs[i] := secs_uniq hA (List.getElem_mem _) (List.getElem_mem _) (by rw [e1]; simpa using h5)
   rw [this]; exact e2
 ·rintro ⟨h1, h2, h3⟩
  refine ⟨⟨fun j h _ => ⟨(h1 j h).1, (h1 j h).2.1⟩, h2⟩, h3, fun j h => ?_⟩
  obtain ⟨m, hm, e, h5⟩ := (h1 j h).2.2
  refine ⟨p.secs[m], List.getElem_mem _, ?_, h5⟩
  rcases fix_cases (fun x : Sec => decide (x.id = p.pts[j].sec)) p.secs with ⟨e', _⟩ | ⟨m', hm', e', h6, _⟩
  ·rw [e'] at e; omega
  ·have : m' = m := by rw [e'] at e; omega
   subst this
   simpa using h6
set_option maxRecDepth 100000 in
set_option maxHeartbeats 8000000 in
theorem refPoints (p : Pl) (s q gg rr : Value) (w : World) (hp : PlM w s q gg rr p) (hf : p.Fit) (hA : SecsA p.secs p.secs.length) : Calls Tryz.prog 213 #[plV p s q gg rr] w (BoolPost w (decide (PtsMay p))) := by
 have HBAD : Hid (∀ k (h : k < p.pts.length), ¬ PtR p k h → decide (PtsMay p) = false) := fun k h hn => by
  rw [decide_eq_false_iff_not, ptsMay_ref hA]
  exact fun hh => hn (hh.1 k h)
 have HGOOD : Hid (∀ b : Bool, (∀ j (h : j < p.pts.length), PtR p j h) → (b = true ↔ (p.pts.length : Int) ≤ 6 ∧ cntPt p.secs p.secs.length = p.pts.length) → decide (PtsMay p) = b) := fun b h1 h2 => by
  rw [Bool.eq_iff_iff, h2, decide_eq_true_iff, ptsMay_ref hA]
  exact ⟨fun h => h.2, fun h => ⟨h1, h⟩⟩
 obtain ⟨a1, k1, rfl, h1⟩ := hp.secs
 obtain ⟨a2, k2, rfl, h2⟩ := hp.pts
 have HS : Hid (∀ W, Below w.heap.size w W → SlA W 3 RSec a1 k1 p.secs) := fun W hb => h1.below keeps_sec hb
 have HQ : Hid (∀ W, Below w.heap.size w W → SlA W 2 RPt a2 k2 p.pts) := fun W hb => h2.below keeps_pt hb
 have hs := hf.secs
 have hq := hf.pts
 clear hp hf h1 h2 hA
 unfold plV
 generalize decide (PtsMay p) = B at *
 go_enter Tryz.func213, Tryz.ntmps213
 go_upto_region 1 with fail
 generalize hW0 : World.alloc _ _ = W0
 have K0 : Hid (Below w.heap.size w W0) := by show Below _ _ _; rw [← hW0]; exact (Below.refl _ _).alloc (Nat.le_refl _) _
 have f2 : W0.cell? ⟨w.heap.size, 2, none⟩ = some (.slice a1 p.secs.length k1) := by rw [← hW0]; simp
 have f3 : W0.cell? ⟨w.heap.size, 3, none⟩ = some (.slice a2 p.pts.length k2) := by rw [← hW0]; simp
 have lb := block_lt_of_cell f2
 have F2 : Hid (∀ W, Below W0.heap.size W0 W → W.cell? ⟨w.heap.size, 2, none⟩ = some (.slice a1 p.secs.length k1)) := fun W hb => ccell hb f2
 have F3 : Hid (∀ W, Below W0.heap.size W0 W → W.cell? ⟨w.heap.size, 3, none⟩ = some (.slice a2 p.pts.length k2)) := fun W hb => ccell hb f3
 have LB := Lib.hid lb
 clear hW0
 go_wp2_with fail
 go_loopg [3, 4] p.secs.length (fun g m i wr => ∃ k : Nat, k ≤ p.secs.length ∧ g = p.secs.length - k ∧ m = .int .i64 (cntPt p.secs k) ∧ i = .int .i64 k ∧ wr = W0)
 case atStart => exact ⟨0, by omega, by omega, by rw [cntPt_zero]; rfl, rfl, rfl⟩
 case round =>
  obtain ⟨k, hk, rfl, rfl, rfl, hw⟩ := hrel
  obtain rfl := hw.symm
  clear hw
  by_cases hlt : k < p.secs.length
  ·have hdk : decide ((k : Int) < (p.secs.length : Int)) = true := by simp; omega
   obtain ⟨b, off, a', c', rfl, x0, x1, x2, hends⟩ := (HS.out _ K0.out).sec hlt
   have c0 : (0 : Int) ≤ (k : Int) := by omega
   have c1 : (k : Int) < (p.secs.length : Int) := by omega
   have l2 := World.block_lt_of_cell? _ _ x0
   have hcs := cntPt_step hlt
   have hcl := cntPt_le p.secs k
   clear hends
   by_cases hz : p.secs[k].pt = 0
   ·have t0 : (p.secs[k].pt != 0) = false := by simp [hz]
    have HC : Hid (cntPt p.secs (k + 1) = cntPt p.secs k) := by rw [hcs, if_neg (by simpa using hz)]; rfl
    clear hcs hz
    generalize cntPt p.secs k = c at *
    go_wp2_with fail
    go_roundg (p.secs.length - (k + 1))
    case measure => go_light; omega
    case rel => go_light; exact ⟨k + 1, by omega, by omega, by rw [HC.out], by go_num, rfl⟩
   ·have t0 : (p.secs[k].pt != 0) = true := by simp [hz]
    have HC : Hid (cntPt p.secs (k + 1) = cntPt p.secs k + 1) := by rw [hcs, if_pos hz]; rfl
    clear hcs hz
    generalize cntPt p.secs k = c at *
    go_wp2_with fail
    go_roundg (p.secs.length - (k + 1))
    case measure => go_light; omega
    case rel => go_light; exact ⟨k + 1, by omega, by omega, by rw [HC.out]; go_num, by go_num, rfl⟩
  ·obtain rfl : k = p.secs.length := by omega
   have hdk : decide ((p.secs.length : Int) < (p.secs.length : Int)) = false := by simp
   have hcl := cntPt_le p.secs p.secs.length
   generalize hC : cntPt p.secs p.secs.length = C at *
   go_wp2_with fail
   go_loopg [5] p.pts.length (fun g i wr => ∃ k : Nat, k ≤ p.pts.length ∧ g = p.pts.length - k ∧ i = .int .i64 k ∧ Below W0.heap.size W0 wr ∧ ∀ j (h : j < p.pts.length), j < k → PtR p j h)
   case atStart => exact ⟨0, by omega, by omega, rfl, Below.refl _ _, fun j h hj => by omega⟩
   case round =>
    obtain ⟨k, hk, rfl, rfl, hb, hno⟩ := hrel
    obtain ⟨wo, rfl⟩ : ∃ wo : World, wo = wr := ⟨_, rfl⟩
    have HNO := Lib.hid hno
    have KO := Lib.hid hb
    have KWO : Hid (Below w.heap.size w wo) := K0.out.trans (hb.mono K0.out.size)
    clear hb hno f2 f3
    have f2 := F2.out _ KO.out
    have f3 := F3.out _ KO.out
    have lb := block_lt_of_cell f2
    by_cases hlt : k < p.pts.length
    ·have hdk2 : decide ((k : Int) < (p.pts.length : Int)) = true := by simp; omega
     obtain ⟨b, off, rfl, x0, x1⟩ := (HQ.out _ KWO.out).pt hlt
     have c0 : (0 : Int) ≤ (k : Int) := by omega
     have c1 : (k : Int) < (p.pts.length : Int) := by omega
     have l2 := World.block_lt_of_cell? _ _ x0
     go_upto_region 11 with fail
     generalize hWA : World.alloc _ _ = wA
     have hbA : Below wo.heap.size wo wA := by rw [← hWA]; exact (Below.refl _ _).alloc (Nat.le_refl _) _
     have y0 : wA.cell? ⟨wo.heap.size, 0, none⟩ = some (.int .i64 p.pts[k].id) := by rw [← hWA]; simp
     have y1 : wA.cell? ⟨wo.heap.size, 1, none⟩ = some (.int .i64 p.pts[k].sec) := by rw [← hWA]; simp
     have KA : Hid (Below W0.heap.size W0 wA) := KO.out.trans (hbA.mono KO.out.size)
     have KWA : Hid (Below w.heap.size w wA) := KWO.out.trans (hbA.mono KWO.out.size)
     have g2 := ccell hbA f2
     have g3 := ccell hbA f3
     clear hWA hbA x0 x1 f2 f3 l2 lb
     have lb := block_lt_of_cell g2
     have ly := block_lt_of_cell y0
     go_wp2_with fail
     refine (secAt a1 k1 p.secs p.pts[k].sec wA (HS.out _ KWA.out) hs).mono ?_
     rintro e w' ⟨rfl, rfl⟩
     have hR : ∀ (d : Nat) (os : Array Obj), Below W0.heap.size W0 (grow (redrawn wA d) os) := fun d os => KA.out.trans ((below_regrown wA d os).mono KA.out.size)
     have HRW := Lib.hid hR
     have KWF : Hid (∀ W, Below W0.heap.size W0 W → Below w.heap.size w W) := fun W hb => K0.out.trans (hb.mono K0.out.size)
     have Y0 := cell_regrown y0
     have G2 := cell_regrown g2
     have G3 := cell_regrown g3
     have hfc := Lib.hid (fix_cases (fun x : Sec => decide (x.id = p.pts[k].sec)) p.secs)
     generalize hF : fix (fun x : Sec => decide (x.id = p.pts[k].sec)) p.secs = F at *
     have HFF := Lib.hid hF
     clear hR y1 hF
     by_cases h1 : p.pts[k].id < 1
     ·have u1 : decide (p.pts[k].id < 1) = true := by simp [h1]
      have HE := Lib.hid (HBAD.out k hlt (fun hh => by have := hh.1.1; omega))
      clear HFF hfc
      go_upto_region 12 with fail
      refine wp_region_quiet_below (by kernel_rfl) (by kernel_rfl) ?_
      repeat (go_big_quiet_step (fail))
      refine wpQuiet_nil ?_
      rintro _ ⟨⟨dq, osq⟩, rfl⟩
      go_wp2_with fail
      go_ret
      exact ⟨rbool HE.out.symm, KWF.out _ (HRW.out dq osq)⟩
     ·have u1 : decide (p.pts[k].id < 1) = false := by simp; omega
      by_cases h2 : 99 < p.pts[k].id
      ·have u2 : decide (99 < p.pts[k].id) = true := by simp [h2]
       have HE := Lib.hid (HBAD.out k hlt (fun hh => by have := hh.1.2; omega))
       clear HFF hfc
       go_upto_region 12 with fail
       refine wp_region_quiet_below (by kernel_rfl) (by kernel_rfl) ?_
       repeat (go_big_quiet_step (fail))
       refine wpQuiet_nil ?_
       rintro _ ⟨⟨dq, osq⟩, rfl⟩
       go_wp2_with fail
       go_ret
       exact ⟨rbool HE.out.symm, KWF.out _ (HRW.out dq osq)⟩
      ·have u2 : decide (99 < p.pts[k].id) = false := by simp; omega
       by_cases h3 : 0 < k
       ·have u3 : decide ((0 : Int) < (k : Int)) = true := by simp; omega
        obtain ⟨b', off', hbe, z0, z1⟩ := (HQ.out _ KWA.out).pt (i := k - 1) (by omega)
        cases hbe
        have ek : ((k - 1 : Nat) : Int) = (k : Int) - 1 := by omega
        have Z0 := cell_regrown z0
        have e0 : (0 : Int) ≤ (k : Int) - 1 := by omega
        have e1 : (k : Int) - 1 < (p.pts.length : Int) := by omega
        have et : ((k : Int) - 1).toNat = k - 1 := by omega
        clear z0 z1
        by_cases h4 : p.pts[k].id ≤ p.pts[k - 1].id
        ·have u6 : decide (p.pts[k].id ≤ p.pts[k - 1].id) = true := by simp [h4]
         have HE := Lib.hid (HBAD.out k hlt (fun hh => by have := hh.2.1 h3; omega))
         clear HFF hfc
         go_upto_region 12 with fail
         refine wp_region_quiet_below (by kernel_rfl) (by kernel_rfl) ?_
         repeat (go_big_quiet_step (fail))
         refine wpQuiet_nil ?_
         rintro _ ⟨⟨dq, osq⟩, rfl⟩
         go_wp2_with fail
         go_ret
         exact ⟨rbool HE.out.symm, KWF.out _ (HRW.out dq osq)⟩
        ·have u6 : decide (p.pts[k].id ≤ p.pts[k - 1].id) = false := by simp; omega
         rcases hfc.out with ⟨hF1, hF2⟩ | ⟨m, hm, hF1, hF2, hF3⟩
         ·subst hF1
          have u4 : decide ((-1 : Int) < 0) = true := by decide
          have HE := Lib.hid (HBAD.out k hlt (fun hh => by obtain ⟨m, hm, e, _⟩ := hh.2.2; rw [HFF.out] at e; omega))
          clear HFF hfc hF2
          go_upto_region 12 with fail
          refine wp_region_quiet_below (by kernel_rfl) (by kernel_rfl) ?_
          repeat (go_big_quiet_step (fail))
          refine wpQuiet_nil ?_
          rintro _ ⟨⟨dq, osq⟩, rfl⟩
          go_wp2_with fail
          go_ret
          exact ⟨rbool HE.out.symm, KWF.out _ (HRW.out dq osq)⟩
         ·subst hF1
          have u4 : decide ((m : Int) < 0) = false := by simp
          obtain ⟨b2, off2, a3, c3, rfl, v0, v1, v2, -⟩ := (HS.out _ KWA.out).sec hm
          have V1 := cell_regrown v1
          have d0 : (0 : Int) ≤ (m : Int) := by omega
          have d1 : (m : Int) < (p.secs.length : Int) := by omega
          clear v0 v1 v2
          by_cases h5 : p.secs[m].pt = p.pts[k].id
          ·have HG : Hid (PtR p k hlt) := ⟨⟨by omega, by omega⟩, fun _ => by omega, m, hm, HFF.out, h5⟩
           have u5 : (p.secs[m].pt != p.pts[k].id) = false := by simp [h5]
           clear HFF hfc hF2 hF3 h5
           go_upto_region 12 with fail
           refine wp_region_quiet_below (by kernel_rfl) (by kernel_rfl) ?_
           repeat (go_big_quiet_step (fail))
           refine wpQuiet_nil ?_
           rintro _ ⟨⟨dq, osq⟩, rfl⟩
           go_wp2_with fail
           go_roundg (p.pts.length - (k + 1))
           case measure => go_light; omega
           case rel =>
            go_light
            refine ⟨k + 1, by omega, by omega, by go_num, HRW.out dq osq, fun j h hj => ?_⟩
            by_cases hjk : j = k
            ·subst hjk; exact HG.out
            ·exact HNO.out j h (by omega)
          ·have u5 : (p.secs[m].pt != p.pts[k].id) = true := by simp [h5]
           have HE := Lib.hid (HBAD.out k hlt (fun hh => by
            obtain ⟨m', hm', e, h6⟩ := hh.2.2
            rw [HFF.out] at e
            have : m = m' := by omega
            subst this
            exact h5 h6))
           clear HFF hfc hF2 hF3 h5
           go_upto_region 12 with fail
           refine wp_region_quiet_below (by kernel_rfl) (by kernel_rfl) ?_
           repeat (go_big_quiet_step (fail))
           refine wpQuiet_nil ?_
           rintro _ ⟨⟨dq, osq⟩, rfl⟩
           go_wp2_with fail
           go_ret
           exact ⟨rbool HE.out.symm, KWF.out _ (HRW.out dq osq)⟩
       ·have u3 : decide ((0 : Int) < (k : Int)) = false := by simp; omega
        rcases hfc.out with ⟨hF1, hF2⟩ | ⟨m, hm, hF1, hF2, hF3⟩
        ·subst hF1
         have u4 : decide ((-1 : Int) < 0) = true := by decide
         have HE := Lib.hid (HBAD.out k hlt (fun hh => by obtain ⟨m, hm, e, _⟩ := hh.2.2; rw [HFF.out] at e; omega))
         clear HFF hfc hF2
         go_upto_region 12 with fail
         refine wp_region_quiet_below (by kernel_rfl) (by kernel_rfl) ?_
         repeat (go_big_quiet_step (fail))
         refine wpQuiet_nil ?_
         rintro _ ⟨⟨dq, osq⟩, rfl⟩
         go_wp2_with fail
         go_ret
         exact ⟨rbool HE.out.symm, KWF.out _ (HRW.out dq osq)⟩
        ·subst hF1
         have u4 : decide ((m : Int) < 0) = false := by simp
         obtain ⟨b2, off2, a3, c3, rfl, v0, v1, v2, -⟩ := (HS.out _ KWA.out).sec hm
         have V1 := cell_regrown v1
         have d0 : (0 : Int) ≤ (m : Int) := by omega
         have d1 : (m : Int) < (p.secs.length : Int) := by omega
         clear v0 v1 v2
         by_cases h5 : p.secs[m].pt = p.pts[k].id
         ·have HG : Hid (PtR p k hlt) := ⟨⟨by omega, by omega⟩, fun h => absurd h h3, m, hm, HFF.out, h5⟩
          have u5 : (p.secs[m].pt != p.pts[k].id) = false := by simp [h5]
          clear HFF hfc hF2 hF3 h5
          go_upto_region 12 with fail
          refine wp_region_quiet_below (by kernel_rfl) (by kernel_rfl) ?_
          repeat (go_big_quiet_step (fail))
          refine wpQuiet_nil ?_
          rintro _ ⟨⟨dq, osq⟩, rfl⟩
          go_wp2_with fail
          go_roundg (p.pts.length - (k + 1))
          case measure => go_light; omega
          case rel =>
           go_light
           refine ⟨k + 1, by omega, by omega, by go_num, HRW.out dq osq, fun j h hj => ?_⟩
           by_cases hjk : j = k
           ·subst hjk; exact HG.out
           ·exact HNO.out j h (by omega)
         ·have u5 : (p.secs[m].pt != p.pts[k].id) = true := by simp [h5]
          have HE := Lib.hid (HBAD.out k hlt (fun hh => by
           obtain ⟨m', hm', e, h6⟩ := hh.2.2
           rw [HFF.out] at e
           have : m = m' := by omega
           subst this
           exact h5 h6))
          clear HFF hfc hF2 hF3 h5
          go_upto_region 12 with fail
          refine wp_region_quiet_below (by kernel_rfl) (by kernel_rfl) ?_
          repeat (go_big_quiet_step (fail))
          refine wpQuiet_nil ?_
          rintro _ ⟨⟨dq, osq⟩, rfl⟩
          go_wp2_with fail
          go_ret
          exact ⟨rbool HE.out.symm, KWF.out _ (HRW.out dq osq)⟩
    ·obtain rfl : k = p.pts.length := by omega
     have hdk2 : decide ((p.pts.length : Int) < (p.pts.length : Int)) = false := by simp
     have HALL := Lib.hid (fun j (h : j < p.pts.length) => HNO.out j h h)
     by_cases h6 : (p.pts.length : Int) ≤ 6
     ·have v6 : decide ((p.pts.length : Int) ≤ 6) = true := by simp [h6]
      by_cases hc : C = p.pts.length
      ·have e0 : ((C : Int) == (p.pts.length : Int)) = true := by rw [beq_iff_eq]; omega
       have HE := Lib.hid (HGOOD.out true HALL.out (by simp [hc, h6]))
       clear hc hC h6
       go_wp2_with fail
       go_ret
       exact ⟨rbool HE.out.symm, KWO.out⟩
      ·have e0 : ((C : Int) == (p.pts.length : Int)) = false := by rw [beq_eq_false_iff_ne]; omega
       have HE := Lib.hid (HGOOD.out false HALL.out (by simp [hc]))
       clear hc hC h6
       go_wp2_with fail
       go_ret
       exact ⟨rbool HE.out.symm, KWO.out⟩
     ·have v6 : decide ((p.pts.length : Int) ≤ 6) = false := by simp; omega
      have HE := Lib.hid (HGOOD.out false HALL.out (by simp [h6]))
      clear hC h6
      go_wp2_with fail
      go_ret
      exact ⟨rbool HE.out.symm, KWO.out⟩
end Go.Proofs.YtbiehpjhhopjaaaGreat
