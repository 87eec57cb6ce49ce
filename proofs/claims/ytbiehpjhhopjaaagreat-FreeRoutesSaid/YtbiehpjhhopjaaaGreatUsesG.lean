/-
  What a route uses, in plain words: what FreeRoutes asks of it.
  plan.Route and area.Uses, walked. (Written by wip/tools/gen_planroute.py.)
-/
import Derived.Test.YtbiehpjhhopjaaaGreatUsesD
import Derived.Test.YtbiehpjhhopjaaaGreatRefA
import Derived.Test.YtbiehpjhhopjaaaGreatLawP
import Derived.Test.YtbiehpjhhopjaaaGreatTwinR
set_option linter.unusedVariables false
set_option linter.unusedSimpArgs false
namespace Go.Proofs.YtbiehpjhhopjaaaGreat
open Go.RowKit
theorem wf_few {n : Int} (h0 : 0 ≤ n) (h1 : n ≤ 99) : (Lit.int .i64 n).wf = true := by
  obtain ⟨k, rfl⟩ := Int.eq_ofNat_of_zero_le h0
  have hk : k ≤ 99 := by omega
  simp [Lit.wf, IntKind.min, IntKind.max, IntKind.bits, IntKind.signed]
  omega
theorem plan_len {p : Pl} (h : PlanMay p) : p.secs.length ≤ 16 := h.1.2.2.2.2.1
theorem plan_sec {p : Pl} (h : PlanMay p) {x : Sec} (hx : x ∈ p.secs) : (1 ≤ x.id ∧ x.id ≤ 99) ∧ 0 ≤ x.pt ∧ x.pt ≤ 99 := by
  obtain ⟨i, hi, rfl⟩ := List.getElem_of_mem hx
  have h1 := (may_secs h i hi hi).1
  refine ⟨⟨h1.1, h1.2.1⟩, ?_⟩
  rcases h1.2.2 with h2 | h2 <;> omega
theorem plan_sig {p : Pl} (h : PlanMay p) {n : Int} (hn : isOne Sg.id p.sigs n = true) : 1 ≤ n ∧ n ≤ 99 := by
  have h2 := one_is (z := (⟨0, 0, 0⟩ : Sg)) hn
  obtain ⟨j, hj, e⟩ := List.getElem_of_mem h2.1
  have h3 := (may_sigs h j hj hj).1
  have h4 : p.sigs[j].id = n := by rw [e]; exact h2.2
  omega
theorem plan_rt {p : Pl} (h : PlanMay p) {x : Rt} (hx : x ∈ p.rts) : (1 ≤ x.id ∧ x.id ≤ 99) ∧ (1 ≤ x.entry ∧ x.entry ≤ 99) ∧ (0 ≤ x.exit ∧ x.exit ≤ 99) := by
  obtain ⟨i, hi, rfl⟩ := List.getElem_of_mem hx
  have h1 := (may_rts h i hi hi).1
  have hR := (may_rt h hi).1
  have h2 := plan_sig h hR.1
  refine ⟨h1, h2, ?_⟩
  by_cases hz : p.rts[i].exit = 0
  · omega
  · have := plan_sig h (hR.2.1 hz).1; omega
theorem uses_ok {p : Pl} (h : PlanMay p) {x : Rt} (hx : x ∈ p.rts) {m : Nat} {S : Int → Int → Prop} {u : Ar} (hS : UseS p x S) (hm : m ≤ 3 + 2 * p.secs.length) (hu : SetAr m S u) : UsesOk p x.id u := by
  have hl := plan_len h
  have hr := plan_rt h hx
  refine ⟨⟨Nat.le_trans hu.ls (by omega), Nat.le_trans hu.lp (by omega), Nat.le_trans hu.lg (by omega), Nat.le_trans hu.lr (by omega)⟩, (hu.r _).2 ⟨wf_few (by omega) (by omega), hS.rt⟩, fun n hn => ?_⟩
  rcases hS.sg n ((hu.g n).1 hn).2 with e | ⟨e1, e2⟩ <;> omega
/-- what area.Uses answers: no error, or no area -/
def UsPost (w : World) (p : Pl) (id : Int) (e : Ending) (w' : World) : Prop :=
  ∃ v1 v2 v3 v4 u E, e = .returned (.tuple #[.agg #[v1, v2, v3, v4], .int .i64 E]) ∧ AL w' v1 v2 v3 v4 u ∧ u.small ∧ (E = 0 → UsesOk p id u) ∧ Below w.heap.size w w'
end Go.Proofs.YtbiehpjhhopjaaaGreat
set_option linter.unusedVariables false
set_option linter.unusedSimpArgs false
namespace Go.Proofs.YtbiehpjhhopjaaaGreat
open Go.RowKit Go.Maps Go.Sort
/-- what plan.Route answers -/
def RoutePost (w : World) (p : Pl) (n : Int) (e : Ending) (w' : World) : Prop :=
  ∃ (x : Rt) (E : Int) (b1 b2 b3 : Option Addr) (c1 c2 c3 : Nat), e = .returned (.tuple #[.agg #[.int .i64 x.id, .int .i64 x.entry, .int .i64 x.exit, .slice b1 x.path.length c1, .slice b2 x.over.length c2, .slice b3 x.fl.length c3, .int .i64 x.timer], .int .i64 E]) ∧ RtOwn w' w.heap.size (.slice b1 x.path.length c1) (.slice b2 x.over.length c2) (.slice b3 x.fl.length c3) x ∧ Below w.heap.size w w' ∧ x.fit ∧ (E = 0 → PlanMay p ∧ x ∈ p.rts ∧ x.id = n)
set_option maxRecDepth 100000 in
set_option maxHeartbeats 8000000 in
theorem planRoute_any (p : Pl) (s q gg rr : Value) (n : Int) (w : World) (hp : PlM w s q gg rr p) (hf : p.Fit) :
    Calls Tryz.prog 112 #[plV p s q gg rr, .int .i64 n] w (RoutePost w p n) := by
  have HA : Hid (∀ W, Below w.heap.size w W → Calls Tryz.prog 200 #[plV p s q gg rr, rr, .int .i64 n] W (AskedRt W p n)) := fun W hb => askedRt_any p s q gg rr n W (hp.below hb) hf
  have HFT : Hid (∀ x, (x = nRt ∨ x ∈ p.rts) → x.fit) := fun x hx => by
    rcases hx with rfl | hx
    · exact ⟨by decide, by decide, by decide⟩
    · obtain ⟨i, hi, rfl⟩ := List.getElem_of_mem hx
      exact hf.rt i hi
  obtain ⟨a1, k1, rfl, -⟩ := hp.secs
  obtain ⟨a2, k2, rfl, -⟩ := hp.pts
  obtain ⟨a3, k3, rfl, -⟩ := hp.sigs
  obtain ⟨a4, k4, rfl, -⟩ := hp.rts
  clear hp hf
  unfold plV at *
  go_enter Tryz.func112, Tryz.ntmps112
  go_upto_region 1 with fail
  generalize hW0 : World.alloc _ _ = W0
  have K0 : Hid (Below w.heap.size w W0) := by show Below _ _ _; rw [← hW0]; exact ((Below.refl _ _).alloc (Nat.le_refl _) _).alloc (by simp) _
  have hx0 : W0.heap[w.heap.size]? = some (.cells #[.int .i64 p.ver, .int .i64 p.par, .slice a1 p.secs.length k1, .slice a2 p.pts.length k2, .slice a3 p.sigs.length k3, .slice a4 p.rts.length k4] 28 (0, 0)) := by rw [← hW0]; exact (heap_alloc_old _ _ (by simp)).trans (heap_alloc_new _ _)
  have HZ0 : Hid (W0.heap[w.heap.size + 1]? = some (.cells #[.int .i64 0, .int .i64 0, .int .i64 0, .slice none 0 0, .slice none 0 0, .slice none 0 0, .int .i64 0] 102 (0, 0))) := by show _ = _; rw [← hW0]; exact heap_alloc2_new _ _ _
  clear hW0
  have pp0 : W0.cell? ⟨w.heap.size, 0, none⟩ = some (.int .i64 p.ver) := (cell_of_row W0 _ 0 _ _ _ hx0).trans rfl
  have pp1 : W0.cell? ⟨w.heap.size, 1, none⟩ = some (.int .i64 p.par) := (cell_of_row W0 _ 1 _ _ _ hx0).trans rfl
  have pp2 : W0.cell? ⟨w.heap.size, 2, none⟩ = some (.slice a1 p.secs.length k1) := (cell_of_row W0 _ 2 _ _ _ hx0).trans rfl
  have pp3 : W0.cell? ⟨w.heap.size, 3, none⟩ = some (.slice a2 p.pts.length k2) := (cell_of_row W0 _ 3 _ _ _ hx0).trans rfl
  have pp4 : W0.cell? ⟨w.heap.size, 4, none⟩ = some (.slice a3 p.sigs.length k3) := (cell_of_row W0 _ 4 _ _ _ hx0).trans rfl
  have pp5 : W0.cell? ⟨w.heap.size, 5, none⟩ = some (.slice a4 p.rts.length k4) := (cell_of_row W0 _ 5 _ _ _ hx0).trans rfl
  clear hx0
  go_wp2_with fail
  refine (HA.out W0 K0.out).mono ?_
  rintro e W1 ⟨x, E, p1, o1, f1, p2, p3, o2, o3, f2, f3, rfl, hrm, hb1, hx, hE⟩
  clear pp0 pp1 pp2 pp3 pp4 pp5
  have HRM := Lib.hid hrm
  have HX := Lib.hid (HFT.out x hx)
  have HE := Lib.hid hE
  have B1 : Hid (Below W0.heap.size W0 W1) := hb1
  have hz0 := Nat.lt_of_lt_of_le (lt_of_block HZ0.out) hb1.size
  have HS1 := Lib.hid hz0
  have HW0 : Hid (W0.heap.size ≤ W1.heap.size) := hb1.size
  clear hrm hx hE hb1 hz0 HFT HA
  go_upto_region 2 with fail
  generalize hW2 : World.alloc _ _ = W2
  have B2 : Hid (Below W0.heap.size W0 W2) := by show Below _ _ _; rw [← hW2]; exact Below.alloc B1.out HW0.out _
  have q0 : W2.cell? ⟨W1.heap.size, 0, none⟩ = some (.int .i64 x.id) := by rw [← hW2]; simp [go_sem]
  have q1 : W2.cell? ⟨W1.heap.size, 1, none⟩ = some (.int .i64 x.entry) := by rw [← hW2]; simp [go_sem]
  have q2 : W2.cell? ⟨W1.heap.size, 2, none⟩ = some (.int .i64 x.exit) := by rw [← hW2]; simp [go_sem]
  have q3 : W2.cell? ⟨W1.heap.size, 3, none⟩ = some (.slice p1 p2 p3) := by rw [← hW2]; simp [go_sem]
  have q4 : W2.cell? ⟨W1.heap.size, 4, none⟩ = some (.slice o1 o2 o3) := by rw [← hW2]; simp [go_sem]
  have q5 : W2.cell? ⟨W1.heap.size, 5, none⟩ = some (.slice f1 f2 f3) := by rw [← hW2]; simp [go_sem]
  have q6 : W2.cell? ⟨W1.heap.size, 6, none⟩ = some (.int .i64 x.timer) := by rw [← hW2]; simp [go_sem]
  clear hW2
  have HZ2 : Hid (W2.heap[w.heap.size + 1]? = some (.cells #[.int .i64 0, .int .i64 0, .int .i64 0, .slice none 0 0, .slice none 0 0, .slice none 0 0, .int .i64 0] 102 (0, 0))) := (B2.out.block _ (lt_of_block HZ0.out)).trans HZ0.out
  have hT := twinRt_any x p1 o1 f1 p2 p3 o2 o3 f2 f3 W2 (HRM.out.below B2.out) HX.out
  have HT := Lib.hid hT
  have KW2 : Hid (Below w.heap.size w W2) := K0.out.trans (B2.out.mono K0.out.size)
  clear hT HRM B1 B2 K0 HW0 HZ0 HS1
  go_wp2_with fail
  refine HT.out.mono ?_
  rintro e W3 ⟨b1, c1, b2, c2, b3, c3, rfl, hown, hb3⟩
  clear q0 q1 q2 q3 q4 q5 q6
  have HO := Lib.hid hown
  have hlz : w.heap.size + 1 < W2.heap.size := lt_of_block HZ2.out
  have HLZ := Lib.hid hlz
  have K3 : Hid (Below w.heap.size w W3) := KW2.out.trans (hb3.mono KW2.out.size)
  have hz := (hb3.block _ (lt_of_block HZ2.out)).trans HZ2.out
  have z0 : W3.cell? ⟨w.heap.size + 1, 0, none⟩ = some (.int .i64 0) := (cell_of_row W3 _ 0 _ _ _ hz).trans rfl
  have z1 : W3.cell? ⟨w.heap.size + 1, 1, none⟩ = some (.int .i64 0) := (cell_of_row W3 _ 1 _ _ _ hz).trans rfl
  have z2 : W3.cell? ⟨w.heap.size + 1, 2, none⟩ = some (.int .i64 0) := (cell_of_row W3 _ 2 _ _ _ hz).trans rfl
  have z3 : W3.cell? ⟨w.heap.size + 1, 3, none⟩ = some (.slice none 0 0) := (cell_of_row W3 _ 3 _ _ _ hz).trans rfl
  have z4 : W3.cell? ⟨w.heap.size + 1, 4, none⟩ = some (.slice none 0 0) := (cell_of_row W3 _ 4 _ _ _ hz).trans rfl
  have z5 : W3.cell? ⟨w.heap.size + 1, 5, none⟩ = some (.slice none 0 0) := (cell_of_row W3 _ 5 _ _ _ hz).trans rfl
  have z6 : W3.cell? ⟨w.heap.size + 1, 6, none⟩ = some (.int .i64 0) := (cell_of_row W3 _ 6 _ _ _ hz).trans rfl
  have ff : ∀ o, W3.frozen? ⟨w.heap.size + 1, o, none⟩ = false := fun o => by simp [World.frozen?, hz]
  have lr := lt_of_block hz
  clear hown hb3 hz hlz HT KW2 HZ2
  go_wp2_with fail
  generalize hWE : World.setCell _ _ _ = WE
  have q0 : WE.cell? ⟨w.heap.size + 1, 0, none⟩ = some (.int .i64 x.id) := by rw [← hWE]; simp [go_sem, lr, z0, z1, z2, z3, z4, z5, z6]
  have q1 : WE.cell? ⟨w.heap.size + 1, 1, none⟩ = some (.int .i64 x.entry) := by rw [← hWE]; simp [go_sem, lr, z0, z1, z2, z3, z4, z5, z6]
  have q2 : WE.cell? ⟨w.heap.size + 1, 2, none⟩ = some (.int .i64 x.exit) := by rw [← hWE]; simp [go_sem, lr, z0, z1, z2, z3, z4, z5, z6]
  have q3 : WE.cell? ⟨w.heap.size + 1, 3, none⟩ = some (.slice b1 x.path.length c1) := by rw [← hWE]; simp [go_sem, lr, z0, z1, z2, z3, z4, z5, z6]
  have q4 : WE.cell? ⟨w.heap.size + 1, 4, none⟩ = some (.slice b2 x.over.length c2) := by rw [← hWE]; simp [go_sem, lr, z0, z1, z2, z3, z4, z5, z6]
  have q5 : WE.cell? ⟨w.heap.size + 1, 5, none⟩ = some (.slice b3 x.fl.length c3) := by rw [← hWE]; simp [go_sem, lr, z0, z1, z2, z3, z4, z5, z6]
  have q6 : WE.cell? ⟨w.heap.size + 1, 6, none⟩ = some (.int .i64 x.timer) := by rw [← hWE]; simp [go_sem, lr, z0, z1, z2, z3, z4, z5, z6]
  have KB : Hid (Below w.heap.size w WE) := by show Below _ _ _; rw [← hWE]; exact Below.setCell (Below.setCell (Below.setCell (Below.setCell (Below.setCell (Below.setCell (Below.setCell (K3.out) (by simp) _) (by simp) _) (by simp) _) (by simp) _) (by simp) _) (by simp) _) (by simp) _
  have M1 : Hid (RtOwn WE W2.heap.size (.slice b1 x.path.length c1) (.slice b2 x.over.length c2) (.slice b3 x.fl.length c3) x) := by show RtOwn _ _ _ _ _ _; rw [← hWE]; exact RtOwn.setCell (RtOwn.setCell (RtOwn.setCell (RtOwn.setCell (RtOwn.setCell (RtOwn.setCell (RtOwn.setCell (HO.out) HLZ.out _) HLZ.out _) HLZ.out _) HLZ.out _) HLZ.out _) HLZ.out _) HLZ.out _
  clear hWE
  refine bodyPost_ret (v := .tuple #[.agg #[.int .i64 x.id, .int .i64 x.entry, .int .i64 x.exit, .slice b1 x.path.length c1, .slice b2 x.over.length c2, .slice b3 x.fl.length c3, .int .i64 x.timer], .int .i64 E]) (by simp [results, Tryz.f112, go_sem, q0, q1, q2, q3, q4, q5, q6]) rfl ?_
  exact ⟨x, E, b1, b2, b3, c1, c2, c3, rfl, M1.out.base (by have := HLZ.out; omega), KB.out, HX.out, HE.out⟩
set_option maxRecDepth 100000 in
set_option maxHeartbeats 8000000 in
theorem areaUses_any (p : Pl) (s q gg rr : Value) (n : Int) (w : World) (hp : PlM w s q gg rr p) (hf : p.Fit) :
    Calls Tryz.prog 55 #[plV p s q gg rr, .int .i64 n] w (UsPost w p n) := by
  have HP : Hid (∀ W, Below w.heap.size w W → PlM W s q gg rr p) := fun W hb => hp.below hb
  have HA : Hid (∀ W, Below w.heap.size w W → Calls Tryz.prog 112 #[plV p s q gg rr, .int .i64 n] W (RoutePost W p n)) := fun W hb => planRoute_any p s q gg rr n W (hp.below hb) hf
  obtain ⟨a1, k1, rfl, -⟩ := hp.secs
  obtain ⟨a2, k2, rfl, -⟩ := hp.pts
  obtain ⟨a3, k3, rfl, -⟩ := hp.sigs
  obtain ⟨a4, k4, rfl, -⟩ := hp.rts
  clear hp hf
  have HU : Hid (∀ x W (c5 c6 c7 : Value), PlanMay p → x ∈ p.rts → x.fit → Below w.heap.size w W → RtM W c5 c6 c7 x → Calls Tryz.prog 113 #[.agg #[.int .i64 p.ver, .int .i64 p.par, .slice a1 p.secs.length k1, .slice a2 p.pts.length k2, .slice a3 p.sigs.length k3, .slice a4 p.rts.length k4], .agg #[.int .i64 x.id, .int .i64 x.entry, .int .i64 x.exit, c5, c6, c7, .int .i64 x.timer]] W (UsePost W p x)) := fun x W c5 c6 c7 hm hx hfx hb hr => by
    have h1 := plan_rt hm hx
    have h2 := plan_len hm
    exact uses_any p _ _ _ _ x c5 c6 c7 W (HP.out W hb) hr hfx (by omega) (wf_few (by omega) (by omega)) (wf_few (by omega) (by omega)) (wf_few (by omega) (by omega)) (fun y hy => by have h3 := plan_sec hm hy; exact ⟨wf_few (by omega) (by omega), wf_few (by omega) (by omega)⟩)
  clear HP
  unfold plV at *
  go_enter Tryz.func55, Tryz.ntmps55
  go_upto_region 1 with fail
  generalize hW0 : World.alloc _ _ = W0
  have K0 : Hid (Below w.heap.size w W0) := by show Below _ _ _; rw [← hW0]; exact ((Below.refl _ _).alloc (Nat.le_refl _) _).alloc (by simp) _
  have HX0 : Hid (W0.heap[w.heap.size]? = some (.cells #[.int .i64 p.ver, .int .i64 p.par, .slice a1 p.secs.length k1, .slice a2 p.pts.length k2, .slice a3 p.sigs.length k3, .slice a4 p.rts.length k4] 28 (0, 0))) := by show _ = _; rw [← hW0]; exact (heap_alloc_old _ _ (by simp)).trans (heap_alloc_new _ _)
  have HZ0 : Hid (W0.heap[w.heap.size + 1]? = some (.cells #[.slice none 0 0, .slice none 0 0, .slice none 0 0, .slice none 0 0] 56 (0, 0))) := by show _ = _; rw [← hW0]; exact heap_alloc2_new _ _ _
  clear hW0
  have pp0 : W0.cell? ⟨w.heap.size, 0, none⟩ = some (.int .i64 p.ver) := (cell_of_row W0 _ 0 _ _ _ HX0.out).trans rfl
  have pp1 : W0.cell? ⟨w.heap.size, 1, none⟩ = some (.int .i64 p.par) := (cell_of_row W0 _ 1 _ _ _ HX0.out).trans rfl
  have pp2 : W0.cell? ⟨w.heap.size, 2, none⟩ = some (.slice a1 p.secs.length k1) := (cell_of_row W0 _ 2 _ _ _ HX0.out).trans rfl
  have pp3 : W0.cell? ⟨w.heap.size, 3, none⟩ = some (.slice a2 p.pts.length k2) := (cell_of_row W0 _ 3 _ _ _ HX0.out).trans rfl
  have pp4 : W0.cell? ⟨w.heap.size, 4, none⟩ = some (.slice a3 p.sigs.length k3) := (cell_of_row W0 _ 4 _ _ _ HX0.out).trans rfl
  have pp5 : W0.cell? ⟨w.heap.size, 5, none⟩ = some (.slice a4 p.rts.length k4) := (cell_of_row W0 _ 5 _ _ _ HX0.out).trans rfl
  go_wp2_with fail
  refine (HA.out W0 K0.out).mono ?_
  rintro e W1 ⟨x, E, b1, b2, b3, c1, c2, c3, rfl, hown, hb1, hfit, hE⟩
  clear pp0 pp1 pp2 pp3 pp4 pp5
  have HO := Lib.hid hown
  have HFI := Lib.hid hfit
  have HE := Lib.hid hE
  have B1 : Hid (Below W0.heap.size W0 W1) := hb1
  have HW0 : Hid (W0.heap.size ≤ W1.heap.size) := hb1.size
  have HL0 : Hid (w.heap.size + 1 < W0.heap.size) := lt_of_block HZ0.out
  clear hown hfit hE hb1 HA
  go_upto_region 2 with fail
  generalize hW2 : World.alloc _ _ = W2
  have B2 : Hid (Below W0.heap.size W0 W2) := by show Below _ _ _; rw [← hW2]; exact Below.alloc B1.out HW0.out _
  have BB : Hid (Below W1.heap.size W1 W2) := by show Below _ _ _; rw [← hW2]; exact Below.alloc (Below.refl _ _) (Nat.le_refl _) _
  have q0 : W2.cell? ⟨W1.heap.size, 0, none⟩ = some (.int .i64 x.id) := by rw [← hW2]; simp [go_sem]
  have q1 : W2.cell? ⟨W1.heap.size, 1, none⟩ = some (.int .i64 x.entry) := by rw [← hW2]; simp [go_sem]
  have q2 : W2.cell? ⟨W1.heap.size, 2, none⟩ = some (.int .i64 x.exit) := by rw [← hW2]; simp [go_sem]
  have q3 : W2.cell? ⟨W1.heap.size, 3, none⟩ = some (.slice b1 x.path.length c1) := by rw [← hW2]; simp [go_sem]
  have q4 : W2.cell? ⟨W1.heap.size, 4, none⟩ = some (.slice b2 x.over.length c2) := by rw [← hW2]; simp [go_sem]
  have q5 : W2.cell? ⟨W1.heap.size, 5, none⟩ = some (.slice b3 x.fl.length c3) := by rw [← hW2]; simp [go_sem]
  have q6 : W2.cell? ⟨W1.heap.size, 6, none⟩ = some (.int .i64 x.timer) := by rw [← hW2]; simp [go_sem]
  clear hW2
  have HZ2 : Hid (W2.heap[w.heap.size + 1]? = some (.cells #[.slice none 0 0, .slice none 0 0, .slice none 0 0, .slice none 0 0] 56 (0, 0))) := (B2.out.block _ (lt_of_block HZ0.out)).trans HZ0.out
  have HX2 : Hid (W2.heap[w.heap.size]? = some (.cells #[.int .i64 p.ver, .int .i64 p.par, .slice a1 p.secs.length k1, .slice a2 p.pts.length k2, .slice a3 p.sigs.length k3, .slice a4 p.rts.length k4] 28 (0, 0))) := (B2.out.block _ (lt_of_block HX0.out)).trans HX0.out
  have KW2 : Hid (Below w.heap.size w W2) := K0.out.trans (B2.out.mono K0.out.size)
  have HRM := Lib.hid (HO.out.m.below BB.out)
  clear B1 B2 K0 HW0 HZ0 HX0 BB HO
  by_cases he : E = 0
  · subst he
    have hh := HE.out rfl
    have HH := Lib.hid hh
    clear hh
    have pp0 : W2.cell? ⟨w.heap.size, 0, none⟩ = some (.int .i64 p.ver) := (cell_of_row W2 _ 0 _ _ _ HX2.out).trans rfl
    have pp1 : W2.cell? ⟨w.heap.size, 1, none⟩ = some (.int .i64 p.par) := (cell_of_row W2 _ 1 _ _ _ HX2.out).trans rfl
    have pp2 : W2.cell? ⟨w.heap.size, 2, none⟩ = some (.slice a1 p.secs.length k1) := (cell_of_row W2 _ 2 _ _ _ HX2.out).trans rfl
    have pp3 : W2.cell? ⟨w.heap.size, 3, none⟩ = some (.slice a2 p.pts.length k2) := (cell_of_row W2 _ 3 _ _ _ HX2.out).trans rfl
    have pp4 : W2.cell? ⟨w.heap.size, 4, none⟩ = some (.slice a3 p.sigs.length k3) := (cell_of_row W2 _ 4 _ _ _ HX2.out).trans rfl
    have pp5 : W2.cell? ⟨w.heap.size, 5, none⟩ = some (.slice a4 p.rts.length k4) := (cell_of_row W2 _ 5 _ _ _ HX2.out).trans rfl
    go_wp2_with fail
    refine (HU.out x W2 _ _ _ HH.out.1 HH.out.2.1 HFI.out KW2.out HRM.out).mono ?_
    rintro e W3 ⟨bm, m, S, rfl, hset, hm, huse, hb3⟩
    clear pp0 pp1 pp2 pp3 pp4 pp5
    clear q0 q1 q2 q3 q4 q5 q6
    have HST := Lib.hid hset
    have HM : Hid (m ≤ 1000) := by show m ≤ 1000; have := plan_len HH.out.1; omega
    have HUS := Lib.hid huse
    have HMM := Lib.hid hm
    have HZ3 : Hid (W3.heap[w.heap.size + 1]? = some (.cells #[.slice none 0 0, .slice none 0 0, .slice none 0 0, .slice none 0 0] 56 (0, 0))) := (hb3.block _ (lt_of_block HZ2.out)).trans HZ2.out
    have K3 : Hid (Below w.heap.size w W3) := KW2.out.trans (hb3.mono KW2.out.size)
    clear hset hm huse hb3 HZ2 HX2 KW2 HRM HU
    go_wp2_with fail
    refine (setArea_any bm m S W3 HST.out HM.out).mono ?_
    rintro e W4 ⟨v1, v2, v3, v4, u, rfl, hown, hsa, hb4⟩
    have hz := (hb4.block _ (lt_of_block HZ3.out)).trans HZ3.out
    have HLL : Hid (w.heap.size + 1 < W3.heap.size) := lt_of_block HZ3.out
    obtain ⟨d1, j1, rfl⟩ := IntOwn.slice hown.1
    obtain ⟨d2, j2, rfl⟩ := IntOwn.slice hown.2.1
    obtain ⟨d3, j3, rfl⟩ := IntOwn.slice hown.2.2.1
    obtain ⟨d4, j4, rfl⟩ := IntOwn.slice hown.2.2.2
    have HO := Lib.hid hown
    have HUO := Lib.hid (uses_ok HH.out.1 HH.out.2.1 HUS.out HMM.out hsa)
    have K4 : Hid (Below w.heap.size w W4) := K3.out.trans (hb4.mono K3.out.size)
    have z0 : W4.cell? ⟨w.heap.size + 1, 0, none⟩ = some (.slice none 0 0) := (cell_of_row W4 _ 0 _ _ _ hz).trans rfl
    have z1 : W4.cell? ⟨w.heap.size + 1, 1, none⟩ = some (.slice none 0 0) := (cell_of_row W4 _ 1 _ _ _ hz).trans rfl
    have z2 : W4.cell? ⟨w.heap.size + 1, 2, none⟩ = some (.slice none 0 0) := (cell_of_row W4 _ 2 _ _ _ hz).trans rfl
    have z3 : W4.cell? ⟨w.heap.size + 1, 3, none⟩ = some (.slice none 0 0) := (cell_of_row W4 _ 3 _ _ _ hz).trans rfl
    have ff : ∀ o, W4.frozen? ⟨w.heap.size + 1, o, none⟩ = false := fun o => by simp [World.frozen?, hz]
    have lr := lt_of_block hz
    clear hown hsa hb4 hz K3 HZ3
    go_wp2_with fail
    generalize hWE : World.setCell _ _ _ = WE
    have q0 : WE.cell? ⟨w.heap.size + 1, 0, none⟩ = some (.slice d1 u.s.length j1) := by rw [← hWE]; simp [go_sem, lr, z0, z1, z2, z3]
    have q1 : WE.cell? ⟨w.heap.size + 1, 1, none⟩ = some (.slice d2 u.p.length j2) := by rw [← hWE]; simp [go_sem, lr, z0, z1, z2, z3]
    have q2 : WE.cell? ⟨w.heap.size + 1, 2, none⟩ = some (.slice d3 u.g.length j3) := by rw [← hWE]; simp [go_sem, lr, z0, z1, z2, z3]
    have q3 : WE.cell? ⟨w.heap.size + 1, 3, none⟩ = some (.slice d4 u.r.length j4) := by rw [← hWE]; simp [go_sem, lr, z0, z1, z2, z3]
    have KB : Hid (Below w.heap.size w WE) := by show Below _ _ _; rw [← hWE]; exact Below.setCell (Below.setCell (Below.setCell (Below.setCell (K4.out) (by simp) _) (by simp) _) (by simp) _) (by simp) _
    have M1 : Hid (ArOwn WE W3.heap.size (.slice d1 u.s.length j1) (.slice d2 u.p.length j2) (.slice d3 u.g.length j3) (.slice d4 u.r.length j4) u) := by show ArOwn _ _ _ _ _ _ _; rw [← hWE]; exact ArOwn.setCell (ArOwn.setCell (ArOwn.setCell (ArOwn.setCell (HO.out) HLL.out _) HLL.out _) HLL.out _) HLL.out _
    clear hWE
    refine bodyPost_ret (v := .tuple #[.agg #[.slice d1 u.s.length j1, .slice d2 u.p.length j2, .slice d3 u.g.length j3, .slice d4 u.r.length j4], .int .i64 0]) (by simp [results, Tryz.f55, go_sem, q0, q1, q2, q3]) rfl ?_
    exact ⟨_, _, _, _, u, 0, rfl, M1.out.al, HUO.out.small, fun _ => by have := HUO.out; rwa [HH.out.2.2] at this, KB.out⟩
  · have HNE := Lib.hid he
    have hne : (E != 0) = true := by simp [he]
    have z0 : W2.cell? ⟨w.heap.size + 1, 0, none⟩ = some (.slice none 0 0) := (cell_of_row W2 _ 0 _ _ _ HZ2.out).trans rfl
    have z1 : W2.cell? ⟨w.heap.size + 1, 1, none⟩ = some (.slice none 0 0) := (cell_of_row W2 _ 1 _ _ _ HZ2.out).trans rfl
    have z2 : W2.cell? ⟨w.heap.size + 1, 2, none⟩ = some (.slice none 0 0) := (cell_of_row W2 _ 2 _ _ _ HZ2.out).trans rfl
    have z3 : W2.cell? ⟨w.heap.size + 1, 3, none⟩ = some (.slice none 0 0) := (cell_of_row W2 _ 3 _ _ _ HZ2.out).trans rfl
    have ff : ∀ o, W2.frozen? ⟨w.heap.size + 1, o, none⟩ = false := fun o => by have hz := HZ2.out; simp [World.frozen?, hz]
    have lr := lt_of_block HZ2.out
    clear q0 q1 q2 q3 q4 q5 q6
    clear he
    go_wp2_with fail
    generalize hWE : World.setCell _ _ _ = WE
    have q0 : WE.cell? ⟨w.heap.size + 1, 0, none⟩ = some (.slice none 0 0) := by rw [← hWE]; simp [go_sem, lr, z0, z1, z2, z3]
    have q1 : WE.cell? ⟨w.heap.size + 1, 1, none⟩ = some (.slice none 0 0) := by rw [← hWE]; simp [go_sem, lr, z0, z1, z2, z3]
    have q2 : WE.cell? ⟨w.heap.size + 1, 2, none⟩ = some (.slice none 0 0) := by rw [← hWE]; simp [go_sem, lr, z0, z1, z2, z3]
    have q3 : WE.cell? ⟨w.heap.size + 1, 3, none⟩ = some (.slice none 0 0) := by rw [← hWE]; simp [go_sem, lr, z0, z1, z2, z3]
    have KB : Hid (Below w.heap.size w WE) := by show Below _ _ _; rw [← hWE]; exact Below.setCell (Below.setCell (Below.setCell (Below.setCell (KW2.out) (by simp) _) (by simp) _) (by simp) _) (by simp) _
    clear hWE
    refine bodyPost_ret (v := .tuple #[.agg #[.slice none 0 0, .slice none 0 0, .slice none 0 0, .slice none 0 0], .int .i64 E]) (by simp [results, Tryz.f55, go_sem, q0, q1, q2, q3]) rfl ?_
    exact ⟨_, _, _, _, ⟨[], [], [], []⟩, E, rfl, ⟨ILv.nil _, ILv.nil _, ILv.nil _, ILv.nil _⟩, by decide, fun h => absurd h HNE.out, KB.out⟩
end Go.Proofs.YtbiehpjhhopjaaaGreat
