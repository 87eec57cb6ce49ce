/-
 Whether a route of a plan is sound, as the references have it, walked. (Written by wip/tools/gen_rws.py.)
-/
import Derived.Test.YtbiehpjhhopjaaaGreatTRwR
set_option linter.unusedVariables false
set_option linter.unusedSimpArgs false
namespace Go.Proofs.YtbiehpjhhopjaaaGreat
open Go.RowKit Go.Sort
theorem fix_rise {α : Type} {f : α → Int} {l : List α} (h : RiseTo f l l.length) {k : Nat} (hk : k < l.length) : fix (fun x => decide (f x = f l[k])) l = (k : Int) := by
 rcases fix_cases (fun x => decide (f x = f l[k])) l with ⟨_, h2⟩ | ⟨m, hm, e, h1, h2⟩
 ·have := h2 k hk
  simp at this
 ·rcases Nat.lt_trichotomy m k with h' | h' | h'
  ·have := rise_lt h hk h'
   have h1 : f l[m] = f l[k] := by simpa using h1
   omega
  ·rw [e, h']
  ·have := h2 k hk h'
   simp at this
theorem soundR_none {p : Pl} {r : Rt} (h : rwEnd p r = none) : decide (SoundR p r) = false := by
 apply decide_eq_false
 unfold SoundR
 rw [h]
 exact id
theorem soundR_some {p : Pl} {r : Rt} {x : Rw} (h : rwEnd p r = some x) : decide (SoundR p r) = decide (Once (madeAsks p r x) ∧ ClearR p r x.outs) := by
 apply decide_eq_decide.2
 unfold SoundR
 rw [h]
set_option maxRecDepth 100000 in
set_option maxHeartbeats 8000000 in
theorem refSound (p : Pl) (s q gg rr : Value) (kk : Nat) (hkk : kk < p.rts.length) (c5 c6 c7 : Value) (w : World) (hp : PlM w s q gg rr p) (hf : p.Fit) (hPM : PlanMay p) (hr0 : RtM w c5 c6 c7 p.rts[kk]) :
  Calls Tryz.prog 130 #[plV p s q gg rr, .agg #[.int .i64 p.rts[kk].id, .int .i64 p.rts[kk].entry, .int .i64 p.rts[kk].exit, c5, c6, c7, .int .i64 p.rts[kk].timer]] w (BoolPost w (decide (SoundR p p.rts[kk]))) := by
 have HE : Hid (∀ W, Below w.heap.size w W → Calls Tryz.prog 216 #[plV p s q gg rr, .agg #[.int .i64 p.rts[kk].id, .int .i64 p.rts[kk].entry, .int .i64 p.rts[kk].exit, c5, c6, c7, .int .i64 p.rts[kk].timer]] W (EndsPost W (rwEnd p p.rts[kk]) (allOf p.rts[kk]).length)) := fun W hb => refEnds p s q gg rr kk hkk c5 c6 c7 W (hp.below hb) hf hPM (hr0.below hb)
 have HMD : Hid (∀ x, rwEnd p p.rts[kk] = some x → ∀ W, Below w.heap.size w W → Calls Tryz.prog 217 #[plV p s q gg rr, .int .i64 kk] W (WayPost W p.rts[kk] (madeAsks p p.rts[kk] x) (sgOf p p.rts[kk].entry).sec)) := fun x hx W hb => refMade p s q gg rr kk hkk W (hp.below hb) hf hPM x hx
 have HST : Hid (∀ a b W, Below w.heap.size w W → Calls Tryz.prog 219 #[plV p s q gg rr, .int .i64 a, .int .i64 b] W (NumPost W (standAt p a b))) := fun a b W hb => refStand p s q gg rr a b W (hp.below hb) hf
 have HML : Hid (∀ x, (madeAsks p p.rts[kk] x).length ≤ 1000) := made_len hPM hkk
 have HFX := Lib.hid (fix_rise (may_rts hPM) hkk)
 have HNO : Hid (rwEnd p p.rts[kk] = none → decide (SoundR p p.rts[kk]) = false) := soundR_none
 have HYE : Hid (∀ x, rwEnd p p.rts[kk] = some x → decide (SoundR p p.rts[kk]) = decide (Once (madeAsks p p.rts[kk] x) ∧ ClearR p p.rts[kk] x.outs)) := fun x => soundR_some
 have hHd := (may_rt hPM hkk).1
 have hp6 := hHd.2.2.2.2.1
 have hal := Lib.hid (all_len p.rts[kk])
 have LR := Lib.hid hf.rts
 have hip := hr0.path
 have hio := hr0.over
 obtain ⟨a1, k1, rfl, -⟩ := hp.secs
 obtain ⟨a2, k2, rfl, -⟩ := hp.pts
 obtain ⟨a3, k3, rfl, -⟩ := hp.sigs
 obtain ⟨a4, k4, rfl, g4⟩ := hp.rts
 have HRT : Hid (∀ W, Below w.heap.size w W → SlA W 7 RRt a4 k4 p.rts) := fun W hb => g4.below keeps_rt hb
 have HRP := Lib.hid hr0
 clear hp hf hPM hHd g4 hr0
 generalize decide (SoundR p p.rts[kk]) = D at *
 generalize hRW : rwEnd p p.rts[kk] = RE at *
 clear hRW
 generalize p.rts[kk] = r at *
 obtain ⟨p1, pn, p3, rfl, ip⟩ := hip
 obtain ⟨o1, on, o3, rfl, io⟩ := hio
 obtain rfl := ip.len
 obtain rfl := io.len
 obtain ⟨f1, f3, rfl, -⟩ := HRP.out.fl
 have HPI : Hid (∀ W, Below w.heap.size w W → IL W p1 r.path.length r.path) := fun W hb => ip.below hb
 clear HRP ip io
 unfold plV at *
 go_enter Tryz.func130, Tryz.ntmps130
 go_upto_region 1 with fail
 generalize hW0 : World.alloc _ _ = W0
 have K0 : Hid (Below w.heap.size w W0) := by show Below _ _ _; rw [← hW0]; exact ((Below.refl _ _).alloc (Nat.le_refl _) _).alloc (by simp) _
 have HP0 : Hid (W0.heap[w.heap.size]? = some (.cells #[.int .i64 p.ver, .int .i64 p.par, .slice a1 p.secs.length k1, .slice a2 p.pts.length k2, .slice a3 p.sigs.length k3, .slice a4 p.rts.length k4] 28 (0, 0))) := by show _ = _; rw [← hW0]; exact (heap_alloc_old _ _ (by simp)).trans (heap_alloc_new _ _)
 have HR0 : Hid (W0.heap[w.heap.size + 1]? = some (.cells #[.int .i64 r.id, .int .i64 r.entry, .int .i64 r.exit, .slice p1 r.path.length p3, .slice o1 r.over.length o3, .slice f1 r.fl.length f3, .int .i64 r.timer] 102 (0, 0))) := by show _ = _; rw [← hW0]; exact heap_alloc2_new _ _ _
 clear hW0
 obtain ⟨pp0, pp1, pp2, pp3, pp4, pp5⟩ := cells6 (HP0.out)
 obtain ⟨rr0, rr1, rr2, rr3, rr4, rr5, rr6⟩ := cells7 (HR0.out)
 have lb := block_lt_of_cell pp0
 have lr := block_lt_of_cell rr0
 go_wp2_with fail
 refine (HE.out W0 K0.out).mono ?_
 rintro e W1 ⟨hb1, hres⟩
 have HB1 : Hid (Below W0.heap.size W0 W1) := hb1
 have K1 : Hid (Below w.heap.size w W1) := K0.out.trans (hb1.mono K0.out.size)
 clear hb1 pp0 pp1 pp2 pp3 pp4 pp5 rr0 rr1 rr2 rr3 rr4 rr5 rr6 lb lr HE
 rcases hres with ⟨hre, rfl⟩ | ⟨x, ia, ib, ic, id, hre, hl1, hl2, rfl, hi1, hi2⟩
 ·have HV := Lib.hid (HNO.out hre)
  go_wp2_with fail
  go_ret
  exact ⟨by rw [HV.out]; rfl, K1.out⟩
 ·have HV := Lib.hid (HYE.out x hre)
  have HM := Lib.hid (HMD.out x hre)
  have HAL := Lib.hid (HML.out x)
  have HO1 := Lib.hid hi2
  have HL2 := Lib.hid hl2
  clear HMD HYE HNO hre hi1 hi2 hl1 hl2 HML
  generalize madeAsks p r x = MA at *
  generalize (sgOf p r.entry).sec = near at *
  have bx0 := (HB1.out.block _ (lt_of_block HP0.out)).trans HP0.out
  have bx1 := (HB1.out.block _ (lt_of_block HR0.out)).trans HR0.out
  go_upto_region 4 with fail
  obtain ⟨pp0, pp1, pp2, pp3, pp4, pp5⟩ := cells6 (bx0)
  have rr0 : W1.cell? ⟨w.heap.size + 1, 0, none⟩ = some (.int .i64 r.id) := (cell_of_row W1 _ 0 _ _ _ (bx1)).trans rfl
  clear bx0 bx1
  refine wp_region_inv' (by kernel_rfl) (by kernel_rfl) (fun f ac W9 => ∃ (s : Nat → Value) (y : Option Addr × Nat × Option Addr × Nat × Option Addr × Nat), ac = { tmps := #[.agg #[.int .i64 p.ver, .int .i64 p.par, .slice a1 p.secs.length k1, .slice a2 p.pts.length k2, .slice a3 p.sigs.length k3, .slice a4 p.rts.length k4], .agg #[.int .i64 r.id, .int .i64 r.entry, .int .i64 r.exit, .slice p1 r.path.length p3, .slice o1 r.over.length o3, .slice f1 r.fl.length f3, .int .i64 r.timer], .pointer (some ⟨w.heap.size, 0, none⟩), .pointer (some ⟨w.heap.size + 1, 0, none⟩), .bool false, .slice ia (allOf r).length ib, .slice ic (allOf r).length id, .bool true, s 7, undef, undef, undef, undef, .tuple #[.slice ia (allOf r).length ib, .slice ic (allOf r).length id, .bool true], .agg #[.int .i64 p.ver, .int .i64 p.par, .slice a1 p.secs.length k1, .slice a2 p.pts.length k2, .slice a3 p.sigs.length k3, .slice a4 p.rts.length k4], .agg #[.int .i64 r.id, .int .i64 r.entry, .int .i64 r.exit, .slice p1 r.path.length p3, .slice o1 r.over.length o3, .slice f1 r.fl.length f3, .int .i64 r.timer], .tuple #[.slice ia (allOf r).length ib, .slice ic (allOf r).length id, .bool true], .slice ia (allOf r).length ib, .slice ic (allOf r).length id, .bool true, .bool true, .bool false, s 0, s 1, s 2, s 3, s 4, s 5, s 6, undef, undef, undef, undef, undef, undef, undef, undef, undef, undef, undef, undef, undef, undef, undef, undef, undef, undef, undef, undef, undef, undef, undef, undef, undef, undef, undef, undef, undef, undef, undef, undef, undef, undef, undef, undef, undef, undef, undef, undef, undef, undef, undef, undef, undef, undef, undef, undef, undef, undef, undef, undef, undef, undef, undef, undef, undef, undef, undef, undef, undef, undef, undef, undef, undef, undef, undef], defers := [] } ∧ RGX W1 (fun (y : Option Addr × Nat × Option Addr × Nat × Option Addr × Nat) (i : Nat) => match i with | 0 => .agg #[.int .i64 p.ver, .int .i64 p.par, .slice a1 p.secs.length k1, .slice a2 p.pts.length k2, .slice a3 p.sigs.length k3, .slice a4 p.rts.length k4] | 1 => .pointer (some ⟨w.heap.size, 5, none⟩) | 2 => .slice a4 p.rts.length k4 | 3 => .pointer (some ⟨w.heap.size + 1, 0, none⟩) | 4 => .int .i64 r.id | 5 => .int .i64 kk | 6 => .agg #[.slice y.1 r.path.length y.2.1, .slice y.2.2.1 r.over.length y.2.2.2.1, .slice y.2.2.2.2.1 MA.length y.2.2.2.2.2, .int .i64 near] | _ => undef) 7 8 6 #[.slice none 0 0, .slice none 0 0, .slice none 0 0, .int .i64 0] (fun (y : Option Addr × Nat × Option Addr × Nat × Option Addr × Nat) => #[.slice y.1 r.path.length y.2.1, .slice y.2.2.1 r.over.length y.2.2.2.1, .slice y.2.2.2.2.1 MA.length y.2.2.2.2.2, .int .i64 near]) 184 (fun (W8 : World) (y : Option Addr × Nat × Option Addr × Nat × Option Addr × Nat) => AskOwn W8 W1.heap.size (.slice y.2.2.2.2.1 MA.length y.2.2.2.2.2) MA) f s y W9) ?_ ?_ ?_
  ·exact ⟨(fun i => match i with | 0 => undef | 1 => undef | 2 => undef | 3 => undef | 4 => undef | 5 => undef | 6 => undef | 7 => undef | _ => undef), (none, 0, none, 0, none, 0), rfl, RGX.start _ ⟨rfl, rfl, rfl, Nat.le_refl _, fun _ _ => rfl⟩⟩
  ·intro i o ho f a W9 hI hd hun
   obtain ⟨s, y, rfl, hS⟩ := hI
   rcases i with _ | _ | _ | _ | _ | _ | _ | _ | _ | i
   ·have ho2 := ho
    simp at ho2
    subst ho2
    have q0 := ccell hS.rg.bel pp0
    have q1 := ccell hS.rg.bel pp1
    have q2 := ccell hS.rg.bel pp2
    have q3 := ccell hS.rg.bel pp3
    have q4 := ccell hS.rg.bel pp4
    have q5 := ccell hS.rg.bel pp5
    refine wpOp_put (by simp [wpOp, go_sem, q0, q1, q2, q3, q4, q5]; exact .inl ⟨rfl, rfl⟩) ?_
    exact ⟨fun j => if j = 0 then .agg #[.int .i64 p.ver, .int .i64 p.par, .slice a1 p.secs.length k1, .slice a2 p.pts.length k2, .slice a3 p.sigs.length k3, .slice a4 p.rts.length k4] else s j, y, rfl, hS.step 0 (by decide) (by decide) (by decide)⟩
   ·have ho2 := ho
    simp at ho2
    subst ho2
    refine wpOp_put (by simp [wpOp, go_sem]; exact .inl ⟨rfl, rfl⟩) ?_
    exact ⟨fun j => if j = 1 then .pointer (some ⟨w.heap.size, 5, none⟩) else s j, y, rfl, hS.step 1 (by decide) (by decide) (by decide)⟩
   ·have ho2 := ho
    simp at ho2
    subst ho2
    have e1 : s 1 = .pointer (some ⟨w.heap.size, 5, none⟩) := hS.rg.val 1 (by decide) (hd ⟨1, .data⟩ (by simp) (by rfl))
    have q2 := ccell hS.rg.bel pp5
    refine wpOp_put (by simp [wpOp, go_sem, e1, q2]; exact .inl ⟨rfl, rfl⟩) ?_
    exact ⟨fun j => if j = 2 then .slice a4 p.rts.length k4 else s j, y, by simp [e1], hS.step 2 (by decide) (by decide) (by decide)⟩
   ·have ho2 := ho
    simp at ho2
    subst ho2
    refine wpOp_put (by simp [wpOp, go_sem]; exact .inl ⟨rfl, rfl⟩) ?_
    exact ⟨fun j => if j = 3 then .pointer (some ⟨w.heap.size + 1, 0, none⟩) else s j, y, rfl, hS.step 3 (by decide) (by decide) (by decide)⟩
   ·have ho2 := ho
    simp at ho2
    subst ho2
    have e3 : s 3 = .pointer (some ⟨w.heap.size + 1, 0, none⟩) := hS.rg.val 3 (by decide) (hd ⟨3, .data⟩ (by simp) (by rfl))
    have q2 := ccell hS.rg.bel rr0
    refine wpOp_put (by simp [wpOp, go_sem, e3, q2]; exact .inl ⟨rfl, rfl⟩) ?_
    exact ⟨fun j => if j = 4 then .int .i64 r.id else s j, y, by simp [e3], hS.step 4 (by decide) (by decide) (by decide)⟩
   ·have ho2 := ho
    simp at ho2
    subst ho2
    have e2 : s 2 = .slice a4 p.rts.length k4 := hS.rg.val 2 (by decide) (hd ⟨2, .data⟩ (by simp) (by rfl))
    have e4 : s 4 = .int .i64 r.id := hS.rg.val 4 (by decide) (hd ⟨4, .data⟩ (by simp) (by rfl))
    have hc := ((rtAt a4 k4 p.rts r.id W9 (HRT.out W9 (K1.out.trans (hS.rg.bel.mono K1.out.size))) LR.out).mono fun e w' h => (⟨h.1.trans (by rw [HFX.out]), below_same h.2⟩ : e = .returned (.int .i64 kk) ∧ Below W9.heap.size W9 w'))
    apply wpOp_putB (R := fun w' => Below W9.heap.size W9 w')
    ·simp [wpOp, go_sem, e2, e4]
     refine .inl (hc.mono ?_)
     rintro e w' ⟨rfl, hb⟩
     simp [go_sem]
     exact ⟨rfl, hb⟩
    ·intro w' hb
     exact ⟨fun j => if j = 5 then .int .i64 kk else s j, y, by simp [e2, e4], (hS.grow (fun y h => own_below h hb) hb).step 5 (by decide) (by decide) (by decide)⟩
   ·have ho2 := ho
    simp at ho2
    subst ho2
    have e0 : s 0 = .agg #[.int .i64 p.ver, .int .i64 p.par, .slice a1 p.secs.length k1, .slice a2 p.pts.length k2, .slice a3 p.sigs.length k3, .slice a4 p.rts.length k4] := hS.rg.val 0 (by decide) (hd ⟨0, .data⟩ (by simp) (by rfl))
    have e5 : s 5 = .int .i64 kk := hS.rg.val 5 (by decide) (hd ⟨5, .data⟩ (by simp) (by rfl))
    have hc := HM.out W9 (K1.out.trans (hS.rg.bel.mono K1.out.size))
    obtain ⟨Q9, hQ9⟩ : ∃ Q9 : Act → World → Prop, Q9 = fun a' w' => ∃ y' : Option Addr × Nat × Option Addr × Nat × Option Addr × Nat, a' = { tmps := #[.agg #[.int .i64 p.ver, .int .i64 p.par, .slice a1 p.secs.length k1, .slice a2 p.pts.length k2, .slice a3 p.sigs.length k3, .slice a4 p.rts.length k4], .agg #[.int .i64 r.id, .int .i64 r.entry, .int .i64 r.exit, .slice p1 r.path.length p3, .slice o1 r.over.length o3, .slice f1 r.fl.length f3, .int .i64 r.timer], .pointer (some ⟨w.heap.size, 0, none⟩), .pointer (some ⟨w.heap.size + 1, 0, none⟩), .bool false, .slice ia (allOf r).length ib, .slice ic (allOf r).length id, .bool true, s 7, undef, undef, undef, undef, .tuple #[.slice ia (allOf r).length ib, .slice ic (allOf r).length id, .bool true], .agg #[.int .i64 p.ver, .int .i64 p.par, .slice a1 p.secs.length k1, .slice a2 p.pts.length k2, .slice a3 p.sigs.length k3, .slice a4 p.rts.length k4], .agg #[.int .i64 r.id, .int .i64 r.entry, .int .i64 r.exit, .slice p1 r.path.length p3, .slice o1 r.over.length o3, .slice f1 r.fl.length f3, .int .i64 r.timer], .tuple #[.slice ia (allOf r).length ib, .slice ic (allOf r).length id, .bool true], .slice ia (allOf r).length ib, .slice ic (allOf r).length id, .bool true, .bool true, .bool false, .agg #[.int .i64 p.ver, .int .i64 p.par, .slice a1 p.secs.length k1, .slice a2 p.pts.length k2, .slice a3 p.sigs.length k3, .slice a4 p.rts.length k4], s 1, s 2, s 3, s 4, .int .i64 kk, .agg #[.slice y'.1 r.path.length y'.2.1, .slice y'.2.2.1 r.over.length y'.2.2.2.1, .slice y'.2.2.2.2.1 MA.length y'.2.2.2.2.2, .int .i64 near], undef, undef, undef, undef, undef, undef, undef, undef, undef, undef, undef, undef, undef, undef, undef, undef, undef, undef, undef, undef, undef, undef, undef, undef, undef, undef, undef, undef, undef, undef, undef, undef, undef, undef, undef, undef, undef, undef, undef, undef, undef, undef, undef, undef, undef, undef, undef, undef, undef, undef, undef, undef, undef, undef, undef, undef, undef, undef, undef, undef, undef, undef, undef, undef, undef, undef, undef], defers := [] } ∧ Below W9.heap.size W9 w' ∧ AskOwn w' W1.heap.size (.slice y'.2.2.2.2.1 MA.length y'.2.2.2.2.2) MA := ⟨_, rfl⟩
    refine wpOp_mono (fun a' w' (hh : Q9 a' w') => ?_) ?_
    ·rw [hQ9] at hh
     obtain ⟨y', rfl, hb, ho9⟩ := hh
     refine ⟨fun j => if j = 6 then .agg #[.slice y'.1 r.path.length y'.2.1, .slice y'.2.2.1 r.over.length y'.2.2.2.1, .slice y'.2.2.2.2.1 MA.length y'.2.2.2.2.2, .int .i64 near] else s j, y', by simp [e0, e5], hS.call y' (by decide) (by decide) hun (fun i hi => ?_) hb ho9⟩
     rcases i with _ | _ | _ | _ | _ | _ | _ | _ | _ | _ | i <;> first | rfl | exact absurd rfl hi
    ·simp [wpOp, go_sem, e0, e5]
     refine .inl (hc.mono ?_)
     rintro e w' ⟨q1, q3, n1, n3, m1, m3, rfl, o1', o2', o3', hb⟩
     simp [go_sem]
     rw [hQ9]
     exact ⟨(q1, q3, n1, n3, m1, m3), rfl, hb, own_base o3' hS.rg.bel.size⟩
   ·have ho2 := ho
    simp at ho2
    subst ho2
    refine wpOp_put (by simp [wpOp, go_sem]; exact .inl ⟨rfl, rfl⟩) ?_
    exact ⟨fun j => if j = 7 then .pointer (some ⟨W9.heap.size, 0, none⟩) else s j, y, rfl, hS.alloc (by decide) (by decide) (fun y h => own_below h ((Below.refl _ _).alloc (Nat.le_refl _) _)) hun⟩
   ·have ho2 := ho
    simp at ho2
    subst ho2
    have e6 : s 6 = .agg #[.slice y.1 r.path.length y.2.1, .slice y.2.2.1 r.over.length y.2.2.2.1, .slice y.2.2.2.2.1 MA.length y.2.2.2.2.2, .int .i64 near] := hS.rg.val 6 (by decide) (hd ⟨6, .data⟩ (by simp) (by rfl))
    have ha := hd ⟨7, .data⟩ (by simp) (by rfl)
    have hc9 := hd ⟨6, .data⟩ (by simp) (by rfl)
    obtain ⟨g, eg, hg1, hg2⟩ := hS.rg.at ha hun
    refine wpOp_store_row ho rfl 184 (.tmp 8) (.tmp 28) rfl g #[.slice y.1 r.path.length y.2.1, .slice y.2.2.1 r.over.length y.2.2.2.1, .slice y.2.2.2.2.1 MA.length y.2.2.2.2.2, .int .i64 near] eg e6 184 #[.slice none 0 0, .slice none 0 0, .slice none 0 0, .int .i64 0] hg2 rfl rfl (by simp [Value.oneCell']) ?_
    exact ⟨fun j => if j = 8 then undef else s j, y, rfl, hS.store (by decide) (by decide) ha hc9 eg hg1 hg2 (fun h => own_setRow h hg2 (by decide))⟩
   ·simp at ho
  ·intro f a W9 hI hall
   obtain ⟨s, y, rfl, hS⟩ := hI
   have e0 : s 0 = .agg #[.int .i64 p.ver, .int .i64 p.par, .slice a1 p.secs.length k1, .slice a2 p.pts.length k2, .slice a3 p.sigs.length k3, .slice a4 p.rts.length k4] := hS.rg.val 0 (by decide) (hall 0 (by decide))
   have e1 : s 1 = .pointer (some ⟨w.heap.size, 5, none⟩) := hS.rg.val 1 (by decide) (hall 1 (by decide))
   have e2 : s 2 = .slice a4 p.rts.length k4 := hS.rg.val 2 (by decide) (hall 2 (by decide))
   have e3 : s 3 = .pointer (some ⟨w.heap.size + 1, 0, none⟩) := hS.rg.val 3 (by decide) (hall 3 (by decide))
   have e4 : s 4 = .int .i64 r.id := hS.rg.val 4 (by decide) (hall 4 (by decide))
   have e5 : s 5 = .int .i64 kk := hS.rg.val 5 (by decide) (hall 5 (by decide))
   have e6 : s 6 = .agg #[.slice y.1 r.path.length y.2.1, .slice y.2.2.1 r.over.length y.2.2.2.1, .slice y.2.2.2.2.1 MA.length y.2.2.2.2.2, .int .i64 near] := hS.rg.val 6 (by decide) (hall 6 (by decide))
   obtain ⟨g, eg, hg1, hg2⟩ := hS.rg.done (hall 7 (by decide)) (hall 8 (by decide))
   have hbel := hS.rg.bel
   have hown := hS.has (hall 6 (by decide))
   simp only [e0, e1, e2, e3, e4, e5, e6, eg]
   clear hS hall eg e0 e1 e2 e3 e4 e5 e6
   have HG : Hid (W9.heap[g]? = some (.cells #[.slice y.1 r.path.length y.2.1, .slice y.2.2.1 r.over.length y.2.2.2.1, .slice y.2.2.2.2.1 MA.length y.2.2.2.2.2, .int .i64 near] 184 (0, 0))) := hg2
   have HA9 : Hid (SlA W9 3 RAsk y.2.2.2.2.1 y.2.2.2.2.2 MA) := by
    obtain ⟨a', c', e', h'⟩ := AskOwn.sl hown
    cases e'
    exact h'
   have KO : Hid (Below w.heap.size w W9) := K1.out.trans (hbel.mono K1.out.size)
   have KR : Hid (Below W0.heap.size W0 W9) := HB1.out.trans (hbel.mono HB1.out.size)
   have HO9 := Lib.hid (HO1.out.below hbel)
   clear hg1 hg2 hbel hown pp0 pp1 pp2 pp3 pp4 pp5 rr0 HM HO1 HFX
   obtain ⟨y1, y2, y3, y4, y5, y6⟩ := y
   simp only at *
   obtain ⟨CC, hCC⟩ : ∃ CC : Nat → Prop, CC = fun i => ¬ (standAt p (r.path.getD i 0) (x.outs.getD i 0) ≠ 0 ∧ i + 1 < r.path.length) ∧ ¬ (i + 1 = r.path.length ∧ standAt p (r.path.getD i 0) (x.outs.getD i 0) ≠ r.exit) := ⟨_, rfl⟩
   have HCC : Hid (∀ i, CC i → ¬ (standAt p (r.path.getD i 0) (x.outs.getD i 0) ≠ 0 ∧ i + 1 < r.path.length) ∧ ¬ (i + 1 = r.path.length ∧ standAt p (r.path.getD i 0) (x.outs.getD i 0) ≠ r.exit)) := fun i h => by rw [hCC] at h; exact h
   have HCI : Hid (∀ i, ¬ (standAt p (r.path.getD i 0) (x.outs.getD i 0) ≠ 0 ∧ i + 1 < r.path.length) ∧ ¬ (i + 1 = r.path.length ∧ standAt p (r.path.getD i 0) (x.outs.getD i 0) ≠ r.exit) → CC i) := fun i h => by rw [hCC]; exact h
   clear hCC
   go_wp2_with fail
   go_loopg [9] MA.length (fun u i wr => ∃ (k : Nat), k ≤ MA.length ∧ u = MA.length - k ∧ i = .int .i64 k ∧ Below W9.heap.size W9 wr ∧ OnceA MA k)
   case atStart => exact ⟨0, by omega, by omega, rfl, Below.refl _ _, fun i hi hik => absurd hik (Nat.not_lt_zero _)⟩
   case round =>
    obtain ⟨k, hk, rfl, rfl, hb, hon⟩ := hrel
    have hrow := (hb.block _ (lt_of_block HG.out)).trans HG.out
    have HB := Lib.hid hb
    have HON := Lib.hid hon
    have e2 : wr.cell? ⟨g, 2, none⟩ = some (.slice y5 MA.length y6) := (cell_of_row wr _ 2 _ _ _ hrow).trans rfl
    have le := block_lt_of_cell e2
    clear hb hon hrow
    by_cases hlt : k < MA.length
    ·have hd : decide ((k : Int) < (MA.length : Int)) = true := by simp; omega
     clear hlt
     have HLT : Hid (k < MA.length) := by show _ < _; simpa using hd
     go_wp2_with fail
     go_loopg [10] k (fun u i wv => ∃ (m : Nat), m ≤ k ∧ u = k - m ∧ i = .int .i64 m ∧ Below W9.heap.size W9 wv ∧ (∀ j (hj : j < MA.length), j < m → MA[j].pt ≠ (MA[k]'HLT.out).pt))
     case atStart => exact ⟨0, by omega, by omega, rfl, HB.out, fun j _ hj => absurd hj (Nat.not_lt_zero _)⟩
     case round =>
      obtain ⟨m, hm, rfl, rfl, hb, hno⟩ := hrel
      have hrow := (hb.block _ (lt_of_block HG.out)).trans HG.out
      have HB2 := Lib.hid hb
      have HNE := Lib.hid hno
      have HAr := Lib.hid (HA9.out.below keeps_ask hb)
      clear hb hno e2 le HB
      by_cases hmk : m < k
      ·have hd2 : decide ((m : Int) < (k : Int)) = true := by simp; omega
       have hlt := HLT.out
       have hml : m < MA.length := by omega
       obtain ⟨ga, oa, v1, rfl, hl1, hc1, hr1⟩ := HAr.out.at_ m hml
       obtain ⟨ga2, oa2, v2, eb2, hl2, hc2, hr2⟩ := HAr.out.at_ k hlt
       cases eb2
       obtain rfl : v1 = [.int .i64 MA[m].pt, .int .i64 MA[m].lie, .int .i64 MA[m].pl] := hr1
       obtain rfl : v2 = [.int .i64 MA[k].pt, .int .i64 MA[k].lie, .int .i64 MA[k].pl] := hr2
       have x0 : wr.cell? ⟨ga, oa + m * 3, none⟩ = some (.int .i64 MA[m].pt) := hc1 0 (by simp)
       have z0 : wr.cell? ⟨ga, oa + k * 3, none⟩ = some (.int .i64 MA[k].pt) := hc2 0 (by simp)
       have lx := block_lt_of_cell x0
       have e2 : wr.cell? ⟨g, 2, none⟩ = some (.slice (some ⟨ga, oa, none⟩) MA.length y6) := (cell_of_row wr _ 2 _ _ _ hrow).trans rfl
       have le := block_lt_of_cell e2
       have hal2 := HAL.out
       have hmk2 : m ≤ 1000 := by omega
       have c0 : (0 : Int) ≤ (m : Int) := by omega
       have c1 : (m : Int) < (MA.length : Int) := by omega
       have c2 : (0 : Int) ≤ (k : Int) := by omega
       have c3 : (k : Int) < (MA.length : Int) := by omega
       clear hc1 hc2 hl1 hl2 hrow HAr
       by_cases hq : MA[m].pt = MA[k].pt
       ·have t1 : (MA[m].pt == MA[k].pt) = true := by rw [beq_iff_eq]; exact hq
        have HF : Hid (D = false) := by
         show _ = _
         rw [HV.out]
         exact decide_eq_false fun h => h.1 k hlt hlt m hmk hq
        clear hq
        go_upto_region 11 with fail
        go_quiet (fail)
        go_wp2_with fail
        go_ret
        exact ⟨by rw [HF.out]; rfl, below_drewN (KO.out.trans (HB2.out.mono KO.out.size)) _⟩
       ·have t1 : (MA[m].pt == MA[k].pt) = false := by rw [beq_eq_false_iff_ne]; exact hq
        have HQ := Lib.hid hq
        clear hq
        go_upto_region 11 with fail
        go_quiet (fail)
        go_wp2_with fail
        go_roundg (k - (m + 1))
        case measure => go_light; omega
        case rel =>
         go_light
         refine ⟨m + 1, by omega, by omega, by go_num, below_drewN HB2.out _, fun j h1 h2 => ?_⟩
         by_cases hjm : j = m
         ·subst hjm; exact HQ.out
         ·exact HNE.out j h1 (by omega)
      ·have hd2 : decide ((m : Int) < (k : Int)) = false := by simp; omega
       obtain rfl : m = k := by omega
       have HON2 := Lib.hid (onceA_step HLT.out HON.out fun j hj => HNE.out j (Nat.lt_trans hj HLT.out) hj)
       have HALk : m + 1 ≤ MA.length := HLT.out
       have hal2 := HAL.out
       go_wp2_with fail
       go_roundg (MA.length - (m + 1))
       case measure => go_light; omega
       case rel => go_light; exact ⟨m + 1, by omega, by omega, by go_num, HB2.out, HON2.out⟩
    ·obtain rfl : k = MA.length := by omega
     have hon0 := HON.out
     have hbw := HB.out
     have hd : decide ((MA.length : Int) < (MA.length : Int)) = false := by simp
     have HONE := Lib.hid hon0
     clear hd HB
     have hwr0 := Lib.hid hbw
     go_upto_region 13 with fail
     go_wp2_with fail
     go_loopg [11] r.path.length (fun u i wv => ∃ (k : Nat), k ≤ r.path.length ∧ u = r.path.length - k ∧ i = .int .i64 k ∧ Below W9.heap.size W9 wv ∧ (∀ j, j < k → CC j))
     case atStart => exact ⟨0, by omega, by omega, rfl, hwr0.out, fun j hj => absurd hj (Nat.not_lt_zero _)⟩
     case round =>
      obtain ⟨k, hk, rfl, rfl, hb, hno⟩ := hrel
      have HB := Lib.hid hb
      have HN := Lib.hid hno
      have KW : Hid (Below w.heap.size w wr) := KO.out.trans (hb.mono KO.out.size)
      have KR2 : Hid (Below W0.heap.size W0 wr) := KR.out.trans (hb.mono KR.out.size)
      clear e2 le hb hno
      have bx0 := (KR2.out.block _ (lt_of_block HP0.out)).trans HP0.out
      have bx1 := (KR2.out.block _ (lt_of_block HR0.out)).trans HR0.out
      obtain ⟨pp0, pp1, pp2, pp3, pp4, pp5⟩ := cells6 (bx0)
      have rr3 : wr.cell? ⟨w.heap.size + 1, 3, none⟩ = some (.slice p1 r.path.length p3) := (cell_of_row wr _ 3 _ _ _ (bx1)).trans rfl
      have lb := block_lt_of_cell pp0
      have lr := block_lt_of_cell rr3
      clear bx0 bx1
      by_cases hlt : k < r.path.length
      ·have hd : decide ((k : Int) < (r.path.length : Int)) = true := by simp; omega
       have hal3 := hal.out
       have hko : k < x.outs.length := by rw [HL2.out]; omega
       obtain ⟨gp, op, rfl, x0⟩ := (HPI.out wr KW.out).cell k hlt
       obtain ⟨gq, oq, rfl, z0⟩ := (HO9.out.below HB.out).cell k hko
       have lx := block_lt_of_cell x0
       have lz := block_lt_of_cell z0
       have c0 : (0 : Int) ≤ (k : Int) := by omega
       have c1 : (k : Int) < (r.path.length : Int) := by omega
       have c2 : (k : Int) < ((allOf r).length : Int) := by omega
       clear hal3
       have hg1 : r.path.getD k 0 = r.path[k] := by rw [List.getD_eq_getElem?_getD, List.getElem?_eq_getElem hlt]; rfl
       have hg2 : x.outs.getD k 0 = x.outs[k] := by rw [List.getD_eq_getElem?_getD, List.getElem?_eq_getElem hko]; rfl
       go_upto_region 16 with fail
       go_still_tail 10, (by kernel_rfl)
       change wpList _ _ _ _ _ wr.drew
       generalize hWD : wr.drew = WD
       have hbD : Below wr.heap.size wr WD := by rw [← hWD]; exact (Below.refl _ _).drew
       have HBD : Hid (Below W9.heap.size W9 WD) := HB.out.trans (hbD.mono HB.out.size)
       have HCk := Lib.hid (HST.out r.path[k] x.outs[k] WD (KO.out.trans (HBD.out.mono KO.out.size)))
       obtain ⟨S, hS⟩ : ∃ S, standAt p (r.path.getD k 0) (x.outs.getD k 0) = S := ⟨_, rfl⟩
       rw [hg1, hg2] at hS
       rw [hS] at HCk
       rw [← hg1, ← hg2] at hS
       clear hg1 hg2 hWD hbD pp0 pp1 pp2 pp3 pp4 pp5 rr3 lb lr x0 z0 lx lz HB KW KR2
       go_wp2_with fail
       refine HCk.out.mono ?_
       rintro e W2 ⟨rfl, hb2⟩
       have HB2 : Hid (Below W9.heap.size W9 W2) := HBD.out.trans (hb2.mono HBD.out.size)
       have bx1 := ((KR.out.trans (HB2.out.mono KR.out.size)).block _ (lt_of_block HR0.out)).trans HR0.out
       have rr2 : W2.cell? ⟨w.heap.size + 1, 2, none⟩ = some (.int .i64 r.exit) := (cell_of_row W2 _ 2 _ _ _ (bx1)).trans rfl
       have rr3 : W2.cell? ⟨w.heap.size + 1, 3, none⟩ = some (.slice (some ⟨gp, op, none⟩) r.path.length p3) := (cell_of_row W2 _ 3 _ _ _ (bx1)).trans rfl
       have lr := block_lt_of_cell rr2
       clear bx1 hb2 HCk HBD
       by_cases s1 : k + 1 < r.path.length
       ·have t2 : decide ((k : Int) < (r.path.length : Int) - 1) = true := by simp; omega
        have t3 : ((k : Int) == (r.path.length : Int) - 1) = false := by rw [beq_eq_false_iff_ne]; omega
        have s3 : True := trivial
        by_cases s2 : S = 0
        ·have t1 : (S != 0) = false := by simp [s2]
         have HN2 : Hid (∀ j, j < k + 1 → CC j) := fun j hj => by
          rcases Nat.lt_or_ge j k with h' | h'
          ·exact HN.out j h'
          ·obtain rfl : j = k := by omega
           refine HCI.out j ?_
           rw [hS]
           exact ⟨fun h => h.1 s2, fun h => absurd h.1 (by omega)⟩
         clear s1 s2 s3 hS
         go_wp2_with fail
         go_roundg (r.path.length - (k + 1))
         case measure => go_light; omega
         case rel => go_light; exact ⟨k + 1, by omega, by omega, by go_num, HB2.out, HN2.out⟩
        ·have t1 : (S != 0) = true := by simp [s2]
         have HF : Hid (D = false) := by
          show _ = _
          rw [HV.out]
          refine decide_eq_false fun h => ?_
          have h2 := h.2 k hlt
          rw [hS] at h2
          exact h2.1 ⟨s2, s1⟩
         clear s1 s2 s3 hS
         go_wp2_with fail
         go_ret
         exact ⟨by rw [HF.out]; rfl, KO.out.trans (HB2.out.mono KO.out.size)⟩
       ·have t2 : decide ((k : Int) < (r.path.length : Int) - 1) = false := by simp; omega
        have t3 : ((k : Int) == (r.path.length : Int) - 1) = true := by rw [beq_iff_eq]; omega
        by_cases s3 : S = r.exit
        ·have t4 : (S != r.exit) = false := by simp [s3]
         by_cases s2 : S = 0
         ·have t1 : (S != 0) = false := by simp [s2]
          have HN2 : Hid (∀ j, j < k + 1 → CC j) := fun j hj => by
           rcases Nat.lt_or_ge j k with h' | h'
           ·exact HN.out j h'
           ·obtain rfl : j = k := by omega
            refine HCI.out j ?_
            rw [hS]
            exact ⟨fun h => absurd h.2 s1, fun h => h.2 s3⟩
          clear s1 s2 s3 hS
          go_wp2_with fail
          go_roundg (r.path.length - (k + 1))
          case measure => go_light; omega
          case rel => go_light; exact ⟨k + 1, by omega, by omega, by go_num, HB2.out, HN2.out⟩
         ·have t1 : (S != 0) = true := by simp [s2]
          have HN2 : Hid (∀ j, j < k + 1 → CC j) := fun j hj => by
           rcases Nat.lt_or_ge j k with h' | h'
           ·exact HN.out j h'
           ·obtain rfl : j = k := by omega
            refine HCI.out j ?_
            rw [hS]
            exact ⟨fun h => absurd h.2 s1, fun h => h.2 s3⟩
          clear s1 s2 s3 hS
          go_wp2_with fail
          go_roundg (r.path.length - (k + 1))
          case measure => go_light; omega
          case rel => go_light; exact ⟨k + 1, by omega, by omega, by go_num, HB2.out, HN2.out⟩
        ·have t4 : (S != r.exit) = true := by simp [s3]
         by_cases s2 : S = 0
         ·have t1 : (S != 0) = false := by simp [s2]
          have HF : Hid (D = false) := by
           show _ = _
           rw [HV.out]
           refine decide_eq_false fun h => ?_
           have h2 := h.2 k hlt
           rw [hS] at h2
           exact h2.2 ⟨by omega, s3⟩
          clear s1 s2 s3 hS
          go_wp2_with fail
          go_ret
          exact ⟨by rw [HF.out]; rfl, KO.out.trans (HB2.out.mono KO.out.size)⟩
         ·have t1 : (S != 0) = true := by simp [s2]
          have HF : Hid (D = false) := by
           show _ = _
           rw [HV.out]
           refine decide_eq_false fun h => ?_
           have h2 := h.2 k hlt
           rw [hS] at h2
           exact h2.2 ⟨by omega, s3⟩
          clear s1 s2 s3 hS
          go_wp2_with fail
          go_ret
          exact ⟨by rw [HF.out]; rfl, KO.out.trans (HB2.out.mono KO.out.size)⟩
      ·obtain rfl : k = r.path.length := by omega
       have hd : decide ((r.path.length : Int) < (r.path.length : Int)) = false := by simp
       have HF : Hid (D = true) := by
        show _ = _
        rw [HV.out]
        exact decide_eq_true ⟨HONE.out, fun i hi => HCC.out i (HN.out i hi)⟩
       go_wp2_with fail
       go_ret
       exact ⟨by rw [HF.out]; rfl, KW.out⟩
end Go.Proofs.YtbiehpjhhopjaaaGreat
