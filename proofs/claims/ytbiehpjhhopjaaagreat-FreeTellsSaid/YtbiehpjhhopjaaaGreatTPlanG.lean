/-
 plan.Check, walked.
-/
import Derived.Test.YtbiehpjhhopjaaaGreatTPlanF
import Derived.Test.YtbiehpjhhopjaaaGreatTData
import Derived.Deep.WholeRow
set_option linter.unusedVariables false
namespace Go.Proofs.YtbiehpjhhopjaaaGreat
open Go.RowKit Go.Sort
theorem wpList_store_row {P : Program} {ops : Array Oper} {rest : List Oper} {o : Oper} {a : Act} {w : World} {Q : Exit → Act → World → Prop} (hgd : o.guard = none) (ty : TypeId) (x y : Operand) (ho : o.op = .store ty x y)
  (g : Nat) (cells old : Array Value) (t : TypeId) (hx : a.eval x = .pointer (some ⟨g, 0, none⟩)) (hy : a.eval y = .agg cells) (hg : w.heap[g]? = some (.cells old t (0, 0))) (hi : (P.info? ty).map (·.size) = some cells.size)
  (hs : old.size = cells.size) (h1 : cells.all (·.oneCell') = true)
  (h : wpList P ops Q rest (a.put o.dst undef) (w.setRow g cells)) : wpList P ops Q (o :: rest) a w :=
 wpList_plain hgd fun _ hK => by
  unfold Oper.wp execOp
  simp only [ho, hx, hy, Instr.storeAt, Instr.sureAddr, Sem.run_bind, Sem.run_pure, Result.andThen_ok, run_storeVar_row w g t ty old cells hg hi hs h1]
  exact hK _ _ h
theorem wpList_store_new {P : Program} {ops : Array Oper} {rest : List Oper} {o : Oper} {a : Act} {w : World} {Q : Exit → Act → World → Prop} (hgd : o.guard = none) (ty : TypeId) (x y : Operand) (ho : o.op = .store ty x y)
  (cells old : Array Value) (hx : a.eval x = .pointer (some ⟨w.heap.size, 0, none⟩)) (hy : a.eval y = .agg cells) (hi : (P.info? ty).map (·.size) = some cells.size)
  (hs : old.size = cells.size) (h1 : cells.all (·.oneCell') = true)
  (h : wpList P ops Q rest (a.put o.dst undef) (w.alloc (.cells cells ty))) : wpList P ops Q (o :: rest) a (w.alloc (.cells old ty)) :=
 wpList_store_row hgd ty x y ho w.heap.size cells old ty hx hy (heap_alloc_new _ _) hi hs h1 (by rw [World.setRow_alloc_new]; exact h)
theorem IntArr.one {cs : Array Value} {f : Nat → Int} (h : IntArr cs f) : cs.all (·.oneCell') = true := by
 rw [Array.all_eq_true]
 intro i hi
 have h2 := h.2 i (by rw [← h.1]; exact hi)
 rw [Array.getElem?_eq_getElem hi] at h2
 rw [Option.some.inj h2]
 rfl
theorem endsOf_three {l : List Sec} (hA : SecsA l l.length) (q : Nat) : endsOf l l.length q ≤ 3 := by
 unfold endsOf
 rw [List.take_length]
 cases hf : l.find? (fun s => decide (s.id = (q : Int))) with
 | none => simp
 | some s =>
  obtain ⟨i, hi, rfl⟩ := List.getElem_of_mem (List.mem_of_find?_eq_some hf)
  rcases (hA i hi hi).1.2.2 with h | h
  ·simp; omega
  ·simp; omega
def PlanMay (p : Pl) : Prop := PlHead p ∧ PlMid (endsOf p.secs p.secs.length) p ∧ RtsMay (endsOf p.secs p.secs.length) p p.rts.length
instance (p : Pl) : Decidable (PlanMay p) := by unfold PlanMay; exact inferInstance
set_option maxRecDepth 100000 in
set_option maxHeartbeats 4000000 in
theorem plancheck_any (p : Pl) (s q g r : Value) (w : World) (hp : PlM w s q g r p) (hf : p.Fit) : Calls Tryz.prog 208 #[plV p s q g r] w (ErrPost w (if PlanMay p then 0 else 8)) := by
 have HPM : Hid (∀ w', Below w.heap.size w w' → PlM w' s q g r p) := fun w' hb => hp.below hb
 have HF := Lib.hid hf
 have HPT : Hid (∀ w', Below w.heap.size w w' → SecsA p.secs p.secs.length → Calls Tryz.prog 297 #[plV p s q g r] w' (BoolPost w' (decide (PtsMay p)))) := fun w' hb hA => points_any p s q g r w' (hp.below hb) hf hA
 have HSI : Hid (∀ w' cs f, Below w.heap.size w w' → IntArr cs f → (∀ q, f q ≤ 3) → Calls Tryz.prog 298 #[plV p s q g r, .agg cs] w' (BoolPost w' (decide (SigsMay f p.sigs)))) := fun w' cs f hb h1 h2 => signals_any p s q g r cs f w' (hp.below hb) hf h1 h2
 have HRO : Hid (∀ w' (x : Rt) vp vo vf cs f, Below w.heap.size w w' → RtM w' vp vo vf x → IntArr cs f → (∀ q, f q ≤ 3) → SigsMay f p.sigs → Calls Tryz.prog 300 #[plV p s q g r, .agg #[.int .i64 x.id, .int .i64 x.entry, .int .i64 x.exit, vp, vo, vf, .int .i64 x.timer], .agg cs] w' (BoolPost w' (decide (RtMay f p.sigs p.pts x)))) :=
  fun w' x vp vo vf cs f hb hr h1 h2 h3 => route_any p x s q g r vp vo vf cs f w' (hp.below hb) hf hr h1 h2 h3
 have HE : Hid (∀ n : Int, (PlanMay p → n = 0) → (¬ PlanMay p → n = 8) → (if PlanMay p then (0 : Int) else 8) = n) := fun n h1 h2 => by
  by_cases h : PlanMay p
  ·rw [if_pos h, h1 h]
  ·rw [if_neg h, h2 h]
 have HU : Hid (PlanMay p ↔ PlHead p ∧ PlMid (endsOf p.secs p.secs.length) p ∧ RtsMay (endsOf p.secs p.secs.length) p p.rts.length) := Iff.rfl
 obtain ⟨⟨a1, c1, rfl, k1⟩, ⟨a2, c2, rfl, k2⟩, ⟨a3, c3, rfl, k3⟩, ⟨a4, c4, rfl, k4⟩⟩ := hp
 have HS : Hid (∀ w', Below w.heap.size w w' → SlA w' 3 RSec a1 c1 p.secs) := fun w' hb => k1.below keeps_sec hb
 have HR : Hid (∀ w', Below w.heap.size w w' → SlA w' 7 RRt a4 c4 p.rts) := fun w' hb => k4.below keeps_rt hb
 have hs := hf.secs
 have hr := hf.rts
 have HEN := Lib.hid hf.ends
 have HH : Hid (PlHead p ↔ 1 ≤ p.ver ∧ p.ver ≤ 2147483647 ∧ 0 ≤ p.par ∧ p.par < p.ver ∧ SecsMay p.secs) := Iff.rfl
 clear k1 k2 k3 k4 hf
 unfold plV at *
 generalize (if PlanMay p then (0 : Int) else 8) = E at *
 have HB : Hid (¬ PlHead p → E = 8) := fun h => HE.out 8 (fun h' => absurd (HU.out.1 h').1 h) (fun _ => rfl)
 go_enter Tryz.func208, Tryz.ntmps208
 go_upto_region 1 with fail
 generalize hW : w.alloc _ = W
 have hbW : Below w.heap.size w W := by rw [← hW]; exact (Below.refl _ _).alloc (Nat.le_refl _) _
 have K0 := Lib.hid hbW
 have y0 : W.cell? ⟨w.heap.size, 0, none⟩ = some (.int .i64 p.ver) := by rw [← hW]; simp
 have y1 : W.cell? ⟨w.heap.size, 1, none⟩ = some (.int .i64 p.par) := by rw [← hW]; simp
 have y2 : W.cell? ⟨w.heap.size, 2, none⟩ = some (.slice a1 p.secs.length c1) := by rw [← hW]; simp
 have y3 : W.cell? ⟨w.heap.size, 3, none⟩ = some (.slice a2 p.pts.length c2) := by rw [← hW]; simp
 have y4 : W.cell? ⟨w.heap.size, 4, none⟩ = some (.slice a3 p.sigs.length c3) := by rw [← hW]; simp
 have y5 : W.cell? ⟨w.heap.size, 5, none⟩ = some (.slice a4 p.rts.length c4) := by rw [← hW]; simp
 have hz : w.heap.size < W.heap.size := by rw [← hW]; simp
 have HZ := Lib.hid hz
 have HY : Hid (∀ W', Below W.heap.size W W' → (W'.cell? ⟨w.heap.size, 0, none⟩ = some (.int .i64 p.ver) ∧ W'.cell? ⟨w.heap.size, 1, none⟩ = some (.int .i64 p.par) ∧ W'.cell? ⟨w.heap.size, 2, none⟩ = some (.slice a1 p.secs.length c1) ∧ W'.cell? ⟨w.heap.size, 3, none⟩ = some (.slice a2 p.pts.length c2) ∧ W'.cell? ⟨w.heap.size, 4, none⟩ = some (.slice a3 p.sigs.length c3) ∧ W'.cell? ⟨w.heap.size, 5, none⟩ = some (.slice a4 p.rts.length c4)) ∧ Below w.heap.size w W') := fun W' hb =>
  ⟨⟨ccell hb y0, ccell hb y1, ccell hb y2, ccell hb y3, ccell hb y4, ccell hb y5⟩, hbW.trans (hb.mono hbW.size)⟩
 clear hW hbW
 go_wp2_with fail
 all_goals try (go_ret; exact ⟨rint (HB.out (fun h => by obtain ⟨h1, h2, h3, h4, -⟩ := HH.out.1 h; omega)).symm, K0.out⟩)
 have HPH : Hid (SecsMay p.secs → PlHead p) := fun h => HH.out.2 ⟨by omega, by omega, by omega, by omega, h⟩
 refine (check_any a1 c1 p.secs _ (HS.out _ K0.out) hs HEN.out).mono ?_
 rintro e w1 ⟨rfl, hb1⟩
 have HB1 := Lib.hid hb1
 obtain ⟨⟨z0, z1, z2, z3, z4, z5⟩, hb01⟩ := HY.out _ hb1
 have K1 := Lib.hid hb01
 have l1 : w.heap.size < w1.heap.size := Nat.lt_of_lt_of_le hz hb1.size
 clear y0 y1 y2 y3 y4 y5 hb01 hb1
 by_cases hsm : SecsMay p.secs
 ·rw [if_pos hsm]
  have HPD := Lib.hid (HPH.out hsm)
  have HSA := Lib.hid hsm.2.1
  have H3 : Hid (∀ q, endsOf p.secs p.secs.length q ≤ 3) := endsOf_three hsm.2.1
  clear hsm
  go_wp2_with fail
  refine (ends_any a1 c1 p.secs _ (HS.out _ K1.out) hs HSA.out).mono ?_
  rintro e w2 ⟨cs, rfl, hcs, hb2⟩
  have HCS := Lib.hid hcs
  have HB2 : Hid (Below W.heap.size W w2) := HB1.out.trans (hb2.mono HB1.out.size)
  have hz0 : Tryz.zeroCells168.size = cs.size := by rw [zero168, hcs.1]; simp
  clear hb2 hcs
  go_upto_region 4 with (refine wpList_store_new rfl 168 _ _ rfl cs Tryz.zeroCells168 rfl rfl (by rw [info168, HCS.out.1]) hz0 HCS.out.one ?_)
  generalize hW5 : w2.alloc _ = W5
  have HB5 : Hid (Below W.heap.size W W5) := by show Below _ _ _; rw [← hW5]; exact HB2.out.alloc HB2.out.size _
  have HGC : Hid (∀ W', Below W5.heap.size W5 W' → W'.heap[w2.heap.size]? = some (.cells cs 168 (0, 0))) := fun W' hb => (hb.block _ (by rw [← hW5]; simp)).trans (by rw [← hW5]; exact heap_alloc_new _ _)
  clear hW5 hz0 z0 z1 z2 z3 z4 z5 l1
  obtain ⟨⟨z0, z1, z2, z3, z4, z5⟩, hb05⟩ := HY.out _ HB5.out
  have K5 := Lib.hid hb05
  have HCZ : Hid ((Tryz.prog.info? 168).map (·.size) = some cs.size) := by show _ = _; rw [info168, HCS.out.1]
  clear hb05
  have HMB : Hid (¬ PlMid (endsOf p.secs p.secs.length) p → E = 8) := fun h => HE.out 8 (fun h' => absurd (HU.out.1 h').2.1 h) (fun _ => rfl)
  go_wp2_with fail
  refine (HPT.out _ K5.out HSA.out).mono ?_
  rintro e w6 ⟨rfl, hb6⟩
  have HB6 : Hid (Below W5.heap.size W5 w6) := hb6
  have HB06 : Hid (Below W.heap.size W w6) := HB5.out.trans (hb6.mono HB5.out.size)
  obtain ⟨⟨x0, x1, x2, x3, x4, x5⟩, hb06⟩ := HY.out _ HB06.out
  have K6 := Lib.hid hb06
  have HG6 := Lib.hid (HGC.out _ HB6.out)
  clear hb6 hb06 z0 z1 z2 z3 z4 z5
  by_cases hpm : PtsMay p
  ·have hd := decide_eq_true hpm
   rw [hd]
   have HPTM := Lib.hid hpm
   clear hd hpm
   go_wp2_with fail
   refine wp_load_row 168 (.tmp 3) rfl w2.heap.size rfl 168 cs (0, 0) _ HG6.out Tryz.underlying168 rfl HCZ.out ?_
   simp [Act.put]
   go_wp2_with fail
   refine (HSI.out _ cs _ K6.out HCS.out H3.out).mono ?_
   rintro e w7 ⟨rfl, hb7⟩
   have HB7 : Hid (Below W5.heap.size W5 w7) := HB6.out.trans (hb7.mono HB6.out.size)
   have HB07 : Hid (Below W.heap.size W w7) := HB5.out.trans (HB7.out.mono HB5.out.size)
   clear hb7 x0 x1 x2 x3 x4 x5
   obtain ⟨⟨x0, x1, x2, x3, x4, x5⟩, hb07⟩ := HY.out _ HB07.out
   have K7 := Lib.hid hb07
   clear hb07
   by_cases hsi : SigsMay (endsOf p.secs p.secs.length) p.sigs
   ·have hd := decide_eq_true hsi
    rw [hd]
    have HSIM := Lib.hid hsi
    clear hd hsi
    go_wp2_with fail
    refine (riseRt a4 c4 p.rts 16 _ (HR.out _ K7.out) hr).mono ?_
    rintro e w8 ⟨rfl, hb8⟩
    have HB8 : Hid (Below W5.heap.size W5 w8) := HB7.out.trans (hb8.mono HB7.out.size)
    have HB08 : Hid (Below W.heap.size W w8) := HB5.out.trans (HB8.out.mono HB5.out.size)
    clear hb8 x0 x1 x2 x3 x4 x5
    obtain ⟨⟨x0, x1, x2, x3, x4, x5⟩, hb08⟩ := HY.out _ HB08.out
    have K8 := Lib.hid hb08
    clear hb08
    by_cases hri : RiseTo Rt.id p.rts p.rts.length ∧ (p.rts.length : Int) ≤ 16
    ·have hd := decide_eq_true hri
     rw [hd]
     have HMID : Hid (PlMid (endsOf p.secs p.secs.length) p) := ⟨HPTM.out, HSIM.out, hri⟩
     clear hd hri
     go_wp2_with fail
     go_loopg [53] p.rts.length (fun g i wr => ∃ k : Nat, k ≤ p.rts.length ∧ g = p.rts.length - k ∧ i = .int .i64 k ∧ Below W5.heap.size W5 wr ∧ RtsMay (endsOf p.secs p.secs.length) p k)
     case atStart => exact ⟨0, by omega, by omega, rfl, HB8.out, fun i hi h => absurd h (by omega)⟩
     case round =>
      obtain ⟨k, hk, rfl, rfl, hb, hA⟩ := hrel
      obtain ⟨wo, rfl⟩ : ∃ wo : World, wo = wr := ⟨_, rfl⟩
      have HB := Lib.hid hb
      have HA := Lib.hid hA
      have HB0 : Hid (Below W.heap.size W wo) := HB5.out.trans (hb.mono HB5.out.size)
      clear hb hA x0 x1 x2 x3 x4 x5
      obtain ⟨-, hb0⟩ := HY.out _ HB0.out
      have KO := Lib.hid hb0
      clear hb0
      by_cases hlt : k < p.rts.length
      ·have hdk : decide ((k : Int) < (p.rts.length : Int)) = true := by simp; omega
       obtain ⟨b, off, vp, vo, vf, rfl, r0, r1, r2, r3, r4, r5, r6, hrm⟩ := (HR.out _ KO.out).rt hlt
       obtain ⟨ap, cp, rfl, -⟩ := hrm.path.at_
       obtain ⟨ao, co, rfl, -⟩ := hrm.over.at_
       obtain ⟨af, cf, rfl, -⟩ := hrm.fl
       have HRM := Lib.hid hrm
       have e0 : (0 : Int) ≤ (k : Int) := by omega
       have e1 : (k : Int) < (p.rts.length : Int) := by omega
       have l9 := World.block_lt_of_cell? _ _ r0
       clear hrm
       go_upto_region 9 with fail
       generalize hW9 : wo.alloc _ = W9
       have hb9 : Below wo.heap.size wo W9 := by rw [← hW9]; exact (Below.refl _ _).alloc (Nat.le_refl _) _
       have HB9 : Hid (Below W5.heap.size W5 W9) := HB.out.trans (hb9.mono HB.out.size)
       have HB09 : Hid (Below W.heap.size W W9) := HB5.out.trans (HB9.out.mono HB5.out.size)
       have q0 : W9.cell? ⟨wo.heap.size, 0, none⟩ = some (.int .i64 p.rts[k].id) := by rw [← hW9]; simp
       have q1 : W9.cell? ⟨wo.heap.size, 1, none⟩ = some (.int .i64 p.rts[k].entry) := by rw [← hW9]; simp
       have q2 : W9.cell? ⟨wo.heap.size, 2, none⟩ = some (.int .i64 p.rts[k].exit) := by rw [← hW9]; simp
       have q3 : W9.cell? ⟨wo.heap.size, 3, none⟩ = some (.slice ap p.rts[k].path.length cp) := by rw [← hW9]; simp
       have q4 : W9.cell? ⟨wo.heap.size, 4, none⟩ = some (.slice ao p.rts[k].over.length co) := by rw [← hW9]; simp
       have q5 : W9.cell? ⟨wo.heap.size, 5, none⟩ = some (.slice af p.rts[k].fl.length cf) := by rw [← hW9]; simp
       have q6 : W9.cell? ⟨wo.heap.size, 6, none⟩ = some (.int .i64 p.rts[k].timer) := by rw [← hW9]; simp
       have HRM9 := Lib.hid (HRM.out.below hb9)
       have HG9 := Lib.hid (HGC.out _ HB9.out)
       clear hW9 hb9 r0 r1 r2 r3 r4 r5 r6 l9
       obtain ⟨⟨x0, x1, x2, x3, x4, x5⟩, hb09⟩ := HY.out _ HB09.out
       have K9 := Lib.hid hb09
       clear hb09
       have HCL : Hid (Calls Tryz.prog 300 _ W9 _) := HRO.out W9 p.rts[k] _ _ _ cs _ K9.out HRM9.out HCS.out H3.out HSIM.out
       go_wp2_with fail
       refine wp_load_row 168 (.tmp 3) rfl w2.heap.size rfl 168 cs (0, 0) _ HG9.out Tryz.underlying168 rfl HCZ.out ?_
       simp [Act.put]
       go_wp2_with fail
       refine HCL.out.mono ?_
       rintro e w10 ⟨rfl, hb10⟩
       have HB10 : Hid (Below W5.heap.size W5 w10) := HB9.out.trans (hb10.mono HB9.out.size)
       have K10 : Hid (Below w.heap.size w w10) := K9.out.trans (hb10.mono K9.out.size)
       clear hb10 HCL
       by_cases hrt : RtMay (endsOf p.secs p.secs.length) p.sigs p.pts p.rts[k]
       ·have HST := Lib.hid (rtsMay_step hlt HA.out hrt)
        have hd := decide_eq_true hrt
        rw [hd]
        clear hd hrt
        go_wp2_with fail
        go_roundg (p.rts.length - (k + 1))
        case measure => go_light; omega
        case rel => go_light; exact ⟨k + 1, by omega, by omega, by go_num, HB10.out, HST.out⟩
       ·have HE8 : Hid (E = 8) := HE.out 8 (fun h' => absurd ((HU.out.1 h').2.2 k hlt hlt) hrt) (fun _ => rfl)
        have hd := decide_eq_false hrt
        rw [hd]
        clear hd hrt
        go_wp2_with fail
        go_ret
        exact ⟨rint HE8.out.symm, K10.out⟩
      ·obtain rfl : k = p.rts.length := by omega
       have hdk : decide ((p.rts.length : Int) < (p.rts.length : Int)) = false := by simp
       have HE0 : Hid (E = 0) := HE.out 0 (fun _ => rfl) (fun h' => absurd (HU.out.2 ⟨HPD.out, HMID.out, HA.out⟩) h')
       go_wp2_with fail
       go_ret
       exact ⟨rint HE0.out.symm, KO.out⟩
    ·have HE8 := Lib.hid (HMB.out fun h => hri h.2.2)
     have hd := decide_eq_false hri
     rw [hd]
     clear hd hri
     go_wp2_with fail
     go_ret
     exact ⟨rint HE8.out.symm, K8.out⟩
   ·have HE8 := Lib.hid (HMB.out fun h => hsi h.2.1)
    have hd := decide_eq_false hsi
    rw [hd]
    clear hd hsi
    go_wp2_with fail
    go_ret
    exact ⟨rint HE8.out.symm, K7.out⟩
  ·have HE8 := Lib.hid (HMB.out fun h => hpm h.1)
   have hd := decide_eq_false hpm
   rw [hd]
   clear hd hpm
   go_wp2_with fail
   go_ret
   exact ⟨rint HE8.out.symm, K6.out⟩
 ·rw [if_neg hsm]
  have HE8 := Lib.hid (HB.out fun h => hsm (HH.out.1 h).2.2.2.2)
  clear hsm
  go_wp2_with fail
  go_ret
  exact ⟨rint HE8.out.symm, K1.out⟩
end Go.Proofs.YtbiehpjhhopjaaaGreat
