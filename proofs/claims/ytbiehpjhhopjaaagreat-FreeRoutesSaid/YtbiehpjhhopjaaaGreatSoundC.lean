/-
  sound.Check, walked.
-/
import Derived.Test.YtbiehpjhhopjaaaGreatSoundA
import Derived.Test.YtbiehpjhhopjaaaGreatSoundB
set_option linter.unusedVariables false
set_option linter.unusedSimpArgs false
namespace Go.Proofs.YtbiehpjhhopjaaaGreat
open Go.RowKit Go.Sort
/-- a plan that may run -/
def PlanSound (p : Pl) : Prop := PlanMay p ∧ WaysMay p ∧ SoundTo p p.rts.length
instance (p : Pl) : Decidable (PlanSound p) := by unfold PlanSound; exact inferInstance
theorem SlA.wy {w : World} {a : Option Addr} {cap : Nat} {l : List Wy} (h : SlA w 4 RWy a cap l) {i : Nat} (hi : i < l.length) : ∃ b off vp vo va, a = some ⟨b, off, none⟩ ∧ w.cell? ⟨b, off + i * 4, none⟩ = some vp ∧ w.cell? ⟨b, off + i * 4 + 1, none⟩ = some vo ∧ w.cell? ⟨b, off + i * 4 + 2, none⟩ = some va ∧ w.cell? ⟨b, off + i * 4 + 3, none⟩ = some (.int .i64 l[i].near) ∧ ILv w vp l[i].path ∧ ILv w vo l[i].over ∧ Asks w va l[i].asks := by
  obtain ⟨b, off, vs, e, hl, hc, vp, vo, va, rfl, h1, h2, h3, -⟩ := h.at_ i hi
  exact ⟨b, off, vp, vo, va, e, hc 0 (by simp), hc 1 (by simp), hc 2 (by simp), hc 3 (by simp), h1, h2, h3⟩
theorem SlA.wyc {w : World} {a : Option Addr} {cap : Nat} {l : List Wy} (h : SlA w 4 RWy a cap l) {i : Nat} (hi : i < l.length) : ∃ b off vp vo va, a = some ⟨b, off, none⟩ ∧ w.cell? ⟨b, off + i * 4, none⟩ = some vp ∧ w.cell? ⟨b, off + i * 4 + 1, none⟩ = some vo ∧ w.cell? ⟨b, off + i * 4 + 2, none⟩ = some va ∧ w.cell? ⟨b, off + i * 4 + 3, none⟩ = some (.int .i64 l[i].near) ∧ ILv w vp l[i].path ∧ ILv w vo l[i].over ∧ Asks w va l[i].asks ∧ CapOk vp := by
  obtain ⟨b, off, vs, e, hl, hc, vp, vo, va, rfl, h1, h2, h3, h4⟩ := h.at_ i hi
  exact ⟨b, off, vp, vo, va, e, hc 0 (by simp), hc 1 (by simp), hc 2 (by simp), hc 3 (by simp), h1, h2, h3, h4⟩
theorem SlA.jl {w : World} {a : Option Addr} {cap : Nat} {l : List (List Jn)} (h : SlA w 1 RJl a cap l) {i : Nat} (hi : i < l.length) : ∃ b off v, a = some ⟨b, off, none⟩ ∧ w.cell? ⟨b, off + i, none⟩ = some v ∧ Jns w v l[i] := by
  obtain ⟨b, off, vs, e, hl, hc, v, rfl, h1⟩ := h.at_ i hi
  exact ⟨b, off, v, e, by simpa using hc 0 (by simp), h1⟩
set_option maxRecDepth 100000 in
set_option maxHeartbeats 8000000 in
theorem soundcheck_any (p : Pl) (s q gg rr : Value) (w : World) (hp : PlM w s q gg rr p) (hf : p.Fit) : Calls Tryz.prog 58 #[plV p s q gg rr] w (ErrPost w (if PlanSound p then 0 else 100)) := by
  have HAL : Hid (∀ w', Below w.heap.size w w' → Calls Tryz.prog 120 #[plV p s q gg rr] w' (AllPost w' p)) := fun w' hb => all_any p s q gg rr w' (hp.below hb) hf
  have HCLR : Hid (∀ k (h : k < p.rts.length) vp vo vf a cap (outs : List Jn) w', Below w.heap.size w w' → RtM w' vp vo vf p.rts[k] → SlA w' 2 RJn a cap outs → outs.length ≤ 1000 → p.rts[k].path.length ≤ 6 → p.rts[k].path.length ≤ outs.length → Calls Tryz.prog 122 #[plV p s q gg rr, .agg #[.int .i64 p.rts[k].id, .int .i64 p.rts[k].entry, .int .i64 p.rts[k].exit, vp, vo, vf, .int .i64 p.rts[k].timer], .slice a outs.length cap] w' (BoolPost w' (decide (Clear p p.rts[k] outs)))) :=
    fun k h vp vo vf a cap outs w' hb h1 h2 h3 h4 h5 => clear_any p p.rts[k] s q gg rr vp vo vf a cap outs w' (hp.below hb) hf h1 h2 h3 h4 h5
  have HE : Hid (∀ n : Int, (PlanSound p → n = 0) → (¬ PlanSound p → n = 100) → (if PlanSound p then (0 : Int) else 100) = n) := fun n h1 h2 => by
    by_cases h : PlanSound p
    · rw [if_pos h, h1 h]
    · rw [if_neg h, h2 h]
  have HU : Hid (PlanSound p ↔ PlanMay p ∧ WaysMay p ∧ SoundTo p p.rts.length) := Iff.rfl
  generalize (if PlanSound p then (0 : Int) else 100) = E at *
  obtain ⟨a1, c1, rfl, -⟩ := hp.secs
  obtain ⟨a2, c2, rfl, -⟩ := hp.pts
  obtain ⟨a3, c3, rfl, -⟩ := hp.sigs
  obtain ⟨a4, c4, rfl, k4⟩ := hp.rts
  have HR : Hid (∀ w', Below w.heap.size w w' → SlA w' 7 RRt a4 c4 p.rts) := fun w' hb => k4.below keeps_rt hb
  have hr := hf.rts
  clear hp hf k4
  unfold plV at *
  go_enter Tryz.func58, Tryz.ntmps58
  go_wp2_with fail
  generalize hW : w.alloc _ = W
  have hbW : Below w.heap.size w W := by rw [← hW]; exact (Below.refl _ _).alloc (Nat.le_refl _) _
  have K0 := Lib.hid hbW
  have HY : Hid (∀ W', Below W.heap.size W W' → W'.cell? ⟨w.heap.size, 0, none⟩ = some (.int .i64 p.ver) ∧ W'.cell? ⟨w.heap.size, 1, none⟩ = some (.int .i64 p.par) ∧ W'.cell? ⟨w.heap.size, 2, none⟩ = some (.slice a1 p.secs.length c1) ∧ W'.cell? ⟨w.heap.size, 3, none⟩ = some (.slice a2 p.pts.length c2) ∧ W'.cell? ⟨w.heap.size, 4, none⟩ = some (.slice a3 p.sigs.length c3) ∧ W'.cell? ⟨w.heap.size, 5, none⟩ = some (.slice a4 p.rts.length c4) ∧ w.heap.size < W'.heap.size) := fun W' hb =>
    ⟨ccell hb (by rw [← hW]; simp), ccell hb (by rw [← hW]; simp), ccell hb (by rw [← hW]; simp), ccell hb (by rw [← hW]; simp), ccell hb (by rw [← hW]; simp), ccell hb (by rw [← hW]; simp), Nat.lt_of_lt_of_le (by rw [← hW]; simp) hb.size⟩
  clear hW hbW
  refine (HAL.out W K0.out).mono ?_
  rintro e w1 ⟨hb1, hall⟩
  have HB1 := Lib.hid hb1
  have K1 : Hid (Below w.heap.size w w1) := K0.out.trans (hb1.mono K0.out.size)
  clear hb1 HAL
  rcases hall with ⟨hM, rfl⟩ | ⟨hM, hWM, rfl⟩ | ⟨hM, hWM, v1, v2, rfl, hv1, hv2⟩
  · have HE8 : Hid (E = 100) := HE.out 100 (fun h => absurd h.1 hM) (fun _ => rfl)
    clear hM
    go_wp2_with fail
    go_ret
    exact ⟨rint HE8.out.symm, K1.out⟩
  · have HE8 : Hid (E = 100) := HE.out 100 (fun h => absurd h.2.1 hWM) (fun _ => rfl)
    clear hM hWM
    go_wp2_with fail
    go_ret
    exact ⟨rint HE8.out.symm, K1.out⟩
  · have HM := Lib.hid hM
    have HWM := Lib.hid hWM
    obtain ⟨b1, d1, rfl, h1⟩ := Sl.ext keepsC_wy hv1 (maskW_ext MG w1)
    obtain ⟨b2, d2, rfl, h2⟩ := hv2
    have HV1 : Hid (∀ W', Below w1.heap.size w1 W' → SlA W' 4 RWy b1 d1 (p.rts.map (wyOf p))) := fun W' hb => h1.below keepsC_wy.keeps hb
    have HV2 : Hid (∀ W', Below w1.heap.size w1 W' → SlA W' 1 RJl b2 d2 (p.rts.map (outsOf p))) := fun W' hb => h2.below keepsC_jl.keeps hb
    have hl1 : (p.rts.map (wyOf p)).length = p.rts.length := List.length_map _
    have hl2 : (p.rts.map (outsOf p)).length = p.rts.length := List.length_map _
    rw [hl1, hl2]
    obtain ⟨y0, y1, y2, y3, y4, y5, ly⟩ := HY.out _ HB1.out
    clear hM hWM h1 h2 hl1 hl2
    go_wp2_with fail
    go_loopg [19] p.rts.length (fun g j wr => ∃ k : Nat, k ≤ p.rts.length ∧ g = p.rts.length - k ∧ j = .int .i64 k ∧ Below w1.heap.size w1 wr ∧ SoundTo p k)
    case atStart => exact ⟨0, by omega, by omega, rfl, Below.refl _ _, fun i hi h => absurd h (by omega)⟩
    case round =>
      obtain ⟨k, hk, rfl, rfl, hb, hA⟩ := hrel
      obtain ⟨wo, rfl⟩ : ∃ wo : World, wo = wr := ⟨_, rfl⟩
      have HB := Lib.hid hb
      have HA := Lib.hid hA
      have HBW : Hid (Below W.heap.size W wo) := HB1.out.trans (hb.mono HB1.out.size)
      have HB0 : Hid (Below w.heap.size w wo) := K1.out.trans (hb.mono K1.out.size)
      clear hb hA y0 y1 y2 y3 y4 y5 ly
      by_cases hlt : k < p.rts.length
      · have hdk : decide ((k : Int) < (p.rts.length : Int)) = true := by simp; omega
        obtain ⟨b, off, vp, vo, vf, rfl, r0, r1, r2, r3, r4, r5, r6, hrm⟩ := (HR.out _ HB0.out).rt hlt
        obtain ⟨ap, cp, rfl, -⟩ := hrm.path.at_
        obtain ⟨ao, co, rfl, -⟩ := hrm.over.at_
        obtain ⟨af, cf, rfl, -⟩ := hrm.fl
        have HRM := Lib.hid hrm
        have e0 : (0 : Int) ≤ (k : Int) := by omega
        have e1 : (k : Int) < (p.rts.length : Int) := by omega
        have lb := World.block_lt_of_cell? _ _ r0
        clear hrm
        go_upto_region 7 with fail
        generalize hW6 : wo.alloc _ = W6
        have hb6 : Below wo.heap.size wo W6 := by rw [← hW6]; exact (Below.refl _ _).alloc (Nat.le_refl _) _
        have HB6 : Hid (Below w1.heap.size w1 W6) := HB.out.trans (hb6.mono HB.out.size)
        have HB06 : Hid (Below w.heap.size w W6) := HB0.out.trans (hb6.mono HB0.out.size)
        have HBW6 : Hid (Below W.heap.size W W6) := HBW.out.trans (hb6.mono HBW.out.size)
        have q0 := cell_regrown (show W6.cell? ⟨wo.heap.size, 0, none⟩ = some (.int .i64 p.rts[k].id) by rw [← hW6]; simp)
        have q1 := cell_regrown (show W6.cell? ⟨wo.heap.size, 1, none⟩ = some (.int .i64 p.rts[k].entry) by rw [← hW6]; simp)
        have q2 := cell_regrown (show W6.cell? ⟨wo.heap.size, 2, none⟩ = some (.int .i64 p.rts[k].exit) by rw [← hW6]; simp)
        have q3 := cell_regrown (show W6.cell? ⟨wo.heap.size, 3, none⟩ = some (.slice ap p.rts[k].path.length cp) by rw [← hW6]; simp)
        have q4 := cell_regrown (show W6.cell? ⟨wo.heap.size, 4, none⟩ = some (.slice ao p.rts[k].over.length co) by rw [← hW6]; simp)
        have q5 := cell_regrown (show W6.cell? ⟨wo.heap.size, 5, none⟩ = some (.slice af p.rts[k].fl.length cf) by rw [← hW6]; simp)
        have q6 := cell_regrown (show W6.cell? ⟨wo.heap.size, 6, none⟩ = some (.int .i64 p.rts[k].timer) by rw [← hW6]; simp)
        obtain ⟨y0, y1, y2, y3, y4, y5, ly⟩ := HY.out _ HBW6.out
        have z0 := cell_regrown y0
        have z1 := cell_regrown y1
        have z2 := cell_regrown y2
        have z3 := cell_regrown y3
        have z4 := cell_regrown y4
        have z5 := cell_regrown y5
        obtain ⟨bb1, of1, wp, wo', wa, rfl, x0, x1, x2, x3, i1, i2, i3⟩ := (HV1.out _ HB6.out).wy (i := k) (by rw [List.length_map]; exact hlt)
        obtain ⟨bb2, of2, wj, rfl, xj, ij⟩ := (HV2.out _ HB6.out).jl (i := k) (by rw [List.length_map]; exact hlt)
        rw [List.getElem_map] at i3 ij
        obtain ⟨aa, ca, rfl, i3⟩ := i3
        obtain ⟨aj, cj, rfl, ij⟩ := ij
        have u2 := cell_regrown x2
        have uj := cell_regrown xj
        have HRM6 := Lib.hid (HRM.out.below hb6)
        have hMk := HM.out.2.2 k hlt hlt
        have hPf : AsksFit (wyOf p p.rts[k]).asks := asks_fit HM.out.1.2.2.2.2.2.1 HM.out.2.1.1.1.1 hMk.2.2
        have hal : (wyOf p p.rts[k]).asks.length ≤ 1000 := by
          have h1 := wkFl_len (wkEnd p p.rts[k]) p.rts[k].fl p.rts[k].fl.length
          have h2 := (wkTo_len p p.rts[k] (allOf p.rts[k]).length).1
          have h3 : (allOf p.rts[k]).length = p.rts[k].path.length + p.rts[k].over.length := List.length_append
          have h4 := hMk.1.2.2.2.2.1
          have h5 := hMk.1.2.2.2.2.2.1
          have h6 := hMk.1.2.2.2.2.2.2.1
          show (wkFl (wkEnd p p.rts[k]) p.rts[k].fl p.rts[k].fl.length).asks.length ≤ 1000
          unfold wkEnd at h1 ⊢
          omega
        have hol : (outsOf p p.rts[k]).length ≤ 1000 := by
          have h2 := (wkTo_len p p.rts[k] (allOf p.rts[k]).length).2
          have h3 : (allOf p.rts[k]).length = p.rts[k].path.length + p.rts[k].over.length := List.length_append
          have h4 := hMk.1.2.2.2.2.1
          have h5 := hMk.1.2.2.2.2.2.1
          unfold outsOf wkEnd
          omega
        have hpl : p.rts[k].path.length ≤ (outsOf p p.rts[k]).length := outs_long p p.rts[k] (HWM.out k hlt hlt)
        have hp6 := hMk.1.2.2.2.2.1
        have cO : Hid (∀ d os, Calls Tryz.prog 121 #[.slice aa (wyOf p p.rts[k]).asks.length ca] (grow (redrawn W6 d) os) fun e w'' => e = .returned (.bool (decide (Once (wyOf p p.rts[k]).asks))) ∧ ∃ pp : Regrown, w'' = grow (redrawn W6 pp.d) pp.os) := fun d os => Calls.regrown_of (once_any aa ca _ _ (i3.below keeps_ask (below_regrown W6 d os)) hal hPf)
        have cC : Hid (∀ d os, Calls Tryz.prog 122 #[.agg #[.int .i64 p.ver, .int .i64 p.par, .slice a1 p.secs.length c1, .slice a2 p.pts.length c2, .slice a3 p.sigs.length c3, .slice (some ⟨b, off, none⟩) p.rts.length c4], .agg #[.int .i64 p.rts[k].id, .int .i64 p.rts[k].entry, .int .i64 p.rts[k].exit, .slice ap p.rts[k].path.length cp, .slice ao p.rts[k].over.length co, .slice af p.rts[k].fl.length cf, .int .i64 p.rts[k].timer], .slice aj (outsOf p p.rts[k]).length cj] (grow (redrawn W6 d) os) fun e w'' => e = .returned (.bool (decide (Clear p p.rts[k] (outsOf p p.rts[k])))) ∧ ∃ pp : Regrown, w'' = grow (redrawn W6 pp.d) pp.os) := fun d os => Calls.regrown_of (HCLR.out k hlt _ _ _ aj cj _ _ (HB06.out.trans ((below_regrown W6 d os).mono HB06.out.size)) (HRM6.out.below (below_regrown W6 d os)) (ij.below keeps_jn (below_regrown W6 d os)) hol hp6 hpl)
        have HST : Hid (RtSound p p.rts[k] ↔ Once (wyOf p p.rts[k]).asks ∧ Clear p p.rts[k] (outsOf p p.rts[k])) := Iff.rfl
        have HSS : Hid (RtSound p p.rts[k] → SoundTo p (k + 1)) := soundTo_step hlt HA.out
        have HNS : Hid (¬ RtSound p p.rts[k] → E = 100) := fun h => HE.out 100 (fun h' => absurd (h'.2.2 k hlt hlt) h) (fun _ => rfl)
        clear hW6 hb6 r0 r1 r2 r3 r4 r5 r6 lb x0 x1 x2 x3 xj i1 i2 i3 ij y0 y1 y2 y3 y4 y5 ly hMk hPf hal hol hpl hp6
        by_cases hOn : Once (wyOf p p.rts[k]).asks
        · have hd1 := decide_eq_true hOn
          rw [hd1] at cO
          by_cases hCl : Clear p p.rts[k] (outsOf p p.rts[k])
          · have hd2 := decide_eq_true hCl
            rw [hd2] at cC
            have HS2 := Lib.hid (HSS.out (HST.out.2 ⟨hOn, hCl⟩))
            clear hd1 hd2 hOn hCl
            refine wp_region_quiet_below (by kernel_rfl) (by kernel_rfl) ?_
            repeat (go_big_quiet_step (first | (with_reducible exact cO.out _ _) | (with_reducible exact cC.out _ _)))
            refine wpQuiet_nil ?_
            rintro _ ⟨⟨dq, osq⟩, rfl⟩
            go_wp2_with fail
            go_roundg (p.rts.length - (k + 1))
            case measure => go_light; omega
            case rel => go_light; exact ⟨k + 1, by omega, by omega, by go_num, HB6.out.trans ((below_regrown W6 dq osq).mono HB6.out.size), HS2.out⟩
          · have hd2 := decide_eq_false hCl
            rw [hd2] at cC
            have HS2 := Lib.hid (HNS.out (fun h => hCl (HST.out.1 h).2))
            clear hd1 hd2 hOn hCl
            refine wp_region_quiet_below (by kernel_rfl) (by kernel_rfl) ?_
            repeat (go_big_quiet_step (first | (with_reducible exact cO.out _ _) | (with_reducible exact cC.out _ _)))
            refine wpQuiet_nil ?_
            rintro _ ⟨⟨dq, osq⟩, rfl⟩
            go_wp2_with fail
            go_ret
            exact ⟨rint HS2.out.symm, HB06.out.trans ((below_regrown W6 dq osq).mono HB06.out.size)⟩
        · have hd1 := decide_eq_false hOn
          rw [hd1] at cO
          have HS2 := Lib.hid (HNS.out (fun h => hOn (HST.out.1 h).1))
          clear hd1 hOn
          refine wp_region_quiet_below (by kernel_rfl) (by kernel_rfl) ?_
          repeat (go_big_quiet_step (first | (with_reducible exact cO.out _ _) | (with_reducible exact cC.out _ _)))
          refine wpQuiet_nil ?_
          rintro _ ⟨⟨dq, osq⟩, rfl⟩
          go_wp2_with fail
          go_ret
          exact ⟨rint HS2.out.symm, HB06.out.trans ((below_regrown W6 dq osq).mono HB06.out.size)⟩
      · obtain rfl : k = p.rts.length := by omega
        have hdk : decide ((p.rts.length : Int) < (p.rts.length : Int)) = false := by simp
        have HE0 : Hid (E = 0) := HE.out 0 (fun _ => rfl) (fun h' => absurd (HU.out.2 ⟨HM.out, HWM.out, HA.out⟩) h')
        go_wp2_with fail
        go_ret
        exact ⟨rint HE0.out.symm, HB0.out⟩
end Go.Proofs.YtbiehpjhhopjaaaGreat
