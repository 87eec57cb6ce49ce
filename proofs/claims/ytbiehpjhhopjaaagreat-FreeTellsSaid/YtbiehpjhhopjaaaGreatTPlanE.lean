/-
 plan.signals, walked.
-/
import Derived.Test.YtbiehpjhhopjaaaGreatTPlanC
import Derived.Test.YtbiehpjhhopjaaaGreatTTrackE
import Derived.Test.YtbiehpjhhopjaaaGreatTData
set_option linter.unusedVariables false
namespace Go.Proofs.YtbiehpjhhopjaaaGreat
open Go.RowKit Go.Sort
theorem quiet_load_row {P : Program} {C : World → Prop} {a : Act} {o : Oper} {K : Act → Prop} (ty : TypeId) (x : Operand) (h : o.op = .load ty x) (g : Nat) (hx : a.eval x = .pointer (some ⟨g, 0, none⟩)) (cs : Array Value)
  (hC : ∀ w, C w → ∃ t fr, w.heap[g]? = some (.cells cs t fr)) (d : TypeDesc) (hu : P.underlying ty = some d) (hd : (match d with | .struct _ | .array _ _ => true | _ => false) = true) (hi : (P.info? ty).map (·.size) = some cs.size)
  (hk : K (a.put o.dst (.agg cs))) : o.quiet P a C K :=
 ⟨_, fun w hw => by
  obtain ⟨t, fr, hg⟩ := hC w hw
  unfold Oper.quietAt execOp
  simp only [h, hx, Instr.loadAt, Instr.sureAddr, Sem.run_bind, Sem.run_pure, Result.andThen_ok, run_loadVar_row w g t ty cs fr d hg hu hd hi]
  exact ⟨rfl, rfl⟩, hk⟩
theorem zero442 : Tryz.zeroCells442 = Array.replicate 300 (.bool false) := by kernel_rfl
theorem zero442_at (q : Nat) (h : q < 300) : Tryz.zeroCells442[q]? = some (.bool false) := by rw [zero442]; simp [h]
set_option maxRecDepth 100000 in
set_option maxHeartbeats 4000000 in
theorem signals_any (p : Pl) (s q g r : Value) (cs : Array Value) (f : Nat → Int) (w : World) (hp : PlM w s q g r p) (hf : p.Fit) (hcs : IntArr cs f) (h3 : ∀ q, f q ≤ 3) :
  Calls Tryz.prog 298 #[plV p s q g r, .agg cs] w (BoolPost w (decide (SigsMay f p.sigs))) := by
 have HCS := Lib.hid hcs
 have H3 := Lib.hid h3
 obtain ⟨⟨a1, c1, rfl, k1⟩, ⟨a2, c2, rfl, k2⟩, ⟨a3, c3, rfl, k3⟩, ⟨a4, c4, rfl, k4⟩⟩ := hp
 have HQ : Hid (∀ w', Below w.heap.size w w' → SlA w' 3 RSg a3 c3 p.sigs) := fun w' hb => k3.below keeps_sg hb
 have HN : Hid (decide (RiseTo Sg.id p.sigs p.sigs.length ∧ (p.sigs.length : Int) ≤ 10) = false → decide (SigsMay f p.sigs) = false) := fun h => decide_eq_false fun h' => (decide_eq_false_iff_not.1 h) h'.1
 have HI : Hid (decide (RiseTo Sg.id p.sigs p.sigs.length ∧ (p.sigs.length : Int) ≤ 10) = true → (SigsMay f p.sigs ↔ SigsA f p.sigs p.sigs.length)) := fun h => by
  have h := decide_eq_true_iff.1 h
  exact ⟨fun x => x.2, fun x => ⟨h, x⟩⟩
 have HB2 : Hid (∀ b, (b = true ↔ SigsMay f p.sigs) → decide (SigsMay f p.sigs) = b) := fun b hb => by rw [Bool.eq_iff_iff, decide_eq_true_iff]; exact hb.symm
 have hs := hf.sigs
 clear k1 k2 k3 k4 hf hcs h3
 unfold plV
 generalize decide (SigsMay f p.sigs) = B at *
 go_enter Tryz.func298, Tryz.ntmps298
 go_wp2_with fail
 generalize hW : (w.alloc _).alloc _ = W
 have K0 : Hid (Below w.heap.size w W) := by show Below _ _ _; rw [← hW]; exact ((Below.refl _ _).alloc (Nat.le_refl _) _).alloc (by simp) _
 have hz : W.heap.size = w.heap.size + 2 := by rw [← hW]; simp
 have G4 : W.cell? ⟨w.heap.size, 4, none⟩ = some (.slice a3 p.sigs.length c3) := by rw [← hW]; simp
 have GC : W.heap[w.heap.size + 1]? = some (.cells cs 168 (0, 0)) := by rw [← hW]; exact heap_alloc2_new _ _ _
 clear hW
 refine (riseSg a3 c3 p.sigs 10 _ (HQ.out _ K0.out) hs).mono ?_
 rintro e w1 ⟨rfl, hb1⟩
 have K1 : Hid (Below w.heap.size w w1) := K0.out.trans (hb1.mono K0.out.size)
 have f4 : w1.cell? ⟨w.heap.size, 4, none⟩ = some (.slice a3 p.sigs.length c3) := (hb1.cell (by simp [hz])).trans G4
 have hg1 : w1.heap[w.heap.size + 1]? = some (.cells cs 168 (0, 0)) := (hb1.block _ (by omega)).trans GC
 have hz1 : w.heap.size + 1 < w1.heap.size := by have := hb1.size; omega
 have HGC : Hid (∀ W', Below w1.heap.size w1 W' → W'.heap[w.heap.size + 1]? = some (.cells cs 168 (0, 0))) := fun W' hb => (hb.block _ hz1).trans hg1
 have HZ1 := Lib.hid hz1
 clear hb1 G4 GC hz hg1
 cases hri : decide (RiseTo Sg.id p.sigs p.sigs.length ∧ (p.sigs.length : Int) ≤ 10) with
 | false =>
  have HE := Lib.hid (HN.out hri)
  go_wp2_with fail
  go_ret
  exact ⟨rbool HE.out.symm, K1.out⟩
 | true =>
  have HII := Lib.hid (HI.out hri)
  clear hri
  have l1 := World.block_lt_of_cell? _ _ f4
  go_wp2_with fail
  have hR0 : BoolRow (w1.alloc (.cells Tryz.zeroCells442 442)) w1.heap.size 300 442 (stands p.sigs 0) := (BoolRow.new w1 _ _ (by rw [zero442]; simp) zero442_at).congr fun q _ => (stands_zero p.sigs q).symm
  have HR0 := Lib.hid hR0
  clear hR0
  go_loopg [15] p.sigs.length (fun g i wr => ∃ k : Nat, k ≤ p.sigs.length ∧ g = p.sigs.length - k ∧ i = .int .i64 k ∧ Below w1.heap.size w1 wr ∧ BoolRow wr w1.heap.size 300 442 (stands p.sigs k) ∧ SigsA f p.sigs k)
  case atStart => exact ⟨0, by omega, by omega, rfl, (Below.refl _ _).alloc (Nat.le_refl _) _, HR0.out, fun i hi h => absurd h (by omega)⟩
  case round =>
   obtain ⟨k, hk, rfl, rfl, hb, hR, hA⟩ := hrel
   obtain ⟨wo, rfl⟩ : ∃ wo : World, wo = wr := ⟨_, rfl⟩
   have HB := Lib.hid hb
   have HBW : Hid (Below w.heap.size w wo) := K1.out.trans (hb.mono K1.out.size)
   have HR := Lib.hid hR
   have HA := Lib.hid hA
   clear hb hR hA
   by_cases hlt : k < p.sigs.length
   ·have hdk : decide ((k : Int) < (p.sigs.length : Int)) = true := by simp; omega
    obtain ⟨b, off, rfl, x0, x1, x2⟩ := (HQ.out _ HBW.out).sg hlt
    have c0 : (0 : Int) ≤ (k : Int) := by omega
    have c1 : (k : Int) < (p.sigs.length : Int) := by omega
    have l1 := World.block_lt_of_cell? _ _ x0
    go_wp2_with fail
    generalize hW : wo.alloc (.cells #[.int .i64 p.sigs[k].id, .int .i64 p.sigs[k].sec, .int .i64 p.sigs[k].en] 145) = W
    have hbW : Below wo.heap.size wo W := by rw [← hW]; exact (Below.refl _ _).alloc (Nat.le_refl _) _
    have KB : Hid (Below w1.heap.size w1 W) := HB.out.trans (hbW.mono HB.out.size)
    have K2 : Hid (Below w.heap.size w W) := HBW.out.trans (hbW.mono HBW.out.size)
    have y1 := cell_regrown (show W.cell? ⟨wo.heap.size, 1, none⟩ = some (.int .i64 p.sigs[k].sec) by rw [← hW]; simp)
    have y2 := cell_regrown (show W.cell? ⟨wo.heap.size, 2, none⟩ = some (.int .i64 p.sigs[k].en) by rw [← hW]; simp)
    have Y1 : Hid (W.cell? ⟨wo.heap.size, 1, none⟩ = some (.int .i64 p.sigs[k].sec)) := by show _ = _; rw [← hW]; simp
    have Y2 : Hid (W.cell? ⟨wo.heap.size, 2, none⟩ = some (.int .i64 p.sigs[k].en)) := by show _ = _; rw [← hW]; simp
    have HRW := Lib.hid (HR.out.below hbW)
    have HGW := Lib.hid (HGC.out _ KB.out)
    have cT : Hid (∀ d os, Calls Tryz.prog 379 #[.agg cs, .int .i64 p.sigs[k].sec] (grow (redrawn W d) os) fun e w'' => e = .returned (.bool (decide (There f p.sigs[k].sec))) ∧ ∃ p : Regrown, w'' = grow (redrawn W p.d) p.os) := fun d os => Calls.regrown_of (there_any cs f p.sigs[k].sec _ HCS.out)
    have hrow : ∀ w', (∃ p : Regrown, w' = grow (redrawn W p.d) p.os) → ∃ t fr, w'.heap[w.heap.size + 1]? = some (.cells cs t fr) := by
     rintro _ ⟨p, rfl⟩
     exact ⟨168, (0, 0), ((below_regrown W p.d p.os).block _ (Nat.lt_of_lt_of_le HZ1.out KB.out.size)).trans HGW.out⟩
    have HCZ : Hid ((Tryz.prog.info? 168).map (·.size) = some cs.size) := by show _ = _; rw [info168, HCS.out.1]
    clear hW x0 x1 x2 hbW
    refine wp_region_quiet_below (by kernel_rfl) (by kernel_rfl) ?_
    go_big_quiet_want
    refine quiet_load_row 168 (.tmp 3) rfl (w.heap.size + 1) rfl cs hrow _ Tryz.underlying168 rfl HCZ.out ?_
    simp [Act.put]
    go_big_quiet_on
    have hcases : ¬ There f p.sigs[k].sec ∨ (There f p.sigs[k].sec ∧ p.sigs[k].en < 0) ∨ (There f p.sigs[k].sec ∧ 0 ≤ p.sigs[k].en ∧ f p.sigs[k].sec.toNat ≤ p.sigs[k].en) ∨ SigAt f p.sigs[k] := by
     by_cases h1 : There f p.sigs[k].sec
     ·by_cases h2 : p.sigs[k].en < 0
      ·exact .inr (.inl ⟨h1, h2⟩)
      ·by_cases h4 : f p.sigs[k].sec.toNat ≤ p.sigs[k].en
       ·exact .inr (.inr (.inl ⟨h1, by omega, h4⟩))
       ·exact .inr (.inr (.inr ⟨h1, by omega, by omega⟩))
     ·exact .inl h1
    have HBAD : Hid (¬ SigAt f p.sigs[k] → B = false) := fun h => HB2.out false (by
     rw [HII.out]
     simp only [Bool.false_eq_true, false_iff]
     exact fun hA => h (hA k hlt hlt).1)
    rcases hcases with h | ⟨h1, h2⟩ | ⟨h1, h2, h4⟩ | h
    ·have HE := Lib.hid (HBAD.out fun h' => h h'.1)
     rw [decide_eq_false h] at cT
     clear h
     repeat (go_big_quiet_step (with_reducible exact cT.out _ _))
     refine wpQuiet_nil ?_
     rintro _ ⟨⟨dq, osq⟩, rfl⟩
     go_wp2_with fail
     go_ret
     exact ⟨rbool HE.out.symm, K2.out.trans ((below_regrown W dq osq).mono K2.out.size)⟩
    ·have HE := Lib.hid (HBAD.out fun h' => by have := h'.2.1; omega)
     rw [decide_eq_true h1] at cT
     have t1 : decide (p.sigs[k].en < 0) = true := by simpa using h2
     clear h1 h2
     repeat (go_big_quiet_step (with_reducible exact cT.out _ _))
     refine wpQuiet_nil ?_
     rintro _ ⟨⟨dq, osq⟩, rfl⟩
     go_wp2_with fail
     go_ret
     exact ⟨rbool HE.out.symm, K2.out.trans ((below_regrown W dq osq).mono K2.out.size)⟩
    ·have HE := Lib.hid (HBAD.out fun h' => by have := h'.2.2; omega)
     rw [decide_eq_true h1] at cT
     have t1 : decide (p.sigs[k].en < 0) = false := by simpa using h2
     have t2 : decide (f p.sigs[k].sec.toNat ≤ p.sigs[k].en) = true := by simpa using h4
     have i0 : (0 : Int) ≤ p.sigs[k].sec := h1.1
     have i1 : p.sigs[k].sec < 100 := by have := h1.2.1; omega
     have y3 := cell_regrown (show W.cell? ⟨w.heap.size + 1, p.sigs[k].sec.toNat, none⟩ = some (.int .i64 (f p.sigs[k].sec.toNat)) by rw [cell_of_row _ _ _ cs _ _ HGW.out]; exact HCS.out.2 _ (by omega))
     clear h1 h2 h4
     repeat (go_big_quiet_step (with_reducible exact cT.out _ _))
     refine wpQuiet_nil ?_
     rintro _ ⟨⟨dq, osq⟩, rfl⟩
     go_wp2_with fail
     go_ret
     exact ⟨rbool HE.out.symm, K2.out.trans ((below_regrown W dq osq).mono K2.out.size)⟩
    ·rw [decide_eq_true h.1] at cT
     have t1 : decide (p.sigs[k].en < 0) = false := by simpa using h.2.1
     have t2 : decide (f p.sigs[k].sec.toNat ≤ p.sigs[k].en) = false := by have := h.2.2; simp; omega
     have i0 : (0 : Int) ≤ p.sigs[k].sec := h.1.1
     have i1 : p.sigs[k].sec < 100 := by have := h.1.2.1; omega
     have i2 : (0 : Int) ≤ p.sigs[k].en := h.2.1
     have i3 : p.sigs[k].en < 3 := by have := h.2.2; have := H3.out p.sigs[k].sec.toNat; omega
     have y3 := cell_regrown (show W.cell? ⟨w.heap.size + 1, p.sigs[k].sec.toNat, none⟩ = some (.int .i64 (f p.sigs[k].sec.toNat)) by rw [cell_of_row _ _ _ cs _ _ HGW.out]; exact HCS.out.2 _ (by omega))
     have y4 := cell_regrown (HRW.out.cell (q := p.sigs[k].sec.toNat * 3 + p.sigs[k].en.toNat) (by omega))
     have HSI := Lib.hid (stands_iff H3.out hlt HA.out h)
     have HSA := Lib.hid (fun hno => sigsA_step hlt HA.out h hno)
     cases hst : stands p.sigs k (p.sigs[k].sec.toNat * 3 + p.sigs[k].en.toNat) with
     | true =>
      rw [hst] at y4
      have HE : Hid (B = false) := HB2.out false (by
       rw [HII.out]
       simp only [Bool.false_eq_true, false_iff]
       exact fun hA => (HSI.out.1 hst) (hA k hlt hlt).2)
      clear h hst
      repeat (go_big_quiet_step (with_reducible exact cT.out _ _))
      refine wpQuiet_nil ?_
      rintro _ ⟨⟨dq, osq⟩, rfl⟩
      go_wp2_with fail
      go_ret
      exact ⟨rbool HE.out.symm, K2.out.trans ((below_regrown W dq osq).mono K2.out.size)⟩
     | false =>
      rw [hst] at y4
      have HG := Lib.hid (HSA.out (Classical.not_not.1 fun hn => by
       have := HSI.out.2 hn
       unfold sgSpot at this
       rw [hst] at this
       cases this))
      have HST : Hid (∀ W', BoolRow W' w1.heap.size 300 442 (stands p.sigs k) → BoolRow (W'.setCell ⟨w1.heap.size, p.sigs[k].sec.toNat * 3 + p.sigs[k].en.toNat, none⟩ (.bool true)) w1.heap.size 300 442 (stands p.sigs (k + 1))) := fun W' h => by
       refine (h.set (q := p.sigs[k].sec.toNat * 3 + p.sigs[k].en.toNat) (by omega) _).congr fun q hq => ?_
       exact stands_step hlt _ rfl q
      clear h hst
      repeat (go_big_quiet_step (with_reducible exact cT.out _ _))
      refine wpQuiet_nil ?_
      rintro _ ⟨⟨dq, osq⟩, rfl⟩
      have hb2 := below_regrown W dq osq
      generalize grow (redrawn W dq) osq = W2 at *
      have K3 : Hid (Below w1.heap.size w1 W2) := KB.out.trans (hb2.mono KB.out.size)
      have HR2 := Lib.hid (HRW.out.below hb2)
      have v1 : W2.cell? ⟨wo.heap.size, 1, none⟩ = some (.int .i64 p.sigs[k].sec) := ccell hb2 Y1.out
      have v2 : W2.cell? ⟨wo.heap.size, 2, none⟩ = some (.int .i64 p.sigs[k].en) := ccell hb2 Y2.out
      have v3 := HR2.out.cell (q := p.sigs[k].sec.toNat * 3 + p.sigs[k].en.toNat) (by omega)
      have v4 := HR2.out.frozen (p.sigs[k].sec.toNat * 3 + p.sigs[k].en.toNat)
      clear hb2 y1 y2 y3 y4 cT
      go_wp2_with fail
      go_region
      go_wp2_with fail
      go_roundg (p.sigs.length - (k + 1))
      case measure => go_light; omega
      case rel => go_light; exact ⟨k + 1, by omega, by omega, by go_num, (K3.out.setCell (Nat.le_refl _) _).drew, (HST.out _ HR2.out).below (Below.refl _ _).drew, HG.out⟩
   ·obtain rfl : k = p.sigs.length := by omega
    have hdk : decide ((p.sigs.length : Int) < (p.sigs.length : Int)) = false := by simp
    have HE : Hid (B = true) := HB2.out true (by rw [HII.out]; simp only [true_iff]; exact HA.out)
    go_wp2_with fail
    go_ret
    exact ⟨rbool HE.out.symm, HBW.out⟩
end Go.Proofs.YtbiehpjhhopjaaaGreat
