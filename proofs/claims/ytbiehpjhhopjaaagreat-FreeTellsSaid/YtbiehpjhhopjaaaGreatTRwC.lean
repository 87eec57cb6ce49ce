/-
 The references' word on a plan's signals, walked. (Written by wip/tools/gen_rwc.py.)
-/
import Derived.Test.YtbiehpjhhopjaaaGreatTRwB
set_option linter.unusedVariables false
set_option linter.unusedSimpArgs false
namespace Go.Proofs.YtbiehpjhhopjaaaGreat
open Go.RowKit Go.Sort
def SgM (p : Pl) (m : Nat) (hm : m < p.sigs.length) (j : Nat) (h : j < p.sigs.length) : Prop := p.sigs[m].id < p.sigs[j].id ∧ ¬ (p.sigs[m].sec = p.sigs[j].sec ∧ p.sigs[m].en = p.sigs[j].en)
def SgR (p : Pl) (j : Nat) (h : j < p.sigs.length) : Prop := (1 ≤ p.sigs[j].id ∧ p.sigs[j].id ≤ 99) ∧ (∃ m, ∃ hm : m < p.secs.length, fix (fun x => decide (x.id = p.sigs[j].sec)) p.secs = (m : Int) ∧ 0 ≤ p.sigs[j].en ∧ p.sigs[j].en < p.secs[m].ends.length) ∧ ∀ m (hm : m < j), SgM p m (by omega) j h
theorem fix_id {l : List Sec} {n : Int} {m : Nat} (hm : m < l.length) (h : fix (fun x => decide (x.id = n)) l = (m : Int)) : l[m].id = n := by
 rcases fix_cases (fun x : Sec => decide (x.id = n)) l with ⟨e, _⟩ | ⟨k, hk, e, h1, _⟩
 ·rw [e] at h; omega
 ·have : k = m := by rw [e] at h; omega
  subst this
  simpa using h1
theorem fix_of {l : List Sec} {n : Int} (h : isOne Sec.id l n = true) : ∃ m, ∃ hm : m < l.length, fix (fun x => decide (x.id = n)) l = (m : Int) ∧ l[m].id = n := by
 rcases fix_cases (fun x : Sec => decide (x.id = n)) l with ⟨_, h2⟩ | ⟨k, hk, e, h1, _⟩
 ·unfold isOne at h
  rw [List.any_eq_true] at h
  obtain ⟨x, hx, e⟩ := h
  obtain ⟨i, hi, rfl⟩ := List.getElem_of_mem hx
  rw [h2 i hi] at e
  cases e
 ·exact ⟨k, hk, e, by simpa using h1⟩
theorem sigsMay_ref {p : Pl} (hA : SecsA p.secs p.secs.length) : SigsMay (endsOf p.secs p.secs.length) p.sigs ↔ (∀ j (h : j < p.sigs.length), SgR p j h) ∧ (p.sigs.length : Int) ≤ 10 := by
 constructor
 ·rintro ⟨⟨h1, h2⟩, h3⟩
  refine ⟨fun j h => ⟨(h1 j h h).1, ?_, fun m hm => ⟨rise_lt h1 h hm, (h3 j h h).2 m hm⟩⟩, h2⟩
  have h4 := (h3 j h h).1
  obtain ⟨m, hm, e, h5⟩ := fix_of (there_one h4.1)
  refine ⟨m, hm, e, h4.2.1, ?_⟩
  have h6 := h4.2.2
  have h7 := h4.1
  rw [endsOf_at hA hm p.sigs[j].sec.toNat (by have := h7.1; omega)] at h6
  exact h6
 ·rintro ⟨h1, h2⟩
  refine ⟨⟨fun j h _ => ⟨(h1 j h).1, fun h' => ((h1 j h).2.2 (j - 1) (by omega)).1⟩, h2⟩, fun j h _ => ⟨?_, fun m hm => ((h1 j h).2.2 m hm).2⟩⟩
  obtain ⟨m, hm, e, h3, h4⟩ := (h1 j h).2.1
  have h5 := fix_id hm e
  have h6 : isOne Sec.id p.secs p.sigs[j].sec = true := by
   unfold isOne
   rw [List.any_eq_true]
   exact ⟨p.secs[m], List.getElem_mem _, by simp [h5]⟩
  have h7 := one_there hA h6
  refine ⟨h7, h3, ?_⟩
  rw [endsOf_at hA hm p.sigs[j].sec.toNat (by have := h7.1; omega)]
  exact h4
set_option maxRecDepth 100000 in
set_option maxHeartbeats 8000000 in
theorem refSignals (p : Pl) (s q gg rr : Value) (w : World) (hp : PlM w s q gg rr p) (hf : p.Fit) (hA : SecsA p.secs p.secs.length) : Calls Tryz.prog 214 #[plV p s q gg rr] w (BoolPost w (decide (SigsMay (endsOf p.secs p.secs.length) p.sigs))) := by
 have HBAD : Hid (∀ k (h : k < p.sigs.length), ¬ SgR p k h → decide (SigsMay (endsOf p.secs p.secs.length) p.sigs) = false) := fun k h hn => by
  rw [decide_eq_false_iff_not, sigsMay_ref hA]
  exact fun hh => hn (hh.1 k h)
 have HGOOD : Hid (∀ b : Bool, (∀ j (h : j < p.sigs.length), SgR p j h) → (b = true ↔ (p.sigs.length : Int) ≤ 10) → decide (SigsMay (endsOf p.secs p.secs.length) p.sigs) = b) := fun b h1 h2 => by
  rw [Bool.eq_iff_iff, h2, decide_eq_true_iff, sigsMay_ref hA]
  exact ⟨fun h => h.2, fun h => ⟨h1, h⟩⟩
 obtain ⟨a1, k1, rfl, h1⟩ := hp.secs
 obtain ⟨a3, k3, rfl, h3⟩ := hp.sigs
 have HS : Hid (∀ W, Below w.heap.size w W → SlA W 3 RSec a1 k1 p.secs) := fun W hb => h1.below keeps_sec hb
 have HQ : Hid (∀ W, Below w.heap.size w W → SlA W 3 RSg a3 k3 p.sigs) := fun W hb => h3.below keeps_sg hb
 have hs := hf.secs
 have hq := hf.sigs
 clear hp hf h1 h3 hA
 unfold plV
 generalize decide (SigsMay (endsOf p.secs p.secs.length) p.sigs) = B at *
 go_enter Tryz.func214, Tryz.ntmps214
 go_upto_region 1 with fail
 generalize hW0 : World.alloc _ _ = W0
 have K0 : Hid (Below w.heap.size w W0) := by show Below _ _ _; rw [← hW0]; exact (Below.refl _ _).alloc (Nat.le_refl _) _
 have f2 : W0.cell? ⟨w.heap.size, 2, none⟩ = some (.slice a1 p.secs.length k1) := by rw [← hW0]; simp
 have f3 : W0.cell? ⟨w.heap.size, 4, none⟩ = some (.slice a3 p.sigs.length k3) := by rw [← hW0]; simp
 have F2 : Hid (∀ W, Below W0.heap.size W0 W → W.cell? ⟨w.heap.size, 2, none⟩ = some (.slice a1 p.secs.length k1)) := fun W hb => ccell hb f2
 have F3 : Hid (∀ W, Below W0.heap.size W0 W → W.cell? ⟨w.heap.size, 4, none⟩ = some (.slice a3 p.sigs.length k3)) := fun W hb => ccell hb f3
 clear hW0
 go_wp2_with fail
 go_loopg [3] p.sigs.length (fun g i wr => ∃ k : Nat, k ≤ p.sigs.length ∧ g = p.sigs.length - k ∧ i = .int .i64 k ∧ Below W0.heap.size W0 wr ∧ ∀ j (h : j < p.sigs.length), j < k → SgR p j h)
 case atStart => exact ⟨0, by omega, by omega, rfl, Below.refl _ _, fun j h hj => by omega⟩
 case round =>
  obtain ⟨k, hk, rfl, rfl, hb, hno⟩ := hrel
  obtain ⟨wo, rfl⟩ : ∃ wo : World, wo = wr := ⟨_, rfl⟩
  have HNO := Lib.hid hno
  have KO := Lib.hid hb
  have KWO : Hid (Below w.heap.size w wo) := K0.out.trans (hb.mono K0.out.size)
  clear hb hno f2 f3
  have f2 := F2.out _ KO.out
  have f3 := F3.out _ KO.out
  have lb := block_lt_of_cell f2
  by_cases hlt : k < p.sigs.length
  ·have hdk2 : decide ((k : Int) < (p.sigs.length : Int)) = true := by simp; omega
   obtain ⟨b, off, rfl, x0, x1, x2⟩ := (HQ.out _ KWO.out).sg hlt
   have c0 : (0 : Int) ≤ (k : Int) := by omega
   have c1 : (k : Int) < (p.sigs.length : Int) := by omega
   have l2 := World.block_lt_of_cell? _ _ x0
   go_upto_region 5 with fail
   generalize hWA : World.alloc _ _ = wA
   have hbA : Below wo.heap.size wo wA := by rw [← hWA]; exact (Below.refl _ _).alloc (Nat.le_refl _) _
   have y0 : wA.cell? ⟨wo.heap.size, 0, none⟩ = some (.int .i64 p.sigs[k].id) := by rw [← hWA]; simp
   have y1 : wA.cell? ⟨wo.heap.size, 1, none⟩ = some (.int .i64 p.sigs[k].sec) := by rw [← hWA]; simp
   have y2 : wA.cell? ⟨wo.heap.size, 2, none⟩ = some (.int .i64 p.sigs[k].en) := by rw [← hWA]; simp
   have YY : Hid (∀ W, Below wA.heap.size wA W → W.cell? ⟨wo.heap.size, 0, none⟩ = some (.int .i64 p.sigs[k].id) ∧ W.cell? ⟨wo.heap.size, 1, none⟩ = some (.int .i64 p.sigs[k].sec) ∧ W.cell? ⟨wo.heap.size, 2, none⟩ = some (.int .i64 p.sigs[k].en)) := fun W hb => ⟨ccell hb y0, ccell hb y1, ccell hb y2⟩
   have KA : Hid (Below W0.heap.size W0 wA) := KO.out.trans (hbA.mono KO.out.size)
   have KWA : Hid (Below w.heap.size w wA) := KWO.out.trans (hbA.mono KWO.out.size)
   have g2 := ccell hbA f2
   clear hWA hbA x0 x1 x2 f2 f3 l2 lb
   have lb := block_lt_of_cell g2
   have ly := block_lt_of_cell y0
   go_wp2_with fail
   refine (secAt a1 k1 p.secs p.sigs[k].sec wA (HS.out _ KWA.out) hs).mono ?_
   rintro e w' ⟨rfl, rfl⟩
   have hR : ∀ (d : Nat) (os : Array Obj), Below wA.heap.size wA (grow (redrawn wA d) os) := fun d os => below_regrown wA d os
   have HRA := Lib.hid hR
   have HRW : Hid (∀ (d : Nat) (os : Array Obj), Below W0.heap.size W0 (grow (redrawn wA d) os)) := fun d os => KA.out.trans ((hR d os).mono KA.out.size)
   have KWF : Hid (∀ W, Below W0.heap.size W0 W → Below w.heap.size w W) := fun W hb => K0.out.trans (hb.mono K0.out.size)
   have Y0 := cell_regrown y0
   have Y2 := cell_regrown y2
   have G2 := cell_regrown g2
   have hfc := Lib.hid (fix_cases (fun x : Sec => decide (x.id = p.sigs[k].sec)) p.secs)
   generalize hF : fix (fun x : Sec => decide (x.id = p.sigs[k].sec)) p.secs = F at *
   have HFF := Lib.hid hF
   clear hR y1 hF y0 y2
   by_cases h1 : p.sigs[k].id < 1
   ·have u1 : decide (p.sigs[k].id < 1) = true := by simp [h1]
    have HE := Lib.hid (HBAD.out k hlt (fun hh => by have := hh.1.1; omega))
    clear HFF hfc
    go_upto_region 6 with fail
    refine wp_region_quiet_below (by kernel_rfl) (by kernel_rfl) ?_
    repeat (go_big_quiet_step (fail))
    refine wpQuiet_nil ?_
    rintro _ ⟨⟨dq, osq⟩, rfl⟩
    go_wp2_with fail
    go_ret
    exact ⟨rbool HE.out.symm, KWF.out _ (HRW.out dq osq)⟩
   ·have u1 : decide (p.sigs[k].id < 1) = false := by simp; omega
    by_cases h2 : 99 < p.sigs[k].id
    ·have u2 : decide (99 < p.sigs[k].id) = true := by simp [h2]
     have HE := Lib.hid (HBAD.out k hlt (fun hh => by have := hh.1.2; omega))
     clear HFF hfc
     go_upto_region 6 with fail
     refine wp_region_quiet_below (by kernel_rfl) (by kernel_rfl) ?_
     repeat (go_big_quiet_step (fail))
     refine wpQuiet_nil ?_
     rintro _ ⟨⟨dq, osq⟩, rfl⟩
     go_wp2_with fail
     go_ret
     exact ⟨rbool HE.out.symm, KWF.out _ (HRW.out dq osq)⟩
    ·have u2 : decide (99 < p.sigs[k].id) = false := by simp; omega
     rcases hfc.out with ⟨hF1, hF2⟩ | ⟨m, hm, hF1, hF2, hF3⟩
     ·subst hF1
      have u4 : decide ((-1 : Int) < 0) = true := by decide
      have HE := Lib.hid (HBAD.out k hlt (fun hh => by obtain ⟨m, hm, e, _⟩ := hh.2.1; rw [HFF.out] at e; omega))
      clear HFF hfc hF2
      go_upto_region 6 with fail
      refine wp_region_quiet_below (by kernel_rfl) (by kernel_rfl) ?_
      repeat (go_big_quiet_step (fail))
      refine wpQuiet_nil ?_
      rintro _ ⟨⟨dq, osq⟩, rfl⟩
      go_wp2_with fail
      go_ret
      exact ⟨rbool HE.out.symm, KWF.out _ (HRW.out dq osq)⟩
     ·subst hF1
      have u4 : decide ((m : Int) < 0) = false := by simp
      obtain ⟨b2, off2, a4, c4, rfl, v0, v1, v2, -⟩ := (HS.out _ KWA.out).sec hm
      have V2 := cell_regrown v2
      have d0 : (0 : Int) ≤ (m : Int) := by omega
      have d1 : (m : Int) < (p.secs.length : Int) := by omega
      clear v0 v1 v2
      by_cases h4 : p.sigs[k].en < 0
      ·have u5 : decide (p.sigs[k].en < 0) = true := by simp [h4]
       have HE := Lib.hid (HBAD.out k hlt (fun hh => by
        obtain ⟨m', hm', e, h6, h7⟩ := hh.2.1
        rw [HFF.out] at e
        have : m = m' := by omega
        subst this
        omega))
       clear HFF hfc hF2 hF3
       go_upto_region 6 with fail
       refine wp_region_quiet_below (by kernel_rfl) (by kernel_rfl) ?_
       repeat (go_big_quiet_step (fail))
       refine wpQuiet_nil ?_
       rintro _ ⟨⟨dq, osq⟩, rfl⟩
       go_wp2_with fail
       go_ret
       exact ⟨rbool HE.out.symm, KWF.out _ (HRW.out dq osq)⟩
      ·have u5 : decide (p.sigs[k].en < 0) = false := by simp; omega
       by_cases h5 : (p.secs[m].ends.length : Int) ≤ p.sigs[k].en
       ·have u6 : decide ((p.secs[m].ends.length : Int) ≤ p.sigs[k].en) = true := by simp [h5]
        have HE := Lib.hid (HBAD.out k hlt (fun hh => by
         obtain ⟨m', hm', e, h6, h7⟩ := hh.2.1
         rw [HFF.out] at e
         have : m = m' := by omega
         subst this
         omega))
        clear HFF hfc hF2 hF3
        go_upto_region 6 with fail
        refine wp_region_quiet_below (by kernel_rfl) (by kernel_rfl) ?_
        repeat (go_big_quiet_step (fail))
        refine wpQuiet_nil ?_
        rintro _ ⟨⟨dq, osq⟩, rfl⟩
        go_wp2_with fail
        go_ret
        exact ⟨rbool HE.out.symm, KWF.out _ (HRW.out dq osq)⟩
       ·have u6 : decide ((p.secs[m].ends.length : Int) ≤ p.sigs[k].en) = false := by simp; omega
        have GA : Hid ((1 ≤ p.sigs[k].id ∧ p.sigs[k].id ≤ 99) ∧ (∃ m, ∃ hm : m < p.secs.length, fix (fun x => decide (x.id = p.sigs[k].sec)) p.secs = (m : Int) ∧ 0 ≤ p.sigs[k].en ∧ p.sigs[k].en < p.secs[m].ends.length)) := ⟨⟨by omega, by omega⟩, m, hm, HFF.out, by omega, by omega⟩
        clear HFF hfc hF2 hF3 h1 h2 h4 h5
        go_upto_region 6 with fail
        refine wp_region_quiet_below (by kernel_rfl) (by kernel_rfl) ?_
        repeat (go_big_quiet_step (fail))
        refine wpQuiet_nil ?_
        rintro _ ⟨⟨dq, osq⟩, rfl⟩
        have HBW := Lib.hid (HRW.out dq osq)
        have HBA := Lib.hid (HRA.out dq osq)
        generalize hWN : grow (redrawn wA dq) osq = wn at *
        clear hWN HRA HRW Y0 Y2 G2 V2
        clear g2 lb ly
        go_wp2_with fail
        go_loopg [6] k (fun g i wr => ∃ m : Nat, m ≤ k ∧ g = k - m ∧ i = .int .i64 m ∧ Below wA.heap.size wA wr ∧ ∀ j (h : j < k), j < m → SgM p j (by omega) k hlt)
        case atStart => exact ⟨0, by omega, by omega, rfl, HBA.out, fun j h hj => by omega⟩
        case round =>
         obtain ⟨m2, hm2, rfl, rfl, hb, hno⟩ := hrel
         obtain ⟨wi, rfl⟩ : ∃ wi : World, wi = wr := ⟨_, rfl⟩
         have HNI := Lib.hid hno
         have KI := Lib.hid hb
         have KI0 : Hid (Below W0.heap.size W0 wi) := KA.out.trans (hb.mono KA.out.size)
         have KWI : Hid (Below w.heap.size w wi) := KWF.out _ KI0.out
         clear hb hno
         have f3 := F3.out _ KI0.out
         obtain ⟨y0, y1, y2⟩ := YY.out _ KI.out
         have lb := block_lt_of_cell f3
         have ly := block_lt_of_cell y0
         by_cases hlt2 : m2 < k
         ·have hd3 : decide ((m2 : Int) < (k : Int)) = true := by simp; omega
          have hml : m2 < p.sigs.length := by omega
          obtain ⟨b', off', hbe, z0, z1, z2⟩ := (HQ.out _ KWI.out).sg hml
          cases hbe
          have e0 : (0 : Int) ≤ (m2 : Int) := by omega
          have e1 : (m2 : Int) < (p.sigs.length : Int) := by omega
          have lz := World.block_lt_of_cell? _ _ z0
          by_cases h6 : p.sigs[k].id ≤ p.sigs[m2].id
          ·have u6 : decide (p.sigs[k].id ≤ p.sigs[m2].id) = true := by simp [h6]
           have HE := Lib.hid (HBAD.out k hlt (fun hh => by have := (hh.2.2 m2 hlt2).1; omega))
           clear h6
           go_wp2_with fail
           go_ret
           exact ⟨rbool HE.out.symm, KWI.out.alloc KWI.out.size _⟩
          ·have u6 : decide (p.sigs[k].id ≤ p.sigs[m2].id) = false := by simp; omega
           by_cases h7 : p.sigs[m2].sec = p.sigs[k].sec
           ·have u7 : (p.sigs[m2].sec == p.sigs[k].sec) = true := by rw [beq_iff_eq]; exact h7
            by_cases h8 : p.sigs[m2].en = p.sigs[k].en
            ·have u8 : (p.sigs[m2].en == p.sigs[k].en) = true := by rw [beq_iff_eq]; exact h8
             have HE := Lib.hid (HBAD.out k hlt (fun hh => (hh.2.2 m2 hlt2).2 ⟨h7, h8⟩))
             clear h6 h7 h8
             go_wp2_with fail
             go_ret
             exact ⟨rbool HE.out.symm, KWI.out.alloc KWI.out.size _⟩
            ·have u8 : (p.sigs[m2].en == p.sigs[k].en) = false := by rw [beq_eq_false_iff_ne]; exact h8
             have HG : Hid (SgM p m2 hml k hlt) := ⟨by omega, fun h => h8 h.2⟩
             clear h6 h7 h8
             go_wp2_with fail
             go_roundg (k - (m2 + 1))
             case measure => go_light; omega
             case rel =>
              go_light
              refine ⟨m2 + 1, by omega, by omega, by go_num, KI.out.alloc KI.out.size _, fun j h hj => ?_⟩
              by_cases hjk : j = m2
              ·subst hjk; exact HG.out
              ·exact HNI.out j h (by omega)
           ·have u7 : (p.sigs[m2].sec == p.sigs[k].sec) = false := by rw [beq_eq_false_iff_ne]; exact h7
            have HG : Hid (SgM p m2 hml k hlt) := ⟨by omega, fun h => h7 h.1⟩
            clear h6 h7
            go_wp2_with fail
            go_roundg (k - (m2 + 1))
            case measure => go_light; omega
            case rel =>
             go_light
             refine ⟨m2 + 1, by omega, by omega, by go_num, KI.out.alloc KI.out.size _, fun j h hj => ?_⟩
             by_cases hjk : j = m2
             ·subst hjk; exact HG.out
             ·exact HNI.out j h (by omega)
         ·obtain rfl : m2 = k := by omega
          have hd3 : decide ((m2 : Int) < (m2 : Int)) = false := by simp
          have HG : Hid (SgR p m2 hlt) := ⟨GA.out.1, GA.out.2, fun j hj => HNI.out j hj hj⟩
          go_wp2_with fail
          go_roundg (p.sigs.length - (m2 + 1))
          case measure => go_light; omega
          case rel =>
           go_light
           refine ⟨m2 + 1, by omega, by omega, by go_num, KI0.out, fun j h hj => ?_⟩
           by_cases hjk : j = m2
           ·subst hjk; exact HG.out
           ·exact HNO.out j h (by omega)
  ·obtain rfl : k = p.sigs.length := by omega
   have hdk2 : decide ((p.sigs.length : Int) < (p.sigs.length : Int)) = false := by simp
   have HALL := Lib.hid (fun j (h : j < p.sigs.length) => HNO.out j h h)
   by_cases h6 : (p.sigs.length : Int) ≤ 10
   ·have v6 : decide ((p.sigs.length : Int) ≤ 10) = true := by simp [h6]
    have HE := Lib.hid (HGOOD.out true HALL.out (by simp [h6]))
    clear h6
    go_wp2_with fail
    go_ret
    exact ⟨rbool HE.out.symm, KWO.out⟩
   ·have v6 : decide ((p.sigs.length : Int) ≤ 10) = false := by simp; omega
    have HE := Lib.hid (HGOOD.out false HALL.out (by simp [h6]))
    clear h6
    go_wp2_with fail
    go_ret
    exact ⟨rbool HE.out.symm, KWO.out⟩
end Go.Proofs.YtbiehpjhhopjaaaGreat
