/-
 plan.points, walked.
-/
import Derived.Test.YtbiehpjhhopjaaaGreatTRise
import Derived.Test.YtbiehpjhhopjaaaGreatTIxfn
import Derived.Test.YtbiehpjhhopjaaaGreatTData
set_option linter.unusedVariables false
namespace Go.Proofs.YtbiehpjhhopjaaaGreat
open Go.RowKit Go.Sort
theorem plain377 : PlainF 377 := fun args w => by simp [go_sem]
theorem points1_any (x : Pt) (g : Nat) (f : Nat → Int) (w : World) (hr : IntRow w g 100 168 f) (h1 : 1 ≤ x.id) (h2 : x.id ≤ 99) :
  Calls Tryz.prog 377 #[.agg #[.int .i64 x.id, .int .i64 x.sec], .pointer (some ⟨g, 0, none⟩)] w (BoolPost w (decide (x.sec = 0 ∨ f x.id.toNat ≠ x.sec))) := by
 obtain ⟨id, sec⟩ := x
 simp only [] at h1 h2 ⊢
 obtain ⟨n, rfl⟩ := Int.eq_ofNat_of_zero_le (show 0 ≤ id by omega)
 have hc := hr.cell (q := n) (by omega)
 have hl := hr.lt
 have hne : w.heap.size ≠ g := by omega
 have HE : Hid (∀ b, (b = true ↔ (sec = 0 ∨ f n ≠ sec)) → b = decide (sec = 0 ∨ f ((n : Int)).toNat ≠ sec)) := fun b hb => by rw [Bool.eq_iff_iff, hb]; simp
 have i0 : (0 : Int) ≤ (n : Int) := by omega
 have i1 : (n : Int) < 100 := by omega
 generalize decide (sec = 0 ∨ f ((n : Int)).toNat ≠ sec) = B at *
 generalize f n = v at *
 clear hr
 by_cases h0 : sec = 0
 ·have e0 : (sec == 0) = true := by rw [beq_iff_eq]; exact h0
  have HB := Lib.hid (HE.out true (by simp [h0]))
  clear h0
  go_enter Tryz.func377, Tryz.ntmps377
  go_wp2_with fail
  go_quiet (fail)
  go_wp2_with fail
  go_ret
  exact ⟨rbool HB.out, below_drewN' ((Below.refl _ _).alloc (Nat.le_refl _) _) _⟩
 ·have e0 : (sec == 0) = false := by rw [beq_eq_false_iff_ne]; exact h0
  have HB := Lib.hid (HE.out (v != sec) (by simp [h0]))
  clear h0
  go_enter Tryz.func377, Tryz.ntmps377
  go_wp2_with fail
  go_quiet (fail)
  go_wp2_with fail
  go_ret
  exact ⟨rbool HB.out, below_drewN' ((Below.refl _ _).alloc (Nat.le_refl _) _) _⟩
theorem ptsMay_iff {p : Pl} (hA : SecsA p.secs p.secs.length) (hR : RiseTo Pt.id p.pts p.pts.length) (hm : (p.pts.length : Int) ≤ 6) :
  PtsMay p ↔ (cntPt p.secs p.secs.length = p.pts.length ∧ p.pts.any (fun x => decide (x.sec = 0 ∨ idOfPt p.secs p.secs.length x.id.toNat ≠ x.sec)) = false) := by
 unfold PtsMay
 rw [List.any_eq_false]
 have key : ∀ i (h : i < p.pts.length), (∃ s ∈ p.secs, s.id = p.pts[i].sec ∧ s.pt = p.pts[i].id) ↔ ¬ (decide (p.pts[i].sec = 0 ∨ idOfPt p.secs p.secs.length p.pts[i].id.toNat ≠ p.pts[i].sec) = true) := by
  intro i h
  have hid := (hR i h h).1
  have := idOfPt_iff hA p.pts[i].id.toNat (by omega) p.pts[i].sec
  rw [show ((p.pts[i].id.toNat : Nat) : Int) = p.pts[i].id by omega] at this
  rw [← this]
  simp
 constructor
 ·rintro ⟨_, h1, h2⟩
  refine ⟨h1, fun x hx => ?_⟩
  obtain ⟨i, hi, rfl⟩ := List.getElem_of_mem hx
  exact (key i hi).1 (h2 i hi)
 ·rintro ⟨h1, h2⟩
  exact ⟨⟨hR, hm⟩, h1, fun i hi => (key i hi).2 (h2 _ (List.getElem_mem hi))⟩
set_option maxRecDepth 100000 in
set_option maxHeartbeats 4000000 in
theorem points_any (p : Pl) (s q g r : Value) (w : World) (hp : PlM w s q g r p) (hf : p.Fit) (hA : SecsA p.secs p.secs.length) :
  Calls Tryz.prog 297 #[plV p s q g r] w (BoolPost w (decide (PtsMay p))) := by
 have HP : Hid (∀ w', Below w.heap.size w w' → PlM w' s q g r p) := fun w' hb => hp.below hb
 have HF := Lib.hid hf
 have HA := Lib.hid hA
 obtain ⟨⟨a1, c1, rfl, k1⟩, ⟨a2, c2, rfl, k2⟩, ⟨a3, c3, rfl, k3⟩, ⟨a4, c4, rfl, k4⟩⟩ := hp
 have HS : Hid (∀ w', Below w.heap.size w w' → SlA w' 3 RSec a1 c1 p.secs) := fun w' hb => k1.below keeps_sec hb
 have HQ : Hid (∀ w', Below w.heap.size w w' → SlA w' 2 RPt a2 c2 p.pts) := fun w' hb => k2.below keeps_pt hb
 have HN : Hid (decide (RiseTo Pt.id p.pts p.pts.length ∧ (p.pts.length : Int) ≤ 6) = false → decide (PtsMay p) = false) := fun h => decide_eq_false fun h' => (decide_eq_false_iff_not.1 h) h'.1
 have HI : Hid (decide (RiseTo Pt.id p.pts p.pts.length ∧ (p.pts.length : Int) ≤ 6) = true → (PtsMay p ↔ (cntPt p.secs p.secs.length = p.pts.length ∧ p.pts.any (fun x => decide (x.sec = 0 ∨ idOfPt p.secs p.secs.length x.id.toNat ≠ x.sec)) = false))) := fun h => by
  have h := decide_eq_true_iff.1 h
  exact ptsMay_iff hA h.1 h.2
 have HRI : Hid (decide (RiseTo Pt.id p.pts p.pts.length ∧ (p.pts.length : Int) ≤ 6) = true → RiseTo Pt.id p.pts p.pts.length) := fun h => (decide_eq_true_iff.1 h).1
 have HB2 : Hid (∀ b, (b = true ↔ PtsMay p) → decide (PtsMay p) = b) := fun b hb => by rw [Bool.eq_iff_iff, decide_eq_true_iff]; exact hb.symm
 have hs := hf.secs
 have hq := hf.pts
 clear k1 k2 k3 k4 hf hA
 unfold plV
 generalize decide (PtsMay p) = B at *
 go_enter Tryz.func297, Tryz.ntmps297
 go_wp2_with fail
 have K0 : Hid (Below w.heap.size w (w.alloc (.cells #[.int .i64 p.ver, .int .i64 p.par, .slice a1 p.secs.length c1, .slice a2 p.pts.length c2, .slice a3 p.sigs.length c3, .slice a4 p.rts.length c4] 28))) := (Below.refl _ _).alloc (Nat.le_refl _) _
 refine (risePt a2 c2 p.pts 6 _ (HQ.out _ K0.out) hq).mono ?_
 rintro e w1 ⟨rfl, hb1⟩
 have K1 : Hid (Below w.heap.size w w1) := K0.out.trans (hb1.mono K0.out.size)
 have f2 : w1.cell? ⟨w.heap.size, 2, none⟩ = some (.slice a1 p.secs.length c1) := ccell hb1 (by simp)
 have f3 : w1.cell? ⟨w.heap.size, 3, none⟩ = some (.slice a2 p.pts.length c2) := ccell hb1 (by simp)
 clear hb1
 cases hri : decide (RiseTo Pt.id p.pts p.pts.length ∧ (p.pts.length : Int) ≤ 6) with
 | false =>
  have HE := Lib.hid (HN.out hri)
  go_wp2_with fail
  go_ret
  exact ⟨rbool HE.out.symm, K1.out⟩
 | true =>
  have HII := Lib.hid (HI.out hri)
  have HRR := Lib.hid (HRI.out hri)
  clear hri
  have l1 := World.block_lt_of_cell? _ _ f2
  go_wp2_with fail
  have KA : Hid (Below w.heap.size w (w1.alloc (.cells Tryz.zeroCells168 168))) := K1.out.alloc (K1.out.size) _
  have KS := Lib.hid K1.out.size
  have hR0 : IntRow (w1.alloc (.cells Tryz.zeroCells168 168)) w1.heap.size 100 168 (idOfPt p.secs 0) := (IntRow.new w1 _ _ (by rw [zero168]; simp) zero168_at).congr fun q _ => (idOfPt_zero p.secs q).symm
  have HR0 := Lib.hid hR0
  have H3 : Hid (∀ W', Below w1.heap.size w1 W' → W'.cell? ⟨w.heap.size, 3, none⟩ = some (.slice a2 p.pts.length c2)) := fun W' hb => ccell hb f3
  clear hR0
  have hlen := hs
  go_loopg [4, 14] p.secs.length (fun g m i wr => ∃ k : Nat, k ≤ p.secs.length ∧ g = p.secs.length - k ∧ i = .int .i64 k ∧ m = .int .i64 (cntPt p.secs k) ∧ Below w1.heap.size w1 wr ∧ IntRow wr w1.heap.size 100 168 (idOfPt p.secs k))
  case atStart => exact ⟨0, by omega, by omega, rfl, by rw [cntPt_zero]; rfl, (Below.refl _ _).alloc (Nat.le_refl _) _, HR0.out⟩
  case round =>
   obtain ⟨k, hk, rfl, rfl, rfl, hb, hR⟩ := hrel
   obtain ⟨wo, rfl⟩ : ∃ wo : World, wo = wr := ⟨_, rfl⟩
   have HB := Lib.hid hb
   have HBW : Hid (Below w.heap.size w wo) := K1.out.trans (hb.mono K1.out.size)
   have HR := Lib.hid hR
   clear hb hR
   by_cases hlt : k < p.secs.length
   ·have hdk : decide ((k : Int) < (p.secs.length : Int)) = true := by simp; omega
    obtain ⟨b, off, a', c', rfl, x0, x1, x2, hends⟩ := (HS.out _ HBW.out).sec hlt
    have c0 : (0 : Int) ≤ (k : Int) := by omega
    have c1 : (k : Int) < (p.secs.length : Int) := by omega
    have l2 := World.block_lt_of_cell? _ _ x0
    have lw := HR.out.lt
    have hid := (HA.out k hlt hlt).1
    have hcs := cntPt_step hlt
    have hcl := cntPt_le p.secs k
    have HA2 := Lib.hid HA.out
    rcases hid.2.2 with ⟨hz, -⟩ | ⟨hp1, hp2, -⟩
    ·have t0 : decide ((0 : Int) < p.secs[k].pt) = false := by simp; omega
     have HST : Hid (∀ W', IntRow W' w1.heap.size 100 168 (idOfPt p.secs k) → IntRow W' w1.heap.size 100 168 (idOfPt p.secs (k + 1))) := fun W' h => h.congr fun q _ => idOfPt_skip hlt (by omega) q
     have HC : Hid (cntPt p.secs (k + 1) = cntPt p.secs k) := by rw [hcs, if_neg (by omega)]; rfl
     clear hcs hid hz
     generalize cntPt p.secs k = c at *
     go_wp2_with fail
     go_roundg (p.secs.length - (k + 1))
     case measure => go_light; omega
     case rel => go_light; exact ⟨k + 1, by omega, by omega, by go_num, by rw [HC.out], HB.out.alloc HB.out.size _, (HST.out _ HR.out).below ((Below.refl _ _).alloc (Nat.le_refl _) _)⟩
    ·have t0 : decide ((0 : Int) < p.secs[k].pt) = true := by simp; omega
     have HST : Hid (∀ W', IntRow W' w1.heap.size 100 168 (idOfPt p.secs k) → IntRow (W'.setCell ⟨w1.heap.size, p.secs[k].pt.toNat, none⟩ (.int .i64 p.secs[k].id)) w1.heap.size 100 168 (idOfPt p.secs (k + 1))) := fun W' h => by
      refine (h.set (q := p.secs[k].pt.toNat) (by omega) _).congr fun q hq => ?_
      exact idOfPt_step hlt HA.out p.secs[k].pt.toNat (by omega) (by omega) q
     have HC : Hid (cntPt p.secs (k + 1) = cntPt p.secs k + 1) := by rw [hcs, if_pos (by omega)]; rfl
     have p0 : (0 : Int) ≤ p.secs[k].pt := by omega
     have p1 : p.secs[k].pt < 100 := by omega
     have v2 := HR.out.cell (q := p.secs[k].pt.toNat) (by omega)
     have v3 := HR.out.frozen p.secs[k].pt.toNat
     clear hcs hid
     generalize cntPt p.secs k = c at *
     go_wp2_with fail
     go_roundg (p.secs.length - (k + 1))
     case measure => go_light; omega
     case rel => go_light; exact ⟨k + 1, by omega, by omega, by go_num, by rw [HC.out]; go_num, (HB.out.setCell (Nat.le_refl _) _).alloc (HB.out.setCell (p := ⟨w1.heap.size, p.secs[k].pt.toNat, none⟩) (Nat.le_refl _) (.int .i64 p.secs[k].id)).size _, (HST.out _ HR.out).below ((Below.refl _ _).alloc (Nat.le_refl _) _)⟩
   ·obtain rfl : k = p.secs.length := by omega
    have hdk : decide ((p.secs.length : Int) < (p.secs.length : Int)) = false := by simp
    have f3' := H3.out _ HB.out
    have hcl := cntPt_le p.secs p.secs.length
    by_cases hc : cntPt p.secs p.secs.length = p.pts.length
    ·have HQ' := Lib.hid (HQ.out _ HBW.out)
     have HSY : Hid (SaysPt 377 #[.pointer (some ⟨w1.heap.size, 0, none⟩)] (fun x => decide (x.sec = 0 ∨ idOfPt p.secs p.secs.length x.id.toNat ≠ x.sec)) p.pts wo) := fun W i h hb =>
      points1_any p.pts[i] _ _ W (HR.out.below hb) (HRR.out i h h).1.1 (HRR.out i h h).1.2
     have HZ : Hid (B = !(p.pts.any (fun x => decide (x.sec = 0 ∨ idOfPt p.secs p.secs.length x.id.toNat ≠ x.sec)))) := HB2.out _ (by rw [HII.out]; simp [hc])
     rw [hc] at *
     clear hc
     generalize (fun x : Pt => decide (x.sec = 0 ∨ idOfPt p.secs p.secs.length x.id.toNat ≠ x.sec)) = pr at *
     go_wp2_with fail
     refine (confnPt 377 #[.pointer (some ⟨w1.heap.size, 0, none⟩)] pr a2 c2 p.pts _ HQ'.out hq plain377 HSY.out).mono ?_
     rintro e w2 ⟨rfl, hb2⟩
     have KZ : Hid (Below w.heap.size w w2) := HBW.out.trans (hb2.mono HBW.out.size)
     clear hb2
     generalize p.pts.any pr = c at *
     go_wp2_with fail
     go_ret
     exact ⟨rbool HZ.out.symm, KZ.out⟩
    ·have e0 : ((cntPt p.secs p.secs.length : Int) == (p.pts.length : Int)) = false := by rw [beq_eq_false_iff_ne]; omega
     have HZ : Hid (B = false) := HB2.out false (by rw [HII.out]; simp [hc])
     clear hc
     generalize cntPt p.secs p.secs.length = c at *
     go_wp2_with fail
     go_ret
     exact ⟨rbool HZ.out.symm, HBW.out⟩
end Go.Proofs.YtbiehpjhhopjaaaGreat
