/-
 plan.route, walked.
-/
import Derived.Test.YtbiehpjhhopjaaaGreatTTrackD
import Derived.Test.YtbiehpjhhopjaaaGreatTPlanE
import Derived.Test.YtbiehpjhhopjaaaGreatTData
import Derived.Deep.CutBlock
set_option linter.unusedVariables false
namespace Go.Proofs.YtbiehpjhhopjaaaGreat
open Go.RowKit Go.Sort
theorem ILv.at_ {w : World} {v : Value} {l : List Int} (h : ILv w v l) : ∃ a c, v = .slice a l.length c ∧ IL w a l.length l := by
 obtain ⟨a, n, c, e, hl⟩ := h
 obtain rfl := hl.len
 exact ⟨a, c, e, hl⟩
set_option maxRecDepth 100000 in
set_option maxHeartbeats 8000000 in
theorem route_any (p : Pl) (r : Rt) (s q g rr vp vo vf : Value) (cs : Array Value) (f : Nat → Int) (w : World) (hp : PlM w s q g rr p) (hf : p.Fit) (hr : RtM w vp vo vf r) (hcs : IntArr cs f) (h3 : ∀ q, f q ≤ 3) (hsg : SigsMay f p.sigs) :
  Calls Tryz.prog 300 #[plV p s q g rr, .agg #[.int .i64 r.id, .int .i64 r.entry, .int .i64 r.exit, vp, vo, vf, .int .i64 r.timer], .agg cs] w (BoolPost w (decide (RtMay f p.sigs p.pts r))) := by
 have HCS := Lib.hid hcs
 have H3 := Lib.hid h3
 have HSG := Lib.hid hsg
 obtain ⟨⟨a1, c1, rfl, k1⟩, ⟨a2, c2, rfl, k2⟩, ⟨a3, c3, rfl, k3⟩, ⟨a4, c4, rfl, k4⟩⟩ := hp
 obtain ⟨ap, cp, rfl, kp⟩ := hr.path.at_
 obtain ⟨ao, co, rfl, ko⟩ := hr.over.at_
 obtain ⟨af, cf, rfl, kf⟩ := hr.fl
 have HQ : Hid (∀ w', Below w.heap.size w w' → SlA w' 2 RPt a2 c2 p.pts) := fun w' hb => k2.below keeps_pt hb
 have HG : Hid (∀ w', Below w.heap.size w w' → SlA w' 3 RSg a3 c3 p.sigs) := fun w' hb => k3.below keeps_sg hb
 have HP : Hid (∀ w', Below w.heap.size w w' → IL w' ap r.path.length r.path) := fun w' hb => kp.below hb
 have HO : Hid (∀ w', Below w.heap.size w w' → IL w' ao r.over.length r.over) := fun w' hb => ko.below hb
 have HFL : Hid (∀ w', Below w.heap.size w w' → SlA w' 2 RFl af cf r.fl) := fun w' hb => kf.below keeps_fl hb
 have HN : Hid (¬ RtHead p.sigs r → decide (RtMay f p.sigs p.pts r) = false) := fun h => decide_eq_false fun h' => h h'.1
 have HI : Hid (RtHead p.sigs r → (RtMay f p.sigs p.pts r ↔ (PathA f (entSec p.sigs r) (r.path ++ r.over) (r.path ++ r.over).length ∧ FlA p.pts r.fl r.fl.length))) := fun h => ⟨fun x => x.2, fun x => ⟨h, x⟩⟩
 have HB2 : Hid (∀ b, (b = true ↔ RtMay f p.sigs p.pts r) → decide (RtMay f p.sigs p.pts r) = b) := fun b hb => by rw [Bool.eq_iff_iff, decide_eq_true_iff]; exact hb.symm
 have hq := hf.pts
 have hs := hf.sigs
 clear k1 k2 k3 k4 kp ko kf hf hcs h3 hsg hr
 unfold plV
 generalize decide (RtMay f p.sigs p.pts r) = B at *
 go_enter Tryz.func300, Tryz.ntmps300
 go_wp2_with fail
 generalize hW : ((w.alloc _).alloc _).alloc _ = W
 have K0 : Hid (Below w.heap.size w W) := by show Below _ _ _; rw [← hW]; exact (((Below.refl _ _).alloc (Nat.le_refl _) _).alloc (by simp) _).alloc (by simp; omega) _
 have hz : W.heap.size = w.heap.size + 3 := by rw [← hW]; simp
 have GA : W.cell? ⟨w.heap.size, 3, none⟩ = some (.slice a2 p.pts.length c2) := by rw [← hW]; simp [go_sem]
 have GB : W.cell? ⟨w.heap.size, 4, none⟩ = some (.slice a3 p.sigs.length c3) := by rw [← hW]; simp [go_sem]
 have G1 : W.cell? ⟨w.heap.size + 1, 1, none⟩ = some (.int .i64 r.entry) := by rw [← hW]; simp [go_sem]
 have G2 : W.cell? ⟨w.heap.size + 1, 2, none⟩ = some (.int .i64 r.exit) := by rw [← hW]; simp [go_sem]
 have G3 : W.cell? ⟨w.heap.size + 1, 3, none⟩ = some (.slice ap r.path.length cp) := by rw [← hW]; simp [go_sem]
 have G4 : W.cell? ⟨w.heap.size + 1, 4, none⟩ = some (.slice ao r.over.length co) := by rw [← hW]; simp [go_sem]
 have G5 : W.cell? ⟨w.heap.size + 1, 5, none⟩ = some (.slice af r.fl.length cf) := by rw [← hW]; simp [go_sem]
 have G6 : W.cell? ⟨w.heap.size + 1, 6, none⟩ = some (.int .i64 r.timer) := by rw [← hW]; simp [go_sem]
 have GC : W.heap[w.heap.size + 2]? = some (.cells cs 168 (0, 0)) := by rw [← hW]; have := heap_alloc_new ((w.alloc (.cells #[.int .i64 p.ver, .int .i64 p.par, .slice a1 p.secs.length c1, .slice a2 p.pts.length c2, .slice a3 p.sigs.length c3, .slice a4 p.rts.length c4] 28)).alloc (.cells #[.int .i64 r.id, .int .i64 r.entry, .int .i64 r.exit, .slice ap r.path.length cp, .slice ao r.over.length co, .slice af r.fl.length cf, .int .i64 r.timer] 102)) (.cells cs 168 (0, 0)); simpa using this
 clear hW
 refine (findSg a3 c3 p.sigs r.entry _ (HG.out _ K0.out) hs).mono ?_
 rintro e w1 ⟨rfl, hb1⟩
 have K1 : Hid (Below w.heap.size w w1) := K0.out.trans (hb1.mono K0.out.size)
 have HES : Hid (isOne Sg.id p.sigs r.entry = true → 0 ≤ (oneOf Sg.id ⟨0, 0, 0⟩ p.sigs r.entry).sec ∧ (oneOf Sg.id ⟨0, 0, 0⟩ p.sigs r.entry).sec ≤ 99) := fun h => by
  have h1 := (one_is (z := ⟨0, 0, 0⟩) h).1
  obtain ⟨i, hi, he⟩ := List.getElem_of_mem h1
  have := (HSG.out.2 i hi hi).1.1
  rw [he] at this
  exact ⟨this.1, this.2.1⟩
 have HEE : Hid (entSec p.sigs r = (oneOf Sg.id ⟨0, 0, 0⟩ p.sigs r.entry).sec) := rfl
 have HHD : Hid (RtHead p.sigs r ↔ isOne Sg.id p.sigs r.entry = true ∧ (r.exit ≠ 0 → isOne Sg.id p.sigs r.exit = true ∧ r.exit ≠ r.entry) ∧ (r.exit = 0 → r.over.length = 0) ∧
  1 ≤ r.path.length ∧ r.path.length ≤ 6 ∧ r.over.length ≤ 2 ∧ r.fl.length ≤ 3 ∧ 1 ≤ r.timer ∧ r.timer ≤ 9) := Iff.rfl
 generalize oneOf Sg.id ⟨0, 0, 0⟩ p.sigs r.entry = E1 at *
 have gB : w1.cell? ⟨w.heap.size, 4, none⟩ = some (.slice a3 p.sigs.length c3) := (hb1.cell (by simp [hz])).trans GB
 have g2 : w1.cell? ⟨w.heap.size + 1, 2, none⟩ = some (.int .i64 r.exit) := (hb1.cell (by simp [hz])).trans G2
 have hz1 : w.heap.size + 3 ≤ w1.heap.size := by have := hb1.size; omega
 have l0 : w.heap.size < w1.heap.size := by omega
 have l1 : w.heap.size + 1 < w1.heap.size := by omega
 go_wp2_with fail
 generalize hW1 : w1.alloc _ = W1
 have hbW : Below w1.heap.size w1 W1 := by rw [← hW1]; exact (Below.refl _ _).alloc (Nat.le_refl _) _
 have hzW : W1.heap.size = w1.heap.size + 1 := by rw [← hW1]; simp
 have GE : W1.cell? ⟨w1.heap.size, 1, none⟩ = some (.int .i64 E1.sec) := by rw [← hW1]; simp
 have KW1 : Hid (Below w.heap.size w W1) := K1.out.trans (hbW.mono K1.out.size)
 clear hW1
 refine (findSg a3 c3 p.sigs r.exit _ (HG.out _ KW1.out) hs).mono ?_
 rintro e w2 ⟨rfl, hb2⟩
 have K2 : Hid (Below w.heap.size w w2) := KW1.out.trans (hb2.mono KW1.out.size)
 have hb12 : Below W.heap.size W w2 := hb1.trans ((hbW.mono hb1.size).trans (hb2.mono (Nat.le_trans hb1.size hbW.size)))
 have gA : w2.cell? ⟨w.heap.size, 3, none⟩ = some (.slice a2 p.pts.length c2) := (hb12.cell (by simp [hz])).trans GA
 have g1 : w2.cell? ⟨w.heap.size + 1, 1, none⟩ = some (.int .i64 r.entry) := (hb12.cell (by simp [hz])).trans G1
 have g2 : w2.cell? ⟨w.heap.size + 1, 2, none⟩ = some (.int .i64 r.exit) := (hb12.cell (by simp [hz])).trans G2
 have g3 : w2.cell? ⟨w.heap.size + 1, 3, none⟩ = some (.slice ap r.path.length cp) := (hb12.cell (by simp [hz])).trans G3
 have g4 : w2.cell? ⟨w.heap.size + 1, 4, none⟩ = some (.slice ao r.over.length co) := (hb12.cell (by simp [hz])).trans G4
 have g5 : w2.cell? ⟨w.heap.size + 1, 5, none⟩ = some (.slice af r.fl.length cf) := (hb12.cell (by simp [hz])).trans G5
 have g6 : w2.cell? ⟨w.heap.size + 1, 6, none⟩ = some (.int .i64 r.timer) := (hb12.cell (by simp [hz])).trans G6
 have gC : w2.heap[w.heap.size + 2]? = some (.cells cs 168 (0, 0)) := (hb12.block _ (by omega)).trans GC
 have gE : w2.cell? ⟨w1.heap.size, 1, none⟩ = some (.int .i64 E1.sec) := (hb2.cell (by simp [hzW])).trans GE
 have hz2 : w1.heap.size + 1 ≤ w2.heap.size := by have := hb2.size; omega
 clear hb1 hbW hb2 hb12 GA GB G1 G2 G3 G4 G5 G6 GC GE hzW gB
 generalize isOne Sg.id p.sigs r.exit = i2 at *
 generalize isOne Sg.id p.sigs r.entry = i1 at *
 generalize oneOf Sg.id ⟨0, 0, 0⟩ p.sigs r.exit = E2 at *
 go_upto_block 0 with fail
 generalize hW2 : w2.alloc _ = W2
 have hbW : Below w2.heap.size w2 W2 := by rw [← hW2]; exact (Below.refl _ _).alloc (Nat.le_refl _) _
 have hzW : W2.heap.size = w2.heap.size + 1 := by rw [← hW2]; simp
 have KW2 : Hid (Below w.heap.size w W2) := K2.out.trans (hbW.mono K2.out.size)
 have vA : W2.cell? ⟨w.heap.size, 3, none⟩ = some (.slice a2 p.pts.length c2) := ccell hbW gA
 have v1 : W2.cell? ⟨w.heap.size + 1, 1, none⟩ = some (.int .i64 r.entry) := ccell hbW g1
 have v2 : W2.cell? ⟨w.heap.size + 1, 2, none⟩ = some (.int .i64 r.exit) := ccell hbW g2
 have v3 : W2.cell? ⟨w.heap.size + 1, 3, none⟩ = some (.slice ap r.path.length cp) := ccell hbW g3
 have v4 : W2.cell? ⟨w.heap.size + 1, 4, none⟩ = some (.slice ao r.over.length co) := ccell hbW g4
 have v5 : W2.cell? ⟨w.heap.size + 1, 5, none⟩ = some (.slice af r.fl.length cf) := ccell hbW g5
 have v6 : W2.cell? ⟨w.heap.size + 1, 6, none⟩ = some (.int .i64 r.timer) := ccell hbW g6
 have vE : W2.cell? ⟨w1.heap.size, 1, none⟩ = some (.int .i64 E1.sec) := ccell hbW gE
 have vC : W2.heap[w.heap.size + 2]? = some (.cells cs 168 (0, 0)) := (hbW.block _ (by omega)).trans gC
 have HVC := Lib.hid vC
 clear hbW hW2 gA g1 g2 g3 g4 g5 g6 gC gE vC
 have HVA := Lib.hid vA
 have HVE := Lib.hid vE
 clear vA vE
 go_cut [] from 20 to 85 (fun wc => RtHead p.sigs r ∧ wc = W2)
 case first =>
  by_cases hh : RtHead p.sigs r
  ·have HH := Lib.hid hh
   obtain ⟨d1, d2, d3, d4, d5, d6, d7, d8, d9⟩ := HHD.out.1 hh
   have t1 : decide ((r.path.length : Int) < 1) = false := by simp; omega
   have t2 : decide ((6 : Int) < (r.path.length : Int)) = false := by simp; omega
   have t3 : decide ((2 : Int) < (r.over.length : Int)) = false := by simp; omega
   have t4 : decide ((3 : Int) < (r.fl.length : Int)) = false := by simp; omega
   have t5 : decide (r.timer < 1) = false := by simp; omega
   have t6 : decide ((9 : Int) < r.timer) = false := by simp; omega
   have u2 : decide (6 < r.path.length) = false := by simp; omega
   have u3 : decide (2 < r.over.length) = false := by simp; omega
   have u4 : decide (3 < r.fl.length) = false := by simp; omega
   by_cases hx : r.exit = 0
   ·have e1 : (r.exit != 0) = false := by simp [hx]
    have e2 : (r.exit == 0) = true := by simp [hx]
    have o1 : decide ((0 : Int) < (r.over.length : Int)) = false := by rw [d3 hx]; rfl
    have o2 : decide (0 < r.over.length) = false := by rw [d3 hx]; rfl
    clear hx d2 d3 d4 d5 d6 d7 d8 d9 hh
    go_wp2_with fail
    go_meet
    case rel => exact ⟨HH.out, rfl⟩
   ·have e1 : (r.exit != 0) = true := by simp [hx]
    have e2 : (r.exit == 0) = false := by simp [hx]
    have e3 : (r.exit == r.entry) = false := by have := (d2 hx).2; simpa using this
    have e4 := (d2 hx).1
    clear hx d2 d3 d4 d5 d6 d7 d8 d9 hh
    go_wp2_with fail
    go_meet
    case rel => exact ⟨HH.out, rfl⟩
  ·have HE := Lib.hid (HN.out hh)
   have HNN : Hid (¬ (i1 = true ∧ (r.exit ≠ 0 → i2 = true ∧ r.exit ≠ r.entry) ∧ (r.exit = 0 → r.over.length = 0) ∧ 1 ≤ r.path.length ∧ r.path.length ≤ 6 ∧ r.over.length ≤ 2 ∧ r.fl.length ≤ 3 ∧ 1 ≤ r.timer ∧ r.timer ≤ 9)) := fun h => hh (HHD.out.2 h)
   clear hh
   cases i1 with
   | false =>
    go_wp2_with fail
    go_ret
    exact ⟨rbool HE.out.symm, KW2.out⟩
   | true =>
    by_cases hx : r.exit = 0
    ·have e1 : (r.exit != 0) = false := by simp [hx]
     have e2 : (r.exit == 0) = true := by simp [hx]
     have HX := Lib.hid hx
     clear hx
     by_cases ho : 0 < r.over.length
     ·have o1 : decide ((0 : Int) < (r.over.length : Int)) = true := by simp only [decide_eq_true_eq]; omega
      have o2 : decide (0 < r.over.length) = true := by simp only [decide_eq_true_eq]; omega
      clear ho
      go_wp2_with fail
      go_ret
      exact ⟨rbool HE.out.symm, KW2.out⟩
     ·have o1 : decide ((0 : Int) < (r.over.length : Int)) = false := by simp only [decide_eq_false_iff_not]; omega
      have o2 : decide (0 < r.over.length) = false := by simp only [decide_eq_false_iff_not]; omega
      have HO0 := Lib.hid ho
      clear ho
      go_wp2_with fail
      all_goals first
       | (go_ret; exact ⟨rbool HE.out.symm, KW2.out⟩)
       | (exact absurd ⟨trivial, fun h => absurd HX.out h, fun _ => by have := HO0.out; omega, by omega, by omega, by omega, by omega, by omega, by omega⟩ HNN.out)
    ·have e1 : (r.exit != 0) = true := by simp [hx]
     have e2 : (r.exit == 0) = false := by simp [hx]
     have HX := Lib.hid hx
     clear hx
     cases i2 with
     | false =>
      go_wp2_with fail
      go_ret
      exact ⟨rbool HE.out.symm, KW2.out⟩
     | true =>
      by_cases he : r.exit = r.entry
      ·have e3 : (r.exit == r.entry) = true := by simpa using he
       clear he
       go_wp2_with fail
       go_ret
       exact ⟨rbool HE.out.symm, KW2.out⟩
      ·have e3 : (r.exit == r.entry) = false := by simpa using he
       have HEN := Lib.hid he
       clear he
       go_wp2_with fail
       all_goals first
        | (go_ret; exact ⟨rbool HE.out.symm, KW2.out⟩)
        | (exact absurd ⟨trivial, fun _ => ⟨trivial, HEN.out⟩, fun h => absurd h HX.out, by omega, by omega, by omega, by omega, by omega, by omega⟩ HNN.out)
 case rest =>
  obtain ⟨hh, rfl⟩ := hcut
  obtain ⟨d1, -, -, d4, d5, d6, d7, -, -⟩ := HHD.out.1 hh
  obtain ⟨m1, m2⟩ := HES.out d1
  have HIF := Lib.hid (HI.out hh)
  rw [HEE.out] at HIF
  have m3 : E1.sec < 100 := by omega
  have vE := HVE.out
  have z0 : Tryz.zeroCells279[E1.sec.toNat]? = some (.bool false) := zero279_at _ (by omega)
  have ll0 : w.heap.size < wc.heap.size := by omega
  have KWL : Hid (w.heap.size + 2 < wc.heap.size) := by show _ < _; omega
  have ll1 : w.heap.size + 1 < wc.heap.size := by omega
  have ll2 : w1.heap.size < wc.heap.size := by omega
  clear hh d1 d4 v1 v2 v6 hzW hz2 hz1 l0 l1 hz g2
  go_upto_block 1 with fail
  have zrow : BoolRow (wc.alloc (.cells (Tryz.zeroCells279.setIfInBounds E1.sec.toNat (.bool true)) 279)) wc.heap.size 100 279 (metOf E1.sec (r.path ++ r.over) 0) := by
   refine BoolRow.congr (f := fun q => decide ((q : Int) = E1.sec)) ⟨_, heap_alloc_new wc _, by rw [Array.size_setIfInBounds, zero279]; simp, fun q hq => ?_⟩ fun q _ => (metOf_zero _ _ q).symm
   rw [Array.getElem?_setIfInBounds, zero279]
   by_cases e : E1.sec.toNat = q
   ·rw [if_pos e, if_pos (by rw [Array.size_replicate]; omega)]
    have : (q : Int) = E1.sec := by omega
    simp [this]
   ·rw [if_neg e]
    have : ¬ (q : Int) = E1.sec := by omega
    simp [this, hq]
  generalize hW3 : World.alloc _ _ = W3
  have hb3 : Below wc.heap.size wc W3 := by rw [← hW3]; exact ((Below.refl _ _).alloc (Nat.le_refl _) _).alloc (by simp) _
  have zrow3 : Hid (BoolRow W3 wc.heap.size 100 279 (metOf E1.sec (r.path ++ r.over) 0)) := by show BoolRow _ _ _ _ _; rw [← hW3]; exact zrow.below ((Below.refl _ _).alloc (Nat.le_refl _) _)
  have L0 : Hid (W3.cell? ⟨wc.heap.size + 1, 0, none⟩ = some (.slice ap r.path.length cp)) := by show _ = _; rw [← hW3]; simp
  have L1 : Hid (W3.cell? ⟨wc.heap.size + 1, 1, none⟩ = some (.slice ao r.over.length co)) := by show _ = _; rw [← hW3]; simp
  have HB3 := Lib.hid hb3
  clear hW3 zrow hb3 vE m1 m2 m3 z0 v3 v4
  have HBS : Hid (∃ bs : Nat → Nat, bs 0 = 0 ∧ bs 1 = r.path.length ∧ bs 2 = (r.path ++ r.over).length) := ⟨fun k => if k = 0 then 0 else if k = 1 then r.path.length else (r.path ++ r.over).length, rfl, rfl, rfl⟩
  obtain ⟨bs, b0, b1, b2⟩ := HBS.out
  go_wp2_with fail
  go_loopg [95] 2 (fun g i wr => ∃ k : Nat, k ≤ 2 ∧ g = 2 - k ∧ i = .int .i64 k ∧ Below wc.heap.size wc wr ∧ wr.cell? ⟨wc.heap.size + 1, 0, none⟩ = some (.slice ap r.path.length cp) ∧ wr.cell? ⟨wc.heap.size + 1, 1, none⟩ = some (.slice ao r.over.length co) ∧ BoolRow wr wc.heap.size 100 279 (metOf E1.sec (r.path ++ r.over) (bs k)) ∧ PathA f E1.sec (r.path ++ r.over) (bs k))
  case atStart => exact ⟨0, by omega, by omega, rfl, HB3.out, L0.out, L1.out, by rw [b0]; exact zrow3.out, fun i hi h => absurd h (by omega)⟩
  case round =>
   obtain ⟨k, hk, rfl, rfl, hb, hL0, hL1, hR, hA⟩ := hrel
   obtain ⟨wo, rfl⟩ : ∃ wo : World, wo = wr := ⟨_, rfl⟩
   have HB := Lib.hid hb
   have HBW : Hid (Below w.heap.size w wo) := KW2.out.trans (hb.mono KW2.out.size)
   have HR := Lib.hid hR
   have HA := Lib.hid hA
   clear hb hR hA
   by_cases hlt : k < 2
   ·have hdk : decide ((k : Int) < 2) = true := by simp; omega
    have HK : Hid (∃ (a : Option Addr) (c : Nat) (l : List Int), wo.cell? ⟨wc.heap.size + 1, k, none⟩ = some (.slice a l.length c) ∧ (∀ w', Below w.heap.size w w' → IL w' a l.length l) ∧ l.length ≤ 6 ∧ bs k + l.length = bs (k + 1) ∧ bs (k + 1) ≤ (r.path ++ r.over).length ∧ ∀ j (h : j < l.length) (h' : bs k + j < (r.path ++ r.over).length), l[j] = (r.path ++ r.over)[bs k + j]) := by
     rcases (show k = 0 ∨ k = 1 by omega) with rfl | rfl
     ·exact ⟨ap, cp, r.path, hL0, HP.out, d5, by rw [b0, b1]; omega, by rw [b1]; simp, fun j h h' => by simp only [b0, Nat.zero_add]; rw [List.getElem_append_left h]⟩
     ·exact ⟨ao, co, r.over, hL1, HO.out, by omega, by rw [b1, b2]; simp, by rw [b2]; exact Nat.le_refl _, fun j h h' => by simp only [b1]; rw [List.getElem_append_right (by omega)]; congr 1; omega⟩
    obtain ⟨al, cl, l, x0, hIL, hl6, hbs, hbl, hwh⟩ := HK.out
    have HIL := Lib.hid hIL
    have HBS' := Lib.hid hbs
    have HBL := Lib.hid hbl
    have HWH := Lib.hid hwh
    have c0 : (0 : Int) ≤ (k : Int) := by omega
    have c1 : (k : Int) < 2 := by omega
    have l9 := World.block_lt_of_cell? _ _ x0
    have HL0 := Lib.hid hL0
    have HL1 := Lib.hid hL1
    clear hIL hbs hbl hwh hL0 hL1
    go_wp2_with fail
    go_loopg [101] l.length (fun g i wm => ∃ m : Nat, m ≤ l.length ∧ g = l.length - m ∧ i = .int .i64 m ∧ Below wc.heap.size wc wm ∧ wm.cell? ⟨wc.heap.size + 1, 0, none⟩ = some (.slice ap r.path.length cp) ∧ wm.cell? ⟨wc.heap.size + 1, 1, none⟩ = some (.slice ao r.over.length co) ∧ BoolRow wm wc.heap.size 100 279 (metOf E1.sec (r.path ++ r.over) (bs k + m)) ∧ PathA f E1.sec (r.path ++ r.over) (bs k + m))
    case atStart => exact ⟨0, by omega, by omega, rfl, HB.out, HL0.out, HL1.out, HR.out, HA.out⟩
    case round =>
     obtain ⟨m, hm, rfl, rfl, hb, hL0, hL1, hR, hA⟩ := hrel
     obtain ⟨wm, rfl⟩ : ∃ wm : World, wm = wr := ⟨_, rfl⟩
     have HBm := Lib.hid hb
     have HBWm : Hid (Below w.heap.size w wm) := KW2.out.trans (hb.mono KW2.out.size)
     have HRm := Lib.hid hR
     have HAm := Lib.hid hA
     have HL0m := Lib.hid hL0
     have HL1m := Lib.hid hL1
     clear hb hR hA hL0 hL1 x0
     by_cases hlm : m < l.length
     ·have hdm : decide ((m : Int) < (l.length : Int)) = true := by simp; omega
      obtain ⟨b, off, rfl, x1⟩ := (HIL.out _ HBWm.out).cell m hlm
      have e0 : (0 : Int) ≤ (m : Int) := by omega
      have e1 : (m : Int) < (l.length : Int) := by omega
      have hlw : bs k + m < (r.path ++ r.over).length := by have := HBS'.out; have := HBL.out; omega
      have hel := HWH.out m hlm hlw
      have HRow : Hid (wm.heap[w.heap.size + 1 + 1]? = some (.cells cs 168 (0, 0))) := (HBm.out.block _ (by have := KWL.out; omega)).trans HVC.out
      have HCZ : Hid ((Tryz.prog.info? 168).map (·.size) = some cs.size) := by show _ = _; rw [info168, HCS.out.1]
      have HTH : Hid (Calls Tryz.prog 379 #[.agg cs, .int .i64 l[m]] wm (BoolPost wm (decide (There f l[m])))) := there_any cs f l[m] wm HCS.out
      have HBAD : Hid (¬ (There f l[m] ∧ l[m] ≠ E1.sec ∧ ∀ n (hn : n < bs k + m), (r.path ++ r.over)[n] ≠ l[m]) → B = false) := fun h => HB2.out false (by
       have h5 := HIF.out
       rw [h5]
       simp only [Bool.false_eq_true, false_iff]
       intro hx
       have h6 := hx.1 _ hlw hlw
       rw [← hel] at h6
       exact h h6)
      have HEL := Lib.hid hel
      clear hel
      by_cases ht : There f l[m]
      ·have hth := ht
       have ht' := decide_eq_true ht
       clear ht
       rw [ht'] at HTH
       have n0 : (0 : Int) ≤ l[m] := hth.1
       have n1 : l[m] < 100 := by have := hth.2.1; omega
       have HMI : Hid (metOf E1.sec (r.path ++ r.over) (bs k + m) l[m].toNat = true ↔ ¬ ((r.path ++ r.over)[bs k + m] ≠ E1.sec ∧ ∀ n (hn : n < bs k + m), (r.path ++ r.over)[n] ≠ (r.path ++ r.over)[bs k + m])) := metOf_iff E1.sec hlw l[m].toNat (by rw [← HEL.out]; omega)
       have HTD := Lib.hid hth
       clear hth
       cases hmt : metOf E1.sec (r.path ++ r.over) (bs k + m) l[m].toNat with
       | true =>
        have HE : Hid (B = false) := HBAD.out fun h => HMI.out.1 hmt (by rw [← HEL.out]; exact h.2)
        have HYM : Hid (∀ W', Below wm.heap.size wm W' → W'.cell? ⟨wc.heap.size, l[m].toNat, none⟩ = some (.bool true)) := fun W' hb => by
         have := (HRm.out.below hb).cell (q := l[m].toNat) (by omega)
         rw [hmt] at this
         exact this
        clear hmt
        go_upto_region 23 with fail
        go_step
        refine wpList_load_row rfl 168 (.tmp 5) rfl (w.heap.size + 1 + 1) rfl 168 cs (0, 0) _ HRow.out Tryz.underlying168 rfl HCZ.out ?_
        simp [Act.put]
        go_wp2_with fail
        refine HTH.out.mono ?_
        rintro e wn ⟨rfl, hbn⟩
        have KN : Hid (Below w.heap.size w wn) := HBWm.out.trans (hbn.mono HBWm.out.size)
        have y9 := HYM.out _ hbn
        clear hbn
        go_wp2_with fail
        go_ret
        exact ⟨rbool HE.out.symm, KN.out⟩
       | false =>
        have HPA : Hid (PathA f E1.sec (r.path ++ r.over) (bs k + m + 1)) := pathA_step hlw HAm.out (by
         have h9 : (r.path ++ r.over)[bs k + m] ≠ E1.sec ∧ ∀ n (hn : n < bs k + m), (r.path ++ r.over)[n] ≠ (r.path ++ r.over)[bs k + m] := Classical.not_not.1 fun hn => by
          have := HMI.out.2 hn
          rw [hmt] at this
          cases this
         refine ⟨?_, h9⟩
         rw [← HEL.out]
         exact HTD.out)
        have HYM : Hid (∀ W', Below wm.heap.size wm W' → W'.cell? ⟨wc.heap.size, l[m].toNat, none⟩ = some (.bool false)) := fun W' hb => by
         have := (HRm.out.below hb).cell (q := l[m].toNat) (by omega)
         rw [hmt] at this
         exact this
        have HST : Hid (∀ W', BoolRow W' wc.heap.size 100 279 (metOf E1.sec (r.path ++ r.over) (bs k + m)) → BoolRow (W'.setCell ⟨wc.heap.size, l[m].toNat, none⟩ (.bool true)) wc.heap.size 100 279 (metOf E1.sec (r.path ++ r.over) (bs k + m + 1))) := fun W' h => by
         refine (h.set (q := l[m].toNat) (by omega) _).congr fun q hq => ?_
         exact metOf_step E1.sec hlw l[m].toNat (by rw [← HEL.out]; omega) q
        clear hmt
        go_upto_region 23 with fail
        go_step
        refine wpList_load_row rfl 168 (.tmp 5) rfl (w.heap.size + 1 + 1) rfl 168 cs (0, 0) _ HRow.out Tryz.underlying168 rfl HCZ.out ?_
        simp [Act.put]
        go_wp2_with fail
        refine HTH.out.mono ?_
        rintro e wn ⟨rfl, hbn⟩
        have KN : Hid (Below wc.heap.size wc wn) := HBm.out.trans (hbn.mono HBm.out.size)
        have y9 := HYM.out _ hbn
        have HRn := Lib.hid (HRm.out.below hbn)
        have y8 := HRn.out.frozen l[m].toNat
        have Q0 : Hid (wn.cell? ⟨wc.heap.size + 1, 0, none⟩ = some (.slice ap r.path.length cp)) := ccell hbn HL0m.out
        have Q1 : Hid (wn.cell? ⟨wc.heap.size + 1, 1, none⟩ = some (.slice ao r.over.length co)) := ccell hbn HL1m.out
        clear hbn
        go_wp2_with fail
        go_roundg (l.length - (m + 1))
        case measure => go_light; omega
        case rel => go_light; exact ⟨m + 1, by omega, by omega, by go_num, KN.out.setCell (Nat.le_refl _) _, (World.cell?_setCell_other _ _ _ _ (by simp)).trans Q0.out, (World.cell?_setCell_other _ _ _ _ (by simp)).trans Q1.out, HST.out _ HRn.out, HPA.out⟩
      ·have HE := Lib.hid (HBAD.out fun h => ht h.1)
       have ht' := decide_eq_false ht
       clear ht
       rw [ht'] at HTH
       go_upto_region 23 with fail
       go_step
       refine wpList_load_row rfl 168 (.tmp 5) rfl (w.heap.size + 1 + 1) rfl 168 cs (0, 0) _ HRow.out Tryz.underlying168 rfl HCZ.out ?_
       simp [Act.put]
       go_wp2_with fail
       refine HTH.out.mono ?_
       rintro e wn ⟨rfl, hbn⟩
       have KN : Hid (Below w.heap.size w wn) := HBWm.out.trans (hbn.mono HBWm.out.size)
       clear hbn
       go_wp2_with fail
       go_ret
       exact ⟨rbool HE.out.symm, KN.out⟩
     ·obtain rfl : m = l.length := by omega
      have hdm : decide ((l.length : Int) < (l.length : Int)) = false := by simp
      have HR' : Hid (BoolRow wm wc.heap.size 100 279 (metOf E1.sec (r.path ++ r.over) (bs (k + 1)))) := by show BoolRow _ _ _ _ _; rw [← HBS'.out]; exact HRm.out
      have HA' : Hid (PathA f E1.sec (r.path ++ r.over) (bs (k + 1))) := by show PathA _ _ _ _; rw [← HBS'.out]; exact HAm.out
      clear HRm HAm
      go_wp2_with fail
      go_roundg (2 - (k + 1))
      case measure => go_light; omega
      case rel => go_light; exact ⟨k + 1, by omega, by omega, by go_num, HBm.out, HL0m.out, HL1m.out, HR'.out, HA'.out⟩
   ·obtain rfl : k = 2 := by omega
    have hdk : decide ((((2 : Nat) : Int)) < 2) = false := by simp
    have HAF : Hid (PathA f E1.sec (r.path ++ r.over) (r.path ++ r.over).length) := by show PathA _ _ _ _; rw [← b2]; exact HA.out
    have HV5 : Hid (∀ W', Below wo.heap.size wo W' → W'.cell? ⟨w.heap.size + 1, 5, none⟩ = some (.slice af r.fl.length cf)) := fun W' hb => (hb.cell (Nat.lt_of_lt_of_le ll1 HB.out.size)).trans ((HB.out.cell ll1).trans v5)
    have HV3 : Hid (∀ W', Below wo.heap.size wo W' → W'.cell? ⟨w.heap.size, 3, none⟩ = some (.slice a2 p.pts.length c2)) := fun W' hb => (hb.cell (Nat.lt_of_lt_of_le ll0 HB.out.size)).trans ((HB.out.cell ll0).trans HVA.out)
    have w5 := HV5.out wo (Below.refl _ _)
    clear hL0 hL1 b0 b1 b2 v5
    go_wp2_with fail
    go_loopg [121] r.fl.length (fun g i wj => ∃ n : Nat, n ≤ r.fl.length ∧ g = r.fl.length - n ∧ i = .int .i64 n ∧ Below wo.heap.size wo wj ∧ FlA p.pts r.fl n)
    case atStart => exact ⟨0, by omega, by omega, rfl, Below.refl _ _, fun i hi h => absurd h (by omega)⟩
    case round =>
     obtain ⟨n, hn, rfl, rfl, hb, hA⟩ := hrel
     obtain ⟨wj, rfl⟩ : ∃ wj : World, wj = wr := ⟨_, rfl⟩
     have HBj := Lib.hid hb
     have HBWj : Hid (Below w.heap.size w wj) := HBW.out.trans (hb.mono HBW.out.size)
     have HFA := Lib.hid hA
     clear hb hA w5
     by_cases hln : n < r.fl.length
     ·have hdn : decide ((n : Int) < (r.fl.length : Int)) = true := by simp; omega
      obtain ⟨b, off, rfl, x0, x1⟩ := (HFL.out _ HBWj.out).fl hln
      have e0 : (0 : Int) ≤ (n : Int) := by omega
      have e1 : (n : Int) < (r.fl.length : Int) := by omega
      have l8 := World.block_lt_of_cell? _ _ x0
      have x3 := HV3.out _ HBj.out
      have l7 := World.block_lt_of_cell? _ _ x3
      go_wp2_with fail
      generalize hW4 : wj.alloc _ = W4
      have hb4 : Below wj.heap.size wj W4 := by rw [← hW4]; exact (Below.refl _ _).alloc (Nat.le_refl _) _
      have hz4 : W4.heap.size = wj.heap.size + 1 := by rw [← hW4]; simp
      have G0 : W4.cell? ⟨wj.heap.size, 0, none⟩ = some (.int .i64 r.fl[n].pt) := by rw [← hW4]; simp
      have G1 : W4.cell? ⟨wj.heap.size, 1, none⟩ = some (.int .i64 r.fl[n].lie) := by rw [← hW4]; simp
      have K4 : Hid (Below w.heap.size w W4) := HBWj.out.trans (hb4.mono HBWj.out.size)
      have K4o : Hid (Below wo.heap.size wo W4) := HBj.out.trans (hb4.mono HBj.out.size)
      clear hW4 hb4 x0 x1 x3 l8 l7
      refine (findPt a2 c2 p.pts r.fl[n].pt _ (HQ.out _ K4.out) hq).mono ?_
      rintro e w5 ⟨rfl, hb5⟩
      have K5 : Hid (Below w.heap.size w w5) := K4.out.trans (hb5.mono K4.out.size)
      have K5o : Hid (Below wo.heap.size wo w5) := K4o.out.trans (hb5.mono K4o.out.size)
      have g0 : w5.cell? ⟨wj.heap.size, 0, none⟩ = some (.int .i64 r.fl[n].pt) := (hb5.cell (by simp [hz4])).trans G0
      have g1 : w5.cell? ⟨wj.heap.size, 1, none⟩ = some (.int .i64 r.fl[n].lie) := (hb5.cell (by simp [hz4])).trans G1
      clear hb5 G0 G1 hz4
      generalize oneOf Pt.id ⟨0, 0⟩ p.pts r.fl[n].pt = E3 at *
      go_upto_region 32 with fail
      generalize hW6 : w5.alloc _ = W6
      have hb6 : Below w5.heap.size w5 W6 := by rw [← hW6]; exact (Below.refl _ _).alloc (Nat.le_refl _) _
      have K6 : Hid (Below w.heap.size w W6) := K5.out.trans (hb6.mono K5.out.size)
      have K6o : Hid (Below wo.heap.size wo W6) := K5o.out.trans (hb6.mono K5o.out.size)
      have y0 : W6.cell? ⟨wj.heap.size, 0, none⟩ = some (.int .i64 r.fl[n].pt) := ccell hb6 g0
      have y1 : W6.cell? ⟨wj.heap.size, 1, none⟩ = some (.int .i64 r.fl[n].lie) := ccell hb6 g1
      have y5 := HV5.out _ K6o.out
      clear hb6 hW6 g0 g1
      have HBAD : Hid (¬ FlAt p.pts r.fl n hln → B = false) := fun h => HB2.out false (by
       have h5 := HIF.out
       rw [h5]
       simp only [Bool.false_eq_true, false_iff]
       exact fun hx => h (hx.2 n hln hln))
      cases hone : isOne Pt.id p.pts r.fl[n].pt with
      | false =>
       have HE := Lib.hid (HBAD.out fun h => by have := h.1; rw [hone] at this; cases this)
       clear hone
       go_quiet (fail)
       go_wp2_with fail
       go_ret
       exact ⟨rbool HE.out.symm, below_drewN' K6.out _⟩
      | true =>
       have HONE := Lib.hid hone
       clear hone
       rcases Nat.eq_zero_or_pos n with hn0 | hn0
       ·have t0 : decide ((0 : Int) < (n : Int)) = false := by simp; omega
        have t0' : decide (0 < n) = false := by simp; omega
        have HN0 := Lib.hid hn0
        clear hn0
        have HLT : Hid (∀ h' : 0 < n, r.fl[n - 1].pt < r.fl[n].pt) := fun h' => absurd h' (by have := HN0.out; omega)
        by_cases hl1 : r.fl[n].lie = 1
        ·have q1 : (r.fl[n].lie != 1) = false := by simp [hl1]
         have HFS := Lib.hid (flA_step hln HFA.out ⟨HONE.out, HLT.out, .inl hl1⟩)
         clear hl1
         go_quiet (fail)
         go_wp2_with fail
         go_roundg (r.fl.length - (n + 1))
         case measure => go_light; omega
         case rel => go_light; exact ⟨n + 1, by omega, by omega, by go_num, below_drewN' K6o.out _, HFS.out⟩
        ·have q1 : (r.fl[n].lie != 1) = true := by simp [hl1]
         by_cases hl2 : r.fl[n].lie = 2
         ·have q2 : (r.fl[n].lie != 2) = false := by simp [hl2]
          have HFS := Lib.hid (flA_step hln HFA.out ⟨HONE.out, HLT.out, .inr hl2⟩)
          clear hl1 hl2
          go_quiet (fail)
          go_wp2_with fail
          go_roundg (r.fl.length - (n + 1))
          case measure => go_light; omega
          case rel => go_light; exact ⟨n + 1, by omega, by omega, by go_num, below_drewN' K6o.out _, HFS.out⟩
         ·have q2 : (r.fl[n].lie != 2) = true := by simp [hl2]
          have HE := Lib.hid (HBAD.out fun h => by rcases h.2.2 with h | h <;> contradiction)
          clear hl1 hl2
          go_quiet (fail)
          go_wp2_with fail
          go_ret
          exact ⟨rbool HE.out.symm, below_drewN' K6.out _⟩
       ·have t0 : decide ((0 : Int) < (n : Int)) = true := by simp; omega
        have t0' : decide (0 < n) = true := by simp; omega
        have hn1 : n - 1 < r.fl.length := by omega
        have HZ : Hid (W6.cell? ⟨b, off + (n - 1) * 2, none⟩ = some (.int .i64 r.fl[n - 1].pt)) := by
         obtain ⟨b', off', e, z0, -⟩ := (HFL.out _ K6.out).fl hn1
         cases e
         exact z0
        have z0 := HZ.out
        have i0 : (0 : Int) ≤ (n : Int) - 1 := by omega
        have i1 : (n : Int) - 1 < (r.fl.length : Int) := by omega
        have i2 : ((n : Int) - 1).toNat = n - 1 := by omega
        by_cases hlt : r.fl[n].pt ≤ r.fl[n - 1].pt
        ·have q0 : decide (r.fl[n].pt ≤ r.fl[n - 1].pt) = true := by simpa using hlt
         have HE := Lib.hid (HBAD.out fun h => by have := h.2.1 hn0; omega)
         clear hlt hn0
         go_quiet (fail)
         go_wp2_with fail
         go_ret
         exact ⟨rbool HE.out.symm, below_drewN' K6.out _⟩
        ·have q0 : decide (r.fl[n].pt ≤ r.fl[n - 1].pt) = false := by simpa using hlt
         have HLT : Hid (∀ h' : 0 < n, r.fl[n - 1].pt < r.fl[n].pt) := fun h' => by omega
         clear hlt hn0
         by_cases hl1 : r.fl[n].lie = 1
         ·have q1 : (r.fl[n].lie != 1) = false := by simp [hl1]
          have HFS := Lib.hid (flA_step hln HFA.out ⟨HONE.out, HLT.out, .inl hl1⟩)
          clear hl1
          go_quiet (fail)
          go_wp2_with fail
          go_roundg (r.fl.length - (n + 1))
          case measure => go_light; omega
          case rel => go_light; exact ⟨n + 1, by omega, by omega, by go_num, below_drewN' K6o.out _, HFS.out⟩
         ·have q1 : (r.fl[n].lie != 1) = true := by simp [hl1]
          by_cases hl2 : r.fl[n].lie = 2
          ·have q2 : (r.fl[n].lie != 2) = false := by simp [hl2]
           have HFS := Lib.hid (flA_step hln HFA.out ⟨HONE.out, HLT.out, .inr hl2⟩)
           clear hl1 hl2
           go_quiet (fail)
           go_wp2_with fail
           go_roundg (r.fl.length - (n + 1))
           case measure => go_light; omega
           case rel => go_light; exact ⟨n + 1, by omega, by omega, by go_num, below_drewN' K6o.out _, HFS.out⟩
          ·have q2 : (r.fl[n].lie != 2) = true := by simp [hl2]
           have HE := Lib.hid (HBAD.out fun h => by rcases h.2.2 with h | h <;> contradiction)
           clear hl1 hl2
           go_quiet (fail)
           go_wp2_with fail
           go_ret
           exact ⟨rbool HE.out.symm, below_drewN' K6.out _⟩
     ·obtain rfl : n = r.fl.length := by omega
      have hdn : decide ((r.fl.length : Int) < (r.fl.length : Int)) = false := by simp
      have HE : Hid (B = true) := HB2.out true (by have h5 := HIF.out; rw [h5]; simp only [true_iff]; exact ⟨HAF.out, HFA.out⟩)
      go_wp2_with fail
      go_ret
      exact ⟨rbool HE.out.symm, HBWj.out⟩
end Go.Proofs.YtbiehpjhhopjaaaGreat
