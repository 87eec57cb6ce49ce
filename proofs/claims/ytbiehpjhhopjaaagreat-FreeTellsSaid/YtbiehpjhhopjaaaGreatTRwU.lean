/-
 Whether a plan is sound, as the references have it, walked. (Written by wip/tools/gen_rwt.py.)
 States that may be, as the references walk them: the plain steps.
-/
import Derived.Test.YtbiehpjhhopjaaaGreatTRwS
import Derived.Test.YtbiehpjhhopjaaaGreatTRwR
set_option linter.unusedVariables false
set_option linter.unusedSimpArgs false
namespace Go.Proofs.YtbiehpjhhopjaaaGreat
open Go.RowKit Go.Sort
set_option maxRecDepth 100000 in
set_option maxHeartbeats 4000000 in
theorem refPlan (p : Pl) (s q gg rr : Value) (w : World) (hp : PlM w s q gg rr p) (hf : p.Fit) :
  Calls Tryz.prog 62 #[plV p s q gg rr] w (BoolPost w (decide (PlanSound p))) := by
 have HE : Hid (∀ W, Below w.heap.size w W → Calls Tryz.prog 129 #[plV p s q gg rr] W (BoolPost W (decide (PlanMay p)))) := fun W hb => refMay p s q gg rr W (hp.below hb) hf
 have HS : Hid (PlanMay p → ∀ k (hk : k < p.rts.length) c5 c6 c7 W, Below w.heap.size w W → RtM W c5 c6 c7 p.rts[k] → Calls Tryz.prog 130 #[plV p s q gg rr, .agg #[.int .i64 p.rts[k].id, .int .i64 p.rts[k].entry, .int .i64 p.rts[k].exit, c5, c6, c7, .int .i64 p.rts[k].timer]] W (BoolPost W (decide (SoundR p p.rts[k])))) := fun hPM k hk c5 c6 c7 W hb hr => refSound p s q gg rr k hk c5 c6 c7 W (hp.below hb) hf hPM hr
 have HIF := Lib.hid (sound_iff p)
 obtain ⟨a1, k1, rfl, -⟩ := hp.secs
 obtain ⟨a2, k2, rfl, -⟩ := hp.pts
 obtain ⟨a3, k3, rfl, -⟩ := hp.sigs
 obtain ⟨a4, k4, rfl, g4⟩ := hp.rts
 have HRT : Hid (∀ W, Below w.heap.size w W → SlA W 7 RRt a4 k4 p.rts) := fun W hb => g4.below keeps_rt hb
 have LR := hf.rts
 clear hp hf g4
 have HD : Hid (decide (PlanSound p) = true ↔ PlanSound p) := decide_eq_true_iff
 have HD0 : Hid (¬ PlanSound p → decide (PlanSound p) = false) := fun h => decide_eq_false h
 generalize decide (PlanSound p) = D at *
 unfold plV at *
 go_enter Tryz.func62, Tryz.ntmps62
 go_upto_region 1 with fail
 generalize hW0 : World.alloc _ _ = W0
 have K0 : Hid (Below w.heap.size w W0) := by show Below _ _ _; rw [← hW0]; exact (Below.refl _ _).alloc (Nat.le_refl _) _
 have HP0 : Hid (W0.heap[w.heap.size]? = some (.cells #[.int .i64 p.ver, .int .i64 p.par, .slice a1 p.secs.length k1, .slice a2 p.pts.length k2, .slice a3 p.sigs.length k3, .slice a4 p.rts.length k4] 28 (0, 0))) := by show _ = _; rw [← hW0]; exact heap_alloc_new _ _
 clear hW0
 obtain ⟨pp0, pp1, pp2, pp3, pp4, pp5⟩ := cells6 (HP0.out)
 have lb := block_lt_of_cell pp0
 by_cases hPM : PlanMay p
 ·have hb1 : decide (PlanMay p) = true := decide_eq_true hPM
  rw [hb1] at HE
  have HS2 := Lib.hid (HS.out hPM)
  have HPM := Lib.hid hPM
  clear hb1 hPM HS
  go_wp2_with fail
  refine (HE.out W0 K0.out).mono ?_
  rintro e W1 ⟨rfl, hb⟩
  have HB1 : Hid (Below W0.heap.size W0 W1) := hb
  clear hb pp0 pp1 pp2 pp3 pp4 pp5 lb HE
  go_wp2_with fail
  go_loopg [3] p.rts.length (fun u i wr => ∃ (k : Nat), k ≤ p.rts.length ∧ u = p.rts.length - k ∧ i = .int .i64 k ∧ Below W0.heap.size W0 wr ∧ (∀ j (hj : j < p.rts.length), j < k → SoundR p p.rts[j]))
  case atStart => exact ⟨0, by omega, by omega, rfl, HB1.out, fun j _ hj => absurd hj (Nat.not_lt_zero _)⟩
  case round =>
   obtain ⟨k, hk, rfl, rfl, hb, hno⟩ := hrel
   have bx0 := (hb.block _ (lt_of_block HP0.out)).trans HP0.out
   have HB := Lib.hid hb
   have HN := Lib.hid hno
   have KW : Hid (Below w.heap.size w wr) := K0.out.trans (hb.mono K0.out.size)
   obtain ⟨pp0, pp1, pp2, pp3, pp4, pp5⟩ := cells6 (bx0)
   have lb := block_lt_of_cell pp0
   clear hb hno bx0
   by_cases hlt : k < p.rts.length
   ·have hd : decide ((k : Int) < (p.rts.length : Int)) = true := by simp; omega
    obtain ⟨g, off, vs, rfl, hvl, hvc, hvr⟩ := (HRT.out wr KW.out).at_ k hlt
    obtain ⟨c5, c6, c7, rfl, hr⟩ := hvr
    have x0 := hvc 0 (by simp)
    have x1 := hvc 1 (by simp)
    have x2 := hvc 2 (by simp)
    have x3 := hvc 3 (by simp)
    have x4 := hvc 4 (by simp)
    have x5 := hvc 5 (by simp)
    have x6 := hvc 6 (by simp)
    simp only [Nat.add_zero, List.getElem_cons_zero, List.getElem_cons_succ] at x0 x1 x2 x3 x4 x5 x6
    have lx := block_lt_of_cell x0
    have HRr := Lib.hid hr
    clear hvl hvc hr
    have c0 : (0 : Int) ≤ (k : Int) := by omega
    have c1 : (k : Int) < (p.rts.length : Int) := by omega
    go_upto_region 6 with fail
    go_still_tail 6, (by kernel_rfl)
    change wpList _ _ _ _ _ wr.drew
    generalize hWD : wr.drew = WD
    have hbD : Below wr.heap.size wr WD := by rw [← hWD]; exact (Below.refl _ _).drew
    have HBD : Hid (Below W0.heap.size W0 WD) := HB.out.trans (hbD.mono HB.out.size)
    have HCk := Lib.hid (HS2.out k hlt c5 c6 c7 WD (K0.out.trans (HBD.out.mono K0.out.size)) (HRr.out.below hbD))
    clear hWD hbD pp0 pp1 pp2 pp3 pp4 pp5 lb x0 x1 x2 x3 x4 x5 x6 lx HB KW
    by_cases hS : SoundR p p.rts[k]
    ·rw [decide_eq_true hS] at HCk
     have HN2 : Hid (∀ j (hj : j < p.rts.length), j < k + 1 → SoundR p p.rts[j]) := fun j h1 h2 => by
      by_cases hjk : j = k
      ·subst hjk; exact hS
      ·exact HN.out j h1 (by omega)
     clear hS
     go_wp2_with fail
     refine HCk.out.mono ?_
     rintro e W2 ⟨rfl, hb2⟩
     have HB2 : Hid (Below W0.heap.size W0 W2) := HBD.out.trans (hb2.mono HBD.out.size)
     clear hb2 HCk
     go_wp2_with fail
     go_roundg (p.rts.length - (k + 1))
     case measure => go_light; omega
     case rel => go_light; exact ⟨k + 1, by omega, by omega, by go_num, HB2.out, HN2.out⟩
    ·rw [decide_eq_false hS] at HCk
     have HV := Lib.hid (HD0.out fun h => hS ((HIF.out.1 h).2 k hlt))
     clear hS
     go_wp2_with fail
     refine HCk.out.mono ?_
     rintro e W2 ⟨rfl, hb2⟩
     have HB2 : Hid (Below W0.heap.size W0 W2) := HBD.out.trans (hb2.mono HBD.out.size)
     clear hb2 HCk
     go_wp2_with fail
     go_ret
     exact ⟨by rw [HV.out]; rfl, K0.out.trans (HB2.out.mono K0.out.size)⟩
   ·obtain rfl : k = p.rts.length := by omega
    have hd : decide ((p.rts.length : Int) < (p.rts.length : Int)) = false := by simp
    have HV : Hid (D = true) := HD.out.2 (HIF.out.2 ⟨HPM.out, fun j hj => HN.out j hj hj⟩)
    go_wp2_with fail
    go_ret
    exact ⟨by rw [HV.out]; rfl, KW.out⟩
 ·have hb1 : decide (PlanMay p) = false := decide_eq_false hPM
  rw [hb1] at HE
  have HV := Lib.hid (HD0.out fun h => hPM (HIF.out.1 h).1)
  clear hb1 hPM HS
  go_wp2_with fail
  refine (HE.out W0 K0.out).mono ?_
  rintro e W1 ⟨rfl, hb⟩
  have KW : Hid (Below w.heap.size w W1) := K0.out.trans (hb.mono K0.out.size)
  clear hb
  go_wp2_with fail
  go_ret
  exact ⟨by rw [HV.out]; rfl, KW.out⟩
end Go.Proofs.YtbiehpjhhopjaaaGreat
namespace Go.Proofs.YtbiehpjhhopjaaaGreat
open Go.RowKit
theorem nodup_len {α : Type} [DecidableEq α] : ∀ {P L : List α}, P.Nodup → (∀ a ∈ P, a ∈ L) → P.length ≤ L.length
 | [], L, _, _ => Nat.zero_le _
 | a :: P, L, hn, hs => by
  have ha := hs a List.mem_cons_self
  have hp := List.nodup_cons.1 hn
  have ih := nodup_len (P := P) (L := L.erase a) hp.2 (fun b hb => (List.mem_erase_of_ne (by intro e; subst e; exact hp.1 hb)).2 (hs b (List.mem_cons_of_mem _ hb)))
  rw [List.length_erase_of_mem ha] at ih
  have := List.length_pos_of_mem ha
  rw [List.length_cons]
  omega
theorem secs_point {p : Pl} (hPM : PlanMay p) {s : Sec} (hs : s ∈ p.secs) (h : s.pt ≠ 0) : isOne Pt.id p.pts s.pt = true := by
 have hP : PtsMay p := hPM.2.1.1
 have hN : (p.pts.map Pt.id).Nodup := by
  unfold List.Nodup
  rw [List.pairwise_map, List.pairwise_iff_getElem]
  intro i j hi hj hij
  have := rise_lt hP.1.1 hj hij
  omega
 by_cases hc : isOne Pt.id p.pts s.pt = true
 ·exact hc
 have hno : ∀ x ∈ p.pts, x.id ≠ s.pt := fun x hx e => hc (by unfold isOne; rw [List.any_eq_true]; exact ⟨x, hx, decide_eq_true e⟩)
 have hcnt := hP.2.1
 unfold cntPt at hcnt
 rw [List.take_length] at hcnt
 have hl := nodup_len (P := s.pt :: p.pts.map Pt.id) (L := (p.secs.filter fun s => decide (s.pt ≠ 0)).map Sec.pt)
  (List.nodup_cons.2 ⟨fun hm => by obtain ⟨x, hx, e⟩ := List.mem_map.1 hm; exact hno x hx e, hN⟩)
  (fun a ha => by
   rcases List.mem_cons.1 ha with rfl | ha
   ·exact List.mem_map.2 ⟨s, List.mem_filter.2 ⟨hs, decide_eq_true h⟩, rfl⟩
   ·obtain ⟨x, hx, rfl⟩ := List.mem_map.1 ha
    obtain ⟨i, hi, rfl⟩ := List.getElem_of_mem hx
    obtain ⟨s', hs', _, e⟩ := hP.2.2 i hi
    have := (hP.1.1 i hi hi).1
    exact List.mem_map.2 ⟨s', List.mem_filter.2 ⟨hs', decide_eq_true (by omega)⟩, e⟩)
 rw [List.length_cons, List.length_map, List.length_map, hcnt] at hl
 omega
theorem atSec_mem {p : Pl} {r : Rt} {i : Nat} (h : (atSec p r i).pt ≠ 0) : atSec p r i ∈ p.secs := by
 unfold atSec oneOf at *
 cases hf : p.secs.find? (fun x => decide (x.id = (allOf r).getD i 0)) with
 | none => rw [hf] at h; exact absurd rfl h
 | some x => exact List.mem_of_find?_eq_some hf
theorem asksR_there {p : Pl} (hPM : PlanMay p) (r : Rt) (ins outs : List Int) : ∀ i, ∀ a ∈ asksR p r ins outs i, isOne Pt.id p.pts a.pt = true
 | 0, a, h => by simp [asksR] at h
 | i + 1, a, h => by
  rw [asksR] at h
  rcases List.mem_append.1 h with h | h
  ·exact asksR_there hPM r ins outs i a h
  ·unfold askAtR at h
   by_cases hz : (atSec p r i).pt = 0
   ·rw [if_pos hz] at h; simp at h
   ·rw [if_neg hz] at h
    by_cases hq : 0 < (if 0 ≤ outs.getD i 0 then lieR (atSec p r i) (ins.getD i 0) (outs.getD i 0) else ins.getD i 0)
    ·rw [if_pos hq, List.mem_singleton] at h
     rw [h]
     exact secs_point hPM (atSec_mem hz) hz
    ·rw [if_neg hq] at h; simp at h
theorem asksL_there {p : Pl} (hPS : PlanSound p) {k : Nat} (hk : k < p.rts.length) (l : Lk) : ∀ a ∈ asksL (wyOf p p.rts[k]) l, isOne Pt.id p.pts a.pt = true := by
 intro a ha
 obtain ⟨x, hx⟩ := sound_end hPS hk
 have hPM := ((sound_iff p).1 hPS).1
 rw [asksL_made hPM hk hx] at ha
 unfold asksRR at ha
 split at ha
 ·simp at ha
 ·have h1 := (List.mem_filter.1 ha).1
  unfold madeAsks at h1
  rcases List.mem_append.1 h1 with h1 | h1
  ·exact asksR_there hPM _ _ _ _ a h1
  ·obtain ⟨f, hf, rfl⟩ := List.mem_map.1 h1
   obtain ⟨i, hi, rfl⟩ := List.getElem_of_mem hf
   exact ((may_rt hPM hk).2.2 i hi hi).1
theorem call_at {p : Pl} {st : St} (hA : StA p st) {n : Int} (h : isOne Pt.id p.pts n = true) : ∃ i, ∃ hi : i < st.sws.length, fix (fun x => decide (x.id = n)) p.pts = (i : Int) ∧ st.sws[i].call = callOf st.sws n := by
 have hL := hA.2.1
 rcases fix_cases (fun x => decide (x.id = n)) p.pts with ⟨_, h2⟩ | ⟨k, hk, e, h1, h2⟩
 ·unfold isOne at h
  rw [List.any_eq_true] at h
  obtain ⟨x, hx, e⟩ := h
  obtain ⟨i, hi, rfl⟩ := List.getElem_of_mem hx
  have := h2 i hi
  rw [this] at e
  cases e
 ·have hk' : k < st.sws.length := by rw [hL.1]; exact hk
  have hid : ∀ j (hj : j < st.sws.length) (hj' : j < p.pts.length), st.sws[j].id = p.pts[j].id := fun j hj hj' => (hL.2 j hj hj' hj).1
  refine ⟨k, hk', e, ?_⟩
  unfold callOf
  rw [(one_some (f := Sw.id) (z := ⟨0, 0, 0⟩) (n := n) hk' (by rw [hid k hk' hk]; exact h1) fun j hj hjk => by
   rw [hid j hj (by omega)]
   exact h2 j (by omega) hjk).1]
theorem IntRow.other {W : World} {g n : Nat} {T : TypeId} {f : Nat → Int} (h : IntRow W g n T f) {a : Addr} {u : Value} (hne : g ≠ a.block) : IntRow (W.setCell a u) g n T f := by
 obtain ⟨cur, hc, hs, hx⟩ := h
 exact ⟨cur, (Below.heap_setCell W a u g hne).trans hc, hs, hx⟩
theorem BoolRow.other {W : World} {g n : Nat} {T : TypeId} {f : Nat → Bool} (h : BoolRow W g n T f) {a : Addr} {u : Value} (hne : g ≠ a.block) : BoolRow (W.setCell a u) g n T f := by
 obtain ⟨cur, hc, hs, hx⟩ := h
 exact ⟨cur, (Below.heap_setCell W a u g hne).trans hc, hs, hx⟩
theorem holdR_app : ∀ (l m : List Int) (H : Nat → Bool), holdR (l ++ m) H = (holdR l H).bind (holdR m)
 | [], m, H => rfl
 | s :: r, m, H => by
  rw [List.cons_append, holdR, holdR]
  by_cases h : H s.toNat = true
  ·rw [if_pos h, if_pos h]; rfl
  ·rw [if_neg h, if_neg h]; exact holdR_app r m _
theorem holdR_next {l : List Int} {m : Nat} (hm : m < l.length) {H G : Nat → Bool} (h : holdR (l.take m) H = some G) : (G l[m].toNat = true → holdR l H = none) ∧ (G l[m].toNat = false → holdR (l.take (m + 1)) H = some (putB G l[m].toNat)) := by
 constructor
 ·intro hg
  have e := holdR_app (l.take m) (l.drop m) H
  rw [List.take_append_drop, h] at e
  rw [e]
  show holdR (l.drop m) G = none
  rw [List.drop_eq_getElem_cons hm, holdR, if_pos hg]
 ·intro hg
  rw [List.take_succ_eq_append_getElem hm, holdR_app, h]
  show holdR [l[m]] G = _
  rw [holdR, if_neg (by rw [hg]; decide), holdR]
theorem askR_app (call : Int → Int) : ∀ (l m : List Ask) (A : Nat → Int), askR call (l ++ m) A = (askR call l A).bind (askR call m)
 | [], m, A => rfl
 | a :: r, m, A => by
  rw [List.cons_append, askR, askR]
  by_cases h : (A a.pt.toNat ≠ 0 ∧ A a.pt.toNat ≠ a.lie) ∨ call a.pt ≠ a.lie
  ·rw [if_pos h, if_pos h]; rfl
  ·rw [if_neg h, if_neg h]; exact askR_app call r m _
theorem askR_next {call : Int → Int} {l : List Ask} {m : Nat} (hm : m < l.length) {A G : Nat → Int} (h : askR call (l.take m) A = some G) : (((G l[m].pt.toNat ≠ 0 ∧ G l[m].pt.toNat ≠ l[m].lie) ∨ call l[m].pt ≠ l[m].lie) → askR call l A = none) ∧ (¬ ((G l[m].pt.toNat ≠ 0 ∧ G l[m].pt.toNat ≠ l[m].lie) ∨ call l[m].pt ≠ l[m].lie) → askR call (l.take (m + 1)) A = some (putI G l[m].pt.toNat l[m].lie)) := by
 constructor
 ·intro hg
  have e := askR_app call (l.take m) (l.drop m) A
  rw [List.take_append_drop, h] at e
  rw [e]
  show askR call (l.drop m) G = none
  rw [List.drop_eq_getElem_cons hm, askR, if_pos hg]
 ·intro hg
  rw [List.take_succ_eq_append_getElem hm, askR_app, h]
  show askR call [l[m]] G = _
  rw [askR, if_neg hg, askR]
theorem lks_none {p : Pl} {st : St} {k : Nat} (h : lksR p st k = none) : ∀ n, k ≤ n → lksR p st n = none
 | 0, hn => by
  obtain rfl : k = 0 := by omega
  exact h
 | n + 1, hn => by
  rcases Nat.lt_or_ge n k with h' | h'
  ·obtain rfl : k = n + 1 := by omega
   exact h
  ·rw [lksR, lks_none h n h']; rfl
theorem lks_hold_none {p : Pl} {st : St} {k : Nat} {x : (Nat → Bool) × (Nat → Int)} (h : lksR p st k = some x) (hk : k < st.lks.length) (hh : holdR (heldL (wyOf p (p.rts.getD k zRt)) (st.lks.getD k zLk)) x.1 = none) : lksR p st st.lks.length = none := by
 refine lks_none (k := k + 1) ?_ _ hk
 rw [lksR, h]
 show lkStep p st k x = none
 unfold lkStep
 rw [hh]
 rfl
theorem lks_ask_none {p : Pl} {st : St} {k : Nat} {x : (Nat → Bool) × (Nat → Int)} {G : Nat → Bool} (h : lksR p st k = some x) (hk : k < st.lks.length) (hh : holdR (heldL (wyOf p (p.rts.getD k zRt)) (st.lks.getD k zLk)) x.1 = some G) (ha : askR (callOf st.sws) (asksL (wyOf p (p.rts.getD k zRt)) (st.lks.getD k zLk)) x.2 = none) : lksR p st st.lks.length = none := by
 refine lks_none (k := k + 1) ?_ _ hk
 rw [lksR, h]
 show lkStep p st k x = none
 unfold lkStep
 rw [hh]
 show (askR _ _ _).map _ = none
 rw [ha]
 rfl
theorem lks_next {p : Pl} {st : St} {k : Nat} {x : (Nat → Bool) × (Nat → Int)} {G : Nat → Bool} {A : Nat → Int} (h : lksR p st k = some x) (hh : holdR (heldL (wyOf p (p.rts.getD k zRt)) (st.lks.getD k zLk)) x.1 = some G) (ha : askR (callOf st.sws) (asksL (wyOf p (p.rts.getD k zRt)) (st.lks.getD k zLk)) x.2 = some A) : lksR p st (k + 1) = some (G, A) := by
 rw [lksR, h]
 show lkStep p st k x = _
 unfold lkStep
 rw [hh]
 show (askR _ _ _).map _ = _
 rw [ha]
 rfl
def StSound (p : Pl) (st : St) : Prop := PlanSound p ∧ StMayR p st
instance (p : Pl) (st : St) : Decidable (StSound p st) := by unfold StSound; exact inferInstance
theorem stSound_no {p : Pl} {st : St} (h : lksR p st st.lks.length = none) : decide (StSound p st) = false := decide_eq_false fun h2 => by
 have := h2.2.2
 rw [h] at this
 cases this
theorem stSound_yes {p : Pl} {st : St} (h1 : PlanSound p) (h2 : StA p st) {x : (Nat → Bool) × (Nat → Int)} (h : lksR p st st.lks.length = some x) : decide (StSound p st) = true := decide_eq_true ⟨h1, h2, by rw [h]; rfl⟩
end Go.Proofs.YtbiehpjhhopjaaaGreat
