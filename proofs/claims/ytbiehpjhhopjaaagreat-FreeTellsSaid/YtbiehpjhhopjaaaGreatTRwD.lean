/-
 A route's sections, and the references' word on a route, walked. (Written by wip/tools/gen_rwd.py.)
-/
import Derived.Test.YtbiehpjhhopjaaaGreatTRwC
set_option linter.unusedVariables false
set_option linter.unusedSimpArgs false
namespace Go.Proofs.YtbiehpjhhopjaaaGreat
open Go.RowKit Go.Sort
def OwnPost (w : World) (l : List Int) (e : Ending) (w' : World) : Prop := ∃ a c, e = .returned (.slice a l.length c) ∧ IntOwn w' w.heap.size (.slice a l.length c) l ∧ Below w.heap.size w w'
theorem intOwn_nil (w : World) (B : Nat) : IntOwn w B (.slice none 0 0) [] := World.ownsRow_nil w B 3 1
set_option maxRecDepth 100000 in
set_option maxHeartbeats 2000000 in
theorem refSections (r : Rt) (p1 o1 f1 : Option Addr) (p3 o3 f3 : Nat) (w : World) (hr : RtM w (.slice p1 r.path.length p3) (.slice o1 r.over.length o3) (.slice f1 r.fl.length f3) r) (hl : r.path.length + r.over.length ≤ 1000) :
  Calls Tryz.prog 312 #[.agg #[.int .i64 r.id, .int .i64 r.entry, .int .i64 r.exit, .slice p1 r.path.length p3, .slice o1 r.over.length o3, .slice f1 r.fl.length f3, .int .i64 r.timer]] w (OwnPost w (allOf r)) := by
 have HP : Hid (∀ W, Below w.heap.size w W → IL W p1 r.path.length r.path) := fun W hb => by
  obtain ⟨a, n, c, e, h⟩ := hr.path.below hb
  cases e
  exact h
 have HO : Hid (∀ W, Below w.heap.size w W → IL W o1 r.over.length r.over) := fun W hb => by
  obtain ⟨a, n, c, e, h⟩ := hr.over.below hb
  cases e
  exact h
 clear hr
 go_enter Tryz.func312, Tryz.ntmps312
 go_upto_region 1 with fail
 generalize hW0 : World.alloc _ _ = W0
 have K0 : Hid (Below w.heap.size w W0) := by show Below _ _ _; rw [← hW0]; exact (Below.refl _ _).alloc (Nat.le_refl _) _
 have s0 : W0.heap.size = w.heap.size + 1 := by rw [← hW0]; simp
 have y3 : W0.cell? ⟨w.heap.size, 3, none⟩ = some (.slice p1 r.path.length p3) := by rw [← hW0]; simp
 have y4 : Hid (W0.cell? ⟨w.heap.size, 4, none⟩ = some (.slice o1 r.over.length o3)) := by show _ = _; rw [← hW0]; simp
 have HS0 := Lib.hid s0
 clear hW0 s0
 have hle := HS0.out
 have hlen : ([] : List Int).length + r.path.length ≤ 1000 := by simp; omega
 have hbs : W0.heap.size ≤ W0.heap.size := Nat.le_refl _
 go_upto_region 3 with (at_builtin; refine wpList_append_ints rfl _ _ rfl W0.heap.size (.slice none 0 0) [] rfl (intOwn_nil _ _) p1 p3 r.path rfl (HP.out _ K0.out) hlen hbs ?_; intro a3 c3 w3 hown hgr)
 have hb3 : Below W0.heap.size W0 w3 := grown_below (intOwn_nil W0 W0.heap.size) (Nat.le_refl _) (Nat.le_refl _) hgr
 rw [List.nil_append] at hown
 have K3 : Hid (Below w.heap.size w w3) := K0.out.trans (hb3.mono (by omega))
 have z4 : w3.cell? ⟨w.heap.size, 4, none⟩ = some (.slice o1 r.over.length o3) := ccell hb3 y4.out
 have HO3 := Lib.hid hown
 have hbs3 : W0.heap.size ≤ w3.heap.size := hb3.size
 clear hown hgr hb3 y3 hbs hlen
 go_wp2_with (at_builtin; refine wpList_append_ints rfl _ _ rfl W0.heap.size (.slice a3 r.path.length c3) r.path rfl HO3.out o1 o3 r.over rfl (HO.out _ K3.out) hl hbs3 ?_; intro a4 c4 w4 hown4 hgr4)
 have hb4 : Below W0.heap.size w3 w4 := grown_below HO3.out (Nat.le_refl _) hbs3 hgr4
 go_ret
 refine ⟨a4, c4, ?_, own_base hown4 (by omega), K3.out.trans (hb4.mono (by omega))⟩
 rw [all_len]
 rfl
def AtR (p : Pl) (e : Int) (l : List Int) (j : Nat) (h : j < l.length) : Prop := (∃ m, ∃ hm : m < p.secs.length, fix (fun x => decide (x.id = l[j])) p.secs = (m : Int)) ∧ l[j] ≠ e ∧ ∀ m (hm : m < j), l[m] ≠ l[j]
def FlR (p : Pl) (l : List Fl) (j : Nat) (h : j < l.length) : Prop := (∃ m, ∃ hm : m < p.pts.length, fix (fun x => decide (x.id = l[j].pt)) p.pts = (m : Int)) ∧ (∀ h' : 0 < j, l[j - 1].pt < l[j].pt) ∧ 1 ≤ l[j].lie ∧ l[j].lie ≤ 2
theorem fixp_of {α : Type} {f : α → Int} {l : List α} {n : Int} : isOne f l n = true ↔ ∃ m, ∃ hm : m < l.length, fix (fun x => decide (f x = n)) l = (m : Int) := by
 constructor
 ·intro h
  rcases fix_cases (fun x => decide (f x = n)) l with ⟨_, h2⟩ | ⟨k, hk, e, h1, _⟩
  ·unfold isOne at h
   rw [List.any_eq_true] at h
   obtain ⟨x, hx, e⟩ := h
   obtain ⟨i, hi, rfl⟩ := List.getElem_of_mem hx
   rw [h2 i hi] at e
   cases e
  ·exact ⟨k, hk, e⟩
 ·rintro ⟨m, hm, e⟩
  rcases fix_cases (fun x => decide (f x = n)) l with ⟨e', _⟩ | ⟨k, hk, e', h1, _⟩
  ·rw [e'] at e; omega
  ·unfold isOne
   rw [List.any_eq_true]
   exact ⟨l[k], List.getElem_mem _, h1⟩
theorem rtMay_ref {p : Pl} (hA : SecsA p.secs p.secs.length) {r : Rt} {k : Nat} (hk : k < p.sigs.length) (hF : fix (fun x => decide (x.id = r.entry)) p.sigs = (k : Int)) :
  RtMay (endsOf p.secs p.secs.length) p.sigs p.pts r ↔ RtHead p.sigs r ∧ (∀ j (h : j < (allOf r).length), AtR p p.sigs[k].sec (allOf r) j h) ∧ ∀ j (h : j < r.fl.length), FlR p r.fl j h := by
 have he : entSec p.sigs r = p.sigs[k].sec := by
  unfold entSec
  rcases fix_cases (fun x : Sg => decide (x.id = r.entry)) p.sigs with ⟨e, _⟩ | ⟨m, hm, e, h1, h2⟩
  ·rw [e] at hF; omega
  ·have : m = k := by rw [e] at hF; omega
   subst this
   rw [(one_some hm h1 h2).1]
 unfold RtMay
 rw [he]
 refine and_congr Iff.rfl (and_congr ?_ ?_)
 ·constructor
  ·intro h j hj
   obtain ⟨h1, h2, h3⟩ := h j hj hj
   exact ⟨fixp_of.1 (there_one h1), h2, h3⟩
  ·intro h j hj _
   obtain ⟨h1, h2, h3⟩ := h j hj
   exact ⟨one_there hA (fixp_of.2 h1), h2, h3⟩
 ·constructor
  ·intro h j hj
   obtain ⟨h1, h2, h3⟩ := h j hj hj
   exact ⟨fixp_of.1 h1, h2, by omega, by omega⟩
  ·intro h j hj _
   obtain ⟨h1, h2, h3, h4⟩ := h j hj
   exact ⟨fixp_of.2 h1, h2, by omega⟩
def RtC1 (l : List Sg) (r : Rt) : Prop := isOne Sg.id l r.entry = true ∧ (r.exit ≠ 0 → isOne Sg.id l r.exit = true ∧ r.exit ≠ r.entry) ∧ (r.exit = 0 → r.over.length = 0)
instance (l : List Sg) (r : Rt) : Decidable (RtC1 l r) := by unfold RtC1; exact inferInstance
theorem below_same {B : Nat} {w w' : World} (h : w = w') : Below B w w' := by subst h; exact Below.refl _ _
set_option maxRecDepth 100000 in
set_option maxHeartbeats 16000000 in
theorem refRoute (p : Pl) (s q gg rr : Value) (r : Rt) (c5 c6 c7 : Value) (w : World) (hp : PlM w s q gg rr p) (hf : p.Fit) (hA : SecsA p.secs p.secs.length) (hr : RtM w c5 c6 c7 r) (hrf : r.fit) :
  Calls Tryz.prog 215 #[plV p s q gg rr, .agg #[.int .i64 r.id, .int .i64 r.entry, .int .i64 r.exit, c5, c6, c7, .int .i64 r.timer]] w (BoolPost w (decide (RtMay (endsOf p.secs p.secs.length) p.sigs p.pts r))) := by
 have HH0 : Hid (¬ RtHead p.sigs r → decide (RtMay (endsOf p.secs p.secs.length) p.sigs p.pts r) = false) := fun h => by
  rw [decide_eq_false_iff_not]; exact fun hh => h hh.1
 have HREF : Hid (∀ k (hk : k < p.sigs.length), fix (fun x => decide (x.id = r.entry)) p.sigs = (k : Int) → (RtMay (endsOf p.secs p.secs.length) p.sigs p.pts r ↔ RtHead p.sigs r ∧ (∀ j (h : j < (allOf r).length), AtR p p.sigs[k].sec (allOf r) j h) ∧ ∀ j (h : j < r.fl.length), FlR p r.fl j h)) := fun k hk h => rtMay_ref hA hk h
 have HB : Hid (∀ b : Bool, (b = true ↔ RtMay (endsOf p.secs p.secs.length) p.sigs p.pts r) → decide (RtMay (endsOf p.secs p.secs.length) p.sigs p.pts r) = b) := fun b h => by rw [Bool.eq_iff_iff, h, decide_eq_true_iff]
 have HH1 : Hid (RtHead p.sigs r ↔ RtC1 p.sigs r ∧ 1 ≤ r.path.length ∧ r.path.length ≤ 6 ∧ r.over.length ≤ 2 ∧ r.fl.length ≤ 3 ∧ 1 ≤ r.timer ∧ r.timer ≤ 9) := by
  show _ ↔ _
  unfold RtHead RtC1
  constructor
  ·rintro ⟨h1, h2, h3, h4⟩; exact ⟨⟨h1, h2, h3⟩, h4⟩
  ·rintro ⟨⟨h1, h2, h3⟩, h4⟩; exact ⟨h1, h2, h3, h4⟩
 generalize decide (RtMay (endsOf p.secs p.secs.length) p.sigs p.pts r) = B at *
 obtain ⟨p1, pn, p3, rfl, ip⟩ := hr.path
 obtain ⟨o1, on, o3, rfl, io⟩ := hr.over
 obtain rfl := ip.len
 obtain rfl := io.len
 obtain ⟨f1, f3, rfl, hfl⟩ := hr.fl
 have HFL : Hid (∀ W, Below w.heap.size w W → SlA W 2 RFl f1 f3 r.fl) := fun W hb => hfl.below keeps_fl hb
 have HRM : Hid (∀ W, Below w.heap.size w W → RtM W (.slice p1 r.path.length p3) (.slice o1 r.over.length o3) (.slice f1 r.fl.length f3) r) := fun W hb => hr.below hb
 obtain ⟨a1, k1, rfl, h1⟩ := hp.secs
 obtain ⟨a2, k2, rfl, h2⟩ := hp.pts
 obtain ⟨a3, k3, rfl, h3⟩ := hp.sigs
 obtain ⟨a4, k4, rfl, -⟩ := hp.rts
 have HSE : Hid (∀ W, Below w.heap.size w W → SlA W 3 RSec a1 k1 p.secs) := fun W hb => h1.below keeps_sec hb
 have HPT : Hid (∀ W, Below w.heap.size w W → SlA W 2 RPt a2 k2 p.pts) := fun W hb => h2.below keeps_pt hb
 have HSG : Hid (∀ W, Below w.heap.size w W → SlA W 3 RSg a3 k3 p.sigs) := fun W hb => h3.below keeps_sg hb
 have LS := Lib.hid hf.secs
 have LP := Lib.hid hf.pts
 have LG := Lib.hid hf.sigs
 have hrf1 := hrf.1
 have hrf2 := hrf.2.1
 have hrf3 := hrf.2.2
 clear hp hf hA hr hrf hfl h1 h2 h3 ip io
 unfold plV
 go_enter Tryz.func215, Tryz.ntmps215
 go_upto_region 1 with fail
 generalize hW0 : World.alloc _ _ = W0
 have K0 : Hid (Below w.heap.size w W0) := by show Below _ _ _; rw [← hW0]; exact ((Below.refl _ _).alloc (Nat.le_refl _) _).alloc (by simp) _
 have BX0 : Hid (W0.heap[w.heap.size]? = some (.cells #[.int .i64 p.ver, .int .i64 p.par, .slice a1 p.secs.length k1, .slice a2 p.pts.length k2, .slice a3 p.sigs.length k3, .slice a4 p.rts.length k4] 28 (0, 0)) ∧ W0.heap[w.heap.size + 1]? = some (.cells #[.int .i64 r.id, .int .i64 r.entry, .int .i64 r.exit, .slice p1 r.path.length p3, .slice o1 r.over.length o3, .slice f1 r.fl.length f3, .int .i64 r.timer] 102 (0, 0))) := by
  show _ ∧ _
  rw [← hW0]
  exact ⟨(heap_alloc_old _ _ (by simp)).trans (heap_alloc_new _ _), heap_alloc2_new _ _ _⟩
 clear hW0
 have pp4 : W0.cell? ⟨w.heap.size, 4, none⟩ = some (.slice a3 p.sigs.length k3) := (cell_of_row W0 _ 4 _ _ _ (BX0.out).1).trans rfl
 have rr1 : W0.cell? ⟨w.heap.size + 1, 1, none⟩ = some (.int .i64 r.entry) := (cell_of_row W0 _ 1 _ _ _ (BX0.out).2).trans rfl
 have rr2 : W0.cell? ⟨w.heap.size + 1, 2, none⟩ = some (.int .i64 r.exit) := (cell_of_row W0 _ 2 _ _ _ (BX0.out).2).trans rfl
 have rr4 : W0.cell? ⟨w.heap.size + 1, 4, none⟩ = some (.slice o1 r.over.length o3) := (cell_of_row W0 _ 4 _ _ _ (BX0.out).2).trans rfl
 have lb := block_lt_of_cell pp4
 have lr := block_lt_of_cell rr1
 have hsg := LG.out
 have HC1 : Hid (∀ b : Bool, (b = true ↔ ¬ RtC1 p.sigs r) → b = !decide (RtC1 p.sigs r)) := fun b h => by rw [Bool.eq_iff_iff, h]; simp
 have HIF : Hid (∀ n, isOne Sg.id p.sigs n = true ↔ ∃ m, ∃ hm : m < p.sigs.length, fix (fun x => decide (x.id = n)) p.sigs = (m : Int)) := fun n => fixp_of
 have HCD : Hid (RtC1 p.sigs r ↔ isOne Sg.id p.sigs r.entry = true ∧ (r.exit ≠ 0 → isOne Sg.id p.sigs r.exit = true ∧ r.exit ≠ r.entry) ∧ (r.exit = 0 → r.over.length = 0)) := Iff.rfl
 have HDC : Hid (decide (RtC1 p.sigs r) = true ↔ RtC1 p.sigs r) := decide_eq_true_iff
 generalize hC : decide (RtC1 p.sigs r) = D at *
 clear hC
 go_wp2_with fail
 refine (sgAt a3 k3 p.sigs r.entry W0 (HSG.out _ K0.out) hsg).mono ?_
 rintro e w' ⟨rfl, rfl⟩
 have hfc := Lib.hid (fix_cases (fun x : Sg => decide (x.id = r.entry)) p.sigs)
 generalize hF : fix (fun x : Sg => decide (x.id = r.entry)) p.sigs = F at *
 have HFF := Lib.hid hF
 clear hF
 have hfx := Lib.hid (fix_cases (fun x : Sg => decide (x.id = r.exit)) p.sigs)
 go_upto_region 2 with fail
 go_cut [48] from 16 to 48 (fun v wc => v = .bool (!D) ∧ wc = W0)
 case first =>
  rcases hfc.out with ⟨hF1, hF2⟩ | ⟨k, hk, hF1, hF2, hF3⟩
  ·subst hF1
   have u1 : decide ((-1 : Int) < 0) = true := by decide
   have HV := Lib.hid (HC1.out true (by rw [HCD.out]; simp only [true_iff]; rintro ⟨h1, _⟩; obtain ⟨m, hm, e⟩ := (HIF.out _).1 h1; rw [HFF.out] at e; omega))
   go_wp2_with fail
   go_meet
   case rel => exact ⟨by rw [HV.out], rfl⟩
  ·subst hF1
   have u1 : decide ((k : Int) < 0) = false := by simp
   have HE1 : Hid (isOne Sg.id p.sigs r.entry = true) := (HIF.out _).2 ⟨k, hk, HFF.out⟩
   by_cases hx : r.exit = 0
   ·have e1 : (r.exit != 0) = false := by simp [hx]
    have e2 : (r.exit == 0) = true := by simp [hx]
    by_cases ho : r.over.length = 0
    ·have o1' : ((r.over.length : Int) != 0) = false := by simp [ho]
     have HV := Lib.hid (HC1.out false (by rw [HCD.out]; simp only [Bool.false_eq_true, false_iff, Classical.not_not]; exact ⟨HE1.out, fun h => absurd hx h, fun _ => ho⟩))
     clear hx ho hF2 hF3
     go_wp2_with fail
     go_meet
     case rel => exact ⟨by rw [HV.out], rfl⟩
    ·have o1' : ((r.over.length : Int) != 0) = true := by simp [ho]
     have HV := Lib.hid (HC1.out true (by rw [HCD.out]; simp only [true_iff]; rintro ⟨_, _, h⟩; exact ho (h hx)))
     clear hx ho hF2 hF3
     go_wp2_with fail
     go_meet
     case rel => exact ⟨by rw [HV.out], rfl⟩
   ·have e1 : (r.exit != 0) = true := by simp [hx]
    have e2 : (r.exit == 0) = false := by simp [hx]
    have HX := Lib.hid hx
    clear hx hF2 hF3
    rcases hfx.out with ⟨hG1, hG2⟩ | ⟨k2', hk2, hG1, hG2, hG3⟩
    ·have HG := Lib.hid hG1
     clear hG1 hG2
     go_wp2_with fail
     refine (sgAt a3 k3 p.sigs r.exit W0 (HSG.out _ K0.out) hsg).mono ?_
     rintro e w' ⟨rfl, rfl⟩
     rw [HG.out]
     have u3 : decide ((-1 : Int) < 0) = true := by decide
     have HV := Lib.hid (HC1.out true (by rw [HCD.out]; simp only [true_iff]; rintro ⟨_, h, _⟩; obtain ⟨m, hm, e⟩ := (HIF.out _).1 (h HX.out).1; rw [HG.out] at e; omega))
     go_wp2_with fail
     go_meet
     case rel => exact ⟨by rw [HV.out], rfl⟩
    ·have HG := Lib.hid hG1
     clear hG1 hG2 hG3
     have u3 : decide ((k2' : Int) < 0) = false := by simp
     by_cases hxe : r.exit = r.entry
     ·have u4 : (r.exit == r.entry) = true := by rw [beq_iff_eq]; exact hxe
      have HV := Lib.hid (HC1.out true (by rw [HCD.out]; simp only [true_iff]; rintro ⟨_, h, _⟩; exact (h HX.out).2 hxe))
      clear hxe
      go_wp2_with fail
      refine (sgAt a3 k3 p.sigs r.exit W0 (HSG.out _ K0.out) hsg).mono ?_
      rintro e w' ⟨rfl, rfl⟩
      rw [HG.out]
      go_wp2_with fail
      go_meet
      case rel => exact ⟨by rw [HV.out], rfl⟩
     ·have u4 : (r.exit == r.entry) = false := by rw [beq_eq_false_iff_ne]; exact hxe
      have HV := Lib.hid (HC1.out false (by rw [HCD.out]; simp only [Bool.false_eq_true, false_iff, Classical.not_not]; exact ⟨HE1.out, fun _ => ⟨(HIF.out _).2 ⟨k2', hk2, HG.out⟩, hxe⟩, fun h => absurd h HX.out⟩))
      clear hxe
      go_wp2_with fail
      refine (sgAt a3 k3 p.sigs r.exit W0 (HSG.out _ K0.out) hsg).mono ?_
      rintro e w' ⟨rfl, rfl⟩
      rw [HG.out]
      go_wp2_with fail
      go_meet
      case rel => exact ⟨by rw [HV.out], rfl⟩
 case rest =>
  obtain ⟨rfl, hw⟩ := hcut
  obtain rfl := hw.symm
  clear hw
  clear pp4 rr2 rr4 lb hsg
  by_cases hc : RtC1 p.sigs r
  ·have hv : (!D) = false := by rw [HDC.out.2 hc]; rfl
   rw [hv]
   clear hv
   have rr3 : W0.cell? ⟨w.heap.size + 1, 3, none⟩ = some (.slice p1 r.path.length p3) := (cell_of_row W0 _ 3 _ _ _ (BX0.out).2).trans rfl
   have rr4 : W0.cell? ⟨w.heap.size + 1, 4, none⟩ = some (.slice o1 r.over.length o3) := (cell_of_row W0 _ 4 _ _ _ (BX0.out).2).trans rfl
   have rr5 : W0.cell? ⟨w.heap.size + 1, 5, none⟩ = some (.slice f1 r.fl.length f3) := (cell_of_row W0 _ 5 _ _ _ (BX0.out).2).trans rfl
   have rr6 : W0.cell? ⟨w.heap.size + 1, 6, none⟩ = some (.int .i64 r.timer) := (cell_of_row W0 _ 6 _ _ _ (BX0.out).2).trans rfl
   by_cases h1 : r.path.length < 1
   ·have t1 : decide ((r.path.length : Int) < 1) = true := by simp only [decide_eq_true_eq]; omega
    have HE := Lib.hid (HH0.out (fun hh => by have := HH1.out.1 hh; omega))
    clear h1
    go_wp2_with fail
    go_ret
    exact ⟨rbool HE.out.symm, K0.out⟩
   ·have t60 : decide ((r.path.length : Int) < 1) = false := by simp only [decide_eq_false_iff_not]; omega
    have H60 := Lib.hid h1
    clear h1
    by_cases h1 : 6 < r.path.length
    ·have t1 : decide ((6 : Int) < (r.path.length : Int)) = true := by simp only [decide_eq_true_eq]; omega
     have HE := Lib.hid (HH0.out (fun hh => by have := HH1.out.1 hh; omega))
     clear h1
     go_wp2_with fail
     go_ret
     exact ⟨rbool HE.out.symm, K0.out⟩
    ·have t50 : decide ((6 : Int) < (r.path.length : Int)) = false := by simp only [decide_eq_false_iff_not]; omega
     have H50 := Lib.hid h1
     clear h1
     by_cases h1 : 2 < r.over.length
     ·have t1 : decide ((2 : Int) < (r.over.length : Int)) = true := by simp only [decide_eq_true_eq]; omega
      have HE := Lib.hid (HH0.out (fun hh => by have := HH1.out.1 hh; omega))
      clear h1
      go_wp2_with fail
      go_ret
      exact ⟨rbool HE.out.symm, K0.out⟩
     ·have t40 : decide ((2 : Int) < (r.over.length : Int)) = false := by simp only [decide_eq_false_iff_not]; omega
      have H40 := Lib.hid h1
      clear h1
      by_cases h1 : 3 < r.fl.length
      ·have t1 : decide ((3 : Int) < (r.fl.length : Int)) = true := by simp only [decide_eq_true_eq]; omega
       have HE := Lib.hid (HH0.out (fun hh => by have := HH1.out.1 hh; omega))
       clear h1
       go_wp2_with fail
       go_ret
       exact ⟨rbool HE.out.symm, K0.out⟩
      ·have t30 : decide ((3 : Int) < (r.fl.length : Int)) = false := by simp only [decide_eq_false_iff_not]; omega
       have H30 := Lib.hid h1
       clear h1
       by_cases h1 : r.timer < 1
       ·have t1 : decide (r.timer < 1) = true := by simp only [decide_eq_true_eq]; omega
        have HE := Lib.hid (HH0.out (fun hh => by have := HH1.out.1 hh; omega))
        clear h1
        go_wp2_with fail
        go_ret
        exact ⟨rbool HE.out.symm, K0.out⟩
       ·have t20 : decide (r.timer < 1) = false := by simp only [decide_eq_false_iff_not]; omega
        have H20 := Lib.hid h1
        clear h1
        by_cases h1 : 9 < r.timer
        ·have t1 : decide ((9 : Int) < r.timer) = true := by simp only [decide_eq_true_eq]; omega
         have HE := Lib.hid (HH0.out (fun hh => by have := HH1.out.1 hh; omega))
         clear h1
         go_wp2_with fail
         go_ret
         exact ⟨rbool HE.out.symm, K0.out⟩
        ·have t10 : decide ((9 : Int) < r.timer) = false := by simp only [decide_eq_false_iff_not]; omega
         have H10 := Lib.hid h1
         clear h1
         have HHD : Hid (RtHead p.sigs r) := HH1.out.2 ⟨hc, by have := H60.out; omega, by have := H50.out; omega, by have := H40.out; omega, by have := H30.out; omega, by have := H20.out; omega, by have := H10.out; omega⟩
         have hl8 : r.path.length + r.over.length ≤ 1000 := by have := H50.out; have := H40.out; omega
         obtain ⟨k, hk, hFk⟩ := (HIF.out _).1 (HCD.out.1 hc).1
         rw [HFF.out] at hFk
         subst hFk
         have HRF := Lib.hid (HREF.out k hk rfl)
         have HBAD1 : Hid (∀ j (h : j < (allOf r).length), ¬ AtR p p.sigs[k].sec (allOf r) j h → B = false) := fun j h hn => HB.out false (by simp only [Bool.false_eq_true, false_iff]; exact fun hh => hn ((HRF.out.1 hh).2.1 j h))
         have HBAD2 : Hid (∀ j (h : j < r.fl.length), ¬ FlR p r.fl j h → B = false) := fun j h hn => HB.out false (by simp only [Bool.false_eq_true, false_iff]; exact fun hh => hn ((HRF.out.1 hh).2.2 j h))
         have HOK : Hid ((∀ j (h : j < (allOf r).length), AtR p p.sigs[k].sec (allOf r) j h) → (∀ j (h : j < r.fl.length), FlR p r.fl j h) → B = true) := fun h1 h2 => HB.out true (by simp only [true_iff]; exact HRF.out.2 ⟨HHD.out, h1, h2⟩)
         clear HRF HREF HB HH0 HH1 HC1 HCD HIF hfc hfx HFF hc
         have rr0 : W0.cell? ⟨w.heap.size + 1, 0, none⟩ = some (.int .i64 r.id) := (cell_of_row W0 _ 0 _ _ _ (BX0.out).2).trans rfl
         have rr2 : W0.cell? ⟨w.heap.size + 1, 2, none⟩ = some (.int .i64 r.exit) := (cell_of_row W0 _ 2 _ _ _ (BX0.out).2).trans rfl
         have rr3 : W0.cell? ⟨w.heap.size + 1, 3, none⟩ = some (.slice p1 r.path.length p3) := (cell_of_row W0 _ 3 _ _ _ (BX0.out).2).trans rfl
         have rr4 : W0.cell? ⟨w.heap.size + 1, 4, none⟩ = some (.slice o1 r.over.length o3) := (cell_of_row W0 _ 4 _ _ _ (BX0.out).2).trans rfl
         have rr5 : W0.cell? ⟨w.heap.size + 1, 5, none⟩ = some (.slice f1 r.fl.length f3) := (cell_of_row W0 _ 5 _ _ _ (BX0.out).2).trans rfl
         have rr6 : W0.cell? ⟨w.heap.size + 1, 6, none⟩ = some (.int .i64 r.timer) := (cell_of_row W0 _ 6 _ _ _ (BX0.out).2).trans rfl
         go_wp2_with fail
         refine (refSections r p1 o1 f1 p3 o3 f3 W0 (HRM.out _ K0.out) hl8).mono ?_
         rintro e W1 ⟨aa, ca, rfl, hown, hb1⟩
         have hall : (allOf r).length ≤ 1000 := by rw [all_len]; omega
         have HIL : Hid (∀ W, Below W1.heap.size W1 W → IL W aa (allOf r).length (allOf r)) := fun W hb => by
          obtain ⟨a, n, c, e, h⟩ := hown.ilv.below hb
          cases e
          exact h
         have K1 : Hid (Below w.heap.size w W1) := K0.out.trans (hb1.mono K0.out.size)
         have BX1 : Hid (W1.heap[w.heap.size]? = some (.cells #[.int .i64 p.ver, .int .i64 p.par, .slice a1 p.secs.length k1, .slice a2 p.pts.length k2, .slice a3 p.sigs.length k3, .slice a4 p.rts.length k4] 28 (0, 0)) ∧ W1.heap[w.heap.size + 1]? = some (.cells #[.int .i64 r.id, .int .i64 r.entry, .int .i64 r.exit, .slice p1 r.path.length p3, .slice o1 r.over.length o3, .slice f1 r.fl.length f3, .int .i64 r.timer] 102 (0, 0))) := ⟨(hb1.block _ (lt_of_block BX0.out.1)).trans BX0.out.1, (hb1.block _ (lt_of_block BX0.out.2)).trans BX0.out.2⟩
         have BXW : Hid (∀ W, Below W1.heap.size W1 W → W.heap[w.heap.size]? = some (.cells #[.int .i64 p.ver, .int .i64 p.par, .slice a1 p.secs.length k1, .slice a2 p.pts.length k2, .slice a3 p.sigs.length k3, .slice a4 p.rts.length k4] 28 (0, 0)) ∧ W.heap[w.heap.size + 1]? = some (.cells #[.int .i64 r.id, .int .i64 r.entry, .int .i64 r.exit, .slice p1 r.path.length p3, .slice o1 r.over.length o3, .slice f1 r.fl.length f3, .int .i64 r.timer] 102 (0, 0))) := fun W hb => ⟨(hb.block _ (lt_of_block BX1.out.1)).trans BX1.out.1, (hb.block _ (lt_of_block BX1.out.2)).trans BX1.out.2⟩
         have KW : Hid (∀ W, Below W1.heap.size W1 W → Below w.heap.size w W) := fun W hb => K1.out.trans (hb.mono K1.out.size)
         generalize hL : allOf r = L at *
         clear hown hb1 rr0 rr1 rr2 rr3 rr4 rr5 rr6 lr K0 BX0 hl8 hL t10 t20 t30 t40 t50 t60
         go_wp2_with fail
         go_loopg [7] L.length (fun g i wr => ∃ k' : Nat, k' ≤ L.length ∧ g = L.length - k' ∧ i = .int .i64 k' ∧ Below W1.heap.size W1 wr ∧ ∀ j (h : j < L.length), j < k' → AtR p p.sigs[k].sec L j h)
         case atStart => exact ⟨0, by omega, by omega, rfl, Below.refl _ _, fun j h hj => by omega⟩
         case round =>
          obtain ⟨n, hn, rfl, rfl, hb, hno⟩ := hrel
          obtain ⟨wo, rfl⟩ : ∃ wo : World, wo = wr := ⟨_, rfl⟩
          have HNO := Lib.hid hno
          have KO := Lib.hid hb
          have KWO := Lib.hid (KW.out _ hb)
          have BXO := Lib.hid (BXW.out _ hb)
          clear hb hno
          by_cases hlt : n < L.length
          ·have pp2 : wo.cell? ⟨w.heap.size, 2, none⟩ = some (.slice a1 p.secs.length k1) := (cell_of_row wo _ 2 _ _ _ (BXO.out).1).trans rfl
           have pp4 : wo.cell? ⟨w.heap.size, 4, none⟩ = some (.slice a3 p.sigs.length k3) := (cell_of_row wo _ 4 _ _ _ (BXO.out).1).trans rfl
           have hd1 : decide ((n : Int) < (L.length : Int)) = true := by simp; omega
           obtain ⟨b, off, hae, x0⟩ := (HIL.out _ KO.out).cell n hlt
           have HAE := Lib.hid hae
           subst hae
           have c0 : (0 : Int) ≤ (n : Int) := by omega
           have c1 : (n : Int) < (L.length : Int) := by omega
           have l2 := World.block_lt_of_cell? _ _ x0
           obtain ⟨b', off', rfl, s0, s1, s2⟩ := (HSG.out _ KWO.out).sg hk
           have d0 : (0 : Int) ≤ (k : Int) := by omega
           have d1 : (k : Int) < (p.sigs.length : Int) := by omega
           have hR : ∀ (d : Nat) (os : Array Obj), Below W1.heap.size W1 (grow (redrawn wo d) os) := fun d os => KO.out.trans ((below_regrown wo d os).mono KO.out.size)
           have HRW := Lib.hid hR
           have X0 := cell_regrown x0
           have S1 := cell_regrown s1
           have P2 := cell_regrown pp2
           have P4 := cell_regrown pp4
           have hcc := fun (d : Nat) (os : Array Obj) => Calls.regrown_of ((secAt a1 k1 p.secs L[n] _ (HSE.out _ (KW.out _ (hR d os))) LS.out).mono fun e w' h => (⟨h.1, below_same h.2⟩ : e = _ ∧ Below (grow (redrawn wo d) os).heap.size (grow (redrawn wo d) os) w'))
           have hfc := Lib.hid (fix_cases (fun x : Sec => decide (x.id = L[n])) p.secs)
           generalize hF : fix (fun x : Sec => decide (x.id = L[n])) p.secs = F at *
           have HFF := Lib.hid hF
           have cC := Lib.hid hcc
           clear hcc hF hR x0 s0 s1 s2 pp2 pp4
           rcases hfc.out with ⟨hF1, -⟩ | ⟨m, hm, hF1, -, -⟩
           ·subst hF1
            have u1 : decide ((-1 : Int) < 0) = true := by decide
            have HE := Lib.hid (HBAD1.out n hlt (fun hh => by obtain ⟨m, hm, e⟩ := hh.1; rw [HFF.out] at e; omega))
            clear hfc
            go_upto_region 10 with fail
            refine wp_region_quiet_below (by kernel_rfl) (by kernel_rfl) ?_
            repeat (go_big_quiet_step ((with_reducible exact cC.out _ _)))
            refine wpQuiet_nil ?_
            rintro _ ⟨⟨dq, osq⟩, rfl⟩
            go_wp2_with fail
            go_ret
            exact ⟨rbool HE.out.symm, KW.out _ (HRW.out dq osq)⟩
           ·subst hF1
            have u1 : decide ((m : Int) < 0) = false := by simp
            clear hfc
            by_cases h3 : L[n] = p.sigs[k].sec
            ·have u2 : (L[n] == p.sigs[k].sec) = true := by rw [beq_iff_eq]; exact h3
             have HE := Lib.hid (HBAD1.out n hlt (fun hh => hh.2.1 h3))
             clear h3
             go_upto_region 10 with fail
             refine wp_region_quiet_below (by kernel_rfl) (by kernel_rfl) ?_
             repeat (go_big_quiet_step ((with_reducible exact cC.out _ _)))
             refine wpQuiet_nil ?_
             rintro _ ⟨⟨dq, osq⟩, rfl⟩
             go_wp2_with fail
             go_ret
             exact ⟨rbool HE.out.symm, KW.out _ (HRW.out dq osq)⟩
            ·have u2 : (L[n] == p.sigs[k].sec) = false := by rw [beq_eq_false_iff_ne]; exact h3
             have HA1 : Hid ((∃ m, ∃ hm : m < p.secs.length, fix (fun x => decide (x.id = L[n])) p.secs = (m : Int)) ∧ L[n] ≠ p.sigs[k].sec) := ⟨⟨m, hm, HFF.out⟩, h3⟩
             clear h3
             go_upto_region 10 with fail
             refine wp_region_quiet_below (by kernel_rfl) (by kernel_rfl) ?_
             repeat (go_big_quiet_step ((with_reducible exact cC.out _ _)))
             refine wpQuiet_nil ?_
             rintro _ ⟨⟨dq, osq⟩, rfl⟩
             have HBW := Lib.hid (HRW.out dq osq)
             generalize hWN : grow (redrawn wo dq) osq = wn at *
             clear hWN HRW X0 S1 P2 P4 cC HFF
             go_wp2_with fail
             go_loopg [8] n (fun g i wr => ∃ m' : Nat, m' ≤ n ∧ g = n - m' ∧ i = .int .i64 m' ∧ Below W1.heap.size W1 wr ∧ ∀ j (h : j < n), j < m' → L[j] ≠ L[n])
             case atStart => exact ⟨0, by omega, by omega, rfl, HBW.out, fun j h hj => by omega⟩
             case round =>
              obtain ⟨m2, hm2, rfl, rfl, hb, hno⟩ := hrel
              obtain ⟨wi, rfl⟩ : ∃ wi : World, wi = wr := ⟨_, rfl⟩
              have HNI := Lib.hid hno
              have KI := Lib.hid hb
              clear hb hno
              by_cases hlt2 : m2 < n
              ·have hd3 : decide ((m2 : Int) < (n : Int)) = true := by simp; omega
               have hml : m2 < L.length := by omega
               obtain ⟨b5, off5, hbe, x0⟩ := (HIL.out _ KI.out).cell n hlt
               cases hbe
               obtain ⟨b6, off6, hbe, z0⟩ := (HIL.out _ KI.out).cell m2 hml
               cases hbe
               have e0 : (0 : Int) ≤ (m2 : Int) := by omega
               have e1 : (m2 : Int) < (L.length : Int) := by omega
               have hR : ∀ (d : Nat) (os : Array Obj), Below W1.heap.size W1 (grow (redrawn wi d) os) := fun d os => KI.out.trans ((below_regrown wi d os).mono KI.out.size)
               have HRW := Lib.hid hR
               have X0 := cell_regrown x0
               have Z0 := cell_regrown z0
               clear x0 z0 hR
               by_cases h6 : L[m2] = L[n]
               ·have u6 : (L[m2] == L[n]) = true := by rw [beq_iff_eq]; exact h6
                have HE := Lib.hid (HBAD1.out n hlt (fun hh => hh.2.2 m2 hlt2 h6))
                clear h6
                go_upto_region 15 with fail
                refine wp_region_quiet_below (by kernel_rfl) (by kernel_rfl) ?_
                repeat (go_big_quiet_step (fail))
                refine wpQuiet_nil ?_
                rintro _ ⟨⟨dq, osq⟩, rfl⟩
                go_wp2_with fail
                go_ret
                exact ⟨rbool HE.out.symm, KW.out _ (HRW.out dq osq)⟩
               ·have u6 : (L[m2] == L[n]) = false := by rw [beq_eq_false_iff_ne]; exact h6
                have HG := Lib.hid h6
                clear h6
                go_upto_region 15 with fail
                refine wp_region_quiet_below (by kernel_rfl) (by kernel_rfl) ?_
                repeat (go_big_quiet_step (fail))
                refine wpQuiet_nil ?_
                rintro _ ⟨⟨dq, osq⟩, rfl⟩
                go_wp2_with fail
                go_roundg (n - (m2 + 1))
                case measure => go_light; omega
                case rel =>
                 go_light
                 refine ⟨m2 + 1, by omega, by omega, by go_num, HRW.out dq osq, fun j h hj => ?_⟩
                 by_cases hjk : j = m2
                 ·subst hjk; exact HG.out
                 ·exact HNI.out j h (by omega)
              ·obtain rfl : m2 = n := by omega
               have hd3 : decide ((m2 : Int) < (m2 : Int)) = false := by simp
               have HG : Hid (AtR p p.sigs[k].sec L m2 hlt) := ⟨HA1.out.1, HA1.out.2, fun j hj => HNI.out j hj hj⟩
               go_wp2_with fail
               go_roundg (L.length - (m2 + 1))
               case measure => go_light; omega
               case rel =>
                go_light
                refine ⟨m2 + 1, by omega, by omega, by go_num, KI.out, fun j h hj => ?_⟩
                by_cases hjk : j = m2
                ·subst hjk; exact HG.out
                ·exact HNO.out j h (by omega)
          ·obtain rfl : n = L.length := by omega
           have hd1 : decide ((L.length : Int) < (L.length : Int)) = false := by simp
           have HOK2 : Hid ((∀ j (h : j < r.fl.length), FlR p r.fl j h) → B = true) := fun h2 => HOK.out (fun j h => HNO.out j h h) h2
           have KO2 := Lib.hid KO.out
           clear HOK HNO KO KWO BXO HBAD1
           go_wp2_with fail
           go_loopg [9] r.fl.length (fun g i wr => ∃ k' : Nat, k' ≤ r.fl.length ∧ g = r.fl.length - k' ∧ i = .int .i64 k' ∧ Below W1.heap.size W1 wr ∧ ∀ j (h : j < r.fl.length), j < k' → FlR p r.fl j h)
           case atStart => exact ⟨0, by omega, by omega, rfl, KO2.out, fun j h hj => by omega⟩
           case round =>
            obtain ⟨n, hn, rfl, rfl, hb, hno⟩ := hrel
            obtain ⟨wo, rfl⟩ : ∃ wo : World, wo = wr := ⟨_, rfl⟩
            have HNO := Lib.hid hno
            have KO := Lib.hid hb
            have KWO := Lib.hid (KW.out _ hb)
            have BXO := Lib.hid (BXW.out _ hb)
            clear hb hno
            have pp3 : wo.cell? ⟨w.heap.size, 3, none⟩ = some (.slice a2 p.pts.length k2) := (cell_of_row wo _ 3 _ _ _ (BXO.out).1).trans rfl
            have rr5 : wo.cell? ⟨w.heap.size + 1, 5, none⟩ = some (.slice f1 r.fl.length f3) := (cell_of_row wo _ 5 _ _ _ (BXO.out).2).trans rfl
            by_cases hlt : n < r.fl.length
            ·have hd2 : decide ((n : Int) < (r.fl.length : Int)) = true := by simp; omega
             obtain ⟨b, off, rfl, x0, x1⟩ := (HFL.out _ KWO.out).fl hlt
             have c0 : (0 : Int) ≤ (n : Int) := by omega
             have c1 : (n : Int) < (r.fl.length : Int) := by omega
             have l2 := World.block_lt_of_cell? _ _ x0
             go_upto_region 21 with fail
             generalize hWA : World.alloc _ _ = wA
             have hbA : Below wo.heap.size wo wA := by rw [← hWA]; exact (Below.refl _ _).alloc (Nat.le_refl _) _
             have y0 : wA.cell? ⟨wo.heap.size, 0, none⟩ = some (.int .i64 r.fl[n].pt) := by rw [← hWA]; simp
             have y1 : wA.cell? ⟨wo.heap.size, 1, none⟩ = some (.int .i64 r.fl[n].lie) := by rw [← hWA]; simp
             have KA : Hid (Below W1.heap.size W1 wA) := KO.out.trans (hbA.mono KO.out.size)
             have g3 := ccell hbA pp3
             have g5 := ccell hbA rr5
             clear hWA hbA x0 x1 pp3 rr5 l2
             have hR : ∀ (d : Nat) (os : Array Obj), Below W1.heap.size W1 (grow (redrawn wA d) os) := fun d os => KA.out.trans ((below_regrown wA d os).mono KA.out.size)
             have HRW := Lib.hid hR
             have Y0 := cell_regrown y0
             have Y1 := cell_regrown y1
             have G3 := cell_regrown g3
             have G5 := cell_regrown g5
             have hcc := fun (d : Nat) (os : Array Obj) => Calls.regrown_of ((ptAt a2 k2 p.pts r.fl[n].pt _ (HPT.out _ (KW.out _ (hR d os))) LP.out).mono fun e w' h => (⟨h.1, below_same h.2⟩ : e = _ ∧ Below (grow (redrawn wA d) os).heap.size (grow (redrawn wA d) os) w'))
             have hfc := Lib.hid (fix_cases (fun x : Pt => decide (x.id = r.fl[n].pt)) p.pts)
             generalize hF : fix (fun x : Pt => decide (x.id = r.fl[n].pt)) p.pts = F at *
             have HFF := Lib.hid hF
             have cC := Lib.hid hcc
             clear hcc hF hR y0 y1 g3 g5
             rcases hfc.out with ⟨hF1, -⟩ | ⟨m, hm, hF1, -, -⟩
             ·subst hF1
              have u1 : decide ((-1 : Int) < 0) = true := by decide
              have HE := Lib.hid (HBAD2.out n hlt (fun hh => by obtain ⟨m, hm, e⟩ := hh.1; rw [HFF.out] at e; omega))
              go_upto_region 21 with fail
              refine wp_region_quiet_below (by kernel_rfl) (by kernel_rfl) ?_
              repeat (go_big_quiet_step ((with_reducible exact cC.out _ _)))
              refine wpQuiet_nil ?_
              rintro _ ⟨⟨dq, osq⟩, rfl⟩
              go_wp2_with fail
              go_ret
              exact ⟨rbool HE.out.symm, KW.out _ (HRW.out dq osq)⟩
             ·subst hF1
              have u1 : decide ((m : Int) < 0) = false := by simp
              clear hfc
              by_cases h3 : 0 < n
              ·have u3 : decide ((0 : Int) < (n : Int)) = true := by simp; omega
               obtain ⟨b8, off8, hbe, z0, z1⟩ := (HFL.out _ (KW.out _ KA.out)).fl (i := n - 1) (by omega)
               cases hbe
               have Z0 := cell_regrown z0
               have e0 : (0 : Int) ≤ (n : Int) - 1 := by omega
               have e1 : (n : Int) - 1 < (r.fl.length : Int) := by omega
               have et : ((n : Int) - 1).toNat = n - 1 := by omega
               clear z0 z1
               by_cases h4 : r.fl[n].pt ≤ r.fl[n - 1].pt
               ·have u4 : decide (r.fl[n].pt ≤ r.fl[n - 1].pt) = true := by simp [h4]
                have HE := Lib.hid (HBAD2.out n hlt (fun hh => by have := hh.2.1 h3; omega))
                go_upto_region 21 with fail
                refine wp_region_quiet_below (by kernel_rfl) (by kernel_rfl) ?_
                repeat (go_big_quiet_step ((with_reducible exact cC.out _ _)))
                refine wpQuiet_nil ?_
                rintro _ ⟨⟨dq, osq⟩, rfl⟩
                go_wp2_with fail
                go_ret
                exact ⟨rbool HE.out.symm, KW.out _ (HRW.out dq osq)⟩
               ·have u4 : decide (r.fl[n].pt ≤ r.fl[n - 1].pt) = false := by simp; omega
                by_cases h5 : r.fl[n].lie < 1
                ·have u5 : decide (r.fl[n].lie < 1) = true := by simp [h5]
                 have HE := Lib.hid (HBAD2.out n hlt (fun hh => by have := hh.2.2.1; omega))
                 go_upto_region 21 with fail
                 refine wp_region_quiet_below (by kernel_rfl) (by kernel_rfl) ?_
                 repeat (go_big_quiet_step ((with_reducible exact cC.out _ _)))
                 refine wpQuiet_nil ?_
                 rintro _ ⟨⟨dq, osq⟩, rfl⟩
                 go_wp2_with fail
                 go_ret
                 exact ⟨rbool HE.out.symm, KW.out _ (HRW.out dq osq)⟩
                ·have u5 : decide (r.fl[n].lie < 1) = false := by simp; omega
                 by_cases h6 : 2 < r.fl[n].lie
                 ·have u6 : decide ((2 : Int) < r.fl[n].lie) = true := by simp [h6]
                  have HE := Lib.hid (HBAD2.out n hlt (fun hh => by have := hh.2.2.2; omega))
                  go_upto_region 21 with fail
                  refine wp_region_quiet_below (by kernel_rfl) (by kernel_rfl) ?_
                  repeat (go_big_quiet_step ((with_reducible exact cC.out _ _)))
                  refine wpQuiet_nil ?_
                  rintro _ ⟨⟨dq, osq⟩, rfl⟩
                  go_wp2_with fail
                  go_ret
                  exact ⟨rbool HE.out.symm, KW.out _ (HRW.out dq osq)⟩
                 ·have u6 : decide ((2 : Int) < r.fl[n].lie) = false := by simp; omega
                  have HG : Hid (FlR p r.fl n hlt) := ⟨⟨m, hm, HFF.out⟩, fun _ => by omega, by omega, by omega⟩
                  clear h5 h6
                  go_upto_region 21 with fail
                  refine wp_region_quiet_below (by kernel_rfl) (by kernel_rfl) ?_
                  repeat (go_big_quiet_step ((with_reducible exact cC.out _ _)))
                  refine wpQuiet_nil ?_
                  rintro _ ⟨⟨dq, osq⟩, rfl⟩
                  go_wp2_with fail
                  go_roundg (r.fl.length - (n + 1))
                  case measure => go_light; omega
                  case rel =>
                   go_light
                   refine ⟨n + 1, by omega, by omega, by go_num, HRW.out dq osq, fun j h hj => ?_⟩
                   by_cases hjk : j = n
                   ·subst hjk; exact HG.out
                   ·exact HNO.out j h (by omega)
              ·have u3 : decide ((0 : Int) < (n : Int)) = false := by simp; omega
               by_cases h5 : r.fl[n].lie < 1
               ·have u5 : decide (r.fl[n].lie < 1) = true := by simp [h5]
                have HE := Lib.hid (HBAD2.out n hlt (fun hh => by have := hh.2.2.1; omega))
                go_upto_region 21 with fail
                refine wp_region_quiet_below (by kernel_rfl) (by kernel_rfl) ?_
                repeat (go_big_quiet_step ((with_reducible exact cC.out _ _)))
                refine wpQuiet_nil ?_
                rintro _ ⟨⟨dq, osq⟩, rfl⟩
                go_wp2_with fail
                go_ret
                exact ⟨rbool HE.out.symm, KW.out _ (HRW.out dq osq)⟩
               ·have u5 : decide (r.fl[n].lie < 1) = false := by simp; omega
                by_cases h6 : 2 < r.fl[n].lie
                ·have u6 : decide ((2 : Int) < r.fl[n].lie) = true := by simp [h6]
                 have HE := Lib.hid (HBAD2.out n hlt (fun hh => by have := hh.2.2.2; omega))
                 go_upto_region 21 with fail
                 refine wp_region_quiet_below (by kernel_rfl) (by kernel_rfl) ?_
                 repeat (go_big_quiet_step ((with_reducible exact cC.out _ _)))
                 refine wpQuiet_nil ?_
                 rintro _ ⟨⟨dq, osq⟩, rfl⟩
                 go_wp2_with fail
                 go_ret
                 exact ⟨rbool HE.out.symm, KW.out _ (HRW.out dq osq)⟩
                ·have u6 : decide ((2 : Int) < r.fl[n].lie) = false := by simp; omega
                 have HG : Hid (FlR p r.fl n hlt) := ⟨⟨m, hm, HFF.out⟩, fun h => absurd h h3, by omega, by omega⟩
                 clear h5 h6
                 go_upto_region 21 with fail
                 refine wp_region_quiet_below (by kernel_rfl) (by kernel_rfl) ?_
                 repeat (go_big_quiet_step ((with_reducible exact cC.out _ _)))
                 refine wpQuiet_nil ?_
                 rintro _ ⟨⟨dq, osq⟩, rfl⟩
                 go_wp2_with fail
                 go_roundg (r.fl.length - (n + 1))
                 case measure => go_light; omega
                 case rel =>
                  go_light
                  refine ⟨n + 1, by omega, by omega, by go_num, HRW.out dq osq, fun j h hj => ?_⟩
                  by_cases hjk : j = n
                  ·subst hjk; exact HG.out
                  ·exact HNO.out j h (by omega)
            ·obtain rfl : n = r.fl.length := by omega
             have hd2 : decide ((r.fl.length : Int) < (r.fl.length : Int)) = false := by simp
             have HE := Lib.hid (HOK2.out (fun j h => HNO.out j h h))
             go_wp2_with fail
             go_ret
             exact ⟨rbool HE.out.symm, KWO.out⟩
  ·have hv : (!D) = true := by
    cases hD : D with
    | false => rfl
    | true => exact absurd (HDC.out.1 hD) hc
   rw [hv]
   have HE := Lib.hid (HH0.out (fun hh => hc (HH1.out.1 hh).1))
   clear hv
   go_wp2_with fail
   go_ret
   exact ⟨rbool HE.out.symm, K0.out⟩
end Go.Proofs.YtbiehpjhhopjaaaGreat
