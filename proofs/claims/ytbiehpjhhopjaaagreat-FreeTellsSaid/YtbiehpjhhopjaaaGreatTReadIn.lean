/-
 Plans, states and areas that come in as arguments, read as plain data.
-/
import Derived.Test.YtbiehpjhhopjaaaGreatTMem
import Derived.WalkKit
import Derived.ProofKit
import Derived.OpenShut
import Derived.ShutString
import Derived.ChangeOld
import Derived.Below
import Derived.Lib.SmallJoins
set_option linter.unusedVariables false
namespace Go.Proofs.YtbiehpjhhopjaaaGreat
open Go.ChangeShapes Go.WideShapes Go.ChangeAt Go.RowKit Go.Deep
theorem own_tryz : ownKnob Tryz.prog.godebug = none := by kernel_rfl
theorem laid_tryz : laidOutB Tryz.prog = true := by kernel_rfl
section
variable {H : Type} {enc : TypeId × Value → H} {W : World} {base : Nat} {sp : Nat → Bool} {hd : Bool}
theorem sl_in {α : Type} {t e : TypeId} {sz : Nat} {R : World → List Value → α → Prop} (ht : Tryz.prog.underlying t = some (.slice e)) (hc : Tryz.prog.cellsOf e = sz) (hz : 0 < sz)
  (hR : ∀ n cs y, DataW.trod enc Tryz.prog W base sp hd n e cs = some y → cs.length = sz → ∃ x, R W cs x)
  {n : Nat} {v : Value} {y : DataW H × List MemPlace} (h : DataW.trod enc Tryz.prog W base sp hd n t [v] = some y) : ∃ l : List α, Sl W sz R v l := by
 rcases open_slice ht h with ⟨hcs, _⟩ | ⟨a, len, cap, m, k, D, Pl, hcs, hb, hl, hm, hmm, rfl, hx⟩
 ·cases hcs
  exact ⟨[], Sl.nil W sz R⟩
 ·cases hcs
  have hlm : len ≤ m := by rw [hmm]; split <;> omega
  have each : ∀ i : Fin len, ∃ q : α × List Value, W.cells? base (a.add (i.1 * sz)) sz = some q.2 ∧ R W q.2 q.1 := by
   intro i
   obtain ⟨cs', h1, h2⟩ := hx i.1 (by have := i.2; omega)
   rw [hc] at h1
   obtain ⟨_, hlen, _⟩ := World.cells?_some h1
   obtain ⟨x, hr⟩ := hR _ _ _ h2 hlen
   exact ⟨(x, cs'), h1, hr⟩
  obtain ⟨f, hf⟩ := Classical.axiomOfChoice each
  refine ⟨List.ofFn fun i => (f i).1, some a, cap, by rw [List.length_ofFn], by rw [List.length_ofFn]; exact hl, (fun h => nomatch h), fun i hi => ?_⟩
  have hi' : i < len := by rw [List.length_ofFn] at hi; exact hi
  obtain ⟨hq, hr⟩ := hf ⟨i, hi'⟩
  obtain ⟨_, hlen, hcell⟩ := World.cells?_some hq
  have hspot : a.spot = none := by
   obtain ⟨hq0, _⟩ := hf ⟨0, by omega⟩
   obtain ⟨_, hlen0, hcell0⟩ := World.cells?_some hq0
   have h0 := hcell0 0 hz
   rw [List.getElem?_eq_getElem (by omega)] at h0
   simpa [Addr.add] using World.cell?_spot h0
  obtain ⟨b, off, spot⟩ := a
  have hs : spot = none := hspot
  subst hs
  refine ⟨b, off, (f ⟨i, hi'⟩).2, rfl, hlen, fun j hj => ?_, ?_⟩
  ·have h1 := hcell j (by omega)
   rw [List.getElem?_eq_getElem hj] at h1
   have e : ((⟨b, off, none⟩ : Addr).add (i * sz)).add j = ⟨b, off + i * sz + j, none⟩ := by
    unfold Addr.add
    by_cases e1 : i * sz = 0 <;> by_cases e2 : j = 0 <;> simp [e1, e2, Nat.add_assoc]
   rw [← e]
   exact h1
  ·rw [List.getElem_ofFn]
   exact hr
theorem field_in {t : TypeId} {fs : Array Field} (hs : Tryz.prog.underlying t = some (.struct fs)) {n : Nat} {cs : List Value} {y : DataW H × List MemPlace} (h : DataW.trod enc Tryz.prog W base sp hd n t cs = some y) (j : Nat) (f : Field) (hf : fs[j]? = some f)
  (u : TypeId) (hu : f.type = u) (o : Nat) (ho : f.offset = o) (hc : Tryz.prog.cellsOf u = 1) {v : Value} (hv : cs[o]? = some v) : ∃ m z, DataW.trod enc Tryz.prog W base sp hd m u [v] = some z := by
 obtain ⟨xs, m, _, _, _, hxl, hall⟩ := DataW.trod_struct hs h
 have h1 := hall j f hf
 rw [hu, hc, ho] at h1
 have hj : j < fs.size := (Array.getElem?_eq_some_iff.1 hf).1
 have h2 : (cs.drop o).take 1 = [v] := by
  obtain ⟨hlt, e⟩ := List.getElem?_eq_some_iff.1 hv
  rw [List.drop_eq_getElem_cons hlt]
  simp [e]
 rw [h2, List.getElem?_eq_getElem (by omega)] at h1
 exact ⟨m, _, h1⟩
theorem int_in {n : Nat} {v : Value} {y : DataW H × List MemPlace} (h : DataW.trod enc Tryz.prog W base sp hd n 3 [v] = some y) : ∃ x, v = .int .i64 x := by
 obtain ⟨x, e, _⟩ := DataW.trod_int Tryz.underlying3 h
 cases e
 exact ⟨x, rfl⟩
theorem u8_in {n : Nat} {v : Value} {y : DataW H × List MemPlace} (h : DataW.trod enc Tryz.prog W base sp hd n 5 [v] = some y) : ∃ x, v = .int .u8 x := by
 obtain ⟨x, e, _⟩ := DataW.trod_int Tryz.underlying5 h
 cases e
 exact ⟨x, rfl⟩
theorem cells_int : Tryz.prog.cellsOf 3 = 1 := by kernel_rfl
theorem cells_u8 : Tryz.prog.cellsOf 5 = 1 := by kernel_rfl
theorem ints_in {n : Nat} {v : Value} {y : DataW H × List MemPlace} (h : DataW.trod enc Tryz.prog W base sp hd n 54 [v] = some y) : ∃ l, ILv W v l := by
 obtain ⟨l, a, cap, rfl, h2⟩ := sl_in (R := RInt) Tryz.underlying54 cells_int (by decide) (fun m cs y hy hl => by
  match cs, hl with
  | [c], _ =>
   obtain ⟨x, rfl⟩ := int_in hy
   exact ⟨x, rfl⟩) h
 refine ⟨l, a, l.length, cap, rfl, rfl, fun i hi => ?_⟩
 obtain ⟨b, off, vs, e, _, hc, rfl⟩ := h2.at_ i hi
 exact ⟨b, off, e, by simpa using hc 0 (by simp)⟩
theorem jn_in {n : Nat} {cs : List Value} {y : DataW H × List MemPlace} (h : DataW.trod enc Tryz.prog W base sp hd n 133 cs = some y) (hl : cs.length = 2) : ∃ x, RJn W cs x := by
 match cs, hl with
 | [c0, c1], _ =>
  obtain ⟨_, _, h0⟩ := field_in Tryz.underlying133 h 0 _ rfl 3 rfl 0 rfl cells_int rfl
  obtain ⟨_, _, h1⟩ := field_in Tryz.underlying133 h 1 _ rfl 3 rfl 1 rfl cells_int rfl
  obtain ⟨x0, rfl⟩ := int_in h0
  obtain ⟨x1, rfl⟩ := int_in h1
  exact ⟨⟨x0, x1⟩, rfl⟩
theorem pt_val {n : Nat} {cs : List Value} {y : DataW H × List MemPlace} (h : DataW.trod enc Tryz.prog W base sp hd n 143 cs = some y) (hl : cs.length = 2) : ∃ x, RPt W cs x := by
 match cs, hl with
 | [c0, c1], _ =>
  obtain ⟨_, _, h0⟩ := field_in Tryz.underlying143 h 0 _ rfl 3 rfl 0 rfl cells_int rfl
  obtain ⟨_, _, h1⟩ := field_in Tryz.underlying143 h 1 _ rfl 3 rfl 1 rfl cells_int rfl
  obtain ⟨x0, rfl⟩ := int_in h0
  obtain ⟨x1, rfl⟩ := int_in h1
  exact ⟨⟨x0, x1⟩, rfl⟩
theorem fl_in {n : Nat} {cs : List Value} {y : DataW H × List MemPlace} (h : DataW.trod enc Tryz.prog W base sp hd n 207 cs = some y) (hl : cs.length = 2) : ∃ x, RFl W cs x := by
 match cs, hl with
 | [c0, c1], _ =>
  obtain ⟨_, _, h0⟩ := field_in Tryz.underlying207 h 0 _ rfl 3 rfl 0 rfl cells_int rfl
  obtain ⟨_, _, h1⟩ := field_in Tryz.underlying207 h 1 _ rfl 3 rfl 1 rfl cells_int rfl
  obtain ⟨x0, rfl⟩ := int_in h0
  obtain ⟨x1, rfl⟩ := int_in h1
  exact ⟨⟨x0, x1⟩, rfl⟩
theorem tk_in {n : Nat} {cs : List Value} {y : DataW H × List MemPlace} (h : DataW.trod enc Tryz.prog W base sp hd n 106 cs = some y) (hl : cs.length = 2) : ∃ x, RTk W cs x := by
 match cs, hl with
 | [c0, c1], _ =>
  obtain ⟨_, _, h0⟩ := field_in Tryz.underlying106 h 0 _ rfl 3 rfl 0 rfl cells_int rfl
  obtain ⟨_, _, h1⟩ := field_in Tryz.underlying106 h 1 _ rfl 5 rfl 1 rfl cells_u8 rfl
  obtain ⟨x0, rfl⟩ := int_in h0
  obtain ⟨x1, rfl⟩ := u8_in h1
  exact ⟨⟨x0, x1⟩, rfl⟩
theorem sg_in {n : Nat} {cs : List Value} {y : DataW H × List MemPlace} (h : DataW.trod enc Tryz.prog W base sp hd n 145 cs = some y) (hl : cs.length = 3) : ∃ x, RSg W cs x := by
 match cs, hl with
 | [c0, c1, c2], _ =>
  obtain ⟨_, _, h0⟩ := field_in Tryz.underlying145 h 0 _ rfl 3 rfl 0 rfl cells_int rfl
  obtain ⟨_, _, h1⟩ := field_in Tryz.underlying145 h 1 _ rfl 3 rfl 1 rfl cells_int rfl
  obtain ⟨_, _, h2⟩ := field_in Tryz.underlying145 h 2 _ rfl 3 rfl 2 rfl cells_int rfl
  obtain ⟨x0, rfl⟩ := int_in h0
  obtain ⟨x1, rfl⟩ := int_in h1
  obtain ⟨x2, rfl⟩ := int_in h2
  exact ⟨⟨x0, x1, x2⟩, rfl⟩
theorem sw_in {n : Nat} {cs : List Value} {y : DataW H × List MemPlace} (h : DataW.trod enc Tryz.prog W base sp hd n 108 cs = some y) (hl : cs.length = 3) : ∃ x, RSw W cs x := by
 match cs, hl with
 | [c0, c1, c2], _ =>
  obtain ⟨_, _, h0⟩ := field_in Tryz.underlying108 h 0 _ rfl 3 rfl 0 rfl cells_int rfl
  obtain ⟨_, _, h1⟩ := field_in Tryz.underlying108 h 1 _ rfl 3 rfl 1 rfl cells_int rfl
  obtain ⟨_, _, h2⟩ := field_in Tryz.underlying108 h 2 _ rfl 3 rfl 2 rfl cells_int rfl
  obtain ⟨x0, rfl⟩ := int_in h0
  obtain ⟨x1, rfl⟩ := int_in h1
  obtain ⟨x2, rfl⟩ := int_in h2
  exact ⟨⟨x0, x1, x2⟩, rfl⟩
theorem lk_in {n : Nat} {cs : List Value} {y : DataW H × List MemPlace} (h : DataW.trod enc Tryz.prog W base sp hd n 99 cs = some y) (hl : cs.length = 4) : ∃ x, RLk W cs x := by
 match cs, hl with
 | [c0, c1, c2, c3], _ =>
  obtain ⟨_, _, h0⟩ := field_in Tryz.underlying99 h 0 _ rfl 3 rfl 0 rfl cells_int rfl
  obtain ⟨_, _, h1⟩ := field_in Tryz.underlying99 h 1 _ rfl 5 rfl 1 rfl cells_u8 rfl
  obtain ⟨_, _, h2⟩ := field_in Tryz.underlying99 h 2 _ rfl 3 rfl 2 rfl cells_int rfl
  obtain ⟨_, _, h3⟩ := field_in Tryz.underlying99 h 3 _ rfl 3 rfl 3 rfl cells_int rfl
  obtain ⟨x0, rfl⟩ := int_in h0
  obtain ⟨x1, rfl⟩ := u8_in h1
  obtain ⟨x2, rfl⟩ := int_in h2
  obtain ⟨x3, rfl⟩ := int_in h3
  exact ⟨⟨x0, x1, x2, x3⟩, rfl⟩
theorem cells_s78 : Tryz.prog.cellsOf 78 = 1 := by kernel_rfl
theorem cells_s54 : Tryz.prog.cellsOf 54 = 1 := by kernel_rfl
theorem cells_s100 : Tryz.prog.cellsOf 100 = 1 := by kernel_rfl
theorem cells_133 : Tryz.prog.cellsOf 133 = 2 := by kernel_rfl
theorem cells_143 : Tryz.prog.cellsOf 143 = 2 := by kernel_rfl
theorem cells_207 : Tryz.prog.cellsOf 207 = 2 := by kernel_rfl
theorem cells_106 : Tryz.prog.cellsOf 106 = 2 := by kernel_rfl
theorem cells_145 : Tryz.prog.cellsOf 145 = 3 := by kernel_rfl
theorem cells_108 : Tryz.prog.cellsOf 108 = 3 := by kernel_rfl
theorem cells_99 : Tryz.prog.cellsOf 99 = 4 := by kernel_rfl
theorem cells_80 : Tryz.prog.cellsOf 80 = 3 := by kernel_rfl
theorem cells_102 : Tryz.prog.cellsOf 102 = 7 := by kernel_rfl
theorem sec_val {n : Nat} {cs : List Value} {y : DataW H × List MemPlace} (h : DataW.trod enc Tryz.prog W base sp hd n 80 cs = some y) (hl : cs.length = 3) : ∃ x, RSec W cs x := by
 match cs, hl with
 | [c0, c1, c2], _ =>
  obtain ⟨_, _, h0⟩ := field_in Tryz.underlying80 h 0 _ rfl 3 rfl 0 rfl cells_int rfl
  obtain ⟨_, _, h1⟩ := field_in Tryz.underlying80 h 1 _ rfl 3 rfl 1 rfl cells_int rfl
  obtain ⟨_, _, h2⟩ := field_in Tryz.underlying80 h 2 _ rfl 78 rfl 2 rfl cells_s78 rfl
  obtain ⟨x0, rfl⟩ := int_in h0
  obtain ⟨x1, rfl⟩ := int_in h1
  obtain ⟨l, hl⟩ := sl_in (R := RJn) Tryz.underlying78 cells_133 (by decide) (fun _ _ _ => jn_in) h2
  exact ⟨⟨x0, x1, l⟩, c2, rfl, hl⟩
theorem rt_val {n : Nat} {cs : List Value} {y : DataW H × List MemPlace} (h : DataW.trod enc Tryz.prog W base sp hd n 102 cs = some y) (hl : cs.length = 7) : ∃ x, RRt W cs x := by
 match cs, hl with
 | [c0, c1, c2, c3, c4, c5, c6], _ =>
  obtain ⟨_, _, h0⟩ := field_in Tryz.underlying102 h 0 _ rfl 3 rfl 0 rfl cells_int rfl
  obtain ⟨_, _, h1⟩ := field_in Tryz.underlying102 h 1 _ rfl 3 rfl 1 rfl cells_int rfl
  obtain ⟨_, _, h2⟩ := field_in Tryz.underlying102 h 2 _ rfl 3 rfl 2 rfl cells_int rfl
  obtain ⟨_, _, h3⟩ := field_in Tryz.underlying102 h 3 _ rfl 54 rfl 3 rfl cells_s54 rfl
  obtain ⟨_, _, h4⟩ := field_in Tryz.underlying102 h 4 _ rfl 54 rfl 4 rfl cells_s54 rfl
  obtain ⟨_, _, h5⟩ := field_in Tryz.underlying102 h 5 _ rfl 100 rfl 5 rfl cells_s100 rfl
  obtain ⟨_, _, h6⟩ := field_in Tryz.underlying102 h 6 _ rfl 3 rfl 6 rfl cells_int rfl
  obtain ⟨x0, rfl⟩ := int_in h0
  obtain ⟨x1, rfl⟩ := int_in h1
  obtain ⟨x2, rfl⟩ := int_in h2
  obtain ⟨x6, rfl⟩ := int_in h6
  obtain ⟨l3, k3⟩ := ints_in h3
  obtain ⟨l4, k4⟩ := ints_in h4
  obtain ⟨l5, k5⟩ := sl_in (R := RFl) Tryz.underlying100 cells_207 (by decide) (fun _ _ _ => fl_in) h5
  exact ⟨⟨x0, x1, x2, l3, l4, l5, x6⟩, c3, c4, c5, rfl, k3, k4, k5⟩
theorem arr6 {α : Type} {cs : Array α} (h : cs.size = 6) : ∃ c0 c1 c2 c3 c4 c5, cs = #[c0, c1, c2, c3, c4, c5] := by
 obtain ⟨l⟩ := cs
 match l, h with
 | [c0, c1, c2, c3, c4, c5], _ => exact ⟨c0, c1, c2, c3, c4, c5, rfl⟩
theorem cells_28 : Tryz.prog.cellsOf 28 = 6 := by kernel_rfl
theorem cells_33 : Tryz.prog.cellsOf 33 = 3 := by kernel_rfl
theorem cells_56 : Tryz.prog.cellsOf 56 = 4 := by kernel_rfl
theorem cells_23 : Tryz.prog.cellsOf 23 = 1 := by kernel_rfl
theorem cells_24 : Tryz.prog.cellsOf 24 = 1 := by kernel_rfl
theorem cells_25 : Tryz.prog.cellsOf 25 = 1 := by kernel_rfl
theorem cells_26 : Tryz.prog.cellsOf 26 = 1 := by kernel_rfl
theorem cells_29 : Tryz.prog.cellsOf 29 = 1 := by kernel_rfl
theorem cells_30 : Tryz.prog.cellsOf 30 = 1 := by kernel_rfl
theorem cells_31 : Tryz.prog.cellsOf 31 = 1 := by kernel_rfl
set_option maxRecDepth 100000 in
theorem plan_in {r : Reach} {b0 : Nat} {v : Value} {d : DataW H} {p : List MemPlace} (hv : Value.okWide Tryz.prog W r b0 28 v) (h : DataW.Trod enc Tryz.prog W base sp hd 28 v d p) : ∃ s q g rr x, v = plV x s q g rr ∧ PlM W s q g rr x := by
 obtain ⟨cs, rfl, hsz⟩ := okWide_struct Tryz.underlying28 hv
 obtain ⟨c0, c1, c2, c3, c4, c5, rfl⟩ := arr6 (hsz.trans cells_28)
 obtain ⟨n, h⟩ := h
 have h : DataW.trod enc Tryz.prog W base sp hd n 28 [c0, c1, c2, c3, c4, c5] = some (d, p) := h
 obtain ⟨_, _, h0⟩ := field_in Tryz.underlying28 h 0 _ rfl 3 rfl 0 rfl cells_int rfl
 obtain ⟨_, _, h1⟩ := field_in Tryz.underlying28 h 1 _ rfl 3 rfl 1 rfl cells_int rfl
 obtain ⟨_, _, h2⟩ := field_in Tryz.underlying28 h 2 _ rfl 23 rfl 2 rfl cells_23 rfl
 obtain ⟨_, _, h3⟩ := field_in Tryz.underlying28 h 3 _ rfl 24 rfl 3 rfl cells_24 rfl
 obtain ⟨_, _, h4⟩ := field_in Tryz.underlying28 h 4 _ rfl 25 rfl 4 rfl cells_25 rfl
 obtain ⟨_, _, h5⟩ := field_in Tryz.underlying28 h 5 _ rfl 26 rfl 5 rfl cells_26 rfl
 obtain ⟨x0, rfl⟩ := int_in h0
 obtain ⟨x1, rfl⟩ := int_in h1
 obtain ⟨l2, k2⟩ := sl_in (R := RSec) Tryz.underlying23 cells_80 (by decide) (fun _ _ _ => sec_val) h2
 obtain ⟨l3, k3⟩ := sl_in (R := RPt) Tryz.underlying24 cells_143 (by decide) (fun _ _ _ => pt_val) h3
 obtain ⟨l4, k4⟩ := sl_in (R := RSg) Tryz.underlying25 cells_145 (by decide) (fun _ _ _ => sg_in) h4
 obtain ⟨l5, k5⟩ := sl_in (R := RRt) Tryz.underlying26 cells_102 (by decide) (fun _ _ _ => rt_val) h5
 exact ⟨c2, c3, c4, c5, ⟨x0, x1, l2, l3, l4, l5⟩, rfl, k2, k3, k4, k5⟩
set_option maxRecDepth 100000 in
theorem state_in {r : Reach} {b0 : Nat} {v : Value} {d : DataW H} {p : List MemPlace} (hv : Value.okWide Tryz.prog W r b0 33 v) (h : DataW.Trod enc Tryz.prog W base sp hd 33 v d p) : ∃ t s l x, v = .agg #[t, s, l] ∧ StM W t s l x := by
 obtain ⟨cs, rfl, hsz⟩ := okWide_struct Tryz.underlying33 hv
 obtain ⟨c0, c1, c2, rfl⟩ := Go.Joins.array3 (hsz.trans cells_33)
 obtain ⟨n, h⟩ := h
 have h : DataW.trod enc Tryz.prog W base sp hd n 33 [c0, c1, c2] = some (d, p) := h
 obtain ⟨_, _, h0⟩ := field_in Tryz.underlying33 h 0 _ rfl 29 rfl 0 rfl cells_29 rfl
 obtain ⟨_, _, h1⟩ := field_in Tryz.underlying33 h 1 _ rfl 30 rfl 1 rfl cells_30 rfl
 obtain ⟨_, _, h2⟩ := field_in Tryz.underlying33 h 2 _ rfl 31 rfl 2 rfl cells_31 rfl
 obtain ⟨l0, k0⟩ := sl_in (R := RTk) Tryz.underlying29 cells_106 (by decide) (fun _ _ _ => tk_in) h0
 obtain ⟨l1, k1⟩ := sl_in (R := RSw) Tryz.underlying30 cells_108 (by decide) (fun _ _ _ => sw_in) h1
 obtain ⟨l2, k2⟩ := sl_in (R := RLk) Tryz.underlying31 cells_99 (by decide) (fun _ _ _ => lk_in) h2
 exact ⟨c0, c1, c2, ⟨l0, l1, l2⟩, rfl, k0, k1, k2⟩
set_option maxRecDepth 100000 in
theorem area_in {r : Reach} {b0 : Nat} {v : Value} {d : DataW H} {p : List MemPlace} (hv : Value.okWide Tryz.prog W r b0 56 v) (h : DataW.Trod enc Tryz.prog W base sp hd 56 v d p) : ∃ s q g rr x, v = .agg #[s, q, g, rr] ∧ AL W s q g rr x := by
 obtain ⟨cs, rfl, hsz⟩ := okWide_struct Tryz.underlying56 hv
 obtain ⟨c0, c1, c2, c3, rfl⟩ := Go.Joins.array4 (hsz.trans cells_56)
 obtain ⟨n, h⟩ := h
 have h : DataW.trod enc Tryz.prog W base sp hd n 56 [c0, c1, c2, c3] = some (d, p) := h
 obtain ⟨_, _, h0⟩ := field_in Tryz.underlying56 h 0 _ rfl 54 rfl 0 rfl cells_s54 rfl
 obtain ⟨_, _, h1⟩ := field_in Tryz.underlying56 h 1 _ rfl 54 rfl 1 rfl cells_s54 rfl
 obtain ⟨_, _, h2⟩ := field_in Tryz.underlying56 h 2 _ rfl 54 rfl 2 rfl cells_s54 rfl
 obtain ⟨_, _, h3⟩ := field_in Tryz.underlying56 h 3 _ rfl 54 rfl 3 rfl cells_s54 rfl
 obtain ⟨l0, k0⟩ := ints_in h0
 obtain ⟨l1, k1⟩ := ints_in h1
 obtain ⟨l2, k2⟩ := ints_in h2
 obtain ⟨l3, k3⟩ := ints_in h3
 exact ⟨c0, c1, c2, c3, ⟨l0, l1, l2, l3⟩, rfl, k0, k1, k2, k3⟩
end
end Go.Proofs.YtbiehpjhhopjaaaGreat
