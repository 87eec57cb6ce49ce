/-
 What a grip is kept in, and the functions that fill it, walked.
 state.held, state.asks, walked.
-/
import Derived.Test.YtbiehpjhhopjaaaGreatTData
import Derived.Test.YtbiehpjhhopjaaaGreatTMem
import Derived.Test.YtbiehpjhhopjaaaGreatTIxfn
import Derived.Test.YtbiehpjhhopjaaaGreatTTrackC
import Derived.Maps.OwnOps
import Derived.Maps.Views
import Derived.Test.YtbiehpjhhopjaaaGreatTConcat
import Derived.Deep.LoopGhost
import Derived.Deep.Light
import Derived.StillTailTactics
set_option linter.unusedVariables false
set_option linter.unusedSimpArgs false
namespace Go.Proofs.YtbiehpjhhopjaaaGreat
open Go.RowKit Go.Maps
structure GRow (W : World) (g : Nat) (H A : Nat → Int) (v : Value) : Prop where
 row : ∃ cur : Array Value, W.heap[g]? = some (.cells cur 171 (0, 0)) ∧ cur.size = 201 ∧ (∀ q, q < 100 → cur[q]? = some (.int .i64 (H q))) ∧ (∀ q, q < 100 → cur[100 + q]? = some (.int .i64 (A q))) ∧ cur[200]? = some v
section
variable {W W' : World} {g : Nat} {H A : Nat → Int} {v : Value}
theorem GRow.lt (h : GRow W g H A v) : g < W.heap.size := by
 obtain ⟨cur, hc, -⟩ := h.row
 exact lt_of_block hc
theorem GRow.same (h : GRow W g H A v) (hk : W'.heap[g]? = W.heap[g]?) : GRow W' g H A v := by
 obtain ⟨cur, hc, h1⟩ := h.row
 exact ⟨cur, hk.trans hc, h1⟩
theorem GRow.holder (h : GRow W g H A v) {q : Nat} (hq : q < 100) : W.cell? ⟨g, q, none⟩ = some (.int .i64 (H q)) := by
 obtain ⟨cur, hc, -, h1, -⟩ := h.row
 rw [cell_of_row W g q cur _ _ hc]; exact h1 q hq
theorem GRow.asked (h : GRow W g H A v) {q : Nat} (hq : q < 100) : W.cell? ⟨g, 100 + q, none⟩ = some (.int .i64 (A q)) := by
 obtain ⟨cur, hc, -, -, h1, -⟩ := h.row
 rw [cell_of_row W g _ cur _ _ hc]; exact h1 q hq
theorem GRow.ways (h : GRow W g H A v) : W.cell? ⟨g, 200, none⟩ = some v := by
 obtain ⟨cur, hc, -, -, -, h1⟩ := h.row
 rw [cell_of_row W g _ cur _ _ hc]; exact h1
theorem GRow.frozen (h : GRow W g H A v) (q : Nat) : W.frozen? ⟨g, q, none⟩ = false := by
 obtain ⟨cur, hc, -⟩ := h.row
 simp [World.frozen?, hc]
theorem GRow.setH (h : GRow W g H A v) {q : Nat} (hq : q < 100) (x : Int) : GRow (W.setCell ⟨g, q, none⟩ (.int .i64 x)) g (fun i => if i = q then x else H i) A v := by
 obtain ⟨cur, hc, hs, h1, h2, h3⟩ := h.row
 refine ⟨cur.setIfInBounds q (.int .i64 x), by simp [World.setCell, Array.getElem?_modify, hc], by simp [hs], fun i hi => ?_, fun i hi => ?_, ?_⟩
 ·rw [Array.getElem?_setIfInBounds]
  by_cases e : q = i
  ·subst e; simp [hs]; omega
  ·rw [if_neg e, if_neg (Ne.symm e)]; exact h1 i hi
 ·rw [Array.getElem?_setIfInBounds, if_neg (by omega)]; exact h2 i hi
 ·rw [Array.getElem?_setIfInBounds, if_neg (by omega)]; exact h3
theorem GRow.setA (h : GRow W g H A v) {q : Nat} (hq : q < 100) (x : Int) : GRow (W.setCell ⟨g, 100 + q, none⟩ (.int .i64 x)) g H (fun i => if i = q then x else A i) v := by
 obtain ⟨cur, hc, hs, h1, h2, h3⟩ := h.row
 refine ⟨cur.setIfInBounds (100 + q) (.int .i64 x), by simp [World.setCell, Array.getElem?_modify, hc], by simp [hs], fun i hi => ?_, fun i hi => ?_, ?_⟩
 ·rw [Array.getElem?_setIfInBounds, if_neg (by omega)]; exact h1 i hi
 ·rw [Array.getElem?_setIfInBounds]
  by_cases e : q = i
  ·subst e; simp [hs]; omega
  ·rw [if_neg (by omega), if_neg (Ne.symm e)]; exact h2 i hi
 ·rw [Array.getElem?_setIfInBounds, if_neg (by omega)]; exact h3
theorem GRow.setV (h : GRow W g H A v) (u : Value) : GRow (W.setCell ⟨g, 200, none⟩ u) g H A u := by
 obtain ⟨cur, hc, hs, h1, h2, h3⟩ := h.row
 refine ⟨cur.setIfInBounds 200 u, by simp [World.setCell, Array.getElem?_modify, hc], by simp [hs], fun i hi => ?_, fun i hi => ?_, ?_⟩
 ·rw [Array.getElem?_setIfInBounds, if_neg (by omega)]; exact h1 i hi
 ·rw [Array.getElem?_setIfInBounds, if_neg (by omega)]; exact h2 i hi
 ·rw [Array.getElem?_setIfInBounds]; simp [hs]
end
structure GrM (W : World) (gR gG : Nat) (g : Gr) (v : Value) : Prop where
 ok : W.heap[gR]? = some (.cells #[.bool g.ok] 4 (0, 0))
 row : GRow W gG g.H g.A v
structure Tw (gR gG : Nat) (W W' : World) : Prop where
 os : W'.os = W.os
 tape : W'.tape = W.tape
 output : W'.output = W.output
 size : W.heap.size ≤ W'.heap.size
 block : ∀ k, k < W.heap.size → k ≠ gR → k ≠ gG → W'.heap[k]? = W.heap[k]?
theorem Tw.refl (gR gG : Nat) (W : World) : Tw gR gG W W := ⟨rfl, rfl, rfl, Nat.le_refl _, fun _ _ _ _ => rfl⟩
theorem Tw.trans {gR gG : Nat} {a b c : World} (h : Tw gR gG a b) (k : Tw gR gG b c) : Tw gR gG a c := ⟨k.os.trans h.os, k.tape.trans h.tape, k.output.trans h.output, Nat.le_trans h.size k.size, fun i h1 h2 h3 => (k.block i (Nat.lt_of_lt_of_le h1 h.size) h2 h3).trans (h.block i h1 h2 h3)⟩
theorem Tw.of_below {gR gG : Nat} {W W' : World} (hb : Below W.heap.size W W') : Tw gR gG W W' := ⟨hb.os, hb.tape, hb.output, hb.size, fun k hk _ _ => hb.block k hk⟩
theorem Tw.setR {gR gG : Nat} (W : World) (o : Nat) (v : Value) : Tw gR gG W (W.setCell ⟨gR, o, none⟩ v) := ⟨rfl, rfl, rfl, by simp [World.setCell], fun k _ h _ => Below.heap_setCell W _ v k h⟩
theorem Tw.setG {gR gG : Nat} (W : World) (o : Nat) (v : Value) : Tw gR gG W (W.setCell ⟨gG, o, none⟩ v) := ⟨rfl, rfl, rfl, by simp [World.setCell], fun k _ _ h => Below.heap_setCell W _ v k h⟩
theorem Tw.below {gR gG B : Nat} {W W' : World} (h : Tw gR gG W W') (h1 : B ≤ gR) (h2 : B ≤ gG) (h3 : B ≤ W.heap.size) : Below B W W' := ⟨h.os, h.tape, h.output, h.size, fun k hk => h.block k (by omega) (by omega) (by omega)⟩
theorem GrM.below {W W' : World} {gR gG : Nat} {g : Gr} {v : Value} (h : GrM W gR gG g v) (hb : Below W.heap.size W W') : GrM W' gR gG g v :=
 ⟨(hb.block _ (lt_of_block h.ok)).trans h.ok, h.row.same (hb.block _ h.row.lt)⟩
theorem GrM.hold {W : World} {gR gG : Nat} {g : Gr} {v : Value} (h : GrM W gR gG g v) (n1 : gR ≠ gG) {n : Nat} (hn : n < 100) (id : Int) (b : Bool) : GrM ((W.setCell ⟨gR, 0, none⟩ (.bool b)).setCell ⟨gG, n, none⟩ (.int .i64 id)) gR gG ⟨fun q => if q = n then id else g.H q, g.A, b⟩ v :=
 ⟨(Below.heap_setCell _ _ _ gR n1).trans (by simp [World.setCell, Array.getElem?_modify, h.ok]), (h.row.same (Below.heap_setCell W ⟨gR, 0, none⟩ _ gG (Ne.symm n1))).setH hn id⟩
theorem GrM.ask {W : World} {gR gG : Nat} {g : Gr} {v : Value} (h : GrM W gR gG g v) (n1 : gR ≠ gG) {n : Nat} (hn : n < 100) (x : Int) (b : Bool) : GrM ((W.setCell ⟨gR, 0, none⟩ (.bool b)).setCell ⟨gG, 100 + n, none⟩ (.int .i64 x)) gR gG ⟨g.H, fun q => if q = n then x else g.A q, b⟩ v :=
 ⟨(Below.heap_setCell _ _ _ gR n1).trans (by simp [World.setCell, Array.getElem?_modify, h.ok]), (h.row.same (Below.heap_setCell W ⟨gR, 0, none⟩ _ gG (Ne.symm n1))).setA hn x⟩
def MapIs (W : World) (b : Nat) (n : Nat) (f : Int → Int) : Prop := ∃ D : DataW Unit, W.ownsMap Tryz.prog 3 (plainElem Tryz.prog 3) b n D ∧ IsMap D ∧ ∀ c : Int, (Lit.int .i64 c).wf = true → D.atKey (.int .i64 c) (.lit (.int .i64 0)) = .lit (.int .i64 (f c))
theorem MapIs.same {W W' : World} {b n : Nat} {f : Int → Int} (h : MapIs W b n f) (hk : W'.heap[b]? = W.heap[b]?) : MapIs W' b n f := by
 obtain ⟨D, ⟨es, clock, hb, F, hs, hD⟩, h2, h3⟩ := h
 exact ⟨D, ⟨es, clock, hk.trans hb, F, hs, hD⟩, h2, h3⟩
theorem MapIs.lt {W : World} {b n : Nat} {f : Int → Int} (h : MapIs W b n f) : b < W.heap.size := by
 obtain ⟨D, h1, -⟩ := h
 exact h1.lt
theorem law3 : Keyed Tryz.prog 3 := int_keyed Tryz.underlying3
theorem zero3 (w : World) : (zeroValue 3).run Tryz.prog w = .ok (.int .i64 0) w := by kernel_rfl
theorem wf64 {c : Int} (h1 : -1000 ≤ c) (h2 : c ≤ 1000) : (Lit.int .i64 c).wf = true := WalkArith.wf_i64 (by omega)
theorem plain292 (args : Array Value) (w : World) : Sem.run Tryz.prog (callFunc 292 args) w = .ok (.enter 292 args) w := by simp [go_sem]
theorem plain294 (args : Array Value) (w : World) : Sem.run Tryz.prog (callFunc 294 args) w = .ok (.enter 294 args) w := by simp [go_sem]
def GrPost (W : World) (gR gG : Nat) (v : Value) (g' : Gr) (e : Ending) (W' : World) : Prop := e = .returned (.bool g'.ok) ∧ GrM W' gR gG g' v ∧ Tw gR gG W W'
set_option maxRecDepth 100000 in
set_option maxHeartbeats 2000000 in
theorem holdone_any (gR gG gL : Nat) (g : Gr) (v : Value) (id s : Int) (W : World) (h : GrM W gR gG g v) (hl : W.cell? ⟨gL, 0, none⟩ = some (.int .i64 id)) (h0 : 0 ≤ s) (h1 : s ≤ 99) (n1 : gR ≠ gG) (n2 : gL ≠ gR) (n3 : gL ≠ gG) :
  Calls Tryz.prog 292 (#[.int .i64 s] ++ #[.pointer (some ⟨gR, 0, none⟩), .pointer (some ⟨gG, 0, none⟩), .pointer (some ⟨gL, 0, none⟩)]) W (GrPost W gR gG v (holdOne id g s)) := by
 obtain ⟨n, rfl⟩ := Int.eq_ofNat_of_zero_le h0
 have HG := Lib.hid h
 have hn : n < 100 := by omega
 have y0 : W.cell? ⟨gR, 0, none⟩ = some (.bool g.ok) := (cell_of_row W _ 0 _ _ _ h.ok).trans rfl
 have y1 : W.frozen? ⟨gR, 0, none⟩ = false := by simp [World.frozen?, h.ok]
 have z0 := h.row.holder hn
 have z1 := h.row.frozen n
 have l0 := lt_of_block h.ok
 have l1 := h.row.lt
 have l2 := World.block_lt_of_cell? _ _ hl
 have i0 : (0 : Int) ≤ (n : Int) := by omega
 have i1 : (n : Int) < 100 := by omega
 have HE : Hid (holdOne id g (n : Int) = ⟨fun q => if q = n then id else g.H q, g.A, g.ok && decide (g.H n = 0)⟩) := rfl
 generalize holdOne id g (n : Int) = G at *
 clear h h0 h1
 cases hok : g.ok with
 | true =>
  rw [hok] at y0
  have HOK : Hid (G.ok = (g.H n == 0)) := by show _ = _; rw [HE.out]; simp [hok]; rw [Bool.eq_iff_iff]; simp
  clear hok
  go_enter Tryz.func292, Tryz.ntmps292
  go_wp2_with fail
  go_ret
  refine ⟨rbool HOK.out.symm, ?_, (Tw.setR _ _ _).trans (Tw.setG _ _ _)⟩
  have hG : G = ⟨fun q => if q = n then id else g.H q, g.A, g.H n == 0⟩ := by rw [← HOK.out]; have := HE.out; rw [this]
  rw [hG]
  exact HG.out.hold n1 hn id _
 | false =>
  rw [hok] at y0
  have HOK : Hid (G.ok = false) := by show _ = _; rw [HE.out]; simp [hok]
  clear hok
  go_enter Tryz.func292, Tryz.ntmps292
  go_wp2_with fail
  go_ret
  refine ⟨rbool HOK.out.symm, ?_, (Tw.setR _ _ _).trans (Tw.setG _ _ _)⟩
  have hG : G = ⟨fun q => if q = n then id else g.H q, g.A, false⟩ := by rw [← HOK.out]; have := HE.out; rw [this]
  rw [hG]
  exact HG.out.hold n1 hn id _
set_option maxRecDepth 100000 in
theorem MapIs.look {W : World} {b n : Nat} {f : Int → Int} (h : MapIs W b n f) {c : Int} (hc : (Lit.int .i64 c).wf = true) : (Instr.lookup 357 (.map (some b)) (.int .i64 c) false).run Tryz.prog W = .ok (.int .i64 (f c)) W := by
 obtain ⟨D, h1, -, h3⟩ := h
 obtain ⟨x, hrun, hat, -⟩ := h1.lookup_int law3 Tryz.underlying357 Tryz.underlying3 (zero3 W) (keyOf_int_mk Tryz.underlying3 hc)
 rw [h3 c hc] at hat
 injection hat with hat
 injection hat with _ hat
 rw [hat]
 exact hrun
set_option maxRecDepth 100000 in
set_option maxHeartbeats 2000000 in
theorem askone_any (gR gM gG b : Nat) (m : Nat) (f : Int → Int) (g : Gr) (v : Value) (x : Ask) (W : World) (h : GrM W gR gG g v) (hl : W.cell? ⟨gM, 0, none⟩ = some (.map (some b))) (hm : MapIs W b m f) (h0 : 1 ≤ x.pt) (h1 : x.pt ≤ 99) (n1 : gR ≠ gG) (n2 : gM ≠ gR) (n3 : gM ≠ gG) :
  Calls Tryz.prog 294 (#[.agg #[.int .i64 x.pt, .int .i64 x.lie, .int .i64 x.pl]] ++ #[.pointer (some ⟨gR, 0, none⟩), .pointer (some ⟨gM, 0, none⟩), .pointer (some ⟨gG, 0, none⟩)]) W (GrPost W gR gG v (askOne f g x)) := by
 obtain ⟨pt, lie, pl⟩ := x
 simp only [] at h0 h1 ⊢
 obtain ⟨n, rfl⟩ := Int.eq_ofNat_of_zero_le (show 0 ≤ pt by omega)
 have HG := Lib.hid h
 have hn : n < 100 := by omega
 have y0 : W.cell? ⟨gR, 0, none⟩ = some (.bool g.ok) := (cell_of_row W _ 0 _ _ _ h.ok).trans rfl
 have y1 : W.frozen? ⟨gR, 0, none⟩ = false := by simp [World.frozen?, h.ok]
 have z0 := h.row.asked hn
 have z1 := h.row.frozen (100 + n)
 have l0 := lt_of_block h.ok
 have l1 := h.row.lt
 have l2 := World.block_lt_of_cell? _ _ hl
 have i0 : (0 : Int) ≤ (n : Int) := by omega
 have i1 : (n : Int) < 100 := by omega
 have HMK : Hid (∀ W', Below W.heap.size W W' → (Instr.lookup 357 (.map (some b)) (.int .i64 (n : Int)) false).run Tryz.prog W' = .ok (.int .i64 (f n)) W') := fun W' hb => (hm.same (hb.block _ hm.lt)).look (wf64 (by omega) (by omega))
 have HE : Hid (askOne f g ⟨(n : Int), lie, pl⟩ = ⟨g.H, fun q => if q = n then lie else g.A q, g.ok && decide (f (n : Int) = lie)⟩) := rfl
 generalize askOne f g ⟨(n : Int), lie, pl⟩ = G at *
 have hlk := HMK.out (W.alloc (.cells #[.int .i64 (n : Int), .int .i64 lie, .int .i64 pl] 281)) ((Below.refl _ _).alloc (Nat.le_refl _) _)
 clear h h0 h1 hm HMK
 cases hok : g.ok with
 | true =>
  rw [hok] at y0
  have HOK : Hid (G.ok = (f (n : Int) == lie)) := by show _ = _; rw [HE.out]; simp [hok]; rw [Bool.eq_iff_iff]; simp
  clear hok
  go_enter Tryz.func294, Tryz.ntmps294
  go_wp2_with fail
  go_ret
  refine ⟨rbool HOK.out.symm, ?_, ?_⟩
  ·have hG : G = ⟨g.H, fun q => if q = n then lie else g.A q, f (n : Int) == lie⟩ := by rw [← HOK.out]; have := HE.out; rw [this]
   rw [hG]
   exact (HG.out.ask n1 hn lie _).below ((Below.refl _ _).alloc (Nat.le_refl _) _)
  ·exact ((Tw.setR _ _ _).trans (Tw.setG _ _ _)).trans (Tw.of_below ((Below.refl _ _).alloc (Nat.le_refl _) _))
 | false =>
  rw [hok] at y0
  have HOK : Hid (G.ok = false) := by show _ = _; rw [HE.out]; simp [hok]
  clear hok hlk
  go_enter Tryz.func294, Tryz.ntmps294
  go_wp2_with fail
  go_ret
  refine ⟨rbool HOK.out.symm, ?_, ?_⟩
  ·have hG : G = ⟨g.H, fun q => if q = n then lie else g.A q, false⟩ := by rw [← HOK.out]; have := HE.out; rw [this]
   rw [hG]
   exact (HG.out.ask n1 hn lie _).below ((Below.refl _ _).alloc (Nat.le_refl _) _)
  ·exact ((Tw.setR _ _ _).trans (Tw.setG _ _ _)).trans (Tw.of_below ((Below.refl _ _).alloc (Nat.le_refl _) _))
end Go.Proofs.YtbiehpjhhopjaaaGreat
namespace Go.Proofs.YtbiehpjhhopjaaaGreat
open Go.RowKit Go.Maps
def GraPost (W : World) (gR gG : Nat) (v : Value) (g' : Gr) (e : Ending) (W' : World) : Prop := e = .returned (.tuple #[]) ∧ GrM W' gR gG g' v ∧ Tw gR gG W W'
set_option maxRecDepth 100000 in
set_option maxHeartbeats 8000000 in
theorem asks_any (gR gM gG b : Nat) (m : Nat) (f : Int → Int) (g : Gr) (v : Value) (ww : Wy) (l : Lk) (vp vo : Value) (aa : Option Addr) (ca : Nat) (W : World) (h : GrM W gR gG g v) (hl : W.cell? ⟨gM, 0, none⟩ = some (.map (some b))) (hm : MapIs W b m f) (hfit : AsksFit ww.asks) (n1 : gR ≠ gG) (n2 : gM ≠ gR) (n3 : gM ≠ gG)
  (ha : ∀ W', Tw gR gG W W' → SlA W' 3 RAsk aa ca ww.asks) (hal : ww.asks.length ≤ 1000) :
  Calls Tryz.prog 293 #[.agg #[vp, vo, .slice aa ww.asks.length ca, .int .i64 ww.near], .agg #[.int .i64 l.id, .int .u8 l.ph, .int .i64 l.gone, .int .i64 l.left], .func (.func 294) #[] #[.pointer (some ⟨gR, 0, none⟩), .pointer (some ⟨gM, 0, none⟩), .pointer (some ⟨gG, 0, none⟩)]] W (GraPost W gR gG v (askAll f (asksL ww l) g)) := by
 have hcf : ∀ (args : Array Value) (w : World), Sem.run Tryz.prog (callFunc 294 args) w = .ok (.enter 294 args) w := plain294
 have lR := lt_of_block h.ok
 have lG := h.row.lt
 have lM : gM < W.heap.size := World.block_lt_of_cell? _ _ hl
 have HA := Lib.hid ha
 have HG := Lib.hid h
 have HFI := Lib.hid hfit
 have HLK : Hid (∀ W', Tw gR gG W W' → W'.cell? ⟨gM, 0, none⟩ = some (.map (some b))) := fun W' ht => (World.cell?_of_block (w := W) (ht.block gM lM n2 n3)).trans hl
 have HMM : Hid (∀ W', Tw gR gG W W' → MapIs W' b m f) := fun W' ht => hm.same (ht.block b hm.lt (fun e => by
  subst e
  obtain ⟨D, ⟨es, clock, hb, _⟩, _⟩ := hm
  rw [h.ok] at hb
  cases hb) (fun e => by
  subst e
  obtain ⟨D, ⟨es, clock, hb, _⟩, _⟩ := hm
  obtain ⟨cur, hc, _⟩ := h.row.row
  rw [hc] at hb
  cases hb))
 have HE : Hid (asksL ww l = if l.ph = 0 then [] else ww.asks.filter fun a => decide (a.pl < 0 ∨ l.gone ≤ a.pl)) := rfl
 generalize asksL ww l = L at *
 clear h hl hm hfit ha
 by_cases hph : l.ph = 0
 ·have t0 : (l.ph == 0) = true := by rw [beq_iff_eq]; exact hph
  rw [if_pos hph] at HE
  have hE := HE.out
  subst hE
  clear hph
  go_enter Tryz.func293, Tryz.ntmps293
  go_wp2_with fail
  have hb : Below W.heap.size W ((W.alloc (.cells #[vp, vo, .slice aa ww.asks.length ca, .int .i64 ww.near] 184)).alloc (.cells #[.int .i64 l.id, .int .u8 l.ph, .int .i64 l.gone, .int .i64 l.left] 99)) := ((Below.refl _ _).alloc (Nat.le_refl _) _).alloc (by simp) _
  exact bodyPost_ret (v := .tuple #[]) (by simp [results, Tryz.f293, go_sem]) rfl ⟨rfl, HG.out.below hb, Tw.of_below hb⟩
 ·have t0 : (l.ph == 0) = false := by rw [beq_eq_false_iff_ne]; exact hph
  rw [if_neg hph] at HE
  clear hph
  go_enter Tryz.func293, Tryz.ntmps293
  go_wp2_with fail
  generalize hW : (W.alloc _).alloc _ = W1
  have hb1 : Below W.heap.size W W1 := by rw [← hW]; exact ((Below.refl _ _).alloc (Nat.le_refl _) _).alloc (by simp) _
  have HT1 : Hid (Tw gR gG W W1) := Tw.of_below hb1
  have HLC : Hid (∀ W', Tw gR gG W1 W' → W'.cell? ⟨W.heap.size + 1, 2, none⟩ = some (.int .i64 l.gone) ∧ W.heap.size + 1 < W'.heap.size) := fun W' ht =>
   ⟨(World.cell?_of_block (w := W1) (ht.block (W.heap.size + 1) (by rw [← hW]; simp) (by omega) (by omega))).trans (by rw [← hW]; simp [go_sem]), Nat.lt_of_lt_of_le (by rw [← hW]; simp) ht.size⟩
  have HG1 := Lib.hid (HG.out.below hb1)
  clear hW hb1
  go_loopg [14] ww.asks.length (fun g' i wr => ∃ (k : Nat) (gk : Gr), k ≤ ww.asks.length ∧ g' = ww.asks.length - k ∧ i = .int .i64 k ∧ GrM wr gR gG gk v ∧ Tw gR gG W1 wr ∧ askAll f L g = askAll f ((ww.asks.drop k).filter fun a => decide (a.pl < 0 ∨ l.gone ≤ a.pl)) gk)
  case atStart => exact ⟨0, g, by omega, by omega, rfl, HG1.out, Tw.refl _ _ _, by rw [HE.out]; rfl⟩
  case round =>
   obtain ⟨k, gk, hk, rfl, rfl, hg, ht, heq⟩ := hrel
   obtain ⟨wo, rfl⟩ : ∃ wo : World, wo = wr := ⟨_, rfl⟩
   have HGK := Lib.hid hg
   have HTK := Lib.hid ht
   have HEQ := Lib.hid heq
   have HT0 : Hid (Tw gR gG W wo) := HT1.out.trans ht
   clear hg ht heq
   by_cases hlt : k < ww.asks.length
   ·have hdk : decide ((k : Int) < (ww.asks.length : Int)) = true := by simp; omega
    obtain ⟨bb, off, rfl, x0, x1, x2⟩ := (HA.out _ HT0.out).ask hlt
    have c0 : (0 : Int) ≤ (k : Int) := by omega
    have c1 : (k : Int) < (ww.asks.length : Int) := by omega
    have lb := World.block_lt_of_cell? _ _ x0
    obtain ⟨y2, ly⟩ := HLC.out _ HTK.out
    have HDR : Hid (ww.asks.drop k = ww.asks[k] :: ww.asks.drop (k + 1)) := List.drop_eq_getElem_cons hlt
    have hfk := HFI.out ww.asks[k] (List.getElem_mem hlt)
    go_upto_region 5 with fail
    generalize hWJ : wo.alloc _ = WJ
    have hbJ : Below wo.heap.size wo WJ := by rw [← hWJ]; exact (Below.refl _ _).alloc (Nat.le_refl _) _
    have HTJ : Hid (Tw gR gG W1 WJ) := HTK.out.trans (Tw.of_below hbJ)
    have HTJ0 : Hid (Tw gR gG W WJ) := HT0.out.trans (Tw.of_below hbJ)
    have HGJ := Lib.hid (HGK.out.below hbJ)
    have j0 : WJ.cell? ⟨wo.heap.size, 0, none⟩ = some (.int .i64 ww.asks[k].pt) := by rw [← hWJ]; simp
    have j1 : WJ.cell? ⟨wo.heap.size, 1, none⟩ = some (.int .i64 ww.asks[k].lie) := by rw [← hWJ]; simp
    have j2 : WJ.cell? ⟨wo.heap.size, 2, none⟩ = some (.int .i64 ww.asks[k].pl) := by rw [← hWJ]; simp
    have y2 : WJ.cell? ⟨W.heap.size + 1, 2, none⟩ = some (.int .i64 l.gone) := (HLC.out _ HTJ.out).1
    have HCL := Lib.hid (askone_any gR gM gG b m f gk v ww.asks[k] WJ HGJ.out (HLK.out _ HTJ0.out) (HMM.out _ HTJ0.out) hfk.1 hfk.2 n1 n2 n3)
    clear hWJ hbJ x0 x1 x2 lb ly hfk
    by_cases hp : ww.asks[k].pl < 0 ∨ l.gone ≤ ww.asks[k].pl
    ·have HF : Hid (askAll f L g = if (askOne f gk ww.asks[k]).ok then askAll f ((ww.asks.drop (k + 1)).filter fun a => decide (a.pl < 0 ∨ l.gone ≤ a.pl)) (askOne f gk ww.asks[k]) else askOne f gk ww.asks[k]) := by
      show _ = _
      rw [HEQ.out, HDR.out, List.filter_cons_of_pos (by simpa using hp)]
      rfl
     generalize hG2 : askOne f gk ww.asks[k] = G2 at *
     clear hG2
     have tail : True := trivial
     by_cases hp1 : ww.asks[k].pl < 0
     ·have t1 : decide (ww.asks[k].pl < 0) = true := by simpa using hp1
      clear hp hp1
      cases hok : G2.ok with
      | true =>
       unfold GrPost at HCL
       rw [hok] at HCL
       rw [hok] at HF
       clear hok
       go_wp2_with fail
       refine HCL.out.mono ?_
       rintro e w2 ⟨rfl, hg2, ht2⟩
       have HG2 := Lib.hid hg2
       have HT2 : Hid (Tw gR gG W1 w2) := HTJ.out.trans ht2
       clear hg2 ht2 HCL j0 j1 j2 y2
       go_wp2_with fail
       go_roundg (ww.asks.length - (k + 1))
       case measure => go_light; omega
       case rel => go_light; exact ⟨k + 1, G2, by omega, by omega, by go_num, HG2.out, HT2.out, by simpa using HF.out⟩
      | false =>
       unfold GrPost at HCL
       rw [hok] at HCL
       rw [hok] at HF
       clear hok
       go_wp2_with fail
       refine HCL.out.mono ?_
       rintro e w2 ⟨rfl, hg2, ht2⟩
       have HG2 := Lib.hid hg2
       have HT2 : Hid (Tw gR gG W w2) := HTJ0.out.trans ht2
       clear hg2 ht2 HCL j0 j1 j2 y2
       go_wp2_with fail
       refine bodyPost_ret (v := .tuple #[]) (by simp [results, Tryz.f293, go_sem]) rfl ⟨rfl, ?_, HT2.out⟩
       have hF := HF.out
       simp at hF
       rw [hF]
       exact HG2.out
     ·have t1 : decide (ww.asks[k].pl < 0) = false := by simpa using hp1
      have t2 : decide (l.gone ≤ ww.asks[k].pl) = true := by simp; omega
      clear hp hp1
      cases hok : G2.ok with
      | true =>
       unfold GrPost at HCL
       rw [hok] at HCL
       rw [hok] at HF
       clear hok
       go_wp2_with fail
       refine HCL.out.mono ?_
       rintro e w2 ⟨rfl, hg2, ht2⟩
       have HG2 := Lib.hid hg2
       have HT2 : Hid (Tw gR gG W1 w2) := HTJ.out.trans ht2
       clear hg2 ht2 HCL j0 j1 j2 y2
       go_wp2_with fail
       go_roundg (ww.asks.length - (k + 1))
       case measure => go_light; omega
       case rel => go_light; exact ⟨k + 1, G2, by omega, by omega, by go_num, HG2.out, HT2.out, by simpa using HF.out⟩
      | false =>
       unfold GrPost at HCL
       rw [hok] at HCL
       rw [hok] at HF
       clear hok
       go_wp2_with fail
       refine HCL.out.mono ?_
       rintro e w2 ⟨rfl, hg2, ht2⟩
       have HG2 := Lib.hid hg2
       have HT2 : Hid (Tw gR gG W w2) := HTJ0.out.trans ht2
       clear hg2 ht2 HCL j0 j1 j2 y2
       go_wp2_with fail
       refine bodyPost_ret (v := .tuple #[]) (by simp [results, Tryz.f293, go_sem]) rfl ⟨rfl, ?_, HT2.out⟩
       have hF := HF.out
       simp at hF
       rw [hF]
       exact HG2.out
    ·have t1 : decide (ww.asks[k].pl < 0) = false := by simp; omega
     have t2 : decide (l.gone ≤ ww.asks[k].pl) = false := by simp; omega
     have HF : Hid (askAll f L g = askAll f ((ww.asks.drop (k + 1)).filter fun a => decide (a.pl < 0 ∨ l.gone ≤ a.pl)) gk) := by
      show _ = _
      rw [HEQ.out, HDR.out, List.filter_cons_of_neg (by simpa using hp)]
     clear hp HCL
     go_wp2_with fail
     go_roundg (ww.asks.length - (k + 1))
     case measure => go_light; omega
     case rel => go_light; exact ⟨k + 1, gk, by omega, by omega, by go_num, HGJ.out, HTJ.out, HF.out⟩
   ·obtain rfl : k = ww.asks.length := by omega
    have hdk : decide ((ww.asks.length : Int) < (ww.asks.length : Int)) = false := by simp
    have HF : Hid (askAll f L g = gk) := by
     show _ = _
     rw [HEQ.out, List.drop_length]
     rfl
    go_wp2_with fail
    refine bodyPost_ret (v := .tuple #[]) (by simp [results, Tryz.f293, go_sem]) rfl ⟨rfl, ?_, HT0.out⟩
    rw [HF.out]
    exact HGK.out
end Go.Proofs.YtbiehpjhhopjaaaGreat
