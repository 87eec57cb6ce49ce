/-
 state.grip, walked.
-/
import Derived.Test.YtbiehpjhhopjaaaGreatTGripA
import Derived.Test.YtbiehpjhhopjaaaGreatTStateD
import Derived.WideLaws
import Derived.Laws.EntriesVeiled
set_option linter.unusedVariables false
set_option linter.unusedSimpArgs false
namespace Go.Proofs.YtbiehpjhhopjaaaGreat
open Go.RowKit Go.Maps Go.Sort
structure GArr (cs : Array Value) (H A : Nat → Int) (v : Value) : Prop where
 size : cs.size = 201
 H : ∀ q, q < 100 → cs[q]? = some (.int .i64 (H q))
 A : ∀ q, q < 100 → cs[100 + q]? = some (.int .i64 (A q))
 v : cs[200]? = some v
theorem GRow.arr {W : World} {g : Nat} {H A : Nat → Int} {v : Value} (h : GRow W g H A v) : ∃ cur, W.heap[g]? = some (.cells cur 171 (0, 0)) ∧ GArr cur H A v := by
 obtain ⟨cur, h1, h2, h3, h4, h5⟩ := h.row
 exact ⟨cur, h1, h2, h3, h4, h5⟩
theorem GArr.one {cs : Array Value} {H A : Nat → Int} {a : Option Addr} {l c : Nat} (h : GArr cs H A (.slice a l c)) : cs.all (·.oneCell') = true := by
 rw [Array.all_eq_true]
 intro i hi
 have hs := h.size
 have h2 : ∃ u, cs[i]? = some u ∧ u.oneCell' = true := by
  by_cases h1 : i < 100
  ·exact ⟨_, h.H i h1, rfl⟩
  ·by_cases h2 : i < 200
   ·have := h.A (i - 100) (by omega)
    rw [show 100 + (i - 100) = i by omega] at this
    exact ⟨_, this, rfl⟩
   ·have e : i = 200 := by omega
    subst e
    exact ⟨_, h.v, rfl⟩
 obtain ⟨u, h3, h4⟩ := h2
 rw [Array.getElem?_eq_getElem hi] at h3
 rw [Option.some.inj h3]
 exact h4
theorem setRow_self {W : World} {g : Nat} {cur : Array Value} {T : TypeId} {fr : Nat × Nat} (h : W.heap[g]? = some (.cells cur T fr)) : W.setRow g cur = W := by
 have : W.heap.modify g (fun | .cells _ elem frozen => .cells cur elem frozen | o => o) = W.heap := by
  apply Array.ext
  ·simp
  ·intro i h1 h2
   rw [Array.getElem_modify]
   split
   ·rename_i e
    subst e
    rw [Array.getElem?_eq_getElem h2] at h
    rw [Option.some.inj h]
   ·rfl
 show ({ W with heap := _ } : World) = W
 cases W
 simp only [World.mk.injEq, and_true]
 exact this
theorem info171 : (Tryz.prog.info? 171).map (·.size) = some 201 := by kernel_rfl
theorem zero171 : Tryz.zeroCells171 = (Array.replicate 200 (.int .i64 0)).push (.slice none 0 0) := by kernel_rfl
theorem garr_zero : GArr Tryz.zeroCells171 (fun _ => 0) (fun _ => 0) (.slice none 0 0) := by
 rw [zero171]
 refine ⟨by simp, fun q hq => ?_, fun q hq => ?_, ?_⟩
 ·rw [Array.getElem?_push_lt (by simp; omega)]; simp
 ·rw [Array.getElem?_push_lt (by simp; omega)]; simp
 ·rw [Array.getElem?_push]; simp
theorem results_two {fn : Func} {p q : Tmp} {ty : TypeId} (h : fn.results = #[.cell p ty, .cell q 4]) (tmps : Array Value) (w : World) (g g2 : Nat) (cs : Array Value) (b : Bool)
  (hp : tmps.getD p undef = .pointer (some ⟨g, 0, none⟩)) (hq : tmps.getD q undef = .pointer (some ⟨g2, 0, none⟩)) (hl : (loadVar ty ⟨g, 0, none⟩).run Tryz.prog w = .ok (.agg cs) w) (hb : w.cell? ⟨g2, 0, none⟩ = some (.bool b)) :
  (results fn tmps).run Tryz.prog w = .ok (.tuple #[.agg cs, .bool b]) w := by
 have hp' : tmps[p]?.getD undef = .pointer (some ⟨g, 0, none⟩) := by simpa using hp
 have hq' : tmps[q]?.getD undef = .pointer (some ⟨g2, 0, none⟩) := by simpa using hq
 have h4 : Sem.run Tryz.prog (loadVar 4 ⟨g2, 0, none⟩) w = .ok (.bool b) w := by simp [go_sem, hb]
 simp [results, h, hp', hq', asAddr, hl, h4]
theorem set_self {W : World} {g : Nat} {u : Value} {T : TypeId} {fr : Nat × Nat} (h : W.heap[g]? = some (.cells #[u] T fr)) : W.setCell ⟨g, 0, none⟩ u = W := by
 have : (W.setCell ⟨g, 0, none⟩ u).heap = W.heap := by
  apply Array.ext
  ·simp [World.setCell]
  ·intro i h1 h2
   have : (W.setCell ⟨g, 0, none⟩ u).heap[i]? = W.heap[i]? := by
    by_cases e : i = g
    ·subst e; simp [World.setCell, Array.getElem?_modify, h]
    ·exact Below.heap_setCell W ⟨g, 0, none⟩ u i e
   rw [Array.getElem?_eq_getElem h1, Array.getElem?_eq_getElem h2] at this
   exact Option.some.inj this
 show ({ W with heap := _ } : World) = W
 cases W
 simp only [World.mk.injEq, and_true]
 exact this
theorem row_set0 {W : World} {g : Nat} {u v : Value} {T : TypeId} {fr : Nat × Nat} (h : W.heap[g]? = some (.cells #[u] T fr)) : (W.setCell ⟨g, 0, none⟩ v).cell? ⟨g, 0, none⟩ = some v := (cell_of_row _ _ 0 #[v] T fr (by simp [World.setCell, Array.getElem?_modify, h])).trans rfl
structure R18 (w0 : World) (cur : Array Value) (ok : Bool) (f0 f1 : Bool) (s82 s83 : Value) (W : World) : Prop where
 heap : W.heap = w0.heap
 os : W.os = w0.os
 tape : W.tape = w0.tape
 output : W.output = w0.output
 h0 : f0 = true → s82 = .agg cur
 h1 : f1 = true → s83 = .bool ok
theorem wpOp_load_row {ops : Array Oper} {i : Nat} {o : Oper} {a : Act} {w : World} {Q : Exit → Act → World → Prop} {K : Act → World → Prop} (h : ops[i]? = some o) (hgd : o.guard = none) (x : Operand) (ho : o.op = .load 171 x)
  (g : Nat) (hx : a.eval x = .pointer (some ⟨g, 0, none⟩)) (t : TypeId) (cs : Array Value) (fr : Nat × Nat) (hg : w.heap[g]? = some (.cells cs t fr))
  (hi : (Tryz.prog.info? 171).map (·.size) = some cs.size)
  (hK : K (a.put o.dst (.agg cs)) w) : wpOp Tryz.prog ops Q i K a w := by
 unfold wpOp
 rw [h]
 have hw : Region.wanted o (yielded ops a.tmps) = true := by simp [Region.wanted, hgd]
 simp only [hw, if_true]
 exact .inl (wp_load_row 171 x ho g hx t cs fr _ hg Tryz.underlying171 rfl hi hK)
theorem wpOp_store_row {ops : Array Oper} {i : Nat} {o : Oper} {a : Act} {w : World} {Q : Exit → Act → World → Prop} {K : Act → World → Prop} (h : ops[i]? = some o) (hgd : o.guard = none) (ty : TypeId) (x y : Operand) (ho : o.op = .store ty x y)
  (g : Nat) (cells : Array Value) (hx : a.eval x = .pointer (some ⟨g, 0, none⟩)) (hy : a.eval y = .agg cells)
  (t : TypeId) (old : Array Value) (hg : w.heap[g]? = some (.cells old t (0, 0))) (hi : (Tryz.prog.info? ty).map (·.size) = some cells.size)
  (hold : old.size = cells.size) (h1 : cells.all (·.oneCell') = true)
  (hK : K (a.put o.dst undef) (w.setRow g cells)) : wpOp Tryz.prog ops Q i K a w := by
 unfold wpOp
 rw [h]
 have hw : Region.wanted o (yielded ops a.tmps) = true := by simp [Region.wanted, hgd]
 simp only [hw, if_true]
 exact .inl (wp_store_row ty x y ho g cells hx hy t old hg hi hold h1 hK)
theorem load171 {W : World} {g : Nat} {cur : Array Value} (h : W.heap[g]? = some (.cells cur 171 (0, 0))) (hs : cur.size = 201) : (loadVar 171 ⟨g, 0, none⟩).run Tryz.prog W = .ok (.agg cur) W :=
 run_loadVar_row W g 171 171 cur (0, 0) _ h Tryz.underlying171 rfl (by rw [info171, hs])
def stV (t s l : Value) : Value := .agg #[t, s, l]
def GripPost (w : World) (p : Pl) (st : St) (e : Ending) (w' : World) : Prop :=
 Below w.heap.size w w' ∧ ∃ cs H A a l c b, e = .returned (.tuple #[.agg cs, .bool b]) ∧ GArr cs H A (.slice a l c) ∧ ((b = false ∧ ¬ StMay p st) ∨ (b = true ∧ StMay p st ∧ H = (grOf p st).H ∧ A = (grOf p st).A))
set_option maxRecDepth 100000 in
set_option maxHeartbeats 16000000 in
theorem grip_any (p : Pl) (st : St) (s q gg rr t sw lk : Value) (w : World) (hp : PlM w s q gg rr p) (hf : p.Fit) (hs : StM w t sw lk st) (hsf : st.fit) (hS : PlanSound p) :
  Calls Tryz.prog 205 #[plV p s q gg rr, stV t sw lk] w (GripPost w p st) := by
 have HAL : Hid (∀ w', Below w.heap.size w w' → Calls Tryz.prog 120 #[plV p s q gg rr] w' (AllPost w' p)) := fun w' hb => all_any p s q gg rr w' (hp.below hb) hf
 have HSO := Lib.hid hS
 obtain ⟨a1, c1, rfl, k1⟩ := hp.secs
 obtain ⟨a2, c2, rfl, k2⟩ := hp.pts
 obtain ⟨a3, c3, rfl, -⟩ := hp.sigs
 obtain ⟨a4, c4, rfl, k4⟩ := hp.rts
 obtain ⟨b1, d1, rfl, m1⟩ := hs.tks
 obtain ⟨b2, d2, rfl, m2⟩ := hs.sws
 obtain ⟨b3, d3, rfl, m3⟩ := hs.lks
 have HEQ1 : Hid (∀ w', Below w.heap.size w w' → Calls Tryz.prog 284 #[.slice b1 st.tks.length d1, .slice a1 p.secs.length c1, .func (.func 285) #[] #[]] w' (BoolPost w' (decide (Pairs TkAt st.tks p.secs)))) := fun w' hb =>
  eqfnTk 285 #[] TkAt b1 a1 d1 c1 st.tks p.secs w' (m1.below keeps_tk hb) (k1.below keeps_sec hb) hsf.1 hf.secs plain285 (fun W i h h' s1 e1 _ => isTkSec _ _ s1 e1 W)
 have HEQ2 : Hid (∀ w' g, Below w.heap.size w w' → w'.cell? ⟨g, 0, none⟩ = some (.func (.func 283) #[] #[]) → Calls Tryz.prog 286 #[.slice b2 st.sws.length d2, .slice a2 p.pts.length c2, .func (.func 287) #[] #[.pointer (some ⟨g, 0, none⟩)]] w' (BoolPost w' (decide (Pairs SwAt st.sws p.pts)))) := fun w' g hb hg =>
  eqfnSw 287 #[.pointer (some ⟨g, 0, none⟩)] SwAt b2 a2 d2 c2 st.sws p.pts w' (m2.below keeps_sw hb) (k2.below keeps_pt hb) hsf.2.1 hf.pts plain287 (fun W i h h' hb' => isSwPt _ _ g W (ccell hb' hg))
 have HEQ3 : Hid (∀ w', Below w.heap.size w w' → Calls Tryz.prog 288 #[.slice b3 st.lks.length d3, .slice a4 p.rts.length c4, .func (.func 289) #[] #[]] w' (BoolPost w' (decide (Pairs LkAt st.lks p.rts)))) := fun w' hb =>
  eqfnLk 289 #[] LkAt b3 a4 d3 c4 st.lks p.rts w' (m3.below keeps_lk hb) (k4.below keeps_rt hb) hsf.2.2 hf.rts plain289 (fun W i h h' s1 e1 s2 e2 s3 e3 _ => isLkRt _ _ s1 s2 s3 e1 e2 e3 W (hf.rt i h').1)
 have HSW : Hid (∀ w', Below w.heap.size w w' → SlA w' 3 RSw b2 d2 st.sws) := fun w' hb => m2.below keeps_sw hb
 have HLK : Hid (∀ w', Below w.heap.size w w' → SlA w' 4 RLk b3 d3 st.lks) := fun w' hb => m3.below keeps_lk hb
 have hsw := hsf.2.1
 have hlk := hsf.2.2
 have HST : Hid (StMay p st ↔ (Pairs TkAt st.tks p.secs ∧ Pairs SwAt st.sws p.pts ∧ Pairs LkAt st.lks p.rts) ∧ (grOf p st).ok = true) := Iff.rfl
 clear hp hf hs hsf hS k1 k2 k4 m1 m2 m3
 unfold plV stV at *
 go_enter Tryz.func205, Tryz.ntmps205
 go_upto_region 2 with fail
 generalize hW0 : World.alloc _ _ = W0
 have K0 : Hid (Below w.heap.size w W0) := by show Below _ _ _; rw [← hW0]; exact (((((Below.refl _ _).alloc (Nat.le_refl _) _).alloc (by simp) _).alloc (by simp <;> omega) _).alloc (by simp <;> omega) _).alloc (by simp <;> omega) _
 have hz0 : W0.heap.size = w.heap.size + 5 := by rw [← hW0]; simp
 have hbP : W0.heap[w.heap.size]? = some (.cells #[.int .i64 p.ver, .int .i64 p.par, .slice a1 p.secs.length c1, .slice a2 p.pts.length c2, .slice a3 p.sigs.length c3, .slice a4 p.rts.length c4] 28 (0, 0)) := by
  rw [← hW0]
  exact (heap_alloc_old _ _ (by simp <;> omega)).trans ((heap_alloc_old _ _ (by simp <;> omega)).trans ((heap_alloc_old _ _ (by simp <;> omega)).trans ((heap_alloc_old _ _ (by simp)).trans (heap_alloc_new _ _))))
 have hbS : W0.heap[w.heap.size + 1]? = some (.cells #[.slice b1 st.tks.length d1, .slice b2 st.sws.length d2, .slice b3 st.lks.length d3] 33 (0, 0)) := by
  rw [← hW0]
  exact (heap_alloc_old _ _ (by simp <;> omega)).trans ((heap_alloc_old _ _ (by simp <;> omega)).trans ((heap_alloc_old _ _ (by simp)).trans (heap_alloc2_new _ _ _)))
 have hbG : W0.heap[w.heap.size + 1 + 1]? = some (.cells Tryz.zeroCells171 171 (0, 0)) := by
  rw [← hW0]
  refine (heap_alloc_old _ _ (by simp <;> omega)).trans ((heap_alloc_old _ _ (by simp)).trans ?_)
  have := heap_alloc2_new (w.alloc (.cells #[.int .i64 p.ver, .int .i64 p.par, .slice a1 p.secs.length c1, .slice a2 p.pts.length c2, .slice a3 p.sigs.length c3, .slice a4 p.rts.length c4] 28)) (.cells #[.slice b1 st.tks.length d1, .slice b2 st.sws.length d2, .slice b3 st.lks.length d3] 33) (.cells Tryz.zeroCells171 171)
  simpa using this
 have hbR : W0.heap[w.heap.size + 1 + 1 + 1]? = some (.cells #[.bool false] 4 (0, 0)) := by
  rw [← hW0]
  refine (heap_alloc_old _ _ (by simp)).trans ?_
  have := heap_alloc2_new ((w.alloc (.cells #[.int .i64 p.ver, .int .i64 p.par, .slice a1 p.secs.length c1, .slice a2 p.pts.length c2, .slice a3 p.sigs.length c3, .slice a4 p.rts.length c4] 28)).alloc (.cells #[.slice b1 st.tks.length d1, .slice b2 st.sws.length d2, .slice b3 st.lks.length d3] 33)) (.cells Tryz.zeroCells171 171) (.cells #[.bool false] 4)
  simpa using this
 have hbF : W0.heap[w.heap.size + 1 + 1 + 1 + 1]? = some (.cells #[.func (.func 283) #[] #[]] 139 (0, 0)) := by
  rw [← hW0]
  have := heap_alloc2_new (((w.alloc (.cells #[.int .i64 p.ver, .int .i64 p.par, .slice a1 p.secs.length c1, .slice a2 p.pts.length c2, .slice a3 p.sigs.length c3, .slice a4 p.rts.length c4] 28)).alloc (.cells #[.slice b1 st.tks.length d1, .slice b2 st.sws.length d2, .slice b3 st.lks.length d3] 33)).alloc (.cells Tryz.zeroCells171 171)) (.cells #[.bool false] 4) (.cells #[.func (.func 283) #[] #[]] 139)
  simpa using this
 have HG0 : Hid (GrM W0 (w.heap.size + 1 + 1 + 1) (w.heap.size + 1 + 1) ⟨fun _ => 0, fun _ => 0, false⟩ (.slice none 0 0)) := ⟨hbR, ⟨Tryz.zeroCells171, hbG, garr_zero.size, garr_zero.H, garr_zero.A, garr_zero.v⟩⟩
 have HYP : Hid (∀ W' o v, Tw (w.heap.size + 1 + 1 + 1) (w.heap.size + 1 + 1) W0 W' → #[Value.int .i64 p.ver, .int .i64 p.par, .slice a1 p.secs.length c1, .slice a2 p.pts.length c2, .slice a3 p.sigs.length c3, .slice a4 p.rts.length c4][o]? = some v → W'.cell? ⟨w.heap.size, o, none⟩ = some v) := fun W' o v ht h => (cell_of_row W' _ o _ _ _ ((ht.block _ (by omega) (by omega) (by omega)).trans hbP)).trans h
 have HYS : Hid (∀ W' o v, Tw (w.heap.size + 1 + 1 + 1) (w.heap.size + 1 + 1) W0 W' → #[Value.slice b1 st.tks.length d1, .slice b2 st.sws.length d2, .slice b3 st.lks.length d3][o]? = some v → W'.cell? ⟨w.heap.size + 1, o, none⟩ = some v) := fun W' o v ht h => (cell_of_row W' _ o _ _ _ ((ht.block _ (by omega) (by omega) (by omega)).trans hbS)).trans h
 have HYF : Hid (∀ W', Below W0.heap.size W0 W' → W'.cell? ⟨w.heap.size + 1 + 1 + 1 + 1, 0, none⟩ = some (.func (.func 283) #[] #[])) := fun W' hb => (cell_of_row W' _ 0 _ _ _ ((hb.block _ (by omega)).trans hbF)).trans rfl
 have HZ0 := Lib.hid hz0
 clear hW0 hbP hbS hbG hbR hbF
 have ss0 := HYS.out W0 0 _ (Tw.refl _ _ _) rfl
 have ss1 := HYS.out W0 1 _ (Tw.refl _ _ _) rfl
 have ss2 := HYS.out W0 2 _ (Tw.refl _ _ _) rfl
 have pp2 := HYP.out W0 2 _ (Tw.refl _ _ _) rfl
 have pp3 := HYP.out W0 3 _ (Tw.refl _ _ _) rfl
 have pp5 := HYP.out W0 5 _ (Tw.refl _ _ _) rfl
 have lz : w.heap.size + 1 + 1 + 1 + 1 < W0.heap.size := by omega
 clear hz0
 go_wp2_with fail
 refine (HEQ1.out W0 K0.out).mono ?_
 rintro e w1 ⟨rfl, hb1⟩
 have HB1 := Lib.hid hb1
 have ss0 := ccell hb1 ss0
 have ss1 := ccell hb1 ss1
 have ss2 := ccell hb1 ss2
 have pp2 := ccell hb1 pp2
 have pp3 := ccell hb1 pp3
 have pp5 := ccell hb1 pp5
 have K1 : Hid (Below w.heap.size w w1) := K0.out.trans (hb1.mono K0.out.size)
 clear hb1 HEQ1
 by_cases q1 : Pairs TkAt st.tks p.secs
 ·rw [decide_eq_true q1]
  have HQ1 := Lib.hid q1
  clear q1
  go_wp2_with fail
  refine (HEQ2.out w1 _ K1.out (HYF.out _ HB1.out)).mono ?_
  rintro e w2 ⟨rfl, hb2⟩
  have HB2 : Hid (Below W0.heap.size W0 w2) := HB1.out.trans (hb2.mono HB1.out.size)
  have ss0 := ccell hb2 ss0
  have ss1 := ccell hb2 ss1
  have ss2 := ccell hb2 ss2
  have pp2 := ccell hb2 pp2
  have pp3 := ccell hb2 pp3
  have pp5 := ccell hb2 pp5
  have K2 : Hid (Below w.heap.size w w2) := K1.out.trans (hb2.mono K1.out.size)
  clear hb2 HEQ2
  by_cases q2 : Pairs SwAt st.sws p.pts
  ·rw [decide_eq_true q2]
   have HQ2 := Lib.hid q2
   clear q2
   go_wp2_with fail
   refine (HEQ3.out w2 K2.out).mono ?_
   rintro e w3 ⟨rfl, hb3⟩
   have HB3 : Hid (Below W0.heap.size W0 w3) := HB2.out.trans (hb3.mono HB2.out.size)
   have K3 : Hid (Below w.heap.size w w3) := K2.out.trans (hb3.mono K2.out.size)
   clear hb3 HEQ3
   by_cases q3 : Pairs LkAt st.lks p.rts
   ·rw [decide_eq_true q3]
    have HQ3 := Lib.hid q3
    have HT3 : Hid (Tw (w.heap.size + 1 + 1 + 1) (w.heap.size + 1 + 1) W0 w3) := Tw.of_below HB3.out
    have pp0 := HYP.out w3 0 _ HT3.out rfl
    have pp1 := HYP.out w3 1 _ HT3.out rfl
    have pp2 := HYP.out w3 2 _ HT3.out rfl
    have pp3 := HYP.out w3 3 _ HT3.out rfl
    have pp4 := HYP.out w3 4 _ HT3.out rfl
    have pp5 := HYP.out w3 5 _ HT3.out rfl
    clear q3 ss0 ss1 ss2
    go_wp2_with fail
    refine (HAL.out w3 K3.out).mono ?_
    rintro e w4 ⟨hb4, hall⟩
    have HB4 : Hid (Below W0.heap.size W0 w4) := HB3.out.trans (hb4.mono HB3.out.size)
    have K4 : Hid (Below w.heap.size w w4) := K3.out.trans (hb4.mono K3.out.size)
    have HT4 : Hid (Tw (w.heap.size + 1 + 1 + 1) (w.heap.size + 1 + 1) W0 w4) := Tw.of_below HB4.out
    clear hb4 HAL pp0 pp1 pp2 pp3 pp4 pp5 HB3
    rcases hall with ⟨hM, _⟩ | ⟨hM, hWM, _⟩ | ⟨hM, hWM, v1, v2, rfl, hv1, hv2⟩
    ·exact absurd HSO.out.1 hM
    ·exact absurd HSO.out.2.1 hWM
    clear hM hWM hv2
    obtain ⟨bw, dw, rfl, hwl⟩ := hv1
    have HWL := Lib.hid hwl
    clear hwl
    have gr4 := HG0.out.below HB4.out
    have l4 : w.heap.size + 1 + 1 + 1 + 1 < w4.heap.size := Nat.lt_of_lt_of_le lz HB4.out.size
    have x0 : w4.cell? ⟨w.heap.size + 1 + 1, 200, none⟩ = some (.slice none 0 0) := gr4.row.ways
    have x1 : w4.frozen? ⟨w.heap.size + 1 + 1, 200, none⟩ = false := gr4.row.frozen 200
    have HG4 := Lib.hid gr4
    clear gr4
    have hmm := @run_makeMap Tryz.prog
    have HI : Hid (GI W0.heap.size W0 w4 (w.heap.size + 1 + 1 + 1) (w.heap.size + 1 + 1) w4.heap.size (w4.heap.size + 1) (.slice bw p.rts.length dw) ⟨fun _ => 0, fun _ => 0, false⟩ 0 (fun _ => 0) (((w4.setCell ⟨w.heap.size + 1 + 1, 200, none⟩ (.slice bw p.rts.length dw)).alloc (.map #[] 0)).alloc (.cells #[.map (some w4.heap.size)] 357))) := gi_start HT4.out HG4.out (by omega)
    go_upto_region 6 with fail
    generalize ((w4.setCell ⟨w.heap.size + 1 + 1, 200, none⟩ (.slice bw p.rts.length dw)).alloc (.map #[] 0)).alloc (.cells #[.map (some w4.heap.size)] 357) = W5 at *
    have hR : w.heap.size + 1 + 1 + 1 < W0.heap.size := by omega
    have hG : w.heap.size + 1 + 1 < W0.heap.size := by omega
    have hb0 : w.heap.size ≤ w.heap.size + 1 + 1 := by omega
    have hb1 : w.heap.size ≤ w.heap.size + 1 + 1 + 1 := by omega
    have HKW : Hid (∀ W', Tw (w.heap.size + 1 + 1 + 1) (w.heap.size + 1 + 1) W0 W' → Below w.heap.size w W') := fun W' ht => K0.out.trans (ht.below hb1 hb0 K0.out.size)
    have HSF := Lib.hid (swFit HSO.out HQ2.out)
    have s1 := HYS.out W5 1 _ HI.out.tw rfl
    clear x0 x1 l4 hmm HT4 K4 K3 K2 K1 HB4 HG4
    go_wp2_with fail
    go_loopg [47] st.sws.length (fun g j wr => ∃ k : Nat, k ≤ st.sws.length ∧ g = st.sws.length - k ∧ j = .int .i64 k ∧ GI W0.heap.size W0 w4 (w.heap.size + 1 + 1 + 1) (w.heap.size + 1 + 1) w4.heap.size (w4.heap.size + 1) (.slice bw p.rts.length dw) ⟨fun _ => 0, fun _ => 0, false⟩ k (callTo st.sws k) wr)
    case atStart => exact ⟨0, by omega, by omega, rfl, by rw [callTo_zero]; exact HI.out⟩
    case round =>
     obtain ⟨k, hk, rfl, rfl, hi⟩ := hrel
     obtain ⟨wo, rfl⟩ : ∃ wo : World, wo = wr := ⟨_, rfl⟩
     have HIK := Lib.hid hi
     have hmc := hi.mc
     have lmc := World.block_lt_of_cell? _ _ hmc
     clear hi s1 HI
     by_cases hlt : k < st.sws.length
     ·have hdk : decide ((k : Int) < (st.sws.length : Int)) = true := by simp; omega
      obtain ⟨b, off, rfl, r0, r1, r2⟩ := (HSW.out _ (HKW.out _ HIK.out.tw)).sw hlt
      have c0 : (0 : Int) ≤ (k : Int) := by omega
      have c1 : (k : Int) < (st.sws.length : Int) := by omega
      have HI1 : Hid (GI W0.heap.size W0 w4 (w.heap.size + 1 + 1 + 1) (w.heap.size + 1 + 1) w4.heap.size (w4.heap.size + 1) (.slice bw p.rts.length dw) ⟨fun _ => 0, fun _ => 0, false⟩ k (callTo st.sws k) (wo.alloc (.cells #[.int .i64 st.sws[k].id, .int .i64 st.sws[k].lie, .int .i64 st.sws[k].call] 108))) := HIK.out.below rfl ((Below.refl _ _).alloc (Nat.le_refl _) _)
      have hkm : k < maxLen := by unfold maxLen; omega
      have HW1 : Hid ((Lit.int .i64 st.sws[k].id).wf = true) := by
       have := HSF.out.at_ k hlt
       exact wf64 (by omega) (by omega)
      have HW2 : Hid ((Lit.int .i64 st.sws[k].call).wf = true) := by
       have := HSF.out.at_ k hlt
       exact wf64 (by omega) (by omega)
      have HCS := Lib.hid (callTo_step HSF.out hlt)
      obtain ⟨D, hown, hD, hat⟩ := HI1.out.mp
      have HOW := Lib.hid hown
      have HDM := Lib.hid hD
      have HAT := Lib.hid hat
      clear hown hD hat
      go_wp2_with (at_mapUpdate; refine wpList_mapUpdate_own _ rfl _ _ _ 357 rfl 3 3 law3 Tryz.underlying357 _ w4.heap.size k D rfl HOW.out hkm _ _ _ rfl rfl (keyOf_int_mk Tryz.underlying3 HW1.out) _ [] (plainElem_int Tryz.underlying3 HW2.out) ?_; intro w1 hown1 hgrow1)
      have hi2 := HI1.out.grown rfl hR hG (mapIs_put HDM.out HAT.out hown1) hgrow1
      rw [← HCS.out] at hi2
      go_roundg (st.sws.length - (k + 1))
      case measure => go_light; omega
      case rel => go_light; exact ⟨k + 1, by omega, by omega, by go_num, hi2⟩
     ·obtain rfl : k = st.sws.length := by omega
      have hdk : decide ((st.sws.length : Int) < (st.sws.length : Int)) = false := by simp
      have hi := HIK.out
      rw [callTo_all] at hi
      have hi2 := hi.setR rfl hR hG (by omega) true
      have HI2 : Hid (GI W0.heap.size W0 w4 (w.heap.size + 1 + 1 + 1) (w.heap.size + 1 + 1) w4.heap.size (w4.heap.size + 1) (.slice bw p.rts.length dw) (grTo p st 0) st.sws.length (callOf st.sws) (wo.setCell ⟨w.heap.size + 1 + 1 + 1, 0, none⟩ (.bool true))) := hi2
      have y0 : wo.cell? ⟨w.heap.size + 1 + 1 + 1, 0, none⟩ = some (.bool false) := (cell_of_row wo _ 0 _ _ _ hi.gr.ok).trans rfl
      have y1 : wo.frozen? ⟨w.heap.size + 1 + 1 + 1, 0, none⟩ = false := by simp [World.frozen?, hi.gr.ok]
      have s2 := HYS.out wo 2 _ hi.tw rfl
      clear hi hi2 HIK hmc lmc
      go_upto_region 12 with fail
      generalize wo.setCell ⟨w.heap.size + 1 + 1 + 1, 0, none⟩ (.bool true) = W6 at *
      have s2 := HYS.out W6 2 _ HI2.out.tw rfl
      clear hlt hdk
      go_wp2_with fail
      go_loopg [60] st.lks.length (fun g j wr => ∃ k : Nat, k ≤ st.lks.length ∧ g = st.lks.length - k ∧ j = .int .i64 k ∧ GI W0.heap.size W0 w4 (w.heap.size + 1 + 1 + 1) (w.heap.size + 1 + 1) w4.heap.size (w4.heap.size + 1) (.slice bw p.rts.length dw) (grTo p st k) st.sws.length (callOf st.sws) wr)
      case atStart => exact ⟨0, by omega, by omega, rfl, HI2.out⟩
      case round =>
       obtain ⟨k, hk, rfl, rfl, hi⟩ := hrel
       obtain ⟨wo2, rfl⟩ : ∃ wo2 : World, wo2 = wr := ⟨_, rfl⟩
       have HIK := Lib.hid hi
       clear hi s2 HI2
       by_cases hlt : k < st.lks.length
       ·have hdk : decide ((k : Int) < (st.lks.length : Int)) = true := by simp; omega
        obtain ⟨b, off, rfl, r0, r1, r2, r3⟩ := (HLK.out _ (HKW.out _ HIK.out.tw)).lk hlt
        have hlp : k < p.rts.length := by have := HQ3.out.1; omega
        have c0 : (0 : Int) ≤ (k : Int) := by omega
        have c1 : (k : Int) < (st.lks.length : Int) := by omega
        have c2 : (k : Int) < (p.rts.length : Int) := by omega
        go_upto_region 15 with fail
        generalize hW7 : wo2.alloc _ = W7
        have hb7 : Below wo2.heap.size wo2 W7 := by rw [← hW7]; exact (Below.refl _ _).alloc (Nat.le_refl _) _
        have hq7 : W7.heap[wo2.heap.size]? = some (.cells #[.int .i64 st.lks[k].id, .int .u8 st.lks[k].ph, .int .i64 st.lks[k].gone, .int .i64 st.lks[k].left] 99 (0, 0)) := by rw [← hW7]; exact heap_alloc_new _ _
        have HI7 := Lib.hid (HIK.out.below rfl hb7)
        have HQ7 := Lib.hid hq7
        have gl : W0.heap.size ≤ wo2.heap.size := HIK.out.tw.size
        obtain ⟨ap, ao, aa, cp, co, ca, hwy⟩ := HWL.out.wyAt (i := k) (by rw [List.length_map]; exact hlp)
        rw [List.getElem_map] at hwy
        have HWA := Lib.hid hwy
        have HFW := Lib.hid (sound_way HSO.out hlp)
        have HGS := Lib.hid (grTo_step p st k hlp hlt)
        have HGO : Hid (0 ≤ st.lks[k].gone ∧ st.lks[k].gone < (wyOf p p.rts[k]).path.length) := phase_gone (HQ3.out.2 k hlt hlp hlt).2 HFW.out.p1
        generalize wyOf p p.rts[k] = Y at *
        obtain ⟨t0, t1, t2, t3⟩ := cells4 hq7
        obtain ⟨bb, of, rfl, x0, x1, x2, x3⟩ := (hwy.same HI7.out.sm).cells
        have t4 : W7.cell? ⟨w.heap.size + 1 + 1, 200, none⟩ = some (.slice (some ⟨bb, of, none⟩) p.rts.length dw) := HI7.out.gr.row.ways
        clear hwy hW7 hb7 hq7 r0 r1 r2 r3
        go_still_tail 7, (by kernel_rfl)
        change wpList _ _ _ _ _ W7.drew
        generalize hW8 : W7.drew = W8
        have hb8 : Below W7.heap.size W7 W8 := by rw [← hW8]; exact (Below.refl _ _).drew
        have HI8 := Lib.hid (HI7.out.below rfl hb8)
        have hq8 := (hb8.block _ (lt_of_block HQ7.out)).trans HQ7.out
        have HQ8 := Lib.hid hq8
        have HHD : Hid (Calls Tryz.prog 291 #[.agg #[.slice ap Y.path.length cp, .slice ao Y.over.length co, .slice aa Y.asks.length ca, .int .i64 Y.near], .agg #[.int .i64 st.lks[k].id, .int .u8 st.lks[k].ph, .int .i64 st.lks[k].gone, .int .i64 st.lks[k].left], .func (.func 292) #[] #[.pointer (some ⟨w.heap.size + 1 + 1 + 1, 0, none⟩), .pointer (some ⟨w.heap.size + 1 + 1, 0, none⟩), .pointer (some ⟨wo2.heap.size, 0, none⟩)]] W8 (GraPost W8 (w.heap.size + 1 + 1 + 1) (w.heap.size + 1 + 1) (.slice (some ⟨bb, of, none⟩) p.rts.length dw) (holdAll st.lks[k].id (heldL Y st.lks[k]) (grTo p st k)))) := by
         have hwy8 := HWA.out.same HI8.out.sm
         exact held_any _ _ _ (grTo p st k) _ Y st.lks[k] ap ao cp co _ W8 HI8.out.gr ((cell_of_row W8 _ 0 _ _ _ hq8).trans rfl) (by omega) (by omega) (by omega) hwy8.path hwy8.over HFW.out.p6 HFW.out.p1 hwy8.cap HFW.out.o2 HFW.out.secs HGO.out
        clear hW8 hb8 hq8 t0 t1 t2 t3 t4 x0 x1 x2 x3
        go_wp2_with fail
        refine HHD.out.mono ?_
        rintro e w9 ⟨rfl, hg9, ht9⟩
        have HI9 := Lib.hid (HI8.out.post rfl hR hG hg9 ht9)
        have hq9 := (ht9.block _ (lt_of_block HQ8.out) (by omega) (by omega)).trans HQ8.out
        have HQ9 := Lib.hid hq9
        obtain ⟨t0, t1, t2, t3⟩ := cells4 hq9
        obtain ⟨bb', of', ebw, x0, x1, x2, x3⟩ := (HWA.out.same HI9.out.sm).cells
        cases ebw
        have t4 : w9.cell? ⟨w.heap.size + 1 + 1, 200, none⟩ = some (.slice (some ⟨bb, of, none⟩) p.rts.length dw) := HI9.out.gr.row.ways
        generalize hGH : holdAll st.lks[k].id (heldL Y st.lks[k]) (grTo p st k) = GH at *
        clear hGH hg9 ht9 hq9 HHD HQ8 HQ7 HI8 HI7
        go_upto_region 16 with fail
        go_still_tail 7, (by kernel_rfl)
        change wpList _ _ _ _ _ w9.drew
        generalize hWA : w9.drew = WA
        have hbA : Below w9.heap.size w9 WA := by rw [← hWA]; exact (Below.refl _ _).drew
        have HIA := Lib.hid (HI9.out.below rfl hbA)
        have HAK : Hid (Calls Tryz.prog 293 #[.agg #[.slice ap Y.path.length cp, .slice ao Y.over.length co, .slice aa Y.asks.length ca, .int .i64 Y.near], .agg #[.int .i64 st.lks[k].id, .int .u8 st.lks[k].ph, .int .i64 st.lks[k].gone, .int .i64 st.lks[k].left], .func (.func 294) #[] #[.pointer (some ⟨w.heap.size + 1 + 1 + 1, 0, none⟩), .pointer (some ⟨w4.heap.size + 1, 0, none⟩), .pointer (some ⟨w.heap.size + 1 + 1, 0, none⟩)]] WA (GraPost WA (w.heap.size + 1 + 1 + 1) (w.heap.size + 1 + 1) (.slice (some ⟨bb, of, none⟩) p.rts.length dw) (askAll (callOf st.sws) (asksL Y st.lks[k]) GH))) := by
         have l1 := HIA.out.lm
         exact asks_any _ _ _ _ _ _ GH _ Y st.lks[k] _ _ aa ca WA HIA.out.gr HIA.out.mc HIA.out.mp HFW.out.asks (by omega) (by omega) (by omega) (fun W' ht => (HWA.out.same (HIA.out.tws ht)).asks) HFW.out.len
        clear hWA hbA t0 t1 t2 t3 t4 x0 x1 x2 x3 HQ9 HI9
        go_wp2_with fail
        refine HAK.out.mono ?_
        rintro e wB ⟨rfl, hgB, htB⟩
        have hiB := HIA.out.post rfl hR hG hgB htB
        rw [← HGS.out] at hiB
        have HIB := Lib.hid hiB
        clear hgB htB hiB HAK HIA
        go_wp2_with fail
        go_roundg (st.lks.length - (k + 1))
        case measure => go_light; omega
        case rel => go_light; exact ⟨k + 1, by omega, by omega, by go_num, HIB.out⟩
       ·obtain rfl : k = st.lks.length := by omega
        have hdk : decide ((st.lks.length : Int) < (st.lks.length : Int)) = false := by simp
        obtain ⟨cur, hc, hga⟩ := HIK.out.gr.row.arr
        have HC := Lib.hid hc
        have HGA := Lib.hid hga
        have HOKB := Lib.hid HIK.out.gr.ok
        have HKF := Lib.hid (HKW.out _ HIK.out.tw)
        clear hc hga
        go_upto_region 18 with fail
        change Code.wp _ _ _ { tmps := #[.agg #[.int .i64 p.ver, .int .i64 p.par, .slice a1 p.secs.length c1, .slice a2 p.pts.length c2, .slice a3 p.sigs.length c3, .slice a4 p.rts.length c4], .agg #[.slice b1 st.tks.length d1, .slice b2 st.sws.length d2, .slice b3 st.lks.length d3], .pointer (some ⟨w.heap.size, 0, none⟩), .pointer (some ⟨w.heap.size + 1, 0, none⟩), .pointer (some ⟨w.heap.size + 1 + 1, 0, none⟩), .pointer (some ⟨w.heap.size + 1 + 1 + 1, 0, none⟩), .pointer (some ⟨w.heap.size + 1 + 1 + 1 + 1, 0, none⟩), .pointer (some ⟨w4.heap.size + 1, 0, none⟩), undef, u9, u10, u11, .pointer (some ⟨w.heap.size + 1, 0, none⟩), .slice b1 st.tks.length d1, .pointer (some ⟨w.heap.size, 2, none⟩), .slice a1 p.secs.length c1, .bool true, .bool false, .bool false, .pointer (some ⟨w.heap.size + 1, 1, none⟩), .slice b2 st.sws.length d2, .pointer (some ⟨w.heap.size, 3, none⟩), .slice a2 p.pts.length c2, .func (.func 287) #[] #[.pointer (some ⟨w.heap.size + 1 + 1 + 1 + 1, 0, none⟩)], .bool true, .bool false, .bool false, .bool false, .pointer (some ⟨w.heap.size + 1, 2, none⟩), .slice b3 st.lks.length d3, .pointer (some ⟨w.heap.size, 5, none⟩), .slice a4 p.rts.length c4, .bool true, .bool false, .bool false, undef, .tuple #[.slice bw p.rts.length dw, v2, .int .i64 0], .agg #[.int .i64 p.ver, .int .i64 p.par, .slice a1 p.secs.length c1, .slice a2 p.pts.length c2, .slice a3 p.sigs.length c3, .slice a4 p.rts.length c4], .tuple #[.slice bw p.rts.length dw, v2, .int .i64 0], .slice bw p.rts.length dw, v2, .int .i64 0, .pointer (some ⟨w.heap.size + 1 + 1, 200, none⟩), .map (some w4.heap.size), .pointer (some ⟨w.heap.size + 1, 1, none⟩), .slice b2 st.sws.length d2, .int .i64 (st.sws.length : Int), .int .i64 (st.sws.length : Int), .bool false, u49, u50, u51, u52, u53, u54, u55, u56, .pointer (some ⟨w.heap.size + 1, 2, none⟩), .slice b3 st.lks.length d3, .int .i64 (st.lks.length : Int), .int .i64 (st.lks.length : Int), .bool false, u62, u63, u64, u65, u66, u67, u68, u69, u70, u71, u72, u73, u74, u75, u76, u77, u78, u79, u80, u81, undef, undef], defers := [] } wo2
        refine wp_region_inv' (by kernel_rfl) (by kernel_rfl) (fun f a W9 => ∃ s82 s83 : Value, a = { tmps := #[.agg #[.int .i64 p.ver, .int .i64 p.par, .slice a1 p.secs.length c1, .slice a2 p.pts.length c2, .slice a3 p.sigs.length c3, .slice a4 p.rts.length c4], .agg #[.slice b1 st.tks.length d1, .slice b2 st.sws.length d2, .slice b3 st.lks.length d3], .pointer (some ⟨w.heap.size, 0, none⟩), .pointer (some ⟨w.heap.size + 1, 0, none⟩), .pointer (some ⟨w.heap.size + 1 + 1, 0, none⟩), .pointer (some ⟨w.heap.size + 1 + 1 + 1, 0, none⟩), .pointer (some ⟨w.heap.size + 1 + 1 + 1 + 1, 0, none⟩), .pointer (some ⟨w4.heap.size + 1, 0, none⟩), undef, u9, u10, u11, .pointer (some ⟨w.heap.size + 1, 0, none⟩), .slice b1 st.tks.length d1, .pointer (some ⟨w.heap.size, 2, none⟩), .slice a1 p.secs.length c1, .bool true, .bool false, .bool false, .pointer (some ⟨w.heap.size + 1, 1, none⟩), .slice b2 st.sws.length d2, .pointer (some ⟨w.heap.size, 3, none⟩), .slice a2 p.pts.length c2, .func (.func 287) #[] #[.pointer (some ⟨w.heap.size + 1 + 1 + 1 + 1, 0, none⟩)], .bool true, .bool false, .bool false, .bool false, .pointer (some ⟨w.heap.size + 1, 2, none⟩), .slice b3 st.lks.length d3, .pointer (some ⟨w.heap.size, 5, none⟩), .slice a4 p.rts.length c4, .bool true, .bool false, .bool false, undef, .tuple #[.slice bw p.rts.length dw, v2, .int .i64 0], .agg #[.int .i64 p.ver, .int .i64 p.par, .slice a1 p.secs.length c1, .slice a2 p.pts.length c2, .slice a3 p.sigs.length c3, .slice a4 p.rts.length c4], .tuple #[.slice bw p.rts.length dw, v2, .int .i64 0], .slice bw p.rts.length dw, v2, .int .i64 0, .pointer (some ⟨w.heap.size + 1 + 1, 200, none⟩), .map (some w4.heap.size), .pointer (some ⟨w.heap.size + 1, 1, none⟩), .slice b2 st.sws.length d2, .int .i64 (st.sws.length : Int), .int .i64 (st.sws.length : Int), .bool false, u49, u50, u51, u52, u53, u54, u55, u56, .pointer (some ⟨w.heap.size + 1, 2, none⟩), .slice b3 st.lks.length d3, .int .i64 (st.lks.length : Int), .int .i64 (st.lks.length : Int), .bool false, u62, u63, u64, u65, u66, u67, u68, u69, u70, u71, u72, u73, u74, u75, u76, u77, u78, u79, u80, u81, s82, s83], defers := [] } ∧ R18 wo2 cur (grTo p st st.lks.length).ok (f 0) (f 1) s82 s83 W9) ?_ ?_ ?_
        ·exact ⟨_, _, rfl, ⟨rfl, rfl, rfl, rfl, by simp, by simp⟩⟩
        ·intro i o ho f a W9 hI hd hun
         obtain ⟨s82, s83, rfl, hS⟩ := hI
         have q0 : W9.heap[w.heap.size + 1 + 1]? = some (.cells cur 171 (0, 0)) := by rw [hS.heap]; exact HC.out
         have q1 : W9.heap[w.heap.size + 1 + 1 + 1]? = some (.cells #[.bool (grTo p st st.lks.length).ok] 4 (0, 0)) := by rw [hS.heap]; exact HOKB.out
         rcases i with _ | _ | _ | _ | i
         ·refine wpOp_load_row rfl rfl (.tmp 4) rfl (w.heap.size + 1 + 1) rfl 171 cur (0, 0) q0 (by rw [info171, HGA.out.size]) ?_
          exact ⟨_, _, rfl, { hS with h0 := fun _ => rfl }⟩
         ·simp at ho
          subst ho
          have cc : W9.cell? ⟨w.heap.size + 1 + 1 + 1, 0, none⟩ = some (.bool (grTo p st st.lks.length).ok) := (cell_of_row W9 _ 0 _ _ _ q1).trans rfl
          simp [wpOp, go_sem, cc]
          exact .inl ⟨_, _, ⟨rfl, rfl⟩, { hS with h1 := fun _ => rfl }⟩
         ·simp at ho
          subst ho
          obtain rfl := hS.h0 (hd ⟨0, .data⟩ (by simp) (by rfl))
          refine wpOp_store_row rfl rfl 171 (.tmp 4) (.tmp 82) rfl (w.heap.size + 1 + 1) cur rfl rfl 171 cur q0 (by rw [info171, HGA.out.size]) rfl HGA.out.one ?_
          rw [setRow_self q0]
          exact ⟨_, _, rfl, { hS with h0 := hS.h0 }⟩
         ·simp at ho
          subst ho
          obtain rfl := hS.h1 (hd ⟨1, .data⟩ (by simp) (by rfl))
          have cc : W9.frozen? ⟨w.heap.size + 1 + 1 + 1, 0, none⟩ = false := by simp [World.frozen?, q1]
          have cd : W9.cell? ⟨w.heap.size + 1 + 1 + 1, 0, none⟩ = some (.bool (grTo p st st.lks.length).ok) := (cell_of_row W9 _ 0 _ _ _ q1).trans rfl
          simp [wpOp, go_sem, cc, cd]
          have hself : W9.setCell ⟨w.heap.size + 1 + 1 + 1, 0, none⟩ (.bool (grTo p st st.lks.length).ok) = W9 := set_self q1
          rw [hself]
          exact .inl ⟨_, _, ⟨rfl, rfl⟩, { hS with h1 := hS.h1 }⟩
         ·simp at ho
        ·intro f a W9 hI hall
         obtain ⟨s82, s83, rfl, hS⟩ := hI
         have hB9 : Below wo2.heap.size wo2 W9 := ⟨hS.os, hS.tape, hS.output, by rw [hS.heap]; exact Nat.le_refl _, fun k _ => by rw [hS.heap]⟩
         have q0 : W9.heap[w.heap.size + 1 + 1]? = some (.cells cur 171 (0, 0)) := by rw [hS.heap]; exact HC.out
         have q1 : W9.cell? ⟨w.heap.size + 1 + 1 + 1, 0, none⟩ = some (.bool (grTo p st st.lks.length).ok) := (cell_of_row W9 _ 0 _ _ _ (by rw [hS.heap]; exact HOKB.out)).trans rfl
         go_wp2_with fail
         refine bodyPost_ret (v := .tuple #[.agg cur, .bool (grTo p st st.lks.length).ok]) (results_two rfl _ _ (w.heap.size + 1 + 1) (w.heap.size + 1 + 1 + 1) cur _ rfl rfl (load171 q0 HGA.out.size) q1) rfl ⟨HKF.out.trans (hB9.mono HKF.out.size), cur, _, _, _, _, _, _, rfl, HGA.out, ?_⟩
         cases hok : (grTo p st st.lks.length).ok with
         | true => exact .inr ⟨rfl, HST.out.2 ⟨⟨HQ1.out, HQ2.out, HQ3.out⟩, hok⟩, rfl, rfl⟩
         | false => exact .inl ⟨rfl, fun h => by have := (HST.out.1 h).2; unfold grOf at this; rw [hok] at this; cases this⟩
   ·rw [decide_eq_false q3]
    have HNO : Hid (¬ StMay p st) := fun h => q3 (HST.out.1 h).1.2.2
    obtain ⟨WX, rfl⟩ : ∃ WX, WX = w3 := ⟨_, rfl⟩
    have HBX := HB3
    clear q3 ss0 ss1 ss2 pp2 pp3 pp5
    go_upto_region 3 with fail
    have hb01 : Below W0.heap.size W0 WX := HBX.out
    have hgr := HG0.out.below hb01
    obtain ⟨cur, hc, hga⟩ := hgr.row.arr
    have HC := Lib.hid hc
    have HGA := Lib.hid hga
    have HOKB := Lib.hid hgr.ok
    have y0 : WX.cell? ⟨w.heap.size + 1 + 1 + 1, 0, none⟩ = some (.bool false) := (cell_of_row WX _ 0 _ _ _ hgr.ok).trans rfl
    have y1 : WX.frozen? ⟨w.heap.size + 1 + 1 + 1, 0, none⟩ = false := by simp [World.frozen?, hgr.ok]
    have KX : Hid (Below w.heap.size w WX) := K0.out.trans (HBX.out.mono K0.out.size)
    clear hb01 hgr hc hga
    go_step
    refine wpList_load_row rfl 171 (.tmp 4) rfl (w.heap.size + 1 + 1) rfl 171 cur (0, 0) _ HC.out Tryz.underlying171 rfl (by rw [info171, HGA.out.size]) ?_
    simp [Act.put]
    refine wpList_store_row rfl 171 (.tmp 4) (.tmp 35) rfl (w.heap.size + 1 + 1) cur cur 171 rfl rfl HC.out (by rw [info171, HGA.out.size]) rfl HGA.out.one ?_
    rw [setRow_self HC.out]
    go_wp2_with fail
    refine bodyPost_ret (v := .tuple #[.agg cur, .bool false]) (results_two rfl _ _ (w.heap.size + 1 + 1) (w.heap.size + 1 + 1 + 1) cur false rfl rfl (load171 ((Below.heap_setCell _ _ _ _ (by simp)).trans HC.out) HGA.out.size) (row_set0 HOKB.out)) rfl ⟨KX.out.setCell (by show w.heap.size ≤ w.heap.size + 1 + 1 + 1; omega) _, cur, _, _, _, _, _, false, rfl, HGA.out, .inl ⟨rfl, HNO.out⟩⟩
  ·rw [decide_eq_false q2]
   have HNO : Hid (¬ StMay p st) := fun h => q2 (HST.out.1 h).1.2.1
   obtain ⟨WX, rfl⟩ : ∃ WX, WX = w2 := ⟨_, rfl⟩
   have HBX := HB2
   clear q2 ss0 ss1 ss2 pp2 pp3 pp5
   go_upto_region 3 with fail
   have hb01 : Below W0.heap.size W0 WX := HBX.out
   have hgr := HG0.out.below hb01
   obtain ⟨cur, hc, hga⟩ := hgr.row.arr
   have HC := Lib.hid hc
   have HGA := Lib.hid hga
   have HOKB := Lib.hid hgr.ok
   have y0 : WX.cell? ⟨w.heap.size + 1 + 1 + 1, 0, none⟩ = some (.bool false) := (cell_of_row WX _ 0 _ _ _ hgr.ok).trans rfl
   have y1 : WX.frozen? ⟨w.heap.size + 1 + 1 + 1, 0, none⟩ = false := by simp [World.frozen?, hgr.ok]
   have KX : Hid (Below w.heap.size w WX) := K0.out.trans (HBX.out.mono K0.out.size)
   clear hb01 hgr hc hga
   go_step
   refine wpList_load_row rfl 171 (.tmp 4) rfl (w.heap.size + 1 + 1) rfl 171 cur (0, 0) _ HC.out Tryz.underlying171 rfl (by rw [info171, HGA.out.size]) ?_
   simp [Act.put]
   refine wpList_store_row rfl 171 (.tmp 4) (.tmp 35) rfl (w.heap.size + 1 + 1) cur cur 171 rfl rfl HC.out (by rw [info171, HGA.out.size]) rfl HGA.out.one ?_
   rw [setRow_self HC.out]
   go_wp2_with fail
   refine bodyPost_ret (v := .tuple #[.agg cur, .bool false]) (results_two rfl _ _ (w.heap.size + 1 + 1) (w.heap.size + 1 + 1 + 1) cur false rfl rfl (load171 ((Below.heap_setCell _ _ _ _ (by simp)).trans HC.out) HGA.out.size) (row_set0 HOKB.out)) rfl ⟨KX.out.setCell (by show w.heap.size ≤ w.heap.size + 1 + 1 + 1; omega) _, cur, _, _, _, _, _, false, rfl, HGA.out, .inl ⟨rfl, HNO.out⟩⟩
 ·rw [decide_eq_false q1]
  have HNO : Hid (¬ StMay p st) := fun h => q1 (HST.out.1 h).1.1
  obtain ⟨WX, rfl⟩ : ∃ WX, WX = w1 := ⟨_, rfl⟩
  have HBX := HB1
  clear q1 ss0 ss1 ss2 pp2 pp3 pp5
  go_upto_region 3 with fail
  have hb01 : Below W0.heap.size W0 WX := HBX.out
  have hgr := HG0.out.below hb01
  obtain ⟨cur, hc, hga⟩ := hgr.row.arr
  have HC := Lib.hid hc
  have HGA := Lib.hid hga
  have HOKB := Lib.hid hgr.ok
  have y0 : WX.cell? ⟨w.heap.size + 1 + 1 + 1, 0, none⟩ = some (.bool false) := (cell_of_row WX _ 0 _ _ _ hgr.ok).trans rfl
  have y1 : WX.frozen? ⟨w.heap.size + 1 + 1 + 1, 0, none⟩ = false := by simp [World.frozen?, hgr.ok]
  have KX : Hid (Below w.heap.size w WX) := K0.out.trans (HBX.out.mono K0.out.size)
  clear hb01 hgr hc hga
  go_step
  refine wpList_load_row rfl 171 (.tmp 4) rfl (w.heap.size + 1 + 1) rfl 171 cur (0, 0) _ HC.out Tryz.underlying171 rfl (by rw [info171, HGA.out.size]) ?_
  simp [Act.put]
  refine wpList_store_row rfl 171 (.tmp 4) (.tmp 35) rfl (w.heap.size + 1 + 1) cur cur 171 rfl rfl HC.out (by rw [info171, HGA.out.size]) rfl HGA.out.one ?_
  rw [setRow_self HC.out]
  go_wp2_with fail
  refine bodyPost_ret (v := .tuple #[.agg cur, .bool false]) (results_two rfl _ _ (w.heap.size + 1 + 1) (w.heap.size + 1 + 1 + 1) cur false rfl rfl (load171 ((Below.heap_setCell _ _ _ _ (by simp)).trans HC.out) HGA.out.size) (row_set0 HOKB.out)) rfl ⟨KX.out.setCell (by show w.heap.size ≤ w.heap.size + 1 + 1 + 1; omega) _, cur, _, _, _, _, _, false, rfl, HGA.out, .inl ⟨rfl, HNO.out⟩⟩
end Go.Proofs.YtbiehpjhhopjaaaGreat
