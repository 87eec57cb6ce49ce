/-
 state.Of, walked.
 state.Check, state.Holder and state.Asked, walked.
 The small station of the law, walked.
-/
import Derived.Test.YtbiehpjhhopjaaaGreatTStateE
import Derived.Great.BuildSlice
import Derived.Test.YtbiehpjhhopjaaaGreatTMem
set_option linter.unusedVariables false
set_option linter.unusedSimpArgs false
namespace Go.Proofs.YtbiehpjhhopjaaaGreat
open Go.RowKit Go.Maps Go.Sort
def ofErr (p : Pl) (st : St) : Int := if PlanSound p then (if StMay p st then 0 else 8) else 100
def OfPost (w : World) (p : Pl) (st : St) (e : Ending) (w' : World) : Prop :=
 Below w.heap.size w w' ∧ ∃ cs H A a l c, e = .returned (.tuple #[.agg cs, .int .i64 (ofErr p st)]) ∧ GArr cs H A (.slice a l c) ∧ (ofErr p st = 0 → H = (grOf p st).H ∧ A = (grOf p st).A)
theorem results_cs {fn : Func} {p q : Tmp} (h : fn.results = #[.cell p 171, .tmp q]) (tmps : Array Value) (w : World) (g : Nat) (cs : Array Value) (n : Int)
  (hp : tmps.getD p undef = .pointer (some ⟨g, 0, none⟩)) (hq : tmps.getD q undef = .int .i64 n) (hl : (loadVar 171 ⟨g, 0, none⟩).run Tryz.prog w = .ok (.agg cs) w) :
  (results fn tmps).run Tryz.prog w = .ok (.tuple #[.agg cs, .int .i64 n]) w := by
 have hp' : tmps[p]?.getD undef = .pointer (some ⟨g, 0, none⟩) := by simpa using hp
 have hq' : tmps[q]?.getD undef = .int .i64 n := by simpa using hq
 simp [results, h, hp', hq', asAddr, hl]
theorem setRow_new (w : World) (c0 cs : Array Value) (T : TypeId) : (w.alloc (.cells c0 T)).setRow w.heap.size cs = w.alloc (.cells cs T) := by
 have : (w.heap.push (.cells c0 T (0, 0))).modify w.heap.size (fun | .cells _ elem frozen => .cells cs elem frozen | o => o) = w.heap.push (.cells cs T (0, 0)) := by
  apply Array.ext
  ·simp
  ·intro i h1 h2
   rw [Array.getElem_modify]
   rw [Array.getElem_push, Array.getElem_push]
   split
   ·rename_i e; subst e; simp
   ·rename_i e
    rw [dif_pos (by simp at h2; omega), dif_pos (by simp at h2; omega)]
 show ({ w with heap := _ } : World) = { w with heap := _ }
 exact congrArg (fun h => ({ w with heap := h } : World)) this
theorem heap_setRow {w : World} {g : Nat} {c0 : Array Value} {T : TypeId} {fr : Nat × Nat} (h : w.heap[g]? = some (.cells c0 T fr)) (cs : Array Value) : (w.setRow g cs).heap[g]? = some (.cells cs T fr) := by
 simp [World.setRow, Array.getElem?_modify, h]
theorem below_setRow' {B g : Nat} {w0 w : World} (hb : Below B w0 w) (hBg : B ≤ g) (cs : Array Value) : Below B w0 (w.setRow g cs) :=
 ⟨hb.os, hb.tape, hb.output, by rw [size_setRow]; exact hb.size, fun k hk => by
  rw [show (w.setRow g cs).heap[k]? = w.heap[k]? by simp [World.setRow, Array.getElem?_modify, show ¬ g = k by omega]]
  exact hb.block k hk⟩
structure Box3 (W : World) (g : Nat) (p : Pl) (st : St) (s q gg rr t sw lk : Value) : Prop where
 pl : W.heap[g]? = some (.cells #[.int .i64 p.ver, .int .i64 p.par, s, q, gg, rr] 28 (0, 0))
 st : W.heap[g + 1]? = some (.cells #[t, sw, lk] 33 (0, 0))
theorem Box3.below {W W' : World} {g : Nat} {p : Pl} {st : St} {s q gg rr t sw lk : Value} (h : Box3 W g p st s q gg rr t sw lk) (hb : Below W.heap.size W W') : Box3 W' g p st s q gg rr t sw lk :=
 ⟨(hb.block _ (lt_of_block h.pl)).trans h.pl, (hb.block _ (lt_of_block h.st)).trans h.st⟩
set_option maxRecDepth 100000 in
set_option maxHeartbeats 8000000 in
theorem of_any (p : Pl) (st : St) (s q gg rr t sw lk : Value) (w : World) (hp : PlM w s q gg rr p) (hf : p.Fit) (hs : StM w t sw lk st) (hsf : st.fit) :
  Calls Tryz.prog 115 #[plV p s q gg rr, stV t sw lk] w (OfPost w p st) := by
 have HCK : Hid (∀ w', Below w.heap.size w w' → Calls Tryz.prog 58 #[plV p s q gg rr] w' (ErrPost w' (if PlanSound p then 0 else 100))) := fun w' hb => soundcheck_any p s q gg rr w' (hp.below hb) hf
 have HGR : Hid (PlanSound p → ∀ w', Below w.heap.size w w' → Calls Tryz.prog 205 #[plV p s q gg rr, stV t sw lk] w' (GripPost w' p st)) := fun hS w' hb => grip_any p st s q gg rr t sw lk w' (hp.below hb) hf (hs.below hb) hsf hS
 obtain ⟨a1, c1, rfl, -⟩ := hp.secs
 obtain ⟨a2, c2, rfl, -⟩ := hp.pts
 obtain ⟨a3, c3, rfl, -⟩ := hp.sigs
 obtain ⟨a4, c4, rfl, -⟩ := hp.rts
 obtain ⟨b1, d1, rfl, -⟩ := hs.tks
 obtain ⟨b2, d2, rfl, -⟩ := hs.sws
 obtain ⟨b3, d3, rfl, -⟩ := hs.lks
 have HE : Hid (∀ n : Int, (¬ PlanSound p → n = 100) → (PlanSound p → ¬ StMay p st → n = 8) → (PlanSound p → StMay p st → n = 0) → ofErr p st = n) := fun n h1 h2 h3 => by
  unfold ofErr
  by_cases h : PlanSound p
  ·rw [if_pos h]
   by_cases h' : StMay p st
   ·rw [if_pos h', h3 h h']
   ·rw [if_neg h', h2 h h']
  ·rw [if_neg h, h1 h]
 generalize hEE : ofErr p st = E at *
 have HEE := Lib.hid hEE
 unfold OfPost
 rw [hEE]
 clear hp hf hs hsf hEE
 unfold plV stV at *
 go_enter Tryz.func115, Tryz.ntmps115
 go_upto_region 1 with fail
 generalize hW0 : World.alloc _ _ = W0
 have K0 : Hid (Below w.heap.size w W0) := by show Below _ _ _; rw [← hW0]; exact (((Below.refl _ _).alloc (Nat.le_refl _) _).alloc (by simp) _).alloc (by simp <;> omega) _
 have hbP : Box3 W0 w.heap.size p st (.slice a1 p.secs.length c1) (.slice a2 p.pts.length c2) (.slice a3 p.sigs.length c3) (.slice a4 p.rts.length c4) (.slice b1 st.tks.length d1) (.slice b2 st.sws.length d2) (.slice b3 st.lks.length d3) := by
  rw [← hW0]
  exact ⟨(heap_alloc_old _ _ (by simp <;> omega)).trans ((heap_alloc_old _ _ (by simp)).trans (heap_alloc_new _ _)), (heap_alloc_old _ _ (by simp)).trans (heap_alloc2_new _ _ _)⟩
 have hbG : W0.heap[w.heap.size + 1 + 1]? = some (.cells Tryz.zeroCells171 171 (0, 0)) := by
  rw [← hW0]
  have := heap_alloc2_new (w.alloc (.cells #[.int .i64 p.ver, .int .i64 p.par, .slice a1 p.secs.length c1, .slice a2 p.pts.length c2, .slice a3 p.sigs.length c3, .slice a4 p.rts.length c4] 28)) (.cells #[.slice b1 st.tks.length d1, .slice b2 st.sws.length d2, .slice b3 st.lks.length d3] 33) (.cells Tryz.zeroCells171 171)
  simpa using this
 have HBP := Lib.hid hbP
 have HBG := Lib.hid hbG
 have HY : Hid (∀ (W' : World) (o : Nat) (v : Value), W'.heap[w.heap.size]? = W0.heap[w.heap.size]? → #[Value.int .i64 p.ver, .int .i64 p.par, .slice a1 p.secs.length c1, .slice a2 p.pts.length c2, .slice a3 p.sigs.length c3, .slice a4 p.rts.length c4][o]? = some v → W'.cell? ⟨w.heap.size, o, none⟩ = some v) := fun W' o v ht h => (cell_of_row W' _ o _ _ _ (ht.trans hbP.pl)).trans h
 clear hW0 hbP hbG
 have pp0 := HY.out W0 0 _ rfl rfl
 have pp1 := HY.out W0 1 _ rfl rfl
 have pp2 := HY.out W0 2 _ rfl rfl
 have pp3 := HY.out W0 3 _ rfl rfl
 have pp4 := HY.out W0 4 _ rfl rfl
 have pp5 := HY.out W0 5 _ rfl rfl
 go_wp2_with fail
 refine (HCK.out W0 K0.out).mono ?_
 rintro e w1 ⟨rfl, hb1⟩
 have HB1 := Lib.hid hb1
 have K1 : Hid (Below w.heap.size w w1) := K0.out.trans (hb1.mono K0.out.size)
 have HG1 : Hid (w1.heap[w.heap.size + 1 + 1]? = some (.cells Tryz.zeroCells171 171 (0, 0))) := (hb1.block _ (lt_of_block HBG.out)).trans HBG.out
 have HBP1 := Lib.hid (HBP.out.below hb1)
 clear hb1 HCK pp0 pp1 pp2 pp3 pp4 pp5
 by_cases hS : PlanSound p
 ·rw [if_pos hS]
  have HS := Lib.hid hS
  have HGC := Lib.hid (HGR.out hS w1 K1.out)
  clear hS HGR
  obtain ⟨pp0, pp1, pp2, pp3, pp4, pp5⟩ := cells6 HBP1.out.pl
  obtain ⟨ss0, ss1, ss2⟩ := cells3 HBP1.out.st
  go_wp2_with fail
  refine HGC.out.mono ?_
  rintro e w2 ⟨hb2, cs, H, A, a, l, c, b, rfl, hga, hor⟩
  have HB2 := Lib.hid hb2
  have K2 : Hid (Below w.heap.size w w2) := K1.out.trans (hb2.mono K1.out.size)
  have HG2 : Hid (w2.heap[w.heap.size + 1 + 1]? = some (.cells Tryz.zeroCells171 171 (0, 0))) := (hb2.block _ (lt_of_block HG1.out)).trans HG1.out
  have HGA := Lib.hid hga
  have HOR := Lib.hid hor
  clear hga hor hb2 HGC pp0 pp1 pp2 pp3 pp4 pp5 ss0 ss1 ss2
  have hz1 : (Tryz.prog.info? 171).map (·.size) = some Tryz.zeroCells171.size := by rw [info171, garr_zero.size]
  have hz2 : (Tryz.prog.info? 171).map (·.size) = some cs.size := by rw [info171, HGA.out.size]
  have hzz : Tryz.zeroCells171.size = cs.size := by rw [garr_zero.size, HGA.out.size]
  have l2 := lt_of_block HG2.out
  go_upto_region 5 with (refine wpList_store_row rfl 171 (.tmp 7) (.tmp 19) rfl w2.heap.size cs Tryz.zeroCells171 171 rfl rfl (heap_alloc_new _ _) hz2 hzz HGA.out.one ?_; rw [setRow_new])
  generalize hWX : w2.alloc (.cells cs 171) = WX
  have hb3 : Below w2.heap.size w2 WX := by rw [← hWX]; exact (Below.refl _ _).alloc (Nat.le_refl _) _
  have KX : Hid (Below w.heap.size w WX) := K2.out.trans (hb3.mono K2.out.size)
  have HGX : Hid (WX.heap[w.heap.size + 1 + 1]? = some (.cells Tryz.zeroCells171 171 (0, 0))) := (hb3.block _ l2).trans HG2.out
  have HCX : Hid (WX.heap[w2.heap.size]? = some (.cells cs 171 (0, 0))) := by show _ = _; rw [← hWX]; exact heap_alloc_new _ _
  clear hWX hb3 HG2 HG1
  rcases HOR.out with ⟨rfl, hn⟩ | ⟨rfl, hm, h1, h2⟩
  ·have HE8 : Hid (E = 8) := HE.out 8 (fun h => absurd HS.out h) (fun _ _ => rfl) (fun _ h => absurd h hn)
   clear hn HOR
   go_wp2_with (first
    | (refine wpList_buildTo rfl 171 #[] rfl (some 23) rfl Tryz.zeroCells171 (by kernel_rfl) ?_)
    | (refine wpList_store_row rfl 171 (.tmp 4) (.tmp 23) rfl (w.heap.size + 1 + 1) Tryz.zeroCells171 Tryz.zeroCells171 171 rfl rfl HGX.out hz1 rfl garr_zero.one ?_; rw [setRow_self HGX.out]))
   refine bodyPost_ret (v := .tuple #[.agg Tryz.zeroCells171, .int .i64 8]) (results_cs rfl _ _ (w.heap.size + 1 + 1) _ _ rfl rfl (load171 HGX.out garr_zero.size)) rfl ⟨KX.out, _, _, _, _, _, _, by rw [HE8.out], garr_zero, fun h => by rw [HE8.out] at h; cases h⟩
  ·have HE8 : Hid (E = 0) := HE.out 0 (fun h => absurd HS.out h) (fun _ h => absurd hm h) (fun _ _ => rfl)
   have H1 := Lib.hid h1
   have H2 := Lib.hid h2
   clear hm h1 h2 HOR
   go_wp2_with (first
    | (refine wpList_load_row rfl 171 (.tmp 7) rfl w2.heap.size rfl 171 cs (0, 0) _ HCX.out Tryz.underlying171 rfl hz2 ?_)
    | (refine wpList_store_row rfl 171 (.tmp 4) (.tmp 24) rfl (w.heap.size + 1 + 1) cs Tryz.zeroCells171 171 rfl rfl HGX.out hz2 hzz HGA.out.one ?_))
   refine bodyPost_ret (v := .tuple #[.agg cs, .int .i64 0]) (results_cs rfl _ _ (w.heap.size + 1 + 1) _ _ rfl rfl (load171 (heap_setRow HGX.out cs) HGA.out.size)) rfl ⟨below_setRow' KX.out (by omega) _, _, _, _, _, _, _, by rw [HE8.out], HGA.out, fun _ => ⟨H1.out, H2.out⟩⟩
 ·rw [if_neg hS]
  have HS := Lib.hid hS
  clear hS HGR
  have HE8 : Hid (E = 100) := HE.out 100 (fun _ => rfl) (fun h => absurd h HS.out) (fun h => absurd h HS.out)
  have hz1 : (Tryz.prog.info? 171).map (·.size) = some Tryz.zeroCells171.size := by rw [info171, garr_zero.size]
  go_wp2_with (first
   | (refine wpList_buildTo rfl 171 #[] rfl (some 13) rfl Tryz.zeroCells171 (by kernel_rfl) ?_)
   | (refine wpList_store_row rfl 171 (.tmp 4) (.tmp 13) rfl (w.heap.size + 1 + 1) Tryz.zeroCells171 Tryz.zeroCells171 171 rfl rfl HG1.out hz1 rfl garr_zero.one ?_; rw [setRow_self HG1.out]))
  refine bodyPost_ret (v := .tuple #[.agg Tryz.zeroCells171, .int .i64 100]) (results_cs rfl _ _ (w.heap.size + 1 + 1) _ _ rfl rfl (load171 HG1.out garr_zero.size)) rfl ⟨K1.out, _, _, _, _, _, _, by rw [HE8.out], garr_zero, fun h => by rw [HE8.out] at h; cases h⟩
end Go.Proofs.YtbiehpjhhopjaaaGreat
set_option linter.unusedVariables false
set_option linter.unusedSimpArgs false
namespace Go.Proofs.YtbiehpjhhopjaaaGreat
open Go.RowKit Go.Maps Go.Sort
def holderOf (p : Pl) (st : St) (n : Int) : Int × Int := if ofErr p st ≠ 0 then (0, ofErr p st) else if p.secs.any (fun x => decide (x.id = n)) then ((grOf p st).H n.toNat, 0) else (0, 6)
def askAt (p : Pl) (st : St) (n : Int) : Int × Int := if ofErr p st ≠ 0 then (0, ofErr p st) else if p.pts.any (fun x => decide (x.id = n)) then ((grOf p st).A n.toNat, 0) else (0, 6)
def TwoPost (w : World) (x : Int × Int) (e : Ending) (w' : World) : Prop := e = .returned (.tuple #[.int .i64 x.1, .int .i64 x.2]) ∧ Below w.heap.size w w'
theorem plain117 : PlainF 117 := fun args w => by simp [go_sem]
theorem plain119 : PlainF 119 := fun args w => by simp [go_sem]
theorem isSec117 (x : Sec) (a : Option Addr) (c : Nat) (n : Int) (g : Nat) (w : World) (hn : w.cell? ⟨g, 0, none⟩ = some (.int .i64 n)) :
  Calls Tryz.prog 117 (#[.agg #[.int .i64 x.id, .int .i64 x.pt, .slice a x.ends.length c]] ++ #[.pointer (some ⟨g, 0, none⟩)]) w (BoolPost w (decide (x.id = n))) := by
 have HE : Hid (∀ b, (b = true ↔ x.id = n) → b = decide (x.id = n)) := fun b hb => by rw [Bool.eq_iff_iff, hb]; simp
 generalize decide (x.id = n) = B at *
 have l0 := World.block_lt_of_cell? _ _ hn
 go_enter Tryz.func117, Tryz.ntmps117
 go_wp2_with fail
 go_ret
 exact ⟨rbool (HE.out _ (by simp)), (Below.refl _ _).alloc (Nat.le_refl _) _⟩
theorem isPt119 (x : Pt) (n : Int) (g : Nat) (w : World) (hn : w.cell? ⟨g, 0, none⟩ = some (.int .i64 n)) :
  Calls Tryz.prog 119 (#[.agg #[.int .i64 x.id, .int .i64 x.sec]] ++ #[.pointer (some ⟨g, 0, none⟩)]) w (BoolPost w (decide (x.id = n))) := by
 have HE : Hid (∀ b, (b = true ↔ x.id = n) → b = decide (x.id = n)) := fun b hb => by rw [Bool.eq_iff_iff, hb]; simp
 generalize decide (x.id = n) = B at *
 have l0 := World.block_lt_of_cell? _ _ hn
 go_enter Tryz.func119, Tryz.ntmps119
 go_wp2_with fail
 go_ret
 exact ⟨rbool (HE.out _ (by simp)), (Below.refl _ _).alloc (Nat.le_refl _) _⟩
theorem sec_in {p : Pl} (h : PlanSound p) {n : Int} (hn : (p.secs.any fun x => decide (x.id = n)) = true) : 0 ≤ n ∧ n ≤ 99 := by
 rw [List.any_eq_true] at hn
 obtain ⟨x, hx, h1⟩ := hn
 obtain ⟨i, hi, rfl⟩ := List.getElem_of_mem hx
 have := (h.1.1.2.2.2.2.2.1 i hi hi).1
 have h2 := of_decide_eq_true h1
 omega
theorem pt_in {p : Pl} (h : PlanSound p) {n : Int} (hn : (p.pts.any fun x => decide (x.id = n)) = true) : 0 ≤ n ∧ n ≤ 99 := by
 rw [List.any_eq_true] at hn
 obtain ⟨x, hx, h1⟩ := hn
 obtain ⟨i, hi, rfl⟩ := List.getElem_of_mem hx
 have := (sound_pts h i hi hi).1
 have h2 := of_decide_eq_true h1
 omega
theorem ofErr_zero {p : Pl} {st : St} (h : ofErr p st = 0) : PlanSound p ∧ StMay p st := by
 unfold ofErr at h
 by_cases h1 : PlanSound p
 ·rw [if_pos h1] at h
  by_cases h2 : StMay p st
  ·exact ⟨h1, h2⟩
  ·rw [if_neg h2] at h; cases h
 ·rw [if_neg h1] at h; cases h
set_option maxRecDepth 100000 in
set_option maxHeartbeats 8000000 in
theorem stcheck_any (p : Pl) (st : St) (s q gg rr t sw lk : Value) (w : World) (hp : PlM w s q gg rr p) (hf : p.Fit) (hs : StM w t sw lk st) (hsf : st.fit) :
  Calls Tryz.prog 87 #[plV p s q gg rr, stV t sw lk] w (ErrPost w (ofErr p st)) := by
 have HOF : Hid (∀ w', Below w.heap.size w w' → Calls Tryz.prog 115 #[plV p s q gg rr, stV t sw lk] w' (OfPost w' p st)) := fun w' hb => of_any p st s q gg rr t sw lk w' (hp.below hb) hf (hs.below hb) hsf
 obtain ⟨a1, c1, rfl, -⟩ := hp.secs
 obtain ⟨a2, c2, rfl, -⟩ := hp.pts
 obtain ⟨a3, c3, rfl, -⟩ := hp.sigs
 obtain ⟨a4, c4, rfl, -⟩ := hp.rts
 obtain ⟨b1, d1, rfl, -⟩ := hs.tks
 obtain ⟨b2, d2, rfl, -⟩ := hs.sws
 obtain ⟨b3, d3, rfl, -⟩ := hs.lks
 clear hp hf hs hsf
 unfold OfPost at HOF
 generalize ofErr p st = E at *
 unfold plV stV at *
 go_enter Tryz.func87, Tryz.ntmps87
 go_upto_region 1 with fail
 generalize hW0 : World.alloc _ _ = W0
 have K0 : Hid (Below w.heap.size w W0) := by show Below _ _ _; rw [← hW0]; exact ((Below.refl _ _).alloc (Nat.le_refl _) _).alloc (by simp) _
 have hbP : W0.heap[w.heap.size]? = some (.cells #[.int .i64 p.ver, .int .i64 p.par, .slice a1 p.secs.length c1, .slice a2 p.pts.length c2, .slice a3 p.sigs.length c3, .slice a4 p.rts.length c4] 28 (0, 0)) := by
  rw [← hW0]; exact (heap_alloc_old _ _ (by simp)).trans (heap_alloc_new _ _)
 have hbS : W0.heap[w.heap.size + 1]? = some (.cells #[.slice b1 st.tks.length d1, .slice b2 st.sws.length d2, .slice b3 st.lks.length d3] 33 (0, 0)) := by
  rw [← hW0]; exact heap_alloc2_new _ _ _
 obtain ⟨pp0, pp1, pp2, pp3, pp4, pp5⟩ := cells6 hbP
 obtain ⟨ss0, ss1, ss2⟩ := cells3 hbS
 clear hW0 hbP hbS
 have HC := Lib.hid (HOF.out W0 K0.out)
 clear HOF
 go_wp2_with fail
 refine HC.out.mono ?_
 rintro e w1 ⟨hb1, cs, H, A, a, l, c, rfl, hga, -⟩
 have K1 : Hid (Below w.heap.size w w1) := K0.out.trans (hb1.mono K0.out.size)
 have HGA := Lib.hid hga
 have hz2 : (Tryz.prog.info? 171).map (·.size) = some cs.size := by rw [info171, HGA.out.size]
 have hzz : Tryz.zeroCells171.size = cs.size := by rw [garr_zero.size, HGA.out.size]
 clear hga hb1 HC pp0 pp1 pp2 pp3 pp4 pp5 ss0 ss1 ss2
 go_wp2_with (refine wpList_store_row rfl 171 (.tmp 5) (.tmp 11) rfl w1.heap.size cs Tryz.zeroCells171 171 rfl rfl (heap_alloc_new _ _) hz2 hzz HGA.out.one ?_; rw [setRow_new])
 go_ret
 exact ⟨rfl, K1.out.alloc K1.out.size _⟩
set_option maxRecDepth 100000 in
set_option maxHeartbeats 8000000 in
theorem holder_any (p : Pl) (st : St) (s q gg rr t sw lk : Value) (n : Int) (w : World) (hp : PlM w s q gg rr p) (hf : p.Fit) (hs : StM w t sw lk st) (hsf : st.fit) :
  Calls Tryz.prog 56 #[plV p s q gg rr, stV t sw lk, .int .i64 n] w (TwoPost w (holderOf p st n)) := by
 have HOF : Hid (∀ w', Below w.heap.size w w' → Calls Tryz.prog 115 #[plV p s q gg rr, stV t sw lk] w' (OfPost w' p st)) := fun w' hb => of_any p st s q gg rr t sw lk w' (hp.below hb) hf (hs.below hb) hsf
 obtain ⟨a1, c1, rfl, k1⟩ := hp.secs
 obtain ⟨a2, c2, rfl, k2⟩ := hp.pts
 obtain ⟨a3, c3, rfl, -⟩ := hp.sigs
 obtain ⟨a4, c4, rfl, -⟩ := hp.rts
 obtain ⟨b1, d1, rfl, -⟩ := hs.tks
 obtain ⟨b2, d2, rfl, -⟩ := hs.sws
 obtain ⟨b3, d3, rfl, -⟩ := hs.lks
 have HCO : Hid (∀ w' g, Below w.heap.size w w' → w'.cell? ⟨g, 0, none⟩ = some (.int .i64 n) → Calls Tryz.prog 116 #[.slice a1 p.secs.length c1, .func (.func 117) #[] #[.pointer (some ⟨g, 0, none⟩)]] w' fun e w'' => e = .returned (.bool (p.secs.any fun x => decide (x.id = n))) ∧ Below w'.heap.size w' w'') := fun w' g hb hg =>
  confnSec 117 #[.pointer (some ⟨g, 0, none⟩)] (fun x => decide (x.id = n)) a1 c1 p.secs w' (k1.below keeps_sec hb) hf.secs plain117 (fun W i h hb' a' c' _ => isSec117 _ a' c' n g W (ccell hb' hg))
 have HZ : Hid (ofErr p st = 0 → PlanSound p) := fun h => (ofErr_zero h).1
 have HIN : Hid (PlanSound p → (p.secs.any fun x => decide (x.id = n)) = true → 0 ≤ n ∧ n ≤ 99) := fun h h' => sec_in h h'
 have HE1 : Hid (ofErr p st ≠ 0 → holderOf p st n = (0, ofErr p st)) := fun h => by unfold holderOf; rw [if_pos h]
 have HE2 : Hid (ofErr p st = 0 → (p.secs.any fun x => decide (x.id = n)) = false → holderOf p st n = (0, 6)) := fun h h' => by unfold holderOf; rw [if_neg (by rw [h]; simp), h']; rfl
 have HE3 : Hid (ofErr p st = 0 → (p.secs.any fun x => decide (x.id = n)) = true → holderOf p st n = ((grOf p st).H n.toNat, 0)) := fun h h' => by unfold holderOf; rw [if_neg (by rw [h]; simp), h']; rfl
 clear hp hf hs hsf k1 k2
 unfold OfPost at HOF
 generalize ofErr p st = E at *
 generalize holderOf p st n = R at *
 generalize (p.secs.any fun x => decide (x.id = n)) = B at *
 unfold plV stV at *
 go_enter Tryz.func56, Tryz.ntmps56
 go_upto_region 1 with fail
 generalize hW0 : World.alloc _ _ = W0
 have K0 : Hid (Below w.heap.size w W0) := by show Below _ _ _; rw [← hW0]; exact (((Below.refl _ _).alloc (Nat.le_refl _) _).alloc (by simp) _).alloc (by simp <;> omega) _
 have hbP : W0.heap[w.heap.size]? = some (.cells #[.int .i64 p.ver, .int .i64 p.par, .slice a1 p.secs.length c1, .slice a2 p.pts.length c2, .slice a3 p.sigs.length c3, .slice a4 p.rts.length c4] 28 (0, 0)) := by
  rw [← hW0]; exact (heap_alloc_old _ _ (by simp <;> omega)).trans ((heap_alloc_old _ _ (by simp)).trans (heap_alloc_new _ _))
 have hbS : W0.heap[w.heap.size + 1]? = some (.cells #[.slice b1 st.tks.length d1, .slice b2 st.sws.length d2, .slice b3 st.lks.length d3] 33 (0, 0)) := by
  rw [← hW0]; exact (heap_alloc_old _ _ (by simp)).trans (heap_alloc2_new _ _ _)
 have hbN : W0.heap[w.heap.size + 1 + 1]? = some (.cells #[.int .i64 n] 3 (0, 0)) := by
  rw [← hW0]
  have := heap_alloc2_new (w.alloc (.cells #[.int .i64 p.ver, .int .i64 p.par, .slice a1 p.secs.length c1, .slice a2 p.pts.length c2, .slice a3 p.sigs.length c3, .slice a4 p.rts.length c4] 28)) (.cells #[.slice b1 st.tks.length d1, .slice b2 st.sws.length d2, .slice b3 st.lks.length d3] 33) (.cells #[.int .i64 n] 3)
  simpa using this
 have HBP := Lib.hid hbP
 have HBN := Lib.hid hbN
 obtain ⟨pp0, pp1, pp2, pp3, pp4, pp5⟩ := cells6 hbP
 obtain ⟨ss0, ss1, ss2⟩ := cells3 hbS
 clear hW0 hbP hbS hbN
 have HC := Lib.hid (HOF.out W0 K0.out)
 clear HOF
 go_wp2_with fail
 refine HC.out.mono ?_
 rintro e w1 ⟨hb1, cs, H, A, a, l, c, rfl, hga, hgr⟩
 have K1 : Hid (Below w.heap.size w w1) := K0.out.trans (hb1.mono K0.out.size)
 have HGA := Lib.hid hga
 have HGR := Lib.hid hgr
 have hz2 : (Tryz.prog.info? 171).map (·.size) = some cs.size := by rw [info171, HGA.out.size]
 have hzz : Tryz.zeroCells171.size = cs.size := by rw [garr_zero.size, HGA.out.size]
 have hp1 := (hb1.block _ (lt_of_block HBP.out)).trans HBP.out
 have hn1 := (hb1.block _ (lt_of_block HBN.out)).trans HBN.out
 have HP1 := Lib.hid hp1
 have HN1 := Lib.hid hn1
 clear hga hgr hb1 HC pp0 pp1 pp2 pp3 pp4 pp5 ss0 ss1 ss2 hp1 hn1
 go_upto_region 2 with (refine wpList_store_row rfl 171 (.tmp 8) (.tmp 14) rfl w1.heap.size cs Tryz.zeroCells171 171 rfl rfl (heap_alloc_new _ _) hz2 hzz HGA.out.one ?_; rw [setRow_new])
 generalize hWX : w1.alloc (.cells cs 171) = WX
 have hb3 : Below w1.heap.size w1 WX := by rw [← hWX]; exact (Below.refl _ _).alloc (Nat.le_refl _) _
 have KX : Hid (Below w.heap.size w WX) := K1.out.trans (hb3.mono K1.out.size)
 have HPX := Lib.hid ((hb3.block _ (lt_of_block HP1.out)).trans HP1.out)
 have HNX := Lib.hid ((hb3.block _ (lt_of_block HN1.out)).trans HN1.out)
 have HCX : Hid (WX.heap[w1.heap.size]? = some (.cells cs 171 (0, 0))) := by show _ = _; rw [← hWX]; exact heap_alloc_new _ _
 clear hWX hb3
 by_cases hE : E = 0
 ·subst hE
  have y0 : WX.cell? ⟨w.heap.size + 1 + 1, 0, none⟩ = some (.int .i64 n) := (cell_of_row WX _ 0 _ _ _ HNX.out).trans rfl
  have y1 : WX.cell? ⟨w.heap.size, 2, none⟩ = some (.slice a1 p.secs.length c1) := (cell_of_row WX _ 2 _ _ _ HPX.out).trans rfl
  have HFI := Lib.hid (HCO.out WX _ KX.out y0)
  clear y0
  go_wp2_with fail
  refine HFI.out.mono ?_
  rintro e w2 ⟨rfl, hb2⟩
  have K2 : Hid (Below w.heap.size w w2) := KX.out.trans (hb2.mono KX.out.size)
  have HN2 := Lib.hid ((hb2.block _ (lt_of_block HNX.out)).trans HNX.out)
  have HC2 := Lib.hid ((hb2.block _ (lt_of_block HCX.out)).trans HCX.out)
  clear hb2 y1 HFI
  cases hB : B with
  | false =>
   have HR : Hid (R = (0, 6)) := HE2.out trivial hB
   clear hB
   go_wp2_with fail
   refine bodyPost_ret (v := .tuple #[.int .i64 0, .int .i64 6]) (by simp [results, Tryz.f56, go_sem]) rfl ⟨by rw [HR.out], K2.out⟩
  | true =>
   have HR := Lib.hid (HE3.out trivial hB)
   have HSD := Lib.hid (HZ.out trivial)
   have hnn := HIN.out HSD.out hB
   obtain ⟨m, rfl⟩ := Int.eq_ofNat_of_zero_le hnn.1
   have hm : m < 100 := by omega
   have i0 : (0 : Int) ≤ (m : Int) := by omega
   have i1 : (m : Int) < 100 := by omega
   have y0 : w2.cell? ⟨w.heap.size + 1 + 1, 0, none⟩ = some (.int .i64 (m : Int)) := (cell_of_row w2 _ 0 _ _ _ HN2.out).trans rfl
   have y1 : w2.cell? ⟨w1.heap.size, m, none⟩ = some (.int .i64 (H m)) := (cell_of_row w2 _ _ _ _ _ HC2.out).trans (HGA.out.H m hm)
   clear hB hnn
   go_wp2_with fail
   refine bodyPost_ret (v := .tuple #[.int .i64 (H m), .int .i64 0]) (by simp [results, Tryz.f56, go_sem]) rfl ⟨by rw [HR.out, (HGR.out trivial).1]; rfl, K2.out⟩
 ·have HR := Lib.hid (HE1.out hE)
  have hd : decide (E = 0) = false := decide_eq_false hE
  go_wp2_with fail
  refine bodyPost_ret (v := .tuple #[.int .i64 0, .int .i64 E]) (by simp [results, Tryz.f56, go_sem]) rfl ⟨by rw [HR.out], KX.out⟩
set_option maxRecDepth 100000 in
set_option maxHeartbeats 8000000 in
theorem asked_any (p : Pl) (st : St) (s q gg rr t sw lk : Value) (n : Int) (w : World) (hp : PlM w s q gg rr p) (hf : p.Fit) (hs : StM w t sw lk st) (hsf : st.fit) :
  Calls Tryz.prog 57 #[plV p s q gg rr, stV t sw lk, .int .i64 n] w (TwoPost w (askAt p st n)) := by
 have HOF : Hid (∀ w', Below w.heap.size w w' → Calls Tryz.prog 115 #[plV p s q gg rr, stV t sw lk] w' (OfPost w' p st)) := fun w' hb => of_any p st s q gg rr t sw lk w' (hp.below hb) hf (hs.below hb) hsf
 obtain ⟨a1, c1, rfl, k1⟩ := hp.secs
 obtain ⟨a2, c2, rfl, k2⟩ := hp.pts
 obtain ⟨a3, c3, rfl, -⟩ := hp.sigs
 obtain ⟨a4, c4, rfl, -⟩ := hp.rts
 obtain ⟨b1, d1, rfl, -⟩ := hs.tks
 obtain ⟨b2, d2, rfl, -⟩ := hs.sws
 obtain ⟨b3, d3, rfl, -⟩ := hs.lks
 have HCO : Hid (∀ w' g, Below w.heap.size w w' → w'.cell? ⟨g, 0, none⟩ = some (.int .i64 n) → Calls Tryz.prog 118 #[.slice a2 p.pts.length c2, .func (.func 119) #[] #[.pointer (some ⟨g, 0, none⟩)]] w' fun e w'' => e = .returned (.bool (p.pts.any fun x => decide (x.id = n))) ∧ Below w'.heap.size w' w'') := fun w' g hb hg =>
  confnPt 119 #[.pointer (some ⟨g, 0, none⟩)] (fun x => decide (x.id = n)) a2 c2 p.pts w' (k2.below keeps_pt hb) hf.pts plain119 (fun W i h hb' => isPt119 _ n g W (ccell hb' hg))
 have HZ : Hid (ofErr p st = 0 → PlanSound p) := fun h => (ofErr_zero h).1
 have HIN : Hid (PlanSound p → (p.pts.any fun x => decide (x.id = n)) = true → 0 ≤ n ∧ n ≤ 99) := fun h h' => pt_in h h'
 have HE1 : Hid (ofErr p st ≠ 0 → askAt p st n = (0, ofErr p st)) := fun h => by unfold askAt; rw [if_pos h]
 have HE2 : Hid (ofErr p st = 0 → (p.pts.any fun x => decide (x.id = n)) = false → askAt p st n = (0, 6)) := fun h h' => by unfold askAt; rw [if_neg (by rw [h]; simp), h']; rfl
 have HE3 : Hid (ofErr p st = 0 → (p.pts.any fun x => decide (x.id = n)) = true → askAt p st n = ((grOf p st).A n.toNat, 0)) := fun h h' => by unfold askAt; rw [if_neg (by rw [h]; simp), h']; rfl
 clear hp hf hs hsf k1 k2
 unfold OfPost at HOF
 generalize ofErr p st = E at *
 generalize askAt p st n = R at *
 generalize (p.pts.any fun x => decide (x.id = n)) = B at *
 unfold plV stV at *
 go_enter Tryz.func57, Tryz.ntmps57
 go_upto_region 1 with fail
 generalize hW0 : World.alloc _ _ = W0
 have K0 : Hid (Below w.heap.size w W0) := by show Below _ _ _; rw [← hW0]; exact (((Below.refl _ _).alloc (Nat.le_refl _) _).alloc (by simp) _).alloc (by simp <;> omega) _
 have hbP : W0.heap[w.heap.size]? = some (.cells #[.int .i64 p.ver, .int .i64 p.par, .slice a1 p.secs.length c1, .slice a2 p.pts.length c2, .slice a3 p.sigs.length c3, .slice a4 p.rts.length c4] 28 (0, 0)) := by
  rw [← hW0]; exact (heap_alloc_old _ _ (by simp <;> omega)).trans ((heap_alloc_old _ _ (by simp)).trans (heap_alloc_new _ _))
 have hbS : W0.heap[w.heap.size + 1]? = some (.cells #[.slice b1 st.tks.length d1, .slice b2 st.sws.length d2, .slice b3 st.lks.length d3] 33 (0, 0)) := by
  rw [← hW0]; exact (heap_alloc_old _ _ (by simp)).trans (heap_alloc2_new _ _ _)
 have hbN : W0.heap[w.heap.size + 1 + 1]? = some (.cells #[.int .i64 n] 3 (0, 0)) := by
  rw [← hW0]
  have := heap_alloc2_new (w.alloc (.cells #[.int .i64 p.ver, .int .i64 p.par, .slice a1 p.secs.length c1, .slice a2 p.pts.length c2, .slice a3 p.sigs.length c3, .slice a4 p.rts.length c4] 28)) (.cells #[.slice b1 st.tks.length d1, .slice b2 st.sws.length d2, .slice b3 st.lks.length d3] 33) (.cells #[.int .i64 n] 3)
  simpa using this
 have HBP := Lib.hid hbP
 have HBN := Lib.hid hbN
 obtain ⟨pp0, pp1, pp2, pp3, pp4, pp5⟩ := cells6 hbP
 obtain ⟨ss0, ss1, ss2⟩ := cells3 hbS
 clear hW0 hbP hbS hbN
 have HC := Lib.hid (HOF.out W0 K0.out)
 clear HOF
 go_wp2_with fail
 refine HC.out.mono ?_
 rintro e w1 ⟨hb1, cs, H, A, a, l, c, rfl, hga, hgr⟩
 have K1 : Hid (Below w.heap.size w w1) := K0.out.trans (hb1.mono K0.out.size)
 have HGA := Lib.hid hga
 have HGR := Lib.hid hgr
 have hz2 : (Tryz.prog.info? 171).map (·.size) = some cs.size := by rw [info171, HGA.out.size]
 have hzz : Tryz.zeroCells171.size = cs.size := by rw [garr_zero.size, HGA.out.size]
 have hp1 := (hb1.block _ (lt_of_block HBP.out)).trans HBP.out
 have hn1 := (hb1.block _ (lt_of_block HBN.out)).trans HBN.out
 have HP1 := Lib.hid hp1
 have HN1 := Lib.hid hn1
 clear hga hgr hb1 HC pp0 pp1 pp2 pp3 pp4 pp5 ss0 ss1 ss2 hp1 hn1
 go_upto_region 2 with (refine wpList_store_row rfl 171 (.tmp 8) (.tmp 14) rfl w1.heap.size cs Tryz.zeroCells171 171 rfl rfl (heap_alloc_new _ _) hz2 hzz HGA.out.one ?_; rw [setRow_new])
 generalize hWX : w1.alloc (.cells cs 171) = WX
 have hb3 : Below w1.heap.size w1 WX := by rw [← hWX]; exact (Below.refl _ _).alloc (Nat.le_refl _) _
 have KX : Hid (Below w.heap.size w WX) := K1.out.trans (hb3.mono K1.out.size)
 have HPX := Lib.hid ((hb3.block _ (lt_of_block HP1.out)).trans HP1.out)
 have HNX := Lib.hid ((hb3.block _ (lt_of_block HN1.out)).trans HN1.out)
 have HCX : Hid (WX.heap[w1.heap.size]? = some (.cells cs 171 (0, 0))) := by show _ = _; rw [← hWX]; exact heap_alloc_new _ _
 clear hWX hb3
 by_cases hE : E = 0
 ·subst hE
  have y0 : WX.cell? ⟨w.heap.size + 1 + 1, 0, none⟩ = some (.int .i64 n) := (cell_of_row WX _ 0 _ _ _ HNX.out).trans rfl
  have y1 : WX.cell? ⟨w.heap.size, 3, none⟩ = some (.slice a2 p.pts.length c2) := (cell_of_row WX _ 3 _ _ _ HPX.out).trans rfl
  have HFI := Lib.hid (HCO.out WX _ KX.out y0)
  clear y0
  go_wp2_with fail
  refine HFI.out.mono ?_
  rintro e w2 ⟨rfl, hb2⟩
  have K2 : Hid (Below w.heap.size w w2) := KX.out.trans (hb2.mono KX.out.size)
  have HN2 := Lib.hid ((hb2.block _ (lt_of_block HNX.out)).trans HNX.out)
  have HC2 := Lib.hid ((hb2.block _ (lt_of_block HCX.out)).trans HCX.out)
  clear hb2 y1 HFI
  cases hB : B with
  | false =>
   have HR : Hid (R = (0, 6)) := HE2.out trivial hB
   clear hB
   go_wp2_with fail
   refine bodyPost_ret (v := .tuple #[.int .i64 0, .int .i64 6]) (by simp [results, Tryz.f57, go_sem]) rfl ⟨by rw [HR.out], K2.out⟩
  | true =>
   have HR := Lib.hid (HE3.out trivial hB)
   have HSD := Lib.hid (HZ.out trivial)
   have hnn := HIN.out HSD.out hB
   obtain ⟨m, rfl⟩ := Int.eq_ofNat_of_zero_le hnn.1
   have hm : m < 100 := by omega
   have i0 : (0 : Int) ≤ (m : Int) := by omega
   have i1 : (m : Int) < 100 := by omega
   have y0 : w2.cell? ⟨w.heap.size + 1 + 1, 0, none⟩ = some (.int .i64 (m : Int)) := (cell_of_row w2 _ 0 _ _ _ HN2.out).trans rfl
   have y1 : w2.cell? ⟨w1.heap.size, 100 + m, none⟩ = some (.int .i64 (A m)) := (cell_of_row w2 _ _ _ _ _ HC2.out).trans (HGA.out.A m hm)
   clear hB hnn
   go_wp2_with fail
   refine bodyPost_ret (v := .tuple #[.int .i64 (A m), .int .i64 0]) (by simp [results, Tryz.f57, go_sem]) rfl ⟨by rw [HR.out, (HGR.out trivial).2]; rfl, K2.out⟩
 ·have HR := Lib.hid (HE1.out hE)
  have hd : decide (E = 0) = false := decide_eq_false hE
  go_wp2_with fail
  refine bodyPost_ret (v := .tuple #[.int .i64 0, .int .i64 E]) (by simp [results, Tryz.f57, go_sem]) rfl ⟨by rw [HR.out], KX.out⟩
end Go.Proofs.YtbiehpjhhopjaaaGreat
namespace Go.Proofs.YtbiehpjhhopjaaaGreat
open Go.RowKit
def stn : Pl := ⟨1, 0, [⟨1, 0, [⟨0, 0⟩, ⟨2, 0⟩]⟩, ⟨2, 2, [⟨1, 1⟩, ⟨3, 0⟩, ⟨4, 0⟩]⟩, ⟨3, 0, [⟨2, 1⟩, ⟨5, 1⟩]⟩, ⟨4, 0, [⟨2, 2⟩, ⟨5, 2⟩]⟩, ⟨5, 5, [⟨6, 0⟩, ⟨3, 1⟩, ⟨4, 1⟩]⟩, ⟨6, 0, [⟨5, 0⟩, ⟨0, 0⟩]⟩], [⟨2, 2⟩, ⟨5, 5⟩], [⟨1, 1, 1⟩, ⟨3, 3, 1⟩, ⟨4, 4, 1⟩, ⟨6, 6, 0⟩], [⟨1, 1, 3, [2, 3], [5], [], 2⟩, ⟨3, 3, 0, [5, 6], [], [], 1⟩, ⟨6, 6, 0, [5, 4, 2, 1], [], [], 1⟩]⟩
end Go.Proofs.YtbiehpjhhopjaaaGreat
