/-
 Regions that draw their order, hold reads and calls, and lay one value into memory of their own: what holds on the way.
 The references' way out of a route's section, walked. (Written by wip/tools/gen_rwf.py.)
-/
import Derived.Test.YtbiehpjhhopjaaaGreatTStateE
import Derived.Test.YtbiehpjhhopjaaaGreatTRwE
set_option linter.unusedVariables false
set_option linter.unusedSimpArgs false
namespace Go.Proofs.YtbiehpjhhopjaaaGreat
open Go.RowKit
structure RG (w0 : World) (v : Nat → Value) (ia is : Nat) (Z C : Array Value) (T : TypeId) (f : Nat → Bool) (s : Nat → Value) (W : World) : Prop where
 bel : Below w0.heap.size w0 W
 val : ∀ i, i ≠ ia → f i = true → s i = v i
 ord : f is = true → f ia = true
 al : f ia = true → ∃ g, s ia = .pointer (some ⟨g, 0, none⟩) ∧ w0.heap.size ≤ g ∧ W.heap[g]? = some (.cells (bif f is then C else Z) T (0, 0))
section
variable {w0 : World} {v : Nat → Value} {ia is : Nat} {Z C : Array Value} {T : TypeId} {f : Nat → Bool} {s : Nat → Value} {W W' : World}
theorem RG.start (hb : Below w0.heap.size w0 W) : RG w0 v ia is Z C T (fun _ => false) s W := ⟨hb, (fun _ _ (h : false = true) => Bool.noConfusion h), (fun (h : false = true) => Bool.noConfusion h), (fun (h : false = true) => Bool.noConfusion h)⟩
theorem RG.grow (h : RG w0 v ia is Z C T f s W) (hb : Below W.heap.size W W') : RG w0 v ia is Z C T f s W' :=
 ⟨h.bel.trans (hb.mono h.bel.size), h.val, h.ord, fun k => by
  obtain ⟨g, e, hg, hc⟩ := h.al k
  exact ⟨g, e, hg, (hb.block g (lt_of_block hc)).trans hc⟩⟩
theorem RG.step (h : RG w0 v ia is Z C T f s W) (i : Nat) (h1 : i ≠ ia) (h2 : i ≠ is) : RG w0 v ia is Z C T (fun j => decide (j = i) || f j) (fun j => if j = i then v i else s j) W := by
 have e1 : (decide (ia = i) || f ia) = f ia := by rw [decide_eq_false (fun e => h1 e.symm)]; rfl
 have e2 : (decide (is = i) || f is) = f is := by rw [decide_eq_false (fun e => h2 e.symm)]; rfl
 refine ⟨h.bel, fun j hj hf => ?_, fun hf => ?_, fun hf => ?_⟩
 ·by_cases e : j = i
  ·subst e; exact if_pos rfl
  ·simp only [if_neg e]
   rw [decide_eq_false e, Bool.false_or] at hf
   exact h.val j hj hf
 ·rw [e2] at hf; rw [e1]; exact h.ord hf
 ·rw [e1] at hf
  obtain ⟨g, e, hg, hc⟩ := h.al hf
  refine ⟨g, (if_neg (fun e => h1 e.symm)).trans e, hg, ?_⟩
  rw [e2]; exact hc
theorem RG.alloc (h : RG w0 v ia is Z C T f s W) (hne : ia ≠ is) (hun : f ia = false) : RG w0 v ia is Z C T (fun j => decide (j = ia) || f j) (fun j => if j = ia then .pointer (some ⟨W.heap.size, 0, none⟩) else s j) (W.alloc (.cells Z T)) := by
 have e2 : (decide (is = ia) || f is) = f is := by rw [decide_eq_false (fun e => hne e.symm)]; rfl
 have hs : f is = false := by
  cases k : f is with
  | false => rfl
  | true => rw [h.ord k] at hun; cases hun
 refine ⟨h.bel.alloc h.bel.size _, fun j hj hf => ?_, fun _ => by simp, fun _ => ⟨W.heap.size, if_pos rfl, h.bel.size, ?_⟩⟩
 ·simp only [if_neg hj]
  rw [decide_eq_false hj, Bool.false_or] at hf
  exact h.val j hj hf
 ·rw [e2, hs]
  exact heap_alloc_new _ _
theorem RG.at (h : RG w0 v ia is Z C T f s W) (ha : f ia = true) (hun : f is = false) : ∃ g, s ia = .pointer (some ⟨g, 0, none⟩) ∧ w0.heap.size ≤ g ∧ W.heap[g]? = some (.cells Z T (0, 0)) := by
 obtain ⟨g, e, hg, hc⟩ := h.al ha
 rw [hun] at hc
 exact ⟨g, e, hg, hc⟩
theorem RG.store (h : RG w0 v ia is Z C T f s W) (hne : ia ≠ is) {g : Nat} (ha : f ia = true) (e : s ia = .pointer (some ⟨g, 0, none⟩)) (hg : w0.heap.size ≤ g) (hc : W.heap[g]? = some (.cells Z T (0, 0))) :
  RG w0 v ia is Z C T (fun j => decide (j = is) || f j) (fun j => if j = is then v is else s j) (W.setRow g C) := by
 have hb : Below w0.heap.size W (W.setRow g C) := ⟨rfl, rfl, rfl, by simp [World.setRow], fun k hk => by
  simp only [World.setRow, Array.getElem?_modify]
  rw [if_neg (by omega)]⟩
 refine ⟨h.bel.trans hb, fun j hj hf => ?_, fun _ => ?_, fun _ => ⟨g, ?_, hg, ?_⟩⟩
 ·by_cases e : j = is
  ·subst e; exact if_pos rfl
  ·simp only [if_neg e]
   rw [decide_eq_false e, Bool.false_or] at hf
   exact h.val j hj hf
 ·rw [ha, Bool.or_true]
 ·exact (if_neg hne).trans e
 ·simp [World.setRow, Array.getElem?_modify, hc]
theorem RG.done (h : RG w0 v ia is Z C T f s W) (ha : f ia = true) (hs : f is = true) : ∃ g, s ia = .pointer (some ⟨g, 0, none⟩) ∧ w0.heap.size ≤ g ∧ W.heap[g]? = some (.cells C T (0, 0)) := by
 obtain ⟨g, e, hg, hc⟩ := h.al ha
 rw [hs] at hc
 exact ⟨g, e, hg, hc⟩
end
end Go.Proofs.YtbiehpjhhopjaaaGreat
namespace Go.Proofs.YtbiehpjhhopjaaaGreat
open Go.RowKit Go.Sort
def outNum (o : Option Nat) : Int := match o with | some e => (e : Int) | none => -1
theorem out_at {p : Pl} {r : Rt} {i : Nat} {a : Int} {k : Nat} (hk : k < (atSec p r i).ends.length) (h1 : okEnd p r i a k = true) (h2 : ∀ e, e < k → okEnd p r i a e = false) : outNum (outAt p r i a) = k := by
 unfold outAt
 rw [find_at hk h1 h2]
 rfl
theorem out_no {p : Pl} {r : Rt} {i : Nat} {a : Int} (h2 : ∀ e, e < (atSec p r i).ends.length → okEnd p r i a e = false) : outNum (outAt p r i a) = -1 := by
 unfold outAt
 rw [List.find?_eq_none.2]
 ·rfl
 ·intro e he
  rw [h2 e (List.mem_range.1 he)]
  simp
theorem one_fix {l : List Sec} {n : Int} {m : Nat} (hm : m < l.length) (h : fix (fun x => decide (x.id = n)) l = (m : Int)) : oneOf Sec.id zSec l n = l[m] := by
 rcases fix_cases (fun x : Sec => decide (x.id = n)) l with ⟨e, _⟩ | ⟨k, hk, e, h1, h2⟩
 ·rw [e] at h; omega
 ·have : k = m := by rw [e] at h; omega
  subst this
  exact (one_some hk h1 h2).1
set_option maxRecDepth 100000 in
set_option maxHeartbeats 16000000 in
theorem refOut (p : Pl) (s q gg rr : Value) (r : Rt) (c5 c6 c7 : Value) (la : Option Addr) (lc n : Nat) (a : Int) (w : World) (hp : PlM w s q gg rr p) (hf : p.Fit) (hr : RtM w c5 c6 c7 r) (hl : IL w la (allOf r).length (allOf r)) (hn : n < (allOf r).length) (hall : (allOf r).length ≤ 1000)
  (hat : isOne Sec.id p.secs (allOf r)[n] = true) (hsh : (atSec p r n).ends.length ≤ 3) (hnx : n + 1 ≠ r.path.length → n + 1 < (allOf r).length) (hpath : r.path.length ≤ 1000) :
  Calls Tryz.prog 313 #[plV p s q gg rr, .agg #[.int .i64 r.id, .int .i64 r.entry, .int .i64 r.exit, c5, c6, c7, .int .i64 r.timer], .slice la (allOf r).length lc, .int .i64 n, .int .i64 a] w (NumPost w (outNum (outAt p r n a))) := by
 obtain ⟨m, hm, hfix⟩ := fixp_of.1 hat
 have hsec : atSec p r n = p.secs[m] := by
  unfold atSec
  rw [List.getD_eq_getElem?_getD, List.getElem?_eq_getElem hn]
  exact one_fix hm hfix
 have HOA : Hid (∀ k, k < p.secs[m].ends.length → okEnd p r n a k = true → (∀ e, e < k → okEnd p r n a e = false) → outNum (outAt p r n a) = k) := fun k hk h1 h2 => out_at (by rw [hsec]; exact hk) h1 h2
 have HON : Hid ((∀ e, e < p.secs[m].ends.length → okEnd p r n a e = false) → outNum (outAt p r n a) = -1) := fun h2 => out_no (by rw [hsec]; exact h2)
 have HOK : Hid (∀ e : Nat, okEnd p r n a e = (decide (0 ≤ lieR p.secs[m] a e) && (if n + 1 = r.path.length then decide ((r.exit = 0 ∧ (p.secs[m].ends.getD e ⟨0, 0⟩).to = 0) ∨ (r.exit ≠ 0 ∧ standAt p p.secs[m].id e = r.exit)) else decide ((p.secs[m].ends.getD e ⟨0, 0⟩).to = (allOf r).getD (n + 1) 0)))) := fun e => by
  unfold okEnd
  rw [hsec]
 rw [hsec] at hsh
 generalize outNum (outAt p r n a) = ON at *
 obtain ⟨p1, pn, p3, rfl, ip⟩ := hr.path
 obtain ⟨o1, on, o3, rfl, io⟩ := hr.over
 obtain rfl := ip.len
 obtain rfl := io.len
 obtain ⟨f1, f3, rfl, -⟩ := hr.fl
 have HST : Hid (∀ (b : Int) W, Below w.heap.size w W → Calls Tryz.prog 219 #[plV p s q gg rr, .int .i64 p.secs[m].id, .int .i64 b] W (NumPost W (standAt p p.secs[m].id b))) := fun b W hb => refStand p s q gg rr p.secs[m].id b W (hp.below hb) hf
 obtain ⟨a1, k1, rfl, h1⟩ := hp.secs
 obtain ⟨a2, k2, rfl, -⟩ := hp.pts
 obtain ⟨a3, k3, rfl, -⟩ := hp.sigs
 obtain ⟨a4, k4, rfl, -⟩ := hp.rts
 have HSE : Hid (∀ W, Below w.heap.size w W → SlA W 3 RSec a1 k1 p.secs) := fun W hb => h1.below keeps_sec hb
 have HIL : Hid (∀ W, Below w.heap.size w W → IL W la (allOf r).length (allOf r)) := fun W hb => hl.below hb
 have LS := Lib.hid hf.secs
 have HFX := Lib.hid hfix
 have HNX := Lib.hid hnx
 clear hp hf hr hl h1 ip io hat hsec hfix hnx
 generalize allOf r = L at *
 unfold plV at *
 go_enter Tryz.func313, Tryz.ntmps313
 go_upto_region 1 with fail
 generalize hW0 : World.alloc _ _ = W0
 have K0 : Hid (Below w.heap.size w W0) := by show Below _ _ _; rw [← hW0]; exact ((Below.refl _ _).alloc (Nat.le_refl _) _).alloc (by simp) _
 have BX0 : Hid (W0.heap[w.heap.size]? = some (.cells #[.int .i64 p.ver, .int .i64 p.par, .slice a1 p.secs.length k1, .slice a2 p.pts.length k2, .slice a3 p.sigs.length k3, .slice a4 p.rts.length k4] 28 (0, 0)) ∧ W0.heap[w.heap.size + 1]? = some (.cells #[.int .i64 r.id, .int .i64 r.entry, .int .i64 r.exit, .slice p1 r.path.length p3, .slice o1 r.over.length o3, .slice f1 r.fl.length f3, .int .i64 r.timer] 102 (0, 0))) := by
  show _ ∧ _
  rw [← hW0]
  exact ⟨(heap_alloc_old _ _ (by simp)).trans (heap_alloc_new _ _), heap_alloc2_new _ _ _⟩
 have BXW : Hid (∀ W, Below W0.heap.size W0 W → W.heap[w.heap.size]? = some (.cells #[.int .i64 p.ver, .int .i64 p.par, .slice a1 p.secs.length k1, .slice a2 p.pts.length k2, .slice a3 p.sigs.length k3, .slice a4 p.rts.length k4] 28 (0, 0)) ∧ W.heap[w.heap.size + 1]? = some (.cells #[.int .i64 r.id, .int .i64 r.entry, .int .i64 r.exit, .slice p1 r.path.length p3, .slice o1 r.over.length o3, .slice f1 r.fl.length f3, .int .i64 r.timer] 102 (0, 0))) := fun W hb => ⟨(hb.block _ (lt_of_block BX0.out.1)).trans BX0.out.1, (hb.block _ (lt_of_block BX0.out.2)).trans BX0.out.2⟩
 have KW : Hid (∀ W, Below W0.heap.size W0 W → Below w.heap.size w W) := fun W hb => K0.out.trans (hb.mono K0.out.size)
 clear hW0
 obtain ⟨lb, lo, rfl, l0⟩ := (HIL.out _ K0.out).cell n hn
 obtain ⟨sb, so, ea, ec, hea, v0, v1, v2, hen⟩ := (HSE.out _ K0.out).sec hm
 subst hea
 have HEN : Hid (∀ W, Below W0.heap.size W0 W → SlA W 2 RJn ea ec p.secs[m].ends) := fun W hb => hen.below keeps_jn hb
 clear hen
 have c0 : (0 : Int) ≤ (n : Int) := by omega
 have c1 : (n : Int) < (L.length : Int) := by omega
 have d0 : (0 : Int) ≤ (m : Int) := by omega
 have d1 : (m : Int) < (p.secs.length : Int) := by omega
 have pp2 : W0.cell? ⟨w.heap.size, 2, none⟩ = some (.slice (some ⟨sb, so, none⟩) p.secs.length k1) := (cell_of_row W0 _ 2 _ _ _ (BX0.out).1).trans rfl
 refine wp_region_inv' (by kernel_rfl) (by kernel_rfl) (fun f ac W9 => ∃ s : Nat → Value, ac = { tmps := #[.agg #[.int .i64 p.ver, .int .i64 p.par, .slice (some ⟨sb, so, none⟩) p.secs.length k1, .slice a2 p.pts.length k2, .slice a3 p.sigs.length k3, .slice a4 p.rts.length k4], .agg #[.int .i64 r.id, .int .i64 r.entry, .int .i64 r.exit, .slice p1 r.path.length p3, .slice o1 r.over.length o3, .slice f1 r.fl.length f3, .int .i64 r.timer], .slice (some ⟨lb, lo, none⟩) L.length lc, .int .i64 n, .int .i64 a, .pointer (some ⟨w.heap.size, 0, none⟩), .pointer (some ⟨w.heap.size + 1, 0, none⟩), undef, undef, undef, .int .i64 0, s 11, undef, s 0, s 1, s 2, s 3, s 4, s 5, s 6, s 7, s 8, s 9, s 10, undef, undef, undef, undef, undef, undef, undef, undef, undef, undef, undef, undef, undef, undef, undef, undef, undef, undef, undef, undef, undef, undef, undef, undef, undef, undef, undef, undef, undef, undef, undef, undef, undef, undef, undef, undef, undef, undef, undef, undef, undef, undef, undef, undef, undef, undef, undef, undef, undef, undef, undef, undef, undef, undef, undef, undef, undef, undef, undef], defers := [] } ∧ RG W0 (fun i => match i with | 0 => .pointer (some ⟨w.heap.size, 2, none⟩) | 1 => .slice (some ⟨sb, so, none⟩) p.secs.length k1 | 2 => .pointer (some ⟨w.heap.size, 2, none⟩) | 3 => .slice (some ⟨sb, so, none⟩) p.secs.length k1 | 4 => .slice (some ⟨lb, lo, none⟩) L.length lc | 5 => .int .i64 n | 6 => .pointer (some ⟨lb, lo + n, none⟩) | 7 => .int .i64 L[n] | 8 => .int .i64 m | 9 => .pointer (some ⟨sb, so + m * 3, none⟩) | 10 => .agg #[.int .i64 p.secs[m].id, .int .i64 p.secs[m].pt, .slice ea p.secs[m].ends.length ec] | _ => undef) 11 12 #[.int .i64 0, .int .i64 0, .slice none 0 0] #[.int .i64 p.secs[m].id, .int .i64 p.secs[m].pt, .slice ea p.secs[m].ends.length ec] 80 f s W9) ?_ ?_ ?_
 ·exact ⟨(fun i => match i with | 0 => undef | 1 => undef | 2 => undef | 3 => undef | 4 => undef | 5 => undef | 6 => undef | 7 => undef | 8 => undef | 9 => undef | 10 => undef | 11 => undef | _ => undef), rfl, RG.start ⟨rfl, rfl, rfl, Nat.le_refl _, fun _ _ => rfl⟩⟩
 ·intro i o ho f a W9 hI hd hun
  obtain ⟨s, rfl, hS⟩ := hI
  rcases i with _ | _ | _ | _ | _ | _ | _ | _ | _ | _ | _ | _ | _ | i
  ·have ho2 := ho
   simp at ho2
   subst ho2
   refine wpOp_put (by simp [wpOp, go_sem]; exact .inl ⟨rfl, rfl⟩) ?_
   exact ⟨fun j => if j = 0 then .pointer (some ⟨w.heap.size, 2, none⟩) else s j, rfl, hS.step 0 (by decide) (by decide)⟩
  ·have ho2 := ho
   simp at ho2
   subst ho2
   have e0 : s 0 = .pointer (some ⟨w.heap.size, 2, none⟩) := hS.val 0 (by decide) (hd ⟨0, .data⟩ (by simp) (by rfl))
   have q2 := ccell hS.bel pp2
   refine wpOp_put (by simp [wpOp, go_sem, e0, q2]; exact .inl ⟨rfl, rfl⟩) ?_
   exact ⟨fun j => if j = 1 then .slice (some ⟨sb, so, none⟩) p.secs.length k1 else s j, by simp [e0], hS.step 1 (by decide) (by decide)⟩
  ·have ho2 := ho
   simp at ho2
   subst ho2
   refine wpOp_put (by simp [wpOp, go_sem]; exact .inl ⟨rfl, rfl⟩) ?_
   exact ⟨fun j => if j = 2 then .pointer (some ⟨w.heap.size, 2, none⟩) else s j, rfl, hS.step 2 (by decide) (by decide)⟩
  ·have ho2 := ho
   simp at ho2
   subst ho2
   have e2 : s 2 = .pointer (some ⟨w.heap.size, 2, none⟩) := hS.val 2 (by decide) (hd ⟨2, .data⟩ (by simp) (by rfl))
   have q2 := ccell hS.bel pp2
   refine wpOp_put (by simp [wpOp, go_sem, e2, q2]; exact .inl ⟨rfl, rfl⟩) ?_
   exact ⟨fun j => if j = 3 then .slice (some ⟨sb, so, none⟩) p.secs.length k1 else s j, by simp [e2], hS.step 3 (by decide) (by decide)⟩
  ·have ho2 := ho
   simp at ho2
   subst ho2
   refine wpOp_put (by simp [wpOp, go_sem]; exact .inl ⟨rfl, rfl⟩) ?_
   exact ⟨fun j => if j = 4 then .slice (some ⟨lb, lo, none⟩) L.length lc else s j, rfl, hS.step 4 (by decide) (by decide)⟩
  ·have ho2 := ho
   simp at ho2
   subst ho2
   refine wpOp_put (by simp [wpOp, go_sem]; exact .inl ⟨rfl, rfl⟩) ?_
   exact ⟨fun j => if j = 5 then .int .i64 n else s j, rfl, hS.step 5 (by decide) (by decide)⟩
  ·have ho2 := ho
   simp at ho2
   subst ho2
   have e4 : s 4 = .slice (some ⟨lb, lo, none⟩) L.length lc := hS.val 4 (by decide) (hd ⟨4, .data⟩ (by simp) (by rfl))
   have e5 : s 5 = .int .i64 n := hS.val 5 (by decide) (hd ⟨5, .data⟩ (by simp) (by rfl))
   refine wpOp_put (by simp [wpOp, go_sem, e4, e5, c0, c1]; exact .inl ⟨rfl, rfl⟩) ?_
   exact ⟨fun j => if j = 6 then .pointer (some ⟨lb, lo + n, none⟩) else s j, by simp [e4, e5], hS.step 6 (by decide) (by decide)⟩
  ·have ho2 := ho
   simp at ho2
   subst ho2
   have e6 : s 6 = .pointer (some ⟨lb, lo + n, none⟩) := hS.val 6 (by decide) (hd ⟨6, .data⟩ (by simp) (by rfl))
   have q3 := ccell hS.bel l0
   refine wpOp_put (by simp [wpOp, go_sem, e6, q3]; exact .inl ⟨rfl, rfl⟩) ?_
   exact ⟨fun j => if j = 7 then .int .i64 L[n] else s j, by simp [e6], hS.step 7 (by decide) (by decide)⟩
  ·have ho2 := ho
   simp at ho2
   subst ho2
   have e3 : s 3 = .slice (some ⟨sb, so, none⟩) p.secs.length k1 := hS.val 3 (by decide) (hd ⟨3, .data⟩ (by simp) (by rfl))
   have e7 : s 7 = .int .i64 L[n] := hS.val 7 (by decide) (hd ⟨7, .data⟩ (by simp) (by rfl))
   have hc := ((secAt (some ⟨sb, so, none⟩) k1 p.secs L[n] W9 (HSE.out _ (KW.out _ hS.bel)) LS.out).mono fun e w' h => (⟨h.1.trans (by rw [HFX.out]), below_same h.2⟩ : e = .returned (.int .i64 m) ∧ Below W9.heap.size W9 w'))
   apply wpOp_putB (R := fun w' => Below W9.heap.size W9 w')
   ·simp [wpOp, go_sem, e3, e7]
    refine .inl (hc.mono ?_)
    rintro e w' ⟨rfl, hb⟩
    simp [go_sem]
    exact ⟨rfl, hb⟩
   ·intro w' hb
    exact ⟨fun j => if j = 8 then .int .i64 m else s j, by simp [e3, e7], (hS.grow hb).step 8 (by decide) (by decide)⟩
  ·have ho2 := ho
   simp at ho2
   subst ho2
   have e1 : s 1 = .slice (some ⟨sb, so, none⟩) p.secs.length k1 := hS.val 1 (by decide) (hd ⟨1, .data⟩ (by simp) (by rfl))
   have e8 : s 8 = .int .i64 m := hS.val 8 (by decide) (hd ⟨8, .data⟩ (by simp) (by rfl))
   refine wpOp_put (by simp [wpOp, go_sem, e1, e8, d0, d1]; exact .inl ⟨rfl, rfl⟩) ?_
   exact ⟨fun j => if j = 9 then .pointer (some ⟨sb, so + m * 3, none⟩) else s j, by simp [e1, e8], hS.step 9 (by decide) (by decide)⟩
  ·have ho2 := ho
   simp at ho2
   subst ho2
   have e9 : s 9 = .pointer (some ⟨sb, so + m * 3, none⟩) := hS.val 9 (by decide) (hd ⟨9, .data⟩ (by simp) (by rfl))
   have q4 := ccell hS.bel v0
   have q5 := ccell hS.bel v1
   have q6 := ccell hS.bel v2
   refine wpOp_put (by simp [wpOp, go_sem, e9, q4, q5, q6]; exact .inl ⟨rfl, rfl⟩) ?_
   exact ⟨fun j => if j = 10 then .agg #[.int .i64 p.secs[m].id, .int .i64 p.secs[m].pt, .slice ea p.secs[m].ends.length ec] else s j, by simp [e9], hS.step 10 (by decide) (by decide)⟩
  ·have ho2 := ho
   simp at ho2
   subst ho2
   refine wpOp_put (by simp [wpOp, go_sem]; exact .inl ⟨rfl, rfl⟩) ?_
   exact ⟨fun j => if j = 11 then .pointer (some ⟨W9.heap.size, 0, none⟩) else s j, rfl, hS.alloc (by decide) hun⟩
  ·have ho2 := ho
   simp at ho2
   subst ho2
   have e10 : s 10 = .agg #[.int .i64 p.secs[m].id, .int .i64 p.secs[m].pt, .slice ea p.secs[m].ends.length ec] := hS.val 10 (by decide) (hd ⟨10, .data⟩ (by simp) (by rfl))
   have ha := hd ⟨11, .data⟩ (by simp) (by rfl)
   obtain ⟨g, eg, hg1, hg2⟩ := hS.at ha hun
   refine wpOp_store_row ho rfl 80 (.tmp 11) (.tmp 23) rfl g #[.int .i64 p.secs[m].id, .int .i64 p.secs[m].pt, .slice ea p.secs[m].ends.length ec] eg e10 80 #[.int .i64 0, .int .i64 0, .slice none 0 0] hg2 rfl rfl (by simp [Value.oneCell']) ?_
   exact ⟨fun j => if j = 12 then undef else s j, rfl, hS.store (by decide) ha eg hg1 hg2⟩
  ·simp at ho
 ·intro f a W9 hI hall
  obtain ⟨s, rfl, hS⟩ := hI
  have e0 : s 0 = .pointer (some ⟨w.heap.size, 2, none⟩) := hS.val 0 (by decide) (hall 0 (by decide))
  have e1 : s 1 = .slice (some ⟨sb, so, none⟩) p.secs.length k1 := hS.val 1 (by decide) (hall 1 (by decide))
  have e2 : s 2 = .pointer (some ⟨w.heap.size, 2, none⟩) := hS.val 2 (by decide) (hall 2 (by decide))
  have e3 : s 3 = .slice (some ⟨sb, so, none⟩) p.secs.length k1 := hS.val 3 (by decide) (hall 3 (by decide))
  have e4 : s 4 = .slice (some ⟨lb, lo, none⟩) L.length lc := hS.val 4 (by decide) (hall 4 (by decide))
  have e5 : s 5 = .int .i64 n := hS.val 5 (by decide) (hall 5 (by decide))
  have e6 : s 6 = .pointer (some ⟨lb, lo + n, none⟩) := hS.val 6 (by decide) (hall 6 (by decide))
  have e7 : s 7 = .int .i64 L[n] := hS.val 7 (by decide) (hall 7 (by decide))
  have e8 : s 8 = .int .i64 m := hS.val 8 (by decide) (hall 8 (by decide))
  have e9 : s 9 = .pointer (some ⟨sb, so + m * 3, none⟩) := hS.val 9 (by decide) (hall 9 (by decide))
  have e10 : s 10 = .agg #[.int .i64 p.secs[m].id, .int .i64 p.secs[m].pt, .slice ea p.secs[m].ends.length ec] := hS.val 10 (by decide) (hall 10 (by decide))
  obtain ⟨g, eg, hg1, hg2⟩ := hS.done (hall 11 (by decide)) (hall 12 (by decide))
  have hbel := hS.bel
  simp only [e0, e1, e2, e3, e4, e5, e6, e7, e8, e9, e10, eg]
  clear hS hall eg e0 e1 e2 e3 e4 e5 e6 e7 e8 e9 e10
  have KN : Hid (Below W0.heap.size W0 W9) := hbel
  have YY : Hid (∀ W, Below W9.heap.size W9 W → W.heap[g]? = some (.cells #[.int .i64 p.secs[m].id, .int .i64 p.secs[m].pt, .slice ea p.secs[m].ends.length ec] 80 (0, 0))) := fun W hb => (hb.block _ (lt_of_block hg2)).trans hg2
  have HGG : Hid (w.heap.size + 1 < g) := by have := lt_of_block BX0.out.2; show _ < _; omega
  clear hbel hg1 hg2 v0 v1 v2 l0 pp2
  go_wp2_with fail
  go_loopg [12] p.secs[m].ends.length (fun gh i wr => ∃ e : Nat, e ≤ p.secs[m].ends.length ∧ gh = p.secs[m].ends.length - e ∧ i = .int .i64 e ∧ Below W9.heap.size W9 wr ∧ ∀ e', e' < e → okEnd p r n a e' = false)
  case atStart => exact ⟨0, by omega, by omega, rfl, Below.refl _ _, fun j h => by omega⟩
  case round =>
   obtain ⟨e, he, rfl, rfl, hb, hno⟩ := hrel
   obtain ⟨wo, rfl⟩ : ∃ wo : World, wo = wr := ⟨_, rfl⟩
   have HNI := Lib.hid hno
   have KO := Lib.hid hb
   have KO0 : Hid (Below W0.heap.size W0 wo) := KN.out.trans (hb.mono KN.out.size)
   have KWO := Lib.hid (KW.out _ KO0.out)
   have hyy := YY.out _ hb
   have HYY := Lib.hid hyy
   clear hb hno
   obtain ⟨y0, y1, y2⟩ := cells3 (hyy)
   clear hyy
   by_cases hlt : e < p.secs[m].ends.length
   ·have hd1 : decide ((e : Int) < (p.secs[m].ends.length : Int)) = true := by simp; omega
    have hl3 := hsh
    go_wp2_with fail
    refine (refLie p.secs[m] ea ec a e wo).mono ?_
    rintro e' w1 ⟨rfl, hb1⟩
    have K1 : Hid (Below W9.heap.size W9 w1) := KO.out.trans (hb1.mono KO.out.size)
    have K10 : Hid (Below W0.heap.size W0 w1) := KO0.out.trans (hb1.mono KO0.out.size)
    have hyy := YY.out _ K1.out
    have bx := BXW.out _ K10.out
    clear hb1 y0 y1 y2
    obtain ⟨y0, y1, y2⟩ := cells3 (hyy)
    obtain ⟨pp0, pp1, pp2, pp3, pp4, pp5⟩ := cells6 (bx.1)
    obtain ⟨rr0, rr1, rr2, rr3, rr4, rr5, rr6⟩ := cells7 (bx.2)
    clear hyy bx
    have lb1 := block_lt_of_cell pp0
    have lb2 := block_lt_of_cell rr0
    have lb3 := block_lt_of_cell y0
    have HOKe := Lib.hid (HOK.out e)
    by_cases hl : lieR p.secs[m] a e < 0
    ·have u1 : decide (lieR p.secs[m] a e < 0) = true := by simp [hl]
     have HF : Hid (okEnd p r n a e = false) := by
      show _ = _
      rw [HOKe.out, decide_eq_false (show ¬ (0 ≤ lieR p.secs[m] a e) by omega)]
      rfl
     clear hl
     go_wp2_with fail
     go_roundg (p.secs[m].ends.length - (e + 1))
     case measure => go_light; omega
     case rel =>
      go_light
      refine ⟨e + 1, by omega, by omega, by go_num, K1.out, fun j h => ?_⟩
      by_cases hj : j = e
      ·subst hj; exact HF.out
      ·exact HNI.out j (by omega)
    ·have u1 : decide (lieR p.secs[m] a e < 0) = false := by simp; omega
     have HLL : Hid (decide (0 ≤ lieR p.secs[m] a e) = true) := by show _ = _; rw [decide_eq_true_eq]; omega
     clear hl
     obtain ⟨b2, of2, rfl, x0, x1⟩ := (HEN.out _ K10.out).jn hlt
     have x9 := World.block_lt_of_cell? _ _ x0
     have g0 : (0 : Int) ≤ (e : Int) := by omega
     have g1 : (e : Int) < (p.secs[m].ends.length : Int) := by omega
     have HGD : Hid (p.secs[m].ends.getD e ⟨0, 0⟩ = p.secs[m].ends[e]) := by show _ = _; rw [List.getD_eq_getElem?_getD, List.getElem?_eq_getElem hlt]; rfl
     have hR : ∀ (d : Nat) (os : Array Obj), Below W9.heap.size W9 (grow (redrawn w1 d) os) := fun d os => K1.out.trans ((below_regrown w1 d os).mono K1.out.size)
     have HRW := Lib.hid hR
     have KWF : Hid (∀ W, Below W9.heap.size W9 W → Below w.heap.size w W) := fun W hb => KW.out _ (KN.out.trans (hb.mono KN.out.size))
     have X0 := cell_regrown x0
     have PP0 := cell_regrown pp0
     have PP1 := cell_regrown pp1
     have PP2 := cell_regrown pp2
     have PP3 := cell_regrown pp3
     have PP4 := cell_regrown pp4
     have PP5 := cell_regrown pp5
     have YB0 := cell_regrown y0
     have YB2 := cell_regrown y2
     have RR2 := cell_regrown rr2
     generalize hEE : p.secs[m].ends[e] = EE at *
     clear hEE x1 rr0 rr1 rr4 rr5 rr6
     by_cases hp : n + 1 = r.path.length
     ·have u2 : ((n : Int) == (r.path.length : Int) - 1) = true := by rw [beq_iff_eq]; omega
      by_cases hx : r.exit = 0
      ·have e1 : (r.exit == 0) = true := by simp [hx]
       have e2 : (r.exit != 0) = false := by simp [hx]
       by_cases ht : EE.to = 0
       ·have e3 : (EE.to == 0) = true := by simp [ht]
        have HO : Hid (okEnd p r n a e = true) := by
         show _ = _
         rw [HOKe.out, HLL.out, if_pos hp, HGD.out, Bool.true_and, decide_eq_true_eq]
         exact .inl ⟨hx, ht⟩
        have HE := Lib.hid (HOA.out e hlt HO.out HNI.out)
        clear hx ht hp hR x0
        go_upto_region 7 with fail
        refine wp_region_quiet_below (by kernel_rfl) (by kernel_rfl) ?_
        repeat (go_big_quiet_step (fail))
        refine wpQuiet_nil ?_
        rintro _ ⟨⟨dq, osq⟩, rfl⟩
        go_wp2_with fail
        go_ret
        exact ⟨rint HE.out.symm, KWF.out _ (HRW.out dq osq)⟩
       ·have e3 : (EE.to == 0) = false := by simp [ht]
        have HF : Hid (okEnd p r n a e = false) := by
         show _ = _
         rw [HOKe.out, HLL.out, if_pos hp, HGD.out, Bool.true_and, decide_eq_false_iff_not]
         rintro (⟨_, h⟩ | ⟨h, _⟩)
         ·exact ht h
         ·exact h hx
        clear hx ht hp hR x0
        go_upto_region 7 with fail
        refine wp_region_quiet_below (by kernel_rfl) (by kernel_rfl) ?_
        repeat (go_big_quiet_step (fail))
        refine wpQuiet_nil ?_
        rintro _ ⟨⟨dq, osq⟩, rfl⟩
        go_wp2_with fail
        go_roundg (p.secs[m].ends.length - (e + 1))
        case measure => go_light; omega
        case rel =>
         go_light
         refine ⟨e + 1, by omega, by omega, by go_num, HRW.out dq osq, fun j h => ?_⟩
         by_cases hj : j = e
         ·subst hj; exact HF.out
         ·exact HNI.out j (by omega)
      ·have e1 : (r.exit == 0) = false := by simp [hx]
       have e2 : (r.exit != 0) = true := by simp [hx]
       have hcc := fun (d : Nat) (os : Array Obj) => Calls.regrown_of (HST.out (e : Int) (grow (redrawn w1 d) os) (KWF.out _ (hR d os)))
       by_cases ht : standAt p p.secs[m].id e = r.exit
       ·have HO : Hid (okEnd p r n a e = true) := by
         show _ = _
         rw [HOKe.out, HLL.out, if_pos hp, Bool.true_and, decide_eq_true_eq]
         exact .inr ⟨hx, ht⟩
        have HE := Lib.hid (HOA.out e hlt HO.out HNI.out)
        rw [ht] at hcc
        have e3 : (r.exit == r.exit) = true := by simp
        have cC := Lib.hid hcc
        clear hx ht hp hR x0 hcc
        go_upto_region 7 with fail
        refine wp_region_quiet_below (by kernel_rfl) (by kernel_rfl) ?_
        repeat (go_big_quiet_step ((with_reducible exact cC.out _ _)))
        refine wpQuiet_nil ?_
        rintro _ ⟨⟨dq, osq⟩, rfl⟩
        go_wp2_with fail
        go_ret
        exact ⟨rint HE.out.symm, KWF.out _ (HRW.out dq osq)⟩
       ·have HF : Hid (okEnd p r n a e = false) := by
         show _ = _
         rw [HOKe.out, HLL.out, if_pos hp, Bool.true_and, decide_eq_false_iff_not]
         rintro (⟨h, _⟩ | ⟨_, h⟩)
         ·exact hx h
         ·exact ht h
        generalize standAt p p.secs[m].id e = sa at *
        have e3 : (sa == r.exit) = false := by rw [beq_eq_false_iff_ne]; exact ht
        have cC := Lib.hid hcc
        clear hx ht hp hR x0 hcc HOKe
        go_upto_region 7 with fail
        refine wp_region_quiet_below (by kernel_rfl) (by kernel_rfl) ?_
        repeat (go_big_quiet_step ((with_reducible exact cC.out _ _)))
        refine wpQuiet_nil ?_
        rintro _ ⟨⟨dq, osq⟩, rfl⟩
        go_wp2_with fail
        go_roundg (p.secs[m].ends.length - (e + 1))
        case measure => go_light; omega
        case rel =>
         go_light
         refine ⟨e + 1, by omega, by omega, by go_num, HRW.out dq osq, fun j h => ?_⟩
         by_cases hj : j = e
         ·subst hj; exact HF.out
         ·exact HNI.out j (by omega)
     ·have u2 : ((n : Int) == (r.path.length : Int) - 1) = false := by rw [beq_eq_false_iff_ne]; omega
      have hn1 := HNX.out hp
      obtain ⟨b3, of3, hbe, z0⟩ := (HIL.out _ (KW.out _ K10.out)).cell (n + 1) hn1
      cases hbe
      have Z0 := cell_regrown z0
      have g2 : (0 : Int) ≤ (n : Int) + 1 := by omega
      have g3 : (n : Int) + 1 < (L.length : Int) := by omega
      have g4 : ((n : Int) + 1).toNat = n + 1 := by omega
      have HGN : Hid (L.getD (n + 1) 0 = L[n + 1]) := by show _ = _; rw [List.getD_eq_getElem?_getD, List.getElem?_eq_getElem hn1]; rfl
      by_cases ht : EE.to = L[n + 1]
      ·have e3 : (EE.to == L[n + 1]) = true := by rw [beq_iff_eq]; exact ht
       have HO : Hid (okEnd p r n a e = true) := by
        show _ = _
        rw [HOKe.out, HLL.out, if_neg hp, HGD.out, HGN.out, Bool.true_and, decide_eq_true_eq]
        exact ht
       have HE := Lib.hid (HOA.out e hlt HO.out HNI.out)
       clear ht hp hR x0 z0
       go_upto_region 9 with fail
       refine wp_region_quiet_below (by kernel_rfl) (by kernel_rfl) ?_
       repeat (go_big_quiet_step (fail))
       refine wpQuiet_nil ?_
       rintro _ ⟨⟨dq, osq⟩, rfl⟩
       go_wp2_with fail
       go_ret
       exact ⟨rint HE.out.symm, KWF.out _ (HRW.out dq osq)⟩
      ·have e3 : (EE.to == L[n + 1]) = false := by rw [beq_eq_false_iff_ne]; exact ht
       have HF : Hid (okEnd p r n a e = false) := by
        show _ = _
        rw [HOKe.out, HLL.out, if_neg hp, HGD.out, HGN.out, Bool.true_and, decide_eq_false_iff_not]
        exact ht
       clear ht hp hR x0 z0
       go_upto_region 9 with fail
       refine wp_region_quiet_below (by kernel_rfl) (by kernel_rfl) ?_
       repeat (go_big_quiet_step (fail))
       refine wpQuiet_nil ?_
       rintro _ ⟨⟨dq, osq⟩, rfl⟩
       go_wp2_with fail
       go_roundg (p.secs[m].ends.length - (e + 1))
       case measure => go_light; omega
       case rel =>
        go_light
        refine ⟨e + 1, by omega, by omega, by go_num, HRW.out dq osq, fun j h => ?_⟩
        by_cases hj : j = e
        ·subst hj; exact HF.out
        ·exact HNI.out j (by omega)
   ·obtain rfl : e = p.secs[m].ends.length := by omega
    have hd1 : decide ((p.secs[m].ends.length : Int) < (p.secs[m].ends.length : Int)) = false := by simp
    have HE := Lib.hid (HON.out HNI.out)
    go_wp2_with fail
    go_ret
    exact ⟨rint HE.out.symm, KWO.out⟩
end Go.Proofs.YtbiehpjhhopjaaaGreat
