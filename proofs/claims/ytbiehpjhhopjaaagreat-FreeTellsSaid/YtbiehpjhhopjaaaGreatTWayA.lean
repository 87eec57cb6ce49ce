/-
 way.walk's section and ask, walked.
-/
import Derived.Test.YtbiehpjhhopjaaaGreatTTrackF
import Derived.Test.YtbiehpjhhopjaaaGreatTMem
import Derived.Test.YtbiehpjhhopjaaaGreatTIxfn
import Derived.Test.YtbiehpjhhopjaaaGreatTTrackE
import Derived.Test.YtbiehpjhhopjaaaGreatTTrackC
set_option linter.unusedVariables false
set_option linter.unusedSimpArgs false
namespace Go.Proofs.YtbiehpjhhopjaaaGreat
open Go.RowKit Go.Sort
def MW : TypeId → Bool := fun t => t == 281 || t == 133
structure Off (g : Nat) (W W' : World) : Prop where
 below : Below g W W'
 rest : ∀ k c t fr, W.heap[k]? = some (.cells c t fr) → k ≠ g → MW t = false → W'.heap[k]? = some (.cells c t fr)
theorem Off.refl (g : Nat) (W : World) : Off g W W := ⟨Below.refl _ _, fun _ _ _ _ h _ _ => h⟩
theorem Off.trans {g : Nat} {a b c : World} (h : Off g a b) (k : Off g b c) : Off g a c := ⟨h.below.trans k.below, fun i x t fr e n m => k.rest i x t fr (h.rest i x t fr e n m) n m⟩
theorem Off.of_below {g : Nat} {W W' : World} (hb : Below W.heap.size W W') (hg : g ≤ W.heap.size) : Off g W W' := ⟨hb.mono hg, fun k c t fr h _ _ => (hb.block k (lt_of_block h)).trans h⟩
theorem Off.setCell (g o : Nat) (W : World) (v : Value) : Off g W (W.setCell ⟨g, o, none⟩ v) := ⟨(Below.refl g W).setCell (p := ⟨g, o, none⟩) (Nat.le_refl g) v, fun k c t fr h n _ => (Below.heap_setCell W _ v k n).trans h⟩
theorem Off.grown {g : Nat} {W W' : World} {base : Nat} {e : TypeId} {sz : Nat} {v : Value} {n : Nat} {xs : List Value} (h : W.ownsRow base e sz v n xs) (hb : g ≤ base) (hg : g ≤ W.heap.size) (he : MW e = true) (hgr : W.grownBy W' v.ownBlock) : Off g W W' :=
 ⟨grown_below h hb hg hgr, fun k c t fr hk _ m => grown_same h he hgr k c t fr hk m⟩
structure WkM (W : World) (g : Nat) (p : Pl) (s q gg r : Value) (k : Wk) (va vo : Value) : Prop where
 blk : W.heap[g]? = some (.cells #[.int .i64 p.ver, .int .i64 p.par, s, q, gg, r, .int .i64 k.inn.to, .int .i64 k.inn.en, va, vo, .bool k.lost] 369 (0, 0))
 asks : AskOwn W (g + 1) va k.asks
 outs : JnOwn W (g + 1) vo k.outs
section
variable {W W' : World} {g : Nat} {p : Pl} {s q gg r va vo : Value} {k : Wk}
theorem WkM.lt (h : WkM W g p s q gg r k va vo) : g < W.heap.size := lt_of_block h.blk
theorem WkM.below (h : WkM W g p s q gg r k va vo) (hb : Below W.heap.size W W') : WkM W' g p s q gg r k va vo := ⟨(hb.block g h.lt).trans h.blk, own_below h.asks hb, own_below h.outs hb⟩
theorem WkM.secs (h : WkM W g p s q gg r k va vo) : W.cell? ⟨g, 2, none⟩ = some s := (cell_of_row W _ 2 _ _ _ h.blk).trans rfl
theorem WkM.to (h : WkM W g p s q gg r k va vo) : W.cell? ⟨g, 6, none⟩ = some (.int .i64 k.inn.to) := (cell_of_row W _ 6 _ _ _ h.blk).trans rfl
theorem WkM.en (h : WkM W g p s q gg r k va vo) : W.cell? ⟨g, 7, none⟩ = some (.int .i64 k.inn.en) := (cell_of_row W _ 7 _ _ _ h.blk).trans rfl
theorem WkM.cva (h : WkM W g p s q gg r k va vo) : W.cell? ⟨g, 8, none⟩ = some va := (cell_of_row W _ 8 _ _ _ h.blk).trans rfl
theorem WkM.cvo (h : WkM W g p s q gg r k va vo) : W.cell? ⟨g, 9, none⟩ = some vo := (cell_of_row W _ 9 _ _ _ h.blk).trans rfl
theorem WkM.lost (h : WkM W g p s q gg r k va vo) : W.cell? ⟨g, 10, none⟩ = some (.bool k.lost) := (cell_of_row W _ 10 _ _ _ h.blk).trans rfl
theorem WkM.frozen (h : WkM W g p s q gg r k va vo) (o : Nat) : W.frozen? ⟨g, o, none⟩ = false := by simp [World.frozen?, h.blk]
theorem WkM.setLost (h : WkM W g p s q gg r k va vo) : WkM (W.setCell ⟨g, 10, none⟩ (.bool true)) g p s q gg r { k with lost := true } va vo :=
 ⟨by simp [World.setCell, Array.getElem?_modify, h.blk], own_setCell h.asks (by simp) _, own_setCell h.outs (by simp) _⟩
theorem WkM.setIn (h : WkM W g p s q gg r k va vo) (j : Jn) : WkM ((W.setCell ⟨g, 6, none⟩ (.int .i64 j.to)).setCell ⟨g, 7, none⟩ (.int .i64 j.en)) g p s q gg r { k with inn := j } va vo :=
 ⟨by simp [World.setCell, Array.getElem?_modify, h.blk], own_setCell (own_setCell h.asks (by simp) _) (by simp) _, own_setCell (own_setCell h.outs (by simp) _) (by simp) _⟩
end
theorem plain418 : PlainF 418 := fun args w => by simp [go_sem]
theorem isSec (x : Sec) (a : Option Addr) (c : Nat) (n : Int) (g : Nat) (w : World) (hn : w.cell? ⟨g, 0, none⟩ = some (.int .i64 n)) :
  Calls Tryz.prog 418 #[secV x a c, .pointer (some ⟨g, 0, none⟩)] w (BoolPost w (decide (x.id = n))) := by
 have HE : Hid (∀ b, (b = true ↔ x.id = n) → b = decide (x.id = n)) := fun b hb => by rw [Bool.eq_iff_iff, hb]; simp
 generalize decide (x.id = n) = B at *
 have l0 := World.block_lt_of_cell? _ _ hn
 unfold secV
 go_enter Tryz.func418, Tryz.ntmps418
 go_wp2_with fail
 go_ret
 exact ⟨rbool (HE.out _ (by simp)), (Below.refl _ _).alloc (Nat.le_refl _) _⟩
theorem below_both {B : Nat} {a b : World} (h : Below B a b) (p : Addr) (v : Value) : Below B (a.setCell p v) (b.setCell p v) :=
 ⟨h.os, h.tape, h.output, by simpa [World.setCell] using h.size, fun k hk => by
  simp only [World.setCell, Array.getElem?_modify]
  rw [h.block k hk]⟩
theorem below_drewN {B : Nat} {a w : World} (h : Below B a w) (n : Nat) : Below B a (w.drewN n) := ⟨h.os, h.tape, h.output, h.size, h.block⟩
def SecPost (W : World) (g : Nat) (p : Pl) (s q gg r va vo : Value) (k : Wk) (id : Int) (e : Ending) (W' : World) : Prop :=
 ∃ a c, e = .returned (secV (wkSec p.secs k id) a c) ∧ SlA W' 2 RJn a c (wkSec p.secs k id).ends ∧ WkM W' g p s q gg r (wkS p.secs k id) va vo ∧ Off g W W'
set_option maxRecDepth 100000 in
set_option maxHeartbeats 2000000 in
theorem section_any (g : Nat) (p : Pl) (a1 : Option Addr) (c1 : Nat) (q gg r va vo : Value) (k : Wk) (id : Int) (W : World) (hW : WkM W g p (.slice a1 p.secs.length c1) q gg r k va vo) (hS : ∀ W', Below g W W' → SlA W' 3 RSec a1 c1 p.secs) (hm : p.secs.length ≤ 1000) :
  Calls Tryz.prog 383 #[.pointer (some ⟨g, 0, none⟩), .int .i64 id] W (SecPost W g p (.slice a1 p.secs.length c1) q gg r va vo k id) := by
 have HW := Lib.hid hW
 have HS := Lib.hid hS
 have l0 := hW.lt
 have y2 := hW.secs
 clear hW
 have HN := Lib.hid (hS W (Below.refl _ _))
 clear hS
 rcases fix_cases (fun x : Sec => decide (x.id = id)) p.secs with ⟨h1, h2⟩ | ⟨n, hn, h1, h2, h3⟩
 ·obtain ⟨e1, e2⟩ := one_none (z := zSec) h2
  have hin : ¬ WkIn p.secs k id := fun h => by rw [WkIn, e2] at h; exact absurd h.1 (by simp)
  have HE : Hid (wkSec p.secs k id = zSec ∧ wkS p.secs k id = { k with lost := true }) := ⟨if_neg hin, if_neg hin⟩
  have HF := Lib.hid h1
  clear e1 e2 h1 h2 hin
  go_enter Tryz.func383, Tryz.ntmps383
  go_wp2_with fail
  generalize hWW : (W.alloc _).alloc _ = W1
  have hb1 : Below W.heap.size W W1 := by rw [← hWW]; exact ((Below.refl _ _).alloc (Nat.le_refl _) _).alloc (by simp) _
  have hz : W1.heap.size = W.heap.size + 2 := by rw [← hWW]; simp
  have hid0 : W1.cell? ⟨W.heap.size, 0, none⟩ = some (.int .i64 id) := by rw [← hWW]; simp
  have HS1 : Hid (SaysSec 418 #[.pointer (some ⟨W.heap.size, 0, none⟩)] (fun x : Sec => decide (x.id = id)) p.secs W1) := fun W' i h hb a c _ => isSec p.secs[i] a c id W.heap.size W' (ccell hb hid0)
  have Y0 := Lib.hid (show W1.cell? ⟨W.heap.size + 1, 0, none⟩ = some (.int .i64 0) by rw [← hWW]; simp)
  have Y1 := Lib.hid (show W1.cell? ⟨W.heap.size + 1, 1, none⟩ = some (.int .i64 0) by rw [← hWW]; simp)
  have Y2 := Lib.hid (show W1.cell? ⟨W.heap.size + 1, 2, none⟩ = some (.slice none 0 0) by rw [← hWW]; simp)
  have F0 := Lib.hid (show ∀ o, W1.frozen? ⟨W.heap.size + 1, o, none⟩ = false by intro o; rw [← hWW]; simp)
  have KW := Lib.hid hb1
  clear hWW
  refine (ixfnSec 418 #[.pointer (some ⟨W.heap.size, 0, none⟩)] (fun x : Sec => decide (x.id = id)) a1 c1 p.secs W1 (HS.out _ (hb1.mono (Nat.le_of_lt l0))) hm plain418 HS1.out).mono ?_
  rintro e w1 ⟨rfl, hb2⟩
  rw [HF.out]
  have y0 : w1.cell? ⟨W.heap.size + 1, 0, none⟩ = some (.int .i64 0) := (hb2.cell (by simp [hz])).trans Y0.out
  have y1 : w1.cell? ⟨W.heap.size + 1, 1, none⟩ = some (.int .i64 0) := (hb2.cell (by simp [hz])).trans Y1.out
  have y3 : w1.cell? ⟨W.heap.size + 1, 2, none⟩ = some (.slice none 0 0) := (hb2.cell (by simp [hz])).trans Y2.out
  have f0 : ∀ o, w1.frozen? ⟨W.heap.size + 1, o, none⟩ = false := fun o => (hb2.frozen (by simp [hz])).trans (F0.out o)
  have yid : w1.cell? ⟨W.heap.size, 0, none⟩ = some (.int .i64 id) := (hb2.cell (by simp [hz])).trans hid0
  have lz : W.heap.size + 1 < w1.heap.size := by have := hb2.size; omega
  have KB : Hid (Below W.heap.size W w1) := KW.out.trans (hb2.mono KW.out.size)
  have hw1 := HW.out.below KB.out
  have u2 := hw1.secs
  have u6 := hw1.to
  have u10 := hw1.lost
  have v10 := hw1.frozen 10
  have lg := hw1.lt
  have hne : W.heap.size + 1 ≠ g := by omega
  have hne2 : W.heap.size ≠ g := by omega
  clear hb1 hb2 hz hid0 hw1 HS1 y2
  go_wp2_with fail
  go_quiet (fail)
  go_wp2_with fail
  generalize hWE : World.setCell _ _ _ = WE
  have q0 : WE.cell? ⟨W.heap.size + 1, 0, none⟩ = some (.int .i64 0) := by rw [← hWE]; simp [go_sem, lz, y0, y1, y3]
  have q1 : WE.cell? ⟨W.heap.size + 1, 1, none⟩ = some (.int .i64 0) := by rw [← hWE]; simp [go_sem, lz, y0, y1, y3]
  have q2 : WE.cell? ⟨W.heap.size + 1, 2, none⟩ = some (.slice none 0 0) := by rw [← hWE]; simp [go_sem, lz, y0, y1, y3]
  have KE : Hid (Below W.heap.size (W.setCell ⟨g, 10, none⟩ (.bool true)) WE) := by show Below _ _ _; rw [← hWE]; exact Below.setCell (Below.setCell (Below.setCell (below_both (below_drewN KB.out _) _ _) (by simp) _) (by simp) _) (by simp) _
  clear hWE
  refine bodyPost_ret (v := .agg #[.int .i64 0, .int .i64 0, .slice none 0 0]) (by simp [results, Tryz.f383, go_sem, q0, q1, q2]) rfl ⟨none, 0, ?_, ?_, ?_, ?_⟩
  ·rw [HE.out.1]; rfl
  ·rw [HE.out.1]; exact ⟨Nat.le_refl _, fun _ => rfl, fun i h => by simp [zSec] at h⟩
  ·rw [HE.out.2]; exact (HW.out.setLost).below (by simpa [World.setCell] using KE.out)
  ·exact (Off.setCell _ _ _ _).trans (Off.of_below (by simpa [World.setCell] using KE.out) (by simp [World.setCell]; omega))
 ·obtain ⟨e1, e2⟩ := one_some (z := zSec) hn h2 h3
  have HF := Lib.hid h1
  have t0 : decide ((n : Int) < 0) = false := by simp
  clear h1 h2 h3
  by_cases hto : k.inn.to = id
  ·have hin : WkIn p.secs k id := ⟨e2, hto⟩
   have HE : Hid (wkSec p.secs k id = p.secs[n] ∧ wkS p.secs k id = k) := ⟨(if_pos hin).trans e1, if_pos hin⟩
   have t1 : (k.inn.to != id) = false := by simp [hto]
   clear e1 e2 hin hto
   go_enter Tryz.func383, Tryz.ntmps383
   go_wp2_with fail
   generalize hWW : (W.alloc _).alloc _ = W1
   have hb1 : Below W.heap.size W W1 := by rw [← hWW]; exact ((Below.refl _ _).alloc (Nat.le_refl _) _).alloc (by simp) _
   have hz : W1.heap.size = W.heap.size + 2 := by rw [← hWW]; simp
   have hid0 : W1.cell? ⟨W.heap.size, 0, none⟩ = some (.int .i64 id) := by rw [← hWW]; simp
   have HS1 : Hid (SaysSec 418 #[.pointer (some ⟨W.heap.size, 0, none⟩)] (fun x : Sec => decide (x.id = id)) p.secs W1) := fun W' i h hb a c _ => isSec p.secs[i] a c id W.heap.size W' (ccell hb hid0)
   have Y0 := Lib.hid (show W1.cell? ⟨W.heap.size + 1, 0, none⟩ = some (.int .i64 0) by rw [← hWW]; simp)
   have Y1 := Lib.hid (show W1.cell? ⟨W.heap.size + 1, 1, none⟩ = some (.int .i64 0) by rw [← hWW]; simp)
   have Y2 := Lib.hid (show W1.cell? ⟨W.heap.size + 1, 2, none⟩ = some (.slice none 0 0) by rw [← hWW]; simp)
   have F0 := Lib.hid (show ∀ o, W1.frozen? ⟨W.heap.size + 1, o, none⟩ = false by intro o; rw [← hWW]; simp)
   have KW := Lib.hid hb1
   clear hWW
   refine (ixfnSec 418 #[.pointer (some ⟨W.heap.size, 0, none⟩)] (fun x : Sec => decide (x.id = id)) a1 c1 p.secs W1 (HS.out _ (hb1.mono (Nat.le_of_lt l0))) hm plain418 HS1.out).mono ?_
   rintro e w1 ⟨rfl, hb2⟩
   rw [HF.out]
   have y0 : w1.cell? ⟨W.heap.size + 1, 0, none⟩ = some (.int .i64 0) := (hb2.cell (by simp [hz])).trans Y0.out
   have y1 : w1.cell? ⟨W.heap.size + 1, 1, none⟩ = some (.int .i64 0) := (hb2.cell (by simp [hz])).trans Y1.out
   have y3 : w1.cell? ⟨W.heap.size + 1, 2, none⟩ = some (.slice none 0 0) := (hb2.cell (by simp [hz])).trans Y2.out
   have f0 : ∀ o, w1.frozen? ⟨W.heap.size + 1, o, none⟩ = false := fun o => (hb2.frozen (by simp [hz])).trans (F0.out o)
   have yid : w1.cell? ⟨W.heap.size, 0, none⟩ = some (.int .i64 id) := (hb2.cell (by simp [hz])).trans hid0
   have lz : W.heap.size + 1 < w1.heap.size := by have := hb2.size; omega
   have KB : Hid (Below W.heap.size W w1) := KW.out.trans (hb2.mono KW.out.size)
   have hw1 := HW.out.below KB.out
   have u2 := hw1.secs
   have u6 := hw1.to
   have u10 := hw1.lost
   have v10 := hw1.frozen 10
   have lg := hw1.lt
   have hne : W.heap.size + 1 ≠ g := by omega
   have hne2 : W.heap.size ≠ g := by omega
   clear hb1 hb2 hz hid0 hw1 HS1 y2
   obtain ⟨b, off, a', c', rfl, x0, x1, x2, hends⟩ := HN.out.sec hn
   have HX := Lib.hid hends
   have xb : b < W.heap.size := World.block_lt_of_cell? _ _ x0
   have x0 := ccell KB.out x0
   have x1 := ccell KB.out x1
   have x2 := ccell KB.out x2
   have xb1 : b < w1.heap.size := Nat.lt_of_lt_of_le xb KB.out.size
   have xne : W.heap.size + 1 ≠ b := by omega
   have i0 : (0 : Int) ≤ (n : Int) := by omega
   have i1 : (n : Int) < (p.secs.length : Int) := by omega
   clear hends xb
   go_wp2_with fail
   go_quiet (fail)
   go_wp2_with fail
   generalize hWE : World.setCell _ _ _ = WE
   have q0 : WE.cell? ⟨W.heap.size + 1, 0, none⟩ = some (.int .i64 p.secs[n].id) := by rw [← hWE]; simp [go_sem, lz, y0, y1, y3]
   have q1 : WE.cell? ⟨W.heap.size + 1, 1, none⟩ = some (.int .i64 p.secs[n].pt) := by rw [← hWE]; simp [go_sem, lz, y0, y1, y3]
   have q2 : WE.cell? ⟨W.heap.size + 1, 2, none⟩ = some (.slice a' p.secs[n].ends.length c') := by rw [← hWE]; simp [go_sem, lz, y0, y1, y3]
   have KE : Hid (Below W.heap.size W WE) := by show Below _ _ _; rw [← hWE]; exact Below.setCell (Below.setCell (Below.setCell (below_drewN KB.out _) (by simp) _) (by simp) _) (by simp) _
   clear hWE
   refine bodyPost_ret (v := .agg #[.int .i64 p.secs[n].id, .int .i64 p.secs[n].pt, .slice a' p.secs[n].ends.length c']) (by simp [results, Tryz.f383, go_sem, q0, q1, q2]) rfl ⟨a', c', ?_, ?_, ?_, ?_⟩
   ·rw [HE.out.1]; rfl
   ·rw [HE.out.1]; exact HX.out.below keeps_jn KE.out
   ·rw [HE.out.2]; exact HW.out.below KE.out
   ·exact Off.of_below KE.out (Nat.le_of_lt l0)
  ·have hin : ¬ WkIn p.secs k id := fun h => hto h.2
   have HE : Hid (wkSec p.secs k id = zSec ∧ wkS p.secs k id = { k with lost := true }) := ⟨if_neg hin, if_neg hin⟩
   have t1 : (k.inn.to != id) = true := by simp [hto]
   clear e1 e2 hin hto
   go_enter Tryz.func383, Tryz.ntmps383
   go_wp2_with fail
   generalize hWW : (W.alloc _).alloc _ = W1
   have hb1 : Below W.heap.size W W1 := by rw [← hWW]; exact ((Below.refl _ _).alloc (Nat.le_refl _) _).alloc (by simp) _
   have hz : W1.heap.size = W.heap.size + 2 := by rw [← hWW]; simp
   have hid0 : W1.cell? ⟨W.heap.size, 0, none⟩ = some (.int .i64 id) := by rw [← hWW]; simp
   have HS1 : Hid (SaysSec 418 #[.pointer (some ⟨W.heap.size, 0, none⟩)] (fun x : Sec => decide (x.id = id)) p.secs W1) := fun W' i h hb a c _ => isSec p.secs[i] a c id W.heap.size W' (ccell hb hid0)
   have Y0 := Lib.hid (show W1.cell? ⟨W.heap.size + 1, 0, none⟩ = some (.int .i64 0) by rw [← hWW]; simp)
   have Y1 := Lib.hid (show W1.cell? ⟨W.heap.size + 1, 1, none⟩ = some (.int .i64 0) by rw [← hWW]; simp)
   have Y2 := Lib.hid (show W1.cell? ⟨W.heap.size + 1, 2, none⟩ = some (.slice none 0 0) by rw [← hWW]; simp)
   have F0 := Lib.hid (show ∀ o, W1.frozen? ⟨W.heap.size + 1, o, none⟩ = false by intro o; rw [← hWW]; simp)
   have KW := Lib.hid hb1
   clear hWW
   refine (ixfnSec 418 #[.pointer (some ⟨W.heap.size, 0, none⟩)] (fun x : Sec => decide (x.id = id)) a1 c1 p.secs W1 (HS.out _ (hb1.mono (Nat.le_of_lt l0))) hm plain418 HS1.out).mono ?_
   rintro e w1 ⟨rfl, hb2⟩
   rw [HF.out]
   have y0 : w1.cell? ⟨W.heap.size + 1, 0, none⟩ = some (.int .i64 0) := (hb2.cell (by simp [hz])).trans Y0.out
   have y1 : w1.cell? ⟨W.heap.size + 1, 1, none⟩ = some (.int .i64 0) := (hb2.cell (by simp [hz])).trans Y1.out
   have y3 : w1.cell? ⟨W.heap.size + 1, 2, none⟩ = some (.slice none 0 0) := (hb2.cell (by simp [hz])).trans Y2.out
   have f0 : ∀ o, w1.frozen? ⟨W.heap.size + 1, o, none⟩ = false := fun o => (hb2.frozen (by simp [hz])).trans (F0.out o)
   have yid : w1.cell? ⟨W.heap.size, 0, none⟩ = some (.int .i64 id) := (hb2.cell (by simp [hz])).trans hid0
   have lz : W.heap.size + 1 < w1.heap.size := by have := hb2.size; omega
   have KB : Hid (Below W.heap.size W w1) := KW.out.trans (hb2.mono KW.out.size)
   have hw1 := HW.out.below KB.out
   have u2 := hw1.secs
   have u6 := hw1.to
   have u10 := hw1.lost
   have v10 := hw1.frozen 10
   have lg := hw1.lt
   have hne : W.heap.size + 1 ≠ g := by omega
   have hne2 : W.heap.size ≠ g := by omega
   clear hb1 hb2 hz hid0 hw1 HS1 y2
   go_wp2_with fail
   go_quiet (fail)
   go_wp2_with fail
   generalize hWE : World.setCell _ _ _ = WE
   have q0 : WE.cell? ⟨W.heap.size + 1, 0, none⟩ = some (.int .i64 0) := by rw [← hWE]; simp [go_sem, lz, y0, y1, y3]
   have q1 : WE.cell? ⟨W.heap.size + 1, 1, none⟩ = some (.int .i64 0) := by rw [← hWE]; simp [go_sem, lz, y0, y1, y3]
   have q2 : WE.cell? ⟨W.heap.size + 1, 2, none⟩ = some (.slice none 0 0) := by rw [← hWE]; simp [go_sem, lz, y0, y1, y3]
   have KE : Hid (Below W.heap.size (W.setCell ⟨g, 10, none⟩ (.bool true)) WE) := by show Below _ _ _; rw [← hWE]; exact Below.setCell (Below.setCell (Below.setCell (below_both (below_drewN KB.out _) _ _) (by simp) _) (by simp) _) (by simp) _
   clear hWE
   refine bodyPost_ret (v := .agg #[.int .i64 0, .int .i64 0, .slice none 0 0]) (by simp [results, Tryz.f383, go_sem, q0, q1, q2]) rfl ⟨none, 0, ?_, ?_, ?_, ?_⟩
   ·rw [HE.out.1]; rfl
   ·rw [HE.out.1]; exact ⟨Nat.le_refl _, fun _ => rfl, fun i h => by simp [zSec] at h⟩
   ·rw [HE.out.2]; exact (HW.out.setLost).below (by simpa [World.setCell] using KE.out)
   ·exact (Off.setCell _ _ _ _).trans (Off.of_below (by simpa [World.setCell] using KE.out) (by simp [World.setCell]; omega))
end Go.Proofs.YtbiehpjhhopjaaaGreat
