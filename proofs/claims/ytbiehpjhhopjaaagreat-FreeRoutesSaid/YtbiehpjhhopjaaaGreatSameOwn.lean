/-
  area.Same, walked.
-/
import Derived.Test.YtbiehpjhhopjaaaGreatSameWalk
import Derived.Test.YtbiehpjhhopjaaaGreatAreaWalk
set_option linter.unusedVariables false
namespace Go.Proofs.YtbiehpjhhopjaaaGreat
open Go.RowKit Go.Sort
/-- what lay below block N is as it was in w0 -/
structure Old (N : Nat) (w0 w : World) : Prop where
  os : w.os = w0.os
  tape : w.tape = w0.tape
  output : w.output = w0.output
  size : N ≤ w.heap.size
  block : ∀ b, b < N → w.heap[b]? = w0.heap[b]?
theorem Old.alloc {N : Nat} {w0 w : World} (h : Old N w0 w) (o : Obj) : Old N w0 (w.alloc o) :=
  ⟨h.os, h.tape, h.output, Nat.le_trans h.size (by simp), fun b hb => (Below.heap_alloc w o b (Nat.lt_of_lt_of_le hb h.size)).trans (h.block b hb)⟩
theorem Old.below {N : Nat} {w0 w w' : World} (h : Old N w0 w) (hb : Below w.heap.size w w') : Old N w0 w' :=
  ⟨hb.os.trans h.os, hb.tape.trans h.tape, hb.output.trans h.output, Nat.le_trans h.size hb.size, fun b h' => (hb.block b (Nat.lt_of_lt_of_le h' h.size)).trans (h.block b h')⟩
theorem Old.setCell {N : Nat} {w0 w : World} (h : Old N w0 w) {p : Addr} (hp : N ≤ p.block) (u : Value) : Old N w0 (w.setCell p u) :=
  ⟨h.os, h.tape, h.output, by simpa [World.setCell] using h.size, fun b hb => (Below.heap_setCell w p u b (by omega)).trans (h.block b hb)⟩
theorem Old.drew {N : Nat} {w0 w : World} (h : Old N w0 w) : Old N w0 w.drew := ⟨h.os, h.tape, h.output, h.size, h.block⟩
/-- the same with its rule for cells -/
def KO (N : Nat) (w0 w : World) : Prop := Old N w0 w ∧ N ≤ w.heap.size ∧ ∀ b o, b < N → w.cell? ⟨b, o, none⟩ = w0.cell? ⟨b, o, none⟩
theorem KO.of {N : Nat} {w0 w : World} (h : Old N w0 w) : Old N w0 w ∧ N ≤ w.heap.size ∧ ∀ b o, b < N → w.cell? ⟨b, o, none⟩ = w0.cell? ⟨b, o, none⟩ :=
  ⟨h, h.size, fun b o hb => World.cell?_of_block (h.block b hb)⟩
theorem Below.of_old {B N : Nat} {w0 w v : World} (h : Old N w0 w) (hb : Below B v w0) (hB : B ≤ N) (hN : v.heap.size ≤ N) : Below B v w :=
  ⟨h.os.trans hb.os, h.tape.trans hb.tape, h.output.trans hb.output, Nat.le_trans hN h.size, fun k hk => (h.block k (Nat.lt_of_lt_of_le hk hB)).trans (hb.block k hk)⟩
theorem ccell {W w1 : World} {p : Addr} {v : Value} (hb : Below W.heap.size W w1) (h : W.cell? p = some v) : w1.cell? p = some v := (hb.cell (block_lt_of_cell h)).trans h
theorem bfar {w : World} {b o : Nat} {v : Value} (h : w.cell? ⟨b, o, none⟩ = some v) : b < w.heap.size ∧ b ≤ w.heap.size ∧ (b = w.heap.size) = False ∧ (w.heap.size = b) = False ∧ (b = w.heap.size + 1) = False ∧ (w.heap.size + 1 = b) = False := by
  have : b < w.heap.size := block_lt_of_cell h
  exact ⟨this, Nat.le_of_lt this, by simp; omega, by simp; omega, by simp; omega, by simp; omega⟩
theorem bcell {W w1 : World} (hb : Below W.heap.size W w1) : (∀ b o, b < W.heap.size → w1.cell? ⟨b, o, none⟩ = W.cell? ⟨b, o, none⟩) ∧ (∀ b o, b < W.heap.size → w1.frozen? ⟨b, o, none⟩ = W.frozen? ⟨b, o, none⟩) ∧ (∀ b, b < W.heap.size → b < w1.heap.size) ∧ (∀ b, b < W.heap.size → (b = w1.heap.size) = False) ∧ (∀ b, b < W.heap.size → (w1.heap.size = b) = False) :=
  ⟨fun b o h => hb.cell (p := ⟨b, o, none⟩) h, fun b o h => hb.frozen (p := ⟨b, o, none⟩) h, fun b h => Nat.lt_of_lt_of_le h hb.size, fun b h => by have := hb.size; simp; omega, fun b h => by have := hb.size; simp; omega⟩
theorem equal_q (u v : Value) (l m : List Int) (w : World) (hl : ILv w u l) (hm : ILv w v m) (h1 : l.length ≤ 1000000) (h2 : m.length ≤ 1000000) :
    Calls Tryz.prog 99 #[u, v] w fun e w' => e = .returned (.bool (eqB l m)) ∧ ∃ n, w' = w.drewN n := by
  obtain ⟨a, la, ca, rfl, hl⟩ := hl
  obtain ⟨b, lb, cb, rfl, hm⟩ := hm
  exact equal_any a b la lb ca cb l m w hl hm (by rw [← hl.len]; exact h1) (by rw [← hm.len]; exact h2)
/-- an area's list of a kind -/
def nthA (x : Ar) : Nat → List Int
  | 0 => []
  | 1 => x.s
  | 2 => x.p
  | 3 => x.g
  | _ => x.r
theorem sameA_no {x y : Ar} {k : Nat} (hk : k < 5) (h : eqB (nthA x k) (nthA y k) = false) : sameA x y = false := by
  unfold sameA
  rcases (by omega : k = 0 ∨ k = 1 ∨ k = 2 ∨ k = 3 ∨ k = 4) with rfl | rfl | rfl | rfl | rfl
  · simp [nthA, eqB] at h
  · simp only [nthA] at h; rw [h]; rfl
  · simp only [nthA] at h; rw [h]; simp
  · simp only [nthA] at h; rw [h]; simp
  · simp only [nthA] at h; rw [h]; simp
theorem sameA_yes {x y : Ar} (h : ∀ j, j < 5 → eqB (nthA x j) (nthA y j) = true) : sameA x y = true := by
  unfold sameA
  have h1 := h 1 (by decide)
  have h2 := h 2 (by decide)
  have h3 := h 3 (by decide)
  have h4 := h 4 (by decide)
  simp only [nthA] at h1 h2 h3 h4
  rw [h1, h2, h3, h4]; rfl
theorem below_drewN' {B : Nat} {a w : World} (h : Below B a w) (n : Nat) : Below B a (w.drewN n) := ⟨h.os, h.tape, h.output, h.size, h.block⟩
/-- where the region of area.Same stands: what has come up, the slots, the world -/
structure S17 (N : Nat) (w0 : World) (A A5 B B5 : Array Value) (f0 f1 f2 f3 f4 f5 f6 f7 : Bool) (s5 s6 s8 s9 s10 s11 : Value) (W : World) : Prop where
  old : Old N w0 W
  h0 : f0 = true → s8 = .agg A
  h1 : f1 = true → s9 = .agg A5
  h2 : f2 = true → s10 = .agg B
  h3 : f3 = true → s11 = .agg B5
  h4 : f4 = true → ∃ g, s5 = .pointer (some ⟨g, 0, none⟩) ∧ N ≤ g ∧ W.heap[g]? = some (.cells (if f6 then A5 else #[.slice none 0 0, .slice none 0 0, .slice none 0 0, .slice none 0 0, .slice none 0 0]) 146 (0, 0))
  h5 : f5 = true → ∃ g, s6 = .pointer (some ⟨g, 0, none⟩) ∧ N ≤ g ∧ W.heap[g]? = some (.cells (if f7 then B5 else #[.slice none 0 0, .slice none 0 0, .slice none 0 0, .slice none 0 0, .slice none 0 0]) 146 (0, 0))
  h6 : f4 = true → f5 = true → s5 ≠ s6
  h7 : f6 = true → f4 = true
  h8 : f7 = true → f5 = true
theorem S17.below {N : Nat} {w0 : World} {A A5 B B5 : Array Value} {f0 f1 f2 f3 f4 f5 f6 f7 : Bool} {s5 s6 s8 s9 s10 s11 : Value} {W W' : World} (h : S17 N w0 A A5 B B5 f0 f1 f2 f3 f4 f5 f6 f7 s5 s6 s8 s9 s10 s11 W) (hb : Below W.heap.size W W') : S17 N w0 A A5 B B5 f0 f1 f2 f3 f4 f5 f6 f7 s5 s6 s8 s9 s10 s11 W' :=
  ⟨h.old.below hb, h.h0, h.h1, h.h2, h.h3, fun e => by
    obtain ⟨g, e1, e2, e3⟩ := h.h4 e
    exact ⟨g, e1, e2, (hb.block g (by rcases Nat.lt_or_ge g W.heap.size with q | q; exact q; rw [Array.getElem?_eq_none q] at e3; cases e3)).trans e3⟩, fun e => by
    obtain ⟨g, e1, e2, e3⟩ := h.h5 e
    exact ⟨g, e1, e2, (hb.block g (by rcases Nat.lt_or_ge g W.heap.size with q | q; exact q; rw [Array.getElem?_eq_none q] at e3; cases e3)).trans e3⟩, h.h6, h.h7, h.h8⟩
set_option maxHeartbeats 1000000 in
theorem same_any (s p g r s' p' g' r' : Value) (x y : Ar) (w : World) (hx : AL w s p g r x) (hy : AL w s' p' g' r' y) (sx : x.small) (sy : y.small) :
    Calls Tryz.prog 44 #[.agg #[s, p, g, r], .agg #[s', p', g', r']] w fun e w' => e = .returned (.bool (sameA x y)) ∧ Below w.heap.size w w' := by
  obtain ⟨x1, x2, x3, x4⟩ := sx
  obtain ⟨y1, y2, y3, y4⟩ := sy
  have HX : Hid (∀ w', Below w.heap.size w w' → AL w' s p g r x) := fun w' hb => hx.below hb
  have HY : Hid (∀ w', Below w.heap.size w w' → AL w' s' p' g' r' y) := fun w' hb => hy.below hb
  obtain ⟨⟨a1, l1, c1, rfl, h1⟩, ⟨a2, l2, c2, rfl, h2⟩, ⟨a3, l3, c3, rfl, h3⟩, ⟨a4, l4, c4, rfl, h4⟩⟩ := hx
  clear h1 h2 h3 h4
  obtain ⟨⟨b1, m1, d1, rfl, h1⟩, ⟨b2, m2, d2, rfl, h2⟩, ⟨b3, m3, d3, rfl, h3⟩, ⟨b4, m4, d4, rfl, h4⟩⟩ := hy
  clear h1 h2 h3 h4
  go_enter Tryz.func44, Tryz.ntmps44
  go_upto_region 1 with fail
  go_cut [5, 6] (fun s5 s6 wx => ∃ g1 g2 : Nat, s5 = .pointer (some ⟨g1, 0, none⟩) ∧ s6 = .pointer (some ⟨g2, 0, none⟩) ∧ wx.heap[g1]? = some (.cells #[.slice none 0 0, .slice a1 l1 c1, .slice a2 l2 c2, .slice a3 l3 c3, .slice a4 l4 c4] 146 (0, 0)) ∧ wx.heap[g2]? = some (.cells #[.slice none 0 0, .slice b1 m1 d1, .slice b2 m2 d2, .slice b3 m3 d3, .slice b4 m4 d4] 146 (0, 0)) ∧ Below w.heap.size w wx)
  case first =>
    generalize hw0 : (w.alloc (.cells #[.slice a1 l1 c1, .slice a2 l2 c2, .slice a3 l3 c3, .slice a4 l4 c4] 56)).alloc (.cells #[.slice b1 m1 d1, .slice b2 m2 d2, .slice b3 m3 d3, .slice b4 m4 d4] 56) = w0
    have r0 : w0.heap[w.heap.size]? = some (.cells #[.slice a1 l1 c1, .slice a2 l2 c2, .slice a3 l3 c3, .slice a4 l4 c4] 56 (0, 0)) := by
      subst hw0; exact (Below.heap_alloc _ _ _ (by simp)).trans (heap_alloc_new w _)
    have r1 : w0.heap[w.heap.size + 1]? = some (.cells #[.slice b1 m1 d1, .slice b2 m2 d2, .slice b3 m3 d3, .slice b4 m4 d4] 56 (0, 0)) := by
      subst hw0; have := heap_alloc_new (w.alloc (.cells #[.slice a1 l1 c1, .slice a2 l2 c2, .slice a3 l3 c3, .slice a4 l4 c4] 56)) (.cells #[.slice b1 m1 d1, .slice b2 m2 d2, .slice b3 m3 d3, .slice b4 m4 d4] 56); rwa [World.size_alloc] at this
    have hz : w.heap.size + 2 ≤ w0.heap.size := by subst hw0; simp
    have hB0 : Below w.heap.size w w0 := by subst hw0; exact ((Below.refl _ _).alloc (Nat.le_refl _) _).alloc (by simp) _
    have HB0 := Lib.hid hB0
    have HX0 := HX
    clear hw0 hB0 HX HY
    refine wp_region_inv' (by kernel_rfl) (by kernel_rfl) (fun f a W => ∃ s5 s6 s8 s9 s10 s11 : Value, a = { tmps := #[.agg #[.slice a1 l1 c1, .slice a2 l2 c2, .slice a3 l3 c3, .slice a4 l4 c4], .agg #[.slice b1 m1 d1, .slice b2 m2 d2, .slice b3 m3 d3, .slice b4 m4 d4], .pointer (some ⟨w.heap.size, 0, none⟩), .pointer (some ⟨w.heap.size + 1, 0, none⟩), .bool false, s5, s6, undef, s8, s9, s10, s11, undef, undef, undef, undef, undef, undef, undef, undef, undef, undef, undef, undef], defers := [] } ∧ S17 w0.heap.size w0 #[.slice a1 l1 c1, .slice a2 l2 c2, .slice a3 l3 c3, .slice a4 l4 c4] #[.slice none 0 0, .slice a1 l1 c1, .slice a2 l2 c2, .slice a3 l3 c3, .slice a4 l4 c4] #[.slice b1 m1 d1, .slice b2 m2 d2, .slice b3 m3 d3, .slice b4 m4 d4] #[.slice none 0 0, .slice b1 m1 d1, .slice b2 m2 d2, .slice b3 m3 d3, .slice b4 m4 d4] (f 0) (f 1) (f 2) (f 3) (f 4) (f 5) (f 6) (f 7) s5 s6 s8 s9 s10 s11 W) ?_ ?_ ?_
    · exact ⟨_, _, _, _, _, _, rfl, ⟨⟨rfl, rfl, rfl, Nat.le_refl _, fun _ _ => rfl⟩, by simp, by simp, by simp, by simp, by simp, by simp, by simp, by simp, by simp⟩⟩
    · intro i o ho f a W hI hd hun
      obtain ⟨s5, s6, s8, s9, s10, s11, rfl, hS⟩ := hI
      rcases i with _ | _ | _ | _ | _ | _ | _ | _ | i
      · simp at ho
        subst ho
        have q := hS.old.block (w.heap.size) (by omega)
        rw [r0] at q
        have cc0 : W.cell? ⟨w.heap.size, 0, none⟩ = some (.slice a1 l1 c1) := (cell_of_row W _ 0 _ _ _ q).trans rfl
        have cc1 : W.cell? ⟨w.heap.size, 1, none⟩ = some (.slice a2 l2 c2) := (cell_of_row W _ 1 _ _ _ q).trans rfl
        have cc2 : W.cell? ⟨w.heap.size, 2, none⟩ = some (.slice a3 l3 c3) := (cell_of_row W _ 2 _ _ _ q).trans rfl
        have cc3 : W.cell? ⟨w.heap.size, 3, none⟩ = some (.slice a4 l4 c4) := (cell_of_row W _ 3 _ _ _ q).trans rfl
        simp [wpOp, go_sem, cc0, cc1, cc2, cc3]
        exact .inl ⟨_, _, _, _, _, _, ⟨rfl, rfl, rfl, rfl, rfl, rfl⟩, { hS with h0 := fun _ => rfl}⟩
      · simp at ho
        subst ho
        have d0 := hd ⟨0, .data⟩ (by simp) (by rfl)
        obtain rfl := hS.h0 d0
        simp [wpOp, go_sem]
        refine .inl ((lists_any _ _ _ _ _ _ _ _ _ _ _ _ _).mono ?_)
        rintro e w' ⟨rfl, hb⟩
        simp [go_sem]
        exact ⟨_, _, _, _, _, _, ⟨rfl, rfl, rfl, rfl, rfl, rfl⟩, {S17.below hS hb with h1 := fun _ => rfl}⟩
      · simp at ho
        subst ho
        have q := hS.old.block (w.heap.size + 1) (by omega)
        rw [r1] at q
        have cc0 : W.cell? ⟨w.heap.size + 1, 0, none⟩ = some (.slice b1 m1 d1) := (cell_of_row W _ 0 _ _ _ q).trans rfl
        have cc1 : W.cell? ⟨w.heap.size + 1, 1, none⟩ = some (.slice b2 m2 d2) := (cell_of_row W _ 1 _ _ _ q).trans rfl
        have cc2 : W.cell? ⟨w.heap.size + 1, 2, none⟩ = some (.slice b3 m3 d3) := (cell_of_row W _ 2 _ _ _ q).trans rfl
        have cc3 : W.cell? ⟨w.heap.size + 1, 3, none⟩ = some (.slice b4 m4 d4) := (cell_of_row W _ 3 _ _ _ q).trans rfl
        simp [wpOp, go_sem, cc0, cc1, cc2, cc3]
        exact .inl ⟨_, _, _, _, _, _, ⟨rfl, rfl, rfl, rfl, rfl, rfl⟩, { hS with h2 := fun _ => rfl}⟩
      · simp at ho
        subst ho
        have d0 := hd ⟨2, .data⟩ (by simp) (by rfl)
        obtain rfl := hS.h2 d0
        simp [wpOp, go_sem]
        refine .inl ((lists_any _ _ _ _ _ _ _ _ _ _ _ _ _).mono ?_)
        rintro e w' ⟨rfl, hb⟩
        simp [go_sem]
        exact ⟨_, _, _, _, _, _, ⟨rfl, rfl, rfl, rfl, rfl, rfl⟩, {S17.below hS hb with h3 := fun _ => rfl}⟩
      · simp at ho
        subst ho
        have hb : Below W.heap.size W (W.alloc (.cells #[.slice none 0 0, .slice none 0 0, .slice none 0 0, .slice none 0 0, .slice none 0 0] 146)) := (Below.refl _ _).alloc (Nat.le_refl _) _
        have hS' := S17.below hS hb
        have hnew := heap_alloc_new W (.cells #[.slice none 0 0, .slice none 0 0, .slice none 0 0, .slice none 0 0, .slice none 0 0] 146)
        have hN := hS.old.size
        have f6 : f 6 = false := by
          cases h : f 6 with
          | false => rfl
          | true => have := hS.h7 h; rw [hun] at this; cases this
        simp [wpOp, go_sem]
        refine .inl ⟨_, _, _, _, _, _, ⟨rfl, rfl, rfl, rfl, rfl, rfl⟩, { hS' with h4 := fun _ => ⟨_, rfl, hN, by rw [f6]; exact hnew⟩, h6 := ?_, h7 := fun _ => rfl }⟩
        intro _ hq
        obtain ⟨g, e1, -, e3⟩ := hS.h5 hq
        rw [e1]
        intro e
        injection e with e
        injection e with e
        injection e with e
        subst e
        rw [Array.getElem?_eq_none (Nat.le_refl _)] at e3
        cases e3
      · simp at ho
        subst ho
        have hb : Below W.heap.size W (W.alloc (.cells #[.slice none 0 0, .slice none 0 0, .slice none 0 0, .slice none 0 0, .slice none 0 0] 146)) := (Below.refl _ _).alloc (Nat.le_refl _) _
        have hS' := S17.below hS hb
        have hnew := heap_alloc_new W (.cells #[.slice none 0 0, .slice none 0 0, .slice none 0 0, .slice none 0 0, .slice none 0 0] 146)
        have hN := hS.old.size
        have f6 : f 7 = false := by
          cases h : f 7 with
          | false => rfl
          | true => have := hS.h8 h; rw [hun] at this; cases this
        simp [wpOp, go_sem]
        refine .inl ⟨_, _, _, _, _, _, ⟨rfl, rfl, rfl, rfl, rfl, rfl⟩, { hS' with h5 := fun _ => ⟨_, rfl, hN, by rw [f6]; exact hnew⟩, h6 := ?_, h8 := fun _ => rfl }⟩
        intro hq _
        obtain ⟨g, e1, -, e3⟩ := hS.h4 hq
        rw [e1]
        intro e
        injection e with e
        injection e with e
        injection e with e
        subst e
        rw [Array.getElem?_eq_none (Nat.le_refl _)] at e3
        cases e3
      · simp at ho
        subst ho
        have d1 := hd ⟨1, .data⟩ (by simp) (by rfl)
        have d4 := hd ⟨4, .phase⟩ (by simp) (by rfl)
        have d5 := hd ⟨5, .phase⟩ (by simp) (by rfl)
        obtain rfl := hS.h1 d1
        obtain ⟨g, e1, e2, e3⟩ := hS.h4 d4
        obtain ⟨g', e1', e2', e3'⟩ := hS.h5 d5
        have hne : g' ≠ g := by
          intro e
          exact hS.h6 d4 d5 (by rw [e1, e1', e])
        subst e1 e1'
        rw [hun] at e3
        simp only [Bool.false_eq_true, if_false] at e3
        have cc0 : W.cell? ⟨g, 0, none⟩ = some (.slice none 0 0) := (cell_of_row W g 0 _ _ _ e3).trans rfl
        have cc1 : W.cell? ⟨g, 1, none⟩ = some (.slice none 0 0) := (cell_of_row W g 1 _ _ _ e3).trans rfl
        have cc2 : W.cell? ⟨g, 2, none⟩ = some (.slice none 0 0) := (cell_of_row W g 2 _ _ _ e3).trans rfl
        have cc3 : W.cell? ⟨g, 3, none⟩ = some (.slice none 0 0) := (cell_of_row W g 3 _ _ _ e3).trans rfl
        have cc4 : W.cell? ⟨g, 4, none⟩ = some (.slice none 0 0) := (cell_of_row W g 4 _ _ _ e3).trans rfl
        have hf := (by simp [World.frozen?, e3] : ∀ o, W.frozen? ⟨g, o, none⟩ = false)
        simp [wpOp, go_sem, cc0, cc1, cc2, cc3, cc4, hf]
        refine .inl ⟨_, _, _, _, _, _, ⟨rfl, rfl, rfl, rfl, rfl, rfl⟩, { hS with old := ((((hS.old.setCell e2 _).setCell e2 _).setCell e2 _).setCell e2 _).setCell e2 _, h4 := fun _ => ⟨g, rfl, e2, ?_⟩, h5 := fun _ => ⟨g', rfl, e2', ?_⟩, h7 := fun _ => d4 }⟩
        · simp [World.setCell, Array.getElem?_modify, e3]
        · simp only [World.setCell, Array.getElem?_modify, if_neg (Ne.symm hne)]
          exact e3'
      · simp at ho
        subst ho
        have d1 := hd ⟨3, .data⟩ (by simp) (by rfl)
        have d4 := hd ⟨5, .phase⟩ (by simp) (by rfl)
        have d5 := hd ⟨4, .phase⟩ (by simp) (by rfl)
        obtain rfl := hS.h3 d1
        obtain ⟨g, e1, e2, e3⟩ := hS.h5 d4
        obtain ⟨g', e1', e2', e3'⟩ := hS.h4 d5
        have hne : g' ≠ g := by
          intro e
          exact hS.h6 d5 d4 (by rw [e1, e1', e])
        subst e1 e1'
        rw [hun] at e3
        simp only [Bool.false_eq_true, if_false] at e3
        have cc0 : W.cell? ⟨g, 0, none⟩ = some (.slice none 0 0) := (cell_of_row W g 0 _ _ _ e3).trans rfl
        have cc1 : W.cell? ⟨g, 1, none⟩ = some (.slice none 0 0) := (cell_of_row W g 1 _ _ _ e3).trans rfl
        have cc2 : W.cell? ⟨g, 2, none⟩ = some (.slice none 0 0) := (cell_of_row W g 2 _ _ _ e3).trans rfl
        have cc3 : W.cell? ⟨g, 3, none⟩ = some (.slice none 0 0) := (cell_of_row W g 3 _ _ _ e3).trans rfl
        have cc4 : W.cell? ⟨g, 4, none⟩ = some (.slice none 0 0) := (cell_of_row W g 4 _ _ _ e3).trans rfl
        have hf := (by simp [World.frozen?, e3] : ∀ o, W.frozen? ⟨g, o, none⟩ = false)
        simp [wpOp, go_sem, cc0, cc1, cc2, cc3, cc4, hf]
        refine .inl ⟨_, _, _, _, _, _, ⟨rfl, rfl, rfl, rfl, rfl, rfl⟩, { hS with old := ((((hS.old.setCell e2 _).setCell e2 _).setCell e2 _).setCell e2 _).setCell e2 _, h5 := fun _ => ⟨g, rfl, e2, ?_⟩, h4 := fun _ => ⟨g', rfl, e2', ?_⟩, h8 := fun _ => d4 }⟩
        · simp only [World.setCell, Array.getElem?_modify, if_neg (Ne.symm hne)]
          exact e3'
        · simp [World.setCell, Array.getElem?_modify, e3]
      · simp at ho
    · intro f a W hI hall
      obtain ⟨s5, s6, s8, s9, s10, s11, rfl, hS⟩ := hI
      have t4 := hall 4 (by decide)
      have t5 := hall 5 (by decide)
      obtain ⟨g, e1, e2, e3⟩ := hS.h4 t4
      obtain ⟨g', e1', e2', e3'⟩ := hS.h5 t5
      rw [hall 6 (by decide)] at e3
      rw [hall 7 (by decide)] at e3'
      subst e1 e1'
      have HBW : Below w.heap.size w W := Below.of_old hS.old HB0.out (by omega) (by omega)
      clear hS hall r0 r1
      go_wp2_with fail
      go_meet
      exact ⟨g, g', rfl, rfl, by simpa using e3, by simpa using e3', HBW⟩
  case rest =>
    obtain ⟨g, g', rfl, rfl, h1, h2, hb⟩ := hcut
    have HB := Lib.hid hb
    have H1 := Lib.hid h1
    have H2 := Lib.hid h2
    clear h1 h2 hb
    go_wp2_with fail
    go_loopw [12] (fun i wr => ∃ k n : Nat, k ≤ 5 ∧ i = .int .i64 k ∧ wr = wc.drewN n ∧ ∀ j, j < k → eqB (nthA x j) (nthA y j) = true) (fun i _ => 5 - (intOf i).toNat)
    case atStart => exact ⟨0, 0, by omega, rfl, rfl, fun j h => by omega⟩
    case round =>
      obtain ⟨k, q, hk, rfl, hwr, hall⟩ := hrel
      have HWR := Lib.hid hwr
      have HBr : Hid (Below w.heap.size w wr) := by show Below _ _ _; rw [hwr]; exact below_drewN' HB.out q
      clear hwr
      have HA := Lib.hid hall
      clear hall
      by_cases hlt : k < 5
      · have kcells : ∀ j : Nat, True := fun _ => trivial
        clear kcells
        have HR : Hid (∀ (B : Bool), eqB (nthA x k) (nthA y k) = B → True) := fun _ _ => trivial
        clear HR
        have HNO : Hid (eqB (nthA x k) (nthA y k) = false → sameA x y = false) := sameA_no hlt
        have HXW : Hid (∀ n, AL (wr.drewN n) (.slice a1 l1 c1) (.slice a2 l2 c2) (.slice a3 l3 c3) (.slice a4 l4 c4) x) := fun n => HX.out _ (below_drewN' HBr.out n)
        have HYW : Hid (∀ n, AL (wr.drewN n) (.slice b1 m1 d1) (.slice b2 m2 d2) (.slice b3 m3 d3) (.slice b4 m4 d4) y) := fun n => HY.out _ (below_drewN' HBr.out n)
        have HT : Hid (eqB (nthA x k) (nthA y k) = true → ∀ j, j < k + 1 → eqB (nthA x j) (nthA y j) = true) := fun e j hj => by
          by_cases hjk : j = k
          · subst hjk; exact e
          · exact HA.out j (by omega)
        rcases (by omega : k = 0 ∨ k = 1 ∨ k = 2 ∨ k = 3 ∨ k = 4) with rfl | rfl | rfl | rfl | rfl
        · have e1 : wr.cell? ⟨g, 0, none⟩ = some (.slice none 0 0) := by rw [HWR.out]; exact (cell_of_row wc g 0 _ _ _ H1.out).trans rfl
          have e2 : wr.cell? ⟨g', 0, none⟩ = some (.slice none 0 0) := by rw [HWR.out]; exact (cell_of_row wc g' 0 _ _ _ H2.out).trans rfl
          cases hq : eqB (nthA x 0) (nthA y 0) with
          | true =>
            have HQ : Hid (∀ n, Calls Tryz.prog 99 #[.slice none 0 0, .slice none 0 0] (wr.drewN n) fun e w' => e = .returned (.bool true) ∧ ∃ m, w' = (wr.drewN n).drewN m) := fun n => by
              have := equal_q _ _ (nthA x 0) (nthA y 0) (wr.drewN n) (ILv.nil _) (ILv.nil _) (by simp [nthA]) (by simp [nthA])
              rw [hq] at this
              exact this
            have HT' := Lib.hid (HT.out hq)
            clear HNO HT
            go_wp2_with fail
            go_quiet ((go_at_call 99; exact Calls.quiet_of (HQ.out _)))
            go_wp2_with fail
            go_roundw
            case rel => exact ⟨1, _, by omega, by go_num, by rw [HWR.out]; exact World.drewN_drewN _ _ _, HT'.out⟩
            case measure => simp [intOf]
          | false =>
            have HQ : Hid (∀ n, Calls Tryz.prog 99 #[.slice none 0 0, .slice none 0 0] (wr.drewN n) fun e w' => e = .returned (.bool false) ∧ ∃ m, w' = (wr.drewN n).drewN m) := fun n => by
              have := equal_q _ _ (nthA x 0) (nthA y 0) (wr.drewN n) (ILv.nil _) (ILv.nil _) (by simp [nthA]) (by simp [nthA])
              rw [hq] at this
              exact this
            have HE := Lib.hid (HNO.out hq)
            clear HNO HT
            go_wp2_with fail
            go_quiet ((go_at_call 99; exact Calls.quiet_of (HQ.out _)))
            go_wp2_with fail
            go_ret
            exact ⟨rbool HE.out.symm, below_drewN' HBr.out _⟩
        · have e1 : wr.cell? ⟨g, 1, none⟩ = some (.slice a1 l1 c1) := by rw [HWR.out]; exact (cell_of_row wc g 1 _ _ _ H1.out).trans rfl
          have e2 : wr.cell? ⟨g', 1, none⟩ = some (.slice b1 m1 d1) := by rw [HWR.out]; exact (cell_of_row wc g' 1 _ _ _ H2.out).trans rfl
          cases hq : eqB (nthA x 1) (nthA y 1) with
          | true =>
            have HQ : Hid (∀ n, Calls Tryz.prog 99 #[.slice a1 l1 c1, .slice b1 m1 d1] (wr.drewN n) fun e w' => e = .returned (.bool true) ∧ ∃ m, w' = (wr.drewN n).drewN m) := fun n => by
              have := equal_q _ _ (nthA x 1) (nthA y 1) (wr.drewN n) ((HXW.out _).s) ((HYW.out _).s) (by first | exact Nat.le_trans x1 (by decide) | exact Nat.le_trans y1 (by decide)) (by first | exact Nat.le_trans x1 (by decide) | exact Nat.le_trans y1 (by decide))
              rw [hq] at this
              exact this
            have HT' := Lib.hid (HT.out hq)
            clear HNO HT
            go_wp2_with fail
            go_quiet ((go_at_call 99; exact Calls.quiet_of (HQ.out _)))
            go_wp2_with fail
            go_roundw
            case rel => exact ⟨2, _, by omega, by go_num, by rw [HWR.out]; exact World.drewN_drewN _ _ _, HT'.out⟩
            case measure => simp [intOf]
          | false =>
            have HQ : Hid (∀ n, Calls Tryz.prog 99 #[.slice a1 l1 c1, .slice b1 m1 d1] (wr.drewN n) fun e w' => e = .returned (.bool false) ∧ ∃ m, w' = (wr.drewN n).drewN m) := fun n => by
              have := equal_q _ _ (nthA x 1) (nthA y 1) (wr.drewN n) ((HXW.out _).s) ((HYW.out _).s) (by first | exact Nat.le_trans x1 (by decide) | exact Nat.le_trans y1 (by decide)) (by first | exact Nat.le_trans x1 (by decide) | exact Nat.le_trans y1 (by decide))
              rw [hq] at this
              exact this
            have HE := Lib.hid (HNO.out hq)
            clear HNO HT
            go_wp2_with fail
            go_quiet ((go_at_call 99; exact Calls.quiet_of (HQ.out _)))
            go_wp2_with fail
            go_ret
            exact ⟨rbool HE.out.symm, below_drewN' HBr.out _⟩
        · have e1 : wr.cell? ⟨g, 2, none⟩ = some (.slice a2 l2 c2) := by rw [HWR.out]; exact (cell_of_row wc g 2 _ _ _ H1.out).trans rfl
          have e2 : wr.cell? ⟨g', 2, none⟩ = some (.slice b2 m2 d2) := by rw [HWR.out]; exact (cell_of_row wc g' 2 _ _ _ H2.out).trans rfl
          cases hq : eqB (nthA x 2) (nthA y 2) with
          | true =>
            have HQ : Hid (∀ n, Calls Tryz.prog 99 #[.slice a2 l2 c2, .slice b2 m2 d2] (wr.drewN n) fun e w' => e = .returned (.bool true) ∧ ∃ m, w' = (wr.drewN n).drewN m) := fun n => by
              have := equal_q _ _ (nthA x 2) (nthA y 2) (wr.drewN n) ((HXW.out _).p) ((HYW.out _).p) (by first | exact Nat.le_trans x2 (by decide) | exact Nat.le_trans y2 (by decide)) (by first | exact Nat.le_trans x2 (by decide) | exact Nat.le_trans y2 (by decide))
              rw [hq] at this
              exact this
            have HT' := Lib.hid (HT.out hq)
            clear HNO HT
            go_wp2_with fail
            go_quiet ((go_at_call 99; exact Calls.quiet_of (HQ.out _)))
            go_wp2_with fail
            go_roundw
            case rel => exact ⟨3, _, by omega, by go_num, by rw [HWR.out]; exact World.drewN_drewN _ _ _, HT'.out⟩
            case measure => simp [intOf]
          | false =>
            have HQ : Hid (∀ n, Calls Tryz.prog 99 #[.slice a2 l2 c2, .slice b2 m2 d2] (wr.drewN n) fun e w' => e = .returned (.bool false) ∧ ∃ m, w' = (wr.drewN n).drewN m) := fun n => by
              have := equal_q _ _ (nthA x 2) (nthA y 2) (wr.drewN n) ((HXW.out _).p) ((HYW.out _).p) (by first | exact Nat.le_trans x2 (by decide) | exact Nat.le_trans y2 (by decide)) (by first | exact Nat.le_trans x2 (by decide) | exact Nat.le_trans y2 (by decide))
              rw [hq] at this
              exact this
            have HE := Lib.hid (HNO.out hq)
            clear HNO HT
            go_wp2_with fail
            go_quiet ((go_at_call 99; exact Calls.quiet_of (HQ.out _)))
            go_wp2_with fail
            go_ret
            exact ⟨rbool HE.out.symm, below_drewN' HBr.out _⟩
        · have e1 : wr.cell? ⟨g, 3, none⟩ = some (.slice a3 l3 c3) := by rw [HWR.out]; exact (cell_of_row wc g 3 _ _ _ H1.out).trans rfl
          have e2 : wr.cell? ⟨g', 3, none⟩ = some (.slice b3 m3 d3) := by rw [HWR.out]; exact (cell_of_row wc g' 3 _ _ _ H2.out).trans rfl
          cases hq : eqB (nthA x 3) (nthA y 3) with
          | true =>
            have HQ : Hid (∀ n, Calls Tryz.prog 99 #[.slice a3 l3 c3, .slice b3 m3 d3] (wr.drewN n) fun e w' => e = .returned (.bool true) ∧ ∃ m, w' = (wr.drewN n).drewN m) := fun n => by
              have := equal_q _ _ (nthA x 3) (nthA y 3) (wr.drewN n) ((HXW.out _).g) ((HYW.out _).g) (by first | exact Nat.le_trans x3 (by decide) | exact Nat.le_trans y3 (by decide)) (by first | exact Nat.le_trans x3 (by decide) | exact Nat.le_trans y3 (by decide))
              rw [hq] at this
              exact this
            have HT' := Lib.hid (HT.out hq)
            clear HNO HT
            go_wp2_with fail
            go_quiet ((go_at_call 99; exact Calls.quiet_of (HQ.out _)))
            go_wp2_with fail
            go_roundw
            case rel => exact ⟨4, _, by omega, by go_num, by rw [HWR.out]; exact World.drewN_drewN _ _ _, HT'.out⟩
            case measure => simp [intOf]
          | false =>
            have HQ : Hid (∀ n, Calls Tryz.prog 99 #[.slice a3 l3 c3, .slice b3 m3 d3] (wr.drewN n) fun e w' => e = .returned (.bool false) ∧ ∃ m, w' = (wr.drewN n).drewN m) := fun n => by
              have := equal_q _ _ (nthA x 3) (nthA y 3) (wr.drewN n) ((HXW.out _).g) ((HYW.out _).g) (by first | exact Nat.le_trans x3 (by decide) | exact Nat.le_trans y3 (by decide)) (by first | exact Nat.le_trans x3 (by decide) | exact Nat.le_trans y3 (by decide))
              rw [hq] at this
              exact this
            have HE := Lib.hid (HNO.out hq)
            clear HNO HT
            go_wp2_with fail
            go_quiet ((go_at_call 99; exact Calls.quiet_of (HQ.out _)))
            go_wp2_with fail
            go_ret
            exact ⟨rbool HE.out.symm, below_drewN' HBr.out _⟩
        · have e1 : wr.cell? ⟨g, 4, none⟩ = some (.slice a4 l4 c4) := by rw [HWR.out]; exact (cell_of_row wc g 4 _ _ _ H1.out).trans rfl
          have e2 : wr.cell? ⟨g', 4, none⟩ = some (.slice b4 m4 d4) := by rw [HWR.out]; exact (cell_of_row wc g' 4 _ _ _ H2.out).trans rfl
          cases hq : eqB (nthA x 4) (nthA y 4) with
          | true =>
            have HQ : Hid (∀ n, Calls Tryz.prog 99 #[.slice a4 l4 c4, .slice b4 m4 d4] (wr.drewN n) fun e w' => e = .returned (.bool true) ∧ ∃ m, w' = (wr.drewN n).drewN m) := fun n => by
              have := equal_q _ _ (nthA x 4) (nthA y 4) (wr.drewN n) ((HXW.out _).r) ((HYW.out _).r) (by first | exact Nat.le_trans x4 (by decide) | exact Nat.le_trans y4 (by decide)) (by first | exact Nat.le_trans x4 (by decide) | exact Nat.le_trans y4 (by decide))
              rw [hq] at this
              exact this
            have HT' := Lib.hid (HT.out hq)
            clear HNO HT
            go_wp2_with fail
            go_quiet ((go_at_call 99; exact Calls.quiet_of (HQ.out _)))
            go_wp2_with fail
            go_roundw
            case rel => exact ⟨5, _, by omega, by go_num, by rw [HWR.out]; exact World.drewN_drewN _ _ _, HT'.out⟩
            case measure => simp [intOf]
          | false =>
            have HQ : Hid (∀ n, Calls Tryz.prog 99 #[.slice a4 l4 c4, .slice b4 m4 d4] (wr.drewN n) fun e w' => e = .returned (.bool false) ∧ ∃ m, w' = (wr.drewN n).drewN m) := fun n => by
              have := equal_q _ _ (nthA x 4) (nthA y 4) (wr.drewN n) ((HXW.out _).r) ((HYW.out _).r) (by first | exact Nat.le_trans x4 (by decide) | exact Nat.le_trans y4 (by decide)) (by first | exact Nat.le_trans x4 (by decide) | exact Nat.le_trans y4 (by decide))
              rw [hq] at this
              exact this
            have HE := Lib.hid (HNO.out hq)
            clear HNO HT
            go_wp2_with fail
            go_quiet ((go_at_call 99; exact Calls.quiet_of (HQ.out _)))
            go_wp2_with fail
            go_ret
            exact ⟨rbool HE.out.symm, below_drewN' HBr.out _⟩
      · obtain rfl : k = 5 := by omega
        have HE : Hid (sameA x y = true) := sameA_yes HA.out
        go_wp2_with fail
        go_ret
        exact ⟨rbool HE.out.symm, HBr.out⟩
end Go.Proofs.YtbiehpjhhopjaaaGreat
