/-
 area.Same, walked.
-/
import Derived.Test.YtbiehpjhhopjaaaGreatTSameWalk
set_option linter.unusedVariables false
namespace Go.Proofs.YtbiehpjhhopjaaaGreat
open Go.RowKit Go.Sort
structure Old (N : Nat) (w0 w : World) : Prop where
 os : w.os = w0.os
 tape : w.tape = w0.tape
 output : w.output = w0.output
 size : N ≤ w.heap.size
 block : ∀ b, b < N → w.heap[b]? = w0.heap[b]?
theorem Old.alloc {N : Nat} {w0 w : World} (h : Old N w0 w) (o : Obj) : Old N w0 (w.alloc o) :=
 ⟨h.os, h.tape, h.output, Nat.le_trans h.size (by simp), fun b hb => (Below.heap_alloc w o b (Nat.lt_of_lt_of_le hb h.size)).trans (h.block b hb)⟩
theorem Old.below {N : Nat} {w0 w w' : World} (h : Old N w0 w) (hb : Below w.heap.size w w') : Old N w0 w' :=
 ⟨hb.os.trans h.os, hb.tape.trans h.tape, hb.output.trans h.output, Nat.le_trans h.size hb.size, fun b h' => (hb.block b (Nat.lt_of_lt_of_le h' h.size)).trans (h.block b h')⟩
theorem Old.setCell {N : Nat} {w0 w : World} (h : Old N w0 w) {p : Addr} (hp : N ≤ p.block) (u : Value) : Old N w0 (w.setCell p u) :=
 ⟨h.os, h.tape, h.output, by simpa [World.setCell] using h.size, fun b hb => (Below.heap_setCell w p u b (by omega)).trans (h.block b hb)⟩
theorem Old.drew {N : Nat} {w0 w : World} (h : Old N w0 w) : Old N w0 w.drew := ⟨h.os, h.tape, h.output, h.size, h.block⟩
def KO (N : Nat) (w0 w : World) : Prop := Old N w0 w ∧ N ≤ w.heap.size ∧ ∀ b o, b < N → w.cell? ⟨b, o, none⟩ = w0.cell? ⟨b, o, none⟩
theorem KO.of {N : Nat} {w0 w : World} (h : Old N w0 w) : Old N w0 w ∧ N ≤ w.heap.size ∧ ∀ b o, b < N → w.cell? ⟨b, o, none⟩ = w0.cell? ⟨b, o, none⟩ :=
 ⟨h, h.size, fun b o hb => World.cell?_of_block (h.block b hb)⟩
theorem Below.of_old {B N : Nat} {w0 w v : World} (h : Old N w0 w) (hb : Below B v w0) (hB : B ≤ N) (hN : v.heap.size ≤ N) : Below B v w :=
 ⟨h.os.trans hb.os, h.tape.trans hb.tape, h.output.trans hb.output, Nat.le_trans hN h.size, fun k hk => (h.block k (Nat.lt_of_lt_of_le hk hB)).trans (hb.block k hk)⟩
theorem ccell {W w1 : World} {p : Addr} {v : Value} (hb : Below W.heap.size W w1) (h : W.cell? p = some v) : w1.cell? p = some v := (hb.cell (block_lt_of_cell h)).trans h
theorem equal_q (u v : Value) (l m : List Int) (w : World) (hl : ILv w u l) (hm : ILv w v m) (h1 : l.length ≤ 1000000) (h2 : m.length ≤ 1000000) :
  Calls Tryz.prog 99 #[u, v] w fun e w' => e = .returned (.bool (eqB l m)) ∧ ∃ n, w' = w.drewN n := by
 obtain ⟨a, la, ca, rfl, hl⟩ := hl
 obtain ⟨b, lb, cb, rfl, hm⟩ := hm
 exact equal_any a b la lb ca cb l m w hl hm (by rw [← hl.len]; exact h1) (by rw [← hm.len]; exact h2)
def nthA (x : Ar) : Nat → List Int
 | 0 => []
 | 1 => x.s
 | 2 => x.p
 | 3 => x.g
 | _ => x.r
theorem sameA_no {x y : Ar} {k : Nat} (hk : k < 5) (h : eqB (nthA x k) (nthA y k) = false) : sameA x y = false := by
 unfold sameA
 rcases (by omega : k = 0 ∨ k = 1 ∨ k = 2 ∨ k = 3 ∨ k = 4) with rfl | rfl | rfl | rfl | rfl
 ·simp [nthA, eqB] at h
 ·simp only [nthA] at h; rw [h]; rfl
 ·simp only [nthA] at h; rw [h]; simp
 ·simp only [nthA] at h; rw [h]; simp
 ·simp only [nthA] at h; rw [h]; simp
theorem sameA_yes {x y : Ar} (h : ∀ j, j < 5 → eqB (nthA x j) (nthA y j) = true) : sameA x y = true := by
 unfold sameA
 have h1 := h 1 (by decide)
 have h2 := h 2 (by decide)
 have h3 := h 3 (by decide)
 have h4 := h 4 (by decide)
 simp only [nthA] at h1 h2 h3 h4
 rw [h1, h2, h3, h4]; rfl
theorem below_drewN' {B : Nat} {a w : World} (h : Below B a w) (n : Nat) : Below B a (w.drewN n) := ⟨h.os, h.tape, h.output, h.size, h.block⟩
structure S17 (N : Nat) (w0 : World) (A A5 B B5 : Array Value) (f0 f1 f2 f3 f4 f5 f6 f7 : Bool) (s5 s6 s8 s9 s10 s11 : Value) (W : World) : Prop where
 old : Old N w0 W
 h0 : f0 = true → s8 = .agg A
 h1 : f1 = true → s9 = .agg A5
 h2 : f2 = true → s10 = .agg B
 h3 : f3 = true → s11 = .agg B5
 h4 : f4 = true → ∃ g, s5 = .pointer (some ⟨g, 0, none⟩) ∧ N ≤ g ∧ W.heap[g]? = some (.cells (if f6 then A5 else #[.slice none 0 0, .slice none 0 0, .slice none 0 0, .slice none 0 0, .slice none 0 0]) 146 (0, 0))
 h5 : f5 = true → ∃ g, s6 = .pointer (some ⟨g, 0, none⟩) ∧ N ≤ g ∧ W.heap[g]? = some (.cells (if f7 then B5 else #[.slice none 0 0, .slice none 0 0, .slice none 0 0, .slice none 0 0, .slice none 0 0]) 146 (0, 0))
 h6 : f4 = true → f5 = true → s5 ≠ s6
 h7 : f6 = true → f4 = true
 h8 : f7 = true → f5 = true
theorem S17.below {N : Nat} {w0 : World} {A A5 B B5 : Array Value} {f0 f1 f2 f3 f4 f5 f6 f7 : Bool} {s5 s6 s8 s9 s10 s11 : Value} {W W' : World} (h : S17 N w0 A A5 B B5 f0 f1 f2 f3 f4 f5 f6 f7 s5 s6 s8 s9 s10 s11 W) (hb : Below W.heap.size W W') : S17 N w0 A A5 B B5 f0 f1 f2 f3 f4 f5 f6 f7 s5 s6 s8 s9 s10 s11 W' :=
 ⟨h.old.below hb, h.h0, h.h1, h.h2, h.h3, fun e => by
  obtain ⟨g, e1, e2, e3⟩ := h.h4 e
  exact ⟨g, e1, e2, (hb.block g (by rcases Nat.lt_or_ge g W.heap.size with q | q; exact q; rw [Array.getElem?_eq_none q] at e3; cases e3)).trans e3⟩, fun e => by
  obtain ⟨g, e1, e2, e3⟩ := h.h5 e
  exact ⟨g, e1, e2, (hb.block g (by rcases Nat.lt_or_ge g W.heap.size with q | q; exact q; rw [Array.getElem?_eq_none q] at e3; cases e3)).trans e3⟩, h.h6, h.h7, h.h8⟩
end Go.Proofs.YtbiehpjhhopjaaaGreat
