/-
 A region that draws its order, and appends one struct to a row of one's own whose slice lies in a cell: what holds on the way.
-/
import Derived.Test.YtbiehpjhhopjaaaGreatTRwL
set_option linter.unusedVariables false
set_option linter.unusedSimpArgs false
namespace Go.Proofs.YtbiehpjhhopjaaaGreat
open Go.RowKit
theorem wpOp_append_own {ops : Array Oper} {i : Nat} {o : Oper} {a : Act} {w : World} {Q : Exit → Act → World → Prop} {K : Act → World → Prop} (h : ops[i]? = some o) (hgd : o.guard = none) (s x : Operand) (t : TypeId)
  (ho : o.op = .call { callee := .builtin .append, args := #[s, x], argTypes := #[t, t] })
  (v v' : Value) (c : Value) (w' : World) (hs : a.eval s = v) (hx : a.eval x = c) (hr : (Builtin.append_ #[t, t] o.type #[v, c]).run Tryz.prog w = .ok v' w')
  (hK : K (a.put o.dst v') w') : wpOp Tryz.prog ops Q i K a w := by
 unfold wpOp
 rw [h]
 have hw : Region.wanted o (yielded ops a.tmps) = true := by simp [Region.wanted, hgd]
 simp only [hw, if_true]
 refine .inl ?_
 unfold Oper.wp execOp
 simp only [ho, resolve, invoke, builtin, Sem.run_bind, Sem.run_pure, Result.andThen_ok, List.map_toArray, List.map_cons, List.map_nil, hs, hx, hr]
 exact hK
structure RA (W4 V : World) (g : Nat) (J : Value → Array Value) (T : TypeId) (B : Nat) (row : Value) (X : List Ask) (y : Ask) (ib ip is il : Nat) (v : Nat → Value) (f : Nat → Bool) (s : Nat → Value) (W : World) : Prop where
 bel : Below W4.heap.size W4 W
 gr : V.grownBy W (some g)
 val : ∀ i, i ≠ ib → i ≠ ip → f i = true → s i = v i
 o1 : f ip = true → f ib = true
 o2 : f is = true → f ip = true
 o3 : f ip = true → f il = true
 jg : f is = false → W.heap[g]? = some (.cells (J row) T (0, 0))
 b : f ib = true → f ip = false → ∃ k, s ib = .slice (some ⟨k, 0, none⟩) 1 1 ∧ W.heap[k]? = some (.cells (askC y).toArray 281 (0, 0))
 t : f ip = false → AskOwn W B row X
 c : f ip = true → f is = false → ∃ a c, s ip = .slice a (X.length + 1) c ∧ AskOwn W B (.slice a (X.length + 1) c) (X ++ [y])
 d : f is = true → ∃ a c, W.heap[g]? = some (.cells (J (.slice a (X.length + 1) c)) T (0, 0)) ∧ AskOwn W B (.slice a (X.length + 1) c) (X ++ [y])
section
variable {W4 V : World} {g : Nat} {J : Value → Array Value} {T : TypeId} {B : Nat} {row : Value} {X : List Ask} {y : Ask} {ib ip is il : Nat} {v : Nat → Value} {f : Nat → Bool} {s : Nat → Value} {W : World}
theorem RA.start (h1 : Below W4.heap.size W4 W) (h2 : V.grownBy W (some g)) (h3 : W.heap[g]? = some (.cells (J row) T (0, 0))) (h4 : AskOwn W B row X) : RA W4 V g J T B row X y ib ip is il v (fun _ => false) s W :=
 ⟨h1, h2, (fun _ _ _ (h : false = true) => Bool.noConfusion h), (fun (h : false = true) => Bool.noConfusion h), (fun (h : false = true) => Bool.noConfusion h), (fun (h : false = true) => Bool.noConfusion h), fun _ => h3, (fun (h : false = true) => Bool.noConfusion h), fun _ => h4, (fun (h : false = true) => Bool.noConfusion h), (fun (h : false = true) => Bool.noConfusion h)⟩
theorem f_ne {j i : Nat} (h : j ≠ i) : (decide (j = i) || f j) = f j := by rw [decide_eq_false h]; rfl
theorem RA.step (h : RA W4 V g J T B row X y ib ip is il v f s W) (i : Nat) (h1 : i ≠ ib) (h2 : i ≠ ip) (h3 : i ≠ is) : RA W4 V g J T B row X y ib ip is il v (fun j => decide (j = i) || f j) (fun j => if j = i then v i else s j) W := by
 have e1 := f_ne (f := f) (Ne.symm h1)
 have e2 := f_ne (f := f) (Ne.symm h2)
 have e3 := f_ne (f := f) (Ne.symm h3)
 refine ⟨h.bel, h.gr, fun j hj1 hj2 hf => ?_, ?_, ?_, (fun hf => by rw [e2] at hf; rw [h.o3 hf, Bool.or_true]), ?_, ?_, ?_, ?_, ?_⟩
 ·by_cases e : j = i
  ·subst e; exact if_pos rfl
  ·simp only [if_neg e]
   rw [decide_eq_false e, Bool.false_or] at hf
   exact h.val j hj1 hj2 hf
 ·rw [e1, e2]; exact h.o1
 ·rw [e2, e3]; exact h.o2
 ·rw [e3]; exact h.jg
 ·rw [e1, e2]; simp only [if_neg (Ne.symm h1)]; exact h.b
 ·rw [e2]; exact h.t
 ·rw [e2, e3]; simp only [if_neg (Ne.symm h2)]; exact h.c
 ·rw [e3]; exact h.d
theorem RA.build (h : RA W4 V g J T B row X y ib ip is il v f s W) (n1 : ib ≠ ip) (n2 : ib ≠ is) (hun : f ib = false) : RA W4 V g J T B row X y ib ip is il v (fun j => decide (j = ib) || f j) (fun j => if j = ib then .slice (some ⟨W.heap.size, 0, none⟩) 1 1 else s j) (W.alloc (.cells (askC y).toArray 281)) := by
 have e2 := f_ne (f := f) (Ne.symm n1)
 have e3 := f_ne (f := f) (Ne.symm n2)
 have hp : f ip = false := by
  cases k : f ip with
  | false => rfl
  | true => rw [h.o1 k] at hun; cases hun
 have hs : f is = false := by
  cases k : f is with
  | false => rfl
  | true => rw [h.o2 k] at hp; cases hp
 refine ⟨h.bel.alloc h.bel.size _, ⟨h.gr.os, h.gr.tape, h.gr.output, by simp; exact Nat.le_succ_of_le h.gr.size, fun j hj hne => (heap_alloc_old _ _ (Nat.lt_of_lt_of_le hj h.gr.size)).trans (h.gr.block j hj hne)⟩, fun j hj1 hj2 hf => ?_, fun _ => by simp, ?_, (fun hf => by rw [e2, hp] at hf; cases hf), ?_, fun _ _ => ⟨W.heap.size, if_pos rfl, heap_alloc_new _ _⟩, ?_, ?_, ?_⟩
 ·simp only [if_neg hj1]
  rw [decide_eq_false hj1, Bool.false_or] at hf
  exact h.val j hj1 hj2 hf
 ·rw [e2, e3]; exact h.o2
 ·rw [e3]; exact fun k => (heap_alloc_old _ _ (lt_of_block (h.jg k))).trans (h.jg k)
 ·rw [e2]; exact fun k => (show World.ownsRow _ _ _ _ _ _ _ from World.ownsRow.alloc (h.t k) _)
 ·rw [e2, hp]; intro k; cases k
 ·rw [e3, hs]; intro k; cases k
theorem RA.append (h : RA W4 V g J T B row X y ib ip is il v f s W) (n1 : ib ≠ ip) (n2 : ip ≠ is) (hb : f ib = true) (hun : f ip = false) (hg : g < B) (hg2 : W4.heap.size ≤ B) (hV : V.heap.size = B) (hX : X.length ≤ 1000) (hil : f il = true) :
  ∃ k a c w', s ib = .slice (some ⟨k, 0, none⟩) 1 1 ∧ (∀ tt, (Builtin.append_ #[182, 182] tt #[row, .slice (some ⟨k, 0, none⟩) 1 1]).run Tryz.prog W = .ok (.slice a (X.length + 1) c) w') ∧ RA W4 V g J T B row X y ib ip is il v (fun j => decide (j = ip) || f j) (fun j => if j = ip then .slice a (X.length + 1) c else s j) w' := by
 obtain ⟨k, ek, hk⟩ := h.b hb hun
 have hs : f is = false := by
  cases k : f is with
  | false => rfl
  | true => rw [h.o2 k] at hun; cases hun
 obtain ⟨i0, hi, hz0, hz1, hz2⟩ := info_parts info281
 have hT := h.t hun
 have hBW : B ≤ W.heap.size := by rw [← hV]; exact h.gr.size
 have hcells : ∀ j u, (askC y)[j]? = some u → W.cell? ((⟨k, 0, none⟩ : Addr).add j) = some u := fun j u hj => by
  rw [add_lit0, cell_of_row _ _ j _ _ _ hk]
  simpa using hj
 obtain ⟨v', w', hr, r2, r3, -, -⟩ := run_append_own_at (P := Tryz.prog) W B 182 182 281 i0 (.agg #[.int .i64 0, .int .i64 0, .int .i64 0]) 3 24 Tryz.underlying182 hi hz0 hz1 hz2 rfl (by decide) row X.length (X.flatMap askC) hT ⟨k, 0, none⟩ 1 1 (askC y) rfl hcells (one3 _ _ _) (by unfold maxLen; omega) (by omega) hBW
 have hown : AskOwn w' B v' (X ++ [y]) := by
  unfold AskOwn
  rw [List.length_append, List.flatMap_append]
  simpa using r2
 obtain ⟨a, c, rfl⟩ : ∃ a c, v' = .slice a (X.length + 1) c := by
  rcases r2.2 with ⟨_, h0⟩ | ⟨g', cap, cur, rfl, _⟩
  ·omega
  ·exact ⟨_, _, rfl⟩
 have hbb : Below B W w' := grown_below hT (Nat.le_refl _) hBW r3
 have hr' : ∀ tt, (Builtin.append_ #[182, 182] tt #[row, .slice (some ⟨k, 0, none⟩) 1 1]).run Tryz.prog W = .ok (.slice a (X.length + 1) c) w' := fun tt => hr
 have e1 := f_ne (f := f) n1
 have e3 := f_ne (f := f) (Ne.symm n2)
 refine ⟨k, a, c, w', ek, hr', h.bel.trans (hbb.mono hg2), ⟨hbb.os.trans h.gr.os, hbb.tape.trans h.gr.tape, hbb.output.trans h.gr.output, Nat.le_trans h.gr.size hbb.size, fun j hj hne => (hbb.block j (by rw [← hV]; exact hj)).trans (h.gr.block j hj hne)⟩, fun j hj1 hj2 hf => ?_, fun _ => by rw [e1]; exact hb, fun _ => by simp, (fun _ => by rw [hil, Bool.or_true]), ?_, ?_, ?_, fun _ _ => ⟨a, c, if_pos rfl, hown⟩, ?_⟩
 ·simp only [if_neg hj2]
  rw [decide_eq_false hj2, Bool.false_or] at hf
  exact h.val j hj1 hj2 hf
 ·rw [e3]; exact fun k => (hbb.block g hg).trans (h.jg k)
 ·intro _ k; simp at k
 ·intro k; simp at k
 ·rw [e3, hs]; intro k; cases k
theorem RA.store (h : RA W4 V g J T B row X y ib ip is il v f s W) (n1 : ib ≠ is) (n2 : ip ≠ is) (hp : f ip = true) (hun : f is = false) (hg : g < B) (hg4 : W4.heap.size ≤ g) {a : Option Addr} {c : Nat} (ea : s ip = .slice a (X.length + 1) c) (hJ : ∀ r1 r2, (J r1).set! 2 r2 = J r2) :
  RA W4 V g J T B row X y ib ip is il v (fun j => decide (j = is) || f j) (fun j => if j = is then v is else s j) (W.setCell ⟨g, 2, none⟩ (.slice a (X.length + 1) c)) := by
 obtain ⟨a', c', e, hown⟩ := h.c hp hun
 rw [ea] at e
 obtain ⟨rfl, rfl⟩ : a = a' ∧ c = c' := by cases e; exact ⟨rfl, rfl⟩
 have e1 := f_ne (f := f) n1
 have e2 := f_ne (f := f) n2
 have hj := h.jg hun
 refine ⟨h.bel.setCell hg4 _, ⟨h.gr.os, h.gr.tape, h.gr.output, by simp [World.setCell]; exact h.gr.size, fun j hj hne => (Below.heap_setCell _ _ _ j (fun e => hne (by rw [e]))).trans (h.gr.block j hj hne)⟩, fun j hj1 hj2 hf => ?_, ?_, fun _ => by rw [e2]; exact hp, (fun _ => by rw [h.o3 hp, Bool.or_true]), ?_, ?_, ?_, ?_, fun _ => ⟨a, c, ?_, own_setCell hown hg _⟩⟩
 ·by_cases e : j = is
  ·subst e; exact if_pos rfl
  ·simp only [if_neg e]
   rw [decide_eq_false e, Bool.false_or] at hf
   exact h.val j hj1 hj2 hf
 ·rw [e1, e2]; exact h.o1
 ·intro k; simp at k
 ·rw [e2, hp]; intro _ k; cases k
 ·rw [e2, hp]; intro k; cases k
 ·intro _ k; simp at k
 ·have := hJ row (.slice a (X.length + 1) c)
  simp [World.setCell, Array.getElem?_modify, hj]
  simpa using this
end
end Go.Proofs.YtbiehpjhhopjaaaGreat
