/-
 Regions that draw their order and end in one store; two rows of numbers of one's own, apart.
-/
import Derived.Test.YtbiehpjhhopjaaaGreatTRwF
import Derived.Test.YtbiehpjhhopjaaaGreatTConcat
set_option linter.unusedVariables false
set_option linter.unusedSimpArgs false
namespace Go.Proofs.YtbiehpjhhopjaaaGreat
open Go.RowKit
structure RL (w1 : World) (v : Nat → Value) (is n : Nat) (w2 : World) (f : Nat → Bool) (s : Nat → Value) (W : World) : Prop where
 val : ∀ i, f i = true → s i = v i
 ord : f is = true → ∀ j, j < n → f j = true
 wd : W = bif f is then w2 else w1
section
variable {w1 w2 : World} {v : Nat → Value} {is n : Nat} {f : Nat → Bool} {s : Nat → Value} {W : World}
theorem RL.start : RL w1 v is n w2 (fun _ => false) s w1 := ⟨(fun _ (h : false = true) => Bool.noConfusion h), (fun (h : false = true) => Bool.noConfusion h), rfl⟩
theorem RL.same (h : RL w1 v is n w2 f s W) {i : Nat} (hi : i < n) (hun : f i = false) : W = w1 := by
 have hs : f is = false := by
  cases k : f is with
  | false => rfl
  | true => rw [h.ord k i hi] at hun; cases hun
 have := h.wd
 rw [hs] at this
 exact this
theorem RL.same' (h : RL w1 v is n w2 f s W) (hun : f is = false) : W = w1 := by
 have := h.wd
 rw [hun] at this
 exact this
theorem RL.step (h : RL w1 v is n w2 f s w1) (i : Nat) (hi : i < n) (hn : n ≤ is) (hun : f i = false) : RL w1 v is n w2 (fun j => decide (j = i) || f j) (fun j => if j = i then v i else s j) w1 := by
 have hs : f is = false := by
  cases k : f is with
  | false => rfl
  | true => rw [h.ord k i hi] at hun; cases hun
 have e2 : (decide (is = i) || f is) = false := by rw [decide_eq_false (by omega), hs]; rfl
 refine ⟨fun j hf => ?_, fun hf => ?_, ?_⟩
 ·by_cases e : j = i
  ·subst e; exact if_pos rfl
  ·simp only [if_neg e]
   rw [decide_eq_false e, Bool.false_or] at hf
   exact h.val j hf
 ·rw [e2] at hf; cases hf
 ·rw [e2]; rfl
theorem RL.store (h : RL w1 v is n w2 f s w1) (hall : ∀ j, j < n → f j = true) : RL w1 v is n w2 (fun j => decide (j = is) || f j) (fun j => if j = is then v is else s j) w2 := by
 refine ⟨fun j hf => ?_, fun _ j hj => ?_, ?_⟩
 ·by_cases e : j = is
  ·subst e; exact if_pos rfl
  ·simp only [if_neg e]
   rw [decide_eq_false e, Bool.false_or] at hf
   exact h.val j hf
 ·rw [hall j hj, Bool.or_true]
 ·simp
theorem RL.done (h : RL w1 v is n w2 f s W) (hs : f is = true) : W = w2 := by
 have := h.wd
 rw [hs] at this
 exact this
end
structure Two (W : World) (B : Nat) (v1 : Value) (l1 : List Int) (v2 : Value) (l2 : List Int) : Prop where
 a : IntOwn W B v1 l1
 b : IntOwn W B v2 l2
 ap : ∀ k, v1.ownBlock = some k → v2.ownBlock = some k → False
section
variable {W W' : World} {B : Nat} {v1 v2 : Value} {l1 l2 : List Int}
theorem Two.swap (h : Two W B v1 l1 v2 l2) : Two W B v2 l2 v1 l1 := ⟨h.b, h.a, fun k e1 e2 => h.ap k e2 e1⟩
theorem Two.below (h : Two W B v1 l1 v2 l2) (hb : Below W.heap.size W W') : Two W' B v1 l1 v2 l2 := ⟨own_below h.a hb, own_below h.b hb, h.ap⟩
theorem Two.nil (W : World) (B : Nat) : Two W B (.slice none 0 0) [] (.slice none 0 0) [] := ⟨World.ownsRow_nil W B 3 1, World.ownsRow_nil W B 3 1, fun k e => by simp [Value.ownBlock] at e⟩
theorem Two.setRow (h : Two W B v1 l1 v2 l2) {g : Nat} (hg : g < B) (c : Array Value) : Two (W.setRow g c) B v1 l1 v2 l2 := by
 have hb : ∀ k, B ≤ k → (W.setRow g c).heap[k]? = W.heap[k]? := fun k hk => by
  simp only [World.setRow, Array.getElem?_modify]
  rw [if_neg (by omega)]
 have key : ∀ v l, IntOwn W B v l → IntOwn (W.setRow g c) B v l := fun v l h => by
  refine ⟨h.1, ?_⟩
  rcases h.2 with hn | ⟨g', cap, cur, rfl, hbg, hgg, rest⟩
  ·exact .inl hn
  ·exact .inr ⟨g', cap, cur, rfl, hbg, (hb g' hbg).trans hgg, rest⟩
 exact ⟨key _ _ h.a, key _ _ h.b, h.ap⟩
theorem wpList_append_two {ops : Array Oper} {rest : List Oper} {o : Oper} {a : Act} {Q : Exit → Act → World → Prop} (hgd : o.guard = none) (s x : Operand)
  (ho : o.op = .call { callee := .builtin .append, args := #[s, x], argTypes := #[54, 54] }) (B : Nat) (v1 : Value) (l1 : List Int) (v2 : Value) (l2 : List Int) (hT : Two W B v1 l1 v2 l2) (n : Int) (hs : a.eval s = v1)
  (hx : a.eval x = .slice (some ⟨W.heap.size, 0, none⟩) 1 1) (hn : l1.length ≤ 1000) (hB : B ≤ W.heap.size)
  (h : ∀ a' c' w', Two w' B (.slice a' (l1.length + 1) c') (l1 ++ [n]) v2 l2 → Below B W w' → wpList Tryz.prog ops Q rest (a.put o.dst (.slice a' (l1.length + 1) c')) w') :
  wpList Tryz.prog ops Q (o :: rest) a (W.alloc (.cells #[.int .i64 n] 3)) := by
 obtain ⟨i0, hi, hz0, hz1, hz2⟩ := info_parts info3
 refine wpList_append_own_at _ hgd s x 54 ho B 3 i0 (.int .i64 0) 1 8 Tryz.underlying54 hi hz0 hz1 hz2 rfl (by decide) v1 l1.length (l1.map (.int .i64)) hs (hT.a.alloc _) ⟨W.heap.size, 0, none⟩ 1 1 [.int .i64 n] hx rfl (Go.cell_one_new W _ 3) (by intro u hu; simp at hu; subst hu; rfl) (by unfold maxLen; omega) (by omega) (by simp; omega) ?_
 intro v' w' h1 h2 _ h4
 have hb : Below B (W.alloc (.cells #[.int .i64 n] 3)) w' := grown_below (hT.a.alloc _) (Nat.le_refl _) (by simp; omega) h2
 have h1' : IntOwn w' B v' (l1 ++ [n]) := by
  unfold IntOwn
  rw [List.length_append, List.map_append]
  exact h1
 obtain ⟨a', c', rfl⟩ := h1'.slice
 have hlt : ∀ k, v2.ownBlock = some k → k < W.heap.size := fun k hk => by
  obtain ⟨c, hc, _⟩ := own_block hT.b hk
  exact lt_of_block hc
 have h2b : IntOwn w' B v2 l2 := (World.ownsRow.kept (hT.b.alloc _) h2 (by
  cases e : v2.ownBlock with
  | none => exact .inl rfl
  | some k => exact .inr (fun e' => hT.ap k e'.symm e)))
 rw [List.length_append, List.length_singleton] at h1' h4 ⊢
 refine h a' c' w' ⟨h1', h2b, fun k e1 e2 => ?_⟩ (((Below.refl B W).alloc hB _).trans hb)
 rcases h4 with h4 | h4
 ·rw [h4] at e1
  exact hT.ap k e1 e2
 ·rw [h4] at e1
  cases e1
  exact absurd (hlt _ e2) (by simp)
end
end Go.Proofs.YtbiehpjhhopjaaaGreat
