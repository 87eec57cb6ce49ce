/-
  The small station of the law, walked.
-/
import Derived.Test.YtbiehpjhhopjaaaGreatMem
set_option linter.unusedVariables false
set_option linter.unusedSimpArgs false
namespace Go.Proofs.YtbiehpjhhopjaaaGreat
open Go.RowKit
def stn : Pl := ⟨1, 0, [⟨1, 0, [⟨0, 0⟩, ⟨2, 0⟩]⟩, ⟨2, 2, [⟨1, 1⟩, ⟨3, 0⟩, ⟨4, 0⟩]⟩, ⟨3, 0, [⟨2, 1⟩, ⟨5, 1⟩]⟩, ⟨4, 0, [⟨2, 2⟩, ⟨5, 2⟩]⟩, ⟨5, 5, [⟨6, 0⟩, ⟨3, 1⟩, ⟨4, 1⟩]⟩, ⟨6, 0, [⟨5, 0⟩, ⟨0, 0⟩]⟩], [⟨2, 2⟩, ⟨5, 5⟩], [⟨1, 1, 1⟩, ⟨3, 3, 1⟩, ⟨4, 4, 1⟩, ⟨6, 6, 0⟩], [⟨1, 1, 3, [2, 3], [5], [], 2⟩, ⟨3, 3, 0, [5, 6], [], [], 1⟩, ⟨6, 6, 0, [5, 4, 2, 1], [], [], 1⟩]⟩
/-- some blocks, one behind the other -/
def lay (w : World) (l : List Obj) : World := l.foldl World.alloc w
theorem lay_size (w : World) : ∀ l : List Obj, (lay w l).heap.size = w.heap.size + l.length
  | [] => rfl
  | o :: l => by
    show (lay (w.alloc o) l).heap.size = _
    rw [lay_size (w.alloc o) l]
    simp
    omega
theorem lay_old (w : World) : ∀ (l : List Obj) (k : Nat), k < w.heap.size → (lay w l).heap[k]? = w.heap[k]?
  | [], _, _ => rfl
  | o :: l, k, h => by
    show (lay (w.alloc o) l).heap[k]? = _
    rw [lay_old (w.alloc o) l k (by simp; omega)]
    exact heap_alloc_old w o h
theorem lay_get (w : World) : ∀ (l : List Obj) (k : Nat), (lay w l).heap[w.heap.size + k]? = l[k]?
  | [], k => by
    show w.heap[w.heap.size + k]? = none
    simp
  | o :: l, 0 => by
    show (lay (w.alloc o) l).heap[w.heap.size + 0]? = some o
    rw [lay_old (w.alloc o) l _ (by simp)]
    exact heap_alloc_new w o
  | o :: l, k + 1 => by
    show (lay (w.alloc o) l).heap[w.heap.size + (k + 1)]? = l[k]?
    have := lay_get (w.alloc o) l k
    rw [show (w.alloc o).heap.size = w.heap.size + 1 by simp] at this
    rw [show w.heap.size + (k + 1) = w.heap.size + 1 + k by omega]
    exact this
theorem lay_below (w : World) : ∀ (l : List Obj) (B : Nat), B ≤ w.heap.size → Below B w (lay w l)
  | [], B, _ => Below.refl _ _
  | o :: l, B, h => ((Below.refl B w).alloc h o).trans (lay_below (w.alloc o) l B (by simp; omega))
theorem SlA.mk_row {α : Type} {W : World} {g : Nat} {cs : Array Value} {T : TypeId} {fr : Nat × Nat} {sz : Nat} {R : World → List Value → α → Prop} {cap : Nat} {l : List α} (h : W.heap[g]? = some (.cells cs T fr)) (hle : l.length ≤ cap)
    (hR : ∀ i (hi : i < l.length), ∃ vs : List Value, vs.length = sz ∧ (∀ j (hj : j < vs.length), cs[i * sz + j]? = some vs[j]) ∧ R W vs l[i]) : SlA W sz R (some ⟨g, 0, none⟩) cap l :=
  ⟨hle, (fun h => nomatch h), fun i hi => by
    obtain ⟨vs, h1, h2, h3⟩ := hR i hi
    refine ⟨g, 0, vs, rfl, h1, fun j hj => ?_, h3⟩
    rw [Nat.zero_add]
    exact (cell_of_row W g _ cs _ _ h).trans (h2 j hj)⟩
theorem IL.mk_row {W : World} {g : Nat} {cs : Array Value} {T : TypeId} {fr : Nat × Nat} {l : List Int} (h : W.heap[g]? = some (.cells cs T fr)) (hc : cs = (l.map (Value.int .i64)).toArray) : IL W (some ⟨g, 0, none⟩) l.length l :=
  ⟨rfl, fun i hi => ⟨g, 0, rfl, by
    rw [Nat.zero_add]
    refine (cell_of_row W g _ cs _ _ h).trans ?_
    subst hc
    simp [hi]⟩⟩
/-- where the station's parts lie -/
def stnAt (w : World) : List Obj := [.cells #[.int .i64 1, .int .i64 0, .slice (some ⟨w.heap.size + 1 + 1 + 1 + 1 + 1 + 1 + 1, 0, none⟩) 6 6, .slice (some ⟨w.heap.size + 1 + 1 + 1 + 1 + 1 + 1 + 1 + 1, 0, none⟩) 2 2, .slice (some ⟨w.heap.size + 1 + 1 + 1 + 1 + 1 + 1 + 1 + 1 + 1, 0, none⟩) 4 4, .slice (some ⟨w.heap.size + 1 + 1 + 1 + 1 + 1 + 1 + 1 + 1 + 1 + 1 + 1 + 1 + 1 + 1, 0, none⟩) 3 3] 28, .cells #[.int .i64 0, .int .i64 0, .int .i64 2, .int .i64 0] 133, .cells #[.int .i64 1, .int .i64 1, .int .i64 3, .int .i64 0, .int .i64 4, .int .i64 0] 133, .cells #[.int .i64 2, .int .i64 1, .int .i64 5, .int .i64 1] 133, .cells #[.int .i64 2, .int .i64 2, .int .i64 5, .int .i64 2] 133, .cells #[.int .i64 6, .int .i64 0, .int .i64 3, .int .i64 1, .int .i64 4, .int .i64 1] 133, .cells #[.int .i64 5, .int .i64 0, .int .i64 0, .int .i64 0] 133, .cells #[.int .i64 1, .int .i64 0, .slice (some ⟨w.heap.size + 1, 0, none⟩) 2 2, .int .i64 2, .int .i64 2, .slice (some ⟨w.heap.size + 1 + 1, 0, none⟩) 3 3, .int .i64 3, .int .i64 0, .slice (some ⟨w.heap.size + 1 + 1 + 1, 0, none⟩) 2 2, .int .i64 4, .int .i64 0, .slice (some ⟨w.heap.size + 1 + 1 + 1 + 1, 0, none⟩) 2 2, .int .i64 5, .int .i64 5, .slice (some ⟨w.heap.size + 1 + 1 + 1 + 1 + 1, 0, none⟩) 3 3, .int .i64 6, .int .i64 0, .slice (some ⟨w.heap.size + 1 + 1 + 1 + 1 + 1 + 1, 0, none⟩) 2 2] 80, .cells #[.int .i64 2, .int .i64 2, .int .i64 5, .int .i64 5] 143, .cells #[.int .i64 1, .int .i64 1, .int .i64 1, .int .i64 3, .int .i64 3, .int .i64 1, .int .i64 4, .int .i64 4, .int .i64 1, .int .i64 6, .int .i64 6, .int .i64 0] 145, .cells #[.int .i64 2, .int .i64 3] 3, .cells #[.int .i64 5] 3, .cells #[.int .i64 5, .int .i64 6] 3, .cells #[.int .i64 5, .int .i64 4, .int .i64 2, .int .i64 1] 3, .cells #[.int .i64 1, .int .i64 1, .int .i64 3, .slice (some ⟨w.heap.size + 1 + 1 + 1 + 1 + 1 + 1 + 1 + 1 + 1 + 1, 0, none⟩) 2 2, .slice (some ⟨w.heap.size + 1 + 1 + 1 + 1 + 1 + 1 + 1 + 1 + 1 + 1 + 1, 0, none⟩) 1 1, .slice none 0 0, .int .i64 2, .int .i64 3, .int .i64 3, .int .i64 0, .slice (some ⟨w.heap.size + 1 + 1 + 1 + 1 + 1 + 1 + 1 + 1 + 1 + 1 + 1 + 1, 0, none⟩) 2 2, .slice none 0 0, .slice none 0 0, .int .i64 1, .int .i64 6, .int .i64 6, .int .i64 0, .slice (some ⟨w.heap.size + 1 + 1 + 1 + 1 + 1 + 1 + 1 + 1 + 1 + 1 + 1 + 1 + 1, 0, none⟩) 4 4, .slice none 0 0, .slice none 0 0, .int .i64 1] 102]
set_option maxRecDepth 100000 in
theorem stn_mem (w W : World) (hW : W = lay w (stnAt w)) : PlM W (.slice (some ⟨w.heap.size + 1 + 1 + 1 + 1 + 1 + 1 + 1, 0, none⟩) 6 6) (.slice (some ⟨w.heap.size + 1 + 1 + 1 + 1 + 1 + 1 + 1 + 1, 0, none⟩) 2 2) (.slice (some ⟨w.heap.size + 1 + 1 + 1 + 1 + 1 + 1 + 1 + 1 + 1, 0, none⟩) 4 4) (.slice (some ⟨w.heap.size + 1 + 1 + 1 + 1 + 1 + 1 + 1 + 1 + 1 + 1 + 1 + 1 + 1 + 1, 0, none⟩) 3 3) stn := by
  have h0 : W.heap[w.heap.size]? = some (.cells #[.int .i64 1, .int .i64 0, .slice (some ⟨w.heap.size + 1 + 1 + 1 + 1 + 1 + 1 + 1, 0, none⟩) 6 6, .slice (some ⟨w.heap.size + 1 + 1 + 1 + 1 + 1 + 1 + 1 + 1, 0, none⟩) 2 2, .slice (some ⟨w.heap.size + 1 + 1 + 1 + 1 + 1 + 1 + 1 + 1 + 1, 0, none⟩) 4 4, .slice (some ⟨w.heap.size + 1 + 1 + 1 + 1 + 1 + 1 + 1 + 1 + 1 + 1 + 1 + 1 + 1 + 1, 0, none⟩) 3 3] 28 (0, 0)) := by subst hW; exact lay_get w (stnAt w) 0
  have h1 : W.heap[w.heap.size + 1]? = some (.cells #[.int .i64 0, .int .i64 0, .int .i64 2, .int .i64 0] 133 (0, 0)) := by subst hW; exact lay_get w (stnAt w) 1
  have h2 : W.heap[w.heap.size + 1 + 1]? = some (.cells #[.int .i64 1, .int .i64 1, .int .i64 3, .int .i64 0, .int .i64 4, .int .i64 0] 133 (0, 0)) := by subst hW; exact lay_get w (stnAt w) 2
  have h3 : W.heap[w.heap.size + 1 + 1 + 1]? = some (.cells #[.int .i64 2, .int .i64 1, .int .i64 5, .int .i64 1] 133 (0, 0)) := by subst hW; exact lay_get w (stnAt w) 3
  have h4 : W.heap[w.heap.size + 1 + 1 + 1 + 1]? = some (.cells #[.int .i64 2, .int .i64 2, .int .i64 5, .int .i64 2] 133 (0, 0)) := by subst hW; exact lay_get w (stnAt w) 4
  have h5 : W.heap[w.heap.size + 1 + 1 + 1 + 1 + 1]? = some (.cells #[.int .i64 6, .int .i64 0, .int .i64 3, .int .i64 1, .int .i64 4, .int .i64 1] 133 (0, 0)) := by subst hW; exact lay_get w (stnAt w) 5
  have h6 : W.heap[w.heap.size + 1 + 1 + 1 + 1 + 1 + 1]? = some (.cells #[.int .i64 5, .int .i64 0, .int .i64 0, .int .i64 0] 133 (0, 0)) := by subst hW; exact lay_get w (stnAt w) 6
  have h7 : W.heap[w.heap.size + 1 + 1 + 1 + 1 + 1 + 1 + 1]? = some (.cells #[.int .i64 1, .int .i64 0, .slice (some ⟨w.heap.size + 1, 0, none⟩) 2 2, .int .i64 2, .int .i64 2, .slice (some ⟨w.heap.size + 1 + 1, 0, none⟩) 3 3, .int .i64 3, .int .i64 0, .slice (some ⟨w.heap.size + 1 + 1 + 1, 0, none⟩) 2 2, .int .i64 4, .int .i64 0, .slice (some ⟨w.heap.size + 1 + 1 + 1 + 1, 0, none⟩) 2 2, .int .i64 5, .int .i64 5, .slice (some ⟨w.heap.size + 1 + 1 + 1 + 1 + 1, 0, none⟩) 3 3, .int .i64 6, .int .i64 0, .slice (some ⟨w.heap.size + 1 + 1 + 1 + 1 + 1 + 1, 0, none⟩) 2 2] 80 (0, 0)) := by subst hW; exact lay_get w (stnAt w) 7
  have h8 : W.heap[w.heap.size + 1 + 1 + 1 + 1 + 1 + 1 + 1 + 1]? = some (.cells #[.int .i64 2, .int .i64 2, .int .i64 5, .int .i64 5] 143 (0, 0)) := by subst hW; exact lay_get w (stnAt w) 8
  have h9 : W.heap[w.heap.size + 1 + 1 + 1 + 1 + 1 + 1 + 1 + 1 + 1]? = some (.cells #[.int .i64 1, .int .i64 1, .int .i64 1, .int .i64 3, .int .i64 3, .int .i64 1, .int .i64 4, .int .i64 4, .int .i64 1, .int .i64 6, .int .i64 6, .int .i64 0] 145 (0, 0)) := by subst hW; exact lay_get w (stnAt w) 9
  have h10 : W.heap[w.heap.size + 1 + 1 + 1 + 1 + 1 + 1 + 1 + 1 + 1 + 1]? = some (.cells #[.int .i64 2, .int .i64 3] 3 (0, 0)) := by subst hW; exact lay_get w (stnAt w) 10
  have h11 : W.heap[w.heap.size + 1 + 1 + 1 + 1 + 1 + 1 + 1 + 1 + 1 + 1 + 1]? = some (.cells #[.int .i64 5] 3 (0, 0)) := by subst hW; exact lay_get w (stnAt w) 11
  have h12 : W.heap[w.heap.size + 1 + 1 + 1 + 1 + 1 + 1 + 1 + 1 + 1 + 1 + 1 + 1]? = some (.cells #[.int .i64 5, .int .i64 6] 3 (0, 0)) := by subst hW; exact lay_get w (stnAt w) 12
  have h13 : W.heap[w.heap.size + 1 + 1 + 1 + 1 + 1 + 1 + 1 + 1 + 1 + 1 + 1 + 1 + 1]? = some (.cells #[.int .i64 5, .int .i64 4, .int .i64 2, .int .i64 1] 3 (0, 0)) := by subst hW; exact lay_get w (stnAt w) 13
  have h14 : W.heap[w.heap.size + 1 + 1 + 1 + 1 + 1 + 1 + 1 + 1 + 1 + 1 + 1 + 1 + 1 + 1]? = some (.cells #[.int .i64 1, .int .i64 1, .int .i64 3, .slice (some ⟨w.heap.size + 1 + 1 + 1 + 1 + 1 + 1 + 1 + 1 + 1 + 1, 0, none⟩) 2 2, .slice (some ⟨w.heap.size + 1 + 1 + 1 + 1 + 1 + 1 + 1 + 1 + 1 + 1 + 1, 0, none⟩) 1 1, .slice none 0 0, .int .i64 2, .int .i64 3, .int .i64 3, .int .i64 0, .slice (some ⟨w.heap.size + 1 + 1 + 1 + 1 + 1 + 1 + 1 + 1 + 1 + 1 + 1 + 1, 0, none⟩) 2 2, .slice none 0 0, .slice none 0 0, .int .i64 1, .int .i64 6, .int .i64 6, .int .i64 0, .slice (some ⟨w.heap.size + 1 + 1 + 1 + 1 + 1 + 1 + 1 + 1 + 1 + 1 + 1 + 1 + 1, 0, none⟩) 4 4, .slice none 0 0, .slice none 0 0, .int .i64 1] 102 (0, 0)) := by subst hW; exact lay_get w (stnAt w) 14
  have e0 : Jns W (.slice (some ⟨w.heap.size + 1, 0, none⟩) 2 2) [⟨0, 0⟩, ⟨2, 0⟩] := ⟨_, _, rfl, SlA.mk_row h1 (by decide) (fun i hi => by
    rcases i with _ | _ | i
    · exact ⟨[.int .i64 0, .int .i64 0], rfl, (fun j hj => by rcases j with _ | _ | j <;> first | rfl | exact absurd hj (by show ¬ (_ < 2); omega)), rfl⟩
    · exact ⟨[.int .i64 2, .int .i64 0], rfl, (fun j hj => by rcases j with _ | _ | j <;> first | rfl | exact absurd hj (by show ¬ (_ < 2); omega)), rfl⟩
    · exact absurd hi (by simp))⟩
  have e1 : Jns W (.slice (some ⟨w.heap.size + 1 + 1, 0, none⟩) 3 3) [⟨1, 1⟩, ⟨3, 0⟩, ⟨4, 0⟩] := ⟨_, _, rfl, SlA.mk_row h2 (by decide) (fun i hi => by
    rcases i with _ | _ | _ | i
    · exact ⟨[.int .i64 1, .int .i64 1], rfl, (fun j hj => by rcases j with _ | _ | j <;> first | rfl | exact absurd hj (by show ¬ (_ < 2); omega)), rfl⟩
    · exact ⟨[.int .i64 3, .int .i64 0], rfl, (fun j hj => by rcases j with _ | _ | j <;> first | rfl | exact absurd hj (by show ¬ (_ < 2); omega)), rfl⟩
    · exact ⟨[.int .i64 4, .int .i64 0], rfl, (fun j hj => by rcases j with _ | _ | j <;> first | rfl | exact absurd hj (by show ¬ (_ < 2); omega)), rfl⟩
    · exact absurd hi (by simp))⟩
  have e2 : Jns W (.slice (some ⟨w.heap.size + 1 + 1 + 1, 0, none⟩) 2 2) [⟨2, 1⟩, ⟨5, 1⟩] := ⟨_, _, rfl, SlA.mk_row h3 (by decide) (fun i hi => by
    rcases i with _ | _ | i
    · exact ⟨[.int .i64 2, .int .i64 1], rfl, (fun j hj => by rcases j with _ | _ | j <;> first | rfl | exact absurd hj (by show ¬ (_ < 2); omega)), rfl⟩
    · exact ⟨[.int .i64 5, .int .i64 1], rfl, (fun j hj => by rcases j with _ | _ | j <;> first | rfl | exact absurd hj (by show ¬ (_ < 2); omega)), rfl⟩
    · exact absurd hi (by simp))⟩
  have e3 : Jns W (.slice (some ⟨w.heap.size + 1 + 1 + 1 + 1, 0, none⟩) 2 2) [⟨2, 2⟩, ⟨5, 2⟩] := ⟨_, _, rfl, SlA.mk_row h4 (by decide) (fun i hi => by
    rcases i with _ | _ | i
    · exact ⟨[.int .i64 2, .int .i64 2], rfl, (fun j hj => by rcases j with _ | _ | j <;> first | rfl | exact absurd hj (by show ¬ (_ < 2); omega)), rfl⟩
    · exact ⟨[.int .i64 5, .int .i64 2], rfl, (fun j hj => by rcases j with _ | _ | j <;> first | rfl | exact absurd hj (by show ¬ (_ < 2); omega)), rfl⟩
    · exact absurd hi (by simp))⟩
  have e4 : Jns W (.slice (some ⟨w.heap.size + 1 + 1 + 1 + 1 + 1, 0, none⟩) 3 3) [⟨6, 0⟩, ⟨3, 1⟩, ⟨4, 1⟩] := ⟨_, _, rfl, SlA.mk_row h5 (by decide) (fun i hi => by
    rcases i with _ | _ | _ | i
    · exact ⟨[.int .i64 6, .int .i64 0], rfl, (fun j hj => by rcases j with _ | _ | j <;> first | rfl | exact absurd hj (by show ¬ (_ < 2); omega)), rfl⟩
    · exact ⟨[.int .i64 3, .int .i64 1], rfl, (fun j hj => by rcases j with _ | _ | j <;> first | rfl | exact absurd hj (by show ¬ (_ < 2); omega)), rfl⟩
    · exact ⟨[.int .i64 4, .int .i64 1], rfl, (fun j hj => by rcases j with _ | _ | j <;> first | rfl | exact absurd hj (by show ¬ (_ < 2); omega)), rfl⟩
    · exact absurd hi (by simp))⟩
  have e5 : Jns W (.slice (some ⟨w.heap.size + 1 + 1 + 1 + 1 + 1 + 1, 0, none⟩) 2 2) [⟨5, 0⟩, ⟨0, 0⟩] := ⟨_, _, rfl, SlA.mk_row h6 (by decide) (fun i hi => by
    rcases i with _ | _ | i
    · exact ⟨[.int .i64 5, .int .i64 0], rfl, (fun j hj => by rcases j with _ | _ | j <;> first | rfl | exact absurd hj (by show ¬ (_ < 2); omega)), rfl⟩
    · exact ⟨[.int .i64 0, .int .i64 0], rfl, (fun j hj => by rcases j with _ | _ | j <;> first | rfl | exact absurd hj (by show ¬ (_ < 2); omega)), rfl⟩
    · exact absurd hi (by simp))⟩
  refine ⟨⟨_, _, rfl, SlA.mk_row h7 (by decide) (fun i hi => ?_)⟩, ⟨_, _, rfl, SlA.mk_row h8 (by decide) (fun i hi => ?_)⟩, ⟨_, _, rfl, SlA.mk_row h9 (by decide) (fun i hi => ?_)⟩, ⟨_, _, rfl, SlA.mk_row h14 (by decide) (fun i hi => ?_)⟩⟩
  · rcases i with _ | _ | _ | _ | _ | _ | i
    · exact ⟨[.int .i64 1, .int .i64 0, .slice (some ⟨w.heap.size + 1, 0, none⟩) 2 2], rfl, (fun j hj => by rcases j with _ | _ | _ | j <;> first | rfl | exact absurd hj (by show ¬ (_ < 3); omega)), _, rfl, e0⟩
    · exact ⟨[.int .i64 2, .int .i64 2, .slice (some ⟨w.heap.size + 1 + 1, 0, none⟩) 3 3], rfl, (fun j hj => by rcases j with _ | _ | _ | j <;> first | rfl | exact absurd hj (by show ¬ (_ < 3); omega)), _, rfl, e1⟩
    · exact ⟨[.int .i64 3, .int .i64 0, .slice (some ⟨w.heap.size + 1 + 1 + 1, 0, none⟩) 2 2], rfl, (fun j hj => by rcases j with _ | _ | _ | j <;> first | rfl | exact absurd hj (by show ¬ (_ < 3); omega)), _, rfl, e2⟩
    · exact ⟨[.int .i64 4, .int .i64 0, .slice (some ⟨w.heap.size + 1 + 1 + 1 + 1, 0, none⟩) 2 2], rfl, (fun j hj => by rcases j with _ | _ | _ | j <;> first | rfl | exact absurd hj (by show ¬ (_ < 3); omega)), _, rfl, e3⟩
    · exact ⟨[.int .i64 5, .int .i64 5, .slice (some ⟨w.heap.size + 1 + 1 + 1 + 1 + 1, 0, none⟩) 3 3], rfl, (fun j hj => by rcases j with _ | _ | _ | j <;> first | rfl | exact absurd hj (by show ¬ (_ < 3); omega)), _, rfl, e4⟩
    · exact ⟨[.int .i64 6, .int .i64 0, .slice (some ⟨w.heap.size + 1 + 1 + 1 + 1 + 1 + 1, 0, none⟩) 2 2], rfl, (fun j hj => by rcases j with _ | _ | _ | j <;> first | rfl | exact absurd hj (by show ¬ (_ < 3); omega)), _, rfl, e5⟩
    · exact absurd hi (by simp [stn])
  · rcases i with _ | _ | i
    · exact ⟨[.int .i64 2, .int .i64 2], rfl, (fun j hj => by rcases j with _ | _ | j <;> first | rfl | exact absurd hj (by show ¬ (_ < 2); omega)), rfl⟩
    · exact ⟨[.int .i64 5, .int .i64 5], rfl, (fun j hj => by rcases j with _ | _ | j <;> first | rfl | exact absurd hj (by show ¬ (_ < 2); omega)), rfl⟩
    · exact absurd hi (by simp [stn])
  · rcases i with _ | _ | _ | _ | i
    · exact ⟨[.int .i64 1, .int .i64 1, .int .i64 1], rfl, (fun j hj => by rcases j with _ | _ | _ | j <;> first | rfl | exact absurd hj (by show ¬ (_ < 3); omega)), rfl⟩
    · exact ⟨[.int .i64 3, .int .i64 3, .int .i64 1], rfl, (fun j hj => by rcases j with _ | _ | _ | j <;> first | rfl | exact absurd hj (by show ¬ (_ < 3); omega)), rfl⟩
    · exact ⟨[.int .i64 4, .int .i64 4, .int .i64 1], rfl, (fun j hj => by rcases j with _ | _ | _ | j <;> first | rfl | exact absurd hj (by show ¬ (_ < 3); omega)), rfl⟩
    · exact ⟨[.int .i64 6, .int .i64 6, .int .i64 0], rfl, (fun j hj => by rcases j with _ | _ | _ | j <;> first | rfl | exact absurd hj (by show ¬ (_ < 3); omega)), rfl⟩
    · exact absurd hi (by simp [stn])
  · rcases i with _ | _ | _ | i
    · exact ⟨[.int .i64 1, .int .i64 1, .int .i64 3, .slice (some ⟨w.heap.size + 1 + 1 + 1 + 1 + 1 + 1 + 1 + 1 + 1 + 1, 0, none⟩) 2 2, .slice (some ⟨w.heap.size + 1 + 1 + 1 + 1 + 1 + 1 + 1 + 1 + 1 + 1 + 1, 0, none⟩) 1 1, .slice none 0 0, .int .i64 2], rfl, (fun j hj => by rcases j with _ | _ | _ | _ | _ | _ | _ | j <;> first | rfl | exact absurd hj (by show ¬ (_ < 7); omega)), _, _, _, rfl, ⟨⟨_, _, _, rfl, IL.mk_row (l := [2, 3]) h10 rfl⟩, ⟨_, _, _, rfl, IL.mk_row (l := [5]) h11 rfl⟩, Sl.nil _ _ _⟩⟩
    · exact ⟨[.int .i64 3, .int .i64 3, .int .i64 0, .slice (some ⟨w.heap.size + 1 + 1 + 1 + 1 + 1 + 1 + 1 + 1 + 1 + 1 + 1 + 1, 0, none⟩) 2 2, .slice none 0 0, .slice none 0 0, .int .i64 1], rfl, (fun j hj => by rcases j with _ | _ | _ | _ | _ | _ | _ | j <;> first | rfl | exact absurd hj (by show ¬ (_ < 7); omega)), _, _, _, rfl, ⟨⟨_, _, _, rfl, IL.mk_row (l := [5, 6]) h12 rfl⟩, ILv.nil _, Sl.nil _ _ _⟩⟩
    · exact ⟨[.int .i64 6, .int .i64 6, .int .i64 0, .slice (some ⟨w.heap.size + 1 + 1 + 1 + 1 + 1 + 1 + 1 + 1 + 1 + 1 + 1 + 1 + 1, 0, none⟩) 4 4, .slice none 0 0, .slice none 0 0, .int .i64 1], rfl, (fun j hj => by rcases j with _ | _ | _ | _ | _ | _ | _ | j <;> first | rfl | exact absurd hj (by show ¬ (_ < 7); omega)), _, _, _, rfl, ⟨⟨_, _, _, rfl, IL.mk_row (l := [5, 4, 2, 1]) h13 rfl⟩, ILv.nil _, Sl.nil _ _ _⟩⟩
    · exact absurd hi (by simp [stn])
set_option maxRecDepth 100000 in
set_option maxHeartbeats 8000000 in
theorem station_any (w : World) : Calls Tryz.prog 42 #[] w fun e w' => ∃ s q gg rr, e = .returned (plV stn s q gg rr) ∧ PlM w' s q gg rr stn ∧ Below w.heap.size w w' := by
  go_enter Tryz.func42, Tryz.ntmps42
  go_wp2_with fail
  have HW : ∃ W, W = lay w (stnAt w) := ⟨_, rfl⟩
  obtain ⟨W, hW⟩ := HW
  have HP := stn_mem w W hW
  have HB : Below w.heap.size w W := by rw [hW]; exact lay_below w _ _ (Nat.le_refl _)
  have h0 : W.heap[w.heap.size]? = some (.cells #[.int .i64 1, .int .i64 0, .slice (some ⟨w.heap.size + 1 + 1 + 1 + 1 + 1 + 1 + 1, 0, none⟩) 6 6, .slice (some ⟨w.heap.size + 1 + 1 + 1 + 1 + 1 + 1 + 1 + 1, 0, none⟩) 2 2, .slice (some ⟨w.heap.size + 1 + 1 + 1 + 1 + 1 + 1 + 1 + 1 + 1, 0, none⟩) 4 4, .slice (some ⟨w.heap.size + 1 + 1 + 1 + 1 + 1 + 1 + 1 + 1 + 1 + 1 + 1 + 1 + 1 + 1, 0, none⟩) 3 3] 28 (0, 0)) := by subst hW; exact lay_get w (stnAt w) 0
  change bodyPost _ _ _ _ _ (lay w (stnAt w))
  rw [← hW]
  have c0 : W.cell? ⟨w.heap.size, 0, none⟩ = some (.int .i64 1) := (cell_of_row W _ 0 _ _ _ h0).trans rfl
  have c1 : W.cell? ⟨w.heap.size, 1, none⟩ = some (.int .i64 0) := (cell_of_row W _ 1 _ _ _ h0).trans rfl
  have c2 : W.cell? ⟨w.heap.size, 2, none⟩ = some (.slice (some ⟨w.heap.size + 1 + 1 + 1 + 1 + 1 + 1 + 1, 0, none⟩) 6 6) := (cell_of_row W _ 2 _ _ _ h0).trans rfl
  have c3 : W.cell? ⟨w.heap.size, 3, none⟩ = some (.slice (some ⟨w.heap.size + 1 + 1 + 1 + 1 + 1 + 1 + 1 + 1, 0, none⟩) 2 2) := (cell_of_row W _ 3 _ _ _ h0).trans rfl
  have c4 : W.cell? ⟨w.heap.size, 4, none⟩ = some (.slice (some ⟨w.heap.size + 1 + 1 + 1 + 1 + 1 + 1 + 1 + 1 + 1, 0, none⟩) 4 4) := (cell_of_row W _ 4 _ _ _ h0).trans rfl
  have c5 : W.cell? ⟨w.heap.size, 5, none⟩ = some (.slice (some ⟨w.heap.size + 1 + 1 + 1 + 1 + 1 + 1 + 1 + 1 + 1 + 1 + 1 + 1 + 1 + 1, 0, none⟩) 3 3) := (cell_of_row W _ 5 _ _ _ h0).trans rfl
  clear hW h0
  exact bodyPost_ret (v := .agg #[.int .i64 1, .int .i64 0, .slice (some ⟨w.heap.size + 1 + 1 + 1 + 1 + 1 + 1 + 1, 0, none⟩) 6 6, .slice (some ⟨w.heap.size + 1 + 1 + 1 + 1 + 1 + 1 + 1 + 1, 0, none⟩) 2 2, .slice (some ⟨w.heap.size + 1 + 1 + 1 + 1 + 1 + 1 + 1 + 1 + 1, 0, none⟩) 4 4, .slice (some ⟨w.heap.size + 1 + 1 + 1 + 1 + 1 + 1 + 1 + 1 + 1 + 1 + 1 + 1 + 1 + 1, 0, none⟩) 3 3]) (by simp [results, Tryz.f42, go_sem, c0, c1, c2, c3, c4, c5]) rfl ⟨_, _, _, _, rfl, HP, HB⟩
end Go.Proofs.YtbiehpjhhopjaaaGreat
