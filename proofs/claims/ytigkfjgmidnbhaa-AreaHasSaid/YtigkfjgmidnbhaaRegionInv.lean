/-
  A region that draws its order, shown by an invariant: each operation once, whatever has come up ahead of it.
-/
import Derived.Still
set_option linter.unusedVariables false
namespace Go.Proofs.Ytigkfjgmidnbhaa
section
variable {P : Program} {ops : Array Oper} {Q : Exit → Act → World → Prop}
/-- how many have not come up -/
def left' (n : Nat) (listed : Array Bool) : Nat := (List.range n).countP fun j => listed.getD j true = false
theorem countP_lt {l : List Nat} {p q : Nat → Bool} (h : ∀ x, q x = true → p x = true) {i : Nat} (hi : i ∈ l) (hn : l.Nodup) (hp : p i = true) (hq : q i = false) (he : ∀ x, x ≠ i → q x = p x) : l.countP p = l.countP q + 1 := by
  induction l with
  | nil => cases hi
  | cons x l ih =>
    rw [List.countP_cons, List.countP_cons]
    have hn' := List.nodup_cons.1 hn
    rcases List.mem_cons.1 hi with rfl | hi
    · rw [if_pos hp, if_neg (by simp [hq])]
      have : l.countP p = l.countP q := List.countP_congr fun y hy => by rw [he y (fun e => hn'.1 (e ▸ hy))]
      omega
    · rw [ih hi hn'.2, he x (fun e => hn'.1 (e ▸ hi))]
      omega
theorem left_set {listed : Array Bool} {i : Nat} (hsz : listed.size = ops.size) (h : listed.getD i true = false) : left' ops.size listed = left' ops.size (listed.setIfInBounds i true) + 1 := by
  have hi : i < listed.size := by
    rcases Nat.lt_or_ge i listed.size with h' | h'
    · exact h'
    · simp [Array.getElem?_eq_none h'] at h
  refine countP_lt (i := i) ?_ (by simp; omega) List.nodup_range (by simpa using h) ?_ ?_
  · intro x hx
    by_cases hxi : x = i
    · subst hxi; simpa using h
    · simp only [decide_eq_true_eq] at hx ⊢
      rw [getD_set_ne true (Ne.symm hxi)] at hx
      exact hx
  · simp [hi]
  · intro x hxi
    simp only [decide_eq_decide]
    rw [getD_set_ne true (Ne.symm hxi)]
/-- the edges that bind lead back -/
theorem lex_edges : ∀ (fuel k : Nat) (listed : Array Bool), Region.lexFrom .any ops fuel k listed = true → (∀ j, listed.getD j false = true → j < k) →
    ∀ m o, ops[m]? = some o → k ≤ m → m < k + fuel → ∀ e ∈ o.after, Region.binds .any e = true → e.on < m
  | 0, k, listed, _, _, m, _, _, h1, h2 => by omega
  | fuel + 1, k, listed, h, hl, m, o, ho, h1, h2 => by
    simp only [Region.lexFrom, Bool.and_eq_true] at h
    obtain ⟨⟨hr, _⟩, h'⟩ := h
    by_cases hmk : m = k
    · subst hmk
      have hmem : m ∈ Region.ready .any ops listed := by simpa using hr
      obtain ⟨_, o', ho', hall⟩ := mem_ready.1 hmem
      rw [ho] at ho'
      cases ho'
      exact fun e he hb => hl _ (hall e he hb)
    · refine lex_edges fuel (k + 1) _ h' ?_ m o ho (by omega) (by omega)
      intro j hj
      by_cases hjk : j = k
      · omega
      · rw [getD_set_ne false (Ne.symm hjk)] at hj
        have := hl j hj
        omega
theorem ready_of_left (hB : Region.lexB .any ops = true) {listed : Array Bool} (hsz : listed.size = ops.size) (h : ∃ j, j < ops.size ∧ listed.getD j true = false) : Region.ready .any ops listed ≠ [] := by
  simp only [Region.lexB, Bool.and_eq_true] at hB
  have hE := lex_edges (ops := ops) ops.size 0 _ hB.2 (by intro j hj; exfalso; by_cases hjs : j < ops.size <;> simp [Array.getD, hjs] at hj)
  obtain ⟨j, hj, hun⟩ := h
  have : ∃ k, k < ops.size ∧ listed.getD k true = false ∧ ∀ i, i < k → listed.getD i true = true := by
    induction j using Nat.strongRecOn with
    | _ j ih =>
      by_cases hx : ∃ i, i < j ∧ listed.getD i true = false
      · obtain ⟨i, hi, hu⟩ := hx
        exact ih i hi (by omega) hu
      · refine ⟨j, hj, hun, fun i hi => ?_⟩
        cases hc : listed.getD i true with
        | true => rfl
        | false => exact absurd ⟨i, hi, hc⟩ hx
  obtain ⟨k, hk, hku, hlow⟩ := this
  have hmem : k ∈ Region.ready .any ops listed := by
    refine mem_ready.2 ⟨hku, ops[k], Array.getElem?_eq_getElem hk, fun e he hb => ?_⟩
    have h1 := hE k _ (Array.getElem?_eq_getElem hk) (by omega) (by omega) e he hb
    have h2 := hlow _ h1
    have h3 : e.on < listed.size := by omega
    simpa [h3] using h2
  intro e
  rw [e] at hmem
  cases hmem
theorem wpAny_inv (hB : Region.lexB .any ops = true) (I : Array Bool → Act → World → Prop)
    (hstep : ∀ (i : Nat) (o : Oper), ops[i]? = some o → ∀ listed a w, I listed a w → (∀ e ∈ o.after, Region.binds .any e = true → listed.getD e.on false = true) → listed.getD i false = false → wpOp P ops Q i (fun a' w' => I (listed.setIfInBounds i true) a' w') a w)
    (hend : ∀ listed a w, I listed a w → (∀ j, j < ops.size → listed.getD j false = true) → Q .normal a w) :
    ∀ (fuel : Nat) (listed : Array Bool) (a : Act) (w : World), listed.size = ops.size → left' ops.size listed = fuel → I listed a w → wpAny P .any ops Q fuel listed a w := by
  have none : ∀ listed : Array Bool, listed.size = ops.size → Region.ready .any ops listed = [] → ∀ j, j < ops.size → listed.getD j false = true := by
    intro listed hsz hr j hj
    cases hc : listed.getD j false with
    | true => rfl
    | false =>
      have hj' : j < listed.size := by omega
      exact absurd hr (ready_of_left hB hsz ⟨j, hj, by simpa [hj'] using hc⟩)
  intro fuel
  induction fuel with
  | zero =>
    intro listed a w hsz hl hI
    have hall : ∀ j, j < ops.size → listed.getD j false = true := by
      intro j hj
      have := List.countP_eq_zero.1 hl j (by simpa using hj)
      have hj' : j < listed.size := by omega
      simpa [hj'] using this
    refine ⟨?_, hend listed a w hI hall⟩
    cases hr : Region.ready .any ops listed with
    | nil => rfl
    | cons j r =>
      have hm : j ∈ Region.ready .any ops listed := by rw [hr]; exact List.mem_cons_self
      obtain ⟨h1, o, ho, _⟩ := mem_ready.1 hm
      have hj : j < ops.size := (Array.getElem?_eq_some_iff.1 ho).1
      have h2 := hall j hj
      have hj' : j < listed.size := by omega
      simp [hj'] at h1 h2
      rw [h1] at h2
      cases h2
  | succ fuel ih =>
    intro listed a w hsz hl hI
    refine ⟨fun hr => hend listed a w hI (none listed hsz hr), fun i hi => ?_⟩
    obtain ⟨h1, o, ho, hd⟩ := mem_ready.1 hi
    have hilt : i < listed.size := by rw [hsz]; exact (Array.getElem?_eq_some_iff.1 ho).1
    refine wpOp_mono (fun a' w' h' => ih _ a' w' (by simpa using hsz) ?_ h') (hstep i o ho listed a w hI hd (by simpa [hilt] using h1))
    have := left_set (ops := ops) hsz h1
    omega
/-- **A region shown by an invariant.** -/
theorem wp_region_inv {id : Nat} {a : Act} {w : World} (hm : P.follows .mixedOrders = true) (hB : Region.lexB .any ops = true) (I : Array Bool → Act → World → Prop)
    (h0 : I (Array.replicate ops.size false) a { w with drawn := w.drawn + 1 })
    (hstep : ∀ (i : Nat) (o : Oper), ops[i]? = some o → ∀ listed a w, I listed a w → (∀ e ∈ o.after, Region.binds .any e = true → listed.getD e.on false = true) → listed.getD i false = false → wpOp P ops Q i (fun a' w' => I (listed.setIfInBounds i true) a' w') a w)
    (hend : ∀ listed a w, I listed a w → (∀ j, j < ops.size → listed.getD j false = true) → Q .normal a w) : (Code.region id ops true).wp P Q a w := by
  refine wp_region_any hm (wpAny_inv hB I hstep hend _ _ _ _ (by simp) ?_ h0)
  unfold left'
  rw [List.countP_eq_length.2 (fun j hj => by simp at hj; simp [hj])]
  simp
/-- The same, what has come up told by a function. -/
theorem wp_region_inv' {id : Nat} {a : Act} {w : World} (hm : P.follows .mixedOrders = true) (hB : Region.lexB .any ops = true) (I : (Nat → Bool) → Act → World → Prop)
    (h0 : I (fun _ => false) a { w with drawn := w.drawn + 1 })
    (hstep : ∀ (i : Nat) (o : Oper), ops[i]? = some o → ∀ (f : Nat → Bool) a w, I f a w → (∀ e ∈ o.after, Region.binds .any e = true → f e.on = true) → f i = false → wpOp P ops Q i (fun a' w' => I (fun j => decide (j = i) || f j) a' w') a w)
    (hend : ∀ (f : Nat → Bool) a w, I f a w → (∀ j, j < ops.size → f j = true) → Q .normal a w) : (Code.region id ops true).wp P Q a w := by
  refine wp_region_inv hm hB (fun L a w => L.size = ops.size ∧ I (fun j => L.getD j false) a w) ⟨by simp, ?_⟩ ?_ (fun L a w h => hend _ a w h.2)
  · have e : (fun j => (Array.replicate ops.size false).getD j false) = fun _ => false := by
      funext j
      by_cases hj : j < ops.size <;> simp [Array.getD, hj]
    rw [e]; exact h0
  · intro i o ho L a w ⟨hsz, hI⟩ hd hun
    have hi : i < L.size := by rw [hsz]; exact (Array.getElem?_eq_some_iff.1 ho).1
    refine wpOp_mono (fun a' w' h => ⟨by simpa using hsz, ?_⟩) (hstep i o ho _ a w hI hd hun)
    have e : (fun j => (L.setIfInBounds i true).getD j false) = fun j => decide (j = i) || L.getD j false := by
      funext j
      by_cases hj : j = i
      · subst hj; simp [hi]
      · rw [getD_set_ne false (Ne.symm hj)]; simp [hj]
    rw [e]; exact h
end
end Go.Proofs.Ytigkfjgmidnbhaa
