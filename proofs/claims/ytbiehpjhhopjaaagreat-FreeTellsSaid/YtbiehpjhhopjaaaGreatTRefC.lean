/-
 States that may be, as the references have it, in plain words.
 What is odd of an area, as the reference has it, in plain words.
-/
import Derived.Test.YtbiehpjhhopjaaaGreatTRefA
import Derived.Test.YtbiehpjhhopjaaaGreatTLawA
import Derived.Test.YtbiehpjhhopjaaaGreatTLawP
set_option linter.unusedVariables false
set_option linter.unusedSimpArgs false
namespace Go.Proofs.YtbiehpjhhopjaaaGreat
def putB (H : Nat → Bool) (s : Nat) : Nat → Bool := fun q => if q = s then true else H q
def putI (A : Nat → Int) (s : Nat) (x : Int) : Nat → Int := fun q => if q = s then x else A q
def holdR : List Int → (Nat → Bool) → Option (Nat → Bool)
 | [], H => some H
 | s :: r, H => if H s.toNat = true then none else holdR r (putB H s.toNat)
def askR (call : Int → Int) : List Ask → (Nat → Int) → Option (Nat → Int)
 | [], A => some A
 | a :: r, A => if (A a.pt.toNat ≠ 0 ∧ A a.pt.toNat ≠ a.lie) ∨ call a.pt ≠ a.lie then none else askR call r (putI A a.pt.toNat a.lie)
theorem hold_bad (id : Int) : ∀ (l : List Int) (g : Gr), g.ok = false → (holdAll id l g).ok = false
 | [], g, h => h
 | s :: r, g, h => by
  have h1 : (holdOne id g s).ok = false := by unfold holdOne; simp [h]
  rw [holdAll, if_neg (by rw [h1]; decide)]
  exact h1
theorem ask_bad (call : Int → Int) : ∀ (l : List Ask) (g : Gr), g.ok = false → (askAll call l g).ok = false
 | [], g, h => h
 | s :: r, g, h => by
  have h1 : (askOne call g s).ok = false := by unfold askOne; simp [h]
  rw [askAll, if_neg (by rw [h1]; decide)]
  exact h1
theorem hold_rel {id : Int} (hid : id ≠ 0) : ∀ (l : List Int) (g : Gr) (H : Nat → Bool), g.ok = true → (∀ q, g.H q ≠ 0 ↔ H q = true) →
  match holdR l H with
  | none => (holdAll id l g).ok = false
  | some H' => (holdAll id l g).ok = true ∧ (∀ q, (holdAll id l g).H q ≠ 0 ↔ H' q = true) ∧ (holdAll id l g).A = g.A
 | [], g, H, h0, h1 => ⟨h0, h1, rfl⟩
 | s :: r, g, H, h0, h1 => by
  rw [holdR, holdAll]
  by_cases hs : H s.toNat = true
  ·rw [if_pos hs]
   have h2 : (holdOne id g s).ok = false := by
    unfold holdOne
    have := (h1 s.toNat).2 hs
    simp [this]
   simp only
   rw [if_neg (by rw [h2]; decide)]
   exact h2
  ·rw [if_neg hs]
   have h3 : g.H s.toNat = 0 := by
    by_cases hz : g.H s.toNat = 0
    ·exact hz
    ·exact absurd ((h1 _).1 hz) hs
   have h2 : (holdOne id g s).ok = true := by unfold holdOne; simp [h0, h3]
   rw [if_pos h2]
   exact hold_rel hid r (holdOne id g s) (putB H s.toNat) h2 (fun q => by
    unfold holdOne putB
    by_cases hq : q = s.toNat
    ·simp [hq, hid]
    ·simp only [if_neg hq]; exact h1 q)
theorem ask_rel {call : Int → Int} : ∀ (l : List Ask) (g : Gr), (∀ a ∈ l, 1 ≤ a.pt) → g.ok = true → (∀ q : Nat, g.A q ≠ 0 → g.A q = call q) →
  match askR call l g.A with
  | none => (askAll call l g).ok = false
  | some A' => (askAll call l g).ok = true ∧ (askAll call l g).A = A' ∧ (askAll call l g).H = g.H ∧ ∀ q : Nat, A' q ≠ 0 → A' q = call q
 | [], g, _, h0, h1 => ⟨h0, rfl, rfl, h1⟩
 | a :: r, g, hl, h0, h1 => by
  have hp := hl a List.mem_cons_self
  have hpt : ((a.pt.toNat : Nat) : Int) = a.pt := by omega
  rw [askR, askAll]
  by_cases hc : call a.pt = a.lie
  ·have hn : ¬ ((g.A a.pt.toNat ≠ 0 ∧ g.A a.pt.toNat ≠ a.lie) ∨ call a.pt ≠ a.lie) := by
    rintro (⟨q1, q2⟩ | q)
    ·have := h1 _ q1
     rw [hpt] at this
     exact q2 (this.trans hc)
    ·exact q hc
   rw [if_neg hn]
   have h2 : (askOne call g a).ok = true := by unfold askOne; simp [h0, hc]
   rw [if_pos h2]
   have ih := ask_rel r (askOne call g a) (fun b hb => hl b (List.mem_cons_of_mem _ hb)) h2 (fun q hq => by
    unfold askOne at hq ⊢
    simp only at hq ⊢
    by_cases he : q = a.pt.toNat
    ·rw [if_pos he, he, hpt]; exact hc.symm
    ·rw [if_neg he] at hq ⊢; exact h1 q hq)
   exact ih
  ·rw [if_pos (.inr hc)]
   have h2 : (askOne call g a).ok = false := by unfold askOne; simp [hc]
   simp only
   rw [if_neg (by rw [h2]; decide)]
   exact h2
def lkStep (p : Pl) (st : St) (i : Nat) (x : (Nat → Bool) × (Nat → Int)) : Option ((Nat → Bool) × (Nat → Int)) :=
 (holdR (heldL (wyOf p (p.rts.getD i zRt)) (st.lks.getD i zLk)) x.1).bind fun H => (askR (callOf st.sws) (asksL (wyOf p (p.rts.getD i zRt)) (st.lks.getD i zLk)) x.2).map fun A => (H, A)
def lksR (p : Pl) (st : St) : Nat → Option ((Nat → Bool) × (Nat → Int))
 | 0 => some (fun _ => false, fun _ => 0)
 | i + 1 => (lksR p st i).bind (lkStep p st i)
theorem asks_pos {p : Pl} (hS : PlanSound p) {i : Nat} (hi : i < p.rts.length) (l : Lk) : ∀ a ∈ asksL (wyOf p p.rts[i]) l, 1 ≤ a.pt ∧ a.pt ≤ 99 := fun a ha => by
 unfold asksL at ha
 split at ha
 ·simp at ha
 ·exact (sound_way hS hi).asks a (List.mem_filter.1 ha).1
theorem lk_id {p : Pl} {st : St} (hS : PlanSound p) (hA : StA p st) {i : Nat} (hi : i < st.lks.length) : st.lks[i].id ≠ 0 := by
 have hl := hA.2.2.1
 have h1 := (hA.2.2.2 i hi (by omega) hi).1
 have h2 := (may_rts hS.1 i (by omega) (by omega)).1
 omega
theorem gr_step_bad (call : Int → Int) (w : Wy) (l : Lk) (g : Gr) (h : g.ok = false) : (grStep call w l g).ok = false := ask_bad _ _ _ (hold_bad _ _ _ h)
theorem lks_rel {p : Pl} {st : St} (hS : PlanSound p) (hA : StA p st) : ∀ i, i ≤ st.lks.length →
  match lksR p st i with
  | none => (grTo p st i).ok = false
  | some x => (grTo p st i).ok = true ∧ (∀ q, (grTo p st i).H q ≠ 0 ↔ x.1 q = true) ∧ (grTo p st i).A = x.2 ∧ ∀ q : Nat, x.2 q ≠ 0 → x.2 q = callOf st.sws q
 | 0, _ => ⟨rfl, fun q => by simp [grTo], rfl, fun q h => absurd rfl h⟩
 | i + 1, hi => by
  have ih := lks_rel hS hA i (by omega)
  have hl := hA.2.2.1
  have hir : i < p.rts.length := by omega
  have er : p.rts.getD i zRt = p.rts[i] := by rw [List.getD_eq_getElem?_getD, List.getElem?_eq_getElem hir]; rfl
  have el : st.lks.getD i zLk = st.lks[i] := by rw [List.getD_eq_getElem?_getD, List.getElem?_eq_getElem (by omega)]; rfl
  rw [lksR]
  show match (lksR p st i).bind (lkStep p st i) with | none => (grStep (callOf st.sws) (wyOf p (p.rts.getD i zRt)) (st.lks.getD i zLk) (grTo p st i)).ok = false | some x => (grStep (callOf st.sws) (wyOf p (p.rts.getD i zRt)) (st.lks.getD i zLk) (grTo p st i)).ok = true ∧ (∀ q, (grStep (callOf st.sws) (wyOf p (p.rts.getD i zRt)) (st.lks.getD i zLk) (grTo p st i)).H q ≠ 0 ↔ x.1 q = true) ∧ (grStep (callOf st.sws) (wyOf p (p.rts.getD i zRt)) (st.lks.getD i zLk) (grTo p st i)).A = x.2 ∧ ∀ q : Nat, x.2 q ≠ 0 → x.2 q = callOf st.sws q
  cases hp : lksR p st i with
  | none =>
   rw [hp] at ih
   exact gr_step_bad _ _ _ _ ih
  | some x =>
   rw [hp] at ih
   obtain ⟨h1, h2, h3, h4⟩ := ih
   show match lkStep p st i x with | none => _ | some x => _
   unfold lkStep grStep
   rw [er, el]
   have hh := hold_rel (lk_id hS hA (i := i) (by omega)) (heldL (wyOf p p.rts[i]) st.lks[i]) (grTo p st i) x.1 h1 h2
   cases hr : holdR (heldL (wyOf p p.rts[i]) st.lks[i]) x.1 with
   | none =>
    rw [hr] at hh
    exact ask_bad _ _ _ hh
   | some H' =>
    rw [hr] at hh
    obtain ⟨k1, k2, k3⟩ := hh
    have ha := ask_rel (call := callOf st.sws) (asksL (wyOf p p.rts[i]) st.lks[i]) (holdAll st.lks[i].id (heldL (wyOf p p.rts[i]) st.lks[i]) (grTo p st i)) (fun a h => (asks_pos hS hir _ a h).1) k1 (by rw [k3, h3]; exact h4)
    rw [k3, h3] at ha
    cases hq : askR (callOf st.sws) (asksL (wyOf p p.rts[i]) st.lks[i]) x.2 with
    | none => rw [hq] at ha; exact ha
    | some A' =>
     rw [hq] at ha
     obtain ⟨m1, m2, m3, m4⟩ := ha
     exact ⟨m1, fun q => by rw [m3]; exact k2 q, m2, m4⟩
def StMayR (p : Pl) (st : St) : Prop := StA p st ∧ (lksR p st st.lks.length).isSome = true
instance (p : Pl) (st : St) : Decidable (StMayR p st) := by unfold StMayR; exact inferInstance
theorem stmay_iff {p : Pl} {st : St} (hS : PlanSound p) : StMay p st ↔ StMayR p st := by
 unfold StMay StMayR
 constructor
 ·rintro ⟨h1, h2⟩
  refine ⟨h1, ?_⟩
  have := lks_rel hS h1 st.lks.length (Nat.le_refl _)
  cases hr : lksR p st st.lks.length with
  | none => rw [hr] at this; unfold grOf at h2; rw [this] at h2; cases h2
  | some x => rfl
 ·rintro ⟨h1, h2⟩
  refine ⟨h1, ?_⟩
  have := lks_rel hS h1 st.lks.length (Nat.le_refl _)
  cases hr : lksR p st st.lks.length with
  | none => rw [hr] at h2; cases h2
  | some x => rw [hr] at this; exact this.1
def hasI (l : List Int) (n : Int) : Bool := decide (n ∈ l)
def holdsAt (p : Pl) (st : St) (n : Int) (i : Nat) : Bool := hasI (heldL (wyOf p (p.rts.getD i zRt)) (st.lks.getD i zLk)) n
def ofR (p : Pl) (st : St) (n : Int) : Int := match (List.range st.lks.length).find? (holdsAt p st n) with | some i => (st.lks.getD i zLk).id | none => 0
def askedAt (p : Pl) (st : St) (n : Int) (i : Nat) : Option Ask := (asksL (wyOf p (p.rts.getD i zRt)) (st.lks.getD i zLk)).find? fun a => decide (a.pt = n)
def lieOf (p : Pl) (st : St) (n : Int) : Int := match (List.range st.lks.length).findSome? (askedAt p st n) with | some a => a.lie | none => 0
theorem hold_at {id : Int} : ∀ (l : List Int) (g : Gr), (∀ s ∈ l, 0 ≤ s) → (holdAll id l g).ok = true → ∀ q : Nat, (holdAll id l g).H q = (if (q : Int) ∈ l then id else g.H q) ∧ ((q : Int) ∈ l → g.H q = 0 ∨ g.H q = id)
 | [], g, _, _, q => by simp [holdAll]
 | s :: r, g, hl, h, q => by
  have h0 := hl s List.mem_cons_self
  rw [holdAll] at h ⊢
  by_cases hk : (holdOne id g s).ok = true
  ·rw [if_pos hk] at h ⊢
   have hz : g.H s.toNat = 0 := by unfold holdOne at hk; simp at hk; exact hk.2
   obtain ⟨h1, h2⟩ := hold_at r (holdOne id g s) (fun t ht => hl t (List.mem_cons_of_mem _ ht)) h q
   rw [h1]
   have hH : (holdOne id g s).H q = if q = s.toNat then id else g.H q := rfl
   rw [hH] at h2 ⊢
   have hqs : q = s.toNat ↔ (q : Int) = s := by omega
   constructor
   ·by_cases hr : (q : Int) ∈ r
    ·rw [if_pos hr, if_pos (List.mem_cons_of_mem _ hr)]
    ·rw [if_neg hr]
     by_cases hq : q = s.toNat
     ·rw [if_pos hq, if_pos (by rw [hqs.1 hq]; exact List.mem_cons_self)]
     ·rw [if_neg hq, if_neg (fun hm => by rcases List.mem_cons.1 hm with e | e; exact hq (hqs.2 e); exact hr e)]
   ·intro hm
    by_cases hq : q = s.toNat
    ·subst hq; exact .inl hz
    ·rw [if_neg hq] at h2
     rcases List.mem_cons.1 hm with e | e
     ·exact absurd (hqs.2 e) hq
     ·exact h2 e
  ·rw [if_neg hk] at h
   exact absurd h hk
theorem ask_ok {call : Int → Int} : ∀ (l : List Ask) (g : Gr), (askAll call l g).ok = true → g.ok = true ∧ (askAll call l g).H = g.H ∧ ∀ a ∈ l, call a.pt = a.lie
 | [], g, h => ⟨h, rfl, fun a ha => by simp at ha⟩
 | a :: r, g, h => by
  rw [askAll] at h ⊢
  by_cases hk : (askOne call g a).ok = true
  ·rw [if_pos hk] at h ⊢
   obtain ⟨h1, h2, h3⟩ := ask_ok r (askOne call g a) h
   unfold askOne at hk
   simp at hk
   refine ⟨hk.1, h2, fun b hb => ?_⟩
   rcases List.mem_cons.1 hb with rfl | hb
   ·exact hk.2
   ·exact h3 b hb
  ·rw [if_neg hk] at h; exact absurd h hk
theorem ask_at {call : Int → Int} : ∀ (l : List Ask) (g : Gr), (∀ a ∈ l, 1 ≤ a.pt) → (askAll call l g).ok = true → ∀ q : Nat, (askAll call l g).A q = if (∃ a ∈ l, a.pt = (q : Int)) then call q else g.A q
 | [], g, _, _, q => by simp [askAll]
 | a :: r, g, hl, h, q => by
  have h0 := hl a List.mem_cons_self
  have hc := (ask_ok _ _ h).2.2 a List.mem_cons_self
  rw [askAll] at h ⊢
  by_cases hk : (askOne call g a).ok = true
  ·rw [if_pos hk] at h ⊢
   rw [ask_at r (askOne call g a) (fun t ht => hl t (List.mem_cons_of_mem _ ht)) h q]
   have hA : (askOne call g a).A q = if q = a.pt.toNat then a.lie else g.A q := rfl
   rw [hA]
   by_cases hr : ∃ b ∈ r, b.pt = (q : Int)
   ·rw [if_pos hr, if_pos (by obtain ⟨b, hb, e⟩ := hr; exact ⟨b, List.mem_cons_of_mem _ hb, e⟩)]
   ·rw [if_neg hr]
    by_cases hq : q = a.pt.toNat
    ·rw [if_pos hq, if_pos ⟨a, List.mem_cons_self, by omega⟩, ← hc]
     congr 1; omega
    ·rw [if_neg hq, if_neg]
     rintro ⟨b, hb, e⟩
     rcases List.mem_cons.1 hb with rfl | hb
     ·exact hq (by omega)
     ·exact hr ⟨b, hb, e⟩
  ·rw [if_neg hk] at h; exact absurd h hk
theorem find_range_succ (f : Nat → Bool) (n : Nat) : (List.range (n + 1)).find? f = match (List.range n).find? f with | some i => some i | none => if f n = true then some n else none := by
 rw [List.range_succ, List.find?_append]
 cases (List.range n).find? f with
 | some i => rfl
 | none => by_cases h : f n = true <;> simp [h]
theorem findSome_range_succ {β : Type} (f : Nat → Option β) (n : Nat) : (List.range (n + 1)).findSome? f = match (List.range n).findSome? f with | some i => some i | none => f n := by
 rw [List.range_succ, List.findSome?_append]
 cases (List.range n).findSome? f with
 | some i => rfl
 | none => simp [List.findSome?_cons]; cases f n <;> rfl
theorem held_pos {p : Pl} (hS : PlanSound p) {i : Nat} (hi : i < p.rts.length) (l : Lk) : ∀ s ∈ heldL (wyOf p p.rts[i]) l, 0 ≤ s ∧ s ≤ 99 := fun s hs => by
 unfold heldL at hs
 split at hs
 ·simp at hs
 ·refine (sound_way hS hi).secs s ?_
  rcases List.mem_append.1 hs with h | h
  ·exact List.mem_append_left _ (List.mem_of_mem_drop h)
  ·exact List.mem_append_right _ h
theorem gr_at {p : Pl} {st : St} (hS : PlanSound p) (hA : StA p st) (n : Nat) : ∀ i, i ≤ st.lks.length → (grTo p st i).ok = true →
  (grTo p st i).H n = (match (List.range i).find? (holdsAt p st n) with | some k => (st.lks.getD k zLk).id | none => 0) ∧
  (grTo p st i).A n = (match (List.range i).findSome? (askedAt p st n) with | some a => a.lie | none => 0) ∧ ((List.range i).findSome? (askedAt p st n) ≠ none → (grTo p st i).A n = callOf st.sws n)
 | 0, _, _ => ⟨rfl, rfl, fun h => absurd rfl h⟩
 | i + 1, hi, hok => by
  have hl := hA.2.2.1
  have hir : i < p.rts.length := by omega
  have er : p.rts.getD i zRt = p.rts[i] := by rw [List.getD_eq_getElem?_getD, List.getElem?_eq_getElem hir]; rfl
  have el : st.lks.getD i zLk = st.lks[i] := by rw [List.getD_eq_getElem?_getD, List.getElem?_eq_getElem (by omega)]; rfl
  have hs : grTo p st (i + 1) = askAll (callOf st.sws) (asksL (wyOf p p.rts[i]) st.lks[i]) (holdAll st.lks[i].id (heldL (wyOf p p.rts[i]) st.lks[i]) (grTo p st i)) := grTo_step p st i hir (by omega)
  rw [hs] at hok
  obtain ⟨k1, k2, k3⟩ := ask_ok _ _ hok
  have k0 : (grTo p st i).ok = true := by
   cases h : (grTo p st i).ok with
   | true => rfl
   | false => rw [hold_bad _ _ _ h] at k1; cases k1
  obtain ⟨ih1, ih2, ih3⟩ := gr_at hS hA n i (by omega) k0
  have hH := hold_at (id := st.lks[i].id) (heldL (wyOf p p.rts[i]) st.lks[i]) (grTo p st i) (fun s h => (held_pos hS hir _ s h).1) k1 n
  have hAA := ask_at (call := callOf st.sws) (asksL (wyOf p p.rts[i]) st.lks[i]) (holdAll st.lks[i].id (heldL (wyOf p p.rts[i]) st.lks[i]) (grTo p st i)) (fun a h => (asks_pos hS hir _ a h).1) hok n
  have hkA : (holdAll st.lks[i].id (heldL (wyOf p p.rts[i]) st.lks[i]) (grTo p st i)).A = (grTo p st i).A := by
   have : ∀ (l : List Int) (g : Gr), (holdAll st.lks[i].id l g).A = g.A := by
    intro l
    induction l with
    | nil => intro g; rfl
    | cons s r ih =>
     intro g
     rw [holdAll]
     split
     ·rw [ih]; rfl
     ·rfl
   exact this _ _
  have hat : holdsAt p st n i = decide ((n : Int) ∈ heldL (wyOf p p.rts[i]) st.lks[i]) := by unfold holdsAt hasI; rw [er, el]
  have hask : askedAt p st n i = (asksL (wyOf p p.rts[i]) st.lks[i]).find? (fun a => decide (a.pt = (n : Int))) := by unfold askedAt; rw [er, el]
  rw [hs]
  refine ⟨?_, ?_⟩
  ·rw [k2, hH.1, find_range_succ, hat]
   by_cases hm : (n : Int) ∈ heldL (wyOf p p.rts[i]) st.lks[i]
   ·rw [if_pos hm]
    cases hf : (List.range i).find? (holdsAt p st n) with
    | none => simp only [decide_eq_true hm, if_true]; rw [el]
    | some k =>
     rw [hf] at ih1
     have ih1 : (grTo p st i).H n = (st.lks.getD k zLk).id := ih1
     have hk : k < i := List.mem_range.1 (List.mem_of_find?_eq_some hf)
     have ek : st.lks.getD k zLk = st.lks[k] := by rw [List.getD_eq_getElem?_getD, List.getElem?_eq_getElem (by omega)]; rfl
     have hne := lk_id hS hA (i := k) (by omega)
     rcases hH.2 hm with q | q
     ·rw [ih1, ek] at q; exact absurd q hne
     ·rw [ih1] at q; exact q.symm
   ·rw [if_neg hm, ih1]
    cases hf : (List.range i).find? (holdsAt p st n) with
    | none => simp [hm]
    | some k => rfl
  ·rw [hAA, hkA, findSome_range_succ, hask]
   by_cases hm : ∃ a ∈ asksL (wyOf p p.rts[i]) st.lks[i], a.pt = (n : Int)
   ·rw [if_pos hm]
    refine ⟨?_, fun _ => rfl⟩
    cases hf : (List.range i).findSome? (askedAt p st n) with
    | some a =>
     have h5 := ih3 (by rw [hf]; simp)
     rw [hf] at ih2
     rw [← h5]; exact ih2
    | none =>
     simp only
     cases hg : (asksL (wyOf p p.rts[i]) st.lks[i]).find? (fun a => decide (a.pt = (n : Int))) with
     | none =>
      obtain ⟨a, ha, e⟩ := hm
      have := List.find?_eq_none.1 hg a ha
      simp [e] at this
     | some a =>
      have h6 := k3 a (List.mem_of_find?_eq_some hg)
      have h7 := List.find?_some hg
      simp only [decide_eq_true_eq] at h7
      simp only
      rw [← h6, h7]
   ·rw [if_neg hm]
    have hg : (asksL (wyOf p p.rts[i]) st.lks[i]).find? (fun a => decide (a.pt = (n : Int))) = none := by
     rw [List.find?_eq_none]
     intro a ha
     simp only [decide_eq_true_eq]
     exact fun e => hm ⟨a, ha, e⟩
    rw [hg]
    cases hf : (List.range i).findSome? (askedAt p st n) with
    | some a => rw [hf] at ih2 ih3; exact ⟨ih2, ih3⟩
    | none => rw [hf] at ih2; exact ⟨ih2, fun h => absurd rfl h⟩
theorem of_eq {p : Pl} {st : St} (hS : PlanSound p) (hM : StMay p st) (n : Nat) : (grOf p st).H n = ofR p st n := (gr_at hS hM.1 n st.lks.length (Nat.le_refl _) hM.2).1
theorem lie_eq {p : Pl} {st : St} (hS : PlanSound p) (hM : StMay p st) (n : Nat) : (grOf p st).A n = lieOf p st n := (gr_at hS hM.1 n st.lks.length (Nat.le_refl _) hM.2).2.1
end Go.Proofs.YtbiehpjhhopjaaaGreat
set_option linter.unusedVariables false
set_option linter.unusedSimpArgs false
namespace Go.Proofs.YtbiehpjhhopjaaaGreat
theorem rising_eq : ∀ {l m : List Int}, l.Pairwise (· < ·) → m.Pairwise (· < ·) → (∀ a, a ∈ l ↔ a ∈ m) → l = m
 | [], [], _, _, _ => rfl
 | [], b :: m, _, _, h => by have := (h b).2 List.mem_cons_self; simp at this
 | a :: l, [], _, _, h => by have := (h a).1 List.mem_cons_self; simp at this
 | a :: l, b :: m, h1, h2, h => by
  obtain ⟨p1, q1⟩ := List.pairwise_cons.1 h1
  obtain ⟨p2, q2⟩ := List.pairwise_cons.1 h2
  have e : a = b := by
   have ha := (h a).1 List.mem_cons_self
   have hb := (h b).2 List.mem_cons_self
   rcases List.mem_cons.1 ha with e | ha
   ·exact e
   ·rcases List.mem_cons.1 hb with e | hb
    ·exact e.symm
    ·have := p1 b hb; have := p2 a ha; omega
  subst e
  rw [rising_eq q1 q2 fun c => ?_]
  constructor
  ·intro hc
   have h3 := p1 c hc
   rcases List.mem_cons.1 ((h c).1 (List.mem_cons_of_mem _ hc)) with e | hc'
   ·omega
   ·exact hc'
  ·intro hc
   have h3 := p2 c hc
   rcases List.mem_cons.1 ((h c).2 (List.mem_cons_of_mem _ hc)) with e | hc'
   ·omega
   ·exact hc'
theorem upTo_rising (d : Array Int) (hs : ∀ i j, i ≤ j → j < d.size → d[i]! ≤ d[j]!) : ∀ m, m ≤ d.size → (Lib.compactUpTo d m).Pairwise (· < ·)
 | 0, _ => by simp [Lib.compactUpTo]
 | m + 1, hm => by
  rw [Lib.compactUpTo_succ]
  rw [List.pairwise_append]
  refine ⟨upTo_rising d hs m (by omega), by split <;> simp, fun a ha b hb => ?_⟩
  split at hb
  ·rename_i hk
   rw [List.mem_singleton] at hb
   subst hb
   obtain ⟨j, hj, e⟩ := (mem_upTo d a m).1 ha
   subst e
   unfold Lib.keeps at hk
   rw [decide_eq_true_eq] at hk
   rcases hk with hk | hk
   ·omega
   ·have h1 := hs j (m - 1) (by omega) (by omega)
    have h2 := hs (m - 1) m (by omega) (by omega)
    omega
  ·simp at hb
theorem normI_rising (l : List Int) : (normI l).Pairwise (· < ·) := by
 unfold normI Lib.compact
 have hp : (sortI l).Pairwise fun x y => decide (x ≤ y) = true := List.pairwise_mergeSort (fun a b c h1 h2 => by simp at *; omega) (fun a b => by simp; omega) l
 refine upTo_rising _ (fun i j hij hj => ?_) _ (by simp)
 have hj' : j < (sortI l).length := by simpa using hj
 have e1 : (sortI l).toArray[i]! = (sortI l)[i]'(by omega) := by simp [show i < (sortI l).length by omega]
 have e2 : (sortI l).toArray[j]! = (sortI l)[j] := by simp [hj']
 rw [e1, e2]
 rcases Nat.lt_or_ge i j with h | h
 ·have := List.pairwise_iff_getElem.1 hp i j (by omega) hj' h
  simpa using this
 ·obtain rfl : i = j := by omega
  omega
def pick (f : Int → Bool) : List Int := ((List.range 99).map fun (i : Nat) => (i : Int) + 1).filter f
theorem mem_pick (f : Int → Bool) (a : Int) : a ∈ pick f ↔ (1 ≤ a ∧ a ≤ 99) ∧ f a = true := by
 unfold pick
 rw [List.mem_filter, List.mem_map]
 constructor
 ·rintro ⟨⟨i, hi, rfl⟩, h⟩
  have := List.mem_range.1 hi
  exact ⟨by omega, h⟩
 ·rintro ⟨⟨h1, h2⟩, h⟩
  exact ⟨⟨(a - 1).toNat, List.mem_range.2 (by omega), by omega⟩, h⟩
theorem pick_rising (f : Int → Bool) : (pick f).Pairwise (· < ·) := by
 unfold pick
 refine List.Pairwise.filter _ ?_
 rw [List.pairwise_map]
 refine List.Pairwise.imp ?_ List.pairwise_lt_range
 intro a b h
 omega
theorem norm_pick {l : List Int} {f g : Int → Bool} (h : ∀ a, f a = true → 1 ≤ a ∧ a ≤ 99) (hg : ∀ a, 1 ≤ a → a ≤ 99 → f a = g a) : normI (l.filter f) = pick fun a => hasB l a && g a := by
 refine rising_eq (normI_rising _) (pick_rising _) fun a => ?_
 rw [mem_normI, mem_pick, List.mem_filter]
 unfold hasB
 rw [Bool.and_eq_true, decide_eq_true_eq]
 constructor
 ·rintro ⟨h1, h2⟩
  have := h a h2
  exact ⟨this, h1, by rw [← hg a this.1 this.2]; exact h2⟩
 ·rintro ⟨h1, h2, h3⟩
  exact ⟨h2, by rw [hg a h1.1 h1.2]; exact h3⟩
def plIx {α : Type} (f : α → Int) (l : List α) (n : Int) : Nat := (fix (fun x => decide (f x = n)) l).toNat
def oddR1 (p : Pl) (st : St) (n : Int) : Bool := isOne Sec.id p.secs n && (decide ((st.tks.getD (plIx Sec.id p.secs n) ⟨0, 0⟩).is ≠ 0) || decide (ofR p st n ≠ 0))
def oddR2 (p : Pl) (st : St) (n : Int) : Bool := isOne Pt.id p.pts n && decide (lieOf p st n ≠ 0)
def oddR3 (p : Pl) (st : St) (n : Int) : Bool := (List.range p.rts.length).any fun i => decide (((p.rts.getD i zRt).entry = n ∨ (p.rts.getD i zRt).exit = n) ∧ (st.lks.getD i zLk).ph ≠ 0)
def oddR4 (p : Pl) (st : St) (n : Int) : Bool := isOne Rt.id p.rts n && decide ((st.lks.getD (plIx Rt.id p.rts n) zLk).ph ≠ 0)
def leftR (p : Pl) (st : St) (x : Ar) : Ar :=
 ⟨pick fun a => hasB x.s a && oddR1 p st a, pick fun a => hasB x.p a && oddR2 p st a, pick fun a => hasB x.g a && oddR3 p st a, pick fun a => hasB x.r a && oddR4 p st a⟩
theorem pairs_one {α β : Type} {R : α → β → Prop} {f : α → Int} {g : β → Int} {l : List α} {m : List β} (h : Pairs R l m) (hR : ∀ a b, R a b → f a = g b) (n : Int) : isOne f l n = isOne g m n := by
 rw [Bool.eq_iff_iff]
 unfold isOne
 rw [List.any_eq_true, List.any_eq_true]
 constructor
 ·rintro ⟨x, hx, e⟩
  obtain ⟨i, hi, rfl⟩ := List.getElem_of_mem hx
  have := hR _ _ (h.2 i hi (by rw [← h.1]; exact hi) hi)
  exact ⟨m[i]'(by rw [← h.1]; exact hi), List.getElem_mem _, by rw [← this]; exact e⟩
 ·rintro ⟨x, hx, e⟩
  obtain ⟨i, hi, rfl⟩ := List.getElem_of_mem hx
  have hi' : i < l.length := by rw [h.1]; exact hi
  have := hR _ _ (h.2 i hi' hi hi')
  exact ⟨l[i], List.getElem_mem _, by rw [this]; exact e⟩
theorem ix_at {α : Type} {f : α → Int} {l : List α} {n : Int} (h : isOne f l n = true) : ∃ k, ∃ hk : k < l.length, plIx f l n = k ∧ f l[k] = n ∧ ∀ j (hj : j < k), f l[j] ≠ n := by
 rcases fix_cases (fun x => decide (f x = n)) l with ⟨_, h2⟩ | ⟨k, hk, e, h1, h2⟩
 ·unfold isOne at h
  rw [List.any_eq_true] at h
  obtain ⟨x, hx, e⟩ := h
  obtain ⟨i, hi, rfl⟩ := List.getElem_of_mem hx
  rw [h2 i hi] at e
  cases e
 ·refine ⟨k, hk, by unfold plIx; rw [e]; rfl, by simpa using h1, fun j hj => ?_⟩
  have := h2 j (by omega) hj
  simpa using this
theorem odd1_eq {p : Pl} {st : St} (h : ofErr p st = 0) {n : Int} (h1 : 1 ≤ n) : oddSec p st n = oddR1 p st n := by
 obtain ⟨hS, hM⟩ := ofErr_zero h
 have hT := hM.1.1
 have hone : isOne Tk.id st.tks n = isOne Sec.id p.secs n := pairs_one hT (fun _ _ r => r.1) n
 unfold oddSec oddR1
 rw [hone]
 cases hs : isOne Sec.id p.secs n with
 | false => rfl
 | true =>
  rw [Bool.true_and, Bool.true_and]
  have hh : holderOf p st n = (ofR p st n, 0) := by
   unfold holderOf
   have hany : (p.secs.any fun x => decide (x.id = n)) = true := hs
   rw [if_neg (by rw [h]; decide), hany, if_pos rfl, of_eq hS hM]
   congr 2
   omega
  rw [hh]
  obtain ⟨k, hk, e, h2, h3⟩ := ix_at hs
  have hk' : k < st.tks.length := by rw [hT.1]; exact hk
  have hid : ∀ j (hj : j < st.tks.length) (hj' : j < p.secs.length), st.tks[j].id = p.secs[j].id := fun j hj hj' => (hT.2 j hj hj' hj).1
  have ho : oneOf Tk.id (⟨0, 0⟩ : Tk) st.tks n = st.tks[k] := (one_some hk' (by rw [decide_eq_true_eq, hid k hk' hk]; exact h2) fun j hj hjk => by
   rw [decide_eq_false_iff_not, hid j hj (by omega)]
   exact h3 j hjk).1
  have hg : st.tks.getD k ⟨0, 0⟩ = st.tks[k] := by rw [List.getD_eq_getElem?_getD, List.getElem?_eq_getElem hk']; rfl
  rw [ho, e, hg]
  simp [Bool.or_comm]
theorem odd2_eq {p : Pl} {st : St} (h : ofErr p st = 0) {n : Int} (h1 : 1 ≤ n) : oddPt p st n = oddR2 p st n := by
 obtain ⟨hS, hM⟩ := ofErr_zero h
 unfold oddPt oddR2 askAt
 rw [if_neg (by rw [h]; decide)]
 cases hs : isOne Pt.id p.pts n with
 | false =>
  have hany : (p.pts.any fun x => decide (x.id = n)) = false := hs
  rw [hany]
  rfl
 | true =>
  have hany : (p.pts.any fun x => decide (x.id = n)) = true := hs
  rw [hany, if_pos rfl, lie_eq hS hM]
  have : ((n.toNat : Nat) : Int) = n := by omega
  rw [this]
  simp
theorem odd4_at {p : Pl} {st : St} (h : ofErr p st = 0) {n : Int} {k : Nat} (hk : k < p.rts.length) (e : p.rts[k].id = n) : oddRt st n = decide ((st.lks.getD k zLk).ph ≠ 0) := by
 obtain ⟨hS, hM⟩ := ofErr_zero h
 have hL := hM.1.2.2
 have hk' : k < st.lks.length := by rw [hL.1]; exact hk
 have hg : st.lks.getD k zLk = st.lks[k] := by rw [List.getD_eq_getElem?_getD, List.getElem?_eq_getElem hk']; rfl
 have hid := (hL.2 k hk' hk hk').1
 rw [hg, Bool.eq_iff_iff]
 unfold oddRt
 rw [List.any_eq_true, decide_eq_true_eq]
 constructor
 ·rintro ⟨x, hx, hp⟩
  rw [decide_eq_true_eq] at hp
  obtain ⟨j, hj, rfl⟩ := List.getElem_of_mem hx
  have hj' : j < p.rts.length := by rw [← hL.1]; exact hj
  have hid2 := (hL.2 j hj hj' hj).1
  have hu : p.rts[j] = p.rts[k] := rise_uniq (may_rts hS.1) (List.getElem_mem _) (List.getElem_mem _) (by rw [← hid2, e]; exact hp.1)
  have hjk : j = k := by
   rcases Nat.lt_trichotomy j k with q | q | q
   ·have := rise_lt (may_rts hS.1) hk q; rw [hu] at this; omega
   ·exact q
   ·have := rise_lt (may_rts hS.1) hj' q; rw [hu] at this; omega
  subst hjk
  exact hp.2
 ·intro hp
  exact ⟨st.lks[k], List.getElem_mem _, by rw [decide_eq_true_eq]; exact ⟨by rw [hid]; exact e, hp⟩⟩
theorem odd4_eq {p : Pl} {st : St} (h : ofErr p st = 0) (n : Int) : oddRt st n = oddR4 p st n := by
 obtain ⟨hS, hM⟩ := ofErr_zero h
 have hL := hM.1.2.2
 unfold oddR4
 cases hs : isOne Rt.id p.rts n with
 | false =>
  rw [Bool.false_and]
  unfold oddRt
  rw [List.any_eq_false]
  intro x hx
  rw [decide_eq_true_eq]
  rintro ⟨e, _⟩
  have : isOne Lk.id st.lks n = true := by unfold isOne; rw [List.any_eq_true]; exact ⟨x, hx, by rw [decide_eq_true_eq]; exact e⟩
  rw [pairs_one hL (fun _ _ r => r.1) n, hs] at this
  cases this
 | true =>
  obtain ⟨k, hk, e, h2, _⟩ := ix_at hs
  rw [Bool.true_and, e, odd4_at h hk h2]
theorem odd3_eq {p : Pl} {st : St} (h : ofErr p st = 0) {n : Int} (h1 : 1 ≤ n) : oddSg p st n = oddR3 p st n := by
 unfold oddSg oddR3
 rw [Bool.eq_iff_iff, List.any_eq_true, List.any_eq_true]
 have hg : ∀ i (hi : i < p.rts.length), p.rts.getD i zRt = p.rts[i] := fun i hi => by rw [List.getD_eq_getElem?_getD, List.getElem?_eq_getElem hi]; rfl
 constructor
 ·rintro ⟨x, hx, hp⟩
  obtain ⟨i, hi, rfl⟩ := List.getElem_of_mem hx
  rw [Bool.and_eq_true, Bool.and_eq_true, decide_eq_true_eq, odd4_at h hi rfl, decide_eq_true_eq] at hp
  exact ⟨i, List.mem_range.2 hi, by rw [decide_eq_true_eq, hg i hi]; exact ⟨hp.1.1, of_decide_eq_true hp.2⟩⟩
 ·rintro ⟨i, hi, hp⟩
  have hi := List.mem_range.1 hi
  rw [decide_eq_true_eq, hg i hi] at hp
  exact ⟨p.rts[i], List.getElem_mem _, by rw [Bool.and_eq_true, Bool.and_eq_true, odd4_at h hi rfl]; exact ⟨⟨decide_eq_true hp.1, decide_eq_true (by have := hp.1; omega)⟩, decide_eq_true hp.2⟩⟩
theorem left_eq {p : Pl} {st : St} (h : ofErr p st = 0) (x : Ar) : oddA p st x = leftR p st x := by
 obtain ⟨hS, hM⟩ := ofErr_zero h
 unfold oddA
 rw [if_pos h]
 unfold oddAr leftR
 have b1 : ∀ a, oddSec p st a = true → 1 ≤ a ∧ a ≤ 99 := fun a ha => by
  unfold oddSec at ha
  rw [Bool.and_eq_true, pairs_one hM.1.1 (fun _ _ r => r.1) a] at ha
  have h2 := one_is (z := zSec) ha.1
  obtain ⟨i, hi, e⟩ := List.getElem_of_mem h2.1
  have h3 := (may_secs hS.1 i hi hi).1
  have h4 : p.secs[i].id = a := by rw [e]; exact h2.2
  omega
 have b2 : ∀ a, oddPt p st a = true → 1 ≤ a ∧ a ≤ 99 := fun a ha => by
  unfold oddPt askAt at ha
  rw [if_neg (by rw [h]; decide)] at ha
  cases hs : isOne Pt.id p.pts a with
  | false =>
   have hany : (p.pts.any fun x => decide (x.id = a)) = false := hs
   rw [hany] at ha
   simp at ha
  | true =>
   have h2 := one_is (z := (⟨0, 0⟩ : Pt)) hs
   obtain ⟨i, hi, e⟩ := List.getElem_of_mem h2.1
   have h3 := (may_pts hS.1 i hi hi).1
   have h4 : p.pts[i].id = a := by rw [e]; exact h2.2
   omega
 have b4 : ∀ a, oddRt st a = true → 1 ≤ a ∧ a ≤ 99 := fun a ha => by
  unfold oddRt at ha
  rw [List.any_eq_true] at ha
  obtain ⟨x, hx, hp⟩ := ha
  rw [decide_eq_true_eq] at hp
  obtain ⟨i, hi, rfl⟩ := List.getElem_of_mem hx
  have hi' : i < p.rts.length := by rw [← hM.1.2.2.1]; exact hi
  have h2 := (hM.1.2.2.2 i hi hi' hi).1
  have h3 := (may_rts hS.1 i hi' hi').1
  omega
 have b3 : ∀ a, oddSg p st a = true → 1 ≤ a ∧ a ≤ 99 := fun a ha => by
  unfold oddSg at ha
  rw [List.any_eq_true] at ha
  obtain ⟨x, hx, hp⟩ := ha
  obtain ⟨i, hi, rfl⟩ := List.getElem_of_mem hx
  rw [Bool.and_eq_true, Bool.and_eq_true, decide_eq_true_eq, decide_eq_true_eq] at hp
  have hR := (may_rt hS.1 hi).1
  have key : ∀ m, isOne Sg.id p.sigs m = true → 1 ≤ m ∧ m ≤ 99 := fun m hm => by
   have h2 := one_is (z := zSg) hm
   obtain ⟨j, hj, e⟩ := List.getElem_of_mem h2.1
   have h3 := (may_sigs hS.1 j hj hj).1
   have h4 : p.sigs[j].id = m := by rw [e]; exact h2.2
   omega
  rcases hp.1.1 with e | e
  ·rw [← e]; exact key _ hR.1
  ·by_cases hz : p.rts[i].exit = 0
   ·omega
   ·rw [← e]; exact key _ (hR.2.1 hz).1
 rw [norm_pick b1 fun a h1 _ => odd1_eq h h1, norm_pick b2 fun a h1 _ => odd2_eq h h1, norm_pick b3 fun a h1 _ => odd3_eq h h1, norm_pick b4 fun a _ _ => odd4_eq h a]
end Go.Proofs.YtbiehpjhhopjaaaGreat
