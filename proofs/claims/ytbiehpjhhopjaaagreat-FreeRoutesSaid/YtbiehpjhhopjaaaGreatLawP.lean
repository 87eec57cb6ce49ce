/-
  What layer 25's statements say, in plain words.
-/
import Derived.Test.YtbiehpjhhopjaaaGreatLawC
set_option linter.unusedVariables false
set_option linter.unusedSimpArgs false
namespace Go.Proofs.YtbiehpjhhopjaaaGreat
open Go.RowKit
theorem mem_sortI (l : List Int) (a : Int) : a ∈ sortI l ↔ a ∈ l := (List.mergeSort_perm l _).mem_iff
theorem mem_upTo (d : Array Int) (a : Int) : ∀ m : Nat, a ∈ Lib.compactUpTo d m ↔ ∃ j, j < m ∧ d[j]! = a
  | 0 => by simp [Lib.compactUpTo]
  | m + 1 => by
    rw [Lib.compactUpTo_succ, List.mem_append, mem_upTo d a m]
    constructor
    · rintro (⟨j, hj, e⟩ | h)
      · exact ⟨j, by omega, e⟩
      · split at h
        · rw [List.mem_singleton] at h; exact ⟨m, by omega, h.symm⟩
        · simp at h
    · rintro ⟨j, hj, e⟩
      by_cases hjm : j < m
      · exact .inl ⟨j, hjm, e⟩
      · obtain rfl : j = m := by omega
        cases hk : Lib.keeps d j with
        | true => right; simp [e]
        | false =>
          left
          unfold Lib.keeps at hk
          rw [decide_eq_false_iff_not, not_or, Classical.not_not] at hk
          exact ⟨j - 1, by omega, by rw [← hk.2]; exact e⟩
theorem mem_compact (l : List Int) (a : Int) : a ∈ Lib.compact l ↔ a ∈ l := by
  unfold Lib.compact
  rw [mem_upTo]
  constructor
  · rintro ⟨j, hj, e⟩
    have h1 : l.toArray[j]! = l[j] := by simp [hj]
    rw [h1] at e
    subst e
    exact List.getElem_mem hj
  · intro h
    obtain ⟨j, hj, e⟩ := List.getElem_of_mem h
    exact ⟨j, hj, by simp [hj, e]⟩
theorem mem_normI (l : List Int) (a : Int) : a ∈ normI l ↔ a ∈ l := by unfold normI; rw [mem_compact, mem_sortI]
theorem normI_nil {l : List Int} : normI l = [] ↔ l = [] := by
  rw [List.eq_nil_iff_forall_not_mem, List.eq_nil_iff_forall_not_mem]
  simp only [mem_normI]
/-- an area is free just if none of its elements is odd -/
theorem free_iff {p : Pl} {st : St} (h : ofErr p st = 0) (x : Ar) : isFree p st x = true ↔
    (∀ a ∈ x.s, oddSec p st a = false) ∧ (∀ a ∈ x.p, oddPt p st a = false) ∧ (∀ a ∈ x.g, oddSg p st a = false) ∧ ∀ a ∈ x.r, oddRt st a = false := by
  have hf : ∀ (l : List Int) (f : Int → Bool), eqB (normI (l.filter f)) [] = true ↔ ∀ a ∈ l, f a = false := fun l f => by
    unfold eqB
    rw [decide_eq_true_eq, normI_nil, List.filter_eq_nil_iff]
    simp
  unfold isFree oddA
  rw [if_pos h, decide_eq_true h, Bool.true_and]
  unfold sameA oddAr zAr
  rw [Bool.and_eq_true, Bool.and_eq_true, Bool.and_eq_true, hf, hf, hf, hf]
  constructor
  · rintro ⟨⟨⟨a, b⟩, c⟩, d⟩; exact ⟨a, b, c, d⟩
  · rintro ⟨a, b, c, d⟩; exact ⟨⟨⟨a, b⟩, c⟩, d⟩
theorem free_bad {p : Pl} {st : St} (h : ofErr p st ≠ 0) (x : Ar) : isFree p st x = false := by
  unfold isFree; rw [decide_eq_false h, Bool.false_and]
theorem odd_bad {p : Pl} {st : St} (h : ofErr p st ≠ 0) (x : Ar) : oddA p st x = zAr := by unfold oddA; rw [if_neg h]
theorem free_same {p : Pl} {st : St} (h : ofErr p st = 0) (x : Ar) : isFree p st x = sameA (oddA p st x) zAr := by
  unfold isFree; rw [decide_eq_true h, Bool.true_and]
/-- two areas as one -/
def joinA (x y : Ar) : Ar := ⟨x.s ++ y.s, x.p ++ y.p, x.g ++ y.g, x.r ++ y.r⟩
theorem free_both (p : Pl) (st : St) (x y : Ar) : isFree p st (joinA x y) = (isFree p st x && isFree p st y) := by
  by_cases h : ofErr p st = 0
  · rw [Bool.eq_iff_iff, Bool.and_eq_true, free_iff h, free_iff h, free_iff h]
    unfold joinA
    simp only [List.forall_mem_append]
    constructor
    · rintro ⟨⟨a1, b1⟩, ⟨a2, b2⟩, ⟨a3, b3⟩, ⟨a4, b4⟩⟩; exact ⟨⟨a1, a2, a3, a4⟩, b1, b2, b3, b4⟩
    · rintro ⟨⟨a1, a2, a3, a4⟩, b1, b2, b3, b4⟩; exact ⟨⟨a1, b1⟩, ⟨a2, b2⟩, ⟨a3, b3⟩, a4, b4⟩
  · rw [free_bad h, free_bad h]; rfl
/-- what is odd of an area: of a list of it, and odd -/
theorem has_odd {p : Pl} {st : St} (h : ofErr p st = 0) (x : Ar) (kind n : Int) : hasA (oddA p st x) kind n = true ↔
    (kind = 1 ∧ n ∈ x.s ∧ oddSec p st n = true) ∨ (kind = 2 ∧ n ∈ x.p ∧ oddPt p st n = true) ∨ (kind = 3 ∧ n ∈ x.g ∧ oddSg p st n = true) ∨ (kind = 4 ∧ n ∈ x.r ∧ oddRt st n = true) := by
  have hh : ∀ (l : List Int) (f : Int → Bool), hasB (normI (l.filter f)) n = true ↔ n ∈ l ∧ f n = true := fun l f => by
    unfold hasB
    rw [decide_eq_true_eq, mem_normI, List.mem_filter]
  unfold oddA
  rw [if_pos h]
  unfold hasA oddAr
  split
  · rename_i k; subst k; rw [hh]; simp
  · split
    · rename_i k; subst k; rw [hh]; simp
    · split
      · rename_i k; subst k; rw [hh]; simp
      · split
        · rename_i k; subst k; rw [hh]; simp
        · simp [*]
theorem odd_has (p : Pl) (st : St) (x : Ar) (kind n : Int) (hh : hasA (oddA p st x) kind n = true) : hasA x kind n = true := by
  by_cases h : ofErr p st = 0
  · have he : ∀ l : List Int, n ∈ l → hasB l n = true := fun l hl => by unfold hasB; rw [decide_eq_true_eq]; exact hl
    unfold hasA
    rcases (has_odd h x kind n).1 hh with ⟨rfl, h1, _⟩ | ⟨rfl, h1, _⟩ | ⟨rfl, h1, _⟩ | ⟨rfl, h1, _⟩
    · rw [if_pos rfl]; exact he _ h1
    · rw [if_neg (by decide), if_pos rfl]; exact he _ h1
    · rw [if_neg (by decide), if_neg (by decide), if_pos rfl]; exact he _ h1
    · rw [if_neg (by decide), if_neg (by decide), if_neg (by decide), if_pos rfl]; exact he _ h1
  · rw [odd_bad h] at hh
    unfold hasA hasB zAr at hh
    simp at hh
/-! ## images -/
def imgTk (x : Tk) : Tk := ⟨x.id, 2⟩
def imgSw (x : Sw) : Sw := ⟨x.id, 0, x.call⟩
def imgLk (l : Lk) (r : Rt) : Lk := ⟨l.id, l.ph, l.gone, if 0 < l.left then r.timer else l.left⟩
/-- a state's image -/
def imgSt (p : Pl) (st : St) : St := ⟨st.tks.map imgTk, st.sws.map imgSw, List.zipWith imgLk st.lks p.rts⟩
theorem phase_img {l : Lk} {r : Rt} (h : Phase l r) : Phase (imgLk l r) r := by
  unfold Phase imgLk at *
  simp only
  split <;> omega
theorem ofErr_of {p : Pl} {st : St} (h1 : PlanSound p) (h2 : StMay p st) : ofErr p st = 0 := by unfold ofErr; rw [if_pos h1, if_pos h2]
theorem call_img (l : List Sw) : callOf (l.map imgSw) = callOf l := by
  funext c
  unfold callOf oneOf
  rw [List.find?_map]
  have : ((fun x : Sw => decide (x.id = c)) ∘ imgSw) = fun x : Sw => decide (x.id = c) := rfl
  rw [this]
  cases l.find? (fun x : Sw => decide (x.id = c)) <;> rfl
theorem lk_img (p : Pl) (st : St) (hl : st.lks.length = p.rts.length) (i : Nat) : (imgSt p st).lks.getD i zLk = if i < st.lks.length then imgLk (st.lks.getD i zLk) (p.rts.getD i zRt) else zLk := by
  unfold imgSt
  simp only [List.getD_eq_getElem?_getD, List.getElem?_zipWith]
  by_cases h : i < st.lks.length
  · rw [if_pos h, List.getElem?_eq_getElem h, List.getElem?_eq_getElem (by omega : i < p.rts.length)]
    rfl
  · rw [if_neg h, List.getElem?_eq_none (by omega)]
    rfl
theorem gr_img (p : Pl) (st : St) (hl : st.lks.length = p.rts.length) : ∀ i, grTo p (imgSt p st) i = grTo p st i
  | 0 => rfl
  | i + 1 => by
    show grStep (callOf (imgSt p st).sws) (wyOf p (p.rts.getD i zRt)) ((imgSt p st).lks.getD i zLk) (grTo p (imgSt p st) i) = grStep (callOf st.sws) (wyOf p (p.rts.getD i zRt)) (st.lks.getD i zLk) (grTo p st i)
    rw [gr_img p st hl i, lk_img p st hl i]
    have hc : callOf (imgSt p st).sws = callOf st.sws := call_img st.sws
    rw [hc]
    by_cases h : i < st.lks.length
    · rw [if_pos h]; rfl
    · rw [if_neg h]
      have : st.lks.getD i zLk = zLk := by rw [List.getD_eq_getElem?_getD, List.getElem?_eq_none (by omega)]; rfl
      rw [this]
theorem img_len (p : Pl) (st : St) (hl : st.lks.length = p.rts.length) : (imgSt p st).lks.length = st.lks.length := by
  unfold imgSt; simp; omega
theorem grOf_img (p : Pl) (st : St) (hl : st.lks.length = p.rts.length) : grOf p (imgSt p st) = grOf p st := by
  unfold grOf; rw [img_len p st hl, gr_img p st hl]
theorem may_img {p : Pl} {st : St} (h : StMay p st) : StMay p (imgSt p st) := by
  obtain ⟨⟨hT, hS, hL⟩, hg⟩ := h
  refine ⟨⟨⟨by unfold imgSt; simp [hT.1], fun i h1 h2 _ => ?_⟩, ⟨by unfold imgSt; simp [hS.1], fun i h1 h2 _ => ?_⟩, ⟨by rw [img_len p st hL.1]; exact hL.1, fun i h1 h2 _ => ?_⟩⟩, by rw [grOf_img p st hL.1]; exact hg⟩
  · have h3 : i < st.tks.length := by unfold imgSt at h1; simpa using h1
    have := hT.2 i h3 h2 h3
    unfold imgSt TkAt at *
    simp [imgTk]
    exact this.1
  · have h3 : i < st.sws.length := by unfold imgSt at h1; simpa using h1
    have := hS.2 i h3 h2 h3
    unfold imgSt SwAt at *
    simp [imgSw]
    exact ⟨this.1, this.2.2⟩
  · have h3 : i < st.lks.length := by rw [img_len p st hL.1] at h1; exact h1
    have := hL.2 i h3 h2 h3
    have he : (imgSt p st).lks[i] = imgLk st.lks[i] p.rts[i] := by
      show (List.zipWith imgLk st.lks p.rts)[i]'h1 = _
      exact List.getElem_zipWith
    rw [he]
    exact ⟨this.1, phase_img this.2⟩
theorem err_img {p : Pl} {st : St} (h : ofErr p st = 0) : ofErr p (imgSt p st) = 0 := by
  obtain ⟨h1, h2⟩ := ofErr_zero h
  exact ofErr_of h1 (may_img h2)
theorem one_img (l : List Tk) (n : Int) : isOne Tk.id (l.map imgTk) n = isOne Tk.id l n := by
  unfold isOne; rw [List.any_map]; rfl
theorem is_img {l : List Tk} {n : Int} (h : isOne Tk.id l n = true) : (oneOf Tk.id ⟨0, 0⟩ (l.map imgTk) n).is = 2 := by
  have h1 := (one_is (z := (⟨0, 0⟩ : Tk)) ((one_img l n).trans h)).1
  obtain ⟨y, _, e⟩ := List.mem_map.1 h1
  rw [← e]; rfl
/-- in an image each track of the plan is odd -/
theorem sec_img {p : Pl} {st : St} {n : Int} (h : isOne Tk.id st.tks n = true) : oddSec p (imgSt p st) n = true := by
  have h1 : isOne Tk.id (imgSt p st).tks n = true := (one_img st.tks n).trans h
  have h2 : (oneOf Tk.id ⟨0, 0⟩ (imgSt p st).tks n).is = 2 := is_img h
  unfold oddSec
  rw [h1, h2]
  simp
theorem pt_img {p : Pl} {st : St} (h : ofErr p st = 0) (n : Int) : oddPt p (imgSt p st) n = oddPt p st n := by
  have hl := (ofErr_zero h).2.1.2.2.1
  unfold oddPt askAt
  rw [err_img h, h, grOf_img p st hl]
theorem any_img (f : Lk → Bool) (hf : ∀ l r, f (imgLk l r) = f l) : ∀ (l : List Lk) (r : List Rt), l.length = r.length → (List.zipWith imgLk l r).any f = l.any f
  | [], [], _ => rfl
  | [], _ :: _, h => by simp at h
  | _ :: _, [], h => by simp at h
  | x :: l, y :: r, h => by rw [List.zipWith_cons_cons, List.any_cons, List.any_cons, hf, any_img f hf l r (by simpa using h)]
theorem rt_img {p : Pl} {st : St} (hl : st.lks.length = p.rts.length) (n : Int) : oddRt (imgSt p st) n = oddRt st n :=
  any_img (fun x => decide (x.id = n ∧ x.ph ≠ 0)) (fun _ _ => rfl) st.lks p.rts hl
theorem sg_img {p : Pl} {st : St} (hl : st.lks.length = p.rts.length) (n : Int) : oddSg p (imgSt p st) n = oddSg p st n := by
  unfold oddSg
  simp only [rt_img hl]
/-- the law FreeFallen -/
theorem fallen_free {p : Pl} {st : St} (h : ofErr p st = 0) (x : Ar) (hf : isFree p (imgSt p st) x = true) (i : Nat) (hi : i < p.secs.length) : hasA x 1 p.secs[i].id = false := by
  have hT := (ofErr_zero h).2.1.1
  cases hh : hasA x 1 p.secs[i].id with
  | false => rfl
  | true =>
    unfold hasA hasB at hh
    rw [if_pos rfl, decide_eq_true_eq] at hh
    have h1 := ((free_iff (err_img h) x).1 hf).1 _ hh
    have hi' : i < st.tks.length := by rw [hT.1]; exact hi
    rw [sec_img] at h1
    · cases h1
    · unfold isOne
      rw [List.any_eq_true]
      exact ⟨st.tks[i], List.getElem_mem hi', by rw [decide_eq_true_eq]; exact (hT.2 i hi' hi hi').1⟩
theorem fallen_odd {p : Pl} {st : St} (h : ofErr p st = 0) (x : Ar) (kind n : Int) (hh : hasA (oddA p st x) kind n = true) : hasA (oddA p (imgSt p st) x) kind n = true := by
  have hl := (ofErr_zero h).2.1.2.2.1
  rw [has_odd h] at hh
  rw [has_odd (err_img h), pt_img h, sg_img hl, rt_img hl]
  rcases hh with ⟨h1, h2, h3⟩ | hh
  · refine .inl ⟨h1, h2, sec_img ?_⟩
    unfold oddSec at h3
    rw [Bool.and_eq_true] at h3
    exact h3.1
  · exact .inr hh
/-! ## what a route uses -/
/-- what is asked of the area of what a route uses -/
structure UsesOk (p : Pl) (id : Int) (u : Ar) : Prop where
  small : u.small
  rt : id ∈ u.r
  sg : ∀ n ∈ u.g, 0 < n
theorem free_rest {p : Pl} {st : St} {u : Ar} {id : Int} (h : ofErr p st = 0) (hu : UsesOk p id u) (hf : isFree p st u = true) (l : Lk) (hl : l ∈ st.lks) (hi : l.id = id) : l.ph = 0 := by
  have h1 := ((free_iff h u).1 hf).2.2.2 id hu.rt
  unfold oddRt at h1
  rw [List.any_eq_false] at h1
  have h2 := h1 l hl
  simp only [decide_eq_true_eq, not_and, Classical.not_not] at h2
  exact h2 hi
theorem free_sg {p : Pl} {st : St} {u : Ar} {id : Int} (h : ofErr p st = 0) (hu : UsesOk p id u) (hf : isFree p st u = true) (i : Nat) (h1 : i < p.rts.length) (h2 : i < st.lks.length) (hp : st.lks[i].ph ≠ 0) : hasA u 3 p.rts[i].entry = false ∧ hasA u 3 p.rts[i].exit = false := by
  have hL := (ofErr_zero h).2.1.2.2.2 i h2 h1 h2
  have hn : ∀ n, (p.rts[i].entry = n ∨ p.rts[i].exit = n) → hasA u 3 n = false := by
    intro n hn
    cases hh : hasA u 3 n with
    | false => rfl
    | true =>
      unfold hasA hasB at hh
      rw [if_neg (by decide), if_neg (by decide), if_pos rfl, decide_eq_true_eq] at hh
      have h3 := ((free_iff h u).1 hf).2.2.1 n hh
      unfold oddSg at h3
      rw [List.any_eq_false] at h3
      have h4 := h3 p.rts[i] (List.getElem_mem h1)
      rw [decide_eq_true hn, decide_eq_true (hu.sg n hh)] at h4
      exfalso
      apply h4
      rw [Bool.true_and, Bool.true_and]
      unfold oddRt
      rw [List.any_eq_true]
      exact ⟨st.lks[i], List.getElem_mem h2, by rw [decide_eq_true_eq]; exact ⟨hL.1, hp⟩⟩
  exact ⟨hn _ (.inl rfl), hn _ (.inr rfl)⟩
theorem free_sec {p : Pl} {st : St} {u : Ar} (h : ofErr p st = 0) (hf : isFree p st u = true) (i : Nat) (h1 : i < st.tks.length) : (holderOf p st st.tks[i].id).2 = 0 ∧ (hasA u 1 st.tks[i].id = true → (holderOf p st st.tks[i].id).1 = 0 ∧ st.tks[i].is = 0) := by
  obtain ⟨hS, hM⟩ := ofErr_zero h
  have hT := hM.1.1
  have h2 : i < p.secs.length := by rw [← hT.1]; exact h1
  have hid := (hT.2 i h1 h2 h1).1
  have hone : isOne Tk.id st.tks st.tks[i].id = true := by
    unfold isOne
    rw [List.any_eq_true]
    exact ⟨st.tks[i], List.getElem_mem h1, by simp⟩
  have hsec : (p.secs.any fun x => decide (x.id = st.tks[i].id)) = true := by
    rw [List.any_eq_true]
    exact ⟨p.secs[i], List.getElem_mem h2, by rw [decide_eq_true_eq]; exact hid.symm⟩
  have he : (holderOf p st st.tks[i].id).2 = 0 := by
    unfold holderOf
    rw [if_neg (by rw [h]; decide), hsec]
    rfl
  refine ⟨he, fun hh => ?_⟩
  unfold hasA hasB at hh
  rw [if_pos rfl, decide_eq_true_eq] at hh
  have h3 := ((free_iff h u).1 hf).1 _ hh
  unfold oddSec at h3
  rw [hone, Bool.true_and, Bool.or_eq_false_iff, Bool.or_eq_false_iff] at h3
  have h4 := h3.1.2
  have h5 := h3.2
  rw [decide_eq_false_iff_not, Classical.not_not] at h4 h5
  refine ⟨h4, ?_⟩
  have h6 := one_is (z := (⟨0, 0⟩ : Tk)) hone
  obtain ⟨j, hj, e⟩ := List.getElem_of_mem h6.1
  have hij : j = i := by
    have hr : SecsA p.secs p.secs.length := hS.1.1.2.2.2.2.2.1
    have h7 : st.tks[j].id = st.tks[i].id := by rw [e]; exact h6.2
    have hj2 : j < p.secs.length := by rw [← hT.1]; exact hj
    have h8 := (hT.2 j hj hj2 hj).1
    have h9 : p.secs[j].id = p.secs[i].id := by rw [← h8, ← hid]; exact h7
    rcases Nat.lt_trichotomy j i with q | q | q
    · have := ((hr i h2 h2).2 j q).1; omega
    · exact q
    · have := ((hr j hj2 hj2).2 i q).1; omega
  subst hij
  rw [e]
  exact h5
theorem free_pt {p : Pl} {st : St} {u : Ar} (h : ofErr p st = 0) (hf : isFree p st u = true) (i : Nat) (h1 : i < st.sws.length) : (askAt p st st.sws[i].id).2 = 0 ∧ (hasA u 2 st.sws[i].id = true → (askAt p st st.sws[i].id).1 = 0) := by
  obtain ⟨hS, hM⟩ := ofErr_zero h
  have hT := hM.1.2.1
  have h2 : i < p.pts.length := by rw [← hT.1]; exact h1
  have hid := (hT.2 i h1 h2 h1).1
  have hpt : (p.pts.any fun x => decide (x.id = st.sws[i].id)) = true := by
    rw [List.any_eq_true]
    exact ⟨p.pts[i], List.getElem_mem h2, by rw [decide_eq_true_eq]; exact hid.symm⟩
  have he : (askAt p st st.sws[i].id).2 = 0 := by
    unfold askAt
    rw [if_neg (by rw [h]; decide), hpt]
    rfl
  refine ⟨he, fun hh => ?_⟩
  unfold hasA hasB at hh
  rw [if_neg (by decide), if_pos rfl, decide_eq_true_eq] at hh
  have h3 := ((free_iff h u).1 hf).2.1 _ hh
  unfold oddPt at h3
  rw [he] at h3
  simpa using h3
end Go.Proofs.YtbiehpjhhopjaaaGreat
