/-
 Plans, states and areas as plain data.
 Plans that may be, as plain data.
 What a plan's points have to be, as plain data.
 The one of a number, as plain data.
 What a plan's signals have to be, as plain data.
 What a plan's route has to be, as plain data.
 What a plan has to be, as plain data.
 What a route comes to, as plain data.
 Plans that may run, states that may be, as plain data.
-/
namespace Go.Proofs.YtbiehpjhhopjaaaGreat
structure Jn where
 to : Int
 en : Int
structure Sec where
 id : Int
 pt : Int
 ends : List Jn
structure Pt where
 id : Int
 sec : Int
structure Sg where
 id : Int
 sec : Int
 en : Int
structure Fl where
 pt : Int
 lie : Int
structure Rt where
 id : Int
 entry : Int
 exit : Int
 path : List Int
 over : List Int
 fl : List Fl
 timer : Int
structure Pl where
 ver : Int
 par : Int
 secs : List Sec
 pts : List Pt
 sigs : List Sg
 rts : List Rt
structure Ask where
 pt : Int
 lie : Int
 pl : Int
structure Wy where
 path : List Int
 over : List Int
 asks : List Ask
 near : Int
structure Tk where
 id : Int
 is : Int
structure Sw where
 id : Int
 lie : Int
 call : Int
structure Lk where
 id : Int
 ph : Int
 gone : Int
 left : Int
structure St where
 tks : List Tk
 sws : List Sw
 lks : List Lk
instance : DecidableEq Jn := fun a b => decidable_of_iff (a.to = b.to ∧ a.en = b.en) (by cases a; cases b; simp)
instance : DecidableEq Sec := fun a b => decidable_of_iff (a.id = b.id ∧ a.pt = b.pt ∧ a.ends = b.ends) (by cases a; cases b; simp)
instance : DecidableEq Pt := fun a b => decidable_of_iff (a.id = b.id ∧ a.sec = b.sec) (by cases a; cases b; simp)
instance : DecidableEq Sg := fun a b => decidable_of_iff (a.id = b.id ∧ a.sec = b.sec ∧ a.en = b.en) (by cases a; cases b; simp)
instance : DecidableEq Fl := fun a b => decidable_of_iff (a.pt = b.pt ∧ a.lie = b.lie) (by cases a; cases b; simp)
instance : DecidableEq Rt := fun a b => decidable_of_iff (a.id = b.id ∧ a.entry = b.entry ∧ a.exit = b.exit ∧ a.path = b.path ∧ a.over = b.over ∧ a.fl = b.fl ∧ a.timer = b.timer) (by cases a; cases b; simp)
instance : DecidableEq Ask := fun a b => decidable_of_iff (a.pt = b.pt ∧ a.lie = b.lie ∧ a.pl = b.pl) (by cases a; cases b; simp)
instance : DecidableEq Tk := fun a b => decidable_of_iff (a.id = b.id ∧ a.is = b.is) (by cases a; cases b; simp)
instance : DecidableEq Sw := fun a b => decidable_of_iff (a.id = b.id ∧ a.lie = b.lie ∧ a.call = b.call) (by cases a; cases b; simp)
instance : DecidableEq Lk := fun a b => decidable_of_iff (a.id = b.id ∧ a.ph = b.ph ∧ a.gone = b.gone ∧ a.left = b.left) (by cases a; cases b; simp)
def Rt.fit (r : Rt) : Prop := r.path.length ≤ 1000 ∧ r.over.length ≤ 1000 ∧ r.fl.length ≤ 1000
structure Pl.Fit (p : Pl) : Prop where
 secs : p.secs.length ≤ 1000
 ends : ∀ i (h : i < p.secs.length), p.secs[i].ends.length ≤ 1000
 pts : p.pts.length ≤ 1000
 sigs : p.sigs.length ≤ 1000
 rts : p.rts.length ≤ 1000
 rt : ∀ i (h : i < p.rts.length), p.rts[i].fit
def St.fit (s : St) : Prop := s.tks.length ≤ 1000 ∧ s.sws.length ≤ 1000 ∧ s.lks.length ≤ 1000
def Sec.Shaped (s : Sec) : Prop := (s.pt = 0 ∧ s.ends.length = 2) ∨ (1 ≤ s.pt ∧ s.pt ≤ 99 ∧ s.ends.length = 3)
instance (s : Sec) : Decidable s.Shaped := by unfold Sec.Shaped; exact inferInstance
def Joined (l : List Sec) (s : Sec) (e : Nat) (j : Jn) : Prop :=
 (j.to = 0 ∧ j.en = 0) ∨ (¬ (j.to = s.id ∧ j.en = e) ∧ ∃ t ∈ l, t.id = j.to ∧ 0 ≤ j.en ∧ t.ends[j.en.toNat]? = some ⟨s.id, e⟩)
instance (l : List Sec) (s : Sec) (e : Nat) (j : Jn) : Decidable (Joined l s e j) := by unfold Joined; exact inferInstance
def SecsA (l : List Sec) (k : Nat) : Prop :=
 ∀ i (h : i < l.length), i < k → (1 ≤ l[i].id ∧ l[i].id ≤ 99 ∧ l[i].Shaped) ∧ ∀ m (hm : m < i), l[m].id < l[i].id ∧ (l[i].pt ≠ 0 → l[m].pt ≠ l[i].pt)
def SecsB (l : List Sec) (k : Nat) : Prop := ∀ i (h : i < l.length), i < k → ∀ e (he : e < l[i].ends.length), Joined l l[i] e l[i].ends[e]
def SecsMay (l : List Sec) : Prop := l.length ≤ 16 ∧ SecsA l l.length ∧ SecsB l l.length
instance (l : List Sec) (k : Nat) : Decidable (SecsA l k) := by unfold SecsA; exact inferInstance
instance (l : List Sec) (k : Nat) : Decidable (SecsB l k) := by unfold SecsB; exact inferInstance
instance (l : List Sec) : Decidable (SecsMay l) := by unfold SecsMay; exact inferInstance
def fix {α : Type} (p : α → Bool) (l : List α) : Int := match l.findIdx? p with | some i => (i : Int) | none => -1
theorem fix_some {α : Type} {p : α → Bool} {l : List α} {k : Nat} (hk : k < l.length) (hp : p l[k] = true) (hno : ∀ j (h : j < l.length), j < k → p l[j] = false) : fix p l = k := by
 unfold fix
 have : l.findIdx? p = some k := List.findIdx?_eq_some_iff_getElem.2 ⟨hk, hp, fun j hj => by rw [hno j (by omega) hj]; simp⟩
 rw [this]
theorem fix_none {α : Type} {p : α → Bool} {l : List α} (hno : ∀ j (h : j < l.length), p l[j] = false) : fix p l = -1 := by
 unfold fix
 have : l.findIdx? p = none := List.findIdx?_eq_none_iff.2 fun x hx => by
  obtain ⟨i, hi, rfl⟩ := List.getElem_of_mem hx
  exact hno i hi
 rw [this]
theorem fix_cases {α : Type} (p : α → Bool) (l : List α) : (fix p l = -1 ∧ ∀ j (h : j < l.length), p l[j] = false) ∨ ∃ k, ∃ h : k < l.length, fix p l = (k : Int) ∧ p l[k] = true ∧ ∀ j (h : j < l.length), j < k → p l[j] = false := by
 unfold fix
 cases hf : l.findIdx? p with
 | none => exact .inl ⟨rfl, fun j h => List.findIdx?_eq_none_iff.1 hf _ (List.getElem_mem h)⟩
 | some k =>
  obtain ⟨h1, h2, h3⟩ := List.findIdx?_eq_some_iff_getElem.1 hf
  exact .inr ⟨k, h1, rfl, h2, fun j h hj => by have := h3 j hj; simpa using this⟩
end Go.Proofs.YtbiehpjhhopjaaaGreat
namespace Go.Proofs.YtbiehpjhhopjaaaGreat
def RiseTo {α : Type} (f : α → Int) (l : List α) (k : Nat) : Prop := ∀ i (h : i < l.length), i < k → (1 ≤ f l[i] ∧ f l[i] ≤ 99) ∧ ∀ h' : 0 < i, f l[i - 1] < f l[i]
instance {α : Type} (f : α → Int) (l : List α) (k : Nat) : Decidable (RiseTo f l k) := by unfold RiseTo; exact inferInstance
end Go.Proofs.YtbiehpjhhopjaaaGreat
namespace Go.Proofs.YtbiehpjhhopjaaaGreat
def cntPt (l : List Sec) (k : Nat) : Nat := ((l.take k).filter fun s => decide (s.pt ≠ 0)).length
def idOfPt (l : List Sec) (k : Nat) (q : Nat) : Int := match (l.take k).find? (fun s => decide (0 < q ∧ s.pt = (q : Int))) with | some s => s.id | none => 0
def PtsMay (p : Pl) : Prop := (RiseTo Pt.id p.pts p.pts.length ∧ (p.pts.length : Int) ≤ 6) ∧ cntPt p.secs p.secs.length = p.pts.length ∧ ∀ i (h : i < p.pts.length), ∃ s ∈ p.secs, s.id = p.pts[i].sec ∧ s.pt = p.pts[i].id
instance (p : Pl) : Decidable (PtsMay p) := by unfold PtsMay; exact inferInstance
theorem cntPt_zero (l : List Sec) : cntPt l 0 = 0 := by simp [cntPt]
theorem cntPt_step {l : List Sec} {k : Nat} (h : k < l.length) : cntPt l (k + 1) = cntPt l k + if l[k].pt ≠ 0 then 1 else 0 := by
 unfold cntPt
 rw [List.take_succ_eq_append_getElem h, List.filter_append, List.length_append]
 congr 1
 by_cases e : l[k].pt ≠ 0 <;> simp [e]
theorem cntPt_le (l : List Sec) (k : Nat) : cntPt l k ≤ l.length := by
 unfold cntPt
 exact Nat.le_trans (List.length_filter_le _ _) (by rw [List.length_take]; omega)
theorem idOfPt_zero (l : List Sec) (q : Nat) : idOfPt l 0 q = 0 := by simp [idOfPt]
theorem idOfPt_skip {l : List Sec} {k : Nat} (h : k < l.length) (h0 : ¬ 0 < l[k].pt) (q : Nat) : idOfPt l k q = idOfPt l (k + 1) q := by
 unfold idOfPt
 rw [List.take_succ_eq_append_getElem h, List.find?_append]
 have hn : [l[k]].find? (fun s => decide (0 < q ∧ s.pt = (q : Int))) = none := by
  rw [List.find?_eq_none]
  intro x hx
  rw [List.mem_singleton] at hx
  subst hx
  simp; omega
 rw [hn]
 cases (l.take k).find? (fun s => decide (0 < q ∧ s.pt = (q : Int))) <;> rfl
theorem idOfPt_step {l : List Sec} {k : Nat} (h : k < l.length) (hA : SecsA l l.length) (p : Nat) (h0 : 0 < p) (hp : l[k].pt = (p : Int)) (q : Nat) : (if q = p then l[k].id else idOfPt l k q) = idOfPt l (k + 1) q := by
 unfold idOfPt
 rw [List.take_succ_eq_append_getElem h, List.find?_append]
 by_cases hq : q = p
 ·subst hq
  rw [if_pos rfl]
  have hn : (l.take k).find? (fun s => decide (0 < q ∧ s.pt = (q : Int))) = none := by
   rw [List.find?_eq_none]
   intro x hx
   obtain ⟨i, hi, rfl⟩ := List.getElem_of_mem hx
   rw [List.length_take] at hi
   rw [List.getElem_take]
   have := ((hA k h h).2 i (by omega)).2 (by omega)
   simp; omega
  rw [hn]
  simp [hp, h0]
 ·rw [if_neg hq]
  have hn : [l[k]].find? (fun s => decide (0 < q ∧ s.pt = (q : Int))) = none := by
   rw [List.find?_eq_none]
   intro x hx
   rw [List.mem_singleton] at hx
   subst hx
   simp; omega
  rw [hn]
  cases (l.take k).find? (fun s => decide (0 < q ∧ s.pt = (q : Int))) <;> rfl
theorem idOfPt_iff {l : List Sec} (hA : SecsA l l.length) (q : Nat) (h0 : 0 < q) (n : Int) : (n ≠ 0 ∧ idOfPt l l.length q = n) ↔ ∃ s ∈ l, s.id = n ∧ s.pt = (q : Int) := by
 unfold idOfPt
 rw [List.take_length]
 constructor
 ·rintro ⟨h1, h2⟩
  cases hf : l.find? (fun s => decide (0 < q ∧ s.pt = (q : Int))) with
  | none => rw [hf] at h2; exact absurd h2.symm h1
  | some s =>
   rw [hf] at h2
   have h3 := List.find?_some hf
   simp at h3
   exact ⟨s, List.mem_of_find?_eq_some hf, h2, h3.2⟩
 ·rintro ⟨s, hs, h1, h2⟩
  obtain ⟨i, hi, rfl⟩ := List.getElem_of_mem hs
  have hid := (hA i hi hi).1
  refine ⟨by omega, ?_⟩
  cases hf : l.find? (fun s => decide (0 < q ∧ s.pt = (q : Int))) with
  | none =>
   have := List.find?_eq_none.1 hf l[i] (List.getElem_mem hi)
   simp [h2, h0] at this
  | some t =>
   have h3 := List.find?_some hf
   simp at h3
   obtain ⟨j, hj, rfl⟩ := List.getElem_of_mem (List.mem_of_find?_eq_some hf)
   have : i = j := by
    rcases Nat.lt_trichotomy i j with h | h | h
    ·have := ((hA j hj hj).2 i h).2 (by omega); omega
    ·exact h
    ·have := ((hA i hi hi).2 j h).2 (by omega); omega
   subst this
   exact h1
end Go.Proofs.YtbiehpjhhopjaaaGreat
namespace Go.Proofs.YtbiehpjhhopjaaaGreat
def oneOf {α : Type} (f : α → Int) (z : α) (l : List α) (n : Int) : α := (l.find? fun x => decide (f x = n)).getD z
def isOne {α : Type} (f : α → Int) (l : List α) (n : Int) : Bool := l.any fun x => decide (f x = n)
theorem one_none {α : Type} {f : α → Int} {z : α} {l : List α} {n : Int} (h : ∀ j (h : j < l.length), decide (f l[j] = n) = false) : oneOf f z l n = z ∧ isOne f l n = false := by
 constructor
 ·unfold oneOf
  rw [List.find?_eq_none.2]
  ·rfl
  ·intro x hx
   obtain ⟨i, hi, rfl⟩ := List.getElem_of_mem hx
   simp [h i hi]
 ·unfold isOne
  rw [List.any_eq_false]
  intro x hx
  obtain ⟨i, hi, rfl⟩ := List.getElem_of_mem hx
  simp [h i hi]
theorem one_some {α : Type} {f : α → Int} {z : α} {l : List α} {n : Int} {k : Nat} (hk : k < l.length) (h1 : decide (f l[k] = n) = true) (h2 : ∀ j (h : j < l.length), j < k → decide (f l[j] = n) = false) : oneOf f z l n = l[k] ∧ isOne f l n = true := by
 constructor
 ·unfold oneOf
  have : (l.find? fun x => decide (f x = n)) = some l[k] := List.find?_eq_some_iff_getElem.2 ⟨h1, k, hk, rfl, fun j hj => by rw [h2 j (by omega) hj]; rfl⟩
  rw [this]
  rfl
 ·unfold isOne
  rw [List.any_eq_true]
  exact ⟨l[k], List.getElem_mem hk, h1⟩
theorem one_is {α : Type} {f : α → Int} {z : α} {l : List α} {n : Int} (h : isOne f l n = true) : oneOf f z l n ∈ l ∧ f (oneOf f z l n) = n := by
 unfold isOne at h
 rw [List.any_eq_true] at h
 obtain ⟨x, hx, h1⟩ := h
 unfold oneOf
 cases hf : l.find? fun x => decide (f x = n) with
 | none => exact absurd h1 (by have := List.find?_eq_none.1 hf x hx; simpa using this)
 | some y => exact ⟨List.mem_of_find?_eq_some hf, by have := List.find?_some hf; simpa using this⟩
end Go.Proofs.YtbiehpjhhopjaaaGreat
namespace Go.Proofs.YtbiehpjhhopjaaaGreat
def There (f : Nat → Int) (n : Int) : Prop := 0 ≤ n ∧ n ≤ 99 ∧ 0 < f n.toNat
instance (f : Nat → Int) (n : Int) : Decidable (There f n) := by unfold There; exact inferInstance
def SigAt (f : Nat → Int) (x : Sg) : Prop := There f x.sec ∧ 0 ≤ x.en ∧ x.en < f x.sec.toNat
instance (f : Nat → Int) (x : Sg) : Decidable (SigAt f x) := by unfold SigAt; exact inferInstance
def SigsA (f : Nat → Int) (l : List Sg) (k : Nat) : Prop := ∀ i (h : i < l.length), i < k → SigAt f l[i] ∧ ∀ m (hm : m < i), ¬ (l[m].sec = l[i].sec ∧ l[m].en = l[i].en)
instance (f : Nat → Int) (l : List Sg) (k : Nat) : Decidable (SigsA f l k) := by unfold SigsA; exact inferInstance
def SigsMay (f : Nat → Int) (l : List Sg) : Prop := (RiseTo Sg.id l l.length ∧ (l.length : Int) ≤ 10) ∧ SigsA f l l.length
instance (f : Nat → Int) (l : List Sg) : Decidable (SigsMay f l) := by unfold SigsMay; exact inferInstance
def sgSpot (x : Sg) : Nat := x.sec.toNat * 3 + x.en.toNat
def stands (l : List Sg) (k : Nat) (q : Nat) : Bool := (l.take k).any fun x => decide (sgSpot x = q)
theorem stands_zero (l : List Sg) (q : Nat) : stands l 0 q = false := by simp [stands]
theorem stands_step {l : List Sg} {k : Nat} (h : k < l.length) (p : Nat) (hp : sgSpot l[k] = p) (q : Nat) : (if q = p then true else stands l k q) = stands l (k + 1) q := by
 unfold stands
 rw [List.take_succ_eq_append_getElem h, List.any_append]
 by_cases hq : q = p
 ·rw [if_pos hq]; simp [hp, hq]
 ·rw [if_neg hq]
  have : ¬ p = q := fun e => hq e.symm
  simp [hp, this]
theorem spot_inj {f : Nat → Int} (h3 : ∀ q, f q ≤ 3) {x y : Sg} (hx : SigAt f x) (hy : SigAt f y) : sgSpot x = sgSpot y ↔ (x.sec = y.sec ∧ x.en = y.en) := by
 obtain ⟨⟨a1, a2, a3⟩, a4, a5⟩ := hx
 obtain ⟨⟨b1, b2, b3⟩, b4, b5⟩ := hy
 have := h3 x.sec.toNat
 have := h3 y.sec.toNat
 unfold sgSpot
 omega
theorem stands_iff {f : Nat → Int} (h3 : ∀ q, f q ≤ 3) {l : List Sg} {k : Nat} (h : k < l.length) (hA : SigsA f l k) (hk : SigAt f l[k]) :
  stands l k (sgSpot l[k]) = true ↔ ¬ ∀ m (hm : m < k), ¬ (l[m].sec = l[k].sec ∧ l[m].en = l[k].en) := by
 unfold stands
 rw [List.any_eq_true]
 constructor
 ·rintro ⟨x, hx, hp⟩ hall
  obtain ⟨i, hi, rfl⟩ := List.getElem_of_mem hx
  rw [List.length_take] at hi
  rw [List.getElem_take] at hp
  simp only [decide_eq_true_eq] at hp
  exact hall i (by omega) ((spot_inj h3 (hA i (by omega) (by omega)).1 hk).1 hp)
 ·intro hn
  simp only [Classical.not_forall, Classical.not_not] at hn
  obtain ⟨m, hm, he⟩ := hn
  refine ⟨l[m], List.mem_iff_getElem.2 ⟨m, by rw [List.length_take]; omega, by rw [List.getElem_take]⟩, ?_⟩
  simp only [decide_eq_true_eq]
  exact (spot_inj h3 (hA m (by omega) (by omega)).1 hk).2 he
theorem sigsA_step {f : Nat → Int} {l : List Sg} {k : Nat} (h : k < l.length) (hA : SigsA f l k) (hk : SigAt f l[k]) (hno : ∀ m (hm : m < k), ¬ (l[m].sec = l[k].sec ∧ l[m].en = l[k].en)) : SigsA f l (k + 1) := by
 intro i hi hik
 rcases Nat.lt_or_ge i k with h' | h'
 ·exact hA i hi h'
 ·obtain rfl : i = k := by omega
  exact ⟨hk, hno⟩
end Go.Proofs.YtbiehpjhhopjaaaGreat
namespace Go.Proofs.YtbiehpjhhopjaaaGreat
def RtHead (l : List Sg) (r : Rt) : Prop :=
 isOne Sg.id l r.entry = true ∧ (r.exit ≠ 0 → isOne Sg.id l r.exit = true ∧ r.exit ≠ r.entry) ∧ (r.exit = 0 → r.over.length = 0) ∧
 1 ≤ r.path.length ∧ r.path.length ≤ 6 ∧ r.over.length ≤ 2 ∧ r.fl.length ≤ 3 ∧ 1 ≤ r.timer ∧ r.timer ≤ 9
instance (l : List Sg) (r : Rt) : Decidable (RtHead l r) := by unfold RtHead; exact inferInstance
def PathA (f : Nat → Int) (e : Int) (l : List Int) (k : Nat) : Prop := ∀ i (h : i < l.length), i < k → There f l[i] ∧ l[i] ≠ e ∧ ∀ m (hm : m < i), l[m] ≠ l[i]
instance (f : Nat → Int) (e : Int) (l : List Int) (k : Nat) : Decidable (PathA f e l k) := by unfold PathA; exact inferInstance
def FlAt (q : List Pt) (l : List Fl) (i : Nat) (h : i < l.length) : Prop := isOne Pt.id q l[i].pt = true ∧ (∀ h' : 0 < i, l[i - 1].pt < l[i].pt) ∧ (l[i].lie = 1 ∨ l[i].lie = 2)
instance (q : List Pt) (l : List Fl) (i : Nat) (h : i < l.length) : Decidable (FlAt q l i h) := by unfold FlAt; exact inferInstance
def FlA (q : List Pt) (l : List Fl) (k : Nat) : Prop := ∀ i (h : i < l.length), i < k → FlAt q l i h
instance (q : List Pt) (l : List Fl) (k : Nat) : Decidable (FlA q l k) := by unfold FlA; exact inferInstance
def entSec (l : List Sg) (r : Rt) : Int := (oneOf Sg.id ⟨0, 0, 0⟩ l r.entry).sec
def RtMay (f : Nat → Int) (l : List Sg) (q : List Pt) (r : Rt) : Prop :=
 RtHead l r ∧ PathA f (entSec l r) (r.path ++ r.over) (r.path ++ r.over).length ∧ FlA q r.fl r.fl.length
instance (f : Nat → Int) (l : List Sg) (q : List Pt) (r : Rt) : Decidable (RtMay f l q r) := by unfold RtMay; exact inferInstance
def metOf (e : Int) (l : List Int) (k : Nat) (q : Nat) : Bool := decide ((q : Int) = e) || (l.take k).any fun x => decide (x = (q : Int))
theorem metOf_zero (e : Int) (l : List Int) (q : Nat) : metOf e l 0 q = decide ((q : Int) = e) := by simp [metOf]
theorem metOf_step (e : Int) {l : List Int} {k : Nat} (h : k < l.length) (p : Nat) (hp : l[k] = (p : Int)) (q : Nat) : (if q = p then true else metOf e l k q) = metOf e l (k + 1) q := by
 unfold metOf
 rw [List.take_succ_eq_append_getElem h, List.any_append]
 by_cases hq : q = p
 ·rw [if_pos hq]; simp [hp, hq]
 ·rw [if_neg hq]
  have : ¬ (p : Int) = (q : Int) := by omega
  simp [hp, this]
theorem metOf_iff (e : Int) {l : List Int} {k : Nat} (h : k < l.length) (p : Nat) (hp : l[k] = (p : Int)) : metOf e l k p = true ↔ ¬ (l[k] ≠ e ∧ ∀ m (hm : m < k), l[m] ≠ l[k]) := by
 unfold metOf
 rw [hp]
 constructor
 ·intro hx
  rintro ⟨h1, h2⟩
  rw [Bool.or_eq_true] at hx
  rcases hx with hx | hx
  ·exact h1 (by simpa using hx)
  ·rw [List.any_eq_true] at hx
   obtain ⟨x, hx, hp'⟩ := hx
   obtain ⟨i, hi, rfl⟩ := List.getElem_of_mem hx
   rw [List.length_take] at hi
   rw [List.getElem_take] at hp'
   exact h2 i (by omega) (by simpa using hp')
 ·intro hn
  rw [Bool.or_eq_true]
  by_cases h1 : (p : Int) = e
  ·exact .inl (by simpa using h1)
  ·right
   have h2 : ¬ ∀ m (hm : m < k), l[m] ≠ (p : Int) := fun h2 => hn ⟨h1, h2⟩
   simp only [Classical.not_forall, Ne, Classical.not_not] at h2
   obtain ⟨m, hm, he⟩ := h2
   rw [List.any_eq_true]
   exact ⟨l[m], List.mem_iff_getElem.2 ⟨m, by rw [List.length_take]; omega, by rw [List.getElem_take]⟩, by simpa using he⟩
theorem pathA_step {f : Nat → Int} {e : Int} {l : List Int} {k : Nat} (h : k < l.length) (hA : PathA f e l k) (hk : There f l[k] ∧ l[k] ≠ e ∧ ∀ m (hm : m < k), l[m] ≠ l[k]) : PathA f e l (k + 1) := by
 intro i hi hik
 rcases Nat.lt_or_ge i k with h' | h'
 ·exact hA i hi h'
 ·obtain rfl : i = k := by omega
  exact hk
theorem flA_step {q : List Pt} {l : List Fl} {k : Nat} (h : k < l.length) (hA : FlA q l k) (hk : FlAt q l k h) : FlA q l (k + 1) := by
 intro i hi hik
 rcases Nat.lt_or_ge i k with h' | h'
 ·exact hA i hi h'
 ·obtain rfl : i = k := by omega
  exact hk
end Go.Proofs.YtbiehpjhhopjaaaGreat
namespace Go.Proofs.YtbiehpjhhopjaaaGreat
def PlHead (p : Pl) : Prop := 1 ≤ p.ver ∧ p.ver ≤ 2147483647 ∧ 0 ≤ p.par ∧ p.par < p.ver ∧ SecsMay p.secs
instance (p : Pl) : Decidable (PlHead p) := by unfold PlHead; exact inferInstance
def PlMid (f : Nat → Int) (p : Pl) : Prop := PtsMay p ∧ SigsMay f p.sigs ∧ (RiseTo Rt.id p.rts p.rts.length ∧ (p.rts.length : Int) ≤ 16)
instance (f : Nat → Int) (p : Pl) : Decidable (PlMid f p) := by unfold PlMid; exact inferInstance
def RtsMay (f : Nat → Int) (p : Pl) (k : Nat) : Prop := ∀ i (h : i < p.rts.length), i < k → RtMay f p.sigs p.pts p.rts[i]
instance (f : Nat → Int) (p : Pl) (k : Nat) : Decidable (RtsMay f p k) := by unfold RtsMay; exact inferInstance
theorem rtsMay_step {f : Nat → Int} {p : Pl} {k : Nat} (h : k < p.rts.length) (hA : RtsMay f p k) (hk : RtMay f p.sigs p.pts p.rts[k]) : RtsMay f p (k + 1) := by
 intro i hi hik
 rcases Nat.lt_or_ge i k with h' | h'
 ·exact hA i hi h'
 ·obtain rfl : i = k := by omega
  exact hk
end Go.Proofs.YtbiehpjhhopjaaaGreat
namespace Go.Proofs.YtbiehpjhhopjaaaGreat
def lieTab (pt a b : Int) : Int :=
 if pt = 0 then (if (a = 0 ∧ b = 1) ∨ (a = 1 ∧ b = 0) then 3 else 0)
 else if (a = 0 ∧ b = 1) ∨ (a = 1 ∧ b = 0) then 1
 else if (a = 0 ∧ b = 2) ∨ (a = 2 ∧ b = 0) then 2 else 0
def thrE (s : Sec) (a b : Int) : Int := if ¬ s.Shaped then 8 else if a < 0 ∨ 2 < a ∨ b < 0 ∨ 2 < b ∨ lieTab s.pt a b = 0 then 2 else 0
def thrL (s : Sec) (a b : Int) : Int := if thrE s a b = 0 then (lieTab s.pt a b).tmod 3 else 0
structure Wk where
 inn : Jn
 asks : List Ask
 outs : List Jn
 lost : Bool
def zSec : Sec := ⟨0, 0, []⟩
def WkIn (l : List Sec) (k : Wk) (id : Int) : Prop := isOne Sec.id l id = true ∧ k.inn.to = id
instance (l : List Sec) (k : Wk) (id : Int) : Decidable (WkIn l k id) := by unfold WkIn; exact inferInstance
def wkSec (l : List Sec) (k : Wk) (id : Int) : Sec := if WkIn l k id then oneOf Sec.id zSec l id else zSec
def wkS (l : List Sec) (k : Wk) (id : Int) : Wk := if WkIn l k id then k else { k with lost := true }
def wkAsk (k : Wk) (pt lie pl : Int) : Wk := if 0 < pt ∧ 0 < lie then { k with asks := k.asks ++ [⟨pt, lie, pl⟩] } else k
def goes (s : Sec) (k : Wk) (right : Nat → Jn → Bool) (e : Nat) : Bool := !k.lost && decide (thrE s k.inn.en e = 0) && right e (s.ends.getD e ⟨0, 0⟩)
def wkGo (s : Sec) (k : Wk) (id pl : Int) (right : Nat → Jn → Bool) : Wk :=
 match (List.range s.ends.length).find? (goes s k right) with
 | some e => { wkAsk k s.pt (thrL s k.inn.en e) pl with inn := s.ends.getD e ⟨0, 0⟩, outs := k.outs ++ [⟨id, e⟩] }
 | none => { k with lost := true }
def wkThrough (l : List Sec) (k : Wk) (id pl : Int) (right : Nat → Jn → Bool) : Wk := wkGo (wkSec l k id) (wkS l k id) id pl right
def wkStay (l : List Sec) (k : Wk) (id pl : Int) : Wk :=
 if (wkS l k id).lost = false ∧ 0 < k.inn.en then wkAsk (wkS l k id) (wkSec l k id).pt k.inn.en pl else wkS l k id
def zSg : Sg := ⟨0, 0, 0⟩
def sgOf (p : Pl) (id : Int) : Sg := oneOf Sg.id zSg p.sigs id
def allOf (r : Rt) : List Int := r.path ++ r.over
def wkIn0 (p : Pl) (r : Rt) : Jn := (oneOf Sec.id zSec p.secs (sgOf p r.entry).sec).ends.getD (sgOf p r.entry).en.toNat ⟨0, 0⟩
def rightEnd (_ : Nat) (j : Jn) : Bool := decide (j.to = 0 ∧ j.en = 0)
def rightExit (s : Int) (x : Sg) (e : Nat) (_ : Jn) : Bool := decide (s = x.sec ∧ (e : Int) = x.en)
def rightNext (n : Int) (_ : Nat) (j : Jn) : Bool := decide (j.to = n)
def wkStep (p : Pl) (r : Rt) (i : Nat) (k : Wk) : Wk :=
 if i + 1 = r.path.length ∧ r.exit = 0 then wkThrough p.secs k ((allOf r).getD i 0) i rightEnd
 else if i + 1 = r.path.length then wkThrough p.secs k ((allOf r).getD i 0) i (rightExit ((allOf r).getD i 0) (sgOf p r.exit))
 else if i + 1 = (allOf r).length then wkStay p.secs k ((allOf r).getD i 0) i
 else wkThrough p.secs k ((allOf r).getD i 0) i (rightNext ((allOf r).getD (i + 1) 0))
def wkTo (p : Pl) (r : Rt) : Nat → Wk
 | 0 => ⟨wkIn0 p r, [], [], false⟩
 | i + 1 => wkStep p r i (wkTo p r i)
def wkEnd (p : Pl) (r : Rt) : Wk := wkTo p r (allOf r).length
def wkFl (k : Wk) (l : List Fl) : Nat → Wk
 | 0 => k
 | i + 1 => wkAsk (wkFl k l i) (l.getD i ⟨0, 0⟩).pt (l.getD i ⟨0, 0⟩).lie (-1)
def wkAll (p : Pl) (r : Rt) : Wk := wkFl (wkEnd p r) r.fl r.fl.length
def wyOf (p : Pl) (r : Rt) : Wy := ⟨r.path, r.over, (wkAll p r).asks, (sgOf p r.entry).sec⟩
def outsOf (p : Pl) (r : Rt) : List Jn := (wkEnd p r).outs
theorem find_at {f : Nat → Bool} {n k : Nat} (hk : k < n) (h1 : f k = true) (h2 : ∀ e, e < k → f e = false) : (List.range n).find? f = some k := by
 rw [List.find?_range_eq_some]
 exact ⟨h1, List.mem_range.2 hk, fun e he => by rw [h2 e he]; rfl⟩
theorem find_no {f : Nat → Bool} {n : Nat} (h2 : ∀ e, e < n → f e = false) : (List.range n).find? f = none := by
 rw [List.find?_range_eq_none]
 exact fun e he => by rw [h2 e he]; rfl
theorem wkGo_at {s : Sec} {k : Wk} {id pl : Int} {right : Nat → Jn → Bool} {e : Nat} (hk : e < s.ends.length) (h1 : goes s k right e = true) (h2 : ∀ i, i < e → goes s k right i = false) :
  wkGo s k id pl right = { wkAsk k s.pt (thrL s k.inn.en e) pl with inn := s.ends[e], outs := k.outs ++ [⟨id, e⟩] } := by
 unfold wkGo
 rw [find_at hk h1 h2]
 simp [List.getD_eq_getElem?_getD, List.getElem?_eq_getElem hk]
theorem wkGo_no {s : Sec} {k : Wk} {id pl : Int} {right : Nat → Jn → Bool} (h2 : ∀ i, i < s.ends.length → goes s k right i = false) : wkGo s k id pl right = { k with lost := true } := by
 unfold wkGo
 rw [find_no h2]
theorem wkAsk_outs (k : Wk) (a b c : Int) : (wkAsk k a b c).outs = k.outs := by unfold wkAsk; split <;> rfl
theorem wkAsk_len (k : Wk) (a b c : Int) : (wkAsk k a b c).asks.length ≤ k.asks.length + 1 := by unfold wkAsk; split <;> simp
theorem wkS_asks (l : List Sec) (k : Wk) (id : Int) : (wkS l k id).asks = k.asks := by unfold wkS; split <;> rfl
theorem wkS_outs (l : List Sec) (k : Wk) (id : Int) : (wkS l k id).outs = k.outs := by unfold wkS; split <;> rfl
theorem wkS_inn (l : List Sec) (k : Wk) (id : Int) : (wkS l k id).inn = k.inn := by unfold wkS; split <;> rfl
theorem wkS_lost (l : List Sec) (k : Wk) (id : Int) (h : k.lost = true) : (wkS l k id).lost = true := by unfold wkS; split <;> simp [h]
theorem wkGo_len (s : Sec) (k : Wk) (id pl : Int) (right : Nat → Jn → Bool) : (wkGo s k id pl right).asks.length ≤ k.asks.length + 1 ∧ (wkGo s k id pl right).outs.length ≤ k.outs.length + 1 := by
 unfold wkGo
 split
 ·exact ⟨wkAsk_len _ _ _ _, by simp⟩
 ·exact ⟨by simp, by simp⟩
theorem wkGo_out (s : Sec) (k : Wk) (id pl : Int) (right : Nat → Jn → Bool) (h : (wkGo s k id pl right).lost = false) : k.lost = false ∧ (wkGo s k id pl right).outs.length = k.outs.length + 1 := by
 unfold wkGo at h ⊢
 split
 ·rename_i e he
  have := List.find?_some he
  unfold goes at this
  simp at this
  exact ⟨this.1.1, by simp⟩
 ·rename_i he
  rw [he] at h
  simp at h
theorem wkThrough_out (l : List Sec) (k : Wk) (id pl : Int) (right : Nat → Jn → Bool) (h : (wkThrough l k id pl right).lost = false) : k.lost = false ∧ (wkThrough l k id pl right).outs.length = k.outs.length + 1 := by
 unfold wkThrough at h ⊢
 obtain ⟨h1, h2⟩ := wkGo_out _ _ _ _ _ h
 rw [wkS_outs] at h2
 refine ⟨?_, h2⟩
 cases hk : k.lost with
 | false => rfl
 | true => rw [wkS_lost _ _ _ hk] at h1; cases h1
theorem wkStay_out (l : List Sec) (k : Wk) (id pl : Int) (h : (wkStay l k id pl).lost = false) : k.lost = false ∧ (wkStay l k id pl).outs = k.outs := by
 unfold wkStay at h ⊢
 have hl : (wkS l k id).lost = false := by
  split at h
  ·rename_i h1; exact h1.1
  ·exact h
 refine ⟨?_, ?_⟩
 ·cases hk : k.lost with
  | false => rfl
  | true => rw [wkS_lost _ _ _ hk] at hl; cases hl
 ·split
  ·rw [wkAsk_outs, wkS_outs]
  ·rw [wkS_outs]
theorem wkStep_len (p : Pl) (r : Rt) (i : Nat) (k : Wk) : (wkStep p r i k).asks.length ≤ k.asks.length + 1 ∧ (wkStep p r i k).outs.length ≤ k.outs.length + 1 := by
 have ht : ∀ id pl right, (wkThrough p.secs k id pl right).asks.length ≤ k.asks.length + 1 ∧ (wkThrough p.secs k id pl right).outs.length ≤ k.outs.length + 1 := by
  intro id pl right
  have := wkGo_len (wkSec p.secs k id) (wkS p.secs k id) id pl right
  rw [wkS_asks, wkS_outs] at this
  exact this
 unfold wkStep
 split
 ·exact ht _ _ _
 ·split
  ·exact ht _ _ _
  ·split
   ·unfold wkStay
    split
    ·have := wkAsk_len (wkS p.secs k ((allOf r).getD i 0)) (wkSec p.secs k ((allOf r).getD i 0)).pt k.inn.en i
     rw [wkS_asks] at this
     rw [wkAsk_outs, wkS_outs]
     exact ⟨this, by simp⟩
    ·rw [wkS_asks, wkS_outs]; simp
   ·exact ht _ _ _
theorem wkTo_len (p : Pl) (r : Rt) : ∀ i, (wkTo p r i).asks.length ≤ i ∧ (wkTo p r i).outs.length ≤ i
 | 0 => by simp [wkTo]
 | i + 1 => by
  have h1 := wkTo_len p r i
  have h2 := wkStep_len p r i (wkTo p r i)
  show (wkStep p r i (wkTo p r i)).asks.length ≤ _ ∧ (wkStep p r i (wkTo p r i)).outs.length ≤ _
  omega
theorem wkStep_out (p : Pl) (r : Rt) (i : Nat) (k : Wk) (h : (wkStep p r i k).lost = false) : k.lost = false ∧ k.outs.length ≤ (wkStep p r i k).outs.length ∧ (i < r.path.length → (wkStep p r i k).outs.length = k.outs.length + 1) := by
 have hl : r.path.length ≤ (allOf r).length := by unfold allOf; simp
 unfold wkStep at h ⊢
 split
 ·rename_i c; rw [if_pos c] at h
  have := wkThrough_out _ _ _ _ _ h
  exact ⟨this.1, by omega, fun _ => this.2⟩
 ·rename_i c; rw [if_neg c] at h
  split
  ·rename_i c; rw [if_pos c] at h
   have := wkThrough_out _ _ _ _ _ h
   exact ⟨this.1, by omega, fun _ => this.2⟩
  ·rename_i c1; rw [if_neg c1] at h
   split
   ·rename_i c2; rw [if_pos c2] at h
    have := wkStay_out _ _ _ _ h
    exact ⟨this.1, by rw [this.2]; omega, fun hi => by omega⟩
   ·rename_i c2; rw [if_neg c2] at h
    have := wkThrough_out _ _ _ _ _ h
    exact ⟨this.1, by omega, fun _ => this.2⟩
theorem wkTo_out (p : Pl) (r : Rt) : ∀ i, (wkTo p r i).lost = false → min i r.path.length ≤ (wkTo p r i).outs.length
 | 0, _ => by simp
 | i + 1, h => by
  have h : (wkStep p r i (wkTo p r i)).lost = false := h
  obtain ⟨h1, h2, h3⟩ := wkStep_out p r i _ h
  have h4 := wkTo_out p r i h1
  show _ ≤ (wkStep p r i (wkTo p r i)).outs.length
  by_cases hi : i < r.path.length
  ·have := h3 hi; omega
  ·omega
theorem outs_long (p : Pl) (r : Rt) (h : (wkEnd p r).lost = false) : r.path.length ≤ (outsOf p r).length := by
 have := wkTo_out p r (allOf r).length h
 have hl : r.path.length ≤ (allOf r).length := by unfold allOf; simp
 unfold outsOf wkEnd
 omega
theorem wkFl_outs (k : Wk) (l : List Fl) : ∀ i, (wkFl k l i).outs = k.outs
 | 0 => rfl
 | i + 1 => by rw [wkFl, wkAsk_outs, wkFl_outs k l i]
theorem wkFl_len (k : Wk) (l : List Fl) : ∀ i, (wkFl k l i).asks.length ≤ k.asks.length + i
 | 0 => Nat.le_refl _
 | i + 1 => by
  have h1 := wkFl_len k l i
  have h2 := wkAsk_len (wkFl k l i) (l.getD i ⟨0, 0⟩).pt (l.getD i ⟨0, 0⟩).lie (-1)
  rw [wkFl]; omega
def AsksFit (l : List Ask) : Prop := ∀ a ∈ l, 1 ≤ a.pt ∧ a.pt ≤ 99
theorem wkAsk_fit {k : Wk} {pt lie pl : Int} (h : AsksFit k.asks) (hp : pt ≤ 99) : AsksFit (wkAsk k pt lie pl).asks := by
 unfold wkAsk
 split
 ·rename_i c
  intro a ha
  rcases List.mem_append.1 ha with ha | ha
  ·exact h a ha
  ·rw [List.mem_singleton] at ha
   subst ha
   exact ⟨by show 1 ≤ pt; omega, hp⟩
 ·exact h
theorem wkSec_pt {l : List Sec} (hA : SecsA l l.length) (k : Wk) (id : Int) : (wkSec l k id).pt ≤ 99 := by
 unfold wkSec
 split
 ·rename_i c
  obtain ⟨i, hi, he⟩ := List.getElem_of_mem (one_is (z := zSec) c.1).1
  rw [← he]
  rcases (hA i hi hi).1.2.2 with h | h <;> omega
 ·show (0 : Int) ≤ 99; omega
theorem wkGo_fit {s : Sec} {k : Wk} {id pl : Int} {right : Nat → Jn → Bool} (h : AsksFit k.asks) (hp : s.pt ≤ 99) : AsksFit (wkGo s k id pl right).asks := by
 unfold wkGo
 split
 ·exact wkAsk_fit h hp
 ·exact h
theorem wkStep_fit {p : Pl} (hA : SecsA p.secs p.secs.length) (r : Rt) (i : Nat) (k : Wk) (h : AsksFit k.asks) : AsksFit (wkStep p r i k).asks := by
 have ht : ∀ id pl right, AsksFit (wkThrough p.secs k id pl right).asks := fun id pl right => wkGo_fit (by rw [wkS_asks]; exact h) (wkSec_pt hA _ _)
 unfold wkStep
 split
 ·exact ht _ _ _
 ·split
  ·exact ht _ _ _
  ·split
   ·unfold wkStay
    split
    ·exact wkAsk_fit (by rw [wkS_asks]; exact h) (wkSec_pt hA _ _)
    ·rw [wkS_asks]; exact h
   ·exact ht _ _ _
theorem wkTo_fit {p : Pl} (hA : SecsA p.secs p.secs.length) (r : Rt) : ∀ i, AsksFit (wkTo p r i).asks
 | 0 => fun a ha => by simp [wkTo] at ha
 | i + 1 => wkStep_fit hA r i _ (wkTo_fit hA r i)
theorem wkFl_fit {k : Wk} {l : List Fl} (h : AsksFit k.asks) (hl : ∀ f ∈ l, f.pt ≤ 99) : ∀ i, AsksFit (wkFl k l i).asks
 | 0 => h
 | i + 1 => wkAsk_fit (wkFl_fit h hl i) (by
  rw [List.getD_eq_getElem?_getD]
  cases he : l[i]? with
  | none => show (0 : Int) ≤ 99; omega
  | some f => exact hl f (List.mem_of_getElem? he))
theorem asks_fit {p : Pl} {r : Rt} (hA : SecsA p.secs p.secs.length) (hP : RiseTo Pt.id p.pts p.pts.length) (hF : FlA p.pts r.fl r.fl.length) : AsksFit (wyOf p r).asks :=
 wkFl_fit (wkTo_fit hA r _) (fun f hf => by
  obtain ⟨i, hi, rfl⟩ := List.getElem_of_mem hf
  have h1 := one_is (z := (⟨0, 0⟩ : Pt)) (hF i hi hi).1
  obtain ⟨j, hj, he⟩ := List.getElem_of_mem h1.1
  have h2 := (hP j hj hj).1
  have h3 : p.pts[j].id = r.fl[i].pt := by rw [he]; exact h1.2
  omega) _
end Go.Proofs.YtbiehpjhhopjaaaGreat
namespace Go.Proofs.YtbiehpjhhopjaaaGreat
def OnceA (l : List Ask) (k : Nat) : Prop := ∀ i (h : i < l.length), i < k → ∀ m (hm : m < i), l[m].pt ≠ l[i].pt
instance (l : List Ask) (k : Nat) : Decidable (OnceA l k) := by unfold OnceA; exact inferInstance
def Once (l : List Ask) : Prop := OnceA l l.length
instance (l : List Ask) : Decidable (Once l) := by unfold Once; exact inferInstance
theorem onceA_step {l : List Ask} {k : Nat} (h : k < l.length) (hA : OnceA l k) (hk : ∀ m (hm : m < k), l[m].pt ≠ l[k].pt) : OnceA l (k + 1) := by
 intro i hi hik
 rcases Nat.lt_or_ge i k with h' | h'
 ·exact hA i hi h'
 ·obtain rfl : i = k := by omega
  exact hk
def askedOf (l : List Ask) (k : Nat) (q : Nat) : Bool := (l.take k).any fun x => decide (x.pt = (q : Int))
theorem askedOf_zero (l : List Ask) (q : Nat) : askedOf l 0 q = false := by simp [askedOf]
theorem askedOf_step {l : List Ask} {k : Nat} (h : k < l.length) (p : Nat) (hp : l[k].pt = (p : Int)) (q : Nat) : (if q = p then true else askedOf l k q) = askedOf l (k + 1) q := by
 unfold askedOf
 rw [List.take_succ_eq_append_getElem h, List.any_append]
 by_cases hq : q = p
 ·rw [if_pos hq]; simp [hp, hq]
 ·rw [if_neg hq]
  have : ¬ (p : Int) = (q : Int) := by omega
  simp [hp, this]
theorem askedOf_iff {l : List Ask} {k : Nat} (h : k < l.length) (p : Nat) (hp : l[k].pt = (p : Int)) : askedOf l k p = true ↔ ¬ ∀ m (hm : m < k), l[m].pt ≠ l[k].pt := by
 unfold askedOf
 rw [hp, List.any_eq_true]
 constructor
 ·rintro ⟨x, hx, hq⟩ hall
  obtain ⟨i, hi, rfl⟩ := List.getElem_of_mem hx
  rw [List.length_take] at hi
  rw [List.getElem_take] at hq
  exact hall i (by omega) (by simpa using hq)
 ·intro hn
  simp only [Classical.not_forall, Ne, Classical.not_not] at hn
  obtain ⟨m, hm, he⟩ := hn
  exact ⟨l[m], List.mem_iff_getElem.2 ⟨m, by rw [List.length_take]; omega, by rw [List.getElem_take]⟩, by simpa using he⟩
def Blocks (r : Rt) (i : Nat) (j : Jn) (x : Sg) : Prop := x.sec = j.to ∧ x.en = j.en ∧ (i + 1 < r.path.length ∨ x.id ≠ r.exit)
instance (r : Rt) (i : Nat) (j : Jn) (x : Sg) : Decidable (Blocks r i j x) := by unfold Blocks; exact inferInstance
def ClearI (p : Pl) (r : Rt) (i : Nat) (j : Jn) (k : Nat) : Prop := ∀ m (h : m < p.sigs.length), m < k → ¬ Blocks r i j p.sigs[m]
instance (p : Pl) (r : Rt) (i : Nat) (j : Jn) (k : Nat) : Decidable (ClearI p r i j k) := by unfold ClearI; exact inferInstance
def ClearA (p : Pl) (r : Rt) (outs : List Jn) (k : Nat) : Prop := ∀ i (h : i < outs.length), i < k → ClearI p r i outs[i] p.sigs.length
instance (p : Pl) (r : Rt) (outs : List Jn) (k : Nat) : Decidable (ClearA p r outs k) := by unfold ClearA; exact inferInstance
def Clear (p : Pl) (r : Rt) (outs : List Jn) : Prop := ClearA p r outs r.path.length
instance (p : Pl) (r : Rt) (outs : List Jn) : Decidable (Clear p r outs) := by unfold Clear; exact inferInstance
theorem clearI_step {p : Pl} {r : Rt} {i : Nat} {j : Jn} {k : Nat} (h : k < p.sigs.length) (hA : ClearI p r i j k) (hk : ¬ Blocks r i j p.sigs[k]) : ClearI p r i j (k + 1) := by
 intro m hm hmk
 rcases Nat.lt_or_ge m k with h' | h'
 ·exact hA m hm h'
 ·obtain rfl : m = k := by omega
  exact hk
theorem clearA_step {p : Pl} {r : Rt} {outs : List Jn} {k : Nat} (h : k < outs.length) (hA : ClearA p r outs k) (hk : ClearI p r k outs[k] p.sigs.length) : ClearA p r outs (k + 1) := by
 intro i hi hik
 rcases Nat.lt_or_ge i k with h' | h'
 ·exact hA i hi h'
 ·obtain rfl : i = k := by omega
  exact hk
def WaysTo (p : Pl) (k : Nat) : Prop := ∀ i (h : i < p.rts.length), i < k → (wkEnd p p.rts[i]).lost = false
instance (p : Pl) (k : Nat) : Decidable (WaysTo p k) := by unfold WaysTo; exact inferInstance
def WaysMay (p : Pl) : Prop := WaysTo p p.rts.length
instance (p : Pl) : Decidable (WaysMay p) := by unfold WaysMay; exact inferInstance
theorem waysTo_step {p : Pl} {k : Nat} (h : k < p.rts.length) (hA : WaysTo p k) (hk : (wkEnd p p.rts[k]).lost = false) : WaysTo p (k + 1) := by
 intro i hi hik
 rcases Nat.lt_or_ge i k with h' | h'
 ·exact hA i hi h'
 ·obtain rfl : i = k := by omega
  exact hk
def RtSound (p : Pl) (r : Rt) : Prop := Once (wyOf p r).asks ∧ Clear p r (outsOf p r)
instance (p : Pl) (r : Rt) : Decidable (RtSound p r) := by unfold RtSound; exact inferInstance
def SoundTo (p : Pl) (k : Nat) : Prop := ∀ i (h : i < p.rts.length), i < k → RtSound p p.rts[i]
instance (p : Pl) (k : Nat) : Decidable (SoundTo p k) := by unfold SoundTo; exact inferInstance
theorem soundTo_step {p : Pl} {k : Nat} (h : k < p.rts.length) (hA : SoundTo p k) (hk : RtSound p p.rts[k]) : SoundTo p (k + 1) := by
 intro i hi hik
 rcases Nat.lt_or_ge i k with h' | h'
 ·exact hA i hi h'
 ·obtain rfl : i = k := by omega
  exact hk
def TkAt (x : Tk) (y : Sec) : Prop := x.id = y.id ∧ x.is ≤ 2
instance (x : Tk) (y : Sec) : Decidable (TkAt x y) := by unfold TkAt; exact inferInstance
def SwAt (x : Sw) (y : Pt) : Prop := x.id = y.id ∧ (0 ≤ x.lie ∧ x.lie ≤ 2) ∧ (0 ≤ x.call ∧ x.call ≤ 2)
instance (x : Sw) (y : Pt) : Decidable (SwAt x y) := by unfold SwAt; exact inferInstance
def Phase (l : Lk) (r : Rt) : Prop :=
 ((l.ph = 0 ∨ l.ph = 1) ∧ l.gone = 0 ∧ l.left = 0) ∨ (l.ph = 2 ∧ 0 ≤ l.gone ∧ l.gone ≤ (r.path.length : Int) - 1 ∧ l.left = 0) ∨
 (l.ph = 3 ∧ l.gone = (r.path.length : Int) - 1 ∧ 1 ≤ l.left ∧ l.left ≤ r.timer) ∨ (l.ph = 4 ∧ l.gone = 0 ∧ 1 ≤ l.left ∧ l.left ≤ r.timer)
instance (l : Lk) (r : Rt) : Decidable (Phase l r) := by unfold Phase; exact inferInstance
def LkAt (x : Lk) (y : Rt) : Prop := x.id = y.id ∧ Phase x y
instance (x : Lk) (y : Rt) : Decidable (LkAt x y) := by unfold LkAt; exact inferInstance
def PairsTo {α β : Type} (R : α → β → Prop) (l : List α) (m : List β) (k : Nat) : Prop := ∀ i (h : i < l.length) (h' : i < m.length), i < k → R l[i] m[i]
instance {α β : Type} (R : α → β → Prop) [∀ a b, Decidable (R a b)] (l : List α) (m : List β) (k : Nat) : Decidable (PairsTo R l m k) := by unfold PairsTo; exact inferInstance
def Pairs {α β : Type} (R : α → β → Prop) (l : List α) (m : List β) : Prop := l.length = m.length ∧ PairsTo R l m l.length
instance {α β : Type} (R : α → β → Prop) [∀ a b, Decidable (R a b)] (l : List α) (m : List β) : Decidable (Pairs R l m) := by unfold Pairs; exact inferInstance
theorem pairsTo_step {α β : Type} {R : α → β → Prop} {l : List α} {m : List β} {k : Nat} (h : k < l.length) (h' : k < m.length) (hA : PairsTo R l m k) (hk : R l[k] m[k]) : PairsTo R l m (k + 1) := by
 intro i hi hi' hik
 rcases Nat.lt_or_ge i k with q | q
 ·exact hA i hi hi' q
 ·obtain rfl : i = k := by omega
  exact hk
def heldL (w : Wy) (l : Lk) : List Int := if l.ph = 0 then [] else w.path.drop (min (max l.gone 0).toNat w.path.length) ++ w.over
def asksL (w : Wy) (l : Lk) : List Ask := if l.ph = 0 then [] else w.asks.filter fun a => decide (a.pl < 0 ∨ l.gone ≤ a.pl)
structure Gr where
 H : Nat → Int
 A : Nat → Int
 ok : Bool
def holdOne (id : Int) (g : Gr) (s : Int) : Gr := ⟨fun q => if q = s.toNat then id else g.H q, g.A, g.ok && decide (g.H s.toNat = 0)⟩
def holdAll (id : Int) : List Int → Gr → Gr
 | [], g => g
 | s :: r, g => if (holdOne id g s).ok then holdAll id r (holdOne id g s) else holdOne id g s
def askOne (call : Int → Int) (g : Gr) (a : Ask) : Gr := ⟨g.H, fun q => if q = a.pt.toNat then a.lie else g.A q, g.ok && decide (call a.pt = a.lie)⟩
def askAll (call : Int → Int) : List Ask → Gr → Gr
 | [], g => g
 | a :: r, g => if (askOne call g a).ok then askAll call r (askOne call g a) else askOne call g a
def grStep (call : Int → Int) (w : Wy) (l : Lk) (g : Gr) : Gr := askAll call (asksL w l) (holdAll l.id (heldL w l) g)
def zLk : Lk := ⟨0, 0, 0, 0⟩
def zRt : Rt := ⟨0, 0, 0, [], [], [], 0⟩
def callOf (l : List Sw) (pt : Int) : Int := (oneOf Sw.id ⟨0, 0, 0⟩ l pt).call
def grTo (p : Pl) (s : St) : Nat → Gr
 | 0 => ⟨fun _ => 0, fun _ => 0, true⟩
 | i + 1 => grStep (callOf s.sws) (wyOf p (p.rts.getD i zRt)) (s.lks.getD i zLk) (grTo p s i)
def grOf (p : Pl) (s : St) : Gr := grTo p s s.lks.length
def StA (p : Pl) (s : St) : Prop := Pairs TkAt s.tks p.secs ∧ Pairs SwAt s.sws p.pts ∧ Pairs LkAt s.lks p.rts
instance (p : Pl) (s : St) : Decidable (StA p s) := by unfold StA; exact inferInstance
def StMay (p : Pl) (s : St) : Prop := StA p s ∧ (grOf p s).ok = true
instance (p : Pl) (s : St) : Decidable (StMay p s) := by unfold StMay; exact inferInstance
end Go.Proofs.YtbiehpjhhopjaaaGreat
