/-
 Ways, as the references have them, in plain words.
 Plans that may run, as the references have it, in plain words.
-/
import Derived.Test.YtbiehpjhhopjaaaGreatTData
import Derived.Test.YtbiehpjhhopjaaaGreatTGripA
set_option linter.unusedVariables false
set_option linter.unusedSimpArgs false
namespace Go.Proofs.YtbiehpjhhopjaaaGreat
def lieR (s : Sec) (a b : Int) : Int :=
 if s.pt = 0 then (if (a = 0 ∧ b = 1) ∨ (a = 1 ∧ b = 0) then 0 else -1)
 else if a = 0 ∧ (b = 1 ∨ b = 2) then b else if b = 0 ∧ (a = 1 ∨ a = 2) then a else -1
theorem thrE_eq {s : Sec} (h : s.Shaped) (a b : Int) : thrE s a b = if a < 0 ∨ 2 < a ∨ b < 0 ∨ 2 < b ∨ lieTab s.pt a b = 0 then 2 else 0 := by
 unfold thrE; rw [if_neg (by simpa using h)]
theorem lie_bad {s : Sec} (h : s.Shaped) {a b : Int} (hb : ¬ 0 ≤ lieR s a b) : thrE s a b ≠ 0 := by
 rw [thrE_eq h]
 unfold lieR at hb
 unfold lieTab
 split at hb
 ·rename_i h0
  rw [if_pos h0]
  split at hb
  ·omega
  ·rename_i h1; rw [if_neg h1]; simp
 ·rename_i h0
  rw [if_neg h0]
  split at hb
  ·omega
  ·split at hb
   ·omega
   ·rename_i h1 h2
    have e1 : ¬ ((a = 0 ∧ b = 1) ∨ (a = 1 ∧ b = 0)) := by omega
    have e2 : ¬ ((a = 0 ∧ b = 2) ∨ (a = 2 ∧ b = 0)) := by omega
    rw [if_neg e1, if_neg e2]; simp
theorem lie_good {s : Sec} (h : s.Shaped) {a b : Int} (hb : 0 ≤ lieR s a b) : thrE s a b = 0 ∧ thrL s a b = lieR s a b := by
 have key : thrE s a b = 0 ∧ (lieTab s.pt a b).tmod 3 = lieR s a b := by
  rw [thrE_eq h]
  unfold lieR at *
  unfold lieTab
  by_cases h0 : s.pt = 0
  ·rw [if_pos h0] at hb
   by_cases h1 : (a = 0 ∧ b = 1) ∨ (a = 1 ∧ b = 0)
   ·simp only [if_pos h0, if_pos h1]
    refine ⟨by rw [if_neg (by omega)], by decide⟩
   ·rw [if_neg h1] at hb; omega
  ·rw [if_neg h0] at hb
   simp only [if_neg h0]
   by_cases h1 : a = 0 ∧ (b = 1 ∨ b = 2)
   ·obtain ⟨rfl, h2⟩ := h1
    rcases h2 with rfl | rfl <;> refine ⟨by simp, by simp⟩
   ·rw [if_neg h1] at hb
    by_cases h2 : b = 0 ∧ (a = 1 ∨ a = 2)
    ·obtain ⟨rfl, h3⟩ := h2
     rcases h3 with rfl | rfl <;> refine ⟨by simp, by simp⟩
    ·rw [if_neg h2] at hb; omega
 refine ⟨key.1, ?_⟩
 unfold thrL
 rw [if_pos key.1]
 exact key.2
def standAt (p : Pl) (sec en : Int) : Int := match p.sigs.find? (fun x => decide (x.sec = sec ∧ x.en = en)) with | some x => x.id | none => 0
def atSec (p : Pl) (r : Rt) (i : Nat) : Sec := oneOf Sec.id zSec p.secs ((allOf r).getD i 0)
def okEnd (p : Pl) (r : Rt) (i : Nat) (a : Int) (e : Nat) : Bool :=
 decide (0 ≤ lieR (atSec p r i) a e) &&
  (if i + 1 = r.path.length then decide ((r.exit = 0 ∧ ((atSec p r i).ends.getD e ⟨0, 0⟩).to = 0) ∨ (r.exit ≠ 0 ∧ standAt p (atSec p r i).id e = r.exit))
   else decide (((atSec p r i).ends.getD e ⟨0, 0⟩).to = (allOf r).getD (i + 1) 0))
def outAt (p : Pl) (r : Rt) (i : Nat) (a : Int) : Option Nat := (List.range (atSec p r i).ends.length).find? (okEnd p r i a)
structure Rw where
 ins : List Int
 outs : List Int
 j : Jn
def rwStep (p : Pl) (r : Rt) (i : Nat) (w : Rw) : Option Rw :=
 if w.j.to ≠ (allOf r).getD i 0 then none
 else if i + 1 = (allOf r).length ∧ 0 < r.over.length then some ⟨w.ins ++ [w.j.en], w.outs ++ [-1], w.j⟩
 else match outAt p r i w.j.en with
  | none => none
  | some e => some ⟨w.ins ++ [w.j.en], w.outs ++ [(e : Int)], (atSec p r i).ends.getD e ⟨0, 0⟩⟩
def rwTo (p : Pl) (r : Rt) : Nat → Option Rw
 | 0 => some ⟨[], [], wkIn0 p r⟩
 | i + 1 => (rwTo p r i).bind (rwStep p r i)
def rwEnd (p : Pl) (r : Rt) : Option Rw := rwTo p r (allOf r).length
def askAtR (p : Pl) (r : Rt) (i : Nat) (a o : Int) : List Ask :=
 if (atSec p r i).pt = 0 then [] else
  if 0 < (if 0 ≤ o then lieR (atSec p r i) a o else a) then [⟨(atSec p r i).pt, if 0 ≤ o then lieR (atSec p r i) a o else a, i⟩] else []
def asksR (p : Pl) (r : Rt) (ins outs : List Int) : Nat → List Ask
 | 0 => []
 | i + 1 => asksR p r ins outs i ++ askAtR p r i (ins.getD i 0) (outs.getD i 0)
def outsR (r : Rt) (outs : List Int) : Nat → List Jn
 | 0 => []
 | i + 1 => outsR r outs i ++ (if 0 ≤ outs.getD i 0 then [⟨(allOf r).getD i 0, outs.getD i 0⟩] else [])
theorem asksR_app (p : Pl) (r : Rt) (ins outs : List Int) (a o : Int) : ∀ i, i ≤ ins.length → i ≤ outs.length → asksR p r (ins ++ [a]) (outs ++ [o]) i = asksR p r ins outs i
 | 0, _, _ => rfl
 | i + 1, h1, h2 => by
  rw [asksR, asksR, asksR_app p r ins outs a o i (by omega) (by omega)]
  have e1 : (ins ++ [a]).getD i 0 = ins.getD i 0 := by simp only [List.getD_eq_getElem?_getD]; rw [List.getElem?_append_left (by omega)]
  have e2 : (outs ++ [o]).getD i 0 = outs.getD i 0 := by simp only [List.getD_eq_getElem?_getD]; rw [List.getElem?_append_left (by omega)]
  rw [e1, e2]
theorem outsR_app (r : Rt) (outs : List Int) (o : Int) : ∀ i, i ≤ outs.length → outsR r (outs ++ [o]) i = outsR r outs i
 | 0, _ => rfl
 | i + 1, h2 => by
  rw [outsR, outsR, outsR_app r outs o i (by omega)]
  have e2 : (outs ++ [o]).getD i 0 = outs.getD i 0 := by simp only [List.getD_eq_getElem?_getD]; rw [List.getElem?_append_left (by omega)]
  rw [e2]
theorem getD_last (l : List Int) (a : Int) : (l ++ [a]).getD l.length 0 = a := by simp [List.getD_eq_getElem?_getD]
theorem rwTo_len (p : Pl) (r : Rt) : ∀ i w, rwTo p r i = some w → w.ins.length = i ∧ w.outs.length = i
 | 0, w, h => by cases h; exact ⟨rfl, rfl⟩
 | i + 1, w, h => by
  rw [rwTo] at h
  cases hp : rwTo p r i with
  | none => rw [hp] at h; cases h
  | some v =>
   rw [hp] at h
   have h : rwStep p r i v = some w := h
   obtain ⟨h1, h2⟩ := rwTo_len p r i v hp
   unfold rwStep at h
   split at h
   ·cases h
   ·split at h
    ·cases h; simp [h1, h2]
    ·split at h
     ·cases h
     ·cases h; simp [h1, h2]
structure RtFine (p : Pl) (r : Rt) : Prop where
 shaped : ∀ i, i < (allOf r).length → isOne Sec.id p.secs ((allOf r).getD i 0) = true ∧ (atSec p r i).Shaped ∧ (atSec p r i).id = (allOf r).getD i 0
 ends : ∀ i, i < (allOf r).length → ∀ e (he : e < (atSec p r i).ends.length), (atSec p r i).ends[e].to = 0 → (atSec p r i).ends[e].en = 0
 path : 1 ≤ r.path.length
 exit : r.exit ≠ 0 → ∀ s e : Int, standAt p s e = r.exit ↔ (s = (sgOf p r.exit).sec ∧ e = (sgOf p r.exit).en)
 over : r.exit = 0 → r.over.length = 0
theorem all_len (r : Rt) : (allOf r).length = r.path.length + r.over.length := by unfold allOf; simp
theorem find_congr {f g : Nat → Bool} : ∀ {l : List Nat}, (∀ e ∈ l, f e = g e) → l.find? f = l.find? g
 | [], _ => rfl
 | x :: l, h => by
  rw [List.find?_cons, List.find?_cons, h x List.mem_cons_self, find_congr fun e he => h e (List.mem_cons_of_mem _ he)]
theorem go_out {p : Pl} {r : Rt} (hf : RtFine p r) {i : Nat} (hi : i < (allOf r).length) {k : Wk} (hl : k.lost = false) {a : Int} (ha : k.inn.en = a) {right : Nat → Jn → Bool}
  (hr : ∀ e, e < (atSec p r i).ends.length → right e ((atSec p r i).ends.getD e ⟨0, 0⟩) = (if i + 1 = r.path.length then decide ((r.exit = 0 ∧ ((atSec p r i).ends.getD e ⟨0, 0⟩).to = 0) ∨ (r.exit ≠ 0 ∧ standAt p (atSec p r i).id e = r.exit)) else decide (((atSec p r i).ends.getD e ⟨0, 0⟩).to = (allOf r).getD (i + 1) 0))) :
  (List.range (atSec p r i).ends.length).find? (goes (atSec p r i) k right) = outAt p r i a := by
 unfold outAt
 refine find_congr fun e he => ?_
 have he := List.mem_range.1 he
 unfold goes okEnd
 rw [hl, hr e he, ha]
 simp only [Bool.not_false, Bool.true_and]
 congr 1
 rw [decide_eq_decide]
 have hs := (hf.shaped i hi).2.1
 constructor
 ·intro h
  by_cases hb : 0 ≤ lieR (atSec p r i) a e
  ·exact hb
  ·exact absurd h (lie_bad hs hb)
 ·intro h; exact (lie_good hs h).1
theorem ask_through {p : Pl} {r : Rt} (hf : RtFine p r) {i : Nat} (hi : i < (allOf r).length) {a : Int} {e : Nat} (he : 0 ≤ lieR (atSec p r i) a e) (k : Wk) :
  wkAsk k (atSec p r i).pt (thrL (atSec p r i) a e) i = { k with asks := k.asks ++ askAtR p r i a e } := by
 have hs := (hf.shaped i hi).2.1
 rw [(lie_good hs he).2]
 unfold wkAsk askAtR
 rw [if_pos (Int.natCast_nonneg e)]
 have hp : 0 ≤ (atSec p r i).pt := by rcases hs with h | h <;> omega
 by_cases h0 : (atSec p r i).pt = 0
 ·rw [if_neg (by omega), if_pos h0]; simp
 ·rw [if_neg h0]
  by_cases h1 : 0 < lieR (atSec p r i) a e
  ·rw [if_pos ⟨by omega, h1⟩, if_pos h1]
  ·rw [if_neg (fun h => h1 h.2), if_neg h1]; simp
def wkOf (p : Pl) (r : Rt) (i : Nat) (w : Rw) : Wk := ⟨w.j, asksR p r w.ins w.outs i, outsR r w.outs i, false⟩
theorem step_through {p : Pl} {r : Rt} (hf : RtFine p r) {i : Nat} (hi : i < (allOf r).length) {w : Rw} (hw : w.ins.length = i ∧ w.outs.length = i) (hj : w.j.to = (allOf r).getD i 0) {right : Nat → Jn → Bool}
  (hr : ∀ e, e < (atSec p r i).ends.length → right e ((atSec p r i).ends.getD e ⟨0, 0⟩) = (if i + 1 = r.path.length then decide ((r.exit = 0 ∧ ((atSec p r i).ends.getD e ⟨0, 0⟩).to = 0) ∨ (r.exit ≠ 0 ∧ standAt p (atSec p r i).id e = r.exit)) else decide (((atSec p r i).ends.getD e ⟨0, 0⟩).to = (allOf r).getD (i + 1) 0))) :
  match outAt p r i w.j.en with
  | none => (wkThrough p.secs (wkOf p r i w) ((allOf r).getD i 0) i right).lost = true
  | some e => wkThrough p.secs (wkOf p r i w) ((allOf r).getD i 0) i right = wkOf p r (i + 1) ⟨w.ins ++ [w.j.en], w.outs ++ [(e : Int)], (atSec p r i).ends.getD e ⟨0, 0⟩⟩ := by
 have hin : WkIn p.secs (wkOf p r i w) ((allOf r).getD i 0) := ⟨(hf.shaped i hi).1, hj⟩
 have h1 : wkSec p.secs (wkOf p r i w) ((allOf r).getD i 0) = atSec p r i := by unfold wkSec; rw [if_pos hin]; rfl
 have h2 : wkS p.secs (wkOf p r i w) ((allOf r).getD i 0) = wkOf p r i w := by unfold wkS; rw [if_pos hin]
 have hg := go_out hf hi (k := wkOf p r i w) rfl (a := w.j.en) rfl hr
 unfold wkThrough
 rw [h1, h2]
 unfold wkGo
 rw [hg]
 cases ho : outAt p r i w.j.en with
 | none => rfl
 | some e =>
  simp only
  have hok := List.find?_some ho
  unfold okEnd at hok
  rw [Bool.and_eq_true, decide_eq_true_eq] at hok
  have ha := ask_through hf hi hok.1 (wkOf p r i w)
  have e0 : (wkOf p r i w).inn.en = w.j.en := rfl
  rw [e0, ha]
  unfold wkOf
  have g1 : (w.ins ++ [w.j.en]).getD i 0 = w.j.en := by rw [← hw.1]; exact getD_last _ _
  have g2 : (w.outs ++ [(e : Int)]).getD i 0 = (e : Int) := by rw [← hw.2]; exact getD_last _ _
  simp only [asksR, outsR, asksR_app p r w.ins w.outs w.j.en e i (by omega) (by omega), outsR_app r w.outs e i (by omega), g1, g2, if_pos (Int.natCast_nonneg e)]
theorem step_lost {p : Pl} {r : Rt} {i : Nat} {k : Wk} (h : k.inn.to ≠ (allOf r).getD i 0) : (wkStep p r i k).lost = true := by
 have hn : ¬ WkIn p.secs k ((allOf r).getD i 0) := fun hh => h hh.2
 have hs : (wkS p.secs k ((allOf r).getD i 0)).lost = true := by unfold wkS; rw [if_neg hn]
 have ht : ∀ id pl right, id = (allOf r).getD i 0 → (wkThrough p.secs k id pl right).lost = true := by
  intro id pl right e
  subst e
  cases hq : (wkThrough p.secs k ((allOf r).getD i 0) pl right).lost with
  | true => rfl
  | false =>
   have := (wkGo_out _ _ _ _ _ hq).1
   rw [hs] at this
   cases this
 unfold wkStep
 split
 ·exact ht _ _ _ rfl
 ·split
  ·exact ht _ _ _ rfl
  ·split
   ·unfold wkStay
    rw [if_neg (by rw [hs]; simp)]
    exact hs
   ·exact ht _ _ _ rfl
theorem right_end {p : Pl} {r : Rt} (hf : RtFine p r) {i : Nat} (hi : i < (allOf r).length) (hp : i + 1 = r.path.length) (hx : r.exit = 0) (e : Nat) (he : e < (atSec p r i).ends.length) :
  rightEnd e ((atSec p r i).ends.getD e ⟨0, 0⟩) = (if i + 1 = r.path.length then decide ((r.exit = 0 ∧ ((atSec p r i).ends.getD e ⟨0, 0⟩).to = 0) ∨ (r.exit ≠ 0 ∧ standAt p (atSec p r i).id e = r.exit)) else decide (((atSec p r i).ends.getD e ⟨0, 0⟩).to = (allOf r).getD (i + 1) 0)) := by
 rw [if_pos hp]
 unfold rightEnd
 rw [decide_eq_decide]
 have h1 : (atSec p r i).ends.getD e ⟨0, 0⟩ = (atSec p r i).ends[e] := by simp [List.getD_eq_getElem?_getD, List.getElem?_eq_getElem he]
 rw [h1]
 constructor
 ·intro h; exact .inl ⟨hx, h.1⟩
 ·rintro (h | h)
  ·exact ⟨h.2, hf.ends i hi e he h.2⟩
  ·exact absurd hx h.1
theorem right_exit {p : Pl} {r : Rt} (hf : RtFine p r) {i : Nat} (hi : i < (allOf r).length) (hp : i + 1 = r.path.length) (hx : r.exit ≠ 0) (e : Nat) (he : e < (atSec p r i).ends.length) :
  rightExit ((allOf r).getD i 0) (sgOf p r.exit) e ((atSec p r i).ends.getD e ⟨0, 0⟩) = (if i + 1 = r.path.length then decide ((r.exit = 0 ∧ ((atSec p r i).ends.getD e ⟨0, 0⟩).to = 0) ∨ (r.exit ≠ 0 ∧ standAt p (atSec p r i).id e = r.exit)) else decide (((atSec p r i).ends.getD e ⟨0, 0⟩).to = (allOf r).getD (i + 1) 0)) := by
 rw [if_pos hp]
 unfold rightExit
 rw [decide_eq_decide, ← (hf.shaped i hi).2.2, ← hf.exit hx]
 constructor
 ·intro h; exact .inr ⟨hx, h⟩
 ·rintro (h | h)
  ·exact absurd h.1 hx
  ·exact h.2
theorem right_next {p : Pl} {r : Rt} {i : Nat} (hp : i + 1 ≠ r.path.length) (e : Nat) (he : e < (atSec p r i).ends.length) :
  rightNext ((allOf r).getD (i + 1) 0) e ((atSec p r i).ends.getD e ⟨0, 0⟩) = (if i + 1 = r.path.length then decide ((r.exit = 0 ∧ ((atSec p r i).ends.getD e ⟨0, 0⟩).to = 0) ∨ (r.exit ≠ 0 ∧ standAt p (atSec p r i).id e = r.exit)) else decide (((atSec p r i).ends.getD e ⟨0, 0⟩).to = (allOf r).getD (i + 1) 0)) := by
 rw [if_neg hp]; rfl
theorem rw_step {p : Pl} {r : Rt} (hf : RtFine p r) {i : Nat} (hi : i < (allOf r).length) {w : Rw} (hw : w.ins.length = i ∧ w.outs.length = i) :
  match rwStep p r i w with
  | none => (wkStep p r i (wkOf p r i w)).lost = true
  | some v => wkStep p r i (wkOf p r i w) = wkOf p r (i + 1) v := by
 have hal := all_len r
 unfold rwStep
 by_cases hj : w.j.to ≠ (allOf r).getD i 0
 ·rw [if_pos hj]
  exact step_lost hj
 ·rw [if_neg hj]
  have hj : w.j.to = (allOf r).getD i 0 := Classical.not_not.1 hj
  by_cases hs : i + 1 = (allOf r).length ∧ 0 < r.over.length
  ·rw [if_pos hs]
   show wkStep p r i (wkOf p r i w) = wkOf p r (i + 1) ⟨w.ins ++ [w.j.en], w.outs ++ [-1], w.j⟩
   have hin : WkIn p.secs (wkOf p r i w) ((allOf r).getD i 0) := ⟨(hf.shaped i hi).1, hj⟩
   have h1 : wkSec p.secs (wkOf p r i w) ((allOf r).getD i 0) = atSec p r i := by unfold wkSec; rw [if_pos hin]; rfl
   have h2 : wkS p.secs (wkOf p r i w) ((allOf r).getD i 0) = wkOf p r i w := by unfold wkS; rw [if_pos hin]
   unfold wkStep
   rw [if_neg (by omega), if_neg (by omega), if_pos hs.1]
   unfold wkStay
   rw [h1, h2]
   have g1 : (w.ins ++ [w.j.en]).getD i 0 = w.j.en := by rw [← hw.1]; exact getD_last _ _
   have g2 : (w.outs ++ [(-1 : Int)]).getD i 0 = -1 := by rw [← hw.2]; exact getD_last _ _
   have e0 : (wkOf p r i w).inn.en = w.j.en := rfl
   have e1 : (wkOf p r i w).lost = false := rfl
   have hp : 0 ≤ (atSec p r i).pt := by rcases (hf.shaped i hi).2.1 with h | h <;> omega
   have ea : wkOf p r (i + 1) ⟨w.ins ++ [w.j.en], w.outs ++ [-1], w.j⟩ = { wkOf p r i w with asks := (wkOf p r i w).asks ++ askAtR p r i w.j.en (-1) } := by
    unfold wkOf
    simp only [asksR, outsR, asksR_app p r w.ins w.outs w.j.en (-1) i (by omega) (by omega), outsR_app r w.outs (-1) i (by omega), g1, g2]
    simp
   rw [ea, e0, e1]
   unfold askAtR wkAsk
   by_cases h0 : 0 < w.j.en
   ·rw [if_pos ⟨rfl, h0⟩]
    by_cases h3 : (atSec p r i).pt = 0
    ·rw [if_neg (by omega), if_pos h3]; simp
    ·rw [if_pos ⟨by omega, h0⟩, if_neg h3]; simp [h0]
   ·rw [if_neg (fun h => h0 h.2)]
    by_cases h3 : (atSec p r i).pt = 0
    ·rw [if_pos h3]; simp
    ·rw [if_neg h3]; simp [h0]
  ·rw [if_neg hs]
   have key : ∀ right, (∀ e, e < (atSec p r i).ends.length → right e ((atSec p r i).ends.getD e ⟨0, 0⟩) = (if i + 1 = r.path.length then decide ((r.exit = 0 ∧ ((atSec p r i).ends.getD e ⟨0, 0⟩).to = 0) ∨ (r.exit ≠ 0 ∧ standAt p (atSec p r i).id e = r.exit)) else decide (((atSec p r i).ends.getD e ⟨0, 0⟩).to = (allOf r).getD (i + 1) 0))) → wkStep p r i (wkOf p r i w) = wkThrough p.secs (wkOf p r i w) ((allOf r).getD i 0) i right →
     match (match outAt p r i w.j.en with | none => none | some e => some (⟨w.ins ++ [w.j.en], w.outs ++ [(e : Int)], (atSec p r i).ends.getD e ⟨0, 0⟩⟩ : Rw)) with
     | none => (wkStep p r i (wkOf p r i w)).lost = true
     | some v => wkStep p r i (wkOf p r i w) = wkOf p r (i + 1) v := by
    intro right hr he
    have := step_through hf hi hw hj hr
    rw [he]
    cases ho : outAt p r i w.j.en with
    | none => rw [ho] at this; exact this
    | some e => rw [ho] at this; exact this
   by_cases hp : i + 1 = r.path.length
   ·by_cases hx : r.exit = 0
    ·exact key rightEnd (right_end hf hi hp hx) (by unfold wkStep; rw [if_pos ⟨hp, hx⟩])
    ·exact key _ (right_exit hf hi hp hx) (by unfold wkStep; rw [if_neg (fun h => hx h.2), if_pos hp])
   ·exact key _ (right_next hp) (by unfold wkStep; rw [if_neg (fun h => hp h.1), if_neg hp, if_neg (by omega)])
theorem rw_to {p : Pl} {r : Rt} (hf : RtFine p r) : ∀ i, i ≤ (allOf r).length →
  match rwTo p r i with
  | none => (wkTo p r i).lost = true
  | some w => wkTo p r i = wkOf p r i w
 | 0, _ => rfl
 | i + 1, hi => by
  have ih := rw_to hf i (by omega)
  rw [rwTo]
  cases hp : rwTo p r i with
  | none =>
   rw [hp] at ih
   have ih : (wkTo p r i).lost = true := ih
   show (wkStep p r i (wkTo p r i)).lost = true
   cases hq : (wkStep p r i (wkTo p r i)).lost with
   | true => rfl
   | false =>
    have := (wkStep_out p r i _ hq).1
    rw [ih] at this
    cases this
  | some w =>
   rw [hp] at ih
   have ih : wkTo p r i = wkOf p r i w := ih
   have h1 := rw_step hf (i := i) (by omega) (rwTo_len p r i w hp)
   show match rwStep p r i w with | none => (wkStep p r i (wkTo p r i)).lost = true | some v => wkStep p r i (wkTo p r i) = wkOf p r (i + 1) v
   rw [ih]
   exact h1
end Go.Proofs.YtbiehpjhhopjaaaGreat
set_option linter.unusedVariables false
set_option linter.unusedSimpArgs false
namespace Go.Proofs.YtbiehpjhhopjaaaGreat
theorem rise_uniq {α : Type} {f : α → Int} {l : List α} (h : RiseTo f l l.length) {x y : α} (hx : x ∈ l) (hy : y ∈ l) (e : f x = f y) : x = y := by
 obtain ⟨i, hi, rfl⟩ := List.getElem_of_mem hx
 obtain ⟨j, hj, rfl⟩ := List.getElem_of_mem hy
 rcases Nat.lt_trichotomy i j with q | q | q
 ·have := rise_lt h hj q; omega
 ·subst q; rfl
 ·have := rise_lt h hi q; omega
theorem secs_uniq {l : List Sec} (h : SecsA l l.length) {x y : Sec} (hx : x ∈ l) (hy : y ∈ l) (e : x.id = y.id) : x = y := by
 obtain ⟨i, hi, rfl⟩ := List.getElem_of_mem hx
 obtain ⟨j, hj, rfl⟩ := List.getElem_of_mem hy
 rcases Nat.lt_trichotomy i j with q | q | q
 ·have := ((h j hj hj).2 i q).1; omega
 ·subst q; rfl
 ·have := ((h i hi hi).2 j q).1; omega
theorem may_secs {p : Pl} (h : PlanMay p) : SecsA p.secs p.secs.length := h.1.2.2.2.2.2.1
theorem may_joins {p : Pl} (h : PlanMay p) : SecsB p.secs p.secs.length := h.1.2.2.2.2.2.2
theorem may_sigs {p : Pl} (h : PlanMay p) : RiseTo Sg.id p.sigs p.sigs.length := h.2.1.2.1.1.1
theorem may_spots {p : Pl} (h : PlanMay p) : SigsA (endsOf p.secs p.secs.length) p.sigs p.sigs.length := h.2.1.2.1.2
theorem may_pts {p : Pl} (h : PlanMay p) : RiseTo Pt.id p.pts p.pts.length := h.2.1.1.1.1
theorem may_rts {p : Pl} (h : PlanMay p) : RiseTo Rt.id p.rts p.rts.length := h.2.1.2.2.1
theorem may_rt {p : Pl} (h : PlanMay p) {k : Nat} (hk : k < p.rts.length) : RtMay (endsOf p.secs p.secs.length) p.sigs p.pts p.rts[k] := h.2.2 k hk hk
theorem there_one {l : List Sec} {n : Int} (h : There (endsOf l l.length) n) : isOne Sec.id l n = true := by
 obtain ⟨h0, h1, h2⟩ := h
 unfold endsOf at h2
 rw [List.take_length] at h2
 cases hf : l.find? (fun s => decide (s.id = (n.toNat : Int))) with
 | none => rw [hf] at h2; simp at h2
 | some s =>
  have h3 := List.find?_some hf
  have h4 := List.mem_of_find?_eq_some hf
  unfold isOne
  rw [List.any_eq_true]
  exact ⟨s, h4, by simp at h3 ⊢; omega⟩
theorem one_there {l : List Sec} (hA : SecsA l l.length) {n : Int} (h : isOne Sec.id l n = true) : There (endsOf l l.length) n := by
 have h1 := one_is (z := zSec) h
 obtain ⟨i, hi, e⟩ := List.getElem_of_mem h1.1
 have h2 := (hA i hi hi).1
 have h3 : l[i].id = n := by rw [e]; exact h1.2
 refine ⟨by omega, by omega, ?_⟩
 rw [endsOf_at hA hi n.toNat (by omega)]
 rcases h2.2.2 with h4 | h4 <;> omega
theorem spot_uniq {f : Nat → Int} {l : List Sg} (h : SigsA f l l.length) {x y : Sg} (hx : x ∈ l) (hy : y ∈ l) (e1 : x.sec = y.sec) (e2 : x.en = y.en) : x = y := by
 obtain ⟨i, hi, rfl⟩ := List.getElem_of_mem hx
 obtain ⟨j, hj, rfl⟩ := List.getElem_of_mem hy
 rcases Nat.lt_trichotomy i j with q | q | q
 ·exact absurd ⟨e1, e2⟩ ((h j hj hj).2 i q)
 ·subst q; rfl
 ·exact absurd ⟨e1.symm, e2.symm⟩ ((h i hi hi).2 j q)
theorem stand_some {p : Pl} (h : PlanMay p) {s e : Int} {x : Sg} (hx : x ∈ p.sigs) (h1 : x.sec = s) (h2 : x.en = e) : standAt p s e = x.id := by
 unfold standAt
 cases hf : p.sigs.find? (fun x => decide (x.sec = s ∧ x.en = e)) with
 | none =>
  have := List.find?_eq_none.1 hf x hx
  exact absurd (by simp [h1, h2]) this
 | some y =>
  have h3 := List.find?_some hf
  have h4 := List.mem_of_find?_eq_some hf
  simp only [decide_eq_true_eq] at h3
  have := spot_uniq (may_spots h) h4 hx (by omega) (by omega)
  rw [this]
theorem stand_is {p : Pl} {s e n : Int} (hn : n ≠ 0) (h : standAt p s e = n) : ∃ x ∈ p.sigs, x.sec = s ∧ x.en = e ∧ x.id = n := by
 unfold standAt at h
 cases hf : p.sigs.find? (fun x => decide (x.sec = s ∧ x.en = e)) with
 | none => rw [hf] at h; exact absurd h.symm hn
 | some y =>
  rw [hf] at h
  have h3 := List.find?_some hf
  simp only [decide_eq_true_eq] at h3
  exact ⟨y, List.mem_of_find?_eq_some hf, h3.1, h3.2, h⟩
theorem rt_fine {p : Pl} (h : PlanMay p) {k : Nat} (hk : k < p.rts.length) : RtFine p p.rts[k] := by
 obtain ⟨hH, hP, hF⟩ := may_rt h hk
 have hone : ∀ i (hi : i < (allOf p.rts[k]).length), isOne Sec.id p.secs ((allOf p.rts[k]).getD i 0) = true := fun i hi => by
  have e : (allOf p.rts[k]).getD i 0 = (p.rts[k].path ++ p.rts[k].over)[i]'hi := by
   rw [List.getD_eq_getElem?_getD, List.getElem?_eq_getElem hi]; rfl
  rw [e]
  exact there_one (hP i hi hi).1
 refine ⟨fun i hi => ?_, fun i hi e he h0 => ?_, hH.2.2.2.1, fun hx s e => ?_, fun hx => hH.2.2.1 hx⟩
 ·have h1 := one_is (z := zSec) (hone i hi)
  obtain ⟨j, hj, e⟩ := List.getElem_of_mem h1.1
  have h2 := (may_secs h j hj hj).1.2.2
  exact ⟨hone i hi, by unfold atSec; rw [← e]; exact h2, h1.2⟩
 ·have h1 := one_is (z := zSec) (hone i hi)
  obtain ⟨j, hj, e'⟩ := List.getElem_of_mem h1.1
  have ha : atSec p p.rts[k] i = p.secs[j] := e'.symm
  have h2 := may_joins h j hj hj e (by rw [← ha]; exact he)
  have h3 : (atSec p p.rts[k] i).ends[e] = p.secs[j].ends[e]'(by rw [← ha]; exact he) := by simp [ha]
  rw [h3] at h0 ⊢
  rcases h2 with h2 | ⟨_, t, ht, h4, _⟩
  ·exact h2.2
  ·obtain ⟨m, hm, e⟩ := List.getElem_of_mem ht
   have h5 := (may_secs h m hm hm).1.1
   rw [e] at h5
   omega
 ·have h1 := (hH.2.1 hx).1
  have h2 := one_is (z := zSg) h1
  constructor
  ·intro h3
   obtain ⟨x, hx', q1, q2, q3⟩ := stand_is hx h3
   have : x = sgOf p p.rts[k].exit := rise_uniq (may_sigs h) hx' h2.1 (by rw [q3]; exact h2.2.symm)
   rw [← this]
   exact ⟨q1.symm, q2.symm⟩
  ·rintro ⟨q1, q2⟩
   rw [stand_some h h2.1 q1.symm q2.symm]
   exact h2.2
def madeAsks (p : Pl) (r : Rt) (w : Rw) : List Ask := asksR p r w.ins w.outs (allOf r).length ++ r.fl.map fun f => ⟨f.pt, f.lie, -1⟩
theorem fl_all {p : Pl} {r : Rt} (hP : RiseTo Pt.id p.pts p.pts.length) (hF : FlA p.pts r.fl r.fl.length) (k : Wk) : ∀ i, i ≤ r.fl.length → (wkFl k r.fl i).asks = k.asks ++ (r.fl.take i).map fun f => ⟨f.pt, f.lie, -1⟩
 | 0, _ => by simp [wkFl]
 | i + 1, hi => by
  have hi' : i < r.fl.length := by omega
  have hg : r.fl.getD i ⟨0, 0⟩ = r.fl[i] := by rw [List.getD_eq_getElem?_getD, List.getElem?_eq_getElem hi']; rfl
  have h1 := hF i hi' hi'
  have h2 := one_is (z := (⟨0, 0⟩ : Pt)) h1.1
  obtain ⟨j, hj, e⟩ := List.getElem_of_mem h2.1
  have h3 := (hP j hj hj).1
  have h4 : p.pts[j].id = r.fl[i].pt := by rw [e]; exact h2.2
  rw [wkFl, hg]
  unfold wkAsk
  rw [if_pos ⟨by omega, by rcases h1.2.2 with q | q <;> omega⟩]
  simp only
  rw [fl_all hP hF k i (by omega), List.take_succ_eq_append_getElem hi', List.map_append, List.append_assoc]
  rfl
theorem made_asks {p : Pl} (h : PlanMay p) {k : Nat} (hk : k < p.rts.length) {w : Rw} (hw : rwEnd p p.rts[k] = some w) : (wyOf p p.rts[k]).asks = madeAsks p p.rts[k] w := by
 have h1 := rw_to (rt_fine h hk) (allOf p.rts[k]).length (Nat.le_refl _)
 have hw' : rwTo p p.rts[k] (allOf p.rts[k]).length = some w := hw
 rw [hw'] at h1
 show (wkFl (wkEnd p p.rts[k]) p.rts[k].fl p.rts[k].fl.length).asks = _
 rw [fl_all (may_pts h) (may_rt h hk).2.2 _ _ (Nat.le_refl _), List.take_length]
 show (wkTo p p.rts[k] (allOf p.rts[k]).length).asks ++ _ = _
 rw [h1]
 rfl
theorem made_lost {p : Pl} (h : PlanMay p) {k : Nat} (hk : k < p.rts.length) : (wkEnd p p.rts[k]).lost = false ↔ (rwEnd p p.rts[k]).isSome = true := by
 have h1 := rw_to (rt_fine h hk) (allOf p.rts[k]).length (Nat.le_refl _)
 unfold wkEnd rwEnd
 cases hr : rwTo p p.rts[k] (allOf p.rts[k]).length with
 | none => rw [hr] at h1; rw [h1]; simp
 | some w => rw [hr] at h1; rw [h1]; simp [wkOf]
theorem made_outs {p : Pl} (h : PlanMay p) {k : Nat} (hk : k < p.rts.length) {w : Rw} (hw : rwEnd p p.rts[k] = some w) : outsOf p p.rts[k] = outsR p.rts[k] w.outs (allOf p.rts[k]).length := by
 have h1 := rw_to (rt_fine h hk) (allOf p.rts[k]).length (Nat.le_refl _)
 have hw' : rwTo p p.rts[k] (allOf p.rts[k]).length = some w := hw
 rw [hw'] at h1
 unfold outsOf wkEnd
 rw [h1]
 rfl
theorem rwTo_out {p : Pl} {r : Rt} (hf : RtFine p r) : ∀ i w, rwTo p r i = some w → ∀ j, j < i → j < r.path.length → 0 ≤ w.outs.getD j 0 ∧ (j + 1 = r.path.length → r.exit ≠ 0 → standAt p ((allOf r).getD j 0) (w.outs.getD j 0) = r.exit)
 | 0, w, h, j, hj, _ => by omega
 | i + 1, w, h, j, hj, hp => by
  have hal := all_len r
  rw [rwTo] at h
  cases hq : rwTo p r i with
  | none => rw [hq] at h; cases h
  | some v =>
   rw [hq] at h
   have h : rwStep p r i v = some w := h
   obtain ⟨l1, l2⟩ := rwTo_len p r i v hq
   have ih := rwTo_out hf i v hq
   have old : ∀ o : Int, j < i → (v.outs ++ [o]).getD j 0 = v.outs.getD j 0 := fun o hji => by simp only [List.getD_eq_getElem?_getD]; rw [List.getElem?_append_left (by omega)]
   unfold rwStep at h
   split at h
   ·cases h
   ·split at h
    ·rename_i hs
     cases h
     by_cases hji : j < i
     ·show 0 ≤ (v.outs ++ [-1]).getD j 0 ∧ (j + 1 = r.path.length → r.exit ≠ 0 → standAt p ((allOf r).getD j 0) ((v.outs ++ [-1]).getD j 0) = r.exit)
      rw [old _ hji]
      exact ih j hji hp
     ·omega
    ·split at h
     ·cases h
     ·rename_i e ho
      cases h
      by_cases hji : j < i
      ·show 0 ≤ (v.outs ++ [(e : Int)]).getD j 0 ∧ (j + 1 = r.path.length → r.exit ≠ 0 → standAt p ((allOf r).getD j 0) ((v.outs ++ [(e : Int)]).getD j 0) = r.exit)
       rw [old _ hji]
       exact ih j hji hp
      ·have hje : j = i := by omega
       subst hje
       have ge : (v.outs ++ [(e : Int)]).getD j 0 = (e : Int) := by rw [← l2]; exact getD_last _ _
       show 0 ≤ (v.outs ++ [(e : Int)]).getD j 0 ∧ (j + 1 = r.path.length → r.exit ≠ 0 → standAt p ((allOf r).getD j 0) ((v.outs ++ [(e : Int)]).getD j 0) = r.exit)
       rw [ge]
       refine ⟨Int.natCast_nonneg e, fun q1 q2 => ?_⟩
       have hok := List.find?_some ho
       unfold okEnd at hok
       rw [Bool.and_eq_true, if_pos q1, decide_eq_true_eq, decide_eq_true_eq] at hok
       rcases hok.2 with q | q
       ·exact absurd q.1 q2
       ·have := (hf.shaped j (by omega)).2.2
        rw [← this]
        exact q.2
theorem outsR_path (r : Rt) (outs : List Int) : ∀ i, (∀ j, j < i → 0 ≤ outs.getD j 0) → outsR r outs i = (List.range i).map fun j => ⟨(allOf r).getD j 0, outs.getD j 0⟩
 | 0, _ => rfl
 | i + 1, h => by
  rw [outsR, outsR_path r outs i fun j hj => h j (by omega), if_pos (h i (by omega)), List.range_succ, List.map_append]
  rfl
theorem outsR_more (r : Rt) (outs : List Int) : ∀ i d, ∃ m, outsR r outs (i + d) = outsR r outs i ++ m
 | i, 0 => ⟨[], by simp⟩
 | i, d + 1 => by
  obtain ⟨m, hm⟩ := outsR_more r outs i d
  exact ⟨m ++ (if 0 ≤ outs.getD (i + d) 0 then [⟨(allOf r).getD (i + d) 0, outs.getD (i + d) 0⟩] else []), by rw [← Nat.add_assoc, outsR, hm, List.append_assoc]⟩
def ClearR (p : Pl) (r : Rt) (outs : List Int) : Prop := ∀ i, i < r.path.length → ¬ (standAt p (r.path.getD i 0) (outs.getD i 0) ≠ 0 ∧ i + 1 < r.path.length) ∧ ¬ (i + 1 = r.path.length ∧ standAt p (r.path.getD i 0) (outs.getD i 0) ≠ r.exit)
instance (p : Pl) (r : Rt) (outs : List Int) : Decidable (ClearR p r outs) := by unfold ClearR; exact inferInstance
theorem clear_iff {p : Pl} (h : PlanMay p) {k : Nat} (hk : k < p.rts.length) {w : Rw} (hw : rwEnd p p.rts[k] = some w) : Clear p p.rts[k] (outsOf p p.rts[k]) ↔ ClearR p p.rts[k] w.outs := by
 have hal := all_len p.rts[k]
 have hf := rt_fine h hk
 have ho := rwTo_out hf _ w hw
 have hpre : ∃ m, outsOf p p.rts[k] = ((List.range p.rts[k].path.length).map fun j => (⟨(allOf p.rts[k]).getD j 0, w.outs.getD j 0⟩ : Jn)) ++ m := by
  obtain ⟨m, hm⟩ := outsR_more p.rts[k] w.outs p.rts[k].path.length p.rts[k].over.length
  refine ⟨m, ?_⟩
  rw [made_outs h hk hw, hal, hm, outsR_path _ _ _ fun j hj => (ho j (by omega) hj).1]
 obtain ⟨m, hm⟩ := hpre
 have hlen : p.rts[k].path.length ≤ (outsOf p p.rts[k]).length := by rw [hm]; simp
 have hat : ∀ i (hi : i < p.rts[k].path.length), (outsOf p p.rts[k])[i]'(by omega) = ⟨p.rts[k].path.getD i 0, w.outs.getD i 0⟩ := fun i hi => by
  have e1 : (outsOf p p.rts[k])[i]? = some ⟨(allOf p.rts[k]).getD i 0, w.outs.getD i 0⟩ := by
   rw [hm, List.getElem?_append_left (by simpa using hi)]
   simp [hi]
  have e2 : (allOf p.rts[k]).getD i 0 = p.rts[k].path.getD i 0 := by
   unfold allOf
   simp only [List.getD_eq_getElem?_getD]
   rw [List.getElem?_append_left hi]
  rw [List.getElem?_eq_getElem (by omega)] at e1
  rw [← e2]
  exact Option.some.inj e1
 have hag : ∀ i, i < p.rts[k].path.length → p.rts[k].path.getD i 0 = (allOf p.rts[k]).getD i 0 := fun i hi => by
  unfold allOf
  simp only [List.getD_eq_getElem?_getD]
  rw [List.getElem?_append_left hi]
 unfold Clear ClearA ClearR
 constructor
 ·intro hc i hi
  have h1 := hc i (by omega) hi
  rw [hat i hi] at h1
  have h2 : ∀ x ∈ p.sigs, ¬ Blocks p.rts[k] i ⟨p.rts[k].path.getD i 0, w.outs.getD i 0⟩ x := fun x hx => by
   obtain ⟨j, hj, rfl⟩ := List.getElem_of_mem hx
   exact h1 j hj hj
  constructor
  ·rintro ⟨q1, q2⟩
   obtain ⟨x, hx, e1, e2, e3⟩ := stand_is q1 rfl
   exact h2 x hx ⟨e1, e2, .inl q2⟩
  ·rintro ⟨q1, q2⟩
   by_cases hx : p.rts[k].exit = 0
   ·rw [hx] at q2
    obtain ⟨x, hx', e1, e2, e3⟩ := stand_is q2 rfl
    refine h2 x hx' ⟨e1, e2, .inr ?_⟩
    rw [e3, hx]
    exact q2
   ·apply q2
    rw [hag i hi]
    exact (ho i (by omega) hi).2 q1 hx
 ·intro hc i h1 hi j hj _
  rw [hat i hi]
  rintro ⟨e1, e2, e3⟩
  have hs := stand_some h (List.getElem_mem hj) e1 e2
  have h3 := (may_sigs h j hj hj).1
  obtain ⟨c1, c2⟩ := hc i hi
  rw [hs] at c1 c2
  rcases e3 with e3 | e3
  ·exact c1 ⟨by omega, e3⟩
  ·by_cases hl : i + 1 < p.rts[k].path.length
   ·exact c1 ⟨by omega, hl⟩
   ·exact c2 ⟨by omega, e3⟩
def SoundR (p : Pl) (r : Rt) : Prop := match rwEnd p r with | none => False | some w => Once (madeAsks p r w) ∧ ClearR p r w.outs
instance (p : Pl) (r : Rt) : Decidable (SoundR p r) := by unfold SoundR; split <;> exact inferInstance
theorem sound_iff (p : Pl) : PlanSound p ↔ PlanMay p ∧ ∀ k (h : k < p.rts.length), SoundR p p.rts[k] := by
 constructor
 ·rintro ⟨h1, h2, h3⟩
  refine ⟨h1, fun k hk => ?_⟩
  have h4 := (made_lost h1 hk).1 (h2 k hk hk)
  obtain ⟨w, hw⟩ := Option.isSome_iff_exists.1 h4
  have h5 := h3 k hk hk
  unfold SoundR
  rw [hw]
  exact ⟨by rw [← made_asks h1 hk hw]; exact h5.1, (clear_iff h1 hk hw).1 h5.2⟩
 ·rintro ⟨h1, h2⟩
  have key : ∀ k (hk : k < p.rts.length), ∃ w, rwEnd p p.rts[k] = some w ∧ Once (madeAsks p p.rts[k] w) ∧ ClearR p p.rts[k] w.outs := fun k hk => by
   have h3 := h2 k hk
   unfold SoundR at h3
   cases hr : rwEnd p p.rts[k] with
   | none => rw [hr] at h3; exact h3.elim
   | some w => rw [hr] at h3; exact ⟨w, rfl, h3⟩
  refine ⟨h1, fun k hk _ => ?_, fun k hk _ => ?_⟩
  ·obtain ⟨w, hw, _⟩ := key k hk
   exact (made_lost h1 hk).2 (by rw [hw]; rfl)
  ·obtain ⟨w, hw, a, b⟩ := key k hk
   exact ⟨by rw [made_asks h1 hk hw]; exact a, (clear_iff h1 hk hw).2 b⟩
end Go.Proofs.YtbiehpjhhopjaaaGreat
