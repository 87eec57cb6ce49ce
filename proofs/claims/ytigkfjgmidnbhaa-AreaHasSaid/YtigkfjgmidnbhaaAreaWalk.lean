/-
  Areas, and the walk of the law AreaHas.
-/
import Derived.Test.YtigkfjgmidnbhaaInts
import Derived.Lib.QuietBelow
import Derived.Outline
set_option linter.unusedVariables false
namespace Go.Proofs.Ytigkfjgmidnbhaa
open Go.RowKit Go.Sort
def ILv (w : World) (v : Value) (l : List Int) : Prop := ∃ a len cap, v = .slice a len cap ∧ IL w a len l
theorem ILv.below {w w' : World} {v : Value} {l : List Int} (h : ILv w v l) (hb : Below w.heap.size w w') : ILv w' v l := by
  obtain ⟨a, n, c, e, hl⟩ := h
  exact ⟨a, n, c, e, hl.below hb⟩
theorem ILv.nil (w : World) : ILv w (.slice none 0 0) [] := ⟨none, 0, 0, rfl, rfl, fun i h => by simp at h⟩
theorem in_v (v : Value) (l : List Int) (n : Int) (w : World) (hl : ILv w v l) (hm : l.length ≤ 1000000) :
    Calls Try.prog 23 #[v, .int .i64 n] w fun e w' => e = .returned (.bool (hasB l n)) ∧ Below w.heap.size w w' := by
  obtain ⟨a, len, c, rfl, hl⟩ := hl
  exact (in_any a len c l n w hl (by rw [← hl.len]; exact hm)).mono fun e w' ⟨h1, h2⟩ => ⟨h1, by subst h2; exact Below.refl _ _⟩
theorem contains_v (v : Value) (l : List Int) (n : Int) (w : World) (hl : ILv w v l) (hm : l.length ≤ 1000000) :
    Calls Try.prog 21 #[v, .int .i64 n] w fun e w' => e = .returned (.bool (hasB l n)) ∧ Below w.heap.size w w' := by
  obtain ⟨a, len, c, rfl, hl⟩ := hl
  exact (contains_any a len c l n w hl (by rw [← hl.len]; exact hm)).mono fun e w' ⟨h1, h2⟩ => ⟨h1, by subst h2; exact Below.refl _ _⟩
theorem drew_below {w : World} {b : Bool} {e : Ending} {w' : World} (h : Drew w b e w') : e = .returned (.bool b) ∧ Below w.heap.size w w' := by
  obtain ⟨h1, n, rfl⟩ := h
  exact ⟨h1, rfl, rfl, rfl, Nat.le_refl _, fun _ _ => rfl⟩
theorem equal_v (u v : Value) (l m : List Int) (w : World) (hl : ILv w u l) (hm : ILv w v m) (h1 : l.length ≤ 1000000) (h2 : m.length ≤ 1000000) :
    Calls Try.prog 24 #[u, v] w fun e w' => e = .returned (.bool (eqB l m)) ∧ Below w.heap.size w w' := by
  obtain ⟨a, la, ca, rfl, hl⟩ := hl
  obtain ⟨b, lb, cb, rfl, hm⟩ := hm
  exact (equal_any a b la lb ca cb l m w hl hm (by rw [← hl.len]; exact h1) (by rw [← hm.len]; exact h2)).mono fun e w' => drew_below
theorem ints_v (u v : Value) (l m : List Int) (w : World) (hl : ILv w u l) (hm : ILv w v m) (h1 : l.length ≤ 1000000) (h2 : m.length ≤ 1000000) :
    Calls Try.prog 25 #[u, v] w fun e w' => e = .returned (.bool (eqB l m)) ∧ Below w.heap.size w w' := by
  obtain ⟨a, la, ca, rfl, hl⟩ := hl
  obtain ⟨b, lb, cb, rfl, hm⟩ := hm
  exact (ints_any a b la lb ca cb l m w hl hm (by rw [← hl.len]; exact h1) (by rw [← hm.len]; exact h2)).mono fun e w' => drew_below
/-- an area: its lists -/
structure Ar where
  s : List Int
  p : List Int
  g : List Int
  r : List Int
/-- an area that reads as its lists -/
structure AL (w : World) (s p g r : Value) (x : Ar) : Prop where
  s : ILv w s x.s
  p : ILv w p x.p
  g : ILv w g x.g
  r : ILv w r x.r
theorem AL.below {w w' : World} {s p g r : Value} {x : Ar} (h : AL w s p g r x) (hb : Below w.heap.size w w') : AL w' s p g r x :=
  ⟨h.s.below hb, h.p.below hb, h.g.below hb, h.r.below hb⟩
def Ar.small (x : Ar) : Prop := x.s.length ≤ 200 ∧ x.p.length ≤ 200 ∧ x.g.length ≤ 200 ∧ x.r.length ≤ 200
instance (x : Ar) : Decidable x.small := by unfold Ar.small; exact inferInstance
theorem lists_any (a1 a2 a3 a4 : Option Addr) (l1 l2 l3 l4 c1 c2 c3 c4 : Nat) (w : World) : Calls Try.prog 22 #[.agg #[.slice a1 l1 c1, .slice a2 l2 c2, .slice a3 l3 c3, .slice a4 l4 c4]] w fun e w' => e = .returned (.agg #[.slice none 0 0, .slice a1 l1 c1, .slice a2 l2 c2, .slice a3 l3 c3, .slice a4 l4 c4]) ∧ Below w.heap.size w w' := by
  go_enter Try.func22, Try.ntmps22
  go_wp2_with fail
  exact bodyPost_ret (v := .agg #[.slice none 0 0, .slice a1 l1 c1, .slice a2 l2 c2, .slice a3 l3 c3, .slice a4 l4 c4]) (by simp [results, Try.results22, go_sem]) rfl ⟨rfl, (((Below.refl _ _).alloc (Nat.le_refl _) _).alloc (by simp) _)⟩
theorem great_any (s p g r : Value) (x : Ar) (w : World) (hx : AL w s p g r x) : Calls Try.prog 14 #[.agg #[s, p, g, r]] w fun e w' => e = .returned (.bool (!decide x.small)) ∧ Below w.heap.size w w' := by
  obtain ⟨⟨a1, l1, c1, rfl, h1⟩, ⟨a2, l2, c2, rfl, h2⟩, ⟨a3, l3, c3, rfl, h3⟩, ⟨a4, l4, c4, rfl, h4⟩⟩ := hx
  have HE : Hid (x.small ↔ (l1 ≤ 200 ∧ l2 ≤ 200 ∧ l3 ≤ 200 ∧ l4 ≤ 200)) := by
    show _ ↔ _
    unfold Ar.small
    rw [h1.len, h2.len, h3.len, h4.len]
  clear h1 h2 h3 h4
  go_enter Try.func14, Try.ntmps14
  go_wp2_with fail
  all_goals
    go_ret
    refine ⟨rbool ?_, (Below.refl _ _).alloc (Nat.le_refl _) _⟩
    have h := HE.out
    by_cases hs : x.small <;> simp [hs] <;> simp [hs] at h <;> omega
/-- is an element in an area? -/
def hasA (x : Ar) (kind n : Int) : Bool := if kind = 1 then hasB x.s n else if kind = 2 then hasB x.p n else if kind = 3 then hasB x.g n else if kind = 4 then hasB x.r n else false
theorem refhas_any (s p g r : Value) (x : Ar) (kind n : Int) (w : World) (hx : AL w s p g r x) (hs : x.small) (hk : 0 ≤ kind) (hk2 : kind ≤ 255) : Calls Try.prog 16 #[.agg #[s, p, g, r], .int .u8 kind, .int .i64 n] w fun e w' => e = .returned (.bool (hasA x kind n)) ∧ Below w.heap.size w w' := by
  obtain ⟨s1, s2, s3, s4⟩ := hs
  have HX : Hid (∀ w', Below w.heap.size w w' → AL w' s p g r x) := fun w' hb => hx.below hb
  obtain ⟨⟨a1, l1, c1, rfl, h1⟩, ⟨a2, l2, c2, rfl, h2⟩, ⟨a3, l3, c3, rfl, h3⟩, ⟨a4, l4, c4, rfl, h4⟩⟩ := hx
  clear h1 h2 h3 h4
  have k0 : Below w.heap.size w (w.alloc (.cells #[.slice a1 l1 c1, .slice a2 l2 c2, .slice a3 l3 c3, .slice a4 l4 c4] 33)) := (Below.refl _ _).alloc (Nat.le_refl _) _
  have K0 := Lib.hid k0
  clear k0
  by_cases h1 : kind = 1
  · subst h1
    go_enter Try.func16, Try.ntmps16
    go_wp2_with fail
    refine (in_v _ x.s n _ (HX.out _ K0.out).s (by omega)).mono ?_
    rintro e w1 ⟨rfl, hb⟩
    go_wp2_with fail
    go_ret
    exact ⟨rbool rfl, K0.out.trans (hb.mono K0.out.size)⟩
  · have e1 : (kind == 1) = false := by rw [beq_eq_false_iff_ne]; exact h1
    by_cases h2 : kind = 2
    · subst h2
      go_enter Try.func16, Try.ntmps16
      go_wp2_with fail
      refine (in_v _ x.p n _ (HX.out _ K0.out).p (by omega)).mono ?_
      rintro e w1 ⟨rfl, hb⟩
      go_wp2_with fail
      go_ret
      exact ⟨rbool rfl, K0.out.trans (hb.mono K0.out.size)⟩
    · have e2 : (kind == 2) = false := by rw [beq_eq_false_iff_ne]; exact h2
      by_cases h3 : kind = 3
      · subst h3
        go_enter Try.func16, Try.ntmps16
        go_wp2_with fail
        refine (in_v _ x.g n _ (HX.out _ K0.out).g (by omega)).mono ?_
        rintro e w1 ⟨rfl, hb⟩
        go_wp2_with fail
        go_ret
        exact ⟨rbool rfl, K0.out.trans (hb.mono K0.out.size)⟩
      · have e3 : (kind == 3) = false := by rw [beq_eq_false_iff_ne]; exact h3
        by_cases h4 : kind = 4
        · subst h4
          go_enter Try.func16, Try.ntmps16
          go_wp2_with fail
          refine (in_v _ x.r n _ (HX.out _ K0.out).r (by omega)).mono ?_
          rintro e w1 ⟨rfl, hb⟩
          go_wp2_with fail
          go_ret
          exact ⟨rbool rfl, K0.out.trans (hb.mono K0.out.size)⟩
        · have e4 : (kind == 4) = false := by rw [beq_eq_false_iff_ne]; exact h4
          have HE : Hid (hasA x kind n = false) := by show _ = _; unfold hasA; rw [if_neg h1, if_neg h2, if_neg h3, if_neg h4]
          clear h1 h2 h3 h4
          go_enter Try.func16, Try.ntmps16
          go_wp2_with fail
          go_ret
          exact ⟨rbool HE.out.symm, K0.out⟩
theorem at_lists0 (a1 a2 a3 a4 : Option Addr) (l1 l2 l3 l4 c1 c2 c3 c4 : Nat) (w : World) : Sem.run Try.prog (Instr.index 43 (.agg #[.slice none 0 0, .slice a1 l1 c1, .slice a2 l2 c2, .slice a3 l3 c3, .slice a4 l4 c4]) (.int .u8 0)) w = .ok (.slice none 0 0) w := by kernel_rfl
theorem at_lists1 (a1 a2 a3 a4 : Option Addr) (l1 l2 l3 l4 c1 c2 c3 c4 : Nat) (w : World) : Sem.run Try.prog (Instr.index 43 (.agg #[.slice none 0 0, .slice a1 l1 c1, .slice a2 l2 c2, .slice a3 l3 c3, .slice a4 l4 c4]) (.int .u8 1)) w = .ok (.slice a1 l1 c1) w := by kernel_rfl
theorem at_lists2 (a1 a2 a3 a4 : Option Addr) (l1 l2 l3 l4 c1 c2 c3 c4 : Nat) (w : World) : Sem.run Try.prog (Instr.index 43 (.agg #[.slice none 0 0, .slice a1 l1 c1, .slice a2 l2 c2, .slice a3 l3 c3, .slice a4 l4 c4]) (.int .u8 2)) w = .ok (.slice a2 l2 c2) w := by kernel_rfl
theorem at_lists3 (a1 a2 a3 a4 : Option Addr) (l1 l2 l3 l4 c1 c2 c3 c4 : Nat) (w : World) : Sem.run Try.prog (Instr.index 43 (.agg #[.slice none 0 0, .slice a1 l1 c1, .slice a2 l2 c2, .slice a3 l3 c3, .slice a4 l4 c4]) (.int .u8 3)) w = .ok (.slice a3 l3 c3) w := by kernel_rfl
theorem at_lists4 (a1 a2 a3 a4 : Option Addr) (l1 l2 l3 l4 c1 c2 c3 c4 : Nat) (w : World) : Sem.run Try.prog (Instr.index 43 (.agg #[.slice none 0 0, .slice a1 l1 c1, .slice a2 l2 c2, .slice a3 l3 c3, .slice a4 l4 c4]) (.int .u8 4)) w = .ok (.slice a4 l4 c4) w := by kernel_rfl
/-- are two areas the same? -/
def sameA (x y : Ar) : Bool := eqB x.s y.s && eqB x.p y.p && eqB x.g y.g && eqB x.r y.r
theorem has_at0 (s p g r : Value) (x : Ar) (n : Int) (w : World) (hx : AL w s p g r x) (hs : x.small) : Calls Try.prog 15 #[.agg #[s, p, g, r], .int .u8 0, .int .i64 n] w fun e w' => e = .returned (.bool (hasA x 0 n)) ∧ Below w.heap.size w w' := by
  obtain ⟨s1, s2, s3, s4⟩ := hs
  have HX : Hid (∀ w', Below w.heap.size w w' → AL w' s p g r x) := fun w' hb => hx.below hb
  obtain ⟨⟨a1, l1, c1, rfl, h1⟩, ⟨a2, l2, c2, rfl, h2⟩, ⟨a3, l3, c3, rfl, h3⟩, ⟨a4, l4, c4, rfl, h4⟩⟩ := hx
  clear h1 h2 h3 h4
  have k0 : Below w.heap.size w (w.alloc (.cells #[.slice a1 l1 c1, .slice a2 l2 c2, .slice a3 l3 c3, .slice a4 l4 c4] 33)) := (Below.refl _ _).alloc (Nat.le_refl _) _
  have K0 := Lib.hid k0
  clear k0
  have i0 := at_lists0 a1 a2 a3 a4 l1 l2 l3 l4 c1 c2 c3 c4
  go_enter Try.func15, Try.ntmps15
  go_wp2_with fail
  refine (lists_any a1 a2 a3 a4 l1 l2 l3 l4 c1 c2 c3 c4 _).mono ?_
  rintro e w1 ⟨rfl, hb⟩
  have k1 : Below w.heap.size w w1 := K0.out.trans (hb.mono K0.out.size)
  clear hb
  go_wp2_with fail
  refine (contains_v _ [] n _ (ILv.nil _) (by simp)).mono ?_
  rintro e w2 ⟨rfl, hb⟩
  go_wp2_with fail
  go_ret
  exact ⟨rbool (by unfold hasA hasB; simp), k1.trans (hb.mono k1.size)⟩
theorem has_at1 (s p g r : Value) (x : Ar) (n : Int) (w : World) (hx : AL w s p g r x) (hs : x.small) : Calls Try.prog 15 #[.agg #[s, p, g, r], .int .u8 1, .int .i64 n] w fun e w' => e = .returned (.bool (hasA x 1 n)) ∧ Below w.heap.size w w' := by
  obtain ⟨s1, s2, s3, s4⟩ := hs
  have HX : Hid (∀ w', Below w.heap.size w w' → AL w' s p g r x) := fun w' hb => hx.below hb
  obtain ⟨⟨a1, l1, c1, rfl, h1⟩, ⟨a2, l2, c2, rfl, h2⟩, ⟨a3, l3, c3, rfl, h3⟩, ⟨a4, l4, c4, rfl, h4⟩⟩ := hx
  clear h1 h2 h3 h4
  have k0 : Below w.heap.size w (w.alloc (.cells #[.slice a1 l1 c1, .slice a2 l2 c2, .slice a3 l3 c3, .slice a4 l4 c4] 33)) := (Below.refl _ _).alloc (Nat.le_refl _) _
  have K0 := Lib.hid k0
  clear k0
  have i0 := at_lists1 a1 a2 a3 a4 l1 l2 l3 l4 c1 c2 c3 c4
  go_enter Try.func15, Try.ntmps15
  go_wp2_with fail
  refine (lists_any a1 a2 a3 a4 l1 l2 l3 l4 c1 c2 c3 c4 _).mono ?_
  rintro e w1 ⟨rfl, hb⟩
  have k1 : Below w.heap.size w w1 := K0.out.trans (hb.mono K0.out.size)
  clear hb
  go_wp2_with fail
  refine (contains_v _ x.s n _ (HX.out _ k1).s (by omega)).mono ?_
  rintro e w2 ⟨rfl, hb⟩
  go_wp2_with fail
  go_ret
  exact ⟨rbool rfl, k1.trans (hb.mono k1.size)⟩
theorem has_at2 (s p g r : Value) (x : Ar) (n : Int) (w : World) (hx : AL w s p g r x) (hs : x.small) : Calls Try.prog 15 #[.agg #[s, p, g, r], .int .u8 2, .int .i64 n] w fun e w' => e = .returned (.bool (hasA x 2 n)) ∧ Below w.heap.size w w' := by
  obtain ⟨s1, s2, s3, s4⟩ := hs
  have HX : Hid (∀ w', Below w.heap.size w w' → AL w' s p g r x) := fun w' hb => hx.below hb
  obtain ⟨⟨a1, l1, c1, rfl, h1⟩, ⟨a2, l2, c2, rfl, h2⟩, ⟨a3, l3, c3, rfl, h3⟩, ⟨a4, l4, c4, rfl, h4⟩⟩ := hx
  clear h1 h2 h3 h4
  have k0 : Below w.heap.size w (w.alloc (.cells #[.slice a1 l1 c1, .slice a2 l2 c2, .slice a3 l3 c3, .slice a4 l4 c4] 33)) := (Below.refl _ _).alloc (Nat.le_refl _) _
  have K0 := Lib.hid k0
  clear k0
  have i0 := at_lists2 a1 a2 a3 a4 l1 l2 l3 l4 c1 c2 c3 c4
  go_enter Try.func15, Try.ntmps15
  go_wp2_with fail
  refine (lists_any a1 a2 a3 a4 l1 l2 l3 l4 c1 c2 c3 c4 _).mono ?_
  rintro e w1 ⟨rfl, hb⟩
  have k1 : Below w.heap.size w w1 := K0.out.trans (hb.mono K0.out.size)
  clear hb
  go_wp2_with fail
  refine (contains_v _ x.p n _ (HX.out _ k1).p (by omega)).mono ?_
  rintro e w2 ⟨rfl, hb⟩
  go_wp2_with fail
  go_ret
  exact ⟨rbool rfl, k1.trans (hb.mono k1.size)⟩
theorem has_at3 (s p g r : Value) (x : Ar) (n : Int) (w : World) (hx : AL w s p g r x) (hs : x.small) : Calls Try.prog 15 #[.agg #[s, p, g, r], .int .u8 3, .int .i64 n] w fun e w' => e = .returned (.bool (hasA x 3 n)) ∧ Below w.heap.size w w' := by
  obtain ⟨s1, s2, s3, s4⟩ := hs
  have HX : Hid (∀ w', Below w.heap.size w w' → AL w' s p g r x) := fun w' hb => hx.below hb
  obtain ⟨⟨a1, l1, c1, rfl, h1⟩, ⟨a2, l2, c2, rfl, h2⟩, ⟨a3, l3, c3, rfl, h3⟩, ⟨a4, l4, c4, rfl, h4⟩⟩ := hx
  clear h1 h2 h3 h4
  have k0 : Below w.heap.size w (w.alloc (.cells #[.slice a1 l1 c1, .slice a2 l2 c2, .slice a3 l3 c3, .slice a4 l4 c4] 33)) := (Below.refl _ _).alloc (Nat.le_refl _) _
  have K0 := Lib.hid k0
  clear k0
  have i0 := at_lists3 a1 a2 a3 a4 l1 l2 l3 l4 c1 c2 c3 c4
  go_enter Try.func15, Try.ntmps15
  go_wp2_with fail
  refine (lists_any a1 a2 a3 a4 l1 l2 l3 l4 c1 c2 c3 c4 _).mono ?_
  rintro e w1 ⟨rfl, hb⟩
  have k1 : Below w.heap.size w w1 := K0.out.trans (hb.mono K0.out.size)
  clear hb
  go_wp2_with fail
  refine (contains_v _ x.g n _ (HX.out _ k1).g (by omega)).mono ?_
  rintro e w2 ⟨rfl, hb⟩
  go_wp2_with fail
  go_ret
  exact ⟨rbool rfl, k1.trans (hb.mono k1.size)⟩
theorem has_at4 (s p g r : Value) (x : Ar) (n : Int) (w : World) (hx : AL w s p g r x) (hs : x.small) : Calls Try.prog 15 #[.agg #[s, p, g, r], .int .u8 4, .int .i64 n] w fun e w' => e = .returned (.bool (hasA x 4 n)) ∧ Below w.heap.size w w' := by
  obtain ⟨s1, s2, s3, s4⟩ := hs
  have HX : Hid (∀ w', Below w.heap.size w w' → AL w' s p g r x) := fun w' hb => hx.below hb
  obtain ⟨⟨a1, l1, c1, rfl, h1⟩, ⟨a2, l2, c2, rfl, h2⟩, ⟨a3, l3, c3, rfl, h3⟩, ⟨a4, l4, c4, rfl, h4⟩⟩ := hx
  clear h1 h2 h3 h4
  have k0 : Below w.heap.size w (w.alloc (.cells #[.slice a1 l1 c1, .slice a2 l2 c2, .slice a3 l3 c3, .slice a4 l4 c4] 33)) := (Below.refl _ _).alloc (Nat.le_refl _) _
  have K0 := Lib.hid k0
  clear k0
  have i0 := at_lists4 a1 a2 a3 a4 l1 l2 l3 l4 c1 c2 c3 c4
  go_enter Try.func15, Try.ntmps15
  go_wp2_with fail
  refine (lists_any a1 a2 a3 a4 l1 l2 l3 l4 c1 c2 c3 c4 _).mono ?_
  rintro e w1 ⟨rfl, hb⟩
  have k1 : Below w.heap.size w w1 := K0.out.trans (hb.mono K0.out.size)
  clear hb
  go_wp2_with fail
  refine (contains_v _ x.r n _ (HX.out _ k1).r (by omega)).mono ?_
  rintro e w2 ⟨rfl, hb⟩
  go_wp2_with fail
  go_ret
  exact ⟨rbool rfl, k1.trans (hb.mono k1.size)⟩
theorem has_any (s p g r : Value) (x : Ar) (kind n : Int) (w : World) (hx : AL w s p g r x) (hs : x.small) (hk : 0 ≤ kind) (hk2 : kind ≤ 255) : Calls Try.prog 15 #[.agg #[s, p, g, r], .int .u8 kind, .int .i64 n] w fun e w' => e = .returned (.bool (hasA x kind n)) ∧ Below w.heap.size w w' := by
  by_cases hbig : 4 < kind
  · obtain ⟨⟨a1, l1, c1, rfl, h1⟩, ⟨a2, l2, c2, rfl, h2⟩, ⟨a3, l3, c3, rfl, h3⟩, ⟨a4, l4, c4, rfl, h4⟩⟩ := hx
    clear h1 h2 h3 h4 hs
    have hd : decide (kind ≤ 4) = false := by simp; omega
    have HE : Hid (hasA x kind n = false) := by show _ = _; unfold hasA; rw [if_neg (by omega), if_neg (by omega), if_neg (by omega), if_neg (by omega)]
    go_enter Try.func15, Try.ntmps15
    go_wp2_with fail
    go_ret
    exact ⟨rbool HE.out.symm, (Below.refl _ _).alloc (Nat.le_refl _) _⟩
  · rcases (by omega : kind = 0 ∨ kind = 1 ∨ kind = 2 ∨ kind = 3 ∨ kind = 4) with rfl | rfl | rfl | rfl | rfl
    · exact has_at0 s p g r x n w hx hs
    · exact has_at1 s p g r x n w hx hs
    · exact has_at2 s p g r x n w hx hs
    · exact has_at3 s p g r x n w hx hs
    · exact has_at4 s p g r x n w hx hs
end Go.Proofs.Ytigkfjgmidnbhaa
