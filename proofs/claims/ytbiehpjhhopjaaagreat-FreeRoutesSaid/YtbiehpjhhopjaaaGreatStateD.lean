/-
  state.phase, and what a grip asks of each pair, walked. (Written by wip/tools/gen_sd.py.)
-/
import Derived.Test.YtbiehpjhhopjaaaGreatData
import Derived.Test.YtbiehpjhhopjaaaGreatEqfn
set_option linter.unusedVariables false
set_option linter.unusedSimpArgs false
namespace Go.Proofs.YtbiehpjhhopjaaaGreat
open Go.RowKit Go.Sort
theorem plain283 (args : Array Value) (w : World) : Sem.run Tryz.prog (callFunc 283 args) w = .ok (.enter 283 args) w := by simp [go_sem]
theorem plain285 : PlainF 285 := fun args w => by simp [go_sem]
theorem plain287 : PlainF 287 := fun args w => by simp [go_sem]
theorem plain289 : PlainF 289 := fun args w => by simp [go_sem]
theorem lie_any (n : Int) (w : World) : Calls Tryz.prog 283 #[.int .i64 n] w fun e w' => e = .returned (.bool (decide (0 ≤ n ∧ n ≤ 2))) ∧ w = w' := by
  have HE : Hid (∀ b, (b = true ↔ (0 ≤ n ∧ n ≤ 2)) → b = decide (0 ≤ n ∧ n ≤ 2)) := fun b hb => by rw [Bool.eq_iff_iff, hb]; simp
  generalize decide (0 ≤ n ∧ n ≤ 2) = B at *
  go_enter Tryz.func283, Tryz.ntmps283
  go_wp2_with fail
  all_goals
    go_ret
    exact ⟨rbool (HE.out _ (by simp; omega)), rfl⟩
theorem isTkSec (x : Tk) (y : Sec) (s1 : Option Addr) (d1 : Nat) (w : World) : Calls Tryz.prog 285 (#[.agg #[.int .i64 x.id, .int .u8 x.is], .agg #[.int .i64 y.id, .int .i64 y.pt, .slice s1 y.ends.length d1]] ++ #[]) w (BoolPost w (decide (TkAt x y))) := by
  have HE : Hid (∀ b, (b = true ↔ (x.id = y.id ∧ x.is ≤ 2)) → b = decide (TkAt x y)) := fun b hb => by rw [Bool.eq_iff_iff, hb, decide_eq_true_iff]; exact Iff.rfl
  generalize decide (TkAt x y) = B at *
  go_enter Tryz.func285, Tryz.ntmps285
  go_wp2_with fail
  all_goals
    go_ret
    exact ⟨rbool (HE.out _ (by simp_all)), ((Below.refl _ _).alloc (Nat.le_refl _) _).alloc (by simp) _⟩
set_option maxRecDepth 100000 in
theorem isSwPt (x : Sw) (y : Pt) (g : Nat) (w : World) (hg : w.cell? ⟨g, 0, none⟩ = some (.func (.func 283) #[] #[])) : Calls Tryz.prog 287 (#[.agg #[.int .i64 x.id, .int .i64 x.lie, .int .i64 x.call], .agg #[.int .i64 y.id, .int .i64 y.sec]] ++ #[.pointer (some ⟨g, 0, none⟩)]) w (BoolPost w (decide (SwAt x y))) := by
  have HE : Hid (∀ b, (b = true ↔ (x.id = y.id ∧ (0 ≤ x.lie ∧ x.lie ≤ 2) ∧ (0 ≤ x.call ∧ x.call ≤ 2))) → b = decide (SwAt x y)) := fun b hb => by rw [Bool.eq_iff_iff, hb, decide_eq_true_iff]; exact Iff.rfl
  have hcf := plain283
  have l0 := World.block_lt_of_cell? _ _ hg
  have HB : Hid (Below w.heap.size w ((w.alloc (.cells #[.int .i64 x.id, .int .i64 x.lie, .int .i64 x.call] 108)).alloc (.cells #[.int .i64 y.id, .int .i64 y.sec] 143))) := ((Below.refl _ _).alloc (Nat.le_refl _) _).alloc (by simp) _
  generalize decide (SwAt x y) = B at *
  by_cases h1 : x.id = y.id
  · have t1 : (x.id == y.id) = true := by rw [beq_iff_eq]; exact h1
    by_cases h2 : 0 ≤ x.lie ∧ x.lie ≤ 2
    · have d2 := decide_eq_true h2
      go_enter Tryz.func287, Tryz.ntmps287
      go_wp2_with fail
      refine (lie_any _ _).mono ?_
      rintro e w1 ⟨rfl, rfl⟩
      rw [d2]
      go_wp2_with fail
      refine (lie_any _ _).mono ?_
      rintro e w1 ⟨rfl, rfl⟩
      go_wp2_with fail
      all_goals
        go_ret
        exact ⟨rbool (HE.out _ (by simp_all)), ((Below.refl _ _).alloc (Nat.le_refl _) _).alloc (by simp) _⟩
    · have d2 := decide_eq_false h2
      go_enter Tryz.func287, Tryz.ntmps287
      go_wp2_with fail
      refine (lie_any _ _).mono ?_
      rintro e w1 ⟨rfl, rfl⟩
      rw [d2]
      have HN : Hid (false = B) := HE.out false (by simp; intro _ a b; exact absurd ⟨a, b⟩ h2)
      clear h2 d2
      go_wp2_with fail
      go_ret
      exact ⟨rbool HN.out, ((Below.refl _ _).alloc (Nat.le_refl _) _).alloc (by simp) _⟩
  · have t1 : (x.id == y.id) = false := by rw [beq_eq_false_iff_ne]; exact h1
    have HN : Hid (false = B) := HE.out false (by simp [h1])
    clear h1
    go_enter Tryz.func287, Tryz.ntmps287
    go_wp2_with fail
    go_ret
    exact ⟨rbool HN.out, ((Below.refl _ _).alloc (Nat.le_refl _) _).alloc (by simp) _⟩
set_option maxRecDepth 100000 in
set_option maxHeartbeats 4000000 in
theorem phase_any (l : Lk) (r : Rt) (s1 s2 s3 : Option Addr) (d1 d2 d3 : Nat) (w : World) (h6 : r.path.length ≤ 1000) : Calls Tryz.prog 290 #[.agg #[.int .i64 l.id, .int .u8 l.ph, .int .i64 l.gone, .int .i64 l.left], .agg #[.int .i64 r.id, .int .i64 r.entry, .int .i64 r.exit, .slice s1 r.path.length d1, .slice s2 r.over.length d2, .slice s3 r.fl.length d3, .int .i64 r.timer]] w (BoolPost w (decide (Phase l r))) := by
  have HE : Hid (∀ b, (b = true ↔ Phase l r) → b = decide (Phase l r)) := fun b hb => by rw [Bool.eq_iff_iff, hb]; simp
  generalize decide (Phase l r) = B at *
  have HP : Hid (Phase l r ↔ (((l.ph = 0 ∨ l.ph = 1) ∧ l.gone = 0 ∧ l.left = 0) ∨ (l.ph = 2 ∧ 0 ≤ l.gone ∧ l.gone ≤ (r.path.length : Int) - 1 ∧ l.left = 0) ∨
  (l.ph = 3 ∧ l.gone = (r.path.length : Int) - 1 ∧ 1 ≤ l.left ∧ l.left ≤ r.timer) ∨ (l.ph = 4 ∧ l.gone = 0 ∧ 1 ≤ l.left ∧ l.left ≤ r.timer))) := Iff.rfl
  have HB : Hid (Below w.heap.size w ((w.alloc (.cells #[.int .i64 l.id, .int .u8 l.ph, .int .i64 l.gone, .int .i64 l.left] 99)).alloc (.cells #[.int .i64 r.id, .int .i64 r.entry, .int .i64 r.exit, .slice s1 r.path.length d1, .slice s2 r.over.length d2, .slice s3 r.fl.length d3, .int .i64 r.timer] 102))) := ((Below.refl _ _).alloc (Nat.le_refl _) _).alloc (by simp) _
  generalize Phase l r = PP at *
  obtain ⟨lid, ph, gone, left⟩ := l
  simp only [] at HP HB ⊢
  generalize r.timer = timer at *
  generalize r.path.length = pl at *
  by_cases p0 : ph = 0
  · subst p0
    by_cases h0 : gone = 0
    · have t0 : (gone == 0) = true := by simpa using h0
      by_cases h1 : left = 0
      · have t1 : (left == 0) = true := by simpa using h1
        have HN : Hid (true = B) := HE.out true (by rw [HP.out]; simp; omega)
        clear h0 h1
        go_enter Tryz.func290, Tryz.ntmps290
        go_wp2_with fail
        go_ret
        exact ⟨rbool HN.out, HB.out⟩
      · have t1 : (left == 0) = false := by simpa using h1
        have HN : Hid (false = B) := HE.out false (by rw [HP.out]; simp; omega)
        clear h0 h1
        go_enter Tryz.func290, Tryz.ntmps290
        go_wp2_with fail
        go_ret
        exact ⟨rbool HN.out, HB.out⟩
    · have t0 : (gone == 0) = false := by simpa using h0
      have HN : Hid (false = B) := HE.out false (by rw [HP.out]; simp; omega)
      clear h0
      go_enter Tryz.func290, Tryz.ntmps290
      go_wp2_with fail
      go_ret
      exact ⟨rbool HN.out, HB.out⟩
  · have q0 : (ph == 0) = false := by rw [beq_eq_false_iff_ne]; exact p0
    by_cases p1 : ph = 1
    · subst p1
      by_cases h0 : gone = 0
      · have t0 : (gone == 0) = true := by simpa using h0
        by_cases h1 : left = 0
        · have t1 : (left == 0) = true := by simpa using h1
          have HN : Hid (true = B) := HE.out true (by rw [HP.out]; simp; omega)
          clear h0 h1
          go_enter Tryz.func290, Tryz.ntmps290
          go_wp2_with fail
          go_ret
          exact ⟨rbool HN.out, HB.out⟩
        · have t1 : (left == 0) = false := by simpa using h1
          have HN : Hid (false = B) := HE.out false (by rw [HP.out]; simp; omega)
          clear h0 h1
          go_enter Tryz.func290, Tryz.ntmps290
          go_wp2_with fail
          go_ret
          exact ⟨rbool HN.out, HB.out⟩
      · have t0 : (gone == 0) = false := by simpa using h0
        have HN : Hid (false = B) := HE.out false (by rw [HP.out]; simp; omega)
        clear h0
        go_enter Tryz.func290, Tryz.ntmps290
        go_wp2_with fail
        go_ret
        exact ⟨rbool HN.out, HB.out⟩
    · have q1 : (ph == 1) = false := by rw [beq_eq_false_iff_ne]; exact p1
      by_cases p2 : ph = 2
      · subst p2
        by_cases h0 : 0 ≤ gone
        · have t0 : decide (0 ≤ gone) = true := by simpa using h0
          by_cases h1 : gone ≤ (pl : Int) - 1
          · have t1 : decide (gone ≤ (pl : Int) - 1) = true := by simpa using h1
            by_cases h2 : left = 0
            · have t2 : (left == 0) = true := by simpa using h2
              have HN : Hid (true = B) := HE.out true (by rw [HP.out]; simp; omega)
              clear h0 h1 h2
              go_enter Tryz.func290, Tryz.ntmps290
              go_wp2_with fail
              go_ret
              exact ⟨rbool HN.out, HB.out⟩
            · have t2 : (left == 0) = false := by simpa using h2
              have HN : Hid (false = B) := HE.out false (by rw [HP.out]; simp; omega)
              clear h0 h1 h2
              go_enter Tryz.func290, Tryz.ntmps290
              go_wp2_with fail
              go_ret
              exact ⟨rbool HN.out, HB.out⟩
          · have t1 : decide (gone ≤ (pl : Int) - 1) = false := by simpa using h1
            have HN : Hid (false = B) := HE.out false (by rw [HP.out]; simp; omega)
            clear h0 h1
            go_enter Tryz.func290, Tryz.ntmps290
            go_wp2_with fail
            go_ret
            exact ⟨rbool HN.out, HB.out⟩
        · have t0 : decide (0 ≤ gone) = false := by simpa using h0
          have HN : Hid (false = B) := HE.out false (by rw [HP.out]; simp; omega)
          clear h0
          go_enter Tryz.func290, Tryz.ntmps290
          go_wp2_with fail
          go_ret
          exact ⟨rbool HN.out, HB.out⟩
      · have q2 : (ph == 2) = false := by rw [beq_eq_false_iff_ne]; exact p2
        by_cases p3 : ph = 3
        · subst p3
          by_cases h0 : gone = (pl : Int) - 1
          · have t0 : (gone == (pl : Int) - 1) = true := by simpa using h0
            by_cases h1 : 1 ≤ left
            · have t1 : decide (1 ≤ left) = true := by simpa using h1
              by_cases h2 : left ≤ timer
              · have t2 : decide (left ≤ timer) = true := by simpa using h2
                have HN : Hid (true = B) := HE.out true (by rw [HP.out]; simp; omega)
                clear h0 h1 h2
                go_enter Tryz.func290, Tryz.ntmps290
                go_wp2_with fail
                go_ret
                exact ⟨rbool HN.out, HB.out⟩
              · have t2 : decide (left ≤ timer) = false := by simpa using h2
                have HN : Hid (false = B) := HE.out false (by rw [HP.out]; simp; omega)
                clear h0 h1 h2
                go_enter Tryz.func290, Tryz.ntmps290
                go_wp2_with fail
                go_ret
                exact ⟨rbool HN.out, HB.out⟩
            · have t1 : decide (1 ≤ left) = false := by simpa using h1
              have HN : Hid (false = B) := HE.out false (by rw [HP.out]; simp; omega)
              clear h0 h1
              go_enter Tryz.func290, Tryz.ntmps290
              go_wp2_with fail
              go_ret
              exact ⟨rbool HN.out, HB.out⟩
          · have t0 : (gone == (pl : Int) - 1) = false := by simpa using h0
            have HN : Hid (false = B) := HE.out false (by rw [HP.out]; simp; omega)
            clear h0
            go_enter Tryz.func290, Tryz.ntmps290
            go_wp2_with fail
            go_ret
            exact ⟨rbool HN.out, HB.out⟩
        · have q3 : (ph == 3) = false := by rw [beq_eq_false_iff_ne]; exact p3
          by_cases p4 : ph = 4
          · subst p4
            by_cases h0 : gone = 0
            · have t0 : (gone == 0) = true := by simpa using h0
              by_cases h1 : 1 ≤ left
              · have t1 : decide (1 ≤ left) = true := by simpa using h1
                by_cases h2 : left ≤ timer
                · have t2 : decide (left ≤ timer) = true := by simpa using h2
                  have HN : Hid (true = B) := HE.out true (by rw [HP.out]; simp; omega)
                  clear h0 h1 h2
                  go_enter Tryz.func290, Tryz.ntmps290
                  go_wp2_with fail
                  go_ret
                  exact ⟨rbool HN.out, HB.out⟩
                · have t2 : decide (left ≤ timer) = false := by simpa using h2
                  have HN : Hid (false = B) := HE.out false (by rw [HP.out]; simp; omega)
                  clear h0 h1 h2
                  go_enter Tryz.func290, Tryz.ntmps290
                  go_wp2_with fail
                  go_ret
                  exact ⟨rbool HN.out, HB.out⟩
              · have t1 : decide (1 ≤ left) = false := by simpa using h1
                have HN : Hid (false = B) := HE.out false (by rw [HP.out]; simp; omega)
                clear h0 h1
                go_enter Tryz.func290, Tryz.ntmps290
                go_wp2_with fail
                go_ret
                exact ⟨rbool HN.out, HB.out⟩
            · have t0 : (gone == 0) = false := by simpa using h0
              have HN : Hid (false = B) := HE.out false (by rw [HP.out]; simp; omega)
              clear h0
              go_enter Tryz.func290, Tryz.ntmps290
              go_wp2_with fail
              go_ret
              exact ⟨rbool HN.out, HB.out⟩
          · have q4 : (ph == 4) = false := by rw [beq_eq_false_iff_ne]; exact p4
            have HN : Hid (false = B) := HE.out false (by rw [HP.out]; simp; omega)
            clear p0 p1 p2 p3 p4
            go_enter Tryz.func290, Tryz.ntmps290
            go_wp2_with fail
            go_ret
            exact ⟨rbool HN.out, HB.out⟩
set_option maxRecDepth 100000 in
theorem isLkRt (x : Lk) (y : Rt) (s1 s2 s3 : Option Addr) (d1 d2 d3 : Nat) (w : World) (h6 : y.path.length ≤ 1000) : Calls Tryz.prog 289 (#[.agg #[.int .i64 x.id, .int .u8 x.ph, .int .i64 x.gone, .int .i64 x.left], .agg #[.int .i64 y.id, .int .i64 y.entry, .int .i64 y.exit, .slice s1 y.path.length d1, .slice s2 y.over.length d2, .slice s3 y.fl.length d3, .int .i64 y.timer]] ++ #[]) w (BoolPost w (decide (LkAt x y))) := by
  have HE : Hid (∀ b, (b = true ↔ (x.id = y.id ∧ Phase x y)) → b = decide (LkAt x y)) := fun b hb => by rw [Bool.eq_iff_iff, hb, decide_eq_true_iff]; exact Iff.rfl
  have HC : Hid (∀ w, Calls Tryz.prog 290 #[.agg #[.int .i64 x.id, .int .u8 x.ph, .int .i64 x.gone, .int .i64 x.left], .agg #[.int .i64 y.id, .int .i64 y.entry, .int .i64 y.exit, .slice s1 y.path.length d1, .slice s2 y.over.length d2, .slice s3 y.fl.length d3, .int .i64 y.timer]] w (BoolPost w (decide (Phase x y)))) := fun w => phase_any x y s1 s2 s3 d1 d2 d3 w h6
  have HB : Hid (Below w.heap.size w ((w.alloc (.cells #[.int .i64 x.id, .int .u8 x.ph, .int .i64 x.gone, .int .i64 x.left] 99)).alloc (.cells #[.int .i64 y.id, .int .i64 y.entry, .int .i64 y.exit, .slice s1 y.path.length d1, .slice s2 y.over.length d2, .slice s3 y.fl.length d3, .int .i64 y.timer] 102))) := ((Below.refl _ _).alloc (Nat.le_refl _) _).alloc (by simp) _
  generalize decide (LkAt x y) = B at *
  by_cases h1 : x.id = y.id
  · have t1 : (x.id == y.id) = true := by rw [beq_iff_eq]; exact h1
    have HD : Hid (decide (Phase x y) = B) := HE.out _ (by simp [h1])
    generalize decide (Phase x y) = D at *
    clear h1
    go_enter Tryz.func289, Tryz.ntmps289
    go_wp2_with fail
    refine (HC.out _).mono ?_
    rintro e w1 ⟨rfl, hb1⟩
    have K1 : Hid (Below w.heap.size w w1) := (((Below.refl _ _).alloc (Nat.le_refl _) _).alloc (by simp) _).trans (hb1.mono (by simp; omega))
    clear hb1 HC
    go_wp2_with fail
    go_ret
    exact ⟨rbool HD.out, K1.out⟩
  · have t1 : (x.id == y.id) = false := by rw [beq_eq_false_iff_ne]; exact h1
    have HN : Hid (false = B) := HE.out false (by simp [h1])
    clear h1
    go_enter Tryz.func289, Tryz.ntmps289
    go_wp2_with fail
    go_ret
    exact ⟨rbool HN.out, ((Below.refl _ _).alloc (Nat.le_refl _) _).alloc (by simp) _⟩
end Go.Proofs.YtbiehpjhhopjaaaGreat
