/-
  track.ways, track.Through, walked.
-/
import Derived.Test.YtbiehpjhhopjaaaGreatTrackC
import Derived.Test.YtbiehpjhhopjaaaGreatData
set_option linter.unusedVariables false
namespace Go.Proofs.YtbiehpjhhopjaaaGreat
open Go.RowKit Go.Sort
def tabA : Array Value := #[.int .i64 0, .int .i64 3, .int .i64 0, .int .i64 3, .int .i64 0, .int .i64 0, .int .i64 0, .int .i64 0, .int .i64 0]
def tabB : Array Value := #[.int .i64 0, .int .i64 1, .int .i64 2, .int .i64 1, .int .i64 0, .int .i64 0, .int .i64 2, .int .i64 0, .int .i64 0]
theorem ways_any (s : Sec) (a : Option Addr) (c : Nat) (w : World) :
    Calls Tryz.prog 419 #[secV s a c] w fun e w' => e = .returned (.agg (if s.pt = 0 then tabA else tabB)) ∧ Below w.heap.size w w' := by
  unfold secV
  generalize s.ends.length = n at *
  generalize s.pt = q at *
  generalize s.id = z at *
  by_cases h0 : q = 0
  · subst h0
    rw [if_pos rfl]
    go_enter Tryz.func419, Tryz.ntmps419
    go_wp2_with fail
    exact bodyPost_ret (v := .agg tabA) (by simp [results, Tryz.f419, go_sem, tabA]) rfl ⟨rfl, ((Below.refl _ _).alloc (Nat.le_refl _) _).alloc (by simp) _⟩
  · have hd : (q == 0) = false := by rw [beq_eq_false_iff_ne]; exact h0
    rw [if_neg h0]
    clear h0
    go_enter Tryz.func419, Tryz.ntmps419
    go_wp2_with fail
    exact bodyPost_ret (v := .agg tabB) (by simp [results, Tryz.f419, go_sem, tabB]) rfl ⟨rfl, ((Below.refl _ _).alloc (Nat.le_refl _) _).alloc (by simp) _⟩
theorem ix481_0 (a b c d e f g h i : Int) (w : World) : Sem.run Tryz.prog (Instr.index 481 (.agg #[.int .i64 a, .int .i64 b, .int .i64 c, .int .i64 d, .int .i64 e, .int .i64 f, .int .i64 g, .int .i64 h, .int .i64 i]) (.int .i64 0)) w = .ok (.agg #[.int .i64 a, .int .i64 b, .int .i64 c]) w := by kernel_rfl
theorem ix481_1 (a b c d e f g h i : Int) (w : World) : Sem.run Tryz.prog (Instr.index 481 (.agg #[.int .i64 a, .int .i64 b, .int .i64 c, .int .i64 d, .int .i64 e, .int .i64 f, .int .i64 g, .int .i64 h, .int .i64 i]) (.int .i64 1)) w = .ok (.agg #[.int .i64 d, .int .i64 e, .int .i64 f]) w := by kernel_rfl
theorem ix481_2 (a b c d e f g h i : Int) (w : World) : Sem.run Tryz.prog (Instr.index 481 (.agg #[.int .i64 a, .int .i64 b, .int .i64 c, .int .i64 d, .int .i64 e, .int .i64 f, .int .i64 g, .int .i64 h, .int .i64 i]) (.int .i64 2)) w = .ok (.agg #[.int .i64 g, .int .i64 h, .int .i64 i]) w := by kernel_rfl
theorem ix479_0 (a b c : Int) (w : World) : Sem.run Tryz.prog (Instr.index 479 (.agg #[.int .i64 a, .int .i64 b, .int .i64 c]) (.int .i64 0)) w = .ok (.int .i64 a) w := by kernel_rfl
theorem ix479_1 (a b c : Int) (w : World) : Sem.run Tryz.prog (Instr.index 479 (.agg #[.int .i64 a, .int .i64 b, .int .i64 c]) (.int .i64 1)) w = .ok (.int .i64 b) w := by kernel_rfl
theorem ix479_2 (a b c : Int) (w : World) : Sem.run Tryz.prog (Instr.index 479 (.agg #[.int .i64 a, .int .i64 b, .int .i64 c]) (.int .i64 2)) w = .ok (.int .i64 c) w := by kernel_rfl
def ThrPost (w : World) (s : Sec) (x y : Int) (e : Ending) (w' : World) : Prop := e = .returned (.tuple #[.int .i64 (thrL s x y), .int .i64 (thrE s x y)]) ∧ Below w.heap.size w w'
theorem through_bad (s : Sec) (a : Option Addr) (c : Nat) (x y : Int) (w : World) (hs : ¬ s.Shaped) : Calls Tryz.prog 384 #[secV s a c, .int .i64 x, .int .i64 y] w (ThrPost w s x y) := by
  have hE : thrE s x y = 8 := by unfold thrE; rw [if_pos hs]
  have hL : thrL s x y = 0 := by unfold thrL; rw [hE]; rfl
  unfold ThrPost
  rw [hE, hL]
  have HC := Lib.hid (fun w => shaped_any s a c w)
  have hd : decide s.Shaped = false := decide_eq_false hs
  rw [hd] at HC
  unfold secV at *
  clear hE hL hs hd
  go_enter Tryz.func384, Tryz.ntmps384
  go_wp2_with fail
  refine (HC.out _).mono ?_
  rintro e w1 ⟨rfl, hb1⟩
  have K1 : Hid (Below w.heap.size w w1) := ((Below.refl _ _).alloc (Nat.le_refl _) _).trans (hb1.mono (by simp))
  clear hb1 HC
  go_wp2_with fail
  exact bodyPost_ret (v := .tuple #[.int .i64 0, .int .i64 8]) (by simp [results, Tryz.f384, go_sem]) rfl ⟨rfl, K1.out⟩
theorem through_out (s : Sec) (a : Option Addr) (c : Nat) (x y : Int) (w : World) (hs : s.Shaped) (hr : x < 0 ∨ 2 < x ∨ y < 0 ∨ 2 < y) : Calls Tryz.prog 384 #[secV s a c, .int .i64 x, .int .i64 y] w (ThrPost w s x y) := by
  have hE : thrE s x y = 2 := by
    unfold thrE
    rw [if_neg (fun h => h hs), if_pos]
    rcases hr with h | h | h | h
    · exact .inl h
    · exact .inr (.inl h)
    · exact .inr (.inr (.inl h))
    · exact .inr (.inr (.inr (.inl h)))
  have hL : thrL s x y = 0 := by unfold thrL; rw [hE]; rfl
  unfold ThrPost
  rw [hE, hL]
  have HC := Lib.hid (fun w => shaped_any s a c w)
  have hd : decide s.Shaped = true := decide_eq_true hs
  rw [hd] at HC
  unfold secV at *
  have HR := Lib.hid hr
  clear hE hL hs hd hr
  go_enter Tryz.func384, Tryz.ntmps384
  go_wp2_with fail
  refine (HC.out _).mono ?_
  rintro e w1 ⟨rfl, hb1⟩
  have K1 : Hid (Below w.heap.size w w1) := ((Below.refl _ _).alloc (Nat.le_refl _) _).trans (hb1.mono (by simp))
  clear hb1 HC
  by_cases h1 : x < 0
  · have t1 : decide (x < 0) = true := by simpa using h1
    clear h1
    go_wp2_with fail
    exact bodyPost_ret (v := .tuple #[.int .i64 0, .int .i64 2]) (by simp [results, Tryz.f384, go_sem]) rfl ⟨rfl, K1.out⟩
  · have t1 : decide (x < 0) = false := by simpa using h1
    by_cases h2 : 2 < x
    · have t2 : decide (2 < x) = true := by simpa using h2
      clear h1 h2
      go_wp2_with fail
      exact bodyPost_ret (v := .tuple #[.int .i64 0, .int .i64 2]) (by simp [results, Tryz.f384, go_sem]) rfl ⟨rfl, K1.out⟩
    · have t2 : decide (2 < x) = false := by simpa using h2
      by_cases h3 : y < 0
      · have t3 : decide (y < 0) = true := by simpa using h3
        clear h1 h2 h3
        go_wp2_with fail
        exact bodyPost_ret (v := .tuple #[.int .i64 0, .int .i64 2]) (by simp [results, Tryz.f384, go_sem]) rfl ⟨rfl, K1.out⟩
      · have t3 : decide (y < 0) = false := by simpa using h3
        have t4 : decide (2 < y) = true := by have := HR.out; simp only [decide_eq_true_eq]; omega
        clear h1 h2 h3
        go_wp2_with fail
        exact bodyPost_ret (v := .tuple #[.int .i64 0, .int .i64 2]) (by simp [results, Tryz.f384, go_sem]) rfl ⟨rfl, K1.out⟩
set_option maxRecDepth 100000 in
set_option maxHeartbeats 8000000 in
theorem through_in (s : Sec) (a : Option Addr) (c : Nat) (x y : Int) (w : World) (hs : s.Shaped) (hx : x = 0 ∨ x = 1 ∨ x = 2) (hy : y = 0 ∨ y = 1 ∨ y = 2) : Calls Tryz.prog 384 #[secV s a c, .int .i64 x, .int .i64 y] w (ThrPost w s x y) := by
  have j0 := ix481_0
  have j1 := ix481_1
  have j2 := ix481_2
  have m0 := ix479_0
  have m1 := ix479_1
  have m2 := ix479_2
  have HC := Lib.hid (fun w => shaped_any s a c w)
  have HW := Lib.hid (fun w => ways_any s a c w)
  have hd : decide s.Shaped = true := decide_eq_true hs
  rw [hd] at HC
  have HE : Hid (thrE s x y = if x < 0 ∨ 2 < x ∨ y < 0 ∨ 2 < y ∨ lieTab s.pt x y = 0 then 2 else 0) := by show _ = _; unfold thrE; rw [if_neg (fun h => h hs)]
  have HL : Hid (thrL s x y = if thrE s x y = 0 then (lieTab s.pt x y).tmod 3 else 0) := rfl
  have HT : Hid (lieTab s.pt x y = if s.pt = 0 then (if (x = 0 ∧ y = 1) ∨ (x = 1 ∧ y = 0) then 3 else 0)
  else if (x = 0 ∧ y = 1) ∨ (x = 1 ∧ y = 0) then 1
  else if (x = 0 ∧ y = 2) ∨ (x = 2 ∧ y = 0) then 2 else 0) := rfl
  unfold ThrPost
  clear hs hd
  generalize lieTab s.pt x y = T at *
  generalize thrL s x y = TL at *
  generalize thrE s x y = TE at *
  unfold secV at *
  generalize s.pt = q at *
  by_cases hp : q = 0
  · subst hp
    rw [if_pos rfl] at HW HT
    unfold tabA at *
    rcases hx with rfl | rfl | rfl <;> rcases hy with rfl | rfl | rfl
    all_goals
      have hT := HT.out
      simp at hT
      subst hT
      have hE := HE.out
      simp at hE
      subst hE
      have hL := HL.out
      simp at hL
      subst hL
      clear HE HL HT
      go_enter Tryz.func384, Tryz.ntmps384
      go_wp2_with fail
      refine (HC.out _).mono ?_
      rintro e w1 ⟨rfl, hb1⟩
      have K1 : Hid (Below w.heap.size w w1) := ((Below.refl _ _).alloc (Nat.le_refl _) _).trans (hb1.mono (by simp))
      have z0 : w1.cell? ⟨w.heap.size, 0, none⟩ = some (.int .i64 s.id) := ccell hb1 (by simp)
      have z1 : w1.cell? ⟨w.heap.size, 1, none⟩ = some (.int .i64 0) := ccell hb1 (by simp)
      have z2 : w1.cell? ⟨w.heap.size, 2, none⟩ = some (.slice a s.ends.length c) := ccell hb1 (by simp)
      clear hb1 HC
      go_wp2_with fail
      refine (HW.out _).mono ?_
      rintro e w2 ⟨rfl, hb2⟩
      have K2 : Hid (Below w.heap.size w w2) := K1.out.trans (hb2.mono K1.out.size)
      have z0 : w2.cell? ⟨w.heap.size, 0, none⟩ = some (.int .i64 s.id) := ccell hb2 z0
      have z1 : w2.cell? ⟨w.heap.size, 1, none⟩ = some (.int .i64 0) := ccell hb2 z1
      have z2 : w2.cell? ⟨w.heap.size, 2, none⟩ = some (.slice a s.ends.length c) := ccell hb2 z2
      clear hb2
      go_wp2_with fail
      first
        | exact bodyPost_ret (v := .tuple #[.int .i64 0, .int .i64 2]) (by simp [results, Tryz.f384, go_sem]) rfl ⟨rfl, K2.out⟩
        | (refine (HW.out _).mono ?_
           rintro e w3 ⟨rfl, hb3⟩
           have K3 : Hid (Below w.heap.size w w3) := K2.out.trans (hb3.mono K2.out.size)
           clear hb3 HW
           go_wp2_with fail
           exact bodyPost_ret (v := .tuple #[.int .i64 _, .int .i64 0]) (by simp [results, Tryz.f384, go_sem]) rfl ⟨rfl, K3.out⟩)
  · rw [if_neg hp] at HW HT
    unfold tabB at *
    clear hp
    rcases hx with rfl | rfl | rfl <;> rcases hy with rfl | rfl | rfl
    all_goals
      have hT := HT.out
      simp at hT
      subst hT
      have hE := HE.out
      simp at hE
      subst hE
      have hL := HL.out
      simp at hL
      subst hL
      clear HE HL HT
      go_enter Tryz.func384, Tryz.ntmps384
      go_wp2_with fail
      refine (HC.out _).mono ?_
      rintro e w1 ⟨rfl, hb1⟩
      have K1 : Hid (Below w.heap.size w w1) := ((Below.refl _ _).alloc (Nat.le_refl _) _).trans (hb1.mono (by simp))
      have z0 : w1.cell? ⟨w.heap.size, 0, none⟩ = some (.int .i64 s.id) := ccell hb1 (by simp)
      have z1 : w1.cell? ⟨w.heap.size, 1, none⟩ = some (.int .i64 q) := ccell hb1 (by simp)
      have z2 : w1.cell? ⟨w.heap.size, 2, none⟩ = some (.slice a s.ends.length c) := ccell hb1 (by simp)
      clear hb1 HC
      go_wp2_with fail
      refine (HW.out _).mono ?_
      rintro e w2 ⟨rfl, hb2⟩
      have K2 : Hid (Below w.heap.size w w2) := K1.out.trans (hb2.mono K1.out.size)
      have z0 : w2.cell? ⟨w.heap.size, 0, none⟩ = some (.int .i64 s.id) := ccell hb2 z0
      have z1 : w2.cell? ⟨w.heap.size, 1, none⟩ = some (.int .i64 q) := ccell hb2 z1
      have z2 : w2.cell? ⟨w.heap.size, 2, none⟩ = some (.slice a s.ends.length c) := ccell hb2 z2
      clear hb2
      go_wp2_with fail
      first
        | exact bodyPost_ret (v := .tuple #[.int .i64 0, .int .i64 2]) (by simp [results, Tryz.f384, go_sem]) rfl ⟨rfl, K2.out⟩
        | (refine (HW.out _).mono ?_
           rintro e w3 ⟨rfl, hb3⟩
           have K3 : Hid (Below w.heap.size w w3) := K2.out.trans (hb3.mono K2.out.size)
           clear hb3 HW
           go_wp2_with fail
           exact bodyPost_ret (v := .tuple #[.int .i64 _, .int .i64 0]) (by simp [results, Tryz.f384, go_sem]) rfl ⟨rfl, K3.out⟩)
theorem trackthrough_any (s : Sec) (a : Option Addr) (c : Nat) (x y : Int) (w : World) : Calls Tryz.prog 384 #[secV s a c, .int .i64 x, .int .i64 y] w (ThrPost w s x y) := by
  by_cases hs : s.Shaped
  · by_cases hr : x < 0 ∨ 2 < x ∨ y < 0 ∨ 2 < y
    · exact through_out s a c x y w hs hr
    · exact through_in s a c x y w hs (by omega) (by omega)
  · exact through_bad s a c x y w hs
end Go.Proofs.YtbiehpjhhopjaaaGreat
