/-
  plan.find, walked. (Written by wip/tools/gen_planfind.py.)
-/
import Derived.Test.YtbiehpjhhopjaaaGreatPlanA
import Derived.Test.YtbiehpjhhopjaaaGreatTrackC
import Derived.Test.YtbiehpjhhopjaaaGreatIxfn
import Derived.Test.YtbiehpjhhopjaaaGreatData
set_option linter.unusedVariables false
set_option linter.unusedSimpArgs false
namespace Go.Proofs.YtbiehpjhhopjaaaGreat
open Go.RowKit Go.Sort
theorem plain416 : PlainF 416 := fun args w => by simp [go_sem]
set_option maxHeartbeats 1000000 in
theorem isSg (x : Sg) (n : Int) (g : Nat) (w : World) (hn : w.cell? ⟨g, 0, none⟩ = some (.int .i64 n)) :
    Calls Tryz.prog 416 #[.agg #[.int .i64 x.id, .int .i64 x.sec, .int .i64 x.en], .pointer (some ⟨g, 0, none⟩)] w (BoolPost w (decide (x.id = n))) := by
  have HE : Hid (∀ b, (b = true ↔ x.id = n) → b = decide (x.id = n)) := fun b hb => by rw [Bool.eq_iff_iff, hb]; simp
  generalize decide (x.id = n) = B at *
  have l0 := World.block_lt_of_cell? _ _ hn
  go_enter Tryz.func416, Tryz.ntmps416
  go_wp2_with fail
  generalize hW : w.alloc (.cells #[.int .i64 x.id, .int .i64 x.sec, .int .i64 x.en] 145) = W
  have hbW : Below w.heap.size w W := by rw [← hW]; exact (Below.refl _ _).alloc (Nat.le_refl _) _
  have KW := Lib.hid hbW
  have cN : Hid (∀ d os, Calls Tryz.prog 414 #[.agg #[.int .i64 x.id, .int .i64 x.sec, .int .i64 x.en]] (grow (redrawn W d) os) fun e w'' => e = .returned (.int .i64 x.id) ∧ ∃ p : Regrown, w'' = grow (redrawn W p.d) p.os) := fun d os => Calls.regrown_of (sgId_any x.id x.sec x.en _)
  have y0 := cell_regrown (show W.cell? ⟨g, 0, none⟩ = some (.int .i64 n) from ccell hbW hn)
  have z0 := cell_regrown (show W.cell? ⟨w.heap.size, 0, none⟩ = some (.int .i64 x.id) by rw [← hW]; simp)
  have z1 := cell_regrown (show W.cell? ⟨w.heap.size, 1, none⟩ = some (.int .i64 x.sec) by rw [← hW]; simp)
  have z2 := cell_regrown (show W.cell? ⟨w.heap.size, 2, none⟩ = some (.int .i64 x.en) by rw [← hW]; simp)
  clear hW hbW hn
  refine wp_region_quiet_below (by kernel_rfl) (by kernel_rfl) ?_
  repeat (go_big_quiet_step (first | (with_reducible exact cN.out _ _)))
  refine wpQuiet_nil ?_
  rintro _ ⟨⟨dq, osq⟩, rfl⟩
  go_wp2_with fail
  go_ret
  exact ⟨rbool (HE.out _ (by simp)), KW.out.trans ((below_regrown W dq osq).mono KW.out.size)⟩
set_option maxRecDepth 100000 in
set_option maxHeartbeats 1000000 in
theorem findSg (a : Option Addr) (cap : Nat) (l : List Sg) (n : Int) (w : World) (hl : SlA w 3 RSg a cap l) (hm : l.length ≤ 1000) :
    Calls Tryz.prog 380 #[.slice a l.length cap, .int .i64 n] w fun e w' => e = .returned (.tuple #[.agg #[.int .i64 (oneOf Sg.id ⟨0, 0, 0⟩ l n).id, .int .i64 (oneOf Sg.id ⟨0, 0, 0⟩ l n).sec, .int .i64 (oneOf Sg.id ⟨0, 0, 0⟩ l n).en], .bool (isOne Sg.id l n)]) ∧ Below w.heap.size w w' := by
  have HL : Hid (∀ w', Below w.heap.size w w' → SlA w' 3 RSg a cap l) := fun w' hb => hl.below keeps_sg hb
  clear hl
  rcases fix_cases (fun x : Sg => decide (x.id = n)) l with ⟨h1, h2⟩ | ⟨k, hk, h1, h2, h3⟩
  · obtain ⟨e1, e2⟩ := one_none (z := ⟨0, 0, 0⟩) h2
    rw [e1, e2]
    have HF := Lib.hid h1
    clear e1 e2 h1 h2
    go_enter Tryz.func380, Tryz.ntmps380
    go_wp2_with fail
    generalize hW : (w.alloc _).alloc _ = W
    have hbW : Below w.heap.size w W := by rw [← hW]; exact ((Below.refl _ _).alloc (Nat.le_refl _) _).alloc (by simp) _
    have hn : W.cell? ⟨w.heap.size, 0, none⟩ = some (.int .i64 n) := by rw [← hW]; simp
    have hz : W.heap.size = w.heap.size + 2 := by rw [← hW]; simp
    have KW := Lib.hid hbW
    have KZ := Lib.hid hz
    have HS : Hid (SaysSg 416 #[.pointer (some ⟨w.heap.size, 0, none⟩)] (fun x : Sg => decide (x.id = n)) l W) := fun W' i h hb => isSg l[i] n w.heap.size W' (ccell hb hn)
    have Y0 := Lib.hid (show W.cell? ⟨w.heap.size + 1, 0, none⟩ = some (.int .i64 0) by rw [← hW]; simp)
    have F0 := Lib.hid (show W.frozen? ⟨w.heap.size + 1, 0, none⟩ = false by rw [← hW]; simp)
    have Y1 := Lib.hid (show W.cell? ⟨w.heap.size + 1, 1, none⟩ = some (.int .i64 0) by rw [← hW]; simp)
    have F1 := Lib.hid (show W.frozen? ⟨w.heap.size + 1, 1, none⟩ = false by rw [← hW]; simp)
    have Y2 := Lib.hid (show W.cell? ⟨w.heap.size + 1, 2, none⟩ = some (.int .i64 0) by rw [← hW]; simp)
    have F2 := Lib.hid (show W.frozen? ⟨w.heap.size + 1, 2, none⟩ = false by rw [← hW]; simp)
    clear hW hbW
    refine (ixfnSg 416 #[.pointer (some ⟨w.heap.size, 0, none⟩)] (fun x : Sg => decide (x.id = n)) a cap l W (HL.out _ KW.out) hm plain416 HS.out).mono ?_
    rintro e w1 ⟨rfl, hb1⟩
    rw [HF.out]
    have y0 : w1.cell? ⟨w.heap.size + 1, 0, none⟩ = some (.int .i64 0) := (hb1.cell (by simp [hz])).trans Y0.out
    have f0 : w1.frozen? ⟨w.heap.size + 1, 0, none⟩ = false := (hb1.frozen (by simp [hz])).trans F0.out
    have y1 : w1.cell? ⟨w.heap.size + 1, 1, none⟩ = some (.int .i64 0) := (hb1.cell (by simp [hz])).trans Y1.out
    have f1 : w1.frozen? ⟨w.heap.size + 1, 1, none⟩ = false := (hb1.frozen (by simp [hz])).trans F1.out
    have y2 : w1.cell? ⟨w.heap.size + 1, 2, none⟩ = some (.int .i64 0) := (hb1.cell (by simp [hz])).trans Y2.out
    have f2 : w1.frozen? ⟨w.heap.size + 1, 2, none⟩ = false := (hb1.frozen (by simp [hz])).trans F2.out
    have hz1 : w.heap.size + 1 < w1.heap.size := by have := hb1.size; omega
    have hne : w1.heap.size ≠ w.heap.size + 1 := by omega
    have KE : Hid (Below w.heap.size w w1) := KW.out.trans (hb1.mono KW.out.size)
    clear hb1 hz hn
    go_wp2_with fail
    generalize hWE : World.alloc _ _ = WE
    have q0 : WE.cell? ⟨w.heap.size + 1, 0, none⟩ = some (.int .i64 0) := by rw [← hWE]; simp [go_sem, hz1, y0, y1, y2]
    have q1 : WE.cell? ⟨w.heap.size + 1, 1, none⟩ = some (.int .i64 0) := by rw [← hWE]; simp [go_sem, hz1, y0, y1, y2]
    have q2 : WE.cell? ⟨w.heap.size + 1, 2, none⟩ = some (.int .i64 0) := by rw [← hWE]; simp [go_sem, hz1, y0, y1, y2]
    have KB : Hid (Below w.heap.size w WE) := by show Below _ _ _; rw [← hWE]; exact Below.alloc (Below.setCell (Below.setCell (Below.setCell (KE.out) (by simp) _) (by simp) _) (by simp) _) (by simp; omega) _
    clear hWE
    refine bodyPost_ret (v := .tuple #[.agg #[.int .i64 0, .int .i64 0, .int .i64 0], .bool false]) (by simp [results, Tryz.f380, go_sem, q0, q1, q2]) rfl ⟨rfl, ?_⟩
    exact KB.out
  · obtain ⟨e1, e2⟩ := one_some (z := ⟨0, 0, 0⟩) hk h2 h3
    rw [e1, e2]
    have HF := Lib.hid h1
    clear e1 e2 h1 h2 h3
    go_enter Tryz.func380, Tryz.ntmps380
    go_wp2_with fail
    generalize hW : (w.alloc _).alloc _ = W
    have hbW : Below w.heap.size w W := by rw [← hW]; exact ((Below.refl _ _).alloc (Nat.le_refl _) _).alloc (by simp) _
    have hn : W.cell? ⟨w.heap.size, 0, none⟩ = some (.int .i64 n) := by rw [← hW]; simp
    have hz : W.heap.size = w.heap.size + 2 := by rw [← hW]; simp
    have KW := Lib.hid hbW
    have KZ := Lib.hid hz
    have HS : Hid (SaysSg 416 #[.pointer (some ⟨w.heap.size, 0, none⟩)] (fun x : Sg => decide (x.id = n)) l W) := fun W' i h hb => isSg l[i] n w.heap.size W' (ccell hb hn)
    have Y0 := Lib.hid (show W.cell? ⟨w.heap.size + 1, 0, none⟩ = some (.int .i64 0) by rw [← hW]; simp)
    have F0 := Lib.hid (show W.frozen? ⟨w.heap.size + 1, 0, none⟩ = false by rw [← hW]; simp)
    have Y1 := Lib.hid (show W.cell? ⟨w.heap.size + 1, 1, none⟩ = some (.int .i64 0) by rw [← hW]; simp)
    have F1 := Lib.hid (show W.frozen? ⟨w.heap.size + 1, 1, none⟩ = false by rw [← hW]; simp)
    have Y2 := Lib.hid (show W.cell? ⟨w.heap.size + 1, 2, none⟩ = some (.int .i64 0) by rw [← hW]; simp)
    have F2 := Lib.hid (show W.frozen? ⟨w.heap.size + 1, 2, none⟩ = false by rw [← hW]; simp)
    clear hW hbW
    refine (ixfnSg 416 #[.pointer (some ⟨w.heap.size, 0, none⟩)] (fun x : Sg => decide (x.id = n)) a cap l W (HL.out _ KW.out) hm plain416 HS.out).mono ?_
    rintro e w1 ⟨rfl, hb1⟩
    rw [HF.out]
    have y0 : w1.cell? ⟨w.heap.size + 1, 0, none⟩ = some (.int .i64 0) := (hb1.cell (by simp [hz])).trans Y0.out
    have f0 : w1.frozen? ⟨w.heap.size + 1, 0, none⟩ = false := (hb1.frozen (by simp [hz])).trans F0.out
    have y1 : w1.cell? ⟨w.heap.size + 1, 1, none⟩ = some (.int .i64 0) := (hb1.cell (by simp [hz])).trans Y1.out
    have f1 : w1.frozen? ⟨w.heap.size + 1, 1, none⟩ = false := (hb1.frozen (by simp [hz])).trans F1.out
    have y2 : w1.cell? ⟨w.heap.size + 1, 2, none⟩ = some (.int .i64 0) := (hb1.cell (by simp [hz])).trans Y2.out
    have f2 : w1.frozen? ⟨w.heap.size + 1, 2, none⟩ = false := (hb1.frozen (by simp [hz])).trans F2.out
    have hz1 : w.heap.size + 1 < w1.heap.size := by have := hb1.size; omega
    have KE : Hid (Below w.heap.size w w1) := KW.out.trans (hb1.mono KW.out.size)
    obtain ⟨b, off, rfl, x0, x1, x2⟩ := (HL.out _ KE.out).sg hk
    have t0 : decide ((k : Int) < 0) = false := by simp
    have i0 : (0 : Int) ≤ (k : Int) := by omega
    have i1 : (k : Int) < (l.length : Int) := by omega
    clear hb1 hz hn
    go_wp2_with fail
    generalize hWE : World.setCell _ _ _ = WE
    have q0 : WE.cell? ⟨w.heap.size + 1, 0, none⟩ = some (.int .i64 l[k].id) := by rw [← hWE]; simp [go_sem, hz1, y0, y1, y2]
    have q1 : WE.cell? ⟨w.heap.size + 1, 1, none⟩ = some (.int .i64 l[k].sec) := by rw [← hWE]; simp [go_sem, hz1, y0, y1, y2]
    have q2 : WE.cell? ⟨w.heap.size + 1, 2, none⟩ = some (.int .i64 l[k].en) := by rw [← hWE]; simp [go_sem, hz1, y0, y1, y2]
    have KB : Hid (Below w.heap.size w WE) := by show Below _ _ _; rw [← hWE]; exact Below.setCell (Below.setCell (Below.setCell (KE.out) (by simp) _) (by simp) _) (by simp) _
    clear hWE
    refine bodyPost_ret (v := .tuple #[.agg #[.int .i64 l[k].id, .int .i64 l[k].sec, .int .i64 l[k].en], .bool true]) (by simp [results, Tryz.f380, go_sem, q0, q1, q2]) rfl ⟨rfl, ?_⟩
    exact KB.out
theorem plain417 : PlainF 417 := fun args w => by simp [go_sem]
set_option maxHeartbeats 1000000 in
theorem isPt (x : Pt) (n : Int) (g : Nat) (w : World) (hn : w.cell? ⟨g, 0, none⟩ = some (.int .i64 n)) :
    Calls Tryz.prog 417 #[.agg #[.int .i64 x.id, .int .i64 x.sec], .pointer (some ⟨g, 0, none⟩)] w (BoolPost w (decide (x.id = n))) := by
  have HE : Hid (∀ b, (b = true ↔ x.id = n) → b = decide (x.id = n)) := fun b hb => by rw [Bool.eq_iff_iff, hb]; simp
  generalize decide (x.id = n) = B at *
  have l0 := World.block_lt_of_cell? _ _ hn
  go_enter Tryz.func417, Tryz.ntmps417
  go_wp2_with fail
  generalize hW : w.alloc (.cells #[.int .i64 x.id, .int .i64 x.sec] 143) = W
  have hbW : Below w.heap.size w W := by rw [← hW]; exact (Below.refl _ _).alloc (Nat.le_refl _) _
  have KW := Lib.hid hbW
  have cN : Hid (∀ d os, Calls Tryz.prog 413 #[.agg #[.int .i64 x.id, .int .i64 x.sec]] (grow (redrawn W d) os) fun e w'' => e = .returned (.int .i64 x.id) ∧ ∃ p : Regrown, w'' = grow (redrawn W p.d) p.os) := fun d os => Calls.regrown_of (ptId_any x.id x.sec _)
  have y0 := cell_regrown (show W.cell? ⟨g, 0, none⟩ = some (.int .i64 n) from ccell hbW hn)
  have z0 := cell_regrown (show W.cell? ⟨w.heap.size, 0, none⟩ = some (.int .i64 x.id) by rw [← hW]; simp)
  have z1 := cell_regrown (show W.cell? ⟨w.heap.size, 1, none⟩ = some (.int .i64 x.sec) by rw [← hW]; simp)
  clear hW hbW hn
  refine wp_region_quiet_below (by kernel_rfl) (by kernel_rfl) ?_
  repeat (go_big_quiet_step (first | (with_reducible exact cN.out _ _)))
  refine wpQuiet_nil ?_
  rintro _ ⟨⟨dq, osq⟩, rfl⟩
  go_wp2_with fail
  go_ret
  exact ⟨rbool (HE.out _ (by simp)), KW.out.trans ((below_regrown W dq osq).mono KW.out.size)⟩
set_option maxRecDepth 100000 in
set_option maxHeartbeats 1000000 in
theorem findPt (a : Option Addr) (cap : Nat) (l : List Pt) (n : Int) (w : World) (hl : SlA w 2 RPt a cap l) (hm : l.length ≤ 1000) :
    Calls Tryz.prog 381 #[.slice a l.length cap, .int .i64 n] w fun e w' => e = .returned (.tuple #[.agg #[.int .i64 (oneOf Pt.id ⟨0, 0⟩ l n).id, .int .i64 (oneOf Pt.id ⟨0, 0⟩ l n).sec], .bool (isOne Pt.id l n)]) ∧ Below w.heap.size w w' := by
  have HL : Hid (∀ w', Below w.heap.size w w' → SlA w' 2 RPt a cap l) := fun w' hb => hl.below keeps_pt hb
  clear hl
  rcases fix_cases (fun x : Pt => decide (x.id = n)) l with ⟨h1, h2⟩ | ⟨k, hk, h1, h2, h3⟩
  · obtain ⟨e1, e2⟩ := one_none (z := ⟨0, 0⟩) h2
    rw [e1, e2]
    have HF := Lib.hid h1
    clear e1 e2 h1 h2
    go_enter Tryz.func381, Tryz.ntmps381
    go_wp2_with fail
    generalize hW : (w.alloc _).alloc _ = W
    have hbW : Below w.heap.size w W := by rw [← hW]; exact ((Below.refl _ _).alloc (Nat.le_refl _) _).alloc (by simp) _
    have hn : W.cell? ⟨w.heap.size, 0, none⟩ = some (.int .i64 n) := by rw [← hW]; simp
    have hz : W.heap.size = w.heap.size + 2 := by rw [← hW]; simp
    have KW := Lib.hid hbW
    have KZ := Lib.hid hz
    have HS : Hid (SaysPt 417 #[.pointer (some ⟨w.heap.size, 0, none⟩)] (fun x : Pt => decide (x.id = n)) l W) := fun W' i h hb => isPt l[i] n w.heap.size W' (ccell hb hn)
    have Y0 := Lib.hid (show W.cell? ⟨w.heap.size + 1, 0, none⟩ = some (.int .i64 0) by rw [← hW]; simp)
    have F0 := Lib.hid (show W.frozen? ⟨w.heap.size + 1, 0, none⟩ = false by rw [← hW]; simp)
    have Y1 := Lib.hid (show W.cell? ⟨w.heap.size + 1, 1, none⟩ = some (.int .i64 0) by rw [← hW]; simp)
    have F1 := Lib.hid (show W.frozen? ⟨w.heap.size + 1, 1, none⟩ = false by rw [← hW]; simp)
    clear hW hbW
    refine (ixfnPt 417 #[.pointer (some ⟨w.heap.size, 0, none⟩)] (fun x : Pt => decide (x.id = n)) a cap l W (HL.out _ KW.out) hm plain417 HS.out).mono ?_
    rintro e w1 ⟨rfl, hb1⟩
    rw [HF.out]
    have y0 : w1.cell? ⟨w.heap.size + 1, 0, none⟩ = some (.int .i64 0) := (hb1.cell (by simp [hz])).trans Y0.out
    have f0 : w1.frozen? ⟨w.heap.size + 1, 0, none⟩ = false := (hb1.frozen (by simp [hz])).trans F0.out
    have y1 : w1.cell? ⟨w.heap.size + 1, 1, none⟩ = some (.int .i64 0) := (hb1.cell (by simp [hz])).trans Y1.out
    have f1 : w1.frozen? ⟨w.heap.size + 1, 1, none⟩ = false := (hb1.frozen (by simp [hz])).trans F1.out
    have hz1 : w.heap.size + 1 < w1.heap.size := by have := hb1.size; omega
    have hne : w1.heap.size ≠ w.heap.size + 1 := by omega
    have KE : Hid (Below w.heap.size w w1) := KW.out.trans (hb1.mono KW.out.size)
    clear hb1 hz hn
    go_wp2_with fail
    generalize hWE : World.alloc _ _ = WE
    have q0 : WE.cell? ⟨w.heap.size + 1, 0, none⟩ = some (.int .i64 0) := by rw [← hWE]; simp [go_sem, hz1, y0, y1]
    have q1 : WE.cell? ⟨w.heap.size + 1, 1, none⟩ = some (.int .i64 0) := by rw [← hWE]; simp [go_sem, hz1, y0, y1]
    have KB : Hid (Below w.heap.size w WE) := by show Below _ _ _; rw [← hWE]; exact Below.alloc (Below.setCell (Below.setCell (KE.out) (by simp) _) (by simp) _) (by simp; omega) _
    clear hWE
    refine bodyPost_ret (v := .tuple #[.agg #[.int .i64 0, .int .i64 0], .bool false]) (by simp [results, Tryz.f381, go_sem, q0, q1]) rfl ⟨rfl, ?_⟩
    exact KB.out
  · obtain ⟨e1, e2⟩ := one_some (z := ⟨0, 0⟩) hk h2 h3
    rw [e1, e2]
    have HF := Lib.hid h1
    clear e1 e2 h1 h2 h3
    go_enter Tryz.func381, Tryz.ntmps381
    go_wp2_with fail
    generalize hW : (w.alloc _).alloc _ = W
    have hbW : Below w.heap.size w W := by rw [← hW]; exact ((Below.refl _ _).alloc (Nat.le_refl _) _).alloc (by simp) _
    have hn : W.cell? ⟨w.heap.size, 0, none⟩ = some (.int .i64 n) := by rw [← hW]; simp
    have hz : W.heap.size = w.heap.size + 2 := by rw [← hW]; simp
    have KW := Lib.hid hbW
    have KZ := Lib.hid hz
    have HS : Hid (SaysPt 417 #[.pointer (some ⟨w.heap.size, 0, none⟩)] (fun x : Pt => decide (x.id = n)) l W) := fun W' i h hb => isPt l[i] n w.heap.size W' (ccell hb hn)
    have Y0 := Lib.hid (show W.cell? ⟨w.heap.size + 1, 0, none⟩ = some (.int .i64 0) by rw [← hW]; simp)
    have F0 := Lib.hid (show W.frozen? ⟨w.heap.size + 1, 0, none⟩ = false by rw [← hW]; simp)
    have Y1 := Lib.hid (show W.cell? ⟨w.heap.size + 1, 1, none⟩ = some (.int .i64 0) by rw [← hW]; simp)
    have F1 := Lib.hid (show W.frozen? ⟨w.heap.size + 1, 1, none⟩ = false by rw [← hW]; simp)
    clear hW hbW
    refine (ixfnPt 417 #[.pointer (some ⟨w.heap.size, 0, none⟩)] (fun x : Pt => decide (x.id = n)) a cap l W (HL.out _ KW.out) hm plain417 HS.out).mono ?_
    rintro e w1 ⟨rfl, hb1⟩
    rw [HF.out]
    have y0 : w1.cell? ⟨w.heap.size + 1, 0, none⟩ = some (.int .i64 0) := (hb1.cell (by simp [hz])).trans Y0.out
    have f0 : w1.frozen? ⟨w.heap.size + 1, 0, none⟩ = false := (hb1.frozen (by simp [hz])).trans F0.out
    have y1 : w1.cell? ⟨w.heap.size + 1, 1, none⟩ = some (.int .i64 0) := (hb1.cell (by simp [hz])).trans Y1.out
    have f1 : w1.frozen? ⟨w.heap.size + 1, 1, none⟩ = false := (hb1.frozen (by simp [hz])).trans F1.out
    have hz1 : w.heap.size + 1 < w1.heap.size := by have := hb1.size; omega
    have KE : Hid (Below w.heap.size w w1) := KW.out.trans (hb1.mono KW.out.size)
    obtain ⟨b, off, rfl, x0, x1⟩ := (HL.out _ KE.out).pt hk
    have t0 : decide ((k : Int) < 0) = false := by simp
    have i0 : (0 : Int) ≤ (k : Int) := by omega
    have i1 : (k : Int) < (l.length : Int) := by omega
    clear hb1 hz hn
    go_wp2_with fail
    generalize hWE : World.setCell _ _ _ = WE
    have q0 : WE.cell? ⟨w.heap.size + 1, 0, none⟩ = some (.int .i64 l[k].id) := by rw [← hWE]; simp [go_sem, hz1, y0, y1]
    have q1 : WE.cell? ⟨w.heap.size + 1, 1, none⟩ = some (.int .i64 l[k].sec) := by rw [← hWE]; simp [go_sem, hz1, y0, y1]
    have KB : Hid (Below w.heap.size w WE) := by show Below _ _ _; rw [← hWE]; exact Below.setCell (Below.setCell (KE.out) (by simp) _) (by simp) _
    clear hWE
    refine bodyPost_ret (v := .tuple #[.agg #[.int .i64 l[k].id, .int .i64 l[k].sec], .bool true]) (by simp [results, Tryz.f381, go_sem, q0, q1]) rfl ⟨rfl, ?_⟩
    exact KB.out
end Go.Proofs.YtbiehpjhhopjaaaGreat
