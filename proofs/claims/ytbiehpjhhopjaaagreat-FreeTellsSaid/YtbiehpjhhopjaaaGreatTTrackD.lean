/-
 plan.find, walked. (Written by wip/tools/gen_planfind.py.)
 The reference's May of sections, walked.
-/
import Derived.Test.YtbiehpjhhopjaaaGreatTTrackC
import Derived.Test.YtbiehpjhhopjaaaGreatTIxfn
import Derived.Test.YtbiehpjhhopjaaaGreatTData
import Derived.Deep.LoopGhost
import Derived.Deep.Light
set_option linter.unusedVariables false
set_option linter.unusedSimpArgs false
namespace Go.Proofs.YtbiehpjhhopjaaaGreat
open Go.RowKit Go.Sort
theorem plain416 : PlainF 416 := fun args w => by simp [go_sem]
set_option maxHeartbeats 1000000 in
theorem isSg (x : Sg) (n : Int) (g : Nat) (w : World) (hn : w.cell? ⟨g, 0, none⟩ = some (.int .i64 n)) :
  Calls Tryz.prog 416 #[.agg #[.int .i64 x.id, .int .i64 x.sec, .int .i64 x.en], .pointer (some ⟨g, 0, none⟩)] w (BoolPost w (decide (x.id = n))) := by
 have HE : Hid (∀ b, (b = true ↔ x.id = n) → b = decide (x.id = n)) := fun b hb => by rw [Bool.eq_iff_iff, hb]; simp
 generalize decide (x.id = n) = B at *
 have l0 := World.block_lt_of_cell? _ _ hn
 go_enter Tryz.func416, Tryz.ntmps416
 go_wp2_with fail
 generalize hW : w.alloc (.cells #[.int .i64 x.id, .int .i64 x.sec, .int .i64 x.en] 145) = W
 have hbW : Below w.heap.size w W := by rw [← hW]; exact (Below.refl _ _).alloc (Nat.le_refl _) _
 have KW := Lib.hid hbW
 have cN : Hid (∀ d os, Calls Tryz.prog 414 #[.agg #[.int .i64 x.id, .int .i64 x.sec, .int .i64 x.en]] (grow (redrawn W d) os) fun e w'' => e = .returned (.int .i64 x.id) ∧ ∃ p : Regrown, w'' = grow (redrawn W p.d) p.os) := fun d os => Calls.regrown_of (sgId_any x.id x.sec x.en _)
 have y0 := cell_regrown (show W.cell? ⟨g, 0, none⟩ = some (.int .i64 n) from ccell hbW hn)
 have z0 := cell_regrown (show W.cell? ⟨w.heap.size, 0, none⟩ = some (.int .i64 x.id) by rw [← hW]; simp)
 have z1 := cell_regrown (show W.cell? ⟨w.heap.size, 1, none⟩ = some (.int .i64 x.sec) by rw [← hW]; simp)
 have z2 := cell_regrown (show W.cell? ⟨w.heap.size, 2, none⟩ = some (.int .i64 x.en) by rw [← hW]; simp)
 clear hW hbW hn
 refine wp_region_quiet_below (by kernel_rfl) (by kernel_rfl) ?_
 repeat (go_big_quiet_step (first | (with_reducible exact cN.out _ _)))
 refine wpQuiet_nil ?_
 rintro _ ⟨⟨dq, osq⟩, rfl⟩
 go_wp2_with fail
 go_ret
 exact ⟨rbool (HE.out _ (by simp)), KW.out.trans ((below_regrown W dq osq).mono KW.out.size)⟩
set_option maxRecDepth 100000 in
set_option maxHeartbeats 1000000 in
theorem findSg (a : Option Addr) (cap : Nat) (l : List Sg) (n : Int) (w : World) (hl : SlA w 3 RSg a cap l) (hm : l.length ≤ 1000) :
  Calls Tryz.prog 380 #[.slice a l.length cap, .int .i64 n] w fun e w' => e = .returned (.tuple #[.agg #[.int .i64 (oneOf Sg.id ⟨0, 0, 0⟩ l n).id, .int .i64 (oneOf Sg.id ⟨0, 0, 0⟩ l n).sec, .int .i64 (oneOf Sg.id ⟨0, 0, 0⟩ l n).en], .bool (isOne Sg.id l n)]) ∧ Below w.heap.size w w' := by
 have HL : Hid (∀ w', Below w.heap.size w w' → SlA w' 3 RSg a cap l) := fun w' hb => hl.below keeps_sg hb
 clear hl
 rcases fix_cases (fun x : Sg => decide (x.id = n)) l with ⟨h1, h2⟩ | ⟨k, hk, h1, h2, h3⟩
 ·obtain ⟨e1, e2⟩ := one_none (z := ⟨0, 0, 0⟩) h2
  rw [e1, e2]
  have HF := Lib.hid h1
  clear e1 e2 h1 h2
  go_enter Tryz.func380, Tryz.ntmps380
  go_wp2_with fail
  generalize hW : (w.alloc _).alloc _ = W
  have hbW : Below w.heap.size w W := by rw [← hW]; exact ((Below.refl _ _).alloc (Nat.le_refl _) _).alloc (by simp) _
  have hn : W.cell? ⟨w.heap.size, 0, none⟩ = some (.int .i64 n) := by rw [← hW]; simp
  have hz : W.heap.size = w.heap.size + 2 := by rw [← hW]; simp
  have KW := Lib.hid hbW
  have KZ := Lib.hid hz
  have HS : Hid (SaysSg 416 #[.pointer (some ⟨w.heap.size, 0, none⟩)] (fun x : Sg => decide (x.id = n)) l W) := fun W' i h hb => isSg l[i] n w.heap.size W' (ccell hb hn)
  have Y0 := Lib.hid (show W.cell? ⟨w.heap.size + 1, 0, none⟩ = some (.int .i64 0) by rw [← hW]; simp)
  have F0 := Lib.hid (show W.frozen? ⟨w.heap.size + 1, 0, none⟩ = false by rw [← hW]; simp)
  have Y1 := Lib.hid (show W.cell? ⟨w.heap.size + 1, 1, none⟩ = some (.int .i64 0) by rw [← hW]; simp)
  have F1 := Lib.hid (show W.frozen? ⟨w.heap.size + 1, 1, none⟩ = false by rw [← hW]; simp)
  have Y2 := Lib.hid (show W.cell? ⟨w.heap.size + 1, 2, none⟩ = some (.int .i64 0) by rw [← hW]; simp)
  have F2 := Lib.hid (show W.frozen? ⟨w.heap.size + 1, 2, none⟩ = false by rw [← hW]; simp)
  clear hW hbW
  refine (ixfnSg 416 #[.pointer (some ⟨w.heap.size, 0, none⟩)] (fun x : Sg => decide (x.id = n)) a cap l W (HL.out _ KW.out) hm plain416 HS.out).mono ?_
  rintro e w1 ⟨rfl, hb1⟩
  rw [HF.out]
  have y0 : w1.cell? ⟨w.heap.size + 1, 0, none⟩ = some (.int .i64 0) := (hb1.cell (by simp [hz])).trans Y0.out
  have f0 : w1.frozen? ⟨w.heap.size + 1, 0, none⟩ = false := (hb1.frozen (by simp [hz])).trans F0.out
  have y1 : w1.cell? ⟨w.heap.size + 1, 1, none⟩ = some (.int .i64 0) := (hb1.cell (by simp [hz])).trans Y1.out
  have f1 : w1.frozen? ⟨w.heap.size + 1, 1, none⟩ = false := (hb1.frozen (by simp [hz])).trans F1.out
  have y2 : w1.cell? ⟨w.heap.size + 1, 2, none⟩ = some (.int .i64 0) := (hb1.cell (by simp [hz])).trans Y2.out
  have f2 : w1.frozen? ⟨w.heap.size + 1, 2, none⟩ = false := (hb1.frozen (by simp [hz])).trans F2.out
  have hz1 : w.heap.size + 1 < w1.heap.size := by have := hb1.size; omega
  have hne : w1.heap.size ≠ w.heap.size + 1 := by omega
  have KE : Hid (Below w.heap.size w w1) := KW.out.trans (hb1.mono KW.out.size)
  clear hb1 hz hn
  go_wp2_with fail
  generalize hWE : World.alloc _ _ = WE
  have q0 : WE.cell? ⟨w.heap.size + 1, 0, none⟩ = some (.int .i64 0) := by rw [← hWE]; simp [go_sem, hz1, y0, y1, y2]
  have q1 : WE.cell? ⟨w.heap.size + 1, 1, none⟩ = some (.int .i64 0) := by rw [← hWE]; simp [go_sem, hz1, y0, y1, y2]
  have q2 : WE.cell? ⟨w.heap.size + 1, 2, none⟩ = some (.int .i64 0) := by rw [← hWE]; simp [go_sem, hz1, y0, y1, y2]
  have KB : Hid (Below w.heap.size w WE) := by show Below _ _ _; rw [← hWE]; exact Below.alloc (Below.setCell (Below.setCell (Below.setCell (KE.out) (by simp) _) (by simp) _) (by simp) _) (by simp; omega) _
  clear hWE
  refine bodyPost_ret (v := .tuple #[.agg #[.int .i64 0, .int .i64 0, .int .i64 0], .bool false]) (by simp [results, Tryz.f380, go_sem, q0, q1, q2]) rfl ⟨rfl, ?_⟩
  exact KB.out
 ·obtain ⟨e1, e2⟩ := one_some (z := ⟨0, 0, 0⟩) hk h2 h3
  rw [e1, e2]
  have HF := Lib.hid h1
  clear e1 e2 h1 h2 h3
  go_enter Tryz.func380, Tryz.ntmps380
  go_wp2_with fail
  generalize hW : (w.alloc _).alloc _ = W
  have hbW : Below w.heap.size w W := by rw [← hW]; exact ((Below.refl _ _).alloc (Nat.le_refl _) _).alloc (by simp) _
  have hn : W.cell? ⟨w.heap.size, 0, none⟩ = some (.int .i64 n) := by rw [← hW]; simp
  have hz : W.heap.size = w.heap.size + 2 := by rw [← hW]; simp
  have KW := Lib.hid hbW
  have KZ := Lib.hid hz
  have HS : Hid (SaysSg 416 #[.pointer (some ⟨w.heap.size, 0, none⟩)] (fun x : Sg => decide (x.id = n)) l W) := fun W' i h hb => isSg l[i] n w.heap.size W' (ccell hb hn)
  have Y0 := Lib.hid (show W.cell? ⟨w.heap.size + 1, 0, none⟩ = some (.int .i64 0) by rw [← hW]; simp)
  have F0 := Lib.hid (show W.frozen? ⟨w.heap.size + 1, 0, none⟩ = false by rw [← hW]; simp)
  have Y1 := Lib.hid (show W.cell? ⟨w.heap.size + 1, 1, none⟩ = some (.int .i64 0) by rw [← hW]; simp)
  have F1 := Lib.hid (show W.frozen? ⟨w.heap.size + 1, 1, none⟩ = false by rw [← hW]; simp)
  have Y2 := Lib.hid (show W.cell? ⟨w.heap.size + 1, 2, none⟩ = some (.int .i64 0) by rw [← hW]; simp)
  have F2 := Lib.hid (show W.frozen? ⟨w.heap.size + 1, 2, none⟩ = false by rw [← hW]; simp)
  clear hW hbW
  refine (ixfnSg 416 #[.pointer (some ⟨w.heap.size, 0, none⟩)] (fun x : Sg => decide (x.id = n)) a cap l W (HL.out _ KW.out) hm plain416 HS.out).mono ?_
  rintro e w1 ⟨rfl, hb1⟩
  rw [HF.out]
  have y0 : w1.cell? ⟨w.heap.size + 1, 0, none⟩ = some (.int .i64 0) := (hb1.cell (by simp [hz])).trans Y0.out
  have f0 : w1.frozen? ⟨w.heap.size + 1, 0, none⟩ = false := (hb1.frozen (by simp [hz])).trans F0.out
  have y1 : w1.cell? ⟨w.heap.size + 1, 1, none⟩ = some (.int .i64 0) := (hb1.cell (by simp [hz])).trans Y1.out
  have f1 : w1.frozen? ⟨w.heap.size + 1, 1, none⟩ = false := (hb1.frozen (by simp [hz])).trans F1.out
  have y2 : w1.cell? ⟨w.heap.size + 1, 2, none⟩ = some (.int .i64 0) := (hb1.cell (by simp [hz])).trans Y2.out
  have f2 : w1.frozen? ⟨w.heap.size + 1, 2, none⟩ = false := (hb1.frozen (by simp [hz])).trans F2.out
  have hz1 : w.heap.size + 1 < w1.heap.size := by have := hb1.size; omega
  have KE : Hid (Below w.heap.size w w1) := KW.out.trans (hb1.mono KW.out.size)
  obtain ⟨b, off, rfl, x0, x1, x2⟩ := (HL.out _ KE.out).sg hk
  have t0 : decide ((k : Int) < 0) = false := by simp
  have i0 : (0 : Int) ≤ (k : Int) := by omega
  have i1 : (k : Int) < (l.length : Int) := by omega
  clear hb1 hz hn
  go_wp2_with fail
  generalize hWE : World.setCell _ _ _ = WE
  have q0 : WE.cell? ⟨w.heap.size + 1, 0, none⟩ = some (.int .i64 l[k].id) := by rw [← hWE]; simp [go_sem, hz1, y0, y1, y2]
  have q1 : WE.cell? ⟨w.heap.size + 1, 1, none⟩ = some (.int .i64 l[k].sec) := by rw [← hWE]; simp [go_sem, hz1, y0, y1, y2]
  have q2 : WE.cell? ⟨w.heap.size + 1, 2, none⟩ = some (.int .i64 l[k].en) := by rw [← hWE]; simp [go_sem, hz1, y0, y1, y2]
  have KB : Hid (Below w.heap.size w WE) := by show Below _ _ _; rw [← hWE]; exact Below.setCell (Below.setCell (Below.setCell (KE.out) (by simp) _) (by simp) _) (by simp) _
  clear hWE
  refine bodyPost_ret (v := .tuple #[.agg #[.int .i64 l[k].id, .int .i64 l[k].sec, .int .i64 l[k].en], .bool true]) (by simp [results, Tryz.f380, go_sem, q0, q1, q2]) rfl ⟨rfl, ?_⟩
  exact KB.out
theorem plain417 : PlainF 417 := fun args w => by simp [go_sem]
set_option maxHeartbeats 1000000 in
theorem isPt (x : Pt) (n : Int) (g : Nat) (w : World) (hn : w.cell? ⟨g, 0, none⟩ = some (.int .i64 n)) :
  Calls Tryz.prog 417 #[.agg #[.int .i64 x.id, .int .i64 x.sec], .pointer (some ⟨g, 0, none⟩)] w (BoolPost w (decide (x.id = n))) := by
 have HE : Hid (∀ b, (b = true ↔ x.id = n) → b = decide (x.id = n)) := fun b hb => by rw [Bool.eq_iff_iff, hb]; simp
 generalize decide (x.id = n) = B at *
 have l0 := World.block_lt_of_cell? _ _ hn
 go_enter Tryz.func417, Tryz.ntmps417
 go_wp2_with fail
 generalize hW : w.alloc (.cells #[.int .i64 x.id, .int .i64 x.sec] 143) = W
 have hbW : Below w.heap.size w W := by rw [← hW]; exact (Below.refl _ _).alloc (Nat.le_refl _) _
 have KW := Lib.hid hbW
 have cN : Hid (∀ d os, Calls Tryz.prog 413 #[.agg #[.int .i64 x.id, .int .i64 x.sec]] (grow (redrawn W d) os) fun e w'' => e = .returned (.int .i64 x.id) ∧ ∃ p : Regrown, w'' = grow (redrawn W p.d) p.os) := fun d os => Calls.regrown_of (ptId_any x.id x.sec _)
 have y0 := cell_regrown (show W.cell? ⟨g, 0, none⟩ = some (.int .i64 n) from ccell hbW hn)
 have z0 := cell_regrown (show W.cell? ⟨w.heap.size, 0, none⟩ = some (.int .i64 x.id) by rw [← hW]; simp)
 have z1 := cell_regrown (show W.cell? ⟨w.heap.size, 1, none⟩ = some (.int .i64 x.sec) by rw [← hW]; simp)
 clear hW hbW hn
 refine wp_region_quiet_below (by kernel_rfl) (by kernel_rfl) ?_
 repeat (go_big_quiet_step (first | (with_reducible exact cN.out _ _)))
 refine wpQuiet_nil ?_
 rintro _ ⟨⟨dq, osq⟩, rfl⟩
 go_wp2_with fail
 go_ret
 exact ⟨rbool (HE.out _ (by simp)), KW.out.trans ((below_regrown W dq osq).mono KW.out.size)⟩
set_option maxRecDepth 100000 in
set_option maxHeartbeats 1000000 in
theorem findPt (a : Option Addr) (cap : Nat) (l : List Pt) (n : Int) (w : World) (hl : SlA w 2 RPt a cap l) (hm : l.length ≤ 1000) :
  Calls Tryz.prog 381 #[.slice a l.length cap, .int .i64 n] w fun e w' => e = .returned (.tuple #[.agg #[.int .i64 (oneOf Pt.id ⟨0, 0⟩ l n).id, .int .i64 (oneOf Pt.id ⟨0, 0⟩ l n).sec], .bool (isOne Pt.id l n)]) ∧ Below w.heap.size w w' := by
 have HL : Hid (∀ w', Below w.heap.size w w' → SlA w' 2 RPt a cap l) := fun w' hb => hl.below keeps_pt hb
 clear hl
 rcases fix_cases (fun x : Pt => decide (x.id = n)) l with ⟨h1, h2⟩ | ⟨k, hk, h1, h2, h3⟩
 ·obtain ⟨e1, e2⟩ := one_none (z := ⟨0, 0⟩) h2
  rw [e1, e2]
  have HF := Lib.hid h1
  clear e1 e2 h1 h2
  go_enter Tryz.func381, Tryz.ntmps381
  go_wp2_with fail
  generalize hW : (w.alloc _).alloc _ = W
  have hbW : Below w.heap.size w W := by rw [← hW]; exact ((Below.refl _ _).alloc (Nat.le_refl _) _).alloc (by simp) _
  have hn : W.cell? ⟨w.heap.size, 0, none⟩ = some (.int .i64 n) := by rw [← hW]; simp
  have hz : W.heap.size = w.heap.size + 2 := by rw [← hW]; simp
  have KW := Lib.hid hbW
  have KZ := Lib.hid hz
  have HS : Hid (SaysPt 417 #[.pointer (some ⟨w.heap.size, 0, none⟩)] (fun x : Pt => decide (x.id = n)) l W) := fun W' i h hb => isPt l[i] n w.heap.size W' (ccell hb hn)
  have Y0 := Lib.hid (show W.cell? ⟨w.heap.size + 1, 0, none⟩ = some (.int .i64 0) by rw [← hW]; simp)
  have F0 := Lib.hid (show W.frozen? ⟨w.heap.size + 1, 0, none⟩ = false by rw [← hW]; simp)
  have Y1 := Lib.hid (show W.cell? ⟨w.heap.size + 1, 1, none⟩ = some (.int .i64 0) by rw [← hW]; simp)
  have F1 := Lib.hid (show W.frozen? ⟨w.heap.size + 1, 1, none⟩ = false by rw [← hW]; simp)
  clear hW hbW
  refine (ixfnPt 417 #[.pointer (some ⟨w.heap.size, 0, none⟩)] (fun x : Pt => decide (x.id = n)) a cap l W (HL.out _ KW.out) hm plain417 HS.out).mono ?_
  rintro e w1 ⟨rfl, hb1⟩
  rw [HF.out]
  have y0 : w1.cell? ⟨w.heap.size + 1, 0, none⟩ = some (.int .i64 0) := (hb1.cell (by simp [hz])).trans Y0.out
  have f0 : w1.frozen? ⟨w.heap.size + 1, 0, none⟩ = false := (hb1.frozen (by simp [hz])).trans F0.out
  have y1 : w1.cell? ⟨w.heap.size + 1, 1, none⟩ = some (.int .i64 0) := (hb1.cell (by simp [hz])).trans Y1.out
  have f1 : w1.frozen? ⟨w.heap.size + 1, 1, none⟩ = false := (hb1.frozen (by simp [hz])).trans F1.out
  have hz1 : w.heap.size + 1 < w1.heap.size := by have := hb1.size; omega
  have hne : w1.heap.size ≠ w.heap.size + 1 := by omega
  have KE : Hid (Below w.heap.size w w1) := KW.out.trans (hb1.mono KW.out.size)
  clear hb1 hz hn
  go_wp2_with fail
  generalize hWE : World.alloc _ _ = WE
  have q0 : WE.cell? ⟨w.heap.size + 1, 0, none⟩ = some (.int .i64 0) := by rw [← hWE]; simp [go_sem, hz1, y0, y1]
  have q1 : WE.cell? ⟨w.heap.size + 1, 1, none⟩ = some (.int .i64 0) := by rw [← hWE]; simp [go_sem, hz1, y0, y1]
  have KB : Hid (Below w.heap.size w WE) := by show Below _ _ _; rw [← hWE]; exact Below.alloc (Below.setCell (Below.setCell (KE.out) (by simp) _) (by simp) _) (by simp; omega) _
  clear hWE
  refine bodyPost_ret (v := .tuple #[.agg #[.int .i64 0, .int .i64 0], .bool false]) (by simp [results, Tryz.f381, go_sem, q0, q1]) rfl ⟨rfl, ?_⟩
  exact KB.out
 ·obtain ⟨e1, e2⟩ := one_some (z := ⟨0, 0⟩) hk h2 h3
  rw [e1, e2]
  have HF := Lib.hid h1
  clear e1 e2 h1 h2 h3
  go_enter Tryz.func381, Tryz.ntmps381
  go_wp2_with fail
  generalize hW : (w.alloc _).alloc _ = W
  have hbW : Below w.heap.size w W := by rw [← hW]; exact ((Below.refl _ _).alloc (Nat.le_refl _) _).alloc (by simp) _
  have hn : W.cell? ⟨w.heap.size, 0, none⟩ = some (.int .i64 n) := by rw [← hW]; simp
  have hz : W.heap.size = w.heap.size + 2 := by rw [← hW]; simp
  have KW := Lib.hid hbW
  have KZ := Lib.hid hz
  have HS : Hid (SaysPt 417 #[.pointer (some ⟨w.heap.size, 0, none⟩)] (fun x : Pt => decide (x.id = n)) l W) := fun W' i h hb => isPt l[i] n w.heap.size W' (ccell hb hn)
  have Y0 := Lib.hid (show W.cell? ⟨w.heap.size + 1, 0, none⟩ = some (.int .i64 0) by rw [← hW]; simp)
  have F0 := Lib.hid (show W.frozen? ⟨w.heap.size + 1, 0, none⟩ = false by rw [← hW]; simp)
  have Y1 := Lib.hid (show W.cell? ⟨w.heap.size + 1, 1, none⟩ = some (.int .i64 0) by rw [← hW]; simp)
  have F1 := Lib.hid (show W.frozen? ⟨w.heap.size + 1, 1, none⟩ = false by rw [← hW]; simp)
  clear hW hbW
  refine (ixfnPt 417 #[.pointer (some ⟨w.heap.size, 0, none⟩)] (fun x : Pt => decide (x.id = n)) a cap l W (HL.out _ KW.out) hm plain417 HS.out).mono ?_
  rintro e w1 ⟨rfl, hb1⟩
  rw [HF.out]
  have y0 : w1.cell? ⟨w.heap.size + 1, 0, none⟩ = some (.int .i64 0) := (hb1.cell (by simp [hz])).trans Y0.out
  have f0 : w1.frozen? ⟨w.heap.size + 1, 0, none⟩ = false := (hb1.frozen (by simp [hz])).trans F0.out
  have y1 : w1.cell? ⟨w.heap.size + 1, 1, none⟩ = some (.int .i64 0) := (hb1.cell (by simp [hz])).trans Y1.out
  have f1 : w1.frozen? ⟨w.heap.size + 1, 1, none⟩ = false := (hb1.frozen (by simp [hz])).trans F1.out
  have hz1 : w.heap.size + 1 < w1.heap.size := by have := hb1.size; omega
  have KE : Hid (Below w.heap.size w w1) := KW.out.trans (hb1.mono KW.out.size)
  obtain ⟨b, off, rfl, x0, x1⟩ := (HL.out _ KE.out).pt hk
  have t0 : decide ((k : Int) < 0) = false := by simp
  have i0 : (0 : Int) ≤ (k : Int) := by omega
  have i1 : (k : Int) < (l.length : Int) := by omega
  clear hb1 hz hn
  go_wp2_with fail
  generalize hWE : World.setCell _ _ _ = WE
  have q0 : WE.cell? ⟨w.heap.size + 1, 0, none⟩ = some (.int .i64 l[k].id) := by rw [← hWE]; simp [go_sem, hz1, y0, y1]
  have q1 : WE.cell? ⟨w.heap.size + 1, 1, none⟩ = some (.int .i64 l[k].sec) := by rw [← hWE]; simp [go_sem, hz1, y0, y1]
  have KB : Hid (Below w.heap.size w WE) := by show Below _ _ _; rw [← hWE]; exact Below.setCell (Below.setCell (KE.out) (by simp) _) (by simp) _
  clear hWE
  refine bodyPost_ret (v := .tuple #[.agg #[.int .i64 l[k].id, .int .i64 l[k].sec], .bool true]) (by simp [results, Tryz.f381, go_sem, q0, q1]) rfl ⟨rfl, ?_⟩
  exact KB.out
end Go.Proofs.YtbiehpjhhopjaaaGreat
namespace Go.Proofs.YtbiehpjhhopjaaaGreat
open Go.RowKit
theorem rising_of {l : List Sec} (h : SecsA l l.length) : Rising l := fun i j hi hj hij => ((h j hj hj).2 i hij).1
def SecA1 (l : List Sec) (k : Nat) (h : k < l.length) : Prop := 1 ≤ l[k].id ∧ l[k].id ≤ 99 ∧ l[k].Shaped
def SecA2 (l : List Sec) (k : Nat) (h : k < l.length) (m : Nat) : Prop := ∀ j (hj : j < k), j < m → l[j].id < l[k].id ∧ (l[k].pt ≠ 0 → l[j].pt ≠ l[k].pt)
theorem secsA_step {l : List Sec} {k : Nat} (h : k < l.length) (hA : SecsA l k) (h1 : SecA1 l k h) (h2 : SecA2 l k h k) : SecsA l (k + 1) := by
 intro i hi hik
 by_cases e : i = k
 ·subst e
  exact ⟨h1, fun m hm => h2 m hm hm⟩
 ·exact hA i hi (by omega)
theorem secsA_no1 {l : List Sec} {k : Nat} (h : k < l.length) (h1 : ¬ SecA1 l k h) : ¬ SecsA l l.length := fun hA => h1 (hA k h h).1
theorem secsA_no2 {l : List Sec} {k m : Nat} (h : k < l.length) (hm : m < k) (h2 : ¬ (l[m].id < l[k].id ∧ (l[k].pt ≠ 0 → l[m].pt ≠ l[k].pt))) : ¬ SecsA l l.length := fun hA => h2 ((hA k h h).2 m hm)
def SecB1 (l : List Sec) (k : Nat) (h : k < l.length) (m : Nat) : Prop := ∀ e (he : e < l[k].ends.length), e < m → Joined l l[k] e l[k].ends[e]
theorem secsB_step {l : List Sec} {k : Nat} (h : k < l.length) (hB : SecsB l k) (h1 : SecB1 l k h l[k].ends.length) : SecsB l (k + 1) := by
 intro i hi hik
 by_cases e : i = k
 ·subst e
  exact fun m hm => h1 m hm hm
 ·exact hB i hi (by omega)
theorem secsB_no {l : List Sec} {k m : Nat} (h : k < l.length) (hm : m < l[k].ends.length) (h2 : ¬ Joined l l[k] m l[k].ends[m]) : ¬ SecsB l l.length := fun hA => h2 (hA k h h m hm)
set_option maxRecDepth 100000 in
set_option maxHeartbeats 4000000 in
theorem secsMay_any (a : Option Addr) (cap : Nat) (l : List Sec) (w : World) (hl : SlA w 3 RSec a cap l) (hm : l.length ≤ 1000) (hmm : ∀ i (h : i < l.length), l[i].ends.length ≤ 1000) :
  Calls Tryz.prog 212 #[.slice a l.length cap] w (BoolPost w (decide (SecsMay l))) := by
 have HL : Hid (∀ w', Below w.heap.size w w' → SlA w' 3 RSec a cap l) := fun w' hb => hl.below keeps_sec hb
 have HMM := Lib.hid hmm
 clear hl hmm
 by_cases hbig : 16 < l.length
 ·have hd : decide ((16 : Int) < (l.length : Int)) = true := by simp; omega
  have HE : Hid (decide (SecsMay l) = false) := decide_eq_false fun h => by have := h.1; omega
  go_enter Tryz.func212, Tryz.ntmps212
  go_wp2_with fail
  go_ret
  exact ⟨rbool HE.out.symm, Below.refl _ _⟩
 ·have hd : decide ((16 : Int) < (l.length : Int)) = false := by simp; omega
  have h16 : l.length ≤ 16 := by omega
  have HNA : Hid (¬ SecsA l l.length → decide (SecsMay l) = false) := fun h => decide_eq_false fun h' => h h'.2.1
  have HNB : Hid (¬ SecsB l l.length → decide (SecsMay l) = false) := fun h => decide_eq_false fun h' => h h'.2.2
  have HY : Hid (SecsA l l.length → SecsB l l.length → decide (SecsMay l) = true) := fun h1 h2 => decide_eq_true ⟨h16, h1, h2⟩
  generalize decide (SecsMay l) = B at *
  go_enter Tryz.func212, Tryz.ntmps212
  go_wp2_with fail
  go_loopg [3] l.length (fun g i wr => ∃ k : Nat, k ≤ l.length ∧ g = l.length - k ∧ i = .int .i64 k ∧ Below w.heap.size w wr ∧ SecsA l k)
  case atStart => exact ⟨0, by omega, by omega, rfl, Below.refl _ _, fun i h h0 => by omega⟩
  case round =>
   obtain ⟨k, hk, rfl, rfl, hb, hA⟩ := hrel
   obtain ⟨wo, rfl⟩ : ∃ wo : World, wo = wr := ⟨_, rfl⟩
   have HB := Lib.hid hb
   have HA := Lib.hid hA
   clear hb hA
   by_cases hlt : k < l.length
   ·have hdk : decide ((k : Int) < (l.length : Int)) = true := by simp; omega
    obtain ⟨b, off, a', c', rfl, x0, x1, x2, -⟩ := (HL.out _ HB.out).sec hlt
    have c0 : (0 : Int) ≤ (k : Int) := by omega
    have c1 : (k : Int) < (l.length : Int) := by omega
    have HS : Hid (∀ W, Calls Tryz.prog 309 #[.agg #[.int .i64 l[k].id, .int .i64 l[k].pt, .slice a' l[k].ends.length c']] W fun e w' => e = .returned (.bool (decide l[k].Shaped)) ∧ Below W.heap.size W w') := fun W => refshaped_any l[k] a' c' W
    by_cases hA1 : SecA1 l k hlt
    ·have HA1 := Lib.hid hA1
     have t1 : decide (l[k].id < 1) = false := by have := hA1.1; simp; omega
     have t2 : decide (99 < l[k].id) = false := by have := hA1.2.1; simp; omega
     have t3 : decide l[k].Shaped = true := by simpa using hA1.2.2
     rw [t3] at HS
     clear hA1 t3
     have l1 := World.block_lt_of_cell? _ _ x0
     go_wp2_with fail
     refine (HS.out _).mono ?_
     rintro e0 w1 ⟨rfl, hb1⟩
     have K1 : Hid (Below w.heap.size w w1) := (HB.out.alloc HB.out.size _).trans (hb1.mono (by have := HB.out.size; simp; omega))
     have f0 : w1.cell? ⟨wo.heap.size, 0, none⟩ = some (.int .i64 l[k].id) := ccell hb1 (by simp)
     have f1 : w1.cell? ⟨wo.heap.size, 1, none⟩ = some (.int .i64 l[k].pt) := ccell hb1 (by simp)
     clear hb1 HS
     go_wp2_with fail
     go_loopg [5] k (fun g i wi => ∃ m q : Nat, m ≤ k ∧ g = k - m ∧ i = .int .i64 m ∧ wi = w1.drewN q ∧ SecA2 l k hlt m)
     case atStart => exact ⟨0, 0, by omega, by omega, rfl, rfl, fun j hj h0 => by omega⟩
     case round =>
      obtain ⟨m, q, hmk, rfl, rfl, hwi, hA2⟩ := hrel
      obtain ⟨wi, rfl⟩ : ∃ wi : World, wi = wr := ⟨_, rfl⟩
      have HA2 := Lib.hid hA2
      have HWI := Lib.hid hwi
      have F0 : wi.cell? ⟨wo.heap.size, 0, none⟩ = some (.int .i64 l[k].id) := by rw [hwi]; exact f0
      have F1 : wi.cell? ⟨wo.heap.size, 1, none⟩ = some (.int .i64 l[k].pt) := by rw [hwi]; exact f1
      have K2 : Hid (Below w.heap.size w wi) := by show Below _ _ _; rw [hwi]; exact below_drewN' K1.out q
      clear hA2 hwi
      by_cases hmk2 : m < k
      ·have hdm : decide ((m : Int) < (k : Int)) = true := by simp; omega
       have hml : m < l.length := by omega
       obtain ⟨b2, off2, a2, c2, e2, y0, y1, -, -⟩ := (HL.out _ K2.out).sec hml
       cases e2
       have m0 : (0 : Int) ≤ (m : Int) := by omega
       have m1 : (m : Int) < (l.length : Int) := by omega
       have HNO : Hid (¬ (l[m].id < l[k].id ∧ (l[k].pt ≠ 0 → l[m].pt ≠ l[k].pt)) → B = false) := fun h => HNA.out (secsA_no2 hlt hmk2 h)
       have HOK : Hid (l[m].id < l[k].id ∧ (l[k].pt ≠ 0 → l[m].pt ≠ l[k].pt) → SecA2 l k hlt (m + 1)) := fun h j hj hjm => by
        by_cases e : j = m
        ·subst e; exact h
        ·exact HA2.out j hj (by omega)
       generalize l[m].id = mi at *
       generalize l[m].pt = mp at *
       generalize l[k].id = ki at *
       generalize l[k].pt = kp at *
       by_cases q1 : ki ≤ mi
       ·have s1 : decide (ki ≤ mi) = true := by simpa using q1
        have HE := Lib.hid (HNO.out (fun h => by omega))
        go_wp2_with fail
        go_quiet (fail)
        go_wp2_with fail
        go_ret
        exact ⟨rbool HE.out.symm, below_drewN' K2.out _⟩
       ·have s1 : decide (ki ≤ mi) = false := by simp; omega
        by_cases q2 : kp = 0
        ·have s2 : (kp != 0) = false := by simp [q2]
         have HO := Lib.hid (HOK.out ⟨by omega, fun h => absurd q2 h⟩)
         clear q2
         go_wp2_with fail
         go_quiet (fail)
         go_wp2_with fail
         go_roundg (k - (m + 1))
         case measure => go_light; omega
         case rel => go_light; exact ⟨m + 1, _, by omega, by omega, by go_num, by rw [HWI.out]; exact World.drewN_drewN _ _ _, HO.out⟩
        ·have s2 : (kp != 0) = true := by simp [q2]
         by_cases q3 : mp = kp
         ·have s3 : (mp == kp) = true := by simp [q3]
          have HE := Lib.hid (HNO.out (fun h => h.2 q2 q3))
          clear q2 q3
          go_wp2_with fail
          go_quiet (fail)
          go_wp2_with fail
          go_ret
          exact ⟨rbool HE.out.symm, below_drewN' K2.out _⟩
         ·have s3 : (mp == kp) = false := by simp [q3]
          have HO := Lib.hid (HOK.out ⟨by omega, fun _ => q3⟩)
          clear q2 q3
          go_wp2_with fail
          go_quiet (fail)
          go_wp2_with fail
          go_roundg (k - (m + 1))
          case measure => go_light; omega
          case rel => go_light; exact ⟨m + 1, _, by omega, by omega, by go_num, by rw [HWI.out]; exact World.drewN_drewN _ _ _, HO.out⟩
      ·obtain rfl : m = k := by omega
       have hdm : decide ((m : Int) < (m : Int)) = false := by simp
       have HO := Lib.hid (secsA_step hlt HA.out HA1.out HA2.out)
       go_wp2_with fail
       go_roundg (l.length - (m + 1))
       case measure => go_light; omega
       case rel => go_light; exact ⟨m + 1, by omega, by omega, by go_num, K2.out, HO.out⟩
    ·have HE := Lib.hid (HNA.out (secsA_no1 hlt hA1))
     have hways : decide (l[k].id < 1) = true ∨ (decide (l[k].id < 1) = false ∧ decide (99 < l[k].id) = true) ∨ (decide (l[k].id < 1) = false ∧ decide (99 < l[k].id) = false ∧ decide l[k].Shaped = false) := by
      by_cases h1 : l[k].id < 1
      ·left; simpa using h1
      ·right
       by_cases h2 : 99 < l[k].id
       ·left; exact ⟨by simpa using h1, by simpa using h2⟩
       ·right
        exact ⟨by simpa using h1, by simpa using h2, decide_eq_false fun h3 => hA1 ⟨by omega, by omega, h3⟩⟩
     clear hA1
     rcases hways with t1 | ⟨t1, t2⟩ | ⟨t1, t2, t3⟩
     ·go_wp2_with fail
      go_ret
      exact ⟨rbool HE.out.symm, HB.out.alloc HB.out.size _⟩
     ·go_wp2_with fail
      go_ret
      exact ⟨rbool HE.out.symm, HB.out.alloc HB.out.size _⟩
     ·rw [t3] at HS
      clear t3
      go_wp2_with fail
      refine (HS.out _).mono ?_
      rintro e0 w1 ⟨rfl, hb1⟩
      have K1 : Hid (Below w.heap.size w w1) := (HB.out.alloc HB.out.size _).trans (hb1.mono (by have := HB.out.size; simp; omega))
      clear hb1 HS
      go_wp2_with fail
      go_ret
      exact ⟨rbool HE.out.symm, K1.out⟩
   ·obtain rfl : k = l.length := by omega
    have hdk : decide ((l.length : Int) < (l.length : Int)) = false := by simp
    have hr := Lib.hid (rising_of HA.out)
    go_wp2_with fail
    go_loopg [6] l.length (fun g i wi => ∃ k : Nat, k ≤ l.length ∧ g = l.length - k ∧ i = .int .i64 k ∧ Below w.heap.size w wi ∧ SecsB l k)
    case atStart => exact ⟨0, by omega, by omega, rfl, HB.out, fun i h h0 => by omega⟩
    case round =>
     obtain ⟨k, hk2, rfl, rfl, hb2, hB2⟩ := hrel
     obtain ⟨wi, rfl⟩ : ∃ wi : World, wi = wr := ⟨_, rfl⟩
     have HBi := Lib.hid hb2
     have HBB := Lib.hid hB2
     clear hb2 hB2
     by_cases hlt : k < l.length
     ·have hdk : decide ((k : Int) < (l.length : Int)) = true := by simp; omega
      have c0 : (0 : Int) ≤ (k : Int) := by omega
      have c1 : (k : Int) < (l.length : Int) := by omega
      have hmk := HMM.out k hlt
      go_wp2_with fail
      go_loopg [7] l[k].ends.length (fun g i wj => ∃ m : Nat, m ≤ l[k].ends.length ∧ g = l[k].ends.length - m ∧ i = .int .i64 m ∧ Below w.heap.size w wj ∧ SecB1 l k hlt m)
      case atStart => exact ⟨0, by omega, by omega, rfl, HBi.out, fun j hj h0 => by omega⟩
      case round =>
       obtain ⟨m, hmk2, rfl, rfl, hb3, hB3⟩ := hrel
       obtain ⟨wj, rfl⟩ : ∃ wj : World, wj = wr := ⟨_, rfl⟩
       have HBj := Lib.hid hb3
       have HB1 := Lib.hid hB3
       clear hb3 hB3
       obtain ⟨b2, off2, a2, c2, rfl, y0, y1, y2, hends⟩ := (HL.out _ HBj.out).sec hlt
       by_cases hm2 : m < l[k].ends.length
       ·have hdm : decide ((m : Int) < (l[k].ends.length : Int)) = true := by simp; omega
        have HJ : Hid (Calls Tryz.prog 310 #[.slice (some ⟨b2, off2, none⟩) l.length cap, .agg #[.int .i64 l[k].id, .int .i64 l[k].pt, .slice a2 l[k].ends.length c2], .int .i64 (m : Int)] wj (BoolPost wj (decide (Joined l l[k] m l[k].ends[m])))) :=
         joined_any _ cap l l[k] a2 c2 m hm2 wj (HL.out _ HBj.out) hends hm HMM.out hmk hr.out
        by_cases hj : Joined l l[k] m l[k].ends[m]
        ·have HO : Hid (SecB1 l k hlt (m + 1)) := fun e he hem => by
          by_cases h : e = m
          ·subst h; exact hj
          ·exact HB1.out e he (by omega)
         rw [decide_eq_true hj] at HJ
         clear hj hends
         generalize l[k].ends.length = ne at *
         go_wp2_with fail
         refine HJ.out.mono ?_
         rintro e0 w1 ⟨rfl, hb1⟩
         have K1 : Hid (Below w.heap.size w w1) := HBj.out.trans (hb1.mono HBj.out.size)
         clear hb1 HJ
         go_wp2_with fail
         go_roundg (ne - (m + 1))
         case measure => go_light; omega
         case rel => go_light; exact ⟨m + 1, by omega, by omega, by go_num, K1.out, HO.out⟩
        ·have HE := Lib.hid (HNB.out (secsB_no hlt hm2 hj))
         rw [decide_eq_false hj] at HJ
         clear hj hends
         generalize l[k].ends.length = ne at *
         go_wp2_with fail
         refine HJ.out.mono ?_
         rintro e0 w1 ⟨rfl, hb1⟩
         have K1 : Hid (Below w.heap.size w w1) := HBj.out.trans (hb1.mono HBj.out.size)
         clear hb1 HJ
         go_wp2_with fail
         go_ret
         exact ⟨rbool HE.out.symm, K1.out⟩
       ·have hme : m = l[k].ends.length := by omega
        have HO := Lib.hid (secsB_step hlt HBB.out (by rw [← hme]; exact HB1.out))
        have hdm : decide ((m : Int) < (l[k].ends.length : Int)) = false := by simp; omega
        clear hme hends
        go_wp2_with fail
        go_roundg (l.length - (k + 1))
        case measure => go_light; omega
        case rel => go_light; exact ⟨k + 1, by omega, by omega, by go_num, HBj.out, HO.out⟩
     ·obtain rfl : k = l.length := by omega
      have hdk : decide ((l.length : Int) < (l.length : Int)) = false := by simp
      have HE := Lib.hid (HY.out HA.out HBB.out)
      go_wp2_with fail
      go_ret
      exact ⟨rbool HE.out.symm, HBi.out⟩
end Go.Proofs.YtbiehpjhhopjaaaGreat
