/-
  way.signal, walked.
-/
import Derived.Test.YtbiehpjhhopjaaaGreatMem
import Derived.Test.YtbiehpjhhopjaaaGreatData
import Derived.Test.YtbiehpjhhopjaaaGreatPlanG
set_option linter.unusedVariables false
set_option linter.unusedSimpArgs false
namespace Go.Proofs.YtbiehpjhhopjaaaGreat
open Go.RowKit Go.Sort
theorem one_zero {α : Type} (f : α → Int) (z : α) (l : List α) (n : Int) : oneOf f z (l.take 0) n = z := by simp [oneOf]
theorem one_skip {α : Type} {f : α → Int} {z : α} {l : List α} {n : Int} {k : Nat} (h : k < l.length) (hn : ¬ f l[k] = n) : oneOf f z (l.take (k + 1)) n = oneOf f z (l.take k) n := by
  unfold oneOf
  rw [List.take_succ_eq_append_getElem h, List.find?_append]
  have : [l[k]].find? (fun x => decide (f x = n)) = none := by simp [hn]
  rw [this]
  cases (l.take k).find? (fun x => decide (f x = n)) <;> rfl
theorem one_hit {α : Type} {f : α → Int} {z : α} {l : List α} {n : Int} {k : Nat} (h : k < l.length) (hR : RiseTo f l l.length) (hn : f l[k] = n) : oneOf f z (l.take (k + 1)) n = l[k] := by
  unfold oneOf
  rw [List.take_succ_eq_append_getElem h, List.find?_append]
  have hno : (l.take k).find? (fun x => decide (f x = n)) = none := by
    rw [List.find?_eq_none]
    intro x hx
    obtain ⟨i, hi, rfl⟩ := List.getElem_of_mem hx
    rw [List.length_take] at hi
    rw [List.getElem_take]
    have hlt : ∀ d, ∀ h1 : i + d + 1 < l.length, f l[i] < f l[i + d + 1] := by
      intro d
      induction d with
      | zero => intro h1; have := (hR (i + 0 + 1) h1 h1).2 (by omega); simpa using this
      | succ d ih =>
        intro h1
        have h2 := ih (by omega)
        have h3 := (hR (i + (d + 1) + 1) h1 h1).2 (by omega)
        have e : i + (d + 1) + 1 - 1 = i + d + 1 := by omega
        simp only [e] at h3
        omega
    have := hlt (k - i - 1) (by omega)
    have e : i + (k - i - 1) + 1 = k := by omega
    simp only [e] at this
    simp; omega
  rw [hno]
  simp [hn]
theorem blk3 {W : World} {g : Nat} {a b c x y z : Value} {T : TypeId} {fr : Nat × Nat} (h : W.heap[g]? = some (.cells #[a, b, c] T fr)) : (((W.setCell ⟨g, 0, none⟩ x).setCell ⟨g, 1, none⟩ y).setCell ⟨g, 2, none⟩ z).heap[g]? = some (.cells #[x, y, z] T fr) := by
  simp [World.setCell, Array.getElem?_modify, h]
set_option maxRecDepth 100000 in
set_option maxHeartbeats 2000000 in
theorem signal_any (p : Pl) (s q g r : Value) (id : Int) (w : World) (hp : PlM w s q g r p) (hf : p.Fit) (hR : RiseTo Sg.id p.sigs p.sigs.length) :
    Calls Tryz.prog 301 #[plV p s q g r, .int .i64 id] w fun e w' => e = .returned (.agg #[.int .i64 (sgOf p id).id, .int .i64 (sgOf p id).sec, .int .i64 (sgOf p id).en]) ∧ Below w.heap.size w w' := by
  obtain ⟨⟨a1, c1, rfl, k1⟩, ⟨a2, c2, rfl, k2⟩, ⟨a3, c3, rfl, k3⟩, ⟨a4, c4, rfl, k4⟩⟩ := hp
  have HG : Hid (∀ w', Below w.heap.size w w' → SlA w' 3 RSg a3 c3 p.sigs) := fun w' hb => k3.below keeps_sg hb
  have HRR := Lib.hid hR
  have HE : Hid (sgOf p id = oneOf Sg.id zSg (p.sigs.take p.sigs.length) id) := by show _ = _; rw [List.take_length]; rfl
  have hs := hf.sigs
  generalize sgOf p id = E at *
  clear k1 k2 k3 k4 hf hR
  unfold plV
  go_enter Tryz.func301, Tryz.ntmps301
  go_wp2_with fail
  generalize hW : (w.alloc _).alloc _ = W
  have K0 : Hid (Below w.heap.size w W) := by show Below _ _ _; rw [← hW]; exact ((Below.refl _ _).alloc (Nat.le_refl _) _).alloc (by simp) _
  have HG0 : Hid (W.heap[w.heap.size + 1]? = some (.cells #[.int .i64 0, .int .i64 0, .int .i64 0] 145 (0, 0))) := by
    show _ = _
    rw [← hW]
    exact heap_alloc2_new _ _ _
  clear hW
  go_loopg [10] p.sigs.length (fun g i wr => ∃ k : Nat, k ≤ p.sigs.length ∧ g = p.sigs.length - k ∧ i = .int .i64 k ∧ Below w.heap.size w wr ∧ wr.heap[w.heap.size + 1]? = some (.cells #[.int .i64 (oneOf Sg.id zSg (p.sigs.take k) id).id, .int .i64 (oneOf Sg.id zSg (p.sigs.take k) id).sec, .int .i64 (oneOf Sg.id zSg (p.sigs.take k) id).en] 145 (0, 0)))
  case atStart => exact ⟨0, by omega, by omega, rfl, K0.out, by rw [one_zero]; exact HG0.out⟩
  case round =>
    obtain ⟨k, hk, rfl, rfl, hb, hB⟩ := hrel
    obtain ⟨wo, rfl⟩ : ∃ wo : World, wo = wr := ⟨_, rfl⟩
    have HB := Lib.hid hb
    have HBL := Lib.hid hB
    have lg := lt_of_block hB
    clear hb hB
    by_cases hlt : k < p.sigs.length
    · have hdk : decide ((k : Int) < (p.sigs.length : Int)) = true := by simp; omega
      obtain ⟨b, off, rfl, x0, x1, x2⟩ := (HG.out _ HB.out).sg hlt
      have c0 : (0 : Int) ≤ (k : Int) := by omega
      have c1 : (k : Int) < (p.sigs.length : Int) := by omega
      have l1 := World.block_lt_of_cell? _ _ x0
      have f0 : ∀ o, wo.frozen? ⟨w.heap.size + 1, o, none⟩ = false := fun o => by simp [World.frozen?, HBL.out]
      have z0 : wo.cell? ⟨w.heap.size + 1, 0, none⟩ = some (.int .i64 (oneOf Sg.id zSg (p.sigs.take k) id).id) := (cell_of_row wo _ 0 _ _ _ HBL.out).trans rfl
      have z1 : wo.cell? ⟨w.heap.size + 1, 1, none⟩ = some (.int .i64 (oneOf Sg.id zSg (p.sigs.take k) id).sec) := (cell_of_row wo _ 1 _ _ _ HBL.out).trans rfl
      have z2 : wo.cell? ⟨w.heap.size + 1, 2, none⟩ = some (.int .i64 (oneOf Sg.id zSg (p.sigs.take k) id).en) := (cell_of_row wo _ 2 _ _ _ HBL.out).trans rfl
      by_cases he : p.sigs[k].id = id
      · have t0 : (p.sigs[k].id == id) = true := by rw [beq_iff_eq]; exact he
        have HO := Lib.hid (one_hit (z := zSg) hlt HRR.out he)
        clear he
        generalize p.sigs[k] = X at *
        generalize oneOf Sg.id zSg (p.sigs.take k) id = Y at *
        go_wp2_with fail
        go_roundg (p.sigs.length - (k + 1))
        case measure => go_light; omega
        case rel =>
          go_light
          refine ⟨k + 1, by omega, by omega, by go_num, ?_, ?_⟩
          · exact ((((HB.out.setCell (by simp) _).setCell (by simp) _).setCell (by simp) _)).alloc (by simpa [World.setCell] using HB.out.size) _
          · rw [HO.out]
            exact (heap_alloc_old _ _ (by simpa [World.setCell] using lg)).trans (blk3 HBL.out)
      · have t0 : (p.sigs[k].id == id) = false := by rw [beq_eq_false_iff_ne]; exact he
        have HO := Lib.hid (one_skip (z := zSg) hlt he)
        clear he
        generalize p.sigs[k] = X at *
        generalize oneOf Sg.id zSg (p.sigs.take k) id = Y at *
        go_wp2_with fail
        go_roundg (p.sigs.length - (k + 1))
        case measure => go_light; omega
        case rel =>
          go_light
          exact ⟨k + 1, by omega, by omega, by go_num, HB.out.alloc HB.out.size _, by rw [HO.out]; exact (heap_alloc_old wo _ lg).trans HBL.out⟩
    · obtain rfl : k = p.sigs.length := by omega
      have hdk : decide ((p.sigs.length : Int) < (p.sigs.length : Int)) = false := by simp
      rw [← HE.out] at HBL
      go_wp2_with fail
      have q0 : wo.cell? ⟨w.heap.size + 1, 0, none⟩ = some (.int .i64 E.id) := (cell_of_row wo _ 0 _ _ _ HBL.out).trans rfl
      have q1 : wo.cell? ⟨w.heap.size + 1, 1, none⟩ = some (.int .i64 E.sec) := (cell_of_row wo _ 1 _ _ _ HBL.out).trans rfl
      have q2 : wo.cell? ⟨w.heap.size + 1, 2, none⟩ = some (.int .i64 E.en) := (cell_of_row wo _ 2 _ _ _ HBL.out).trans rfl
      exact bodyPost_ret (v := .agg #[.int .i64 E.id, .int .i64 E.sec, .int .i64 E.en]) (by simp [results, Tryz.f301, go_sem, q0, q1, q2]) rfl ⟨rfl, HB.out⟩
end Go.Proofs.YtbiehpjhhopjaaaGreat
