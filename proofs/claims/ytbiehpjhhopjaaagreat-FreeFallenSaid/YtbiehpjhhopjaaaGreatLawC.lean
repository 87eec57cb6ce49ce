/-
  The station may run.
  The law's state, walked.
-/
import Derived.Test.YtbiehpjhhopjaaaGreatAtA
import Derived.Test.YtbiehpjhhopjaaaGreatLawA
import Derived.Test.YtbiehpjhhopjaaaGreatFreeE
set_option linter.unusedVariables false
namespace Go.Proofs.YtbiehpjhhopjaaaGreat
open Go.RowKit
set_option maxRecDepth 100000 in
theorem stn_sound : PlanSound stn := of_decide_eq_true (by kernel_rfl)
theorem stn_fit : stn.Fit := ⟨by decide, by decide, by decide, by decide, by decide, fun i hi => by
  rcases i with _ | _ | _ | i
  · unfold Rt.fit; simp [stn]
  · unfold Rt.fit; simp [stn]
  · unfold Rt.fit; simp [stn]
  · exact absurd hi (by simp [stn])⟩
/-- the law's state: all occupied but section 2 -/
def stn1 : St := ⟨[⟨1, 2⟩, ⟨2, 0⟩, ⟨3, 2⟩, ⟨4, 2⟩, ⟨5, 2⟩, ⟨6, 2⟩], [⟨2, 0, 0⟩, ⟨5, 0, 0⟩], [⟨1, 0, 0, 0⟩, ⟨3, 0, 0, 0⟩, ⟨6, 0, 0, 0⟩]⟩
set_option maxRecDepth 100000 in
theorem stn1_err : ofErr stn stn1 = 0 := by kernel_rfl
set_option maxRecDepth 100000 in
theorem alive_1 : isFree stn stn1 ⟨[2], [], [], []⟩ = true := by kernel_rfl
set_option maxRecDepth 100000 in
theorem alive_2 : isFree stn stn1 ⟨[2, 3], [], [], []⟩ = false := by kernel_rfl
end Go.Proofs.YtbiehpjhhopjaaaGreat
set_option linter.unusedVariables false
set_option linter.unusedSimpArgs false
namespace Go.Proofs.YtbiehpjhhopjaaaGreat
open Go.RowKit
theorem grown_set (W : World) (g i : Nat) (u : Value) : W.grownBy (W.setCell ⟨g, i, none⟩ u) (some g) :=
  ⟨rfl, rfl, rfl, by simp [World.setCell], fun k _ h => Below.heap_setCell W _ u k (fun e => h (by rw [e]))⟩
/-- one cell of a row of one's own is set -/
theorem own_put {W : World} {base g n cap sz : Nat} {e : TypeId} {xs : List Value} (h : W.ownsRow base e sz (.slice (some ⟨g, 0, none⟩) n cap) n xs) {i : Nat} (hi : i < xs.length) (u : Value) :
    (W.setCell ⟨g, i, none⟩ u).ownsRow base e sz (.slice (some ⟨g, 0, none⟩) n cap) n (xs.set i u) := by
  refine ⟨by rw [List.length_set]; exact h.1, ?_⟩
  rcases h.2 with ⟨h1, _⟩ | ⟨g', cap', cur, he, hbg, hgb, r1, r2, r3, r4⟩
  · cases h1
  · cases he
    refine .inr ⟨g, cap, cur.setIfInBounds i u, rfl, hbg, by simp [World.setCell, Array.getElem?_modify, hgb], r1, r2, by simp [r3], ?_⟩
    rw [← r4, Array.toList_setIfInBounds, List.take_set]
theorem StOwn.setTk {W : World} {N g n cap : Nat} {s l : Value} {x : St} (h : StOwn W N (.slice (some ⟨g, 0, none⟩) n cap) s l x) {i : Nat} (hi : i < (x.tks.flatMap tkC).length) (u : Value) (y : List Tk) (hy : y.length = x.tks.length) (hyc : y.flatMap tkC = (x.tks.flatMap tkC).set i u) (hn : n = x.tks.length) :
    StOwn (W.setCell ⟨g, i, none⟩ u) N (.slice (some ⟨g, 0, none⟩) n cap) s l ⟨y, x.sws, x.lks⟩ := by
  subst hn
  refine ⟨?_, h.sws.kept (grown_set W g i u) ?_, h.lks.kept (grown_set W g i u) ?_⟩
  · show World.ownsRow _ _ _ _ _ y.length (y.flatMap tkC)
    rw [hy, hyc]
    exact own_put h.tks hi u
  · rcases own_apart h.sws h.tks (by decide) with h | h
    · exact .inl h
    · exact .inr h
  · rcases own_apart h.lks h.tks (by decide) with h | h
    · exact .inl h
    · exact .inr h
theorem atSt_stn : atSt stn = ⟨[⟨1, 2⟩, ⟨2, 2⟩, ⟨3, 2⟩, ⟨4, 2⟩, ⟨5, 2⟩, ⟨6, 2⟩], [⟨2, 0, 0⟩, ⟨5, 0, 0⟩], [⟨1, 0, 0, 0⟩, ⟨3, 0, 0, 0⟩, ⟨6, 0, 0, 0⟩]⟩ := rfl
def OnePost (w : World) (e : Ending) (w' : World) : Prop := Below w.heap.size w w' ∧ ∃ t s l, e = .returned (.tuple #[.agg #[t, s, l], .bool true]) ∧ StOwn w' w.heap.size t s l stn1
set_option maxRecDepth 100000 in
set_option maxHeartbeats 8000000 in
theorem one_any (w : World) : Calls Tryz.prog 41 #[] w (OnePost w) := by
  go_enter Tryz.func41, Tryz.ntmps41
  go_upto_region 1 with fail
  generalize hW0 : World.alloc _ _ = W0
  have hb0 : Below w.heap.size w W0 := by rw [← hW0]; exact (Below.refl _ _).alloc (Nat.le_refl _) _
  have hq0 : W0.heap[w.heap.size]? = some (.cells #[.slice none 0 0, .slice none 0 0, .slice none 0 0] 33 (0, 0)) := by rw [← hW0]; exact heap_alloc_new _ _
  have K0 := Lib.hid hb0
  have HQ0 := Lib.hid hq0
  clear hW0 hb0 hq0
  go_wp2_with fail
  refine (station_any W0).mono ?_
  rintro e w1 ⟨s, q, gg, rr, rfl, hpm, hb1⟩
  have K1 : Hid (Below w.heap.size w w1) := K0.out.trans (hb1.mono K0.out.size)
  have HQ1 := Lib.hid ((hb1.block _ (lt_of_block HQ0.out)).trans HQ0.out)
  have HAT := Lib.hid (at_any stn s q gg rr w1 hpm stn_fit)
  clear hpm hb1
  unfold plV at *
  go_wp2_with fail
  refine HAT.out.mono ?_
  rintro e w2 ⟨hb2, hor⟩
  rcases hor with ⟨hno, _⟩ | ⟨_, t, s', l, rfl, hown⟩
  · exact absurd stn_sound hno
  have K2 : Hid (Below w.heap.size w w2) := K1.out.trans (hb2.mono K1.out.size)
  have HQ2 := Lib.hid ((hb2.block _ (lt_of_block HQ1.out)).trans HQ1.out)
  rw [atSt_stn] at hown
  obtain ⟨g1, m1, rfl⟩ := own_slice hown.sws
  obtain ⟨g2, m2, rfl⟩ := own_slice hown.lks
  rcases hown.tks.2 with ⟨_, h0⟩ | ⟨g, cap, cur, rfl, hbg, hgb, r1, r2, r3, r4⟩
  · cases h0
  have HOW := Lib.hid hown
  have hgw : w.heap.size < w1.heap.size := lt_of_block HQ1.out
  clear hown hb2 HAT
  have lg := lt_of_block hgb
  have f0 : w2.frozen? ⟨g, 3, none⟩ = false := by simp [World.frozen?, hgb]
  have hq3 : w2.cell? ⟨g, 3, none⟩ = some (.int .u8 2) := by
    have := HOW.out.tks.cells (g := g) rfl 3 _ rfl
    rwa [add_lit0] at this
  have lw := lt_of_block HQ2.out
  have fq : ∀ o, w2.frozen? ⟨w.heap.size, o, none⟩ = false := fun o => by simp [World.frozen?, HQ2.out]
  have hc0 : w2.cell? ⟨w.heap.size, 0, none⟩ = some (.slice none 0 0) := (cell_of_row w2 _ 0 _ _ _ HQ2.out).trans rfl
  have hc1 : w2.cell? ⟨w.heap.size, 1, none⟩ = some (.slice none 0 0) := (cell_of_row w2 _ 1 _ _ _ HQ2.out).trans rfl
  have hc2 : w2.cell? ⟨w.heap.size, 2, none⟩ = some (.slice none 0 0) := (cell_of_row w2 _ 2 _ _ _ HQ2.out).trans rfl
  have f1 := fq 0
  have f2 := fq 1
  have f3 := fq 2
  clear hgb r3 r4 fq
  go_wp2_with fail
  have own1 := HOW.out.setTk (i := 3) (by simp [tkC]) (.int .u8 0) stn1.tks rfl rfl rfl
  have own2 := ((own1.setCell (a := ⟨w.heap.size, 0, none⟩) hgw (.slice (some ⟨g, 0, none⟩) 6 cap)).setCell (a := ⟨w.heap.size, 1, none⟩) hgw (.slice g1 2 m1)).setCell (a := ⟨w.heap.size, 2, none⟩) hgw (.slice g2 3 m2)
  generalize hWE : (((w2.setCell ⟨g, 3, none⟩ (.int .u8 0)).setCell ⟨w.heap.size, 0, none⟩ (.slice (some ⟨g, 0, none⟩) 6 cap)).setCell ⟨w.heap.size, 1, none⟩ (.slice g1 2 m1)).setCell ⟨w.heap.size, 2, none⟩ (.slice g2 3 m2) = WE at *
  have hne : g ≠ w.heap.size := by omega
  have hqe : WE.heap[w.heap.size]? = some (.cells #[.slice (some ⟨g, 0, none⟩) 6 cap, .slice g1 2 m1, .slice g2 3 m2] 33 (0, 0)) := by
    rw [← hWE]
    simp [World.setCell, Array.getElem?_modify, HQ2.out, hne]
  have hbe : Below w.heap.size w WE := by
    rw [← hWE]
    exact (((K2.out.setCell (by show w.heap.size ≤ g; omega) _).setCell (Nat.le_refl _) _).setCell (Nat.le_refl _) _).setCell (Nat.le_refl _) _
  have e0 : WE.cell? ⟨w.heap.size, 0, none⟩ = some (.slice (some ⟨g, 0, none⟩) 6 cap) := (cell_of_row WE _ 0 _ _ _ hqe).trans rfl
  have e1 : WE.cell? ⟨w.heap.size, 1, none⟩ = some (.slice g1 2 m1) := (cell_of_row WE _ 1 _ _ _ hqe).trans rfl
  have e2 : WE.cell? ⟨w.heap.size, 2, none⟩ = some (.slice g2 3 m2) := (cell_of_row WE _ 2 _ _ _ hqe).trans rfl
  have le := lt_of_block hqe
  have own3 := (own2.below ((Below.refl WE.heap.size WE).alloc (Nat.le_refl _) (.cells #[.slice (some ⟨g, 0, none⟩) 6 cap, .slice g1 2 m1, .slice g2 3 m2] 33))).base K1.out.size
  clear hWE
  exact bodyPost_ret (v := .tuple #[.agg #[.slice (some ⟨g, 0, none⟩) 6 cap, .slice g1 2 m1, .slice g2 3 m2], .bool true]) (by simp [results, Tryz.f41, go_sem, e0, e1, e2, le]) rfl ⟨hbe.alloc hbe.size _, _, _, _, rfl, own3⟩
end Go.Proofs.YtbiehpjhhopjaaaGreat
