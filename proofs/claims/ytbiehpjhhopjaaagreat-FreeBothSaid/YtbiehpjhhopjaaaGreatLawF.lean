/-
  law 25's FreeNames, walked.
-/
import Derived.Test.YtbiehpjhhopjaaaGreatLawE
set_option linter.unusedVariables false
set_option linter.unusedSimpArgs false
namespace Go.Proofs.YtbiehpjhhopjaaaGreat
open Go.RowKit
/-- where the region that asks Is stands -/
structure RN2 (w0 : World) (SV : Value) (f0 f1 f2 f3 f4 f5 f6 f7 f8 f9 f10 f11 f12 : Bool) (s0 s1 s2 s3 s4 s5 s6 s7 s8 s9 s10 s11 s12 : Value) (W : World) : Prop where
  bel : Below w0.heap.size w0 W
  h0 : f0 = true → ∃ a1 c1 a2 c2 a3 c3 a4 c4, s0 = plV stn (.slice a1 stn.secs.length c1) (.slice a2 stn.pts.length c2) (.slice a3 stn.sigs.length c3) (.slice a4 stn.rts.length c4) ∧ PlM W (.slice a1 stn.secs.length c1) (.slice a2 stn.pts.length c2) (.slice a3 stn.sigs.length c3) (.slice a4 stn.rts.length c4) stn
  h1 : f1 = true → s1 = SV
  h2 : f2 = true → ∃ b, s2 = .slice (some ⟨b, 0, none⟩) 1 1 ∧ IL W (some ⟨b, 0, none⟩) 1 [99]
  h3 : f3 = true → ∃ b, s3 = .slice (some ⟨b, 0, none⟩) 1 1 ∧ IL W (some ⟨b, 0, none⟩) 1 [2]
  h4 : f4 = true → ∃ b, s4 = .slice (some ⟨b, 0, none⟩) 1 1 ∧ IL W (some ⟨b, 0, none⟩) 1 [1]
  h5 : f5 = true → ∃ b, s5 = .slice (some ⟨b, 0, none⟩) 1 1 ∧ IL W (some ⟨b, 0, none⟩) 1 [1]
  h6 : f6 = true → ∃ b0 b1 b2 b3, s6 = .agg #[.slice (some ⟨b0, 0, none⟩) 1 1, .slice (some ⟨b1, 0, none⟩) 1 1, .slice (some ⟨b2, 0, none⟩) 1 1, .slice (some ⟨b3, 0, none⟩) 1 1] ∧ IL W (some ⟨b0, 0, none⟩) 1 [99] ∧ IL W (some ⟨b1, 0, none⟩) 1 [2] ∧ IL W (some ⟨b2, 0, none⟩) 1 [1] ∧ IL W (some ⟨b3, 0, none⟩) 1 [1]
  h7 : f7 = true → s7 = .tuple #[.bool true, .int .i64 0]
  h8 : f8 = true → s8 = .tuple #[.bool true, .int .i64 0]
  h9 : f9 = true → s9 = .bool true
  h10 : f10 = true → s10 = .int .i64 0
  h11 : f11 = true → s11 = .bool true
  h12 : f12 = true → s12 = .int .i64 0
theorem RN2.below {w0 : World} {SV : Value} {f0 f1 f2 f3 f4 f5 f6 f7 f8 f9 f10 f11 f12 : Bool} {s0 s1 s2 s3 s4 s5 s6 s7 s8 s9 s10 s11 s12 : Value} {W W' : World} (h : RN2 w0 SV f0 f1 f2 f3 f4 f5 f6 f7 f8 f9 f10 f11 f12 s0 s1 s2 s3 s4 s5 s6 s7 s8 s9 s10 s11 s12 W) (hb : Below W.heap.size W W') : RN2 w0 SV f0 f1 f2 f3 f4 f5 f6 f7 f8 f9 f10 f11 f12 s0 s1 s2 s3 s4 s5 s6 s7 s8 s9 s10 s11 s12 W' :=
  { h with
    bel := h.bel.trans (hb.mono h.bel.size)
    h0 := fun k => by
      obtain ⟨a1, c1, a2, c2, a3, c3, a4, c4, e, hp⟩ := h.h0 k
      exact ⟨a1, c1, a2, c2, a3, c3, a4, c4, e, hp.below hb⟩
    h2 := fun k => by
      obtain ⟨b, e, hi⟩ := h.h2 k
      exact ⟨b, e, hi.below hb⟩
    h3 := fun k => by
      obtain ⟨b, e, hi⟩ := h.h3 k
      exact ⟨b, e, hi.below hb⟩
    h4 := fun k => by
      obtain ⟨b, e, hi⟩ := h.h4 k
      exact ⟨b, e, hi.below hb⟩
    h5 := fun k => by
      obtain ⟨b, e, hi⟩ := h.h5 k
      exact ⟨b, e, hi.below hb⟩
    h6 := fun k => by
      obtain ⟨b0, b1, b2, b3, e, i0, i1, i2, i3⟩ := h.h6 k
      exact ⟨b0, b1, b2, b3, e, i0.below hb, i1.below hb, i2.below hb, i3.below hb⟩ }
/-- where the region that asks Odd stands -/
structure RN3 (w0 : World) (SV : Value) (f0 f1 f2 f3 f4 f5 f6 f7 f8 f9 f10 : Bool) (s0 s1 s2 s3 s4 s5 s6 s7 s8 s9 s10 : Value) (W : World) : Prop where
  bel : Below w0.heap.size w0 W
  h0 : f4 = false → f0 = true → ∃ a1 c1 a2 c2 a3 c3 a4 c4, s0 = plV stn (.slice a1 stn.secs.length c1) (.slice a2 stn.pts.length c2) (.slice a3 stn.sigs.length c3) (.slice a4 stn.rts.length c4) ∧ PlM W (.slice a1 stn.secs.length c1) (.slice a2 stn.pts.length c2) (.slice a3 stn.sigs.length c3) (.slice a4 stn.rts.length c4) stn
  h1 : f1 = true → s1 = SV
  h2 : f4 = false → f2 = true → ∃ b, s2 = .slice (some ⟨b, 0, none⟩) 3 3 ∧ IL W (some ⟨b, 0, none⟩) 3 [3, 2, 3]
  h3 : f4 = false → f3 = true → ∃ b, s3 = .agg #[.slice (some ⟨b, 0, none⟩) 3 3, .slice none 0 0, .slice none 0 0, .slice none 0 0] ∧ IL W (some ⟨b, 0, none⟩) 3 [3, 2, 3]
  h4 : f4 = true → f3 = true ∧ ∃ a1 l1 c1 a2 l2 c2 a3 l3 c3 a4 l4 c4, s4 = .tuple #[.agg #[.slice a1 l1 c1, .slice a2 l2 c2, .slice a3 l3 c3, .slice a4 l4 c4], .int .i64 0] ∧ (f9 = false → AL W (.slice a1 l1 c1) (.slice a2 l2 c2) (.slice a3 l3 c3) (.slice a4 l4 c4) ⟨[3], [], [], []⟩)
  h5 : f5 = true → f4 = true ∧ ∃ a1 l1 c1 a2 l2 c2 a3 l3 c3 a4 l4 c4, s5 = .tuple #[.agg #[.slice a1 l1 c1, .slice a2 l2 c2, .slice a3 l3 c3, .slice a4 l4 c4], .int .i64 0] ∧ (f9 = false → AL W (.slice a1 l1 c1) (.slice a2 l2 c2) (.slice a3 l3 c3) (.slice a4 l4 c4) ⟨[3], [], [], []⟩)
  h6 : f6 = true → f4 = true ∧ ∃ a1 l1 c1 a2 l2 c2 a3 l3 c3 a4 l4 c4, s6 = .agg #[.slice a1 l1 c1, .slice a2 l2 c2, .slice a3 l3 c3, .slice a4 l4 c4] ∧ (f9 = false → AL W (.slice a1 l1 c1) (.slice a2 l2 c2) (.slice a3 l3 c3) (.slice a4 l4 c4) ⟨[3], [], [], []⟩)
  h7 : f7 = true → s7 = .int .i64 0
  h8 : f8 = true → ∃ ga, s8 = .pointer (some ⟨ga, 0, none⟩) ∧ w0.heap.size ≤ ga ∧ (f9 = false → W.heap[ga]? = some (.cells #[.slice none 0 0, .slice none 0 0, .slice none 0 0, .slice none 0 0] 56 (0, 0))) ∧ (f9 = true → ∃ a1 l1 c1 a2 l2 c2 a3 l3 c3 a4 l4 c4, W.heap[ga]? = some (.cells #[.slice a1 l1 c1, .slice a2 l2 c2, .slice a3 l3 c3, .slice a4 l4 c4] 56 (0, 0)) ∧ AL W (.slice a1 l1 c1) (.slice a2 l2 c2) (.slice a3 l3 c3) (.slice a4 l4 c4) ⟨[3], [], [], []⟩)
  h9 : f9 = true → f4 = true ∧ f8 = true
  h10 : f10 = true → s10 = .int .i64 0
theorem RN3.below {w0 : World} {SV : Value} {f0 f1 f2 f3 f4 f5 f6 f7 f8 f9 f10 : Bool} {s0 s1 s2 s3 s4 s5 s6 s7 s8 s9 s10 : Value} {W W' : World} (h : RN3 w0 SV f0 f1 f2 f3 f4 f5 f6 f7 f8 f9 f10 s0 s1 s2 s3 s4 s5 s6 s7 s8 s9 s10 W) (hb : Below W.heap.size W W') : RN3 w0 SV f0 f1 f2 f3 f4 f5 f6 f7 f8 f9 f10 s0 s1 s2 s3 s4 s5 s6 s7 s8 s9 s10 W' :=
  { h with
    bel := h.bel.trans (hb.mono h.bel.size)
    h0 := fun k0 k => by
      obtain ⟨a1, c1, a2, c2, a3, c3, a4, c4, e, hp⟩ := h.h0 k0 k
      exact ⟨a1, c1, a2, c2, a3, c3, a4, c4, e, hp.below hb⟩
    h2 := fun k0 k => by
      obtain ⟨b, e, hi⟩ := h.h2 k0 k
      exact ⟨b, e, hi.below hb⟩
    h3 := fun k0 k => by
      obtain ⟨b, e, hi⟩ := h.h3 k0 k
      exact ⟨b, e, hi.below hb⟩
    h4 := fun k => by
      obtain ⟨k4, a1, l1, c1, a2, l2, c2, a3, l3, c3, a4, l4, c4, e, hi⟩ := h.h4 k
      exact ⟨k4, a1, l1, c1, a2, l2, c2, a3, l3, c3, a4, l4, c4, e, fun k9 => (hi k9).below hb⟩
    h5 := fun k => by
      obtain ⟨k4, a1, l1, c1, a2, l2, c2, a3, l3, c3, a4, l4, c4, e, hi⟩ := h.h5 k
      exact ⟨k4, a1, l1, c1, a2, l2, c2, a3, l3, c3, a4, l4, c4, e, fun k9 => (hi k9).below hb⟩
    h6 := fun k => by
      obtain ⟨k4, a1, l1, c1, a2, l2, c2, a3, l3, c3, a4, l4, c4, e, hi⟩ := h.h6 k
      exact ⟨k4, a1, l1, c1, a2, l2, c2, a3, l3, c3, a4, l4, c4, e, fun k9 => (hi k9).below hb⟩
    h8 := fun k => by
      obtain ⟨ga, e, hl, hz, hn⟩ := h.h8 k
      refine ⟨ga, e, hl, fun k9 => (hb.block _ (lt_of_block (hz k9))).trans (hz k9), fun k9 => ?_⟩
      obtain ⟨a1, l1, c1, a2, l2, c2, a3, l3, c3, a4, l4, c4, hr, hi⟩ := hn k9
      exact ⟨a1, l1, c1, a2, l2, c2, a3, l3, c3, a4, l4, c4, (hb.block _ (lt_of_block hr)).trans hr, hi.below hb⟩ }
def zPl : Pl := ⟨0, 0, [], [], [], []⟩
def zSt : St := ⟨[], [], []⟩
theorem zPl_mem (W : World) : PlM W (.slice none 0 0) (.slice none 0 0) (.slice none 0 0) (.slice none 0 0) zPl := ⟨Sl.nil _ _ _, Sl.nil _ _ _, Sl.nil _ _ _, Sl.nil _ _ _⟩
theorem zSt_mem (W : World) : StM W (.slice none 0 0) (.slice none 0 0) (.slice none 0 0) zSt := ⟨Sl.nil _ _ _, Sl.nil _ _ _, Sl.nil _ _ _⟩
theorem zAr_mem (W : World) : AL W (.slice none 0 0) (.slice none 0 0) (.slice none 0 0) (.slice none 0 0) zAr := ⟨ILv.nil _, ILv.nil _, ILv.nil _, ILv.nil _⟩
theorem zPl_fit : zPl.Fit := ⟨by decide, fun i h => absurd h (by simp [zPl]), by decide, by decide, by decide, fun i h => absurd h (by simp [zPl])⟩
theorem zSt_fit : zSt.fit := ⟨by decide, by decide, by decide⟩
set_option maxRecDepth 100000 in
theorem names_1 : isFree stn stn1 ⟨[99], [2], [1], [1]⟩ = true := by kernel_rfl
theorem sort33 : sortI [3, 3] = [3, 3] := by
  unfold sortI
  first | exact List.mergeSort_of_pairwise (by decide) | exact List.mergeSort_of_sorted (by decide) | simp [List.mergeSort]
set_option maxRecDepth 100000 in
theorem odd33 : ([3, 2, 3] : List Int).filter (oddSec stn stn1) = [3, 3] := by kernel_rfl
theorem names_2 : oddA stn stn1 ⟨[3, 2, 3], [], [], []⟩ = ⟨[3], [], [], []⟩ := by
  unfold oddA
  rw [if_pos stn1_err]
  unfold oddAr
  rw [odd33]
  have h1 : normI [3, 3] = [3] := by unfold normI; rw [sort33]; decide
  have h0 : normI [] = [] := by unfold normI sortI; rw [List.mergeSort_nil]; decide
  rw [h1]
  simp only [List.filter_nil, h0]
set_option maxRecDepth 100000 in
theorem names_3 : ofErr zPl stn1 = 100 := by kernel_rfl
set_option maxRecDepth 100000 in
theorem names_4 : ofErr stn zSt = 8 := by kernel_rfl
theorem names_5 : isFree zPl stn1 zAr = false := by unfold isFree; rw [names_3]; rfl
theorem names_6 : isFree stn zSt zAr = false := by unfold isFree; rw [names_4]; rfl
theorem names_7 : sameA ⟨[3], [], [], []⟩ ⟨[3], [], [], []⟩ = true := by decide
set_option maxRecDepth 100000 in
set_option maxHeartbeats 8000000 in
theorem names_any (w : World) : Calls Tryz.prog 6 #[] w (BoolPost w true) := by
  go_enter Tryz.func6, Tryz.ntmps6
  go_wp2_with fail
  refine (one_any w).mono ?_
  rintro e w1 ⟨hb1, t, s, l, rfl, hown⟩
  obtain ⟨g0, m0, rfl⟩ := own_slice hown.tks
  obtain ⟨g1, m1, rfl⟩ := own_slice hown.sws
  obtain ⟨g2, m2, rfl⟩ := own_slice hown.lks
  have HSM := Lib.hid hown.stM
  have K1 := Lib.hid hb1
  clear hown hb1
  go_upto_region 2 with fail
  generalize hW2 : w1.alloc (.cells #[.slice g0 stn1.tks.length m0, .slice g1 stn1.sws.length m1, .slice g2 stn1.lks.length m2] 33) = W2
  have hb2 : Below w1.heap.size w1 W2 := by rw [← hW2]; exact (Below.refl _ _).alloc (Nat.le_refl _) _
  have HST : Hid (W2.heap[w1.heap.size]? = some (.cells #[.slice g0 stn1.tks.length m0, .slice g1 stn1.sws.length m1, .slice g2 stn1.lks.length m2] 33 (0, 0))) := by show _ = _; rw [← hW2]; exact heap_alloc_new _ _
  have K0 := Lib.hid hb2
  have KZ : Hid (Below w.heap.size w W2) := K1.out.trans (hb2.mono K1.out.size)
  clear hW2 hb2
  refine wp_region_inv' (by kernel_rfl) (by kernel_rfl) (fun f a W9 => ∃ s16 s17 s18 s19 s20 s21 s22 s23 s15 s24 s25 s3 s4 : Value, a = { tmps := #[.bool false, .pointer (some ⟨w1.heap.size, 0, none⟩), .bool true, s3, s4, undef, undef, undef, undef, undef, undef, .tuple #[.agg #[.slice g0 stn1.tks.length m0, .slice g1 stn1.sws.length m1, .slice g2 stn1.lks.length m2], .bool true], .tuple #[.agg #[.slice g0 stn1.tks.length m0, .slice g1 stn1.sws.length m1, .slice g2 stn1.lks.length m2], .bool true], .agg #[.slice g0 stn1.tks.length m0, .slice g1 stn1.sws.length m1, .slice g2 stn1.lks.length m2], .bool true, s15, s16, s17, s18, s19, s20, s21, s22, s23, s24, s25, undef, undef, undef, undef, undef, undef, undef, undef, undef, undef, undef, undef, undef, undef, undef, undef, undef, undef, undef, undef, undef, undef, undef, undef, undef, undef, undef, undef, undef, undef, undef, undef, undef, undef, undef, undef, undef, undef, undef, undef, undef, undef, undef, undef, undef, undef, undef, undef, undef, undef, undef], defers := [] } ∧ RN2 W2 (.agg #[.slice g0 stn1.tks.length m0, .slice g1 stn1.sws.length m1, .slice g2 stn1.lks.length m2]) (f 0) (f 1) (f 2) (f 3) (f 4) (f 5) (f 6) (f 7) (f 8) (f 9) (f 10) (f 11) (f 12) s16 s17 s18 s19 s20 s21 s22 s23 s15 s24 s25 s3 s4 W9) ?_ ?_ ?_
  · exact ⟨_, _, _, _, _, _, _, _, _, _, _, _, _, rfl, { bel := ⟨rfl, rfl, rfl, Nat.le_refl _, fun _ _ => rfl⟩, h0 := by simp, h1 := by simp, h2 := by simp, h3 := by simp, h4 := by simp, h5 := by simp, h6 := by simp, h7 := by simp, h8 := by simp, h9 := by simp, h10 := by simp, h11 := by simp, h12 := by simp }⟩
  · intro i o ho f a W9 hI hd hun
    obtain ⟨s16, s17, s18, s19, s20, s21, s22, s23, s15, s24, s25, s3, s4, rfl, hS⟩ := hI
    have q9 := (hS.bel.block _ (lt_of_block HST.out)).trans HST.out
    rcases i with _ | _ | _ | _ | _ | _ | _ | _ | _ | _ | _ | _ | _ | i
    · simp at ho
      subst ho
      simp [wpOp, go_sem]
      refine .inl ((station_any W9).mono ?_)
      rintro e w' ⟨s', q', gg', rr', rfl, hpm, hb⟩
      obtain ⟨a1, c1, rfl, -⟩ := hpm.secs
      obtain ⟨a2, c2, rfl, -⟩ := hpm.pts
      obtain ⟨a3, c3, rfl, -⟩ := hpm.sigs
      obtain ⟨a4, c4, rfl, -⟩ := hpm.rts
      simp [go_sem]
      exact ⟨_, _, _, _, _, _, _, _, _, _, _, _, _, ⟨rfl, rfl, rfl, rfl, rfl, rfl, rfl, rfl, rfl, rfl, rfl, rfl, rfl⟩, { RN2.below hS hb with h0 := fun _ => ⟨_, _, _, _, _, _, _, _, rfl, hpm⟩ }⟩
    · simp at ho
      subst ho
      have cc0 : W9.cell? ⟨w1.heap.size, 0, none⟩ = some (.slice g0 stn1.tks.length m0) := (cell_of_row W9 _ 0 _ _ _ q9).trans rfl
      have cc1 : W9.cell? ⟨w1.heap.size, 1, none⟩ = some (.slice g1 stn1.sws.length m1) := (cell_of_row W9 _ 1 _ _ _ q9).trans rfl
      have cc2 : W9.cell? ⟨w1.heap.size, 2, none⟩ = some (.slice g2 stn1.lks.length m2) := (cell_of_row W9 _ 2 _ _ _ q9).trans rfl
      simp [wpOp, go_sem, cc0, cc1, cc2]
      exact .inl ⟨_, _, _, _, _, _, _, _, _, _, _, _, _, ⟨rfl, rfl, rfl, rfl, rfl, rfl, rfl, rfl, rfl, rfl, rfl, rfl, rfl⟩, { hS with h1 := fun _ => rfl }⟩
    · simp at ho
      subst ho
      have hb : Below W9.heap.size W9 (W9.alloc (.cells #[.int .i64 99] 3)) := (Below.refl _ _).alloc (Nat.le_refl _) _
      have hil : IL (W9.alloc (.cells #[.int .i64 99] 3)) (some ⟨W9.heap.size, 0, none⟩) ([99] : List Int).length [99] := IL.mk_row (heap_alloc_new _ _) rfl
      simp [wpOp, go_sem]
      exact .inl ⟨_, _, _, _, _, _, _, _, _, _, _, _, _, ⟨rfl, rfl, rfl, rfl, rfl, rfl, rfl, rfl, rfl, rfl, rfl, rfl, rfl⟩, { RN2.below hS hb with h2 := fun _ => ⟨_, rfl, hil⟩ }⟩
    · simp at ho
      subst ho
      have hb : Below W9.heap.size W9 (W9.alloc (.cells #[.int .i64 2] 3)) := (Below.refl _ _).alloc (Nat.le_refl _) _
      have hil : IL (W9.alloc (.cells #[.int .i64 2] 3)) (some ⟨W9.heap.size, 0, none⟩) ([2] : List Int).length [2] := IL.mk_row (heap_alloc_new _ _) rfl
      simp [wpOp, go_sem]
      exact .inl ⟨_, _, _, _, _, _, _, _, _, _, _, _, _, ⟨rfl, rfl, rfl, rfl, rfl, rfl, rfl, rfl, rfl, rfl, rfl, rfl, rfl⟩, { RN2.below hS hb with h3 := fun _ => ⟨_, rfl, hil⟩ }⟩
    · simp at ho
      subst ho
      have hb : Below W9.heap.size W9 (W9.alloc (.cells #[.int .i64 1] 3)) := (Below.refl _ _).alloc (Nat.le_refl _) _
      have hil : IL (W9.alloc (.cells #[.int .i64 1] 3)) (some ⟨W9.heap.size, 0, none⟩) ([1] : List Int).length [1] := IL.mk_row (heap_alloc_new _ _) rfl
      simp [wpOp, go_sem]
      exact .inl ⟨_, _, _, _, _, _, _, _, _, _, _, _, _, ⟨rfl, rfl, rfl, rfl, rfl, rfl, rfl, rfl, rfl, rfl, rfl, rfl, rfl⟩, { RN2.below hS hb with h4 := fun _ => ⟨_, rfl, hil⟩ }⟩
    · simp at ho
      subst ho
      have hb : Below W9.heap.size W9 (W9.alloc (.cells #[.int .i64 1] 3)) := (Below.refl _ _).alloc (Nat.le_refl _) _
      have hil : IL (W9.alloc (.cells #[.int .i64 1] 3)) (some ⟨W9.heap.size, 0, none⟩) ([1] : List Int).length [1] := IL.mk_row (heap_alloc_new _ _) rfl
      simp [wpOp, go_sem]
      exact .inl ⟨_, _, _, _, _, _, _, _, _, _, _, _, _, ⟨rfl, rfl, rfl, rfl, rfl, rfl, rfl, rfl, rfl, rfl, rfl, rfl, rfl⟩, { RN2.below hS hb with h5 := fun _ => ⟨_, rfl, hil⟩ }⟩
    · simp at ho
      subst ho
      obtain ⟨b0, rfl, i0⟩ := hS.h2 (hd ⟨2, .data⟩ (by simp) (by rfl))
      obtain ⟨b1, rfl, i1⟩ := hS.h3 (hd ⟨3, .data⟩ (by simp) (by rfl))
      obtain ⟨b2, rfl, i2⟩ := hS.h4 (hd ⟨4, .data⟩ (by simp) (by rfl))
      obtain ⟨b3, rfl, i3⟩ := hS.h5 (hd ⟨5, .data⟩ (by simp) (by rfl))
      simp [wpOp, go_sem]
      exact .inl ⟨_, _, _, _, _, _, _, _, _, _, _, _, _, ⟨rfl, rfl, rfl, rfl, rfl, rfl, rfl, rfl, rfl, rfl, rfl, rfl, rfl⟩, { hS with h6 := fun _ => ⟨_, _, _, _, rfl, i0, i1, i2, i3⟩ }⟩
    · simp at ho
      subst ho
      obtain ⟨a1, c1, a2, c2, a3, c3, a4, c4, rfl, hpm⟩ := hS.h0 (hd ⟨0, .data⟩ (by simp) (by rfl))
      obtain rfl := hS.h1 (hd ⟨1, .data⟩ (by simp) (by rfl))
      obtain ⟨b0, b1, b2, b3, rfl, i0, i1, i2, i3⟩ := hS.h6 (hd ⟨6, .data⟩ (by simp) (by rfl))
      have hc := is_any stn stn1 ⟨[99], [2], [1], [1]⟩ _ _ _ _ _ _ _ _ _ _ _ W9 hpm stn_fit ((HSM.out.below K0.out).below (hS.bel.mono (Nat.le_refl _))) stn1_fit ⟨(⟨_, _, _, rfl, i0⟩ : ILv W9 (.slice (some ⟨b0, 0, none⟩) 1 1) [99]), (⟨_, _, _, rfl, i1⟩ : ILv W9 (.slice (some ⟨b1, 0, none⟩) 1 1) [2]), (⟨_, _, _, rfl, i2⟩ : ILv W9 (.slice (some ⟨b2, 0, none⟩) 1 1) [1]), (⟨_, _, _, rfl, i3⟩ : ILv W9 (.slice (some ⟨b3, 0, none⟩) 1 1) [1])⟩ (by decide)
      rw [stn1_err, names_1] at hc
      simp [wpOp, go_sem]
      refine .inl (hc.mono ?_)
      rintro e w' ⟨rfl, hb⟩
      simp [go_sem]
      exact ⟨_, _, _, _, _, _, _, _, _, _, _, _, _, ⟨rfl, rfl, rfl, rfl, rfl, rfl, rfl, rfl, rfl, rfl, rfl, rfl, rfl⟩, { RN2.below hS hb with h7 := fun _ => rfl }⟩
    · simp at ho
      subst ho
      obtain rfl := hS.h7 (hd ⟨7, .data⟩ (by simp) (by rfl))
      simp [wpOp, go_sem]
      exact .inl ⟨_, _, _, _, _, _, _, _, _, _, _, _, _, ⟨rfl, rfl, rfl, rfl, rfl, rfl, rfl, rfl, rfl, rfl, rfl, rfl, rfl⟩, { hS with h8 := fun _ => rfl }⟩
    · simp at ho
      subst ho
      obtain rfl := hS.h8 (hd ⟨8, .data⟩ (by simp) (by rfl))
      simp [wpOp, go_sem]
      exact .inl ⟨_, _, _, _, _, _, _, _, _, _, _, _, _, ⟨rfl, rfl, rfl, rfl, rfl, rfl, rfl, rfl, rfl, rfl, rfl, rfl, rfl⟩, { hS with h9 := fun _ => rfl }⟩
    · simp at ho
      subst ho
      obtain rfl := hS.h8 (hd ⟨8, .data⟩ (by simp) (by rfl))
      simp [wpOp, go_sem]
      exact .inl ⟨_, _, _, _, _, _, _, _, _, _, _, _, _, ⟨rfl, rfl, rfl, rfl, rfl, rfl, rfl, rfl, rfl, rfl, rfl, rfl, rfl⟩, { hS with h10 := fun _ => rfl }⟩
    · simp at ho
      subst ho
      obtain rfl := hS.h9 (hd ⟨9, .data⟩ (by simp) (by rfl))
      simp [wpOp, go_sem]
      exact .inl ⟨_, _, _, _, _, _, _, _, _, _, _, _, _, ⟨rfl, rfl, rfl, rfl, rfl, rfl, rfl, rfl, rfl, rfl, rfl, rfl, rfl⟩, { hS with h11 := fun _ => rfl }⟩
    · simp at ho
      subst ho
      obtain rfl := hS.h10 (hd ⟨10, .data⟩ (by simp) (by rfl))
      simp [wpOp, go_sem]
      exact .inl ⟨_, _, _, _, _, _, _, _, _, _, _, _, _, ⟨rfl, rfl, rfl, rfl, rfl, rfl, rfl, rfl, rfl, rfl, rfl, rfl, rfl⟩, { hS with h12 := fun _ => rfl }⟩
    · simp at ho
  · intro f a W9 hI hall
    obtain ⟨s16, s17, s18, s19, s20, s21, s22, s23, s15, s24, s25, s3, s4, rfl, hS⟩ := hI
    obtain rfl := hS.h11 (hall 11 (by decide))
    obtain rfl := hS.h12 (hall 12 (by decide))
    have hb3 := hS.bel
    obtain ⟨W3, rfl⟩ : ∃ W3 : World, W3 = W9 := ⟨_, rfl⟩
    have K3 : Hid (Below w.heap.size w W3) := KZ.out.trans (hb3.mono KZ.out.size)
    have HST3 := Lib.hid ((hb3.block _ (lt_of_block HST.out)).trans HST.out)
    have KB := Lib.hid (K0.out.trans (hb3.mono K0.out.size))
    clear hS hall hb3
    go_upto_region 3 with fail
    refine wp_region_inv' (by kernel_rfl) (by kernel_rfl) (fun f a W9 => ∃ s27 s28 s29 s30 s31 s26 s32 s33 s5 s6 : Value, a = { tmps := #[.bool false, .pointer (some ⟨w1.heap.size, 0, none⟩), .bool true, .bool true, .int .i64 0, s5, s6, undef, undef, undef, undef, .tuple #[.agg #[.slice g0 stn1.tks.length m0, .slice g1 stn1.sws.length m1, .slice g2 stn1.lks.length m2], .bool true], .tuple #[.agg #[.slice g0 stn1.tks.length m0, .slice g1 stn1.sws.length m1, .slice g2 stn1.lks.length m2], .bool true], .agg #[.slice g0 stn1.tks.length m0, .slice g1 stn1.sws.length m1, .slice g2 stn1.lks.length m2], .bool true, s15, s16, s17, s18, s19, s20, s21, s22, s23, s24, s25, s26, s27, s28, s29, s30, s31, s32, s33, undef, undef, undef, undef, undef, undef, undef, undef, undef, undef, undef, undef, undef, undef, undef, undef, undef, undef, undef, undef, undef, undef, undef, undef, undef, undef, undef, undef, undef, undef, undef, undef, undef, undef, undef, undef, undef, undef, undef, undef, undef, undef, undef], defers := [] } ∧ RN3 W3 (.agg #[.slice g0 stn1.tks.length m0, .slice g1 stn1.sws.length m1, .slice g2 stn1.lks.length m2]) (f 0) (f 1) (f 2) (f 3) (f 4) (f 5) (f 6) (f 7) (f 8) (f 9) (f 10) s27 s28 s29 s30 s31 s26 s32 s33 s5 (.bool true) s6 W9) ?_ ?_ ?_
    · exact ⟨_, _, _, _, _, _, _, _, _, _, rfl, { bel := ⟨rfl, rfl, rfl, Nat.le_refl _, fun _ _ => rfl⟩, h0 := by simp, h1 := by simp, h2 := by simp, h3 := by simp, h4 := by simp, h5 := by simp, h6 := by simp, h7 := by simp, h8 := by simp, h9 := by simp, h10 := by simp }⟩
    · intro i o ho f a W9 hI hd hun
      obtain ⟨s27, s28, s29, s30, s31, s26, s32, s33, s5, s6, rfl, hS⟩ := hI
      have q9 := (hS.bel.block _ (lt_of_block HST3.out)).trans HST3.out
      rcases i with _ | _ | _ | _ | _ | _ | _ | _ | _ | _ | _ | i
      · simp at ho
        subst ho
        simp [wpOp, go_sem]
        refine .inl ((station_any W9).mono ?_)
        rintro e w' ⟨s', q', gg', rr', rfl, hpm, hb⟩
        obtain ⟨a1, c1, rfl, -⟩ := hpm.secs
        obtain ⟨a2, c2, rfl, -⟩ := hpm.pts
        obtain ⟨a3, c3, rfl, -⟩ := hpm.sigs
        obtain ⟨a4, c4, rfl, -⟩ := hpm.rts
        simp [go_sem]
        exact ⟨_, _, _, _, _, _, _, _, _, _, ⟨rfl, rfl, rfl, rfl, rfl, rfl, rfl, rfl, rfl, rfl⟩, { RN3.below hS hb with h0 := fun _ _ => ⟨_, _, _, _, _, _, _, _, rfl, hpm⟩ }⟩
      · simp at ho
        subst ho
        have cc0 : W9.cell? ⟨w1.heap.size, 0, none⟩ = some (.slice g0 stn1.tks.length m0) := (cell_of_row W9 _ 0 _ _ _ q9).trans rfl
        have cc1 : W9.cell? ⟨w1.heap.size, 1, none⟩ = some (.slice g1 stn1.sws.length m1) := (cell_of_row W9 _ 1 _ _ _ q9).trans rfl
        have cc2 : W9.cell? ⟨w1.heap.size, 2, none⟩ = some (.slice g2 stn1.lks.length m2) := (cell_of_row W9 _ 2 _ _ _ q9).trans rfl
        simp [wpOp, go_sem, cc0, cc1, cc2]
        exact .inl ⟨_, _, _, _, _, _, _, _, _, _, ⟨rfl, rfl, rfl, rfl, rfl, rfl, rfl, rfl, rfl, rfl⟩, { hS with h1 := fun _ => rfl }⟩
      · simp at ho
        subst ho
        have hb : Below W9.heap.size W9 (W9.alloc (.cells #[.int .i64 3, .int .i64 2, .int .i64 3] 3)) := (Below.refl _ _).alloc (Nat.le_refl _) _
        have hil : IL (W9.alloc (.cells #[.int .i64 3, .int .i64 2, .int .i64 3] 3)) (some ⟨W9.heap.size, 0, none⟩) ([3, 2, 3] : List Int).length [3, 2, 3] := IL.mk_row (heap_alloc_new _ _) rfl
        simp [wpOp, go_sem]
        exact .inl ⟨_, _, _, _, _, _, _, _, _, _, ⟨rfl, rfl, rfl, rfl, rfl, rfl, rfl, rfl, rfl, rfl⟩, { RN3.below hS hb with h2 := fun _ _ => ⟨_, rfl, hil⟩ }⟩
      · simp at ho
        subst ho
        have f4 : f 4 = false := by
          cases h : f 4 with
          | false => rfl
          | true => have := (hS.h4 h).1; rw [hun] at this; cases this
        obtain ⟨b, rfl, hil⟩ := hS.h2 f4 (hd ⟨2, .data⟩ (by simp) (by rfl))
        simp [wpOp, go_sem]
        exact .inl ⟨_, _, _, _, _, _, _, _, _, _, ⟨rfl, rfl, rfl, rfl, rfl, rfl, rfl, rfl, rfl, rfl⟩, { hS with h3 := (fun _ _ => ⟨_, rfl, hil⟩), h4 := fun h => by have h : f 4 = true := h; rw [f4] at h; cases h }⟩
      · simp at ho
        subst ho
        have f9 : f 9 = false := by
          cases h : f 9 with
          | false => rfl
          | true => have := (hS.h9 h).1; rw [hun] at this; cases this
        obtain ⟨a1, c1, a2, c2, a3, c3, a4, c4, rfl, hpm⟩ := hS.h0 hun (hd ⟨0, .data⟩ (by simp) (by rfl))
        obtain rfl := hS.h1 (hd ⟨1, .data⟩ (by simp) (by rfl))
        obtain ⟨b, rfl, hil⟩ := hS.h3 hun (hd ⟨3, .data⟩ (by simp) (by rfl))
        have k3 : f 3 = true := hd ⟨3, .data⟩ (by simp) (by rfl)
        have hc := odd_any stn stn1 ⟨[3, 2, 3], [], [], []⟩ _ _ _ _ _ _ _ _ _ _ _ W9 hpm stn_fit ((HSM.out.below KB.out).below (hS.bel.mono (Nat.le_refl _))) stn1_fit ⟨(⟨_, _, _, rfl, hil⟩ : ILv W9 (.slice (some ⟨b, 0, none⟩) 3 3) [3, 2, 3]), ILv.nil _, ILv.nil _, ILv.nil _⟩ (by decide)
        rw [stn1_err, names_2] at hc
        simp [wpOp, go_sem]
        refine .inl (hc.mono ?_)
        rintro e w' ⟨v1, v2, v3, v4, rfl, hal, hb⟩
        obtain ⟨d1, n1, r1, rfl, j1⟩ := hal.s
        obtain ⟨d2, n2, r2, rfl, j2⟩ := hal.p
        obtain ⟨d3, n3, r3, rfl, j3⟩ := hal.g
        obtain ⟨d4, n4, r4, rfl, j4⟩ := hal.r
        simp [go_sem]
        exact ⟨_, _, _, _, _, _, _, _, _, _, ⟨rfl, rfl, rfl, rfl, rfl, rfl, rfl, rfl, rfl, rfl⟩, { RN3.below hS hb with h0 := (fun h => by cases h), h2 := (fun h => by cases h), h3 := (fun h => by cases h), h4 := (fun _ => ⟨k3, _, _, _, _, _, _, _, _, _, _, _, _, rfl, fun _ => hal⟩), h5 := (fun k => ⟨rfl, ((RN3.below hS hb).h5 k).2⟩), h6 := (fun k => ⟨rfl, ((RN3.below hS hb).h6 k).2⟩), h9 := fun h => by have h : f 9 = true := h; rw [f9] at h; cases h }⟩
      · simp at ho
        subst ho
        obtain ⟨-, a1, l1, c1, a2, l2, c2, a3, l3, c3, a4, l4, c4, rfl, hal⟩ := hS.h4 (hd ⟨4, .data⟩ (by simp) (by rfl))
        have k4 : f 4 = true := hd ⟨4, .data⟩ (by simp) (by rfl)
        simp [wpOp, go_sem]
        exact .inl ⟨_, _, _, _, _, _, _, _, _, _, ⟨rfl, rfl, rfl, rfl, rfl, rfl, rfl, rfl, rfl, rfl⟩, { hS with h5 := fun _ => ⟨k4, _, _, _, _, _, _, _, _, _, _, _, _, rfl, hal⟩ }⟩
      · simp at ho
        subst ho
        obtain ⟨k4, a1, l1, c1, a2, l2, c2, a3, l3, c3, a4, l4, c4, rfl, hal⟩ := hS.h5 (hd ⟨5, .data⟩ (by simp) (by rfl))
        simp [wpOp, go_sem]
        exact .inl ⟨_, _, _, _, _, _, _, _, _, _, ⟨rfl, rfl, rfl, rfl, rfl, rfl, rfl, rfl, rfl, rfl⟩, { hS with h6 := fun _ => ⟨k4, _, _, _, _, _, _, _, _, _, _, _, _, rfl, hal⟩ }⟩
      · simp at ho
        subst ho
        obtain ⟨-, a1, l1, c1, a2, l2, c2, a3, l3, c3, a4, l4, c4, rfl, hal⟩ := hS.h5 (hd ⟨5, .data⟩ (by simp) (by rfl))
        simp [wpOp, go_sem]
        exact .inl ⟨_, _, _, _, _, _, _, _, _, _, ⟨rfl, rfl, rfl, rfl, rfl, rfl, rfl, rfl, rfl, rfl⟩, { hS with h7 := fun _ => rfl }⟩
      · simp at ho
        subst ho
        have f9 : f 9 = false := by
          cases h : f 9 with
          | false => rfl
          | true => have := (hS.h9 h).2; rw [hun] at this; cases this
        have hb : Below W9.heap.size W9 (W9.alloc (.cells #[.slice none 0 0, .slice none 0 0, .slice none 0 0, .slice none 0 0] 56)) := (Below.refl _ _).alloc (Nat.le_refl _) _
        have hl := hS.bel.size
        simp [wpOp, go_sem]
        exact .inl ⟨_, _, _, _, _, _, _, _, _, _, ⟨rfl, rfl, rfl, rfl, rfl, rfl, rfl, rfl, rfl, rfl⟩, { RN3.below hS hb with h8 := fun _ => ⟨_, rfl, hl, fun _ => heap_alloc_new _ _, fun h => by have h : f 9 = true := h; rw [f9] at h; cases h⟩, h9 := fun h => by have h : f 9 = true := h; rw [f9] at h; cases h }⟩
      · simp at ho
        subst ho
        obtain ⟨k4, a1, l1, c1, a2, l2, c2, a3, l3, c3, a4, l4, c4, rfl, hal⟩ := hS.h6 (hd ⟨6, .data⟩ (by simp) (by rfl))
        obtain ⟨ga, rfl, hl, hz, -⟩ := hS.h8 (hd ⟨8, .data⟩ (by simp) (by rfl))
        have hal := hal hun
        have hz := hz hun
        have ff : ∀ o, W9.frozen? ⟨ga, o, none⟩ = false := fun o => by simp [World.frozen?, hz]
        have cc0 : W9.cell? ⟨ga, 0, none⟩ = some (.slice none 0 0) := (cell_of_row W9 _ 0 _ _ _ hz).trans rfl
        have cc1 : W9.cell? ⟨ga, 1, none⟩ = some (.slice none 0 0) := (cell_of_row W9 _ 1 _ _ _ hz).trans rfl
        have cc2 : W9.cell? ⟨ga, 2, none⟩ = some (.slice none 0 0) := (cell_of_row W9 _ 2 _ _ _ hz).trans rfl
        have cc3 : W9.cell? ⟨ga, 3, none⟩ = some (.slice none 0 0) := (cell_of_row W9 _ 3 _ _ _ hz).trans rfl
        have lr := lt_of_block hz
        have k8 : f 8 = true := hd ⟨8, .data⟩ (by simp) (by rfl)
        simp [wpOp, go_sem, ff, cc0, cc1, cc2, cc3, lr]
        exact .inl ⟨_, _, _, _, _, _, _, _, _, _, ⟨rfl, rfl, rfl, rfl, rfl, rfl, rfl, rfl, rfl, rfl⟩, { hS with bel := (((hS.bel.setCell hl _).setCell hl _).setCell hl _).setCell hl _, h0 := (fun h => by have h : f 4 = false := h; rw [k4] at h; cases h), h2 := (fun h => by have h : f 4 = false := h; rw [k4] at h; cases h), h3 := (fun h => by have h : f 4 = false := h; rw [k4] at h; cases h), h4 := (fun k => by obtain ⟨k3, a1, l1, c1, a2, l2, c2, a3, l3, c3, a4, l4, c4, e, _⟩ := hS.h4 k; exact ⟨k3, a1, l1, c1, a2, l2, c2, a3, l3, c3, a4, l4, c4, e, fun h => by cases h⟩), h5 := (fun k => by obtain ⟨_, a1, l1, c1, a2, l2, c2, a3, l3, c3, a4, l4, c4, e, _⟩ := hS.h5 k; exact ⟨k4, a1, l1, c1, a2, l2, c2, a3, l3, c3, a4, l4, c4, e, fun h => by cases h⟩), h6 := (fun k => ⟨k4, a1, l1, c1, a2, l2, c2, a3, l3, c3, a4, l4, c4, rfl, fun h => by cases h⟩), h8 := (fun _ => ⟨ga, rfl, hl, (fun h => by cases h), fun _ => ⟨a1, l1, c1, a2, l2, c2, a3, l3, c3, a4, l4, c4, by simp [World.setCell, Array.getElem?_modify, hz], hal.off hz (fun k hk => by simp [World.setCell, Array.getElem?_modify, Ne.symm hk])⟩⟩), h9 := fun _ => ⟨k4, k8⟩ }⟩
      · simp at ho
        subst ho
        obtain rfl := hS.h7 (hd ⟨7, .data⟩ (by simp) (by rfl))
        simp [wpOp, go_sem]
        exact .inl ⟨_, _, _, _, _, _, _, _, _, _, ⟨rfl, rfl, rfl, rfl, rfl, rfl, rfl, rfl, rfl, rfl⟩, { hS with h10 := fun _ => rfl }⟩
      · simp at ho
    · intro f a W9 hI hall
      obtain ⟨s27, s28, s29, s30, s31, s26, s32, s33, s5, s6, rfl, hS⟩ := hI
      obtain ⟨ga, rfl, hl, -, hn⟩ := hS.h8 (hall 8 (by decide))
      obtain ⟨a1, l1, c1, a2, l2, c2, a3, l3, c3, a4, l4, c4, hr, hal⟩ := hn (hall 9 (by decide))
      obtain rfl := hS.h10 (hall 10 (by decide))
      obtain ⟨W4, rfl⟩ : ∃ W4 : World, W4 = W9 := ⟨_, rfl⟩
      have K4 : Hid (Below w.heap.size w W4) := K3.out.trans (hS.bel.mono K3.out.size)
      have HST4 := Lib.hid ((hS.bel.block _ (lt_of_block HST3.out)).trans HST3.out)
      have HGA := Lib.hid hr
      have HAL := Lib.hid hal
      have hc1 := is_any zPl stn1 zAr _ _ _ _ _ _ _ _ _ _ _ W4 (zPl_mem W4) zPl_fit ((HSM.out.below KB.out).below (hS.bel.mono (Nat.le_refl _))) stn1_fit (zAr_mem W4) (by decide)
      rw [names_3, names_5] at hc1
      have HC1 := Lib.hid hc1
      have cc0 : W4.cell? ⟨w1.heap.size, 0, none⟩ = some (.slice g0 stn1.tks.length m0) := (cell_of_row W4 _ 0 _ _ _ HST4.out).trans rfl
      have cc1 : W4.cell? ⟨w1.heap.size, 1, none⟩ = some (.slice g1 stn1.sws.length m1) := (cell_of_row W4 _ 1 _ _ _ HST4.out).trans rfl
      have cc2 : W4.cell? ⟨w1.heap.size, 2, none⟩ = some (.slice g2 stn1.lks.length m2) := (cell_of_row W4 _ 2 _ _ _ HST4.out).trans rfl
      clear hS hall hr hal hc1 hn hl
      go_wp2_with fail
      refine HC1.out.mono ?_
      rintro e w5 ⟨rfl, hb5⟩
      have K5 : Hid (Below w.heap.size w w5) := K4.out.trans (hb5.mono K4.out.size)
      have HGA5 := Lib.hid ((hb5.block _ (lt_of_block HGA.out)).trans HGA.out)
      have HAL5 := Lib.hid (HAL.out.below hb5)
      clear hb5 cc0 cc1 cc2 HC1
      go_wp2_with fail
      refine (station_any w5).mono ?_
      rintro e w6 ⟨s', q', gg', rr', rfl, hpm, hb6⟩
      have hc2 := is_any stn zSt zAr _ _ _ _ _ _ _ _ _ _ _ w6 hpm stn_fit (zSt_mem w6) zSt_fit (zAr_mem w6) (by decide)
      rw [names_4, names_6] at hc2
      have HC2 := Lib.hid hc2
      have K6 : Hid (Below w.heap.size w w6) := K5.out.trans (hb6.mono K5.out.size)
      have HGA6 := Lib.hid ((hb6.block _ (lt_of_block HGA5.out)).trans HGA5.out)
      have HAL6 := Lib.hid (HAL5.out.below hb6)
      obtain ⟨a1', c1', rfl, -⟩ := hpm.secs
      obtain ⟨a2', c2', rfl, -⟩ := hpm.pts
      obtain ⟨a3', c3', rfl, -⟩ := hpm.sigs
      obtain ⟨a4', c4', rfl, -⟩ := hpm.rts
      clear hb6 hpm hc2
      go_wp2_with fail
      refine HC2.out.mono ?_
      rintro e w7 ⟨rfl, hb7⟩
      have K7 : Hid (Below w.heap.size w w7) := K6.out.trans (hb7.mono K6.out.size)
      have HGA7 := Lib.hid ((hb7.block _ (lt_of_block HGA6.out)).trans HGA6.out)
      have HAL7 := Lib.hid (HAL6.out.below hb7)
      clear hb7 HC2
      go_wp2_with fail
      refine (alive_any w7).mono ?_
      rintro e w8 ⟨rfl, hb8⟩
      have K8 : Hid (Below w.heap.size w w8) := K7.out.trans (hb8.mono K7.out.size)
      have hga8 := (hb8.block _ (lt_of_block HGA7.out)).trans HGA7.out
      have HAL8 := Lib.hid (HAL7.out.below hb8)
      have cc0 : w8.cell? ⟨ga, 0, none⟩ = some (.slice a1 l1 c1) := (cell_of_row w8 _ 0 _ _ _ hga8).trans rfl
      have cc1 : w8.cell? ⟨ga, 1, none⟩ = some (.slice a2 l2 c2) := (cell_of_row w8 _ 1 _ _ _ hga8).trans rfl
      have cc2 : w8.cell? ⟨ga, 2, none⟩ = some (.slice a3 l3 c3) := (cell_of_row w8 _ 2 _ _ _ hga8).trans rfl
      have cc3 : w8.cell? ⟨ga, 3, none⟩ = some (.slice a4 l4 c4) := (cell_of_row w8 _ 3 _ _ _ hga8).trans rfl
      have hb9 : Below w8.heap.size w8 (w8.alloc (.cells #[.int .i64 3] 3)) := (Below.refl _ _).alloc (Nat.le_refl _) _
      have hil : IL (w8.alloc (.cells #[.int .i64 3] 3)) (some ⟨w8.heap.size, 0, none⟩) ([3] : List Int).length [3] := IL.mk_row (heap_alloc_new _ _) rfl
      have hsa := same_any (.slice a1 l1 c1) (.slice a2 l2 c2) (.slice a3 l3 c3) (.slice a4 l4 c4) (.slice (some ⟨w8.heap.size, 0, none⟩) 1 1) (.slice none 0 0) (.slice none 0 0) (.slice none 0 0) ⟨[3], [], [], []⟩ ⟨[3], [], [], []⟩ (w8.alloc (.cells #[.int .i64 3] 3)) (HAL8.out.below hb9) ⟨⟨_, _, _, rfl, hil⟩, ILv.nil _, ILv.nil _, ILv.nil _⟩ (by decide) (by decide)
      rw [names_7] at hsa
      have HSA := Lib.hid hsa
      have K9 : Hid (Below w.heap.size w (w8.alloc (.cells #[.int .i64 3] 3))) := K8.out.trans (hb9.mono K8.out.size)
      clear hb8 hga8 hb9 hil hsa
      go_wp2_with fail
      refine HSA.out.mono ?_
      rintro e w9 ⟨rfl, hb9⟩
      have KX : Hid (Below w.heap.size w w9) := K9.out.trans (hb9.mono K9.out.size)
      clear hb9 HSA
      go_wp2_with fail
      go_ret
      exact ⟨rfl, KX.out⟩
end Go.Proofs.YtbiehpjhhopjaaaGreat
