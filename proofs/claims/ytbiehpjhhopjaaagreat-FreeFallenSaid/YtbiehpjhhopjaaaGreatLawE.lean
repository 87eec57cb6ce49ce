/-
  law 25's alive, walked.
-/
import Derived.Test.YtbiehpjhhopjaaaGreatLawC
import Derived.Test.YtbiehpjhhopjaaaGreatAreaWalk
set_option linter.unusedVariables false
set_option linter.unusedSimpArgs false
namespace Go.Proofs.YtbiehpjhhopjaaaGreat
open Go.RowKit
theorem stn1_fit : stn1.fit := ⟨by decide, by decide, by decide⟩
/-- where a region that asks Is stands -/
structure R43 (w0 : World) (SV : Value) (L : List Int) (B : Bool) (n : Int) (f0 f1 f2 f3 f4 f5 f6 f7 f8 f9 : Bool) (s0 s1 s2 s3 s4 s5 s6 s7 s8 s9 : Value) (W : World) : Prop where
  bel : Below w0.heap.size w0 W
  h0 : f0 = true → ∃ a1 c1 a2 c2 a3 c3 a4 c4, s0 = plV stn (.slice a1 stn.secs.length c1) (.slice a2 stn.pts.length c2) (.slice a3 stn.sigs.length c3) (.slice a4 stn.rts.length c4) ∧ PlM W (.slice a1 stn.secs.length c1) (.slice a2 stn.pts.length c2) (.slice a3 stn.sigs.length c3) (.slice a4 stn.rts.length c4) stn
  h1 : f1 = true → s1 = SV
  h2 : f2 = true → ∃ b, s2 = .slice (some ⟨b, 0, none⟩) L.length L.length ∧ IL W (some ⟨b, 0, none⟩) L.length L
  h3 : f3 = true → ∃ b, s3 = .agg #[.slice (some ⟨b, 0, none⟩) L.length L.length, .slice none 0 0, .slice none 0 0, .slice none 0 0] ∧ IL W (some ⟨b, 0, none⟩) L.length L
  h4 : f4 = true → s4 = .tuple #[.bool B, .int .i64 n]
  h5 : f5 = true → s5 = .tuple #[.bool B, .int .i64 n]
  h6 : f6 = true → s6 = .bool B
  h7 : f7 = true → s7 = .int .i64 n
  h8 : f8 = true → s8 = .bool B
  h9 : f9 = true → s9 = .int .i64 n
theorem R43.below {w0 : World} {SV : Value} {L : List Int} {B : Bool} {n : Int} {f0 f1 f2 f3 f4 f5 f6 f7 f8 f9 : Bool} {s0 s1 s2 s3 s4 s5 s6 s7 s8 s9 : Value} {W W' : World} (h : R43 w0 SV L B n f0 f1 f2 f3 f4 f5 f6 f7 f8 f9 s0 s1 s2 s3 s4 s5 s6 s7 s8 s9 W) (hb : Below W.heap.size W W') : R43 w0 SV L B n f0 f1 f2 f3 f4 f5 f6 f7 f8 f9 s0 s1 s2 s3 s4 s5 s6 s7 s8 s9 W' :=
  { h with
    bel := h.bel.trans (hb.mono h.bel.size)
    h0 := fun k => by
      obtain ⟨a1, c1, a2, c2, a3, c3, a4, c4, e, hp⟩ := h.h0 k
      exact ⟨a1, c1, a2, c2, a3, c3, a4, c4, e, hp.below hb⟩
    h2 := fun k => by
      obtain ⟨b, e, hi⟩ := h.h2 k
      exact ⟨b, e, hi.below hb⟩
    h3 := fun k => by
      obtain ⟨b, e, hi⟩ := h.h3 k
      exact ⟨b, e, hi.below hb⟩ }
set_option maxRecDepth 100000 in
set_option maxHeartbeats 8000000 in
theorem alive_any (w : World) : Calls Tryz.prog 43 #[] w (BoolPost w true) := by
  go_enter Tryz.func43, Tryz.ntmps43
  go_wp2_with fail
  refine (one_any w).mono ?_
  rintro e w1 ⟨hb1, t, s, l, rfl, hown⟩
  obtain ⟨g0, m0, rfl⟩ := own_slice hown.tks
  obtain ⟨g1, m1, rfl⟩ := own_slice hown.sws
  obtain ⟨g2, m2, rfl⟩ := own_slice hown.lks
  have HSM := Lib.hid hown.stM
  have K1 := Lib.hid hb1
  clear hown hb1
  go_upto_region 2 with fail
  generalize hW2 : w1.alloc (.cells #[.slice g0 stn1.tks.length m0, .slice g1 stn1.sws.length m1, .slice g2 stn1.lks.length m2] 33) = W2
  have hb2 : Below w1.heap.size w1 W2 := by rw [← hW2]; exact (Below.refl _ _).alloc (Nat.le_refl _) _
  have HST : Hid (W2.heap[w1.heap.size]? = some (.cells #[.slice g0 stn1.tks.length m0, .slice g1 stn1.sws.length m1, .slice g2 stn1.lks.length m2] 33 (0, 0))) := by show _ = _; rw [← hW2]; exact heap_alloc_new _ _
  have K0 := Lib.hid hb2
  have KZ : Hid (Below w.heap.size w W2) := K1.out.trans (hb2.mono K1.out.size)
  clear hW2 hb2
  refine wp_region_inv' (by kernel_rfl) (by kernel_rfl) (fun f a W9 => ∃ s12 s13 s14 s15 s16 s11 s17 s18 s3 s4 : Value, a = { tmps := #[.bool false, .pointer (some ⟨w1.heap.size, 0, none⟩), .bool true, s3, s4, undef, undef, .tuple #[.agg #[.slice g0 stn1.tks.length m0, .slice g1 stn1.sws.length m1, .slice g2 stn1.lks.length m2], .bool true], .tuple #[.agg #[.slice g0 stn1.tks.length m0, .slice g1 stn1.sws.length m1, .slice g2 stn1.lks.length m2], .bool true], .agg #[.slice g0 stn1.tks.length m0, .slice g1 stn1.sws.length m1, .slice g2 stn1.lks.length m2], .bool true, s11, s12, s13, s14, s15, s16, s17, s18, undef, undef, undef, undef, undef, undef, undef, undef, undef, undef, undef, undef, undef, undef, undef, undef, undef, undef, undef, undef, undef, undef, undef, undef], defers := [] } ∧ R43 W2 (.agg #[.slice g0 stn1.tks.length m0, .slice g1 stn1.sws.length m1, .slice g2 stn1.lks.length m2]) [2] true 0 (f 0) (f 1) (f 2) (f 3) (f 4) (f 5) (f 6) (f 7) (f 8) (f 9) s12 s13 s14 s15 s16 s11 s17 s18 s3 s4 W9) ?_ ?_ ?_
  · exact ⟨_, _, _, _, _, _, _, _, _, _, rfl, { bel := ⟨rfl, rfl, rfl, Nat.le_refl _, fun _ _ => rfl⟩, h0 := by simp, h1 := by simp, h2 := by simp, h3 := by simp, h4 := by simp, h5 := by simp, h6 := by simp, h7 := by simp, h8 := by simp, h9 := by simp }⟩
  · intro i o ho f a W9 hI hd hun
    obtain ⟨s12, s13, s14, s15, s16, s11, s17, s18, s3, s4, rfl, hS⟩ := hI
    have q9 := (hS.bel.block _ (lt_of_block HST.out)).trans HST.out
    have KW : Below w.heap.size w W9 := KZ.out.trans (hS.bel.mono KZ.out.size)
    rcases i with _ | _ | _ | _ | _ | _ | _ | _ | _ | _ | i
    · simp at ho
      subst ho
      simp [wpOp, go_sem]
      refine .inl ((station_any W9).mono ?_)
      rintro e w' ⟨s', q', gg', rr', rfl, hpm, hb⟩
      obtain ⟨a1, c1, rfl, -⟩ := hpm.secs
      obtain ⟨a2, c2, rfl, -⟩ := hpm.pts
      obtain ⟨a3, c3, rfl, -⟩ := hpm.sigs
      obtain ⟨a4, c4, rfl, -⟩ := hpm.rts
      simp [go_sem]
      exact ⟨_, _, _, _, _, _, _, _, _, _, ⟨rfl, rfl, rfl, rfl, rfl, rfl, rfl, rfl, rfl, rfl⟩, { R43.below hS hb with h0 := fun _ => ⟨_, _, _, _, _, _, _, _, rfl, hpm⟩ }⟩
    · simp at ho
      subst ho
      have cc0 : W9.cell? ⟨w1.heap.size, 0, none⟩ = some (.slice g0 stn1.tks.length m0) := (cell_of_row W9 _ 0 _ _ _ q9).trans rfl
      have cc1 : W9.cell? ⟨w1.heap.size, 1, none⟩ = some (.slice g1 stn1.sws.length m1) := (cell_of_row W9 _ 1 _ _ _ q9).trans rfl
      have cc2 : W9.cell? ⟨w1.heap.size, 2, none⟩ = some (.slice g2 stn1.lks.length m2) := (cell_of_row W9 _ 2 _ _ _ q9).trans rfl
      simp [wpOp, go_sem, cc0, cc1, cc2]
      exact .inl ⟨_, _, _, _, _, _, _, _, _, _, ⟨rfl, rfl, rfl, rfl, rfl, rfl, rfl, rfl, rfl, rfl⟩, { hS with h1 := fun _ => rfl }⟩
    · simp at ho
      subst ho
      have hb : Below W9.heap.size W9 (W9.alloc (.cells #[.int .i64 2] 3)) := (Below.refl _ _).alloc (Nat.le_refl _) _
      have hil : IL (W9.alloc (.cells #[.int .i64 2] 3)) (some ⟨W9.heap.size, 0, none⟩) ([2] : List Int).length [2] := IL.mk_row (heap_alloc_new _ _) rfl
      simp [wpOp, go_sem]
      exact .inl ⟨_, _, _, _, _, _, _, _, _, _, ⟨rfl, rfl, rfl, rfl, rfl, rfl, rfl, rfl, rfl, rfl⟩, { R43.below hS hb with h2 := fun _ => ⟨_, rfl, hil⟩ }⟩
    · simp at ho
      subst ho
      obtain ⟨b, rfl, hil⟩ := hS.h2 (hd ⟨2, .data⟩ (by simp) (by rfl))
      simp [wpOp, go_sem]
      exact .inl ⟨_, _, _, _, _, _, _, _, _, _, ⟨rfl, rfl, rfl, rfl, rfl, rfl, rfl, rfl, rfl, rfl⟩, { hS with h3 := fun _ => ⟨_, rfl, hil⟩ }⟩
    · simp at ho
      subst ho
      obtain ⟨a1, c1, a2, c2, a3, c3, a4, c4, rfl, hpm⟩ := hS.h0 (hd ⟨0, .data⟩ (by simp) (by rfl))
      obtain rfl := hS.h1 (hd ⟨1, .data⟩ (by simp) (by rfl))
      obtain ⟨b, rfl, hil⟩ := hS.h3 (hd ⟨3, .data⟩ (by simp) (by rfl))
      have hc := is_any stn stn1 ⟨[2], [], [], []⟩ _ _ _ _ _ _ _ _ _ _ _ W9 hpm stn_fit ((HSM.out.below K0.out).below (hS.bel.mono (Nat.le_refl _))) stn1_fit (⟨(⟨_, _, _, rfl, hil⟩ : ILv W9 (.slice (some ⟨b, 0, none⟩) ([2] : List Int).length ([2] : List Int).length) [2]), ILv.nil _, ILv.nil _, ILv.nil _⟩ : AL W9 (.slice (some ⟨b, 0, none⟩) ([2] : List Int).length ([2] : List Int).length) (.slice none 0 0) (.slice none 0 0) (.slice none 0 0) ⟨[2], [], [], []⟩) (by decide)
      rw [stn1_err] at hc
      rw [show isFree stn stn1 ⟨[2], [], [], []⟩ = true from by kernel_rfl] at hc
      simp [wpOp, go_sem]
      refine .inl (hc.mono ?_)
      rintro e w' ⟨rfl, hb⟩
      simp [go_sem]
      exact ⟨_, _, _, _, _, _, _, _, _, _, ⟨rfl, rfl, rfl, rfl, rfl, rfl, rfl, rfl, rfl, rfl⟩, { R43.below hS hb with h4 := fun _ => rfl }⟩
    · simp at ho
      subst ho
      obtain rfl := hS.h4 (hd ⟨4, .data⟩ (by simp) (by rfl))
      simp [wpOp, go_sem]
      exact .inl ⟨_, _, _, _, _, _, _, _, _, _, ⟨rfl, rfl, rfl, rfl, rfl, rfl, rfl, rfl, rfl, rfl⟩, { hS with h5 := fun _ => rfl }⟩
    · simp at ho
      subst ho
      obtain rfl := hS.h5 (hd ⟨5, .data⟩ (by simp) (by rfl))
      simp [wpOp, go_sem]
      exact .inl ⟨_, _, _, _, _, _, _, _, _, _, ⟨rfl, rfl, rfl, rfl, rfl, rfl, rfl, rfl, rfl, rfl⟩, { hS with h6 := fun _ => rfl }⟩
    · simp at ho
      subst ho
      obtain rfl := hS.h5 (hd ⟨5, .data⟩ (by simp) (by rfl))
      simp [wpOp, go_sem]
      exact .inl ⟨_, _, _, _, _, _, _, _, _, _, ⟨rfl, rfl, rfl, rfl, rfl, rfl, rfl, rfl, rfl, rfl⟩, { hS with h7 := fun _ => rfl }⟩
    · simp at ho
      subst ho
      obtain rfl := hS.h6 (hd ⟨6, .data⟩ (by simp) (by rfl))
      simp [wpOp, go_sem]
      exact .inl ⟨_, _, _, _, _, _, _, _, _, _, ⟨rfl, rfl, rfl, rfl, rfl, rfl, rfl, rfl, rfl, rfl⟩, { hS with h8 := fun _ => rfl }⟩
    · simp at ho
      subst ho
      obtain rfl := hS.h7 (hd ⟨7, .data⟩ (by simp) (by rfl))
      simp [wpOp, go_sem]
      exact .inl ⟨_, _, _, _, _, _, _, _, _, _, ⟨rfl, rfl, rfl, rfl, rfl, rfl, rfl, rfl, rfl, rfl⟩, { hS with h9 := fun _ => rfl }⟩
    · simp at ho
  · intro f a W9 hI hall
    obtain ⟨s12, s13, s14, s15, s16, s11, s17, s18, s3, s4, rfl, hS⟩ := hI
    obtain rfl := hS.h8 (hall 8 (by decide))
    obtain rfl := hS.h9 (hall 9 (by decide))
    have hb3 := hS.bel
    obtain ⟨W3, rfl⟩ : ∃ W3 : World, W3 = W9 := ⟨_, rfl⟩
    have K3 : Hid (Below w.heap.size w W3) := KZ.out.trans (hb3.mono KZ.out.size)
    have HST3 := Lib.hid ((hb3.block _ (lt_of_block HST.out)).trans HST.out)
    have K0' := Lib.hid (K0.out.trans (hb3.mono K0.out.size))
    have K2 := K3
    clear hS hall hb3
    go_upto_region 3 with fail
    refine wp_region_inv' (by kernel_rfl) (by kernel_rfl) (fun f a W9 => ∃ s20 s21 s22 s23 s24 s19 s25 s26 s5 s6 : Value, a = { tmps := #[.bool false, .pointer (some ⟨w1.heap.size, 0, none⟩), .bool true, .bool true, .int .i64 0, s5, s6, .tuple #[.agg #[.slice g0 stn1.tks.length m0, .slice g1 stn1.sws.length m1, .slice g2 stn1.lks.length m2], .bool true], .tuple #[.agg #[.slice g0 stn1.tks.length m0, .slice g1 stn1.sws.length m1, .slice g2 stn1.lks.length m2], .bool true], .agg #[.slice g0 stn1.tks.length m0, .slice g1 stn1.sws.length m1, .slice g2 stn1.lks.length m2], .bool true, s11, s12, s13, s14, s15, s16, s17, s18, s19, s20, s21, s22, s23, s24, s25, s26, undef, undef, undef, undef, undef, undef, undef, undef, undef, undef, undef, undef, undef, undef, undef, undef], defers := [] } ∧ R43 W3 (.agg #[.slice g0 stn1.tks.length m0, .slice g1 stn1.sws.length m1, .slice g2 stn1.lks.length m2]) [2, 3] false 0 (f 0) (f 1) (f 2) (f 3) (f 4) (f 5) (f 6) (f 7) (f 8) (f 9) s20 s21 s22 s23 s24 s19 s25 s26 s5 s6 W9) ?_ ?_ ?_
    · exact ⟨_, _, _, _, _, _, _, _, _, _, rfl, { bel := ⟨rfl, rfl, rfl, Nat.le_refl _, fun _ _ => rfl⟩, h0 := by simp, h1 := by simp, h2 := by simp, h3 := by simp, h4 := by simp, h5 := by simp, h6 := by simp, h7 := by simp, h8 := by simp, h9 := by simp }⟩
    · intro i o ho f a W9 hI hd hun
      obtain ⟨s20, s21, s22, s23, s24, s19, s25, s26, s5, s6, rfl, hS⟩ := hI
      have q9 := (hS.bel.block _ (lt_of_block HST3.out)).trans HST3.out
      have KW : Below w.heap.size w W9 := K3.out.trans (hS.bel.mono K3.out.size)
      rcases i with _ | _ | _ | _ | _ | _ | _ | _ | _ | _ | i
      · simp at ho
        subst ho
        simp [wpOp, go_sem]
        refine .inl ((station_any W9).mono ?_)
        rintro e w' ⟨s', q', gg', rr', rfl, hpm, hb⟩
        obtain ⟨a1, c1, rfl, -⟩ := hpm.secs
        obtain ⟨a2, c2, rfl, -⟩ := hpm.pts
        obtain ⟨a3, c3, rfl, -⟩ := hpm.sigs
        obtain ⟨a4, c4, rfl, -⟩ := hpm.rts
        simp [go_sem]
        exact ⟨_, _, _, _, _, _, _, _, _, _, ⟨rfl, rfl, rfl, rfl, rfl, rfl, rfl, rfl, rfl, rfl⟩, { R43.below hS hb with h0 := fun _ => ⟨_, _, _, _, _, _, _, _, rfl, hpm⟩ }⟩
      · simp at ho
        subst ho
        have cc0 : W9.cell? ⟨w1.heap.size, 0, none⟩ = some (.slice g0 stn1.tks.length m0) := (cell_of_row W9 _ 0 _ _ _ q9).trans rfl
        have cc1 : W9.cell? ⟨w1.heap.size, 1, none⟩ = some (.slice g1 stn1.sws.length m1) := (cell_of_row W9 _ 1 _ _ _ q9).trans rfl
        have cc2 : W9.cell? ⟨w1.heap.size, 2, none⟩ = some (.slice g2 stn1.lks.length m2) := (cell_of_row W9 _ 2 _ _ _ q9).trans rfl
        simp [wpOp, go_sem, cc0, cc1, cc2]
        exact .inl ⟨_, _, _, _, _, _, _, _, _, _, ⟨rfl, rfl, rfl, rfl, rfl, rfl, rfl, rfl, rfl, rfl⟩, { hS with h1 := fun _ => rfl }⟩
      · simp at ho
        subst ho
        have hb : Below W9.heap.size W9 (W9.alloc (.cells #[.int .i64 2, .int .i64 3] 3)) := (Below.refl _ _).alloc (Nat.le_refl _) _
        have hil : IL (W9.alloc (.cells #[.int .i64 2, .int .i64 3] 3)) (some ⟨W9.heap.size, 0, none⟩) ([2, 3] : List Int).length [2, 3] := IL.mk_row (heap_alloc_new _ _) rfl
        simp [wpOp, go_sem]
        exact .inl ⟨_, _, _, _, _, _, _, _, _, _, ⟨rfl, rfl, rfl, rfl, rfl, rfl, rfl, rfl, rfl, rfl⟩, { R43.below hS hb with h2 := fun _ => ⟨_, rfl, hil⟩ }⟩
      · simp at ho
        subst ho
        obtain ⟨b, rfl, hil⟩ := hS.h2 (hd ⟨2, .data⟩ (by simp) (by rfl))
        simp [wpOp, go_sem]
        exact .inl ⟨_, _, _, _, _, _, _, _, _, _, ⟨rfl, rfl, rfl, rfl, rfl, rfl, rfl, rfl, rfl, rfl⟩, { hS with h3 := fun _ => ⟨_, rfl, hil⟩ }⟩
      · simp at ho
        subst ho
        obtain ⟨a1, c1, a2, c2, a3, c3, a4, c4, rfl, hpm⟩ := hS.h0 (hd ⟨0, .data⟩ (by simp) (by rfl))
        obtain rfl := hS.h1 (hd ⟨1, .data⟩ (by simp) (by rfl))
        obtain ⟨b, rfl, hil⟩ := hS.h3 (hd ⟨3, .data⟩ (by simp) (by rfl))
        have hc := is_any stn stn1 ⟨[2, 3], [], [], []⟩ _ _ _ _ _ _ _ _ _ _ _ W9 hpm stn_fit ((HSM.out.below K0'.out).below (hS.bel.mono (Nat.le_refl _))) stn1_fit (⟨(⟨_, _, _, rfl, hil⟩ : ILv W9 (.slice (some ⟨b, 0, none⟩) ([2, 3] : List Int).length ([2, 3] : List Int).length) [2, 3]), ILv.nil _, ILv.nil _, ILv.nil _⟩ : AL W9 (.slice (some ⟨b, 0, none⟩) ([2, 3] : List Int).length ([2, 3] : List Int).length) (.slice none 0 0) (.slice none 0 0) (.slice none 0 0) ⟨[2, 3], [], [], []⟩) (by decide)
        rw [stn1_err] at hc
        rw [show isFree stn stn1 ⟨[2, 3], [], [], []⟩ = false from by kernel_rfl] at hc
        simp [wpOp, go_sem]
        refine .inl (hc.mono ?_)
        rintro e w' ⟨rfl, hb⟩
        simp [go_sem]
        exact ⟨_, _, _, _, _, _, _, _, _, _, ⟨rfl, rfl, rfl, rfl, rfl, rfl, rfl, rfl, rfl, rfl⟩, { R43.below hS hb with h4 := fun _ => rfl }⟩
      · simp at ho
        subst ho
        obtain rfl := hS.h4 (hd ⟨4, .data⟩ (by simp) (by rfl))
        simp [wpOp, go_sem]
        exact .inl ⟨_, _, _, _, _, _, _, _, _, _, ⟨rfl, rfl, rfl, rfl, rfl, rfl, rfl, rfl, rfl, rfl⟩, { hS with h5 := fun _ => rfl }⟩
      · simp at ho
        subst ho
        obtain rfl := hS.h5 (hd ⟨5, .data⟩ (by simp) (by rfl))
        simp [wpOp, go_sem]
        exact .inl ⟨_, _, _, _, _, _, _, _, _, _, ⟨rfl, rfl, rfl, rfl, rfl, rfl, rfl, rfl, rfl, rfl⟩, { hS with h6 := fun _ => rfl }⟩
      · simp at ho
        subst ho
        obtain rfl := hS.h5 (hd ⟨5, .data⟩ (by simp) (by rfl))
        simp [wpOp, go_sem]
        exact .inl ⟨_, _, _, _, _, _, _, _, _, _, ⟨rfl, rfl, rfl, rfl, rfl, rfl, rfl, rfl, rfl, rfl⟩, { hS with h7 := fun _ => rfl }⟩
      · simp at ho
        subst ho
        obtain rfl := hS.h6 (hd ⟨6, .data⟩ (by simp) (by rfl))
        simp [wpOp, go_sem]
        exact .inl ⟨_, _, _, _, _, _, _, _, _, _, ⟨rfl, rfl, rfl, rfl, rfl, rfl, rfl, rfl, rfl, rfl⟩, { hS with h8 := fun _ => rfl }⟩
      · simp at ho
        subst ho
        obtain rfl := hS.h7 (hd ⟨7, .data⟩ (by simp) (by rfl))
        simp [wpOp, go_sem]
        exact .inl ⟨_, _, _, _, _, _, _, _, _, _, ⟨rfl, rfl, rfl, rfl, rfl, rfl, rfl, rfl, rfl, rfl⟩, { hS with h9 := fun _ => rfl }⟩
      · simp at ho
    · intro f a W9 hI hall
      obtain ⟨s20, s21, s22, s23, s24, s19, s25, s26, s5, s6, rfl, hS⟩ := hI
      obtain rfl := hS.h8 (hall 8 (by decide))
      obtain rfl := hS.h9 (hall 9 (by decide))
      have K3 : Hid (Below w.heap.size w W9) := K2.out.trans (hS.bel.mono K2.out.size)
      clear hS hall
      go_wp2_with fail
      go_ret
      exact ⟨rfl, K3.out⟩
end Go.Proofs.YtbiehpjhhopjaaaGreat
