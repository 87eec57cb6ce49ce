/-
 state.held, walked.
 What a plan that may run, and a state that fits it, give to a grip.
 What state.grip keeps while it fills a grip.
-/
import Derived.Test.YtbiehpjhhopjaaaGreatTStateB
import Derived.Test.YtbiehpjhhopjaaaGreatTWayG
import Derived.Test.YtbiehpjhhopjaaaGreatTSoundC
import Derived.Maps.Own
set_option linter.unusedVariables false
set_option linter.unusedSimpArgs false
namespace Go.Proofs.YtbiehpjhhopjaaaGreat
open Go.RowKit Go.Maps
theorem IL.drop {w : World} {b off n : Nat} {l : List Int} (h : IL w (some ⟨b, off, none⟩) l.length l) (m : Nat) (hm : m ≤ l.length) : IL w (some ⟨b, off + m, none⟩) (l.drop m).length (l.drop m) :=
 ⟨rfl, fun i hi => by
  rw [List.length_drop] at hi
  obtain ⟨b', off', e, hc⟩ := h.cell (m + i) (by omega)
  cases e
  refine ⟨b, off + m, rfl, ?_⟩
  rw [List.getElem_drop]
  rw [Nat.add_assoc]
  exact hc⟩
structure R3 (N : Nat) (w0 : World) (B : Nat) (PV SV OV : Value) (ng pl : Int) (LL : List Int) (f0 f1 f2 f3 f4 f5 f6 f7 f8 f9 f10 f11 f12 f13 f14 f15 : Bool) (s11 s12 s13 s14 s15 s16 s17 s18 s19 s20 s21 s22 s23 s24 s25 s26 : Value) (W : World) : Prop where
 old : Old N w0 W
 h0 : f0 = true → s11 = .pointer (some ⟨B, 0, none⟩)
 h1 : f1 = true → s12 = PV
 h2 : f2 = true → s13 = .pointer (some ⟨B + 1, 2, none⟩)
 h3 : f3 = true → s14 = .int .i64 ng
 h4 : f4 = true → s15 = .int .i64 ng
 h5 : f5 = true → s16 = .pointer (some ⟨B, 0, none⟩)
 h6 : f6 = true → s17 = PV
 h7 : f7 = true → s18 = .int .i64 pl
 h8 : f8 = true → s19 = .int .i64 ng
 h9 : f9 = true → s20 = SV
 h10 : f10 = true → s21 = .pointer (some ⟨B, 1, none⟩)
 h11 : f11 = true → s22 = OV
 h12 : f12 = true → ∃ b, s23 = .slice (some ⟨b, 0, none⟩) 2 2 ∧ W.cell? ⟨b, 0, none⟩ = some SV ∧ W.cell? ⟨b, 1, none⟩ = some OV
 h13 : f13 = true → ∃ a c, s24 = .slice a LL.length c ∧ IntOwn W N (.slice a LL.length c) LL
 h14 : f14 = true → s25 = .int .i64 (LL.length : Int)
 h15 : f15 = true → s26 = .int .i64 0
theorem R3.below {N : Nat} {w0 : World} {B : Nat} {PV SV OV : Value} {ng pl : Int} {LL : List Int} {f0 f1 f2 f3 f4 f5 f6 f7 f8 f9 f10 f11 f12 f13 f14 f15 : Bool} {s11 s12 s13 s14 s15 s16 s17 s18 s19 s20 s21 s22 s23 s24 s25 s26 : Value} {W W' : World} (h : R3 N w0 B PV SV OV ng pl LL f0 f1 f2 f3 f4 f5 f6 f7 f8 f9 f10 f11 f12 f13 f14 f15 s11 s12 s13 s14 s15 s16 s17 s18 s19 s20 s21 s22 s23 s24 s25 s26 W) (hb : Below W.heap.size W W') : R3 N w0 B PV SV OV ng pl LL f0 f1 f2 f3 f4 f5 f6 f7 f8 f9 f10 f11 f12 f13 f14 f15 s11 s12 s13 s14 s15 s16 s17 s18 s19 s20 s21 s22 s23 s24 s25 s26 W' :=
 { h with
  old := h.old.below hb
  h12 := fun k => (h.h12 k).imp fun b hh => ⟨hh.1, ccell hb hh.2.1, ccell hb hh.2.2⟩
  h13 := fun k => (h.h13 k).imp fun a hh => hh.imp fun c hc => ⟨hc.1, own_below hc.2 hb⟩ }
set_option maxRecDepth 100000 in
set_option maxHeartbeats 8000000 in
theorem held_any (gR gG gL : Nat) (g : Gr) (v : Value) (ww : Wy) (l : Lk) (ap ao : Option Addr) (cp co : Nat) (va : Value) (W : World) (h : GrM W gR gG g v) (hl : W.cell? ⟨gL, 0, none⟩ = some (.int .i64 l.id)) (n1 : gR ≠ gG) (n2 : gL ≠ gR) (n3 : gL ≠ gG)
  (hp : IL W ap ww.path.length ww.path) (ho : IL W ao ww.over.length ww.over) (hpl : ww.path.length ≤ 6) (hp1 : 1 ≤ ww.path.length) (hcp : ww.path.length ≤ cp) (hol : ww.over.length ≤ 2) (hpf : ∀ s ∈ ww.path ++ ww.over, 0 ≤ s ∧ s ≤ 99) (hgo : 0 ≤ l.gone ∧ l.gone < ww.path.length) :
  Calls Tryz.prog 291 #[.agg #[.slice ap ww.path.length cp, .slice ao ww.over.length co, va, .int .i64 ww.near], .agg #[.int .i64 l.id, .int .u8 l.ph, .int .i64 l.gone, .int .i64 l.left], .func (.func 292) #[] #[.pointer (some ⟨gR, 0, none⟩), .pointer (some ⟨gG, 0, none⟩), .pointer (some ⟨gL, 0, none⟩)]] W (GraPost W gR gG v (holdAll l.id (heldL ww l) g)) := by
 have hcf : ∀ (args : Array Value) (w : World), Sem.run Tryz.prog (callFunc 292 args) w = .ok (.enter 292 args) w := plain292
 have lR := lt_of_block h.ok
 have lG := h.row.lt
 have lL : gL < W.heap.size := World.block_lt_of_cell? _ _ hl
 have HG := Lib.hid h
 have HLK : Hid (∀ W', Tw gR gG W W' → W'.cell? ⟨gL, 0, none⟩ = some (.int .i64 l.id)) := fun W' ht => (World.cell?_of_block (w := W) (ht.block gL lL n2 n3)).trans hl
 have HPF := Lib.hid hpf
 obtain ⟨ng, hng⟩ := Int.eq_ofNat_of_zero_le hgo.1
 have hng2 : ng < ww.path.length := by omega
 have HE : Hid (heldL ww l = if l.ph = 0 then [] else ww.path.drop ng ++ ww.over) := by
  show _ = _
  unfold heldL
  rw [hng]
  have : min (max (ng : Int) 0).toNat ww.path.length = ng := by omega
  rw [this]
 obtain ⟨bp, fp, rfl, -⟩ := hp.cell 0 (by omega)
 have HP : Hid (∀ W', Below W.heap.size W W' → IL W' (some ⟨bp, fp + ng, none⟩) (ww.path.drop ng).length (ww.path.drop ng)) := fun W' hb => (hp.below hb).drop (n := 0) ng (Nat.le_of_lt hng2)
 have HO : Hid (∀ W', Below W.heap.size W W' → IL W' ao ww.over.length ww.over) := fun W' hb => ho.below hb
 have HCO : Hid (∀ b W0, Below W.heap.size W W0 → W0.cell? ⟨b, 0, none⟩ = some (.slice (some ⟨bp, fp + ng, none⟩) (ww.path.drop ng).length (cp - ng)) → W0.cell? ⟨b, 1, none⟩ = some (.slice ao ww.over.length co) → Calls Tryz.prog 302 #[.slice (some ⟨b, 0, none⟩) 2 2] W0 fun e w' => ∃ a c, e = .returned (.slice a (ww.path.drop ng ++ ww.over).length c) ∧ IntOwn w' W0.heap.size (.slice a (ww.path.drop ng ++ ww.over).length c) (ww.path.drop ng ++ ww.over) ∧ Below W0.heap.size W0 w') :=
  fun b W0 hb x0 x1 => concat_any b _ _ _ _ _ _ W0 x0 x1 (HP.out _ hb) (HO.out _ hb) (by rw [List.length_drop]; omega) (by omega)
 have HDL : Hid ((ww.path.drop ng).length = ww.path.length - ng) := List.length_drop
 have HPL : Hid (∀ s ∈ ww.path.drop ng ++ ww.over, 0 ≤ s ∧ s ≤ 99) := fun s hs => HPF.out s (by
  rcases List.mem_append.1 hs with h | h
  ·exact List.mem_append_left _ (List.mem_of_mem_drop h)
  ·exact List.mem_append_right _ h)
 have HLL8 : Hid ((ww.path.drop ng ++ ww.over).length ≤ 8) := by show _ ≤ _; rw [List.length_append, List.length_drop]; omega
 generalize ww.path.drop ng ++ ww.over = LL at *
 generalize ww.path.drop ng = DP at *
 clear HP HO HPF
 generalize heldL ww l = L at *
 rw [hng]
 clear h hl hpf hp ho hgo
 by_cases hph : l.ph = 0
 ·have t0 : (l.ph == 0) = true := by rw [beq_iff_eq]; exact hph
  rw [if_pos hph] at HE
  have hE := HE.out
  subst hE
  clear hph
  go_enter Tryz.func291, Tryz.ntmps291
  go_wp2_with fail
  generalize hWW : (W.alloc _).alloc _ = W1
  have hb : Below W.heap.size W W1 := by rw [← hWW]; exact ((Below.refl _ _).alloc (Nat.le_refl _) _).alloc (by simp) _
  clear hWW
  exact bodyPost_ret (v := .tuple #[]) (by simp [results, Tryz.f291, go_sem]) rfl ⟨rfl, HG.out.below hb, Tw.of_below hb⟩
 ·have t0 : (l.ph == 0) = false := by rw [beq_eq_false_iff_ne]; exact hph
  rw [if_neg hph] at HE
  clear hph
  go_enter Tryz.func291, Tryz.ntmps291
  go_upto_region 2 with fail
  generalize hw0 : (W.alloc _).alloc _ = w0
  have r0 : w0.heap[W.heap.size]? = some (.cells #[.slice (some ⟨bp, fp, none⟩) ww.path.length cp, .slice ao ww.over.length co, va, .int .i64 ww.near] 184 (0, 0)) := by
   subst hw0; exact (Below.heap_alloc _ _ _ (by simp)).trans (heap_alloc_new W _)
  have r1 : w0.heap[W.heap.size + 1]? = some (.cells #[.int .i64 l.id, .int .u8 l.ph, .int .i64 (ng : Int), .int .i64 l.left] 99 (0, 0)) := by
   subst hw0; exact heap_alloc2_new _ _ _
  have hz : w0.heap.size = W.heap.size + 2 := by subst hw0; simp
  have hB0 : Below W.heap.size W w0 := by subst hw0; exact ((Below.refl _ _).alloc (Nat.le_refl _) _).alloc (by simp) _
  have HB0 := Lib.hid hB0
  clear hw0 hB0
  go_cut [24, 25, 26] (fun s24 s25 s26 wx => ∃ (a : Option Addr) (c : Nat), s24 = .slice a LL.length c ∧ s25 = .int .i64 (LL.length : Int) ∧ s26 = .int .i64 0 ∧ IntOwn wx w0.heap.size (.slice a LL.length c) LL ∧ Below W.heap.size W wx)
  case first =>
   refine wp_region_inv' (by kernel_rfl) (by kernel_rfl) (fun f a W0 => ∃ s11 s12 s13 s14 s15 s16 s17 s18 s19 s20 s21 s22 s23 s24 s25 s26 : Value, a = { tmps := #[.agg #[.slice (some ⟨bp, fp, none⟩) ww.path.length cp, .slice ao ww.over.length co, va, .int .i64 ww.near], .agg #[.int .i64 l.id, .int .u8 l.ph, .int .i64 (ng : Int), .int .i64 l.left], .func (.func 292) #[] #[.pointer (some ⟨gR, 0, none⟩), .pointer (some ⟨gG, 0, none⟩), .pointer (some ⟨gL, 0, none⟩)], .pointer (some ⟨W.heap.size, 0, none⟩), .pointer (some ⟨W.heap.size + 1, 0, none⟩), undef, undef, undef, .pointer (some ⟨W.heap.size + 1, 1, none⟩), .int .u8 l.ph, .bool false, s11, s12, s13, s14, s15, s16, s17, s18, s19, s20, s21, s22, s23, s24, s25, s26, undef, undef, undef, undef, undef, undef, undef, undef], defers := [] } ∧ R3 w0.heap.size w0 W.heap.size (.slice (some ⟨bp, fp, none⟩) ww.path.length cp) (.slice (some ⟨bp, fp + ng, none⟩) DP.length (cp - ng)) (.slice ao ww.over.length co) ng ww.path.length LL (f 0) (f 1) (f 2) (f 3) (f 4) (f 5) (f 6) (f 7) (f 8) (f 9) (f 10) (f 11) (f 12) (f 13) (f 14) (f 15) s11 s12 s13 s14 s15 s16 s17 s18 s19 s20 s21 s22 s23 s24 s25 s26 W0) ?_ ?_ ?_
   ·exact ⟨_, _, _, _, _, _, _, _, _, _, _, _, _, _, _, _, rfl, ⟨⟨rfl, rfl, rfl, Nat.le_refl _, fun _ _ => rfl⟩, by simp, by simp, by simp, by simp, by simp, by simp, by simp, by simp, by simp, by simp, by simp, by simp, by simp, by simp, by simp, by simp⟩⟩
   ·intro i o ho f a W0 hI hd hun
    obtain ⟨s11, s12, s13, s14, s15, s16, s17, s18, s19, s20, s21, s22, s23, s24, s25, s26, rfl, hS⟩ := hI
    have hN := hS.old.size
    have q0 := (hS.old.block W.heap.size (by omega)).trans r0
    have q1 := (hS.old.block (W.heap.size + 1) (by omega)).trans r1
    have hBW : Below W.heap.size W W0 := Below.of_old hS.old HB0.out (by omega) (by omega)
    rcases i with _ | _ | _ | _ | _ | _ | _ | _ | _ | _ | _ | _ | _ | _ | _ | _ | i
    ·simp at ho
     subst ho
     simp [wpOp, go_sem]
     exact .inl ⟨_, _, _, _, _, _, _, _, _, _, _, _, _, _, _, _, ⟨rfl, rfl, rfl, rfl, rfl, rfl, rfl, rfl, rfl, rfl, rfl, rfl, rfl, rfl, rfl, rfl⟩, { hS with h0 := fun _ => rfl }⟩
    ·simp at ho
     subst ho
     obtain rfl := hS.h0 (hd ⟨0, .data⟩ (by simp) (by rfl))
     have cc : W0.cell? ⟨W.heap.size, 0, none⟩ = some (.slice (some ⟨bp, fp, none⟩) ww.path.length cp) := (cell_of_row W0 _ 0 _ _ _ q0).trans rfl
     simp [wpOp, go_sem, cc]
     exact .inl ⟨_, _, _, _, _, _, _, _, _, _, _, _, _, _, _, _, ⟨rfl, rfl, rfl, rfl, rfl, rfl, rfl, rfl, rfl, rfl, rfl, rfl, rfl, rfl, rfl, rfl⟩, { hS with h1 := fun _ => rfl }⟩
    ·simp at ho
     subst ho
     simp [wpOp, go_sem]
     exact .inl ⟨_, _, _, _, _, _, _, _, _, _, _, _, _, _, _, _, ⟨rfl, rfl, rfl, rfl, rfl, rfl, rfl, rfl, rfl, rfl, rfl, rfl, rfl, rfl, rfl, rfl⟩, { hS with h2 := fun _ => rfl }⟩
    ·simp at ho
     subst ho
     obtain rfl := hS.h2 (hd ⟨2, .data⟩ (by simp) (by rfl))
     have cc : W0.cell? ⟨W.heap.size + 1, 2, none⟩ = some (.int .i64 (ng : Int)) := (cell_of_row W0 _ 2 _ _ _ q1).trans rfl
     simp [wpOp, go_sem, cc]
     exact .inl ⟨_, _, _, _, _, _, _, _, _, _, _, _, _, _, _, _, ⟨rfl, rfl, rfl, rfl, rfl, rfl, rfl, rfl, rfl, rfl, rfl, rfl, rfl, rfl, rfl, rfl⟩, { hS with h3 := fun _ => rfl }⟩
    ·simp at ho
     subst ho
     obtain rfl := hS.h3 (hd ⟨3, .data⟩ (by simp) (by rfl))
     have mm : max (ng : Int) 0 = (ng : Int) := by omega
     simp [wpOp, go_sem, mm]
     exact .inl ⟨_, _, _, _, _, _, _, _, _, _, _, _, _, _, _, _, ⟨rfl, rfl, rfl, rfl, rfl, rfl, rfl, rfl, rfl, rfl, rfl, rfl, rfl, rfl, rfl, rfl⟩, { hS with h4 := fun _ => by first | rfl | (simp [mm]) }⟩
    ·simp at ho
     subst ho
     simp [wpOp, go_sem]
     exact .inl ⟨_, _, _, _, _, _, _, _, _, _, _, _, _, _, _, _, ⟨rfl, rfl, rfl, rfl, rfl, rfl, rfl, rfl, rfl, rfl, rfl, rfl, rfl, rfl, rfl, rfl⟩, { hS with h5 := fun _ => rfl }⟩
    ·simp at ho
     subst ho
     obtain rfl := hS.h5 (hd ⟨5, .data⟩ (by simp) (by rfl))
     have cc : W0.cell? ⟨W.heap.size, 0, none⟩ = some (.slice (some ⟨bp, fp, none⟩) ww.path.length cp) := (cell_of_row W0 _ 0 _ _ _ q0).trans rfl
     simp [wpOp, go_sem, cc]
     exact .inl ⟨_, _, _, _, _, _, _, _, _, _, _, _, _, _, _, _, ⟨rfl, rfl, rfl, rfl, rfl, rfl, rfl, rfl, rfl, rfl, rfl, rfl, rfl, rfl, rfl, rfl⟩, { hS with h6 := fun _ => rfl }⟩
    ·simp at ho
     subst ho
     obtain rfl := hS.h6 (hd ⟨6, .data⟩ (by simp) (by rfl))
     simp [wpOp, go_sem]
     exact .inl ⟨_, _, _, _, _, _, _, _, _, _, _, _, _, _, _, _, ⟨rfl, rfl, rfl, rfl, rfl, rfl, rfl, rfl, rfl, rfl, rfl, rfl, rfl, rfl, rfl, rfl⟩, { hS with h7 := fun _ => rfl }⟩
    ·simp at ho
     subst ho
     obtain rfl := hS.h4 (hd ⟨4, .data⟩ (by simp) (by rfl))
     obtain rfl := hS.h7 (hd ⟨7, .data⟩ (by simp) (by rfl))
     have mm : min (ng : Int) (ww.path.length : Int) = (ng : Int) := by omega
     simp [wpOp, go_sem, mm]
     exact .inl ⟨_, _, _, _, _, _, _, _, _, _, _, _, _, _, _, _, ⟨rfl, rfl, rfl, rfl, rfl, rfl, rfl, rfl, rfl, rfl, rfl, rfl, rfl, rfl, rfl, rfl⟩, { hS with h8 := fun _ => by simp; omega }⟩
    ·simp at ho
     subst ho
     obtain rfl := hS.h1 (hd ⟨1, .data⟩ (by simp) (by rfl))
     obtain rfl := hS.h8 (hd ⟨8, .data⟩ (by simp) (by rfl))
     have j0 : (0 : Int) ≤ (ng : Int) := by omega
     have j1 : (ng : Int) ≤ (ww.path.length : Int) := by omega
     have j2 : (ww.path.length : Int) ≤ (cp : Int) := by omega
     simp [wpOp, go_sem, j0, j1, j2]
     exact .inl ⟨_, _, _, _, _, _, _, _, _, _, _, _, _, _, _, _, ⟨rfl, rfl, rfl, rfl, rfl, rfl, rfl, rfl, rfl, rfl, rfl, rfl, rfl, rfl, rfl, rfl⟩, { hS with h9 := fun _ => by simp [HDL.out]; omega }⟩
    ·simp at ho
     subst ho
     simp [wpOp, go_sem]
     exact .inl ⟨_, _, _, _, _, _, _, _, _, _, _, _, _, _, _, _, ⟨rfl, rfl, rfl, rfl, rfl, rfl, rfl, rfl, rfl, rfl, rfl, rfl, rfl, rfl, rfl, rfl⟩, { hS with h10 := fun _ => rfl }⟩
    ·simp at ho
     subst ho
     obtain rfl := hS.h10 (hd ⟨10, .data⟩ (by simp) (by rfl))
     have cc : W0.cell? ⟨W.heap.size, 1, none⟩ = some (.slice ao ww.over.length co) := (cell_of_row W0 _ 1 _ _ _ q0).trans rfl
     simp [wpOp, go_sem, cc]
     exact .inl ⟨_, _, _, _, _, _, _, _, _, _, _, _, _, _, _, _, ⟨rfl, rfl, rfl, rfl, rfl, rfl, rfl, rfl, rfl, rfl, rfl, rfl, rfl, rfl, rfl, rfl⟩, { hS with h11 := fun _ => rfl }⟩
    ·simp at ho
     subst ho
     obtain rfl := hS.h9 (hd ⟨9, .data⟩ (by simp) (by rfl))
     obtain rfl := hS.h11 (hd ⟨11, .data⟩ (by simp) (by rfl))
     have hb : Below W0.heap.size W0 (W0.alloc (.cells #[.slice (some ⟨bp, fp + ng, none⟩) DP.length (cp - ng), .slice ao ww.over.length co] 54)) := (Below.refl _ _).alloc (Nat.le_refl _) _
     simp [wpOp, go_sem]
     exact .inl ⟨_, _, _, _, _, _, _, _, _, _, _, _, _, _, _, _, ⟨rfl, rfl, rfl, rfl, rfl, rfl, rfl, rfl, rfl, rfl, rfl, rfl, rfl, rfl, rfl, rfl⟩, { R3.below hS hb with h12 := fun _ => ⟨_, rfl, by simp, by simp⟩ }⟩
    ·simp at ho
     subst ho
     obtain ⟨b, rfl, x0, x1⟩ := hS.h12 (hd ⟨12, .data⟩ (by simp) (by rfl))
     simp [wpOp, go_sem]
     refine .inl ((HCO.out b W0 hBW x0 x1).mono ?_)
     rintro e w' ⟨a, c, rfl, hown, hb⟩
     simp [go_sem]
     exact ⟨_, _, _, _, _, _, _, _, _, _, _, _, _, _, _, _, ⟨rfl, rfl, rfl, rfl, rfl, rfl, rfl, rfl, rfl, rfl, rfl, rfl, rfl, rfl, rfl, rfl⟩, { R3.below hS hb with h13 := fun _ => ⟨a, c, rfl, own_base hown hN⟩ }⟩
    ·simp at ho
     subst ho
     obtain ⟨a, c, rfl, o13⟩ := hS.h13 (hd ⟨13, .data⟩ (by simp) (by rfl))
     simp [wpOp, go_sem]
     exact .inl ⟨_, _, _, _, _, _, _, _, _, _, _, _, _, _, _, _, ⟨rfl, rfl, rfl, rfl, rfl, rfl, rfl, rfl, rfl, rfl, rfl, rfl, rfl, rfl, rfl, rfl⟩, { hS with h14 := fun _ => rfl }⟩
    ·simp at ho
     subst ho
     simp [wpOp, go_sem]
     exact .inl ⟨_, _, _, _, _, _, _, _, _, _, _, _, _, _, _, _, ⟨rfl, rfl, rfl, rfl, rfl, rfl, rfl, rfl, rfl, rfl, rfl, rfl, rfl, rfl, rfl, rfl⟩, { hS with h15 := fun _ => rfl }⟩
    ·simp at ho
   ·intro f a W0 hI hall
    obtain ⟨s11, s12, s13, s14, s15, s16, s17, s18, s19, s20, s21, s22, s23, s24, s25, s26, rfl, hS⟩ := hI
    obtain ⟨a, c, rfl, o13⟩ := hS.h13 (hall 13 (by decide))
    obtain rfl := hS.h14 (hall 14 (by decide))
    obtain rfl := hS.h15 (hall 15 (by decide))
    have KO := Lib.hid o13
    have KB : Hid (Below W.heap.size W W0) := Below.of_old hS.old HB0.out (by omega) (by omega)
    clear hS hall o13 r0 r1 hz
    go_wp2_with fail
    go_meet
    case rel => exact ⟨a, c, rfl, rfl, rfl, KO.out, KB.out⟩
  case rest =>
   obtain ⟨a, c, rfl, rfl, rfl, o13, hb⟩ := hcut
   have HIL := Lib.hid o13
   have HT1 : Hid (Tw gR gG W wc) := Tw.of_below hb
   have HGC := Lib.hid (HG.out.below hb)
   have hwz : w0.heap.size ≤ wc.heap.size ∨ True := .inr trivial
   have hll := HLL8.out
   have nR : gR < w0.heap.size := by omega
   have nG : gG < w0.heap.size := by omega
   have HIL2 : Hid (∀ W', Tw gR gG wc W' → IL W' a LL.length LL) := fun W' ht => IntOwn.il (own_keep HIL.out (fun k k1 k2 => ht.block k k2 (by omega) (by omega)))
   clear o13 hb r0 r1 hwz
   go_wp2_with fail
   go_loopg [26] LL.length (fun g' i wr => ∃ (k : Nat) (gk : Gr), k ≤ LL.length ∧ g' = LL.length - k ∧ i = .int .i64 k ∧ GrM wr gR gG gk v ∧ Tw gR gG wc wr ∧ holdAll l.id L g = holdAll l.id (LL.drop k) gk)
   case atStart => exact ⟨0, g, by omega, by omega, rfl, HGC.out, Tw.refl _ _ _, by rw [HE.out]; rfl⟩
   case round =>
    obtain ⟨k, gk, hk, rfl, rfl, hg, ht, heq⟩ := hrel
    obtain ⟨wo, rfl⟩ : ∃ wo : World, wo = wr := ⟨_, rfl⟩
    have HGK := Lib.hid hg
    have HTK := Lib.hid ht
    have HEQ := Lib.hid heq
    have HT0 : Hid (Tw gR gG W wo) := HT1.out.trans ht
    clear hg ht heq
    by_cases hlt : k < LL.length
    ·have hdk : decide ((k : Int) < (LL.length : Int)) = true := by simp; omega
     obtain ⟨b, off, rfl, x0⟩ := (HIL2.out _ HTK.out).cell k hlt
     have c0 : (0 : Int) ≤ (k : Int) := by omega
     have c1 : (k : Int) < (LL.length : Int) := by omega
     have hs := HPL.out LL[k] (List.getElem_mem hlt)
     have HCL := Lib.hid (holdone_any gR gG gL gk v l.id LL[k] wo HGK.out (HLK.out _ HT0.out) hs.1 hs.2 n1 n2 n3)
     have HF : Hid (holdAll l.id L g = if (holdOne l.id gk LL[k]).ok then holdAll l.id (LL.drop (k + 1)) (holdOne l.id gk LL[k]) else holdOne l.id gk LL[k]) := by
      show _ = _
      rw [HEQ.out, List.drop_eq_getElem_cons hlt]
      rfl
     generalize hG2 : holdOne l.id gk LL[k] = G2 at *
     clear hG2 hs
     unfold GrPost at HCL
     cases hok : G2.ok with
     | true =>
      rw [hok] at HCL
      rw [hok] at HF
      clear hok
      go_wp2_with fail
      refine HCL.out.mono ?_
      rintro e w2 ⟨rfl, hg2, ht2⟩
      have HG2 := Lib.hid hg2
      have HT2 : Hid (Tw gR gG wc w2) := HTK.out.trans ht2
      clear hg2 ht2 HCL
      go_wp2_with fail
      go_roundg (LL.length - (k + 1))
      case measure => go_light; omega
      case rel => go_light; exact ⟨k + 1, G2, by omega, by omega, by go_num, HG2.out, HT2.out, by simpa using HF.out⟩
     | false =>
      rw [hok] at HCL
      rw [hok] at HF
      clear hok
      go_wp2_with fail
      refine HCL.out.mono ?_
      rintro e w2 ⟨rfl, hg2, ht2⟩
      have HG2 := Lib.hid hg2
      have HT2 : Hid (Tw gR gG W w2) := HT0.out.trans ht2
      clear hg2 ht2 HCL
      go_wp2_with fail
      refine bodyPost_ret (v := .tuple #[]) (by simp [results, Tryz.f291, go_sem]) rfl ⟨rfl, ?_, HT2.out⟩
      have hF := HF.out
      simp at hF
      rw [hF]
      exact HG2.out
    ·obtain rfl : k = LL.length := by omega
     have hdk : decide ((LL.length : Int) < (LL.length : Int)) = false := by simp
     have HF : Hid (holdAll l.id L g = gk) := by
      show _ = _
      rw [HEQ.out, List.drop_length]
      rfl
     go_wp2_with fail
     refine bodyPost_ret (v := .tuple #[]) (by simp [results, Tryz.f291, go_sem]) rfl ⟨rfl, ?_, HT0.out⟩
     rw [HF.out]
     exact HGK.out
end Go.Proofs.YtbiehpjhhopjaaaGreat
namespace Go.Proofs.YtbiehpjhhopjaaaGreat
structure WyFit (y : Wy) : Prop where
 p6 : y.path.length ≤ 6
 p1 : 1 ≤ y.path.length
 o2 : y.over.length ≤ 2
 secs : ∀ s ∈ y.path ++ y.over, 0 ≤ s ∧ s ≤ 99
 asks : AsksFit y.asks
 len : y.asks.length ≤ 1000
theorem sound_way {p : Pl} (h : PlanSound p) {k : Nat} (hlt : k < p.rts.length) : WyFit (wyOf p p.rts[k]) := by
 have hM := h.1
 have hMk := hM.2.2 k hlt hlt
 refine ⟨hMk.1.2.2.2.2.1, hMk.1.2.2.2.1, hMk.1.2.2.2.2.2.1, fun s hs => ?_, asks_fit hM.1.2.2.2.2.2.1 hM.2.1.1.1.1 hMk.2.2, ?_⟩
 ·obtain ⟨i, hi, rfl⟩ := List.getElem_of_mem hs
  have := (hMk.2.1 i hi hi).1
  exact ⟨this.1, this.2.1⟩
 ·have h1 := wkFl_len (wkEnd p p.rts[k]) p.rts[k].fl p.rts[k].fl.length
  have h2 := (wkTo_len p p.rts[k] (allOf p.rts[k]).length).1
  have h3 : (allOf p.rts[k]).length = p.rts[k].path.length + p.rts[k].over.length := List.length_append
  have h4 := hMk.1.2.2.2.2.1
  have h5 := hMk.1.2.2.2.2.2.1
  have h6 := hMk.1.2.2.2.2.2.2.1
  show (wkFl (wkEnd p p.rts[k]) p.rts[k].fl p.rts[k].fl.length).asks.length ≤ 1000
  unfold wkEnd at h1 ⊢
  omega
theorem phase_gone {l : Lk} {r : Rt} (h : Phase l r) (h1 : 1 ≤ r.path.length) : 0 ≤ l.gone ∧ l.gone < r.path.length := by
 rcases h with ⟨_, h2, _⟩ | ⟨_, h2, h3, _⟩ | ⟨_, h2, _, _⟩ | ⟨_, h2, _, _⟩ <;> omega
theorem rise_le {α : Type} {f : α → Int} {l : List α} (h : RiseTo f l l.length) : ∀ (d i : Nat) (hi : i + d + 1 < l.length), f (l[i]'(by omega)) < f l[i + d + 1]
 | 0, i, hi => by
  have h1 : f (l[i + 1 - 1]'(by omega)) < f (l[i + 1]'(by omega)) := (h (i + 1) hi hi).2 (by omega)
  exact h1
 | d + 1, i, hi => by
  have h0 := rise_le h d i (by omega)
  have h1 : f (l[i + d + 1 + 1 - 1]'(by omega)) < f (l[i + d + 1 + 1]'(by omega)) := (h (i + d + 1 + 1) hi hi).2 (by omega)
  exact Int.lt_trans h0 h1
theorem rise_lt {α : Type} {f : α → Int} {l : List α} (h : RiseTo f l l.length) {i j : Nat} (hj : j < l.length) (hij : i < j) : f (l[i]'(by omega)) < f l[j] := by
 obtain ⟨d, rfl⟩ : ∃ d, j = i + d + 1 := ⟨j - i - 1, by omega⟩
 exact rise_le h d i hj
theorem sound_pts {p : Pl} (h : PlanSound p) : RiseTo Pt.id p.pts p.pts.length := h.1.2.1.1.1.1
structure SwFit (l : List Sw) : Prop where
 at_ : ∀ i (h : i < l.length), 1 ≤ l[i].id ∧ l[i].id ≤ 99 ∧ 0 ≤ l[i].call ∧ l[i].call ≤ 2
 own : ∀ i (h : i < l.length) j (hj : j < i), l[j].id < l[i].id
theorem swFit {p : Pl} (h : PlanSound p) {l : List Sw} (hp : Pairs SwAt l p.pts) : SwFit l := by
 have hr := sound_pts h
 have hl := hp.1
 refine ⟨fun i hi => ?_, fun i hi j hj => ?_⟩
 ·have h1 := hp.2 i hi (by omega) hi
  have h2 := (hr i (by omega) (by omega)).1
  rw [h1.1]
  exact ⟨h2.1, h2.2, h1.2.2.1, h1.2.2.2⟩
 ·have h1 := hp.2 i hi (by omega) hi
  have h2 := hp.2 j (by omega) (by omega) (by omega)
  rw [h1.1, h2.1]
  exact rise_lt hr (by omega) hj
def callTo (l : List Sw) (k : Nat) (c : Int) : Int := callOf (l.take k) c
theorem callTo_zero (l : List Sw) : callTo l 0 = fun _ => 0 := by funext c; simp [callTo, callOf, oneOf]
theorem callTo_all (l : List Sw) : callTo l l.length = callOf l := by funext c; simp [callTo]
theorem callTo_step {l : List Sw} (h : SwFit l) {k : Nat} (hk : k < l.length) : callTo l (k + 1) = fun c => if c = l[k].id then l[k].call else callTo l k c := by
 funext c
 unfold callTo callOf oneOf
 rw [List.take_succ_eq_append_getElem hk, List.find?_append]
 by_cases hc : c = l[k].id
 ·rw [if_pos hc]
  have : (l.take k).find? (fun x => decide (x.id = c)) = none := by
   rw [List.find?_eq_none]
   intro x hx
   obtain ⟨j, hj, rfl⟩ := List.getElem_of_mem hx
   rw [List.length_take] at hj
   rw [List.getElem_take]
   have := h.own k hk j (by omega)
   simp
   omega
  rw [this]
  simp [hc]
 ·rw [if_neg hc]
  have : [l[k]].find? (fun x => decide (x.id = c)) = none := by
   rw [List.find?_eq_none]
   intro x hx
   rw [List.mem_singleton] at hx
   subst hx
   simp
   exact fun e => hc e.symm
  rw [this]
  simp
theorem grTo_step (p : Pl) (s : St) (k : Nat) (h1 : k < p.rts.length) (h2 : k < s.lks.length) :
  grTo p s (k + 1) = askAll (callOf s.sws) (asksL (wyOf p p.rts[k]) s.lks[k]) (holdAll s.lks[k].id (heldL (wyOf p p.rts[k]) s.lks[k]) (grTo p s k)) := by
 show grStep (callOf s.sws) (wyOf p (p.rts.getD k zRt)) (s.lks.getD k zLk) (grTo p s k) = _
 rw [List.getD_eq_getElem?_getD, List.getD_eq_getElem?_getD, List.getElem?_eq_getElem h1, List.getElem?_eq_getElem h2]
 rfl
end Go.Proofs.YtbiehpjhhopjaaaGreat
namespace Go.Proofs.YtbiehpjhhopjaaaGreat
open Go.RowKit Go.Maps
theorem mapIs_put {W : World} {b n : Nat} {f : Int → Int} {D : DataW Unit} {c x : Int} (hD : IsMap D) (hat : ∀ c : Int, (Lit.int .i64 c).wf = true → D.atKey (.int .i64 c) (.lit (.int .i64 0)) = .lit (.int .i64 (f c)))
  (h : W.ownsMap Tryz.prog 3 (plainElem Tryz.prog 3) b (n + 1) (D.put (.int .i64 c) (.lit (.int .i64 x)))) : MapIs W b (n + 1) (fun q => if q = c then x else f q) := by
 refine ⟨_, h, hD.put _ _, fun q hq => ?_⟩
 show _ = DataW.lit (Lit.int IntKind.i64 (if q = c then x else f q))
 by_cases e : q = c
 ·subst e
  rw [if_pos rfl]
  exact atKey_put_same (k := Lit.int .i64 q) hD trivial _ _
 ·rw [if_neg e, atKey_put_other (fun h => e (by injection h)) _ _]
  exact hat q hq
theorem mapIs_made (w : World) : MapIs (w.alloc (.map #[] 0)) w.heap.size 0 (fun _ => 0) := ⟨_, World.ownsMap_made _ _ _ _, isMap_empty, fun _ _ => rfl⟩
theorem MapIs.block {W : World} {b n : Nat} {f : Int → Int} (h : MapIs W b n f) : ∃ es clock, W.heap[b]? = some (.map es clock) := by
 obtain ⟨D, ⟨es, clock, hb, _⟩, _⟩ := h
 exact ⟨es, clock, hb⟩
structure GI (N : Nat) (W0 w4 : World) (gR gG b gM : Nat) (v : Value) (g : Gr) (n : Nat) (f : Int → Int) (W : World) : Prop where
 tw : Tw gR gG W0 W
 gr : GrM W gR gG g v
 mp : MapIs W b n f
 mc : W.cell? ⟨gM, 0, none⟩ = some (.map (some b))
 sm : Same MG w4 W
 lb : N ≤ b
 lm : N ≤ gM
section
variable {N : Nat} {W0 w4 W W' : World} {gR gG b gM n : Nat} {v : Value} {g : Gr} {f : Int → Int}
theorem GI.below (h : GI N W0 w4 gR gG b gM v g n f W) (hN : N = W0.heap.size) (hb : Below W.heap.size W W') : GI N W0 w4 gR gG b gM v g n f W' :=
 ⟨h.tw.trans (Tw.of_below hb), h.gr.below hb, h.mp.same (hb.block _ h.mp.lt), (hb.cell (World.block_lt_of_cell? _ _ h.mc)).trans h.mc, h.sm.trans (Same.of_below hb), h.lb, h.lm⟩
theorem GI.grown (h : GI N W0 w4 gR gG b gM v g n f W) (hN : N = W0.heap.size) (hR : gR < N) (hG : gG < N) {n' : Nat} {f' : Int → Int} (hm : MapIs W' b n' f') (hg : W.grownBy W' (some b)) : GI N W0 w4 gR gG b gM v g n' f' W' := by
 have l := h.lb
 have lW := h.tw.size
 have bR : W'.heap[gR]? = W.heap[gR]? := hg.block gR (by omega) (by intro e; injection e; omega)
 have bG : W'.heap[gG]? = W.heap[gG]? := hg.block gG (by omega) (by intro e; injection e; omega)
 obtain ⟨es, clock, hb⟩ := h.mp.block
 have hM : gM ≠ b := by
  intro e
  subst e
  have := h.mc
  simp [World.cell?, hb] at this
 refine ⟨⟨hg.os.trans h.tw.os, hg.tape.trans h.tw.tape, hg.output.trans h.tw.output, Nat.le_trans lW hg.size, fun k hk h1 h2 => (hg.block k (by omega) (by intro e; injection e; omega)).trans (h.tw.block k hk h1 h2)⟩, ⟨bR.trans h.gr.ok, h.gr.row.same bG⟩, hm, (World.cell?_of_block (w := W) (hg.block gM (World.block_lt_of_cell? _ _ h.mc) (by intro e; injection e; exact absurd ‹_› hM))).trans h.mc, ?_, h.lb, h.lm⟩
 ·intro k c t fr hk hm'
  have h1 := h.sm k c t fr hk hm'
  refine (hg.block k (lt_of_block h1) ?_).trans h1
  intro e
  injection e with e
  subst e
  rw [hb] at h1
  cases h1
theorem GI.tws (h : GI N W0 w4 gR gG b gM v g n f W) (ht : Tw gR gG W W') : Same MG w4 W' := by
 intro k c t fr hk hm'
 have h1 := h.sm k c t fr hk hm'
 refine (ht.block k (lt_of_block h1) ?_ ?_).trans h1
 ·intro e
  subst e
  rw [h.gr.ok] at h1
  injection h1 with h1
  injection h1 with _ h1
  subst h1
  cases hm'
 ·intro e
  subst e
  obtain ⟨cur, hc, _⟩ := h.gr.row.row
  rw [hc] at h1
  injection h1 with h1
  injection h1 with _ h1
  subst h1
  cases hm'
theorem GI.post {g' : Gr} (h : GI N W0 w4 gR gG b gM v g n f W) (hN : N = W0.heap.size) (hR : gR < N) (hG : gG < N) (hg : GrM W' gR gG g' v) (ht : Tw gR gG W W') : GI N W0 w4 gR gG b gM v g' n f W' := by
 have l := h.lb
 have l2 := h.lm
 exact ⟨h.tw.trans ht, hg, h.mp.same (ht.block b h.mp.lt (by omega) (by omega)), (World.cell?_of_block (w := W) (ht.block gM (World.block_lt_of_cell? _ _ h.mc) (by show gM ≠ gR; omega) (by show gM ≠ gG; omega))).trans h.mc, h.tws ht, h.lb, h.lm⟩
theorem GI.setR (h : GI N W0 w4 gR gG b gM v g n f W) (hN : N = W0.heap.size) (hR : gR < N) (hG : gG < N) (hne : gR ≠ gG) (x : Bool) : GI N W0 w4 gR gG b gM v ⟨g.H, g.A, x⟩ n f (W.setCell ⟨gR, 0, none⟩ (.bool x)) :=
 h.post hN hR hG ⟨by simp [World.setCell, Array.getElem?_modify, h.gr.ok], h.gr.row.same (Below.heap_setCell W ⟨gR, 0, none⟩ _ gG (Ne.symm hne))⟩ (Tw.setR _ _ _)
structure WyAt (w : World) (a : Option Addr) (k : Nat) (ap ao aa : Option Addr) (cp co ca : Nat) (y : Wy) : Prop where
 cells : ∃ b off, a = some ⟨b, off, none⟩ ∧ w.cell? ⟨b, off + k * 4, none⟩ = some (.slice ap y.path.length cp) ∧ w.cell? ⟨b, off + k * 4 + 1, none⟩ = some (.slice ao y.over.length co) ∧ w.cell? ⟨b, off + k * 4 + 2, none⟩ = some (.slice aa y.asks.length ca) ∧ w.cell? ⟨b, off + k * 4 + 3, none⟩ = some (.int .i64 y.near)
 path : IL w ap y.path.length y.path
 over : IL w ao y.over.length y.over
 asks : SlA w 3 RAsk aa ca y.asks
 cap : y.path.length ≤ cp
theorem SlA.wyAt {w : World} {a : Option Addr} {cap : Nat} {l : List Wy} (h : SlA w 4 RWy a cap l) {i : Nat} (hi : i < l.length) : ∃ ap ao aa cp co ca, WyAt w a i ap ao aa cp co ca l[i] := by
 obtain ⟨b, off, vp, vo, va, e, x0, x1, x2, x3, i1, i2, i3, i4⟩ := h.wyc hi
 obtain ⟨ap, cp, rfl, j1⟩ := i1.at_
 obtain ⟨ao, co, rfl, j2⟩ := i2.at_
 obtain ⟨aa, ca, rfl, j3⟩ := i3
 exact ⟨ap, ao, aa, cp, co, ca, ⟨b, off, e, x0, x1, x2, x3⟩, j1, j2, j3, i4 _ _ _ rfl⟩
theorem WyAt.ext {w w' : World} {a : Option Addr} {k : Nat} {ap ao aa : Option Addr} {cp co ca : Nat} {y : Wy} (h : WyAt w a k ap ao aa cp co ca y) (he : Ext w w') : WyAt w' a k ap ao aa cp co ca y := by
 obtain ⟨b, off, e, x0, x1, x2, x3⟩ := h.cells
 exact ⟨⟨b, off, e, he _ _ x0, he _ _ x1, he _ _ x2, he _ _ x3⟩, h.path.ext he, h.over.ext he, h.asks.ext keepsC_ask he, h.cap⟩
theorem WyAt.same {w4 W' : World} {a : Option Addr} {k : Nat} {ap ao aa : Option Addr} {cp co ca : Nat} {y : Wy} (h : WyAt (maskW MG w4) a k ap ao aa cp co ca y) (hs : Same MG w4 W') : WyAt W' a k ap ao aa cp co ca y :=
 (h.ext hs.ext).ext (maskW_ext MG W')
end
theorem gi_start {W0 w4 : World} {gR gG : Nat} {u v : Value} {g : Gr} (ht : Tw gR gG W0 w4) (hg : GrM w4 gR gG g u) (hne : gR ≠ gG) :
  GI W0.heap.size W0 w4 gR gG w4.heap.size (w4.heap.size + 1) v g 0 (fun _ => 0) (((w4.setCell ⟨gG, 200, none⟩ v).alloc (.map #[] 0)).alloc (.cells #[.map (some w4.heap.size)] 357)) := by
 have e0 : (w4.setCell ⟨gG, 200, none⟩ v).heap.size = w4.heap.size := by simp [World.setCell]
 have hm := mapIs_made (w4.setCell ⟨gG, 200, none⟩ v)
 rw [e0] at hm
 have hb : Below (w4.setCell ⟨gG, 200, none⟩ v).heap.size (w4.setCell ⟨gG, 200, none⟩ v) (((w4.setCell ⟨gG, 200, none⟩ v).alloc (.map #[] 0)).alloc (.cells #[.map (some w4.heap.size)] 357)) := ((Below.refl _ _).alloc (Nat.le_refl _) _).alloc (by simp) _
 have hb1 : Below ((w4.setCell ⟨gG, 200, none⟩ v).alloc (.map #[] 0)).heap.size ((w4.setCell ⟨gG, 200, none⟩ v).alloc (.map #[] 0)) (((w4.setCell ⟨gG, 200, none⟩ v).alloc (.map #[] 0)).alloc (.cells #[.map (some w4.heap.size)] 357)) := (Below.refl _ _).alloc (Nat.le_refl _) _
 have hg1 : GrM (w4.setCell ⟨gG, 200, none⟩ v) gR gG g v := ⟨(Below.heap_setCell _ _ _ gR hne).trans hg.ok, hg.row.setV v⟩
 refine ⟨(ht.trans (Tw.setG _ _ _)).trans (Tw.of_below hb), hg1.below hb, hm.same (hb1.block _ hm.lt), ?_, ?_, ht.size, Nat.le_succ_of_le ht.size⟩
 ·have := heap_alloc_new ((w4.setCell ⟨gG, 200, none⟩ v).alloc (.map #[] 0)) (.cells #[.map (some w4.heap.size)] 357)
  have e1 : ((w4.setCell ⟨gG, 200, none⟩ v).alloc (.map #[] 0)).heap.size = w4.heap.size + 1 := by simp [World.setCell]
  rw [e1] at this
  exact (cell_of_row _ _ 0 _ _ _ this).trans rfl
 ·refine Same.trans ?_ (Same.of_below hb)
  intro k c t fr hk hm'
  refine (Below.heap_setCell _ _ _ k ?_).trans hk
  intro e
  subst e
  obtain ⟨cur, hc, _⟩ := hg.row.row
  rw [hc] at hk
  injection hk with hk
  injection hk with _ hk
  subst hk
  cases hm'
end Go.Proofs.YtbiehpjhhopjaaaGreat
