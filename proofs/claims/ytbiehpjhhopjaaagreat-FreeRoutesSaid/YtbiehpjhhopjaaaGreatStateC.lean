/-
  state.held, walked.
-/
import Derived.Test.YtbiehpjhhopjaaaGreatStateB
import Derived.Test.YtbiehpjhhopjaaaGreatWayG
set_option linter.unusedVariables false
set_option linter.unusedSimpArgs false
namespace Go.Proofs.YtbiehpjhhopjaaaGreat
open Go.RowKit Go.Maps
theorem IL.drop {w : World} {b off n : Nat} {l : List Int} (h : IL w (some ⟨b, off, none⟩) l.length l) (m : Nat) (hm : m ≤ l.length) : IL w (some ⟨b, off + m, none⟩) (l.drop m).length (l.drop m) :=
  ⟨rfl, fun i hi => by
    rw [List.length_drop] at hi
    obtain ⟨b', off', e, hc⟩ := h.cell (m + i) (by omega)
    cases e
    refine ⟨b, off + m, rfl, ?_⟩
    rw [List.getElem_drop]
    rw [Nat.add_assoc]
    exact hc⟩
/-- where the region that lists what is held stands -/
structure R3 (N : Nat) (w0 : World) (B : Nat) (PV SV OV : Value) (ng pl : Int) (LL : List Int) (f0 f1 f2 f3 f4 f5 f6 f7 f8 f9 f10 f11 f12 f13 f14 f15 : Bool) (s11 s12 s13 s14 s15 s16 s17 s18 s19 s20 s21 s22 s23 s24 s25 s26 : Value) (W : World) : Prop where
  old : Old N w0 W
  h0 : f0 = true → s11 = .pointer (some ⟨B, 0, none⟩)
  h1 : f1 = true → s12 = PV
  h2 : f2 = true → s13 = .pointer (some ⟨B + 1, 2, none⟩)
  h3 : f3 = true → s14 = .int .i64 ng
  h4 : f4 = true → s15 = .int .i64 ng
  h5 : f5 = true → s16 = .pointer (some ⟨B, 0, none⟩)
  h6 : f6 = true → s17 = PV
  h7 : f7 = true → s18 = .int .i64 pl
  h8 : f8 = true → s19 = .int .i64 ng
  h9 : f9 = true → s20 = SV
  h10 : f10 = true → s21 = .pointer (some ⟨B, 1, none⟩)
  h11 : f11 = true → s22 = OV
  h12 : f12 = true → ∃ b, s23 = .slice (some ⟨b, 0, none⟩) 2 2 ∧ W.cell? ⟨b, 0, none⟩ = some SV ∧ W.cell? ⟨b, 1, none⟩ = some OV
  h13 : f13 = true → ∃ a c, s24 = .slice a LL.length c ∧ IntOwn W N (.slice a LL.length c) LL
  h14 : f14 = true → s25 = .int .i64 (LL.length : Int)
  h15 : f15 = true → s26 = .int .i64 0
theorem R3.below {N : Nat} {w0 : World} {B : Nat} {PV SV OV : Value} {ng pl : Int} {LL : List Int} {f0 f1 f2 f3 f4 f5 f6 f7 f8 f9 f10 f11 f12 f13 f14 f15 : Bool} {s11 s12 s13 s14 s15 s16 s17 s18 s19 s20 s21 s22 s23 s24 s25 s26 : Value} {W W' : World} (h : R3 N w0 B PV SV OV ng pl LL f0 f1 f2 f3 f4 f5 f6 f7 f8 f9 f10 f11 f12 f13 f14 f15 s11 s12 s13 s14 s15 s16 s17 s18 s19 s20 s21 s22 s23 s24 s25 s26 W) (hb : Below W.heap.size W W') : R3 N w0 B PV SV OV ng pl LL f0 f1 f2 f3 f4 f5 f6 f7 f8 f9 f10 f11 f12 f13 f14 f15 s11 s12 s13 s14 s15 s16 s17 s18 s19 s20 s21 s22 s23 s24 s25 s26 W' :=
  { h with
    old := h.old.below hb
    h12 := fun k => (h.h12 k).imp fun b hh => ⟨hh.1, ccell hb hh.2.1, ccell hb hh.2.2⟩
    h13 := fun k => (h.h13 k).imp fun a hh => hh.imp fun c hc => ⟨hc.1, own_below hc.2 hb⟩ }
set_option maxRecDepth 100000 in
set_option maxHeartbeats 8000000 in
theorem held_any (gR gG gL : Nat) (g : Gr) (v : Value) (ww : Wy) (l : Lk) (ap ao : Option Addr) (cp co : Nat) (va : Value) (W : World) (h : GrM W gR gG g v) (hl : W.cell? ⟨gL, 0, none⟩ = some (.int .i64 l.id)) (n1 : gR ≠ gG) (n2 : gL ≠ gR) (n3 : gL ≠ gG)
    (hp : IL W ap ww.path.length ww.path) (ho : IL W ao ww.over.length ww.over) (hpl : ww.path.length ≤ 6) (hp1 : 1 ≤ ww.path.length) (hcp : ww.path.length ≤ cp) (hol : ww.over.length ≤ 2) (hpf : ∀ s ∈ ww.path ++ ww.over, 0 ≤ s ∧ s ≤ 99) (hgo : 0 ≤ l.gone ∧ l.gone < ww.path.length) :
    Calls Tryz.prog 291 #[.agg #[.slice ap ww.path.length cp, .slice ao ww.over.length co, va, .int .i64 ww.near], .agg #[.int .i64 l.id, .int .u8 l.ph, .int .i64 l.gone, .int .i64 l.left], .func (.func 292) #[] #[.pointer (some ⟨gR, 0, none⟩), .pointer (some ⟨gG, 0, none⟩), .pointer (some ⟨gL, 0, none⟩)]] W (GraPost W gR gG v (holdAll l.id (heldL ww l) g)) := by
  have hcf : ∀ (args : Array Value) (w : World), Sem.run Tryz.prog (callFunc 292 args) w = .ok (.enter 292 args) w := plain292
  have lR := lt_of_block h.ok
  have lG := h.row.lt
  have lL : gL < W.heap.size := World.block_lt_of_cell? _ _ hl
  have HG := Lib.hid h
  have HLK : Hid (∀ W', Tw gR gG W W' → W'.cell? ⟨gL, 0, none⟩ = some (.int .i64 l.id)) := fun W' ht => (World.cell?_of_block (w := W) (ht.block gL lL n2 n3)).trans hl
  have HPF := Lib.hid hpf
  obtain ⟨ng, hng⟩ := Int.eq_ofNat_of_zero_le hgo.1
  have hng2 : ng < ww.path.length := by omega
  have HE : Hid (heldL ww l = if l.ph = 0 then [] else ww.path.drop ng ++ ww.over) := by
    show _ = _
    unfold heldL
    rw [hng]
    have : min (max (ng : Int) 0).toNat ww.path.length = ng := by omega
    rw [this]
  obtain ⟨bp, fp, rfl, -⟩ := hp.cell 0 (by omega)
  have HP : Hid (∀ W', Below W.heap.size W W' → IL W' (some ⟨bp, fp + ng, none⟩) (ww.path.drop ng).length (ww.path.drop ng)) := fun W' hb => (hp.below hb).drop (n := 0) ng (Nat.le_of_lt hng2)
  have HO : Hid (∀ W', Below W.heap.size W W' → IL W' ao ww.over.length ww.over) := fun W' hb => ho.below hb
  have HCO : Hid (∀ b W0, Below W.heap.size W W0 → W0.cell? ⟨b, 0, none⟩ = some (.slice (some ⟨bp, fp + ng, none⟩) (ww.path.drop ng).length (cp - ng)) → W0.cell? ⟨b, 1, none⟩ = some (.slice ao ww.over.length co) → Calls Tryz.prog 302 #[.slice (some ⟨b, 0, none⟩) 2 2] W0 fun e w' => ∃ a c, e = .returned (.slice a (ww.path.drop ng ++ ww.over).length c) ∧ IntOwn w' W0.heap.size (.slice a (ww.path.drop ng ++ ww.over).length c) (ww.path.drop ng ++ ww.over) ∧ Below W0.heap.size W0 w') :=
    fun b W0 hb x0 x1 => concat_any b _ _ _ _ _ _ W0 x0 x1 (HP.out _ hb) (HO.out _ hb) (by rw [List.length_drop]; omega) (by omega)
  have HDL : Hid ((ww.path.drop ng).length = ww.path.length - ng) := List.length_drop
  have HPL : Hid (∀ s ∈ ww.path.drop ng ++ ww.over, 0 ≤ s ∧ s ≤ 99) := fun s hs => HPF.out s (by
    rcases List.mem_append.1 hs with h | h
    · exact List.mem_append_left _ (List.mem_of_mem_drop h)
    · exact List.mem_append_right _ h)
  have HLL8 : Hid ((ww.path.drop ng ++ ww.over).length ≤ 8) := by show _ ≤ _; rw [List.length_append, List.length_drop]; omega
  generalize ww.path.drop ng ++ ww.over = LL at *
  generalize ww.path.drop ng = DP at *
  clear HP HO HPF
  generalize heldL ww l = L at *
  rw [hng]
  clear h hl hpf hp ho hgo
  by_cases hph : l.ph = 0
  · have t0 : (l.ph == 0) = true := by rw [beq_iff_eq]; exact hph
    rw [if_pos hph] at HE
    have hE := HE.out
    subst hE
    clear hph
    go_enter Tryz.func291, Tryz.ntmps291
    go_wp2_with fail
    generalize hWW : (W.alloc _).alloc _ = W1
    have hb : Below W.heap.size W W1 := by rw [← hWW]; exact ((Below.refl _ _).alloc (Nat.le_refl _) _).alloc (by simp) _
    clear hWW
    exact bodyPost_ret (v := .tuple #[]) (by simp [results, Tryz.f291, go_sem]) rfl ⟨rfl, HG.out.below hb, Tw.of_below hb⟩
  · have t0 : (l.ph == 0) = false := by rw [beq_eq_false_iff_ne]; exact hph
    rw [if_neg hph] at HE
    clear hph
    go_enter Tryz.func291, Tryz.ntmps291
    go_upto_region 2 with fail
    generalize hw0 : (W.alloc _).alloc _ = w0
    have r0 : w0.heap[W.heap.size]? = some (.cells #[.slice (some ⟨bp, fp, none⟩) ww.path.length cp, .slice ao ww.over.length co, va, .int .i64 ww.near] 184 (0, 0)) := by
      subst hw0; exact (Below.heap_alloc _ _ _ (by simp)).trans (heap_alloc_new W _)
    have r1 : w0.heap[W.heap.size + 1]? = some (.cells #[.int .i64 l.id, .int .u8 l.ph, .int .i64 (ng : Int), .int .i64 l.left] 99 (0, 0)) := by
      subst hw0; exact heap_alloc2_new _ _ _
    have hz : w0.heap.size = W.heap.size + 2 := by subst hw0; simp
    have hB0 : Below W.heap.size W w0 := by subst hw0; exact ((Below.refl _ _).alloc (Nat.le_refl _) _).alloc (by simp) _
    have HB0 := Lib.hid hB0
    clear hw0 hB0
    go_cut [24, 25, 26] (fun s24 s25 s26 wx => ∃ (a : Option Addr) (c : Nat), s24 = .slice a LL.length c ∧ s25 = .int .i64 (LL.length : Int) ∧ s26 = .int .i64 0 ∧ IntOwn wx w0.heap.size (.slice a LL.length c) LL ∧ Below W.heap.size W wx)
    case first =>
      refine wp_region_inv' (by kernel_rfl) (by kernel_rfl) (fun f a W0 => ∃ s11 s12 s13 s14 s15 s16 s17 s18 s19 s20 s21 s22 s23 s24 s25 s26 : Value, a = { tmps := #[.agg #[.slice (some ⟨bp, fp, none⟩) ww.path.length cp, .slice ao ww.over.length co, va, .int .i64 ww.near], .agg #[.int .i64 l.id, .int .u8 l.ph, .int .i64 (ng : Int), .int .i64 l.left], .func (.func 292) #[] #[.pointer (some ⟨gR, 0, none⟩), .pointer (some ⟨gG, 0, none⟩), .pointer (some ⟨gL, 0, none⟩)], .pointer (some ⟨W.heap.size, 0, none⟩), .pointer (some ⟨W.heap.size + 1, 0, none⟩), undef, undef, undef, .pointer (some ⟨W.heap.size + 1, 1, none⟩), .int .u8 l.ph, .bool false, s11, s12, s13, s14, s15, s16, s17, s18, s19, s20, s21, s22, s23, s24, s25, s26, undef, undef, undef, undef, undef, undef, undef, undef], defers := [] } ∧ R3 w0.heap.size w0 W.heap.size (.slice (some ⟨bp, fp, none⟩) ww.path.length cp) (.slice (some ⟨bp, fp + ng, none⟩) DP.length (cp - ng)) (.slice ao ww.over.length co) ng ww.path.length LL (f 0) (f 1) (f 2) (f 3) (f 4) (f 5) (f 6) (f 7) (f 8) (f 9) (f 10) (f 11) (f 12) (f 13) (f 14) (f 15) s11 s12 s13 s14 s15 s16 s17 s18 s19 s20 s21 s22 s23 s24 s25 s26 W0) ?_ ?_ ?_
      · exact ⟨_, _, _, _, _, _, _, _, _, _, _, _, _, _, _, _, rfl, ⟨⟨rfl, rfl, rfl, Nat.le_refl _, fun _ _ => rfl⟩, by simp, by simp, by simp, by simp, by simp, by simp, by simp, by simp, by simp, by simp, by simp, by simp, by simp, by simp, by simp, by simp⟩⟩
      · intro i o ho f a W0 hI hd hun
        obtain ⟨s11, s12, s13, s14, s15, s16, s17, s18, s19, s20, s21, s22, s23, s24, s25, s26, rfl, hS⟩ := hI
        have hN := hS.old.size
        have q0 := (hS.old.block W.heap.size (by omega)).trans r0
        have q1 := (hS.old.block (W.heap.size + 1) (by omega)).trans r1
        have hBW : Below W.heap.size W W0 := Below.of_old hS.old HB0.out (by omega) (by omega)
        rcases i with _ | _ | _ | _ | _ | _ | _ | _ | _ | _ | _ | _ | _ | _ | _ | _ | i
        · simp at ho
          subst ho
          simp [wpOp, go_sem]
          exact .inl ⟨_, _, _, _, _, _, _, _, _, _, _, _, _, _, _, _, ⟨rfl, rfl, rfl, rfl, rfl, rfl, rfl, rfl, rfl, rfl, rfl, rfl, rfl, rfl, rfl, rfl⟩, { hS with h0 := fun _ => rfl }⟩
        · simp at ho
          subst ho
          obtain rfl := hS.h0 (hd ⟨0, .data⟩ (by simp) (by rfl))
          have cc : W0.cell? ⟨W.heap.size, 0, none⟩ = some (.slice (some ⟨bp, fp, none⟩) ww.path.length cp) := (cell_of_row W0 _ 0 _ _ _ q0).trans rfl
          simp [wpOp, go_sem, cc]
          exact .inl ⟨_, _, _, _, _, _, _, _, _, _, _, _, _, _, _, _, ⟨rfl, rfl, rfl, rfl, rfl, rfl, rfl, rfl, rfl, rfl, rfl, rfl, rfl, rfl, rfl, rfl⟩, { hS with h1 := fun _ => rfl }⟩
        · simp at ho
          subst ho
          simp [wpOp, go_sem]
          exact .inl ⟨_, _, _, _, _, _, _, _, _, _, _, _, _, _, _, _, ⟨rfl, rfl, rfl, rfl, rfl, rfl, rfl, rfl, rfl, rfl, rfl, rfl, rfl, rfl, rfl, rfl⟩, { hS with h2 := fun _ => rfl }⟩
        · simp at ho
          subst ho
          obtain rfl := hS.h2 (hd ⟨2, .data⟩ (by simp) (by rfl))
          have cc : W0.cell? ⟨W.heap.size + 1, 2, none⟩ = some (.int .i64 (ng : Int)) := (cell_of_row W0 _ 2 _ _ _ q1).trans rfl
          simp [wpOp, go_sem, cc]
          exact .inl ⟨_, _, _, _, _, _, _, _, _, _, _, _, _, _, _, _, ⟨rfl, rfl, rfl, rfl, rfl, rfl, rfl, rfl, rfl, rfl, rfl, rfl, rfl, rfl, rfl, rfl⟩, { hS with h3 := fun _ => rfl }⟩
        · simp at ho
          subst ho
          obtain rfl := hS.h3 (hd ⟨3, .data⟩ (by simp) (by rfl))
          have mm : max (ng : Int) 0 = (ng : Int) := by omega
          simp [wpOp, go_sem, mm]
          exact .inl ⟨_, _, _, _, _, _, _, _, _, _, _, _, _, _, _, _, ⟨rfl, rfl, rfl, rfl, rfl, rfl, rfl, rfl, rfl, rfl, rfl, rfl, rfl, rfl, rfl, rfl⟩, { hS with h4 := fun _ => by first | rfl | (simp [mm]) }⟩
        · simp at ho
          subst ho
          simp [wpOp, go_sem]
          exact .inl ⟨_, _, _, _, _, _, _, _, _, _, _, _, _, _, _, _, ⟨rfl, rfl, rfl, rfl, rfl, rfl, rfl, rfl, rfl, rfl, rfl, rfl, rfl, rfl, rfl, rfl⟩, { hS with h5 := fun _ => rfl }⟩
        · simp at ho
          subst ho
          obtain rfl := hS.h5 (hd ⟨5, .data⟩ (by simp) (by rfl))
          have cc : W0.cell? ⟨W.heap.size, 0, none⟩ = some (.slice (some ⟨bp, fp, none⟩) ww.path.length cp) := (cell_of_row W0 _ 0 _ _ _ q0).trans rfl
          simp [wpOp, go_sem, cc]
          exact .inl ⟨_, _, _, _, _, _, _, _, _, _, _, _, _, _, _, _, ⟨rfl, rfl, rfl, rfl, rfl, rfl, rfl, rfl, rfl, rfl, rfl, rfl, rfl, rfl, rfl, rfl⟩, { hS with h6 := fun _ => rfl }⟩
        · simp at ho
          subst ho
          obtain rfl := hS.h6 (hd ⟨6, .data⟩ (by simp) (by rfl))
          simp [wpOp, go_sem]
          exact .inl ⟨_, _, _, _, _, _, _, _, _, _, _, _, _, _, _, _, ⟨rfl, rfl, rfl, rfl, rfl, rfl, rfl, rfl, rfl, rfl, rfl, rfl, rfl, rfl, rfl, rfl⟩, { hS with h7 := fun _ => rfl }⟩
        · simp at ho
          subst ho
          obtain rfl := hS.h4 (hd ⟨4, .data⟩ (by simp) (by rfl))
          obtain rfl := hS.h7 (hd ⟨7, .data⟩ (by simp) (by rfl))
          have mm : min (ng : Int) (ww.path.length : Int) = (ng : Int) := by omega
          simp [wpOp, go_sem, mm]
          exact .inl ⟨_, _, _, _, _, _, _, _, _, _, _, _, _, _, _, _, ⟨rfl, rfl, rfl, rfl, rfl, rfl, rfl, rfl, rfl, rfl, rfl, rfl, rfl, rfl, rfl, rfl⟩, { hS with h8 := fun _ => by simp; omega }⟩
        · simp at ho
          subst ho
          obtain rfl := hS.h1 (hd ⟨1, .data⟩ (by simp) (by rfl))
          obtain rfl := hS.h8 (hd ⟨8, .data⟩ (by simp) (by rfl))
          have j0 : (0 : Int) ≤ (ng : Int) := by omega
          have j1 : (ng : Int) ≤ (ww.path.length : Int) := by omega
          have j2 : (ww.path.length : Int) ≤ (cp : Int) := by omega
          simp [wpOp, go_sem, j0, j1, j2]
          exact .inl ⟨_, _, _, _, _, _, _, _, _, _, _, _, _, _, _, _, ⟨rfl, rfl, rfl, rfl, rfl, rfl, rfl, rfl, rfl, rfl, rfl, rfl, rfl, rfl, rfl, rfl⟩, { hS with h9 := fun _ => by simp [HDL.out]; omega }⟩
        · simp at ho
          subst ho
          simp [wpOp, go_sem]
          exact .inl ⟨_, _, _, _, _, _, _, _, _, _, _, _, _, _, _, _, ⟨rfl, rfl, rfl, rfl, rfl, rfl, rfl, rfl, rfl, rfl, rfl, rfl, rfl, rfl, rfl, rfl⟩, { hS with h10 := fun _ => rfl }⟩
        · simp at ho
          subst ho
          obtain rfl := hS.h10 (hd ⟨10, .data⟩ (by simp) (by rfl))
          have cc : W0.cell? ⟨W.heap.size, 1, none⟩ = some (.slice ao ww.over.length co) := (cell_of_row W0 _ 1 _ _ _ q0).trans rfl
          simp [wpOp, go_sem, cc]
          exact .inl ⟨_, _, _, _, _, _, _, _, _, _, _, _, _, _, _, _, ⟨rfl, rfl, rfl, rfl, rfl, rfl, rfl, rfl, rfl, rfl, rfl, rfl, rfl, rfl, rfl, rfl⟩, { hS with h11 := fun _ => rfl }⟩
        · simp at ho
          subst ho
          obtain rfl := hS.h9 (hd ⟨9, .data⟩ (by simp) (by rfl))
          obtain rfl := hS.h11 (hd ⟨11, .data⟩ (by simp) (by rfl))
          have hb : Below W0.heap.size W0 (W0.alloc (.cells #[.slice (some ⟨bp, fp + ng, none⟩) DP.length (cp - ng), .slice ao ww.over.length co] 54)) := (Below.refl _ _).alloc (Nat.le_refl _) _
          simp [wpOp, go_sem]
          exact .inl ⟨_, _, _, _, _, _, _, _, _, _, _, _, _, _, _, _, ⟨rfl, rfl, rfl, rfl, rfl, rfl, rfl, rfl, rfl, rfl, rfl, rfl, rfl, rfl, rfl, rfl⟩, { R3.below hS hb with h12 := fun _ => ⟨_, rfl, by simp, by simp⟩ }⟩
        · simp at ho
          subst ho
          obtain ⟨b, rfl, x0, x1⟩ := hS.h12 (hd ⟨12, .data⟩ (by simp) (by rfl))
          simp [wpOp, go_sem]
          refine .inl ((HCO.out b W0 hBW x0 x1).mono ?_)
          rintro e w' ⟨a, c, rfl, hown, hb⟩
          simp [go_sem]
          exact ⟨_, _, _, _, _, _, _, _, _, _, _, _, _, _, _, _, ⟨rfl, rfl, rfl, rfl, rfl, rfl, rfl, rfl, rfl, rfl, rfl, rfl, rfl, rfl, rfl, rfl⟩, { R3.below hS hb with h13 := fun _ => ⟨a, c, rfl, own_base hown hN⟩ }⟩
        · simp at ho
          subst ho
          obtain ⟨a, c, rfl, o13⟩ := hS.h13 (hd ⟨13, .data⟩ (by simp) (by rfl))
          simp [wpOp, go_sem]
          exact .inl ⟨_, _, _, _, _, _, _, _, _, _, _, _, _, _, _, _, ⟨rfl, rfl, rfl, rfl, rfl, rfl, rfl, rfl, rfl, rfl, rfl, rfl, rfl, rfl, rfl, rfl⟩, { hS with h14 := fun _ => rfl }⟩
        · simp at ho
          subst ho
          simp [wpOp, go_sem]
          exact .inl ⟨_, _, _, _, _, _, _, _, _, _, _, _, _, _, _, _, ⟨rfl, rfl, rfl, rfl, rfl, rfl, rfl, rfl, rfl, rfl, rfl, rfl, rfl, rfl, rfl, rfl⟩, { hS with h15 := fun _ => rfl }⟩
        · simp at ho
      · intro f a W0 hI hall
        obtain ⟨s11, s12, s13, s14, s15, s16, s17, s18, s19, s20, s21, s22, s23, s24, s25, s26, rfl, hS⟩ := hI
        obtain ⟨a, c, rfl, o13⟩ := hS.h13 (hall 13 (by decide))
        obtain rfl := hS.h14 (hall 14 (by decide))
        obtain rfl := hS.h15 (hall 15 (by decide))
        have KO := Lib.hid o13
        have KB : Hid (Below W.heap.size W W0) := Below.of_old hS.old HB0.out (by omega) (by omega)
        clear hS hall o13 r0 r1 hz
        go_wp2_with fail
        go_meet
        case rel => exact ⟨a, c, rfl, rfl, rfl, KO.out, KB.out⟩
    case rest =>
      obtain ⟨a, c, rfl, rfl, rfl, o13, hb⟩ := hcut
      have HIL := Lib.hid o13
      have HT1 : Hid (Tw gR gG W wc) := Tw.of_below hb
      have HGC := Lib.hid (HG.out.below hb)
      have hwz : w0.heap.size ≤ wc.heap.size ∨ True := .inr trivial
      have hll := HLL8.out
      have nR : gR < w0.heap.size := by omega
      have nG : gG < w0.heap.size := by omega
      have HIL2 : Hid (∀ W', Tw gR gG wc W' → IL W' a LL.length LL) := fun W' ht => IntOwn.il (own_keep HIL.out (fun k k1 k2 => ht.block k k2 (by omega) (by omega)))
      clear o13 hb r0 r1 hwz
      go_wp2_with fail
      go_loopg [26] LL.length (fun g' i wr => ∃ (k : Nat) (gk : Gr), k ≤ LL.length ∧ g' = LL.length - k ∧ i = .int .i64 k ∧ GrM wr gR gG gk v ∧ Tw gR gG wc wr ∧ holdAll l.id L g = holdAll l.id (LL.drop k) gk)
      case atStart => exact ⟨0, g, by omega, by omega, rfl, HGC.out, Tw.refl _ _ _, by rw [HE.out]; rfl⟩
      case round =>
        obtain ⟨k, gk, hk, rfl, rfl, hg, ht, heq⟩ := hrel
        obtain ⟨wo, rfl⟩ : ∃ wo : World, wo = wr := ⟨_, rfl⟩
        have HGK := Lib.hid hg
        have HTK := Lib.hid ht
        have HEQ := Lib.hid heq
        have HT0 : Hid (Tw gR gG W wo) := HT1.out.trans ht
        clear hg ht heq
        by_cases hlt : k < LL.length
        · have hdk : decide ((k : Int) < (LL.length : Int)) = true := by simp; omega
          obtain ⟨b, off, rfl, x0⟩ := (HIL2.out _ HTK.out).cell k hlt
          have c0 : (0 : Int) ≤ (k : Int) := by omega
          have c1 : (k : Int) < (LL.length : Int) := by omega
          have hs := HPL.out LL[k] (List.getElem_mem hlt)
          have HCL := Lib.hid (holdone_any gR gG gL gk v l.id LL[k] wo HGK.out (HLK.out _ HT0.out) hs.1 hs.2 n1 n2 n3)
          have HF : Hid (holdAll l.id L g = if (holdOne l.id gk LL[k]).ok then holdAll l.id (LL.drop (k + 1)) (holdOne l.id gk LL[k]) else holdOne l.id gk LL[k]) := by
            show _ = _
            rw [HEQ.out, List.drop_eq_getElem_cons hlt]
            rfl
          generalize hG2 : holdOne l.id gk LL[k] = G2 at *
          clear hG2 hs
          unfold GrPost at HCL
          cases hok : G2.ok with
          | true =>
            rw [hok] at HCL
            rw [hok] at HF
            clear hok
            go_wp2_with fail
            refine HCL.out.mono ?_
            rintro e w2 ⟨rfl, hg2, ht2⟩
            have HG2 := Lib.hid hg2
            have HT2 : Hid (Tw gR gG wc w2) := HTK.out.trans ht2
            clear hg2 ht2 HCL
            go_wp2_with fail
            go_roundg (LL.length - (k + 1))
            case measure => go_light; omega
            case rel => go_light; exact ⟨k + 1, G2, by omega, by omega, by go_num, HG2.out, HT2.out, by simpa using HF.out⟩
          | false =>
            rw [hok] at HCL
            rw [hok] at HF
            clear hok
            go_wp2_with fail
            refine HCL.out.mono ?_
            rintro e w2 ⟨rfl, hg2, ht2⟩
            have HG2 := Lib.hid hg2
            have HT2 : Hid (Tw gR gG W w2) := HT0.out.trans ht2
            clear hg2 ht2 HCL
            go_wp2_with fail
            refine bodyPost_ret (v := .tuple #[]) (by simp [results, Tryz.f291, go_sem]) rfl ⟨rfl, ?_, HT2.out⟩
            have hF := HF.out
            simp at hF
            rw [hF]
            exact HG2.out
        · obtain rfl : k = LL.length := by omega
          have hdk : decide ((LL.length : Int) < (LL.length : Int)) = false := by simp
          have HF : Hid (holdAll l.id L g = gk) := by
            show _ = _
            rw [HEQ.out, List.drop_length]
            rfl
          go_wp2_with fail
          refine bodyPost_ret (v := .tuple #[]) (by simp [results, Tryz.f291, go_sem]) rfl ⟨rfl, ?_, HT0.out⟩
          rw [HF.out]
          exact HGK.out
end Go.Proofs.YtbiehpjhhopjaaaGreat
