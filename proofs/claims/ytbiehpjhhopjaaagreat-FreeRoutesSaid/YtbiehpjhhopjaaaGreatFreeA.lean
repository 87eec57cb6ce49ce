/-
  What is known of a section, a point, a route; walked.
  What is known of a signal, walked.
-/
import Derived.Test.YtbiehpjhhopjaaaGreatStateF
set_option linter.unusedVariables false
set_option linter.unusedSimpArgs false
namespace Go.Proofs.YtbiehpjhhopjaaaGreat
open Go.RowKit Go.Maps Go.Sort
theorem bne_d {α : Type} [DecidableEq α] (x y : α) : (x != y) = !decide (x = y) := by rw [Bool.eq_iff_iff]; simp
/-- a plan and a state, as one value -/
def knV (p : Pl) (s q gg rr t sw lk : Value) : Value := .agg #[.int .i64 p.ver, .int .i64 p.par, s, q, gg, rr, t, sw, lk]
def oddSec (p : Pl) (st : St) (n : Int) : Bool := isOne Tk.id st.tks n && (decide ((holderOf p st n).2 ≠ 0) || decide ((holderOf p st n).1 ≠ 0) || decide ((oneOf Tk.id ⟨0, 0⟩ st.tks n).is ≠ 0))
def oddPt (p : Pl) (st : St) (n : Int) : Bool := decide ((askAt p st n).2 = 0) && decide ((askAt p st n).1 ≠ 0)
def oddRt (st : St) (n : Int) : Bool := st.lks.any fun x => decide (x.id = n ∧ x.ph ≠ 0)
theorem plain163 : PlainF 163 := fun args w => by simp [go_sem]
theorem isTk163 (x : Tk) (n : Int) (g : Nat) (w : World) (hn : w.cell? ⟨g, 0, none⟩ = some (.int .i64 n)) :
    Calls Tryz.prog 163 (#[.agg #[.int .i64 x.id, .int .u8 x.is]] ++ #[.pointer (some ⟨g, 0, none⟩)]) w (BoolPost w (decide (x.id = n))) := by
  have HE : Hid (∀ b, (b = true ↔ x.id = n) → b = decide (x.id = n)) := fun b hb => by rw [Bool.eq_iff_iff, hb]; simp
  generalize decide (x.id = n) = B at *
  have l0 := World.block_lt_of_cell? _ _ hn
  go_enter Tryz.func163, Tryz.ntmps163
  go_wp2_with fail
  all_goals go_ret
  all_goals exact ⟨rbool (HE.out _ (by simp_all)), (Below.refl _ _).alloc (Nat.le_refl _) _⟩
set_option maxRecDepth 100000 in
set_option maxHeartbeats 8000000 in
theorem section92_any (p : Pl) (st : St) (s q gg rr t sw lk : Value) (n : Int) (w : World) (hp : PlM w s q gg rr p) (hf : p.Fit) (hs : StM w t sw lk st) (hsf : st.fit) :
    Calls Tryz.prog 92 #[knV p s q gg rr t sw lk, .int .i64 n] w (BoolPost w (oddSec p st n)) := by
  have HHO : Hid (∀ w', Below w.heap.size w w' → Calls Tryz.prog 56 #[plV p s q gg rr, stV t sw lk, .int .i64 n] w' (TwoPost w' (holderOf p st n))) := fun w' hb => holder_any p st s q gg rr t sw lk n w' (hp.below hb) hf (hs.below hb) hsf
  obtain ⟨a1, c1, rfl, -⟩ := hp.secs
  obtain ⟨a2, c2, rfl, -⟩ := hp.pts
  obtain ⟨a3, c3, rfl, -⟩ := hp.sigs
  obtain ⟨a4, c4, rfl, k4⟩ := hp.rts
  obtain ⟨b1, d1, rfl, m1⟩ := hs.tks
  obtain ⟨b2, d2, rfl, -⟩ := hs.sws
  obtain ⟨b3, d3, rfl, m3⟩ := hs.lks
  have HCO : Hid (∀ w' g, Below w.heap.size w w' → w'.cell? ⟨g, 0, none⟩ = some (.int .i64 n) → Calls Tryz.prog 162 #[.slice b1 st.tks.length d1, .func (.func 163) #[] #[.pointer (some ⟨g, 0, none⟩)]] w' fun e w'' => e = .returned (.int .i64 (fix (fun x => decide (x.id = n)) st.tks)) ∧ Below w'.heap.size w' w'') := fun w' g hb hg =>
    ixfnTk 163 #[.pointer (some ⟨g, 0, none⟩)] (fun x => decide (x.id = n)) b1 d1 st.tks w' (m1.below keeps_tk hb) hsf.1 plain163 (fun W i h hb' => isTk163 _ n g W (ccell hb' hg))
  have HTK : Hid (∀ w', Below w.heap.size w w' → SlA w' 2 RTk b1 d1 st.tks) := fun w' hb => m1.below keeps_tk hb
  have hl := hsf.1
  have HE1 : Hid ((∀ j (h : j < st.tks.length), decide (st.tks[j].id = n) = false) → oddSec p st n = false) := fun h => by
    unfold oddSec
    rw [(one_none (f := Tk.id) (z := ⟨0, 0⟩) h).2]
    rfl
  have HE2 : Hid (∀ k (hk : k < st.tks.length), decide (st.tks[k].id = n) = true → (∀ j (h : j < st.tks.length), j < k → decide (st.tks[j].id = n) = false) → oddSec p st n = (decide ((holderOf p st n).2 ≠ 0) || decide ((holderOf p st n).1 ≠ 0) || decide (st.tks[k].is ≠ 0))) := fun k hk h1 h2 => by
    unfold oddSec
    have h3 := one_some (f := Tk.id) (z := ⟨0, 0⟩) hk h1 h2
    rw [h3.1, h3.2]
    rfl
  clear hp hf hs hsf m1 m3 k4
  generalize oddSec p st n = R at *
  generalize holderOf p st n = HV at *
  unfold TwoPost at HHO
  obtain ⟨hv, he⟩ := HV
  simp only [] at *
  have HFX := Lib.hid (fix_cases (fun x : Tk => decide (x.id = n)) st.tks)
  generalize fix (fun x => decide (x.id = n)) st.tks = FX at *
  unfold plV stV knV at *
  go_enter Tryz.func92, Tryz.ntmps92
  go_upto_region 1 with fail
  generalize hW0 : World.alloc _ _ = W0
  have K0 : Hid (Below w.heap.size w W0) := by show Below _ _ _; rw [← hW0]; exact ((Below.refl _ _).alloc (Nat.le_refl _) _).alloc (by simp) _
  have hbP : W0.heap[w.heap.size]? = some (.cells #[.int .i64 p.ver, .int .i64 p.par, .slice a1 p.secs.length c1, .slice a2 p.pts.length c2, .slice a3 p.sigs.length c3, .slice a4 p.rts.length c4, .slice b1 st.tks.length d1, .slice b2 st.sws.length d2, .slice b3 st.lks.length d3] 137 (0, 0)) := by rw [← hW0]; exact (heap_alloc_old _ _ (by simp)).trans (heap_alloc_new _ _)
  have hbN : W0.heap[w.heap.size + 1]? = some (.cells #[.int .i64 n] 3 (0, 0)) := by rw [← hW0]; exact heap_alloc2_new _ _ _
  have HBP := Lib.hid hbP
  have HBN := Lib.hid hbN
  have pp6 : W0.cell? ⟨w.heap.size, 6, none⟩ = some (.slice b1 st.tks.length d1) := (cell_of_row W0 _ 6 _ _ _ hbP).trans rfl
  have y0 : W0.cell? ⟨w.heap.size + 1, 0, none⟩ = some (.int .i64 n) := (cell_of_row W0 _ 0 _ _ _ hbN).trans rfl
  have HFI := Lib.hid (HCO.out W0 _ K0.out y0)
  clear hW0 hbP hbN y0 HCO
  go_wp2_with fail
  refine HFI.out.mono ?_
  rintro e w1 ⟨rfl, hb1⟩
  have K1 : Hid (Below w.heap.size w w1) := K0.out.trans (hb1.mono K0.out.size)
  have HP1 := Lib.hid ((hb1.block _ (lt_of_block HBP.out)).trans HBP.out)
  have HN1 := Lib.hid ((hb1.block _ (lt_of_block HBN.out)).trans HBN.out)
  clear hb1 HFI pp6
  rcases HFX.out with ⟨rfl, hno⟩ | ⟨k, hk, rfl, hy, hno⟩
  · have HR := Lib.hid (HE1.out hno)
    clear hno HFX
    go_wp2_with fail
    go_ret
    exact ⟨rbool HR.out.symm, K1.out⟩
  · have HR := Lib.hid (HE2.out k hk hy hno)
    clear hy hno HFX HE1 HE2
    have pp0 : w1.cell? ⟨w.heap.size, 0, none⟩ = some (.int .i64 p.ver) := (cell_of_row w1 _ 0 _ _ _ HP1.out).trans rfl
    have pp1 : w1.cell? ⟨w.heap.size, 1, none⟩ = some (.int .i64 p.par) := (cell_of_row w1 _ 1 _ _ _ HP1.out).trans rfl
    have pp2 : w1.cell? ⟨w.heap.size, 2, none⟩ = some (.slice a1 p.secs.length c1) := (cell_of_row w1 _ 2 _ _ _ HP1.out).trans rfl
    have pp3 : w1.cell? ⟨w.heap.size, 3, none⟩ = some (.slice a2 p.pts.length c2) := (cell_of_row w1 _ 3 _ _ _ HP1.out).trans rfl
    have pp4 : w1.cell? ⟨w.heap.size, 4, none⟩ = some (.slice a3 p.sigs.length c3) := (cell_of_row w1 _ 4 _ _ _ HP1.out).trans rfl
    have pp5 : w1.cell? ⟨w.heap.size, 5, none⟩ = some (.slice a4 p.rts.length c4) := (cell_of_row w1 _ 5 _ _ _ HP1.out).trans rfl
    have pp6 : w1.cell? ⟨w.heap.size, 6, none⟩ = some (.slice b1 st.tks.length d1) := (cell_of_row w1 _ 6 _ _ _ HP1.out).trans rfl
    have pp7 : w1.cell? ⟨w.heap.size, 7, none⟩ = some (.slice b2 st.sws.length d2) := (cell_of_row w1 _ 7 _ _ _ HP1.out).trans rfl
    have pp8 : w1.cell? ⟨w.heap.size, 8, none⟩ = some (.slice b3 st.lks.length d3) := (cell_of_row w1 _ 8 _ _ _ HP1.out).trans rfl
    have y0 : w1.cell? ⟨w.heap.size + 1, 0, none⟩ = some (.int .i64 n) := (cell_of_row w1 _ 0 _ _ _ HN1.out).trans rfl
    have HCA := Lib.hid (HHO.out w1 K1.out)
    have i0 : (0 : Int) ≤ (k : Int) := by omega
    have i1 : (k : Int) < (st.tks.length : Int) := by omega
    clear HHO
    go_upto_region 4 with fail
    go_wp2_with fail
    refine HCA.out.mono ?_
    rintro e w2 ⟨rfl, hb2⟩
    have K2 : Hid (Below w.heap.size w w2) := K1.out.trans (hb2.mono K1.out.size)
    have HP2 := Lib.hid ((hb2.block _ (lt_of_block HP1.out)).trans HP1.out)
    clear hb2 HCA pp0 pp1 pp2 pp3 pp4 pp5 pp6 pp7 pp8 y0
    have pp6 : w2.cell? ⟨w.heap.size, 6, none⟩ = some (.slice b1 st.tks.length d1) := (cell_of_row w2 _ 6 _ _ _ HP2.out).trans rfl
    obtain ⟨b, off, rfl, x0, x1⟩ := (HTK.out w2 K2.out).tk hk
    by_cases q1 : he = 0
    · subst q1
      by_cases q2 : hv = 0
      · subst q2
        go_wp2_with fail
        all_goals go_ret
        all_goals exact ⟨rbool (by rw [HR.out]; simp; exact bne_d _ _), K2.out⟩
      · have hd2 : decide (hv = 0) = false := decide_eq_false q2
        go_wp2_with fail
        go_ret
        exact ⟨rbool (by rw [HR.out]; simp [q2]), K2.out⟩
    · have hd1 : decide (he = 0) = false := decide_eq_false q1
      go_wp2_with fail
      go_ret
      exact ⟨rbool (by rw [HR.out]; simp [q1]), K2.out⟩
set_option maxRecDepth 100000 in
set_option maxHeartbeats 8000000 in
theorem point93_any (p : Pl) (st : St) (s q gg rr t sw lk : Value) (n : Int) (w : World) (hp : PlM w s q gg rr p) (hf : p.Fit) (hs : StM w t sw lk st) (hsf : st.fit) :
    Calls Tryz.prog 93 #[knV p s q gg rr t sw lk, .int .i64 n] w (BoolPost w (oddPt p st n)) := by
  have HHO : Hid (∀ w', Below w.heap.size w w' → Calls Tryz.prog 57 #[plV p s q gg rr, stV t sw lk, .int .i64 n] w' (TwoPost w' (askAt p st n))) := fun w' hb => asked_any p st s q gg rr t sw lk n w' (hp.below hb) hf (hs.below hb) hsf
  obtain ⟨a1, c1, rfl, -⟩ := hp.secs
  obtain ⟨a2, c2, rfl, -⟩ := hp.pts
  obtain ⟨a3, c3, rfl, -⟩ := hp.sigs
  obtain ⟨a4, c4, rfl, k4⟩ := hp.rts
  obtain ⟨b1, d1, rfl, m1⟩ := hs.tks
  obtain ⟨b2, d2, rfl, -⟩ := hs.sws
  obtain ⟨b3, d3, rfl, m3⟩ := hs.lks
  have HE : Hid (oddPt p st n = (decide ((askAt p st n).2 = 0) && decide ((askAt p st n).1 ≠ 0))) := rfl
  clear hp hf hs hsf m1 m3 k4
  generalize oddPt p st n = R at *
  generalize askAt p st n = HV at *
  unfold TwoPost at HHO
  obtain ⟨hv, he⟩ := HV
  simp only [] at *
  unfold plV stV knV at *
  go_enter Tryz.func93, Tryz.ntmps93
  go_upto_region 1 with fail
  generalize hW0 : World.alloc _ _ = W0
  have K0 : Hid (Below w.heap.size w W0) := by show Below _ _ _; rw [← hW0]; exact (Below.refl _ _).alloc (Nat.le_refl _) _
  have hbP : W0.heap[w.heap.size]? = some (.cells #[.int .i64 p.ver, .int .i64 p.par, .slice a1 p.secs.length c1, .slice a2 p.pts.length c2, .slice a3 p.sigs.length c3, .slice a4 p.rts.length c4, .slice b1 st.tks.length d1, .slice b2 st.sws.length d2, .slice b3 st.lks.length d3] 137 (0, 0)) := by rw [← hW0]; exact heap_alloc_new _ _
  have HBP := Lib.hid hbP
  have pp0 : W0.cell? ⟨w.heap.size, 0, none⟩ = some (.int .i64 p.ver) := (cell_of_row W0 _ 0 _ _ _ hbP).trans rfl
  have pp1 : W0.cell? ⟨w.heap.size, 1, none⟩ = some (.int .i64 p.par) := (cell_of_row W0 _ 1 _ _ _ hbP).trans rfl
  have pp2 : W0.cell? ⟨w.heap.size, 2, none⟩ = some (.slice a1 p.secs.length c1) := (cell_of_row W0 _ 2 _ _ _ hbP).trans rfl
  have pp3 : W0.cell? ⟨w.heap.size, 3, none⟩ = some (.slice a2 p.pts.length c2) := (cell_of_row W0 _ 3 _ _ _ hbP).trans rfl
  have pp4 : W0.cell? ⟨w.heap.size, 4, none⟩ = some (.slice a3 p.sigs.length c3) := (cell_of_row W0 _ 4 _ _ _ hbP).trans rfl
  have pp5 : W0.cell? ⟨w.heap.size, 5, none⟩ = some (.slice a4 p.rts.length c4) := (cell_of_row W0 _ 5 _ _ _ hbP).trans rfl
  have pp6 : W0.cell? ⟨w.heap.size, 6, none⟩ = some (.slice b1 st.tks.length d1) := (cell_of_row W0 _ 6 _ _ _ hbP).trans rfl
  have pp7 : W0.cell? ⟨w.heap.size, 7, none⟩ = some (.slice b2 st.sws.length d2) := (cell_of_row W0 _ 7 _ _ _ hbP).trans rfl
  have pp8 : W0.cell? ⟨w.heap.size, 8, none⟩ = some (.slice b3 st.lks.length d3) := (cell_of_row W0 _ 8 _ _ _ hbP).trans rfl
  have HCA := Lib.hid (HHO.out W0 K0.out)
  clear hW0 hbP HHO
  go_wp2_with fail
  refine HCA.out.mono ?_
  rintro e w2 ⟨rfl, hb2⟩
  have K2 : Hid (Below w.heap.size w w2) := K0.out.trans (hb2.mono K0.out.size)
  clear hb2 HCA pp0 pp1 pp2 pp3 pp4 pp5 pp6 pp7 pp8
  by_cases q1 : he = 0
  · subst q1
    go_wp2_with fail
    go_ret
    exact ⟨rbool (by rw [HE.out]; simp; exact bne_d _ _), K2.out⟩
  · have hd1 : decide (he = 0) = false := decide_eq_false q1
    go_wp2_with fail
    go_ret
    exact ⟨rbool (by rw [HE.out]; simp [q1]), K2.out⟩
theorem plain167 : PlainF 167 := fun args w => by simp [go_sem]
theorem isLk167 (x : Lk) (n : Int) (g : Nat) (w : World) (hn : w.cell? ⟨g, 0, none⟩ = some (.int .i64 n)) :
    Calls Tryz.prog 167 (#[.agg #[.int .i64 x.id, .int .u8 x.ph, .int .i64 x.gone, .int .i64 x.left]] ++ #[.pointer (some ⟨g, 0, none⟩)]) w (BoolPost w (decide (x.id = n ∧ x.ph ≠ 0))) := by
  have HE : Hid (∀ b, (b = true ↔ (x.id = n ∧ x.ph ≠ 0)) → b = decide (x.id = n ∧ x.ph ≠ 0)) := fun b hb => by rw [Bool.eq_iff_iff, hb]; simp
  generalize decide (x.id = n ∧ x.ph ≠ 0) = B at *
  have l0 := World.block_lt_of_cell? _ _ hn
  by_cases h1 : x.id = n
  · have hd1 : decide (x.id = n) = true := decide_eq_true h1
    have HQ := Lib.hid h1
    clear h1
    go_enter Tryz.func167, Tryz.ntmps167
    go_wp2_with fail
    go_ret
    exact ⟨rbool (HE.out _ (by simp [HQ.out])), (Below.refl _ _).alloc (Nat.le_refl _) _⟩
  · have hd1 : decide (x.id = n) = false := decide_eq_false h1
    have HQ := Lib.hid h1
    clear h1
    go_enter Tryz.func167, Tryz.ntmps167
    go_wp2_with fail
    go_ret
    exact ⟨rbool (HE.out _ (by simp [HQ.out])), (Below.refl _ _).alloc (Nat.le_refl _) _⟩
set_option maxRecDepth 100000 in
set_option maxHeartbeats 8000000 in
theorem route95_any (p : Pl) (st : St) (s q gg rr t sw lk : Value) (n : Int) (w : World) (hp : PlM w s q gg rr p) (hf : p.Fit) (hs : StM w t sw lk st) (hsf : st.fit) :
    Calls Tryz.prog 95 #[knV p s q gg rr t sw lk, .int .i64 n] w (BoolPost w (oddRt st n)) := by
  obtain ⟨a1, c1, rfl, -⟩ := hp.secs
  obtain ⟨a2, c2, rfl, -⟩ := hp.pts
  obtain ⟨a3, c3, rfl, -⟩ := hp.sigs
  obtain ⟨a4, c4, rfl, k4⟩ := hp.rts
  obtain ⟨b1, d1, rfl, m1⟩ := hs.tks
  obtain ⟨b2, d2, rfl, -⟩ := hs.sws
  obtain ⟨b3, d3, rfl, m3⟩ := hs.lks
  have HCO : Hid (∀ w' g, Below w.heap.size w w' → w'.cell? ⟨g, 0, none⟩ = some (.int .i64 n) → Calls Tryz.prog 166 #[.slice b3 st.lks.length d3, .func (.func 167) #[] #[.pointer (some ⟨g, 0, none⟩)]] w' fun e w'' => e = .returned (.bool (st.lks.any fun x => decide (x.id = n ∧ x.ph ≠ 0))) ∧ Below w'.heap.size w' w'') := fun w' g hb hg =>
    confnLk 167 #[.pointer (some ⟨g, 0, none⟩)] (fun x => decide (x.id = n ∧ x.ph ≠ 0)) b3 d3 st.lks w' (m3.below keeps_lk hb) hsf.2.2 plain167 (fun W i h hb' => isLk167 _ n g W (ccell hb' hg))
  have HE : Hid (oddRt st n = st.lks.any fun x => decide (x.id = n ∧ x.ph ≠ 0)) := rfl
  clear hp hf hs hsf m1 m3 k4
  rw [HE.out]
  clear HE
  generalize (st.lks.any fun x => decide (x.id = n ∧ x.ph ≠ 0)) = R at *
  unfold knV at *
  go_enter Tryz.func95, Tryz.ntmps95
  go_upto_region 1 with fail
  generalize hW0 : World.alloc _ _ = W0
  have K0 : Hid (Below w.heap.size w W0) := by show Below _ _ _; rw [← hW0]; exact ((Below.refl _ _).alloc (Nat.le_refl _) _).alloc (by simp) _
  have hbP : W0.heap[w.heap.size]? = some (.cells #[.int .i64 p.ver, .int .i64 p.par, .slice a1 p.secs.length c1, .slice a2 p.pts.length c2, .slice a3 p.sigs.length c3, .slice a4 p.rts.length c4, .slice b1 st.tks.length d1, .slice b2 st.sws.length d2, .slice b3 st.lks.length d3] 137 (0, 0)) := by rw [← hW0]; exact (heap_alloc_old _ _ (by simp)).trans (heap_alloc_new _ _)
  have hbN : W0.heap[w.heap.size + 1]? = some (.cells #[.int .i64 n] 3 (0, 0)) := by rw [← hW0]; exact heap_alloc2_new _ _ _
  have HBP := Lib.hid hbP
  have HBN := Lib.hid hbN
  have pp8 : W0.cell? ⟨w.heap.size, 8, none⟩ = some (.slice b3 st.lks.length d3) := (cell_of_row W0 _ 8 _ _ _ hbP).trans rfl
  have y0 : W0.cell? ⟨w.heap.size + 1, 0, none⟩ = some (.int .i64 n) := (cell_of_row W0 _ 0 _ _ _ hbN).trans rfl
  have HFI := Lib.hid (HCO.out W0 _ K0.out y0)
  clear hW0 hbP hbN y0 HCO
  go_wp2_with fail
  refine HFI.out.mono ?_
  rintro e w1 ⟨rfl, hb1⟩
  have K1 : Hid (Below w.heap.size w w1) := K0.out.trans (hb1.mono K0.out.size)
  clear hb1 HFI pp8
  go_wp2_with fail
  go_ret
  exact ⟨rfl, K1.out⟩
end Go.Proofs.YtbiehpjhhopjaaaGreat
set_option linter.unusedVariables false
set_option linter.unusedSimpArgs false
namespace Go.Proofs.YtbiehpjhhopjaaaGreat
open Go.RowKit Go.Maps Go.Sort
def oddSg (p : Pl) (st : St) (n : Int) : Bool := p.rts.any fun x => (decide (x.entry = n ∨ x.exit = n) && decide (0 < n)) && oddRt st x.id
theorem plain165 : PlainF 165 := fun args w => by simp [go_sem]
set_option maxRecDepth 100000 in
set_option maxHeartbeats 8000000 in
theorem isRt165 (p : Pl) (st : St) (x : Rt) (n : Int) (g h : Nat) (a1 a2 a3 a4 b1 b2 b3 : Option Addr) (c1 c2 c3 c4 d1 d2 d3 : Nat) (p1 o1 f1 : Option Addr) (p2 p3 o2 o3 f2 f3 : Nat) (w : World) (hn : w.cell? ⟨g, 0, none⟩ = some (.int .i64 n))
    (hk : w.heap[h]? = some (.cells #[.int .i64 p.ver, .int .i64 p.par, .slice a1 p.secs.length c1, .slice a2 p.pts.length c2, .slice a3 p.sigs.length c3, .slice a4 p.rts.length c4, .slice b1 st.tks.length d1, .slice b2 st.sws.length d2, .slice b3 st.lks.length d3] 137 (0, 0)))
    (hc : ∀ m w', Below w.heap.size w w' → Calls Tryz.prog 95 #[knV p (.slice a1 p.secs.length c1) (.slice a2 p.pts.length c2) (.slice a3 p.sigs.length c3) (.slice a4 p.rts.length c4) (.slice b1 st.tks.length d1) (.slice b2 st.sws.length d2) (.slice b3 st.lks.length d3), .int .i64 m] w' (BoolPost w' (oddRt st m))) :
    Calls Tryz.prog 165 (#[.agg #[.int .i64 x.id, .int .i64 x.entry, .int .i64 x.exit, .slice p1 p2 p3, .slice o1 o2 o3, .slice f1 f2 f3, .int .i64 x.timer]] ++ #[.pointer (some ⟨g, 0, none⟩), .pointer (some ⟨h, 0, none⟩)]) w (BoolPost w ((decide (x.entry = n ∨ x.exit = n) && decide (0 < n)) && oddRt st x.id)) := by
  have HC := Lib.hid (hc x.id)
  have HE : Hid (∀ b, (b = ((decide (x.entry = n ∨ x.exit = n) && decide (0 < n)) && oddRt st x.id)) → b = ((decide (x.entry = n ∨ x.exit = n) && decide (0 < n)) && oddRt st x.id)) := fun b h => h
  have l0 := World.block_lt_of_cell? _ _ hn
  have l1 := lt_of_block hk
  have pp0 : w.cell? ⟨h, 0, none⟩ = some (.int .i64 p.ver) := (cell_of_row w _ 0 _ _ _ hk).trans rfl
  have pp1 : w.cell? ⟨h, 1, none⟩ = some (.int .i64 p.par) := (cell_of_row w _ 1 _ _ _ hk).trans rfl
  have pp2 : w.cell? ⟨h, 2, none⟩ = some (.slice a1 p.secs.length c1) := (cell_of_row w _ 2 _ _ _ hk).trans rfl
  have pp3 : w.cell? ⟨h, 3, none⟩ = some (.slice a2 p.pts.length c2) := (cell_of_row w _ 3 _ _ _ hk).trans rfl
  have pp4 : w.cell? ⟨h, 4, none⟩ = some (.slice a3 p.sigs.length c3) := (cell_of_row w _ 4 _ _ _ hk).trans rfl
  have pp5 : w.cell? ⟨h, 5, none⟩ = some (.slice a4 p.rts.length c4) := (cell_of_row w _ 5 _ _ _ hk).trans rfl
  have pp6 : w.cell? ⟨h, 6, none⟩ = some (.slice b1 st.tks.length d1) := (cell_of_row w _ 6 _ _ _ hk).trans rfl
  have pp7 : w.cell? ⟨h, 7, none⟩ = some (.slice b2 st.sws.length d2) := (cell_of_row w _ 7 _ _ _ hk).trans rfl
  have pp8 : w.cell? ⟨h, 8, none⟩ = some (.slice b3 st.lks.length d3) := (cell_of_row w _ 8 _ _ _ hk).trans rfl
  clear hk hc
  generalize hR : ((decide (x.entry = n ∨ x.exit = n) && decide (0 < n)) && oddRt st x.id) = R at *
  generalize oddRt st x.id = OR at *
  have HR := Lib.hid hR
  clear hR HE
  unfold knV at *
  go_enter Tryz.func165, Tryz.ntmps165
  go_wp2_with fail
  all_goals first
    | (refine (HC.out _ ((Below.refl _ _).alloc (Nat.le_refl _) _)).mono ?_
       rintro e w2 ⟨rfl, hb2⟩
       have K2 : Hid (Below w.heap.size w w2) := ((Below.refl _ _).alloc (Nat.le_refl _) _).trans (hb2.mono (by simp))
       clear hb2
       go_wp2_with fail
       go_ret
       exact ⟨rbool (by rw [← HR.out]; simp [*]), K2.out⟩)
    | (go_ret
       exact ⟨rbool (by rw [← HR.out]; simp [*] <;> (intros; omega)), (Below.refl _ _).alloc (Nat.le_refl _) _⟩)
set_option maxRecDepth 100000 in
set_option maxHeartbeats 8000000 in
theorem signal94_any (p : Pl) (st : St) (s q gg rr t sw lk : Value) (n : Int) (w : World) (hp : PlM w s q gg rr p) (hf : p.Fit) (hs : StM w t sw lk st) (hsf : st.fit) :
    Calls Tryz.prog 94 #[knV p s q gg rr t sw lk, .int .i64 n] w (BoolPost w (oddSg p st n)) := by
  have HRT : Hid (∀ m w', Below w.heap.size w w' → Calls Tryz.prog 95 #[knV p s q gg rr t sw lk, .int .i64 m] w' (BoolPost w' (oddRt st m))) := fun m w' hb => route95_any p st s q gg rr t sw lk m w' (hp.below hb) hf (hs.below hb) hsf
  obtain ⟨a1, c1, rfl, -⟩ := hp.secs
  obtain ⟨a2, c2, rfl, -⟩ := hp.pts
  obtain ⟨a3, c3, rfl, -⟩ := hp.sigs
  obtain ⟨a4, c4, rfl, k4⟩ := hp.rts
  obtain ⟨b1, d1, rfl, m1⟩ := hs.tks
  obtain ⟨b2, d2, rfl, -⟩ := hs.sws
  obtain ⟨b3, d3, rfl, m3⟩ := hs.lks
  have HCO : Hid (∀ w' g h, Below w.heap.size w w' → w'.cell? ⟨g, 0, none⟩ = some (.int .i64 n) → w'.heap[h]? = some (.cells #[.int .i64 p.ver, .int .i64 p.par, .slice a1 p.secs.length c1, .slice a2 p.pts.length c2, .slice a3 p.sigs.length c3, .slice a4 p.rts.length c4, .slice b1 st.tks.length d1, .slice b2 st.sws.length d2, .slice b3 st.lks.length d3] 137 (0, 0)) → Calls Tryz.prog 164 #[.slice a4 p.rts.length c4, .func (.func 165) #[] #[.pointer (some ⟨g, 0, none⟩), .pointer (some ⟨h, 0, none⟩)]] w' fun e w'' => e = .returned (.bool (oddSg p st n)) ∧ Below w'.heap.size w' w'') := fun w' g h hb hg hh =>
    confnRt 165 #[.pointer (some ⟨g, 0, none⟩), .pointer (some ⟨h, 0, none⟩)] (fun x => (decide (x.entry = n ∨ x.exit = n) && decide (0 < n)) && oddRt st x.id) a4 c4 p.rts w' (k4.below keeps_rt hb) hf.rts plain165 (fun W i hi hb' p1 p2 p3 o1 o2 o3 f1 f2 f3 _ => isRt165 p st _ n g h _ _ _ _ _ _ _ _ _ _ _ _ _ _ _ _ _ _ _ _ _ _ _ W (ccell hb' hg) ((hb'.block _ (lt_of_block hh)).trans hh) (fun m w2 hb2 => HRT.out m w2 ((hb.trans (hb'.mono hb.size)).trans (hb2.mono (hb.trans (hb'.mono hb.size)).size))))
  clear hp hf hs hsf m1 m3 k4 HRT
  generalize oddSg p st n = R at *
  unfold knV at *
  go_enter Tryz.func94, Tryz.ntmps94
  go_upto_region 1 with fail
  generalize hW0 : World.alloc _ _ = W0
  have K0 : Hid (Below w.heap.size w W0) := by show Below _ _ _; rw [← hW0]; exact ((Below.refl _ _).alloc (Nat.le_refl _) _).alloc (by simp) _
  have hbP : W0.heap[w.heap.size]? = some (.cells #[.int .i64 p.ver, .int .i64 p.par, .slice a1 p.secs.length c1, .slice a2 p.pts.length c2, .slice a3 p.sigs.length c3, .slice a4 p.rts.length c4, .slice b1 st.tks.length d1, .slice b2 st.sws.length d2, .slice b3 st.lks.length d3] 137 (0, 0)) := by rw [← hW0]; exact (heap_alloc_old _ _ (by simp)).trans (heap_alloc_new _ _)
  have hbN : W0.heap[w.heap.size + 1]? = some (.cells #[.int .i64 n] 3 (0, 0)) := by rw [← hW0]; exact heap_alloc2_new _ _ _
  have HBP := Lib.hid hbP
  have HBN := Lib.hid hbN
  have pp5 : W0.cell? ⟨w.heap.size, 5, none⟩ = some (.slice a4 p.rts.length c4) := (cell_of_row W0 _ 5 _ _ _ hbP).trans rfl
  have y0 : W0.cell? ⟨w.heap.size + 1, 0, none⟩ = some (.int .i64 n) := (cell_of_row W0 _ 0 _ _ _ hbN).trans rfl
  have HFI := Lib.hid (HCO.out W0 _ _ K0.out y0 hbP)
  clear hW0 hbP hbN y0 HCO
  go_wp2_with fail
  refine HFI.out.mono ?_
  rintro e w1 ⟨rfl, hb1⟩
  have K1 : Hid (Below w.heap.size w w1) := K0.out.trans (hb1.mono K0.out.size)
  clear hb1 HFI pp5
  go_wp2_with fail
  go_ret
  exact ⟨rfl, K1.out⟩
end Go.Proofs.YtbiehpjhhopjaaaGreat
