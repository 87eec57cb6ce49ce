/-
 What is known of a section, a point, a route; walked.
 What is known of a signal, walked.
 slices.Sort and slices.Compact, of numbers, from the shelf.
 free.some, walked.
-/
import Derived.Test.YtbiehpjhhopjaaaGreatTLawA
import Derived.Test.YtbiehpjhhopjaaaGreatTClone
import Derived.Shelf.SortM.Plain
import Derived.Shelf.SortM.SortNone
import Derived.Ground.SlgmProg
import Derived.Shelf.Slices.CompactI
import Derived.Ground.Names2Prog
import Derived.Sort.OwnSortedInts
import Derived.Lib.RowBridge
set_option linter.unusedVariables false
set_option linter.unusedSimpArgs false
namespace Go.Proofs.YtbiehpjhhopjaaaGreat
open Go.RowKit Go.Maps Go.Sort
theorem bne_d {α : Type} [DecidableEq α] (x y : α) : (x != y) = !decide (x = y) := by rw [Bool.eq_iff_iff]; simp
def knV (p : Pl) (s q gg rr t sw lk : Value) : Value := .agg #[.int .i64 p.ver, .int .i64 p.par, s, q, gg, rr, t, sw, lk]
def oddSec (p : Pl) (st : St) (n : Int) : Bool := isOne Tk.id st.tks n && (decide ((holderOf p st n).2 ≠ 0) || decide ((holderOf p st n).1 ≠ 0) || decide ((oneOf Tk.id ⟨0, 0⟩ st.tks n).is ≠ 0))
def oddPt (p : Pl) (st : St) (n : Int) : Bool := decide ((askAt p st n).2 = 0) && decide ((askAt p st n).1 ≠ 0)
def oddRt (st : St) (n : Int) : Bool := st.lks.any fun x => decide (x.id = n ∧ x.ph ≠ 0)
theorem plain163 : PlainF 163 := fun args w => by simp [go_sem]
theorem isTk163 (x : Tk) (n : Int) (g : Nat) (w : World) (hn : w.cell? ⟨g, 0, none⟩ = some (.int .i64 n)) :
  Calls Tryz.prog 163 (#[.agg #[.int .i64 x.id, .int .u8 x.is]] ++ #[.pointer (some ⟨g, 0, none⟩)]) w (BoolPost w (decide (x.id = n))) := by
 have HE : Hid (∀ b, (b = true ↔ x.id = n) → b = decide (x.id = n)) := fun b hb => by rw [Bool.eq_iff_iff, hb]; simp
 generalize decide (x.id = n) = B at *
 have l0 := World.block_lt_of_cell? _ _ hn
 go_enter Tryz.func163, Tryz.ntmps163
 go_wp2_with fail
 all_goals go_ret
 all_goals exact ⟨rbool (HE.out _ (by simp_all)), (Below.refl _ _).alloc (Nat.le_refl _) _⟩
set_option maxRecDepth 100000 in
set_option maxHeartbeats 8000000 in
theorem section92_any (p : Pl) (st : St) (s q gg rr t sw lk : Value) (n : Int) (w : World) (hp : PlM w s q gg rr p) (hf : p.Fit) (hs : StM w t sw lk st) (hsf : st.fit) :
  Calls Tryz.prog 92 #[knV p s q gg rr t sw lk, .int .i64 n] w (BoolPost w (oddSec p st n)) := by
 have HHO : Hid (∀ w', Below w.heap.size w w' → Calls Tryz.prog 56 #[plV p s q gg rr, stV t sw lk, .int .i64 n] w' (TwoPost w' (holderOf p st n))) := fun w' hb => holder_any p st s q gg rr t sw lk n w' (hp.below hb) hf (hs.below hb) hsf
 obtain ⟨a1, c1, rfl, -⟩ := hp.secs
 obtain ⟨a2, c2, rfl, -⟩ := hp.pts
 obtain ⟨a3, c3, rfl, -⟩ := hp.sigs
 obtain ⟨a4, c4, rfl, k4⟩ := hp.rts
 obtain ⟨b1, d1, rfl, m1⟩ := hs.tks
 obtain ⟨b2, d2, rfl, -⟩ := hs.sws
 obtain ⟨b3, d3, rfl, m3⟩ := hs.lks
 have HCO : Hid (∀ w' g, Below w.heap.size w w' → w'.cell? ⟨g, 0, none⟩ = some (.int .i64 n) → Calls Tryz.prog 162 #[.slice b1 st.tks.length d1, .func (.func 163) #[] #[.pointer (some ⟨g, 0, none⟩)]] w' fun e w'' => e = .returned (.int .i64 (fix (fun x => decide (x.id = n)) st.tks)) ∧ Below w'.heap.size w' w'') := fun w' g hb hg =>
  ixfnTk 163 #[.pointer (some ⟨g, 0, none⟩)] (fun x => decide (x.id = n)) b1 d1 st.tks w' (m1.below keeps_tk hb) hsf.1 plain163 (fun W i h hb' => isTk163 _ n g W (ccell hb' hg))
 have HTK : Hid (∀ w', Below w.heap.size w w' → SlA w' 2 RTk b1 d1 st.tks) := fun w' hb => m1.below keeps_tk hb
 have hl := hsf.1
 have HE1 : Hid ((∀ j (h : j < st.tks.length), decide (st.tks[j].id = n) = false) → oddSec p st n = false) := fun h => by
  unfold oddSec
  rw [(one_none (f := Tk.id) (z := ⟨0, 0⟩) h).2]
  rfl
 have HE2 : Hid (∀ k (hk : k < st.tks.length), decide (st.tks[k].id = n) = true → (∀ j (h : j < st.tks.length), j < k → decide (st.tks[j].id = n) = false) → oddSec p st n = (decide ((holderOf p st n).2 ≠ 0) || decide ((holderOf p st n).1 ≠ 0) || decide (st.tks[k].is ≠ 0))) := fun k hk h1 h2 => by
  unfold oddSec
  have h3 := one_some (f := Tk.id) (z := ⟨0, 0⟩) hk h1 h2
  rw [h3.1, h3.2]
  rfl
 clear hp hf hs hsf m1 m3 k4
 generalize oddSec p st n = R at *
 generalize holderOf p st n = HV at *
 unfold TwoPost at HHO
 obtain ⟨hv, he⟩ := HV
 simp only [] at *
 have HFX := Lib.hid (fix_cases (fun x : Tk => decide (x.id = n)) st.tks)
 generalize fix (fun x => decide (x.id = n)) st.tks = FX at *
 unfold plV stV knV at *
 go_enter Tryz.func92, Tryz.ntmps92
 go_upto_region 1 with fail
 generalize hW0 : World.alloc _ _ = W0
 have K0 : Hid (Below w.heap.size w W0) := by show Below _ _ _; rw [← hW0]; exact ((Below.refl _ _).alloc (Nat.le_refl _) _).alloc (by simp) _
 have hbP : W0.heap[w.heap.size]? = some (.cells #[.int .i64 p.ver, .int .i64 p.par, .slice a1 p.secs.length c1, .slice a2 p.pts.length c2, .slice a3 p.sigs.length c3, .slice a4 p.rts.length c4, .slice b1 st.tks.length d1, .slice b2 st.sws.length d2, .slice b3 st.lks.length d3] 137 (0, 0)) := by rw [← hW0]; exact (heap_alloc_old _ _ (by simp)).trans (heap_alloc_new _ _)
 have hbN : W0.heap[w.heap.size + 1]? = some (.cells #[.int .i64 n] 3 (0, 0)) := by rw [← hW0]; exact heap_alloc2_new _ _ _
 have HBP := Lib.hid hbP
 have HBN := Lib.hid hbN
 have pp6 : W0.cell? ⟨w.heap.size, 6, none⟩ = some (.slice b1 st.tks.length d1) := (cell_of_row W0 _ 6 _ _ _ hbP).trans rfl
 have y0 : W0.cell? ⟨w.heap.size + 1, 0, none⟩ = some (.int .i64 n) := (cell_of_row W0 _ 0 _ _ _ hbN).trans rfl
 have HFI := Lib.hid (HCO.out W0 _ K0.out y0)
 clear hW0 hbP hbN y0 HCO
 go_wp2_with fail
 refine HFI.out.mono ?_
 rintro e w1 ⟨rfl, hb1⟩
 have K1 : Hid (Below w.heap.size w w1) := K0.out.trans (hb1.mono K0.out.size)
 have HP1 := Lib.hid ((hb1.block _ (lt_of_block HBP.out)).trans HBP.out)
 have HN1 := Lib.hid ((hb1.block _ (lt_of_block HBN.out)).trans HBN.out)
 clear hb1 HFI pp6
 rcases HFX.out with ⟨rfl, hno⟩ | ⟨k, hk, rfl, hy, hno⟩
 ·have HR := Lib.hid (HE1.out hno)
  clear hno HFX
  go_wp2_with fail
  go_ret
  exact ⟨rbool HR.out.symm, K1.out⟩
 ·have HR := Lib.hid (HE2.out k hk hy hno)
  clear hy hno HFX HE1 HE2
  obtain ⟨pp0, pp1, pp2, pp3, pp4, pp5, pp6, pp7, pp8⟩ := cells9 HP1.out
  have y0 : w1.cell? ⟨w.heap.size + 1, 0, none⟩ = some (.int .i64 n) := (cell_of_row w1 _ 0 _ _ _ HN1.out).trans rfl
  have HCA := Lib.hid (HHO.out w1 K1.out)
  have i0 : (0 : Int) ≤ (k : Int) := by omega
  have i1 : (k : Int) < (st.tks.length : Int) := by omega
  clear HHO
  go_upto_region 4 with fail
  go_wp2_with fail
  refine HCA.out.mono ?_
  rintro e w2 ⟨rfl, hb2⟩
  have K2 : Hid (Below w.heap.size w w2) := K1.out.trans (hb2.mono K1.out.size)
  have HP2 := Lib.hid ((hb2.block _ (lt_of_block HP1.out)).trans HP1.out)
  clear hb2 HCA pp0 pp1 pp2 pp3 pp4 pp5 pp6 pp7 pp8 y0
  have pp6 : w2.cell? ⟨w.heap.size, 6, none⟩ = some (.slice b1 st.tks.length d1) := (cell_of_row w2 _ 6 _ _ _ HP2.out).trans rfl
  obtain ⟨b, off, rfl, x0, x1⟩ := (HTK.out w2 K2.out).tk hk
  by_cases q1 : he = 0
  ·subst q1
   by_cases q2 : hv = 0
   ·subst q2
    go_wp2_with fail
    all_goals go_ret
    all_goals exact ⟨rbool (by rw [HR.out]; simp; exact bne_d _ _), K2.out⟩
   ·have hd2 : decide (hv = 0) = false := decide_eq_false q2
    go_wp2_with fail
    go_ret
    exact ⟨rbool (by rw [HR.out]; simp [q2]), K2.out⟩
  ·have hd1 : decide (he = 0) = false := decide_eq_false q1
   go_wp2_with fail
   go_ret
   exact ⟨rbool (by rw [HR.out]; simp [q1]), K2.out⟩
set_option maxRecDepth 100000 in
set_option maxHeartbeats 8000000 in
theorem point93_any (p : Pl) (st : St) (s q gg rr t sw lk : Value) (n : Int) (w : World) (hp : PlM w s q gg rr p) (hf : p.Fit) (hs : StM w t sw lk st) (hsf : st.fit) :
  Calls Tryz.prog 93 #[knV p s q gg rr t sw lk, .int .i64 n] w (BoolPost w (oddPt p st n)) := by
 have HHO : Hid (∀ w', Below w.heap.size w w' → Calls Tryz.prog 57 #[plV p s q gg rr, stV t sw lk, .int .i64 n] w' (TwoPost w' (askAt p st n))) := fun w' hb => asked_any p st s q gg rr t sw lk n w' (hp.below hb) hf (hs.below hb) hsf
 obtain ⟨a1, c1, rfl, -⟩ := hp.secs
 obtain ⟨a2, c2, rfl, -⟩ := hp.pts
 obtain ⟨a3, c3, rfl, -⟩ := hp.sigs
 obtain ⟨a4, c4, rfl, k4⟩ := hp.rts
 obtain ⟨b1, d1, rfl, m1⟩ := hs.tks
 obtain ⟨b2, d2, rfl, -⟩ := hs.sws
 obtain ⟨b3, d3, rfl, m3⟩ := hs.lks
 have HE : Hid (oddPt p st n = (decide ((askAt p st n).2 = 0) && decide ((askAt p st n).1 ≠ 0))) := rfl
 clear hp hf hs hsf m1 m3 k4
 generalize oddPt p st n = R at *
 generalize askAt p st n = HV at *
 unfold TwoPost at HHO
 obtain ⟨hv, he⟩ := HV
 simp only [] at *
 unfold plV stV knV at *
 go_enter Tryz.func93, Tryz.ntmps93
 go_upto_region 1 with fail
 generalize hW0 : World.alloc _ _ = W0
 have K0 : Hid (Below w.heap.size w W0) := by show Below _ _ _; rw [← hW0]; exact (Below.refl _ _).alloc (Nat.le_refl _) _
 have hbP : W0.heap[w.heap.size]? = some (.cells #[.int .i64 p.ver, .int .i64 p.par, .slice a1 p.secs.length c1, .slice a2 p.pts.length c2, .slice a3 p.sigs.length c3, .slice a4 p.rts.length c4, .slice b1 st.tks.length d1, .slice b2 st.sws.length d2, .slice b3 st.lks.length d3] 137 (0, 0)) := by rw [← hW0]; exact heap_alloc_new _ _
 have HBP := Lib.hid hbP
 obtain ⟨pp0, pp1, pp2, pp3, pp4, pp5, pp6, pp7, pp8⟩ := cells9 hbP
 have HCA := Lib.hid (HHO.out W0 K0.out)
 clear hW0 hbP HHO
 go_wp2_with fail
 refine HCA.out.mono ?_
 rintro e w2 ⟨rfl, hb2⟩
 have K2 : Hid (Below w.heap.size w w2) := K0.out.trans (hb2.mono K0.out.size)
 clear hb2 HCA pp0 pp1 pp2 pp3 pp4 pp5 pp6 pp7 pp8
 by_cases q1 : he = 0
 ·subst q1
  go_wp2_with fail
  go_ret
  exact ⟨rbool (by rw [HE.out]; simp; exact bne_d _ _), K2.out⟩
 ·have hd1 : decide (he = 0) = false := decide_eq_false q1
  go_wp2_with fail
  go_ret
  exact ⟨rbool (by rw [HE.out]; simp [q1]), K2.out⟩
theorem plain167 : PlainF 167 := fun args w => by simp [go_sem]
theorem isLk167 (x : Lk) (n : Int) (g : Nat) (w : World) (hn : w.cell? ⟨g, 0, none⟩ = some (.int .i64 n)) :
  Calls Tryz.prog 167 (#[.agg #[.int .i64 x.id, .int .u8 x.ph, .int .i64 x.gone, .int .i64 x.left]] ++ #[.pointer (some ⟨g, 0, none⟩)]) w (BoolPost w (decide (x.id = n ∧ x.ph ≠ 0))) := by
 have HE : Hid (∀ b, (b = true ↔ (x.id = n ∧ x.ph ≠ 0)) → b = decide (x.id = n ∧ x.ph ≠ 0)) := fun b hb => by rw [Bool.eq_iff_iff, hb]; simp
 generalize decide (x.id = n ∧ x.ph ≠ 0) = B at *
 have l0 := World.block_lt_of_cell? _ _ hn
 by_cases h1 : x.id = n
 ·have hd1 : decide (x.id = n) = true := decide_eq_true h1
  have HQ := Lib.hid h1
  clear h1
  go_enter Tryz.func167, Tryz.ntmps167
  go_wp2_with fail
  go_ret
  exact ⟨rbool (HE.out _ (by simp [HQ.out])), (Below.refl _ _).alloc (Nat.le_refl _) _⟩
 ·have hd1 : decide (x.id = n) = false := decide_eq_false h1
  have HQ := Lib.hid h1
  clear h1
  go_enter Tryz.func167, Tryz.ntmps167
  go_wp2_with fail
  go_ret
  exact ⟨rbool (HE.out _ (by simp [HQ.out])), (Below.refl _ _).alloc (Nat.le_refl _) _⟩
set_option maxRecDepth 100000 in
set_option maxHeartbeats 8000000 in
theorem route95_any (p : Pl) (st : St) (s q gg rr t sw lk : Value) (n : Int) (w : World) (hp : PlM w s q gg rr p) (hf : p.Fit) (hs : StM w t sw lk st) (hsf : st.fit) :
  Calls Tryz.prog 95 #[knV p s q gg rr t sw lk, .int .i64 n] w (BoolPost w (oddRt st n)) := by
 obtain ⟨a1, c1, rfl, -⟩ := hp.secs
 obtain ⟨a2, c2, rfl, -⟩ := hp.pts
 obtain ⟨a3, c3, rfl, -⟩ := hp.sigs
 obtain ⟨a4, c4, rfl, k4⟩ := hp.rts
 obtain ⟨b1, d1, rfl, m1⟩ := hs.tks
 obtain ⟨b2, d2, rfl, -⟩ := hs.sws
 obtain ⟨b3, d3, rfl, m3⟩ := hs.lks
 have HCO : Hid (∀ w' g, Below w.heap.size w w' → w'.cell? ⟨g, 0, none⟩ = some (.int .i64 n) → Calls Tryz.prog 166 #[.slice b3 st.lks.length d3, .func (.func 167) #[] #[.pointer (some ⟨g, 0, none⟩)]] w' fun e w'' => e = .returned (.bool (st.lks.any fun x => decide (x.id = n ∧ x.ph ≠ 0))) ∧ Below w'.heap.size w' w'') := fun w' g hb hg =>
  confnLk 167 #[.pointer (some ⟨g, 0, none⟩)] (fun x => decide (x.id = n ∧ x.ph ≠ 0)) b3 d3 st.lks w' (m3.below keeps_lk hb) hsf.2.2 plain167 (fun W i h hb' => isLk167 _ n g W (ccell hb' hg))
 have HE : Hid (oddRt st n = st.lks.any fun x => decide (x.id = n ∧ x.ph ≠ 0)) := rfl
 clear hp hf hs hsf m1 m3 k4
 rw [HE.out]
 clear HE
 generalize (st.lks.any fun x => decide (x.id = n ∧ x.ph ≠ 0)) = R at *
 unfold knV at *
 go_enter Tryz.func95, Tryz.ntmps95
 go_upto_region 1 with fail
 generalize hW0 : World.alloc _ _ = W0
 have K0 : Hid (Below w.heap.size w W0) := by show Below _ _ _; rw [← hW0]; exact ((Below.refl _ _).alloc (Nat.le_refl _) _).alloc (by simp) _
 have hbP : W0.heap[w.heap.size]? = some (.cells #[.int .i64 p.ver, .int .i64 p.par, .slice a1 p.secs.length c1, .slice a2 p.pts.length c2, .slice a3 p.sigs.length c3, .slice a4 p.rts.length c4, .slice b1 st.tks.length d1, .slice b2 st.sws.length d2, .slice b3 st.lks.length d3] 137 (0, 0)) := by rw [← hW0]; exact (heap_alloc_old _ _ (by simp)).trans (heap_alloc_new _ _)
 have hbN : W0.heap[w.heap.size + 1]? = some (.cells #[.int .i64 n] 3 (0, 0)) := by rw [← hW0]; exact heap_alloc2_new _ _ _
 have HBP := Lib.hid hbP
 have HBN := Lib.hid hbN
 have pp8 : W0.cell? ⟨w.heap.size, 8, none⟩ = some (.slice b3 st.lks.length d3) := (cell_of_row W0 _ 8 _ _ _ hbP).trans rfl
 have y0 : W0.cell? ⟨w.heap.size + 1, 0, none⟩ = some (.int .i64 n) := (cell_of_row W0 _ 0 _ _ _ hbN).trans rfl
 have HFI := Lib.hid (HCO.out W0 _ K0.out y0)
 clear hW0 hbP hbN y0 HCO
 go_wp2_with fail
 refine HFI.out.mono ?_
 rintro e w1 ⟨rfl, hb1⟩
 have K1 : Hid (Below w.heap.size w w1) := K0.out.trans (hb1.mono K0.out.size)
 clear hb1 HFI pp8
 go_wp2_with fail
 go_ret
 exact ⟨rfl, K1.out⟩
end Go.Proofs.YtbiehpjhhopjaaaGreat
set_option linter.unusedVariables false
set_option linter.unusedSimpArgs false
namespace Go.Proofs.YtbiehpjhhopjaaaGreat
open Go.RowKit Go.Maps Go.Sort
def oddSg (p : Pl) (st : St) (n : Int) : Bool := p.rts.any fun x => (decide (x.entry = n ∨ x.exit = n) && decide (0 < n)) && oddRt st x.id
theorem plain165 : PlainF 165 := fun args w => by simp [go_sem]
set_option maxRecDepth 100000 in
set_option maxHeartbeats 8000000 in
theorem isRt165 (p : Pl) (st : St) (x : Rt) (n : Int) (g h : Nat) (a1 a2 a3 a4 b1 b2 b3 : Option Addr) (c1 c2 c3 c4 d1 d2 d3 : Nat) (p1 o1 f1 : Option Addr) (p2 p3 o2 o3 f2 f3 : Nat) (w : World) (hn : w.cell? ⟨g, 0, none⟩ = some (.int .i64 n))
  (hk : w.heap[h]? = some (.cells #[.int .i64 p.ver, .int .i64 p.par, .slice a1 p.secs.length c1, .slice a2 p.pts.length c2, .slice a3 p.sigs.length c3, .slice a4 p.rts.length c4, .slice b1 st.tks.length d1, .slice b2 st.sws.length d2, .slice b3 st.lks.length d3] 137 (0, 0)))
  (hc : ∀ m w', Below w.heap.size w w' → Calls Tryz.prog 95 #[knV p (.slice a1 p.secs.length c1) (.slice a2 p.pts.length c2) (.slice a3 p.sigs.length c3) (.slice a4 p.rts.length c4) (.slice b1 st.tks.length d1) (.slice b2 st.sws.length d2) (.slice b3 st.lks.length d3), .int .i64 m] w' (BoolPost w' (oddRt st m))) :
  Calls Tryz.prog 165 (#[.agg #[.int .i64 x.id, .int .i64 x.entry, .int .i64 x.exit, .slice p1 p2 p3, .slice o1 o2 o3, .slice f1 f2 f3, .int .i64 x.timer]] ++ #[.pointer (some ⟨g, 0, none⟩), .pointer (some ⟨h, 0, none⟩)]) w (BoolPost w ((decide (x.entry = n ∨ x.exit = n) && decide (0 < n)) && oddRt st x.id)) := by
 have HC := Lib.hid (hc x.id)
 have HE : Hid (∀ b, (b = ((decide (x.entry = n ∨ x.exit = n) && decide (0 < n)) && oddRt st x.id)) → b = ((decide (x.entry = n ∨ x.exit = n) && decide (0 < n)) && oddRt st x.id)) := fun b h => h
 have l0 := World.block_lt_of_cell? _ _ hn
 have l1 := lt_of_block hk
 obtain ⟨pp0, pp1, pp2, pp3, pp4, pp5, pp6, pp7, pp8⟩ := cells9 hk
 clear hk hc
 generalize hR : ((decide (x.entry = n ∨ x.exit = n) && decide (0 < n)) && oddRt st x.id) = R at *
 generalize oddRt st x.id = OR at *
 have HR := Lib.hid hR
 clear hR HE
 unfold knV at *
 go_enter Tryz.func165, Tryz.ntmps165
 go_wp2_with fail
 all_goals first
  | (refine (HC.out _ ((Below.refl _ _).alloc (Nat.le_refl _) _)).mono ?_
     rintro e w2 ⟨rfl, hb2⟩
     have K2 : Hid (Below w.heap.size w w2) := ((Below.refl _ _).alloc (Nat.le_refl _) _).trans (hb2.mono (by simp))
     clear hb2
     go_wp2_with fail
     go_ret
     exact ⟨rbool (by rw [← HR.out]; simp [*]), K2.out⟩)
  | (go_ret
     exact ⟨rbool (by rw [← HR.out]; simp [*] <;> (intros; omega)), (Below.refl _ _).alloc (Nat.le_refl _) _⟩)
set_option maxRecDepth 100000 in
set_option maxHeartbeats 8000000 in
theorem signal94_any (p : Pl) (st : St) (s q gg rr t sw lk : Value) (n : Int) (w : World) (hp : PlM w s q gg rr p) (hf : p.Fit) (hs : StM w t sw lk st) (hsf : st.fit) :
  Calls Tryz.prog 94 #[knV p s q gg rr t sw lk, .int .i64 n] w (BoolPost w (oddSg p st n)) := by
 have HRT : Hid (∀ m w', Below w.heap.size w w' → Calls Tryz.prog 95 #[knV p s q gg rr t sw lk, .int .i64 m] w' (BoolPost w' (oddRt st m))) := fun m w' hb => route95_any p st s q gg rr t sw lk m w' (hp.below hb) hf (hs.below hb) hsf
 obtain ⟨a1, c1, rfl, -⟩ := hp.secs
 obtain ⟨a2, c2, rfl, -⟩ := hp.pts
 obtain ⟨a3, c3, rfl, -⟩ := hp.sigs
 obtain ⟨a4, c4, rfl, k4⟩ := hp.rts
 obtain ⟨b1, d1, rfl, m1⟩ := hs.tks
 obtain ⟨b2, d2, rfl, -⟩ := hs.sws
 obtain ⟨b3, d3, rfl, m3⟩ := hs.lks
 have HCO : Hid (∀ w' g h, Below w.heap.size w w' → w'.cell? ⟨g, 0, none⟩ = some (.int .i64 n) → w'.heap[h]? = some (.cells #[.int .i64 p.ver, .int .i64 p.par, .slice a1 p.secs.length c1, .slice a2 p.pts.length c2, .slice a3 p.sigs.length c3, .slice a4 p.rts.length c4, .slice b1 st.tks.length d1, .slice b2 st.sws.length d2, .slice b3 st.lks.length d3] 137 (0, 0)) → Calls Tryz.prog 164 #[.slice a4 p.rts.length c4, .func (.func 165) #[] #[.pointer (some ⟨g, 0, none⟩), .pointer (some ⟨h, 0, none⟩)]] w' fun e w'' => e = .returned (.bool (oddSg p st n)) ∧ Below w'.heap.size w' w'') := fun w' g h hb hg hh =>
  confnRt 165 #[.pointer (some ⟨g, 0, none⟩), .pointer (some ⟨h, 0, none⟩)] (fun x => (decide (x.entry = n ∨ x.exit = n) && decide (0 < n)) && oddRt st x.id) a4 c4 p.rts w' (k4.below keeps_rt hb) hf.rts plain165 (fun W i hi hb' p1 p2 p3 o1 o2 o3 f1 f2 f3 _ => isRt165 p st _ n g h _ _ _ _ _ _ _ _ _ _ _ _ _ _ _ _ _ _ _ _ _ _ _ W (ccell hb' hg) ((hb'.block _ (lt_of_block hh)).trans hh) (fun m w2 hb2 => HRT.out m w2 ((hb.trans (hb'.mono hb.size)).trans (hb2.mono (hb.trans (hb'.mono hb.size)).size))))
 clear hp hf hs hsf m1 m3 k4 HRT
 generalize oddSg p st n = R at *
 unfold knV at *
 go_enter Tryz.func94, Tryz.ntmps94
 go_upto_region 1 with fail
 generalize hW0 : World.alloc _ _ = W0
 have K0 : Hid (Below w.heap.size w W0) := by show Below _ _ _; rw [← hW0]; exact ((Below.refl _ _).alloc (Nat.le_refl _) _).alloc (by simp) _
 have hbP : W0.heap[w.heap.size]? = some (.cells #[.int .i64 p.ver, .int .i64 p.par, .slice a1 p.secs.length c1, .slice a2 p.pts.length c2, .slice a3 p.sigs.length c3, .slice a4 p.rts.length c4, .slice b1 st.tks.length d1, .slice b2 st.sws.length d2, .slice b3 st.lks.length d3] 137 (0, 0)) := by rw [← hW0]; exact (heap_alloc_old _ _ (by simp)).trans (heap_alloc_new _ _)
 have hbN : W0.heap[w.heap.size + 1]? = some (.cells #[.int .i64 n] 3 (0, 0)) := by rw [← hW0]; exact heap_alloc2_new _ _ _
 have HBP := Lib.hid hbP
 have HBN := Lib.hid hbN
 have pp5 : W0.cell? ⟨w.heap.size, 5, none⟩ = some (.slice a4 p.rts.length c4) := (cell_of_row W0 _ 5 _ _ _ hbP).trans rfl
 have y0 : W0.cell? ⟨w.heap.size + 1, 0, none⟩ = some (.int .i64 n) := (cell_of_row W0 _ 0 _ _ _ hbN).trans rfl
 have HFI := Lib.hid (HCO.out W0 _ _ K0.out y0 hbP)
 clear hW0 hbP hbN y0 HCO
 go_wp2_with fail
 refine HFI.out.mono ?_
 rintro e w1 ⟨rfl, hb1⟩
 have K1 : Hid (Below w.heap.size w w1) := K0.out.trans (hb1.mono K0.out.size)
 clear hb1 HFI pp5
 go_wp2_with fail
 go_ret
 exact ⟨rfl, K1.out⟩
end Go.Proofs.YtbiehpjhhopjaaaGreat
namespace Go.Proofs.YtbiehpjhhopjaaaGreat
open Go.RowKit Go.Sort Go.Shelf
def sort160_ren : Go.Shelf.Ren := ⟨fun | 5 => 160 | 8 => 251 | 7 => 250 | 19 => 352 | 20 => 353 | 10 => 343 | 11 => 344 | 12 => 345 | 13 => 346 | 14 => 347 | 15 => 348 | 16 => 349 | 17 => 350 | 18 => 351 | 30 => 396 | 31 => 397 | 32 => 398 | 33 => 399 | 34 => 400 | 35 => 401 | 40 => 423 | n => n, fun | 23 => 54 | 25 => 3 | 3 => 3 | 32 => 322 | 22 => 54 | 0 => 0 | 44 => 85 | 46 => 328 | 4 => 4 | 36 => 411 | 35 => 410 | 41 => 415 | 5 => 5 | 9 => 9 | 53 => 460 | 57 => 464 | 63 => 484 | 64 => 485 | n => n, fun | n => n⟩
theorem sort160 : Go.Proofs.SlLaysM.n5 Tryz.prog sort160_ren := {
 mixed := by kernel_rfl
 f5 := ⟨Tryz.f160.name, by decide, Tryz.func160.trans (congrArg some (by kernel_rfl))⟩
 f7 := ⟨Tryz.f250.name, by decide, Tryz.func250.trans (congrArg some (by kernel_rfl))⟩
 f8 := Tryz.func251.trans (congrArg some (by kernel_rfl))
 f10 := ⟨Tryz.f343.name, by decide, Tryz.func343.trans (congrArg some (by kernel_rfl))⟩
 f11 := ⟨Tryz.f344.name, by decide, Tryz.func344.trans (congrArg some (by kernel_rfl))⟩
 f12 := ⟨Tryz.f345.name, by decide, Tryz.func345.trans (congrArg some (by kernel_rfl))⟩
 f13 := ⟨Tryz.f346.name, by decide, Tryz.func346.trans (congrArg some (by kernel_rfl))⟩
 f14 := ⟨Tryz.f347.name, by decide, Tryz.func347.trans (congrArg some (by kernel_rfl))⟩
 f15 := ⟨Tryz.f348.name, by decide, Tryz.func348.trans (congrArg some (by kernel_rfl))⟩
 f16 := ⟨Tryz.f349.name, by decide, Tryz.func349.trans (congrArg some (by kernel_rfl))⟩
 f17 := ⟨Tryz.f350.name, by decide, Tryz.func350.trans (congrArg some (by kernel_rfl))⟩
 f18 := ⟨Tryz.f351.name, by decide, Tryz.func351.trans (congrArg some (by kernel_rfl))⟩
 f19 := Tryz.func352.trans (congrArg some (by kernel_rfl))
 f20 := Tryz.func353.trans (congrArg some (by kernel_rfl))
 f30 := ⟨Tryz.f396.name, by decide, Tryz.func396.trans (congrArg some (by kernel_rfl))⟩
 f31 := Tryz.func397.trans (congrArg some (by kernel_rfl))
 f32 := Tryz.func398.trans (congrArg some (by kernel_rfl))
 f33 := ⟨Tryz.f399.name, by decide, Tryz.func399.trans (congrArg some (by kernel_rfl))⟩
 f34 := ⟨Tryz.f400.name, by decide, Tryz.func400.trans (congrArg some (by kernel_rfl))⟩
 f35 := ⟨Tryz.f401.name, by decide, Tryz.func401.trans (congrArg some (by kernel_rfl))⟩
 f40 := ⟨Tryz.f423.name, by decide, Tryz.func423.trans (congrArg some (by kernel_rfl))⟩
 t0 := Tryz.underlying0
 a0 := Tryz.isAgg0
 z0 := Tryz.sizeOf0
 v0 := Tryz.zeroValue0
 t3 := Tryz.underlying3
 a3 := Tryz.isAgg3
 z3 := Tryz.sizeOf3
 v3 := Tryz.zeroValue3
 t4 := Tryz.underlying4
 a4 := Tryz.isAgg4
 z4 := Tryz.sizeOf4
 v4 := Tryz.zeroValue4
 t5 := Tryz.underlying5
 a5 := Tryz.isAgg5
 z5 := Tryz.sizeOf5
 v5 := Tryz.zeroValue5
 t9 := Tryz.underlying9
 a9 := Tryz.isAgg9
 z9 := Tryz.sizeOf9
 v9 := Tryz.zeroValue9
 t22 := Tryz.underlying54
 a22 := Tryz.isAgg54
 z22 := Tryz.sizeOf54
 v22 := Tryz.zeroValue54
 t23 := Tryz.underlying54
 a23 := Tryz.isAgg54
 z23 := Tryz.sizeOf54
 v23 := Tryz.zeroValue54
 t25 := Tryz.underlying3
 a25 := Tryz.isAgg3
 z25 := Tryz.sizeOf3
 v25 := Tryz.zeroValue3
 t32 := Tryz.underlying322
 a32 := Tryz.isAgg322
 z32 := Tryz.sizeOf322
 v32 := Tryz.zeroValue322
 t35 := Tryz.underlying410
 a35 := Tryz.isAgg410
 z35 := Tryz.sizeOf410
 v35 := Tryz.zeroValue410
 t36 := Tryz.underlying411
 a36 := Tryz.isAgg411
 z36 := Tryz.sizeOf411
 v36 := Tryz.zeroValue411
 t41 := Tryz.underlying415
 a41 := Tryz.isAgg415
 z41 := Tryz.sizeOf415
 v41 := Tryz.zeroValue415
 t44 := Tryz.underlying85
 a44 := Tryz.isAgg85
 z44 := Tryz.sizeOf85
 v44 := Tryz.zeroValue85
 t46 := Tryz.underlying328
 a46 := Tryz.isAgg328
 z46 := Tryz.sizeOf328
 v46 := Tryz.zeroValue328
 t53 := Tryz.underlying460
 a53 := Tryz.isAgg460
 z53 := Tryz.sizeOf460
 v53 := Tryz.zeroValue460
 t57 := Tryz.underlying464
 a57 := Tryz.isAgg464
 z57 := Tryz.sizeOf464
 v57 := Tryz.zeroValue464
 t63 := Tryz.underlying484
 a63 := Tryz.isAgg484
 z63 := Tryz.sizeOf484
 v63 := Tryz.zeroValue484
 t64 := Tryz.underlying485
 a64 := Tryz.isAgg485
 z64 := Tryz.sizeOf485
 v64 := Tryz.zeroValue485 }
def compact161_ren : Go.Shelf.Ren := ⟨fun | 20 => 161 | n => n, fun | 22 => 54 | 3 => 3 | 4 => 4 | 0 => 0 | n => n, fun | n => n⟩
theorem compact161 : Go.Proofs.Lays2.n20 Tryz.prog compact161_ren := {
 mixed := by kernel_rfl
 f20 := Tryz.func161.trans (congrArg some (by kernel_rfl))
 t0 := Tryz.underlying0
 a0 := Tryz.isAgg0
 z0 := Tryz.sizeOf0
 v0 := Tryz.zeroValue0
 t3 := Tryz.underlying3
 a3 := Tryz.isAgg3
 z3 := Tryz.sizeOf3
 v3 := Tryz.zeroValue3
 t4 := Tryz.underlying4
 a4 := Tryz.isAgg4
 z4 := Tryz.sizeOf4
 v4 := Tryz.zeroValue4
 t22 := Tryz.underlying54
 a22 := Tryz.isAgg54
 z22 := Tryz.sizeOf54
 v22 := Tryz.zeroValue54
 i3 := by kernel_rfl }
def sortI (l : List Int) : List Int := l.mergeSort fun x y => decide (x ≤ y)
def normI (l : List Int) : List Int := Lib.compact (sortI l)
theorem sortI_len (l : List Int) : (sortI l).length = l.length := List.length_mergeSort l
theorem sort_own {base : Nat} {v : Value} {l : List Int} {W : World} (h : IntOwn W base v l) (hb : base ≤ W.heap.size) (hl : l.length ≤ 1000) :
  Calls Tryz.prog 160 #[v] W fun e w' => e = .returned (.tuple #[]) ∧ IntOwn w' base v (sortI l) ∧ Below base W w' := by
 have hf : sort160_ren.f 5 = 160 := by kernel_rfl
 rcases h.2 with ⟨rfl, h0⟩ | ⟨g, cap, cur, rfl, hbg, hgb, r1, r2, r3, r4⟩
 ·have hn := AnyM.slices_Sort_int_none sort160 none 0 W
  rw [hf] at hn
  refine hn.mono ?_
  rintro e w' ⟨rfl, rfl⟩
  have : l = [] := List.eq_nil_of_length_eq_zero h0
  subst this
  exact ⟨rfl, by rw [show sortI [] = [] from List.mergeSort_nil]; exact h, Below.refl _ _⟩
 ·have hn := AnyM.slices_Sort_int sort160 g 0 cap l W (holds_of_blockI hgb (by simpa using r4)) (lt_of_block hgb) (by omega)
  rw [hf] at hn
  refine hn.mono ?_
  rintro e w' ⟨rfl, n, os, rfl⟩
  refine ⟨rfl, ?_, ?_⟩
  ·have := ownsRow_sortedI (w := W) (n := n) (os := os) (ss := l) (ts := sortI l) (sortI_len l) hbg hgb r1 r2 r3
   show World.ownsRow _ _ _ _ _ _ _
   rw [sortI_len]
   exact this
  ·exact (Below.refl _ _).grown (grownBy_sortedI _) hb (fun j hj => by cases hj; exact hbg)
theorem own_shrink {w : World} {base g n cap : Nat} {xs ys : List Value} (h : w.ownsRow base 3 1 (.slice (some ⟨g, 0, none⟩) n cap) n (xs ++ ys)) : w.ownsRow base 3 1 (.slice (some ⟨g, 0, none⟩) xs.length cap) xs.length xs := by
 have hlen := h.1
 rcases h.2 with ⟨h1, _⟩ | ⟨g', cap', cur, he, hbg, hgb, r1, r2, r3, r4⟩
 ·cases h1
 ·cases he
  rw [List.length_append] at hlen
  refine ⟨by simp, .inr ⟨g, cap, cur, rfl, hbg, hgb, by omega, r2, r3, ?_⟩⟩
  have := congrArg (List.take xs.length) r4
  rw [List.take_take, List.take_left'] at this
  ·rw [Nat.min_eq_left (by omega)] at this; rw [Nat.mul_one]; exact this
  ·rfl
theorem compact_own {base : Nat} {v : Value} {l : List Int} {W : World} (h : IntOwn W base v l) (hb : base ≤ W.heap.size) (hl : l.length ≤ 1000) :
  Calls Tryz.prog 161 #[v] W fun e w' => ∃ v', e = .returned v' ∧ IntOwn w' base v' (Lib.compact l) ∧ Below base W w' := by
 have hf : compact161_ren.f 20 = 161 := by kernel_rfl
 rcases h.2 with ⟨rfl, h0⟩ | ⟨g, cap, cur, rfl, hbg, hgb, r1, r2, r3, r4⟩
 ·have hn := Any.slices_Compact_int_empty compact161 none 0 W
  rw [hf] at hn
  refine hn.mono ?_
  rintro e w' ⟨rfl, rfl⟩
  have : l = [] := List.eq_nil_of_length_eq_zero h0
  subst this
  exact ⟨_, rfl, h, Below.refl _ _⟩
 ·have hn := Any.slices_Compact_int compact161 g 0 cap l W (holds_of_blockI hgb (by simpa using r4)) (by omega) r1
  rw [hf] at hn
  refine hn.mono ?_
  rintro e w' ⟨rfl, n, rfl⟩
  have hc := Lib.compact_length_le l
  have hts : (Lib.compact l ++ List.replicate (l.length - (Lib.compact l).length) 0).length = l.length := by rw [List.length_append, List.length_replicate]; omega
  refine ⟨_, rfl, ?_, ?_⟩
  ·have := ownsRow_sortedI (w := W) (n := n) (os := #[]) (ss := l) (ts := Lib.compact l ++ List.replicate (l.length - (Lib.compact l).length) 0) hts hbg hgb r1 r2 r3
   rw [List.map_append] at this
   have h2 := own_shrink this
   rw [List.length_map] at h2
   exact h2
  ·have := (Below.refl base W).grown (grownBy_sortedI (w := W) (g := g) (n := n) (os := #[]) (Lib.compact l ++ List.replicate (l.length - (Lib.compact l).length) 0).toArray) hb (fun j hj => by cases hj; exact hbg)
   exact this
end Go.Proofs.YtbiehpjhhopjaaaGreat
namespace Go.Proofs.YtbiehpjhhopjaaaGreat
open Go.RowKit Go.Maps Go.Sort
def IPost (w : World) (l : List Int) (e : Ending) (w' : World) : Prop := ∃ v, e = .returned v ∧ ILv w' v l ∧ CapOk v ∧ Below w.heap.size w w'
theorem oneI (x : Int) : ∀ u ∈ [Value.int .i64 x], u.oneCell' = true := by
 intro u hu
 rw [List.mem_singleton] at hu
 subst hu
 rfl
theorem filter_take {α : Type} {pr : α → Bool} {l : List α} {k : Nat} (h : k < l.length) : (l.take (k + 1)).filter pr = (l.take k).filter pr ++ (if pr l[k] then [l[k]] else []) := by
 rw [List.take_succ_eq_append_getElem h, List.filter_append]
 congr 1
 rw [List.filter_cons]
 split <;> simp
set_option maxRecDepth 100000 in
set_option maxHeartbeats 8000000 in
theorem some_any (f : FuncId) (bound : Array Value) (pr : Int → Bool) (a : Option Addr) (cap : Nat) (l : List Int) (w : World) (hl : IL w a l.length l) (hm : l.length ≤ 1000) (hf : PlainF f)
  (hcl : ∀ n W, Below w.heap.size w W → Calls Tryz.prog f (bound ++ #[.int .i64 n]) W (BoolPost W (pr n))) :
  Calls Tryz.prog 91 #[.func (.func f) bound #[], .slice a l.length cap] w (IPost w (normI (l.filter pr))) := by
 have HL : Hid (∀ w', Below w.heap.size w w' → IL w' a l.length l) := fun w' hb => hl.below hb
 have hcf : ∀ (args : Array Value) (w : World), Sem.run Tryz.prog (callFunc f args) w = .ok (.enter f args) w := hf
 have HCL := Lib.hid hcl
 clear hl hcl hf
 go_enter Tryz.func91, Tryz.ntmps91
 go_wp2_with fail
 go_loopg [4, 9] l.length (fun g r i wr => ∃ (k : Nat) (b : Option Addr) (d : Nat), k ≤ l.length ∧ g = l.length - k ∧ r = .slice b ((l.take k).filter pr).length d ∧ i = .int .i64 k ∧ Below w.heap.size w wr ∧ IntOwn wr w.heap.size (.slice b ((l.take k).filter pr).length d) ((l.take k).filter pr))
 case atStart => exact ⟨0, none, 0, by omega, by omega, rfl, rfl, Below.refl _ _, World.ownsRow_nil _ _ _ _⟩
 case round =>
  obtain ⟨k, b, d, hk, rfl, rfl, rfl, hb, ho⟩ := hrel
  have HB := Lib.hid hb
  have HO := Lib.hid ho
  clear hb ho
  by_cases hlt : k < l.length
  ·have hd : decide ((k : Int) < (l.length : Int)) = true := by simp; omega
   obtain ⟨g, off, rfl, x0⟩ := (HL.out _ HB.out).cell k hlt
   have c0 : (0 : Int) ≤ (k : Int) := by omega
   have c1 : (k : Int) < (l.length : Int) := by omega
   have HC := Lib.hid (HCL.out l[k] wr HB.out)
   have HFT := Lib.hid (filter_take (pr := pr) hlt)
   have hfl : ((l.take k).filter pr).length ≤ 1000 := Nat.le_trans (List.length_filter_le _ _) (by rw [List.length_take]; omega)
   generalize (l.take k).filter pr = FK at *
   cases hp : pr l[k] with
   | true =>
    rw [hp] at HC HFT
    clear hp
    go_wp2_with fail
    refine HC.out.mono ?_
    rintro e0 w1 ⟨rfl, hb1⟩
    have K1 : Hid (Below w.heap.size w w1) := HB.out.trans (hb1.mono HB.out.size)
    have O1 : Hid (w1.ownsRow w.heap.size 3 1 (.slice b FK.length d) FK.length (FK.map (.int .i64))) := own_below HO.out hb1
    clear hb1 HC x0
    have hbase : w.heap.size ≤ w1.heap.size := K1.out.size
    go_wp2_with (at_builtin; refine wpList_append_one rfl _ _ 54 3 3 _ 1 8 rfl Tryz.underlying54 info3 rfl (by decide) (by decide) w.heap.size (.slice b FK.length d) FK.length _ rfl O1.out hfl hbase [.int .i64 l[k]] rfl rfl (oneI _) ?_; intro b8 c8 w8 hown8 hgr8)
    have hB8 : RowKit.Below w.heap.size w w8 := (K1.out.alloc hbase _).trans (grown_below (O1.out.alloc _) (Nat.le_refl _) (by simp; omega) hgr8)
    have ho8 : IntOwn w8 w.heap.size (.slice (some ⟨b8, 0, none⟩) (FK.length + 1) c8) (FK ++ [l[k]]) := by
     show World.ownsRow _ _ _ _ _ _ _
     rw [List.length_append, List.map_append]
     exact hown8
    go_roundg (l.length - (k + 1))
    case measure => go_light; omega
    case rel => go_light; exact ⟨k + 1, some ⟨b8, 0, none⟩, c8, by omega, by omega, by rw [HFT.out]; simp, by go_num, hB8, by rw [HFT.out]; simpa using ho8⟩
   | false =>
    rw [hp] at HC HFT
    clear hp
    go_wp2_with fail
    refine HC.out.mono ?_
    rintro e0 w1 ⟨rfl, hb1⟩
    have K1 : Hid (Below w.heap.size w w1) := HB.out.trans (hb1.mono HB.out.size)
    have O1 : Hid (IntOwn w1 w.heap.size (.slice b FK.length d) FK) := own_below HO.out hb1
    clear hb1 HC x0
    go_wp2_with fail
    go_roundg (l.length - (k + 1))
    case measure => go_light; omega
    case rel => go_light; exact ⟨k + 1, b, d, by omega, by omega, by rw [HFT.out]; simp, by go_num, K1.out, by rw [HFT.out]; simpa using O1.out⟩
  ·obtain rfl : k = l.length := by omega
   have hd : decide ((l.length : Int) < (l.length : Int)) = false := by simp
   have ho := HO.out
   rw [List.take_length] at ho ⊢
   have hfl : (l.filter pr).length ≤ 1000 := Nat.le_trans (List.length_filter_le _ _) hm
   have HS := Lib.hid (sort_own ho HB.out.size hfl)
   unfold normI
   generalize l.filter pr = FK at *
   clear ho HO
   go_wp2_with fail
   refine HS.out.mono ?_
   rintro e w1 ⟨rfl, ho1, hb1⟩
   have K1 : Hid (Below w.heap.size w w1) := HB.out.trans hb1
   have HCO := Lib.hid (compact_own ho1 K1.out.size (by rw [sortI_len]; exact hfl))
   clear ho1 hb1 HS
   go_wp2_with fail
   refine HCO.out.mono ?_
   rintro e w2 ⟨v', rfl, ho2, hb2⟩
   have K2 : Hid (Below w.heap.size w w2) := K1.out.trans hb2
   have HO2 := Lib.hid ho2
   obtain ⟨a', c', rfl⟩ := IntOwn.slice ho2
   clear ho2 hb2 HCO
   go_wp2_with fail
   go_ret
   exact ⟨_, rfl, HO2.out.ilv, own_cap HO2.out, K2.out⟩
end Go.Proofs.YtbiehpjhhopjaaaGreat
