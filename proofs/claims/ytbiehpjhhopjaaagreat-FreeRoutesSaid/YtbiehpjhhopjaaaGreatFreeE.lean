/-
  free.Is, walked.
-/
import Derived.Test.YtbiehpjhhopjaaaGreatFreeD
set_option linter.unusedVariables false
set_option linter.unusedSimpArgs false
namespace Go.Proofs.YtbiehpjhhopjaaaGreat
open Go.RowKit Go.Maps Go.Sort
def isFree (p : Pl) (st : St) (x : Ar) : Bool := decide (ofErr p st = 0) && sameA (oddA p st x) zAr
theorem normI_len (l : List Int) : (normI l).length ≤ l.length := by
  unfold normI
  exact Nat.le_trans (Lib.compact_length_le _) (by rw [sortI_len]; exact Nat.le_refl _)
theorem odd_mid {p : Pl} {st : St} {x : Ar} (h : x.mid) : (oddA p st x).mid := by
  unfold oddA
  split
  · have k : ∀ (l : List Int) (pr : Int → Bool), l.length ≤ 1000 → (normI (l.filter pr)).length ≤ 1000 := fun l pr hl => Nat.le_trans (normI_len _) (Nat.le_trans (List.length_filter_le _ _) hl)
    exact ⟨k _ _ h.1, k _ _ h.2.1, k _ _ h.2.2.1, k _ _ h.2.2.2⟩
  · exact ⟨by decide, by decide, by decide, by decide⟩
def IsPost (w : World) (b : Bool) (n : Int) (e : Ending) (w' : World) : Prop := e = .returned (.tuple #[.bool b, .int .i64 n]) ∧ Below w.heap.size w w'
set_option maxRecDepth 100000 in
set_option maxHeartbeats 8000000 in
theorem is_any (p : Pl) (st : St) (x : Ar) (s q gg rr t sw lk : Value) (u1 u2 u3 u4 : Value) (w : World) (hp : PlM w s q gg rr p) (hf : p.Fit) (hs : StM w t sw lk st) (hsf : st.fit) (hx : AL w u1 u2 u3 u4 x) (hxs : x.mid) :
    Calls Tryz.prog 36 #[plV p s q gg rr, stV t sw lk, .agg #[u1, u2, u3, u4]] w (IsPost w (isFree p st x) (ofErr p st)) := by
  have HOD : Hid (∀ w', Below w.heap.size w w' → Calls Tryz.prog 38 #[plV p s q gg rr, stV t sw lk, .agg #[u1, u2, u3, u4]] w' (OddPost w' (oddA p st x) (ofErr p st))) := fun w' hb => odd_any p st x s q gg rr t sw lk u1 u2 u3 u4 w' (hp.below hb) hf (hs.below hb) hsf (hx.below hb) hxs
  have HSM := Lib.hid (odd_mid (p := p) (st := st) hxs)
  have HE : Hid (isFree p st x = (decide (ofErr p st = 0) && sameA (oddA p st x) zAr)) := rfl
  obtain ⟨e1, f1, rfl, -⟩ := hx.s.at_
  obtain ⟨e2, f2, rfl, -⟩ := hx.p.at_
  obtain ⟨e3, f3, rfl, -⟩ := hx.g.at_
  obtain ⟨e4, f4, rfl, -⟩ := hx.r.at_
  obtain ⟨a1, c1, rfl, -⟩ := hp.secs
  obtain ⟨a2, c2, rfl, -⟩ := hp.pts
  obtain ⟨a3, c3, rfl, -⟩ := hp.sigs
  obtain ⟨a4, c4, rfl, -⟩ := hp.rts
  obtain ⟨b1, d1, rfl, -⟩ := hs.tks
  obtain ⟨b2, d2, rfl, -⟩ := hs.sws
  obtain ⟨b3, d3, rfl, -⟩ := hs.lks
  clear hp hf hs hsf hx hxs
  generalize isFree p st x = R at *
  generalize ofErr p st = E at *
  generalize oddA p st x = OA at *
  unfold plV stV at *
  go_enter Tryz.func36, Tryz.ntmps36
  go_upto_region 1 with fail
  generalize hW0 : World.alloc _ _ = W0
  have K0 : Hid (Below w.heap.size w W0) := by show Below _ _ _; rw [← hW0]; exact (((Below.refl _ _).alloc (Nat.le_refl _) _).alloc (by simp) _).alloc (by simp <;> omega) _
  have hbP : W0.heap[w.heap.size]? = some (.cells #[.int .i64 p.ver, .int .i64 p.par, .slice a1 p.secs.length c1, .slice a2 p.pts.length c2, .slice a3 p.sigs.length c3, .slice a4 p.rts.length c4] 28 (0, 0)) := by
    rw [← hW0]; exact (heap_alloc_old _ _ (by simp <;> omega)).trans ((heap_alloc_old _ _ (by simp)).trans (heap_alloc_new _ _))
  have hbS : W0.heap[w.heap.size + 1]? = some (.cells #[.slice b1 st.tks.length d1, .slice b2 st.sws.length d2, .slice b3 st.lks.length d3] 33 (0, 0)) := by
    rw [← hW0]; exact (heap_alloc_old _ _ (by simp)).trans (heap_alloc2_new _ _ _)
  have hbA : W0.heap[w.heap.size + 1 + 1]? = some (.cells #[.slice e1 x.s.length f1, .slice e2 x.p.length f2, .slice e3 x.g.length f3, .slice e4 x.r.length f4] 56 (0, 0)) := by
    rw [← hW0]
    have := heap_alloc2_new (w.alloc (.cells #[.int .i64 p.ver, .int .i64 p.par, .slice a1 p.secs.length c1, .slice a2 p.pts.length c2, .slice a3 p.sigs.length c3, .slice a4 p.rts.length c4] 28)) (.cells #[.slice b1 st.tks.length d1, .slice b2 st.sws.length d2, .slice b3 st.lks.length d3] 33) (.cells #[.slice e1 x.s.length f1, .slice e2 x.p.length f2, .slice e3 x.g.length f3, .slice e4 x.r.length f4] 56)
    simpa using this
  have pp0 : W0.cell? ⟨w.heap.size, 0, none⟩ = some (.int .i64 p.ver) := (cell_of_row W0 _ 0 _ _ _ hbP).trans rfl
  have pp1 : W0.cell? ⟨w.heap.size, 1, none⟩ = some (.int .i64 p.par) := (cell_of_row W0 _ 1 _ _ _ hbP).trans rfl
  have pp2 : W0.cell? ⟨w.heap.size, 2, none⟩ = some (.slice a1 p.secs.length c1) := (cell_of_row W0 _ 2 _ _ _ hbP).trans rfl
  have pp3 : W0.cell? ⟨w.heap.size, 3, none⟩ = some (.slice a2 p.pts.length c2) := (cell_of_row W0 _ 3 _ _ _ hbP).trans rfl
  have pp4 : W0.cell? ⟨w.heap.size, 4, none⟩ = some (.slice a3 p.sigs.length c3) := (cell_of_row W0 _ 4 _ _ _ hbP).trans rfl
  have pp5 : W0.cell? ⟨w.heap.size, 5, none⟩ = some (.slice a4 p.rts.length c4) := (cell_of_row W0 _ 5 _ _ _ hbP).trans rfl
  have ss0 : W0.cell? ⟨w.heap.size + 1, 0, none⟩ = some (.slice b1 st.tks.length d1) := (cell_of_row W0 _ 0 _ _ _ hbS).trans rfl
  have ss1 : W0.cell? ⟨w.heap.size + 1, 1, none⟩ = some (.slice b2 st.sws.length d2) := (cell_of_row W0 _ 1 _ _ _ hbS).trans rfl
  have ss2 : W0.cell? ⟨w.heap.size + 1, 2, none⟩ = some (.slice b3 st.lks.length d3) := (cell_of_row W0 _ 2 _ _ _ hbS).trans rfl
  have aa0 : W0.cell? ⟨w.heap.size + 1 + 1, 0, none⟩ = some (.slice e1 x.s.length f1) := (cell_of_row W0 _ 0 _ _ _ hbA).trans rfl
  have aa1 : W0.cell? ⟨w.heap.size + 1 + 1, 1, none⟩ = some (.slice e2 x.p.length f2) := (cell_of_row W0 _ 1 _ _ _ hbA).trans rfl
  have aa2 : W0.cell? ⟨w.heap.size + 1 + 1, 2, none⟩ = some (.slice e3 x.g.length f3) := (cell_of_row W0 _ 2 _ _ _ hbA).trans rfl
  have aa3 : W0.cell? ⟨w.heap.size + 1 + 1, 3, none⟩ = some (.slice e4 x.r.length f4) := (cell_of_row W0 _ 3 _ _ _ hbA).trans rfl
  clear hW0 hbP hbS hbA
  have HC := Lib.hid (HOD.out W0 K0.out)
  clear HOD
  go_wp2_with fail
  refine HC.out.mono ?_
  rintro e w1 ⟨v1, v2, v3, v4, rfl, hal, hb1⟩
  have K1 : Hid (Below w.heap.size w w1) := K0.out.trans (hb1.mono K0.out.size)
  obtain ⟨g1, m1, rfl, -⟩ := hal.s.at_
  obtain ⟨g2, m2, rfl, -⟩ := hal.p.at_
  obtain ⟨g3, m3, rfl, -⟩ := hal.g.at_
  obtain ⟨g4, m4, rfl, -⟩ := hal.r.at_
  have HAL := Lib.hid hal
  clear hb1 HC pp0 pp1 pp2 pp3 pp4 pp5 ss0 ss1 ss2 aa0 aa1 aa2 aa3 hal
  by_cases hE : E = 0
  · subst hE
    have HB2 : Hid (Below w1.heap.size w1 (w1.alloc (.cells #[.slice g1 OA.s.length m1, .slice g2 OA.p.length m2, .slice g3 OA.g.length m3, .slice g4 OA.r.length m4] 56))) := (Below.refl _ _).alloc (Nat.le_refl _) _
    have HSA := Lib.hid (same_mid _ _ _ _ (.slice none 0 0) (.slice none 0 0) (.slice none 0 0) (.slice none 0 0) OA zAr _ (HAL.out.below HB2.out) ⟨ILv.nil _, ILv.nil _, ILv.nil _, ILv.nil _⟩ HSM.out ⟨by decide, by decide, by decide, by decide⟩)
    go_wp2_with fail
    refine HSA.out.mono ?_
    rintro e w2 ⟨rfl, hb2⟩
    have K2 : Hid (Below w.heap.size w w2) := (K1.out.trans (HB2.out.mono K1.out.size)).trans (hb2.mono (K1.out.trans (HB2.out.mono K1.out.size)).size)
    clear hb2 HSA
    go_wp2_with fail
    exact bodyPost_ret (v := .tuple #[.bool (sameA OA zAr), .int .i64 0]) (by simp [results, Tryz.f36, go_sem]) rfl ⟨by rw [HE.out]; simp, K2.out⟩
  · have hd : decide (E = 0) = false := decide_eq_false hE
    go_wp2_with fail
    exact bodyPost_ret (v := .tuple #[.bool false, .int .i64 E]) (by simp [results, Tryz.f36, go_sem, hE]) rfl ⟨by rw [HE.out, hd]; rfl, K1.out.alloc K1.out.size _⟩
end Go.Proofs.YtbiehpjhhopjaaaGreat
