/-
 Which route holds a section, as the references have it, walked. (Written by wip/tools/gen_rwp.py.)
 How a point is asked to lie, as the references have it, walked. (Written by wip/tools/gen_rwq.py.)
 A region that draws its order, with one call whose result stays open, one alloc and one store of that result.
-/
import Derived.Test.YtbiehpjhhopjaaaGreatTRwO
import Derived.Test.YtbiehpjhhopjaaaGreatTRwI
import Derived.Test.YtbiehpjhhopjaaaGreatTRefC
set_option linter.unusedVariables false
set_option linter.unusedSimpArgs false
namespace Go.Proofs.YtbiehpjhhopjaaaGreat
open Go.RowKit Go.Sort
theorem sound_end {p : Pl} (h : PlanSound p) {k : Nat} (hk : k < p.rts.length) : ∃ x, rwEnd p p.rts[k] = some x := by
 have h2 := ((sound_iff p).1 h).2 k hk
 unfold SoundR at h2
 cases hr : rwEnd p p.rts[k] with
 | none => rw [hr] at h2; exact h2.elim
 | some x => exact ⟨x, rfl⟩
theorem held_len {p : Pl} (hPM : PlanMay p) {k : Nat} (hk : k < p.rts.length) (l : Lk) : (heldL (wyOf p p.rts[k]) l).length ≤ 1000 := by
 have h := (may_rt hPM hk).1
 have h6 := h.2.2.2.2.1
 have h2 := h.2.2.2.2.2.1
 rw [held_ref]
 unfold heldR
 split
 ·simp
 ·rw [List.length_append, List.length_drop]; omega
theorem of_at {p : Pl} {st : St} {n : Int} {k : Nat} (hk : k < st.lks.length) (h1 : ∀ j, j < k → n ∉ heldL (wyOf p (p.rts.getD j zRt)) (st.lks.getD j zLk)) (h2 : n ∈ heldL (wyOf p (p.rts.getD k zRt)) (st.lks.getD k zLk)) : ofR p st n = st.lks[k].id := by
 have e : (List.range st.lks.length).find? (holdsAt p st n) = some k := List.find?_range_eq_some.2 ⟨by unfold holdsAt hasI; exact decide_eq_true h2, by simpa using hk, fun j hj => by unfold holdsAt hasI; simpa using h1 j hj⟩
 unfold ofR
 rw [e]
 simp [List.getD_eq_getElem?_getD, hk]
theorem of_no {p : Pl} {st : St} {n : Int} (h1 : ∀ j, j < st.lks.length → n ∉ heldL (wyOf p (p.rts.getD j zRt)) (st.lks.getD j zLk)) : ofR p st n = 0 := by
 have e : (List.range st.lks.length).find? (holdsAt p st n) = none := List.find?_range_eq_none.2 fun j hj => by unfold holdsAt hasI; simpa using h1 j hj
 unfold ofR
 rw [e]
set_option maxRecDepth 100000 in
set_option maxHeartbeats 8000000 in
theorem refOf (p : Pl) (st : St) (n : Int) (s q gg rr t sw lk : Value) (w : World) (hp : PlM w s q gg rr p) (hf : p.Fit) (hPS : PlanSound p) (hs : StM w t sw lk st) (hsf : st.fit) (hle : st.lks.length ≤ p.rts.length) :
  Calls Tryz.prog 256 #[plV p s q gg rr, stV t sw lk, .int .i64 n] w (NumPost w (ofR p st n)) := by
 have hPM := ((sound_iff p).1 hPS).1
 obtain ⟨HK, hHK⟩ : ∃ HK : Nat → List Int, HK = fun k => heldL (wyOf p (p.rts.getD k zRt)) (st.lks.getD k zLk) := ⟨_, rfl⟩
 have HC : Hid (∀ k (hk : k < st.lks.length) W, Below w.heap.size w W → Calls Tryz.prog 221 #[plV p s q gg rr, .agg #[.int .i64 st.lks[k].id, .int .u8 st.lks[k].ph, .int .i64 st.lks[k].gone, .int .i64 st.lks[k].left], .int .i64 k] W (OwnPost W (HK k))) := fun k hk W hb => by
  obtain ⟨x, hx⟩ := sound_end hPS (Nat.lt_of_lt_of_le hk hle)
  have := refHeld p s q gg rr k (Nat.lt_of_lt_of_le hk hle) st.lks[k] W (hp.below hb) hf hPM x hx
  rw [← held_ref p] at this
  rw [hHK]
  simpa [List.getD_eq_getElem?_getD, hk, Nat.lt_of_lt_of_le hk hle] using this
 have HKL : Hid (∀ k, k < st.lks.length → (HK k).length ≤ 1000) := fun k hk => by
  have := held_len hPM (Nat.lt_of_lt_of_le hk hle) st.lks[k]
  rw [hHK]
  simpa [List.getD_eq_getElem?_getD, hk, Nat.lt_of_lt_of_le hk hle] using this
 have HF1 : Hid (∀ k (hk : k < st.lks.length), (∀ j, j < k → n ∉ HK j) → n ∈ HK k → ofR p st n = st.lks[k].id) := fun k hk h1 h2 => by rw [hHK] at h1 h2; exact of_at hk h1 h2
 have HF2 : Hid ((∀ j, j < st.lks.length → n ∉ HK j) → ofR p st n = 0) := fun h1 => by rw [hHK] at h1; exact of_no h1
 clear hHK hPM hPS
 generalize ofR p st n = R at *
 obtain ⟨a1, k1, rfl, -⟩ := hp.secs
 obtain ⟨a2, k2, rfl, -⟩ := hp.pts
 obtain ⟨a3, k3, rfl, -⟩ := hp.sigs
 obtain ⟨a4, k4, rfl, -⟩ := hp.rts
 obtain ⟨b1, d1, rfl, -⟩ := hs.tks
 obtain ⟨b2, d2, rfl, -⟩ := hs.sws
 obtain ⟨b3, d3, rfl, g7⟩ := hs.lks
 have HLK : Hid (∀ W, Below w.heap.size w W → SlA W 4 RLk b3 d3 st.lks) := fun W hb => g7.below keeps_lk hb
 have LL := hsf.2.2
 clear hp hf hs hsf g7 hle
 unfold plV at *
 unfold stV
 go_enter Tryz.func256, Tryz.ntmps256
 go_upto_region 1 with fail
 generalize hW0 : World.alloc _ _ = W0
 have K0 : Hid (Below w.heap.size w W0) := by show Below _ _ _; rw [← hW0]; exact ((Below.refl _ _).alloc (Nat.le_refl _) _).alloc (by simp) _
 have HP0 : Hid (W0.heap[w.heap.size]? = some (.cells #[.int .i64 p.ver, .int .i64 p.par, .slice a1 p.secs.length k1, .slice a2 p.pts.length k2, .slice a3 p.sigs.length k3, .slice a4 p.rts.length k4] 28 (0, 0))) := by show _ = _; rw [← hW0]; exact (heap_alloc_old _ _ (by simp)).trans (heap_alloc_new _ _)
 have HS0 : Hid (W0.heap[w.heap.size + 1]? = some (.cells #[.slice b1 st.tks.length d1, .slice b2 st.sws.length d2, .slice b3 st.lks.length d3] 33 (0, 0))) := by show _ = _; rw [← hW0]; exact heap_alloc2_new _ _ _
 clear hW0
 go_wp2_with fail
 go_loopg [7] st.lks.length (fun g i wr => ∃ (k : Nat), k ≤ st.lks.length ∧ g = st.lks.length - k ∧ i = .int .i64 k ∧ Below W0.heap.size W0 wr ∧ (∀ j, j < k → n ∉ HK j))
 case atStart => exact ⟨0, by omega, by omega, rfl, Below.refl _ _, fun j hj => absurd hj (Nat.not_lt_zero _)⟩
 case round =>
  obtain ⟨k, hk, rfl, rfl, hb, hno⟩ := hrel
  have HB := Lib.hid hb
  have HNO := Lib.hid hno
  have HBW : Hid (Below w.heap.size w wr) := K0.out.trans (hb.mono K0.out.size)
  have bx0 := (hb.block _ (lt_of_block HP0.out)).trans HP0.out
  have bx1 := (hb.block _ (lt_of_block HS0.out)).trans HS0.out
  obtain ⟨pp0, pp1, pp2, pp3, pp4, pp5⟩ := cells6 (bx0)
  have ss2 : wr.cell? ⟨w.heap.size + 1, 2, none⟩ = some (.slice b3 st.lks.length d3) := (cell_of_row wr _ 2 _ _ _ (bx1)).trans rfl
  have lb := block_lt_of_cell pp0
  have ls := block_lt_of_cell ss2
  clear bx0 bx1
  clear hb hno
  by_cases hlt : k < st.lks.length
  ·have hd : decide ((k : Int) < (st.lks.length : Int)) = true := by simp; omega
   obtain ⟨gl, ol, vs, eb, hvl, hvc, hvr⟩ := (HLK.out wr HBW.out).at_ k hlt
   obtain rfl : vs = [.int .i64 st.lks[k].id, .int .u8 st.lks[k].ph, .int .i64 st.lks[k].gone, .int .i64 st.lks[k].left] := hvr
   subst eb
   have y0 : wr.cell? ⟨gl, ol + k * 4, none⟩ = some (.int .i64 st.lks[k].id) := hvc 0 (by simp)
   have y1 : wr.cell? ⟨gl, ol + k * 4 + 1, none⟩ = some (.int .u8 st.lks[k].ph) := hvc 1 (by simp)
   have y2 : wr.cell? ⟨gl, ol + k * 4 + 2, none⟩ = some (.int .i64 st.lks[k].gone) := hvc 2 (by simp)
   have y3 : wr.cell? ⟨gl, ol + k * 4 + 3, none⟩ = some (.int .i64 st.lks[k].left) := hvc 3 (by simp)
   have ly := block_lt_of_cell y0
   clear hvc hvl
   have c0 : (0 : Int) ≤ (k : Int) := by omega
   have c1 : (k : Int) < (st.lks.length : Int) := by omega
   go_upto_region 4 with fail
   go_still_tail 7, (by kernel_rfl)
   change wpList _ _ _ _ _ wr.drew
   generalize hWD : wr.drew = WD
   have hbD : Below wr.heap.size wr WD := by rw [← hWD]; exact (Below.refl _ _).drew
   have HBD : Hid (Below w.heap.size w WD) := HBW.out.trans (hbD.mono HBW.out.size)
   have HBD0 : Hid (Below W0.heap.size W0 WD) := HB.out.trans (hbD.mono HB.out.size)
   have HCk := Lib.hid (HC.out k hlt WD HBD.out)
   have hkl := HKL.out k hlt
   have HFk := Lib.hid (HF1.out k hlt HNO.out)
   have HNk : Hid (n ∉ HK k → ∀ j, j < k + 1 → n ∉ HK j) := fun h j hj => by
    rcases Nat.lt_or_ge j k with h' | h'
    ·exact HNO.out j h'
    ·obtain rfl : j = k := by omega
     exact h
   clear hWD hbD pp0 pp1 pp2 pp3 pp4 pp5 ss2 lb ls y0 y1 y2 y3 ly HC HNO HB HBW
   generalize HK k = LH at *
   go_wp2_with fail
   refine HCk.out.mono ?_
   rintro e W1 ⟨a, c, rfl, ho, hb1⟩
   have HI := Lib.hid (IntOwn.il ho)
   have HB1 : Hid (Below W0.heap.size W0 W1) := HBD0.out.trans (hb1.mono HBD0.out.size)
   have HBW1 : Hid (Below w.heap.size w W1) := K0.out.trans (HB1.out.mono K0.out.size)
   clear ho hb1 HCk HBD0 HBD
   go_wp2_with fail
   go_loopg [9] LH.length (fun g i wr => ∃ (m : Nat), m ≤ LH.length ∧ g = LH.length - m ∧ i = .int .i64 m ∧ wr = W1 ∧ (∀ j (hj : j < LH.length), j < m → LH[j] ≠ n))
   case atStart => exact ⟨0, by omega, by omega, rfl, rfl, fun j _ hj => absurd hj (Nat.not_lt_zero _)⟩
   case round =>
    obtain ⟨m, hm, rfl, rfl, hwr, hno⟩ := hrel
    obtain rfl := hwr.symm
    clear hwr
    have HN := Lib.hid hno
    clear hno
    by_cases hml : m < LH.length
    ·have hd2 : decide ((m : Int) < (LH.length : Int)) = true := by simp; omega
     obtain ⟨g, off, rfl, x0⟩ := HI.out.cell m hml
     have m0 : (0 : Int) ≤ (m : Int) := by omega
     have m1 : (m : Int) < (LH.length : Int) := by omega
     by_cases hq : LH[m] = n
     ·have t1 : (LH[m] == n) = true := by rw [beq_iff_eq]; exact hq
      have HV : Hid (R = st.lks[k].id) := HFk.out (hq ▸ List.getElem_mem hml)
      have bx0 := (HB1.out.block _ (lt_of_block HP0.out)).trans HP0.out
      have bx1 := (HB1.out.block _ (lt_of_block HS0.out)).trans HS0.out
      obtain ⟨pp0, pp1, pp2, pp3, pp4, pp5⟩ := cells6 (bx0)
      have ss2 : W1.cell? ⟨w.heap.size + 1, 2, none⟩ = some (.slice (some ⟨gl, ol, none⟩) st.lks.length d3) := (cell_of_row W1 _ 2 _ _ _ (bx1)).trans rfl
      have lb := block_lt_of_cell pp0
      have ls := block_lt_of_cell ss2
      clear bx0 bx1
      obtain ⟨gl2, ol2, vs2, eb2, hvl2, hvc2, hvr2⟩ := (HLK.out W1 HBW1.out).at_ k hlt
      obtain rfl : vs2 = [.int .i64 st.lks[k].id, .int .u8 st.lks[k].ph, .int .i64 st.lks[k].gone, .int .i64 st.lks[k].left] := hvr2
      cases eb2
      have y0 : W1.cell? ⟨gl, ol + k * 4, none⟩ = some (.int .i64 st.lks[k].id) := hvc2 0 (by simp)
      have ly := block_lt_of_cell y0
      clear hvc2 hvl2 hq
      go_wp2_with fail
      go_ret
      exact ⟨by rw [HV.out]; rfl, HBW1.out⟩
     ·have t1 : (LH[m] == n) = false := by rw [beq_eq_false_iff_ne]; exact hq
      have HQ := Lib.hid hq
      clear hq
      go_wp2_with fail
      go_roundg (LH.length - (m + 1))
      case measure => go_light; omega
      case rel =>
       go_light
       refine ⟨m + 1, by omega, by omega, by go_num, rfl, fun j h1 h2 => ?_⟩
       by_cases hjm : j = m
       ·subst hjm; exact HQ.out
       ·exact HN.out j h1 (by omega)
    ·have hd2 : decide ((m : Int) < (LH.length : Int)) = false := by simp; omega
     have HNN : Hid (n ∉ LH) := fun hmem => by
      obtain ⟨j, hj, e⟩ := List.getElem_of_mem hmem
      exact HN.out j hj (by omega) e
     go_wp2_with fail
     go_roundg (st.lks.length - (k + 1))
     case measure => go_light; omega
     case rel => go_light; exact ⟨k + 1, by omega, by omega, by go_num, HB1.out, HNk.out HNN.out⟩
  ·obtain rfl : k = st.lks.length := by omega
   have hd : decide ((st.lks.length : Int) < (st.lks.length : Int)) = false := by simp
   have HV : Hid (R = 0) := HF2.out HNO.out
   go_wp2_with fail
   go_ret
   exact ⟨by rw [HV.out]; rfl, HBW.out⟩
end Go.Proofs.YtbiehpjhhopjaaaGreat
namespace Go.Proofs.YtbiehpjhhopjaaaGreat
open Go.RowKit Go.Sort
theorem asksL_made {p : Pl} (hPM : PlanMay p) {k : Nat} (hk : k < p.rts.length) {x : Rw} (hx : rwEnd p p.rts[k] = some x) (l : Lk) : asksL (wyOf p p.rts[k]) l = asksRR (madeAsks p p.rts[k] x) l := by
 rw [asks_ref, made_asks hPM hk hx]
theorem asksRR_len {MA : List Ask} (h : MA.length ≤ 1000) (l : Lk) : (asksRR MA l).length ≤ 1000 := by
 unfold asksRR
 split
 ·simp
 ·exact Nat.le_trans (List.length_filter_le _ _) h
theorem find_first {l : List Ask} {n : Int} {m : Nat} (hm : m < l.length) (h : l[m].pt = n) (hno : ∀ j (hj : j < l.length), j < m → l[j].pt ≠ n) : l.find? (fun a => decide (a.pt = n)) = some l[m] :=
 List.find?_eq_some_iff_getElem.2 ⟨by simpa using h, m, hm, rfl, fun j hj => by simpa using hno j (by omega) hj⟩
theorem findSome_first {β : Type} (f : Nat → Option β) (b : β) : ∀ (N k : Nat), k < N → (∀ j, j < k → f j = none) → f k = some b → (List.range N).findSome? f = some b
 | 0, k, h, _, _ => absurd h (Nat.not_lt_zero _)
 | N + 1, k, h, h1, h2 => by
  rw [findSome_range_succ]
  rcases Nat.lt_or_ge k N with h' | h'
  ·rw [findSome_first f b N k h' h1 h2]
  ·obtain rfl : k = N := by omega
   have : (List.range k).findSome? f = none := by rw [List.findSome?_eq_none_iff]; intro j hj; exact h1 j (by simpa using hj)
   rw [this]
   exact h2
theorem lie_at {p : Pl} {st : St} {n : Int} {k : Nat} (hk : k < st.lks.length) (h1 : ∀ j, j < k → ∀ a ∈ asksL (wyOf p (p.rts.getD j zRt)) (st.lks.getD j zLk), a.pt ≠ n) {m : Nat} (hm : m < (asksL (wyOf p (p.rts.getD k zRt)) (st.lks.getD k zLk)).length) (h2 : (asksL (wyOf p (p.rts.getD k zRt)) (st.lks.getD k zLk))[m].pt = n)
  (h3 : ∀ j (hj : j < (asksL (wyOf p (p.rts.getD k zRt)) (st.lks.getD k zLk)).length), j < m → (asksL (wyOf p (p.rts.getD k zRt)) (st.lks.getD k zLk))[j].pt ≠ n) : lieOf p st n = (asksL (wyOf p (p.rts.getD k zRt)) (st.lks.getD k zLk))[m].lie := by
 unfold lieOf
 rw [findSome_first (askedAt p st n) _ st.lks.length k hk (fun j hj => by unfold askedAt; rw [List.find?_eq_none]; intro a ha; simpa using h1 j hj a ha) (by unfold askedAt; exact find_first hm h2 h3)]
theorem lie_no {p : Pl} {st : St} {n : Int} (h1 : ∀ j, j < st.lks.length → ∀ a ∈ asksL (wyOf p (p.rts.getD j zRt)) (st.lks.getD j zLk), a.pt ≠ n) : lieOf p st n = 0 := by
 unfold lieOf
 have : (List.range st.lks.length).findSome? (askedAt p st n) = none := by
  rw [List.findSome?_eq_none_iff]
  intro j hj
  unfold askedAt
  rw [List.find?_eq_none]
  intro a ha
  simpa using h1 j (by simpa using hj) a ha
 rw [this]
set_option maxRecDepth 100000 in
set_option maxHeartbeats 8000000 in
theorem refAskLie (p : Pl) (st : St) (n : Int) (s q gg rr t sw lk : Value) (w : World) (hp : PlM w s q gg rr p) (hf : p.Fit) (hPS : PlanSound p) (hs : StM w t sw lk st) (hsf : st.fit) (hle : st.lks.length ≤ p.rts.length) :
  Calls Tryz.prog 258 #[plV p s q gg rr, stV t sw lk, .int .i64 n] w (NumPost w (lieOf p st n)) := by
 have hPM := ((sound_iff p).1 hPS).1
 obtain ⟨HK, hHK⟩ : ∃ HK : Nat → List Ask, HK = fun k => asksL (wyOf p (p.rts.getD k zRt)) (st.lks.getD k zLk) := ⟨_, rfl⟩
 have HC : Hid (∀ k (hk : k < st.lks.length) W, Below w.heap.size w W → Calls Tryz.prog 222 #[plV p s q gg rr, .agg #[.int .i64 st.lks[k].id, .int .u8 st.lks[k].ph, .int .i64 st.lks[k].gone, .int .i64 st.lks[k].left], .int .i64 k] W (AsksPost W (HK k))) := fun k hk W hb => by
  obtain ⟨x, hx⟩ := sound_end hPS (Nat.lt_of_lt_of_le hk hle)
  have := refAsks p s q gg rr k (Nat.lt_of_lt_of_le hk hle) st.lks[k] W (hp.below hb) hf hPM x hx
  rw [← asksL_made hPM (Nat.lt_of_lt_of_le hk hle) hx] at this
  rw [hHK]
  simpa [List.getD_eq_getElem?_getD, hk, Nat.lt_of_lt_of_le hk hle] using this
 have HKL : Hid (∀ k, k < st.lks.length → (HK k).length ≤ 1000) := fun k hk => by
  obtain ⟨x, hx⟩ := sound_end hPS (Nat.lt_of_lt_of_le hk hle)
  have := asksRR_len (made_len hPM (Nat.lt_of_lt_of_le hk hle) x) st.lks[k]
  rw [← asksL_made hPM (Nat.lt_of_lt_of_le hk hle) hx] at this
  rw [hHK]
  simpa [List.getD_eq_getElem?_getD, hk, Nat.lt_of_lt_of_le hk hle] using this
 have HF1 : Hid (∀ k, k < st.lks.length → (∀ j, j < k → ∀ a ∈ HK j, a.pt ≠ n) → ∀ m (hm : m < (HK k).length), (HK k)[m].pt = n → (∀ j (hj : j < (HK k).length), j < m → (HK k)[j].pt ≠ n) → lieOf p st n = (HK k)[m].lie) := fun k hk h1 m hm h2 h3 => by subst hHK; exact lie_at hk h1 hm h2 h3
 have HF2 : Hid ((∀ j, j < st.lks.length → ∀ a ∈ HK j, a.pt ≠ n) → lieOf p st n = 0) := fun h1 => by subst hHK; exact lie_no h1
 clear hHK hPM hPS
 generalize lieOf p st n = R at *
 obtain ⟨a1, k1, rfl, -⟩ := hp.secs
 obtain ⟨a2, k2, rfl, -⟩ := hp.pts
 obtain ⟨a3, k3, rfl, -⟩ := hp.sigs
 obtain ⟨a4, k4, rfl, -⟩ := hp.rts
 obtain ⟨b1, d1, rfl, -⟩ := hs.tks
 obtain ⟨b2, d2, rfl, -⟩ := hs.sws
 obtain ⟨b3, d3, rfl, g7⟩ := hs.lks
 have HLK : Hid (∀ W, Below w.heap.size w W → SlA W 4 RLk b3 d3 st.lks) := fun W hb => g7.below keeps_lk hb
 have LL := hsf.2.2
 clear hp hf hs hsf g7 hle
 unfold plV at *
 unfold stV
 go_enter Tryz.func258, Tryz.ntmps258
 go_upto_region 1 with fail
 generalize hW0 : World.alloc _ _ = W0
 have K0 : Hid (Below w.heap.size w W0) := by show Below _ _ _; rw [← hW0]; exact ((Below.refl _ _).alloc (Nat.le_refl _) _).alloc (by simp) _
 have HP0 : Hid (W0.heap[w.heap.size]? = some (.cells #[.int .i64 p.ver, .int .i64 p.par, .slice a1 p.secs.length k1, .slice a2 p.pts.length k2, .slice a3 p.sigs.length k3, .slice a4 p.rts.length k4] 28 (0, 0))) := by show _ = _; rw [← hW0]; exact (heap_alloc_old _ _ (by simp)).trans (heap_alloc_new _ _)
 have HS0 : Hid (W0.heap[w.heap.size + 1]? = some (.cells #[.slice b1 st.tks.length d1, .slice b2 st.sws.length d2, .slice b3 st.lks.length d3] 33 (0, 0))) := by show _ = _; rw [← hW0]; exact heap_alloc2_new _ _ _
 clear hW0
 go_wp2_with fail
 go_loopg [7] st.lks.length (fun g i wr => ∃ (k : Nat), k ≤ st.lks.length ∧ g = st.lks.length - k ∧ i = .int .i64 k ∧ Below W0.heap.size W0 wr ∧ (∀ j, j < k → ∀ a ∈ HK j, a.pt ≠ n))
 case atStart => exact ⟨0, by omega, by omega, rfl, Below.refl _ _, fun j hj => absurd hj (Nat.not_lt_zero _)⟩
 case round =>
  obtain ⟨k, hk, rfl, rfl, hb, hno⟩ := hrel
  have HB := Lib.hid hb
  have HNO := Lib.hid hno
  have HBW : Hid (Below w.heap.size w wr) := K0.out.trans (hb.mono K0.out.size)
  have bx0 := (hb.block _ (lt_of_block HP0.out)).trans HP0.out
  have bx1 := (hb.block _ (lt_of_block HS0.out)).trans HS0.out
  obtain ⟨pp0, pp1, pp2, pp3, pp4, pp5⟩ := cells6 (bx0)
  have ss2 : wr.cell? ⟨w.heap.size + 1, 2, none⟩ = some (.slice b3 st.lks.length d3) := (cell_of_row wr _ 2 _ _ _ (bx1)).trans rfl
  have lb := block_lt_of_cell pp0
  have ls := block_lt_of_cell ss2
  clear bx0 bx1
  clear hb hno
  by_cases hlt : k < st.lks.length
  ·have hd : decide ((k : Int) < (st.lks.length : Int)) = true := by simp; omega
   obtain ⟨gl, ol, vs, eb, hvl, hvc, hvr⟩ := (HLK.out wr HBW.out).at_ k hlt
   obtain rfl : vs = [.int .i64 st.lks[k].id, .int .u8 st.lks[k].ph, .int .i64 st.lks[k].gone, .int .i64 st.lks[k].left] := hvr
   subst eb
   have y0 : wr.cell? ⟨gl, ol + k * 4, none⟩ = some (.int .i64 st.lks[k].id) := hvc 0 (by simp)
   have y1 : wr.cell? ⟨gl, ol + k * 4 + 1, none⟩ = some (.int .u8 st.lks[k].ph) := hvc 1 (by simp)
   have y2 : wr.cell? ⟨gl, ol + k * 4 + 2, none⟩ = some (.int .i64 st.lks[k].gone) := hvc 2 (by simp)
   have y3 : wr.cell? ⟨gl, ol + k * 4 + 3, none⟩ = some (.int .i64 st.lks[k].left) := hvc 3 (by simp)
   have ly := block_lt_of_cell y0
   clear hvc hvl
   have c0 : (0 : Int) ≤ (k : Int) := by omega
   have c1 : (k : Int) < (st.lks.length : Int) := by omega
   go_upto_region 4 with fail
   go_still_tail 7, (by kernel_rfl)
   change wpList _ _ _ _ _ wr.drew
   generalize hWD : wr.drew = WD
   have hbD : Below wr.heap.size wr WD := by rw [← hWD]; exact (Below.refl _ _).drew
   have HBD : Hid (Below w.heap.size w WD) := HBW.out.trans (hbD.mono HBW.out.size)
   have HBD0 : Hid (Below W0.heap.size W0 WD) := HB.out.trans (hbD.mono HB.out.size)
   have HCk := Lib.hid (HC.out k hlt WD HBD.out)
   have hkl := HKL.out k hlt
   have HFk := Lib.hid (HF1.out k hlt HNO.out)
   have HNk : Hid ((∀ a ∈ HK k, a.pt ≠ n) → ∀ j, j < k + 1 → ∀ a ∈ HK j, a.pt ≠ n) := fun h j hj => by
    rcases Nat.lt_or_ge j k with h' | h'
    ·exact HNO.out j h'
    ·obtain rfl : j = k := by omega
     exact h
   clear hWD hbD pp0 pp1 pp2 pp3 pp4 pp5 ss2 lb ls y0 y1 y2 y3 ly HC HNO HB HBW
   generalize HK k = LH at *
   go_wp2_with fail
   refine HCk.out.mono ?_
   rintro e W1 ⟨a, c, rfl, ho, hb1⟩
   have HI : Hid (SlA W1 3 RAsk a c LH) := by
    obtain ⟨a', c', e', h'⟩ := AskOwn.sl ho
    cases e'
    exact h'
   have HB1 : Hid (Below W0.heap.size W0 W1) := HBD0.out.trans (hb1.mono HBD0.out.size)
   have HBW1 : Hid (Below w.heap.size w W1) := K0.out.trans (HB1.out.mono K0.out.size)
   clear ho hb1 HCk HBD0 HBD
   go_wp2_with fail
   go_loopg [9] LH.length (fun g i wr => ∃ (m : Nat), m ≤ LH.length ∧ g = LH.length - m ∧ i = .int .i64 m ∧ wr = W1 ∧ (∀ j (hj : j < LH.length), j < m → LH[j].pt ≠ n))
   case atStart => exact ⟨0, by omega, by omega, rfl, rfl, fun j _ hj => absurd hj (Nat.not_lt_zero _)⟩
   case round =>
    obtain ⟨m, hm, rfl, rfl, hwr, hno⟩ := hrel
    obtain rfl := hwr.symm
    clear hwr
    have HN := Lib.hid hno
    clear hno
    by_cases hml : m < LH.length
    ·have hd2 : decide ((m : Int) < (LH.length : Int)) = true := by simp; omega
     obtain ⟨g, off, vx, rfl, hxl, hxc, hxr⟩ := HI.out.at_ m hml
     obtain rfl : vx = [.int .i64 LH[m].pt, .int .i64 LH[m].lie, .int .i64 LH[m].pl] := hxr
     have x0 : W1.cell? ⟨g, off + m * 3, none⟩ = some (.int .i64 LH[m].pt) := hxc 0 (by simp)
     have x1 : W1.cell? ⟨g, off + m * 3 + 1, none⟩ = some (.int .i64 LH[m].lie) := hxc 1 (by simp)
     clear hxl hxc
     have lx := block_lt_of_cell x0
     have m0 : (0 : Int) ≤ (m : Int) := by omega
     have m1 : (m : Int) < (LH.length : Int) := by omega
     by_cases hq : LH[m].pt = n
     ·have t1 : (LH[m].pt == n) = true := by rw [beq_iff_eq]; exact hq
      have HV : Hid (R = LH[m].lie) := HFk.out m hml hq HN.out
      clear hq
      go_wp2_with fail
      go_ret
      exact ⟨by rw [HV.out]; rfl, HBW1.out⟩
     ·have t1 : (LH[m].pt == n) = false := by rw [beq_eq_false_iff_ne]; exact hq
      have HQ := Lib.hid hq
      clear hq
      go_wp2_with fail
      go_roundg (LH.length - (m + 1))
      case measure => go_light; omega
      case rel =>
       go_light
       refine ⟨m + 1, by omega, by omega, by go_num, rfl, fun j h1 h2 => ?_⟩
       by_cases hjm : j = m
       ·subst hjm; exact HQ.out
       ·exact HN.out j h1 (by omega)
    ·have hd2 : decide ((m : Int) < (LH.length : Int)) = false := by simp; omega
     have HNN : Hid (∀ a ∈ LH, a.pt ≠ n) := fun a hmem => by
      obtain ⟨j, hj, e⟩ := List.getElem_of_mem hmem
      rw [← e]
      exact HN.out j hj (by omega)
     go_wp2_with fail
     go_roundg (st.lks.length - (k + 1))
     case measure => go_light; omega
     case rel => go_light; exact ⟨k + 1, by omega, by omega, by go_num, HB1.out, HNk.out HNN.out⟩
  ·obtain rfl : k = st.lks.length := by omega
   have hd : decide ((st.lks.length : Int) < (st.lks.length : Int)) = false := by simp
   have HV : Hid (R = 0) := HF2.out HNO.out
   go_wp2_with fail
   go_ret
   exact ⟨by rw [HV.out]; rfl, HBW.out⟩
end Go.Proofs.YtbiehpjhhopjaaaGreat
namespace Go.Proofs.YtbiehpjhhopjaaaGreat
open Go.RowKit Go.Sort
theorem own_setRow {W : World} {base : Nat} {e : TypeId} {sz : Nat} {v : Value} {n : Nat} {xs : List Value} (h : W.ownsRow base e sz v n xs) {g : Nat} {Z C : Array Value} {T : TypeId} (hg : W.heap[g]? = some (.cells Z T (0, 0))) (hne : T ≠ e) :
  (W.setRow g C).ownsRow base e sz v n xs := by
 refine ⟨h.1, ?_⟩
 rcases h.2 with hn | ⟨k, cap, cur, rfl, hbg, hgg, rest⟩
 ·exact .inl hn
 ·have hk : g ≠ k := fun e' => by
   rw [e', hgg] at hg
   injection hg with hg
   injection hg with _ h2 _
   exact hne h2.symm
  refine .inr ⟨k, cap, cur, rfl, hbg, ?_, rest⟩
  simp only [World.setRow, Array.getElem?_modify]
  rw [if_neg hk]
  exact hgg
theorem RG.swap {w0 : World} {v v' : Nat → Value} {ia is : Nat} {Z C C' : Array Value} {T : TypeId} {f : Nat → Bool} {s : Nat → Value} {W : World} (h : RG w0 v ia is Z C T f s W) (hs : f is = false) (hv : ∀ i, i ≠ ia → f i = true → v i = v' i) : RG w0 v' ia is Z C' T f s W :=
 ⟨h.bel, fun i hi hf => (h.val i hi hf).trans (hv i hi hf), h.ord, fun k => by
  obtain ⟨g, e, hg, hc⟩ := h.al k
  rw [hs] at hc
  exact ⟨g, e, hg, by rw [hs]; exact hc⟩⟩
structure RGX {α : Type} (w0 : World) (v : α → Nat → Value) (ia is ic : Nat) (Z : Array Value) (C : α → Array Value) (T : TypeId) (E : World → α → Prop) (f : Nat → Bool) (s : Nat → Value) (x : α) (W : World) : Prop where
 rg : RG w0 (v x) ia is Z (C x) T f s W
 has : f ic = true → E W x
 ord : f is = true → f ic = true
section
variable {α : Type} {w0 : World} {v : α → Nat → Value} {ia is ic : Nat} {Z : Array Value} {C : α → Array Value} {T : TypeId} {E : World → α → Prop} {f : Nat → Bool} {s : Nat → Value} {x : α} {W W' : World}
theorem RGX.start (x : α) (hb : Below w0.heap.size w0 W) : RGX w0 v ia is ic Z C T E (fun _ => false) s x W := ⟨RG.start hb, (fun (h : false = true) => Bool.noConfusion h), (fun (h : false = true) => Bool.noConfusion h)⟩
theorem RGX.grow (h : RGX w0 v ia is ic Z C T E f s x W) (hE : ∀ x, E W x → E W' x) (hb : Below W.heap.size W W') : RGX w0 v ia is ic Z C T E f s x W' := ⟨h.rg.grow hb, fun k => hE _ (h.has k), h.ord⟩
theorem RGX.step (h : RGX w0 v ia is ic Z C T E f s x W) (i : Nat) (h1 : i ≠ ia) (h2 : i ≠ is) (h3 : i ≠ ic) : RGX w0 v ia is ic Z C T E (fun j => decide (j = i) || f j) (fun j => if j = i then v x i else s j) x W := by
 have e1 : (decide (ic = i) || f ic) = f ic := by rw [decide_eq_false (fun e => h3 e.symm)]; rfl
 have e2 : (decide (is = i) || f is) = f is := by rw [decide_eq_false (fun e => h2 e.symm)]; rfl
 exact ⟨h.rg.step i h1 h2, fun k => h.has (e1 ▸ k), fun k => by rw [e1]; exact h.ord (e2 ▸ k)⟩
theorem RGX.call (h : RGX w0 v ia is ic Z C T E f s x W) (y : α) (h1 : ic ≠ ia) (h2 : ic ≠ is) (hun : f ic = false) (hv : ∀ i, i ≠ ic → v x i = v y i) (hb : Below W.heap.size W W') (hy : E W' y) : RGX w0 v ia is ic Z C T E (fun j => decide (j = ic) || f j) (fun j => if j = ic then v y ic else s j) y W' := by
 have hs : f is = false := by
  cases k : f is with
  | false => rfl
  | true => rw [h.ord k] at hun; cases hun
 have e2 : (decide (is = ic) || f is) = f is := by rw [decide_eq_false (fun e => h2 e.symm)]; rfl
 refine ⟨((h.rg.swap (v' := v y) (C' := C y) hs fun i _ hf => hv i fun e => ?_).grow hb).step ic h1 h2, fun _ => hy, fun k => ?_⟩
 ·subst e; rw [hun] at hf; cases hf
 ·simp
theorem RGX.alloc (h : RGX w0 v ia is ic Z C T E f s x W) (h1 : ia ≠ is) (h3 : ia ≠ ic) (hE : ∀ x, E W x → E (W.alloc (.cells Z T)) x) (hun : f ia = false) : RGX w0 v ia is ic Z C T E (fun j => decide (j = ia) || f j) (fun j => if j = ia then .pointer (some ⟨W.heap.size, 0, none⟩) else s j) x (W.alloc (.cells Z T)) := by
 have e1 : (decide (ic = ia) || f ic) = f ic := by rw [decide_eq_false (fun e => h3 e.symm)]; rfl
 have e2 : (decide (is = ia) || f is) = f is := by rw [decide_eq_false (fun e => h1 e.symm)]; rfl
 exact ⟨h.rg.alloc h1 hun, fun k => hE _ (h.has (e1 ▸ k)), fun k => by rw [e1]; exact h.ord (e2 ▸ k)⟩
theorem RGX.store (h : RGX w0 v ia is ic Z C T E f s x W) (h1 : ia ≠ is) (h2 : ic ≠ is) {g : Nat} (ha : f ia = true) (hc' : f ic = true) (e : s ia = .pointer (some ⟨g, 0, none⟩)) (hg : w0.heap.size ≤ g) (hc : W.heap[g]? = some (.cells Z T (0, 0))) (hE : E W x → E (W.setRow g (C x)) x) :
  RGX w0 v ia is ic Z C T E (fun j => decide (j = is) || f j) (fun j => if j = is then v x is else s j) x (W.setRow g (C x)) :=
 ⟨h.rg.store h1 ha e hg hc, fun _ => hE (h.has hc'), fun _ => by rw [hc', Bool.or_true]⟩
end
end Go.Proofs.YtbiehpjhhopjaaaGreat
