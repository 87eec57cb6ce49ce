/-
  law 25's FreeFallen, walked.
-/
import Derived.Test.YtbiehpjhhopjaaaGreatImgB
import Derived.Test.YtbiehpjhhopjaaaGreatLawE
import Derived.Test.YtbiehpjhhopjaaaGreatGreatA
import Derived.Test.YtbiehpjhhopjaaaGreatLawP
import Derived.Lib.QuietBelow
set_option linter.unusedVariables false
set_option linter.unusedSimpArgs false
namespace Go.Proofs.YtbiehpjhhopjaaaGreat
open Go.RowKit Go.Maps Go.Sort
theorem odd_few {p : Pl} {st : St} {x : Ar} (h : x.small) : (oddA p st x).small := by
  unfold oddA
  split
  · have k : ∀ (l : List Int) (pr : Int → Bool), l.length ≤ 200 → (normI (l.filter pr)).length ≤ 200 := fun l pr hl => Nat.le_trans (normI_len _) (Nat.le_trans (List.length_filter_le _ _) hl)
    exact ⟨k _ _ h.1, k _ _ h.2.1, k _ _ h.2.2.1, k _ _ h.2.2.2⟩
  · exact ⟨by decide, by decide, by decide, by decide⟩
theorem img_fit (p : Pl) {st : St} (h : st.fit) : (imgSt p st).fit := by
  obtain ⟨a, b, c⟩ := h
  unfold imgSt St.fit
  simp
  omega
set_option maxRecDepth 100000 in
set_option maxHeartbeats 16000000 in
theorem freeFallen_any (p : Pl) (s q gg rr : Value) (st : St) (t sw lk : Value) (x : Ar) (u1 u2 u3 u4 : Value) (w : World) (hp : PlM w s q gg rr p) (hs : StM w t sw lk st) (hx : AL w u1 u2 u3 u4 x) :
    Calls Tryz.prog 8 #[plV p s q gg rr, .agg #[t, sw, lk], .agg #[u1, u2, u3, u4]] w (BoolPost w true) := by
  have HP : Hid (∀ W, Below w.heap.size w W → PlM W s q gg rr p) := fun W hb => hp.below hb
  have HS : Hid (∀ W, Below w.heap.size w W → StM W t sw lk st) := fun W hb => hs.below hb
  have HX : Hid (∀ W, Below w.heap.size w W → AL W u1 u2 u3 u4 x) := fun W hb => hx.below hb
  obtain ⟨e1, f1, rfl, -⟩ := hx.s.at_
  obtain ⟨e2, f2, rfl, -⟩ := hx.p.at_
  obtain ⟨e3, f3, rfl, -⟩ := hx.g.at_
  obtain ⟨e4, f4, rfl, -⟩ := hx.r.at_
  obtain ⟨a1, c1, rfl, hsecs⟩ := hp.secs
  have HSE : Hid (∀ W, Below w.heap.size w W → SlA W 3 RSec a1 c1 p.secs) := fun W hb => hsecs.below keeps_sec hb
  clear hsecs
  obtain ⟨a2, c2, rfl, -⟩ := hp.pts
  obtain ⟨a3, c3, rfl, -⟩ := hp.sigs
  obtain ⟨a4, c4, rfl, -⟩ := hp.rts
  obtain ⟨b1, d1, rfl, -⟩ := hs.tks
  obtain ⟨b2, d2, rfl, -⟩ := hs.sws
  obtain ⟨b3, d3, rfl, -⟩ := hs.lks
  clear hp hs hx
  have HIM : Hid (p.Fit → st.fit → ∀ W, Below w.heap.size w W → Calls Tryz.prog 47 #[.agg #[.int .i64 p.ver, .int .i64 p.par, .slice a1 p.secs.length c1, .slice a2 p.pts.length c2, .slice a3 p.sigs.length c3, .slice a4 p.rts.length c4], .agg #[.slice b1 st.tks.length d1, .slice b2 st.sws.length d2, .slice b3 st.lks.length d3]] W (ImgPost W p st)) := fun hf hsf W hb => image_any p _ _ _ _ st _ _ _ W (HP.out W hb) hf (HS.out W hb) hsf
  have HIS : Hid (p.Fit → st.fit → x.small → ∀ W, Below w.heap.size w W → ∀ t s l, StM W t s l (imgSt p st) → Calls Tryz.prog 36 #[.agg #[.int .i64 p.ver, .int .i64 p.par, .slice a1 p.secs.length c1, .slice a2 p.pts.length c2, .slice a3 p.sigs.length c3, .slice a4 p.rts.length c4], .agg #[t, s, l], .agg #[.slice e1 x.s.length f1, .slice e2 x.p.length f2, .slice e3 x.g.length f3, .slice e4 x.r.length f4]] W (IsPost W (isFree p (imgSt p st) x) (ofErr p (imgSt p st)))) := fun hf hsf sx W hb t s l hm => is_any p (imgSt p st) x _ _ _ _ _ _ _ _ _ _ _ W (HP.out W hb) hf hm (img_fit p hsf) (HX.out W hb) sx.mid
  have HOW : Hid (p.Fit → st.fit → x.small → ∀ W, Below w.heap.size w W → Calls Tryz.prog 38 #[.agg #[.int .i64 p.ver, .int .i64 p.par, .slice a1 p.secs.length c1, .slice a2 p.pts.length c2, .slice a3 p.sigs.length c3, .slice a4 p.rts.length c4], .agg #[.slice b1 st.tks.length d1, .slice b2 st.sws.length d2, .slice b3 st.lks.length d3], .agg #[.slice e1 x.s.length f1, .slice e2 x.p.length f2, .slice e3 x.g.length f3, .slice e4 x.r.length f4]] W (OddPost W (oddA p st x) (ofErr p st))) := fun hf hsf sx W hb => odd_any p st x _ _ _ _ _ _ _ _ _ _ _ W (HP.out W hb) hf (HS.out W hb) hsf (HX.out W hb) sx.mid
  have HON : Hid (p.Fit → st.fit → x.small → ∀ W, Below w.heap.size w W → ∀ t s l, StM W t s l (imgSt p st) → Calls Tryz.prog 38 #[.agg #[.int .i64 p.ver, .int .i64 p.par, .slice a1 p.secs.length c1, .slice a2 p.pts.length c2, .slice a3 p.sigs.length c3, .slice a4 p.rts.length c4], .agg #[t, s, l], .agg #[.slice e1 x.s.length f1, .slice e2 x.p.length f2, .slice e3 x.g.length f3, .slice e4 x.r.length f4]] W (OddPost W (oddA p (imgSt p st) x) (ofErr p (imgSt p st)))) := fun hf hsf sx W hb t s l hm => odd_any p (imgSt p st) x _ _ _ _ _ _ _ _ _ _ _ W (HP.out W hb) hf hm (img_fit p hsf) (HX.out W hb) sx.mid
  have HGP : Hid (∀ W, Below w.heap.size w W → Calls Tryz.prog 33 #[.agg #[.int .i64 p.ver, .int .i64 p.par, .slice a1 p.secs.length c1, .slice a2 p.pts.length c2, .slice a3 p.sigs.length c3, .slice a4 p.rts.length c4]] W (FalsePost W p.Fit)) := fun W hb => plgreat_any p _ _ _ _ W (HP.out W hb)
  have HGS : Hid (∀ W, Below w.heap.size w W → Calls Tryz.prog 34 #[.agg #[.slice b1 st.tks.length d1, .slice b2 st.sws.length d2, .slice b3 st.lks.length d3]] W (FalsePost W st.fit)) := fun W hb => stgreat_any _ _ _ st W (HS.out W hb)
  have HGX : Hid (∀ W, Below w.heap.size w W → Calls Tryz.prog 35 #[.agg #[.slice e1 x.s.length f1, .slice e2 x.p.length f2, .slice e3 x.g.length f3, .slice e4 x.r.length f4]] W fun e w' => e = .returned (.bool (!decide x.small)) ∧ Below W.heap.size W w') := fun W hb => great_any _ _ _ _ x W (HX.out W hb)
  have HHX : Hid (x.small → ∀ W, Below w.heap.size w W → ∀ k n : Int, 0 ≤ k → k ≤ 255 → Calls Tryz.prog 46 #[.agg #[.slice e1 x.s.length f1, .slice e2 x.p.length f2, .slice e3 x.g.length f3, .slice e4 x.r.length f4], .int .u8 k, .int .i64 n] W fun e w' => e = .returned (.bool (hasA x k n)) ∧ Below W.heap.size W w') := fun sx W hb k n k0 k1 => has_any _ _ _ _ x k n W (HX.out W hb) sx k0 k1
  have HOS : Hid (x.small → (oddA p st x).small ∧ (oddA p (imgSt p st) x).small) := fun h => ⟨odd_few h, odd_few h⟩
  have HER : Hid (ofErr p st = 0 → ofErr p (imgSt p st) = 0) := fun h => err_img h
  have HFF : Hid (ofErr p st = 0 → isFree p (imgSt p st) x = true → ∀ i (h : i < p.secs.length), hasA x 1 p.secs[i].id = false) := fun h hf i hi => fallen_free h x hf i hi
  have HOO : Hid (ofErr p st = 0 → ∀ k n, hasA (oddA p st x) k n = true → hasA (oddA p (imgSt p st) x) k n = true) := fun h k n hh => fallen_odd h x k n hh
  clear HP HS HX
  unfold ImgPost at HIM
  generalize isFree p (imgSt p st) x = IS at *
  generalize oddA p st x = O at *
  generalize oddA p (imgSt p st) x = Q at *
  generalize ofErr p (imgSt p st) = EI at *
  generalize imgSt p st = SI at *
  generalize ofErr p st = E at *
  unfold plV at *
  go_enter Tryz.func8, Tryz.ntmps8
  go_upto_region 1 with fail
  generalize hW0 : World.alloc _ _ = W0
  have K0 : Hid (Below w.heap.size w W0) := by
    show Below _ _ _
    rw [← hW0]
    exact (((Below.refl _ _).alloc (Nat.le_refl _) _).alloc (by simp) _).alloc (by simp <;> omega) _
  have BX0 : Hid (W0.heap[w.heap.size]? = some (.cells #[.int .i64 p.ver, .int .i64 p.par, .slice a1 p.secs.length c1, .slice a2 p.pts.length c2, .slice a3 p.sigs.length c3, .slice a4 p.rts.length c4] 28 (0, 0)) ∧ W0.heap[w.heap.size + 1]? = some (.cells #[.slice b1 st.tks.length d1, .slice b2 st.sws.length d2, .slice b3 st.lks.length d3] 33 (0, 0)) ∧ W0.heap[w.heap.size + 1 + 1]? = some (.cells #[.slice e1 x.s.length f1, .slice e2 x.p.length f2, .slice e3 x.g.length f3, .slice e4 x.r.length f4] 56 (0, 0))) := by
    show _ ∧ _
    have q0 : ((w.alloc (.cells #[.int .i64 p.ver, .int .i64 p.par, .slice a1 p.secs.length c1, .slice a2 p.pts.length c2, .slice a3 p.sigs.length c3, .slice a4 p.rts.length c4] 28)).alloc (.cells #[.slice b1 st.tks.length d1, .slice b2 st.sws.length d2, .slice b3 st.lks.length d3] 33)).heap[w.heap.size]? = some (.cells #[.int .i64 p.ver, .int .i64 p.par, .slice a1 p.secs.length c1, .slice a2 p.pts.length c2, .slice a3 p.sigs.length c3, .slice a4 p.rts.length c4] 28 (0, 0)) := (heap_alloc_old _ _ (by simp)).trans (heap_alloc_new _ _)
    have q1 : ((w.alloc (.cells #[.int .i64 p.ver, .int .i64 p.par, .slice a1 p.secs.length c1, .slice a2 p.pts.length c2, .slice a3 p.sigs.length c3, .slice a4 p.rts.length c4] 28)).alloc (.cells #[.slice b1 st.tks.length d1, .slice b2 st.sws.length d2, .slice b3 st.lks.length d3] 33)).heap[w.heap.size + 1]? = some (.cells #[.slice b1 st.tks.length d1, .slice b2 st.sws.length d2, .slice b3 st.lks.length d3] 33 (0, 0)) := heap_alloc2_new _ _ _
    have q2 := heap_alloc_new ((w.alloc (.cells #[.int .i64 p.ver, .int .i64 p.par, .slice a1 p.secs.length c1, .slice a2 p.pts.length c2, .slice a3 p.sigs.length c3, .slice a4 p.rts.length c4] 28)).alloc (.cells #[.slice b1 st.tks.length d1, .slice b2 st.sws.length d2, .slice b3 st.lks.length d3] 33)) (.cells #[.slice e1 x.s.length f1, .slice e2 x.p.length f2, .slice e3 x.g.length f3, .slice e4 x.r.length f4] 56)
    rw [← hW0]
    refine ⟨(heap_alloc_old _ _ (by simp <;> omega)).trans q0, (heap_alloc_old _ _ (by simp <;> omega)).trans q1, by simpa using q2⟩
  have HBB : Hid (∀ W W' : World, (W.heap[w.heap.size]? = some (.cells #[.int .i64 p.ver, .int .i64 p.par, .slice a1 p.secs.length c1, .slice a2 p.pts.length c2, .slice a3 p.sigs.length c3, .slice a4 p.rts.length c4] 28 (0, 0)) ∧ W.heap[w.heap.size + 1]? = some (.cells #[.slice b1 st.tks.length d1, .slice b2 st.sws.length d2, .slice b3 st.lks.length d3] 33 (0, 0)) ∧ W.heap[w.heap.size + 1 + 1]? = some (.cells #[.slice e1 x.s.length f1, .slice e2 x.p.length f2, .slice e3 x.g.length f3, .slice e4 x.r.length f4] 56 (0, 0))) → Below W.heap.size W W' → (W'.heap[w.heap.size]? = some (.cells #[.int .i64 p.ver, .int .i64 p.par, .slice a1 p.secs.length c1, .slice a2 p.pts.length c2, .slice a3 p.sigs.length c3, .slice a4 p.rts.length c4] 28 (0, 0)) ∧ W'.heap[w.heap.size + 1]? = some (.cells #[.slice b1 st.tks.length d1, .slice b2 st.sws.length d2, .slice b3 st.lks.length d3] 33 (0, 0)) ∧ W'.heap[w.heap.size + 1 + 1]? = some (.cells #[.slice e1 x.s.length f1, .slice e2 x.p.length f2, .slice e3 x.g.length f3, .slice e4 x.r.length f4] 56 (0, 0)))) := fun W W' hh hb => ⟨(hb.block _ (lt_of_block hh.1)).trans hh.1, (hb.block _ (lt_of_block hh.2.1)).trans hh.2.1, (hb.block _ (lt_of_block hh.2.2)).trans hh.2.2⟩
  clear hW0
  go_wp2_with fail
  refine (alive_any W0).mono ?_
  rintro e w1 ⟨rfl, hb1⟩
  have K1 : Hid (Below w.heap.size w w1) := K0.out.trans (hb1.mono K0.out.size)
  have BX1 := Lib.hid (HBB.out _ _ BX0.out hb1)
  clear hb1 K0 BX0
  have pp0 : w1.cell? ⟨w.heap.size, 0, none⟩ = some (.int .i64 p.ver) := (cell_of_row w1 _ 0 _ _ _ (BX1.out).1).trans rfl
  have pp1 : w1.cell? ⟨w.heap.size, 1, none⟩ = some (.int .i64 p.par) := (cell_of_row w1 _ 1 _ _ _ (BX1.out).1).trans rfl
  have pp2 : w1.cell? ⟨w.heap.size, 2, none⟩ = some (.slice a1 p.secs.length c1) := (cell_of_row w1 _ 2 _ _ _ (BX1.out).1).trans rfl
  have pp3 : w1.cell? ⟨w.heap.size, 3, none⟩ = some (.slice a2 p.pts.length c2) := (cell_of_row w1 _ 3 _ _ _ (BX1.out).1).trans rfl
  have pp4 : w1.cell? ⟨w.heap.size, 4, none⟩ = some (.slice a3 p.sigs.length c3) := (cell_of_row w1 _ 4 _ _ _ (BX1.out).1).trans rfl
  have pp5 : w1.cell? ⟨w.heap.size, 5, none⟩ = some (.slice a4 p.rts.length c4) := (cell_of_row w1 _ 5 _ _ _ (BX1.out).1).trans rfl
  go_wp2_with fail
  refine (HGP.out w1 K1.out).mono ?_
  rintro e w2 ⟨g1, rfl, hF, hb2⟩
  clear pp0 pp1 pp2 pp3 pp4 pp5
  have K2 : Hid (Below w.heap.size w w2) := K1.out.trans (hb2.mono K1.out.size)
  have BX2 := Lib.hid (HBB.out _ _ BX1.out hb2)
  clear hb2 K1 BX1
  cases g1 with
  | true =>
    go_wp2_with fail
    go_ret
    exact ⟨rfl, K2.out⟩
  | false =>
    have HF := Lib.hid (hF rfl)
    clear hF
    have ss0 : w2.cell? ⟨w.heap.size + 1, 0, none⟩ = some (.slice b1 st.tks.length d1) := (cell_of_row w2 _ 0 _ _ _ (BX2.out).2.1).trans rfl
    have ss1 : w2.cell? ⟨w.heap.size + 1, 1, none⟩ = some (.slice b2 st.sws.length d2) := (cell_of_row w2 _ 1 _ _ _ (BX2.out).2.1).trans rfl
    have ss2 : w2.cell? ⟨w.heap.size + 1, 2, none⟩ = some (.slice b3 st.lks.length d3) := (cell_of_row w2 _ 2 _ _ _ (BX2.out).2.1).trans rfl
    go_wp2_with fail
    refine (HGS.out w2 K2.out).mono ?_
    rintro e w3 ⟨g2, rfl, hF, hb3⟩
    clear ss0 ss1 ss2
    have K3 : Hid (Below w.heap.size w w3) := K2.out.trans (hb3.mono K2.out.size)
    have BX3 := Lib.hid (HBB.out _ _ BX2.out hb3)
    clear hb3 K2 BX2
    cases g2 with
    | true =>
      go_wp2_with fail
      go_ret
      exact ⟨rfl, K3.out⟩
    | false =>
      have HSF := Lib.hid (hF rfl)
      clear hF
      have xx0 : w3.cell? ⟨w.heap.size + 1 + 1, 0, none⟩ = some (.slice e1 x.s.length f1) := (cell_of_row w3 _ 0 _ _ _ (BX3.out).2.2).trans rfl
      have xx1 : w3.cell? ⟨w.heap.size + 1 + 1, 1, none⟩ = some (.slice e2 x.p.length f2) := (cell_of_row w3 _ 1 _ _ _ (BX3.out).2.2).trans rfl
      have xx2 : w3.cell? ⟨w.heap.size + 1 + 1, 2, none⟩ = some (.slice e3 x.g.length f3) := (cell_of_row w3 _ 2 _ _ _ (BX3.out).2.2).trans rfl
      have xx3 : w3.cell? ⟨w.heap.size + 1 + 1, 3, none⟩ = some (.slice e4 x.r.length f4) := (cell_of_row w3 _ 3 _ _ _ (BX3.out).2.2).trans rfl
      go_wp2_with fail
      refine (HGX.out w3 K3.out).mono ?_
      rintro e w4 ⟨rfl, hb4⟩
      clear xx0 xx1 xx2 xx3
      have K4 : Hid (Below w.heap.size w w4) := K3.out.trans (hb4.mono K3.out.size)
      have BX4 := Lib.hid (HBB.out _ _ BX3.out hb4)
      clear hb4 K3 BX3
      by_cases sx : x.small
      · have HSX := Lib.hid sx
        rw [decide_eq_true sx]
        clear sx
        simp only [Bool.not_true]
        have pp0 : w4.cell? ⟨w.heap.size, 0, none⟩ = some (.int .i64 p.ver) := (cell_of_row w4 _ 0 _ _ _ (BX4.out).1).trans rfl
        have pp1 : w4.cell? ⟨w.heap.size, 1, none⟩ = some (.int .i64 p.par) := (cell_of_row w4 _ 1 _ _ _ (BX4.out).1).trans rfl
        have pp2 : w4.cell? ⟨w.heap.size, 2, none⟩ = some (.slice a1 p.secs.length c1) := (cell_of_row w4 _ 2 _ _ _ (BX4.out).1).trans rfl
        have pp3 : w4.cell? ⟨w.heap.size, 3, none⟩ = some (.slice a2 p.pts.length c2) := (cell_of_row w4 _ 3 _ _ _ (BX4.out).1).trans rfl
        have pp4 : w4.cell? ⟨w.heap.size, 4, none⟩ = some (.slice a3 p.sigs.length c3) := (cell_of_row w4 _ 4 _ _ _ (BX4.out).1).trans rfl
        have pp5 : w4.cell? ⟨w.heap.size, 5, none⟩ = some (.slice a4 p.rts.length c4) := (cell_of_row w4 _ 5 _ _ _ (BX4.out).1).trans rfl
        have ss0 : w4.cell? ⟨w.heap.size + 1, 0, none⟩ = some (.slice b1 st.tks.length d1) := (cell_of_row w4 _ 0 _ _ _ (BX4.out).2.1).trans rfl
        have ss1 : w4.cell? ⟨w.heap.size + 1, 1, none⟩ = some (.slice b2 st.sws.length d2) := (cell_of_row w4 _ 1 _ _ _ (BX4.out).2.1).trans rfl
        have ss2 : w4.cell? ⟨w.heap.size + 1, 2, none⟩ = some (.slice b3 st.lks.length d3) := (cell_of_row w4 _ 2 _ _ _ (BX4.out).2.1).trans rfl
        go_wp2_with fail
        refine (HIM.out HF.out HSF.out w4 K4.out).mono ?_
        rintro e w5 hor
        rcases hor with ⟨hE, rfl, hb5⟩ | ⟨hE, t', s', l', rfl, hsm, hb5⟩
        · clear pp0 pp1 pp2 pp3 pp4 pp5 ss0 ss1 ss2
          have K5 : Hid (Below w.heap.size w w5) := K4.out.trans (hb5.mono K4.out.size)
          have BX5 := Lib.hid (HBB.out _ _ BX4.out hb5)
          clear hb5 K4 BX4
          go_wp2_with fail
          go_ret
          exact ⟨rfl, K5.out.alloc K5.out.size _⟩
        · obtain ⟨h1, m1, rfl, -⟩ := hsm.tks
          obtain ⟨h2, m2, rfl, -⟩ := hsm.sws
          obtain ⟨h3, m3, rfl, -⟩ := hsm.lks
          clear pp0 pp1 pp2 pp3 pp4 pp5 ss0 ss1 ss2
          have K5 : Hid (Below w.heap.size w w5) := K4.out.trans (hb5.mono K4.out.size)
          have BX5 := Lib.hid (HBB.out _ _ BX4.out hb5)
          clear hb5 K4 BX4
          have HSM := Lib.hid hsm
          have hEI := HER.out hE
          have HFG := Lib.hid (HFF.out hE)
          have HOG := Lib.hid (HOO.out hE)
          subst hE
          subst hEI
          clear hsm HFF HOO HER HIM
          go_upto_region 5 with fail
          generalize hW6 : World.alloc _ _ = w6
          have hb6 : Below w5.heap.size w5 w6 := by rw [← hW6]; exact (Below.refl _ _).alloc (Nat.le_refl _) _
          have HT6 : Hid (w6.heap[w5.heap.size]? = some (.cells #[.slice h1 SI.tks.length m1, .slice h2 SI.sws.length m2, .slice h3 SI.lks.length m3] 33 (0, 0))) := by show _ = _; rw [← hW6]; exact heap_alloc_new _ _
          have HSM6 := Lib.hid (HSM.out.below hb6)
          clear hW6 HSM
          have K6 : Hid (Below w.heap.size w w6) := K5.out.trans (hb6.mono K5.out.size)
          have BX6 := Lib.hid (HBB.out _ _ BX5.out hb6)
          clear hb6 K5 BX5
          have pp0 : w6.cell? ⟨w.heap.size, 0, none⟩ = some (.int .i64 p.ver) := (cell_of_row w6 _ 0 _ _ _ (BX6.out).1).trans rfl
          have pp1 : w6.cell? ⟨w.heap.size, 1, none⟩ = some (.int .i64 p.par) := (cell_of_row w6 _ 1 _ _ _ (BX6.out).1).trans rfl
          have pp2 : w6.cell? ⟨w.heap.size, 2, none⟩ = some (.slice a1 p.secs.length c1) := (cell_of_row w6 _ 2 _ _ _ (BX6.out).1).trans rfl
          have pp3 : w6.cell? ⟨w.heap.size, 3, none⟩ = some (.slice a2 p.pts.length c2) := (cell_of_row w6 _ 3 _ _ _ (BX6.out).1).trans rfl
          have pp4 : w6.cell? ⟨w.heap.size, 4, none⟩ = some (.slice a3 p.sigs.length c3) := (cell_of_row w6 _ 4 _ _ _ (BX6.out).1).trans rfl
          have pp5 : w6.cell? ⟨w.heap.size, 5, none⟩ = some (.slice a4 p.rts.length c4) := (cell_of_row w6 _ 5 _ _ _ (BX6.out).1).trans rfl
          have xx0 : w6.cell? ⟨w.heap.size + 1 + 1, 0, none⟩ = some (.slice e1 x.s.length f1) := (cell_of_row w6 _ 0 _ _ _ (BX6.out).2.2).trans rfl
          have xx1 : w6.cell? ⟨w.heap.size + 1 + 1, 1, none⟩ = some (.slice e2 x.p.length f2) := (cell_of_row w6 _ 1 _ _ _ (BX6.out).2.2).trans rfl
          have xx2 : w6.cell? ⟨w.heap.size + 1 + 1, 2, none⟩ = some (.slice e3 x.g.length f3) := (cell_of_row w6 _ 2 _ _ _ (BX6.out).2.2).trans rfl
          have xx3 : w6.cell? ⟨w.heap.size + 1 + 1, 3, none⟩ = some (.slice e4 x.r.length f4) := (cell_of_row w6 _ 3 _ _ _ (BX6.out).2.2).trans rfl
          have tt0 : w6.cell? ⟨w5.heap.size, 0, none⟩ = some (.slice h1 SI.tks.length m1) := (cell_of_row w6 _ 0 _ _ _ (HT6.out)).trans rfl
          have tt1 : w6.cell? ⟨w5.heap.size, 1, none⟩ = some (.slice h2 SI.sws.length m2) := (cell_of_row w6 _ 1 _ _ _ (HT6.out)).trans rfl
          have tt2 : w6.cell? ⟨w5.heap.size, 2, none⟩ = some (.slice h3 SI.lks.length m3) := (cell_of_row w6 _ 2 _ _ _ (HT6.out)).trans rfl
          go_wp2_with fail
          refine (HIS.out HF.out HSF.out HSX.out w6 K6.out _ _ _ HSM6.out).mono ?_
          rintro e w7 ⟨rfl, hb7⟩
          have HT7 := Lib.hid ((hb7.block _ (lt_of_block HT6.out)).trans HT6.out)
          have HSM7 := Lib.hid (HSM6.out.below hb7)
          clear pp0 pp1 pp2 pp3 pp4 pp5 xx0 xx1 xx2 xx3 tt0 tt1 tt2
          clear HT6 HSM6 HIS
          have K7 : Hid (Below w.heap.size w w7) := K6.out.trans (hb7.mono K6.out.size)
          have BX7 := Lib.hid (HBB.out _ _ BX6.out hb7)
          clear hb7 K6 BX6
          have pp0 : w7.cell? ⟨w.heap.size, 0, none⟩ = some (.int .i64 p.ver) := (cell_of_row w7 _ 0 _ _ _ (BX7.out).1).trans rfl
          have pp1 : w7.cell? ⟨w.heap.size, 1, none⟩ = some (.int .i64 p.par) := (cell_of_row w7 _ 1 _ _ _ (BX7.out).1).trans rfl
          have pp2 : w7.cell? ⟨w.heap.size, 2, none⟩ = some (.slice a1 p.secs.length c1) := (cell_of_row w7 _ 2 _ _ _ (BX7.out).1).trans rfl
          have pp3 : w7.cell? ⟨w.heap.size, 3, none⟩ = some (.slice a2 p.pts.length c2) := (cell_of_row w7 _ 3 _ _ _ (BX7.out).1).trans rfl
          have pp4 : w7.cell? ⟨w.heap.size, 4, none⟩ = some (.slice a3 p.sigs.length c3) := (cell_of_row w7 _ 4 _ _ _ (BX7.out).1).trans rfl
          have pp5 : w7.cell? ⟨w.heap.size, 5, none⟩ = some (.slice a4 p.rts.length c4) := (cell_of_row w7 _ 5 _ _ _ (BX7.out).1).trans rfl
          have ss0 : w7.cell? ⟨w.heap.size + 1, 0, none⟩ = some (.slice b1 st.tks.length d1) := (cell_of_row w7 _ 0 _ _ _ (BX7.out).2.1).trans rfl
          have ss1 : w7.cell? ⟨w.heap.size + 1, 1, none⟩ = some (.slice b2 st.sws.length d2) := (cell_of_row w7 _ 1 _ _ _ (BX7.out).2.1).trans rfl
          have ss2 : w7.cell? ⟨w.heap.size + 1, 2, none⟩ = some (.slice b3 st.lks.length d3) := (cell_of_row w7 _ 2 _ _ _ (BX7.out).2.1).trans rfl
          have xx0 : w7.cell? ⟨w.heap.size + 1 + 1, 0, none⟩ = some (.slice e1 x.s.length f1) := (cell_of_row w7 _ 0 _ _ _ (BX7.out).2.2).trans rfl
          have xx1 : w7.cell? ⟨w.heap.size + 1 + 1, 1, none⟩ = some (.slice e2 x.p.length f2) := (cell_of_row w7 _ 1 _ _ _ (BX7.out).2.2).trans rfl
          have xx2 : w7.cell? ⟨w.heap.size + 1 + 1, 2, none⟩ = some (.slice e3 x.g.length f3) := (cell_of_row w7 _ 2 _ _ _ (BX7.out).2.2).trans rfl
          have xx3 : w7.cell? ⟨w.heap.size + 1 + 1, 3, none⟩ = some (.slice e4 x.r.length f4) := (cell_of_row w7 _ 3 _ _ _ (BX7.out).2.2).trans rfl
          go_wp2_with fail
          refine (HOW.out HF.out HSF.out HSX.out w7 K7.out).mono ?_
          rintro e w8 ⟨z1, z2, z3, z4, rfl, hal, hb8⟩
          obtain ⟨o1, o5, rfl, -⟩ := hal.s.at_
          obtain ⟨o2, o6, rfl, -⟩ := hal.p.at_
          obtain ⟨o3, o7, rfl, -⟩ := hal.g.at_
          obtain ⟨o4, o8, rfl, -⟩ := hal.r.at_
          have HT8 := Lib.hid ((hb8.block _ (lt_of_block HT7.out)).trans HT7.out)
          have HSM8 := Lib.hid (HSM7.out.below hb8)
          have HAO := Lib.hid hal
          clear pp0 pp1 pp2 pp3 pp4 pp5 ss0 ss1 ss2 xx0 xx1 xx2 xx3
          clear hal HT7 HSM7 HOW
          have K8 : Hid (Below w.heap.size w w8) := K7.out.trans (hb8.mono K7.out.size)
          have BX8 := Lib.hid (HBB.out _ _ BX7.out hb8)
          clear hb8 K7 BX7
          go_upto_region 9 with fail
          generalize hW9 : World.alloc _ _ = w9
          have hb9 : Below w8.heap.size w8 w9 := by rw [← hW9]; exact (Below.refl _ _).alloc (Nat.le_refl _) _
          have HO9 : Hid (w9.heap[w8.heap.size]? = some (.cells #[.slice o1 O.s.length o5, .slice o2 O.p.length o6, .slice o3 O.g.length o7, .slice o4 O.r.length o8] 56 (0, 0))) := by show _ = _; rw [← hW9]; exact heap_alloc_new _ _
          have HT9 := Lib.hid ((hb9.block _ (lt_of_block HT8.out)).trans HT8.out)
          have HSM9 := Lib.hid (HSM8.out.below hb9)
          have HAO9 := Lib.hid (HAO.out.below hb9)
          clear hW9 HT8 HSM8 HAO
          have K9 : Hid (Below w.heap.size w w9) := K8.out.trans (hb9.mono K8.out.size)
          have BX9 := Lib.hid (HBB.out _ _ BX8.out hb9)
          clear hb9 K8 BX8
          have pp0 : w9.cell? ⟨w.heap.size, 0, none⟩ = some (.int .i64 p.ver) := (cell_of_row w9 _ 0 _ _ _ (BX9.out).1).trans rfl
          have pp1 : w9.cell? ⟨w.heap.size, 1, none⟩ = some (.int .i64 p.par) := (cell_of_row w9 _ 1 _ _ _ (BX9.out).1).trans rfl
          have pp2 : w9.cell? ⟨w.heap.size, 2, none⟩ = some (.slice a1 p.secs.length c1) := (cell_of_row w9 _ 2 _ _ _ (BX9.out).1).trans rfl
          have pp3 : w9.cell? ⟨w.heap.size, 3, none⟩ = some (.slice a2 p.pts.length c2) := (cell_of_row w9 _ 3 _ _ _ (BX9.out).1).trans rfl
          have pp4 : w9.cell? ⟨w.heap.size, 4, none⟩ = some (.slice a3 p.sigs.length c3) := (cell_of_row w9 _ 4 _ _ _ (BX9.out).1).trans rfl
          have pp5 : w9.cell? ⟨w.heap.size, 5, none⟩ = some (.slice a4 p.rts.length c4) := (cell_of_row w9 _ 5 _ _ _ (BX9.out).1).trans rfl
          have xx0 : w9.cell? ⟨w.heap.size + 1 + 1, 0, none⟩ = some (.slice e1 x.s.length f1) := (cell_of_row w9 _ 0 _ _ _ (BX9.out).2.2).trans rfl
          have xx1 : w9.cell? ⟨w.heap.size + 1 + 1, 1, none⟩ = some (.slice e2 x.p.length f2) := (cell_of_row w9 _ 1 _ _ _ (BX9.out).2.2).trans rfl
          have xx2 : w9.cell? ⟨w.heap.size + 1 + 1, 2, none⟩ = some (.slice e3 x.g.length f3) := (cell_of_row w9 _ 2 _ _ _ (BX9.out).2.2).trans rfl
          have xx3 : w9.cell? ⟨w.heap.size + 1 + 1, 3, none⟩ = some (.slice e4 x.r.length f4) := (cell_of_row w9 _ 3 _ _ _ (BX9.out).2.2).trans rfl
          have tt0 : w9.cell? ⟨w5.heap.size, 0, none⟩ = some (.slice h1 SI.tks.length m1) := (cell_of_row w9 _ 0 _ _ _ (HT9.out)).trans rfl
          have tt1 : w9.cell? ⟨w5.heap.size, 1, none⟩ = some (.slice h2 SI.sws.length m2) := (cell_of_row w9 _ 1 _ _ _ (HT9.out)).trans rfl
          have tt2 : w9.cell? ⟨w5.heap.size, 2, none⟩ = some (.slice h3 SI.lks.length m3) := (cell_of_row w9 _ 2 _ _ _ (HT9.out)).trans rfl
          go_wp2_with fail
          refine (HON.out HF.out HSF.out HSX.out w9 K9.out _ _ _ HSM9.out).mono ?_
          rintro e w10 ⟨z1, z2, z3, z4, rfl, hal, hb10⟩
          obtain ⟨q1, q5, rfl, -⟩ := hal.s.at_
          obtain ⟨q2, q6, rfl, -⟩ := hal.p.at_
          obtain ⟨q3, q7, rfl, -⟩ := hal.g.at_
          obtain ⟨q4, q8, rfl, -⟩ := hal.r.at_
          have HO10 := Lib.hid ((hb10.block _ (lt_of_block HO9.out)).trans HO9.out)
          have HAO10 := Lib.hid (HAO9.out.below hb10)
          have HAQ := Lib.hid hal
          clear pp0 pp1 pp2 pp3 pp4 pp5 xx0 xx1 xx2 xx3 tt0 tt1 tt2
          clear hal HT9 HSM9 HO9 HAO9 HON
          have K10 : Hid (Below w.heap.size w w10) := K9.out.trans (hb10.mono K9.out.size)
          have BX10 := Lib.hid (HBB.out _ _ BX9.out hb10)
          clear hb10 K9 BX9
          go_upto_region 10 with fail
          generalize hW11 : World.alloc _ _ = w11
          have hb11 : Below w10.heap.size w10 w11 := by rw [← hW11]; exact (Below.refl _ _).alloc (Nat.le_refl _) _
          have HQ11 : Hid (w11.heap[w10.heap.size]? = some (.cells #[.slice q1 Q.s.length q5, .slice q2 Q.p.length q6, .slice q3 Q.g.length q7, .slice q4 Q.r.length q8] 56 (0, 0))) := by show _ = _; rw [← hW11]; exact heap_alloc_new _ _
          have HO11 := Lib.hid ((hb11.block _ (lt_of_block HO10.out)).trans HO10.out)
          have HAO11 := Lib.hid (HAO10.out.below hb11)
          have HAQ11 := Lib.hid (HAQ.out.below hb11)
          clear hW11 HO10 HAO10 HAQ
          have K11 : Hid (Below w.heap.size w w11) := K10.out.trans (hb11.mono K10.out.size)
          have BX11 := Lib.hid (HBB.out _ _ BX10.out hb11)
          clear hb11 K10 BX10
          have HHO : Hid (∀ W, Below w11.heap.size w11 W → ∀ k n : Int, 0 ≤ k → k ≤ 255 → Calls Tryz.prog 46 #[.agg #[.slice o1 O.s.length o5, .slice o2 O.p.length o6, .slice o3 O.g.length o7, .slice o4 O.r.length o8], .int .u8 k, .int .i64 n] W fun e w' => e = .returned (.bool (hasA O k n)) ∧ Below W.heap.size W w') := fun W hb k n k0 k1 => has_any _ _ _ _ O k n W (HAO11.out.below hb) (HOS.out HSX.out).1 k0 k1
          have HHQ : Hid (∀ W, Below w11.heap.size w11 W → ∀ k n : Int, 0 ≤ k → k ≤ 255 → Calls Tryz.prog 46 #[.agg #[.slice q1 Q.s.length q5, .slice q2 Q.p.length q6, .slice q3 Q.g.length q7, .slice q4 Q.r.length q8], .int .u8 k, .int .i64 n] W fun e w' => e = .returned (.bool (hasA Q k n)) ∧ Below W.heap.size W w') := fun W hb k n k0 k1 => has_any _ _ _ _ Q k n W (HAQ11.out.below hb) (HOS.out HSX.out).2 k0 k1
          clear HAO11 HAQ11 HOS
          go_wp2_with fail
          go_loopg [16] p.secs.length (fun g i wr => ∃ k : Nat, k ≤ p.secs.length ∧ g = p.secs.length - k ∧ i = .int .i64 k ∧ Below w11.heap.size w11 wr)
          case atStart => exact ⟨0, by omega, by omega, rfl, Below.refl _ _⟩
          case round =>
            obtain ⟨k, hk, rfl, rfl, hb⟩ := hrel
            obtain ⟨wo, rfl⟩ : ∃ wo : World, wo = wr := ⟨_, rfl⟩
            have KO := Lib.hid hb
            have KWO : Hid (Below w.heap.size w wo) := K11.out.trans (hb.mono K11.out.size)
            have BXO := Lib.hid (HBB.out _ _ BX11.out hb)
            clear hb
            have pp0 : wo.cell? ⟨w.heap.size, 0, none⟩ = some (.int .i64 p.ver) := (cell_of_row wo _ 0 _ _ _ (BXO.out).1).trans rfl
            have pp1 : wo.cell? ⟨w.heap.size, 1, none⟩ = some (.int .i64 p.par) := (cell_of_row wo _ 1 _ _ _ (BXO.out).1).trans rfl
            have pp2 : wo.cell? ⟨w.heap.size, 2, none⟩ = some (.slice a1 p.secs.length c1) := (cell_of_row wo _ 2 _ _ _ (BXO.out).1).trans rfl
            have pp3 : wo.cell? ⟨w.heap.size, 3, none⟩ = some (.slice a2 p.pts.length c2) := (cell_of_row wo _ 3 _ _ _ (BXO.out).1).trans rfl
            have pp4 : wo.cell? ⟨w.heap.size, 4, none⟩ = some (.slice a3 p.sigs.length c3) := (cell_of_row wo _ 4 _ _ _ (BXO.out).1).trans rfl
            have pp5 : wo.cell? ⟨w.heap.size, 5, none⟩ = some (.slice a4 p.rts.length c4) := (cell_of_row wo _ 5 _ _ _ (BXO.out).1).trans rfl
            by_cases hlt : k < p.secs.length
            · have hdk : decide ((k : Int) < (p.secs.length : Int)) = true := by simp; omega
              have hbnd : p.secs.length ≤ 1000 := HF.out.secs
              have c0 : (0 : Int) ≤ (k : Int) := by omega
              have cz1 : (k : Int) < (p.secs.length : Int) := by omega
              obtain ⟨b, off, a', c', rfl, x0, x1, x2, -⟩ := (HSE.out _ KWO.out).sec hlt
              have l1 := World.block_lt_of_cell? _ _ x0
              have xx0 : wo.cell? ⟨w.heap.size + 1 + 1, 0, none⟩ = some (.slice e1 x.s.length f1) := (cell_of_row wo _ 0 _ _ _ (BXO.out).2.2).trans rfl
              have xx1 : wo.cell? ⟨w.heap.size + 1 + 1, 1, none⟩ = some (.slice e2 x.p.length f2) := (cell_of_row wo _ 1 _ _ _ (BXO.out).2.2).trans rfl
              have xx2 : wo.cell? ⟨w.heap.size + 1 + 1, 2, none⟩ = some (.slice e3 x.g.length f3) := (cell_of_row wo _ 2 _ _ _ (BXO.out).2.2).trans rfl
              have xx3 : wo.cell? ⟨w.heap.size + 1 + 1, 3, none⟩ = some (.slice e4 x.r.length f4) := (cell_of_row wo _ 3 _ _ _ (BXO.out).2.2).trans rfl
              have hR : ∀ (d : Nat) (os : Array Obj), Below w.heap.size w (grow (redrawn wo d) os) := fun d os => KWO.out.trans ((below_regrown wo d os).mono KWO.out.size)
              have HRW : Hid (∀ (d : Nat) (os : Array Obj), Below w11.heap.size w11 (grow (redrawn wo d) os)) := fun d os => KO.out.trans ((below_regrown wo d os).mono KO.out.size)
              have X0 := cell_regrown x0
              have P2 := cell_regrown pp2
              have Y0 := cell_regrown xx0
              have Y1 := cell_regrown xx1
              have Y2 := cell_regrown xx2
              have Y3 := cell_regrown xx3
              cases IS with
              | false =>
                clear hR x0 x1 x2 xx0 xx1 xx2 xx3 pp0 pp1 pp3 pp4 pp5
                go_upto_region 15 with fail
                refine wp_region_quiet_below (by kernel_rfl) (by kernel_rfl) ?_
                repeat (go_big_quiet_step (fail))
                refine wpQuiet_nil ?_
                rintro _ ⟨⟨dq, osq⟩, rfl⟩
                go_wp2_with fail
                go_roundg (p.secs.length - (k + 1))
                case measure => go_light; omega
                case rel => go_light; exact ⟨k + 1, by omega, by omega, by go_num, HRW.out dq osq⟩
              | true =>
                have hno := HFG.out (by simp) k hlt
                have cH : Hid (∀ (d : Nat) (os : Array Obj), Calls Tryz.prog 46 #[.agg #[.slice e1 x.s.length f1, .slice e2 x.p.length f2, .slice e3 x.g.length f3, .slice e4 x.r.length f4], .int .u8 1, .int .i64 p.secs[k].id] (grow (redrawn wo d) os) fun e w'' => e = .returned (.bool false) ∧ ∃ p : Regrown, w'' = grow (redrawn wo p.d) p.os) := fun d os => by
                  have := Calls.regrown_of (HHX.out HSX.out _ (hR d os) 1 p.secs[k].id (by decide) (by decide))
                  rw [hno] at this
                  exact this
                clear hR x0 x1 x2 xx0 xx1 xx2 xx3 pp0 pp1 pp3 pp4 pp5 hno
                go_upto_region 15 with fail
                refine wp_region_quiet_below (by kernel_rfl) (by kernel_rfl) ?_
                repeat (go_big_quiet_step (first | (with_reducible exact cH.out _ _)))
                refine wpQuiet_nil ?_
                rintro _ ⟨⟨dq, osq⟩, rfl⟩
                go_wp2_with fail
                go_roundg (p.secs.length - (k + 1))
                case measure => go_light; omega
                case rel => go_light; exact ⟨k + 1, by omega, by omega, by go_num, HRW.out dq osq⟩
            · obtain rfl : k = p.secs.length := by omega
              have hdk : decide ((p.secs.length : Int) < (p.secs.length : Int)) = false := by simp
              go_wp2_with fail
              go_loopg [17] 4 (fun g i wr => ∃ kk : Nat, 1 ≤ kk ∧ kk ≤ 5 ∧ g = 5 - kk ∧ i = .int .u8 kk ∧ Below w11.heap.size w11 wr)
              case atStart => exact ⟨1, by decide, by decide, rfl, rfl, KO.out⟩
              case round =>
                obtain ⟨kk, hk1, hk2, rfl, rfl, hb⟩ := hrel
                obtain ⟨wm, rfl⟩ : ∃ wm : World, wm = wr := ⟨_, rfl⟩
                have KM := Lib.hid hb
                have KWM : Hid (Below w.heap.size w wm) := K11.out.trans (hb.mono K11.out.size)
                clear hb
                by_cases hk4 : kk ≤ 4
                · have hdkk : decide ((kk : Int) ≤ 4) = true := by simp; omega
                  go_wp2_with fail
                  go_loopg [18] 99 (fun g i wr => ∃ nn : Nat, nn ≤ 100 ∧ 1 ≤ nn ∧ g = 100 - nn ∧ i = .int .i64 nn ∧ Below w11.heap.size w11 wr)
                  case atStart => exact ⟨1, by decide, by decide, rfl, rfl, KM.out⟩
                  case round =>
                    obtain ⟨nn, hn, hn0, rfl, rfl, hb⟩ := hrel
                    obtain ⟨wj, rfl⟩ : ∃ wj : World, wj = wr := ⟨_, rfl⟩
                    have KJ := Lib.hid hb
                    have KWJ : Hid (Below w.heap.size w wj) := K11.out.trans (hb.mono K11.out.size)
                    have hoj := (hb.block _ (lt_of_block HO11.out)).trans HO11.out
                    have HQJ := Lib.hid ((hb.block _ (lt_of_block HQ11.out)).trans HQ11.out)
                    clear hb
                    by_cases hnlt : nn < 100
                    · have hdn : decide ((nn : Int) < 100) = true := by simp; omega
                      have oo0 : wj.cell? ⟨w8.heap.size, 0, none⟩ = some (.slice o1 O.s.length o5) := (cell_of_row wj _ 0 _ _ _ (hoj)).trans rfl
                      have oo1 : wj.cell? ⟨w8.heap.size, 1, none⟩ = some (.slice o2 O.p.length o6) := (cell_of_row wj _ 1 _ _ _ (hoj)).trans rfl
                      have oo2 : wj.cell? ⟨w8.heap.size, 2, none⟩ = some (.slice o3 O.g.length o7) := (cell_of_row wj _ 2 _ _ _ (hoj)).trans rfl
                      have oo3 : wj.cell? ⟨w8.heap.size, 3, none⟩ = some (.slice o4 O.r.length o8) := (cell_of_row wj _ 3 _ _ _ (hoj)).trans rfl
                      have HC1 := Lib.hid (HHO.out wj KJ.out kk nn (by omega) (by omega))
                      clear hoj
                      by_cases hh : hasA O kk nn = true
                      · have hx2 := HOG.out _ _ hh
                        rw [hh] at HC1
                        have HX2 := Lib.hid hx2
                        clear hh hx2
                        go_wp2_with fail
                        refine HC1.out.mono ?_
                        rintro e wk ⟨rfl, hbk⟩
                        have KK : Hid (Below w11.heap.size w11 wk) := KJ.out.trans (hbk.mono KJ.out.size)
                        have hqk := (hbk.block _ (lt_of_block HQJ.out)).trans HQJ.out
                        have hc2 := HHQ.out wk KK.out kk nn (by omega) (by omega)
                        rw [HX2.out] at hc2
                        have HC2 := Lib.hid hc2
                        clear hbk oo0 oo1 oo2 oo3 hc2 HC1
                        have qq0 : wk.cell? ⟨w10.heap.size, 0, none⟩ = some (.slice q1 Q.s.length q5) := (cell_of_row wk _ 0 _ _ _ (hqk)).trans rfl
                        have qq1 : wk.cell? ⟨w10.heap.size, 1, none⟩ = some (.slice q2 Q.p.length q6) := (cell_of_row wk _ 1 _ _ _ (hqk)).trans rfl
                        have qq2 : wk.cell? ⟨w10.heap.size, 2, none⟩ = some (.slice q3 Q.g.length q7) := (cell_of_row wk _ 2 _ _ _ (hqk)).trans rfl
                        have qq3 : wk.cell? ⟨w10.heap.size, 3, none⟩ = some (.slice q4 Q.r.length q8) := (cell_of_row wk _ 3 _ _ _ (hqk)).trans rfl
                        clear hqk
                        go_wp2_with fail
                        refine HC2.out.mono ?_
                        rintro e wl ⟨rfl, hbl⟩
                        have KL : Hid (Below w11.heap.size w11 wl) := KK.out.trans (hbl.mono KK.out.size)
                        clear hbl qq0 qq1 qq2 qq3 HC2
                        go_wp2_with fail
                        go_roundg (100 - (nn + 1))
                        case measure => go_light; omega
                        case rel => go_light; exact ⟨nn + 1, by omega, by omega, by omega, by go_num, KL.out⟩
                      · rw [Bool.not_eq_true] at hh
                        rw [hh] at HC1
                        clear hh
                        go_wp2_with fail
                        refine HC1.out.mono ?_
                        rintro e wk ⟨rfl, hbk⟩
                        have KK : Hid (Below w11.heap.size w11 wk) := KJ.out.trans (hbk.mono KJ.out.size)
                        clear hbk oo0 oo1 oo2 oo3 HC1
                        go_wp2_with fail
                        go_roundg (100 - (nn + 1))
                        case measure => go_light; omega
                        case rel => go_light; exact ⟨nn + 1, by omega, by omega, by omega, by go_num, KK.out⟩
                    · have hdn : decide ((nn : Int) < 100) = false := by simp; omega
                      go_wp2_with fail
                      go_roundg (5 - (kk + 1))
                      case measure => go_light; omega
                      case rel => go_light; exact ⟨kk + 1, by omega, by omega, by omega, by go_num, KJ.out⟩
                · have hdkk : decide ((kk : Int) ≤ 4) = false := by simp; omega
                  go_wp2_with fail
                  go_ret
                  exact ⟨rfl, KWM.out⟩
      · rw [decide_eq_false sx]
        simp only [Bool.not_false]
        go_wp2_with fail
        go_ret
        exact ⟨rfl, K4.out⟩
end Go.Proofs.YtbiehpjhhopjaaaGreat
