/-
 What is left of an area, as the references have it, walked. (Written by wip/tools/gen_rwy.py.)
-/
import Derived.Test.YtbiehpjhhopjaaaGreatTRwX
set_option linter.unusedVariables false
set_option linter.unusedSimpArgs false
namespace Go.Proofs.YtbiehpjhhopjaaaGreat
open Go.RowKit Go.Sort
set_option maxRecDepth 100000 in
set_option maxHeartbeats 16000000 in
theorem refLeft (p : Pl) (st : St) (x : Ar) (s q gg rr t sw lk : Value) (u1 u2 u3 u4 : Value) (w : World) (hp : PlM w s q gg rr p) (hf : p.Fit) (hs : StM w t sw lk st) (hsf : st.fit) (hx : AL w u1 u2 u3 u4 x) (hxs : x.small) (h0 : ofErr p st = 0) :
  Calls Tryz.prog 96 #[plV p s q gg rr, stV t sw lk, .agg #[u1, u2, u3, u4]] w (ArPost w (leftR p st x)) := by
 have HH1 : Hid (∀ W n, Below w.heap.size w W → Calls Tryz.prog 168 #[.agg #[u1, u2, u3, u4], .int .u8 1, .int .i64 n] W (BoolPost W (hasB x.s n))) := fun W n hb => refhas_any u1 u2 u3 u4 x 1 n W (hx.below hb) hxs (by decide) (by decide)
 have HO1 : Hid (∀ W n, Below w.heap.size w W → Calls Tryz.prog 169 #[plV p s q gg rr, stV t sw lk, .int .i64 1, .int .i64 n] W (BoolPost W (oddR1 p st n))) := fun W n hb => refOdd1 n p st s q gg rr t sw lk W (hp.below hb) hf (hs.below hb) hsf h0
 have HFQ1 : Hid (∀ k : Nat, ((hasB x.s ((k : Int) + 1) && oddR1 p st ((k : Int) + 1)) = true → pickTo (fun a => hasB x.s a && oddR1 p st a) (k + 1) = pickTo (fun a => hasB x.s a && oddR1 p st a) k ++ [((k : Int) + 1)]) ∧ ((hasB x.s ((k : Int) + 1) && oddR1 p st ((k : Int) + 1)) = false → pickTo (fun a => hasB x.s a && oddR1 p st a) (k + 1) = pickTo (fun a => hasB x.s a && oddR1 p st a) k)) := fun k => ⟨fun h => pickTo_t h, fun h => pickTo_f h⟩
 have HH2 : Hid (∀ W n, Below w.heap.size w W → Calls Tryz.prog 168 #[.agg #[u1, u2, u3, u4], .int .u8 2, .int .i64 n] W (BoolPost W (hasB x.p n))) := fun W n hb => refhas_any u1 u2 u3 u4 x 2 n W (hx.below hb) hxs (by decide) (by decide)
 have HO2 : Hid (∀ W n, Below w.heap.size w W → Calls Tryz.prog 169 #[plV p s q gg rr, stV t sw lk, .int .i64 2, .int .i64 n] W (BoolPost W (oddR2 p st n))) := fun W n hb => refOdd2 n p st s q gg rr t sw lk W (hp.below hb) hf (hs.below hb) hsf h0
 have HFQ2 : Hid (∀ k : Nat, ((hasB x.p ((k : Int) + 1) && oddR2 p st ((k : Int) + 1)) = true → pickTo (fun a => hasB x.p a && oddR2 p st a) (k + 1) = pickTo (fun a => hasB x.p a && oddR2 p st a) k ++ [((k : Int) + 1)]) ∧ ((hasB x.p ((k : Int) + 1) && oddR2 p st ((k : Int) + 1)) = false → pickTo (fun a => hasB x.p a && oddR2 p st a) (k + 1) = pickTo (fun a => hasB x.p a && oddR2 p st a) k)) := fun k => ⟨fun h => pickTo_t h, fun h => pickTo_f h⟩
 have HH3 : Hid (∀ W n, Below w.heap.size w W → Calls Tryz.prog 168 #[.agg #[u1, u2, u3, u4], .int .u8 3, .int .i64 n] W (BoolPost W (hasB x.g n))) := fun W n hb => refhas_any u1 u2 u3 u4 x 3 n W (hx.below hb) hxs (by decide) (by decide)
 have HO3 : Hid (∀ W n, Below w.heap.size w W → Calls Tryz.prog 169 #[plV p s q gg rr, stV t sw lk, .int .i64 3, .int .i64 n] W (BoolPost W (oddR3 p st n))) := fun W n hb => refOdd3 n p st s q gg rr t sw lk W (hp.below hb) hf (hs.below hb) hsf h0
 have HFQ3 : Hid (∀ k : Nat, ((hasB x.g ((k : Int) + 1) && oddR3 p st ((k : Int) + 1)) = true → pickTo (fun a => hasB x.g a && oddR3 p st a) (k + 1) = pickTo (fun a => hasB x.g a && oddR3 p st a) k ++ [((k : Int) + 1)]) ∧ ((hasB x.g ((k : Int) + 1) && oddR3 p st ((k : Int) + 1)) = false → pickTo (fun a => hasB x.g a && oddR3 p st a) (k + 1) = pickTo (fun a => hasB x.g a && oddR3 p st a) k)) := fun k => ⟨fun h => pickTo_t h, fun h => pickTo_f h⟩
 have HH4 : Hid (∀ W n, Below w.heap.size w W → Calls Tryz.prog 168 #[.agg #[u1, u2, u3, u4], .int .u8 4, .int .i64 n] W (BoolPost W (hasB x.r n))) := fun W n hb => refhas_any u1 u2 u3 u4 x 4 n W (hx.below hb) hxs (by decide) (by decide)
 have HO4 : Hid (∀ W n, Below w.heap.size w W → Calls Tryz.prog 169 #[plV p s q gg rr, stV t sw lk, .int .i64 4, .int .i64 n] W (BoolPost W (oddR4 p st n))) := fun W n hb => refOdd4 n p st s q gg rr t sw lk W (hp.below hb) hf (hs.below hb) hsf h0
 have HFQ4 : Hid (∀ k : Nat, ((hasB x.r ((k : Int) + 1) && oddR4 p st ((k : Int) + 1)) = true → pickTo (fun a => hasB x.r a && oddR4 p st a) (k + 1) = pickTo (fun a => hasB x.r a && oddR4 p st a) k ++ [((k : Int) + 1)]) ∧ ((hasB x.r ((k : Int) + 1) && oddR4 p st ((k : Int) + 1)) = false → pickTo (fun a => hasB x.r a && oddR4 p st a) (k + 1) = pickTo (fun a => hasB x.r a && oddR4 p st a) k)) := fun k => ⟨fun h => pickTo_t h, fun h => pickTo_f h⟩
 have HL : Hid (leftR p st x = ⟨pickTo (fun a => hasB x.s a && oddR1 p st a) 99, pickTo (fun a => hasB x.p a && oddR2 p st a) 99, pickTo (fun a => hasB x.g a && oddR3 p st a) 99, pickTo (fun a => hasB x.r a && oddR4 p st a) 99⟩) := rfl
 generalize leftR p st x = LR at *
 generalize hF1 : (fun a => hasB x.s a && oddR1 p st a) = F1 at *
 generalize hF2 : (fun a => hasB x.p a && oddR2 p st a) = F2 at *
 generalize hF3 : (fun a => hasB x.g a && oddR3 p st a) = F3 at *
 generalize hF4 : (fun a => hasB x.r a && oddR4 p st a) = F4 at *
 clear hF1
 generalize hasB x.s = H1 at *
 generalize oddR1 p st = O1 at *
 clear hF2
 generalize hasB x.p = H2 at *
 generalize oddR2 p st = O2 at *
 clear hF3
 generalize hasB x.g = H3 at *
 generalize oddR3 p st = O3 at *
 clear hF4
 generalize hasB x.r = H4 at *
 generalize oddR4 p st = O4 at *
 obtain ⟨a1, k1, rfl, -⟩ := hp.secs
 obtain ⟨a2, k2, rfl, -⟩ := hp.pts
 obtain ⟨a3, k3, rfl, -⟩ := hp.sigs
 obtain ⟨a4, k4, rfl, -⟩ := hp.rts
 obtain ⟨b1, d1, rfl, -⟩ := hs.tks
 obtain ⟨b2, d2, rfl, -⟩ := hs.sws
 obtain ⟨b3, d3, rfl, -⟩ := hs.lks
 obtain ⟨e1, f1, rfl, -⟩ := hx.s.at_
 obtain ⟨e2, f2, rfl, -⟩ := hx.p.at_
 obtain ⟨e3, f3, rfl, -⟩ := hx.g.at_
 obtain ⟨e4, f4, rfl, -⟩ := hx.r.at_
 clear hp hf hs hsf hx hxs h0
 unfold plV stV at *
 go_enter Tryz.func96, Tryz.ntmps96
 go_upto_region 1 with fail
 generalize hW0 : World.alloc _ _ = W0
 have K0 : Hid (Below w.heap.size w W0) := by show Below _ _ _; rw [← hW0]; exact ((((Below.refl _ _).alloc (Nat.le_refl _) _).alloc (by simp) _).alloc (by simp <;> omega) _).alloc (by simp <;> omega) _
 have HP0 : Hid (W0.heap[w.heap.size]? = some (.cells #[.int .i64 p.ver, .int .i64 p.par, .slice a1 p.secs.length k1, .slice a2 p.pts.length k2, .slice a3 p.sigs.length k3, .slice a4 p.rts.length k4] 28 (0, 0))) := by show _ = _; rw [← hW0]; exact (heap_alloc_old _ _ (by simp <;> omega)).trans ((heap_alloc_old _ _ (by simp <;> omega)).trans ((heap_alloc_old _ _ (by simp)).trans (heap_alloc_new _ _)))
 have HS0 : Hid (W0.heap[w.heap.size + 1]? = some (.cells #[.slice b1 st.tks.length d1, .slice b2 st.sws.length d2, .slice b3 st.lks.length d3] 33 (0, 0))) := by show _ = _; rw [← hW0]; exact (heap_alloc_old _ _ (by simp <;> omega)).trans ((heap_alloc_old _ _ (by simp)).trans (heap_alloc2_new _ _ _))
 have HXX : Hid (W0.heap[w.heap.size + 1 + 1]? = some (.cells #[.slice e1 x.s.length f1, .slice e2 x.p.length f2, .slice e3 x.g.length f3, .slice e4 x.r.length f4] 56 (0, 0))) := by show _ = _; rw [← hW0]; exact (heap_alloc_old _ _ (by simp)).trans (by have := heap_alloc_new ((w.alloc (.cells #[.int .i64 p.ver, .int .i64 p.par, .slice a1 p.secs.length k1, .slice a2 p.pts.length k2, .slice a3 p.sigs.length k3, .slice a4 p.rts.length k4] 28)).alloc (.cells #[.slice b1 st.tks.length d1, .slice b2 st.sws.length d2, .slice b3 st.lks.length d3] 33)) (.cells #[.slice e1 x.s.length f1, .slice e2 x.p.length f2, .slice e3 x.g.length f3, .slice e4 x.r.length f4] 56); simpa using this)
 have HR0 : Hid (W0.heap[w.heap.size + 1 + 1 + 1]? = some (.cells #[.slice none 0 0, .slice none 0 0, .slice none 0 0, .slice none 0 0] 56 (0, 0))) := by
  show _ = _
  rw [← hW0]
  have := heap_alloc_new (((w.alloc (.cells #[.int .i64 p.ver, .int .i64 p.par, .slice a1 p.secs.length k1, .slice a2 p.pts.length k2, .slice a3 p.sigs.length k3, .slice a4 p.rts.length k4] 28)).alloc (.cells #[.slice b1 st.tks.length d1, .slice b2 st.sws.length d2, .slice b3 st.lks.length d3] 33)).alloc (.cells #[.slice e1 x.s.length f1, .slice e2 x.p.length f2, .slice e3 x.g.length f3, .slice e4 x.r.length f4] 56)) (.cells #[.slice none 0 0, .slice none 0 0, .slice none 0 0, .slice none 0 0] 56)
  simpa using this
 clear hW0
 go_wp2_with fail
 go_loopg [8] 99 (fun g i wr => ∃ (k : Nat) (v1 v2 v3 v4 : Value), k ≤ 99 ∧ g = 99 - k ∧ i = .int .i64 ((k : Int) + 1) ∧ Below W0.heap.size W0 wr ∧ wr.heap[W0.heap.size]? = some (.cells #[v1, v2, v3, v4] 56 (0, 0)) ∧ Four wr (W0.heap.size + 1) v1 (pickTo F1 k) v2 (pickTo F2 k) v3 (pickTo F3 k) v4 (pickTo F4 k))
 case atStart => exact ⟨0, _, _, _, _, by omega, by omega, rfl, (Below.refl _ _).alloc (Nat.le_refl _) _, heap_alloc_new _ _, Four.nil _ _⟩
 case round =>
  obtain ⟨k, v1, v2, v3, v4, hk, rfl, rfl, hb, hg, hT⟩ := hrel
  have HB := Lib.hid hb
  have HG := Lib.hid hg
  have HT := Lib.hid hT
  have KW : Hid (Below w.heap.size w wr) := K0.out.trans (hb.mono K0.out.size)
  clear hb hg hT
  by_cases hlt : k < 99
  ·have hd : decide (((k : Int) + 1) < 100) = true := by simp; omega
   have bx2 := (HB.out.block _ (lt_of_block HXX.out)).trans HXX.out
   obtain ⟨xx0, xx1, xx2, xx3⟩ := cells4 (bx2)
   have lx := block_lt_of_cell xx0
   clear bx2
   go_upto_region 5 with fail
   go_cut [21] from 13 to 21 (fun v wc => v = .bool (H1 ((k : Int) + 1) && O1 ((k : Int) + 1)) ∧ Below wr.heap.size wr wc)
   case first =>
    cases hh : H1 ((k : Int) + 1) with
    | false =>
     have HC := HH1.out wr ((k : Int) + 1) KW.out
     rw [hh] at HC
     have HCh := Lib.hid HC
     have HHb := Lib.hid hh
     clear HC hh
     go_wp2_with fail
     refine HCh.out.mono ?_
     rintro e W1 ⟨rfl, hb⟩
     have HX1 := Lib.hid hb
     clear hb
     go_wp2_with fail
     go_meet
     case rel => exact ⟨by rw [HHb.out]; rfl, HX1.out⟩
    | true =>
     have HC := HH1.out wr ((k : Int) + 1) KW.out
     rw [hh] at HC
     have HCh := Lib.hid HC
     have HHb := Lib.hid hh
     clear HC hh
     go_wp2_with fail
     refine HCh.out.mono ?_
     rintro e W1 ⟨rfl, hb⟩
     have HX1 := Lib.hid hb
     have HX0 : Hid (Below W0.heap.size W0 W1) := HB.out.trans (hb.mono HB.out.size)
     have KX : Hid (Below w.heap.size w W1) := K0.out.trans (HX0.out.mono K0.out.size)
     clear hb
     clear xx0 xx1 xx2 xx3 lx
     have bx0 := (HX0.out.block _ (lt_of_block HP0.out)).trans HP0.out
     obtain ⟨pp0, pp1, pp2, pp3, pp4, pp5⟩ := cells6 (bx0)
     have lp := block_lt_of_cell pp0
     have bx1 := (HX0.out.block _ (lt_of_block HS0.out)).trans HS0.out
     obtain ⟨ss0, ss1, ss2⟩ := cells3 (bx1)
     have ls := block_lt_of_cell ss0
     clear bx0 bx1
     go_wp2_with fail
     refine (HO1.out W1 ((k : Int) + 1) KX.out).mono ?_
     rintro e W2 ⟨rfl, hb⟩
     have HX2 : Hid (Below wr.heap.size wr W2) := HX1.out.trans (hb.mono HX1.out.size)
     clear hb
     clear pp0 pp1 pp2 pp3 pp4 pp5 lp ss0 ss1 ss2 ls
     go_wp2_with fail
     go_meet
     case rel => exact ⟨by rw [HHb.out]; rfl, HX2.out⟩
   case rest =>
    clear xx0 xx1 xx2 xx3 lx
    obtain ⟨rfl, hbc⟩ := hcut
    have HB2 : Hid (Below W0.heap.size W0 wc) := HB.out.trans (hbc.mono HB.out.size)
    have HG2 : Hid (wc.heap[W0.heap.size]? = some (.cells #[v1, v2, v3, v4] 56 (0, 0))) := (hbc.block _ (lt_of_block HG.out)).trans HG.out
    have HT2 := Lib.hid (HT.out.below hbc)
    clear hbc HB HG HT KW
    go_upto_if 21 with fail
    go_cut [] from 21 to 27 (fun wd => Below W0.heap.size W0 wd ∧ ∃ z, wd.heap[W0.heap.size]? = some (.cells #[z, v2, v3, v4] 56 (0, 0)) ∧ Four wd (W0.heap.size + 1) z (pickTo F1 (k + 1)) v2 (pickTo F2 k) v3 (pickTo F3 k) v4 (pickTo F4 k))
    case first =>
     obtain ⟨av, cv, rfl⟩ := (HT2.out).a.slice
     have hg0 := HG2.out
     have hsz : (W0.heap.size + 1) ≤ wc.heap.size := lt_of_block hg0
     have hlen : (pickTo F1 k).length ≤ 1000 := by have := pickTo_len F1 k; omega
     have lw := lt_of_block hg0
     obtain ⟨gg0, gg1, gg2, gg3⟩ := cells4 (hg0)
     clear hg0
     cases hf : (H1 ((k : Int) + 1) && O1 ((k : Int) + 1)) with
     | false =>
      have HF := Lib.hid ((HFQ1.out k).2 hf)
      clear hf
      go_wp2_with fail
      go_meet
      case rel => exact ⟨HB2.out, _, HG2.out, by rw [HF.out]; exact HT2.out⟩
     | true =>
      have HF := Lib.hid ((HFQ1.out k).1 hf)
      clear hf
      go_wp2_with (at_builtin; refine wpList_append_four rfl (.tmp 23) (.tmp 25) rfl (W0.heap.size + 1) _ _ _ _ _ _ _ _ HT2.out ((k : Int) + 1) rfl rfl hlen hsz ?_; intro a8 c8 w8 h48 hb8; have hg8 := (hb8.block W0.heap.size (Nat.lt_succ_self _)).trans HG2.out; have q8 := cell_of_row w8 W0.heap.size 0 _ _ _ hg8; have qf8 : w8.frozen? ⟨W0.heap.size, 0, none⟩ = false := frozen_of_row hg8 _; have ql8 := lt_of_block hg8)
      go_meet
      case rel => exact ⟨(HB2.out.trans (hb8.mono (Nat.le_succ _))).setCell (Nat.le_refl _) _, _, (row_set hg8).trans rfl, by rw [HF.out]; exact (h48.setCell (a := ⟨W0.heap.size, 0, none⟩) (Nat.lt_succ_self _) _)⟩
    case rest =>
     obtain ⟨hb, v1, hg, hT⟩ := hcut
     obtain ⟨wo1, rfl⟩ : ∃ wo : World, wo = wc := ⟨_, rfl⟩
     clear HB2 HG2 HT2
     have HB := Lib.hid hb
     have HG := Lib.hid hg
     have HT := Lib.hid hT
     have KW : Hid (Below w.heap.size w wo1) := K0.out.trans (hb.mono K0.out.size)
     clear hb hg hT
     have bx2 := (HB.out.block _ (lt_of_block HXX.out)).trans HXX.out
     obtain ⟨xx0, xx1, xx2, xx3⟩ := cells4 (bx2)
     have lx := block_lt_of_cell xx0
     clear bx2
     go_upto_region 7 with fail
     go_cut [36] from 28 to 36 (fun v wc => v = .bool (H2 ((k : Int) + 1) && O2 ((k : Int) + 1)) ∧ Below wo1.heap.size wo1 wc)
     case first =>
      cases hh : H2 ((k : Int) + 1) with
      | false =>
       have HC := HH2.out wo1 ((k : Int) + 1) KW.out
       rw [hh] at HC
       have HCh := Lib.hid HC
       have HHb := Lib.hid hh
       clear HC hh
       go_wp2_with fail
       refine HCh.out.mono ?_
       rintro e W1 ⟨rfl, hb⟩
       have HX1 := Lib.hid hb
       clear hb
       go_wp2_with fail
       go_meet
       case rel => exact ⟨by rw [HHb.out]; rfl, HX1.out⟩
      | true =>
       have HC := HH2.out wo1 ((k : Int) + 1) KW.out
       rw [hh] at HC
       have HCh := Lib.hid HC
       have HHb := Lib.hid hh
       clear HC hh
       go_wp2_with fail
       refine HCh.out.mono ?_
       rintro e W1 ⟨rfl, hb⟩
       have HX1 := Lib.hid hb
       have HX0 : Hid (Below W0.heap.size W0 W1) := HB.out.trans (hb.mono HB.out.size)
       have KX : Hid (Below w.heap.size w W1) := K0.out.trans (HX0.out.mono K0.out.size)
       clear hb
       clear xx0 xx1 xx2 xx3 lx
       have bx0 := (HX0.out.block _ (lt_of_block HP0.out)).trans HP0.out
       obtain ⟨pp0, pp1, pp2, pp3, pp4, pp5⟩ := cells6 (bx0)
       have lp := block_lt_of_cell pp0
       have bx1 := (HX0.out.block _ (lt_of_block HS0.out)).trans HS0.out
       obtain ⟨ss0, ss1, ss2⟩ := cells3 (bx1)
       have ls := block_lt_of_cell ss0
       clear bx0 bx1
       go_wp2_with fail
       refine (HO2.out W1 ((k : Int) + 1) KX.out).mono ?_
       rintro e W2 ⟨rfl, hb⟩
       have HX2 : Hid (Below wo1.heap.size wo1 W2) := HX1.out.trans (hb.mono HX1.out.size)
       clear hb
       clear pp0 pp1 pp2 pp3 pp4 pp5 lp ss0 ss1 ss2 ls
       go_wp2_with fail
       go_meet
       case rel => exact ⟨by rw [HHb.out]; rfl, HX2.out⟩
     case rest =>
      clear xx0 xx1 xx2 xx3 lx
      obtain ⟨rfl, hbc⟩ := hcut
      have HB2 : Hid (Below W0.heap.size W0 wc) := HB.out.trans (hbc.mono HB.out.size)
      have HG2 : Hid (wc.heap[W0.heap.size]? = some (.cells #[v1, v2, v3, v4] 56 (0, 0))) := (hbc.block _ (lt_of_block HG.out)).trans HG.out
      have HT2 := Lib.hid (HT.out.below hbc)
      clear hbc HB HG HT KW
      go_upto_if 36 with fail
      go_cut [] from 36 to 42 (fun wd => Below W0.heap.size W0 wd ∧ ∃ z, wd.heap[W0.heap.size]? = some (.cells #[v1, z, v3, v4] 56 (0, 0)) ∧ Four wd (W0.heap.size + 1) v1 (pickTo F1 (k + 1)) z (pickTo F2 (k + 1)) v3 (pickTo F3 k) v4 (pickTo F4 k))
      case first =>
       obtain ⟨av, cv, rfl⟩ := (HT2.out.turn).a.slice
       have hg0 := HG2.out
       have hsz : (W0.heap.size + 1) ≤ wc.heap.size := lt_of_block hg0
       have hlen : (pickTo F2 k).length ≤ 1000 := by have := pickTo_len F2 k; omega
       have lw := lt_of_block hg0
       obtain ⟨gg0, gg1, gg2, gg3⟩ := cells4 (hg0)
       clear hg0
       cases hf : (H2 ((k : Int) + 1) && O2 ((k : Int) + 1)) with
       | false =>
        have HF := Lib.hid ((HFQ2.out k).2 hf)
        clear hf
        go_wp2_with fail
        go_meet
        case rel => exact ⟨HB2.out, _, HG2.out, by rw [HF.out]; exact HT2.out⟩
       | true =>
        have HF := Lib.hid ((HFQ2.out k).1 hf)
        clear hf
        go_wp2_with (at_builtin; refine wpList_append_four rfl (.tmp 38) (.tmp 40) rfl (W0.heap.size + 1) _ _ _ _ _ _ _ _ HT2.out.turn ((k : Int) + 1) rfl rfl hlen hsz ?_; intro a8 c8 w8 h48 hb8; have hg8 := (hb8.block W0.heap.size (Nat.lt_succ_self _)).trans HG2.out; have q8 := cell_of_row w8 W0.heap.size 1 _ _ _ hg8; have qf8 : w8.frozen? ⟨W0.heap.size, 1, none⟩ = false := frozen_of_row hg8 _; have ql8 := lt_of_block hg8)
        go_meet
        case rel => exact ⟨(HB2.out.trans (hb8.mono (Nat.le_succ _))).setCell (Nat.le_refl _) _, _, (row_set hg8).trans rfl, by rw [HF.out]; exact (h48.setCell (a := ⟨W0.heap.size, 1, none⟩) (Nat.lt_succ_self _) _).turn.turn.turn⟩
      case rest =>
       obtain ⟨hb, v2, hg, hT⟩ := hcut
       obtain ⟨wo2, rfl⟩ : ∃ wo : World, wo = wc := ⟨_, rfl⟩
       clear HB2 HG2 HT2
       have HB := Lib.hid hb
       have HG := Lib.hid hg
       have HT := Lib.hid hT
       have KW : Hid (Below w.heap.size w wo2) := K0.out.trans (hb.mono K0.out.size)
       clear hb hg hT
       have bx2 := (HB.out.block _ (lt_of_block HXX.out)).trans HXX.out
       obtain ⟨xx0, xx1, xx2, xx3⟩ := cells4 (bx2)
       have lx := block_lt_of_cell xx0
       clear bx2
       go_upto_region 9 with fail
       go_cut [51] from 43 to 51 (fun v wc => v = .bool (H3 ((k : Int) + 1) && O3 ((k : Int) + 1)) ∧ Below wo2.heap.size wo2 wc)
       case first =>
        cases hh : H3 ((k : Int) + 1) with
        | false =>
         have HC := HH3.out wo2 ((k : Int) + 1) KW.out
         rw [hh] at HC
         have HCh := Lib.hid HC
         have HHb := Lib.hid hh
         clear HC hh
         go_wp2_with fail
         refine HCh.out.mono ?_
         rintro e W1 ⟨rfl, hb⟩
         have HX1 := Lib.hid hb
         clear hb
         go_wp2_with fail
         go_meet
         case rel => exact ⟨by rw [HHb.out]; rfl, HX1.out⟩
        | true =>
         have HC := HH3.out wo2 ((k : Int) + 1) KW.out
         rw [hh] at HC
         have HCh := Lib.hid HC
         have HHb := Lib.hid hh
         clear HC hh
         go_wp2_with fail
         refine HCh.out.mono ?_
         rintro e W1 ⟨rfl, hb⟩
         have HX1 := Lib.hid hb
         have HX0 : Hid (Below W0.heap.size W0 W1) := HB.out.trans (hb.mono HB.out.size)
         have KX : Hid (Below w.heap.size w W1) := K0.out.trans (HX0.out.mono K0.out.size)
         clear hb
         clear xx0 xx1 xx2 xx3 lx
         have bx0 := (HX0.out.block _ (lt_of_block HP0.out)).trans HP0.out
         obtain ⟨pp0, pp1, pp2, pp3, pp4, pp5⟩ := cells6 (bx0)
         have lp := block_lt_of_cell pp0
         have bx1 := (HX0.out.block _ (lt_of_block HS0.out)).trans HS0.out
         obtain ⟨ss0, ss1, ss2⟩ := cells3 (bx1)
         have ls := block_lt_of_cell ss0
         clear bx0 bx1
         go_wp2_with fail
         refine (HO3.out W1 ((k : Int) + 1) KX.out).mono ?_
         rintro e W2 ⟨rfl, hb⟩
         have HX2 : Hid (Below wo2.heap.size wo2 W2) := HX1.out.trans (hb.mono HX1.out.size)
         clear hb
         clear pp0 pp1 pp2 pp3 pp4 pp5 lp ss0 ss1 ss2 ls
         go_wp2_with fail
         go_meet
         case rel => exact ⟨by rw [HHb.out]; rfl, HX2.out⟩
       case rest =>
        clear xx0 xx1 xx2 xx3 lx
        obtain ⟨rfl, hbc⟩ := hcut
        have HB2 : Hid (Below W0.heap.size W0 wc) := HB.out.trans (hbc.mono HB.out.size)
        have HG2 : Hid (wc.heap[W0.heap.size]? = some (.cells #[v1, v2, v3, v4] 56 (0, 0))) := (hbc.block _ (lt_of_block HG.out)).trans HG.out
        have HT2 := Lib.hid (HT.out.below hbc)
        clear hbc HB HG HT KW
        go_upto_if 51 with fail
        go_cut [] from 51 to 57 (fun wd => Below W0.heap.size W0 wd ∧ ∃ z, wd.heap[W0.heap.size]? = some (.cells #[v1, v2, z, v4] 56 (0, 0)) ∧ Four wd (W0.heap.size + 1) v1 (pickTo F1 (k + 1)) v2 (pickTo F2 (k + 1)) z (pickTo F3 (k + 1)) v4 (pickTo F4 k))
        case first =>
         obtain ⟨av, cv, rfl⟩ := (HT2.out.turn.turn).a.slice
         have hg0 := HG2.out
         have hsz : (W0.heap.size + 1) ≤ wc.heap.size := lt_of_block hg0
         have hlen : (pickTo F3 k).length ≤ 1000 := by have := pickTo_len F3 k; omega
         have lw := lt_of_block hg0
         obtain ⟨gg0, gg1, gg2, gg3⟩ := cells4 (hg0)
         clear hg0
         cases hf : (H3 ((k : Int) + 1) && O3 ((k : Int) + 1)) with
         | false =>
          have HF := Lib.hid ((HFQ3.out k).2 hf)
          clear hf
          go_wp2_with fail
          go_meet
          case rel => exact ⟨HB2.out, _, HG2.out, by rw [HF.out]; exact HT2.out⟩
         | true =>
          have HF := Lib.hid ((HFQ3.out k).1 hf)
          clear hf
          go_wp2_with (at_builtin; refine wpList_append_four rfl (.tmp 53) (.tmp 55) rfl (W0.heap.size + 1) _ _ _ _ _ _ _ _ HT2.out.turn.turn ((k : Int) + 1) rfl rfl hlen hsz ?_; intro a8 c8 w8 h48 hb8; have hg8 := (hb8.block W0.heap.size (Nat.lt_succ_self _)).trans HG2.out; have q8 := cell_of_row w8 W0.heap.size 2 _ _ _ hg8; have qf8 : w8.frozen? ⟨W0.heap.size, 2, none⟩ = false := frozen_of_row hg8 _; have ql8 := lt_of_block hg8)
          go_meet
          case rel => exact ⟨(HB2.out.trans (hb8.mono (Nat.le_succ _))).setCell (Nat.le_refl _) _, _, (row_set hg8).trans rfl, by rw [HF.out]; exact (h48.setCell (a := ⟨W0.heap.size, 2, none⟩) (Nat.lt_succ_self _) _).turn.turn⟩
        case rest =>
         obtain ⟨hb, v3, hg, hT⟩ := hcut
         obtain ⟨wo3, rfl⟩ : ∃ wo : World, wo = wc := ⟨_, rfl⟩
         clear HB2 HG2 HT2
         have HB := Lib.hid hb
         have HG := Lib.hid hg
         have HT := Lib.hid hT
         have KW : Hid (Below w.heap.size w wo3) := K0.out.trans (hb.mono K0.out.size)
         clear hb hg hT
         have bx2 := (HB.out.block _ (lt_of_block HXX.out)).trans HXX.out
         obtain ⟨xx0, xx1, xx2, xx3⟩ := cells4 (bx2)
         have lx := block_lt_of_cell xx0
         clear bx2
         go_upto_region 11 with fail
         go_cut [66] from 58 to 66 (fun v wc => v = .bool (H4 ((k : Int) + 1) && O4 ((k : Int) + 1)) ∧ Below wo3.heap.size wo3 wc)
         case first =>
          cases hh : H4 ((k : Int) + 1) with
          | false =>
           have HC := HH4.out wo3 ((k : Int) + 1) KW.out
           rw [hh] at HC
           have HCh := Lib.hid HC
           have HHb := Lib.hid hh
           clear HC hh
           go_wp2_with fail
           refine HCh.out.mono ?_
           rintro e W1 ⟨rfl, hb⟩
           have HX1 := Lib.hid hb
           clear hb
           go_wp2_with fail
           go_meet
           case rel => exact ⟨by rw [HHb.out]; rfl, HX1.out⟩
          | true =>
           have HC := HH4.out wo3 ((k : Int) + 1) KW.out
           rw [hh] at HC
           have HCh := Lib.hid HC
           have HHb := Lib.hid hh
           clear HC hh
           go_wp2_with fail
           refine HCh.out.mono ?_
           rintro e W1 ⟨rfl, hb⟩
           have HX1 := Lib.hid hb
           have HX0 : Hid (Below W0.heap.size W0 W1) := HB.out.trans (hb.mono HB.out.size)
           have KX : Hid (Below w.heap.size w W1) := K0.out.trans (HX0.out.mono K0.out.size)
           clear hb
           clear xx0 xx1 xx2 xx3 lx
           have bx0 := (HX0.out.block _ (lt_of_block HP0.out)).trans HP0.out
           obtain ⟨pp0, pp1, pp2, pp3, pp4, pp5⟩ := cells6 (bx0)
           have lp := block_lt_of_cell pp0
           have bx1 := (HX0.out.block _ (lt_of_block HS0.out)).trans HS0.out
           obtain ⟨ss0, ss1, ss2⟩ := cells3 (bx1)
           have ls := block_lt_of_cell ss0
           clear bx0 bx1
           go_wp2_with fail
           refine (HO4.out W1 ((k : Int) + 1) KX.out).mono ?_
           rintro e W2 ⟨rfl, hb⟩
           have HX2 : Hid (Below wo3.heap.size wo3 W2) := HX1.out.trans (hb.mono HX1.out.size)
           clear hb
           clear pp0 pp1 pp2 pp3 pp4 pp5 lp ss0 ss1 ss2 ls
           go_wp2_with fail
           go_meet
           case rel => exact ⟨by rw [HHb.out]; rfl, HX2.out⟩
         case rest =>
          clear xx0 xx1 xx2 xx3 lx
          obtain ⟨rfl, hbc⟩ := hcut
          have HB2 : Hid (Below W0.heap.size W0 wc) := HB.out.trans (hbc.mono HB.out.size)
          have HG2 : Hid (wc.heap[W0.heap.size]? = some (.cells #[v1, v2, v3, v4] 56 (0, 0))) := (hbc.block _ (lt_of_block HG.out)).trans HG.out
          have HT2 := Lib.hid (HT.out.below hbc)
          clear hbc HB HG HT KW
          obtain ⟨av, cv, rfl⟩ := (HT2.out.turn.turn.turn).a.slice
          have hg0 := HG2.out
          have hsz : (W0.heap.size + 1) ≤ wc.heap.size := lt_of_block hg0
          have hlen : (pickTo F4 k).length ≤ 1000 := by have := pickTo_len F4 k; omega
          have lw := lt_of_block hg0
          obtain ⟨gg0, gg1, gg2, gg3⟩ := cells4 (hg0)
          clear hg0
          cases hf : (H4 ((k : Int) + 1) && O4 ((k : Int) + 1)) with
          | false =>
           have HF := Lib.hid ((HFQ4.out k).2 hf)
           clear hf
           go_wp2_with fail
           go_roundg (99 - (k + 1))
           case measure => go_light; omega
           case rel => go_light; exact ⟨k + 1, _, _, _, _, by omega, by omega, by go_num, HB2.out, HG2.out, by rw [HF.out]; exact HT2.out⟩
          | true =>
           have HF := Lib.hid ((HFQ4.out k).1 hf)
           clear hf
           go_wp2_with (at_builtin; refine wpList_append_four rfl (.tmp 68) (.tmp 70) rfl (W0.heap.size + 1) _ _ _ _ _ _ _ _ HT2.out.turn.turn.turn ((k : Int) + 1) rfl rfl hlen hsz ?_; intro a8 c8 w8 h48 hb8; have hg8 := (hb8.block W0.heap.size (Nat.lt_succ_self _)).trans HG2.out; have q8 := cell_of_row w8 W0.heap.size 3 _ _ _ hg8; have qf8 : w8.frozen? ⟨W0.heap.size, 3, none⟩ = false := frozen_of_row hg8 _; have ql8 := lt_of_block hg8)
           go_roundg (99 - (k + 1))
           case measure => go_light; omega
           case rel => go_light; exact ⟨k + 1, _, _, _, _, by omega, by omega, by go_num, (HB2.out.trans (hb8.mono (Nat.le_succ _))).setCell (Nat.le_refl _) _, (row_set hg8).trans rfl, by rw [HF.out]; exact (h48.setCell (a := ⟨W0.heap.size, 3, none⟩) (Nat.lt_succ_self _) _).turn⟩
  ·obtain rfl : k = 99 := by omega
   obtain ⟨aq1, cq1, rfl⟩ := HT.out.a.slice
   obtain ⟨aq2, cq2, rfl⟩ := HT.out.b.slice
   obtain ⟨aq3, cq3, rfl⟩ := HT.out.c.slice
   obtain ⟨aq4, cq4, rfl⟩ := HT.out.d.slice
   have hg0 := HG.out
   have lw := lt_of_block hg0
   obtain ⟨gg0, gg1, gg2, gg3⟩ := cells4 (hg0)
   have hr0 := (HB.out.block _ (lt_of_block HR0.out)).trans HR0.out
   have HRR := Lib.hid hr0
   have hlt : w.heap.size + 1 + 1 + 1 < W0.heap.size + 1 := Nat.lt_succ_of_lt (lt_of_block HR0.out)
   obtain ⟨zc0, zc1, zc2, zc3⟩ := cells4 (hr0)
   have zz : ∀ o, wr.frozen? ⟨w.heap.size + 1 + 1 + 1, o, none⟩ = false := fun o => frozen_of_row hr0 o
   have lz := lt_of_block hr0
   clear hr0 hg0
   go_wp2_with fail
   obtain ⟨WE, hWE⟩ : ∃ WE, WE = ((((wr.setCell ⟨w.heap.size + 1 + 1 + 1, 0, none⟩ (.slice aq1 (pickTo F1 99).length cq1)).setCell ⟨w.heap.size + 1 + 1 + 1, 1, none⟩ (.slice aq2 (pickTo F2 99).length cq2)).setCell ⟨w.heap.size + 1 + 1 + 1, 2, none⟩ (.slice aq3 (pickTo F3 99).length cq3)).setCell ⟨w.heap.size + 1 + 1 + 1, 3, none⟩ (.slice aq4 (pickTo F4 99).length cq4)) := ⟨_, rfl⟩
   rw [← hWE]
   have hrow : WE.heap[w.heap.size + 1 + 1 + 1]? = some (.cells #[.slice aq1 (pickTo F1 99).length cq1, .slice aq2 (pickTo F2 99).length cq2, .slice aq3 (pickTo F3 99).length cq3, .slice aq4 (pickTo F4 99).length cq4] 56 (0, 0)) := by rw [hWE]; exact (row_set (row_set (row_set (row_set HRR.out)))).trans rfl
   have hF : Four WE (W0.heap.size + 1) (.slice aq1 (pickTo F1 99).length cq1) (pickTo F1 99) (.slice aq2 (pickTo F2 99).length cq2) (pickTo F2 99) (.slice aq3 (pickTo F3 99).length cq3) (pickTo F3 99) (.slice aq4 (pickTo F4 99).length cq4) (pickTo F4 99) := by rw [hWE]; exact (((HT.out.setCell (a := ⟨w.heap.size + 1 + 1 + 1, 0, none⟩) hlt _).setCell (a := ⟨w.heap.size + 1 + 1 + 1, 1, none⟩) hlt _).setCell (a := ⟨w.heap.size + 1 + 1 + 1, 2, none⟩) hlt _).setCell (a := ⟨w.heap.size + 1 + 1 + 1, 3, none⟩) hlt _
   have hK : Below w.heap.size w WE := by rw [hWE]; exact (((KW.out.setCell (by simp <;> omega) _).setCell (by simp <;> omega) _).setCell (by simp <;> omega) _).setCell (by simp <;> omega) _
   obtain ⟨ww0, ww1, ww2, ww3⟩ := cells4 (hrow)
   exact bodyPost_ret (v := .agg #[.slice aq1 (pickTo F1 99).length cq1, .slice aq2 (pickTo F2 99).length cq2, .slice aq3 (pickTo F3 99).length cq3, .slice aq4 (pickTo F4 99).length cq4]) (by simp [results, Tryz.f96, go_sem, ww0, ww1, ww2, ww3]) rfl ⟨_, _, _, _, rfl, by rw [HL.out]; exact ⟨hF.a.ilv, hF.b.ilv, hF.c.ilv, hF.d.ilv⟩, hK⟩
end Go.Proofs.YtbiehpjhhopjaaaGreat
