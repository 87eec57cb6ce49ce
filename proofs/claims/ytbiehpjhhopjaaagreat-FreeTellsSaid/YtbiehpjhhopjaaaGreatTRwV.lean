/-
 Whether a state may be, as the references have it, walked. (Written by wip/tools/gen_rwv.py.)
-/
import Derived.Test.YtbiehpjhhopjaaaGreatTRwU
set_option linter.unusedVariables false
set_option linter.unusedSimpArgs false
namespace Go.Proofs.YtbiehpjhhopjaaaGreat
open Go.RowKit Go.Sort
set_option maxRecDepth 100000 in
set_option maxHeartbeats 16000000 in
theorem refStMay (p : Pl) (st : St) (s q gg rr t sw lk : Value) (w : World) (hp : PlM w s q gg rr p) (hf : p.Fit) (hs : StM w t sw lk st) (hsf : st.fit) :
  Calls Tryz.prog 133 #[plV p s q gg rr, stV t sw lk] w (BoolPost w (decide (StSound p st))) := by
 have HPS : Hid (∀ W, Below w.heap.size w W → Calls Tryz.prog 62 #[plV p s q gg rr] W (BoolPost W (decide (PlanSound p)))) := fun W hb => refPlan p s q gg rr W (hp.below hb) hf
 have HPA : Hid (∀ W, Below w.heap.size w W → Calls Tryz.prog 220 #[plV p s q gg rr, stV t sw lk] W (BoolPost W (decide (StA p st)))) := fun W hb => refParts p st s q gg rr t sw lk W (hp.below hb) hf (hs.below hb) hsf
 have HPT : Hid (∀ W n, Below w.heap.size w W → Calls Tryz.prog 223 #[plV p s q gg rr, .int .i64 n] W (NumPost W (fix (fun x => decide (x.id = n)) p.pts))) := fun W n hb => refPoint p s q gg rr n W (hp.below hb) hf
 obtain ⟨HK, hHK⟩ : ∃ HK : Nat → List Int, HK = fun k => heldL (wyOf p (p.rts.getD k zRt)) (st.lks.getD k zLk) := ⟨_, rfl⟩
 obtain ⟨HQ, hHQ⟩ : ∃ HQ : Nat → List Ask, HQ = fun k => asksL (wyOf p (p.rts.getD k zRt)) (st.lks.getD k zLk) := ⟨_, rfl⟩
 have HC : Hid (PlanSound p → StA p st → ∀ k (hk : k < st.lks.length) W, Below w.heap.size w W → Calls Tryz.prog 221 #[plV p s q gg rr, .agg #[.int .i64 st.lks[k].id, .int .u8 st.lks[k].ph, .int .i64 st.lks[k].gone, .int .i64 st.lks[k].left], .int .i64 k] W (OwnPost W (HK k))) := fun hPS hA k hk W hb => by
  have hle : st.lks.length ≤ p.rts.length := Nat.le_of_eq hA.2.2.1
  have hPM := ((sound_iff p).1 hPS).1
  obtain ⟨x, hx⟩ := sound_end hPS (Nat.lt_of_lt_of_le hk hle)
  have := refHeld p s q gg rr k (Nat.lt_of_lt_of_le hk hle) st.lks[k] W (hp.below hb) hf hPM x hx
  rw [← held_ref p] at this
  rw [hHK]
  simpa [List.getD_eq_getElem?_getD, hk, Nat.lt_of_lt_of_le hk hle] using this
 have HCA : Hid (PlanSound p → StA p st → ∀ k (hk : k < st.lks.length) W, Below w.heap.size w W → Calls Tryz.prog 222 #[plV p s q gg rr, .agg #[.int .i64 st.lks[k].id, .int .u8 st.lks[k].ph, .int .i64 st.lks[k].gone, .int .i64 st.lks[k].left], .int .i64 k] W (AsksPost W (HQ k))) := fun hPS hA k hk W hb => by
  have hle : st.lks.length ≤ p.rts.length := Nat.le_of_eq hA.2.2.1
  have hPM := ((sound_iff p).1 hPS).1
  obtain ⟨x, hx⟩ := sound_end hPS (Nat.lt_of_lt_of_le hk hle)
  have := refAsks p s q gg rr k (Nat.lt_of_lt_of_le hk hle) st.lks[k] W (hp.below hb) hf hPM x hx
  rw [← asksL_made hPM (Nat.lt_of_lt_of_le hk hle) hx] at this
  rw [hHQ]
  simpa [List.getD_eq_getElem?_getD, hk, Nat.lt_of_lt_of_le hk hle] using this
 have HKL : Hid (PlanSound p → StA p st → ∀ k, k < st.lks.length → (HK k).length ≤ 1000 ∧ ∀ s ∈ HK k, 0 ≤ s ∧ s ≤ 99) := fun hPS hA k hk => by
  have hle : st.lks.length ≤ p.rts.length := Nat.le_of_eq hA.2.2.1
  have hPM := ((sound_iff p).1 hPS).1
  have h1 := held_len hPM (Nat.lt_of_lt_of_le hk hle) st.lks[k]
  have h2 := held_pos hPS (Nat.lt_of_lt_of_le hk hle) st.lks[k]
  rw [hHK]
  simpa [List.getD_eq_getElem?_getD, hk, Nat.lt_of_lt_of_le hk hle] using And.intro h1 h2
 have HQL : Hid (PlanSound p → StA p st → ∀ k, k < st.lks.length → (HQ k).length ≤ 1000 ∧ ∀ a ∈ HQ k, (1 ≤ a.pt ∧ a.pt ≤ 99) ∧ ∃ i, ∃ hi : i < st.sws.length, fix (fun x => decide (x.id = a.pt)) p.pts = (i : Int) ∧ st.sws[i].call = callOf st.sws a.pt) := fun hPS hA k hk => by
  have hle : st.lks.length ≤ p.rts.length := Nat.le_of_eq hA.2.2.1
  have hkr := Nat.lt_of_lt_of_le hk hle
  have hPM := ((sound_iff p).1 hPS).1
  obtain ⟨x, hx⟩ := sound_end hPS hkr
  have h1 := asksRR_len (made_len hPM hkr x) st.lks[k]
  rw [← asksL_made hPM hkr hx] at h1
  have e : HQ k = asksL (wyOf p p.rts[k]) st.lks[k] := by rw [hHQ]; simp [List.getD_eq_getElem?_getD, hk, hkr]
  rw [e]
  exact ⟨h1, fun a ha => ⟨asks_pos hPS hkr _ a ha, call_at hA (asksL_there hPS hkr _ a ha)⟩⟩
 have HX1 : Hid (∀ k x, lksR p st k = some x → k < st.lks.length → holdR (HK k) x.1 = none → decide (StSound p st) = false) := fun k x h1 h2 h3 => stSound_no (lks_hold_none h1 h2 (by rw [hHK] at h3; exact h3))
 have HX2 : Hid (∀ k x G, lksR p st k = some x → k < st.lks.length → holdR (HK k) x.1 = some G → askR (callOf st.sws) (HQ k) x.2 = none → decide (StSound p st) = false) := fun k x G h1 h2 h3 h4 => stSound_no (lks_ask_none h1 h2 (by rw [hHK] at h3; exact h3) (by rw [hHQ] at h4; exact h4))
 have HX3 : Hid (∀ k x G A, lksR p st k = some x → holdR (HK k) x.1 = some G → askR (callOf st.sws) (HQ k) x.2 = some A → lksR p st (k + 1) = some (G, A)) := fun k x G A h1 h3 h4 => lks_next h1 (by rw [hHK] at h3; exact h3) (by rw [hHQ] at h4; exact h4)
 have HX4 : Hid (PlanSound p → StA p st → ∀ x, lksR p st st.lks.length = some x → decide (StSound p st) = true) := fun h1 h2 x h3 => stSound_yes h1 h2 h3
 have HX0 : Hid (lksR p st 0 = some (fun _ => false, fun _ => 0)) := rfl
 have HNP : Hid (¬ PlanSound p → decide (StSound p st) = false) := fun h => decide_eq_false fun h2 => h h2.1
 have HNA : Hid (¬ StA p st → decide (StSound p st) = false) := fun h => decide_eq_false fun h2 => h h2.2.1
 clear hHK hHQ
 generalize decide (StSound p st) = B at *
 generalize callOf st.sws = CL at *
 generalize lksR p st = LR at *
 obtain ⟨a1, k1, rfl, -⟩ := hp.secs
 obtain ⟨a2, k2, rfl, -⟩ := hp.pts
 obtain ⟨a3, k3, rfl, -⟩ := hp.sigs
 obtain ⟨a4, k4, rfl, -⟩ := hp.rts
 obtain ⟨b1, d1, rfl, -⟩ := hs.tks
 obtain ⟨b2, d2, rfl, g6⟩ := hs.sws
 obtain ⟨b3, d3, rfl, g7⟩ := hs.lks
 have HSW : Hid (∀ W, Below w.heap.size w W → SlA W 3 RSw b2 d2 st.sws) := fun W hb => g6.below keeps_sw hb
 have HLK : Hid (∀ W, Below w.heap.size w W → SlA W 4 RLk b3 d3 st.lks) := fun W hb => g7.below keeps_lk hb
 have LL := hsf.2.2
 have LW := hsf.2.1
 clear hp hf hs hsf g6 g7
 unfold plV stV at *
 go_enter Tryz.func133, Tryz.ntmps133
 go_upto_region 1 with fail
 generalize hW0 : World.alloc _ _ = W0
 have K0 : Hid (Below w.heap.size w W0) := by show Below _ _ _; rw [← hW0]; exact ((Below.refl _ _).alloc (Nat.le_refl _) _).alloc (by simp) _
 have HP0 : Hid (W0.heap[w.heap.size]? = some (.cells #[.int .i64 p.ver, .int .i64 p.par, .slice a1 p.secs.length k1, .slice a2 p.pts.length k2, .slice a3 p.sigs.length k3, .slice a4 p.rts.length k4] 28 (0, 0))) := by show _ = _; rw [← hW0]; exact (heap_alloc_old _ _ (by simp)).trans (heap_alloc_new _ _)
 have HS0 : Hid (W0.heap[w.heap.size + 1]? = some (.cells #[.slice b1 st.tks.length d1, .slice b2 st.sws.length d2, .slice b3 st.lks.length d3] 33 (0, 0))) := by show _ = _; rw [← hW0]; exact heap_alloc2_new _ _ _
 clear hW0
 have KR : Hid (Below W0.heap.size W0 W0) := Below.refl _ _
 have bx0 := (KR.out.block _ (lt_of_block HP0.out)).trans HP0.out
 have bx1 := (KR.out.block _ (lt_of_block HS0.out)).trans HS0.out
 obtain ⟨pp0, pp1, pp2, pp3, pp4, pp5⟩ := cells6 (bx0)
 obtain ⟨ss0, ss1, ss2⟩ := cells3 (bx1)
 have lb := block_lt_of_cell pp0
 have ls := block_lt_of_cell ss2
 clear bx0 bx1
 by_cases hPS : PlanSound p
 ·rw [decide_eq_true hPS] at HPS
  by_cases hA : StA p st
  ·rw [decide_eq_true hA] at HPA
   have HC2 := Lib.hid (HC.out hPS hA)
   have HCA2 := Lib.hid (HCA.out hPS hA)
   have HKL2 := Lib.hid (HKL.out hPS hA)
   have HQL2 := Lib.hid (HQL.out hPS hA)
   have HX42 := Lib.hid (HX4.out hPS hA)
   clear hPS hA HC HCA HKL HQL HX4 HNP HNA
   go_wp2_with fail
   refine (HPS.out W0 K0.out).mono ?_
   rintro e W1 ⟨rfl, hb⟩
   have HB1 : Hid (Below W0.heap.size W0 W1) := hb
   have KB1 : Hid (Below w.heap.size w W1) := K0.out.trans (hb.mono K0.out.size)
   clear hb pp0 pp1 pp2 pp3 pp4 pp5 ss0 ss1 ss2 lb ls
   have bx0 := (HB1.out.block _ (lt_of_block HP0.out)).trans HP0.out
   have bx1 := (HB1.out.block _ (lt_of_block HS0.out)).trans HS0.out
   obtain ⟨pp0, pp1, pp2, pp3, pp4, pp5⟩ := cells6 (bx0)
   obtain ⟨ss0, ss1, ss2⟩ := cells3 (bx1)
   have lb := block_lt_of_cell pp0
   have ls := block_lt_of_cell ss2
   clear bx0 bx1
   go_wp2_with fail
   refine (HPA.out W1 KB1.out).mono ?_
   rintro e W2 ⟨rfl, hb⟩
   have HB2 : Hid (Below W0.heap.size W0 W2) := HB1.out.trans (hb.mono HB1.out.size)
   clear hb pp0 pp1 pp2 pp3 pp4 pp5 ss0 ss1 ss2 lb ls HB1 KB1
   go_wp2_with fail
   have hR1 : BoolRow ((W2.alloc (.cells Tryz.zeroCells279 279)).alloc (.cells Tryz.zeroCells168 168)) W2.heap.size 100 279 (fun _ => false) := (BoolRow.new W2 _ _ (by rw [zero279]; simp) zero279_at).below ((Below.refl _ _).alloc (Nat.le_refl _) _)
   have hR2 : IntRow ((W2.alloc (.cells Tryz.zeroCells279 279)).alloc (.cells Tryz.zeroCells168 168)) (W2.heap.size + 1) 100 168 (fun _ => 0) := by
    have := IntRow.new (W2.alloc (.cells Tryz.zeroCells279 279)) Tryz.zeroCells168 168 (n := 100) (by rw [zero168]; simp) zero168_at
    rw [show (W2.alloc (.cells Tryz.zeroCells279 279)).heap.size = W2.heap.size + 1 by simp] at this
    exact this
   have HR1 := Lib.hid hR1
   have HR2 := Lib.hid hR2
   clear hR1 hR2
   have LB0 : Hid (W0.heap.size ≤ W2.heap.size) := HB2.out.size
   go_wp2_with fail
   go_loopg [7] st.lks.length (fun g i wr => ∃ (k : Nat) (H : Nat → Bool) (A : Nat → Int), k ≤ st.lks.length ∧ g = st.lks.length - k ∧ i = .int .i64 k ∧ Below W0.heap.size W0 wr ∧ BoolRow wr W2.heap.size 100 279 H ∧ IntRow wr (W2.heap.size + 1) 100 168 A ∧ LR k = some (H, A))
   case atStart => exact ⟨0, _, _, by omega, by omega, rfl, (HB2.out.alloc HB2.out.size _).alloc (by have := HB2.out.size; simp; omega) _, HR1.out, HR2.out, HX0.out⟩
   case round =>
    obtain ⟨k, H, A, hk, rfl, rfl, hb, hr1, hr2, hlr⟩ := hrel
    have HB := Lib.hid hb
    have HR1k := Lib.hid hr1
    have HR2k := Lib.hid hr2
    have HLR := Lib.hid hlr
    have HBW : Hid (Below w.heap.size w wr) := K0.out.trans (hb.mono K0.out.size)
    have bx0 := (hb.block _ (lt_of_block HP0.out)).trans HP0.out
    have bx1 := (hb.block _ (lt_of_block HS0.out)).trans HS0.out
    obtain ⟨pp0, pp1, pp2, pp3, pp4, pp5⟩ := cells6 (bx0)
    have ss1 : wr.cell? ⟨w.heap.size + 1, 1, none⟩ = some (.slice b2 st.sws.length d2) := (cell_of_row wr _ 1 _ _ _ (bx1)).trans rfl
    have ss2 : wr.cell? ⟨w.heap.size + 1, 2, none⟩ = some (.slice b3 st.lks.length d3) := (cell_of_row wr _ 2 _ _ _ (bx1)).trans rfl
    have lb := block_lt_of_cell pp0
    have ls := block_lt_of_cell ss2
    clear bx0 bx1
    clear hb hr1 hr2 hlr HR1 HR2
    by_cases hlt : k < st.lks.length
    ·have hd : decide ((k : Int) < (st.lks.length : Int)) = true := by simp; omega
     obtain ⟨gl, ol, vs, eb, hvl, hvc, hvr⟩ := (HLK.out wr HBW.out).at_ k hlt
     obtain rfl : vs = [.int .i64 st.lks[k].id, .int .u8 st.lks[k].ph, .int .i64 st.lks[k].gone, .int .i64 st.lks[k].left] := hvr
     subst eb
     have y0 : wr.cell? ⟨gl, ol + k * 4, none⟩ = some (.int .i64 st.lks[k].id) := hvc 0 (by simp)
     have y1 : wr.cell? ⟨gl, ol + k * 4 + 1, none⟩ = some (.int .u8 st.lks[k].ph) := hvc 1 (by simp)
     have y2 : wr.cell? ⟨gl, ol + k * 4 + 2, none⟩ = some (.int .i64 st.lks[k].gone) := hvc 2 (by simp)
     have y3 : wr.cell? ⟨gl, ol + k * 4 + 3, none⟩ = some (.int .i64 st.lks[k].left) := hvc 3 (by simp)
     have ly := block_lt_of_cell y0
     clear hvc hvl
     have c0 : (0 : Int) ≤ (k : Int) := by omega
     have c1 : (k : Int) < (st.lks.length : Int) := by omega
     go_upto_region 8 with fail
     go_still_tail 7, (by kernel_rfl)
     change wpList _ _ _ _ _ wr.drew
     generalize hWD : wr.drew = WD
     have hbD : Below wr.heap.size wr WD := by rw [← hWD]; exact (Below.refl _ _).drew
     have HBD : Hid (Below w.heap.size w WD) := HBW.out.trans (hbD.mono HBW.out.size)
     have HBD0 : Hid (Below W0.heap.size W0 WD) := HB.out.trans (hbD.mono HB.out.size)
     have HR1D := Lib.hid (HR1k.out.below hbD)
     have HR2D := Lib.hid (HR2k.out.below hbD)
     have HCk := Lib.hid (HC2.out k hlt WD HBD.out)
     obtain ⟨hkl, hkp⟩ := HKL2.out k hlt
     have HKP := Lib.hid hkp
     have HE1 := Lib.hid (HX1.out k _ HLR.out hlt)
     have HE2 : Hid (∀ G, holdR (HK k) H = some G → askR CL (HQ k) A = none → B = false) := fun G h1 h2 => HX2.out k _ G HLR.out hlt h1 h2
     have HE3 : Hid (∀ G A', holdR (HK k) H = some G → askR CL (HQ k) A = some A' → LR (k + 1) = some (G, A')) := fun G A' h1 h2 => HX3.out k _ G A' HLR.out h1 h2
     have HCq := Lib.hid (HCA2.out k hlt)
     obtain ⟨hql, hqp⟩ := HQL2.out k hlt
     have HQP := Lib.hid hqp
     clear hWD hbD hkp hqp pp0 pp1 pp2 pp3 pp4 pp5 ss1 ss2 lb ls y0 y1 y2 y3 ly HLR HB HBW HR1k HR2k
     generalize HK k = LH at *
     generalize HQ k = LQ at *
     go_wp2_with fail
     refine HCk.out.mono ?_
     rintro e WH ⟨ah, ch, rfl, ho, hb1⟩
     have HO : Hid (IntOwn WH WD.heap.size (.slice ah LH.length ch) LH) := ho
     have HBH : Hid (Below W0.heap.size W0 WH) := HBD0.out.trans (hb1.mono HBD0.out.size)
     have HR1H := Lib.hid (HR1D.out.below hb1)
     have HR2H := Lib.hid (HR2D.out.below hb1)
     have LTA : Hid (W2.heap.size + 1 < WD.heap.size) := HR2D.out.lt
     clear ho hb1 HCk HBD HBD0 HR1D HR2D
     go_wp2_with fail
     go_loopg [9] LH.length (fun g i wq => ∃ (m : Nat) (G : Nat → Bool), m ≤ LH.length ∧ g = LH.length - m ∧ i = .int .i64 m ∧ Below W0.heap.size W0 wq ∧ BoolRow wq W2.heap.size 100 279 G ∧ IntRow wq (W2.heap.size + 1) 100 168 A ∧ IntOwn wq WD.heap.size (.slice ah LH.length ch) LH ∧ holdR (LH.take m) H = some G)
     case atStart => exact ⟨0, H, by omega, by omega, rfl, HBH.out, HR1H.out, HR2H.out, HO.out, rfl⟩
     case round =>
      obtain ⟨m, G, hm, rfl, rfl, hb, hr1, hr2, ho, hg⟩ := hrel
      obtain ⟨wo, rfl⟩ : ∃ wo : World, wo = wr := ⟨_, rfl⟩
      have HBm := Lib.hid hb
      have HR1m := Lib.hid hr1
      have HR2m := Lib.hid hr2
      have HOm := Lib.hid ho
      have HGm := Lib.hid hg
      have HBWm : Hid (Below w.heap.size w wo) := K0.out.trans (hb.mono K0.out.size)
      clear hb hr1 hr2 ho hg HR1H HR2H HO HBH
      by_cases hml : m < LH.length
      ·have hd2 : decide ((m : Int) < (LH.length : Int)) = true := by simp; omega
       obtain ⟨g, off, rfl, x0⟩ := (IntOwn.il HOm.out).cell m hml
       have lx := block_lt_of_cell x0
       have lw := HR1m.out.lt
       have hkp := HKP.out LH[m] (List.getElem_mem hml)
       have p0 : (0 : Int) ≤ LH[m] := hkp.1
       have p1 : LH[m] < 100 := by omega
       have m0 : (0 : Int) ≤ (m : Int) := by omega
       have m1 : (m : Int) < (LH.length : Int) := by omega
       have v2 := HR1m.out.cell (q := LH[m].toNat) (by omega)
       have v3 := HR1m.out.frozen LH[m].toNat
       cases hmet : G LH[m].toNat with
       | true =>
        rw [hmet] at v2
        have HE : Hid (B = false) := HE1.out ((holdR_next hml HGm.out).1 hmet)
        clear hmet hkp
        go_wp2_with fail
        go_ret
        exact ⟨by rw [HE.out]; rfl, HBWm.out⟩
       | false =>
        rw [hmet] at v2
        have HG2 := Lib.hid ((holdR_next hml HGm.out).2 hmet)
        have HROW : Hid (∀ W', BoolRow W' W2.heap.size 100 279 G → BoolRow (W'.setCell ⟨W2.heap.size, LH[m].toNat, none⟩ (.bool true)) W2.heap.size 100 279 (putB G LH[m].toNat)) := fun W' h => h.set (q := LH[m].toNat) (by omega) true
        clear hmet hkp
        go_wp2_with fail
        go_roundg (LH.length - (m + 1))
        case measure => go_light; omega
        case rel =>
         go_light
         exact ⟨m + 1, _, by omega, by omega, by go_num, HBm.out.setCell LB0.out _, HROW.out _ HR1m.out, HR2m.out.other (by simp), own_setCell HOm.out (a := ⟨W2.heap.size, _, none⟩) (Nat.lt_of_succ_lt LTA.out) _, HG2.out⟩
      ·have hd2 : decide ((m : Int) < (LH.length : Int)) = false := by simp; omega
       have HG : Hid (holdR LH H = some G) := by
        have := HGm.out
        rw [List.take_of_length_le (by omega)] at this
        exact this
       have bx0 := (HBm.out.block _ (lt_of_block HP0.out)).trans HP0.out
       have bx1 := (HBm.out.block _ (lt_of_block HS0.out)).trans HS0.out
       obtain ⟨pp0, pp1, pp2, pp3, pp4, pp5⟩ := cells6 (bx0)
       have ss1 : wo.cell? ⟨w.heap.size + 1, 1, none⟩ = some (.slice b2 st.sws.length d2) := (cell_of_row wo _ 1 _ _ _ (bx1)).trans rfl
       have ss2 : wo.cell? ⟨w.heap.size + 1, 2, none⟩ = some (.slice (some ⟨gl, ol, none⟩) st.lks.length d3) := (cell_of_row wo _ 2 _ _ _ (bx1)).trans rfl
       have lb := block_lt_of_cell pp0
       have ls := block_lt_of_cell ss2
       clear bx0 bx1
       obtain ⟨gl2, ol2, vs2, eb2, hvl2, hvc2, hvr2⟩ := (HLK.out wo HBWm.out).at_ k hlt
       obtain rfl : vs2 = [.int .i64 st.lks[k].id, .int .u8 st.lks[k].ph, .int .i64 st.lks[k].gone, .int .i64 st.lks[k].left] := hvr2
       cases eb2
       have y0 : wo.cell? ⟨gl, ol + k * 4, none⟩ = some (.int .i64 st.lks[k].id) := hvc2 0 (by simp)
       have y1 : wo.cell? ⟨gl, ol + k * 4 + 1, none⟩ = some (.int .u8 st.lks[k].ph) := hvc2 1 (by simp)
       have y2 : wo.cell? ⟨gl, ol + k * 4 + 2, none⟩ = some (.int .i64 st.lks[k].gone) := hvc2 2 (by simp)
       have y3 : wo.cell? ⟨gl, ol + k * 4 + 3, none⟩ = some (.int .i64 st.lks[k].left) := hvc2 3 (by simp)
       have ly := block_lt_of_cell y0
       clear hvc2 hvl2
       go_upto_region 15 with fail
       go_still_tail 7, (by kernel_rfl)
       change wpList _ _ _ _ _ wo.drew
       generalize hWE : wo.drew = WE
       have hbE : Below wo.heap.size wo WE := by rw [← hWE]; exact (Below.refl _ _).drew
       have HBE : Hid (Below w.heap.size w WE) := HBWm.out.trans (hbE.mono HBWm.out.size)
       have HBE0 : Hid (Below W0.heap.size W0 WE) := HBm.out.trans (hbE.mono HBm.out.size)
       have HR1E := Lib.hid (HR1m.out.below hbE)
       have HR2E := Lib.hid (HR2m.out.below hbE)
       have HCk := Lib.hid (HCq.out WE HBE.out)
       have HF2 := Lib.hid (HE2.out G HG.out)
       have HF3 := Lib.hid (fun A' => HE3.out G A' HG.out)
       clear hWE hbE pp0 pp1 pp2 pp3 pp4 pp5 ss1 ss2 lb ls y0 y1 y2 y3 ly HBm HBWm HR1m HR2m HOm HGm HE1 HE2 HE3 HCq HKP
       go_wp2_with fail
       refine HCk.out.mono ?_
       rintro e WQ ⟨aq, cq, rfl, ho, hb1⟩
       have HO : Hid (AskOwn WQ WE.heap.size (.slice aq LQ.length cq) LQ) := ho
       have HBH : Hid (Below W0.heap.size W0 WQ) := HBE0.out.trans (hb1.mono HBE0.out.size)
       have HR1H := Lib.hid (HR1E.out.below hb1)
       have HR2H := Lib.hid (HR2E.out.below hb1)
       have LTB : Hid (W2.heap.size + 1 < WE.heap.size) := HR2E.out.lt
       clear ho hb1 HCk HBE HBE0 HR1E HR2E
       go_wp2_with fail
       go_loopg [11] LQ.length (fun g i wq => ∃ (m : Nat) (C : Nat → Int), m ≤ LQ.length ∧ g = LQ.length - m ∧ i = .int .i64 m ∧ Below W0.heap.size W0 wq ∧ BoolRow wq W2.heap.size 100 279 G ∧ IntRow wq (W2.heap.size + 1) 100 168 C ∧ AskOwn wq WE.heap.size (.slice aq LQ.length cq) LQ ∧ askR CL (LQ.take m) A = some C)
       case atStart => exact ⟨0, A, by omega, by omega, rfl, HBH.out, HR1H.out, HR2H.out, HO.out, rfl⟩
       case round =>
        obtain ⟨m, C, hm, rfl, rfl, hb, hr1, hr2, ho, hg⟩ := hrel
        obtain ⟨wo, rfl⟩ : ∃ wo : World, wo = wr := ⟨_, rfl⟩
        have HBm := Lib.hid hb
        have HR1m := Lib.hid hr1
        have HR2m := Lib.hid hr2
        have HOm := Lib.hid ho
        have HGm := Lib.hid hg
        clear hb hr1 hr2 ho hg HR1H HR2H HO HBH
        by_cases hml : m < LQ.length
        ·have hd2 : decide ((m : Int) < (LQ.length : Int)) = true := by simp; omega
         have HI : SlA wo 3 RAsk aq cq LQ := by
          obtain ⟨a', c', e', h'⟩ := AskOwn.sl HOm.out
          cases e'
          exact h'
         obtain ⟨g, off, vx, rfl, hxl, hxc, hxr⟩ := HI.at_ m hml
         obtain rfl : vx = [.int .i64 LQ[m].pt, .int .i64 LQ[m].lie, .int .i64 LQ[m].pl] := hxr
         have x0 : wo.cell? ⟨g, off + m * 3, none⟩ = some (.int .i64 LQ[m].pt) := hxc 0 (by simp)
         have x1 : wo.cell? ⟨g, off + m * 3 + 1, none⟩ = some (.int .i64 LQ[m].lie) := hxc 1 (by simp)
         have x2 : wo.cell? ⟨g, off + m * 3 + 2, none⟩ = some (.int .i64 LQ[m].pl) := hxc 2 (by simp)
         clear hxl hxc HI
         have lx := block_lt_of_cell x0
         have m0 : (0 : Int) ≤ (m : Int) := by omega
         have m1 : (m : Int) < (LQ.length : Int) := by omega
         obtain ⟨⟨q1, q2⟩, i, hi, hfx, hcl⟩ := HQP.out LQ[m] (List.getElem_mem hml)
         have p0 : (0 : Int) ≤ LQ[m].pt := by omega
         have p1 : LQ[m].pt < 100 := by omega
         have i0 : (0 : Int) ≤ (i : Int) := by omega
         have i1 : (i : Int) < (st.sws.length : Int) := by omega
         have HFX := Lib.hid hfx
         have HCL := Lib.hid hcl
         clear hfx hcl
         go_upto_region 20 with fail
         generalize hWX : World.alloc _ _ = WX
         have hbX : Below wo.heap.size wo WX := by rw [← hWX]; exact (Below.refl _ _).alloc (Nat.le_refl _) _
         have HBX : Hid (Below W0.heap.size W0 WX) := HBm.out.trans (hbX.mono HBm.out.size)
         have HBWX : Hid (Below w.heap.size w WX) := K0.out.trans (HBX.out.mono K0.out.size)
         have hz : WX.heap[wo.heap.size]? = some (.cells #[.int .i64 LQ[m].pt, .int .i64 LQ[m].lie, .int .i64 LQ[m].pl] 281 (0, 0)) := by rw [← hWX]; exact heap_alloc_new _ _
         have HR1X := Lib.hid (HR1m.out.below hbX)
         have HR2X := Lib.hid (HR2m.out.below hbX)
         have HOX : Hid (AskOwn WX WE.heap.size (.slice (some ⟨g, off, none⟩) LQ.length cq) LQ) := own_below HOm.out hbX
         have z0 : WX.cell? ⟨wo.heap.size, 0, none⟩ = some (.int .i64 LQ[m].pt) := (cell_of_row WX _ 0 _ _ _ hz).trans rfl
         have z1 : WX.cell? ⟨wo.heap.size, 1, none⟩ = some (.int .i64 LQ[m].lie) := (cell_of_row WX _ 1 _ _ _ hz).trans rfl
         have bx0 := (HBX.out.block _ (lt_of_block HP0.out)).trans HP0.out
         have bx1 := (HBX.out.block _ (lt_of_block HS0.out)).trans HS0.out
         obtain ⟨pp0, pp1, pp2, pp3, pp4, pp5⟩ := cells6 (bx0)
         have ss1 : WX.cell? ⟨w.heap.size + 1, 1, none⟩ = some (.slice b2 st.sws.length d2) := (cell_of_row WX _ 1 _ _ _ (bx1)).trans rfl
         have ss2 : WX.cell? ⟨w.heap.size + 1, 2, none⟩ = some (.slice (some ⟨gl, ol, none⟩) st.lks.length d3) := (cell_of_row WX _ 2 _ _ _ (bx1)).trans rfl
         have lb := block_lt_of_cell pp0
         have ls := block_lt_of_cell ss2
         clear bx0 bx1
         obtain ⟨gs, os, vw, ebs, hsl, hsc, hsr⟩ := (HSW.out WX HBWX.out).at_ i hi
         obtain rfl : vw = [.int .i64 st.sws[i].id, .int .i64 st.sws[i].lie, .int .i64 st.sws[i].call] := hsr
         subst ebs
         have w2 : WX.cell? ⟨gs, os + i * 3 + 2, none⟩ = some (.int .i64 st.sws[i].call) := hsc 2 (by simp)
         have t2 := HR2X.out.cell (q := LQ[m].pt.toNat) (by omega)
         clear hsl hsc hz x0 x1 x2 lx hWX hbX HBm HR1m HR2m HOm
         have hR : ∀ (d : Nat) (os : Array Obj), Below w.heap.size w (grow (redrawn WX d) os) := fun d os => HBWX.out.trans ((below_regrown WX d os).mono HBWX.out.size)
         have cH : Hid (∀ (d : Nat) (os : Array Obj), Calls Tryz.prog 223 #[.agg #[.int .i64 p.ver, .int .i64 p.par, .slice a1 p.secs.length k1, .slice a2 p.pts.length k2, .slice a3 p.sigs.length k3, .slice a4 p.rts.length k4], .int .i64 LQ[m].pt] (grow (redrawn WX d) os) fun e w'' => e = .returned (.int .i64 (i : Int)) ∧ ∃ p : Regrown, w'' = grow (redrawn WX p.d) p.os) := fun d os => by
          have := Calls.regrown_of (HPT.out _ LQ[m].pt (hR d os))
          rw [HFX.out] at this
          exact this
         have Z0 := cell_regrown z0
         have Z1 := cell_regrown z1
         have P0 := cell_regrown pp0
         have P1 := cell_regrown pp1
         have P2 := cell_regrown pp2
         have P3 := cell_regrown pp3
         have P4 := cell_regrown pp4
         have P5 := cell_regrown pp5
         have S1 := cell_regrown ss1
         have X2 := cell_regrown w2
         have T2 := cell_regrown t2
         clear hR z0 z1 pp0 pp1 pp2 pp3 pp4 pp5 ss1 ss2 w2 t2 lb ls
         have HBAD : Hid ((C LQ[m].pt.toNat ≠ 0 ∧ C LQ[m].pt.toNat ≠ LQ[m].lie) ∨ CL LQ[m].pt ≠ LQ[m].lie → B = false) := fun h => HF2.out ((askR_next hml HGm.out).1 h)
         have HGOOD := Lib.hid ((askR_next hml HGm.out).2)
         have HCQ : Hid (CL LQ[m].pt = st.sws[i].call) := HCL.out.symm
         have HYB : Hid (∀ d os, Below W0.heap.size W0 (grow (redrawn WX d) os)) := fun d os => HBX.out.trans ((below_regrown WX d os).mono HBX.out.size)
         have HYW : Hid (∀ d os, Below WX.heap.size WX (grow (redrawn WX d) os)) := fun d os => below_regrown WX d os
         have hpt : LQ[m].pt.toNat < 100 := by omega
         by_cases h1 : C LQ[m].pt.toNat = 0
         ·have ta1 : (C LQ[m].pt.toNat == 0) = true := by rw [beq_iff_eq]; exact h1
          have tb1 : (C LQ[m].pt.toNat != 0) = false := by rw [bne, ta1]; rfl
          by_cases h3 : st.sws[i].call = LQ[m].lie
          ·have ta3 : (st.sws[i].call == LQ[m].lie) = true := by rw [beq_iff_eq]; exact h3
           have tb3 : (st.sws[i].call != LQ[m].lie) = false := by rw [bne, ta3]; rfl
           have HG2 := Lib.hid (HGOOD.out (by rw [HCQ.out]; rintro (⟨k1, k2⟩ | k3); exact k1 h1; exact k3 h3))
           try clear h3
           try clear h2
           try clear h1
           refine wp_region_quiet_below (by kernel_rfl) (by kernel_rfl) ?_
           repeat (go_big_quiet_step (first | (with_reducible exact cH.out _ _)))
           refine wpQuiet_nil ?_
           rintro _ ⟨⟨dq, osq⟩, rfl⟩
           have z0 := Z0 dq osq
           have z1 := Z1 dq osq
           have hY := HYW.out dq osq
           have HY0 := Lib.hid (HYB.out dq osq)
           clear Z0 Z1 P0 P1 P2 P3 P4 P5 S1 X2 T2 cH HYB HYW
           generalize grow (redrawn WX dq) osq = WY at *
           have HR1Y := Lib.hid (HR1X.out.below hY)
           have HR2Y := Lib.hid (HR2X.out.below hY)
           have HOY := Lib.hid (own_below HOX.out hY)
           have lz := block_lt_of_cell z0
           have v2 := HR2Y.out.cell (q := LQ[m].pt.toNat) hpt
           have v3 := HR2Y.out.frozen LQ[m].pt.toNat
           have lw := HR2Y.out.lt
           clear hY
           go_wp2_with fail
           go_roundg (LQ.length - (m + 1))
           case measure => go_light; omega
           case rel =>
            go_light
            exact ⟨m + 1, _, by omega, by omega, by go_num, HY0.out.setCell (Nat.le_succ_of_le LB0.out) _, HR1Y.out.other (by simp), HR2Y.out.set (q := LQ[m].pt.toNat) hpt _, own_setCell HOY.out (a := ⟨W2.heap.size + 1, _, none⟩) LTB.out _, HG2.out⟩
          ·have ta3 : (st.sws[i].call == LQ[m].lie) = false := by rw [beq_eq_false_iff_ne]; exact h3
           have tb3 : (st.sws[i].call != LQ[m].lie) = true := by rw [bne, ta3]; rfl
           have HE := Lib.hid (HBAD.out (.inr (by rw [HCQ.out]; exact h3)))
           try clear h3
           try clear h2
           try clear h1
           refine wp_region_quiet_below (by kernel_rfl) (by kernel_rfl) ?_
           repeat (go_big_quiet_step (first | (with_reducible exact cH.out _ _)))
           refine wpQuiet_nil ?_
           rintro _ ⟨⟨dq, osq⟩, rfl⟩
           go_wp2_with fail
           go_ret
           exact ⟨by rw [HE.out]; rfl, K0.out.trans ((HYB.out dq osq).mono K0.out.size)⟩
         ·have ta1 : (C LQ[m].pt.toNat == 0) = false := by rw [beq_eq_false_iff_ne]; exact h1
          have tb1 : (C LQ[m].pt.toNat != 0) = true := by rw [bne, ta1]; rfl
          by_cases h2 : C LQ[m].pt.toNat = LQ[m].lie
          ·have ta2 : (C LQ[m].pt.toNat == LQ[m].lie) = true := by rw [beq_iff_eq]; exact h2
           have tb2 : (C LQ[m].pt.toNat != LQ[m].lie) = false := by rw [bne, ta2]; rfl
           by_cases h3 : st.sws[i].call = LQ[m].lie
           ·have ta3 : (st.sws[i].call == LQ[m].lie) = true := by rw [beq_iff_eq]; exact h3
            have tb3 : (st.sws[i].call != LQ[m].lie) = false := by rw [bne, ta3]; rfl
            have HG2 := Lib.hid (HGOOD.out (by rw [HCQ.out]; rintro (⟨k1, k2⟩ | k3); exact k2 h2; exact k3 h3))
            try clear h3
            try clear h2
            try clear h1
            refine wp_region_quiet_below (by kernel_rfl) (by kernel_rfl) ?_
            repeat (go_big_quiet_step (first | (with_reducible exact cH.out _ _)))
            refine wpQuiet_nil ?_
            rintro _ ⟨⟨dq, osq⟩, rfl⟩
            have z0 := Z0 dq osq
            have z1 := Z1 dq osq
            have hY := HYW.out dq osq
            have HY0 := Lib.hid (HYB.out dq osq)
            clear Z0 Z1 P0 P1 P2 P3 P4 P5 S1 X2 T2 cH HYB HYW
            generalize grow (redrawn WX dq) osq = WY at *
            have HR1Y := Lib.hid (HR1X.out.below hY)
            have HR2Y := Lib.hid (HR2X.out.below hY)
            have HOY := Lib.hid (own_below HOX.out hY)
            have lz := block_lt_of_cell z0
            have v2 := HR2Y.out.cell (q := LQ[m].pt.toNat) hpt
            have v3 := HR2Y.out.frozen LQ[m].pt.toNat
            have lw := HR2Y.out.lt
            clear hY
            go_wp2_with fail
            go_roundg (LQ.length - (m + 1))
            case measure => go_light; omega
            case rel =>
             go_light
             exact ⟨m + 1, _, by omega, by omega, by go_num, HY0.out.setCell (Nat.le_succ_of_le LB0.out) _, HR1Y.out.other (by simp), HR2Y.out.set (q := LQ[m].pt.toNat) hpt _, own_setCell HOY.out (a := ⟨W2.heap.size + 1, _, none⟩) LTB.out _, HG2.out⟩
           ·have ta3 : (st.sws[i].call == LQ[m].lie) = false := by rw [beq_eq_false_iff_ne]; exact h3
            have tb3 : (st.sws[i].call != LQ[m].lie) = true := by rw [bne, ta3]; rfl
            have HE := Lib.hid (HBAD.out (.inr (by rw [HCQ.out]; exact h3)))
            try clear h3
            try clear h2
            try clear h1
            refine wp_region_quiet_below (by kernel_rfl) (by kernel_rfl) ?_
            repeat (go_big_quiet_step (first | (with_reducible exact cH.out _ _)))
            refine wpQuiet_nil ?_
            rintro _ ⟨⟨dq, osq⟩, rfl⟩
            go_wp2_with fail
            go_ret
            exact ⟨by rw [HE.out]; rfl, K0.out.trans ((HYB.out dq osq).mono K0.out.size)⟩
          ·have ta2 : (C LQ[m].pt.toNat == LQ[m].lie) = false := by rw [beq_eq_false_iff_ne]; exact h2
           have tb2 : (C LQ[m].pt.toNat != LQ[m].lie) = true := by rw [bne, ta2]; rfl
           have HE := Lib.hid (HBAD.out (.inl ⟨h1, h2⟩))
           try clear h3
           try clear h2
           try clear h1
           refine wp_region_quiet_below (by kernel_rfl) (by kernel_rfl) ?_
           repeat (go_big_quiet_step (first | (with_reducible exact cH.out _ _)))
           refine wpQuiet_nil ?_
           rintro _ ⟨⟨dq, osq⟩, rfl⟩
           go_wp2_with fail
           go_ret
           exact ⟨by rw [HE.out]; rfl, K0.out.trans ((HYB.out dq osq).mono K0.out.size)⟩
        ·have hd2 : decide ((m : Int) < (LQ.length : Int)) = false := by simp; omega
         have HG2 : Hid (askR CL LQ A = some C) := by
          have := HGm.out
          rw [List.take_of_length_le (by omega)] at this
          exact this
         have HN := Lib.hid (HF3.out C HG2.out)
         go_wp2_with fail
         go_roundg (st.lks.length - (k + 1))
         case measure => go_light; omega
         case rel => go_light; exact ⟨k + 1, G, C, by omega, by omega, by go_num, HBm.out, HR1m.out, HR2m.out, HN.out⟩
    ·obtain rfl : k = st.lks.length := by omega
     have hd : decide ((st.lks.length : Int) < (st.lks.length : Int)) = false := by simp
     have HV : Hid (B = true) := HX42.out _ HLR.out
     go_wp2_with fail
     go_ret
     exact ⟨by rw [HV.out]; rfl, HBW.out⟩
  ·rw [decide_eq_false hA] at HPA
   have HV := Lib.hid (HNA.out hA)
   clear hPS hA HC HCA HKL HQL HX4 HNP HNA HX0 HX1 HX2 HX3
   go_wp2_with fail
   refine (HPS.out W0 K0.out).mono ?_
   rintro e W1 ⟨rfl, hb⟩
   have HB1 : Hid (Below W0.heap.size W0 W1) := hb
   have KB1 : Hid (Below w.heap.size w W1) := K0.out.trans (hb.mono K0.out.size)
   clear hb pp0 pp1 pp2 pp3 pp4 pp5 ss0 ss1 ss2 lb ls
   have bx0 := (HB1.out.block _ (lt_of_block HP0.out)).trans HP0.out
   have bx1 := (HB1.out.block _ (lt_of_block HS0.out)).trans HS0.out
   obtain ⟨pp0, pp1, pp2, pp3, pp4, pp5⟩ := cells6 (bx0)
   obtain ⟨ss0, ss1, ss2⟩ := cells3 (bx1)
   have lb := block_lt_of_cell pp0
   have ls := block_lt_of_cell ss2
   clear bx0 bx1
   go_wp2_with fail
   refine (HPA.out W1 KB1.out).mono ?_
   rintro e W2 ⟨rfl, hb⟩
   have HB2 : Hid (Below w.heap.size w W2) := KB1.out.trans (hb.mono KB1.out.size)
   clear hb pp0 pp1 pp2 pp3 pp4 pp5 ss0 ss1 ss2 lb ls HB1 KB1
   go_wp2_with fail
   go_ret
   exact ⟨by rw [HV.out]; rfl, HB2.out⟩
 ·rw [decide_eq_false hPS] at HPS
  have HV := Lib.hid (HNP.out hPS)
  clear hPS HC HCA HKL HQL HX4 HNP HNA HX0 HX1 HX2 HX3
  go_wp2_with fail
  refine (HPS.out W0 K0.out).mono ?_
  rintro e W1 ⟨rfl, hb⟩
  have KB1 : Hid (Below w.heap.size w W1) := K0.out.trans (hb.mono K0.out.size)
  clear hb pp0 pp1 pp2 pp3 pp4 pp5 ss0 ss1 ss2 lb ls
  go_wp2_with fail
  go_ret
  exact ⟨by rw [HV.out]; rfl, KB1.out⟩
end Go.Proofs.YtbiehpjhhopjaaaGreat
