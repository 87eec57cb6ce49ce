/-
 A way, as the references make it, walked. (Written by wip/tools/gen_rwj.py.)
-/
import Derived.Test.YtbiehpjhhopjaaaGreatTRwG
import Derived.Test.YtbiehpjhhopjaaaGreatTRwH
import Derived.Test.YtbiehpjhhopjaaaGreatTRwM
set_option linter.unusedVariables false
set_option linter.unusedSimpArgs false
namespace Go.Proofs.YtbiehpjhhopjaaaGreat
open Go.RowKit Go.Sort
def WayPost (w : World) (r : Rt) (asks : List Ask) (near : Int) (e : Ending) (w' : World) : Prop :=
 ∃ a1 c1 a2 c2 a3 c3, e = .returned (.agg #[.slice a1 r.path.length c1, .slice a2 r.over.length c2, .slice a3 asks.length c3, .int .i64 near]) ∧ IntOwn w' w.heap.size (.slice a1 r.path.length c1) r.path ∧ IntOwn w' w.heap.size (.slice a2 r.over.length c2) r.over ∧ AskOwn w' w.heap.size (.slice a3 asks.length c3) asks ∧ Below w.heap.size w w'
theorem asksR_len (p : Pl) (r : Rt) (ins outs : List Int) : ∀ n, (asksR p r ins outs n).length ≤ n
 | 0 => Nat.le_refl _
 | n + 1 => by
  rw [asksR, List.length_append]
  have := asksR_len p r ins outs n
  have h1 : (askAtR p r n (ins.getD n 0) (outs.getD n 0)).length ≤ 1 := by
   unfold askAtR
   split
   ·simp
   ·repeat' split
    all_goals simp
  omega
theorem sg_of_fix {p : Pl} {n : Int} {i : Nat} (hi : i < p.sigs.length) (h : fix (fun x => decide (x.id = n)) p.sigs = (i : Int)) : sgOf p n = p.sigs[i] := by
 unfold sgOf
 rcases fix_cases (fun x : Sg => decide (x.id = n)) p.sigs with ⟨e, _⟩ | ⟨m, hm, e, g1, g2⟩
 ·rw [e] at h; omega
 ·have : m = i := by rw [e] at h; omega
  subst this
  exact (one_some hm g1 g2).1
set_option maxRecDepth 100000 in
set_option maxHeartbeats 16000000 in
theorem refMade (p : Pl) (s q gg rr : Value) (kk : Nat) (hkk : kk < p.rts.length) (w : World) (hp : PlM w s q gg rr p) (hf : p.Fit) (hPM : PlanMay p) (x : Rw) (hx : rwEnd p p.rts[kk] = some x) :
  Calls Tryz.prog 217 #[plV p s q gg rr, .int .i64 kk] w (WayPost w p.rts[kk] (madeAsks p p.rts[kk] x) (sgOf p p.rts[kk].entry).sec) := by
 obtain ⟨i1, h1, i2, h2, en, hen, e1, e2, e3, e4⟩ := begin_at hPM hkk
 rw [sg_of_fix h1 e1]
 have hFine := rt_fine hPM hkk
 have hHd := (may_rt hPM hkk).1
 have hrfit := hf.rt kk hkk
 have HENDS : Hid (∀ W c5 c6 c7, Below w.heap.size w W → RtM W c5 c6 c7 p.rts[kk] → Calls Tryz.prog 216 #[plV p s q gg rr, .agg #[.int .i64 p.rts[kk].id, .int .i64 p.rts[kk].entry, .int .i64 p.rts[kk].exit, c5, c6, c7, .int .i64 p.rts[kk].timer]] W (EndsPost W (rwEnd p p.rts[kk]) (allOf p.rts[kk]).length)) := fun W c5 c6 c7 hb hr => refEnds p s q gg rr kk hkk c5 c6 c7 W (hp.below hb) hf hPM hr
 obtain ⟨a1, k1, rfl, g1⟩ := hp.secs
 obtain ⟨a2, k2, rfl, -⟩ := hp.pts
 obtain ⟨a3, k3, rfl, g3⟩ := hp.sigs
 obtain ⟨a4, k4, rfl, g4⟩ := hp.rts
 obtain ⟨rb, ro, vp, vo, vf, rfl, x0, x1, x2, x3, x4, x5, x6, hr⟩ := g4.rt hkk
 have hkk2 := hf.rts
 generalize p.rts[kk] = r at *
 have hlen : (allOf r).length ≤ 8 := by rw [all_len]; have := hHd.2.2.2.2.1; have := hHd.2.2.2.2.2.1; omega
 have HP1 : Hid (1 ≤ r.path.length) := hFine.path
 have hfl3 : r.fl.length ≤ 3 := hHd.2.2.2.2.2.2.1
 have hpo : r.path.length + r.over.length ≤ 1000 := by have := all_len r; omega
 have HATS : Hid (∀ n (hn : n < (allOf r).length), ∃ m, ∃ hm : m < p.secs.length, fix (fun x => decide (x.id = (allOf r)[n])) p.secs = (m : Int) ∧ atSec p r n = p.secs[m]) := fun n hn => by
  have hs := hFine.shaped n hn
  have hgd : (allOf r).getD n 0 = (allOf r)[n] := by rw [List.getD_eq_getElem?_getD, List.getElem?_eq_getElem hn]; rfl
  have h1' := hs.1
  rw [hgd] at h1'
  obtain ⟨m, hm, e⟩ := fixp_of.1 h1'
  exact ⟨m, hm, e, by unfold atSec; rw [hgd]; exact one_fix hm e⟩
 have HAK : Hid (∀ n, asksR p r x.ins x.outs (n + 1) = asksR p r x.ins x.outs n ++ askAtR p r n (x.ins.getD n 0) (x.outs.getD n 0)) := fun n => rfl
 have HAL : Hid (∀ n, (asksR p r x.ins x.outs n).length ≤ n) := fun n => asksR_len p r x.ins x.outs n
 have HMA : Hid (madeAsks p r x = asksR p r x.ins x.outs (allOf r).length ++ r.fl.map fun f => ⟨f.pt, f.lie, -1⟩) := rfl
 have HA0 : Hid (asksR p r x.ins x.outs 0 = []) := rfl
 have HAA : Hid (∀ n a o, askAtR p r n a o = if (atSec p r n).pt = 0 then [] else if 0 < (if 0 ≤ o then lieR (atSec p r n) a o else a) then [⟨(atSec p r n).pt, if 0 ≤ o then lieR (atSec p r n) a o else a, n⟩] else []) := fun n a o => rfl
 generalize madeAsks p r x = MA at *
 generalize asksR p r x.ins x.outs = AR at *
 obtain ⟨p1, pn, p3, rfl, ip⟩ := hr.path
 obtain ⟨o1, on, o3, rfl, io⟩ := hr.over
 obtain rfl := ip.len
 obtain rfl := io.len
 obtain ⟨f1, f3, rfl, -⟩ := hr.fl
 have HSE : Hid (∀ W, Below w.heap.size w W → SlA W 3 RSec a1 k1 p.secs) := fun W hb => g1.below keeps_sec hb
 have HSG : Hid (∀ W, Below w.heap.size w W → SlA W 3 RSg a3 k3 p.sigs) := fun W hb => g3.below keeps_sg hb
 have HRM : Hid (∀ W, Below w.heap.size w W → RtM W (.slice p1 r.path.length p3) (.slice o1 r.over.length o3) (.slice f1 r.fl.length f3) r) := fun W hb => hr.below hb
 have LS := Lib.hid hf.secs
 have LG := Lib.hid hf.sigs
 have HE1 := Lib.hid e1
 have HX := Lib.hid hx
 have HRF := Lib.hid hrfit
 generalize rwEnd p r = RE at *
 unfold plV at *
 clear hp hf hPM g1 g3 g4 hr ip io hFine hHd e1 e2 e3 e4 hx hrfit h2 hen
 go_enter Tryz.func217, Tryz.ntmps217
 go_upto_region 1 with fail
 generalize hW0 : World.alloc _ _ = W0
 have K0 : Hid (Below w.heap.size w W0) := by show Below _ _ _; rw [← hW0]; exact ((Below.refl _ _).alloc (Nat.le_refl _) _).alloc (by simp) _
 have BX0 : Hid (W0.heap[w.heap.size]? = some (.cells #[.int .i64 p.ver, .int .i64 p.par, .slice a1 p.secs.length k1, .slice a2 p.pts.length k2, .slice a3 p.sigs.length k3, .slice (some ⟨rb, ro, none⟩) p.rts.length k4] 28 (0, 0)) ∧ W0.heap[w.heap.size + 1]? = some (.cells #[.slice none 0 0, .slice none 0 0, .slice none 0 0, .int .i64 0] 184 (0, 0))) := by
  show _ ∧ _
  rw [← hW0]
  exact ⟨(heap_alloc_old _ _ (by simp)).trans (heap_alloc_new _ _), heap_alloc2_new _ _ _⟩
 have hb0 : Below w.heap.size w W0 := K0.out
 clear hW0
 replace x0 := ccell hb0 x0
 replace x1 := ccell hb0 x1
 replace x2 := ccell hb0 x2
 replace x3 := ccell hb0 x3
 replace x4 := ccell hb0 x4
 replace x5 := ccell hb0 x5
 replace x6 := ccell hb0 x6
 have pp5 : W0.cell? ⟨w.heap.size, 5, none⟩ = some (.slice (some ⟨rb, ro, none⟩) p.rts.length k4) := (cell_of_row W0 _ 5 _ _ _ BX0.out.1).trans rfl
 have c0 : (0 : Int) ≤ (kk : Int) := by omega
 have c1 : (kk : Int) < (p.rts.length : Int) := by omega
 have l9 := World.block_lt_of_cell? _ _ x0
 have lb := block_lt_of_cell pp5
 clear hb0
 go_wp2_with fail
 refine (refTwinRt r _ _ _ W0 (HRM.out _ K0.out) HRF.out).mono ?_
 rintro e W1 ⟨q1, q3, n1, n3, m1, m3, rfl, hown, hb1⟩
 go_upto_region 2 with fail
 generalize hW2 : World.alloc _ _ = W2
 have hb2 : Below W1.heap.size W1 W2 := by rw [← hW2]; exact (Below.refl _ _).alloc (Nat.le_refl _) _
 have hr2 : W2.heap[W1.heap.size]? = some (.cells #[.int .i64 r.id, .int .i64 r.entry, .int .i64 r.exit, .slice q1 r.path.length q3, .slice n1 r.over.length n3, .slice m1 r.fl.length m3, .int .i64 r.timer] 102 (0, 0)) := by rw [← hW2]; exact heap_alloc_new _ _
 have K1 : Hid (Below W0.heap.size W0 W1) := hb1
 have K2 : Hid (Below W0.heap.size W0 W2) := hb1.trans (hb2.mono hb1.size)
 have HR2 := Lib.hid hr2
 have HRMM := Lib.hid (hown.m.below hb2)
 have HOWN : Hid (RtOwn W1 W0.heap.size (.slice q1 r.path.length q3) (.slice n1 r.over.length n3) (.slice m1 r.fl.length m3) r) := hown
 have HS12 : Hid (∀ W, Below W2.heap.size W2 W → Below W1.heap.size W1 W) := fun W hb => hb2.trans (hb.mono hb2.size)
 have KW : Hid (∀ W, Below W0.heap.size W0 W → Below w.heap.size w W) := fun W hb => K0.out.trans (hb.mono K0.out.size)
 have BXW : Hid (∀ W, Below W0.heap.size W0 W → W.heap[w.heap.size]? = some (.cells #[.int .i64 p.ver, .int .i64 p.par, .slice a1 p.secs.length k1, .slice a2 p.pts.length k2, .slice a3 p.sigs.length k3, .slice (some ⟨rb, ro, none⟩) p.rts.length k4] 28 (0, 0))) := fun W hb => (hb.block _ (lt_of_block BX0.out.1)).trans BX0.out.1
 have BYW : Hid (∀ W, Below W0.heap.size W0 W → W.heap[w.heap.size + 1]? = some (.cells #[.slice none 0 0, .slice none 0 0, .slice none 0 0, .int .i64 0] 184 (0, 0))) := fun W hb => (hb.block _ (lt_of_block BX0.out.2)).trans BX0.out.2
 have bx := BXW.out _ K2.out
 have pp0 : W2.cell? ⟨w.heap.size, 0, none⟩ = some (.int .i64 p.ver) := (cell_of_row W2 _ 0 _ _ _ (bx)).trans rfl
 have pp1 : W2.cell? ⟨w.heap.size, 1, none⟩ = some (.int .i64 p.par) := (cell_of_row W2 _ 1 _ _ _ (bx)).trans rfl
 have pp2 : W2.cell? ⟨w.heap.size, 2, none⟩ = some (.slice a1 p.secs.length k1) := (cell_of_row W2 _ 2 _ _ _ (bx)).trans rfl
 have pp3 : W2.cell? ⟨w.heap.size, 3, none⟩ = some (.slice a2 p.pts.length k2) := (cell_of_row W2 _ 3 _ _ _ (bx)).trans rfl
 have pp4 : W2.cell? ⟨w.heap.size, 4, none⟩ = some (.slice a3 p.sigs.length k3) := (cell_of_row W2 _ 4 _ _ _ (bx)).trans rfl
 clear pp5
 have pp5 : W2.cell? ⟨w.heap.size, 5, none⟩ = some (.slice (some ⟨rb, ro, none⟩) p.rts.length k4) := (cell_of_row W2 _ 5 _ _ _ (bx)).trans rfl
 obtain ⟨rr0, rr1, rr2, rr3, rr4, rr5, rr6⟩ := cells7 (hr2)
 have lb2 := block_lt_of_cell pp0
 have lr2 := lt_of_block hr2
 clear hown hb1 hb2 hW2 hr2 bx x0 x1 x2 x3 x4 x5 x6 l9 lb
 go_wp2_with fail
 refine (HENDS.out W2 _ _ _ (KW.out _ K2.out) HRMM.out).mono ?_
 rintro e W3 ⟨hb3, hcs⟩
 rcases hcs with ⟨hn, -⟩ | ⟨x', ia, ib, ja, jb, hxe, hil, hol, rfl, hIA, hJA⟩
 ·exact absurd (HX.out.symm.trans hn) (by simp)
 obtain rfl : x = x' := Option.some.inj (HX.out.symm.trans hxe)
 have HB23 : Hid (Below W2.heap.size W2 W3) := hb3
 have K3 : Hid (Below W0.heap.size W0 W3) := K2.out.trans (hb3.mono K2.out.size)
 have hr3 := (hb3.block _ (lt_of_block HR2.out)).trans HR2.out
 have HR3 := Lib.hid hr3
 have HRM3 := Lib.hid (HRMM.out.below hb3)
 have HIA := Lib.hid hIA
 have HJA := Lib.hid hJA
 clear pp0 pp1 pp2 pp3 pp4 pp5 rr0 rr1 rr2 rr3 rr4 rr5 rr6 lb2 lr2 hb3 hxe hIA hJA HENDS HX HR2 HRMM
 obtain ⟨rr0, rr1, rr2, rr3, rr4, rr5, rr6⟩ := cells7 (hr3)
 have lr3 := lt_of_block hr3
 clear hr3
 go_wp2_with fail
 refine (refSections r q1 n1 m1 q3 n3 m3 W3 HRM3.out hpo).mono ?_
 rintro e W4 ⟨la, lc, rfl, hown, hb4⟩
 have K24 : Hid (Below W2.heap.size W2 W4) := HB23.out.trans (hb4.mono HB23.out.size)
 have K4 : Hid (Below W0.heap.size W0 W4) := K3.out.trans (hb4.mono K3.out.size)
 have hr4 := (hb4.block _ (lt_of_block HR3.out)).trans HR3.out
 have HR4 := Lib.hid hr4
 have HRM4 := Lib.hid (HRM3.out.below hb4)
 have HIA4 := Lib.hid (HIA.out.below hb4)
 have HJA4 := Lib.hid (HJA.out.below hb4)
 have HLA4 := Lib.hid (IntOwn.il hown)
 have LG4 : Hid (W1.heap.size < W4.heap.size) := lt_of_block hr4
 clear rr0 rr1 rr2 rr3 rr4 rr5 rr6 lr3 hb4 hown HR3 HRM3 HIA HJA K3
 obtain ⟨gb, go, hgb, tg0, tg1, tg2⟩ := (HSG.out _ (KW.out _ K4.out)).sg h1
 subst hgb
 have bx := BXW.out _ K4.out
 have d0 : (0 : Int) ≤ (i1 : Int) := by omega
 have d1 : (i1 : Int) < (p.sigs.length : Int) := by omega
 have pp4 : W4.cell? ⟨w.heap.size, 4, none⟩ = some (.slice (some ⟨gb, go, none⟩) p.sigs.length k3) := (cell_of_row W4 _ 4 _ _ _ bx).trans rfl
 have rr1 : W4.cell? ⟨W1.heap.size, 1, none⟩ = some (.int .i64 r.entry) := (cell_of_row W4 _ 1 _ _ _ (HR4.out)).trans rfl
 have rr3 : W4.cell? ⟨W1.heap.size, 3, none⟩ = some (.slice q1 r.path.length q3) := (cell_of_row W4 _ 3 _ _ _ (HR4.out)).trans rfl
 have rr4 : W4.cell? ⟨W1.heap.size, 4, none⟩ = some (.slice n1 r.over.length n3) := (cell_of_row W4 _ 4 _ _ _ (HR4.out)).trans rfl
 clear bx hr4
 go_upto_region 4 with fail
 refine wp_region_inv' (by kernel_rfl) (by kernel_rfl) (fun f ac W9 => ∃ s : Nat → Value, ac = { tmps := #[.agg #[.int .i64 p.ver, .int .i64 p.par, .slice a1 p.secs.length k1, .slice a2 p.pts.length k2, .slice (some ⟨gb, go, none⟩) p.sigs.length k3, .slice (some ⟨rb, ro, none⟩) p.rts.length k4], .int .i64 ↑kk, .pointer (some ⟨w.heap.size, 0, none⟩), undef, .pointer (some ⟨w.heap.size + 1, 0, none⟩), .pointer (some ⟨W1.heap.size, 0, none⟩), .slice ia (allOf r).length ib, .slice ja (allOf r).length jb, .bool true, .slice la (allOf r).length lc, s 15, undef, undef, undef, undef, .pointer (some ⟨w.heap.size, 5, none⟩), .slice (some ⟨rb, ro, none⟩) p.rts.length k4, .int .i64 ↑kk, .pointer (some ⟨rb, ro + kk * 7, none⟩), .agg #[.int .i64 r.id, .int .i64 r.entry, .int .i64 r.exit, .slice p1 r.path.length p3, .slice o1 r.over.length o3, .slice f1 r.fl.length f3, .int .i64 r.timer], .agg #[.int .i64 r.id, .int .i64 r.entry, .int .i64 r.exit, .slice q1 r.path.length q3, .slice n1 r.over.length n3, .slice m1 r.fl.length m3, .int .i64 r.timer], .tuple #[.slice ia (allOf r).length ib, .slice ja (allOf r).length jb, .bool true], .agg #[.int .i64 p.ver, .int .i64 p.par, .slice a1 p.secs.length k1, .slice a2 p.pts.length k2, .slice (some ⟨gb, go, none⟩) p.sigs.length k3, .slice (some ⟨rb, ro, none⟩) p.rts.length k4], .agg #[.int .i64 r.id, .int .i64 r.entry, .int .i64 r.exit, .slice q1 r.path.length q3, .slice n1 r.over.length n3, .slice m1 r.fl.length m3, .int .i64 r.timer], .tuple #[.slice ia (allOf r).length ib, .slice ja (allOf r).length jb, .bool true], .slice ia (allOf r).length ib, .slice ja (allOf r).length jb, .bool true, .agg #[.int .i64 r.id, .int .i64 r.entry, .int .i64 r.exit, .slice q1 r.path.length q3, .slice n1 r.over.length n3, .slice m1 r.fl.length m3, .int .i64 r.timer], .slice la (allOf r).length lc, s 0, s 1, s 2, s 3, s 4, s 5, s 6, s 7, s 8, s 9, s 10, s 11, s 12, s 13, s 14, undef, undef, undef, undef, undef, undef, undef, undef, undef, undef, undef, undef, undef, undef, undef, undef, undef, undef, undef, undef, undef, undef, undef, undef, undef, undef, undef, undef, undef, undef, undef, undef, undef, undef, undef, undef, undef, undef, undef, undef, undef, undef, undef, undef, undef, undef, undef, undef, undef, undef, undef, undef, undef, undef, undef, undef, undef, undef, undef, undef, undef, undef, undef, undef, undef, undef, undef, undef, undef, undef, undef, undef, undef, undef, undef, undef, undef], defers := [] } ∧ RG W4 (fun i => match i with | 0 => .pointer (some ⟨W1.heap.size, 3, none⟩) | 1 => .slice q1 r.path.length q3 | 2 => .pointer (some ⟨W1.heap.size, 4, none⟩) | 3 => .slice n1 r.over.length n3 | 4 => .pointer (some ⟨w.heap.size, 4, none⟩) | 5 => .slice (some ⟨gb, go, none⟩) p.sigs.length k3 | 6 => .pointer (some ⟨w.heap.size, 4, none⟩) | 7 => .slice (some ⟨gb, go, none⟩) p.sigs.length k3 | 8 => .pointer (some ⟨W1.heap.size, 1, none⟩) | 9 => .int .i64 r.entry | 10 => .int .i64 i1 | 11 => .pointer (some ⟨gb, go + i1 * 3, none⟩) | 12 => .pointer (some ⟨gb, go + i1 * 3 + 1, none⟩) | 13 => .int .i64 p.sigs[i1].sec | 14 => .agg #[.slice q1 r.path.length q3, .slice n1 r.over.length n3, .slice none 0 0, .int .i64 p.sigs[i1].sec] | _ => undef) 15 16 #[.slice none 0 0, .slice none 0 0, .slice none 0 0, .int .i64 0] #[.slice q1 r.path.length q3, .slice n1 r.over.length n3, .slice none 0 0, .int .i64 p.sigs[i1].sec] 184 f s W9) ?_ ?_ ?_
 ·exact ⟨(fun i => match i with | 0 => undef | 1 => undef | 2 => undef | 3 => undef | 4 => undef | 5 => undef | 6 => undef | 7 => undef | 8 => undef | 9 => undef | 10 => undef | 11 => undef | 12 => undef | 13 => undef | 14 => undef | 15 => undef | _ => undef), rfl, RG.start ⟨rfl, rfl, rfl, Nat.le_refl _, fun _ _ => rfl⟩⟩
 ·intro i o ho f a W9 hI hd hun
  obtain ⟨s, rfl, hS⟩ := hI
  rcases i with _ | _ | _ | _ | _ | _ | _ | _ | _ | _ | _ | _ | _ | _ | _ | _ | _ | i
  ·have ho2 := ho
   simp at ho2
   subst ho2
   refine wpOp_put (by simp [wpOp, go_sem]; exact .inl ⟨rfl, rfl⟩) ?_
   exact ⟨fun j => if j = 0 then .pointer (some ⟨W1.heap.size, 3, none⟩) else s j, rfl, hS.step 0 (by decide) (by decide)⟩
  ·have ho2 := ho
   simp at ho2
   subst ho2
   have e0 : s 0 = .pointer (some ⟨W1.heap.size, 3, none⟩) := hS.val 0 (by decide) (hd ⟨0, .data⟩ (by simp) (by rfl))
   have q2 := ccell hS.bel rr3
   refine wpOp_put (by simp [wpOp, go_sem, e0, q2]; exact .inl ⟨rfl, rfl⟩) ?_
   exact ⟨fun j => if j = 1 then .slice q1 r.path.length q3 else s j, by simp [e0], hS.step 1 (by decide) (by decide)⟩
  ·have ho2 := ho
   simp at ho2
   subst ho2
   refine wpOp_put (by simp [wpOp, go_sem]; exact .inl ⟨rfl, rfl⟩) ?_
   exact ⟨fun j => if j = 2 then .pointer (some ⟨W1.heap.size, 4, none⟩) else s j, rfl, hS.step 2 (by decide) (by decide)⟩
  ·have ho2 := ho
   simp at ho2
   subst ho2
   have e2 : s 2 = .pointer (some ⟨W1.heap.size, 4, none⟩) := hS.val 2 (by decide) (hd ⟨2, .data⟩ (by simp) (by rfl))
   have q2 := ccell hS.bel rr4
   refine wpOp_put (by simp [wpOp, go_sem, e2, q2]; exact .inl ⟨rfl, rfl⟩) ?_
   exact ⟨fun j => if j = 3 then .slice n1 r.over.length n3 else s j, by simp [e2], hS.step 3 (by decide) (by decide)⟩
  ·have ho2 := ho
   simp at ho2
   subst ho2
   refine wpOp_put (by simp [wpOp, go_sem]; exact .inl ⟨rfl, rfl⟩) ?_
   exact ⟨fun j => if j = 4 then .pointer (some ⟨w.heap.size, 4, none⟩) else s j, rfl, hS.step 4 (by decide) (by decide)⟩
  ·have ho2 := ho
   simp at ho2
   subst ho2
   have e4 : s 4 = .pointer (some ⟨w.heap.size, 4, none⟩) := hS.val 4 (by decide) (hd ⟨4, .data⟩ (by simp) (by rfl))
   have q2 := ccell hS.bel pp4
   refine wpOp_put (by simp [wpOp, go_sem, e4, q2]; exact .inl ⟨rfl, rfl⟩) ?_
   exact ⟨fun j => if j = 5 then .slice (some ⟨gb, go, none⟩) p.sigs.length k3 else s j, by simp [e4], hS.step 5 (by decide) (by decide)⟩
  ·have ho2 := ho
   simp at ho2
   subst ho2
   refine wpOp_put (by simp [wpOp, go_sem]; exact .inl ⟨rfl, rfl⟩) ?_
   exact ⟨fun j => if j = 6 then .pointer (some ⟨w.heap.size, 4, none⟩) else s j, rfl, hS.step 6 (by decide) (by decide)⟩
  ·have ho2 := ho
   simp at ho2
   subst ho2
   have e6 : s 6 = .pointer (some ⟨w.heap.size, 4, none⟩) := hS.val 6 (by decide) (hd ⟨6, .data⟩ (by simp) (by rfl))
   have q2 := ccell hS.bel pp4
   refine wpOp_put (by simp [wpOp, go_sem, e6, q2]; exact .inl ⟨rfl, rfl⟩) ?_
   exact ⟨fun j => if j = 7 then .slice (some ⟨gb, go, none⟩) p.sigs.length k3 else s j, by simp [e6], hS.step 7 (by decide) (by decide)⟩
  ·have ho2 := ho
   simp at ho2
   subst ho2
   refine wpOp_put (by simp [wpOp, go_sem]; exact .inl ⟨rfl, rfl⟩) ?_
   exact ⟨fun j => if j = 8 then .pointer (some ⟨W1.heap.size, 1, none⟩) else s j, rfl, hS.step 8 (by decide) (by decide)⟩
  ·have ho2 := ho
   simp at ho2
   subst ho2
   have e8 : s 8 = .pointer (some ⟨W1.heap.size, 1, none⟩) := hS.val 8 (by decide) (hd ⟨8, .data⟩ (by simp) (by rfl))
   have q2 := ccell hS.bel rr1
   refine wpOp_put (by simp [wpOp, go_sem, e8, q2]; exact .inl ⟨rfl, rfl⟩) ?_
   exact ⟨fun j => if j = 9 then .int .i64 r.entry else s j, by simp [e8], hS.step 9 (by decide) (by decide)⟩
  ·have ho2 := ho
   simp at ho2
   subst ho2
   have e7 : s 7 = .slice (some ⟨gb, go, none⟩) p.sigs.length k3 := hS.val 7 (by decide) (hd ⟨7, .data⟩ (by simp) (by rfl))
   have e9 : s 9 = .int .i64 r.entry := hS.val 9 (by decide) (hd ⟨9, .data⟩ (by simp) (by rfl))
   have hc := ((sgAt (some ⟨gb, go, none⟩) k3 p.sigs r.entry W9 (HSG.out _ (KW.out _ (K4.out.trans (hS.bel.mono K4.out.size)))) LG.out).mono fun e w' h => (⟨h.1.trans (by rw [HE1.out]), below_same h.2⟩ : e = .returned (.int .i64 i1) ∧ Below W9.heap.size W9 w'))
   apply wpOp_putB (R := fun w' => Below W9.heap.size W9 w')
   ·simp [wpOp, go_sem, e7, e9]
    refine .inl (hc.mono ?_)
    rintro e w' ⟨rfl, hb⟩
    simp [go_sem]
    exact ⟨rfl, hb⟩
   ·intro w' hb
    exact ⟨fun j => if j = 10 then .int .i64 i1 else s j, by simp [e7, e9], (hS.grow hb).step 10 (by decide) (by decide)⟩
  ·have ho2 := ho
   simp at ho2
   subst ho2
   have e5 : s 5 = .slice (some ⟨gb, go, none⟩) p.sigs.length k3 := hS.val 5 (by decide) (hd ⟨5, .data⟩ (by simp) (by rfl))
   have e10 : s 10 = .int .i64 i1 := hS.val 10 (by decide) (hd ⟨10, .data⟩ (by simp) (by rfl))
   refine wpOp_put (by simp [wpOp, go_sem, e5, e10, d0, d1]; exact .inl ⟨rfl, rfl⟩) ?_
   exact ⟨fun j => if j = 11 then .pointer (some ⟨gb, go + i1 * 3, none⟩) else s j, by simp [e5, e10], hS.step 11 (by decide) (by decide)⟩
  ·have ho2 := ho
   simp at ho2
   subst ho2
   have e11 : s 11 = .pointer (some ⟨gb, go + i1 * 3, none⟩) := hS.val 11 (by decide) (hd ⟨11, .data⟩ (by simp) (by rfl))
   refine wpOp_put (by simp [wpOp, go_sem, e11]; exact .inl ⟨rfl, rfl⟩) ?_
   exact ⟨fun j => if j = 12 then .pointer (some ⟨gb, go + i1 * 3 + 1, none⟩) else s j, by simp [e11], hS.step 12 (by decide) (by decide)⟩
  ·have ho2 := ho
   simp at ho2
   subst ho2
   have e12 : s 12 = .pointer (some ⟨gb, go + i1 * 3 + 1, none⟩) := hS.val 12 (by decide) (hd ⟨12, .data⟩ (by simp) (by rfl))
   have q2 := ccell hS.bel tg1
   refine wpOp_put (by simp [wpOp, go_sem, e12, q2]; exact .inl ⟨rfl, rfl⟩) ?_
   exact ⟨fun j => if j = 13 then .int .i64 p.sigs[i1].sec else s j, by simp [e12], hS.step 13 (by decide) (by decide)⟩
  ·have ho2 := ho
   simp at ho2
   subst ho2
   have e1 : s 1 = .slice q1 r.path.length q3 := hS.val 1 (by decide) (hd ⟨1, .data⟩ (by simp) (by rfl))
   have e3 : s 3 = .slice n1 r.over.length n3 := hS.val 3 (by decide) (hd ⟨3, .data⟩ (by simp) (by rfl))
   have e13 : s 13 = .int .i64 p.sigs[i1].sec := hS.val 13 (by decide) (hd ⟨13, .data⟩ (by simp) (by rfl))
   refine wpOp_put (by simp [wpOp, go_sem, e1, e3, e13]; exact .inl ⟨rfl, rfl⟩) ?_
   exact ⟨fun j => if j = 14 then .agg #[.slice q1 r.path.length q3, .slice n1 r.over.length n3, .slice none 0 0, .int .i64 p.sigs[i1].sec] else s j, by simp [e1, e3, e13], hS.step 14 (by decide) (by decide)⟩
  ·have ho2 := ho
   simp at ho2
   subst ho2
   refine wpOp_put (by simp [wpOp, go_sem]; exact .inl ⟨rfl, rfl⟩) ?_
   exact ⟨fun j => if j = 15 then .pointer (some ⟨W9.heap.size, 0, none⟩) else s j, rfl, hS.alloc (by decide) hun⟩
  ·have ho2 := ho
   simp at ho2
   subst ho2
   have e14 : s 14 = .agg #[.slice q1 r.path.length q3, .slice n1 r.over.length n3, .slice none 0 0, .int .i64 p.sigs[i1].sec] := hS.val 14 (by decide) (hd ⟨14, .data⟩ (by simp) (by rfl))
   have ha := hd ⟨15, .data⟩ (by simp) (by rfl)
   obtain ⟨g, eg, hg1, hg2⟩ := hS.at ha hun
   refine wpOp_store_row ho rfl 184 (.tmp 10) (.tmp 44) rfl g #[.slice q1 r.path.length q3, .slice n1 r.over.length n3, .slice none 0 0, .int .i64 p.sigs[i1].sec] eg e14 184 #[.slice none 0 0, .slice none 0 0, .slice none 0 0, .int .i64 0] hg2 rfl rfl (by simp [Value.oneCell']) ?_
   exact ⟨fun j => if j = 16 then undef else s j, rfl, hS.store (by decide) ha eg hg1 hg2⟩
  ·simp at ho
 ·intro f a W9 hI hall
  obtain ⟨s, rfl, hS⟩ := hI
  have e0 : s 0 = .pointer (some ⟨W1.heap.size, 3, none⟩) := hS.val 0 (by decide) (hall 0 (by decide))
  have e1 : s 1 = .slice q1 r.path.length q3 := hS.val 1 (by decide) (hall 1 (by decide))
  have e2 : s 2 = .pointer (some ⟨W1.heap.size, 4, none⟩) := hS.val 2 (by decide) (hall 2 (by decide))
  have e3 : s 3 = .slice n1 r.over.length n3 := hS.val 3 (by decide) (hall 3 (by decide))
  have e4 : s 4 = .pointer (some ⟨w.heap.size, 4, none⟩) := hS.val 4 (by decide) (hall 4 (by decide))
  have e5 : s 5 = .slice (some ⟨gb, go, none⟩) p.sigs.length k3 := hS.val 5 (by decide) (hall 5 (by decide))
  have e6 : s 6 = .pointer (some ⟨w.heap.size, 4, none⟩) := hS.val 6 (by decide) (hall 6 (by decide))
  have e7 : s 7 = .slice (some ⟨gb, go, none⟩) p.sigs.length k3 := hS.val 7 (by decide) (hall 7 (by decide))
  have e8 : s 8 = .pointer (some ⟨W1.heap.size, 1, none⟩) := hS.val 8 (by decide) (hall 8 (by decide))
  have e9 : s 9 = .int .i64 r.entry := hS.val 9 (by decide) (hall 9 (by decide))
  have e10 : s 10 = .int .i64 i1 := hS.val 10 (by decide) (hall 10 (by decide))
  have e11 : s 11 = .pointer (some ⟨gb, go + i1 * 3, none⟩) := hS.val 11 (by decide) (hall 11 (by decide))
  have e12 : s 12 = .pointer (some ⟨gb, go + i1 * 3 + 1, none⟩) := hS.val 12 (by decide) (hall 12 (by decide))
  have e13 : s 13 = .int .i64 p.sigs[i1].sec := hS.val 13 (by decide) (hall 13 (by decide))
  have e14 : s 14 = .agg #[.slice q1 r.path.length q3, .slice n1 r.over.length n3, .slice none 0 0, .int .i64 p.sigs[i1].sec] := hS.val 14 (by decide) (hall 14 (by decide))
  obtain ⟨g, eg, hg1, hg2⟩ := hS.done (hall 15 (by decide)) (hall 16 (by decide))
  have hbel := hS.bel
  simp only [e0, e1, e2, e3, e4, e5, e6, e7, e8, e9, e10, e11, e12, e13, e14, eg]
  clear hS hall eg e0 e1 e2 e3 e4 e5 e6 e7 e8 e9 e10 e11 e12 e13 e14
  obtain ⟨V, rfl⟩ : ∃ V : World, V = W9 := ⟨_, rfl⟩
  have KV : Hid (Below W4.heap.size W4 V) := hbel
  have HGV : Hid (V.heap[g]? = some (.cells #[.slice q1 r.path.length q3, .slice n1 r.over.length n3, .slice none 0 0, .int .i64 p.sigs[i1].sec] 184 (0, 0))) := hg2
  have LGV : Hid (W4.heap.size ≤ g) := hg1
  have LGW : Hid (g < V.heap.size) := lt_of_block hg2
  have KB4 : Hid (∀ W, V.grownBy W (some g) → Below W4.heap.size W4 W) := fun W hg => KV.out.grown hg KV.out.size (fun j hj => by cases hj; exact LGV.out)
  have KB0 : Hid (∀ W, V.grownBy W (some g) → Below W0.heap.size W0 W) := fun W hg => K4.out.trans ((KB4.out W hg).mono K4.out.size)
  obtain ⟨lb, lo, rfl, -⟩ := HLA4.out.cell 0 (by have := all_len r; have := HP1.out; omega)
  clear hbel hg1 hg2 pp4 rr1 rr3 rr4 tg0 tg1 tg2
  generalize hLL : allOf r = L at *
  have HLL := Lib.hid hLL
  clear hLL
  go_wp2_with fail
  go_loopg [11] L.length (fun gh i11 wr => ∃ (n m : Nat) (aa : Option Addr) (ca : Nat), n ≤ L.length ∧ gh = L.length - n ∧ i11 = .int .i64 n ∧ m = (AR n).length ∧ V.grownBy wr (some g) ∧ wr.heap[g]? = some (.cells #[.slice q1 r.path.length q3, .slice n1 r.over.length n3, .slice aa m ca, .int .i64 p.sigs[i1].sec] 184 (0, 0)) ∧ AskOwn wr V.heap.size (.slice aa m ca) (AR n))
  case atStart => exact ⟨0, 0, none, 0, by omega, by omega, rfl, by rw [HA0.out]; rfl, ⟨rfl, rfl, rfl, Nat.le_refl _, fun _ _ _ => rfl⟩, HGV.out, by rw [HA0.out]; exact AskOwn.nil _ _⟩
  case round =>
   obtain ⟨n, m0, aa, ca, hn, rfl, rfl, hm0, hgr, hj, hT⟩ := hrel
   obtain ⟨wo, rfl⟩ : ∃ wo : World, wo = wr := ⟨_, rfl⟩
   have HGR := Lib.hid hgr
   have HJ := Lib.hid hj
   have HT := Lib.hid hT
   have KO4 := Lib.hid (KB4.out _ hgr)
   have KO0 := Lib.hid (KB0.out _ hgr)
   have KWO := Lib.hid (KW.out _ KO0.out)
   clear hgr hj hT
   by_cases hlt : n < L.length
   ·have hd1 : decide ((n : Int) < (L.length : Int)) = true := by simp; omega
    obtain ⟨m, hm, hmf, hma⟩ := HATS.out n hlt
    obtain ⟨b', off', hbe, y0⟩ := (HLA4.out.below KO4.out).cell n hlt
    cases hbe
    obtain ⟨sb, so, ea, ec, hsb, v0, v1, v2, -⟩ := (HSE.out _ KWO.out).sec hm
    have bx := BXW.out _ KO0.out
    have HMF := Lib.hid hmf
    have HMAT := Lib.hid hma
    subst hsb
    have e0 : (0 : Int) ≤ (n : Int) := by omega
    have e1 : (n : Int) < (L.length : Int) := by omega
    have e2 : (0 : Int) ≤ (m : Int) := by omega
    have e3 : (m : Int) < (p.secs.length : Int) := by omega
    have pp2 : wo.cell? ⟨w.heap.size, 2, none⟩ = some (.slice (some ⟨sb, so, none⟩) p.secs.length k1) := (cell_of_row wo _ 2 _ _ _ bx).trans rfl
    clear bx hmf hma
    go_upto_region 8 with fail
    refine wp_region_inv' (by kernel_rfl) (by kernel_rfl) (fun f ac W9 => ∃ s : Nat → Value, ac = { tmps := #[.agg #[.int .i64 p.ver, .int .i64 p.par, .slice (some ⟨sb, so, none⟩) p.secs.length k1, .slice a2 p.pts.length k2, .slice (some ⟨gb, go, none⟩) p.sigs.length k3, .slice (some ⟨rb, ro, none⟩) p.rts.length k4], .int .i64 ↑kk, .pointer (some ⟨w.heap.size, 0, none⟩), undef, .pointer (some ⟨w.heap.size + 1, 0, none⟩), .pointer (some ⟨W1.heap.size, 0, none⟩), .slice ia L.length ib, .slice ja L.length jb, .bool true, .slice (some ⟨lb, lo, none⟩) L.length lc, .pointer (some ⟨g, 0, none⟩), .int .i64 ↑n, s 11, u13, undef, .pointer (some ⟨w.heap.size, 5, none⟩), .slice (some ⟨rb, ro, none⟩) p.rts.length k4, .int .i64 ↑kk, .pointer (some ⟨rb, ro + kk * 7, none⟩), .agg #[.int .i64 r.id, .int .i64 r.entry, .int .i64 r.exit, .slice p1 r.path.length p3, .slice o1 r.over.length o3, .slice f1 r.fl.length f3, .int .i64 r.timer], .agg #[.int .i64 r.id, .int .i64 r.entry, .int .i64 r.exit, .slice q1 r.path.length q3, .slice n1 r.over.length n3, .slice m1 r.fl.length m3, .int .i64 r.timer], .tuple #[.slice ia L.length ib, .slice ja L.length jb, .bool true], .agg #[.int .i64 p.ver, .int .i64 p.par, .slice (some ⟨sb, so, none⟩) p.secs.length k1, .slice a2 p.pts.length k2, .slice (some ⟨gb, go, none⟩) p.sigs.length k3, .slice (some ⟨rb, ro, none⟩) p.rts.length k4], .agg #[.int .i64 r.id, .int .i64 r.entry, .int .i64 r.exit, .slice q1 r.path.length q3, .slice n1 r.over.length n3, .slice m1 r.fl.length m3, .int .i64 r.timer], .tuple #[.slice ia L.length ib, .slice ja L.length jb, .bool true], .slice ia L.length ib, .slice ja L.length jb, .bool true, .agg #[.int .i64 r.id, .int .i64 r.entry, .int .i64 r.exit, .slice q1 r.path.length q3, .slice n1 r.over.length n3, .slice m1 r.fl.length m3, .int .i64 r.timer], .slice (some ⟨lb, lo, none⟩) L.length lc, .pointer (some ⟨W1.heap.size, 3, none⟩), .slice q1 r.path.length q3, .pointer (some ⟨W1.heap.size, 4, none⟩), .slice n1 r.over.length n3, .pointer (some ⟨w.heap.size, 4, none⟩), .slice (some ⟨gb, go, none⟩) p.sigs.length k3, .pointer (some ⟨w.heap.size, 4, none⟩), .slice (some ⟨gb, go, none⟩) p.sigs.length k3, .pointer (some ⟨W1.heap.size, 1, none⟩), .int .i64 r.entry, .int .i64 ↑i1, .pointer (some ⟨gb, go + i1 * 3, none⟩), .pointer (some ⟨gb, go + i1 * 3 + 1, none⟩), .int .i64 p.sigs[i1].sec, .agg #[.slice q1 r.path.length q3, .slice n1 r.over.length n3, .slice none 0 0, .int .i64 p.sigs[i1].sec], .int .i64 ↑n, .slice (some ⟨lb, lo, none⟩) L.length lc, .int .i64 ↑L.length, .bool true, u49, u50, s 0, s 1, s 2, s 3, s 4, s 5, s 6, s 7, s 8, s 9, s 10, u62, u63, u64, u65, u66, u67, u68, u69, u70, u71, u72, u73, u74, u75, u76, u77, u78, u79, u80, u81, u82, u83, u84, u85, u86, u87, u88, u89, u90, u91, u92, u93, u94, u95, undef, undef, undef, undef, undef, undef, undef, undef, undef, undef, undef, undef, undef, undef, undef, undef, undef, undef, undef, undef, undef, undef, undef, undef, undef, undef], defers := [] } ∧ RG wo (fun i => match i with | 0 => .pointer (some ⟨w.heap.size, 2, none⟩) | 1 => .slice (some ⟨sb, so, none⟩) p.secs.length k1 | 2 => .pointer (some ⟨w.heap.size, 2, none⟩) | 3 => .slice (some ⟨sb, so, none⟩) p.secs.length k1 | 4 => .slice (some ⟨lb, lo, none⟩) L.length lc | 5 => .int .i64 n | 6 => .pointer (some ⟨lb, lo + n, none⟩) | 7 => .int .i64 L[n] | 8 => .int .i64 m | 9 => .pointer (some ⟨sb, so + m * 3, none⟩) | 10 => .agg #[.int .i64 p.secs[m].id, .int .i64 p.secs[m].pt, .slice ea p.secs[m].ends.length ec] | _ => undef) 11 12 #[.int .i64 0, .int .i64 0, .slice none 0 0] #[.int .i64 p.secs[m].id, .int .i64 p.secs[m].pt, .slice ea p.secs[m].ends.length ec] 80 f s W9) ?_ ?_ ?_
    ·exact ⟨(fun i => match i with | 0 => u51 | 1 => u52 | 2 => u53 | 3 => u54 | 4 => u55 | 5 => u56 | 6 => u57 | 7 => u58 | 8 => u59 | 9 => u60 | 10 => u61 | 11 => u12 | _ => undef), rfl, RG.start ⟨rfl, rfl, rfl, Nat.le_refl _, fun _ _ => rfl⟩⟩
    ·intro i o ho f a W9 hI hd hun
     obtain ⟨s, rfl, hS⟩ := hI
     rcases i with _ | _ | _ | _ | _ | _ | _ | _ | _ | _ | _ | _ | _ | i
     ·have ho2 := ho
      simp at ho2
      subst ho2
      refine wpOp_put (by simp [wpOp, go_sem]; exact .inl ⟨rfl, rfl⟩) ?_
      exact ⟨fun j => if j = 0 then .pointer (some ⟨w.heap.size, 2, none⟩) else s j, rfl, hS.step 0 (by decide) (by decide)⟩
     ·have ho2 := ho
      simp at ho2
      subst ho2
      have e0 : s 0 = .pointer (some ⟨w.heap.size, 2, none⟩) := hS.val 0 (by decide) (hd ⟨0, .data⟩ (by simp) (by rfl))
      have q2 := ccell hS.bel pp2
      refine wpOp_put (by simp [wpOp, go_sem, e0, q2]; exact .inl ⟨rfl, rfl⟩) ?_
      exact ⟨fun j => if j = 1 then .slice (some ⟨sb, so, none⟩) p.secs.length k1 else s j, by simp [e0], hS.step 1 (by decide) (by decide)⟩
     ·have ho2 := ho
      simp at ho2
      subst ho2
      refine wpOp_put (by simp [wpOp, go_sem]; exact .inl ⟨rfl, rfl⟩) ?_
      exact ⟨fun j => if j = 2 then .pointer (some ⟨w.heap.size, 2, none⟩) else s j, rfl, hS.step 2 (by decide) (by decide)⟩
     ·have ho2 := ho
      simp at ho2
      subst ho2
      have e2 : s 2 = .pointer (some ⟨w.heap.size, 2, none⟩) := hS.val 2 (by decide) (hd ⟨2, .data⟩ (by simp) (by rfl))
      have q2 := ccell hS.bel pp2
      refine wpOp_put (by simp [wpOp, go_sem, e2, q2]; exact .inl ⟨rfl, rfl⟩) ?_
      exact ⟨fun j => if j = 3 then .slice (some ⟨sb, so, none⟩) p.secs.length k1 else s j, by simp [e2], hS.step 3 (by decide) (by decide)⟩
     ·have ho2 := ho
      simp at ho2
      subst ho2
      refine wpOp_put (by simp [wpOp, go_sem]; exact .inl ⟨rfl, rfl⟩) ?_
      exact ⟨fun j => if j = 4 then .slice (some ⟨lb, lo, none⟩) L.length lc else s j, rfl, hS.step 4 (by decide) (by decide)⟩
     ·have ho2 := ho
      simp at ho2
      subst ho2
      refine wpOp_put (by simp [wpOp, go_sem]; exact .inl ⟨rfl, rfl⟩) ?_
      exact ⟨fun j => if j = 5 then .int .i64 n else s j, rfl, hS.step 5 (by decide) (by decide)⟩
     ·have ho2 := ho
      simp at ho2
      subst ho2
      have e4 : s 4 = .slice (some ⟨lb, lo, none⟩) L.length lc := hS.val 4 (by decide) (hd ⟨4, .data⟩ (by simp) (by rfl))
      have e5 : s 5 = .int .i64 n := hS.val 5 (by decide) (hd ⟨5, .data⟩ (by simp) (by rfl))
      refine wpOp_put (by simp [wpOp, go_sem, e4, e5, e0, e1]; exact .inl ⟨rfl, rfl⟩) ?_
      exact ⟨fun j => if j = 6 then .pointer (some ⟨lb, lo + n, none⟩) else s j, by simp [e4, e5, e0, e1], hS.step 6 (by decide) (by decide)⟩
     ·have ho2 := ho
      simp at ho2
      subst ho2
      have e6 : s 6 = .pointer (some ⟨lb, lo + n, none⟩) := hS.val 6 (by decide) (hd ⟨6, .data⟩ (by simp) (by rfl))
      have q2 := ccell hS.bel y0
      refine wpOp_put (by simp [wpOp, go_sem, e6, q2]; exact .inl ⟨rfl, rfl⟩) ?_
      exact ⟨fun j => if j = 7 then .int .i64 L[n] else s j, by simp [e6], hS.step 7 (by decide) (by decide)⟩
     ·have ho2 := ho
      simp at ho2
      subst ho2
      have e3 : s 3 = .slice (some ⟨sb, so, none⟩) p.secs.length k1 := hS.val 3 (by decide) (hd ⟨3, .data⟩ (by simp) (by rfl))
      have e7 : s 7 = .int .i64 L[n] := hS.val 7 (by decide) (hd ⟨7, .data⟩ (by simp) (by rfl))
      have hc := ((secAt (some ⟨sb, so, none⟩) k1 p.secs L[n] W9 (HSE.out _ (KWO.out.trans (hS.bel.mono KWO.out.size))) LS.out).mono fun e w' h => (⟨h.1.trans (by rw [HMF.out]), below_same h.2⟩ : e = .returned (.int .i64 m) ∧ Below W9.heap.size W9 w'))
      apply wpOp_putB (R := fun w' => Below W9.heap.size W9 w')
      ·simp [wpOp, go_sem, e3, e7]
       refine .inl (hc.mono ?_)
       rintro e w' ⟨rfl, hb⟩
       simp [go_sem]
       exact ⟨rfl, hb⟩
      ·intro w' hb
       exact ⟨fun j => if j = 8 then .int .i64 m else s j, by simp [e3, e7], (hS.grow hb).step 8 (by decide) (by decide)⟩
     ·have ho2 := ho
      simp at ho2
      subst ho2
      have e1 : s 1 = .slice (some ⟨sb, so, none⟩) p.secs.length k1 := hS.val 1 (by decide) (hd ⟨1, .data⟩ (by simp) (by rfl))
      have e8 : s 8 = .int .i64 m := hS.val 8 (by decide) (hd ⟨8, .data⟩ (by simp) (by rfl))
      refine wpOp_put (by simp [wpOp, go_sem, e1, e8, e2, e3]; exact .inl ⟨rfl, rfl⟩) ?_
      exact ⟨fun j => if j = 9 then .pointer (some ⟨sb, so + m * 3, none⟩) else s j, by simp [e1, e8, e2, e3], hS.step 9 (by decide) (by decide)⟩
     ·have ho2 := ho
      simp at ho2
      subst ho2
      have e9 : s 9 = .pointer (some ⟨sb, so + m * 3, none⟩) := hS.val 9 (by decide) (hd ⟨9, .data⟩ (by simp) (by rfl))
      have q4 := ccell hS.bel v0
      have q5 := ccell hS.bel v1
      have q6 := ccell hS.bel v2
      refine wpOp_put (by simp [wpOp, go_sem, e9, q4, q5, q6]; exact .inl ⟨rfl, rfl⟩) ?_
      exact ⟨fun j => if j = 10 then .agg #[.int .i64 p.secs[m].id, .int .i64 p.secs[m].pt, .slice ea p.secs[m].ends.length ec] else s j, by simp [e9], hS.step 10 (by decide) (by decide)⟩
     ·have ho2 := ho
      simp at ho2
      subst ho2
      refine wpOp_put (by simp [wpOp, go_sem]; exact .inl ⟨rfl, rfl⟩) ?_
      exact ⟨fun j => if j = 11 then .pointer (some ⟨W9.heap.size, 0, none⟩) else s j, rfl, hS.alloc (by decide) hun⟩
     ·have ho2 := ho
      simp at ho2
      subst ho2
      have e10 : s 10 = .agg #[.int .i64 p.secs[m].id, .int .i64 p.secs[m].pt, .slice ea p.secs[m].ends.length ec] := hS.val 10 (by decide) (hd ⟨10, .data⟩ (by simp) (by rfl))
      have ha := hd ⟨11, .data⟩ (by simp) (by rfl)
      obtain ⟨g8, eg, hg1, hg2⟩ := hS.at ha hun
      refine wpOp_store_row ho rfl 80 (.tmp 12) (.tmp 61) rfl g8 #[.int .i64 p.secs[m].id, .int .i64 p.secs[m].pt, .slice ea p.secs[m].ends.length ec] eg e10 80 #[.int .i64 0, .int .i64 0, .slice none 0 0] hg2 rfl rfl (by simp [Value.oneCell']) ?_
      exact ⟨fun j => if j = 12 then undef else s j, rfl, hS.store (by decide) ha eg hg1 hg2⟩
     ·simp at ho
    ·intro f a W9 hI hall
     obtain ⟨s, rfl, hS⟩ := hI
     have e0 : s 0 = .pointer (some ⟨w.heap.size, 2, none⟩) := hS.val 0 (by decide) (hall 0 (by decide))
     have e1 : s 1 = .slice (some ⟨sb, so, none⟩) p.secs.length k1 := hS.val 1 (by decide) (hall 1 (by decide))
     have e2 : s 2 = .pointer (some ⟨w.heap.size, 2, none⟩) := hS.val 2 (by decide) (hall 2 (by decide))
     have e3 : s 3 = .slice (some ⟨sb, so, none⟩) p.secs.length k1 := hS.val 3 (by decide) (hall 3 (by decide))
     have e4 : s 4 = .slice (some ⟨lb, lo, none⟩) L.length lc := hS.val 4 (by decide) (hall 4 (by decide))
     have e5 : s 5 = .int .i64 n := hS.val 5 (by decide) (hall 5 (by decide))
     have e6 : s 6 = .pointer (some ⟨lb, lo + n, none⟩) := hS.val 6 (by decide) (hall 6 (by decide))
     have e7 : s 7 = .int .i64 L[n] := hS.val 7 (by decide) (hall 7 (by decide))
     have e8 : s 8 = .int .i64 m := hS.val 8 (by decide) (hall 8 (by decide))
     have e9 : s 9 = .pointer (some ⟨sb, so + m * 3, none⟩) := hS.val 9 (by decide) (hall 9 (by decide))
     have e10 : s 10 = .agg #[.int .i64 p.secs[m].id, .int .i64 p.secs[m].pt, .slice ea p.secs[m].ends.length ec] := hS.val 10 (by decide) (hall 10 (by decide))
     obtain ⟨g8, eg, hg1, hg2⟩ := hS.done (hall 11 (by decide)) (hall 12 (by decide))
     have hbel := hS.bel
     simp only [e0, e1, e2, e3, e4, e5, e6, e7, e8, e9, e10, eg]
     clear hS hall eg e0 e1 e2 e3 e4 e5 e6 e7 e8 e9 e10
     obtain ⟨V8, rfl⟩ : ∃ V : World, V = W9 := ⟨_, rfl⟩
     subst hm0
     have HT8 : Hid (AskOwn V8 V.heap.size (.slice aa (AR n).length ca) (AR n)) := own_below HT.out hbel
     have HJ8 : Hid (V8.heap[g]? = some (.cells #[.slice q1 r.path.length q3, .slice n1 r.over.length n3, .slice aa (AR n).length ca, .int .i64 p.sigs[i1].sec] 184 (0, 0))) := (hbel.block _ (lt_of_block HJ.out)).trans HJ.out
     have HG8 : Hid (V.grownBy V8 (some g)) := ⟨hbel.os.trans HGR.out.os, hbel.tape.trans HGR.out.tape, hbel.output.trans HGR.out.output, Nat.le_trans HGR.out.size hbel.size, fun i hi hne => (hbel.block i (Nat.lt_of_lt_of_le hi HGR.out.size)).trans (HGR.out.block i hi hne)⟩
     have HS8 : Hid (V8.heap[g8]? = some (.cells #[.int .i64 p.secs[m].id, .int .i64 p.secs[m].pt, .slice ea p.secs[m].ends.length ec] 80 (0, 0))) := hg2
     have HNE : Hid (g8 ≠ g) := by have := lt_of_block HJ.out; show _ ≠ _; omega
     have K84 := Lib.hid (KB4.out _ HG8.out)
     have KW8 := Lib.hid (KW.out _ (KB0.out _ HG8.out))
     have z1 : V8.cell? ⟨g8, 1, none⟩ = some (.int .i64 p.secs[m].pt) := (cell_of_row V8 _ 1 _ _ _ hg2).trans rfl
     have lz := block_lt_of_cell z1
     have HALn := Lib.hid (HAL.out n)
     clear hbel hg1 hg2 y0 pp2 v0 v1 v2 HT HJ HGR KO4 KO0 KWO
     have hIn : n < x.ins.length := by omega
     have hOn : n < x.outs.length := by omega
     have HASK : Hid (AR (n + 1) = AR n ++ (if p.secs[m].pt = 0 then [] else if 0 < (if 0 ≤ x.outs[n] then lieR p.secs[m] x.ins[n] x.outs[n] else x.ins[n]) then [⟨p.secs[m].pt, if 0 ≤ x.outs[n] then lieR p.secs[m] x.ins[n] x.outs[n] else x.ins[n], n⟩] else [])) := by
      show _ = _
      rw [HAK.out, HAA.out, HMAT.out, List.getD_eq_getElem?_getD, List.getD_eq_getElem?_getD, List.getElem?_eq_getElem hIn, List.getElem?_eq_getElem hOn]
      rfl
     by_cases hp0 : p.secs[m].pt = 0
     ·have r1 : (p.secs[m].pt == 0) = true := by simp [hp0]
      have HN : Hid (AR (n + 1) = AR n) := by
       show _ = _
       rw [HASK.out, if_pos hp0, List.append_nil]
      clear hp0 HASK
      go_wp2_with fail
      go_roundg (L.length - (n + 1))
      case measure => go_light; omega
      case rel => go_light; exact ⟨n + 1, _, aa, ca, by omega, by omega, by go_num, rfl, HG8.out, by rw [HN.out]; exact HJ8.out, by rw [HN.out]; exact HT8.out⟩
     ·have r1 : (p.secs[m].pt == 0) = false := by simp [hp0]
      have HP0 := Lib.hid hp0
      clear hp0
      obtain ⟨ub, uo, rfl, ti⟩ := (HIA4.out.below K84.out).cell n hIn
      obtain ⟨wb, wo', rfl, tj⟩ := (HJA4.out.below K84.out).cell n hOn
      have li := block_lt_of_cell ti
      have lj := block_lt_of_cell tj
      have w0i : (0 : Int) ≤ (n : Int) := by omega
      generalize hII : x.ins[n] = II at *
      generalize hOO : x.outs[n] = OO at *
      have hIL : (n : Int) < (L.length : Int) := by omega
      clear hII hOO
      by_cases ho : 0 ≤ OO
      ·have r2 : decide ((0 : Int) ≤ OO) = true := by simp [ho]
       have z0 : V8.cell? ⟨g8, 0, none⟩ = some (.int .i64 p.secs[m].id) := (cell_of_row V8 _ 0 _ _ _ HS8.out).trans rfl
       have z2 : V8.cell? ⟨g8, 2, none⟩ = some (.slice ea p.secs[m].ends.length ec) := (cell_of_row V8 _ 2 _ _ _ HS8.out).trans rfl
       have Z0 := cell_regrown z0
       have Z1 := cell_regrown z1
       have Z2 := cell_regrown z2
       have TI := cell_regrown ti
       have TJ := cell_regrown tj
       have hcc := fun (d : Nat) (os : Array Obj) => Calls.regrown_of (refLie p.secs[m] ea ec II OO (grow (redrawn V8 d) os))
       have HRB : Hid (∀ (d : Nat) (os : Array Obj), Below V8.heap.size V8 (grow (redrawn V8 d) os)) := fun d os => below_regrown V8 d os
       unfold secV at hcc
       have HIF : Hid ((if 0 ≤ OO then lieR p.secs[m] II OO else II) = lieR p.secs[m] II OO) := if_pos ho
       generalize lieR p.secs[m] II OO = LI at *
       have cC := Lib.hid hcc
       clear hcc z0 z2 ho
       go_upto_region 12 with fail
       refine wp_region_quiet_below (by kernel_rfl) (by kernel_rfl) ?_
       repeat (go_big_quiet_step ((with_reducible exact cC.out _ _)))
       refine wpQuiet_nil ?_
       rintro _ ⟨⟨dq, osq⟩, rfl⟩
       have hbn : Below V8.heap.size V8 (grow (redrawn V8 dq) osq) := HRB.out dq osq
       generalize hW12 : grow (redrawn V8 dq) osq = w12 at *
       have HT12 : Hid (AskOwn w12 V.heap.size (.slice aa (AR n).length ca) (AR n)) := own_below HT8.out hbn
       have HJ12 : Hid (w12.heap[g]? = some (.cells #[.slice q1 r.path.length q3, .slice n1 r.over.length n3, .slice aa (AR n).length ca, .int .i64 p.sigs[i1].sec] 184 (0, 0))) := (hbn.block _ (lt_of_block HJ8.out)).trans HJ8.out
       have HG12 : Hid (V.grownBy w12 (some g)) := ⟨hbn.os.trans HG8.out.os, hbn.tape.trans HG8.out.tape, hbn.output.trans HG8.out.output, Nat.le_trans HG8.out.size hbn.size, fun i hi hne => (hbn.block i (Nat.lt_of_lt_of_le hi HG8.out.size)).trans (HG8.out.block i hi hne)⟩
       have HS12 : Hid (w12.heap[g8]? = some (.cells #[.int .i64 p.secs[m].id, .int .i64 p.secs[m].pt, .slice ea p.secs[m].ends.length ec] 80 (0, 0))) := (hbn.block _ (lt_of_block HS8.out)).trans HS8.out
       clear hbn hW12 HRB cC Z0 Z1 Z2 TI TJ HT8 HJ8 HG8 HS8 z1 lz ti tj li lj K84 KW8
       by_cases hv : 0 < LI
       ·have r3 : decide ((0 : Int) < LI) = true := by simp [hv]
        have HN : Hid (AR (n + 1) = AR n ++ [⟨p.secs[m].pt, LI, n⟩]) := by
         show _ = _
         rw [HASK.out, if_neg HP0.out, HIF.out, if_pos hv]
        clear hv HASK HIF
        have s1 : w12.cell? ⟨g8, 1, none⟩ = some (.int .i64 p.secs[m].pt) := (cell_of_row w12 _ 1 _ _ _ HS12.out).trans rfl
        have s2 : w12.cell? ⟨g, 2, none⟩ = some (.slice aa (AR n).length ca) := (cell_of_row w12 _ 2 _ _ _ HJ12.out).trans rfl
        have s3 := block_lt_of_cell s1
        have s4 := block_lt_of_cell s2
        have hml : (AR n).length ≤ 1000 := by have := HALn.out; omega
        have hbs : V.heap.size ≤ w12.heap.size := HG12.out.size
        go_wp2_with (at_builtin; refine wpList_append_one rfl _ _ 182 281 _ _ 3 24 rfl Tryz.underlying182 info281 rfl (by decide) (by decide) V.heap.size (.slice aa (AR n).length ca) (AR n).length _ rfl HT12.out hml hbs [.int .i64 p.secs[m].pt, .int .i64 LI, .int .i64 n] rfl rfl (one3 _ _ _) ?_; intro b9 c9 w9 hown9 hgr9; have hb9 : Below V.heap.size w12 w9 := ((Below.refl _ _).alloc hbs _).trans (grown_below (HT12.out.alloc _) (Nat.le_refl _) (by simp <;> omega) hgr9); have hB9 := (hb9.block _ LGW.out).trans HJ12.out; have hF9 : w9.frozen? ⟨g, 2, none⟩ = false := (by simp [World.frozen?, hB9]); have hC9 : w9.cell? ⟨g, 2, none⟩ = some (.slice aa (AR n).length ca) := (cell_of_row w9 _ 2 _ _ _ hB9).trans rfl; have hL9 := block_lt_of_cell hC9)
        generalize hWN : World.setCell _ _ _ = wn
        have HJN : Hid (wn.heap[g]? = some (.cells #[.slice q1 r.path.length q3, .slice n1 r.over.length n3, .slice (some ⟨b9, 0, none⟩) ((AR n).length + 1) c9, .int .i64 p.sigs[i1].sec] 184 (0, 0))) := by show _ = _; rw [← hWN]; simp [World.setCell, Array.getElem?_modify, hB9]
        have HTN : Hid (AskOwn wn V.heap.size (.slice (some ⟨b9, 0, none⟩) ((AR n).length + 1) c9) (AR (n + 1))) := by
         show AskOwn _ _ _ _
         rw [HN.out, ← hWN]
         exact own_setCell (by simpa [AskOwn, List.flatMap_append, askC] using hown9) LGW.out _
        have HGN : Hid (V.grownBy wn (some g)) := by
         show World.grownBy _ _ _
         rw [← hWN]
         refine ⟨hb9.os.trans HG12.out.os, hb9.tape.trans HG12.out.tape, hb9.output.trans HG12.out.output, by simp [World.setCell]; exact Nat.le_trans HG12.out.size hb9.size, fun i hi hne => ?_⟩
         refine (Below.heap_setCell _ _ _ i (fun e => hne (by rw [e]))).trans ((hb9.block i hi).trans (HG12.out.block i hi hne))
        have HLN : Hid ((AR n).length + 1 = (AR (n + 1)).length) := by show _ = _; rw [HN.out]; simp
        clear hWN hown9 hgr9 hb9 hB9 hF9 hC9 hL9 s1 s2 s3 s4
        go_roundg (L.length - (n + 1))
        case measure => go_light; omega
        case rel => go_light; exact ⟨n + 1, _, some ⟨b9, 0, none⟩, c9, by omega, by omega, by go_num, HLN.out, HGN.out, HJN.out, HTN.out⟩
       ·have r3 : decide ((0 : Int) < LI) = false := by simp; omega
        have HN : Hid (AR (n + 1) = AR n) := by
         show _ = _
         rw [HASK.out, if_neg HP0.out, HIF.out, if_neg hv, List.append_nil]
        clear hv HASK HIF
        go_wp2_with fail
        go_roundg (L.length - (n + 1))
        case measure => go_light; omega
        case rel => go_light; exact ⟨n + 1, _, aa, ca, by omega, by omega, by go_num, rfl, HG12.out, by rw [HN.out]; exact HJ12.out, by rw [HN.out]; exact HT12.out⟩
      ·have r2 : decide ((0 : Int) ≤ OO) = false := by simp; omega
       by_cases hv : 0 < II
       ·have r3 : decide ((0 : Int) < II) = true := by simp [hv]
        have HN : Hid (AR (n + 1) = AR n ++ [⟨p.secs[m].pt, II, n⟩]) := by
         show _ = _
         rw [HASK.out, if_neg HP0.out, if_neg ho, if_pos hv]
        clear ho hv HASK
        have s1 : V8.cell? ⟨g8, 1, none⟩ = some (.int .i64 p.secs[m].pt) := (cell_of_row V8 _ 1 _ _ _ HS8.out).trans rfl
        have s2 : V8.cell? ⟨g, 2, none⟩ = some (.slice aa (AR n).length ca) := (cell_of_row V8 _ 2 _ _ _ HJ8.out).trans rfl
        have s3 := block_lt_of_cell s1
        have s4 := block_lt_of_cell s2
        have hml : (AR n).length ≤ 1000 := by have := HALn.out; omega
        have hbs : V.heap.size ≤ V8.heap.size := HG8.out.size
        go_wp2_with (at_builtin; refine wpList_append_one rfl _ _ 182 281 _ _ 3 24 rfl Tryz.underlying182 info281 rfl (by decide) (by decide) V.heap.size (.slice aa (AR n).length ca) (AR n).length _ rfl HT8.out hml hbs [.int .i64 p.secs[m].pt, .int .i64 II, .int .i64 n] rfl rfl (one3 _ _ _) ?_; intro b9 c9 w9 hown9 hgr9; have hb9 : Below V.heap.size V8 w9 := ((Below.refl _ _).alloc hbs _).trans (grown_below (HT8.out.alloc _) (Nat.le_refl _) (by simp <;> omega) hgr9); have hB9 := (hb9.block _ LGW.out).trans HJ8.out; have hF9 : w9.frozen? ⟨g, 2, none⟩ = false := (by simp [World.frozen?, hB9]); have hC9 : w9.cell? ⟨g, 2, none⟩ = some (.slice aa (AR n).length ca) := (cell_of_row w9 _ 2 _ _ _ hB9).trans rfl; have hL9 := block_lt_of_cell hC9)
        generalize hWN : World.setCell _ _ _ = wn
        have HJN : Hid (wn.heap[g]? = some (.cells #[.slice q1 r.path.length q3, .slice n1 r.over.length n3, .slice (some ⟨b9, 0, none⟩) ((AR n).length + 1) c9, .int .i64 p.sigs[i1].sec] 184 (0, 0))) := by show _ = _; rw [← hWN]; simp [World.setCell, Array.getElem?_modify, hB9]
        have HTN : Hid (AskOwn wn V.heap.size (.slice (some ⟨b9, 0, none⟩) ((AR n).length + 1) c9) (AR (n + 1))) := by
         show AskOwn _ _ _ _
         rw [HN.out, ← hWN]
         exact own_setCell (by simpa [AskOwn, List.flatMap_append, askC] using hown9) LGW.out _
        have HGN : Hid (V.grownBy wn (some g)) := by
         show World.grownBy _ _ _
         rw [← hWN]
         refine ⟨hb9.os.trans HG8.out.os, hb9.tape.trans HG8.out.tape, hb9.output.trans HG8.out.output, by simp [World.setCell]; exact Nat.le_trans HG8.out.size hb9.size, fun i hi hne => ?_⟩
         refine (Below.heap_setCell _ _ _ i (fun e => hne (by rw [e]))).trans ((hb9.block i hi).trans (HG8.out.block i hi hne))
        have HLN : Hid ((AR n).length + 1 = (AR (n + 1)).length) := by show _ = _; rw [HN.out]; simp
        clear hWN hown9 hgr9 hb9 hB9 hF9 hC9 hL9 s1 s2 s3 s4
        go_roundg (L.length - (n + 1))
        case measure => go_light; omega
        case rel => go_light; exact ⟨n + 1, _, some ⟨b9, 0, none⟩, c9, by omega, by omega, by go_num, HLN.out, HGN.out, HJN.out, HTN.out⟩
       ·have r3 : decide ((0 : Int) < II) = false := by simp; omega
        have HN : Hid (AR (n + 1) = AR n) := by
         show _ = _
         rw [HASK.out, if_neg HP0.out, if_neg ho, if_neg hv, List.append_nil]
        clear ho hv HASK
        go_wp2_with fail
        go_roundg (L.length - (n + 1))
        case measure => go_light; omega
        case rel => go_light; exact ⟨n + 1, _, aa, ca, by omega, by omega, by go_num, rfl, HG8.out, by rw [HN.out]; exact HJ8.out, by rw [HN.out]; exact HT8.out⟩
   ·obtain rfl : n = L.length := by omega
    have hd1 : decide ((L.length : Int) < (L.length : Int)) = false := by simp
    subst hm0
    have HALn := Lib.hid (HAL.out L.length)
    have HMA2 : Hid (MA = AR L.length ++ r.fl.map fun f => ⟨f.pt, f.lie, -1⟩) := HMA.out
    clear HMA HAK HAL HA0 HAA HATS HIA4 HJA4
    obtain ⟨fa, fn, hfe, hfl⟩ := HRM4.out.fl
    cases hfe
    have HFL := Lib.hid hfl
    clear hfl
    have hfl9 : r.fl.length ≤ 1000 := by omega
    go_wp2_with fail
    go_loopg [14] r.fl.length (fun gh i14 wr => ∃ (k : Nat) (aa : Option Addr) (ca : Nat) (X : List Ask), k ≤ r.fl.length ∧ gh = r.fl.length - k ∧ i14 = .int .i64 k ∧ X = AR L.length ++ (r.fl.take k).map (fun f => (⟨f.pt, f.lie, -1⟩ : Ask)) ∧ V.grownBy wr (some g) ∧ wr.heap[g]? = some (.cells #[.slice q1 r.path.length q3, .slice n1 r.over.length n3, .slice aa X.length ca, .int .i64 p.sigs[i1].sec] 184 (0, 0)) ∧ AskOwn wr V.heap.size (.slice aa X.length ca) X)
    case atStart => exact ⟨0, aa, ca, AR L.length, by omega, by omega, rfl, by simp, HGR.out, HJ.out, HT.out⟩
    case round =>
     obtain ⟨k, aa, ca, X, hk, rfl, rfl, hXX, hgr, hj, hT⟩ := hrel
     obtain ⟨wo, rfl⟩ : ∃ wo : World, wo = wr := ⟨_, rfl⟩
     have HXX := Lib.hid hXX
     have HG := Lib.hid hgr
     have HJ2 := Lib.hid hj
     have HT2 := Lib.hid hT
     have KO4 := Lib.hid (KB4.out _ hgr)
     have hr := (KO4.out.block _ (lt_of_block HR4.out)).trans HR4.out
     have hXl : X.length ≤ 100 := by rw [hXX, List.length_append, List.length_map, List.length_take]; have := HALn.out; omega
     clear hgr hj hT hXX
     have rr5 : wo.cell? ⟨W1.heap.size, 5, none⟩ = some (.slice m1 r.fl.length m3) := (cell_of_row wo _ 5 _ _ _ hr).trans rfl
     have lr5 := block_lt_of_cell rr5
     clear hr
     by_cases hlt : k < r.fl.length
     ·have hd2 : decide ((k : Int) < (r.fl.length : Int)) = true := by simp; omega
      obtain ⟨fb, fo, hfa, t0, t1⟩ := (HFL.out.below keeps_fl KO4.out).fl hlt
      subst hfa
      have e0 : (0 : Int) ≤ (k : Int) := by omega
      have e1 : (k : Int) < (r.fl.length : Int) := by omega
      have s2 : wo.cell? ⟨g, 2, none⟩ = some (.slice aa X.length ca) := (cell_of_row wo _ 2 _ _ _ HJ2.out).trans rfl
      go_upto_region 18 with fail
      clear t0 t1
      obtain ⟨fb', fo', hfa, t0, t1⟩ := HFL.out.fl hlt
      cases hfa
      have u5 : W4.cell? ⟨W1.heap.size, 5, none⟩ = some (.slice (some ⟨fb, fo, none⟩) r.fl.length m3) := (cell_of_row W4 _ 5 _ _ _ HR4.out).trans rfl
      have HGB : Hid (g < V.heap.size) := LGW.out
      refine wp_region_inv' (by kernel_rfl) (by kernel_rfl) (fun f ac W9 => ∃ s : Nat → Value, ac = { tmps := #[.agg #[.int .i64 p.ver, .int .i64 p.par, .slice a1 p.secs.length k1, .slice a2 p.pts.length k2, .slice (some ⟨gb, go, none⟩) p.sigs.length k3, .slice (some ⟨rb, ro, none⟩) p.rts.length k4], .int .i64 ↑kk, .pointer (some ⟨w.heap.size, 0, none⟩), undef, .pointer (some ⟨w.heap.size + 1, 0, none⟩), .pointer (some ⟨W1.heap.size, 0, none⟩), .slice ia L.length ib, .slice ja L.length jb, .bool true, .slice (some ⟨lb, lo, none⟩) L.length lc, .pointer (some ⟨g, 0, none⟩), .int .i64 ↑L.length, u12, u13, .int .i64 ↑k, .pointer (some ⟨w.heap.size, 5, none⟩), .slice (some ⟨rb, ro, none⟩) p.rts.length k4, .int .i64 ↑kk, .pointer (some ⟨rb, ro + kk * 7, none⟩), .agg #[.int .i64 r.id, .int .i64 r.entry, .int .i64 r.exit, .slice p1 r.path.length p3, .slice o1 r.over.length o3, .slice f1 r.fl.length f3, .int .i64 r.timer], .agg #[.int .i64 r.id, .int .i64 r.entry, .int .i64 r.exit, .slice q1 r.path.length q3, .slice n1 r.over.length n3, .slice (some ⟨fb, fo, none⟩) r.fl.length m3, .int .i64 r.timer], .tuple #[.slice ia L.length ib, .slice ja L.length jb, .bool true], .agg #[.int .i64 p.ver, .int .i64 p.par, .slice a1 p.secs.length k1, .slice a2 p.pts.length k2, .slice (some ⟨gb, go, none⟩) p.sigs.length k3, .slice (some ⟨rb, ro, none⟩) p.rts.length k4], .agg #[.int .i64 r.id, .int .i64 r.entry, .int .i64 r.exit, .slice q1 r.path.length q3, .slice n1 r.over.length n3, .slice (some ⟨fb, fo, none⟩) r.fl.length m3, .int .i64 r.timer], .tuple #[.slice ia L.length ib, .slice ja L.length jb, .bool true], .slice ia L.length ib, .slice ja L.length jb, .bool true, .agg #[.int .i64 r.id, .int .i64 r.entry, .int .i64 r.exit, .slice q1 r.path.length q3, .slice n1 r.over.length n3, .slice (some ⟨fb, fo, none⟩) r.fl.length m3, .int .i64 r.timer], .slice (some ⟨lb, lo, none⟩) L.length lc, .pointer (some ⟨W1.heap.size, 3, none⟩), .slice q1 r.path.length q3, .pointer (some ⟨W1.heap.size, 4, none⟩), .slice n1 r.over.length n3, .pointer (some ⟨w.heap.size, 4, none⟩), .slice (some ⟨gb, go, none⟩) p.sigs.length k3, .pointer (some ⟨w.heap.size, 4, none⟩), .slice (some ⟨gb, go, none⟩) p.sigs.length k3, .pointer (some ⟨W1.heap.size, 1, none⟩), .int .i64 r.entry, .int .i64 ↑i1, .pointer (some ⟨gb, go + i1 * 3, none⟩), .pointer (some ⟨gb, go + i1 * 3 + 1, none⟩), .int .i64 p.sigs[i1].sec, .agg #[.slice q1 r.path.length q3, .slice n1 r.over.length n3, .slice none 0 0, .int .i64 p.sigs[i1].sec], .int .i64 ↑L.length, .slice (some ⟨lb, lo, none⟩) L.length lc, .int .i64 ↑L.length, .bool false, u49, u50, u51, u52, u53, u54, u55, u56, u57, u58, u59, u60, u61, u62, u63, u64, u65, u66, u67, u68, u69, u70, u71, u72, u73, u74, u75, u76, u77, u78, u79, u80, u81, u82, u83, u84, u85, u86, u87, u88, u89, u90, u91, u92, u93, u94, u95, .int .i64 ↑k, .pointer (some ⟨W1.heap.size, 5, none⟩), .slice (some ⟨fb, fo, none⟩) r.fl.length m3, .int .i64 ↑r.fl.length, .bool true, u101, u102, s 0, s 1, s 2, s 3, s 4, s 5, s 6, s 7, s 8, s 9, s 10, s 11, s 12, s 13, s 14, s 15, s 16, s 17, undef], defers := [] } ∧ RA W4 V g (fun row => #[.slice q1 r.path.length q3, .slice n1 r.over.length n3, row, .int .i64 p.sigs[i1].sec]) 184 V.heap.size (.slice aa X.length ca) X ⟨r.fl[k].pt, r.fl[k].lie, -1⟩ 15 16 18 1 (fun i => match i with | 0 => .pointer (some ⟨g, 2, none⟩) | 1 => .slice aa X.length ca | 2 => .pointer (some ⟨W1.heap.size, 5, none⟩) | 3 => .slice (some ⟨fb, fo, none⟩) r.fl.length m3 | 4 => .int .i64 k | 5 => .pointer (some ⟨fb, fo + k * 2, none⟩) | 6 => .pointer (some ⟨fb, fo + k * 2, none⟩) | 7 => .int .i64 r.fl[k].pt | 8 => .pointer (some ⟨W1.heap.size, 5, none⟩) | 9 => .slice (some ⟨fb, fo, none⟩) r.fl.length m3 | 10 => .int .i64 k | 11 => .pointer (some ⟨fb, fo + k * 2, none⟩) | 12 => .pointer (some ⟨fb, fo + k * 2 + 1, none⟩) | 13 => .int .i64 r.fl[k].lie | 14 => .agg #[.int .i64 r.fl[k].pt, .int .i64 r.fl[k].lie, .int .i64 (-1)] | 17 => .pointer (some ⟨g, 2, none⟩) | _ => undef) f s W9) ?_ ?_ ?_
      ·exact ⟨(fun i => match i with | 0 => u103 | 1 => u104 | 2 => u105 | 3 => u106 | 4 => u107 | 5 => u108 | 6 => u109 | 7 => u110 | 8 => u111 | 9 => u112 | 10 => u113 | 11 => u114 | 12 => u115 | 13 => u116 | 14 => u117 | 15 => u118 | 16 => u119 | 17 => u120 | _ => undef), rfl, RA.start ⟨KO4.out.os, KO4.out.tape, KO4.out.output, KO4.out.size, KO4.out.block⟩ ⟨HG.out.os, HG.out.tape, HG.out.output, HG.out.size, HG.out.block⟩ HJ2.out HT2.out⟩
      ·intro i o ho f a W9 hI hd hun
       obtain ⟨s, rfl, hS⟩ := hI
       rcases i with _ | _ | _ | _ | _ | _ | _ | _ | _ | _ | _ | _ | _ | _ | _ | _ | _ | _ | _ | i
       ·have ho2 := ho
        simp at ho2
        subst ho2
        refine wpOp_put (by simp [wpOp, go_sem]; exact .inl ⟨rfl, rfl⟩) ?_
        exact ⟨fun j => if j = 0 then .pointer (some ⟨g, 2, none⟩) else s j, rfl, hS.step 0 (by decide) (by decide) (by decide)⟩
       ·have HSF : f 18 = false := by
         cases kf : f 18 with
         | false => rfl
         | true => exact absurd (hS.o3 (hS.o2 kf)) (by rw [hun]; decide)
        have ho2 := ho
        simp at ho2
        subst ho2
        have ee0 : s 0 = .pointer (some ⟨g, 2, none⟩) := hS.val 0 (by decide) (by decide) (hd ⟨0, .data⟩ (by simp) (by rfl))
        have q2 : W9.cell? ⟨g, 2, none⟩ = some (.slice aa X.length ca) := (cell_of_row W9 _ 2 _ _ _ (hS.jg HSF)).trans rfl
        refine wpOp_put (by simp [wpOp, go_sem, ee0, q2]; exact .inl ⟨rfl, rfl⟩) ?_
        exact ⟨fun j => if j = 1 then .slice aa X.length ca else s j, by simp [ee0], hS.step 1 (by decide) (by decide) (by decide)⟩
       ·have ho2 := ho
        simp at ho2
        subst ho2
        refine wpOp_put (by simp [wpOp, go_sem]; exact .inl ⟨rfl, rfl⟩) ?_
        exact ⟨fun j => if j = 2 then .pointer (some ⟨W1.heap.size, 5, none⟩) else s j, rfl, hS.step 2 (by decide) (by decide) (by decide)⟩
       ·have ho2 := ho
        simp at ho2
        subst ho2
        have ee2 : s 2 = .pointer (some ⟨W1.heap.size, 5, none⟩) := hS.val 2 (by decide) (by decide) (hd ⟨2, .data⟩ (by simp) (by rfl))
        have q2 := ccell hS.bel u5
        refine wpOp_put (by simp [wpOp, go_sem, ee2, q2]; exact .inl ⟨rfl, rfl⟩) ?_
        exact ⟨fun j => if j = 3 then .slice (some ⟨fb, fo, none⟩) r.fl.length m3 else s j, by simp [ee2], hS.step 3 (by decide) (by decide) (by decide)⟩
       ·have ho2 := ho
        simp at ho2
        subst ho2
        refine wpOp_put (by simp [wpOp, go_sem]; exact .inl ⟨rfl, rfl⟩) ?_
        exact ⟨fun j => if j = 4 then .int .i64 k else s j, rfl, hS.step 4 (by decide) (by decide) (by decide)⟩
       ·have ho2 := ho
        simp at ho2
        subst ho2
        have ee3 : s 3 = .slice (some ⟨fb, fo, none⟩) r.fl.length m3 := hS.val 3 (by decide) (by decide) (hd ⟨3, .data⟩ (by simp) (by rfl))
        have ee4 : s 4 = .int .i64 k := hS.val 4 (by decide) (by decide) (hd ⟨4, .data⟩ (by simp) (by rfl))
        refine wpOp_put (by simp [wpOp, go_sem, ee3, ee4, e0, e1]; exact .inl ⟨rfl, rfl⟩) ?_
        exact ⟨fun j => if j = 5 then .pointer (some ⟨fb, fo + k * 2, none⟩) else s j, by simp [ee3, ee4, e0, e1], hS.step 5 (by decide) (by decide) (by decide)⟩
       ·have ho2 := ho
        simp at ho2
        subst ho2
        have ee5 : s 5 = .pointer (some ⟨fb, fo + k * 2, none⟩) := hS.val 5 (by decide) (by decide) (hd ⟨5, .data⟩ (by simp) (by rfl))
        refine wpOp_put (by simp [wpOp, go_sem, ee5]; exact .inl ⟨rfl, rfl⟩) ?_
        exact ⟨fun j => if j = 6 then .pointer (some ⟨fb, fo + k * 2, none⟩) else s j, by simp [ee5], hS.step 6 (by decide) (by decide) (by decide)⟩
       ·have ho2 := ho
        simp at ho2
        subst ho2
        have ee6 : s 6 = .pointer (some ⟨fb, fo + k * 2, none⟩) := hS.val 6 (by decide) (by decide) (hd ⟨6, .data⟩ (by simp) (by rfl))
        have q2 := ccell hS.bel t0
        refine wpOp_put (by simp [wpOp, go_sem, ee6, q2]; exact .inl ⟨rfl, rfl⟩) ?_
        exact ⟨fun j => if j = 7 then .int .i64 r.fl[k].pt else s j, by simp [ee6], hS.step 7 (by decide) (by decide) (by decide)⟩
       ·have ho2 := ho
        simp at ho2
        subst ho2
        refine wpOp_put (by simp [wpOp, go_sem]; exact .inl ⟨rfl, rfl⟩) ?_
        exact ⟨fun j => if j = 8 then .pointer (some ⟨W1.heap.size, 5, none⟩) else s j, rfl, hS.step 8 (by decide) (by decide) (by decide)⟩
       ·have ho2 := ho
        simp at ho2
        subst ho2
        have ee8 : s 8 = .pointer (some ⟨W1.heap.size, 5, none⟩) := hS.val 8 (by decide) (by decide) (hd ⟨8, .data⟩ (by simp) (by rfl))
        have q2 := ccell hS.bel u5
        refine wpOp_put (by simp [wpOp, go_sem, ee8, q2]; exact .inl ⟨rfl, rfl⟩) ?_
        exact ⟨fun j => if j = 9 then .slice (some ⟨fb, fo, none⟩) r.fl.length m3 else s j, by simp [ee8], hS.step 9 (by decide) (by decide) (by decide)⟩
       ·have ho2 := ho
        simp at ho2
        subst ho2
        refine wpOp_put (by simp [wpOp, go_sem]; exact .inl ⟨rfl, rfl⟩) ?_
        exact ⟨fun j => if j = 10 then .int .i64 k else s j, rfl, hS.step 10 (by decide) (by decide) (by decide)⟩
       ·have ho2 := ho
        simp at ho2
        subst ho2
        have ee9 : s 9 = .slice (some ⟨fb, fo, none⟩) r.fl.length m3 := hS.val 9 (by decide) (by decide) (hd ⟨9, .data⟩ (by simp) (by rfl))
        have ee10 : s 10 = .int .i64 k := hS.val 10 (by decide) (by decide) (hd ⟨10, .data⟩ (by simp) (by rfl))
        refine wpOp_put (by simp [wpOp, go_sem, ee9, ee10, e0, e1]; exact .inl ⟨rfl, rfl⟩) ?_
        exact ⟨fun j => if j = 11 then .pointer (some ⟨fb, fo + k * 2, none⟩) else s j, by simp [ee9, ee10, e0, e1], hS.step 11 (by decide) (by decide) (by decide)⟩
       ·have ho2 := ho
        simp at ho2
        subst ho2
        have ee11 : s 11 = .pointer (some ⟨fb, fo + k * 2, none⟩) := hS.val 11 (by decide) (by decide) (hd ⟨11, .data⟩ (by simp) (by rfl))
        refine wpOp_put (by simp [wpOp, go_sem, ee11]; exact .inl ⟨rfl, rfl⟩) ?_
        exact ⟨fun j => if j = 12 then .pointer (some ⟨fb, fo + k * 2 + 1, none⟩) else s j, by simp [ee11], hS.step 12 (by decide) (by decide) (by decide)⟩
       ·have ho2 := ho
        simp at ho2
        subst ho2
        have ee12 : s 12 = .pointer (some ⟨fb, fo + k * 2 + 1, none⟩) := hS.val 12 (by decide) (by decide) (hd ⟨12, .data⟩ (by simp) (by rfl))
        have q2 := ccell hS.bel t1
        refine wpOp_put (by simp [wpOp, go_sem, ee12, q2]; exact .inl ⟨rfl, rfl⟩) ?_
        exact ⟨fun j => if j = 13 then .int .i64 r.fl[k].lie else s j, by simp [ee12], hS.step 13 (by decide) (by decide) (by decide)⟩
       ·have ho2 := ho
        simp at ho2
        subst ho2
        have ee7 : s 7 = .int .i64 r.fl[k].pt := hS.val 7 (by decide) (by decide) (hd ⟨7, .data⟩ (by simp) (by rfl))
        have ee13 : s 13 = .int .i64 r.fl[k].lie := hS.val 13 (by decide) (by decide) (hd ⟨13, .data⟩ (by simp) (by rfl))
        refine wpOp_put (by simp [wpOp, go_sem, ee7, ee13]; exact .inl ⟨rfl, rfl⟩) ?_
        exact ⟨fun j => if j = 14 then .agg #[.int .i64 r.fl[k].pt, .int .i64 r.fl[k].lie, .int .i64 (-1)] else s j, by simp [ee7, ee13], hS.step 14 (by decide) (by decide) (by decide)⟩
       ·have ho2 := ho
        simp at ho2
        subst ho2
        have ee14 : s 14 = .agg #[.int .i64 r.fl[k].pt, .int .i64 r.fl[k].lie, .int .i64 (-1)] := hS.val 14 (by decide) (by decide) (hd ⟨14, .data⟩ (by simp) (by rfl))
        refine wpOp_put (by simp [wpOp, go_sem, ee14, askC]; exact .inl ⟨rfl, rfl⟩) ?_
        exact ⟨fun j => if j = 15 then .slice (some ⟨W9.heap.size, 0, none⟩) 1 1 else s j, by simp [ee14], hS.build (by decide) (by decide) hun⟩
       ·have ho2 := ho
        simp at ho2
        subst ho2
        have ee1 : s 1 = .slice aa X.length ca := hS.val 1 (by decide) (by decide) (hd ⟨1, .data⟩ (by simp) (by rfl))
        obtain ⟨k9, a9, c9, w9, ek, hr9, hS9⟩ := hS.append (by decide) (by decide) (hd ⟨15, .data⟩ (by simp) (by rfl)) hun LGW.out KV.out.size rfl (by omega) (hd ⟨1, .data⟩ (by simp) (by rfl))
        refine wpOp_append_own ho rfl (.tmp 104) (.tmp 118) 182 rfl _ _ _ _ ee1 ek (hr9 _) ?_
        exact ⟨_, rfl, hS9⟩
       ·have ho2 := ho
        simp at ho2
        subst ho2
        refine wpOp_put (by simp [wpOp, go_sem]; exact .inl ⟨rfl, rfl⟩) ?_
        exact ⟨fun j => if j = 17 then .pointer (some ⟨g, 2, none⟩) else s j, rfl, hS.step 17 (by decide) (by decide) (by decide)⟩
       ·have ho2 := ho
        simp at ho2
        subst ho2
        have ee17 : s 17 = .pointer (some ⟨g, 2, none⟩) := hS.val 17 (by decide) (by decide) (hd ⟨17, .data⟩ (by simp) (by rfl))
        have hp := hd ⟨16, .data⟩ (by simp) (by rfl)
        obtain ⟨a9, c9, e9, -⟩ := hS.c hp hun
        have hj9 := hS.jg hun
        have q2 : W9.cell? ⟨g, 2, none⟩ = some (.slice aa X.length ca) := (cell_of_row W9 _ 2 _ _ _ hj9).trans rfl
        have qf : W9.frozen? ⟨g, 2, none⟩ = false := by simp [World.frozen?, hj9]
        have ql := block_lt_of_cell q2
        refine wpOp_put (by simp [wpOp, go_sem, ee17, e9, q2, qf, ql]; exact .inl ⟨rfl, rfl⟩) ?_
        exact ⟨fun j => if j = 18 then undef else s j, by simp [ee17, e9], hS.store (by decide) (by decide) hp hun LGW.out LGV.out e9 (fun r1 r2 => rfl)⟩
       ·simp at ho
      ·intro f a W9 hI hall
       obtain ⟨s, rfl, hS⟩ := hI
       have ee0 : s 0 = .pointer (some ⟨g, 2, none⟩) := hS.val 0 (by decide) (by decide) (hall 0 (by decide))
       have ee1 : s 1 = .slice aa X.length ca := hS.val 1 (by decide) (by decide) (hall 1 (by decide))
       have ee2 : s 2 = .pointer (some ⟨W1.heap.size, 5, none⟩) := hS.val 2 (by decide) (by decide) (hall 2 (by decide))
       have ee3 : s 3 = .slice (some ⟨fb, fo, none⟩) r.fl.length m3 := hS.val 3 (by decide) (by decide) (hall 3 (by decide))
       have ee4 : s 4 = .int .i64 k := hS.val 4 (by decide) (by decide) (hall 4 (by decide))
       have ee5 : s 5 = .pointer (some ⟨fb, fo + k * 2, none⟩) := hS.val 5 (by decide) (by decide) (hall 5 (by decide))
       have ee6 : s 6 = .pointer (some ⟨fb, fo + k * 2, none⟩) := hS.val 6 (by decide) (by decide) (hall 6 (by decide))
       have ee7 : s 7 = .int .i64 r.fl[k].pt := hS.val 7 (by decide) (by decide) (hall 7 (by decide))
       have ee8 : s 8 = .pointer (some ⟨W1.heap.size, 5, none⟩) := hS.val 8 (by decide) (by decide) (hall 8 (by decide))
       have ee9 : s 9 = .slice (some ⟨fb, fo, none⟩) r.fl.length m3 := hS.val 9 (by decide) (by decide) (hall 9 (by decide))
       have ee10 : s 10 = .int .i64 k := hS.val 10 (by decide) (by decide) (hall 10 (by decide))
       have ee11 : s 11 = .pointer (some ⟨fb, fo + k * 2, none⟩) := hS.val 11 (by decide) (by decide) (hall 11 (by decide))
       have ee12 : s 12 = .pointer (some ⟨fb, fo + k * 2 + 1, none⟩) := hS.val 12 (by decide) (by decide) (hall 12 (by decide))
       have ee13 : s 13 = .int .i64 r.fl[k].lie := hS.val 13 (by decide) (by decide) (hall 13 (by decide))
       have ee14 : s 14 = .agg #[.int .i64 r.fl[k].pt, .int .i64 r.fl[k].lie, .int .i64 (-1)] := hS.val 14 (by decide) (by decide) (hall 14 (by decide))
       have ee17 : s 17 = .pointer (some ⟨g, 2, none⟩) := hS.val 17 (by decide) (by decide) (hall 17 (by decide))
       simp only [ee0, ee1, ee2, ee3, ee4, ee5, ee6, ee7, ee8, ee9, ee10, ee11, ee12, ee13, ee14, ee17]
       clear ee0 ee1 ee2 ee3 ee4 ee5 ee6 ee7 ee8 ee9 ee10 ee11 ee12 ee13 ee14 ee17
       obtain ⟨b9, c9, hj9, ht9⟩ := hS.d (hall 18 (by decide))
       have hg9 := hS.gr
       have HJ9 := Lib.hid hj9
       have HT9 : Hid (AskOwn W9 V.heap.size (.slice b9 (X.length + 1) c9) (X ++ [⟨r.fl[k].pt, r.fl[k].lie, -1⟩])) := ht9
       have HG9 := Lib.hid hg9
       have HX9 : Hid (X ++ [⟨r.fl[k].pt, r.fl[k].lie, -1⟩] = AR L.length ++ (r.fl.take (k + 1)).map (fun f => (⟨f.pt, f.lie, -1⟩ : Ask))) := by
        show _ = _
        rw [HXX.out, List.take_succ_eq_append_getElem hlt, List.map_append, List.append_assoc]
        rfl
       clear hj9 ht9 hg9 hS hall t0 t1 u5
       go_wp2_with fail
       go_roundg (r.fl.length - (k + 1))
       case measure => go_light; omega
       case rel => go_light; exact ⟨k + 1, b9, c9, _, by omega, by omega, by go_num, HX9.out, HG9.out, by rw [List.length_append]; exact HJ9.out, by rw [List.length_append]; exact HT9.out⟩
     ·obtain rfl : k = r.fl.length := by omega
      have hd2 : decide ((r.fl.length : Int) < (r.fl.length : Int)) = false := by simp
      have HXM : Hid (X = MA) := by show _ = _; rw [HMA2.out, HXX.out, List.take_length]
      obtain rfl := HXM.out
      have hg2 : wo.heap[g]? = some (.cells #[.slice q1 r.path.length q3, .slice n1 r.over.length n3, .slice aa X.length ca, .int .i64 p.sigs[i1].sec] 184 (0, 0)) := HJ2.out
      have hby := BYW.out _ (KB0.out _ HG.out)
      have ff : ∀ o, wo.frozen? ⟨w.heap.size + 1, o, none⟩ = false := fun o => by simp [World.frozen?, hby]
      have lby := lt_of_block hby
      have lgg := lt_of_block hg2
      obtain ⟨y0, y1, y2, y3⟩ := cells4 (hg2)
      obtain ⟨z0, z1, z2, z3⟩ := cells4 (hby)
      have HWB : Hid (w.heap.size + 1 < V.heap.size) := by have := lt_of_block BX0.out.2; have := KV.out.size; have := K4.out.size; show _ < _; omega
      have HTX := Lib.hid HT2.out
      have HRMO := Lib.hid (HRM4.out.below KO4.out)
      clear hg2 hby HJ2 HT2
      go_wp2_with fail
      generalize hWE : World.setCell _ _ _ = WE
      have e0 : WE.cell? ⟨w.heap.size + 1, 0, none⟩ = some (.slice q1 r.path.length q3) := by rw [← hWE]; simp [go_sem, lby, z0, z1, z2, z3]
      have e1 : WE.cell? ⟨w.heap.size + 1, 1, none⟩ = some (.slice n1 r.over.length n3) := by rw [← hWE]; simp [go_sem, lby, z0, z1, z2, z3]
      have e2 : WE.cell? ⟨w.heap.size + 1, 2, none⟩ = some (.slice aa X.length ca) := by rw [← hWE]; simp [go_sem, lby, z0, z1, z2, z3]
      have e3 : WE.cell? ⟨w.heap.size + 1, 3, none⟩ = some (.int .i64 p.sigs[i1].sec) := by rw [← hWE]; simp [go_sem, lby, z0, z1, z2, z3]
      have KB : Hid (Below w.heap.size w WE) := by show Below _ _ _; rw [← hWE]; exact Below.setCell (Below.setCell (Below.setCell (Below.setCell ((KW.out _ (KB0.out _ HG.out))) (by simp) _) (by simp) _) (by simp) _) (by simp) _
      have HOO : RtOwn wo W0.heap.size (.slice q1 r.path.length q3) (.slice n1 r.over.length n3) (.slice m1 r.fl.length m3) r := by
       have hb := HS12.out _ (K24.out.trans (KO4.out.mono K24.out.size))
       exact ⟨own_below HOWN.out.1 hb, own_below HOWN.out.2.1 hb, own_below HOWN.out.2.2 hb⟩
      have HOE : RtOwn WE W0.heap.size (.slice q1 r.path.length q3) (.slice n1 r.over.length n3) (.slice m1 r.fl.length m3) r := by
       rw [← hWE]
       have hlt : w.heap.size + 1 < W0.heap.size := lt_of_block BX0.out.2
       exact RtOwn.setCell (RtOwn.setCell (RtOwn.setCell (RtOwn.setCell HOO hlt _) hlt _) hlt _) hlt _
      have HQ1 := Lib.hid HOE.1
      have HQ2 := Lib.hid HOE.2.1
      have M3 : Hid (AskOwn WE V.heap.size (.slice aa X.length ca) X) := by show AskOwn _ _ _ _; rw [← hWE]; exact own_setCell (own_setCell (own_setCell (own_setCell (HTX.out) HWB.out _) HWB.out _) HWB.out _) HWB.out _
      refine bodyPost_ret (v := .agg #[.slice q1 r.path.length q3, .slice n1 r.over.length n3, .slice aa X.length ca, .int .i64 p.sigs[i1].sec]) (by simp [results, Tryz.f217, go_sem, e0, e1, e2, e3]) rfl ?_
      exact ⟨q1, q3, n1, n3, aa, ca, rfl, own_base HQ1.out K0.out.size, own_base HQ2.out K0.out.size, own_base M3.out (by have := HWB.out; omega), KB.out⟩
end Go.Proofs.YtbiehpjhhopjaaaGreat
