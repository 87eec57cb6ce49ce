/-
 The ends by which a route goes, as the references have them, walked. (Written by wip/tools/gen_rwg.py.)
-/
import Derived.Test.YtbiehpjhhopjaaaGreatTRwF
import Derived.Test.YtbiehpjhhopjaaaGreatTRwL
set_option linter.unusedVariables false
set_option linter.unusedSimpArgs false
namespace Go.Proofs.YtbiehpjhhopjaaaGreat
open Go.RowKit Go.Sort
def EndsPost (w : World) (RE : Option Rw) (n : Nat) (e : Ending) (w' : World) : Prop :=
 Below w.heap.size w w' ∧ ((RE = none ∧ e = .returned (.tuple #[.slice none 0 0, .slice none 0 0, .bool false])) ∨
  ∃ x a b c d, RE = some x ∧ x.ins.length = n ∧ x.outs.length = n ∧ e = .returned (.tuple #[.slice a n b, .slice c n d, .bool true]) ∧ IL w' a n x.ins ∧ IL w' c n x.outs)
theorem il_of {W : World} {B : Nat} {a : Option Addr} {m c : Nat} {l : List Int} (h : IntOwn W B (.slice a m c) l) (e : l.length = m) : IL W a m l := by
 subst e
 exact IntOwn.il h
theorem rw_none {p : Pl} {r : Rt} {i : Nat} (h : rwTo p r i = none) : ∀ d, rwTo p r (i + d) = none
 | 0 => h
 | d + 1 => by
  show rwTo p r (i + d + 1) = none
  rw [rwTo, rw_none h d]
  rfl
theorem rw_lost {p : Pl} {r : Rt} {i : Nat} (h : rwTo p r i = none) (hi : i ≤ (allOf r).length) : rwEnd p r = none := by
 unfold rwEnd
 have := rw_none h ((allOf r).length - i)
 rw [show i + ((allOf r).length - i) = (allOf r).length by omega] at this
 exact this
theorem begin_at {p : Pl} (h : PlanMay p) {k : Nat} (hk : k < p.rts.length) : ∃ i1, ∃ h1 : i1 < p.sigs.length, ∃ i2, ∃ h2 : i2 < p.secs.length, ∃ q : Nat, ∃ hq : q < p.secs[i2].ends.length,
  fix (fun x => decide (x.id = p.rts[k].entry)) p.sigs = (i1 : Int) ∧ fix (fun x => decide (x.id = p.sigs[i1].sec)) p.secs = (i2 : Int) ∧ p.sigs[i1].en = (q : Int) ∧ wkIn0 p p.rts[k] = p.secs[i2].ends[q] := by
 have hR := (may_rt h hk).1
 obtain ⟨i1, h1, e1⟩ := fixp_of.1 hR.1
 have hs := (may_spots h i1 h1 h1).1
 obtain ⟨i2, h2, e2⟩ := fixp_of.1 (there_one hs.1)
 have hid := fix_id h2 e2
 have hen := hs.2.2
 rw [endsOf_at (may_secs h) h2 p.sigs[i1].sec.toNat (by have := hs.1.1; omega)] at hen
 refine ⟨i1, h1, i2, h2, p.sigs[i1].en.toNat, by have := hs.2.1; omega, e1, e2, by have := hs.2.1; omega, ?_⟩
 have hsg : sgOf p p.rts[k].entry = p.sigs[i1] := by
  unfold sgOf
  rcases fix_cases (fun x : Sg => decide (x.id = p.rts[k].entry)) p.sigs with ⟨e, _⟩ | ⟨m, hm, e, g1, g2⟩
  ·rw [e] at e1; omega
  ·have : m = i1 := by rw [e] at e1; omega
   subst this
   exact (one_some hm g1 g2).1
 unfold wkIn0
 rw [hsg, one_fix h2 e2, List.getD_eq_getElem?_getD, List.getElem?_eq_getElem (by have := hs.2.1; omega)]
 rfl
set_option maxRecDepth 100000 in
set_option maxHeartbeats 16000000 in
theorem refEnds (p : Pl) (s q gg rr : Value) (kk : Nat) (hkk : kk < p.rts.length) (c5 c6 c7 : Value) (w : World) (hp : PlM w s q gg rr p) (hf : p.Fit) (hPM : PlanMay p) (hr0 : RtM w c5 c6 c7 p.rts[kk]) :
  Calls Tryz.prog 216 #[plV p s q gg rr, .agg #[.int .i64 p.rts[kk].id, .int .i64 p.rts[kk].entry, .int .i64 p.rts[kk].exit, c5, c6, c7, .int .i64 p.rts[kk].timer]] w (EndsPost w (rwEnd p p.rts[kk]) (allOf p.rts[kk]).length) := by
 obtain ⟨i1, h1, i2, h2, en, hen, e1, e2, e3, e4⟩ := begin_at hPM hkk
 have hFine := rt_fine hPM hkk
 have hHd := (may_rt hPM hkk).1
 generalize hrr : p.rts[kk] = r at *
 have hr := hr0
 clear hr0
 have hlen : (allOf r).length ≤ 8 := by rw [all_len]; have := hHd.2.2.2.2.1; have := hHd.2.2.2.2.2.1; omega
 have hp1 := hFine.path
 have HALL : Hid (1 ≤ (allOf r).length) := by show _ ≤ _; rw [all_len]; omega
 have hp6 := hHd.2.2.2.2.1
 have HST : Hid (∀ x n, rwTo p r n = some x → n < (allOf r).length → rwTo p r (n + 1) = rwStep p r n x) := fun x n hx hn => by rw [rwTo, hx]; rfl
 have HSS : Hid (∀ n x, rwStep p r n x = if x.j.to ≠ (allOf r).getD n 0 then none else if n + 1 = (allOf r).length ∧ 0 < r.over.length then some ⟨x.ins ++ [x.j.en], x.outs ++ [-1], x.j⟩ else match outAt p r n x.j.en with | none => none | some e => some ⟨x.ins ++ [x.j.en], x.outs ++ [(e : Int)], (atSec p r n).ends.getD e ⟨0, 0⟩⟩) := fun n x => rfl
 have HLOST : Hid (∀ i, i ≤ (allOf r).length → rwTo p r i = none → rwEnd p r = none) := fun i hi h => rw_lost h hi
 have HLEN : Hid (∀ i x, rwTo p r i = some x → x.ins.length = i ∧ x.outs.length = i) := fun i x h => rwTo_len p r i x h
 have HEND : Hid (rwEnd p r = rwTo p r (allOf r).length) := rfl
 have HW0 : Hid (rwTo p r 0 = some ⟨[], [], p.secs[i2].ends[en]⟩) := by show _ = _; rw [rwTo, e4]
 have HATS : Hid (∀ n (hn : n < (allOf r).length), ∃ m, ∃ hm : m < p.secs.length, fix (fun x => decide (x.id = (allOf r)[n])) p.secs = (m : Int) ∧ atSec p r n = p.secs[m] ∧ p.secs[m].ends.length ≤ 3 ∧ isOne Sec.id p.secs (allOf r)[n] = true) := fun n hn => by
  have hs := hFine.shaped n hn
  have hgd : (allOf r).getD n 0 = (allOf r)[n] := by rw [List.getD_eq_getElem?_getD, List.getElem?_eq_getElem hn]; rfl
  have h1' := hs.1
  rw [hgd] at h1'
  obtain ⟨m, hm, e⟩ := fixp_of.1 h1'
  have ha : atSec p r n = p.secs[m] := by unfold atSec; rw [hgd]; exact one_fix hm e
  refine ⟨m, hm, e, ha, ?_, h1'⟩
  have h3 := hs.2.1
  rw [ha] at h3
  rcases h3 with h3 | h3 <;> omega
 have HNX : Hid (∀ n, n < (allOf r).length → ¬ (n + 1 = (allOf r).length ∧ 0 < r.over.length) → n + 1 ≠ r.path.length → n + 1 < (allOf r).length) := fun n hn h1 h2 => by
  have := all_len r
  omega
 have HOU : Hid (∀ n e, outAt p r n e = none → outNum (outAt p r n e) = -1) := fun n e h => by rw [h]; rfl
 have HOS : Hid (∀ n e k, outAt p r n e = some k → outNum (outAt p r n e) = k ∧ k < (atSec p r n).ends.length) := fun n e k h => by
  refine ⟨by rw [h]; rfl, ?_⟩
  unfold outAt at h
  exact List.mem_range.1 (List.mem_of_find?_eq_some h)
 have hrf : r.path.length ≤ 1000 := by omega
 obtain ⟨p1, pn, p3, rfl, ip⟩ := hr.path
 obtain ⟨o1, on, o3, rfl, io⟩ := hr.over
 obtain rfl := ip.len
 obtain rfl := io.len
 obtain ⟨f1, f3, rfl, -⟩ := hr.fl
 have HRM : Hid (∀ W, Below w.heap.size w W → RtM W (.slice p1 r.path.length p3) (.slice o1 r.over.length o3) (.slice f1 r.fl.length f3) r) := fun W hb => hr.below hb
 have HOUT : Hid (∀ W n a la lc, Below w.heap.size w W → IL W la (allOf r).length (allOf r) → n < (allOf r).length → ¬ (n + 1 = (allOf r).length ∧ 0 < r.over.length) → Calls Tryz.prog 313 #[plV p s q gg rr, .agg #[.int .i64 r.id, .int .i64 r.entry, .int .i64 r.exit, .slice p1 r.path.length p3, .slice o1 r.over.length o3, .slice f1 r.fl.length f3, .int .i64 r.timer], .slice la (allOf r).length lc, .int .i64 n, .int .i64 a] W (NumPost W (outNum (outAt p r n a)))) := fun W n a la lc hb hil hn hno => by
  obtain ⟨m, hm, e, ha, h3, h4⟩ := HATS.out n hn
  exact refOut p s q gg rr r _ _ _ la lc n a W (hp.below hb) hf (hr.below hb) hil hn (by omega) h4 (by rw [ha]; exact h3) (fun h => HNX.out n hn hno h) hrf
 have HSC : Hid (∀ W, Below w.heap.size w W → Calls Tryz.prog 312 #[.agg #[.int .i64 r.id, .int .i64 r.entry, .int .i64 r.exit, .slice p1 r.path.length p3, .slice o1 r.over.length o3, .slice f1 r.fl.length f3, .int .i64 r.timer]] W (OwnPost W (allOf r))) := fun W hb => refSections r p1 o1 f1 p3 o3 f3 W (hr.below hb) (by have := all_len r; omega)
 obtain ⟨a1, k1, rfl, g1⟩ := hp.secs
 obtain ⟨a2, k2, rfl, -⟩ := hp.pts
 obtain ⟨a3, k3, rfl, g3⟩ := hp.sigs
 obtain ⟨a4, k4, rfl, -⟩ := hp.rts
 have HSE : Hid (∀ W, Below w.heap.size w W → SlA W 3 RSec a1 k1 p.secs) := fun W hb => g1.below keeps_sec hb
 have HSG : Hid (∀ W, Below w.heap.size w W → SlA W 3 RSg a3 k3 p.sigs) := fun W hb => g3.below keeps_sg hb
 have LS := Lib.hid hf.secs
 have LG := Lib.hid hf.sigs
 have HE1 := Lib.hid e1
 have HE2 := Lib.hid e2
 have HE3 := Lib.hid e3
 clear hp hf hPM hr g1 g3 ip io hFine hHd e1 e2 e3 e4 hrr
 generalize rwTo p r = RT at *
 generalize rwEnd p r = RE at *
 generalize rwStep p r = RS at *
 generalize hLL : allOf r = L at *
 clear hLL
 unfold plV at *
 go_enter Tryz.func216, Tryz.ntmps216
 go_upto_region 1 with fail
 generalize hW0 : World.alloc _ _ = W0
 have K0 : Hid (Below w.heap.size w W0) := by show Below _ _ _; rw [← hW0]; exact ((Below.refl _ _).alloc (Nat.le_refl _) _).alloc (by simp) _
 have BX0 : Hid (W0.heap[w.heap.size]? = some (.cells #[.int .i64 p.ver, .int .i64 p.par, .slice a1 p.secs.length k1, .slice a2 p.pts.length k2, .slice a3 p.sigs.length k3, .slice a4 p.rts.length k4] 28 (0, 0)) ∧ W0.heap[w.heap.size + 1]? = some (.cells #[.int .i64 r.id, .int .i64 r.entry, .int .i64 r.exit, .slice p1 r.path.length p3, .slice o1 r.over.length o3, .slice f1 r.fl.length f3, .int .i64 r.timer] 102 (0, 0))) := by
  show _ ∧ _
  rw [← hW0]
  exact ⟨(heap_alloc_old _ _ (by simp)).trans (heap_alloc_new _ _), heap_alloc2_new _ _ _⟩
 clear hW0
 obtain ⟨sb, so, ea, ec, hea, v0, v1, v2, hens⟩ := (HSE.out _ K0.out).sec h2
 subst hea
 obtain ⟨gb, go, hgb, tq0, tq1, tq2⟩ := (HSG.out _ K0.out).sg h1
 subst hgb
 obtain ⟨eb, eo, rfl, j0, j1⟩ := hens.jn hen
 rw [HE3.out] at tq2
 have BXW : Hid (∀ W, Below W0.heap.size W0 W → W.heap[w.heap.size]? = some (.cells #[.int .i64 p.ver, .int .i64 p.par, .slice (some ⟨sb, so, none⟩) p.secs.length k1, .slice a2 p.pts.length k2, .slice (some ⟨gb, go, none⟩) p.sigs.length k3, .slice a4 p.rts.length k4] 28 (0, 0)) ∧ W.heap[w.heap.size + 1]? = some (.cells #[.int .i64 r.id, .int .i64 r.entry, .int .i64 r.exit, .slice p1 r.path.length p3, .slice o1 r.over.length o3, .slice f1 r.fl.length f3, .int .i64 r.timer] 102 (0, 0))) := fun W hb => ⟨(hb.block _ (lt_of_block BX0.out.1)).trans BX0.out.1, (hb.block _ (lt_of_block BX0.out.2)).trans BX0.out.2⟩
 have KW : Hid (∀ W, Below W0.heap.size W0 W → Below w.heap.size w W) := fun W hb => K0.out.trans (hb.mono K0.out.size)
 have c0 : (0 : Int) ≤ (i1 : Int) := by omega
 have c1 : (i1 : Int) < (p.sigs.length : Int) := by omega
 have d0 : (0 : Int) ≤ (i2 : Int) := by omega
 have d1 : (i2 : Int) < (p.secs.length : Int) := by omega
 have g0 : (0 : Int) ≤ (en : Int) := by omega
 have g1 : (en : Int) < (p.secs[i2].ends.length : Int) := by omega
 have pp2 : W0.cell? ⟨w.heap.size, 2, none⟩ = some (.slice (some ⟨sb, so, none⟩) p.secs.length k1) := (cell_of_row W0 _ 2 _ _ _ (BX0.out).1).trans rfl
 have pp4 : W0.cell? ⟨w.heap.size, 4, none⟩ = some (.slice (some ⟨gb, go, none⟩) p.sigs.length k3) := (cell_of_row W0 _ 4 _ _ _ (BX0.out).1).trans rfl
 have rr1 : W0.cell? ⟨w.heap.size + 1, 1, none⟩ = some (.int .i64 r.entry) := (cell_of_row W0 _ 1 _ _ _ (BX0.out).2).trans rfl
 refine wp_region_inv' (by kernel_rfl) (by kernel_rfl) (fun f ac W9 => ∃ s : Nat → Value, ac = { tmps := #[.agg #[.int .i64 p.ver, .int .i64 p.par, .slice (some ⟨sb, so, none⟩) p.secs.length k1, .slice a2 p.pts.length k2, .slice (some ⟨gb, go, none⟩) p.sigs.length k3, .slice a4 p.rts.length k4], .agg #[.int .i64 r.id, .int .i64 r.entry, .int .i64 r.exit, .slice p1 r.path.length p3, .slice o1 r.over.length o3, .slice f1 r.fl.length f3, .int .i64 r.timer], .pointer (some ⟨w.heap.size, 0, none⟩), .pointer (some ⟨w.heap.size + 1, 0, none⟩), .slice none 0 0, .slice none 0 0, .bool false, s 9, undef, undef, undef, undef, undef, undef, s 0, s 1, s 2, s 3, s 4, s 5, s 6, s 7, s 8, undef, undef, undef, undef, undef, undef, undef, undef, undef, undef, undef, undef, undef, undef, undef, undef, undef, undef, undef, undef, undef, undef, undef, undef, undef, undef, undef, undef, undef, undef, undef, undef, undef, undef, undef, undef, undef, undef, undef, undef, undef, undef, undef, undef, undef, undef, undef, undef, undef, undef, undef, undef, undef, undef, undef, undef, undef, undef, undef, undef, undef, undef, undef, undef, undef, undef, undef, undef, undef, undef, undef, undef, undef, undef, undef, undef, undef, undef, undef], defers := [] } ∧ RG W0 (fun i => match i with | 0 => .pointer (some ⟨w.heap.size, 4, none⟩) | 1 => .slice (some ⟨gb, go, none⟩) p.sigs.length k3 | 2 => .pointer (some ⟨w.heap.size, 4, none⟩) | 3 => .slice (some ⟨gb, go, none⟩) p.sigs.length k3 | 4 => .pointer (some ⟨w.heap.size + 1, 1, none⟩) | 5 => .int .i64 r.entry | 6 => .int .i64 i1 | 7 => .pointer (some ⟨gb, go + i1 * 3, none⟩) | 8 => .agg #[.int .i64 p.sigs[i1].id, .int .i64 p.sigs[i1].sec, .int .i64 en] | _ => undef) 9 10 #[.int .i64 0, .int .i64 0, .int .i64 0] #[.int .i64 p.sigs[i1].id, .int .i64 p.sigs[i1].sec, .int .i64 en] 145 f s W9) ?_ ?_ ?_
 ·exact ⟨(fun i => match i with | 0 => undef | 1 => undef | 2 => undef | 3 => undef | 4 => undef | 5 => undef | 6 => undef | 7 => undef | 8 => undef | 9 => undef | _ => undef), rfl, RG.start ⟨rfl, rfl, rfl, Nat.le_refl _, fun _ _ => rfl⟩⟩
 ·intro i o ho f a W9 hI hd hun
  obtain ⟨s, rfl, hS⟩ := hI
  rcases i with _ | _ | _ | _ | _ | _ | _ | _ | _ | _ | _ | i
  ·have ho2 := ho
   simp at ho2
   subst ho2
   refine wpOp_put (by simp [wpOp, go_sem]; exact .inl ⟨rfl, rfl⟩) ?_
   exact ⟨fun j => if j = 0 then .pointer (some ⟨w.heap.size, 4, none⟩) else s j, rfl, hS.step 0 (by decide) (by decide)⟩
  ·have ho2 := ho
   simp at ho2
   subst ho2
   have e0 : s 0 = .pointer (some ⟨w.heap.size, 4, none⟩) := hS.val 0 (by decide) (hd ⟨0, .data⟩ (by simp) (by rfl))
   have q2 := ccell hS.bel pp4
   refine wpOp_put (by simp [wpOp, go_sem, e0, q2]; exact .inl ⟨rfl, rfl⟩) ?_
   exact ⟨fun j => if j = 1 then .slice (some ⟨gb, go, none⟩) p.sigs.length k3 else s j, by simp [e0], hS.step 1 (by decide) (by decide)⟩
  ·have ho2 := ho
   simp at ho2
   subst ho2
   refine wpOp_put (by simp [wpOp, go_sem]; exact .inl ⟨rfl, rfl⟩) ?_
   exact ⟨fun j => if j = 2 then .pointer (some ⟨w.heap.size, 4, none⟩) else s j, rfl, hS.step 2 (by decide) (by decide)⟩
  ·have ho2 := ho
   simp at ho2
   subst ho2
   have e2 : s 2 = .pointer (some ⟨w.heap.size, 4, none⟩) := hS.val 2 (by decide) (hd ⟨2, .data⟩ (by simp) (by rfl))
   have q2 := ccell hS.bel pp4
   refine wpOp_put (by simp [wpOp, go_sem, e2, q2]; exact .inl ⟨rfl, rfl⟩) ?_
   exact ⟨fun j => if j = 3 then .slice (some ⟨gb, go, none⟩) p.sigs.length k3 else s j, by simp [e2], hS.step 3 (by decide) (by decide)⟩
  ·have ho2 := ho
   simp at ho2
   subst ho2
   refine wpOp_put (by simp [wpOp, go_sem]; exact .inl ⟨rfl, rfl⟩) ?_
   exact ⟨fun j => if j = 4 then .pointer (some ⟨w.heap.size + 1, 1, none⟩) else s j, rfl, hS.step 4 (by decide) (by decide)⟩
  ·have ho2 := ho
   simp at ho2
   subst ho2
   have e4 : s 4 = .pointer (some ⟨w.heap.size + 1, 1, none⟩) := hS.val 4 (by decide) (hd ⟨4, .data⟩ (by simp) (by rfl))
   have q2 := ccell hS.bel rr1
   refine wpOp_put (by simp [wpOp, go_sem, e4, q2]; exact .inl ⟨rfl, rfl⟩) ?_
   exact ⟨fun j => if j = 5 then .int .i64 r.entry else s j, by simp [e4], hS.step 5 (by decide) (by decide)⟩
  ·have ho2 := ho
   simp at ho2
   subst ho2
   have e3 : s 3 = .slice (some ⟨gb, go, none⟩) p.sigs.length k3 := hS.val 3 (by decide) (hd ⟨3, .data⟩ (by simp) (by rfl))
   have e5 : s 5 = .int .i64 r.entry := hS.val 5 (by decide) (hd ⟨5, .data⟩ (by simp) (by rfl))
   have hc := ((sgAt (some ⟨gb, go, none⟩) k3 p.sigs r.entry W9 (HSG.out _ (KW.out _ hS.bel)) LG.out).mono fun e w' h => (⟨h.1.trans (by rw [HE1.out]), below_same h.2⟩ : e = .returned (.int .i64 i1) ∧ Below W9.heap.size W9 w'))
   apply wpOp_putB (R := fun w' => Below W9.heap.size W9 w')
   ·simp [wpOp, go_sem, e3, e5]
    refine .inl (hc.mono ?_)
    rintro e w' ⟨rfl, hb⟩
    simp [go_sem]
    exact ⟨rfl, hb⟩
   ·intro w' hb
    exact ⟨fun j => if j = 6 then .int .i64 i1 else s j, by simp [e3, e5], (hS.grow hb).step 6 (by decide) (by decide)⟩
  ·have ho2 := ho
   simp at ho2
   subst ho2
   have e1 : s 1 = .slice (some ⟨gb, go, none⟩) p.sigs.length k3 := hS.val 1 (by decide) (hd ⟨1, .data⟩ (by simp) (by rfl))
   have e6 : s 6 = .int .i64 i1 := hS.val 6 (by decide) (hd ⟨6, .data⟩ (by simp) (by rfl))
   refine wpOp_put (by simp [wpOp, go_sem, e1, e6, c0, c1]; exact .inl ⟨rfl, rfl⟩) ?_
   exact ⟨fun j => if j = 7 then .pointer (some ⟨gb, go + i1 * 3, none⟩) else s j, by simp [e1, e6], hS.step 7 (by decide) (by decide)⟩
  ·have ho2 := ho
   simp at ho2
   subst ho2
   have e7 : s 7 = .pointer (some ⟨gb, go + i1 * 3, none⟩) := hS.val 7 (by decide) (hd ⟨7, .data⟩ (by simp) (by rfl))
   have q4 := ccell hS.bel tq0
   have q5 := ccell hS.bel tq1
   have q6 := ccell hS.bel tq2
   refine wpOp_put (by simp [wpOp, go_sem, e7, q4, q5, q6]; exact .inl ⟨rfl, rfl⟩) ?_
   exact ⟨fun j => if j = 8 then .agg #[.int .i64 p.sigs[i1].id, .int .i64 p.sigs[i1].sec, .int .i64 en] else s j, by simp [e7], hS.step 8 (by decide) (by decide)⟩
  ·have ho2 := ho
   simp at ho2
   subst ho2
   refine wpOp_put (by simp [wpOp, go_sem]; exact .inl ⟨rfl, rfl⟩) ?_
   exact ⟨fun j => if j = 9 then .pointer (some ⟨W9.heap.size, 0, none⟩) else s j, rfl, hS.alloc (by decide) hun⟩
  ·have ho2 := ho
   simp at ho2
   subst ho2
   have e8 : s 8 = .agg #[.int .i64 p.sigs[i1].id, .int .i64 p.sigs[i1].sec, .int .i64 en] := hS.val 8 (by decide) (hd ⟨8, .data⟩ (by simp) (by rfl))
   have ha := hd ⟨9, .data⟩ (by simp) (by rfl)
   obtain ⟨g, eg, hg1, hg2⟩ := hS.at ha hun
   refine wpOp_store_row ho rfl 145 (.tmp 7) (.tmp 22) rfl g #[.int .i64 p.sigs[i1].id, .int .i64 p.sigs[i1].sec, .int .i64 en] eg e8 145 #[.int .i64 0, .int .i64 0, .int .i64 0] hg2 rfl rfl (by simp [Value.oneCell']) ?_
   exact ⟨fun j => if j = 10 then undef else s j, rfl, hS.store (by decide) ha eg hg1 hg2⟩
  ·simp at ho
 ·intro f a W9 hI hall
  obtain ⟨s, rfl, hS⟩ := hI
  have e0 : s 0 = .pointer (some ⟨w.heap.size, 4, none⟩) := hS.val 0 (by decide) (hall 0 (by decide))
  have e1 : s 1 = .slice (some ⟨gb, go, none⟩) p.sigs.length k3 := hS.val 1 (by decide) (hall 1 (by decide))
  have e2 : s 2 = .pointer (some ⟨w.heap.size, 4, none⟩) := hS.val 2 (by decide) (hall 2 (by decide))
  have e3 : s 3 = .slice (some ⟨gb, go, none⟩) p.sigs.length k3 := hS.val 3 (by decide) (hall 3 (by decide))
  have e4 : s 4 = .pointer (some ⟨w.heap.size + 1, 1, none⟩) := hS.val 4 (by decide) (hall 4 (by decide))
  have e5 : s 5 = .int .i64 r.entry := hS.val 5 (by decide) (hall 5 (by decide))
  have e6 : s 6 = .int .i64 i1 := hS.val 6 (by decide) (hall 6 (by decide))
  have e7 : s 7 = .pointer (some ⟨gb, go + i1 * 3, none⟩) := hS.val 7 (by decide) (hall 7 (by decide))
  have e8 : s 8 = .agg #[.int .i64 p.sigs[i1].id, .int .i64 p.sigs[i1].sec, .int .i64 en] := hS.val 8 (by decide) (hall 8 (by decide))
  obtain ⟨g, eg, hg1, hg2⟩ := hS.done (hall 9 (by decide)) (hall 10 (by decide))
  have hbel := hS.bel
  simp only [e0, e1, e2, e3, e4, e5, e6, e7, e8, eg]
  clear hS hall eg e0 e1 e2 e3 e4 e5 e6 e7 e8
  obtain ⟨V1, rfl⟩ : ∃ V : World, V = W9 := ⟨_, rfl⟩
  have KV1 : Hid (Below W0.heap.size W0 V1) := hbel
  have HG1 : Hid (V1.heap[g]? = some (.cells #[.int .i64 p.sigs[i1].id, .int .i64 p.sigs[i1].sec, .int .i64 en] 145 (0, 0))) := hg2
  have LG1 : Hid (W0.heap.size ≤ g) := hg1
  have y1 : V1.cell? ⟨g, 1, none⟩ = some (.int .i64 p.sigs[i1].sec) := (cell_of_row V1 _ 1 _ _ _ hg2).trans rfl
  have y2 : V1.cell? ⟨g, 2, none⟩ = some (.int .i64 en) := (cell_of_row V1 _ 2 _ _ _ hg2).trans rfl
  replace pp2 := ccell hbel pp2
  replace v0 := ccell hbel v0
  replace v1 := ccell hbel v1
  replace v2 := ccell hbel v2
  replace j0 := ccell hbel j0
  replace j1 := ccell hbel j1
  clear hbel hg1 hg2 pp4 rr1 tq0 tq1 tq2
  go_upto_region 2 with fail
  refine wp_region_inv' (by kernel_rfl) (by kernel_rfl) (fun f ac W9 => ∃ s : Nat → Value, ac = { tmps := #[.agg #[.int .i64 p.ver, .int .i64 p.par, .slice (some ⟨sb, so, none⟩) p.secs.length k1, .slice a2 p.pts.length k2, .slice (some ⟨gb, go, none⟩) p.sigs.length k3, .slice a4 p.rts.length k4], .agg #[.int .i64 r.id, .int .i64 r.entry, .int .i64 r.exit, .slice p1 r.path.length p3, .slice o1 r.over.length o3, .slice f1 r.fl.length f3, .int .i64 r.timer], .pointer (some ⟨w.heap.size, 0, none⟩), .pointer (some ⟨w.heap.size + 1, 0, none⟩), .slice none 0 0, .slice none 0 0, .bool false, .pointer (some ⟨g, 0, none⟩), s 14, undef, undef, undef, undef, undef, .pointer (some ⟨w.heap.size, 4, none⟩), .slice (some ⟨gb, go, none⟩) p.sigs.length k3, .pointer (some ⟨w.heap.size, 4, none⟩), .slice (some ⟨gb, go, none⟩) p.sigs.length k3, .pointer (some ⟨w.heap.size + 1, 1, none⟩), .int .i64 r.entry, .int .i64 i1, .pointer (some ⟨gb, go + i1 * 3, none⟩), .agg #[.int .i64 p.sigs[i1].id, .int .i64 p.sigs[i1].sec, .int .i64 en], s 0, s 1, s 2, s 3, s 4, s 5, s 6, s 7, s 8, s 9, s 10, s 11, s 12, s 13, undef, undef, undef, undef, undef, undef, undef, undef, undef, undef, undef, undef, undef, undef, undef, undef, undef, undef, undef, undef, undef, undef, undef, undef, undef, undef, undef, undef, undef, undef, undef, undef, undef, undef, undef, undef, undef, undef, undef, undef, undef, undef, undef, undef, undef, undef, undef, undef, undef, undef, undef, undef, undef, undef, undef, undef, undef, undef, undef, undef, undef, undef, undef, undef, undef], defers := [] } ∧ RG V1 (fun i => match i with | 0 => .pointer (some ⟨w.heap.size, 2, none⟩) | 1 => .slice (some ⟨sb, so, none⟩) p.secs.length k1 | 2 => .pointer (some ⟨w.heap.size, 2, none⟩) | 3 => .slice (some ⟨sb, so, none⟩) p.secs.length k1 | 4 => .pointer (some ⟨g, 1, none⟩) | 5 => .int .i64 p.sigs[i1].sec | 6 => .int .i64 i2 | 7 => .pointer (some ⟨sb, so + i2 * 3, none⟩) | 8 => .pointer (some ⟨sb, so + i2 * 3 + 2, none⟩) | 9 => .slice (some ⟨eb, eo, none⟩) p.secs[i2].ends.length ec | 10 => .pointer (some ⟨g, 2, none⟩) | 11 => .int .i64 en | 12 => .pointer (some ⟨eb, eo + en * 2, none⟩) | 13 => .agg #[.int .i64 p.secs[i2].ends[en].to, .int .i64 p.secs[i2].ends[en].en] | _ => undef) 14 15 #[.int .i64 0, .int .i64 0] #[.int .i64 p.secs[i2].ends[en].to, .int .i64 p.secs[i2].ends[en].en] 133 f s W9) ?_ ?_ ?_
  ·exact ⟨(fun i => match i with | 0 => undef | 1 => undef | 2 => undef | 3 => undef | 4 => undef | 5 => undef | 6 => undef | 7 => undef | 8 => undef | 9 => undef | 10 => undef | 11 => undef | 12 => undef | 13 => undef | 14 => undef | _ => undef), rfl, RG.start ⟨rfl, rfl, rfl, Nat.le_refl _, fun _ _ => rfl⟩⟩
  ·intro i o ho f a W9 hI hd hun
   obtain ⟨s, rfl, hS⟩ := hI
   rcases i with _ | _ | _ | _ | _ | _ | _ | _ | _ | _ | _ | _ | _ | _ | _ | _ | i
   ·have ho2 := ho
    simp at ho2
    subst ho2
    refine wpOp_put (by simp [wpOp, go_sem]; exact .inl ⟨rfl, rfl⟩) ?_
    exact ⟨fun j => if j = 0 then .pointer (some ⟨w.heap.size, 2, none⟩) else s j, rfl, hS.step 0 (by decide) (by decide)⟩
   ·have ho2 := ho
    simp at ho2
    subst ho2
    have e0 : s 0 = .pointer (some ⟨w.heap.size, 2, none⟩) := hS.val 0 (by decide) (hd ⟨0, .data⟩ (by simp) (by rfl))
    have q2 := ccell hS.bel pp2
    refine wpOp_put (by simp [wpOp, go_sem, e0, q2]; exact .inl ⟨rfl, rfl⟩) ?_
    exact ⟨fun j => if j = 1 then .slice (some ⟨sb, so, none⟩) p.secs.length k1 else s j, by simp [e0], hS.step 1 (by decide) (by decide)⟩
   ·have ho2 := ho
    simp at ho2
    subst ho2
    refine wpOp_put (by simp [wpOp, go_sem]; exact .inl ⟨rfl, rfl⟩) ?_
    exact ⟨fun j => if j = 2 then .pointer (some ⟨w.heap.size, 2, none⟩) else s j, rfl, hS.step 2 (by decide) (by decide)⟩
   ·have ho2 := ho
    simp at ho2
    subst ho2
    have e2 : s 2 = .pointer (some ⟨w.heap.size, 2, none⟩) := hS.val 2 (by decide) (hd ⟨2, .data⟩ (by simp) (by rfl))
    have q2 := ccell hS.bel pp2
    refine wpOp_put (by simp [wpOp, go_sem, e2, q2]; exact .inl ⟨rfl, rfl⟩) ?_
    exact ⟨fun j => if j = 3 then .slice (some ⟨sb, so, none⟩) p.secs.length k1 else s j, by simp [e2], hS.step 3 (by decide) (by decide)⟩
   ·have ho2 := ho
    simp at ho2
    subst ho2
    refine wpOp_put (by simp [wpOp, go_sem]; exact .inl ⟨rfl, rfl⟩) ?_
    exact ⟨fun j => if j = 4 then .pointer (some ⟨g, 1, none⟩) else s j, rfl, hS.step 4 (by decide) (by decide)⟩
   ·have ho2 := ho
    simp at ho2
    subst ho2
    have e4 : s 4 = .pointer (some ⟨g, 1, none⟩) := hS.val 4 (by decide) (hd ⟨4, .data⟩ (by simp) (by rfl))
    have q2 := ccell hS.bel y1
    refine wpOp_put (by simp [wpOp, go_sem, e4, q2]; exact .inl ⟨rfl, rfl⟩) ?_
    exact ⟨fun j => if j = 5 then .int .i64 p.sigs[i1].sec else s j, by simp [e4], hS.step 5 (by decide) (by decide)⟩
   ·have ho2 := ho
    simp at ho2
    subst ho2
    have e3 : s 3 = .slice (some ⟨sb, so, none⟩) p.secs.length k1 := hS.val 3 (by decide) (hd ⟨3, .data⟩ (by simp) (by rfl))
    have e5 : s 5 = .int .i64 p.sigs[i1].sec := hS.val 5 (by decide) (hd ⟨5, .data⟩ (by simp) (by rfl))
    have hc := ((secAt (some ⟨sb, so, none⟩) k1 p.secs p.sigs[i1].sec W9 (HSE.out _ (KW.out _ (KV1.out.trans (hS.bel.mono KV1.out.size)))) LS.out).mono fun e w' h => (⟨h.1.trans (by rw [HE2.out]), below_same h.2⟩ : e = .returned (.int .i64 i2) ∧ Below W9.heap.size W9 w'))
    apply wpOp_putB (R := fun w' => Below W9.heap.size W9 w')
    ·simp [wpOp, go_sem, e3, e5]
     refine .inl (hc.mono ?_)
     rintro e w' ⟨rfl, hb⟩
     simp [go_sem]
     exact ⟨rfl, hb⟩
    ·intro w' hb
     exact ⟨fun j => if j = 6 then .int .i64 i2 else s j, by simp [e3, e5], (hS.grow hb).step 6 (by decide) (by decide)⟩
   ·have ho2 := ho
    simp at ho2
    subst ho2
    have e1 : s 1 = .slice (some ⟨sb, so, none⟩) p.secs.length k1 := hS.val 1 (by decide) (hd ⟨1, .data⟩ (by simp) (by rfl))
    have e6 : s 6 = .int .i64 i2 := hS.val 6 (by decide) (hd ⟨6, .data⟩ (by simp) (by rfl))
    refine wpOp_put (by simp [wpOp, go_sem, e1, e6, d0, d1]; exact .inl ⟨rfl, rfl⟩) ?_
    exact ⟨fun j => if j = 7 then .pointer (some ⟨sb, so + i2 * 3, none⟩) else s j, by simp [e1, e6], hS.step 7 (by decide) (by decide)⟩
   ·have ho2 := ho
    simp at ho2
    subst ho2
    have e7 : s 7 = .pointer (some ⟨sb, so + i2 * 3, none⟩) := hS.val 7 (by decide) (hd ⟨7, .data⟩ (by simp) (by rfl))
    refine wpOp_put (by simp [wpOp, go_sem, e7]; exact .inl ⟨rfl, rfl⟩) ?_
    exact ⟨fun j => if j = 8 then .pointer (some ⟨sb, so + i2 * 3 + 2, none⟩) else s j, by simp [e7], hS.step 8 (by decide) (by decide)⟩
   ·have ho2 := ho
    simp at ho2
    subst ho2
    have e8 : s 8 = .pointer (some ⟨sb, so + i2 * 3 + 2, none⟩) := hS.val 8 (by decide) (hd ⟨8, .data⟩ (by simp) (by rfl))
    have q4 := ccell hS.bel v2
    refine wpOp_put (by simp [wpOp, go_sem, e8, q4]; exact .inl ⟨rfl, rfl⟩) ?_
    exact ⟨fun j => if j = 9 then .slice (some ⟨eb, eo, none⟩) p.secs[i2].ends.length ec else s j, by simp [e8], hS.step 9 (by decide) (by decide)⟩
   ·have ho2 := ho
    simp at ho2
    subst ho2
    refine wpOp_put (by simp [wpOp, go_sem]; exact .inl ⟨rfl, rfl⟩) ?_
    exact ⟨fun j => if j = 10 then .pointer (some ⟨g, 2, none⟩) else s j, rfl, hS.step 10 (by decide) (by decide)⟩
   ·have ho2 := ho
    simp at ho2
    subst ho2
    have e10 : s 10 = .pointer (some ⟨g, 2, none⟩) := hS.val 10 (by decide) (hd ⟨10, .data⟩ (by simp) (by rfl))
    have q2 := ccell hS.bel y2
    refine wpOp_put (by simp [wpOp, go_sem, e10, q2]; exact .inl ⟨rfl, rfl⟩) ?_
    exact ⟨fun j => if j = 11 then .int .i64 en else s j, by simp [e10], hS.step 11 (by decide) (by decide)⟩
   ·have ho2 := ho
    simp at ho2
    subst ho2
    have e9 : s 9 = .slice (some ⟨eb, eo, none⟩) p.secs[i2].ends.length ec := hS.val 9 (by decide) (hd ⟨9, .data⟩ (by simp) (by rfl))
    have e11 : s 11 = .int .i64 en := hS.val 11 (by decide) (hd ⟨11, .data⟩ (by simp) (by rfl))
    refine wpOp_put (by simp [wpOp, go_sem, e9, e11, g0, g1]; exact .inl ⟨rfl, rfl⟩) ?_
    exact ⟨fun j => if j = 12 then .pointer (some ⟨eb, eo + en * 2, none⟩) else s j, by simp [e9, e11], hS.step 12 (by decide) (by decide)⟩
   ·have ho2 := ho
    simp at ho2
    subst ho2
    have e12 : s 12 = .pointer (some ⟨eb, eo + en * 2, none⟩) := hS.val 12 (by decide) (hd ⟨12, .data⟩ (by simp) (by rfl))
    have q4 := ccell hS.bel j0
    have q5 := ccell hS.bel j1
    refine wpOp_put (by simp [wpOp, go_sem, e12, q4, q5]; exact .inl ⟨rfl, rfl⟩) ?_
    exact ⟨fun j => if j = 13 then .agg #[.int .i64 p.secs[i2].ends[en].to, .int .i64 p.secs[i2].ends[en].en] else s j, by simp [e12], hS.step 13 (by decide) (by decide)⟩
   ·have ho2 := ho
    simp at ho2
    subst ho2
    refine wpOp_put (by simp [wpOp, go_sem]; exact .inl ⟨rfl, rfl⟩) ?_
    exact ⟨fun j => if j = 14 then .pointer (some ⟨W9.heap.size, 0, none⟩) else s j, rfl, hS.alloc (by decide) hun⟩
   ·have ho2 := ho
    simp at ho2
    subst ho2
    have e13 : s 13 = .agg #[.int .i64 p.secs[i2].ends[en].to, .int .i64 p.secs[i2].ends[en].en] := hS.val 13 (by decide) (hd ⟨13, .data⟩ (by simp) (by rfl))
    have ha := hd ⟨14, .data⟩ (by simp) (by rfl)
    obtain ⟨g2, eg, hg1, hg2⟩ := hS.at ha hun
    refine wpOp_store_row ho rfl 133 (.tmp 8) (.tmp 36) rfl g2 #[.int .i64 p.secs[i2].ends[en].to, .int .i64 p.secs[i2].ends[en].en] eg e13 133 #[.int .i64 0, .int .i64 0] hg2 rfl rfl (by simp [Value.oneCell']) ?_
    exact ⟨fun j => if j = 15 then undef else s j, rfl, hS.store (by decide) ha eg hg1 hg2⟩
   ·simp at ho
  ·intro f a W9 hI hall
   obtain ⟨s, rfl, hS⟩ := hI
   have e0 : s 0 = .pointer (some ⟨w.heap.size, 2, none⟩) := hS.val 0 (by decide) (hall 0 (by decide))
   have e1 : s 1 = .slice (some ⟨sb, so, none⟩) p.secs.length k1 := hS.val 1 (by decide) (hall 1 (by decide))
   have e2 : s 2 = .pointer (some ⟨w.heap.size, 2, none⟩) := hS.val 2 (by decide) (hall 2 (by decide))
   have e3 : s 3 = .slice (some ⟨sb, so, none⟩) p.secs.length k1 := hS.val 3 (by decide) (hall 3 (by decide))
   have e4 : s 4 = .pointer (some ⟨g, 1, none⟩) := hS.val 4 (by decide) (hall 4 (by decide))
   have e5 : s 5 = .int .i64 p.sigs[i1].sec := hS.val 5 (by decide) (hall 5 (by decide))
   have e6 : s 6 = .int .i64 i2 := hS.val 6 (by decide) (hall 6 (by decide))
   have e7 : s 7 = .pointer (some ⟨sb, so + i2 * 3, none⟩) := hS.val 7 (by decide) (hall 7 (by decide))
   have e8 : s 8 = .pointer (some ⟨sb, so + i2 * 3 + 2, none⟩) := hS.val 8 (by decide) (hall 8 (by decide))
   have e9 : s 9 = .slice (some ⟨eb, eo, none⟩) p.secs[i2].ends.length ec := hS.val 9 (by decide) (hall 9 (by decide))
   have e10 : s 10 = .pointer (some ⟨g, 2, none⟩) := hS.val 10 (by decide) (hall 10 (by decide))
   have e11 : s 11 = .int .i64 en := hS.val 11 (by decide) (hall 11 (by decide))
   have e12 : s 12 = .pointer (some ⟨eb, eo + en * 2, none⟩) := hS.val 12 (by decide) (hall 12 (by decide))
   have e13 : s 13 = .agg #[.int .i64 p.secs[i2].ends[en].to, .int .i64 p.secs[i2].ends[en].en] := hS.val 13 (by decide) (hall 13 (by decide))
   obtain ⟨g2, eg, hg1, hg2⟩ := hS.done (hall 14 (by decide)) (hall 15 (by decide))
   have hbel := hS.bel
   simp only [e0, e1, e2, e3, e4, e5, e6, e7, e8, e9, e10, e11, e12, e13, eg]
   clear hS hall eg e0 e1 e2 e3 e4 e5 e6 e7 e8 e9 e10 e11 e12 e13
   obtain ⟨V2, rfl⟩ : ∃ V : World, V = W9 := ⟨_, rfl⟩
   have KV2 : Hid (Below W0.heap.size W0 V2) := KV1.out.trans (hbel.mono KV1.out.size)
   have LG2 : Hid (W0.heap.size ≤ g2) := Nat.le_trans KV1.out.size hg1
   have bx := BXW.out _ KV2.out
   obtain ⟨rr0, rr1, rr2, rr3, rr4, rr5, rr6⟩ := cells7 (bx.2)
   have lbr := block_lt_of_cell rr0
   clear hbel hg1 pp2 v0 v1 v2 j0 j1 y1 y2 bx
   go_wp2_with fail
   refine (HSC.out V2 (KW.out _ KV2.out)).mono ?_
   rintro e V3 ⟨la, lc, rfl, hown, hb3⟩
   have KV3 : Hid (Below W0.heap.size W0 V3) := KV2.out.trans (hb3.mono KV2.out.size)
   have hg3 := (hb3.block _ (lt_of_block hg2)).trans hg2
   have HG3 := Lib.hid hg3
   have HLT : Hid (g2 < V2.heap.size) := lt_of_block hg2
   have HLT3 : Hid (V2.heap.size ≤ V3.heap.size) := hb3.size
   have HLW : Hid (∀ W, V3.grownBy W (some g2) → IntOwn W V2.heap.size (.slice la L.length lc) L) := fun W hg => World.ownsRow.kept hown hg (by
    cases e : (Value.slice la L.length lc).ownBlock with
    | none => exact .inl rfl
    | some k => exact .inr (fun e' => by obtain ⟨_, _, hk⟩ := own_block hown (e.trans e'); have := HLT.out; omega))
   obtain ⟨lb, lo, rfl, -⟩ := (IntOwn.il hown).cell 0 (by have := HALL.out; omega)
   clear hown hb3 hg2 hg3 lbr rr0 rr1 rr2 rr3 rr4 rr5 rr6 HSC
   have HWV : Hid (w.heap.size ≤ V3.heap.size) := Nat.le_trans K0.out.size KV3.out.size
   have KB0 : Hid (∀ W, V3.grownBy W (some g2) → Below W0.heap.size W0 W) := fun W hg => KV3.out.grown hg KV3.out.size (fun j hj => by cases hj; exact LG2.out)
   go_wp2_with fail
   go_loopg [10, 11, 12] L.length (fun gh i10 i11 i12 wr => ∃ (n : Nat) (x : Rw) (aa ab : Option Addr) (ca cb : Nat), n ≤ L.length ∧ gh = L.length - n ∧ i10 = .slice aa n ca ∧ i11 = .slice ab n cb ∧ i12 = .int .i64 n ∧ RT n = some x ∧ V3.grownBy wr (some g2) ∧ wr.heap[g2]? = some (.cells #[.int .i64 x.j.to, .int .i64 x.j.en] 133 (0, 0)) ∧ Two wr V3.heap.size (.slice aa n ca) x.ins (.slice ab n cb) x.outs)
   case atStart => exact ⟨0, _, none, none, 0, 0, by omega, by omega, rfl, rfl, rfl, HW0.out, ⟨rfl, rfl, rfl, Nat.le_refl _, fun _ _ _ => rfl⟩, HG3.out, Two.nil _ _⟩
   case round =>
    obtain ⟨n, x, aa, ab, ca, cb, hn, rfl, rfl, rfl, rfl, hx, hgr, hj, hT⟩ := hrel
    obtain ⟨wo, rfl⟩ : ∃ wo : World, wo = wr := ⟨_, rfl⟩
    have HX := Lib.hid hx
    have HGR := Lib.hid hgr
    have HJ := Lib.hid hj
    have HT := Lib.hid hT
    have KO0 := Lib.hid (KB0.out _ hgr)
    have KWO := Lib.hid (KW.out _ KO0.out)
    obtain ⟨hxi, hxo⟩ := HLEN.out _ _ hx
    clear hx hgr hj hT
    by_cases hlt : n < L.length
    ·have hd1 : decide ((n : Int) < (L.length : Int)) = true := by simp; omega
     obtain ⟨b', off', hbe, x0⟩ := (IntOwn.il (HLW.out _ HGR.out)).cell n hlt
     cases hbe
     have c2 : (0 : Int) ≤ (n : Int) := by omega
     have c3 : (n : Int) < (L.length : Int) := by omega
     have l2 := World.block_lt_of_cell? _ _ x0
     have hj0 : wo.cell? ⟨g2, 0, none⟩ = some (.int .i64 x.j.to) := (cell_of_row wo _ 0 _ _ _ HJ.out).trans rfl
     have X0 := cell_regrown x0
     have J0 := cell_regrown hj0
     have HRW : Hid (∀ (d : Nat) (os : Array Obj), Below wo.heap.size wo (grow (redrawn wo d) os)) := fun d os => below_regrown wo d os
     have HGD : Hid (L.getD n 0 = L[n]) := by show _ = _; rw [List.getD_eq_getElem?_getD, List.getElem?_eq_getElem hlt]; rfl
     have HSN := Lib.hid (HST.out x n HX.out hlt)
     clear x0 hj0 l2
     by_cases hjt : x.j.to = L[n]
     ·have tq1 : (x.j.to != L[n]) = false := by simp [hjt]
      have HSS2 : Hid (RT (n + 1) = if n + 1 = L.length ∧ 0 < r.over.length then some ⟨x.ins ++ [x.j.en], x.outs ++ [-1], x.j⟩ else match outAt p r n x.j.en with | none => none | some e => some ⟨x.ins ++ [x.j.en], x.outs ++ [(e : Int)], (atSec p r n).ends.getD e ⟨0, 0⟩⟩) := by
       show _ = _
       rw [HSN.out, HSS.out, if_neg (by rw [HGD.out]; exact fun h => h hjt)]
      clear hjt
      go_upto_region 9 with fail
      refine wp_region_quiet_below (by kernel_rfl) (by kernel_rfl) ?_
      repeat (go_big_quiet_step (fail))
      refine wpQuiet_nil ?_
      rintro _ ⟨⟨dq, osq⟩, rfl⟩
      have hbn : Below wo.heap.size wo (grow (redrawn wo dq) osq) := HRW.out dq osq
      generalize hWN : grow (redrawn wo dq) osq = wn at *
      have HTN := Lib.hid (HT.out.below hbn)
      have HJN : Hid (wn.heap[g2]? = some (.cells #[.int .i64 x.j.to, .int .i64 x.j.en] 133 (0, 0))) := (hbn.block _ (lt_of_block HJ.out)).trans HJ.out
      have HGN : Hid (V3.grownBy wn (some g2)) := ⟨hbn.os.trans HGR.out.os, hbn.tape.trans HGR.out.tape, hbn.output.trans HGR.out.output, Nat.le_trans HGR.out.size hbn.size, fun i hi hne => (hbn.block i (Nat.lt_of_lt_of_le hi HGR.out.size)).trans (HGR.out.block i hi hne)⟩
      clear hWN hbn X0 J0 HT HJ HGR KO0 KWO HRW HGD HSN
      have hj1 : wn.cell? ⟨g2, 1, none⟩ = some (.int .i64 x.j.en) := (cell_of_row wn _ 1 _ _ _ HJN.out).trans rfl
      have lgn := lt_of_block HJN.out
      have hB : V3.heap.size ≤ wn.heap.size := HGN.out.size
      have hin : x.ins.length ≤ 1000 := by omega
      have hon : x.outs.length ≤ 1000 := by omega
      go_upto_region 12 with (at_builtin; refine wpList_append_two rfl _ _ rfl V3.heap.size (.slice aa n ca) x.ins (.slice ab n cb) x.outs HTN.out x.j.en rfl rfl hin hB ?_; intro a8 c8 w8 hT8 hb8; rw [hxi] at hT8 ⊢)
      have HT8 := Lib.hid hT8
      have HLG : Hid (g2 < V3.heap.size) := by have := HLT.out; have := HLT3.out; show _ < _; omega
      have HJ8 : Hid (w8.heap[g2]? = some (.cells #[.int .i64 x.j.to, .int .i64 x.j.en] 133 (0, 0))) := (hb8.block _ HLG.out).trans HJN.out
      have HG8 : Hid (V3.grownBy w8 (some g2)) := ⟨hb8.os.trans HGN.out.os, hb8.tape.trans HGN.out.tape, hb8.output.trans HGN.out.output, Nat.le_trans HGN.out.size hb8.size, fun i hi hne => (hb8.block i hi).trans (HGN.out.block i hi hne)⟩
      have K80 := Lib.hid (KB0.out _ HG8.out)
      have KW8 := Lib.hid (KW.out _ K80.out)
      have bx := BXW.out _ K80.out
      clear hT8 hb8 HTN HJN HGN hj1 lgn hB
      obtain ⟨pp0, pp1, pp2, pp3, pp4, pp5⟩ := cells6 (bx.1)
      obtain ⟨rr0, rr1, rr2, rr3, rr4, rr5, rr6⟩ := cells7 (bx.2)
      have hj1 : w8.cell? ⟨g2, 1, none⟩ = some (.int .i64 x.j.en) := (cell_of_row w8 _ 1 _ _ _ HJ8.out).trans rfl
      have lb1 := block_lt_of_cell pp0
      have lb2 := block_lt_of_cell rr0
      have lb3 := block_lt_of_cell hj1
      have hB8 : V3.heap.size ≤ w8.heap.size := HG8.out.size
      clear bx
      obtain ⟨D, hD⟩ : ∃ D : Bool, D = decide (n + 1 = L.length ∧ 0 < r.over.length) := ⟨_, rfl⟩
      have HD := Lib.hid hD
      clear hD
      go_cut [67] from 57 to 67 (fun v wc => v = .bool D ∧ wc = w8)
      case first =>
       by_cases m1 : n + 1 = L.length
       ·have tq2 : ((n : Int) == (L.length : Int) - 1) = true := by rw [beq_iff_eq]; omega
        by_cases m2 : 0 < r.over.length
        ·have tq3 : decide ((0 : Int) < (r.over.length : Int)) = true := by simp; omega
         have HV : Hid (D = true) := by rw [HD.out]; exact decide_eq_true ⟨m1, m2⟩
         clear m1
         go_wp2_with fail
         go_meet
         case rel => exact ⟨by rw [HV.out], rfl⟩
        ·have tq3 : decide ((0 : Int) < (r.over.length : Int)) = false := by simp only [decide_eq_false_iff_not]; omega
         have HV : Hid (D = false) := by rw [HD.out]; exact decide_eq_false (fun h => m2 h.2)
         clear m1
         go_wp2_with fail
         go_meet
         case rel => exact ⟨by rw [HV.out], rfl⟩
       ·have tq2 : ((n : Int) == (L.length : Int) - 1) = false := by rw [beq_eq_false_iff_ne]; omega
        have HV : Hid (D = false) := by rw [HD.out]; exact decide_eq_false (fun h => m1 h.1)
        clear m1
        go_wp2_with fail
        go_meet
        case rel => exact ⟨by rw [HV.out], rfl⟩
      case rest =>
       obtain ⟨rfl, hw⟩ := hcut
       obtain rfl := hw.symm
       clear hw
       cases D with
       | true =>
        have hov : n + 1 = L.length ∧ 0 < r.over.length := of_decide_eq_true HD.out.symm
        have HRE : Hid (RE = some ⟨x.ins ++ [x.j.en], x.outs ++ [-1], x.j⟩) := by
         show _ = _
         rw [HEND.out, ← hov.1, HSS2.out, if_pos hov]
        have HNL : Hid (n + 1 = L.length) := hov.1
        have HT8s := Lib.hid HT8.out.swap
        clear hov HSS2
        go_wp2_with (at_builtin; refine wpList_append_two rfl _ _ rfl V3.heap.size (.slice ab n cb) x.outs (.slice a8 (n + 1) c8) (x.ins ++ [x.j.en]) HT8s.out (-1) rfl rfl hon hB8 ?_; intro a9 c9 w9 hT9 hb9; rw [hxo] at hT9 ⊢)
        refine bodyPost_ret (v := .tuple #[.slice a8 (n + 1) c8, .slice a9 (n + 1) c9, .bool true]) (by simp [results, Tryz.f216, go_sem]) rfl ?_
        exact ⟨KW8.out.trans (hb9.mono HWV.out), .inr ⟨_, a8, c8, a9, c9, HRE.out, by rw [List.length_append, hxi]; exact HNL.out, by rw [List.length_append, hxo]; exact HNL.out, by rw [HNL.out], by rw [← HNL.out]; exact il_of hT9.b (by rw [List.length_append, hxi]; rfl), by rw [← HNL.out]; exact il_of hT9.a (by rw [List.length_append, hxo]; rfl)⟩⟩
       | false =>
        have hov : ¬ (n + 1 = L.length ∧ 0 < r.over.length) := of_decide_eq_false HD.out.symm
        have HSS3 : Hid (RT (n + 1) = match outAt p r n x.j.en with | none => none | some e => some ⟨x.ins ++ [x.j.en], x.outs ++ [(e : Int)], (atSec p r n).ends.getD e ⟨0, 0⟩⟩) := by
         show _ = _
         rw [HSS2.out, if_neg hov]
        have hcc := HOUT.out w8 n x.j.en _ lc KW8.out (IntOwn.il (HLW.out _ HG8.out)) hlt hov
        have HCC := Lib.hid hcc
        clear hov HSS2 HD hcc
        go_wp2_with fail
        refine HCC.out.mono ?_
        rintro e w9 ⟨rfl, hb9⟩
        have HT9 := Lib.hid (HT8.out.below hb9)
        have HJ9 : Hid (w9.heap[g2]? = some (.cells #[.int .i64 x.j.to, .int .i64 x.j.en] 133 (0, 0))) := (hb9.block _ (lt_of_block HJ8.out)).trans HJ8.out
        have HG9 : Hid (V3.grownBy w9 (some g2)) := ⟨hb9.os.trans HG8.out.os, hb9.tape.trans HG8.out.tape, hb9.output.trans HG8.out.output, Nat.le_trans HG8.out.size hb9.size, fun i hi hne => (hb9.block i (Nat.lt_of_lt_of_le hi HG8.out.size)).trans (HG8.out.block i hi hne)⟩
        have K90 := Lib.hid (KB0.out _ HG9.out)
        have KW9 := Lib.hid (KW.out _ K90.out)
        clear hb9 HT8 HJ8 HG8 K80 KW8 HCC pp0 pp1 pp2 pp3 pp4 pp5 rr0 rr1 rr2 rr3 rr4 rr5 rr6 hj1 lb1 lb2 lb3 hB8
        cases ho : outAt p r n x.j.en with
        | none =>
         have HN : Hid (RT (n + 1) = none) := by
          show _ = _
          rw [HSS3.out, ho]
         have HON := Lib.hid (HOU.out _ _ ho)
         rw [← ho, HON.out]
         have tq4 : decide ((-1 : Int) < 0) = true := by decide
         clear ho HSS3
         go_wp2_with fail
         refine bodyPost_ret (v := .tuple #[.slice none 0 0, .slice none 0 0, .bool false]) (by simp [results, Tryz.f216, go_sem]) rfl ?_
         exact ⟨KW9.out, .inl ⟨HLOST.out _ (by omega) HN.out, rfl⟩⟩
        | some k9 =>
         obtain ⟨hon1, hon2⟩ := HOS.out _ _ _ ho
         have HN : Hid (RT (n + 1) = some ⟨x.ins ++ [x.j.en], x.outs ++ [(k9 : Int)], (atSec p r n).ends.getD k9 ⟨0, 0⟩⟩) := by
          show _ = _
          rw [HSS3.out, ho]
         rw [← ho, hon1]
         have tq4 : decide ((k9 : Int) < 0) = false := by simp
         have HON2 := Lib.hid hon2
         have HT9s := Lib.hid HT9.out.swap
         have hB9 : V3.heap.size ≤ w9.heap.size := HG9.out.size
         clear ho HSS3 hon1 hon2
         go_upto_region 18 with (at_builtin; refine wpList_append_two rfl _ _ rfl V3.heap.size (.slice ab n cb) x.outs (.slice a8 (n + 1) c8) (x.ins ++ [x.j.en]) HT9s.out (k9 : Int) rfl rfl hon hB9 ?_; intro a7 c7 w7 hT7 hb7; rw [hxo] at hT7 ⊢)
         have HT7 := Lib.hid hT7.swap
         have HJ7 : Hid (w7.heap[g2]? = some (.cells #[.int .i64 x.j.to, .int .i64 x.j.en] 133 (0, 0))) := (hb7.block _ HLG.out).trans HJ9.out
         have HG7 : Hid (V3.grownBy w7 (some g2)) := ⟨hb7.os.trans HG9.out.os, hb7.tape.trans HG9.out.tape, hb7.output.trans HG9.out.output, Nat.le_trans HG9.out.size hb7.size, fun i hi hne => (hb7.block i hi).trans (HG9.out.block i hi hne)⟩
         have K70 := Lib.hid (KB0.out _ HG7.out)
         have KW7 := Lib.hid (KW.out _ K70.out)
         have bx := BXW.out _ K70.out
         have pp2 : w7.cell? ⟨w.heap.size, 2, none⟩ = some (.slice (some ⟨sb, so, none⟩) p.secs.length k1) := (cell_of_row w7 _ 2 _ _ _ bx.1).trans rfl
         obtain ⟨m, hm, hmf, hma, -, -⟩ := HATS.out n hlt
         rw [hma] at HON2
         have HMF := Lib.hid hmf
         obtain ⟨b', off', hbe, x0⟩ := (IntOwn.il (HLW.out _ HG7.out)).cell n hlt
         cases hbe
         obtain ⟨b', off', ea2, ec2, hbe, v0, v1, v2, hens⟩ := (HSE.out _ KW7.out).sec hm
         cases hbe
         obtain ⟨eb2, eo2, rfl, y0, y1⟩ := hens.jn HON2.out
         have HMA : Hid ((atSec p r n).ends.getD k9 ⟨0, 0⟩ = p.secs[m].ends[k9]'HON2.out) := by show _ = _; rw [hma, List.getD_eq_getElem?_getD, List.getElem?_eq_getElem HON2.out]; rfl
         have e0 : (0 : Int) ≤ (m : Int) := by omega
         have e1 : (m : Int) < (p.secs.length : Int) := by omega
         have e2 : (0 : Int) ≤ (k9 : Int) := by omega
         have e3 : (k9 : Int) < (p.secs[m].ends.length : Int) := by have := HON2.out; omega
         clear hT7 hb7 hens bx hma hmf v0 v1 HT9 HT9s HJ9 HG9 K90 KW9 hB9
         have KWD : Hid (Below w.heap.size w { w7 with drawn := w7.drawn + 1 }) := ⟨KW7.out.os, KW7.out.tape, KW7.out.output, KW7.out.size, KW7.out.block⟩
         refine wp_region_inv' (by kernel_rfl) (by kernel_rfl) (fun f ac W9 => ∃ s : Nat → Value, ac = { tmps := #[.agg #[.int .i64 p.ver, .int .i64 p.par, .slice (some ⟨sb, so, none⟩) p.secs.length k1, .slice a2 p.pts.length k2, .slice (some ⟨gb, go, none⟩) p.sigs.length k3, .slice a4 p.rts.length k4], .agg #[.int .i64 r.id, .int .i64 r.entry, .int .i64 r.exit, .slice p1 r.path.length p3, .slice o1 r.over.length o3, .slice f1 r.fl.length f3, .int .i64 r.timer], .pointer (some ⟨w.heap.size, 0, none⟩), .pointer (some ⟨w.heap.size + 1, 0, none⟩), u4, u5, u6, .pointer (some ⟨g, 0, none⟩), .pointer (some ⟨g2, 0, none⟩), .slice (some ⟨lb, lo, none⟩) L.length lc, .slice a8 (n + 1) c8, .slice a7 (n + 1) c7, .int .i64 n, .int .i64 k9, .pointer (some ⟨w.heap.size, 4, none⟩), .slice (some ⟨gb, go, none⟩) p.sigs.length k3, .pointer (some ⟨w.heap.size, 4, none⟩), .slice (some ⟨gb, go, none⟩) p.sigs.length k3, .pointer (some ⟨w.heap.size + 1, 1, none⟩), .int .i64 r.entry, .int .i64 i1, .pointer (some ⟨gb, go + i1 * 3, none⟩), .agg #[.int .i64 p.sigs[i1].id, .int .i64 p.sigs[i1].sec, .int .i64 en], .pointer (some ⟨w.heap.size, 2, none⟩), .slice (some ⟨sb, so, none⟩) p.secs.length k1, .pointer (some ⟨w.heap.size, 2, none⟩), .slice (some ⟨sb, so, none⟩) p.secs.length k1, .pointer (some ⟨g, 1, none⟩), .int .i64 p.sigs[i1].sec, .int .i64 i2, .pointer (some ⟨sb, so + i2 * 3, none⟩), .pointer (some ⟨sb, so + i2 * 3 + 2, none⟩), .slice (some ⟨eb, eo, none⟩) p.secs[i2].ends.length ec, .pointer (some ⟨g, 2, none⟩), .int .i64 en, .pointer (some ⟨eb, eo + en * 2, none⟩), .agg #[.int .i64 p.secs[i2].ends[en].to, .int .i64 p.secs[i2].ends[en].en], .agg #[.int .i64 r.id, .int .i64 r.entry, .int .i64 r.exit, .slice p1 r.path.length p3, .slice o1 r.over.length o3, .slice f1 r.fl.length f3, .int .i64 r.timer], .slice (some ⟨lb, lo, none⟩) L.length lc, .int .i64 n, .slice (some ⟨lb, lo, none⟩) L.length lc, .int .i64 L.length, .bool true, u43, u44, .pointer (some ⟨g2, 0, none⟩), .int .i64 x.j.to, .slice (some ⟨lb, lo, none⟩) L.length lc, .int .i64 n, .pointer (some ⟨lb, lo + n, none⟩), .int .i64 L[n], .bool false, .slice aa n ca, .pointer (some ⟨g2, 1, none⟩), .int .i64 x.j.en, .slice (some ⟨wn.heap.size, 0, none⟩) 1 1, .slice a8 (n + 1) c8, u57, u58, u59, u60, u61, u62, u63, u64, u65, u66, .bool false, u68, u69, u70, u71, .agg #[.int .i64 p.ver, .int .i64 p.par, .slice (some ⟨sb, so, none⟩) p.secs.length k1, .slice a2 p.pts.length k2, .slice (some ⟨gb, go, none⟩) p.sigs.length k3, .slice a4 p.rts.length k4], .agg #[.int .i64 r.id, .int .i64 r.entry, .int .i64 r.exit, .slice p1 r.path.length p3, .slice o1 r.over.length o3, .slice f1 r.fl.length f3, .int .i64 r.timer], .slice (some ⟨lb, lo, none⟩) L.length lc, .int .i64 n, .pointer (some ⟨g2, 1, none⟩), .int .i64 x.j.en, .int .i64 k9, .int .i64 k9, .bool false, .slice ab n cb, .int .i64 k9, .slice (some ⟨w9.heap.size, 0, none⟩) 1 1, .slice a7 (n + 1) c7, s 0, s 1, s 2, s 3, s 4, s 5, s 6, s 7, s 8, s 9, s 10, s 11, s 12, s 13, s 14, undef, undef], defers := [] } ∧ RL ({ w7 with drawn := w7.drawn + 1 } : World) (fun i => match i with | 0 => .pointer (some ⟨w.heap.size, 2, none⟩) | 1 => .slice (some ⟨sb, so, none⟩) p.secs.length k1 | 2 => .pointer (some ⟨w.heap.size, 2, none⟩) | 3 => .slice (some ⟨sb, so, none⟩) p.secs.length k1 | 4 => .slice (some ⟨lb, lo, none⟩) L.length lc | 5 => .int .i64 n | 6 => .pointer (some ⟨lb, lo + n, none⟩) | 7 => .int .i64 L[n] | 8 => .int .i64 m | 9 => .pointer (some ⟨sb, so + m * 3, none⟩) | 10 => .pointer (some ⟨sb, so + m * 3 + 2, none⟩) | 11 => .slice (some ⟨eb2, eo2, none⟩) p.secs[m].ends.length ec2 | 12 => .int .i64 k9 | 13 => .pointer (some ⟨eb2, eo2 + k9 * 2, none⟩) | 14 => .agg #[.int .i64 (p.secs[m].ends[k9]'HON2.out).to, .int .i64 (p.secs[m].ends[k9]'HON2.out).en] | _ => undef) 15 15 (({ w7 with drawn := w7.drawn + 1 } : World).setRow g2 #[.int .i64 (p.secs[m].ends[k9]'HON2.out).to, .int .i64 (p.secs[m].ends[k9]'HON2.out).en]) f s W9) ?_ ?_ ?_
         ·exact ⟨(fun i => match i with | 0 => u85 | 1 => u86 | 2 => u87 | 3 => u88 | 4 => u89 | 5 => u90 | 6 => u91 | 7 => u92 | 8 => u93 | 9 => u94 | 10 => u95 | 11 => u96 | 12 => u97 | 13 => u98 | 14 => u99 | _ => undef), rfl, RL.start⟩
         ·intro i o ho f a W9 hI hd hun
          obtain ⟨s, rfl, hS⟩ := hI
          rcases i with _ | _ | _ | _ | _ | _ | _ | _ | _ | _ | _ | _ | _ | _ | _ | _ | i
          ·obtain rfl := hS.same (i := 0) (by decide) hun
           have ho2 := ho
           simp at ho2
           subst ho2
           refine wpOp_put (by simp [wpOp, go_sem]; exact .inl ⟨rfl, rfl⟩) ?_
           exact ⟨fun j => if j = 0 then .pointer (some ⟨w.heap.size, 2, none⟩) else s j, rfl, hS.step 0 (by decide) (by decide) hun⟩
          ·obtain rfl := hS.same (i := 1) (by decide) hun
           have ho2 := ho
           simp at ho2
           subst ho2
           have ee0 : s 0 = .pointer (some ⟨w.heap.size, 2, none⟩) := hS.val 0 (hd ⟨0, .data⟩ (by simp) (by rfl))
           refine wpOp_put (by simp [wpOp, go_sem, ee0, pp2]; exact .inl ⟨rfl, rfl⟩) ?_
           exact ⟨fun j => if j = 1 then .slice (some ⟨sb, so, none⟩) p.secs.length k1 else s j, by simp [ee0], hS.step 1 (by decide) (by decide) hun⟩
          ·obtain rfl := hS.same (i := 2) (by decide) hun
           have ho2 := ho
           simp at ho2
           subst ho2
           refine wpOp_put (by simp [wpOp, go_sem]; exact .inl ⟨rfl, rfl⟩) ?_
           exact ⟨fun j => if j = 2 then .pointer (some ⟨w.heap.size, 2, none⟩) else s j, rfl, hS.step 2 (by decide) (by decide) hun⟩
          ·obtain rfl := hS.same (i := 3) (by decide) hun
           have ho2 := ho
           simp at ho2
           subst ho2
           have ee2 : s 2 = .pointer (some ⟨w.heap.size, 2, none⟩) := hS.val 2 (hd ⟨2, .data⟩ (by simp) (by rfl))
           refine wpOp_put (by simp [wpOp, go_sem, ee2, pp2]; exact .inl ⟨rfl, rfl⟩) ?_
           exact ⟨fun j => if j = 3 then .slice (some ⟨sb, so, none⟩) p.secs.length k1 else s j, by simp [ee2], hS.step 3 (by decide) (by decide) hun⟩
          ·obtain rfl := hS.same (i := 4) (by decide) hun
           have ho2 := ho
           simp at ho2
           subst ho2
           refine wpOp_put (by simp [wpOp, go_sem]; exact .inl ⟨rfl, rfl⟩) ?_
           exact ⟨fun j => if j = 4 then .slice (some ⟨lb, lo, none⟩) L.length lc else s j, rfl, hS.step 4 (by decide) (by decide) hun⟩
          ·obtain rfl := hS.same (i := 5) (by decide) hun
           have ho2 := ho
           simp at ho2
           subst ho2
           refine wpOp_put (by simp [wpOp, go_sem]; exact .inl ⟨rfl, rfl⟩) ?_
           exact ⟨fun j => if j = 5 then .int .i64 n else s j, rfl, hS.step 5 (by decide) (by decide) hun⟩
          ·obtain rfl := hS.same (i := 6) (by decide) hun
           have ho2 := ho
           simp at ho2
           subst ho2
           have ee4 : s 4 = .slice (some ⟨lb, lo, none⟩) L.length lc := hS.val 4 (hd ⟨4, .data⟩ (by simp) (by rfl))
           have ee5 : s 5 = .int .i64 n := hS.val 5 (hd ⟨5, .data⟩ (by simp) (by rfl))
           refine wpOp_put (by simp [wpOp, go_sem, ee4, ee5, c2, c3]; exact .inl ⟨rfl, rfl⟩) ?_
           exact ⟨fun j => if j = 6 then .pointer (some ⟨lb, lo + n, none⟩) else s j, by simp [ee4, ee5], hS.step 6 (by decide) (by decide) hun⟩
          ·obtain rfl := hS.same (i := 7) (by decide) hun
           have ho2 := ho
           simp at ho2
           subst ho2
           have ee6 : s 6 = .pointer (some ⟨lb, lo + n, none⟩) := hS.val 6 (hd ⟨6, .data⟩ (by simp) (by rfl))
           refine wpOp_put (by simp [wpOp, go_sem, ee6, x0]; exact .inl ⟨rfl, rfl⟩) ?_
           exact ⟨fun j => if j = 7 then .int .i64 L[n] else s j, by simp [ee6], hS.step 7 (by decide) (by decide) hun⟩
          ·obtain rfl := hS.same (i := 8) (by decide) hun
           have ho2 := ho
           simp at ho2
           subst ho2
           have ee3 : s 3 = .slice (some ⟨sb, so, none⟩) p.secs.length k1 := hS.val 3 (hd ⟨3, .data⟩ (by simp) (by rfl))
           have ee7 : s 7 = .int .i64 L[n] := hS.val 7 (hd ⟨7, .data⟩ (by simp) (by rfl))
           have hc := ((secAt (some ⟨sb, so, none⟩) k1 p.secs L[n] _ (HSE.out _ KWD.out) LS.out).mono fun e w' h => (⟨h.1.trans (by rw [HMF.out]), h.2⟩ : e = .returned (.int .i64 m) ∧ _ = w'))
           apply wpOp_put
           ·simp [wpOp, go_sem, ee3, ee7]
            refine .inl (hc.mono ?_)
            rintro e w' ⟨rfl, rfl⟩
            simp [go_sem]
            exact ⟨rfl, rfl⟩
           ·exact ⟨fun j => if j = 8 then .int .i64 m else s j, by simp [ee3, ee7], hS.step 8 (by decide) (by decide) hun⟩
          ·obtain rfl := hS.same (i := 9) (by decide) hun
           have ho2 := ho
           simp at ho2
           subst ho2
           have ee1 : s 1 = .slice (some ⟨sb, so, none⟩) p.secs.length k1 := hS.val 1 (hd ⟨1, .data⟩ (by simp) (by rfl))
           have ee8 : s 8 = .int .i64 m := hS.val 8 (hd ⟨8, .data⟩ (by simp) (by rfl))
           refine wpOp_put (by simp [wpOp, go_sem, ee1, ee8, e0, e1]; exact .inl ⟨rfl, rfl⟩) ?_
           exact ⟨fun j => if j = 9 then .pointer (some ⟨sb, so + m * 3, none⟩) else s j, by simp [ee1, ee8, e0, e1], hS.step 9 (by decide) (by decide) hun⟩
          ·obtain rfl := hS.same (i := 10) (by decide) hun
           have ho2 := ho
           simp at ho2
           subst ho2
           have ee9 : s 9 = .pointer (some ⟨sb, so + m * 3, none⟩) := hS.val 9 (hd ⟨9, .data⟩ (by simp) (by rfl))
           refine wpOp_put (by simp [wpOp, go_sem, ee9]; exact .inl ⟨rfl, rfl⟩) ?_
           exact ⟨fun j => if j = 10 then .pointer (some ⟨sb, so + m * 3 + 2, none⟩) else s j, by simp [ee9], hS.step 10 (by decide) (by decide) hun⟩
          ·obtain rfl := hS.same (i := 11) (by decide) hun
           have ho2 := ho
           simp at ho2
           subst ho2
           have ee10 : s 10 = .pointer (some ⟨sb, so + m * 3 + 2, none⟩) := hS.val 10 (hd ⟨10, .data⟩ (by simp) (by rfl))
           refine wpOp_put (by simp [wpOp, go_sem, ee10, v2]; exact .inl ⟨rfl, rfl⟩) ?_
           exact ⟨fun j => if j = 11 then .slice (some ⟨eb2, eo2, none⟩) p.secs[m].ends.length ec2 else s j, by simp [ee10], hS.step 11 (by decide) (by decide) hun⟩
          ·obtain rfl := hS.same (i := 12) (by decide) hun
           have ho2 := ho
           simp at ho2
           subst ho2
           refine wpOp_put (by simp [wpOp, go_sem]; exact .inl ⟨rfl, rfl⟩) ?_
           exact ⟨fun j => if j = 12 then .int .i64 k9 else s j, rfl, hS.step 12 (by decide) (by decide) hun⟩
          ·obtain rfl := hS.same (i := 13) (by decide) hun
           have ho2 := ho
           simp at ho2
           subst ho2
           have ee11 : s 11 = .slice (some ⟨eb2, eo2, none⟩) p.secs[m].ends.length ec2 := hS.val 11 (hd ⟨11, .data⟩ (by simp) (by rfl))
           have ee12 : s 12 = .int .i64 k9 := hS.val 12 (hd ⟨12, .data⟩ (by simp) (by rfl))
           refine wpOp_put (by simp [wpOp, go_sem, ee11, ee12, e2, e3]; exact .inl ⟨rfl, rfl⟩) ?_
           exact ⟨fun j => if j = 13 then .pointer (some ⟨eb2, eo2 + k9 * 2, none⟩) else s j, by simp [ee11, ee12, e2, e3], hS.step 13 (by decide) (by decide) hun⟩
          ·obtain rfl := hS.same (i := 14) (by decide) hun
           have ho2 := ho
           simp at ho2
           subst ho2
           have ee13 : s 13 = .pointer (some ⟨eb2, eo2 + k9 * 2, none⟩) := hS.val 13 (hd ⟨13, .data⟩ (by simp) (by rfl))
           refine wpOp_put (by simp [wpOp, go_sem, ee13, y0, y1]; exact .inl ⟨rfl, rfl⟩) ?_
           exact ⟨fun j => if j = 14 then .agg #[.int .i64 (p.secs[m].ends[k9]'HON2.out).to, .int .i64 (p.secs[m].ends[k9]'HON2.out).en] else s j, by simp [ee13], hS.step 14 (by decide) (by decide) hun⟩
          ·obtain rfl := hS.same' hun
           have ho2 := ho
           simp at ho2
           subst ho2
           have ee14 : s 14 = .agg #[.int .i64 (p.secs[m].ends[k9]'HON2.out).to, .int .i64 (p.secs[m].ends[k9]'HON2.out).en] := hS.val 14 (hd ⟨14, .data⟩ (by simp) (by rfl))
           have ha : ∀ j, j < 15 → f j = true := fun j hj => by
            rcases j with _ | _ | _ | _ | _ | _ | _ | _ | _ | _ | _ | _ | _ | _ | _ | j
            ·exact hd ⟨0, .phase⟩ (by simp) (by rfl)
            ·exact hd ⟨1, .phase⟩ (by simp) (by rfl)
            ·exact hd ⟨2, .phase⟩ (by simp) (by rfl)
            ·exact hd ⟨3, .phase⟩ (by simp) (by rfl)
            ·exact hd ⟨4, .phase⟩ (by simp) (by rfl)
            ·exact hd ⟨5, .phase⟩ (by simp) (by rfl)
            ·exact hd ⟨6, .phase⟩ (by simp) (by rfl)
            ·exact hd ⟨7, .phase⟩ (by simp) (by rfl)
            ·exact hd ⟨8, .phase⟩ (by simp) (by rfl)
            ·exact hd ⟨9, .phase⟩ (by simp) (by rfl)
            ·exact hd ⟨10, .phase⟩ (by simp) (by rfl)
            ·exact hd ⟨11, .phase⟩ (by simp) (by rfl)
            ·exact hd ⟨12, .phase⟩ (by simp) (by rfl)
            ·exact hd ⟨13, .phase⟩ (by simp) (by rfl)
            ·exact hd ⟨14, .phase⟩ (by simp) (by rfl)
            ·omega
           refine wpOp_store_row ho rfl 133 (.tmp 8) (.tmp 99) rfl g2 #[.int .i64 (p.secs[m].ends[k9]'HON2.out).to, .int .i64 (p.secs[m].ends[k9]'HON2.out).en] rfl ee14 133 #[.int .i64 x.j.to, .int .i64 x.j.en] HJ7.out rfl rfl (by simp [Value.oneCell']) ?_
           exact ⟨fun j => if j = 15 then undef else s j, rfl, hS.store ha⟩
          ·simp at ho
         ·intro f a W9 hI hall
          obtain ⟨s, rfl, hS⟩ := hI
          have ee0 : s 0 = .pointer (some ⟨w.heap.size, 2, none⟩) := hS.val 0 (hall 0 (by decide))
          have ee1 : s 1 = .slice (some ⟨sb, so, none⟩) p.secs.length k1 := hS.val 1 (hall 1 (by decide))
          have ee2 : s 2 = .pointer (some ⟨w.heap.size, 2, none⟩) := hS.val 2 (hall 2 (by decide))
          have ee3 : s 3 = .slice (some ⟨sb, so, none⟩) p.secs.length k1 := hS.val 3 (hall 3 (by decide))
          have ee4 : s 4 = .slice (some ⟨lb, lo, none⟩) L.length lc := hS.val 4 (hall 4 (by decide))
          have ee5 : s 5 = .int .i64 n := hS.val 5 (hall 5 (by decide))
          have ee6 : s 6 = .pointer (some ⟨lb, lo + n, none⟩) := hS.val 6 (hall 6 (by decide))
          have ee7 : s 7 = .int .i64 L[n] := hS.val 7 (hall 7 (by decide))
          have ee8 : s 8 = .int .i64 m := hS.val 8 (hall 8 (by decide))
          have ee9 : s 9 = .pointer (some ⟨sb, so + m * 3, none⟩) := hS.val 9 (hall 9 (by decide))
          have ee10 : s 10 = .pointer (some ⟨sb, so + m * 3 + 2, none⟩) := hS.val 10 (hall 10 (by decide))
          have ee11 : s 11 = .slice (some ⟨eb2, eo2, none⟩) p.secs[m].ends.length ec2 := hS.val 11 (hall 11 (by decide))
          have ee12 : s 12 = .int .i64 k9 := hS.val 12 (hall 12 (by decide))
          have ee13 : s 13 = .pointer (some ⟨eb2, eo2 + k9 * 2, none⟩) := hS.val 13 (hall 13 (by decide))
          have ee14 : s 14 = .agg #[.int .i64 (p.secs[m].ends[k9]'HON2.out).to, .int .i64 (p.secs[m].ends[k9]'HON2.out).en] := hS.val 14 (hall 14 (by decide))
          obtain rfl := hS.done (hall 15 (by decide))
          simp only [ee0, ee1, ee2, ee3, ee4, ee5, ee6, ee7, ee8, ee9, ee10, ee11, ee12, ee13, ee14]
          clear hS hall ee0 ee1 ee2 ee3 ee4 ee5 ee6 ee7 ee8 ee9 ee10 ee11 ee12 ee13 ee14
          have hT6 := Two.setRow (Two.below HT7.out (⟨rfl, rfl, rfl, Nat.le_refl _, fun _ _ => rfl⟩ : Below w7.heap.size w7 { w7 with drawn := w7.drawn + 1 })) HLG.out #[.int .i64 (p.secs[m].ends[k9]'HON2.out).to, .int .i64 (p.secs[m].ends[k9]'HON2.out).en]
          have hJ6 : (({ w7 with drawn := w7.drawn + 1 } : World).setRow g2 #[.int .i64 (p.secs[m].ends[k9]'HON2.out).to, .int .i64 (p.secs[m].ends[k9]'HON2.out).en]).heap[g2]? = some (.cells #[.int .i64 (p.secs[m].ends[k9]'HON2.out).to, .int .i64 (p.secs[m].ends[k9]'HON2.out).en] 133 (0, 0)) := by
           have := HJ7.out
           simp [World.setRow, Array.getElem?_modify, this]
          have hG6 : V3.grownBy (({ w7 with drawn := w7.drawn + 1 } : World).setRow g2 #[.int .i64 (p.secs[m].ends[k9]'HON2.out).to, .int .i64 (p.secs[m].ends[k9]'HON2.out).en]) (some g2) := ⟨HG7.out.os, HG7.out.tape, HG7.out.output, by simp [World.setRow]; exact HG7.out.size, fun i hi hne => by
           have h8 := HG7.out.block i hi hne
           simp only [World.setRow, Array.getElem?_modify]
           rw [if_neg (fun e => hne (by rw [e]))]
           exact h8⟩
          have HT6 := Lib.hid hT6
          have HJ6 := Lib.hid hJ6
          have HG6 := Lib.hid hG6
          clear hT6 hJ6 hG6
          generalize hW6 : ({ w7 with drawn := w7.drawn + 1 } : World).setRow g2 #[.int .i64 (p.secs[m].ends[k9]'HON2.out).to, .int .i64 (p.secs[m].ends[k9]'HON2.out).en] = w6 at *
          clear hW6 HT7 HJ7 HG7 K70 KW7 KWD x0 y0 y1 v2 pp2
          go_wp2_with fail
          go_roundg (L.length - (n + 1))
          case measure => go_light; omega
          case rel =>
           go_light
           exact ⟨n + 1, _, a8, a7, c8, c7, by omega, by omega, rfl, rfl, by go_num, HN.out, HG6.out, by rw [HMA.out]; exact HJ6.out, HT6.out⟩
     ·have tq1 : (x.j.to != L[n]) = true := by simp [hjt]
      have HN : Hid (RT (n + 1) = none) := by
       show _ = _
       rw [HSN.out, HSS.out, if_pos (by rw [HGD.out]; exact hjt)]
      clear hjt
      go_upto_region 9 with fail
      refine wp_region_quiet_below (by kernel_rfl) (by kernel_rfl) ?_
      repeat (go_big_quiet_step (fail))
      refine wpQuiet_nil ?_
      rintro _ ⟨⟨dq, osq⟩, rfl⟩
      go_wp2_with fail
      refine bodyPost_ret (v := .tuple #[.slice none 0 0, .slice none 0 0, .bool false]) (by simp [results, Tryz.f216, go_sem]) rfl ?_
      exact ⟨KWO.out.trans ((HRW.out dq osq).mono KWO.out.size), .inl ⟨HLOST.out _ (by omega) HN.out, rfl⟩⟩
    ·obtain rfl : n = L.length := by omega
     have hd1 : decide ((L.length : Int) < (L.length : Int)) = false := by simp
     go_wp2_with fail
     refine bodyPost_ret (v := .tuple #[.slice aa L.length ca, .slice ab L.length cb, .bool true]) (by simp [results, Tryz.f216, go_sem]) rfl ?_
     exact ⟨KWO.out, .inr ⟨x, aa, ca, ab, cb, HEND.out.trans HX.out, hxi, hxo, rfl, il_of HT.out.a hxi, il_of HT.out.b hxo⟩⟩
end Go.Proofs.YtbiehpjhhopjaaaGreat
