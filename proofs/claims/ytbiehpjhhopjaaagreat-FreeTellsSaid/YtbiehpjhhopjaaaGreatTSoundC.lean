/-
 way.All, walked.
 sound.Check, walked.
-/
import Derived.Test.YtbiehpjhhopjaaaGreatTWayG
import Derived.Test.YtbiehpjhhopjaaaGreatTData
import Derived.Test.YtbiehpjhhopjaaaGreatTTrackF
set_option linter.unusedVariables false
set_option linter.unusedSimpArgs false
namespace Go.Proofs.YtbiehpjhhopjaaaGreat
open Go.RowKit Go.Sort
def MA : TypeId → Bool := fun t => t == 184 || t == 78 || t == 171 || t == 4
def MG : TypeId → Bool := fun t => t == 171 || t == 4
theorem MG_sub : ∀ t, MG t = true → MA t = true := fun t h => by simp [MG, MA] at h ⊢; rcases h with h | h <;> simp [h]
theorem maskW_sub {M M2 : TypeId → Bool} (w : World) (hs : ∀ t, M2 t = true → M t = true) : Ext (maskW M w) (maskW M2 w) := fun a v h => by
 obtain ⟨c, t, fr, h1, h2⟩ := maskW_cell h
 have h3 : M2 t = false := by
  cases e : M2 t
  ·rfl
  ·rw [hs t e] at h2; cases h2
 have h4 := maskW_ext M w a v h
 have h5 : (maskW M2 w).heap[a.block]? = w.heap[a.block]? := (maskW_keep h1 h3).trans h1.symm
 exact (World.cell?_of_block (w := w) h5).trans h4
theorem RowsX.slM {α : Type} {M M2 : TypeId → Bool} {w : World} {base : Nat} {T : TypeId} {sz : Nat} {R : World → List Value → α → Prop} {v : Value} {l : List α} {xss : List (List Value)} (h : RowsX M w base T sz R v l xss) (hR : KeepsC R) (hs : ∀ t, M2 t = true → M t = true) (hT : M2 T = false) : Sl (maskW M2 w) sz R v l := by
 have hl := h.len
 have ho := own_mask h.own hT
 rcases h.own.2 with ⟨rfl, h0⟩ | ⟨g, cap, cur, rfl, hbg, hgg, hc, hm, hs2, ht⟩
 ·have hn : l = [] := List.eq_nil_of_length_eq_zero (by omega)
  subst hn
  exact Sl.nil _ _ _
 ·refine ⟨some ⟨g, 0, none⟩, cap, by rw [hl], by rw [← hl]; exact hc, (fun h => nomatch h), fun i hi => ?_⟩
  have hi' : i < xss.length := by rw [hl]; exact hi
  refine ⟨g, 0, xss[i], rfl, h.sz _ (List.getElem_mem hi'), fun j hj => ?_, hR _ _ _ _ (maskW_sub w hs) (h.rd i hi' hi)⟩
  have h1 : (xss.flatMap id)[i * sz + j]? = some xss[i][j] := by
   rw [flat_get id sz xss i j hi' h.sz (by rw [← h.sz _ (List.getElem_mem hi')]; exact hj)]
   exact List.getElem?_eq_getElem hj
  have h2 := ho.cells (g := g) rfl (i * sz + j) _ h1
  rw [add_lit0] at h2
  rw [Nat.zero_add]
  exact h2
def CapOk (v : Value) : Prop := ∀ a n c, v = .slice a n c → n ≤ c
theorem own_cap {w : World} {base : Nat} {e : TypeId} {sz : Nat} {v : Value} {n : Nat} {xs : List Value} (h : w.ownsRow base e sz v n xs) : CapOk v := by
 intro a m c hv
 rcases h.2 with ⟨h1, _⟩ | ⟨g, cap, cur, h1, _, _, hc, _⟩
 ·rw [h1] at hv; cases hv; exact Nat.le_refl _
 ·rw [h1] at hv; cases hv; exact hc
def RWy (w : World) (vs : List Value) (x : Wy) : Prop := ∃ vp vo va, vs = [vp, vo, va, .int .i64 x.near] ∧ ILv w vp x.path ∧ ILv w vo x.over ∧ Asks w va x.asks ∧ CapOk vp
def RJl (w : World) (vs : List Value) (x : List Jn) : Prop := ∃ v, vs = [v] ∧ Jns w v x
def Wys (w : World) (v : Value) (l : List Wy) : Prop := Sl w 4 RWy v l
def Jls (w : World) (v : Value) (l : List (List Jn)) : Prop := Sl w 1 RJl v l
theorem keepsC_wy : KeepsC RWy := fun _ _ _ _ he ⟨vp, vo, va, h1, h2, h3, h4, h5⟩ => ⟨vp, vo, va, h1, h2.ext he, h3.ext he, h4.ext keepsC_ask he, h5⟩
theorem keepsC_jl : KeepsC RJl := fun _ _ _ _ he ⟨v, h1, h2⟩ => ⟨v, h1, h2.ext keepsC_jn he⟩
theorem info184 : (Tryz.prog.info? 184).map (fun i => (i.zero, i.size, i.bytes)) = some (some (.agg #[.slice none 0 0, .slice none 0 0, .slice none 0 0, .int .i64 0]), 4, 80) := by kernel_rfl
theorem info78 : (Tryz.prog.info? 78).map (fun i => (i.zero, i.size, i.bytes)) = some (some (.slice none 0 0), 1, 24) := by kernel_rfl
def AllPost (w : World) (p : Pl) (e : Ending) (w' : World) : Prop :=
 Below w.heap.size w w' ∧
 ((¬ PlanMay p ∧ e = .returned (.tuple #[.slice none 0 0, .slice none 0 0, .int .i64 8])) ∨
  (PlanMay p ∧ ¬ WaysMay p ∧ e = .returned (.tuple #[.slice none 0 0, .slice none 0 0, .int .i64 90])) ∨
  (PlanMay p ∧ WaysMay p ∧ ∃ v1 v2, e = .returned (.tuple #[v1, v2, .int .i64 0]) ∧ Wys (maskW MG w') v1 (p.rts.map (wyOf p)) ∧ Jls w' v2 (p.rts.map (outsOf p))))
theorem one4 (a b c : Option Addr) (l m n i j k : Nat) (x : Int) : ∀ u ∈ [Value.slice a l i, .slice b m j, .slice c n k, .int .i64 x], u.oneCell' = true := by
 intro u hu
 simp only [List.mem_cons, List.not_mem_nil, or_false] at hu
 rcases hu with rfl | rfl | rfl | rfl <;> rfl
theorem one1 (a : Option Addr) (l i : Nat) : ∀ u ∈ [Value.slice a l i], u.oneCell' = true := by
 intro u hu
 simp only [List.mem_cons, List.not_mem_nil, or_false] at hu
 rcases hu with rfl
 rfl
set_option maxRecDepth 100000 in
set_option maxHeartbeats 8000000 in
theorem all_any (p : Pl) (s q gg rr : Value) (w : World) (hp : PlM w s q gg rr p) (hf : p.Fit) : Calls Tryz.prog 120 #[plV p s q gg rr] w (AllPost w p) := by
 have HCK : Hid (∀ w', Below w.heap.size w w' → Calls Tryz.prog 208 #[plV p s q gg rr] w' (ErrPost w' (if PlanMay p then 0 else 8))) := fun w' hb => plancheck_any p s q gg rr w' (hp.below hb) hf
 have HFO : Hid (PlanMay p → ∀ k (h : k < p.rts.length) vp vo vf w', Below w.heap.size w w' → RtM w' vp vo vf p.rts[k] → Calls Tryz.prog 209 #[plV p s q gg rr, .agg #[.int .i64 p.rts[k].id, .int .i64 p.rts[k].entry, .int .i64 p.rts[k].exit, vp, vo, vf, .int .i64 p.rts[k].timer]] w' (FolPost w' p p.rts[k])) :=
  fun hM k h vp vo vf w' hb hr => followed_any p p.rts[k] s q gg rr vp vo vf w' (hp.below hb) hf hr hM (hM.2.2 k h h)
 obtain ⟨a1, c1, rfl, -⟩ := hp.secs
 obtain ⟨a2, c2, rfl, -⟩ := hp.pts
 obtain ⟨a3, c3, rfl, -⟩ := hp.sigs
 obtain ⟨a4, c4, rfl, k4⟩ := hp.rts
 have HR : Hid (∀ w', Below w.heap.size w w' → SlA w' 7 RRt a4 c4 p.rts) := fun w' hb => k4.below keeps_rt hb
 have hr := hf.rts
 clear hp hf k4
 unfold plV at *
 go_enter Tryz.func120, Tryz.ntmps120
 go_wp2_with fail
 generalize hW : w.alloc _ = W
 have hbW : Below w.heap.size w W := by rw [← hW]; exact (Below.refl _ _).alloc (Nat.le_refl _) _
 have K0 := Lib.hid hbW
 have HY : Hid (∀ W', Below W.heap.size W W' → W'.cell? ⟨w.heap.size, 0, none⟩ = some (.int .i64 p.ver) ∧ W'.cell? ⟨w.heap.size, 1, none⟩ = some (.int .i64 p.par) ∧ W'.cell? ⟨w.heap.size, 2, none⟩ = some (.slice a1 p.secs.length c1) ∧ W'.cell? ⟨w.heap.size, 3, none⟩ = some (.slice a2 p.pts.length c2) ∧ W'.cell? ⟨w.heap.size, 4, none⟩ = some (.slice a3 p.sigs.length c3) ∧ W'.cell? ⟨w.heap.size, 5, none⟩ = some (.slice a4 p.rts.length c4) ∧ w.heap.size < W'.heap.size) := fun W' hb =>
  ⟨ccell hb (by rw [← hW]; simp), ccell hb (by rw [← hW]; simp), ccell hb (by rw [← hW]; simp), ccell hb (by rw [← hW]; simp), ccell hb (by rw [← hW]; simp), ccell hb (by rw [← hW]; simp), Nat.lt_of_lt_of_le (by rw [← hW]; simp) hb.size⟩
 clear hW hbW
 refine (HCK.out W K0.out).mono ?_
 rintro e w1 ⟨rfl, hb1⟩
 have HB1 := Lib.hid hb1
 have K1 : Hid (Below w.heap.size w w1) := K0.out.trans (hb1.mono K0.out.size)
 clear hb1 HCK
 by_cases hM : PlanMay p
 ·rw [if_pos hM]
  have HM := Lib.hid hM
  have HFF := Lib.hid (HFO.out hM)
  obtain ⟨y0, y1, y2, y3, y4, y5, ly⟩ := HY.out _ HB1.out
  clear hM HFO
  go_wp2_with fail
  go_loopg [2, 3, 4, 17] p.rts.length (fun g i1 i2 i4 j wr => ∃ (k : Nat) (b1 b2 : Option Addr) (d1 d2 : Nat) (x1 x2 : List (List Value)), k ≤ p.rts.length ∧ g = p.rts.length - k ∧ i1 = .slice b1 k d1 ∧ i2 = .slice b2 k d2 ∧ i4 = .int .i64 0 ∧ j = .int .i64 k ∧ Below W.heap.size W wr ∧ RowsX MA wr W.heap.size 184 4 RWy (.slice b1 k d1) ((p.rts.take k).map (wyOf p)) x1 ∧ RowsX MA wr W.heap.size 78 1 RJl (.slice b2 k d2) ((p.rts.take k).map (outsOf p)) x2 ∧ WaysTo p k)
  case atStart => exact ⟨0, none, none, 0, 0, [], [], by omega, by omega, rfl, rfl, rfl, rfl, HB1.out, RowsX.nil, RowsX.nil, fun i hi h => absurd h (by omega)⟩
  case round =>
   obtain ⟨k, b1, b2, d1, d2, x1, x2, hk, rfl, rfl, rfl, rfl, rfl, hb, hx1, hx2, hA⟩ := hrel
   obtain ⟨wo, rfl⟩ : ∃ wo : World, wo = wr := ⟨_, rfl⟩
   have HB := Lib.hid hb
   have HX1 := Lib.hid hx1
   have HX2 := Lib.hid hx2
   have HA := Lib.hid hA
   have HB0 : Hid (Below w.heap.size w wo) := K0.out.trans (hb.mono K0.out.size)
   clear hb hA hx1 hx2 y0 y1 y2 y3 y4 y5 ly
   by_cases hlt : k < p.rts.length
   ·have hdk : decide ((k : Int) < (p.rts.length : Int)) = true := by simp; omega
    obtain ⟨b, off, vp, vo, vf, rfl, r0, r1, r2, r3, r4, r5, r6, hrm⟩ := (HR.out _ HB0.out).rt hlt
    obtain ⟨ap, cp, rfl, -⟩ := hrm.path.at_
    obtain ⟨ao, co, rfl, -⟩ := hrm.over.at_
    obtain ⟨af, cf, rfl, -⟩ := hrm.fl
    have HRM := Lib.hid hrm
    have e0 : (0 : Int) ≤ (k : Int) := by omega
    have e1 : (k : Int) < (p.rts.length : Int) := by omega
    have lb := World.block_lt_of_cell? _ _ r0
    clear hrm
    go_upto_region 6 with fail
    generalize hW6 : wo.alloc _ = W6
    have hb6 : Below wo.heap.size wo W6 := by rw [← hW6]; exact (Below.refl _ _).alloc (Nat.le_refl _) _
    have HB6 : Hid (Below W.heap.size W W6) := HB.out.trans (hb6.mono HB.out.size)
    have HB06 : Hid (Below w.heap.size w W6) := HB0.out.trans (hb6.mono HB0.out.size)
    have q0 : W6.cell? ⟨wo.heap.size, 0, none⟩ = some (.int .i64 p.rts[k].id) := by rw [← hW6]; simp
    have q1 : W6.cell? ⟨wo.heap.size, 1, none⟩ = some (.int .i64 p.rts[k].entry) := by rw [← hW6]; simp
    have q2 : W6.cell? ⟨wo.heap.size, 2, none⟩ = some (.int .i64 p.rts[k].exit) := by rw [← hW6]; simp
    have q3 : W6.cell? ⟨wo.heap.size, 3, none⟩ = some (.slice ap p.rts[k].path.length cp) := by rw [← hW6]; simp
    have q4 : W6.cell? ⟨wo.heap.size, 4, none⟩ = some (.slice ao p.rts[k].over.length co) := by rw [← hW6]; simp
    have q5 : W6.cell? ⟨wo.heap.size, 5, none⟩ = some (.slice af p.rts[k].fl.length cf) := by rw [← hW6]; simp
    have q6 : W6.cell? ⟨wo.heap.size, 6, none⟩ = some (.int .i64 p.rts[k].timer) := by rw [← hW6]; simp
    have HX16 := Lib.hid (HX1.out.below keepsC_wy hb6)
    have HX26 := Lib.hid (HX2.out.below keepsC_jl hb6)
    have HRM6 := Lib.hid (HRM.out.below hb6)
    obtain ⟨y0, y1, y2, y3, y4, y5, ly⟩ := HY.out _ HB6.out
    have HCL := Lib.hid (HFF.out k hlt _ _ _ W6 HB06.out HRM6.out)
    clear hW6 hb6 r0 r1 r2 r3 r4 r5 r6 lb HX1 HX2
    go_wp2_with fail
    refine HCL.out.mono ?_
    rintro e w7 ⟨hb7, hfol⟩
    have HB7 : Hid (Below W.heap.size W w7) := HB6.out.trans (hb7.mono HB6.out.size)
    have HB07 : Hid (Below w.heap.size w w7) := HB06.out.trans (hb7.mono HB06.out.size)
    have HX17 := Lib.hid (HX16.out.below keepsC_wy hb7)
    have HX27 := Lib.hid (HX26.out.below keepsC_jl hb7)
    clear hb7 HCL HX16 HX26 y0 y1 y2 y3 y4 y5 ly q0 q1 q2 q3 q4 q5 q6
    rcases hfol with ⟨hL, rfl⟩ | ⟨hL, vp, vo, va, vx, rfl, o1, o2, o3, o4⟩
    ·have HNW : Hid (¬ WaysMay p) := fun h => by have := h k hlt hlt; rw [hL] at this; cases this
     clear hL
     go_wp2_with fail
     exact bodyPost_ret (v := .tuple #[.slice none 0 0, .slice none 0 0, .int .i64 90]) (by simp [results, Tryz.f120, go_sem]) rfl ⟨HB07.out.alloc HB07.out.size _, .inr (.inl ⟨HM.out, HNW.out, rfl⟩)⟩
    ·obtain ⟨ap', cp', rfl⟩ := o1.slice
     obtain ⟨ao', co', rfl⟩ := o2.slice
     obtain ⟨aa', ca', rfl⟩ := own_slice o3
     obtain ⟨ax', cx', rfl⟩ := own_slice o4
     have HST := Lib.hid (waysTo_step hlt HA.out hL)
     have O1 := Lib.hid o1
     have HC1 := Lib.hid (own_cap o1)
     have O2 := Lib.hid o2
     have O3 := Lib.hid o3
     have O4 := Lib.hid o4
     clear hL o1 o2 o3 o4
     go_upto_region 9 with fail
     generalize hWA : w7.alloc _ = WA
     have hbA : Below w7.heap.size w7 WA := by rw [← hWA]; exact (Below.refl _ _).alloc (Nat.le_refl _) _
     have HBA : Hid (Below W.heap.size W WA) := HB7.out.trans (hbA.mono HB7.out.size)
     have u0 : WA.cell? ⟨w7.heap.size, 0, none⟩ = some (.slice ap' p.rts[k].path.length cp') := by rw [← hWA]; simp
     have u1 : WA.cell? ⟨w7.heap.size, 1, none⟩ = some (.slice ao' p.rts[k].over.length co') := by rw [← hWA]; simp
     have u2 : WA.cell? ⟨w7.heap.size, 2, none⟩ = some (.slice aa' (wyOf p p.rts[k]).asks.length ca') := by rw [← hWA]; simp
     have u3 : WA.cell? ⟨w7.heap.size, 3, none⟩ = some (.int .i64 (wyOf p p.rts[k]).near) := by rw [← hWA]; simp
     have hX1 := HX17.out.below keepsC_wy hbA
     have hX2 := HX27.out.below keepsC_jl hbA
     have hx1l : x1.length = k := by have := hX1.len; simp at this; omega
     have hx2l : x2.length = k := by have := hX2.len; simp at this; omega
     have HX1A := Lib.hid hX1
     have HX2A := Lib.hid hX2
     have OW1 : Hid (WA.ownsRow W.heap.size 184 4 (.slice b1 k d1) k (x1.flatMap id)) := by have := hX1.own; rw [hx1l] at this; exact this
     have HL1 := Lib.hid hx1l
     have HL2 := Lib.hid hx2l
     have O1A : Hid (ILv (maskW MA WA) (.slice ap' p.rts[k].path.length cp') p.rts[k].path) := ilv_of_own (own_mask (own_below O1.out hbA) rfl)
     have O2A : Hid (ILv (maskW MA WA) (.slice ao' p.rts[k].over.length co') p.rts[k].over) := ilv_of_own (own_mask (own_below O2.out hbA) rfl)
     have O3A : Hid (Asks (maskW MA WA) (.slice aa' (wyOf p p.rts[k]).asks.length ca') (wyOf p p.rts[k]).asks) := AskOwn.sl (own_mask (own_below O3.out hbA) rfl)
     have O4A : Hid (Jns (maskW MA WA) (.slice ax' (outsOf p p.rts[k]).length cx') (outsOf p p.rts[k])) := JnOwn.sl (own_mask (own_below O4.out hbA) rfl)
     have HRW : Hid (RWy (maskW MA WA) [.slice ap' p.rts[k].path.length cp', .slice ao' p.rts[k].over.length co', .slice aa' (wyOf p p.rts[k]).asks.length ca', .int .i64 (wyOf p p.rts[k]).near] (wyOf p p.rts[k])) := ⟨_, _, _, rfl, O1A.out, O2A.out, O3A.out, HC1.out⟩
     have HRJ : Hid (RJl (maskW MA WA) [.slice ax' (outsOf p p.rts[k]).length cx'] (outsOf p p.rts[k])) := ⟨_, rfl, O4A.out⟩
     have HT1 : Hid ((p.rts.take (k + 1)).map (wyOf p) = (p.rts.take k).map (wyOf p) ++ [wyOf p p.rts[k]]) := by show _ = _; rw [List.take_succ_eq_append_getElem hlt, List.map_append]; rfl
     have HT2 : Hid ((p.rts.take (k + 1)).map (outsOf p) = (p.rts.take k).map (outsOf p) ++ [outsOf p p.rts[k]]) := by show _ = _; rw [List.take_succ_eq_append_getElem hlt, List.map_append]; rfl
     have hk1000 : k ≤ 1000 := by omega
     have hbase : W.heap.size ≤ WA.heap.size := HBA.out.size
     generalize wyOf p p.rts[k] = WY at *
     generalize outsOf p p.rts[k] = OU at *
     clear hWA hbA hX1 hX2 hx1l hx2l
     go_wp2_with (first
      | (at_builtin; refine wpList_append_one rfl _ _ 169 184 184 _ 4 80 rfl Tryz.underlying169 info184 rfl (by decide) (by decide) W.heap.size (.slice b1 k d1) k _ rfl OW1.out hk1000 hbase [.slice ap' p.rts[k].path.length cp', .slice ao' p.rts[k].over.length co', .slice aa' WY.asks.length ca', .int .i64 WY.near] rfl rfl (one4 _ _ _ _ _ _ _ _ _ _) ?_; intro b8 c8 w8 hown8 hgr8; have hb8 : W.heap.size ≤ w8.heap.size := Nat.le_trans hbase (Nat.le_trans (by simp) hgr8.size); have OW2 : w8.ownsRow W.heap.size 78 1 (.slice b2 k d2) k (x2.flatMap id) := by { have := ((HX2A.out.below keepsC_jl ((Below.refl _ WA).alloc (Nat.le_refl _) _)).other keepsC_jl (OW1.out.alloc _) rfl (by decide) hgr8).own; rw [HL2.out] at this; exact this })
      | (at_builtin; refine wpList_append_one rfl _ _ 178 78 78 _ 1 24 rfl Tryz.underlying178 info78 rfl (by decide) (by decide) W.heap.size (.slice b2 k d2) k _ rfl OW2 hk1000 hb8 [.slice ax' OU.length cx'] rfl rfl (one1 _ _ _) ?_; intro b9 c9 w9 hown9 hgr9))
     have hbA1 : Below WA.heap.size WA (WA.alloc (.cells [Value.slice ap' p.rts[k].path.length cp', .slice ao' p.rts[k].over.length co', .slice aa' WY.asks.length ca', .int .i64 WY.near].toArray 184)) := (Below.refl _ _).alloc (Nat.le_refl _) _
     have hX18 := (HX1A.out.below keepsC_wy hbA1).app keepsC_wy rfl rfl (keepsC_wy _ _ _ _ (Same.of_below hbA1).ext HRW.out) (by rw [HL1.out]; exact hown8) hgr8
     have hX28 := (HX2A.out.below keepsC_jl hbA1).other keepsC_jl (OW1.out.alloc _) rfl (by decide) hgr8
     have hb89 : Below w8.heap.size w8 (w8.alloc (.cells [Value.slice ax' OU.length cx'].toArray 78)) := (Below.refl _ _).alloc (Nat.le_refl _) _
     have hrj8 : RJl (maskW MA w8) [.slice ax' OU.length cx'] OU := keepsC_jl _ _ _ _ ((Same.of_below hbA1).trans (grown_same (OW1.out.alloc _) rfl hgr8)).ext HRJ.out
     have hX29 := (hX28.below keepsC_jl hb89).app keepsC_jl rfl rfl (keepsC_jl _ _ _ _ (Same.of_below hb89).ext hrj8) (by rw [HL2.out]; exact hown9) hgr9
     have hX19 := (hX18.below keepsC_wy hb89).other keepsC_wy (OW2.alloc _) rfl (by decide) hgr9
     have hB8 : Below W.heap.size W w8 := (HBA.out.alloc hbase _).trans (grown_below (OW1.out.alloc _) (Nat.le_refl _) (by simp; omega) hgr8)
     have hB9 : Below W.heap.size W w9 := (hB8.alloc hb8 _).trans (grown_below (OW2.alloc _) (Nat.le_refl _) (by simp; omega) hgr9)
     rw [← HT1.out] at hX19
     rw [← HT2.out] at hX29
     go_roundg (p.rts.length - (k + 1))
     case measure => go_light; omega
     case rel => go_light; exact ⟨k + 1, _, _, _, _, _, _, by omega, by omega, rfl, rfl, rfl, by go_num, hB9, hX19, hX29, HST.out⟩
   ·obtain rfl : k = p.rts.length := by omega
    have hdk : decide ((p.rts.length : Int) < (p.rts.length : Int)) = false := by simp
    go_wp2_with fail
    have h1 := HX1.out.slM keepsC_wy MG_sub rfl
    have h2 := HX2.out.sl keepsC_jl
    rw [List.take_length] at h1 h2
    exact bodyPost_ret (v := .tuple #[.slice b1 p.rts.length d1, .slice b2 p.rts.length d2, .int .i64 0]) (by simp [results, Tryz.f120, go_sem]) rfl ⟨HB0.out, .inr (.inr ⟨HM.out, HA.out, _, _, rfl, h1, h2⟩)⟩
 ·rw [if_neg hM]
  have HM := Lib.hid hM
  clear hM
  go_wp2_with fail
  exact bodyPost_ret (v := .tuple #[.slice none 0 0, .slice none 0 0, .int .i64 8]) (by simp [results, Tryz.f120, go_sem]) rfl ⟨K1.out, .inl ⟨HM.out, rfl⟩⟩
end Go.Proofs.YtbiehpjhhopjaaaGreat
namespace Go.Proofs.YtbiehpjhhopjaaaGreat
open Go.RowKit Go.Sort
def PlanSound (p : Pl) : Prop := PlanMay p ∧ WaysMay p ∧ SoundTo p p.rts.length
instance (p : Pl) : Decidable (PlanSound p) := by unfold PlanSound; exact inferInstance
theorem SlA.wy {w : World} {a : Option Addr} {cap : Nat} {l : List Wy} (h : SlA w 4 RWy a cap l) {i : Nat} (hi : i < l.length) : ∃ b off vp vo va, a = some ⟨b, off, none⟩ ∧ w.cell? ⟨b, off + i * 4, none⟩ = some vp ∧ w.cell? ⟨b, off + i * 4 + 1, none⟩ = some vo ∧ w.cell? ⟨b, off + i * 4 + 2, none⟩ = some va ∧ w.cell? ⟨b, off + i * 4 + 3, none⟩ = some (.int .i64 l[i].near) ∧ ILv w vp l[i].path ∧ ILv w vo l[i].over ∧ Asks w va l[i].asks := by
 obtain ⟨b, off, vs, e, hl, hc, vp, vo, va, rfl, h1, h2, h3, -⟩ := h.at_ i hi
 exact ⟨b, off, vp, vo, va, e, hc 0 (by simp), hc 1 (by simp), hc 2 (by simp), hc 3 (by simp), h1, h2, h3⟩
theorem SlA.wyc {w : World} {a : Option Addr} {cap : Nat} {l : List Wy} (h : SlA w 4 RWy a cap l) {i : Nat} (hi : i < l.length) : ∃ b off vp vo va, a = some ⟨b, off, none⟩ ∧ w.cell? ⟨b, off + i * 4, none⟩ = some vp ∧ w.cell? ⟨b, off + i * 4 + 1, none⟩ = some vo ∧ w.cell? ⟨b, off + i * 4 + 2, none⟩ = some va ∧ w.cell? ⟨b, off + i * 4 + 3, none⟩ = some (.int .i64 l[i].near) ∧ ILv w vp l[i].path ∧ ILv w vo l[i].over ∧ Asks w va l[i].asks ∧ CapOk vp := by
 obtain ⟨b, off, vs, e, hl, hc, vp, vo, va, rfl, h1, h2, h3, h4⟩ := h.at_ i hi
 exact ⟨b, off, vp, vo, va, e, hc 0 (by simp), hc 1 (by simp), hc 2 (by simp), hc 3 (by simp), h1, h2, h3, h4⟩
theorem SlA.jl {w : World} {a : Option Addr} {cap : Nat} {l : List (List Jn)} (h : SlA w 1 RJl a cap l) {i : Nat} (hi : i < l.length) : ∃ b off v, a = some ⟨b, off, none⟩ ∧ w.cell? ⟨b, off + i, none⟩ = some v ∧ Jns w v l[i] := by
 obtain ⟨b, off, vs, e, hl, hc, v, rfl, h1⟩ := h.at_ i hi
 exact ⟨b, off, v, e, by simpa using hc 0 (by simp), h1⟩
set_option maxRecDepth 100000 in
set_option maxHeartbeats 8000000 in
theorem soundcheck_any (p : Pl) (s q gg rr : Value) (w : World) (hp : PlM w s q gg rr p) (hf : p.Fit) : Calls Tryz.prog 58 #[plV p s q gg rr] w (ErrPost w (if PlanSound p then 0 else 100)) := by
 have HAL : Hid (∀ w', Below w.heap.size w w' → Calls Tryz.prog 120 #[plV p s q gg rr] w' (AllPost w' p)) := fun w' hb => all_any p s q gg rr w' (hp.below hb) hf
 have HCLR : Hid (∀ k (h : k < p.rts.length) vp vo vf a cap (outs : List Jn) w', Below w.heap.size w w' → RtM w' vp vo vf p.rts[k] → SlA w' 2 RJn a cap outs → outs.length ≤ 1000 → p.rts[k].path.length ≤ 6 → p.rts[k].path.length ≤ outs.length → Calls Tryz.prog 122 #[plV p s q gg rr, .agg #[.int .i64 p.rts[k].id, .int .i64 p.rts[k].entry, .int .i64 p.rts[k].exit, vp, vo, vf, .int .i64 p.rts[k].timer], .slice a outs.length cap] w' (BoolPost w' (decide (Clear p p.rts[k] outs)))) :=
  fun k h vp vo vf a cap outs w' hb h1 h2 h3 h4 h5 => clear_any p p.rts[k] s q gg rr vp vo vf a cap outs w' (hp.below hb) hf h1 h2 h3 h4 h5
 have HE : Hid (∀ n : Int, (PlanSound p → n = 0) → (¬ PlanSound p → n = 100) → (if PlanSound p then (0 : Int) else 100) = n) := fun n h1 h2 => by
  by_cases h : PlanSound p
  ·rw [if_pos h, h1 h]
  ·rw [if_neg h, h2 h]
 have HU : Hid (PlanSound p ↔ PlanMay p ∧ WaysMay p ∧ SoundTo p p.rts.length) := Iff.rfl
 generalize (if PlanSound p then (0 : Int) else 100) = E at *
 obtain ⟨a1, c1, rfl, -⟩ := hp.secs
 obtain ⟨a2, c2, rfl, -⟩ := hp.pts
 obtain ⟨a3, c3, rfl, -⟩ := hp.sigs
 obtain ⟨a4, c4, rfl, k4⟩ := hp.rts
 have HR : Hid (∀ w', Below w.heap.size w w' → SlA w' 7 RRt a4 c4 p.rts) := fun w' hb => k4.below keeps_rt hb
 have hr := hf.rts
 clear hp hf k4
 unfold plV at *
 go_enter Tryz.func58, Tryz.ntmps58
 go_wp2_with fail
 generalize hW : w.alloc _ = W
 have hbW : Below w.heap.size w W := by rw [← hW]; exact (Below.refl _ _).alloc (Nat.le_refl _) _
 have K0 := Lib.hid hbW
 have HY : Hid (∀ W', Below W.heap.size W W' → W'.cell? ⟨w.heap.size, 0, none⟩ = some (.int .i64 p.ver) ∧ W'.cell? ⟨w.heap.size, 1, none⟩ = some (.int .i64 p.par) ∧ W'.cell? ⟨w.heap.size, 2, none⟩ = some (.slice a1 p.secs.length c1) ∧ W'.cell? ⟨w.heap.size, 3, none⟩ = some (.slice a2 p.pts.length c2) ∧ W'.cell? ⟨w.heap.size, 4, none⟩ = some (.slice a3 p.sigs.length c3) ∧ W'.cell? ⟨w.heap.size, 5, none⟩ = some (.slice a4 p.rts.length c4) ∧ w.heap.size < W'.heap.size) := fun W' hb =>
  ⟨ccell hb (by rw [← hW]; simp), ccell hb (by rw [← hW]; simp), ccell hb (by rw [← hW]; simp), ccell hb (by rw [← hW]; simp), ccell hb (by rw [← hW]; simp), ccell hb (by rw [← hW]; simp), Nat.lt_of_lt_of_le (by rw [← hW]; simp) hb.size⟩
 clear hW hbW
 refine (HAL.out W K0.out).mono ?_
 rintro e w1 ⟨hb1, hall⟩
 have HB1 := Lib.hid hb1
 have K1 : Hid (Below w.heap.size w w1) := K0.out.trans (hb1.mono K0.out.size)
 clear hb1 HAL
 rcases hall with ⟨hM, rfl⟩ | ⟨hM, hWM, rfl⟩ | ⟨hM, hWM, v1, v2, rfl, hv1, hv2⟩
 ·have HE8 : Hid (E = 100) := HE.out 100 (fun h => absurd h.1 hM) (fun _ => rfl)
  clear hM
  go_wp2_with fail
  go_ret
  exact ⟨rint HE8.out.symm, K1.out⟩
 ·have HE8 : Hid (E = 100) := HE.out 100 (fun h => absurd h.2.1 hWM) (fun _ => rfl)
  clear hM hWM
  go_wp2_with fail
  go_ret
  exact ⟨rint HE8.out.symm, K1.out⟩
 ·have HM := Lib.hid hM
  have HWM := Lib.hid hWM
  obtain ⟨b1, d1, rfl, h1⟩ := Sl.ext keepsC_wy hv1 (maskW_ext MG w1)
  obtain ⟨b2, d2, rfl, h2⟩ := hv2
  have HV1 : Hid (∀ W', Below w1.heap.size w1 W' → SlA W' 4 RWy b1 d1 (p.rts.map (wyOf p))) := fun W' hb => h1.below keepsC_wy.keeps hb
  have HV2 : Hid (∀ W', Below w1.heap.size w1 W' → SlA W' 1 RJl b2 d2 (p.rts.map (outsOf p))) := fun W' hb => h2.below keepsC_jl.keeps hb
  have hl1 : (p.rts.map (wyOf p)).length = p.rts.length := List.length_map _
  have hl2 : (p.rts.map (outsOf p)).length = p.rts.length := List.length_map _
  rw [hl1, hl2]
  obtain ⟨y0, y1, y2, y3, y4, y5, ly⟩ := HY.out _ HB1.out
  clear hM hWM h1 h2 hl1 hl2
  go_wp2_with fail
  go_loopg [19] p.rts.length (fun g j wr => ∃ k : Nat, k ≤ p.rts.length ∧ g = p.rts.length - k ∧ j = .int .i64 k ∧ Below w1.heap.size w1 wr ∧ SoundTo p k)
  case atStart => exact ⟨0, by omega, by omega, rfl, Below.refl _ _, fun i hi h => absurd h (by omega)⟩
  case round =>
   obtain ⟨k, hk, rfl, rfl, hb, hA⟩ := hrel
   obtain ⟨wo, rfl⟩ : ∃ wo : World, wo = wr := ⟨_, rfl⟩
   have HB := Lib.hid hb
   have HA := Lib.hid hA
   have HBW : Hid (Below W.heap.size W wo) := HB1.out.trans (hb.mono HB1.out.size)
   have HB0 : Hid (Below w.heap.size w wo) := K1.out.trans (hb.mono K1.out.size)
   clear hb hA y0 y1 y2 y3 y4 y5 ly
   by_cases hlt : k < p.rts.length
   ·have hdk : decide ((k : Int) < (p.rts.length : Int)) = true := by simp; omega
    obtain ⟨b, off, vp, vo, vf, rfl, r0, r1, r2, r3, r4, r5, r6, hrm⟩ := (HR.out _ HB0.out).rt hlt
    obtain ⟨ap, cp, rfl, -⟩ := hrm.path.at_
    obtain ⟨ao, co, rfl, -⟩ := hrm.over.at_
    obtain ⟨af, cf, rfl, -⟩ := hrm.fl
    have HRM := Lib.hid hrm
    have e0 : (0 : Int) ≤ (k : Int) := by omega
    have e1 : (k : Int) < (p.rts.length : Int) := by omega
    have lb := World.block_lt_of_cell? _ _ r0
    clear hrm
    go_upto_region 7 with fail
    generalize hW6 : wo.alloc _ = W6
    have hb6 : Below wo.heap.size wo W6 := by rw [← hW6]; exact (Below.refl _ _).alloc (Nat.le_refl _) _
    have HB6 : Hid (Below w1.heap.size w1 W6) := HB.out.trans (hb6.mono HB.out.size)
    have HB06 : Hid (Below w.heap.size w W6) := HB0.out.trans (hb6.mono HB0.out.size)
    have HBW6 : Hid (Below W.heap.size W W6) := HBW.out.trans (hb6.mono HBW.out.size)
    have q0 := cell_regrown (show W6.cell? ⟨wo.heap.size, 0, none⟩ = some (.int .i64 p.rts[k].id) by rw [← hW6]; simp)
    have q1 := cell_regrown (show W6.cell? ⟨wo.heap.size, 1, none⟩ = some (.int .i64 p.rts[k].entry) by rw [← hW6]; simp)
    have q2 := cell_regrown (show W6.cell? ⟨wo.heap.size, 2, none⟩ = some (.int .i64 p.rts[k].exit) by rw [← hW6]; simp)
    have q3 := cell_regrown (show W6.cell? ⟨wo.heap.size, 3, none⟩ = some (.slice ap p.rts[k].path.length cp) by rw [← hW6]; simp)
    have q4 := cell_regrown (show W6.cell? ⟨wo.heap.size, 4, none⟩ = some (.slice ao p.rts[k].over.length co) by rw [← hW6]; simp)
    have q5 := cell_regrown (show W6.cell? ⟨wo.heap.size, 5, none⟩ = some (.slice af p.rts[k].fl.length cf) by rw [← hW6]; simp)
    have q6 := cell_regrown (show W6.cell? ⟨wo.heap.size, 6, none⟩ = some (.int .i64 p.rts[k].timer) by rw [← hW6]; simp)
    obtain ⟨y0, y1, y2, y3, y4, y5, ly⟩ := HY.out _ HBW6.out
    have z0 := cell_regrown y0
    have z1 := cell_regrown y1
    have z2 := cell_regrown y2
    have z3 := cell_regrown y3
    have z4 := cell_regrown y4
    have z5 := cell_regrown y5
    obtain ⟨bb1, of1, wp, wo', wa, rfl, x0, x1, x2, x3, i1, i2, i3⟩ := (HV1.out _ HB6.out).wy (i := k) (by rw [List.length_map]; exact hlt)
    obtain ⟨bb2, of2, wj, rfl, xj, ij⟩ := (HV2.out _ HB6.out).jl (i := k) (by rw [List.length_map]; exact hlt)
    rw [List.getElem_map] at i3 ij
    obtain ⟨aa, ca, rfl, i3⟩ := i3
    obtain ⟨aj, cj, rfl, ij⟩ := ij
    have u2 := cell_regrown x2
    have uj := cell_regrown xj
    have HRM6 := Lib.hid (HRM.out.below hb6)
    have hMk := HM.out.2.2 k hlt hlt
    have hPf : AsksFit (wyOf p p.rts[k]).asks := asks_fit HM.out.1.2.2.2.2.2.1 HM.out.2.1.1.1.1 hMk.2.2
    have hal : (wyOf p p.rts[k]).asks.length ≤ 1000 := by
     have h1 := wkFl_len (wkEnd p p.rts[k]) p.rts[k].fl p.rts[k].fl.length
     have h2 := (wkTo_len p p.rts[k] (allOf p.rts[k]).length).1
     have h3 : (allOf p.rts[k]).length = p.rts[k].path.length + p.rts[k].over.length := List.length_append
     have h4 := hMk.1.2.2.2.2.1
     have h5 := hMk.1.2.2.2.2.2.1
     have h6 := hMk.1.2.2.2.2.2.2.1
     show (wkFl (wkEnd p p.rts[k]) p.rts[k].fl p.rts[k].fl.length).asks.length ≤ 1000
     unfold wkEnd at h1 ⊢
     omega
    have hol : (outsOf p p.rts[k]).length ≤ 1000 := by
     have h2 := (wkTo_len p p.rts[k] (allOf p.rts[k]).length).2
     have h3 : (allOf p.rts[k]).length = p.rts[k].path.length + p.rts[k].over.length := List.length_append
     have h4 := hMk.1.2.2.2.2.1
     have h5 := hMk.1.2.2.2.2.2.1
     unfold outsOf wkEnd
     omega
    have hpl : p.rts[k].path.length ≤ (outsOf p p.rts[k]).length := outs_long p p.rts[k] (HWM.out k hlt hlt)
    have hp6 := hMk.1.2.2.2.2.1
    have cO : Hid (∀ d os, Calls Tryz.prog 121 #[.slice aa (wyOf p p.rts[k]).asks.length ca] (grow (redrawn W6 d) os) fun e w'' => e = .returned (.bool (decide (Once (wyOf p p.rts[k]).asks))) ∧ ∃ pp : Regrown, w'' = grow (redrawn W6 pp.d) pp.os) := fun d os => Calls.regrown_of (once_any aa ca _ _ (i3.below keeps_ask (below_regrown W6 d os)) hal hPf)
    have cC : Hid (∀ d os, Calls Tryz.prog 122 #[.agg #[.int .i64 p.ver, .int .i64 p.par, .slice a1 p.secs.length c1, .slice a2 p.pts.length c2, .slice a3 p.sigs.length c3, .slice (some ⟨b, off, none⟩) p.rts.length c4], .agg #[.int .i64 p.rts[k].id, .int .i64 p.rts[k].entry, .int .i64 p.rts[k].exit, .slice ap p.rts[k].path.length cp, .slice ao p.rts[k].over.length co, .slice af p.rts[k].fl.length cf, .int .i64 p.rts[k].timer], .slice aj (outsOf p p.rts[k]).length cj] (grow (redrawn W6 d) os) fun e w'' => e = .returned (.bool (decide (Clear p p.rts[k] (outsOf p p.rts[k])))) ∧ ∃ pp : Regrown, w'' = grow (redrawn W6 pp.d) pp.os) := fun d os => Calls.regrown_of (HCLR.out k hlt _ _ _ aj cj _ _ (HB06.out.trans ((below_regrown W6 d os).mono HB06.out.size)) (HRM6.out.below (below_regrown W6 d os)) (ij.below keeps_jn (below_regrown W6 d os)) hol hp6 hpl)
    have HST : Hid (RtSound p p.rts[k] ↔ Once (wyOf p p.rts[k]).asks ∧ Clear p p.rts[k] (outsOf p p.rts[k])) := Iff.rfl
    have HSS : Hid (RtSound p p.rts[k] → SoundTo p (k + 1)) := soundTo_step hlt HA.out
    have HNS : Hid (¬ RtSound p p.rts[k] → E = 100) := fun h => HE.out 100 (fun h' => absurd (h'.2.2 k hlt hlt) h) (fun _ => rfl)
    clear hW6 hb6 r0 r1 r2 r3 r4 r5 r6 lb x0 x1 x2 x3 xj i1 i2 i3 ij y0 y1 y2 y3 y4 y5 ly hMk hPf hal hol hpl hp6
    by_cases hOn : Once (wyOf p p.rts[k]).asks
    ·have hd1 := decide_eq_true hOn
     rw [hd1] at cO
     by_cases hCl : Clear p p.rts[k] (outsOf p p.rts[k])
     ·have hd2 := decide_eq_true hCl
      rw [hd2] at cC
      have HS2 := Lib.hid (HSS.out (HST.out.2 ⟨hOn, hCl⟩))
      clear hd1 hd2 hOn hCl
      refine wp_region_quiet_below (by kernel_rfl) (by kernel_rfl) ?_
      repeat (go_big_quiet_step (first | (with_reducible exact cO.out _ _) | (with_reducible exact cC.out _ _)))
      refine wpQuiet_nil ?_
      rintro _ ⟨⟨dq, osq⟩, rfl⟩
      go_wp2_with fail
      go_roundg (p.rts.length - (k + 1))
      case measure => go_light; omega
      case rel => go_light; exact ⟨k + 1, by omega, by omega, by go_num, HB6.out.trans ((below_regrown W6 dq osq).mono HB6.out.size), HS2.out⟩
     ·have hd2 := decide_eq_false hCl
      rw [hd2] at cC
      have HS2 := Lib.hid (HNS.out (fun h => hCl (HST.out.1 h).2))
      clear hd1 hd2 hOn hCl
      refine wp_region_quiet_below (by kernel_rfl) (by kernel_rfl) ?_
      repeat (go_big_quiet_step (first | (with_reducible exact cO.out _ _) | (with_reducible exact cC.out _ _)))
      refine wpQuiet_nil ?_
      rintro _ ⟨⟨dq, osq⟩, rfl⟩
      go_wp2_with fail
      go_ret
      exact ⟨rint HS2.out.symm, HB06.out.trans ((below_regrown W6 dq osq).mono HB06.out.size)⟩
    ·have hd1 := decide_eq_false hOn
     rw [hd1] at cO
     have HS2 := Lib.hid (HNS.out (fun h => hOn (HST.out.1 h).1))
     clear hd1 hOn
     refine wp_region_quiet_below (by kernel_rfl) (by kernel_rfl) ?_
     repeat (go_big_quiet_step (first | (with_reducible exact cO.out _ _) | (with_reducible exact cC.out _ _)))
     refine wpQuiet_nil ?_
     rintro _ ⟨⟨dq, osq⟩, rfl⟩
     go_wp2_with fail
     go_ret
     exact ⟨rint HS2.out.symm, HB06.out.trans ((below_regrown W6 dq osq).mono HB06.out.size)⟩
   ·obtain rfl : k = p.rts.length := by omega
    have hdk : decide ((p.rts.length : Int) < (p.rts.length : Int)) = false := by simp
    have HE0 : Hid (E = 0) := HE.out 0 (fun _ => rfl) (fun h' => absurd (HU.out.2 ⟨HM.out, HWM.out, HA.out⟩) h')
    go_wp2_with fail
    go_ret
    exact ⟨rint HE0.out.symm, HB0.out⟩
end Go.Proofs.YtbiehpjhhopjaaaGreat
