/-
 free.Odd, walked.
-/
import Derived.Test.YtbiehpjhhopjaaaGreatTFreeC
import Derived.Test.YtbiehpjhhopjaaaGreatTSameB
set_option linter.unusedVariables false
set_option linter.unusedSimpArgs false
namespace Go.Proofs.YtbiehpjhhopjaaaGreat
open Go.RowKit Go.Maps Go.Sort
theorem set_own {W : World} {g o : Nat} {cs : Array Value} {u : Value} {T : TypeId} {fr : Nat × Nat} (h : W.heap[g]? = some (.cells cs T fr)) (hu : cs[o]? = some u) : W.setCell ⟨g, o, none⟩ u = W := by
 have : (W.setCell ⟨g, o, none⟩ u).heap = W.heap := by
  apply Array.ext
  ·simp [World.setCell]
  ·intro i h1 h2
   have : (W.setCell ⟨g, o, none⟩ u).heap[i]? = W.heap[i]? := by
    by_cases e : i = g
    ·subst e
     have hs : cs.setIfInBounds o u = cs := by
      apply Array.ext
      ·simp
      ·intro j k1 k2
       rw [Array.getElem_setIfInBounds]
       split
       ·rename_i e; subst e; rw [Array.getElem?_eq_getElem k2] at hu; exact (Option.some.inj hu).symm
       ·rfl
     simp [World.setCell, Array.getElem?_modify, h, hs]
    ·exact Below.heap_setCell W ⟨g, o, none⟩ u i e
   rw [Array.getElem?_eq_getElem h1, Array.getElem?_eq_getElem h2] at this
   exact Option.some.inj this
 show ({ W with heap := _ } : World) = W
 cases W
 simp only [World.mk.injEq, and_true]
 exact this
def oddAr (p : Pl) (st : St) (x : Ar) : Ar := ⟨normI (x.s.filter (oddSec p st)), normI (x.p.filter (oddPt p st)), normI (x.g.filter (oddSg p st)), normI (x.r.filter (oddRt st))⟩
def zAr : Ar := ⟨[], [], [], []⟩
def oddA (p : Pl) (st : St) (x : Ar) : Ar := if ofErr p st = 0 then oddAr p st x else zAr
def OddPost (w : World) (x : Ar) (n : Int) (e : Ending) (w' : World) : Prop := ∃ v1 v2 v3 v4, e = .returned (.tuple #[.agg #[v1, v2, v3, v4], .int .i64 n]) ∧ AL w' v1 v2 v3 v4 x ∧ Below w.heap.size w w'
theorem plain92 : PlainF 92 := fun args w => by simp [go_sem]
theorem plain93 : PlainF 93 := fun args w => by simp [go_sem]
theorem plain94 : PlainF 94 := fun args w => by simp [go_sem]
theorem plain95 : PlainF 95 := fun args w => by simp [go_sem]
structure R38 (w0 : World) (KV A0 A1 A2 A3 : Value) (ga gr : Nat) (L0 L1 L2 L3 : List Int) (f0 f1 f2 f3 f4 f5 f6 f7 f8 f9 f10 f11 f12 f13 f14 f15 f16 f17 f18 f19 f20 f21 f22 : Bool) (s20 s21 s22 s23 s24 s25 s26 s27 s28 s29 s30 s31 s32 s33 s34 s35 s36 s37 s38 s39 s40 : Value) (W : World) : Prop where
 tw : Tw gr gr w0 W
 hx : f21 = true → f20 = true
 hz : f21 = false → W.heap[gr]? = some (.cells #[.slice none 0 0, .slice none 0 0, .slice none 0 0, .slice none 0 0] 56 (0, 0))
 h0 : f0 = true → s20 = KV
 h1 : f1 = true → s21 = .func (.func 92) #[KV] #[]
 h2 : f2 = true → s22 = .pointer (some ⟨ga, 0, none⟩)
 h3 : f3 = true → s23 = A0
 h4 : f4 = true → f21 = false → ∃ a l c, s24 = .slice a l c ∧ ILv W (.slice a l c) L0
 h5 : f5 = true → s25 = KV
 h6 : f6 = true → s26 = .func (.func 93) #[KV] #[]
 h7 : f7 = true → s27 = .pointer (some ⟨ga, 1, none⟩)
 h8 : f8 = true → s28 = A1
 h9 : f9 = true → f21 = false → ∃ a l c, s29 = .slice a l c ∧ ILv W (.slice a l c) L1
 h10 : f10 = true → s30 = KV
 h11 : f11 = true → s31 = .func (.func 94) #[KV] #[]
 h12 : f12 = true → s32 = .pointer (some ⟨ga, 2, none⟩)
 h13 : f13 = true → s33 = A2
 h14 : f14 = true → f21 = false → ∃ a l c, s34 = .slice a l c ∧ ILv W (.slice a l c) L2
 h15 : f15 = true → s35 = KV
 h16 : f16 = true → s36 = .func (.func 95) #[KV] #[]
 h17 : f17 = true → s37 = .pointer (some ⟨ga, 3, none⟩)
 h18 : f18 = true → s38 = A3
 h19 : f19 = true → f21 = false → ∃ a l c, s39 = .slice a l c ∧ ILv W (.slice a l c) L3
 h20 : f20 = true → f21 = false → ∃ a0' l0' c0' a1' l1' c1' a2' l2' c2' a3' l3' c3', s40 = .agg #[.slice a0' l0' c0', .slice a1' l1' c1', .slice a2' l2' c2', .slice a3' l3' c3'] ∧ AL W (.slice a0' l0' c0') (.slice a1' l1' c1') (.slice a2' l2' c2') (.slice a3' l3' c3') ⟨L0, L1, L2, L3⟩
 h21 : f21 = true → ∃ a0' l0' c0' a1' l1' c1' a2' l2' c2' a3' l3' c3', W.heap[gr]? = some (.cells #[.slice a0' l0' c0', .slice a1' l1' c1', .slice a2' l2' c2', .slice a3' l3' c3'] 56 (0, 0)) ∧ AL W (.slice a0' l0' c0') (.slice a1' l1' c1') (.slice a2' l2' c2') (.slice a3' l3' c3') ⟨L0, L1, L2, L3⟩
theorem R38.below {w0 : World} {KV A0 A1 A2 A3 : Value} {ga gr : Nat} {L0 L1 L2 L3 : List Int} {f0 f1 f2 f3 f4 f5 f6 f7 f8 f9 f10 f11 f12 f13 f14 f15 f16 f17 f18 f19 f20 f21 f22 : Bool} {s20 s21 s22 s23 s24 s25 s26 s27 s28 s29 s30 s31 s32 s33 s34 s35 s36 s37 s38 s39 s40 : Value} {W W' : World} (h : R38 w0 KV A0 A1 A2 A3 ga gr L0 L1 L2 L3 f0 f1 f2 f3 f4 f5 f6 f7 f8 f9 f10 f11 f12 f13 f14 f15 f16 f17 f18 f19 f20 f21 f22 s20 s21 s22 s23 s24 s25 s26 s27 s28 s29 s30 s31 s32 s33 s34 s35 s36 s37 s38 s39 s40 W) (hb : Below W.heap.size W W') : R38 w0 KV A0 A1 A2 A3 ga gr L0 L1 L2 L3 f0 f1 f2 f3 f4 f5 f6 f7 f8 f9 f10 f11 f12 f13 f14 f15 f16 f17 f18 f19 f20 f21 f22 s20 s21 s22 s23 s24 s25 s26 s27 s28 s29 s30 s31 s32 s33 s34 s35 s36 s37 s38 s39 s40 W' :=
 { h with
  tw := h.tw.trans (Tw.of_below hb)
  hz := fun k => (hb.block _ (lt_of_block (h.hz k))).trans (h.hz k)
  h4 := fun k1 k2 => by
   obtain ⟨a, l, c, h1, h2⟩ := h.h4 k1 k2
   exact ⟨a, l, c, h1, h2.below hb⟩
  h9 := fun k1 k2 => by
   obtain ⟨a, l, c, h1, h2⟩ := h.h9 k1 k2
   exact ⟨a, l, c, h1, h2.below hb⟩
  h14 := fun k1 k2 => by
   obtain ⟨a, l, c, h1, h2⟩ := h.h14 k1 k2
   exact ⟨a, l, c, h1, h2.below hb⟩
  h19 := fun k1 k2 => by
   obtain ⟨a, l, c, h1, h2⟩ := h.h19 k1 k2
   exact ⟨a, l, c, h1, h2.below hb⟩
  h20 := fun k1 k2 => by
   obtain ⟨a0', l0', c0', a1', l1', c1', a2', l2', c2', a3', l3', c3', h1, h2⟩ := h.h20 k1 k2
   exact ⟨a0', l0', c0', a1', l1', c1', a2', l2', c2', a3', l3', c3', h1, h2.below hb⟩
  h21 := fun k1 => by
   obtain ⟨a0', l0', c0', a1', l1', c1', a2', l2', c2', a3', l3', c3', h1, h2⟩ := h.h21 k1
   exact ⟨a0', l0', c0', a1', l1', c1', a2', l2', c2', a3', l3', c3', (hb.block _ (lt_of_block h1)).trans h1, h2.below hb⟩ }
theorem ILv.off {W W' : World} {v : Value} {l : List Int} {gr : Nat} (h : ILv W v l) (hz : W.heap[gr]? = some (.cells #[.slice none 0 0, .slice none 0 0, .slice none 0 0, .slice none 0 0] 56 (0, 0))) (hk : ∀ k, k ≠ gr → W'.heap[k]? = W.heap[k]?) : ILv W' v l := by
 obtain ⟨a, n, c, rfl, hl⟩ := h
 refine ⟨a, n, c, rfl, hl.len, fun i hi => ?_⟩
 obtain ⟨b, off, e, hc⟩ := hl.cell i hi
 refine ⟨b, off, e, (World.cell?_of_block (w := W) (hk b ?_)).trans hc⟩
 intro e2
 subst e2
 rw [cell_of_row W _ _ _ _ _ hz] at hc
 rcases (show off + i = 0 ∨ off + i = 1 ∨ off + i = 2 ∨ off + i = 3 ∨ 4 ≤ off + i by omega) with h | h | h | h | h
 ·rw [h] at hc; simp at hc
 ·rw [h] at hc; simp at hc
 ·rw [h] at hc; simp at hc
 ·rw [h] at hc; simp at hc
 ·rw [Array.getElem?_eq_none (by simpa using h)] at hc; cases hc
theorem AL.off {W W' : World} {v1 v2 v3 v4 : Value} {x : Ar} {gr : Nat} (h : AL W v1 v2 v3 v4 x) (hz : W.heap[gr]? = some (.cells #[.slice none 0 0, .slice none 0 0, .slice none 0 0, .slice none 0 0] 56 (0, 0))) (hk : ∀ k, k ≠ gr → W'.heap[k]? = W.heap[k]?) : AL W' v1 v2 v3 v4 x :=
 ⟨h.s.off hz hk, h.p.off hz hk, h.g.off hz hk, h.r.off hz hk⟩
set_option maxRecDepth 100000 in
set_option maxHeartbeats 8000000 in
theorem odd_any (p : Pl) (st : St) (x : Ar) (s q gg rr t sw lk : Value) (u1 u2 u3 u4 : Value) (w : World) (hp : PlM w s q gg rr p) (hf : p.Fit) (hs : StM w t sw lk st) (hsf : st.fit) (hx : AL w u1 u2 u3 u4 x) (hxs : x.mid) :
  Calls Tryz.prog 38 #[plV p s q gg rr, stV t sw lk, .agg #[u1, u2, u3, u4]] w (OddPost w (oddA p st x) (ofErr p st)) := by
 have HCK : Hid (∀ w', Below w.heap.size w w' → Calls Tryz.prog 87 #[plV p s q gg rr, stV t sw lk] w' (ErrPost w' (ofErr p st))) := fun w' hb => stcheck_any p st s q gg rr t sw lk w' (hp.below hb) hf (hs.below hb) hsf
 obtain ⟨e1, f1, rfl, x1⟩ := hx.s.at_
 obtain ⟨e2, f2, rfl, x2⟩ := hx.p.at_
 obtain ⟨e3, f3, rfl, x3⟩ := hx.g.at_
 obtain ⟨e4, f4, rfl, x4⟩ := hx.r.at_
 have HS1 : Hid (∀ w', Below w.heap.size w w' → Calls Tryz.prog 91 #[.func (.func 92) #[knV p s q gg rr t sw lk] #[], .slice e1 x.s.length f1] w' (IPost w' (normI (x.s.filter (oddSec p st))))) := fun w' hb =>
  some_any 92 #[knV p s q gg rr t sw lk] (oddSec p st) e1 f1 x.s w' (x1.below hb) (Nat.le_trans hxs.1 (by decide)) plain92 (fun n W hb' => section92_any p st s q gg rr t sw lk n W (hp.below (hb.trans (hb'.mono hb.size))) hf (hs.below (hb.trans (hb'.mono hb.size))) hsf)
 have HS2 : Hid (∀ w', Below w.heap.size w w' → Calls Tryz.prog 91 #[.func (.func 93) #[knV p s q gg rr t sw lk] #[], .slice e2 x.p.length f2] w' (IPost w' (normI (x.p.filter (oddPt p st))))) := fun w' hb =>
  some_any 93 #[knV p s q gg rr t sw lk] (oddPt p st) e2 f2 x.p w' (x2.below hb) (Nat.le_trans hxs.2.1 (by decide)) plain93 (fun n W hb' => point93_any p st s q gg rr t sw lk n W (hp.below (hb.trans (hb'.mono hb.size))) hf (hs.below (hb.trans (hb'.mono hb.size))) hsf)
 have HS3 : Hid (∀ w', Below w.heap.size w w' → Calls Tryz.prog 91 #[.func (.func 94) #[knV p s q gg rr t sw lk] #[], .slice e3 x.g.length f3] w' (IPost w' (normI (x.g.filter (oddSg p st))))) := fun w' hb =>
  some_any 94 #[knV p s q gg rr t sw lk] (oddSg p st) e3 f3 x.g w' (x3.below hb) (Nat.le_trans hxs.2.2.1 (by decide)) plain94 (fun n W hb' => signal94_any p st s q gg rr t sw lk n W (hp.below (hb.trans (hb'.mono hb.size))) hf (hs.below (hb.trans (hb'.mono hb.size))) hsf)
 have HS4 : Hid (∀ w', Below w.heap.size w w' → Calls Tryz.prog 91 #[.func (.func 95) #[knV p s q gg rr t sw lk] #[], .slice e4 x.r.length f4] w' (IPost w' (normI (x.r.filter (oddRt st))))) := fun w' hb =>
  some_any 95 #[knV p s q gg rr t sw lk] (oddRt st) e4 f4 x.r w' (x4.below hb) (Nat.le_trans hxs.2.2.2 (by decide)) plain95 (fun n W hb' => route95_any p st s q gg rr t sw lk n W (hp.below (hb.trans (hb'.mono hb.size))) hf (hs.below (hb.trans (hb'.mono hb.size))) hsf)
 obtain ⟨a1, c1, rfl, -⟩ := hp.secs
 obtain ⟨a2, c2, rfl, -⟩ := hp.pts
 obtain ⟨a3, c3, rfl, -⟩ := hp.sigs
 obtain ⟨a4, c4, rfl, -⟩ := hp.rts
 obtain ⟨b1, d1, rfl, -⟩ := hs.tks
 obtain ⟨b2, d2, rfl, -⟩ := hs.sws
 obtain ⟨b3, d3, rfl, -⟩ := hs.lks
 have HZ1 : Hid (ofErr p st ≠ 0 → oddA p st x = zAr) := fun h => by unfold oddA; rw [if_neg h]
 have HZ2 : Hid (ofErr p st = 0 → oddA p st x = ⟨normI (x.s.filter (oddSec p st)), normI (x.p.filter (oddPt p st)), normI (x.g.filter (oddSg p st)), normI (x.r.filter (oddRt st))⟩) := fun h => by unfold oddA; rw [if_pos h]; rfl
 clear hp hf hs hsf hx hxs x1 x2 x3 x4
 generalize ofErr p st = E at *
 generalize oddA p st x = R at *
 generalize normI (x.s.filter (oddSec p st)) = L0 at *
 generalize normI (x.p.filter (oddPt p st)) = L1 at *
 generalize normI (x.g.filter (oddSg p st)) = L2 at *
 generalize normI (x.r.filter (oddRt st)) = L3 at *
 unfold plV stV knV at *
 go_enter Tryz.func38, Tryz.ntmps38
 go_upto_region 1 with fail
 generalize hW0 : World.alloc _ _ = W0
 have K0 : Hid (Below w.heap.size w W0) := by show Below _ _ _; rw [← hW0]; exact ((((Below.refl _ _).alloc (Nat.le_refl _) _).alloc (by simp) _).alloc (by simp <;> omega) _).alloc (by simp <;> omega) _
 have hbP : W0.heap[w.heap.size]? = some (.cells #[.int .i64 p.ver, .int .i64 p.par, .slice a1 p.secs.length c1, .slice a2 p.pts.length c2, .slice a3 p.sigs.length c3, .slice a4 p.rts.length c4] 28 (0, 0)) := by
  rw [← hW0]; exact (heap_alloc_old _ _ (by simp <;> omega)).trans ((heap_alloc_old _ _ (by simp <;> omega)).trans ((heap_alloc_old _ _ (by simp)).trans (heap_alloc_new _ _)))
 have hbS : W0.heap[w.heap.size + 1]? = some (.cells #[.slice b1 st.tks.length d1, .slice b2 st.sws.length d2, .slice b3 st.lks.length d3] 33 (0, 0)) := by
  rw [← hW0]; exact (heap_alloc_old _ _ (by simp <;> omega)).trans ((heap_alloc_old _ _ (by simp)).trans (heap_alloc2_new _ _ _))
 have hbA : W0.heap[w.heap.size + 1 + 1]? = some (.cells #[.slice e1 x.s.length f1, .slice e2 x.p.length f2, .slice e3 x.g.length f3, .slice e4 x.r.length f4] 56 (0, 0)) := by
  rw [← hW0]
  refine (heap_alloc_old _ _ (by simp <;> omega)).trans ?_
  have := heap_alloc2_new (w.alloc (.cells #[.int .i64 p.ver, .int .i64 p.par, .slice a1 p.secs.length c1, .slice a2 p.pts.length c2, .slice a3 p.sigs.length c3, .slice a4 p.rts.length c4] 28)) (.cells #[.slice b1 st.tks.length d1, .slice b2 st.sws.length d2, .slice b3 st.lks.length d3] 33) (.cells #[.slice e1 x.s.length f1, .slice e2 x.p.length f2, .slice e3 x.g.length f3, .slice e4 x.r.length f4] 56)
  simpa using this
 have hbR : W0.heap[w.heap.size + 1 + 1 + 1]? = some (.cells #[.slice none 0 0, .slice none 0 0, .slice none 0 0, .slice none 0 0] 56 (0, 0)) := by
  rw [← hW0]
  have := heap_alloc2_new ((w.alloc (.cells #[.int .i64 p.ver, .int .i64 p.par, .slice a1 p.secs.length c1, .slice a2 p.pts.length c2, .slice a3 p.sigs.length c3, .slice a4 p.rts.length c4] 28)).alloc (.cells #[.slice b1 st.tks.length d1, .slice b2 st.sws.length d2, .slice b3 st.lks.length d3] 33)) (.cells #[.slice e1 x.s.length f1, .slice e2 x.p.length f2, .slice e3 x.g.length f3, .slice e4 x.r.length f4] 56) (.cells #[.slice none 0 0, .slice none 0 0, .slice none 0 0, .slice none 0 0] 56)
  simpa using this
 have HBP := Lib.hid hbP
 have HBS := Lib.hid hbS
 have HBA := Lib.hid hbA
 have HBR := Lib.hid hbR
 obtain ⟨pp0, pp1, pp2, pp3, pp4, pp5⟩ := cells6 hbP
 obtain ⟨ss0, ss1, ss2⟩ := cells3 hbS
 clear hW0 hbP hbS hbA hbR
 have HC := Lib.hid (HCK.out W0 K0.out)
 clear HCK
 go_wp2_with fail
 refine HC.out.mono ?_
 rintro e w1 ⟨rfl, hb1⟩
 have K1 : Hid (Below w.heap.size w w1) := K0.out.trans (hb1.mono K0.out.size)
 have HP1 := Lib.hid ((hb1.block _ (lt_of_block HBP.out)).trans HBP.out)
 have HS1' := Lib.hid ((hb1.block _ (lt_of_block HBS.out)).trans HBS.out)
 have HA1 := Lib.hid ((hb1.block _ (lt_of_block HBA.out)).trans HBA.out)
 have HR1 := Lib.hid ((hb1.block _ (lt_of_block HBR.out)).trans HBR.out)
 clear hb1 HC pp0 pp1 pp2 pp3 pp4 pp5 ss0 ss1 ss2 HBP HBS HBA HBR
 by_cases hE : E = 0
 ·subst hE
  obtain ⟨pp0, pp1, pp2, pp3, pp4, pp5⟩ := cells6 HP1.out
  obtain ⟨ss0, ss1, ss2⟩ := cells3 HS1'.out
  go_upto_region 5 with fail
  generalize hW2 : w1.alloc (.cells #[.int .i64 p.ver, .int .i64 p.par, .slice a1 p.secs.length c1, .slice a2 p.pts.length c2, .slice a3 p.sigs.length c3, .slice a4 p.rts.length c4, .slice b1 st.tks.length d1, .slice b2 st.sws.length d2, .slice b3 st.lks.length d3] 137) = w2
  have hb2 : Below w1.heap.size w1 w2 := by rw [← hW2]; exact (Below.refl _ _).alloc (Nat.le_refl _) _
  have K2 : Hid (Below w.heap.size w w2) := K1.out.trans (hb2.mono K1.out.size)
  have HA2 := Lib.hid ((hb2.block _ (lt_of_block HA1.out)).trans HA1.out)
  have HR2 := Lib.hid ((hb2.block _ (lt_of_block HR1.out)).trans HR1.out)
  have HK2 : Hid (w2.heap[w1.heap.size]? = some (.cells #[.int .i64 p.ver, .int .i64 p.par, .slice a1 p.secs.length c1, .slice a2 p.pts.length c2, .slice a3 p.sigs.length c3, .slice a4 p.rts.length c4, .slice b1 st.tks.length d1, .slice b2 st.sws.length d2, .slice b3 st.lks.length d3] 137 (0, 0))) := by show _ = _; rw [← hW2]; exact heap_alloc_new _ _
  have hgk : w.heap.size + 1 + 1 + 1 < w1.heap.size := lt_of_block HR1.out
  clear hW2 hb2 pp0 pp1 pp2 pp3 pp4 pp5 ss0 ss1 ss2
  refine wp_region_inv' (by kernel_rfl) (by kernel_rfl) (fun f a W9 => ∃ s20 s21 s22 s23 s24 s25 s26 s27 s28 s29 s30 s31 s32 s33 s34 s35 s36 s37 s38 s39 s40 : Value, a = { tmps := #[.agg #[.int .i64 p.ver, .int .i64 p.par, .slice a1 p.secs.length c1, .slice a2 p.pts.length c2, .slice a3 p.sigs.length c3, .slice a4 p.rts.length c4], .agg #[.slice b1 st.tks.length d1, .slice b2 st.sws.length d2, .slice b3 st.lks.length d3], .agg #[.slice e1 x.s.length f1, .slice e2 x.p.length f2, .slice e3 x.g.length f3, .slice e4 x.r.length f4], .pointer (some ⟨w.heap.size, 0, none⟩), .pointer (some ⟨w.heap.size + 1, 0, none⟩), .pointer (some ⟨w.heap.size + 1 + 1, 0, none⟩), .pointer (some ⟨w.heap.size + 1 + 1 + 1, 0, none⟩), .int .i64 0, .int .i64 0, .pointer (some ⟨w1.heap.size, 0, none⟩), .agg #[.int .i64 p.ver, .int .i64 p.par, .slice a1 p.secs.length c1, .slice a2 p.pts.length c2, .slice a3 p.sigs.length c3, .slice a4 p.rts.length c4], .agg #[.slice b1 st.tks.length d1, .slice b2 st.sws.length d2, .slice b3 st.lks.length d3], .int .i64 0, .int .i64 0, .bool false, undef, undef, .agg #[.int .i64 p.ver, .int .i64 p.par, .slice a1 p.secs.length c1, .slice a2 p.pts.length c2, .slice a3 p.sigs.length c3, .slice a4 p.rts.length c4], .agg #[.slice b1 st.tks.length d1, .slice b2 st.sws.length d2, .slice b3 st.lks.length d3], .agg #[.int .i64 p.ver, .int .i64 p.par, .slice a1 p.secs.length c1, .slice a2 p.pts.length c2, .slice a3 p.sigs.length c3, .slice a4 p.rts.length c4, .slice b1 st.tks.length d1, .slice b2 st.sws.length d2, .slice b3 st.lks.length d3], s20, s21, s22, s23, s24, s25, s26, s27, s28, s29, s30, s31, s32, s33, s34, s35, s36, s37, s38, s39, s40], defers := [] } ∧ R38 w2 (.agg #[.int .i64 p.ver, .int .i64 p.par, .slice a1 p.secs.length c1, .slice a2 p.pts.length c2, .slice a3 p.sigs.length c3, .slice a4 p.rts.length c4, .slice b1 st.tks.length d1, .slice b2 st.sws.length d2, .slice b3 st.lks.length d3]) (.slice e1 x.s.length f1) (.slice e2 x.p.length f2) (.slice e3 x.g.length f3) (.slice e4 x.r.length f4) (w.heap.size + 1 + 1) (w.heap.size + 1 + 1 + 1) L0 L1 L2 L3 (f 0) (f 1) (f 2) (f 3) (f 4) (f 5) (f 6) (f 7) (f 8) (f 9) (f 10) (f 11) (f 12) (f 13) (f 14) (f 15) (f 16) (f 17) (f 18) (f 19) (f 20) (f 21) (f 22) s20 s21 s22 s23 s24 s25 s26 s27 s28 s29 s30 s31 s32 s33 s34 s35 s36 s37 s38 s39 s40 W9) ?_ ?_ ?_
  ·exact ⟨_, _, _, _, _, _, _, _, _, _, _, _, _, _, _, _, _, _, _, _, _, rfl, { tw := ⟨rfl, rfl, rfl, Nat.le_refl _, fun _ _ _ _ => rfl⟩, hz := fun _ => HR2.out, hx := by simp, h0 := by simp, h1 := by simp, h2 := by simp, h3 := by simp, h4 := by simp, h5 := by simp, h6 := by simp, h7 := by simp, h8 := by simp, h9 := by simp, h10 := by simp, h11 := by simp, h12 := by simp, h13 := by simp, h14 := by simp, h15 := by simp, h16 := by simp, h17 := by simp, h18 := by simp, h19 := by simp, h20 := by simp, h21 := by simp }⟩
  ·intro i o ho f a W9 hI hd hun
   obtain ⟨s20, s21, s22, s23, s24, s25, s26, s27, s28, s29, s30, s31, s32, s33, s34, s35, s36, s37, s38, s39, s40, rfl, hS⟩ := hI
   have l2 := hS.tw.size
   have lk := lt_of_block HK2.out
   have q9 := (hS.tw.block w1.heap.size lk (by omega) (by omega)).trans HK2.out
   have qa := (hS.tw.block (w.heap.size + 1 + 1) (by omega) (by omega) (by omega)).trans HA2.out
   have KW : Below w.heap.size w W9 := K2.out.trans (hS.tw.below (by omega) (by omega) K2.out.size)
   rcases i with _ | _ | _ | _ | _ | _ | _ | _ | _ | _ | _ | _ | _ | _ | _ | _ | _ | _ | _ | _ | _ | _ | _ | i
   ·simp at ho
    subst ho
    obtain ⟨cc0, cc1, cc2, cc3, cc4, cc5, cc6, cc7, cc8⟩ := cells9 q9
    simp [wpOp, go_sem, cc0, cc1, cc2, cc3, cc4, cc5, cc6, cc7, cc8]
    exact .inl ⟨_, _, _, _, _, _, _, _, _, _, _, _, _, _, _, _, _, _, _, _, _, ⟨rfl, rfl, rfl, rfl, rfl, rfl, rfl, rfl, rfl, rfl, rfl, rfl, rfl, rfl, rfl, rfl, rfl, rfl, rfl, rfl, rfl⟩, { hS with h0 := fun _ => rfl }⟩
   ·simp at ho
    subst ho
    obtain rfl := hS.h0 (hd ⟨0, .data⟩ (by simp) (by rfl))
    simp [wpOp, go_sem]
    exact .inl ⟨_, _, _, _, _, _, _, _, _, _, _, _, _, _, _, _, _, _, _, _, _, ⟨rfl, rfl, rfl, rfl, rfl, rfl, rfl, rfl, rfl, rfl, rfl, rfl, rfl, rfl, rfl, rfl, rfl, rfl, rfl, rfl, rfl⟩, { hS with h1 := fun _ => rfl }⟩
   ·simp at ho
    subst ho
    simp [wpOp, go_sem]
    exact .inl ⟨_, _, _, _, _, _, _, _, _, _, _, _, _, _, _, _, _, _, _, _, _, ⟨rfl, rfl, rfl, rfl, rfl, rfl, rfl, rfl, rfl, rfl, rfl, rfl, rfl, rfl, rfl, rfl, rfl, rfl, rfl, rfl, rfl⟩, { hS with h2 := fun _ => rfl }⟩
   ·simp at ho
    subst ho
    obtain rfl := hS.h2 (hd ⟨2, .data⟩ (by simp) (by rfl))
    have cc : W9.cell? ⟨w.heap.size + 1 + 1, 0, none⟩ = some (.slice e1 x.s.length f1) := (cell_of_row W9 _ 0 _ _ _ qa).trans rfl
    simp [wpOp, go_sem, cc]
    exact .inl ⟨_, _, _, _, _, _, _, _, _, _, _, _, _, _, _, _, _, _, _, _, _, ⟨rfl, rfl, rfl, rfl, rfl, rfl, rfl, rfl, rfl, rfl, rfl, rfl, rfl, rfl, rfl, rfl, rfl, rfl, rfl, rfl, rfl⟩, { hS with h3 := fun _ => rfl }⟩
   ·simp at ho
    subst ho
    obtain rfl := hS.h1 (hd ⟨1, .data⟩ (by simp) (by rfl))
    obtain rfl := hS.h3 (hd ⟨3, .data⟩ (by simp) (by rfl))
    simp [wpOp, go_sem]
    refine .inl ((HS1.out W9 KW).mono ?_)
    rintro e w' ⟨v, rfl, hil, -, hb⟩
    obtain ⟨a, c, rfl, -⟩ := hil.at_
    simp [go_sem]
    exact ⟨_, _, _, _, _, _, _, _, _, _, _, _, _, _, _, _, _, _, _, _, _, ⟨rfl, rfl, rfl, rfl, rfl, rfl, rfl, rfl, rfl, rfl, rfl, rfl, rfl, rfl, rfl, rfl, rfl, rfl, rfl, rfl, rfl⟩, { R38.below hS hb with h4 := fun _ _ => ⟨_, _, _, rfl, hil⟩ }⟩
   ·simp at ho
    subst ho
    obtain ⟨cc0, cc1, cc2, cc3, cc4, cc5, cc6, cc7, cc8⟩ := cells9 q9
    simp [wpOp, go_sem, cc0, cc1, cc2, cc3, cc4, cc5, cc6, cc7, cc8]
    exact .inl ⟨_, _, _, _, _, _, _, _, _, _, _, _, _, _, _, _, _, _, _, _, _, ⟨rfl, rfl, rfl, rfl, rfl, rfl, rfl, rfl, rfl, rfl, rfl, rfl, rfl, rfl, rfl, rfl, rfl, rfl, rfl, rfl, rfl⟩, { hS with h5 := fun _ => rfl }⟩
   ·simp at ho
    subst ho
    obtain rfl := hS.h5 (hd ⟨5, .data⟩ (by simp) (by rfl))
    simp [wpOp, go_sem]
    exact .inl ⟨_, _, _, _, _, _, _, _, _, _, _, _, _, _, _, _, _, _, _, _, _, ⟨rfl, rfl, rfl, rfl, rfl, rfl, rfl, rfl, rfl, rfl, rfl, rfl, rfl, rfl, rfl, rfl, rfl, rfl, rfl, rfl, rfl⟩, { hS with h6 := fun _ => rfl }⟩
   ·simp at ho
    subst ho
    simp [wpOp, go_sem]
    exact .inl ⟨_, _, _, _, _, _, _, _, _, _, _, _, _, _, _, _, _, _, _, _, _, ⟨rfl, rfl, rfl, rfl, rfl, rfl, rfl, rfl, rfl, rfl, rfl, rfl, rfl, rfl, rfl, rfl, rfl, rfl, rfl, rfl, rfl⟩, { hS with h7 := fun _ => rfl }⟩
   ·simp at ho
    subst ho
    obtain rfl := hS.h7 (hd ⟨7, .data⟩ (by simp) (by rfl))
    have cc : W9.cell? ⟨w.heap.size + 1 + 1, 1, none⟩ = some (.slice e2 x.p.length f2) := (cell_of_row W9 _ 1 _ _ _ qa).trans rfl
    simp [wpOp, go_sem, cc]
    exact .inl ⟨_, _, _, _, _, _, _, _, _, _, _, _, _, _, _, _, _, _, _, _, _, ⟨rfl, rfl, rfl, rfl, rfl, rfl, rfl, rfl, rfl, rfl, rfl, rfl, rfl, rfl, rfl, rfl, rfl, rfl, rfl, rfl, rfl⟩, { hS with h8 := fun _ => rfl }⟩
   ·simp at ho
    subst ho
    obtain rfl := hS.h6 (hd ⟨6, .data⟩ (by simp) (by rfl))
    obtain rfl := hS.h8 (hd ⟨8, .data⟩ (by simp) (by rfl))
    simp [wpOp, go_sem]
    refine .inl ((HS2.out W9 KW).mono ?_)
    rintro e w' ⟨v, rfl, hil, -, hb⟩
    obtain ⟨a, c, rfl, -⟩ := hil.at_
    simp [go_sem]
    exact ⟨_, _, _, _, _, _, _, _, _, _, _, _, _, _, _, _, _, _, _, _, _, ⟨rfl, rfl, rfl, rfl, rfl, rfl, rfl, rfl, rfl, rfl, rfl, rfl, rfl, rfl, rfl, rfl, rfl, rfl, rfl, rfl, rfl⟩, { R38.below hS hb with h9 := fun _ _ => ⟨_, _, _, rfl, hil⟩ }⟩
   ·simp at ho
    subst ho
    obtain ⟨cc0, cc1, cc2, cc3, cc4, cc5, cc6, cc7, cc8⟩ := cells9 q9
    simp [wpOp, go_sem, cc0, cc1, cc2, cc3, cc4, cc5, cc6, cc7, cc8]
    exact .inl ⟨_, _, _, _, _, _, _, _, _, _, _, _, _, _, _, _, _, _, _, _, _, ⟨rfl, rfl, rfl, rfl, rfl, rfl, rfl, rfl, rfl, rfl, rfl, rfl, rfl, rfl, rfl, rfl, rfl, rfl, rfl, rfl, rfl⟩, { hS with h10 := fun _ => rfl }⟩
   ·simp at ho
    subst ho
    obtain rfl := hS.h10 (hd ⟨10, .data⟩ (by simp) (by rfl))
    simp [wpOp, go_sem]
    exact .inl ⟨_, _, _, _, _, _, _, _, _, _, _, _, _, _, _, _, _, _, _, _, _, ⟨rfl, rfl, rfl, rfl, rfl, rfl, rfl, rfl, rfl, rfl, rfl, rfl, rfl, rfl, rfl, rfl, rfl, rfl, rfl, rfl, rfl⟩, { hS with h11 := fun _ => rfl }⟩
   ·simp at ho
    subst ho
    simp [wpOp, go_sem]
    exact .inl ⟨_, _, _, _, _, _, _, _, _, _, _, _, _, _, _, _, _, _, _, _, _, ⟨rfl, rfl, rfl, rfl, rfl, rfl, rfl, rfl, rfl, rfl, rfl, rfl, rfl, rfl, rfl, rfl, rfl, rfl, rfl, rfl, rfl⟩, { hS with h12 := fun _ => rfl }⟩
   ·simp at ho
    subst ho
    obtain rfl := hS.h12 (hd ⟨12, .data⟩ (by simp) (by rfl))
    have cc : W9.cell? ⟨w.heap.size + 1 + 1, 2, none⟩ = some (.slice e3 x.g.length f3) := (cell_of_row W9 _ 2 _ _ _ qa).trans rfl
    simp [wpOp, go_sem, cc]
    exact .inl ⟨_, _, _, _, _, _, _, _, _, _, _, _, _, _, _, _, _, _, _, _, _, ⟨rfl, rfl, rfl, rfl, rfl, rfl, rfl, rfl, rfl, rfl, rfl, rfl, rfl, rfl, rfl, rfl, rfl, rfl, rfl, rfl, rfl⟩, { hS with h13 := fun _ => rfl }⟩
   ·simp at ho
    subst ho
    obtain rfl := hS.h11 (hd ⟨11, .data⟩ (by simp) (by rfl))
    obtain rfl := hS.h13 (hd ⟨13, .data⟩ (by simp) (by rfl))
    simp [wpOp, go_sem]
    refine .inl ((HS3.out W9 KW).mono ?_)
    rintro e w' ⟨v, rfl, hil, -, hb⟩
    obtain ⟨a, c, rfl, -⟩ := hil.at_
    simp [go_sem]
    exact ⟨_, _, _, _, _, _, _, _, _, _, _, _, _, _, _, _, _, _, _, _, _, ⟨rfl, rfl, rfl, rfl, rfl, rfl, rfl, rfl, rfl, rfl, rfl, rfl, rfl, rfl, rfl, rfl, rfl, rfl, rfl, rfl, rfl⟩, { R38.below hS hb with h14 := fun _ _ => ⟨_, _, _, rfl, hil⟩ }⟩
   ·simp at ho
    subst ho
    obtain ⟨cc0, cc1, cc2, cc3, cc4, cc5, cc6, cc7, cc8⟩ := cells9 q9
    simp [wpOp, go_sem, cc0, cc1, cc2, cc3, cc4, cc5, cc6, cc7, cc8]
    exact .inl ⟨_, _, _, _, _, _, _, _, _, _, _, _, _, _, _, _, _, _, _, _, _, ⟨rfl, rfl, rfl, rfl, rfl, rfl, rfl, rfl, rfl, rfl, rfl, rfl, rfl, rfl, rfl, rfl, rfl, rfl, rfl, rfl, rfl⟩, { hS with h15 := fun _ => rfl }⟩
   ·simp at ho
    subst ho
    obtain rfl := hS.h15 (hd ⟨15, .data⟩ (by simp) (by rfl))
    simp [wpOp, go_sem]
    exact .inl ⟨_, _, _, _, _, _, _, _, _, _, _, _, _, _, _, _, _, _, _, _, _, ⟨rfl, rfl, rfl, rfl, rfl, rfl, rfl, rfl, rfl, rfl, rfl, rfl, rfl, rfl, rfl, rfl, rfl, rfl, rfl, rfl, rfl⟩, { hS with h16 := fun _ => rfl }⟩
   ·simp at ho
    subst ho
    simp [wpOp, go_sem]
    exact .inl ⟨_, _, _, _, _, _, _, _, _, _, _, _, _, _, _, _, _, _, _, _, _, ⟨rfl, rfl, rfl, rfl, rfl, rfl, rfl, rfl, rfl, rfl, rfl, rfl, rfl, rfl, rfl, rfl, rfl, rfl, rfl, rfl, rfl⟩, { hS with h17 := fun _ => rfl }⟩
   ·simp at ho
    subst ho
    obtain rfl := hS.h17 (hd ⟨17, .data⟩ (by simp) (by rfl))
    have cc : W9.cell? ⟨w.heap.size + 1 + 1, 3, none⟩ = some (.slice e4 x.r.length f4) := (cell_of_row W9 _ 3 _ _ _ qa).trans rfl
    simp [wpOp, go_sem, cc]
    exact .inl ⟨_, _, _, _, _, _, _, _, _, _, _, _, _, _, _, _, _, _, _, _, _, ⟨rfl, rfl, rfl, rfl, rfl, rfl, rfl, rfl, rfl, rfl, rfl, rfl, rfl, rfl, rfl, rfl, rfl, rfl, rfl, rfl, rfl⟩, { hS with h18 := fun _ => rfl }⟩
   ·simp at ho
    subst ho
    obtain rfl := hS.h16 (hd ⟨16, .data⟩ (by simp) (by rfl))
    obtain rfl := hS.h18 (hd ⟨18, .data⟩ (by simp) (by rfl))
    simp [wpOp, go_sem]
    refine .inl ((HS4.out W9 KW).mono ?_)
    rintro e w' ⟨v, rfl, hil, -, hb⟩
    obtain ⟨a, c, rfl, -⟩ := hil.at_
    simp [go_sem]
    exact ⟨_, _, _, _, _, _, _, _, _, _, _, _, _, _, _, _, _, _, _, _, _, ⟨rfl, rfl, rfl, rfl, rfl, rfl, rfl, rfl, rfl, rfl, rfl, rfl, rfl, rfl, rfl, rfl, rfl, rfl, rfl, rfl, rfl⟩, { R38.below hS hb with h19 := fun _ _ => ⟨_, _, _, rfl, hil⟩ }⟩
   ·simp at ho
    subst ho
    have h21 : f 21 = false := by
     cases h : f 21 with
     | false => rfl
     | true => have h1 := hS.hx h; have h2 : f 20 = false := hun; rw [h2] at h1; cases h1
    obtain ⟨a0', l0', c0', rfl, i0⟩ := hS.h4 (hd ⟨4, .data⟩ (by simp) (by rfl)) h21
    obtain ⟨a1', l1', c1', rfl, i1⟩ := hS.h9 (hd ⟨9, .data⟩ (by simp) (by rfl)) h21
    obtain ⟨a2', l2', c2', rfl, i2⟩ := hS.h14 (hd ⟨14, .data⟩ (by simp) (by rfl)) h21
    obtain ⟨a3', l3', c3', rfl, i3⟩ := hS.h19 (hd ⟨19, .data⟩ (by simp) (by rfl)) h21
    simp [wpOp, go_sem]
    exact .inl ⟨_, _, _, _, _, _, _, _, _, _, _, _, _, _, _, _, _, _, _, _, _, ⟨rfl, rfl, rfl, rfl, rfl, rfl, rfl, rfl, rfl, rfl, rfl, rfl, rfl, rfl, rfl, rfl, rfl, rfl, rfl, rfl, rfl⟩, { hS with hx := fun _ => rfl, h20 := fun _ _ => ⟨a0', l0', c0', a1', l1', c1', a2', l2', c2', a3', l3', c3', rfl, i0, i1, i2, i3⟩ }⟩
   ·simp at ho
    subst ho
    have h21 : f 21 = false := hun
    obtain ⟨a0', l0', c0', a1', l1', c1', a2', l2', c2', a3', l3', c3', rfl, hal⟩ := hS.h20 (hd ⟨20, .data⟩ (by simp) (by rfl)) h21
    have hz := hS.hz h21
    have ff : ∀ o, W9.frozen? ⟨w.heap.size + 1 + 1 + 1, o, none⟩ = false := fun o => by simp [World.frozen?, hz]
    obtain ⟨cc0, cc1, cc2, cc3⟩ := cells4 hz
    have lr := lt_of_block hz
    have hf20 : f 20 = true := hd ⟨20, .data⟩ (by simp) (by rfl)
    simp [wpOp, go_sem, ff, cc0, cc1, cc2, cc3, lr]
    exact .inl ⟨_, _, _, _, _, _, _, _, _, _, _, _, _, _, _, _, _, _, _, _, _, ⟨rfl, rfl, rfl, rfl, rfl, rfl, rfl, rfl, rfl, rfl, rfl, rfl, rfl, rfl, rfl, rfl, rfl, rfl, rfl, rfl, rfl⟩, { hS with tw := hS.tw.trans ((((Tw.setR _ _ _).trans (Tw.setR _ _ _)).trans (Tw.setR _ _ _)).trans (Tw.setR _ _ _)), hz := fun h => (by cases h), hx := fun _ => hf20, h4 := fun _ h => (by cases h), h9 := fun _ h => (by cases h), h14 := fun _ h => (by cases h), h19 := fun _ h => (by cases h), h20 := fun _ h => (by cases h), h21 := fun _ => ⟨a0', l0', c0', a1', l1', c1', a2', l2', c2', a3', l3', c3', by simp [World.setCell, Array.getElem?_modify, hz], hal.off hz (fun k hk => by simp [World.setCell, Array.getElem?_modify, Ne.symm hk])⟩ }⟩
   ·simp at ho
    subst ho
    simp [wpOp, go_sem]
    exact .inl ⟨_, _, _, _, _, _, _, _, _, _, _, _, _, _, _, _, _, _, _, _, _, ⟨rfl, rfl, rfl, rfl, rfl, rfl, rfl, rfl, rfl, rfl, rfl, rfl, rfl, rfl, rfl, rfl, rfl, rfl, rfl, rfl, rfl⟩, { hS with }⟩
   ·simp at ho
  ·intro f a W9 hI hall
   obtain ⟨s20, s21, s22, s23, s24, s25, s26, s27, s28, s29, s30, s31, s32, s33, s34, s35, s36, s37, s38, s39, s40, rfl, hS⟩ := hI
   obtain ⟨a0', l0', c0', a1', l1', c1', a2', l2', c2', a3', l3', c3', hr, hal⟩ := hS.h21 (hall 21 (by decide))
   have KW : Below w.heap.size w W9 := K2.out.trans (hS.tw.below (by omega) (by omega) K2.out.size)
   obtain ⟨cc0, cc1, cc2, cc3⟩ := cells4 hr
   have HAL := Lib.hid hal
   have HKW := Lib.hid KW
   have HZ := Lib.hid (HZ2.out trivial)
   clear hr hal hS KW hall
   go_wp2_with fail
   exact bodyPost_ret (v := .tuple #[.agg #[.slice a0' l0' c0', .slice a1' l1' c1', .slice a2' l2' c2', .slice a3' l3' c3'], .int .i64 0]) (by simp [results, Tryz.f38, go_sem, cc0, cc1, cc2, cc3]) rfl ⟨_, _, _, _, rfl, by rw [HZ.out]; exact HAL.out, HKW.out⟩
 ·have hd : decide (E = 0) = false := decide_eq_false hE
  have HZ := Lib.hid (HZ1.out hE)
  obtain ⟨z0, z1, z2, z3⟩ := cells4 HR1.out
  have zz : ∀ o, w1.frozen? ⟨w.heap.size + 1 + 1 + 1, o, none⟩ = false := fun o => by simp [World.frozen?, HR1.out]
  have lz := lt_of_block HR1.out
  go_wp2_with fail
  have s0 : w1.setCell ⟨w.heap.size + 1 + 1 + 1, 0, none⟩ (.slice none 0 0) = w1 := set_own HR1.out rfl
  have s1 : w1.setCell ⟨w.heap.size + 1 + 1 + 1, 1, none⟩ (.slice none 0 0) = w1 := set_own HR1.out rfl
  have s2 : w1.setCell ⟨w.heap.size + 1 + 1 + 1, 2, none⟩ (.slice none 0 0) = w1 := set_own HR1.out rfl
  have s3 : w1.setCell ⟨w.heap.size + 1 + 1 + 1, 3, none⟩ (.slice none 0 0) = w1 := set_own HR1.out rfl
  rw [s0, s1, s2, s3]
  exact bodyPost_ret (v := .tuple #[.agg #[.slice none 0 0, .slice none 0 0, .slice none 0 0, .slice none 0 0], .int .i64 E]) (by simp [results, Tryz.f38, go_sem, z0, z1, z2, z3]) rfl ⟨_, _, _, _, rfl, by rw [HZ.out]; exact ⟨ILv.nil _, ILv.nil _, ILv.nil _, ILv.nil _⟩, K1.out⟩
end Go.Proofs.YtbiehpjhhopjaaaGreat
