/-
 law 25's FreeTells, walked. (Written by wip/tools/gen_tells.py.)
-/
import Derived.Test.YtbiehpjhhopjaaaGreatTGreatA
import Derived.Test.YtbiehpjhhopjaaaGreatTLawP
import Derived.Lib.QuietBelow
import Derived.ArgAppend
set_option linter.unusedVariables false
set_option linter.unusedSimpArgs false
namespace Go.Proofs.YtbiehpjhhopjaaaGreat
open Go.RowKit Go.Maps Go.Sort
theorem same_refl (x : Ar) : sameA x x = true := by unfold sameA eqB; simp
theorem odd_small {p : Pl} {st : St} {x : Ar} (h : x.small) : (oddA p st x).small := by
 unfold oddA
 split
 ·have k : ∀ (l : List Int) (pr : Int → Bool), l.length ≤ 200 → (normI (l.filter pr)).length ≤ 200 := fun l pr hl => Nat.le_trans (normI_len _) (Nat.le_trans (List.length_filter_le _ _) hl)
  exact ⟨k _ _ h.1, k _ _ h.2.1, k _ _ h.2.2.1, k _ _ h.2.2.2⟩
 ·exact ⟨by decide, by decide, by decide, by decide⟩
set_option maxRecDepth 100000 in
theorem run_copy {W : World} (b : Addr) {a : Option Addr} {c : Nat} {l : List Int} (h : IL W a l.length l) (hm : l.length ≤ 1000) :
  ∃ a' n' c' w', (∀ t, (Builtin.append_ #[54, 54] t #[.slice (some b) 0 0, .slice a l.length c]).run Tryz.prog W = .ok (.slice a' n' c') w') ∧ ILv w' (.slice a' n' c') l ∧ Below W.heap.size W w' := by
 obtain ⟨i0, hi, hz0, hz1, hz2⟩ := info_parts info3
 by_cases h0 : l = []
 ·subst h0
  refine ⟨some b, 0, 0, W, fun t => ?_, ⟨_, _, _, rfl, ⟨rfl, fun i hi => by simp at hi⟩⟩, Below.refl _ _⟩
  cases a <;> simp [Builtin.append_, run_underlying Tryz.underlying54, sizeOf, typeInfo, hi, Builtin.lenOf, Builtin.firstCells, loadCells, loadCellsFrom, storeCells]
 ·obtain ⟨b1, off, e, -⟩ := h.cell 0 (List.length_pos_iff.2 h0)
  cases e
  obtain ⟨v', w', hr, r1, r2⟩ := run_append_arg_grows (P := Tryz.prog) W 54 54 3 i0 (.int .i64 0) 1 8 Tryz.underlying54 hi hz0 hz1 hz2 rfl (by decide) b 0 0 [] rfl (fun j u hj => by simp at hj) ⟨b1, off, none⟩ l.length c (l.map (.int .i64)) (by simp) (fun j u hj => by rw [Addr.add_lit]; exact h.reads j u hj) (by have := List.length_pos_iff.2 h0; omega) (by unfold maxLen; omega) (by omega)
  rw [Nat.zero_add, List.nil_append] at r1
  have ho : IntOwn w' W.heap.size v' l := r1
  obtain ⟨a', c', rfl⟩ := ho.slice
  exact ⟨a', l.length, c', w', fun t => hr, ho.ilv, ⟨r2.os, r2.tape, r2.output, r2.size, fun k hk => r2.block k hk (by simp)⟩⟩
structure R5 (w0 : World) (A0 A1 A2 A3 : Value) (ga : Nat) (x : Ar) (f : Nat → Bool) (s26 s27 s28 s29 s30 s31 s32 s33 s34 s35 s36 s37 s38 s39 s40 s41 s42 s7 : Value) (W : World) : Prop where
 bel : Below w0.heap.size w0 W
 hx : f 18 = true → ∀ i, i < 18 → f i = true
 h0 : f 0 = true → ∃ b : Addr, s26 = .slice (some b) 0 0
 h1 : f 1 = true → s27 = .pointer (some ⟨ga, 0, none⟩)
 h2 : f 2 = true → s28 = A0
 h3 : f 3 = true → f 18 = false → ∃ a l c, s29 = .slice a l c ∧ ILv W (.slice a l c) x.s
 c2 : f 2 = true → f 1 = true
 c3 : f 3 = true → f 0 = true ∧ f 2 = true
 h4 : f 4 = true → ∃ b : Addr, s30 = .slice (some b) 0 0
 h5 : f 5 = true → s31 = .pointer (some ⟨ga, 1, none⟩)
 h6 : f 6 = true → s32 = A1
 h7 : f 7 = true → f 18 = false → ∃ a l c, s33 = .slice a l c ∧ ILv W (.slice a l c) x.p
 c6 : f 6 = true → f 5 = true
 c7 : f 7 = true → f 4 = true ∧ f 6 = true
 h8 : f 8 = true → ∃ b : Addr, s34 = .slice (some b) 0 0
 h9 : f 9 = true → s35 = .pointer (some ⟨ga, 2, none⟩)
 h10 : f 10 = true → s36 = A2
 h11 : f 11 = true → f 18 = false → ∃ a l c, s37 = .slice a l c ∧ ILv W (.slice a l c) x.g
 c10 : f 10 = true → f 9 = true
 c11 : f 11 = true → f 8 = true ∧ f 10 = true
 h12 : f 12 = true → ∃ b : Addr, s38 = .slice (some b) 0 0
 h13 : f 13 = true → s39 = .pointer (some ⟨ga, 3, none⟩)
 h14 : f 14 = true → s40 = A3
 h15 : f 15 = true → f 18 = false → ∃ a l c, s41 = .slice a l c ∧ ILv W (.slice a l c) x.r
 c14 : f 14 = true → f 13 = true
 c15 : f 15 = true → f 12 = true ∧ f 14 = true
 h16 : f 16 = true → f 18 = false → ∃ v0 m0 r0 v1 m1 r1 v2 m2 r2 v3 m3 r3, s42 = .agg #[.slice v0 m0 r0, .slice v1 m1 r1, .slice v2 m2 r2, .slice v3 m3 r3] ∧ AL W (.slice v0 m0 r0) (.slice v1 m1 r1) (.slice v2 m2 r2) (.slice v3 m3 r3) x
 h17 : f 17 = true → f 18 = false → ∃ g, s7 = .pointer (some ⟨g, 0, none⟩) ∧ w0.heap.size ≤ g ∧ W.heap[g]? = some (.cells #[.slice none 0 0, .slice none 0 0, .slice none 0 0, .slice none 0 0] 56 (0, 0))
 h18 : f 18 = true → ∃ g v0 m0 r0 v1 m1 r1 v2 m2 r2 v3 m3 r3, s7 = .pointer (some ⟨g, 0, none⟩) ∧ w0.heap.size ≤ g ∧ W.heap[g]? = some (.cells #[.slice v0 m0 r0, .slice v1 m1 r1, .slice v2 m2 r2, .slice v3 m3 r3] 56 (0, 0)) ∧ AL W (.slice v0 m0 r0) (.slice v1 m1 r1) (.slice v2 m2 r2) (.slice v3 m3 r3) x
 c16 : f 16 = true → f 3 = true ∧ f 7 = true ∧ f 11 = true ∧ f 15 = true
theorem R5.below {w0 : World} {A0 A1 A2 A3 : Value} {ga : Nat} {x : Ar} {f : Nat → Bool} {s26 s27 s28 s29 s30 s31 s32 s33 s34 s35 s36 s37 s38 s39 s40 s41 s42 s7 : Value} {W W' : World} (h : R5 w0 A0 A1 A2 A3 ga x f s26 s27 s28 s29 s30 s31 s32 s33 s34 s35 s36 s37 s38 s39 s40 s41 s42 s7 W) (hb : Below W.heap.size W W') : R5 w0 A0 A1 A2 A3 ga x f s26 s27 s28 s29 s30 s31 s32 s33 s34 s35 s36 s37 s38 s39 s40 s41 s42 s7 W' :=
 { h with
  bel := h.bel.trans (hb.mono h.bel.size)
  h3 := fun k1 k2 => by
   obtain ⟨a, l, c, h1, h2⟩ := h.h3 k1 k2
   exact ⟨a, l, c, h1, h2.below hb⟩
  h7 := fun k1 k2 => by
   obtain ⟨a, l, c, h1, h2⟩ := h.h7 k1 k2
   exact ⟨a, l, c, h1, h2.below hb⟩
  h11 := fun k1 k2 => by
   obtain ⟨a, l, c, h1, h2⟩ := h.h11 k1 k2
   exact ⟨a, l, c, h1, h2.below hb⟩
  h15 := fun k1 k2 => by
   obtain ⟨a, l, c, h1, h2⟩ := h.h15 k1 k2
   exact ⟨a, l, c, h1, h2.below hb⟩
  h16 := fun k1 k2 => by
   obtain ⟨v0, m0, r0, v1, m1, r1, v2, m2, r2, v3, m3, r3, h1, h2⟩ := h.h16 k1 k2
   exact ⟨v0, m0, r0, v1, m1, r1, v2, m2, r2, v3, m3, r3, h1, h2.below hb⟩
  h17 := fun k1 k2 => by
   obtain ⟨g, h1, h2, h3⟩ := h.h17 k1 k2
   exact ⟨g, h1, h2, (hb.block _ (lt_of_block h3)).trans h3⟩
  h18 := fun k1 => by
   obtain ⟨g, v0, m0, r0, v1, m1, r1, v2, m2, r2, v3, m3, r3, h1, h2, h3, h4⟩ := h.h18 k1
   exact ⟨g, v0, m0, r0, v1, m1, r1, v2, m2, r2, v3, m3, r3, h1, h2, (hb.block _ (lt_of_block h3)).trans h3, h4.below hb⟩ }
theorem R5.no {w0 : World} {A0 A1 A2 A3 : Value} {ga : Nat} {x : Ar} {f : Nat → Bool} {s26 s27 s28 s29 s30 s31 s32 s33 s34 s35 s36 s37 s38 s39 s40 s41 s42 s7 : Value} {W : World} (h : R5 w0 A0 A1 A2 A3 ga x f s26 s27 s28 s29 s30 s31 s32 s33 s34 s35 s36 s37 s38 s39 s40 s41 s42 s7 W) {i : Nat} (hi : i < 18) (hu : f i = false) : f 18 = false := by
 cases k : f 18 with
 | false => rfl
 | true => rw [h.hx k i hi] at hu; cases hu
theorem R5.all {w0 : World} {A0 A1 A2 A3 : Value} {ga : Nat} {x : Ar} {f : Nat → Bool} {s26 s27 s28 s29 s30 s31 s32 s33 s34 s35 s36 s37 s38 s39 s40 s41 s42 s7 : Value} {W : World} (h : R5 w0 A0 A1 A2 A3 ga x f s26 s27 s28 s29 s30 s31 s32 s33 s34 s35 s36 s37 s38 s39 s40 s41 s42 s7 W) (h16 : f 16 = true) (h17 : f 17 = true) : ∀ i, i < 18 → f i = true := by
 obtain ⟨q3, q7, q11, q15⟩ := h.c16 h16
 intro i hi
 rcases i with _ | _ | _ | _ | _ | _ | _ | _ | _ | _ | _ | _ | _ | _ | _ | _ | _ | _ | i
 ·exact (h.c3 q3).1
 ·exact h.c2 (h.c3 q3).2
 ·exact (h.c3 q3).2
 ·exact q3
 ·exact (h.c7 q7).1
 ·exact h.c6 (h.c7 q7).2
 ·exact (h.c7 q7).2
 ·exact q7
 ·exact (h.c11 q11).1
 ·exact h.c10 (h.c11 q11).2
 ·exact (h.c11 q11).2
 ·exact q11
 ·exact (h.c15 q15).1
 ·exact h.c14 (h.c15 q15).2
 ·exact (h.c15 q15).2
 ·exact q15
 ·exact h16
 ·exact h17
 ·omega
set_option maxRecDepth 100000 in
set_option maxHeartbeats 16000000 in
theorem freeTells_any (p : Pl) (s q gg rr : Value) (st : St) (t sw lk : Value) (x : Ar) (u1 u2 u3 u4 : Value) (w : World) (hp : PlM w s q gg rr p) (hs : StM w t sw lk st) (hx : AL w u1 u2 u3 u4 x) :
  Calls Tryz.prog 5 #[plV p s q gg rr, .agg #[t, sw, lk], .agg #[u1, u2, u3, u4]] w (BoolPost w true) := by
 have HIS : Hid (p.Fit → st.fit → x.small → ∀ W v1 v2 v3 v4, Below w.heap.size w W → AL W v1 v2 v3 v4 x → Calls Tryz.prog 36 #[plV p s q gg rr, .agg #[t, sw, lk], .agg #[v1, v2, v3, v4]] W (IsPost W (isFree p st x) (ofErr p st))) := fun hf hsf hxs W v1 v2 v3 v4 hb hal => is_any p st x s q gg rr t sw lk v1 v2 v3 v4 W (hp.below hb) hf (hs.below hb) hsf hal hxs.mid
 have HOD : Hid (p.Fit → st.fit → x.small → ∀ W v1 v2 v3 v4, Below w.heap.size w W → AL W v1 v2 v3 v4 x → Calls Tryz.prog 38 #[plV p s q gg rr, .agg #[t, sw, lk], .agg #[v1, v2, v3, v4]] W (OddPost W (oddA p st x) (ofErr p st))) := fun hf hsf hxs W v1 v2 v3 v4 hb hal => odd_any p st x s q gg rr t sw lk v1 v2 v3 v4 W (hp.below hb) hf (hs.below hb) hsf hal hxs.mid
 have HTO : Hid (p.Fit → st.fit → x.small → ∀ W, Below w.heap.size w W → Calls Tryz.prog 37 #[plV p s q gg rr, .agg #[t, sw, lk], .agg #[u1, u2, u3, u4]] W (IsPost W (isFree p st x) (ofErr p st))) := fun hf hsf hxs W hb => refTold p st x s q gg rr t sw lk u1 u2 u3 u4 W (hp.below hb) hf (hs.below hb) hsf (hx.below hb) hxs
 have HRO : Hid (p.Fit → st.fit → x.small → ∀ W, Below w.heap.size w W → Calls Tryz.prog 39 #[plV p s q gg rr, .agg #[t, sw, lk], .agg #[u1, u2, u3, u4]] W (OddPost W (oddA p st x) (ofErr p st))) := fun hf hsf hxs W hb => refOddA p st x s q gg rr t sw lk u1 u2 u3 u4 W (hp.below hb) hf (hs.below hb) hsf (hx.below hb) hxs
 have HGP : Hid (∀ W, Below w.heap.size w W → Calls Tryz.prog 33 #[plV p s q gg rr] W (FalsePost W p.Fit)) := fun W hb => plgreat_any p _ _ _ _ W (hp.below hb)
 have HGS : Hid (∀ W, Below w.heap.size w W → Calls Tryz.prog 34 #[.agg #[t, sw, lk]] W (FalsePost W st.fit)) := fun W hb => stgreat_any _ _ _ st W (hs.below hb)
 have HGX : Hid (∀ W, Below w.heap.size w W → Calls Tryz.prog 35 #[.agg #[u1, u2, u3, u4]] W fun e w' => e = .returned (.bool (!decide x.small)) ∧ Below W.heap.size W w') := fun W hb => great_any _ _ _ _ x W (hx.below hb)
 have HSO : Hid (x.small → ∀ W y1 y2 y3 y4 z1 z2 z3 z4, AL W y1 y2 y3 y4 (oddA p st x) → AL W z1 z2 z3 z4 (oddA p st x) → Calls Tryz.prog 40 #[.agg #[y1, y2, y3, y4], .agg #[z1, z2, z3, z4]] W (BoolPost W true)) := fun hxs W y1 y2 y3 y4 z1 z2 z3 z4 h1 h2 => by
  have := refsame_any _ _ _ _ _ _ _ _ _ _ W h1 h2 (odd_small hxs) (odd_small hxs)
  rw [same_refl] at this
  exact this
 have HSX : Hid (x.small → ∀ W y1 y2 y3 y4, Below w.heap.size w W → AL W y1 y2 y3 y4 x → Calls Tryz.prog 40 #[.agg #[y1, y2, y3, y4], .agg #[u1, u2, u3, u4]] W (BoolPost W true)) := fun hxs W y1 y2 y3 y4 hb h1 => by
  have := refsame_any _ _ _ _ _ _ _ _ _ _ W h1 (hx.below hb) hxs hxs
  rw [same_refl] at this
  exact this
 obtain ⟨e1, f1, rfl, x1⟩ := hx.s.at_
 obtain ⟨e2, f2, rfl, x2⟩ := hx.p.at_
 obtain ⟨e3, f3, rfl, x3⟩ := hx.g.at_
 obtain ⟨e4, f4, rfl, x4⟩ := hx.r.at_
 have IL1 : Hid (∀ W, Below w.heap.size w W → IL W e1 x.s.length x.s) := fun W hb => x1.below hb
 have IL2 : Hid (∀ W, Below w.heap.size w W → IL W e2 x.p.length x.p) := fun W hb => x2.below hb
 have IL3 : Hid (∀ W, Below w.heap.size w W → IL W e3 x.g.length x.g) := fun W hb => x3.below hb
 have IL4 : Hid (∀ W, Below w.heap.size w W → IL W e4 x.r.length x.r) := fun W hb => x4.below hb
 obtain ⟨a1, c1, rfl, -⟩ := hp.secs
 obtain ⟨a2, c2, rfl, -⟩ := hp.pts
 obtain ⟨a3, c3, rfl, -⟩ := hp.sigs
 obtain ⟨a4, c4, rfl, -⟩ := hp.rts
 obtain ⟨b1, d1, rfl, -⟩ := hs.tks
 obtain ⟨b2, d2, rfl, -⟩ := hs.sws
 obtain ⟨b3, d3, rfl, -⟩ := hs.lks
 clear hp hs hx x1 x2 x3 x4
 generalize isFree p st x = IS at *
 generalize oddA p st x = O at *
 generalize ofErr p st = E at *
 unfold plV at *
 go_enter Tryz.func5, Tryz.ntmps5
 go_upto_region 1 with fail
 generalize hW0 : World.alloc _ _ = W0
 obtain ⟨K0, HP0, HS0, HXX⟩ := box3 hW0
 clear hW0
 have KR : Hid (Below W0.heap.size W0 W0) := Below.refl _ _
 have bx0 := (KR.out.block _ (lt_of_block HP0.out)).trans HP0.out
 obtain ⟨pp0, pp1, pp2, pp3, pp4, pp5⟩ := cells6 (bx0)
 have lp := block_lt_of_cell pp0
 clear bx0
 go_wp2_with fail
 refine (HGP.out W0 K0.out).mono ?_
 rintro e w1 ⟨g1, rfl, hF, hb⟩
 clear pp0 pp1 pp2 pp3 pp4 pp5 lp
 have B1 : Hid (Below W0.heap.size W0 w1) := hb
 have K1 : Hid (Below w.heap.size w w1) := K0.out.trans (hb.mono K0.out.size)
 clear hb
 cases g1 with
 | true =>
  go_wp2_with fail
  go_ret
  exact ⟨rfl, K1.out⟩
 | false =>
  have HF := Lib.hid (hF rfl)
  clear hF
  have bx1 := (B1.out.block _ (lt_of_block HS0.out)).trans HS0.out
  obtain ⟨ss0, ss1, ss2⟩ := cells3 (bx1)
  have ls := block_lt_of_cell ss0
  clear bx1
  go_wp2_with fail
  refine (HGS.out w1 K1.out).mono ?_
  rintro e w2 ⟨g2, rfl, hF, hb⟩
  clear ss0 ss1 ss2 ls
  have B2 : Hid (Below W0.heap.size W0 w2) := B1.out.trans (hb.mono B1.out.size)
  have K2 : Hid (Below w.heap.size w w2) := K0.out.trans (B2.out.mono K0.out.size)
  clear hb
  cases g2 with
  | true =>
   go_wp2_with fail
   go_ret
   exact ⟨rfl, K2.out⟩
  | false =>
   have HSF := Lib.hid (hF rfl)
   clear hF
   have bx2 := (B2.out.block _ (lt_of_block HXX.out)).trans HXX.out
   obtain ⟨xx0, xx1, xx2, xx3⟩ := cells4 (bx2)
   have lx := block_lt_of_cell xx0
   clear bx2
   go_wp2_with fail
   refine (HGX.out w2 K2.out).mono ?_
   rintro e w3 ⟨rfl, hb⟩
   clear xx0 xx1 xx2 xx3 lx
   have B3 : Hid (Below W0.heap.size W0 w3) := B2.out.trans (hb.mono B2.out.size)
   have K3 : Hid (Below w.heap.size w w3) := K0.out.trans (B3.out.mono K0.out.size)
   clear hb
   by_cases hxs : x.small
   ·have hd : decide x.small = true := decide_eq_true hxs
    rw [hd]
    have HXS := Lib.hid hxs
    have LN1 : Hid (x.s.length ≤ 1000) := Nat.le_trans hxs.1 (by decide)
    have LN2 : Hid (x.p.length ≤ 1000) := Nat.le_trans hxs.2.1 (by decide)
    have LN3 : Hid (x.g.length ≤ 1000) := Nat.le_trans hxs.2.2.1 (by decide)
    have LN4 : Hid (x.r.length ≤ 1000) := Nat.le_trans hxs.2.2.2 (by decide)
    clear hxs hd
    go_upto_region 3 with fail
    have HXX3 := Lib.hid ((B3.out.block _ (lt_of_block HXX.out)).trans HXX.out)
    refine wp_region_inv' (by kernel_rfl) (by kernel_rfl) (fun f a W9 => ∃ s26 s27 s28 s29 s30 s31 s32 s33 s34 s35 s36 s37 s38 s39 s40 s41 s42 s7 : Value, a = { tmps := #[.agg #[.int .i64 p.ver, .int .i64 p.par, .slice a1 p.secs.length c1, .slice a2 p.pts.length c2, .slice a3 p.sigs.length c3, .slice a4 p.rts.length c4], .agg #[.slice b1 st.tks.length d1, .slice b2 st.sws.length d2, .slice b3 st.lks.length d3], .agg #[.slice e1 x.s.length f1, .slice e2 x.p.length f2, .slice e3 x.g.length f3, .slice e4 x.r.length f4], .pointer (some ⟨w.heap.size, 0, none⟩), .pointer (some ⟨w.heap.size + 1, 0, none⟩), .pointer (some ⟨w.heap.size + 1 + 1, 0, none⟩), .bool false, s7, undef, undef, undef, undef, undef, undef, undef, undef, .agg #[.int .i64 p.ver, .int .i64 p.par, .slice a1 p.secs.length c1, .slice a2 p.pts.length c2, .slice a3 p.sigs.length c3, .slice a4 p.rts.length c4], .bool false, .bool false, .agg #[.slice b1 st.tks.length d1, .slice b2 st.sws.length d2, .slice b3 st.lks.length d3], .bool false, .bool false, .bool false, .agg #[.slice e1 x.s.length f1, .slice e2 x.p.length f2, .slice e3 x.g.length f3, .slice e4 x.r.length f4], .bool false, .bool false, s26, s27, s28, s29, s30, s31, s32, s33, s34, s35, s36, s37, s38, s39, s40, s41, s42, undef, undef, undef, undef, undef, undef, undef, undef, undef, undef, undef, undef, undef, undef, undef, undef, undef, undef, undef, undef, undef, undef, undef, undef, undef, undef, undef, undef, undef, undef, undef, undef, undef, undef, undef, undef, undef, undef, undef, undef, undef, undef, undef, undef, undef, undef, undef, undef, undef, undef, undef], defers := [] } ∧ R5 w3 (.slice e1 x.s.length f1) (.slice e2 x.p.length f2) (.slice e3 x.g.length f3) (.slice e4 x.r.length f4) (w.heap.size + 1 + 1) x f s26 s27 s28 s29 s30 s31 s32 s33 s34 s35 s36 s37 s38 s39 s40 s41 s42 s7 W9) ?_ ?_ ?_
    ·exact ⟨_, _, _, _, _, _, _, _, _, _, _, _, _, _, _, _, _, _, rfl, { bel := ⟨rfl, rfl, rfl, Nat.le_refl _, fun _ _ => rfl⟩, hx := by simp, h0 := by simp, h1 := by simp, h2 := by simp, h3 := by simp, h4 := by simp, h5 := by simp, h6 := by simp, h7 := by simp, h8 := by simp, h9 := by simp, h10 := by simp, h11 := by simp, h12 := by simp, h13 := by simp, h14 := by simp, h15 := by simp, h16 := by simp, h17 := by simp, h18 := by simp, c16 := by simp, c2 := by simp, c3 := by simp, c6 := by simp, c7 := by simp, c10 := by simp, c11 := by simp, c14 := by simp, c15 := by simp }⟩
    ·intro i o ho f a W9 hI hd hun
     obtain ⟨s26, s27, s28, s29, s30, s31, s32, s33, s34, s35, s36, s37, s38, s39, s40, s41, s42, s7, rfl, hS⟩ := hI
     have qa := (hS.bel.block _ (lt_of_block HXX3.out)).trans HXX3.out
     have hL := K3.out.trans (hS.bel.mono K3.out.size)
     rcases i with _ | _ | _ | _ | _ | _ | _ | _ | _ | _ | _ | _ | _ | _ | _ | _ | _ | _ | _ | i
     ·simp at ho
      subst ho
      have h18 := hS.no (by decide) hun
      simp [wpOp, go_sem]
      exact .inl ⟨_, _, _, _, _, _, _, _, _, _, _, _, _, _, _, _, _, _, ⟨rfl, rfl, rfl, rfl, rfl, rfl, rfl, rfl, rfl, rfl, rfl, rfl, rfl, rfl, rfl, rfl, rfl, rfl⟩, { R5.below hS ((Below.refl _ _).alloc (Nat.le_refl _) _) with h0 := fun _ => ⟨_, rfl⟩, hx := fun k => (nomatch h18.symm.trans k), c3 := fun k => ⟨rfl, (hS.c3 k).2⟩ }⟩
     ·simp at ho
      subst ho
      have h18 := hS.no (by decide) hun
      simp [wpOp, go_sem]
      exact .inl ⟨_, _, _, _, _, _, _, _, _, _, _, _, _, _, _, _, _, _, ⟨rfl, rfl, rfl, rfl, rfl, rfl, rfl, rfl, rfl, rfl, rfl, rfl, rfl, rfl, rfl, rfl, rfl, rfl⟩, { hS with h1 := fun _ => rfl, hx := fun k => (nomatch h18.symm.trans k), c2 := fun _ => rfl }⟩
     ·simp at ho
      subst ho
      have h18 := hS.no (by decide) hun
      have d1 := hd ⟨1, .data⟩ (by simp) (by rfl)
      obtain rfl := hS.h1 d1
      have cc : W9.cell? ⟨w.heap.size + 1 + 1, 0, none⟩ = some (.slice e1 x.s.length f1) := (cell_of_row W9 _ 0 _ _ _ qa).trans rfl
      simp [wpOp, go_sem, cc]
      exact .inl ⟨_, _, _, _, _, _, _, _, _, _, _, _, _, _, _, _, _, _, ⟨rfl, rfl, rfl, rfl, rfl, rfl, rfl, rfl, rfl, rfl, rfl, rfl, rfl, rfl, rfl, rfl, rfl, rfl⟩, { hS with h2 := fun _ => rfl, hx := fun k => (nomatch h18.symm.trans k), c2 := fun _ => d1, c3 := fun k => ⟨(hS.c3 k).1, rfl⟩ }⟩
     ·have ho2 := ho
      simp at ho2
      subst ho2
      have h18 := hS.no (by decide) hun
      have d1 := hd ⟨0, .data⟩ (by simp) (by rfl)
      have d2 := hd ⟨2, .data⟩ (by simp) (by rfl)
      obtain ⟨bb, rfl⟩ := hS.h0 d1
      obtain rfl := hS.h2 d2
      obtain ⟨q, nn, c, w', hr, hil, hb⟩ := run_copy bb (c := f1) (IL1.out W9 hL) LN1.out
      refine wpOp_append_own ho rfl (.tmp 26) (.tmp 28) 54 rfl _ _ _ _ rfl rfl (hr _) ?_
      exact ⟨_, _, _, _, _, _, _, _, _, _, _, _, _, _, _, _, _, _, rfl, { R5.below hS hb with h3 := fun _ _ => ⟨_, _, _, rfl, hil⟩, hx := fun k => (nomatch h18.symm.trans k), c3 := fun _ => ⟨d1, d2⟩, c16 := fun k => ⟨rfl, (hS.c16 k).2.1, (hS.c16 k).2.2.1, (hS.c16 k).2.2.2⟩ }⟩
     ·simp at ho
      subst ho
      have h18 := hS.no (by decide) hun
      simp [wpOp, go_sem]
      exact .inl ⟨_, _, _, _, _, _, _, _, _, _, _, _, _, _, _, _, _, _, ⟨rfl, rfl, rfl, rfl, rfl, rfl, rfl, rfl, rfl, rfl, rfl, rfl, rfl, rfl, rfl, rfl, rfl, rfl⟩, { R5.below hS ((Below.refl _ _).alloc (Nat.le_refl _) _) with h4 := fun _ => ⟨_, rfl⟩, hx := fun k => (nomatch h18.symm.trans k), c7 := fun k => ⟨rfl, (hS.c7 k).2⟩ }⟩
     ·simp at ho
      subst ho
      have h18 := hS.no (by decide) hun
      simp [wpOp, go_sem]
      exact .inl ⟨_, _, _, _, _, _, _, _, _, _, _, _, _, _, _, _, _, _, ⟨rfl, rfl, rfl, rfl, rfl, rfl, rfl, rfl, rfl, rfl, rfl, rfl, rfl, rfl, rfl, rfl, rfl, rfl⟩, { hS with h5 := fun _ => rfl, hx := fun k => (nomatch h18.symm.trans k), c6 := fun _ => rfl }⟩
     ·simp at ho
      subst ho
      have h18 := hS.no (by decide) hun
      have d1 := hd ⟨5, .data⟩ (by simp) (by rfl)
      obtain rfl := hS.h5 d1
      have cc : W9.cell? ⟨w.heap.size + 1 + 1, 1, none⟩ = some (.slice e2 x.p.length f2) := (cell_of_row W9 _ 1 _ _ _ qa).trans rfl
      simp [wpOp, go_sem, cc]
      exact .inl ⟨_, _, _, _, _, _, _, _, _, _, _, _, _, _, _, _, _, _, ⟨rfl, rfl, rfl, rfl, rfl, rfl, rfl, rfl, rfl, rfl, rfl, rfl, rfl, rfl, rfl, rfl, rfl, rfl⟩, { hS with h6 := fun _ => rfl, hx := fun k => (nomatch h18.symm.trans k), c6 := fun _ => d1, c7 := fun k => ⟨(hS.c7 k).1, rfl⟩ }⟩
     ·have ho2 := ho
      simp at ho2
      subst ho2
      have h18 := hS.no (by decide) hun
      have d1 := hd ⟨4, .data⟩ (by simp) (by rfl)
      have d2 := hd ⟨6, .data⟩ (by simp) (by rfl)
      obtain ⟨bb, rfl⟩ := hS.h4 d1
      obtain rfl := hS.h6 d2
      obtain ⟨q, nn, c, w', hr, hil, hb⟩ := run_copy bb (c := f2) (IL2.out W9 hL) LN2.out
      refine wpOp_append_own ho rfl (.tmp 30) (.tmp 32) 54 rfl _ _ _ _ rfl rfl (hr _) ?_
      exact ⟨_, _, _, _, _, _, _, _, _, _, _, _, _, _, _, _, _, _, rfl, { R5.below hS hb with h7 := fun _ _ => ⟨_, _, _, rfl, hil⟩, hx := fun k => (nomatch h18.symm.trans k), c7 := fun _ => ⟨d1, d2⟩, c16 := fun k => ⟨(hS.c16 k).1, rfl, (hS.c16 k).2.2.1, (hS.c16 k).2.2.2⟩ }⟩
     ·simp at ho
      subst ho
      have h18 := hS.no (by decide) hun
      simp [wpOp, go_sem]
      exact .inl ⟨_, _, _, _, _, _, _, _, _, _, _, _, _, _, _, _, _, _, ⟨rfl, rfl, rfl, rfl, rfl, rfl, rfl, rfl, rfl, rfl, rfl, rfl, rfl, rfl, rfl, rfl, rfl, rfl⟩, { R5.below hS ((Below.refl _ _).alloc (Nat.le_refl _) _) with h8 := fun _ => ⟨_, rfl⟩, hx := fun k => (nomatch h18.symm.trans k), c11 := fun k => ⟨rfl, (hS.c11 k).2⟩ }⟩
     ·simp at ho
      subst ho
      have h18 := hS.no (by decide) hun
      simp [wpOp, go_sem]
      exact .inl ⟨_, _, _, _, _, _, _, _, _, _, _, _, _, _, _, _, _, _, ⟨rfl, rfl, rfl, rfl, rfl, rfl, rfl, rfl, rfl, rfl, rfl, rfl, rfl, rfl, rfl, rfl, rfl, rfl⟩, { hS with h9 := fun _ => rfl, hx := fun k => (nomatch h18.symm.trans k), c10 := fun _ => rfl }⟩
     ·simp at ho
      subst ho
      have h18 := hS.no (by decide) hun
      have d1 := hd ⟨9, .data⟩ (by simp) (by rfl)
      obtain rfl := hS.h9 d1
      have cc : W9.cell? ⟨w.heap.size + 1 + 1, 2, none⟩ = some (.slice e3 x.g.length f3) := (cell_of_row W9 _ 2 _ _ _ qa).trans rfl
      simp [wpOp, go_sem, cc]
      exact .inl ⟨_, _, _, _, _, _, _, _, _, _, _, _, _, _, _, _, _, _, ⟨rfl, rfl, rfl, rfl, rfl, rfl, rfl, rfl, rfl, rfl, rfl, rfl, rfl, rfl, rfl, rfl, rfl, rfl⟩, { hS with h10 := fun _ => rfl, hx := fun k => (nomatch h18.symm.trans k), c10 := fun _ => d1, c11 := fun k => ⟨(hS.c11 k).1, rfl⟩ }⟩
     ·have ho2 := ho
      simp at ho2
      subst ho2
      have h18 := hS.no (by decide) hun
      have d1 := hd ⟨8, .data⟩ (by simp) (by rfl)
      have d2 := hd ⟨10, .data⟩ (by simp) (by rfl)
      obtain ⟨bb, rfl⟩ := hS.h8 d1
      obtain rfl := hS.h10 d2
      obtain ⟨q, nn, c, w', hr, hil, hb⟩ := run_copy bb (c := f3) (IL3.out W9 hL) LN3.out
      refine wpOp_append_own ho rfl (.tmp 34) (.tmp 36) 54 rfl _ _ _ _ rfl rfl (hr _) ?_
      exact ⟨_, _, _, _, _, _, _, _, _, _, _, _, _, _, _, _, _, _, rfl, { R5.below hS hb with h11 := fun _ _ => ⟨_, _, _, rfl, hil⟩, hx := fun k => (nomatch h18.symm.trans k), c11 := fun _ => ⟨d1, d2⟩, c16 := fun k => ⟨(hS.c16 k).1, (hS.c16 k).2.1, rfl, (hS.c16 k).2.2.2⟩ }⟩
     ·simp at ho
      subst ho
      have h18 := hS.no (by decide) hun
      simp [wpOp, go_sem]
      exact .inl ⟨_, _, _, _, _, _, _, _, _, _, _, _, _, _, _, _, _, _, ⟨rfl, rfl, rfl, rfl, rfl, rfl, rfl, rfl, rfl, rfl, rfl, rfl, rfl, rfl, rfl, rfl, rfl, rfl⟩, { R5.below hS ((Below.refl _ _).alloc (Nat.le_refl _) _) with h12 := fun _ => ⟨_, rfl⟩, hx := fun k => (nomatch h18.symm.trans k), c15 := fun k => ⟨rfl, (hS.c15 k).2⟩ }⟩
     ·simp at ho
      subst ho
      have h18 := hS.no (by decide) hun
      simp [wpOp, go_sem]
      exact .inl ⟨_, _, _, _, _, _, _, _, _, _, _, _, _, _, _, _, _, _, ⟨rfl, rfl, rfl, rfl, rfl, rfl, rfl, rfl, rfl, rfl, rfl, rfl, rfl, rfl, rfl, rfl, rfl, rfl⟩, { hS with h13 := fun _ => rfl, hx := fun k => (nomatch h18.symm.trans k), c14 := fun _ => rfl }⟩
     ·simp at ho
      subst ho
      have h18 := hS.no (by decide) hun
      have d1 := hd ⟨13, .data⟩ (by simp) (by rfl)
      obtain rfl := hS.h13 d1
      have cc : W9.cell? ⟨w.heap.size + 1 + 1, 3, none⟩ = some (.slice e4 x.r.length f4) := (cell_of_row W9 _ 3 _ _ _ qa).trans rfl
      simp [wpOp, go_sem, cc]
      exact .inl ⟨_, _, _, _, _, _, _, _, _, _, _, _, _, _, _, _, _, _, ⟨rfl, rfl, rfl, rfl, rfl, rfl, rfl, rfl, rfl, rfl, rfl, rfl, rfl, rfl, rfl, rfl, rfl, rfl⟩, { hS with h14 := fun _ => rfl, hx := fun k => (nomatch h18.symm.trans k), c14 := fun _ => d1, c15 := fun k => ⟨(hS.c15 k).1, rfl⟩ }⟩
     ·have ho2 := ho
      simp at ho2
      subst ho2
      have h18 := hS.no (by decide) hun
      have d1 := hd ⟨12, .data⟩ (by simp) (by rfl)
      have d2 := hd ⟨14, .data⟩ (by simp) (by rfl)
      obtain ⟨bb, rfl⟩ := hS.h12 d1
      obtain rfl := hS.h14 d2
      obtain ⟨q, nn, c, w', hr, hil, hb⟩ := run_copy bb (c := f4) (IL4.out W9 hL) LN4.out
      refine wpOp_append_own ho rfl (.tmp 38) (.tmp 40) 54 rfl _ _ _ _ rfl rfl (hr _) ?_
      exact ⟨_, _, _, _, _, _, _, _, _, _, _, _, _, _, _, _, _, _, rfl, { R5.below hS hb with h15 := fun _ _ => ⟨_, _, _, rfl, hil⟩, hx := fun k => (nomatch h18.symm.trans k), c15 := fun _ => ⟨d1, d2⟩, c16 := fun k => ⟨(hS.c16 k).1, (hS.c16 k).2.1, (hS.c16 k).2.2.1, rfl⟩ }⟩
     ·simp at ho
      subst ho
      have h18 := hS.no (by decide) hun
      have d0 := hd ⟨3, .data⟩ (by simp) (by rfl)
      obtain ⟨v0, m0, r0, rfl, g0⟩ := hS.h3 d0 h18
      have d1 := hd ⟨7, .data⟩ (by simp) (by rfl)
      obtain ⟨v1, m1, r1, rfl, g1⟩ := hS.h7 d1 h18
      have d2 := hd ⟨11, .data⟩ (by simp) (by rfl)
      obtain ⟨v2, m2, r2, rfl, g2⟩ := hS.h11 d2 h18
      have d3 := hd ⟨15, .data⟩ (by simp) (by rfl)
      obtain ⟨v3, m3, r3, rfl, g3⟩ := hS.h15 d3 h18
      simp [wpOp, go_sem]
      exact .inl ⟨_, _, _, _, _, _, _, _, _, _, _, _, _, _, _, _, _, _, ⟨rfl, rfl, rfl, rfl, rfl, rfl, rfl, rfl, rfl, rfl, rfl, rfl, rfl, rfl, rfl, rfl, rfl, rfl⟩, { hS with h16 := fun _ _ => ⟨_, _, _, _, _, _, _, _, _, _, _, _, rfl, ⟨g0, g1, g2, g3⟩⟩, hx := fun k => (nomatch h18.symm.trans k), c16 := fun _ => ⟨d0, d1, d2, d3⟩ }⟩
     ·simp at ho
      subst ho
      have h18 := hS.no (by decide) hun
      simp [wpOp, go_sem]
      exact .inl ⟨_, _, _, _, _, _, _, _, _, _, _, _, _, _, _, _, _, _, ⟨rfl, rfl, rfl, rfl, rfl, rfl, rfl, rfl, rfl, rfl, rfl, rfl, rfl, rfl, rfl, rfl, rfl, rfl⟩, { R5.below hS ((Below.refl _ _).alloc (Nat.le_refl _) _) with h17 := fun _ _ => ⟨_, rfl, hS.bel.size, heap_alloc_new _ _⟩, h18 := fun k => (nomatch h18.symm.trans k), hx := fun k => (nomatch h18.symm.trans k) }⟩
     ·have ho2 := ho
      simp at ho2
      subst ho2
      have d16 := hd ⟨16, .data⟩ (by simp) (by rfl)
      have d17 := hd ⟨17, .data⟩ (by simp) (by rfl)
      have hall := hS.all d16 d17
      obtain ⟨v0, m0, r0, v1, m1, r1, v2, m2, r2, v3, m3, r3, rfl, hal⟩ := hS.h16 d16 hun
      obtain ⟨g, rfl, hg, hz⟩ := hS.h17 d17 hun
      refine wpOp_store_row ho rfl 56 (.tmp 7) (.tmp 42) rfl g #[.slice v0 m0 r0, .slice v1 m1 r1, .slice v2 m2 r2, .slice v3 m3 r3] rfl rfl 56 #[.slice none 0 0, .slice none 0 0, .slice none 0 0, .slice none 0 0] hz rfl rfl (by simp [Value.oneCell']) ?_
      have hne : ∀ k, k ≠ g → (W9.setRow g #[.slice v0 m0 r0, .slice v1 m1 r1, .slice v2 m2 r2, .slice v3 m3 r3]).heap[k]? = W9.heap[k]? := fun k hk => setRow_other W9 g k _ hk
      exact ⟨_, _, _, _, _, _, _, _, _, _, _, _, _, _, _, _, _, _, rfl, { hS with bel := ⟨hS.bel.os, hS.bel.tape, hS.bel.output, by simpa using hS.bel.size, fun k hk => (hne k (by omega)).trans (hS.bel.block k hk)⟩, hx := fun _ i hi => by rw [hall i hi, Bool.or_true], h3 := fun _ k => (by cases k), h7 := fun _ k => (by cases k), h11 := fun _ k => (by cases k), h15 := fun _ k => (by cases k), h16 := fun _ k => (by cases k), h17 := fun _ k => (by cases k), h18 := fun _ => ⟨g, _, _, _, _, _, _, _, _, _, _, _, _, rfl, hg, setRow_heap W9 g _ _ _ _ hz, hal.off hz hne⟩ }⟩
     ·simp at ho
    ·intro f a W9 hI hall
     obtain ⟨s26, s27, s28, s29, s30, s31, s32, s33, s34, s35, s36, s37, s38, s39, s40, s41, s42, s7, rfl, hS⟩ := hI
     obtain ⟨g, v0, m0, r0, v1, m1, r1, v2, m2, r2, v3, m3, r3, rfl, hg, hrow, hal⟩ := hS.h18 (hall 18 (by decide))
     have hbel := hS.bel
     clear hS hall
     have BW9 : Hid (Below W0.heap.size W0 W9) := B3.out.trans (hbel.mono B3.out.size)
     have KW9 : Hid (Below w.heap.size w W9) := K0.out.trans (BW9.out.mono K0.out.size)
     have HR9 := Lib.hid hrow
     have HA9 := Lib.hid hal
     have HIS2 := Lib.hid (HIS.out HF.out HSF.out HXS.out)
     have HOD2 := Lib.hid (HOD.out HF.out HSF.out HXS.out)
     have HTO2 := Lib.hid (HTO.out HF.out HSF.out HXS.out)
     have HRO2 := Lib.hid (HRO.out HF.out HSF.out HXS.out)
     have HSO2 := Lib.hid (HSO.out HXS.out)
     have HSX2 := Lib.hid (HSX.out HXS.out)
     clear hbel hrow hal HIS HOD HTO HRO HSO HSX IL1 IL2 IL3 IL4
     have bx0 := (BW9.out.block _ (lt_of_block HP0.out)).trans HP0.out
     obtain ⟨pp0, pp1, pp2, pp3, pp4, pp5⟩ := cells6 (bx0)
     have lp := block_lt_of_cell pp0
     clear bx0
     have bx1 := (BW9.out.block _ (lt_of_block HS0.out)).trans HS0.out
     obtain ⟨ss0, ss1, ss2⟩ := cells3 (bx1)
     have ls := block_lt_of_cell ss0
     clear bx1
     obtain ⟨oo0, oo1, oo2, oo3⟩ := cells4 (HR9.out)
     have lo := block_lt_of_cell oo0
     go_wp2_with fail
     refine (HIS2.out W9 _ _ _ _ KW9.out HA9.out).mono ?_
     rintro e w5 ⟨rfl, hb⟩
     have Bw5 : Hid (Below W0.heap.size W0 w5) := BW9.out.trans (hb.mono BW9.out.size)
     have Kw5 : Hid (Below w.heap.size w w5) := K0.out.trans (Bw5.out.mono K0.out.size)
     have HR5 := Lib.hid ((hb.block _ (lt_of_block HR9.out)).trans HR9.out)
     have HA5 := Lib.hid (HA9.out.below hb)
     clear hb HR9 HA9 oo0 oo1 oo2 oo3 lo
     clear pp0 pp1 pp2 pp3 pp4 pp5 lp
     clear ss0 ss1 ss2 ls
     have bx0 := (Bw5.out.block _ (lt_of_block HP0.out)).trans HP0.out
     obtain ⟨pp0, pp1, pp2, pp3, pp4, pp5⟩ := cells6 (bx0)
     have lp := block_lt_of_cell pp0
     clear bx0
     have bx1 := (Bw5.out.block _ (lt_of_block HS0.out)).trans HS0.out
     obtain ⟨ss0, ss1, ss2⟩ := cells3 (bx1)
     have ls := block_lt_of_cell ss0
     clear bx1
     have bx2 := (Bw5.out.block _ (lt_of_block HXX.out)).trans HXX.out
     obtain ⟨xx0, xx1, xx2, xx3⟩ := cells4 (bx2)
     have lx := block_lt_of_cell xx0
     clear bx2
     go_wp2_with fail
     refine (HTO2.out w5 Kw5.out).mono ?_
     rintro e w6 ⟨rfl, hb⟩
     have Bw6 : Hid (Below W0.heap.size W0 w6) := Bw5.out.trans (hb.mono Bw5.out.size)
     have Kw6 : Hid (Below w.heap.size w w6) := K0.out.trans (Bw6.out.mono K0.out.size)
     have HR6 := Lib.hid ((hb.block _ (lt_of_block HR5.out)).trans HR5.out)
     have HA6 := Lib.hid (HA5.out.below hb)
     clear hb HR5 HA5
     clear pp0 pp1 pp2 pp3 pp4 pp5 lp
     clear ss0 ss1 ss2 ls
     clear xx0 xx1 xx2 xx3 lx
     have bx0 := (Bw6.out.block _ (lt_of_block HP0.out)).trans HP0.out
     obtain ⟨pp0, pp1, pp2, pp3, pp4, pp5⟩ := cells6 (bx0)
     have lp := block_lt_of_cell pp0
     clear bx0
     have bx1 := (Bw6.out.block _ (lt_of_block HS0.out)).trans HS0.out
     obtain ⟨ss0, ss1, ss2⟩ := cells3 (bx1)
     have ls := block_lt_of_cell ss0
     clear bx1
     obtain ⟨oo0, oo1, oo2, oo3⟩ := cells4 (HR6.out)
     have lo := block_lt_of_cell oo0
     go_wp2_with fail
     refine (HOD2.out w6 _ _ _ _ Kw6.out HA6.out).mono ?_
     rintro e w7 ⟨y1, y2, y3, y4, rfl, hal, hb⟩
     obtain ⟨h1, j1, rfl, -⟩ := hal.s.at_
     obtain ⟨h2, j2, rfl, -⟩ := hal.p.at_
     obtain ⟨h3, j3, rfl, -⟩ := hal.g.at_
     obtain ⟨h4, j4, rfl, -⟩ := hal.r.at_
     have Bw7 : Hid (Below W0.heap.size W0 w7) := Bw6.out.trans (hb.mono Bw6.out.size)
     have Kw7 : Hid (Below w.heap.size w w7) := K0.out.trans (Bw7.out.mono K0.out.size)
     have HR7 := Lib.hid ((hb.block _ (lt_of_block HR6.out)).trans HR6.out)
     have HA7 := Lib.hid (HA6.out.below hb)
     have HO7 := Lib.hid hal
     clear hb hal HR6 HA6 oo0 oo1 oo2 oo3 lo
     clear pp0 pp1 pp2 pp3 pp4 pp5 lp
     clear ss0 ss1 ss2 ls
     go_upto_region 7 with fail
     generalize hw8 : World.alloc _ _ = w8
     have hb : Below w7.heap.size w7 w8 := by rw [← hw8]; exact (Below.refl _ _).alloc (Nat.le_refl _) _
     have HC8 : Hid (w8.heap[w7.heap.size]? = some (.cells #[.slice h1 O.s.length j1, .slice h2 O.p.length j2, .slice h3 O.g.length j3, .slice h4 O.r.length j4] 56 (0, 0))) := by show _ = _; rw [← hw8]; exact heap_alloc_new _ _
     clear hw8
     have Bw8 : Hid (Below W0.heap.size W0 w8) := Bw7.out.trans (hb.mono Bw7.out.size)
     have Kw8 : Hid (Below w.heap.size w w8) := K0.out.trans (Bw8.out.mono K0.out.size)
     have HR8 := Lib.hid ((hb.block _ (lt_of_block HR7.out)).trans HR7.out)
     have HA8 := Lib.hid (HA7.out.below hb)
     have HO8 := Lib.hid (HO7.out.below hb)
     clear hb HR7 HA7 HO7
     have bx0 := (Bw8.out.block _ (lt_of_block HP0.out)).trans HP0.out
     obtain ⟨pp0, pp1, pp2, pp3, pp4, pp5⟩ := cells6 (bx0)
     have lp := block_lt_of_cell pp0
     clear bx0
     have bx1 := (Bw8.out.block _ (lt_of_block HS0.out)).trans HS0.out
     obtain ⟨ss0, ss1, ss2⟩ := cells3 (bx1)
     have ls := block_lt_of_cell ss0
     clear bx1
     have bx2 := (Bw8.out.block _ (lt_of_block HXX.out)).trans HXX.out
     obtain ⟨xx0, xx1, xx2, xx3⟩ := cells4 (bx2)
     have lx := block_lt_of_cell xx0
     clear bx2
     go_wp2_with fail
     refine (HRO2.out w8 Kw8.out).mono ?_
     rintro e w9 ⟨y1, y2, y3, y4, rfl, hal, hb⟩
     obtain ⟨n1, l1, rfl, -⟩ := hal.s.at_
     obtain ⟨n2, l2, rfl, -⟩ := hal.p.at_
     obtain ⟨n3, l3, rfl, -⟩ := hal.g.at_
     obtain ⟨n4, l4, rfl, -⟩ := hal.r.at_
     have Bw9 : Hid (Below W0.heap.size W0 w9) := Bw8.out.trans (hb.mono Bw8.out.size)
     have Kw9 : Hid (Below w.heap.size w w9) := K0.out.trans (Bw9.out.mono K0.out.size)
     have HR9 := Lib.hid ((hb.block _ (lt_of_block HR8.out)).trans HR8.out)
     have HA9 := Lib.hid (HA8.out.below hb)
     have HO9 := Lib.hid (HO8.out.below hb)
     have HC9 := Lib.hid ((hb.block _ (lt_of_block HC8.out)).trans HC8.out)
     have HN9 := Lib.hid hal
     clear hb hal HR8 HA8 HO8 HC8
     clear pp0 pp1 pp2 pp3 pp4 pp5 lp
     clear ss0 ss1 ss2 ls
     clear xx0 xx1 xx2 xx3 lx
     go_upto_region 8 with fail
     generalize hwa : World.alloc _ _ = wa
     have hb : Below w9.heap.size w9 wa := by rw [← hwa]; exact (Below.refl _ _).alloc (Nat.le_refl _) _
     have hda : wa.heap[w9.heap.size]? = some (.cells #[.slice n1 O.s.length l1, .slice n2 O.p.length l2, .slice n3 O.g.length l3, .slice n4 O.r.length l4] 56 (0, 0)) := by rw [← hwa]; exact heap_alloc_new _ _
     clear hwa
     have Bwa : Hid (Below W0.heap.size W0 wa) := Bw9.out.trans (hb.mono Bw9.out.size)
     have Kwa : Hid (Below w.heap.size w wa) := K0.out.trans (Bwa.out.mono K0.out.size)
     have HRa := Lib.hid ((hb.block _ (lt_of_block HR9.out)).trans HR9.out)
     have HAa := Lib.hid (HA9.out.below hb)
     have HOa := Lib.hid (HO9.out.below hb)
     have hca := (hb.block _ (lt_of_block HC9.out)).trans HC9.out
     have HNa := Lib.hid (HN9.out.below hb)
     clear hb HR9 HA9 HO9 HC9 HN9
     obtain ⟨ca0, ca1, ca2, ca3⟩ := cells4 (hca)
     obtain ⟨da0, da1, da2, da3⟩ := cells4 (hda)
     have lca := block_lt_of_cell ca0
     have lda := block_lt_of_cell da0
     clear hca hda
     go_wp2_with fail
     refine (HSO2.out wa _ _ _ _ _ _ _ _ HOa.out HNa.out).mono ?_
     rintro e wb ⟨rfl, hb⟩
     have Bwb : Hid (Below W0.heap.size W0 wb) := Bwa.out.trans (hb.mono Bwa.out.size)
     have Kwb : Hid (Below w.heap.size w wb) := K0.out.trans (Bwb.out.mono K0.out.size)
     have hrb := (hb.block _ (lt_of_block HRa.out)).trans HRa.out
     have HAb := Lib.hid (HAa.out.below hb)
     clear hb HAa HOa HNa ca0 ca1 ca2 ca3 da0 da1 da2 da3 lca lda
     obtain ⟨oo0, oo1, oo2, oo3⟩ := cells4 (hrb)
     have lo := block_lt_of_cell oo0
     clear hrb HRa
     have bx2 := (Bwb.out.block _ (lt_of_block HXX.out)).trans HXX.out
     obtain ⟨xx0, xx1, xx2, xx3⟩ := cells4 (bx2)
     have lx := block_lt_of_cell xx0
     clear bx2
     go_wp2_with fail
     refine (HSX2.out wb _ _ _ _ Kwb.out HAb.out).mono ?_
     rintro e wd ⟨rfl, hb⟩
     have Bwd : Hid (Below W0.heap.size W0 wd) := Bwb.out.trans (hb.mono Bwb.out.size)
     have Kwd : Hid (Below w.heap.size w wd) := K0.out.trans (Bwd.out.mono K0.out.size)
     clear hb oo0 oo1 oo2 oo3 lo
     clear xx0 xx1 xx2 xx3 lx
     go_wp2_with fail
     go_ret
     exact ⟨rfl, Kwd.out⟩
   ·have hd : decide x.small = false := decide_eq_false hxs
    rw [hd]
    go_wp2_with fail
    go_ret
    exact ⟨rfl, K3.out⟩
end Go.Proofs.YtbiehpjhhopjaaaGreat
