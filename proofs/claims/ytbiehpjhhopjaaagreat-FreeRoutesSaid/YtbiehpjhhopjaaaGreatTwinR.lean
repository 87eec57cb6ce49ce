/-
  slices.Clone of flanks, walked.
  plan.twin, walked. (Written by wip/tools/gen_twin.py.)
-/
import Derived.Test.YtbiehpjhhopjaaaGreatClone
import Derived.Test.YtbiehpjhhopjaaaGreatMem
import Derived.Lib.SliceRun
import Derived.Test.YtbiehpjhhopjaaaGreatAtA
set_option linter.unusedVariables false
set_option linter.unusedSimpArgs false
namespace Go.Proofs.YtbiehpjhhopjaaaGreat
open Go.RowKit
theorem info207 : (Tryz.prog.info? 207).map (fun i => (i.zero, i.size, i.bytes)) = some (some (.agg #[.int .i64 0, .int .i64 0]), 2, 16) := by kernel_rfl
def flC (x : Fl) : List Value := [.int .i64 x.pt, .int .i64 x.lie]
theorem oneFl (x : Fl) (u : Value) (h : u ∈ flC x) : u.oneCell' = true := by
  unfold flC at h
  simp at h
  rcases h with rfl | rfl <;> rfl
theorem sl_reads1 {α : Type} {w : World} {sz : Nat} {R : World → List Value → α → Prop} {b off cap : Nat} {l : List α} {f : α → List Value} (h : SlA w sz R (some ⟨b, off, none⟩) cap l) (hf : ∀ x ∈ l, (f x).length = sz) (hR : ∀ vs x, R w vs x → vs = f x) (hz : 0 < sz) :
    ∀ j u, (l.flatMap f)[j]? = some u → w.cell? ⟨b, off + j, none⟩ = some u := by
  intro j u hj
  have hlen := flat_len f sz l hf
  have hjl : j < l.length * sz := by rw [← hlen]; exact (List.getElem?_eq_some_iff.1 hj).1
  have hi : j / sz < l.length := Nat.div_lt_of_lt_mul (by rw [Nat.mul_comm]; exact hjl)
  have hr : j % sz < sz := Nat.mod_lt _ hz
  have hje : j / sz * sz + j % sz = j := Nat.div_add_mod' j sz
  rw [← hje, flat_get f sz l (j / sz) (j % sz) hi hf hr] at hj
  obtain ⟨b', off', vs, e, hl, hc, hr2⟩ := h.at_ (j / sz) hi
  cases e
  obtain rfl := hR vs _ hr2
  have h1 := hc (j % sz) (by rw [hl]; exact hr)
  rw [List.getElem?_eq_getElem (by rw [hl]; exact hr)] at hj
  rw [show off + j = off + j / sz * sz + j % sz by rw [Nat.add_assoc, hje], h1]
  exact hj
set_option maxRecDepth 100000 in
theorem clone211_any (a : Option Addr) (cap : Nat) (l : List Fl) (w : World) (hl : SlA w 2 RFl a cap l) (hm : l.length ≤ 1000) :
    Calls Tryz.prog 211 #[.slice a l.length cap] w fun e w' => ∃ v, e = .returned v ∧ w'.ownsRow w.heap.size 207 2 v l.length (l.flatMap flC) ∧ Below w.heap.size w w' := by
  have q : ∀ (w : World) (a : Option Addr) (n c n' c' : Nat), (binOp .eql 100 (.slice a n c) (.slice none n' c')).run Tryz.prog w = .ok (.bool a.isNone) w := fun w a n c n' c' => Go.Lib.run_eql_slice_nil w _ _ a n c n' c' Tryz.underlying100
  obtain ⟨i0, hi, hz0, hz1, hz2⟩ := info_parts info207
  cases a with
  | none =>
    have h0 : l = [] := by
      cases l with
      | nil => rfl
      | cons c l => obtain ⟨b, off, vs, e, _⟩ := hl.at_ 0 (by simp); cases e
    subst h0
    go_enter Tryz.func211, Tryz.ntmps211
    go_wp2_with fail
    go_ret
    exact ⟨_, rfl, World.ownsRow_nil _ _ _ _, Below.refl _ _⟩
  | some ad =>
    by_cases h0 : l = []
    · subst h0
      go_enter Tryz.func211, Tryz.ntmps211
      go_wp2_with fail
      go_ret
      exact ⟨_, rfl, World.ownsRow_made w #[] 0 (Nat.le_refl _) (Nat.zero_le _) (by simp), (Below.refl _ _).alloc (Nat.le_refl _) _⟩
    · obtain ⟨b, off, vs0, e, -⟩ := hl.at_ 0 (List.length_pos_iff.2 h0)
      cases e
      have HR := Lib.hid (sl_reads1 (f := flC) hl (fun _ _ => rfl) (fun _ _ h => h) (by decide))
      have HN : Hid ((l.flatMap flC).length = l.length * 2) := flat_len _ 2 l (fun _ _ => rfl)
      have H1 : Hid (∀ u ∈ l.flatMap flC, u.oneCell' = true) := by
        intro u hu
        obtain ⟨x, -, hx⟩ := List.mem_flatMap.1 hu
        exact oneFl x u hx
      have HL : Hid (∀ (v : Value) (W : World), W.ownsRow w.heap.size 207 2 v (0 + l.length) ([] ++ l.flatMap flC) → W.ownsRow w.heap.size 207 2 v l.length (l.flatMap flC)) := fun v W h => by rw [Nat.zero_add] at h; exact h
      generalize hq : l.flatMap flC = news at *
      have HC : Hid (∀ j u, news[j]? = some u → (w.alloc (.cells #[] 207)).cell? ((⟨b, off, none⟩ : Addr).add j) = some u) := fun j u hj => by
        rw [Addr.add_lit]
        exact (((Below.refl w.heap.size w).alloc (Nat.le_refl _) _).cell (p := ⟨b, off + j, none⟩) (block_lt_of_cell (HR.out j u hj))).trans (HR.out j u hj)
      have hlen : Hid (0 < l.length) := List.length_pos_iff.2 h0
      clear hl h0 hq
      go_enter Tryz.func211, Tryz.ntmps211
      go_wp2_with (at_builtin; refine wpList_append_own_at _ rfl _ _ 100 rfl w.heap.size 207 i0 (.agg #[.int .i64 0, .int .i64 0]) 2 16 Tryz.underlying100 hi hz0 hz1 hz2 rfl (by decide) _ _ _ rfl (World.ownsRow_made w #[] 0 (Nat.le_refl _) (Nat.zero_le _) (by simp)) ⟨b, off, none⟩ l.length cap news rfl HN.out HC.out H1.out (by unfold maxLen; omega) (by omega) (by simp) ?_; intro v' w' hown hgr hnil hat)
      have hgr : (w.alloc (.cells #[] 207)).grownBy w' (some w.heap.size) := hgr
      go_ret
      exact ⟨_, rfl, HL.out _ _ hown, (((Below.refl _ w).alloc (Nat.le_refl _) _).grown hgr (by simp) (by intro k hk; cases hk; exact Nat.le_refl _))⟩
end Go.Proofs.YtbiehpjhhopjaaaGreat
set_option linter.unusedVariables false
set_option linter.unusedSimpArgs false
namespace Go.Proofs.YtbiehpjhhopjaaaGreat
open Go.RowKit
/-- where twin's region stands -/
structure RW (B : Nat) (w0 : World) (r : Rt) (g g2 : Nat) (P O Q : Value) (f0 f1 f2 f3 f4 f5 f6 f7 f8 f9 f10 f11 f12 f13 f14 : Bool) (s3 s4 s5 s6 s7 s8 s9 s10 s11 s12 s13 s14 : Value) (W : World) : Prop where
  bel : Below B w0 W
  hl : g2 + 1 ≤ W.heap.size
  blk : W.heap[g]? = some (.cells #[.int .i64 r.id, .int .i64 r.entry, .int .i64 r.exit, bif f10 then s5 else P, bif f12 then s8 else O, bif f14 then s11 else Q, .int .i64 r.timer] 102 (0, 0))
  hz : W.heap[g2]? = some (.cells #[.int .i64 0, .int .i64 0, .int .i64 0, .slice none 0 0, .slice none 0 0, .slice none 0 0, .int .i64 0] 102 (0, 0))
  h0 : f0 = true → s3 = .pointer (some ⟨g, 3, none⟩)
  h1 : f1 = true → s4 = P
  h2 : f2 = true → IntOwn W (g2 + 1) s5 r.path
  h3 : f3 = true → s6 = .pointer (some ⟨g, 4, none⟩)
  h4 : f4 = true → s7 = O
  h5 : f5 = true → IntOwn W (g2 + 1) s8 r.over
  h6 : f6 = true → s9 = .pointer (some ⟨g, 5, none⟩)
  h7 : f7 = true → s10 = Q
  h8 : f8 = true → W.ownsRow (g2 + 1) 207 2 s11 r.fl.length (r.fl.flatMap flC)
  h9 : f9 = true → s12 = .pointer (some ⟨g, 3, none⟩)
  h11 : f11 = true → s13 = .pointer (some ⟨g, 4, none⟩)
  h13 : f13 = true → s14 = .pointer (some ⟨g, 5, none⟩)
  d0 : f10 = true → f1 = true ∧ f2 = true
  d1 : f12 = true → f4 = true ∧ f5 = true
  d2 : f14 = true → f7 = true ∧ f8 = true
theorem RW.below {B : Nat} {w0 : World} {r : Rt} {g g2 : Nat} {P O Q : Value} {f0 f1 f2 f3 f4 f5 f6 f7 f8 f9 f10 f11 f12 f13 f14 : Bool} {s3 s4 s5 s6 s7 s8 s9 s10 s11 s12 s13 s14 : Value} {W W' : World} (h : RW B w0 r g g2 P O Q f0 f1 f2 f3 f4 f5 f6 f7 f8 f9 f10 f11 f12 f13 f14 s3 s4 s5 s6 s7 s8 s9 s10 s11 s12 s13 s14 W) (hb : Below W.heap.size W W') (hB : B ≤ W.heap.size) : RW B w0 r g g2 P O Q f0 f1 f2 f3 f4 f5 f6 f7 f8 f9 f10 f11 f12 f13 f14 s3 s4 s5 s6 s7 s8 s9 s10 s11 s12 s13 s14 W' :=
  { h with
    bel := h.bel.trans (hb.mono hB)
    hl := Nat.le_trans h.hl hb.size
    blk := (hb.block _ (lt_of_block h.blk)).trans h.blk
    hz := (hb.block _ (lt_of_block h.hz)).trans h.hz
    h2 := fun k => own_below (h.h2 k) hb
    h5 := fun k => own_below (h.h5 k) hb
    h8 := fun k => own_below (h.h8 k) hb }
/-- a route whose three lists are one's own -/
def RtOwn (W : World) (B : Nat) (v1 v2 v3 : Value) (r : Rt) : Prop := IntOwn W B v1 r.path ∧ IntOwn W B v2 r.over ∧ W.ownsRow B 207 2 v3 r.fl.length (r.fl.flatMap flC)
theorem RtOwn.m {W : World} {B : Nat} {v1 v2 v3 : Value} {r : Rt} (h : RtOwn W B v1 v2 v3 r) : RtM W v1 v2 v3 r := ⟨h.1.ilv, h.2.1.ilv, sl_of_own (f := flC) h.2.2 (fun _ _ => rfl) (fun _ _ => rfl)⟩
theorem RtOwn.setCell {W : World} {B : Nat} {v1 v2 v3 : Value} {r : Rt} (h : RtOwn W B v1 v2 v3 r) {a : Addr} (ha : a.block < B) (x : Value) : RtOwn (W.setCell a x) B v1 v2 v3 r := ⟨own_setCell h.1 ha x, own_setCell h.2.1 ha x, own_setCell h.2.2 ha x⟩
theorem RtOwn.base {W : World} {B B' : Nat} {v1 v2 v3 : Value} {r : Rt} (h : RtOwn W B v1 v2 v3 r) (hb : B' ≤ B) : RtOwn W B' v1 v2 v3 r := ⟨own_base h.1 hb, own_base h.2.1 hb, own_base h.2.2 hb⟩
theorem own_slice1 {w : World} {base : Nat} {e : TypeId} {sz : Nat} {v : Value} {n : Nat} {xs : List Value} (h : w.ownsRow base e sz v n xs) : ∃ a c, v = .slice a n c := by
  rcases h.2 with ⟨rfl, h0⟩ | ⟨g, cap, cur, rfl, _⟩
  · exact ⟨none, 0, by rw [h0]⟩
  · exact ⟨_, _, rfl⟩
theorem bif_no {α : Type} {b : Bool} {x y : α} (h : b = false) : (bif b then x else y) = y := by rw [h]; rfl
theorem no_of {a b c : Bool} (h : a = true → b = true ∧ c = true) (hb : b = false ∨ c = false) : a = false := by
  cases a with
  | false => rfl
  | true => rcases hb with e | e <;> simp [e] at h
set_option maxRecDepth 100000 in
set_option maxHeartbeats 8000000 in
theorem twinRt_any (r : Rt) (p1 o1 f1 : Option Addr) (p2 p3 o2 o3 f2 f3 : Nat) (w : World) (hr : RtM w (.slice p1 p2 p3) (.slice o1 o2 o3) (.slice f1 f2 f3) r) (hf : r.fit) :
    Calls Tryz.prog 128 #[.agg #[.int .i64 r.id, .int .i64 r.entry, .int .i64 r.exit, .slice p1 p2 p3, .slice o1 o2 o3, .slice f1 f2 f3, .int .i64 r.timer]] w fun e w' => ∃ a1 c1 a2 c2 a3 c3, e = .returned (.agg #[.int .i64 r.id, .int .i64 r.entry, .int .i64 r.exit, .slice a1 r.path.length c1, .slice a2 r.over.length c2, .slice a3 r.fl.length c3, .int .i64 r.timer]) ∧ RtOwn w' w.heap.size (.slice a1 r.path.length c1) (.slice a2 r.over.length c2) (.slice a3 r.fl.length c3) r ∧ Below w.heap.size w w' := by
  have HR : Hid (∀ W, Below w.heap.size w W → RtM W (.slice p1 p2 p3) (.slice o1 o2 o3) (.slice f1 f2 f3) r) := fun W hb => hr.below hb
  have HF := Lib.hid hf
  have HC0 : Hid (∀ W, Below w.heap.size w W → Calls Tryz.prog 210 #[.slice p1 p2 p3] W fun e w' => ∃ v, e = .returned v ∧ IntOwn w' W.heap.size v r.path ∧ Below W.heap.size W w') := fun W hb => by
    obtain ⟨a, n, c, e, h⟩ := (HR.out W hb).path
    cases e
    obtain rfl := h.len
    exact clone_any _ _ _ W h HF.out.1
  have HC1 : Hid (∀ W, Below w.heap.size w W → Calls Tryz.prog 210 #[.slice o1 o2 o3] W fun e w' => ∃ v, e = .returned v ∧ IntOwn w' W.heap.size v r.over ∧ Below W.heap.size W w') := fun W hb => by
    obtain ⟨a, n, c, e, h⟩ := (HR.out W hb).over
    cases e
    obtain rfl := h.len
    exact clone_any _ _ _ W h HF.out.2.1
  have HC2 : Hid (∀ W, Below w.heap.size w W → Calls Tryz.prog 211 #[.slice f1 f2 f3] W fun e w' => ∃ v, e = .returned v ∧ w'.ownsRow W.heap.size 207 2 v r.fl.length (r.fl.flatMap flC) ∧ Below W.heap.size W w') := fun W hb => by
    obtain ⟨a, c, e, h⟩ := (HR.out W hb).fl
    cases e
    exact clone211_any _ _ _ W h HF.out.2.2
  clear hr hf HR HF
  go_enter Tryz.func128, Tryz.ntmps128
  go_upto_region 1 with fail
  generalize hW0 : World.alloc _ _ = W0
  have K0 : Hid (Below w.heap.size w W0) := by show Below _ _ _; rw [← hW0]; exact ((Below.refl _ _).alloc (Nat.le_refl _) _).alloc (by simp) _
  have HX0 : Hid (W0.heap[w.heap.size]? = some (.cells #[.int .i64 r.id, .int .i64 r.entry, .int .i64 r.exit, .slice p1 p2 p3, .slice o1 o2 o3, .slice f1 f2 f3, .int .i64 r.timer] 102 (0, 0))) := by show _ = _; rw [← hW0]; exact (heap_alloc_old _ _ (by simp)).trans (heap_alloc_new _ _)
  have HZ0 : Hid (W0.heap[w.heap.size + 1]? = some (.cells #[.int .i64 0, .int .i64 0, .int .i64 0, .slice none 0 0, .slice none 0 0, .slice none 0 0, .int .i64 0] 102 (0, 0))) := by show _ = _; rw [← hW0]; exact heap_alloc2_new _ _ _
  clear hW0
  refine wp_region_inv' (by kernel_rfl) (by kernel_rfl) (fun f a W9 => ∃ s3 s4 s5 s6 s7 s8 s9 s10 s11 s12 s13 s14 s15 : Value, a = { tmps := #[.agg #[.int .i64 r.id, .int .i64 r.entry, .int .i64 r.exit, .slice p1 p2 p3, .slice o1 o2 o3, .slice f1 f2 f3, .int .i64 r.timer], .pointer (some ⟨w.heap.size, 0, none⟩), .pointer (some ⟨w.heap.size + 1, 0, none⟩), s3, s4, s5, s6, s7, s8, s9, s10, s11, s12, s13, s14, s15], defers := [] } ∧ RW w.heap.size w r w.heap.size (w.heap.size + 1) (.slice p1 p2 p3) (.slice o1 o2 o3) (.slice f1 f2 f3) (f 0) (f 1) (f 2) (f 3) (f 4) (f 5) (f 6) (f 7) (f 8) (f 9) (f 10) (f 11) (f 12) (f 13) (f 14) s3 s4 s5 s6 s7 s8 s9 s10 s11 s12 s13 s14 W9) ?_ ?_ ?_
  · exact ⟨_, _, _, _, _, _, _, _, _, _, _, _, _, rfl, { bel := ⟨K0.out.os, K0.out.tape, K0.out.output, K0.out.size, K0.out.block⟩, hl := lt_of_block HZ0.out, blk := HX0.out, hz := HZ0.out, h0 := by simp, h1 := by simp, h2 := by simp, h3 := by simp, h4 := by simp, h5 := by simp, h6 := by simp, h7 := by simp, h8 := by simp, h9 := by simp, h11 := by simp, h13 := by simp, d0 := by simp, d1 := by simp, d2 := by simp }⟩
  · intro i o ho f a W9 hI hd hun
    obtain ⟨s3, s4, s5, s6, s7, s8, s9, s10, s11, s12, s13, s14, s15, rfl, hS⟩ := hI
    have hB := hS.bel.size
    rcases i with _ | _ | _ | _ | _ | _ | _ | _ | _ | _ | _ | _ | _ | _ | _ | i
    · simp at ho
      subst ho
      simp [wpOp, go_sem]
      exact .inl ⟨_, _, _, _, _, _, _, _, _, _, _, _, ⟨rfl, rfl, rfl, rfl, rfl, rfl, rfl, rfl, rfl, rfl, rfl, rfl⟩, { hS with h0 := fun _ => rfl }⟩
    · simp at ho
      subst ho
      obtain rfl := hS.h0 (hd ⟨0, .data⟩ (by simp) (by rfl))
      have hno := no_of hS.d0 (.inl hun)
      have cc : W9.cell? ⟨w.heap.size, 3, none⟩ = some (.slice p1 p2 p3) := (cell_of_row W9 _ 3 _ _ _ hS.blk).trans (by simp [hno])
      simp [wpOp, go_sem, cc]
      exact .inl ⟨_, _, _, _, _, _, _, _, _, _, _, _, ⟨rfl, rfl, rfl, rfl, rfl, rfl, rfl, rfl, rfl, rfl, rfl, rfl⟩, { hS with h1 := fun _ => rfl, d0 := fun h => absurd h (by rw [hno]; decide) }⟩
    · simp at ho
      subst ho
      obtain rfl := hS.h1 (hd ⟨1, .data⟩ (by simp) (by rfl))
      have hno := no_of hS.d0 (.inr hun)
      have hc := HC0.out W9 hS.bel
      have hgr := hS.hl
      simp [wpOp, go_sem]
      refine .inl (hc.mono ?_)
      rintro e w' ⟨v, rfl, hown, hb⟩
      have hS' := RW.below hS hb hB
      have hbk := hS'.blk
      simp [go_sem]
      exact ⟨_, _, _, _, _, _, _, _, _, _, _, _, ⟨rfl, rfl, rfl, rfl, rfl, rfl, rfl, rfl, rfl, rfl, rfl, rfl⟩, { hS' with blk := (by simpa [hno] using hbk), h2 := fun _ => own_base hown hgr, d0 := fun h => absurd h (by rw [hno]; decide) }⟩
    · simp at ho
      subst ho
      simp [wpOp, go_sem]
      exact .inl ⟨_, _, _, _, _, _, _, _, _, _, _, _, ⟨rfl, rfl, rfl, rfl, rfl, rfl, rfl, rfl, rfl, rfl, rfl, rfl⟩, { hS with h3 := fun _ => rfl }⟩
    · simp at ho
      subst ho
      obtain rfl := hS.h3 (hd ⟨3, .data⟩ (by simp) (by rfl))
      have hno := no_of hS.d1 (.inl hun)
      have cc : W9.cell? ⟨w.heap.size, 4, none⟩ = some (.slice o1 o2 o3) := (cell_of_row W9 _ 4 _ _ _ hS.blk).trans (by simp [hno])
      simp [wpOp, go_sem, cc]
      exact .inl ⟨_, _, _, _, _, _, _, _, _, _, _, _, ⟨rfl, rfl, rfl, rfl, rfl, rfl, rfl, rfl, rfl, rfl, rfl, rfl⟩, { hS with h4 := fun _ => rfl, d1 := fun h => absurd h (by rw [hno]; decide) }⟩
    · simp at ho
      subst ho
      obtain rfl := hS.h4 (hd ⟨4, .data⟩ (by simp) (by rfl))
      have hno := no_of hS.d1 (.inr hun)
      have hc := HC1.out W9 hS.bel
      have hgr := hS.hl
      simp [wpOp, go_sem]
      refine .inl (hc.mono ?_)
      rintro e w' ⟨v, rfl, hown, hb⟩
      have hS' := RW.below hS hb hB
      have hbk := hS'.blk
      simp [go_sem]
      exact ⟨_, _, _, _, _, _, _, _, _, _, _, _, ⟨rfl, rfl, rfl, rfl, rfl, rfl, rfl, rfl, rfl, rfl, rfl, rfl⟩, { hS' with blk := (by simpa [hno] using hbk), h5 := fun _ => own_base hown hgr, d1 := fun h => absurd h (by rw [hno]; decide) }⟩
    · simp at ho
      subst ho
      simp [wpOp, go_sem]
      exact .inl ⟨_, _, _, _, _, _, _, _, _, _, _, _, ⟨rfl, rfl, rfl, rfl, rfl, rfl, rfl, rfl, rfl, rfl, rfl, rfl⟩, { hS with h6 := fun _ => rfl }⟩
    · simp at ho
      subst ho
      obtain rfl := hS.h6 (hd ⟨6, .data⟩ (by simp) (by rfl))
      have hno := no_of hS.d2 (.inl hun)
      have cc : W9.cell? ⟨w.heap.size, 5, none⟩ = some (.slice f1 f2 f3) := (cell_of_row W9 _ 5 _ _ _ hS.blk).trans (by simp [hno])
      simp [wpOp, go_sem, cc]
      exact .inl ⟨_, _, _, _, _, _, _, _, _, _, _, _, ⟨rfl, rfl, rfl, rfl, rfl, rfl, rfl, rfl, rfl, rfl, rfl, rfl⟩, { hS with h7 := fun _ => rfl, d2 := fun h => absurd h (by rw [hno]; decide) }⟩
    · simp at ho
      subst ho
      obtain rfl := hS.h7 (hd ⟨7, .data⟩ (by simp) (by rfl))
      have hno := no_of hS.d2 (.inr hun)
      have hc := HC2.out W9 hS.bel
      have hgr := hS.hl
      simp [wpOp, go_sem]
      refine .inl (hc.mono ?_)
      rintro e w' ⟨v, rfl, hown, hb⟩
      have hS' := RW.below hS hb hB
      have hbk := hS'.blk
      simp [go_sem]
      exact ⟨_, _, _, _, _, _, _, _, _, _, _, _, ⟨rfl, rfl, rfl, rfl, rfl, rfl, rfl, rfl, rfl, rfl, rfl, rfl⟩, { hS' with blk := (by simpa [hno] using hbk), h8 := fun _ => own_base hown hgr, d2 := fun h => absurd h (by rw [hno]; decide) }⟩
    · simp at ho
      subst ho
      simp [wpOp, go_sem]
      exact .inl ⟨_, _, _, _, _, _, _, _, _, _, _, _, ⟨rfl, rfl, rfl, rfl, rfl, rfl, rfl, rfl, rfl, rfl, rfl, rfl⟩, { hS with h9 := fun _ => rfl }⟩
    · simp at ho
      subst ho
      obtain rfl := hS.h9 (hd ⟨9, .data⟩ (by simp) (by rfl))
      have hv := hS.h2 (hd ⟨2, .data⟩ (by simp) (by rfl))
      have hv1 := hd ⟨1, .phase⟩ (by simp) (by rfl)
      have hv2 := hd ⟨2, .data⟩ (by simp) (by rfl)
      obtain ⟨a', c', rfl⟩ := own_slice1 hv
      have hbk := hS.blk
      have ff : ∀ o, W9.frozen? ⟨w.heap.size, o, none⟩ = false := fun o => by simp [World.frozen?, hbk]
      have cc : W9.cell? ⟨w.heap.size, 3, none⟩ = some (.slice p1 p2 p3) := (cell_of_row W9 _ 3 _ _ _ hbk).trans (by simp [hun])
      have lr := lt_of_block hbk
      have hlt : w.heap.size < w.heap.size + 1 + 1 := by omega
      simp [wpOp, go_sem, ff, cc, lr]
      exact .inl ⟨_, _, _, _, _, _, _, _, _, _, _, _, ⟨rfl, rfl, rfl, rfl, rfl, rfl, rfl, rfl, rfl, rfl, rfl, rfl⟩, { hS with bel := (hS.bel.setCell (by simp) _), hl := (by simp [World.setCell]; exact hS.hl), blk := (by simp [World.setCell, Array.getElem?_modify, hbk]), hz := (by simp [World.setCell, Array.getElem?_modify, hS.hz]), h2 := (fun k => own_setCell (hS.h2 k) hlt _), h5 := (fun k => own_setCell (hS.h5 k) hlt _), h8 := (fun k => own_setCell (hS.h8 k) hlt _), d0 := fun _ => ⟨hv1, hv2⟩ }⟩
    · simp at ho
      subst ho
      simp [wpOp, go_sem]
      exact .inl ⟨_, _, _, _, _, _, _, _, _, _, _, _, ⟨rfl, rfl, rfl, rfl, rfl, rfl, rfl, rfl, rfl, rfl, rfl, rfl⟩, { hS with h11 := fun _ => rfl }⟩
    · simp at ho
      subst ho
      obtain rfl := hS.h11 (hd ⟨11, .data⟩ (by simp) (by rfl))
      have hv := hS.h5 (hd ⟨5, .data⟩ (by simp) (by rfl))
      have hv1 := hd ⟨4, .phase⟩ (by simp) (by rfl)
      have hv2 := hd ⟨5, .data⟩ (by simp) (by rfl)
      obtain ⟨a', c', rfl⟩ := own_slice1 hv
      have hbk := hS.blk
      have ff : ∀ o, W9.frozen? ⟨w.heap.size, o, none⟩ = false := fun o => by simp [World.frozen?, hbk]
      have cc : W9.cell? ⟨w.heap.size, 4, none⟩ = some (.slice o1 o2 o3) := (cell_of_row W9 _ 4 _ _ _ hbk).trans (by simp [hun])
      have lr := lt_of_block hbk
      have hlt : w.heap.size < w.heap.size + 1 + 1 := by omega
      simp [wpOp, go_sem, ff, cc, lr]
      exact .inl ⟨_, _, _, _, _, _, _, _, _, _, _, _, ⟨rfl, rfl, rfl, rfl, rfl, rfl, rfl, rfl, rfl, rfl, rfl, rfl⟩, { hS with bel := (hS.bel.setCell (by simp) _), hl := (by simp [World.setCell]; exact hS.hl), blk := (by simp [World.setCell, Array.getElem?_modify, hbk]), hz := (by simp [World.setCell, Array.getElem?_modify, hS.hz]), h2 := (fun k => own_setCell (hS.h2 k) hlt _), h5 := (fun k => own_setCell (hS.h5 k) hlt _), h8 := (fun k => own_setCell (hS.h8 k) hlt _), d1 := fun _ => ⟨hv1, hv2⟩ }⟩
    · simp at ho
      subst ho
      simp [wpOp, go_sem]
      exact .inl ⟨_, _, _, _, _, _, _, _, _, _, _, _, ⟨rfl, rfl, rfl, rfl, rfl, rfl, rfl, rfl, rfl, rfl, rfl, rfl⟩, { hS with h13 := fun _ => rfl }⟩
    · simp at ho
      subst ho
      obtain rfl := hS.h13 (hd ⟨13, .data⟩ (by simp) (by rfl))
      have hv := hS.h8 (hd ⟨8, .data⟩ (by simp) (by rfl))
      have hv1 := hd ⟨7, .phase⟩ (by simp) (by rfl)
      have hv2 := hd ⟨8, .data⟩ (by simp) (by rfl)
      obtain ⟨a', c', rfl⟩ := own_slice1 hv
      have hbk := hS.blk
      have ff : ∀ o, W9.frozen? ⟨w.heap.size, o, none⟩ = false := fun o => by simp [World.frozen?, hbk]
      have cc : W9.cell? ⟨w.heap.size, 5, none⟩ = some (.slice f1 f2 f3) := (cell_of_row W9 _ 5 _ _ _ hbk).trans (by simp [hun])
      have lr := lt_of_block hbk
      have hlt : w.heap.size < w.heap.size + 1 + 1 := by omega
      simp [wpOp, go_sem, ff, cc, lr]
      exact .inl ⟨_, _, _, _, _, _, _, _, _, _, _, _, ⟨rfl, rfl, rfl, rfl, rfl, rfl, rfl, rfl, rfl, rfl, rfl, rfl⟩, { hS with bel := (hS.bel.setCell (by simp) _), hl := (by simp [World.setCell]; exact hS.hl), blk := (by simp [World.setCell, Array.getElem?_modify, hbk]), hz := (by simp [World.setCell, Array.getElem?_modify, hS.hz]), h2 := (fun k => own_setCell (hS.h2 k) hlt _), h5 := (fun k => own_setCell (hS.h5 k) hlt _), h8 := (fun k => own_setCell (hS.h8 k) hlt _), d2 := fun _ => ⟨hv1, hv2⟩ }⟩
    · simp at ho
  · intro f a W9 hI hall
    obtain ⟨s3, s4, s5, s6, s7, s8, s9, s10, s11, s12, s13, s14, s15, rfl, hS⟩ := hI
    have hbk := hS.blk
    have e10 : f 10 = true := hall 10 (by decide)
    have e12 : f 12 = true := hall 12 (by decide)
    have e14 : f 14 = true := hall 14 (by decide)
    have o1' := hS.h2 (hall 2 (by decide))
    have o2' := hS.h5 (hall 5 (by decide))
    have o3' := hS.h8 (hall 8 (by decide))
    obtain ⟨a1, c1, rfl⟩ := own_slice1 o1'
    obtain ⟨a2, c2, rfl⟩ := own_slice1 o2'
    obtain ⟨a3, c3, rfl⟩ := own_slice1 o3'
    simp only [e10, e12, e14, cond_true] at hbk
    have hz := hS.hz
    have HB := Lib.hid hS.bel
    have O1 := Lib.hid o1'
    have O2 := Lib.hid o2'
    have O3 := Lib.hid o3'
    have y0 : W9.cell? ⟨w.heap.size, 0, none⟩ = some (.int .i64 r.id) := (cell_of_row W9 _ 0 _ _ _ hbk).trans rfl
    have y1 : W9.cell? ⟨w.heap.size, 1, none⟩ = some (.int .i64 r.entry) := (cell_of_row W9 _ 1 _ _ _ hbk).trans rfl
    have y2 : W9.cell? ⟨w.heap.size, 2, none⟩ = some (.int .i64 r.exit) := (cell_of_row W9 _ 2 _ _ _ hbk).trans rfl
    have y3 : W9.cell? ⟨w.heap.size, 3, none⟩ = some (.slice a1 r.path.length c1) := (cell_of_row W9 _ 3 _ _ _ hbk).trans rfl
    have y4 : W9.cell? ⟨w.heap.size, 4, none⟩ = some (.slice a2 r.over.length c2) := (cell_of_row W9 _ 4 _ _ _ hbk).trans rfl
    have y5 : W9.cell? ⟨w.heap.size, 5, none⟩ = some (.slice a3 r.fl.length c3) := (cell_of_row W9 _ 5 _ _ _ hbk).trans rfl
    have y6 : W9.cell? ⟨w.heap.size, 6, none⟩ = some (.int .i64 r.timer) := (cell_of_row W9 _ 6 _ _ _ hbk).trans rfl
    have z0 : W9.cell? ⟨w.heap.size + 1, 0, none⟩ = some (.int .i64 0) := (cell_of_row W9 _ 0 _ _ _ hz).trans rfl
    have z1 : W9.cell? ⟨w.heap.size + 1, 1, none⟩ = some (.int .i64 0) := (cell_of_row W9 _ 1 _ _ _ hz).trans rfl
    have z2 : W9.cell? ⟨w.heap.size + 1, 2, none⟩ = some (.int .i64 0) := (cell_of_row W9 _ 2 _ _ _ hz).trans rfl
    have z3 : W9.cell? ⟨w.heap.size + 1, 3, none⟩ = some (.slice none 0 0) := (cell_of_row W9 _ 3 _ _ _ hz).trans rfl
    have z4 : W9.cell? ⟨w.heap.size + 1, 4, none⟩ = some (.slice none 0 0) := (cell_of_row W9 _ 4 _ _ _ hz).trans rfl
    have z5 : W9.cell? ⟨w.heap.size + 1, 5, none⟩ = some (.slice none 0 0) := (cell_of_row W9 _ 5 _ _ _ hz).trans rfl
    have z6 : W9.cell? ⟨w.heap.size + 1, 6, none⟩ = some (.int .i64 0) := (cell_of_row W9 _ 6 _ _ _ hz).trans rfl
    have ff : ∀ o, W9.frozen? ⟨w.heap.size + 1, o, none⟩ = false := fun o => by simp [World.frozen?, hz]
    have lr := lt_of_block hz
    have lg := lt_of_block hbk
    clear hS hall hbk hz o1' o2' o3' e10 e12 e14
    go_wp2_with fail
    generalize hWE : World.setCell _ _ _ = WE
    have q0 : WE.cell? ⟨w.heap.size + 1, 0, none⟩ = some (.int .i64 r.id) := by rw [← hWE]; simp [go_sem, lr, z0, z1, z2, z3, z4, z5, z6]
    have q1 : WE.cell? ⟨w.heap.size + 1, 1, none⟩ = some (.int .i64 r.entry) := by rw [← hWE]; simp [go_sem, lr, z0, z1, z2, z3, z4, z5, z6]
    have q2 : WE.cell? ⟨w.heap.size + 1, 2, none⟩ = some (.int .i64 r.exit) := by rw [← hWE]; simp [go_sem, lr, z0, z1, z2, z3, z4, z5, z6]
    have q3 : WE.cell? ⟨w.heap.size + 1, 3, none⟩ = some (.slice a1 r.path.length c1) := by rw [← hWE]; simp [go_sem, lr, z0, z1, z2, z3, z4, z5, z6]
    have q4 : WE.cell? ⟨w.heap.size + 1, 4, none⟩ = some (.slice a2 r.over.length c2) := by rw [← hWE]; simp [go_sem, lr, z0, z1, z2, z3, z4, z5, z6]
    have q5 : WE.cell? ⟨w.heap.size + 1, 5, none⟩ = some (.slice a3 r.fl.length c3) := by rw [← hWE]; simp [go_sem, lr, z0, z1, z2, z3, z4, z5, z6]
    have q6 : WE.cell? ⟨w.heap.size + 1, 6, none⟩ = some (.int .i64 r.timer) := by rw [← hWE]; simp [go_sem, lr, z0, z1, z2, z3, z4, z5, z6]
    have hlt : w.heap.size + 1 < w.heap.size + 1 + 1 := by omega
    have KB : Hid (Below w.heap.size w WE) := by show Below _ _ _; rw [← hWE]; exact Below.setCell (Below.setCell (Below.setCell (Below.setCell (Below.setCell (Below.setCell (Below.setCell (HB.out) (by simp) _) (by simp) _) (by simp) _) (by simp) _) (by simp) _) (by simp) _) (by simp) _
    have M1 : Hid (IntOwn WE (w.heap.size + 1 + 1) (.slice a1 r.path.length c1) r.path) := by show IntOwn _ _ _ _; rw [← hWE]; exact own_setCell (own_setCell (own_setCell (own_setCell (own_setCell (own_setCell (own_setCell (O1.out) hlt _) hlt _) hlt _) hlt _) hlt _) hlt _) hlt _
    have M2 : Hid (IntOwn WE (w.heap.size + 1 + 1) (.slice a2 r.over.length c2) r.over) := by show IntOwn _ _ _ _; rw [← hWE]; exact own_setCell (own_setCell (own_setCell (own_setCell (own_setCell (own_setCell (own_setCell (O2.out) hlt _) hlt _) hlt _) hlt _) hlt _) hlt _) hlt _
    have M3 : Hid (WE.ownsRow (w.heap.size + 1 + 1) 207 2 (.slice a3 r.fl.length c3) r.fl.length (r.fl.flatMap flC)) := by show WE.ownsRow _ _ _ _ _ _; rw [← hWE]; exact own_setCell (own_setCell (own_setCell (own_setCell (own_setCell (own_setCell (own_setCell (O3.out) hlt _) hlt _) hlt _) hlt _) hlt _) hlt _) hlt _
    clear hWE
    refine bodyPost_ret (v := .agg #[.int .i64 r.id, .int .i64 r.entry, .int .i64 r.exit, .slice a1 r.path.length c1, .slice a2 r.over.length c2, .slice a3 r.fl.length c3, .int .i64 r.timer]) (by simp [results, Tryz.f128, go_sem, q0, q1, q2, q3, q4, q5, q6]) rfl ?_
    exact ⟨a1, c1, a2, c2, a3, c3, rfl, RtOwn.base ⟨M1.out, M2.out, M3.out⟩ (by omega), KB.out⟩
end Go.Proofs.YtbiehpjhhopjaaaGreat
