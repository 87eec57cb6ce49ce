/-
  slices.Clone of tracks, switches and locks, walked.
-/
import Derived.Test.YtbiehpjhhopjaaaGreatAtA
import Derived.Test.YtbiehpjhhopjaaaGreatClone
import Derived.Lib.SliceRun
set_option linter.unusedVariables false
set_option linter.unusedSimpArgs false
namespace Go.Proofs.YtbiehpjhhopjaaaGreat
open Go.RowKit
theorem sl_reads {α : Type} {w : World} {sz : Nat} {R : World → List Value → α → Prop} {b off cap : Nat} {l : List α} {f : α → List Value} (h : SlA w sz R (some ⟨b, off, none⟩) cap l) (hf : ∀ x ∈ l, (f x).length = sz) (hR : ∀ vs x, R w vs x → vs = f x) (hz : 0 < sz) :
    ∀ j u, (l.flatMap f)[j]? = some u → w.cell? ⟨b, off + j, none⟩ = some u := by
  intro j u hj
  have hlen := flat_len f sz l hf
  have hjl : j < l.length * sz := by rw [← hlen]; exact (List.getElem?_eq_some_iff.1 hj).1
  have hi : j / sz < l.length := Nat.div_lt_of_lt_mul (by rw [Nat.mul_comm]; exact hjl)
  have hr : j % sz < sz := Nat.mod_lt _ hz
  have hje : j / sz * sz + j % sz = j := Nat.div_add_mod' j sz
  rw [← hje, flat_get f sz l (j / sz) (j % sz) hi hf hr] at hj
  obtain ⟨b', off', vs, e, hl, hc, hr2⟩ := h.at_ (j / sz) hi
  cases e
  obtain rfl := hR vs _ hr2
  have h1 := hc (j % sz) (by rw [hl]; exact hr)
  rw [List.getElem?_eq_getElem (by rw [hl]; exact hr)] at hj
  rw [show off + j = off + j / sz * sz + j % sz by rw [Nat.add_assoc, hje], h1]
  exact hj
set_option maxRecDepth 100000 in
theorem clone135_any (a : Option Addr) (cap : Nat) (l : List Tk) (w : World) (hl : SlA w 2 RTk a cap l) (hm : l.length ≤ 1000) :
    Calls Tryz.prog 135 #[.slice a l.length cap] w fun e w' => ∃ v, e = .returned v ∧ w'.ownsRow w.heap.size 106 2 v l.length (l.flatMap tkC) ∧ Below w.heap.size w w' := by
  have q : ∀ (w : World) (a : Option Addr) (n c n' c' : Nat), (binOp .eql 29 (.slice a n c) (.slice none n' c')).run Tryz.prog w = .ok (.bool a.isNone) w := fun w a n c n' c' => Go.Lib.run_eql_slice_nil w _ _ a n c n' c' Tryz.underlying29
  obtain ⟨i0, hi, hz0, hz1, hz2⟩ := info_parts info106
  cases a with
  | none =>
    have h0 : l = [] := by
      cases l with
      | nil => rfl
      | cons c l => obtain ⟨b, off, vs, e, _⟩ := hl.at_ 0 (by simp); cases e
    subst h0
    go_enter Tryz.func135, Tryz.ntmps135
    go_wp2_with fail
    go_ret
    exact ⟨_, rfl, World.ownsRow_nil _ _ _ _, Below.refl _ _⟩
  | some ad =>
    by_cases h0 : l = []
    · subst h0
      go_enter Tryz.func135, Tryz.ntmps135
      go_wp2_with fail
      go_ret
      exact ⟨_, rfl, World.ownsRow_made w #[] 0 (Nat.le_refl _) (Nat.zero_le _) (by simp), (Below.refl _ _).alloc (Nat.le_refl _) _⟩
    · obtain ⟨b, off, vs0, e, -⟩ := hl.at_ 0 (List.length_pos_iff.2 h0)
      cases e
      have HR := Lib.hid (sl_reads (f := tkC) hl (fun _ _ => rfl) (fun _ _ h => h) (by decide))
      have HN : Hid ((l.flatMap tkC).length = l.length * 2) := flat_len _ 2 l (fun _ _ => rfl)
      have H1 : Hid (∀ u ∈ l.flatMap tkC, u.oneCell' = true) := by
        intro u hu
        obtain ⟨x, -, hx⟩ := List.mem_flatMap.1 hu
        exact oneTk x u hx
      have HL : Hid (∀ (v : Value) (W : World), W.ownsRow w.heap.size 106 2 v (0 + l.length) ([] ++ l.flatMap tkC) → W.ownsRow w.heap.size 106 2 v l.length (l.flatMap tkC)) := fun v W h => by rw [Nat.zero_add] at h; exact h
      generalize hq : l.flatMap tkC = news at *
      have HC : Hid (∀ j u, news[j]? = some u → (w.alloc (.cells #[] 106)).cell? ((⟨b, off, none⟩ : Addr).add j) = some u) := fun j u hj => by
        rw [Addr.add_lit]
        exact (((Below.refl w.heap.size w).alloc (Nat.le_refl _) _).cell (p := ⟨b, off + j, none⟩) (block_lt_of_cell (HR.out j u hj))).trans (HR.out j u hj)
      have hlen : Hid (0 < l.length) := List.length_pos_iff.2 h0
      clear hl h0 hq
      go_enter Tryz.func135, Tryz.ntmps135
      go_wp2_with (at_builtin; refine wpList_append_own_at _ rfl _ _ 29 rfl w.heap.size 106 i0 (.agg #[.int .i64 0, .int .u8 0]) 2 16 Tryz.underlying29 hi hz0 hz1 hz2 rfl (by decide) _ _ _ rfl (World.ownsRow_made w #[] 0 (Nat.le_refl _) (Nat.zero_le _) (by simp)) ⟨b, off, none⟩ l.length cap news rfl HN.out HC.out H1.out (by unfold maxLen; omega) (by omega) (by simp) ?_; intro v' w' hown hgr hnil hat)
      have hgr : (w.alloc (.cells #[] 106)).grownBy w' (some w.heap.size) := hgr
      go_ret
      exact ⟨_, rfl, HL.out _ _ hown, (((Below.refl _ w).alloc (Nat.le_refl _) _).grown hgr (by simp) (by intro k hk; cases hk; exact Nat.le_refl _))⟩
set_option maxRecDepth 100000 in
theorem clone136_any (a : Option Addr) (cap : Nat) (l : List Sw) (w : World) (hl : SlA w 3 RSw a cap l) (hm : l.length ≤ 1000) :
    Calls Tryz.prog 136 #[.slice a l.length cap] w fun e w' => ∃ v, e = .returned v ∧ w'.ownsRow w.heap.size 108 3 v l.length (l.flatMap swC) ∧ Below w.heap.size w w' := by
  have q : ∀ (w : World) (a : Option Addr) (n c n' c' : Nat), (binOp .eql 30 (.slice a n c) (.slice none n' c')).run Tryz.prog w = .ok (.bool a.isNone) w := fun w a n c n' c' => Go.Lib.run_eql_slice_nil w _ _ a n c n' c' Tryz.underlying30
  obtain ⟨i0, hi, hz0, hz1, hz2⟩ := info_parts info108
  cases a with
  | none =>
    have h0 : l = [] := by
      cases l with
      | nil => rfl
      | cons c l => obtain ⟨b, off, vs, e, _⟩ := hl.at_ 0 (by simp); cases e
    subst h0
    go_enter Tryz.func136, Tryz.ntmps136
    go_wp2_with fail
    go_ret
    exact ⟨_, rfl, World.ownsRow_nil _ _ _ _, Below.refl _ _⟩
  | some ad =>
    by_cases h0 : l = []
    · subst h0
      go_enter Tryz.func136, Tryz.ntmps136
      go_wp2_with fail
      go_ret
      exact ⟨_, rfl, World.ownsRow_made w #[] 0 (Nat.le_refl _) (Nat.zero_le _) (by simp), (Below.refl _ _).alloc (Nat.le_refl _) _⟩
    · obtain ⟨b, off, vs0, e, -⟩ := hl.at_ 0 (List.length_pos_iff.2 h0)
      cases e
      have HR := Lib.hid (sl_reads (f := swC) hl (fun _ _ => rfl) (fun _ _ h => h) (by decide))
      have HN : Hid ((l.flatMap swC).length = l.length * 3) := flat_len _ 3 l (fun _ _ => rfl)
      have H1 : Hid (∀ u ∈ l.flatMap swC, u.oneCell' = true) := by
        intro u hu
        obtain ⟨x, -, hx⟩ := List.mem_flatMap.1 hu
        exact oneSw x u hx
      have HL : Hid (∀ (v : Value) (W : World), W.ownsRow w.heap.size 108 3 v (0 + l.length) ([] ++ l.flatMap swC) → W.ownsRow w.heap.size 108 3 v l.length (l.flatMap swC)) := fun v W h => by rw [Nat.zero_add] at h; exact h
      generalize hq : l.flatMap swC = news at *
      have HC : Hid (∀ j u, news[j]? = some u → (w.alloc (.cells #[] 108)).cell? ((⟨b, off, none⟩ : Addr).add j) = some u) := fun j u hj => by
        rw [Addr.add_lit]
        exact (((Below.refl w.heap.size w).alloc (Nat.le_refl _) _).cell (p := ⟨b, off + j, none⟩) (block_lt_of_cell (HR.out j u hj))).trans (HR.out j u hj)
      have hlen : Hid (0 < l.length) := List.length_pos_iff.2 h0
      clear hl h0 hq
      go_enter Tryz.func136, Tryz.ntmps136
      go_wp2_with (at_builtin; refine wpList_append_own_at _ rfl _ _ 30 rfl w.heap.size 108 i0 (.agg #[.int .i64 0, .int .i64 0, .int .i64 0]) 3 24 Tryz.underlying30 hi hz0 hz1 hz2 rfl (by decide) _ _ _ rfl (World.ownsRow_made w #[] 0 (Nat.le_refl _) (Nat.zero_le _) (by simp)) ⟨b, off, none⟩ l.length cap news rfl HN.out HC.out H1.out (by unfold maxLen; omega) (by omega) (by simp) ?_; intro v' w' hown hgr hnil hat)
      have hgr : (w.alloc (.cells #[] 108)).grownBy w' (some w.heap.size) := hgr
      go_ret
      exact ⟨_, rfl, HL.out _ _ hown, (((Below.refl _ w).alloc (Nat.le_refl _) _).grown hgr (by simp) (by intro k hk; cases hk; exact Nat.le_refl _))⟩
set_option maxRecDepth 100000 in
theorem clone137_any (a : Option Addr) (cap : Nat) (l : List Lk) (w : World) (hl : SlA w 4 RLk a cap l) (hm : l.length ≤ 1000) :
    Calls Tryz.prog 137 #[.slice a l.length cap] w fun e w' => ∃ v, e = .returned v ∧ w'.ownsRow w.heap.size 99 4 v l.length (l.flatMap lkC) ∧ Below w.heap.size w w' := by
  have q : ∀ (w : World) (a : Option Addr) (n c n' c' : Nat), (binOp .eql 31 (.slice a n c) (.slice none n' c')).run Tryz.prog w = .ok (.bool a.isNone) w := fun w a n c n' c' => Go.Lib.run_eql_slice_nil w _ _ a n c n' c' Tryz.underlying31
  obtain ⟨i0, hi, hz0, hz1, hz2⟩ := info_parts info99
  cases a with
  | none =>
    have h0 : l = [] := by
      cases l with
      | nil => rfl
      | cons c l => obtain ⟨b, off, vs, e, _⟩ := hl.at_ 0 (by simp); cases e
    subst h0
    go_enter Tryz.func137, Tryz.ntmps137
    go_wp2_with fail
    go_ret
    exact ⟨_, rfl, World.ownsRow_nil _ _ _ _, Below.refl _ _⟩
  | some ad =>
    by_cases h0 : l = []
    · subst h0
      go_enter Tryz.func137, Tryz.ntmps137
      go_wp2_with fail
      go_ret
      exact ⟨_, rfl, World.ownsRow_made w #[] 0 (Nat.le_refl _) (Nat.zero_le _) (by simp), (Below.refl _ _).alloc (Nat.le_refl _) _⟩
    · obtain ⟨b, off, vs0, e, -⟩ := hl.at_ 0 (List.length_pos_iff.2 h0)
      cases e
      have HR := Lib.hid (sl_reads (f := lkC) hl (fun _ _ => rfl) (fun _ _ h => h) (by decide))
      have HN : Hid ((l.flatMap lkC).length = l.length * 4) := flat_len _ 4 l (fun _ _ => rfl)
      have H1 : Hid (∀ u ∈ l.flatMap lkC, u.oneCell' = true) := by
        intro u hu
        obtain ⟨x, -, hx⟩ := List.mem_flatMap.1 hu
        exact oneLk x u hx
      have HL : Hid (∀ (v : Value) (W : World), W.ownsRow w.heap.size 99 4 v (0 + l.length) ([] ++ l.flatMap lkC) → W.ownsRow w.heap.size 99 4 v l.length (l.flatMap lkC)) := fun v W h => by rw [Nat.zero_add] at h; exact h
      generalize hq : l.flatMap lkC = news at *
      have HC : Hid (∀ j u, news[j]? = some u → (w.alloc (.cells #[] 99)).cell? ((⟨b, off, none⟩ : Addr).add j) = some u) := fun j u hj => by
        rw [Addr.add_lit]
        exact (((Below.refl w.heap.size w).alloc (Nat.le_refl _) _).cell (p := ⟨b, off + j, none⟩) (block_lt_of_cell (HR.out j u hj))).trans (HR.out j u hj)
      have hlen : Hid (0 < l.length) := List.length_pos_iff.2 h0
      clear hl h0 hq
      go_enter Tryz.func137, Tryz.ntmps137
      go_wp2_with (at_builtin; refine wpList_append_own_at _ rfl _ _ 31 rfl w.heap.size 99 i0 (.agg #[.int .i64 0, .int .u8 0, .int .i64 0, .int .i64 0]) 4 32 Tryz.underlying31 hi hz0 hz1 hz2 rfl (by decide) _ _ _ rfl (World.ownsRow_made w #[] 0 (Nat.le_refl _) (Nat.zero_le _) (by simp)) ⟨b, off, none⟩ l.length cap news rfl HN.out HC.out H1.out (by unfold maxLen; omega) (by omega) (by simp) ?_; intro v' w' hown hgr hnil hat)
      have hgr : (w.alloc (.cells #[] 99)).grownBy w' (some w.heap.size) := hgr
      go_ret
      exact ⟨_, rfl, HL.out _ _ hown, (((Below.refl _ w).alloc (Nat.le_refl _) _).grown hgr (by simp) (by intro k hk; cases hk; exact Nat.le_refl _))⟩
/-- where Twin's region stands -/
structure RT (B : Nat) (w0 : World) (st : St) (gx gr : Nat) (v0 v1 v2 : Value) (f0 f1 f2 f3 f4 f5 f6 f7 f8 f9 f10 : Bool) (s0 s1 s2 s3 s4 s5 s6 s7 s8 s9 : Value) (W : World) : Prop where
  bel : Below B w0 W
  hl : gr + 1 ≤ W.heap.size
  hx : W.heap[gx]? = some (.cells #[v0, v1, v2] 33 (0, 0))
  hz : f10 = false → W.heap[gr]? = some (.cells #[.slice none 0 0, .slice none 0 0, .slice none 0 0] 33 (0, 0))
  h0 : f0 = true → s0 = .pointer (some ⟨gx, 0, none⟩)
  h1 : f1 = true → s1 = v0
  h2 : f2 = true → ∃ a c, s2 = .slice a st.tks.length c ∧ W.ownsRow (gr + 1) 106 2 (.slice a st.tks.length c) st.tks.length (st.tks.flatMap tkC)
  h3 : f3 = true → s3 = .pointer (some ⟨gx, 1, none⟩)
  h4 : f4 = true → s4 = v1
  h5 : f5 = true → ∃ a c, s5 = .slice a st.sws.length c ∧ W.ownsRow (gr + 1) 108 3 (.slice a st.sws.length c) st.sws.length (st.sws.flatMap swC)
  h6 : f6 = true → s6 = .pointer (some ⟨gx, 2, none⟩)
  h7 : f7 = true → s7 = v2
  h8 : f8 = true → ∃ a c, s8 = .slice a st.lks.length c ∧ W.ownsRow (gr + 1) 99 4 (.slice a st.lks.length c) st.lks.length (st.lks.flatMap lkC)
  h9 : f9 = true → ∃ a1 c1 a2 c2 a3 c3, s9 = .agg #[.slice a1 st.tks.length c1, .slice a2 st.sws.length c2, .slice a3 st.lks.length c3] ∧ StOwn W (gr + 1) (.slice a1 st.tks.length c1) (.slice a2 st.sws.length c2) (.slice a3 st.lks.length c3) st
  h10 : f10 = true → ∃ a1 c1 a2 c2 a3 c3, W.heap[gr]? = some (.cells #[.slice a1 st.tks.length c1, .slice a2 st.sws.length c2, .slice a3 st.lks.length c3] 33 (0, 0)) ∧ StOwn W (gr + 1) (.slice a1 st.tks.length c1) (.slice a2 st.sws.length c2) (.slice a3 st.lks.length c3) st
theorem RT.below {B : Nat} {w0 : World} {st : St} {gx gr : Nat} {v0 v1 v2 : Value} {f0 f1 f2 f3 f4 f5 f6 f7 f8 f9 f10 : Bool} {s0 s1 s2 s3 s4 s5 s6 s7 s8 s9 : Value} {W W' : World} (h : RT B w0 st gx gr v0 v1 v2 f0 f1 f2 f3 f4 f5 f6 f7 f8 f9 f10 s0 s1 s2 s3 s4 s5 s6 s7 s8 s9 W) (hb : Below W.heap.size W W') (hB : B ≤ W.heap.size) : RT B w0 st gx gr v0 v1 v2 f0 f1 f2 f3 f4 f5 f6 f7 f8 f9 f10 s0 s1 s2 s3 s4 s5 s6 s7 s8 s9 W' :=
  { h with
    bel := h.bel.trans (hb.mono hB)
    hl := Nat.le_trans h.hl hb.size
    hx := (hb.block _ (lt_of_block h.hx)).trans h.hx
    hz := fun k => (hb.block _ (lt_of_block (h.hz k))).trans (h.hz k)
    h2 := fun k => by
      obtain ⟨a, c, e, ho⟩ := h.h2 k
      exact ⟨a, c, e, own_below ho hb⟩
    h5 := fun k => by
      obtain ⟨a, c, e, ho⟩ := h.h5 k
      exact ⟨a, c, e, own_below ho hb⟩
    h8 := fun k => by
      obtain ⟨a, c, e, ho⟩ := h.h8 k
      exact ⟨a, c, e, own_below ho hb⟩
    h9 := fun k => by
      obtain ⟨a1, c1, a2, c2, a3, c3, e, ho⟩ := h.h9 k
      exact ⟨a1, c1, a2, c2, a3, c3, e, ho.below hb⟩
    h10 := fun k => by
      obtain ⟨a1, c1, a2, c2, a3, c3, e, ho⟩ := h.h10 k
      exact ⟨a1, c1, a2, c2, a3, c3, (hb.block _ (lt_of_block e)).trans e, ho.below hb⟩ }
set_option maxRecDepth 100000 in
set_option maxHeartbeats 8000000 in
theorem twin_any (st : St) (t sw lk : Value) (w : World) (hs : StM w t sw lk st) (hsf : st.fit) :
    Calls Tryz.prog 67 #[.agg #[t, sw, lk]] w fun e w' => ∃ a1 c1 a2 c2 a3 c3, e = .returned (.agg #[.slice a1 st.tks.length c1, .slice a2 st.sws.length c2, .slice a3 st.lks.length c3]) ∧ StOwn w' w.heap.size (.slice a1 st.tks.length c1) (.slice a2 st.sws.length c2) (.slice a3 st.lks.length c3) st ∧ Below w.heap.size w w' := by
  have HS : Hid (∀ W, Below w.heap.size w W → StM W t sw lk st) := fun W hb => hs.below hb
  have HF := Lib.hid hsf
  obtain ⟨b1, d1, rfl, -⟩ := hs.tks
  obtain ⟨b2, d2, rfl, -⟩ := hs.sws
  obtain ⟨b3, d3, rfl, -⟩ := hs.lks
  have HC0 : Hid (∀ W, Below w.heap.size w W → Calls Tryz.prog 135 #[.slice b1 st.tks.length d1] W fun e w' => ∃ v, e = .returned v ∧ w'.ownsRow W.heap.size 106 2 v st.tks.length (st.tks.flatMap tkC) ∧ Below W.heap.size W w') := fun W hb => by
    obtain ⟨a, c, e, h⟩ := (HS.out W hb).tks
    cases e
    exact clone135_any _ _ _ W h HF.out.1
  have HC1 : Hid (∀ W, Below w.heap.size w W → Calls Tryz.prog 136 #[.slice b2 st.sws.length d2] W fun e w' => ∃ v, e = .returned v ∧ w'.ownsRow W.heap.size 108 3 v st.sws.length (st.sws.flatMap swC) ∧ Below W.heap.size W w') := fun W hb => by
    obtain ⟨a, c, e, h⟩ := (HS.out W hb).sws
    cases e
    exact clone136_any _ _ _ W h HF.out.2.1
  have HC2 : Hid (∀ W, Below w.heap.size w W → Calls Tryz.prog 137 #[.slice b3 st.lks.length d3] W fun e w' => ∃ v, e = .returned v ∧ w'.ownsRow W.heap.size 99 4 v st.lks.length (st.lks.flatMap lkC) ∧ Below W.heap.size W w') := fun W hb => by
    obtain ⟨a, c, e, h⟩ := (HS.out W hb).lks
    cases e
    exact clone137_any _ _ _ W h HF.out.2.2
  clear hs hsf HS HF
  go_enter Tryz.func67, Tryz.ntmps67
  go_upto_region 1 with fail
  generalize hW0 : World.alloc _ _ = W0
  have K0 : Hid (Below w.heap.size w W0) := by show Below _ _ _; rw [← hW0]; exact ((Below.refl _ _).alloc (Nat.le_refl _) _).alloc (by simp) _
  have HX0 : Hid (W0.heap[w.heap.size]? = some (.cells #[.slice b1 st.tks.length d1, .slice b2 st.sws.length d2, .slice b3 st.lks.length d3] 33 (0, 0))) := by show _ = _; rw [← hW0]; exact (heap_alloc_old _ _ (by simp)).trans (heap_alloc_new _ _)
  have HZ0 : Hid (W0.heap[w.heap.size + 1]? = some (.cells #[.slice none 0 0, .slice none 0 0, .slice none 0 0] 33 (0, 0))) := by show _ = _; rw [← hW0]; exact heap_alloc2_new _ _ _
  clear hW0
  refine wp_region_inv' (by kernel_rfl) (by kernel_rfl) (fun f a W9 => ∃ s3 s4 s5 s6 s7 s8 s9 s10 s11 s12 : Value, a = { tmps := #[.agg #[.slice b1 st.tks.length d1, .slice b2 st.sws.length d2, .slice b3 st.lks.length d3], .pointer (some ⟨w.heap.size, 0, none⟩), .pointer (some ⟨w.heap.size + 1, 0, none⟩), s3, s4, s5, s6, s7, s8, s9, s10, s11, s12], defers := [] } ∧ RT w.heap.size w st w.heap.size (w.heap.size + 1) (.slice b1 st.tks.length d1) (.slice b2 st.sws.length d2) (.slice b3 st.lks.length d3) (f 0) (f 1) (f 2) (f 3) (f 4) (f 5) (f 6) (f 7) (f 8) (f 9) (f 10) s3 s4 s5 s6 s7 s8 s9 s10 s11 s12 W9) ?_ ?_ ?_
  · exact ⟨_, _, _, _, _, _, _, _, _, _, rfl, { bel := ⟨K0.out.os, K0.out.tape, K0.out.output, K0.out.size, K0.out.block⟩, hl := lt_of_block HZ0.out, hx := HX0.out, hz := fun _ => HZ0.out, h0 := by simp, h1 := by simp, h2 := by simp, h3 := by simp, h4 := by simp, h5 := by simp, h6 := by simp, h7 := by simp, h8 := by simp, h9 := by simp, h10 := by simp }⟩
  · intro i o ho f a W9 hI hd hun
    obtain ⟨s3, s4, s5, s6, s7, s8, s9, s10, s11, s12, rfl, hS⟩ := hI
    have hB := hS.bel.size
    rcases i with _ | _ | _ | _ | _ | _ | _ | _ | _ | _ | _ | i
    · simp at ho
      subst ho
      simp [wpOp, go_sem]
      exact .inl ⟨_, _, _, _, _, _, _, _, _, _, ⟨rfl, rfl, rfl, rfl, rfl, rfl, rfl, rfl, rfl, rfl⟩, { hS with h0 := fun _ => rfl }⟩
    · simp at ho
      subst ho
      obtain rfl := hS.h0 (hd ⟨0, .data⟩ (by simp) (by rfl))
      have cc : W9.cell? ⟨w.heap.size, 0, none⟩ = some (.slice b1 st.tks.length d1) := (cell_of_row W9 _ 0 _ _ _ hS.hx).trans rfl
      simp [wpOp, go_sem, cc]
      exact .inl ⟨_, _, _, _, _, _, _, _, _, _, ⟨rfl, rfl, rfl, rfl, rfl, rfl, rfl, rfl, rfl, rfl⟩, { hS with h1 := fun _ => rfl }⟩
    · simp at ho
      subst ho
      obtain rfl := hS.h1 (hd ⟨1, .data⟩ (by simp) (by rfl))
      have hc := HC0.out W9 hS.bel
      have hgr : w.heap.size + 1 + 1 ≤ W9.heap.size := hS.hl
      simp [wpOp, go_sem]
      refine .inl (hc.mono ?_)
      rintro e w' ⟨v, rfl, hown, hb⟩
      obtain ⟨a', c', rfl⟩ := own_slice hown
      simp [go_sem]
      exact ⟨_, _, _, _, _, _, _, _, _, _, ⟨rfl, rfl, rfl, rfl, rfl, rfl, rfl, rfl, rfl, rfl⟩, { RT.below hS hb hB with h2 := fun _ => ⟨_, _, rfl, own_base hown hgr⟩ }⟩
    · simp at ho
      subst ho
      simp [wpOp, go_sem]
      exact .inl ⟨_, _, _, _, _, _, _, _, _, _, ⟨rfl, rfl, rfl, rfl, rfl, rfl, rfl, rfl, rfl, rfl⟩, { hS with h3 := fun _ => rfl }⟩
    · simp at ho
      subst ho
      obtain rfl := hS.h3 (hd ⟨3, .data⟩ (by simp) (by rfl))
      have cc : W9.cell? ⟨w.heap.size, 1, none⟩ = some (.slice b2 st.sws.length d2) := (cell_of_row W9 _ 1 _ _ _ hS.hx).trans rfl
      simp [wpOp, go_sem, cc]
      exact .inl ⟨_, _, _, _, _, _, _, _, _, _, ⟨rfl, rfl, rfl, rfl, rfl, rfl, rfl, rfl, rfl, rfl⟩, { hS with h4 := fun _ => rfl }⟩
    · simp at ho
      subst ho
      obtain rfl := hS.h4 (hd ⟨4, .data⟩ (by simp) (by rfl))
      have hc := HC1.out W9 hS.bel
      have hgr : w.heap.size + 1 + 1 ≤ W9.heap.size := hS.hl
      simp [wpOp, go_sem]
      refine .inl (hc.mono ?_)
      rintro e w' ⟨v, rfl, hown, hb⟩
      obtain ⟨a', c', rfl⟩ := own_slice hown
      simp [go_sem]
      exact ⟨_, _, _, _, _, _, _, _, _, _, ⟨rfl, rfl, rfl, rfl, rfl, rfl, rfl, rfl, rfl, rfl⟩, { RT.below hS hb hB with h5 := fun _ => ⟨_, _, rfl, own_base hown hgr⟩ }⟩
    · simp at ho
      subst ho
      simp [wpOp, go_sem]
      exact .inl ⟨_, _, _, _, _, _, _, _, _, _, ⟨rfl, rfl, rfl, rfl, rfl, rfl, rfl, rfl, rfl, rfl⟩, { hS with h6 := fun _ => rfl }⟩
    · simp at ho
      subst ho
      obtain rfl := hS.h6 (hd ⟨6, .data⟩ (by simp) (by rfl))
      have cc : W9.cell? ⟨w.heap.size, 2, none⟩ = some (.slice b3 st.lks.length d3) := (cell_of_row W9 _ 2 _ _ _ hS.hx).trans rfl
      simp [wpOp, go_sem, cc]
      exact .inl ⟨_, _, _, _, _, _, _, _, _, _, ⟨rfl, rfl, rfl, rfl, rfl, rfl, rfl, rfl, rfl, rfl⟩, { hS with h7 := fun _ => rfl }⟩
    · simp at ho
      subst ho
      obtain rfl := hS.h7 (hd ⟨7, .data⟩ (by simp) (by rfl))
      have hc := HC2.out W9 hS.bel
      have hgr : w.heap.size + 1 + 1 ≤ W9.heap.size := hS.hl
      simp [wpOp, go_sem]
      refine .inl (hc.mono ?_)
      rintro e w' ⟨v, rfl, hown, hb⟩
      obtain ⟨a', c', rfl⟩ := own_slice hown
      simp [go_sem]
      exact ⟨_, _, _, _, _, _, _, _, _, _, ⟨rfl, rfl, rfl, rfl, rfl, rfl, rfl, rfl, rfl, rfl⟩, { RT.below hS hb hB with h8 := fun _ => ⟨_, _, rfl, own_base hown hgr⟩ }⟩
    · simp at ho
      subst ho
      obtain ⟨a1, c1, rfl, o1⟩ := hS.h2 (hd ⟨2, .data⟩ (by simp) (by rfl))
      obtain ⟨a2, c2, rfl, o2⟩ := hS.h5 (hd ⟨5, .data⟩ (by simp) (by rfl))
      obtain ⟨a3, c3, rfl, o3⟩ := hS.h8 (hd ⟨8, .data⟩ (by simp) (by rfl))
      simp [wpOp, go_sem]
      exact .inl ⟨_, _, _, _, _, _, _, _, _, _, ⟨rfl, rfl, rfl, rfl, rfl, rfl, rfl, rfl, rfl, rfl⟩, { hS with h9 := fun _ => ⟨_, _, _, _, _, _, rfl, o1, o2, o3⟩ }⟩
    · simp at ho
      subst ho
      obtain ⟨a1, c1, a2, c2, a3, c3, rfl, hown⟩ := hS.h9 (hd ⟨9, .data⟩ (by simp) (by rfl))
      have hz := hS.hz hun
      have ff : ∀ o, W9.frozen? ⟨w.heap.size + 1, o, none⟩ = false := fun o => by simp [World.frozen?, hz]
      have cc0 : W9.cell? ⟨w.heap.size + 1, 0, none⟩ = some (.slice none 0 0) := (cell_of_row W9 _ 0 _ _ _ hz).trans rfl
      have cc1 : W9.cell? ⟨w.heap.size + 1, 1, none⟩ = some (.slice none 0 0) := (cell_of_row W9 _ 1 _ _ _ hz).trans rfl
      have cc2 : W9.cell? ⟨w.heap.size + 1, 2, none⟩ = some (.slice none 0 0) := (cell_of_row W9 _ 2 _ _ _ hz).trans rfl
      have lr := lt_of_block hz
      have hl : (w.heap.size + 1) < w.heap.size + 1 + 1 := Nat.lt_succ_self _
      simp [wpOp, go_sem, ff, cc0, cc1, cc2, lr]
      exact .inl ⟨_, _, _, _, _, _, _, _, _, _, ⟨rfl, rfl, rfl, rfl, rfl, rfl, rfl, rfl, rfl, rfl⟩, { hS with bel := ((hS.bel.setCell (by simp) _).setCell (by simp) _).setCell (by simp) _, hl := (by simp [World.setCell]; exact hS.hl), hx := (by simp [World.setCell, Array.getElem?_modify, hS.hx]), hz := (fun h => by cases h), h2 := (fun k => by obtain ⟨a, c, e, ho⟩ := hS.h2 k; exact ⟨a, c, e, own_setCell (own_setCell (own_setCell ho hl _) hl _) hl _⟩), h5 := (fun k => by obtain ⟨a, c, e, ho⟩ := hS.h5 k; exact ⟨a, c, e, own_setCell (own_setCell (own_setCell ho hl _) hl _) hl _⟩), h8 := (fun k => by obtain ⟨a, c, e, ho⟩ := hS.h8 k; exact ⟨a, c, e, own_setCell (own_setCell (own_setCell ho hl _) hl _) hl _⟩), h9 := (fun k => ⟨_, _, _, _, _, _, rfl, ((hown.setCell hl _).setCell hl _).setCell hl _⟩), h10 := (fun _ => ⟨_, _, _, _, _, _, by simp [World.setCell, Array.getElem?_modify, hz], ((hown.setCell hl _).setCell hl _).setCell hl _⟩) }⟩
    · simp at ho
  · intro f a W9 hI hall
    obtain ⟨s3, s4, s5, s6, s7, s8, s9, s10, s11, s12, rfl, hS⟩ := hI
    obtain ⟨a1, c1, a2, c2, a3, c3, hr, hown⟩ := hS.h10 (hall 10 (by decide))
    have HB := Lib.hid hS.bel
    have HO := Lib.hid hown
    have rr0 : W9.cell? ⟨w.heap.size + 1, 0, none⟩ = some (.slice a1 st.tks.length c1) := (cell_of_row W9 _ 0 _ _ _ hr).trans rfl
    have rr1 : W9.cell? ⟨w.heap.size + 1, 1, none⟩ = some (.slice a2 st.sws.length c2) := (cell_of_row W9 _ 1 _ _ _ hr).trans rfl
    have rr2 : W9.cell? ⟨w.heap.size + 1, 2, none⟩ = some (.slice a3 st.lks.length c3) := (cell_of_row W9 _ 2 _ _ _ hr).trans rfl
    clear hS hall hr hown
    go_wp2_with fail
    exact bodyPost_ret (v := .agg #[.slice a1 st.tks.length c1, .slice a2 st.sws.length c2, .slice a3 st.lks.length c3]) (by simp [results, Tryz.f67, go_sem, rr0, rr1, rr2]) rfl ⟨_, _, _, _, _, _, rfl, HO.out.base (by omega), HB.out⟩
end Go.Proofs.YtbiehpjhhopjaaaGreat
