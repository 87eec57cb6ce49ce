/-
  law 25's joined, walked.
-/
import Derived.Test.YtbiehpjhhopjaaaGreatFreeD
import Derived.Test.YtbiehpjhhopjaaaGreatConcat
import Derived.Test.YtbiehpjhhopjaaaGreatLawP
set_option linter.unusedVariables false
set_option linter.unusedSimpArgs false
namespace Go.Proofs.YtbiehpjhhopjaaaGreat
open Go.RowKit Go.Maps
theorem run_append_ints {w : World} (base : Nat) (v : Value) (xs : List Int) (hown : IntOwn w base v xs) (a0 : Option Addr) (cap : Nat) (l : List Int) (hl : IL w a0 l.length l) (hn : xs.length + l.length ≤ 1000) (hbase : base ≤ w.heap.size) (ty : TypeId) :
    ∃ a' c' w', (Builtin.append_ #[54, 54] ty #[v, .slice a0 l.length cap]).run Tryz.prog w = .ok (.slice a' (xs.length + l.length) c') w' ∧ IntOwn w' base (.slice a' (xs.length + l.length) c') (xs ++ l) ∧ w.grownBy w' v.ownBlock := by
  obtain ⟨i0, hi, hz0, hz1, hz2⟩ := info_parts info3
  by_cases h0 : l = []
  · subst h0
    have hrun : (Builtin.append_ #[54, 54] ty #[v, .slice a0 0 cap]).run Tryz.prog w = .ok v w := by
      rcases hown.2 with ⟨rfl, hz⟩ | ⟨g, cp, cur, rfl, _, _, hnc, _⟩
      · cases a0 <;> simp [Builtin.append_, run_underlying Tryz.underlying54, sizeOf, typeInfo, hi, Builtin.lenOf, Builtin.firstCells, loadCells, loadCellsFrom]
      · cases a0 <;> simp [Builtin.append_, run_underlying Tryz.underlying54, sizeOf, typeInfo, hi, Builtin.lenOf, Builtin.firstCells, hnc, storeCells, loadCells, loadCellsFrom]
    obtain ⟨a', c', rfl⟩ := hown.slice
    exact ⟨a', c', w, by simpa using hrun, by simpa using hown, ⟨rfl, rfl, rfl, Nat.le_refl _, fun _ _ _ => rfl⟩⟩
  · obtain ⟨b, off, rfl, -⟩ := hl.cell 0 (List.length_pos_iff.2 h0)
    obtain ⟨v', w', hr, h1, h2, _, _⟩ := run_append_own_at (P := Tryz.prog) w base 54 ty 3 i0 (.int .i64 0) 1 8 Tryz.underlying54 hi hz0 hz1 hz2 rfl (by decide) v xs.length _ hown ⟨b, off, none⟩ l.length cap (l.map (.int .i64)) (by simp) (fun j u hj => by rw [Addr.add_lit]; exact hl.reads j u hj) (fun u hu => by obtain ⟨y, -, rfl⟩ := List.mem_map.1 hu; rfl) (by unfold maxLen; omega) (by omega) hbase
    have h1 : IntOwn w' base v' (xs ++ l) := by
      unfold IntOwn
      rw [List.length_append, List.map_append]
      exact h1
    obtain ⟨a', c', rfl⟩ := h1.slice
    rw [List.length_append] at hr h1
    exact ⟨a', c', w', hr, h1, h2⟩
theorem wpOp_append_ints {ops : Array Oper} {i : Nat} {o : Oper} {a : Act} {w : World} {Q : Exit → Act → World → Prop} {K : Act → World → Prop} (h : ops[i]? = some o) (hgd : o.guard = none) (s x : Operand)
    (ho : o.op = .call { callee := .builtin .append, args := #[s, x], argTypes := #[54, 54] }) (base : Nat) (v : Value) (xs : List Int) (hs : a.eval s = v) (hown : IntOwn w base v xs)
    (a0 : Option Addr) (cap : Nat) (l : List Int) (hx : a.eval x = .slice a0 l.length cap) (hl : IL w a0 l.length l) (hn : xs.length + l.length ≤ 1000) (hbase : base ≤ w.heap.size)
    (hK : ∀ a' c' w', IntOwn w' base (.slice a' (xs.length + l.length) c') (xs ++ l) → w.grownBy w' v.ownBlock → K (a.put o.dst (.slice a' (xs.length + l.length) c')) w') : wpOp Tryz.prog ops Q i K a w := by
  unfold wpOp
  rw [h]
  have hw : Region.wanted o (yielded ops a.tmps) = true := by simp [Region.wanted, hgd]
  simp only [hw, if_true]
  obtain ⟨a', c', w', hr, h1, h2⟩ := run_append_ints base v xs hown a0 cap l hl hn hbase o.type
  refine .inl ?_
  unfold Oper.wp execOp
  simp only [ho, resolve, invoke, builtin, Sem.run_bind, Sem.run_pure, Result.andThen_ok, List.map_toArray, List.map_cons, List.map_nil, hs, hx, hr]
  exact hK a' c' w' h1 h2
theorem wpOp_append_nil {ops : Array Oper} {i : Nat} {o : Oper} {a : Act} {w : World} {Q : Exit → Act → World → Prop} {K : Act → World → Prop} (h : ops[i]? = some o) (hgd : o.guard = none) (s x : Operand)
    (ho : o.op = .call { callee := .builtin .append, args := #[s, x], argTypes := #[54, 54] }) (base : Nat) (hs : a.eval s = .slice none 0 0)
    (a0 : Option Addr) (cap : Nat) (l : List Int) (hx : a.eval x = .slice a0 l.length cap) (hl : IL w a0 l.length l) (hn : l.length ≤ 1000) (hbase : base ≤ w.heap.size)
    (hK : ∀ a' c' w', IntOwn w' base (.slice a' l.length c') l → w.grownBy w' none → K (a.put o.dst (.slice a' l.length c')) w') : wpOp Tryz.prog ops Q i K a w := by
  refine wpOp_append_ints h hgd s x ho base (.slice none 0 0) [] hs (World.ownsRow_nil _ _ _ _) a0 cap l hx hl (by simpa using hn) hbase ?_
  intro a' c' w' h1 h2
  have e : ([] : List Int).length + l.length = l.length := by simp
  rw [e] at h1 ⊢
  exact hK a' c' w' h1 h2
theorem own_tw {gz : Nat} {W0 W : World} {base n : Nat} {v : Value} {xs : List Value} (h : W0.ownsRow base 3 1 v n xs) {zc : Array Value} {fr : Nat × Nat} (hz : W0.heap[gz]? = some (.cells zc 56 fr)) (ht : Tw gz gz W0 W) : W.ownsRow base 3 1 v n xs := by
  refine ⟨h.1, ?_⟩
  rcases h.2 with hn | ⟨g, cap, cur, rfl, hbg, hgg, rest⟩
  · exact .inl hn
  · have hne : g ≠ gz := fun e => by
      subst e
      rw [hgg] at hz
      injection hz with hz
      injection hz with _ hz
      exact absurd hz (by decide)
    exact .inr ⟨g, cap, cur, rfl, hbg, (ht.block g (lt_of_block hgg) hne hne).trans hgg, rest⟩
theorem Tw.grown {gz : Nat} {W0 W W' : World} (h : Tw gz gz W0 W) {base : Nat} {e : TypeId} {sz n : Nat} {v : Value} {xs : List Value} (hv : W.ownsRow base e sz v n xs) (hb : W0.heap.size ≤ base) (hg : W.grownBy W' v.ownBlock) : Tw gz gz W0 W' :=
  ⟨hg.os.trans h.os, hg.tape.trans h.tape, hg.output.trans h.output, Nat.le_trans h.size hg.size, fun k hk h1 h2 => (hg.block k (Nat.lt_of_lt_of_le hk h.size) (fun e' => by
    obtain ⟨c, _, hbk⟩ := own_block hv e'.symm
    omega)).trans (h.block k hk h1 h2)⟩
theorem keep_grown {W W' : World} {gz : Nat} {o : Obj} (hz : W.heap[gz]? = some o) {base : Nat} {e : TypeId} {sz n : Nat} {v : Value} {xs : List Value} (hv : W.ownsRow base e sz v n xs) (hb : gz < base) (hg : W.grownBy W' v.ownBlock) : W'.heap[gz]? = some o :=
  (hg.block gz (lt_of_block hz) (fun e' => by
    obtain ⟨c, _, hbk⟩ := own_block hv e'.symm
    omega)).trans hz
/-- where a region that joins two lists stands -/
structure RJ (B : Nat) (w0 W0 : World) (gz gx gy j : Nat) (ax ay : Option Addr) (cx cy : Nat) (lx ly : List Int) (zc : Array Value) (f0 f1 f2 f3 f4 f5 f6 f7 f8 f9 : Bool) (s0 s1 s2 s3 s4 s5 s6 s7 s8 : Value) (W : World) : Prop where
  bel : Below B w0 W
  tw : Tw gz gz W0 W
  hz : f9 = false → W.heap[gz]? = some (.cells zc 56 (0, 0))
  h0 : f0 = true → s0 = .pointer (some ⟨gz, j, none⟩)
  h1 : f1 = true → s1 = .slice none 0 0
  h2 : f2 = true → s2 = .pointer (some ⟨gx, j, none⟩)
  h3 : f3 = true → s3 = .slice ax lx.length cx
  h4 : f4 = true → f1 = true ∧ (f7 = false → ∃ a c, s4 = .slice a lx.length c ∧ IntOwn W W0.heap.size (.slice a lx.length c) lx)
  h5 : f5 = true → s5 = .pointer (some ⟨gy, j, none⟩)
  h6 : f6 = true → s6 = .slice ay ly.length cy
  h7 : f7 = true → f4 = true ∧ ∃ a c, s7 = .slice a (lx.length + ly.length) c ∧ IntOwn W W0.heap.size (.slice a (lx.length + ly.length) c) (lx ++ ly)
  h8 : f8 = true → s8 = .pointer (some ⟨gz, j, none⟩)
  h9 : f9 = true → f7 = true ∧ ∃ a c, W.heap[gz]? = some (.cells (zc.setIfInBounds j (.slice a (lx.length + ly.length) c)) 56 (0, 0)) ∧ IntOwn W W0.heap.size (.slice a (lx.length + ly.length) c) (lx ++ ly)
set_option maxRecDepth 100000 in
set_option maxHeartbeats 8000000 in
theorem joinboth_any (u1 u2 u3 u4 v1 v2 v3 v4 : Value) (x y : Ar) (w : World) (hx : AL w u1 u2 u3 u4 x) (hy : AL w v1 v2 v3 v4 y) (sx : x.small) (sy : y.small) :
    Calls Tryz.prog 45 #[.agg #[u1, u2, u3, u4], .agg #[v1, v2, v3, v4]] w fun e w' => ∃ z1 z2 z3 z4, e = .returned (.agg #[z1, z2, z3, z4]) ∧ AL w' z1 z2 z3 z4 (joinA x y) ∧ Below w.heap.size w w' := by
  obtain ⟨ax0, cx0, rfl, jax0⟩ := hx.s.at_
  have Hax0 : Hid (∀ W, Below w.heap.size w W → IL W ax0 x.s.length x.s) := fun W hb => jax0.below hb
  obtain ⟨ay0, cy0, rfl, jay0⟩ := hy.s.at_
  have Hay0 : Hid (∀ W, Below w.heap.size w W → IL W ay0 y.s.length y.s) := fun W hb => jay0.below hb
  obtain ⟨ax1, cx1, rfl, jax1⟩ := hx.p.at_
  have Hax1 : Hid (∀ W, Below w.heap.size w W → IL W ax1 x.p.length x.p) := fun W hb => jax1.below hb
  obtain ⟨ay1, cy1, rfl, jay1⟩ := hy.p.at_
  have Hay1 : Hid (∀ W, Below w.heap.size w W → IL W ay1 y.p.length y.p) := fun W hb => jay1.below hb
  obtain ⟨ax2, cx2, rfl, jax2⟩ := hx.g.at_
  have Hax2 : Hid (∀ W, Below w.heap.size w W → IL W ax2 x.g.length x.g) := fun W hb => jax2.below hb
  obtain ⟨ay2, cy2, rfl, jay2⟩ := hy.g.at_
  have Hay2 : Hid (∀ W, Below w.heap.size w W → IL W ay2 y.g.length y.g) := fun W hb => jay2.below hb
  obtain ⟨ax3, cx3, rfl, jax3⟩ := hx.r.at_
  have Hax3 : Hid (∀ W, Below w.heap.size w W → IL W ax3 x.r.length x.r) := fun W hb => jax3.below hb
  obtain ⟨ay3, cy3, rfl, jay3⟩ := hy.r.at_
  have Hay3 : Hid (∀ W, Below w.heap.size w W → IL W ay3 y.r.length y.r) := fun W hb => jay3.below hb
  have HSM : Hid (x.s.length + y.s.length ≤ 1000 ∧ x.p.length + y.p.length ≤ 1000 ∧ x.g.length + y.g.length ≤ 1000 ∧ x.r.length + y.r.length ≤ 1000 ∧ x.s.length ≤ 1000 ∧ x.p.length ≤ 1000 ∧ x.g.length ≤ 1000 ∧ x.r.length ≤ 1000) := by
    obtain ⟨a, b, c, d⟩ := sx
    obtain ⟨a', b', c', d'⟩ := sy
    refine ⟨?_, ?_, ?_, ?_, ?_, ?_, ?_, ?_⟩ <;> omega
  clear hx hy sx sy jax0 jay0 jax1 jay1 jax2 jay2 jax3 jay3
  go_enter Tryz.func45, Tryz.ntmps45
  go_upto_region 2 with fail
  generalize hW0 : World.alloc _ _ = W0
  have KW0 : Hid (Below w.heap.size w W0) := by
    show Below _ _ _
    rw [← hW0]
    exact ((((Below.refl _ _).alloc (Nat.le_refl _) _).alloc (by simp) _).alloc (by simp <;> omega) _).alloc (by simp <;> omega) _
  have b0 : ((w.alloc (.cells #[.slice ax0 x.s.length cx0, .slice ax1 x.p.length cx1, .slice ax2 x.g.length cx2, .slice ax3 x.r.length cx3] 56)).alloc (.cells #[.slice ay0 y.s.length cy0, .slice ay1 y.p.length cy1, .slice ay2 y.g.length cy2, .slice ay3 y.r.length cy3] 56)).heap[w.heap.size]? = some (.cells #[.slice ax0 x.s.length cx0, .slice ax1 x.p.length cx1, .slice ax2 x.g.length cx2, .slice ax3 x.r.length cx3] 56 (0, 0)) := (heap_alloc_old _ _ (by simp)).trans (heap_alloc_new _ _)
  have b1 : ((w.alloc (.cells #[.slice ax0 x.s.length cx0, .slice ax1 x.p.length cx1, .slice ax2 x.g.length cx2, .slice ax3 x.r.length cx3] 56)).alloc (.cells #[.slice ay0 y.s.length cy0, .slice ay1 y.p.length cy1, .slice ay2 y.g.length cy2, .slice ay3 y.r.length cy3] 56)).heap[w.heap.size + 1]? = some (.cells #[.slice ay0 y.s.length cy0, .slice ay1 y.p.length cy1, .slice ay2 y.g.length cy2, .slice ay3 y.r.length cy3] 56 (0, 0)) := heap_alloc2_new _ _ _
  have HGX0 : Hid (W0.heap[w.heap.size]? = some (.cells #[.slice ax0 x.s.length cx0, .slice ax1 x.p.length cx1, .slice ax2 x.g.length cx2, .slice ax3 x.r.length cx3] 56 (0, 0))) := by
    show _ = _
    rw [← hW0]; exact (heap_alloc_old _ _ (by simp <;> omega)).trans ((heap_alloc_old _ _ (by simp <;> omega)).trans b0)
  have HGY0 : Hid (W0.heap[w.heap.size + 1]? = some (.cells #[.slice ay0 y.s.length cy0, .slice ay1 y.p.length cy1, .slice ay2 y.g.length cy2, .slice ay3 y.r.length cy3] 56 (0, 0))) := by
    show _ = _
    rw [← hW0]; exact (heap_alloc_old _ _ (by simp <;> omega)).trans ((heap_alloc_old _ _ (by simp <;> omega)).trans b1)
  have HR0 : Hid (W0.heap[w.heap.size + 1 + 1]? = some (.cells #[.slice none 0 0, .slice none 0 0, .slice none 0 0, .slice none 0 0] 56 (0, 0))) := by
    show _ = _
    rw [← hW0]
    refine (heap_alloc_old _ _ (by simp <;> omega)).trans ?_
    have := heap_alloc_new ((w.alloc (.cells #[.slice ax0 x.s.length cx0, .slice ax1 x.p.length cx1, .slice ax2 x.g.length cx2, .slice ax3 x.r.length cx3] 56)).alloc (.cells #[.slice ay0 y.s.length cy0, .slice ay1 y.p.length cy1, .slice ay2 y.g.length cy2, .slice ay3 y.r.length cy3] 56)) (.cells #[.slice none 0 0, .slice none 0 0, .slice none 0 0, .slice none 0 0] 56)
    simpa using this
  have HZ0 : Hid (W0.heap[w.heap.size + 1 + 1 + 1]? = some (.cells #[.slice none 0 0, .slice none 0 0, .slice none 0 0, .slice none 0 0] 56 (0, 0))) := by
    show _ = _
    rw [← hW0]
    have := heap_alloc_new (((w.alloc (.cells #[.slice ax0 x.s.length cx0, .slice ax1 x.p.length cx1, .slice ax2 x.g.length cx2, .slice ax3 x.r.length cx3] 56)).alloc (.cells #[.slice ay0 y.s.length cy0, .slice ay1 y.p.length cy1, .slice ay2 y.g.length cy2, .slice ay3 y.r.length cy3] 56)).alloc (.cells #[.slice none 0 0, .slice none 0 0, .slice none 0 0, .slice none 0 0] 56)) (.cells #[.slice none 0 0, .slice none 0 0, .slice none 0 0, .slice none 0 0] 56)
    simpa using this
  clear hW0 b0 b1
  refine wp_region_inv' (by kernel_rfl) (by kernel_rfl) (fun f a W9 => ∃ s6 s7 s8 s9 s10 s11 s12 s13 s14 : Value, a = { tmps := #[.agg #[.slice ax0 x.s.length cx0, .slice ax1 x.p.length cx1, .slice ax2 x.g.length cx2, .slice ax3 x.r.length cx3], .agg #[.slice ay0 y.s.length cy0, .slice ay1 y.p.length cy1, .slice ay2 y.g.length cy2, .slice ay3 y.r.length cy3], .pointer (some ⟨w.heap.size, 0, none⟩), .pointer (some ⟨w.heap.size + 1, 0, none⟩), .pointer (some ⟨w.heap.size + 1 + 1, 0, none⟩), .pointer (some ⟨w.heap.size + 1 + 1 + 1, 0, none⟩), s6, s7, s8, s9, s10, s11, s12, s13, s14, undef, undef, undef, undef, undef, undef, undef, undef, undef, undef, undef, undef, undef, undef, undef, undef, undef, undef, undef, undef, undef, undef, undef, undef, undef, undef, undef, undef], defers := [] } ∧ RJ w.heap.size w W0 (w.heap.size + 1 + 1 + 1) w.heap.size (w.heap.size + 1) 0 ax0 ay0 cx0 cy0 x.s y.s #[.slice none 0 0, .slice none 0 0, .slice none 0 0, .slice none 0 0] (f 0) (f 1) (f 2) (f 3) (f 4) (f 5) (f 6) (f 7) (f 8) (f 9) s6 s7 s8 s9 s10 s11 s12 s13 s14 W9) ?_ ?_ ?_
  · exact ⟨_, _, _, _, _, _, _, _, _, rfl, { bel := ⟨KW0.out.os, KW0.out.tape, KW0.out.output, KW0.out.size, KW0.out.block⟩, tw := ⟨rfl, rfl, rfl, Nat.le_refl _, fun _ _ _ _ => rfl⟩, hz := fun _ => HZ0.out, h0 := by simp, h1 := by simp, h2 := by simp, h3 := by simp, h4 := by simp, h5 := by simp, h6 := by simp, h7 := by simp, h8 := by simp, h9 := by simp }⟩
  · intro i o ho f a W9 hI hd hun
    obtain ⟨s6, s7, s8, s9, s10, s11, s12, s13, s14, rfl, hS⟩ := hI
    have qx := (hS.tw.block _ (lt_of_block HGX0.out) (by omega) (by omega)).trans HGX0.out
    have qy := (hS.tw.block _ (lt_of_block HGY0.out) (by omega) (by omega)).trans HGY0.out
    have hzl := lt_of_block HZ0.out
    rcases i with _ | _ | _ | _ | _ | _ | _ | _ | _ | _ | i
    · simp at ho
      subst ho
      simp [wpOp, go_sem]
      exact .inl ⟨_, _, _, _, _, _, _, _, _, ⟨rfl, rfl, rfl, rfl, rfl, rfl, rfl, rfl, rfl⟩, { hS with h0 := fun _ => rfl }⟩
    · simp at ho
      subst ho
      obtain rfl := hS.h0 (hd ⟨0, .data⟩ (by simp) (by rfl))
      have f4 : f 4 = false := by
        cases h : f 4 with
        | false => rfl
        | true => have := (hS.h4 h).1; rw [hun] at this; cases this
      have f7 : f 7 = false := by
        cases h : f 7 with
        | false => rfl
        | true => have := (hS.h7 h).1; rw [f4] at this; cases this
      have f9 : f 9 = false := by
        cases h : f 9 with
        | false => rfl
        | true => have := (hS.h9 h).1; rw [f7] at this; cases this
      have cc : W9.cell? ⟨w.heap.size + 1 + 1 + 1, 0, none⟩ = some (.slice none 0 0) := (cell_of_row W9 _ 0 _ _ _ (hS.hz f9)).trans rfl
      simp [wpOp, go_sem, cc]
      exact .inl ⟨_, _, _, _, _, _, _, _, _, ⟨rfl, rfl, rfl, rfl, rfl, rfl, rfl, rfl, rfl⟩, { hS with h1 := (fun _ => rfl), h4 := fun k => ⟨rfl, (hS.h4 k).2⟩ }⟩
    · simp at ho
      subst ho
      simp [wpOp, go_sem]
      exact .inl ⟨_, _, _, _, _, _, _, _, _, ⟨rfl, rfl, rfl, rfl, rfl, rfl, rfl, rfl, rfl⟩, { hS with h2 := fun _ => rfl }⟩
    · simp at ho
      subst ho
      obtain rfl := hS.h2 (hd ⟨2, .data⟩ (by simp) (by rfl))
      have cc : W9.cell? ⟨w.heap.size, 0, none⟩ = some (.slice ax0 x.s.length cx0) := (cell_of_row W9 _ 0 _ _ _ qx).trans rfl
      simp [wpOp, go_sem, cc]
      exact .inl ⟨_, _, _, _, _, _, _, _, _, ⟨rfl, rfl, rfl, rfl, rfl, rfl, rfl, rfl, rfl⟩, { hS with h3 := fun _ => rfl }⟩
    · simp at ho
      subst ho
      obtain rfl := hS.h1 (hd ⟨1, .data⟩ (by simp) (by rfl))
      obtain rfl := hS.h3 (hd ⟨3, .data⟩ (by simp) (by rfl))
      have k1 : f 1 = true := hd ⟨1, .data⟩ (by simp) (by rfl)
      have f7 : f 7 = false := by
        cases h : f 7 with
        | false => rfl
        | true => have := (hS.h7 h).1; rw [hun] at this; cases this
      have f9 : f 9 = false := by
        cases h : f 9 with
        | false => rfl
        | true => have := (hS.h9 h).1; rw [f7] at this; cases this
      have hnil : IntOwn W9 W0.heap.size (.slice none 0 0) [] := World.ownsRow_nil _ _ _ _
      refine wpOp_append_nil rfl rfl _ _ rfl W0.heap.size rfl ax0 cx0 x.s rfl (Hax0.out W9 hS.bel) (by have := HSM.out; omega) hS.tw.size ?_
      intro a' c' W' hown hg
      simp [Act.put]
      exact ⟨_, _, _, _, _, _, _, _, _, ⟨rfl, rfl, rfl, rfl, rfl, rfl, rfl, rfl, rfl⟩, { hS with bel := hS.bel.trans (grown_below hnil KW0.out.size hS.bel.size hg), tw := hS.tw.grown hnil (Nat.le_refl _) hg, hz := (fun k => keep_grown (hS.hz k) hnil hzl hg), h4 := (fun _ => ⟨k1, fun _ => ⟨_, _, rfl, hown⟩⟩), h7 := (fun h => by have h : f 7 = true := h; rw [f7] at h; cases h), h9 := (fun h => by have h : f 9 = true := h; rw [f9] at h; cases h) }⟩
    · simp at ho
      subst ho
      simp [wpOp, go_sem]
      exact .inl ⟨_, _, _, _, _, _, _, _, _, ⟨rfl, rfl, rfl, rfl, rfl, rfl, rfl, rfl, rfl⟩, { hS with h5 := fun _ => rfl }⟩
    · simp at ho
      subst ho
      obtain rfl := hS.h5 (hd ⟨5, .data⟩ (by simp) (by rfl))
      have cc : W9.cell? ⟨w.heap.size + 1, 0, none⟩ = some (.slice ay0 y.s.length cy0) := (cell_of_row W9 _ 0 _ _ _ qy).trans rfl
      simp [wpOp, go_sem, cc]
      exact .inl ⟨_, _, _, _, _, _, _, _, _, ⟨rfl, rfl, rfl, rfl, rfl, rfl, rfl, rfl, rfl⟩, { hS with h6 := fun _ => rfl }⟩
    · simp at ho
      subst ho
      have k4 : f 4 = true := hd ⟨4, .data⟩ (by simp) (by rfl)
      obtain ⟨k1, h4⟩ := hS.h4 k4
      obtain ⟨a, c, rfl, h4o⟩ := h4 hun
      obtain rfl := hS.h6 (hd ⟨6, .data⟩ (by simp) (by rfl))
      have f9 : f 9 = false := by
        cases h : f 9 with
        | false => rfl
        | true => have := (hS.h9 h).1; rw [hun] at this; cases this
      refine wpOp_append_ints rfl rfl _ _ rfl W0.heap.size (.slice a x.s.length c) x.s rfl h4o ay0 cy0 y.s rfl (Hay0.out W9 hS.bel) (by have := HSM.out; omega) hS.tw.size ?_
      intro a' c' W' hown hg
      simp [Act.put]
      exact ⟨_, _, _, _, _, _, _, _, _, ⟨rfl, rfl, rfl, rfl, rfl, rfl, rfl, rfl, rfl⟩, { hS with bel := hS.bel.trans (grown_below h4o KW0.out.size hS.bel.size hg), tw := hS.tw.grown h4o (Nat.le_refl _) hg, hz := (fun k => keep_grown (hS.hz k) h4o hzl hg), h4 := (fun _ => ⟨k1, fun h => by cases h⟩), h7 := (fun _ => ⟨k4, _, _, rfl, hown⟩), h9 := (fun h => by have h : f 9 = true := h; rw [f9] at h; cases h) }⟩
    · simp at ho
      subst ho
      simp [wpOp, go_sem]
      exact .inl ⟨_, _, _, _, _, _, _, _, _, ⟨rfl, rfl, rfl, rfl, rfl, rfl, rfl, rfl, rfl⟩, { hS with h8 := fun _ => rfl }⟩
    · simp at ho
      subst ho
      have k7 : f 7 = true := hd ⟨7, .data⟩ (by simp) (by rfl)
      obtain ⟨k4, a, c, rfl, h7o⟩ := hS.h7 k7
      obtain rfl := hS.h8 (hd ⟨8, .data⟩ (by simp) (by rfl))
      have hz := hS.hz hun
      have ff : W9.frozen? ⟨w.heap.size + 1 + 1 + 1, 0, none⟩ = false := by simp [World.frozen?, hz]
      have cc : W9.cell? ⟨w.heap.size + 1 + 1 + 1, 0, none⟩ = some (.slice none 0 0) := (cell_of_row W9 _ 0 _ _ _ hz).trans rfl
      simp [wpOp, go_sem, ff, cc]
      exact .inl ⟨_, _, _, _, _, _, _, _, _, ⟨rfl, rfl, rfl, rfl, rfl, rfl, rfl, rfl, rfl⟩, { hS with bel := hS.bel.setCell (by simp <;> omega) _, tw := hS.tw.trans (Tw.setR _ _ _), hz := (fun h => by cases h), h4 := (fun k => ⟨(hS.h4 k).1, fun h => by have h : f 7 = false := h; rw [k7] at h; cases h⟩), h7 := (fun _ => ⟨k4, _, _, rfl, own_setCell h7o hzl _⟩), h9 := (fun _ => ⟨k7, a, c, by simp [World.setCell, Array.getElem?_modify, hz], own_setCell h7o hzl _⟩) }⟩
    · simp at ho
  · intro f a W9 hI hall
    obtain ⟨s6, s7, s8, s9, s10, s11, s12, s13, s14, rfl, hS⟩ := hI
    obtain ⟨-, z0, d0, hz, hown⟩ := hS.h9 (hall 9 (by decide))
    obtain ⟨W1, rfl⟩ : ∃ W1 : World, W1 = W9 := ⟨_, rfl⟩
    have KW1 := Lib.hid hS.bel
    have HGX1 := Lib.hid ((hS.tw.block _ (lt_of_block HGX0.out) (by omega) (by omega)).trans HGX0.out)
    have HGY1 := Lib.hid ((hS.tw.block _ (lt_of_block HGY0.out) (by omega) (by omega)).trans HGY0.out)
    have HR1 := Lib.hid ((hS.tw.block _ (lt_of_block HR0.out) (by omega) (by omega)).trans HR0.out)
    have HZ1 : Hid (W1.heap[w.heap.size + 1 + 1 + 1]? = some (.cells #[.slice z0 (x.s.length + y.s.length) d0, .slice none 0 0, .slice none 0 0, .slice none 0 0] 56 (0, 0))) := hz
    have HP0_1 : Hid (IntOwn W1 (w.heap.size + 1 + 1 + 1 + 1) _ _) := own_base hown (lt_of_block HZ0.out)
    clear hS hall hz hown KW0 HGX0 HGY0 HR0 HZ0
    go_upto_region 3 with fail
    refine wp_region_inv' (by kernel_rfl) (by kernel_rfl) (fun f a W9 => ∃ s15 s16 s17 s18 s19 s20 s21 s22 s23 : Value, a = { tmps := #[.agg #[.slice ax0 x.s.length cx0, .slice ax1 x.p.length cx1, .slice ax2 x.g.length cx2, .slice ax3 x.r.length cx3], .agg #[.slice ay0 y.s.length cy0, .slice ay1 y.p.length cy1, .slice ay2 y.g.length cy2, .slice ay3 y.r.length cy3], .pointer (some ⟨w.heap.size, 0, none⟩), .pointer (some ⟨w.heap.size + 1, 0, none⟩), .pointer (some ⟨w.heap.size + 1 + 1, 0, none⟩), .pointer (some ⟨w.heap.size + 1 + 1 + 1, 0, none⟩), s6, s7, s8, s9, s10, s11, s12, s13, s14, s15, s16, s17, s18, s19, s20, s21, s22, s23, undef, undef, undef, undef, undef, undef, undef, undef, undef, undef, undef, undef, undef, undef, undef, undef, undef, undef, undef], defers := [] } ∧ RJ w.heap.size w W1 (w.heap.size + 1 + 1 + 1) w.heap.size (w.heap.size + 1) 1 ax1 ay1 cx1 cy1 x.p y.p #[.slice z0 (x.s.length + y.s.length) d0, .slice none 0 0, .slice none 0 0, .slice none 0 0] (f 0) (f 1) (f 2) (f 3) (f 4) (f 5) (f 6) (f 7) (f 8) (f 9) s15 s16 s17 s18 s19 s20 s21 s22 s23 W9) ?_ ?_ ?_
    · exact ⟨_, _, _, _, _, _, _, _, _, rfl, { bel := ⟨KW1.out.os, KW1.out.tape, KW1.out.output, KW1.out.size, KW1.out.block⟩, tw := ⟨rfl, rfl, rfl, Nat.le_refl _, fun _ _ _ _ => rfl⟩, hz := fun _ => HZ1.out, h0 := by simp, h1 := by simp, h2 := by simp, h3 := by simp, h4 := by simp, h5 := by simp, h6 := by simp, h7 := by simp, h8 := by simp, h9 := by simp }⟩
    · intro i o ho f a W9 hI hd hun
      obtain ⟨s15, s16, s17, s18, s19, s20, s21, s22, s23, rfl, hS⟩ := hI
      have qx := (hS.tw.block _ (lt_of_block HGX1.out) (by omega) (by omega)).trans HGX1.out
      have qy := (hS.tw.block _ (lt_of_block HGY1.out) (by omega) (by omega)).trans HGY1.out
      have hzl := lt_of_block HZ1.out
      rcases i with _ | _ | _ | _ | _ | _ | _ | _ | _ | _ | i
      · simp at ho
        subst ho
        simp [wpOp, go_sem]
        exact .inl ⟨_, _, _, _, _, _, _, _, _, ⟨rfl, rfl, rfl, rfl, rfl, rfl, rfl, rfl, rfl⟩, { hS with h0 := fun _ => rfl }⟩
      · simp at ho
        subst ho
        obtain rfl := hS.h0 (hd ⟨0, .data⟩ (by simp) (by rfl))
        have f4 : f 4 = false := by
          cases h : f 4 with
          | false => rfl
          | true => have := (hS.h4 h).1; rw [hun] at this; cases this
        have f7 : f 7 = false := by
          cases h : f 7 with
          | false => rfl
          | true => have := (hS.h7 h).1; rw [f4] at this; cases this
        have f9 : f 9 = false := by
          cases h : f 9 with
          | false => rfl
          | true => have := (hS.h9 h).1; rw [f7] at this; cases this
        have cc : W9.cell? ⟨w.heap.size + 1 + 1 + 1, 1, none⟩ = some (.slice none 0 0) := (cell_of_row W9 _ 1 _ _ _ (hS.hz f9)).trans rfl
        simp [wpOp, go_sem, cc]
        exact .inl ⟨_, _, _, _, _, _, _, _, _, ⟨rfl, rfl, rfl, rfl, rfl, rfl, rfl, rfl, rfl⟩, { hS with h1 := (fun _ => rfl), h4 := fun k => ⟨rfl, (hS.h4 k).2⟩ }⟩
      · simp at ho
        subst ho
        simp [wpOp, go_sem]
        exact .inl ⟨_, _, _, _, _, _, _, _, _, ⟨rfl, rfl, rfl, rfl, rfl, rfl, rfl, rfl, rfl⟩, { hS with h2 := fun _ => rfl }⟩
      · simp at ho
        subst ho
        obtain rfl := hS.h2 (hd ⟨2, .data⟩ (by simp) (by rfl))
        have cc : W9.cell? ⟨w.heap.size, 1, none⟩ = some (.slice ax1 x.p.length cx1) := (cell_of_row W9 _ 1 _ _ _ qx).trans rfl
        simp [wpOp, go_sem, cc]
        exact .inl ⟨_, _, _, _, _, _, _, _, _, ⟨rfl, rfl, rfl, rfl, rfl, rfl, rfl, rfl, rfl⟩, { hS with h3 := fun _ => rfl }⟩
      · simp at ho
        subst ho
        obtain rfl := hS.h1 (hd ⟨1, .data⟩ (by simp) (by rfl))
        obtain rfl := hS.h3 (hd ⟨3, .data⟩ (by simp) (by rfl))
        have k1 : f 1 = true := hd ⟨1, .data⟩ (by simp) (by rfl)
        have f7 : f 7 = false := by
          cases h : f 7 with
          | false => rfl
          | true => have := (hS.h7 h).1; rw [hun] at this; cases this
        have f9 : f 9 = false := by
          cases h : f 9 with
          | false => rfl
          | true => have := (hS.h9 h).1; rw [f7] at this; cases this
        have hnil : IntOwn W9 W1.heap.size (.slice none 0 0) [] := World.ownsRow_nil _ _ _ _
        refine wpOp_append_nil rfl rfl _ _ rfl W1.heap.size rfl ax1 cx1 x.p rfl (Hax1.out W9 hS.bel) (by have := HSM.out; omega) hS.tw.size ?_
        intro a' c' W' hown hg
        simp [Act.put]
        exact ⟨_, _, _, _, _, _, _, _, _, ⟨rfl, rfl, rfl, rfl, rfl, rfl, rfl, rfl, rfl⟩, { hS with bel := hS.bel.trans (grown_below hnil KW1.out.size hS.bel.size hg), tw := hS.tw.grown hnil (Nat.le_refl _) hg, hz := (fun k => keep_grown (hS.hz k) hnil hzl hg), h4 := (fun _ => ⟨k1, fun _ => ⟨_, _, rfl, hown⟩⟩), h7 := (fun h => by have h : f 7 = true := h; rw [f7] at h; cases h), h9 := (fun h => by have h : f 9 = true := h; rw [f9] at h; cases h) }⟩
      · simp at ho
        subst ho
        simp [wpOp, go_sem]
        exact .inl ⟨_, _, _, _, _, _, _, _, _, ⟨rfl, rfl, rfl, rfl, rfl, rfl, rfl, rfl, rfl⟩, { hS with h5 := fun _ => rfl }⟩
      · simp at ho
        subst ho
        obtain rfl := hS.h5 (hd ⟨5, .data⟩ (by simp) (by rfl))
        have cc : W9.cell? ⟨w.heap.size + 1, 1, none⟩ = some (.slice ay1 y.p.length cy1) := (cell_of_row W9 _ 1 _ _ _ qy).trans rfl
        simp [wpOp, go_sem, cc]
        exact .inl ⟨_, _, _, _, _, _, _, _, _, ⟨rfl, rfl, rfl, rfl, rfl, rfl, rfl, rfl, rfl⟩, { hS with h6 := fun _ => rfl }⟩
      · simp at ho
        subst ho
        have k4 : f 4 = true := hd ⟨4, .data⟩ (by simp) (by rfl)
        obtain ⟨k1, h4⟩ := hS.h4 k4
        obtain ⟨a, c, rfl, h4o⟩ := h4 hun
        obtain rfl := hS.h6 (hd ⟨6, .data⟩ (by simp) (by rfl))
        have f9 : f 9 = false := by
          cases h : f 9 with
          | false => rfl
          | true => have := (hS.h9 h).1; rw [hun] at this; cases this
        refine wpOp_append_ints rfl rfl _ _ rfl W1.heap.size (.slice a x.p.length c) x.p rfl h4o ay1 cy1 y.p rfl (Hay1.out W9 hS.bel) (by have := HSM.out; omega) hS.tw.size ?_
        intro a' c' W' hown hg
        simp [Act.put]
        exact ⟨_, _, _, _, _, _, _, _, _, ⟨rfl, rfl, rfl, rfl, rfl, rfl, rfl, rfl, rfl⟩, { hS with bel := hS.bel.trans (grown_below h4o KW1.out.size hS.bel.size hg), tw := hS.tw.grown h4o (Nat.le_refl _) hg, hz := (fun k => keep_grown (hS.hz k) h4o hzl hg), h4 := (fun _ => ⟨k1, fun h => by cases h⟩), h7 := (fun _ => ⟨k4, _, _, rfl, hown⟩), h9 := (fun h => by have h : f 9 = true := h; rw [f9] at h; cases h) }⟩
      · simp at ho
        subst ho
        simp [wpOp, go_sem]
        exact .inl ⟨_, _, _, _, _, _, _, _, _, ⟨rfl, rfl, rfl, rfl, rfl, rfl, rfl, rfl, rfl⟩, { hS with h8 := fun _ => rfl }⟩
      · simp at ho
        subst ho
        have k7 : f 7 = true := hd ⟨7, .data⟩ (by simp) (by rfl)
        obtain ⟨k4, a, c, rfl, h7o⟩ := hS.h7 k7
        obtain rfl := hS.h8 (hd ⟨8, .data⟩ (by simp) (by rfl))
        have hz := hS.hz hun
        have ff : W9.frozen? ⟨w.heap.size + 1 + 1 + 1, 1, none⟩ = false := by simp [World.frozen?, hz]
        have cc : W9.cell? ⟨w.heap.size + 1 + 1 + 1, 1, none⟩ = some (.slice none 0 0) := (cell_of_row W9 _ 1 _ _ _ hz).trans rfl
        simp [wpOp, go_sem, ff, cc]
        exact .inl ⟨_, _, _, _, _, _, _, _, _, ⟨rfl, rfl, rfl, rfl, rfl, rfl, rfl, rfl, rfl⟩, { hS with bel := hS.bel.setCell (by simp <;> omega) _, tw := hS.tw.trans (Tw.setR _ _ _), hz := (fun h => by cases h), h4 := (fun k => ⟨(hS.h4 k).1, fun h => by have h : f 7 = false := h; rw [k7] at h; cases h⟩), h7 := (fun _ => ⟨k4, _, _, rfl, own_setCell h7o hzl _⟩), h9 := (fun _ => ⟨k7, a, c, by simp [World.setCell, Array.getElem?_modify, hz], own_setCell h7o hzl _⟩) }⟩
      · simp at ho
    · intro f a W9 hI hall
      obtain ⟨s15, s16, s17, s18, s19, s20, s21, s22, s23, rfl, hS⟩ := hI
      obtain ⟨-, z1, d1, hz, hown⟩ := hS.h9 (hall 9 (by decide))
      obtain ⟨W2, rfl⟩ : ∃ W2 : World, W2 = W9 := ⟨_, rfl⟩
      have KW2 := Lib.hid hS.bel
      have HGX2 := Lib.hid ((hS.tw.block _ (lt_of_block HGX1.out) (by omega) (by omega)).trans HGX1.out)
      have HGY2 := Lib.hid ((hS.tw.block _ (lt_of_block HGY1.out) (by omega) (by omega)).trans HGY1.out)
      have HR2 := Lib.hid ((hS.tw.block _ (lt_of_block HR1.out) (by omega) (by omega)).trans HR1.out)
      have HZ2 : Hid (W2.heap[w.heap.size + 1 + 1 + 1]? = some (.cells #[.slice z0 (x.s.length + y.s.length) d0, .slice z1 (x.p.length + y.p.length) d1, .slice none 0 0, .slice none 0 0] 56 (0, 0))) := hz
      have HP0_2 : Hid (IntOwn W2 _ _ _) := own_tw HP0_1.out HZ1.out hS.tw
      have HP1_2 : Hid (IntOwn W2 (w.heap.size + 1 + 1 + 1 + 1) _ _) := own_base hown (lt_of_block HZ1.out)
      clear hS hall hz hown KW1 HGX1 HGY1 HR1 HZ1 HP0_1
      go_upto_region 4 with fail
      refine wp_region_inv' (by kernel_rfl) (by kernel_rfl) (fun f a W9 => ∃ s24 s25 s26 s27 s28 s29 s30 s31 s32 : Value, a = { tmps := #[.agg #[.slice ax0 x.s.length cx0, .slice ax1 x.p.length cx1, .slice ax2 x.g.length cx2, .slice ax3 x.r.length cx3], .agg #[.slice ay0 y.s.length cy0, .slice ay1 y.p.length cy1, .slice ay2 y.g.length cy2, .slice ay3 y.r.length cy3], .pointer (some ⟨w.heap.size, 0, none⟩), .pointer (some ⟨w.heap.size + 1, 0, none⟩), .pointer (some ⟨w.heap.size + 1 + 1, 0, none⟩), .pointer (some ⟨w.heap.size + 1 + 1 + 1, 0, none⟩), s6, s7, s8, s9, s10, s11, s12, s13, s14, s15, s16, s17, s18, s19, s20, s21, s22, s23, s24, s25, s26, s27, s28, s29, s30, s31, s32, undef, undef, undef, undef, undef, undef, undef, undef, undef, undef], defers := [] } ∧ RJ w.heap.size w W2 (w.heap.size + 1 + 1 + 1) w.heap.size (w.heap.size + 1) 2 ax2 ay2 cx2 cy2 x.g y.g #[.slice z0 (x.s.length + y.s.length) d0, .slice z1 (x.p.length + y.p.length) d1, .slice none 0 0, .slice none 0 0] (f 0) (f 1) (f 2) (f 3) (f 4) (f 5) (f 6) (f 7) (f 8) (f 9) s24 s25 s26 s27 s28 s29 s30 s31 s32 W9) ?_ ?_ ?_
      · exact ⟨_, _, _, _, _, _, _, _, _, rfl, { bel := ⟨KW2.out.os, KW2.out.tape, KW2.out.output, KW2.out.size, KW2.out.block⟩, tw := ⟨rfl, rfl, rfl, Nat.le_refl _, fun _ _ _ _ => rfl⟩, hz := fun _ => HZ2.out, h0 := by simp, h1 := by simp, h2 := by simp, h3 := by simp, h4 := by simp, h5 := by simp, h6 := by simp, h7 := by simp, h8 := by simp, h9 := by simp }⟩
      · intro i o ho f a W9 hI hd hun
        obtain ⟨s24, s25, s26, s27, s28, s29, s30, s31, s32, rfl, hS⟩ := hI
        have qx := (hS.tw.block _ (lt_of_block HGX2.out) (by omega) (by omega)).trans HGX2.out
        have qy := (hS.tw.block _ (lt_of_block HGY2.out) (by omega) (by omega)).trans HGY2.out
        have hzl := lt_of_block HZ2.out
        rcases i with _ | _ | _ | _ | _ | _ | _ | _ | _ | _ | i
        · simp at ho
          subst ho
          simp [wpOp, go_sem]
          exact .inl ⟨_, _, _, _, _, _, _, _, _, ⟨rfl, rfl, rfl, rfl, rfl, rfl, rfl, rfl, rfl⟩, { hS with h0 := fun _ => rfl }⟩
        · simp at ho
          subst ho
          obtain rfl := hS.h0 (hd ⟨0, .data⟩ (by simp) (by rfl))
          have f4 : f 4 = false := by
            cases h : f 4 with
            | false => rfl
            | true => have := (hS.h4 h).1; rw [hun] at this; cases this
          have f7 : f 7 = false := by
            cases h : f 7 with
            | false => rfl
            | true => have := (hS.h7 h).1; rw [f4] at this; cases this
          have f9 : f 9 = false := by
            cases h : f 9 with
            | false => rfl
            | true => have := (hS.h9 h).1; rw [f7] at this; cases this
          have cc : W9.cell? ⟨w.heap.size + 1 + 1 + 1, 2, none⟩ = some (.slice none 0 0) := (cell_of_row W9 _ 2 _ _ _ (hS.hz f9)).trans rfl
          simp [wpOp, go_sem, cc]
          exact .inl ⟨_, _, _, _, _, _, _, _, _, ⟨rfl, rfl, rfl, rfl, rfl, rfl, rfl, rfl, rfl⟩, { hS with h1 := (fun _ => rfl), h4 := fun k => ⟨rfl, (hS.h4 k).2⟩ }⟩
        · simp at ho
          subst ho
          simp [wpOp, go_sem]
          exact .inl ⟨_, _, _, _, _, _, _, _, _, ⟨rfl, rfl, rfl, rfl, rfl, rfl, rfl, rfl, rfl⟩, { hS with h2 := fun _ => rfl }⟩
        · simp at ho
          subst ho
          obtain rfl := hS.h2 (hd ⟨2, .data⟩ (by simp) (by rfl))
          have cc : W9.cell? ⟨w.heap.size, 2, none⟩ = some (.slice ax2 x.g.length cx2) := (cell_of_row W9 _ 2 _ _ _ qx).trans rfl
          simp [wpOp, go_sem, cc]
          exact .inl ⟨_, _, _, _, _, _, _, _, _, ⟨rfl, rfl, rfl, rfl, rfl, rfl, rfl, rfl, rfl⟩, { hS with h3 := fun _ => rfl }⟩
        · simp at ho
          subst ho
          obtain rfl := hS.h1 (hd ⟨1, .data⟩ (by simp) (by rfl))
          obtain rfl := hS.h3 (hd ⟨3, .data⟩ (by simp) (by rfl))
          have k1 : f 1 = true := hd ⟨1, .data⟩ (by simp) (by rfl)
          have f7 : f 7 = false := by
            cases h : f 7 with
            | false => rfl
            | true => have := (hS.h7 h).1; rw [hun] at this; cases this
          have f9 : f 9 = false := by
            cases h : f 9 with
            | false => rfl
            | true => have := (hS.h9 h).1; rw [f7] at this; cases this
          have hnil : IntOwn W9 W2.heap.size (.slice none 0 0) [] := World.ownsRow_nil _ _ _ _
          refine wpOp_append_nil rfl rfl _ _ rfl W2.heap.size rfl ax2 cx2 x.g rfl (Hax2.out W9 hS.bel) (by have := HSM.out; omega) hS.tw.size ?_
          intro a' c' W' hown hg
          simp [Act.put]
          exact ⟨_, _, _, _, _, _, _, _, _, ⟨rfl, rfl, rfl, rfl, rfl, rfl, rfl, rfl, rfl⟩, { hS with bel := hS.bel.trans (grown_below hnil KW2.out.size hS.bel.size hg), tw := hS.tw.grown hnil (Nat.le_refl _) hg, hz := (fun k => keep_grown (hS.hz k) hnil hzl hg), h4 := (fun _ => ⟨k1, fun _ => ⟨_, _, rfl, hown⟩⟩), h7 := (fun h => by have h : f 7 = true := h; rw [f7] at h; cases h), h9 := (fun h => by have h : f 9 = true := h; rw [f9] at h; cases h) }⟩
        · simp at ho
          subst ho
          simp [wpOp, go_sem]
          exact .inl ⟨_, _, _, _, _, _, _, _, _, ⟨rfl, rfl, rfl, rfl, rfl, rfl, rfl, rfl, rfl⟩, { hS with h5 := fun _ => rfl }⟩
        · simp at ho
          subst ho
          obtain rfl := hS.h5 (hd ⟨5, .data⟩ (by simp) (by rfl))
          have cc : W9.cell? ⟨w.heap.size + 1, 2, none⟩ = some (.slice ay2 y.g.length cy2) := (cell_of_row W9 _ 2 _ _ _ qy).trans rfl
          simp [wpOp, go_sem, cc]
          exact .inl ⟨_, _, _, _, _, _, _, _, _, ⟨rfl, rfl, rfl, rfl, rfl, rfl, rfl, rfl, rfl⟩, { hS with h6 := fun _ => rfl }⟩
        · simp at ho
          subst ho
          have k4 : f 4 = true := hd ⟨4, .data⟩ (by simp) (by rfl)
          obtain ⟨k1, h4⟩ := hS.h4 k4
          obtain ⟨a, c, rfl, h4o⟩ := h4 hun
          obtain rfl := hS.h6 (hd ⟨6, .data⟩ (by simp) (by rfl))
          have f9 : f 9 = false := by
            cases h : f 9 with
            | false => rfl
            | true => have := (hS.h9 h).1; rw [hun] at this; cases this
          refine wpOp_append_ints rfl rfl _ _ rfl W2.heap.size (.slice a x.g.length c) x.g rfl h4o ay2 cy2 y.g rfl (Hay2.out W9 hS.bel) (by have := HSM.out; omega) hS.tw.size ?_
          intro a' c' W' hown hg
          simp [Act.put]
          exact ⟨_, _, _, _, _, _, _, _, _, ⟨rfl, rfl, rfl, rfl, rfl, rfl, rfl, rfl, rfl⟩, { hS with bel := hS.bel.trans (grown_below h4o KW2.out.size hS.bel.size hg), tw := hS.tw.grown h4o (Nat.le_refl _) hg, hz := (fun k => keep_grown (hS.hz k) h4o hzl hg), h4 := (fun _ => ⟨k1, fun h => by cases h⟩), h7 := (fun _ => ⟨k4, _, _, rfl, hown⟩), h9 := (fun h => by have h : f 9 = true := h; rw [f9] at h; cases h) }⟩
        · simp at ho
          subst ho
          simp [wpOp, go_sem]
          exact .inl ⟨_, _, _, _, _, _, _, _, _, ⟨rfl, rfl, rfl, rfl, rfl, rfl, rfl, rfl, rfl⟩, { hS with h8 := fun _ => rfl }⟩
        · simp at ho
          subst ho
          have k7 : f 7 = true := hd ⟨7, .data⟩ (by simp) (by rfl)
          obtain ⟨k4, a, c, rfl, h7o⟩ := hS.h7 k7
          obtain rfl := hS.h8 (hd ⟨8, .data⟩ (by simp) (by rfl))
          have hz := hS.hz hun
          have ff : W9.frozen? ⟨w.heap.size + 1 + 1 + 1, 2, none⟩ = false := by simp [World.frozen?, hz]
          have cc : W9.cell? ⟨w.heap.size + 1 + 1 + 1, 2, none⟩ = some (.slice none 0 0) := (cell_of_row W9 _ 2 _ _ _ hz).trans rfl
          simp [wpOp, go_sem, ff, cc]
          exact .inl ⟨_, _, _, _, _, _, _, _, _, ⟨rfl, rfl, rfl, rfl, rfl, rfl, rfl, rfl, rfl⟩, { hS with bel := hS.bel.setCell (by simp <;> omega) _, tw := hS.tw.trans (Tw.setR _ _ _), hz := (fun h => by cases h), h4 := (fun k => ⟨(hS.h4 k).1, fun h => by have h : f 7 = false := h; rw [k7] at h; cases h⟩), h7 := (fun _ => ⟨k4, _, _, rfl, own_setCell h7o hzl _⟩), h9 := (fun _ => ⟨k7, a, c, by simp [World.setCell, Array.getElem?_modify, hz], own_setCell h7o hzl _⟩) }⟩
        · simp at ho
      · intro f a W9 hI hall
        obtain ⟨s24, s25, s26, s27, s28, s29, s30, s31, s32, rfl, hS⟩ := hI
        obtain ⟨-, z2, d2, hz, hown⟩ := hS.h9 (hall 9 (by decide))
        obtain ⟨W3, rfl⟩ : ∃ W3 : World, W3 = W9 := ⟨_, rfl⟩
        have KW3 := Lib.hid hS.bel
        have HGX3 := Lib.hid ((hS.tw.block _ (lt_of_block HGX2.out) (by omega) (by omega)).trans HGX2.out)
        have HGY3 := Lib.hid ((hS.tw.block _ (lt_of_block HGY2.out) (by omega) (by omega)).trans HGY2.out)
        have HR3 := Lib.hid ((hS.tw.block _ (lt_of_block HR2.out) (by omega) (by omega)).trans HR2.out)
        have HZ3 : Hid (W3.heap[w.heap.size + 1 + 1 + 1]? = some (.cells #[.slice z0 (x.s.length + y.s.length) d0, .slice z1 (x.p.length + y.p.length) d1, .slice z2 (x.g.length + y.g.length) d2, .slice none 0 0] 56 (0, 0))) := hz
        have HP0_3 : Hid (IntOwn W3 _ _ _) := own_tw HP0_2.out HZ2.out hS.tw
        have HP1_3 : Hid (IntOwn W3 _ _ _) := own_tw HP1_2.out HZ2.out hS.tw
        have HP2_3 : Hid (IntOwn W3 (w.heap.size + 1 + 1 + 1 + 1) _ _) := own_base hown (lt_of_block HZ2.out)
        clear hS hall hz hown KW2 HGX2 HGY2 HR2 HZ2 HP0_2 HP1_2
        go_upto_region 5 with fail
        refine wp_region_inv' (by kernel_rfl) (by kernel_rfl) (fun f a W9 => ∃ s33 s34 s35 s36 s37 s38 s39 s40 s41 : Value, a = { tmps := #[.agg #[.slice ax0 x.s.length cx0, .slice ax1 x.p.length cx1, .slice ax2 x.g.length cx2, .slice ax3 x.r.length cx3], .agg #[.slice ay0 y.s.length cy0, .slice ay1 y.p.length cy1, .slice ay2 y.g.length cy2, .slice ay3 y.r.length cy3], .pointer (some ⟨w.heap.size, 0, none⟩), .pointer (some ⟨w.heap.size + 1, 0, none⟩), .pointer (some ⟨w.heap.size + 1 + 1, 0, none⟩), .pointer (some ⟨w.heap.size + 1 + 1 + 1, 0, none⟩), s6, s7, s8, s9, s10, s11, s12, s13, s14, s15, s16, s17, s18, s19, s20, s21, s22, s23, s24, s25, s26, s27, s28, s29, s30, s31, s32, s33, s34, s35, s36, s37, s38, s39, s40, s41, undef], defers := [] } ∧ RJ w.heap.size w W3 (w.heap.size + 1 + 1 + 1) w.heap.size (w.heap.size + 1) 3 ax3 ay3 cx3 cy3 x.r y.r #[.slice z0 (x.s.length + y.s.length) d0, .slice z1 (x.p.length + y.p.length) d1, .slice z2 (x.g.length + y.g.length) d2, .slice none 0 0] (f 0) (f 1) (f 2) (f 3) (f 4) (f 5) (f 6) (f 7) (f 8) (f 9) s33 s34 s35 s36 s37 s38 s39 s40 s41 W9) ?_ ?_ ?_
        · exact ⟨_, _, _, _, _, _, _, _, _, rfl, { bel := ⟨KW3.out.os, KW3.out.tape, KW3.out.output, KW3.out.size, KW3.out.block⟩, tw := ⟨rfl, rfl, rfl, Nat.le_refl _, fun _ _ _ _ => rfl⟩, hz := fun _ => HZ3.out, h0 := by simp, h1 := by simp, h2 := by simp, h3 := by simp, h4 := by simp, h5 := by simp, h6 := by simp, h7 := by simp, h8 := by simp, h9 := by simp }⟩
        · intro i o ho f a W9 hI hd hun
          obtain ⟨s33, s34, s35, s36, s37, s38, s39, s40, s41, rfl, hS⟩ := hI
          have qx := (hS.tw.block _ (lt_of_block HGX3.out) (by omega) (by omega)).trans HGX3.out
          have qy := (hS.tw.block _ (lt_of_block HGY3.out) (by omega) (by omega)).trans HGY3.out
          have hzl := lt_of_block HZ3.out
          rcases i with _ | _ | _ | _ | _ | _ | _ | _ | _ | _ | i
          · simp at ho
            subst ho
            simp [wpOp, go_sem]
            exact .inl ⟨_, _, _, _, _, _, _, _, _, ⟨rfl, rfl, rfl, rfl, rfl, rfl, rfl, rfl, rfl⟩, { hS with h0 := fun _ => rfl }⟩
          · simp at ho
            subst ho
            obtain rfl := hS.h0 (hd ⟨0, .data⟩ (by simp) (by rfl))
            have f4 : f 4 = false := by
              cases h : f 4 with
              | false => rfl
              | true => have := (hS.h4 h).1; rw [hun] at this; cases this
            have f7 : f 7 = false := by
              cases h : f 7 with
              | false => rfl
              | true => have := (hS.h7 h).1; rw [f4] at this; cases this
            have f9 : f 9 = false := by
              cases h : f 9 with
              | false => rfl
              | true => have := (hS.h9 h).1; rw [f7] at this; cases this
            have cc : W9.cell? ⟨w.heap.size + 1 + 1 + 1, 3, none⟩ = some (.slice none 0 0) := (cell_of_row W9 _ 3 _ _ _ (hS.hz f9)).trans rfl
            simp [wpOp, go_sem, cc]
            exact .inl ⟨_, _, _, _, _, _, _, _, _, ⟨rfl, rfl, rfl, rfl, rfl, rfl, rfl, rfl, rfl⟩, { hS with h1 := (fun _ => rfl), h4 := fun k => ⟨rfl, (hS.h4 k).2⟩ }⟩
          · simp at ho
            subst ho
            simp [wpOp, go_sem]
            exact .inl ⟨_, _, _, _, _, _, _, _, _, ⟨rfl, rfl, rfl, rfl, rfl, rfl, rfl, rfl, rfl⟩, { hS with h2 := fun _ => rfl }⟩
          · simp at ho
            subst ho
            obtain rfl := hS.h2 (hd ⟨2, .data⟩ (by simp) (by rfl))
            have cc : W9.cell? ⟨w.heap.size, 3, none⟩ = some (.slice ax3 x.r.length cx3) := (cell_of_row W9 _ 3 _ _ _ qx).trans rfl
            simp [wpOp, go_sem, cc]
            exact .inl ⟨_, _, _, _, _, _, _, _, _, ⟨rfl, rfl, rfl, rfl, rfl, rfl, rfl, rfl, rfl⟩, { hS with h3 := fun _ => rfl }⟩
          · simp at ho
            subst ho
            obtain rfl := hS.h1 (hd ⟨1, .data⟩ (by simp) (by rfl))
            obtain rfl := hS.h3 (hd ⟨3, .data⟩ (by simp) (by rfl))
            have k1 : f 1 = true := hd ⟨1, .data⟩ (by simp) (by rfl)
            have f7 : f 7 = false := by
              cases h : f 7 with
              | false => rfl
              | true => have := (hS.h7 h).1; rw [hun] at this; cases this
            have f9 : f 9 = false := by
              cases h : f 9 with
              | false => rfl
              | true => have := (hS.h9 h).1; rw [f7] at this; cases this
            have hnil : IntOwn W9 W3.heap.size (.slice none 0 0) [] := World.ownsRow_nil _ _ _ _
            refine wpOp_append_nil rfl rfl _ _ rfl W3.heap.size rfl ax3 cx3 x.r rfl (Hax3.out W9 hS.bel) (by have := HSM.out; omega) hS.tw.size ?_
            intro a' c' W' hown hg
            simp [Act.put]
            exact ⟨_, _, _, _, _, _, _, _, _, ⟨rfl, rfl, rfl, rfl, rfl, rfl, rfl, rfl, rfl⟩, { hS with bel := hS.bel.trans (grown_below hnil KW3.out.size hS.bel.size hg), tw := hS.tw.grown hnil (Nat.le_refl _) hg, hz := (fun k => keep_grown (hS.hz k) hnil hzl hg), h4 := (fun _ => ⟨k1, fun _ => ⟨_, _, rfl, hown⟩⟩), h7 := (fun h => by have h : f 7 = true := h; rw [f7] at h; cases h), h9 := (fun h => by have h : f 9 = true := h; rw [f9] at h; cases h) }⟩
          · simp at ho
            subst ho
            simp [wpOp, go_sem]
            exact .inl ⟨_, _, _, _, _, _, _, _, _, ⟨rfl, rfl, rfl, rfl, rfl, rfl, rfl, rfl, rfl⟩, { hS with h5 := fun _ => rfl }⟩
          · simp at ho
            subst ho
            obtain rfl := hS.h5 (hd ⟨5, .data⟩ (by simp) (by rfl))
            have cc : W9.cell? ⟨w.heap.size + 1, 3, none⟩ = some (.slice ay3 y.r.length cy3) := (cell_of_row W9 _ 3 _ _ _ qy).trans rfl
            simp [wpOp, go_sem, cc]
            exact .inl ⟨_, _, _, _, _, _, _, _, _, ⟨rfl, rfl, rfl, rfl, rfl, rfl, rfl, rfl, rfl⟩, { hS with h6 := fun _ => rfl }⟩
          · simp at ho
            subst ho
            have k4 : f 4 = true := hd ⟨4, .data⟩ (by simp) (by rfl)
            obtain ⟨k1, h4⟩ := hS.h4 k4
            obtain ⟨a, c, rfl, h4o⟩ := h4 hun
            obtain rfl := hS.h6 (hd ⟨6, .data⟩ (by simp) (by rfl))
            have f9 : f 9 = false := by
              cases h : f 9 with
              | false => rfl
              | true => have := (hS.h9 h).1; rw [hun] at this; cases this
            refine wpOp_append_ints rfl rfl _ _ rfl W3.heap.size (.slice a x.r.length c) x.r rfl h4o ay3 cy3 y.r rfl (Hay3.out W9 hS.bel) (by have := HSM.out; omega) hS.tw.size ?_
            intro a' c' W' hown hg
            simp [Act.put]
            exact ⟨_, _, _, _, _, _, _, _, _, ⟨rfl, rfl, rfl, rfl, rfl, rfl, rfl, rfl, rfl⟩, { hS with bel := hS.bel.trans (grown_below h4o KW3.out.size hS.bel.size hg), tw := hS.tw.grown h4o (Nat.le_refl _) hg, hz := (fun k => keep_grown (hS.hz k) h4o hzl hg), h4 := (fun _ => ⟨k1, fun h => by cases h⟩), h7 := (fun _ => ⟨k4, _, _, rfl, hown⟩), h9 := (fun h => by have h : f 9 = true := h; rw [f9] at h; cases h) }⟩
          · simp at ho
            subst ho
            simp [wpOp, go_sem]
            exact .inl ⟨_, _, _, _, _, _, _, _, _, ⟨rfl, rfl, rfl, rfl, rfl, rfl, rfl, rfl, rfl⟩, { hS with h8 := fun _ => rfl }⟩
          · simp at ho
            subst ho
            have k7 : f 7 = true := hd ⟨7, .data⟩ (by simp) (by rfl)
            obtain ⟨k4, a, c, rfl, h7o⟩ := hS.h7 k7
            obtain rfl := hS.h8 (hd ⟨8, .data⟩ (by simp) (by rfl))
            have hz := hS.hz hun
            have ff : W9.frozen? ⟨w.heap.size + 1 + 1 + 1, 3, none⟩ = false := by simp [World.frozen?, hz]
            have cc : W9.cell? ⟨w.heap.size + 1 + 1 + 1, 3, none⟩ = some (.slice none 0 0) := (cell_of_row W9 _ 3 _ _ _ hz).trans rfl
            simp [wpOp, go_sem, ff, cc]
            exact .inl ⟨_, _, _, _, _, _, _, _, _, ⟨rfl, rfl, rfl, rfl, rfl, rfl, rfl, rfl, rfl⟩, { hS with bel := hS.bel.setCell (by simp <;> omega) _, tw := hS.tw.trans (Tw.setR _ _ _), hz := (fun h => by cases h), h4 := (fun k => ⟨(hS.h4 k).1, fun h => by have h : f 7 = false := h; rw [k7] at h; cases h⟩), h7 := (fun _ => ⟨k4, _, _, rfl, own_setCell h7o hzl _⟩), h9 := (fun _ => ⟨k7, a, c, by simp [World.setCell, Array.getElem?_modify, hz], own_setCell h7o hzl _⟩) }⟩
          · simp at ho
        · intro f a W9 hI hall
          obtain ⟨s33, s34, s35, s36, s37, s38, s39, s40, s41, rfl, hS⟩ := hI
          obtain ⟨-, z3, d3, hz, hown⟩ := hS.h9 (hall 9 (by decide))
          obtain ⟨W4, rfl⟩ : ∃ W4 : World, W4 = W9 := ⟨_, rfl⟩
          have KW4 := Lib.hid hS.bel
          have HGX4 := Lib.hid ((hS.tw.block _ (lt_of_block HGX3.out) (by omega) (by omega)).trans HGX3.out)
          have HGY4 := Lib.hid ((hS.tw.block _ (lt_of_block HGY3.out) (by omega) (by omega)).trans HGY3.out)
          have HR4 := Lib.hid ((hS.tw.block _ (lt_of_block HR3.out) (by omega) (by omega)).trans HR3.out)
          have HZ4 : Hid (W4.heap[w.heap.size + 1 + 1 + 1]? = some (.cells #[.slice z0 (x.s.length + y.s.length) d0, .slice z1 (x.p.length + y.p.length) d1, .slice z2 (x.g.length + y.g.length) d2, .slice z3 (x.r.length + y.r.length) d3] 56 (0, 0))) := hz
          have HP0_4 : Hid (IntOwn W4 _ _ _) := own_tw HP0_3.out HZ3.out hS.tw
          have HP1_4 : Hid (IntOwn W4 _ _ _) := own_tw HP1_3.out HZ3.out hS.tw
          have HP2_4 : Hid (IntOwn W4 _ _ _) := own_tw HP2_3.out HZ3.out hS.tw
          have HP3_4 : Hid (IntOwn W4 (w.heap.size + 1 + 1 + 1 + 1) _ _) := own_base hown (lt_of_block HZ3.out)
          clear hS hall hz hown KW3 HGX3 HGY3 HR3 HZ3 HP0_3 HP1_3 HP2_3
          have hr := HR4.out
          have hz := HZ4.out
          have rr0 : W4.cell? ⟨w.heap.size + 1 + 1, 0, none⟩ = some (.slice none 0 0) := (cell_of_row W4 _ 0 _ _ _ hr).trans rfl
          have zz0 : W4.cell? ⟨w.heap.size + 1 + 1 + 1, 0, none⟩ = some (.slice z0 (x.s.length + y.s.length) d0) := (cell_of_row W4 _ 0 _ _ _ hz).trans rfl
          have rr1 : W4.cell? ⟨w.heap.size + 1 + 1, 1, none⟩ = some (.slice none 0 0) := (cell_of_row W4 _ 1 _ _ _ hr).trans rfl
          have zz1 : W4.cell? ⟨w.heap.size + 1 + 1 + 1, 1, none⟩ = some (.slice z1 (x.p.length + y.p.length) d1) := (cell_of_row W4 _ 1 _ _ _ hz).trans rfl
          have rr2 : W4.cell? ⟨w.heap.size + 1 + 1, 2, none⟩ = some (.slice none 0 0) := (cell_of_row W4 _ 2 _ _ _ hr).trans rfl
          have zz2 : W4.cell? ⟨w.heap.size + 1 + 1 + 1, 2, none⟩ = some (.slice z2 (x.g.length + y.g.length) d2) := (cell_of_row W4 _ 2 _ _ _ hz).trans rfl
          have rr3 : W4.cell? ⟨w.heap.size + 1 + 1, 3, none⟩ = some (.slice none 0 0) := (cell_of_row W4 _ 3 _ _ _ hr).trans rfl
          have zz3 : W4.cell? ⟨w.heap.size + 1 + 1 + 1, 3, none⟩ = some (.slice z3 (x.r.length + y.r.length) d3) := (cell_of_row W4 _ 3 _ _ _ hz).trans rfl
          have rf : ∀ o, W4.frozen? ⟨w.heap.size + 1 + 1, o, none⟩ = false := fun o => by simp [World.frozen?, hr]
          have lr := lt_of_block hr
          clear hr hz
          go_wp2_with fail
          generalize hWE : World.setCell _ _ _ = WE
          have hE : WE.heap[w.heap.size + 1 + 1]? = some (.cells #[.slice z0 (x.s.length + y.s.length) d0, .slice z1 (x.p.length + y.p.length) d1, .slice z2 (x.g.length + y.g.length) d2, .slice z3 (x.r.length + y.r.length) d3] 56 (0, 0)) := by
            rw [← hWE]; simp [World.setCell, Array.getElem?_modify, HR4.out]
          have ee0 : WE.cell? ⟨w.heap.size + 1 + 1, 0, none⟩ = some (.slice z0 (x.s.length + y.s.length) d0) := (cell_of_row WE _ 0 _ _ _ hE).trans rfl
          have ee1 : WE.cell? ⟨w.heap.size + 1 + 1, 1, none⟩ = some (.slice z1 (x.p.length + y.p.length) d1) := (cell_of_row WE _ 1 _ _ _ hE).trans rfl
          have ee2 : WE.cell? ⟨w.heap.size + 1 + 1, 2, none⟩ = some (.slice z2 (x.g.length + y.g.length) d2) := (cell_of_row WE _ 2 _ _ _ hE).trans rfl
          have ee3 : WE.cell? ⟨w.heap.size + 1 + 1, 3, none⟩ = some (.slice z3 (x.r.length + y.r.length) d3) := (cell_of_row WE _ 3 _ _ _ hE).trans rfl
          have hP0 : ILv WE (.slice z0 (x.s.length + y.s.length) d0) (x.s ++ y.s) := by rw [← hWE]; exact ilv_of_own (own_setCell (own_setCell (own_setCell (own_setCell HP0_4.out (by simp <;> omega) _) (by simp <;> omega) _) (by simp <;> omega) _) (by simp <;> omega) _)
          have hP1 : ILv WE (.slice z1 (x.p.length + y.p.length) d1) (x.p ++ y.p) := by rw [← hWE]; exact ilv_of_own (own_setCell (own_setCell (own_setCell (own_setCell HP1_4.out (by simp <;> omega) _) (by simp <;> omega) _) (by simp <;> omega) _) (by simp <;> omega) _)
          have hP2 : ILv WE (.slice z2 (x.g.length + y.g.length) d2) (x.g ++ y.g) := by rw [← hWE]; exact ilv_of_own (own_setCell (own_setCell (own_setCell (own_setCell HP2_4.out (by simp <;> omega) _) (by simp <;> omega) _) (by simp <;> omega) _) (by simp <;> omega) _)
          have hP3 : ILv WE (.slice z3 (x.r.length + y.r.length) d3) (x.r ++ y.r) := by rw [← hWE]; exact ilv_of_own (own_setCell (own_setCell (own_setCell (own_setCell HP3_4.out (by simp <;> omega) _) (by simp <;> omega) _) (by simp <;> omega) _) (by simp <;> omega) _)
          have hB : Below w.heap.size w WE := by rw [← hWE]; exact (((KW4.out.setCell (by simp <;> omega) _).setCell (by simp <;> omega) _).setCell (by simp <;> omega) _).setCell (by simp <;> omega) _
          exact bodyPost_ret (v := .agg #[.slice z0 (x.s.length + y.s.length) d0, .slice z1 (x.p.length + y.p.length) d1, .slice z2 (x.g.length + y.g.length) d2, .slice z3 (x.r.length + y.r.length) d3]) (by simp [results, Tryz.f45, go_sem, ee0, ee1, ee2, ee3]) rfl ⟨_, _, _, _, rfl, ⟨hP0, hP1, hP2, hP3⟩, hB⟩
end Go.Proofs.YtbiehpjhhopjaaaGreat
