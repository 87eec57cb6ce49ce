/-
  code.Put, walked: a range over code.digits, an iterator that keeps its number in a cell of its own.
-/
import Derived.Test.YtinmggkofdjblaaDigits
import Derived.Test.YtinmggkofdjblaaMath
import Derived.RangeFuncBox
import Derived.Maps.AppendAt
namespace Go.Proofs.Ytinmggkofdjblaa
open Go.RowKit Go.Shelf
open CodeMath
attribute [local go_sem] Oper.semAt_some
def byv (l : List Nat) : List Value := l.map (fun c : Nat => Value.int .u8 (c : Int))
theorem byv_append (a b : List Nat) : byv (a ++ b) = byv a ++ byv b := by unfold byv; exact List.map_append
theorem digits_any (n : Int) (w : World) :
    Calls Try.prog 18 #[.int .i64 n] w fun e w' => e = .returned (.func (.func 22) #[] #[.pointer (some ⟨w.heap.size, 0, none⟩)]) ∧ w.alloc (.cells #[.int .i64 n] 3) = w' := by
  go_enter Try.func18, Try.ntmps18
  go_wp2
  go_ret
  exact ⟨rfl, rfl⟩
/-- how a round's body is left: what is no cells and lies from B on is as it was. -/
def bodyP (B : Nat) (A : World → Prop) (W : World) : Exit → Act → World → Prop
  | .normal, _, W' => KeepsFrom B W W' ∧ A W'
  | _, _, _ => False
theorem dig_range {Q : Exit → Act → World → Prop} {a : Act} {w : World} {g : Operand} {ps : Array Tmp} {assign body : Code} (N n : Nat) (hn : n ≤ 2147483647) (hN : N < w.heap.size)
    (hg : a.eval g = .func (.func 22) #[] #[.pointer (some ⟨N, 0, none⟩)]) (hps : ps.size = 2) (I A : Nat → World → Prop)
    (hI : ∀ k W, I k W → W.cell? ⟨N, 0, none⟩ = some (.int .i64 ((n / 128 ^ k : Nat) : Int)))
    (hA : ∀ k W, A k W → W.cell? ⟨N, 0, none⟩ = some (.int .i64 ((n / 128 ^ k : Nat) : Int)) ∧ W.frozen? ⟨N, 0, none⟩ = false)
    (hnext : ∀ k W, A k W → 128 ≤ n / 128 ^ k → I (k + 1) (W.setCell ⟨N, 0, none⟩ (.int .i64 ((n / 128 ^ (k + 1) : Nat) : Int))))
    (hIp : ∀ k W l o o', w.heap.size ≤ l → W.heap[l]? = some o → o.isCells = false → I k W → I k (W.putObj l o'))
    (hAp : ∀ k W l o o', w.heap.size ≤ l → W.heap[l]? = some o → o.isCells = false → A k W → A k (W.putObj l o'))
    (h0 : ∀ o o', I 0 ((w.alloc o).alloc o')) (a₁ : Nat → Act)
    (hassign : ∀ (l k : Nat) (W : World) (K : Act → World → Prop), K (a₁ k) W →
      assign.wpIn (Fence.wide.inRound l) 1 Try.prog (Exit.then K (fun _ _ _ => False)) { tmps := (ps.zip #[.int .u8 (((n / 128 ^ k : Nat) : Int) % 128), .bool (decide (128 ≤ n / 128 ^ k))]).foldl (fun t (p, v) => t.setIfInBounds p v) a.tmps, defers := [] } W)
    (hbody : ∀ (l k : Nat) (W : World), I k W → body.wpIn (Fence.wide.inRound l) 1 Try.prog (bodyP w.heap.size (A k) W) (a₁ k) W)
    (hdone : ∀ (D k : Nat) (W : World), w.heap.size ≤ D → A k W → n / 128 ^ k < 128 → W.heap[D]? = some (.deferred (some [])) → Q .normal { a with defers := { target := .collected D, args := #[] } :: a.defers } W) :
    (Code.rangeFunc g ps assign body).wpIn Fence.wide 3 Try.prog Q a w := by
  refine wpIn_rangeFunc ?_
  intro fn hfn
  have hro : Fence.wide.round = none := rfl
  rw [hro]
  generalize hB : w.heap.size = B at *
  obtain ⟨R, hR⟩ : ∃ R : LoopState → Loop, R = fun st => { state := st, pending := none, fn, tmps := a.tmps, params := ps, assign, body, defers := B } := ⟨_, rfl⟩
  have hent := run_enterLoop_outer (P := Try.prog) (w := w) fn a.tmps ps assign body
  rw [hB] at hent
  have hl0 : ((w.alloc (.deferred (some []))).alloc (.loop (R .ready))).heap[B + 1]? = some (.loop (R .ready)) := by
    have := World.alloc_heap_new (w.alloc (.deferred (some []))) (.loop (R .ready))
    rwa [World.size_alloc, hB] at this
  have hk0 : ((w.alloc (.deferred (some []))).alloc (.loop (R .ready))).heap[B]? = some (.deferred (some [])) := by
    refine (Below.heap_alloc _ _ _ (by simp; omega)).trans ?_
    have := World.alloc_heap_new w (.deferred (some []))
    rwa [hB] at this
  have hz := h0 (.deferred (some [])) (.loop (R .ready))
  generalize hW1 : (w.alloc (.deferred (some []))).alloc (.loop (R .ready)) = W1 at *
  refine ⟨B + 1, [{ target := .collected B, args := #[] }], W1, { target := .fn (.func 22) #[.pointer (some ⟨N, 0, none⟩)], args := #[.func (.yield (B + 1)) #[] #[]] }, W1, 22,
    #[.func (.yield (B + 1)) #[] #[]] ++ #[.pointer (some ⟨N, 0, none⟩)], W1, ?_, ?_, fun _ _ => trivial, ?_, fun h => (nomatch h), ?_⟩
  · rw [hent, ← hW1, hR]
  · simp only [resolve, hg]
    simp [go_sem]
  · simp [invoke, go_sem]
  · refine (dig_in 2 (B + 1) N n hn (fun k W => I k W ∧ W.heap[B + 1]? = some (.loop (R .ready)) ∧ W.heap[B]? = some (.deferred (some [])))
      (fun W => ∃ k, A k W ∧ n / 128 ^ k < 128 ∧ W.heap[B + 1]? = some (.loop (R .ready)) ∧ W.heap[B]? = some (.deferred (some []))) ?_ W1 ⟨hz, hl0, hk0⟩).mono ?_
    · rintro k W ⟨hi, hl, hd⟩
      refine ⟨hI k W hi, ?_⟩
      have hlt : B + 1 < W.heap.size := (Array.getElem?_eq_some_iff.1 hl).1
      have hy := run_yield (P := Try.prog) (args := #[.int .u8 (((n / 128 ^ k : Nat) : Int) % 128), .bool (decide (128 ≤ n / 128 ^ k))]) hl (by rw [hR]; exact hps.symm)
      rw [hR] at hy
      refine ⟨fn, _, assign, body, hy, roundIn_of_wpIn hfn (hassign _ k W _ ⟨_, run_beginRound hl (by rw [hR]), ?_⟩)⟩
      have hl2 : (W.putObj (B + 1) (.loop { R .ready with state := .busy })).heap[B + 1]? = some (.loop { R .ready with state := .busy }) := World.putObj_heap_same hlt
      have hd2 : (W.putObj (B + 1) (.loop { R .ready with state := .busy })).heap[B]? = some (.deferred (some [])) := (World.putObj_heap_other (by omega)).trans hd
      refine wpIn_mono (hbody _ k _ (hIp k W _ _ _ (by omega) hl rfl hi)) ?_
      rintro e a3 W3 hp
      cases e with
      | normal =>
        obtain ⟨hk3, ha3⟩ := hp
        have hl3 := hk3.same _ _ (by omega) hl2 rfl
        have hd3 := hk3.same _ _ (Nat.le_refl _) hd2 rfl
        have he := run_endRound (P := Try.prog) none hl3
        have ha4 := hAp k W3 _ _ (.loop (R .ready)) (by omega) hl3 rfl ha3
        have hl4 : (W3.putObj (B + 1) (.loop (R .ready))).heap[B + 1]? = some (.loop (R .ready)) := World.putObj_heap_same (Array.getElem?_eq_some_iff.1 hl3).1
        have hd4 : (W3.putObj (B + 1) (.loop (R .ready))).heap[B]? = some (.deferred (some [])) := (World.putObj_heap_other (by omega)).trans hd3
        refine ⟨.bool true, W3.putObj (B + 1) (.loop (R .ready)), by rw [he, hR]; rfl, rfl, (hA k _ ha4).1, (hA k _ ha4).2, fun h => ⟨hnext k _ ha4 h, ?_, ?_⟩, fun h => ⟨k, ha4, h, hl4, hd4⟩⟩
        · rw [Below.heap_setCell _ _ _ _ (by simp; omega)]; exact hl4
        · rw [Below.heap_setCell _ _ _ _ (by simp; omega)]; exact hd4
      | ret => exact hp.elim
      | exit id => exact hp.elim
      | goto t => exact hp.elim
      | panic ch => exact hp.elim
      | outgrown => exact hp.elim
    · rintro e W2 ⟨⟨v, rfl⟩, k, ha, hk, hl, hd⟩
      refine ⟨none, _, by have := run_endLoop (P := Try.prog) hl (by rw [hR]; simp); rw [hR] at this; exact this, ?_⟩
      exact hdone B k _ (Nat.le_refl _) (hAp k _ _ _ _ (by omega) hl rfl ha) hk ((World.putObj_heap_other (by omega)).trans hd)
/-- what the call's own memory holds when the bytes pre have come and the iterator's number is n / 128 ^ j -/
def PutSt (w : World) (n j : Nat) (pre : List Nat) (W : World) : Prop :=
  (∃ v, Boxed W w.heap.size 23 v ∧ W.ownsRow w.heap.size 5 1 v pre.length (byv pre)) ∧ Boxed W (w.heap.size + 1) 3 (.int .i64 ((n / 128 ^ j : Nat) : Int)) ∧ Below w.heap.size w W
theorem PutSt.putObj {w : World} {n j : Nat} {pre : List Nat} {W : World} (h : PutSt w n j pre W) {l : Nat} {o : Obj} (o' : Obj) (hl : w.heap.size + 2 ≤ l) (hw : W.heap[l]? = some o) (ho : o.isCells = false) : PutSt w n j pre (W.putObj l o') := by
  obtain ⟨⟨v, h1, h2⟩, h3, h4⟩ := h
  have hg := grownBy_putObj' W l o'
  refine ⟨⟨v, h1.kept hg (by simp; omega), ownsRow_putObj h2 o' hw ho⟩, h3.kept hg (by simp; omega), h4.grown hg h4.size (fun k e => by cases e; omega)⟩
theorem PutSt.alloc {w : World} {n j : Nat} {pre : List Nat} {W : World} (h : PutSt w n j pre W) (o : Obj) : PutSt w n j pre (W.alloc o) := by
  obtain ⟨⟨v, h1, h2⟩, h3, h4⟩ := h
  exact ⟨⟨v, h1.alloc o, h2.alloc o⟩, h3.alloc o, h4.alloc h4.size o⟩
theorem PutSt.num {w : World} {n j : Nat} {pre : List Nat} {W : World} (h : PutSt w n j pre W) (j' : Nat) : PutSt w n j' pre (W.setCell ⟨w.heap.size + 1, 0, none⟩ (.int .i64 ((n / 128 ^ j' : Nat) : Int))) := by
  obtain ⟨⟨v, h1, h2⟩, h3, h4⟩ := h
  have hg := grownBy_setCell' W (w.heap.size + 1) (.int .i64 ((n / 128 ^ j' : Nat) : Int))
  exact ⟨⟨v, h1.kept hg (by simp), h2.kept hg (.inr (h3.not_row (by decide) h2).symm)⟩, h3.set _, h4.setCell (by simp) _⟩
def PutI (w : World) (n k : Nat) (W : World) : Prop := ∃ pre, pre ++ digs (n / 128 ^ k) = digs n ∧ PutSt w n k pre W
def PutA (w : World) (n k : Nat) (W : World) : Prop := ∃ pre, (128 ≤ n / 128 ^ k → pre ++ digs (n / 128 ^ (k + 1)) = digs n) ∧ (n / 128 ^ k < 128 → pre = digs n) ∧ PutSt w n k pre W
theorem Try.info5 : (Try.prog.info? 5).map (fun i => (i.zero, i.size, i.bytes)) = some (some (.int .u8 0), 1, 1) := by kernel_rfl
theorem or128 (q : Nat) : bits .or .u8 ((q : Int) % 128) 128 = (((128 + q % 128 : Nat)) : Int) := by
  have h : q % 128 < 128 := Nat.mod_lt _ (by decide)
  rw [show ((q : Int) % 128) = ((q % 128 : Nat) : Int) by omega]
  generalize q % 128 = m at *
  have : ∀ m : Fin 128, bits .or .u8 ((m.val : Nat) : Int) 128 = ((128 + m.val : Nat) : Int) := by decide +kernel
  exact this ⟨m, h⟩
/-- bytes in new memory -/
def PutPost (w : World) (n : Nat) (e : Ending) (w' : World) : Prop :=
  ∃ v, e = .returned (.tuple #[v, .int .i64 0]) ∧ w'.ownsRow w.heap.size 5 1 v (digs n).length (byv (digs n)) ∧ Below w.heap.size w w'
set_option maxHeartbeats 1000000 in
theorem put_in (n : Nat) (w : World) (hn : n ≤ 2147483647) : CallsIn Fence.wide 3 Try.prog 10 #[.int .i64 (n : Int)] w (PutPost w n) := by
  have h1 : decide ((n : Int) < 0) = false := by simp
  have h2 : decide ((2147483647 : Int) < (n : Int)) = false := by simp; omega
  obtain ⟨i0, hi, hz0, hz1, hz2⟩ := info_parts Try.info5
  have h5 : (digs n).length ≤ 5 := digs_len5 (by omega)
  refine callsIn_of_wp_marks Try.func10 rfl trivial ?_ rfl
  simp only [Try.ntmps10, List.size_toArray, List.length_cons, List.length_nil, Nat.reduceAdd, Nat.reduceSub, Array.replicate_succ, Array.replicate_zero, List.push_toArray, List.append_toArray, List.nil_append, List.cons_append]
  gi_wp2_with fail
  refine ⟨trivial, (callsIn_wide.2 (digits_any _ _)).mono ?_⟩
  rintro e w' ⟨rfl, rfl⟩
  gi_wp2_with fail
  have hstart : PutSt w n 0 [] ((w.alloc (.cells #[.slice none 0 0] 23)).alloc (.cells #[.int .i64 (n : Int)] 3)) := by
    refine ⟨⟨.slice none 0 0, (Boxed.new w 23 (.slice none 0 0)).alloc _, World.ownsRow_nil _ _ _ _⟩, ?_, ((Below.refl _ w).alloc (Nat.le_refl _) _).alloc (by simp) _⟩
    have := Boxed.new (w.alloc (.cells #[.slice none 0 0] 23)) 3 (.int .i64 (n : Int))
    rw [World.size_alloc] at this
    rw [Nat.pow_zero, Nat.div_one]
    exact this
  refine dig_range (w.heap.size + 1) n hn (by simp) rfl rfl (PutI w n) (PutA w n) (fun k W ⟨pre, _, hs⟩ => hs.2.1.cell) (fun k W ⟨pre, _, _, hs⟩ => ⟨hs.2.1.cell, hs.2.1.frozen⟩)
    (fun k W ⟨pre, hp, _, hs⟩ h => ⟨pre, hp h, hs.num (k + 1)⟩)
    (fun k W l o o' hl hw ho ⟨pre, hp, hs⟩ => ⟨pre, hp, hs.putObj o' (by simpa using hl) hw ho⟩)
    (fun k W l o o' hl hw ho ⟨pre, hp, hp2, hs⟩ => ⟨pre, hp, hp2, hs.putObj o' (by simpa using hl) hw ho⟩)
    (fun o o' => ⟨[], by simp, (hstart.alloc o).alloc o'⟩)
    (fun k => { tmps := #[.int .i64 n, undef, .slice none 0 0, .int .i64 0, .pointer (some ⟨w.heap.size, 0, none⟩), .int .u8 (((n / 128 ^ k : Nat) : Int) % 128), .bool (decide (128 ≤ n / 128 ^ k)), .int .i64 n,
      .bool false, .bool false, .int .i64 n, .bool false, .bool false, .int .i64 n, .func (.func 22) #[] #[.pointer (some ⟨w.heap.size + 1, 0, none⟩)], .int .u8 (((n / 128 ^ k : Nat) : Int) % 128), .bool (decide (128 ≤ n / 128 ^ k)),
      undef, undef, undef, undef, undef, undef, undef, undef], defers := [] }) ?assign ?body ?done
  case assign =>
    intro l k W K hK
    gi_wp2
    exact hK
  case body =>
    rintro l k W ⟨pre, hp, ⟨v, hv, hrow⟩, hnum, hbel⟩
    have hlen : pre.length < 5 := by
      have := congrArg List.length hp
      have h3 := digs_pos (n / 128 ^ k)
      simp at this
      omega
    have hq : n / 128 ^ (k + 1) = n / 128 ^ k / 128 := by rw [Nat.pow_succ, Nat.div_div_eq_div_mul]
    obtain ⟨q, hqe⟩ : ∃ q, n / 128 ^ k = q := ⟨_, rfl⟩
    have HK := Lib.hid hqe
    rw [hqe] at hp hq hnum ⊢
    clear hqe
    have hc := hv.cell
    have hf := hv.frozen
    have hsz := hbel.size
    have HP := Lib.hid hp
    have HQ := Lib.hid hq
    have hor := or128 q
    clear hp hq
    have close : ∀ (c : Nat) (w1 : World) (g' cap' : Nat) (hown' : w1.ownsRow w.heap.size 5 1 (.slice (some ⟨g', 0, none⟩) (pre.length + 1) cap') (pre.length + 1) (byv pre ++ [.int .u8 (c : Int)])) (hgrow : (W.alloc (.cells #[.int .u8 (c : Int)] 5)).grownBy w1 v.ownBlock),
        (128 ≤ q → c = 128 + q % 128) → (q < 128 → c = q) →
        Boxed w1 w.heap.size 23 v ∧ KeepsFrom (w.heap.size + 2) W (w1.setCell ⟨w.heap.size, 0, none⟩ (.slice (some ⟨g', 0, none⟩) (pre.length + 1) cap')) ∧ (∀ e, n / 128 ^ k = e → e = q → PutA w n k (w1.setCell ⟨w.heap.size, 0, none⟩ (.slice (some ⟨g', 0, none⟩) (pre.length + 1) cap'))) := by
      intro c w1 g' cap' hown' hgrow hc1 hc2
      obtain ⟨hv1, hv2, hr2, hk2, hb2⟩ := hv.appended (by decide) hrow hsz (Nat.le_refl _) hown' hgrow
      refine ⟨hv1, hk2.from _, fun e he heq => ⟨pre ++ [c], ?_, ?_, ⟨_, hv2, ?_⟩, ?_, hbel.trans hb2⟩⟩
      · intro h128
        rw [he, heq] at h128
        rw [← HP.out, digs_ge h128, ← hc1 h128, List.append_assoc, HQ.out]
        rfl
      · intro h128
        rw [he, heq] at h128
        rw [← HP.out, digs_lt h128, hc2 h128]
      · rw [byv_append, List.length_append]; exact hr2
      · rw [he, heq]
        exact ((hnum.alloc (.cells #[.int .u8 (c : Int)] 5)).kept hgrow ((hnum.alloc (.cells #[.int .u8 (c : Int)] 5)).not_row (by decide) (hrow.alloc (.cells #[.int .u8 (c : Int)] 5)))).kept (grownBy_setCell' _ _ _) (by simp)
    by_cases h128 : 128 ≤ q
    · have hdq : decide (128 ≤ q) = true := decide_eq_true h128
      obtain ⟨c, hcd⟩ : ∃ c, c = 128 + q % 128 := ⟨_, rfl⟩
      rw [← hcd] at hor
      have HC := Lib.hid hcd
      clear hcd
      gi_wp2_with (gi_at_builtin; refine wpListIn_append_own _ rfl _ _ 23 rfl w.heap.size 5 i0 (.int .u8 0) 1 1 Try.underlying23 hi hz0 hz1 hz2 rfl (by decide) _ _ _ rfl (hrow.alloc _) ⟨W.heap.size, 0, none⟩ 1 1 [.int .u8 (c : Int)] rfl rfl (cell_one_new _ _ _) (by simp [Value.oneCell']) (by unfold maxLen; omega) (by omega) (by simp; omega) ?_; intro v' w1 hown' hgrow _; obtain ⟨g', cap', rfl⟩ := ownsRow_succ hown'; obtain ⟨hv1, hk2, hfin⟩ := close c w1 g' cap' hown' hgrow (fun _ => HC.out) (fun h => absurd h (by omega)); have hc1 := hv1.cell; have hf1 := hv1.frozen)
      exact ⟨by simp only [World.size_alloc]; exact hk2, hfin _ rfl HK.out⟩
    · have hdq : decide (128 ≤ q) = false := decide_eq_false h128
      have hlow : (q : Int) % 128 = (q : Int) := by omega
      gi_wp2_with (gi_at_builtin; refine wpListIn_append_own _ rfl _ _ 23 rfl w.heap.size 5 i0 (.int .u8 0) 1 1 Try.underlying23 hi hz0 hz1 hz2 rfl (by decide) _ _ _ rfl (hrow.alloc _) ⟨W.heap.size, 0, none⟩ 1 1 [.int .u8 (q : Int)] rfl rfl (cell_one_new _ _ _) (by simp [Value.oneCell']) (by unfold maxLen; omega) (by omega) (by simp; omega) ?_; intro v' w1 hown' hgrow _; obtain ⟨g', cap', rfl⟩ := ownsRow_succ hown'; obtain ⟨hv1, hk2, hfin⟩ := close q w1 g' cap' hown' hgrow (fun h => absurd h h128) (fun _ => rfl); have hc1 := hv1.cell; have hf1 := hv1.frozen)
      exact ⟨by simp only [World.size_alloc]; exact hk2, hfin _ rfl HK.out⟩
  case done =>
    intro D k W hD hA hk hDD
    obtain ⟨pre, _, hp, ⟨v, hv, hrow⟩, hnum, hbel⟩ := hA
    have hpre := hp hk
    subst hpre
    have hc := hv.cell
    simp only [World.size_alloc] at hD
    gi_wp2
    refine ⟨by simp, .inl ⟨_, _, rfl, run_takeDeferred hDD, ?_⟩⟩
    refine ⟨_, results_tmp2 rfl _ _ _, v, rfl, ownsRow_putObj hrow _ hDD rfl, hbel.grown (grownBy_putObj' _ _ _) hbel.size (fun k e => by cases e; omega)⟩
theorem put_any (n : Nat) (w : World) (hn : n ≤ 2147483647) : Calls Try.prog 10 #[.int .i64 (n : Int)] w (PutPost w n) := callsIn_wide.1 (put_in n w hn)
theorem put_no (n : Int) (w : World) (hn : n < 0 ∨ 2147483647 < n) : Calls Try.prog 10 #[.int .i64 n] w fun e w' => e = .returned (.tuple #[.slice none 0 0, .int .i64 2]) ∧ w = w' := by
  by_cases h0 : n < 0
  · have h1 : decide (n < 0) = true := by simp; omega
    go_enter Try.func10, Try.ntmps10
    go_wp2
    go_ret2
    exact ⟨rfl, rfl⟩
  · have h1 : decide (n < 0) = false := by simp; omega
    have h2 : decide ((2147483647 : Int) < n) = true := by simp; omega
    go_enter Try.func10, Try.ntmps10
    go_wp2
    go_ret2
    exact ⟨rfl, rfl⟩
end Go.Proofs.Ytinmggkofdjblaa
