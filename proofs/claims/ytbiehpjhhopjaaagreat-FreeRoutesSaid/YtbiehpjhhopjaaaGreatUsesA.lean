/-
  Sets of elements, as area has them: maps by kind and number.
  The lists of a set: area.set.area$1, walked.
  The area of a set: area.set.area, walked.
-/
import Derived.Test.YtbiehpjhhopjaaaGreatReadIn
import Derived.Test.YtbiehpjhhopjaaaGreatStateA
import Derived.DeepKeys3
import Derived.Maps.RangeWalk
import Derived.ChangeKeysEq
import Derived.Test.YtbiehpjhhopjaaaGreatFreeC
set_option linter.unusedVariables false
set_option linter.unusedSimpArgs false
namespace Go.Proofs.YtbiehpjhhopjaaaGreat
open Go.RowKit Go.Maps
theorem keyed271 : Keyed Tryz.prog 271 := Keyed.of_law (deep_law (m := 2) (by decide) (by kernel_rfl) (by kernel_rfl) (by rw [Tryz.underlying271]))
/-- the key of an element -/
def kl (k a : Int) : Lit := .string (keyBytes [.int .u8 k, .int .i64 a])
theorem lits5 (d : Nat) {k : Int} (wk : (Lit.int .u8 k).wf = true) : Tryz.prog.keyLits (d + 1) 5 [.int .u8 k] = some [.int .u8 k] := by
  unfold Program.keyLits
  rw [Tryz.underlying5]
  simp [wk]
theorem lits3 (d : Nat) {a : Int} (wa : (Lit.int .i64 a).wf = true) : Tryz.prog.keyLits (d + 1) 3 [.int .i64 a] = some [.int .i64 a] := by
  unfold Program.keyLits
  rw [Tryz.underlying3]
  simp [wa]
theorem cells271 : Tryz.prog.cellsOf 271 = 2 := by kernel_rfl
theorem cells5' : Tryz.prog.cellsOf 5 = 1 := by kernel_rfl
theorem cells3' : Tryz.prog.cellsOf 3 = 1 := by kernel_rfl
theorem sz271 : Tryz.prog.types.size = 504 + 2 := by kernel_rfl
theorem kt271 : Tryz.prog.keyType 271 = true := by kernel_rfl
theorem lits271 (d : Nat) (c0 c1 : Value) : Tryz.prog.keyLits (d + 1) 271 [c0, c1] = ((Tryz.prog.keyLits d 5 [c0]).bind fun a => (Tryz.prog.keyLits d 3 [c1]).bind fun b => some (a ++ b)) := by
  conv => lhs; unfold Program.keyLits
  rw [Tryz.underlying271]
  simp only [cells271]
  rw [if_pos (by simp)]
  simp only [List.mapM_cons, List.mapM_nil, cells5', cells3', List.drop_zero, List.drop_succ_cons, List.take_succ_cons, List.take_zero]
  cases Tryz.prog.keyLits d 5 [c0] <;> cases Tryz.prog.keyLits d 3 [c1] <;> simp
theorem key271 {k a : Int} (wk : (Lit.int .u8 k).wf = true) (wa : (Lit.int .i64 a).wf = true) : keyOf Tryz.prog 271 (.agg #[.int .u8 k, .int .i64 a]) = some (kl k a) := by
  unfold keyOf
  rw [Tryz.underlying271]
  simp only [kt271, Bool.true_and]
  rw [if_pos (by simp [Value.formed, Tryz.underlying271, cells271]), sz271]
  simp only [Value.cells]
  rw [show (504 + 2 + 1 : Nat) = (504 + 2) + 1 from rfl]
  have e := lits271 (504 + 2) (.int .u8 k) (.int .i64 a)
  rw [lits5 505 wk, lits3 505 wa] at e
  refine (congrArg (Option.map fun ls => Lit.string (keyBytes ls)) e).trans ?_
  rfl
theorem keyOf271 : ∃ d, ∀ v, keyOf Tryz.prog 271 v = if v.formed Tryz.prog 271 = true then (Tryz.prog.keyLits (d + 2) 271 v.cells.toList).map fun ls => .string (keyBytes ls) else none := by
  refine ⟨505, fun v => ?_⟩
  unfold keyOf
  rw [Tryz.underlying271]
  simp only [kt271, Bool.true_and]
  rw [sz271]
set_option maxRecDepth 100000 in
theorem key271_inv (v : Value) (l : Lit) (h : keyOf Tryz.prog 271 v = some l) : ∃ k a : Int, v = .agg #[.int .u8 k, .int .i64 a] ∧ l = kl k a ∧ (Lit.int .u8 k).wf = true ∧ (Lit.int .i64 a).wf = true := by
  obtain ⟨d, ek⟩ := keyOf271
  have h' := h
  clear h
  generalize hk : keyOf Tryz.prog 271 v = z at h'
  have h := (ek v).symm.trans (hk.trans h')
  clear ek hk h'
  split at h
  · rename_i hf
    cases v <;> simp only [Value.formed, Tryz.underlying271, Bool.false_eq_true] at hf
    rename_i cs
    simp [cells271] at hf
    obtain ⟨c0, c1, rfl⟩ : ∃ c0 c1, cs = #[c0, c1] := by
      obtain ⟨l⟩ := cs
      match l, hf with
      | [c0, c1], _ => exact ⟨c0, c1, rfl⟩
    simp only [Value.cells] at h
    rw [show d + 2 = (d + 1) + 1 from rfl, lits271] at h
    cases h5 : Tryz.prog.keyLits (d + 1) 5 [c0] with
    | none => simp [h5] at h
    | some a5 =>
      cases h3 : Tryz.prog.keyLits (d + 1) 3 [c1] with
      | none => simp [h5, h3] at h
      | some a3 =>
        simp [h5, h3] at h
        unfold Program.keyLits at h5 h3
        rw [Tryz.underlying5] at h5
        rw [Tryz.underlying3] at h3
        cases c0 <;> simp at h5
        cases c1 <;> simp at h3
        obtain ⟨⟨rfl, w5⟩, rfl⟩ := h5
        obtain ⟨⟨rfl, w3⟩, rfl⟩ := h3
        exact ⟨_, _, rfl, h.symm, w5, w3⟩
  · exact absurd h (by simp)
theorem kl_inj {k a k' a' : Int} (wk : (Lit.int .u8 k).wf = true) (wa : (Lit.int .i64 a).wf = true) (wk' : (Lit.int .u8 k').wf = true) (wa' : (Lit.int .i64 a').wf = true) (h : kl k a = kl k' a') : k = k' ∧ a = a' := by
  have h1 := key271 wk wa
  have h2 := key271 wk' wa'
  rw [h] at h1
  have h3 := keyed271.inj h1 h2
  simp at h3
  exact h3
/-- a map that reads as a set -/
def SetIs (W : World) (b n : Nat) (S : Int → Int → Prop) : Prop := ∃ D : DataW Unit, W.ownsMap Tryz.prog 271 (plainElem Tryz.prog 4) b n D ∧ ∀ k a, (Lit.int .u8 k).wf = true → (Lit.int .i64 a).wf = true → (has D (kl k a) = true ↔ S k a)
theorem SetIs.congr {W : World} {b n : Nat} {S S' : Int → Int → Prop} (h : SetIs W b n S) (e : ∀ k a, S k a ↔ S' k a) : SetIs W b n S' := by
  obtain ⟨D, h1, h2⟩ := h
  exact ⟨D, h1, fun k a wk wa => (h2 k a wk wa).trans (e k a)⟩
theorem SetIs.block {W : World} {b n : Nat} {S : Int → Int → Prop} (h : SetIs W b n S) : ∃ es clock, W.heap[b]? = some (.map es clock) := by
  obtain ⟨D, ⟨es, clock, hb, _⟩, _⟩ := h
  exact ⟨es, clock, hb⟩
theorem SetIs.same {W W' : World} {b n : Nat} {S : Int → Int → Prop} (h : SetIs W b n S) (e : W'.heap[b]? = W.heap[b]?) : SetIs W' b n S := by
  obtain ⟨D, ⟨es, clock, hb, r⟩, h2⟩ := h
  exact ⟨D, ⟨es, clock, e.trans hb, r⟩, h2⟩
theorem SetIs.lt {W : World} {b n : Nat} {S : Int → Int → Prop} (h : SetIs W b n S) : b < W.heap.size := by
  obtain ⟨es, clock, hb⟩ := h.block
  exact lt_of_block hb
theorem SetIs.below {W W' : World} {b n : Nat} {S : Int → Int → Prop} (h : SetIs W b n S) (hb : Below W.heap.size W W') : SetIs W' b n S := h.same (hb.block _ h.lt)
theorem setIs_made (w : World) : SetIs (w.alloc (.map #[] 0)) w.heap.size 0 (fun _ _ => False) := ⟨_, World.ownsMap_made _ _ _ _, fun k a _ _ => by simp [has]⟩
theorem setIs_put {W W' : World} {b n : Nat} {S : Int → Int → Prop} {D : DataW Unit} {k0 a0 : Int} (hD : W.ownsMap Tryz.prog 271 (plainElem Tryz.prog 4) b n D) (h2 : ∀ k a, (Lit.int .u8 k).wf = true → (Lit.int .i64 a).wf = true → (has D (kl k a) = true ↔ S k a)) (wk : (Lit.int .u8 k0).wf = true) (wa : (Lit.int .i64 a0).wf = true)
    (h : W'.ownsMap Tryz.prog 271 (plainElem Tryz.prog 4) b (n + 1) (D.put (kl k0 a0) (.lit (.bool true)))) : SetIs W' b (n + 1) (fun k a => (k = k0 ∧ a = a0) ∨ S k a) := by
  refine ⟨_, h, fun k a wk' wa' => ?_⟩
  by_cases e : kl k a = kl k0 a0
  · obtain ⟨rfl, rfl⟩ := kl_inj wk' wa' wk wa e
    rw [has_put_same hD.isMap (keyed271.key (key271 wk wa))]
    simp
  · rw [has_put_other e, h2 k a wk' wa']
    constructor
    · exact .inr
    · rintro (⟨rfl, rfl⟩ | h)
      · exact absurd rfl e
      · exact h
set_option maxRecDepth 100000 in
set_option maxHeartbeats 4000000 in
theorem add_any (b n : Nat) (S : Int → Int → Prop) (kind : Int) (a : Option Addr) (cap : Nat) (l : List Int) (w : World) (hs : SetIs w b n S) (hl : IL w a l.length l) (hm : l.length ≤ 1000) (hn : n ≤ 1000) (wk : (Lit.int .u8 kind).wf = true) (wl : ∀ x ∈ l, (Lit.int .i64 x).wf = true) :
    Calls Tryz.prog 201 #[.map (some b), .int .u8 kind, .slice a l.length cap] w fun e w' => e = .returned (.tuple #[]) ∧ SetIs w' b (n + l.length) (fun k x => (k = kind ∧ x ∈ l) ∨ S k x) ∧ w.grownBy w' (some b) := by
  have HS := Lib.hid hs
  have HL : Hid (∀ W, w.grownBy W (some b) → IL W a l.length l) := fun W hg => ⟨rfl, fun i hi => by
    obtain ⟨b', off, e, hc⟩ := hl.cell i hi
    refine ⟨b', off, e, ?_⟩
    have hlt := block_lt_of_cell hc
    have hne : b' ≠ b := by
      rintro rfl
      obtain ⟨es, clock, hb⟩ := HS.out.block
      simp [World.cell?, hb] at hc
    rw [World.cell?_of_block (w := w)]
    · exact hc
    · exact hg.block _ hlt (fun e => hne (Option.some.inj e))⟩
  have WK := Lib.hid wk
  have WL := Lib.hid wl
  clear hs hl wk wl
  go_enter Tryz.func201, Tryz.ntmps201
  go_wp2_with fail
  go_loopg [10] l.length (fun g i wr => ∃ k : Nat, k ≤ l.length ∧ g = l.length - k ∧ i = .int .i64 k ∧ SetIs wr b (n + k) (fun q x => (q = kind ∧ x ∈ l.take k) ∨ S q x) ∧ w.grownBy wr (some b))
  case atStart => exact ⟨0, by omega, by omega, rfl, HS.out.congr fun k x => by simp, ⟨rfl, rfl, rfl, Nat.le_refl _, fun _ _ _ => rfl⟩⟩
  case round =>
    obtain ⟨k, hk, rfl, rfl, hset, hg⟩ := hrel
    obtain ⟨wo, rfl⟩ : ∃ wo : World, wo = wr := ⟨_, rfl⟩
    have HG := Lib.hid hg
    have HSE := Lib.hid hset
    clear hset hg
    by_cases hlt : k < l.length
    · have hdk : decide ((k : Int) < (l.length : Int)) = true := by simp; omega
      obtain ⟨b', off, rfl, hc⟩ := (HL.out _ HG.out).cell k hlt
      have c0 : (0 : Int) ≤ (k : Int) := by omega
      have c1 : (k : Int) < (l.length : Int) := by omega
      have l1 := World.block_lt_of_cell? _ _ hc
      obtain ⟨D, hown, hD⟩ := HSE.out
      have HOW := Lib.hid hown
      have HDD := Lib.hid hD
      have wa := WL.out l[k] (List.getElem_mem hlt)
      have hkey := Lib.hid (key271 WK.out wa)
      have hnn : n + k < maxLen := by unfold maxLen; omega
      have HPUT : Hid (∀ W', W'.ownsMap Tryz.prog 271 (plainElem Tryz.prog 4) b (n + k + 1) (D.put (kl kind l[k]) (.lit (.bool true))) → SetIs W' b (n + (k + 1)) (fun q x => (q = kind ∧ x ∈ l.take (k + 1)) ∨ S q x)) := fun W' h => by
        have := setIs_put HOW.out HDD.out WK.out wa h
        refine this.congr fun q x => ?_
        rw [List.take_succ_eq_append_getElem hlt, List.mem_append, List.mem_singleton]
        constructor
        · rintro (⟨rfl, rfl⟩ | ⟨e, h⟩ | h)
          · exact .inl ⟨rfl, .inr rfl⟩
          · exact .inl ⟨e, .inl h⟩
          · exact .inr h
        · rintro (⟨e, h | h⟩ | h)
          · exact .inr (.inl ⟨e, h⟩)
          · exact .inl ⟨e, h⟩
          · exact .inr (.inr h)
      clear hown hD wa
      go_wp2_with (at_mapUpdate; refine wpList_mapUpdate_own _ rfl _ _ _ 165 rfl 271 4 keyed271 Tryz.underlying165 _ b (n + k) D rfl HOW.out hnn _ _ _ rfl rfl hkey.out (.lit (.bool true)) [] (plainElem_bool Tryz.underlying4 true) ?_; intro w1 hown1 hgrow1)
      have HN := Lib.hid (HPUT.out _ hown1)
      have HG1 : Hid (w.grownBy w1 (some b)) := ⟨hgrow1.os.trans HG.out.os, hgrow1.tape.trans HG.out.tape, hgrow1.output.trans HG.out.output, Nat.le_trans HG.out.size hgrow1.size, fun i hi hne => (hgrow1.block i (Nat.lt_of_lt_of_le hi HG.out.size) hne).trans (HG.out.block i hi hne)⟩
      clear hown1 hgrow1
      go_wp2_with fail
      go_roundg (l.length - (k + 1))
      case measure => go_light; omega
      case rel => go_light; exact ⟨k + 1, by omega, by omega, by go_num, HN.out, HG1.out⟩
    · obtain rfl : k = l.length := by omega
      have hdk : decide ((l.length : Int) < (l.length : Int)) = false := by simp
      go_wp2_with fail
      go_end0
      refine ⟨rfl, ?_, HG.out⟩
      exact HSE.out.congr fun k x => by rw [List.take_length]
end Go.Proofs.YtbiehpjhhopjaaaGreat
set_option linter.unusedVariables false
set_option linter.unusedSimpArgs false
namespace Go.Proofs.YtbiehpjhhopjaaaGreat
open Go.RowKit Go.Maps Go.Sort
theorem bool_inv {P : Program} {e : TypeId} (he : P.underlying e = some .bool) {v : Value} {z : DataW Unit × List MemPlace} (h : plainElem P e v = some z) : ∃ c : Bool, v = .bool c := by
  unfold plainElem at h
  rw [he] at h
  cases v <;> simp at h
  exact ⟨_, rfl⟩
theorem pair271_inv (key : Value) (l : Lit) (h : keyOf Tryz.prog 271 key = some l) : ∃ x : Int × Int, key = .agg #[.int .u8 x.1, .int .i64 x.2] := by
  obtain ⟨k, a, e, _⟩ := key271_inv key l h
  exact ⟨(k, a), e⟩
/-- the step over a set of elements -/
theorem wpList_next_set (w : World) {ops : Array Oper} {rest : List Oper} {o : Oper} {a : Act} {Q : Exit → Act → World → Prop} (hg : o.guard = none) (it : Operand) (hop : o.op = Op.next it false) (b r n : Nat) (D : DataW Unit) (left : Lit → Bool) (cnt : Nat)
    (hit : a.eval it = .pointer (some ⟨r, 0, none⟩)) (h : w.ranges Tryz.prog 271 (plainElem Tryz.prog 4) b r n D left cnt)
    (hDone : cnt = 0 → (∀ kl, left kl = false) → wpList Tryz.prog ops Q rest (a.put o.dst (.tuple #[.bool false])) w)
    (hMore : ∀ (k x : Int) (v : Value) (w' : World) (cnt' : Nat), (Lit.int .u8 k).wf = true → (Lit.int .i64 x).wf = true → left (kl k x) = true → w'.ranges Tryz.prog 271 (plainElem Tryz.prog 4) b r n D (fun z => left z && !z.sameKey (kl k x)) cnt' → cnt' < cnt →
      w.grownBy w' (some r) → w'.heap.size = w.heap.size → (Instr.entry (.pointer (some ⟨r, 0, none⟩))).run Tryz.prog w' = .ok (.tuple #[.agg #[.int .u8 k, .int .i64 x], v]) w' → wpList Tryz.prog ops Q rest (a.put o.dst (.tuple #[.bool true, .agg #[.int .u8 k, .int .i64 x], v])) w') :
    wpList Tryz.prog ops Q (o :: rest) a w := by
  refine wpList_next_ranges w hg it hop 271 keyed271 (plainElem Tryz.prog 4) (fun x : Int × Int => .agg #[.int .u8 x.1, .int .i64 x.2]) Value.bool pair271_inv (fun v y h => bool_inv Tryz.underlying4 h) b r n D left cnt hit h hDone ?_
  rintro ⟨k, x⟩ c l y w' cnt' hkey hl hR hat hrg hlt hgr hs hen
  obtain ⟨k', x', e, rfl, wk, wx⟩ := key271_inv _ _ hkey
  simp only [Value.agg.injEq, Array.mk.injEq, List.cons.injEq, Value.int.injEq, true_and, and_true] at e
  obtain ⟨rfl, rfl⟩ := e
  exact hMore k x (.bool c) w' cnt' wk wx hl hrg hlt hgr hs hen
theorem kl_same {k a k' : Int} (wk : (Lit.int .u8 k).wf = true) (wa : (Lit.int .i64 a).wf = true) (wk' : (Lit.int .u8 k').wf = true) (y : Int) (wy : (Lit.int .i64 y).wf = true) : (kl k' y).sameKey (kl k a) = true ↔ k' = k ∧ y = a := by
  constructor
  · intro h
    exact kl_inj wk' wy wk wa (WideAt.sameKey_eq h)
  · rintro ⟨rfl, rfl⟩
    exact WideAt.sameKey_self (keyed271.key (key271 wk wa))
theorem mem_sortI {l : List Int} {x : Int} : x ∈ sortI l ↔ x ∈ l := List.mem_mergeSort
/-- the numbers of a kind in a set, as a list -/
def SPost (w : World) (n : Nat) (S : Int → Prop) (e : Ending) (w' : World) : Prop := ∃ v l, e = .returned v ∧ IntOwn w' w.heap.size v l ∧ l.length ≤ n ∧ (∀ x, x ∈ l ↔ ((Lit.int .i64 x).wf = true ∧ S x)) ∧ Below w.heap.size w w'
set_option maxRecDepth 100000 in
set_option maxHeartbeats 8000000 in
theorem list_any (kind : Int) (g b n : Nat) (S : Int → Int → Prop) (w : World) (hg : w.cell? ⟨g, 0, none⟩ = some (.map (some b))) (hs : SetIs w b n S) (hn : n ≤ 1000) (wk : (Lit.int .u8 kind).wf = true) :
    Calls Tryz.prog 204 #[.int .u8 kind, .pointer (some ⟨g, 0, none⟩)] w (SPost w n (S kind)) := by
  obtain ⟨D, hown, hD⟩ := hs
  have HD := Lib.hid hD
  have HOW := Lib.hid hown
  have WK := Lib.hid wk
  clear hD hown wk
  have hbl : b < w.heap.size := HOW.out.lt
  go_enter Tryz.func204, Tryz.ntmps204
  go_wp2_with (first | (at_range; refine wpList_range_own _ rfl _ 165 rfl 271 4 keyed271 Tryz.underlying165 _ b n D rfl HOW.out ?_; intro w0 hrg0 hg0 hs0) | go_in)
  go_frame
  have h00 : Hid (∃ cnt, w0.ranges Tryz.prog 271 (plainElem Tryz.prog 4) b w.heap.size n D (has D) cnt ∧ cnt ≤ n) := ⟨_, hrg0, hrg0.owns.size_le⟩
  go_loopw [3] (fun v wr => ∃ (left : Lit → Bool) (cnt : Nat) (c : Option Addr) (d : Nat) (L : List Int), wr.ranges Tryz.prog 271 (plainElem Tryz.prog 4) b w.heap.size n D left cnt ∧ v = .slice c L.length d ∧
      IntOwn wr (w.heap.size + 1) (.slice c L.length d) L ∧ L.length + cnt ≤ n ∧ (∀ x, x ∈ L ↔ ((Lit.int .i64 x).wf = true ∧ has D (kl kind x) = true ∧ left (kl kind x) = false)) ∧ (∀ k, left k = true → has D k = true) ∧ Below w.heap.size w wr)
    (fun _ wr => wr.rangeLeft b w.heap.size)
  case atStart =>
    obtain ⟨cnt, h1, h2⟩ := h00.out
    refine ⟨has D, cnt, none, 0, [], h1, rfl, World.ownsRow_nil _ _ _ _, by simpa using h2, fun x => ?_, fun k h => h, ?_⟩
    · simp only [List.not_mem_nil, false_iff, not_and]
      intro _ h
      simp [h]
    · exact ⟨hg0.os, hg0.tape, hg0.output, hg0.size, fun i hi => hg0.block i hi (by simp)⟩
  case round =>
    obtain ⟨left, cnt, c, d, L, hrg, rfl, ho, hn1, hm, hsub, hb⟩ := hrel
    have HRG := Lib.hid hrg
    have HO := Lib.hid ho
    have HM := Lib.hid hm
    have HB := Lib.hid hb
    have HSU := Lib.hid hsub
    clear hrg ho hm hb hsub
    go_wp2_with (first | (at_next; refine wpList_next_set _ rfl _ rfl b w.heap.size n _ _ _ rfl HRG.out ?_ ?_) | go_in)
    · intro hc0 hl0
      have HF : Hid (∀ x, x ∈ L ↔ ((Lit.int .i64 x).wf = true ∧ S kind x)) := fun x => by
        rw [HM.out x]
        constructor
        · rintro ⟨h1, h2, _⟩
          exact ⟨h1, (HD.out kind x WK.out h1).1 h2⟩
        · rintro ⟨h1, h2⟩
          exact ⟨h1, (HD.out kind x WK.out h1).2 h2, hl0 _⟩
      clear hl0
      subst hc0
      have HS := Lib.hid (sort_own HO.out (by have := HRG.out.lt; omega) (by omega))
      have HLN : Hid (L.length ≤ n) := by show _ ≤ _; omega
      go_wp2_with fail
      refine HS.out.mono ?_
      rintro e w1 ⟨rfl, ho1, hb1⟩
      go_wp2_with fail
      go_ret
      refine ⟨_, sortI L, rfl, ?_, by rw [sortI_len]; exact HLN.out, fun x => by rw [mem_sortI]; exact HF.out x, HB.out.trans (hb1.mono (by omega))⟩
      exact own_base ho1 (show w.heap.size ≤ w.heap.size + 1 by omega)
    · intro k x v w1 cnt1 wk wx hlk hrg1 hlt hg1 hs1 hen
      have HSK := kl_same (k := k) (a := x) (k' := kind) wk wx WK.out
      have hsz : w.heap.size + 1 ≤ w1.heap.size := by have := HRG.out.lt; rw [hs1]; exact this
      have HHS := HSU.out _ hlk
      have hbw : Below w.heap.size w w1 := HB.out.grown hg1 HB.out.size (fun j hj => by cases hj; exact Nat.le_refl _)
      have how : IntOwn w1 (w.heap.size + 1) (.slice c L.length d) L := HO.out.kept hg1 (by
        cases c with
        | none => exact .inl rfl
        | some q =>
          right
          intro e
          have := HO.out.lt _ rfl
          simp only [Value.ownBlock, Option.some.injEq] at e
          omega)
      have HRA := Lib.hid (hrg1.alloc (.cells #[.int .u8 k, .int .i64 x] 271))
      have HBA := Lib.hid (hbw.alloc (by omega) (.cells #[.int .u8 k, .int .i64 x] 271))
      have HOA := Lib.hid (how.alloc (.cells #[.int .u8 k, .int .i64 x] 271))
      have hLn : L.length ≤ 1000 := by omega
      have hst : ∀ q, (left q && !q.sameKey (kl k x)) = true → has D q = true := fun q h => HSU.out q (by simp at h; exact h.1)
      have HST := Lib.hid hst
      have HSA := Lib.hid HSK
      have HLK := Lib.hid hlk
      have HHD := Lib.hid HHS
      have WX := Lib.hid wx
      have HLT := Lib.hid hlt
      have HR1 := Lib.hid hrg1
      have HRN : Hid (w1.rangeLeft b w.heap.size < wr.rangeLeft b w.heap.size) := by show _ < _; rw [hrg1.left_eq, HRG.out.left_eq]; exact hlt
      clear hrg1 hg1 hlk wx hs1 wk HSK HHS hbw how hst hlt
      by_cases hkk : k = kind
      · have hkb : (k == kind) = true := by simp [hkk]
        have HKK := Lib.hid hkk
        clear hkk
        have HSZ : Hid (w1.heap.size + 1 = (w1.alloc (.cells #[.int .u8 k, .int .i64 x] 271)).heap.size) := by show _ = _; simp
        have hbase : w.heap.size + 1 ≤ (w1.alloc (.cells #[.int .u8 k, .int .i64 x] 271)).heap.size := by simp; omega
        go_wp2_with (at_builtin; refine wpList_append_one rfl (.tmp 15) (.tmp 18) 54 3 3 _ 1 8 rfl Tryz.underlying54 info3 rfl (by decide) (by decide) (w.heap.size + 1) (.slice c L.length d) L.length _ rfl HOA.out hLn hbase [.int .i64 x] (congrArg (fun q => Value.slice (some ⟨q, 0, none⟩) 1 1) HSZ.out) rfl (oneI _) ?_; intro b8 c8 w8 hown8 hgr8)
        have HBK : ∀ j, (Value.slice c L.length d).ownBlock = some j → w.heap.size + 1 ≤ j := fun j hj => (HOA.out.lt j hj).1
        have HR2 := (HRA.out.alloc (.cells #[.int .i64 x] 3)).kept hgr8 (fun e => by have := HBK _ e.symm; omega) (fun e => by have := HBK _ e.symm; omega)
        have HR3 := Lib.hid HR2
        have HB3 : Hid (Below w.heap.size w w8) := (HBA.out.alloc (by simp; omega) (.cells #[.int .i64 x] 3)).grown hgr8 (by simp; omega) (fun j hj => by have := HBK j hj; omega)
        have HO3 : Hid (IntOwn w8 (w.heap.size + 1) (.slice (some ⟨b8, 0, none⟩) (L ++ [x]).length c8) (L ++ [x])) := by
          show World.ownsRow _ _ _ _ _ _ _
          rw [List.length_append, List.map_append]
          exact hown8
        clear HR2 hown8 hgr8 HBK
        go_roundw
        case measure => rw [HR3.out.left_eq, HRG.out.left_eq]; exact HLT.out
        case rel =>
          refine ⟨_, cnt1, some ⟨b8, 0, none⟩, c8, L ++ [x], HR3.out, by simp, HO3.out, by have := HLT.out; simp; omega, fun y => ?_, HST.out, HB3.out⟩
          rw [List.mem_append, List.mem_singleton, HM.out y]
          have e0 := HKK.out
          subst e0
          constructor
          · rintro (⟨h1, h2, h3⟩ | rfl)
            · exact ⟨h1, h2, by simp [h3]⟩
            · exact ⟨WX.out, HHD.out, by rw [(HSA.out y WX.out).2 ⟨rfl, rfl⟩]; simp⟩
          · rintro ⟨h1, h2, h3⟩
            cases hl : left (kl k y) with
            | false => exact .inl ⟨h1, h2, rfl⟩
            | true =>
              rw [hl, Bool.true_and, Bool.not_eq_false'] at h3
              exact .inr ((HSA.out y h1).1 h3).2
      · have hkb : (k == kind) = false := by simp [hkk]
        have HKK := Lib.hid hkk
        clear hkk
        go_wp2_with fail
        go_roundw
        case measure => rw [HRA.out.left_eq, HRG.out.left_eq]; exact HLT.out
        case rel =>
          refine ⟨_, cnt1, c, d, L, HRA.out, rfl, HOA.out, by have := HLT.out; omega, fun y => ?_, HST.out, HBA.out⟩
          rw [HM.out y]
          constructor
          · rintro ⟨h1, h2, h3⟩
            exact ⟨h1, h2, by simp [h3]⟩
          · rintro ⟨h1, h2, h3⟩
            refine ⟨h1, h2, ?_⟩
            cases hl : left (kl kind y) with
            | false => rfl
            | true =>
              rw [hl, Bool.true_and, Bool.not_eq_false'] at h3
              exact absurd ((HSA.out y h1).1 h3).1.symm HKK.out
end Go.Proofs.YtbiehpjhhopjaaaGreat
set_option linter.unusedVariables false
set_option linter.unusedSimpArgs false
namespace Go.Proofs.YtbiehpjhhopjaaaGreat
open Go.RowKit Go.Maps Go.Sort
/-- an area read off a set -/
structure SetAr (n : Nat) (S : Int → Int → Prop) (u : Ar) : Prop where
  ls : u.s.length ≤ n
  lp : u.p.length ≤ n
  lg : u.g.length ≤ n
  lr : u.r.length ≤ n
  s : ∀ x, x ∈ u.s ↔ ((Lit.int .i64 x).wf = true ∧ S 1 x)
  p : ∀ x, x ∈ u.p ↔ ((Lit.int .i64 x).wf = true ∧ S 2 x)
  g : ∀ x, x ∈ u.g ↔ ((Lit.int .i64 x).wf = true ∧ S 3 x)
  r : ∀ x, x ∈ u.r ↔ ((Lit.int .i64 x).wf = true ∧ S 4 x)
/-- an area whose four lists are one's own -/
def ArOwn (W : World) (B : Nat) (v1 v2 v3 v4 : Value) (u : Ar) : Prop := IntOwn W B v1 u.s ∧ IntOwn W B v2 u.p ∧ IntOwn W B v3 u.g ∧ IntOwn W B v4 u.r
theorem ArOwn.al {W : World} {B : Nat} {v1 v2 v3 v4 : Value} {u : Ar} (h : ArOwn W B v1 v2 v3 v4 u) : AL W v1 v2 v3 v4 u := ⟨h.1.ilv, h.2.1.ilv, h.2.2.1.ilv, h.2.2.2.ilv⟩
theorem ArOwn.setCell {W : World} {B : Nat} {v1 v2 v3 v4 : Value} {u : Ar} (h : ArOwn W B v1 v2 v3 v4 u) {a : Addr} (ha : a.block < B) (x : Value) : ArOwn (W.setCell a x) B v1 v2 v3 v4 u := ⟨own_setCell h.1 ha x, own_setCell h.2.1 ha x, own_setCell h.2.2.1 ha x, own_setCell h.2.2.2 ha x⟩
def SetArPost (w : World) (n : Nat) (S : Int → Int → Prop) (e : Ending) (w' : World) : Prop := ∃ v1 v2 v3 v4 u, e = .returned (.agg #[v1, v2, v3, v4]) ∧ ArOwn w' w.heap.size v1 v2 v3 v4 u ∧ SetAr n S u ∧ Below w.heap.size w w'
set_option maxRecDepth 100000 in
set_option maxHeartbeats 8000000 in
theorem setArea_any (b n : Nat) (S : Int → Int → Prop) (w : World) (hs : SetIs w b n S) (hn : n ≤ 1000) :
    Calls Tryz.prog 114 #[.map (some b)] w (SetArPost w n S) := by
  have HC : Hid (∀ (q : Int) (g : Nat) w', (Lit.int .u8 q).wf = true → Below w.heap.size w w' → w'.cell? ⟨g, 0, none⟩ = some (.map (some b)) → Calls Tryz.prog 204 #[.int .u8 q, .pointer (some ⟨g, 0, none⟩)] w' (SPost w' n (S q))) := fun q g w' hq hb hg => list_any q g b n S w' hg (hs.below hb) hn hq
  clear hs
  go_enter Tryz.func114, Tryz.ntmps114
  go_wp2_with fail
  generalize hW0 : (w.alloc (Obj.cells #[Value.map (some b)] 165)).alloc (Obj.cells #[Value.slice none 0 0, Value.slice none 0 0, Value.slice none 0 0, Value.slice none 0 0] 56) = W0
  have hsz0 : W0.heap.size = w.heap.size + 2 := by rw [← hW0]; simp
  have hc0 : Hid (W0.cell? ⟨w.heap.size, 0, none⟩ = some (.map (some b))) := by
    rw [← hW0]
    exact (cell_of_row _ _ 0 #[.map (some b)] 165 (0, 0) ((Go.RowKit.Below.heap_alloc _ _ _ (by simp)).trans (Go.MapKept.heap_alloc w _).1)).trans rfl
  have hr0 : Hid (W0.heap[w.heap.size + 1]? = some (.cells #[.slice none 0 0, .slice none 0 0, .slice none 0 0, .slice none 0 0] 56 (0, 0))) := by
    rw [← hW0]
    have := (Go.MapKept.heap_alloc (w.alloc (Obj.cells #[Value.map (some b)] 165)) (Obj.cells #[Value.slice none 0 0, Value.slice none 0 0, Value.slice none 0 0, Value.slice none 0 0] 56)).1
    have e : (w.alloc (Obj.cells #[Value.map (some b)] 165)).heap.size = w.heap.size + 1 := by simp
    rw [e] at this
    exact this
  have hb0 : Hid (Below w.heap.size w W0) := by rw [← hW0]; exact ((Below.refl _ _).alloc (Nat.le_refl _) _).alloc (by simp) _
  have hbb0 : Hid (Below (w.heap.size + 2) W0 W0) := Below.refl _ _
  clear hW0
  refine (HC.out 1 _ W0 rfl hb0.out ((hbb0.out.cell (by show w.heap.size < w.heap.size + 2; omega)).trans hc0.out)).mono ?_
  rintro e W1 ⟨v1, l1, rfl, ho1, hl1, hm1, hbe1⟩
  have O1 := Lib.hid ho1
  have L1 := Lib.hid hl1
  have M1 := Lib.hid hm1
  obtain ⟨a1, c1, rfl⟩ := IntOwn.slice ho1
  have B1 := Lib.hid hbe1
  have hb1 : Hid (Below w.heap.size w W1) := hb0.out.trans (hbe1.mono hb0.out.size)
  have hbb1 : Hid (Below (w.heap.size + 2) W0 W1) := hbb0.out.trans (hbe1.mono (by have := hbb0.out.size; omega))
  clear ho1 hl1 hm1 hbe1
  go_wp2_with fail
  refine (HC.out 2 _ W1 rfl hb1.out ((hbb1.out.cell (by show w.heap.size < w.heap.size + 2; omega)).trans hc0.out)).mono ?_
  rintro e W2 ⟨v2, l2, rfl, ho2, hl2, hm2, hbe2⟩
  have O2 := Lib.hid ho2
  have L2 := Lib.hid hl2
  have M2 := Lib.hid hm2
  obtain ⟨a2, c2, rfl⟩ := IntOwn.slice ho2
  have B2 := Lib.hid hbe2
  have hb2 : Hid (Below w.heap.size w W2) := hb1.out.trans (hbe2.mono hb1.out.size)
  have hbb2 : Hid (Below (w.heap.size + 2) W0 W2) := hbb1.out.trans (hbe2.mono (by have := hbb1.out.size; omega))
  clear ho2 hl2 hm2 hbe2
  go_wp2_with fail
  refine (HC.out 3 _ W2 rfl hb2.out ((hbb2.out.cell (by show w.heap.size < w.heap.size + 2; omega)).trans hc0.out)).mono ?_
  rintro e W3 ⟨v3, l3, rfl, ho3, hl3, hm3, hbe3⟩
  have O3 := Lib.hid ho3
  have L3 := Lib.hid hl3
  have M3 := Lib.hid hm3
  obtain ⟨a3, c3, rfl⟩ := IntOwn.slice ho3
  have B3 := Lib.hid hbe3
  have hb3 : Hid (Below w.heap.size w W3) := hb2.out.trans (hbe3.mono hb2.out.size)
  have hbb3 : Hid (Below (w.heap.size + 2) W0 W3) := hbb2.out.trans (hbe3.mono (by have := hbb2.out.size; omega))
  clear ho3 hl3 hm3 hbe3
  go_wp2_with fail
  refine (HC.out 4 _ W3 rfl hb3.out ((hbb3.out.cell (by show w.heap.size < w.heap.size + 2; omega)).trans hc0.out)).mono ?_
  rintro e W4 ⟨v4, l4, rfl, ho4, hl4, hm4, hbe4⟩
  have O4 := Lib.hid ho4
  have L4 := Lib.hid hl4
  have M4 := Lib.hid hm4
  obtain ⟨a4, c4, rfl⟩ := IntOwn.slice ho4
  have B4 := Lib.hid hbe4
  have hb4 : Hid (Below w.heap.size w W4) := hb3.out.trans (hbe4.mono hb3.out.size)
  have hbb4 : Hid (Below (w.heap.size + 2) W0 W4) := hbb3.out.trans (hbe4.mono (by have := hbb3.out.size; omega))
  clear ho4 hl4 hm4 hbe4
  have rr : W4.heap[w.heap.size + 1]? = some (.cells #[.slice none 0 0, .slice none 0 0, .slice none 0 0, .slice none 0 0] 56 (0, 0)) := (hbb4.out.block _ (by omega)).trans hr0.out
  have HRR := Lib.hid rr
  have z0 : W4.cell? ⟨w.heap.size + 1, 0, none⟩ = some (.slice none 0 0) := (cell_of_row W4 _ 0 _ _ _ rr).trans rfl
  have z1 : W4.cell? ⟨w.heap.size + 1, 1, none⟩ = some (.slice none 0 0) := (cell_of_row W4 _ 1 _ _ _ rr).trans rfl
  have z2 : W4.cell? ⟨w.heap.size + 1, 2, none⟩ = some (.slice none 0 0) := (cell_of_row W4 _ 2 _ _ _ rr).trans rfl
  have z3 : W4.cell? ⟨w.heap.size + 1, 3, none⟩ = some (.slice none 0 0) := (cell_of_row W4 _ 3 _ _ _ rr).trans rfl
  have ff : ∀ o, W4.frozen? ⟨w.heap.size + 1, o, none⟩ = false := fun o => by simp [World.frozen?, rr]
  have lr := lt_of_block rr
  have P1 : IntOwn W4 (w.heap.size + 2) (.slice a1 l1.length c1) l1 := own_below (own_below (own_below (own_base O1.out (by omega)) B2.out) B3.out) B4.out
  have P2 : IntOwn W4 (w.heap.size + 2) (.slice a2 l2.length c2) l2 := own_below (own_below (own_base O2.out (by have := hbb1.out.size; omega)) B3.out) B4.out
  have P3 : IntOwn W4 (w.heap.size + 2) (.slice a3 l3.length c3) l3 := own_below (own_base O3.out (by have := hbb2.out.size; omega)) B4.out
  have P4 : IntOwn W4 (w.heap.size + 2) (.slice a4 l4.length c4) l4 := own_base O4.out (by have := hbb3.out.size; omega)
  have HP : Hid (∀ W, Below (w.heap.size + 1) W4 W → (∀ v l, IntOwn W4 (w.heap.size + 2) v l → IntOwn W (w.heap.size + 2) v l) → SetArPost w n S (.returned (.agg #[.slice a1 l1.length c1, .slice a2 l2.length c2, .slice a3 l3.length c3, .slice a4 l4.length c4])) W) := fun W hb hk =>
    ⟨_, _, _, _, ⟨l1, l2, l3, l4⟩, rfl, ⟨own_base (hk _ _ P1) (by omega), own_base (hk _ _ P2) (by omega), own_base (hk _ _ P3) (by omega), own_base (hk _ _ P4) (by omega)⟩, ⟨L1.out, L2.out, L3.out, L4.out, M1.out, M2.out, M3.out, M4.out⟩, hb4.out.trans (hb.mono (by omega))⟩
  clear rr P1 P2 P3 P4
  go_wp2_with fail
  generalize hW5 : World.setCell (World.setCell (World.setCell (World.setCell W4 _ _) _ _) _ _) _ _ = W5
  have hb5 : Below (w.heap.size + 1) W4 W5 := by rw [← hW5]; exact ((((Below.refl _ _).setCell (by simp) _).setCell (by simp) _).setCell (by simp) _).setCell (by simp) _
  have ho5 : ∀ v l, IntOwn W4 (w.heap.size + 2) v l → IntOwn W5 (w.heap.size + 2) v l := fun v l h => by
    rw [← hW5]
    exact ownsRow_setCell_below (ownsRow_setCell_below (ownsRow_setCell_below (ownsRow_setCell_below h (by simp) _) (by simp) _) (by simp) _) (by simp) _
  refine bodyPost_ret (v := .agg #[.slice a1 l1.length c1, .slice a2 l2.length c2, .slice a3 l3.length c3, .slice a4 l4.length c4]) ?_ rfl (HP.out W5 hb5 ho5)
  rw [← hW5]
  simp [results, Tryz.f114, go_sem, z0, z1, z2, z3, lr]
end Go.Proofs.YtbiehpjhhopjaaaGreat
