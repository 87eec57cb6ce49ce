/-
  Slices of bytes that read as lists: what comes in, texts, constants, appends.
-/
import Derived.Test.YtinmggkofdjblaaPut
import Derived.OpenShut
import Derived.Lib.SlBytesConst
import Derived.Laws.AppendOwnNone
import Derived.WalkLawsBesides
import Derived.WalkSpells
namespace Go.Proofs.Ytinmggkofdjblaa
open Go.RowKit
open CodeMath
/-- a slice of bytes that reads as a list -/
structure BL (w : World) (a : Option Addr) (len : Nat) (l : List Nat) : Prop where
  len : l.length = len
  lt : ∀ i (h : i < l.length), l[i] < 256
  cell : ∀ i (h : i < l.length), ∃ b off, a = some ⟨b, off, none⟩ ∧ w.cell? ⟨b, off + i, none⟩ = some (.int .u8 (l[i] : Int))
theorem BL.below {w w' : World} {a : Option Addr} {len : Nat} {l : List Nat} (h : BL w a len l) (hb : Below w.heap.size w w') : BL w' a len l :=
  ⟨h.len, h.lt, fun i hi => by
    obtain ⟨b, off, e, hc⟩ := h.cell i hi
    exact ⟨b, off, e, (hb.cell (p := ⟨b, off + i, none⟩) (block_lt_of_cell hc)).trans hc⟩⟩
theorem BL.of_row {w : World} {a : Option Addr} {len cap : Nat} {zs : List Int}
    (h : (a = none ∧ len = 0 ∧ cap = 0 ∧ zs = []) ∨
      ∃ x, a = some x ∧ len ≤ cap ∧ cap ≤ maxLen ∧ zs.length = cap ∧ (∀ i, i < zs.length → w.cell? (x.add i) = some (.int .u8 (zs.getD i 0))) ∧ ∀ n ∈ zs, (Lit.int .u8 n).wf = true) :
    ∃ l, BL w a len l := by
  rcases h with ⟨rfl, rfl, rfl, rfl⟩ | ⟨x, rfl, hl, hm, hz, hcell, hwz⟩
  · exact ⟨[], rfl, fun i h => by simp at h, fun i h => by simp at h⟩
  · have hb : ∀ i (h : i < zs.length), 0 ≤ zs[i] ∧ zs[i] ≤ 255 := fun i h => bounds_u8 (hwz _ (List.getElem_mem h))
    refine ⟨(zs.take len).map Int.toNat, by simp; omega, fun i h => ?_, fun i h => ?_⟩
    · simp only [List.getElem_map, List.getElem_take]
      have := hb i (by simp at h; omega)
      omega
    · have hi : i < zs.length := by simp at h; omega
      obtain ⟨b, off, spot⟩ := x
      have hc := hcell 0 (by omega)
      have hs : spot = none := by simpa [Addr.add] using World.cell?_spot hc
      subst hs
      refine ⟨b, off, rfl, ?_⟩
      have he : (⟨b, off, none⟩ : Addr).add i = ⟨b, off + i, none⟩ := by unfold Addr.add; split <;> simp_all
      have := hb i hi
      rw [← he, hcell i hi]
      simp only [List.getElem_map, List.getElem_take, List.getD_eq_getElem?_getD, List.getElem?_eq_getElem hi, Option.getD_some]
      rw [Int.toNat_of_nonneg this.1]
theorem BL.nil (w : World) : BL w none 0 [] := ⟨rfl, fun i h => by simp at h, fun i h => by simp at h⟩
/-- as text -/
def strB (l : List Nat) : ByteArray := strOfNums (l.map Int.ofNat)
theorem BL.str {w : World} {a : Option Addr} {len : Nat} {l : List Nat} (h : BL w a len l) (cap : Nat) :
    Sem.run Try.prog (convert 23 9 (.slice a len cap)) w = .ok (.string (strB l)) w := by
  obtain ⟨h1, h2, h3⟩ := h
  cases a with
  | none =>
    cases l with
    | nil =>
      have : strB [] = ByteArray.empty := rfl
      rw [this]
      exact run_convert_bytes_nil w 23 5 Try.underlying23 Try.underlying5 _ _ 9 Try.underlying9
    | cons c l => obtain ⟨b, off, e, _⟩ := h3 0 (by simp); cases e
  | some x =>
    cases l with
    | nil =>
      simp at h1
      subst h1
      rw [run_convert_bytes_string w 23 9 5 _ _ _ Try.underlying23 Try.underlying5 Try.underlying9]
      exact run_bytesToString w x 0 cap [] (by simp [loadCells, loadCellsFrom, Sem.run_pure])
    | cons c l =>
      obtain ⟨b, off, e, _⟩ := h3 0 (by simp)
      cases e
      refine run_convert_bytes_arg w 23 5 Try.underlying23 Try.underlying5 b off len cap ((c :: l).map Int.ofNat) (by simpa using h1) (fun i hi => ?_) 9 Try.underlying9
      obtain ⟨b', off', e, hc⟩ := h3 i (by omega)
      cases e
      rw [hc]
      rw [List.getD_eq_getElem?_getD, List.getElem?_map, List.getElem?_eq_getElem (show i < (c :: l).length by omega)]
      rfl
/-- a slice over a block of the call's own that holds constants -/
theorem BL.lit {w : World} {g : Nat} {l : List Nat} {cs : Array Value} {t : TypeId} {fr : Nat × Nat} (hg : w.heap[g]? = some (.cells cs t fr)) (hl : ∀ x ∈ l, x < 256)
    (hc : cs.toList = l.map (fun c : Nat => Value.int .u8 (c : Int))) : BL w (some ⟨g, 0, none⟩) l.length l := by
  refine ⟨rfl, fun i h => hl _ (List.getElem_mem h), fun i h => ⟨g, 0, rfl, ?_⟩⟩
  rw [Nat.zero_add, cell_of_row w g i cs t fr hg, ← Array.getElem?_toList, hc, List.getElem?_map, List.getElem?_eq_getElem h]
  rfl
theorem ret_bool {a b : Bool} (h : a = b) : Ending.returned (.bool a) = .returned (.bool b) := by rw [h]
theorem BL.capof {w : World} {a : Option Addr} {len cap : Nat} {zs : List Int}
    (h : (a = none ∧ len = 0 ∧ cap = 0 ∧ zs = []) ∨
      ∃ x, a = some x ∧ len ≤ cap ∧ cap ≤ maxLen ∧ zs.length = cap ∧ (∀ i, i < zs.length → w.cell? (x.add i) = some (.int .u8 (zs.getD i 0))) ∧ ∀ n ∈ zs, (Lit.int .u8 n).wf = true) :
    a = none → cap = 0 := by
  rcases h with ⟨rfl, rfl, rfl, rfl⟩ | ⟨x, rfl, _⟩
  · intro _; rfl
  · intro e; cases e
theorem BL.add {w : World} {a : Option Addr} {len : Nat} {l : List Nat} (h : BL w a len l) (x : Addr) (hx : a = some x) : ∀ j u, (byv l)[j]? = some u → w.cell? (x.add j) = some u := by
  intro j u hu
  unfold byv at hu
  rw [List.getElem?_map] at hu
  cases hj : l[j]? with
  | none => rw [hj] at hu; cases hu
  | some c =>
    rw [hj] at hu
    obtain ⟨hlt, e⟩ := List.getElem?_eq_some_iff.1 hj
    obtain ⟨b, off, e2, hc⟩ := h.cell j hlt
    rw [hx] at e2
    cases e2
    have he : (⟨b, off, none⟩ : Addr).add j = ⟨b, off + j, none⟩ := by unfold Addr.add; split <;> simp_all
    rw [he, hc, e]
    exact hu
/-- append of a slice of bytes to one of the call's own -/
theorem wpList_append_bl {w : World} {ops : Array Oper} {rest : List Oper} {o : Oper} {a : Act} {Q : Exit → Act → World → Prop} (hgd : o.guard = none) (s x : Operand)
    (ho : o.op = .call { callee := .builtin .append, args := #[s, x], argTypes := #[23, 23] }) (base : Nat) (v : Value) (n : Nat) (xs : List Nat) (hs : a.eval s = v) (hown : w.ownsRow base 5 1 v n (byv xs))
    (a0 : Option Addr) (len cap : Nat) (l : List Nat) (hx : a.eval x = .slice a0 len cap) (hBL : BL w a0 len l) (hcap : a0 = none → cap = 0) (hn : n + len ≤ 1000000) (hbase : base ≤ w.heap.size)
    (h : ∀ v' w', w'.ownsRow base 5 1 v' (n + len) (byv (xs ++ l)) → w.grownBy w' v.ownBlock → wpList Try.prog ops Q rest (a.put o.dst v') w') : wpList Try.prog ops Q (o :: rest) a w := by
  obtain ⟨i0, hi, hz0, hz1, hz2⟩ := info_parts Try.info5
  cases a0 with
  | none =>
    have h0 : len = 0 := by
      have := hBL.len
      cases l with
      | nil => simpa using this.symm
      | cons c l => obtain ⟨b, off, e, _⟩ := hBL.cell 0 (by simp); cases e
    subst h0
    have hl : l = [] := List.eq_nil_of_length_eq_zero hBL.len
    subst hl
    rw [hcap rfl] at hx
    refine wpList_append_own_none hgd s x 23 ho base 5 i0 1 Try.underlying23 hi v n (byv xs) hs hown hx ?_
    have := h v w (by simpa using hown) ⟨rfl, rfl, rfl, Nat.le_refl _, fun _ _ _ => rfl⟩
    exact this
  | some ad =>
    refine wpList_append_own w hgd s x 23 ho base 5 i0 (.int .u8 0) 1 1 Try.underlying23 hi hz0 hz1 hz2 rfl (by decide) v n (byv xs) hs hown ad len cap (byv l) hx (by unfold byv; simp [hBL.len]) (hBL.add ad rfl) ?_ (by unfold maxLen; omega) (by omega) hbase ?_
    · intro u hu
      unfold byv at hu
      obtain ⟨c, _, rfl⟩ := List.mem_map.1 hu
      rfl
    · intro v' w' h1 h2 _
      exact h v' w' (by rw [byv_append]; exact h1) h2
theorem BL.of_own {w : World} {base : Nat} {v : Value} {n : Nat} {l : List Nat} (h : w.ownsRow base 5 1 v n (byv l)) (hl : ∀ i (h : i < l.length), l[i] < 256) :
    ∃ a cap, v = .slice a n cap ∧ BL w a n l ∧ (a = none → cap = 0) := by
  obtain ⟨h1, h2⟩ := h
  have hlen : l.length = n := by simpa [byv] using h1
  rcases h2 with ⟨rfl, rfl⟩ | ⟨g, cap, cur, rfl, hg, hc, hn, hm, hsz, ht⟩
  · have hl : l = [] := List.eq_nil_of_length_eq_zero hlen
    subst hl
    exact ⟨none, 0, rfl, BL.nil w, fun _ => rfl⟩
  · refine ⟨some ⟨g, 0, none⟩, cap, rfl, ⟨hlen, hl, fun i hi => ⟨g, 0, rfl, ?_⟩⟩, fun e => by cases e⟩
    rw [Nat.zero_add, cell_of_row w g i cur 5 _ hc, ← Array.getElem?_toList]
    have : (cur.toList.take (n * 1))[i]? = (byv l)[i]? := by rw [ht]
    rw [List.getElem?_take, if_pos (by omega)] at this
    rw [this]
    unfold byv
    rw [List.getElem?_map, List.getElem?_eq_getElem hi]
    rfl
theorem lt_append {a b : List Nat} (ha : ∀ i (h : i < a.length), a[i] < 256) (hb : ∀ i (h : i < b.length), b[i] < 256) : ∀ i (h : i < (a ++ b).length), (a ++ b)[i] < 256 := by
  intro i h
  rw [List.getElem_append]
  split
  · exact ha _ _
  · exact hb _ _
theorem own_ge {w : World} {base B : Nat} {v : Value} {n : Nat} {xs : List Value} {k : Nat} (h : w.ownsRow base 5 1 v n xs) (e : v.ownBlock = some k) (hB : B ≤ base) : B ≤ k := by
  rcases h.2 with ⟨rfl, _⟩ | ⟨g, cap, cur, rfl, hg, _⟩
  · cases e
  · cases e; exact Nat.le_trans hB hg
theorem byv_set (l : List Nat) (i v : Nat) : (byv l).set i (.int .u8 (v : Int)) = byv (l.set i v) := by unfold byv; rw [List.map_set]
theorem lt_set {l : List Nat} (h : ∀ i (h : i < l.length), l[i] < 256) (j v : Nat) (hv : v < 256) : ∀ i (h : i < (l.set j v).length), (l.set j v)[i] < 256 := by
  intro i hi
  rw [List.getElem_set]
  split
  · exact hv
  · exact h i (by simpa using hi)
theorem strB_inj {a b : List Nat} (ha : ∀ i (h : i < a.length), a[i] < 256) (hb : ∀ i (h : i < b.length), b[i] < 256) : strB a = strB b ↔ a = b := by
  constructor
  · intro h
    have h2 : (a.map Int.ofNat).map (fun n => UInt8.ofNat n.toNat) = (b.map Int.ofNat).map (fun n => UInt8.ofNat n.toNat) := by
      have := congrArg (fun s : ByteArray => s.data.toList) h
      simpa [strB, strOfNums_data] using this
    simp only [List.map_map] at h2
    have hl : a.length = b.length := by simpa using congrArg List.length h2
    apply List.ext_getElem hl
    intro i h1 h3
    have h4 := congrArg (fun l => l[i]?) h2
    simp only [List.getElem?_map, List.getElem?_eq_getElem h1, List.getElem?_eq_getElem h3, Option.map_some, Option.some.injEq, Function.comp_apply] at h4
    have h5 := congrArg UInt8.toNat h4
    simp at h5
    have := ha i h1
    have := hb i h3
    omega
  · rintro rfl; rfl
theorem strB_toList {a b : List Nat} (e : (strB a).toList = (strB b).toList) : strB a = strB b := by
  rw [ByteArray.toList_eq, ByteArray.toList_eq] at e
  have := Array.toList_inj.1 e
  cases ha : strB a; cases hb : strB b
  simp_all
end Go.Proofs.Ytinmggkofdjblaa
