/-
  Appends of slices of bytes.
-/
import Derived.Test.YtigkfjgmidnbhaaLaws
import Derived.Laws.AppendOwnNone
namespace Go.Proofs.Ytigkfjgmidnbhaa
open Go.RowKit
open CrcMath
def byv (l : List Nat) : List Value := l.map (fun c : Nat => Value.int .u8 (c : Int))
theorem byv_append (a b : List Nat) : byv (a ++ b) = byv a ++ byv b := by unfold byv; exact List.map_append
theorem BL.capof {w : World} {a : Option Addr} {len cap : Nat} {zs : List Int}
    (h : (a = none ∧ len = 0 ∧ cap = 0 ∧ zs = []) ∨
      ∃ x, a = some x ∧ len ≤ cap ∧ cap ≤ maxLen ∧ zs.length = cap ∧ (∀ i, i < zs.length → w.cell? (x.add i) = some (.int .u8 (zs.getD i 0))) ∧ ∀ n ∈ zs, (Lit.int .u8 n).wf = true) :
    a = none → cap = 0 := by
  rcases h with ⟨rfl, rfl, rfl, rfl⟩ | ⟨x, rfl, _⟩
  · intro _; rfl
  · intro e; cases e
theorem Try.info5 : (Try.prog.info? 5).map (fun i => (i.zero, i.size, i.bytes)) = some (some (.int .u8 0), 1, 1) := by kernel_rfl
theorem BL.add {w : World} {a : Option Addr} {len : Nat} {l : List Nat} (h : BL w a len l) (x : Addr) (hx : a = some x) : ∀ j u, (byv l)[j]? = some u → w.cell? (x.add j) = some u := by
  intro j u hu
  unfold byv at hu
  rw [List.getElem?_map] at hu
  cases hj : l[j]? with
  | none => rw [hj] at hu; cases hu
  | some c =>
    rw [hj] at hu
    obtain ⟨hlt, e⟩ := List.getElem?_eq_some_iff.1 hj
    obtain ⟨b, off, e2, hc⟩ := h.cell j hlt
    rw [hx] at e2
    cases e2
    have he : (⟨b, off, none⟩ : Addr).add j = ⟨b, off + j, none⟩ := by unfold Addr.add; split <;> simp_all
    rw [he, hc, e]
    exact hu
/-- append of a slice of bytes to one of the call's own -/
theorem wpList_append_bl {w : World} {ops : Array Oper} {rest : List Oper} {o : Oper} {a : Act} {Q : Exit → Act → World → Prop} (hgd : o.guard = none) (s x : Operand)
    (ho : o.op = .call { callee := .builtin .append, args := #[s, x], argTypes := #[25, 25] }) (base : Nat) (v : Value) (n : Nat) (xs : List Nat) (hs : a.eval s = v) (hown : w.ownsRow base 5 1 v n (byv xs))
    (a0 : Option Addr) (len cap : Nat) (l : List Nat) (hx : a.eval x = .slice a0 len cap) (hBL : BL w a0 len l) (hcap : a0 = none → cap = 0) (hn : n + len ≤ 1000000) (hbase : base ≤ w.heap.size)
    (h : ∀ v' w', w'.ownsRow base 5 1 v' (n + len) (byv (xs ++ l)) → w.grownBy w' v.ownBlock → wpList Try.prog ops Q rest (a.put o.dst v') w') : wpList Try.prog ops Q (o :: rest) a w := by
  obtain ⟨i0, hi, hz0, hz1, hz2⟩ := info_parts Try.info5
  cases a0 with
  | none =>
    have h0 : len = 0 := by
      have := hBL.len
      cases l with
      | nil => simpa using this.symm
      | cons c l => obtain ⟨b, off, e, _⟩ := hBL.cell 0 (by simp); cases e
    subst h0
    have hl : l = [] := List.eq_nil_of_length_eq_zero hBL.len
    subst hl
    rw [hcap rfl] at hx
    refine wpList_append_own_none hgd s x 25 ho base 5 i0 1 Try.underlying25 hi v n (byv xs) hs hown hx ?_
    have := h v w (by simpa using hown) ⟨rfl, rfl, rfl, Nat.le_refl _, fun _ _ _ => rfl⟩
    exact this
  | some ad =>
    refine wpList_append_own w hgd s x 25 ho base 5 i0 (.int .u8 0) 1 1 Try.underlying25 hi hz0 hz1 hz2 rfl (by decide) v n (byv xs) hs hown ad len cap (byv l) hx (by unfold byv; simp [hBL.len]) (hBL.add ad rfl) ?_ (by unfold maxLen; omega) (by omega) hbase ?_
    · intro u hu
      unfold byv at hu
      obtain ⟨c, _, rfl⟩ := List.mem_map.1 hu
      rfl
    · intro v' w' h1 h2 _
      exact h v' w' (by rw [byv_append]; exact h1) h2
theorem BL.of_own {w : World} {base : Nat} {v : Value} {n : Nat} {l : List Nat} (h : w.ownsRow base 5 1 v n (byv l)) (hl : ∀ i (h : i < l.length), l[i] < 256) :
    ∃ a cap, v = .slice a n cap ∧ BL w a n l ∧ (a = none → cap = 0) := by
  obtain ⟨h1, h2⟩ := h
  have hlen : l.length = n := by simpa [byv] using h1
  rcases h2 with ⟨rfl, rfl⟩ | ⟨g, cap, cur, rfl, hg, hc, hn, hm, hsz, ht⟩
  · have hl : l = [] := List.eq_nil_of_length_eq_zero hlen
    subst hl
    exact ⟨none, 0, rfl, BL.nil w, fun _ => rfl⟩
  · refine ⟨some ⟨g, 0, none⟩, cap, rfl, ⟨hlen, hl, fun i hi => ⟨g, 0, rfl, ?_⟩⟩, fun e => by cases e⟩
    rw [Nat.zero_add, cell_of_row w g i cur 5 _ hc, ← Array.getElem?_toList]
    have : (cur.toList.take (n * 1))[i]? = (byv l)[i]? := by rw [ht]
    rw [List.getElem?_take, if_pos (by omega)] at this
    rw [this]
    unfold byv
    rw [List.getElem?_map, List.getElem?_eq_getElem hi]
    rfl
theorem lt_append {a b : List Nat} (ha : ∀ i (h : i < a.length), a[i] < 256) (hb : ∀ i (h : i < b.length), b[i] < 256) : ∀ i (h : i < (a ++ b).length), (a ++ b)[i] < 256 := by
  intro i h
  rw [List.getElem_append]
  split
  · exact ha _ _
  · exact hb _ _
end Go.Proofs.Ytigkfjgmidnbhaa
