/-
  slices.Clone of numbers, walked.
-/
import Derived.Test.YtbiehpjhhopjaaaGreatMem
import Derived.Lib.SliceRun
set_option linter.unusedVariables false
namespace Go.Proofs.YtbiehpjhhopjaaaGreat
open Go.RowKit
theorem info3 : (Tryz.prog.info? 3).map (fun i => (i.zero, i.size, i.bytes)) = some (some (.int .i64 0), 1, 8) := by kernel_rfl
/-- numbers in memory of one's own -/
def IntOwn (w : World) (base : Nat) (v : Value) (l : List Int) : Prop := w.ownsRow base 3 1 v l.length (l.map (.int .i64))
theorem IntOwn.ilv {w : World} {base : Nat} {v : Value} {l : List Int} (h : IntOwn w base v l) : ILv w v l := ilv_of_own h
theorem IL.reads {w : World} {b off : Nat} {l : List Int} (h : IL w (some ⟨b, off, none⟩) l.length l) : ∀ j u, (l.map (Value.int .i64))[j]? = some u → w.cell? ⟨b, off + j, none⟩ = some u := by
  intro j u hj
  rw [List.getElem?_map, Option.map_eq_some_iff] at hj
  obtain ⟨x, hx, rfl⟩ := hj
  obtain ⟨hlt, rfl⟩ := List.getElem?_eq_some_iff.1 hx
  obtain ⟨b', off', e, hc⟩ := h.cell j hlt
  cases e
  exact hc
set_option maxRecDepth 100000 in
theorem clone_any (a : Option Addr) (cap : Nat) (l : List Int) (w : World) (hl : IL w a l.length l) (hm : l.length ≤ 1000) :
    Calls Tryz.prog 210 #[.slice a l.length cap] w fun e w' => ∃ v, e = .returned v ∧ IntOwn w' w.heap.size v l ∧ Below w.heap.size w w' := by
  have q : ∀ (w : World) (a : Option Addr) (n c n' c' : Nat), (binOp .eql 54 (.slice a n c) (.slice none n' c')).run Tryz.prog w = .ok (.bool a.isNone) w := fun w a n c n' c' => Go.Lib.run_eql_slice_nil w _ _ a n c n' c' Tryz.underlying54
  obtain ⟨i0, hi, hz0, hz1, hz2⟩ := info_parts info3
  cases a with
  | none =>
    have h0 : l = [] := by
      cases l with
      | nil => rfl
      | cons c l => obtain ⟨b, off, e, _⟩ := hl.cell 0 (by simp); cases e
    subst h0
    go_enter Tryz.func210, Tryz.ntmps210
    go_wp2_with fail
    go_ret
    exact ⟨_, rfl, World.ownsRow_nil _ _ _ _, Below.refl _ _⟩
  | some ad =>
    by_cases h0 : l = []
    · subst h0
      go_enter Tryz.func210, Tryz.ntmps210
      go_wp2_with fail
      go_ret
      exact ⟨_, rfl, World.ownsRow_made w #[] 0 (Nat.le_refl _) (Nat.zero_le _) (by simp), (Below.refl _ _).alloc (Nat.le_refl _) _⟩
    · obtain ⟨b, off, e, -⟩ := hl.cell 0 (List.length_pos_iff.2 h0)
      cases e
      have HR := Lib.hid hl.reads
      have HN : Hid ((l.map (Value.int .i64)).length = l.length * 1) := by show _ = _; simp
      have H1 : Hid (∀ u ∈ l.map (Value.int .i64), u.oneCell' = true) := by
        intro u hu
        obtain ⟨x, -, rfl⟩ := List.mem_map.1 hu
        rfl
      have HL : Hid (∀ v W, W.ownsRow w.heap.size 3 1 v (0 + l.length) ([] ++ l.map (Value.int .i64)) → IntOwn W w.heap.size v l) := fun v W h => by rw [Nat.zero_add] at h; exact h
      generalize hq : l.map (Value.int .i64) = news at *
      have HC : Hid (∀ j u, news[j]? = some u → (w.alloc (.cells #[] 3)).cell? ((⟨b, off, none⟩ : Addr).add j) = some u) := fun j u hj => by
        rw [Addr.add_lit]
        exact (((Below.refl w.heap.size w).alloc (Nat.le_refl _) _).cell (p := ⟨b, off + j, none⟩) (block_lt_of_cell (HR.out j u hj))).trans (HR.out j u hj)
      have hlen : Hid (0 < l.length) := List.length_pos_iff.2 h0
      clear hl h0 hq
      go_enter Tryz.func210, Tryz.ntmps210
      go_wp2_with (at_builtin; refine wpList_append_own_at _ rfl _ _ 54 rfl w.heap.size 3 i0 (.int .i64 0) 1 8 Tryz.underlying54 hi hz0 hz1 hz2 rfl (by decide) _ _ _ rfl (World.ownsRow_made w #[] 0 (Nat.le_refl _) (Nat.zero_le _) (by simp)) ⟨b, off, none⟩ l.length cap news rfl HN.out HC.out H1.out (by unfold maxLen; omega) (by omega) (by simp) ?_; intro v' w' hown hgr hnil hat)
      have hgr : (w.alloc (.cells #[] 3)).grownBy w' (some w.heap.size) := hgr
      go_ret
      exact ⟨_, rfl, HL.out _ _ hown, (((Below.refl _ w).alloc (Nat.le_refl _) _).grown hgr (by simp) (by intro k hk; cases hk; exact Nat.le_refl _))⟩
end Go.Proofs.YtbiehpjhhopjaaaGreat
