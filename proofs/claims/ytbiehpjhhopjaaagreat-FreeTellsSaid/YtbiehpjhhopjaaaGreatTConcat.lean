/-
 slices.Concat of two lists of numbers, walked.
-/
import Derived.Test.YtbiehpjhhopjaaaGreatTClone
import Derived.Test.YtbiehpjhhopjaaaGreatTPlanF
import Derived.Lib.AppendZeros
import Derived.Laws.AppendOwnNone
set_option linter.unusedVariables false
set_option linter.unusedSimpArgs false
namespace Go.Proofs.YtbiehpjhhopjaaaGreat
open Go.RowKit
set_option maxRecDepth 100000 in
theorem grow_any (n : Nat) (w : World) (hn : n ≤ 1000) :
  Calls Tryz.prog 382 #[.slice none 0 0, .int .i64 (n : Int)] w fun e w' => ∃ v, e = .returned v ∧ w'.ownsRow w.heap.size 3 1 v 0 [] ∧ Below w.heap.size w w' := by
 have c0 : (0 : Int) ≤ (n : Int) := by omega
 have t0 : decide ((n : Int) < 0) = false := by simp
 by_cases h : n = 0
 ·subst h
  go_enter Tryz.func382, Tryz.ntmps382
  go_wp2_with fail
  go_ret
  exact ⟨_, rfl, World.ownsRow_nil _ _ _ _, Below.refl _ _⟩
 ·have t1 : decide (0 < (n : Int)) = true := by simp; omega
  have t2 : decide (0 < n) = true := by simp; omega
  obtain ⟨i0, hi, hz0, hz1, hz2⟩ := info_parts info3
  obtain ⟨C, row, hrun, hc1, hc2, hrow⟩ : ∃ (C : Nat) (row : Array Value), (∀ ty, (Builtin.append_ #[54, 3] ty #[.slice none 0 0, .int .i64 (n : Int)]).run Tryz.prog w = .ok (.slice (some ⟨w.heap.size, 0, none⟩) n C) (w.drew.alloc (.cells row 3))) ∧ n ≤ C ∧ C ≤ maxLen ∧ row.size = C := by
   have h1 := grownCap_ge w n 0 3
   refine ⟨grownCap w n 0 3, _, fun ty => Go.Lib.run_append_nil_zeros w 54 3 ty 3 i0 (.int .i64 0) .i64 .i64 Tryz.underlying54 Tryz.underlying3 hi hz0 n (by omega) (by rw [hz1]; decide) (by omega) (by rw [hz2]; omega), h1, grownCap_le_maxLen w n 0 3 (by unfold maxLen; omega), ?_⟩
   simp [Builtin.zeroCells, Value.cells]
   omega
  have hrun := hrun 54
  have d0 : (C : Int) ≥ 0 := by omega
  go_enter Tryz.func382, Tryz.ntmps382
  go_wp2_with (at_builtin; refine Go.Lib.wpList_append_run _ rfl _ _ _ _ rfl _ _ rfl rfl _ _ hrun ?_)
  go_ret
  refine ⟨_, rfl, ⟨rfl, .inr ⟨w.heap.size, C, row, rfl, Nat.le_refl _, heap_alloc_new _ _, Nat.zero_le _, hc2, by rw [hrow, Nat.mul_one], rfl⟩⟩, (Below.refl _ w).drew.alloc (Nat.le_refl _) _⟩
theorem IntOwn.slice {w : World} {base : Nat} {v : Value} {l : List Int} (h : IntOwn w base v l) : ∃ a c, v = .slice a l.length c := by
 rcases h.2 with ⟨rfl, h0⟩ | ⟨g, cap, cur, rfl, _⟩
 ·exact ⟨none, 0, by rw [h0]⟩
 ·exact ⟨_, _, rfl⟩
theorem wpList_append_ints {w : World} {ops : Array Oper} {rest : List Oper} {o : Oper} {a : Act} {Q : Exit → Act → World → Prop} (hgd : o.guard = none) (s x : Operand)
  (ho : o.op = .call { callee := .builtin .append, args := #[s, x], argTypes := #[54, 54] }) (base : Nat) (v : Value) (xs : List Int) (hs : a.eval s = v) (hown : IntOwn w base v xs)
  (a0 : Option Addr) (cap : Nat) (l : List Int) (hx : a.eval x = .slice a0 l.length cap) (hl : IL w a0 l.length l) (hn : xs.length + l.length ≤ 1000) (hbase : base ≤ w.heap.size)
  (h : ∀ a' c' w', IntOwn w' base (.slice a' (xs ++ l).length c') (xs ++ l) → w.grownBy w' v.ownBlock → wpList Tryz.prog ops Q rest (a.put o.dst (.slice a' (xs ++ l).length c')) w') : wpList Tryz.prog ops Q (o :: rest) a w := by
 obtain ⟨i0, hi, hz0, hz1, hz2⟩ := info_parts info3
 by_cases h0 : l = []
 ·subst h0
  have hrun : (Builtin.append_ #[54, 54] o.type #[v, .slice a0 0 cap]).run Tryz.prog w = .ok v w := by
   rcases hown.2 with ⟨rfl, hz⟩ | ⟨g, cp, cur, rfl, _, _, hnc, _⟩
   ·cases a0 <;> simp [Builtin.append_, run_underlying Tryz.underlying54, sizeOf, typeInfo, hi, Builtin.lenOf, Builtin.firstCells, loadCells, loadCellsFrom]
   ·cases a0 <;> simp [Builtin.append_, run_underlying Tryz.underlying54, sizeOf, typeInfo, hi, Builtin.lenOf, Builtin.firstCells, hnc, storeCells, loadCells, loadCellsFrom]
  obtain ⟨a', c', rfl⟩ := hown.slice
  have hk := h a' c' w (by simpa using hown) ⟨rfl, rfl, rfl, Nat.le_refl _, fun _ _ _ => rfl⟩
  refine Go.Lib.wpList_append_run w hgd s x 54 54 ho _ _ hs hx _ _ hrun ?_
  simpa using hk
 ·obtain ⟨b, off, rfl, -⟩ := hl.cell 0 (List.length_pos_iff.2 h0)
  refine wpList_append_own_at w hgd s x 54 ho base 3 i0 (.int .i64 0) 1 8 Tryz.underlying54 hi hz0 hz1 hz2 rfl (by decide) v xs.length _ hs hown ⟨b, off, none⟩ l.length cap (l.map (.int .i64)) hx (by simp) ?_ ?_ (by unfold maxLen; omega) (by omega) hbase ?_
  ·intro j u hj
   rw [Addr.add_lit]
   exact hl.reads j u hj
  ·intro u hu
   obtain ⟨y, -, rfl⟩ := List.mem_map.1 hu
   rfl
  ·intro v' w' h1 h2 _ _
   have h1 : IntOwn w' base v' (xs ++ l) := by
    unfold IntOwn
    rw [List.length_append, List.map_append]
    exact h1
   obtain ⟨a', c', rfl⟩ := h1.slice
   exact h a' c' w' h1 h2
set_option maxRecDepth 100000 in
set_option maxHeartbeats 2000000 in
theorem concat_any (b : Nat) (a1 a2 : Option Addr) (c1 c2 : Nat) (l1 l2 : List Int) (w : World) (h0 : w.cell? ⟨b, 0, none⟩ = some (.slice a1 l1.length c1)) (h1 : w.cell? ⟨b, 1, none⟩ = some (.slice a2 l2.length c2)) (k1 : IL w a1 l1.length l1) (k2 : IL w a2 l2.length l2) (hm1 : l1.length ≤ 400) (hm2 : l2.length ≤ 400) :
  Calls Tryz.prog 302 #[.slice (some ⟨b, 0, none⟩) 2 2] w fun e w' => ∃ a c, e = .returned (.slice a (l1 ++ l2).length c) ∧ IntOwn w' w.heap.size (.slice a (l1 ++ l2).length c) (l1 ++ l2) ∧ Below w.heap.size w w' := by
 have HK : Hid (∃ (sz : Nat → Nat) (cat : Nat → List Int), sz 0 = 0 ∧ sz 2 = (l1 ++ l2).length ∧ cat 0 = [] ∧ cat 2 = l1 ++ l2 ∧ (∀ k, k ≤ 2 → sz k ≤ 800 ∧ (cat k).length = sz k) ∧ ∀ k, k < 2 → ∃ (a : Option Addr) (c : Nat) (l : List Int), (∀ w', Below w.heap.size w w' → w'.cell? ⟨b, k, none⟩ = some (.slice a l.length c) ∧ IL w' a l.length l) ∧ sz (k + 1) = sz k + l.length ∧ cat (k + 1) = cat k ++ l) := by
  refine ⟨fun k => if k = 0 then 0 else if k = 1 then l1.length else (l1 ++ l2).length, fun k => if k = 0 then [] else if k = 1 then l1 else l1 ++ l2, rfl, rfl, rfl, rfl, fun k hk => ?_, fun k hk => ?_⟩
  ·rcases (show k = 0 ∨ k = 1 ∨ k = 2 by omega) with rfl | rfl | rfl
   ·simp
   ·simp; omega
   ·simp; omega
  ·rcases (show k = 0 ∨ k = 1 by omega) with rfl | rfl
   ·exact ⟨a1, c1, l1, fun w' hb => ⟨ccell hb h0, k1.below hb⟩, by simp, by simp⟩
   ·exact ⟨a2, c2, l2, fun w' hb => ⟨ccell hb h1, k2.below hb⟩, by simp, by simp⟩
 have lb := World.block_lt_of_cell? _ _ h0
 clear h0 h1 k1 k2
 obtain ⟨sz, cat, z0, z2, y0, y2, hsz, hk⟩ := HK.out
 have HSZ := Lib.hid hsz
 have HKK := Lib.hid hk
 have HY2 := Lib.hid y2
 rw [← y2]
 have hz2 : (cat 2).length = sz 2 := (hsz 2 (by omega)).2
 have HZ2 := Lib.hid z2
 have HZ0 := Lib.hid hz2
 clear HK hsz hk y2 z2 hz2
 go_enter Tryz.func302, Tryz.ntmps302
 go_wp2_with fail
 go_loopg [3, 11] 2 (fun g i j wr => ∃ k : Nat, k ≤ 2 ∧ g = 2 - k ∧ i = .int .i64 (sz k) ∧ j = .int .i64 k ∧ w = wr)
 case atStart => exact ⟨0, by omega, by omega, by rw [z0]; rfl, rfl, rfl⟩
 case round =>
  obtain ⟨k, hk, rfl, rfl, rfl, rfl⟩ := hrel
  by_cases hlt : k < 2
  ·have hdk : decide ((k : Int) < 2) = true := by simp; omega
   obtain ⟨a, c, l, hr, e1, e2⟩ := HKK.out k hlt
   have x0 := (hr _ (Below.refl _ _)).1
   have e0 : (0 : Int) ≤ (k : Int) := by omega
   have e3 : (k : Int) < 2 := by omega
   have hs := HSZ.out (k + 1) (by omega)
   have t0 : decide (((sz k : Nat) : Int) + (l.length : Int) < 0) = false := by simp; omega
   have b1 : sz k + l.length ≤ 800 := by omega
   clear hr e2
   go_wp2_with fail
   go_roundg (2 - (k + 1))
   case measure => go_light; omega
   case rel => go_light; exact ⟨k + 1, by omega, by omega, by rw [e1]; go_num, by go_num, rfl⟩
  ·obtain rfl : k = 2 := by omega
   have hdk : decide ((2 : Int) < 2) = false := rfl
   have hs := (HSZ.out 2 (by omega)).1
   go_wp2_with fail
   refine (grow_any (sz 2) _ (by omega)).mono ?_
   rintro e w1 ⟨v, rfl, hown, hb1⟩
   have HB1 := Lib.hid hb1
   have HO1 : Hid (IntOwn w1 w.heap.size v (cat 0)) := by show IntOwn _ _ _ _; rw [y0]; exact hown
   obtain ⟨va, vc, rfl⟩ := HO1.out.slice
   clear hown hb1 hs
   go_wp2_with fail
   go_loopg [6, 27] 2 (fun g i j wr => ∃ (k : Nat) (a : Option Addr) (c : Nat), k ≤ 2 ∧ g = 2 - k ∧ i = .slice a (cat k).length c ∧ j = .int .i64 k ∧ Below w.heap.size w wr ∧ IntOwn wr w.heap.size (.slice a (cat k).length c) (cat k))
   case atStart => exact ⟨0, va, vc, by omega, by omega, by rw [y0]; rfl, rfl, HB1.out, HO1.out⟩
   case round =>
    obtain ⟨k, a, c, hk, rfl, rfl, rfl, hb, ho⟩ := hrel
    have HB := Lib.hid hb
    have HO := Lib.hid ho
    have hbs := hb.size
    clear hb ho
    by_cases hlt : k < 2
    ·have hdk : decide ((k : Int) < 2) = true := by simp; omega
     obtain ⟨a', c', l, hr, e1, e2⟩ := HKK.out k hlt
     have x0 := (hr _ HB.out).1
     have HX := Lib.hid (hr _ HB.out).2
     have e0 : (0 : Int) ≤ (k : Int) := by omega
     have e3 : (k : Int) < 2 := by omega
     have hs := (HSZ.out (k + 1) (by omega)).1
     have hs2 := (HSZ.out k (by omega)).2
     have HE2 := Lib.hid e2
     have hll : (cat k).length + l.length ≤ 1000 := by omega
     clear hr e2 e1 hs hs2
     go_wp2_with (at_builtin; refine wpList_append_ints rfl _ _ rfl w.heap.size _ (cat k) rfl HO.out a' c' l rfl HX.out hll hbs ?_; intro a3 c3 w3 hown hgr)
     rw [← HE2.out] at hown
     go_roundg (2 - (k + 1))
     case measure => go_light; omega
     case rel => go_light; exact ⟨k + 1, a3, c3, by omega, by omega, by rw [HE2.out, List.length_append], by go_num, HB.out.trans (grown_below HO.out (Nat.le_refl _) hbs hgr), hown⟩
    ·obtain rfl : k = 2 := by omega
     have hdk : decide ((2 : Int) < 2) = false := rfl
     go_wp2_with fail
     go_ret
     exact ⟨a, c, rfl, HO.out, HB.out⟩
end Go.Proofs.YtbiehpjhhopjaaaGreat
