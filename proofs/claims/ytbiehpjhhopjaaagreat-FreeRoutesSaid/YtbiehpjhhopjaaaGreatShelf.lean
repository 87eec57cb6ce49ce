/-
  slices.Sort and slices.Compact, of numbers, from the shelf.
-/
import Derived.Test.YtbiehpjhhopjaaaGreatClone
import Derived.Shelf.SortM.Plain
import Derived.Shelf.SortM.SortNone
import Derived.Ground.SlgmProg
import Derived.Shelf.Slices.CompactI
import Derived.Ground.Names2Prog
import Derived.Sort.OwnSortedInts
import Derived.Lib.RowBridge
set_option linter.unusedVariables false
namespace Go.Proofs.YtbiehpjhhopjaaaGreat
open Go.RowKit Go.Sort Go.Shelf
def sort160_ren : Go.Shelf.Ren := ⟨fun | 5 => 160 | 8 => 251 | 7 => 250 | 19 => 352 | 20 => 353 | 10 => 343 | 11 => 344 | 12 => 345 | 13 => 346 | 14 => 347 | 15 => 348 | 16 => 349 | 17 => 350 | 18 => 351 | 30 => 396 | 31 => 397 | 32 => 398 | 33 => 399 | 34 => 400 | 35 => 401 | 40 => 423 | n => n, fun | 23 => 54 | 25 => 3 | 3 => 3 | 32 => 322 | 22 => 54 | 0 => 0 | 44 => 85 | 46 => 328 | 4 => 4 | 36 => 411 | 35 => 410 | 41 => 415 | 5 => 5 | 9 => 9 | 53 => 460 | 57 => 464 | 63 => 484 | 64 => 485 | n => n, fun | n => n⟩
theorem sort160 : Go.Proofs.SlLaysM.n5 Tryz.prog sort160_ren := {
  mixed := by kernel_rfl
  f5 := ⟨Tryz.f160.name, by decide, Tryz.func160.trans (congrArg some (by kernel_rfl))⟩
  f7 := ⟨Tryz.f250.name, by decide, Tryz.func250.trans (congrArg some (by kernel_rfl))⟩
  f8 := Tryz.func251.trans (congrArg some (by kernel_rfl))
  f10 := ⟨Tryz.f343.name, by decide, Tryz.func343.trans (congrArg some (by kernel_rfl))⟩
  f11 := ⟨Tryz.f344.name, by decide, Tryz.func344.trans (congrArg some (by kernel_rfl))⟩
  f12 := ⟨Tryz.f345.name, by decide, Tryz.func345.trans (congrArg some (by kernel_rfl))⟩
  f13 := ⟨Tryz.f346.name, by decide, Tryz.func346.trans (congrArg some (by kernel_rfl))⟩
  f14 := ⟨Tryz.f347.name, by decide, Tryz.func347.trans (congrArg some (by kernel_rfl))⟩
  f15 := ⟨Tryz.f348.name, by decide, Tryz.func348.trans (congrArg some (by kernel_rfl))⟩
  f16 := ⟨Tryz.f349.name, by decide, Tryz.func349.trans (congrArg some (by kernel_rfl))⟩
  f17 := ⟨Tryz.f350.name, by decide, Tryz.func350.trans (congrArg some (by kernel_rfl))⟩
  f18 := ⟨Tryz.f351.name, by decide, Tryz.func351.trans (congrArg some (by kernel_rfl))⟩
  f19 := Tryz.func352.trans (congrArg some (by kernel_rfl))
  f20 := Tryz.func353.trans (congrArg some (by kernel_rfl))
  f30 := ⟨Tryz.f396.name, by decide, Tryz.func396.trans (congrArg some (by kernel_rfl))⟩
  f31 := Tryz.func397.trans (congrArg some (by kernel_rfl))
  f32 := Tryz.func398.trans (congrArg some (by kernel_rfl))
  f33 := ⟨Tryz.f399.name, by decide, Tryz.func399.trans (congrArg some (by kernel_rfl))⟩
  f34 := ⟨Tryz.f400.name, by decide, Tryz.func400.trans (congrArg some (by kernel_rfl))⟩
  f35 := ⟨Tryz.f401.name, by decide, Tryz.func401.trans (congrArg some (by kernel_rfl))⟩
  f40 := ⟨Tryz.f423.name, by decide, Tryz.func423.trans (congrArg some (by kernel_rfl))⟩
  t0 := Tryz.underlying0
  a0 := Tryz.isAgg0
  z0 := Tryz.sizeOf0
  v0 := Tryz.zeroValue0
  t3 := Tryz.underlying3
  a3 := Tryz.isAgg3
  z3 := Tryz.sizeOf3
  v3 := Tryz.zeroValue3
  t4 := Tryz.underlying4
  a4 := Tryz.isAgg4
  z4 := Tryz.sizeOf4
  v4 := Tryz.zeroValue4
  t5 := Tryz.underlying5
  a5 := Tryz.isAgg5
  z5 := Tryz.sizeOf5
  v5 := Tryz.zeroValue5
  t9 := Tryz.underlying9
  a9 := Tryz.isAgg9
  z9 := Tryz.sizeOf9
  v9 := Tryz.zeroValue9
  t22 := Tryz.underlying54
  a22 := Tryz.isAgg54
  z22 := Tryz.sizeOf54
  v22 := Tryz.zeroValue54
  t23 := Tryz.underlying54
  a23 := Tryz.isAgg54
  z23 := Tryz.sizeOf54
  v23 := Tryz.zeroValue54
  t25 := Tryz.underlying3
  a25 := Tryz.isAgg3
  z25 := Tryz.sizeOf3
  v25 := Tryz.zeroValue3
  t32 := Tryz.underlying322
  a32 := Tryz.isAgg322
  z32 := Tryz.sizeOf322
  v32 := Tryz.zeroValue322
  t35 := Tryz.underlying410
  a35 := Tryz.isAgg410
  z35 := Tryz.sizeOf410
  v35 := Tryz.zeroValue410
  t36 := Tryz.underlying411
  a36 := Tryz.isAgg411
  z36 := Tryz.sizeOf411
  v36 := Tryz.zeroValue411
  t41 := Tryz.underlying415
  a41 := Tryz.isAgg415
  z41 := Tryz.sizeOf415
  v41 := Tryz.zeroValue415
  t44 := Tryz.underlying85
  a44 := Tryz.isAgg85
  z44 := Tryz.sizeOf85
  v44 := Tryz.zeroValue85
  t46 := Tryz.underlying328
  a46 := Tryz.isAgg328
  z46 := Tryz.sizeOf328
  v46 := Tryz.zeroValue328
  t53 := Tryz.underlying460
  a53 := Tryz.isAgg460
  z53 := Tryz.sizeOf460
  v53 := Tryz.zeroValue460
  t57 := Tryz.underlying464
  a57 := Tryz.isAgg464
  z57 := Tryz.sizeOf464
  v57 := Tryz.zeroValue464
  t63 := Tryz.underlying484
  a63 := Tryz.isAgg484
  z63 := Tryz.sizeOf484
  v63 := Tryz.zeroValue484
  t64 := Tryz.underlying485
  a64 := Tryz.isAgg485
  z64 := Tryz.sizeOf485
  v64 := Tryz.zeroValue485 }
def compact161_ren : Go.Shelf.Ren := ⟨fun | 20 => 161 | n => n, fun | 22 => 54 | 3 => 3 | 4 => 4 | 0 => 0 | n => n, fun | n => n⟩
theorem compact161 : Go.Proofs.Lays2.n20 Tryz.prog compact161_ren := {
  mixed := by kernel_rfl
  f20 := Tryz.func161.trans (congrArg some (by kernel_rfl))
  t0 := Tryz.underlying0
  a0 := Tryz.isAgg0
  z0 := Tryz.sizeOf0
  v0 := Tryz.zeroValue0
  t3 := Tryz.underlying3
  a3 := Tryz.isAgg3
  z3 := Tryz.sizeOf3
  v3 := Tryz.zeroValue3
  t4 := Tryz.underlying4
  a4 := Tryz.isAgg4
  z4 := Tryz.sizeOf4
  v4 := Tryz.zeroValue4
  t22 := Tryz.underlying54
  a22 := Tryz.isAgg54
  z22 := Tryz.sizeOf54
  v22 := Tryz.zeroValue54
  i3 := by kernel_rfl }
def sortI (l : List Int) : List Int := l.mergeSort fun x y => decide (x ≤ y)
/-- sorted, each once -/
def normI (l : List Int) : List Int := Lib.compact (sortI l)
theorem sortI_len (l : List Int) : (sortI l).length = l.length := List.length_mergeSort l
theorem sort_own {base : Nat} {v : Value} {l : List Int} {W : World} (h : IntOwn W base v l) (hb : base ≤ W.heap.size) (hl : l.length ≤ 1000) :
    Calls Tryz.prog 160 #[v] W fun e w' => e = .returned (.tuple #[]) ∧ IntOwn w' base v (sortI l) ∧ Below base W w' := by
  have hf : sort160_ren.f 5 = 160 := by kernel_rfl
  rcases h.2 with ⟨rfl, h0⟩ | ⟨g, cap, cur, rfl, hbg, hgb, r1, r2, r3, r4⟩
  · have hn := AnyM.slices_Sort_int_none sort160 none 0 W
    rw [hf] at hn
    refine hn.mono ?_
    rintro e w' ⟨rfl, rfl⟩
    have : l = [] := List.eq_nil_of_length_eq_zero h0
    subst this
    exact ⟨rfl, by rw [show sortI [] = [] from List.mergeSort_nil]; exact h, Below.refl _ _⟩
  · have hn := AnyM.slices_Sort_int sort160 g 0 cap l W (holds_of_blockI hgb (by simpa using r4)) (lt_of_block hgb) (by omega)
    rw [hf] at hn
    refine hn.mono ?_
    rintro e w' ⟨rfl, n, os, rfl⟩
    refine ⟨rfl, ?_, ?_⟩
    · have := ownsRow_sortedI (w := W) (n := n) (os := os) (ss := l) (ts := sortI l) (sortI_len l) hbg hgb r1 r2 r3
      show World.ownsRow _ _ _ _ _ _ _
      rw [sortI_len]
      exact this
    · exact (Below.refl _ _).grown (grownBy_sortedI _) hb (fun j hj => by cases hj; exact hbg)
theorem own_shrink {w : World} {base g n cap : Nat} {xs ys : List Value} (h : w.ownsRow base 3 1 (.slice (some ⟨g, 0, none⟩) n cap) n (xs ++ ys)) : w.ownsRow base 3 1 (.slice (some ⟨g, 0, none⟩) xs.length cap) xs.length xs := by
  have hlen := h.1
  rcases h.2 with ⟨h1, _⟩ | ⟨g', cap', cur, he, hbg, hgb, r1, r2, r3, r4⟩
  · cases h1
  · cases he
    rw [List.length_append] at hlen
    refine ⟨by simp, .inr ⟨g, cap, cur, rfl, hbg, hgb, by omega, r2, r3, ?_⟩⟩
    have := congrArg (List.take xs.length) r4
    rw [List.take_take, List.take_left'] at this
    · rw [Nat.min_eq_left (by omega)] at this; rw [Nat.mul_one]; exact this
    · rfl
theorem compact_own {base : Nat} {v : Value} {l : List Int} {W : World} (h : IntOwn W base v l) (hb : base ≤ W.heap.size) (hl : l.length ≤ 1000) :
    Calls Tryz.prog 161 #[v] W fun e w' => ∃ v', e = .returned v' ∧ IntOwn w' base v' (Lib.compact l) ∧ Below base W w' := by
  have hf : compact161_ren.f 20 = 161 := by kernel_rfl
  rcases h.2 with ⟨rfl, h0⟩ | ⟨g, cap, cur, rfl, hbg, hgb, r1, r2, r3, r4⟩
  · have hn := Any.slices_Compact_int_empty compact161 none 0 W
    rw [hf] at hn
    refine hn.mono ?_
    rintro e w' ⟨rfl, rfl⟩
    have : l = [] := List.eq_nil_of_length_eq_zero h0
    subst this
    exact ⟨_, rfl, h, Below.refl _ _⟩
  · have hn := Any.slices_Compact_int compact161 g 0 cap l W (holds_of_blockI hgb (by simpa using r4)) (by omega) r1
    rw [hf] at hn
    refine hn.mono ?_
    rintro e w' ⟨rfl, n, rfl⟩
    have hc := Lib.compact_length_le l
    have hts : (Lib.compact l ++ List.replicate (l.length - (Lib.compact l).length) 0).length = l.length := by rw [List.length_append, List.length_replicate]; omega
    refine ⟨_, rfl, ?_, ?_⟩
    · have := ownsRow_sortedI (w := W) (n := n) (os := #[]) (ss := l) (ts := Lib.compact l ++ List.replicate (l.length - (Lib.compact l).length) 0) hts hbg hgb r1 r2 r3
      rw [List.map_append] at this
      have h2 := own_shrink this
      rw [List.length_map] at h2
      exact h2
    · have := (Below.refl base W).grown (grownBy_sortedI (w := W) (g := g) (n := n) (os := #[]) (Lib.compact l ++ List.replicate (l.length - (Lib.compact l).length) 0).toArray) hb (fun j hj => by cases hj; exact hbg)
      exact this
end Go.Proofs.YtbiehpjhhopjaaaGreat
