/-
 way.walk's ask, walked.
 way.walk's through, walked.
 way.signal, and the answers that a walk asks for, walked.
 way.signal, walked.
 way.walk's stay, walked.
 slices.Clone of numbers, walked.
-/
import Derived.Test.YtbiehpjhhopjaaaGreatTWayA
import Derived.Deep.LoopGhost
import Derived.Deep.Light
import Derived.Test.YtbiehpjhhopjaaaGreatTMem
import Derived.Test.YtbiehpjhhopjaaaGreatTData
import Derived.Test.YtbiehpjhhopjaaaGreatTPlanG
import Derived.StillTailTactics
import Derived.Lib.SliceRun
set_option linter.unusedVariables false
set_option linter.unusedSimpArgs false
namespace Go.Proofs.YtbiehpjhhopjaaaGreat
open Go.RowKit Go.Sort
theorem WkM.grownA {W w' : World} {g : Nat} {p : Pl} {s q gg r va vo : Value} {k : Wk} {o : Obj} (h : WkM W g p s q gg r k va vo) (hg : (W.alloc o).grownBy w' va.ownBlock) :
  w'.heap[g]? = W.heap[g]? ∧ Off g W w' ∧ JnOwn w' (g + 1) vo k.outs := by
 have hl := h.lt
 have ha : (W.alloc o).ownsRow (g + 1) 281 3 va k.asks.length (k.asks.flatMap askC) := h.asks.alloc o
 have hj : (W.alloc o).ownsRow (g + 1) 133 2 vo k.outs.length (k.outs.flatMap jnC) := h.outs.alloc o
 refine ⟨?_, ?_, hj.kept hg (own_apart hj ha (by decide))⟩
 ·exact (hg.block g (by simp; omega) (fun e => by have := (ha.lt g e.symm).1; omega)).trans (heap_alloc_old W o hl)
 ·exact (Off.of_below ((Below.refl _ W).alloc (Nat.le_refl _) o) (Nat.le_of_lt hl)).trans (Off.grown ha (by omega) (by simp; omega) rfl hg)
theorem WkM.grownO {W w' : World} {g : Nat} {p : Pl} {s q gg r va vo : Value} {k : Wk} {o : Obj} (h : WkM W g p s q gg r k va vo) (hg : (W.alloc o).grownBy w' vo.ownBlock) :
  w'.heap[g]? = W.heap[g]? ∧ Off g W w' ∧ AskOwn w' (g + 1) va k.asks := by
 have hl := h.lt
 have ha : (W.alloc o).ownsRow (g + 1) 281 3 va k.asks.length (k.asks.flatMap askC) := h.asks.alloc o
 have hj : (W.alloc o).ownsRow (g + 1) 133 2 vo k.outs.length (k.outs.flatMap jnC) := h.outs.alloc o
 refine ⟨?_, ?_, ha.kept hg (own_apart ha hj (by decide))⟩
 ·exact (hg.block g (by simp; omega) (fun e => by have := (hj.lt g e.symm).1; omega)).trans (heap_alloc_old W o hl)
 ·exact (Off.of_below ((Below.refl _ W).alloc (Nat.le_refl _) o) (Nat.le_of_lt hl)).trans (Off.grown hj (by omega) (by simp; omega) rfl hg)
theorem one3 (a b c : Int) : ∀ u ∈ [Value.int .i64 a, .int .i64 b, .int .i64 c], u.oneCell' = true := by
 intro u hu
 simp only [List.mem_cons, List.not_mem_nil, or_false] at hu
 rcases hu with rfl | rfl | rfl <;> rfl
theorem one2 (a b : Int) : ∀ u ∈ [Value.int .i64 a, .int .i64 b], u.oneCell' = true := by
 intro u hu
 simp only [List.mem_cons, List.not_mem_nil, or_false] at hu
 rcases hu with rfl | rfl <;> rfl
def WkPost (W : World) (g : Nat) (p : Pl) (s q gg r : Value) (k' : Wk) (e : Ending) (W' : World) : Prop :=
 e = .returned (.tuple #[]) ∧ Off g W W' ∧ ∃ va' vo', WkM W' g p s q gg r k' va' vo'
set_option maxRecDepth 100000 in
def AskPost (W : World) (g : Nat) (p : Pl) (s q gg r vo : Value) (k' : Wk) (e : Ending) (W' : World) : Prop :=
 e = .returned (.tuple #[]) ∧ Off g W W' ∧ (∀ k c t fr, W.heap[k]? = some (.cells c t fr) → k ≠ g → t ≠ 281 → W'.heap[k]? = some (.cells c t fr)) ∧ ∃ va', WkM W' g p s q gg r k' va' vo
theorem ask_any (g : Nat) (p : Pl) (s q gg r va vo : Value) (k : Wk) (pt lie pl : Int) (W : World) (hW : WkM W g p s q gg r k va vo) (hn : k.asks.length ≤ 1000) :
  Calls Tryz.prog 308 #[.pointer (some ⟨g, 0, none⟩), .int .i64 pt, .int .i64 lie, .int .i64 pl] W (AskPost W g p s q gg r vo (wkAsk k pt lie pl)) := by
 have HW := Lib.hid hW
 have HE : Hid (wkAsk k pt lie pl = if 0 < pt ∧ 0 < lie then { k with asks := k.asks ++ [⟨pt, lie, pl⟩] } else k) := rfl
 generalize wkAsk k pt lie pl = K at *
 have l0 := hW.lt
 have y8 := hW.cva
 have z8 := hW.frozen 8
 clear hW
 by_cases h1 : 0 < pt
 ·have t1 : decide (0 < pt) = true := by simpa using h1
  by_cases h2 : 0 < lie
  ·have t2 : decide (0 < lie) = true := by simpa using h2
   rw [if_pos ⟨h1, h2⟩] at HE
   clear h1 h2
   go_enter Tryz.func308, Tryz.ntmps308
   go_wp2_with (at_builtin; refine wpList_append_one rfl _ _ 182 281 _ _ 3 24 rfl Tryz.underlying182 info281 rfl (by decide) (by decide) (g + 1) va k.asks.length _ rfl HW.out.asks hn (Nat.succ_le_of_lt l0) [.int .i64 pt, .int .i64 lie, .int .i64 pl] rfl rfl (one3 _ _ _) ?_; intro b' c' w' hown hgr; have hB := (HW.out.grownA hgr).1.trans HW.out.blk; have hF : ∀ o, w'.frozen? ⟨g, o, none⟩ = false := fun o => by { simp [World.frozen?, hB] }; have hC : w'.cell? ⟨g, 8, none⟩ = some va := (cell_of_row w' _ 8 _ _ _ hB).trans rfl)
   obtain ⟨-, hO, hJ⟩ := HW.out.grownA hgr
   have hE := HE.out
   subst hE
   refine bodyPost_ret (v := .tuple #[]) (by simp [results, Tryz.f308, go_sem]) rfl ⟨rfl, hO.trans (Off.setCell _ _ _ _), ?_, _, ?_, own_setCell (by simpa [AskOwn, List.flatMap_append, askC] using hown) (by simp) _, own_setCell hJ (by simp) _⟩
   ·intro k c t fr hk hne ht
    refine (Below.heap_setCell _ _ _ k hne).trans ?_
    have hs := grown_same (M := fun t => t == 281) (HW.out.asks.alloc _) rfl hgr
    exact hs k c t fr ((heap_alloc_old W _ (lt_of_block hk)).trans hk) (by simp [ht])
   ·simp [World.setCell, Array.getElem?_modify, hB]
  ·have t2 : decide (0 < lie) = false := by simpa using h2
   rw [if_neg (fun h => h2 h.2)] at HE
   have HE := HE.out
   subst HE
   clear h1 h2
   go_enter Tryz.func308, Tryz.ntmps308
   go_wp2_with fail
   exact bodyPost_ret (v := .tuple #[]) (by simp [results, Tryz.f308, go_sem]) rfl ⟨rfl, Off.refl _ _, fun _ _ _ _ h _ _ => h, _, HW.out⟩
 ·have t1 : decide (0 < pt) = false := by simpa using h1
  rw [if_neg (fun h => h1 h.1)] at HE
  have HE := HE.out
  subst HE
  clear h1
  go_enter Tryz.func308, Tryz.ntmps308
  go_wp2_with fail
  exact bodyPost_ret (v := .tuple #[]) (by simp [results, Tryz.f308, go_sem]) rfl ⟨rfl, Off.refl _ _, fun _ _ _ _ h _ _ => h, _, HW.out⟩
end Go.Proofs.YtbiehpjhhopjaaaGreat
set_option linter.unusedVariables false
set_option linter.unusedSimpArgs false
namespace Go.Proofs.YtbiehpjhhopjaaaGreat
open Go.RowKit Go.Sort
def SaysEnd (g : Nat) (m : FuncId) (caps : Array Value) (right : Nat → Jn → Bool) (W : World) : Prop :=
 ∀ W' (e : Nat) (j : Jn), Off g W W' → e < 3 → Calls Tryz.prog m (#[.int .i64 (e : Int), .agg #[.int .i64 j.to, .int .i64 j.en]] ++ caps) W' (BoolPost W' (right e j))
theorem goes_eq {s : Sec} {k : Wk} {right : Nat → Jn → Bool} {e : Nat} (h : e < s.ends.length) : goes s k right e = (!k.lost && decide (thrE s k.inn.en e = 0) && right e s.ends[e]) := by
 unfold goes
 rw [List.getD_eq_getElem?_getD, List.getElem?_eq_getElem h]
 rfl
set_option maxRecDepth 100000 in
set_option maxHeartbeats 4000000 in
theorem through_any (g : Nat) (p : Pl) (a1 : Option Addr) (c1 : Nat) (q gg r va vo : Value) (k : Wk) (id pl : Int) (m : FuncId) (caps : Array Value) (right : Nat → Jn → Bool) (W : World)
  (hW : WkM W g p (.slice a1 p.secs.length c1) q gg r k va vo) (hS : ∀ W', Below g W W' → SlA W' 3 RSec a1 c1 p.secs) (hm : p.secs.length ≤ 1000) (hA : SecsA p.secs p.secs.length)
  (hn1 : k.asks.length ≤ 900) (hn2 : k.outs.length ≤ 900) (hf : PlainF m) (hr : SaysEnd g m caps right W) :
  Calls Tryz.prog 303 #[.pointer (some ⟨g, 0, none⟩), .int .i64 id, .int .i64 pl, .func (.func m) #[] caps] W (WkPost W g p (.slice a1 p.secs.length c1) q gg r (wkThrough p.secs k id pl right)) := by
 have hcf : ∀ (args : Array Value) (w : World), Sem.run Tryz.prog (callFunc m args) w = .ok (.enter m args) w := hf
 have HC := Lib.hid (section_any g p a1 c1 q gg r va vo k id W hW hS hm)
 have HR := Lib.hid hr
 have l0 := hW.lt
 have hK1 : (wkS p.secs k id).asks.length ≤ 900 := by rw [wkS_asks]; exact hn1
 have hK2 : (wkS p.secs k id).outs.length ≤ 900 := by rw [wkS_outs]; exact hn2
 have hS3 : (wkSec p.secs k id).ends.length ≤ 3 := by
  unfold wkSec
  split
  ·rename_i c
   obtain ⟨i, hi, he⟩ := List.getElem_of_mem (one_is (z := zSec) c.1).1
   rw [← he]
   rcases (hA i hi hi).1.2.2 with h | h <;> omega
  ·show ([] : List Jn).length ≤ 3; decide
 have HT : Hid (wkThrough p.secs k id pl right = wkGo (wkSec p.secs k id) (wkS p.secs k id) id pl right) := rfl
 rw [HT.out]
 unfold SecPost at HC
 generalize wkSec p.secs k id = S at *
 generalize wkS p.secs k id = K at *
 clear HT hW hS hm hA hn1 hn2 hf hr
 go_enter Tryz.func303, Tryz.ntmps303
 go_wp2_with fail
 refine HC.out.mono ?_
 rintro e w1 ⟨a, c, rfl, hends, hw1, ho1⟩
 unfold secV
 have hl1 := hw1.lt
 go_wp2_with fail
 generalize hWW : w1.alloc _ = W1
 have hb1 : Below w1.heap.size w1 W1 := by rw [← hWW]; exact (Below.refl _ _).alloc (Nat.le_refl _) _
 have HO1 : Hid (Off g W W1) := ho1.trans (Off.of_below hb1 (Nat.le_of_lt hl1))
 have HW1 := Lib.hid (hw1.below hb1)
 have HY : Hid (∀ W', Below W1.heap.size W1 W' → W'.cell? ⟨w1.heap.size, 0, none⟩ = some (.int .i64 S.id) ∧ W'.cell? ⟨w1.heap.size, 1, none⟩ = some (.int .i64 S.pt) ∧ W'.cell? ⟨w1.heap.size, 2, none⟩ = some (.slice a S.ends.length c) ∧ w1.heap.size < W'.heap.size) := by
  intro W' hb
  refine ⟨ccell hb (by rw [← hWW]; simp), ccell hb (by rw [← hWW]; simp), ccell hb (by rw [← hWW]; simp), Nat.lt_of_lt_of_le (by rw [← hWW]; simp) hb.size⟩
 have HEN : Hid (∀ W', Below W1.heap.size W1 W' → SlA W' 2 RJn a c S.ends) := fun W' hb => (hends.below keeps_jn hb1).below keeps_jn hb
 clear hWW hends hw1 ho1
 go_loopg [19] S.ends.length (fun g' i wr => ∃ e : Nat, e ≤ S.ends.length ∧ g' = S.ends.length - e ∧ i = .int .i64 e ∧ Below W1.heap.size W1 wr ∧ ∀ i, i < e → goes S K right i = false)
 case atStart => exact ⟨0, by omega, by omega, rfl, Below.refl _ _, fun i h => by omega⟩
 case round =>
  obtain ⟨n, hn, rfl, rfl, hb, hno⟩ := hrel
  obtain ⟨wo, rfl⟩ : ∃ wo : World, wo = wr := ⟨_, rfl⟩
  have HB := Lib.hid hb
  have HNO := Lib.hid hno
  clear hb hno
  by_cases hlt : n < S.ends.length
  ·have hdk : decide ((n : Int) < (S.ends.length : Int)) = true := by simp; omega
   obtain ⟨b, off, rfl, x0, x1⟩ := (HEN.out _ HB.out).jn hlt
   have c0 : (0 : Int) ≤ (n : Int) := by omega
   have c1 : (n : Int) < (S.ends.length : Int) := by omega
   have l2 := World.block_lt_of_cell? _ _ x0
   have HGO := Lib.hid (goes_eq (k := K) (right := right) hlt)
   have HN1 : Hid (goes S K right n = false → ∀ i, i < n + 1 → goes S K right i = false) := fun h i hi => by
    rcases Nat.lt_or_ge i n with h' | h'
    ·exact HNO.out i h'
    ·obtain rfl : i = n := by omega
     exact h
   have HAT : Hid (goes S K right n = true → wkGo S K id pl right = { wkAsk K S.pt (thrL S K.inn.en n) pl with inn := S.ends[n], outs := K.outs ++ [⟨id, n⟩] }) := fun h => wkGo_at hlt h HNO.out
   go_upto_region 4 with fail
   generalize hW4 : wo.alloc _ = W4
   have hb4 : Below wo.heap.size wo W4 := by rw [← hW4]; exact (Below.refl _ _).alloc (Nat.le_refl _) _
   have HB4 : Hid (Below W1.heap.size W1 W4) := HB.out.trans (hb4.mono HB.out.size)
   have HJ : Hid (W4.heap[wo.heap.size]? = some (.cells #[.int .i64 S.ends[n].to, .int .i64 S.ends[n].en] 133 (0, 0))) := by show _ = _; rw [← hW4]; exact heap_alloc_new _ _
   have hwk := HW1.out.below HB4.out
   obtain ⟨s0, s1, s2, ls⟩ := HY.out _ HB4.out
   have y7 := cell_regrown hwk.en
   have z0 := cell_regrown s0
   have z1 := cell_regrown s1
   have z2 := cell_regrown s2
   have cT : Hid (∀ d os, Calls Tryz.prog 384 #[.agg #[.int .i64 S.id, .int .i64 S.pt, .slice (some ⟨b, off, none⟩) S.ends.length c], .int .i64 K.inn.en, .int .i64 (n : Int)] (grow (redrawn W4 d) os) fun e w'' => e = .returned (.tuple #[.int .i64 (thrL S K.inn.en n), .int .i64 (thrE S K.inn.en n)]) ∧ ∃ p : Regrown, w'' = grow (redrawn W4 p.d) p.os) := fun d os => Calls.regrown_of (trackthrough_any S _ c K.inn.en n _)
   have HR4 : Hid (∀ W', Below W4.heap.size W4 W' → Calls Tryz.prog m (#[.int .i64 (n : Int), .agg #[.int .i64 S.ends[n].to, .int .i64 S.ends[n].en]] ++ caps) W' (BoolPost W' (right n S.ends[n]))) := fun W' hb =>
    HR.out W' n S.ends[n] (HO1.out.trans (Off.of_below (HB4.out.trans (hb.mono HB4.out.size)) (Nat.le_of_lt HW1.out.lt))) (by omega)
   generalize thrL S K.inn.en n = TL at *
   generalize thrE S K.inn.en n = TE at *
   clear hW4 hb4 hwk s0 s1 s2 ls x0 x1 l2
   refine wp_region_quiet_below (by kernel_rfl) (by kernel_rfl) ?_
   repeat (go_big_quiet_step (first | (with_reducible exact cT.out _ _)))
   refine wpQuiet_nil ?_
   rintro _ ⟨⟨dq, osq⟩, rfl⟩
   generalize hW5 : grow (redrawn W4 dq) osq = W5
   have hb5 : Below W4.heap.size W4 W5 := by rw [← hW5]; exact below_regrown W4 dq osq
   have HB5 : Hid (Below W1.heap.size W1 W5) := HB4.out.trans (hb5.mono HB4.out.size)
   have HJ5 : Hid (W5.heap[wo.heap.size]? = some (.cells #[.int .i64 S.ends[n].to, .int .i64 S.ends[n].en] 133 (0, 0))) := (hb5.block _ (lt_of_block HJ.out)).trans HJ.out
   have HWK := Lib.hid (HW1.out.below HB5.out)
   have HR5 := Lib.hid (HR4.out W5 hb5)
   have y10 := HWK.out.lost
   obtain ⟨j0, j1⟩ := cells2 HJ5.out
   have lj : wo.heap.size < W5.heap.size := lt_of_block HJ5.out
   have lg := HWK.out.lt
   clear hW5 hb5 cT HR4 y7 z0 z1 z2
   cases hL : K.lost with
   | true =>
    rw [hL] at y10
    have HG := Lib.hid (HN1.out (by rw [HGO.out, hL]; rfl))
    clear hL
    go_wp2_with fail
    go_roundg (S.ends.length - (n + 1))
    case measure => go_light; omega
    case rel => go_light; exact ⟨n + 1, by omega, by omega, by go_num, HB5.out, HG.out⟩
   | false =>
    rw [hL] at y10
    by_cases hE : TE = 0
    ·subst hE
     cases hR : right n S.ends[n] with
     | false =>
      have HG := Lib.hid (HN1.out (by rw [HGO.out, hR]; simp))
      rw [hR] at HR5
      clear hL hR
      go_wp2_with fail
      refine HR5.out.mono ?_
      rintro e w6 ⟨rfl, hb6⟩
      have HB6 : Hid (Below W1.heap.size W1 w6) := HB5.out.trans (hb6.mono HB5.out.size)
      clear hb6 HR5 y10 j0 j1
      go_wp2_with fail
      go_roundg (S.ends.length - (n + 1))
      case measure => go_light; omega
      case rel => go_light; exact ⟨n + 1, by omega, by omega, by go_num, HB6.out, HG.out⟩
     | true =>
      have HE := Lib.hid (HAT.out (by rw [HGO.out, hL, hR]; simp))
      rw [hR] at HR5
      clear hL hR
      go_wp2_with fail
      refine HR5.out.mono ?_
      rintro e w6 ⟨rfl, hb6⟩
      have HB6 : Hid (Below W1.heap.size W1 w6) := HB5.out.trans (hb6.mono HB5.out.size)
      have HJ6 : Hid (w6.heap[wo.heap.size]? = some (.cells #[.int .i64 S.ends[n].to, .int .i64 S.ends[n].en] 133 (0, 0))) := (hb6.block _ lj).trans HJ5.out
      have HWK6 := Lib.hid (HWK.out.below hb6)
      obtain ⟨s0, s1, s2, ls⟩ := HY.out _ HB6.out
      clear hb6 HR5 y10 j0 j1 lj lg
      go_wp2_with fail
      refine (ask_any g p _ q gg r va vo K S.pt TL pl w6 HWK6.out (by omega)).mono ?_
      rintro e w7 ⟨rfl, hO7, hS7, va', hw7⟩
      have HO7 := Lib.hid (HO1.out.trans ((Off.of_below HB6.out (Nat.le_of_lt HW1.out.lt)).trans hO7))
      have hgw := HW1.out.lt
      have hgo : g < wo.heap.size := Nat.lt_of_lt_of_le hgw HB.out.size
      have hne : wo.heap.size ≠ g := by omega
      have HJ7 : Hid (w7.heap[wo.heap.size]? = some (.cells #[.int .i64 S.ends[n].to, .int .i64 S.ends[n].en] 133 (0, 0))) := hS7 _ _ _ _ HJ6.out hne (by decide)
      have HVO : Hid (some wo.heap.size ≠ vo.ownBlock) := fun e => by have := (HW1.out.outs.lt _ e.symm).2; have := HB.out.size; omega
      have hKo : (wkAsk K S.pt TL pl).outs = K.outs := wkAsk_outs _ _ _ _
      have hK7 : (wkAsk K S.pt TL pl).outs.length ≤ 900 := by rw [hKo]; exact hK2
      rw [← hKo] at HE
      generalize wkAsk K S.pt TL pl = K7 at *
      have HW7 := Lib.hid hw7
      have l7 := hw7.lt
      have u9 := hw7.cvo
      clear hO7 hS7 hw7 hKo s0 s1 s2 ls HGO HN1 HAT HWK HWK6 HJ HJ5 HJ6
      go_wp2_with (at_builtin; refine wpList_append_one rfl _ _ 78 133 _ _ 2 16 rfl Tryz.underlying78 info133 rfl (by decide) (by decide) (g + 1) vo K7.outs.length _ rfl HW7.out.outs (by omega) (Nat.succ_le_of_lt l7) [.int .i64 id, .int .i64 (n : Int)] rfl rfl (one2 _ _) ?_; intro b' c' w8 hown hgr; have hB := (HW7.out.grownO hgr).1.trans HW7.out.blk; have hF : ∀ o, w8.frozen? ⟨g, o, none⟩ = false := fun o => by { simp [World.frozen?, hB] }; have hC9 : w8.cell? ⟨g, 9, none⟩ = some vo := (cell_of_row w8 _ 9 _ _ _ hB).trans rfl; have hC6 : w8.cell? ⟨g, 6, none⟩ = some (.int .i64 K7.inn.to) := (cell_of_row w8 _ 6 _ _ _ hB).trans rfl; have hC7 : w8.cell? ⟨g, 7, none⟩ = some (.int .i64 K7.inn.en) := (cell_of_row w8 _ 7 _ _ _ hB).trans rfl; have hJ8 : w8.heap[wo.heap.size]? = some (.cells #[.int .i64 S.ends[n].to, .int .i64 S.ends[n].en] 133 (0, 0)) := (hgr.block _ (by { have := lt_of_block HJ7.out; simp; omega }) HVO.out).trans ((heap_alloc_old w7 _ (lt_of_block HJ7.out)).trans HJ7.out); have hj0 : w8.cell? ⟨wo.heap.size, 0, none⟩ = some (.int .i64 S.ends[n].to) := (cell_of_row w8 _ 0 _ _ _ hJ8).trans rfl; have hj1 : w8.cell? ⟨wo.heap.size, 1, none⟩ = some (.int .i64 S.ends[n].en) := (cell_of_row w8 _ 1 _ _ _ hJ8).trans rfl)
      obtain ⟨-, hO8, hA8⟩ := HW7.out.grownO hgr
      refine bodyPost_ret (v := .tuple #[]) (by simp [results, Tryz.f303, go_sem]) rfl ⟨rfl, HO7.out.trans (hO8.trans ((Off.setCell _ _ _ _).trans ((Off.setCell _ _ _ _).trans (Off.setCell _ _ _ _)))), va', .slice (some ⟨b', 0, none⟩) (K7.outs.length + 1) c', ?_⟩
      rw [HE.out]
      refine ⟨by simp [World.setCell, Array.getElem?_modify, hB], own_setCell (own_setCell (own_setCell hA8 (by simp) _) (by simp) _) (by simp) _, own_setCell (own_setCell (own_setCell ?_ (by simp) _) (by simp) _) (by simp) _⟩
      simpa [JnOwn, List.flatMap_append, jnC] using hown
    ·have t1 : (TE != 0) = true := by simpa using hE
     have HG := Lib.hid (HN1.out (by rw [HGO.out]; simp [hE]))
     clear hL hE
     go_wp2_with fail
     go_roundg (S.ends.length - (n + 1))
     case measure => go_light; omega
     case rel => go_light; exact ⟨n + 1, by omega, by omega, by go_num, HB5.out, HG.out⟩
  ·obtain rfl : n = S.ends.length := by omega
   have hdk : decide ((S.ends.length : Int) < (S.ends.length : Int)) = false := by simp
   have HE : Hid (wkGo S K id pl right = { K with lost := true }) := wkGo_no HNO.out
   have HWO := Lib.hid (HW1.out.below HB.out)
   have y10 := HWO.out.lost
   have z10 := HWO.out.frozen 10
   have l3 := HWO.out.lt
   go_wp2_with fail
   refine bodyPost_ret (v := .tuple #[]) (by simp [results, Tryz.f303, go_sem]) rfl ?_
   refine ⟨rfl, HO1.out.trans ((Off.of_below HB.out (Nat.le_of_lt HW1.out.lt)).trans (Off.setCell _ _ _ _)), va, vo, ?_⟩
   rw [HE.out]
   exact HWO.out.setLost
end Go.Proofs.YtbiehpjhhopjaaaGreat
set_option linter.unusedVariables false
set_option linter.unusedSimpArgs false
namespace Go.Proofs.YtbiehpjhhopjaaaGreat
open Go.RowKit Go.Sort
theorem plain304 : PlainF 304 := fun args w => by simp [go_sem]
theorem plain305 : PlainF 305 := fun args w => by simp [go_sem]
theorem plain307 : PlainF 307 := fun args w => by simp [go_sem]
theorem isEnd (e : Nat) (j : Jn) (w : World) : Calls Tryz.prog 304 (#[.int .i64 (e : Int), .agg #[.int .i64 j.to, .int .i64 j.en]] ++ #[]) w (BoolPost w (rightEnd e j)) := by
 have h1 := eql_jn
 have HE : Hid (rightEnd e j = decide (j.to = 0 ∧ j.en = 0)) := rfl
 generalize rightEnd e j = B at *
 go_enter Tryz.func304, Tryz.ntmps304
 go_wp2_with fail
 go_ret
 exact ⟨rbool (by rw [HE.out]; simp), (Below.refl _ _).alloc (Nat.le_refl _) _⟩
theorem isExit (s : Int) (x : Sg) (bs bx : Nat) (e : Nat) (j : Jn) (w : World) (h0 : w.cell? ⟨bs, 0, none⟩ = some (.int .i64 s)) (h1 : w.cell? ⟨bx, 1, none⟩ = some (.int .i64 x.sec)) (h2 : w.cell? ⟨bx, 2, none⟩ = some (.int .i64 x.en)) :
  Calls Tryz.prog 305 (#[.int .i64 (e : Int), .agg #[.int .i64 j.to, .int .i64 j.en]] ++ #[.pointer (some ⟨bs, 0, none⟩), .pointer (some ⟨bx, 0, none⟩)]) w (BoolPost w (rightExit s x e j)) := by
 have HE : Hid (rightExit s x e j = decide (s = x.sec ∧ (e : Int) = x.en)) := rfl
 generalize rightExit s x e j = B at *
 have l0 := World.block_lt_of_cell? _ _ h0
 have l1 := World.block_lt_of_cell? _ _ h1
 go_enter Tryz.func305, Tryz.ntmps305
 go_wp2_with fail
 all_goals
  go_ret
  exact ⟨rbool (by rw [HE.out, Bool.eq_iff_iff]; simp_all), (Below.refl _ _).alloc (Nat.le_refl _) _⟩
theorem isNext (l : List Int) (i : Nat) (ba bi : Nat) (a : Option Addr) (c : Nat) (e : Nat) (j : Jn) (w : World) (h0 : w.cell? ⟨ba, 0, none⟩ = some (.slice a l.length c)) (hl : IL w a l.length l) (h1 : w.cell? ⟨bi, 0, none⟩ = some (.int .i64 (i : Int))) (hi : i + 1 < l.length) (hm : l.length ≤ 1000) :
  Calls Tryz.prog 307 (#[.int .i64 (e : Int), .agg #[.int .i64 j.to, .int .i64 j.en]] ++ #[.pointer (some ⟨ba, 0, none⟩), .pointer (some ⟨bi, 0, none⟩)]) w (BoolPost w (rightNext (l.getD (i + 1) 0) e j)) := by
 have hd : l.getD (i + 1) 0 = l[i + 1] := by rw [List.getD_eq_getElem?_getD, List.getElem?_eq_getElem hi]; rfl
 rw [hd]
 obtain ⟨b, off, rfl, x0⟩ := hl.cell (i + 1) hi
 have HE : Hid (rightNext l[i + 1] e j = decide (j.to = l[i + 1])) := rfl
 generalize rightNext l[i + 1] e j = B at *
 generalize l[i + 1] = n at *
 generalize l.length = L at *
 have l0 := World.block_lt_of_cell? _ _ h0
 have l1 := World.block_lt_of_cell? _ _ h1
 have l2 := World.block_lt_of_cell? _ _ x0
 have c0 : (0 : Int) ≤ (i : Int) + 1 := by omega
 have c1 : (i : Int) + 1 < (L : Int) := by omega
 clear hl hd
 go_enter Tryz.func307, Tryz.ntmps307
 go_wp2_with fail
 go_quiet (fail)
 go_wp2_with fail
 go_ret
 exact ⟨rbool (by rw [HE.out]; simp [Bool.beq_eq_decide_eq]), below_drewN' ((Below.refl _ _).alloc (Nat.le_refl _) _) _⟩
end Go.Proofs.YtbiehpjhhopjaaaGreat
namespace Go.Proofs.YtbiehpjhhopjaaaGreat
open Go.RowKit Go.Sort
theorem one_zero {α : Type} (f : α → Int) (z : α) (l : List α) (n : Int) : oneOf f z (l.take 0) n = z := by simp [oneOf]
theorem one_skip {α : Type} {f : α → Int} {z : α} {l : List α} {n : Int} {k : Nat} (h : k < l.length) (hn : ¬ f l[k] = n) : oneOf f z (l.take (k + 1)) n = oneOf f z (l.take k) n := by
 unfold oneOf
 rw [List.take_succ_eq_append_getElem h, List.find?_append]
 have : [l[k]].find? (fun x => decide (f x = n)) = none := by simp [hn]
 rw [this]
 cases (l.take k).find? (fun x => decide (f x = n)) <;> rfl
theorem one_hit {α : Type} {f : α → Int} {z : α} {l : List α} {n : Int} {k : Nat} (h : k < l.length) (hR : RiseTo f l l.length) (hn : f l[k] = n) : oneOf f z (l.take (k + 1)) n = l[k] := by
 unfold oneOf
 rw [List.take_succ_eq_append_getElem h, List.find?_append]
 have hno : (l.take k).find? (fun x => decide (f x = n)) = none := by
  rw [List.find?_eq_none]
  intro x hx
  obtain ⟨i, hi, rfl⟩ := List.getElem_of_mem hx
  rw [List.length_take] at hi
  rw [List.getElem_take]
  have hlt : ∀ d, ∀ h1 : i + d + 1 < l.length, f l[i] < f l[i + d + 1] := by
   intro d
   induction d with
   | zero => intro h1; have := (hR (i + 0 + 1) h1 h1).2 (by omega); simpa using this
   | succ d ih =>
    intro h1
    have h2 := ih (by omega)
    have h3 := (hR (i + (d + 1) + 1) h1 h1).2 (by omega)
    have e : i + (d + 1) + 1 - 1 = i + d + 1 := by omega
    simp only [e] at h3
    omega
  have := hlt (k - i - 1) (by omega)
  have e : i + (k - i - 1) + 1 = k := by omega
  simp only [e] at this
  simp; omega
 rw [hno]
 simp [hn]
theorem blk3 {W : World} {g : Nat} {a b c x y z : Value} {T : TypeId} {fr : Nat × Nat} (h : W.heap[g]? = some (.cells #[a, b, c] T fr)) : (((W.setCell ⟨g, 0, none⟩ x).setCell ⟨g, 1, none⟩ y).setCell ⟨g, 2, none⟩ z).heap[g]? = some (.cells #[x, y, z] T fr) := by
 simp [World.setCell, Array.getElem?_modify, h]
set_option maxRecDepth 100000 in
set_option maxHeartbeats 2000000 in
theorem signal_any (p : Pl) (s q g r : Value) (id : Int) (w : World) (hp : PlM w s q g r p) (hf : p.Fit) (hR : RiseTo Sg.id p.sigs p.sigs.length) :
  Calls Tryz.prog 301 #[plV p s q g r, .int .i64 id] w fun e w' => e = .returned (.agg #[.int .i64 (sgOf p id).id, .int .i64 (sgOf p id).sec, .int .i64 (sgOf p id).en]) ∧ Below w.heap.size w w' := by
 obtain ⟨⟨a1, c1, rfl, k1⟩, ⟨a2, c2, rfl, k2⟩, ⟨a3, c3, rfl, k3⟩, ⟨a4, c4, rfl, k4⟩⟩ := hp
 have HG : Hid (∀ w', Below w.heap.size w w' → SlA w' 3 RSg a3 c3 p.sigs) := fun w' hb => k3.below keeps_sg hb
 have HRR := Lib.hid hR
 have HE : Hid (sgOf p id = oneOf Sg.id zSg (p.sigs.take p.sigs.length) id) := by show _ = _; rw [List.take_length]; rfl
 have hs := hf.sigs
 generalize sgOf p id = E at *
 clear k1 k2 k3 k4 hf hR
 unfold plV
 go_enter Tryz.func301, Tryz.ntmps301
 go_wp2_with fail
 generalize hW : (w.alloc _).alloc _ = W
 have K0 : Hid (Below w.heap.size w W) := by show Below _ _ _; rw [← hW]; exact ((Below.refl _ _).alloc (Nat.le_refl _) _).alloc (by simp) _
 have HG0 : Hid (W.heap[w.heap.size + 1]? = some (.cells #[.int .i64 0, .int .i64 0, .int .i64 0] 145 (0, 0))) := by
  show _ = _
  rw [← hW]
  exact heap_alloc2_new _ _ _
 clear hW
 go_loopg [10] p.sigs.length (fun g i wr => ∃ k : Nat, k ≤ p.sigs.length ∧ g = p.sigs.length - k ∧ i = .int .i64 k ∧ Below w.heap.size w wr ∧ wr.heap[w.heap.size + 1]? = some (.cells #[.int .i64 (oneOf Sg.id zSg (p.sigs.take k) id).id, .int .i64 (oneOf Sg.id zSg (p.sigs.take k) id).sec, .int .i64 (oneOf Sg.id zSg (p.sigs.take k) id).en] 145 (0, 0)))
 case atStart => exact ⟨0, by omega, by omega, rfl, K0.out, by rw [one_zero]; exact HG0.out⟩
 case round =>
  obtain ⟨k, hk, rfl, rfl, hb, hB⟩ := hrel
  obtain ⟨wo, rfl⟩ : ∃ wo : World, wo = wr := ⟨_, rfl⟩
  have HB := Lib.hid hb
  have HBL := Lib.hid hB
  have lg := lt_of_block hB
  clear hb hB
  by_cases hlt : k < p.sigs.length
  ·have hdk : decide ((k : Int) < (p.sigs.length : Int)) = true := by simp; omega
   obtain ⟨b, off, rfl, x0, x1, x2⟩ := (HG.out _ HB.out).sg hlt
   have c0 : (0 : Int) ≤ (k : Int) := by omega
   have c1 : (k : Int) < (p.sigs.length : Int) := by omega
   have l1 := World.block_lt_of_cell? _ _ x0
   have f0 : ∀ o, wo.frozen? ⟨w.heap.size + 1, o, none⟩ = false := fun o => by simp [World.frozen?, HBL.out]
   obtain ⟨z0, z1, z2⟩ := cells3 HBL.out
   by_cases he : p.sigs[k].id = id
   ·have t0 : (p.sigs[k].id == id) = true := by rw [beq_iff_eq]; exact he
    have HO := Lib.hid (one_hit (z := zSg) hlt HRR.out he)
    clear he
    generalize p.sigs[k] = X at *
    generalize oneOf Sg.id zSg (p.sigs.take k) id = Y at *
    go_wp2_with fail
    go_roundg (p.sigs.length - (k + 1))
    case measure => go_light; omega
    case rel =>
     go_light
     refine ⟨k + 1, by omega, by omega, by go_num, ?_, ?_⟩
     ·exact ((((HB.out.setCell (by simp) _).setCell (by simp) _).setCell (by simp) _)).alloc (by simpa [World.setCell] using HB.out.size) _
     ·rw [HO.out]
      exact (heap_alloc_old _ _ (by simpa [World.setCell] using lg)).trans (blk3 HBL.out)
   ·have t0 : (p.sigs[k].id == id) = false := by rw [beq_eq_false_iff_ne]; exact he
    have HO := Lib.hid (one_skip (z := zSg) hlt he)
    clear he
    generalize p.sigs[k] = X at *
    generalize oneOf Sg.id zSg (p.sigs.take k) id = Y at *
    go_wp2_with fail
    go_roundg (p.sigs.length - (k + 1))
    case measure => go_light; omega
    case rel =>
     go_light
     exact ⟨k + 1, by omega, by omega, by go_num, HB.out.alloc HB.out.size _, by rw [HO.out]; exact (heap_alloc_old wo _ lg).trans HBL.out⟩
  ·obtain rfl : k = p.sigs.length := by omega
   have hdk : decide ((p.sigs.length : Int) < (p.sigs.length : Int)) = false := by simp
   rw [← HE.out] at HBL
   go_wp2_with fail
   obtain ⟨q0, q1, q2⟩ := cells3 HBL.out
   exact bodyPost_ret (v := .agg #[.int .i64 E.id, .int .i64 E.sec, .int .i64 E.en]) (by simp [results, Tryz.f301, go_sem, q0, q1, q2]) rfl ⟨rfl, HB.out⟩
end Go.Proofs.YtbiehpjhhopjaaaGreat
namespace Go.Proofs.YtbiehpjhhopjaaaGreat
open Go.RowKit Go.Sort
set_option maxRecDepth 100000 in
set_option maxHeartbeats 4000000 in
theorem stay_any (g : Nat) (p : Pl) (a1 : Option Addr) (c1 : Nat) (q gg r va vo : Value) (k : Wk) (id pl : Int) (W : World)
  (hW : WkM W g p (.slice a1 p.secs.length c1) q gg r k va vo) (hS : ∀ W', Below g W W' → SlA W' 3 RSec a1 c1 p.secs) (hm : p.secs.length ≤ 1000) (hn1 : k.asks.length ≤ 900) :
  Calls Tryz.prog 306 #[.pointer (some ⟨g, 0, none⟩), .int .i64 id, .int .i64 pl] W (WkPost W g p (.slice a1 p.secs.length c1) q gg r (wkStay p.secs k id pl)) := by
 have HC := Lib.hid (section_any g p a1 c1 q gg r va vo k id W hW hS hm)
 have l0 := hW.lt
 have hK1 : (wkS p.secs k id).asks.length ≤ 900 := by rw [wkS_asks]; exact hn1
 have HT : Hid (wkStay p.secs k id pl = if (wkS p.secs k id).lost = false ∧ 0 < (wkS p.secs k id).inn.en then wkAsk (wkS p.secs k id) (wkSec p.secs k id).pt (wkS p.secs k id).inn.en pl else wkS p.secs k id) := by
  show _ = _
  rw [wkS_inn]
  rfl
 generalize wkStay p.secs k id pl = R at *
 unfold SecPost at HC
 generalize wkSec p.secs k id = S at *
 generalize wkS p.secs k id = K at *
 clear hW hS hm hn1
 go_enter Tryz.func306, Tryz.ntmps306
 go_wp2_with fail
 refine HC.out.mono ?_
 rintro e w1 ⟨a, c, rfl, hends, hw1, ho1⟩
 unfold secV
 have hl1 := hw1.lt
 go_upto_region 1 with fail
 generalize hWW : w1.alloc _ = W1
 have hb1 : Below w1.heap.size w1 W1 := by rw [← hWW]; exact (Below.refl _ _).alloc (Nat.le_refl _) _
 have HO1 : Hid (Off g W W1) := ho1.trans (Off.of_below hb1 (Nat.le_of_lt hl1))
 have HW1 := Lib.hid (hw1.below hb1)
 have s0 : W1.cell? ⟨w1.heap.size, 0, none⟩ = some (.int .i64 S.id) := by rw [← hWW]; simp
 have s1 : W1.cell? ⟨w1.heap.size, 1, none⟩ = some (.int .i64 S.pt) := by rw [← hWW]; simp
 have s2 : W1.cell? ⟨w1.heap.size, 2, none⟩ = some (.slice a S.ends.length c) := by rw [← hWW]; simp
 have y7 := HW1.out.en
 have y10 := HW1.out.lost
 have l1 := HW1.out.lt
 have l2 : w1.heap.size < W1.heap.size := by rw [← hWW]; simp
 clear hWW hends hw1 ho1 hb1
 cases hL : K.lost with
 | true =>
  rw [hL] at y10
  have HE : Hid (R = K) := HT.out.trans <| if_neg (fun h => by rw [hL] at h; cases h.1)
  clear hL
  go_wp2_with fail
  refine bodyPost_ret (v := .tuple #[]) (by simp [results, Tryz.f306, go_sem]) rfl ⟨rfl, HO1.out, va, vo, ?_⟩
  rw [HE.out]
  exact HW1.out
 | false =>
  rw [hL] at y10
  by_cases hE : 0 < K.inn.en
  ·have t1 : decide (0 < K.inn.en) = true := by simpa using hE
   have HE : Hid (R = wkAsk K S.pt K.inn.en pl) := HT.out.trans <| if_pos ⟨hL, hE⟩
   clear hL hE
   go_upto_region 2 with fail
   go_still_tail 9, (by kernel_rfl)
   change wpList _ _ _ _ _ W1.drew
   generalize hWD : W1.drew = WD
   have hbD : Below W1.heap.size W1 WD := by rw [← hWD]; exact (Below.refl _ _).drew
   have HOD : Hid (Off g W WD) := HO1.out.trans (Off.of_below hbD (Nat.le_of_lt l1))
   have HWD := Lib.hid (HW1.out.below hbD)
   clear hWD hbD s0 s1 s2 y7 y10
   go_wp2_with fail
   refine (ask_any g p _ q gg r va vo K S.pt K.inn.en pl WD HWD.out (by omega)).mono ?_
   rintro e w2 ⟨rfl, hO, -, va', hw⟩
   have HO2 : Hid (Off g W w2) := HOD.out.trans hO
   have HW2 := Lib.hid hw
   clear hO hw
   go_wp2_with fail
   refine bodyPost_ret (v := .tuple #[]) (by simp [results, Tryz.f306, go_sem]) rfl ⟨rfl, HO2.out, va', vo, ?_⟩
   rw [HE.out]
   exact HW2.out
  ·have t1 : decide (0 < K.inn.en) = false := by simpa using hE
   have HE : Hid (R = K) := HT.out.trans <| if_neg (fun h => hE h.2)
   clear hL hE
   go_wp2_with fail
   refine bodyPost_ret (v := .tuple #[]) (by simp [results, Tryz.f306, go_sem]) rfl ⟨rfl, HO1.out, va, vo, ?_⟩
   rw [HE.out]
   exact HW1.out
end Go.Proofs.YtbiehpjhhopjaaaGreat
namespace Go.Proofs.YtbiehpjhhopjaaaGreat
open Go.RowKit
theorem info3 : (Tryz.prog.info? 3).map (fun i => (i.zero, i.size, i.bytes)) = some (some (.int .i64 0), 1, 8) := by kernel_rfl
def IntOwn (w : World) (base : Nat) (v : Value) (l : List Int) : Prop := w.ownsRow base 3 1 v l.length (l.map (.int .i64))
theorem IntOwn.ilv {w : World} {base : Nat} {v : Value} {l : List Int} (h : IntOwn w base v l) : ILv w v l := ilv_of_own h
theorem IL.reads {w : World} {b off : Nat} {l : List Int} (h : IL w (some ⟨b, off, none⟩) l.length l) : ∀ j u, (l.map (Value.int .i64))[j]? = some u → w.cell? ⟨b, off + j, none⟩ = some u := by
 intro j u hj
 rw [List.getElem?_map, Option.map_eq_some_iff] at hj
 obtain ⟨x, hx, rfl⟩ := hj
 obtain ⟨hlt, rfl⟩ := List.getElem?_eq_some_iff.1 hx
 obtain ⟨b', off', e, hc⟩ := h.cell j hlt
 cases e
 exact hc
set_option maxRecDepth 100000 in
theorem clone_any (a : Option Addr) (cap : Nat) (l : List Int) (w : World) (hl : IL w a l.length l) (hm : l.length ≤ 1000) :
  Calls Tryz.prog 210 #[.slice a l.length cap] w fun e w' => ∃ v, e = .returned v ∧ IntOwn w' w.heap.size v l ∧ Below w.heap.size w w' := by
 have q : ∀ (w : World) (a : Option Addr) (n c n' c' : Nat), (binOp .eql 54 (.slice a n c) (.slice none n' c')).run Tryz.prog w = .ok (.bool a.isNone) w := fun w a n c n' c' => Go.Lib.run_eql_slice_nil w _ _ a n c n' c' Tryz.underlying54
 obtain ⟨i0, hi, hz0, hz1, hz2⟩ := info_parts info3
 cases a with
 | none =>
  have h0 : l = [] := by
   cases l with
   | nil => rfl
   | cons c l => obtain ⟨b, off, e, _⟩ := hl.cell 0 (by simp); cases e
  subst h0
  go_enter Tryz.func210, Tryz.ntmps210
  go_wp2_with fail
  go_ret
  exact ⟨_, rfl, World.ownsRow_nil _ _ _ _, Below.refl _ _⟩
 | some ad =>
  by_cases h0 : l = []
  ·subst h0
   go_enter Tryz.func210, Tryz.ntmps210
   go_wp2_with fail
   go_ret
   exact ⟨_, rfl, World.ownsRow_made w #[] 0 (Nat.le_refl _) (Nat.zero_le _) (by simp), (Below.refl _ _).alloc (Nat.le_refl _) _⟩
  ·obtain ⟨b, off, e, -⟩ := hl.cell 0 (List.length_pos_iff.2 h0)
   cases e
   have HR := Lib.hid hl.reads
   have HN : Hid ((l.map (Value.int .i64)).length = l.length * 1) := by show _ = _; simp
   have H1 : Hid (∀ u ∈ l.map (Value.int .i64), u.oneCell' = true) := by
    intro u hu
    obtain ⟨x, -, rfl⟩ := List.mem_map.1 hu
    rfl
   have HL : Hid (∀ v W, W.ownsRow w.heap.size 3 1 v (0 + l.length) ([] ++ l.map (Value.int .i64)) → IntOwn W w.heap.size v l) := fun v W h => by rw [Nat.zero_add] at h; exact h
   generalize hq : l.map (Value.int .i64) = news at *
   have HC : Hid (∀ j u, news[j]? = some u → (w.alloc (.cells #[] 3)).cell? ((⟨b, off, none⟩ : Addr).add j) = some u) := fun j u hj => by
    rw [Addr.add_lit]
    exact (((Below.refl w.heap.size w).alloc (Nat.le_refl _) _).cell (p := ⟨b, off + j, none⟩) (block_lt_of_cell (HR.out j u hj))).trans (HR.out j u hj)
   have hlen : Hid (0 < l.length) := List.length_pos_iff.2 h0
   clear hl h0 hq
   go_enter Tryz.func210, Tryz.ntmps210
   go_wp2_with (at_builtin; refine wpList_append_own_at _ rfl _ _ 54 rfl w.heap.size 3 i0 (.int .i64 0) 1 8 Tryz.underlying54 hi hz0 hz1 hz2 rfl (by decide) _ _ _ rfl (World.ownsRow_made w #[] 0 (Nat.le_refl _) (Nat.zero_le _) (by simp)) ⟨b, off, none⟩ l.length cap news rfl HN.out HC.out H1.out (by unfold maxLen; omega) (by omega) (by simp) ?_; intro v' w' hown hgr hnil hat)
   have hgr : (w.alloc (.cells #[] 3)).grownBy w' (some w.heap.size) := hgr
   go_ret
   exact ⟨_, rfl, HL.out _ _ hown, (((Below.refl _ w).alloc (Nat.le_refl _) _).grown hgr (by simp) (by intro k hk; cases hk; exact Nat.le_refl _))⟩
end Go.Proofs.YtbiehpjhhopjaaaGreat
