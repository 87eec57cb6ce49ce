/-
  way.walk's ask, walked.
  way.walk's through, walked.
  way.signal, and the answers that a walk asks for, walked.
-/
import Derived.Test.YtbiehpjhhopjaaaGreatWayA
import Derived.Deep.LoopGhost
import Derived.Deep.Light
set_option linter.unusedVariables false
set_option linter.unusedSimpArgs false
namespace Go.Proofs.YtbiehpjhhopjaaaGreat
open Go.RowKit Go.Sort
theorem WkM.grownA {W w' : World} {g : Nat} {p : Pl} {s q gg r va vo : Value} {k : Wk} {o : Obj} (h : WkM W g p s q gg r k va vo) (hg : (W.alloc o).grownBy w' va.ownBlock) :
    w'.heap[g]? = W.heap[g]? ∧ Off g W w' ∧ JnOwn w' (g + 1) vo k.outs := by
  have hl := h.lt
  have ha : (W.alloc o).ownsRow (g + 1) 281 3 va k.asks.length (k.asks.flatMap askC) := h.asks.alloc o
  have hj : (W.alloc o).ownsRow (g + 1) 133 2 vo k.outs.length (k.outs.flatMap jnC) := h.outs.alloc o
  refine ⟨?_, ?_, hj.kept hg (own_apart hj ha (by decide))⟩
  · exact (hg.block g (by simp; omega) (fun e => by have := (ha.lt g e.symm).1; omega)).trans (heap_alloc_old W o hl)
  · exact (Off.of_below ((Below.refl _ W).alloc (Nat.le_refl _) o) (Nat.le_of_lt hl)).trans (Off.grown ha (by omega) (by simp; omega) rfl hg)
theorem WkM.grownO {W w' : World} {g : Nat} {p : Pl} {s q gg r va vo : Value} {k : Wk} {o : Obj} (h : WkM W g p s q gg r k va vo) (hg : (W.alloc o).grownBy w' vo.ownBlock) :
    w'.heap[g]? = W.heap[g]? ∧ Off g W w' ∧ AskOwn w' (g + 1) va k.asks := by
  have hl := h.lt
  have ha : (W.alloc o).ownsRow (g + 1) 281 3 va k.asks.length (k.asks.flatMap askC) := h.asks.alloc o
  have hj : (W.alloc o).ownsRow (g + 1) 133 2 vo k.outs.length (k.outs.flatMap jnC) := h.outs.alloc o
  refine ⟨?_, ?_, ha.kept hg (own_apart ha hj (by decide))⟩
  · exact (hg.block g (by simp; omega) (fun e => by have := (hj.lt g e.symm).1; omega)).trans (heap_alloc_old W o hl)
  · exact (Off.of_below ((Below.refl _ W).alloc (Nat.le_refl _) o) (Nat.le_of_lt hl)).trans (Off.grown hj (by omega) (by simp; omega) rfl hg)
theorem one3 (a b c : Int) : ∀ u ∈ [Value.int .i64 a, .int .i64 b, .int .i64 c], u.oneCell' = true := by
  intro u hu
  simp only [List.mem_cons, List.not_mem_nil, or_false] at hu
  rcases hu with rfl | rfl | rfl <;> rfl
theorem one2 (a b : Int) : ∀ u ∈ [Value.int .i64 a, .int .i64 b], u.oneCell' = true := by
  intro u hu
  simp only [List.mem_cons, List.not_mem_nil, or_false] at hu
  rcases hu with rfl | rfl <;> rfl
/-- what a step of a walk leaves -/
def WkPost (W : World) (g : Nat) (p : Pl) (s q gg r : Value) (k' : Wk) (e : Ending) (W' : World) : Prop :=
  e = .returned (.tuple #[]) ∧ Off g W W' ∧ ∃ va' vo', WkM W' g p s q gg r k' va' vo'
set_option maxRecDepth 100000 in
/-- only the walk and what it asks has turned -/
def AskPost (W : World) (g : Nat) (p : Pl) (s q gg r vo : Value) (k' : Wk) (e : Ending) (W' : World) : Prop :=
  e = .returned (.tuple #[]) ∧ Off g W W' ∧ (∀ k c t fr, W.heap[k]? = some (.cells c t fr) → k ≠ g → t ≠ 281 → W'.heap[k]? = some (.cells c t fr)) ∧ ∃ va', WkM W' g p s q gg r k' va' vo
theorem ask_any (g : Nat) (p : Pl) (s q gg r va vo : Value) (k : Wk) (pt lie pl : Int) (W : World) (hW : WkM W g p s q gg r k va vo) (hn : k.asks.length ≤ 1000) :
    Calls Tryz.prog 308 #[.pointer (some ⟨g, 0, none⟩), .int .i64 pt, .int .i64 lie, .int .i64 pl] W (AskPost W g p s q gg r vo (wkAsk k pt lie pl)) := by
  have HW := Lib.hid hW
  have HE : Hid (wkAsk k pt lie pl = if 0 < pt ∧ 0 < lie then { k with asks := k.asks ++ [⟨pt, lie, pl⟩] } else k) := rfl
  generalize wkAsk k pt lie pl = K at *
  have l0 := hW.lt
  have y8 := hW.cva
  have z8 := hW.frozen 8
  clear hW
  by_cases h1 : 0 < pt
  · have t1 : decide (0 < pt) = true := by simpa using h1
    by_cases h2 : 0 < lie
    · have t2 : decide (0 < lie) = true := by simpa using h2
      rw [if_pos ⟨h1, h2⟩] at HE
      clear h1 h2
      go_enter Tryz.func308, Tryz.ntmps308
      go_wp2_with (at_builtin; refine wpList_append_one rfl _ _ 182 281 _ _ 3 24 rfl Tryz.underlying182 info281 rfl (by decide) (by decide) (g + 1) va k.asks.length _ rfl HW.out.asks hn (Nat.succ_le_of_lt l0) [.int .i64 pt, .int .i64 lie, .int .i64 pl] rfl rfl (one3 _ _ _) ?_; intro b' c' w' hown hgr; have hB := (HW.out.grownA hgr).1.trans HW.out.blk; have hF : ∀ o, w'.frozen? ⟨g, o, none⟩ = false := fun o => by { simp [World.frozen?, hB] }; have hC : w'.cell? ⟨g, 8, none⟩ = some va := (cell_of_row w' _ 8 _ _ _ hB).trans rfl)
      obtain ⟨-, hO, hJ⟩ := HW.out.grownA hgr
      have hE := HE.out
      subst hE
      refine bodyPost_ret (v := .tuple #[]) (by simp [results, Tryz.f308, go_sem]) rfl ⟨rfl, hO.trans (Off.setCell _ _ _ _), ?_, _, ?_, own_setCell (by simpa [AskOwn, List.flatMap_append, askC] using hown) (by simp) _, own_setCell hJ (by simp) _⟩
      · intro k c t fr hk hne ht
        refine (Below.heap_setCell _ _ _ k hne).trans ?_
        have hs := grown_same (M := fun t => t == 281) (HW.out.asks.alloc _) rfl hgr
        exact hs k c t fr ((heap_alloc_old W _ (lt_of_block hk)).trans hk) (by simp [ht])
      · simp [World.setCell, Array.getElem?_modify, hB]
    · have t2 : decide (0 < lie) = false := by simpa using h2
      rw [if_neg (fun h => h2 h.2)] at HE
      have HE := HE.out
      subst HE
      clear h1 h2
      go_enter Tryz.func308, Tryz.ntmps308
      go_wp2_with fail
      exact bodyPost_ret (v := .tuple #[]) (by simp [results, Tryz.f308, go_sem]) rfl ⟨rfl, Off.refl _ _, fun _ _ _ _ h _ _ => h, _, HW.out⟩
  · have t1 : decide (0 < pt) = false := by simpa using h1
    rw [if_neg (fun h => h1 h.1)] at HE
    have HE := HE.out
    subst HE
    clear h1
    go_enter Tryz.func308, Tryz.ntmps308
    go_wp2_with fail
    exact bodyPost_ret (v := .tuple #[]) (by simp [results, Tryz.f308, go_sem]) rfl ⟨rfl, Off.refl _ _, fun _ _ _ _ h _ _ => h, _, HW.out⟩
end Go.Proofs.YtbiehpjhhopjaaaGreat
set_option linter.unusedVariables false
set_option linter.unusedSimpArgs false
namespace Go.Proofs.YtbiehpjhhopjaaaGreat
open Go.RowKit Go.Sort
/-- what a function value says of ends -/
def SaysEnd (g : Nat) (m : FuncId) (caps : Array Value) (right : Nat → Jn → Bool) (W : World) : Prop :=
  ∀ W' (e : Nat) (j : Jn), Off g W W' → e < 3 → Calls Tryz.prog m (#[.int .i64 (e : Int), .agg #[.int .i64 j.to, .int .i64 j.en]] ++ caps) W' (BoolPost W' (right e j))
theorem goes_eq {s : Sec} {k : Wk} {right : Nat → Jn → Bool} {e : Nat} (h : e < s.ends.length) : goes s k right e = (!k.lost && decide (thrE s k.inn.en e = 0) && right e s.ends[e]) := by
  unfold goes
  rw [List.getD_eq_getElem?_getD, List.getElem?_eq_getElem h]
  rfl
set_option maxRecDepth 100000 in
set_option maxHeartbeats 4000000 in
theorem through_any (g : Nat) (p : Pl) (a1 : Option Addr) (c1 : Nat) (q gg r va vo : Value) (k : Wk) (id pl : Int) (m : FuncId) (caps : Array Value) (right : Nat → Jn → Bool) (W : World)
    (hW : WkM W g p (.slice a1 p.secs.length c1) q gg r k va vo) (hS : ∀ W', Below g W W' → SlA W' 3 RSec a1 c1 p.secs) (hm : p.secs.length ≤ 1000) (hA : SecsA p.secs p.secs.length)
    (hn1 : k.asks.length ≤ 900) (hn2 : k.outs.length ≤ 900) (hf : PlainF m) (hr : SaysEnd g m caps right W) :
    Calls Tryz.prog 303 #[.pointer (some ⟨g, 0, none⟩), .int .i64 id, .int .i64 pl, .func (.func m) #[] caps] W (WkPost W g p (.slice a1 p.secs.length c1) q gg r (wkThrough p.secs k id pl right)) := by
  have hcf : ∀ (args : Array Value) (w : World), Sem.run Tryz.prog (callFunc m args) w = .ok (.enter m args) w := hf
  have HC := Lib.hid (section_any g p a1 c1 q gg r va vo k id W hW hS hm)
  have HR := Lib.hid hr
  have l0 := hW.lt
  have hK1 : (wkS p.secs k id).asks.length ≤ 900 := by rw [wkS_asks]; exact hn1
  have hK2 : (wkS p.secs k id).outs.length ≤ 900 := by rw [wkS_outs]; exact hn2
  have hS3 : (wkSec p.secs k id).ends.length ≤ 3 := by
    unfold wkSec
    split
    · rename_i c
      obtain ⟨i, hi, he⟩ := List.getElem_of_mem (one_is (z := zSec) c.1).1
      rw [← he]
      rcases (hA i hi hi).1.2.2 with h | h <;> omega
    · show ([] : List Jn).length ≤ 3; decide
  have HT : Hid (wkThrough p.secs k id pl right = wkGo (wkSec p.secs k id) (wkS p.secs k id) id pl right) := rfl
  rw [HT.out]
  unfold SecPost at HC
  generalize wkSec p.secs k id = S at *
  generalize wkS p.secs k id = K at *
  clear HT hW hS hm hA hn1 hn2 hf hr
  go_enter Tryz.func303, Tryz.ntmps303
  go_wp2_with fail
  refine HC.out.mono ?_
  rintro e w1 ⟨a, c, rfl, hends, hw1, ho1⟩
  unfold secV
  have hl1 := hw1.lt
  go_wp2_with fail
  generalize hWW : w1.alloc _ = W1
  have hb1 : Below w1.heap.size w1 W1 := by rw [← hWW]; exact (Below.refl _ _).alloc (Nat.le_refl _) _
  have HO1 : Hid (Off g W W1) := ho1.trans (Off.of_below hb1 (Nat.le_of_lt hl1))
  have HW1 := Lib.hid (hw1.below hb1)
  have HY : Hid (∀ W', Below W1.heap.size W1 W' → W'.cell? ⟨w1.heap.size, 0, none⟩ = some (.int .i64 S.id) ∧ W'.cell? ⟨w1.heap.size, 1, none⟩ = some (.int .i64 S.pt) ∧ W'.cell? ⟨w1.heap.size, 2, none⟩ = some (.slice a S.ends.length c) ∧ w1.heap.size < W'.heap.size) := by
    intro W' hb
    refine ⟨ccell hb (by rw [← hWW]; simp), ccell hb (by rw [← hWW]; simp), ccell hb (by rw [← hWW]; simp), Nat.lt_of_lt_of_le (by rw [← hWW]; simp) hb.size⟩
  have HEN : Hid (∀ W', Below W1.heap.size W1 W' → SlA W' 2 RJn a c S.ends) := fun W' hb => (hends.below keeps_jn hb1).below keeps_jn hb
  clear hWW hends hw1 ho1
  go_loopg [19] S.ends.length (fun g' i wr => ∃ e : Nat, e ≤ S.ends.length ∧ g' = S.ends.length - e ∧ i = .int .i64 e ∧ Below W1.heap.size W1 wr ∧ ∀ i, i < e → goes S K right i = false)
  case atStart => exact ⟨0, by omega, by omega, rfl, Below.refl _ _, fun i h => by omega⟩
  case round =>
    obtain ⟨n, hn, rfl, rfl, hb, hno⟩ := hrel
    obtain ⟨wo, rfl⟩ : ∃ wo : World, wo = wr := ⟨_, rfl⟩
    have HB := Lib.hid hb
    have HNO := Lib.hid hno
    clear hb hno
    by_cases hlt : n < S.ends.length
    · have hdk : decide ((n : Int) < (S.ends.length : Int)) = true := by simp; omega
      obtain ⟨b, off, rfl, x0, x1⟩ := (HEN.out _ HB.out).jn hlt
      have c0 : (0 : Int) ≤ (n : Int) := by omega
      have c1 : (n : Int) < (S.ends.length : Int) := by omega
      have l2 := World.block_lt_of_cell? _ _ x0
      have HGO := Lib.hid (goes_eq (k := K) (right := right) hlt)
      have HN1 : Hid (goes S K right n = false → ∀ i, i < n + 1 → goes S K right i = false) := fun h i hi => by
        rcases Nat.lt_or_ge i n with h' | h'
        · exact HNO.out i h'
        · obtain rfl : i = n := by omega
          exact h
      have HAT : Hid (goes S K right n = true → wkGo S K id pl right = { wkAsk K S.pt (thrL S K.inn.en n) pl with inn := S.ends[n], outs := K.outs ++ [⟨id, n⟩] }) := fun h => wkGo_at hlt h HNO.out
      go_upto_region 4 with fail
      generalize hW4 : wo.alloc _ = W4
      have hb4 : Below wo.heap.size wo W4 := by rw [← hW4]; exact (Below.refl _ _).alloc (Nat.le_refl _) _
      have HB4 : Hid (Below W1.heap.size W1 W4) := HB.out.trans (hb4.mono HB.out.size)
      have HJ : Hid (W4.heap[wo.heap.size]? = some (.cells #[.int .i64 S.ends[n].to, .int .i64 S.ends[n].en] 133 (0, 0))) := by show _ = _; rw [← hW4]; exact heap_alloc_new _ _
      have hwk := HW1.out.below HB4.out
      obtain ⟨s0, s1, s2, ls⟩ := HY.out _ HB4.out
      have y7 := cell_regrown hwk.en
      have z0 := cell_regrown s0
      have z1 := cell_regrown s1
      have z2 := cell_regrown s2
      have cT : Hid (∀ d os, Calls Tryz.prog 384 #[.agg #[.int .i64 S.id, .int .i64 S.pt, .slice (some ⟨b, off, none⟩) S.ends.length c], .int .i64 K.inn.en, .int .i64 (n : Int)] (grow (redrawn W4 d) os) fun e w'' => e = .returned (.tuple #[.int .i64 (thrL S K.inn.en n), .int .i64 (thrE S K.inn.en n)]) ∧ ∃ p : Regrown, w'' = grow (redrawn W4 p.d) p.os) := fun d os => Calls.regrown_of (trackthrough_any S _ c K.inn.en n _)
      have HR4 : Hid (∀ W', Below W4.heap.size W4 W' → Calls Tryz.prog m (#[.int .i64 (n : Int), .agg #[.int .i64 S.ends[n].to, .int .i64 S.ends[n].en]] ++ caps) W' (BoolPost W' (right n S.ends[n]))) := fun W' hb =>
        HR.out W' n S.ends[n] (HO1.out.trans (Off.of_below (HB4.out.trans (hb.mono HB4.out.size)) (Nat.le_of_lt HW1.out.lt))) (by omega)
      generalize thrL S K.inn.en n = TL at *
      generalize thrE S K.inn.en n = TE at *
      clear hW4 hb4 hwk s0 s1 s2 ls x0 x1 l2
      refine wp_region_quiet_below (by kernel_rfl) (by kernel_rfl) ?_
      repeat (go_big_quiet_step (first | (with_reducible exact cT.out _ _)))
      refine wpQuiet_nil ?_
      rintro _ ⟨⟨dq, osq⟩, rfl⟩
      generalize hW5 : grow (redrawn W4 dq) osq = W5
      have hb5 : Below W4.heap.size W4 W5 := by rw [← hW5]; exact below_regrown W4 dq osq
      have HB5 : Hid (Below W1.heap.size W1 W5) := HB4.out.trans (hb5.mono HB4.out.size)
      have HJ5 : Hid (W5.heap[wo.heap.size]? = some (.cells #[.int .i64 S.ends[n].to, .int .i64 S.ends[n].en] 133 (0, 0))) := (hb5.block _ (lt_of_block HJ.out)).trans HJ.out
      have HWK := Lib.hid (HW1.out.below HB5.out)
      have HR5 := Lib.hid (HR4.out W5 hb5)
      have y10 := HWK.out.lost
      have j0 : W5.cell? ⟨wo.heap.size, 0, none⟩ = some (.int .i64 S.ends[n].to) := (cell_of_row W5 _ 0 _ _ _ HJ5.out).trans rfl
      have j1 : W5.cell? ⟨wo.heap.size, 1, none⟩ = some (.int .i64 S.ends[n].en) := (cell_of_row W5 _ 1 _ _ _ HJ5.out).trans rfl
      have lj : wo.heap.size < W5.heap.size := lt_of_block HJ5.out
      have lg := HWK.out.lt
      clear hW5 hb5 cT HR4 y7 z0 z1 z2
      cases hL : K.lost with
      | true =>
        rw [hL] at y10
        have HG := Lib.hid (HN1.out (by rw [HGO.out, hL]; rfl))
        clear hL
        go_wp2_with fail
        go_roundg (S.ends.length - (n + 1))
        case measure => go_light; omega
        case rel => go_light; exact ⟨n + 1, by omega, by omega, by go_num, HB5.out, HG.out⟩
      | false =>
        rw [hL] at y10
        by_cases hE : TE = 0
        · subst hE
          cases hR : right n S.ends[n] with
          | false =>
            have HG := Lib.hid (HN1.out (by rw [HGO.out, hR]; simp))
            rw [hR] at HR5
            clear hL hR
            go_wp2_with fail
            refine HR5.out.mono ?_
            rintro e w6 ⟨rfl, hb6⟩
            have HB6 : Hid (Below W1.heap.size W1 w6) := HB5.out.trans (hb6.mono HB5.out.size)
            clear hb6 HR5 y10 j0 j1
            go_wp2_with fail
            go_roundg (S.ends.length - (n + 1))
            case measure => go_light; omega
            case rel => go_light; exact ⟨n + 1, by omega, by omega, by go_num, HB6.out, HG.out⟩
          | true =>
            have HE := Lib.hid (HAT.out (by rw [HGO.out, hL, hR]; simp))
            rw [hR] at HR5
            clear hL hR
            go_wp2_with fail
            refine HR5.out.mono ?_
            rintro e w6 ⟨rfl, hb6⟩
            have HB6 : Hid (Below W1.heap.size W1 w6) := HB5.out.trans (hb6.mono HB5.out.size)
            have HJ6 : Hid (w6.heap[wo.heap.size]? = some (.cells #[.int .i64 S.ends[n].to, .int .i64 S.ends[n].en] 133 (0, 0))) := (hb6.block _ lj).trans HJ5.out
            have HWK6 := Lib.hid (HWK.out.below hb6)
            obtain ⟨s0, s1, s2, ls⟩ := HY.out _ HB6.out
            clear hb6 HR5 y10 j0 j1 lj lg
            go_wp2_with fail
            refine (ask_any g p _ q gg r va vo K S.pt TL pl w6 HWK6.out (by omega)).mono ?_
            rintro e w7 ⟨rfl, hO7, hS7, va', hw7⟩
            have HO7 := Lib.hid (HO1.out.trans ((Off.of_below HB6.out (Nat.le_of_lt HW1.out.lt)).trans hO7))
            have hgw := HW1.out.lt
            have hgo : g < wo.heap.size := Nat.lt_of_lt_of_le hgw HB.out.size
            have hne : wo.heap.size ≠ g := by omega
            have HJ7 : Hid (w7.heap[wo.heap.size]? = some (.cells #[.int .i64 S.ends[n].to, .int .i64 S.ends[n].en] 133 (0, 0))) := hS7 _ _ _ _ HJ6.out hne (by decide)
            have HVO : Hid (some wo.heap.size ≠ vo.ownBlock) := fun e => by have := (HW1.out.outs.lt _ e.symm).2; have := HB.out.size; omega
            have hKo : (wkAsk K S.pt TL pl).outs = K.outs := wkAsk_outs _ _ _ _
            have hK7 : (wkAsk K S.pt TL pl).outs.length ≤ 900 := by rw [hKo]; exact hK2
            rw [← hKo] at HE
            generalize wkAsk K S.pt TL pl = K7 at *
            have HW7 := Lib.hid hw7
            have l7 := hw7.lt
            have u9 := hw7.cvo
            clear hO7 hS7 hw7 hKo s0 s1 s2 ls HGO HN1 HAT HWK HWK6 HJ HJ5 HJ6
            go_wp2_with (at_builtin; refine wpList_append_one rfl _ _ 78 133 _ _ 2 16 rfl Tryz.underlying78 info133 rfl (by decide) (by decide) (g + 1) vo K7.outs.length _ rfl HW7.out.outs (by omega) (Nat.succ_le_of_lt l7) [.int .i64 id, .int .i64 (n : Int)] rfl rfl (one2 _ _) ?_; intro b' c' w8 hown hgr; have hB := (HW7.out.grownO hgr).1.trans HW7.out.blk; have hF : ∀ o, w8.frozen? ⟨g, o, none⟩ = false := fun o => by { simp [World.frozen?, hB] }; have hC9 : w8.cell? ⟨g, 9, none⟩ = some vo := (cell_of_row w8 _ 9 _ _ _ hB).trans rfl; have hC6 : w8.cell? ⟨g, 6, none⟩ = some (.int .i64 K7.inn.to) := (cell_of_row w8 _ 6 _ _ _ hB).trans rfl; have hC7 : w8.cell? ⟨g, 7, none⟩ = some (.int .i64 K7.inn.en) := (cell_of_row w8 _ 7 _ _ _ hB).trans rfl; have hJ8 : w8.heap[wo.heap.size]? = some (.cells #[.int .i64 S.ends[n].to, .int .i64 S.ends[n].en] 133 (0, 0)) := (hgr.block _ (by { have := lt_of_block HJ7.out; simp; omega }) HVO.out).trans ((heap_alloc_old w7 _ (lt_of_block HJ7.out)).trans HJ7.out); have hj0 : w8.cell? ⟨wo.heap.size, 0, none⟩ = some (.int .i64 S.ends[n].to) := (cell_of_row w8 _ 0 _ _ _ hJ8).trans rfl; have hj1 : w8.cell? ⟨wo.heap.size, 1, none⟩ = some (.int .i64 S.ends[n].en) := (cell_of_row w8 _ 1 _ _ _ hJ8).trans rfl)
            obtain ⟨-, hO8, hA8⟩ := HW7.out.grownO hgr
            refine bodyPost_ret (v := .tuple #[]) (by simp [results, Tryz.f303, go_sem]) rfl ⟨rfl, HO7.out.trans (hO8.trans ((Off.setCell _ _ _ _).trans ((Off.setCell _ _ _ _).trans (Off.setCell _ _ _ _)))), va', .slice (some ⟨b', 0, none⟩) (K7.outs.length + 1) c', ?_⟩
            rw [HE.out]
            refine ⟨by simp [World.setCell, Array.getElem?_modify, hB], own_setCell (own_setCell (own_setCell hA8 (by simp) _) (by simp) _) (by simp) _, own_setCell (own_setCell (own_setCell ?_ (by simp) _) (by simp) _) (by simp) _⟩
            simpa [JnOwn, List.flatMap_append, jnC] using hown
        · have t1 : (TE != 0) = true := by simpa using hE
          have HG := Lib.hid (HN1.out (by rw [HGO.out]; simp [hE]))
          clear hL hE
          go_wp2_with fail
          go_roundg (S.ends.length - (n + 1))
          case measure => go_light; omega
          case rel => go_light; exact ⟨n + 1, by omega, by omega, by go_num, HB5.out, HG.out⟩
    · obtain rfl : n = S.ends.length := by omega
      have hdk : decide ((S.ends.length : Int) < (S.ends.length : Int)) = false := by simp
      have HE : Hid (wkGo S K id pl right = { K with lost := true }) := wkGo_no HNO.out
      have HWO := Lib.hid (HW1.out.below HB.out)
      have y10 := HWO.out.lost
      have z10 := HWO.out.frozen 10
      have l3 := HWO.out.lt
      go_wp2_with fail
      refine bodyPost_ret (v := .tuple #[]) (by simp [results, Tryz.f303, go_sem]) rfl ?_
      refine ⟨rfl, HO1.out.trans ((Off.of_below HB.out (Nat.le_of_lt HW1.out.lt)).trans (Off.setCell _ _ _ _)), va, vo, ?_⟩
      rw [HE.out]
      exact HWO.out.setLost
end Go.Proofs.YtbiehpjhhopjaaaGreat
set_option linter.unusedVariables false
set_option linter.unusedSimpArgs false
namespace Go.Proofs.YtbiehpjhhopjaaaGreat
open Go.RowKit Go.Sort
theorem plain304 : PlainF 304 := fun args w => by simp [go_sem]
theorem plain305 : PlainF 305 := fun args w => by simp [go_sem]
theorem plain307 : PlainF 307 := fun args w => by simp [go_sem]
theorem isEnd (e : Nat) (j : Jn) (w : World) : Calls Tryz.prog 304 (#[.int .i64 (e : Int), .agg #[.int .i64 j.to, .int .i64 j.en]] ++ #[]) w (BoolPost w (rightEnd e j)) := by
  have h1 := eql_jn
  have HE : Hid (rightEnd e j = decide (j.to = 0 ∧ j.en = 0)) := rfl
  generalize rightEnd e j = B at *
  go_enter Tryz.func304, Tryz.ntmps304
  go_wp2_with fail
  go_ret
  exact ⟨rbool (by rw [HE.out]; simp), (Below.refl _ _).alloc (Nat.le_refl _) _⟩
theorem isExit (s : Int) (x : Sg) (bs bx : Nat) (e : Nat) (j : Jn) (w : World) (h0 : w.cell? ⟨bs, 0, none⟩ = some (.int .i64 s)) (h1 : w.cell? ⟨bx, 1, none⟩ = some (.int .i64 x.sec)) (h2 : w.cell? ⟨bx, 2, none⟩ = some (.int .i64 x.en)) :
    Calls Tryz.prog 305 (#[.int .i64 (e : Int), .agg #[.int .i64 j.to, .int .i64 j.en]] ++ #[.pointer (some ⟨bs, 0, none⟩), .pointer (some ⟨bx, 0, none⟩)]) w (BoolPost w (rightExit s x e j)) := by
  have HE : Hid (rightExit s x e j = decide (s = x.sec ∧ (e : Int) = x.en)) := rfl
  generalize rightExit s x e j = B at *
  have l0 := World.block_lt_of_cell? _ _ h0
  have l1 := World.block_lt_of_cell? _ _ h1
  go_enter Tryz.func305, Tryz.ntmps305
  go_wp2_with fail
  all_goals
    go_ret
    exact ⟨rbool (by rw [HE.out, Bool.eq_iff_iff]; simp_all), (Below.refl _ _).alloc (Nat.le_refl _) _⟩
theorem isNext (l : List Int) (i : Nat) (ba bi : Nat) (a : Option Addr) (c : Nat) (e : Nat) (j : Jn) (w : World) (h0 : w.cell? ⟨ba, 0, none⟩ = some (.slice a l.length c)) (hl : IL w a l.length l) (h1 : w.cell? ⟨bi, 0, none⟩ = some (.int .i64 (i : Int))) (hi : i + 1 < l.length) (hm : l.length ≤ 1000) :
    Calls Tryz.prog 307 (#[.int .i64 (e : Int), .agg #[.int .i64 j.to, .int .i64 j.en]] ++ #[.pointer (some ⟨ba, 0, none⟩), .pointer (some ⟨bi, 0, none⟩)]) w (BoolPost w (rightNext (l.getD (i + 1) 0) e j)) := by
  have hd : l.getD (i + 1) 0 = l[i + 1] := by rw [List.getD_eq_getElem?_getD, List.getElem?_eq_getElem hi]; rfl
  rw [hd]
  obtain ⟨b, off, rfl, x0⟩ := hl.cell (i + 1) hi
  have HE : Hid (rightNext l[i + 1] e j = decide (j.to = l[i + 1])) := rfl
  generalize rightNext l[i + 1] e j = B at *
  generalize l[i + 1] = n at *
  generalize l.length = L at *
  have l0 := World.block_lt_of_cell? _ _ h0
  have l1 := World.block_lt_of_cell? _ _ h1
  have l2 := World.block_lt_of_cell? _ _ x0
  have c0 : (0 : Int) ≤ (i : Int) + 1 := by omega
  have c1 : (i : Int) + 1 < (L : Int) := by omega
  clear hl hd
  go_enter Tryz.func307, Tryz.ntmps307
  go_wp2_with fail
  go_quiet (fail)
  go_wp2_with fail
  go_ret
  exact ⟨rbool (by rw [HE.out]; simp [Bool.beq_eq_decide_eq]), below_drewN' ((Below.refl _ _).alloc (Nat.le_refl _) _) _⟩
end Go.Proofs.YtbiehpjhhopjaaaGreat
