/-
  law 25's FreeRoutes, walked. (Written by wip/tools/gen_routes.py.)
-/
import Derived.Test.YtbiehpjhhopjaaaGreatUsesG
import Derived.Test.YtbiehpjhhopjaaaGreatLawC
import Derived.Test.YtbiehpjhhopjaaaGreatGreatA
import Derived.Test.YtbiehpjhhopjaaaGreatLawP
import Derived.Lib.QuietBelow
set_option linter.unusedVariables false
set_option linter.unusedSimpArgs false
namespace Go.Proofs.YtbiehpjhhopjaaaGreat
open Go.RowKit Go.Maps Go.Sort
theorem ar_mid {u : Ar} (h : u.small) : u.mid := ⟨by have := h.1; omega, by have := h.2.1; omega, by have := h.2.2.1; omega, by have := h.2.2.2; omega⟩
theorem len_lks {p : Pl} {st : St} (h : ofErr p st = 0) : st.lks.length = p.rts.length := (ofErr_zero h).2.1.2.2.1
set_option maxRecDepth 100000 in
set_option maxHeartbeats 16000000 in
theorem freeRoutes_any (p : Pl) (s q gg rr : Value) (st : St) (t sw lk : Value) (id : Int) (w : World) (hp : PlM w s q gg rr p) (hs : StM w t sw lk st) :
    Calls Tryz.prog 10 #[plV p s q gg rr, .agg #[t, sw, lk], .int .i64 id] w (BoolPost w true) := by
  have HP : Hid (∀ W, Below w.heap.size w W → PlM W s q gg rr p) := fun W hb => hp.below hb
  have HS : Hid (∀ W, Below w.heap.size w W → StM W t sw lk st) := fun W hb => hs.below hb
  obtain ⟨a1, c1, rfl, -⟩ := hp.secs
  obtain ⟨a2, c2, rfl, -⟩ := hp.pts
  obtain ⟨a3, c3, rfl, -⟩ := hp.sigs
  obtain ⟨a4, c4, rfl, hrts⟩ := hp.rts
  have HRT : Hid (∀ W, Below w.heap.size w W → SlA W 7 RRt a4 c4 p.rts) := fun W hb => hrts.below keeps_rt hb
  clear hrts
  obtain ⟨b1, d1, rfl, htk⟩ := hs.tks
  have HTK : Hid (∀ W, Below w.heap.size w W → SlA W 2 RTk b1 d1 st.tks) := fun W hb => htk.below keeps_tk hb
  obtain ⟨b2, d2, rfl, hsw⟩ := hs.sws
  have HSW : Hid (∀ W, Below w.heap.size w W → SlA W 3 RSw b2 d2 st.sws) := fun W hb => hsw.below keeps_sw hb
  obtain ⟨b3, d3, rfl, hlk⟩ := hs.lks
  have HLK : Hid (∀ W, Below w.heap.size w W → SlA W 4 RLk b3 d3 st.lks) := fun W hb => hlk.below keeps_lk hb
  clear hp hs htk hsw hlk
  have HIS : Hid (p.Fit → st.fit → ∀ u v1 v2 v3 v4 W, u.small → Below w.heap.size w W → AL W v1 v2 v3 v4 u → Calls Tryz.prog 36 #[.agg #[.int .i64 p.ver, .int .i64 p.par, .slice a1 p.secs.length c1, .slice a2 p.pts.length c2, .slice a3 p.sigs.length c3, .slice a4 p.rts.length c4], .agg #[.slice b1 st.tks.length d1, .slice b2 st.sws.length d2, .slice b3 st.lks.length d3], .agg #[v1, v2, v3, v4]] W (IsPost W (isFree p st u) (ofErr p st))) := fun hf hsf u v1 v2 v3 v4 W hu hb hal => is_any p st u _ _ _ _ _ _ _ _ _ _ _ W (HP.out W hb) hf (HS.out W hb) hsf hal (ar_mid hu)
  have HUS : Hid (p.Fit → ∀ W, Below w.heap.size w W → Calls Tryz.prog 55 #[.agg #[.int .i64 p.ver, .int .i64 p.par, .slice a1 p.secs.length c1, .slice a2 p.pts.length c2, .slice a3 p.sigs.length c3, .slice a4 p.rts.length c4], .int .i64 id] W (UsPost W p id)) := fun hf W hb => areaUses_any p _ _ _ _ id W (HP.out W hb) hf
  have HHO : Hid (p.Fit → st.fit → ∀ n W, Below w.heap.size w W → Calls Tryz.prog 56 #[.agg #[.int .i64 p.ver, .int .i64 p.par, .slice a1 p.secs.length c1, .slice a2 p.pts.length c2, .slice a3 p.sigs.length c3, .slice a4 p.rts.length c4], .agg #[.slice b1 st.tks.length d1, .slice b2 st.sws.length d2, .slice b3 st.lks.length d3], .int .i64 n] W (TwoPost W (holderOf p st n))) := fun hf hsf n W hb => holder_any p st _ _ _ _ _ _ _ n W (HP.out W hb) hf (HS.out W hb) hsf
  have HAS : Hid (p.Fit → st.fit → ∀ n W, Below w.heap.size w W → Calls Tryz.prog 57 #[.agg #[.int .i64 p.ver, .int .i64 p.par, .slice a1 p.secs.length c1, .slice a2 p.pts.length c2, .slice a3 p.sigs.length c3, .slice a4 p.rts.length c4], .agg #[.slice b1 st.tks.length d1, .slice b2 st.sws.length d2, .slice b3 st.lks.length d3], .int .i64 n] W (TwoPost W (askAt p st n))) := fun hf hsf n W hb => asked_any p st _ _ _ _ _ _ _ n W (HP.out W hb) hf (HS.out W hb) hsf
  have HGP : Hid (∀ W, Below w.heap.size w W → Calls Tryz.prog 33 #[.agg #[.int .i64 p.ver, .int .i64 p.par, .slice a1 p.secs.length c1, .slice a2 p.pts.length c2, .slice a3 p.sigs.length c3, .slice a4 p.rts.length c4]] W (FalsePost W p.Fit)) := fun W hb => plgreat_any p _ _ _ _ W (HP.out W hb)
  have HGS : Hid (∀ W, Below w.heap.size w W → Calls Tryz.prog 34 #[.agg #[.slice b1 st.tks.length d1, .slice b2 st.sws.length d2, .slice b3 st.lks.length d3]] W (FalsePost W st.fit)) := fun W hb => stgreat_any _ _ _ st W (HS.out W hb)
  have L0 : Hid (ofErr p st = 0 → st.lks.length = p.rts.length) := fun h => len_lks h
  have L1 : Hid (∀ u, ofErr p st = 0 → UsesOk p id u → isFree p st u = true → ∀ i (h : i < st.lks.length), st.lks[i].id = id → st.lks[i].ph = 0) := fun u h hu hf i hi e => free_rest h hu hf _ (List.getElem_mem hi) e
  have L2 : Hid (∀ u, ofErr p st = 0 → UsesOk p id u → isFree p st u = true → ∀ i (h1 : i < p.rts.length) (h2 : i < st.lks.length), st.lks[i].ph ≠ 0 → hasA u 3 p.rts[i].entry = false ∧ hasA u 3 p.rts[i].exit = false) := fun u h hu hf i h1 h2 e => free_sg h hu hf i h1 h2 e
  have L3 : Hid (∀ u, ofErr p st = 0 → isFree p st u = true → ∀ i (h : i < st.tks.length), (holderOf p st st.tks[i].id).2 = 0 ∧ (hasA u 1 st.tks[i].id = true → (holderOf p st st.tks[i].id).1 = 0 ∧ st.tks[i].is = 0)) := fun u h hf i hi => free_sec h hf i hi
  have L4 : Hid (∀ u, ofErr p st = 0 → isFree p st u = true → ∀ i (h : i < st.sws.length), (askAt p st st.sws[i].id).2 = 0 ∧ (hasA u 2 st.sws[i].id = true → (askAt p st st.sws[i].id).1 = 0)) := fun u h hf i hi => free_pt h hf i hi
  clear HP HS
  generalize ofErr p st = EE at *
  unfold plV at *
  go_enter Tryz.func10, Tryz.ntmps10
  go_upto_region 1 with fail
  generalize hW0 : World.alloc _ _ = W0
  have K0 : Hid (Below w.heap.size w W0) := by
    show Below _ _ _
    rw [← hW0]
    exact ((Below.refl _ _).alloc (Nat.le_refl _) _).alloc (by simp) _
  have BX0 : Hid (W0.heap[w.heap.size]? = some (.cells #[.int .i64 p.ver, .int .i64 p.par, .slice a1 p.secs.length c1, .slice a2 p.pts.length c2, .slice a3 p.sigs.length c3, .slice a4 p.rts.length c4] 28 (0, 0)) ∧ W0.heap[w.heap.size + 1]? = some (.cells #[.slice b1 st.tks.length d1, .slice b2 st.sws.length d2, .slice b3 st.lks.length d3] 33 (0, 0))) := by
    show _ ∧ _
    rw [← hW0]
    exact ⟨(heap_alloc_old _ _ (by simp)).trans (heap_alloc_new _ _), heap_alloc2_new _ _ _⟩
  have HBB : Hid (∀ W W' : World, (W.heap[w.heap.size]? = some (.cells #[.int .i64 p.ver, .int .i64 p.par, .slice a1 p.secs.length c1, .slice a2 p.pts.length c2, .slice a3 p.sigs.length c3, .slice a4 p.rts.length c4] 28 (0, 0)) ∧ W.heap[w.heap.size + 1]? = some (.cells #[.slice b1 st.tks.length d1, .slice b2 st.sws.length d2, .slice b3 st.lks.length d3] 33 (0, 0))) → Below W.heap.size W W' → (W'.heap[w.heap.size]? = some (.cells #[.int .i64 p.ver, .int .i64 p.par, .slice a1 p.secs.length c1, .slice a2 p.pts.length c2, .slice a3 p.sigs.length c3, .slice a4 p.rts.length c4] 28 (0, 0)) ∧ W'.heap[w.heap.size + 1]? = some (.cells #[.slice b1 st.tks.length d1, .slice b2 st.sws.length d2, .slice b3 st.lks.length d3] 33 (0, 0)))) := fun W W' hh hb => ⟨(hb.block _ (lt_of_block hh.1)).trans hh.1, (hb.block _ (lt_of_block hh.2)).trans hh.2⟩
  clear hW0
  go_wp2_with fail
  refine (alive_any W0).mono ?_
  rintro e w1 ⟨rfl, hb1⟩
  have K1 : Hid (Below w.heap.size w w1) := K0.out.trans (hb1.mono K0.out.size)
  have BX1 := Lib.hid (HBB.out _ _ BX0.out hb1)
  clear hb1 K0 BX0
  have pp0 : w1.cell? ⟨w.heap.size, 0, none⟩ = some (.int .i64 p.ver) := (cell_of_row w1 _ 0 _ _ _ (BX1.out.1)).trans rfl
  have pp1 : w1.cell? ⟨w.heap.size, 1, none⟩ = some (.int .i64 p.par) := (cell_of_row w1 _ 1 _ _ _ (BX1.out.1)).trans rfl
  have pp2 : w1.cell? ⟨w.heap.size, 2, none⟩ = some (.slice a1 p.secs.length c1) := (cell_of_row w1 _ 2 _ _ _ (BX1.out.1)).trans rfl
  have pp3 : w1.cell? ⟨w.heap.size, 3, none⟩ = some (.slice a2 p.pts.length c2) := (cell_of_row w1 _ 3 _ _ _ (BX1.out.1)).trans rfl
  have pp4 : w1.cell? ⟨w.heap.size, 4, none⟩ = some (.slice a3 p.sigs.length c3) := (cell_of_row w1 _ 4 _ _ _ (BX1.out.1)).trans rfl
  have pp5 : w1.cell? ⟨w.heap.size, 5, none⟩ = some (.slice a4 p.rts.length c4) := (cell_of_row w1 _ 5 _ _ _ (BX1.out.1)).trans rfl
  go_wp2_with fail
  refine (HGP.out w1 K1.out).mono ?_
  rintro e w2 ⟨g1, rfl, hF, hb2⟩
  clear pp0 pp1 pp2 pp3 pp4 pp5
  have K2 : Hid (Below w.heap.size w w2) := K1.out.trans (hb2.mono K1.out.size)
  have BX2 := Lib.hid (HBB.out _ _ BX1.out hb2)
  clear hb2 K1 BX1
  cases g1 with
  | true =>
    go_wp2_with fail
    go_ret
    exact ⟨rfl, K2.out⟩
  | false =>
    have HF := Lib.hid (hF rfl)
    clear hF
    have ss0 : w2.cell? ⟨w.heap.size + 1, 0, none⟩ = some (.slice b1 st.tks.length d1) := (cell_of_row w2 _ 0 _ _ _ (BX2.out.2)).trans rfl
    have ss1 : w2.cell? ⟨w.heap.size + 1, 1, none⟩ = some (.slice b2 st.sws.length d2) := (cell_of_row w2 _ 1 _ _ _ (BX2.out.2)).trans rfl
    have ss2 : w2.cell? ⟨w.heap.size + 1, 2, none⟩ = some (.slice b3 st.lks.length d3) := (cell_of_row w2 _ 2 _ _ _ (BX2.out.2)).trans rfl
    go_wp2_with fail
    refine (HGS.out w2 K2.out).mono ?_
    rintro e w3 ⟨g2, rfl, hF, hb3⟩
    clear ss0 ss1 ss2
    have K3 : Hid (Below w.heap.size w w3) := K2.out.trans (hb3.mono K2.out.size)
    have BX3 := Lib.hid (HBB.out _ _ BX2.out hb3)
    clear hb3 K2 BX2
    cases g2 with
    | true =>
      go_wp2_with fail
      go_ret
      exact ⟨rfl, K3.out⟩
    | false =>
      have HSF := Lib.hid (hF rfl)
      clear hF
      have pp0 : w3.cell? ⟨w.heap.size, 0, none⟩ = some (.int .i64 p.ver) := (cell_of_row w3 _ 0 _ _ _ (BX3.out.1)).trans rfl
      have pp1 : w3.cell? ⟨w.heap.size, 1, none⟩ = some (.int .i64 p.par) := (cell_of_row w3 _ 1 _ _ _ (BX3.out.1)).trans rfl
      have pp2 : w3.cell? ⟨w.heap.size, 2, none⟩ = some (.slice a1 p.secs.length c1) := (cell_of_row w3 _ 2 _ _ _ (BX3.out.1)).trans rfl
      have pp3 : w3.cell? ⟨w.heap.size, 3, none⟩ = some (.slice a2 p.pts.length c2) := (cell_of_row w3 _ 3 _ _ _ (BX3.out.1)).trans rfl
      have pp4 : w3.cell? ⟨w.heap.size, 4, none⟩ = some (.slice a3 p.sigs.length c3) := (cell_of_row w3 _ 4 _ _ _ (BX3.out.1)).trans rfl
      have pp5 : w3.cell? ⟨w.heap.size, 5, none⟩ = some (.slice a4 p.rts.length c4) := (cell_of_row w3 _ 5 _ _ _ (BX3.out.1)).trans rfl
      go_wp2_with fail
      refine (HUS.out HF.out w3 K3.out).mono ?_
      rintro e w4 ⟨v1, v2, v3, v4, u, E, rfl, hal, hsm, hok, hb4⟩
      obtain ⟨g1, j1, rfl, -⟩ := hal.s.at_
      obtain ⟨g2, j2, rfl, -⟩ := hal.p.at_
      obtain ⟨g3, j3, rfl, -⟩ := hal.g.at_
      obtain ⟨g4, j4, rfl, -⟩ := hal.r.at_
      have HAL := Lib.hid hal
      have HSM := Lib.hid hsm
      have HOK := Lib.hid hok
      clear pp0 pp1 pp2 pp3 pp4 pp5
      clear hal hsm hok HUS HGP HGS
      have K4 : Hid (Below w.heap.size w w4) := K3.out.trans (hb4.mono K3.out.size)
      have BX4 := Lib.hid (HBB.out _ _ BX3.out hb4)
      clear hb4 K3 BX3
      go_upto_region 5 with fail
      generalize hW5 : World.alloc _ _ = w5
      have hb5 : Below w4.heap.size w4 w5 := by rw [← hW5]; exact (Below.refl _ _).alloc (Nat.le_refl _) _
      have HU5 : Hid (w5.heap[w4.heap.size]? = some (.cells #[.slice g1 u.s.length j1, .slice g2 u.p.length j2, .slice g3 u.g.length j3, .slice g4 u.r.length j4] 56 (0, 0))) := by show _ = _; rw [← hW5]; exact heap_alloc_new _ _
      have HAL5 := Lib.hid (HAL.out.below hb5)
      clear hW5 HAL
      have K5 : Hid (Below w.heap.size w w5) := K4.out.trans (hb5.mono K4.out.size)
      have BX5 := Lib.hid (HBB.out _ _ BX4.out hb5)
      clear hb5 K4 BX4
      have pp0 : w5.cell? ⟨w.heap.size, 0, none⟩ = some (.int .i64 p.ver) := (cell_of_row w5 _ 0 _ _ _ (BX5.out.1)).trans rfl
      have pp1 : w5.cell? ⟨w.heap.size, 1, none⟩ = some (.int .i64 p.par) := (cell_of_row w5 _ 1 _ _ _ (BX5.out.1)).trans rfl
      have pp2 : w5.cell? ⟨w.heap.size, 2, none⟩ = some (.slice a1 p.secs.length c1) := (cell_of_row w5 _ 2 _ _ _ (BX5.out.1)).trans rfl
      have pp3 : w5.cell? ⟨w.heap.size, 3, none⟩ = some (.slice a2 p.pts.length c2) := (cell_of_row w5 _ 3 _ _ _ (BX5.out.1)).trans rfl
      have pp4 : w5.cell? ⟨w.heap.size, 4, none⟩ = some (.slice a3 p.sigs.length c3) := (cell_of_row w5 _ 4 _ _ _ (BX5.out.1)).trans rfl
      have pp5 : w5.cell? ⟨w.heap.size, 5, none⟩ = some (.slice a4 p.rts.length c4) := (cell_of_row w5 _ 5 _ _ _ (BX5.out.1)).trans rfl
      have ss0 : w5.cell? ⟨w.heap.size + 1, 0, none⟩ = some (.slice b1 st.tks.length d1) := (cell_of_row w5 _ 0 _ _ _ (BX5.out.2)).trans rfl
      have ss1 : w5.cell? ⟨w.heap.size + 1, 1, none⟩ = some (.slice b2 st.sws.length d2) := (cell_of_row w5 _ 1 _ _ _ (BX5.out.2)).trans rfl
      have ss2 : w5.cell? ⟨w.heap.size + 1, 2, none⟩ = some (.slice b3 st.lks.length d3) := (cell_of_row w5 _ 2 _ _ _ (BX5.out.2)).trans rfl
      have uu0 : w5.cell? ⟨w4.heap.size, 0, none⟩ = some (.slice g1 u.s.length j1) := (cell_of_row w5 _ 0 _ _ _ (HU5.out)).trans rfl
      have uu1 : w5.cell? ⟨w4.heap.size, 1, none⟩ = some (.slice g2 u.p.length j2) := (cell_of_row w5 _ 1 _ _ _ (HU5.out)).trans rfl
      have uu2 : w5.cell? ⟨w4.heap.size, 2, none⟩ = some (.slice g3 u.g.length j3) := (cell_of_row w5 _ 2 _ _ _ (HU5.out)).trans rfl
      have uu3 : w5.cell? ⟨w4.heap.size, 3, none⟩ = some (.slice g4 u.r.length j4) := (cell_of_row w5 _ 3 _ _ _ (HU5.out)).trans rfl
      go_wp2_with fail
      refine (HIS.out HF.out HSF.out u _ _ _ _ w5 HSM.out K5.out HAL5.out).mono ?_
      rintro e w6 ⟨rfl, hb6⟩
      have HU6 := Lib.hid ((hb6.block _ (lt_of_block HU5.out)).trans HU5.out)
      have HAL6 := Lib.hid (HAL5.out.below hb6)
      clear pp0 pp1 pp2 pp3 pp4 pp5 ss0 ss1 ss2 uu0 uu1 uu2 uu3
      clear HU5 HAL5 HIS
      have K6 : Hid (Below w.heap.size w w6) := K5.out.trans (hb6.mono K5.out.size)
      have BX6 := Lib.hid (HBB.out _ _ BX5.out hb6)
      clear hb6 K5 BX5
      have M1 := Lib.hid (L1.out u)
      have M2 := Lib.hid (L2.out u)
      have M3 := Lib.hid (L3.out u)
      have M4 := Lib.hid (L4.out u)
      clear L1 L2 L3 L4
      generalize isFree p st u = IS at *
      by_cases he1 : E = 0
      · subst he1
        have UOK := Lib.hid (HOK.out rfl)
        by_cases he2 : EE = 0
        · subst he2
          cases IS with
          | false =>
            go_wp2_with fail
            go_ret
            exact ⟨rfl, K6.out⟩
          | true =>
            have N0 := Lib.hid (L0.out rfl)
            have N1 := Lib.hid (M1.out rfl UOK.out rfl)
            have N2 := Lib.hid (M2.out rfl UOK.out rfl)
            have N3 := Lib.hid (M3.out rfl rfl)
            have N4 := Lib.hid (M4.out rfl rfl)
            clear L0 M1 M2 M3 M4 HOK
            have HHX : Hid (∀ W, Below w6.heap.size w6 W → ∀ k n : Int, 0 ≤ k → k ≤ 255 → Calls Tryz.prog 46 #[.agg #[.slice g1 u.s.length j1, .slice g2 u.p.length j2, .slice g3 u.g.length j3, .slice g4 u.r.length j4], .int .u8 k, .int .i64 n] W fun e w' => e = .returned (.bool (hasA u k n)) ∧ Below W.heap.size W w') := fun W hb k n k0 k1 => has_any _ _ _ _ u k n W (HAL6.out.below hb) HSM.out k0 k1
            clear HAL6
            have LT1 : Hid (st.lks.length ≤ 1000) := HSF.out.2.2
            have LT2 : Hid (st.tks.length ≤ 1000) := HSF.out.1
            have LT3 : Hid (st.sws.length ≤ 1000) := HSF.out.2.1
            go_wp2_with fail
            go_loopg [12] st.lks.length (fun g i wr => ∃ k : Nat, k ≤ st.lks.length ∧ g = st.lks.length - k ∧ i = .int .i64 k ∧ Below w6.heap.size w6 wr)
            case atStart => exact ⟨0, by omega, by omega, rfl, Below.refl _ _⟩
            case round =>
              obtain ⟨k, hk, rfl, rfl, hb⟩ := hrel
              obtain ⟨wo, rfl⟩ : ∃ wo : World, wo = wr := ⟨_, rfl⟩
              have KO := Lib.hid hb
              have KWO : Hid (Below w.heap.size w wo) := K6.out.trans (hb.mono K6.out.size)
              have BXO := Lib.hid (HBB.out _ _ BX6.out hb)
              have HUO := Lib.hid ((hb.block _ (lt_of_block HU6.out)).trans HU6.out)
              clear hb
              have ss2 : wo.cell? ⟨w.heap.size + 1, 2, none⟩ = some (.slice b3 st.lks.length d3) := (cell_of_row wo _ 2 _ _ _ (BXO.out.2)).trans rfl
              by_cases hlt : k < st.lks.length
              · have hdk : decide ((k : Int) < (st.lks.length : Int)) = true := by simp; omega
                have hbnd := LT1.out
                have q0 : (0 : Int) ≤ (k : Int) := by omega
                have q1 : (k : Int) < (st.lks.length : Int) := by omega
                obtain ⟨b, off, rfl, x0, x1, x2, x3⟩ := (HLK.out _ KWO.out).lk hlt
                have l9 := World.block_lt_of_cell? _ _ x0
                by_cases hid : st.lks[k].id = id
                · have hph := N1.out k hlt hid
                  have hi : (st.lks[k].id == id) = true := by simp [hid]
                  have hi2 : (st.lks[k].ph != 0) = false := by simp [hph]
                  have HPH := Lib.hid hph
                  clear hid hph
                  go_wp2_with fail
                  go_roundg (st.lks.length - (k + 1))
                  case measure => go_light; omega
                  case rel => go_light; exact ⟨k + 1, by omega, by omega, by go_num, KO.out⟩
                · have hi : (st.lks[k].id == id) = false := by simp [hid]
                  clear hid
                  go_wp2_with fail
                  go_roundg (st.lks.length - (k + 1))
                  case measure => go_light; omega
                  case rel => go_light; exact ⟨k + 1, by omega, by omega, by go_num, KO.out⟩
              · obtain rfl : k = st.lks.length := by omega
                have hdk : decide ((st.lks.length : Int) < (st.lks.length : Int)) = false := by simp
                have K7 : Hid (Below w6.heap.size w6 wo) := KO.out
                go_wp2_with fail
                clear KO KWO BXO HUO ss2
                go_loopg [13] st.lks.length (fun g i wr => ∃ k : Nat, k ≤ st.lks.length ∧ g = st.lks.length - k ∧ i = .int .i64 k ∧ Below w6.heap.size w6 wr)
                case atStart => exact ⟨0, by omega, by omega, rfl, K7.out⟩
                case round =>
                  obtain ⟨k, hk, rfl, rfl, hb⟩ := hrel
                  obtain ⟨wo, rfl⟩ : ∃ wo : World, wo = wr := ⟨_, rfl⟩
                  have KO := Lib.hid hb
                  have KWO : Hid (Below w.heap.size w wo) := K6.out.trans (hb.mono K6.out.size)
                  have BXO := Lib.hid (HBB.out _ _ BX6.out hb)
                  have HUO := Lib.hid ((hb.block _ (lt_of_block HU6.out)).trans HU6.out)
                  clear hb
                  have pp5 : wo.cell? ⟨w.heap.size, 5, none⟩ = some (.slice a4 p.rts.length c4) := (cell_of_row wo _ 5 _ _ _ (BXO.out.1)).trans rfl
                  have ss2 : wo.cell? ⟨w.heap.size + 1, 2, none⟩ = some (.slice b3 st.lks.length d3) := (cell_of_row wo _ 2 _ _ _ (BXO.out.2)).trans rfl
                  by_cases hlt : k < st.lks.length
                  · have hlt2 : k < p.rts.length := by have := N0.out; omega
                    have hdk : decide ((k : Int) < (st.lks.length : Int)) = true := by simp; omega
                    have hdr : decide ((k : Int) < (p.rts.length : Int)) = true := by simp; omega
                    have hbnd := LT1.out
                    have q0 : (0 : Int) ≤ (k : Int) := by omega
                    have q1 : (k : Int) < (st.lks.length : Int) := by omega
                    have q2 : (k : Int) < (p.rts.length : Int) := by omega
                    obtain ⟨b, off, rfl, x0, x1, x2, x3⟩ := (HLK.out _ KWO.out).lk hlt
                    have l9 := World.block_lt_of_cell? _ _ x0
                    obtain ⟨b', off', vp, vo, vf, rfl, r0, r1, r2, -, -, -, -, -⟩ := (HRT.out _ KWO.out).rt hlt2
                    have l8 := World.block_lt_of_cell? _ _ r0
                    have uu0 : wo.cell? ⟨w4.heap.size, 0, none⟩ = some (.slice g1 u.s.length j1) := (cell_of_row wo _ 0 _ _ _ (HUO.out)).trans rfl
                    have uu1 : wo.cell? ⟨w4.heap.size, 1, none⟩ = some (.slice g2 u.p.length j2) := (cell_of_row wo _ 1 _ _ _ (HUO.out)).trans rfl
                    have uu2 : wo.cell? ⟨w4.heap.size, 2, none⟩ = some (.slice g3 u.g.length j3) := (cell_of_row wo _ 2 _ _ _ (HUO.out)).trans rfl
                    have uu3 : wo.cell? ⟨w4.heap.size, 3, none⟩ = some (.slice g4 u.r.length j4) := (cell_of_row wo _ 3 _ _ _ (HUO.out)).trans rfl
                    have hR : ∀ (d : Nat) (os : Array Obj), Below w6.heap.size w6 (grow (redrawn wo d) os) := fun d os => KO.out.trans ((below_regrown wo d os).mono KO.out.size)
                    have HRW := Lib.hid hR
                    have X1 := cell_regrown x1
                    have R1 := cell_regrown r1
                    have R2 := cell_regrown r2
                    have UU0 := cell_regrown uu0
                    have UU1 := cell_regrown uu1
                    have UU2 := cell_regrown uu2
                    have UU3 := cell_regrown uu3
                    have PP5 := cell_regrown pp5
                    have SS2 := cell_regrown ss2
                    by_cases hph : st.lks[k].ph = 0
                    · have hi2 : (st.lks[k].ph != 0) = false := by simp [hph]
                      clear hph hR x0 x1 x2 x3 r0 r1 r2 uu0 uu1 uu2 uu3
                      go_upto_region 16 with fail
                      refine wp_region_quiet_below (by kernel_rfl) (by kernel_rfl) ?_
                      repeat (go_big_quiet_step (fail))
                      refine wpQuiet_nil ?_
                      rintro _ ⟨⟨dq, osq⟩, rfl⟩
                      go_wp2_with fail
                      go_roundg (st.lks.length - (k + 1))
                      case measure => go_light; omega
                      case rel => go_light; exact ⟨k + 1, by omega, by omega, by go_num, HRW.out dq osq⟩
                    · have hn := N2.out k hlt2 hlt hph
                      have hi2 : (st.lks[k].ph != 0) = true := by simp [hph]
                      have cH1 : Hid (∀ (d : Nat) (os : Array Obj), Calls Tryz.prog 46 #[.agg #[.slice g1 u.s.length j1, .slice g2 u.p.length j2, .slice g3 u.g.length j3, .slice g4 u.r.length j4], .int .u8 3, .int .i64 p.rts[k].entry] (grow (redrawn wo d) os) fun e w'' => e = .returned (.bool false) ∧ ∃ p : Regrown, w'' = grow (redrawn wo p.d) p.os) := fun d os => by
                        have := Calls.regrown_of (HHX.out _ (hR d os) 3 p.rts[k].entry (by decide) (by decide))
                        rw [hn.1] at this
                        exact this
                      have cH2 : Hid (∀ (d : Nat) (os : Array Obj), Calls Tryz.prog 46 #[.agg #[.slice g1 u.s.length j1, .slice g2 u.p.length j2, .slice g3 u.g.length j3, .slice g4 u.r.length j4], .int .u8 3, .int .i64 p.rts[k].exit] (grow (redrawn wo d) os) fun e w'' => e = .returned (.bool false) ∧ ∃ p : Regrown, w'' = grow (redrawn wo p.d) p.os) := fun d os => by
                        have := Calls.regrown_of (HHX.out _ (hR d os) 3 p.rts[k].exit (by decide) (by decide))
                        rw [hn.2] at this
                        exact this
                      clear hph hn hR x0 x1 x2 x3 r0 r1 r2 uu0 uu1 uu2 uu3
                      go_upto_region 16 with fail
                      refine wp_region_quiet_below (by kernel_rfl) (by kernel_rfl) ?_
                      repeat (go_big_quiet_step (first | (with_reducible exact cH1.out _ _) | (with_reducible exact cH2.out _ _)))
                      refine wpQuiet_nil ?_
                      rintro _ ⟨⟨dq, osq⟩, rfl⟩
                      go_wp2_with fail
                      go_roundg (st.lks.length - (k + 1))
                      case measure => go_light; omega
                      case rel => go_light; exact ⟨k + 1, by omega, by omega, by go_num, HRW.out dq osq⟩
                  · have hdk : decide ((k : Int) < (st.lks.length : Int)) = false := by simp; omega
                    have hlt3 : ¬ k < p.rts.length := by have := N0.out; omega
                    have hdr : decide ((k : Int) < (p.rts.length : Int)) = false := by simp; omega
                    clear K7
                    have K7 : Hid (Below w6.heap.size w6 wo) := KO.out
                    go_wp2_with fail
                    clear KO KWO BXO HUO ss2 pp5
                    go_loopg [14] st.tks.length (fun g i wr => ∃ k : Nat, k ≤ st.tks.length ∧ g = st.tks.length - k ∧ i = .int .i64 k ∧ Below w6.heap.size w6 wr)
                    case atStart => exact ⟨0, by omega, by omega, rfl, K7.out⟩
                    case round =>
                      obtain ⟨k, hk, rfl, rfl, hb⟩ := hrel
                      obtain ⟨wo, rfl⟩ : ∃ wo : World, wo = wr := ⟨_, rfl⟩
                      have KO := Lib.hid hb
                      have KWO : Hid (Below w.heap.size w wo) := K6.out.trans (hb.mono K6.out.size)
                      have BXO := Lib.hid (HBB.out _ _ BX6.out hb)
                      have HUO := Lib.hid ((hb.block _ (lt_of_block HU6.out)).trans HU6.out)
                      clear hb
                      have ss0 : wo.cell? ⟨w.heap.size + 1, 0, none⟩ = some (.slice b1 st.tks.length d1) := (cell_of_row wo _ 0 _ _ _ (BXO.out.2)).trans rfl
                      have ss1 : wo.cell? ⟨w.heap.size + 1, 1, none⟩ = some (.slice b2 st.sws.length d2) := (cell_of_row wo _ 1 _ _ _ (BXO.out.2)).trans rfl
                      have ss2 : wo.cell? ⟨w.heap.size + 1, 2, none⟩ = some (.slice b3 st.lks.length d3) := (cell_of_row wo _ 2 _ _ _ (BXO.out.2)).trans rfl
                      by_cases hlt : k < st.tks.length
                      · have hdk : decide ((k : Int) < (st.tks.length : Int)) = true := by simp; omega
                        have hbnd := LT2.out
                        have q0 : (0 : Int) ≤ (k : Int) := by omega
                        have q1 : (k : Int) < (st.tks.length : Int) := by omega
                        obtain ⟨b, off, rfl, x0, x1⟩ := (HTK.out _ KWO.out).tk hlt
                        have l9 := World.block_lt_of_cell? _ _ x0
                        have pp0 : wo.cell? ⟨w.heap.size, 0, none⟩ = some (.int .i64 p.ver) := (cell_of_row wo _ 0 _ _ _ (BXO.out.1)).trans rfl
                        have pp1 : wo.cell? ⟨w.heap.size, 1, none⟩ = some (.int .i64 p.par) := (cell_of_row wo _ 1 _ _ _ (BXO.out.1)).trans rfl
                        have pp2 : wo.cell? ⟨w.heap.size, 2, none⟩ = some (.slice a1 p.secs.length c1) := (cell_of_row wo _ 2 _ _ _ (BXO.out.1)).trans rfl
                        have pp3 : wo.cell? ⟨w.heap.size, 3, none⟩ = some (.slice a2 p.pts.length c2) := (cell_of_row wo _ 3 _ _ _ (BXO.out.1)).trans rfl
                        have pp4 : wo.cell? ⟨w.heap.size, 4, none⟩ = some (.slice a3 p.sigs.length c3) := (cell_of_row wo _ 4 _ _ _ (BXO.out.1)).trans rfl
                        have pp5 : wo.cell? ⟨w.heap.size, 5, none⟩ = some (.slice a4 p.rts.length c4) := (cell_of_row wo _ 5 _ _ _ (BXO.out.1)).trans rfl
                        have hR : ∀ (d : Nat) (os : Array Obj), Below w6.heap.size w6 (grow (redrawn wo d) os) := fun d os => KO.out.trans ((below_regrown wo d os).mono KO.out.size)
                        have HRW := Lib.hid hR
                        have X0 := cell_regrown x0
                        have X1 := cell_regrown x1
                        have PP0 := cell_regrown pp0
                        have PP1 := cell_regrown pp1
                        have PP2 := cell_regrown pp2
                        have PP3 := cell_regrown pp3
                        have PP4 := cell_regrown pp4
                        have PP5 := cell_regrown pp5
                        have SS0 := cell_regrown ss0
                        have SS1 := cell_regrown ss1
                        have SS2 := cell_regrown ss2
                        have hn := N3.out k hlt
                        have hcc := fun (d : Nat) (os : Array Obj) => Calls.regrown_of (HHO.out HF.out HSF.out st.tks[k].id _ (KWO.out.trans ((below_regrown wo d os).mono KWO.out.size)))
                        generalize holderOf p st st.tks[k].id = hv at *
                        obtain ⟨h1, h2⟩ := hv
                        obtain ⟨hz, hn⟩ := hn
                        dsimp only at hz hn hcc
                        subst hz
                        have cC : Hid (∀ (d : Nat) (os : Array Obj), Calls Tryz.prog 56 #[.agg #[.int .i64 p.ver, .int .i64 p.par, .slice a1 p.secs.length c1, .slice a2 p.pts.length c2, .slice a3 p.sigs.length c3, .slice a4 p.rts.length c4], .agg #[.slice (some ⟨b, off, none⟩) st.tks.length d1, .slice b2 st.sws.length d2, .slice b3 st.lks.length d3], .int .i64 st.tks[k].id] (grow (redrawn wo d) os) fun e w'' => e = .returned (.tuple #[.int .i64 h1, .int .i64 0]) ∧ ∃ p : Regrown, w'' = grow (redrawn wo p.d) p.os) := hcc
                        have HN := Lib.hid hn
                        clear hcc hn hR x0 x1 pp0 pp1 pp2 pp3 pp4 pp5 ss1 ss2
                        go_upto_region 21 with fail
                        refine wp_region_quiet_below (by kernel_rfl) (by kernel_rfl) ?_
                        repeat (go_big_quiet_step (first | (with_reducible exact cC.out _ _)))
                        refine wpQuiet_nil ?_
                        rintro _ ⟨⟨dq, osq⟩, rfl⟩
                        have hbn : Below wo.heap.size wo (grow (redrawn wo dq) osq) := below_regrown wo dq osq
                        clear cC HRW X0 X1 PP0 PP1 PP2 PP3 PP4 PP5 SS0 SS1 SS2
                        generalize hWN : grow (redrawn wo dq) osq = wn at *
                        have KN : Hid (Below w6.heap.size w6 wn) := KO.out.trans (hbn.mono KO.out.size)
                        have KWN : Hid (Below w.heap.size w wn) := KWO.out.trans (hbn.mono KWO.out.size)
                        have BXN := Lib.hid (HBB.out _ _ BXO.out hbn)
                        have HUN := Lib.hid ((hbn.block _ (lt_of_block HUO.out)).trans HUO.out)
                        clear hbn hWN ss0 l9
                        have ss0 : wn.cell? ⟨w.heap.size + 1, 0, none⟩ = some (.slice (some ⟨b, off, none⟩) st.tks.length d1) := (cell_of_row wn _ 0 _ _ _ (BXN.out.2)).trans rfl
                        have uu0 : wn.cell? ⟨w4.heap.size, 0, none⟩ = some (.slice g1 u.s.length j1) := (cell_of_row wn _ 0 _ _ _ (HUN.out)).trans rfl
                        have uu1 : wn.cell? ⟨w4.heap.size, 1, none⟩ = some (.slice g2 u.p.length j2) := (cell_of_row wn _ 1 _ _ _ (HUN.out)).trans rfl
                        have uu2 : wn.cell? ⟨w4.heap.size, 2, none⟩ = some (.slice g3 u.g.length j3) := (cell_of_row wn _ 2 _ _ _ (HUN.out)).trans rfl
                        have uu3 : wn.cell? ⟨w4.heap.size, 3, none⟩ = some (.slice g4 u.r.length j4) := (cell_of_row wn _ 3 _ _ _ (HUN.out)).trans rfl
                        obtain ⟨b', off', hbe, x0, x1⟩ := (HTK.out _ KWN.out).tk hlt
                        cases hbe
                        have l9 := World.block_lt_of_cell? _ _ x0
                        have hR : ∀ (d : Nat) (os : Array Obj), Below w6.heap.size w6 (grow (redrawn wn d) os) := fun d os => KN.out.trans ((below_regrown wn d os).mono KN.out.size)
                        have HRW := Lib.hid hR
                        have X0 := cell_regrown x0
                        have X1 := cell_regrown x1
                        have SS0 := cell_regrown ss0
                        have UU0 := cell_regrown uu0
                        have UU1 := cell_regrown uu1
                        have UU2 := cell_regrown uu2
                        have UU3 := cell_regrown uu3
                        by_cases hh : hasA u 1 st.tks[k].id = true
                        · have hx := HN.out hh
                          have hz1 : h1 = 0 := hx.1
                          have his : (st.tks[k].is != 0) = false := by simp [hx.2]
                          subst hz1
                          have cH1 : Hid (∀ (d : Nat) (os : Array Obj), Calls Tryz.prog 46 #[.agg #[.slice g1 u.s.length j1, .slice g2 u.p.length j2, .slice g3 u.g.length j3, .slice g4 u.r.length j4], .int .u8 1, .int .i64 st.tks[k].id] (grow (redrawn wn d) os) fun e w'' => e = .returned (.bool true) ∧ ∃ p : Regrown, w'' = grow (redrawn wn p.d) p.os) := fun d os => by
                            have := Calls.regrown_of (HHX.out _ (hR d os) 1 st.tks[k].id (by decide) (by decide))
                            rw [hh] at this
                            exact this
                          clear hh hx hR x0 x1 uu0 uu1 uu2 uu3
                          go_upto_region 22 with fail
                          refine wp_region_quiet_below (by kernel_rfl) (by kernel_rfl) ?_
                          repeat (go_big_quiet_step (first | (with_reducible exact cH1.out _ _)))
                          refine wpQuiet_nil ?_
                          rintro _ ⟨⟨dq, osq⟩, rfl⟩
                          go_wp2_with fail
                          go_roundg (st.tks.length - (k + 1))
                          case measure => go_light; omega
                          case rel => go_light; exact ⟨k + 1, by omega, by omega, by go_num, HRW.out dq osq⟩
                        · rw [Bool.not_eq_true] at hh
                          have cH1 : Hid (∀ (d : Nat) (os : Array Obj), Calls Tryz.prog 46 #[.agg #[.slice g1 u.s.length j1, .slice g2 u.p.length j2, .slice g3 u.g.length j3, .slice g4 u.r.length j4], .int .u8 1, .int .i64 st.tks[k].id] (grow (redrawn wn d) os) fun e w'' => e = .returned (.bool false) ∧ ∃ p : Regrown, w'' = grow (redrawn wn p.d) p.os) := fun d os => by
                            have := Calls.regrown_of (HHX.out _ (hR d os) 1 st.tks[k].id (by decide) (by decide))
                            rw [hh] at this
                            exact this
                          clear hh hR x0 x1 uu0 uu1 uu2 uu3
                          go_upto_region 22 with fail
                          refine wp_region_quiet_below (by kernel_rfl) (by kernel_rfl) ?_
                          repeat (go_big_quiet_step (first | (with_reducible exact cH1.out _ _)))
                          refine wpQuiet_nil ?_
                          rintro _ ⟨⟨dq, osq⟩, rfl⟩
                          go_wp2_with fail
                          go_roundg (st.tks.length - (k + 1))
                          case measure => go_light; omega
                          case rel => go_light; exact ⟨k + 1, by omega, by omega, by go_num, HRW.out dq osq⟩
                      · obtain rfl : k = st.tks.length := by omega
                        have hdk : decide ((st.tks.length : Int) < (st.tks.length : Int)) = false := by simp
                        clear K7
                        have K7 : Hid (Below w6.heap.size w6 wo) := KO.out
                        go_wp2_with fail
                        clear KO KWO BXO HUO ss0 ss1 ss2
                        go_loopg [17] st.sws.length (fun g i wr => ∃ k : Nat, k ≤ st.sws.length ∧ g = st.sws.length - k ∧ i = .int .i64 k ∧ Below w6.heap.size w6 wr)
                        case atStart => exact ⟨0, by omega, by omega, rfl, K7.out⟩
                        case round =>
                          obtain ⟨k, hk, rfl, rfl, hb⟩ := hrel
                          obtain ⟨wo, rfl⟩ : ∃ wo : World, wo = wr := ⟨_, rfl⟩
                          have KO := Lib.hid hb
                          have KWO : Hid (Below w.heap.size w wo) := K6.out.trans (hb.mono K6.out.size)
                          have BXO := Lib.hid (HBB.out _ _ BX6.out hb)
                          have HUO := Lib.hid ((hb.block _ (lt_of_block HU6.out)).trans HU6.out)
                          clear hb
                          have ss0 : wo.cell? ⟨w.heap.size + 1, 0, none⟩ = some (.slice b1 st.tks.length d1) := (cell_of_row wo _ 0 _ _ _ (BXO.out.2)).trans rfl
                          have ss1 : wo.cell? ⟨w.heap.size + 1, 1, none⟩ = some (.slice b2 st.sws.length d2) := (cell_of_row wo _ 1 _ _ _ (BXO.out.2)).trans rfl
                          have ss2 : wo.cell? ⟨w.heap.size + 1, 2, none⟩ = some (.slice b3 st.lks.length d3) := (cell_of_row wo _ 2 _ _ _ (BXO.out.2)).trans rfl
                          by_cases hlt : k < st.sws.length
                          · have hdk : decide ((k : Int) < (st.sws.length : Int)) = true := by simp; omega
                            have hbnd := LT3.out
                            have q0 : (0 : Int) ≤ (k : Int) := by omega
                            have q1 : (k : Int) < (st.sws.length : Int) := by omega
                            obtain ⟨b, off, rfl, x0, x1, x2⟩ := (HSW.out _ KWO.out).sw hlt
                            have l9 := World.block_lt_of_cell? _ _ x0
                            have pp0 : wo.cell? ⟨w.heap.size, 0, none⟩ = some (.int .i64 p.ver) := (cell_of_row wo _ 0 _ _ _ (BXO.out.1)).trans rfl
                            have pp1 : wo.cell? ⟨w.heap.size, 1, none⟩ = some (.int .i64 p.par) := (cell_of_row wo _ 1 _ _ _ (BXO.out.1)).trans rfl
                            have pp2 : wo.cell? ⟨w.heap.size, 2, none⟩ = some (.slice a1 p.secs.length c1) := (cell_of_row wo _ 2 _ _ _ (BXO.out.1)).trans rfl
                            have pp3 : wo.cell? ⟨w.heap.size, 3, none⟩ = some (.slice a2 p.pts.length c2) := (cell_of_row wo _ 3 _ _ _ (BXO.out.1)).trans rfl
                            have pp4 : wo.cell? ⟨w.heap.size, 4, none⟩ = some (.slice a3 p.sigs.length c3) := (cell_of_row wo _ 4 _ _ _ (BXO.out.1)).trans rfl
                            have pp5 : wo.cell? ⟨w.heap.size, 5, none⟩ = some (.slice a4 p.rts.length c4) := (cell_of_row wo _ 5 _ _ _ (BXO.out.1)).trans rfl
                            have hR : ∀ (d : Nat) (os : Array Obj), Below w6.heap.size w6 (grow (redrawn wo d) os) := fun d os => KO.out.trans ((below_regrown wo d os).mono KO.out.size)
                            have HRW := Lib.hid hR
                            have X0 := cell_regrown x0
                            have X1 := cell_regrown x1
                            have X2 := cell_regrown x2
                            have PP0 := cell_regrown pp0
                            have PP1 := cell_regrown pp1
                            have PP2 := cell_regrown pp2
                            have PP3 := cell_regrown pp3
                            have PP4 := cell_regrown pp4
                            have PP5 := cell_regrown pp5
                            have SS0 := cell_regrown ss0
                            have SS1 := cell_regrown ss1
                            have SS2 := cell_regrown ss2
                            have hn := N4.out k hlt
                            have hcc := fun (d : Nat) (os : Array Obj) => Calls.regrown_of (HAS.out HF.out HSF.out st.sws[k].id _ (KWO.out.trans ((below_regrown wo d os).mono KWO.out.size)))
                            generalize askAt p st st.sws[k].id = hv at *
                            obtain ⟨h1, h2⟩ := hv
                            obtain ⟨hz, hn⟩ := hn
                            dsimp only at hz hn hcc
                            subst hz
                            have cC : Hid (∀ (d : Nat) (os : Array Obj), Calls Tryz.prog 57 #[.agg #[.int .i64 p.ver, .int .i64 p.par, .slice a1 p.secs.length c1, .slice a2 p.pts.length c2, .slice a3 p.sigs.length c3, .slice a4 p.rts.length c4], .agg #[.slice b1 st.tks.length d1, .slice (some ⟨b, off, none⟩) st.sws.length d2, .slice b3 st.lks.length d3], .int .i64 st.sws[k].id] (grow (redrawn wo d) os) fun e w'' => e = .returned (.tuple #[.int .i64 h1, .int .i64 0]) ∧ ∃ p : Regrown, w'' = grow (redrawn wo p.d) p.os) := hcc
                            have HN := Lib.hid hn
                            clear hcc hn hR x0 x1 x2 pp0 pp1 pp2 pp3 pp4 pp5 ss0 ss2
                            go_upto_region 27 with fail
                            refine wp_region_quiet_below (by kernel_rfl) (by kernel_rfl) ?_
                            repeat (go_big_quiet_step (first | (with_reducible exact cC.out _ _)))
                            refine wpQuiet_nil ?_
                            rintro _ ⟨⟨dq, osq⟩, rfl⟩
                            have hbn : Below wo.heap.size wo (grow (redrawn wo dq) osq) := below_regrown wo dq osq
                            clear cC HRW X0 X1 X2 PP0 PP1 PP2 PP3 PP4 PP5 SS0 SS1 SS2
                            generalize hWN : grow (redrawn wo dq) osq = wn at *
                            have KN : Hid (Below w6.heap.size w6 wn) := KO.out.trans (hbn.mono KO.out.size)
                            have KWN : Hid (Below w.heap.size w wn) := KWO.out.trans (hbn.mono KWO.out.size)
                            have BXN := Lib.hid (HBB.out _ _ BXO.out hbn)
                            have HUN := Lib.hid ((hbn.block _ (lt_of_block HUO.out)).trans HUO.out)
                            clear hbn hWN ss1 l9
                            have ss1 : wn.cell? ⟨w.heap.size + 1, 1, none⟩ = some (.slice (some ⟨b, off, none⟩) st.sws.length d2) := (cell_of_row wn _ 1 _ _ _ (BXN.out.2)).trans rfl
                            have uu0 : wn.cell? ⟨w4.heap.size, 0, none⟩ = some (.slice g1 u.s.length j1) := (cell_of_row wn _ 0 _ _ _ (HUN.out)).trans rfl
                            have uu1 : wn.cell? ⟨w4.heap.size, 1, none⟩ = some (.slice g2 u.p.length j2) := (cell_of_row wn _ 1 _ _ _ (HUN.out)).trans rfl
                            have uu2 : wn.cell? ⟨w4.heap.size, 2, none⟩ = some (.slice g3 u.g.length j3) := (cell_of_row wn _ 2 _ _ _ (HUN.out)).trans rfl
                            have uu3 : wn.cell? ⟨w4.heap.size, 3, none⟩ = some (.slice g4 u.r.length j4) := (cell_of_row wn _ 3 _ _ _ (HUN.out)).trans rfl
                            obtain ⟨b', off', hbe, x0, x1, x2⟩ := (HSW.out _ KWN.out).sw hlt
                            cases hbe
                            have l9 := World.block_lt_of_cell? _ _ x0
                            have hR : ∀ (d : Nat) (os : Array Obj), Below w6.heap.size w6 (grow (redrawn wn d) os) := fun d os => KN.out.trans ((below_regrown wn d os).mono KN.out.size)
                            have HRW := Lib.hid hR
                            have X0 := cell_regrown x0
                            have X1 := cell_regrown x1
                            have X2 := cell_regrown x2
                            have SS1 := cell_regrown ss1
                            have UU0 := cell_regrown uu0
                            have UU1 := cell_regrown uu1
                            have UU2 := cell_regrown uu2
                            have UU3 := cell_regrown uu3
                            by_cases hh : hasA u 2 st.sws[k].id = true
                            · have hx := HN.out hh
                              have hz1 : h1 = 0 := hx
                              subst hz1
                              have cH1 : Hid (∀ (d : Nat) (os : Array Obj), Calls Tryz.prog 46 #[.agg #[.slice g1 u.s.length j1, .slice g2 u.p.length j2, .slice g3 u.g.length j3, .slice g4 u.r.length j4], .int .u8 2, .int .i64 st.sws[k].id] (grow (redrawn wn d) os) fun e w'' => e = .returned (.bool true) ∧ ∃ p : Regrown, w'' = grow (redrawn wn p.d) p.os) := fun d os => by
                                have := Calls.regrown_of (HHX.out _ (hR d os) 2 st.sws[k].id (by decide) (by decide))
                                rw [hh] at this
                                exact this
                              clear hh hx hR x0 x1 x2 uu0 uu1 uu2 uu3
                              go_upto_region 28 with fail
                              refine wp_region_quiet_below (by kernel_rfl) (by kernel_rfl) ?_
                              repeat (go_big_quiet_step (first | (with_reducible exact cH1.out _ _)))
                              refine wpQuiet_nil ?_
                              rintro _ ⟨⟨dq, osq⟩, rfl⟩
                              go_wp2_with fail
                              go_roundg (st.sws.length - (k + 1))
                              case measure => go_light; omega
                              case rel => go_light; exact ⟨k + 1, by omega, by omega, by go_num, HRW.out dq osq⟩
                            · rw [Bool.not_eq_true] at hh
                              have cH1 : Hid (∀ (d : Nat) (os : Array Obj), Calls Tryz.prog 46 #[.agg #[.slice g1 u.s.length j1, .slice g2 u.p.length j2, .slice g3 u.g.length j3, .slice g4 u.r.length j4], .int .u8 2, .int .i64 st.sws[k].id] (grow (redrawn wn d) os) fun e w'' => e = .returned (.bool false) ∧ ∃ p : Regrown, w'' = grow (redrawn wn p.d) p.os) := fun d os => by
                                have := Calls.regrown_of (HHX.out _ (hR d os) 2 st.sws[k].id (by decide) (by decide))
                                rw [hh] at this
                                exact this
                              clear hh hR x0 x1 x2 uu0 uu1 uu2 uu3
                              go_upto_region 28 with fail
                              refine wp_region_quiet_below (by kernel_rfl) (by kernel_rfl) ?_
                              repeat (go_big_quiet_step (first | (with_reducible exact cH1.out _ _)))
                              refine wpQuiet_nil ?_
                              rintro _ ⟨⟨dq, osq⟩, rfl⟩
                              go_wp2_with fail
                              go_roundg (st.sws.length - (k + 1))
                              case measure => go_light; omega
                              case rel => go_light; exact ⟨k + 1, by omega, by omega, by go_num, HRW.out dq osq⟩
                          · obtain rfl : k = st.sws.length := by omega
                            have hdk : decide ((st.sws.length : Int) < (st.sws.length : Int)) = false := by simp
                            clear K7
                            have K7 : Hid (Below w6.heap.size w6 wo) := KO.out
                            go_wp2_with fail
                            go_ret
                            exact ⟨rfl, KWO.out⟩
        · have hne : (EE != 0) = true := by simp [he2]
          go_wp2_with fail
          go_ret
          exact ⟨rfl, K6.out⟩
      · have hne : (E != 0) = true := by simp [he1]
        go_wp2_with fail
        go_ret
        exact ⟨rfl, K6.out⟩
end Go.Proofs.YtbiehpjhhopjaaaGreat
