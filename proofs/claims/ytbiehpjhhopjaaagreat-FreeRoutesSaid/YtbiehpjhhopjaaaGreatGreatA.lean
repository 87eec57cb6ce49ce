/-
  The references' bounds on plans and states, walked.
-/
import Derived.Test.YtbiehpjhhopjaaaGreatMem
import Derived.Deep.LoopGhost
import Derived.Deep.Light
set_option linter.unusedVariables false
set_option linter.unusedSimpArgs false
namespace Go.Proofs.YtbiehpjhhopjaaaGreat
open Go.RowKit
/-- a Bool: false only where something holds -/
def FalsePost (w : World) (R : Prop) (e : Ending) (w' : World) : Prop := ∃ b, e = .returned (.bool b) ∧ (b = false → R) ∧ Below w.heap.size w w'
set_option maxHeartbeats 1000000 in
theorem secgreat_any (a : Option Addr) (cap : Nat) (l : List Sec) (w : World) (hl : SlA w 3 RSec a cap l) :
    Calls Tryz.prog 88 #[.slice a l.length cap] w (FalsePost w (l.length ≤ 40 ∧ ∀ i (h : i < l.length), l[i].ends.length ≤ 20)) := by
  have HL : Hid (∀ w', Below w.heap.size w w' → SlA w' 3 RSec a cap l) := fun w' hb => hl.below keeps_sec hb
  clear hl
  go_enter Tryz.func88, Tryz.ntmps88
  go_wp2_with fail
  go_loopg [3] 40 (fun g i wr => ∃ k : Nat, k ≤ 40 ∧ k ≤ l.length ∧ g = 40 - k ∧ i = .int .i64 k ∧ Below w.heap.size w wr ∧ ∀ j (h : j < l.length), j < k → l[j].ends.length ≤ 20)
  case atStart => exact ⟨0, by omega, by omega, by omega, rfl, Below.refl _ _, fun j h hj => by omega⟩
  case round =>
    obtain ⟨k, hk, hkl, rfl, rfl, hb, hA⟩ := hrel
    obtain ⟨wo, rfl⟩ : ∃ wo : World, wo = wr := ⟨_, rfl⟩
    have HB := Lib.hid hb
    have HA := Lib.hid hA
    clear hb hA
    by_cases hlt : k < l.length
    · have hd1 : decide ((k : Int) < (l.length : Int)) = true := by simp; omega
      by_cases h40 : k < 40
      · have hd2 : decide ((k : Int) < 40) = true := by simp; omega
        obtain ⟨b, off, a', c', rfl, x0, x1, x2, hends⟩ := (HL.out _ HB.out).sec hlt
        have c0 : (0 : Int) ≤ (k : Int) := by omega
        have c1 : (k : Int) < (l.length : Int) := by omega
        have l1 := World.block_lt_of_cell? _ _ x0
        clear hends
        by_cases hbig : 20 < l[k].ends.length
        · have hd3 : decide ((20 : Int) < (l[k].ends.length : Int)) = true := by simp; omega
          go_wp2_with fail
          go_ret
          exact ⟨true, rfl, (fun h => nomatch h), HB.out⟩
        · have hd3 : decide ((20 : Int) < (l[k].ends.length : Int)) = false := by simp; omega
          have HST : Hid (∀ j (h : j < l.length), j < k + 1 → l[j].ends.length ≤ 20) := fun j h hj => by
            by_cases hjk : j < k
            · exact HA.out j h hjk
            · obtain rfl : j = k := by omega
              omega
          go_wp2_with fail
          go_roundg (40 - (k + 1))
          case measure => go_light; omega
          case rel => go_light; exact ⟨k + 1, by omega, by omega, by omega, by go_num, HB.out, HST.out⟩
      · have hd2 : decide ((k : Int) < 40) = false := by simp; omega
        by_cases hbig : 40 < l.length
        · have hd3 : decide ((40 : Int) < (l.length : Int)) = true := by simp; omega
          go_wp2_with fail
          go_ret
          exact ⟨true, rfl, (fun h => nomatch h), HB.out⟩
        · exact absurd hlt (by omega)
    · have hd1 : decide ((k : Int) < (l.length : Int)) = false := by simp; omega
      obtain rfl : k = l.length := by omega
      have hd3 : decide ((40 : Int) < (l.length : Int)) = false := by simp; omega
      go_wp2_with fail
      go_ret
      exact ⟨false, rfl, fun _ => ⟨hk, fun i h => HA.out i h h⟩, HB.out⟩
set_option maxHeartbeats 1000000 in
theorem stgreat_any (t s l : Value) (x : St) (w : World) (hx : StM w t s l x) : Calls Tryz.prog 34 #[.agg #[t, s, l]] w (FalsePost w x.fit) := by
  obtain ⟨a1, c1, rfl, -⟩ := hx.tks
  obtain ⟨a2, c2, rfl, -⟩ := hx.sws
  obtain ⟨a3, c3, rfl, -⟩ := hx.lks
  clear hx
  have HF : Hid (x.tks.length ≤ 200 → x.sws.length ≤ 200 → x.lks.length ≤ 200 → x.fit) := fun h1 h2 h3 => ⟨by omega, by omega, by omega⟩
  go_enter Tryz.func34, Tryz.ntmps34
  go_wp2_with fail
  all_goals
    go_ret
    refine ⟨_, rfl, fun h => ?_, (Below.refl _ _).alloc (Nat.le_refl _) _⟩
    simp at h <;> exact HF.out (by omega) (by omega) (by omega)
set_option maxHeartbeats 2000000 in
theorem plgreat_any (p : Pl) (s q gg rr : Value) (w : World) (hp : PlM w s q gg rr p) : Calls Tryz.prog 33 #[plV p s q gg rr] w (FalsePost w p.Fit) := by
  have HSG : Hid (∀ w', Below w.heap.size w w' → Calls Tryz.prog 88 #[s] w' (FalsePost w' (p.secs.length ≤ 40 ∧ ∀ i (h : i < p.secs.length), p.secs[i].ends.length ≤ 20))) := fun w' hb => by
    obtain ⟨a, c, rfl, h⟩ := (hp.below hb).secs
    exact secgreat_any a c p.secs w' h
  obtain ⟨a1, c1, rfl, -⟩ := hp.secs
  obtain ⟨a2, c2, rfl, -⟩ := hp.pts
  obtain ⟨a3, c3, rfl, -⟩ := hp.sigs
  obtain ⟨a4, c4, rfl, hr⟩ := hp.rts
  have HR : Hid (∀ w', Below w.heap.size w w' → SlA w' 7 RRt a4 c4 p.rts) := fun w' hb => hr.below keeps_rt hb
  have HF : Hid ((p.secs.length ≤ 40 ∧ ∀ i (h : i < p.secs.length), p.secs[i].ends.length ≤ 20) → p.pts.length ≤ 40 → p.sigs.length ≤ 40 → p.rts.length ≤ 40 → (∀ i (h : i < p.rts.length), p.rts[i].path.length ≤ 20 ∧ p.rts[i].over.length ≤ 20 ∧ p.rts[i].fl.length ≤ 20) → p.Fit) := fun h1 h2 h3 h4 h5 =>
    ⟨by omega, fun i h => by have := h1.2 i h; omega, by omega, by omega, by omega, fun i h => by have := h5 i h; exact ⟨by omega, by omega, by omega⟩⟩
  clear hp hr
  unfold plV at *
  go_enter Tryz.func33, Tryz.ntmps33
  go_upto_region 1 with fail
  generalize hW0 : World.alloc _ _ = W0
  have K0 : Hid (Below w.heap.size w W0) := by show Below _ _ _; rw [← hW0]; exact (Below.refl _ _).alloc (Nat.le_refl _) _
  have HBP : Hid (W0.heap[w.heap.size]? = some (.cells #[.int .i64 p.ver, .int .i64 p.par, .slice a1 p.secs.length c1, .slice a2 p.pts.length c2, .slice a3 p.sigs.length c3, .slice a4 p.rts.length c4] 28 (0, 0))) := by
    show _ = _; rw [← hW0]; exact heap_alloc_new _ _
  clear hW0
  go_wp2_with fail
  go_loopg [3] 40 (fun g i wr => ∃ k : Nat, k ≤ 40 ∧ k ≤ p.rts.length ∧ g = 40 - k ∧ i = .int .i64 k ∧ Below W0.heap.size W0 wr ∧ ∀ j (h : j < p.rts.length), j < k → p.rts[j].path.length ≤ 20 ∧ p.rts[j].over.length ≤ 20 ∧ p.rts[j].fl.length ≤ 20)
  case atStart => exact ⟨0, by omega, by omega, by omega, rfl, Below.refl _ _, fun j h hj => by omega⟩
  case round =>
    obtain ⟨k, hk, hkl, rfl, rfl, hb, hA⟩ := hrel
    obtain ⟨wo, rfl⟩ : ∃ wo : World, wo = wr := ⟨_, rfl⟩
    have KB : Hid (Below w.heap.size w wo) := K0.out.trans (hb.mono K0.out.size)
    have hbp := (hb.block _ (lt_of_block HBP.out)).trans HBP.out
    have pp2 : wo.cell? ⟨w.heap.size, 2, none⟩ = some (.slice a1 p.secs.length c1) := (cell_of_row wo _ 2 _ _ _ hbp).trans rfl
    have pp3 : wo.cell? ⟨w.heap.size, 3, none⟩ = some (.slice a2 p.pts.length c2) := (cell_of_row wo _ 3 _ _ _ hbp).trans rfl
    have pp4 : wo.cell? ⟨w.heap.size, 4, none⟩ = some (.slice a3 p.sigs.length c3) := (cell_of_row wo _ 4 _ _ _ hbp).trans rfl
    have pp5 : wo.cell? ⟨w.heap.size, 5, none⟩ = some (.slice a4 p.rts.length c4) := (cell_of_row wo _ 5 _ _ _ hbp).trans rfl
    have HBPo := Lib.hid hbp
    have HB := Lib.hid hb
    have HA := Lib.hid hA
    clear hb hA hbp
    have key : Hid (¬ (k < p.rts.length ∧ k < 40) → (p.rts.length ≤ 40 → ∀ i (h : i < p.rts.length), p.rts[i].path.length ≤ 20 ∧ p.rts[i].over.length ≤ 20 ∧ p.rts[i].fl.length ≤ 20)) := fun h1 h2 i h => HA.out i h (by omega)
    by_cases hin : k < p.rts.length ∧ k < 40
    · have hd1 : decide ((k : Int) < (p.rts.length : Int)) = true := by simp; omega
      have hd2 : decide ((k : Int) < 40) = true := by simp; omega
      have hlt := hin.1
      obtain ⟨b, off, vp, vo, vf, rfl, r0, r1, r2, r3, r4, r5, r6, hrm⟩ := (HR.out _ KB.out).rt hlt
      obtain ⟨ap, np, cp, rfl, ip⟩ := hrm.path
      obtain ⟨ao, no, co, rfl, io⟩ := hrm.over
      obtain rfl := ip.len
      obtain rfl := io.len
      obtain ⟨af, cf, rfl, -⟩ := hrm.fl
      have e0 : (0 : Int) ≤ (k : Int) := by omega
      have e1 : (k : Int) < (p.rts.length : Int) := by omega
      have l9 := World.block_lt_of_cell? _ _ r0
      clear hrm
      by_cases h1 : 20 < p.rts[k].path.length
      · have t1 : decide ((20 : Int) < (p.rts[k].path.length : Int)) = true := by simp; omega
        go_wp2_with fail
        go_ret
        exact ⟨true, rfl, (fun h => nomatch h), KB.out⟩
      · have t1 : decide ((20 : Int) < (p.rts[k].path.length : Int)) = false := by simp; omega
        by_cases h2 : 20 < p.rts[k].over.length
        · have t2 : decide ((20 : Int) < (p.rts[k].over.length : Int)) = true := by simp; omega
          go_wp2_with fail
          go_ret
          exact ⟨true, rfl, (fun h => nomatch h), KB.out⟩
        · have t2 : decide ((20 : Int) < (p.rts[k].over.length : Int)) = false := by simp; omega
          by_cases h3 : 20 < p.rts[k].fl.length
          · have t3 : decide ((20 : Int) < (p.rts[k].fl.length : Int)) = true := by simp; omega
            go_wp2_with fail
            go_ret
            exact ⟨true, rfl, (fun h => nomatch h), KB.out⟩
          · have t3 : decide ((20 : Int) < (p.rts[k].fl.length : Int)) = false := by simp; omega
            have HST : Hid (∀ j (h : j < p.rts.length), j < k + 1 → p.rts[j].path.length ≤ 20 ∧ p.rts[j].over.length ≤ 20 ∧ p.rts[j].fl.length ≤ 20) := fun j h hj => by
              by_cases hjk : j < k
              · exact HA.out j h hjk
              · obtain rfl : j = k := by omega
                exact ⟨by omega, by omega, by omega⟩
            go_wp2_with fail
            go_roundg (40 - (k + 1))
            case measure => go_light; omega
            case rel => go_light; exact ⟨k + 1, by omega, by omega, by omega, by go_num, HB.out, HST.out⟩
    · have HK := Lib.hid (key.out hin)
      clear key
      by_cases hin1 : k < p.rts.length
      · have hd1 : decide ((k : Int) < (p.rts.length : Int)) = true := by simp; omega
        have hd2 : decide ((k : Int) < 40) = false := by simp; omega
        have hd4 : decide ((40 : Int) < (p.rts.length : Int)) = true := by simp; omega
        have hk40 : ¬ k < 40 := fun h => hin ⟨hin1, h⟩
        clear hin
        go_wp2_with fail
        refine (HSG.out _ KB.out).mono ?_
        rintro e w1 ⟨b, rfl, -, hb1⟩
        have K1 : Hid (Below w.heap.size w w1) := KB.out.trans (hb1.mono KB.out.size)
        have hbp := (hb1.block _ (lt_of_block HBPo.out)).trans HBPo.out
        clear hb1 pp2 pp3 pp4 pp5
        have pp3 : w1.cell? ⟨w.heap.size, 3, none⟩ = some (.slice a2 p.pts.length c2) := (cell_of_row w1 _ 3 _ _ _ hbp).trans rfl
        have pp4 : w1.cell? ⟨w.heap.size, 4, none⟩ = some (.slice a3 p.sigs.length c3) := (cell_of_row w1 _ 4 _ _ _ hbp).trans rfl
        have pp5 : w1.cell? ⟨w.heap.size, 5, none⟩ = some (.slice a4 p.rts.length c4) := (cell_of_row w1 _ 5 _ _ _ hbp).trans rfl
        clear hbp
        cases b with
        | true =>
          go_wp2_with fail
          go_ret
          exact ⟨true, rfl, (fun h => nomatch h), K1.out⟩
        | false =>
          by_cases h3 : 40 < p.pts.length
          · have t1 : decide ((40 : Int) < (p.pts.length : Int)) = true := by simp; omega
            go_wp2_with fail
            go_ret
            exact ⟨true, rfl, (fun h => nomatch h), K1.out⟩
          · have t1 : decide ((40 : Int) < (p.pts.length : Int)) = false := by simp; omega
            by_cases h4 : 40 < p.sigs.length
            · have t2 : decide ((40 : Int) < (p.sigs.length : Int)) = true := by simp; omega
              go_wp2_with fail
              go_ret
              exact ⟨true, rfl, (fun h => nomatch h), K1.out⟩
            · have t2 : decide ((40 : Int) < (p.sigs.length : Int)) = false := by simp; omega
              go_wp2_with fail
              go_ret
              exact ⟨true, rfl, (fun h => nomatch h), K1.out⟩
      · have hd1 : decide ((k : Int) < (p.rts.length : Int)) = false := by simp; omega
        have h40 : p.rts.length ≤ 40 := by omega
        have hd4 : decide ((40 : Int) < (p.rts.length : Int)) = false := by simp; omega
        clear hin
        go_wp2_with fail
        refine (HSG.out _ KB.out).mono ?_
        rintro e w1 ⟨b, rfl, hR, hb1⟩
        have HRR := Lib.hid hR
        have K1 : Hid (Below w.heap.size w w1) := KB.out.trans (hb1.mono KB.out.size)
        have hbp := (hb1.block _ (lt_of_block HBPo.out)).trans HBPo.out
        clear hb1 pp2 pp3 pp4 pp5 hR
        have pp3 : w1.cell? ⟨w.heap.size, 3, none⟩ = some (.slice a2 p.pts.length c2) := (cell_of_row w1 _ 3 _ _ _ hbp).trans rfl
        have pp4 : w1.cell? ⟨w.heap.size, 4, none⟩ = some (.slice a3 p.sigs.length c3) := (cell_of_row w1 _ 4 _ _ _ hbp).trans rfl
        have pp5 : w1.cell? ⟨w.heap.size, 5, none⟩ = some (.slice a4 p.rts.length c4) := (cell_of_row w1 _ 5 _ _ _ hbp).trans rfl
        clear hbp
        cases b with
        | true =>
          go_wp2_with fail
          go_ret
          exact ⟨true, rfl, (fun h => nomatch h), K1.out⟩
        | false =>
          by_cases h3 : 40 < p.pts.length
          · have t1 : decide ((40 : Int) < (p.pts.length : Int)) = true := by simp; omega
            go_wp2_with fail
            go_ret
            exact ⟨true, rfl, (fun h => nomatch h), K1.out⟩
          · have t1 : decide ((40 : Int) < (p.pts.length : Int)) = false := by simp; omega
            by_cases h4 : 40 < p.sigs.length
            · have t2 : decide ((40 : Int) < (p.sigs.length : Int)) = true := by simp; omega
              go_wp2_with fail
              go_ret
              exact ⟨true, rfl, (fun h => nomatch h), K1.out⟩
            · have t2 : decide ((40 : Int) < (p.sigs.length : Int)) = false := by simp; omega
              go_wp2_with fail
              go_ret
              exact ⟨false, rfl, fun _ => HF.out (HRR.out trivial) (by omega) (by omega) h40 (HK.out h40), K1.out⟩
end Go.Proofs.YtbiehpjhhopjaaaGreat
