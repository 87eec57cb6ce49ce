/-
 sound.once, sound.clear, walked.
 track.ways, track.Through, walked.
-/
import Derived.Test.YtbiehpjhhopjaaaGreatTPlanG
import Derived.Test.YtbiehpjhhopjaaaGreatTMem
import Derived.Test.YtbiehpjhhopjaaaGreatTData
import Derived.Test.YtbiehpjhhopjaaaGreatTTrackC
set_option linter.unusedVariables false
set_option linter.unusedSimpArgs false
namespace Go.Proofs.YtbiehpjhhopjaaaGreat
open Go.RowKit Go.Sort
set_option maxRecDepth 100000 in
set_option maxHeartbeats 4000000 in
theorem once_any (a : Option Addr) (cap : Nat) (l : List Ask) (w : World) (hl : SlA w 3 RAsk a cap l) (hm : l.length ≤ 1000) (hfit : AsksFit l) :
  Calls Tryz.prog 121 #[.slice a l.length cap] w (BoolPost w (decide (Once l))) := by
 have HL : Hid (∀ w', Below w.heap.size w w' → SlA w' 3 RAsk a cap l) := fun w' hb => hl.below keeps_ask hb
 have HF := Lib.hid hfit
 have HB2 : Hid (∀ b, (b = true ↔ Once l) → decide (Once l) = b) := fun b hb => by rw [Bool.eq_iff_iff, decide_eq_true_iff]; exact hb.symm
 have HI : Hid (Once l ↔ OnceA l l.length) := Iff.rfl
 clear hl hfit
 generalize decide (Once l) = B at *
 go_enter Tryz.func121, Tryz.ntmps121
 go_wp2_with fail
 have hR0 : BoolRow (w.alloc (.cells Tryz.zeroCells279 279)) w.heap.size 100 279 (askedOf l 0) := (BoolRow.new w _ _ (by rw [zero279]; simp) zero279_at).congr fun q _ => (askedOf_zero l q).symm
 have HR0 := Lib.hid hR0
 clear hR0
 go_loopg [8] l.length (fun g i wr => ∃ k : Nat, k ≤ l.length ∧ g = l.length - k ∧ i = .int .i64 k ∧ Below w.heap.size w wr ∧ BoolRow wr w.heap.size 100 279 (askedOf l k) ∧ OnceA l k)
 case atStart => exact ⟨0, by omega, by omega, rfl, (Below.refl _ _).alloc (Nat.le_refl _) _, HR0.out, fun i hi h => absurd h (by omega)⟩
 case round =>
  obtain ⟨k, hk, rfl, rfl, hb, hR, hA⟩ := hrel
  obtain ⟨wo, rfl⟩ : ∃ wo : World, wo = wr := ⟨_, rfl⟩
  have HB := Lib.hid hb
  have HR := Lib.hid hR
  have HA := Lib.hid hA
  clear hb hR hA
  by_cases hlt : k < l.length
  ·have hdk : decide ((k : Int) < (l.length : Int)) = true := by simp; omega
   obtain ⟨b, off, rfl, x0, x1, x2⟩ := (HL.out _ HB.out).ask hlt
   have c0 : (0 : Int) ≤ (k : Int) := by omega
   have c1 : (k : Int) < (l.length : Int) := by omega
   have l1 := World.block_lt_of_cell? _ _ x0
   have lw := HR.out.lt
   have hfk := HF.out l[k] (List.getElem_mem hlt)
   have p0 : (0 : Int) ≤ l[k].pt := by omega
   have p1 : l[k].pt < 100 := by omega
   have hpn : l[k].pt = ((l[k].pt.toNat : Nat) : Int) := by omega
   have v2 := HR.out.cell (q := l[k].pt.toNat) (by omega)
   have v3 := HR.out.frozen l[k].pt.toNat
   have HIF := Lib.hid (askedOf_iff hlt l[k].pt.toNat hpn)
   have hne : wo.heap.size ≠ w.heap.size := by omega
   cases hmet : askedOf l k l[k].pt.toNat with
   | true =>
    rw [hmet] at v2
    have HE : Hid (B = false) := HB2.out false (by
     simp only [Bool.false_eq_true, false_iff]
     exact fun h => (HIF.out.1 hmet) (h k hlt hlt))
    clear hmet hpn hfk
    go_wp2_with fail
    go_ret
    exact ⟨rbool HE.out.symm, HB.out.alloc HB.out.size _⟩
   | false =>
    rw [hmet] at v2
    have HST : Hid (OnceA l (k + 1)) := onceA_step hlt HA.out (fun m hm e => by
     have := HIF.out.2 (fun h => h m hm e)
     rw [hmet] at this
     cases this)
    have HROW : Hid (∀ W', BoolRow W' w.heap.size 100 279 (askedOf l k) → BoolRow (W'.setCell ⟨w.heap.size, l[k].pt.toNat, none⟩ (.bool true)) w.heap.size 100 279 (askedOf l (k + 1))) := fun W' h =>
     (h.set (q := l[k].pt.toNat) (by omega) true).congr fun q hq => askedOf_step hlt l[k].pt.toNat hpn q
    clear hmet hpn hfk
    go_wp2_with fail
    go_roundg (l.length - (k + 1))
    case measure => go_light; omega
    case rel =>
     go_light
     refine ⟨k + 1, by omega, by omega, by go_num, ?_, ?_, HST.out⟩
     ·exact (HB.out.setCell (Nat.le_refl _) _).alloc (by simpa [World.setCell] using HB.out.size) _
     ·exact (HROW.out _ HR.out).below ((Below.refl _ _).alloc (Nat.le_refl _) _)
  ·obtain rfl : k = l.length := by omega
   have hdk : decide ((l.length : Int) < (l.length : Int)) = false := by simp
   have HE : Hid (B = true) := HB2.out true (by simp only [true_iff]; exact HA.out)
   go_wp2_with fail
   go_ret
   exact ⟨rbool HE.out.symm, HB.out⟩
set_option maxRecDepth 100000 in
set_option maxHeartbeats 8000000 in
theorem clear_any (p : Pl) (r : Rt) (s q gg rr vp vo vf : Value) (a : Option Addr) (cap : Nat) (outs : List Jn) (w : World) (hp : PlM w s q gg rr p) (hf : p.Fit) (hr : RtM w vp vo vf r) (ho : SlA w 2 RJn a cap outs) (hm : outs.length ≤ 1000) (h6 : r.path.length ≤ 6) (hlen : r.path.length ≤ outs.length) :
  Calls Tryz.prog 122 #[plV p s q gg rr, .agg #[.int .i64 r.id, .int .i64 r.entry, .int .i64 r.exit, vp, vo, vf, .int .i64 r.timer], .slice a outs.length cap] w (BoolPost w (decide (Clear p r outs))) := by
 obtain ⟨a1, c1, rfl, k1⟩ := hp.secs
 obtain ⟨a2, c2, rfl, k2⟩ := hp.pts
 obtain ⟨a3, c3, rfl, k3⟩ := hp.sigs
 obtain ⟨a4, c4, rfl, k4⟩ := hp.rts
 obtain ⟨ap, cp, rfl, -⟩ := hr.path.at_
 obtain ⟨ao, co, rfl, -⟩ := hr.over.at_
 obtain ⟨af, cf, rfl, -⟩ := hr.fl
 have HG : Hid (∀ w', Below w.heap.size w w' → SlA w' 3 RSg a3 c3 p.sigs) := fun w' hb => k3.below keeps_sg hb
 have HO : Hid (∀ w', Below w.heap.size w w' → SlA w' 2 RJn a cap outs) := fun w' hb => ho.below keeps_jn hb
 have hs := hf.sigs
 have hcap := ho.le
 have HB2 : Hid (∀ b, (b = true ↔ Clear p r outs) → decide (Clear p r outs) = b) := fun b hb => by rw [Bool.eq_iff_iff, decide_eq_true_iff]; exact hb.symm
 have HCI : Hid (Clear p r outs ↔ ClearA p r outs r.path.length) := Iff.rfl
 clear k1 k2 k3 k4 hp hf hr ho
 unfold plV
 generalize decide (Clear p r outs) = B at *
 have hsl0 : (0 : Int) ≤ (r.path.length : Int) := by omega
 have hsl1 : (r.path.length : Int) ≤ (cap : Int) := by omega
 go_enter Tryz.func122, Tryz.ntmps122
 go_wp2_with fail
 generalize hW : (w.alloc _).alloc _ = W
 have hbW : Below w.heap.size w W := by rw [← hW]; exact ((Below.refl _ _).alloc (Nat.le_refl _) _).alloc (by simp) _
 have K0 := Lib.hid hbW
 have HY : Hid (∀ W', Below W.heap.size W W' → W'.cell? ⟨w.heap.size, 4, none⟩ = some (.slice a3 p.sigs.length c3) ∧ W'.cell? ⟨w.heap.size + 1, 2, none⟩ = some (.int .i64 r.exit) ∧ W'.cell? ⟨w.heap.size + 1, 3, none⟩ = some (.slice ap r.path.length cp) ∧ w.heap.size + 1 < W'.heap.size) := fun W' hb =>
  ⟨ccell hb (by rw [← hW]; simp [go_sem]), ccell hb (by rw [← hW]; simp [go_sem]), ccell hb (by rw [← hW]; simp [go_sem]), Nat.lt_of_lt_of_le (by rw [← hW]; simp) hb.size⟩
 clear hW hbW
 go_loopg [17] r.path.length (fun g j wr => ∃ i : Nat, i ≤ r.path.length ∧ g = r.path.length - i ∧ j = .int .i64 i ∧ Below W.heap.size W wr ∧ ClearA p r outs i)
 case atStart => exact ⟨0, by omega, by omega, rfl, Below.refl _ _, fun i hi h => absurd h (by omega)⟩
 case round =>
  obtain ⟨i, hi, rfl, rfl, hb, hA⟩ := hrel
  obtain ⟨w1o, rfl⟩ : ∃ wo : World, wo = wr := ⟨_, rfl⟩
  have HB := Lib.hid hb
  have HA := Lib.hid hA
  have HBW : Hid (Below w.heap.size w w1o) := K0.out.trans (hb.mono K0.out.size)
  clear hb hA
  by_cases hlt : i < r.path.length
  ·have hdk : decide ((i : Int) < (r.path.length : Int)) = true := by simp; omega
   have hio : i < outs.length := by omega
   obtain ⟨b, off, rfl, x0, x1⟩ := (HO.out _ HBW.out).jn hio
   have c0 : (0 : Int) ≤ (i : Int) := by omega
   have c1 : (i : Int) < (r.path.length : Int) := by omega
   have l1 := World.block_lt_of_cell? _ _ x0
   obtain ⟨y4, y2, y3, ly⟩ := HY.out _ HB.out
   have ly0 : w.heap.size < w1o.heap.size := by omega
   go_wp2_with fail
   generalize hWJ : w1o.alloc _ = WJ
   have hbJ : Below w1o.heap.size w1o WJ := by rw [← hWJ]; exact (Below.refl _ _).alloc (Nat.le_refl _) _
   have HBJ : Hid (Below W.heap.size W WJ) := HB.out.trans (hbJ.mono HB.out.size)
   have HBO : Hid (Below w.heap.size w WJ) := HBW.out.trans (hbJ.mono HBW.out.size)
   have HJ : Hid (∀ W', Below WJ.heap.size WJ W' → W'.cell? ⟨w1o.heap.size, 0, none⟩ = some (.int .i64 outs[i].to) ∧ W'.cell? ⟨w1o.heap.size, 1, none⟩ = some (.int .i64 outs[i].en) ∧ w1o.heap.size < W'.heap.size) := fun W' hb => ⟨ccell hb (by rw [← hWJ]; simp), ccell hb (by rw [← hWJ]; simp), Nat.lt_of_lt_of_le (by rw [← hWJ]; simp) hb.size⟩
   clear hWJ hbJ x0 x1 l1 y4 y2 y3 ly ly0
   go_loopg [25] p.sigs.length (fun g j wr => ∃ m : Nat, m ≤ p.sigs.length ∧ g = p.sigs.length - m ∧ j = .int .i64 m ∧ Below WJ.heap.size WJ wr ∧ ClearI p r i outs[i] m)
   case atStart => exact ⟨0, by omega, by omega, rfl, Below.refl _ _, fun i hi h => absurd h (by omega)⟩
   case round =>
    obtain ⟨m, hm2, rfl, rfl, hb, hA⟩ := hrel
    obtain ⟨w2o, rfl⟩ : ∃ wo : World, wo = wr := ⟨_, rfl⟩
    have HMB := Lib.hid hb
    have HMA := Lib.hid hA
    have HM0 : Hid (Below w.heap.size w w2o) := HBO.out.trans (hb.mono HBO.out.size)
    have HMW : Hid (Below W.heap.size W w2o) := HBJ.out.trans (hb.mono HBJ.out.size)
    clear hb hA
    by_cases hmt : m < p.sigs.length
    ·have hdm : decide ((m : Int) < (p.sigs.length : Int)) = true := by simp; omega
     obtain ⟨b2, off2, rfl, x0, x1, x2⟩ := (HG.out _ HM0.out).sg hmt
     have e0 : (0 : Int) ≤ (m : Int) := by omega
     have e1 : (m : Int) < (p.sigs.length : Int) := by omega
     have l1 := World.block_lt_of_cell? _ _ x0
     obtain ⟨j0, j1, lj⟩ := HJ.out _ HMB.out
     obtain ⟨y4, y2, y3, ly⟩ := HY.out _ HMW.out
     by_cases h1 : p.sigs[m].sec = outs[i].to
     ·have t1 : (p.sigs[m].sec == outs[i].to) = true := by rw [beq_iff_eq]; exact h1
      by_cases h2 : p.sigs[m].en = outs[i].en
      ·have t2 : (p.sigs[m].en == outs[i].en) = true := by rw [beq_iff_eq]; exact h2
       by_cases h3 : i + 1 < r.path.length
       ·have t3 : decide ((i : Int) < (r.path.length : Int) - 1) = true := by simp; omega
        have HE : Hid (B = false) := HB2.out false (by
         simp only [Bool.false_eq_true, false_iff]
         exact fun h => (HCI.out.1 h) i (by omega) hlt m hmt hmt ⟨h1, h2, .inl h3⟩)
        clear h1 h2 h3
        go_wp2_with fail
        go_ret
        exact ⟨rbool HE.out.symm, (HBO.out.trans (HMB.out.mono HBO.out.size)).alloc (Nat.le_trans HBO.out.size HMB.out.size) _⟩
       ·have t3 : decide ((i : Int) < (r.path.length : Int) - 1) = false := by simp; omega
        by_cases h4 : p.sigs[m].id = r.exit
        ·have t4 : (p.sigs[m].id != r.exit) = false := by simp [h4]
         have HG : Hid (¬ Blocks r i outs[i] p.sigs[m]) := fun h => h.2.2.elim (fun k => h3 k) (fun k => k h4)
         have HST : Hid (ClearI p r i outs[i] (m + 1)) := clearI_step hmt HMA.out HG.out
         clear h1 h2 h3 h4
         go_wp2_with fail
         go_roundg (p.sigs.length - (m + 1))
         case measure => go_light; omega
         case rel => go_light; exact ⟨m + 1, by omega, by omega, by go_num, HMB.out.alloc HMB.out.size _, HST.out⟩
        ·have t4 : (p.sigs[m].id != r.exit) = true := by simp [h4]
         have HE : Hid (B = false) := HB2.out false (by
          simp only [Bool.false_eq_true, false_iff]
          exact fun h => (HCI.out.1 h) i (by omega) hlt m hmt hmt ⟨h1, h2, .inr h4⟩)
         clear h1 h2 h3 h4
         go_wp2_with fail
         go_ret
         exact ⟨rbool HE.out.symm, (HBO.out.trans (HMB.out.mono HBO.out.size)).alloc (Nat.le_trans HBO.out.size HMB.out.size) _⟩
      ·have t2 : (p.sigs[m].en == outs[i].en) = false := by rw [beq_eq_false_iff_ne]; exact h2
       have HG : Hid (¬ Blocks r i outs[i] p.sigs[m]) := fun h => h2 h.2.1
       have HST : Hid (ClearI p r i outs[i] (m + 1)) := clearI_step hmt HMA.out HG.out
       clear h1 h2
       go_wp2_with fail
       go_roundg (p.sigs.length - (m + 1))
       case measure => go_light; omega
       case rel => go_light; exact ⟨m + 1, by omega, by omega, by go_num, HMB.out.alloc HMB.out.size _, HST.out⟩
     ·have t1 : (p.sigs[m].sec == outs[i].to) = false := by rw [beq_eq_false_iff_ne]; exact h1
      have HG : Hid (¬ Blocks r i outs[i] p.sigs[m]) := fun h => h1 h.1
      have HST : Hid (ClearI p r i outs[i] (m + 1)) := clearI_step hmt HMA.out HG.out
      clear h1
      go_wp2_with fail
      go_roundg (p.sigs.length - (m + 1))
      case measure => go_light; omega
      case rel => go_light; exact ⟨m + 1, by omega, by omega, by go_num, HMB.out.alloc HMB.out.size _, HST.out⟩
    ·obtain rfl : m = p.sigs.length := by omega
     have hdm : decide ((p.sigs.length : Int) < (p.sigs.length : Int)) = false := by simp
     have HST : Hid (ClearA p r outs (i + 1)) := clearA_step hio HA.out HMA.out
     go_wp2_with fail
     go_roundg (r.path.length - (i + 1))
     case measure => go_light; omega
     case rel => go_light; exact ⟨i + 1, by omega, by omega, by go_num, HMW.out, HST.out⟩
  ·obtain rfl : i = r.path.length := by omega
   have hdk : decide ((r.path.length : Int) < (r.path.length : Int)) = false := by simp
   have HE : Hid (B = true) := HB2.out true (by simp only [true_iff]; exact HA.out)
   go_wp2_with fail
   go_ret
   exact ⟨rbool HE.out.symm, HBW.out⟩
end Go.Proofs.YtbiehpjhhopjaaaGreat
namespace Go.Proofs.YtbiehpjhhopjaaaGreat
open Go.RowKit Go.Sort
def tabA : Array Value := #[.int .i64 0, .int .i64 3, .int .i64 0, .int .i64 3, .int .i64 0, .int .i64 0, .int .i64 0, .int .i64 0, .int .i64 0]
def tabB : Array Value := #[.int .i64 0, .int .i64 1, .int .i64 2, .int .i64 1, .int .i64 0, .int .i64 0, .int .i64 2, .int .i64 0, .int .i64 0]
theorem ways_any (s : Sec) (a : Option Addr) (c : Nat) (w : World) :
  Calls Tryz.prog 419 #[secV s a c] w fun e w' => e = .returned (.agg (if s.pt = 0 then tabA else tabB)) ∧ Below w.heap.size w w' := by
 unfold secV
 generalize s.ends.length = n at *
 generalize s.pt = q at *
 generalize s.id = z at *
 by_cases h0 : q = 0
 ·subst h0
  rw [if_pos rfl]
  go_enter Tryz.func419, Tryz.ntmps419
  go_wp2_with fail
  exact bodyPost_ret (v := .agg tabA) (by simp [results, Tryz.f419, go_sem, tabA]) rfl ⟨rfl, ((Below.refl _ _).alloc (Nat.le_refl _) _).alloc (by simp) _⟩
 ·have hd : (q == 0) = false := by rw [beq_eq_false_iff_ne]; exact h0
  rw [if_neg h0]
  clear h0
  go_enter Tryz.func419, Tryz.ntmps419
  go_wp2_with fail
  exact bodyPost_ret (v := .agg tabB) (by simp [results, Tryz.f419, go_sem, tabB]) rfl ⟨rfl, ((Below.refl _ _).alloc (Nat.le_refl _) _).alloc (by simp) _⟩
theorem ix481_0 (a b c d e f g h i : Int) (w : World) : Sem.run Tryz.prog (Instr.index 481 (.agg #[.int .i64 a, .int .i64 b, .int .i64 c, .int .i64 d, .int .i64 e, .int .i64 f, .int .i64 g, .int .i64 h, .int .i64 i]) (.int .i64 0)) w = .ok (.agg #[.int .i64 a, .int .i64 b, .int .i64 c]) w := by kernel_rfl
theorem ix481_1 (a b c d e f g h i : Int) (w : World) : Sem.run Tryz.prog (Instr.index 481 (.agg #[.int .i64 a, .int .i64 b, .int .i64 c, .int .i64 d, .int .i64 e, .int .i64 f, .int .i64 g, .int .i64 h, .int .i64 i]) (.int .i64 1)) w = .ok (.agg #[.int .i64 d, .int .i64 e, .int .i64 f]) w := by kernel_rfl
theorem ix481_2 (a b c d e f g h i : Int) (w : World) : Sem.run Tryz.prog (Instr.index 481 (.agg #[.int .i64 a, .int .i64 b, .int .i64 c, .int .i64 d, .int .i64 e, .int .i64 f, .int .i64 g, .int .i64 h, .int .i64 i]) (.int .i64 2)) w = .ok (.agg #[.int .i64 g, .int .i64 h, .int .i64 i]) w := by kernel_rfl
theorem ix479_0 (a b c : Int) (w : World) : Sem.run Tryz.prog (Instr.index 479 (.agg #[.int .i64 a, .int .i64 b, .int .i64 c]) (.int .i64 0)) w = .ok (.int .i64 a) w := by kernel_rfl
theorem ix479_1 (a b c : Int) (w : World) : Sem.run Tryz.prog (Instr.index 479 (.agg #[.int .i64 a, .int .i64 b, .int .i64 c]) (.int .i64 1)) w = .ok (.int .i64 b) w := by kernel_rfl
theorem ix479_2 (a b c : Int) (w : World) : Sem.run Tryz.prog (Instr.index 479 (.agg #[.int .i64 a, .int .i64 b, .int .i64 c]) (.int .i64 2)) w = .ok (.int .i64 c) w := by kernel_rfl
def ThrPost (w : World) (s : Sec) (x y : Int) (e : Ending) (w' : World) : Prop := e = .returned (.tuple #[.int .i64 (thrL s x y), .int .i64 (thrE s x y)]) ∧ Below w.heap.size w w'
theorem through_bad (s : Sec) (a : Option Addr) (c : Nat) (x y : Int) (w : World) (hs : ¬ s.Shaped) : Calls Tryz.prog 384 #[secV s a c, .int .i64 x, .int .i64 y] w (ThrPost w s x y) := by
 have hE : thrE s x y = 8 := by unfold thrE; rw [if_pos hs]
 have hL : thrL s x y = 0 := by unfold thrL; rw [hE]; rfl
 unfold ThrPost
 rw [hE, hL]
 have HC := Lib.hid (fun w => shaped_any s a c w)
 have hd : decide s.Shaped = false := decide_eq_false hs
 rw [hd] at HC
 unfold secV at *
 clear hE hL hs hd
 go_enter Tryz.func384, Tryz.ntmps384
 go_wp2_with fail
 refine (HC.out _).mono ?_
 rintro e w1 ⟨rfl, hb1⟩
 have K1 : Hid (Below w.heap.size w w1) := ((Below.refl _ _).alloc (Nat.le_refl _) _).trans (hb1.mono (by simp))
 clear hb1 HC
 go_wp2_with fail
 exact bodyPost_ret (v := .tuple #[.int .i64 0, .int .i64 8]) (by simp [results, Tryz.f384, go_sem]) rfl ⟨rfl, K1.out⟩
theorem through_out (s : Sec) (a : Option Addr) (c : Nat) (x y : Int) (w : World) (hs : s.Shaped) (hr : x < 0 ∨ 2 < x ∨ y < 0 ∨ 2 < y) : Calls Tryz.prog 384 #[secV s a c, .int .i64 x, .int .i64 y] w (ThrPost w s x y) := by
 have hE : thrE s x y = 2 := by
  unfold thrE
  rw [if_neg (fun h => h hs), if_pos]
  rcases hr with h | h | h | h
  ·exact .inl h
  ·exact .inr (.inl h)
  ·exact .inr (.inr (.inl h))
  ·exact .inr (.inr (.inr (.inl h)))
 have hL : thrL s x y = 0 := by unfold thrL; rw [hE]; rfl
 unfold ThrPost
 rw [hE, hL]
 have HC := Lib.hid (fun w => shaped_any s a c w)
 have hd : decide s.Shaped = true := decide_eq_true hs
 rw [hd] at HC
 unfold secV at *
 have HR := Lib.hid hr
 clear hE hL hs hd hr
 go_enter Tryz.func384, Tryz.ntmps384
 go_wp2_with fail
 refine (HC.out _).mono ?_
 rintro e w1 ⟨rfl, hb1⟩
 have K1 : Hid (Below w.heap.size w w1) := ((Below.refl _ _).alloc (Nat.le_refl _) _).trans (hb1.mono (by simp))
 clear hb1 HC
 by_cases h1 : x < 0
 ·have t1 : decide (x < 0) = true := by simpa using h1
  clear h1
  go_wp2_with fail
  exact bodyPost_ret (v := .tuple #[.int .i64 0, .int .i64 2]) (by simp [results, Tryz.f384, go_sem]) rfl ⟨rfl, K1.out⟩
 ·have t1 : decide (x < 0) = false := by simpa using h1
  by_cases h2 : 2 < x
  ·have t2 : decide (2 < x) = true := by simpa using h2
   clear h1 h2
   go_wp2_with fail
   exact bodyPost_ret (v := .tuple #[.int .i64 0, .int .i64 2]) (by simp [results, Tryz.f384, go_sem]) rfl ⟨rfl, K1.out⟩
  ·have t2 : decide (2 < x) = false := by simpa using h2
   by_cases h3 : y < 0
   ·have t3 : decide (y < 0) = true := by simpa using h3
    clear h1 h2 h3
    go_wp2_with fail
    exact bodyPost_ret (v := .tuple #[.int .i64 0, .int .i64 2]) (by simp [results, Tryz.f384, go_sem]) rfl ⟨rfl, K1.out⟩
   ·have t3 : decide (y < 0) = false := by simpa using h3
    have t4 : decide (2 < y) = true := by have := HR.out; simp only [decide_eq_true_eq]; omega
    clear h1 h2 h3
    go_wp2_with fail
    exact bodyPost_ret (v := .tuple #[.int .i64 0, .int .i64 2]) (by simp [results, Tryz.f384, go_sem]) rfl ⟨rfl, K1.out⟩
set_option maxRecDepth 100000 in
set_option maxHeartbeats 8000000 in
theorem through_in (s : Sec) (a : Option Addr) (c : Nat) (x y : Int) (w : World) (hs : s.Shaped) (hx : x = 0 ∨ x = 1 ∨ x = 2) (hy : y = 0 ∨ y = 1 ∨ y = 2) : Calls Tryz.prog 384 #[secV s a c, .int .i64 x, .int .i64 y] w (ThrPost w s x y) := by
 have j0 := ix481_0
 have j1 := ix481_1
 have j2 := ix481_2
 have m0 := ix479_0
 have m1 := ix479_1
 have m2 := ix479_2
 have HC := Lib.hid (fun w => shaped_any s a c w)
 have HW := Lib.hid (fun w => ways_any s a c w)
 have hd : decide s.Shaped = true := decide_eq_true hs
 rw [hd] at HC
 have HE : Hid (thrE s x y = if x < 0 ∨ 2 < x ∨ y < 0 ∨ 2 < y ∨ lieTab s.pt x y = 0 then 2 else 0) := by show _ = _; unfold thrE; rw [if_neg (fun h => h hs)]
 have HL : Hid (thrL s x y = if thrE s x y = 0 then (lieTab s.pt x y).tmod 3 else 0) := rfl
 have HT : Hid (lieTab s.pt x y = if s.pt = 0 then (if (x = 0 ∧ y = 1) ∨ (x = 1 ∧ y = 0) then 3 else 0)
 else if (x = 0 ∧ y = 1) ∨ (x = 1 ∧ y = 0) then 1
 else if (x = 0 ∧ y = 2) ∨ (x = 2 ∧ y = 0) then 2 else 0) := rfl
 unfold ThrPost
 clear hs hd
 generalize lieTab s.pt x y = T at *
 generalize thrL s x y = TL at *
 generalize thrE s x y = TE at *
 unfold secV at *
 generalize s.pt = q at *
 by_cases hp : q = 0
 ·subst hp
  rw [if_pos rfl] at HW HT
  unfold tabA at *
  rcases hx with rfl | rfl | rfl <;> rcases hy with rfl | rfl | rfl
  all_goals
   have hT := HT.out
   simp at hT
   subst hT
   have hE := HE.out
   simp at hE
   subst hE
   have hL := HL.out
   simp at hL
   subst hL
   clear HE HL HT
   go_enter Tryz.func384, Tryz.ntmps384
   go_wp2_with fail
   refine (HC.out _).mono ?_
   rintro e w1 ⟨rfl, hb1⟩
   have K1 : Hid (Below w.heap.size w w1) := ((Below.refl _ _).alloc (Nat.le_refl _) _).trans (hb1.mono (by simp))
   have z0 : w1.cell? ⟨w.heap.size, 0, none⟩ = some (.int .i64 s.id) := ccell hb1 (by simp)
   have z1 : w1.cell? ⟨w.heap.size, 1, none⟩ = some (.int .i64 0) := ccell hb1 (by simp)
   have z2 : w1.cell? ⟨w.heap.size, 2, none⟩ = some (.slice a s.ends.length c) := ccell hb1 (by simp)
   clear hb1 HC
   go_wp2_with fail
   refine (HW.out _).mono ?_
   rintro e w2 ⟨rfl, hb2⟩
   have K2 : Hid (Below w.heap.size w w2) := K1.out.trans (hb2.mono K1.out.size)
   have z0 : w2.cell? ⟨w.heap.size, 0, none⟩ = some (.int .i64 s.id) := ccell hb2 z0
   have z1 : w2.cell? ⟨w.heap.size, 1, none⟩ = some (.int .i64 0) := ccell hb2 z1
   have z2 : w2.cell? ⟨w.heap.size, 2, none⟩ = some (.slice a s.ends.length c) := ccell hb2 z2
   clear hb2
   go_wp2_with fail
   first
    | exact bodyPost_ret (v := .tuple #[.int .i64 0, .int .i64 2]) (by simp [results, Tryz.f384, go_sem]) rfl ⟨rfl, K2.out⟩
    | (refine (HW.out _).mono ?_
       rintro e w3 ⟨rfl, hb3⟩
       have K3 : Hid (Below w.heap.size w w3) := K2.out.trans (hb3.mono K2.out.size)
       clear hb3 HW
       go_wp2_with fail
       exact bodyPost_ret (v := .tuple #[.int .i64 _, .int .i64 0]) (by simp [results, Tryz.f384, go_sem]) rfl ⟨rfl, K3.out⟩)
 ·rw [if_neg hp] at HW HT
  unfold tabB at *
  clear hp
  rcases hx with rfl | rfl | rfl <;> rcases hy with rfl | rfl | rfl
  all_goals
   have hT := HT.out
   simp at hT
   subst hT
   have hE := HE.out
   simp at hE
   subst hE
   have hL := HL.out
   simp at hL
   subst hL
   clear HE HL HT
   go_enter Tryz.func384, Tryz.ntmps384
   go_wp2_with fail
   refine (HC.out _).mono ?_
   rintro e w1 ⟨rfl, hb1⟩
   have K1 : Hid (Below w.heap.size w w1) := ((Below.refl _ _).alloc (Nat.le_refl _) _).trans (hb1.mono (by simp))
   have z0 : w1.cell? ⟨w.heap.size, 0, none⟩ = some (.int .i64 s.id) := ccell hb1 (by simp)
   have z1 : w1.cell? ⟨w.heap.size, 1, none⟩ = some (.int .i64 q) := ccell hb1 (by simp)
   have z2 : w1.cell? ⟨w.heap.size, 2, none⟩ = some (.slice a s.ends.length c) := ccell hb1 (by simp)
   clear hb1 HC
   go_wp2_with fail
   refine (HW.out _).mono ?_
   rintro e w2 ⟨rfl, hb2⟩
   have K2 : Hid (Below w.heap.size w w2) := K1.out.trans (hb2.mono K1.out.size)
   have z0 : w2.cell? ⟨w.heap.size, 0, none⟩ = some (.int .i64 s.id) := ccell hb2 z0
   have z1 : w2.cell? ⟨w.heap.size, 1, none⟩ = some (.int .i64 q) := ccell hb2 z1
   have z2 : w2.cell? ⟨w.heap.size, 2, none⟩ = some (.slice a s.ends.length c) := ccell hb2 z2
   clear hb2
   go_wp2_with fail
   first
    | exact bodyPost_ret (v := .tuple #[.int .i64 0, .int .i64 2]) (by simp [results, Tryz.f384, go_sem]) rfl ⟨rfl, K2.out⟩
    | (refine (HW.out _).mono ?_
       rintro e w3 ⟨rfl, hb3⟩
       have K3 : Hid (Below w.heap.size w w3) := K2.out.trans (hb3.mono K2.out.size)
       clear hb3 HW
       go_wp2_with fail
       exact bodyPost_ret (v := .tuple #[.int .i64 _, .int .i64 0]) (by simp [results, Tryz.f384, go_sem]) rfl ⟨rfl, K3.out⟩)
theorem trackthrough_any (s : Sec) (a : Option Addr) (c : Nat) (x y : Int) (w : World) : Calls Tryz.prog 384 #[secV s a c, .int .i64 x, .int .i64 y] w (ThrPost w s x y) := by
 by_cases hs : s.Shaped
 ·by_cases hr : x < 0 ∨ 2 < x ∨ y < 0 ∨ 2 < y
  ·exact through_out s a c x y w hs hr
  ·exact through_in s a c x y w hs (by omega) (by omega)
 ·exact through_bad s a c x y w hs
end Go.Proofs.YtbiehpjhhopjaaaGreat
