/-
 slices.EqualFunc, walked for whatever function value. (Written by wip/tools/gen_eqfn.py.)
 state.phase, and what a grip asks of each pair, walked. (Written by wip/tools/gen_sd.py.)
-/
import Derived.Test.YtbiehpjhhopjaaaGreatTIxfn
import Derived.Test.YtbiehpjhhopjaaaGreatTPlanF
import Derived.Test.YtbiehpjhhopjaaaGreatTData
set_option linter.unusedVariables false
namespace Go.Proofs.YtbiehpjhhopjaaaGreat
open Go.RowKit Go.Sort
def SaysTkSec (f : FuncId) (caps : Array Value) (R : Tk → Sec → Prop) [∀ a b, Decidable (R a b)] (l : List Tk) (m : List Sec) (w : World) : Prop :=
 ∀ W i (h : i < l.length) (h' : i < m.length) (s1 : Option Addr) (d1 : Nat), Below w.heap.size w W → Calls Tryz.prog f (#[.agg #[.int .i64 l[i].id, .int .u8 l[i].is], .agg #[.int .i64 m[i].id, .int .i64 m[i].pt, .slice s1 m[i].ends.length d1]] ++ caps) W (BoolPost W (decide (R l[i] m[i])))
set_option maxRecDepth 100000 in
set_option maxHeartbeats 2000000 in
theorem eqfnTk (f : FuncId) (caps : Array Value) (R : Tk → Sec → Prop) [∀ a b, Decidable (R a b)] (a1 a2 : Option Addr) (c1 c2 : Nat) (l : List Tk) (m : List Sec) (w : World) (hl : SlA w 2 RTk a1 c1 l) (hm : SlA w 3 RSec a2 c2 m) (h1 : l.length ≤ 1000) (h2 : m.length ≤ 1000) (hf : PlainF f) (hcl : SaysTkSec f caps R l m w) :
  Calls Tryz.prog 284 #[.slice a1 l.length c1, .slice a2 m.length c2, .func (.func f) #[] caps] w (BoolPost w (decide (Pairs R l m))) := by
 have HL : Hid (∀ w', Below w.heap.size w w' → SlA w' 2 RTk a1 c1 l) := fun w' hb => hl.below keeps_tk hb
 have HM : Hid (∀ w', Below w.heap.size w w' → SlA w' 3 RSec a2 c2 m) := fun w' hb => hm.below keeps_sec hb
 have hcf : ∀ (args : Array Value) (w : World), Sem.run Tryz.prog (callFunc f args) w = .ok (.enter f args) w := hf
 have HCL := Lib.hid hcl
 have HE : Hid (Pairs R l m ↔ (l.length = m.length ∧ PairsTo R l m l.length)) := Iff.rfl
 have HZ : Hid (∀ b, (b = true ↔ Pairs R l m) → decide (Pairs R l m) = b) := fun b hb => by rw [Bool.eq_iff_iff, decide_eq_true_iff]; exact hb.symm
 generalize decide (Pairs R l m) = Z at *
 clear hl hm hcl hf
 by_cases hlm0 : l.length = m.length
 ·have e0 : ((l.length : Int) != (m.length : Int)) = false := by simp [hlm0]
  have HLM := Lib.hid hlm0
  clear hlm0
  go_enter Tryz.func284, Tryz.ntmps284
  go_wp2_with fail
  go_loopg [17] l.length (fun g i wr => ∃ k : Nat, k ≤ l.length ∧ g = l.length - k ∧ i = .int .i64 k ∧ Below w.heap.size w wr ∧ PairsTo R l m k)
  case atStart => exact ⟨0, by omega, by omega, rfl, Below.refl _ _, fun i _ _ h => by omega⟩
  case round =>
   obtain ⟨k, hk, rfl, rfl, hb, hno⟩ := hrel
   obtain ⟨wo, rfl⟩ : ∃ wo : World, wo = wr := ⟨_, rfl⟩
   have HB := Lib.hid hb
   have HNO := Lib.hid hno
   clear hb hno
   by_cases hlt : k < l.length
   ·have hlm : k < m.length := by have := HLM.out; omega
    have hd : decide ((k : Int) < (l.length : Int)) = true := by simp; omega
    obtain ⟨b1, off1, rfl, x0, x1⟩ := (HL.out _ HB.out).tk hlt
    obtain ⟨b2, off2, s1, d1, rfl, y0, y1, y2, hym⟩ := (HM.out _ HB.out).sec hlm
    have i0 : (0 : Int) ≤ (k : Int) := by omega
    have i1 : (k : Int) < (l.length : Int) := by omega
    have i2 : (k : Int) < (m.length : Int) := by omega
    have l1 := World.block_lt_of_cell? _ _ x0
    have l2 := World.block_lt_of_cell? _ _ y0
    clear hym
    have HC : Hid (∀ W', Below wo.heap.size wo W' → Calls Tryz.prog f (#[.agg #[.int .i64 l[k].id, .int .u8 l[k].is], .agg #[.int .i64 m[k].id, .int .i64 m[k].pt, .slice s1 m[k].ends.length d1]] ++ caps) W' (BoolPost W' (decide (R l[k] m[k])))) := fun W' hb => HCL.out W' k hlt hlm s1 d1 (HB.out.trans (hb.mono HB.out.size))
    go_upto_region 7 with fail
    generalize hW : (wo.alloc _).alloc _ = W
    have hbW : Below wo.heap.size wo W := by rw [← hW]; exact ((Below.refl _ _).alloc (Nat.le_refl _) _).alloc (by simp) _
    have KW : Hid (Below w.heap.size w W) := HB.out.trans (hbW.mono HB.out.size)
    have HCW := Lib.hid (HC.out W hbW)
    have p0 : W.cell? ⟨wo.heap.size, 0, none⟩ = some (.int .i64 l[k].id) := by rw [← hW]; simp
    have p1 : W.cell? ⟨wo.heap.size, 1, none⟩ = some (.int .u8 l[k].is) := by rw [← hW]; simp
    have q0 : W.cell? ⟨wo.heap.size + 1, 0, none⟩ = some (.int .i64 m[k].id) := by rw [← hW]; simp
    have q1 : W.cell? ⟨wo.heap.size + 1, 1, none⟩ = some (.int .i64 m[k].pt) := by rw [← hW]; simp
    have q2 : W.cell? ⟨wo.heap.size + 1, 2, none⟩ = some (.slice s1 m[k].ends.length d1) := by rw [← hW]; simp
    clear hW hbW x0 x1 y0 y1 y2 l1 l2 HC
    by_cases hr : R l[k] m[k]
    ·have hdr := decide_eq_true hr
     rw [hdr] at HCW
     have HS := Lib.hid (pairsTo_step hlt hlm HNO.out hr)
     clear hr hdr
     go_wp2_with fail
     refine HCW.out.mono ?_
     rintro e w1 ⟨rfl, hb1⟩
     have K1 : Hid (Below w.heap.size w w1) := KW.out.trans (hb1.mono KW.out.size)
     clear hb1 HCW p0 q0
     go_wp2_with fail
     go_roundg (l.length - (k + 1))
     case measure => go_light; omega
     case rel => go_light; exact ⟨k + 1, by omega, by omega, by go_num, K1.out, HS.out⟩
    ·have hdr := decide_eq_false hr
     rw [hdr] at HCW
     have HS : Hid (Z = false) := HZ.out false (by rw [HE.out]; simp only [Bool.false_eq_true, false_iff]; exact fun h => hr (h.2 k hlt hlm hlt))
     clear hr hdr
     go_wp2_with fail
     refine HCW.out.mono ?_
     rintro e w1 ⟨rfl, hb1⟩
     have K1 : Hid (Below w.heap.size w w1) := KW.out.trans (hb1.mono KW.out.size)
     clear hb1 HCW p0 q0
     go_wp2_with fail
     go_ret
     exact ⟨rbool HS.out.symm, K1.out⟩
   ·obtain rfl : k = l.length := by omega
    have hd : decide ((l.length : Int) < (l.length : Int)) = false := by simp
    have HS : Hid (Z = true) := HZ.out true (by rw [HE.out]; simp only [true_iff]; exact ⟨HLM.out, HNO.out⟩)
    go_wp2_with fail
    go_ret
    exact ⟨rbool HS.out.symm, HB.out⟩
 ·have e0 : ((l.length : Int) != (m.length : Int)) = true := by simp; omega
  have HS : Hid (Z = false) := HZ.out false (by rw [HE.out]; simp only [Bool.false_eq_true, false_iff]; exact fun h => hlm0 h.1)
  clear hlm0
  go_enter Tryz.func284, Tryz.ntmps284
  go_wp2_with fail
  go_ret
  exact ⟨rbool HS.out.symm, Below.refl _ _⟩
def SaysSwPt (f : FuncId) (caps : Array Value) (R : Sw → Pt → Prop) [∀ a b, Decidable (R a b)] (l : List Sw) (m : List Pt) (w : World) : Prop :=
 ∀ W i (h : i < l.length) (h' : i < m.length), Below w.heap.size w W → Calls Tryz.prog f (#[.agg #[.int .i64 l[i].id, .int .i64 l[i].lie, .int .i64 l[i].call], .agg #[.int .i64 m[i].id, .int .i64 m[i].sec]] ++ caps) W (BoolPost W (decide (R l[i] m[i])))
set_option maxRecDepth 100000 in
set_option maxHeartbeats 2000000 in
theorem eqfnSw (f : FuncId) (caps : Array Value) (R : Sw → Pt → Prop) [∀ a b, Decidable (R a b)] (a1 a2 : Option Addr) (c1 c2 : Nat) (l : List Sw) (m : List Pt) (w : World) (hl : SlA w 3 RSw a1 c1 l) (hm : SlA w 2 RPt a2 c2 m) (h1 : l.length ≤ 1000) (h2 : m.length ≤ 1000) (hf : PlainF f) (hcl : SaysSwPt f caps R l m w) :
  Calls Tryz.prog 286 #[.slice a1 l.length c1, .slice a2 m.length c2, .func (.func f) #[] caps] w (BoolPost w (decide (Pairs R l m))) := by
 have HL : Hid (∀ w', Below w.heap.size w w' → SlA w' 3 RSw a1 c1 l) := fun w' hb => hl.below keeps_sw hb
 have HM : Hid (∀ w', Below w.heap.size w w' → SlA w' 2 RPt a2 c2 m) := fun w' hb => hm.below keeps_pt hb
 have hcf : ∀ (args : Array Value) (w : World), Sem.run Tryz.prog (callFunc f args) w = .ok (.enter f args) w := hf
 have HCL := Lib.hid hcl
 have HE : Hid (Pairs R l m ↔ (l.length = m.length ∧ PairsTo R l m l.length)) := Iff.rfl
 have HZ : Hid (∀ b, (b = true ↔ Pairs R l m) → decide (Pairs R l m) = b) := fun b hb => by rw [Bool.eq_iff_iff, decide_eq_true_iff]; exact hb.symm
 generalize decide (Pairs R l m) = Z at *
 clear hl hm hcl hf
 by_cases hlm0 : l.length = m.length
 ·have e0 : ((l.length : Int) != (m.length : Int)) = false := by simp [hlm0]
  have HLM := Lib.hid hlm0
  clear hlm0
  go_enter Tryz.func286, Tryz.ntmps286
  go_wp2_with fail
  go_loopg [17] l.length (fun g i wr => ∃ k : Nat, k ≤ l.length ∧ g = l.length - k ∧ i = .int .i64 k ∧ Below w.heap.size w wr ∧ PairsTo R l m k)
  case atStart => exact ⟨0, by omega, by omega, rfl, Below.refl _ _, fun i _ _ h => by omega⟩
  case round =>
   obtain ⟨k, hk, rfl, rfl, hb, hno⟩ := hrel
   obtain ⟨wo, rfl⟩ : ∃ wo : World, wo = wr := ⟨_, rfl⟩
   have HB := Lib.hid hb
   have HNO := Lib.hid hno
   clear hb hno
   by_cases hlt : k < l.length
   ·have hlm : k < m.length := by have := HLM.out; omega
    have hd : decide ((k : Int) < (l.length : Int)) = true := by simp; omega
    obtain ⟨b1, off1, rfl, x0, x1, x2⟩ := (HL.out _ HB.out).sw hlt
    obtain ⟨b2, off2, rfl, y0, y1⟩ := (HM.out _ HB.out).pt hlm
    have i0 : (0 : Int) ≤ (k : Int) := by omega
    have i1 : (k : Int) < (l.length : Int) := by omega
    have i2 : (k : Int) < (m.length : Int) := by omega
    have l1 := World.block_lt_of_cell? _ _ x0
    have l2 := World.block_lt_of_cell? _ _ y0
    skip
    have HC : Hid (∀ W', Below wo.heap.size wo W' → Calls Tryz.prog f (#[.agg #[.int .i64 l[k].id, .int .i64 l[k].lie, .int .i64 l[k].call], .agg #[.int .i64 m[k].id, .int .i64 m[k].sec]] ++ caps) W' (BoolPost W' (decide (R l[k] m[k])))) := fun W' hb => HCL.out W' k hlt hlm  (HB.out.trans (hb.mono HB.out.size))
    go_upto_region 7 with fail
    generalize hW : (wo.alloc _).alloc _ = W
    have hbW : Below wo.heap.size wo W := by rw [← hW]; exact ((Below.refl _ _).alloc (Nat.le_refl _) _).alloc (by simp) _
    have KW : Hid (Below w.heap.size w W) := HB.out.trans (hbW.mono HB.out.size)
    have HCW := Lib.hid (HC.out W hbW)
    have p0 : W.cell? ⟨wo.heap.size, 0, none⟩ = some (.int .i64 l[k].id) := by rw [← hW]; simp
    have p1 : W.cell? ⟨wo.heap.size, 1, none⟩ = some (.int .i64 l[k].lie) := by rw [← hW]; simp
    have p2 : W.cell? ⟨wo.heap.size, 2, none⟩ = some (.int .i64 l[k].call) := by rw [← hW]; simp
    have q0 : W.cell? ⟨wo.heap.size + 1, 0, none⟩ = some (.int .i64 m[k].id) := by rw [← hW]; simp
    have q1 : W.cell? ⟨wo.heap.size + 1, 1, none⟩ = some (.int .i64 m[k].sec) := by rw [← hW]; simp
    clear hW hbW x0 x1 x2 y0 y1 l1 l2 HC
    by_cases hr : R l[k] m[k]
    ·have hdr := decide_eq_true hr
     rw [hdr] at HCW
     have HS := Lib.hid (pairsTo_step hlt hlm HNO.out hr)
     clear hr hdr
     go_wp2_with fail
     refine HCW.out.mono ?_
     rintro e w1 ⟨rfl, hb1⟩
     have K1 : Hid (Below w.heap.size w w1) := KW.out.trans (hb1.mono KW.out.size)
     clear hb1 HCW p0 q0
     go_wp2_with fail
     go_roundg (l.length - (k + 1))
     case measure => go_light; omega
     case rel => go_light; exact ⟨k + 1, by omega, by omega, by go_num, K1.out, HS.out⟩
    ·have hdr := decide_eq_false hr
     rw [hdr] at HCW
     have HS : Hid (Z = false) := HZ.out false (by rw [HE.out]; simp only [Bool.false_eq_true, false_iff]; exact fun h => hr (h.2 k hlt hlm hlt))
     clear hr hdr
     go_wp2_with fail
     refine HCW.out.mono ?_
     rintro e w1 ⟨rfl, hb1⟩
     have K1 : Hid (Below w.heap.size w w1) := KW.out.trans (hb1.mono KW.out.size)
     clear hb1 HCW p0 q0
     go_wp2_with fail
     go_ret
     exact ⟨rbool HS.out.symm, K1.out⟩
   ·obtain rfl : k = l.length := by omega
    have hd : decide ((l.length : Int) < (l.length : Int)) = false := by simp
    have HS : Hid (Z = true) := HZ.out true (by rw [HE.out]; simp only [true_iff]; exact ⟨HLM.out, HNO.out⟩)
    go_wp2_with fail
    go_ret
    exact ⟨rbool HS.out.symm, HB.out⟩
 ·have e0 : ((l.length : Int) != (m.length : Int)) = true := by simp; omega
  have HS : Hid (Z = false) := HZ.out false (by rw [HE.out]; simp only [Bool.false_eq_true, false_iff]; exact fun h => hlm0 h.1)
  clear hlm0
  go_enter Tryz.func286, Tryz.ntmps286
  go_wp2_with fail
  go_ret
  exact ⟨rbool HS.out.symm, Below.refl _ _⟩
def SaysLkRt (f : FuncId) (caps : Array Value) (R : Lk → Rt → Prop) [∀ a b, Decidable (R a b)] (l : List Lk) (m : List Rt) (w : World) : Prop :=
 ∀ W i (h : i < l.length) (h' : i < m.length) (s1 : Option Addr) (d1 : Nat) (s2 : Option Addr) (d2 : Nat) (s3 : Option Addr) (d3 : Nat), Below w.heap.size w W → Calls Tryz.prog f (#[.agg #[.int .i64 l[i].id, .int .u8 l[i].ph, .int .i64 l[i].gone, .int .i64 l[i].left], .agg #[.int .i64 m[i].id, .int .i64 m[i].entry, .int .i64 m[i].exit, .slice s1 m[i].path.length d1, .slice s2 m[i].over.length d2, .slice s3 m[i].fl.length d3, .int .i64 m[i].timer]] ++ caps) W (BoolPost W (decide (R l[i] m[i])))
set_option maxRecDepth 100000 in
set_option maxHeartbeats 2000000 in
theorem eqfnLk (f : FuncId) (caps : Array Value) (R : Lk → Rt → Prop) [∀ a b, Decidable (R a b)] (a1 a2 : Option Addr) (c1 c2 : Nat) (l : List Lk) (m : List Rt) (w : World) (hl : SlA w 4 RLk a1 c1 l) (hm : SlA w 7 RRt a2 c2 m) (h1 : l.length ≤ 1000) (h2 : m.length ≤ 1000) (hf : PlainF f) (hcl : SaysLkRt f caps R l m w) :
  Calls Tryz.prog 288 #[.slice a1 l.length c1, .slice a2 m.length c2, .func (.func f) #[] caps] w (BoolPost w (decide (Pairs R l m))) := by
 have HL : Hid (∀ w', Below w.heap.size w w' → SlA w' 4 RLk a1 c1 l) := fun w' hb => hl.below keeps_lk hb
 have HM : Hid (∀ w', Below w.heap.size w w' → SlA w' 7 RRt a2 c2 m) := fun w' hb => hm.below keeps_rt hb
 have hcf : ∀ (args : Array Value) (w : World), Sem.run Tryz.prog (callFunc f args) w = .ok (.enter f args) w := hf
 have HCL := Lib.hid hcl
 have HE : Hid (Pairs R l m ↔ (l.length = m.length ∧ PairsTo R l m l.length)) := Iff.rfl
 have HZ : Hid (∀ b, (b = true ↔ Pairs R l m) → decide (Pairs R l m) = b) := fun b hb => by rw [Bool.eq_iff_iff, decide_eq_true_iff]; exact hb.symm
 generalize decide (Pairs R l m) = Z at *
 clear hl hm hcl hf
 by_cases hlm0 : l.length = m.length
 ·have e0 : ((l.length : Int) != (m.length : Int)) = false := by simp [hlm0]
  have HLM := Lib.hid hlm0
  clear hlm0
  go_enter Tryz.func288, Tryz.ntmps288
  go_wp2_with fail
  go_loopg [17] l.length (fun g i wr => ∃ k : Nat, k ≤ l.length ∧ g = l.length - k ∧ i = .int .i64 k ∧ Below w.heap.size w wr ∧ PairsTo R l m k)
  case atStart => exact ⟨0, by omega, by omega, rfl, Below.refl _ _, fun i _ _ h => by omega⟩
  case round =>
   obtain ⟨k, hk, rfl, rfl, hb, hno⟩ := hrel
   obtain ⟨wo, rfl⟩ : ∃ wo : World, wo = wr := ⟨_, rfl⟩
   have HB := Lib.hid hb
   have HNO := Lib.hid hno
   clear hb hno
   by_cases hlt : k < l.length
   ·have hlm : k < m.length := by have := HLM.out; omega
    have hd : decide ((k : Int) < (l.length : Int)) = true := by simp; omega
    obtain ⟨b1, off1, rfl, x0, x1, x2, x3⟩ := (HL.out _ HB.out).lk hlt
    obtain ⟨b2, off2, vp, vo, vf, rfl, y0, y1, y2, y3, y4, y5, y6, hym⟩ := (HM.out _ HB.out).rt hlm
    obtain ⟨s1, d1, rfl, -⟩ := hym.path.at_
    obtain ⟨s2, d2, rfl, -⟩ := hym.over.at_
    obtain ⟨s3, d3, rfl, -⟩ := hym.fl
    have i0 : (0 : Int) ≤ (k : Int) := by omega
    have i1 : (k : Int) < (l.length : Int) := by omega
    have i2 : (k : Int) < (m.length : Int) := by omega
    have l1 := World.block_lt_of_cell? _ _ x0
    have l2 := World.block_lt_of_cell? _ _ y0
    clear hym
    have HC : Hid (∀ W', Below wo.heap.size wo W' → Calls Tryz.prog f (#[.agg #[.int .i64 l[k].id, .int .u8 l[k].ph, .int .i64 l[k].gone, .int .i64 l[k].left], .agg #[.int .i64 m[k].id, .int .i64 m[k].entry, .int .i64 m[k].exit, .slice s1 m[k].path.length d1, .slice s2 m[k].over.length d2, .slice s3 m[k].fl.length d3, .int .i64 m[k].timer]] ++ caps) W' (BoolPost W' (decide (R l[k] m[k])))) := fun W' hb => HCL.out W' k hlt hlm s1 d1 s2 d2 s3 d3 (HB.out.trans (hb.mono HB.out.size))
    go_upto_region 7 with fail
    generalize hW : (wo.alloc _).alloc _ = W
    have hbW : Below wo.heap.size wo W := by rw [← hW]; exact ((Below.refl _ _).alloc (Nat.le_refl _) _).alloc (by simp) _
    have KW : Hid (Below w.heap.size w W) := HB.out.trans (hbW.mono HB.out.size)
    have HCW := Lib.hid (HC.out W hbW)
    have p0 : W.cell? ⟨wo.heap.size, 0, none⟩ = some (.int .i64 l[k].id) := by rw [← hW]; simp
    have p1 : W.cell? ⟨wo.heap.size, 1, none⟩ = some (.int .u8 l[k].ph) := by rw [← hW]; simp
    have p2 : W.cell? ⟨wo.heap.size, 2, none⟩ = some (.int .i64 l[k].gone) := by rw [← hW]; simp
    have p3 : W.cell? ⟨wo.heap.size, 3, none⟩ = some (.int .i64 l[k].left) := by rw [← hW]; simp
    have q0 : W.cell? ⟨wo.heap.size + 1, 0, none⟩ = some (.int .i64 m[k].id) := by rw [← hW]; simp
    have q1 : W.cell? ⟨wo.heap.size + 1, 1, none⟩ = some (.int .i64 m[k].entry) := by rw [← hW]; simp
    have q2 : W.cell? ⟨wo.heap.size + 1, 2, none⟩ = some (.int .i64 m[k].exit) := by rw [← hW]; simp
    have q3 : W.cell? ⟨wo.heap.size + 1, 3, none⟩ = some (.slice s1 m[k].path.length d1) := by rw [← hW]; simp
    have q4 : W.cell? ⟨wo.heap.size + 1, 4, none⟩ = some (.slice s2 m[k].over.length d2) := by rw [← hW]; simp
    have q5 : W.cell? ⟨wo.heap.size + 1, 5, none⟩ = some (.slice s3 m[k].fl.length d3) := by rw [← hW]; simp
    have q6 : W.cell? ⟨wo.heap.size + 1, 6, none⟩ = some (.int .i64 m[k].timer) := by rw [← hW]; simp
    clear hW hbW x0 x1 x2 x3 y0 y1 y2 y3 y4 y5 y6 l1 l2 HC
    by_cases hr : R l[k] m[k]
    ·have hdr := decide_eq_true hr
     rw [hdr] at HCW
     have HS := Lib.hid (pairsTo_step hlt hlm HNO.out hr)
     clear hr hdr
     go_wp2_with fail
     refine HCW.out.mono ?_
     rintro e w1 ⟨rfl, hb1⟩
     have K1 : Hid (Below w.heap.size w w1) := KW.out.trans (hb1.mono KW.out.size)
     clear hb1 HCW p0 q0
     go_wp2_with fail
     go_roundg (l.length - (k + 1))
     case measure => go_light; omega
     case rel => go_light; exact ⟨k + 1, by omega, by omega, by go_num, K1.out, HS.out⟩
    ·have hdr := decide_eq_false hr
     rw [hdr] at HCW
     have HS : Hid (Z = false) := HZ.out false (by rw [HE.out]; simp only [Bool.false_eq_true, false_iff]; exact fun h => hr (h.2 k hlt hlm hlt))
     clear hr hdr
     go_wp2_with fail
     refine HCW.out.mono ?_
     rintro e w1 ⟨rfl, hb1⟩
     have K1 : Hid (Below w.heap.size w w1) := KW.out.trans (hb1.mono KW.out.size)
     clear hb1 HCW p0 q0
     go_wp2_with fail
     go_ret
     exact ⟨rbool HS.out.symm, K1.out⟩
   ·obtain rfl : k = l.length := by omega
    have hd : decide ((l.length : Int) < (l.length : Int)) = false := by simp
    have HS : Hid (Z = true) := HZ.out true (by rw [HE.out]; simp only [true_iff]; exact ⟨HLM.out, HNO.out⟩)
    go_wp2_with fail
    go_ret
    exact ⟨rbool HS.out.symm, HB.out⟩
 ·have e0 : ((l.length : Int) != (m.length : Int)) = true := by simp; omega
  have HS : Hid (Z = false) := HZ.out false (by rw [HE.out]; simp only [Bool.false_eq_true, false_iff]; exact fun h => hlm0 h.1)
  clear hlm0
  go_enter Tryz.func288, Tryz.ntmps288
  go_wp2_with fail
  go_ret
  exact ⟨rbool HS.out.symm, Below.refl _ _⟩
end Go.Proofs.YtbiehpjhhopjaaaGreat
namespace Go.Proofs.YtbiehpjhhopjaaaGreat
open Go.RowKit Go.Sort
theorem plain283 (args : Array Value) (w : World) : Sem.run Tryz.prog (callFunc 283 args) w = .ok (.enter 283 args) w := by simp [go_sem]
theorem plain285 : PlainF 285 := fun args w => by simp [go_sem]
theorem plain287 : PlainF 287 := fun args w => by simp [go_sem]
theorem plain289 : PlainF 289 := fun args w => by simp [go_sem]
theorem lie_any (n : Int) (w : World) : Calls Tryz.prog 283 #[.int .i64 n] w fun e w' => e = .returned (.bool (decide (0 ≤ n ∧ n ≤ 2))) ∧ w = w' := by
 have HE : Hid (∀ b, (b = true ↔ (0 ≤ n ∧ n ≤ 2)) → b = decide (0 ≤ n ∧ n ≤ 2)) := fun b hb => by rw [Bool.eq_iff_iff, hb]; simp
 generalize decide (0 ≤ n ∧ n ≤ 2) = B at *
 go_enter Tryz.func283, Tryz.ntmps283
 go_wp2_with fail
 all_goals
  go_ret
  exact ⟨rbool (HE.out _ (by simp; omega)), rfl⟩
theorem isTkSec (x : Tk) (y : Sec) (s1 : Option Addr) (d1 : Nat) (w : World) : Calls Tryz.prog 285 (#[.agg #[.int .i64 x.id, .int .u8 x.is], .agg #[.int .i64 y.id, .int .i64 y.pt, .slice s1 y.ends.length d1]] ++ #[]) w (BoolPost w (decide (TkAt x y))) := by
 have HE : Hid (∀ b, (b = true ↔ (x.id = y.id ∧ x.is ≤ 2)) → b = decide (TkAt x y)) := fun b hb => by rw [Bool.eq_iff_iff, hb, decide_eq_true_iff]; exact Iff.rfl
 generalize decide (TkAt x y) = B at *
 go_enter Tryz.func285, Tryz.ntmps285
 go_wp2_with fail
 all_goals
  go_ret
  exact ⟨rbool (HE.out _ (by simp_all)), ((Below.refl _ _).alloc (Nat.le_refl _) _).alloc (by simp) _⟩
set_option maxRecDepth 100000 in
theorem isSwPt (x : Sw) (y : Pt) (g : Nat) (w : World) (hg : w.cell? ⟨g, 0, none⟩ = some (.func (.func 283) #[] #[])) : Calls Tryz.prog 287 (#[.agg #[.int .i64 x.id, .int .i64 x.lie, .int .i64 x.call], .agg #[.int .i64 y.id, .int .i64 y.sec]] ++ #[.pointer (some ⟨g, 0, none⟩)]) w (BoolPost w (decide (SwAt x y))) := by
 have HE : Hid (∀ b, (b = true ↔ (x.id = y.id ∧ (0 ≤ x.lie ∧ x.lie ≤ 2) ∧ (0 ≤ x.call ∧ x.call ≤ 2))) → b = decide (SwAt x y)) := fun b hb => by rw [Bool.eq_iff_iff, hb, decide_eq_true_iff]; exact Iff.rfl
 have hcf := plain283
 have l0 := World.block_lt_of_cell? _ _ hg
 have HB : Hid (Below w.heap.size w ((w.alloc (.cells #[.int .i64 x.id, .int .i64 x.lie, .int .i64 x.call] 108)).alloc (.cells #[.int .i64 y.id, .int .i64 y.sec] 143))) := ((Below.refl _ _).alloc (Nat.le_refl _) _).alloc (by simp) _
 generalize decide (SwAt x y) = B at *
 by_cases h1 : x.id = y.id
 ·have t1 : (x.id == y.id) = true := by rw [beq_iff_eq]; exact h1
  by_cases h2 : 0 ≤ x.lie ∧ x.lie ≤ 2
  ·have d2 := decide_eq_true h2
   go_enter Tryz.func287, Tryz.ntmps287
   go_wp2_with fail
   refine (lie_any _ _).mono ?_
   rintro e w1 ⟨rfl, rfl⟩
   rw [d2]
   go_wp2_with fail
   refine (lie_any _ _).mono ?_
   rintro e w1 ⟨rfl, rfl⟩
   go_wp2_with fail
   all_goals
    go_ret
    exact ⟨rbool (HE.out _ (by simp_all)), ((Below.refl _ _).alloc (Nat.le_refl _) _).alloc (by simp) _⟩
  ·have d2 := decide_eq_false h2
   go_enter Tryz.func287, Tryz.ntmps287
   go_wp2_with fail
   refine (lie_any _ _).mono ?_
   rintro e w1 ⟨rfl, rfl⟩
   rw [d2]
   have HN : Hid (false = B) := HE.out false (by simp; intro _ a b; exact absurd ⟨a, b⟩ h2)
   clear h2 d2
   go_wp2_with fail
   go_ret
   exact ⟨rbool HN.out, ((Below.refl _ _).alloc (Nat.le_refl _) _).alloc (by simp) _⟩
 ·have t1 : (x.id == y.id) = false := by rw [beq_eq_false_iff_ne]; exact h1
  have HN : Hid (false = B) := HE.out false (by simp [h1])
  clear h1
  go_enter Tryz.func287, Tryz.ntmps287
  go_wp2_with fail
  go_ret
  exact ⟨rbool HN.out, ((Below.refl _ _).alloc (Nat.le_refl _) _).alloc (by simp) _⟩
set_option maxRecDepth 100000 in
set_option maxHeartbeats 4000000 in
theorem phase_any (l : Lk) (r : Rt) (s1 s2 s3 : Option Addr) (d1 d2 d3 : Nat) (w : World) (h6 : r.path.length ≤ 1000) : Calls Tryz.prog 290 #[.agg #[.int .i64 l.id, .int .u8 l.ph, .int .i64 l.gone, .int .i64 l.left], .agg #[.int .i64 r.id, .int .i64 r.entry, .int .i64 r.exit, .slice s1 r.path.length d1, .slice s2 r.over.length d2, .slice s3 r.fl.length d3, .int .i64 r.timer]] w (BoolPost w (decide (Phase l r))) := by
 have HE : Hid (∀ b, (b = true ↔ Phase l r) → b = decide (Phase l r)) := fun b hb => by rw [Bool.eq_iff_iff, hb]; simp
 generalize decide (Phase l r) = B at *
 have HP : Hid (Phase l r ↔ (((l.ph = 0 ∨ l.ph = 1) ∧ l.gone = 0 ∧ l.left = 0) ∨ (l.ph = 2 ∧ 0 ≤ l.gone ∧ l.gone ≤ (r.path.length : Int) - 1 ∧ l.left = 0) ∨
 (l.ph = 3 ∧ l.gone = (r.path.length : Int) - 1 ∧ 1 ≤ l.left ∧ l.left ≤ r.timer) ∨ (l.ph = 4 ∧ l.gone = 0 ∧ 1 ≤ l.left ∧ l.left ≤ r.timer))) := Iff.rfl
 have HB : Hid (Below w.heap.size w ((w.alloc (.cells #[.int .i64 l.id, .int .u8 l.ph, .int .i64 l.gone, .int .i64 l.left] 99)).alloc (.cells #[.int .i64 r.id, .int .i64 r.entry, .int .i64 r.exit, .slice s1 r.path.length d1, .slice s2 r.over.length d2, .slice s3 r.fl.length d3, .int .i64 r.timer] 102))) := ((Below.refl _ _).alloc (Nat.le_refl _) _).alloc (by simp) _
 generalize Phase l r = PP at *
 obtain ⟨lid, ph, gone, left⟩ := l
 simp only [] at HP HB ⊢
 generalize r.timer = timer at *
 generalize r.path.length = pl at *
 by_cases p0 : ph = 0
 ·subst p0
  by_cases h0 : gone = 0
  ·have t0 : (gone == 0) = true := by simpa using h0
   by_cases h1 : left = 0
   ·have t1 : (left == 0) = true := by simpa using h1
    have HN : Hid (true = B) := HE.out true (by rw [HP.out]; simp; omega)
    clear h0 h1
    go_enter Tryz.func290, Tryz.ntmps290
    go_wp2_with fail
    go_ret
    exact ⟨rbool HN.out, HB.out⟩
   ·have t1 : (left == 0) = false := by simpa using h1
    have HN : Hid (false = B) := HE.out false (by rw [HP.out]; simp; omega)
    clear h0 h1
    go_enter Tryz.func290, Tryz.ntmps290
    go_wp2_with fail
    go_ret
    exact ⟨rbool HN.out, HB.out⟩
  ·have t0 : (gone == 0) = false := by simpa using h0
   have HN : Hid (false = B) := HE.out false (by rw [HP.out]; simp; omega)
   clear h0
   go_enter Tryz.func290, Tryz.ntmps290
   go_wp2_with fail
   go_ret
   exact ⟨rbool HN.out, HB.out⟩
 ·have q0 : (ph == 0) = false := by rw [beq_eq_false_iff_ne]; exact p0
  by_cases p1 : ph = 1
  ·subst p1
   by_cases h0 : gone = 0
   ·have t0 : (gone == 0) = true := by simpa using h0
    by_cases h1 : left = 0
    ·have t1 : (left == 0) = true := by simpa using h1
     have HN : Hid (true = B) := HE.out true (by rw [HP.out]; simp; omega)
     clear h0 h1
     go_enter Tryz.func290, Tryz.ntmps290
     go_wp2_with fail
     go_ret
     exact ⟨rbool HN.out, HB.out⟩
    ·have t1 : (left == 0) = false := by simpa using h1
     have HN : Hid (false = B) := HE.out false (by rw [HP.out]; simp; omega)
     clear h0 h1
     go_enter Tryz.func290, Tryz.ntmps290
     go_wp2_with fail
     go_ret
     exact ⟨rbool HN.out, HB.out⟩
   ·have t0 : (gone == 0) = false := by simpa using h0
    have HN : Hid (false = B) := HE.out false (by rw [HP.out]; simp; omega)
    clear h0
    go_enter Tryz.func290, Tryz.ntmps290
    go_wp2_with fail
    go_ret
    exact ⟨rbool HN.out, HB.out⟩
  ·have q1 : (ph == 1) = false := by rw [beq_eq_false_iff_ne]; exact p1
   by_cases p2 : ph = 2
   ·subst p2
    by_cases h0 : 0 ≤ gone
    ·have t0 : decide (0 ≤ gone) = true := by simpa using h0
     by_cases h1 : gone ≤ (pl : Int) - 1
     ·have t1 : decide (gone ≤ (pl : Int) - 1) = true := by simpa using h1
      by_cases h2 : left = 0
      ·have t2 : (left == 0) = true := by simpa using h2
       have HN : Hid (true = B) := HE.out true (by rw [HP.out]; simp; omega)
       clear h0 h1 h2
       go_enter Tryz.func290, Tryz.ntmps290
       go_wp2_with fail
       go_ret
       exact ⟨rbool HN.out, HB.out⟩
      ·have t2 : (left == 0) = false := by simpa using h2
       have HN : Hid (false = B) := HE.out false (by rw [HP.out]; simp; omega)
       clear h0 h1 h2
       go_enter Tryz.func290, Tryz.ntmps290
       go_wp2_with fail
       go_ret
       exact ⟨rbool HN.out, HB.out⟩
     ·have t1 : decide (gone ≤ (pl : Int) - 1) = false := by simpa using h1
      have HN : Hid (false = B) := HE.out false (by rw [HP.out]; simp; omega)
      clear h0 h1
      go_enter Tryz.func290, Tryz.ntmps290
      go_wp2_with fail
      go_ret
      exact ⟨rbool HN.out, HB.out⟩
    ·have t0 : decide (0 ≤ gone) = false := by simpa using h0
     have HN : Hid (false = B) := HE.out false (by rw [HP.out]; simp; omega)
     clear h0
     go_enter Tryz.func290, Tryz.ntmps290
     go_wp2_with fail
     go_ret
     exact ⟨rbool HN.out, HB.out⟩
   ·have q2 : (ph == 2) = false := by rw [beq_eq_false_iff_ne]; exact p2
    by_cases p3 : ph = 3
    ·subst p3
     by_cases h0 : gone = (pl : Int) - 1
     ·have t0 : (gone == (pl : Int) - 1) = true := by simpa using h0
      by_cases h1 : 1 ≤ left
      ·have t1 : decide (1 ≤ left) = true := by simpa using h1
       by_cases h2 : left ≤ timer
       ·have t2 : decide (left ≤ timer) = true := by simpa using h2
        have HN : Hid (true = B) := HE.out true (by rw [HP.out]; simp; omega)
        clear h0 h1 h2
        go_enter Tryz.func290, Tryz.ntmps290
        go_wp2_with fail
        go_ret
        exact ⟨rbool HN.out, HB.out⟩
       ·have t2 : decide (left ≤ timer) = false := by simpa using h2
        have HN : Hid (false = B) := HE.out false (by rw [HP.out]; simp; omega)
        clear h0 h1 h2
        go_enter Tryz.func290, Tryz.ntmps290
        go_wp2_with fail
        go_ret
        exact ⟨rbool HN.out, HB.out⟩
      ·have t1 : decide (1 ≤ left) = false := by simpa using h1
       have HN : Hid (false = B) := HE.out false (by rw [HP.out]; simp; omega)
       clear h0 h1
       go_enter Tryz.func290, Tryz.ntmps290
       go_wp2_with fail
       go_ret
       exact ⟨rbool HN.out, HB.out⟩
     ·have t0 : (gone == (pl : Int) - 1) = false := by simpa using h0
      have HN : Hid (false = B) := HE.out false (by rw [HP.out]; simp; omega)
      clear h0
      go_enter Tryz.func290, Tryz.ntmps290
      go_wp2_with fail
      go_ret
      exact ⟨rbool HN.out, HB.out⟩
    ·have q3 : (ph == 3) = false := by rw [beq_eq_false_iff_ne]; exact p3
     by_cases p4 : ph = 4
     ·subst p4
      by_cases h0 : gone = 0
      ·have t0 : (gone == 0) = true := by simpa using h0
       by_cases h1 : 1 ≤ left
       ·have t1 : decide (1 ≤ left) = true := by simpa using h1
        by_cases h2 : left ≤ timer
        ·have t2 : decide (left ≤ timer) = true := by simpa using h2
         have HN : Hid (true = B) := HE.out true (by rw [HP.out]; simp; omega)
         clear h0 h1 h2
         go_enter Tryz.func290, Tryz.ntmps290
         go_wp2_with fail
         go_ret
         exact ⟨rbool HN.out, HB.out⟩
        ·have t2 : decide (left ≤ timer) = false := by simpa using h2
         have HN : Hid (false = B) := HE.out false (by rw [HP.out]; simp; omega)
         clear h0 h1 h2
         go_enter Tryz.func290, Tryz.ntmps290
         go_wp2_with fail
         go_ret
         exact ⟨rbool HN.out, HB.out⟩
       ·have t1 : decide (1 ≤ left) = false := by simpa using h1
        have HN : Hid (false = B) := HE.out false (by rw [HP.out]; simp; omega)
        clear h0 h1
        go_enter Tryz.func290, Tryz.ntmps290
        go_wp2_with fail
        go_ret
        exact ⟨rbool HN.out, HB.out⟩
      ·have t0 : (gone == 0) = false := by simpa using h0
       have HN : Hid (false = B) := HE.out false (by rw [HP.out]; simp; omega)
       clear h0
       go_enter Tryz.func290, Tryz.ntmps290
       go_wp2_with fail
       go_ret
       exact ⟨rbool HN.out, HB.out⟩
     ·have q4 : (ph == 4) = false := by rw [beq_eq_false_iff_ne]; exact p4
      have HN : Hid (false = B) := HE.out false (by rw [HP.out]; simp; omega)
      clear p0 p1 p2 p3 p4
      go_enter Tryz.func290, Tryz.ntmps290
      go_wp2_with fail
      go_ret
      exact ⟨rbool HN.out, HB.out⟩
set_option maxRecDepth 100000 in
theorem isLkRt (x : Lk) (y : Rt) (s1 s2 s3 : Option Addr) (d1 d2 d3 : Nat) (w : World) (h6 : y.path.length ≤ 1000) : Calls Tryz.prog 289 (#[.agg #[.int .i64 x.id, .int .u8 x.ph, .int .i64 x.gone, .int .i64 x.left], .agg #[.int .i64 y.id, .int .i64 y.entry, .int .i64 y.exit, .slice s1 y.path.length d1, .slice s2 y.over.length d2, .slice s3 y.fl.length d3, .int .i64 y.timer]] ++ #[]) w (BoolPost w (decide (LkAt x y))) := by
 have HE : Hid (∀ b, (b = true ↔ (x.id = y.id ∧ Phase x y)) → b = decide (LkAt x y)) := fun b hb => by rw [Bool.eq_iff_iff, hb, decide_eq_true_iff]; exact Iff.rfl
 have HC : Hid (∀ w, Calls Tryz.prog 290 #[.agg #[.int .i64 x.id, .int .u8 x.ph, .int .i64 x.gone, .int .i64 x.left], .agg #[.int .i64 y.id, .int .i64 y.entry, .int .i64 y.exit, .slice s1 y.path.length d1, .slice s2 y.over.length d2, .slice s3 y.fl.length d3, .int .i64 y.timer]] w (BoolPost w (decide (Phase x y)))) := fun w => phase_any x y s1 s2 s3 d1 d2 d3 w h6
 have HB : Hid (Below w.heap.size w ((w.alloc (.cells #[.int .i64 x.id, .int .u8 x.ph, .int .i64 x.gone, .int .i64 x.left] 99)).alloc (.cells #[.int .i64 y.id, .int .i64 y.entry, .int .i64 y.exit, .slice s1 y.path.length d1, .slice s2 y.over.length d2, .slice s3 y.fl.length d3, .int .i64 y.timer] 102))) := ((Below.refl _ _).alloc (Nat.le_refl _) _).alloc (by simp) _
 generalize decide (LkAt x y) = B at *
 by_cases h1 : x.id = y.id
 ·have t1 : (x.id == y.id) = true := by rw [beq_iff_eq]; exact h1
  have HD : Hid (decide (Phase x y) = B) := HE.out _ (by simp [h1])
  generalize decide (Phase x y) = D at *
  clear h1
  go_enter Tryz.func289, Tryz.ntmps289
  go_wp2_with fail
  refine (HC.out _).mono ?_
  rintro e w1 ⟨rfl, hb1⟩
  have K1 : Hid (Below w.heap.size w w1) := (((Below.refl _ _).alloc (Nat.le_refl _) _).alloc (by simp) _).trans (hb1.mono (by simp; omega))
  clear hb1 HC
  go_wp2_with fail
  go_ret
  exact ⟨rbool HD.out, K1.out⟩
 ·have t1 : (x.id == y.id) = false := by rw [beq_eq_false_iff_ne]; exact h1
  have HN : Hid (false = B) := HE.out false (by simp [h1])
  clear h1
  go_enter Tryz.func289, Tryz.ntmps289
  go_wp2_with fail
  go_ret
  exact ⟨rbool HN.out, ((Below.refl _ _).alloc (Nat.le_refl _) _).alloc (by simp) _⟩
end Go.Proofs.YtbiehpjhhopjaaaGreat
