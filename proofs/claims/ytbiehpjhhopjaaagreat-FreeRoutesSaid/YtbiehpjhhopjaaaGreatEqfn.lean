/-
  slices.EqualFunc, walked for whatever function value. (Written by wip/tools/gen_eqfn.py.)
-/
import Derived.Test.YtbiehpjhhopjaaaGreatIxfn
import Derived.Test.YtbiehpjhhopjaaaGreatPlanF
import Derived.Test.YtbiehpjhhopjaaaGreatData
set_option linter.unusedVariables false
namespace Go.Proofs.YtbiehpjhhopjaaaGreat
open Go.RowKit Go.Sort
/-- what a function value says of each pair -/
def SaysTkSec (f : FuncId) (caps : Array Value) (R : Tk → Sec → Prop) [∀ a b, Decidable (R a b)] (l : List Tk) (m : List Sec) (w : World) : Prop :=
  ∀ W i (h : i < l.length) (h' : i < m.length) (s1 : Option Addr) (d1 : Nat), Below w.heap.size w W → Calls Tryz.prog f (#[.agg #[.int .i64 l[i].id, .int .u8 l[i].is], .agg #[.int .i64 m[i].id, .int .i64 m[i].pt, .slice s1 m[i].ends.length d1]] ++ caps) W (BoolPost W (decide (R l[i] m[i])))
set_option maxRecDepth 100000 in
set_option maxHeartbeats 2000000 in
theorem eqfnTk (f : FuncId) (caps : Array Value) (R : Tk → Sec → Prop) [∀ a b, Decidable (R a b)] (a1 a2 : Option Addr) (c1 c2 : Nat) (l : List Tk) (m : List Sec) (w : World) (hl : SlA w 2 RTk a1 c1 l) (hm : SlA w 3 RSec a2 c2 m) (h1 : l.length ≤ 1000) (h2 : m.length ≤ 1000) (hf : PlainF f) (hcl : SaysTkSec f caps R l m w) :
    Calls Tryz.prog 284 #[.slice a1 l.length c1, .slice a2 m.length c2, .func (.func f) #[] caps] w (BoolPost w (decide (Pairs R l m))) := by
  have HL : Hid (∀ w', Below w.heap.size w w' → SlA w' 2 RTk a1 c1 l) := fun w' hb => hl.below keeps_tk hb
  have HM : Hid (∀ w', Below w.heap.size w w' → SlA w' 3 RSec a2 c2 m) := fun w' hb => hm.below keeps_sec hb
  have hcf : ∀ (args : Array Value) (w : World), Sem.run Tryz.prog (callFunc f args) w = .ok (.enter f args) w := hf
  have HCL := Lib.hid hcl
  have HE : Hid (Pairs R l m ↔ (l.length = m.length ∧ PairsTo R l m l.length)) := Iff.rfl
  have HZ : Hid (∀ b, (b = true ↔ Pairs R l m) → decide (Pairs R l m) = b) := fun b hb => by rw [Bool.eq_iff_iff, decide_eq_true_iff]; exact hb.symm
  generalize decide (Pairs R l m) = Z at *
  clear hl hm hcl hf
  by_cases hlm0 : l.length = m.length
  · have e0 : ((l.length : Int) != (m.length : Int)) = false := by simp [hlm0]
    have HLM := Lib.hid hlm0
    clear hlm0
    go_enter Tryz.func284, Tryz.ntmps284
    go_wp2_with fail
    go_loopg [17] l.length (fun g i wr => ∃ k : Nat, k ≤ l.length ∧ g = l.length - k ∧ i = .int .i64 k ∧ Below w.heap.size w wr ∧ PairsTo R l m k)
    case atStart => exact ⟨0, by omega, by omega, rfl, Below.refl _ _, fun i _ _ h => by omega⟩
    case round =>
      obtain ⟨k, hk, rfl, rfl, hb, hno⟩ := hrel
      obtain ⟨wo, rfl⟩ : ∃ wo : World, wo = wr := ⟨_, rfl⟩
      have HB := Lib.hid hb
      have HNO := Lib.hid hno
      clear hb hno
      by_cases hlt : k < l.length
      · have hlm : k < m.length := by have := HLM.out; omega
        have hd : decide ((k : Int) < (l.length : Int)) = true := by simp; omega
        obtain ⟨b1, off1, rfl, x0, x1⟩ := (HL.out _ HB.out).tk hlt
        obtain ⟨b2, off2, s1, d1, rfl, y0, y1, y2, hym⟩ := (HM.out _ HB.out).sec hlm
        have i0 : (0 : Int) ≤ (k : Int) := by omega
        have i1 : (k : Int) < (l.length : Int) := by omega
        have i2 : (k : Int) < (m.length : Int) := by omega
        have l1 := World.block_lt_of_cell? _ _ x0
        have l2 := World.block_lt_of_cell? _ _ y0
        clear hym
        have HC : Hid (∀ W', Below wo.heap.size wo W' → Calls Tryz.prog f (#[.agg #[.int .i64 l[k].id, .int .u8 l[k].is], .agg #[.int .i64 m[k].id, .int .i64 m[k].pt, .slice s1 m[k].ends.length d1]] ++ caps) W' (BoolPost W' (decide (R l[k] m[k])))) := fun W' hb => HCL.out W' k hlt hlm s1 d1 (HB.out.trans (hb.mono HB.out.size))
        go_upto_region 7 with fail
        generalize hW : (wo.alloc _).alloc _ = W
        have hbW : Below wo.heap.size wo W := by rw [← hW]; exact ((Below.refl _ _).alloc (Nat.le_refl _) _).alloc (by simp) _
        have KW : Hid (Below w.heap.size w W) := HB.out.trans (hbW.mono HB.out.size)
        have HCW := Lib.hid (HC.out W hbW)
        have p0 : W.cell? ⟨wo.heap.size, 0, none⟩ = some (.int .i64 l[k].id) := by rw [← hW]; simp
        have p1 : W.cell? ⟨wo.heap.size, 1, none⟩ = some (.int .u8 l[k].is) := by rw [← hW]; simp
        have q0 : W.cell? ⟨wo.heap.size + 1, 0, none⟩ = some (.int .i64 m[k].id) := by rw [← hW]; simp
        have q1 : W.cell? ⟨wo.heap.size + 1, 1, none⟩ = some (.int .i64 m[k].pt) := by rw [← hW]; simp
        have q2 : W.cell? ⟨wo.heap.size + 1, 2, none⟩ = some (.slice s1 m[k].ends.length d1) := by rw [← hW]; simp
        clear hW hbW x0 x1 y0 y1 y2 l1 l2 HC
        by_cases hr : R l[k] m[k]
        · have hdr := decide_eq_true hr
          rw [hdr] at HCW
          have HS := Lib.hid (pairsTo_step hlt hlm HNO.out hr)
          clear hr hdr
          go_wp2_with fail
          refine HCW.out.mono ?_
          rintro e w1 ⟨rfl, hb1⟩
          have K1 : Hid (Below w.heap.size w w1) := KW.out.trans (hb1.mono KW.out.size)
          clear hb1 HCW p0 q0
          go_wp2_with fail
          go_roundg (l.length - (k + 1))
          case measure => go_light; omega
          case rel => go_light; exact ⟨k + 1, by omega, by omega, by go_num, K1.out, HS.out⟩
        · have hdr := decide_eq_false hr
          rw [hdr] at HCW
          have HS : Hid (Z = false) := HZ.out false (by rw [HE.out]; simp only [Bool.false_eq_true, false_iff]; exact fun h => hr (h.2 k hlt hlm hlt))
          clear hr hdr
          go_wp2_with fail
          refine HCW.out.mono ?_
          rintro e w1 ⟨rfl, hb1⟩
          have K1 : Hid (Below w.heap.size w w1) := KW.out.trans (hb1.mono KW.out.size)
          clear hb1 HCW p0 q0
          go_wp2_with fail
          go_ret
          exact ⟨rbool HS.out.symm, K1.out⟩
      · obtain rfl : k = l.length := by omega
        have hd : decide ((l.length : Int) < (l.length : Int)) = false := by simp
        have HS : Hid (Z = true) := HZ.out true (by rw [HE.out]; simp only [true_iff]; exact ⟨HLM.out, HNO.out⟩)
        go_wp2_with fail
        go_ret
        exact ⟨rbool HS.out.symm, HB.out⟩
  · have e0 : ((l.length : Int) != (m.length : Int)) = true := by simp; omega
    have HS : Hid (Z = false) := HZ.out false (by rw [HE.out]; simp only [Bool.false_eq_true, false_iff]; exact fun h => hlm0 h.1)
    clear hlm0
    go_enter Tryz.func284, Tryz.ntmps284
    go_wp2_with fail
    go_ret
    exact ⟨rbool HS.out.symm, Below.refl _ _⟩
/-- what a function value says of each pair -/
def SaysSwPt (f : FuncId) (caps : Array Value) (R : Sw → Pt → Prop) [∀ a b, Decidable (R a b)] (l : List Sw) (m : List Pt) (w : World) : Prop :=
  ∀ W i (h : i < l.length) (h' : i < m.length), Below w.heap.size w W → Calls Tryz.prog f (#[.agg #[.int .i64 l[i].id, .int .i64 l[i].lie, .int .i64 l[i].call], .agg #[.int .i64 m[i].id, .int .i64 m[i].sec]] ++ caps) W (BoolPost W (decide (R l[i] m[i])))
set_option maxRecDepth 100000 in
set_option maxHeartbeats 2000000 in
theorem eqfnSw (f : FuncId) (caps : Array Value) (R : Sw → Pt → Prop) [∀ a b, Decidable (R a b)] (a1 a2 : Option Addr) (c1 c2 : Nat) (l : List Sw) (m : List Pt) (w : World) (hl : SlA w 3 RSw a1 c1 l) (hm : SlA w 2 RPt a2 c2 m) (h1 : l.length ≤ 1000) (h2 : m.length ≤ 1000) (hf : PlainF f) (hcl : SaysSwPt f caps R l m w) :
    Calls Tryz.prog 286 #[.slice a1 l.length c1, .slice a2 m.length c2, .func (.func f) #[] caps] w (BoolPost w (decide (Pairs R l m))) := by
  have HL : Hid (∀ w', Below w.heap.size w w' → SlA w' 3 RSw a1 c1 l) := fun w' hb => hl.below keeps_sw hb
  have HM : Hid (∀ w', Below w.heap.size w w' → SlA w' 2 RPt a2 c2 m) := fun w' hb => hm.below keeps_pt hb
  have hcf : ∀ (args : Array Value) (w : World), Sem.run Tryz.prog (callFunc f args) w = .ok (.enter f args) w := hf
  have HCL := Lib.hid hcl
  have HE : Hid (Pairs R l m ↔ (l.length = m.length ∧ PairsTo R l m l.length)) := Iff.rfl
  have HZ : Hid (∀ b, (b = true ↔ Pairs R l m) → decide (Pairs R l m) = b) := fun b hb => by rw [Bool.eq_iff_iff, decide_eq_true_iff]; exact hb.symm
  generalize decide (Pairs R l m) = Z at *
  clear hl hm hcl hf
  by_cases hlm0 : l.length = m.length
  · have e0 : ((l.length : Int) != (m.length : Int)) = false := by simp [hlm0]
    have HLM := Lib.hid hlm0
    clear hlm0
    go_enter Tryz.func286, Tryz.ntmps286
    go_wp2_with fail
    go_loopg [17] l.length (fun g i wr => ∃ k : Nat, k ≤ l.length ∧ g = l.length - k ∧ i = .int .i64 k ∧ Below w.heap.size w wr ∧ PairsTo R l m k)
    case atStart => exact ⟨0, by omega, by omega, rfl, Below.refl _ _, fun i _ _ h => by omega⟩
    case round =>
      obtain ⟨k, hk, rfl, rfl, hb, hno⟩ := hrel
      obtain ⟨wo, rfl⟩ : ∃ wo : World, wo = wr := ⟨_, rfl⟩
      have HB := Lib.hid hb
      have HNO := Lib.hid hno
      clear hb hno
      by_cases hlt : k < l.length
      · have hlm : k < m.length := by have := HLM.out; omega
        have hd : decide ((k : Int) < (l.length : Int)) = true := by simp; omega
        obtain ⟨b1, off1, rfl, x0, x1, x2⟩ := (HL.out _ HB.out).sw hlt
        obtain ⟨b2, off2, rfl, y0, y1⟩ := (HM.out _ HB.out).pt hlm
        have i0 : (0 : Int) ≤ (k : Int) := by omega
        have i1 : (k : Int) < (l.length : Int) := by omega
        have i2 : (k : Int) < (m.length : Int) := by omega
        have l1 := World.block_lt_of_cell? _ _ x0
        have l2 := World.block_lt_of_cell? _ _ y0
        skip
        have HC : Hid (∀ W', Below wo.heap.size wo W' → Calls Tryz.prog f (#[.agg #[.int .i64 l[k].id, .int .i64 l[k].lie, .int .i64 l[k].call], .agg #[.int .i64 m[k].id, .int .i64 m[k].sec]] ++ caps) W' (BoolPost W' (decide (R l[k] m[k])))) := fun W' hb => HCL.out W' k hlt hlm  (HB.out.trans (hb.mono HB.out.size))
        go_upto_region 7 with fail
        generalize hW : (wo.alloc _).alloc _ = W
        have hbW : Below wo.heap.size wo W := by rw [← hW]; exact ((Below.refl _ _).alloc (Nat.le_refl _) _).alloc (by simp) _
        have KW : Hid (Below w.heap.size w W) := HB.out.trans (hbW.mono HB.out.size)
        have HCW := Lib.hid (HC.out W hbW)
        have p0 : W.cell? ⟨wo.heap.size, 0, none⟩ = some (.int .i64 l[k].id) := by rw [← hW]; simp
        have p1 : W.cell? ⟨wo.heap.size, 1, none⟩ = some (.int .i64 l[k].lie) := by rw [← hW]; simp
        have p2 : W.cell? ⟨wo.heap.size, 2, none⟩ = some (.int .i64 l[k].call) := by rw [← hW]; simp
        have q0 : W.cell? ⟨wo.heap.size + 1, 0, none⟩ = some (.int .i64 m[k].id) := by rw [← hW]; simp
        have q1 : W.cell? ⟨wo.heap.size + 1, 1, none⟩ = some (.int .i64 m[k].sec) := by rw [← hW]; simp
        clear hW hbW x0 x1 x2 y0 y1 l1 l2 HC
        by_cases hr : R l[k] m[k]
        · have hdr := decide_eq_true hr
          rw [hdr] at HCW
          have HS := Lib.hid (pairsTo_step hlt hlm HNO.out hr)
          clear hr hdr
          go_wp2_with fail
          refine HCW.out.mono ?_
          rintro e w1 ⟨rfl, hb1⟩
          have K1 : Hid (Below w.heap.size w w1) := KW.out.trans (hb1.mono KW.out.size)
          clear hb1 HCW p0 q0
          go_wp2_with fail
          go_roundg (l.length - (k + 1))
          case measure => go_light; omega
          case rel => go_light; exact ⟨k + 1, by omega, by omega, by go_num, K1.out, HS.out⟩
        · have hdr := decide_eq_false hr
          rw [hdr] at HCW
          have HS : Hid (Z = false) := HZ.out false (by rw [HE.out]; simp only [Bool.false_eq_true, false_iff]; exact fun h => hr (h.2 k hlt hlm hlt))
          clear hr hdr
          go_wp2_with fail
          refine HCW.out.mono ?_
          rintro e w1 ⟨rfl, hb1⟩
          have K1 : Hid (Below w.heap.size w w1) := KW.out.trans (hb1.mono KW.out.size)
          clear hb1 HCW p0 q0
          go_wp2_with fail
          go_ret
          exact ⟨rbool HS.out.symm, K1.out⟩
      · obtain rfl : k = l.length := by omega
        have hd : decide ((l.length : Int) < (l.length : Int)) = false := by simp
        have HS : Hid (Z = true) := HZ.out true (by rw [HE.out]; simp only [true_iff]; exact ⟨HLM.out, HNO.out⟩)
        go_wp2_with fail
        go_ret
        exact ⟨rbool HS.out.symm, HB.out⟩
  · have e0 : ((l.length : Int) != (m.length : Int)) = true := by simp; omega
    have HS : Hid (Z = false) := HZ.out false (by rw [HE.out]; simp only [Bool.false_eq_true, false_iff]; exact fun h => hlm0 h.1)
    clear hlm0
    go_enter Tryz.func286, Tryz.ntmps286
    go_wp2_with fail
    go_ret
    exact ⟨rbool HS.out.symm, Below.refl _ _⟩
/-- what a function value says of each pair -/
def SaysLkRt (f : FuncId) (caps : Array Value) (R : Lk → Rt → Prop) [∀ a b, Decidable (R a b)] (l : List Lk) (m : List Rt) (w : World) : Prop :=
  ∀ W i (h : i < l.length) (h' : i < m.length) (s1 : Option Addr) (d1 : Nat) (s2 : Option Addr) (d2 : Nat) (s3 : Option Addr) (d3 : Nat), Below w.heap.size w W → Calls Tryz.prog f (#[.agg #[.int .i64 l[i].id, .int .u8 l[i].ph, .int .i64 l[i].gone, .int .i64 l[i].left], .agg #[.int .i64 m[i].id, .int .i64 m[i].entry, .int .i64 m[i].exit, .slice s1 m[i].path.length d1, .slice s2 m[i].over.length d2, .slice s3 m[i].fl.length d3, .int .i64 m[i].timer]] ++ caps) W (BoolPost W (decide (R l[i] m[i])))
set_option maxRecDepth 100000 in
set_option maxHeartbeats 2000000 in
theorem eqfnLk (f : FuncId) (caps : Array Value) (R : Lk → Rt → Prop) [∀ a b, Decidable (R a b)] (a1 a2 : Option Addr) (c1 c2 : Nat) (l : List Lk) (m : List Rt) (w : World) (hl : SlA w 4 RLk a1 c1 l) (hm : SlA w 7 RRt a2 c2 m) (h1 : l.length ≤ 1000) (h2 : m.length ≤ 1000) (hf : PlainF f) (hcl : SaysLkRt f caps R l m w) :
    Calls Tryz.prog 288 #[.slice a1 l.length c1, .slice a2 m.length c2, .func (.func f) #[] caps] w (BoolPost w (decide (Pairs R l m))) := by
  have HL : Hid (∀ w', Below w.heap.size w w' → SlA w' 4 RLk a1 c1 l) := fun w' hb => hl.below keeps_lk hb
  have HM : Hid (∀ w', Below w.heap.size w w' → SlA w' 7 RRt a2 c2 m) := fun w' hb => hm.below keeps_rt hb
  have hcf : ∀ (args : Array Value) (w : World), Sem.run Tryz.prog (callFunc f args) w = .ok (.enter f args) w := hf
  have HCL := Lib.hid hcl
  have HE : Hid (Pairs R l m ↔ (l.length = m.length ∧ PairsTo R l m l.length)) := Iff.rfl
  have HZ : Hid (∀ b, (b = true ↔ Pairs R l m) → decide (Pairs R l m) = b) := fun b hb => by rw [Bool.eq_iff_iff, decide_eq_true_iff]; exact hb.symm
  generalize decide (Pairs R l m) = Z at *
  clear hl hm hcl hf
  by_cases hlm0 : l.length = m.length
  · have e0 : ((l.length : Int) != (m.length : Int)) = false := by simp [hlm0]
    have HLM := Lib.hid hlm0
    clear hlm0
    go_enter Tryz.func288, Tryz.ntmps288
    go_wp2_with fail
    go_loopg [17] l.length (fun g i wr => ∃ k : Nat, k ≤ l.length ∧ g = l.length - k ∧ i = .int .i64 k ∧ Below w.heap.size w wr ∧ PairsTo R l m k)
    case atStart => exact ⟨0, by omega, by omega, rfl, Below.refl _ _, fun i _ _ h => by omega⟩
    case round =>
      obtain ⟨k, hk, rfl, rfl, hb, hno⟩ := hrel
      obtain ⟨wo, rfl⟩ : ∃ wo : World, wo = wr := ⟨_, rfl⟩
      have HB := Lib.hid hb
      have HNO := Lib.hid hno
      clear hb hno
      by_cases hlt : k < l.length
      · have hlm : k < m.length := by have := HLM.out; omega
        have hd : decide ((k : Int) < (l.length : Int)) = true := by simp; omega
        obtain ⟨b1, off1, rfl, x0, x1, x2, x3⟩ := (HL.out _ HB.out).lk hlt
        obtain ⟨b2, off2, vp, vo, vf, rfl, y0, y1, y2, y3, y4, y5, y6, hym⟩ := (HM.out _ HB.out).rt hlm
        obtain ⟨s1, d1, rfl, -⟩ := hym.path.at_
        obtain ⟨s2, d2, rfl, -⟩ := hym.over.at_
        obtain ⟨s3, d3, rfl, -⟩ := hym.fl
        have i0 : (0 : Int) ≤ (k : Int) := by omega
        have i1 : (k : Int) < (l.length : Int) := by omega
        have i2 : (k : Int) < (m.length : Int) := by omega
        have l1 := World.block_lt_of_cell? _ _ x0
        have l2 := World.block_lt_of_cell? _ _ y0
        clear hym
        have HC : Hid (∀ W', Below wo.heap.size wo W' → Calls Tryz.prog f (#[.agg #[.int .i64 l[k].id, .int .u8 l[k].ph, .int .i64 l[k].gone, .int .i64 l[k].left], .agg #[.int .i64 m[k].id, .int .i64 m[k].entry, .int .i64 m[k].exit, .slice s1 m[k].path.length d1, .slice s2 m[k].over.length d2, .slice s3 m[k].fl.length d3, .int .i64 m[k].timer]] ++ caps) W' (BoolPost W' (decide (R l[k] m[k])))) := fun W' hb => HCL.out W' k hlt hlm s1 d1 s2 d2 s3 d3 (HB.out.trans (hb.mono HB.out.size))
        go_upto_region 7 with fail
        generalize hW : (wo.alloc _).alloc _ = W
        have hbW : Below wo.heap.size wo W := by rw [← hW]; exact ((Below.refl _ _).alloc (Nat.le_refl _) _).alloc (by simp) _
        have KW : Hid (Below w.heap.size w W) := HB.out.trans (hbW.mono HB.out.size)
        have HCW := Lib.hid (HC.out W hbW)
        have p0 : W.cell? ⟨wo.heap.size, 0, none⟩ = some (.int .i64 l[k].id) := by rw [← hW]; simp
        have p1 : W.cell? ⟨wo.heap.size, 1, none⟩ = some (.int .u8 l[k].ph) := by rw [← hW]; simp
        have p2 : W.cell? ⟨wo.heap.size, 2, none⟩ = some (.int .i64 l[k].gone) := by rw [← hW]; simp
        have p3 : W.cell? ⟨wo.heap.size, 3, none⟩ = some (.int .i64 l[k].left) := by rw [← hW]; simp
        have q0 : W.cell? ⟨wo.heap.size + 1, 0, none⟩ = some (.int .i64 m[k].id) := by rw [← hW]; simp
        have q1 : W.cell? ⟨wo.heap.size + 1, 1, none⟩ = some (.int .i64 m[k].entry) := by rw [← hW]; simp
        have q2 : W.cell? ⟨wo.heap.size + 1, 2, none⟩ = some (.int .i64 m[k].exit) := by rw [← hW]; simp
        have q3 : W.cell? ⟨wo.heap.size + 1, 3, none⟩ = some (.slice s1 m[k].path.length d1) := by rw [← hW]; simp
        have q4 : W.cell? ⟨wo.heap.size + 1, 4, none⟩ = some (.slice s2 m[k].over.length d2) := by rw [← hW]; simp
        have q5 : W.cell? ⟨wo.heap.size + 1, 5, none⟩ = some (.slice s3 m[k].fl.length d3) := by rw [← hW]; simp
        have q6 : W.cell? ⟨wo.heap.size + 1, 6, none⟩ = some (.int .i64 m[k].timer) := by rw [← hW]; simp
        clear hW hbW x0 x1 x2 x3 y0 y1 y2 y3 y4 y5 y6 l1 l2 HC
        by_cases hr : R l[k] m[k]
        · have hdr := decide_eq_true hr
          rw [hdr] at HCW
          have HS := Lib.hid (pairsTo_step hlt hlm HNO.out hr)
          clear hr hdr
          go_wp2_with fail
          refine HCW.out.mono ?_
          rintro e w1 ⟨rfl, hb1⟩
          have K1 : Hid (Below w.heap.size w w1) := KW.out.trans (hb1.mono KW.out.size)
          clear hb1 HCW p0 q0
          go_wp2_with fail
          go_roundg (l.length - (k + 1))
          case measure => go_light; omega
          case rel => go_light; exact ⟨k + 1, by omega, by omega, by go_num, K1.out, HS.out⟩
        · have hdr := decide_eq_false hr
          rw [hdr] at HCW
          have HS : Hid (Z = false) := HZ.out false (by rw [HE.out]; simp only [Bool.false_eq_true, false_iff]; exact fun h => hr (h.2 k hlt hlm hlt))
          clear hr hdr
          go_wp2_with fail
          refine HCW.out.mono ?_
          rintro e w1 ⟨rfl, hb1⟩
          have K1 : Hid (Below w.heap.size w w1) := KW.out.trans (hb1.mono KW.out.size)
          clear hb1 HCW p0 q0
          go_wp2_with fail
          go_ret
          exact ⟨rbool HS.out.symm, K1.out⟩
      · obtain rfl : k = l.length := by omega
        have hd : decide ((l.length : Int) < (l.length : Int)) = false := by simp
        have HS : Hid (Z = true) := HZ.out true (by rw [HE.out]; simp only [true_iff]; exact ⟨HLM.out, HNO.out⟩)
        go_wp2_with fail
        go_ret
        exact ⟨rbool HS.out.symm, HB.out⟩
  · have e0 : ((l.length : Int) != (m.length : Int)) = true := by simp; omega
    have HS : Hid (Z = false) := HZ.out false (by rw [HE.out]; simp only [Bool.false_eq_true, false_iff]; exact fun h => hlm0 h.1)
    clear hlm0
    go_enter Tryz.func288, Tryz.ntmps288
    go_wp2_with fail
    go_ret
    exact ⟨rbool HS.out.symm, Below.refl _ _⟩
end Go.Proofs.YtbiehpjhhopjaaaGreat
