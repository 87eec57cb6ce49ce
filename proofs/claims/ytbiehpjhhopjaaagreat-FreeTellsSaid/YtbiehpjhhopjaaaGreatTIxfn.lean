/-
 slices.IndexFunc and slices.ContainsFunc, walked for whatever function value of one answer.
-/
import Derived.Test.YtbiehpjhhopjaaaGreatTMem
import Derived.Deep.LoopGhost
import Derived.Deep.Light
set_option linter.unusedVariables false
namespace Go.Proofs.YtbiehpjhhopjaaaGreat
open Go.RowKit
def PlainF (m : FuncId) : Prop := ∀ (args : Array Value) (w : World), Sem.run Tryz.prog (callFunc m args) w = .ok (.enter m args) w
theorem fix_ge {α : Type} (p : α → Bool) (l : List α) : decide (0 ≤ fix p l) = l.any p := by
 rcases fix_cases p l with ⟨h1, h2⟩ | ⟨k, hk, h1, h2, -⟩
 ·rw [h1]
  symm
  rw [show decide ((0 : Int) ≤ -1) = false from rfl, List.any_eq_false]
  intro x hx
  obtain ⟨i, hi, rfl⟩ := List.getElem_of_mem hx
  simp [h2 i hi]
 ·rw [h1]
  symm
  rw [show decide ((0 : Int) ≤ (k : Int)) = true by simp, List.any_eq_true]
  exact ⟨l[k], List.getElem_mem hk, h2⟩
def SaysPt (m : FuncId) (caps : Array Value) (pr : Pt → Bool) (l : List Pt) (w : World) : Prop :=
 ∀ W i (h : i < l.length), Below w.heap.size w W → Calls Tryz.prog m (#[.agg #[.int .i64 l[i].id, .int .i64 l[i].sec]] ++ caps) W fun e w' => e = .returned (.bool (pr l[i])) ∧ Below W.heap.size W w'
set_option maxRecDepth 100000 in
set_option maxHeartbeats 1000000 in
theorem ixfnPt (m : FuncId) (caps : Array Value) (pr : Pt → Bool) (a : Option Addr) (cap : Nat) (l : List Pt) (w : World) (hl : SlA w 2 RPt a cap l) (hm : l.length ≤ 1000) (hf : PlainF m) (hcl : SaysPt m caps pr l w) :
  Calls Tryz.prog 207 #[.slice a l.length cap, .func (.func m) #[] caps] w fun e w' => e = .returned (.int .i64 (fix pr l)) ∧ Below w.heap.size w w' := by
 have HL : Hid (∀ w', Below w.heap.size w w' → SlA w' 2 RPt a cap l) := fun w' hb => hl.below keeps_pt hb
 have hcf : ∀ (args : Array Value) (w : World), Sem.run Tryz.prog (callFunc m args) w = .ok (.enter m args) w := hf
 have HCL := Lib.hid hcl
 clear hl hcl hf
 go_enter Tryz.func207, Tryz.ntmps207
 go_wp2_with fail
 go_loopg [8] l.length (fun g i wr => ∃ k : Nat, k ≤ l.length ∧ g = l.length - k ∧ i = .int .i64 k ∧ Below w.heap.size w wr ∧ ∀ j (h : j < l.length), j < k → pr l[j] = false)
 case atStart => exact ⟨0, by omega, by omega, rfl, Below.refl _ _, fun j h h0 => by omega⟩
 case round =>
  obtain ⟨k, hk, rfl, rfl, hb, hno⟩ := hrel
  have HB := Lib.hid hb
  have HNO := Lib.hid hno
  clear hb hno
  by_cases hlt : k < l.length
  ·have hd : decide ((k : Int) < (l.length : Int)) = true := by simp; omega
   obtain ⟨b, off, rfl, x0, x1⟩ := (HL.out _ HB.out).pt hlt
   have c0 : (0 : Int) ≤ (k : Int) := by omega
   have c1 : (k : Int) < (l.length : Int) := by omega
   have HC : Hid (Calls Tryz.prog m (#[.agg #[.int .i64 l[k].id, .int .i64 l[k].sec]] ++ caps) wr fun e w' => e = .returned (.bool (pr l[k])) ∧ Below wr.heap.size wr w') := HCL.out wr k hlt HB.out
   cases hp : pr l[k] with
   | true =>
    have HE : Hid (fix pr l = (k : Int)) := fix_some hlt hp HNO.out
    rw [hp] at HC
    clear hp
    go_wp2_with fail
    refine HC.out.mono ?_
    rintro e0 w1 ⟨rfl, hb1⟩
    have K1 : Hid (Below w.heap.size w w1) := HB.out.trans (hb1.mono HB.out.size)
    clear hb1 HC
    go_wp2_with fail
    go_ret
    exact ⟨rint HE.out.symm, K1.out⟩
   | false =>
    have HE : Hid (∀ j (h : j < l.length), j < k + 1 → pr l[j] = false) := fun j h hj => by
     by_cases hjk : j = k
     ·subst hjk; exact hp
     ·exact HNO.out j h (by omega)
    rw [hp] at HC
    clear hp
    go_wp2_with fail
    refine HC.out.mono ?_
    rintro e0 w1 ⟨rfl, hb1⟩
    have K1 : Hid (Below w.heap.size w w1) := HB.out.trans (hb1.mono HB.out.size)
    clear hb1 HC
    go_wp2_with fail
    go_roundg (l.length - (k + 1))
    case measure => go_light; omega
    case rel => go_light; exact ⟨k + 1, by omega, by omega, by go_num, K1.out, HE.out⟩
  ·obtain rfl : k = l.length := by omega
   have hd : decide ((l.length : Int) < (l.length : Int)) = false := by simp
   have HE : Hid (fix pr l = -1) := fix_none fun j hj => HNO.out j hj hj
   go_wp2_with fail
   go_ret
   exact ⟨rint HE.out.symm, HB.out⟩
theorem confnPt (m : FuncId) (caps : Array Value) (pr : Pt → Bool) (a : Option Addr) (cap : Nat) (l : List Pt) (w : World) (hl : SlA w 2 RPt a cap l) (hm : l.length ≤ 1000) (hf : PlainF m) (hcl : SaysPt m caps pr l w) :
  Calls Tryz.prog 118 #[.slice a l.length cap, .func (.func m) #[] caps] w fun e w' => e = .returned (.bool (l.any pr)) ∧ Below w.heap.size w w' := by
 have HC := Lib.hid (ixfnPt m caps pr a cap l w hl hm hf hcl)
 have HE := Lib.hid (fix_ge pr l)
 clear hl hcl
 go_enter Tryz.func118, Tryz.ntmps118
 go_wp2_with fail
 refine HC.out.mono ?_
 rintro e w1 ⟨rfl, hb⟩
 have HB := Lib.hid hb
 clear hb
 generalize fix pr l = x at *
 go_wp2_with fail
 go_ret
 exact ⟨rbool HE.out, HB.out⟩
def SaysTk (m : FuncId) (caps : Array Value) (pr : Tk → Bool) (l : List Tk) (w : World) : Prop :=
 ∀ W i (h : i < l.length), Below w.heap.size w W → Calls Tryz.prog m (#[.agg #[.int .i64 l[i].id, .int .u8 l[i].is]] ++ caps) W fun e w' => e = .returned (.bool (pr l[i])) ∧ Below W.heap.size W w'
set_option maxRecDepth 100000 in
set_option maxHeartbeats 1000000 in
theorem ixfnTk (m : FuncId) (caps : Array Value) (pr : Tk → Bool) (a : Option Addr) (cap : Nat) (l : List Tk) (w : World) (hl : SlA w 2 RTk a cap l) (hm : l.length ≤ 1000) (hf : PlainF m) (hcl : SaysTk m caps pr l w) :
  Calls Tryz.prog 162 #[.slice a l.length cap, .func (.func m) #[] caps] w fun e w' => e = .returned (.int .i64 (fix pr l)) ∧ Below w.heap.size w w' := by
 have HL : Hid (∀ w', Below w.heap.size w w' → SlA w' 2 RTk a cap l) := fun w' hb => hl.below keeps_tk hb
 have hcf : ∀ (args : Array Value) (w : World), Sem.run Tryz.prog (callFunc m args) w = .ok (.enter m args) w := hf
 have HCL := Lib.hid hcl
 clear hl hcl hf
 go_enter Tryz.func162, Tryz.ntmps162
 go_wp2_with fail
 go_loopg [8] l.length (fun g i wr => ∃ k : Nat, k ≤ l.length ∧ g = l.length - k ∧ i = .int .i64 k ∧ Below w.heap.size w wr ∧ ∀ j (h : j < l.length), j < k → pr l[j] = false)
 case atStart => exact ⟨0, by omega, by omega, rfl, Below.refl _ _, fun j h h0 => by omega⟩
 case round =>
  obtain ⟨k, hk, rfl, rfl, hb, hno⟩ := hrel
  have HB := Lib.hid hb
  have HNO := Lib.hid hno
  clear hb hno
  by_cases hlt : k < l.length
  ·have hd : decide ((k : Int) < (l.length : Int)) = true := by simp; omega
   obtain ⟨b, off, rfl, x0, x1⟩ := (HL.out _ HB.out).tk hlt
   have c0 : (0 : Int) ≤ (k : Int) := by omega
   have c1 : (k : Int) < (l.length : Int) := by omega
   have HC : Hid (Calls Tryz.prog m (#[.agg #[.int .i64 l[k].id, .int .u8 l[k].is]] ++ caps) wr fun e w' => e = .returned (.bool (pr l[k])) ∧ Below wr.heap.size wr w') := HCL.out wr k hlt HB.out
   cases hp : pr l[k] with
   | true =>
    have HE : Hid (fix pr l = (k : Int)) := fix_some hlt hp HNO.out
    rw [hp] at HC
    clear hp
    go_wp2_with fail
    refine HC.out.mono ?_
    rintro e0 w1 ⟨rfl, hb1⟩
    have K1 : Hid (Below w.heap.size w w1) := HB.out.trans (hb1.mono HB.out.size)
    clear hb1 HC
    go_wp2_with fail
    go_ret
    exact ⟨rint HE.out.symm, K1.out⟩
   | false =>
    have HE : Hid (∀ j (h : j < l.length), j < k + 1 → pr l[j] = false) := fun j h hj => by
     by_cases hjk : j = k
     ·subst hjk; exact hp
     ·exact HNO.out j h (by omega)
    rw [hp] at HC
    clear hp
    go_wp2_with fail
    refine HC.out.mono ?_
    rintro e0 w1 ⟨rfl, hb1⟩
    have K1 : Hid (Below w.heap.size w w1) := HB.out.trans (hb1.mono HB.out.size)
    clear hb1 HC
    go_wp2_with fail
    go_roundg (l.length - (k + 1))
    case measure => go_light; omega
    case rel => go_light; exact ⟨k + 1, by omega, by omega, by go_num, K1.out, HE.out⟩
  ·obtain rfl : k = l.length := by omega
   have hd : decide ((l.length : Int) < (l.length : Int)) = false := by simp
   have HE : Hid (fix pr l = -1) := fix_none fun j hj => HNO.out j hj hj
   go_wp2_with fail
   go_ret
   exact ⟨rint HE.out.symm, HB.out⟩
def SaysSg (m : FuncId) (caps : Array Value) (pr : Sg → Bool) (l : List Sg) (w : World) : Prop :=
 ∀ W i (h : i < l.length), Below w.heap.size w W → Calls Tryz.prog m (#[.agg #[.int .i64 l[i].id, .int .i64 l[i].sec, .int .i64 l[i].en]] ++ caps) W fun e w' => e = .returned (.bool (pr l[i])) ∧ Below W.heap.size W w'
set_option maxRecDepth 100000 in
set_option maxHeartbeats 1000000 in
theorem ixfnSg (m : FuncId) (caps : Array Value) (pr : Sg → Bool) (a : Option Addr) (cap : Nat) (l : List Sg) (w : World) (hl : SlA w 3 RSg a cap l) (hm : l.length ≤ 1000) (hf : PlainF m) (hcl : SaysSg m caps pr l w) :
  Calls Tryz.prog 415 #[.slice a l.length cap, .func (.func m) #[] caps] w fun e w' => e = .returned (.int .i64 (fix pr l)) ∧ Below w.heap.size w w' := by
 have HL : Hid (∀ w', Below w.heap.size w w' → SlA w' 3 RSg a cap l) := fun w' hb => hl.below keeps_sg hb
 have hcf : ∀ (args : Array Value) (w : World), Sem.run Tryz.prog (callFunc m args) w = .ok (.enter m args) w := hf
 have HCL := Lib.hid hcl
 clear hl hcl hf
 go_enter Tryz.func415, Tryz.ntmps415
 go_wp2_with fail
 go_loopg [8] l.length (fun g i wr => ∃ k : Nat, k ≤ l.length ∧ g = l.length - k ∧ i = .int .i64 k ∧ Below w.heap.size w wr ∧ ∀ j (h : j < l.length), j < k → pr l[j] = false)
 case atStart => exact ⟨0, by omega, by omega, rfl, Below.refl _ _, fun j h h0 => by omega⟩
 case round =>
  obtain ⟨k, hk, rfl, rfl, hb, hno⟩ := hrel
  have HB := Lib.hid hb
  have HNO := Lib.hid hno
  clear hb hno
  by_cases hlt : k < l.length
  ·have hd : decide ((k : Int) < (l.length : Int)) = true := by simp; omega
   obtain ⟨b, off, rfl, x0, x1, x2⟩ := (HL.out _ HB.out).sg hlt
   have c0 : (0 : Int) ≤ (k : Int) := by omega
   have c1 : (k : Int) < (l.length : Int) := by omega
   have HC : Hid (Calls Tryz.prog m (#[.agg #[.int .i64 l[k].id, .int .i64 l[k].sec, .int .i64 l[k].en]] ++ caps) wr fun e w' => e = .returned (.bool (pr l[k])) ∧ Below wr.heap.size wr w') := HCL.out wr k hlt HB.out
   cases hp : pr l[k] with
   | true =>
    have HE : Hid (fix pr l = (k : Int)) := fix_some hlt hp HNO.out
    rw [hp] at HC
    clear hp
    go_wp2_with fail
    refine HC.out.mono ?_
    rintro e0 w1 ⟨rfl, hb1⟩
    have K1 : Hid (Below w.heap.size w w1) := HB.out.trans (hb1.mono HB.out.size)
    clear hb1 HC
    go_wp2_with fail
    go_ret
    exact ⟨rint HE.out.symm, K1.out⟩
   | false =>
    have HE : Hid (∀ j (h : j < l.length), j < k + 1 → pr l[j] = false) := fun j h hj => by
     by_cases hjk : j = k
     ·subst hjk; exact hp
     ·exact HNO.out j h (by omega)
    rw [hp] at HC
    clear hp
    go_wp2_with fail
    refine HC.out.mono ?_
    rintro e0 w1 ⟨rfl, hb1⟩
    have K1 : Hid (Below w.heap.size w w1) := HB.out.trans (hb1.mono HB.out.size)
    clear hb1 HC
    go_wp2_with fail
    go_roundg (l.length - (k + 1))
    case measure => go_light; omega
    case rel => go_light; exact ⟨k + 1, by omega, by omega, by go_num, K1.out, HE.out⟩
  ·obtain rfl : k = l.length := by omega
   have hd : decide ((l.length : Int) < (l.length : Int)) = false := by simp
   have HE : Hid (fix pr l = -1) := fix_none fun j hj => HNO.out j hj hj
   go_wp2_with fail
   go_ret
   exact ⟨rint HE.out.symm, HB.out⟩
def SaysLk (m : FuncId) (caps : Array Value) (pr : Lk → Bool) (l : List Lk) (w : World) : Prop :=
 ∀ W i (h : i < l.length), Below w.heap.size w W → Calls Tryz.prog m (#[.agg #[.int .i64 l[i].id, .int .u8 l[i].ph, .int .i64 l[i].gone, .int .i64 l[i].left]] ++ caps) W fun e w' => e = .returned (.bool (pr l[i])) ∧ Below W.heap.size W w'
set_option maxRecDepth 100000 in
set_option maxHeartbeats 1000000 in
theorem ixfnLk (m : FuncId) (caps : Array Value) (pr : Lk → Bool) (a : Option Addr) (cap : Nat) (l : List Lk) (w : World) (hl : SlA w 4 RLk a cap l) (hm : l.length ≤ 1000) (hf : PlainF m) (hcl : SaysLk m caps pr l w) :
  Calls Tryz.prog 253 #[.slice a l.length cap, .func (.func m) #[] caps] w fun e w' => e = .returned (.int .i64 (fix pr l)) ∧ Below w.heap.size w w' := by
 have HL : Hid (∀ w', Below w.heap.size w w' → SlA w' 4 RLk a cap l) := fun w' hb => hl.below keeps_lk hb
 have hcf : ∀ (args : Array Value) (w : World), Sem.run Tryz.prog (callFunc m args) w = .ok (.enter m args) w := hf
 have HCL := Lib.hid hcl
 clear hl hcl hf
 go_enter Tryz.func253, Tryz.ntmps253
 go_wp2_with fail
 go_loopg [8] l.length (fun g i wr => ∃ k : Nat, k ≤ l.length ∧ g = l.length - k ∧ i = .int .i64 k ∧ Below w.heap.size w wr ∧ ∀ j (h : j < l.length), j < k → pr l[j] = false)
 case atStart => exact ⟨0, by omega, by omega, rfl, Below.refl _ _, fun j h h0 => by omega⟩
 case round =>
  obtain ⟨k, hk, rfl, rfl, hb, hno⟩ := hrel
  have HB := Lib.hid hb
  have HNO := Lib.hid hno
  clear hb hno
  by_cases hlt : k < l.length
  ·have hd : decide ((k : Int) < (l.length : Int)) = true := by simp; omega
   obtain ⟨b, off, rfl, x0, x1, x2, x3⟩ := (HL.out _ HB.out).lk hlt
   have c0 : (0 : Int) ≤ (k : Int) := by omega
   have c1 : (k : Int) < (l.length : Int) := by omega
   have HC : Hid (Calls Tryz.prog m (#[.agg #[.int .i64 l[k].id, .int .u8 l[k].ph, .int .i64 l[k].gone, .int .i64 l[k].left]] ++ caps) wr fun e w' => e = .returned (.bool (pr l[k])) ∧ Below wr.heap.size wr w') := HCL.out wr k hlt HB.out
   cases hp : pr l[k] with
   | true =>
    have HE : Hid (fix pr l = (k : Int)) := fix_some hlt hp HNO.out
    rw [hp] at HC
    clear hp
    go_wp2_with fail
    refine HC.out.mono ?_
    rintro e0 w1 ⟨rfl, hb1⟩
    have K1 : Hid (Below w.heap.size w w1) := HB.out.trans (hb1.mono HB.out.size)
    clear hb1 HC
    go_wp2_with fail
    go_ret
    exact ⟨rint HE.out.symm, K1.out⟩
   | false =>
    have HE : Hid (∀ j (h : j < l.length), j < k + 1 → pr l[j] = false) := fun j h hj => by
     by_cases hjk : j = k
     ·subst hjk; exact hp
     ·exact HNO.out j h (by omega)
    rw [hp] at HC
    clear hp
    go_wp2_with fail
    refine HC.out.mono ?_
    rintro e0 w1 ⟨rfl, hb1⟩
    have K1 : Hid (Below w.heap.size w w1) := HB.out.trans (hb1.mono HB.out.size)
    clear hb1 HC
    go_wp2_with fail
    go_roundg (l.length - (k + 1))
    case measure => go_light; omega
    case rel => go_light; exact ⟨k + 1, by omega, by omega, by go_num, K1.out, HE.out⟩
  ·obtain rfl : k = l.length := by omega
   have hd : decide ((l.length : Int) < (l.length : Int)) = false := by simp
   have HE : Hid (fix pr l = -1) := fix_none fun j hj => HNO.out j hj hj
   go_wp2_with fail
   go_ret
   exact ⟨rint HE.out.symm, HB.out⟩
theorem confnLk (m : FuncId) (caps : Array Value) (pr : Lk → Bool) (a : Option Addr) (cap : Nat) (l : List Lk) (w : World) (hl : SlA w 4 RLk a cap l) (hm : l.length ≤ 1000) (hf : PlainF m) (hcl : SaysLk m caps pr l w) :
  Calls Tryz.prog 166 #[.slice a l.length cap, .func (.func m) #[] caps] w fun e w' => e = .returned (.bool (l.any pr)) ∧ Below w.heap.size w w' := by
 have HC := Lib.hid (ixfnLk m caps pr a cap l w hl hm hf hcl)
 have HE := Lib.hid (fix_ge pr l)
 clear hl hcl
 go_enter Tryz.func166, Tryz.ntmps166
 go_wp2_with fail
 refine HC.out.mono ?_
 rintro e w1 ⟨rfl, hb⟩
 have HB := Lib.hid hb
 clear hb
 generalize fix pr l = x at *
 go_wp2_with fail
 go_ret
 exact ⟨rbool HE.out, HB.out⟩
def SaysSec (m : FuncId) (caps : Array Value) (pr : Sec → Bool) (l : List Sec) (w : World) : Prop :=
 ∀ W i (h : i < l.length), Below w.heap.size w W → ∀ a' c', SlA W 2 RJn a' c' l[i].ends → Calls Tryz.prog m (#[.agg #[.int .i64 l[i].id, .int .i64 l[i].pt, .slice a' l[i].ends.length c']] ++ caps) W fun e w' => e = .returned (.bool (pr l[i])) ∧ Below W.heap.size W w'
set_option maxRecDepth 100000 in
set_option maxHeartbeats 1000000 in
theorem ixfnSec (m : FuncId) (caps : Array Value) (pr : Sec → Bool) (a : Option Addr) (cap : Nat) (l : List Sec) (w : World) (hl : SlA w 3 RSec a cap l) (hm : l.length ≤ 1000) (hf : PlainF m) (hcl : SaysSec m caps pr l w) :
  Calls Tryz.prog 206 #[.slice a l.length cap, .func (.func m) #[] caps] w fun e w' => e = .returned (.int .i64 (fix pr l)) ∧ Below w.heap.size w w' := by
 have HL : Hid (∀ w', Below w.heap.size w w' → SlA w' 3 RSec a cap l) := fun w' hb => hl.below keeps_sec hb
 have hcf : ∀ (args : Array Value) (w : World), Sem.run Tryz.prog (callFunc m args) w = .ok (.enter m args) w := hf
 have HCL := Lib.hid hcl
 clear hl hcl hf
 go_enter Tryz.func206, Tryz.ntmps206
 go_wp2_with fail
 go_loopg [8] l.length (fun g i wr => ∃ k : Nat, k ≤ l.length ∧ g = l.length - k ∧ i = .int .i64 k ∧ Below w.heap.size w wr ∧ ∀ j (h : j < l.length), j < k → pr l[j] = false)
 case atStart => exact ⟨0, by omega, by omega, rfl, Below.refl _ _, fun j h h0 => by omega⟩
 case round =>
  obtain ⟨k, hk, rfl, rfl, hb, hno⟩ := hrel
  have HB := Lib.hid hb
  have HNO := Lib.hid hno
  clear hb hno
  by_cases hlt : k < l.length
  ·have hd : decide ((k : Int) < (l.length : Int)) = true := by simp; omega
   obtain ⟨b, off, a', c', rfl, x0, x1, x2, hen⟩ := (HL.out _ HB.out).sec hlt
   have c0 : (0 : Int) ≤ (k : Int) := by omega
   have c1 : (k : Int) < (l.length : Int) := by omega
   have HC : Hid (Calls Tryz.prog m (#[.agg #[.int .i64 l[k].id, .int .i64 l[k].pt, .slice a' l[k].ends.length c']] ++ caps) wr fun e w' => e = .returned (.bool (pr l[k])) ∧ Below wr.heap.size wr w') := HCL.out wr k hlt HB.out a' c' hen
   cases hp : pr l[k] with
   | true =>
    have HE : Hid (fix pr l = (k : Int)) := fix_some hlt hp HNO.out
    rw [hp] at HC
    clear hp
    go_wp2_with fail
    refine HC.out.mono ?_
    rintro e0 w1 ⟨rfl, hb1⟩
    have K1 : Hid (Below w.heap.size w w1) := HB.out.trans (hb1.mono HB.out.size)
    clear hb1 HC
    go_wp2_with fail
    go_ret
    exact ⟨rint HE.out.symm, K1.out⟩
   | false =>
    have HE : Hid (∀ j (h : j < l.length), j < k + 1 → pr l[j] = false) := fun j h hj => by
     by_cases hjk : j = k
     ·subst hjk; exact hp
     ·exact HNO.out j h (by omega)
    rw [hp] at HC
    clear hp
    go_wp2_with fail
    refine HC.out.mono ?_
    rintro e0 w1 ⟨rfl, hb1⟩
    have K1 : Hid (Below w.heap.size w w1) := HB.out.trans (hb1.mono HB.out.size)
    clear hb1 HC
    go_wp2_with fail
    go_roundg (l.length - (k + 1))
    case measure => go_light; omega
    case rel => go_light; exact ⟨k + 1, by omega, by omega, by go_num, K1.out, HE.out⟩
  ·obtain rfl : k = l.length := by omega
   have hd : decide ((l.length : Int) < (l.length : Int)) = false := by simp
   have HE : Hid (fix pr l = -1) := fix_none fun j hj => HNO.out j hj hj
   go_wp2_with fail
   go_ret
   exact ⟨rint HE.out.symm, HB.out⟩
theorem confnSec (m : FuncId) (caps : Array Value) (pr : Sec → Bool) (a : Option Addr) (cap : Nat) (l : List Sec) (w : World) (hl : SlA w 3 RSec a cap l) (hm : l.length ≤ 1000) (hf : PlainF m) (hcl : SaysSec m caps pr l w) :
  Calls Tryz.prog 116 #[.slice a l.length cap, .func (.func m) #[] caps] w fun e w' => e = .returned (.bool (l.any pr)) ∧ Below w.heap.size w w' := by
 have HC := Lib.hid (ixfnSec m caps pr a cap l w hl hm hf hcl)
 have HE := Lib.hid (fix_ge pr l)
 clear hl hcl
 go_enter Tryz.func116, Tryz.ntmps116
 go_wp2_with fail
 refine HC.out.mono ?_
 rintro e w1 ⟨rfl, hb⟩
 have HB := Lib.hid hb
 clear hb
 generalize fix pr l = x at *
 go_wp2_with fail
 go_ret
 exact ⟨rbool HE.out, HB.out⟩
def SaysRt (m : FuncId) (caps : Array Value) (pr : Rt → Bool) (l : List Rt) (w : World) : Prop :=
 ∀ W i (h : i < l.length), Below w.heap.size w W → ∀ p1 p2 p3 o1 o2 o3 f1 f2 f3, RtM W (.slice p1 p2 p3) (.slice o1 o2 o3) (.slice f1 f2 f3) l[i] → Calls Tryz.prog m (#[.agg #[.int .i64 l[i].id, .int .i64 l[i].entry, .int .i64 l[i].exit, .slice p1 p2 p3, .slice o1 o2 o3, .slice f1 f2 f3, .int .i64 l[i].timer]] ++ caps) W fun e w' => e = .returned (.bool (pr l[i])) ∧ Below W.heap.size W w'
set_option maxRecDepth 100000 in
set_option maxHeartbeats 1000000 in
theorem ixfnRt (m : FuncId) (caps : Array Value) (pr : Rt → Bool) (a : Option Addr) (cap : Nat) (l : List Rt) (w : World) (hl : SlA w 7 RRt a cap l) (hm : l.length ≤ 1000) (hf : PlainF m) (hcl : SaysRt m caps pr l w) :
  Calls Tryz.prog 252 #[.slice a l.length cap, .func (.func m) #[] caps] w fun e w' => e = .returned (.int .i64 (fix pr l)) ∧ Below w.heap.size w w' := by
 have HL : Hid (∀ w', Below w.heap.size w w' → SlA w' 7 RRt a cap l) := fun w' hb => hl.below keeps_rt hb
 have hcf : ∀ (args : Array Value) (w : World), Sem.run Tryz.prog (callFunc m args) w = .ok (.enter m args) w := hf
 have HCL := Lib.hid hcl
 clear hl hcl hf
 go_enter Tryz.func252, Tryz.ntmps252
 go_wp2_with fail
 go_loopg [8] l.length (fun g i wr => ∃ k : Nat, k ≤ l.length ∧ g = l.length - k ∧ i = .int .i64 k ∧ Below w.heap.size w wr ∧ ∀ j (h : j < l.length), j < k → pr l[j] = false)
 case atStart => exact ⟨0, by omega, by omega, rfl, Below.refl _ _, fun j h h0 => by omega⟩
 case round =>
  obtain ⟨k, hk, rfl, rfl, hb, hno⟩ := hrel
  have HB := Lib.hid hb
  have HNO := Lib.hid hno
  clear hb hno
  by_cases hlt : k < l.length
  ·have hd : decide ((k : Int) < (l.length : Int)) = true := by simp; omega
   obtain ⟨b, off, pv, ov, fv, rfl, x0, x1, x2, x3, x4, x5, x6, hrt⟩ := (HL.out _ HB.out).rt hlt
   obtain ⟨p1, p2, p3, rfl⟩ : ∃ p1 p2 p3, pv = .slice p1 p2 p3 := by obtain ⟨p1, p2, p3, h, -⟩ := hrt.path; exact ⟨p1, p2, p3, h⟩
   obtain ⟨o1, o2, o3, rfl⟩ : ∃ o1 o2 o3, ov = .slice o1 o2 o3 := by obtain ⟨p1, p2, p3, h, -⟩ := hrt.over; exact ⟨p1, p2, p3, h⟩
   obtain ⟨f1, f2, f3, rfl⟩ : ∃ f1 f2 f3, fv = .slice f1 f2 f3 := by obtain ⟨p1, p3, h, -⟩ := hrt.fl; exact ⟨p1, _, p3, h⟩
   have c0 : (0 : Int) ≤ (k : Int) := by omega
   have c1 : (k : Int) < (l.length : Int) := by omega
   have HC : Hid (Calls Tryz.prog m (#[.agg #[.int .i64 l[k].id, .int .i64 l[k].entry, .int .i64 l[k].exit, .slice p1 p2 p3, .slice o1 o2 o3, .slice f1 f2 f3, .int .i64 l[k].timer]] ++ caps) wr fun e w' => e = .returned (.bool (pr l[k])) ∧ Below wr.heap.size wr w') := HCL.out wr k hlt HB.out p1 p2 p3 o1 o2 o3 f1 f2 f3 hrt
   cases hp : pr l[k] with
   | true =>
    have HE : Hid (fix pr l = (k : Int)) := fix_some hlt hp HNO.out
    rw [hp] at HC
    clear hp
    go_wp2_with fail
    refine HC.out.mono ?_
    rintro e0 w1 ⟨rfl, hb1⟩
    have K1 : Hid (Below w.heap.size w w1) := HB.out.trans (hb1.mono HB.out.size)
    clear hb1 HC
    go_wp2_with fail
    go_ret
    exact ⟨rint HE.out.symm, K1.out⟩
   | false =>
    have HE : Hid (∀ j (h : j < l.length), j < k + 1 → pr l[j] = false) := fun j h hj => by
     by_cases hjk : j = k
     ·subst hjk; exact hp
     ·exact HNO.out j h (by omega)
    rw [hp] at HC
    clear hp
    go_wp2_with fail
    refine HC.out.mono ?_
    rintro e0 w1 ⟨rfl, hb1⟩
    have K1 : Hid (Below w.heap.size w w1) := HB.out.trans (hb1.mono HB.out.size)
    clear hb1 HC
    go_wp2_with fail
    go_roundg (l.length - (k + 1))
    case measure => go_light; omega
    case rel => go_light; exact ⟨k + 1, by omega, by omega, by go_num, K1.out, HE.out⟩
  ·obtain rfl : k = l.length := by omega
   have hd : decide ((l.length : Int) < (l.length : Int)) = false := by simp
   have HE : Hid (fix pr l = -1) := fix_none fun j hj => HNO.out j hj hj
   go_wp2_with fail
   go_ret
   exact ⟨rint HE.out.symm, HB.out⟩
theorem confnRt (m : FuncId) (caps : Array Value) (pr : Rt → Bool) (a : Option Addr) (cap : Nat) (l : List Rt) (w : World) (hl : SlA w 7 RRt a cap l) (hm : l.length ≤ 1000) (hf : PlainF m) (hcl : SaysRt m caps pr l w) :
  Calls Tryz.prog 164 #[.slice a l.length cap, .func (.func m) #[] caps] w fun e w' => e = .returned (.bool (l.any pr)) ∧ Below w.heap.size w w' := by
 have HC := Lib.hid (ixfnRt m caps pr a cap l w hl hm hf hcl)
 have HE := Lib.hid (fix_ge pr l)
 clear hl hcl
 go_enter Tryz.func164, Tryz.ntmps164
 go_wp2_with fail
 refine HC.out.mono ?_
 rintro e w1 ⟨rfl, hb⟩
 have HB := Lib.hid hb
 clear hb
 generalize fix pr l = x at *
 go_wp2_with fail
 go_ret
 exact ⟨rbool HE.out, HB.out⟩
end Go.Proofs.YtbiehpjhhopjaaaGreat
