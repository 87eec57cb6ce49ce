/-
  Numbers of a plan's elements, walked.
-/
import Derived.Test.YtbiehpjhhopjaaaGreatMem
set_option linter.unusedVariables false
namespace Go.Proofs.YtbiehpjhhopjaaaGreat
open Go.RowKit Go.Sort
theorem as_pt_pt (v : Value) (w : World) : Sem.run Tryz.prog (Instr.typeAssert (.iface 143 v) 20 143 true) w = .ok (.tuple #[v, .bool true]) w := by kernel_rfl
theorem as_sg_pt (v : Value) (w : World) : Sem.run Tryz.prog (Instr.typeAssert (.iface 145 v) 20 143 true) w = .ok (.tuple #[.agg #[.int .i64 0, .int .i64 0], .bool false]) w := by kernel_rfl
theorem as_sg_sg (v : Value) (w : World) : Sem.run Tryz.prog (Instr.typeAssert (.iface 145 v) 20 145 true) w = .ok (.tuple #[v, .bool true]) w := by kernel_rfl
theorem as_rt_pt (v : Value) (w : World) : Sem.run Tryz.prog (Instr.typeAssert (.iface 102 v) 20 143 true) w = .ok (.tuple #[.agg #[.int .i64 0, .int .i64 0], .bool false]) w := by kernel_rfl
theorem as_rt_sg (v : Value) (w : World) : Sem.run Tryz.prog (Instr.typeAssert (.iface 102 v) 20 145 true) w = .ok (.tuple #[.agg #[.int .i64 0, .int .i64 0, .int .i64 0], .bool false]) w := by kernel_rfl
theorem as_rt_rt (v : Value) (w : World) : Sem.run Tryz.prog (Instr.typeAssert (.iface 102 v) 20 102 true) w = .ok (.tuple #[v, .bool true]) w := by kernel_rfl
set_option maxRecDepth 100000 in
theorem ptId_any (id sec : Int) (w : World) : Calls Tryz.prog 413 #[.agg #[.int .i64 id, .int .i64 sec]] w fun e w' => e = .returned (.int .i64 id) ∧ Below w.heap.size w w' := by
  have h1 := as_pt_pt
  go_enter Tryz.func413, Tryz.ntmps413
  go_wp2_with fail
  go_ret
  exact ⟨rfl, ((Below.refl _ _).alloc (Nat.le_refl _) _).alloc (by simp) _⟩
set_option maxRecDepth 100000 in
theorem sgId_any (id sec en : Int) (w : World) : Calls Tryz.prog 414 #[.agg #[.int .i64 id, .int .i64 sec, .int .i64 en]] w fun e w' => e = .returned (.int .i64 id) ∧ Below w.heap.size w w' := by
  have h1 := as_sg_pt
  have h2 := as_sg_sg
  go_enter Tryz.func414, Tryz.ntmps414
  go_wp2_with fail
  go_ret
  exact ⟨rfl, ((Below.refl _ _).alloc (Nat.le_refl _) _).alloc (by simp) _⟩
set_option maxRecDepth 100000 in
theorem rtId_any (id entry exit timer : Int) (a b c : Option Addr) (la lb lc ca cb cc : Nat) (w : World) : Calls Tryz.prog 372 #[.agg #[.int .i64 id, .int .i64 entry, .int .i64 exit, .slice a la ca, .slice b lb cb, .slice c lc cc, .int .i64 timer]] w fun e w' => e = .returned (.int .i64 id) ∧ Below w.heap.size w w' := by
  have h1 := as_rt_pt
  have h2 := as_rt_sg
  have h3 := as_rt_rt
  go_enter Tryz.func372, Tryz.ntmps372
  go_wp2_with fail
  go_ret
  exact ⟨rfl, ((Below.refl _ _).alloc (Nat.le_refl _) _).alloc (by simp) _⟩
end Go.Proofs.YtbiehpjhhopjaaaGreat
