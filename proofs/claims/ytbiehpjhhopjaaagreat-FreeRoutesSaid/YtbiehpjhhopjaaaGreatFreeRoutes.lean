/-
  The law FreeRoutes, where all that a route uses is free it is at rest, nobody holds any of its sections, all of them are known to be free, nobody asks its points, and no route under way has one of its signals: any plan, state and number.
-/
import Derived.Test.YtbiehpjhhopjaaaGreatRows
import Derived.Test.YtbiehpjhhopjaaaGreatFacts
import Derived.Test.YtbiehpjhhopjaaaGreatLawJ
import Derived.Test.YtbiehpjhhopjaaaGreatReadIn
import Derived.WalkKit
import Derived.ProofKit
import Derived.OpenShut
import Derived.ShutString
import Derived.ChangeOld
import Derived.Below
namespace Go.Proofs.YtbiehpjhhopjaaaGreat.freeRoutes
open Go.ChangeShapes Go.WideShapes Go.ChangeAt Go.RowKit
set_option linter.unusedVariables false

set_option maxRecDepth 100000 in
theorem lifted (os : Os) (started : os.Started) (H : Type) (enc : TypeId × Value → H) :
    ReturnsInHanded {} Tryz.checked os 10 .any (Rows.freeRoutesSpec.pre6 enc Tryz.prog Tryz.f10 Rows.freeRoutesRow.domain false) (Rows.freeRoutesSpec.post enc Tryz.prog Tryz.f10 false true false false) := by
  refine returnsInHanded_of_change (C := Tryz.checked) own_tryz started (by kernel_rfl) Tryz.func10
    (ChangeSpec.witness6 (enc := enc) (C := Tryz.checked) false ⟨#[], #[.agg #[.int .i64 0, .int .i64 0, .slice none 0 0, .slice none 0 0, .slice none 0 0, .slice none 0 0], .agg #[.slice none 0 0, .slice none 0 0, .slice none 0 0], .int .i64 0], []⟩ 8 (by kernel_rfl) (by kernel_rfl) (by kernel_rfl) (by kernel_rfl)) ?_
  intro W base args ds gs before hval0 hW hcnd _
  have hval : ∀ (j : Nat) t v, Tryz.f10.params[j]? = some t → args[j]? = some v → Value.okWide Tryz.prog W .any base t v := hval0
  have hW' := hW
  obtain ⟨p, q, hA0, hV, rfl, hfz, hnd⟩ := hW
  have hA : DataW.TrodAll enc Tryz.prog W 0 (fun _ => true) true Tryz.f10.params.toList args.toList ds p := hA0
  rw [Tryz.params10] at hA hval
  obtain ⟨v0, vs0, d0, ds0, p0, q0, hargs, rfl, rfl, h0, r0⟩ := trodAll_cons hA
  obtain ⟨v1, vs1, d1, ds1, p1, q1, rfl, rfl, rfl, h1, r1⟩ := trodAll_cons r0
  obtain ⟨v2, vs2, d2, ds2, p2, q2, rfl, rfl, rfl, h2, r2⟩ := trodAll_cons r1
  obtain ⟨rfl, rfl, rfl⟩ := trodAll_nil r2
  obtain rfl : args = #[v0, v1, v2] := by cases args; simp_all
  obtain ⟨rfl, rfl⟩ := trodVars_none hV
  have k0 := h0
  have lt0 : ∀ x ∈ p0, x.block < W.heap.size := by obtain ⟨m, hm⟩ := k0; exact DataW.trod_lt m _ _ _ hm
  obtain ⟨s0, g0, t0, u0, x0, rfl, hx0⟩ := plan_in (hval 0 28 v0 rfl rfl) h0
  have k1 := h1
  have lt1 : ∀ x ∈ p1, x.block < W.heap.size := by obtain ⟨m, hm⟩ := k1; exact DataW.trod_lt m _ _ _ hm
  obtain ⟨s1, g1, t1, x1, rfl, hx1⟩ := state_in (hval 1 33 v1 rfl rfl) h1
  obtain ⟨a2, rfl, rfl, rfl, w2⟩ := open_int Tryz.underlying3 (hval 2 3 v2 rfl rfl) h2
  clear hA0 hval0
  refine (freeRoutes_any x0 s0 g0 t0 u0 x1 s1 g1 t1 a2 W hx0 hx1).mono fun e W' ⟨he, bel⟩ => ?_
  subst he
  exact ⟨_, rfl, _, _, _, [], _, [], hW', trodAll_mk1 (shut_bool Tryz.underlying4 _), (trodAll_cons_mk (Below.trod laid_tryz (by kernel_rfl) (of_decide_eq_true (by kernel_rfl)) k0 bel lt0) (trodAll_cons_mk (Below.trod laid_tryz (by kernel_rfl) (of_decide_eq_true (by kernel_rfl)) k1 bel lt1) (trodAll_cons_mk (shut_int Tryz.underlying3 w2) trodAll_mk0))), rfl, bel.frame _, fun h => by cases h⟩

theorem f_k1 : Rows.freeRoutesRow.wf (OpenSpec.ofChange Rows.freeRoutesSpec) = true := by kernel_rfl
theorem f_k4 : Tryz.f10.params.all (Tryz.prog.readableRec ·) = true := by kernel_rfl
theorem f_k5 : namedTie Tryz.prog Rows.freeRoutesRow.named Rows.freeRoutesSpec.vars = true := by kernel_rfl
theorem f_k10 : (Rows.freeRoutesRow.inPlace == Tryz.prog.inPlace 10) = true := by kernel_rfl
theorem f_k11 : (Rows.freeRoutesRow.unfollowed == Tryz.prog.unfollowed 10) = true := by kernel_rfl
theorem f_k12 : (Rows.freeRoutesRow.recurses == Tryz.prog.recurses 10) = true := by kernel_rfl
theorem f_k13 : (Rows.freeRoutesRow.named == Tryz.prog.varsNamed 10) = true := by kernel_rfl
theorem f_k14 : (Rows.freeRoutesRow.maps == (Tryz.f10.params.toList ++ Rows.freeRoutesSpec.plain.varTypes Tryz.prog).any (Tryz.prog.mapsRec ·)) = true := by kernel_rfl
theorem f_k15 : (Rows.freeRoutesRow.ifaces == (Tryz.f10.params.toList ++ Rows.freeRoutesSpec.plain.varTypes Tryz.prog).any (Tryz.prog.ifacesRec ·)) = true := by kernel_rfl
theorem f_k16 : (Rows.freeRoutesRow.mapsOut == Tryz.prog.mapsAmong Tryz.f10.resultTypes.toList) = true := by kernel_rfl
theorem f_k17 : (Rows.freeRoutesRow.loops == (Tryz.f10.params.toList ++ Rows.freeRoutesSpec.plain.varTypes Tryz.prog).any (Tryz.prog.loopsFrom ·)) = true := by kernel_rfl
theorem f_k17b : (Rows.freeRoutesRow.wideKeys == (Tryz.f10.params.toList ++ Rows.freeRoutesSpec.plain.varTypes Tryz.prog ++ Tryz.f10.resultTypes.toList).any (Tryz.prog.wideKeysFrom ·)) = true := by kernel_rfl
theorem f_k18 : Rows.freeRoutesSpec.vars.all (Tryz.prog.varReadable ·) = true := by kernel_rfl
theorem f_k19 : Tryz.f10.resultTypes.all (fun t => Tryz.prog.readableRec t && decide (t < Tryz.prog.types.size)) = true := by kernel_rfl
theorem f_k20 : (Rows.freeRoutesRow.ifacesOut == Tryz.f10.resultTypes.toList.any (Tryz.prog.ifacesRec ·)) = true := by kernel_rfl
theorem f_k21 : (Rows.freeRoutesRow.loopsOut == Tryz.f10.resultTypes.toList.any (Tryz.prog.loopsFrom ·)) = true := by kernel_rfl
theorem f_k24b : (Rows.freeRoutesRow.lifted == Tryz.prog.liftsFinal) = true := by kernel_rfl
theorem f_k24c : (Tryz.prog.make == some Rows.freeRoutesRow.make) = true := by kernel_rfl
theorem f_k25 : (Rows.freeRoutesRow.kinds == (if Rows.freeRoutesRow.domain.isEmpty then [] else Tryz.f10.params.toList.map fun t => match Tryz.prog.underlying t with | some (.int k) => some k | _ => none)) = true := by kernel_rfl
theorem f_k26 : (Rows.freeRoutesRow.pinned == Rows.freeRoutesRow.pinnedBy) = true := by kernel_rfl
theorem f_k27 : (Rows.freeRoutesRow.veiled == (Tryz.f10.params.toList ++ Rows.freeRoutesSpec.plain.varTypes Tryz.prog ++ Tryz.f10.resultTypes.toList).any (Tryz.prog.veiledRec ·)) = true := by kernel_rfl
theorem f_k28 : Rows.freeRoutesRow.veiledFits Tryz.prog Tryz.f10.params.toList (Tryz.f10.params.toList ++ Rows.freeRoutesSpec.plain.varTypes Tryz.prog ++ Tryz.f10.resultTypes.toList) = true := by kernel_rfl
theorem f_named : Tryz.pinned.checked.prog.funcNamed Rows.freeRoutesRow.func = some 10 := by kernel_rfl
set_option maxRecDepth 100000 in
theorem f_closed : joinedFacts Tryz.prog 10 Tryz.f10 Rows.freeRoutesSpec Rows.freeRoutesRow = true :=
  jf_of f_k1 jf_laid jf_maps f_k4 f_k5 rfl jf_stops rfl jf_knobs f_k10 f_k11 f_k12 f_k13 f_k14 f_k15 f_k16 f_k17 f_k17b f_k18 f_k19 f_k20 f_k21 jf_plain rfl jf_heard jf_may f_k24b f_k24c f_k25 f_k26 f_k27 f_k28
theorem f_inst : Tryz.f10.isInstance Tryz.pinned.checked.prog Rows.freeRoutesRow.origin Rows.freeRoutesRow.targs := of_decide_eq_true (by kernel_rfl)
theorem f_wrap : Tryz.f10.isWrapper Tryz.pinned.checked.prog Rows.freeRoutesRow.wrapper Rows.freeRoutesRow.mainSum := by
  unfold Func.isWrapper
  first | (rw [if_pos (by decide +kernel)]; kernel_rfl) | (rw [if_neg (by decide +kernel)]; exact ⟨rfl, rfl⟩)
theorem over : Rows.freeRoutesRow.holds Tryz.pinned (OpenSpec.ofChange Rows.freeRoutesSpec) :=
  OpenClaim.holds_of_wide 10 Tryz.f10 rfl rfl rfl rfl rfl rfl rfl ⟨rfl, rfl, rfl, rfl, rfl⟩ rfl rfl rfl rfl rfl f_named Tryz.func10 f_closed f_inst f_wrap
    (fun os started H enc _ => lifted os started H enc)
theorem proved : Rows.FreeRoutesSaid := over
end Go.Proofs.YtbiehpjhhopjaaaGreat.freeRoutes
