/-
  The law FreeNames, the chapter's examples of areas that are free, returns true; no condition.
-/
import Derived.Test.YtbiehpjhhopjaaaGreatRows
import Derived.Test.YtbiehpjhhopjaaaGreatFacts
import Derived.Test.YtbiehpjhhopjaaaGreatLawF
import Derived.Test.YtbiehpjhhopjaaaGreatReadIn
import Derived.WalkKit
import Derived.ProofKit
import Derived.OpenShut
import Derived.ShutString
import Derived.ChangeOld
import Derived.Below
namespace Go.Proofs.YtbiehpjhhopjaaaGreat.freeNames
open Go.ChangeShapes Go.WideShapes Go.ChangeAt Go.RowKit
set_option linter.unusedVariables false

set_option maxRecDepth 100000 in
theorem lifted (os : Os) (started : os.Started) (H : Type) (enc : TypeId × Value → H) :
    ReturnsInHanded {} Tryz.checked os 6 .any (Rows.freeNamesSpec.pre6 enc Tryz.prog Tryz.f6 Rows.freeNamesRow.domain false) (Rows.freeNamesSpec.post enc Tryz.prog Tryz.f6 false true false false) := by
  refine returnsInHanded_of_change (C := Tryz.checked) own_tryz started (by kernel_rfl) Tryz.func6
    (ChangeSpec.witness6 (enc := enc) (C := Tryz.checked) false ⟨#[], #[], []⟩ 8 (by kernel_rfl) (by kernel_rfl) (by kernel_rfl) (by kernel_rfl)) ?_
  intro W base args ds gs before hval0 hW hcnd _
  have hval : ∀ (j : Nat) t v, Tryz.f6.params[j]? = some t → args[j]? = some v → Value.okWide Tryz.prog W .any base t v := hval0
  have hW' := hW
  obtain ⟨p, q, hA0, hV, rfl, hfz, hnd⟩ := hW
  have hA : DataW.TrodAll enc Tryz.prog W 0 (fun _ => true) true Tryz.f6.params.toList args.toList ds p := hA0
  rw [Tryz.params6] at hA hval
  obtain ⟨rfl, rfl, rfl⟩ := trodAll_none hA
  obtain ⟨rfl, rfl⟩ := trodVars_none hV
  clear hA0 hval0
  simp only [List.append_nil] at hW'
  refine (names_any  W ).mono fun e W' ⟨he, bel⟩ => ?_
  subst he
  exact ⟨_, rfl, _, _, _, [], [], [], hW', trodAll_mk1 (shut_bool Tryz.underlying4 _), trodAll_mk0, rfl, bel.frame _, fun h => by cases h⟩

theorem f_k1 : Rows.freeNamesRow.wf (OpenSpec.ofChange Rows.freeNamesSpec) = true := by kernel_rfl
theorem f_k4 : Tryz.f6.params.all (Tryz.prog.readableRec ·) = true := by kernel_rfl
theorem f_k5 : namedTie Tryz.prog Rows.freeNamesRow.named Rows.freeNamesSpec.vars = true := by kernel_rfl
theorem f_k10 : (Rows.freeNamesRow.inPlace == Tryz.prog.inPlace 6) = true := by kernel_rfl
theorem f_k11 : (Rows.freeNamesRow.unfollowed == Tryz.prog.unfollowed 6) = true := by kernel_rfl
theorem f_k12 : (Rows.freeNamesRow.recurses == Tryz.prog.recurses 6) = true := by kernel_rfl
theorem f_k13 : (Rows.freeNamesRow.named == Tryz.prog.varsNamed 6) = true := by kernel_rfl
theorem f_k14 : (Rows.freeNamesRow.maps == (Tryz.f6.params.toList ++ Rows.freeNamesSpec.plain.varTypes Tryz.prog).any (Tryz.prog.mapsRec ·)) = true := by kernel_rfl
theorem f_k15 : (Rows.freeNamesRow.ifaces == (Tryz.f6.params.toList ++ Rows.freeNamesSpec.plain.varTypes Tryz.prog).any (Tryz.prog.ifacesRec ·)) = true := by kernel_rfl
theorem f_k16 : (Rows.freeNamesRow.mapsOut == Tryz.prog.mapsAmong Tryz.f6.resultTypes.toList) = true := by kernel_rfl
theorem f_k17 : (Rows.freeNamesRow.loops == (Tryz.f6.params.toList ++ Rows.freeNamesSpec.plain.varTypes Tryz.prog).any (Tryz.prog.loopsFrom ·)) = true := by kernel_rfl
theorem f_k17b : (Rows.freeNamesRow.wideKeys == (Tryz.f6.params.toList ++ Rows.freeNamesSpec.plain.varTypes Tryz.prog ++ Tryz.f6.resultTypes.toList).any (Tryz.prog.wideKeysFrom ·)) = true := by kernel_rfl
theorem f_k18 : Rows.freeNamesSpec.vars.all (Tryz.prog.varReadable ·) = true := by kernel_rfl
theorem f_k19 : Tryz.f6.resultTypes.all (fun t => Tryz.prog.readableRec t && decide (t < Tryz.prog.types.size)) = true := by kernel_rfl
theorem f_k20 : (Rows.freeNamesRow.ifacesOut == Tryz.f6.resultTypes.toList.any (Tryz.prog.ifacesRec ·)) = true := by kernel_rfl
theorem f_k21 : (Rows.freeNamesRow.loopsOut == Tryz.f6.resultTypes.toList.any (Tryz.prog.loopsFrom ·)) = true := by kernel_rfl
theorem f_k24b : (Rows.freeNamesRow.lifted == Tryz.prog.liftsFinal) = true := by kernel_rfl
theorem f_k24c : (Tryz.prog.make == some Rows.freeNamesRow.make) = true := by kernel_rfl
theorem f_k25 : (Rows.freeNamesRow.kinds == (if Rows.freeNamesRow.domain.isEmpty then [] else Tryz.f6.params.toList.map fun t => match Tryz.prog.underlying t with | some (.int k) => some k | _ => none)) = true := by kernel_rfl
theorem f_k26 : (Rows.freeNamesRow.pinned == Rows.freeNamesRow.pinnedBy) = true := by kernel_rfl
theorem f_k27 : (Rows.freeNamesRow.veiled == (Tryz.f6.params.toList ++ Rows.freeNamesSpec.plain.varTypes Tryz.prog ++ Tryz.f6.resultTypes.toList).any (Tryz.prog.veiledRec ·)) = true := by kernel_rfl
theorem f_k28 : Rows.freeNamesRow.veiledFits Tryz.prog Tryz.f6.params.toList (Tryz.f6.params.toList ++ Rows.freeNamesSpec.plain.varTypes Tryz.prog ++ Tryz.f6.resultTypes.toList) = true := by kernel_rfl
theorem f_named : Tryz.pinned.checked.prog.funcNamed Rows.freeNamesRow.func = some 6 := by kernel_rfl
set_option maxRecDepth 100000 in
theorem f_closed : joinedFacts Tryz.prog 6 Tryz.f6 Rows.freeNamesSpec Rows.freeNamesRow = true :=
  jf_of f_k1 jf_laid jf_maps f_k4 f_k5 rfl jf_stops rfl jf_knobs f_k10 f_k11 f_k12 f_k13 f_k14 f_k15 f_k16 f_k17 f_k17b f_k18 f_k19 f_k20 f_k21 jf_plain rfl jf_heard jf_may f_k24b f_k24c f_k25 f_k26 f_k27 f_k28
theorem f_inst : Tryz.f6.isInstance Tryz.pinned.checked.prog Rows.freeNamesRow.origin Rows.freeNamesRow.targs := of_decide_eq_true (by kernel_rfl)
theorem f_wrap : Tryz.f6.isWrapper Tryz.pinned.checked.prog Rows.freeNamesRow.wrapper Rows.freeNamesRow.mainSum := by
  unfold Func.isWrapper
  first | (rw [if_pos (by decide +kernel)]; kernel_rfl) | (rw [if_neg (by decide +kernel)]; exact ⟨rfl, rfl⟩)
theorem over : Rows.freeNamesRow.holds Tryz.pinned (OpenSpec.ofChange Rows.freeNamesSpec) :=
  OpenClaim.holds_of_wide 6 Tryz.f6 rfl rfl rfl rfl rfl rfl rfl ⟨rfl, rfl, rfl, rfl, rfl⟩ rfl rfl rfl rfl rfl f_named Tryz.func6 f_closed f_inst f_wrap
    (fun os started H enc _ => lifted os started H enc)
theorem proved : Rows.FreeNamesSaid := over
end Go.Proofs.YtbiehpjhhopjaaaGreat.freeNames
