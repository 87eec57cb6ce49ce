/-
 The law FreeTells, whether an area is free, what is odd of it and the errors are as the references have them, whatever plan, state and area are handed in.
-/
import Derived.Test.YtbiehpjhhopjaaaGreatRows
import Derived.Test.YtbiehpjhhopjaaaGreatTFacts
import Derived.Test.YtbiehpjhhopjaaaGreatTLawK
import Derived.Test.YtbiehpjhhopjaaaGreatTReadIn
import Derived.WalkKit
import Derived.ProofKit
import Derived.OpenShut
import Derived.ShutString
import Derived.ChangeOld
import Derived.Below
namespace Go.Proofs.YtbiehpjhhopjaaaGreat.freeTells
open Go.ChangeShapes Go.WideShapes Go.ChangeAt Go.RowKit
set_option linter.unusedVariables false
set_option maxRecDepth 100000 in
theorem lifted (os : Os) (started : os.Started) (H : Type) (enc : TypeId × Value → H) :
  ReturnsInHanded {} Tryz.checked os 5 .any (Rows.freeTellsSpec.pre6 enc Tryz.prog Tryz.f5 Rows.freeTellsRow.domain false) (Rows.freeTellsSpec.post enc Tryz.prog Tryz.f5 false true false false) := by
 refine returnsInHanded_of_change (C := Tryz.checked) own_tryz started (by kernel_rfl) Tryz.func5
  (ChangeSpec.witness6 (enc := enc) (C := Tryz.checked) false ⟨#[], #[.agg #[.int .i64 0, .int .i64 0, .slice none 0 0, .slice none 0 0, .slice none 0 0, .slice none 0 0], .agg #[.slice none 0 0, .slice none 0 0, .slice none 0 0], .agg #[.slice none 0 0, .slice none 0 0, .slice none 0 0, .slice none 0 0]], []⟩ 8 (by kernel_rfl) (by kernel_rfl) (by kernel_rfl) (by kernel_rfl)) ?_
 intro W base args ds gs before hval0 hW hcnd _
 have hval : ∀ (j : Nat) t v, Tryz.f5.params[j]? = some t → args[j]? = some v → Value.okWide Tryz.prog W .any base t v := hval0
 have hW' := hW
 obtain ⟨p, q, hA0, hV, rfl, hfz, hnd⟩ := hW
 have hA : DataW.TrodAll enc Tryz.prog W 0 (fun _ => true) true Tryz.f5.params.toList args.toList ds p := hA0
 rw [Tryz.params5] at hA hval
 obtain ⟨v0, vs0, d0, ds0, p0, q0, hargs, rfl, rfl, h0, r0⟩ := trodAll_cons hA
 obtain ⟨v1, vs1, d1, ds1, p1, q1, rfl, rfl, rfl, h1, r1⟩ := trodAll_cons r0
 obtain ⟨v2, vs2, d2, ds2, p2, q2, rfl, rfl, rfl, h2, r2⟩ := trodAll_cons r1
 obtain ⟨rfl, rfl, rfl⟩ := trodAll_nil r2
 obtain rfl : args = #[v0, v1, v2] := by cases args; simp_all
 obtain ⟨rfl, rfl⟩ := trodVars_none hV
 have k0 := h0
 have lt0 : ∀ x ∈ p0, x.block < W.heap.size := by obtain ⟨m, hm⟩ := k0; exact DataW.trod_lt m _ _ _ hm
 obtain ⟨s0, g0, t0, u0, x0, rfl, hx0⟩ := plan_in (hval 0 28 v0 rfl rfl) h0
 have k1 := h1
 have lt1 : ∀ x ∈ p1, x.block < W.heap.size := by obtain ⟨m, hm⟩ := k1; exact DataW.trod_lt m _ _ _ hm
 obtain ⟨s1, g1, t1, x1, rfl, hx1⟩ := state_in (hval 1 33 v1 rfl rfl) h1
 have k2 := h2
 have lt2 : ∀ x ∈ p2, x.block < W.heap.size := by obtain ⟨m, hm⟩ := k2; exact DataW.trod_lt m _ _ _ hm
 obtain ⟨s2, g2, t2, u2, x2, rfl, hx2⟩ := area_in (hval 2 56 v2 rfl rfl) h2
 clear hA0 hval0
 refine (freeTells_any x0 s0 g0 t0 u0 x1 s1 g1 t1 x2 s2 g2 t2 u2 W hx0 hx1 hx2).mono fun e W' ⟨he, bel⟩ => ?_
 subst he
 exact ⟨_, rfl, _, _, _, [], _, [], hW', trodAll_mk1 (shut_bool Tryz.underlying4 _), (trodAll_cons_mk (Below.trod laid_tryz (by kernel_rfl) (of_decide_eq_true (by kernel_rfl)) k0 bel lt0) (trodAll_cons_mk (Below.trod laid_tryz (by kernel_rfl) (of_decide_eq_true (by kernel_rfl)) k1 bel lt1) (trodAll_cons_mk (Below.trod laid_tryz (by kernel_rfl) (of_decide_eq_true (by kernel_rfl)) k2 bel lt2) trodAll_mk0))), rfl, bel.frame _, fun h => by cases h⟩
theorem f_k1 : Rows.freeTellsRow.wf (OpenSpec.ofChange Rows.freeTellsSpec) = true := by kernel_rfl
theorem f_k4 : Tryz.f5.params.all (Tryz.prog.readableRec ·) = true := by kernel_rfl
theorem f_k5 : namedTie Tryz.prog Rows.freeTellsRow.named Rows.freeTellsSpec.vars = true := by kernel_rfl
theorem f_k10 : (Rows.freeTellsRow.inPlace == Tryz.prog.inPlace 5) = true := by kernel_rfl
theorem f_k11 : (Rows.freeTellsRow.unfollowed == Tryz.prog.unfollowed 5) = true := by kernel_rfl
theorem f_k12 : (Rows.freeTellsRow.recurses == Tryz.prog.recurses 5) = true := by kernel_rfl
theorem f_k13 : (Rows.freeTellsRow.named == Tryz.prog.varsNamed 5) = true := by kernel_rfl
theorem f_k14 : (Rows.freeTellsRow.maps == (Tryz.f5.params.toList ++ Rows.freeTellsSpec.plain.varTypes Tryz.prog).any (Tryz.prog.mapsRec ·)) = true := by kernel_rfl
theorem f_k15 : (Rows.freeTellsRow.ifaces == (Tryz.f5.params.toList ++ Rows.freeTellsSpec.plain.varTypes Tryz.prog).any (Tryz.prog.ifacesRec ·)) = true := by kernel_rfl
theorem f_k16 : (Rows.freeTellsRow.mapsOut == Tryz.prog.mapsAmong Tryz.f5.resultTypes.toList) = true := by kernel_rfl
theorem f_k17 : (Rows.freeTellsRow.loops == (Tryz.f5.params.toList ++ Rows.freeTellsSpec.plain.varTypes Tryz.prog).any (Tryz.prog.loopsFrom ·)) = true := by kernel_rfl
theorem f_k17b : (Rows.freeTellsRow.wideKeys == (Tryz.f5.params.toList ++ Rows.freeTellsSpec.plain.varTypes Tryz.prog ++ Tryz.f5.resultTypes.toList).any (Tryz.prog.wideKeysFrom ·)) = true := by kernel_rfl
theorem f_k18 : Rows.freeTellsSpec.vars.all (Tryz.prog.varReadable ·) = true := by kernel_rfl
theorem f_k19 : Tryz.f5.resultTypes.all (fun t => Tryz.prog.readableRec t && decide (t < Tryz.prog.types.size)) = true := by kernel_rfl
theorem f_k20 : (Rows.freeTellsRow.ifacesOut == Tryz.f5.resultTypes.toList.any (Tryz.prog.ifacesRec ·)) = true := by kernel_rfl
theorem f_k21 : (Rows.freeTellsRow.loopsOut == Tryz.f5.resultTypes.toList.any (Tryz.prog.loopsFrom ·)) = true := by kernel_rfl
theorem f_k24b : (Rows.freeTellsRow.lifted == Tryz.prog.liftsFinal) = true := by kernel_rfl
theorem f_k24c : (Tryz.prog.make == some Rows.freeTellsRow.make) = true := by kernel_rfl
theorem f_k25 : (Rows.freeTellsRow.kinds == (if Rows.freeTellsRow.domain.isEmpty then [] else Tryz.f5.params.toList.map fun t => match Tryz.prog.underlying t with | some (.int k) => some k | _ => none)) = true := by kernel_rfl
theorem f_k26 : (Rows.freeTellsRow.pinned == Rows.freeTellsRow.pinnedBy) = true := by kernel_rfl
theorem f_k27 : (Rows.freeTellsRow.veiled == (Tryz.f5.params.toList ++ Rows.freeTellsSpec.plain.varTypes Tryz.prog ++ Tryz.f5.resultTypes.toList).any (Tryz.prog.veiledRec ·)) = true := by kernel_rfl
theorem f_k28 : Rows.freeTellsRow.veiledFits Tryz.prog Tryz.f5.params.toList (Tryz.f5.params.toList ++ Rows.freeTellsSpec.plain.varTypes Tryz.prog ++ Tryz.f5.resultTypes.toList) = true := by kernel_rfl
theorem f_named : Tryz.pinned.checked.prog.funcNamed Rows.freeTellsRow.func = some 5 := by kernel_rfl
set_option maxRecDepth 100000 in
theorem f_closed : joinedFacts Tryz.prog 5 Tryz.f5 Rows.freeTellsSpec Rows.freeTellsRow = true :=
 jf_of f_k1 jf_laid jf_maps f_k4 f_k5 rfl jf_stops rfl jf_knobs f_k10 f_k11 f_k12 f_k13 f_k14 f_k15 f_k16 f_k17 f_k17b f_k18 f_k19 f_k20 f_k21 jf_plain rfl jf_heard jf_may f_k24b f_k24c f_k25 f_k26 f_k27 f_k28
theorem f_inst : Tryz.f5.isInstance Tryz.pinned.checked.prog Rows.freeTellsRow.origin Rows.freeTellsRow.targs := of_decide_eq_true (by kernel_rfl)
theorem f_wrap : Tryz.f5.isWrapper Tryz.pinned.checked.prog Rows.freeTellsRow.wrapper Rows.freeTellsRow.mainSum := by
 unfold Func.isWrapper
 first | (rw [if_pos (by decide +kernel)]; kernel_rfl) | (rw [if_neg (by decide +kernel)]; exact ⟨rfl, rfl⟩)
theorem over : Rows.freeTellsRow.holds Tryz.pinned (OpenSpec.ofChange Rows.freeTellsSpec) :=
 OpenClaim.holds_of_wide 5 Tryz.f5 rfl rfl rfl rfl rfl rfl rfl ⟨rfl, rfl, rfl, rfl, rfl⟩ rfl rfl rfl rfl rfl f_named Tryz.func5 f_closed f_inst f_wrap
  (fun os started H enc _ => lifted os started H enc)
theorem proved : Rows.FreeTellsSaid := over
end Go.Proofs.YtbiehpjhhopjaaaGreat.freeTells
