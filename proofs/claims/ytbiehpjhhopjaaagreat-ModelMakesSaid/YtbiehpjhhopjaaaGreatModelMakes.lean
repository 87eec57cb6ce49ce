/-
 The law ModelMakes returns true and leaves its arguments as they were for any key, plan and two houses: interlockings are made, checked, compared and copied, and what a loss of power leaves of them is told, as the document's answer says (great houses, great plans and keys above 1,000 bytes are answered true at once, by the law itself); no condition.
-/
import Derived.Test.YtbiehpjhhopjaaaGreatRows
import Derived.Test.YtbiehpjhhopjaaaGreatTFacts
import Derived.Test.YtbiehpjhhopjaaaGreatTReadW
import Derived.JoinedOf
import Derived.WalkKit
import Derived.ProofKit
import Derived.OpenShut
import Derived.ShutString
import Derived.ChangeOld
import Derived.Below
namespace Go.Proofs.YtbiehpjhhopjaaaGreat.modelMakes
open Go.ChangeShapes Go.WideShapes Go.ChangeAt Go.RowKit
set_option linter.unusedVariables false
set_option maxRecDepth 100000 in
theorem lifted (os : Os) (started : os.Started) (H : Type) (enc : TypeId × Value → H) :
  ReturnsInHanded {} Tryz.checked os 3 .any (Rows.modelMakesSpec.pre6 enc Tryz.prog Tryz.f3 Rows.modelMakesRow.domain false) (Rows.modelMakesSpec.post enc Tryz.prog Tryz.f3 false true false false) := by
 refine zzt (C := Tryz.checked) zy1 started (by kernel_rfl) Tryz.func3
  (ChangeSpec.witness6 (enc := enc) (C := Tryz.checked) false ⟨#[], #[.slice none 0 0, .agg #[.int .i64 0, .int .i64 0, .slice none 0 0, .slice none 0 0, .slice none 0 0, .slice none 0 0], .agg #[.slice none 0 0, .int .i64 0, .int .i64 0, .slice none 0 0, .slice none 0 0, .slice none 0 0, .slice none 0 0, .int .i64 0, .int .i64 0, .slice none 0 0, .slice none 0 0, .slice none 0 0, .slice none 0 0, .int .i64 0, .slice none 0 0, .slice none 0 0, .slice none 0 0, .slice none 0 0, .int .i64 0, .int .i64 0, .slice none 0 0, .slice none 0 0, .slice none 0 0, .slice none 0 0, .bool false], .agg #[.slice none 0 0, .int .i64 0, .int .i64 0, .slice none 0 0, .slice none 0 0, .slice none 0 0, .slice none 0 0, .int .i64 0, .int .i64 0, .slice none 0 0, .slice none 0 0, .slice none 0 0, .slice none 0 0, .int .i64 0, .slice none 0 0, .slice none 0 0, .slice none 0 0, .slice none 0 0, .int .i64 0, .int .i64 0, .slice none 0 0, .slice none 0 0, .slice none 0 0, .slice none 0 0, .bool false]], []⟩ 8 (by kernel_rfl) (by kernel_rfl) (by kernel_rfl) (by kernel_rfl)) ?_
 intro W base args ds gs before hval0 hW hsz
 have hval : ∀ (j : Nat) t v, Tryz.f3.params[j]? = some t → args[j]? = some v → Value.okWide Tryz.prog W .any base t v := hval0
 have hW' := hW
 obtain ⟨p, q, hA0, hV, rfl, hfz, hnd⟩ := hW
 have hA : DataW.TrodAll enc Tryz.prog W 0 (fun _ => true) true Tryz.f3.params.toList args.toList ds p := hA0
 rw [Tryz.params3] at hA hval hsz
 obtain ⟨v0, vs0, d0, ds0, p0, q0, hargs, rfl, rfl, h0, r0⟩ := trodAll_cons hA
 obtain ⟨v1, vs1, d1, ds1, p1, q1, rfl, rfl, rfl, h1, r1⟩ := trodAll_cons r0
 obtain ⟨v2, vs2, d2, ds2, p2, q2, rfl, rfl, rfl, h2, r2⟩ := trodAll_cons r1
 obtain ⟨v3, vs3, d3, ds3, p3, q3, rfl, rfl, rfl, h3, r3⟩ := trodAll_cons r2
 obtain ⟨rfl, rfl, rfl⟩ := trodAll_nil r3
 obtain rfl : args = #[v0, v1, v2, v3] := by cases args; simp_all
 obtain ⟨rfl, rfl⟩ := trodVars_none hV
 have k0 := h0
 have lt0 : ∀ x ∈ p0, x.block < W.heap.size := by obtain ⟨m, hm⟩ := k0; exact DataW.trod_lt m _ _ _ hm
 obtain ⟨b0, c0, x0, rfl, hx0, hk0⟩ := zzz (hval 0 22 v0 rfl rfl) h0 (zjr hsz 0 rfl rfl)
 have k1 := h1
 have lt1 : ∀ x ∈ p1, x.block < W.heap.size := by obtain ⟨m, hm⟩ := k1; exact DataW.trod_lt m _ _ _ hm
 obtain ⟨s1, g1, t1, u1, x1, rfl, hx1, hk1⟩ := zzy (hval 1 28 v1 rfl rfl) h1 (zjr hsz 1 rfl rfl)
 have k2 := h2
 have lt2 : ∀ x ∈ p2, x.block < W.heap.size := by obtain ⟨m, hm⟩ := k2; exact DataW.trod_lt m _ _ _ hm
 obtain ⟨b2, c2, x2, rfl, hx2, hk2⟩ := zqo (hval 2 35 v2 rfl rfl) h2 (zjr hsz 2 rfl rfl)
 have k3 := h3
 have lt3 : ∀ x ∈ p3, x.block < W.heap.size := by obtain ⟨m, hm⟩ := k3; exact DataW.trod_lt m _ _ _ hm
 obtain ⟨b3, c3, x3, rfl, hx3, hk3⟩ := zqo (hval 3 35 v3 rfl rfl) h3 (zjr hsz 3 rfl rfl)
 clear hA0 hval0
 refine (zy0 x0 b0 c0 x1 s1 g1 t1 u1 x2 x3 b2 b3 c2 c3 W hx0 hk0 hx1 hk1 hx2 hk2 hx3 hk3).mono fun e W' ⟨he, bel⟩ => ?_
 subst he
 exact ⟨_, rfl, _, _, _, [], _, [], hW', trodAll_mk1 (shut_bool Tryz.underlying4 _), (trodAll_cons_mk (Below.trod zjp (by kernel_rfl) (of_decide_eq_true (by kernel_rfl)) k0 bel lt0) (trodAll_cons_mk (Below.trod zjp (by kernel_rfl) (of_decide_eq_true (by kernel_rfl)) k1 bel lt1) (trodAll_cons_mk (Below.trod zjp (by kernel_rfl) (of_decide_eq_true (by kernel_rfl)) k2 bel lt2) (trodAll_cons_mk (Below.trod zjp (by kernel_rfl) (of_decide_eq_true (by kernel_rfl)) k3 bel lt3) trodAll_mk0)))), rfl, bel.frame _, fun h => by cases h⟩
theorem f_k1 : Rows.modelMakesRow.wf (OpenSpec.ofChange Rows.modelMakesSpec) = true := by kernel_rfl
theorem f_k4 : Tryz.f3.params.all (Tryz.prog.readableRec ·) = true := by kernel_rfl
theorem f_k5 : namedTie Tryz.prog Rows.modelMakesRow.named Rows.modelMakesSpec.vars = true := by kernel_rfl
theorem f_k10 : (Rows.modelMakesRow.inPlace == Tryz.prog.inPlace 3) = true := by kernel_rfl
theorem f_k11 : (Rows.modelMakesRow.unfollowed == Tryz.prog.unfollowed 3) = true := by kernel_rfl
theorem f_k12 : (Rows.modelMakesRow.recurses == Tryz.prog.recurses 3) = true := by kernel_rfl
theorem f_k13 : (Rows.modelMakesRow.named == Tryz.prog.varsNamed 3) = true := by kernel_rfl
theorem f_k14 : (Rows.modelMakesRow.maps == (Tryz.f3.params.toList ++ Rows.modelMakesSpec.plain.varTypes Tryz.prog).any (Tryz.prog.mapsRec ·)) = true := by kernel_rfl
theorem f_k15 : (Rows.modelMakesRow.ifaces == (Tryz.f3.params.toList ++ Rows.modelMakesSpec.plain.varTypes Tryz.prog).any (Tryz.prog.ifacesRec ·)) = true := by kernel_rfl
theorem f_k16 : (Rows.modelMakesRow.mapsOut == Tryz.prog.mapsAmong Tryz.f3.resultTypes.toList) = true := by kernel_rfl
theorem f_k17 : (Rows.modelMakesRow.loops == (Tryz.f3.params.toList ++ Rows.modelMakesSpec.plain.varTypes Tryz.prog).any (Tryz.prog.loopsFrom ·)) = true := by kernel_rfl
theorem f_k17b : (Rows.modelMakesRow.wideKeys == (Tryz.f3.params.toList ++ Rows.modelMakesSpec.plain.varTypes Tryz.prog ++ Tryz.f3.resultTypes.toList).any (Tryz.prog.wideKeysFrom ·)) = true := by kernel_rfl
theorem f_k18 : Rows.modelMakesSpec.vars.all (Tryz.prog.varReadable ·) = true := by kernel_rfl
theorem f_k19 : Tryz.f3.resultTypes.all (fun t => Tryz.prog.readableRec t && decide (t < Tryz.prog.types.size)) = true := by kernel_rfl
theorem f_k20 : (Rows.modelMakesRow.ifacesOut == Tryz.f3.resultTypes.toList.any (Tryz.prog.ifacesRec ·)) = true := by kernel_rfl
theorem f_k21 : (Rows.modelMakesRow.loopsOut == Tryz.f3.resultTypes.toList.any (Tryz.prog.loopsFrom ·)) = true := by kernel_rfl
theorem f_k24b : (Rows.modelMakesRow.lifted == Tryz.prog.liftsFinal) = true := by kernel_rfl
theorem f_k24c : (Tryz.prog.make == some Rows.modelMakesRow.make) = true := by kernel_rfl
theorem f_k25 : (Rows.modelMakesRow.kinds == (if Rows.modelMakesRow.domain.isEmpty then [] else Tryz.f3.params.toList.map fun t => match Tryz.prog.underlying t with | some (.int k) => some k | _ => none)) = true := by kernel_rfl
theorem f_k26 : (Rows.modelMakesRow.pinned == Rows.modelMakesRow.pinnedBy) = true := by kernel_rfl
theorem f_k27 : (Rows.modelMakesRow.veiled == (Tryz.f3.params.toList ++ Rows.modelMakesSpec.plain.varTypes Tryz.prog ++ Tryz.f3.resultTypes.toList).any (Tryz.prog.veiledRec ·)) = true := by kernel_rfl
theorem f_k28 : Rows.modelMakesRow.veiledFits Tryz.prog Tryz.f3.params.toList (Tryz.f3.params.toList ++ Rows.modelMakesSpec.plain.varTypes Tryz.prog ++ Tryz.f3.resultTypes.toList) = true := by kernel_rfl
theorem f_named : Tryz.pinned.checked.prog.funcNamed Rows.modelMakesRow.func = some 3 := by kernel_rfl
set_option maxRecDepth 100000 in
theorem f_closed : joinedFacts Tryz.prog 3 Tryz.f3 Rows.modelMakesSpec Rows.modelMakesRow = true :=
 ycf f_k1 yb8 yb9 f_k4 f_k5 rfl yca rfl ycb f_k10 f_k11 f_k12 f_k13 f_k14 f_k15 f_k16 f_k17 f_k17b f_k18 f_k19 f_k20 f_k21 ycc rfl ycd yce f_k24b f_k24c f_k25 f_k26 f_k27 f_k28
theorem f_inst : Tryz.f3.isInstance Tryz.pinned.checked.prog Rows.modelMakesRow.origin Rows.modelMakesRow.targs := of_decide_eq_true (by kernel_rfl)
theorem f_wrap : Tryz.f3.isWrapper Tryz.pinned.checked.prog Rows.modelMakesRow.wrapper Rows.modelMakesRow.mainSum := by
 unfold Func.isWrapper
 first | (rw [if_pos (by decide +kernel)]; kernel_rfl) | (rw [if_neg (by decide +kernel)]; exact ⟨rfl, rfl⟩)
theorem over : Rows.modelMakesRow.holds Tryz.pinned (OpenSpec.ofChange Rows.modelMakesSpec) :=
 OpenClaim.holds_of_wide 3 Tryz.f3 rfl rfl rfl rfl rfl rfl rfl ⟨rfl, rfl, rfl, rfl, rfl⟩ rfl rfl rfl rfl rfl f_named Tryz.func3 f_closed f_inst f_wrap
  (fun os started H enc _ => lifted os started H enc)
theorem proved : Rows.ModelMakesSaid := over
end Go.Proofs.YtbiehpjhhopjaaaGreat.modelMakes
