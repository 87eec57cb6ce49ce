/-
 The law BoxMakes returns true and leaves its arguments as they were for any key, plan and two boxes: boxes are formatted, checked and compared as the document's answer says (great boxes, great plans and keys above 1,000 bytes are answered true at once, by the law itself); no condition.
-/
import Derived.Test.YtbiehpjhhopjaaaGreatT14
import Derived.Test.YtbiehpjhhopjaaaGreatRows
import Derived.Test.YtbiehpjhhopjaaaGreatTFacts
import Derived.Test.YtbiehpjhhopjaaaGreatT18
import Derived.WalkKit
import Derived.ProofKit
import Derived.OpenShut
import Derived.ShutString
import Derived.ChangeOld
import Derived.Below
namespace Go.Proofs.YtbiehpjhhopjaaaGreat.boxMakes
open Go.ChangeShapes Go.WideShapes Go.ChangeAt Go.RowKit
set_option linter.unusedVariables false
set_option maxRecDepth 100000 in
theorem lifted (os : Os) (started : os.Started) (H : Type) (enc : TypeId × Value → H) :
  ReturnsInHanded {} Tryz.checked os 9 .any (Rows.boxMakesSpec.pre6 enc Tryz.prog Tryz.f9 Rows.boxMakesRow.domain false) (Rows.boxMakesSpec.post enc Tryz.prog Tryz.f9 false true false false) := by
 refine ybz (C := Tryz.checked) ya8 started (by kernel_rfl) Tryz.func9
  (ChangeSpec.witness6 (enc := enc) (C := Tryz.checked) false ⟨#[], #[.slice none 0 0, .agg #[.int .i64 0, .int .i64 0, .slice none 0 0, .slice none 0 0, .slice none 0 0, .slice none 0 0], .agg #[.slice none 0 0, .int .i64 0, .int .i64 0, .slice none 0 0, .slice none 0 0, .slice none 0 0, .slice none 0 0, .int .i64 0, .int .i64 0, .slice none 0 0, .slice none 0 0, .slice none 0 0, .slice none 0 0, .int .i64 0, .slice none 0 0, .slice none 0 0, .slice none 0 0, .slice none 0 0, .int .i64 0, .int .i64 0, .slice none 0 0, .slice none 0 0, .slice none 0 0, .slice none 0 0, .bool false, .slice none 0 0, .slice none 0 0, .int .u32 0], .agg #[.slice none 0 0, .int .i64 0, .int .i64 0, .slice none 0 0, .slice none 0 0, .slice none 0 0, .slice none 0 0, .int .i64 0, .int .i64 0, .slice none 0 0, .slice none 0 0, .slice none 0 0, .slice none 0 0, .int .i64 0, .slice none 0 0, .slice none 0 0, .slice none 0 0, .slice none 0 0, .int .i64 0, .int .i64 0, .slice none 0 0, .slice none 0 0, .slice none 0 0, .slice none 0 0, .bool false, .slice none 0 0, .slice none 0 0, .int .u32 0]], []⟩ 8 (by kernel_rfl) (by kernel_rfl) (by kernel_rfl) (by kernel_rfl)) ?_
 intro W base args ds gs before hval0 hW hsz
 have hval : ∀ (j : Nat) t v, Tryz.f9.params[j]? = some t → args[j]? = some v → Value.okWide Tryz.prog W .any base t v := hval0
 have hW' := hW
 obtain ⟨p, q, hA0, hV, rfl, hfz, hnd⟩ := hW
 have hA : DataW.TrodAll enc Tryz.prog W 0 (fun _ => true) true Tryz.f9.params.toList args.toList ds p := hA0
 rw [Tryz.params9] at hA hval hsz
 obtain ⟨v0, vs0, d0, ds0, p0, q0, hargs, rfl, rfl, h0, r0⟩ := trodAll_cons hA
 obtain ⟨v1, vs1, d1, ds1, p1, q1, rfl, rfl, rfl, h1, r1⟩ := trodAll_cons r0
 obtain ⟨v2, vs2, d2, ds2, p2, q2, rfl, rfl, rfl, h2, r2⟩ := trodAll_cons r1
 obtain ⟨v3, vs3, d3, ds3, p3, q3, rfl, rfl, rfl, h3, r3⟩ := trodAll_cons r2
 obtain ⟨rfl, rfl, rfl⟩ := trodAll_nil r3
 obtain rfl : args = #[v0, v1, v2, v3] := by cases args; simp_all
 obtain ⟨rfl, rfl⟩ := trodVars_none hV
 have k0 := h0
 have lt0 : ∀ x ∈ p0, x.block < W.heap.size := by obtain ⟨m, hm⟩ := k0; exact DataW.trod_lt m _ _ _ hm
 obtain ⟨b0, c0, x0, rfl, hx0, hk0⟩ := yb4 (hval 0 22 v0 rfl rfl) h0 (MY hsz 0 rfl rfl)
 have k1 := h1
 have lt1 : ∀ x ∈ p1, x.block < W.heap.size := by obtain ⟨m, hm⟩ := k1; exact DataW.trod_lt m _ _ _ hm
 obtain ⟨s1, g1, t1, u1, x1, rfl, hx1, hk1⟩ := MM (hval 1 28 v1 rfl rfl) h1 (MY hsz 1 rfl rfl)
 have k2 := h2
 have lt2 : ∀ x ∈ p2, x.block < W.heap.size := by obtain ⟨m, hm⟩ := k2; exact DataW.trod_lt m _ _ _ hm
 obtain ⟨b2, c2, x2, rfl, hx2, hk2⟩ := Es (hval 2 87 v2 rfl rfl) h2 (MY hsz 2 rfl rfl)
 have k3 := h3
 have lt3 : ∀ x ∈ p3, x.block < W.heap.size := by obtain ⟨m, hm⟩ := k3; exact DataW.trod_lt m _ _ _ hm
 obtain ⟨b3, c3, x3, rfl, hx3, hk3⟩ := Es (hval 3 87 v3 rfl rfl) h3 (MY hsz 3 rfl rfl)
 clear hA0 hval0
 refine (Mf x0 b0 c0 x1 s1 g1 t1 u1 x2 x3 b2 b3 c2 c3 W hx0 hk0 hx1 hk1 hx2 hk2 hx3 hk3).mono fun e W' ⟨he, bel⟩ => ?_
 subst he
 exact ⟨_, rfl, _, _, _, [], _, [], hW', trodAll_mk1 (shut_bool Tryz.underlying4 _), (trodAll_cons_mk (Below.trod NG (by kernel_rfl) (of_decide_eq_true (by kernel_rfl)) k0 bel lt0) (trodAll_cons_mk (Below.trod NG (by kernel_rfl) (of_decide_eq_true (by kernel_rfl)) k1 bel lt1) (trodAll_cons_mk (Below.trod NG (by kernel_rfl) (of_decide_eq_true (by kernel_rfl)) k2 bel lt2) (trodAll_cons_mk (Below.trod NG (by kernel_rfl) (of_decide_eq_true (by kernel_rfl)) k3 bel lt3) trodAll_mk0)))), rfl, bel.frame _, fun h => by cases h⟩
theorem f_k1 : Rows.boxMakesRow.wf (OpenSpec.ofChange Rows.boxMakesSpec) = true := by kernel_rfl
theorem f_k4 : Tryz.f9.params.all (Tryz.prog.readableRec ·) = true := by kernel_rfl
theorem f_k5 : namedTie Tryz.prog Rows.boxMakesRow.named Rows.boxMakesSpec.vars = true := by kernel_rfl
theorem f_k10 : (Rows.boxMakesRow.inPlace == Tryz.prog.inPlace 9) = true := by kernel_rfl
theorem f_k11 : (Rows.boxMakesRow.unfollowed == Tryz.prog.unfollowed 9) = true := by kernel_rfl
theorem f_k12 : (Rows.boxMakesRow.recurses == Tryz.prog.recurses 9) = true := by kernel_rfl
theorem f_k13 : (Rows.boxMakesRow.named == Tryz.prog.varsNamed 9) = true := by kernel_rfl
theorem f_k14 : (Rows.boxMakesRow.maps == (Tryz.f9.params.toList ++ Rows.boxMakesSpec.plain.varTypes Tryz.prog).any (Tryz.prog.mapsRec ·)) = true := by kernel_rfl
theorem f_k15 : (Rows.boxMakesRow.ifaces == (Tryz.f9.params.toList ++ Rows.boxMakesSpec.plain.varTypes Tryz.prog).any (Tryz.prog.ifacesRec ·)) = true := by kernel_rfl
theorem f_k16 : (Rows.boxMakesRow.mapsOut == Tryz.prog.mapsAmong Tryz.f9.resultTypes.toList) = true := by kernel_rfl
theorem f_k17 : (Rows.boxMakesRow.loops == (Tryz.f9.params.toList ++ Rows.boxMakesSpec.plain.varTypes Tryz.prog).any (Tryz.prog.loopsFrom ·)) = true := by kernel_rfl
theorem f_k17b : (Rows.boxMakesRow.wideKeys == (Tryz.f9.params.toList ++ Rows.boxMakesSpec.plain.varTypes Tryz.prog ++ Tryz.f9.resultTypes.toList).any (Tryz.prog.wideKeysFrom ·)) = true := by kernel_rfl
theorem f_k18 : Rows.boxMakesSpec.vars.all (Tryz.prog.varReadable ·) = true := by kernel_rfl
theorem f_k19 : Tryz.f9.resultTypes.all (fun t => Tryz.prog.readableRec t && decide (t < Tryz.prog.types.size)) = true := by kernel_rfl
theorem f_k20 : (Rows.boxMakesRow.ifacesOut == Tryz.f9.resultTypes.toList.any (Tryz.prog.ifacesRec ·)) = true := by kernel_rfl
theorem f_k21 : (Rows.boxMakesRow.loopsOut == Tryz.f9.resultTypes.toList.any (Tryz.prog.loopsFrom ·)) = true := by kernel_rfl
theorem f_k24b : (Rows.boxMakesRow.lifted == Tryz.prog.liftsFinal) = true := by kernel_rfl
theorem f_k24c : (Tryz.prog.make == some Rows.boxMakesRow.make) = true := by kernel_rfl
theorem f_k25 : (Rows.boxMakesRow.kinds == (if Rows.boxMakesRow.domain.isEmpty then [] else Tryz.f9.params.toList.map fun t => match Tryz.prog.underlying t with | some (.int k) => some k | _ => none)) = true := by kernel_rfl
theorem f_k26 : (Rows.boxMakesRow.pinned == Rows.boxMakesRow.pinnedBy) = true := by kernel_rfl
theorem f_k27 : (Rows.boxMakesRow.veiled == (Tryz.f9.params.toList ++ Rows.boxMakesSpec.plain.varTypes Tryz.prog ++ Tryz.f9.resultTypes.toList).any (Tryz.prog.veiledRec ·)) = true := by kernel_rfl
theorem f_k28 : Rows.boxMakesRow.veiledFits Tryz.prog Tryz.f9.params.toList (Tryz.f9.params.toList ++ Rows.boxMakesSpec.plain.varTypes Tryz.prog ++ Tryz.f9.resultTypes.toList) = true := by kernel_rfl
theorem f_named : Tryz.pinned.checked.prog.funcNamed Rows.boxMakesRow.func = some 9 := by kernel_rfl
set_option maxRecDepth 100000 in
theorem f_closed : joinedFacts Tryz.prog 9 Tryz.f9 Rows.boxMakesSpec Rows.boxMakesRow = true :=
 ycf f_k1 yb8 yb9 f_k4 f_k5 rfl yca rfl ycb f_k10 f_k11 f_k12 f_k13 f_k14 f_k15 f_k16 f_k17 f_k17b f_k18 f_k19 f_k20 f_k21 ycc rfl ycd yce f_k24b f_k24c f_k25 f_k26 f_k27 f_k28
theorem f_inst : Tryz.f9.isInstance Tryz.pinned.checked.prog Rows.boxMakesRow.origin Rows.boxMakesRow.targs := of_decide_eq_true (by kernel_rfl)
theorem f_wrap : Tryz.f9.isWrapper Tryz.pinned.checked.prog Rows.boxMakesRow.wrapper Rows.boxMakesRow.mainSum := by
 unfold Func.isWrapper
 first | (rw [if_pos (by decide +kernel)]; kernel_rfl) | (rw [if_neg (by decide +kernel)]; exact ⟨rfl, rfl⟩)
theorem over : Rows.boxMakesRow.holds Tryz.pinned (OpenSpec.ofChange Rows.boxMakesSpec) :=
 OpenClaim.holds_of_wide 9 Tryz.f9 rfl rfl rfl rfl rfl rfl rfl ⟨rfl, rfl, rfl, rfl, rfl⟩ rfl rfl rfl rfl rfl f_named Tryz.func9 f_closed f_inst f_wrap
  (fun os started H enc _ => lifted os started H enc)
theorem proved : Rows.BoxMakesSaid := over
end Go.Proofs.YtbiehpjhhopjaaaGreat.boxMakes
