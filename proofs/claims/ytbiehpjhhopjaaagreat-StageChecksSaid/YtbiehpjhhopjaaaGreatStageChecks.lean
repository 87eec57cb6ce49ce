/-
 The law StageChecks, walked in LawS, and its statement.
-/
import Derived.Test.YtbiehpjhhopjaaaGreatTFacts
import Derived.Test.YtbiehpjhhopjaaaGreatT14
namespace Go.Proofs.YtbiehpjhhopjaaaGreat.stageChecks
set_option linter.all false
open Go.ChangeShapes Go.WideShapes Go.ChangeAt Go.RowKit Go.Proofs.Tryz
open Rows renaming stageChecksRow->R,stageChecksSpec->S
set_option maxRecDepth 100000 in
theorem lifted (os:Os) (started:os.Started) (H:Type) (enc:TypeId × Value->H) :
  ReturnsInHanded {} checked os 4 .any (S.pre6 enc prog f4 R.domain false) (S.post enc prog f4 false true false false):=by
 refine ybz (C:=checked) ya8 started (by kernel_rfl) func4
  (ChangeSpec.witness6 (enc:=enc) (C:=checked) false ⟨#[],#[.agg #[.slice none 0 0,.int .i64 0,.int .i64 0,.slice none 0 0,.slice none 0 0,.slice none 0 0,.slice none 0 0,.int .i64 0,.int .i64 0,.slice none 0 0,.slice none 0 0,.slice none 0 0,.slice none 0 0,.int .i64 0,.slice none 0 0,.slice none 0 0,.slice none 0 0,.slice none 0 0,.int .i64 0,.int .i64 0,.slice none 0 0,.slice none 0 0,.slice none 0 0,.slice none 0 0,.bool false],.slice none 0 0],[]⟩ 8 (by kernel_rfl) (by kernel_rfl) (by kernel_rfl) (by kernel_rfl)) ?_
 intro W base args ds gs before hval0 hW hsz
 have hval:∀ (j:Nat) t v,f4.params[j]?=some t->args[j]?=some v->Value.okWide prog W .any base t v:=hval0
 have hW':=hW
 obtain⟨p,q,hA0,hV,rfl,hfz,hnd⟩:=hW
 have hA:DataW.TrodAll enc prog W 0 (fun _=>true) true f4.params.toList args.toList ds p:=hA0
 rw [params4] at hA hval hsz
 obtain⟨v0,vs0,d0,ds0,p0,q0,hargs,rfl,rfl,h0,r0⟩:=trodAll_cons hA
 obtain⟨v1,vs1,d1,ds1,p1,q1,rfl,rfl,rfl,h1,r1⟩:=trodAll_cons r0
 obtain⟨rfl,rfl,rfl⟩:=trodAll_nil r1
 obtain rfl:args=#[v0,v1]:=by cases args; simp_all
 obtain⟨rfl,rfl⟩:=trodVars_none hV
 have k0:=h0
 have lt0:∀ x ∈ p0,x.block < W.heap.size:=by obtain⟨m,hm⟩:=k0; exact DataW.trod_lt m _ _ _ hm
 obtain⟨b0,c0,x0,rfl,hx0,hk0⟩:=yb7 (hval 0 35 v0 rfl rfl) h0 (MY hsz 0 rfl rfl)
 have k1:=h1
 have lt1:∀ x ∈ p1,x.block < W.heap.size:=by obtain⟨m,hm⟩:=k1; exact DataW.trod_lt m _ _ _ hm
 obtain⟨b1,c1,x1,rfl,hx1,hk1⟩:=yb4 (hval 1 22 v1 rfl rfl) h1 (MY hsz 1 rfl rfl)
 clear hA0 hval0
 refine (ya7 x0 b0 c0 x1 b1 c1 W hx0 hk0 hx1 hk1).mono fun e W' ⟨he,bel⟩=>?_
 subst he
 exact⟨_,rfl,_,_,_,[],_,[],hW',trodAll_mk1 (shut_bool underlying4 _),(trodAll_cons_mk (Below.trod NG (by kernel_rfl) (of_decide_eq_true (by kernel_rfl)) k0 bel lt0) (trodAll_cons_mk (Below.trod NG (by kernel_rfl) (of_decide_eq_true (by kernel_rfl)) k1 bel lt1) trodAll_mk0)),rfl,bel.frame _,fun h=>by cases h⟩
theorem k1:R.wf (OpenSpec.ofChange S)=true:=by kernel_rfl
theorem k4:f4.params.all (prog.readableRec ·)=true:=by kernel_rfl
theorem k5:namedTie prog R.named S.vars=true:=by kernel_rfl
theorem k10:(R.inPlace==prog.inPlace 4)=true:=by kernel_rfl
theorem k11:(R.unfollowed==prog.unfollowed 4)=true:=by kernel_rfl
theorem k12:(R.recurses==prog.recurses 4)=true:=by kernel_rfl
theorem k13:(R.named==prog.varsNamed 4)=true:=by kernel_rfl
theorem k14:(R.maps==(f4.params.toList++S.plain.varTypes prog).any (prog.mapsRec ·))=true:=by kernel_rfl
theorem k15:(R.ifaces==(f4.params.toList++S.plain.varTypes prog).any (prog.ifacesRec ·))=true:=by kernel_rfl
theorem k16:(R.mapsOut==prog.mapsAmong f4.resultTypes.toList)=true:=by kernel_rfl
theorem k17:(R.loops==(f4.params.toList++S.plain.varTypes prog).any (prog.loopsFrom ·))=true:=by kernel_rfl
theorem k17b:(R.wideKeys==(f4.params.toList++S.plain.varTypes prog++f4.resultTypes.toList).any (prog.wideKeysFrom ·))=true:=by kernel_rfl
theorem k18:S.vars.all (prog.varReadable ·)=true:=by kernel_rfl
theorem k19:f4.resultTypes.all (fun t=>prog.readableRec t && decide (t < prog.types.size))=true:=by kernel_rfl
theorem k20:(R.ifacesOut==f4.resultTypes.toList.any (prog.ifacesRec ·))=true:=by kernel_rfl
theorem k21:(R.loopsOut==f4.resultTypes.toList.any (prog.loopsFrom ·))=true:=by kernel_rfl
theorem k24b:(R.lifted==prog.liftsFinal)=true:=by kernel_rfl
theorem k24c:(prog.make==some R.make)=true:=by kernel_rfl
theorem k25:(R.kinds==(if R.domain.isEmpty then [] else f4.params.toList.map fun t=>match prog.underlying t with | some (.int k)=>some k | _=>none))=true:=by kernel_rfl
theorem k26:(R.pinned==R.pinnedBy)=true:=by kernel_rfl
theorem k27:(R.veiled==(f4.params.toList++S.plain.varTypes prog++f4.resultTypes.toList).any (prog.veiledRec ·))=true:=by kernel_rfl
theorem k28:R.veiledFits prog f4.params.toList (f4.params.toList++S.plain.varTypes prog++f4.resultTypes.toList)=true:=by kernel_rfl
theorem kn:Tryz.pinned.checked.prog.funcNamed R.func=some 4:=by kernel_rfl
set_option maxRecDepth 100000 in
theorem kc:joinedFacts prog 4 f4 S R=true :=
 ycf k1 yb8 yb9 k4 k5 rfl yca rfl ycb k10 k11 k12 k13 k14 k15 k16 k17 k17b k18 k19 k20 k21 ycc rfl ycd yce k24b k24c k25 k26 k27 k28
theorem ki:f4.isInstance Tryz.pinned.checked.prog R.origin R.targs:=of_decide_eq_true (by kernel_rfl)
theorem kw:f4.isWrapper Tryz.pinned.checked.prog R.wrapper R.mainSum:=by
 unfold Func.isWrapper
 first | (rw [if_pos (by decide +kernel)]; kernel_rfl) | (rw [if_neg (by decide +kernel)]; exact⟨rfl,rfl⟩)
theorem over:R.holds Tryz.pinned (OpenSpec.ofChange S) :=
 OpenClaim.holds_of_wide 4 f4 rfl rfl rfl rfl rfl rfl rfl ⟨rfl,rfl,rfl,rfl,rfl⟩ rfl rfl rfl rfl rfl kn func4 kc ki kw
  (fun os started H enc _=>lifted os started H enc)
theorem proved:Rows.StageChecksSaid:=over
end Go.Proofs.YtbiehpjhhopjaaaGreat.stageChecks
