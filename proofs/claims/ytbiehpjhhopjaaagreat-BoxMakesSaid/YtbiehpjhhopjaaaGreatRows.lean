/-
  No cell of these rows narrows 'for every input' (looked for: loops, veiled, ifaces, maps, wideKeys, modest, calm, conditions, laid).
  DERIVED. THE GIVEN ROWS OF THIS SEAT. 8 by the template 'for every input the law returns true; each argument reads behind the call as it read before'; 0 by the template 'total and deterministic' (their statements: YtbiehpjhhopjaaaGreatTotals.lean).
  GIVEN WITH THE SEED: the statements are not yours to turn. If you find one false, say at which input.
  Laid BY PROGRAM, IN A SANDBOX (cutbox-rows.mjs): the forced cells as the released guide's own fill.sh prints them over the translation 57e797bfd5703167… (all of the seat's roots in one cut). By AI agents, Wed Nov 11 2026. No macro, syntax, notation, axiom, sorry.
-/
import Derived.Test.YtbiehpjhhopjaaaGreatChecked
import GoSem.Claim
import GoSem.ClaimJoined
import GoSem.ClaimMapViews
import Derived.JoinedTies
import Derived.KernelRfl
namespace Go.Proofs.YtbiehpjhhopjaaaGreat
/- THE CELL 'sum', in the pinned program and in every row, IS THE sha256 OF THE DUMP (.gsa) THAT YtbiehpjhhopjaaaGreatProg.lean LOADS. Nothing in Lean hashes anything: it is a label: what it is worth is what the hold of that sum in a sandbox is worth. -/
noncomputable def Tryz.pinned : Pinned := { name := "ytbiehpjhhopjaaagreat", sum := "57e797bfd57031675375bb8943a5f5dd4653d706b336562817e32bb761ccf627", checked := Tryz.checked }
namespace Rows
def none {H : Type} : Left H := { results := [], args := [] }

/-- 'leverframelaw28.ModelMakes': WHATEVER THE INPUT: true; the input reads as it did. -/
def modelMakesSpec : ChangeSpec := { name := "modelMakes", fn := fun _ => fun
  | [d1, d2, d3, d4] => { results := [.lit (.bool true)], args := [d1, d2, d3, d4] }
  | _ => none }
def modelMakesRow : OpenClaim := { program := "ytbiehpjhhopjaaagreat", sum := "57e797bfd57031675375bb8943a5f5dd4653d706b336562817e32bb761ccf627", func := "leverframe/leverframelaw28.ModelMakes", spec := "modelMakes", unfollowed := true, recurses := true, plainKeys := false, apart := false }
def ModelMakesSaid : Prop := modelMakesRow.holds Tryz.pinned (OpenSpec.ofChange modelMakesSpec)

/-- ITS FALSE NEIGHBOUR: 'it returns false'. Refute it at one input. -/
def modelMakesWrong : ChangeSpec := { name := "modelMakes", fn := fun _ => fun
  | [d1, d2, d3, d4] => { results := [.lit (.bool false)], args := [d1, d2, d3, d4] }
  | _ => none }
def ModelMakesWrongFalsely : Prop := modelMakesRow.holds Tryz.pinned (OpenSpec.ofChange modelMakesWrong)

/-- 'leverframelaw27.StageChecks': WHATEVER THE INPUT: true; the input reads as it did. -/
def stageChecksSpec : ChangeSpec := { name := "stageChecks", fn := fun _ => fun
  | [d1, d2] => { results := [.lit (.bool true)], args := [d1, d2] }
  | _ => none }
def stageChecksRow : OpenClaim := { program := "ytbiehpjhhopjaaagreat", sum := "57e797bfd57031675375bb8943a5f5dd4653d706b336562817e32bb761ccf627", func := "leverframe/leverframelaw27.StageChecks", spec := "stageChecks", unfollowed := true, recurses := true, plainKeys := false, apart := false }
def StageChecksSaid : Prop := stageChecksRow.holds Tryz.pinned (OpenSpec.ofChange stageChecksSpec)

/-- ITS FALSE NEIGHBOUR: 'it returns false'. Refute it at one input. -/
def stageChecksWrong : ChangeSpec := { name := "stageChecks", fn := fun _ => fun
  | [d1, d2] => { results := [.lit (.bool false)], args := [d1, d2] }
  | _ => none }
def StageChecksWrongFalsely : Prop := stageChecksRow.holds Tryz.pinned (OpenSpec.ofChange stageChecksWrong)

/-- 'leverframelaw25.FreeTells': WHATEVER THE INPUT: true; the input reads as it did. -/
def freeTellsSpec : ChangeSpec := { name := "freeTells", fn := fun _ => fun
  | [d1, d2, d3] => { results := [.lit (.bool true)], args := [d1, d2, d3] }
  | _ => none }
def freeTellsRow : OpenClaim := { program := "ytbiehpjhhopjaaagreat", sum := "57e797bfd57031675375bb8943a5f5dd4653d706b336562817e32bb761ccf627", func := "leverframe/leverframelaw25.FreeTells", spec := "freeTells", unfollowed := true, recurses := true, plainKeys := false, apart := false }
def FreeTellsSaid : Prop := freeTellsRow.holds Tryz.pinned (OpenSpec.ofChange freeTellsSpec)

/-- ITS FALSE NEIGHBOUR: 'it returns false'. Refute it at one input. -/
def freeTellsWrong : ChangeSpec := { name := "freeTells", fn := fun _ => fun
  | [d1, d2, d3] => { results := [.lit (.bool false)], args := [d1, d2, d3] }
  | _ => none }
def FreeTellsWrongFalsely : Prop := freeTellsRow.holds Tryz.pinned (OpenSpec.ofChange freeTellsWrong)

/-- 'leverframelaw25.FreeNames': WHATEVER THE INPUT: true; the input reads as it did. -/
def freeNamesSpec : ChangeSpec := { name := "freeNames", fn := fun _ => fun
  | [] => { results := [.lit (.bool true)], args := [] }
  | _ => none }
def freeNamesRow : OpenClaim := { program := "ytbiehpjhhopjaaagreat", sum := "57e797bfd57031675375bb8943a5f5dd4653d706b336562817e32bb761ccf627", func := "leverframe/leverframelaw25.FreeNames", spec := "freeNames", unfollowed := true, recurses := true, plainKeys := false, apart := false }
def FreeNamesSaid : Prop := freeNamesRow.holds Tryz.pinned (OpenSpec.ofChange freeNamesSpec)

/-- ITS FALSE NEIGHBOUR: 'it returns false'. Refute it at one input. -/
def freeNamesWrong : ChangeSpec := { name := "freeNames", fn := fun _ => fun
  | [] => { results := [.lit (.bool false)], args := [] }
  | _ => none }
def FreeNamesWrongFalsely : Prop := freeNamesRow.holds Tryz.pinned (OpenSpec.ofChange freeNamesWrong)

/-- 'leverframelaw25.FreeBoth': WHATEVER THE INPUT: true; the input reads as it did. -/
def freeBothSpec : ChangeSpec := { name := "freeBoth", fn := fun _ => fun
  | [d1, d2, d3, d4] => { results := [.lit (.bool true)], args := [d1, d2, d3, d4] }
  | _ => none }
def freeBothRow : OpenClaim := { program := "ytbiehpjhhopjaaagreat", sum := "57e797bfd57031675375bb8943a5f5dd4653d706b336562817e32bb761ccf627", func := "leverframe/leverframelaw25.FreeBoth", spec := "freeBoth", unfollowed := true, recurses := true, plainKeys := false, apart := false }
def FreeBothSaid : Prop := freeBothRow.holds Tryz.pinned (OpenSpec.ofChange freeBothSpec)

/-- ITS FALSE NEIGHBOUR: 'it returns false'. Refute it at one input. -/
def freeBothWrong : ChangeSpec := { name := "freeBoth", fn := fun _ => fun
  | [d1, d2, d3, d4] => { results := [.lit (.bool false)], args := [d1, d2, d3, d4] }
  | _ => none }
def FreeBothWrongFalsely : Prop := freeBothRow.holds Tryz.pinned (OpenSpec.ofChange freeBothWrong)

/-- 'leverframelaw25.FreeFallen': WHATEVER THE INPUT: true; the input reads as it did. -/
def freeFallenSpec : ChangeSpec := { name := "freeFallen", fn := fun _ => fun
  | [d1, d2, d3] => { results := [.lit (.bool true)], args := [d1, d2, d3] }
  | _ => none }
def freeFallenRow : OpenClaim := { program := "ytbiehpjhhopjaaagreat", sum := "57e797bfd57031675375bb8943a5f5dd4653d706b336562817e32bb761ccf627", func := "leverframe/leverframelaw25.FreeFallen", spec := "freeFallen", unfollowed := true, recurses := true, plainKeys := false, apart := false }
def FreeFallenSaid : Prop := freeFallenRow.holds Tryz.pinned (OpenSpec.ofChange freeFallenSpec)

/-- ITS FALSE NEIGHBOUR: 'it returns false'. Refute it at one input. -/
def freeFallenWrong : ChangeSpec := { name := "freeFallen", fn := fun _ => fun
  | [d1, d2, d3] => { results := [.lit (.bool false)], args := [d1, d2, d3] }
  | _ => none }
def FreeFallenWrongFalsely : Prop := freeFallenRow.holds Tryz.pinned (OpenSpec.ofChange freeFallenWrong)

/-- 'leverframelaw30.BoxMakes': WHATEVER THE INPUT: true; the input reads as it did. -/
def boxMakesSpec : ChangeSpec := { name := "boxMakes", fn := fun _ => fun
  | [d1, d2, d3, d4] => { results := [.lit (.bool true)], args := [d1, d2, d3, d4] }
  | _ => none }
def boxMakesRow : OpenClaim := { program := "ytbiehpjhhopjaaagreat", sum := "57e797bfd57031675375bb8943a5f5dd4653d706b336562817e32bb761ccf627", func := "leverframe/leverframelaw30.BoxMakes", spec := "boxMakes", unfollowed := true, recurses := true, plainKeys := false, apart := false }
def BoxMakesSaid : Prop := boxMakesRow.holds Tryz.pinned (OpenSpec.ofChange boxMakesSpec)

/-- ITS FALSE NEIGHBOUR: 'it returns false'. Refute it at one input. -/
def boxMakesWrong : ChangeSpec := { name := "boxMakes", fn := fun _ => fun
  | [d1, d2, d3, d4] => { results := [.lit (.bool false)], args := [d1, d2, d3, d4] }
  | _ => none }
def BoxMakesWrongFalsely : Prop := boxMakesRow.holds Tryz.pinned (OpenSpec.ofChange boxMakesWrong)

/-- 'leverframelaw25.FreeRoutes': WHATEVER THE INPUT: true; the input reads as it did. -/
def freeRoutesSpec : ChangeSpec := { name := "freeRoutes", fn := fun _ => fun
  | [d1, d2, d3] => { results := [.lit (.bool true)], args := [d1, d2, d3] }
  | _ => none }
def freeRoutesRow : OpenClaim := { program := "ytbiehpjhhopjaaagreat", sum := "57e797bfd57031675375bb8943a5f5dd4653d706b336562817e32bb761ccf627", func := "leverframe/leverframelaw25.FreeRoutes", spec := "freeRoutes", unfollowed := true, recurses := true, plainKeys := false, apart := false }
def FreeRoutesSaid : Prop := freeRoutesRow.holds Tryz.pinned (OpenSpec.ofChange freeRoutesSpec)

/-- ITS FALSE NEIGHBOUR: 'it returns false'. Refute it at one input. -/
def freeRoutesWrong : ChangeSpec := { name := "freeRoutes", fn := fun _ => fun
  | [d1, d2, d3] => { results := [.lit (.bool false)], args := [d1, d2, d3] }
  | _ => none }
def FreeRoutesWrongFalsely : Prop := freeRoutesRow.holds Tryz.pinned (OpenSpec.ofChange freeRoutesWrong)

/- THE SECOND FORM. 'bulk': how many values and letters a reading holds, each counted each time it is reached (what is shared counts as often as it is met; a slice's spare places count too). A statement '..UptoSaid' is the law's where the arguments, and the package variables that the reading takes, are together of bulk at most 1048576: NARROWER than '..Said'. Prove '..Said' where nothing that the law and all that it calls make is longer than what came in: it says more and counts as full. Else prove '..UptoSaid'. A law counts once. -/
mutual
def uptoBulk {H : Type} : DataW H → Nat
  | .lit (.string bytes) => bytes.length + 1
  | .lit _ => 1
  | .nil => 1
  | .ptr d => uptoBulk d + 1
  | .slice elems spare => uptoBulkAll elems + uptoBulkAll spare + 1
  | .agg parts => uptoBulkAll parts + 1
  | .iface _ d => uptoBulk d + 1
  | .map entries => uptoBulkEntries entries + 1
  | .held _ => 1
def uptoBulkAll {H : Type} : List (DataW H) → Nat
  | [] => 0
  | d :: r => uptoBulk d + uptoBulkAll r
def uptoBulkEntries {H : Type} : List (Lit × DataW H) → Nat
  | [] => 0
  | x :: r => uptoBulkEntry x + uptoBulkEntries r
def uptoBulkEntry {H : Type} : Lit × DataW H → Nat
  | (.string bytes, d) => bytes.length + uptoBulk d + 1
  | (_, d) => uptoBulk d + 1
 end
def uptoSmall : (H : Type) → List (DataW H) → Bool := fun _ ds => decide (uptoBulkAll ds ≤ 1048576)
def OpenSpec.upto (s : _root_.Go.ChangeSpec) : _root_.Go.OpenSpec := { _root_.Go.OpenSpec.ofChange s with cond := some uptoSmall }

/-- 'leverframelaw28.ModelMakes', WHERE WHAT IT READS IS OF BULK AT MOST 1048576: true; the input reads as it did. -/
def modelMakesUptoRow : OpenClaim := { program := "ytbiehpjhhopjaaagreat", sum := "57e797bfd57031675375bb8943a5f5dd4653d706b336562817e32bb761ccf627", func := "leverframe/leverframelaw28.ModelMakes", spec := "modelMakes", unfollowed := true, recurses := true, plainKeys := false, apart := false, narrowed := true }
def ModelMakesUptoSaid : Prop := modelMakesUptoRow.holds Tryz.pinned (OpenSpec.upto modelMakesSpec)

/-- 'leverframelaw27.StageChecks', WHERE WHAT IT READS IS OF BULK AT MOST 1048576: true; the input reads as it did. -/
def stageChecksUptoRow : OpenClaim := { program := "ytbiehpjhhopjaaagreat", sum := "57e797bfd57031675375bb8943a5f5dd4653d706b336562817e32bb761ccf627", func := "leverframe/leverframelaw27.StageChecks", spec := "stageChecks", unfollowed := true, recurses := true, plainKeys := false, apart := false, narrowed := true }
def StageChecksUptoSaid : Prop := stageChecksUptoRow.holds Tryz.pinned (OpenSpec.upto stageChecksSpec)

/-- 'leverframelaw25.FreeTells', WHERE WHAT IT READS IS OF BULK AT MOST 1048576: true; the input reads as it did. -/
def freeTellsUptoRow : OpenClaim := { program := "ytbiehpjhhopjaaagreat", sum := "57e797bfd57031675375bb8943a5f5dd4653d706b336562817e32bb761ccf627", func := "leverframe/leverframelaw25.FreeTells", spec := "freeTells", unfollowed := true, recurses := true, plainKeys := false, apart := false, narrowed := true }
def FreeTellsUptoSaid : Prop := freeTellsUptoRow.holds Tryz.pinned (OpenSpec.upto freeTellsSpec)

/-- 'leverframelaw25.FreeNames', WHERE WHAT IT READS IS OF BULK AT MOST 1048576: true; the input reads as it did. -/
def freeNamesUptoRow : OpenClaim := { program := "ytbiehpjhhopjaaagreat", sum := "57e797bfd57031675375bb8943a5f5dd4653d706b336562817e32bb761ccf627", func := "leverframe/leverframelaw25.FreeNames", spec := "freeNames", unfollowed := true, recurses := true, plainKeys := false, apart := false, narrowed := true }
def FreeNamesUptoSaid : Prop := freeNamesUptoRow.holds Tryz.pinned (OpenSpec.upto freeNamesSpec)

/-- 'leverframelaw25.FreeBoth', WHERE WHAT IT READS IS OF BULK AT MOST 1048576: true; the input reads as it did. -/
def freeBothUptoRow : OpenClaim := { program := "ytbiehpjhhopjaaagreat", sum := "57e797bfd57031675375bb8943a5f5dd4653d706b336562817e32bb761ccf627", func := "leverframe/leverframelaw25.FreeBoth", spec := "freeBoth", unfollowed := true, recurses := true, plainKeys := false, apart := false, narrowed := true }
def FreeBothUptoSaid : Prop := freeBothUptoRow.holds Tryz.pinned (OpenSpec.upto freeBothSpec)

/-- 'leverframelaw25.FreeFallen', WHERE WHAT IT READS IS OF BULK AT MOST 1048576: true; the input reads as it did. -/
def freeFallenUptoRow : OpenClaim := { program := "ytbiehpjhhopjaaagreat", sum := "57e797bfd57031675375bb8943a5f5dd4653d706b336562817e32bb761ccf627", func := "leverframe/leverframelaw25.FreeFallen", spec := "freeFallen", unfollowed := true, recurses := true, plainKeys := false, apart := false, narrowed := true }
def FreeFallenUptoSaid : Prop := freeFallenUptoRow.holds Tryz.pinned (OpenSpec.upto freeFallenSpec)

/-- 'leverframelaw30.BoxMakes', WHERE WHAT IT READS IS OF BULK AT MOST 1048576: true; the input reads as it did. -/
def boxMakesUptoRow : OpenClaim := { program := "ytbiehpjhhopjaaagreat", sum := "57e797bfd57031675375bb8943a5f5dd4653d706b336562817e32bb761ccf627", func := "leverframe/leverframelaw30.BoxMakes", spec := "boxMakes", unfollowed := true, recurses := true, plainKeys := false, apart := false, narrowed := true }
def BoxMakesUptoSaid : Prop := boxMakesUptoRow.holds Tryz.pinned (OpenSpec.upto boxMakesSpec)

/-- 'leverframelaw25.FreeRoutes', WHERE WHAT IT READS IS OF BULK AT MOST 1048576: true; the input reads as it did. -/
def freeRoutesUptoRow : OpenClaim := { program := "ytbiehpjhhopjaaagreat", sum := "57e797bfd57031675375bb8943a5f5dd4653d706b336562817e32bb761ccf627", func := "leverframe/leverframelaw25.FreeRoutes", spec := "freeRoutes", unfollowed := true, recurses := true, plainKeys := false, apart := false, narrowed := true }
def FreeRoutesUptoSaid : Prop := freeRoutesUptoRow.holds Tryz.pinned (OpenSpec.upto freeRoutesSpec)

end Rows
end Go.Proofs.YtbiehpjhhopjaaaGreat
