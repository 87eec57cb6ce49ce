/-
  No cell of these rows narrows 'for every input' (looked for: loops, veiled, ifaces, maps, wideKeys, modest, calm, conditions, laid).
  DERIVED. THE GIVEN ROWS OF THIS SEAT. 6 by the template 'for every input the law returns true; each argument reads behind the call as it read before'; 0 by the template 'total and deterministic' (their statements: YtinmggkofdjblaaTotals.lean).
  GIVEN WITH THE SEED: the statements are not yours to turn. If you find one false, say at which input.
  Laid BY PROGRAM, IN A SANDBOX (cutbox-rows.mjs): the forced cells as the released guide's own fill.sh prints them over the translation 24742f38de160e21… (all of the seat's roots in one cut). By AI agents, Wed Nov 11 2026. No macro, syntax, notation, axiom, sorry.
-/
import Derived.Test.YtinmggkofdjblaaChecked
import GoSem.Claim
import GoSem.ClaimJoined
import GoSem.ClaimMapViews
import Derived.JoinedTies
import Derived.KernelRfl
namespace Go.Proofs.Ytinmggkofdjblaa
/- THE CELL 'sum', in the pinned program and in every row, IS THE sha256 OF THE DUMP (.gsa) THAT YtinmggkofdjblaaProg.lean LOADS. Nothing in Lean hashes anything: it is a label: what it is worth is what the hold of that sum in a sandbox is worth. -/
noncomputable def Try.pinned : Pinned := { name := "ytinmggkofdjblaa", sum := "24742f38de160e219e8bc65b4cb43cc2f6bb1ef41e0f82ac115825ee7568e20c", checked := Try.checked }
namespace Rows
def none {H : Type} : Left H := { results := [], args := [] }

/-- 'leverframelaw01.CodeOrder': WHATEVER THE INPUT: true; the input reads as it did. -/
def codeOrderSpec : ChangeSpec := { name := "codeOrder", fn := fun _ => fun
  | [d1, d2] => { results := [.lit (.bool true)], args := [d1, d2] }
  | _ => none }
def codeOrderRow : OpenClaim := { program := "ytinmggkofdjblaa", sum := "24742f38de160e219e8bc65b4cb43cc2f6bb1ef41e0f82ac115825ee7568e20c", func := "leverframe/leverframelaw01.CodeOrder", spec := "codeOrder", unfollowed := true, recurses := true, apart := false }
def CodeOrderSaid : Prop := codeOrderRow.holds Try.pinned (OpenSpec.ofChange codeOrderSpec)

/-- ITS FALSE NEIGHBOUR: 'it returns false'. Refute it at one input. -/
def codeOrderWrong : ChangeSpec := { name := "codeOrder", fn := fun _ => fun
  | [d1, d2] => { results := [.lit (.bool false)], args := [d1, d2] }
  | _ => none }
def CodeOrderWrongFalsely : Prop := codeOrderRow.holds Try.pinned (OpenSpec.ofChange codeOrderWrong)

/-- 'leverframelaw01.CodeNumbers': WHATEVER THE INPUT: true; the input reads as it did. -/
def codeNumbersSpec : ChangeSpec := { name := "codeNumbers", fn := fun _ => fun
  | [d1, d2, d3] => { results := [.lit (.bool true)], args := [d1, d2, d3] }
  | _ => none }
def codeNumbersRow : OpenClaim := { program := "ytinmggkofdjblaa", sum := "24742f38de160e219e8bc65b4cb43cc2f6bb1ef41e0f82ac115825ee7568e20c", func := "leverframe/leverframelaw01.CodeNumbers", spec := "codeNumbers", unfollowed := true, recurses := true, apart := false }
def CodeNumbersSaid : Prop := codeNumbersRow.holds Try.pinned (OpenSpec.ofChange codeNumbersSpec)

/-- ITS FALSE NEIGHBOUR: 'it returns false'. Refute it at one input. -/
def codeNumbersWrong : ChangeSpec := { name := "codeNumbers", fn := fun _ => fun
  | [d1, d2, d3] => { results := [.lit (.bool false)], args := [d1, d2, d3] }
  | _ => none }
def CodeNumbersWrongFalsely : Prop := codeNumbersRow.holds Try.pinned (OpenSpec.ofChange codeNumbersWrong)

/-- 'leverframelaw01.CodeBack': WHATEVER THE INPUT: true; the input reads as it did. -/
def codeBackSpec : ChangeSpec := { name := "codeBack", fn := fun _ => fun
  | [d1, d2, d3, d4] => { results := [.lit (.bool true)], args := [d1, d2, d3, d4] }
  | _ => none }
def codeBackRow : OpenClaim := { program := "ytinmggkofdjblaa", sum := "24742f38de160e219e8bc65b4cb43cc2f6bb1ef41e0f82ac115825ee7568e20c", func := "leverframe/leverframelaw01.CodeBack", spec := "codeBack", unfollowed := true, recurses := true, apart := false }
def CodeBackSaid : Prop := codeBackRow.holds Try.pinned (OpenSpec.ofChange codeBackSpec)

/-- ITS FALSE NEIGHBOUR: 'it returns false'. Refute it at one input. -/
def codeBackWrong : ChangeSpec := { name := "codeBack", fn := fun _ => fun
  | [d1, d2, d3, d4] => { results := [.lit (.bool false)], args := [d1, d2, d3, d4] }
  | _ => none }
def CodeBackWrongFalsely : Prop := codeBackRow.holds Try.pinned (OpenSpec.ofChange codeBackWrong)

/-- 'leverframelaw01.CodeNames': WHATEVER THE INPUT: true; the input reads as it did. -/
def codeNamesSpec : ChangeSpec := { name := "codeNames", fn := fun _ => fun
  | [] => { results := [.lit (.bool true)], args := [] }
  | _ => none }
def codeNamesRow : OpenClaim := { program := "ytinmggkofdjblaa", sum := "24742f38de160e219e8bc65b4cb43cc2f6bb1ef41e0f82ac115825ee7568e20c", func := "leverframe/leverframelaw01.CodeNames", spec := "codeNames", unfollowed := true, recurses := true, apart := false }
def CodeNamesSaid : Prop := codeNamesRow.holds Try.pinned (OpenSpec.ofChange codeNamesSpec)

/-- ITS FALSE NEIGHBOUR: 'it returns false'. Refute it at one input. -/
def codeNamesWrong : ChangeSpec := { name := "codeNames", fn := fun _ => fun
  | [] => { results := [.lit (.bool false)], args := [] }
  | _ => none }
def CodeNamesWrongFalsely : Prop := codeNamesRow.holds Try.pinned (OpenSpec.ofChange codeNamesWrong)

/-- 'leverframelaw01.CodeWraps': WHATEVER THE INPUT: true; the input reads as it did. -/
def codeWrapsSpec : ChangeSpec := { name := "codeWraps", fn := fun _ => fun
  | [d1, d2, d3] => { results := [.lit (.bool true)], args := [d1, d2, d3] }
  | _ => none }
def codeWrapsRow : OpenClaim := { program := "ytinmggkofdjblaa", sum := "24742f38de160e219e8bc65b4cb43cc2f6bb1ef41e0f82ac115825ee7568e20c", func := "leverframe/leverframelaw01.CodeWraps", spec := "codeWraps", unfollowed := true, recurses := true, apart := false }
def CodeWrapsSaid : Prop := codeWrapsRow.holds Try.pinned (OpenSpec.ofChange codeWrapsSpec)

/-- ITS FALSE NEIGHBOUR: 'it returns false'. Refute it at one input. -/
def codeWrapsWrong : ChangeSpec := { name := "codeWraps", fn := fun _ => fun
  | [d1, d2, d3] => { results := [.lit (.bool false)], args := [d1, d2, d3] }
  | _ => none }
def CodeWrapsWrongFalsely : Prop := codeWrapsRow.holds Try.pinned (OpenSpec.ofChange codeWrapsWrong)

/-- 'leverframelaw01.CodeWrapped': WHATEVER THE INPUT: true; the input reads as it did. -/
def codeWrappedSpec : ChangeSpec := { name := "codeWrapped", fn := fun _ => fun
  | [d1, d2, d3, d4, d5] => { results := [.lit (.bool true)], args := [d1, d2, d3, d4, d5] }
  | _ => none }
def codeWrappedRow : OpenClaim := { program := "ytinmggkofdjblaa", sum := "24742f38de160e219e8bc65b4cb43cc2f6bb1ef41e0f82ac115825ee7568e20c", func := "leverframe/leverframelaw01.CodeWrapped", spec := "codeWrapped", unfollowed := true, recurses := true, apart := false }
def CodeWrappedSaid : Prop := codeWrappedRow.holds Try.pinned (OpenSpec.ofChange codeWrappedSpec)

/-- ITS FALSE NEIGHBOUR: 'it returns false'. Refute it at one input. -/
def codeWrappedWrong : ChangeSpec := { name := "codeWrapped", fn := fun _ => fun
  | [d1, d2, d3, d4, d5] => { results := [.lit (.bool false)], args := [d1, d2, d3, d4, d5] }
  | _ => none }
def CodeWrappedWrongFalsely : Prop := codeWrappedRow.holds Try.pinned (OpenSpec.ofChange codeWrappedWrong)

/- THE SECOND FORM. 'bulk': how many values and letters a reading holds, each counted each time it is reached (what is shared counts as often as it is met; a slice's spare places count too). A statement '..UptoSaid' is the law's where the arguments, and the package variables that the reading takes, are together of bulk at most 1048576: NARROWER than '..Said'. Prove '..Said' where nothing that the law and all that it calls make is longer than what came in: it says more and counts as full. Else prove '..UptoSaid'. A law counts once. -/
mutual
def uptoBulk {H : Type} : DataW H → Nat
  | .lit (.string bytes) => bytes.length + 1
  | .lit _ => 1
  | .nil => 1
  | .ptr d => uptoBulk d + 1
  | .slice elems spare => uptoBulkAll elems + uptoBulkAll spare + 1
  | .agg parts => uptoBulkAll parts + 1
  | .iface _ d => uptoBulk d + 1
  | .map entries => uptoBulkEntries entries + 1
  | .held _ => 1
def uptoBulkAll {H : Type} : List (DataW H) → Nat
  | [] => 0
  | d :: r => uptoBulk d + uptoBulkAll r
def uptoBulkEntries {H : Type} : List (Lit × DataW H) → Nat
  | [] => 0
  | x :: r => uptoBulkEntry x + uptoBulkEntries r
def uptoBulkEntry {H : Type} : Lit × DataW H → Nat
  | (.string bytes, d) => bytes.length + uptoBulk d + 1
  | (_, d) => uptoBulk d + 1
 end
def uptoSmall : (H : Type) → List (DataW H) → Bool := fun _ ds => decide (uptoBulkAll ds ≤ 1048576)
def OpenSpec.upto (s : _root_.Go.ChangeSpec) : _root_.Go.OpenSpec := { _root_.Go.OpenSpec.ofChange s with cond := some uptoSmall }

/-- 'leverframelaw01.CodeOrder', WHERE WHAT IT READS IS OF BULK AT MOST 1048576: true; the input reads as it did. -/
def codeOrderUptoRow : OpenClaim := { program := "ytinmggkofdjblaa", sum := "24742f38de160e219e8bc65b4cb43cc2f6bb1ef41e0f82ac115825ee7568e20c", func := "leverframe/leverframelaw01.CodeOrder", spec := "codeOrder", unfollowed := true, recurses := true, apart := false, narrowed := true }
def CodeOrderUptoSaid : Prop := codeOrderUptoRow.holds Try.pinned (OpenSpec.upto codeOrderSpec)

/-- 'leverframelaw01.CodeNumbers', WHERE WHAT IT READS IS OF BULK AT MOST 1048576: true; the input reads as it did. -/
def codeNumbersUptoRow : OpenClaim := { program := "ytinmggkofdjblaa", sum := "24742f38de160e219e8bc65b4cb43cc2f6bb1ef41e0f82ac115825ee7568e20c", func := "leverframe/leverframelaw01.CodeNumbers", spec := "codeNumbers", unfollowed := true, recurses := true, apart := false, narrowed := true }
def CodeNumbersUptoSaid : Prop := codeNumbersUptoRow.holds Try.pinned (OpenSpec.upto codeNumbersSpec)

/-- 'leverframelaw01.CodeBack', WHERE WHAT IT READS IS OF BULK AT MOST 1048576: true; the input reads as it did. -/
def codeBackUptoRow : OpenClaim := { program := "ytinmggkofdjblaa", sum := "24742f38de160e219e8bc65b4cb43cc2f6bb1ef41e0f82ac115825ee7568e20c", func := "leverframe/leverframelaw01.CodeBack", spec := "codeBack", unfollowed := true, recurses := true, apart := false, narrowed := true }
def CodeBackUptoSaid : Prop := codeBackUptoRow.holds Try.pinned (OpenSpec.upto codeBackSpec)

/-- 'leverframelaw01.CodeNames', WHERE WHAT IT READS IS OF BULK AT MOST 1048576: true; the input reads as it did. -/
def codeNamesUptoRow : OpenClaim := { program := "ytinmggkofdjblaa", sum := "24742f38de160e219e8bc65b4cb43cc2f6bb1ef41e0f82ac115825ee7568e20c", func := "leverframe/leverframelaw01.CodeNames", spec := "codeNames", unfollowed := true, recurses := true, apart := false, narrowed := true }
def CodeNamesUptoSaid : Prop := codeNamesUptoRow.holds Try.pinned (OpenSpec.upto codeNamesSpec)

/-- 'leverframelaw01.CodeWraps', WHERE WHAT IT READS IS OF BULK AT MOST 1048576: true; the input reads as it did. -/
def codeWrapsUptoRow : OpenClaim := { program := "ytinmggkofdjblaa", sum := "24742f38de160e219e8bc65b4cb43cc2f6bb1ef41e0f82ac115825ee7568e20c", func := "leverframe/leverframelaw01.CodeWraps", spec := "codeWraps", unfollowed := true, recurses := true, apart := false, narrowed := true }
def CodeWrapsUptoSaid : Prop := codeWrapsUptoRow.holds Try.pinned (OpenSpec.upto codeWrapsSpec)

/-- 'leverframelaw01.CodeWrapped', WHERE WHAT IT READS IS OF BULK AT MOST 1048576: true; the input reads as it did. -/
def codeWrappedUptoRow : OpenClaim := { program := "ytinmggkofdjblaa", sum := "24742f38de160e219e8bc65b4cb43cc2f6bb1ef41e0f82ac115825ee7568e20c", func := "leverframe/leverframelaw01.CodeWrapped", spec := "codeWrapped", unfollowed := true, recurses := true, apart := false, narrowed := true }
def CodeWrappedUptoSaid : Prop := codeWrappedUptoRow.holds Try.pinned (OpenSpec.upto codeWrappedSpec)

end Rows
end Go.Proofs.Ytinmggkofdjblaa
