/-
  No cell of these rows narrows 'for every input' (looked for: loops, veiled, ifaces, maps, wideKeys, modest, calm, conditions, laid).
  DERIVED. THE GIVEN ROWS OF THIS SEAT. 6 by the template 'for every input the law returns true; each argument reads behind the call as it read before'; 0 by the template 'total and deterministic' (their statements: YtigkfjgmidnbhaaTotals.lean).
  GIVEN WITH THE SEED: the statements are not yours to turn. If you find one false, say at which input.
  Laid BY PROGRAM, IN A SANDBOX (cutbox-rows.mjs): the forced cells as the released guide's own fill.sh prints them over the translation 8fbb4be6738751f2… (all of the seat's roots in one cut). By AI agents, Wed Nov 11 2026. No macro, syntax, notation, axiom, sorry.
-/
import Derived.Test.YtigkfjgmidnbhaaChecked
import GoSem.Claim
import GoSem.ClaimJoined
import GoSem.ClaimMapViews
import Derived.JoinedTies
import Derived.KernelRfl
namespace Go.Proofs.Ytigkfjgmidnbhaa
/- THE CELL 'sum', in the pinned program and in every row, IS THE sha256 OF THE DUMP (.gsa) THAT YtigkfjgmidnbhaaProg.lean LOADS. Nothing in Lean hashes anything: it is a label: what it is worth is what the hold of that sum in a sandbox is worth. -/
noncomputable def Try.pinned : Pinned := { name := "ytigkfjgmidnbhaa", sum := "8fbb4be6738751f2e17496b2680753bf83e819d920e8bc6e108c4dea0bc175c3", checked := Try.checked }
namespace Rows
def none {H : Type} : Left H := { results := [], args := [] }

/-- 'leverframelaw02.CrcNames': WHATEVER THE INPUT: true; the input reads as it did. -/
def crcNamesSpec : ChangeSpec := { name := "crcNames", fn := fun _ => fun
  | [] => { results := [.lit (.bool true)], args := [] }
  | _ => none }
def crcNamesRow : OpenClaim := { program := "ytigkfjgmidnbhaa", sum := "8fbb4be6738751f2e17496b2680753bf83e819d920e8bc6e108c4dea0bc175c3", func := "leverframe/leverframelaw02.CrcNames", spec := "crcNames", unfollowed := true, recurses := true, apart := false }
def CrcNamesSaid : Prop := crcNamesRow.holds Try.pinned (OpenSpec.ofChange crcNamesSpec)

/-- ITS FALSE NEIGHBOUR: 'it returns false'. Refute it at one input. -/
def crcNamesWrong : ChangeSpec := { name := "crcNames", fn := fun _ => fun
  | [] => { results := [.lit (.bool false)], args := [] }
  | _ => none }
def CrcNamesWrongFalsely : Prop := crcNamesRow.holds Try.pinned (OpenSpec.ofChange crcNamesWrong)

/-- 'leverframelaw02.CrcTells': WHATEVER THE INPUT: true; the input reads as it did. -/
def crcTellsSpec : ChangeSpec := { name := "crcTells", fn := fun _ => fun
  | [d1, d2] => { results := [.lit (.bool true)], args := [d1, d2] }
  | _ => none }
def crcTellsRow : OpenClaim := { program := "ytigkfjgmidnbhaa", sum := "8fbb4be6738751f2e17496b2680753bf83e819d920e8bc6e108c4dea0bc175c3", func := "leverframe/leverframelaw02.CrcTells", spec := "crcTells", unfollowed := true, recurses := true, apart := false }
def CrcTellsSaid : Prop := crcTellsRow.holds Try.pinned (OpenSpec.ofChange crcTellsSpec)

/-- ITS FALSE NEIGHBOUR: 'it returns false'. Refute it at one input. -/
def crcTellsWrong : ChangeSpec := { name := "crcTells", fn := fun _ => fun
  | [d1, d2] => { results := [.lit (.bool false)], args := [d1, d2] }
  | _ => none }
def CrcTellsWrongFalsely : Prop := crcTellsRow.holds Try.pinned (OpenSpec.ofChange crcTellsWrong)

/-- 'leverframelaw02.CrcBurst': WHATEVER THE INPUT: true; the input reads as it did. -/
def crcBurstSpec : ChangeSpec := { name := "crcBurst", fn := fun _ => fun
  | [d1, d2, d3] => { results := [.lit (.bool true)], args := [d1, d2, d3] }
  | _ => none }
def crcBurstRow : OpenClaim := { program := "ytigkfjgmidnbhaa", sum := "8fbb4be6738751f2e17496b2680753bf83e819d920e8bc6e108c4dea0bc175c3", func := "leverframe/leverframelaw02.CrcBurst", spec := "crcBurst", unfollowed := true, recurses := true, apart := false }
def CrcBurstSaid : Prop := crcBurstRow.holds Try.pinned (OpenSpec.ofChange crcBurstSpec)

/-- ITS FALSE NEIGHBOUR: 'it returns false'. Refute it at one input. -/
def crcBurstWrong : ChangeSpec := { name := "crcBurst", fn := fun _ => fun
  | [d1, d2, d3] => { results := [.lit (.bool false)], args := [d1, d2, d3] }
  | _ => none }
def CrcBurstWrongFalsely : Prop := crcBurstRow.holds Try.pinned (OpenSpec.ofChange crcBurstWrong)

/-- 'leverframelaw02.CrcParts': WHATEVER THE INPUT: true; the input reads as it did. -/
def crcPartsSpec : ChangeSpec := { name := "crcParts", fn := fun _ => fun
  | [d1, d2, d3] => { results := [.lit (.bool true)], args := [d1, d2, d3] }
  | _ => none }
def crcPartsRow : OpenClaim := { program := "ytigkfjgmidnbhaa", sum := "8fbb4be6738751f2e17496b2680753bf83e819d920e8bc6e108c4dea0bc175c3", func := "leverframe/leverframelaw02.CrcParts", spec := "crcParts", unfollowed := true, recurses := true, apart := false }
def CrcPartsSaid : Prop := crcPartsRow.holds Try.pinned (OpenSpec.ofChange crcPartsSpec)

/-- ITS FALSE NEIGHBOUR: 'it returns false'. Refute it at one input. -/
def crcPartsWrong : ChangeSpec := { name := "crcParts", fn := fun _ => fun
  | [d1, d2, d3] => { results := [.lit (.bool false)], args := [d1, d2, d3] }
  | _ => none }
def CrcPartsWrongFalsely : Prop := crcPartsRow.holds Try.pinned (OpenSpec.ofChange crcPartsWrong)

/-- 'leverframelaw02.CrcThree': WHATEVER THE INPUT: true; the input reads as it did. -/
def crcThreeSpec : ChangeSpec := { name := "crcThree", fn := fun _ => fun
  | [d1, d2, d3] => { results := [.lit (.bool true)], args := [d1, d2, d3] }
  | _ => none }
def crcThreeRow : OpenClaim := { program := "ytigkfjgmidnbhaa", sum := "8fbb4be6738751f2e17496b2680753bf83e819d920e8bc6e108c4dea0bc175c3", func := "leverframe/leverframelaw02.CrcThree", spec := "crcThree", unfollowed := true, recurses := true, apart := false }
def CrcThreeSaid : Prop := crcThreeRow.holds Try.pinned (OpenSpec.ofChange crcThreeSpec)

/-- ITS FALSE NEIGHBOUR: 'it returns false'. Refute it at one input. -/
def crcThreeWrong : ChangeSpec := { name := "crcThree", fn := fun _ => fun
  | [d1, d2, d3] => { results := [.lit (.bool false)], args := [d1, d2, d3] }
  | _ => none }
def CrcThreeWrongFalsely : Prop := crcThreeRow.holds Try.pinned (OpenSpec.ofChange crcThreeWrong)

/-- 'leverframelaw14.AreaHas': WHATEVER THE INPUT: true; the input reads as it did. -/
def areaHasSpec : ChangeSpec := { name := "areaHas", fn := fun _ => fun
  | [d1, d2, d3, d4] => { results := [.lit (.bool true)], args := [d1, d2, d3, d4] }
  | _ => none }
def areaHasRow : OpenClaim := { program := "ytigkfjgmidnbhaa", sum := "8fbb4be6738751f2e17496b2680753bf83e819d920e8bc6e108c4dea0bc175c3", func := "leverframe/leverframelaw14.AreaHas", spec := "areaHas", apart := false }
def AreaHasSaid : Prop := areaHasRow.holds Try.pinned (OpenSpec.ofChange areaHasSpec)

/-- ITS FALSE NEIGHBOUR: 'it returns false'. Refute it at one input. -/
def areaHasWrong : ChangeSpec := { name := "areaHas", fn := fun _ => fun
  | [d1, d2, d3, d4] => { results := [.lit (.bool false)], args := [d1, d2, d3, d4] }
  | _ => none }
def AreaHasWrongFalsely : Prop := areaHasRow.holds Try.pinned (OpenSpec.ofChange areaHasWrong)

/- THE SECOND FORM. 'bulk': how many values and letters a reading holds, each counted each time it is reached (what is shared counts as often as it is met; a slice's spare places count too). A statement '..UptoSaid' is the law's where the arguments, and the package variables that the reading takes, are together of bulk at most 1048576: NARROWER than '..Said'. Prove '..Said' where nothing that the law and all that it calls make is longer than what came in: it says more and counts as full. Else prove '..UptoSaid'. A law counts once. -/
mutual
def uptoBulk {H : Type} : DataW H → Nat
  | .lit (.string bytes) => bytes.length + 1
  | .lit _ => 1
  | .nil => 1
  | .ptr d => uptoBulk d + 1
  | .slice elems spare => uptoBulkAll elems + uptoBulkAll spare + 1
  | .agg parts => uptoBulkAll parts + 1
  | .iface _ d => uptoBulk d + 1
  | .map entries => uptoBulkEntries entries + 1
  | .held _ => 1
def uptoBulkAll {H : Type} : List (DataW H) → Nat
  | [] => 0
  | d :: r => uptoBulk d + uptoBulkAll r
def uptoBulkEntries {H : Type} : List (Lit × DataW H) → Nat
  | [] => 0
  | x :: r => uptoBulkEntry x + uptoBulkEntries r
def uptoBulkEntry {H : Type} : Lit × DataW H → Nat
  | (.string bytes, d) => bytes.length + uptoBulk d + 1
  | (_, d) => uptoBulk d + 1
 end
def uptoSmall : (H : Type) → List (DataW H) → Bool := fun _ ds => decide (uptoBulkAll ds ≤ 1048576)
def OpenSpec.upto (s : _root_.Go.ChangeSpec) : _root_.Go.OpenSpec := { _root_.Go.OpenSpec.ofChange s with cond := some uptoSmall }

/-- 'leverframelaw02.CrcNames', WHERE WHAT IT READS IS OF BULK AT MOST 1048576: true; the input reads as it did. -/
def crcNamesUptoRow : OpenClaim := { program := "ytigkfjgmidnbhaa", sum := "8fbb4be6738751f2e17496b2680753bf83e819d920e8bc6e108c4dea0bc175c3", func := "leverframe/leverframelaw02.CrcNames", spec := "crcNames", unfollowed := true, recurses := true, apart := false, narrowed := true }
def CrcNamesUptoSaid : Prop := crcNamesUptoRow.holds Try.pinned (OpenSpec.upto crcNamesSpec)

/-- 'leverframelaw02.CrcTells', WHERE WHAT IT READS IS OF BULK AT MOST 1048576: true; the input reads as it did. -/
def crcTellsUptoRow : OpenClaim := { program := "ytigkfjgmidnbhaa", sum := "8fbb4be6738751f2e17496b2680753bf83e819d920e8bc6e108c4dea0bc175c3", func := "leverframe/leverframelaw02.CrcTells", spec := "crcTells", unfollowed := true, recurses := true, apart := false, narrowed := true }
def CrcTellsUptoSaid : Prop := crcTellsUptoRow.holds Try.pinned (OpenSpec.upto crcTellsSpec)

/-- 'leverframelaw02.CrcBurst', WHERE WHAT IT READS IS OF BULK AT MOST 1048576: true; the input reads as it did. -/
def crcBurstUptoRow : OpenClaim := { program := "ytigkfjgmidnbhaa", sum := "8fbb4be6738751f2e17496b2680753bf83e819d920e8bc6e108c4dea0bc175c3", func := "leverframe/leverframelaw02.CrcBurst", spec := "crcBurst", unfollowed := true, recurses := true, apart := false, narrowed := true }
def CrcBurstUptoSaid : Prop := crcBurstUptoRow.holds Try.pinned (OpenSpec.upto crcBurstSpec)

/-- 'leverframelaw02.CrcParts', WHERE WHAT IT READS IS OF BULK AT MOST 1048576: true; the input reads as it did. -/
def crcPartsUptoRow : OpenClaim := { program := "ytigkfjgmidnbhaa", sum := "8fbb4be6738751f2e17496b2680753bf83e819d920e8bc6e108c4dea0bc175c3", func := "leverframe/leverframelaw02.CrcParts", spec := "crcParts", unfollowed := true, recurses := true, apart := false, narrowed := true }
def CrcPartsUptoSaid : Prop := crcPartsUptoRow.holds Try.pinned (OpenSpec.upto crcPartsSpec)

/-- 'leverframelaw02.CrcThree', WHERE WHAT IT READS IS OF BULK AT MOST 1048576: true; the input reads as it did. -/
def crcThreeUptoRow : OpenClaim := { program := "ytigkfjgmidnbhaa", sum := "8fbb4be6738751f2e17496b2680753bf83e819d920e8bc6e108c4dea0bc175c3", func := "leverframe/leverframelaw02.CrcThree", spec := "crcThree", unfollowed := true, recurses := true, apart := false, narrowed := true }
def CrcThreeUptoSaid : Prop := crcThreeUptoRow.holds Try.pinned (OpenSpec.upto crcThreeSpec)

/-- 'leverframelaw14.AreaHas', WHERE WHAT IT READS IS OF BULK AT MOST 1048576: true; the input reads as it did. -/
def areaHasUptoRow : OpenClaim := { program := "ytigkfjgmidnbhaa", sum := "8fbb4be6738751f2e17496b2680753bf83e819d920e8bc6e108c4dea0bc175c3", func := "leverframe/leverframelaw14.AreaHas", spec := "areaHas", apart := false, narrowed := true }
def AreaHasUptoSaid : Prop := areaHasUptoRow.holds Try.pinned (OpenSpec.upto areaHasSpec)

end Rows
end Go.Proofs.Ytigkfjgmidnbhaa
