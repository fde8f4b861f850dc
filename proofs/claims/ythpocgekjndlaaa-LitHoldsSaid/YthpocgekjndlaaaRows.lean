/-
  No cell of these rows narrows 'for every input' (looked for: loops, veiled, ifaces, maps, wideKeys, modest, calm, conditions, laid).
  DERIVED. THE GIVEN ROWS OF THIS SEAT. 4 by the template 'for every input the law returns true; each argument reads behind the call as it read before'; 0 by the template 'total and deterministic' (their statements: YthpocgekjndlaaaTotals.lean).
  GIVEN WITH THE SEED: the statements are not yours to turn. If you find one false, say at which input.
  Laid BY PROGRAM, IN A SANDBOX (cutbox-rows.mjs): the forced cells as the released guide's own fill.sh prints them over the translation d69106f9ac717f6e… (all of the seat's roots in one cut). By AI agents, Wed Nov 11 2026. No macro, syntax, notation, axiom, sorry.
-/
import Derived.Test.YthpocgekjndlaaaChecked
import GoSem.Claim
import GoSem.ClaimJoined
import GoSem.ClaimMapViews
import Derived.JoinedTies
import Derived.KernelRfl
namespace Go.Proofs.Ythpocgekjndlaaa
/- THE CELL 'sum', in the pinned program and in every row, IS THE sha256 OF THE DUMP (.gsa) THAT YthpocgekjndlaaaProg.lean LOADS. Nothing in Lean hashes anything: it is a label: what it is worth is what the hold of that sum in a sandbox is worth. -/
noncomputable def Try.pinned : Pinned := { name := "ythpocgekjndlaaa", sum := "d69106f9ac717f6e4dceed5a590b2e851654eb73e937355a90d3b721515fa9df", checked := Try.checked }
namespace Rows
def none {H : Type} : Left H := { results := [], args := [] }

/-- 'bradawllaw01.LitRights': WHATEVER THE INPUT: true; the input reads as it did. -/
def litRightsSpec : ChangeSpec := { name := "litRights", fn := fun _ => fun
  | [d1, d2] => { results := [.lit (.bool true)], args := [d1, d2] }
  | _ => none }
def litRightsRow : OpenClaim := { program := "ythpocgekjndlaaa", sum := "d69106f9ac717f6e4dceed5a590b2e851654eb73e937355a90d3b721515fa9df", func := "bradawl/bradawllaw01.LitRights", spec := "litRights", apart := false }
def LitRightsSaid : Prop := litRightsRow.holds Try.pinned (OpenSpec.ofChange litRightsSpec)

/-- ITS FALSE NEIGHBOUR: 'it returns false'. Refute it at one input. -/
def litRightsWrong : ChangeSpec := { name := "litRights", fn := fun _ => fun
  | [d1, d2] => { results := [.lit (.bool false)], args := [d1, d2] }
  | _ => none }
def LitRightsWrongFalsely : Prop := litRightsRow.holds Try.pinned (OpenSpec.ofChange litRightsWrong)

/-- 'bradawllaw01.LitHolds': WHATEVER THE INPUT: true; the input reads as it did. -/
def litHoldsSpec : ChangeSpec := { name := "litHolds", fn := fun _ => fun
  | [d1, d2] => { results := [.lit (.bool true)], args := [d1, d2] }
  | _ => none }
def litHoldsRow : OpenClaim := { program := "ythpocgekjndlaaa", sum := "d69106f9ac717f6e4dceed5a590b2e851654eb73e937355a90d3b721515fa9df", func := "bradawl/bradawllaw01.LitHolds", spec := "litHolds", apart := false }
def LitHoldsSaid : Prop := litHoldsRow.holds Try.pinned (OpenSpec.ofChange litHoldsSpec)

/-- ITS FALSE NEIGHBOUR: 'it returns false'. Refute it at one input. -/
def litHoldsWrong : ChangeSpec := { name := "litHolds", fn := fun _ => fun
  | [d1, d2] => { results := [.lit (.bool false)], args := [d1, d2] }
  | _ => none }
def LitHoldsWrongFalsely : Prop := litHoldsRow.holds Try.pinned (OpenSpec.ofChange litHoldsWrong)

/-- 'bradawllaw01.LitIndexes': WHATEVER THE INPUT: true; the input reads as it did. -/
def litIndexesSpec : ChangeSpec := { name := "litIndexes", fn := fun _ => fun
  | [d1, d2] => { results := [.lit (.bool true)], args := [d1, d2] }
  | _ => none }
def litIndexesRow : OpenClaim := { program := "ythpocgekjndlaaa", sum := "d69106f9ac717f6e4dceed5a590b2e851654eb73e937355a90d3b721515fa9df", func := "bradawl/bradawllaw01.LitIndexes", spec := "litIndexes", apart := false }
def LitIndexesSaid : Prop := litIndexesRow.holds Try.pinned (OpenSpec.ofChange litIndexesSpec)

/-- ITS FALSE NEIGHBOUR: 'it returns false'. Refute it at one input. -/
def litIndexesWrong : ChangeSpec := { name := "litIndexes", fn := fun _ => fun
  | [d1, d2] => { results := [.lit (.bool false)], args := [d1, d2] }
  | _ => none }
def LitIndexesWrongFalsely : Prop := litIndexesRow.holds Try.pinned (OpenSpec.ofChange litIndexesWrong)

/-- 'bradawllaw01.LitBounds': WHATEVER THE INPUT: true; the input reads as it did. -/
def litBoundsSpec : ChangeSpec := { name := "litBounds", fn := fun _ => fun
  | [d] => { results := [.lit (.bool true)], args := [d] }
  | _ => none }
def litBoundsRow : OpenClaim := { program := "ythpocgekjndlaaa", sum := "d69106f9ac717f6e4dceed5a590b2e851654eb73e937355a90d3b721515fa9df", func := "bradawl/bradawllaw01.LitBounds", spec := "litBounds", apart := false }
def LitBoundsSaid : Prop := litBoundsRow.holds Try.pinned (OpenSpec.ofChange litBoundsSpec)

/-- ITS FALSE NEIGHBOUR: 'it returns false'. Refute it at one input. -/
def litBoundsWrong : ChangeSpec := { name := "litBounds", fn := fun _ => fun
  | [d] => { results := [.lit (.bool false)], args := [d] }
  | _ => none }
def LitBoundsWrongFalsely : Prop := litBoundsRow.holds Try.pinned (OpenSpec.ofChange litBoundsWrong)

/- THE SECOND FORM. 'bulk': how many values and letters a reading holds, each counted each time it is reached (what is shared counts as often as it is met; a slice's spare places count too). A statement '..UptoSaid' is the law's where the arguments, and the package variables that the reading takes, are together of bulk at most 1048576: NARROWER than '..Said'. Prove '..Said' where nothing that the law and all that it calls make is longer than what came in: it says more and counts as full. Else prove '..UptoSaid'. A law counts once. -/
mutual
def uptoBulk {H : Type} : DataW H → Nat
  | .lit (.string bytes) => bytes.length + 1
  | .lit _ => 1
  | .nil => 1
  | .ptr d => uptoBulk d + 1
  | .slice elems spare => uptoBulkAll elems + uptoBulkAll spare + 1
  | .agg parts => uptoBulkAll parts + 1
  | .iface _ d => uptoBulk d + 1
  | .map entries => uptoBulkEntries entries + 1
  | .held _ => 1
def uptoBulkAll {H : Type} : List (DataW H) → Nat
  | [] => 0
  | d :: r => uptoBulk d + uptoBulkAll r
def uptoBulkEntries {H : Type} : List (Lit × DataW H) → Nat
  | [] => 0
  | x :: r => uptoBulkEntry x + uptoBulkEntries r
def uptoBulkEntry {H : Type} : Lit × DataW H → Nat
  | (.string bytes, d) => bytes.length + uptoBulk d + 1
  | (_, d) => uptoBulk d + 1
 end
def uptoSmall : (H : Type) → List (DataW H) → Bool := fun _ ds => decide (uptoBulkAll ds ≤ 1048576)
def OpenSpec.upto (s : _root_.Go.ChangeSpec) : _root_.Go.OpenSpec := { _root_.Go.OpenSpec.ofChange s with cond := some uptoSmall }

/-- 'bradawllaw01.LitRights', WHERE WHAT IT READS IS OF BULK AT MOST 1048576: true; the input reads as it did. -/
def litRightsUptoRow : OpenClaim := { program := "ythpocgekjndlaaa", sum := "d69106f9ac717f6e4dceed5a590b2e851654eb73e937355a90d3b721515fa9df", func := "bradawl/bradawllaw01.LitRights", spec := "litRights", apart := false, narrowed := true }
def LitRightsUptoSaid : Prop := litRightsUptoRow.holds Try.pinned (OpenSpec.upto litRightsSpec)

/-- 'bradawllaw01.LitHolds', WHERE WHAT IT READS IS OF BULK AT MOST 1048576: true; the input reads as it did. -/
def litHoldsUptoRow : OpenClaim := { program := "ythpocgekjndlaaa", sum := "d69106f9ac717f6e4dceed5a590b2e851654eb73e937355a90d3b721515fa9df", func := "bradawl/bradawllaw01.LitHolds", spec := "litHolds", apart := false, narrowed := true }
def LitHoldsUptoSaid : Prop := litHoldsUptoRow.holds Try.pinned (OpenSpec.upto litHoldsSpec)

/-- 'bradawllaw01.LitIndexes', WHERE WHAT IT READS IS OF BULK AT MOST 1048576: true; the input reads as it did. -/
def litIndexesUptoRow : OpenClaim := { program := "ythpocgekjndlaaa", sum := "d69106f9ac717f6e4dceed5a590b2e851654eb73e937355a90d3b721515fa9df", func := "bradawl/bradawllaw01.LitIndexes", spec := "litIndexes", apart := false, narrowed := true }
def LitIndexesUptoSaid : Prop := litIndexesUptoRow.holds Try.pinned (OpenSpec.upto litIndexesSpec)

/-- 'bradawllaw01.LitBounds', WHERE WHAT IT READS IS OF BULK AT MOST 1048576: true; the input reads as it did. -/
def litBoundsUptoRow : OpenClaim := { program := "ythpocgekjndlaaa", sum := "d69106f9ac717f6e4dceed5a590b2e851654eb73e937355a90d3b721515fa9df", func := "bradawl/bradawllaw01.LitBounds", spec := "litBounds", apart := false, narrowed := true }
def LitBoundsUptoSaid : Prop := litBoundsUptoRow.holds Try.pinned (OpenSpec.upto litBoundsSpec)

end Rows
end Go.Proofs.Ythpocgekjndlaaa
