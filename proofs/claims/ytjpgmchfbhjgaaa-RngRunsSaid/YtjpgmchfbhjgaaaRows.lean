/-
  No cell of these rows narrows 'for every input' (looked for: loops, veiled, ifaces, maps, wideKeys, modest, calm, conditions, laid).
  DERIVED. THE GIVEN ROWS OF THIS SEAT. 4 by the template 'for every input the law returns true; each argument reads behind the call as it read before'; 0 by the template 'total and deterministic' (their statements: YtjpgmchfbhjgaaaTotals.lean).
  GIVEN WITH THE SEED: the statements are not yours to turn. If you find one false, say at which input.
  Laid BY PROGRAM, IN A SANDBOX (cutbox-rows.mjs): the forced cells as the released guide's own fill.sh prints them over the translation 3d69ff05f555e700… (all of the seat's roots in one cut). By AI agents, Wed Nov 11 2026. No macro, syntax, notation, axiom, sorry.
-/
import Derived.Test.YtjpgmchfbhjgaaaChecked
import GoSem.Claim
import GoSem.ClaimJoined
import GoSem.ClaimMapViews
import Derived.JoinedTies
import Derived.KernelRfl
namespace Go.Proofs.Ytjpgmchfbhjgaaa
/- THE CELL 'sum', in the pinned program and in every row, IS THE sha256 OF THE DUMP (.gsa) THAT YtjpgmchfbhjgaaaProg.lean LOADS. Nothing in Lean hashes anything: it is a label: what it is worth is what the hold of that sum in a sandbox is worth. -/
noncomputable def Try.pinned : Pinned := { name := "ytjpgmchfbhjgaaa", sum := "3d69ff05f555e700092b5fb567984199f5ba9bec3bbdb5f6842cc76a32b854b5", checked := Try.checked }
namespace Rows
def none {H : Type} : Left H := { results := [], args := [] }

/-- 'bradawllaw09.RngAgrees': WHATEVER THE INPUT: true; the input reads as it did. -/
def rngAgreesSpec : ChangeSpec := { name := "rngAgrees", fn := fun _ => fun
  | [d1, d2, d3] => { results := [.lit (.bool true)], args := [d1, d2, d3] }
  | _ => none }
def rngAgreesRow : OpenClaim := { program := "ytjpgmchfbhjgaaa", sum := "3d69ff05f555e700092b5fb567984199f5ba9bec3bbdb5f6842cc76a32b854b5", func := "bradawl/bradawllaw09.RngAgrees", spec := "rngAgrees", apart := false }
def RngAgreesSaid : Prop := rngAgreesRow.holds Try.pinned (OpenSpec.ofChange rngAgreesSpec)

/-- ITS FALSE NEIGHBOUR: 'it returns false'. Refute it at one input. -/
def rngAgreesWrong : ChangeSpec := { name := "rngAgrees", fn := fun _ => fun
  | [d1, d2, d3] => { results := [.lit (.bool false)], args := [d1, d2, d3] }
  | _ => none }
def RngAgreesWrongFalsely : Prop := rngAgreesRow.holds Try.pinned (OpenSpec.ofChange rngAgreesWrong)

/-- 'bradawllaw09.RngSteps': WHATEVER THE INPUT: true; the input reads as it did. -/
def rngStepsSpec : ChangeSpec := { name := "rngSteps", fn := fun _ => fun
  | [d1, d2] => { results := [.lit (.bool true)], args := [d1, d2] }
  | _ => none }
def rngStepsRow : OpenClaim := { program := "ytjpgmchfbhjgaaa", sum := "3d69ff05f555e700092b5fb567984199f5ba9bec3bbdb5f6842cc76a32b854b5", func := "bradawl/bradawllaw09.RngSteps", spec := "rngSteps", unfollowed := true, recurses := true, apart := false }
def RngStepsSaid : Prop := rngStepsRow.holds Try.pinned (OpenSpec.ofChange rngStepsSpec)

/-- ITS FALSE NEIGHBOUR: 'it returns false'. Refute it at one input. -/
def rngStepsWrong : ChangeSpec := { name := "rngSteps", fn := fun _ => fun
  | [d1, d2] => { results := [.lit (.bool false)], args := [d1, d2] }
  | _ => none }
def RngStepsWrongFalsely : Prop := rngStepsRow.holds Try.pinned (OpenSpec.ofChange rngStepsWrong)

/-- 'bradawllaw09.RngRuns': WHATEVER THE INPUT: true; the input reads as it did. -/
def rngRunsSpec : ChangeSpec := { name := "rngRuns", fn := fun _ => fun
  | [d1, d2, d3] => { results := [.lit (.bool true)], args := [d1, d2, d3] }
  | _ => none }
def rngRunsRow : OpenClaim := { program := "ytjpgmchfbhjgaaa", sum := "3d69ff05f555e700092b5fb567984199f5ba9bec3bbdb5f6842cc76a32b854b5", func := "bradawl/bradawllaw09.RngRuns", spec := "rngRuns", unfollowed := true, recurses := true, apart := false }
def RngRunsSaid : Prop := rngRunsRow.holds Try.pinned (OpenSpec.ofChange rngRunsSpec)

/-- ITS FALSE NEIGHBOUR: 'it returns false'. Refute it at one input. -/
def rngRunsWrong : ChangeSpec := { name := "rngRuns", fn := fun _ => fun
  | [d1, d2, d3] => { results := [.lit (.bool false)], args := [d1, d2, d3] }
  | _ => none }
def RngRunsWrongFalsely : Prop := rngRunsRow.holds Try.pinned (OpenSpec.ofChange rngRunsWrong)

/-- 'bradawllaw09.RngBelow': WHATEVER THE INPUT: true; the input reads as it did. -/
def rngBelowSpec : ChangeSpec := { name := "rngBelow", fn := fun _ => fun
  | [d1, d2, d3] => { results := [.lit (.bool true)], args := [d1, d2, d3] }
  | _ => none }
def rngBelowRow : OpenClaim := { program := "ytjpgmchfbhjgaaa", sum := "3d69ff05f555e700092b5fb567984199f5ba9bec3bbdb5f6842cc76a32b854b5", func := "bradawl/bradawllaw09.RngBelow", spec := "rngBelow", apart := false }
def RngBelowSaid : Prop := rngBelowRow.holds Try.pinned (OpenSpec.ofChange rngBelowSpec)

/-- ITS FALSE NEIGHBOUR: 'it returns false'. Refute it at one input. -/
def rngBelowWrong : ChangeSpec := { name := "rngBelow", fn := fun _ => fun
  | [d1, d2, d3] => { results := [.lit (.bool false)], args := [d1, d2, d3] }
  | _ => none }
def RngBelowWrongFalsely : Prop := rngBelowRow.holds Try.pinned (OpenSpec.ofChange rngBelowWrong)

/- THE SECOND FORM. 'bulk': how many values and letters a reading holds, each counted each time it is reached (what is shared counts as often as it is met; a slice's spare places count too). A statement '..UptoSaid' is the law's where the arguments, and the package variables that the reading takes, are together of bulk at most 1048576: NARROWER than '..Said'. Prove '..Said' where nothing that the law and all that it calls make is longer than what came in: it says more and counts as full. Else prove '..UptoSaid'. A law counts once. -/
mutual
def uptoBulk {H : Type} : DataW H → Nat
  | .lit (.string bytes) => bytes.length + 1
  | .lit _ => 1
  | .nil => 1
  | .ptr d => uptoBulk d + 1
  | .slice elems spare => uptoBulkAll elems + uptoBulkAll spare + 1
  | .agg parts => uptoBulkAll parts + 1
  | .iface _ d => uptoBulk d + 1
  | .map entries => uptoBulkEntries entries + 1
  | .held _ => 1
def uptoBulkAll {H : Type} : List (DataW H) → Nat
  | [] => 0
  | d :: r => uptoBulk d + uptoBulkAll r
def uptoBulkEntries {H : Type} : List (Lit × DataW H) → Nat
  | [] => 0
  | x :: r => uptoBulkEntry x + uptoBulkEntries r
def uptoBulkEntry {H : Type} : Lit × DataW H → Nat
  | (.string bytes, d) => bytes.length + uptoBulk d + 1
  | (_, d) => uptoBulk d + 1
 end
def uptoSmall : (H : Type) → List (DataW H) → Bool := fun _ ds => decide (uptoBulkAll ds ≤ 1048576)
def OpenSpec.upto (s : _root_.Go.ChangeSpec) : _root_.Go.OpenSpec := { _root_.Go.OpenSpec.ofChange s with cond := some uptoSmall }

/-- 'bradawllaw09.RngAgrees', WHERE WHAT IT READS IS OF BULK AT MOST 1048576: true; the input reads as it did. -/
def rngAgreesUptoRow : OpenClaim := { program := "ytjpgmchfbhjgaaa", sum := "3d69ff05f555e700092b5fb567984199f5ba9bec3bbdb5f6842cc76a32b854b5", func := "bradawl/bradawllaw09.RngAgrees", spec := "rngAgrees", apart := false, narrowed := true }
def RngAgreesUptoSaid : Prop := rngAgreesUptoRow.holds Try.pinned (OpenSpec.upto rngAgreesSpec)

/-- 'bradawllaw09.RngSteps', WHERE WHAT IT READS IS OF BULK AT MOST 1048576: true; the input reads as it did. -/
def rngStepsUptoRow : OpenClaim := { program := "ytjpgmchfbhjgaaa", sum := "3d69ff05f555e700092b5fb567984199f5ba9bec3bbdb5f6842cc76a32b854b5", func := "bradawl/bradawllaw09.RngSteps", spec := "rngSteps", unfollowed := true, recurses := true, apart := false, narrowed := true }
def RngStepsUptoSaid : Prop := rngStepsUptoRow.holds Try.pinned (OpenSpec.upto rngStepsSpec)

/-- 'bradawllaw09.RngRuns', WHERE WHAT IT READS IS OF BULK AT MOST 1048576: true; the input reads as it did. -/
def rngRunsUptoRow : OpenClaim := { program := "ytjpgmchfbhjgaaa", sum := "3d69ff05f555e700092b5fb567984199f5ba9bec3bbdb5f6842cc76a32b854b5", func := "bradawl/bradawllaw09.RngRuns", spec := "rngRuns", unfollowed := true, recurses := true, apart := false, narrowed := true }
def RngRunsUptoSaid : Prop := rngRunsUptoRow.holds Try.pinned (OpenSpec.upto rngRunsSpec)

/-- 'bradawllaw09.RngBelow', WHERE WHAT IT READS IS OF BULK AT MOST 1048576: true; the input reads as it did. -/
def rngBelowUptoRow : OpenClaim := { program := "ytjpgmchfbhjgaaa", sum := "3d69ff05f555e700092b5fb567984199f5ba9bec3bbdb5f6842cc76a32b854b5", func := "bradawl/bradawllaw09.RngBelow", spec := "rngBelow", apart := false, narrowed := true }
def RngBelowUptoSaid : Prop := rngBelowUptoRow.holds Try.pinned (OpenSpec.upto rngBelowSpec)

end Rows
end Go.Proofs.Ytjpgmchfbhjgaaa
