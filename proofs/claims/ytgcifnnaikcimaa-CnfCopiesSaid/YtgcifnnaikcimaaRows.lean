/-
  No cell of these rows narrows 'for every input' (looked for: loops, veiled, ifaces, maps, wideKeys, modest, calm, conditions, laid).
  DERIVED. THE GIVEN ROWS OF THIS SEAT. 5 by the template 'for every input the law returns true; each argument reads behind the call as it read before'; 0 by the template 'total and deterministic' (their statements: YtgcifnnaikcimaaTotals.lean).
  GIVEN WITH THE SEED: the statements are not yours to turn. If you find one false, say at which input.
  Laid BY PROGRAM, IN A SANDBOX (cutbox-rows.mjs): the forced cells as the released guide's own fill.sh prints them over the translation 4c9b38bcfd9341bd… (all of the seat's roots in one cut). By AI agents, Wed Nov 11 2026. No macro, syntax, notation, axiom, sorry.
-/
import Derived.Test.YtgcifnnaikcimaaChecked
import GoSem.Claim
import GoSem.ClaimJoined
import GoSem.ClaimMapViews
import Derived.JoinedTies
import Derived.KernelRfl
namespace Go.Proofs.Ytgcifnnaikcimaa
/- THE CELL 'sum', in the pinned program and in every row, IS THE sha256 OF THE DUMP (.gsa) THAT YtgcifnnaikcimaaProg.lean LOADS. Nothing in Lean hashes anything: it is a label: what it is worth is what the hold of that sum in a sandbox is worth. -/
noncomputable def Try.pinned : Pinned := { name := "ytgcifnnaikcimaa", sum := "4c9b38bcfd9341bdea136052e3baae66dbccc98569498ca7c2e10e8df223946d", checked := Try.checked }
namespace Rows
def none {H : Type} : Left H := { results := [], args := [] }

/-- 'bradawllaw02.CnfBrutes': WHATEVER THE INPUT: true; the input reads as it did. -/
def cnfBrutesSpec : ChangeSpec := { name := "cnfBrutes", fn := fun _ => fun
  | [d] => { results := [.lit (.bool true)], args := [d] }
  | _ => none }
def cnfBrutesRow : OpenClaim := { program := "ytgcifnnaikcimaa", sum := "4c9b38bcfd9341bdea136052e3baae66dbccc98569498ca7c2e10e8df223946d", func := "bradawl/bradawllaw02.CnfBrutes", spec := "cnfBrutes", apart := false }
def CnfBrutesSaid : Prop := cnfBrutesRow.holds Try.pinned (OpenSpec.ofChange cnfBrutesSpec)

/-- ITS FALSE NEIGHBOUR: 'it returns false'. Refute it at one input. -/
def cnfBrutesWrong : ChangeSpec := { name := "cnfBrutes", fn := fun _ => fun
  | [d] => { results := [.lit (.bool false)], args := [d] }
  | _ => none }
def CnfBrutesWrongFalsely : Prop := cnfBrutesRow.holds Try.pinned (OpenSpec.ofChange cnfBrutesWrong)

/-- 'bradawllaw02.CnfLimits': WHATEVER THE INPUT: true; the input reads as it did. -/
def cnfLimitsSpec : ChangeSpec := { name := "cnfLimits", fn := fun _ => fun
  | [d] => { results := [.lit (.bool true)], args := [d] }
  | _ => none }
def cnfLimitsRow : OpenClaim := { program := "ytgcifnnaikcimaa", sum := "4c9b38bcfd9341bdea136052e3baae66dbccc98569498ca7c2e10e8df223946d", func := "bradawl/bradawllaw02.CnfLimits", spec := "cnfLimits", apart := false }
def CnfLimitsSaid : Prop := cnfLimitsRow.holds Try.pinned (OpenSpec.ofChange cnfLimitsSpec)

/-- ITS FALSE NEIGHBOUR: 'it returns false'. Refute it at one input. -/
def cnfLimitsWrong : ChangeSpec := { name := "cnfLimits", fn := fun _ => fun
  | [d] => { results := [.lit (.bool false)], args := [d] }
  | _ => none }
def CnfLimitsWrongFalsely : Prop := cnfLimitsRow.holds Try.pinned (OpenSpec.ofChange cnfLimitsWrong)

/-- 'bradawllaw02.CnfTurned': WHATEVER THE INPUT: true; the input reads as it did. -/
def cnfTurnedSpec : ChangeSpec := { name := "cnfTurned", fn := fun _ => fun
  | [d1, d2, d3] => { results := [.lit (.bool true)], args := [d1, d2, d3] }
  | _ => none }
def cnfTurnedRow : OpenClaim := { program := "ytgcifnnaikcimaa", sum := "4c9b38bcfd9341bdea136052e3baae66dbccc98569498ca7c2e10e8df223946d", func := "bradawl/bradawllaw02.CnfTurned", spec := "cnfTurned", apart := false }
def CnfTurnedSaid : Prop := cnfTurnedRow.holds Try.pinned (OpenSpec.ofChange cnfTurnedSpec)

/-- ITS FALSE NEIGHBOUR: 'it returns false'. Refute it at one input. -/
def cnfTurnedWrong : ChangeSpec := { name := "cnfTurned", fn := fun _ => fun
  | [d1, d2, d3] => { results := [.lit (.bool false)], args := [d1, d2, d3] }
  | _ => none }
def CnfTurnedWrongFalsely : Prop := cnfTurnedRow.holds Try.pinned (OpenSpec.ofChange cnfTurnedWrong)

/-- 'bradawllaw02.CnfEvaluates': WHATEVER THE INPUT: true; the input reads as it did. -/
def cnfEvaluatesSpec : ChangeSpec := { name := "cnfEvaluates", fn := fun _ => fun
  | [d1, d2, d3] => { results := [.lit (.bool true)], args := [d1, d2, d3] }
  | _ => none }
def cnfEvaluatesRow : OpenClaim := { program := "ytgcifnnaikcimaa", sum := "4c9b38bcfd9341bdea136052e3baae66dbccc98569498ca7c2e10e8df223946d", func := "bradawl/bradawllaw02.CnfEvaluates", spec := "cnfEvaluates", unfollowed := true, recurses := true, apart := false }
def CnfEvaluatesSaid : Prop := cnfEvaluatesRow.holds Try.pinned (OpenSpec.ofChange cnfEvaluatesSpec)

/-- ITS FALSE NEIGHBOUR: 'it returns false'. Refute it at one input. -/
def cnfEvaluatesWrong : ChangeSpec := { name := "cnfEvaluates", fn := fun _ => fun
  | [d1, d2, d3] => { results := [.lit (.bool false)], args := [d1, d2, d3] }
  | _ => none }
def CnfEvaluatesWrongFalsely : Prop := cnfEvaluatesRow.holds Try.pinned (OpenSpec.ofChange cnfEvaluatesWrong)

/-- 'bradawllaw02.CnfCopies': WHATEVER THE INPUT: true; the input reads as it did. -/
def cnfCopiesSpec : ChangeSpec := { name := "cnfCopies", fn := fun _ => fun
  | [d] => { results := [.lit (.bool true)], args := [d] }
  | _ => none }
def cnfCopiesRow : OpenClaim := { program := "ytgcifnnaikcimaa", sum := "4c9b38bcfd9341bdea136052e3baae66dbccc98569498ca7c2e10e8df223946d", func := "bradawl/bradawllaw02.CnfCopies", spec := "cnfCopies", apart := false }
def CnfCopiesSaid : Prop := cnfCopiesRow.holds Try.pinned (OpenSpec.ofChange cnfCopiesSpec)

/-- ITS FALSE NEIGHBOUR: 'it returns false'. Refute it at one input. -/
def cnfCopiesWrong : ChangeSpec := { name := "cnfCopies", fn := fun _ => fun
  | [d] => { results := [.lit (.bool false)], args := [d] }
  | _ => none }
def CnfCopiesWrongFalsely : Prop := cnfCopiesRow.holds Try.pinned (OpenSpec.ofChange cnfCopiesWrong)

/- THE SECOND FORM. 'bulk': how many values and letters a reading holds, each counted each time it is reached (what is shared counts as often as it is met; a slice's spare places count too). A statement '..UptoSaid' is the law's where the arguments, and the package variables that the reading takes, are together of bulk at most 1048576: NARROWER than '..Said'. Prove '..Said' where nothing that the law and all that it calls make is longer than what came in: it says more and counts as full. Else prove '..UptoSaid'. A law counts once. -/
mutual
def uptoBulk {H : Type} : DataW H → Nat
  | .lit (.string bytes) => bytes.length + 1
  | .lit _ => 1
  | .nil => 1
  | .ptr d => uptoBulk d + 1
  | .slice elems spare => uptoBulkAll elems + uptoBulkAll spare + 1
  | .agg parts => uptoBulkAll parts + 1
  | .iface _ d => uptoBulk d + 1
  | .map entries => uptoBulkEntries entries + 1
  | .held _ => 1
def uptoBulkAll {H : Type} : List (DataW H) → Nat
  | [] => 0
  | d :: r => uptoBulk d + uptoBulkAll r
def uptoBulkEntries {H : Type} : List (Lit × DataW H) → Nat
  | [] => 0
  | x :: r => uptoBulkEntry x + uptoBulkEntries r
def uptoBulkEntry {H : Type} : Lit × DataW H → Nat
  | (.string bytes, d) => bytes.length + uptoBulk d + 1
  | (_, d) => uptoBulk d + 1
 end
def uptoSmall : (H : Type) → List (DataW H) → Bool := fun _ ds => decide (uptoBulkAll ds ≤ 1048576)
def OpenSpec.upto (s : _root_.Go.ChangeSpec) : _root_.Go.OpenSpec := { _root_.Go.OpenSpec.ofChange s with cond := some uptoSmall }

/-- 'bradawllaw02.CnfBrutes', WHERE WHAT IT READS IS OF BULK AT MOST 1048576: true; the input reads as it did. -/
def cnfBrutesUptoRow : OpenClaim := { program := "ytgcifnnaikcimaa", sum := "4c9b38bcfd9341bdea136052e3baae66dbccc98569498ca7c2e10e8df223946d", func := "bradawl/bradawllaw02.CnfBrutes", spec := "cnfBrutes", apart := false, narrowed := true }
def CnfBrutesUptoSaid : Prop := cnfBrutesUptoRow.holds Try.pinned (OpenSpec.upto cnfBrutesSpec)

/-- 'bradawllaw02.CnfLimits', WHERE WHAT IT READS IS OF BULK AT MOST 1048576: true; the input reads as it did. -/
def cnfLimitsUptoRow : OpenClaim := { program := "ytgcifnnaikcimaa", sum := "4c9b38bcfd9341bdea136052e3baae66dbccc98569498ca7c2e10e8df223946d", func := "bradawl/bradawllaw02.CnfLimits", spec := "cnfLimits", apart := false, narrowed := true }
def CnfLimitsUptoSaid : Prop := cnfLimitsUptoRow.holds Try.pinned (OpenSpec.upto cnfLimitsSpec)

/-- 'bradawllaw02.CnfTurned', WHERE WHAT IT READS IS OF BULK AT MOST 1048576: true; the input reads as it did. -/
def cnfTurnedUptoRow : OpenClaim := { program := "ytgcifnnaikcimaa", sum := "4c9b38bcfd9341bdea136052e3baae66dbccc98569498ca7c2e10e8df223946d", func := "bradawl/bradawllaw02.CnfTurned", spec := "cnfTurned", apart := false, narrowed := true }
def CnfTurnedUptoSaid : Prop := cnfTurnedUptoRow.holds Try.pinned (OpenSpec.upto cnfTurnedSpec)

/-- 'bradawllaw02.CnfEvaluates', WHERE WHAT IT READS IS OF BULK AT MOST 1048576: true; the input reads as it did. -/
def cnfEvaluatesUptoRow : OpenClaim := { program := "ytgcifnnaikcimaa", sum := "4c9b38bcfd9341bdea136052e3baae66dbccc98569498ca7c2e10e8df223946d", func := "bradawl/bradawllaw02.CnfEvaluates", spec := "cnfEvaluates", unfollowed := true, recurses := true, apart := false, narrowed := true }
def CnfEvaluatesUptoSaid : Prop := cnfEvaluatesUptoRow.holds Try.pinned (OpenSpec.upto cnfEvaluatesSpec)

/-- 'bradawllaw02.CnfCopies', WHERE WHAT IT READS IS OF BULK AT MOST 1048576: true; the input reads as it did. -/
def cnfCopiesUptoRow : OpenClaim := { program := "ytgcifnnaikcimaa", sum := "4c9b38bcfd9341bdea136052e3baae66dbccc98569498ca7c2e10e8df223946d", func := "bradawl/bradawllaw02.CnfCopies", spec := "cnfCopies", apart := false, narrowed := true }
def CnfCopiesUptoSaid : Prop := cnfCopiesUptoRow.holds Try.pinned (OpenSpec.upto cnfCopiesSpec)

end Rows
end Go.Proofs.Ytgcifnnaikcimaa
