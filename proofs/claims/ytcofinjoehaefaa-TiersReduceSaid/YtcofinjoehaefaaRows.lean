/-
  No cell of these rows narrows 'for every input' (looked for: loops, veiled, ifaces, maps, wideKeys, modest, calm, conditions, laid).
  DERIVED. THE GIVEN ROWS OF THIS SEAT. 5 by the template 'for every input the law returns true; each argument reads behind the call as it read before'; 0 by the template 'total and deterministic' (their statements: YtcofinjoehaefaaTotals.lean).
  GIVEN WITH THE SEED: the statements are not yours to turn. If you find one false, say at which input.
  Laid BY PROGRAM, IN A SANDBOX (cutbox-rows.mjs): the forced cells as the released guide's own fill.sh prints them over the translation ffc49cbca62e687e… (all of the seat's roots in one cut). By AI agents, Wed Nov 11 2026. No macro, syntax, notation, axiom, sorry.
-/
import Derived.Test.YtcofinjoehaefaaChecked
import GoSem.Claim
import GoSem.ClaimJoined
import GoSem.ClaimMapViews
import Derived.JoinedTies
import Derived.KernelRfl
namespace Go.Proofs.Ytcofinjoehaefaa
/- THE CELL 'sum', in the pinned program and in every row, IS THE sha256 OF THE DUMP (.gsa) THAT YtcofinjoehaefaaProg.lean LOADS. Nothing in Lean hashes anything: it is a label: what it is worth is what the hold of that sum in a sandbox is worth. -/
noncomputable def Try.pinned : Pinned := { name := "ytcofinjoehaefaa", sum := "ffc49cbca62e687e0a1e865c351f3f14a2923bf6536ef11a0ea4da5b5e5e3e6c", checked := Try.checked }
namespace Rows
def none {H : Type} : Left H := { results := [], args := [] }

/-- 'bradawllaw20.TiersReduce': WHATEVER THE INPUT: true; the input reads as it did. -/
def tiersReduceSpec : ChangeSpec := { name := "tiersReduce", fn := fun _ => fun
  | [d1, d2, d3] => { results := [.lit (.bool true)], args := [d1, d2, d3] }
  | _ => none }
def tiersReduceRow : OpenClaim := { program := "ytcofinjoehaefaa", sum := "ffc49cbca62e687e0a1e865c351f3f14a2923bf6536ef11a0ea4da5b5e5e3e6c", func := "bradawl/bradawllaw20.TiersReduce", spec := "tiersReduce", unfollowed := true, recurses := true, apart := false }
def TiersReduceSaid : Prop := tiersReduceRow.holds Try.pinned (OpenSpec.ofChange tiersReduceSpec)

/-- ITS FALSE NEIGHBOUR: 'it returns false'. Refute it at one input. -/
def tiersReduceWrong : ChangeSpec := { name := "tiersReduce", fn := fun _ => fun
  | [d1, d2, d3] => { results := [.lit (.bool false)], args := [d1, d2, d3] }
  | _ => none }
def TiersReduceWrongFalsely : Prop := tiersReduceRow.holds Try.pinned (OpenSpec.ofChange tiersReduceWrong)

/-- 'bradawllaw20.TiersTell': WHATEVER THE INPUT: true; the input reads as it did. -/
def tiersTellSpec : ChangeSpec := { name := "tiersTell", fn := fun _ => fun
  | [d1, d2, d3] => { results := [.lit (.bool true)], args := [d1, d2, d3] }
  | _ => none }
def tiersTellRow : OpenClaim := { program := "ytcofinjoehaefaa", sum := "ffc49cbca62e687e0a1e865c351f3f14a2923bf6536ef11a0ea4da5b5e5e3e6c", func := "bradawl/bradawllaw20.TiersTell", spec := "tiersTell", unfollowed := true, recurses := true, apart := false }
def TiersTellSaid : Prop := tiersTellRow.holds Try.pinned (OpenSpec.ofChange tiersTellSpec)

/-- ITS FALSE NEIGHBOUR: 'it returns false'. Refute it at one input. -/
def tiersTellWrong : ChangeSpec := { name := "tiersTell", fn := fun _ => fun
  | [d1, d2, d3] => { results := [.lit (.bool false)], args := [d1, d2, d3] }
  | _ => none }
def TiersTellWrongFalsely : Prop := tiersTellRow.holds Try.pinned (OpenSpec.ofChange tiersTellWrong)

/-- 'bradawllaw20.TiersUsed': WHATEVER THE INPUT: true; the input reads as it did. -/
def tiersUsedSpec : ChangeSpec := { name := "tiersUsed", fn := fun _ => fun
  | [d1, d2, d3] => { results := [.lit (.bool true)], args := [d1, d2, d3] }
  | _ => none }
def tiersUsedRow : OpenClaim := { program := "ytcofinjoehaefaa", sum := "ffc49cbca62e687e0a1e865c351f3f14a2923bf6536ef11a0ea4da5b5e5e3e6c", func := "bradawl/bradawllaw20.TiersUsed", spec := "tiersUsed", unfollowed := true, recurses := true, apart := false }
def TiersUsedSaid : Prop := tiersUsedRow.holds Try.pinned (OpenSpec.ofChange tiersUsedSpec)

/-- ITS FALSE NEIGHBOUR: 'it returns false'. Refute it at one input. -/
def tiersUsedWrong : ChangeSpec := { name := "tiersUsed", fn := fun _ => fun
  | [d1, d2, d3] => { results := [.lit (.bool false)], args := [d1, d2, d3] }
  | _ => none }
def TiersUsedWrongFalsely : Prop := tiersUsedRow.holds Try.pinned (OpenSpec.ofChange tiersUsedWrong)

/-- 'bradawllaw20.TiersStill': WHATEVER THE INPUT: true; the input reads as it did. -/
def tiersStillSpec : ChangeSpec := { name := "tiersStill", fn := fun _ => fun
  | [d1, d2, d3] => { results := [.lit (.bool true)], args := [d1, d2, d3] }
  | _ => none }
def tiersStillRow : OpenClaim := { program := "ytcofinjoehaefaa", sum := "ffc49cbca62e687e0a1e865c351f3f14a2923bf6536ef11a0ea4da5b5e5e3e6c", func := "bradawl/bradawllaw20.TiersStill", spec := "tiersStill", unfollowed := true, recurses := true, apart := false }
def TiersStillSaid : Prop := tiersStillRow.holds Try.pinned (OpenSpec.ofChange tiersStillSpec)

/-- ITS FALSE NEIGHBOUR: 'it returns false'. Refute it at one input. -/
def tiersStillWrong : ChangeSpec := { name := "tiersStill", fn := fun _ => fun
  | [d1, d2, d3] => { results := [.lit (.bool false)], args := [d1, d2, d3] }
  | _ => none }
def TiersStillWrongFalsely : Prop := tiersStillRow.holds Try.pinned (OpenSpec.ofChange tiersStillWrong)

/-- 'bradawllaw20.TiersOutlive': WHATEVER THE INPUT: true; the input reads as it did. -/
def tiersOutliveSpec : ChangeSpec := { name := "tiersOutlive", fn := fun _ => fun
  | [d1, d2] => { results := [.lit (.bool true)], args := [d1, d2] }
  | _ => none }
def tiersOutliveRow : OpenClaim := { program := "ytcofinjoehaefaa", sum := "ffc49cbca62e687e0a1e865c351f3f14a2923bf6536ef11a0ea4da5b5e5e3e6c", func := "bradawl/bradawllaw20.TiersOutlive", spec := "tiersOutlive", unfollowed := true, recurses := true, apart := false }
def TiersOutliveSaid : Prop := tiersOutliveRow.holds Try.pinned (OpenSpec.ofChange tiersOutliveSpec)

/-- ITS FALSE NEIGHBOUR: 'it returns false'. Refute it at one input. -/
def tiersOutliveWrong : ChangeSpec := { name := "tiersOutlive", fn := fun _ => fun
  | [d1, d2] => { results := [.lit (.bool false)], args := [d1, d2] }
  | _ => none }
def TiersOutliveWrongFalsely : Prop := tiersOutliveRow.holds Try.pinned (OpenSpec.ofChange tiersOutliveWrong)

/- THE SECOND FORM. 'bulk': how many values and letters a reading holds, each counted each time it is reached (what is shared counts as often as it is met; a slice's spare places count too). A statement '..UptoSaid' is the law's where the arguments, and the package variables that the reading takes, are together of bulk at most 1048576: NARROWER than '..Said'. Prove '..Said' where nothing that the law and all that it calls make is longer than what came in: it says more and counts as full. Else prove '..UptoSaid'. A law counts once. -/
mutual
def uptoBulk {H : Type} : DataW H → Nat
  | .lit (.string bytes) => bytes.length + 1
  | .lit _ => 1
  | .nil => 1
  | .ptr d => uptoBulk d + 1
  | .slice elems spare => uptoBulkAll elems + uptoBulkAll spare + 1
  | .agg parts => uptoBulkAll parts + 1
  | .iface _ d => uptoBulk d + 1
  | .map entries => uptoBulkEntries entries + 1
  | .held _ => 1
def uptoBulkAll {H : Type} : List (DataW H) → Nat
  | [] => 0
  | d :: r => uptoBulk d + uptoBulkAll r
def uptoBulkEntries {H : Type} : List (Lit × DataW H) → Nat
  | [] => 0
  | x :: r => uptoBulkEntry x + uptoBulkEntries r
def uptoBulkEntry {H : Type} : Lit × DataW H → Nat
  | (.string bytes, d) => bytes.length + uptoBulk d + 1
  | (_, d) => uptoBulk d + 1
 end
def uptoSmall : (H : Type) → List (DataW H) → Bool := fun _ ds => decide (uptoBulkAll ds ≤ 1048576)
def OpenSpec.upto (s : _root_.Go.ChangeSpec) : _root_.Go.OpenSpec := { _root_.Go.OpenSpec.ofChange s with cond := some uptoSmall }

/-- 'bradawllaw20.TiersReduce', WHERE WHAT IT READS IS OF BULK AT MOST 1048576: true; the input reads as it did. -/
def tiersReduceUptoRow : OpenClaim := { program := "ytcofinjoehaefaa", sum := "ffc49cbca62e687e0a1e865c351f3f14a2923bf6536ef11a0ea4da5b5e5e3e6c", func := "bradawl/bradawllaw20.TiersReduce", spec := "tiersReduce", unfollowed := true, recurses := true, apart := false, narrowed := true }
def TiersReduceUptoSaid : Prop := tiersReduceUptoRow.holds Try.pinned (OpenSpec.upto tiersReduceSpec)

/-- 'bradawllaw20.TiersTell', WHERE WHAT IT READS IS OF BULK AT MOST 1048576: true; the input reads as it did. -/
def tiersTellUptoRow : OpenClaim := { program := "ytcofinjoehaefaa", sum := "ffc49cbca62e687e0a1e865c351f3f14a2923bf6536ef11a0ea4da5b5e5e3e6c", func := "bradawl/bradawllaw20.TiersTell", spec := "tiersTell", unfollowed := true, recurses := true, apart := false, narrowed := true }
def TiersTellUptoSaid : Prop := tiersTellUptoRow.holds Try.pinned (OpenSpec.upto tiersTellSpec)

/-- 'bradawllaw20.TiersUsed', WHERE WHAT IT READS IS OF BULK AT MOST 1048576: true; the input reads as it did. -/
def tiersUsedUptoRow : OpenClaim := { program := "ytcofinjoehaefaa", sum := "ffc49cbca62e687e0a1e865c351f3f14a2923bf6536ef11a0ea4da5b5e5e3e6c", func := "bradawl/bradawllaw20.TiersUsed", spec := "tiersUsed", unfollowed := true, recurses := true, apart := false, narrowed := true }
def TiersUsedUptoSaid : Prop := tiersUsedUptoRow.holds Try.pinned (OpenSpec.upto tiersUsedSpec)

/-- 'bradawllaw20.TiersStill', WHERE WHAT IT READS IS OF BULK AT MOST 1048576: true; the input reads as it did. -/
def tiersStillUptoRow : OpenClaim := { program := "ytcofinjoehaefaa", sum := "ffc49cbca62e687e0a1e865c351f3f14a2923bf6536ef11a0ea4da5b5e5e3e6c", func := "bradawl/bradawllaw20.TiersStill", spec := "tiersStill", unfollowed := true, recurses := true, apart := false, narrowed := true }
def TiersStillUptoSaid : Prop := tiersStillUptoRow.holds Try.pinned (OpenSpec.upto tiersStillSpec)

/-- 'bradawllaw20.TiersOutlive', WHERE WHAT IT READS IS OF BULK AT MOST 1048576: true; the input reads as it did. -/
def tiersOutliveUptoRow : OpenClaim := { program := "ytcofinjoehaefaa", sum := "ffc49cbca62e687e0a1e865c351f3f14a2923bf6536ef11a0ea4da5b5e5e3e6c", func := "bradawl/bradawllaw20.TiersOutlive", spec := "tiersOutlive", unfollowed := true, recurses := true, apart := false, narrowed := true }
def TiersOutliveUptoSaid : Prop := tiersOutliveUptoRow.holds Try.pinned (OpenSpec.upto tiersOutliveSpec)

end Rows
end Go.Proofs.Ytcofinjoehaefaa
