/-
  No cell of these rows narrows 'for every input' (looked for: loops, veiled, ifaces, maps, wideKeys, modest, calm, conditions, laid).
  DERIVED. THE GIVEN ROWS OF THIS SEAT. 5 by the template 'for every input the law returns true; each argument reads behind the call as it read before'; 0 by the template 'total and deterministic' (their statements: YtcmpdfjojeblmaaTotals.lean).
  GIVEN WITH THE SEED: the statements are not yours to turn. If you find one false, say at which input.
  Laid BY PROGRAM, IN A SANDBOX (cutbox-rows.mjs): the forced cells as the released guide's own fill.sh prints them over the translation 1f6c70aa8410215d… (all of the seat's roots in one cut). By AI agents, Wed Nov 11 2026. No macro, syntax, notation, axiom, sorry.
-/
import Derived.Test.YtcmpdfjojeblmaaChecked
import GoSem.Claim
import GoSem.ClaimJoined
import GoSem.ClaimMapViews
import Derived.JoinedTies
import Derived.KernelRfl
namespace Go.Proofs.Ytcmpdfjojeblmaa
/- THE CELL 'sum', in the pinned program and in every row, IS THE sha256 OF THE DUMP (.gsa) THAT YtcmpdfjojeblmaaProg.lean LOADS. Nothing in Lean hashes anything: it is a label: what it is worth is what the hold of that sum in a sandbox is worth. -/
noncomputable def Try.pinned : Pinned := { name := "ytcmpdfjojeblmaa", sum := "1f6c70aa8410215d6f1c3f5bd15656f8bee7081cc202cd4e57dee74ddc0f74e6", checked := Try.checked }
namespace Rows
def none {H : Type} : Left H := { results := [], args := [] }

/-- 'bradawllaw17.VmtfStamps': WHATEVER THE INPUT: true; the input reads as it did. -/
def vmtfStampsSpec : ChangeSpec := { name := "vmtfStamps", fn := fun _ => fun
  | [d1, d2] => { results := [.lit (.bool true)], args := [d1, d2] }
  | _ => none }
def vmtfStampsRow : OpenClaim := { program := "ytcmpdfjojeblmaa", sum := "1f6c70aa8410215d6f1c3f5bd15656f8bee7081cc202cd4e57dee74ddc0f74e6", func := "bradawl/bradawllaw17.VmtfStamps", spec := "vmtfStamps", unfollowed := true, recurses := true, apart := false }
def VmtfStampsSaid : Prop := vmtfStampsRow.holds Try.pinned (OpenSpec.ofChange vmtfStampsSpec)

/-- ITS FALSE NEIGHBOUR: 'it returns false'. Refute it at one input. -/
def vmtfStampsWrong : ChangeSpec := { name := "vmtfStamps", fn := fun _ => fun
  | [d1, d2] => { results := [.lit (.bool false)], args := [d1, d2] }
  | _ => none }
def VmtfStampsWrongFalsely : Prop := vmtfStampsRow.holds Try.pinned (OpenSpec.ofChange vmtfStampsWrong)

/-- 'bradawllaw17.VmtfLeaves': WHATEVER THE INPUT: true; the input reads as it did. -/
def vmtfLeavesSpec : ChangeSpec := { name := "vmtfLeaves", fn := fun _ => fun
  | [d1, d2, d3] => { results := [.lit (.bool true)], args := [d1, d2, d3] }
  | _ => none }
def vmtfLeavesRow : OpenClaim := { program := "ytcmpdfjojeblmaa", sum := "1f6c70aa8410215d6f1c3f5bd15656f8bee7081cc202cd4e57dee74ddc0f74e6", func := "bradawl/bradawllaw17.VmtfLeaves", spec := "vmtfLeaves", unfollowed := true, recurses := true, apart := false }
def VmtfLeavesSaid : Prop := vmtfLeavesRow.holds Try.pinned (OpenSpec.ofChange vmtfLeavesSpec)

/-- ITS FALSE NEIGHBOUR: 'it returns false'. Refute it at one input. -/
def vmtfLeavesWrong : ChangeSpec := { name := "vmtfLeaves", fn := fun _ => fun
  | [d1, d2, d3] => { results := [.lit (.bool false)], args := [d1, d2, d3] }
  | _ => none }
def VmtfLeavesWrongFalsely : Prop := vmtfLeavesRow.holds Try.pinned (OpenSpec.ofChange vmtfLeavesWrong)

/-- 'bradawllaw17.VmtfOnce': WHATEVER THE INPUT: true; the input reads as it did. -/
def vmtfOnceSpec : ChangeSpec := { name := "vmtfOnce", fn := fun _ => fun
  | [d1, d2] => { results := [.lit (.bool true)], args := [d1, d2] }
  | _ => none }
def vmtfOnceRow : OpenClaim := { program := "ytcmpdfjojeblmaa", sum := "1f6c70aa8410215d6f1c3f5bd15656f8bee7081cc202cd4e57dee74ddc0f74e6", func := "bradawl/bradawllaw17.VmtfOnce", spec := "vmtfOnce", unfollowed := true, recurses := true, apart := false }
def VmtfOnceSaid : Prop := vmtfOnceRow.holds Try.pinned (OpenSpec.ofChange vmtfOnceSpec)

/-- ITS FALSE NEIGHBOUR: 'it returns false'. Refute it at one input. -/
def vmtfOnceWrong : ChangeSpec := { name := "vmtfOnce", fn := fun _ => fun
  | [d1, d2] => { results := [.lit (.bool false)], args := [d1, d2] }
  | _ => none }
def VmtfOnceWrongFalsely : Prop := vmtfOnceRow.holds Try.pinned (OpenSpec.ofChange vmtfOnceWrong)

/-- 'bradawllaw17.VmtfRuns': WHATEVER THE INPUT: true; the input reads as it did. -/
def vmtfRunsSpec : ChangeSpec := { name := "vmtfRuns", fn := fun _ => fun
  | [d1, d2, d3] => { results := [.lit (.bool true)], args := [d1, d2, d3] }
  | _ => none }
def vmtfRunsRow : OpenClaim := { program := "ytcmpdfjojeblmaa", sum := "1f6c70aa8410215d6f1c3f5bd15656f8bee7081cc202cd4e57dee74ddc0f74e6", func := "bradawl/bradawllaw17.VmtfRuns", spec := "vmtfRuns", unfollowed := true, recurses := true, apart := false }
def VmtfRunsSaid : Prop := vmtfRunsRow.holds Try.pinned (OpenSpec.ofChange vmtfRunsSpec)

/-- ITS FALSE NEIGHBOUR: 'it returns false'. Refute it at one input. -/
def vmtfRunsWrong : ChangeSpec := { name := "vmtfRuns", fn := fun _ => fun
  | [d1, d2, d3] => { results := [.lit (.bool false)], args := [d1, d2, d3] }
  | _ => none }
def VmtfRunsWrongFalsely : Prop := vmtfRunsRow.holds Try.pinned (OpenSpec.ofChange vmtfRunsWrong)

/-- 'bradawllaw17.VmtfFinds': WHATEVER THE INPUT: true; the input reads as it did. -/
def vmtfFindsSpec : ChangeSpec := { name := "vmtfFinds", fn := fun _ => fun
  | [d1, d2, d3] => { results := [.lit (.bool true)], args := [d1, d2, d3] }
  | _ => none }
def vmtfFindsRow : OpenClaim := { program := "ytcmpdfjojeblmaa", sum := "1f6c70aa8410215d6f1c3f5bd15656f8bee7081cc202cd4e57dee74ddc0f74e6", func := "bradawl/bradawllaw17.VmtfFinds", spec := "vmtfFinds", unfollowed := true, recurses := true, apart := false }
def VmtfFindsSaid : Prop := vmtfFindsRow.holds Try.pinned (OpenSpec.ofChange vmtfFindsSpec)

/-- ITS FALSE NEIGHBOUR: 'it returns false'. Refute it at one input. -/
def vmtfFindsWrong : ChangeSpec := { name := "vmtfFinds", fn := fun _ => fun
  | [d1, d2, d3] => { results := [.lit (.bool false)], args := [d1, d2, d3] }
  | _ => none }
def VmtfFindsWrongFalsely : Prop := vmtfFindsRow.holds Try.pinned (OpenSpec.ofChange vmtfFindsWrong)

/- THE SECOND FORM. 'bulk': how many values and letters a reading holds, each counted each time it is reached (what is shared counts as often as it is met; a slice's spare places count too). A statement '..UptoSaid' is the law's where the arguments, and the package variables that the reading takes, are together of bulk at most 1048576: NARROWER than '..Said'. Prove '..Said' where nothing that the law and all that it calls make is longer than what came in: it says more and counts as full. Else prove '..UptoSaid'. A law counts once. -/
mutual
def uptoBulk {H : Type} : DataW H → Nat
  | .lit (.string bytes) => bytes.length + 1
  | .lit _ => 1
  | .nil => 1
  | .ptr d => uptoBulk d + 1
  | .slice elems spare => uptoBulkAll elems + uptoBulkAll spare + 1
  | .agg parts => uptoBulkAll parts + 1
  | .iface _ d => uptoBulk d + 1
  | .map entries => uptoBulkEntries entries + 1
  | .held _ => 1
def uptoBulkAll {H : Type} : List (DataW H) → Nat
  | [] => 0
  | d :: r => uptoBulk d + uptoBulkAll r
def uptoBulkEntries {H : Type} : List (Lit × DataW H) → Nat
  | [] => 0
  | x :: r => uptoBulkEntry x + uptoBulkEntries r
def uptoBulkEntry {H : Type} : Lit × DataW H → Nat
  | (.string bytes, d) => bytes.length + uptoBulk d + 1
  | (_, d) => uptoBulk d + 1
 end
def uptoSmall : (H : Type) → List (DataW H) → Bool := fun _ ds => decide (uptoBulkAll ds ≤ 1048576)
def OpenSpec.upto (s : _root_.Go.ChangeSpec) : _root_.Go.OpenSpec := { _root_.Go.OpenSpec.ofChange s with cond := some uptoSmall }

/-- 'bradawllaw17.VmtfStamps', WHERE WHAT IT READS IS OF BULK AT MOST 1048576: true; the input reads as it did. -/
def vmtfStampsUptoRow : OpenClaim := { program := "ytcmpdfjojeblmaa", sum := "1f6c70aa8410215d6f1c3f5bd15656f8bee7081cc202cd4e57dee74ddc0f74e6", func := "bradawl/bradawllaw17.VmtfStamps", spec := "vmtfStamps", unfollowed := true, recurses := true, apart := false, narrowed := true }
def VmtfStampsUptoSaid : Prop := vmtfStampsUptoRow.holds Try.pinned (OpenSpec.upto vmtfStampsSpec)

/-- 'bradawllaw17.VmtfLeaves', WHERE WHAT IT READS IS OF BULK AT MOST 1048576: true; the input reads as it did. -/
def vmtfLeavesUptoRow : OpenClaim := { program := "ytcmpdfjojeblmaa", sum := "1f6c70aa8410215d6f1c3f5bd15656f8bee7081cc202cd4e57dee74ddc0f74e6", func := "bradawl/bradawllaw17.VmtfLeaves", spec := "vmtfLeaves", unfollowed := true, recurses := true, apart := false, narrowed := true }
def VmtfLeavesUptoSaid : Prop := vmtfLeavesUptoRow.holds Try.pinned (OpenSpec.upto vmtfLeavesSpec)

/-- 'bradawllaw17.VmtfOnce', WHERE WHAT IT READS IS OF BULK AT MOST 1048576: true; the input reads as it did. -/
def vmtfOnceUptoRow : OpenClaim := { program := "ytcmpdfjojeblmaa", sum := "1f6c70aa8410215d6f1c3f5bd15656f8bee7081cc202cd4e57dee74ddc0f74e6", func := "bradawl/bradawllaw17.VmtfOnce", spec := "vmtfOnce", unfollowed := true, recurses := true, apart := false, narrowed := true }
def VmtfOnceUptoSaid : Prop := vmtfOnceUptoRow.holds Try.pinned (OpenSpec.upto vmtfOnceSpec)

/-- 'bradawllaw17.VmtfRuns', WHERE WHAT IT READS IS OF BULK AT MOST 1048576: true; the input reads as it did. -/
def vmtfRunsUptoRow : OpenClaim := { program := "ytcmpdfjojeblmaa", sum := "1f6c70aa8410215d6f1c3f5bd15656f8bee7081cc202cd4e57dee74ddc0f74e6", func := "bradawl/bradawllaw17.VmtfRuns", spec := "vmtfRuns", unfollowed := true, recurses := true, apart := false, narrowed := true }
def VmtfRunsUptoSaid : Prop := vmtfRunsUptoRow.holds Try.pinned (OpenSpec.upto vmtfRunsSpec)

/-- 'bradawllaw17.VmtfFinds', WHERE WHAT IT READS IS OF BULK AT MOST 1048576: true; the input reads as it did. -/
def vmtfFindsUptoRow : OpenClaim := { program := "ytcmpdfjojeblmaa", sum := "1f6c70aa8410215d6f1c3f5bd15656f8bee7081cc202cd4e57dee74ddc0f74e6", func := "bradawl/bradawllaw17.VmtfFinds", spec := "vmtfFinds", unfollowed := true, recurses := true, apart := false, narrowed := true }
def VmtfFindsUptoSaid : Prop := vmtfFindsUptoRow.holds Try.pinned (OpenSpec.upto vmtfFindsSpec)

end Rows
end Go.Proofs.Ytcmpdfjojeblmaa
