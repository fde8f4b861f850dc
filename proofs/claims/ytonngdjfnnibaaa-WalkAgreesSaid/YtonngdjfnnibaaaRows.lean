/-
  No cell of these rows narrows 'for every input' (looked for: loops, veiled, ifaces, maps, wideKeys, modest, calm, conditions, laid).
  DERIVED. THE GIVEN ROWS OF THIS SEAT. 6 by the template 'for every input the law returns true; each argument reads behind the call as it read before'; 0 by the template 'total and deterministic' (their statements: YtonngdjfnnibaaaTotals.lean).
  GIVEN WITH THE SEED: the statements are not yours to turn. If you find one false, say at which input.
  Laid BY PROGRAM, IN A SANDBOX (cutbox-rows.mjs): the forced cells as the released guide's own fill.sh prints them over the translation 02531abacd128e88… (all of the seat's roots in one cut). By AI agents, Wed Nov 11 2026. No macro, syntax, notation, axiom, sorry.
-/
import Derived.Test.YtonngdjfnnibaaaChecked
import GoSem.Claim
import GoSem.ClaimJoined
import GoSem.ClaimMapViews
import Derived.JoinedTies
import Derived.KernelRfl
namespace Go.Proofs.Ytonngdjfnnibaaa
/- THE CELL 'sum', in the pinned program and in every row, IS THE sha256 OF THE DUMP (.gsa) THAT YtonngdjfnnibaaaProg.lean LOADS. Nothing in Lean hashes anything: it is a label: what it is worth is what the hold of that sum in a sandbox is worth. -/
noncomputable def Try.pinned : Pinned := { name := "ytonngdjfnnibaaa", sum := "02531abacd128e88076bb8366fe272c26c4ff2909e213680e16d31a3ba5b447c", checked := Try.checked }
namespace Rows
def none {H : Type} : Left H := { results := [], args := [] }

/-- 'bradawllaw15.WalkRights': WHATEVER THE INPUT: true; the input reads as it did. -/
def walkRightsSpec : ChangeSpec := { name := "walkRights", fn := fun _ => fun
  | [d1, d2] => { results := [.lit (.bool true)], args := [d1, d2] }
  | _ => none }
def walkRightsRow : OpenClaim := { program := "ytonngdjfnnibaaa", sum := "02531abacd128e88076bb8366fe272c26c4ff2909e213680e16d31a3ba5b447c", func := "bradawl/bradawllaw15.WalkRights", spec := "walkRights", unfollowed := true, recurses := true, apart := false }
def WalkRightsSaid : Prop := walkRightsRow.holds Try.pinned (OpenSpec.ofChange walkRightsSpec)

/-- ITS FALSE NEIGHBOUR: 'it returns false'. Refute it at one input. -/
def walkRightsWrong : ChangeSpec := { name := "walkRights", fn := fun _ => fun
  | [d1, d2] => { results := [.lit (.bool false)], args := [d1, d2] }
  | _ => none }
def WalkRightsWrongFalsely : Prop := walkRightsRow.holds Try.pinned (OpenSpec.ofChange walkRightsWrong)

/-- 'bradawllaw15.WalkBest': WHATEVER THE INPUT: true; the input reads as it did. -/
def walkBestSpec : ChangeSpec := { name := "walkBest", fn := fun _ => fun
  | [d1, d2, d3] => { results := [.lit (.bool true)], args := [d1, d2, d3] }
  | _ => none }
def walkBestRow : OpenClaim := { program := "ytonngdjfnnibaaa", sum := "02531abacd128e88076bb8366fe272c26c4ff2909e213680e16d31a3ba5b447c", func := "bradawl/bradawllaw15.WalkBest", spec := "walkBest", unfollowed := true, recurses := true, apart := false }
def WalkBestSaid : Prop := walkBestRow.holds Try.pinned (OpenSpec.ofChange walkBestSpec)

/-- ITS FALSE NEIGHBOUR: 'it returns false'. Refute it at one input. -/
def walkBestWrong : ChangeSpec := { name := "walkBest", fn := fun _ => fun
  | [d1, d2, d3] => { results := [.lit (.bool false)], args := [d1, d2, d3] }
  | _ => none }
def WalkBestWrongFalsely : Prop := walkBestRow.holds Try.pinned (OpenSpec.ofChange walkBestWrong)

/-- 'bradawllaw15.WalkSteps': WHATEVER THE INPUT: true; the input reads as it did. -/
def walkStepsSpec : ChangeSpec := { name := "walkSteps", fn := fun _ => fun
  | [d1, d2, d3] => { results := [.lit (.bool true)], args := [d1, d2, d3] }
  | _ => none }
def walkStepsRow : OpenClaim := { program := "ytonngdjfnnibaaa", sum := "02531abacd128e88076bb8366fe272c26c4ff2909e213680e16d31a3ba5b447c", func := "bradawl/bradawllaw15.WalkSteps", spec := "walkSteps", unfollowed := true, recurses := true, apart := false }
def WalkStepsSaid : Prop := walkStepsRow.holds Try.pinned (OpenSpec.ofChange walkStepsSpec)

/-- ITS FALSE NEIGHBOUR: 'it returns false'. Refute it at one input. -/
def walkStepsWrong : ChangeSpec := { name := "walkSteps", fn := fun _ => fun
  | [d1, d2, d3] => { results := [.lit (.bool false)], args := [d1, d2, d3] }
  | _ => none }
def WalkStepsWrongFalsely : Prop := walkStepsRow.holds Try.pinned (OpenSpec.ofChange walkStepsWrong)

/-- 'bradawllaw15.WalkAgrees': WHATEVER THE INPUT: true; the input reads as it did. -/
def walkAgreesSpec : ChangeSpec := { name := "walkAgrees", fn := fun _ => fun
  | [d1, d2, d3] => { results := [.lit (.bool true)], args := [d1, d2, d3] }
  | _ => none }
def walkAgreesRow : OpenClaim := { program := "ytonngdjfnnibaaa", sum := "02531abacd128e88076bb8366fe272c26c4ff2909e213680e16d31a3ba5b447c", func := "bradawl/bradawllaw15.WalkAgrees", spec := "walkAgrees", unfollowed := true, recurses := true, apart := false }
def WalkAgreesSaid : Prop := walkAgreesRow.holds Try.pinned (OpenSpec.ofChange walkAgreesSpec)

/-- ITS FALSE NEIGHBOUR: 'it returns false'. Refute it at one input. -/
def walkAgreesWrong : ChangeSpec := { name := "walkAgrees", fn := fun _ => fun
  | [d1, d2, d3] => { results := [.lit (.bool false)], args := [d1, d2, d3] }
  | _ => none }
def WalkAgreesWrongFalsely : Prop := walkAgreesRow.holds Try.pinned (OpenSpec.ofChange walkAgreesWrong)

/-- 'bradawllaw15.WalkNoises': WHATEVER THE INPUT: true; the input reads as it did. -/
def walkNoisesSpec : ChangeSpec := { name := "walkNoises", fn := fun _ => fun
  | [d1, d2, d3] => { results := [.lit (.bool true)], args := [d1, d2, d3] }
  | _ => none }
def walkNoisesRow : OpenClaim := { program := "ytonngdjfnnibaaa", sum := "02531abacd128e88076bb8366fe272c26c4ff2909e213680e16d31a3ba5b447c", func := "bradawl/bradawllaw15.WalkNoises", spec := "walkNoises", unfollowed := true, recurses := true, apart := false }
def WalkNoisesSaid : Prop := walkNoisesRow.holds Try.pinned (OpenSpec.ofChange walkNoisesSpec)

/-- ITS FALSE NEIGHBOUR: 'it returns false'. Refute it at one input. -/
def walkNoisesWrong : ChangeSpec := { name := "walkNoises", fn := fun _ => fun
  | [d1, d2, d3] => { results := [.lit (.bool false)], args := [d1, d2, d3] }
  | _ => none }
def WalkNoisesWrongFalsely : Prop := walkNoisesRow.holds Try.pinned (OpenSpec.ofChange walkNoisesWrong)

/-- 'bradawllaw15.WalkRests': WHATEVER THE INPUT: true; the input reads as it did. -/
def walkRestsSpec : ChangeSpec := { name := "walkRests", fn := fun _ => fun
  | [d1, d2, d3] => { results := [.lit (.bool true)], args := [d1, d2, d3] }
  | _ => none }
def walkRestsRow : OpenClaim := { program := "ytonngdjfnnibaaa", sum := "02531abacd128e88076bb8366fe272c26c4ff2909e213680e16d31a3ba5b447c", func := "bradawl/bradawllaw15.WalkRests", spec := "walkRests", unfollowed := true, recurses := true, apart := false }
def WalkRestsSaid : Prop := walkRestsRow.holds Try.pinned (OpenSpec.ofChange walkRestsSpec)

/-- ITS FALSE NEIGHBOUR: 'it returns false'. Refute it at one input. -/
def walkRestsWrong : ChangeSpec := { name := "walkRests", fn := fun _ => fun
  | [d1, d2, d3] => { results := [.lit (.bool false)], args := [d1, d2, d3] }
  | _ => none }
def WalkRestsWrongFalsely : Prop := walkRestsRow.holds Try.pinned (OpenSpec.ofChange walkRestsWrong)

/- THE SECOND FORM. 'bulk': how many values and letters a reading holds, each counted each time it is reached (what is shared counts as often as it is met; a slice's spare places count too). A statement '..UptoSaid' is the law's where the arguments, and the package variables that the reading takes, are together of bulk at most 1048576: NARROWER than '..Said'. Prove '..Said' where nothing that the law and all that it calls make is longer than what came in: it says more and counts as full. Else prove '..UptoSaid'. A law counts once. -/
mutual
def uptoBulk {H : Type} : DataW H → Nat
  | .lit (.string bytes) => bytes.length + 1
  | .lit _ => 1
  | .nil => 1
  | .ptr d => uptoBulk d + 1
  | .slice elems spare => uptoBulkAll elems + uptoBulkAll spare + 1
  | .agg parts => uptoBulkAll parts + 1
  | .iface _ d => uptoBulk d + 1
  | .map entries => uptoBulkEntries entries + 1
  | .held _ => 1
def uptoBulkAll {H : Type} : List (DataW H) → Nat
  | [] => 0
  | d :: r => uptoBulk d + uptoBulkAll r
def uptoBulkEntries {H : Type} : List (Lit × DataW H) → Nat
  | [] => 0
  | x :: r => uptoBulkEntry x + uptoBulkEntries r
def uptoBulkEntry {H : Type} : Lit × DataW H → Nat
  | (.string bytes, d) => bytes.length + uptoBulk d + 1
  | (_, d) => uptoBulk d + 1
 end
def uptoSmall : (H : Type) → List (DataW H) → Bool := fun _ ds => decide (uptoBulkAll ds ≤ 1048576)
def OpenSpec.upto (s : _root_.Go.ChangeSpec) : _root_.Go.OpenSpec := { _root_.Go.OpenSpec.ofChange s with cond := some uptoSmall }

/-- 'bradawllaw15.WalkRights', WHERE WHAT IT READS IS OF BULK AT MOST 1048576: true; the input reads as it did. -/
def walkRightsUptoRow : OpenClaim := { program := "ytonngdjfnnibaaa", sum := "02531abacd128e88076bb8366fe272c26c4ff2909e213680e16d31a3ba5b447c", func := "bradawl/bradawllaw15.WalkRights", spec := "walkRights", unfollowed := true, recurses := true, apart := false, narrowed := true }
def WalkRightsUptoSaid : Prop := walkRightsUptoRow.holds Try.pinned (OpenSpec.upto walkRightsSpec)

/-- 'bradawllaw15.WalkBest', WHERE WHAT IT READS IS OF BULK AT MOST 1048576: true; the input reads as it did. -/
def walkBestUptoRow : OpenClaim := { program := "ytonngdjfnnibaaa", sum := "02531abacd128e88076bb8366fe272c26c4ff2909e213680e16d31a3ba5b447c", func := "bradawl/bradawllaw15.WalkBest", spec := "walkBest", unfollowed := true, recurses := true, apart := false, narrowed := true }
def WalkBestUptoSaid : Prop := walkBestUptoRow.holds Try.pinned (OpenSpec.upto walkBestSpec)

/-- 'bradawllaw15.WalkSteps', WHERE WHAT IT READS IS OF BULK AT MOST 1048576: true; the input reads as it did. -/
def walkStepsUptoRow : OpenClaim := { program := "ytonngdjfnnibaaa", sum := "02531abacd128e88076bb8366fe272c26c4ff2909e213680e16d31a3ba5b447c", func := "bradawl/bradawllaw15.WalkSteps", spec := "walkSteps", unfollowed := true, recurses := true, apart := false, narrowed := true }
def WalkStepsUptoSaid : Prop := walkStepsUptoRow.holds Try.pinned (OpenSpec.upto walkStepsSpec)

/-- 'bradawllaw15.WalkAgrees', WHERE WHAT IT READS IS OF BULK AT MOST 1048576: true; the input reads as it did. -/
def walkAgreesUptoRow : OpenClaim := { program := "ytonngdjfnnibaaa", sum := "02531abacd128e88076bb8366fe272c26c4ff2909e213680e16d31a3ba5b447c", func := "bradawl/bradawllaw15.WalkAgrees", spec := "walkAgrees", unfollowed := true, recurses := true, apart := false, narrowed := true }
def WalkAgreesUptoSaid : Prop := walkAgreesUptoRow.holds Try.pinned (OpenSpec.upto walkAgreesSpec)

/-- 'bradawllaw15.WalkNoises', WHERE WHAT IT READS IS OF BULK AT MOST 1048576: true; the input reads as it did. -/
def walkNoisesUptoRow : OpenClaim := { program := "ytonngdjfnnibaaa", sum := "02531abacd128e88076bb8366fe272c26c4ff2909e213680e16d31a3ba5b447c", func := "bradawl/bradawllaw15.WalkNoises", spec := "walkNoises", unfollowed := true, recurses := true, apart := false, narrowed := true }
def WalkNoisesUptoSaid : Prop := walkNoisesUptoRow.holds Try.pinned (OpenSpec.upto walkNoisesSpec)

/-- 'bradawllaw15.WalkRests', WHERE WHAT IT READS IS OF BULK AT MOST 1048576: true; the input reads as it did. -/
def walkRestsUptoRow : OpenClaim := { program := "ytonngdjfnnibaaa", sum := "02531abacd128e88076bb8366fe272c26c4ff2909e213680e16d31a3ba5b447c", func := "bradawl/bradawllaw15.WalkRests", spec := "walkRests", unfollowed := true, recurses := true, apart := false, narrowed := true }
def WalkRestsUptoSaid : Prop := walkRestsUptoRow.holds Try.pinned (OpenSpec.upto walkRestsSpec)

end Rows
end Go.Proofs.Ytonngdjfnnibaaa
