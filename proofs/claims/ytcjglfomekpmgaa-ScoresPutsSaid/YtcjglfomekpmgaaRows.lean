/-
  No cell of these rows narrows 'for every input' (looked for: loops, veiled, ifaces, maps, wideKeys, modest, calm, conditions, laid).
  DERIVED. THE GIVEN ROWS OF THIS SEAT. 5 by the template 'for every input the law returns true; each argument reads behind the call as it read before'; 0 by the template 'total and deterministic' (their statements: YtcjglfomekpmgaaTotals.lean).
  GIVEN WITH THE SEED: the statements are not yours to turn. If you find one false, say at which input.
  Laid BY PROGRAM, IN A SANDBOX (cutbox-rows.mjs): the forced cells as the released guide's own fill.sh prints them over the translation 6d4a2bbd3a577764… (all of the seat's roots in one cut). By AI agents, Wed Nov 11 2026. No macro, syntax, notation, axiom, sorry.
-/
import Derived.Test.YtcjglfomekpmgaaChecked
import GoSem.Claim
import GoSem.ClaimJoined
import GoSem.ClaimMapViews
import Derived.JoinedTies
import Derived.KernelRfl
namespace Go.Proofs.Ytcjglfomekpmgaa
/- THE CELL 'sum', in the pinned program and in every row, IS THE sha256 OF THE DUMP (.gsa) THAT YtcjglfomekpmgaaProg.lean LOADS. Nothing in Lean hashes anything: it is a label: what it is worth is what the hold of that sum in a sandbox is worth. -/
noncomputable def Try.pinned : Pinned := { name := "ytcjglfomekpmgaa", sum := "6d4a2bbd3a577764549cf571a04321df8453bc3f48725977cdb887d12b8d0d4e", checked := Try.checked }
namespace Rows
def none {H : Type} : Left H := { results := [], args := [] }

/-- 'bradawllaw16.ScoresOrder': WHATEVER THE INPUT: true; the input reads as it did. -/
def scoresOrderSpec : ChangeSpec := { name := "scoresOrder", fn := fun _ => fun
  | [d1, d2] => { results := [.lit (.bool true)], args := [d1, d2] }
  | _ => none }
def scoresOrderRow : OpenClaim := { program := "ytcjglfomekpmgaa", sum := "6d4a2bbd3a577764549cf571a04321df8453bc3f48725977cdb887d12b8d0d4e", func := "bradawl/bradawllaw16.ScoresOrder", spec := "scoresOrder", apart := false }
def ScoresOrderSaid : Prop := scoresOrderRow.holds Try.pinned (OpenSpec.ofChange scoresOrderSpec)

/-- ITS FALSE NEIGHBOUR: 'it returns false'. Refute it at one input. -/
def scoresOrderWrong : ChangeSpec := { name := "scoresOrder", fn := fun _ => fun
  | [d1, d2] => { results := [.lit (.bool false)], args := [d1, d2] }
  | _ => none }
def ScoresOrderWrongFalsely : Prop := scoresOrderRow.holds Try.pinned (OpenSpec.ofChange scoresOrderWrong)

/-- 'bradawllaw16.ScoresPuts': WHATEVER THE INPUT: true; the input reads as it did. -/
def scoresPutsSpec : ChangeSpec := { name := "scoresPuts", fn := fun _ => fun
  | [d1, d2, d3] => { results := [.lit (.bool true)], args := [d1, d2, d3] }
  | _ => none }
def scoresPutsRow : OpenClaim := { program := "ytcjglfomekpmgaa", sum := "6d4a2bbd3a577764549cf571a04321df8453bc3f48725977cdb887d12b8d0d4e", func := "bradawl/bradawllaw16.ScoresPuts", spec := "scoresPuts", apart := false }
def ScoresPutsSaid : Prop := scoresPutsRow.holds Try.pinned (OpenSpec.ofChange scoresPutsSpec)

/-- ITS FALSE NEIGHBOUR: 'it returns false'. Refute it at one input. -/
def scoresPutsWrong : ChangeSpec := { name := "scoresPuts", fn := fun _ => fun
  | [d1, d2, d3] => { results := [.lit (.bool false)], args := [d1, d2, d3] }
  | _ => none }
def ScoresPutsWrongFalsely : Prop := scoresPutsRow.holds Try.pinned (OpenSpec.ofChange scoresPutsWrong)

/-- 'bradawllaw16.ScoresRun': WHATEVER THE INPUT: true; the input reads as it did. -/
def scoresRunSpec : ChangeSpec := { name := "scoresRun", fn := fun _ => fun
  | [d1, d2] => { results := [.lit (.bool true)], args := [d1, d2] }
  | _ => none }
def scoresRunRow : OpenClaim := { program := "ytcjglfomekpmgaa", sum := "6d4a2bbd3a577764549cf571a04321df8453bc3f48725977cdb887d12b8d0d4e", func := "bradawl/bradawllaw16.ScoresRun", spec := "scoresRun", apart := false }
def ScoresRunSaid : Prop := scoresRunRow.holds Try.pinned (OpenSpec.ofChange scoresRunSpec)

/-- ITS FALSE NEIGHBOUR: 'it returns false'. Refute it at one input. -/
def scoresRunWrong : ChangeSpec := { name := "scoresRun", fn := fun _ => fun
  | [d1, d2] => { results := [.lit (.bool false)], args := [d1, d2] }
  | _ => none }
def ScoresRunWrongFalsely : Prop := scoresRunRow.holds Try.pinned (OpenSpec.ofChange scoresRunWrong)

/-- 'bradawllaw16.ScoresBounds': WHATEVER THE INPUT: true; the input reads as it did. -/
def scoresBoundsSpec : ChangeSpec := { name := "scoresBounds", fn := fun _ => fun
  | [d1, d2] => { results := [.lit (.bool true)], args := [d1, d2] }
  | _ => none }
def scoresBoundsRow : OpenClaim := { program := "ytcjglfomekpmgaa", sum := "6d4a2bbd3a577764549cf571a04321df8453bc3f48725977cdb887d12b8d0d4e", func := "bradawl/bradawllaw16.ScoresBounds", spec := "scoresBounds", apart := false }
def ScoresBoundsSaid : Prop := scoresBoundsRow.holds Try.pinned (OpenSpec.ofChange scoresBoundsSpec)

/-- ITS FALSE NEIGHBOUR: 'it returns false'. Refute it at one input. -/
def scoresBoundsWrong : ChangeSpec := { name := "scoresBounds", fn := fun _ => fun
  | [d1, d2] => { results := [.lit (.bool false)], args := [d1, d2] }
  | _ => none }
def ScoresBoundsWrongFalsely : Prop := scoresBoundsRow.holds Try.pinned (OpenSpec.ofChange scoresBoundsWrong)

/-- 'bradawllaw16.ScoresDecay': WHATEVER THE INPUT: true; the input reads as it did. -/
def scoresDecaySpec : ChangeSpec := { name := "scoresDecay", fn := fun _ => fun
  | [d1, d2] => { results := [.lit (.bool true)], args := [d1, d2] }
  | _ => none }
def scoresDecayRow : OpenClaim := { program := "ytcjglfomekpmgaa", sum := "6d4a2bbd3a577764549cf571a04321df8453bc3f48725977cdb887d12b8d0d4e", func := "bradawl/bradawllaw16.ScoresDecay", spec := "scoresDecay", apart := false }
def ScoresDecaySaid : Prop := scoresDecayRow.holds Try.pinned (OpenSpec.ofChange scoresDecaySpec)

/-- ITS FALSE NEIGHBOUR: 'it returns false'. Refute it at one input. -/
def scoresDecayWrong : ChangeSpec := { name := "scoresDecay", fn := fun _ => fun
  | [d1, d2] => { results := [.lit (.bool false)], args := [d1, d2] }
  | _ => none }
def ScoresDecayWrongFalsely : Prop := scoresDecayRow.holds Try.pinned (OpenSpec.ofChange scoresDecayWrong)

/- THE SECOND FORM. 'bulk': how many values and letters a reading holds, each counted each time it is reached (what is shared counts as often as it is met; a slice's spare places count too). A statement '..UptoSaid' is the law's where the arguments, and the package variables that the reading takes, are together of bulk at most 1048576: NARROWER than '..Said'. Prove '..Said' where nothing that the law and all that it calls make is longer than what came in: it says more and counts as full. Else prove '..UptoSaid'. A law counts once. -/
mutual
def uptoBulk {H : Type} : DataW H → Nat
  | .lit (.string bytes) => bytes.length + 1
  | .lit _ => 1
  | .nil => 1
  | .ptr d => uptoBulk d + 1
  | .slice elems spare => uptoBulkAll elems + uptoBulkAll spare + 1
  | .agg parts => uptoBulkAll parts + 1
  | .iface _ d => uptoBulk d + 1
  | .map entries => uptoBulkEntries entries + 1
  | .held _ => 1
def uptoBulkAll {H : Type} : List (DataW H) → Nat
  | [] => 0
  | d :: r => uptoBulk d + uptoBulkAll r
def uptoBulkEntries {H : Type} : List (Lit × DataW H) → Nat
  | [] => 0
  | x :: r => uptoBulkEntry x + uptoBulkEntries r
def uptoBulkEntry {H : Type} : Lit × DataW H → Nat
  | (.string bytes, d) => bytes.length + uptoBulk d + 1
  | (_, d) => uptoBulk d + 1
 end
def uptoSmall : (H : Type) → List (DataW H) → Bool := fun _ ds => decide (uptoBulkAll ds ≤ 1048576)
def OpenSpec.upto (s : _root_.Go.ChangeSpec) : _root_.Go.OpenSpec := { _root_.Go.OpenSpec.ofChange s with cond := some uptoSmall }

/-- 'bradawllaw16.ScoresOrder', WHERE WHAT IT READS IS OF BULK AT MOST 1048576: true; the input reads as it did. -/
def scoresOrderUptoRow : OpenClaim := { program := "ytcjglfomekpmgaa", sum := "6d4a2bbd3a577764549cf571a04321df8453bc3f48725977cdb887d12b8d0d4e", func := "bradawl/bradawllaw16.ScoresOrder", spec := "scoresOrder", apart := false, narrowed := true }
def ScoresOrderUptoSaid : Prop := scoresOrderUptoRow.holds Try.pinned (OpenSpec.upto scoresOrderSpec)

/-- 'bradawllaw16.ScoresPuts', WHERE WHAT IT READS IS OF BULK AT MOST 1048576: true; the input reads as it did. -/
def scoresPutsUptoRow : OpenClaim := { program := "ytcjglfomekpmgaa", sum := "6d4a2bbd3a577764549cf571a04321df8453bc3f48725977cdb887d12b8d0d4e", func := "bradawl/bradawllaw16.ScoresPuts", spec := "scoresPuts", apart := false, narrowed := true }
def ScoresPutsUptoSaid : Prop := scoresPutsUptoRow.holds Try.pinned (OpenSpec.upto scoresPutsSpec)

/-- 'bradawllaw16.ScoresRun', WHERE WHAT IT READS IS OF BULK AT MOST 1048576: true; the input reads as it did. -/
def scoresRunUptoRow : OpenClaim := { program := "ytcjglfomekpmgaa", sum := "6d4a2bbd3a577764549cf571a04321df8453bc3f48725977cdb887d12b8d0d4e", func := "bradawl/bradawllaw16.ScoresRun", spec := "scoresRun", apart := false, narrowed := true }
def ScoresRunUptoSaid : Prop := scoresRunUptoRow.holds Try.pinned (OpenSpec.upto scoresRunSpec)

/-- 'bradawllaw16.ScoresBounds', WHERE WHAT IT READS IS OF BULK AT MOST 1048576: true; the input reads as it did. -/
def scoresBoundsUptoRow : OpenClaim := { program := "ytcjglfomekpmgaa", sum := "6d4a2bbd3a577764549cf571a04321df8453bc3f48725977cdb887d12b8d0d4e", func := "bradawl/bradawllaw16.ScoresBounds", spec := "scoresBounds", apart := false, narrowed := true }
def ScoresBoundsUptoSaid : Prop := scoresBoundsUptoRow.holds Try.pinned (OpenSpec.upto scoresBoundsSpec)

/-- 'bradawllaw16.ScoresDecay', WHERE WHAT IT READS IS OF BULK AT MOST 1048576: true; the input reads as it did. -/
def scoresDecayUptoRow : OpenClaim := { program := "ytcjglfomekpmgaa", sum := "6d4a2bbd3a577764549cf571a04321df8453bc3f48725977cdb887d12b8d0d4e", func := "bradawl/bradawllaw16.ScoresDecay", spec := "scoresDecay", apart := false, narrowed := true }
def ScoresDecayUptoSaid : Prop := scoresDecayUptoRow.holds Try.pinned (OpenSpec.upto scoresDecaySpec)

end Rows
end Go.Proofs.Ytcjglfomekpmgaa
