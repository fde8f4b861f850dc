/-
  No cell of these rows narrows 'for every input' (looked for: loops, veiled, ifaces, maps, wideKeys, modest, calm, conditions, laid).
  DERIVED. THE GIVEN ROWS OF THIS SEAT. 5 by the template 'for every input the law returns true; each argument reads behind the call as it read before'; 0 by the template 'total and deterministic' (their statements: YtjedohcphkdekaaTotals.lean).
  GIVEN WITH THE SEED: the statements are not yours to turn. If you find one false, say at which input.
  Laid BY PROGRAM, IN A SANDBOX (cutbox-rows.mjs): the forced cells as the released guide's own fill.sh prints them over the translation e5abd48d4b7c2244… (all of the seat's roots in one cut). By AI agents, Wed Nov 11 2026. No macro, syntax, notation, axiom, sorry.
-/
import Derived.Test.YtjedohcphkdekaaChecked
import GoSem.Claim
import GoSem.ClaimJoined
import GoSem.ClaimMapViews
import Derived.JoinedTies
import Derived.KernelRfl
namespace Go.Proofs.Ytjedohcphkdekaa
/- THE CELL 'sum', in the pinned program and in every row, IS THE sha256 OF THE DUMP (.gsa) THAT YtjedohcphkdekaaProg.lean LOADS. Nothing in Lean hashes anything: it is a label: what it is worth is what the hold of that sum in a sandbox is worth. -/
noncomputable def Try.pinned : Pinned := { name := "ytjedohcphkdekaa", sum := "e5abd48d4b7c2244b4859edba37681f8752afab35961c9efe08d7b538276e4c6", checked := Try.checked }
namespace Rows
def none {H : Type} : Left H := { results := [], args := [] }

/-- 'bradawllaw04.NormClauses': WHATEVER THE INPUT: true; the input reads as it did. -/
def normClausesSpec : ChangeSpec := { name := "normClauses", fn := fun _ => fun
  | [d1, d2] => { results := [.lit (.bool true)], args := [d1, d2] }
  | _ => none }
def normClausesRow : OpenClaim := { program := "ytjedohcphkdekaa", sum := "e5abd48d4b7c2244b4859edba37681f8752afab35961c9efe08d7b538276e4c6", func := "bradawl/bradawllaw04.NormClauses", spec := "normClauses", unfollowed := true, recurses := true, apart := false }
def NormClausesSaid : Prop := normClausesRow.holds Try.pinned (OpenSpec.ofChange normClausesSpec)

/-- ITS FALSE NEIGHBOUR: 'it returns false'. Refute it at one input. -/
def normClausesWrong : ChangeSpec := { name := "normClauses", fn := fun _ => fun
  | [d1, d2] => { results := [.lit (.bool false)], args := [d1, d2] }
  | _ => none }
def NormClausesWrongFalsely : Prop := normClausesRow.holds Try.pinned (OpenSpec.ofChange normClausesWrong)

/-- 'bradawllaw04.NormTwice': WHATEVER THE INPUT: true; the input reads as it did. -/
def normTwiceSpec : ChangeSpec := { name := "normTwice", fn := fun _ => fun
  | [d1, d2] => { results := [.lit (.bool true)], args := [d1, d2] }
  | _ => none }
def normTwiceRow : OpenClaim := { program := "ytjedohcphkdekaa", sum := "e5abd48d4b7c2244b4859edba37681f8752afab35961c9efe08d7b538276e4c6", func := "bradawl/bradawllaw04.NormTwice", spec := "normTwice", unfollowed := true, recurses := true, apart := false }
def NormTwiceSaid : Prop := normTwiceRow.holds Try.pinned (OpenSpec.ofChange normTwiceSpec)

/-- ITS FALSE NEIGHBOUR: 'it returns false'. Refute it at one input. -/
def normTwiceWrong : ChangeSpec := { name := "normTwice", fn := fun _ => fun
  | [d1, d2] => { results := [.lit (.bool false)], args := [d1, d2] }
  | _ => none }
def NormTwiceWrongFalsely : Prop := normTwiceRow.holds Try.pinned (OpenSpec.ofChange normTwiceWrong)

/-- 'bradawllaw04.NormFormulas': WHATEVER THE INPUT: true; the input reads as it did. -/
def normFormulasSpec : ChangeSpec := { name := "normFormulas", fn := fun _ => fun
  | [d1, d2] => { results := [.lit (.bool true)], args := [d1, d2] }
  | _ => none }
def normFormulasRow : OpenClaim := { program := "ytjedohcphkdekaa", sum := "e5abd48d4b7c2244b4859edba37681f8752afab35961c9efe08d7b538276e4c6", func := "bradawl/bradawllaw04.NormFormulas", spec := "normFormulas", unfollowed := true, recurses := true, apart := false }
def NormFormulasSaid : Prop := normFormulasRow.holds Try.pinned (OpenSpec.ofChange normFormulasSpec)

/-- ITS FALSE NEIGHBOUR: 'it returns false'. Refute it at one input. -/
def normFormulasWrong : ChangeSpec := { name := "normFormulas", fn := fun _ => fun
  | [d1, d2] => { results := [.lit (.bool false)], args := [d1, d2] }
  | _ => none }
def NormFormulasWrongFalsely : Prop := normFormulasRow.holds Try.pinned (OpenSpec.ofChange normFormulasWrong)

/-- 'bradawllaw04.NormResolves': WHATEVER THE INPUT: true; the input reads as it did. -/
def normResolvesSpec : ChangeSpec := { name := "normResolves", fn := fun _ => fun
  | [d1, d2, d3] => { results := [.lit (.bool true)], args := [d1, d2, d3] }
  | _ => none }
def normResolvesRow : OpenClaim := { program := "ytjedohcphkdekaa", sum := "e5abd48d4b7c2244b4859edba37681f8752afab35961c9efe08d7b538276e4c6", func := "bradawl/bradawllaw04.NormResolves", spec := "normResolves", unfollowed := true, recurses := true, apart := false }
def NormResolvesSaid : Prop := normResolvesRow.holds Try.pinned (OpenSpec.ofChange normResolvesSpec)

/-- ITS FALSE NEIGHBOUR: 'it returns false'. Refute it at one input. -/
def normResolvesWrong : ChangeSpec := { name := "normResolves", fn := fun _ => fun
  | [d1, d2, d3] => { results := [.lit (.bool false)], args := [d1, d2, d3] }
  | _ => none }
def NormResolvesWrongFalsely : Prop := normResolvesRow.holds Try.pinned (OpenSpec.ofChange normResolvesWrong)

/-- 'bradawllaw04.NormOwn': WHATEVER THE INPUT: true; the input reads as it did. -/
def normOwnSpec : ChangeSpec := { name := "normOwn", fn := fun _ => fun
  | [d1, d2] => { results := [.lit (.bool true)], args := [d1, d2] }
  | _ => none }
def normOwnRow : OpenClaim := { program := "ytjedohcphkdekaa", sum := "e5abd48d4b7c2244b4859edba37681f8752afab35961c9efe08d7b538276e4c6", func := "bradawl/bradawllaw04.NormOwn", spec := "normOwn", unfollowed := true, recurses := true, apart := false }
def NormOwnSaid : Prop := normOwnRow.holds Try.pinned (OpenSpec.ofChange normOwnSpec)

/-- ITS FALSE NEIGHBOUR: 'it returns false'. Refute it at one input. -/
def normOwnWrong : ChangeSpec := { name := "normOwn", fn := fun _ => fun
  | [d1, d2] => { results := [.lit (.bool false)], args := [d1, d2] }
  | _ => none }
def NormOwnWrongFalsely : Prop := normOwnRow.holds Try.pinned (OpenSpec.ofChange normOwnWrong)

/- THE SECOND FORM. 'bulk': how many values and letters a reading holds, each counted each time it is reached (what is shared counts as often as it is met; a slice's spare places count too). A statement '..UptoSaid' is the law's where the arguments, and the package variables that the reading takes, are together of bulk at most 1048576: NARROWER than '..Said'. Prove '..Said' where nothing that the law and all that it calls make is longer than what came in: it says more and counts as full. Else prove '..UptoSaid'. A law counts once. -/
mutual
def uptoBulk {H : Type} : DataW H → Nat
  | .lit (.string bytes) => bytes.length + 1
  | .lit _ => 1
  | .nil => 1
  | .ptr d => uptoBulk d + 1
  | .slice elems spare => uptoBulkAll elems + uptoBulkAll spare + 1
  | .agg parts => uptoBulkAll parts + 1
  | .iface _ d => uptoBulk d + 1
  | .map entries => uptoBulkEntries entries + 1
  | .held _ => 1
def uptoBulkAll {H : Type} : List (DataW H) → Nat
  | [] => 0
  | d :: r => uptoBulk d + uptoBulkAll r
def uptoBulkEntries {H : Type} : List (Lit × DataW H) → Nat
  | [] => 0
  | x :: r => uptoBulkEntry x + uptoBulkEntries r
def uptoBulkEntry {H : Type} : Lit × DataW H → Nat
  | (.string bytes, d) => bytes.length + uptoBulk d + 1
  | (_, d) => uptoBulk d + 1
 end
def uptoSmall : (H : Type) → List (DataW H) → Bool := fun _ ds => decide (uptoBulkAll ds ≤ 1048576)
def OpenSpec.upto (s : _root_.Go.ChangeSpec) : _root_.Go.OpenSpec := { _root_.Go.OpenSpec.ofChange s with cond := some uptoSmall }

/-- 'bradawllaw04.NormClauses', WHERE WHAT IT READS IS OF BULK AT MOST 1048576: true; the input reads as it did. -/
def normClausesUptoRow : OpenClaim := { program := "ytjedohcphkdekaa", sum := "e5abd48d4b7c2244b4859edba37681f8752afab35961c9efe08d7b538276e4c6", func := "bradawl/bradawllaw04.NormClauses", spec := "normClauses", unfollowed := true, recurses := true, apart := false, narrowed := true }
def NormClausesUptoSaid : Prop := normClausesUptoRow.holds Try.pinned (OpenSpec.upto normClausesSpec)

/-- 'bradawllaw04.NormTwice', WHERE WHAT IT READS IS OF BULK AT MOST 1048576: true; the input reads as it did. -/
def normTwiceUptoRow : OpenClaim := { program := "ytjedohcphkdekaa", sum := "e5abd48d4b7c2244b4859edba37681f8752afab35961c9efe08d7b538276e4c6", func := "bradawl/bradawllaw04.NormTwice", spec := "normTwice", unfollowed := true, recurses := true, apart := false, narrowed := true }
def NormTwiceUptoSaid : Prop := normTwiceUptoRow.holds Try.pinned (OpenSpec.upto normTwiceSpec)

/-- 'bradawllaw04.NormFormulas', WHERE WHAT IT READS IS OF BULK AT MOST 1048576: true; the input reads as it did. -/
def normFormulasUptoRow : OpenClaim := { program := "ytjedohcphkdekaa", sum := "e5abd48d4b7c2244b4859edba37681f8752afab35961c9efe08d7b538276e4c6", func := "bradawl/bradawllaw04.NormFormulas", spec := "normFormulas", unfollowed := true, recurses := true, apart := false, narrowed := true }
def NormFormulasUptoSaid : Prop := normFormulasUptoRow.holds Try.pinned (OpenSpec.upto normFormulasSpec)

/-- 'bradawllaw04.NormResolves', WHERE WHAT IT READS IS OF BULK AT MOST 1048576: true; the input reads as it did. -/
def normResolvesUptoRow : OpenClaim := { program := "ytjedohcphkdekaa", sum := "e5abd48d4b7c2244b4859edba37681f8752afab35961c9efe08d7b538276e4c6", func := "bradawl/bradawllaw04.NormResolves", spec := "normResolves", unfollowed := true, recurses := true, apart := false, narrowed := true }
def NormResolvesUptoSaid : Prop := normResolvesUptoRow.holds Try.pinned (OpenSpec.upto normResolvesSpec)

/-- 'bradawllaw04.NormOwn', WHERE WHAT IT READS IS OF BULK AT MOST 1048576: true; the input reads as it did. -/
def normOwnUptoRow : OpenClaim := { program := "ytjedohcphkdekaa", sum := "e5abd48d4b7c2244b4859edba37681f8752afab35961c9efe08d7b538276e4c6", func := "bradawl/bradawllaw04.NormOwn", spec := "normOwn", unfollowed := true, recurses := true, apart := false, narrowed := true }
def NormOwnUptoSaid : Prop := normOwnUptoRow.holds Try.pinned (OpenSpec.upto normOwnSpec)

end Rows
end Go.Proofs.Ytjedohcphkdekaa
