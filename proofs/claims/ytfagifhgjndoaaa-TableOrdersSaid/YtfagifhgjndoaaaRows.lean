/-
  No cell of these rows narrows 'for every input' (looked for: loops, veiled, ifaces, maps, wideKeys, modest, calm, conditions, laid).
  DERIVED. THE GIVEN ROWS OF THIS SEAT. 5 by the template 'for every input the law returns true; each argument reads behind the call as it read before'; 0 by the template 'total and deterministic' (their statements: YtfagifhgjndoaaaTotals.lean).
  GIVEN WITH THE SEED: the statements are not yours to turn. If you find one false, say at which input.
  Laid BY PROGRAM, IN A SANDBOX (cutbox-rows.mjs): the forced cells as the released guide's own fill.sh prints them over the translation 035e241276fb56c9… (all of the seat's roots in one cut). By AI agents, Wed Nov 11 2026. No macro, syntax, notation, axiom, sorry.
-/
import Derived.Test.YtfagifhgjndoaaaChecked
import GoSem.Claim
import GoSem.ClaimJoined
import GoSem.ClaimMapViews
import Derived.JoinedTies
import Derived.KernelRfl
namespace Go.Proofs.Ytfagifhgjndoaaa
/- THE CELL 'sum', in the pinned program and in every row, IS THE sha256 OF THE DUMP (.gsa) THAT YtfagifhgjndoaaaProg.lean LOADS. Nothing in Lean hashes anything: it is a label: what it is worth is what the hold of that sum in a sandbox is worth. -/
noncomputable def Try.pinned : Pinned := { name := "ytfagifhgjndoaaa", sum := "035e241276fb56c93d887add0484358cc9ce954af0100e939d45c24356d14eb0", checked := Try.checked }
namespace Rows
def none {H : Type} : Left H := { results := [], args := [] }

/-- 'bradawllaw11.TableWeights': WHATEVER THE INPUT: true; the input reads as it did. -/
def tableWeightsSpec : ChangeSpec := { name := "tableWeights", fn := fun _ => fun
  | [d1, d2, d3] => { results := [.lit (.bool true)], args := [d1, d2, d3] }
  | _ => none }
def tableWeightsRow : OpenClaim := { program := "ytfagifhgjndoaaa", sum := "035e241276fb56c93d887add0484358cc9ce954af0100e939d45c24356d14eb0", func := "bradawl/bradawllaw11.TableWeights", spec := "tableWeights", apart := false }
def TableWeightsSaid : Prop := tableWeightsRow.holds Try.pinned (OpenSpec.ofChange tableWeightsSpec)

/-- ITS FALSE NEIGHBOUR: 'it returns false'. Refute it at one input. -/
def tableWeightsWrong : ChangeSpec := { name := "tableWeights", fn := fun _ => fun
  | [d1, d2, d3] => { results := [.lit (.bool false)], args := [d1, d2, d3] }
  | _ => none }
def TableWeightsWrongFalsely : Prop := tableWeightsRow.holds Try.pinned (OpenSpec.ofChange tableWeightsWrong)

/-- 'bradawllaw11.TablePicks': WHATEVER THE INPUT: true; the input reads as it did. -/
def tablePicksSpec : ChangeSpec := { name := "tablePicks", fn := fun _ => fun
  | [d1, d2, d3] => { results := [.lit (.bool true)], args := [d1, d2, d3] }
  | _ => none }
def tablePicksRow : OpenClaim := { program := "ytfagifhgjndoaaa", sum := "035e241276fb56c93d887add0484358cc9ce954af0100e939d45c24356d14eb0", func := "bradawl/bradawllaw11.TablePicks", spec := "tablePicks", apart := false }
def TablePicksSaid : Prop := tablePicksRow.holds Try.pinned (OpenSpec.ofChange tablePicksSpec)

/-- ITS FALSE NEIGHBOUR: 'it returns false'. Refute it at one input. -/
def tablePicksWrong : ChangeSpec := { name := "tablePicks", fn := fun _ => fun
  | [d1, d2, d3] => { results := [.lit (.bool false)], args := [d1, d2, d3] }
  | _ => none }
def TablePicksWrongFalsely : Prop := tablePicksRow.holds Try.pinned (OpenSpec.ofChange tablePicksWrong)

/-- 'bradawllaw11.TableRights': WHATEVER THE INPUT: true; the input reads as it did. -/
def tableRightsSpec : ChangeSpec := { name := "tableRights", fn := fun _ => fun
  | [d1, d2] => { results := [.lit (.bool true)], args := [d1, d2] }
  | _ => none }
def tableRightsRow : OpenClaim := { program := "ytfagifhgjndoaaa", sum := "035e241276fb56c93d887add0484358cc9ce954af0100e939d45c24356d14eb0", func := "bradawl/bradawllaw11.TableRights", spec := "tableRights", apart := false }
def TableRightsSaid : Prop := tableRightsRow.holds Try.pinned (OpenSpec.ofChange tableRightsSpec)

/-- ITS FALSE NEIGHBOUR: 'it returns false'. Refute it at one input. -/
def tableRightsWrong : ChangeSpec := { name := "tableRights", fn := fun _ => fun
  | [d1, d2] => { results := [.lit (.bool false)], args := [d1, d2] }
  | _ => none }
def TableRightsWrongFalsely : Prop := tableRightsRow.holds Try.pinned (OpenSpec.ofChange tableRightsWrong)

/-- 'bradawllaw11.TableWhole': WHATEVER THE INPUT: true; the input reads as it did. -/
def tableWholeSpec : ChangeSpec := { name := "tableWhole", fn := fun _ => fun
  | [d1, d2, d3] => { results := [.lit (.bool true)], args := [d1, d2, d3] }
  | _ => none }
def tableWholeRow : OpenClaim := { program := "ytfagifhgjndoaaa", sum := "035e241276fb56c93d887add0484358cc9ce954af0100e939d45c24356d14eb0", func := "bradawl/bradawllaw11.TableWhole", spec := "tableWhole", apart := false }
def TableWholeSaid : Prop := tableWholeRow.holds Try.pinned (OpenSpec.ofChange tableWholeSpec)

/-- ITS FALSE NEIGHBOUR: 'it returns false'. Refute it at one input. -/
def tableWholeWrong : ChangeSpec := { name := "tableWhole", fn := fun _ => fun
  | [d1, d2, d3] => { results := [.lit (.bool false)], args := [d1, d2, d3] }
  | _ => none }
def TableWholeWrongFalsely : Prop := tableWholeRow.holds Try.pinned (OpenSpec.ofChange tableWholeWrong)

/-- 'bradawllaw11.TableOrders': WHATEVER THE INPUT: true; the input reads as it did. -/
def tableOrdersSpec : ChangeSpec := { name := "tableOrders", fn := fun _ => fun
  | [d1, d2, d3] => { results := [.lit (.bool true)], args := [d1, d2, d3] }
  | _ => none }
def tableOrdersRow : OpenClaim := { program := "ytfagifhgjndoaaa", sum := "035e241276fb56c93d887add0484358cc9ce954af0100e939d45c24356d14eb0", func := "bradawl/bradawllaw11.TableOrders", spec := "tableOrders", apart := false }
def TableOrdersSaid : Prop := tableOrdersRow.holds Try.pinned (OpenSpec.ofChange tableOrdersSpec)

/-- ITS FALSE NEIGHBOUR: 'it returns false'. Refute it at one input. -/
def tableOrdersWrong : ChangeSpec := { name := "tableOrders", fn := fun _ => fun
  | [d1, d2, d3] => { results := [.lit (.bool false)], args := [d1, d2, d3] }
  | _ => none }
def TableOrdersWrongFalsely : Prop := tableOrdersRow.holds Try.pinned (OpenSpec.ofChange tableOrdersWrong)

/- THE SECOND FORM. 'bulk': how many values and letters a reading holds, each counted each time it is reached (what is shared counts as often as it is met; a slice's spare places count too). A statement '..UptoSaid' is the law's where the arguments, and the package variables that the reading takes, are together of bulk at most 1048576: NARROWER than '..Said'. Prove '..Said' where nothing that the law and all that it calls make is longer than what came in: it says more and counts as full. Else prove '..UptoSaid'. A law counts once. -/
mutual
def uptoBulk {H : Type} : DataW H → Nat
  | .lit (.string bytes) => bytes.length + 1
  | .lit _ => 1
  | .nil => 1
  | .ptr d => uptoBulk d + 1
  | .slice elems spare => uptoBulkAll elems + uptoBulkAll spare + 1
  | .agg parts => uptoBulkAll parts + 1
  | .iface _ d => uptoBulk d + 1
  | .map entries => uptoBulkEntries entries + 1
  | .held _ => 1
def uptoBulkAll {H : Type} : List (DataW H) → Nat
  | [] => 0
  | d :: r => uptoBulk d + uptoBulkAll r
def uptoBulkEntries {H : Type} : List (Lit × DataW H) → Nat
  | [] => 0
  | x :: r => uptoBulkEntry x + uptoBulkEntries r
def uptoBulkEntry {H : Type} : Lit × DataW H → Nat
  | (.string bytes, d) => bytes.length + uptoBulk d + 1
  | (_, d) => uptoBulk d + 1
 end
def uptoSmall : (H : Type) → List (DataW H) → Bool := fun _ ds => decide (uptoBulkAll ds ≤ 1048576)
def OpenSpec.upto (s : _root_.Go.ChangeSpec) : _root_.Go.OpenSpec := { _root_.Go.OpenSpec.ofChange s with cond := some uptoSmall }

/-- 'bradawllaw11.TableWeights', WHERE WHAT IT READS IS OF BULK AT MOST 1048576: true; the input reads as it did. -/
def tableWeightsUptoRow : OpenClaim := { program := "ytfagifhgjndoaaa", sum := "035e241276fb56c93d887add0484358cc9ce954af0100e939d45c24356d14eb0", func := "bradawl/bradawllaw11.TableWeights", spec := "tableWeights", apart := false, narrowed := true }
def TableWeightsUptoSaid : Prop := tableWeightsUptoRow.holds Try.pinned (OpenSpec.upto tableWeightsSpec)

/-- 'bradawllaw11.TablePicks', WHERE WHAT IT READS IS OF BULK AT MOST 1048576: true; the input reads as it did. -/
def tablePicksUptoRow : OpenClaim := { program := "ytfagifhgjndoaaa", sum := "035e241276fb56c93d887add0484358cc9ce954af0100e939d45c24356d14eb0", func := "bradawl/bradawllaw11.TablePicks", spec := "tablePicks", apart := false, narrowed := true }
def TablePicksUptoSaid : Prop := tablePicksUptoRow.holds Try.pinned (OpenSpec.upto tablePicksSpec)

/-- 'bradawllaw11.TableRights', WHERE WHAT IT READS IS OF BULK AT MOST 1048576: true; the input reads as it did. -/
def tableRightsUptoRow : OpenClaim := { program := "ytfagifhgjndoaaa", sum := "035e241276fb56c93d887add0484358cc9ce954af0100e939d45c24356d14eb0", func := "bradawl/bradawllaw11.TableRights", spec := "tableRights", apart := false, narrowed := true }
def TableRightsUptoSaid : Prop := tableRightsUptoRow.holds Try.pinned (OpenSpec.upto tableRightsSpec)

/-- 'bradawllaw11.TableWhole', WHERE WHAT IT READS IS OF BULK AT MOST 1048576: true; the input reads as it did. -/
def tableWholeUptoRow : OpenClaim := { program := "ytfagifhgjndoaaa", sum := "035e241276fb56c93d887add0484358cc9ce954af0100e939d45c24356d14eb0", func := "bradawl/bradawllaw11.TableWhole", spec := "tableWhole", apart := false, narrowed := true }
def TableWholeUptoSaid : Prop := tableWholeUptoRow.holds Try.pinned (OpenSpec.upto tableWholeSpec)

/-- 'bradawllaw11.TableOrders', WHERE WHAT IT READS IS OF BULK AT MOST 1048576: true; the input reads as it did. -/
def tableOrdersUptoRow : OpenClaim := { program := "ytfagifhgjndoaaa", sum := "035e241276fb56c93d887add0484358cc9ce954af0100e939d45c24356d14eb0", func := "bradawl/bradawllaw11.TableOrders", spec := "tableOrders", apart := false, narrowed := true }
def TableOrdersUptoSaid : Prop := tableOrdersUptoRow.holds Try.pinned (OpenSpec.upto tableOrdersSpec)

end Rows
end Go.Proofs.Ytfagifhgjndoaaa
