/-
  No cell of these rows narrows 'for every input' (looked for: loops, veiled, ifaces, maps, wideKeys, modest, calm, conditions, laid).
  DERIVED. THE GIVEN ROWS OF THIS SEAT. 5 by the template 'for every input the law returns true; each argument reads behind the call as it read before'; 0 by the template 'total and deterministic' (their statements: YtnfbddcahllggaaTotals.lean).
  GIVEN WITH THE SEED: the statements are not yours to turn. If you find one false, say at which input.
  Laid BY PROGRAM, IN A SANDBOX (cutbox-rows.mjs): the forced cells as the released guide's own fill.sh prints them over the translation 3d8bf423e3d7bad2… (all of the seat's roots in one cut). By AI agents, Wed Nov 11 2026. No macro, syntax, notation, axiom, sorry.
-/
import Derived.Test.YtnfbddcahllggaaChecked
import GoSem.Claim
import GoSem.ClaimJoined
import GoSem.ClaimMapViews
import Derived.JoinedTies
import Derived.KernelRfl
namespace Go.Proofs.Ytnfbddcahllggaa
/- THE CELL 'sum', in the pinned program and in every row, IS THE sha256 OF THE DUMP (.gsa) THAT YtnfbddcahllggaaProg.lean LOADS. Nothing in Lean hashes anything: it is a label: what it is worth is what the hold of that sum in a sandbox is worth. -/
noncomputable def Try.pinned : Pinned := { name := "ytnfbddcahllggaa", sum := "3d8bf423e3d7bad2551d78404594b0d63eaacd55da51c794954da373058e9c78", checked := Try.checked }
namespace Rows
def none {H : Type} : Left H := { results := [], args := [] }

/-- 'bradawllaw10.TicksReckon': WHATEVER THE INPUT: true; the input reads as it did. -/
def ticksReckonSpec : ChangeSpec := { name := "ticksReckon", fn := fun _ => fun
  | [d1, d2] => { results := [.lit (.bool true)], args := [d1, d2] }
  | _ => none }
def ticksReckonRow : OpenClaim := { program := "ytnfbddcahllggaa", sum := "3d8bf423e3d7bad2551d78404594b0d63eaacd55da51c794954da373058e9c78", func := "bradawl/bradawllaw10.TicksReckon", spec := "ticksReckon", apart := false }
def TicksReckonSaid : Prop := ticksReckonRow.holds Try.pinned (OpenSpec.ofChange ticksReckonSpec)

/-- ITS FALSE NEIGHBOUR: 'it returns false'. Refute it at one input. -/
def ticksReckonWrong : ChangeSpec := { name := "ticksReckon", fn := fun _ => fun
  | [d1, d2] => { results := [.lit (.bool false)], args := [d1, d2] }
  | _ => none }
def TicksReckonWrongFalsely : Prop := ticksReckonRow.holds Try.pinned (OpenSpec.ofChange ticksReckonWrong)

/-- 'bradawllaw10.TicksLuby': WHATEVER THE INPUT: true; the input reads as it did. -/
def ticksLubySpec : ChangeSpec := { name := "ticksLuby", fn := fun _ => fun
  | [d1, d2] => { results := [.lit (.bool true)], args := [d1, d2] }
  | _ => none }
def ticksLubyRow : OpenClaim := { program := "ytnfbddcahllggaa", sum := "3d8bf423e3d7bad2551d78404594b0d63eaacd55da51c794954da373058e9c78", func := "bradawl/bradawllaw10.TicksLuby", spec := "ticksLuby", apart := false }
def TicksLubySaid : Prop := ticksLubyRow.holds Try.pinned (OpenSpec.ofChange ticksLubySpec)

/-- ITS FALSE NEIGHBOUR: 'it returns false'. Refute it at one input. -/
def ticksLubyWrong : ChangeSpec := { name := "ticksLuby", fn := fun _ => fun
  | [d1, d2] => { results := [.lit (.bool false)], args := [d1, d2] }
  | _ => none }
def TicksLubyWrongFalsely : Prop := ticksLubyRow.holds Try.pinned (OpenSpec.ofChange ticksLubyWrong)

/-- 'bradawllaw10.TicksOrders': WHATEVER THE INPUT: true; the input reads as it did. -/
def ticksOrdersSpec : ChangeSpec := { name := "ticksOrders", fn := fun _ => fun
  | [d1, d2, d3] => { results := [.lit (.bool true)], args := [d1, d2, d3] }
  | _ => none }
def ticksOrdersRow : OpenClaim := { program := "ytnfbddcahllggaa", sum := "3d8bf423e3d7bad2551d78404594b0d63eaacd55da51c794954da373058e9c78", func := "bradawl/bradawllaw10.TicksOrders", spec := "ticksOrders", apart := false }
def TicksOrdersSaid : Prop := ticksOrdersRow.holds Try.pinned (OpenSpec.ofChange ticksOrdersSpec)

/-- ITS FALSE NEIGHBOUR: 'it returns false'. Refute it at one input. -/
def ticksOrdersWrong : ChangeSpec := { name := "ticksOrders", fn := fun _ => fun
  | [d1, d2, d3] => { results := [.lit (.bool false)], args := [d1, d2, d3] }
  | _ => none }
def TicksOrdersWrongFalsely : Prop := ticksOrdersRow.holds Try.pinned (OpenSpec.ofChange ticksOrdersWrong)

/-- 'bradawllaw10.TicksCounts': WHATEVER THE INPUT: true; the input reads as it did. -/
def ticksCountsSpec : ChangeSpec := { name := "ticksCounts", fn := fun _ => fun
  | [d1, d2, d3] => { results := [.lit (.bool true)], args := [d1, d2, d3] }
  | _ => none }
def ticksCountsRow : OpenClaim := { program := "ytnfbddcahllggaa", sum := "3d8bf423e3d7bad2551d78404594b0d63eaacd55da51c794954da373058e9c78", func := "bradawl/bradawllaw10.TicksCounts", spec := "ticksCounts", apart := false }
def TicksCountsSaid : Prop := ticksCountsRow.holds Try.pinned (OpenSpec.ofChange ticksCountsSpec)

/-- ITS FALSE NEIGHBOUR: 'it returns false'. Refute it at one input. -/
def ticksCountsWrong : ChangeSpec := { name := "ticksCounts", fn := fun _ => fun
  | [d1, d2, d3] => { results := [.lit (.bool false)], args := [d1, d2, d3] }
  | _ => none }
def TicksCountsWrongFalsely : Prop := ticksCountsRow.holds Try.pinned (OpenSpec.ofChange ticksCountsWrong)

/-- 'bradawllaw10.TicksLefts': WHATEVER THE INPUT: true; the input reads as it did. -/
def ticksLeftsSpec : ChangeSpec := { name := "ticksLefts", fn := fun _ => fun
  | [d1, d2] => { results := [.lit (.bool true)], args := [d1, d2] }
  | _ => none }
def ticksLeftsRow : OpenClaim := { program := "ytnfbddcahllggaa", sum := "3d8bf423e3d7bad2551d78404594b0d63eaacd55da51c794954da373058e9c78", func := "bradawl/bradawllaw10.TicksLefts", spec := "ticksLefts", apart := false }
def TicksLeftsSaid : Prop := ticksLeftsRow.holds Try.pinned (OpenSpec.ofChange ticksLeftsSpec)

/-- ITS FALSE NEIGHBOUR: 'it returns false'. Refute it at one input. -/
def ticksLeftsWrong : ChangeSpec := { name := "ticksLefts", fn := fun _ => fun
  | [d1, d2] => { results := [.lit (.bool false)], args := [d1, d2] }
  | _ => none }
def TicksLeftsWrongFalsely : Prop := ticksLeftsRow.holds Try.pinned (OpenSpec.ofChange ticksLeftsWrong)

/- THE SECOND FORM. 'bulk': how many values and letters a reading holds, each counted each time it is reached (what is shared counts as often as it is met; a slice's spare places count too). A statement '..UptoSaid' is the law's where the arguments, and the package variables that the reading takes, are together of bulk at most 1048576: NARROWER than '..Said'. Prove '..Said' where nothing that the law and all that it calls make is longer than what came in: it says more and counts as full. Else prove '..UptoSaid'. A law counts once. -/
mutual
def uptoBulk {H : Type} : DataW H → Nat
  | .lit (.string bytes) => bytes.length + 1
  | .lit _ => 1
  | .nil => 1
  | .ptr d => uptoBulk d + 1
  | .slice elems spare => uptoBulkAll elems + uptoBulkAll spare + 1
  | .agg parts => uptoBulkAll parts + 1
  | .iface _ d => uptoBulk d + 1
  | .map entries => uptoBulkEntries entries + 1
  | .held _ => 1
def uptoBulkAll {H : Type} : List (DataW H) → Nat
  | [] => 0
  | d :: r => uptoBulk d + uptoBulkAll r
def uptoBulkEntries {H : Type} : List (Lit × DataW H) → Nat
  | [] => 0
  | x :: r => uptoBulkEntry x + uptoBulkEntries r
def uptoBulkEntry {H : Type} : Lit × DataW H → Nat
  | (.string bytes, d) => bytes.length + uptoBulk d + 1
  | (_, d) => uptoBulk d + 1
 end
def uptoSmall : (H : Type) → List (DataW H) → Bool := fun _ ds => decide (uptoBulkAll ds ≤ 1048576)
def OpenSpec.upto (s : _root_.Go.ChangeSpec) : _root_.Go.OpenSpec := { _root_.Go.OpenSpec.ofChange s with cond := some uptoSmall }

/-- 'bradawllaw10.TicksReckon', WHERE WHAT IT READS IS OF BULK AT MOST 1048576: true; the input reads as it did. -/
def ticksReckonUptoRow : OpenClaim := { program := "ytnfbddcahllggaa", sum := "3d8bf423e3d7bad2551d78404594b0d63eaacd55da51c794954da373058e9c78", func := "bradawl/bradawllaw10.TicksReckon", spec := "ticksReckon", apart := false, narrowed := true }
def TicksReckonUptoSaid : Prop := ticksReckonUptoRow.holds Try.pinned (OpenSpec.upto ticksReckonSpec)

/-- 'bradawllaw10.TicksLuby', WHERE WHAT IT READS IS OF BULK AT MOST 1048576: true; the input reads as it did. -/
def ticksLubyUptoRow : OpenClaim := { program := "ytnfbddcahllggaa", sum := "3d8bf423e3d7bad2551d78404594b0d63eaacd55da51c794954da373058e9c78", func := "bradawl/bradawllaw10.TicksLuby", spec := "ticksLuby", apart := false, narrowed := true }
def TicksLubyUptoSaid : Prop := ticksLubyUptoRow.holds Try.pinned (OpenSpec.upto ticksLubySpec)

/-- 'bradawllaw10.TicksOrders', WHERE WHAT IT READS IS OF BULK AT MOST 1048576: true; the input reads as it did. -/
def ticksOrdersUptoRow : OpenClaim := { program := "ytnfbddcahllggaa", sum := "3d8bf423e3d7bad2551d78404594b0d63eaacd55da51c794954da373058e9c78", func := "bradawl/bradawllaw10.TicksOrders", spec := "ticksOrders", apart := false, narrowed := true }
def TicksOrdersUptoSaid : Prop := ticksOrdersUptoRow.holds Try.pinned (OpenSpec.upto ticksOrdersSpec)

/-- 'bradawllaw10.TicksCounts', WHERE WHAT IT READS IS OF BULK AT MOST 1048576: true; the input reads as it did. -/
def ticksCountsUptoRow : OpenClaim := { program := "ytnfbddcahllggaa", sum := "3d8bf423e3d7bad2551d78404594b0d63eaacd55da51c794954da373058e9c78", func := "bradawl/bradawllaw10.TicksCounts", spec := "ticksCounts", apart := false, narrowed := true }
def TicksCountsUptoSaid : Prop := ticksCountsUptoRow.holds Try.pinned (OpenSpec.upto ticksCountsSpec)

/-- 'bradawllaw10.TicksLefts', WHERE WHAT IT READS IS OF BULK AT MOST 1048576: true; the input reads as it did. -/
def ticksLeftsUptoRow : OpenClaim := { program := "ytnfbddcahllggaa", sum := "3d8bf423e3d7bad2551d78404594b0d63eaacd55da51c794954da373058e9c78", func := "bradawl/bradawllaw10.TicksLefts", spec := "ticksLefts", apart := false, narrowed := true }
def TicksLeftsUptoSaid : Prop := ticksLeftsUptoRow.holds Try.pinned (OpenSpec.upto ticksLeftsSpec)

end Rows
end Go.Proofs.Ytnfbddcahllggaa
