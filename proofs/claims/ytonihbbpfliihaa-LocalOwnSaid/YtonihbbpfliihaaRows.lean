/-
  No cell of these rows narrows 'for every input' (looked for: loops, veiled, ifaces, maps, wideKeys, modest, calm, conditions, laid).
  DERIVED. THE GIVEN ROWS OF THIS SEAT. 6 by the template 'for every input the law returns true; each argument reads behind the call as it read before'; 0 by the template 'total and deterministic' (their statements: YtonihbbpfliihaaTotals.lean).
  GIVEN WITH THE SEED: the statements are not yours to turn. If you find one false, say at which input.
  Laid BY PROGRAM, IN A SANDBOX (cutbox-rows.mjs): the forced cells as the released guide's own fill.sh prints them over the translation 04b00dee6ec79f6d… (all of the seat's roots in one cut). By AI agents, Wed Nov 11 2026. No macro, syntax, notation, axiom, sorry.
-/
import Derived.Test.YtonihbbpfliihaaChecked
import GoSem.Claim
import GoSem.ClaimJoined
import GoSem.ClaimMapViews
import Derived.JoinedTies
import Derived.KernelRfl
namespace Go.Proofs.Ytonihbbpfliihaa
/- THE CELL 'sum', in the pinned program and in every row, IS THE sha256 OF THE DUMP (.gsa) THAT YtonihbbpfliihaaProg.lean LOADS. Nothing in Lean hashes anything: it is a label: what it is worth is what the hold of that sum in a sandbox is worth. -/
noncomputable def Try.pinned : Pinned := { name := "ytonihbbpfliihaa", sum := "04b00dee6ec79f6dbd4d051269206497a5c32396c2c5648fc226b46cfa6bbd52", checked := Try.checked }
namespace Rows
def none {H : Type} : Left H := { results := [], args := [] }

/-- 'bradawllaw14.LocalOwn': WHATEVER THE INPUT: true; the input reads as it did. -/
def localOwnSpec : ChangeSpec := { name := "localOwn", fn := fun _ => fun
  | [d1, d2, d3] => { results := [.lit (.bool true)], args := [d1, d2, d3] }
  | _ => none }
def localOwnRow : OpenClaim := { program := "ytonihbbpfliihaa", sum := "04b00dee6ec79f6dbd4d051269206497a5c32396c2c5648fc226b46cfa6bbd52", func := "bradawl/bradawllaw14.LocalOwn", spec := "localOwn", unfollowed := true, recurses := true, apart := false }
def LocalOwnSaid : Prop := localOwnRow.holds Try.pinned (OpenSpec.ofChange localOwnSpec)

/-- ITS FALSE NEIGHBOUR: 'it returns false'. Refute it at one input. -/
def localOwnWrong : ChangeSpec := { name := "localOwn", fn := fun _ => fun
  | [d1, d2, d3] => { results := [.lit (.bool false)], args := [d1, d2, d3] }
  | _ => none }
def LocalOwnWrongFalsely : Prop := localOwnRow.holds Try.pinned (OpenSpec.ofChange localOwnWrong)

/-- 'bradawllaw14.LocalBest': WHATEVER THE INPUT: true; the input reads as it did. -/
def localBestSpec : ChangeSpec := { name := "localBest", fn := fun _ => fun
  | [d1, d2, d3] => { results := [.lit (.bool true)], args := [d1, d2, d3] }
  | _ => none }
def localBestRow : OpenClaim := { program := "ytonihbbpfliihaa", sum := "04b00dee6ec79f6dbd4d051269206497a5c32396c2c5648fc226b46cfa6bbd52", func := "bradawl/bradawllaw14.LocalBest", spec := "localBest", unfollowed := true, recurses := true, apart := false }
def LocalBestSaid : Prop := localBestRow.holds Try.pinned (OpenSpec.ofChange localBestSpec)

/-- ITS FALSE NEIGHBOUR: 'it returns false'. Refute it at one input. -/
def localBestWrong : ChangeSpec := { name := "localBest", fn := fun _ => fun
  | [d1, d2, d3] => { results := [.lit (.bool false)], args := [d1, d2, d3] }
  | _ => none }
def LocalBestWrongFalsely : Prop := localBestRow.holds Try.pinned (OpenSpec.ofChange localBestWrong)

/-- 'bradawllaw14.LocalEmpty': WHATEVER THE INPUT: true; the input reads as it did. -/
def localEmptySpec : ChangeSpec := { name := "localEmpty", fn := fun _ => fun
  | [d1, d2, d3] => { results := [.lit (.bool true)], args := [d1, d2, d3] }
  | _ => none }
def localEmptyRow : OpenClaim := { program := "ytonihbbpfliihaa", sum := "04b00dee6ec79f6dbd4d051269206497a5c32396c2c5648fc226b46cfa6bbd52", func := "bradawl/bradawllaw14.LocalEmpty", spec := "localEmpty", unfollowed := true, recurses := true, apart := false }
def LocalEmptySaid : Prop := localEmptyRow.holds Try.pinned (OpenSpec.ofChange localEmptySpec)

/-- ITS FALSE NEIGHBOUR: 'it returns false'. Refute it at one input. -/
def localEmptyWrong : ChangeSpec := { name := "localEmpty", fn := fun _ => fun
  | [d1, d2, d3] => { results := [.lit (.bool false)], args := [d1, d2, d3] }
  | _ => none }
def LocalEmptyWrongFalsely : Prop := localEmptyRow.holds Try.pinned (OpenSpec.ofChange localEmptyWrong)

/-- 'bradawllaw14.LocalBreaks': WHATEVER THE INPUT: true; the input reads as it did. -/
def localBreaksSpec : ChangeSpec := { name := "localBreaks", fn := fun _ => fun
  | [d1, d2, d3] => { results := [.lit (.bool true)], args := [d1, d2, d3] }
  | _ => none }
def localBreaksRow : OpenClaim := { program := "ytonihbbpfliihaa", sum := "04b00dee6ec79f6dbd4d051269206497a5c32396c2c5648fc226b46cfa6bbd52", func := "bradawl/bradawllaw14.LocalBreaks", spec := "localBreaks", unfollowed := true, recurses := true, apart := false }
def LocalBreaksSaid : Prop := localBreaksRow.holds Try.pinned (OpenSpec.ofChange localBreaksSpec)

/-- ITS FALSE NEIGHBOUR: 'it returns false'. Refute it at one input. -/
def localBreaksWrong : ChangeSpec := { name := "localBreaks", fn := fun _ => fun
  | [d1, d2, d3] => { results := [.lit (.bool false)], args := [d1, d2, d3] }
  | _ => none }
def LocalBreaksWrongFalsely : Prop := localBreaksRow.holds Try.pinned (OpenSpec.ofChange localBreaksWrong)

/-- 'bradawllaw14.LocalOrders': WHATEVER THE INPUT: true; the input reads as it did. -/
def localOrdersSpec : ChangeSpec := { name := "localOrders", fn := fun _ => fun
  | [d1, d2, d3] => { results := [.lit (.bool true)], args := [d1, d2, d3] }
  | _ => none }
def localOrdersRow : OpenClaim := { program := "ytonihbbpfliihaa", sum := "04b00dee6ec79f6dbd4d051269206497a5c32396c2c5648fc226b46cfa6bbd52", func := "bradawl/bradawllaw14.LocalOrders", spec := "localOrders", unfollowed := true, recurses := true, apart := false }
def LocalOrdersSaid : Prop := localOrdersRow.holds Try.pinned (OpenSpec.ofChange localOrdersSpec)

/-- ITS FALSE NEIGHBOUR: 'it returns false'. Refute it at one input. -/
def localOrdersWrong : ChangeSpec := { name := "localOrders", fn := fun _ => fun
  | [d1, d2, d3] => { results := [.lit (.bool false)], args := [d1, d2, d3] }
  | _ => none }
def LocalOrdersWrongFalsely : Prop := localOrdersRow.holds Try.pinned (OpenSpec.ofChange localOrdersWrong)

/-- 'bradawllaw14.LocalRuns': WHATEVER THE INPUT: true; the input reads as it did. -/
def localRunsSpec : ChangeSpec := { name := "localRuns", fn := fun _ => fun
  | [d1, d2, d3] => { results := [.lit (.bool true)], args := [d1, d2, d3] }
  | _ => none }
def localRunsRow : OpenClaim := { program := "ytonihbbpfliihaa", sum := "04b00dee6ec79f6dbd4d051269206497a5c32396c2c5648fc226b46cfa6bbd52", func := "bradawl/bradawllaw14.LocalRuns", spec := "localRuns", unfollowed := true, recurses := true, apart := false }
def LocalRunsSaid : Prop := localRunsRow.holds Try.pinned (OpenSpec.ofChange localRunsSpec)

/-- ITS FALSE NEIGHBOUR: 'it returns false'. Refute it at one input. -/
def localRunsWrong : ChangeSpec := { name := "localRuns", fn := fun _ => fun
  | [d1, d2, d3] => { results := [.lit (.bool false)], args := [d1, d2, d3] }
  | _ => none }
def LocalRunsWrongFalsely : Prop := localRunsRow.holds Try.pinned (OpenSpec.ofChange localRunsWrong)

/- THE SECOND FORM. 'bulk': how many values and letters a reading holds, each counted each time it is reached (what is shared counts as often as it is met; a slice's spare places count too). A statement '..UptoSaid' is the law's where the arguments, and the package variables that the reading takes, are together of bulk at most 1048576: NARROWER than '..Said'. Prove '..Said' where nothing that the law and all that it calls make is longer than what came in: it says more and counts as full. Else prove '..UptoSaid'. A law counts once. -/
mutual
def uptoBulk {H : Type} : DataW H → Nat
  | .lit (.string bytes) => bytes.length + 1
  | .lit _ => 1
  | .nil => 1
  | .ptr d => uptoBulk d + 1
  | .slice elems spare => uptoBulkAll elems + uptoBulkAll spare + 1
  | .agg parts => uptoBulkAll parts + 1
  | .iface _ d => uptoBulk d + 1
  | .map entries => uptoBulkEntries entries + 1
  | .held _ => 1
def uptoBulkAll {H : Type} : List (DataW H) → Nat
  | [] => 0
  | d :: r => uptoBulk d + uptoBulkAll r
def uptoBulkEntries {H : Type} : List (Lit × DataW H) → Nat
  | [] => 0
  | x :: r => uptoBulkEntry x + uptoBulkEntries r
def uptoBulkEntry {H : Type} : Lit × DataW H → Nat
  | (.string bytes, d) => bytes.length + uptoBulk d + 1
  | (_, d) => uptoBulk d + 1
 end
def uptoSmall : (H : Type) → List (DataW H) → Bool := fun _ ds => decide (uptoBulkAll ds ≤ 1048576)
def OpenSpec.upto (s : _root_.Go.ChangeSpec) : _root_.Go.OpenSpec := { _root_.Go.OpenSpec.ofChange s with cond := some uptoSmall }

/-- 'bradawllaw14.LocalOwn', WHERE WHAT IT READS IS OF BULK AT MOST 1048576: true; the input reads as it did. -/
def localOwnUptoRow : OpenClaim := { program := "ytonihbbpfliihaa", sum := "04b00dee6ec79f6dbd4d051269206497a5c32396c2c5648fc226b46cfa6bbd52", func := "bradawl/bradawllaw14.LocalOwn", spec := "localOwn", unfollowed := true, recurses := true, apart := false, narrowed := true }
def LocalOwnUptoSaid : Prop := localOwnUptoRow.holds Try.pinned (OpenSpec.upto localOwnSpec)

/-- 'bradawllaw14.LocalBest', WHERE WHAT IT READS IS OF BULK AT MOST 1048576: true; the input reads as it did. -/
def localBestUptoRow : OpenClaim := { program := "ytonihbbpfliihaa", sum := "04b00dee6ec79f6dbd4d051269206497a5c32396c2c5648fc226b46cfa6bbd52", func := "bradawl/bradawllaw14.LocalBest", spec := "localBest", unfollowed := true, recurses := true, apart := false, narrowed := true }
def LocalBestUptoSaid : Prop := localBestUptoRow.holds Try.pinned (OpenSpec.upto localBestSpec)

/-- 'bradawllaw14.LocalEmpty', WHERE WHAT IT READS IS OF BULK AT MOST 1048576: true; the input reads as it did. -/
def localEmptyUptoRow : OpenClaim := { program := "ytonihbbpfliihaa", sum := "04b00dee6ec79f6dbd4d051269206497a5c32396c2c5648fc226b46cfa6bbd52", func := "bradawl/bradawllaw14.LocalEmpty", spec := "localEmpty", unfollowed := true, recurses := true, apart := false, narrowed := true }
def LocalEmptyUptoSaid : Prop := localEmptyUptoRow.holds Try.pinned (OpenSpec.upto localEmptySpec)

/-- 'bradawllaw14.LocalBreaks', WHERE WHAT IT READS IS OF BULK AT MOST 1048576: true; the input reads as it did. -/
def localBreaksUptoRow : OpenClaim := { program := "ytonihbbpfliihaa", sum := "04b00dee6ec79f6dbd4d051269206497a5c32396c2c5648fc226b46cfa6bbd52", func := "bradawl/bradawllaw14.LocalBreaks", spec := "localBreaks", unfollowed := true, recurses := true, apart := false, narrowed := true }
def LocalBreaksUptoSaid : Prop := localBreaksUptoRow.holds Try.pinned (OpenSpec.upto localBreaksSpec)

/-- 'bradawllaw14.LocalOrders', WHERE WHAT IT READS IS OF BULK AT MOST 1048576: true; the input reads as it did. -/
def localOrdersUptoRow : OpenClaim := { program := "ytonihbbpfliihaa", sum := "04b00dee6ec79f6dbd4d051269206497a5c32396c2c5648fc226b46cfa6bbd52", func := "bradawl/bradawllaw14.LocalOrders", spec := "localOrders", unfollowed := true, recurses := true, apart := false, narrowed := true }
def LocalOrdersUptoSaid : Prop := localOrdersUptoRow.holds Try.pinned (OpenSpec.upto localOrdersSpec)

/-- 'bradawllaw14.LocalRuns', WHERE WHAT IT READS IS OF BULK AT MOST 1048576: true; the input reads as it did. -/
def localRunsUptoRow : OpenClaim := { program := "ytonihbbpfliihaa", sum := "04b00dee6ec79f6dbd4d051269206497a5c32396c2c5648fc226b46cfa6bbd52", func := "bradawl/bradawllaw14.LocalRuns", spec := "localRuns", unfollowed := true, recurses := true, apart := false, narrowed := true }
def LocalRunsUptoSaid : Prop := localRunsUptoRow.holds Try.pinned (OpenSpec.upto localRunsSpec)

end Rows
end Go.Proofs.Ytonihbbpfliihaa
