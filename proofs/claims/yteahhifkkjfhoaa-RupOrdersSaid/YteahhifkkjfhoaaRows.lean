/-
  No cell of these rows narrows 'for every input' (looked for: loops, veiled, ifaces, maps, wideKeys, modest, calm, conditions, laid).
  DERIVED. THE GIVEN ROWS OF THIS SEAT. 6 by the template 'for every input the law returns true; each argument reads behind the call as it read before'; 0 by the template 'total and deterministic' (their statements: YteahhifkkjfhoaaTotals.lean).
  GIVEN WITH THE SEED: the statements are not yours to turn. If you find one false, say at which input.
  Laid BY PROGRAM, IN A SANDBOX (cutbox-rows.mjs): the forced cells as the released guide's own fill.sh prints them over the translation bedd23157f6bdff3… (all of the seat's roots in one cut). By AI agents, Wed Nov 11 2026. No macro, syntax, notation, axiom, sorry.
-/
import Derived.Test.YteahhifkkjfhoaaChecked
import GoSem.Claim
import GoSem.ClaimJoined
import GoSem.ClaimMapViews
import Derived.JoinedTies
import Derived.KernelRfl
namespace Go.Proofs.Yteahhifkkjfhoaa
/- THE CELL 'sum', in the pinned program and in every row, IS THE sha256 OF THE DUMP (.gsa) THAT YteahhifkkjfhoaaProg.lean LOADS. Nothing in Lean hashes anything: it is a label: what it is worth is what the hold of that sum in a sandbox is worth. -/
noncomputable def Try.pinned : Pinned := { name := "yteahhifkkjfhoaa", sum := "bedd23157f6bdff38434804515ff5471828f2de9a3ad52f9daced0f5f515194a", checked := Try.checked }
namespace Rows
def none {H : Type} : Left H := { results := [], args := [] }

/-- 'bradawllaw07.RupFollows': WHATEVER THE INPUT: true; the input reads as it did. -/
def rupFollowsSpec : ChangeSpec := { name := "rupFollows", fn := fun _ => fun
  | [d1, d2] => { results := [.lit (.bool true)], args := [d1, d2] }
  | _ => none }
def rupFollowsRow : OpenClaim := { program := "yteahhifkkjfhoaa", sum := "bedd23157f6bdff38434804515ff5471828f2de9a3ad52f9daced0f5f515194a", func := "bradawl/bradawllaw07.RupFollows", spec := "rupFollows", unfollowed := true, recurses := true, apart := false }
def RupFollowsSaid : Prop := rupFollowsRow.holds Try.pinned (OpenSpec.ofChange rupFollowsSpec)

/-- ITS FALSE NEIGHBOUR: 'it returns false'. Refute it at one input. -/
def rupFollowsWrong : ChangeSpec := { name := "rupFollows", fn := fun _ => fun
  | [d1, d2] => { results := [.lit (.bool false)], args := [d1, d2] }
  | _ => none }
def RupFollowsWrongFalsely : Prop := rupFollowsRow.holds Try.pinned (OpenSpec.ofChange rupFollowsWrong)

/-- 'bradawllaw07.RupMore': WHATEVER THE INPUT: true; the input reads as it did. -/
def rupMoreSpec : ChangeSpec := { name := "rupMore", fn := fun _ => fun
  | [d1, d2, d3] => { results := [.lit (.bool true)], args := [d1, d2, d3] }
  | _ => none }
def rupMoreRow : OpenClaim := { program := "yteahhifkkjfhoaa", sum := "bedd23157f6bdff38434804515ff5471828f2de9a3ad52f9daced0f5f515194a", func := "bradawl/bradawllaw07.RupMore", spec := "rupMore", unfollowed := true, recurses := true, apart := false }
def RupMoreSaid : Prop := rupMoreRow.holds Try.pinned (OpenSpec.ofChange rupMoreSpec)

/-- ITS FALSE NEIGHBOUR: 'it returns false'. Refute it at one input. -/
def rupMoreWrong : ChangeSpec := { name := "rupMore", fn := fun _ => fun
  | [d1, d2, d3] => { results := [.lit (.bool false)], args := [d1, d2, d3] }
  | _ => none }
def RupMoreWrongFalsely : Prop := rupMoreRow.holds Try.pinned (OpenSpec.ofChange rupMoreWrong)

/-- 'bradawllaw07.RupOrders': WHATEVER THE INPUT: true; the input reads as it did. -/
def rupOrdersSpec : ChangeSpec := { name := "rupOrders", fn := fun _ => fun
  | [d1, d2, d3] => { results := [.lit (.bool true)], args := [d1, d2, d3] }
  | _ => none }
def rupOrdersRow : OpenClaim := { program := "yteahhifkkjfhoaa", sum := "bedd23157f6bdff38434804515ff5471828f2de9a3ad52f9daced0f5f515194a", func := "bradawl/bradawllaw07.RupOrders", spec := "rupOrders", unfollowed := true, recurses := true, apart := false }
def RupOrdersSaid : Prop := rupOrdersRow.holds Try.pinned (OpenSpec.ofChange rupOrdersSpec)

/-- ITS FALSE NEIGHBOUR: 'it returns false'. Refute it at one input. -/
def rupOrdersWrong : ChangeSpec := { name := "rupOrders", fn := fun _ => fun
  | [d1, d2, d3] => { results := [.lit (.bool false)], args := [d1, d2, d3] }
  | _ => none }
def RupOrdersWrongFalsely : Prop := rupOrdersRow.holds Try.pinned (OpenSpec.ofChange rupOrdersWrong)

/-- 'bradawllaw07.RupHolds': WHATEVER THE INPUT: true; the input reads as it did. -/
def rupHoldsSpec : ChangeSpec := { name := "rupHolds", fn := fun _ => fun
  | [d1, d2, d3] => { results := [.lit (.bool true)], args := [d1, d2, d3] }
  | _ => none }
def rupHoldsRow : OpenClaim := { program := "yteahhifkkjfhoaa", sum := "bedd23157f6bdff38434804515ff5471828f2de9a3ad52f9daced0f5f515194a", func := "bradawl/bradawllaw07.RupHolds", spec := "rupHolds", unfollowed := true, recurses := true, apart := false }
def RupHoldsSaid : Prop := rupHoldsRow.holds Try.pinned (OpenSpec.ofChange rupHoldsSpec)

/-- ITS FALSE NEIGHBOUR: 'it returns false'. Refute it at one input. -/
def rupHoldsWrong : ChangeSpec := { name := "rupHolds", fn := fun _ => fun
  | [d1, d2, d3] => { results := [.lit (.bool false)], args := [d1, d2, d3] }
  | _ => none }
def RupHoldsWrongFalsely : Prop := rupHoldsRow.holds Try.pinned (OpenSpec.ofChange rupHoldsWrong)

/-- 'bradawllaw07.RupRemoves': WHATEVER THE INPUT: true; the input reads as it did. -/
def rupRemovesSpec : ChangeSpec := { name := "rupRemoves", fn := fun _ => fun
  | [d1, d2] => { results := [.lit (.bool true)], args := [d1, d2] }
  | _ => none }
def rupRemovesRow : OpenClaim := { program := "yteahhifkkjfhoaa", sum := "bedd23157f6bdff38434804515ff5471828f2de9a3ad52f9daced0f5f515194a", func := "bradawl/bradawllaw07.RupRemoves", spec := "rupRemoves", unfollowed := true, recurses := true, apart := false }
def RupRemovesSaid : Prop := rupRemovesRow.holds Try.pinned (OpenSpec.ofChange rupRemovesSpec)

/-- ITS FALSE NEIGHBOUR: 'it returns false'. Refute it at one input. -/
def rupRemovesWrong : ChangeSpec := { name := "rupRemoves", fn := fun _ => fun
  | [d1, d2] => { results := [.lit (.bool false)], args := [d1, d2] }
  | _ => none }
def RupRemovesWrongFalsely : Prop := rupRemovesRow.holds Try.pinned (OpenSpec.ofChange rupRemovesWrong)

/-- 'bradawllaw07.RupWith': WHATEVER THE INPUT: true; the input reads as it did. -/
def rupWithSpec : ChangeSpec := { name := "rupWith", fn := fun _ => fun
  | [d1, d2, d3] => { results := [.lit (.bool true)], args := [d1, d2, d3] }
  | _ => none }
def rupWithRow : OpenClaim := { program := "yteahhifkkjfhoaa", sum := "bedd23157f6bdff38434804515ff5471828f2de9a3ad52f9daced0f5f515194a", func := "bradawl/bradawllaw07.RupWith", spec := "rupWith", unfollowed := true, recurses := true, apart := false }
def RupWithSaid : Prop := rupWithRow.holds Try.pinned (OpenSpec.ofChange rupWithSpec)

/-- ITS FALSE NEIGHBOUR: 'it returns false'. Refute it at one input. -/
def rupWithWrong : ChangeSpec := { name := "rupWith", fn := fun _ => fun
  | [d1, d2, d3] => { results := [.lit (.bool false)], args := [d1, d2, d3] }
  | _ => none }
def RupWithWrongFalsely : Prop := rupWithRow.holds Try.pinned (OpenSpec.ofChange rupWithWrong)

/- THE SECOND FORM. 'bulk': how many values and letters a reading holds, each counted each time it is reached (what is shared counts as often as it is met; a slice's spare places count too). A statement '..UptoSaid' is the law's where the arguments, and the package variables that the reading takes, are together of bulk at most 1048576: NARROWER than '..Said'. Prove '..Said' where nothing that the law and all that it calls make is longer than what came in: it says more and counts as full. Else prove '..UptoSaid'. A law counts once. -/
mutual
def uptoBulk {H : Type} : DataW H → Nat
  | .lit (.string bytes) => bytes.length + 1
  | .lit _ => 1
  | .nil => 1
  | .ptr d => uptoBulk d + 1
  | .slice elems spare => uptoBulkAll elems + uptoBulkAll spare + 1
  | .agg parts => uptoBulkAll parts + 1
  | .iface _ d => uptoBulk d + 1
  | .map entries => uptoBulkEntries entries + 1
  | .held _ => 1
def uptoBulkAll {H : Type} : List (DataW H) → Nat
  | [] => 0
  | d :: r => uptoBulk d + uptoBulkAll r
def uptoBulkEntries {H : Type} : List (Lit × DataW H) → Nat
  | [] => 0
  | x :: r => uptoBulkEntry x + uptoBulkEntries r
def uptoBulkEntry {H : Type} : Lit × DataW H → Nat
  | (.string bytes, d) => bytes.length + uptoBulk d + 1
  | (_, d) => uptoBulk d + 1
 end
def uptoSmall : (H : Type) → List (DataW H) → Bool := fun _ ds => decide (uptoBulkAll ds ≤ 1048576)
def OpenSpec.upto (s : _root_.Go.ChangeSpec) : _root_.Go.OpenSpec := { _root_.Go.OpenSpec.ofChange s with cond := some uptoSmall }

/-- 'bradawllaw07.RupFollows', WHERE WHAT IT READS IS OF BULK AT MOST 1048576: true; the input reads as it did. -/
def rupFollowsUptoRow : OpenClaim := { program := "yteahhifkkjfhoaa", sum := "bedd23157f6bdff38434804515ff5471828f2de9a3ad52f9daced0f5f515194a", func := "bradawl/bradawllaw07.RupFollows", spec := "rupFollows", unfollowed := true, recurses := true, apart := false, narrowed := true }
def RupFollowsUptoSaid : Prop := rupFollowsUptoRow.holds Try.pinned (OpenSpec.upto rupFollowsSpec)

/-- 'bradawllaw07.RupMore', WHERE WHAT IT READS IS OF BULK AT MOST 1048576: true; the input reads as it did. -/
def rupMoreUptoRow : OpenClaim := { program := "yteahhifkkjfhoaa", sum := "bedd23157f6bdff38434804515ff5471828f2de9a3ad52f9daced0f5f515194a", func := "bradawl/bradawllaw07.RupMore", spec := "rupMore", unfollowed := true, recurses := true, apart := false, narrowed := true }
def RupMoreUptoSaid : Prop := rupMoreUptoRow.holds Try.pinned (OpenSpec.upto rupMoreSpec)

/-- 'bradawllaw07.RupOrders', WHERE WHAT IT READS IS OF BULK AT MOST 1048576: true; the input reads as it did. -/
def rupOrdersUptoRow : OpenClaim := { program := "yteahhifkkjfhoaa", sum := "bedd23157f6bdff38434804515ff5471828f2de9a3ad52f9daced0f5f515194a", func := "bradawl/bradawllaw07.RupOrders", spec := "rupOrders", unfollowed := true, recurses := true, apart := false, narrowed := true }
def RupOrdersUptoSaid : Prop := rupOrdersUptoRow.holds Try.pinned (OpenSpec.upto rupOrdersSpec)

/-- 'bradawllaw07.RupHolds', WHERE WHAT IT READS IS OF BULK AT MOST 1048576: true; the input reads as it did. -/
def rupHoldsUptoRow : OpenClaim := { program := "yteahhifkkjfhoaa", sum := "bedd23157f6bdff38434804515ff5471828f2de9a3ad52f9daced0f5f515194a", func := "bradawl/bradawllaw07.RupHolds", spec := "rupHolds", unfollowed := true, recurses := true, apart := false, narrowed := true }
def RupHoldsUptoSaid : Prop := rupHoldsUptoRow.holds Try.pinned (OpenSpec.upto rupHoldsSpec)

/-- 'bradawllaw07.RupRemoves', WHERE WHAT IT READS IS OF BULK AT MOST 1048576: true; the input reads as it did. -/
def rupRemovesUptoRow : OpenClaim := { program := "yteahhifkkjfhoaa", sum := "bedd23157f6bdff38434804515ff5471828f2de9a3ad52f9daced0f5f515194a", func := "bradawl/bradawllaw07.RupRemoves", spec := "rupRemoves", unfollowed := true, recurses := true, apart := false, narrowed := true }
def RupRemovesUptoSaid : Prop := rupRemovesUptoRow.holds Try.pinned (OpenSpec.upto rupRemovesSpec)

/-- 'bradawllaw07.RupWith', WHERE WHAT IT READS IS OF BULK AT MOST 1048576: true; the input reads as it did. -/
def rupWithUptoRow : OpenClaim := { program := "yteahhifkkjfhoaa", sum := "bedd23157f6bdff38434804515ff5471828f2de9a3ad52f9daced0f5f515194a", func := "bradawl/bradawllaw07.RupWith", spec := "rupWith", unfollowed := true, recurses := true, apart := false, narrowed := true }
def RupWithUptoSaid : Prop := rupWithUptoRow.holds Try.pinned (OpenSpec.upto rupWithSpec)

end Rows
end Go.Proofs.Yteahhifkkjfhoaa
