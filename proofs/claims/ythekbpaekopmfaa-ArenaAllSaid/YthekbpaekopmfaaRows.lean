/-
  No cell of these rows narrows 'for every input' (looked for: loops, veiled, ifaces, maps, wideKeys, modest, calm, conditions, laid).
  DERIVED. THE GIVEN ROWS OF THIS SEAT. 4 by the template 'for every input the law returns true; each argument reads behind the call as it read before'; 0 by the template 'total and deterministic' (their statements: YthekbpaekopmfaaTotals.lean).
  GIVEN WITH THE SEED: the statements are not yours to turn. If you find one false, say at which input.
  Laid BY PROGRAM, IN A SANDBOX (cutbox-rows.mjs): the forced cells as the released guide's own fill.sh prints them over the translation 2acf228ef371b8fa… (all of the seat's roots in one cut). By AI agents, Wed Nov 11 2026. No macro, syntax, notation, axiom, sorry.
-/
import Derived.Test.YthekbpaekopmfaaChecked
import GoSem.Claim
import GoSem.ClaimJoined
import GoSem.ClaimMapViews
import Derived.JoinedTies
import Derived.KernelRfl
namespace Go.Proofs.Ythekbpaekopmfaa
/- THE CELL 'sum', in the pinned program and in every row, IS THE sha256 OF THE DUMP (.gsa) THAT YthekbpaekopmfaaProg.lean LOADS. Nothing in Lean hashes anything: it is a label: what it is worth is what the hold of that sum in a sandbox is worth. -/
noncomputable def Try.pinned : Pinned := { name := "ythekbpaekopmfaa", sum := "2acf228ef371b8fa8ff1d4b1476bcee521017d9d94d6823498530406148a7983", checked := Try.checked }
namespace Rows
def none {H : Type} : Left H := { results := [], args := [] }

/-- 'bradawllaw05.ArenaRooms': WHATEVER THE INPUT: true; the input reads as it did. -/
def arenaRoomsSpec : ChangeSpec := { name := "arenaRooms", fn := fun _ => fun
  | [d1, d2] => { results := [.lit (.bool true)], args := [d1, d2] }
  | _ => none }
def arenaRoomsRow : OpenClaim := { program := "ythekbpaekopmfaa", sum := "2acf228ef371b8fa8ff1d4b1476bcee521017d9d94d6823498530406148a7983", func := "bradawl/bradawllaw05.ArenaRooms", spec := "arenaRooms", apart := false }
def ArenaRoomsSaid : Prop := arenaRoomsRow.holds Try.pinned (OpenSpec.ofChange arenaRoomsSpec)

/-- ITS FALSE NEIGHBOUR: 'it returns false'. Refute it at one input. -/
def arenaRoomsWrong : ChangeSpec := { name := "arenaRooms", fn := fun _ => fun
  | [d1, d2] => { results := [.lit (.bool false)], args := [d1, d2] }
  | _ => none }
def ArenaRoomsWrongFalsely : Prop := arenaRoomsRow.holds Try.pinned (OpenSpec.ofChange arenaRoomsWrong)

/-- 'bradawllaw05.ArenaCompacts': WHATEVER THE INPUT: true; the input reads as it did. -/
def arenaCompactsSpec : ChangeSpec := { name := "arenaCompacts", fn := fun _ => fun
  | [d1, d2] => { results := [.lit (.bool true)], args := [d1, d2] }
  | _ => none }
def arenaCompactsRow : OpenClaim := { program := "ythekbpaekopmfaa", sum := "2acf228ef371b8fa8ff1d4b1476bcee521017d9d94d6823498530406148a7983", func := "bradawl/bradawllaw05.ArenaCompacts", spec := "arenaCompacts", unfollowed := true, recurses := true, apart := false }
def ArenaCompactsSaid : Prop := arenaCompactsRow.holds Try.pinned (OpenSpec.ofChange arenaCompactsSpec)

/-- ITS FALSE NEIGHBOUR: 'it returns false'. Refute it at one input. -/
def arenaCompactsWrong : ChangeSpec := { name := "arenaCompacts", fn := fun _ => fun
  | [d1, d2] => { results := [.lit (.bool false)], args := [d1, d2] }
  | _ => none }
def ArenaCompactsWrongFalsely : Prop := arenaCompactsRow.holds Try.pinned (OpenSpec.ofChange arenaCompactsWrong)

/-- 'bradawllaw05.ArenaAll': WHATEVER THE INPUT: true; the input reads as it did. -/
def arenaAllSpec : ChangeSpec := { name := "arenaAll", fn := fun _ => fun
  | [d1, d2, d3] => { results := [.lit (.bool true)], args := [d1, d2, d3] }
  | _ => none }
def arenaAllRow : OpenClaim := { program := "ythekbpaekopmfaa", sum := "2acf228ef371b8fa8ff1d4b1476bcee521017d9d94d6823498530406148a7983", func := "bradawl/bradawllaw05.ArenaAll", spec := "arenaAll", unfollowed := true, recurses := true, apart := false }
def ArenaAllSaid : Prop := arenaAllRow.holds Try.pinned (OpenSpec.ofChange arenaAllSpec)

/-- ITS FALSE NEIGHBOUR: 'it returns false'. Refute it at one input. -/
def arenaAllWrong : ChangeSpec := { name := "arenaAll", fn := fun _ => fun
  | [d1, d2, d3] => { results := [.lit (.bool false)], args := [d1, d2, d3] }
  | _ => none }
def ArenaAllWrongFalsely : Prop := arenaAllRow.holds Try.pinned (OpenSpec.ofChange arenaAllWrong)

/-- 'bradawllaw05.ArenaNone': WHATEVER THE INPUT: true; the input reads as it did. -/
def arenaNoneSpec : ChangeSpec := { name := "arenaNone", fn := fun _ => fun
  | [d1, d2] => { results := [.lit (.bool true)], args := [d1, d2] }
  | _ => none }
def arenaNoneRow : OpenClaim := { program := "ythekbpaekopmfaa", sum := "2acf228ef371b8fa8ff1d4b1476bcee521017d9d94d6823498530406148a7983", func := "bradawl/bradawllaw05.ArenaNone", spec := "arenaNone", apart := false }
def ArenaNoneSaid : Prop := arenaNoneRow.holds Try.pinned (OpenSpec.ofChange arenaNoneSpec)

/-- ITS FALSE NEIGHBOUR: 'it returns false'. Refute it at one input. -/
def arenaNoneWrong : ChangeSpec := { name := "arenaNone", fn := fun _ => fun
  | [d1, d2] => { results := [.lit (.bool false)], args := [d1, d2] }
  | _ => none }
def ArenaNoneWrongFalsely : Prop := arenaNoneRow.holds Try.pinned (OpenSpec.ofChange arenaNoneWrong)

/- THE SECOND FORM. 'bulk': how many values and letters a reading holds, each counted each time it is reached (what is shared counts as often as it is met; a slice's spare places count too). A statement '..UptoSaid' is the law's where the arguments, and the package variables that the reading takes, are together of bulk at most 1048576: NARROWER than '..Said'. Prove '..Said' where nothing that the law and all that it calls make is longer than what came in: it says more and counts as full. Else prove '..UptoSaid'. A law counts once. -/
mutual
def uptoBulk {H : Type} : DataW H → Nat
  | .lit (.string bytes) => bytes.length + 1
  | .lit _ => 1
  | .nil => 1
  | .ptr d => uptoBulk d + 1
  | .slice elems spare => uptoBulkAll elems + uptoBulkAll spare + 1
  | .agg parts => uptoBulkAll parts + 1
  | .iface _ d => uptoBulk d + 1
  | .map entries => uptoBulkEntries entries + 1
  | .held _ => 1
def uptoBulkAll {H : Type} : List (DataW H) → Nat
  | [] => 0
  | d :: r => uptoBulk d + uptoBulkAll r
def uptoBulkEntries {H : Type} : List (Lit × DataW H) → Nat
  | [] => 0
  | x :: r => uptoBulkEntry x + uptoBulkEntries r
def uptoBulkEntry {H : Type} : Lit × DataW H → Nat
  | (.string bytes, d) => bytes.length + uptoBulk d + 1
  | (_, d) => uptoBulk d + 1
 end
def uptoSmall : (H : Type) → List (DataW H) → Bool := fun _ ds => decide (uptoBulkAll ds ≤ 1048576)
def OpenSpec.upto (s : _root_.Go.ChangeSpec) : _root_.Go.OpenSpec := { _root_.Go.OpenSpec.ofChange s with cond := some uptoSmall }

/-- 'bradawllaw05.ArenaRooms', WHERE WHAT IT READS IS OF BULK AT MOST 1048576: true; the input reads as it did. -/
def arenaRoomsUptoRow : OpenClaim := { program := "ythekbpaekopmfaa", sum := "2acf228ef371b8fa8ff1d4b1476bcee521017d9d94d6823498530406148a7983", func := "bradawl/bradawllaw05.ArenaRooms", spec := "arenaRooms", apart := false, narrowed := true }
def ArenaRoomsUptoSaid : Prop := arenaRoomsUptoRow.holds Try.pinned (OpenSpec.upto arenaRoomsSpec)

/-- 'bradawllaw05.ArenaCompacts', WHERE WHAT IT READS IS OF BULK AT MOST 1048576: true; the input reads as it did. -/
def arenaCompactsUptoRow : OpenClaim := { program := "ythekbpaekopmfaa", sum := "2acf228ef371b8fa8ff1d4b1476bcee521017d9d94d6823498530406148a7983", func := "bradawl/bradawllaw05.ArenaCompacts", spec := "arenaCompacts", unfollowed := true, recurses := true, apart := false, narrowed := true }
def ArenaCompactsUptoSaid : Prop := arenaCompactsUptoRow.holds Try.pinned (OpenSpec.upto arenaCompactsSpec)

/-- 'bradawllaw05.ArenaAll', WHERE WHAT IT READS IS OF BULK AT MOST 1048576: true; the input reads as it did. -/
def arenaAllUptoRow : OpenClaim := { program := "ythekbpaekopmfaa", sum := "2acf228ef371b8fa8ff1d4b1476bcee521017d9d94d6823498530406148a7983", func := "bradawl/bradawllaw05.ArenaAll", spec := "arenaAll", unfollowed := true, recurses := true, apart := false, narrowed := true }
def ArenaAllUptoSaid : Prop := arenaAllUptoRow.holds Try.pinned (OpenSpec.upto arenaAllSpec)

/-- 'bradawllaw05.ArenaNone', WHERE WHAT IT READS IS OF BULK AT MOST 1048576: true; the input reads as it did. -/
def arenaNoneUptoRow : OpenClaim := { program := "ythekbpaekopmfaa", sum := "2acf228ef371b8fa8ff1d4b1476bcee521017d9d94d6823498530406148a7983", func := "bradawl/bradawllaw05.ArenaNone", spec := "arenaNone", apart := false, narrowed := true }
def ArenaNoneUptoSaid : Prop := arenaNoneUptoRow.holds Try.pinned (OpenSpec.upto arenaNoneSpec)

end Rows
end Go.Proofs.Ythekbpaekopmfaa
