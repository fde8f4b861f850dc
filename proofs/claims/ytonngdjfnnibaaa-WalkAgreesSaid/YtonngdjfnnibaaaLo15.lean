/- What the laws reckon anew, plain, and holding. Conditions: those typed ahead of each theorem. -/
import Derived.Test.YtonngdjfnnibaaaLo14
namespace Go.Proofs.Ytonngdjfnnibaaa
open Go.Pt
set_option linter.unusedVariables false
set_option linter.unusedSimpArgs false
/-- How many literals of a variable hold. -/
def cnT (a : List Bool) (c : List Int) (v : Nat) : Int := wsm (fun x => litT a x && (x.natAbs == v)) (fun _ => 1) c
section
variable {a : List Bool} {F : List (List Int)} {i : Nat} {C : List Int} (hC : F[i]? = some C)
include hC
end
/-- The clauses that don't hold, of the first. -/
def unL (a : List Bool) (F : List (List Int)) (i : Nat) : List Nat := (List.range i).filter fun q => decide (hB (litT a) (F.getD q []) = 0)
end Go.Proofs.Ytonngdjfnnibaaa
