/- Is a state as an assignment makes it. Conditions: those typed ahead of each theorem. -/
import Derived.Test.YtonngdjfnnibaaaLo15
namespace Go.Proofs.Ytonngdjfnnibaaa
open Go.Pt
set_option linter.unusedVariables false
set_option linter.unusedSimpArgs false
theorem GF.take {n : Nat} {F : List (List Int)} (h : GF n F) (i : Nat) : GF n (F.take i) := fun c hc => h c (List.mem_of_mem_take hc)
end Go.Proofs.Ytonngdjfnnibaaa
