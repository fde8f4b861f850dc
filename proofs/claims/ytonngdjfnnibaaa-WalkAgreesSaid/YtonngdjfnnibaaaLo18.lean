/- The way to a state and to the clauses in one form. Conditions: those typed ahead of each theorem. -/
import Derived.Test.YtonngdjfnnibaaaLo17
namespace Go.Proofs.Ytonngdjfnnibaaa
open Go.Pt
set_option linter.unusedVariables false
set_option linter.unusedSimpArgs false
end Go.Proofs.Ytonngdjfnnibaaa
