/- What a turn breaks and makes, plain. No condition. -/
import Derived.Test.YtonngdjfnnibaaaLo16
namespace Go.Proofs.Ytonngdjfnnibaaa
open Go.Pt
set_option linter.unusedVariables false
set_option linter.unusedSimpArgs false
section
variable {a : List Bool} {v n : Nat} {c : List Int} (hc : ClOk n c) (nd : c.Nodup) (h1 : 1 ≤ v) (h2 : v - 1 < a.length)
def uC (a : List Bool) (c : List Int) : Int := if hB (litT a) c = 0 then 1 else 0
def bC (a : List Bool) (v : Nat) (c : List Int) : Int := if hB (litT a) c = 1 ∧ sB (litT a) c = (v : Nat) then 1 else 0
def kC (a : List Bool) (v : Nat) (c : List Int) : Int := if hB (litT a) c = 0 then cntV c v else 0
include hc nd h1 h2
end
def NTaut (F : List (List Int)) : Prop := ∀ c ∈ F, ∀ x, ¬ (x ∈ c ∧ -x ∈ c)
end Go.Proofs.Ytonngdjfnnibaaa
