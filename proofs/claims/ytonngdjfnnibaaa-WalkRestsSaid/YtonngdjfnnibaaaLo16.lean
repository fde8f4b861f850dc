/- Is a state as an assignment makes it. Conditions: those typed ahead of each theorem. -/
import Derived.Test.YtonngdjfnnibaaaLo15
namespace Go.Proofs.Ytonngdjfnnibaaa
open Go.Pt
set_option linter.unusedVariables false
set_option linter.unusedSimpArgs false
theorem GF.take {n : Nat} {F : List (List Int)} (h : GF n F) (i : Nat) : GF n (F.take i) := fun c hc => h c (List.mem_of_mem_take hc)
theorem hB_single (a : List Bool) (x : Int) : hB (litT a) [x] = if litT a x then 1 else 0 := by
  have := hB_snoc (litT a) [] x
  rw [List.nil_append] at this
  rw [this, show hB (litT a) [] = 0 from rfl, Int.zero_add]
theorem max_abs (x : Int) : max x (-x) = (x.natAbs : Nat) := by omega
end Go.Proofs.Ytonngdjfnnibaaa
