/- Tails of slices of one's own, cutting and clearing. Conditions: those typed ahead of each theorem. -/
import Derived.Test.YtcofinjoehaefaaFn
import Derived.Test.YtcofinjoehaefaaPtS
namespace Go.Proofs.Ytcofinjoehaefaa
open Go.Pt
set_option linter.unusedVariables false
set_option linter.unusedSimpArgs false
/-- v2 is v from k on. -/
structure Tail (v v2 : Value) (n k : Nat) (bs : List Nat) : Prop where
  rd : ∀ {h : Heap} {xs : List Value}, Own h v xs bs → xs.length = n → Rd h v2 (xs.drop k)
  clr : ∀ {h : Heap} {xs : List Value} {K : Ret} {z : Value}, Own h v xs bs → xs.length = n → isCell z = true → (∀ h', Own h' v (xs.take k ++ List.replicate (n - k) z) bs → Fr bs h h' → K (.tuple #[]) h') → Clr #[z] v2 K h
end Go.Proofs.Ytcofinjoehaefaa
