/- What some functions of this seat compute (RngSteps), over their texts in primitives. Conditions: those typed ahead of each theorem. -/
import Derived.Test.YtjpgmchfbhjgaaaRng2
import Derived.Test.YtjpgmchfbhjgaaaPtP
namespace Go.Proofs.Ytjpgmchfbhjgaaa
open Go.Pt
set_option linter.unusedVariables false
set_option linter.unusedSimpArgs false
theorem u64_arg {h : Heap} {a : Int} {v : Value} (r : (rInt .u64).is h a [v]) : v = U (BitVec.ofInt 64 a) := by
  obtain ⟨e, h1, h2⟩ := r
  have e' : v = .int .u64 a := by simpa using e
  have h1' : (0 : Int) ≤ a := h1
  have h2' : a ≤ 18446744073709551615 := h2
  rw [e', U, BitVec.toNat_ofInt]
  congr 1
  omega
theorem bradawllaw09_RngSteps.law {h : Heap} {a0 a1 : Int} {v0 v1 : Value} (r0 : (rInt .u64).is h a0 [v0]) (r1 : (rInt .u64).is h a1 [v1]) :
    CallH Try.prog bradawllaw09_RngSteps.id #[v0, v1] (fun v h' => v = .bool true ∧ Fr [] h h') h := by
  rw [u64_arg r0, u64_arg r1]
  exact bradawllaw09_RngSteps.spec _ _ fun h' f => ⟨rfl, f⟩
end Go.Proofs.Ytjpgmchfbhjgaaa
