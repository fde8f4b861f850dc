/- For every literal and every number of variables the program's Right tells just what the document says; no condition. -/
import Derived.Test.YthpocgekjndlaaaPLitRightsx1
namespace Go.Proofs.Ythpocgekjndlaaa.Pure
open Go.RowKit Go.Proofs.Ythpocgekjndlaaa.PLitRights Go.Proofs.YthpocgekjndlaaaW.PrintWords Go.Proofs.YthpocgekjndlaaaW.PrintLast

theorem fit_true : bradawllaw01_fit.f = some true := by decide +kernel
theorem right_some (a0 a1 : Int) : lit_Right.f a0 a1 = some (decide (a0 ≠ 0 ∧ a0 ≤ mn (mx a1 0) 100000 ∧ a0 ≥ -(mn (mx a1 0) 100000))) := by
  unfold lit_Right.f
  by_cases h : a0 = 0
  · rw [if_pos h]; simp [h]
  · rw [if_neg h]
    by_cases h2 : a0 ≤ mn (mx a1 0) 100000
    · rw [if_pos h2]; simp [h, h2]
    · rw [if_neg h2]; simp [h2]
theorem LitRights : bradawllaw01_LitRights.Pure := by
  intro a0 a1 w0 w1
  have b0 : -9223372036854775808 ≤ a0 ∧ a0 < 9223372036854775808 := by have := w0; simp [Lit.wf, IntKind.min, IntKind.max, IntKind.bits, IntKind.signed] at this; omega
  unfold bradawllaw01_LitRights.f
  rw [fit_true]
  simp only [Option.bind_some, if_true, right_some]
  unfold mn mx wrap64
  split
  · split
    · congr 1; rw [beq_iff_eq, decide_eq_decide]; (repeat' split) <;> omega
    · congr 1; rw [beq_iff_eq, decide_eq_false_iff_not]; (repeat' split) <;> omega
  · split
    · split
      · split
        · congr 1; rw [beq_iff_eq, decide_eq_decide]; (repeat' split) <;> omega
        · congr 1; rw [beq_iff_eq, decide_eq_false_iff_not]; (repeat' split) <;> omega
      · congr 1; rw [beq_iff_eq, decide_eq_false_iff_not]; (repeat' split) <;> omega
    · congr 1; rw [beq_iff_eq, decide_eq_false_iff_not]; (repeat' split) <;> omega

end Go.Proofs.Ythpocgekjndlaaa.Pure
