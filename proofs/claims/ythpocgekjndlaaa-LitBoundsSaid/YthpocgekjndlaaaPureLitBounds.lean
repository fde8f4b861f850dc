/- For every 16 bit number: the indexes at both ends are those of literals, in order; no condition. -/
import Derived.Test.YthpocgekjndlaaaPLitBoundsx1
namespace Go.Proofs.Ythpocgekjndlaaa.Pure
open Go.RowKit Go.Proofs.Ythpocgekjndlaaa.PLitBounds Go.Proofs.YthpocgekjndlaaaW.PrintWords Go.Proofs.YthpocgekjndlaaaW.PrintLast

theorem fit_true : bradawllaw01_fit.f = some true := by decide +kernel
theorem i64_mask (n : Int) (k : Nat) (hk : k < 63) : bits .and .i64 n ((2 ^ k - 1 : Nat) : Int) = n % ((2 ^ k : Nat) : Int) := by
  have hlt : 2 ^ k < 2 ^ 63 := Nat.pow_lt_pow_right (by omega) hk
  have hpos : 0 < 2 ^ k := Nat.two_pow_pos k
  have h127 : (BitVec.ofInt 64 ((2 ^ k - 1 : Nat) : Int)).toNat = 2 ^ k - 1 := by
    rw [BitVec.toNat_ofInt]; have : (2:Nat)^64 = 18446744073709551616 := by decide
    have : (2:Nat)^63 = 9223372036854775808 := by decide
    omega
  have key : (BitVec.ofInt 64 n &&& BitVec.ofInt 64 ((2 ^ k - 1 : Nat) : Int)).toNat = (n % ((2 ^ 64 : Nat) : Int)).toNat % 2 ^ k := by
    rw [BitVec.toNat_and, BitVec.toNat_ofInt, h127, Nat.and_two_pow_sub_one_eq_mod]
  show IntKind.i64.wrap ((BitVec.ofInt 64 n &&& BitVec.ofInt 64 ((2 ^ k - 1 : Nat) : Int)).toNat : Nat) = n % ((2 ^ k : Nat) : Int)
  rw [key, IntKind.wrap_i64]
  have h64 : ((n % ((2 ^ 64 : Nat) : Int)).toNat : Int) = n % ((2 ^ 64 : Nat) : Int) := Int.toNat_of_nonneg (by omega)
  have hd : ((2 ^ k : Nat) : Int) ∣ ((2 ^ 64 : Nat) : Int) := by exact_mod_cast Nat.pow_dvd_pow 2 (by omega)
  rw [Int.natCast_emod, h64, Int.emod_emod_of_dvd n hd]
  have h1 : 0 ≤ n % ((2 ^ k : Nat) : Int) := Int.emod_nonneg _ (by omega)
  have h2 : n % ((2 ^ k : Nat) : Int) < ((2 ^ k : Nat) : Int) := Int.emod_lt_of_pos _ (by omega)
  have : (2:Nat)^63 = 9223372036854775808 := by decide
  omega
theorem i64_and1 (n : Int) : bits .and .i64 n 1 = n % 2 := i64_mask n 1 (by decide)
theorem i64_and20 (n : Int) : bits .and .i64 n 1048575 = n % 1048576 := i64_mask n 20 (by decide)
def idx (x : Int) : Int := if x < 0 then -2 * x - 1 else 2 * x - 2
def lit (i : Int) : Int := if i % 2 = 1 then -(i / 2 + 1) else i / 2 + 1
theorem index_some (x : Int) (h1 : -100000 ≤ x) (h2 : x ≤ 100000) : lit_Index.f x = some (idx x) := by
  unfold lit_Index.f idx wrap64
  split
  · congr 1; omega
  · congr 1; omega
theorem at_some (i : Int) (h1 : 0 ≤ i) (h2 : i < 200000) : lit_At.f i = some (lit i) := by
  unfold lit_At.f lit
  have e : Int.tdiv i 2 = i / 2 := Int.tdiv_eq_ediv_of_nonneg h1
  rw [i64_and1, e]; unfold wrap64
  split
  · congr 1; omega
  · congr 1; omega
theorem var_some (x : Int) (h1 : -100000 ≤ x) (h2 : x ≤ 100000) : lit_Var.f x = some (if x < 0 then -x else x) := by
  unfold lit_Var.f mx wrap64
  congr 1
  (repeat' split) <;> omega
theorem compare_some (x y : Int) (h1 : -100000 ≤ x) (h2 : x ≤ 100000) (h3 : -100000 ≤ y) (h4 : y ≤ 100000) : lit_Compare.f x y = some (if idx x < idx y then -1 else if idx x > idx y then 1 else 0) := by
  unfold lit_Compare.f
  rw [index_some x h1 h2, index_some y h3 h4]
  simp only [Option.bind_some]
  unfold cmp_Compare_int.f cmp_isNaN_int.f
  simp only [Option.bind_some, bne_self_eq_false, Bool.false_eq_true, if_false]
  (repeat' split) <;> rfl
theorem right_some (x v : Int) : lit_Right.f x v = some (decide (x ≠ 0 ∧ x ≤ mn (mx v 0) 100000 ∧ x ≥ -(mn (mx v 0) 100000))) := by
  unfold lit_Right.f
  by_cases h : x = 0
  · rw [if_pos h]; simp [h]
  · rw [if_neg h]
    by_cases h2 : x ≤ mn (mx v 0) 100000
    · rw [if_pos h2]; simp [h, h2]
    · rw [if_neg h2]; simp [h2]
theorem end_true (k : Nat) (n : Int) (l : List Int) (h0 : 0 ≤ n) (h1 : n < 65536) (i m : Int) (h : ¬ i < m) : bradawllaw01_LitBounds.l0 (k + 1) n l m i = some true := by
  simp only [bradawllaw01_LitBounds.l0]
  rw [if_neg h]
  have e1 : wrap64 (n + 1) = n + 1 := by unfold wrap64; omega
  have e2 : wrap64 (wrap64 (-n) - 1) = -n - 1 := by unfold wrap64; omega
  have r1 : lit_Right.f (n + 1) n = some false := by
    rw [right_some]; congr 1; rw [decide_eq_false_iff_not]; unfold mn mx; (repeat' split) <;> omega
  have r2 : lit_Right.f (n + 1) (n + 1) = some true := by
    rw [right_some]; congr 1; rw [decide_eq_true_iff]; unfold mn mx; (repeat' split) <;> omega
  have r3 : lit_Right.f (-n - 1) (n + 1) = some true := by
    rw [right_some]; congr 1; rw [decide_eq_true_iff]; unfold mn mx; (repeat' split) <;> omega
  rw [e1, e2, r1, r2, r3]; rfl
theorem round_step (k : Nat) (n : Int) (l : List Int) (m j v : Int) (hj : 0 ≤ j) (hjm : j < m) (hjl : j < (l.length : Int)) (hv : rd l j = v) (h0 : 0 ≤ v) (h1 : v < 200000) :
    bradawllaw01_LitBounds.l0 (k + 2) n l m j = bradawllaw01_LitBounds.l0 k n l m (wrap64 (j + 1)) := by
  have hl : -100000 ≤ lit v ∧ lit v ≤ 100000 ∧ lit v ≠ 0 := by unfold lit; split <;> omega
  have ei : idx (lit v) = v := by unfold idx lit; (repeat' split) <;> omega
  have r1 : lit_Right.f (lit v) 100000 = some true := by
    rw [right_some]; congr 1; rw [decide_eq_true_iff]; unfold mn mx; (repeat' split) <;> omega
  have et : Int.tdiv v 2 = v / 2 := Int.tdiv_eq_ediv_of_nonneg h0
  have em : Int.tmod v 2 = v % 2 := Int.tmod_eq_emod_of_nonneg h0
  have ew : wrap64 (wrap64 (v / 2) + 1) = v / 2 + 1 := by unfold wrap64; omega
  have ev : (if lit v < 0 then -lit v else lit v) = v / 2 + 1 := by unfold lit; (repeat' split) <;> omega
  have eb : ((decide (lit v < 0)) != (v % 2 == 1)) = false := by
    rw [bne_eq_false_iff_eq, Bool.eq_iff_iff, decide_eq_true_iff, beq_iff_eq]; unfold lit; split <;> omega
  simp only [bradawllaw01_LitBounds.l0]
  rw [if_pos hjm, if_pos hj, if_pos hjl, hv, at_some v h0 h1]
  simp only [Option.bind_some, r1, if_true]
  rw [index_some _ hl.1 hl.2.1]
  simp only [Option.bind_some]
  rw [if_pos ei, var_some _ hl.1 hl.2.1]
  simp only [Option.bind_some, et, em, ew, ev, if_true, eb]
  simp only [bradawllaw01_LitBounds.j1, Bool.false_eq_true, if_false]
  by_cases hp : v > 0
  · rw [if_pos hp]
    have e1 : wrap64 (v - 1) = v - 1 := by unfold wrap64; omega
    have hl2 : -100000 ≤ lit (v - 1) ∧ lit (v - 1) ≤ 100000 ∧ lit (v - 1) ≠ 0 := by unfold lit; split <;> omega
    have ei2 : idx (lit (v - 1)) = v - 1 := by unfold idx lit; (repeat' split) <;> omega
    rw [e1, at_some _ (by omega) (by omega)]
    simp only [Option.bind_some]
    rw [compare_some _ _ hl2.1 hl2.2.1 hl.1 hl.2.1, ei, ei2]
    simp only [Option.bind_some]
    rw [if_pos (show v - 1 < v by omega)]
    rfl
  · rw [if_neg hp]
theorem LitBounds : bradawllaw01_LitBounds.Pure := by
  intro a0 w0
  have b0 : 0 ≤ a0 ∧ a0 < 65536 := by have := w0; simp [Lit.wf, IntKind.min, IntKind.max, IntKind.bits, IntKind.signed] at this; omega
  refine ⟨5, ?_⟩
  unfold bradawllaw01_LitBounds.f
  rw [fit_true]
  simp only [Option.bind_some, if_true, List.length_cons, List.length_nil]
  have e1 : wrap64 a0 = a0 := by unfold wrap64; omega
  have e2 : wrap64 (199999 - a0) = 199999 - a0 := by unfold wrap64; omega
  rw [e1, e2]
  rw [round_step 3 a0 _ _ 0 a0 (by omega) (by decide) (by simp) rfl b0.1 (by omega)]
  rw [show wrap64 (0 + 1) = 1 from by decide +kernel]
  rw [round_step 1 a0 _ _ 1 (199999 - a0) (by decide) (by decide) (by simp) rfl (by omega) (by omega)]
  rw [show wrap64 (1 + 1) = 2 from by decide +kernel]
  exact end_true 0 a0 _ b0.1 b0.2 _ _ (by decide)

end Go.Proofs.Ythpocgekjndlaaa.Pure
