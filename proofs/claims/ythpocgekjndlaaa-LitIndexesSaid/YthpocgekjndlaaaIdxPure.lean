/- For every two literals the program's Index, At, Var and Compare tell what the document says; no condition. -/
import Derived.Test.YthpocgekjndlaaaIdxWalk
set_option linter.unusedVariables false
set_option linter.unusedSimpArgs false
namespace Go.Proofs.Ythpocgekjndlaaa.Pure
open Go.RowKit Go.Proofs.Ythpocgekjndlaaa.PLitIndexes Go.Proofs.YthpocgekjndlaaaW.PrintWords Go.Proofs.YthpocgekjndlaaaW.PrintLast

theorem fit_true : bradawllaw01_fit.f = some true := by decide +kernel
theorem i64_mask (n : Int) (k : Nat) (hk : k < 63) : bits .and .i64 n ((2 ^ k - 1 : Nat) : Int) = n % ((2 ^ k : Nat) : Int) := by
  have hlt : 2 ^ k < 2 ^ 63 := Nat.pow_lt_pow_right (by omega) hk
  have hpos : 0 < 2 ^ k := Nat.two_pow_pos k
  have h127 : (BitVec.ofInt 64 ((2 ^ k - 1 : Nat) : Int)).toNat = 2 ^ k - 1 := by
    rw [BitVec.toNat_ofInt]; have : (2:Nat)^64 = 18446744073709551616 := by decide
    have : (2:Nat)^63 = 9223372036854775808 := by decide
    omega
  have key : (BitVec.ofInt 64 n &&& BitVec.ofInt 64 ((2 ^ k - 1 : Nat) : Int)).toNat = (n % ((2 ^ 64 : Nat) : Int)).toNat % 2 ^ k := by
    rw [BitVec.toNat_and, BitVec.toNat_ofInt, h127, Nat.and_two_pow_sub_one_eq_mod]
  show IntKind.i64.wrap ((BitVec.ofInt 64 n &&& BitVec.ofInt 64 ((2 ^ k - 1 : Nat) : Int)).toNat : Nat) = n % ((2 ^ k : Nat) : Int)
  rw [key, IntKind.wrap_i64]
  have h64 : ((n % ((2 ^ 64 : Nat) : Int)).toNat : Int) = n % ((2 ^ 64 : Nat) : Int) := Int.toNat_of_nonneg (by omega)
  have hd : ((2 ^ k : Nat) : Int) ∣ ((2 ^ 64 : Nat) : Int) := by exact_mod_cast Nat.pow_dvd_pow 2 (by omega)
  rw [Int.natCast_emod, h64, Int.emod_emod_of_dvd n hd]
  have h1 : 0 ≤ n % ((2 ^ k : Nat) : Int) := Int.emod_nonneg _ (by omega)
  have h2 : n % ((2 ^ k : Nat) : Int) < ((2 ^ k : Nat) : Int) := Int.emod_lt_of_pos _ (by omega)
  have : (2:Nat)^63 = 9223372036854775808 := by decide
  omega
theorem i64_and1 (n : Int) : bits .and .i64 n 1 = n % 2 := i64_mask n 1 (by decide)
theorem i64_and20 (n : Int) : bits .and .i64 n 1048575 = n % 1048576 := i64_mask n 20 (by decide)
def idx (x : Int) : Int := if x < 0 then -2 * x - 1 else 2 * x - 2
def lit (i : Int) : Int := if i % 2 = 1 then -(i / 2 + 1) else i / 2 + 1
theorem index_some (x : Int) (h1 : -100000 ≤ x) (h2 : x ≤ 100000) : lit_Index.f x = some (idx x) := by
  unfold lit_Index.f idx wrap64
  split
  · congr 1; omega
  · congr 1; omega
theorem at_some (i : Int) (h1 : 0 ≤ i) (h2 : i < 200000) : lit_At.f i = some (lit i) := by
  unfold lit_At.f lit
  have e : Int.tdiv i 2 = i / 2 := Int.tdiv_eq_ediv_of_nonneg h1
  rw [i64_and1, e]; unfold wrap64
  split
  · congr 1; omega
  · congr 1; omega
theorem var_some (x : Int) (h1 : -100000 ≤ x) (h2 : x ≤ 100000) : lit_Var.f x = some (if x < 0 then -x else x) := by
  unfold lit_Var.f mx wrap64
  congr 1
  (repeat' split) <;> omega
theorem compare_some (x y : Int) (h1 : -100000 ≤ x) (h2 : x ≤ 100000) (h3 : -100000 ≤ y) (h4 : y ≤ 100000) : lit_Compare.f x y = some (if idx x < idx y then -1 else if idx x > idx y then 1 else 0) := by
  unfold lit_Compare.f
  rw [index_some x h1 h2, index_some y h3 h4]
  simp only [Option.bind_some]
  unfold cmp_Compare_int.f cmp_isNaN_int.f
  simp only [Option.bind_some, bne_self_eq_false, Bool.false_eq_true, if_false]
  (repeat' split) <;> rfl
theorem Lit_some (n : Int) : ∃ v, bradawllaw01_Lit.f n = some v ∧ v ≠ 0 ∧ -100000 ≤ v ∧ v ≤ 100000 := by
  unfold bradawllaw01_Lit.f
  have e : Int.tmod ((n / 2) % 1048576) 100000 = ((n / 2) % 1048576) % 100000 := Int.tmod_eq_emod_of_nonneg (by omega)
  rw [i64_and1, i64_and20, e]
  unfold wrap64
  split
  · exact ⟨_, rfl, by omega, by omega, by omega⟩
  · exact ⟨_, rfl, by omega, by omega, by omega⟩
theorem xx (a : Nat) : (a ^^^ 1) % 2 = 1 - a % 2 ∧ (a ^^^ 1) / 2 = a / 2 := by
  constructor
  · have h := Nat.xor_mod_two_pow (a := a) (b := 1) (n := 1)
    simp at h
    rw [h]
    have : a % 2 = 0 ∨ a % 2 = 1 := by omega
    rcases this with h | h <;> rw [h] <;> decide
  · have h := Nat.xor_div_two (a := a) (b := 1)
    simpa using h
theorem xor1 (i : Int) (h1 : 0 ≤ i) (h2 : i < 1000000) : bits .xor .i64 i 1 = if i % 2 = 0 then i + 1 else i - 1 := by
  obtain ⟨a, rfl⟩ := Int.eq_ofNat_of_zero_le h1
  have hb : bits .xor .i64 (a : Int) ((1 : Nat) : Int) = ((a ^^^ 1 : Nat) : Int) := by
    have ha : (BitVec.ofInt 64 (a : Int)).toNat = a := by rw [BitVec.toNat_ofInt]; omega
    have h1' : (BitVec.ofInt 64 ((1 : Nat) : Int)).toNat = 1 := by decide
    have hx : a ^^^ 1 < 2 ^ 20 := Nat.xor_lt_two_pow (by omega) (by decide)
    show IntKind.i64.wrap ((BitVec.ofInt 64 (a : Int) ^^^ BitVec.ofInt 64 ((1 : Nat) : Int)).toNat : Nat) = _
    rw [BitVec.toNat_xor, ha, h1', IntKind.wrap_i64]
    omega
  rw [show (1 : Int) = ((1 : Nat) : Int) from rfl, hb]
  obtain ⟨hm, hd⟩ := xx a
  split <;> omega
theorem j1_true (k : Nat) (x y : Int) (h1 : -100000 ≤ x) (h2 : x ≤ 100000) (h3 : -100000 ≤ y) (h4 : y ≤ 100000) (h5 : x ≠ 0) (h6 : y ≠ 0) :
    bradawllaw01_LitIndexes.j1 (k + 1) x y (idx x) false = some true := by
  simp only [bradawllaw01_LitIndexes.j1, Bool.false_eq_true, if_false]
  rw [index_some y h3 h4, compare_some x y h1 h2 h3 h4]
  simp only [Option.bind_some]
  have e : (idx x == idx y) = (x == y) := by
    rw [Bool.eq_iff_iff, beq_iff_eq, beq_iff_eq]; unfold idx; constructor
    · intro h; (repeat' split at h) <;> omega
    · rintro rfl; rfl
  rw [e]
  simp only [BEq.rfl, if_true]
  by_cases ha : idx x < idx y
  · rw [if_pos ha, if_pos ha]; rfl
  · rw [if_neg ha, if_neg ha]
    by_cases hb : idx x > idx y
    · rw [if_pos hb, if_pos hb]; rfl
    · rw [if_neg hb, if_neg hb]; rfl
theorem j0_true (x y : Int) (h1 : -100000 ≤ x) (h2 : x ≤ 100000) (h3 : -100000 ≤ y) (h4 : y ≤ 100000) (h5 : x ≠ 0) (h6 : y ≠ 0) :
    bradawllaw01_LitIndexes.j0 2 x y (idx x) = some true := by
  have e1 : wrap64 (-x) = -x := by unfold wrap64; omega
  have hi : 0 ≤ idx x ∧ idx x < 200000 := by unfold idx; split <;> omega
  have e2 : idx (-x) = bits .xor .i64 (idx x) 1 := by
    rw [xor1 _ (by omega) (by omega)]; unfold idx; (repeat' split) <;> omega
  have e3 : lit (idx x) = x := by unfold lit idx; (repeat' split) <;> omega
  have e4 : mx x (-x) = if x < 0 then -x else x := by unfold mx; (repeat' split) <;> omega
  simp only [bradawllaw01_LitIndexes.j0]
  rw [index_some x h1 h2]; simp only [Option.bind_some, if_true]
  rw [at_some _ hi.1 hi.2]; simp only [Option.bind_some, e3, if_true, e1]
  rw [index_some _ (by omega) (by omega)]; simp only [Option.bind_some]
  rw [if_pos e2, var_some x h1 h2]; simp only [Option.bind_some]
  rw [if_pos e4.symm, var_some (-x) (by omega) (by omega)]; simp only [Option.bind_some]
  have e5 : ((if -x < 0 then - -x else -x) != (if x < 0 then -x else x)) = false := by
    rw [bne_eq_false_iff_eq]; (repeat' split) <;> omega
  rw [e5]
  exact j1_true 0 x y h1 h2 h3 h4 h5 h6
theorem LitIndexes : bradawllaw01_LitIndexes.Pure := by
  intro a0 a1 w0 w1
  refine ⟨2, ?_⟩
  obtain ⟨x, hx, x0, x1, x2⟩ := Lit_some a0
  obtain ⟨y, hy, y0, y1, y2⟩ := Lit_some a1
  unfold bradawllaw01_LitIndexes.f
  rw [fit_true]
  simp only [Option.bind_some, if_true, hx, hy]
  have hj := j0_true x y x1 x2 y1 y2 x0 y0
  split
  · have e : wrap64 (wrap64 (wrap64 (2 * mx x (wrap64 (-x))) - 2) + 1) = idx x := by
      unfold mx wrap64 idx; (repeat' split) <;> omega
    rw [e]; exact hj
  · have e : wrap64 (wrap64 (2 * mx x (wrap64 (-x))) - 2) = idx x := by
      unfold mx wrap64 idx; (repeat' split) <;> omega
    rw [e]; exact hj

end Go.Proofs.Ythpocgekjndlaaa.Pure
