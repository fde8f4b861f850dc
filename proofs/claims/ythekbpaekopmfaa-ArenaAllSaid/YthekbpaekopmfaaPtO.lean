/- The words of 64 bits without sign as bit vectors. No condition. -/
import Derived.Test.YthekbpaekopmfaaPtN
namespace Go.Pt
set_option linter.unusedVariables false
set_option linter.unusedSimpArgs false

/-! ### 64 bits without a sign -/
abbrev W64 := BitVec 64
/-- A word as a value. -/
def U (x : W64) : Value := .int .u64 (x.toNat : Int)
theorem wrap_u64 (n : Int) : IntKind.u64.wrap n = n % 18446744073709551616 := by simp [IntKind.wrap, IntKind.bits, IntKind.signed]
theorem U_lit (n : Nat) (h : n < 18446744073709551616) : Value.int .u64 (n : Int) = U (BitVec.ofNat 64 n) := by
  unfold U; rw [BitVec.toNat_ofNat, Nat.mod_eq_of_lt (by omega)]
theorem ofInt_toNat (x : W64) : BitVec.ofInt 64 (x.toNat : Int) = x := by
  apply BitVec.eq_of_toNat_eq
  rw [BitVec.toNat_ofInt]
  have := x.isLt
  omega
theorem bits_back (r : W64) : IntKind.u64.wrap (r.toNat : Int) = (r.toNat : Int) := by
  rw [wrap_u64]; have := r.isLt; omega
section
variable {K : Ret} {h : Heap} (c : Cls) (x y : W64)
theorem U_xor : Bin c .xor (U x) (U y) K h = K (U (x ^^^ y)) h := by
  unfold U; rw [Bin_xor]; congr 2
  show IntKind.u64.wrap ((BitVec.ofInt 64 (x.toNat : Int) ^^^ BitVec.ofInt 64 (y.toNat : Int)).toNat : Int) = _
  rw [ofInt_toNat, ofInt_toNat, bits_back]
theorem U_or : Bin c .or (U x) (U y) K h = K (U (x ||| y)) h := by
  unfold U; rw [Bin_or]; congr 2
  show IntKind.u64.wrap ((BitVec.ofInt 64 (x.toNat : Int) ||| BitVec.ofInt 64 (y.toNat : Int)).toNat : Int) = _
  rw [ofInt_toNat, ofInt_toNat, bits_back]
theorem U_and : Bin c .and (U x) (U y) K h = K (U (x &&& y)) h := by
  unfold U; rw [Bin_and]; congr 2
  show IntKind.u64.wrap ((BitVec.ofInt 64 (x.toNat : Int) &&& BitVec.ofInt 64 (y.toNat : Int)).toNat : Int) = _
  rw [ofInt_toNat, ofInt_toNat, bits_back]
theorem U_shl (k : IntKind) (n : Nat) : Bin c .shl (U x) (.int k n) K h = K (U (x <<< n)) h := by
  unfold U; rw [Bin_shl _ _ _ _ _ (by omega)]; congr 2
  rw [wrap_u64, Int.toNat_natCast, BitVec.toNat_shiftLeft, Nat.shiftLeft_eq]
  have hb : IntKind.u64.bits = 64 := rfl
  rw [hb]
  rcases Nat.lt_or_ge n 64 with hl | hl
  · rw [Nat.min_eq_left (by omega), Int.natCast_emod, Int.natCast_mul, Int.natCast_pow]
    rfl
  · rw [Nat.min_eq_right hl]
    have e : x.toNat * 2 ^ n % 2 ^ 64 = 0 := by
      rw [show n = 64 + (n - 64) from by omega, Nat.pow_add, ← Nat.mul_assoc, Nat.mul_right_comm]
      exact Nat.mul_mod_left _ _
    rw [e]
    have : (x.toNat : Int) * 2 ^ 64 % 18446744073709551616 = 0 := Int.mul_emod_left _ _
    rw [this]; rfl
theorem U_shr (k : IntKind) (n : Nat) : Bin c .shr (U x) (.int k n) K h = K (U (x >>> n)) h := by
  unfold U; rw [Bin_shr _ _ _ _ _ (by omega)]; congr 2
  rw [Int.toNat_natCast, BitVec.toNat_ushiftRight, Nat.shiftRight_eq_div_pow]
  have hb : IntKind.u64.bits = 64 := rfl
  rw [hb]
  have hx := x.isLt
  rcases Nat.lt_or_ge n 64 with hl | hl
  · have h2 : (0 : Int) ≤ 2 ^ n := Int.le_of_lt (Int.pow_pos (by omega))
    rw [Nat.min_eq_left (by omega), Int.fdiv_eq_ediv_of_nonneg _ h2, Int.natCast_ediv, Int.natCast_pow]
    rfl
  · rw [Nat.min_eq_right hl, Int.fdiv_eq_ediv_of_nonneg _ (by omega)]
    have e1 : x.toNat / 2 ^ n = 0 := Nat.div_eq_of_lt (Nat.lt_of_lt_of_le hx (Nat.pow_le_pow_right (by omega) hl))
    have e2 : (x.toNat : Int) / 2 ^ 64 = 0 := Int.ediv_eq_zero_of_lt (by omega) (by omega)
    rw [e1, e2]; rfl
theorem U_eql : Bin c .eql (U x) (U y) K h = K (.bool (x == y)) h := by
  unfold U; rw [Bin_eql]; congr 2
  rw [Bool.eq_iff_iff, beq_iff_eq, beq_iff_eq]
  exact ⟨fun e => BitVec.eq_of_toNat_eq (by omega), fun e => by rw [e]⟩
theorem U_neq : Bin c .neq (U x) (U y) K h = K (.bool (x != y)) h := by
  unfold U; rw [Bin_neq]; congr 2
  rw [Bool.eq_iff_iff, bne_iff_ne, bne_iff_ne]
  exact ⟨fun e hx => e (by rw [hx]), fun e hx => e (BitVec.eq_of_toNat_eq (by omega))⟩
theorem U_mul : Bin c .mul (U x) (U y) K h = K (U (x * y)) h := by
  unfold U; rw [Bin_mul]; congr 2
theorem U_quo (hy : y ≠ 0) : Bin c .quo (U x) (U y) K h = K (U (x / y)) h := by
  unfold U
  have hy' : (y.toNat : Int) ≠ 0 := fun e => hy (BitVec.eq_of_toNat_eq (by rw [show (0 : W64).toNat = 0 from rfl]; omega))
  rw [Bin_quo _ _ _ _ hy']; congr 2
  rw [wrap_u64, BitVec.toNat_udiv, Int.tdiv_eq_ediv_of_nonneg (by omega)]
  have h1 := Nat.div_le_self x.toNat y.toNat
  have h2 := x.isLt
  rw [← Int.natCast_ediv]
  generalize x.toNat / y.toNat = q at *
  omega
theorem U_rem (hy : y ≠ 0) : Bin c .rem (U x) (U y) K h = K (U (x % y)) h := by
  unfold U
  have hy' : (y.toNat : Int) ≠ 0 := fun e => hy (BitVec.eq_of_toNat_eq (by rw [show (0 : W64).toNat = 0 from rfl]; omega))
  rw [Bin_rem _ _ _ _ hy']; congr 2
theorem U_not : Un .xor (U x) K h = K (U (~~~x)) h := by
  unfold U; rw [Un_xor]; congr 2
  show IntKind.u64.wrap ((BitVec.ofInt 64 (if IntKind.u64.signed then -1 else IntKind.u64.max) ^^^ BitVec.ofInt 64 (x.toNat : Int)).toNat : Int) = _
  rw [ofInt_toNat]
  have e : BitVec.ofInt 64 (if IntKind.u64.signed then -1 else IntKind.u64.max) = BitVec.allOnes 64 := by decide +kernel
  rw [e, BitVec.allOnes_xor, bits_back]
end
theorem U_cell (x : W64) : isCell (U x) = true := rfl
end Go.Pt
