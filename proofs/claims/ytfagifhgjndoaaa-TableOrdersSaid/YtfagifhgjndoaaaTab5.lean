/- What the laws of the table reckon themselves: a kind and a base of raw numbers, and a weight. Conditions: those typed ahead of each theorem. -/
import Derived.Test.YtfagifhgjndoaaaTab4
namespace Go.Proofs.Ytfagifhgjndoaaa
open Go.Pt
set_option linter.unusedVariables false
set_option linter.unusedSimpArgs false
def mKind (e : Bool) : Int := if e then 1 else 0
def mBase (e : Bool) (b : Int) : Int := if e then 17 + b % 240 else 1 + b % 64
theorem made_fits (e : Bool) (b : Int) : Fits (mKind e) (mBase e b) := by
  cases e
  · exact .inl ⟨rfl, by show 1 ≤ 1 + b % 64; omega, by show 1 + b % 64 ≤ 64; omega⟩
  · exact .inr ⟨rfl, by show 17 ≤ 17 + b % 240; omega, by show 17 + b % 240 ≤ 256; omega⟩
theorem bradawllaw11_made.spec (e : Bool) (b : Int) (h0 : 0 ≤ b) (h1 : b ≤ 255) {K : Ret} {h : Heap} (hk : K (.tuple #[Iv (mKind e), Iv (mBase e b)]) h) : CallH Try.prog bradawllaw11_made.id #[.bool e, .int .u8 b] K h := by
  refine bradawllaw11_made.ok ?_
  have w0 : IntKind.i64.wrap b = b := by rw [IntKind.wrap_i64]; omega
  simp only [bradawllaw11_made.pt, Cvt_int, w0, go, Mv, NilC_at, Fld_at, add_mk, Nat.zero_add, Nat.add_zero, Bin_add, Bin_sub, Bin_mul, Bin_eql, Bin_neq, Bin_lss, Bin_leq, Bin_gtr, Bin_geq, Bin_bool_eql, Bin_bool_neq, Bin_ptr_nil_eql, Bin_ptr_nil_neq, Un_not, Pick_bool, Gd_bool, Gd_undef, If_bool, CallF_eq, MaxV_two, MinV_two, if_true, if_false, Bool.false_eq_true, Bool.true_eq_false, Bool.not_true, Bool.not_false, BEq.rfl]
  cases e
  · simp only [go, Mv, NilC_at, Fld_at, add_mk, Nat.zero_add, Nat.add_zero, Bin_add, Bin_sub, Bin_mul, Bin_eql, Bin_neq, Bin_lss, Bin_leq, Bin_gtr, Bin_geq, Bin_bool_eql, Bin_bool_neq, Bin_ptr_nil_eql, Bin_ptr_nil_neq, Un_not, Pick_bool, Gd_bool, Gd_undef, If_bool, CallF_eq, MaxV_two, MinV_two, if_true, if_false, Bool.false_eq_true, Bool.true_eq_false, Bool.not_true, Bool.not_false, BEq.rfl]
    rw [Bin_rem _ _ _ _ (by decide), Int.tmod_eq_emod_of_nonneg h0]
    have w1 : IntKind.i64.wrap (1 + b % 64) = 1 + b % 64 := by rw [IntKind.wrap_i64]; omega
    simp only [w1, go, Mv, NilC_at, Fld_at, add_mk, Nat.zero_add, Nat.add_zero, Bin_add, Bin_sub, Bin_mul, Bin_eql, Bin_neq, Bin_lss, Bin_leq, Bin_gtr, Bin_geq, Bin_bool_eql, Bin_bool_neq, Bin_ptr_nil_eql, Bin_ptr_nil_neq, Un_not, Pick_bool, Gd_bool, Gd_undef, If_bool, CallF_eq, MaxV_two, MinV_two, if_true, if_false, Bool.false_eq_true, Bool.true_eq_false, Bool.not_true, Bool.not_false, BEq.rfl]; exact hk
  · simp only [go, Mv, NilC_at, Fld_at, add_mk, Nat.zero_add, Nat.add_zero, Bin_add, Bin_sub, Bin_mul, Bin_eql, Bin_neq, Bin_lss, Bin_leq, Bin_gtr, Bin_geq, Bin_bool_eql, Bin_bool_neq, Bin_ptr_nil_eql, Bin_ptr_nil_neq, Un_not, Pick_bool, Gd_bool, Gd_undef, If_bool, CallF_eq, MaxV_two, MinV_two, if_true, if_false, Bool.false_eq_true, Bool.true_eq_false, Bool.not_true, Bool.not_false, BEq.rfl]
    rw [Bin_rem _ _ _ _ (by decide), Int.tmod_eq_emod_of_nonneg h0]
    have w1 : IntKind.i64.wrap (17 + b % 240) = 17 + b % 240 := by rw [IntKind.wrap_i64]; omega
    simp only [w1, go, Mv, NilC_at, Fld_at, add_mk, Nat.zero_add, Nat.add_zero, Bin_add, Bin_sub, Bin_mul, Bin_eql, Bin_neq, Bin_lss, Bin_leq, Bin_gtr, Bin_geq, Bin_bool_eql, Bin_bool_neq, Bin_ptr_nil_eql, Bin_ptr_nil_neq, Un_not, Pick_bool, Gd_bool, Gd_undef, If_bool, CallF_eq, MaxV_two, MinV_two, if_true, if_false, Bool.false_eq_true, Bool.true_eq_false, Bool.not_true, Bool.not_false, BEq.rfl]; exact hk
theorem bradawllaw11_weight.spec {kind base : Int} (hf : Fits kind base) (k : Int) {K : Ret} {h : Heap} (hk : K (Iv (wk kind base k)) h) : CallH Try.prog bradawllaw11_weight.id #[Iv kind, Iv base, Iv k] K h := by
  refine bradawllaw11_weight.ok ?_
  simp only [bradawllaw11_weight.pt, Iv, go, Mv, NilC_at, Fld_at, add_mk, Nat.zero_add, Nat.add_zero, Bin_add, Bin_sub, Bin_mul, Bin_eql, Bin_neq, Bin_lss, Bin_leq, Bin_gtr, Bin_geq, Bin_bool_eql, Bin_bool_neq, Bin_ptr_nil_eql, Bin_ptr_nil_neq, Un_not, Pick_bool, Gd_bool, Gd_undef, If_bool, CallF_eq, MaxV_two, MinV_two, if_true, if_false, Bool.false_eq_true, Bool.true_eq_false, Bool.not_true, Bool.not_false, BEq.rfl]
  have e1 : (if (0 : Int) > k then 0 else k) = max k 0 := by split <;> omega
  have e2 : (if 63 < max k 0 then 63 else max k 0) = (clampK k : Int) := by unfold clampK; split <;> omega
  rw [e1, e2]
  have hc := clampK_lt k
  unfold wk at hk
  generalize clampK k = i at *
  rcases hf with ⟨rfl, g1, g2⟩ | ⟨rfl, g1, g2⟩
  · have ⟨c1, c2, c3, c4⟩ := cube (n := base + i) (by omega) (by omega)
    have w1 : IntKind.i64.wrap (base + (i : Int)) = base + i := by rw [IntKind.wrap_i64]; omega
    have w2 : IntKind.i64.wrap ((base + (i : Int)) * (base + i)) = (base + i) * (base + i) := by rw [IntKind.wrap_i64]; omega
    have w3 : IntKind.i64.wrap ((base + (i : Int)) * (base + i) * (base + i)) = (base + i) * (base + i) * (base + i) := by rw [IntKind.wrap_i64]; omega
    simp only [show ((0 : Int) == 0) = true from rfl, w1, w2, w3, go, Mv, NilC_at, Fld_at, add_mk, Nat.zero_add, Nat.add_zero, Bin_add, Bin_sub, Bin_mul, Bin_eql, Bin_neq, Bin_lss, Bin_leq, Bin_gtr, Bin_geq, Bin_bool_eql, Bin_bool_neq, Bin_ptr_nil_eql, Bin_ptr_nil_neq, Un_not, Pick_bool, Gd_bool, Gd_undef, If_bool, CallF_eq, MaxV_two, MinV_two, if_true, if_false, Bool.false_eq_true, Bool.true_eq_false, Bool.not_true, Bool.not_false, BEq.rfl]
    rw [Bin_quo _ _ _ _ (by omega), Int.tdiv_eq_ediv_of_nonneg (by omega)]
    have hq0 : 0 ≤ 1099511627776 / ((base + (i : Int)) * (base + i) * (base + i)) := Int.ediv_nonneg (by omega) (by omega)
    have hq1 : 1099511627776 / ((base + (i : Int)) * (base + i) * (base + i)) ≤ 1099511627776 := Int.ediv_le_self _ (by omega)
    have e4 : (if (1 : Int) > IntKind.i64.wrap (1099511627776 / ((base + (i : Int)) * (base + i) * (base + i))) then 1 else IntKind.i64.wrap (1099511627776 / ((base + (i : Int)) * (base + i) * (base + i)))) = wt 0 base i := by
      rw [IntKind.wrap_i64]; simp only [wt, if_true]; omega
    simp only [e4, go, Mv, NilC_at, Fld_at, add_mk, Nat.zero_add, Nat.add_zero, Bin_add, Bin_sub, Bin_mul, Bin_eql, Bin_neq, Bin_lss, Bin_leq, Bin_gtr, Bin_geq, Bin_bool_eql, Bin_bool_neq, Bin_ptr_nil_eql, Bin_ptr_nil_neq, Un_not, Pick_bool, Gd_bool, Gd_undef, If_bool, CallF_eq, MaxV_two, MinV_two, if_true, if_false, Bool.false_eq_true, Bool.true_eq_false, Bool.not_true, Bool.not_false, BEq.rfl]; exact hk
  · simp only [show ((1 : Int) == 0) = false from rfl, go, Mv, NilC_at, Fld_at, add_mk, Nat.zero_add, Nat.add_zero, Bin_add, Bin_sub, Bin_mul, Bin_eql, Bin_neq, Bin_lss, Bin_leq, Bin_gtr, Bin_geq, Bin_bool_eql, Bin_bool_neq, Bin_ptr_nil_eql, Bin_ptr_nil_neq, Un_not, Pick_bool, Gd_bool, Gd_undef, If_bool, CallF_eq, MaxV_two, MinV_two, if_true, if_false, Bool.false_eq_true, Bool.true_eq_false, Bool.not_true, Bool.not_false, BEq.rfl]
    refine Lp4 (σ := Nat) (fun j a b c d h' => h = h' ∧ j ≤ i ∧ a = .int .i64 base ∧ b = .int .i64 (expW base j) ∧ c = .int .i64 (i : Int) ∧ d = .int .i64 (j : Int)) (fun j => i - j) 0
      ⟨rfl, Nat.zero_le _, rfl, rfl, rfl, rfl⟩ ?_
    rintro j a b c d h2 ⟨rfl, hj, rfl, rfl, rfl, rfl⟩ X hX
    simp only [go, Mv, NilC_at, Fld_at, add_mk, Nat.zero_add, Nat.add_zero, Bin_add, Bin_sub, Bin_mul, Bin_eql, Bin_neq, Bin_lss, Bin_leq, Bin_gtr, Bin_geq, Bin_bool_eql, Bin_bool_neq, Bin_ptr_nil_eql, Bin_ptr_nil_neq, Un_not, Pick_bool, Gd_bool, Gd_undef, If_bool, CallF_eq, MaxV_two, MinV_two, if_true, if_false, Bool.false_eq_true, Bool.true_eq_false, Bool.not_true, Bool.not_false, BEq.rfl]
    by_cases hd : ¬ (j : Int) < (i : Int)
    · simp only [decide_eq_false hd, go, Mv, NilC_at, Fld_at, add_mk, Nat.zero_add, Nat.add_zero, Bin_add, Bin_sub, Bin_mul, Bin_eql, Bin_neq, Bin_lss, Bin_leq, Bin_gtr, Bin_geq, Bin_bool_eql, Bin_bool_neq, Bin_ptr_nil_eql, Bin_ptr_nil_neq, Un_not, Pick_bool, Gd_bool, Gd_undef, If_bool, CallF_eq, MaxV_two, MinV_two, if_true, if_false, Bool.false_eq_true, Bool.true_eq_false, Bool.not_true, Bool.not_false, BEq.rfl]
      have : j = i := by omega
      subst this; exact hk
    have hd : (j : Int) < (i : Int) := by omega
    have hb := expW_bd base (by omega) j
    have w1 : IntKind.i64.wrap (expW base j * 16) = expW base j * 16 := by rw [IntKind.wrap_i64]; omega
    have wi : IntKind.i64.wrap ((j : Int) + 1) = ((j + 1 : Nat) : Int) := by rw [IntKind.wrap_i64]; omega
    simp only [decide_eq_true hd, w1, wi, go, Mv, NilC_at, Fld_at, add_mk, Nat.zero_add, Nat.add_zero, Bin_add, Bin_sub, Bin_mul, Bin_eql, Bin_neq, Bin_lss, Bin_leq, Bin_gtr, Bin_geq, Bin_bool_eql, Bin_bool_neq, Bin_ptr_nil_eql, Bin_ptr_nil_neq, Un_not, Pick_bool, Gd_bool, Gd_undef, If_bool, CallF_eq, MaxV_two, MinV_two, if_true, if_false, Bool.false_eq_true, Bool.true_eq_false, Bool.not_true, Bool.not_false, BEq.rfl]
    rw [Bin_quo _ _ _ _ (by omega), Int.tdiv_eq_ediv_of_nonneg (by omega)]
    have e4 : (if (1 : Int) > IntKind.i64.wrap (expW base j * 16 / base) then 1 else IntKind.i64.wrap (expW base j * 16 / base)) = expW base (j + 1) := by
      have hq : 0 ≤ expW base j * 16 / base := Int.ediv_nonneg (by omega) (by omega)
      have hq2 : expW base j * 16 / base ≤ expW base j := by
        apply Int.ediv_le_of_le_mul (by omega)
        exact Int.mul_le_mul_of_nonneg_left (by omega) (by omega)
      show _ = max (expW base j * 16 / base) 1
      rw [IntKind.wrap_i64]; omega
    simp only [e4, wi, go, Mv, NilC_at, Fld_at, add_mk, Nat.zero_add, Nat.add_zero, Bin_add, Bin_sub, Bin_mul, Bin_eql, Bin_neq, Bin_lss, Bin_leq, Bin_gtr, Bin_geq, Bin_bool_eql, Bin_bool_neq, Bin_ptr_nil_eql, Bin_ptr_nil_neq, Un_not, Pick_bool, Gd_bool, Gd_undef, If_bool, CallF_eq, MaxV_two, MinV_two, if_true, if_false, Bool.false_eq_true, Bool.true_eq_false, Bool.not_true, Bool.not_false, BEq.rfl]
    exact hX (j + 1) _ _ _ _ _ ⟨rfl, by omega, rfl, rfl, rfl, rfl⟩ (by omega)
end Go.Proofs.Ytfagifhgjndoaaa
