/- The law LitHolds: just one of a literal and its negation is true. No condition but that the arguments lie in memory as Go lays them. -/
import Derived.Test.YthpocgekjndlaaaFn
import Derived.Test.YthpocgekjndlaaaPtQ
namespace Go.Proofs.Ythpocgekjndlaaa
open Go.Pt
set_option linter.unusedVariables false
set_option linter.unusedSimpArgs false
theorem lit_Var.spec (l : Int) (hl : -4611686018427387904 < l) (hu : l < 4611686018427387904) {K : Ret} {h : Heap} (hk : K (.int .i64 (max l (-l))) h) : CallH Try.prog lit_Var.id #[.int .i64 l] K h := by
  refine lit_Var.ok ?_
  simp only [lit_Var.pt, Un_neg, go, Mv, NilC_at, Fld_at, add_mk, Nat.zero_add, Nat.add_zero, Bin_add, Bin_sub, Bin_mul, Bin_eql, Bin_neq, Bin_lss, Bin_leq, Bin_gtr, Bin_geq, Bin_bool_eql, Bin_bool_neq, Bin_ptr_nil_eql, Bin_ptr_nil_neq, Un_not, Pick_bool, Gd_bool, If_bool, CallF_eq, MaxV_two, MinV_two, if_true, if_false, Bool.false_eq_true, Bool.true_eq_false, Bool.not_true, Bool.not_false, BEq.rfl]
  have e : IntKind.i64.wrap (0 - l) = -l := by rw [IntKind.wrap_i64]; omega
  rw [e]
  have e2 : (if -l > l then -l else l) = max l (-l) := by split <;> omega
  rw [e2]; exact hk
theorem lit_Holds.spec {v : Value} {xs : List Bool} (l : Int) (hl : -4611686018427387904 < l) (hu : l < 4611686018427387904) {K : Ret} {h : Heap} (hv : Rd h v (xs.map .bool)) (b : Bool) (h1 : 1 ≤ max l (-l)) (hb : xs[(max l (-l) - 1).toNat]? = some b)
    (hk : K (.bool (b == decide (l > 0))) h) : CallH Try.prog lit_Holds.id #[.int .i64 l, v] K h := by
  refine lit_Holds.ok ?_
  simp only [lit_Holds.pt, go, Mv, NilC_at, Fld_at, add_mk, Nat.zero_add, Nat.add_zero, Bin_add, Bin_sub, Bin_mul, Bin_eql, Bin_neq, Bin_lss, Bin_leq, Bin_gtr, Bin_geq, Bin_bool_eql, Bin_bool_neq, Bin_ptr_nil_eql, Bin_ptr_nil_neq, Un_not, Pick_bool, Gd_bool, If_bool, CallF_eq, MaxV_two, MinV_two, if_true, if_false, Bool.false_eq_true, Bool.true_eq_false, Bool.not_true, Bool.not_false, BEq.rfl]
  refine lit_Var.spec l hl hu ?_
  have e : IntKind.i64.wrap (max l (-l) - 1) = ((max l (-l) - 1).toNat : Int) := by rw [IntKind.wrap_i64]; omega
  simp only [e, go, Mv, NilC_at, Fld_at, add_mk, Nat.zero_add, Nat.add_zero, Bin_add, Bin_sub, Bin_mul, Bin_eql, Bin_neq, Bin_lss, Bin_leq, Bin_gtr, Bin_geq, Bin_bool_eql, Bin_bool_neq, Bin_ptr_nil_eql, Bin_ptr_nil_neq, Un_not, Pick_bool, Gd_bool, If_bool, CallF_eq, MaxV_two, MinV_two, if_true, if_false, Bool.false_eq_true, Bool.true_eq_false, Bool.not_true, Bool.not_false, BEq.rfl]
  refine hv.at (x := .bool b) (by omega) (by rw [Int.toNat_natCast, List.getElem?_map, hb]; rfl) ?_
  simp only [go, Mv, NilC_at, Fld_at, add_mk, Nat.zero_add, Nat.add_zero, Bin_add, Bin_sub, Bin_mul, Bin_eql, Bin_neq, Bin_lss, Bin_leq, Bin_gtr, Bin_geq, Bin_bool_eql, Bin_bool_neq, Bin_ptr_nil_eql, Bin_ptr_nil_neq, Un_not, Pick_bool, Gd_bool, If_bool, CallF_eq, MaxV_two, MinV_two, if_true, if_false, Bool.false_eq_true, Bool.true_eq_false, Bool.not_true, Bool.not_false, BEq.rfl]; exact hk
theorem lit_Index.spec (l : Int) (hl : -1152921504606846976 < l) (hu : l < 1152921504606846976) {K : Ret} {h : Heap} (hk : K (.int .i64 (if l < 0 then 2 * (-l - 1) + 1 else 2 * (l - 1))) h) : CallH Try.prog lit_Index.id #[.int .i64 l] K h := by
  refine lit_Index.ok ?_
  simp only [lit_Index.pt, Un_neg, go, Mv, NilC_at, Fld_at, add_mk, Nat.zero_add, Nat.add_zero, Bin_add, Bin_sub, Bin_mul, Bin_eql, Bin_neq, Bin_lss, Bin_leq, Bin_gtr, Bin_geq, Bin_bool_eql, Bin_bool_neq, Bin_ptr_nil_eql, Bin_ptr_nil_neq, Un_not, Pick_bool, Gd_bool, If_bool, CallF_eq, MaxV_two, MinV_two, if_true, if_false, Bool.false_eq_true, Bool.true_eq_false, Bool.not_true, Bool.not_false, BEq.rfl]
  by_cases hn : l < 0
  · have t : decide (l < 0) = true := by simpa using hn
    rw [if_pos hn] at hk
    simp only [t, go, Mv, NilC_at, Fld_at, add_mk, Nat.zero_add, Nat.add_zero, Bin_add, Bin_sub, Bin_mul, Bin_eql, Bin_neq, Bin_lss, Bin_leq, Bin_gtr, Bin_geq, Bin_bool_eql, Bin_bool_neq, Bin_ptr_nil_eql, Bin_ptr_nil_neq, Un_not, Pick_bool, Gd_bool, If_bool, CallF_eq, MaxV_two, MinV_two, if_true, if_false, Bool.false_eq_true, Bool.true_eq_false, Bool.not_true, Bool.not_false, BEq.rfl]
    have e : IntKind.i64.wrap (IntKind.i64.wrap (2 * IntKind.i64.wrap (IntKind.i64.wrap (0 - l) - 1)) + 1) = 2 * (-l - 1) + 1 := by simp only [IntKind.wrap_i64]; omega
    rw [e]; exact hk
  · have t : decide (l < 0) = false := by simpa using hn
    rw [if_neg hn] at hk
    simp only [t, go, Mv, NilC_at, Fld_at, add_mk, Nat.zero_add, Nat.add_zero, Bin_add, Bin_sub, Bin_mul, Bin_eql, Bin_neq, Bin_lss, Bin_leq, Bin_gtr, Bin_geq, Bin_bool_eql, Bin_bool_neq, Bin_ptr_nil_eql, Bin_ptr_nil_neq, Un_not, Pick_bool, Gd_bool, If_bool, CallF_eq, MaxV_two, MinV_two, if_true, if_false, Bool.false_eq_true, Bool.true_eq_false, Bool.not_true, Bool.not_false, BEq.rfl]
    have e : IntKind.i64.wrap (2 * IntKind.i64.wrap (l - 1)) = 2 * (l - 1) := by simp only [IntKind.wrap_i64]; omega
    rw [e]; exact hk
theorem Bin_quo2 (c : Cls) (k : IntKind) (a : Int) {K : Ret} {h : Heap} : Bin c .quo (.int k a) (.int k 2) K h = K (.int k (k.wrap (a.tdiv 2))) h := Bin_quo _ _ _ _ (by decide)
theorem lit_At.spec (i : Int) (hl : 0 ≤ i) (hu : i < 4611686018427387904) {K : Ret} {h : Heap} (hk : K (.int .i64 (if i % 2 = 1 then -(i / 2 + 1) else i / 2 + 1)) h) : CallH Try.prog lit_At.id #[.int .i64 i] K h := by
  refine lit_At.ok ?_
  simp only [lit_At.pt, Un_neg, Bin_and, go, Mv, NilC_at, Fld_at, add_mk, Nat.zero_add, Nat.add_zero, Bin_add, Bin_sub, Bin_mul, Bin_eql, Bin_neq, Bin_lss, Bin_leq, Bin_gtr, Bin_geq, Bin_bool_eql, Bin_bool_neq, Bin_ptr_nil_eql, Bin_ptr_nil_neq, Un_not, Pick_bool, Gd_bool, If_bool, CallF_eq, MaxV_two, MinV_two, if_true, if_false, Bool.false_eq_true, Bool.true_eq_false, Bool.not_true, Bool.not_false, BEq.rfl]
  rw [mask_i64 i 1 (by decide) 1 rfl]
  have q : IntKind.i64.wrap (i.tdiv 2) = i / 2 := by rw [Int.tdiv_eq_ediv_of_nonneg hl, IntKind.wrap_i64]; omega
  have q2 : IntKind.i64.wrap (i / 2 + 1) = i / 2 + 1 := by rw [IntKind.wrap_i64]; omega
  have q3 : IntKind.i64.wrap (0 - (i / 2 + 1)) = -(i / 2 + 1) := by rw [IntKind.wrap_i64]; omega
  by_cases hn : i % 2 = 1
  · have t : (i % ((2 ^ 1 : Nat) : Int) == 1) = true := by simpa using hn
    rw [if_pos hn] at hk
    simp only [t, Bin_quo2, Un_neg, q, q2, q3, go, Mv, NilC_at, Fld_at, add_mk, Nat.zero_add, Nat.add_zero, Bin_add, Bin_sub, Bin_mul, Bin_eql, Bin_neq, Bin_lss, Bin_leq, Bin_gtr, Bin_geq, Bin_bool_eql, Bin_bool_neq, Bin_ptr_nil_eql, Bin_ptr_nil_neq, Un_not, Pick_bool, Gd_bool, If_bool, CallF_eq, MaxV_two, MinV_two, if_true, if_false, Bool.false_eq_true, Bool.true_eq_false, Bool.not_true, Bool.not_false, BEq.rfl]; exact hk
  · have t : (i % ((2 ^ 1 : Nat) : Int) == 1) = false := by simpa using hn
    rw [if_neg hn] at hk
    simp only [t, Bin_quo2, Un_neg, q, q2, q3, go, Mv, NilC_at, Fld_at, add_mk, Nat.zero_add, Nat.add_zero, Bin_add, Bin_sub, Bin_mul, Bin_eql, Bin_neq, Bin_lss, Bin_leq, Bin_gtr, Bin_geq, Bin_bool_eql, Bin_bool_neq, Bin_ptr_nil_eql, Bin_ptr_nil_neq, Un_not, Pick_bool, Gd_bool, If_bool, CallF_eq, MaxV_two, MinV_two, if_true, if_false, Bool.false_eq_true, Bool.true_eq_false, Bool.not_true, Bool.not_false, BEq.rfl]; exact hk
theorem lit_Right.spec (l m : Int) {K : Ret} {h : Heap} (hk : K (.bool (decide (l ≠ 0 ∧ l ≤ min (max m 0) 100000 ∧ l ≥ -min (max m 0) 100000))) h) : CallH Try.prog lit_Right.id #[.int .i64 l, .int .i64 m] K h := by
  refine lit_Right.ok ?_
  simp only [lit_Right.pt, go, Mv, NilC_at, Fld_at, add_mk, Nat.zero_add, Nat.add_zero, Bin_add, Bin_sub, Bin_mul, Bin_eql, Bin_neq, Bin_lss, Bin_leq, Bin_gtr, Bin_geq, Bin_bool_eql, Bin_bool_neq, Bin_ptr_nil_eql, Bin_ptr_nil_neq, Un_not, Pick_bool, Gd_bool, If_bool, CallF_eq, MaxV_two, MinV_two, if_true, if_false, Bool.false_eq_true, Bool.true_eq_false, Bool.not_true, Bool.not_false, BEq.rfl]
  have e1 : (if (0 : Int) > m then 0 else m) = max m 0 := by split <;> omega
  have e2 : (if 100000 < max m 0 then 100000 else max m 0) = min (max m 0) 100000 := by split <;> omega
  rw [e1, e2]
  generalize hq : min (max m 0) 100000 = q at *
  have hq0 : 0 ≤ q ∧ q ≤ 100000 := by omega
  have e3 : IntKind.i64.wrap (0 - q) = -q := by rw [IntKind.wrap_i64]; omega
  by_cases c1 : l = 0
  · have t : (l != 0) = false := by simpa using c1
    simp only [t, go, Mv, NilC_at, Fld_at, add_mk, Nat.zero_add, Nat.add_zero, Bin_add, Bin_sub, Bin_mul, Bin_eql, Bin_neq, Bin_lss, Bin_leq, Bin_gtr, Bin_geq, Bin_bool_eql, Bin_bool_neq, Bin_ptr_nil_eql, Bin_ptr_nil_neq, Un_not, Pick_bool, Gd_bool, If_bool, CallF_eq, MaxV_two, MinV_two, if_true, if_false, Bool.false_eq_true, Bool.true_eq_false, Bool.not_true, Bool.not_false, BEq.rfl]; simpa [c1] using hk
  have t : (l != 0) = true := by simpa using c1
  simp only [t, go, Mv, NilC_at, Fld_at, add_mk, Nat.zero_add, Nat.add_zero, Bin_add, Bin_sub, Bin_mul, Bin_eql, Bin_neq, Bin_lss, Bin_leq, Bin_gtr, Bin_geq, Bin_bool_eql, Bin_bool_neq, Bin_ptr_nil_eql, Bin_ptr_nil_neq, Un_not, Pick_bool, Gd_bool, If_bool, CallF_eq, MaxV_two, MinV_two, if_true, if_false, Bool.false_eq_true, Bool.true_eq_false, Bool.not_true, Bool.not_false, BEq.rfl]
  by_cases c2 : l ≤ q
  · have t : decide (l ≤ q) = true := by simpa using c2
    simp only [t, Un_neg, e3, go, Mv, NilC_at, Fld_at, add_mk, Nat.zero_add, Nat.add_zero, Bin_add, Bin_sub, Bin_mul, Bin_eql, Bin_neq, Bin_lss, Bin_leq, Bin_gtr, Bin_geq, Bin_bool_eql, Bin_bool_neq, Bin_ptr_nil_eql, Bin_ptr_nil_neq, Un_not, Pick_bool, Gd_bool, If_bool, CallF_eq, MaxV_two, MinV_two, if_true, if_false, Bool.false_eq_true, Bool.true_eq_false, Bool.not_true, Bool.not_false, BEq.rfl]
    simpa [c1, c2] using hk
  · have t : decide (l ≤ q) = false := by simpa using c2
    simp only [t, go, Mv, NilC_at, Fld_at, add_mk, Nat.zero_add, Nat.add_zero, Bin_add, Bin_sub, Bin_mul, Bin_eql, Bin_neq, Bin_lss, Bin_leq, Bin_gtr, Bin_geq, Bin_bool_eql, Bin_bool_neq, Bin_ptr_nil_eql, Bin_ptr_nil_neq, Un_not, Pick_bool, Gd_bool, If_bool, CallF_eq, MaxV_two, MinV_two, if_true, if_false, Bool.false_eq_true, Bool.true_eq_false, Bool.not_true, Bool.not_false, BEq.rfl]
    simpa [c1, c2] using hk
theorem bradawllaw01_fit.spec {K : Ret} {h : Heap} (hk : ∀ h', Fr [] h h' → K (.bool true) h') : CallH Try.prog bradawllaw01_fit.id #[] K h := by
  refine bradawllaw01_fit.ok ?_
  simp only [bradawllaw01_fit.pt, go, Mv, NilC_at, Fld_at, add_mk, Nat.zero_add, Nat.add_zero, Bin_add, Bin_sub, Bin_mul, Bin_eql, Bin_neq, Bin_lss, Bin_leq, Bin_gtr, Bin_geq, Bin_bool_eql, Bin_bool_neq, Bin_ptr_nil_eql, Bin_ptr_nil_neq, Un_not, Pick_bool, Gd_bool, If_bool, CallF_eq, MaxV_two, MinV_two, if_true, if_false, Bool.false_eq_true, Bool.true_eq_false, Bool.not_true, Bool.not_false, BEq.rfl]
  refine lit_Index.spec (-3) (by decide) (by decide) ?_
  have t : ((if (-3 : Int) < 0 then 2 * (-(-3 : Int) - 1) + 1 else 2 * (-3 - 1)) == 5) = true := by decide
  simp only [t, go, Mv, NilC_at, Fld_at, add_mk, Nat.zero_add, Nat.add_zero, Bin_add, Bin_sub, Bin_mul, Bin_eql, Bin_neq, Bin_lss, Bin_leq, Bin_gtr, Bin_geq, Bin_bool_eql, Bin_bool_neq, Bin_ptr_nil_eql, Bin_ptr_nil_neq, Un_not, Pick_bool, Gd_bool, If_bool, CallF_eq, MaxV_two, MinV_two, if_true, if_false, Bool.false_eq_true, Bool.true_eq_false, Bool.not_true, Bool.not_false, BEq.rfl]
  refine lit_At.spec 5 (by decide) (by decide) ?_
  have t : ((if (5 : Int) % 2 = 1 then -((5 : Int) / 2 + 1) else 5 / 2 + 1) == -3) = true := by decide
  simp only [t, go, Mv, NilC_at, Fld_at, add_mk, Nat.zero_add, Nat.add_zero, Bin_add, Bin_sub, Bin_mul, Bin_eql, Bin_neq, Bin_lss, Bin_leq, Bin_gtr, Bin_geq, Bin_bool_eql, Bin_bool_neq, Bin_ptr_nil_eql, Bin_ptr_nil_neq, Un_not, Pick_bool, Gd_bool, If_bool, CallF_eq, MaxV_two, MinV_two, if_true, if_false, Bool.false_eq_true, Bool.true_eq_false, Bool.not_true, Bool.not_false, BEq.rfl]
  refine lit_Right.spec (-3) 3 ?_
  have t : decide ((-3 : Int) ≠ 0 ∧ (-3 : Int) ≤ min (max 3 0) 100000 ∧ (-3 : Int) ≥ -min (max 3 0) 100000) = true := by decide
  simp only [t, go, Mv, NilC_at, Fld_at, add_mk, Nat.zero_add, Nat.add_zero, Bin_add, Bin_sub, Bin_mul, Bin_eql, Bin_neq, Bin_lss, Bin_leq, Bin_gtr, Bin_geq, Bin_bool_eql, Bin_bool_neq, Bin_ptr_nil_eql, Bin_ptr_nil_neq, Un_not, Pick_bool, Gd_bool, If_bool, CallF_eq, MaxV_two, MinV_two, if_true, if_false, Bool.false_eq_true, Bool.true_eq_false, Bool.not_true, Bool.not_false, BEq.rfl]
  refine lit_Right.spec 4 3 ?_
  have t : decide ((4 : Int) ≠ 0 ∧ (4 : Int) ≤ min (max 3 0) 100000 ∧ (4 : Int) ≥ -min (max 3 0) 100000) = false := by decide
  simp only [t, go, Mv, NilC_at, Fld_at, add_mk, Nat.zero_add, Nat.add_zero, Bin_add, Bin_sub, Bin_mul, Bin_eql, Bin_neq, Bin_lss, Bin_leq, Bin_gtr, Bin_geq, Bin_bool_eql, Bin_bool_neq, Bin_ptr_nil_eql, Bin_ptr_nil_neq, Un_not, Pick_bool, Gd_bool, If_bool, CallF_eq, MaxV_two, MinV_two, if_true, if_false, Bool.false_eq_true, Bool.true_eq_false, Bool.not_true, Bool.not_false, BEq.rfl]
  refine BldS_one rfl rfl fun h1 ho f1 hsz => ?_
  refine lit_Holds.spec (xs := [false]) (-1) (by decide) (by decide) (by simpa using ho.rd) false (by decide) (by decide) ?_
  have t : (false == decide ((-1 : Int) > 0)) = true := by decide
  simp only [t, go, Mv, NilC_at, Fld_at, add_mk, Nat.zero_add, Nat.add_zero, Bin_add, Bin_sub, Bin_mul, Bin_eql, Bin_neq, Bin_lss, Bin_leq, Bin_gtr, Bin_geq, Bin_bool_eql, Bin_bool_neq, Bin_ptr_nil_eql, Bin_ptr_nil_neq, Un_not, Pick_bool, Gd_bool, If_bool, CallF_eq, MaxV_two, MinV_two, if_true, if_false, Bool.false_eq_true, Bool.true_eq_false, Bool.not_true, Bool.not_false, BEq.rfl]
  exact hk _ f1
theorem bradawllaw01_LitHolds.spec {v : Value} {xs : List Bool} (n : Int) {K : Ret} {h : Heap} (hv : Rd h v (xs.map .bool)) (hk : ∀ h', Fr [] h h' → K (.bool true) h') : CallH Try.prog bradawllaw01_LitHolds.id #[v, .int .i64 n] K h := by
  refine bradawllaw01_LitHolds.ok ?_
  simp only [bradawllaw01_LitHolds.pt, go, Mv, NilC_at, Fld_at, add_mk, Nat.zero_add, Nat.add_zero, Bin_add, Bin_sub, Bin_mul, Bin_eql, Bin_neq, Bin_lss, Bin_leq, Bin_gtr, Bin_geq, Bin_bool_eql, Bin_bool_neq, Bin_ptr_nil_eql, Bin_ptr_nil_neq, Un_not, Pick_bool, Gd_bool, If_bool, CallF_eq, MaxV_two, MinV_two, if_true, if_false, Bool.false_eq_true, Bool.true_eq_false, Bool.not_true, Bool.not_false, BEq.rfl]
  refine bradawllaw01_fit.spec fun h1 f1 => ?_
  have hv1 := hv.fr f1
  simp only [go, Mv, NilC_at, Fld_at, add_mk, Nat.zero_add, Nat.add_zero, Bin_add, Bin_sub, Bin_mul, Bin_eql, Bin_neq, Bin_lss, Bin_leq, Bin_gtr, Bin_geq, Bin_bool_eql, Bin_bool_neq, Bin_ptr_nil_eql, Bin_ptr_nil_neq, Un_not, Pick_bool, Gd_bool, If_bool, CallF_eq, MaxV_two, MinV_two, if_true, if_false, Bool.false_eq_true, Bool.true_eq_false, Bool.not_true, Bool.not_false, BEq.rfl]
  refine hv1.len ?_
  rw [List.length_map]
  by_cases c0 : xs.length = 0
  · have t : ((xs.length : Int) == 0) = true := by simpa using c0
    simp only [t, go, Mv, NilC_at, Fld_at, add_mk, Nat.zero_add, Nat.add_zero, Bin_add, Bin_sub, Bin_mul, Bin_eql, Bin_neq, Bin_lss, Bin_leq, Bin_gtr, Bin_geq, Bin_bool_eql, Bin_bool_neq, Bin_ptr_nil_eql, Bin_ptr_nil_neq, Un_not, Pick_bool, Gd_bool, If_bool, CallF_eq, MaxV_two, MinV_two, if_true, if_false, Bool.false_eq_true, Bool.true_eq_false, Bool.not_true, Bool.not_false, BEq.rfl]; exact hk _ f1
  have t : ((xs.length : Int) == 0) = false := by simpa using c0
  simp only [t, go, Mv, NilC_at, Fld_at, add_mk, Nat.zero_add, Nat.add_zero, Bin_add, Bin_sub, Bin_mul, Bin_eql, Bin_neq, Bin_lss, Bin_leq, Bin_gtr, Bin_geq, Bin_bool_eql, Bin_bool_neq, Bin_ptr_nil_eql, Bin_ptr_nil_neq, Un_not, Pick_bool, Gd_bool, If_bool, CallF_eq, MaxV_two, MinV_two, if_true, if_false, Bool.false_eq_true, Bool.true_eq_false, Bool.not_true, Bool.not_false, BEq.rfl]
  refine hv1.len ?_
  rw [List.length_map]
  by_cases c1 : 200 < xs.length
  · have t : decide ((xs.length : Int) > 200) = true := by simp; omega
    simp only [t, go, Mv, NilC_at, Fld_at, add_mk, Nat.zero_add, Nat.add_zero, Bin_add, Bin_sub, Bin_mul, Bin_eql, Bin_neq, Bin_lss, Bin_leq, Bin_gtr, Bin_geq, Bin_bool_eql, Bin_bool_neq, Bin_ptr_nil_eql, Bin_ptr_nil_neq, Un_not, Pick_bool, Gd_bool, If_bool, CallF_eq, MaxV_two, MinV_two, if_true, if_false, Bool.false_eq_true, Bool.true_eq_false, Bool.not_true, Bool.not_false, BEq.rfl]; exact hk _ f1
  have t : decide ((xs.length : Int) > 200) = false := by simp; omega
  simp only [t, Bin_and, go, Mv, NilC_at, Fld_at, add_mk, Nat.zero_add, Nat.add_zero, Bin_add, Bin_sub, Bin_mul, Bin_eql, Bin_neq, Bin_lss, Bin_leq, Bin_gtr, Bin_geq, Bin_bool_eql, Bin_bool_neq, Bin_ptr_nil_eql, Bin_ptr_nil_neq, Un_not, Pick_bool, Gd_bool, If_bool, CallF_eq, MaxV_two, MinV_two, if_true, if_false, Bool.false_eq_true, Bool.true_eq_false, Bool.not_true, Bool.not_false, BEq.rfl]
  rw [mask_i64 n 16 (by decide) 65535 rfl]
  refine hv1.len ?_
  rw [List.length_map, Bin_rem _ _ _ _ (by omega)]
  have m0 := Int.emod_nonneg n (show ((2 ^ 16 : Nat) : Int) ≠ 0 by decide)
  generalize hm : n % ((2 ^ 16 : Nat) : Int) = m at *
  rw [Int.tmod_eq_emod_of_nonneg m0]
  have r0 := Int.emod_nonneg m (show (xs.length : Int) ≠ 0 by omega)
  have r1 := Int.emod_lt_of_pos m (show (0 : Int) < xs.length by omega)
  generalize hr : m % (xs.length : Int) = r at *
  have e1 : IntKind.i64.wrap (1 + r) = 1 + r := by rw [IntKind.wrap_i64]; omega
  have e2 : IntKind.i64.wrap (1 + r - 1) = (r.toNat : Int) := by rw [IntKind.wrap_i64]; omega
  have e3 : IntKind.i64.wrap (0 - (1 + r)) = -(1 + r) := by rw [IntKind.wrap_i64]; omega
  simp only [e1, e2, e3, go, Mv, NilC_at, Fld_at, add_mk, Nat.zero_add, Nat.add_zero, Bin_add, Bin_sub, Bin_mul, Bin_eql, Bin_neq, Bin_lss, Bin_leq, Bin_gtr, Bin_geq, Bin_bool_eql, Bin_bool_neq, Bin_ptr_nil_eql, Bin_ptr_nil_neq, Un_not, Pick_bool, Gd_bool, If_bool, CallF_eq, MaxV_two, MinV_two, if_true, if_false, Bool.false_eq_true, Bool.true_eq_false, Bool.not_true, Bool.not_false, BEq.rfl]
  have hlt : r.toNat < xs.length := by omega
  obtain ⟨b, hb⟩ : ∃ b, xs[r.toNat]? = some b := ⟨xs[r.toNat], by simp [hlt]⟩
  have hb1 : xs[(max (1 + r) (-(1 + r)) - 1).toNat]? = some b := by rw [show (max (1 + r) (-(1 + r)) - 1).toNat = r.toNat by omega]; exact hb
  have hb2 : xs[(max (-(1 + r)) (-(-(1 + r))) - 1).toNat]? = some b := by rw [show (max (-(1 + r)) (-(-(1 + r))) - 1).toNat = r.toNat by omega]; exact hb
  have s1 : ∀ {K : Ret}, K (.bool b) h1 → CallH Try.prog lit_Holds.id #[.int .i64 (1 + r), v] K h1 := fun {K} hk => lit_Holds.spec (1 + r) (by omega) (by omega) hv1 b (by omega) hb1 (by
    have t : decide (1 + r > 0) = true := by simp; omega
    rw [t]; simpa using hk)
  have s2 : ∀ {K : Ret}, K (.bool !b) h1 → CallH Try.prog lit_Holds.id #[.int .i64 (-(1 + r)), v] K h1 := fun {K} hk => lit_Holds.spec (-(1 + r)) (by omega) (by omega) hv1 b (by omega) hb2 (by
    have t : decide (-(1 + r) > 0) = false := by simp; omega
    rw [t]; simpa using hk)
  have bb : (b == b) = true := by simp
  refine hv1.ix (x := .bool b) (by omega) (by rw [Int.toNat_natCast, List.getElem?_map, hb]; rfl) fun ad hc => ?_
  have hK := hk h1 f1
  refine ⟨?_, ?_⟩
  · refine s1 (Ld_cell hc ?_)
    simp only [bb, e2, e3, Un_neg, go, Mv, NilC_at, Fld_at, add_mk, Nat.zero_add, Nat.add_zero, Bin_add, Bin_sub, Bin_mul, Bin_eql, Bin_neq, Bin_lss, Bin_leq, Bin_gtr, Bin_geq, Bin_bool_eql, Bin_bool_neq, Bin_ptr_nil_eql, Bin_ptr_nil_neq, Un_not, Pick_bool, Gd_bool, If_bool, CallF_eq, MaxV_two, MinV_two, if_true, if_false, Bool.false_eq_true, Bool.true_eq_false, Bool.not_true, Bool.not_false, BEq.rfl]
    refine hv1.ix (x := .bool b) (by omega) (by rw [Int.toNat_natCast, List.getElem?_map, hb]; rfl) fun ad2 hc2 => ?_
    refine ⟨s2 (Ld_cell hc2 ?_), Ld_cell hc2 (s2 ?_)⟩ <;> (simp only [bb, beq_self_eq_true, go, Mv, NilC_at, Fld_at, add_mk, Nat.zero_add, Nat.add_zero, Bin_add, Bin_sub, Bin_mul, Bin_eql, Bin_neq, Bin_lss, Bin_leq, Bin_gtr, Bin_geq, Bin_bool_eql, Bin_bool_neq, Bin_ptr_nil_eql, Bin_ptr_nil_neq, Un_not, Pick_bool, Gd_bool, If_bool, CallF_eq, MaxV_two, MinV_two, if_true, if_false, Bool.false_eq_true, Bool.true_eq_false, Bool.not_true, Bool.not_false, BEq.rfl]; exact hK)
  · refine Ld_cell hc (s1 ?_)
    simp only [bb, e2, e3, Un_neg, go, Mv, NilC_at, Fld_at, add_mk, Nat.zero_add, Nat.add_zero, Bin_add, Bin_sub, Bin_mul, Bin_eql, Bin_neq, Bin_lss, Bin_leq, Bin_gtr, Bin_geq, Bin_bool_eql, Bin_bool_neq, Bin_ptr_nil_eql, Bin_ptr_nil_neq, Un_not, Pick_bool, Gd_bool, If_bool, CallF_eq, MaxV_two, MinV_two, if_true, if_false, Bool.false_eq_true, Bool.true_eq_false, Bool.not_true, Bool.not_false, BEq.rfl]
    refine hv1.ix (x := .bool b) (by omega) (by rw [Int.toNat_natCast, List.getElem?_map, hb]; rfl) fun ad2 hc2 => ?_
    refine ⟨s2 (Ld_cell hc2 ?_), Ld_cell hc2 (s2 ?_)⟩ <;> (simp only [bb, beq_self_eq_true, go, Mv, NilC_at, Fld_at, add_mk, Nat.zero_add, Nat.add_zero, Bin_add, Bin_sub, Bin_mul, Bin_eql, Bin_neq, Bin_lss, Bin_leq, Bin_gtr, Bin_geq, Bin_bool_eql, Bin_bool_neq, Bin_ptr_nil_eql, Bin_ptr_nil_neq, Un_not, Pick_bool, Gd_bool, If_bool, CallF_eq, MaxV_two, MinV_two, if_true, if_false, Bool.false_eq_true, Bool.true_eq_false, Bool.not_true, Bool.not_false, BEq.rfl]; exact hK)
theorem bradawllaw01_LitHolds.law {h : Heap} {a0 : List Bool} {a1 : Int} {v0 v1 : Value} (r0 : (rSlice rBool 1).is h a0 [v0]) (r1 : (rInt .i64).is h a1 [v1]) :
    CallH Try.prog bradawllaw01_LitHolds.id #[v0, v1] (fun v h' => v = .bool true ∧ Fr [] h h') h := by
  obtain ⟨e, h1, h2⟩ := r1
  have e' : v1 = .int .i64 a1 := by simpa using e
  rw [e']
  exact bradawllaw01_LitHolds.spec a1 (rd_bools r0) fun h' f => ⟨rfl, f⟩
end Go.Proofs.Ythpocgekjndlaaa
