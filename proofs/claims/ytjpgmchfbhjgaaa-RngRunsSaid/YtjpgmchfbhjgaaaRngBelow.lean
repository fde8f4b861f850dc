/- What some functions of this seat compute (RngBelow), over their texts in primitives. Conditions: those typed ahead of each theorem. -/
import Derived.Test.YtjpgmchfbhjgaaaRngSteps
namespace Go.Proofs.Ytjpgmchfbhjgaaa
open Go.Pt
set_option linter.unusedVariables false
set_option linter.unusedSimpArgs false
theorem words_arg {h : Heap} {xs : List Int} {v : Value} (hr : (rSlice (rInt .u64) 1).is h xs [v]) : Rd h v ((xs.map (BitVec.ofInt 64)).map U) := by
  obtain ⟨h1, h2⟩ := rd_ints hr
  have e : xs.map (Value.int .u64) = (xs.map (BitVec.ofInt 64)).map U := by
    rw [List.map_map]
    refine List.map_congr_left fun x hx => ?_
    obtain ⟨a, b⟩ := h2 x hx
    have a' : (0 : Int) ≤ x := a
    have b' : x ≤ 18446744073709551615 := b
    simp only [Function.comp, U, BitVec.toNat_ofInt]
    congr 1
    omega
  rw [← e]; exact h1
theorem Str.below_d (s : Str) {n : Int} (hn : 1 ≤ n) : (s.below n).2.d = s.d + 1 := by
  unfold Str.below; rw [if_neg (by omega)]; exact s.next_d
theorem Str.below_lt (s : Str) {n : Int} (hn : 1 ≤ n) : 0 ≤ (s.below n).1 ∧ (s.below n).1 < n := by
  unfold Str.below; rw [if_neg (by omega)]
  exact ⟨Int.emod_nonneg _ (by omega), Int.emod_lt_of_pos _ (by omega)⟩
theorem Str.below_neg (s : Str) {n : Int} (hn : n < 1) : s.below n = (0, s) := by unfold Str.below; rw [if_pos hn]
theorem and20 (n : Int) : bits .and .i64 n 1048575 = n % 1048576 := by
  have h127 : (BitVec.ofInt 64 1048575).toNat = 2 ^ 20 - 1 := by decide
  have key : (BitVec.ofInt 64 n &&& BitVec.ofInt 64 1048575).toNat = (n % ((2 ^ 64 : Nat) : Int)).toNat % 2 ^ 20 := by
    rw [BitVec.toNat_and, BitVec.toNat_ofInt, h127, Nat.and_two_pow_sub_one_eq_mod]
  show IntKind.i64.wrap ((BitVec.ofInt 64 n &&& BitVec.ofInt 64 1048575).toNat : Nat) = n % 1048576
  rw [key, IntKind.wrap_i64]
  omega
theorem bradawllaw09_RngBelow.spec {K : Ret} {h : Heap} {a0 : List Int} {a1 a2 : Int} {v0 v1 v2 : Value} (r0 : (rSlice (rInt .u64) 1).is h a0 [v0]) (r1 : (rInt .u64).is h a1 [v1]) (r2 : (rInt .i64).is h a2 [v2]) (hk : ∀ h', Fr [] h h' → K (.bool true) h') :
    CallH Try.prog bradawllaw09_RngBelow.id #[v0, v1, v2] K h := by
  rw [u64_arg r1]
  obtain ⟨e2, _⟩ := r2
  obtain rfl : v2 = .int .i64 a2 := by simpa using e2
  have hw := words_arg r0
  generalize hws : a0.map (BitVec.ofInt 64) = ws at hw
  refine bradawllaw09_RngBelow.ok ?_
  simp only [bradawllaw09_RngBelow.pt, go, Mv, NilC_at, Fld_at, add_mk, Nat.zero_add, Nat.add_zero, Bin_add, Bin_sub, Bin_mul, Bin_eql, Bin_neq, Bin_lss, Bin_leq, Bin_gtr, Bin_geq, Bin_bool_eql, Bin_bool_neq, Bin_ptr_nil_eql, Bin_ptr_nil_neq, Un_not, Pick_bool, Gd_bool, If_bool, CallF_eq, MaxV_two, MinV_two, if_true, if_false, Bool.false_eq_true, Bool.true_eq_false, Bool.not_true, Bool.not_false, BEq.rfl]
  refine bradawllaw09_fit.spec fun h1 f1 => ?_
  simp only [go, Mv, NilC_at, Fld_at, add_mk, Nat.zero_add, Nat.add_zero, Bin_add, Bin_sub, Bin_mul, Bin_eql, Bin_neq, Bin_lss, Bin_leq, Bin_gtr, Bin_geq, Bin_bool_eql, Bin_bool_neq, Bin_ptr_nil_eql, Bin_ptr_nil_neq, Un_not, Pick_bool, Gd_bool, If_bool, CallF_eq, MaxV_two, MinV_two, if_true, if_false, Bool.false_eq_true, Bool.true_eq_false, Bool.not_true, Bool.not_false, BEq.rfl]
  have hw1 := hw.fr f1
  refine hw1.len ?_
  rw [List.length_map]
  simp only [go, Mv, NilC_at, Fld_at, add_mk, Nat.zero_add, Nat.add_zero, Bin_add, Bin_sub, Bin_mul, Bin_eql, Bin_neq, Bin_lss, Bin_leq, Bin_gtr, Bin_geq, Bin_bool_eql, Bin_bool_neq, Bin_ptr_nil_eql, Bin_ptr_nil_neq, Un_not, Pick_bool, Gd_bool, If_bool, CallF_eq, MaxV_two, MinV_two, if_true, if_false, Bool.false_eq_true, Bool.true_eq_false, Bool.not_true, Bool.not_false, BEq.rfl]
  by_cases hl : 60 < ws.length
  · rw [if_pos (by simpa using (by omega : (60 : Int) < ws.length))]; exact hk _ f1
  · rw [if_neg (by simpa using (by omega : ¬ (60 : Int) < ws.length))]
    refine rng_New.spec hw1 (by omega) fun g h2 F hs f2 hF => ?_
    rw [Bin_and, and20]
    have hwn : IntKind.i64.wrap (1 + a2 % 1048576) = 1 + a2 % 1048576 := by rw [IntKind.wrap_i64]; omega
    simp only [hwn, go, Mv, NilC_at, Fld_at, add_mk, Nat.zero_add, Nat.add_zero, Bin_add, Bin_sub, Bin_mul, Bin_eql, Bin_neq, Bin_lss, Bin_leq, Bin_gtr, Bin_geq, Bin_bool_eql, Bin_bool_neq, Bin_ptr_nil_eql, Bin_ptr_nil_neq, Un_not, Pick_bool, Gd_bool, If_bool, CallF_eq, MaxV_two, MinV_two, if_true, if_false, Bool.false_eq_true, Bool.true_eq_false, Bool.not_true, Bool.not_false, BEq.rfl]
    generalize hn : 1 + a2 % 1048576 = n
    have hn1 : 1 ≤ n := by omega
    have hn2 : n ≤ 1048576 := by omega
    have hnew : ∀ x ∈ F, x ∈ ([] : List Nat) ∨ h.size ≤ x := fun x hx => .inr (Nat.le_trans f1.size (hF x hx))
    refine Lp3 (σ := Nat × Str) (fun s a b c h' => StrAt h' g s.2 F ∧ s.2.ws = ws ∧ s.2.d = s.1 ∧ s.1 ≤ 20 ∧ Fr [] h h' ∧ a = .pointer (some ⟨g, 0, none⟩) ∧ b = .int .i64 n ∧ c = .int .i64 (s.1 : Int)) (fun s => 20 - s.1) (0, ⟨ws, seedOf (BitVec.ofInt 64 a1), 0⟩)
      ⟨hs, rfl, rfl, by simp, f1.trans f2, rfl, rfl, rfl⟩ ?_
    rintro ⟨i, s⟩ a b c h3 ⟨hs3, hws3, hd3, hi, f3, rfl, rfl, rfl⟩ X hX
    simp only [go, Mv, NilC_at, Fld_at, add_mk, Nat.zero_add, Nat.add_zero, Bin_add, Bin_sub, Bin_mul, Bin_eql, Bin_neq, Bin_lss, Bin_leq, Bin_gtr, Bin_geq, Bin_bool_eql, Bin_bool_neq, Bin_ptr_nil_eql, Bin_ptr_nil_neq, Un_not, Pick_bool, Gd_bool, If_bool, CallF_eq, MaxV_two, MinV_two, if_true, if_false, Bool.false_eq_true, Bool.true_eq_false, Bool.not_true, Bool.not_false, BEq.rfl]
    simp only at hs3 hws3 hd3 hi
    by_cases hlt : i < 20
    · rw [if_pos (by simpa using (by omega : (i : Int) < 20))]
      refine rng_Stream_Below.spec hs3 (by omega) (by rw [hws3]; omega) (by omega) fun h4 hs4 f4 => ?_
      obtain ⟨b1, b2⟩ := s.below_lt hn1
      have t1 : decide ((s.below n).1 < 0) = false := by simpa using b1
      have t2 : decide ((s.below n).1 ≥ n) = false := by simpa using b2
      have hwi : IntKind.i64.wrap ((i : Int) + 1) = ((i + 1 : Nat) : Int) := by rw [IntKind.wrap_i64]; omega
      simp only [t1, t2, hwi, go, Mv, NilC_at, Fld_at, add_mk, Nat.zero_add, Nat.add_zero, Bin_add, Bin_sub, Bin_mul, Bin_eql, Bin_neq, Bin_lss, Bin_leq, Bin_gtr, Bin_geq, Bin_bool_eql, Bin_bool_neq, Bin_ptr_nil_eql, Bin_ptr_nil_neq, Un_not, Pick_bool, Gd_bool, If_bool, CallF_eq, MaxV_two, MinV_two, if_true, if_false, Bool.false_eq_true, Bool.true_eq_false, Bool.not_true, Bool.not_false, BEq.rfl]
      exact hX (i + 1, (s.below n).2) _ _ _ h4 ⟨hs4, by rw [s.below_ws]; exact hws3, by rw [s.below_d hn1, hd3], (show i + 1 ≤ 20 by omega), f3.trans' f4 hnew, rfl, rfl, rfl⟩ (by simp; omega)
    · rw [if_neg (by simpa using (by omega : ¬ (i : Int) < 20))]
      have hi20 : i = 20 := by omega
      refine rng_Stream_Chance.spec hs3 (by omega) (by rw [hws3]; omega) (by omega) fun h4 hs4 f4 => ?_
      obtain ⟨b1, b2⟩ := s.below_lt hn1
      have t1 : decide (1 ≤ n ∧ (s.below n).1 < 0) = false := by simp; omega
      simp only [t1, go, Mv, NilC_at, Fld_at, add_mk, Nat.zero_add, Nat.add_zero, Bin_add, Bin_sub, Bin_mul, Bin_eql, Bin_neq, Bin_lss, Bin_leq, Bin_gtr, Bin_geq, Bin_bool_eql, Bin_bool_neq, Bin_ptr_nil_eql, Bin_ptr_nil_neq, Un_not, Pick_bool, Gd_bool, If_bool, CallF_eq, MaxV_two, MinV_two, if_true, if_false, Bool.false_eq_true, Bool.true_eq_false, Bool.not_true, Bool.not_false, BEq.rfl]
      have hd4 : (s.below n).2.d = 21 := by rw [s.below_d hn1]; omega
      refine rng_Stream_Chance.spec hs4 (by omega) (by rw [s.below_ws, hws3]; omega) (by omega) fun h5 hs5 f5 => ?_
      obtain ⟨b3, b4⟩ := (s.below n).2.below_lt hn1
      have t2 : decide (1 ≤ n ∧ ((s.below n).2.below n).1 < n) = true := by simp; omega
      have hd5 : ((s.below n).2.below n).2.d = 22 := by rw [(s.below n).2.below_d hn1, hd4]
      simp only [t2, go, Mv, NilC_at, Fld_at, add_mk, Nat.zero_add, Nat.add_zero, Bin_add, Bin_sub, Bin_mul, Bin_eql, Bin_neq, Bin_lss, Bin_leq, Bin_gtr, Bin_geq, Bin_bool_eql, Bin_bool_neq, Bin_ptr_nil_eql, Bin_ptr_nil_neq, Un_not, Pick_bool, Gd_bool, If_bool, CallF_eq, MaxV_two, MinV_two, if_true, if_false, Bool.false_eq_true, Bool.true_eq_false, Bool.not_true, Bool.not_false, BEq.rfl]
      refine rng_Stream_Drawn.spec hs5 ?_
      rw [hd5]
      simp only [show (((22 : Nat) : Int) == 22) = true from rfl, Un_neg, go, Mv, NilC_at, Fld_at, add_mk, Nat.zero_add, Nat.add_zero, Bin_add, Bin_sub, Bin_mul, Bin_eql, Bin_neq, Bin_lss, Bin_leq, Bin_gtr, Bin_geq, Bin_bool_eql, Bin_bool_neq, Bin_ptr_nil_eql, Bin_ptr_nil_neq, Un_not, Pick_bool, Gd_bool, If_bool, CallF_eq, MaxV_two, MinV_two, if_true, if_false, Bool.false_eq_true, Bool.true_eq_false, Bool.not_true, Bool.not_false, BEq.rfl]
      have hwn2 : IntKind.i64.wrap (0 - n) = -n := by rw [IntKind.wrap_i64]; omega
      rw [hwn2]
      refine rng_Stream_Below.spec hs5 (by omega) (by rw [Str.below_ws, Str.below_ws, hws3]; omega) (by omega) fun h6 hs6 f6 => ?_
      have hb6 : (((s.below n).2.below n).2.below (-n)) = (0, ((s.below n).2.below n).2) := Str.below_neg _ (by omega)
      rw [hb6] at hs6 ⊢
      simp only [show ((0 : Int) == 0) = true from rfl, go, Mv, NilC_at, Fld_at, add_mk, Nat.zero_add, Nat.add_zero, Bin_add, Bin_sub, Bin_mul, Bin_eql, Bin_neq, Bin_lss, Bin_leq, Bin_gtr, Bin_geq, Bin_bool_eql, Bin_bool_neq, Bin_ptr_nil_eql, Bin_ptr_nil_neq, Un_not, Pick_bool, Gd_bool, If_bool, CallF_eq, MaxV_two, MinV_two, if_true, if_false, Bool.false_eq_true, Bool.true_eq_false, Bool.not_true, Bool.not_false, BEq.rfl]
      refine rng_Stream_Drawn.spec hs6 ?_
      rw [hd5]
      simp only [show (((22 : Nat) : Int) == 22) = true from rfl, go, Mv, NilC_at, Fld_at, add_mk, Nat.zero_add, Nat.add_zero, Bin_add, Bin_sub, Bin_mul, Bin_eql, Bin_neq, Bin_lss, Bin_leq, Bin_gtr, Bin_geq, Bin_bool_eql, Bin_bool_neq, Bin_ptr_nil_eql, Bin_ptr_nil_neq, Un_not, Pick_bool, Gd_bool, If_bool, CallF_eq, MaxV_two, MinV_two, if_true, if_false, Bool.false_eq_true, Bool.true_eq_false, Bool.not_true, Bool.not_false, BEq.rfl]
      exact hk _ (((f3.trans' f4 hnew).trans' f5 hnew).trans' f6 hnew)
theorem bradawllaw09_RngBelow.law {h : Heap} {a0 : List Int} {a1 a2 : Int} {v0 v1 v2 : Value} (r0 : (rSlice (rInt .u64) 1).is h a0 [v0]) (r1 : (rInt .u64).is h a1 [v1]) (r2 : (rInt .i64).is h a2 [v2]) :
    CallH Try.prog bradawllaw09_RngBelow.id #[v0, v1, v2] (fun v h' => v = .bool true ∧ Fr [] h h') h := bradawllaw09_RngBelow.spec r0 r1 r2 fun _ f => ⟨rfl, f⟩
end Go.Proofs.Ytjpgmchfbhjgaaa
