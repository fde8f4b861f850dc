/- The law TableWeights: weights are those of the kind and the base; more breaks never weigh more. No condition but that the arguments lie in memory as Go lays them. -/
import Derived.Test.YtfagifhgjndoaaaTab5
namespace Go.Proofs.Ytfagifhgjndoaaa
open Go.Pt
set_option linter.unusedVariables false
set_option linter.unusedSimpArgs false
theorem div_anti {y n m : Int} (hy : 0 ≤ y) (hn : 0 < n) (hm : n ≤ m) : y / m ≤ y / n := by
  rw [Int.le_ediv_iff_mul_le hn]
  have h1 : y / m * n ≤ y / m * m := Int.mul_le_mul_of_nonneg_left hm (Int.ediv_nonneg hy (by omega))
  have h2 := Int.ediv_mul_le y (show m ≠ 0 by omega)
  omega
theorem wt_step {kind base : Int} (hf : Fits kind base) (i : Nat) (hi : i + 1 < 64) : wt kind base (i + 1) ≤ wt kind base i := by
  rcases hf with ⟨rfl, g1, g2⟩ | ⟨rfl, g1, g2⟩
  · simp only [wt, if_true]
    generalize hn : base + (i : Int) = n
    have e : base + ((i + 1 : Nat) : Int) = n + 1 := by omega
    rw [e]
    have c1 := cube (n := n) (by omega) (by omega)
    have c2 := cube (n := n + 1) (by omega) (by omega)
    have hm : n * n * n ≤ (n + 1) * (n + 1) * (n + 1) := by
      have a1 : n * n ≤ (n + 1) * (n + 1) := Int.mul_le_mul (by omega) (by omega) (by omega) (by omega)
      exact Int.mul_le_mul a1 (by omega) (by omega) (by omega)
    have := div_anti (y := 1099511627776) (by decide) (show 0 < n * n * n by omega) hm
    omega
  · exact expW_step base (by omega) i
theorem wk_step {kind base : Int} (hf : Fits kind base) (i : Nat) : wk kind base ((i + 1 : Nat) : Int) ≤ wk kind base i := by
  unfold wk
  by_cases h : i + 1 < 64
  · rw [show clampK ((i + 1 : Nat) : Int) = i + 1 by unfold clampK; omega, show clampK (i : Int) = i by unfold clampK; omega]
    exact wt_step hf i h
  · rw [show clampK ((i + 1 : Nat) : Int) = clampK (i : Int) by unfold clampK; omega]
    exact Int.le_refl _
theorem bradawllaw11_TableWeights.spec (e : Bool) (b k : Int) (h0 : 0 ≤ b) (h1 : b ≤ 255) {K : Ret} {h : Heap} (hk : ∀ h', Fr [] h h' → K (.bool true) h') : CallH Try.prog bradawllaw11_TableWeights.id #[.bool e, .int .u8 b, Iv k] K h := by
  refine bradawllaw11_TableWeights.ok ?_
  simp only [bradawllaw11_TableWeights.pt, go, Mv, NilC_at, Fld_at, add_mk, Nat.zero_add, Nat.add_zero, Bin_add, Bin_sub, Bin_mul, Bin_eql, Bin_neq, Bin_lss, Bin_leq, Bin_gtr, Bin_geq, Bin_bool_eql, Bin_bool_neq, Bin_ptr_nil_eql, Bin_ptr_nil_neq, Un_not, Pick_bool, Gd_bool, Gd_undef, If_bool, CallF_eq, MaxV_two, MinV_two, if_true, if_false, Bool.false_eq_true, Bool.true_eq_false, Bool.not_true, Bool.not_false, BEq.rfl]
  refine bradawllaw11_fit.spec fun h1 f1 => ?_
  simp only [go, Mv, NilC_at, Fld_at, add_mk, Nat.zero_add, Nat.add_zero, Bin_add, Bin_sub, Bin_mul, Bin_eql, Bin_neq, Bin_lss, Bin_leq, Bin_gtr, Bin_geq, Bin_bool_eql, Bin_bool_neq, Bin_ptr_nil_eql, Bin_ptr_nil_neq, Un_not, Pick_bool, Gd_bool, Gd_undef, If_bool, CallF_eq, MaxV_two, MinV_two, if_true, if_false, Bool.false_eq_true, Bool.true_eq_false, Bool.not_true, Bool.not_false, BEq.rfl]
  refine bradawllaw11_made.spec e b h0 (by assumption) ?_
  have hf := made_fits e b
  generalize mKind e = kd at *
  generalize mBase e b = bs at *
  simp only [Ext_at, List.getElem?_toArray, List.getElem?_cons_zero, List.getElem?_cons_succ, go, Mv, NilC_at, Fld_at, add_mk, Nat.zero_add, Nat.add_zero, Bin_add, Bin_sub, Bin_mul, Bin_eql, Bin_neq, Bin_lss, Bin_leq, Bin_gtr, Bin_geq, Bin_bool_eql, Bin_bool_neq, Bin_ptr_nil_eql, Bin_ptr_nil_neq, Un_not, Pick_bool, Gd_bool, Gd_undef, If_bool, CallF_eq, MaxV_two, MinV_two, if_true, if_false, Bool.false_eq_true, Bool.true_eq_false, Bool.not_true, Bool.not_false, BEq.rfl]
  refine table_New.spec hf fun g h2 t2 f2 n2 => ?_
  refine table_Table_Weight.spec k t2 (bradawllaw11_weight.spec hf k ?_)
  simp only [Iv, wk, bne_self_eq_false, go, Mv, NilC_at, Fld_at, add_mk, Nat.zero_add, Nat.add_zero, Bin_add, Bin_sub, Bin_mul, Bin_eql, Bin_neq, Bin_lss, Bin_leq, Bin_gtr, Bin_geq, Bin_bool_eql, Bin_bool_neq, Bin_ptr_nil_eql, Bin_ptr_nil_neq, Un_not, Pick_bool, Gd_bool, Gd_undef, If_bool, CallF_eq, MaxV_two, MinV_two, if_true, if_false, Bool.false_eq_true, Bool.true_eq_false, Bool.not_true, Bool.not_false, BEq.rfl]
  refine table_Right.spec kd bs fun c hc => ?_
  have ec : c = true := hc.2 hf
  subst ec
  simp only [go, Mv, NilC_at, Fld_at, add_mk, Nat.zero_add, Nat.add_zero, Bin_add, Bin_sub, Bin_mul, Bin_eql, Bin_neq, Bin_lss, Bin_leq, Bin_gtr, Bin_geq, Bin_bool_eql, Bin_bool_neq, Bin_ptr_nil_eql, Bin_ptr_nil_neq, Un_not, Pick_bool, Gd_bool, Gd_undef, If_bool, CallF_eq, MaxV_two, MinV_two, if_true, if_false, Bool.false_eq_true, Bool.true_eq_false, Bool.not_true, Bool.not_false, BEq.rfl]
  have hK := hk h2 (f1.trans f2)
  refine Lp4 (σ := Nat) (fun j a b c d h' => h2 = h' ∧ j ≤ 70 ∧ a = Iv kd ∧ b = Iv bs ∧ c = .pointer (some ⟨g, 0, none⟩) ∧ d = .int .i64 (j : Int)) (fun j => 70 - j) 0
    ⟨rfl, by omega, rfl, rfl, rfl, rfl⟩ ?_
  rintro j a b c d h3 ⟨rfl, hj, rfl, rfl, rfl, rfl⟩ X hX
  simp only [go, Mv, NilC_at, Fld_at, add_mk, Nat.zero_add, Nat.add_zero, Bin_add, Bin_sub, Bin_mul, Bin_eql, Bin_neq, Bin_lss, Bin_leq, Bin_gtr, Bin_geq, Bin_bool_eql, Bin_bool_neq, Bin_ptr_nil_eql, Bin_ptr_nil_neq, Un_not, Pick_bool, Gd_bool, Gd_undef, If_bool, CallF_eq, MaxV_two, MinV_two, if_true, if_false, Bool.false_eq_true, Bool.true_eq_false, Bool.not_true, Bool.not_false, BEq.rfl]
  by_cases hd : ¬ (j : Int) < 70
  · simp only [decide_eq_false hd, go, Mv, NilC_at, Fld_at, add_mk, Nat.zero_add, Nat.add_zero, Bin_add, Bin_sub, Bin_mul, Bin_eql, Bin_neq, Bin_lss, Bin_leq, Bin_gtr, Bin_geq, Bin_bool_eql, Bin_bool_neq, Bin_ptr_nil_eql, Bin_ptr_nil_neq, Un_not, Pick_bool, Gd_bool, Gd_undef, If_bool, CallF_eq, MaxV_two, MinV_two, if_true, if_false, Bool.false_eq_true, Bool.true_eq_false, Bool.not_true, Bool.not_false, BEq.rfl]; exact hK
  have hd : (j : Int) < 70 := by omega
  simp only [decide_eq_true hd, go, Mv, NilC_at, Fld_at, add_mk, Nat.zero_add, Nat.add_zero, Bin_add, Bin_sub, Bin_mul, Bin_eql, Bin_neq, Bin_lss, Bin_leq, Bin_gtr, Bin_geq, Bin_bool_eql, Bin_bool_neq, Bin_ptr_nil_eql, Bin_ptr_nil_neq, Un_not, Pick_bool, Gd_bool, Gd_undef, If_bool, CallF_eq, MaxV_two, MinV_two, if_true, if_false, Bool.false_eq_true, Bool.true_eq_false, Bool.not_true, Bool.not_false, BEq.rfl]
  refine table_Table_Weight.spec (j : Int) t2 (bradawllaw11_weight.spec hf (j : Int) ?_)
  have wi : IntKind.i64.wrap ((j : Int) + 1) = ((j + 1 : Nat) : Int) := by rw [IntKind.wrap_i64]; omega
  simp only [Iv, wk, bne_self_eq_false, wi, go, Mv, NilC_at, Fld_at, add_mk, Nat.zero_add, Nat.add_zero, Bin_add, Bin_sub, Bin_mul, Bin_eql, Bin_neq, Bin_lss, Bin_leq, Bin_gtr, Bin_geq, Bin_bool_eql, Bin_bool_neq, Bin_ptr_nil_eql, Bin_ptr_nil_neq, Un_not, Pick_bool, Gd_bool, Gd_undef, If_bool, CallF_eq, MaxV_two, MinV_two, if_true, if_false, Bool.false_eq_true, Bool.true_eq_false, Bool.not_true, Bool.not_false, BEq.rfl]
  refine table_Table_Weight.spec ((j + 1 : Nat) : Int) t2 (table_Table_Weight.spec (j : Int) t2 ?_)
  have hs := wk_step hf j
  have hb := wk_bd hf (j : Int)
  unfold wk at hs hb
  have t1 : ¬ wt kd bs (clampK ((j + 1 : Nat) : Int)) > wt kd bs (clampK (j : Int)) := by omega
  simp only [Iv, decide_eq_false t1, go, Mv, NilC_at, Fld_at, add_mk, Nat.zero_add, Nat.add_zero, Bin_add, Bin_sub, Bin_mul, Bin_eql, Bin_neq, Bin_lss, Bin_leq, Bin_gtr, Bin_geq, Bin_bool_eql, Bin_bool_neq, Bin_ptr_nil_eql, Bin_ptr_nil_neq, Un_not, Pick_bool, Gd_bool, Gd_undef, If_bool, CallF_eq, MaxV_two, MinV_two, if_true, if_false, Bool.false_eq_true, Bool.true_eq_false, Bool.not_true, Bool.not_false, BEq.rfl]
  refine table_Table_Weight.spec (j : Int) t2 ?_
  have t1 : ¬ wt kd bs (clampK (j : Int)) < 1 := by omega
  simp only [Iv, decide_eq_false t1, wi, go, Mv, NilC_at, Fld_at, add_mk, Nat.zero_add, Nat.add_zero, Bin_add, Bin_sub, Bin_mul, Bin_eql, Bin_neq, Bin_lss, Bin_leq, Bin_gtr, Bin_geq, Bin_bool_eql, Bin_bool_neq, Bin_ptr_nil_eql, Bin_ptr_nil_neq, Un_not, Pick_bool, Gd_bool, Gd_undef, If_bool, CallF_eq, MaxV_two, MinV_two, if_true, if_false, Bool.false_eq_true, Bool.true_eq_false, Bool.not_true, Bool.not_false, BEq.rfl]
  exact hX (j + 1) _ _ _ _ _ ⟨rfl, by omega, rfl, rfl, rfl, rfl⟩ (by omega)
theorem bool_arg {h : Heap} {a : Bool} {v : Value} (r : rBool.is h a [v]) : v = .bool a := by
  have := r
  simpa [rBool] using this
theorem bradawllaw11_TableWeights.law {h : Heap} {a0 : Bool} {a1 a2 : Int} {v0 v1 v2 : Value} (r0 : rBool.is h a0 [v0]) (r1 : (rInt .u8).is h a1 [v1]) (r2 : (rInt .i64).is h a2 [v2]) :
    CallH Try.prog bradawllaw11_TableWeights.id #[v0, v1, v2] (fun v h' => v = .bool true ∧ Fr [] h h') h := by
  have := bool_arg r0
  subst this
  obtain ⟨rfl, h1, h2⟩ := int_arg r1
  obtain ⟨rfl, _, _⟩ := int_arg r2
  exact bradawllaw11_TableWeights.spec a0 a1 a2 h1 h2 fun h' f => ⟨rfl, f⟩
end Go.Proofs.Ytfagifhgjndoaaa
