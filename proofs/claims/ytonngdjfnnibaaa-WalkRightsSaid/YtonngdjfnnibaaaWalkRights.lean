/- The law WalkRights. No condition but that the arguments lie in memory, laid by Go. -/
import Derived.Test.YtonngdjfnnibaaaWk
import Derived.Test.YtonngdjfnnibaaaRa
namespace Go.Proofs.Ytonngdjfnnibaaa
open Go.Pt
set_option linter.unusedVariables false
set_option linter.unusedSimpArgs false
theorem want_go {kind base noise : Int} {P : Ret} {h : Heap} (hP : ∀ w, (w = true ↔ WOk kind base noise) → P (.bool w) h) :
 go (Bin .int .eql (Iv kind) (.int .i64 0)) h fun t24 h =>
 go (Gd t24 true (Mv (Iv base))) h fun t26 h =>
 go (Gd t24 true (Bin .int .geq t26 (.int .i64 1))) h fun t27 h =>
 go (Pick t24 t27 (.bool false)) h fun t28 h =>
 go (Gd t28 true (Mv (Iv base))) h fun t30 h =>
 go (Gd t28 true (Bin .int .leq t30 (.int .i64 64))) h fun t31 h =>
 go (Pick t28 t31 (.bool false)) h fun t32 h =>
 go (Gd t32 true (Mv (Iv noise))) h fun t34 h =>
 go (Gd t32 true (Bin .int .eql t34 (.int .i64 0))) h fun t35 h =>
 go (Pick t32 t35 (.bool false)) h fun t36 h =>
 go (Gd t36 false (Mv (Iv kind))) h fun t38 h =>
 go (Gd t36 false (Bin .int .eql t38 (.int .i64 1))) h fun t39 h =>
 go (Gd t36 false (Mv t39)) h fun t40 h =>
 go (Gd t40 true (Mv (Iv base))) h fun t41 h =>
 go (Gd t40 true (Bin .int .geq t41 (.int .i64 17))) h fun t42 h =>
 go (Gd t36 false (Pick t40 t42 (.bool false))) h fun t43 h =>
 go (Gd t36 false (Mv t43)) h fun t44 h =>
 go (Gd t44 true (Mv (Iv base))) h fun t45 h =>
 go (Gd t44 true (Bin .int .leq t45 (.int .i64 256))) h fun t46 h =>
 go (Gd t36 false (Pick t44 t46 (.bool false))) h fun t47 h =>
 go (Gd t36 false (Mv t47)) h fun t48 h =>
 go (Gd t48 true (Mv (Iv noise))) h fun t49 h =>
 go (Gd t48 true (Bin .int .eql t49 (.int .i64 0))) h fun t50 h =>
 go (Gd t36 false (Pick t48 t50 (.bool false))) h fun t51 h =>
 go (Pick t36 (.bool true) t51) h fun t52 h =>
 go (Gd t52 false (Mv (Iv kind))) h fun t54 h =>
 go (Gd t52 false (Bin .int .eql t54 (.int .i64 2))) h fun t55 h =>
 go (Gd t52 false (Mv t55)) h fun t56 h =>
 go (Gd t56 true (Mv (Iv base))) h fun t57 h =>
 go (Gd t56 true (Bin .int .eql t57 (.int .i64 0))) h fun t58 h =>
 go (Gd t52 false (Pick t56 t58 (.bool false))) h fun t59 h =>
 go (Gd t52 false (Mv t59)) h fun t60 h =>
 go (Gd t60 true (Mv (Iv noise))) h fun t61 h =>
 go (Gd t60 true (Bin .int .geq t61 (.int .i64 0))) h fun t62 h =>
 go (Gd t52 false (Pick t60 t62 (.bool false))) h fun t63 h =>
 go (Gd t52 false (Mv t63)) h fun t64 h =>
 go (Gd t64 true (Mv (Iv noise))) h fun t65 h =>
 go (Gd t64 true (Bin .int .leq t65 (.int .i64 1000))) h fun t66 h =>
 go (Gd t52 false (Pick t64 t66 (.bool false))) h fun t67 h =>
 go (Pick t52 (.bool true) t67) h P := by
  have hP' : ∀ w h', h = h' → (w = true ↔ WOk kind base noise) → P (.bool w) h' := fun w h' e hw => e ▸ hP w hw
  clear hP
  have nn : ∀ {p : Prop} [Decidable p], p → decide p = true := fun h => decide_eq_true h
  by_cases k0 : kind = 0
  · by_cases b1 : base ≥ 1
    · by_cases b2 : base ≤ 64
      · by_cases c : noise = 0
        · try simp (disch := first | assumption | omega | (apply At.mk; with_unfolding_all rfl)) only [↓go_eq, ↓ent_eq, Mv, NilC_at, Fld_at, add_mk, Nat.zero_add, Nat.add_zero, Add64, Sub64, Mul64, Quo64, Rem64, Neg64, Cvt64, CvtU8, CvtU16, CvtU32, CvtU64, AddU64, SubU64, MulU64, Shr64, Shr_u8, Shr_u16, Shr_u32, Shr_u64, And1, And31, And32, Eql64, Neq64, Bin_lss, Bin_leq, Bin_gtr, Bin_geq, Bin_bool_eql, Bin_bool_neq, Bin_ptr_nil_eql, Bin_ptr_nil_neq, Not_dec, Un_not, Pick_t, Pick_f, Pick_pos, Pick_neg, Gd_tt, Gd_tf, Gd_ft, Gd_ff, Gd_pos_t, Gd_neg_t, Gd_pos_f, Gd_neg_f, Gd_undef, If_t, If_f, If_pos, If_neg, CallF_eq, Max_two, Min_two, Len_rd, Len_own, Ld_blkE, Idx_rdN, Idx_ownN, Idx_rdE, Idx_ownE, IdxAE, LdA_two, Idx_at0, Ext_atE, Len_at, Int.toNat_natCast, Int.toNat_zero, Int.toNat_one, List.length_map, List.length_append, List.length_cons, List.length_nil, List.length_take, List.length_set, List.length_replicate, Bool.not_true, Bool.not_false, decide_true, decide_false, BEq.rfl, bne_self_eq_false, tf_beq, ft_beq, tf_bne, ft_bne, not_true_eq_false, not_false_eq_true, app]
          try rw [decide_eq_true c]
          try simp (disch := first | assumption | omega | (apply At.mk; with_unfolding_all rfl)) only [↓go_eq, ↓ent_eq, Mv, NilC_at, Fld_at, add_mk, Nat.zero_add, Nat.add_zero, Add64, Sub64, Mul64, Quo64, Rem64, Neg64, Cvt64, CvtU8, CvtU16, CvtU32, CvtU64, AddU64, SubU64, MulU64, Shr64, Shr_u8, Shr_u16, Shr_u32, Shr_u64, And1, And31, And32, Eql64, Neq64, Bin_lss, Bin_leq, Bin_gtr, Bin_geq, Bin_bool_eql, Bin_bool_neq, Bin_ptr_nil_eql, Bin_ptr_nil_neq, Not_dec, Un_not, Pick_t, Pick_f, Pick_pos, Pick_neg, Gd_tt, Gd_tf, Gd_ft, Gd_ff, Gd_pos_t, Gd_neg_t, Gd_pos_f, Gd_neg_f, Gd_undef, If_t, If_f, If_pos, If_neg, CallF_eq, Max_two, Min_two, Len_rd, Len_own, Ld_blkE, Idx_rdN, Idx_ownN, Idx_rdE, Idx_ownE, IdxAE, LdA_two, Idx_at0, Ext_atE, Len_at, Int.toNat_natCast, Int.toNat_zero, Int.toNat_one, List.length_map, List.length_append, List.length_cons, List.length_nil, List.length_take, List.length_set, List.length_replicate, Bool.not_true, Bool.not_false, decide_true, decide_false, BEq.rfl, bne_self_eq_false, tf_beq, ft_beq, tf_bne, ft_bne, not_true_eq_false, not_false_eq_true, app]
          refine hP' _ _ rfl ?_
          first | (rw [decide_eq_true_iff]; unfold WOk Fits; omega) | (simp only [Bool.false_eq_true, false_iff, true_iff]; unfold WOk Fits; omega)
        · try simp (disch := first | assumption | omega | (apply At.mk; with_unfolding_all rfl)) only [↓go_eq, ↓ent_eq, Mv, NilC_at, Fld_at, add_mk, Nat.zero_add, Nat.add_zero, Add64, Sub64, Mul64, Quo64, Rem64, Neg64, Cvt64, CvtU8, CvtU16, CvtU32, CvtU64, AddU64, SubU64, MulU64, Shr64, Shr_u8, Shr_u16, Shr_u32, Shr_u64, And1, And31, And32, Eql64, Neq64, Bin_lss, Bin_leq, Bin_gtr, Bin_geq, Bin_bool_eql, Bin_bool_neq, Bin_ptr_nil_eql, Bin_ptr_nil_neq, Not_dec, Un_not, Pick_t, Pick_f, Pick_pos, Pick_neg, Gd_tt, Gd_tf, Gd_ft, Gd_ff, Gd_pos_t, Gd_neg_t, Gd_pos_f, Gd_neg_f, Gd_undef, If_t, If_f, If_pos, If_neg, CallF_eq, Max_two, Min_two, Len_rd, Len_own, Ld_blkE, Idx_rdN, Idx_ownN, Idx_rdE, Idx_ownE, IdxAE, LdA_two, Idx_at0, Ext_atE, Len_at, Int.toNat_natCast, Int.toNat_zero, Int.toNat_one, List.length_map, List.length_append, List.length_cons, List.length_nil, List.length_take, List.length_set, List.length_replicate, Bool.not_true, Bool.not_false, decide_true, decide_false, BEq.rfl, bne_self_eq_false, tf_beq, ft_beq, tf_bne, ft_bne, not_true_eq_false, not_false_eq_true, app]
          try rw [decide_eq_false c]
          try simp (disch := first | assumption | omega | (apply At.mk; with_unfolding_all rfl)) only [↓go_eq, ↓ent_eq, Mv, NilC_at, Fld_at, add_mk, Nat.zero_add, Nat.add_zero, Add64, Sub64, Mul64, Quo64, Rem64, Neg64, Cvt64, CvtU8, CvtU16, CvtU32, CvtU64, AddU64, SubU64, MulU64, Shr64, Shr_u8, Shr_u16, Shr_u32, Shr_u64, And1, And31, And32, Eql64, Neq64, Bin_lss, Bin_leq, Bin_gtr, Bin_geq, Bin_bool_eql, Bin_bool_neq, Bin_ptr_nil_eql, Bin_ptr_nil_neq, Not_dec, Un_not, Pick_t, Pick_f, Pick_pos, Pick_neg, Gd_tt, Gd_tf, Gd_ft, Gd_ff, Gd_pos_t, Gd_neg_t, Gd_pos_f, Gd_neg_f, Gd_undef, If_t, If_f, If_pos, If_neg, CallF_eq, Max_two, Min_two, Len_rd, Len_own, Ld_blkE, Idx_rdN, Idx_ownN, Idx_rdE, Idx_ownE, IdxAE, LdA_two, Idx_at0, Ext_atE, Len_at, Int.toNat_natCast, Int.toNat_zero, Int.toNat_one, List.length_map, List.length_append, List.length_cons, List.length_nil, List.length_take, List.length_set, List.length_replicate, Bool.not_true, Bool.not_false, decide_true, decide_false, BEq.rfl, bne_self_eq_false, tf_beq, ft_beq, tf_bne, ft_bne, not_true_eq_false, not_false_eq_true, app]
          refine hP' _ _ rfl ?_
          first | (rw [decide_eq_true_iff]; unfold WOk Fits; omega) | (simp only [Bool.false_eq_true, false_iff, true_iff]; unfold WOk Fits; omega)
      · try simp (disch := first | assumption | omega | (apply At.mk; with_unfolding_all rfl)) only [↓go_eq, ↓ent_eq, Mv, NilC_at, Fld_at, add_mk, Nat.zero_add, Nat.add_zero, Add64, Sub64, Mul64, Quo64, Rem64, Neg64, Cvt64, CvtU8, CvtU16, CvtU32, CvtU64, AddU64, SubU64, MulU64, Shr64, Shr_u8, Shr_u16, Shr_u32, Shr_u64, And1, And31, And32, Eql64, Neq64, Bin_lss, Bin_leq, Bin_gtr, Bin_geq, Bin_bool_eql, Bin_bool_neq, Bin_ptr_nil_eql, Bin_ptr_nil_neq, Not_dec, Un_not, Pick_t, Pick_f, Pick_pos, Pick_neg, Gd_tt, Gd_tf, Gd_ft, Gd_ff, Gd_pos_t, Gd_neg_t, Gd_pos_f, Gd_neg_f, Gd_undef, If_t, If_f, If_pos, If_neg, CallF_eq, Max_two, Min_two, Len_rd, Len_own, Ld_blkE, Idx_rdN, Idx_ownN, Idx_rdE, Idx_ownE, IdxAE, LdA_two, Idx_at0, Ext_atE, Len_at, Int.toNat_natCast, Int.toNat_zero, Int.toNat_one, List.length_map, List.length_append, List.length_cons, List.length_nil, List.length_take, List.length_set, List.length_replicate, Bool.not_true, Bool.not_false, decide_true, decide_false, BEq.rfl, bne_self_eq_false, tf_beq, ft_beq, tf_bne, ft_bne, not_true_eq_false, not_false_eq_true, app]
        try rw [decide_eq_false b2]
        try simp (disch := first | assumption | omega | (apply At.mk; with_unfolding_all rfl)) only [↓go_eq, ↓ent_eq, Mv, NilC_at, Fld_at, add_mk, Nat.zero_add, Nat.add_zero, Add64, Sub64, Mul64, Quo64, Rem64, Neg64, Cvt64, CvtU8, CvtU16, CvtU32, CvtU64, AddU64, SubU64, MulU64, Shr64, Shr_u8, Shr_u16, Shr_u32, Shr_u64, And1, And31, And32, Eql64, Neq64, Bin_lss, Bin_leq, Bin_gtr, Bin_geq, Bin_bool_eql, Bin_bool_neq, Bin_ptr_nil_eql, Bin_ptr_nil_neq, Not_dec, Un_not, Pick_t, Pick_f, Pick_pos, Pick_neg, Gd_tt, Gd_tf, Gd_ft, Gd_ff, Gd_pos_t, Gd_neg_t, Gd_pos_f, Gd_neg_f, Gd_undef, If_t, If_f, If_pos, If_neg, CallF_eq, Max_two, Min_two, Len_rd, Len_own, Ld_blkE, Idx_rdN, Idx_ownN, Idx_rdE, Idx_ownE, IdxAE, LdA_two, Idx_at0, Ext_atE, Len_at, Int.toNat_natCast, Int.toNat_zero, Int.toNat_one, List.length_map, List.length_append, List.length_cons, List.length_nil, List.length_take, List.length_set, List.length_replicate, Bool.not_true, Bool.not_false, decide_true, decide_false, BEq.rfl, bne_self_eq_false, tf_beq, ft_beq, tf_bne, ft_bne, not_true_eq_false, not_false_eq_true, app]
        refine hP' _ _ rfl ?_
        first | (rw [decide_eq_true_iff]; unfold WOk Fits; omega) | (simp only [Bool.false_eq_true, false_iff, true_iff]; unfold WOk Fits; omega)
    · try simp (disch := first | assumption | omega | (apply At.mk; with_unfolding_all rfl)) only [↓go_eq, ↓ent_eq, Mv, NilC_at, Fld_at, add_mk, Nat.zero_add, Nat.add_zero, Add64, Sub64, Mul64, Quo64, Rem64, Neg64, Cvt64, CvtU8, CvtU16, CvtU32, CvtU64, AddU64, SubU64, MulU64, Shr64, Shr_u8, Shr_u16, Shr_u32, Shr_u64, And1, And31, And32, Eql64, Neq64, Bin_lss, Bin_leq, Bin_gtr, Bin_geq, Bin_bool_eql, Bin_bool_neq, Bin_ptr_nil_eql, Bin_ptr_nil_neq, Not_dec, Un_not, Pick_t, Pick_f, Pick_pos, Pick_neg, Gd_tt, Gd_tf, Gd_ft, Gd_ff, Gd_pos_t, Gd_neg_t, Gd_pos_f, Gd_neg_f, Gd_undef, If_t, If_f, If_pos, If_neg, CallF_eq, Max_two, Min_two, Len_rd, Len_own, Ld_blkE, Idx_rdN, Idx_ownN, Idx_rdE, Idx_ownE, IdxAE, LdA_two, Idx_at0, Ext_atE, Len_at, Int.toNat_natCast, Int.toNat_zero, Int.toNat_one, List.length_map, List.length_append, List.length_cons, List.length_nil, List.length_take, List.length_set, List.length_replicate, Bool.not_true, Bool.not_false, decide_true, decide_false, BEq.rfl, bne_self_eq_false, tf_beq, ft_beq, tf_bne, ft_bne, not_true_eq_false, not_false_eq_true, app]
      try rw [decide_eq_false b1]
      try simp (disch := first | assumption | omega | (apply At.mk; with_unfolding_all rfl)) only [↓go_eq, ↓ent_eq, Mv, NilC_at, Fld_at, add_mk, Nat.zero_add, Nat.add_zero, Add64, Sub64, Mul64, Quo64, Rem64, Neg64, Cvt64, CvtU8, CvtU16, CvtU32, CvtU64, AddU64, SubU64, MulU64, Shr64, Shr_u8, Shr_u16, Shr_u32, Shr_u64, And1, And31, And32, Eql64, Neq64, Bin_lss, Bin_leq, Bin_gtr, Bin_geq, Bin_bool_eql, Bin_bool_neq, Bin_ptr_nil_eql, Bin_ptr_nil_neq, Not_dec, Un_not, Pick_t, Pick_f, Pick_pos, Pick_neg, Gd_tt, Gd_tf, Gd_ft, Gd_ff, Gd_pos_t, Gd_neg_t, Gd_pos_f, Gd_neg_f, Gd_undef, If_t, If_f, If_pos, If_neg, CallF_eq, Max_two, Min_two, Len_rd, Len_own, Ld_blkE, Idx_rdN, Idx_ownN, Idx_rdE, Idx_ownE, IdxAE, LdA_two, Idx_at0, Ext_atE, Len_at, Int.toNat_natCast, Int.toNat_zero, Int.toNat_one, List.length_map, List.length_append, List.length_cons, List.length_nil, List.length_take, List.length_set, List.length_replicate, Bool.not_true, Bool.not_false, decide_true, decide_false, BEq.rfl, bne_self_eq_false, tf_beq, ft_beq, tf_bne, ft_bne, not_true_eq_false, not_false_eq_true, app]
      refine hP' _ _ rfl ?_
      first | (rw [decide_eq_true_iff]; unfold WOk Fits; omega) | (simp only [Bool.false_eq_true, false_iff, true_iff]; unfold WOk Fits; omega)
  by_cases k1 : kind = 1
  · by_cases b1 : base ≥ 17
    · by_cases b2 : base ≤ 256
      · by_cases c : noise = 0
        · try simp (disch := first | assumption | omega | (apply At.mk; with_unfolding_all rfl)) only [↓go_eq, ↓ent_eq, Mv, NilC_at, Fld_at, add_mk, Nat.zero_add, Nat.add_zero, Add64, Sub64, Mul64, Quo64, Rem64, Neg64, Cvt64, CvtU8, CvtU16, CvtU32, CvtU64, AddU64, SubU64, MulU64, Shr64, Shr_u8, Shr_u16, Shr_u32, Shr_u64, And1, And31, And32, Eql64, Neq64, Bin_lss, Bin_leq, Bin_gtr, Bin_geq, Bin_bool_eql, Bin_bool_neq, Bin_ptr_nil_eql, Bin_ptr_nil_neq, Not_dec, Un_not, Pick_t, Pick_f, Pick_pos, Pick_neg, Gd_tt, Gd_tf, Gd_ft, Gd_ff, Gd_pos_t, Gd_neg_t, Gd_pos_f, Gd_neg_f, Gd_undef, If_t, If_f, If_pos, If_neg, CallF_eq, Max_two, Min_two, Len_rd, Len_own, Ld_blkE, Idx_rdN, Idx_ownN, Idx_rdE, Idx_ownE, IdxAE, LdA_two, Idx_at0, Ext_atE, Len_at, Int.toNat_natCast, Int.toNat_zero, Int.toNat_one, List.length_map, List.length_append, List.length_cons, List.length_nil, List.length_take, List.length_set, List.length_replicate, Bool.not_true, Bool.not_false, decide_true, decide_false, BEq.rfl, bne_self_eq_false, tf_beq, ft_beq, tf_bne, ft_bne, not_true_eq_false, not_false_eq_true, app]
          try rw [decide_eq_true c]
          try simp (disch := first | assumption | omega | (apply At.mk; with_unfolding_all rfl)) only [↓go_eq, ↓ent_eq, Mv, NilC_at, Fld_at, add_mk, Nat.zero_add, Nat.add_zero, Add64, Sub64, Mul64, Quo64, Rem64, Neg64, Cvt64, CvtU8, CvtU16, CvtU32, CvtU64, AddU64, SubU64, MulU64, Shr64, Shr_u8, Shr_u16, Shr_u32, Shr_u64, And1, And31, And32, Eql64, Neq64, Bin_lss, Bin_leq, Bin_gtr, Bin_geq, Bin_bool_eql, Bin_bool_neq, Bin_ptr_nil_eql, Bin_ptr_nil_neq, Not_dec, Un_not, Pick_t, Pick_f, Pick_pos, Pick_neg, Gd_tt, Gd_tf, Gd_ft, Gd_ff, Gd_pos_t, Gd_neg_t, Gd_pos_f, Gd_neg_f, Gd_undef, If_t, If_f, If_pos, If_neg, CallF_eq, Max_two, Min_two, Len_rd, Len_own, Ld_blkE, Idx_rdN, Idx_ownN, Idx_rdE, Idx_ownE, IdxAE, LdA_two, Idx_at0, Ext_atE, Len_at, Int.toNat_natCast, Int.toNat_zero, Int.toNat_one, List.length_map, List.length_append, List.length_cons, List.length_nil, List.length_take, List.length_set, List.length_replicate, Bool.not_true, Bool.not_false, decide_true, decide_false, BEq.rfl, bne_self_eq_false, tf_beq, ft_beq, tf_bne, ft_bne, not_true_eq_false, not_false_eq_true, app]
          refine hP' _ _ rfl ?_
          first | (rw [decide_eq_true_iff]; unfold WOk Fits; omega) | (simp only [Bool.false_eq_true, false_iff, true_iff]; unfold WOk Fits; omega)
        · try simp (disch := first | assumption | omega | (apply At.mk; with_unfolding_all rfl)) only [↓go_eq, ↓ent_eq, Mv, NilC_at, Fld_at, add_mk, Nat.zero_add, Nat.add_zero, Add64, Sub64, Mul64, Quo64, Rem64, Neg64, Cvt64, CvtU8, CvtU16, CvtU32, CvtU64, AddU64, SubU64, MulU64, Shr64, Shr_u8, Shr_u16, Shr_u32, Shr_u64, And1, And31, And32, Eql64, Neq64, Bin_lss, Bin_leq, Bin_gtr, Bin_geq, Bin_bool_eql, Bin_bool_neq, Bin_ptr_nil_eql, Bin_ptr_nil_neq, Not_dec, Un_not, Pick_t, Pick_f, Pick_pos, Pick_neg, Gd_tt, Gd_tf, Gd_ft, Gd_ff, Gd_pos_t, Gd_neg_t, Gd_pos_f, Gd_neg_f, Gd_undef, If_t, If_f, If_pos, If_neg, CallF_eq, Max_two, Min_two, Len_rd, Len_own, Ld_blkE, Idx_rdN, Idx_ownN, Idx_rdE, Idx_ownE, IdxAE, LdA_two, Idx_at0, Ext_atE, Len_at, Int.toNat_natCast, Int.toNat_zero, Int.toNat_one, List.length_map, List.length_append, List.length_cons, List.length_nil, List.length_take, List.length_set, List.length_replicate, Bool.not_true, Bool.not_false, decide_true, decide_false, BEq.rfl, bne_self_eq_false, tf_beq, ft_beq, tf_bne, ft_bne, not_true_eq_false, not_false_eq_true, app]
          try rw [decide_eq_false c]
          try simp (disch := first | assumption | omega | (apply At.mk; with_unfolding_all rfl)) only [↓go_eq, ↓ent_eq, Mv, NilC_at, Fld_at, add_mk, Nat.zero_add, Nat.add_zero, Add64, Sub64, Mul64, Quo64, Rem64, Neg64, Cvt64, CvtU8, CvtU16, CvtU32, CvtU64, AddU64, SubU64, MulU64, Shr64, Shr_u8, Shr_u16, Shr_u32, Shr_u64, And1, And31, And32, Eql64, Neq64, Bin_lss, Bin_leq, Bin_gtr, Bin_geq, Bin_bool_eql, Bin_bool_neq, Bin_ptr_nil_eql, Bin_ptr_nil_neq, Not_dec, Un_not, Pick_t, Pick_f, Pick_pos, Pick_neg, Gd_tt, Gd_tf, Gd_ft, Gd_ff, Gd_pos_t, Gd_neg_t, Gd_pos_f, Gd_neg_f, Gd_undef, If_t, If_f, If_pos, If_neg, CallF_eq, Max_two, Min_two, Len_rd, Len_own, Ld_blkE, Idx_rdN, Idx_ownN, Idx_rdE, Idx_ownE, IdxAE, LdA_two, Idx_at0, Ext_atE, Len_at, Int.toNat_natCast, Int.toNat_zero, Int.toNat_one, List.length_map, List.length_append, List.length_cons, List.length_nil, List.length_take, List.length_set, List.length_replicate, Bool.not_true, Bool.not_false, decide_true, decide_false, BEq.rfl, bne_self_eq_false, tf_beq, ft_beq, tf_bne, ft_bne, not_true_eq_false, not_false_eq_true, app]
          refine hP' _ _ rfl ?_
          first | (rw [decide_eq_true_iff]; unfold WOk Fits; omega) | (simp only [Bool.false_eq_true, false_iff, true_iff]; unfold WOk Fits; omega)
      · try simp (disch := first | assumption | omega | (apply At.mk; with_unfolding_all rfl)) only [↓go_eq, ↓ent_eq, Mv, NilC_at, Fld_at, add_mk, Nat.zero_add, Nat.add_zero, Add64, Sub64, Mul64, Quo64, Rem64, Neg64, Cvt64, CvtU8, CvtU16, CvtU32, CvtU64, AddU64, SubU64, MulU64, Shr64, Shr_u8, Shr_u16, Shr_u32, Shr_u64, And1, And31, And32, Eql64, Neq64, Bin_lss, Bin_leq, Bin_gtr, Bin_geq, Bin_bool_eql, Bin_bool_neq, Bin_ptr_nil_eql, Bin_ptr_nil_neq, Not_dec, Un_not, Pick_t, Pick_f, Pick_pos, Pick_neg, Gd_tt, Gd_tf, Gd_ft, Gd_ff, Gd_pos_t, Gd_neg_t, Gd_pos_f, Gd_neg_f, Gd_undef, If_t, If_f, If_pos, If_neg, CallF_eq, Max_two, Min_two, Len_rd, Len_own, Ld_blkE, Idx_rdN, Idx_ownN, Idx_rdE, Idx_ownE, IdxAE, LdA_two, Idx_at0, Ext_atE, Len_at, Int.toNat_natCast, Int.toNat_zero, Int.toNat_one, List.length_map, List.length_append, List.length_cons, List.length_nil, List.length_take, List.length_set, List.length_replicate, Bool.not_true, Bool.not_false, decide_true, decide_false, BEq.rfl, bne_self_eq_false, tf_beq, ft_beq, tf_bne, ft_bne, not_true_eq_false, not_false_eq_true, app]
        try rw [decide_eq_false b2]
        try simp (disch := first | assumption | omega | (apply At.mk; with_unfolding_all rfl)) only [↓go_eq, ↓ent_eq, Mv, NilC_at, Fld_at, add_mk, Nat.zero_add, Nat.add_zero, Add64, Sub64, Mul64, Quo64, Rem64, Neg64, Cvt64, CvtU8, CvtU16, CvtU32, CvtU64, AddU64, SubU64, MulU64, Shr64, Shr_u8, Shr_u16, Shr_u32, Shr_u64, And1, And31, And32, Eql64, Neq64, Bin_lss, Bin_leq, Bin_gtr, Bin_geq, Bin_bool_eql, Bin_bool_neq, Bin_ptr_nil_eql, Bin_ptr_nil_neq, Not_dec, Un_not, Pick_t, Pick_f, Pick_pos, Pick_neg, Gd_tt, Gd_tf, Gd_ft, Gd_ff, Gd_pos_t, Gd_neg_t, Gd_pos_f, Gd_neg_f, Gd_undef, If_t, If_f, If_pos, If_neg, CallF_eq, Max_two, Min_two, Len_rd, Len_own, Ld_blkE, Idx_rdN, Idx_ownN, Idx_rdE, Idx_ownE, IdxAE, LdA_two, Idx_at0, Ext_atE, Len_at, Int.toNat_natCast, Int.toNat_zero, Int.toNat_one, List.length_map, List.length_append, List.length_cons, List.length_nil, List.length_take, List.length_set, List.length_replicate, Bool.not_true, Bool.not_false, decide_true, decide_false, BEq.rfl, bne_self_eq_false, tf_beq, ft_beq, tf_bne, ft_bne, not_true_eq_false, not_false_eq_true, app]
        refine hP' _ _ rfl ?_
        first | (rw [decide_eq_true_iff]; unfold WOk Fits; omega) | (simp only [Bool.false_eq_true, false_iff, true_iff]; unfold WOk Fits; omega)
    · try simp (disch := first | assumption | omega | (apply At.mk; with_unfolding_all rfl)) only [↓go_eq, ↓ent_eq, Mv, NilC_at, Fld_at, add_mk, Nat.zero_add, Nat.add_zero, Add64, Sub64, Mul64, Quo64, Rem64, Neg64, Cvt64, CvtU8, CvtU16, CvtU32, CvtU64, AddU64, SubU64, MulU64, Shr64, Shr_u8, Shr_u16, Shr_u32, Shr_u64, And1, And31, And32, Eql64, Neq64, Bin_lss, Bin_leq, Bin_gtr, Bin_geq, Bin_bool_eql, Bin_bool_neq, Bin_ptr_nil_eql, Bin_ptr_nil_neq, Not_dec, Un_not, Pick_t, Pick_f, Pick_pos, Pick_neg, Gd_tt, Gd_tf, Gd_ft, Gd_ff, Gd_pos_t, Gd_neg_t, Gd_pos_f, Gd_neg_f, Gd_undef, If_t, If_f, If_pos, If_neg, CallF_eq, Max_two, Min_two, Len_rd, Len_own, Ld_blkE, Idx_rdN, Idx_ownN, Idx_rdE, Idx_ownE, IdxAE, LdA_two, Idx_at0, Ext_atE, Len_at, Int.toNat_natCast, Int.toNat_zero, Int.toNat_one, List.length_map, List.length_append, List.length_cons, List.length_nil, List.length_take, List.length_set, List.length_replicate, Bool.not_true, Bool.not_false, decide_true, decide_false, BEq.rfl, bne_self_eq_false, tf_beq, ft_beq, tf_bne, ft_bne, not_true_eq_false, not_false_eq_true, app]
      try rw [decide_eq_false b1]
      try simp (disch := first | assumption | omega | (apply At.mk; with_unfolding_all rfl)) only [↓go_eq, ↓ent_eq, Mv, NilC_at, Fld_at, add_mk, Nat.zero_add, Nat.add_zero, Add64, Sub64, Mul64, Quo64, Rem64, Neg64, Cvt64, CvtU8, CvtU16, CvtU32, CvtU64, AddU64, SubU64, MulU64, Shr64, Shr_u8, Shr_u16, Shr_u32, Shr_u64, And1, And31, And32, Eql64, Neq64, Bin_lss, Bin_leq, Bin_gtr, Bin_geq, Bin_bool_eql, Bin_bool_neq, Bin_ptr_nil_eql, Bin_ptr_nil_neq, Not_dec, Un_not, Pick_t, Pick_f, Pick_pos, Pick_neg, Gd_tt, Gd_tf, Gd_ft, Gd_ff, Gd_pos_t, Gd_neg_t, Gd_pos_f, Gd_neg_f, Gd_undef, If_t, If_f, If_pos, If_neg, CallF_eq, Max_two, Min_two, Len_rd, Len_own, Ld_blkE, Idx_rdN, Idx_ownN, Idx_rdE, Idx_ownE, IdxAE, LdA_two, Idx_at0, Ext_atE, Len_at, Int.toNat_natCast, Int.toNat_zero, Int.toNat_one, List.length_map, List.length_append, List.length_cons, List.length_nil, List.length_take, List.length_set, List.length_replicate, Bool.not_true, Bool.not_false, decide_true, decide_false, BEq.rfl, bne_self_eq_false, tf_beq, ft_beq, tf_bne, ft_bne, not_true_eq_false, not_false_eq_true, app]
      refine hP' _ _ rfl ?_
      first | (rw [decide_eq_true_iff]; unfold WOk Fits; omega) | (simp only [Bool.false_eq_true, false_iff, true_iff]; unfold WOk Fits; omega)
  by_cases k2 : kind = 2
  · by_cases b1 : base = 0
    · by_cases b2 : noise ≥ 0
      · try simp (disch := first | assumption | omega | (apply At.mk; with_unfolding_all rfl)) only [↓go_eq, ↓ent_eq, Mv, NilC_at, Fld_at, add_mk, Nat.zero_add, Nat.add_zero, Add64, Sub64, Mul64, Quo64, Rem64, Neg64, Cvt64, CvtU8, CvtU16, CvtU32, CvtU64, AddU64, SubU64, MulU64, Shr64, Shr_u8, Shr_u16, Shr_u32, Shr_u64, And1, And31, And32, Eql64, Neq64, Bin_lss, Bin_leq, Bin_gtr, Bin_geq, Bin_bool_eql, Bin_bool_neq, Bin_ptr_nil_eql, Bin_ptr_nil_neq, Not_dec, Un_not, Pick_t, Pick_f, Pick_pos, Pick_neg, Gd_tt, Gd_tf, Gd_ft, Gd_ff, Gd_pos_t, Gd_neg_t, Gd_pos_f, Gd_neg_f, Gd_undef, If_t, If_f, If_pos, If_neg, CallF_eq, Max_two, Min_two, Len_rd, Len_own, Ld_blkE, Idx_rdN, Idx_ownN, Idx_rdE, Idx_ownE, IdxAE, LdA_two, Idx_at0, Ext_atE, Len_at, Int.toNat_natCast, Int.toNat_zero, Int.toNat_one, List.length_map, List.length_append, List.length_cons, List.length_nil, List.length_take, List.length_set, List.length_replicate, Bool.not_true, Bool.not_false, decide_true, decide_false, BEq.rfl, bne_self_eq_false, tf_beq, ft_beq, tf_bne, ft_bne, not_true_eq_false, not_false_eq_true, app]
        refine hP' _ _ rfl ?_
        first | (rw [decide_eq_true_iff]; unfold WOk Fits; omega) | (simp only [Bool.false_eq_true, false_iff, true_iff]; unfold WOk Fits; omega)
      · try simp (disch := first | assumption | omega | (apply At.mk; with_unfolding_all rfl)) only [↓go_eq, ↓ent_eq, Mv, NilC_at, Fld_at, add_mk, Nat.zero_add, Nat.add_zero, Add64, Sub64, Mul64, Quo64, Rem64, Neg64, Cvt64, CvtU8, CvtU16, CvtU32, CvtU64, AddU64, SubU64, MulU64, Shr64, Shr_u8, Shr_u16, Shr_u32, Shr_u64, And1, And31, And32, Eql64, Neq64, Bin_lss, Bin_leq, Bin_gtr, Bin_geq, Bin_bool_eql, Bin_bool_neq, Bin_ptr_nil_eql, Bin_ptr_nil_neq, Not_dec, Un_not, Pick_t, Pick_f, Pick_pos, Pick_neg, Gd_tt, Gd_tf, Gd_ft, Gd_ff, Gd_pos_t, Gd_neg_t, Gd_pos_f, Gd_neg_f, Gd_undef, If_t, If_f, If_pos, If_neg, CallF_eq, Max_two, Min_two, Len_rd, Len_own, Ld_blkE, Idx_rdN, Idx_ownN, Idx_rdE, Idx_ownE, IdxAE, LdA_two, Idx_at0, Ext_atE, Len_at, Int.toNat_natCast, Int.toNat_zero, Int.toNat_one, List.length_map, List.length_append, List.length_cons, List.length_nil, List.length_take, List.length_set, List.length_replicate, Bool.not_true, Bool.not_false, decide_true, decide_false, BEq.rfl, bne_self_eq_false, tf_beq, ft_beq, tf_bne, ft_bne, not_true_eq_false, not_false_eq_true, app]
        try rw [decide_eq_false b2]
        try simp (disch := first | assumption | omega | (apply At.mk; with_unfolding_all rfl)) only [↓go_eq, ↓ent_eq, Mv, NilC_at, Fld_at, add_mk, Nat.zero_add, Nat.add_zero, Add64, Sub64, Mul64, Quo64, Rem64, Neg64, Cvt64, CvtU8, CvtU16, CvtU32, CvtU64, AddU64, SubU64, MulU64, Shr64, Shr_u8, Shr_u16, Shr_u32, Shr_u64, And1, And31, And32, Eql64, Neq64, Bin_lss, Bin_leq, Bin_gtr, Bin_geq, Bin_bool_eql, Bin_bool_neq, Bin_ptr_nil_eql, Bin_ptr_nil_neq, Not_dec, Un_not, Pick_t, Pick_f, Pick_pos, Pick_neg, Gd_tt, Gd_tf, Gd_ft, Gd_ff, Gd_pos_t, Gd_neg_t, Gd_pos_f, Gd_neg_f, Gd_undef, If_t, If_f, If_pos, If_neg, CallF_eq, Max_two, Min_two, Len_rd, Len_own, Ld_blkE, Idx_rdN, Idx_ownN, Idx_rdE, Idx_ownE, IdxAE, LdA_two, Idx_at0, Ext_atE, Len_at, Int.toNat_natCast, Int.toNat_zero, Int.toNat_one, List.length_map, List.length_append, List.length_cons, List.length_nil, List.length_take, List.length_set, List.length_replicate, Bool.not_true, Bool.not_false, decide_true, decide_false, BEq.rfl, bne_self_eq_false, tf_beq, ft_beq, tf_bne, ft_bne, not_true_eq_false, not_false_eq_true, app]
        refine hP' _ _ rfl ?_
        first | (rw [decide_eq_true_iff]; unfold WOk Fits; omega) | (simp only [Bool.false_eq_true, false_iff, true_iff]; unfold WOk Fits; omega)
    · try simp (disch := first | assumption | omega | (apply At.mk; with_unfolding_all rfl)) only [↓go_eq, ↓ent_eq, Mv, NilC_at, Fld_at, add_mk, Nat.zero_add, Nat.add_zero, Add64, Sub64, Mul64, Quo64, Rem64, Neg64, Cvt64, CvtU8, CvtU16, CvtU32, CvtU64, AddU64, SubU64, MulU64, Shr64, Shr_u8, Shr_u16, Shr_u32, Shr_u64, And1, And31, And32, Eql64, Neq64, Bin_lss, Bin_leq, Bin_gtr, Bin_geq, Bin_bool_eql, Bin_bool_neq, Bin_ptr_nil_eql, Bin_ptr_nil_neq, Not_dec, Un_not, Pick_t, Pick_f, Pick_pos, Pick_neg, Gd_tt, Gd_tf, Gd_ft, Gd_ff, Gd_pos_t, Gd_neg_t, Gd_pos_f, Gd_neg_f, Gd_undef, If_t, If_f, If_pos, If_neg, CallF_eq, Max_two, Min_two, Len_rd, Len_own, Ld_blkE, Idx_rdN, Idx_ownN, Idx_rdE, Idx_ownE, IdxAE, LdA_two, Idx_at0, Ext_atE, Len_at, Int.toNat_natCast, Int.toNat_zero, Int.toNat_one, List.length_map, List.length_append, List.length_cons, List.length_nil, List.length_take, List.length_set, List.length_replicate, Bool.not_true, Bool.not_false, decide_true, decide_false, BEq.rfl, bne_self_eq_false, tf_beq, ft_beq, tf_bne, ft_bne, not_true_eq_false, not_false_eq_true, app]
      try rw [decide_eq_false b1]
      try simp (disch := first | assumption | omega | (apply At.mk; with_unfolding_all rfl)) only [↓go_eq, ↓ent_eq, Mv, NilC_at, Fld_at, add_mk, Nat.zero_add, Nat.add_zero, Add64, Sub64, Mul64, Quo64, Rem64, Neg64, Cvt64, CvtU8, CvtU16, CvtU32, CvtU64, AddU64, SubU64, MulU64, Shr64, Shr_u8, Shr_u16, Shr_u32, Shr_u64, And1, And31, And32, Eql64, Neq64, Bin_lss, Bin_leq, Bin_gtr, Bin_geq, Bin_bool_eql, Bin_bool_neq, Bin_ptr_nil_eql, Bin_ptr_nil_neq, Not_dec, Un_not, Pick_t, Pick_f, Pick_pos, Pick_neg, Gd_tt, Gd_tf, Gd_ft, Gd_ff, Gd_pos_t, Gd_neg_t, Gd_pos_f, Gd_neg_f, Gd_undef, If_t, If_f, If_pos, If_neg, CallF_eq, Max_two, Min_two, Len_rd, Len_own, Ld_blkE, Idx_rdN, Idx_ownN, Idx_rdE, Idx_ownE, IdxAE, LdA_two, Idx_at0, Ext_atE, Len_at, Int.toNat_natCast, Int.toNat_zero, Int.toNat_one, List.length_map, List.length_append, List.length_cons, List.length_nil, List.length_take, List.length_set, List.length_replicate, Bool.not_true, Bool.not_false, decide_true, decide_false, BEq.rfl, bne_self_eq_false, tf_beq, ft_beq, tf_bne, ft_bne, not_true_eq_false, not_false_eq_true, app]
      refine hP' _ _ rfl ?_
      first | (rw [decide_eq_true_iff]; unfold WOk Fits; omega) | (simp only [Bool.false_eq_true, false_iff, true_iff]; unfold WOk Fits; omega)
  · try simp (disch := first | assumption | omega | (apply At.mk; with_unfolding_all rfl)) only [↓go_eq, ↓ent_eq, Mv, NilC_at, Fld_at, add_mk, Nat.zero_add, Nat.add_zero, Add64, Sub64, Mul64, Quo64, Rem64, Neg64, Cvt64, CvtU8, CvtU16, CvtU32, CvtU64, AddU64, SubU64, MulU64, Shr64, Shr_u8, Shr_u16, Shr_u32, Shr_u64, And1, And31, And32, Eql64, Neq64, Bin_lss, Bin_leq, Bin_gtr, Bin_geq, Bin_bool_eql, Bin_bool_neq, Bin_ptr_nil_eql, Bin_ptr_nil_neq, Not_dec, Un_not, Pick_t, Pick_f, Pick_pos, Pick_neg, Gd_tt, Gd_tf, Gd_ft, Gd_ff, Gd_pos_t, Gd_neg_t, Gd_pos_f, Gd_neg_f, Gd_undef, If_t, If_f, If_pos, If_neg, CallF_eq, Max_two, Min_two, Len_rd, Len_own, Ld_blkE, Idx_rdN, Idx_ownN, Idx_rdE, Idx_ownE, IdxAE, LdA_two, Idx_at0, Ext_atE, Len_at, Int.toNat_natCast, Int.toNat_zero, Int.toNat_one, List.length_map, List.length_append, List.length_cons, List.length_nil, List.length_take, List.length_set, List.length_replicate, Bool.not_true, Bool.not_false, decide_true, decide_false, BEq.rfl, bne_self_eq_false, tf_beq, ft_beq, tf_bne, ft_bne, not_true_eq_false, not_false_eq_true, app]
    refine hP' _ _ rfl ?_
    first | (rw [decide_eq_true_iff]; unfold WOk Fits; omega) | (simp only [Bool.false_eq_true, false_iff, true_iff]; unfold WOk Fits; omega)
set_option maxHeartbeats 4000000 in
theorem bradawllaw15_WalkRights.spec {a kind base noise : Int} {xss : List (List Int)} {ws : List Value} {v : Value} (ha : 0 ≤ a ∧ a ≤ 255) (hcl : ∀ c ∈ xss, c.length ≤ 140737488351232) {K : Ret} {h : Heap} (hv : RdX (.int .i16) h v xss ws)
    (hk : ∀ h', Fr [] h h' → K (.bool true) h') : CallH Try.prog bradawllaw15_WalkRights.id #[.agg #[Iv kind, Iv base, Iv noise], .agg #[.int .u8 a, v]] K h := by
  refine bradawllaw15_WalkRights.ok ?_
  simp only [bradawllaw15_WalkRights.pt]
  rw [go_eq]
  refine New_blk fun h1 b1 f1 s1 => ?_
  have b1 : Blk h1 h.size [Iv kind, Iv base, Iv noise] := b1
  rw [go_eq]
  refine New_blk fun h2 b2 f2 s2 => ?_
  have b2 : Blk h2 h1.size [.int .u8 a, v] := b2
  have b12 := b1.fr f2 (by simp)
  have a0 : At [Iv kind, Iv base, Iv noise] (0 + (0 : Int).toNat) (Iv kind) := ⟨rfl⟩
  have a1 : At [Iv kind, Iv base, Iv noise] (0 + (1 : Int).toNat) (Iv base) := ⟨rfl⟩
  have a2 : At [Iv kind, Iv base, Iv noise] (0 + (2 : Int).toNat) (Iv noise) := ⟨rfl⟩
  rw [go_eq, IdxAE (by decide) (by decide), go_eq, Ld_blkE b12 a0, go_eq, IdxAE (by decide) (by decide), go_eq, Ld_blkE b12 a1, go_eq, IdxAE (by decide) (by decide), go_eq, Ld_blkE b12 a2]
  rw [go_eq, CallF_eq]
  refine bradawllaw15_fit.spec fun h3 f3 => ?_
  have b3 := b2.fr f3 (by simp)
  have f03 := (f1.trans f2).trans f3
  rw [go_eq, Un_not, Bool.not_true, If_f, go_eq, LdA_two b3, go_eq, CallF_eq]
  refine bradawllaw02_Raw_Light.spec (m := 40) (by decide) hcl (hv.fr f03) fun h4 f4 => ⟨fun hL => ?_, ?_⟩
  rotate_left
  · rw [go_eq, Un_not, Bool.not_false, If_t]
    exact hk h4 (f03.trans f4)
  obtain ⟨hL1, hL2⟩ := hL
  have b4 := b3.fr f4 (by simp)
  have f04 := f03.trans f4
  rw [go_eq, Un_not, Bool.not_true, If_f]
  refine want_go fun want hwant => ?_
  rw [go_eq, LdA_two b4, go_eq, CallF_eq]
  refine bradawllaw02_Raw_Formula.spec (vars := 12) (w := 6) ha (by omega) (by omega) (by omega) (fun c hc => by have := hL2 c hc; omega) (hv.fr f04) fun u b0 ps h5 oF hcs f5 => ?_
  have hok := rawF_ok (a % (((12 : Nat) : Int) + 1)).toNat 6 xss
  have hlen := rawF_len (a % (((12 : Nat) : Int) + 1)).toNat 6 xss
  have hcl9 := rawF_cl (a % (((12 : Nat) : Int) + 1)).toNat 6 xss
  have hn9 : (a % (((12 : Nat) : Int) + 1)).toNat ≤ 12 := by omega
  generalize rawF (a % (((12 : Nat) : Int) + 1)).toNat 6 xss = cs at *
  generalize (a % (((12 : Nat) : Int) + 1)).toNat = n at *
  have rd5 := oF.rdl
  rw [hcs] at rd5
  rw [go_eq]
  refine New_blk fun h6 b6 f6 s6 => ?_
  have b6 : Blk h6 h5.size [Iv 0, nilS] := b6
  rw [go_eq]
  refine StA_two b6 rfl oF.own.rd.isCell fun h7 b7 f7 => ?_
  have f57 : Fr [] h5 h7 := f6.trans' f7 fun b hb => .inr (by simp at hb; omega)
  have rd7 := rd5.fr f57
  have f07 := (f04.trans f5).trans f57
  have hW : WOk 2 0 0 := .inr ⟨rfl, rfl, by decide, by decide⟩
  refine Jn_fn (σ := Nat) (fun x => [Iv kind, Iv base, Iv noise, .bool want, ptr x, Iv 1]) (fun x h' => Blk h' x [nilS, Iv 0, Iv 0] ∧ Fr [] h7 h') ?_ ?_
  · intro J hJ
    have fin : ∀ {x : Nat} {h'}, Blk h' x [nilS, Iv 0, Iv 0] → Fr [] h7 h' → J (Iv kind) (Iv base) (Iv noise) (.bool want) (ptr x) (Iv 1) h' := fun b f => hJ _ _ ⟨b, f⟩
    clear hJ
    have vc : Iv (n : Int) = .int .i64 n := rfl
    have a0 : At [Iv n, u] 0 (Iv n) := ⟨rfl⟩
    rw [go_eq, LdA_two b7, go_eq, Fld_at, go_eq, add_mk, Ld_blkE b7 a0, go_eq, Add64 _ (by omega) (by omega), go_eq, bld_way0 (x := undef)]
    have e1 : (n : Int) + 1 = ((n + 1 : Nat) : Int) := by omega
    rw [e1]
    have fg := Fr.refl [] h7
    have rdg := rd7
    repeat' first
      | refine And.intro ?_ ?_
      | (rw [go_eq]; refine MkS_one (x := .bool false) (n := n + 1) (by omega) (by omega) fun h' om f' sz => ?_
         rw [show List.replicate (n + 1) (Value.bool false) = (List.replicate (n + 1) false).map Value.bool from by rw [List.map_replicate]] at om
         try replace hs := hs.fr f' (by simp)
         try replace bt := bt.fr f' (by simp)
         try replace rdg := rdg.fr f'
         replace fg := fg.trans f'
         clear f' sz)
      | (rw [go_eq]; refine new_a (ws := []) (x := 1#64) (Own.nil _).rd (by decide) fun g h' Fp hs f' hFp => ?_
         try replace om := om.fr f' (by simp)
         try replace bt := bt.fr f' (by simp)
         try replace rdg := rdg.fr f'
         have hN : ∀ b ∈ Fp, h7.size ≤ b := fun b hb => by have := hFp b hb; have := fg.size; omega
         replace fg := fg.trans f'
         clear f' hFp)
      | (rw [go_eq]; refine New_blk fun h' bt f' sz => ?_
         have bt : Blk h' _ [nilS, Iv 0, Iv 0] := bt
         have hbt := fg.size
         try replace om := om.fr f' (by simp)
         try replace hs := hs.fr f' (by simp)
         try replace rdg := rdg.fr f'
         replace fg := fg.trans f'
         clear f' sz)
      | (rw [go_eq, CallF_eq]; refine walk_Walk.spec (N := h7.size) (a := List.replicate (n + 1) false) (fun _ _ _ _ => True) hW (by omega) (by omega) (fun c hc => by have := hcl9 c hc; omega) hok rdg om.rd (by simp; omega) hs hN fg.size (by decide) (by simp) (by decide) (fun _ => trivial) (fun _ _ _ _ _ _ _ _ => trivial) (fun _ h' f' => ?_) (fun q => absurd q (by simp))
         try replace bt := bt.fr f' (by simp)
         replace fg := fg.trans f'
         rw [go_eq, Ext_atE ⟨rfl⟩, go_eq, Ext_atE ⟨rfl⟩])
      | (rw [go_eq]; refine StA_three bt rfl rfl rfl fun h' b' f' => ?_
         exact fin b' (fg.trans' f' fun b hb => .inr (by simp at hb; rw [hb]; exact hbt)))
  · rintro x h8 ⟨b8, f8⟩
    simp only [app]
    rw [go_eq, bld_way012, go_eq]
    refine right_a kind base noise fun b h9 hb f9 => ?_
    have b9 := b8.fr f9 (by simp)
    have e : b = want := by rw [Bool.eq_iff_iff, hb, hwant]
    subst e
    have hKK := hk h9 ((f07.trans f8).trans f9)
    rw [go_eq, Bin_bool_eql, BEq.rfl]
    try simp (disch := first | assumption | omega | (apply At.mk; with_unfolding_all rfl)) only [↓go_eq, ↓ent_eq, Mv, NilC_at, Fld_at, add_mk, Nat.zero_add, Nat.add_zero, Add64, Sub64, Mul64, Quo64, Rem64, Neg64, Cvt64, CvtU8, CvtU16, CvtU32, CvtU64, AddU64, SubU64, MulU64, Shr64, Shr_u8, Shr_u16, Shr_u32, Shr_u64, And1, And31, And32, Eql64, Neq64, Bin_lss, Bin_leq, Bin_gtr, Bin_geq, Bin_bool_eql, Bin_bool_neq, Bin_ptr_nil_eql, Bin_ptr_nil_neq, Not_dec, Un_not, Pick_t, Pick_f, Pick_pos, Pick_neg, Gd_tt, Gd_tf, Gd_ft, Gd_ff, Gd_pos_t, Gd_neg_t, Gd_pos_f, Gd_neg_f, Gd_undef, If_t, If_f, If_pos, If_neg, CallF_eq, Max_two, Min_two, Len_rd, Len_own, Ld_blkE, Idx_rdN, Idx_ownN, Idx_rdE, Idx_ownE, IdxAE, LdA_two, Idx_at0, Ext_atE, Len_at, Int.toNat_natCast, Int.toNat_zero, Int.toNat_one, List.length_map, List.length_append, List.length_cons, List.length_nil, List.length_take, List.length_set, List.length_replicate, Bool.not_true, Bool.not_false, decide_true, decide_false, BEq.rfl, bne_self_eq_false, tf_beq, ft_beq, tf_bne, ft_bne, not_true_eq_false, not_false_eq_true, app]
    exact hKK
theorem triple_arg {k : IntKind} {h : Heap} {xs : List Int} {cs : Array Value} (r : (rArr 3 (rInt k) 1).is h xs cs.toList) : ∃ x y z : Int, cs = #[.int k x, .int k y, .int k z] ∧ (k.min ≤ x ∧ x ≤ k.max) ∧ (k.min ≤ y ∧ y ≤ k.max) ∧ (k.min ≤ z ∧ z ≤ k.max) := by
  obtain ⟨h1, h2, h3⟩ := r
  match xs, h1 with
  | [a, b, c], _ =>
    obtain ⟨l⟩ := cs
    match l, h2 with
    | [d, e, f], _ =>
      obtain ⟨e0, l0, u0⟩ := h3 0 a rfl
      obtain ⟨e1, l1, u1⟩ := h3 1 b rfl
      obtain ⟨e2, l2, u2⟩ := h3 2 c rfl
      have e0 : d = .int k a := by simpa using e0
      have e1 : e = .int k b := by simpa using e1
      have e2 : f = .int k c := by simpa using e2
      exact ⟨a, b, c, by rw [e0, e1, e2], ⟨l0, u0⟩, ⟨l1, u1⟩, ⟨l2, u2⟩⟩
theorem bradawllaw15_WalkRights.law {h : Heap} {a0 : List Int} {a1 : Int × List (List Int)} {cs0 cs1 : Array Value} (r0 : (rArr 3 (rInt .i64) 1).is h a0 cs0.toList) (r1 : rRaw.is h a1 cs1.toList) :
    CallH Try.prog bradawllaw15_WalkRights.id #[.agg cs0, .agg cs1] (fun v h' => v = .bool true ∧ Fr [] h h') h := by
  obtain ⟨x, y, z, rfl, _, _, _⟩ := triple_arg r0
  obtain ⟨v, ws, rfl, h1, h2, h3⟩ := raw_arg r1
  exact bradawllaw15_WalkRights.spec h1 h2 h3 fun h' f => ⟨rfl, f⟩
end Go.Proofs.Ytonngdjfnnibaaa
