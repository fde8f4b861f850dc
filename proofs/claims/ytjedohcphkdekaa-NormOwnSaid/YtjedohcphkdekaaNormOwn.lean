/- The law NormOwn. No condition but that the arguments lie in memory, laid by Go. -/
import Derived.Test.YtjedohcphkdekaaNl
namespace Go.Proofs.Ytjedohcphkdekaa
open Go.Pt
set_option linter.unusedVariables false
set_option linter.unusedSimpArgs false
set_option maxHeartbeats 8000000 in
theorem bradawllaw04_NormOwn.spec {l m : List Int} {v w : Value} (h8 : i8s l) (h8' : i8s m) {K : Ret} {h : Heap} (hl0 : l.length ≤ 140737488351232) (hm0 : m.length ≤ 140737488351232) (hv : Rd h v (l.map (.int .i8))) (hw : Rd h w (m.map (.int .i8))) (hk : ∀ h', Fr [] h h' → K (.bool true) h') : CallH Try.prog bradawllaw04_NormOwn.id #[v, w] K h := by
  refine bradawllaw04_NormOwn.ok ?_
  simp only [bradawllaw04_NormOwn.pt]
  try simp (disch := first | assumption | omega | (apply At.mk; with_unfolding_all rfl)) only [↓go_eq, ↓ent_eq, Mv, NilC_at, Fld_at, add_mk, Nat.zero_add, Nat.add_zero, Add64, Sub64, Mul64, Quo64, Rem64, Neg64, Cvt64, CvtU8, CvtU16, CvtU32, CvtU64, AddU64, SubU64, MulU64, Shr64, Shr_u8, Shr_u16, Shr_u32, Shr_u64, And1, And31, And32, Eql64, Neq64, Bin_lss, Bin_leq, Bin_gtr, Bin_geq, Bin_bool_eql, Bin_bool_neq, Bin_ptr_nil_eql, Bin_ptr_nil_neq, Not_dec, Un_not, Pick_t, Pick_f, Pick_pos, Pick_neg, Gd_tt, Gd_tf, Gd_ft, Gd_ff, Gd_pos_t, Gd_neg_t, Gd_pos_f, Gd_neg_f, Gd_undef, If_t, If_f, If_pos, If_neg, CallF_eq, Max_two, Min_two, Len_rd, Len_own, Ld_blkE, Idx_rdN, Idx_ownN, Idx_rdE, Idx_ownE, IdxAE, LdA_two, Idx_at0, Ext_atE, Len_at, Int.toNat_natCast, Int.toNat_zero, Int.toNat_one, List.length_map, List.length_append, List.length_cons, List.length_nil, List.length_take, List.length_set, List.length_replicate, Bool.not_true, Bool.not_false, decide_true, decide_false, BEq.rfl, bne_self_eq_false, tf_beq, ft_beq, tf_bne, ft_bne, not_true_eq_false, not_false_eq_true, app]
  refine bradawllaw04_fit.spec fun h1 f1 => ?_
  have hv1 := hv.fr f1
  have hw1 := hw.fr f1
  try simp (disch := first | assumption | omega | (apply At.mk; with_unfolding_all rfl)) only [↓go_eq, ↓ent_eq, Mv, NilC_at, Fld_at, add_mk, Nat.zero_add, Nat.add_zero, Add64, Sub64, Mul64, Quo64, Rem64, Neg64, Cvt64, CvtU8, CvtU16, CvtU32, CvtU64, AddU64, SubU64, MulU64, Shr64, Shr_u8, Shr_u16, Shr_u32, Shr_u64, And1, And31, And32, Eql64, Neq64, Bin_lss, Bin_leq, Bin_gtr, Bin_geq, Bin_bool_eql, Bin_bool_neq, Bin_ptr_nil_eql, Bin_ptr_nil_neq, Not_dec, Un_not, Pick_t, Pick_f, Pick_pos, Pick_neg, Gd_tt, Gd_tf, Gd_ft, Gd_ff, Gd_pos_t, Gd_neg_t, Gd_pos_f, Gd_neg_f, Gd_undef, If_t, If_f, If_pos, If_neg, CallF_eq, Max_two, Min_two, Len_rd, Len_own, Ld_blkE, Idx_rdN, Idx_ownN, Idx_rdE, Idx_ownE, IdxAE, LdA_two, Idx_at0, Ext_atE, Len_at, Int.toNat_natCast, Int.toNat_zero, Int.toNat_one, List.length_map, List.length_append, List.length_cons, List.length_nil, List.length_take, List.length_set, List.length_replicate, Bool.not_true, Bool.not_false, decide_true, decide_false, BEq.rfl, bne_self_eq_false, tf_beq, ft_beq, tf_bne, ft_bne, not_true_eq_false, not_false_eq_true, app]
  by_cases c1 : ((l.length : Nat) : Int) + (m.length : Nat) > 60
  · try simp (disch := first | assumption | omega | (apply At.mk; with_unfolding_all rfl)) only [↓go_eq, ↓ent_eq, Mv, NilC_at, Fld_at, add_mk, Nat.zero_add, Nat.add_zero, Add64, Sub64, Mul64, Quo64, Rem64, Neg64, Cvt64, CvtU8, CvtU16, CvtU32, CvtU64, AddU64, SubU64, MulU64, Shr64, Shr_u8, Shr_u16, Shr_u32, Shr_u64, And1, And31, And32, Eql64, Neq64, Bin_lss, Bin_leq, Bin_gtr, Bin_geq, Bin_bool_eql, Bin_bool_neq, Bin_ptr_nil_eql, Bin_ptr_nil_neq, Not_dec, Un_not, Pick_t, Pick_f, Pick_pos, Pick_neg, Gd_tt, Gd_tf, Gd_ft, Gd_ff, Gd_pos_t, Gd_neg_t, Gd_pos_f, Gd_neg_f, Gd_undef, If_t, If_f, If_pos, If_neg, CallF_eq, Max_two, Min_two, Len_rd, Len_own, Ld_blkE, Idx_rdN, Idx_ownN, Idx_rdE, Idx_ownE, IdxAE, LdA_two, Idx_at0, Ext_atE, Len_at, Int.toNat_natCast, Int.toNat_zero, Int.toNat_one, List.length_map, List.length_append, List.length_cons, List.length_nil, List.length_take, List.length_set, List.length_replicate, Bool.not_true, Bool.not_false, decide_true, decide_false, BEq.rfl, bne_self_eq_false, tf_beq, ft_beq, tf_bne, ft_bne, not_true_eq_false, not_false_eq_true, app]
    exact hk h1 f1
  try simp (disch := first | assumption | omega | (apply At.mk; with_unfolding_all rfl)) only [↓go_eq, ↓ent_eq, Mv, NilC_at, Fld_at, add_mk, Nat.zero_add, Nat.add_zero, Add64, Sub64, Mul64, Quo64, Rem64, Neg64, Cvt64, CvtU8, CvtU16, CvtU32, CvtU64, AddU64, SubU64, MulU64, Shr64, Shr_u8, Shr_u16, Shr_u32, Shr_u64, And1, And31, And32, Eql64, Neq64, Bin_lss, Bin_leq, Bin_gtr, Bin_geq, Bin_bool_eql, Bin_bool_neq, Bin_ptr_nil_eql, Bin_ptr_nil_neq, Not_dec, Un_not, Pick_t, Pick_f, Pick_pos, Pick_neg, Gd_tt, Gd_tf, Gd_ft, Gd_ff, Gd_pos_t, Gd_neg_t, Gd_pos_f, Gd_neg_f, Gd_undef, If_t, If_f, If_pos, If_neg, CallF_eq, Max_two, Min_two, Len_rd, Len_own, Ld_blkE, Idx_rdN, Idx_ownN, Idx_rdE, Idx_ownE, IdxAE, LdA_two, Idx_at0, Ext_atE, Len_at, Int.toNat_natCast, Int.toNat_zero, Int.toNat_one, List.length_map, List.length_append, List.length_cons, List.length_nil, List.length_take, List.length_set, List.length_replicate, Bool.not_true, Bool.not_false, decide_true, decide_false, BEq.rfl, bne_self_eq_false, tf_beq, ft_beq, tf_bne, ft_bne, not_true_eq_false, not_false_eq_true, app]
  refine bradawllaw04_clause.spec (by omega) h8 hv1 fun u bu h2 o2 hb2 f2 => ?_
  have hv2 := hv1.fr f2
  have hw2 := hw1.fr f2
  have hc2 := o2.rd
  try simp (disch := first | assumption | omega | (apply At.mk; with_unfolding_all rfl)) only [↓go_eq, ↓ent_eq, Mv, NilC_at, Fld_at, add_mk, Nat.zero_add, Nat.add_zero, Add64, Sub64, Mul64, Quo64, Rem64, Neg64, Cvt64, CvtU8, CvtU16, CvtU32, CvtU64, AddU64, SubU64, MulU64, Shr64, Shr_u8, Shr_u16, Shr_u32, Shr_u64, And1, And31, And32, Eql64, Neq64, Bin_lss, Bin_leq, Bin_gtr, Bin_geq, Bin_bool_eql, Bin_bool_neq, Bin_ptr_nil_eql, Bin_ptr_nil_neq, Not_dec, Un_not, Pick_t, Pick_f, Pick_pos, Pick_neg, Gd_tt, Gd_tf, Gd_ft, Gd_ff, Gd_pos_t, Gd_neg_t, Gd_pos_f, Gd_neg_f, Gd_undef, If_t, If_f, If_pos, If_neg, CallF_eq, Max_two, Min_two, Len_rd, Len_own, Ld_blkE, Idx_rdN, Idx_ownN, Idx_rdE, Idx_ownE, IdxAE, LdA_two, Idx_at0, Ext_atE, Len_at, Int.toNat_natCast, Int.toNat_zero, Int.toNat_one, List.length_map, List.length_append, List.length_cons, List.length_nil, List.length_take, List.length_set, List.length_replicate, Bool.not_true, Bool.not_false, decide_true, decide_false, BEq.rfl, bne_self_eq_false, tf_beq, ft_beq, tf_bne, ft_bne, not_true_eq_false, not_false_eq_true, app]
  refine bradawllaw04_clause.spec (by omega) h8' hw2 fun u' bu' h3 o3 hb3 f3 => ?_
  have hv3 := hv2.fr f3
  have hw3 := hw2.fr f3
  have hc3 := hc2.fr f3
  have hd3 := o3.rd
  try simp (disch := first | assumption | omega | (apply At.mk; with_unfolding_all rfl)) only [↓go_eq, ↓ent_eq, Mv, NilC_at, Fld_at, add_mk, Nat.zero_add, Nat.add_zero, Add64, Sub64, Mul64, Quo64, Rem64, Neg64, Cvt64, CvtU8, CvtU16, CvtU32, CvtU64, AddU64, SubU64, MulU64, Shr64, Shr_u8, Shr_u16, Shr_u32, Shr_u64, And1, And31, And32, Eql64, Neq64, Bin_lss, Bin_leq, Bin_gtr, Bin_geq, Bin_bool_eql, Bin_bool_neq, Bin_ptr_nil_eql, Bin_ptr_nil_neq, Not_dec, Un_not, Pick_t, Pick_f, Pick_pos, Pick_neg, Gd_tt, Gd_tf, Gd_ft, Gd_ff, Gd_pos_t, Gd_neg_t, Gd_pos_f, Gd_neg_f, Gd_undef, If_t, If_f, If_pos, If_neg, CallF_eq, Max_two, Min_two, Len_rd, Len_own, Ld_blkE, Idx_rdN, Idx_ownN, Idx_rdE, Idx_ownE, IdxAE, LdA_two, Idx_at0, Ext_atE, Len_at, Int.toNat_natCast, Int.toNat_zero, Int.toNat_one, List.length_map, List.length_append, List.length_cons, List.length_nil, List.length_take, List.length_set, List.length_replicate, Bool.not_true, Bool.not_false, decide_true, decide_false, BEq.rfl, bne_self_eq_false, tf_beq, ft_beq, tf_bne, ft_bne, not_true_eq_false, not_false_eq_true, app]
  refine bradawllaw04_clause.spec (by omega) h8 hv3 fun q bq h4 o4 hb4 f4 => ?_
  have hw4 := hw3.fr f4
  try simp (disch := first | assumption | omega | (apply At.mk; with_unfolding_all rfl)) only [↓go_eq, ↓ent_eq, Mv, NilC_at, Fld_at, add_mk, Nat.zero_add, Nat.add_zero, Add64, Sub64, Mul64, Quo64, Rem64, Neg64, Cvt64, CvtU8, CvtU16, CvtU32, CvtU64, AddU64, SubU64, MulU64, Shr64, Shr_u8, Shr_u16, Shr_u32, Shr_u64, And1, And31, And32, Eql64, Neq64, Bin_lss, Bin_leq, Bin_gtr, Bin_geq, Bin_bool_eql, Bin_bool_neq, Bin_ptr_nil_eql, Bin_ptr_nil_neq, Not_dec, Un_not, Pick_t, Pick_f, Pick_pos, Pick_neg, Gd_tt, Gd_tf, Gd_ft, Gd_ff, Gd_pos_t, Gd_neg_t, Gd_pos_f, Gd_neg_f, Gd_undef, If_t, If_f, If_pos, If_neg, CallF_eq, Max_two, Min_two, Len_rd, Len_own, Ld_blkE, Idx_rdN, Idx_ownN, Idx_rdE, Idx_ownE, IdxAE, LdA_two, Idx_at0, Ext_atE, Len_at, Int.toNat_natCast, Int.toNat_zero, Int.toNat_one, List.length_map, List.length_append, List.length_cons, List.length_nil, List.length_take, List.length_set, List.length_replicate, Bool.not_true, Bool.not_false, decide_true, decide_false, BEq.rfl, bne_self_eq_false, tf_beq, ft_beq, tf_bne, ft_bne, not_true_eq_false, not_false_eq_true, app]
  refine bradawllaw04_clause.spec (by omega) h8' hw4 fun q' bq' h5 o5 hb5 f5 => ?_
  have rc := (hc3.fr f4).fr f5
  have rd := (hd3.fr f4).fr f5
  have rp := o4.rd.fr f5
  have rq := o5.rd
  have f05 := (((f1.trans f2).trans f3).trans f4).trans f5
  have lc := nz_len l
  have ld := nz_len m
  have smc := nz_sm h8
  have smd := nz_sm h8'
  have nec := nz_ne (l := l)
  clear hv1 hw1 o2 o3 hb2 hb3 hw hv hv2 hw2 hc2 hv3 hw3 hc3 hd3 o4 o5 hb4 hb5 hw4 f1 f2 f3 f4 f5
  generalize nz l = c at *
  generalize nz m = d at *
  try simp (disch := first | assumption | omega | (apply At.mk; with_unfolding_all rfl)) only [↓go_eq, ↓ent_eq, Mv, NilC_at, Fld_at, add_mk, Nat.zero_add, Nat.add_zero, Add64, Sub64, Mul64, Quo64, Rem64, Neg64, Cvt64, CvtU8, CvtU16, CvtU32, CvtU64, AddU64, SubU64, MulU64, Shr64, Shr_u8, Shr_u16, Shr_u32, Shr_u64, And1, And31, And32, Eql64, Neq64, Bin_lss, Bin_leq, Bin_gtr, Bin_geq, Bin_bool_eql, Bin_bool_neq, Bin_ptr_nil_eql, Bin_ptr_nil_neq, Not_dec, Un_not, Pick_t, Pick_f, Pick_pos, Pick_neg, Gd_tt, Gd_tf, Gd_ft, Gd_ff, Gd_pos_t, Gd_neg_t, Gd_pos_f, Gd_neg_f, Gd_undef, If_t, If_f, If_pos, If_neg, CallF_eq, Max_two, Min_two, Len_rd, Len_own, Ld_blkE, Idx_rdN, Idx_ownN, Idx_rdE, Idx_ownE, IdxAE, LdA_two, Idx_at0, Ext_atE, Len_at, Int.toNat_natCast, Int.toNat_zero, Int.toNat_one, List.length_map, List.length_append, List.length_cons, List.length_nil, List.length_take, List.length_set, List.length_replicate, Bool.not_true, Bool.not_false, decide_true, decide_false, BEq.rfl, bne_self_eq_false, tf_beq, ft_beq, tf_bne, ft_bne, not_true_eq_false, not_false_eq_true, app]
  refine norm_Clause.spec (by omega) smc rc fun x1 b1 h6 o6 hb6 f6 => ?_
  have rc6 := rc.fr f6
  have l1 := nf_len c
  try simp (disch := first | assumption | omega | (apply At.mk; with_unfolding_all rfl)) only [↓go_eq, ↓ent_eq, Mv, NilC_at, Fld_at, add_mk, Nat.zero_add, Nat.add_zero, Add64, Sub64, Mul64, Quo64, Rem64, Neg64, Cvt64, CvtU8, CvtU16, CvtU32, CvtU64, AddU64, SubU64, MulU64, Shr64, Shr_u8, Shr_u16, Shr_u32, Shr_u64, And1, And31, And32, Eql64, Neq64, Bin_lss, Bin_leq, Bin_gtr, Bin_geq, Bin_bool_eql, Bin_bool_neq, Bin_ptr_nil_eql, Bin_ptr_nil_neq, Not_dec, Un_not, Pick_t, Pick_f, Pick_pos, Pick_neg, Gd_tt, Gd_tf, Gd_ft, Gd_ff, Gd_pos_t, Gd_neg_t, Gd_pos_f, Gd_neg_f, Gd_undef, If_t, If_f, If_pos, If_neg, CallF_eq, Max_two, Min_two, Len_rd, Len_own, Ld_blkE, Idx_rdN, Idx_ownN, Idx_rdE, Idx_ownE, IdxAE, LdA_two, Idx_at0, Ext_atE, Len_at, Int.toNat_natCast, Int.toNat_zero, Int.toNat_one, List.length_map, List.length_append, List.length_cons, List.length_nil, List.length_take, List.length_set, List.length_replicate, Bool.not_true, Bool.not_false, decide_true, decide_false, BEq.rfl, bne_self_eq_false, tf_beq, ft_beq, tf_bne, ft_bne, not_true_eq_false, not_false_eq_true, app]
  refine norm_Without.spec (by omega) smc rc6 fun x2 b2 h7 o7 hb7 f7 => ?_
  have rc7 := rc6.fr f7
  have rd7 := (rd.fr f6).fr f7
  have l2 := wo_len 1 c
  try simp (disch := first | assumption | omega | (apply At.mk; with_unfolding_all rfl)) only [↓go_eq, ↓ent_eq, Mv, NilC_at, Fld_at, add_mk, Nat.zero_add, Nat.add_zero, Add64, Sub64, Mul64, Quo64, Rem64, Neg64, Cvt64, CvtU8, CvtU16, CvtU32, CvtU64, AddU64, SubU64, MulU64, Shr64, Shr_u8, Shr_u16, Shr_u32, Shr_u64, And1, And31, And32, Eql64, Neq64, Bin_lss, Bin_leq, Bin_gtr, Bin_geq, Bin_bool_eql, Bin_bool_neq, Bin_ptr_nil_eql, Bin_ptr_nil_neq, Not_dec, Un_not, Pick_t, Pick_f, Pick_pos, Pick_neg, Gd_tt, Gd_tf, Gd_ft, Gd_ff, Gd_pos_t, Gd_neg_t, Gd_pos_f, Gd_neg_f, Gd_undef, If_t, If_f, If_pos, If_neg, CallF_eq, Max_two, Min_two, Len_rd, Len_own, Ld_blkE, Idx_rdN, Idx_ownN, Idx_rdE, Idx_ownE, IdxAE, LdA_two, Idx_at0, Ext_atE, Len_at, Int.toNat_natCast, Int.toNat_zero, Int.toNat_one, List.length_map, List.length_append, List.length_cons, List.length_nil, List.length_take, List.length_set, List.length_replicate, Bool.not_true, Bool.not_false, decide_true, decide_false, BEq.rfl, bne_self_eq_false, tf_beq, ft_beq, tf_bne, ft_bne, not_true_eq_false, not_false_eq_true, app]
  refine norm_Resolve.spec (by omega) (by omega) ⟨by decide, by decide⟩ smc smd rc7 rd7 fun x3 b3 h8' o8 hb8 f8 => ?_
  have l3 : (nf (wo 1 c ++ wo (-1) d)).length ≤ c.length + d.length := Nat.le_trans (nf_len _) (by rw [List.length_append]; have := wo_len (-1) d; omega)
  have i1 := o6.rd.isCell
  have i2 := o7.rd.isCell
  have i3 := o8.rd.isCell
  try simp (disch := first | assumption | omega | (apply At.mk; with_unfolding_all rfl)) only [↓go_eq, ↓ent_eq, Mv, NilC_at, Fld_at, add_mk, Nat.zero_add, Nat.add_zero, Add64, Sub64, Mul64, Quo64, Rem64, Neg64, Cvt64, CvtU8, CvtU16, CvtU32, CvtU64, AddU64, SubU64, MulU64, Shr64, Shr_u8, Shr_u16, Shr_u32, Shr_u64, And1, And31, And32, Eql64, Neq64, Bin_lss, Bin_leq, Bin_gtr, Bin_geq, Bin_bool_eql, Bin_bool_neq, Bin_ptr_nil_eql, Bin_ptr_nil_neq, Not_dec, Un_not, Pick_t, Pick_f, Pick_pos, Pick_neg, Gd_tt, Gd_tf, Gd_ft, Gd_ff, Gd_pos_t, Gd_neg_t, Gd_pos_f, Gd_neg_f, Gd_undef, If_t, If_f, If_pos, If_neg, CallF_eq, Max_two, Min_two, Len_rd, Len_own, Ld_blkE, Idx_rdN, Idx_ownN, Idx_rdE, Idx_ownE, IdxAE, LdA_two, Idx_at0, Ext_atE, Len_at, Int.toNat_natCast, Int.toNat_zero, Int.toNat_one, List.length_map, List.length_append, List.length_cons, List.length_nil, List.length_take, List.length_set, List.length_replicate, Bool.not_true, Bool.not_false, decide_true, decide_false, BEq.rfl, bne_self_eq_false, tf_beq, ft_beq, tf_bne, ft_bne, not_true_eq_false, not_false_eq_true, app]
  refine BldS_three i1 i2 i3 fun h9 o9 f9 s9 => ?_
  have f59 : Fr [] h5 h9 := ((f6.trans f7).trans f8).trans f9
  have e1 := ((o6.fr f7 (by simp)).fr f8 (by simp)).fr f9 (by simp)
  have e2 := (o7.fr f8 (by simp)).fr f9 (by simp)
  have e3 := o8.fr f9 (by simp)
  have t1 := o6.lt
  have t2 := o7.lt
  have t3 := o8.lt
  have z6 := f6.size
  have z7 := f7.size
  have z8 := f8.size
  obtain ⟨xv, hxv⟩ : ∃ xv : Nat → Value, ∀ k, k < 3 → At [x1, x2, x3] k (xv k) := ⟨fun k => [x1, x2, x3].getD k undef, fun k hk' => ⟨by show [x1, x2, x3][k]? = some ([x1, x2, x3].getD k undef); rw [List.getD_eq_getElem?_getD, List.getElem?_eq_getElem (by simpa using hk')]; rfl⟩⟩
  obtain ⟨bv, hbv, hdj, hown⟩ : ∃ bv : Nat → List Nat, (∀ k, k < 3 → ∀ b ∈ bv k, h5.size ≤ b ∧ b < h8'.size) ∧ (∀ j k, j < 3 → k < 3 → j ≠ k → ∀ b ∈ bv j, b ∉ bv k) ∧ ∀ k, k < 3 → ∃ e : List Int, e.length ≤ 1000 ∧ Own h9 (xv k) (e.map Iv) (bv k) := by
    refine ⟨fun k => if k = 0 then b1 else if k = 1 then b2 else b3, fun k hk' b hb => ?_, fun j k hj hk' hjk b hb hb' => ?_, fun k hk' => ?_⟩
    · simp only at hb
      split at hb
      · have := hb6 b hb; have := t1 b hb; omega
      · split at hb
        · have := hb7 b hb; have := t2 b hb; omega
        · have := hb8 b hb; have := t3 b hb; omega
    · simp only at hb hb'
      have y1 : b ∈ b1 → h5.size ≤ b ∧ b < h6.size := fun q => ⟨hb6 b q, t1 b q⟩
      have y2 : b ∈ b2 → h6.size ≤ b ∧ b < h7.size := fun q => ⟨hb7 b q, t2 b q⟩
      have y3 : b ∈ b3 → h7.size ≤ b := fun q => hb8 b q
      split at hb
      · split at hb'
        · omega
        · split at hb'
          · have := y1 hb; have := y2 hb'; omega
          · have := y1 hb; have := y3 hb'; omega
      · split at hb
        · split at hb'
          · have := y2 hb; have := y1 hb'; omega
          · split at hb'
            · omega
            · have := y2 hb; have := y3 hb'; omega
        · split at hb'
          · have := y3 hb; have := y1 hb'; omega
          · split at hb'
            · have := y3 hb; have := y2 hb'; omega
            · omega
    · have hx := (hxv k hk').out
      match k, hk' with
      | 0, _ => cases hx; exact ⟨_, by omega, e1⟩
      | 1, _ => cases hx; exact ⟨_, by omega, e2⟩
      | 2, _ => cases hx; exact ⟨_, by omega, e3⟩
  obtain ⟨ab, hab⟩ : ∃ ab, ab = h8'.size := ⟨_, rfl⟩
  rw [← hab] at o9 ⊢
  have hz9 : h5.size ≤ ab := by omega
  have hbv' : ∀ k, k < 3 → ∀ b ∈ bv k, h5.size ≤ b ∧ b ≠ ab := fun k hk' b hb => by have := hbv k hk' b hb; omega
  have rc9 := rc.fr f59
  have rp9 := rp.fr f59
  have rq9 := rq.fr f59
  have rd9 := rd.fr f59
  have f09 := f05.trans f59
  have ob := Len_own (K := K) o9
  clear e1 e2 e3 t1 t2 t3 o6 o7 o8 hb6 hb7 hb8 rc6 rc7 rd7 hbv ob
  generalize hav : (Value.slice (some ⟨ab, 0, none⟩) 3 3) = av at *
  have hla : (([x1, x2, x3] : List Value).length : Int) = 3 := rfl
  rw [Len_own o9, hla]
  refine Lp_fn (σ := Nat) (fun i => [u, u', q, q', av, Iv 3, Iv (i : Nat)]) (fun i h' => i ≤ 3 ∧ Own h' av [x1, x2, x3] [ab] ∧ (∀ k, k < 3 → ∃ e : List Int, e.length ≤ 1000 ∧ Own h' (xv k) (e.map Iv) (bv k)) ∧ Fr [] h5 h') (fun i => 3 - i) 0 rfl (fun _ => rfl) ⟨Nat.zero_le _, o9, hown, f59⟩ ?_
  clear hla o9 hown rc9 rp9 rq9 rd9 f09
  rintro i h10 ⟨hi, o10, hown, f10⟩ X hX
  by_cases c2 : (i : Int) < 3
  · have ax := hxv i (by omega)
    obtain ⟨e, he, oe⟩ := hown i (by omega)
    try simp (disch := first | assumption | omega | (apply At.mk; with_unfolding_all rfl)) only [↓go_eq, ↓ent_eq, Mv, NilC_at, Fld_at, add_mk, Nat.zero_add, Nat.add_zero, Add64, Sub64, Mul64, Quo64, Rem64, Neg64, Cvt64, CvtU8, CvtU16, CvtU32, CvtU64, AddU64, SubU64, MulU64, Shr64, Shr_u8, Shr_u16, Shr_u32, Shr_u64, And1, And31, And32, Eql64, Neq64, Bin_lss, Bin_leq, Bin_gtr, Bin_geq, Bin_bool_eql, Bin_bool_neq, Bin_ptr_nil_eql, Bin_ptr_nil_neq, Not_dec, Un_not, Pick_t, Pick_f, Pick_pos, Pick_neg, Gd_tt, Gd_tf, Gd_ft, Gd_ff, Gd_pos_t, Gd_neg_t, Gd_pos_f, Gd_neg_f, Gd_undef, If_t, If_f, If_pos, If_neg, CallF_eq, Max_two, Min_two, Len_rd, Len_own, Ld_blkE, Idx_rdN, Idx_ownN, Idx_rdE, Idx_ownE, IdxAE, LdA_two, Idx_at0, Ext_atE, Len_at, Int.toNat_natCast, Int.toNat_zero, Int.toNat_one, List.length_map, List.length_append, List.length_cons, List.length_nil, List.length_take, List.length_set, List.length_replicate, Bool.not_true, Bool.not_false, decide_true, decide_false, BEq.rfl, bne_self_eq_false, tf_beq, ft_beq, tf_bne, ft_bne, not_true_eq_false, not_false_eq_true, app]
    refine Lp_fn (σ := Nat × List Int) (fun s => [u, u', q, q', xv i, av, Iv 3, Iv (i : Nat), Iv (e.length : Nat), Iv (s.1 : Nat)]) (fun s h' => s.1 ≤ e.length ∧ s.2.length = e.length ∧ Own h' (xv i) (s.2.map Iv) (bv i) ∧ Fr (bv i) h10 h') (fun s => e.length - s.1) (0, e) rfl (fun _ => rfl) ⟨Nat.zero_le _, rfl, oe, Fr.refl _ _⟩ ?_
    clear oe
    rintro ⟨j, e'⟩ h11 ⟨hj, he', oe, f11⟩ Y hY
    simp only at hj he' oe
    by_cases c3 : (j : Int) < (e.length : Nat)
    · try simp (disch := first | assumption | omega | (apply At.mk; with_unfolding_all rfl)) only [↓go_eq, ↓ent_eq, Mv, NilC_at, Fld_at, add_mk, Nat.zero_add, Nat.add_zero, Add64, Sub64, Mul64, Quo64, Rem64, Neg64, Cvt64, CvtU8, CvtU16, CvtU32, CvtU64, AddU64, SubU64, MulU64, Shr64, Shr_u8, Shr_u16, Shr_u32, Shr_u64, And1, And31, And32, Eql64, Neq64, Bin_lss, Bin_leq, Bin_gtr, Bin_geq, Bin_bool_eql, Bin_bool_neq, Bin_ptr_nil_eql, Bin_ptr_nil_neq, Not_dec, Un_not, Pick_t, Pick_f, Pick_pos, Pick_neg, Gd_tt, Gd_tf, Gd_ft, Gd_ff, Gd_pos_t, Gd_neg_t, Gd_pos_f, Gd_neg_f, Gd_undef, If_t, If_f, If_pos, If_neg, CallF_eq, Max_two, Min_two, Len_rd, Len_own, Ld_blkE, Idx_rdN, Idx_ownN, Idx_rdE, Idx_ownE, IdxAE, LdA_two, Idx_at0, Ext_atE, Len_at, Int.toNat_natCast, Int.toNat_zero, Int.toNat_one, List.length_map, List.length_append, List.length_cons, List.length_nil, List.length_take, List.length_set, List.length_replicate, Bool.not_true, Bool.not_false, decide_true, decide_false, BEq.rfl, bne_self_eq_false, tf_beq, ft_beq, tf_bne, ft_bne, not_true_eq_false, not_false_eq_true, app]
      refine oe.put (by omega) (by simp; omega) rfl fun h12 o12 f12 _ => ?_
      rw [Int.toNat_natCast, ← List.map_set] at o12
      try simp (disch := first | assumption | omega | (apply At.mk; with_unfolding_all rfl)) only [↓go_eq, ↓ent_eq, Mv, NilC_at, Fld_at, add_mk, Nat.zero_add, Nat.add_zero, Add64, Sub64, Mul64, Quo64, Rem64, Neg64, Cvt64, CvtU8, CvtU16, CvtU32, CvtU64, AddU64, SubU64, MulU64, Shr64, Shr_u8, Shr_u16, Shr_u32, Shr_u64, And1, And31, And32, Eql64, Neq64, Bin_lss, Bin_leq, Bin_gtr, Bin_geq, Bin_bool_eql, Bin_bool_neq, Bin_ptr_nil_eql, Bin_ptr_nil_neq, Not_dec, Un_not, Pick_t, Pick_f, Pick_pos, Pick_neg, Gd_tt, Gd_tf, Gd_ft, Gd_ff, Gd_pos_t, Gd_neg_t, Gd_pos_f, Gd_neg_f, Gd_undef, If_t, If_f, If_pos, If_neg, CallF_eq, Max_two, Min_two, Len_rd, Len_own, Ld_blkE, Idx_rdN, Idx_ownN, Idx_rdE, Idx_ownE, IdxAE, LdA_two, Idx_at0, Ext_atE, Len_at, Int.toNat_natCast, Int.toNat_zero, Int.toNat_one, List.length_map, List.length_append, List.length_cons, List.length_nil, List.length_take, List.length_set, List.length_replicate, Bool.not_true, Bool.not_false, decide_true, decide_false, BEq.rfl, bne_self_eq_false, tf_beq, ft_beq, tf_bne, ft_bne, not_true_eq_false, not_false_eq_true, app]
      try simp only [show (j : Int) + 1 = ((j + 1 : Nat) : Int) from by omega]
      exact hY (j + 1, _) h12 ⟨by simp only; omega, by simp only [List.length_set]; exact he', o12, f11.trans f12⟩ (by simp only; omega)
    · try simp (disch := first | assumption | omega | (apply At.mk; with_unfolding_all rfl)) only [↓go_eq, ↓ent_eq, Mv, NilC_at, Fld_at, add_mk, Nat.zero_add, Nat.add_zero, Add64, Sub64, Mul64, Quo64, Rem64, Neg64, Cvt64, CvtU8, CvtU16, CvtU32, CvtU64, AddU64, SubU64, MulU64, Shr64, Shr_u8, Shr_u16, Shr_u32, Shr_u64, And1, And31, And32, Eql64, Neq64, Bin_lss, Bin_leq, Bin_gtr, Bin_geq, Bin_bool_eql, Bin_bool_neq, Bin_ptr_nil_eql, Bin_ptr_nil_neq, Not_dec, Un_not, Pick_t, Pick_f, Pick_pos, Pick_neg, Gd_tt, Gd_tf, Gd_ft, Gd_ff, Gd_pos_t, Gd_neg_t, Gd_pos_f, Gd_neg_f, Gd_undef, If_t, If_f, If_pos, If_neg, CallF_eq, Max_two, Min_two, Len_rd, Len_own, Ld_blkE, Idx_rdN, Idx_ownN, Idx_rdE, Idx_ownE, IdxAE, LdA_two, Idx_at0, Ext_atE, Len_at, Int.toNat_natCast, Int.toNat_zero, Int.toNat_one, List.length_map, List.length_append, List.length_cons, List.length_nil, List.length_take, List.length_set, List.length_replicate, Bool.not_true, Bool.not_false, decide_true, decide_false, BEq.rfl, bne_self_eq_false, tf_beq, ft_beq, tf_bne, ft_bne, not_true_eq_false, not_false_eq_true, app]
      try simp only [show (i : Int) + 1 = ((i + 1 : Nat) : Int) from by omega]
      refine hX (i + 1) h11 ⟨by omega, o10.fr f11 (fun b hb hm => ?_), fun k hk' => ?_, f10.trans' f11 fun b hb => .inr (hbv' i (by omega) b hb).1⟩ (by omega)
      · simp at hb; subst hb; exact (hbv' i (by omega) _ hm).2 rfl
      · by_cases ek : k = i
        · subst ek; exact ⟨e', by omega, oe⟩
        · obtain ⟨e2, he2, oe2⟩ := hown k hk'
          exact ⟨e2, he2, oe2.fr f11 (hdj k i hk' (by omega) ek)⟩
  clear hX
  have rc10 := rc.fr f10
  try simp (disch := first | assumption | omega | (apply At.mk; with_unfolding_all rfl)) only [↓go_eq, ↓ent_eq, Mv, NilC_at, Fld_at, add_mk, Nat.zero_add, Nat.add_zero, Add64, Sub64, Mul64, Quo64, Rem64, Neg64, Cvt64, CvtU8, CvtU16, CvtU32, CvtU64, AddU64, SubU64, MulU64, Shr64, Shr_u8, Shr_u16, Shr_u32, Shr_u64, And1, And31, And32, Eql64, Neq64, Bin_lss, Bin_leq, Bin_gtr, Bin_geq, Bin_bool_eql, Bin_bool_neq, Bin_ptr_nil_eql, Bin_ptr_nil_neq, Not_dec, Un_not, Pick_t, Pick_f, Pick_pos, Pick_neg, Gd_tt, Gd_tf, Gd_ft, Gd_ff, Gd_pos_t, Gd_neg_t, Gd_pos_f, Gd_neg_f, Gd_undef, If_t, If_f, If_pos, If_neg, CallF_eq, Max_two, Min_two, Len_rd, Len_own, Ld_blkE, Idx_rdN, Idx_ownN, Idx_rdE, Idx_ownE, IdxAE, LdA_two, Idx_at0, Ext_atE, Len_at, Int.toNat_natCast, Int.toNat_zero, Int.toNat_one, List.length_map, List.length_append, List.length_cons, List.length_nil, List.length_take, List.length_set, List.length_replicate, Bool.not_true, Bool.not_false, decide_true, decide_false, BEq.rfl, bne_self_eq_false, tf_beq, ft_beq, tf_bne, ft_bne, not_true_eq_false, not_false_eq_true, app]
  refine norm_Tautology.spec (by omega) smc nec rc10 fun h11 f11 => ?_
  have fa := f10.trans f11
  have rc11 := rc.fr fa
  have rd11 := rd.fr fa
  have rp11 := rp.fr fa
  have rq11 := rq.fr fa
  have f011 := f05.trans fa
  try simp (disch := first | assumption | omega | (apply At.mk; with_unfolding_all rfl)) only [↓go_eq, ↓ent_eq, Mv, NilC_at, Fld_at, add_mk, Nat.zero_add, Nat.add_zero, Add64, Sub64, Mul64, Quo64, Rem64, Neg64, Cvt64, CvtU8, CvtU16, CvtU32, CvtU64, AddU64, SubU64, MulU64, Shr64, Shr_u8, Shr_u16, Shr_u32, Shr_u64, And1, And31, And32, Eql64, Neq64, Bin_lss, Bin_leq, Bin_gtr, Bin_geq, Bin_bool_eql, Bin_bool_neq, Bin_ptr_nil_eql, Bin_ptr_nil_neq, Not_dec, Un_not, Pick_t, Pick_f, Pick_pos, Pick_neg, Gd_tt, Gd_tf, Gd_ft, Gd_ff, Gd_pos_t, Gd_neg_t, Gd_pos_f, Gd_neg_f, Gd_undef, If_t, If_f, If_pos, If_neg, CallF_eq, Max_two, Min_two, Len_rd, Len_own, Ld_blkE, Idx_rdN, Idx_ownN, Idx_rdE, Idx_ownE, IdxAE, LdA_two, Idx_at0, Ext_atE, Len_at, Int.toNat_natCast, Int.toNat_zero, Int.toNat_one, List.length_map, List.length_append, List.length_cons, List.length_nil, List.length_take, List.length_set, List.length_replicate, Bool.not_true, Bool.not_false, decide_true, decide_false, BEq.rfl, bne_self_eq_false, tf_beq, ft_beq, tf_bne, ft_bne, not_true_eq_false, not_false_eq_true, app]
  refine Lp_fn (σ := Nat) (fun i => [u, u', q, q', Iv (c.length : Nat), Iv (i : Nat)]) (fun i h' => h11 = h' ∧ i ≤ c.length) (fun i => c.length - i) 0 rfl (fun _ => rfl) ⟨rfl, Nat.zero_le _⟩ ?_
  clear c2 hi i o10
  rintro i _ ⟨rfl, hi⟩ X hX
  by_cases c2 : (i : Int) < (c.length : Nat)
  · have a1 := at_getD (show i < c.length by omega)
    have hno : ¬ (c.getD i 0 ≠ c.getD i 0) := fun q => q rfl
    try simp (disch := first | assumption | omega | (apply At.mk; with_unfolding_all rfl)) only [↓go_eq, ↓ent_eq, Mv, NilC_at, Fld_at, add_mk, Nat.zero_add, Nat.add_zero, Add64, Sub64, Mul64, Quo64, Rem64, Neg64, Cvt64, CvtU8, CvtU16, CvtU32, CvtU64, AddU64, SubU64, MulU64, Shr64, Shr_u8, Shr_u16, Shr_u32, Shr_u64, And1, And31, And32, Eql64, Neq64, Bin_lss, Bin_leq, Bin_gtr, Bin_geq, Bin_bool_eql, Bin_bool_neq, Bin_ptr_nil_eql, Bin_ptr_nil_neq, Not_dec, Un_not, Pick_t, Pick_f, Pick_pos, Pick_neg, Gd_tt, Gd_tf, Gd_ft, Gd_ff, Gd_pos_t, Gd_neg_t, Gd_pos_f, Gd_neg_f, Gd_undef, If_t, If_f, If_pos, If_neg, CallF_eq, Max_two, Min_two, Len_rd, Len_own, Ld_blkE, Idx_rdN, Idx_ownN, Idx_rdE, Idx_ownE, IdxAE, LdA_two, Idx_at0, Ext_atE, Len_at, Int.toNat_natCast, Int.toNat_zero, Int.toNat_one, List.length_map, List.length_append, List.length_cons, List.length_nil, List.length_take, List.length_set, List.length_replicate, Bool.not_true, Bool.not_false, decide_true, decide_false, BEq.rfl, bne_self_eq_false, tf_beq, ft_beq, tf_bne, ft_bne, not_true_eq_false, not_false_eq_true, app]
    try simp only [show (i : Int) + 1 = ((i + 1 : Nat) : Int) from by omega]
    exact hX (i + 1) h11 ⟨rfl, by omega⟩ (by omega)
  clear hX
  try simp (disch := first | assumption | omega | (apply At.mk; with_unfolding_all rfl)) only [↓go_eq, ↓ent_eq, Mv, NilC_at, Fld_at, add_mk, Nat.zero_add, Nat.add_zero, Add64, Sub64, Mul64, Quo64, Rem64, Neg64, Cvt64, CvtU8, CvtU16, CvtU32, CvtU64, AddU64, SubU64, MulU64, Shr64, Shr_u8, Shr_u16, Shr_u32, Shr_u64, And1, And31, And32, Eql64, Neq64, Bin_lss, Bin_leq, Bin_gtr, Bin_geq, Bin_bool_eql, Bin_bool_neq, Bin_ptr_nil_eql, Bin_ptr_nil_neq, Not_dec, Un_not, Pick_t, Pick_f, Pick_pos, Pick_neg, Gd_tt, Gd_tf, Gd_ft, Gd_ff, Gd_pos_t, Gd_neg_t, Gd_pos_f, Gd_neg_f, Gd_undef, If_t, If_f, If_pos, If_neg, CallF_eq, Max_two, Min_two, Len_rd, Len_own, Ld_blkE, Idx_rdN, Idx_ownN, Idx_rdE, Idx_ownE, IdxAE, LdA_two, Idx_at0, Ext_atE, Len_at, Int.toNat_natCast, Int.toNat_zero, Int.toNat_one, List.length_map, List.length_append, List.length_cons, List.length_nil, List.length_take, List.length_set, List.length_replicate, Bool.not_true, Bool.not_false, decide_true, decide_false, BEq.rfl, bne_self_eq_false, tf_beq, ft_beq, tf_bne, ft_bne, not_true_eq_false, not_false_eq_true, app]
  refine Lp_fn (σ := Nat) (fun i => [u, u', q, q', Iv (d.length : Nat), Iv (i : Nat)]) (fun i h' => h11 = h' ∧ i ≤ d.length) (fun i => d.length - i) 0 rfl (fun _ => rfl) ⟨rfl, Nat.zero_le _⟩ ?_
  clear c2 hi i
  rintro i _ ⟨rfl, hi⟩ X hX
  by_cases c2 : (i : Int) < (d.length : Nat)
  · have a1 := at_getD (show i < d.length by omega)
    have hno : ¬ (d.getD i 0 ≠ d.getD i 0) := fun q => q rfl
    try simp (disch := first | assumption | omega | (apply At.mk; with_unfolding_all rfl)) only [↓go_eq, ↓ent_eq, Mv, NilC_at, Fld_at, add_mk, Nat.zero_add, Nat.add_zero, Add64, Sub64, Mul64, Quo64, Rem64, Neg64, Cvt64, CvtU8, CvtU16, CvtU32, CvtU64, AddU64, SubU64, MulU64, Shr64, Shr_u8, Shr_u16, Shr_u32, Shr_u64, And1, And31, And32, Eql64, Neq64, Bin_lss, Bin_leq, Bin_gtr, Bin_geq, Bin_bool_eql, Bin_bool_neq, Bin_ptr_nil_eql, Bin_ptr_nil_neq, Not_dec, Un_not, Pick_t, Pick_f, Pick_pos, Pick_neg, Gd_tt, Gd_tf, Gd_ft, Gd_ff, Gd_pos_t, Gd_neg_t, Gd_pos_f, Gd_neg_f, Gd_undef, If_t, If_f, If_pos, If_neg, CallF_eq, Max_two, Min_two, Len_rd, Len_own, Ld_blkE, Idx_rdN, Idx_ownN, Idx_rdE, Idx_ownE, IdxAE, LdA_two, Idx_at0, Ext_atE, Len_at, Int.toNat_natCast, Int.toNat_zero, Int.toNat_one, List.length_map, List.length_append, List.length_cons, List.length_nil, List.length_take, List.length_set, List.length_replicate, Bool.not_true, Bool.not_false, decide_true, decide_false, BEq.rfl, bne_self_eq_false, tf_beq, ft_beq, tf_bne, ft_bne, not_true_eq_false, not_false_eq_true, app]
    try simp only [show (i : Int) + 1 = ((i + 1 : Nat) : Int) from by omega]
    exact hX (i + 1) h11 ⟨rfl, by omega⟩ (by omega)
  try simp (disch := first | assumption | omega | (apply At.mk; with_unfolding_all rfl)) only [↓go_eq, ↓ent_eq, Mv, NilC_at, Fld_at, add_mk, Nat.zero_add, Nat.add_zero, Add64, Sub64, Mul64, Quo64, Rem64, Neg64, Cvt64, CvtU8, CvtU16, CvtU32, CvtU64, AddU64, SubU64, MulU64, Shr64, Shr_u8, Shr_u16, Shr_u32, Shr_u64, And1, And31, And32, Eql64, Neq64, Bin_lss, Bin_leq, Bin_gtr, Bin_geq, Bin_bool_eql, Bin_bool_neq, Bin_ptr_nil_eql, Bin_ptr_nil_neq, Not_dec, Un_not, Pick_t, Pick_f, Pick_pos, Pick_neg, Gd_tt, Gd_tf, Gd_ft, Gd_ff, Gd_pos_t, Gd_neg_t, Gd_pos_f, Gd_neg_f, Gd_undef, If_t, If_f, If_pos, If_neg, CallF_eq, Max_two, Min_two, Len_rd, Len_own, Ld_blkE, Idx_rdN, Idx_ownN, Idx_rdE, Idx_ownE, IdxAE, LdA_two, Idx_at0, Ext_atE, Len_at, Int.toNat_natCast, Int.toNat_zero, Int.toNat_one, List.length_map, List.length_append, List.length_cons, List.length_nil, List.length_take, List.length_set, List.length_replicate, Bool.not_true, Bool.not_false, decide_true, decide_false, BEq.rfl, bne_self_eq_false, tf_beq, ft_beq, tf_bne, ft_bne, not_true_eq_false, not_false_eq_true, app]
  exact hk h11 f011
theorem bradawllaw04_NormOwn.law {h : Heap} {a0 a1 : List Int} {v0 v1 : Value} (r0 : (rSlice (rInt .i8) 1).is h a0 [v0]) (r1 : (rSlice (rInt .i8) 1).is h a1 [v1]) :
    CallH Try.prog bradawllaw04_NormOwn.id #[v0, v1] (fun v h' => v = .bool true ∧ Fr [] h h') h := by
  obtain ⟨hl0, hb0⟩ := rd_ints r0
  obtain ⟨hl1, hb1⟩ := rd_ints r1
  exact bradawllaw04_NormOwn.spec hb0 hb1 (rlen r0) (rlen r1) hl0 hl1 fun h' f => ⟨rfl, f⟩
end Go.Proofs.Ytjedohcphkdekaa
