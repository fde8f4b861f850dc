/- The law TiersOutlive. No condition. -/
import Derived.Test.YtcofinjoehaefaaTi4
namespace Go.Proofs.Ytcofinjoehaefaa
open Go.Pt
set_option linter.unusedVariables false
set_option linter.unusedSimpArgs false
set_option maxHeartbeats 2000000 in
theorem bradawllaw20_TiersOutlive.spec {n b : Int} (hn : 0 ≤ n ∧ n ≤ 255) (hb : 0 ≤ b ∧ b ≤ 255) {K : Ret} {h : Heap} (hk : ∀ h', Fr [] h h' → K (.bool true) h') :
    CallH Try.prog bradawllaw20_TiersOutlive.id #[.int .u8 n, .int .u8 b] K h := by
  refine bradawllaw20_TiersOutlive.ok ?_
  simp only [bradawllaw20_TiersOutlive.pt]
  rw [go_eq, CallF_eq]
  refine bradawllaw20_fit.spec fun h1 f1 => ?_
  rw [go_eq, Un_not, Bool.not_true, If_f, go_eq, CallF_eq]
  refine arena_New.spec 0 fun g h2 F2 a2 f2 n2 => ?_
  obtain ⟨k, ek⟩ : ∃ k : Nat, n % 40 = (k : Int) := ⟨(n % 40).toNat, by omega⟩
  have hk40 : k < 40 := by omega
  rw [go_eq, Rem64 _ _ hn.1 (by decide), ek, go_eq, Cvt64 _ (by omega) (by omega)]
  have z1 := f1.size
  refine Lp_fn (σ := Nat × List Nat) (fun x => [.int .u8 b, ptr g, Iv (k : Nat), Iv (k : Nat), Iv (x.1 : Nat)]) (fun x h' => x.1 ≤ k ∧ ArR h' g 0 (outC b x.1) x.2 ∧ (∀ b ∈ x.2, h.size ≤ b) ∧ Fr [] h h') (fun x => k - x.1) (0, F2) rfl (fun _ => rfl) ⟨Nat.zero_le _, a2, fun b hb => by have := n2 b hb; omega, f1.trans f2⟩ ?_
  rintro ⟨i, F⟩ h3 ⟨hi, a3, n3, f3⟩ X hX
  simp only at hi a3 n3
  have lt3 := a3.lt
  by_cases ci : (i : Int) < (k : Nat)
  · have e3 : 3 + (i : Int) % 4 = ((3 + i % 4 : Nat) : Int) := by omega
    try simp (disch := first | assumption | omega | (apply At.mk; with_unfolding_all rfl)) only [e3, ↓go_eq, ↓ent_eq, Mv, NilC_at, Fld_at, add_mk, Nat.zero_add, Nat.add_zero, Add64, Sub64, Mul64, Quo64, Rem64, Neg64, Cvt64, CvtU8, CvtU16, CvtU32, CvtU64, AddU64, SubU64, MulU64, Shr64, Shr_u8, Shr_u16, Shr_u32, Shr_u64, And1, And31, And32, Eql64, Neq64, Bin_lss, Bin_leq, Bin_gtr, Bin_geq, Bin_bool_eql, Bin_bool_neq, Bin_ptr_nil_eql, Bin_ptr_nil_neq, Not_dec, Un_not, Pick_t, Pick_f, Pick_pos, Pick_neg, Gd_tt, Gd_tf, Gd_ft, Gd_ff, Gd_pos_t, Gd_neg_t, Gd_pos_f, Gd_neg_f, Gd_undef, If_t, If_f, If_pos, If_neg, CallF_eq, Max_two, Min_two, Len_rd, Len_own, Ld_blkE, Idx_rdN, Idx_ownN, Idx_rdE, Idx_ownE, IdxAE, LdA_two, Idx_at0, Ext_atE, Len_at, Int.toNat_natCast, Int.toNat_zero, Int.toNat_one, List.length_map, List.length_append, List.length_cons, List.length_nil, List.length_take, List.length_set, List.length_replicate, Bool.not_true, Bool.not_false, decide_true, decide_false, BEq.rfl, bne_self_eq_false, tf_beq, ft_beq, tf_bne, ft_bne, not_true_eq_false, not_false_eq_true, app]
    refine MkS_one (x := Iv 0) (n := 3 + i % 4) (by omega) (by omega) fun h4 o4 f4 s4 => ?_
    have a4 := a3.fr f4 (by simp)
    have z4 := f4.size
    have z3 := f3.size
    rw [show List.replicate (3 + i % 4) (Iv 0) = (List.replicate (3 + i % 4) 0).map Iv by rw [List.map_replicate]] at o4
    have hbd := outC_bd b i
    generalize (Value.slice (some ⟨h3.size, 0, none⟩) (3 + i % 4) (3 + i % 4)) = lv at *
    try simp (disch := first | assumption | omega | (apply At.mk; with_unfolding_all rfl)) only [↓go_eq, ↓ent_eq, Mv, NilC_at, Fld_at, add_mk, Nat.zero_add, Nat.add_zero, Add64, Sub64, Mul64, Quo64, Rem64, Neg64, Cvt64, CvtU8, CvtU16, CvtU32, CvtU64, AddU64, SubU64, MulU64, Shr64, Shr_u8, Shr_u16, Shr_u32, Shr_u64, And1, And31, And32, Eql64, Neq64, Bin_lss, Bin_leq, Bin_gtr, Bin_geq, Bin_bool_eql, Bin_bool_neq, Bin_ptr_nil_eql, Bin_ptr_nil_neq, Not_dec, Un_not, Pick_t, Pick_f, Pick_pos, Pick_neg, Gd_tt, Gd_tf, Gd_ft, Gd_ff, Gd_pos_t, Gd_neg_t, Gd_pos_f, Gd_neg_f, Gd_undef, If_t, If_f, If_pos, If_neg, CallF_eq, Max_two, Min_two, Len_rd, Len_own, Ld_blkE, Idx_rdN, Idx_ownN, Idx_rdE, Idx_ownE, IdxAE, LdA_two, Idx_at0, Ext_atE, Len_at, Int.toNat_natCast, Int.toNat_zero, Int.toNat_one, List.length_map, List.length_append, List.length_cons, List.length_nil, List.length_take, List.length_set, List.length_replicate, Bool.not_true, Bool.not_false, decide_true, decide_false, BEq.rfl, bne_self_eq_false, tf_beq, ft_beq, tf_bne, ft_bne, not_true_eq_false, not_false_eq_true, app]
    refine arena_Arena_Add.spec (c := List.replicate (3 + i % 4) 0) a4 (fun h' f => (o4.fr f fun b hb hm => by rw [List.mem_singleton] at hb; have := lt3 _ hm; omega).rd) (by rw [List.length_replicate]; omega) (fun hf => absurd hf.1 (by decide)) fun _ h5 F5 a5 f5 n5 => ?_
    try simp (disch := first | assumption | omega | (apply At.mk; with_unfolding_all rfl)) only [↓go_eq, ↓ent_eq, Mv, NilC_at, Fld_at, add_mk, Nat.zero_add, Nat.add_zero, Add64, Sub64, Mul64, Quo64, Rem64, Neg64, Cvt64, CvtU8, CvtU16, CvtU32, CvtU64, AddU64, SubU64, MulU64, Shr64, Shr_u8, Shr_u16, Shr_u32, Shr_u64, And1, And31, And32, Eql64, Neq64, Bin_lss, Bin_leq, Bin_gtr, Bin_geq, Bin_bool_eql, Bin_bool_neq, Bin_ptr_nil_eql, Bin_ptr_nil_neq, Not_dec, Un_not, Pick_t, Pick_f, Pick_pos, Pick_neg, Gd_tt, Gd_tf, Gd_ft, Gd_ff, Gd_pos_t, Gd_neg_t, Gd_pos_f, Gd_neg_f, Gd_undef, If_t, If_f, If_pos, If_neg, CallF_eq, Max_two, Min_two, Len_rd, Len_own, Ld_blkE, Idx_rdN, Idx_ownN, Idx_rdE, Idx_ownE, IdxAE, LdA_two, Idx_at0, Ext_atE, Len_at, Int.toNat_natCast, Int.toNat_zero, Int.toNat_one, List.length_map, List.length_append, List.length_cons, List.length_nil, List.length_take, List.length_set, List.length_replicate, Bool.not_true, Bool.not_false, decide_true, decide_false, BEq.rfl, bne_self_eq_false, tf_beq, ft_beq, tf_bne, ft_bne, not_true_eq_false, not_false_eq_true, app]
    try simp only [show (i : Int) + 1 = ((i + 1 : Nat) : Int) from by omega]
    refine hX (i + 1, F5) h5 ⟨by simp only; omega, ?_, fun b hb => ?_, (f3.trans f4).trans' f5 fun b hb => .inr (n3 b hb)⟩ (by simp only; omega)
    · rw [show fit31 (10 + b) = 10 + b by unfold fit31; omega] at a5
      rw [outC_succ]; exact a5
    · rcases n5 b hb with q | q
      · exact n3 b q
      · omega
  · have ei : i = k := by omega
    subst ei
    try simp (disch := first | assumption | omega | (apply At.mk; with_unfolding_all rfl)) only [↓go_eq, ↓ent_eq, Mv, NilC_at, Fld_at, add_mk, Nat.zero_add, Nat.add_zero, Add64, Sub64, Mul64, Quo64, Rem64, Neg64, Cvt64, CvtU8, CvtU16, CvtU32, CvtU64, AddU64, SubU64, MulU64, Shr64, Shr_u8, Shr_u16, Shr_u32, Shr_u64, And1, And31, And32, Eql64, Neq64, Bin_lss, Bin_leq, Bin_gtr, Bin_geq, Bin_bool_eql, Bin_bool_neq, Bin_ptr_nil_eql, Bin_ptr_nil_neq, Not_dec, Un_not, Pick_t, Pick_f, Pick_pos, Pick_neg, Gd_tt, Gd_tf, Gd_ft, Gd_ff, Gd_pos_t, Gd_neg_t, Gd_pos_f, Gd_neg_f, Gd_undef, If_t, If_f, If_pos, If_neg, CallF_eq, Max_two, Min_two, Len_rd, Len_own, Ld_blkE, Idx_rdN, Idx_ownN, Idx_rdE, Idx_ownE, IdxAE, LdA_two, Idx_at0, Ext_atE, Len_at, Int.toNat_natCast, Int.toNat_zero, Int.toNat_one, List.length_map, List.length_append, List.length_cons, List.length_nil, List.length_take, List.length_set, List.length_replicate, Bool.not_true, Bool.not_false, decide_true, decide_false, BEq.rfl, bne_self_eq_false, tf_beq, ft_beq, tf_bne, ft_bne, not_true_eq_false, not_false_eq_true, app]
    refine Lp_fn (σ := Nat × List Cl) (fun x => [ptr g, Iv (x.1 : Nat)]) (fun x h' => x.1 ≤ i ∧ ArR h' g 0 x.2 F ∧ Out x.2 ∧ liveN x.2 = x.1 ∧ x.2.length = i ∧ Fr [] h h') (fun x => x.1) (i, outC b i) rfl (fun _ => rfl) ⟨Nat.le_refl _, a3, outC_out hb.1 i, outC_live b i, outC_len b i, f3⟩ ?_
    clear hX a3 f3 X
    rintro ⟨k, cs⟩ h4 ⟨hki, a4, o4, l4, n4, f4⟩ Y hY
    simp only at hki a4 o4 l4 n4
    have hmay := o4.may
    have go1 : ∀ (fv : Value) (K : Ret), fv.cells = #[fv] → (∀ (r : Int) (h' : Heap) (Q : Ret), Q (.bool false) h' → CallV Try.prog fv [Iv r] Q h') →
        (∀ v bs h5 xs cs', Own h5 v xs bs → xs.length = k / 2 → ArR h5 g 0 cs' F → Out cs' → liveN cs' = k - k / 2 → cs'.length = i → Fr [] h h5 → K v h5) →
        CallH Try.prog tiers_Reduce.id #[ptr g, fv, Iv 2, Iv 6] K h4 := by
      intro fv K hfv hq hK
      refine tiers_Reduce.spec (lk := noL) a4 (by omega) hfv (fun q Q h' _ _ hQ => hq _ _ _ hQ) fun v bs h5 ys o5 hb5 p5 s5 a5 f5 => ?_
      have hyl := p5.length_eq
      have hh := half_ok p5
      have hc := liveN_redC (lo := 2) (hi := 6) _ hh.1 hh.2
      have hl : (ys.take (ys.length / 2)).length = k / 2 := by rw [List.length_take]; omega
      refine hK v bs h5 _ _ o5 (by rw [List.length_map, hl]) a5 (o4.red _) ?_ (by rw [redC_len]; exact n4) (f4.trans' f5 fun b hb => .inr (n3 b hb))
      omega
    by_cases c1 : (k : Int) > 1
    · try simp (disch := first | assumption | omega | (apply At.mk; with_unfolding_all rfl)) only [↓go_eq, ↓ent_eq, Mv, NilC_at, Fld_at, add_mk, Nat.zero_add, Nat.add_zero, Add64, Sub64, Mul64, Quo64, Rem64, Neg64, Cvt64, CvtU8, CvtU16, CvtU32, CvtU64, AddU64, SubU64, MulU64, Shr64, Shr_u8, Shr_u16, Shr_u32, Shr_u64, And1, And31, And32, Eql64, Neq64, Bin_lss, Bin_leq, Bin_gtr, Bin_geq, Bin_bool_eql, Bin_bool_neq, Bin_ptr_nil_eql, Bin_ptr_nil_neq, Not_dec, Un_not, Pick_t, Pick_f, Pick_pos, Pick_neg, Gd_tt, Gd_tf, Gd_ft, Gd_ff, Gd_pos_t, Gd_neg_t, Gd_pos_f, Gd_neg_f, Gd_undef, If_t, If_f, If_pos, If_neg, CallF_eq, Max_two, Min_two, Len_rd, Len_own, Ld_blkE, Idx_rdN, Idx_ownN, Idx_rdE, Idx_ownE, IdxAE, LdA_two, Idx_at0, Ext_atE, Len_at, Int.toNat_natCast, Int.toNat_zero, Int.toNat_one, List.length_map, List.length_append, List.length_cons, List.length_nil, List.length_take, List.length_set, List.length_replicate, Bool.not_true, Bool.not_false, decide_true, decide_false, BEq.rfl, bne_self_eq_false, tf_beq, ft_beq, tf_bne, ft_bne, not_true_eq_false, not_false_eq_true, app]
      refine go1 _ _ rfl (fun r h' Q hQ => CallV_func (by kernel_rfl) (bradawllaw20_TiersOutlive_1.ok hQ)) fun v bs h5 xs cs' o5 hl5 a5 t5 l5 n5 f5 => ?_
      have eq2 : (k : Int) / 2 = ((k / 2 : Nat) : Int) := by omega
      have e6 : (k : Int) - ((k / 2 : Nat) : Int) = ((k - k / 2 : Nat) : Int) := by omega
      try simp (disch := first | assumption | omega | (apply At.mk; with_unfolding_all rfl)) only [hl5, eq2, e6, ↓go_eq, ↓ent_eq, Mv, NilC_at, Fld_at, add_mk, Nat.zero_add, Nat.add_zero, Add64, Sub64, Mul64, Quo64, Rem64, Neg64, Cvt64, CvtU8, CvtU16, CvtU32, CvtU64, AddU64, SubU64, MulU64, Shr64, Shr_u8, Shr_u16, Shr_u32, Shr_u64, And1, And31, And32, Eql64, Neq64, Bin_lss, Bin_leq, Bin_gtr, Bin_geq, Bin_bool_eql, Bin_bool_neq, Bin_ptr_nil_eql, Bin_ptr_nil_neq, Not_dec, Un_not, Pick_t, Pick_f, Pick_pos, Pick_neg, Gd_tt, Gd_tf, Gd_ft, Gd_ff, Gd_pos_t, Gd_neg_t, Gd_pos_f, Gd_neg_f, Gd_undef, If_t, If_f, If_pos, If_neg, CallF_eq, Max_two, Min_two, Len_rd, Len_own, Ld_blkE, Idx_rdN, Idx_ownN, Idx_rdE, Idx_ownE, IdxAE, LdA_two, Idx_at0, Ext_atE, Len_at, Int.toNat_natCast, Int.toNat_zero, Int.toNat_one, List.length_map, List.length_append, List.length_cons, List.length_nil, List.length_take, List.length_set, List.length_replicate, Bool.not_true, Bool.not_false, decide_true, decide_false, BEq.rfl, bne_self_eq_false, tf_beq, ft_beq, tf_bne, ft_bne, not_true_eq_false, not_false_eq_true, app]
      refine count_q a5 ?_
      have el : (List.countP (fun c : Cl => !c.gone) cs') = k - k / 2 := l5
      rw [el]
      try simp (disch := first | assumption | omega | (apply At.mk; with_unfolding_all rfl)) only [↓go_eq, ↓ent_eq, Mv, NilC_at, Fld_at, add_mk, Nat.zero_add, Nat.add_zero, Add64, Sub64, Mul64, Quo64, Rem64, Neg64, Cvt64, CvtU8, CvtU16, CvtU32, CvtU64, AddU64, SubU64, MulU64, Shr64, Shr_u8, Shr_u16, Shr_u32, Shr_u64, And1, And31, And32, Eql64, Neq64, Bin_lss, Bin_leq, Bin_gtr, Bin_geq, Bin_bool_eql, Bin_bool_neq, Bin_ptr_nil_eql, Bin_ptr_nil_neq, Not_dec, Un_not, Pick_t, Pick_f, Pick_pos, Pick_neg, Gd_tt, Gd_tf, Gd_ft, Gd_ff, Gd_pos_t, Gd_neg_t, Gd_pos_f, Gd_neg_f, Gd_undef, If_t, If_f, If_pos, If_neg, CallF_eq, Max_two, Min_two, Len_rd, Len_own, Ld_blkE, Idx_rdN, Idx_ownN, Idx_rdE, Idx_ownE, IdxAE, LdA_two, Idx_at0, Ext_atE, Len_at, Int.toNat_natCast, Int.toNat_zero, Int.toNat_one, List.length_map, List.length_append, List.length_cons, List.length_nil, List.length_take, List.length_set, List.length_replicate, Bool.not_true, Bool.not_false, decide_true, decide_false, BEq.rfl, bne_self_eq_false, tf_beq, ft_beq, tf_bne, ft_bne, not_true_eq_false, not_false_eq_true, app]
      exact hY (k - k / 2, cs') h5 ⟨by simp only; omega, a5, t5, l5, n5, f5⟩ (by simp only; omega)
    · try simp (disch := first | assumption | omega | (apply At.mk; with_unfolding_all rfl)) only [↓go_eq, ↓ent_eq, Mv, NilC_at, Fld_at, add_mk, Nat.zero_add, Nat.add_zero, Add64, Sub64, Mul64, Quo64, Rem64, Neg64, Cvt64, CvtU8, CvtU16, CvtU32, CvtU64, AddU64, SubU64, MulU64, Shr64, Shr_u8, Shr_u16, Shr_u32, Shr_u64, And1, And31, And32, Eql64, Neq64, Bin_lss, Bin_leq, Bin_gtr, Bin_geq, Bin_bool_eql, Bin_bool_neq, Bin_ptr_nil_eql, Bin_ptr_nil_neq, Not_dec, Un_not, Pick_t, Pick_f, Pick_pos, Pick_neg, Gd_tt, Gd_tf, Gd_ft, Gd_ff, Gd_pos_t, Gd_neg_t, Gd_pos_f, Gd_neg_f, Gd_undef, If_t, If_f, If_pos, If_neg, CallF_eq, Max_two, Min_two, Len_rd, Len_own, Ld_blkE, Idx_rdN, Idx_ownN, Idx_rdE, Idx_ownE, IdxAE, LdA_two, Idx_at0, Ext_atE, Len_at, Int.toNat_natCast, Int.toNat_zero, Int.toNat_one, List.length_map, List.length_append, List.length_cons, List.length_nil, List.length_take, List.length_set, List.length_replicate, Bool.not_true, Bool.not_false, decide_true, decide_false, BEq.rfl, bne_self_eq_false, tf_beq, ft_beq, tf_bne, ft_bne, not_true_eq_false, not_false_eq_true, app]
      refine go1 _ _ rfl (fun r h' Q hQ => CallV_func (by kernel_rfl) (bradawllaw20_TiersOutlive_2.ok hQ)) fun v bs h5 xs cs' o5 hl5 a5 t5 l5 n5 f5 => ?_
      have hl0 : xs.length = 0 := by omega
      try simp (disch := first | assumption | omega | (apply At.mk; with_unfolding_all rfl)) only [hl0, ↓go_eq, ↓ent_eq, Mv, NilC_at, Fld_at, add_mk, Nat.zero_add, Nat.add_zero, Add64, Sub64, Mul64, Quo64, Rem64, Neg64, Cvt64, CvtU8, CvtU16, CvtU32, CvtU64, AddU64, SubU64, MulU64, Shr64, Shr_u8, Shr_u16, Shr_u32, Shr_u64, And1, And31, And32, Eql64, Neq64, Bin_lss, Bin_leq, Bin_gtr, Bin_geq, Bin_bool_eql, Bin_bool_neq, Bin_ptr_nil_eql, Bin_ptr_nil_neq, Not_dec, Un_not, Pick_t, Pick_f, Pick_pos, Pick_neg, Gd_tt, Gd_tf, Gd_ft, Gd_ff, Gd_pos_t, Gd_neg_t, Gd_pos_f, Gd_neg_f, Gd_undef, If_t, If_f, If_pos, If_neg, CallF_eq, Max_two, Min_two, Len_rd, Len_own, Ld_blkE, Idx_rdN, Idx_ownN, Idx_rdE, Idx_ownE, IdxAE, LdA_two, Idx_at0, Ext_atE, Len_at, Int.toNat_natCast, Int.toNat_zero, Int.toNat_one, List.length_map, List.length_append, List.length_cons, List.length_nil, List.length_take, List.length_set, List.length_replicate, Bool.not_true, Bool.not_false, decide_true, decide_false, BEq.rfl, bne_self_eq_false, tf_beq, ft_beq, tf_bne, ft_bne, not_true_eq_false, not_false_eq_true, app]
      refine count_q a5 ?_
      have el : (List.countP (fun c : Cl => !c.gone) cs') = k := by have l5' : (List.countP (fun c : Cl => !c.gone) cs') = k - k / 2 := l5; omega
      rw [el]
      try simp (disch := first | assumption | omega | (apply At.mk; with_unfolding_all rfl)) only [↓go_eq, ↓ent_eq, Mv, NilC_at, Fld_at, add_mk, Nat.zero_add, Nat.add_zero, Add64, Sub64, Mul64, Quo64, Rem64, Neg64, Cvt64, CvtU8, CvtU16, CvtU32, CvtU64, AddU64, SubU64, MulU64, Shr64, Shr_u8, Shr_u16, Shr_u32, Shr_u64, And1, And31, And32, Eql64, Neq64, Bin_lss, Bin_leq, Bin_gtr, Bin_geq, Bin_bool_eql, Bin_bool_neq, Bin_ptr_nil_eql, Bin_ptr_nil_neq, Not_dec, Un_not, Pick_t, Pick_f, Pick_pos, Pick_neg, Gd_tt, Gd_tf, Gd_ft, Gd_ff, Gd_pos_t, Gd_neg_t, Gd_pos_f, Gd_neg_f, Gd_undef, If_t, If_f, If_pos, If_neg, CallF_eq, Max_two, Min_two, Len_rd, Len_own, Ld_blkE, Idx_rdN, Idx_ownN, Idx_rdE, Idx_ownE, IdxAE, LdA_two, Idx_at0, Ext_atE, Len_at, Int.toNat_natCast, Int.toNat_zero, Int.toNat_one, List.length_map, List.length_append, List.length_cons, List.length_nil, List.length_take, List.length_set, List.length_replicate, Bool.not_true, Bool.not_false, decide_true, decide_false, BEq.rfl, bne_self_eq_false, tf_beq, ft_beq, tf_bne, ft_bne, not_true_eq_false, not_false_eq_true, app]
      exact hk h5 f5
theorem bradawllaw20_TiersOutlive.law {h : Heap} {a0 a1 : Int} {v0 v1 : Value} (r0 : (rInt .u8).is h a0 [v0]) (r1 : (rInt .u8).is h a1 [v1]) :
    CallH Try.prog bradawllaw20_TiersOutlive.id #[v0, v1] (fun v h' => v = .bool true ∧ Fr [] h h') h := by
  obtain ⟨e0, l0, u0⟩ := r0
  obtain ⟨e1, l1, u1⟩ := r1
  have e0 : v0 = .int .u8 a0 := by simpa using e0
  have e1 : v1 = .int .u8 a1 := by simpa using e1
  subst e0 e1
  exact bradawllaw20_TiersOutlive.spec ⟨l0, u0⟩ ⟨l1, u1⟩ fun h' f => ⟨rfl, f⟩
end Go.Proofs.Ytcofinjoehaefaa
