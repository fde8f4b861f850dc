/- Insertion and heaps, with a comparison handed in. Conditions: those typed ahead of each theorem. -/
import Derived.Test.YtjedohcphkdekaaSo
namespace Go.Proofs.Ytjedohcphkdekaa
open Go.Pt
set_option linter.unusedVariables false
set_option linter.unusedSimpArgs false
namespace So
section
variable {K : Ret} {h : Heap} {v cv : Value} {bs : List Nat} {m : Nat} {L : Int → Int → Prop} {ok : Heap → Prop} {D : Int → Prop}
def InsI (L : Int → Int → Prop) (a i j : Nat) (g : Nat → Int) : Prop := (∀ p q, a ≤ p → p < q → q ≤ i → q ≠ j → p ≠ j → ¬ L (g q) (g p)) ∧ ∀ q, j < q → q ≤ i → ¬ L (g q) (g j)
theorem ins_start {a i : Nat} {g : Nat → Int} (s : Srt L a i g) : InsI L a i i g := ⟨fun p q h1 h2 h3 h4 h5 => s p q h1 h2 (by omega), fun q h1 h2 => by omega⟩
theorem ins_step {a i j : Nat} {g : Nat → Int} (o : Ord L) (s : InsI L a i j g) (hj : a < j) (hji : j ≤ i) (hL : L (g j) (g (j - 1))) : InsI L a i (j - 1) (swp g j (j - 1)) := by
  refine ⟨fun p q h1 h2 h3 h4 h5 => ?_, fun q h1 h2 => ?_⟩
  · by_cases e : q = j
    · subst e
      rw [swp_i, swp_ne (by omega) h5]
      exact s.1 p (q - 1) h1 (by omega) (by omega) (by omega) (by omega)
    · rw [swp_ne e h4]
      by_cases e2 : p = j
      · subst e2; rw [swp_i]; exact s.1 (p - 1) q (by omega) (by omega) h3 e (by omega)
      · rw [swp_ne e2 h5]; exact s.1 p q h1 h2 h3 e e2
  · rw [swp_j]
    by_cases e : q = j
    · subst e; rw [swp_i]; exact o.asymm hL
    · rw [swp_ne e (by omega)]; exact s.2 q (by omega) h2
theorem ins_end {a i j : Nat} {g : Nat → Int} (o : Ord L) (s : InsI L a i j g) (haj : a ≤ j) (hji : j ≤ i) (hL : j = a ∨ ¬ L (g j) (g (j - 1))) : Srt L a (i + 1) g := by
  intro p q h1 h2 h3
  by_cases e : p = j
  · subst e; exact s.2 q h2 (by omega)
  · by_cases e2 : q = j
    · subst e2
      rcases hL with x | x
      · omega
      · by_cases e3 : p = q - 1
        · rw [e3]; exact x
        · exact o.nt x (s.1 p (q - 1) h1 (by omega) (by omega) (by omega) (by omega))
    · exact s.1 p q h1 h2 (by omega) e2 e
end
section
variable {K : Ret} {h : Heap} {v cv : Value} {bs : List Nat} {m : Nat} {L : Int → Int → Prop} [DecidableRel L] {ok : Heap → Prop} {D : Int → Prop}
set_option maxHeartbeats 2000000 in
theorem slices_insertionSortCmpFunc_int.spec {a b : Nat} {f : Nat → Int} (o : Ord L) (hc : Cmp L cv ok D) (hok : ∀ h h', ok h → Fr bs h h' → ok h') (hab : a ≤ b) (hb : b ≤ m) (hm : m ≤ 1000000000) (hD : ∀ k, a ≤ k → k < b → D (f k)) (w : Own h v (arr m f) bs) (h0 : ok h)
    (hk : ∀ h' g, Own h' v (arr m g) bs → Pm a b f g → Srt L a b g → Fr bs h h' → K (.tuple #[]) h') : CallH Try.prog slices_insertionSortCmpFunc_int.id #[v, Iv (a : Nat), Iv (b : Nat), cv] K h := by
  refine slices_insertionSortCmpFunc_int.ok ?_
  simp only [slices_insertionSortCmpFunc_int.pt]
  try simp (disch := first | assumption | omega | (apply At.mk; with_unfolding_all rfl)) only [↓go_eq, ↓ent_eq, Mv, NilC_at, Fld_at, add_mk, Nat.zero_add, Nat.add_zero, Add64, Sub64, Mul64, Quo64, Rem64, Neg64, Cvt64, CvtU8, CvtU16, CvtU32, CvtU64, AddU64, SubU64, MulU64, Shr64, Shr_u8, Shr_u16, Shr_u32, Shr_u64, And1, And31, And32, Eql64, Neq64, Bin_lss, Bin_leq, Bin_gtr, Bin_geq, Bin_bool_eql, Bin_bool_neq, Bin_ptr_nil_eql, Bin_ptr_nil_neq, Not_dec, Un_not, Pick_t, Pick_f, Pick_pos, Pick_neg, Gd_tt, Gd_tf, Gd_ft, Gd_ff, Gd_pos_t, Gd_neg_t, Gd_pos_f, Gd_neg_f, Gd_undef, If_t, If_f, If_pos, If_neg, CallF_eq, Max_two, Min_two, Len_rd, Len_own, Ld_blkE, Idx_rdN, Idx_ownN, Idx_rdE, Idx_ownE, IdxAE, LdA_two, Idx_at0, Ext_atE, Len_at, Int.toNat_natCast, Int.toNat_zero, Int.toNat_one, List.length_map, List.length_append, List.length_cons, List.length_nil, List.length_take, List.length_set, List.length_replicate, Bool.not_true, Bool.not_false, decide_true, decide_false, BEq.rfl, bne_self_eq_false, tf_beq, ft_beq, tf_bne, ft_bne, not_true_eq_false, not_false_eq_true, app]
  rw [show (a : Int) + 1 = ((a + 1 : Nat) : Int) by omega]
  refine Lp_fn (σ := Nat × (Nat → Int)) (fun s => [v, Iv (a : Nat), Iv (b : Nat), cv, Iv (s.1 : Nat)]) (fun s h' => a + 1 ≤ s.1 ∧ s.1 ≤ max b (a + 1) ∧ Own h' v (arr m s.2) bs ∧ Pm a b f s.2 ∧ Srt L a s.1 s.2 ∧ Fr bs h h') (fun s => b - s.1) (a + 1, f) rfl (fun _ => rfl) ⟨Nat.le_refl _, by simp only; omega, w, .refl, fun i j h1 h2 h3 => by simp only at h3; omega, Fr.refl _ _⟩ ?_
  rintro ⟨i, g⟩ h1 ⟨hi, hi2, w1, p1, s1, f1⟩ X hX
  simp only at hi hi2 w1 p1 s1
  by_cases c1 : (i : Int) < (b : Nat)
  · try simp (disch := first | assumption | omega | (apply At.mk; with_unfolding_all rfl)) only [↓go_eq, ↓ent_eq, Mv, NilC_at, Fld_at, add_mk, Nat.zero_add, Nat.add_zero, Add64, Sub64, Mul64, Quo64, Rem64, Neg64, Cvt64, CvtU8, CvtU16, CvtU32, CvtU64, AddU64, SubU64, MulU64, Shr64, Shr_u8, Shr_u16, Shr_u32, Shr_u64, And1, And31, And32, Eql64, Neq64, Bin_lss, Bin_leq, Bin_gtr, Bin_geq, Bin_bool_eql, Bin_bool_neq, Bin_ptr_nil_eql, Bin_ptr_nil_neq, Not_dec, Un_not, Pick_t, Pick_f, Pick_pos, Pick_neg, Gd_tt, Gd_tf, Gd_ft, Gd_ff, Gd_pos_t, Gd_neg_t, Gd_pos_f, Gd_neg_f, Gd_undef, If_t, If_f, If_pos, If_neg, CallF_eq, Max_two, Min_two, Len_rd, Len_own, Ld_blkE, Idx_rdN, Idx_ownN, Idx_rdE, Idx_ownE, IdxAE, LdA_two, Idx_at0, Ext_atE, Len_at, Int.toNat_natCast, Int.toNat_zero, Int.toNat_one, List.length_map, List.length_append, List.length_cons, List.length_nil, List.length_take, List.length_set, List.length_replicate, Bool.not_true, Bool.not_false, decide_true, decide_false, BEq.rfl, bne_self_eq_false, tf_beq, ft_beq, tf_bne, ft_bne, not_true_eq_false, not_false_eq_true, app]
    refine Lp_fn (σ := Nat × (Nat → Int)) (fun s => [v, Iv (a : Nat), Iv (b : Nat), cv, Iv (i : Nat), Iv (s.1 : Nat)]) (fun s h' => a ≤ s.1 ∧ s.1 ≤ i ∧ Own h' v (arr m s.2) bs ∧ Pm a b f s.2 ∧ InsI L a i s.1 s.2 ∧ Fr bs h h') (fun s => s.1) (i, g) rfl (fun _ => rfl) ⟨by simp only; omega, Nat.le_refl _, w1, p1, ins_start s1, f1⟩ ?_
    clear w1 p1 s1 f1
    rintro ⟨j, g⟩ h2 ⟨hj, hj2, w2, p2, s2, f2⟩ Y hY
    simp only at hj hj2 w2 p2 s2
    have nxt : Srt L a (i + 1) g → app 5 X [v, Iv (a : Nat), Iv (b : Nat), cv, Iv ((i + 1 : Nat) : Int)] h2 := fun s => hX (i + 1, g) h2 ⟨by simp only; omega, by simp only; omega, w2, p2, s, f2⟩ (by simp only; omega)
    by_cases c2 : (j : Int) > (a : Nat)
    · have a1 := arr_at g (show j < m by omega)
      have et : ((j : Int) - 1).toNat = j - 1 := by omega
      have a2 := arr_at g (show j - 1 < m by omega)
      rw [← et] at a2
      try simp (disch := first | assumption | omega | (apply At.mk; with_unfolding_all rfl)) only [↓go_eq, ↓ent_eq, Mv, NilC_at, Fld_at, add_mk, Nat.zero_add, Nat.add_zero, Add64, Sub64, Mul64, Quo64, Rem64, Neg64, Cvt64, CvtU8, CvtU16, CvtU32, CvtU64, AddU64, SubU64, MulU64, Shr64, Shr_u8, Shr_u16, Shr_u32, Shr_u64, And1, And31, And32, Eql64, Neq64, Bin_lss, Bin_leq, Bin_gtr, Bin_geq, Bin_bool_eql, Bin_bool_neq, Bin_ptr_nil_eql, Bin_ptr_nil_neq, Not_dec, Un_not, Pick_t, Pick_f, Pick_pos, Pick_neg, Gd_tt, Gd_tf, Gd_ft, Gd_ff, Gd_pos_t, Gd_neg_t, Gd_pos_f, Gd_neg_f, Gd_undef, If_t, If_f, If_pos, If_neg, CallF_eq, Max_two, Min_two, Len_rd, Len_own, Ld_blkE, Idx_rdN, Idx_ownN, Idx_rdE, Idx_ownE, IdxAE, LdA_two, Idx_at0, Ext_atE, Len_at, Int.toNat_natCast, Int.toNat_zero, Int.toNat_one, List.length_map, List.length_append, List.length_cons, List.length_nil, List.length_take, List.length_set, List.length_replicate, Bool.not_true, Bool.not_false, decide_true, decide_false, BEq.rfl, bne_self_eq_false, tf_beq, ft_beq, tf_bne, ft_bne, not_true_eq_false, not_false_eq_true, app]
      have hD' := p2.all hD
      refine hc _ _ _ _ (hok _ _ h0 f2) (hD' _ (by omega) (by omega)) (hD' _ (by omega) (by omega)) fun r hr => ?_
      rw [et] at hr a2
      by_cases c3 : r < 0
      · rw [← et] at a2
        try simp (disch := first | assumption | omega | (apply At.mk; with_unfolding_all rfl)) only [↓go_eq, ↓ent_eq, Mv, NilC_at, Fld_at, add_mk, Nat.zero_add, Nat.add_zero, Add64, Sub64, Mul64, Quo64, Rem64, Neg64, Cvt64, CvtU8, CvtU16, CvtU32, CvtU64, AddU64, SubU64, MulU64, Shr64, Shr_u8, Shr_u16, Shr_u32, Shr_u64, And1, And31, And32, Eql64, Neq64, Bin_lss, Bin_leq, Bin_gtr, Bin_geq, Bin_bool_eql, Bin_bool_neq, Bin_ptr_nil_eql, Bin_ptr_nil_neq, Not_dec, Un_not, Pick_t, Pick_f, Pick_pos, Pick_neg, Gd_tt, Gd_tf, Gd_ft, Gd_ff, Gd_pos_t, Gd_neg_t, Gd_pos_f, Gd_neg_f, Gd_undef, If_t, If_f, If_pos, If_neg, CallF_eq, Max_two, Min_two, Len_rd, Len_own, Ld_blkE, Idx_rdN, Idx_ownN, Idx_rdE, Idx_ownE, IdxAE, LdA_two, Idx_at0, Ext_atE, Len_at, Int.toNat_natCast, Int.toNat_zero, Int.toNat_one, List.length_map, List.length_append, List.length_cons, List.length_nil, List.length_take, List.length_set, List.length_replicate, Bool.not_true, Bool.not_false, decide_true, decide_false, BEq.rfl, bne_self_eq_false, tf_beq, ft_beq, tf_bne, ft_bne, not_true_eq_false, not_false_eq_true, app]
        rw [show (j : Int) - 1 = ((j - 1 : Nat) : Int) by omega, Int.toNat_natCast]
        refine swap2 w2 (by omega) (by omega) fun h3 w3 f3 => ?_
        try simp (disch := first | assumption | omega | (apply At.mk; with_unfolding_all rfl)) only [↓go_eq, ↓ent_eq, Mv, NilC_at, Fld_at, add_mk, Nat.zero_add, Nat.add_zero, Add64, Sub64, Mul64, Quo64, Rem64, Neg64, Cvt64, CvtU8, CvtU16, CvtU32, CvtU64, AddU64, SubU64, MulU64, Shr64, Shr_u8, Shr_u16, Shr_u32, Shr_u64, And1, And31, And32, Eql64, Neq64, Bin_lss, Bin_leq, Bin_gtr, Bin_geq, Bin_bool_eql, Bin_bool_neq, Bin_ptr_nil_eql, Bin_ptr_nil_neq, Not_dec, Un_not, Pick_t, Pick_f, Pick_pos, Pick_neg, Gd_tt, Gd_tf, Gd_ft, Gd_ff, Gd_pos_t, Gd_neg_t, Gd_pos_f, Gd_neg_f, Gd_undef, If_t, If_f, If_pos, If_neg, CallF_eq, Max_two, Min_two, Len_rd, Len_own, Ld_blkE, Idx_rdN, Idx_ownN, Idx_rdE, Idx_ownE, IdxAE, LdA_two, Idx_at0, Ext_atE, Len_at, Int.toNat_natCast, Int.toNat_zero, Int.toNat_one, List.length_map, List.length_append, List.length_cons, List.length_nil, List.length_take, List.length_set, List.length_replicate, Bool.not_true, Bool.not_false, decide_true, decide_false, BEq.rfl, bne_self_eq_false, tf_beq, ft_beq, tf_bne, ft_bne, not_true_eq_false, not_false_eq_true, app]
        try rw [show (j : Int) - 1 = ((j - 1 : Nat) : Int) by omega]
        exact hY (j - 1, swp g j (j - 1)) h3 ⟨by simp only; omega, by simp only; omega, w3, p2.step j (j - 1) (by omega) (by omega) (by omega) (by omega), ins_step o s2 (by omega) hj2 (hr.1 c3), f2.trans f3⟩ (by simp only; omega)
      · try simp (disch := first | assumption | omega | (apply At.mk; with_unfolding_all rfl)) only [↓go_eq, ↓ent_eq, Mv, NilC_at, Fld_at, add_mk, Nat.zero_add, Nat.add_zero, Add64, Sub64, Mul64, Quo64, Rem64, Neg64, Cvt64, CvtU8, CvtU16, CvtU32, CvtU64, AddU64, SubU64, MulU64, Shr64, Shr_u8, Shr_u16, Shr_u32, Shr_u64, And1, And31, And32, Eql64, Neq64, Bin_lss, Bin_leq, Bin_gtr, Bin_geq, Bin_bool_eql, Bin_bool_neq, Bin_ptr_nil_eql, Bin_ptr_nil_neq, Not_dec, Un_not, Pick_t, Pick_f, Pick_pos, Pick_neg, Gd_tt, Gd_tf, Gd_ft, Gd_ff, Gd_pos_t, Gd_neg_t, Gd_pos_f, Gd_neg_f, Gd_undef, If_t, If_f, If_pos, If_neg, CallF_eq, Max_two, Min_two, Len_rd, Len_own, Ld_blkE, Idx_rdN, Idx_ownN, Idx_rdE, Idx_ownE, IdxAE, LdA_two, Idx_at0, Ext_atE, Len_at, Int.toNat_natCast, Int.toNat_zero, Int.toNat_one, List.length_map, List.length_append, List.length_cons, List.length_nil, List.length_take, List.length_set, List.length_replicate, Bool.not_true, Bool.not_false, decide_true, decide_false, BEq.rfl, bne_self_eq_false, tf_beq, ft_beq, tf_bne, ft_bne, not_true_eq_false, not_false_eq_true, app]
        exact nxt (ins_end o s2 hj hj2 (.inr fun x => c3 (hr.2 x)))
    · try simp (disch := first | assumption | omega | (apply At.mk; with_unfolding_all rfl)) only [↓go_eq, ↓ent_eq, Mv, NilC_at, Fld_at, add_mk, Nat.zero_add, Nat.add_zero, Add64, Sub64, Mul64, Quo64, Rem64, Neg64, Cvt64, CvtU8, CvtU16, CvtU32, CvtU64, AddU64, SubU64, MulU64, Shr64, Shr_u8, Shr_u16, Shr_u32, Shr_u64, And1, And31, And32, Eql64, Neq64, Bin_lss, Bin_leq, Bin_gtr, Bin_geq, Bin_bool_eql, Bin_bool_neq, Bin_ptr_nil_eql, Bin_ptr_nil_neq, Not_dec, Un_not, Pick_t, Pick_f, Pick_pos, Pick_neg, Gd_tt, Gd_tf, Gd_ft, Gd_ff, Gd_pos_t, Gd_neg_t, Gd_pos_f, Gd_neg_f, Gd_undef, If_t, If_f, If_pos, If_neg, CallF_eq, Max_two, Min_two, Len_rd, Len_own, Ld_blkE, Idx_rdN, Idx_ownN, Idx_rdE, Idx_ownE, IdxAE, LdA_two, Idx_at0, Ext_atE, Len_at, Int.toNat_natCast, Int.toNat_zero, Int.toNat_one, List.length_map, List.length_append, List.length_cons, List.length_nil, List.length_take, List.length_set, List.length_replicate, Bool.not_true, Bool.not_false, decide_true, decide_false, BEq.rfl, bne_self_eq_false, tf_beq, ft_beq, tf_bne, ft_bne, not_true_eq_false, not_false_eq_true, app]
      exact nxt (ins_end o s2 hj hj2 (.inl (by omega)))
  · try simp (disch := first | assumption | omega | (apply At.mk; with_unfolding_all rfl)) only [↓go_eq, ↓ent_eq, Mv, NilC_at, Fld_at, add_mk, Nat.zero_add, Nat.add_zero, Add64, Sub64, Mul64, Quo64, Rem64, Neg64, Cvt64, CvtU8, CvtU16, CvtU32, CvtU64, AddU64, SubU64, MulU64, Shr64, Shr_u8, Shr_u16, Shr_u32, Shr_u64, And1, And31, And32, Eql64, Neq64, Bin_lss, Bin_leq, Bin_gtr, Bin_geq, Bin_bool_eql, Bin_bool_neq, Bin_ptr_nil_eql, Bin_ptr_nil_neq, Not_dec, Un_not, Pick_t, Pick_f, Pick_pos, Pick_neg, Gd_tt, Gd_tf, Gd_ft, Gd_ff, Gd_pos_t, Gd_neg_t, Gd_pos_f, Gd_neg_f, Gd_undef, If_t, If_f, If_pos, If_neg, CallF_eq, Max_two, Min_two, Len_rd, Len_own, Ld_blkE, Idx_rdN, Idx_ownN, Idx_rdE, Idx_ownE, IdxAE, LdA_two, Idx_at0, Ext_atE, Len_at, Int.toNat_natCast, Int.toNat_zero, Int.toNat_one, List.length_map, List.length_append, List.length_cons, List.length_nil, List.length_take, List.length_set, List.length_replicate, Bool.not_true, Bool.not_false, decide_true, decide_false, BEq.rfl, bne_self_eq_false, tf_beq, ft_beq, tf_bne, ft_bne, not_true_eq_false, not_false_eq_true, app]
    refine hk h1 g w1 p1 (fun x y h1 h2 h3 => s1 x y h1 h2 (by omega)) f1
end
end So
end Go.Proofs.Ytjedohcphkdekaa
