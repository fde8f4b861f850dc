/- The store: new, a clause more, is one there. Conditions: those typed ahead of each theorem. -/
import Derived.Test.YteahhifkkjfhoaaRu
namespace Go.Proofs.Yteahhifkkjfhoaa
open Go.Pt
set_option linter.unusedVariables false
set_option linter.unusedSimpArgs false
/-- A store in memory: all that is its own lies from N on. -/
structure StAt (h : Heap) (sb n N : Nat) (u : Value) (b0 : List Nat) (ps : Ps) : Prop where
  blk : Blk h sb [Iv n, u]
  own : OwnF h u N b0 ps
  lo : N ≤ sb
  ne : sb ∉ b0 ∧ ∀ p ∈ ps, sb ∉ p.2.2
theorem StAt.fr {h h' : Heap} {sb n N : Nat} {u : Value} {b0 : List Nat} {ps : Ps} (s : StAt h sb n N u b0 ps) (f : Fr [] h h') : StAt h' sb n N u b0 ps := ⟨s.blk.fr f (by simp), s.own.fr f (by simp), s.lo, s.ne⟩
theorem StAt.frS {h h' : Heap} {sb n N : Nat} {u : Value} {b0 S : List Nat} {ps : Ps} (s : StAt h sb n N u b0 ps) (f : Fr S h h') (hS : ∀ b ∈ S, b ≠ sb ∧ b ∉ b0 ∧ ∀ p ∈ ps, b ∉ p.2.2) : StAt h' sb n N u b0 ps :=
  ⟨s.blk.fr f (fun hm => (hS _ hm).1 rfl), ⟨s.own.own.fr f (fun b hb hm => (hS b hm).2.1 hb), fun p hp => (s.own.each p hp).fr f fun b hb hm => (hS b hm).2.2 p hp hb, s.own.lo, s.own.los, s.own.dj⟩, s.lo, s.ne⟩
theorem rup_New.spec {n : Nat} {K : Ret} {h : Heap} (hk : ∀ h', StAt h' h.size n h.size (.slice none 0 0) [] [] → Fr [] h h' → K (ptr h.size) h') : CallH Try.prog rup_New.id #[Iv n] K h := by
  refine rup_New.ok ?_
  simp only [rup_New.pt]
  try simp (disch := first | assumption | omega | (apply At.mk; with_unfolding_all rfl)) only [↓go_eq, ↓ent_eq, Mv, NilC_at, Fld_at, add_mk, Nat.zero_add, Nat.add_zero, Add64, Sub64, Mul64, Quo64, Rem64, Neg64, Cvt64, CvtU8, CvtU16, CvtU32, CvtU64, AddU64, SubU64, MulU64, Shr64, Shr_u8, Shr_u16, Shr_u32, Shr_u64, And1, And31, And32, Eql64, Neq64, Bin_lss, Bin_leq, Bin_gtr, Bin_geq, Bin_bool_eql, Bin_bool_neq, Bin_ptr_nil_eql, Bin_ptr_nil_neq, Not_dec, Un_not, Pick_t, Pick_f, Pick_pos, Pick_neg, Gd_tt, Gd_tf, Gd_ft, Gd_ff, Gd_pos_t, Gd_neg_t, Gd_pos_f, Gd_neg_f, Gd_undef, If_t, If_f, If_pos, If_neg, CallF_eq, Max_two, Min_two, Len_rd, Len_own, Ld_blkE, Idx_rdN, Idx_ownN, Idx_rdE, Idx_ownE, IdxAE, LdA_two, Idx_at0, Ext_atE, Len_at, Int.toNat_natCast, Int.toNat_zero, Int.toNat_one, List.length_map, List.length_append, List.length_cons, List.length_nil, List.length_take, List.length_set, List.length_replicate, Bool.not_true, Bool.not_false, decide_true, decide_false, BEq.rfl, bne_self_eq_false, tf_beq, ft_beq, tf_bne, ft_bne, not_true_eq_false, not_false_eq_true, app]
  rw [Bld_fst rfl]
  try simp (disch := first | assumption | omega | (apply At.mk; with_unfolding_all rfl)) only [↓go_eq, ↓ent_eq, Mv, NilC_at, Fld_at, add_mk, Nat.zero_add, Nat.add_zero, Add64, Sub64, Mul64, Quo64, Rem64, Neg64, Cvt64, CvtU8, CvtU16, CvtU32, CvtU64, AddU64, SubU64, MulU64, Shr64, Shr_u8, Shr_u16, Shr_u32, Shr_u64, And1, And31, And32, Eql64, Neq64, Bin_lss, Bin_leq, Bin_gtr, Bin_geq, Bin_bool_eql, Bin_bool_neq, Bin_ptr_nil_eql, Bin_ptr_nil_neq, Not_dec, Un_not, Pick_t, Pick_f, Pick_pos, Pick_neg, Gd_tt, Gd_tf, Gd_ft, Gd_ff, Gd_pos_t, Gd_neg_t, Gd_pos_f, Gd_neg_f, Gd_undef, If_t, If_f, If_pos, If_neg, CallF_eq, Max_two, Min_two, Len_rd, Len_own, Ld_blkE, Idx_rdN, Idx_ownN, Idx_rdE, Idx_ownE, IdxAE, LdA_two, Idx_at0, Ext_atE, Len_at, Int.toNat_natCast, Int.toNat_zero, Int.toNat_one, List.length_map, List.length_append, List.length_cons, List.length_nil, List.length_take, List.length_set, List.length_replicate, Bool.not_true, Bool.not_false, decide_true, decide_false, BEq.rfl, bne_self_eq_false, tf_beq, ft_beq, tf_bne, ft_bne, not_true_eq_false, not_false_eq_true, app]
  refine New_blk fun h1 b1 f1 s1 => ?_
  have b1 : Blk h1 h.size [Iv n, .slice none 0 0] := b1
  exact hk h1 ⟨b1, OwnF.nil _ _, Nat.le_refl _, by simp⟩ f1
theorem rup_Store_Len.spec {n sb N : Nat} {u : Value} {b0 : List Nat} {ps : Ps} {K : Ret} {h : Heap} (s : StAt h sb n N u b0 ps) (hk : K (Iv (ps.length : Nat)) h) : CallH Try.prog rup_Store_Len.id #[ptr sb] K h := by
  refine rup_Store_Len.ok ?_
  simp only [rup_Store_Len.pt]
  have hb := s.blk
  have ho := s.own.own
  try simp (disch := first | assumption | omega | (apply At.mk; with_unfolding_all rfl)) only [↓go_eq, ↓ent_eq, Mv, NilC_at, Fld_at, add_mk, Nat.zero_add, Nat.add_zero, Add64, Sub64, Mul64, Quo64, Rem64, Neg64, Cvt64, CvtU8, CvtU16, CvtU32, CvtU64, AddU64, SubU64, MulU64, Shr64, Shr_u8, Shr_u16, Shr_u32, Shr_u64, And1, And31, And32, Eql64, Neq64, Bin_lss, Bin_leq, Bin_gtr, Bin_geq, Bin_bool_eql, Bin_bool_neq, Bin_ptr_nil_eql, Bin_ptr_nil_neq, Not_dec, Un_not, Pick_t, Pick_f, Pick_pos, Pick_neg, Gd_tt, Gd_tf, Gd_ft, Gd_ff, Gd_pos_t, Gd_neg_t, Gd_pos_f, Gd_neg_f, Gd_undef, If_t, If_f, If_pos, If_neg, CallF_eq, Max_two, Min_two, Len_rd, Len_own, Ld_blkE, Idx_rdN, Idx_ownN, Idx_rdE, Idx_ownE, IdxAE, LdA_two, Idx_at0, Ext_atE, Len_at, Int.toNat_natCast, Int.toNat_zero, Int.toNat_one, List.length_map, List.length_append, List.length_cons, List.length_nil, List.length_take, List.length_set, List.length_replicate, Bool.not_true, Bool.not_false, decide_true, decide_false, BEq.rfl, bne_self_eq_false, tf_beq, ft_beq, tf_bne, ft_bne, not_true_eq_false, not_false_eq_true, app]
  exact hk
theorem len_q {n sb N : Nat} {u : Value} {b0 : List Nat} {ps : Ps} {K : Ret} {h : Heap} (s : StAt h sb n N u b0 ps) (hk : K (Iv (ps.length : Nat)) h) : QCall Try.prog rup_Store_Len.id [ptr sb] K h := QCall_mk (rup_Store_Len.spec s ⟨rfl, rfl⟩) hk
instance (n : Nat) (l : Int) : Decidable (LitOk n l) := inferInstanceAs (Decidable (_ ∧ _ ∧ _))
theorem lit_Right.spec {l : Int} {n : Nat} (hl : -9223372036854775808 ≤ l ∧ l ≤ 9223372036854775807) (hn : n ≤ 100000) {K : Ret} {h : Heap} (hk : K (.bool (decide (LitOk n l))) h) : CallH Try.prog lit_Right.id #[Iv l, Iv n] K h := by
  refine lit_Right.ok ?_
  simp only [lit_Right.pt]
  have hm : min (max (n : Int) 0) 100000 = n := by omega
  try simp (disch := first | assumption | omega | (apply At.mk; with_unfolding_all rfl)) only [hm, ↓go_eq, ↓ent_eq, Mv, NilC_at, Fld_at, add_mk, Nat.zero_add, Nat.add_zero, Add64, Sub64, Mul64, Quo64, Rem64, Neg64, Cvt64, CvtU8, CvtU16, CvtU32, CvtU64, AddU64, SubU64, MulU64, Shr64, Shr_u8, Shr_u16, Shr_u32, Shr_u64, And1, And31, And32, Eql64, Neq64, Bin_lss, Bin_leq, Bin_gtr, Bin_geq, Bin_bool_eql, Bin_bool_neq, Bin_ptr_nil_eql, Bin_ptr_nil_neq, Not_dec, Un_not, Pick_t, Pick_f, Pick_pos, Pick_neg, Gd_tt, Gd_tf, Gd_ft, Gd_ff, Gd_pos_t, Gd_neg_t, Gd_pos_f, Gd_neg_f, Gd_undef, If_t, If_f, If_pos, If_neg, CallF_eq, Max_two, Min_two, Len_rd, Len_own, Ld_blkE, Idx_rdN, Idx_ownN, Idx_rdE, Idx_ownE, IdxAE, LdA_two, Idx_at0, Ext_atE, Len_at, Int.toNat_natCast, Int.toNat_zero, Int.toNat_one, List.length_map, List.length_append, List.length_cons, List.length_nil, List.length_take, List.length_set, List.length_replicate, Bool.not_true, Bool.not_false, decide_true, decide_false, BEq.rfl, bne_self_eq_false, tf_beq, ft_beq, tf_bne, ft_bne, not_true_eq_false, not_false_eq_true, app]
  by_cases c1 : l = 0
  · have : ¬ LitOk n l := fun x => x.1 c1
    rw [decide_eq_false this] at hk
    try simp (disch := first | assumption | omega | (apply At.mk; with_unfolding_all rfl)) only [↓go_eq, ↓ent_eq, Mv, NilC_at, Fld_at, add_mk, Nat.zero_add, Nat.add_zero, Add64, Sub64, Mul64, Quo64, Rem64, Neg64, Cvt64, CvtU8, CvtU16, CvtU32, CvtU64, AddU64, SubU64, MulU64, Shr64, Shr_u8, Shr_u16, Shr_u32, Shr_u64, And1, And31, And32, Eql64, Neq64, Bin_lss, Bin_leq, Bin_gtr, Bin_geq, Bin_bool_eql, Bin_bool_neq, Bin_ptr_nil_eql, Bin_ptr_nil_neq, Not_dec, Un_not, Pick_t, Pick_f, Pick_pos, Pick_neg, Gd_tt, Gd_tf, Gd_ft, Gd_ff, Gd_pos_t, Gd_neg_t, Gd_pos_f, Gd_neg_f, Gd_undef, If_t, If_f, If_pos, If_neg, CallF_eq, Max_two, Min_two, Len_rd, Len_own, Ld_blkE, Idx_rdN, Idx_ownN, Idx_rdE, Idx_ownE, IdxAE, LdA_two, Idx_at0, Ext_atE, Len_at, Int.toNat_natCast, Int.toNat_zero, Int.toNat_one, List.length_map, List.length_append, List.length_cons, List.length_nil, List.length_take, List.length_set, List.length_replicate, Bool.not_true, Bool.not_false, decide_true, decide_false, BEq.rfl, bne_self_eq_false, tf_beq, ft_beq, tf_bne, ft_bne, not_true_eq_false, not_false_eq_true, app]
    exact hk
  by_cases c2 : l ≤ n
  · by_cases c3 : l ≥ -(n : Int)
    · have : LitOk n l := ⟨c1, c3, c2⟩
      rw [decide_eq_true this] at hk
      try simp (disch := first | assumption | omega | (apply At.mk; with_unfolding_all rfl)) only [↓go_eq, ↓ent_eq, Mv, NilC_at, Fld_at, add_mk, Nat.zero_add, Nat.add_zero, Add64, Sub64, Mul64, Quo64, Rem64, Neg64, Cvt64, CvtU8, CvtU16, CvtU32, CvtU64, AddU64, SubU64, MulU64, Shr64, Shr_u8, Shr_u16, Shr_u32, Shr_u64, And1, And31, And32, Eql64, Neq64, Bin_lss, Bin_leq, Bin_gtr, Bin_geq, Bin_bool_eql, Bin_bool_neq, Bin_ptr_nil_eql, Bin_ptr_nil_neq, Not_dec, Un_not, Pick_t, Pick_f, Pick_pos, Pick_neg, Gd_tt, Gd_tf, Gd_ft, Gd_ff, Gd_pos_t, Gd_neg_t, Gd_pos_f, Gd_neg_f, Gd_undef, If_t, If_f, If_pos, If_neg, CallF_eq, Max_two, Min_two, Len_rd, Len_own, Ld_blkE, Idx_rdN, Idx_ownN, Idx_rdE, Idx_ownE, IdxAE, LdA_two, Idx_at0, Ext_atE, Len_at, Int.toNat_natCast, Int.toNat_zero, Int.toNat_one, List.length_map, List.length_append, List.length_cons, List.length_nil, List.length_take, List.length_set, List.length_replicate, Bool.not_true, Bool.not_false, decide_true, decide_false, BEq.rfl, bne_self_eq_false, tf_beq, ft_beq, tf_bne, ft_bne, not_true_eq_false, not_false_eq_true, app]
      first | exact hk | (rw [decide_eq_true c3]; exact hk)
    · have : ¬ LitOk n l := fun x => c3 x.2.1
      rw [decide_eq_false this] at hk
      try simp (disch := first | assumption | omega | (apply At.mk; with_unfolding_all rfl)) only [↓go_eq, ↓ent_eq, Mv, NilC_at, Fld_at, add_mk, Nat.zero_add, Nat.add_zero, Add64, Sub64, Mul64, Quo64, Rem64, Neg64, Cvt64, CvtU8, CvtU16, CvtU32, CvtU64, AddU64, SubU64, MulU64, Shr64, Shr_u8, Shr_u16, Shr_u32, Shr_u64, And1, And31, And32, Eql64, Neq64, Bin_lss, Bin_leq, Bin_gtr, Bin_geq, Bin_bool_eql, Bin_bool_neq, Bin_ptr_nil_eql, Bin_ptr_nil_neq, Not_dec, Un_not, Pick_t, Pick_f, Pick_pos, Pick_neg, Gd_tt, Gd_tf, Gd_ft, Gd_ff, Gd_pos_t, Gd_neg_t, Gd_pos_f, Gd_neg_f, Gd_undef, If_t, If_f, If_pos, If_neg, CallF_eq, Max_two, Min_two, Len_rd, Len_own, Ld_blkE, Idx_rdN, Idx_ownN, Idx_rdE, Idx_ownE, IdxAE, LdA_two, Idx_at0, Ext_atE, Len_at, Int.toNat_natCast, Int.toNat_zero, Int.toNat_one, List.length_map, List.length_append, List.length_cons, List.length_nil, List.length_take, List.length_set, List.length_replicate, Bool.not_true, Bool.not_false, decide_true, decide_false, BEq.rfl, bne_self_eq_false, tf_beq, ft_beq, tf_bne, ft_bne, not_true_eq_false, not_false_eq_true, app]
      first | exact hk | (rw [decide_eq_false c3]; exact hk)
  · have : ¬ LitOk n l := fun x => c2 x.2.2
    rw [decide_eq_false this] at hk
    try simp (disch := first | assumption | omega | (apply At.mk; with_unfolding_all rfl)) only [↓go_eq, ↓ent_eq, Mv, NilC_at, Fld_at, add_mk, Nat.zero_add, Nat.add_zero, Add64, Sub64, Mul64, Quo64, Rem64, Neg64, Cvt64, CvtU8, CvtU16, CvtU32, CvtU64, AddU64, SubU64, MulU64, Shr64, Shr_u8, Shr_u16, Shr_u32, Shr_u64, And1, And31, And32, Eql64, Neq64, Bin_lss, Bin_leq, Bin_gtr, Bin_geq, Bin_bool_eql, Bin_bool_neq, Bin_ptr_nil_eql, Bin_ptr_nil_neq, Not_dec, Un_not, Pick_t, Pick_f, Pick_pos, Pick_neg, Gd_tt, Gd_tf, Gd_ft, Gd_ff, Gd_pos_t, Gd_neg_t, Gd_pos_f, Gd_neg_f, Gd_undef, If_t, If_f, If_pos, If_neg, CallF_eq, Max_two, Min_two, Len_rd, Len_own, Ld_blkE, Idx_rdN, Idx_ownN, Idx_rdE, Idx_ownE, IdxAE, LdA_two, Idx_at0, Ext_atE, Len_at, Int.toNat_natCast, Int.toNat_zero, Int.toNat_one, List.length_map, List.length_append, List.length_cons, List.length_nil, List.length_take, List.length_set, List.length_replicate, Bool.not_true, Bool.not_false, decide_true, decide_false, BEq.rfl, bne_self_eq_false, tf_beq, ft_beq, tf_bne, ft_bne, not_true_eq_false, not_false_eq_true, app]
    exact hk
theorem right_q {l : Int} {n : Nat} (hl : So.Sm l) (hn : n ≤ 100000) {K : Ret} {h : Heap} (hk : K (.bool (decide (LitOk n l))) h) : QCall Try.prog lit_Right.id [Iv l, Iv n] K h := QCall_mk (lit_Right.spec ⟨by have := hl.1; omega, by have := hl.2; omega⟩ hn ⟨rfl, rfl⟩) hk
def badT (n : Nat) (c : List Int) : Bool := c.any fun l => !decide (LitOk n l)
theorem badT_false {n : Nat} {c : List Int} : badT n c = false ↔ ClOk n c := by
  unfold badT
  rw [List.any_eq_false]
  exact ⟨fun h l hl => by simpa using h l hl, fun h l hl => by simpa using h l hl⟩
theorem badT_true {n : Nat} {c : List Int} : badT n c = true ↔ ¬ ClOk n c := by rw [← badT_false]; simp
theorem slices_ContainsFunc_int_int.spec {v fv : Value} {c : List Int} (p : Int → Bool) (hl : c.length ≤ 1000000000) {K : Ret} {h : Heap} (hv : Rd h v (c.map Iv)) (hp : ∀ l ∈ c, ∀ K : Ret, K (.bool (p l)) h → CallV Try.prog fv [Iv l] K h)
    (hk : K (.bool (c.any p)) h) : CallH Try.prog slices_ContainsFunc_int_int.id #[v, fv] K h := by
  refine slices_ContainsFunc_int_int.ok ?_
  simp only [slices_ContainsFunc_int_int.pt]
  try simp (disch := first | assumption | omega | (apply At.mk; with_unfolding_all rfl)) only [↓go_eq, ↓ent_eq, Mv, NilC_at, Fld_at, add_mk, Nat.zero_add, Nat.add_zero, Add64, Sub64, Mul64, Quo64, Rem64, Neg64, Cvt64, CvtU8, CvtU16, CvtU32, CvtU64, AddU64, SubU64, MulU64, Shr64, Shr_u8, Shr_u16, Shr_u32, Shr_u64, And1, And31, And32, Eql64, Neq64, Bin_lss, Bin_leq, Bin_gtr, Bin_geq, Bin_bool_eql, Bin_bool_neq, Bin_ptr_nil_eql, Bin_ptr_nil_neq, Not_dec, Un_not, Pick_t, Pick_f, Pick_pos, Pick_neg, Gd_tt, Gd_tf, Gd_ft, Gd_ff, Gd_pos_t, Gd_neg_t, Gd_pos_f, Gd_neg_f, Gd_undef, If_t, If_f, If_pos, If_neg, CallF_eq, Max_two, Min_two, Len_rd, Len_own, Ld_blkE, Idx_rdN, Idx_ownN, Idx_rdE, Idx_ownE, IdxAE, LdA_two, Idx_at0, Ext_atE, Len_at, Int.toNat_natCast, Int.toNat_zero, Int.toNat_one, List.length_map, List.length_append, List.length_cons, List.length_nil, List.length_take, List.length_set, List.length_replicate, Bool.not_true, Bool.not_false, decide_true, decide_false, BEq.rfl, bne_self_eq_false, tf_beq, ft_beq, tf_bne, ft_bne, not_true_eq_false, not_false_eq_true, app]
  refine slices_IndexFunc_int_int.spec p hl hv hp fun i hi => ?_
  try simp (disch := first | assumption | omega | (apply At.mk; with_unfolding_all rfl)) only [↓go_eq, ↓ent_eq, Mv, NilC_at, Fld_at, add_mk, Nat.zero_add, Nat.add_zero, Add64, Sub64, Mul64, Quo64, Rem64, Neg64, Cvt64, CvtU8, CvtU16, CvtU32, CvtU64, AddU64, SubU64, MulU64, Shr64, Shr_u8, Shr_u16, Shr_u32, Shr_u64, And1, And31, And32, Eql64, Neq64, Bin_lss, Bin_leq, Bin_gtr, Bin_geq, Bin_bool_eql, Bin_bool_neq, Bin_ptr_nil_eql, Bin_ptr_nil_neq, Not_dec, Un_not, Pick_t, Pick_f, Pick_pos, Pick_neg, Gd_tt, Gd_tf, Gd_ft, Gd_ff, Gd_pos_t, Gd_neg_t, Gd_pos_f, Gd_neg_f, Gd_undef, If_t, If_f, If_pos, If_neg, CallF_eq, Max_two, Min_two, Len_rd, Len_own, Ld_blkE, Idx_rdN, Idx_ownN, Idx_rdE, Idx_ownE, IdxAE, LdA_two, Idx_at0, Ext_atE, Len_at, Int.toNat_natCast, Int.toNat_zero, Int.toNat_one, List.length_map, List.length_append, List.length_cons, List.length_nil, List.length_take, List.length_set, List.length_replicate, Bool.not_true, Bool.not_false, decide_true, decide_false, BEq.rfl, bne_self_eq_false, tf_beq, ft_beq, tf_bne, ft_bne, not_true_eq_false, not_false_eq_true, app]
  have e : decide (i ≥ 0) = c.any p := by
    cases hb : c.any p with
    | true => exact decide_eq_true (hi.2 hb)
    | false => exact decide_eq_false fun q => by rw [hi.1 q] at hb; cases hb
  rw [e]; exact hk
/-! ### A clause more -/
/-- Where Add stands: the clause in one form, the slice of it, the longer list. -/
structure AddSt (h0 : Heap) (u : Value) (b0 : List Nat) (us : List Value) (c : List Int) (x : Option (Value × List Nat)) (y : Option Value) (z : Option (Value × List Nat)) (h : Heap) : Prop where
  fr : Fr b0 h0 h
  fr0 : z = none → Fr [] h0 h ∧ Own h u us b0
  hx : ∀ t bs, x = some (t, bs) → Own h t ((nf c).map Iv) bs ∧ ∀ b ∈ bs, h0.size ≤ b
  hy : ∀ t, y = some t → ∃ t14 bs bb, x = some (t14, bs) ∧ Own h t [t14] [bb] ∧ h0.size ≤ bb
  hz : ∀ u' b0', z = some (u', b0') → ∃ t14 bs, x = some (t14, bs) ∧ Own h u' (us ++ [t14]) b0' ∧ ∀ b ∈ b0', b ∈ b0 ∨ (h0.size ≤ b ∧ b ∉ bs)
section
variable {h0 h : Heap} {u v : Value} {b0 : List Nat} {us : List Value} {c : List Int} {x : Option (Value × List Nat)} {y : Option Value} {z : Option (Value × List Nat)} {K : Ret}
theorem AddSt.ld {b o : Nat} {cs : List Value} {w : Value} (a : AddSt h0 u b0 us c x y z h) (hb : Blk h0 b cs) (hn : b ∉ b0) (ho : cs[o]? = some w) (hk : K w h) : Ld (.pointer (some ⟨b, o, none⟩)) K h := Ld_blk (hb.fr a.fr hn) ho hk
theorem AddSt.cl (a : AddSt h0 u b0 us c none none none h) (hl : c.length ≤ 1000000) (hD : ∀ x ∈ c, Sm x) (hv : Rd h0 v (c.map Iv)) (hk : ∀ t bs h', AddSt h0 u b0 us c (some (t, bs)) none none h' → K t h') : CallH Try.prog norm_Clause.id #[v] K h := by
  obtain ⟨f, o⟩ := a.fr0 rfl
  refine norm_Clause.spec hl hD (hv.fr f) fun t bs h1 o1 hb1 f1 => hk t bs h1 ⟨a.fr.trans' f1 (by simp), fun _ => ⟨f.trans f1, o.fr f1 (by simp)⟩, fun t' bs' e => ?_, fun t' e => (by cases e), fun u' b0' e => (by cases e)⟩
  cases e
  exact ⟨o1, fun b hb => by have := hb1 b hb; have := f.size; omega⟩
theorem AddSt.bld {t : Value} {bs : List Nat} {el : Nat} {zv : Value} (a : AddSt h0 u b0 us c (some (t, bs)) none none h) (hk : ∀ s h', AddSt h0 u b0 us c (some (t, bs)) (some s) none h' → K s h') : BldS el 1 1 #[zv] [(0, t)] K h := by
  obtain ⟨f, o⟩ := a.fr0 rfl
  obtain ⟨o1, hb1⟩ := a.hx _ _ rfl
  refine BldS_one rfl o1.rd.isCell fun h1 o2 f1 s1 => hk _ h1 ⟨a.fr.trans' f1 (by simp), fun _ => ⟨f.trans f1, o.fr f1 (by simp)⟩, fun t' bs' e => ?_, fun t' e => ?_, fun u' b0' e => (by cases e)⟩
  · cases e; exact ⟨o1.fr f1 (by simp), hb1⟩
  · cases e; exact ⟨t, bs, h.size, rfl, o2, f.size⟩
theorem AddSt.app {t s zv : Value} {bs : List Nat} {el : Nat} (a : AddSt h0 u b0 us c (some (t, bs)) (some s) none h) (hz : isCell zv = true) (hlen : us.length ≤ 1000000) (hlt : ∀ b ∈ b0, b < h0.size) (hk : ∀ u' b0' h', AddSt h0 u b0 us c (some (t, bs)) (some s) (some (u', b0')) h' → K u' h') : App el 1 24 #[zv] u s K h := by
  obtain ⟨f, o⟩ := a.fr0 rfl
  obtain ⟨o1, hb1⟩ := a.hx _ _ rfl
  obtain ⟨t', bs', bb, e, o2, hbb⟩ := a.hy _ rfl
  cases e
  have hlo := o1.lt
  refine o.app (ys := [t]) o2.rd rfl hz (fun q hq => by simp at hq; rw [hq]; exact o1.rd.isCell) (by simp; omega) (by simp; omega) fun u' h1 b0' o3 f1 hb3 s3 => ?_
  have dj : ∀ b ∈ bs, b ∉ b0 := fun b hb hm => by have := hb1 b hb; have := hlt b hm; omega
  refine hk u' b0' h1 ⟨a.fr.trans f1, fun e => (by cases e), fun t' bs' e => ?_, fun t' e => ?_, fun u2 b2 e => ?_⟩
  · cases e; exact ⟨o1.fr f1 dj, hb1⟩
  · cases e
    exact ⟨t, bs, bb, rfl, o2.fr f1 (fun b hb hm => by simp at hb; subst hb; have := hlt _ hm; omega), hbb⟩
  · cases e
    refine ⟨t, bs, rfl, o3, fun b hb => ?_⟩
    rcases hb3 b hb with q | q
    · exact .inl q
    · exact .inr ⟨by have := f.size; omega, fun hm => by have := hlo b hm; omega⟩
theorem AddSt.fin {n sb N : Nat} {ps : Ps} {t s u' : Value} {bs b0' : List Nat} {J : Heap → Prop} (S : StAt h0 sb n N u b0 ps) (hNs : N ≤ h0.size) (a : AddSt h0 u b0 (ps.map (·.1)) c (some (t, bs)) (some s) (some (u', b0')) h)
    (hJ : ∀ h', StAt h' sb n N u' b0' (ps ++ [(t, nf c, bs)]) → Fr (sb :: b0) h0 h' → (∀ b ∈ b0', b ∈ b0 ∨ h0.size ≤ b) → J h') : St (.pointer (some ⟨sb, 1, none⟩)) u' (fun _ h => J h) h := by
  obtain ⟨o1, hb1⟩ := a.hx _ _ rfl
  obtain ⟨t', bs', e, o3, hb3⟩ := a.hz _ _ rfl
  cases e
  have hlt := S.own.lt
  have hs := S.blk.lt
  refine St_blk (S.blk.fr a.fr S.ne.1) (by simp) o3.rd.isCell fun h1 b1 f1 => ?_
  have nb0 : sb ∉ b0' := fun hm => by
    rcases hb3 _ hm with q | ⟨q, _⟩
    · exact S.ne.1 q
    · omega
  refine hJ h1 ⟨b1, ⟨?_, fun p hp => ?_, fun b hb => ?_, fun p hp b hb => ?_, ?_⟩, S.lo, nb0, fun p hp hm => ?_⟩ ((a.fr.mono (by intro x hx; exact List.mem_cons_of_mem _ hx)).trans (f1.mono (by simp))) (fun b hb => (hb3 b hb).imp id (·.1))
  · simp only [List.map_append, List.map_cons, List.map_nil]
    exact o3.fr f1 fun b hb hm => by simp at hm; subst hm; exact nb0 hb
  · rcases List.mem_append.1 hp with q | q
    · exact ((S.own.each p q).fr a.fr fun b hb hm => (S.own.los p q b hb).2 hm).fr f1 fun b hb hm => by simp at hm; subst hm; exact S.ne.2 p q hb
    · simp at q; subst q
      exact o1.fr f1 fun b hb hm => by simp at hm; subst hm; have := hb1 _ hb; omega
  · rcases hb3 b hb with q | ⟨q, _⟩
    · exact S.own.lo b q
    · omega
  · rcases List.mem_append.1 hp with q | q
    · refine ⟨(S.own.los p q b hb).1, fun hm => ?_⟩
      rcases hb3 b hm with r | ⟨r, _⟩
      · exact (S.own.los p q b hb).2 r
      · have := hlt.2 p q b hb; omega
    · simp at q; subst q
      refine ⟨by have := hb1 b hb; omega, fun hm => ?_⟩
      rcases hb3 b hm with r | ⟨_, r⟩
      · have := hlt.1 b r; have := hb1 b hb; omega
      · exact r hb
  · rw [List.pairwise_append]
    refine ⟨S.own.dj, List.pairwise_singleton _ _, fun p hp q hq b hb hm => ?_⟩
    simp at hq; subst hq
    have := hlt.2 p hp b hb; have := hb1 b hm; omega
  · rcases List.mem_append.1 hp with q | q
    · exact S.ne.2 p q hm
    · simp at q; subst q; have := hb1 _ hm; omega
end
set_option maxHeartbeats 4000000 in
theorem rup_Store_Add.spec {n sb N : Nat} {u v : Value} {b0 : List Nat} {ps : Ps} {c : List Int} (hn : n ≤ 100000) (hl : c.length ≤ 1000000) (hD : ∀ x ∈ c, Sm x) (hps : ps.length ≤ 1000000) {K : Ret} {h : Heap} (s : StAt h sb n N u b0 ps) (hN : N ≤ h.size) (hv : Rd h v (c.map Iv))
    (h1 : ClOk n c → ∀ u' b0' t bs h', StAt h' sb n N u' b0' (ps ++ [(t, nf c, bs)]) → Fr (sb :: b0) h h' → (∀ b ∈ b0', b ∈ b0 ∨ h.size ≤ b) → K (.bool true) h') (h2 : ¬ ClOk n c → ∀ h', Fr [] h h' → K (.bool false) h') : CallH Try.prog rup_Store_Add.id #[ptr sb, v] K h := by
  refine rup_Store_Add.ok ?_
  simp only [rup_Store_Add.pt]
  have hlt := s.own.lt
  have hsl := s.blk.lt
  rw [go_eq]
  refine New_blk fun h3 b3 f3 s3 => ?_
  have b3 : Blk h3 h.size [ptr sb] := b3
  have s3 := s.fr f3
  have hs3 := s3.blk
  have hv3 := hv.fr f3
  obtain ⟨tb, htb⟩ : ∃ tb, tb = h.size := ⟨_, rfl⟩
  rw [← htb] at b3 ⊢
  rw [go_eq, CallF_eq]
  refine slices_ContainsFunc_int_int.spec (fun l => !decide (LitOk n l)) (by omega) hv3 (fun l hl K' hK' => CallV_func (by kernel_rfl) ?_) ?_
  · refine rup_Store_Add_1.ok ?_
    simp only [rup_Store_Add_1.pt]
    refine Ld_blk b3 rfl ?_
    try simp (disch := first | assumption | omega | (apply At.mk; with_unfolding_all rfl)) only [↓go_eq, ↓ent_eq, Mv, NilC_at, Fld_at, add_mk, Nat.zero_add, Nat.add_zero, Add64, Sub64, Mul64, Quo64, Rem64, Neg64, Cvt64, CvtU8, CvtU16, CvtU32, CvtU64, AddU64, SubU64, MulU64, Shr64, Shr_u8, Shr_u16, Shr_u32, Shr_u64, And1, And31, And32, Eql64, Neq64, Bin_lss, Bin_leq, Bin_gtr, Bin_geq, Bin_bool_eql, Bin_bool_neq, Bin_ptr_nil_eql, Bin_ptr_nil_neq, Not_dec, Un_not, Pick_t, Pick_f, Pick_pos, Pick_neg, Gd_tt, Gd_tf, Gd_ft, Gd_ff, Gd_pos_t, Gd_neg_t, Gd_pos_f, Gd_neg_f, Gd_undef, If_t, If_f, If_pos, If_neg, CallF_eq, Max_two, Min_two, Len_rd, Len_own, Ld_blkE, Idx_rdN, Idx_ownN, Idx_rdE, Idx_ownE, IdxAE, LdA_two, Idx_at0, Ext_atE, Len_at, Int.toNat_natCast, Int.toNat_zero, Int.toNat_one, List.length_map, List.length_append, List.length_cons, List.length_nil, List.length_take, List.length_set, List.length_replicate, Bool.not_true, Bool.not_false, decide_true, decide_false, BEq.rfl, bne_self_eq_false, tf_beq, ft_beq, tf_bne, ft_bne, not_true_eq_false, not_false_eq_true, app]
    refine right_q (hD l hl) hn ?_
    try simp (disch := first | assumption | omega | (apply At.mk; with_unfolding_all rfl)) only [↓go_eq, ↓ent_eq, Mv, NilC_at, Fld_at, add_mk, Nat.zero_add, Nat.add_zero, Add64, Sub64, Mul64, Quo64, Rem64, Neg64, Cvt64, CvtU8, CvtU16, CvtU32, CvtU64, AddU64, SubU64, MulU64, Shr64, Shr_u8, Shr_u16, Shr_u32, Shr_u64, And1, And31, And32, Eql64, Neq64, Bin_lss, Bin_leq, Bin_gtr, Bin_geq, Bin_bool_eql, Bin_bool_neq, Bin_ptr_nil_eql, Bin_ptr_nil_neq, Not_dec, Un_not, Pick_t, Pick_f, Pick_pos, Pick_neg, Gd_tt, Gd_tf, Gd_ft, Gd_ff, Gd_pos_t, Gd_neg_t, Gd_pos_f, Gd_neg_f, Gd_undef, If_t, If_f, If_pos, If_neg, CallF_eq, Max_two, Min_two, Len_rd, Len_own, Ld_blkE, Idx_rdN, Idx_ownN, Idx_rdE, Idx_ownE, IdxAE, LdA_two, Idx_at0, Ext_atE, Len_at, Int.toNat_natCast, Int.toNat_zero, Int.toNat_one, List.length_map, List.length_append, List.length_cons, List.length_nil, List.length_take, List.length_set, List.length_replicate, Bool.not_true, Bool.not_false, decide_true, decide_false, BEq.rfl, bne_self_eq_false, tf_beq, ft_beq, tf_bne, ft_bne, not_true_eq_false, not_false_eq_true, app]
    exact hK'
  rw [show (c.any fun l => !decide (LitOk n l)) = badT n c from rfl]
  have hN3 : N ≤ h3.size := by have := f3.size; omega
  have ht0 : tb ∉ b0 := fun hm => by have := hlt.1 _ hm; omega
  have hps' : (ps.map (·.1)).length ≤ 1000000 := by rw [List.length_map]; exact hps
  have hlt3 : ∀ b ∈ b0, b < h3.size := fun b hb => by have := hlt.1 b hb; have := f3.size; omega
  have hB : AddSt h3 u b0 (ps.map (·.1)) c none none none h3 := ⟨Fr.refl _ _, fun _ => ⟨Fr.refl _ _, s3.own.own⟩, fun t bs e => (by cases e), fun t e => (by cases e), fun t bs e => (by cases e)⟩
  cases hb : badT n c with
  | true =>
    try simp (disch := first | assumption | omega | (apply At.mk; with_unfolding_all rfl)) only [↓go_eq, ↓ent_eq, Mv, NilC_at, Fld_at, add_mk, Nat.zero_add, Nat.add_zero, Add64, Sub64, Mul64, Quo64, Rem64, Neg64, Cvt64, CvtU8, CvtU16, CvtU32, CvtU64, AddU64, SubU64, MulU64, Shr64, Shr_u8, Shr_u16, Shr_u32, Shr_u64, And1, And31, And32, Eql64, Neq64, Bin_lss, Bin_leq, Bin_gtr, Bin_geq, Bin_bool_eql, Bin_bool_neq, Bin_ptr_nil_eql, Bin_ptr_nil_neq, Not_dec, Un_not, Pick_t, Pick_f, Pick_pos, Pick_neg, Gd_tt, Gd_tf, Gd_ft, Gd_ff, Gd_pos_t, Gd_neg_t, Gd_pos_f, Gd_neg_f, Gd_undef, If_t, If_f, If_pos, If_neg, CallF_eq, Max_two, Min_two, Len_rd, Len_own, Ld_blkE, Idx_rdN, Idx_ownN, Idx_rdE, Idx_ownE, IdxAE, LdA_two, Idx_at0, Ext_atE, Len_at, Int.toNat_natCast, Int.toNat_zero, Int.toNat_one, List.length_map, List.length_append, List.length_cons, List.length_nil, List.length_take, List.length_set, List.length_replicate, Bool.not_true, Bool.not_false, decide_true, decide_false, BEq.rfl, bne_self_eq_false, tf_beq, ft_beq, tf_bne, ft_bne, not_true_eq_false, not_false_eq_true, app]
    exact h2 (badT_true.1 hb) h3 f3
  | false =>
    have hok := badT_false.1 hb
    rw [If_f]
    refine Jn_fn (σ := Value × List Nat × Value × List Nat) (fun _ => []) (fun x h' => StAt h' sb n N x.1 x.2.1 (ps ++ [(x.2.2.1, nf c, x.2.2.2)]) ∧ Fr (sb :: b0) h3 h' ∧ ∀ b ∈ x.2.1, b ∈ b0 ∨ h3.size ≤ b) ?_ ?_
    · intro J hJ
      have fin : ∀ (t s' u' : Value) (bs b0' : List Nat) (h' : Heap), AddSt h3 u b0 (ps.map (·.1)) c (some (t, bs)) (some s') (some (u', b0')) h' → St (.pointer (some ⟨sb, 1, none⟩)) u' (fun _ h => J h) h' := fun t s' u' bs b0' h' hB =>
        AddSt.fin s3 hN3 hB fun h4 S4 f4 hb4 => hJ (u', b0', t, bs) h4 ⟨S4, f4, hb4⟩
      have hz1 : isCell (.slice none 0 0) = true := rfl
      repeat' first
        | exact fin _ _ _ _ _ _ hB
        | refine And.intro ?_ ?_
        | refine AddSt.ld hB b3 ht0 rfl ?_
        | refine AddSt.ld hB hs3 s3.ne.1 rfl ?_
        | refine AddSt.cl hB hl hD hv3 fun t bs h hB => ?_
        | refine AddSt.bld hB fun s' h hB => ?_
        | refine AddSt.app hB hz1 hps' hlt3 fun u' b0' h hB => ?_
        | rw [go_eq, NilC_at, go_eq, Fld_at, add_mk, Nat.zero_add]
        | rw [go_eq, CallF_eq]
        | rw [go_eq]
    · rintro ⟨u', b0', t, bs⟩ h4 ⟨S4, f4, hb4⟩
      exact h1 hok u' b0' t bs h4 S4 ((f3.mono (by simp)).trans f4) fun b hb => (hb4 b hb).imp (fun q => q) fun q => by have := f3.size; omega
end Go.Proofs.Yteahhifkkjfhoaa

/- Finding and removing a clause of the store. Conditions: those typed ahead of each theorem. -/
namespace Go.Proofs.Yteahhifkkjfhoaa
open Go.Pt
set_option linter.unusedVariables false
set_option linter.unusedSimpArgs false
theorem slices_IndexFunc_int_int_2.spec {v fv : Value} {us : List Value} (p : Nat → Bool) (hl : us.length ≤ 1000000000) {K : Ret} {h : Heap} (hv : Rd h v us) (hp : ∀ i u, us[i]? = some u → ∀ K : Ret, K (.bool (p i)) h → CallV Try.prog fv [u] K h)
    (h0 : (∀ i, i < us.length → p i = false) → K (Iv (-1)) h) (h1 : ∀ i : Nat, i < us.length → (∀ j, j < i → p j = false) → p i = true → K (Iv (i : Nat)) h) : CallH Try.prog slices_IndexFunc_int_int_2.id #[v, fv] K h := by
  refine slices_IndexFunc_int_int_2.ok ?_
  simp only [slices_IndexFunc_int_int_2.pt]
  try simp (disch := first | assumption | omega | (apply At.mk; with_unfolding_all rfl)) only [↓go_eq, ↓ent_eq, Mv, NilC_at, Fld_at, add_mk, Nat.zero_add, Nat.add_zero, Add64, Sub64, Mul64, Quo64, Rem64, Neg64, Cvt64, CvtU8, CvtU16, CvtU32, CvtU64, AddU64, SubU64, MulU64, Shr64, Shr_u8, Shr_u16, Shr_u32, Shr_u64, And1, And31, And32, Eql64, Neq64, Bin_lss, Bin_leq, Bin_gtr, Bin_geq, Bin_bool_eql, Bin_bool_neq, Bin_ptr_nil_eql, Bin_ptr_nil_neq, Not_dec, Un_not, Pick_t, Pick_f, Pick_pos, Pick_neg, Gd_tt, Gd_tf, Gd_ft, Gd_ff, Gd_pos_t, Gd_neg_t, Gd_pos_f, Gd_neg_f, Gd_undef, If_t, If_f, If_pos, If_neg, CallF_eq, Max_two, Min_two, Len_rd, Len_own, Ld_blkE, Idx_rdN, Idx_ownN, Idx_rdE, Idx_ownE, IdxAE, LdA_two, Idx_at0, Ext_atE, Len_at, Int.toNat_natCast, Int.toNat_zero, Int.toNat_one, List.length_map, List.length_append, List.length_cons, List.length_nil, List.length_take, List.length_set, List.length_replicate, Bool.not_true, Bool.not_false, decide_true, decide_false, BEq.rfl, bne_self_eq_false, tf_beq, ft_beq, tf_bne, ft_bne, not_true_eq_false, not_false_eq_true, app]
  refine Lp_fn (σ := Nat) (fun i => [v, fv, Iv (us.length : Nat), Iv (i : Int)]) (fun i h' => h = h' ∧ i ≤ us.length ∧ ∀ j, j < i → p j = false) (fun i => us.length - i) 0 rfl (fun _ => rfl) ⟨rfl, Nat.zero_le _, fun j hj => by omega⟩ ?_
  rintro i _ ⟨rfl, hi, ht⟩ X hX
  by_cases c1 : (i : Int) < (us.length : Nat)
  · have hg : us[i]? = some us[i] := List.getElem?_eq_getElem (by omega)
    have a1 : At us i us[i] := ⟨hg⟩
    try simp (disch := first | assumption | omega | (apply At.mk; with_unfolding_all rfl)) only [↓go_eq, ↓ent_eq, Mv, NilC_at, Fld_at, add_mk, Nat.zero_add, Nat.add_zero, Add64, Sub64, Mul64, Quo64, Rem64, Neg64, Cvt64, CvtU8, CvtU16, CvtU32, CvtU64, AddU64, SubU64, MulU64, Shr64, Shr_u8, Shr_u16, Shr_u32, Shr_u64, And1, And31, And32, Eql64, Neq64, Bin_lss, Bin_leq, Bin_gtr, Bin_geq, Bin_bool_eql, Bin_bool_neq, Bin_ptr_nil_eql, Bin_ptr_nil_neq, Not_dec, Un_not, Pick_t, Pick_f, Pick_pos, Pick_neg, Gd_tt, Gd_tf, Gd_ft, Gd_ff, Gd_pos_t, Gd_neg_t, Gd_pos_f, Gd_neg_f, Gd_undef, If_t, If_f, If_pos, If_neg, CallF_eq, Max_two, Min_two, Len_rd, Len_own, Ld_blkE, Idx_rdN, Idx_ownN, Idx_rdE, Idx_ownE, IdxAE, LdA_two, Idx_at0, Ext_atE, Len_at, Int.toNat_natCast, Int.toNat_zero, Int.toNat_one, List.length_map, List.length_append, List.length_cons, List.length_nil, List.length_take, List.length_set, List.length_replicate, Bool.not_true, Bool.not_false, decide_true, decide_false, BEq.rfl, bne_self_eq_false, tf_beq, ft_beq, tf_bne, ft_bne, not_true_eq_false, not_false_eq_true, app]
    refine hp i _ hg _ ?_
    cases e : p i with
    | true =>
      try simp (disch := first | assumption | omega | (apply At.mk; with_unfolding_all rfl)) only [↓go_eq, ↓ent_eq, Mv, NilC_at, Fld_at, add_mk, Nat.zero_add, Nat.add_zero, Add64, Sub64, Mul64, Quo64, Rem64, Neg64, Cvt64, CvtU8, CvtU16, CvtU32, CvtU64, AddU64, SubU64, MulU64, Shr64, Shr_u8, Shr_u16, Shr_u32, Shr_u64, And1, And31, And32, Eql64, Neq64, Bin_lss, Bin_leq, Bin_gtr, Bin_geq, Bin_bool_eql, Bin_bool_neq, Bin_ptr_nil_eql, Bin_ptr_nil_neq, Not_dec, Un_not, Pick_t, Pick_f, Pick_pos, Pick_neg, Gd_tt, Gd_tf, Gd_ft, Gd_ff, Gd_pos_t, Gd_neg_t, Gd_pos_f, Gd_neg_f, Gd_undef, If_t, If_f, If_pos, If_neg, CallF_eq, Max_two, Min_two, Len_rd, Len_own, Ld_blkE, Idx_rdN, Idx_ownN, Idx_rdE, Idx_ownE, IdxAE, LdA_two, Idx_at0, Ext_atE, Len_at, Int.toNat_natCast, Int.toNat_zero, Int.toNat_one, List.length_map, List.length_append, List.length_cons, List.length_nil, List.length_take, List.length_set, List.length_replicate, Bool.not_true, Bool.not_false, decide_true, decide_false, BEq.rfl, bne_self_eq_false, tf_beq, ft_beq, tf_bne, ft_bne, not_true_eq_false, not_false_eq_true, app]
      exact h1 i (by omega) ht e
    | false =>
      try simp (disch := first | assumption | omega | (apply At.mk; with_unfolding_all rfl)) only [↓go_eq, ↓ent_eq, Mv, NilC_at, Fld_at, add_mk, Nat.zero_add, Nat.add_zero, Add64, Sub64, Mul64, Quo64, Rem64, Neg64, Cvt64, CvtU8, CvtU16, CvtU32, CvtU64, AddU64, SubU64, MulU64, Shr64, Shr_u8, Shr_u16, Shr_u32, Shr_u64, And1, And31, And32, Eql64, Neq64, Bin_lss, Bin_leq, Bin_gtr, Bin_geq, Bin_bool_eql, Bin_bool_neq, Bin_ptr_nil_eql, Bin_ptr_nil_neq, Not_dec, Un_not, Pick_t, Pick_f, Pick_pos, Pick_neg, Gd_tt, Gd_tf, Gd_ft, Gd_ff, Gd_pos_t, Gd_neg_t, Gd_pos_f, Gd_neg_f, Gd_undef, If_t, If_f, If_pos, If_neg, CallF_eq, Max_two, Min_two, Len_rd, Len_own, Ld_blkE, Idx_rdN, Idx_ownN, Idx_rdE, Idx_ownE, IdxAE, LdA_two, Idx_at0, Ext_atE, Len_at, Int.toNat_natCast, Int.toNat_zero, Int.toNat_one, List.length_map, List.length_append, List.length_cons, List.length_nil, List.length_take, List.length_set, List.length_replicate, Bool.not_true, Bool.not_false, decide_true, decide_false, BEq.rfl, bne_self_eq_false, tf_beq, ft_beq, tf_bne, ft_bne, not_true_eq_false, not_false_eq_true, app]
      refine hX (i + 1) _ ⟨rfl, by omega, fun j hj => ?_⟩ (by omega)
      by_cases e2 : j = i
      · rw [e2]; exact e
      · exact ht j (by omega)
  · have : i = us.length := by omega
    subst this
    try simp (disch := first | assumption | omega | (apply At.mk; with_unfolding_all rfl)) only [↓go_eq, ↓ent_eq, Mv, NilC_at, Fld_at, add_mk, Nat.zero_add, Nat.add_zero, Add64, Sub64, Mul64, Quo64, Rem64, Neg64, Cvt64, CvtU8, CvtU16, CvtU32, CvtU64, AddU64, SubU64, MulU64, Shr64, Shr_u8, Shr_u16, Shr_u32, Shr_u64, And1, And31, And32, Eql64, Neq64, Bin_lss, Bin_leq, Bin_gtr, Bin_geq, Bin_bool_eql, Bin_bool_neq, Bin_ptr_nil_eql, Bin_ptr_nil_neq, Not_dec, Un_not, Pick_t, Pick_f, Pick_pos, Pick_neg, Gd_tt, Gd_tf, Gd_ft, Gd_ff, Gd_pos_t, Gd_neg_t, Gd_pos_f, Gd_neg_f, Gd_undef, If_t, If_f, If_pos, If_neg, CallF_eq, Max_two, Min_two, Len_rd, Len_own, Ld_blkE, Idx_rdN, Idx_ownN, Idx_rdE, Idx_ownE, IdxAE, LdA_two, Idx_at0, Ext_atE, Len_at, Int.toNat_natCast, Int.toNat_zero, Int.toNat_one, List.length_map, List.length_append, List.length_cons, List.length_nil, List.length_take, List.length_set, List.length_replicate, Bool.not_true, Bool.not_false, decide_true, decide_false, BEq.rfl, bne_self_eq_false, tf_beq, ft_beq, tf_bne, ft_bne, not_true_eq_false, not_false_eq_true, app]
    exact h0 ht
set_option maxHeartbeats 1000000 in
theorem rup_Store_find.spec {n sb N : Nat} {u v : Value} {b0 : List Nat} {ps : Ps} {c : List Int} (hn : n ≤ 100000) (hl : c.length ≤ 1000000) (hD : ∀ x ∈ c, Sm x) (hps : ps.length ≤ 1000000) (hpl : ∀ p ∈ ps, p.2.1.length ≤ 1000000) {K : Ret} {h : Heap} (s : StAt h sb n N u b0 ps) (hv : Rd h v (c.map Iv))
    (h1 : ∀ i : Nat, ClOk n c → i < ps.length → (cls ps)[i]? = some (nf c) → (∀ j, j < i → (cls ps)[j]? ≠ some (nf c)) → ∀ h', Fr [] h h' → K (Iv (i : Nat)) h') (h2 : ¬ (ClOk n c ∧ nf c ∈ cls ps) → ∀ h', Fr [] h h' → K (Iv (-1)) h') : CallH Try.prog rup_Store_find.id #[ptr sb, v] K h := by
  refine rup_Store_find.ok ?_
  simp only [rup_Store_find.pt]
  rw [go_eq]
  refine New_blk fun h3 b3 f3 s3 => ?_
  have b3 : Blk h3 h.size [ptr sb] := b3
  have s3 := s.fr f3
  have hs3 := s3.blk
  have hv3 := hv.fr f3
  obtain ⟨tb, htb⟩ : ∃ tb, tb = h.size := ⟨_, rfl⟩
  rw [← htb] at b3 ⊢
  rw [go_eq, CallF_eq]
  refine slices_ContainsFunc_int_int.spec (fun l => !decide (LitOk n l)) (by omega) hv3 (fun l hl K' hK' => CallV_func (by kernel_rfl) ?_) ?_
  · refine rup_Store_find_1.ok ?_
    simp only [rup_Store_find_1.pt]
    refine Ld_blk b3 rfl ?_
    try simp (disch := first | assumption | omega | (apply At.mk; with_unfolding_all rfl)) only [↓go_eq, ↓ent_eq, Mv, NilC_at, Fld_at, add_mk, Nat.zero_add, Nat.add_zero, Add64, Sub64, Mul64, Quo64, Rem64, Neg64, Cvt64, CvtU8, CvtU16, CvtU32, CvtU64, AddU64, SubU64, MulU64, Shr64, Shr_u8, Shr_u16, Shr_u32, Shr_u64, And1, And31, And32, Eql64, Neq64, Bin_lss, Bin_leq, Bin_gtr, Bin_geq, Bin_bool_eql, Bin_bool_neq, Bin_ptr_nil_eql, Bin_ptr_nil_neq, Not_dec, Un_not, Pick_t, Pick_f, Pick_pos, Pick_neg, Gd_tt, Gd_tf, Gd_ft, Gd_ff, Gd_pos_t, Gd_neg_t, Gd_pos_f, Gd_neg_f, Gd_undef, If_t, If_f, If_pos, If_neg, CallF_eq, Max_two, Min_two, Len_rd, Len_own, Ld_blkE, Idx_rdN, Idx_ownN, Idx_rdE, Idx_ownE, IdxAE, LdA_two, Idx_at0, Ext_atE, Len_at, Int.toNat_natCast, Int.toNat_zero, Int.toNat_one, List.length_map, List.length_append, List.length_cons, List.length_nil, List.length_take, List.length_set, List.length_replicate, Bool.not_true, Bool.not_false, decide_true, decide_false, BEq.rfl, bne_self_eq_false, tf_beq, ft_beq, tf_bne, ft_bne, not_true_eq_false, not_false_eq_true, app]
    refine right_q (hD l hl) hn ?_
    try simp (disch := first | assumption | omega | (apply At.mk; with_unfolding_all rfl)) only [↓go_eq, ↓ent_eq, Mv, NilC_at, Fld_at, add_mk, Nat.zero_add, Nat.add_zero, Add64, Sub64, Mul64, Quo64, Rem64, Neg64, Cvt64, CvtU8, CvtU16, CvtU32, CvtU64, AddU64, SubU64, MulU64, Shr64, Shr_u8, Shr_u16, Shr_u32, Shr_u64, And1, And31, And32, Eql64, Neq64, Bin_lss, Bin_leq, Bin_gtr, Bin_geq, Bin_bool_eql, Bin_bool_neq, Bin_ptr_nil_eql, Bin_ptr_nil_neq, Not_dec, Un_not, Pick_t, Pick_f, Pick_pos, Pick_neg, Gd_tt, Gd_tf, Gd_ft, Gd_ff, Gd_pos_t, Gd_neg_t, Gd_pos_f, Gd_neg_f, Gd_undef, If_t, If_f, If_pos, If_neg, CallF_eq, Max_two, Min_two, Len_rd, Len_own, Ld_blkE, Idx_rdN, Idx_ownN, Idx_rdE, Idx_ownE, IdxAE, LdA_two, Idx_at0, Ext_atE, Len_at, Int.toNat_natCast, Int.toNat_zero, Int.toNat_one, List.length_map, List.length_append, List.length_cons, List.length_nil, List.length_take, List.length_set, List.length_replicate, Bool.not_true, Bool.not_false, decide_true, decide_false, BEq.rfl, bne_self_eq_false, tf_beq, ft_beq, tf_bne, ft_bne, not_true_eq_false, not_false_eq_true, app]
    exact hK'
  rw [show (c.any fun l => !decide (LitOk n l)) = badT n c from rfl]
  cases hb : badT n c with
  | true =>
    try simp (disch := first | assumption | omega | (apply At.mk; with_unfolding_all rfl)) only [↓go_eq, ↓ent_eq, Mv, NilC_at, Fld_at, add_mk, Nat.zero_add, Nat.add_zero, Add64, Sub64, Mul64, Quo64, Rem64, Neg64, Cvt64, CvtU8, CvtU16, CvtU32, CvtU64, AddU64, SubU64, MulU64, Shr64, Shr_u8, Shr_u16, Shr_u32, Shr_u64, And1, And31, And32, Eql64, Neq64, Bin_lss, Bin_leq, Bin_gtr, Bin_geq, Bin_bool_eql, Bin_bool_neq, Bin_ptr_nil_eql, Bin_ptr_nil_neq, Not_dec, Un_not, Pick_t, Pick_f, Pick_pos, Pick_neg, Gd_tt, Gd_tf, Gd_ft, Gd_ff, Gd_pos_t, Gd_neg_t, Gd_pos_f, Gd_neg_f, Gd_undef, If_t, If_f, If_pos, If_neg, CallF_eq, Max_two, Min_two, Len_rd, Len_own, Ld_blkE, Idx_rdN, Idx_ownN, Idx_rdE, Idx_ownE, IdxAE, LdA_two, Idx_at0, Ext_atE, Len_at, Int.toNat_natCast, Int.toNat_zero, Int.toNat_one, List.length_map, List.length_append, List.length_cons, List.length_nil, List.length_take, List.length_set, List.length_replicate, Bool.not_true, Bool.not_false, decide_true, decide_false, BEq.rfl, bne_self_eq_false, tf_beq, ft_beq, tf_bne, ft_bne, not_true_eq_false, not_false_eq_true, app]
    exact h2 (fun q => badT_true.1 hb q.1) h3 f3
  | false =>
    have hok := badT_false.1 hb
    try simp (disch := first | assumption | omega | (apply At.mk; with_unfolding_all rfl)) only [↓go_eq, ↓ent_eq, Mv, NilC_at, Fld_at, add_mk, Nat.zero_add, Nat.add_zero, Add64, Sub64, Mul64, Quo64, Rem64, Neg64, Cvt64, CvtU8, CvtU16, CvtU32, CvtU64, AddU64, SubU64, MulU64, Shr64, Shr_u8, Shr_u16, Shr_u32, Shr_u64, And1, And31, And32, Eql64, Neq64, Bin_lss, Bin_leq, Bin_gtr, Bin_geq, Bin_bool_eql, Bin_bool_neq, Bin_ptr_nil_eql, Bin_ptr_nil_neq, Not_dec, Un_not, Pick_t, Pick_f, Pick_pos, Pick_neg, Gd_tt, Gd_tf, Gd_ft, Gd_ff, Gd_pos_t, Gd_neg_t, Gd_pos_f, Gd_neg_f, Gd_undef, If_t, If_f, If_pos, If_neg, CallF_eq, Max_two, Min_two, Len_rd, Len_own, Ld_blkE, Idx_rdN, Idx_ownN, Idx_rdE, Idx_ownE, IdxAE, LdA_two, Idx_at0, Ext_atE, Len_at, Int.toNat_natCast, Int.toNat_zero, Int.toNat_one, List.length_map, List.length_append, List.length_cons, List.length_nil, List.length_take, List.length_set, List.length_replicate, Bool.not_true, Bool.not_false, decide_true, decide_false, BEq.rfl, bne_self_eq_false, tf_beq, ft_beq, tf_bne, ft_bne, not_true_eq_false, not_false_eq_true, app]
    refine norm_Clause.spec hl hD hv3 fun d bs h4 o4 hb4 f4 => ?_
    try simp (disch := first | assumption | omega | (apply At.mk; with_unfolding_all rfl)) only [↓go_eq, ↓ent_eq, Mv, NilC_at, Fld_at, add_mk, Nat.zero_add, Nat.add_zero, Add64, Sub64, Mul64, Quo64, Rem64, Neg64, Cvt64, CvtU8, CvtU16, CvtU32, CvtU64, AddU64, SubU64, MulU64, Shr64, Shr_u8, Shr_u16, Shr_u32, Shr_u64, And1, And31, And32, Eql64, Neq64, Bin_lss, Bin_leq, Bin_gtr, Bin_geq, Bin_bool_eql, Bin_bool_neq, Bin_ptr_nil_eql, Bin_ptr_nil_neq, Not_dec, Un_not, Pick_t, Pick_f, Pick_pos, Pick_neg, Gd_tt, Gd_tf, Gd_ft, Gd_ff, Gd_pos_t, Gd_neg_t, Gd_pos_f, Gd_neg_f, Gd_undef, If_t, If_f, If_pos, If_neg, CallF_eq, Max_two, Min_two, Len_rd, Len_own, Ld_blkE, Idx_rdN, Idx_ownN, Idx_rdE, Idx_ownE, IdxAE, LdA_two, Idx_at0, Ext_atE, Len_at, Int.toNat_natCast, Int.toNat_zero, Int.toNat_one, List.length_map, List.length_append, List.length_cons, List.length_nil, List.length_take, List.length_set, List.length_replicate, Bool.not_true, Bool.not_false, decide_true, decide_false, BEq.rfl, bne_self_eq_false, tf_beq, ft_beq, tf_bne, ft_bne, not_true_eq_false, not_false_eq_true, app]
    refine New_blk fun h5 b5 f5 s5 => ?_
    have b5 : Blk h5 h4.size [.slice none 0 0] := b5
    try simp (disch := first | assumption | omega | (apply At.mk; with_unfolding_all rfl)) only [↓go_eq, ↓ent_eq, Mv, NilC_at, Fld_at, add_mk, Nat.zero_add, Nat.add_zero, Add64, Sub64, Mul64, Quo64, Rem64, Neg64, Cvt64, CvtU8, CvtU16, CvtU32, CvtU64, AddU64, SubU64, MulU64, Shr64, Shr_u8, Shr_u16, Shr_u32, Shr_u64, And1, And31, And32, Eql64, Neq64, Bin_lss, Bin_leq, Bin_gtr, Bin_geq, Bin_bool_eql, Bin_bool_neq, Bin_ptr_nil_eql, Bin_ptr_nil_neq, Not_dec, Un_not, Pick_t, Pick_f, Pick_pos, Pick_neg, Gd_tt, Gd_tf, Gd_ft, Gd_ff, Gd_pos_t, Gd_neg_t, Gd_pos_f, Gd_neg_f, Gd_undef, If_t, If_f, If_pos, If_neg, CallF_eq, Max_two, Min_two, Len_rd, Len_own, Ld_blkE, Idx_rdN, Idx_ownN, Idx_rdE, Idx_ownE, IdxAE, LdA_two, Idx_at0, Ext_atE, Len_at, Int.toNat_natCast, Int.toNat_zero, Int.toNat_one, List.length_map, List.length_append, List.length_cons, List.length_nil, List.length_take, List.length_set, List.length_replicate, Bool.not_true, Bool.not_false, decide_true, decide_false, BEq.rfl, bne_self_eq_false, tf_beq, ft_beq, tf_bne, ft_bne, not_true_eq_false, not_false_eq_true, app]
    refine St_blk b5 (by simp) o4.rd.isCell fun h6 b6 f6 => ?_
    have b6 : Blk h6 h4.size [d] := b6
    have f46 : Fr [] h4 h6 := f5.trans' f6 (by simp)
    have f06 := (f3.trans f4).trans f46
    have s6 := s.fr f06
    have hs6 := s6.blk
    have t6 := (b3.fr f4 (by simp)).fr f46 (by simp)
    have rd6 := (o4.fr f46 (by simp)).rd
    have hnl := nf_len c
    try simp (disch := first | assumption | omega | (apply At.mk; with_unfolding_all rfl)) only [↓go_eq, ↓ent_eq, Mv, NilC_at, Fld_at, add_mk, Nat.zero_add, Nat.add_zero, Add64, Sub64, Mul64, Quo64, Rem64, Neg64, Cvt64, CvtU8, CvtU16, CvtU32, CvtU64, AddU64, SubU64, MulU64, Shr64, Shr_u8, Shr_u16, Shr_u32, Shr_u64, And1, And31, And32, Eql64, Neq64, Bin_lss, Bin_leq, Bin_gtr, Bin_geq, Bin_bool_eql, Bin_bool_neq, Bin_ptr_nil_eql, Bin_ptr_nil_neq, Not_dec, Un_not, Pick_t, Pick_f, Pick_pos, Pick_neg, Gd_tt, Gd_tf, Gd_ft, Gd_ff, Gd_pos_t, Gd_neg_t, Gd_pos_f, Gd_neg_f, Gd_undef, If_t, If_f, If_pos, If_neg, CallF_eq, Max_two, Min_two, Len_rd, Len_own, Ld_blkE, Idx_rdN, Idx_ownN, Idx_rdE, Idx_ownE, IdxAE, LdA_two, Idx_at0, Ext_atE, Len_at, Int.toNat_natCast, Int.toNat_zero, Int.toNat_one, List.length_map, List.length_append, List.length_cons, List.length_nil, List.length_take, List.length_set, List.length_replicate, Bool.not_true, Bool.not_false, decide_true, decide_false, BEq.rfl, bne_self_eq_false, tf_beq, ft_beq, tf_bne, ft_bne, not_true_eq_false, not_false_eq_true, app]
    refine slices_IndexFunc_int_int_2.spec (fun i => decide ((cls ps)[i]? = some (nf c))) (by rw [List.length_map]; omega) s6.own.own.rd (fun i x hx K' hK' => CallV_func (by kernel_rfl) ?_) (fun hno => ?_) fun i hi hlo hp => ?_
    · rw [List.getElem?_map] at hx
      cases hp : ps[i]? with
      | none => rw [hp] at hx; cases hx
      | some p =>
        rw [hp] at hx
        cases hx
        have hpm := List.mem_of_getElem? hp
        have rp := (s6.own.each p hpm).rd
        refine rup_Store_find_2.ok ?_
        simp only [rup_Store_find_2.pt]
        refine Ld_blk b6 rfl ?_
        try simp (disch := first | assumption | omega | (apply At.mk; with_unfolding_all rfl)) only [↓go_eq, ↓ent_eq, Mv, NilC_at, Fld_at, add_mk, Nat.zero_add, Nat.add_zero, Add64, Sub64, Mul64, Quo64, Rem64, Neg64, Cvt64, CvtU8, CvtU16, CvtU32, CvtU64, AddU64, SubU64, MulU64, Shr64, Shr_u8, Shr_u16, Shr_u32, Shr_u64, And1, And31, And32, Eql64, Neq64, Bin_lss, Bin_leq, Bin_gtr, Bin_geq, Bin_bool_eql, Bin_bool_neq, Bin_ptr_nil_eql, Bin_ptr_nil_neq, Not_dec, Un_not, Pick_t, Pick_f, Pick_pos, Pick_neg, Gd_tt, Gd_tf, Gd_ft, Gd_ff, Gd_pos_t, Gd_neg_t, Gd_pos_f, Gd_neg_f, Gd_undef, If_t, If_f, If_pos, If_neg, CallF_eq, Max_two, Min_two, Len_rd, Len_own, Ld_blkE, Idx_rdN, Idx_ownN, Idx_rdE, Idx_ownE, IdxAE, LdA_two, Idx_at0, Ext_atE, Len_at, Int.toNat_natCast, Int.toNat_zero, Int.toNat_one, List.length_map, List.length_append, List.length_cons, List.length_nil, List.length_take, List.length_set, List.length_replicate, Bool.not_true, Bool.not_false, decide_true, decide_false, BEq.rfl, bne_self_eq_false, tf_beq, ft_beq, tf_bne, ft_bne, not_true_eq_false, not_false_eq_true, app]
        refine slices_Equal_int_int.spec (hpl p hpm) rp rd6 ?_
        have e : (cls ps)[i]? = some p.2.1 := by rw [cls, List.getElem?_map, hp]; rfl
        rw [e] at hK'
        simpa using hK'
    · try simp (disch := first | assumption | omega | (apply At.mk; with_unfolding_all rfl)) only [↓go_eq, ↓ent_eq, Mv, NilC_at, Fld_at, add_mk, Nat.zero_add, Nat.add_zero, Add64, Sub64, Mul64, Quo64, Rem64, Neg64, Cvt64, CvtU8, CvtU16, CvtU32, CvtU64, AddU64, SubU64, MulU64, Shr64, Shr_u8, Shr_u16, Shr_u32, Shr_u64, And1, And31, And32, Eql64, Neq64, Bin_lss, Bin_leq, Bin_gtr, Bin_geq, Bin_bool_eql, Bin_bool_neq, Bin_ptr_nil_eql, Bin_ptr_nil_neq, Not_dec, Un_not, Pick_t, Pick_f, Pick_pos, Pick_neg, Gd_tt, Gd_tf, Gd_ft, Gd_ff, Gd_pos_t, Gd_neg_t, Gd_pos_f, Gd_neg_f, Gd_undef, If_t, If_f, If_pos, If_neg, CallF_eq, Max_two, Min_two, Len_rd, Len_own, Ld_blkE, Idx_rdN, Idx_ownN, Idx_rdE, Idx_ownE, IdxAE, LdA_two, Idx_at0, Ext_atE, Len_at, Int.toNat_natCast, Int.toNat_zero, Int.toNat_one, List.length_map, List.length_append, List.length_cons, List.length_nil, List.length_take, List.length_set, List.length_replicate, Bool.not_true, Bool.not_false, decide_true, decide_false, BEq.rfl, bne_self_eq_false, tf_beq, ft_beq, tf_bne, ft_bne, not_true_eq_false, not_false_eq_true, app]
      refine h2 (fun q => ?_) h6 f06
      obtain ⟨i, hi⟩ := List.getElem?_of_mem q.2
      have hlt : i < ps.length := by
        rcases Nat.lt_or_ge i ps.length with r | r
        · exact r
        · rw [List.getElem?_eq_none (by simp [cls]; omega)] at hi; cases hi
      have := hno i (by rw [List.length_map]; exact hlt)
      simp [hi] at this
    · try simp (disch := first | assumption | omega | (apply At.mk; with_unfolding_all rfl)) only [↓go_eq, ↓ent_eq, Mv, NilC_at, Fld_at, add_mk, Nat.zero_add, Nat.add_zero, Add64, Sub64, Mul64, Quo64, Rem64, Neg64, Cvt64, CvtU8, CvtU16, CvtU32, CvtU64, AddU64, SubU64, MulU64, Shr64, Shr_u8, Shr_u16, Shr_u32, Shr_u64, And1, And31, And32, Eql64, Neq64, Bin_lss, Bin_leq, Bin_gtr, Bin_geq, Bin_bool_eql, Bin_bool_neq, Bin_ptr_nil_eql, Bin_ptr_nil_neq, Not_dec, Un_not, Pick_t, Pick_f, Pick_pos, Pick_neg, Gd_tt, Gd_tf, Gd_ft, Gd_ff, Gd_pos_t, Gd_neg_t, Gd_pos_f, Gd_neg_f, Gd_undef, If_t, If_f, If_pos, If_neg, CallF_eq, Max_two, Min_two, Len_rd, Len_own, Ld_blkE, Idx_rdN, Idx_ownN, Idx_rdE, Idx_ownE, IdxAE, LdA_two, Idx_at0, Ext_atE, Len_at, Int.toNat_natCast, Int.toNat_zero, Int.toNat_one, List.length_map, List.length_append, List.length_cons, List.length_nil, List.length_take, List.length_set, List.length_replicate, Bool.not_true, Bool.not_false, decide_true, decide_false, BEq.rfl, bne_self_eq_false, tf_beq, ft_beq, tf_bne, ft_bne, not_true_eq_false, not_false_eq_true, app]
      refine h1 i hok (by rw [List.length_map] at hi; exact hi) (by simpa using hp) (fun j hj => by simpa using hlo j hj) h6 f06
/-- Is there one? -/
def HasT (n : Nat) (cs : List (List Int)) (c : List Int) : Prop := ClOk n c ∧ nf c ∈ cs
instance (n : Nat) (c : List Int) : Decidable (ClOk n c) := inferInstanceAs (Decidable (∀ l ∈ c, LitOk n l))
instance (n : Nat) (cs : List (List Int)) (c : List Int) : Decidable (HasT n cs c) := inferInstanceAs (Decidable (_ ∧ _))
theorem rup_Store_Has.spec {n sb N : Nat} {u v : Value} {b0 : List Nat} {ps : Ps} {c : List Int} (hn : n ≤ 100000) (hl : c.length ≤ 1000000) (hD : ∀ x ∈ c, Sm x) (hps : ps.length ≤ 1000000) (hpl : ∀ p ∈ ps, p.2.1.length ≤ 1000000) {K : Ret} {h : Heap} (s : StAt h sb n N u b0 ps) (hv : Rd h v (c.map Iv))
    (hk : ∀ h', Fr [] h h' → K (.bool (decide (HasT n (cls ps) c))) h') : CallH Try.prog rup_Store_Has.id #[ptr sb, v] K h := by
  refine rup_Store_Has.ok ?_
  simp only [rup_Store_Has.pt]
  try simp (disch := first | assumption | omega | (apply At.mk; with_unfolding_all rfl)) only [↓go_eq, ↓ent_eq, Mv, NilC_at, Fld_at, add_mk, Nat.zero_add, Nat.add_zero, Add64, Sub64, Mul64, Quo64, Rem64, Neg64, Cvt64, CvtU8, CvtU16, CvtU32, CvtU64, AddU64, SubU64, MulU64, Shr64, Shr_u8, Shr_u16, Shr_u32, Shr_u64, And1, And31, And32, Eql64, Neq64, Bin_lss, Bin_leq, Bin_gtr, Bin_geq, Bin_bool_eql, Bin_bool_neq, Bin_ptr_nil_eql, Bin_ptr_nil_neq, Not_dec, Un_not, Pick_t, Pick_f, Pick_pos, Pick_neg, Gd_tt, Gd_tf, Gd_ft, Gd_ff, Gd_pos_t, Gd_neg_t, Gd_pos_f, Gd_neg_f, Gd_undef, If_t, If_f, If_pos, If_neg, CallF_eq, Max_two, Min_two, Len_rd, Len_own, Ld_blkE, Idx_rdN, Idx_ownN, Idx_rdE, Idx_ownE, IdxAE, LdA_two, Idx_at0, Ext_atE, Len_at, Int.toNat_natCast, Int.toNat_zero, Int.toNat_one, List.length_map, List.length_append, List.length_cons, List.length_nil, List.length_take, List.length_set, List.length_replicate, Bool.not_true, Bool.not_false, decide_true, decide_false, BEq.rfl, bne_self_eq_false, tf_beq, ft_beq, tf_bne, ft_bne, not_true_eq_false, not_false_eq_true, app]
  refine rup_Store_find.spec hn hl hD hps hpl s hv (fun i h1 h2 h3 _ h' f => ?_) fun hno h' f => ?_
  · have : HasT n (cls ps) c := ⟨h1, List.mem_of_getElem? h3⟩
    have hk := hk h' f
    rw [decide_eq_true this] at hk
    try simp (disch := first | assumption | omega | (apply At.mk; with_unfolding_all rfl)) only [↓go_eq, ↓ent_eq, Mv, NilC_at, Fld_at, add_mk, Nat.zero_add, Nat.add_zero, Add64, Sub64, Mul64, Quo64, Rem64, Neg64, Cvt64, CvtU8, CvtU16, CvtU32, CvtU64, AddU64, SubU64, MulU64, Shr64, Shr_u8, Shr_u16, Shr_u32, Shr_u64, And1, And31, And32, Eql64, Neq64, Bin_lss, Bin_leq, Bin_gtr, Bin_geq, Bin_bool_eql, Bin_bool_neq, Bin_ptr_nil_eql, Bin_ptr_nil_neq, Not_dec, Un_not, Pick_t, Pick_f, Pick_pos, Pick_neg, Gd_tt, Gd_tf, Gd_ft, Gd_ff, Gd_pos_t, Gd_neg_t, Gd_pos_f, Gd_neg_f, Gd_undef, If_t, If_f, If_pos, If_neg, CallF_eq, Max_two, Min_two, Len_rd, Len_own, Ld_blkE, Idx_rdN, Idx_ownN, Idx_rdE, Idx_ownE, IdxAE, LdA_two, Idx_at0, Ext_atE, Len_at, Int.toNat_natCast, Int.toNat_zero, Int.toNat_one, List.length_map, List.length_append, List.length_cons, List.length_nil, List.length_take, List.length_set, List.length_replicate, Bool.not_true, Bool.not_false, decide_true, decide_false, BEq.rfl, bne_self_eq_false, tf_beq, ft_beq, tf_bne, ft_bne, not_true_eq_false, not_false_eq_true, app]
    rw [decide_eq_true (by omega)]
    exact hk
  · have hk := hk h' f
    rw [decide_eq_false (show ¬ HasT n (cls ps) c from hno)] at hk
    try simp (disch := first | assumption | omega | (apply At.mk; with_unfolding_all rfl)) only [↓go_eq, ↓ent_eq, Mv, NilC_at, Fld_at, add_mk, Nat.zero_add, Nat.add_zero, Add64, Sub64, Mul64, Quo64, Rem64, Neg64, Cvt64, CvtU8, CvtU16, CvtU32, CvtU64, AddU64, SubU64, MulU64, Shr64, Shr_u8, Shr_u16, Shr_u32, Shr_u64, And1, And31, And32, Eql64, Neq64, Bin_lss, Bin_leq, Bin_gtr, Bin_geq, Bin_bool_eql, Bin_bool_neq, Bin_ptr_nil_eql, Bin_ptr_nil_neq, Not_dec, Un_not, Pick_t, Pick_f, Pick_pos, Pick_neg, Gd_tt, Gd_tf, Gd_ft, Gd_ff, Gd_pos_t, Gd_neg_t, Gd_pos_f, Gd_neg_f, Gd_undef, If_t, If_f, If_pos, If_neg, CallF_eq, Max_two, Min_two, Len_rd, Len_own, Ld_blkE, Idx_rdN, Idx_ownN, Idx_rdE, Idx_ownE, IdxAE, LdA_two, Idx_at0, Ext_atE, Len_at, Int.toNat_natCast, Int.toNat_zero, Int.toNat_one, List.length_map, List.length_append, List.length_cons, List.length_nil, List.length_take, List.length_set, List.length_replicate, Bool.not_true, Bool.not_false, decide_true, decide_false, BEq.rfl, bne_self_eq_false, tf_beq, ft_beq, tf_bne, ft_bne, not_true_eq_false, not_false_eq_true, app]
    exact hk
/-! ### Removing from a slice of one's own -/
theorem bnd_lo_hi_mx {n c : Nat} {i j m : Int} {k1 k2 k3 : IntKind} (h0 : 0 ≤ i) (h1 : i ≤ j) (h2 : j ≤ m) (h3 : m ≤ c) : bounds3 n c (some (.int k1 i)) (some (.int k2 j)) (some (.int k3 m)) = some (i.toNat, j.toNat, m.toNat) := by
  have e1 : 0 ≤ m := by omega
  have e2 : 0 ≤ j := by omega
  have e3 : j ≤ (m.toNat : Int) := by omega
  have e4 : i ≤ (j.toNat : Int) := by omega
  simp only [bounds3, bound]
  rw [if_pos ⟨e1, h3⟩]
  simp only
  rw [if_pos ⟨e2, e3⟩]
  simp only
  rw [if_pos ⟨h0, e4⟩]
theorem bnd_hi {n c : Nat} {j : Int} {k : IntKind} (h0 : 0 ≤ j) (h1 : j ≤ c) : bounds3 n c none (some (.int k j)) none = some (0, j.toNat, c) := by
  simp only [bounds3, bound]
  rw [if_pos ⟨h0, h1⟩]
theorem bnd_lo {n c : Nat} {i : Int} {k : IntKind} (h0 : 0 ≤ i) (h1 : i ≤ n) : bounds3 n c (some (.int k i)) none none = some (i.toNat, n, c) := by
  simp only [bounds3, bound]
  rw [if_pos ⟨h0, h1⟩]
theorem bnd_lo_hi {n c : Nat} {i j : Int} {k1 k2 : IntKind} (h0 : 0 ≤ i) (h1 : i ≤ j) (h2 : j ≤ c) : bounds3 n c (some (.int k1 i)) (some (.int k2 j)) none = some (i.toNat, j.toNat, c) := by
  have e2 : 0 ≤ j := by omega
  have e4 : i ≤ (j.toNat : Int) := by omega
  simp only [bounds3, bound]
  rw [if_pos ⟨e2, h2⟩]
  simp only
  rw [if_pos ⟨h0, e4⟩]
set_option maxHeartbeats 1000000 in
theorem slices_Delete_int_int.spec {v : Value} {xs : List Value} {bs : List Nat} {i : Nat} {K : Ret} {h : Heap} (hi : i < xs.length) (hm : xs.length ≤ 1000000000) (hc : ∀ x ∈ xs, isCell x = true) (o : Own h v xs bs) (hk : ∀ v' h', Own h' v' (xs.eraseIdx i) bs → Fr bs h h' → K v' h') : CallH Try.prog slices_Delete_int_int.id #[v, Iv (i : Nat), Iv ((i : Int) + 1)] K h := by
  refine slices_Delete_int_int.ok ?_
  simp only [slices_Delete_int_int.pt]
  rcases o with ⟨rfl, rfl, rfl⟩ | ⟨b, rest, rfl, hb, rfl⟩
  · simp at hi
  have o : Own h (.slice (some ⟨b, 0, none⟩) xs.length (xs.length + rest.length)) xs [b] := .inr ⟨b, rest, rfl, hb, rfl⟩
  have hlast : (xs ++ rest).drop (xs.length - 1) = xs[xs.length - 1]'(by omega) :: rest := by
    rw [List.drop_append_of_le_length (by omega), List.drop_eq_getElem_cons (by omega), List.drop_of_length_le (by omega)]; rfl
  generalize xs[xs.length - 1]'(by omega) = last at hlast
  have hel : xs.eraseIdx i = xs.take i ++ xs.drop (i + 1) := List.eraseIdx_eq_take_drop_succ _ _
  have hell : (xs.eraseIdx i).length = xs.length - 1 := List.length_eraseIdx_of_lt hi
  obtain ⟨n, hn⟩ : ∃ n, xs.length = n := ⟨_, rfl⟩
  obtain ⟨r, hr⟩ : ∃ r, rest.length = r := ⟨_, rfl⟩
  rw [hn] at hi hm hlast hell
  rw [hn, hr] at o ⊢
  rw [go_eq, Len_at, go_eq, Slc_eq, bnd_lo_hi_mx (by omega) (by omega) (by omega) (by omega)]
  show go (Bin .int .eql (Iv (i : Nat)) (Iv ((i : Int) + 1))) h _
  rw [go_eq, Eql64, decide_eq_false (show ¬ ((i : Int) = (i : Int) + 1) by omega), If_f, go_eq, Len_at, go_eq, Slc_eq, bnd_hi (by omega) (by omega)]
  show go (Slc 1 (Value.slice (some ⟨b, 0, none⟩) n (n + r)) (some (Iv ((i : Int) + 1))) none none) h (fun t25 h => go (App 34 1 24 #[.slice none 0 0] (Value.slice (if n + r = 0 then some ⟨b, 0, none⟩ else (some (⟨b, 0, none⟩ : Addr)).map (·.add (0 * 1))) ((i : Int).toNat - 0) (n + r - 0)) t25) h (fun t26 h => go (Len t26) h fun t29 h => go (Slc 1 t26 (some t29) (some (Iv (n : Nat))) none) h fun t31 h => go (Clr #[(.slice none 0 0)] t31) h fun _ h => K t26 h))
  have e0 : (if n + r = 0 then some (⟨b, 0, none⟩ : Addr) else (some (⟨b, 0, none⟩ : Addr)).map (·.add (0 * 1))) = some ⟨b, 0, none⟩ := by split <;> rfl
  rw [e0, Int.toNat_natCast, Nat.sub_zero, Nat.sub_zero, go_eq]
  refine Own.tail o (by omega) (by omega) fun v2 T => ?_
  have ry := T.rd o rfl
  rw [show ((i : Int) + 1).toNat = i + 1 by omega] at ry
  have hf := ry.first
  have hyl : (xs.drop (i + 1)).length = n - (i + 1) := by rw [List.length_drop, hn]
  obtain ⟨ya, ycap, rfl, _, _⟩ := ry
  rw [go_eq]
  refine ⟨?_⟩
  simp only
  rw [hf]
  simp only
  rw [if_pos (by rw [hyl]; omega)]
  obtain ⟨h2, q1, q2, q3⟩ := stores_blk (o := i) (xs.drop (i + 1)) h (xs ++ rest) 0 hb (by rw [List.length_append, hn, hr, hyl]; omega) (fun y hy => hc y (List.mem_of_mem_drop hy))
  rw [add_mk, Nat.zero_add, Nat.mul_one]
  rw [q1]
  simp only
  have e1 : i + (xs.drop (i + 1)).length = n - 1 := by rw [hyl]; omega
  have e2 : List.take (i + 0) (xs ++ rest) ++ xs.drop (i + 1) ++ List.drop (i + 0 + (xs.drop (i + 1)).length) (xs ++ rest) = xs.eraseIdx i ++ last :: rest := by
    rw [Nat.add_zero, List.take_append_of_le_length (by omega), e1, hlast, hel]
  rw [e2] at q2
  rw [e1, go_eq, Len_at, go_eq, Slc_eq, bnd_lo_hi (by omega) (by omega) (by omega)]
  show go (Clr #[(.slice none 0 0)] (Value.slice (if n + r = ((n - 1 : Nat) : Int).toNat then some ⟨b, 0, none⟩ else (some (⟨b, 0, none⟩ : Addr)).map (·.add (((n - 1 : Nat) : Int).toNat * 1))) (((n : Nat) : Int).toNat - ((n - 1 : Nat) : Int).toNat) (n + r - ((n - 1 : Nat) : Int).toNat))) h2 (fun _ h => K (.slice (some ⟨b, 0, none⟩) (n - 1) (n + r)) h)
  rw [Int.toNat_natCast, Int.toNat_natCast, if_neg (by omega), show n - (n - 1) = 1 by omega, go_eq]
  obtain ⟨h3, p1, p2, p3⟩ := stores_blk (o := n - 1) [.slice none 0 0] h2 (xs.eraseIdx i ++ last :: rest) 0 q2 (by simp [hell]) (fun y hy => by simp at hy; rw [hy]; rfl)
  refine ⟨?_⟩
  show (match stores h2 ((⟨b, 0, none⟩ : Addr).add ((n - 1) * 1)) 0 (Builtin.zeroCells #[.slice none 0 0] 1).toList with | some h' => K (.slice (some ⟨b, 0, none⟩) (n - 1) (n + r)) h' | none => False)
  rw [add_mk, Nat.zero_add, Nat.mul_one, zero_cells, show List.replicate 1 (Value.slice none 0 0) = [.slice none 0 0] from rfl, p1]
  have e3 : List.take (n - 1 + 0) (xs.eraseIdx i ++ last :: rest) ++ [.slice none 0 0] ++ List.drop (n - 1 + 0 + [Value.slice none 0 0].length) (xs.eraseIdx i ++ last :: rest) = xs.eraseIdx i ++ .slice none 0 0 :: rest := by
    rw [Nat.add_zero, List.take_append_of_le_length (by omega), List.take_of_length_le (by omega), List.drop_append, List.drop_of_length_le (by omega)]
    simp [hell]
  rw [e3] at p2
  exact hk _ h3 (.inr ⟨b, .slice none 0 0 :: rest, by rw [hell, List.length_cons, hr]; congr 1; omega, p2, rfl⟩) (q3.trans p3)
theorem erase_at {a : List Int} : ∀ {l : List (List Int)} {i : Nat}, l[i]? = some a → (∀ j, j < i → l[j]? ≠ some a) → l.erase a = l.eraseIdx i
  | [], i, h, _ => by simp at h
  | x :: l, 0, h, _ => by
    have : x = a := by simpa using h
    subst this
    simp
  | x :: l, i + 1, h, hn => by
    have hx : x ≠ a := fun e => hn 0 (Nat.succ_pos _) (by rw [e]; rfl)
    rw [List.erase_cons_tail (by simpa using hx), List.eraseIdx_cons_succ]
    rw [erase_at (l := l) (i := i) (by simpa using h) fun j hj => by have := hn (j + 1) (by omega); simpa using this]
theorem rup_Store_Remove.spec {n sb N : Nat} {u v : Value} {b0 : List Nat} {ps : Ps} {c : List Int} (hn : n ≤ 100000) (hl : c.length ≤ 1000000) (hD : ∀ x ∈ c, Sm x) (hps : ps.length ≤ 1000000) (hpl : ∀ p ∈ ps, p.2.1.length ≤ 1000000) {K : Ret} {h : Heap} (s : StAt h sb n N u b0 ps) (hv : Rd h v (c.map Iv))
    (h1 : HasT n (cls ps) c → ∀ u' i h', StAt h' sb n N u' b0 (ps.eraseIdx i) → cls (ps.eraseIdx i) = (cls ps).erase (nf c) → Fr (sb :: b0) h h' → K (.bool true) h') (h2 : ¬ HasT n (cls ps) c → ∀ h', Fr [] h h' → K (.bool false) h') : CallH Try.prog rup_Store_Remove.id #[ptr sb, v] K h := by
  refine rup_Store_Remove.ok ?_
  simp only [rup_Store_Remove.pt]
  try simp (disch := first | assumption | omega | (apply At.mk; with_unfolding_all rfl)) only [↓go_eq, ↓ent_eq, Mv, NilC_at, Fld_at, add_mk, Nat.zero_add, Nat.add_zero, Add64, Sub64, Mul64, Quo64, Rem64, Neg64, Cvt64, CvtU8, CvtU16, CvtU32, CvtU64, AddU64, SubU64, MulU64, Shr64, Shr_u8, Shr_u16, Shr_u32, Shr_u64, And1, And31, And32, Eql64, Neq64, Bin_lss, Bin_leq, Bin_gtr, Bin_geq, Bin_bool_eql, Bin_bool_neq, Bin_ptr_nil_eql, Bin_ptr_nil_neq, Not_dec, Un_not, Pick_t, Pick_f, Pick_pos, Pick_neg, Gd_tt, Gd_tf, Gd_ft, Gd_ff, Gd_pos_t, Gd_neg_t, Gd_pos_f, Gd_neg_f, Gd_undef, If_t, If_f, If_pos, If_neg, CallF_eq, Max_two, Min_two, Len_rd, Len_own, Ld_blkE, Idx_rdN, Idx_ownN, Idx_rdE, Idx_ownE, IdxAE, LdA_two, Idx_at0, Ext_atE, Len_at, Int.toNat_natCast, Int.toNat_zero, Int.toNat_one, List.length_map, List.length_append, List.length_cons, List.length_nil, List.length_take, List.length_set, List.length_replicate, Bool.not_true, Bool.not_false, decide_true, decide_false, BEq.rfl, bne_self_eq_false, tf_beq, ft_beq, tf_bne, ft_bne, not_true_eq_false, not_false_eq_true, app]
  refine rup_Store_find.spec hn hl hD hps hpl s hv (fun i g1 g2 g3 g4 h3 f3 => ?_) fun hno h3 f3 => ?_
  · have hh : HasT n (cls ps) c := ⟨g1, List.mem_of_getElem? g3⟩
    have s3 := s.fr f3
    have hs3 := s3.blk
    have ho := s3.own.own
    have hlt : ¬ ((i : Int) < 0) := by omega
    try simp (disch := first | assumption | omega | (apply At.mk; with_unfolding_all rfl)) only [↓go_eq, ↓ent_eq, Mv, NilC_at, Fld_at, add_mk, Nat.zero_add, Nat.add_zero, Add64, Sub64, Mul64, Quo64, Rem64, Neg64, Cvt64, CvtU8, CvtU16, CvtU32, CvtU64, AddU64, SubU64, MulU64, Shr64, Shr_u8, Shr_u16, Shr_u32, Shr_u64, And1, And31, And32, Eql64, Neq64, Bin_lss, Bin_leq, Bin_gtr, Bin_geq, Bin_bool_eql, Bin_bool_neq, Bin_ptr_nil_eql, Bin_ptr_nil_neq, Not_dec, Un_not, Pick_t, Pick_f, Pick_pos, Pick_neg, Gd_tt, Gd_tf, Gd_ft, Gd_ff, Gd_pos_t, Gd_neg_t, Gd_pos_f, Gd_neg_f, Gd_undef, If_t, If_f, If_pos, If_neg, CallF_eq, Max_two, Min_two, Len_rd, Len_own, Ld_blkE, Idx_rdN, Idx_ownN, Idx_rdE, Idx_ownE, IdxAE, LdA_two, Idx_at0, Ext_atE, Len_at, Int.toNat_natCast, Int.toNat_zero, Int.toNat_one, List.length_map, List.length_append, List.length_cons, List.length_nil, List.length_take, List.length_set, List.length_replicate, Bool.not_true, Bool.not_false, decide_true, decide_false, BEq.rfl, bne_self_eq_false, tf_beq, ft_beq, tf_bne, ft_bne, not_true_eq_false, not_false_eq_true, app]
    refine slices_Delete_int_int.spec (by rw [List.length_map]; exact g2) (by rw [List.length_map]; omega) (fun x hx => ?_) ho fun u' h4 o4 f4 => ?_
    · obtain ⟨p, hp, rfl⟩ := List.mem_map.1 hx
      exact (s3.own.each p hp).rd.isCell
    have b4 := hs3.fr f4 s3.ne.1
    try simp (disch := first | assumption | omega | (apply At.mk; with_unfolding_all rfl)) only [↓go_eq, ↓ent_eq, Mv, NilC_at, Fld_at, add_mk, Nat.zero_add, Nat.add_zero, Add64, Sub64, Mul64, Quo64, Rem64, Neg64, Cvt64, CvtU8, CvtU16, CvtU32, CvtU64, AddU64, SubU64, MulU64, Shr64, Shr_u8, Shr_u16, Shr_u32, Shr_u64, And1, And31, And32, Eql64, Neq64, Bin_lss, Bin_leq, Bin_gtr, Bin_geq, Bin_bool_eql, Bin_bool_neq, Bin_ptr_nil_eql, Bin_ptr_nil_neq, Not_dec, Un_not, Pick_t, Pick_f, Pick_pos, Pick_neg, Gd_tt, Gd_tf, Gd_ft, Gd_ff, Gd_pos_t, Gd_neg_t, Gd_pos_f, Gd_neg_f, Gd_undef, If_t, If_f, If_pos, If_neg, CallF_eq, Max_two, Min_two, Len_rd, Len_own, Ld_blkE, Idx_rdN, Idx_ownN, Idx_rdE, Idx_ownE, IdxAE, LdA_two, Idx_at0, Ext_atE, Len_at, Int.toNat_natCast, Int.toNat_zero, Int.toNat_one, List.length_map, List.length_append, List.length_cons, List.length_nil, List.length_take, List.length_set, List.length_replicate, Bool.not_true, Bool.not_false, decide_true, decide_false, BEq.rfl, bne_self_eq_false, tf_beq, ft_beq, tf_bne, ft_bne, not_true_eq_false, not_false_eq_true, app]
    refine St_blk b4 (by simp) o4.rd.isCell fun h5 b5 f5 => ?_
    have hm : ∀ p ∈ ps.eraseIdx i, p ∈ ps := fun p hp => List.mem_of_mem_eraseIdx hp
    try simp (disch := first | assumption | omega | (apply At.mk; with_unfolding_all rfl)) only [↓go_eq, ↓ent_eq, Mv, NilC_at, Fld_at, add_mk, Nat.zero_add, Nat.add_zero, Add64, Sub64, Mul64, Quo64, Rem64, Neg64, Cvt64, CvtU8, CvtU16, CvtU32, CvtU64, AddU64, SubU64, MulU64, Shr64, Shr_u8, Shr_u16, Shr_u32, Shr_u64, And1, And31, And32, Eql64, Neq64, Bin_lss, Bin_leq, Bin_gtr, Bin_geq, Bin_bool_eql, Bin_bool_neq, Bin_ptr_nil_eql, Bin_ptr_nil_neq, Not_dec, Un_not, Pick_t, Pick_f, Pick_pos, Pick_neg, Gd_tt, Gd_tf, Gd_ft, Gd_ff, Gd_pos_t, Gd_neg_t, Gd_pos_f, Gd_neg_f, Gd_undef, If_t, If_f, If_pos, If_neg, CallF_eq, Max_two, Min_two, Len_rd, Len_own, Ld_blkE, Idx_rdN, Idx_ownN, Idx_rdE, Idx_ownE, IdxAE, LdA_two, Idx_at0, Ext_atE, Len_at, Int.toNat_natCast, Int.toNat_zero, Int.toNat_one, List.length_map, List.length_append, List.length_cons, List.length_nil, List.length_take, List.length_set, List.length_replicate, Bool.not_true, Bool.not_false, decide_true, decide_false, BEq.rfl, bne_self_eq_false, tf_beq, ft_beq, tf_bne, ft_bne, not_true_eq_false, not_false_eq_true, app]
    refine h1 hh u' i h5 ⟨b5, ⟨?_, fun p hp => ?_, s.own.lo, fun p hp => s.own.los p (hm p hp), s.own.dj.sublist (List.eraseIdx_sublist _ _)⟩, s.lo, ⟨s.ne.1, fun p hp => s.ne.2 p (hm p hp)⟩⟩ ?_ ?_
    · rw [map_eraseIdx]
      exact o4.fr f5 fun b hb hm => by simp at hm; subst hm; exact s.ne.1 hb
    · have q := hm p hp
      exact ((s3.own.each p q).fr f4 fun b hb hm => (s.own.los p q b hb).2 hm).fr f5 fun b hb hm => by simp at hm; subst hm; exact s.ne.2 p q hb
    · rw [cls, map_eraseIdx, erase_at g3 g4]; rfl
    · exact ((f3.mono (by simp)).trans (f4.mono (by intro x hx; exact List.mem_cons_of_mem _ hx))).trans (f5.mono (by simp))
  · try simp (disch := first | assumption | omega | (apply At.mk; with_unfolding_all rfl)) only [↓go_eq, ↓ent_eq, Mv, NilC_at, Fld_at, add_mk, Nat.zero_add, Nat.add_zero, Add64, Sub64, Mul64, Quo64, Rem64, Neg64, Cvt64, CvtU8, CvtU16, CvtU32, CvtU64, AddU64, SubU64, MulU64, Shr64, Shr_u8, Shr_u16, Shr_u32, Shr_u64, And1, And31, And32, Eql64, Neq64, Bin_lss, Bin_leq, Bin_gtr, Bin_geq, Bin_bool_eql, Bin_bool_neq, Bin_ptr_nil_eql, Bin_ptr_nil_neq, Not_dec, Un_not, Pick_t, Pick_f, Pick_pos, Pick_neg, Gd_tt, Gd_tf, Gd_ft, Gd_ff, Gd_pos_t, Gd_neg_t, Gd_pos_f, Gd_neg_f, Gd_undef, If_t, If_f, If_pos, If_neg, CallF_eq, Max_two, Min_two, Len_rd, Len_own, Ld_blkE, Idx_rdN, Idx_ownN, Idx_rdE, Idx_ownE, IdxAE, LdA_two, Idx_at0, Ext_atE, Len_at, Int.toNat_natCast, Int.toNat_zero, Int.toNat_one, List.length_map, List.length_append, List.length_cons, List.length_nil, List.length_take, List.length_set, List.length_replicate, Bool.not_true, Bool.not_false, decide_true, decide_false, BEq.rfl, bne_self_eq_false, tf_beq, ft_beq, tf_bne, ft_bne, not_true_eq_false, not_false_eq_true, app]
    exact h2 hno h3 f3
end Go.Proofs.Yteahhifkkjfhoaa
