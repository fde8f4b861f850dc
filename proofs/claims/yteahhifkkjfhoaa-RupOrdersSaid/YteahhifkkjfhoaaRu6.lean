/- The document's answers of package 07. Conditions: those typed ahead of each theorem. -/
import Derived.Test.YteahhifkkjfhoaaRu
namespace Go.Proofs.Yteahhifkkjfhoaa
open Go.Pt
set_option linter.unusedVariables false
set_option linter.unusedSimpArgs false
theorem bradawlref07_In.spec {v : Value} {c : List Int} {x : Int} (hl : c.length ≤ 1000000000) {K : Ret} {h : Heap} (hv : Rd h v (c.map Iv)) (hk : K (.bool (decide (x ∈ c))) h) : CallH Try.prog bradawlref07_In.id #[v, Iv x] K h := by
  refine bradawlref07_In.ok ?_
  simp only [bradawlref07_In.pt]
  refine Lp_fn (σ := Nat) (fun i => [v, Iv x, Iv (i : Nat)]) (fun i h' => h = h' ∧ i ≤ c.length ∧ x ∉ c.take i) (fun i => c.length - i) 0 rfl (fun _ => rfl) ⟨rfl, Nat.zero_le _, by simp⟩ ?_
  rintro i _ ⟨rfl, hi, ht⟩ X hX
  by_cases c1 : (i : Int) < (c.length : Nat)
  · have a1 := at_getD (show i < c.length by omega)
    by_cases c2 : c.getD i 0 = x
    · try simp (disch := first | assumption | omega | (apply At.mk; with_unfolding_all rfl)) only [↓go_eq, ↓ent_eq, Mv, NilC_at, Fld_at, add_mk, Nat.zero_add, Nat.add_zero, Add64, Sub64, Mul64, Quo64, Rem64, Neg64, Cvt64, CvtU8, CvtU16, CvtU32, CvtU64, AddU64, SubU64, MulU64, Shr64, Shr_u8, Shr_u16, Shr_u32, Shr_u64, And1, And31, And32, Eql64, Neq64, Bin_lss, Bin_leq, Bin_gtr, Bin_geq, Bin_bool_eql, Bin_bool_neq, Bin_ptr_nil_eql, Bin_ptr_nil_neq, Not_dec, Un_not, Pick_t, Pick_f, Pick_pos, Pick_neg, Gd_tt, Gd_tf, Gd_ft, Gd_ff, Gd_pos_t, Gd_neg_t, Gd_pos_f, Gd_neg_f, Gd_undef, If_t, If_f, If_pos, If_neg, CallF_eq, Max_two, Min_two, Len_rd, Len_own, Ld_blkE, Idx_rdN, Idx_ownN, Idx_rdE, Idx_ownE, IdxAE, LdA_two, Idx_at0, Ext_atE, Len_at, Int.toNat_natCast, Int.toNat_zero, Int.toNat_one, List.length_map, List.length_append, List.length_cons, List.length_nil, List.length_take, List.length_set, List.length_replicate, Bool.not_true, Bool.not_false, decide_true, decide_false, BEq.rfl, bne_self_eq_false, tf_beq, ft_beq, tf_bne, ft_bne, not_true_eq_false, not_false_eq_true, app]
      rw [decide_eq_true (by rw [← c2]; exact getD_mem (by omega))] at hk
      exact hk
    · try simp (disch := first | assumption | omega | (apply At.mk; with_unfolding_all rfl)) only [↓go_eq, ↓ent_eq, Mv, NilC_at, Fld_at, add_mk, Nat.zero_add, Nat.add_zero, Add64, Sub64, Mul64, Quo64, Rem64, Neg64, Cvt64, CvtU8, CvtU16, CvtU32, CvtU64, AddU64, SubU64, MulU64, Shr64, Shr_u8, Shr_u16, Shr_u32, Shr_u64, And1, And31, And32, Eql64, Neq64, Bin_lss, Bin_leq, Bin_gtr, Bin_geq, Bin_bool_eql, Bin_bool_neq, Bin_ptr_nil_eql, Bin_ptr_nil_neq, Not_dec, Un_not, Pick_t, Pick_f, Pick_pos, Pick_neg, Gd_tt, Gd_tf, Gd_ft, Gd_ff, Gd_pos_t, Gd_neg_t, Gd_pos_f, Gd_neg_f, Gd_undef, If_t, If_f, If_pos, If_neg, CallF_eq, Max_two, Min_two, Len_rd, Len_own, Ld_blkE, Idx_rdN, Idx_ownN, Idx_rdE, Idx_ownE, IdxAE, LdA_two, Idx_at0, Ext_atE, Len_at, Int.toNat_natCast, Int.toNat_zero, Int.toNat_one, List.length_map, List.length_append, List.length_cons, List.length_nil, List.length_take, List.length_set, List.length_replicate, Bool.not_true, Bool.not_false, decide_true, decide_false, BEq.rfl, bne_self_eq_false, tf_beq, ft_beq, tf_bne, ft_bne, not_true_eq_false, not_false_eq_true, app]
      try simp only [show (i : Int) + 1 = ((i + 1 : Nat) : Int) from by omega]
      refine hX (i + 1) h ⟨rfl, by omega, fun q => ?_⟩ (by omega)
      rw [getD_take (by omega)] at q
      rcases List.mem_append.1 q with r | r
      · exact ht r
      · simp at r; exact c2 r.symm
  · rw [List.take_of_length_le (by omega)] at ht
    rw [decide_eq_false ht] at hk
    try simp (disch := first | assumption | omega | (apply At.mk; with_unfolding_all rfl)) only [↓go_eq, ↓ent_eq, Mv, NilC_at, Fld_at, add_mk, Nat.zero_add, Nat.add_zero, Add64, Sub64, Mul64, Quo64, Rem64, Neg64, Cvt64, CvtU8, CvtU16, CvtU32, CvtU64, AddU64, SubU64, MulU64, Shr64, Shr_u8, Shr_u16, Shr_u32, Shr_u64, And1, And31, And32, Eql64, Neq64, Bin_lss, Bin_leq, Bin_gtr, Bin_geq, Bin_bool_eql, Bin_bool_neq, Bin_ptr_nil_eql, Bin_ptr_nil_neq, Not_dec, Un_not, Pick_t, Pick_f, Pick_pos, Pick_neg, Gd_tt, Gd_tf, Gd_ft, Gd_ff, Gd_pos_t, Gd_neg_t, Gd_pos_f, Gd_neg_f, Gd_undef, If_t, If_f, If_pos, If_neg, CallF_eq, Max_two, Min_two, Len_rd, Len_own, Ld_blkE, Idx_rdN, Idx_ownN, Idx_rdE, Idx_ownE, IdxAE, LdA_two, Idx_at0, Ext_atE, Len_at, Int.toNat_natCast, Int.toNat_zero, Int.toNat_one, List.length_map, List.length_append, List.length_cons, List.length_nil, List.length_take, List.length_set, List.length_replicate, Bool.not_true, Bool.not_false, decide_true, decide_false, BEq.rfl, bne_self_eq_false, tf_beq, ft_beq, tf_bne, ft_bne, not_true_eq_false, not_false_eq_true, app]
    exact hk
theorem in_q {v : Value} {c : List Int} {x : Int} (hl : c.length ≤ 1000000000) {K : Ret} {h : Heap} (hv : Rd h v (c.map Iv)) (hk : K (.bool (decide (x ∈ c))) h) : QCall Try.prog bradawlref07_In.id [v, Iv x] K h := QCall_mk (bradawlref07_In.spec hl hv ⟨rfl, rfl⟩) hk
def SameT (c d : List Int) : Prop := (∀ x ∈ c, x ∈ d) ∧ ∀ x ∈ d, x ∈ c
instance (c d : List Int) : Decidable (SameT c d) := inferInstanceAs (Decidable (_ ∧ _))
theorem sameT_nf {c d : List Int} : SameT c d ↔ nf c = nf d := by
  constructor
  · rintro ⟨a, b⟩; exact nf_congr fun z => ⟨a z, b z⟩
  · intro e
    have hm : ∀ z, z ∈ c ↔ z ∈ d := fun z => by rw [← nf_mem, e, nf_mem]
    exact ⟨fun x => (hm x).1, fun x => (hm x).2⟩
theorem bradawlref07_Same.spec {v w : Value} {c d : List Int} (hl : c.length ≤ 1000000000) (hl' : d.length ≤ 1000000000) {K : Ret} {h : Heap} (hv : Rd h v (c.map Iv)) (hw : Rd h w (d.map Iv)) (hk : K (.bool (decide (SameT c d))) h) : CallH Try.prog bradawlref07_Same.id #[v, w] K h := by
  refine bradawlref07_Same.ok ?_
  simp only [bradawlref07_Same.pt]
  refine Lp_fn (σ := Nat) (fun i => [v, w, Iv (i : Nat)]) (fun i h' => h = h' ∧ i ≤ c.length ∧ ∀ x ∈ c.take i, x ∈ d) (fun i => c.length - i) 0 rfl (fun _ => rfl) ⟨rfl, Nat.zero_le _, by simp⟩ ?_
  rintro i _ ⟨rfl, hi, ht⟩ X hX
  by_cases c1 : (i : Int) < (c.length : Nat)
  · have a1 := at_getD (show i < c.length by omega)
    try simp (disch := first | assumption | omega | (apply At.mk; with_unfolding_all rfl)) only [↓go_eq, ↓ent_eq, Mv, NilC_at, Fld_at, add_mk, Nat.zero_add, Nat.add_zero, Add64, Sub64, Mul64, Quo64, Rem64, Neg64, Cvt64, CvtU8, CvtU16, CvtU32, CvtU64, AddU64, SubU64, MulU64, Shr64, Shr_u8, Shr_u16, Shr_u32, Shr_u64, And1, And31, And32, Eql64, Neq64, Bin_lss, Bin_leq, Bin_gtr, Bin_geq, Bin_bool_eql, Bin_bool_neq, Bin_ptr_nil_eql, Bin_ptr_nil_neq, Not_dec, Un_not, Pick_t, Pick_f, Pick_pos, Pick_neg, Gd_tt, Gd_tf, Gd_ft, Gd_ff, Gd_pos_t, Gd_neg_t, Gd_pos_f, Gd_neg_f, Gd_undef, If_t, If_f, If_pos, If_neg, CallF_eq, Max_two, Min_two, Len_rd, Len_own, Ld_blkE, Idx_rdN, Idx_ownN, Idx_rdE, Idx_ownE, IdxAE, LdA_two, Idx_at0, Ext_atE, Len_at, Int.toNat_natCast, Int.toNat_zero, Int.toNat_one, List.length_map, List.length_append, List.length_cons, List.length_nil, List.length_take, List.length_set, List.length_replicate, Bool.not_true, Bool.not_false, decide_true, decide_false, BEq.rfl, bne_self_eq_false, tf_beq, ft_beq, tf_bne, ft_bne, not_true_eq_false, not_false_eq_true, app]
    refine in_q hl' hw ?_
    by_cases c2 : c.getD i 0 ∈ d
    · try simp (disch := first | assumption | omega | (apply At.mk; with_unfolding_all rfl)) only [↓go_eq, ↓ent_eq, Mv, NilC_at, Fld_at, add_mk, Nat.zero_add, Nat.add_zero, Add64, Sub64, Mul64, Quo64, Rem64, Neg64, Cvt64, CvtU8, CvtU16, CvtU32, CvtU64, AddU64, SubU64, MulU64, Shr64, Shr_u8, Shr_u16, Shr_u32, Shr_u64, And1, And31, And32, Eql64, Neq64, Bin_lss, Bin_leq, Bin_gtr, Bin_geq, Bin_bool_eql, Bin_bool_neq, Bin_ptr_nil_eql, Bin_ptr_nil_neq, Not_dec, Un_not, Pick_t, Pick_f, Pick_pos, Pick_neg, Gd_tt, Gd_tf, Gd_ft, Gd_ff, Gd_pos_t, Gd_neg_t, Gd_pos_f, Gd_neg_f, Gd_undef, If_t, If_f, If_pos, If_neg, CallF_eq, Max_two, Min_two, Len_rd, Len_own, Ld_blkE, Idx_rdN, Idx_ownN, Idx_rdE, Idx_ownE, IdxAE, LdA_two, Idx_at0, Ext_atE, Len_at, Int.toNat_natCast, Int.toNat_zero, Int.toNat_one, List.length_map, List.length_append, List.length_cons, List.length_nil, List.length_take, List.length_set, List.length_replicate, Bool.not_true, Bool.not_false, decide_true, decide_false, BEq.rfl, bne_self_eq_false, tf_beq, ft_beq, tf_bne, ft_bne, not_true_eq_false, not_false_eq_true, app]
      try rw [decide_eq_true c2]
      try simp (disch := first | assumption | omega | (apply At.mk; with_unfolding_all rfl)) only [↓go_eq, ↓ent_eq, Mv, NilC_at, Fld_at, add_mk, Nat.zero_add, Nat.add_zero, Add64, Sub64, Mul64, Quo64, Rem64, Neg64, Cvt64, CvtU8, CvtU16, CvtU32, CvtU64, AddU64, SubU64, MulU64, Shr64, Shr_u8, Shr_u16, Shr_u32, Shr_u64, And1, And31, And32, Eql64, Neq64, Bin_lss, Bin_leq, Bin_gtr, Bin_geq, Bin_bool_eql, Bin_bool_neq, Bin_ptr_nil_eql, Bin_ptr_nil_neq, Not_dec, Un_not, Pick_t, Pick_f, Pick_pos, Pick_neg, Gd_tt, Gd_tf, Gd_ft, Gd_ff, Gd_pos_t, Gd_neg_t, Gd_pos_f, Gd_neg_f, Gd_undef, If_t, If_f, If_pos, If_neg, CallF_eq, Max_two, Min_two, Len_rd, Len_own, Ld_blkE, Idx_rdN, Idx_ownN, Idx_rdE, Idx_ownE, IdxAE, LdA_two, Idx_at0, Ext_atE, Len_at, Int.toNat_natCast, Int.toNat_zero, Int.toNat_one, List.length_map, List.length_append, List.length_cons, List.length_nil, List.length_take, List.length_set, List.length_replicate, Bool.not_true, Bool.not_false, decide_true, decide_false, BEq.rfl, bne_self_eq_false, tf_beq, ft_beq, tf_bne, ft_bne, not_true_eq_false, not_false_eq_true, app]
      try simp only [show (i : Int) + 1 = ((i + 1 : Nat) : Int) from by omega]
      refine hX (i + 1) h ⟨rfl, by omega, fun x q => ?_⟩ (by omega)
      rw [getD_take (by omega)] at q
      rcases List.mem_append.1 q with r | r
      · exact ht x r
      · simp at r; rw [r]; simpa using c2
    · try simp (disch := first | assumption | omega | (apply At.mk; with_unfolding_all rfl)) only [↓go_eq, ↓ent_eq, Mv, NilC_at, Fld_at, add_mk, Nat.zero_add, Nat.add_zero, Add64, Sub64, Mul64, Quo64, Rem64, Neg64, Cvt64, CvtU8, CvtU16, CvtU32, CvtU64, AddU64, SubU64, MulU64, Shr64, Shr_u8, Shr_u16, Shr_u32, Shr_u64, And1, And31, And32, Eql64, Neq64, Bin_lss, Bin_leq, Bin_gtr, Bin_geq, Bin_bool_eql, Bin_bool_neq, Bin_ptr_nil_eql, Bin_ptr_nil_neq, Not_dec, Un_not, Pick_t, Pick_f, Pick_pos, Pick_neg, Gd_tt, Gd_tf, Gd_ft, Gd_ff, Gd_pos_t, Gd_neg_t, Gd_pos_f, Gd_neg_f, Gd_undef, If_t, If_f, If_pos, If_neg, CallF_eq, Max_two, Min_two, Len_rd, Len_own, Ld_blkE, Idx_rdN, Idx_ownN, Idx_rdE, Idx_ownE, IdxAE, LdA_two, Idx_at0, Ext_atE, Len_at, Int.toNat_natCast, Int.toNat_zero, Int.toNat_one, List.length_map, List.length_append, List.length_cons, List.length_nil, List.length_take, List.length_set, List.length_replicate, Bool.not_true, Bool.not_false, decide_true, decide_false, BEq.rfl, bne_self_eq_false, tf_beq, ft_beq, tf_bne, ft_bne, not_true_eq_false, not_false_eq_true, app]
      try rw [decide_eq_false c2]
      try simp (disch := first | assumption | omega | (apply At.mk; with_unfolding_all rfl)) only [↓go_eq, ↓ent_eq, Mv, NilC_at, Fld_at, add_mk, Nat.zero_add, Nat.add_zero, Add64, Sub64, Mul64, Quo64, Rem64, Neg64, Cvt64, CvtU8, CvtU16, CvtU32, CvtU64, AddU64, SubU64, MulU64, Shr64, Shr_u8, Shr_u16, Shr_u32, Shr_u64, And1, And31, And32, Eql64, Neq64, Bin_lss, Bin_leq, Bin_gtr, Bin_geq, Bin_bool_eql, Bin_bool_neq, Bin_ptr_nil_eql, Bin_ptr_nil_neq, Not_dec, Un_not, Pick_t, Pick_f, Pick_pos, Pick_neg, Gd_tt, Gd_tf, Gd_ft, Gd_ff, Gd_pos_t, Gd_neg_t, Gd_pos_f, Gd_neg_f, Gd_undef, If_t, If_f, If_pos, If_neg, CallF_eq, Max_two, Min_two, Len_rd, Len_own, Ld_blkE, Idx_rdN, Idx_ownN, Idx_rdE, Idx_ownE, IdxAE, LdA_two, Idx_at0, Ext_atE, Len_at, Int.toNat_natCast, Int.toNat_zero, Int.toNat_one, List.length_map, List.length_append, List.length_cons, List.length_nil, List.length_take, List.length_set, List.length_replicate, Bool.not_true, Bool.not_false, decide_true, decide_false, BEq.rfl, bne_self_eq_false, tf_beq, ft_beq, tf_bne, ft_bne, not_true_eq_false, not_false_eq_true, app]
      rw [decide_eq_false (fun q => c2 (q.1 _ (getD_mem (by omega))))] at hk
      exact hk
  clear hX
  rw [List.take_of_length_le (by omega)] at ht
  try simp (disch := first | assumption | omega | (apply At.mk; with_unfolding_all rfl)) only [↓go_eq, ↓ent_eq, Mv, NilC_at, Fld_at, add_mk, Nat.zero_add, Nat.add_zero, Add64, Sub64, Mul64, Quo64, Rem64, Neg64, Cvt64, CvtU8, CvtU16, CvtU32, CvtU64, AddU64, SubU64, MulU64, Shr64, Shr_u8, Shr_u16, Shr_u32, Shr_u64, And1, And31, And32, Eql64, Neq64, Bin_lss, Bin_leq, Bin_gtr, Bin_geq, Bin_bool_eql, Bin_bool_neq, Bin_ptr_nil_eql, Bin_ptr_nil_neq, Not_dec, Un_not, Pick_t, Pick_f, Pick_pos, Pick_neg, Gd_tt, Gd_tf, Gd_ft, Gd_ff, Gd_pos_t, Gd_neg_t, Gd_pos_f, Gd_neg_f, Gd_undef, If_t, If_f, If_pos, If_neg, CallF_eq, Max_two, Min_two, Len_rd, Len_own, Ld_blkE, Idx_rdN, Idx_ownN, Idx_rdE, Idx_ownE, IdxAE, LdA_two, Idx_at0, Ext_atE, Len_at, Int.toNat_natCast, Int.toNat_zero, Int.toNat_one, List.length_map, List.length_append, List.length_cons, List.length_nil, List.length_take, List.length_set, List.length_replicate, Bool.not_true, Bool.not_false, decide_true, decide_false, BEq.rfl, bne_self_eq_false, tf_beq, ft_beq, tf_bne, ft_bne, not_true_eq_false, not_false_eq_true, app]
  refine Lp_fn (σ := Nat) (fun i => [v, w, Iv (i : Nat)]) (fun i h' => h = h' ∧ i ≤ d.length ∧ ∀ x ∈ d.take i, x ∈ c) (fun i => d.length - i) 0 rfl (fun _ => rfl) ⟨rfl, Nat.zero_le _, by simp⟩ ?_
  clear c1 hi i
  rintro i _ ⟨rfl, hi, ht2⟩ X hX
  by_cases c1 : (i : Int) < (d.length : Nat)
  · have a1 := at_getD (show i < d.length by omega)
    try simp (disch := first | assumption | omega | (apply At.mk; with_unfolding_all rfl)) only [↓go_eq, ↓ent_eq, Mv, NilC_at, Fld_at, add_mk, Nat.zero_add, Nat.add_zero, Add64, Sub64, Mul64, Quo64, Rem64, Neg64, Cvt64, CvtU8, CvtU16, CvtU32, CvtU64, AddU64, SubU64, MulU64, Shr64, Shr_u8, Shr_u16, Shr_u32, Shr_u64, And1, And31, And32, Eql64, Neq64, Bin_lss, Bin_leq, Bin_gtr, Bin_geq, Bin_bool_eql, Bin_bool_neq, Bin_ptr_nil_eql, Bin_ptr_nil_neq, Not_dec, Un_not, Pick_t, Pick_f, Pick_pos, Pick_neg, Gd_tt, Gd_tf, Gd_ft, Gd_ff, Gd_pos_t, Gd_neg_t, Gd_pos_f, Gd_neg_f, Gd_undef, If_t, If_f, If_pos, If_neg, CallF_eq, Max_two, Min_two, Len_rd, Len_own, Ld_blkE, Idx_rdN, Idx_ownN, Idx_rdE, Idx_ownE, IdxAE, LdA_two, Idx_at0, Ext_atE, Len_at, Int.toNat_natCast, Int.toNat_zero, Int.toNat_one, List.length_map, List.length_append, List.length_cons, List.length_nil, List.length_take, List.length_set, List.length_replicate, Bool.not_true, Bool.not_false, decide_true, decide_false, BEq.rfl, bne_self_eq_false, tf_beq, ft_beq, tf_bne, ft_bne, not_true_eq_false, not_false_eq_true, app]
    refine in_q hl hv ?_
    by_cases c2 : d.getD i 0 ∈ c
    · try simp (disch := first | assumption | omega | (apply At.mk; with_unfolding_all rfl)) only [↓go_eq, ↓ent_eq, Mv, NilC_at, Fld_at, add_mk, Nat.zero_add, Nat.add_zero, Add64, Sub64, Mul64, Quo64, Rem64, Neg64, Cvt64, CvtU8, CvtU16, CvtU32, CvtU64, AddU64, SubU64, MulU64, Shr64, Shr_u8, Shr_u16, Shr_u32, Shr_u64, And1, And31, And32, Eql64, Neq64, Bin_lss, Bin_leq, Bin_gtr, Bin_geq, Bin_bool_eql, Bin_bool_neq, Bin_ptr_nil_eql, Bin_ptr_nil_neq, Not_dec, Un_not, Pick_t, Pick_f, Pick_pos, Pick_neg, Gd_tt, Gd_tf, Gd_ft, Gd_ff, Gd_pos_t, Gd_neg_t, Gd_pos_f, Gd_neg_f, Gd_undef, If_t, If_f, If_pos, If_neg, CallF_eq, Max_two, Min_two, Len_rd, Len_own, Ld_blkE, Idx_rdN, Idx_ownN, Idx_rdE, Idx_ownE, IdxAE, LdA_two, Idx_at0, Ext_atE, Len_at, Int.toNat_natCast, Int.toNat_zero, Int.toNat_one, List.length_map, List.length_append, List.length_cons, List.length_nil, List.length_take, List.length_set, List.length_replicate, Bool.not_true, Bool.not_false, decide_true, decide_false, BEq.rfl, bne_self_eq_false, tf_beq, ft_beq, tf_bne, ft_bne, not_true_eq_false, not_false_eq_true, app]
      try rw [decide_eq_true c2]
      try simp (disch := first | assumption | omega | (apply At.mk; with_unfolding_all rfl)) only [↓go_eq, ↓ent_eq, Mv, NilC_at, Fld_at, add_mk, Nat.zero_add, Nat.add_zero, Add64, Sub64, Mul64, Quo64, Rem64, Neg64, Cvt64, CvtU8, CvtU16, CvtU32, CvtU64, AddU64, SubU64, MulU64, Shr64, Shr_u8, Shr_u16, Shr_u32, Shr_u64, And1, And31, And32, Eql64, Neq64, Bin_lss, Bin_leq, Bin_gtr, Bin_geq, Bin_bool_eql, Bin_bool_neq, Bin_ptr_nil_eql, Bin_ptr_nil_neq, Not_dec, Un_not, Pick_t, Pick_f, Pick_pos, Pick_neg, Gd_tt, Gd_tf, Gd_ft, Gd_ff, Gd_pos_t, Gd_neg_t, Gd_pos_f, Gd_neg_f, Gd_undef, If_t, If_f, If_pos, If_neg, CallF_eq, Max_two, Min_two, Len_rd, Len_own, Ld_blkE, Idx_rdN, Idx_ownN, Idx_rdE, Idx_ownE, IdxAE, LdA_two, Idx_at0, Ext_atE, Len_at, Int.toNat_natCast, Int.toNat_zero, Int.toNat_one, List.length_map, List.length_append, List.length_cons, List.length_nil, List.length_take, List.length_set, List.length_replicate, Bool.not_true, Bool.not_false, decide_true, decide_false, BEq.rfl, bne_self_eq_false, tf_beq, ft_beq, tf_bne, ft_bne, not_true_eq_false, not_false_eq_true, app]
      try simp only [show (i : Int) + 1 = ((i + 1 : Nat) : Int) from by omega]
      refine hX (i + 1) h ⟨rfl, by omega, fun x q => ?_⟩ (by omega)
      rw [getD_take (by omega)] at q
      rcases List.mem_append.1 q with r | r
      · exact ht2 x r
      · simp at r; rw [r]; simpa using c2
    · try simp (disch := first | assumption | omega | (apply At.mk; with_unfolding_all rfl)) only [↓go_eq, ↓ent_eq, Mv, NilC_at, Fld_at, add_mk, Nat.zero_add, Nat.add_zero, Add64, Sub64, Mul64, Quo64, Rem64, Neg64, Cvt64, CvtU8, CvtU16, CvtU32, CvtU64, AddU64, SubU64, MulU64, Shr64, Shr_u8, Shr_u16, Shr_u32, Shr_u64, And1, And31, And32, Eql64, Neq64, Bin_lss, Bin_leq, Bin_gtr, Bin_geq, Bin_bool_eql, Bin_bool_neq, Bin_ptr_nil_eql, Bin_ptr_nil_neq, Not_dec, Un_not, Pick_t, Pick_f, Pick_pos, Pick_neg, Gd_tt, Gd_tf, Gd_ft, Gd_ff, Gd_pos_t, Gd_neg_t, Gd_pos_f, Gd_neg_f, Gd_undef, If_t, If_f, If_pos, If_neg, CallF_eq, Max_two, Min_two, Len_rd, Len_own, Ld_blkE, Idx_rdN, Idx_ownN, Idx_rdE, Idx_ownE, IdxAE, LdA_two, Idx_at0, Ext_atE, Len_at, Int.toNat_natCast, Int.toNat_zero, Int.toNat_one, List.length_map, List.length_append, List.length_cons, List.length_nil, List.length_take, List.length_set, List.length_replicate, Bool.not_true, Bool.not_false, decide_true, decide_false, BEq.rfl, bne_self_eq_false, tf_beq, ft_beq, tf_bne, ft_bne, not_true_eq_false, not_false_eq_true, app]
      try rw [decide_eq_false c2]
      try simp (disch := first | assumption | omega | (apply At.mk; with_unfolding_all rfl)) only [↓go_eq, ↓ent_eq, Mv, NilC_at, Fld_at, add_mk, Nat.zero_add, Nat.add_zero, Add64, Sub64, Mul64, Quo64, Rem64, Neg64, Cvt64, CvtU8, CvtU16, CvtU32, CvtU64, AddU64, SubU64, MulU64, Shr64, Shr_u8, Shr_u16, Shr_u32, Shr_u64, And1, And31, And32, Eql64, Neq64, Bin_lss, Bin_leq, Bin_gtr, Bin_geq, Bin_bool_eql, Bin_bool_neq, Bin_ptr_nil_eql, Bin_ptr_nil_neq, Not_dec, Un_not, Pick_t, Pick_f, Pick_pos, Pick_neg, Gd_tt, Gd_tf, Gd_ft, Gd_ff, Gd_pos_t, Gd_neg_t, Gd_pos_f, Gd_neg_f, Gd_undef, If_t, If_f, If_pos, If_neg, CallF_eq, Max_two, Min_two, Len_rd, Len_own, Ld_blkE, Idx_rdN, Idx_ownN, Idx_rdE, Idx_ownE, IdxAE, LdA_two, Idx_at0, Ext_atE, Len_at, Int.toNat_natCast, Int.toNat_zero, Int.toNat_one, List.length_map, List.length_append, List.length_cons, List.length_nil, List.length_take, List.length_set, List.length_replicate, Bool.not_true, Bool.not_false, decide_true, decide_false, BEq.rfl, bne_self_eq_false, tf_beq, ft_beq, tf_bne, ft_bne, not_true_eq_false, not_false_eq_true, app]
      rw [decide_eq_false (fun q => c2 (q.2 _ (getD_mem (by omega))))] at hk
      exact hk
  rw [List.take_of_length_le (by omega)] at ht2
  try simp (disch := first | assumption | omega | (apply At.mk; with_unfolding_all rfl)) only [↓go_eq, ↓ent_eq, Mv, NilC_at, Fld_at, add_mk, Nat.zero_add, Nat.add_zero, Add64, Sub64, Mul64, Quo64, Rem64, Neg64, Cvt64, CvtU8, CvtU16, CvtU32, CvtU64, AddU64, SubU64, MulU64, Shr64, Shr_u8, Shr_u16, Shr_u32, Shr_u64, And1, And31, And32, Eql64, Neq64, Bin_lss, Bin_leq, Bin_gtr, Bin_geq, Bin_bool_eql, Bin_bool_neq, Bin_ptr_nil_eql, Bin_ptr_nil_neq, Not_dec, Un_not, Pick_t, Pick_f, Pick_pos, Pick_neg, Gd_tt, Gd_tf, Gd_ft, Gd_ff, Gd_pos_t, Gd_neg_t, Gd_pos_f, Gd_neg_f, Gd_undef, If_t, If_f, If_pos, If_neg, CallF_eq, Max_two, Min_two, Len_rd, Len_own, Ld_blkE, Idx_rdN, Idx_ownN, Idx_rdE, Idx_ownE, IdxAE, LdA_two, Idx_at0, Ext_atE, Len_at, Int.toNat_natCast, Int.toNat_zero, Int.toNat_one, List.length_map, List.length_append, List.length_cons, List.length_nil, List.length_take, List.length_set, List.length_replicate, Bool.not_true, Bool.not_false, decide_true, decide_false, BEq.rfl, bne_self_eq_false, tf_beq, ft_beq, tf_bne, ft_bne, not_true_eq_false, not_false_eq_true, app]
  rw [decide_eq_true (show SameT c d from ⟨ht, ht2⟩)] at hk
  exact hk
theorem same_q {v w : Value} {c d : List Int} (hl : c.length ≤ 1000000000) (hl' : d.length ≤ 1000000000) {K : Ret} {h : Heap} (hv : Rd h v (c.map Iv)) (hw : Rd h w (d.map Iv)) (hk : K (.bool (decide (SameT c d))) h) : QCall Try.prog bradawlref07_Same.id [v, w] K h := QCall_mk (bradawlref07_Same.spec hl hl' hv hw ⟨rfl, rfl⟩) hk
/-! ### What follows, by definition -/
/-- How many are left of a clause, and the last. -/
def leftGo (k : List Int) (s : Nat × Int) (x : Int) : Nat × Int := if -x ∉ k ∧ (s.1 = 0 ∨ x ≠ s.2) then (s.1 + 1, x) else s
def leftT (k c : List Int) : Nat × Int := c.foldl (leftGo k) (0, 0)
theorem leftGo_pos {k : List Int} {s : Nat × Int} {x : Int} (h : -x ∉ k) : 1 ≤ (leftGo k s x).1 := by
  unfold leftGo
  split
  · exact Nat.succ_pos _
  · rename_i q
    rcases Nat.eq_zero_or_pos s.1 with e | e
    · exact absurd ⟨h, .inl e⟩ q
    · exact e
theorem leftGo_le {k : List Int} {s : Nat × Int} {x : Int} : s.1 ≤ (leftGo k s x).1 := by
  unfold leftGo
  split
  · exact Nat.le_succ _
  · exact Nat.le_refl _
/-- What the fold tells, clause by clause from the front. -/
def LeftI (k c : List Int) (s : Nat × Int) : Prop :=
  (s.1 = 0 → ∀ y ∈ c, -y ∈ k) ∧ (s.1 ≠ 0 → s.2 ∈ c ∧ -s.2 ∉ k) ∧ (s.1 = 1 → ∀ y ∈ c, y ≠ s.2 → -y ∈ k) ∧ (2 ≤ s.1 → ∃ y z, y ∈ c ∧ z ∈ c ∧ y ≠ z ∧ -y ∉ k ∧ -z ∉ k)
theorem leftT_snoc (k c : List Int) (x : Int) : leftT k (c ++ [x]) = leftGo k (leftT k c) x := by unfold leftT; rw [List.foldl_append]; rfl
theorem leftI_step {k c : List Int} {s : Nat × Int} {x : Int} (h : LeftI k c s) : LeftI k (c ++ [x]) (leftGo k s x) := by
  obtain ⟨h0, h1, h2, h3⟩ := h
  unfold leftGo
  split
  · rename_i q
    obtain ⟨q1, q2⟩ := q
    refine ⟨fun e => absurd e (Nat.succ_ne_zero _), fun _ => ⟨by simp, q1⟩, fun e y hy hne => ?_, fun e => ?_⟩
    · have e0 : s.1 = 0 := by simp only at e; omega
      rcases List.mem_append.1 hy with r | r
      · exact h0 e0 y r
      · simp at r; exact absurd r hne
    · simp only at e
      have e1 : s.1 ≠ 0 := by omega
      obtain ⟨a, b⟩ := h1 e1
      exact ⟨s.2, x, List.mem_append_left _ a, by simp, fun r => (q2.resolve_left e1) r.symm, b, q1⟩
  · rename_i q
    have hx : -x ∈ k ∨ (s.1 ≠ 0 ∧ x = s.2) := by
      by_cases r : -x ∈ k
      · exact .inl r
      · refine .inr ⟨fun e => q ⟨r, .inl e⟩, ?_⟩
        by_cases e : x = s.2
        · exact e
        · exact absurd ⟨r, .inr e⟩ q
    refine ⟨fun e y hy => ?_, fun e => ⟨List.mem_append_left _ (h1 e).1, (h1 e).2⟩, fun e y hy hne => ?_, fun e => ?_⟩
    · rcases List.mem_append.1 hy with r | r
      · exact h0 e y r
      · simp at r; subst r
        rcases hx with r | ⟨r, _⟩
        · exact r
        · exact absurd e r
    · rcases List.mem_append.1 hy with r | r
      · exact h2 e y r hne
      · simp at r; subst r
        rcases hx with r | ⟨_, r⟩
        · exact r
        · exact absurd r hne
    · obtain ⟨y, z, a, b, d⟩ := h3 e
      exact ⟨y, z, List.mem_append_left _ a, List.mem_append_left _ b, d⟩
theorem leftI (k : List Int) : ∀ (c : List Int), LeftI k c (leftT k c) := by
  intro c
  have : ∀ n, LeftI k (c.take n) (leftT k (c.take n)) := by
    intro n
    induction n with
    | zero => exact ⟨fun _ y hy => (by simp at hy), fun e => absurd rfl e, fun _ y hy => (by simp at hy), fun e => (by simp [leftT] at e)⟩
    | succ n ih =>
      rcases Nat.lt_or_ge n c.length with q | q
      · rw [getD_take q, leftT_snoc]; exact leftI_step ih
      · rw [List.take_of_length_le (by omega)] at ih ⊢; exact ih
  have := this c.length
  rwa [List.take_length] at this
theorem leftT_len (k : List Int) : ∀ (c : List Int) (s : Nat × Int), (c.foldl (leftGo k) s).1 ≤ s.1 + c.length
  | [], s => Nat.le_refl _
  | x :: c, s => by
    rw [List.foldl_cons, List.length_cons]
    refine Nat.le_trans (leftT_len k c _) ?_
    have : (leftGo k s x).1 ≤ s.1 + 1 := by
      unfold leftGo
      split
      · exact Nat.le_refl _
      · exact Nat.le_succ _
    omega
/-- Literals that are not in yet. -/
def outs (n : Nat) (k : List Int) : Nat := (((List.range (2 * n)).map litAt).filter fun x => !decide (x ∈ k)).length
theorem filter_lt {α : Type} {p q : α → Bool} (h : ∀ x, q x = true → p x = true) {a : α} (hp : p a = true) (hq : q a = false) : ∀ {l : List α}, a ∈ l → (l.filter q).length < (l.filter p).length
  | x :: l, ha => by
    have hle : ∀ l : List α, (l.filter q).length ≤ (l.filter p).length := fun l => by
      induction l with
      | nil => exact Nat.le_refl _
      | cons y l ih =>
        rw [List.filter_cons, List.filter_cons]
        cases e : q y with
        | true => rw [if_pos rfl, h y e, if_pos rfl]; exact Nat.succ_le_succ ih
        | false =>
          rw [if_neg (by decide)]
          split
          · exact Nat.le_succ_of_le ih
          · exact ih
    rw [List.filter_cons, List.filter_cons]
    rcases List.mem_cons.1 ha with e | e
    · subst e
      rw [hp, hq, if_pos rfl, if_neg (by decide)]
      exact Nat.lt_succ_of_le (hle l)
    · have ih := filter_lt h hp hq e
      cases e2 : q x with
      | true => rw [if_pos rfl, h x e2, if_pos rfl]; exact Nat.succ_lt_succ ih
      | false =>
        rw [if_neg (by decide)]
        split
        · exact Nat.lt_succ_of_lt ih
        · exact ih
theorem outs_lt {n : Nat} {k : List Int} {x : Int} (hx : LitOk n x) (hk : x ∉ k) : outs n (k ++ [x]) < outs n k := by
  unfold outs
  refine filter_lt (a := x) (fun y h => ?_) (by simpa using hk) (by simp) ?_
  · simp at h ⊢; exact h.1
  · have := ix_ok hx
    exact List.mem_map.2 ⟨(ix x).toNat, List.mem_range.2 (by omega), at_ix hx⟩
theorem outs_le (n : Nat) (k : List Int) : outs n k ≤ 2 * n := by
  unfold outs
  exact Nat.le_trans (List.length_filter_le _ _) (by simp)
end Go.Proofs.Yteahhifkkjfhoaa
