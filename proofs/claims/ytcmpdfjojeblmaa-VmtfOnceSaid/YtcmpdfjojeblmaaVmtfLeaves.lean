/- The law VmtfLeaves: what is gone through can be left at any place, and is gone through anew from the front. No condition but that the arguments lie in memory as Go lays them. -/
import Derived.Test.YtcmpdfjojeblmaaVmtfStamps
namespace Go.Proofs.Ytcmpdfjojeblmaa
open Go.Pt
set_option linter.unusedVariables false
set_option linter.unusedSimpArgs false
theorem bradawllaw17_VmtfLeaves.spec {a lv : Int} {v : Value} {xs : List Int} (ha : 0 ≤ a ∧ a ≤ 255) (hlv : 0 ≤ lv ∧ lv ≤ 255) {K : Ret} {h : Heap} (hv : Rd h v (xs.map (.int .u8))) (hxs : ∀ x ∈ xs, 0 ≤ x ∧ x ≤ 255) (hk : ∀ h', Fr [] h h' → K (.bool true) h') :
    CallH Try.prog bradawllaw17_VmtfLeaves.id #[.int .u8 a, v, .int .u8 lv] K h := by
  refine bradawllaw17_VmtfLeaves.ok ?_
  simp only [bradawllaw17_VmtfLeaves.pt]
  try simp (disch := first | assumption | omega | (apply At.mk; with_unfolding_all rfl)) only [↓go_eq, ↓ent_eq, Mv, NilC_at, Fld_at, add_mk, Nat.zero_add, Nat.add_zero, Add64, Sub64, Mul64, Quo64, Rem64, Neg64, Cvt64, CvtU8, CvtU16, CvtU32, CvtU64, AddU64, SubU64, MulU64, Shr64, Shr_u8, Shr_u16, Shr_u32, Shr_u64, And1, And31, Eql64, Neq64, Bin_lss, Bin_leq, Bin_gtr, Bin_geq, Bin_bool_eql, Bin_bool_neq, Bin_ptr_nil_eql, Bin_ptr_nil_neq, Not_dec, Un_not, Pick_t, Pick_f, Pick_pos, Pick_neg, Gd_tt, Gd_tf, Gd_ft, Gd_ff, Gd_pos_t, Gd_neg_t, Gd_pos_f, Gd_neg_f, Gd_undef, If_t, If_f, If_pos, If_neg, CallF_eq, Max_two, Min_two, Len_rd, Len_own, Ld_blkE, Idx_rdN, Idx_ownN, Idx_rdE, Idx_ownE, IdxAE, Idx_at0, Ext_atE, Len_at, Int.toNat_natCast, Int.toNat_zero, Int.toNat_one, List.length_map, List.length_append, List.length_cons, List.length_nil, List.length_take, List.length_set, List.length_replicate, Bool.not_true, Bool.not_false, decide_true, decide_false, not_true_eq_false, not_false_eq_true, app]
  refine New_blk fun h1 b1 f1 s1 => ?_
  try simp (disch := first | assumption | omega | (apply At.mk; with_unfolding_all rfl)) only [↓go_eq, ↓ent_eq, Mv, NilC_at, Fld_at, add_mk, Nat.zero_add, Nat.add_zero, Add64, Sub64, Mul64, Quo64, Rem64, Neg64, Cvt64, CvtU8, CvtU16, CvtU32, CvtU64, AddU64, SubU64, MulU64, Shr64, Shr_u8, Shr_u16, Shr_u32, Shr_u64, And1, And31, Eql64, Neq64, Bin_lss, Bin_leq, Bin_gtr, Bin_geq, Bin_bool_eql, Bin_bool_neq, Bin_ptr_nil_eql, Bin_ptr_nil_neq, Not_dec, Un_not, Pick_t, Pick_f, Pick_pos, Pick_neg, Gd_tt, Gd_tf, Gd_ft, Gd_ff, Gd_pos_t, Gd_neg_t, Gd_pos_f, Gd_neg_f, Gd_undef, If_t, If_f, If_pos, If_neg, CallF_eq, Max_two, Min_two, Len_rd, Len_own, Ld_blkE, Idx_rdN, Idx_ownN, Idx_rdE, Idx_ownE, IdxAE, Idx_at0, Ext_atE, Len_at, Int.toNat_natCast, Int.toNat_zero, Int.toNat_one, List.length_map, List.length_append, List.length_cons, List.length_nil, List.length_take, List.length_set, List.length_replicate, Bool.not_true, Bool.not_false, decide_true, decide_false, not_true_eq_false, not_false_eq_true, app]
  refine New_blk fun h2 b2 f2 s2 => ?_
  try simp (disch := first | assumption | omega | (apply At.mk; with_unfolding_all rfl)) only [↓go_eq, ↓ent_eq, Mv, NilC_at, Fld_at, add_mk, Nat.zero_add, Nat.add_zero, Add64, Sub64, Mul64, Quo64, Rem64, Neg64, Cvt64, CvtU8, CvtU16, CvtU32, CvtU64, AddU64, SubU64, MulU64, Shr64, Shr_u8, Shr_u16, Shr_u32, Shr_u64, And1, And31, Eql64, Neq64, Bin_lss, Bin_leq, Bin_gtr, Bin_geq, Bin_bool_eql, Bin_bool_neq, Bin_ptr_nil_eql, Bin_ptr_nil_neq, Not_dec, Un_not, Pick_t, Pick_f, Pick_pos, Pick_neg, Gd_tt, Gd_tf, Gd_ft, Gd_ff, Gd_pos_t, Gd_neg_t, Gd_pos_f, Gd_neg_f, Gd_undef, If_t, If_f, If_pos, If_neg, CallF_eq, Max_two, Min_two, Len_rd, Len_own, Ld_blkE, Idx_rdN, Idx_ownN, Idx_rdE, Idx_ownE, IdxAE, Idx_at0, Ext_atE, Len_at, Int.toNat_natCast, Int.toNat_zero, Int.toNat_one, List.length_map, List.length_append, List.length_cons, List.length_nil, List.length_take, List.length_set, List.length_replicate, Bool.not_true, Bool.not_false, decide_true, decide_false, not_true_eq_false, not_false_eq_true, app]
  refine bradawllaw17_fit.spec fun h3 f3 => ?_
  have hb1 : Blk h3 h.size [.int .u8 lv] := (b1.fr f2 (by simp)).fr f3 (by simp)
  have hb2 : Blk h3 h1.size [.bool false] := b2.fr f3 (by simp)
  have f03 := (f1.trans f2).trans f3
  have hv3 := hv.fr f03
  have sz_f1 := f1.size
  have sz_f2 := f2.size
  have sz_f3 := f3.size
  obtain ⟨rb, hrb⟩ : ∃ rb, rb = h1.size := ⟨_, rfl⟩
  rw [← hrb] at hb2 ⊢
  try simp (disch := first | assumption | omega | (apply At.mk; with_unfolding_all rfl)) only [↓go_eq, ↓ent_eq, Mv, NilC_at, Fld_at, add_mk, Nat.zero_add, Nat.add_zero, Add64, Sub64, Mul64, Quo64, Rem64, Neg64, Cvt64, CvtU8, CvtU16, CvtU32, CvtU64, AddU64, SubU64, MulU64, Shr64, Shr_u8, Shr_u16, Shr_u32, Shr_u64, And1, And31, Eql64, Neq64, Bin_lss, Bin_leq, Bin_gtr, Bin_geq, Bin_bool_eql, Bin_bool_neq, Bin_ptr_nil_eql, Bin_ptr_nil_neq, Not_dec, Un_not, Pick_t, Pick_f, Pick_pos, Pick_neg, Gd_tt, Gd_tf, Gd_ft, Gd_ff, Gd_pos_t, Gd_neg_t, Gd_pos_f, Gd_neg_f, Gd_undef, If_t, If_f, If_pos, If_neg, CallF_eq, Max_two, Min_two, Len_rd, Len_own, Ld_blkE, Idx_rdN, Idx_ownN, Idx_rdE, Idx_ownE, IdxAE, Idx_at0, Ext_atE, Len_at, Int.toNat_natCast, Int.toNat_zero, Int.toNat_one, List.length_map, List.length_append, List.length_cons, List.length_nil, List.length_take, List.length_set, List.length_replicate, Bool.not_true, Bool.not_false, decide_true, decide_false, not_true_eq_false, not_false_eq_true, app]
  by_cases c0 : (xs.length : Int) > 100
  · try simp (disch := first | assumption | omega | (apply At.mk; with_unfolding_all rfl)) only [↓go_eq, ↓ent_eq, Mv, NilC_at, Fld_at, add_mk, Nat.zero_add, Nat.add_zero, Add64, Sub64, Mul64, Quo64, Rem64, Neg64, Cvt64, CvtU8, CvtU16, CvtU32, CvtU64, AddU64, SubU64, MulU64, Shr64, Shr_u8, Shr_u16, Shr_u32, Shr_u64, And1, And31, Eql64, Neq64, Bin_lss, Bin_leq, Bin_gtr, Bin_geq, Bin_bool_eql, Bin_bool_neq, Bin_ptr_nil_eql, Bin_ptr_nil_neq, Not_dec, Un_not, Pick_t, Pick_f, Pick_pos, Pick_neg, Gd_tt, Gd_tf, Gd_ft, Gd_ff, Gd_pos_t, Gd_neg_t, Gd_pos_f, Gd_neg_f, Gd_undef, If_t, If_f, If_pos, If_neg, CallF_eq, Max_two, Min_two, Len_rd, Len_own, Ld_blkE, Idx_rdN, Idx_ownN, Idx_rdE, Idx_ownE, IdxAE, Idx_at0, Ext_atE, Len_at, Int.toNat_natCast, Int.toNat_zero, Int.toNat_one, List.length_map, List.length_append, List.length_cons, List.length_nil, List.length_take, List.length_set, List.length_replicate, Bool.not_true, Bool.not_false, decide_true, decide_false, not_true_eq_false, not_false_eq_true, app]
    exact fin1 hb2 rfl f03 (by omega) hk
  obtain ⟨n, hn⟩ : ∃ n : Nat, (n : Int) = 1 + a % 20 := ⟨(1 + a % 20).toNat, by omega⟩
  try simp (disch := first | assumption | omega | (apply At.mk; with_unfolding_all rfl)) only [↓go_eq, ↓ent_eq, Mv, NilC_at, Fld_at, add_mk, Nat.zero_add, Nat.add_zero, Add64, Sub64, Mul64, Quo64, Rem64, Neg64, Cvt64, CvtU8, CvtU16, CvtU32, CvtU64, AddU64, SubU64, MulU64, Shr64, Shr_u8, Shr_u16, Shr_u32, Shr_u64, And1, And31, Eql64, Neq64, Bin_lss, Bin_leq, Bin_gtr, Bin_geq, Bin_bool_eql, Bin_bool_neq, Bin_ptr_nil_eql, Bin_ptr_nil_neq, Not_dec, Un_not, Pick_t, Pick_f, Pick_pos, Pick_neg, Gd_tt, Gd_tf, Gd_ft, Gd_ff, Gd_pos_t, Gd_neg_t, Gd_pos_f, Gd_neg_f, Gd_undef, If_t, If_f, If_pos, If_neg, CallF_eq, Max_two, Min_two, Len_rd, Len_own, Ld_blkE, Idx_rdN, Idx_ownN, Idx_rdE, Idx_ownE, IdxAE, Idx_at0, Ext_atE, Len_at, Int.toNat_natCast, Int.toNat_zero, Int.toNat_one, List.length_map, List.length_append, List.length_cons, List.length_nil, List.length_take, List.length_set, List.length_replicate, Bool.not_true, Bool.not_false, decide_true, decide_false, not_true_eq_false, not_false_eq_true, app]
  rw [← hn]
  refine New_blk fun h4 b4 f4 s4 => ?_
  try simp (disch := first | assumption | omega | (apply At.mk; with_unfolding_all rfl)) only [↓go_eq, ↓ent_eq, Mv, NilC_at, Fld_at, add_mk, Nat.zero_add, Nat.add_zero, Add64, Sub64, Mul64, Quo64, Rem64, Neg64, Cvt64, CvtU8, CvtU16, CvtU32, CvtU64, AddU64, SubU64, MulU64, Shr64, Shr_u8, Shr_u16, Shr_u32, Shr_u64, And1, And31, Eql64, Neq64, Bin_lss, Bin_leq, Bin_gtr, Bin_geq, Bin_bool_eql, Bin_bool_neq, Bin_ptr_nil_eql, Bin_ptr_nil_neq, Not_dec, Un_not, Pick_t, Pick_f, Pick_pos, Pick_neg, Gd_tt, Gd_tf, Gd_ft, Gd_ff, Gd_pos_t, Gd_neg_t, Gd_pos_f, Gd_neg_f, Gd_undef, If_t, If_f, If_pos, If_neg, CallF_eq, Max_two, Min_two, Len_rd, Len_own, Ld_blkE, Idx_rdN, Idx_ownN, Idx_rdE, Idx_ownE, IdxAE, Idx_at0, Ext_atE, Len_at, Int.toNat_natCast, Int.toNat_zero, Int.toNat_one, List.length_map, List.length_append, List.length_cons, List.length_nil, List.length_take, List.length_set, List.length_replicate, Bool.not_true, Bool.not_false, decide_true, decide_false, not_true_eq_false, not_false_eq_true, app]
  refine St_blk b4 (by simp) rfl fun h5 b5 f5 => ?_
  obtain ⟨nb, hnb⟩ : ∃ nb, nb = h3.size := ⟨_, rfl⟩
  rw [← hnb] at b5 f5 ⊢
  have hb3 : Blk h5 nb [Iv n] := b5
  have hb1 := (hb1.fr f4 (by simp)).fr f5 (by first | (simp; done) | (simp; omega) | omega)
  have hb2 := (hb2.fr f4 (by simp)).fr f5 (by first | (simp; done) | (simp; omega) | omega)
  have f05 : Fr [] h h5 := (f03.trans f4).trans' f5 (by first | (simp; done) | (simp; omega) | omega)
  have sz_f4 := f4.size
  have sz_f5 := f5.size
  try simp (disch := first | assumption | omega | (apply At.mk; with_unfolding_all rfl)) only [↓go_eq, ↓ent_eq, Mv, NilC_at, Fld_at, add_mk, Nat.zero_add, Nat.add_zero, Add64, Sub64, Mul64, Quo64, Rem64, Neg64, Cvt64, CvtU8, CvtU16, CvtU32, CvtU64, AddU64, SubU64, MulU64, Shr64, Shr_u8, Shr_u16, Shr_u32, Shr_u64, And1, And31, Eql64, Neq64, Bin_lss, Bin_leq, Bin_gtr, Bin_geq, Bin_bool_eql, Bin_bool_neq, Bin_ptr_nil_eql, Bin_ptr_nil_neq, Not_dec, Un_not, Pick_t, Pick_f, Pick_pos, Pick_neg, Gd_tt, Gd_tf, Gd_ft, Gd_ff, Gd_pos_t, Gd_neg_t, Gd_pos_f, Gd_neg_f, Gd_undef, If_t, If_f, If_pos, If_neg, CallF_eq, Max_two, Min_two, Len_rd, Len_own, Ld_blkE, Idx_rdN, Idx_ownN, Idx_rdE, Idx_ownE, IdxAE, Idx_at0, Ext_atE, Len_at, Int.toNat_natCast, Int.toNat_zero, Int.toNat_one, List.length_map, List.length_append, List.length_cons, List.length_nil, List.length_take, List.length_set, List.length_replicate, Bool.not_true, Bool.not_false, decide_true, decide_false, not_true_eq_false, not_false_eq_true, app]
  refine bradawllaw17_begin.spec (by omega) fun g b u bs h6 q6 o6 zg zb zbs f6 => ?_
  have hb1 := hb1.fr f6 (by first | (simp; done) | (simp; omega) | omega)
  have hb2 := hb2.fr f6 (by first | (simp; done) | (simp; omega) | omega)
  have hb3 := hb3.fr f6 (by first | (simp; done) | (simp; omega) | omega)
  have k6 := q6.k_lt
  try simp (disch := first | assumption | omega | (apply At.mk; with_unfolding_all rfl)) only [↓go_eq, ↓ent_eq, Mv, NilC_at, Fld_at, add_mk, Nat.zero_add, Nat.add_zero, Add64, Sub64, Mul64, Quo64, Rem64, Neg64, Cvt64, CvtU8, CvtU16, CvtU32, CvtU64, AddU64, SubU64, MulU64, Shr64, Shr_u8, Shr_u16, Shr_u32, Shr_u64, And1, And31, Eql64, Neq64, Bin_lss, Bin_leq, Bin_gtr, Bin_geq, Bin_bool_eql, Bin_bool_neq, Bin_ptr_nil_eql, Bin_ptr_nil_neq, Not_dec, Un_not, Pick_t, Pick_f, Pick_pos, Pick_neg, Gd_tt, Gd_tf, Gd_ft, Gd_ff, Gd_pos_t, Gd_neg_t, Gd_pos_f, Gd_neg_f, Gd_undef, If_t, If_f, If_pos, If_neg, CallF_eq, Max_two, Min_two, Len_rd, Len_own, Ld_blkE, Idx_rdN, Idx_ownN, Idx_rdE, Idx_ownE, IdxAE, Idx_at0, Ext_atE, Len_at, Int.toNat_natCast, Int.toNat_zero, Int.toNat_one, List.length_map, List.length_append, List.length_cons, List.length_nil, List.length_take, List.length_set, List.length_replicate, Bool.not_true, Bool.not_false, decide_true, decide_false, not_true_eq_false, not_false_eq_true, app]
  refine New_blk fun h7 b7 f7 s7 => ?_
  try simp (disch := first | assumption | omega | (apply At.mk; with_unfolding_all rfl)) only [↓go_eq, ↓ent_eq, Mv, NilC_at, Fld_at, add_mk, Nat.zero_add, Nat.add_zero, Add64, Sub64, Mul64, Quo64, Rem64, Neg64, Cvt64, CvtU8, CvtU16, CvtU32, CvtU64, AddU64, SubU64, MulU64, Shr64, Shr_u8, Shr_u16, Shr_u32, Shr_u64, And1, And31, Eql64, Neq64, Bin_lss, Bin_leq, Bin_gtr, Bin_geq, Bin_bool_eql, Bin_bool_neq, Bin_ptr_nil_eql, Bin_ptr_nil_neq, Not_dec, Un_not, Pick_t, Pick_f, Pick_pos, Pick_neg, Gd_tt, Gd_tf, Gd_ft, Gd_ff, Gd_pos_t, Gd_neg_t, Gd_pos_f, Gd_neg_f, Gd_undef, If_t, If_f, If_pos, If_neg, CallF_eq, Max_two, Min_two, Len_rd, Len_own, Ld_blkE, Idx_rdN, Idx_ownN, Idx_rdE, Idx_ownE, IdxAE, Idx_at0, Ext_atE, Len_at, Int.toNat_natCast, Int.toNat_zero, Int.toNat_one, List.length_map, List.length_append, List.length_cons, List.length_nil, List.length_take, List.length_set, List.length_replicate, Bool.not_true, Bool.not_false, decide_true, decide_false, not_true_eq_false, not_false_eq_true, app]
  refine St_blk b7 (by simp) o6.rd.isCell fun h8 b8 f8 => ?_
  obtain ⟨wb, hwb⟩ : ∃ wb, wb = h6.size := ⟨_, rfl⟩
  rw [← hwb] at b8 f8 ⊢
  have hb4 : Blk h8 wb [u] := b8
  have ltb := hb3.lt
  have zbs' : ∀ x ∈ bs, h5.size ≤ x ∧ x ≠ g ∧ x ≠ b ∧ x < wb := fun x hx => ⟨(zbs x hx).1, (zbs x hx).2.1, (zbs x hx).2.2, by rw [hwb]; exact o6.lt x hx⟩
  have hb1 := hb1.fr f7 (by first | (simp; done) | (simp; omega) | omega)
  have hb2 := hb2.fr f7 (by first | (simp; done) | (simp; omega) | omega)
  have hb3 := hb3.fr f7 (by first | (simp; done) | (simp; omega) | omega)
  have q6 := q6.fr f7 (by first | (simp; done) | (simp; omega) | omega)
  have sz_f6 := f6.size
  have sz_f7 := f7.size
  have sz_f8 := f8.size
  have o8 := (o6.fr f7 (by simp)).fr f8 (fun x hx => by have := zbs' x hx; simp; omega)
  have hb1 := hb1.fr f8 (by first | (simp; done) | (simp; omega) | omega)
  have hb2 := hb2.fr f8 (by first | (simp; done) | (simp; omega) | omega)
  have hb3 := hb3.fr f8 (by first | (simp; done) | (simp; omega) | omega)
  have q6 := q6.fr f8 (by first | (simp; done) | (simp; omega) | omega)
  have f08 : Fr [] h h8 := ((f05.trans f6).trans f7).trans' f8 (by first | (simp; done) | (simp; omega) | omega)
  have hv8 := hv.fr f08
  have hord : h.size < rb ∧ rb < nb ∧ nb < h5.size ∧ h5.size ≤ g ∧ h5.size ≤ b ∧ g < wb ∧ b < wb ∧ nb < wb := by omega
  generalize h5.size = z5 at *
  try simp (disch := first | assumption | omega | (apply At.mk; with_unfolding_all rfl)) only [↓go_eq, ↓ent_eq, Mv, NilC_at, Fld_at, add_mk, Nat.zero_add, Nat.add_zero, Add64, Sub64, Mul64, Quo64, Rem64, Neg64, Cvt64, CvtU8, CvtU16, CvtU32, CvtU64, AddU64, SubU64, MulU64, Shr64, Shr_u8, Shr_u16, Shr_u32, Shr_u64, And1, And31, Eql64, Neq64, Bin_lss, Bin_leq, Bin_gtr, Bin_geq, Bin_bool_eql, Bin_bool_neq, Bin_ptr_nil_eql, Bin_ptr_nil_neq, Not_dec, Un_not, Pick_t, Pick_f, Pick_pos, Pick_neg, Gd_tt, Gd_tf, Gd_ft, Gd_ff, Gd_pos_t, Gd_neg_t, Gd_pos_f, Gd_neg_f, Gd_undef, If_t, If_f, If_pos, If_neg, CallF_eq, Max_two, Min_two, Len_rd, Len_own, Ld_blkE, Idx_rdN, Idx_ownN, Idx_rdE, Idx_ownE, IdxAE, Idx_at0, Ext_atE, Len_at, Int.toNat_natCast, Int.toNat_zero, Int.toNat_one, List.length_map, List.length_append, List.length_cons, List.length_nil, List.length_take, List.length_set, List.length_replicate, Bool.not_true, Bool.not_false, decide_true, decide_false, not_true_eq_false, not_false_eq_true, app]
  refine Lp_fn (σ := Nat × Value × List Nat) (fun s => [ptr h.size, ptr rb, ptr nb, ptr g, ptr wb, v, Iv (xs.length : Nat), Iv (s.1 : Int)])
    (fun s h' => s.1 ≤ xs.length ∧ Fr [] h h' ∧ QS h' g b n (bumps n (xs.take s.1)) ∧ Blk h' h.size [.int .u8 lv] ∧ Blk h' rb [.bool false] ∧ Blk h' nb [Iv n] ∧ Blk h' wb [s.2.1] ∧ Own h' s.2.1 (Iw (bumps n (xs.take s.1)).row) s.2.2 ∧ (∀ x ∈ s.2.2, z5 ≤ x ∧ x ≠ g ∧ x ≠ b ∧ x ≠ wb))
    (fun s => xs.length - s.1) (0, u, bs) rfl (fun _ => rfl) ⟨Nat.zero_le _, f08, q6, hb1, hb2, hb3, hb4, o8, fun x hx => by have := zbs' x hx; omega⟩ ?_
  rintro ⟨i, u9, bs9⟩ h9 ⟨hi, f9, q9, x1, x2, x3, x4, o9, z9⟩ X hX
  simp only at hi q9 x4 o9 z9
  have hv9 := hv.fr f9
  by_cases c1 : (i : Int) < (xs.length : Nat)
  · have hg1 : xs[i]? = some xs[i] := List.getElem?_eq_getElem (by omega)
    have a1 := At.map (f := Value.int .u8) hg1
    have r1 := hxs _ (List.mem_of_getElem? hg1)
    obtain ⟨y, hy⟩ : ∃ y : Nat, xs[i] = y := ⟨xs[i].toNat, by omega⟩
    rw [hy] at hg1 a1 r1
    try simp (disch := first | assumption | omega | (apply At.mk; with_unfolding_all rfl)) only [↓go_eq, ↓ent_eq, Mv, NilC_at, Fld_at, add_mk, Nat.zero_add, Nat.add_zero, Add64, Sub64, Mul64, Quo64, Rem64, Neg64, Cvt64, CvtU8, CvtU16, CvtU32, CvtU64, AddU64, SubU64, MulU64, Shr64, Shr_u8, Shr_u16, Shr_u32, Shr_u64, And1, And31, Eql64, Neq64, Bin_lss, Bin_leq, Bin_gtr, Bin_geq, Bin_bool_eql, Bin_bool_neq, Bin_ptr_nil_eql, Bin_ptr_nil_neq, Not_dec, Un_not, Pick_t, Pick_f, Pick_pos, Pick_neg, Gd_tt, Gd_tf, Gd_ft, Gd_ff, Gd_pos_t, Gd_neg_t, Gd_pos_f, Gd_neg_f, Gd_undef, If_t, If_f, If_pos, If_neg, CallF_eq, Max_two, Min_two, Len_rd, Len_own, Ld_blkE, Idx_rdN, Idx_ownN, Idx_rdE, Idx_ownE, IdxAE, Idx_at0, Ext_atE, Len_at, Int.toNat_natCast, Int.toNat_zero, Int.toNat_one, List.length_map, List.length_append, List.length_cons, List.length_nil, List.length_take, List.length_set, List.length_replicate, Bool.not_true, Bool.not_false, decide_true, decide_false, not_true_eq_false, not_false_eq_true, app]
    rw [Join_eq]
    try simp (disch := first | assumption | omega | (apply At.mk; with_unfolding_all rfl)) only [↓go_eq, ↓ent_eq, Mv, NilC_at, Fld_at, add_mk, Nat.zero_add, Nat.add_zero, Add64, Sub64, Mul64, Quo64, Rem64, Neg64, Cvt64, CvtU8, CvtU16, CvtU32, CvtU64, AddU64, SubU64, MulU64, Shr64, Shr_u8, Shr_u16, Shr_u32, Shr_u64, And1, And31, Eql64, Neq64, Bin_lss, Bin_leq, Bin_gtr, Bin_geq, Bin_bool_eql, Bin_bool_neq, Bin_ptr_nil_eql, Bin_ptr_nil_neq, Not_dec, Un_not, Pick_t, Pick_f, Pick_pos, Pick_neg, Gd_tt, Gd_tf, Gd_ft, Gd_ff, Gd_pos_t, Gd_neg_t, Gd_pos_f, Gd_neg_f, Gd_undef, If_t, If_f, If_pos, If_neg, CallF_eq, Max_two, Min_two, Len_rd, Len_own, Ld_blkE, Idx_rdN, Idx_ownN, Idx_rdE, Idx_ownE, IdxAE, Idx_at0, Ext_atE, Len_at, Int.toNat_natCast, Int.toNat_zero, Int.toNat_one, List.length_map, List.length_append, List.length_cons, List.length_nil, List.length_take, List.length_set, List.length_replicate, Bool.not_true, Bool.not_false, decide_true, decide_false, not_true_eq_false, not_false_eq_true, app]
    have hkk := bumps_k n (xs.take i)
    rw [List.length_take] at hkk
    refine vmtf_Queue_Bump.spec (by omega) (by omega) q9 fun h10 q10 f10 => ?_
    rw [← bumps_snoc, ← take_snoc hg1] at q10
    have k4 := x4.lt
    have kq := q9.k_lt
    have o10 := o9.fr f10 (fun x hx => by have := z9 x hx; simp; omega)
    have x1 := x1.fr f10 (by first | (simp; done) | (simp; omega) | omega)
    have x2 := x2.fr f10 (by first | (simp; done) | (simp; omega) | omega)
    have x3 := x3.fr f10 (by first | (simp; done) | (simp; omega) | omega)
    have x4 := x4.fr f10 (by first | (simp; done) | (simp; omega) | omega)
    have f10' := f9.trans' f10 (by first | (simp; done) | (simp; omega) | omega)
    have hlen := q9.len
    by_cases c2 : 1 ≤ (y : Int) ∧ (y : Int) ≤ n
    · rw [decide_eq_true c2]
      have er : (bumps n (xs.take (i + 1))).row = y :: (bumps n (xs.take i)).row.filter (· != y) := by rw [take_snoc hg1, bumps_snoc, Qm.bump, if_pos c2]; rfl
      try simp (disch := first | assumption | omega | (apply At.mk; with_unfolding_all rfl)) only [↓go_eq, ↓ent_eq, Mv, NilC_at, Fld_at, add_mk, Nat.zero_add, Nat.add_zero, Add64, Sub64, Mul64, Quo64, Rem64, Neg64, Cvt64, CvtU8, CvtU16, CvtU32, CvtU64, AddU64, SubU64, MulU64, Shr64, Shr_u8, Shr_u16, Shr_u32, Shr_u64, And1, And31, Eql64, Neq64, Bin_lss, Bin_leq, Bin_gtr, Bin_geq, Bin_bool_eql, Bin_bool_neq, Bin_ptr_nil_eql, Bin_ptr_nil_neq, Not_dec, Un_not, Pick_t, Pick_f, Pick_pos, Pick_neg, Gd_tt, Gd_tf, Gd_ft, Gd_ff, Gd_pos_t, Gd_neg_t, Gd_pos_f, Gd_neg_f, Gd_undef, If_t, If_f, If_pos, If_neg, CallF_eq, Max_two, Min_two, Len_rd, Len_own, Ld_blkE, Idx_rdN, Idx_ownN, Idx_rdE, Idx_ownE, IdxAE, Idx_at0, Ext_atE, Len_at, Int.toNat_natCast, Int.toNat_zero, Int.toNat_one, List.length_map, List.length_append, List.length_cons, List.length_nil, List.length_take, List.length_set, List.length_replicate, Bool.not_true, Bool.not_false, decide_true, decide_false, not_true_eq_false, not_false_eq_true, app]
      refine bradawllaw17_bumped.spec (by omega) o10.rd fun u' h11 bs' o11 z11 f11 => ?_
      have x1 := x1.fr f11 (by first | (simp; done) | (simp; omega) | omega)
      have x2 := x2.fr f11 (by first | (simp; done) | (simp; omega) | omega)
      have x3 := x3.fr f11 (by first | (simp; done) | (simp; omega) | omega)
      have x4 := x4.fr f11 (by first | (simp; done) | (simp; omega) | omega)
      have q10 := q10.fr f11 (by first | (simp; done) | (simp; omega) | omega)
      have k11 := q10.k_lt
      have k12 := x4.lt
      have k10 : g < h10.size ∧ b < h10.size ∧ wb < h10.size := by have := f10.size; omega
      try simp (disch := first | assumption | omega | (apply At.mk; with_unfolding_all rfl)) only [↓go_eq, ↓ent_eq, Mv, NilC_at, Fld_at, add_mk, Nat.zero_add, Nat.add_zero, Add64, Sub64, Mul64, Quo64, Rem64, Neg64, Cvt64, CvtU8, CvtU16, CvtU32, CvtU64, AddU64, SubU64, MulU64, Shr64, Shr_u8, Shr_u16, Shr_u32, Shr_u64, And1, And31, Eql64, Neq64, Bin_lss, Bin_leq, Bin_gtr, Bin_geq, Bin_bool_eql, Bin_bool_neq, Bin_ptr_nil_eql, Bin_ptr_nil_neq, Not_dec, Un_not, Pick_t, Pick_f, Pick_pos, Pick_neg, Gd_tt, Gd_tf, Gd_ft, Gd_ff, Gd_pos_t, Gd_neg_t, Gd_pos_f, Gd_neg_f, Gd_undef, If_t, If_f, If_pos, If_neg, CallF_eq, Max_two, Min_two, Len_rd, Len_own, Ld_blkE, Idx_rdN, Idx_ownN, Idx_rdE, Idx_ownE, IdxAE, Idx_at0, Ext_atE, Len_at, Int.toNat_natCast, Int.toNat_zero, Int.toNat_one, List.length_map, List.length_append, List.length_cons, List.length_nil, List.length_take, List.length_set, List.length_replicate, Bool.not_true, Bool.not_false, decide_true, decide_false, not_true_eq_false, not_false_eq_true, app]
      refine St_blk x4 (by simp) o11.rd.isCell fun h12 b12 f12 => ?_
      have o12 := o11.fr f12 (fun x hx => by have := z11 x hx; simp; omega)
      have x1 := x1.fr f12 (by first | (simp; done) | (simp; omega) | omega)
      have x2 := x2.fr f12 (by first | (simp; done) | (simp; omega) | omega)
      have x3 := x3.fr f12 (by first | (simp; done) | (simp; omega) | omega)
      have q10 := q10.fr f12 (by first | (simp; done) | (simp; omega) | omega)
      try simp (disch := first | assumption | omega | (apply At.mk; with_unfolding_all rfl)) only [↓go_eq, ↓ent_eq, Mv, NilC_at, Fld_at, add_mk, Nat.zero_add, Nat.add_zero, Add64, Sub64, Mul64, Quo64, Rem64, Neg64, Cvt64, CvtU8, CvtU16, CvtU32, CvtU64, AddU64, SubU64, MulU64, Shr64, Shr_u8, Shr_u16, Shr_u32, Shr_u64, And1, And31, Eql64, Neq64, Bin_lss, Bin_leq, Bin_gtr, Bin_geq, Bin_bool_eql, Bin_bool_neq, Bin_ptr_nil_eql, Bin_ptr_nil_neq, Not_dec, Un_not, Pick_t, Pick_f, Pick_pos, Pick_neg, Gd_tt, Gd_tf, Gd_ft, Gd_ff, Gd_pos_t, Gd_neg_t, Gd_pos_f, Gd_neg_f, Gd_undef, If_t, If_f, If_pos, If_neg, CallF_eq, Max_two, Min_two, Len_rd, Len_own, Ld_blkE, Idx_rdN, Idx_ownN, Idx_rdE, Idx_ownE, IdxAE, Idx_at0, Ext_atE, Len_at, Int.toNat_natCast, Int.toNat_zero, Int.toNat_one, List.length_map, List.length_append, List.length_cons, List.length_nil, List.length_take, List.length_set, List.length_replicate, Bool.not_true, Bool.not_false, decide_true, decide_false, not_true_eq_false, not_false_eq_true, app]
      refine hX (i + 1, u', bs') h12 ⟨by simp only; omega, (f10'.trans f11).trans' f12 (by first | (simp; done) | (simp; omega) | omega), q10, x1, x2, x3, b12, by simp only [er]; exact o12, fun x hx => by have := z11 x hx; omega⟩ (by simp only; omega)
    · rw [decide_eq_false c2]
      have er : (bumps n (xs.take (i + 1))).row = (bumps n (xs.take i)).row := by rw [take_snoc hg1, bumps_snoc, Qm.bump, if_neg c2]
      try simp (disch := first | assumption | omega | (apply At.mk; with_unfolding_all rfl)) only [↓go_eq, ↓ent_eq, Mv, NilC_at, Fld_at, add_mk, Nat.zero_add, Nat.add_zero, Add64, Sub64, Mul64, Quo64, Rem64, Neg64, Cvt64, CvtU8, CvtU16, CvtU32, CvtU64, AddU64, SubU64, MulU64, Shr64, Shr_u8, Shr_u16, Shr_u32, Shr_u64, And1, And31, Eql64, Neq64, Bin_lss, Bin_leq, Bin_gtr, Bin_geq, Bin_bool_eql, Bin_bool_neq, Bin_ptr_nil_eql, Bin_ptr_nil_neq, Not_dec, Un_not, Pick_t, Pick_f, Pick_pos, Pick_neg, Gd_tt, Gd_tf, Gd_ft, Gd_ff, Gd_pos_t, Gd_neg_t, Gd_pos_f, Gd_neg_f, Gd_undef, If_t, If_f, If_pos, If_neg, CallF_eq, Max_two, Min_two, Len_rd, Len_own, Ld_blkE, Idx_rdN, Idx_ownN, Idx_rdE, Idx_ownE, IdxAE, Idx_at0, Ext_atE, Len_at, Int.toNat_natCast, Int.toNat_zero, Int.toNat_one, List.length_map, List.length_append, List.length_cons, List.length_nil, List.length_take, List.length_set, List.length_replicate, Bool.not_true, Bool.not_false, decide_true, decide_false, not_true_eq_false, not_false_eq_true, app]
      exact hX (i + 1, u9, bs9) h10 ⟨by simp only; omega, f10', q10, x1, x2, x3, x4, by simp only [er]; exact o10, z9⟩ (by simp only; omega)
  obtain rfl : i = xs.length := by omega
  rw [List.take_length] at q9 o9
  generalize bumps n xs = m at *
  try simp (disch := first | assumption | omega | (apply At.mk; with_unfolding_all rfl)) only [↓go_eq, ↓ent_eq, Mv, NilC_at, Fld_at, add_mk, Nat.zero_add, Nat.add_zero, Add64, Sub64, Mul64, Quo64, Rem64, Neg64, Cvt64, CvtU8, CvtU16, CvtU32, CvtU64, AddU64, SubU64, MulU64, Shr64, Shr_u8, Shr_u16, Shr_u32, Shr_u64, And1, And31, Eql64, Neq64, Bin_lss, Bin_leq, Bin_gtr, Bin_geq, Bin_bool_eql, Bin_bool_neq, Bin_ptr_nil_eql, Bin_ptr_nil_neq, Not_dec, Un_not, Pick_t, Pick_f, Pick_pos, Pick_neg, Gd_tt, Gd_tf, Gd_ft, Gd_ff, Gd_pos_t, Gd_neg_t, Gd_pos_f, Gd_neg_f, Gd_undef, If_t, If_f, If_pos, If_neg, CallF_eq, Max_two, Min_two, Len_rd, Len_own, Ld_blkE, Idx_rdN, Idx_ownN, Idx_rdE, Idx_ownE, IdxAE, Idx_at0, Ext_atE, Len_at, Int.toNat_natCast, Int.toNat_zero, Int.toNat_one, List.length_map, List.length_append, List.length_cons, List.length_nil, List.length_take, List.length_set, List.length_replicate, Bool.not_true, Bool.not_false, decide_true, decide_false, not_true_eq_false, not_false_eq_true, app]
  refine New_blk fun h10 b10 f10 s10 => ?_
  try simp (disch := first | assumption | omega | (apply At.mk; with_unfolding_all rfl)) only [↓go_eq, ↓ent_eq, Mv, NilC_at, Fld_at, add_mk, Nat.zero_add, Nat.add_zero, Add64, Sub64, Mul64, Quo64, Rem64, Neg64, Cvt64, CvtU8, CvtU16, CvtU32, CvtU64, AddU64, SubU64, MulU64, Shr64, Shr_u8, Shr_u16, Shr_u32, Shr_u64, And1, And31, Eql64, Neq64, Bin_lss, Bin_leq, Bin_gtr, Bin_geq, Bin_bool_eql, Bin_bool_neq, Bin_ptr_nil_eql, Bin_ptr_nil_neq, Not_dec, Un_not, Pick_t, Pick_f, Pick_pos, Pick_neg, Gd_tt, Gd_tf, Gd_ft, Gd_ff, Gd_pos_t, Gd_neg_t, Gd_pos_f, Gd_neg_f, Gd_undef, If_t, If_f, If_pos, If_neg, CallF_eq, Max_two, Min_two, Len_rd, Len_own, Ld_blkE, Idx_rdN, Idx_ownN, Idx_rdE, Idx_ownE, IdxAE, Idx_at0, Ext_atE, Len_at, Int.toNat_natCast, Int.toNat_zero, Int.toNat_one, List.length_map, List.length_append, List.length_cons, List.length_nil, List.length_take, List.length_set, List.length_replicate, Bool.not_true, Bool.not_false, decide_true, decide_false, not_true_eq_false, not_false_eq_true, app]
  refine St_blk b10 (by simp) rfl fun h11 b11 f11 => ?_
  obtain ⟨ib, hib⟩ : ∃ ib, ib = h9.size := ⟨_, rfl⟩
  rw [← hib] at b11 f11 ⊢
  have x5 : Blk h11 ib [Iv 0] := b11
  have kq := q9.k_lt
  have k4 := x4.lt
  have o11 := (o9.fr f10 (by simp)).fr f11 (fun x hx => by have := o9.lt x hx; simp; omega)
  have zo : ∀ x ∈ bs9, x ≠ rb ∧ x ≠ ib := fun x hx => by have := z9 x hx; have := o9.lt x hx; omega
  have x1 := x1.fr f10 (by first | (simp; done) | (simp; omega) | omega)
  have x2 := x2.fr f10 (by first | (simp; done) | (simp; omega) | omega)
  have x3 := x3.fr f10 (by first | (simp; done) | (simp; omega) | omega)
  have x4 := x4.fr f10 (by first | (simp; done) | (simp; omega) | omega)
  have q9 := q9.fr f10 (by first | (simp; done) | (simp; omega) | omega)
  have x1 := x1.fr f11 (by first | (simp; done) | (simp; omega) | omega)
  have x2 := x2.fr f11 (by first | (simp; done) | (simp; omega) | omega)
  have x3 := x3.fr f11 (by first | (simp; done) | (simp; omega) | omega)
  have x4 := x4.fr f11 (by first | (simp; done) | (simp; omega) | omega)
  have q9 := q9.fr f11 (by first | (simp; done) | (simp; omega) | omega)
  have f011 : Fr [] h h11 := (f9.trans f10).trans' f11 (by first | (simp; done) | (simp; omega) | omega)
  have sz_f9 := f9.size
  have sz_f10 := f10.size
  have sz_f11 := f11.size
  have hlen := q9.len
  have hib2 : wb < ib ∧ g < ib ∧ b < ib ∧ ib < h11.size := by have := x5.lt; omega
  have hord2 : h.size < rb ∧ rb < nb ∧ nb < g ∧ nb < b ∧ nb < wb := by omega
  obtain ⟨s, hs⟩ : ∃ s : Nat, (s : Int) = 1 + lv % n := ⟨(1 + lv % n).toNat, by have := Int.emod_nonneg lv (show (n : Int) ≠ 0 by omega); omega⟩
  have hs1 : 1 ≤ s ∧ s ≤ n := by have := Int.emod_nonneg lv (show (n : Int) ≠ 0 by omega); have := Int.emod_lt_of_pos lv (show (0 : Int) < n by omega); omega
  have hm0 := Int.emod_nonneg lv (show (n : Int) ≠ 0 by omega)
  refine Jn_fn (σ := Unit) (fun _ => [ptr h.size, ptr rb, ptr nb, ptr g, ptr wb, ptr ib]) (fun _ h' => Fr [] h h' ∧ QS h' g b n m ∧ Blk h' h.size [.int .u8 lv] ∧ Blk h' rb [.bool false] ∧ Blk h' nb [Iv n] ∧ Blk h' wb [u9] ∧ Own h' u9 (Iw m.row) bs9 ∧ Blk h' ib [Iv s]) ?_ ?_
  · intro J hJ
    try simp (disch := first | assumption | omega | (apply At.mk; with_unfolding_all rfl)) only [↓go_eq, ↓ent_eq, Mv, NilC_at, Fld_at, add_mk, Nat.zero_add, Nat.add_zero, Add64, Sub64, Mul64, Quo64, Rem64, Neg64, Cvt64, CvtU8, CvtU16, CvtU32, CvtU64, AddU64, SubU64, MulU64, Shr64, Shr_u8, Shr_u16, Shr_u32, Shr_u64, And1, And31, Eql64, Neq64, Bin_lss, Bin_leq, Bin_gtr, Bin_geq, Bin_bool_eql, Bin_bool_neq, Bin_ptr_nil_eql, Bin_ptr_nil_neq, Not_dec, Un_not, Pick_t, Pick_f, Pick_pos, Pick_neg, Gd_tt, Gd_tf, Gd_ft, Gd_ff, Gd_pos_t, Gd_neg_t, Gd_pos_f, Gd_neg_f, Gd_undef, If_t, If_f, If_pos, If_neg, CallF_eq, Max_two, Min_two, Len_rd, Len_own, Ld_blkE, Idx_rdN, Idx_ownN, Idx_rdE, Idx_ownE, IdxAE, Idx_at0, Ext_atE, Len_at, Int.toNat_natCast, Int.toNat_zero, Int.toNat_one, List.length_map, List.length_append, List.length_cons, List.length_nil, List.length_take, List.length_set, List.length_replicate, Bool.not_true, Bool.not_false, decide_true, decide_false, not_true_eq_false, not_false_eq_true, app]
    refine vmtf_Queue_All.spec fun c h12 bc f12 hc => ?_
    try simp (disch := first | assumption | omega | (apply At.mk; with_unfolding_all rfl)) only [↓go_eq, ↓ent_eq, Mv, NilC_at, Fld_at, add_mk, Nat.zero_add, Nat.add_zero, Add64, Sub64, Mul64, Quo64, Rem64, Neg64, Cvt64, CvtU8, CvtU16, CvtU32, CvtU64, AddU64, SubU64, MulU64, Shr64, Shr_u8, Shr_u16, Shr_u32, Shr_u64, And1, And31, Eql64, Neq64, Bin_lss, Bin_leq, Bin_gtr, Bin_geq, Bin_bool_eql, Bin_bool_neq, Bin_ptr_nil_eql, Bin_ptr_nil_neq, Not_dec, Un_not, Pick_t, Pick_f, Pick_pos, Pick_neg, Gd_tt, Gd_tf, Gd_ft, Gd_ff, Gd_pos_t, Gd_neg_t, Gd_pos_f, Gd_neg_f, Gd_undef, If_t, If_f, If_pos, If_neg, CallF_eq, Max_two, Min_two, Len_rd, Len_own, Ld_blkE, Idx_rdN, Idx_ownN, Idx_rdE, Idx_ownE, IdxAE, Idx_at0, Ext_atE, Len_at, Int.toNat_natCast, Int.toNat_zero, Int.toNat_one, List.length_map, List.length_append, List.length_cons, List.length_nil, List.length_take, List.length_set, List.length_replicate, Bool.not_true, Bool.not_false, decide_true, decide_false, not_true_eq_false, not_false_eq_true, app]
    refine Rng_rule (by kernel_rfl) (vmtf_All_seq (g := g) (b := b) (n := n) (m := m))
      (fun i h' => (Blk h' c [ptr g] ∧ QS h' g b n m) ∧ Fr [] h h' ∧ Blk h' h.size [.int .u8 lv] ∧ Blk h' rb [.bool false] ∧ Blk h' nb [Iv n] ∧ Blk h' wb [u9] ∧ Own h' u9 (Iw m.row) bs9 ∧ Blk h' ib [Iv (i : Nat)] ∧ i < s)
      (fun ex h' => ex = .exit 2 ∧ QS h' g b n m ∧ Fr [] h h' ∧ Blk h' h.size [.int .u8 lv] ∧ Blk h' rb [.bool false] ∧ Blk h' nb [Iv n] ∧ Blk h' wb [u9] ∧ Own h' u9 (Iw m.row) bs9 ∧ Blk h' ib [Iv s]) ?_ ?_ ?_ ?_ ?_ ?_ ?_
    · rintro i h' ⟨x, _⟩; exact x
    · rintro i l h13 h14 hl o ⟨⟨y1, y2⟩, y3, y4, y5, y6, y7, y8, y9, y10⟩
      have := f12.size; have := f011.size
      exact ⟨⟨y1.one o, y2.one o⟩, y3.one o (by omega), y4.one o, y5.one o, y6.one o, y7.one o, y8.one o, y9.one o, y10⟩
    · rintro ex l h13 h14 hl o ⟨rfl, y2, y3, y4, y5, y6, y7, y8, y9⟩
      have := f12.size; have := f011.size
      exact ⟨rfl, y2.one o, y3.one o (by omega), y4.one o, y5.one o, y6.one o, y7.one o, y8.one o, y9.one o⟩
    · intro h13 f13
      have f := f12.trans f13
      exact ⟨⟨bc.fr f13 (by simp), q9.fr f (by simp)⟩, f011.trans f, x1.fr f (by simp), x2.fr f (by simp), x3.fr f (by simp), x4.fr f (by simp), o11.fr f (by simp), x5.fr f (by simp), by omega⟩
    · rintro i x h13 B N L hx hJ13 hB hN hL
      refine hB _ fun h14 => ?_
      rintro ⟨⟨y1, y2⟩, y3, y4, y5, y6, y7, y8, y9, y10⟩
      have hlt : i < m.row.length := by omega
      have hy : m.row[i]? = some m.row[i] := List.getElem?_eq_getElem _
      have ey : x = Iv (m.row[i] : Nat) := by rw [List.getElem?_map, hy] at hx; simpa using hx.symm
      subst ey
      have a1 := At.map (f := fun x : Nat => Iv (x : Nat)) hy
      try simp (disch := first | assumption | omega | (apply At.mk; with_unfolding_all rfl)) only [↓go_eq, ↓ent_eq, Mv, NilC_at, Fld_at, add_mk, Nat.zero_add, Nat.add_zero, Add64, Sub64, Mul64, Quo64, Rem64, Neg64, Cvt64, CvtU8, CvtU16, CvtU32, CvtU64, AddU64, SubU64, MulU64, Shr64, Shr_u8, Shr_u16, Shr_u32, Shr_u64, And1, And31, Eql64, Neq64, Bin_lss, Bin_leq, Bin_gtr, Bin_geq, Bin_bool_eql, Bin_bool_neq, Bin_ptr_nil_eql, Bin_ptr_nil_neq, Not_dec, Un_not, Pick_t, Pick_f, Pick_pos, Pick_neg, Gd_tt, Gd_tf, Gd_ft, Gd_ff, Gd_pos_t, Gd_neg_t, Gd_pos_f, Gd_neg_f, Gd_undef, If_t, If_f, If_pos, If_neg, CallF_eq, Max_two, Min_two, Len_rd, Len_own, Ld_blkE, Idx_rdN, Idx_ownN, Idx_rdE, Idx_ownE, IdxAE, Idx_at0, Ext_atE, Len_at, Int.toNat_natCast, Int.toNat_zero, Int.toNat_one, List.length_map, List.length_append, List.length_cons, List.length_nil, List.length_take, List.length_set, List.length_replicate, Bool.not_true, Bool.not_false, decide_true, decide_false, not_true_eq_false, not_false_eq_true, app]
      refine St_blk y9 (by simp) rfl fun h15 b15 f15 => ?_
      have o15 := y8.fr f15 (fun x hx => by have := zo x hx; simp; omega)
      have y1 := y1.fr f15 (by first | (simp; done) | (simp; omega) | omega)
      have y2 := y2.fr f15 (by first | (simp; done) | (simp; omega) | omega)
      have y4 := y4.fr f15 (by first | (simp; done) | (simp; omega) | omega)
      have y5 := y5.fr f15 (by first | (simp; done) | (simp; omega) | omega)
      have y6 := y6.fr f15 (by first | (simp; done) | (simp; omega) | omega)
      have y7 := y7.fr f15 (by first | (simp; done) | (simp; omega) | omega)
      have f15' := y3.trans' f15 (by first | (simp; done) | (simp; omega) | omega)
      have b15 : Blk h15 ib [Iv ((i : Int) + 1)] := b15
      by_cases c2 : i + 1 = s
      · try simp (disch := first | assumption | omega | (apply At.mk; with_unfolding_all rfl)) only [↓go_eq, ↓ent_eq, Mv, NilC_at, Fld_at, add_mk, Nat.zero_add, Nat.add_zero, Add64, Sub64, Mul64, Quo64, Rem64, Neg64, Cvt64, CvtU8, CvtU16, CvtU32, CvtU64, AddU64, SubU64, MulU64, Shr64, Shr_u8, Shr_u16, Shr_u32, Shr_u64, And1, And31, Eql64, Neq64, Bin_lss, Bin_leq, Bin_gtr, Bin_geq, Bin_bool_eql, Bin_bool_neq, Bin_ptr_nil_eql, Bin_ptr_nil_neq, Not_dec, Un_not, Pick_t, Pick_f, Pick_pos, Pick_neg, Gd_tt, Gd_tf, Gd_ft, Gd_ff, Gd_pos_t, Gd_neg_t, Gd_pos_f, Gd_neg_f, Gd_undef, If_t, If_f, If_pos, If_neg, CallF_eq, Max_two, Min_two, Len_rd, Len_own, Ld_blkE, Idx_rdN, Idx_ownN, Idx_rdE, Idx_ownE, IdxAE, Idx_at0, Ext_atE, Len_at, Int.toNat_natCast, Int.toNat_zero, Int.toNat_one, List.length_map, List.length_append, List.length_cons, List.length_nil, List.length_take, List.length_set, List.length_replicate, Bool.not_true, Bool.not_false, decide_true, decide_false, not_true_eq_false, not_false_eq_true, app]
        refine hL _ _ ⟨rfl, y2, f15', y4, y5, y6, y7, o15, ?_⟩
        rw [← c2]; exact b15
      · try simp (disch := first | assumption | omega | (apply At.mk; with_unfolding_all rfl)) only [↓go_eq, ↓ent_eq, Mv, NilC_at, Fld_at, add_mk, Nat.zero_add, Nat.add_zero, Add64, Sub64, Mul64, Quo64, Rem64, Neg64, Cvt64, CvtU8, CvtU16, CvtU32, CvtU64, AddU64, SubU64, MulU64, Shr64, Shr_u8, Shr_u16, Shr_u32, Shr_u64, And1, And31, Eql64, Neq64, Bin_lss, Bin_leq, Bin_gtr, Bin_geq, Bin_bool_eql, Bin_bool_neq, Bin_ptr_nil_eql, Bin_ptr_nil_neq, Not_dec, Un_not, Pick_t, Pick_f, Pick_pos, Pick_neg, Gd_tt, Gd_tf, Gd_ft, Gd_ff, Gd_pos_t, Gd_neg_t, Gd_pos_f, Gd_neg_f, Gd_undef, If_t, If_f, If_pos, If_neg, CallF_eq, Max_two, Min_two, Len_rd, Len_own, Ld_blkE, Idx_rdN, Idx_ownN, Idx_rdE, Idx_ownE, IdxAE, Idx_at0, Ext_atE, Len_at, Int.toNat_natCast, Int.toNat_zero, Int.toNat_one, List.length_map, List.length_append, List.length_cons, List.length_nil, List.length_take, List.length_set, List.length_replicate, Bool.not_true, Bool.not_false, decide_true, decide_false, not_true_eq_false, not_false_eq_true, app]
        exact hN _ ⟨⟨y1, y2⟩, f15', y4, y5, y6, y7, o15, b15, by omega⟩
    · rintro h13 ⟨_, _, _, _, _, _, _, _, y10⟩
      rw [List.length_map] at y10; omega
    · rintro ex h13 ⟨rfl, y2, y3, y4, y5, y6, y7, y8, y9⟩
      exact hJ () _ ⟨y3, y2, y4, y5, y6, y7, y8, y9⟩
  · rintro _ h12 ⟨y3, y2, y4, y5, y6, y7, y8, y9⟩
    try simp (disch := first | assumption | omega | (apply At.mk; with_unfolding_all rfl)) only [↓go_eq, ↓ent_eq, Mv, NilC_at, Fld_at, add_mk, Nat.zero_add, Nat.add_zero, Add64, Sub64, Mul64, Quo64, Rem64, Neg64, Cvt64, CvtU8, CvtU16, CvtU32, CvtU64, AddU64, SubU64, MulU64, Shr64, Shr_u8, Shr_u16, Shr_u32, Shr_u64, And1, And31, Eql64, Neq64, Bin_lss, Bin_leq, Bin_gtr, Bin_geq, Bin_bool_eql, Bin_bool_neq, Bin_ptr_nil_eql, Bin_ptr_nil_neq, Not_dec, Un_not, Pick_t, Pick_f, Pick_pos, Pick_neg, Gd_tt, Gd_tf, Gd_ft, Gd_ff, Gd_pos_t, Gd_neg_t, Gd_pos_f, Gd_neg_f, Gd_undef, If_t, If_f, If_pos, If_neg, CallF_eq, Max_two, Min_two, Len_rd, Len_own, Ld_blkE, Idx_rdN, Idx_ownN, Idx_rdE, Idx_ownE, IdxAE, Idx_at0, Ext_atE, Len_at, Int.toNat_natCast, Int.toNat_zero, Int.toNat_one, List.length_map, List.length_append, List.length_cons, List.length_nil, List.length_take, List.length_set, List.length_replicate, Bool.not_true, Bool.not_false, decide_true, decide_false, not_true_eq_false, not_false_eq_true, app]
    refine bradawllaw17_same.spec (by omega) (by omega) y2 y8.rd fun h13 f13 => ?_
    rw [decide_eq_true rfl]
    have y5 := y5.fr f13 (by simp)
    try simp (disch := first | assumption | omega | (apply At.mk; with_unfolding_all rfl)) only [↓go_eq, ↓ent_eq, Mv, NilC_at, Fld_at, add_mk, Nat.zero_add, Nat.add_zero, Add64, Sub64, Mul64, Quo64, Rem64, Neg64, Cvt64, CvtU8, CvtU16, CvtU32, CvtU64, AddU64, SubU64, MulU64, Shr64, Shr_u8, Shr_u16, Shr_u32, Shr_u64, And1, And31, Eql64, Neq64, Bin_lss, Bin_leq, Bin_gtr, Bin_geq, Bin_bool_eql, Bin_bool_neq, Bin_ptr_nil_eql, Bin_ptr_nil_neq, Not_dec, Un_not, Pick_t, Pick_f, Pick_pos, Pick_neg, Gd_tt, Gd_tf, Gd_ft, Gd_ff, Gd_pos_t, Gd_neg_t, Gd_pos_f, Gd_neg_f, Gd_undef, If_t, If_f, If_pos, If_neg, CallF_eq, Max_two, Min_two, Len_rd, Len_own, Ld_blkE, Idx_rdN, Idx_ownN, Idx_rdE, Idx_ownE, IdxAE, Idx_at0, Ext_atE, Len_at, Int.toNat_natCast, Int.toNat_zero, Int.toNat_one, List.length_map, List.length_append, List.length_cons, List.length_nil, List.length_take, List.length_set, List.length_replicate, Bool.not_true, Bool.not_false, decide_true, decide_false, not_true_eq_false, not_false_eq_true, app]
    exact fin1 y5 rfl (y3.trans f13) (by omega) hk
theorem bradawllaw17_VmtfLeaves.law {h : Heap} {a0 a2 : Int} {a1 : List Int} {v0 v1 v2 : Value} (r0 : (rInt .u8).is h a0 [v0]) (r1 : (rSlice (rInt .u8) 1).is h a1 [v1]) (r2 : (rInt .u8).is h a2 [v2]) :
    CallH Try.prog bradawllaw17_VmtfLeaves.id #[v0, v1, v2] (fun v h' => v = .bool true ∧ Fr [] h h') h := by
  obtain ⟨rfl, h1, h2⟩ := int_arg r0
  obtain ⟨rfl, h3, h4⟩ := int_arg r2
  exact bradawllaw17_VmtfLeaves.spec ⟨h1, h2⟩ ⟨h3, h4⟩ (rd_ints r1).1 (fun k hk => (rd_ints r1).2 k hk) fun h' f => ⟨rfl, f⟩
end Go.Proofs.Ytcmpdfjojeblmaa
