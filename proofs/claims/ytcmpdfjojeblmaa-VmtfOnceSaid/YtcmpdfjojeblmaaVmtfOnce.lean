/- The law VmtfOnce: each variable stands in the row just once, whatever is moved. No condition but that the arguments lie in memory as Go lays them. -/
import Derived.Test.YtcmpdfjojeblmaaVmtfLeaves
namespace Go.Proofs.Ytcmpdfjojeblmaa
open Go.Pt
set_option linter.unusedVariables false
set_option linter.unusedSimpArgs false
def bumps2 (n : Nat) (l : List Int) : Qm := l.foldl (fun m v => (m.bump n v).bump n v) (mNew n)
theorem bumps2_snoc (n : Nat) (l : List Int) (v : Int) : bumps2 n (l ++ [v]) = ((bumps2 n l).bump n v).bump n v := by simp [bumps2]
theorem bumps2_k (n : Nat) (l : List Int) : 0 ≤ (bumps2 n l).k ∧ (bumps2 n l).k ≤ 2 * l.length := by
  have : ∀ (l : List Int) (m : Qm), m.k ≤ (l.foldl (fun m v => (m.bump n v).bump n v) m).k ∧ (l.foldl (fun m v => (m.bump n v).bump n v) m).k ≤ m.k + 2 * l.length := by
    intro l
    induction l with
    | nil => intro m; simp
    | cons v l ih =>
      intro m
      have h1 := ih ((m.bump n v).bump n v)
      have h2 := bump_k n m v
      have h3 := bump_k n (m.bump n v) v
      simp only [List.foldl_cons, List.length_cons]; omega
  have := this l (mNew n)
  rw [bumps2]; simp only [mNew] at this ⊢; omega
theorem bump_row {n : Nat} {m m' : Qm} {v : Int} (e : m.row = m'.row) : (m.bump n v).row = (m'.bump n v).row := by
  unfold Qm.bump; split <;> simp [e]
theorem bump_twice (n : Nat) (m : Qm) (v : Int) : ((m.bump n v).bump n v).row = (m.bump n v).row := by
  unfold Qm.bump
  by_cases c : 1 ≤ v ∧ v ≤ n
  · simp [c, List.filter_filter]
  · simp [c]
theorem bumps2_row (n : Nat) (l : List Int) : (bumps2 n l).row = (bumps n l).row := by
  have : ∀ (l : List Int) (m m' : Qm), m.row = m'.row → (l.foldl (fun m v => (m.bump n v).bump n v) m).row = (l.foldl (fun m v => m.bump n v) m').row := by
    intro l
    induction l with
    | nil => intro m m' e; exact e
    | cons v l ih => intro m m' e; exact ih _ _ (by rw [bump_twice]; exact bump_row e)
  exact this l _ _ rfl
theorem bradawllaw17_VmtfOnce.spec {a : Int} {v : Value} {xs : List Int} (ha : 0 ≤ a ∧ a ≤ 255) {K : Ret} {h : Heap} (hv : Rd h v (xs.map (.int .u8))) (hxs : ∀ x ∈ xs, 0 ≤ x ∧ x ≤ 255) (hk : ∀ h', Fr [] h h' → K (.bool true) h') :
    CallH Try.prog bradawllaw17_VmtfOnce.id #[.int .u8 a, v] K h := by
  refine bradawllaw17_VmtfOnce.ok ?_
  simp only [bradawllaw17_VmtfOnce.pt]
  try simp (disch := first | assumption | omega | (apply At.mk; with_unfolding_all rfl)) only [↓go_eq, ↓ent_eq, Mv, NilC_at, Fld_at, add_mk, Nat.zero_add, Nat.add_zero, Add64, Sub64, Mul64, Quo64, Rem64, Neg64, Cvt64, CvtU8, CvtU16, CvtU32, CvtU64, AddU64, SubU64, MulU64, Shr64, Shr_u8, Shr_u16, Shr_u32, Shr_u64, And1, And31, Eql64, Neq64, Bin_lss, Bin_leq, Bin_gtr, Bin_geq, Bin_bool_eql, Bin_bool_neq, Bin_ptr_nil_eql, Bin_ptr_nil_neq, Not_dec, Un_not, Pick_t, Pick_f, Pick_pos, Pick_neg, Gd_tt, Gd_tf, Gd_ft, Gd_ff, Gd_pos_t, Gd_neg_t, Gd_pos_f, Gd_neg_f, Gd_undef, If_t, If_f, If_pos, If_neg, CallF_eq, Max_two, Min_two, Len_rd, Len_own, Ld_blkE, Idx_rdN, Idx_ownN, Idx_rdE, Idx_ownE, IdxAE, Idx_at0, Ext_atE, Len_at, Int.toNat_natCast, Int.toNat_zero, Int.toNat_one, List.length_map, List.length_append, List.length_cons, List.length_nil, List.length_take, List.length_set, List.length_replicate, Bool.not_true, Bool.not_false, decide_true, decide_false, not_true_eq_false, not_false_eq_true, app]
  refine New_blk fun h1 b1 f1 s1 => ?_
  try simp (disch := first | assumption | omega | (apply At.mk; with_unfolding_all rfl)) only [↓go_eq, ↓ent_eq, Mv, NilC_at, Fld_at, add_mk, Nat.zero_add, Nat.add_zero, Add64, Sub64, Mul64, Quo64, Rem64, Neg64, Cvt64, CvtU8, CvtU16, CvtU32, CvtU64, AddU64, SubU64, MulU64, Shr64, Shr_u8, Shr_u16, Shr_u32, Shr_u64, And1, And31, Eql64, Neq64, Bin_lss, Bin_leq, Bin_gtr, Bin_geq, Bin_bool_eql, Bin_bool_neq, Bin_ptr_nil_eql, Bin_ptr_nil_neq, Not_dec, Un_not, Pick_t, Pick_f, Pick_pos, Pick_neg, Gd_tt, Gd_tf, Gd_ft, Gd_ff, Gd_pos_t, Gd_neg_t, Gd_pos_f, Gd_neg_f, Gd_undef, If_t, If_f, If_pos, If_neg, CallF_eq, Max_two, Min_two, Len_rd, Len_own, Ld_blkE, Idx_rdN, Idx_ownN, Idx_rdE, Idx_ownE, IdxAE, Idx_at0, Ext_atE, Len_at, Int.toNat_natCast, Int.toNat_zero, Int.toNat_one, List.length_map, List.length_append, List.length_cons, List.length_nil, List.length_take, List.length_set, List.length_replicate, Bool.not_true, Bool.not_false, decide_true, decide_false, not_true_eq_false, not_false_eq_true, app]
  refine bradawllaw17_fit.spec fun h2 f2 => ?_
  have x1 : Blk h2 h.size [.bool false] := b1.fr f2 (by simp)
  have f02 := f1.trans f2
  have hv2 := hv.fr f02
  have sz_f1 := f1.size
  have sz_f2 := f2.size
  try simp (disch := first | assumption | omega | (apply At.mk; with_unfolding_all rfl)) only [↓go_eq, ↓ent_eq, Mv, NilC_at, Fld_at, add_mk, Nat.zero_add, Nat.add_zero, Add64, Sub64, Mul64, Quo64, Rem64, Neg64, Cvt64, CvtU8, CvtU16, CvtU32, CvtU64, AddU64, SubU64, MulU64, Shr64, Shr_u8, Shr_u16, Shr_u32, Shr_u64, And1, And31, Eql64, Neq64, Bin_lss, Bin_leq, Bin_gtr, Bin_geq, Bin_bool_eql, Bin_bool_neq, Bin_ptr_nil_eql, Bin_ptr_nil_neq, Not_dec, Un_not, Pick_t, Pick_f, Pick_pos, Pick_neg, Gd_tt, Gd_tf, Gd_ft, Gd_ff, Gd_pos_t, Gd_neg_t, Gd_pos_f, Gd_neg_f, Gd_undef, If_t, If_f, If_pos, If_neg, CallF_eq, Max_two, Min_two, Len_rd, Len_own, Ld_blkE, Idx_rdN, Idx_ownN, Idx_rdE, Idx_ownE, IdxAE, Idx_at0, Ext_atE, Len_at, Int.toNat_natCast, Int.toNat_zero, Int.toNat_one, List.length_map, List.length_append, List.length_cons, List.length_nil, List.length_take, List.length_set, List.length_replicate, Bool.not_true, Bool.not_false, decide_true, decide_false, not_true_eq_false, not_false_eq_true, app]
  by_cases c0 : (xs.length : Int) > 100
  · try simp (disch := first | assumption | omega | (apply At.mk; with_unfolding_all rfl)) only [↓go_eq, ↓ent_eq, Mv, NilC_at, Fld_at, add_mk, Nat.zero_add, Nat.add_zero, Add64, Sub64, Mul64, Quo64, Rem64, Neg64, Cvt64, CvtU8, CvtU16, CvtU32, CvtU64, AddU64, SubU64, MulU64, Shr64, Shr_u8, Shr_u16, Shr_u32, Shr_u64, And1, And31, Eql64, Neq64, Bin_lss, Bin_leq, Bin_gtr, Bin_geq, Bin_bool_eql, Bin_bool_neq, Bin_ptr_nil_eql, Bin_ptr_nil_neq, Not_dec, Un_not, Pick_t, Pick_f, Pick_pos, Pick_neg, Gd_tt, Gd_tf, Gd_ft, Gd_ff, Gd_pos_t, Gd_neg_t, Gd_pos_f, Gd_neg_f, Gd_undef, If_t, If_f, If_pos, If_neg, CallF_eq, Max_two, Min_two, Len_rd, Len_own, Ld_blkE, Idx_rdN, Idx_ownN, Idx_rdE, Idx_ownE, IdxAE, Idx_at0, Ext_atE, Len_at, Int.toNat_natCast, Int.toNat_zero, Int.toNat_one, List.length_map, List.length_append, List.length_cons, List.length_nil, List.length_take, List.length_set, List.length_replicate, Bool.not_true, Bool.not_false, decide_true, decide_false, not_true_eq_false, not_false_eq_true, app]
    exact fin1 x1 rfl f02 (by omega) hk
  obtain ⟨n, hn⟩ : ∃ n : Nat, (n : Int) = a % 20 := ⟨(a % 20).toNat, by omega⟩
  try simp (disch := first | assumption | omega | (apply At.mk; with_unfolding_all rfl)) only [↓go_eq, ↓ent_eq, Mv, NilC_at, Fld_at, add_mk, Nat.zero_add, Nat.add_zero, Add64, Sub64, Mul64, Quo64, Rem64, Neg64, Cvt64, CvtU8, CvtU16, CvtU32, CvtU64, AddU64, SubU64, MulU64, Shr64, Shr_u8, Shr_u16, Shr_u32, Shr_u64, And1, And31, Eql64, Neq64, Bin_lss, Bin_leq, Bin_gtr, Bin_geq, Bin_bool_eql, Bin_bool_neq, Bin_ptr_nil_eql, Bin_ptr_nil_neq, Not_dec, Un_not, Pick_t, Pick_f, Pick_pos, Pick_neg, Gd_tt, Gd_tf, Gd_ft, Gd_ff, Gd_pos_t, Gd_neg_t, Gd_pos_f, Gd_neg_f, Gd_undef, If_t, If_f, If_pos, If_neg, CallF_eq, Max_two, Min_two, Len_rd, Len_own, Ld_blkE, Idx_rdN, Idx_ownN, Idx_rdE, Idx_ownE, IdxAE, Idx_at0, Ext_atE, Len_at, Int.toNat_natCast, Int.toNat_zero, Int.toNat_one, List.length_map, List.length_append, List.length_cons, List.length_nil, List.length_take, List.length_set, List.length_replicate, Bool.not_true, Bool.not_false, decide_true, decide_false, not_true_eq_false, not_false_eq_true, app]
  rw [← hn]
  refine New_blk fun h3 b3 f3 s3 => ?_
  try simp (disch := first | assumption | omega | (apply At.mk; with_unfolding_all rfl)) only [↓go_eq, ↓ent_eq, Mv, NilC_at, Fld_at, add_mk, Nat.zero_add, Nat.add_zero, Add64, Sub64, Mul64, Quo64, Rem64, Neg64, Cvt64, CvtU8, CvtU16, CvtU32, CvtU64, AddU64, SubU64, MulU64, Shr64, Shr_u8, Shr_u16, Shr_u32, Shr_u64, And1, And31, Eql64, Neq64, Bin_lss, Bin_leq, Bin_gtr, Bin_geq, Bin_bool_eql, Bin_bool_neq, Bin_ptr_nil_eql, Bin_ptr_nil_neq, Not_dec, Un_not, Pick_t, Pick_f, Pick_pos, Pick_neg, Gd_tt, Gd_tf, Gd_ft, Gd_ff, Gd_pos_t, Gd_neg_t, Gd_pos_f, Gd_neg_f, Gd_undef, If_t, If_f, If_pos, If_neg, CallF_eq, Max_two, Min_two, Len_rd, Len_own, Ld_blkE, Idx_rdN, Idx_ownN, Idx_rdE, Idx_ownE, IdxAE, Idx_at0, Ext_atE, Len_at, Int.toNat_natCast, Int.toNat_zero, Int.toNat_one, List.length_map, List.length_append, List.length_cons, List.length_nil, List.length_take, List.length_set, List.length_replicate, Bool.not_true, Bool.not_false, decide_true, decide_false, not_true_eq_false, not_false_eq_true, app]
  refine St_blk b3 (by simp) rfl fun h4 b4 f4 => ?_
  obtain ⟨nb, hnb⟩ : ∃ nb, nb = h2.size := ⟨_, rfl⟩
  rw [← hnb] at b4 f4 ⊢
  have x2 : Blk h4 nb [Iv n] := b4
  have x1 := x1.fr f3 (by first | (simp; done) | (simp; omega) | omega)
  have x1 := x1.fr f4 (by first | (simp; done) | (simp; omega) | omega)
  have f04 : Fr [] h h4 := (f02.trans f3).trans' f4 (by first | (simp; done) | (simp; omega) | omega)
  have sz_f3 := f3.size
  have sz_f4 := f4.size
  have l2 := x2.lt
  try simp (disch := first | assumption | omega | (apply At.mk; with_unfolding_all rfl)) only [↓go_eq, ↓ent_eq, Mv, NilC_at, Fld_at, add_mk, Nat.zero_add, Nat.add_zero, Add64, Sub64, Mul64, Quo64, Rem64, Neg64, Cvt64, CvtU8, CvtU16, CvtU32, CvtU64, AddU64, SubU64, MulU64, Shr64, Shr_u8, Shr_u16, Shr_u32, Shr_u64, And1, And31, Eql64, Neq64, Bin_lss, Bin_leq, Bin_gtr, Bin_geq, Bin_bool_eql, Bin_bool_neq, Bin_ptr_nil_eql, Bin_ptr_nil_neq, Not_dec, Un_not, Pick_t, Pick_f, Pick_pos, Pick_neg, Gd_tt, Gd_tf, Gd_ft, Gd_ff, Gd_pos_t, Gd_neg_t, Gd_pos_f, Gd_neg_f, Gd_undef, If_t, If_f, If_pos, If_neg, CallF_eq, Max_two, Min_two, Len_rd, Len_own, Ld_blkE, Idx_rdN, Idx_ownN, Idx_rdE, Idx_ownE, IdxAE, Idx_at0, Ext_atE, Len_at, Int.toNat_natCast, Int.toNat_zero, Int.toNat_one, List.length_map, List.length_append, List.length_cons, List.length_nil, List.length_take, List.length_set, List.length_replicate, Bool.not_true, Bool.not_false, decide_true, decide_false, not_true_eq_false, not_false_eq_true, app]
  refine bradawllaw17_begin.spec (by omega) fun g b u bs h5 q5 o5 zg zb zbs f5 => ?_
  have x1 := x1.fr f5 (by first | (simp; done) | (simp; omega) | omega)
  have x2 := x2.fr f5 (by first | (simp; done) | (simp; omega) | omega)
  have k5 := q5.k_lt
  try simp (disch := first | assumption | omega | (apply At.mk; with_unfolding_all rfl)) only [↓go_eq, ↓ent_eq, Mv, NilC_at, Fld_at, add_mk, Nat.zero_add, Nat.add_zero, Add64, Sub64, Mul64, Quo64, Rem64, Neg64, Cvt64, CvtU8, CvtU16, CvtU32, CvtU64, AddU64, SubU64, MulU64, Shr64, Shr_u8, Shr_u16, Shr_u32, Shr_u64, And1, And31, Eql64, Neq64, Bin_lss, Bin_leq, Bin_gtr, Bin_geq, Bin_bool_eql, Bin_bool_neq, Bin_ptr_nil_eql, Bin_ptr_nil_neq, Not_dec, Un_not, Pick_t, Pick_f, Pick_pos, Pick_neg, Gd_tt, Gd_tf, Gd_ft, Gd_ff, Gd_pos_t, Gd_neg_t, Gd_pos_f, Gd_neg_f, Gd_undef, If_t, If_f, If_pos, If_neg, CallF_eq, Max_two, Min_two, Len_rd, Len_own, Ld_blkE, Idx_rdN, Idx_ownN, Idx_rdE, Idx_ownE, IdxAE, Idx_at0, Ext_atE, Len_at, Int.toNat_natCast, Int.toNat_zero, Int.toNat_one, List.length_map, List.length_append, List.length_cons, List.length_nil, List.length_take, List.length_set, List.length_replicate, Bool.not_true, Bool.not_false, decide_true, decide_false, not_true_eq_false, not_false_eq_true, app]
  refine bradawllaw17_begin.spec (by omega) fun g2 b2 u2 bs2 h6 p6 o6 zg2 zb2 zbs2 f6 => ?_
  have x1 := x1.fr f6 (by first | (simp; done) | (simp; omega) | omega)
  have x2 := x2.fr f6 (by first | (simp; done) | (simp; omega) | omega)
  have q5 := q5.fr f6 (by first | (simp; done) | (simp; omega) | omega)
  have k6 := p6.k_lt
  have f06 : Fr [] h h6 := (f04.trans f5).trans f6
  have hv6 := hv.fr f06
  have hord : h.size < nb ∧ nb < g ∧ nb < b ∧ g < g2 ∧ g < b2 ∧ b < g2 ∧ b < b2 := by omega
  have hp0 : QS h6 g2 b2 n (bumps2 n (xs.take 0)) := p6
  try simp (disch := first | assumption | omega | (apply At.mk; with_unfolding_all rfl)) only [↓go_eq, ↓ent_eq, Mv, NilC_at, Fld_at, add_mk, Nat.zero_add, Nat.add_zero, Add64, Sub64, Mul64, Quo64, Rem64, Neg64, Cvt64, CvtU8, CvtU16, CvtU32, CvtU64, AddU64, SubU64, MulU64, Shr64, Shr_u8, Shr_u16, Shr_u32, Shr_u64, And1, And31, Eql64, Neq64, Bin_lss, Bin_leq, Bin_gtr, Bin_geq, Bin_bool_eql, Bin_bool_neq, Bin_ptr_nil_eql, Bin_ptr_nil_neq, Not_dec, Un_not, Pick_t, Pick_f, Pick_pos, Pick_neg, Gd_tt, Gd_tf, Gd_ft, Gd_ff, Gd_pos_t, Gd_neg_t, Gd_pos_f, Gd_neg_f, Gd_undef, If_t, If_f, If_pos, If_neg, CallF_eq, Max_two, Min_two, Len_rd, Len_own, Ld_blkE, Idx_rdN, Idx_ownN, Idx_rdE, Idx_ownE, IdxAE, Idx_at0, Ext_atE, Len_at, Int.toNat_natCast, Int.toNat_zero, Int.toNat_one, List.length_map, List.length_append, List.length_cons, List.length_nil, List.length_take, List.length_set, List.length_replicate, Bool.not_true, Bool.not_false, decide_true, decide_false, not_true_eq_false, not_false_eq_true, app]
  refine Lp_fn (σ := Nat) (fun i => [ptr h.size, ptr nb, ptr g, ptr g2, v, Iv (xs.length : Nat), Iv (i : Int)])
    (fun i h' => i ≤ xs.length ∧ Fr [] h h' ∧ QS h' g b n (bumps n (xs.take i)) ∧ QS h' g2 b2 n (bumps2 n (xs.take i)) ∧ Blk h' h.size [.bool false] ∧ Blk h' nb [Iv n])
    (fun i => xs.length - i) 0 rfl (fun _ => rfl) ⟨Nat.zero_le _, f06, q5, hp0, x1, x2⟩ ?_
  rintro i h7 ⟨hi, f7, q7, p7, x1, x2⟩ X hX
  have hv7 := hv.fr f7
  by_cases c1 : (i : Int) < (xs.length : Nat)
  · have hg1 : xs[i]? = some xs[i] := List.getElem?_eq_getElem (by omega)
    have a1 := At.map (f := Value.int .u8) hg1
    have r1 := hxs _ (List.mem_of_getElem? hg1)
    have hkk := bumps_k n (xs.take i)
    have hkk2 := bumps2_k n (xs.take i)
    rw [List.length_take] at hkk hkk2
    try simp (disch := first | assumption | omega | (apply At.mk; with_unfolding_all rfl)) only [↓go_eq, ↓ent_eq, Mv, NilC_at, Fld_at, add_mk, Nat.zero_add, Nat.add_zero, Add64, Sub64, Mul64, Quo64, Rem64, Neg64, Cvt64, CvtU8, CvtU16, CvtU32, CvtU64, AddU64, SubU64, MulU64, Shr64, Shr_u8, Shr_u16, Shr_u32, Shr_u64, And1, And31, Eql64, Neq64, Bin_lss, Bin_leq, Bin_gtr, Bin_geq, Bin_bool_eql, Bin_bool_neq, Bin_ptr_nil_eql, Bin_ptr_nil_neq, Not_dec, Un_not, Pick_t, Pick_f, Pick_pos, Pick_neg, Gd_tt, Gd_tf, Gd_ft, Gd_ff, Gd_pos_t, Gd_neg_t, Gd_pos_f, Gd_neg_f, Gd_undef, If_t, If_f, If_pos, If_neg, CallF_eq, Max_two, Min_two, Len_rd, Len_own, Ld_blkE, Idx_rdN, Idx_ownN, Idx_rdE, Idx_ownE, IdxAE, Idx_at0, Ext_atE, Len_at, Int.toNat_natCast, Int.toNat_zero, Int.toNat_one, List.length_map, List.length_append, List.length_cons, List.length_nil, List.length_take, List.length_set, List.length_replicate, Bool.not_true, Bool.not_false, decide_true, decide_false, not_true_eq_false, not_false_eq_true, app]
    refine vmtf_Queue_Bump.spec (by omega) (by omega) q7 fun h8 q8 f8 => ?_
    have p7 := p7.fr f8 (by first | (simp; done) | (simp; omega) | omega)
    have x1 := x1.fr f8 (by first | (simp; done) | (simp; omega) | omega)
    have x2 := x2.fr f8 (by first | (simp; done) | (simp; omega) | omega)
    try simp (disch := first | assumption | omega | (apply At.mk; with_unfolding_all rfl)) only [↓go_eq, ↓ent_eq, Mv, NilC_at, Fld_at, add_mk, Nat.zero_add, Nat.add_zero, Add64, Sub64, Mul64, Quo64, Rem64, Neg64, Cvt64, CvtU8, CvtU16, CvtU32, CvtU64, AddU64, SubU64, MulU64, Shr64, Shr_u8, Shr_u16, Shr_u32, Shr_u64, And1, And31, Eql64, Neq64, Bin_lss, Bin_leq, Bin_gtr, Bin_geq, Bin_bool_eql, Bin_bool_neq, Bin_ptr_nil_eql, Bin_ptr_nil_neq, Not_dec, Un_not, Pick_t, Pick_f, Pick_pos, Pick_neg, Gd_tt, Gd_tf, Gd_ft, Gd_ff, Gd_pos_t, Gd_neg_t, Gd_pos_f, Gd_neg_f, Gd_undef, If_t, If_f, If_pos, If_neg, CallF_eq, Max_two, Min_two, Len_rd, Len_own, Ld_blkE, Idx_rdN, Idx_ownN, Idx_rdE, Idx_ownE, IdxAE, Idx_at0, Ext_atE, Len_at, Int.toNat_natCast, Int.toNat_zero, Int.toNat_one, List.length_map, List.length_append, List.length_cons, List.length_nil, List.length_take, List.length_set, List.length_replicate, Bool.not_true, Bool.not_false, decide_true, decide_false, not_true_eq_false, not_false_eq_true, app]
    refine vmtf_Queue_Bump.spec (by omega) (by omega) p7 fun h9 p9 f9 => ?_
    have q8 := q8.fr f9 (by first | (simp; done) | (simp; omega) | omega)
    have x1 := x1.fr f9 (by first | (simp; done) | (simp; omega) | omega)
    have x2 := x2.fr f9 (by first | (simp; done) | (simp; omega) | omega)
    have hk3 := bump_k n (bumps2 n (xs.take i)) xs[i]
    try simp (disch := first | assumption | omega | (apply At.mk; with_unfolding_all rfl)) only [↓go_eq, ↓ent_eq, Mv, NilC_at, Fld_at, add_mk, Nat.zero_add, Nat.add_zero, Add64, Sub64, Mul64, Quo64, Rem64, Neg64, Cvt64, CvtU8, CvtU16, CvtU32, CvtU64, AddU64, SubU64, MulU64, Shr64, Shr_u8, Shr_u16, Shr_u32, Shr_u64, And1, And31, Eql64, Neq64, Bin_lss, Bin_leq, Bin_gtr, Bin_geq, Bin_bool_eql, Bin_bool_neq, Bin_ptr_nil_eql, Bin_ptr_nil_neq, Not_dec, Un_not, Pick_t, Pick_f, Pick_pos, Pick_neg, Gd_tt, Gd_tf, Gd_ft, Gd_ff, Gd_pos_t, Gd_neg_t, Gd_pos_f, Gd_neg_f, Gd_undef, If_t, If_f, If_pos, If_neg, CallF_eq, Max_two, Min_two, Len_rd, Len_own, Ld_blkE, Idx_rdN, Idx_ownN, Idx_rdE, Idx_ownE, IdxAE, Idx_at0, Ext_atE, Len_at, Int.toNat_natCast, Int.toNat_zero, Int.toNat_one, List.length_map, List.length_append, List.length_cons, List.length_nil, List.length_take, List.length_set, List.length_replicate, Bool.not_true, Bool.not_false, decide_true, decide_false, not_true_eq_false, not_false_eq_true, app]
    refine vmtf_Queue_Bump.spec (by omega) (by omega) p9 fun h10 p10 f10 => ?_
    have q8 := q8.fr f10 (by first | (simp; done) | (simp; omega) | omega)
    have x1 := x1.fr f10 (by first | (simp; done) | (simp; omega) | omega)
    have x2 := x2.fr f10 (by first | (simp; done) | (simp; omega) | omega)
    rw [← bumps_snoc, ← take_snoc hg1] at q8
    rw [← bumps2_snoc, ← take_snoc hg1] at p10
    try simp (disch := first | assumption | omega | (apply At.mk; with_unfolding_all rfl)) only [↓go_eq, ↓ent_eq, Mv, NilC_at, Fld_at, add_mk, Nat.zero_add, Nat.add_zero, Add64, Sub64, Mul64, Quo64, Rem64, Neg64, Cvt64, CvtU8, CvtU16, CvtU32, CvtU64, AddU64, SubU64, MulU64, Shr64, Shr_u8, Shr_u16, Shr_u32, Shr_u64, And1, And31, Eql64, Neq64, Bin_lss, Bin_leq, Bin_gtr, Bin_geq, Bin_bool_eql, Bin_bool_neq, Bin_ptr_nil_eql, Bin_ptr_nil_neq, Not_dec, Un_not, Pick_t, Pick_f, Pick_pos, Pick_neg, Gd_tt, Gd_tf, Gd_ft, Gd_ff, Gd_pos_t, Gd_neg_t, Gd_pos_f, Gd_neg_f, Gd_undef, If_t, If_f, If_pos, If_neg, CallF_eq, Max_two, Min_two, Len_rd, Len_own, Ld_blkE, Idx_rdN, Idx_ownN, Idx_rdE, Idx_ownE, IdxAE, Idx_at0, Ext_atE, Len_at, Int.toNat_natCast, Int.toNat_zero, Int.toNat_one, List.length_map, List.length_append, List.length_cons, List.length_nil, List.length_take, List.length_set, List.length_replicate, Bool.not_true, Bool.not_false, decide_true, decide_false, not_true_eq_false, not_false_eq_true, app]
    exact hX (i + 1) h10 ⟨by omega, ((f7.trans' f8 (by first | (simp; done) | (simp; omega) | omega)).trans' f9 (by first | (simp; done) | (simp; omega) | omega)).trans' f10 (by first | (simp; done) | (simp; omega) | omega), q8, p10, x1, x2⟩ (by omega)
  obtain rfl : i = xs.length := by omega
  rw [List.take_length] at q7 p7
  have hrow := bumps2_row n xs
  generalize bumps n xs = m at *
  generalize bumps2 n xs = m2 at *
  try simp (disch := first | assumption | omega | (apply At.mk; with_unfolding_all rfl)) only [↓go_eq, ↓ent_eq, Mv, NilC_at, Fld_at, add_mk, Nat.zero_add, Nat.add_zero, Add64, Sub64, Mul64, Quo64, Rem64, Neg64, Cvt64, CvtU8, CvtU16, CvtU32, CvtU64, AddU64, SubU64, MulU64, Shr64, Shr_u8, Shr_u16, Shr_u32, Shr_u64, And1, And31, Eql64, Neq64, Bin_lss, Bin_leq, Bin_gtr, Bin_geq, Bin_bool_eql, Bin_bool_neq, Bin_ptr_nil_eql, Bin_ptr_nil_neq, Not_dec, Un_not, Pick_t, Pick_f, Pick_pos, Pick_neg, Gd_tt, Gd_tf, Gd_ft, Gd_ff, Gd_pos_t, Gd_neg_t, Gd_pos_f, Gd_neg_f, Gd_undef, If_t, If_f, If_pos, If_neg, CallF_eq, Max_two, Min_two, Len_rd, Len_own, Ld_blkE, Idx_rdN, Idx_ownN, Idx_rdE, Idx_ownE, IdxAE, Idx_at0, Ext_atE, Len_at, Int.toNat_natCast, Int.toNat_zero, Int.toNat_one, List.length_map, List.length_append, List.length_cons, List.length_nil, List.length_take, List.length_set, List.length_replicate, Bool.not_true, Bool.not_false, decide_true, decide_false, not_true_eq_false, not_false_eq_true, app]
  refine New_blk fun h8 b8 f8 s8 => ?_
  try simp (disch := first | assumption | omega | (apply At.mk; with_unfolding_all rfl)) only [↓go_eq, ↓ent_eq, Mv, NilC_at, Fld_at, add_mk, Nat.zero_add, Nat.add_zero, Add64, Sub64, Mul64, Quo64, Rem64, Neg64, Cvt64, CvtU8, CvtU16, CvtU32, CvtU64, AddU64, SubU64, MulU64, Shr64, Shr_u8, Shr_u16, Shr_u32, Shr_u64, And1, And31, Eql64, Neq64, Bin_lss, Bin_leq, Bin_gtr, Bin_geq, Bin_bool_eql, Bin_bool_neq, Bin_ptr_nil_eql, Bin_ptr_nil_neq, Not_dec, Un_not, Pick_t, Pick_f, Pick_pos, Pick_neg, Gd_tt, Gd_tf, Gd_ft, Gd_ff, Gd_pos_t, Gd_neg_t, Gd_pos_f, Gd_neg_f, Gd_undef, If_t, If_f, If_pos, If_neg, CallF_eq, Max_two, Min_two, Len_rd, Len_own, Ld_blkE, Idx_rdN, Idx_ownN, Idx_rdE, Idx_ownE, IdxAE, Idx_at0, Ext_atE, Len_at, Int.toNat_natCast, Int.toNat_zero, Int.toNat_one, List.length_map, List.length_append, List.length_cons, List.length_nil, List.length_take, List.length_set, List.length_replicate, Bool.not_true, Bool.not_false, decide_true, decide_false, not_true_eq_false, not_false_eq_true, app]
  refine MkM_map (k := .i64) fun h9 m9 f9 s9 => ?_
  try simp (disch := first | assumption | omega | (apply At.mk; with_unfolding_all rfl)) only [↓go_eq, ↓ent_eq, Mv, NilC_at, Fld_at, add_mk, Nat.zero_add, Nat.add_zero, Add64, Sub64, Mul64, Quo64, Rem64, Neg64, Cvt64, CvtU8, CvtU16, CvtU32, CvtU64, AddU64, SubU64, MulU64, Shr64, Shr_u8, Shr_u16, Shr_u32, Shr_u64, And1, And31, Eql64, Neq64, Bin_lss, Bin_leq, Bin_gtr, Bin_geq, Bin_bool_eql, Bin_bool_neq, Bin_ptr_nil_eql, Bin_ptr_nil_neq, Not_dec, Un_not, Pick_t, Pick_f, Pick_pos, Pick_neg, Gd_tt, Gd_tf, Gd_ft, Gd_ff, Gd_pos_t, Gd_neg_t, Gd_pos_f, Gd_neg_f, Gd_undef, If_t, If_f, If_pos, If_neg, CallF_eq, Max_two, Min_two, Len_rd, Len_own, Ld_blkE, Idx_rdN, Idx_ownN, Idx_rdE, Idx_ownE, IdxAE, Idx_at0, Ext_atE, Len_at, Int.toNat_natCast, Int.toNat_zero, Int.toNat_one, List.length_map, List.length_append, List.length_cons, List.length_nil, List.length_take, List.length_set, List.length_replicate, Bool.not_true, Bool.not_false, decide_true, decide_false, not_true_eq_false, not_false_eq_true, app]
  refine New_blk fun h10 b10 f10 s10 => ?_
  try simp (disch := first | assumption | omega | (apply At.mk; with_unfolding_all rfl)) only [↓go_eq, ↓ent_eq, Mv, NilC_at, Fld_at, add_mk, Nat.zero_add, Nat.add_zero, Add64, Sub64, Mul64, Quo64, Rem64, Neg64, Cvt64, CvtU8, CvtU16, CvtU32, CvtU64, AddU64, SubU64, MulU64, Shr64, Shr_u8, Shr_u16, Shr_u32, Shr_u64, And1, And31, Eql64, Neq64, Bin_lss, Bin_leq, Bin_gtr, Bin_geq, Bin_bool_eql, Bin_bool_neq, Bin_ptr_nil_eql, Bin_ptr_nil_neq, Not_dec, Un_not, Pick_t, Pick_f, Pick_pos, Pick_neg, Gd_tt, Gd_tf, Gd_ft, Gd_ff, Gd_pos_t, Gd_neg_t, Gd_pos_f, Gd_neg_f, Gd_undef, If_t, If_f, If_pos, If_neg, CallF_eq, Max_two, Min_two, Len_rd, Len_own, Ld_blkE, Idx_rdN, Idx_ownN, Idx_rdE, Idx_ownE, IdxAE, Idx_at0, Ext_atE, Len_at, Int.toNat_natCast, Int.toNat_zero, Int.toNat_one, List.length_map, List.length_append, List.length_cons, List.length_nil, List.length_take, List.length_set, List.length_replicate, Bool.not_true, Bool.not_false, decide_true, decide_false, not_true_eq_false, not_false_eq_true, app]
  refine St_blk b10 (by simp) rfl fun h11 b11 f11 => ?_
  have l7 := q7.k_lt
  have l8 := p7.k_lt
  have l9 := x1.lt
  have l10 := x2.lt
  obtain ⟨wb, hwb⟩ : ∃ wb, wb = h7.size := ⟨_, rfl⟩
  obtain ⟨mb, hmb⟩ : ∃ mb, mb = h8.size := ⟨_, rfl⟩
  obtain ⟨tb, htb⟩ : ∃ tb, tb = h9.size := ⟨_, rfl⟩
  rw [← htb] at b11 f11 ⊢
  rw [← hmb] at m9 b11
  rw [← hwb] at b8 ⊢
  have x3 : Blk h8 wb [.slice none 0 0] := b8
  have x4 : Blk h11 tb [.map (some mb)] := b11
  have q7 := q7.fr f8 (by first | (simp; done) | (simp; omega) | omega)
  have p7 := p7.fr f8 (by first | (simp; done) | (simp; omega) | omega)
  have x1 := x1.fr f8 (by first | (simp; done) | (simp; omega) | omega)
  have x2 := x2.fr f8 (by first | (simp; done) | (simp; omega) | omega)
  have q7 := q7.fr f9 (by first | (simp; done) | (simp; omega) | omega)
  have p7 := p7.fr f9 (by first | (simp; done) | (simp; omega) | omega)
  have x1 := x1.fr f9 (by first | (simp; done) | (simp; omega) | omega)
  have x2 := x2.fr f9 (by first | (simp; done) | (simp; omega) | omega)
  have x3 := x3.fr f9 (by first | (simp; done) | (simp; omega) | omega)
  have q7 := q7.fr f10 (by first | (simp; done) | (simp; omega) | omega)
  have p7 := p7.fr f10 (by first | (simp; done) | (simp; omega) | omega)
  have x1 := x1.fr f10 (by first | (simp; done) | (simp; omega) | omega)
  have x2 := x2.fr f10 (by first | (simp; done) | (simp; omega) | omega)
  have x3 := x3.fr f10 (by first | (simp; done) | (simp; omega) | omega)
  have m9 := m9.fr f10 (by first | (simp; done) | (simp; omega) | omega)
  have q7 := q7.fr f11 (by first | (simp; done) | (simp; omega) | omega)
  have p7 := p7.fr f11 (by first | (simp; done) | (simp; omega) | omega)
  have x1 := x1.fr f11 (by first | (simp; done) | (simp; omega) | omega)
  have x2 := x2.fr f11 (by first | (simp; done) | (simp; omega) | omega)
  have x3 := x3.fr f11 (by first | (simp; done) | (simp; omega) | omega)
  have m9 := m9.fr f11 (by first | (simp; done) | (simp; omega) | omega)
  have f011 : Fr [] h h11 := ((f7.trans f8).trans (f9.trans f10)).trans' f11 (by first | (simp; done) | (simp; omega) | omega)
  have sz_f7 := f7.size
  have sz_f8 := f8.size
  have sz_f9 := f9.size
  have sz_f10 := f10.size
  have sz_f11 := f11.size
  have l11 := x4.lt
  have hlen := q7.len
  have hm1 : ∀ x ∈ m.row, 1 ≤ x ∧ x ≤ n := fun x hx => (q7.mem x).1 hx
  have hnd := q7.nd
  have hord2 : wb < mb ∧ mb < tb ∧ g < wb ∧ b < wb ∧ g2 < wb ∧ b2 < wb ∧ nb < wb ∧ tb < h11.size := by omega
  refine Jn_fn (σ := Unit) (fun _ => [ptr h.size, ptr nb, ptr g2, ptr wb]) (fun _ h' => Fr [] h h' ∧ QS h' g2 b2 n m2 ∧ Blk h' h.size [.bool false] ∧ Blk h' nb [Iv n] ∧ ∃ u bs, Blk h' wb [u] ∧ Own h' u (Iw m.row) bs) ?_ ?_
  · intro J hJ
    try simp (disch := first | assumption | omega | (apply At.mk; with_unfolding_all rfl)) only [↓go_eq, ↓ent_eq, Mv, NilC_at, Fld_at, add_mk, Nat.zero_add, Nat.add_zero, Add64, Sub64, Mul64, Quo64, Rem64, Neg64, Cvt64, CvtU8, CvtU16, CvtU32, CvtU64, AddU64, SubU64, MulU64, Shr64, Shr_u8, Shr_u16, Shr_u32, Shr_u64, And1, And31, Eql64, Neq64, Bin_lss, Bin_leq, Bin_gtr, Bin_geq, Bin_bool_eql, Bin_bool_neq, Bin_ptr_nil_eql, Bin_ptr_nil_neq, Not_dec, Un_not, Pick_t, Pick_f, Pick_pos, Pick_neg, Gd_tt, Gd_tf, Gd_ft, Gd_ff, Gd_pos_t, Gd_neg_t, Gd_pos_f, Gd_neg_f, Gd_undef, If_t, If_f, If_pos, If_neg, CallF_eq, Max_two, Min_two, Len_rd, Len_own, Ld_blkE, Idx_rdN, Idx_ownN, Idx_rdE, Idx_ownE, IdxAE, Idx_at0, Ext_atE, Len_at, Int.toNat_natCast, Int.toNat_zero, Int.toNat_one, List.length_map, List.length_append, List.length_cons, List.length_nil, List.length_take, List.length_set, List.length_replicate, Bool.not_true, Bool.not_false, decide_true, decide_false, not_true_eq_false, not_false_eq_true, app]
    refine vmtf_Queue_All.spec fun c h12 bc f12 hc => ?_
    try simp (disch := first | assumption | omega | (apply At.mk; with_unfolding_all rfl)) only [↓go_eq, ↓ent_eq, Mv, NilC_at, Fld_at, add_mk, Nat.zero_add, Nat.add_zero, Add64, Sub64, Mul64, Quo64, Rem64, Neg64, Cvt64, CvtU8, CvtU16, CvtU32, CvtU64, AddU64, SubU64, MulU64, Shr64, Shr_u8, Shr_u16, Shr_u32, Shr_u64, And1, And31, Eql64, Neq64, Bin_lss, Bin_leq, Bin_gtr, Bin_geq, Bin_bool_eql, Bin_bool_neq, Bin_ptr_nil_eql, Bin_ptr_nil_neq, Not_dec, Un_not, Pick_t, Pick_f, Pick_pos, Pick_neg, Gd_tt, Gd_tf, Gd_ft, Gd_ff, Gd_pos_t, Gd_neg_t, Gd_pos_f, Gd_neg_f, Gd_undef, If_t, If_f, If_pos, If_neg, CallF_eq, Max_two, Min_two, Len_rd, Len_own, Ld_blkE, Idx_rdN, Idx_ownN, Idx_rdE, Idx_ownE, IdxAE, Idx_at0, Ext_atE, Len_at, Int.toNat_natCast, Int.toNat_zero, Int.toNat_one, List.length_map, List.length_append, List.length_cons, List.length_nil, List.length_take, List.length_set, List.length_replicate, Bool.not_true, Bool.not_false, decide_true, decide_false, not_true_eq_false, not_false_eq_true, app]
    refine Rng_rule (by kernel_rfl) (vmtf_All_seq (g := g) (b := b) (n := n) (m := m))
      (fun i h' => (Blk h' c [ptr g] ∧ QS h' g b n m) ∧ Fr [] h h' ∧ QS h' g2 b2 n m2 ∧ Blk h' h.size [.bool false] ∧ Blk h' nb [Iv n] ∧ (∃ u bs, Blk h' wb [u] ∧ Own h' u (Iw (m.row.take i)) bs ∧ ∀ x ∈ bs, c < x) ∧ Blk h' tb [.map (some mb)] ∧ MapAt h' mb .i64 ((m.row.take i).map fun x => ((x : Nat), Iv 1)))
      (fun _ _ => False) ?_ ?_ ?_ ?_ ?_ ?_ ?_
    · rintro i h' ⟨x, _⟩; exact x
    · rintro i l h13 h14 hl o ⟨⟨y1, y2⟩, y3, y4, y5, y6, ⟨u, bs, y7, y8, y9⟩, y10, y11⟩
      have := f12.size; have := f011.size
      exact ⟨⟨y1.one o, y2.one o⟩, y3.one o (by omega), y4.one o, y5.one o, y6.one o, ⟨u, bs, y7.one o, y8.one o, y9⟩, y10.one o, y11.one o⟩
    · rintro ex l h13 h14 hl o hx; exact hx.elim
    · intro h13 f13
      have f := f12.trans f13
      exact ⟨⟨bc.fr f13 (by simp), q7.fr f (by simp)⟩, f011.trans f, p7.fr f (by simp), x1.fr f (by simp), x2.fr f (by simp), ⟨_, _, x3.fr f (by simp), Own.nil _, by simp⟩, x4.fr f (by simp), m9.fr f (by simp)⟩
    · rintro i x h13 B N L hx hJ13 hB hN hL
      refine hB _ fun h14 => ?_
      rintro ⟨⟨y1, y2⟩, y3, y4, y5, y6, ⟨u, bs, y7, y8, y9⟩, y10, y11⟩
      have hlt : i < m.row.length := by
        rcases Nat.lt_or_ge i m.row.length with q | q
        · exact q
        · rw [List.getElem?_eq_none (by simpa using q)] at hx; cases hx
      have hy : m.row[i]? = some m.row[i] := List.getElem?_eq_getElem _
      have ey : x = Iv (m.row[i] : Nat) := by rw [List.getElem?_map, hy] at hx; simpa using hx.symm
      subst ey
      have hb1 := hm1 _ (List.getElem_mem hlt)
      have ht : m.row.take (i + 1) = m.row.take i ++ [m.row[i]] := by rw [List.take_add_one, hy]; rfl
      have hnew : m.row[i] ∉ m.row.take i := by
        intro hmem
        have : (m.row.take (i + 1)).Nodup := (List.take_sublist _ _).nodup hnd
        rw [ht, List.nodup_append] at this
        exact this.2.2 _ hmem _ (by simp) rfl
      have hlk : ((m.row.take i).map fun x => (((x : Nat) : Int), Iv 1)).lookup ((m.row[i] : Nat) : Int) = none := by
        rw [lookup_none_iff, List.map_map]
        intro hmem
        obtain ⟨z, hz, e⟩ := List.mem_map.1 hmem
        simp only [Function.comp] at e
        exact hnew (by rw [show m.row[i] = z by omega]; exact hz)
      have hlk2 : ((m.row.take (i + 1)).map fun x => (((x : Nat) : Int), Iv 1)).lookup ((m.row[i] : Nat) : Int) = some (Iv 1) := by
        rw [ht, List.map_append, List.lookup_append, hlk]; simp
      have k1 := y1.lt
      try simp (disch := first | assumption | omega | (apply At.mk; with_unfolding_all rfl)) only [↓go_eq, ↓ent_eq, Mv, NilC_at, Fld_at, add_mk, Nat.zero_add, Nat.add_zero, Add64, Sub64, Mul64, Quo64, Rem64, Neg64, Cvt64, CvtU8, CvtU16, CvtU32, CvtU64, AddU64, SubU64, MulU64, Shr64, Shr_u8, Shr_u16, Shr_u32, Shr_u64, And1, And31, Eql64, Neq64, Bin_lss, Bin_leq, Bin_gtr, Bin_geq, Bin_bool_eql, Bin_bool_neq, Bin_ptr_nil_eql, Bin_ptr_nil_neq, Not_dec, Un_not, Pick_t, Pick_f, Pick_pos, Pick_neg, Gd_tt, Gd_tf, Gd_ft, Gd_ff, Gd_pos_t, Gd_neg_t, Gd_pos_f, Gd_neg_f, Gd_undef, If_t, If_f, If_pos, If_neg, CallF_eq, Max_two, Min_two, Len_rd, Len_own, Ld_blkE, Idx_rdN, Idx_ownN, Idx_rdE, Idx_ownE, IdxAE, Idx_at0, Ext_atE, Len_at, Int.toNat_natCast, Int.toNat_zero, Int.toNat_one, List.length_map, List.length_append, List.length_cons, List.length_nil, List.length_take, List.length_set, List.length_replicate, Bool.not_true, Bool.not_false, decide_true, decide_false, not_true_eq_false, not_false_eq_true, app]
      refine y8.app1 rfl rfl rfl (by simp; omega) (by simp; omega) fun u' h15 bs' o15 f15 hb15 => ?_
      have hbs' : ∀ x ∈ bs', c < x := fun x hx => by
        rcases hb15 x hx with q | q
        · exact y9 x q
        · omega
      have sep : ∀ {z : Nat}, z ≤ c → z ∉ bs := fun hz hm => by have := y9 _ hm; omega
      have y1 := y1.fr f15 (sep (Nat.le_refl _))
      have y2 := y2.fr f15 ⟨sep (by omega), sep (by omega)⟩
      have y4 := y4.fr f15 ⟨sep (by omega), sep (by omega)⟩
      have y5 := y5.fr f15 (sep (by omega))
      have y6 := y6.fr f15 (sep (by omega))
      have y7 := y7.fr f15 (sep (by omega))
      have y10 := y10.fr f15 (sep (by omega))
      have y11 := y11.fr f15 (sep (by omega))
      have y3 := y3.trans' f15 fun x hx => .inr (by have := y9 x hx; omega)
      try simp (disch := first | assumption | omega | (apply At.mk; with_unfolding_all rfl)) only [↓go_eq, ↓ent_eq, Mv, NilC_at, Fld_at, add_mk, Nat.zero_add, Nat.add_zero, Add64, Sub64, Mul64, Quo64, Rem64, Neg64, Cvt64, CvtU8, CvtU16, CvtU32, CvtU64, AddU64, SubU64, MulU64, Shr64, Shr_u8, Shr_u16, Shr_u32, Shr_u64, And1, And31, Eql64, Neq64, Bin_lss, Bin_leq, Bin_gtr, Bin_geq, Bin_bool_eql, Bin_bool_neq, Bin_ptr_nil_eql, Bin_ptr_nil_neq, Not_dec, Un_not, Pick_t, Pick_f, Pick_pos, Pick_neg, Gd_tt, Gd_tf, Gd_ft, Gd_ff, Gd_pos_t, Gd_neg_t, Gd_pos_f, Gd_neg_f, Gd_undef, If_t, If_f, If_pos, If_neg, CallF_eq, Max_two, Min_two, Len_rd, Len_own, Ld_blkE, Idx_rdN, Idx_ownN, Idx_rdE, Idx_ownE, IdxAE, Idx_at0, Ext_atE, Len_at, Int.toNat_natCast, Int.toNat_zero, Int.toNat_one, List.length_map, List.length_append, List.length_cons, List.length_nil, List.length_take, List.length_set, List.length_replicate, Bool.not_true, Bool.not_false, decide_true, decide_false, not_true_eq_false, not_false_eq_true, app]
      refine St_blk y7 (by simp) o15.rd.isCell fun h16 b16 f16 => ?_
      have o16 := o15.fr f16 fun x hx => by have := hbs' x hx; simp; omega
      have y1 := y1.fr f16 (by first | (simp; done) | (simp; omega) | omega)
      have y2 := y2.fr f16 (by first | (simp; done) | (simp; omega) | omega)
      have y4 := y4.fr f16 (by first | (simp; done) | (simp; omega) | omega)
      have y5 := y5.fr f16 (by first | (simp; done) | (simp; omega) | omega)
      have y6 := y6.fr f16 (by first | (simp; done) | (simp; omega) | omega)
      have y10 := y10.fr f16 (by first | (simp; done) | (simp; omega) | omega)
      have y11 := y11.fr f16 (by first | (simp; done) | (simp; omega) | omega)
      have y3 := y3.trans' f16 (by first | (simp; done) | (simp; omega) | omega)
      try simp (disch := first | assumption | omega | (apply At.mk; with_unfolding_all rfl)) only [↓go_eq, ↓ent_eq, Mv, NilC_at, Fld_at, add_mk, Nat.zero_add, Nat.add_zero, Add64, Sub64, Mul64, Quo64, Rem64, Neg64, Cvt64, CvtU8, CvtU16, CvtU32, CvtU64, AddU64, SubU64, MulU64, Shr64, Shr_u8, Shr_u16, Shr_u32, Shr_u64, And1, And31, Eql64, Neq64, Bin_lss, Bin_leq, Bin_gtr, Bin_geq, Bin_bool_eql, Bin_bool_neq, Bin_ptr_nil_eql, Bin_ptr_nil_neq, Not_dec, Un_not, Pick_t, Pick_f, Pick_pos, Pick_neg, Gd_tt, Gd_tf, Gd_ft, Gd_ff, Gd_pos_t, Gd_neg_t, Gd_pos_f, Gd_neg_f, Gd_undef, If_t, If_f, If_pos, If_neg, CallF_eq, Max_two, Min_two, Len_rd, Len_own, Ld_blkE, Idx_rdN, Idx_ownN, Idx_rdE, Idx_ownE, IdxAE, Idx_at0, Ext_atE, Len_at, Int.toNat_natCast, Int.toNat_zero, Int.toNat_one, List.length_map, List.length_append, List.length_cons, List.length_nil, List.length_take, List.length_set, List.length_replicate, Bool.not_true, Bool.not_false, decide_true, decide_false, not_true_eq_false, not_false_eq_true, app]
      refine Lk_map y11 ?_
      rw [hlk]
      try simp (disch := first | assumption | omega | (apply At.mk; with_unfolding_all rfl)) only [↓go_eq, ↓ent_eq, Mv, NilC_at, Fld_at, add_mk, Nat.zero_add, Nat.add_zero, Add64, Sub64, Mul64, Quo64, Rem64, Neg64, Cvt64, CvtU8, CvtU16, CvtU32, CvtU64, AddU64, SubU64, MulU64, Shr64, Shr_u8, Shr_u16, Shr_u32, Shr_u64, And1, And31, Eql64, Neq64, Bin_lss, Bin_leq, Bin_gtr, Bin_geq, Bin_bool_eql, Bin_bool_neq, Bin_ptr_nil_eql, Bin_ptr_nil_neq, Not_dec, Un_not, Pick_t, Pick_f, Pick_pos, Pick_neg, Gd_tt, Gd_tf, Gd_ft, Gd_ff, Gd_pos_t, Gd_neg_t, Gd_pos_f, Gd_neg_f, Gd_undef, If_t, If_f, If_pos, If_neg, CallF_eq, Max_two, Min_two, Len_rd, Len_own, Ld_blkE, Idx_rdN, Idx_ownN, Idx_rdE, Idx_ownE, IdxAE, Idx_at0, Ext_atE, Len_at, Int.toNat_natCast, Int.toNat_zero, Int.toNat_one, List.length_map, List.length_append, List.length_cons, List.length_nil, List.length_take, List.length_set, List.length_replicate, Bool.not_true, Bool.not_false, decide_true, decide_false, not_true_eq_false, not_false_eq_true, app]
      simp only [Bool.false_eq_true, if_false]
      try simp (disch := first | assumption | omega | (apply At.mk; with_unfolding_all rfl)) only [↓go_eq, ↓ent_eq, Mv, NilC_at, Fld_at, add_mk, Nat.zero_add, Nat.add_zero, Add64, Sub64, Mul64, Quo64, Rem64, Neg64, Cvt64, CvtU8, CvtU16, CvtU32, CvtU64, AddU64, SubU64, MulU64, Shr64, Shr_u8, Shr_u16, Shr_u32, Shr_u64, And1, And31, Eql64, Neq64, Bin_lss, Bin_leq, Bin_gtr, Bin_geq, Bin_bool_eql, Bin_bool_neq, Bin_ptr_nil_eql, Bin_ptr_nil_neq, Not_dec, Un_not, Pick_t, Pick_f, Pick_pos, Pick_neg, Gd_tt, Gd_tf, Gd_ft, Gd_ff, Gd_pos_t, Gd_neg_t, Gd_pos_f, Gd_neg_f, Gd_undef, If_t, If_f, If_pos, If_neg, CallF_eq, Max_two, Min_two, Len_rd, Len_own, Ld_blkE, Idx_rdN, Idx_ownN, Idx_rdE, Idx_ownE, IdxAE, Idx_at0, Ext_atE, Len_at, Int.toNat_natCast, Int.toNat_zero, Int.toNat_one, List.length_map, List.length_append, List.length_cons, List.length_nil, List.length_take, List.length_set, List.length_replicate, Bool.not_true, Bool.not_false, decide_true, decide_false, not_true_eq_false, not_false_eq_true, app]
      refine MUpd_new y11 hlk fun h17 m17 f17 _ => ?_
      have b17 : Blk h17 wb [u'] := b16.fr f17 (by first | (simp; done) | (simp; omega) | omega)
      have o17 := o16.fr f17 fun x hx => by have := hbs' x hx; simp; omega
      have y1 := y1.fr f17 (by first | (simp; done) | (simp; omega) | omega)
      have y2 := y2.fr f17 (by first | (simp; done) | (simp; omega) | omega)
      have y4 := y4.fr f17 (by first | (simp; done) | (simp; omega) | omega)
      have y5 := y5.fr f17 (by first | (simp; done) | (simp; omega) | omega)
      have y6 := y6.fr f17 (by first | (simp; done) | (simp; omega) | omega)
      have y10 := y10.fr f17 (by first | (simp; done) | (simp; omega) | omega)
      have y3 := y3.trans' f17 (by first | (simp; done) | (simp; omega) | omega)
      have m17' : MapAt h17 mb .i64 ((m.row.take (i + 1)).map fun x => (((x : Nat) : Int), Iv 1)) := by rw [ht, List.map_append]; exact m17
      try simp (disch := first | assumption | omega | (apply At.mk; with_unfolding_all rfl)) only [↓go_eq, ↓ent_eq, Mv, NilC_at, Fld_at, add_mk, Nat.zero_add, Nat.add_zero, Add64, Sub64, Mul64, Quo64, Rem64, Neg64, Cvt64, CvtU8, CvtU16, CvtU32, CvtU64, AddU64, SubU64, MulU64, Shr64, Shr_u8, Shr_u16, Shr_u32, Shr_u64, And1, And31, Eql64, Neq64, Bin_lss, Bin_leq, Bin_gtr, Bin_geq, Bin_bool_eql, Bin_bool_neq, Bin_ptr_nil_eql, Bin_ptr_nil_neq, Not_dec, Un_not, Pick_t, Pick_f, Pick_pos, Pick_neg, Gd_tt, Gd_tf, Gd_ft, Gd_ff, Gd_pos_t, Gd_neg_t, Gd_pos_f, Gd_neg_f, Gd_undef, If_t, If_f, If_pos, If_neg, CallF_eq, Max_two, Min_two, Len_rd, Len_own, Ld_blkE, Idx_rdN, Idx_ownN, Idx_rdE, Idx_ownE, IdxAE, Idx_at0, Ext_atE, Len_at, Int.toNat_natCast, Int.toNat_zero, Int.toNat_one, List.length_map, List.length_append, List.length_cons, List.length_nil, List.length_take, List.length_set, List.length_replicate, Bool.not_true, Bool.not_false, decide_true, decide_false, not_true_eq_false, not_false_eq_true, app]
      refine Lk_map m17' ?_
      rw [hlk2]
      simp only [Bool.false_eq_true, if_false]
      try simp (disch := first | assumption | omega | (apply At.mk; with_unfolding_all rfl)) only [↓go_eq, ↓ent_eq, Mv, NilC_at, Fld_at, add_mk, Nat.zero_add, Nat.add_zero, Add64, Sub64, Mul64, Quo64, Rem64, Neg64, Cvt64, CvtU8, CvtU16, CvtU32, CvtU64, AddU64, SubU64, MulU64, Shr64, Shr_u8, Shr_u16, Shr_u32, Shr_u64, And1, And31, Eql64, Neq64, Bin_lss, Bin_leq, Bin_gtr, Bin_geq, Bin_bool_eql, Bin_bool_neq, Bin_ptr_nil_eql, Bin_ptr_nil_neq, Not_dec, Un_not, Pick_t, Pick_f, Pick_pos, Pick_neg, Gd_tt, Gd_tf, Gd_ft, Gd_ff, Gd_pos_t, Gd_neg_t, Gd_pos_f, Gd_neg_f, Gd_undef, If_t, If_f, If_pos, If_neg, CallF_eq, Max_two, Min_two, Len_rd, Len_own, Ld_blkE, Idx_rdN, Idx_ownN, Idx_rdE, Idx_ownE, IdxAE, Idx_at0, Ext_atE, Len_at, Int.toNat_natCast, Int.toNat_zero, Int.toNat_one, List.length_map, List.length_append, List.length_cons, List.length_nil, List.length_take, List.length_set, List.length_replicate, Bool.not_true, Bool.not_false, decide_true, decide_false, not_true_eq_false, not_false_eq_true, app]
      refine hN _ ⟨⟨y1, y2⟩, y3, y4, y5, y6, ⟨u', bs', b17, ?_, hbs'⟩, y10, m17'⟩
      rw [ht, Iw, List.map_append]; exact o17
    · rintro h13 ⟨_, y3, y4, y5, y6, ⟨u, bs, y7, y8, y9⟩, y10, y11⟩
      rw [List.length_map, List.take_length] at y8
      exact hJ () _ ⟨y3, y4, y5, y6, u, bs, y7, y8⟩
    · rintro ex h13 hx; exact hx.elim
  · rintro _ h12 ⟨y3, y4, y5, y6, u, bs, y7, y8⟩
    try simp (disch := first | assumption | omega | (apply At.mk; with_unfolding_all rfl)) only [↓go_eq, ↓ent_eq, Mv, NilC_at, Fld_at, add_mk, Nat.zero_add, Nat.add_zero, Add64, Sub64, Mul64, Quo64, Rem64, Neg64, Cvt64, CvtU8, CvtU16, CvtU32, CvtU64, AddU64, SubU64, MulU64, Shr64, Shr_u8, Shr_u16, Shr_u32, Shr_u64, And1, And31, Eql64, Neq64, Bin_lss, Bin_leq, Bin_gtr, Bin_geq, Bin_bool_eql, Bin_bool_neq, Bin_ptr_nil_eql, Bin_ptr_nil_neq, Not_dec, Un_not, Pick_t, Pick_f, Pick_pos, Pick_neg, Gd_tt, Gd_tf, Gd_ft, Gd_ff, Gd_pos_t, Gd_neg_t, Gd_pos_f, Gd_neg_f, Gd_undef, If_t, If_f, If_pos, If_neg, CallF_eq, Max_two, Min_two, Len_rd, Len_own, Ld_blkE, Idx_rdN, Idx_ownN, Idx_rdE, Idx_ownE, IdxAE, Idx_at0, Ext_atE, Len_at, Int.toNat_natCast, Int.toNat_zero, Int.toNat_one, List.length_map, List.length_append, List.length_cons, List.length_nil, List.length_take, List.length_set, List.length_replicate, Bool.not_true, Bool.not_false, decide_true, decide_false, not_true_eq_false, not_false_eq_true, app]
    refine bradawllaw17_same.spec (by omega) (by omega) y4 y8.rd fun h13 f13 => ?_
    rw [decide_eq_true hrow.symm]
    have y5 := y5.fr f13 (by simp)
    try simp (disch := first | assumption | omega | (apply At.mk; with_unfolding_all rfl)) only [↓go_eq, ↓ent_eq, Mv, NilC_at, Fld_at, add_mk, Nat.zero_add, Nat.add_zero, Add64, Sub64, Mul64, Quo64, Rem64, Neg64, Cvt64, CvtU8, CvtU16, CvtU32, CvtU64, AddU64, SubU64, MulU64, Shr64, Shr_u8, Shr_u16, Shr_u32, Shr_u64, And1, And31, Eql64, Neq64, Bin_lss, Bin_leq, Bin_gtr, Bin_geq, Bin_bool_eql, Bin_bool_neq, Bin_ptr_nil_eql, Bin_ptr_nil_neq, Not_dec, Un_not, Pick_t, Pick_f, Pick_pos, Pick_neg, Gd_tt, Gd_tf, Gd_ft, Gd_ff, Gd_pos_t, Gd_neg_t, Gd_pos_f, Gd_neg_f, Gd_undef, If_t, If_f, If_pos, If_neg, CallF_eq, Max_two, Min_two, Len_rd, Len_own, Ld_blkE, Idx_rdN, Idx_ownN, Idx_rdE, Idx_ownE, IdxAE, Idx_at0, Ext_atE, Len_at, Int.toNat_natCast, Int.toNat_zero, Int.toNat_one, List.length_map, List.length_append, List.length_cons, List.length_nil, List.length_take, List.length_set, List.length_replicate, Bool.not_true, Bool.not_false, decide_true, decide_false, not_true_eq_false, not_false_eq_true, app]
    exact fin1 y5 rfl (y3.trans f13) (by omega) hk
theorem bradawllaw17_VmtfOnce.law {h : Heap} {a0 : Int} {a1 : List Int} {v0 v1 : Value} (r0 : (rInt .u8).is h a0 [v0]) (r1 : (rSlice (rInt .u8) 1).is h a1 [v1]) :
    CallH Try.prog bradawllaw17_VmtfOnce.id #[v0, v1] (fun v h' => v = .bool true ∧ Fr [] h h') h := by
  obtain ⟨rfl, h1, h2⟩ := int_arg r0
  exact bradawllaw17_VmtfOnce.spec ⟨h1, h2⟩ (rd_ints r1).1 (fun k hk => (rd_ints r1).2 k hk) fun h' f => ⟨rfl, f⟩
end Go.Proofs.Ytcmpdfjojeblmaa
