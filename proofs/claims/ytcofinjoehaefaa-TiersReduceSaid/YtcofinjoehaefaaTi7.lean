/- What a reduction of made clauses takes away, by their numbers. No condition. -/
import Derived.Test.YtcofinjoehaefaaTi6
import Derived.Test.YtcofinjoehaefaaMr
namespace Go.Proofs.Ytcofinjoehaefaa
open Go.Pt
set_option linter.unusedVariables false
set_option linter.unusedSimpArgs false
abbrev d0 : Dc := (false, 0, 0, 0, false)
def useV (ds : List Dc) (lo hi : Int) (q : Nat) : Int := (useC lo hi (bC (ds.getD q d0))).uses
def goesI (ds : List Dc) (lo hi : Int) (q : Nat) : Bool := goesK lo hi (lkF ds) (ds.map bC) q
def mayI (ds : List Dc) (lo hi : Int) (i : Nat) : List Nat := (List.range i).filter (goesI ds lo hi)
theorem mayI_step (ds : List Dc) (lo hi : Int) (i : Nat) : mayI ds lo hi (i + 1) = mayI ds lo hi i ++ (if goesI ds lo hi i then [i] else []) := by
  unfold mayI
  rw [List.range_succ, List.filter_append]
  congr 1
  cases h : goesI ds lo hi i <;> simp [h]
theorem mayI_len (ds : List Dc) (lo hi : Int) (i : Nat) : (mayI ds lo hi i).length ≤ i := by
  unfold mayI
  exact Nat.le_trans (List.length_filter_le _ _) (by simp)
theorem mayI_off (ds : List Dc) (lo hi : Int) (i : Nat) : mayL lo hi (lkF ds) (ds.map bC) i = (mayI ds lo hi i).map fun q => ((off (ds.map bC) q : Nat) : Int) := rfl
theorem mayI_nodup (ds : List Dc) (lo hi : Int) (i : Nat) : (mayI ds lo hi i).Nodup := List.nodup_range.filter _
theorem mayI_lt {ds : List Dc} {lo hi : Int} {i q : Nat} (h : q ∈ mayI ds lo hi i) : q < i := List.mem_range.1 (List.mem_filter.1 h).1
theorem goesI_some {ds : List Dc} {lo hi : Int} {q : Nat} {d : Dc} (h : ds[q]? = some d) : goesI ds lo hi q = (decide (1 ≤ tierC (some (bC d)) lo hi) && decide (d.2.2.1 % 4 = 0) && !d.2.2.2.2) := by
  unfold goesI
  rw [goesK_some (c := bC d) (by rw [List.getElem?_map, h]; rfl), lkF_off h]
  rfl
theorem useV_some {ds : List Dc} {lo hi : Int} {q : Nat} {d : Dc} (h : ds[q]? = some d) : useV ds lo hi q = if 1 ≤ tierC (some (bC d)) lo hi ∧ d.2.2.1 % 4 ≠ 0 then (if tierC (some (bC d)) lo hi = 2 then 1 else d.2.2.1 % 4) - 1 else d.2.2.1 % 4 := by
  unfold useV
  rw [List.getD_eq_getElem?_getD, h]
  show (useC lo hi (bC d)).uses = _
  unfold useC
  by_cases c : 1 ≤ tierC (some (bC d)) lo hi ∧ d.2.2.1 % 4 ≠ 0
  · rw [if_pos c, if_pos (show (bC d).gone = false ∧ 1 ≤ tierC (some (bC d)) lo hi ∧ (bC d).uses ≠ 0 from ⟨rfl, c⟩)]; rfl
  · rw [if_neg c, if_neg (show ¬ ((bC d).gone = false ∧ 1 ≤ tierC (some (bC d)) lo hi ∧ (bC d).uses ≠ 0) from fun q => c q.2)]; rfl
/-- Who goes, by numbers. -/
theorem by_no {ds : List Dc} {lo hi : Int} {n : Nat} {ys : List Int} (p : ys.Perm (mayL lo hi (lkF ds) (ds.map bC) n)) : ∃ zs : List Nat, zs.Perm (mayI ds lo hi n) ∧ ys = zs.map fun q => ((off (ds.map bC) q : Nat) : Int) := by
  rw [mayI_off] at p
  generalize mayI ds lo hi n = L at p
  induction p' : L generalizing ys L with
  | nil => subst p'; exact ⟨[], .nil, by simpa using p⟩
  | cons q L' ih =>
    subst p'
    rw [List.map_cons] at p
    have hm : ((off (ds.map bC) q : Nat) : Int) ∈ ys := p.mem_iff.2 (by simp)
    obtain ⟨s, t, rfl⟩ := List.append_of_mem hm
    have p2 : (s ++ t).Perm (L'.map fun q => ((off (ds.map bC) q : Nat) : Int)) := by
      have := List.perm_middle.symm.trans p
      exact this.cons_inv
    obtain ⟨zs, z1, z2⟩ := ih L' p2 rfl
    refine ⟨zs.take s.length ++ q :: zs.drop s.length, ?_, ?_⟩
    · exact List.perm_middle.trans (.cons q (by rw [List.take_append_drop]; exact z1))
    · rw [List.map_append, List.map_cons, List.map_take, List.map_drop, ← z2]; simp
/-- One is worse than another one, as the code tells it. -/
def wB (ds : List Dc) (x y : Nat) : Bool :=
  if (ds.getD x d0).2.1 % 20 ≠ (ds.getD y d0).2.1 % 20 then decide ((ds.getD x d0).2.1 % 20 > (ds.getD y d0).2.1 % 20)
  else if (ds.getD x d0).2.2.2.1 % 6 ≠ (ds.getD y d0).2.2.2.1 % 6 then decide ((ds.getD x d0).2.2.2.1 % 6 > (ds.getD y d0).2.2.2.1 % 6)
  else decide ((x : Int) < (y : Int))
theorem RdC.fld {K : Ret} {h : Heap} {ds : List Dc} {v : Value} {i j : Nat} {d : Dc} {u : Value} (r : RdC h v ds) (hd : ds[i]? = some d) (hj : (dcells d)[j]? = some u) (hk : K u h) : Idx 5 v (Iv (i : Nat)) (fun p h => Fld j p (fun q h => Ld q K h) h) h := by
  obtain ⟨a, cap, rfl, hc⟩ := r.out
  obtain ⟨ad, rfl, e2⟩ := hc i d hd
  have hi := (List.getElem?_eq_some_iff.1 hd).1
  rw [Idx_at]
  refine ⟨by omega, ?_⟩
  rw [Fld_at, Ld_at, Int.toNat_natCast]
  have h4 := e2 j _ hj
  rw [h4]; exact hk
theorem worse_q {K : Ret} {h : Heap} {ds : List Dc} {v : Value} {x y : Nat} (r : RdC h v ds) (h8 : ∀ d ∈ ds, u8ok d) (hx : x < ds.length) (hy : y < ds.length) (hk : K (.bool (wB ds x y)) h) : QCall Try.prog bradawllaw20_worse.id [v, Iv (x : Nat), Iv (y : Nat)] K h := by
  refine QCall_of (fun Q hQ => bradawllaw20_worse.ok ?_) hk
  simp only [bradawllaw20_worse.pt]
  have dx : ds[x]? = some (ds.getD x d0) := by rw [List.getD_eq_getElem?_getD, List.getElem?_eq_getElem hx]; rfl
  have dy : ds[y]? = some (ds.getD y d0) := by rw [List.getD_eq_getElem?_getD, List.getElem?_eq_getElem hy]; rfl
  have ux := h8 _ (List.mem_of_getElem? dx)
  have uy := h8 _ (List.mem_of_getElem? dy)
  unfold wB at hQ
  generalize ds.getD x d0 = a at *
  generalize ds.getD y d0 = b at *
  obtain ⟨⟨a1, a2⟩, _, a5, a6⟩ := ux
  obtain ⟨⟨b1, b2⟩, _, b5, b6⟩ := uy
  try simp (disch := first | assumption | omega | (apply At.mk; with_unfolding_all rfl)) only [↓go_eq, ↓ent_eq, Mv, NilC_at, Fld_at, add_mk, Nat.zero_add, Nat.add_zero, Add64, Sub64, Mul64, Quo64, Rem64, Neg64, Cvt64, CvtU8, CvtU16, CvtU32, CvtU64, AddU64, SubU64, MulU64, Shr64, Shr_u8, Shr_u16, Shr_u32, Shr_u64, And1, And31, And32, Eql64, Neq64, Bin_lss, Bin_leq, Bin_gtr, Bin_geq, Bin_bool_eql, Bin_bool_neq, Bin_ptr_nil_eql, Bin_ptr_nil_neq, Not_dec, Un_not, Pick_t, Pick_f, Pick_pos, Pick_neg, Gd_tt, Gd_tf, Gd_ft, Gd_ff, Gd_pos_t, Gd_neg_t, Gd_pos_f, Gd_neg_f, Gd_undef, If_t, If_f, If_pos, If_neg, CallF_eq, Max_two, Min_two, Len_rd, Len_own, Ld_blkE, Idx_rdN, Idx_ownN, Idx_rdE, Idx_ownE, IdxAE, LdA_two, Idx_at0, Ext_atE, Len_at, Int.toNat_natCast, Int.toNat_zero, Int.toNat_one, List.length_map, List.length_append, List.length_cons, List.length_nil, List.length_take, List.length_set, List.length_replicate, Bool.not_true, Bool.not_false, decide_true, decide_false, BEq.rfl, bne_self_eq_false, tf_beq, ft_beq, tf_bne, ft_bne, not_true_eq_false, not_false_eq_true, app]
  refine r.fld (j := 1) dx rfl ?_
  try simp (disch := first | assumption | omega | (apply At.mk; with_unfolding_all rfl)) only [↓go_eq, ↓ent_eq, Mv, NilC_at, Fld_at, add_mk, Nat.zero_add, Nat.add_zero, Add64, Sub64, Mul64, Quo64, Rem64, Neg64, Cvt64, CvtU8, CvtU16, CvtU32, CvtU64, AddU64, SubU64, MulU64, Shr64, Shr_u8, Shr_u16, Shr_u32, Shr_u64, And1, And31, And32, Eql64, Neq64, Bin_lss, Bin_leq, Bin_gtr, Bin_geq, Bin_bool_eql, Bin_bool_neq, Bin_ptr_nil_eql, Bin_ptr_nil_neq, Not_dec, Un_not, Pick_t, Pick_f, Pick_pos, Pick_neg, Gd_tt, Gd_tf, Gd_ft, Gd_ff, Gd_pos_t, Gd_neg_t, Gd_pos_f, Gd_neg_f, Gd_undef, If_t, If_f, If_pos, If_neg, CallF_eq, Max_two, Min_two, Len_rd, Len_own, Ld_blkE, Idx_rdN, Idx_ownN, Idx_rdE, Idx_ownE, IdxAE, LdA_two, Idx_at0, Ext_atE, Len_at, Int.toNat_natCast, Int.toNat_zero, Int.toNat_one, List.length_map, List.length_append, List.length_cons, List.length_nil, List.length_take, List.length_set, List.length_replicate, Bool.not_true, Bool.not_false, decide_true, decide_false, BEq.rfl, bne_self_eq_false, tf_beq, ft_beq, tf_bne, ft_bne, not_true_eq_false, not_false_eq_true, app]
  refine r.fld (j := 1) dy rfl ?_
  try simp (disch := first | assumption | omega | (apply At.mk; with_unfolding_all rfl)) only [↓go_eq, ↓ent_eq, Mv, NilC_at, Fld_at, add_mk, Nat.zero_add, Nat.add_zero, Add64, Sub64, Mul64, Quo64, Rem64, Neg64, Cvt64, CvtU8, CvtU16, CvtU32, CvtU64, AddU64, SubU64, MulU64, Shr64, Shr_u8, Shr_u16, Shr_u32, Shr_u64, And1, And31, And32, Eql64, Neq64, Bin_lss, Bin_leq, Bin_gtr, Bin_geq, Bin_bool_eql, Bin_bool_neq, Bin_ptr_nil_eql, Bin_ptr_nil_neq, Not_dec, Un_not, Pick_t, Pick_f, Pick_pos, Pick_neg, Gd_tt, Gd_tf, Gd_ft, Gd_ff, Gd_pos_t, Gd_neg_t, Gd_pos_f, Gd_neg_f, Gd_undef, If_t, If_f, If_pos, If_neg, CallF_eq, Max_two, Min_two, Len_rd, Len_own, Ld_blkE, Idx_rdN, Idx_ownN, Idx_rdE, Idx_ownE, IdxAE, LdA_two, Idx_at0, Ext_atE, Len_at, Int.toNat_natCast, Int.toNat_zero, Int.toNat_one, List.length_map, List.length_append, List.length_cons, List.length_nil, List.length_take, List.length_set, List.length_replicate, Bool.not_true, Bool.not_false, decide_true, decide_false, BEq.rfl, bne_self_eq_false, tf_beq, ft_beq, tf_bne, ft_bne, not_true_eq_false, not_false_eq_true, app]
  by_cases c1 : a.2.1 % 20 ≠ b.2.1 % 20
  · rw [if_pos c1] at hQ
    try simp (disch := first | assumption | omega | (apply At.mk; with_unfolding_all rfl)) only [↓go_eq, ↓ent_eq, Mv, NilC_at, Fld_at, add_mk, Nat.zero_add, Nat.add_zero, Add64, Sub64, Mul64, Quo64, Rem64, Neg64, Cvt64, CvtU8, CvtU16, CvtU32, CvtU64, AddU64, SubU64, MulU64, Shr64, Shr_u8, Shr_u16, Shr_u32, Shr_u64, And1, And31, And32, Eql64, Neq64, Bin_lss, Bin_leq, Bin_gtr, Bin_geq, Bin_bool_eql, Bin_bool_neq, Bin_ptr_nil_eql, Bin_ptr_nil_neq, Not_dec, Un_not, Pick_t, Pick_f, Pick_pos, Pick_neg, Gd_tt, Gd_tf, Gd_ft, Gd_ff, Gd_pos_t, Gd_neg_t, Gd_pos_f, Gd_neg_f, Gd_undef, If_t, If_f, If_pos, If_neg, CallF_eq, Max_two, Min_two, Len_rd, Len_own, Ld_blkE, Idx_rdN, Idx_ownN, Idx_rdE, Idx_ownE, IdxAE, LdA_two, Idx_at0, Ext_atE, Len_at, Int.toNat_natCast, Int.toNat_zero, Int.toNat_one, List.length_map, List.length_append, List.length_cons, List.length_nil, List.length_take, List.length_set, List.length_replicate, Bool.not_true, Bool.not_false, decide_true, decide_false, BEq.rfl, bne_self_eq_false, tf_beq, ft_beq, tf_bne, ft_bne, not_true_eq_false, not_false_eq_true, app]
    exact hQ
  · rw [if_neg c1] at hQ
    try simp (disch := first | assumption | omega | (apply At.mk; with_unfolding_all rfl)) only [↓go_eq, ↓ent_eq, Mv, NilC_at, Fld_at, add_mk, Nat.zero_add, Nat.add_zero, Add64, Sub64, Mul64, Quo64, Rem64, Neg64, Cvt64, CvtU8, CvtU16, CvtU32, CvtU64, AddU64, SubU64, MulU64, Shr64, Shr_u8, Shr_u16, Shr_u32, Shr_u64, And1, And31, And32, Eql64, Neq64, Bin_lss, Bin_leq, Bin_gtr, Bin_geq, Bin_bool_eql, Bin_bool_neq, Bin_ptr_nil_eql, Bin_ptr_nil_neq, Not_dec, Un_not, Pick_t, Pick_f, Pick_pos, Pick_neg, Gd_tt, Gd_tf, Gd_ft, Gd_ff, Gd_pos_t, Gd_neg_t, Gd_pos_f, Gd_neg_f, Gd_undef, If_t, If_f, If_pos, If_neg, CallF_eq, Max_two, Min_two, Len_rd, Len_own, Ld_blkE, Idx_rdN, Idx_ownN, Idx_rdE, Idx_ownE, IdxAE, LdA_two, Idx_at0, Ext_atE, Len_at, Int.toNat_natCast, Int.toNat_zero, Int.toNat_one, List.length_map, List.length_append, List.length_cons, List.length_nil, List.length_take, List.length_set, List.length_replicate, Bool.not_true, Bool.not_false, decide_true, decide_false, BEq.rfl, bne_self_eq_false, tf_beq, ft_beq, tf_bne, ft_bne, not_true_eq_false, not_false_eq_true, app]
    refine r.fld (j := 3) dx rfl ?_
    try simp (disch := first | assumption | omega | (apply At.mk; with_unfolding_all rfl)) only [↓go_eq, ↓ent_eq, Mv, NilC_at, Fld_at, add_mk, Nat.zero_add, Nat.add_zero, Add64, Sub64, Mul64, Quo64, Rem64, Neg64, Cvt64, CvtU8, CvtU16, CvtU32, CvtU64, AddU64, SubU64, MulU64, Shr64, Shr_u8, Shr_u16, Shr_u32, Shr_u64, And1, And31, And32, Eql64, Neq64, Bin_lss, Bin_leq, Bin_gtr, Bin_geq, Bin_bool_eql, Bin_bool_neq, Bin_ptr_nil_eql, Bin_ptr_nil_neq, Not_dec, Un_not, Pick_t, Pick_f, Pick_pos, Pick_neg, Gd_tt, Gd_tf, Gd_ft, Gd_ff, Gd_pos_t, Gd_neg_t, Gd_pos_f, Gd_neg_f, Gd_undef, If_t, If_f, If_pos, If_neg, CallF_eq, Max_two, Min_two, Len_rd, Len_own, Ld_blkE, Idx_rdN, Idx_ownN, Idx_rdE, Idx_ownE, IdxAE, LdA_two, Idx_at0, Ext_atE, Len_at, Int.toNat_natCast, Int.toNat_zero, Int.toNat_one, List.length_map, List.length_append, List.length_cons, List.length_nil, List.length_take, List.length_set, List.length_replicate, Bool.not_true, Bool.not_false, decide_true, decide_false, BEq.rfl, bne_self_eq_false, tf_beq, ft_beq, tf_bne, ft_bne, not_true_eq_false, not_false_eq_true, app]
    refine r.fld (j := 3) dy rfl ?_
    try simp (disch := first | assumption | omega | (apply At.mk; with_unfolding_all rfl)) only [↓go_eq, ↓ent_eq, Mv, NilC_at, Fld_at, add_mk, Nat.zero_add, Nat.add_zero, Add64, Sub64, Mul64, Quo64, Rem64, Neg64, Cvt64, CvtU8, CvtU16, CvtU32, CvtU64, AddU64, SubU64, MulU64, Shr64, Shr_u8, Shr_u16, Shr_u32, Shr_u64, And1, And31, And32, Eql64, Neq64, Bin_lss, Bin_leq, Bin_gtr, Bin_geq, Bin_bool_eql, Bin_bool_neq, Bin_ptr_nil_eql, Bin_ptr_nil_neq, Not_dec, Un_not, Pick_t, Pick_f, Pick_pos, Pick_neg, Gd_tt, Gd_tf, Gd_ft, Gd_ff, Gd_pos_t, Gd_neg_t, Gd_pos_f, Gd_neg_f, Gd_undef, If_t, If_f, If_pos, If_neg, CallF_eq, Max_two, Min_two, Len_rd, Len_own, Ld_blkE, Idx_rdN, Idx_ownN, Idx_rdE, Idx_ownE, IdxAE, LdA_two, Idx_at0, Ext_atE, Len_at, Int.toNat_natCast, Int.toNat_zero, Int.toNat_one, List.length_map, List.length_append, List.length_cons, List.length_nil, List.length_take, List.length_set, List.length_replicate, Bool.not_true, Bool.not_false, decide_true, decide_false, BEq.rfl, bne_self_eq_false, tf_beq, ft_beq, tf_bne, ft_bne, not_true_eq_false, not_false_eq_true, app]
    by_cases c2 : a.2.2.2.1 % 6 ≠ b.2.2.2.1 % 6
    · rw [if_pos c2] at hQ
      try simp (disch := first | assumption | omega | (apply At.mk; with_unfolding_all rfl)) only [↓go_eq, ↓ent_eq, Mv, NilC_at, Fld_at, add_mk, Nat.zero_add, Nat.add_zero, Add64, Sub64, Mul64, Quo64, Rem64, Neg64, Cvt64, CvtU8, CvtU16, CvtU32, CvtU64, AddU64, SubU64, MulU64, Shr64, Shr_u8, Shr_u16, Shr_u32, Shr_u64, And1, And31, And32, Eql64, Neq64, Bin_lss, Bin_leq, Bin_gtr, Bin_geq, Bin_bool_eql, Bin_bool_neq, Bin_ptr_nil_eql, Bin_ptr_nil_neq, Not_dec, Un_not, Pick_t, Pick_f, Pick_pos, Pick_neg, Gd_tt, Gd_tf, Gd_ft, Gd_ff, Gd_pos_t, Gd_neg_t, Gd_pos_f, Gd_neg_f, Gd_undef, If_t, If_f, If_pos, If_neg, CallF_eq, Max_two, Min_two, Len_rd, Len_own, Ld_blkE, Idx_rdN, Idx_ownN, Idx_rdE, Idx_ownE, IdxAE, LdA_two, Idx_at0, Ext_atE, Len_at, Int.toNat_natCast, Int.toNat_zero, Int.toNat_one, List.length_map, List.length_append, List.length_cons, List.length_nil, List.length_take, List.length_set, List.length_replicate, Bool.not_true, Bool.not_false, decide_true, decide_false, BEq.rfl, bne_self_eq_false, tf_beq, ft_beq, tf_bne, ft_bne, not_true_eq_false, not_false_eq_true, app]
      exact hQ
    · rw [if_neg c2] at hQ
      try simp (disch := first | assumption | omega | (apply At.mk; with_unfolding_all rfl)) only [↓go_eq, ↓ent_eq, Mv, NilC_at, Fld_at, add_mk, Nat.zero_add, Nat.add_zero, Add64, Sub64, Mul64, Quo64, Rem64, Neg64, Cvt64, CvtU8, CvtU16, CvtU32, CvtU64, AddU64, SubU64, MulU64, Shr64, Shr_u8, Shr_u16, Shr_u32, Shr_u64, And1, And31, And32, Eql64, Neq64, Bin_lss, Bin_leq, Bin_gtr, Bin_geq, Bin_bool_eql, Bin_bool_neq, Bin_ptr_nil_eql, Bin_ptr_nil_neq, Not_dec, Un_not, Pick_t, Pick_f, Pick_pos, Pick_neg, Gd_tt, Gd_tf, Gd_ft, Gd_ff, Gd_pos_t, Gd_neg_t, Gd_pos_f, Gd_neg_f, Gd_undef, If_t, If_f, If_pos, If_neg, CallF_eq, Max_two, Min_two, Len_rd, Len_own, Ld_blkE, Idx_rdN, Idx_ownN, Idx_rdE, Idx_ownE, IdxAE, LdA_two, Idx_at0, Ext_atE, Len_at, Int.toNat_natCast, Int.toNat_zero, Int.toNat_one, List.length_map, List.length_append, List.length_cons, List.length_nil, List.length_take, List.length_set, List.length_replicate, Bool.not_true, Bool.not_false, decide_true, decide_false, BEq.rfl, bne_self_eq_false, tf_beq, ft_beq, tf_bne, ft_bne, not_true_eq_false, not_false_eq_true, app]
      exact hQ
/-- What the order of a reduction says of two. -/
theorem no_worse {ds : List Dc} {lo hi : Int} {x y : Nat} (hx : x < ds.length) (hy : y < ds.length)
    (hw : ¬ WorseL (fun r => glueO (clAt (chg (useC lo hi) (ds.map bC) (ds.map bC).length) r)) (fun r => (lenO (clAt (chg (useC lo hi) (ds.map bC) (ds.map bC).length) r) : Nat)) ((off (ds.map bC) x : Nat) : Int) ((off (ds.map bC) y : Nat) : Int)) : wB ds x y = false := by
  have key : ∀ q, q < ds.length → clAt (chg (useC lo hi) (ds.map bC) (ds.map bC).length) ((off (ds.map bC) q : Nat) : Int) = some (useC lo hi (bC (ds.getD q d0))) := fun q hq => by
    have hg : (chg (useC lo hi) (ds.map bC) (ds.map bC).length)[q]? = some (useC lo hi (bC (ds.getD q d0))) := by
      rw [chg_all, List.getElem?_map, List.getElem?_map, List.getD_eq_getElem?_getD, List.getElem?_eq_getElem hq]; rfl
    have := clAt_live hg (by rw [useC_gone]; rfl)
    rwa [off_chg (useC_lits lo hi)] at this
  have sz : ∀ q, ((lenO (some (useC lo hi (bC (ds.getD q d0)))) : Nat) : Int) = (ds.getD q d0).2.2.2.1 % 6 := fun q => by
    show (((useC lo hi (bC (ds.getD q d0))).lits.length : Nat) : Int) = _
    rw [useC_lits]
    show (((litsB (szB (ds.getD q d0))).length : Nat) : Int) = _
    rw [litsB_len]; unfold szB; omega
  have gl : ∀ q, glueO (some (useC lo hi (bC (ds.getD q d0)))) = (ds.getD q d0).2.1 % 20 := fun q => useC_glue lo hi _
  unfold WorseL at hw
  simp only [key x hx, key y hy, sz, gl] at hw
  unfold wB
  have ho : ((off (ds.map bC) x : Nat) : Int) < ((off (ds.map bC) y : Nat) : Int) ↔ x < y := by
    constructor
    · intro h
      rcases Nat.lt_trichotomy x y with q | q | q
      · exact q
      · subst q; omega
      · have := off_lt (cs := ds.map bC) q; omega
    · intro h
      have := off_lt (cs := ds.map bC) h; omega
  rw [ho] at hw
  by_cases c1 : (ds.getD x d0).2.1 % 20 ≠ (ds.getD y d0).2.1 % 20
  · rw [if_pos c1, decide_eq_false (by omega)]
  · rw [if_neg c1]
    by_cases c2 : (ds.getD x d0).2.2.2.1 % 6 ≠ (ds.getD y d0).2.2.2.1 % 6
    · rw [if_pos c2, decide_eq_false (by omega)]
    · rw [if_neg c2, decide_eq_false (by omega)]
end Go.Proofs.Ytcofinjoehaefaa
