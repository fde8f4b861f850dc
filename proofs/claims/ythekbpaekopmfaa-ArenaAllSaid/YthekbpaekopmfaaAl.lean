/- The arena beside its model. Conditions: those typed ahead of each theorem. -/
import Derived.Test.YthekbpaekopmfaaAn5
namespace Go.Proofs.Ythekbpaekopmfaa
open Go.Pt
set_option linter.unusedVariables false
set_option linter.unusedSimpArgs false
theorem Own.slc_lo {h : Heap} {v : Value} {xs : List Value} {bs : List Nat} {K : Ret} {lo : Int} (o : Own h v xs bs) (h0 : 0 ≤ lo) (h1 : lo < xs.length)
    (hk : ∀ v', (∀ (j : Int) (K : Ret) (h' : Heap), 0 ≤ j → lo + j < xs.length → Idx 1 v' (Iv j) K h' = Idx 1 v (Iv (lo + j)) K h') → K v' h) : Slc 1 v (some (Iv lo)) none none K h := by
  have hr := o.rd
  obtain ⟨a, cap, rfl, hcap, hc⟩ := hr
  obtain ⟨ad, rfl, _⟩ := hc 0 (xs[0]'(by omega)) (List.getElem?_eq_getElem _)
  have e : bounds3 xs.length cap (some (Iv lo)) none none = some (lo.toNat, xs.length, cap) := by
    have e3 : lo ≤ (xs.length : Int) := by omega
    have e4 : lo ≤ (cap : Int) := by omega
    simp [bounds3, bound, h0, e3, e4, hcap]
  rw [Slc_eq, e]
  refine hk _ fun j K h' j0 j1 => ?_
  have hne : (if cap = lo.toNat then some ad else (some ad).map (·.add (lo.toNat * 1))) = some (ad.add (lo.toNat * 1)) := by rw [if_neg (by omega)]; rfl
  show Idx 1 (.slice (if cap = lo.toNat then some ad else (some ad).map (·.add (lo.toNat * 1))) (xs.length - lo.toNat) (cap - lo.toNat)) (Iv j) K h' = _
  rw [hne, Idx_at, Idx_at, addr_add_add, show lo.toNat * 1 + j.toNat * 1 = (lo + j).toNat * 1 by omega]
  have : (0 ≤ j ∧ j < ((xs.length - lo.toNat : Nat) : Int)) = (0 ≤ lo + j ∧ lo + j < ((xs.length : Nat) : Int)) := by
    apply propext; constructor <;> intro q <;> omega
  rw [this]
section
variable {g : Nat} {lim : Int} {cs : List Cl} {F : List Nat} {r : Int} {K : Ret} {h : Heap}
theorem arena_Arena_Swap.no {i j : Int} (ha : ArR h g lim cs F) (hr : litO (clAt cs r) i = 0 ∨ litO (clAt cs r) j = 0) (hk : K (.bool false) h) : CallH Try.prog arena_Arena_Swap.id #[ptr g, Iv r, Iv i, Iv j] K h := by
  refine arena_Arena_Swap.ok ?_
  simp only [arena_Arena_Swap.pt]
  rw [go_eq]
  refine lit_q ha ?_
  by_cases c1 : litO (clAt cs r) i = 0
  · try simp (disch := first | assumption | omega | (apply At.mk; with_unfolding_all rfl)) only [↓go_eq, ↓ent_eq, Mv, NilC_at, Fld_at, add_mk, Nat.zero_add, Nat.add_zero, Add64, Sub64, Mul64, Quo64, Rem64, Neg64, Cvt64, CvtU8, CvtU16, CvtU32, CvtU64, AddU64, SubU64, MulU64, Shr64, Shr_u8, Shr_u16, Shr_u32, Shr_u64, And1, And31, And32, Eql64, Neq64, Bin_lss, Bin_leq, Bin_gtr, Bin_geq, Bin_bool_eql, Bin_bool_neq, Bin_ptr_nil_eql, Bin_ptr_nil_neq, Not_dec, Un_not, Pick_t, Pick_f, Pick_pos, Pick_neg, Gd_tt, Gd_tf, Gd_ft, Gd_ff, Gd_pos_t, Gd_neg_t, Gd_pos_f, Gd_neg_f, Gd_undef, If_t, If_f, If_pos, If_neg, CallF_eq, Max_two, Min_two, Len_rd, Len_own, Ld_blkE, Idx_rdN, Idx_ownN, Idx_rdE, Idx_ownE, IdxAE, LdA_two, Idx_at0, Ext_atE, Len_at, Int.toNat_natCast, Int.toNat_zero, Int.toNat_one, List.length_map, List.length_append, List.length_cons, List.length_nil, List.length_take, List.length_set, List.length_replicate, Bool.not_true, Bool.not_false, decide_true, decide_false, BEq.rfl, bne_self_eq_false, tf_beq, ft_beq, tf_bne, ft_bne, not_true_eq_false, not_false_eq_true, app]
    exact hk
  · try simp (disch := first | assumption | omega | (apply At.mk; with_unfolding_all rfl)) only [↓go_eq, ↓ent_eq, Mv, NilC_at, Fld_at, add_mk, Nat.zero_add, Nat.add_zero, Add64, Sub64, Mul64, Quo64, Rem64, Neg64, Cvt64, CvtU8, CvtU16, CvtU32, CvtU64, AddU64, SubU64, MulU64, Shr64, Shr_u8, Shr_u16, Shr_u32, Shr_u64, And1, And31, And32, Eql64, Neq64, Bin_lss, Bin_leq, Bin_gtr, Bin_geq, Bin_bool_eql, Bin_bool_neq, Bin_ptr_nil_eql, Bin_ptr_nil_neq, Not_dec, Un_not, Pick_t, Pick_f, Pick_pos, Pick_neg, Gd_tt, Gd_tf, Gd_ft, Gd_ff, Gd_pos_t, Gd_neg_t, Gd_pos_f, Gd_neg_f, Gd_undef, If_t, If_f, If_pos, If_neg, CallF_eq, Max_two, Min_two, Len_rd, Len_own, Ld_blkE, Idx_rdN, Idx_ownN, Idx_rdE, Idx_ownE, IdxAE, LdA_two, Idx_at0, Ext_atE, Len_at, Int.toNat_natCast, Int.toNat_zero, Int.toNat_one, List.length_map, List.length_append, List.length_cons, List.length_nil, List.length_take, List.length_set, List.length_replicate, Bool.not_true, Bool.not_false, decide_true, decide_false, BEq.rfl, bne_self_eq_false, tf_beq, ft_beq, tf_bne, ft_bne, not_true_eq_false, not_false_eq_true, app]
    refine lit_q ha ?_
    have c2 : litO (clAt cs r) j = 0 := hr.resolve_left c1
    try simp (disch := first | assumption | omega | (apply At.mk; with_unfolding_all rfl)) only [↓go_eq, ↓ent_eq, Mv, NilC_at, Fld_at, add_mk, Nat.zero_add, Nat.add_zero, Add64, Sub64, Mul64, Quo64, Rem64, Neg64, Cvt64, CvtU8, CvtU16, CvtU32, CvtU64, AddU64, SubU64, MulU64, Shr64, Shr_u8, Shr_u16, Shr_u32, Shr_u64, And1, And31, And32, Eql64, Neq64, Bin_lss, Bin_leq, Bin_gtr, Bin_geq, Bin_bool_eql, Bin_bool_neq, Bin_ptr_nil_eql, Bin_ptr_nil_neq, Not_dec, Un_not, Pick_t, Pick_f, Pick_pos, Pick_neg, Gd_tt, Gd_tf, Gd_ft, Gd_ff, Gd_pos_t, Gd_neg_t, Gd_pos_f, Gd_neg_f, Gd_undef, If_t, If_f, If_pos, If_neg, CallF_eq, Max_two, Min_two, Len_rd, Len_own, Ld_blkE, Idx_rdN, Idx_ownN, Idx_rdE, Idx_ownE, IdxAE, LdA_two, Idx_at0, Ext_atE, Len_at, Int.toNat_natCast, Int.toNat_zero, Int.toNat_one, List.length_map, List.length_append, List.length_cons, List.length_nil, List.length_take, List.length_set, List.length_replicate, Bool.not_true, Bool.not_false, decide_true, decide_false, BEq.rfl, bne_self_eq_false, tf_beq, ft_beq, tf_bne, ft_bne, not_true_eq_false, not_false_eq_true, app]
    exact hk
theorem arena_Arena_Swap.yes {k i j : Nat} {c : Cl} (ha : ArR h g lim cs F) (hc : cs[k]? = some c) (hg : c.gone = false) (hi : i < c.lits.length) (hj : j < c.lits.length) (h1 : c.lits.getD i 0 ≠ 0) (h2 : c.lits.getD j 0 ≠ 0)
    (hk : ∀ h', ArR h' g lim (cs.set k { c with lits := (c.lits.set i (c.lits.getD j 0)).set j (c.lits.getD i 0) }) F → Fr F h h' → K (.bool true) h') : CallH Try.prog arena_Arena_Swap.id #[ptr g, Iv (off cs k : Nat), Iv (i : Nat), Iv (j : Nat)] K h := by
  refine arena_Arena_Swap.ok ?_
  simp only [arena_Arena_Swap.pt]
  have hcl := clAt_live hc hg
  have e1 : litO (some c) (i : Nat) = c.lits.getD i 0 := by unfold litO; rw [if_pos (by omega)]; simp
  have e2 : litO (some c) (j : Nat) = c.lits.getD j 0 := by unfold litO; rw [if_pos (by omega)]; simp
  rw [go_eq]
  refine lit_q ha ?_
  rw [hcl, e1]
  try simp (disch := first | assumption | omega | (apply At.mk; with_unfolding_all rfl)) only [↓go_eq, ↓ent_eq, Mv, NilC_at, Fld_at, add_mk, Nat.zero_add, Nat.add_zero, Add64, Sub64, Mul64, Quo64, Rem64, Neg64, Cvt64, CvtU8, CvtU16, CvtU32, CvtU64, AddU64, SubU64, MulU64, Shr64, Shr_u8, Shr_u16, Shr_u32, Shr_u64, And1, And31, And32, Eql64, Neq64, Bin_lss, Bin_leq, Bin_gtr, Bin_geq, Bin_bool_eql, Bin_bool_neq, Bin_ptr_nil_eql, Bin_ptr_nil_neq, Not_dec, Un_not, Pick_t, Pick_f, Pick_pos, Pick_neg, Gd_tt, Gd_tf, Gd_ft, Gd_ff, Gd_pos_t, Gd_neg_t, Gd_pos_f, Gd_neg_f, Gd_undef, If_t, If_f, If_pos, If_neg, CallF_eq, Max_two, Min_two, Len_rd, Len_own, Ld_blkE, Idx_rdN, Idx_ownN, Idx_rdE, Idx_ownE, IdxAE, LdA_two, Idx_at0, Ext_atE, Len_at, Int.toNat_natCast, Int.toNat_zero, Int.toNat_one, List.length_map, List.length_append, List.length_cons, List.length_nil, List.length_take, List.length_set, List.length_replicate, Bool.not_true, Bool.not_false, decide_true, decide_false, BEq.rfl, bne_self_eq_false, tf_beq, ft_beq, tf_bne, ft_bne, not_true_eq_false, not_false_eq_true, app]
  refine lit_q ha ?_
  rw [hcl, e2]
  have hend := wds_end hc
  have wi := wds_at hc (j := 3 + i) (by omega)
  have wj := wds_at hc (j := 3 + j) (by omega)
  have ei : (enc c)[3 + i]? = some (c.lits.getD i 0) := by rw [← lit_at, List.getD_eq_getElem?_getD, List.getElem?_eq_getElem (by rw [enc_len]; omega)]; rfl
  have ej : (enc c)[3 + j]? = some (c.lits.getD j 0) := by rw [← lit_at, List.getD_eq_getElem?_getD, List.getElem?_eq_getElem (by rw [enc_len]; omega)]; rfl
  rw [ei] at wi
  rw [ej] at wj
  have enc2 : enc { c with lits := (c.lits.set i (c.lits.getD j 0)).set j (c.lits.getD i 0) } = ((enc c).set (3 + i) (c.lits.getD j 0)).set (3 + j) (c.lits.getD i 0) := by
    unfold enc
    have eh : hd { c with lits := (c.lits.set i (c.lits.getD j 0)).set j (c.lits.getD i 0) } = hd c := by unfold hd; simp
    rw [eh]
    show [_, _, _] ++ _ = _
    rw [List.set_append_right _ _ (by simp), List.set_append_right _ _ (by simp)]
    simp
  have cs2 : ((wds cs).set (off cs k + (3 + i)) (c.lits.getD j 0)).set (off cs k + (3 + j)) (c.lits.getD i 0) = wds (cs.set k { c with lits := (c.lits.set i (c.lits.getD j 0)).set j (c.lits.getD i 0) }) := by
    have s1 := wds_set hc (c' := { c with lits := c.lits.set i (c.lits.getD j 0) }) (j := 3 + i) (x := c.lits.getD j 0) (by omega) (by
      unfold enc
      have eh : hd { c with lits := c.lits.set i (c.lits.getD j 0) } = hd c := by unfold hd; simp
      rw [eh, List.set_append_right _ _ (by simp)]; simp)
    rw [s1]
    have hl := (List.getElem?_eq_some_iff.1 hc).1
    have hc1 : (cs.set k { c with lits := c.lits.set i (c.lits.getD j 0) })[k]? = some { c with lits := c.lits.set i (c.lits.getD j 0) } := by rw [List.getElem?_set, if_pos rfl, if_pos hl]
    have s2 := wds_set hc1 (c' := { c with lits := (c.lits.set i (c.lits.getD j 0)).set j (c.lits.getD i 0) }) (j := 3 + j) (x := c.lits.getD i 0) (by simp; omega) (by
      unfold enc
      have eh : hd { c with lits := (c.lits.set i (c.lits.getD j 0)).set j (c.lits.getD i 0) } = hd { c with lits := c.lits.set i (c.lits.getD j 0) } := by unfold hd; simp
      rw [eh, List.set_append_right _ _ (by simp)]; simp)
    rw [off_set hc (by simp), List.set_set] at s2
    exact s2
  obtain ⟨⟨wv, wb, mb, lv, b1, o1, m1, rfl, d1, d2, d3, nd, hm⟩, bd, gu⟩ := ha
  have o1r := o1.rd
  have hwl : ((wds cs).map Iv).length = (wds cs).length := List.length_map _
  try simp (disch := first | assumption | omega | (apply At.mk; with_unfolding_all rfl)) only [↓go_eq, ↓ent_eq, Mv, NilC_at, Fld_at, add_mk, Nat.zero_add, Nat.add_zero, Add64, Sub64, Mul64, Quo64, Rem64, Neg64, Cvt64, CvtU8, CvtU16, CvtU32, CvtU64, AddU64, SubU64, MulU64, Shr64, Shr_u8, Shr_u16, Shr_u32, Shr_u64, And1, And31, And32, Eql64, Neq64, Bin_lss, Bin_leq, Bin_gtr, Bin_geq, Bin_bool_eql, Bin_bool_neq, Bin_ptr_nil_eql, Bin_ptr_nil_neq, Not_dec, Un_not, Pick_t, Pick_f, Pick_pos, Pick_neg, Gd_tt, Gd_tf, Gd_ft, Gd_ff, Gd_pos_t, Gd_neg_t, Gd_pos_f, Gd_neg_f, Gd_undef, If_t, If_f, If_pos, If_neg, CallF_eq, Max_two, Min_two, Len_rd, Len_own, Ld_blkE, Idx_rdN, Idx_ownN, Idx_rdE, Idx_ownE, IdxAE, LdA_two, Idx_at0, Ext_atE, Len_at, Int.toNat_natCast, Int.toNat_zero, Int.toNat_one, List.length_map, List.length_append, List.length_cons, List.length_nil, List.length_take, List.length_set, List.length_replicate, Bool.not_true, Bool.not_false, decide_true, decide_false, BEq.rfl, bne_self_eq_false, tf_beq, ft_beq, tf_bne, ft_bne, not_true_eq_false, not_false_eq_true, app]
  refine Own.slc_lo o1 (by omega) (by omega) fun v' hv' => ?_
  have ai : At ((wds cs).map Iv) ((off cs k : Nat) + 3 + (i : Nat) : Int).toNat (Iv (c.lits.getD i 0)) := ⟨by rw [show ((off cs k : Nat) + 3 + (i : Nat) : Int).toNat = off cs k + (3 + i) by omega, List.getElem?_map, wi]; rfl⟩
  have aj : At ((wds cs).map Iv) ((off cs k : Nat) + 3 + (j : Nat) : Int).toNat (Iv (c.lits.getD j 0)) := ⟨by rw [show ((off cs k : Nat) + 3 + (j : Nat) : Int).toNat = off cs k + (3 + j) by omega, List.getElem?_map, wj]; rfl⟩
  rw [hv' (j : Nat) _ _ (by omega) (by omega)]
  try simp (disch := first | assumption | omega | (apply At.mk; with_unfolding_all rfl)) only [↓go_eq, ↓ent_eq, Mv, NilC_at, Fld_at, add_mk, Nat.zero_add, Nat.add_zero, Add64, Sub64, Mul64, Quo64, Rem64, Neg64, Cvt64, CvtU8, CvtU16, CvtU32, CvtU64, AddU64, SubU64, MulU64, Shr64, Shr_u8, Shr_u16, Shr_u32, Shr_u64, And1, And31, And32, Eql64, Neq64, Bin_lss, Bin_leq, Bin_gtr, Bin_geq, Bin_bool_eql, Bin_bool_neq, Bin_ptr_nil_eql, Bin_ptr_nil_neq, Not_dec, Un_not, Pick_t, Pick_f, Pick_pos, Pick_neg, Gd_tt, Gd_tf, Gd_ft, Gd_ff, Gd_pos_t, Gd_neg_t, Gd_pos_f, Gd_neg_f, Gd_undef, If_t, If_f, If_pos, If_neg, CallF_eq, Max_two, Min_two, Len_rd, Len_own, Ld_blkE, Idx_rdN, Idx_ownN, Idx_rdE, Idx_ownE, IdxAE, LdA_two, Idx_at0, Ext_atE, Len_at, Int.toNat_natCast, Int.toNat_zero, Int.toNat_one, List.length_map, List.length_append, List.length_cons, List.length_nil, List.length_take, List.length_set, List.length_replicate, Bool.not_true, Bool.not_false, decide_true, decide_false, BEq.rfl, bne_self_eq_false, tf_beq, ft_beq, tf_bne, ft_bne, not_true_eq_false, not_false_eq_true, app]
  rw [hv' (i : Nat) _ _ (by omega) (by omega)]
  try simp (disch := first | assumption | omega | (apply At.mk; with_unfolding_all rfl)) only [↓go_eq, ↓ent_eq, Mv, NilC_at, Fld_at, add_mk, Nat.zero_add, Nat.add_zero, Add64, Sub64, Mul64, Quo64, Rem64, Neg64, Cvt64, CvtU8, CvtU16, CvtU32, CvtU64, AddU64, SubU64, MulU64, Shr64, Shr_u8, Shr_u16, Shr_u32, Shr_u64, And1, And31, And32, Eql64, Neq64, Bin_lss, Bin_leq, Bin_gtr, Bin_geq, Bin_bool_eql, Bin_bool_neq, Bin_ptr_nil_eql, Bin_ptr_nil_neq, Not_dec, Un_not, Pick_t, Pick_f, Pick_pos, Pick_neg, Gd_tt, Gd_tf, Gd_ft, Gd_ff, Gd_pos_t, Gd_neg_t, Gd_pos_f, Gd_neg_f, Gd_undef, If_t, If_f, If_pos, If_neg, CallF_eq, Max_two, Min_two, Len_rd, Len_own, Ld_blkE, Idx_rdN, Idx_ownN, Idx_rdE, Idx_ownE, IdxAE, LdA_two, Idx_at0, Ext_atE, Len_at, Int.toNat_natCast, Int.toNat_zero, Int.toNat_one, List.length_map, List.length_append, List.length_cons, List.length_nil, List.length_take, List.length_set, List.length_replicate, Bool.not_true, Bool.not_false, decide_true, decide_false, BEq.rfl, bne_self_eq_false, tf_beq, ft_beq, tf_bne, ft_bne, not_true_eq_false, not_false_eq_true, app]
  rw [hv' (i : Nat) _ _ (by omega) (by omega)]
  try simp (disch := first | assumption | omega | (apply At.mk; with_unfolding_all rfl)) only [↓go_eq, ↓ent_eq, Mv, NilC_at, Fld_at, add_mk, Nat.zero_add, Nat.add_zero, Add64, Sub64, Mul64, Quo64, Rem64, Neg64, Cvt64, CvtU8, CvtU16, CvtU32, CvtU64, AddU64, SubU64, MulU64, Shr64, Shr_u8, Shr_u16, Shr_u32, Shr_u64, And1, And31, And32, Eql64, Neq64, Bin_lss, Bin_leq, Bin_gtr, Bin_geq, Bin_bool_eql, Bin_bool_neq, Bin_ptr_nil_eql, Bin_ptr_nil_neq, Not_dec, Un_not, Pick_t, Pick_f, Pick_pos, Pick_neg, Gd_tt, Gd_tf, Gd_ft, Gd_ff, Gd_pos_t, Gd_neg_t, Gd_pos_f, Gd_neg_f, Gd_undef, If_t, If_f, If_pos, If_neg, CallF_eq, Max_two, Min_two, Len_rd, Len_own, Ld_blkE, Idx_rdN, Idx_ownN, Idx_rdE, Idx_ownE, IdxAE, LdA_two, Idx_at0, Ext_atE, Len_at, Int.toNat_natCast, Int.toNat_zero, Int.toNat_one, List.length_map, List.length_append, List.length_cons, List.length_nil, List.length_take, List.length_set, List.length_replicate, Bool.not_true, Bool.not_false, decide_true, decide_false, BEq.rfl, bne_self_eq_false, tf_beq, ft_beq, tf_bne, ft_bne, not_true_eq_false, not_false_eq_true, app]
  refine o1.put (by omega) (by omega) rfl fun h2 o2 f2 s2 => ?_
  try simp (disch := first | assumption | omega | (apply At.mk; with_unfolding_all rfl)) only [↓go_eq, ↓ent_eq, Mv, NilC_at, Fld_at, add_mk, Nat.zero_add, Nat.add_zero, Add64, Sub64, Mul64, Quo64, Rem64, Neg64, Cvt64, CvtU8, CvtU16, CvtU32, CvtU64, AddU64, SubU64, MulU64, Shr64, Shr_u8, Shr_u16, Shr_u32, Shr_u64, And1, And31, And32, Eql64, Neq64, Bin_lss, Bin_leq, Bin_gtr, Bin_geq, Bin_bool_eql, Bin_bool_neq, Bin_ptr_nil_eql, Bin_ptr_nil_neq, Not_dec, Un_not, Pick_t, Pick_f, Pick_pos, Pick_neg, Gd_tt, Gd_tf, Gd_ft, Gd_ff, Gd_pos_t, Gd_neg_t, Gd_pos_f, Gd_neg_f, Gd_undef, If_t, If_f, If_pos, If_neg, CallF_eq, Max_two, Min_two, Len_rd, Len_own, Ld_blkE, Idx_rdN, Idx_ownN, Idx_rdE, Idx_ownE, IdxAE, LdA_two, Idx_at0, Ext_atE, Len_at, Int.toNat_natCast, Int.toNat_zero, Int.toNat_one, List.length_map, List.length_append, List.length_cons, List.length_nil, List.length_take, List.length_set, List.length_replicate, Bool.not_true, Bool.not_false, decide_true, decide_false, BEq.rfl, bne_self_eq_false, tf_beq, ft_beq, tf_bne, ft_bne, not_true_eq_false, not_false_eq_true, app]
  rw [hv' (j : Nat) _ _ (by omega) (by omega)]
  try simp (disch := first | assumption | omega | (apply At.mk; with_unfolding_all rfl)) only [↓go_eq, ↓ent_eq, Mv, NilC_at, Fld_at, add_mk, Nat.zero_add, Nat.add_zero, Add64, Sub64, Mul64, Quo64, Rem64, Neg64, Cvt64, CvtU8, CvtU16, CvtU32, CvtU64, AddU64, SubU64, MulU64, Shr64, Shr_u8, Shr_u16, Shr_u32, Shr_u64, And1, And31, And32, Eql64, Neq64, Bin_lss, Bin_leq, Bin_gtr, Bin_geq, Bin_bool_eql, Bin_bool_neq, Bin_ptr_nil_eql, Bin_ptr_nil_neq, Not_dec, Un_not, Pick_t, Pick_f, Pick_pos, Pick_neg, Gd_tt, Gd_tf, Gd_ft, Gd_ff, Gd_pos_t, Gd_neg_t, Gd_pos_f, Gd_neg_f, Gd_undef, If_t, If_f, If_pos, If_neg, CallF_eq, Max_two, Min_two, Len_rd, Len_own, Ld_blkE, Idx_rdN, Idx_ownN, Idx_rdE, Idx_ownE, IdxAE, LdA_two, Idx_at0, Ext_atE, Len_at, Int.toNat_natCast, Int.toNat_zero, Int.toNat_one, List.length_map, List.length_append, List.length_cons, List.length_nil, List.length_take, List.length_set, List.length_replicate, Bool.not_true, Bool.not_false, decide_true, decide_false, BEq.rfl, bne_self_eq_false, tf_beq, ft_beq, tf_bne, ft_bne, not_true_eq_false, not_false_eq_true, app]
  refine o2.put (by omega) (by rw [List.length_set]; omega) rfl fun h3 o3 f3 s3 => ?_
  try simp (disch := first | assumption | omega | (apply At.mk; with_unfolding_all rfl)) only [↓go_eq, ↓ent_eq, Mv, NilC_at, Fld_at, add_mk, Nat.zero_add, Nat.add_zero, Add64, Sub64, Mul64, Quo64, Rem64, Neg64, Cvt64, CvtU8, CvtU16, CvtU32, CvtU64, AddU64, SubU64, MulU64, Shr64, Shr_u8, Shr_u16, Shr_u32, Shr_u64, And1, And31, And32, Eql64, Neq64, Bin_lss, Bin_leq, Bin_gtr, Bin_geq, Bin_bool_eql, Bin_bool_neq, Bin_ptr_nil_eql, Bin_ptr_nil_neq, Not_dec, Un_not, Pick_t, Pick_f, Pick_pos, Pick_neg, Gd_tt, Gd_tf, Gd_ft, Gd_ff, Gd_pos_t, Gd_neg_t, Gd_pos_f, Gd_neg_f, Gd_undef, If_t, If_f, If_pos, If_neg, CallF_eq, Max_two, Min_two, Len_rd, Len_own, Ld_blkE, Idx_rdN, Idx_ownN, Idx_rdE, Idx_ownE, IdxAE, LdA_two, Idx_at0, Ext_atE, Len_at, Int.toNat_natCast, Int.toNat_zero, Int.toNat_one, List.length_map, List.length_append, List.length_cons, List.length_nil, List.length_take, List.length_set, List.length_replicate, Bool.not_true, Bool.not_false, decide_true, decide_false, BEq.rfl, bne_self_eq_false, tf_beq, ft_beq, tf_bne, ft_bne, not_true_eq_false, not_false_eq_true, app]
  refine hk h3 ⟨⟨wv, wb, mb, lv, (b1.fr f2 d1).fr f3 d1, ?_, (m1.fr f2 d2).fr f3 d2, rfl, d1, d2, d3, nd, fun r => (hm r).trans (live_set hc (c' := { c with lits := (c.lits.set i (c.lits.getD j 0)).set j (c.lits.getD i 0) }) (by simp) rfl).symm⟩, ?_, fun x hx => ?_⟩ ((f2.trans f3).mono (by simp; intro b hb; exact .inr (.inr hb)))
  · rw [← cs2, List.map_set, List.map_set]
    rw [show ((off cs k : Nat) + 3 + (i : Nat) : Int).toNat = off cs k + (3 + i) by omega, show ((off cs k : Nat) + 3 + (j : Nat) : Int).toNat = off cs k + (3 + j) by omega] at o3
    exact o3
  · rw [← cs2]; simpa using bd
  · rcases set_mem hx with q | rfl
    · exact gu x q
    · exact gu c (List.mem_of_getElem? hc)
end
/-- One clause of the model: its block, the block of its literals. -/
def MB (h : Heap) (r : Int) (n : Nat) (gn : Bool) (b l : Nat) : Prop :=
  (∃ (u w : Int) (q : Bool), Blk h b [Iv r, Iv u, Iv w, .slice (some ⟨l, 0, none⟩) n n, .bool q, .bool gn]) ∧ ∃ xs : List Int, xs.length = n ∧ Blk h l (xs.map Iv)
theorem MB.fr {h h' : Heap} {r : Int} {n b l : Nat} {gn : Bool} {S : List Nat} (m : MB h r n gn b l) (f : Fr S h h') (hb : b ∉ S) (hl : l ∉ S) : MB h' r n gn b l := by
  obtain ⟨⟨u, w, q, b1⟩, xs, h1, o1⟩ := m
  exact ⟨⟨u, w, q, b1.fr f hb⟩, xs, h1, o1.fr f hl⟩
theorem MB.lt {h : Heap} {r : Int} {n b l : Nat} {gn : Bool} (m : MB h r n gn b l) : b < h.size ∧ l < h.size := by
  obtain ⟨⟨u, w, q, b1⟩, xs, h1, o1⟩ := m
  exact ⟨b1.lt, o1.lt⟩
/-- The arena and its model. -/
structure AS (N g : Nat) (h : Heap) (cs : List Cl) (ps : List (Nat × Nat)) (av : Value) (F ab : List Nat) : Prop where
  ar : ArR h g 0 cs F
  len : ps.length = cs.length
  md : ∀ (k : Nat) (c : Cl) (p : Nat × Nat), cs[k]? = some c → ps[k]? = some p → MB h (off cs k : Nat) c.lits.length c.gone p.1 p.2
  nz : ∀ c ∈ cs, ∀ x ∈ c.lits, x ≠ 0
  ow : Own h av (ps.map fun p => ptr p.1) ab
  dj : ∀ (j k : Nat) (p q : Nat × Nat), ps[j]? = some p → ps[k]? = some q → (p.1 = q.1 → j = k) ∧ (p.2 = q.2 → j = k) ∧ p.1 ≠ q.2
  loF : ∀ b ∈ F, N ≤ b
  loA : ∀ b ∈ ab, N ≤ b
  loP : ∀ p ∈ ps, N ≤ p.1 ∧ N ≤ p.2
  sF : ∀ p ∈ ps, (p.1 ∉ F ∧ p.2 ∉ F) ∧ p.1 ∉ ab ∧ p.2 ∉ ab
  sA : ∀ b ∈ F, b ∉ ab
section
variable {N g : Nat} {h h' : Heap} {cs : List Cl} {ps : List (Nat × Nat)} {av : Value} {F ab S : List Nat}
theorem AS.ltP (a : AS N g h cs ps av F ab) {p : Nat × Nat} (hp : p ∈ ps) : p.1 < h.size ∧ p.2 < h.size := by
  obtain ⟨k, hk⟩ := List.getElem?_of_mem hp
  have hl := (List.getElem?_eq_some_iff.1 hk).1
  exact (a.md k _ p (List.getElem?_eq_getElem (by rw [← a.len]; exact hl)) hk).lt
theorem AS.fr (a : AS N g h cs ps av F ab) (f : Fr S h h') (hF : ∀ b ∈ S, b ∉ F ∧ b ∉ ab ∧ ∀ p ∈ ps, b ≠ p.1 ∧ b ≠ p.2) : AS N g h' cs ps av F ab :=
  ⟨a.ar.fr f (fun b hb hS => (hF b hS).1 hb), a.len, fun k c p hc hp => (a.md k c p hc hp).fr f (fun hS => ((hF _ hS).2.2 p (List.mem_of_getElem? hp)).1 rfl) (fun hS => ((hF _ hS).2.2 p (List.mem_of_getElem? hp)).2 rfl), a.nz, a.ow.fr f (fun b hb hS => (hF b hS).2.1 hb), a.dj, a.loF, a.loA, a.loP, a.sF, a.sA⟩
theorem AS.fr0 (a : AS N g h cs ps av F ab) (f : Fr [] h h') : AS N g h' cs ps av F ab := a.fr f (by simp)
/-- One clause is changed, in the arena and in the model. -/
theorem AS.upd (a : AS N g h cs ps av F ab) {k : Nat} {c c' : Cl} {p : Nat × Nat} (hc : cs[k]? = some c) (hp : ps[k]? = some p) (hl : c'.lits.length = c.lits.length) (hz : ∀ x ∈ c'.lits, x ≠ 0) (f : Fr (p.1 :: p.2 :: F) h h') (ar : ArR h' g 0 (cs.set k c') F) (m : MB h' (off cs k : Nat) c'.lits.length c'.gone p.1 p.2) : AS N g h' (cs.set k c') ps av F ab := by
  have hpm := List.mem_of_getElem? hp
  refine ⟨ar, by rw [List.length_set]; exact a.len, fun j d q hd hq => ?_, fun d hd => ?_, a.ow.fr f (fun b hb hm => ?_), a.dj, a.loF, a.loA, a.loP, a.sF, a.sA⟩
  · rw [off_set hc hl]
    rw [List.getElem?_set] at hd
    by_cases e : k = j
    · subst e
      rw [if_pos rfl, if_pos (List.getElem?_eq_some_iff.1 hc).1] at hd
      cases hd
      rw [hp] at hq; cases hq
      exact m
    · rw [if_neg e] at hd
      have hqm := List.mem_of_getElem? hq
      have d1 := a.dj j k q p hq hp
      have d2 := a.dj k j p q hp hq
      refine (a.md j d q hd hq).fr f (fun hm => ?_) (fun hm => ?_)
      · rcases List.mem_cons.1 hm with q1 | hm
        · exact e (d1.1 q1).symm
        · rcases List.mem_cons.1 hm with q1 | hm
          · exact d1.2.2 q1
          · exact (a.sF q hqm).1.1 hm
      · rcases List.mem_cons.1 hm with q1 | hm
        · exact d2.2.2 q1.symm
        · rcases List.mem_cons.1 hm with q1 | hm
          · exact e (d1.2.1 q1).symm
          · exact (a.sF q hqm).1.2 hm
  · rcases set_mem hd with q | rfl
    · exact a.nz d q
    · exact hz
  · rcases List.mem_cons.1 hm with q1 | hm
    · exact (a.sF p hpm).2.1 (q1 ▸ hb)
    · rcases List.mem_cons.1 hm with q1 | hm
      · exact (a.sF p hpm).2.2 (q1 ▸ hb)
      · exact a.sA b hm hb
theorem AS.frP (a : AS N g h cs ps av F ab) {p : Nat × Nat} (hp : p ∈ ps) {h0 : Heap} (hN : h0.size ≤ N) (f0 : Fr [] h0 h) (f : Fr (p.1 :: p.2 :: F) h h') : Fr [] h0 h' :=
  f0.trans' f fun b hb => .inr (by
    have := a.loP p hp
    rcases List.mem_cons.1 hb with rfl | hb
    · omega
    · rcases List.mem_cons.1 hb with rfl | hb
      · omega
      · have := a.loF b hb; omega)
end
end Go.Proofs.Ythekbpaekopmfaa
