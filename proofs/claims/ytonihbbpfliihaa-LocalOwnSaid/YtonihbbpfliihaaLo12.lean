/- What is told of variables, plain, and the example. Conditions: those typed ahead of each theorem. -/
import Derived.Test.YtonihbbpfliihaaLo11
namespace Go.Proofs.Ytonihbbpfliihaa
open Go.Pt
set_option linter.unusedVariables false
set_option linter.unusedSimpArgs false
/-- How many clauses break, and make. -/
def brT (a : List Bool) (F : List (List Int)) (v : Nat) : Int := (F.map fun c => if hB (litT a) c = 1 ∧ sB (litT a) c = (v : Nat) then 1 else 0).sum
def mkT (a : List Bool) (F : List (List Int)) (v : Nat) : Int := (F.map fun c => if hB (litT a) c = 0 then cntV c v else 0).sum
theorem smI_map {F : List (List Int)} {g : Nat → Int} {f : List Int → Int} (h : ∀ (i : Nat) (c : List Int), F[i]? = some c → g i = f c) : smI F.length g = (F.map f).sum := by
  have e : (List.range F.length).map g = F.map f := by
    refine List.ext_getElem (by simp) fun i h1 h2 => ?_
    rw [List.getElem_map, List.getElem_map, List.getElem_range]
    exact h i _ (List.getElem?_eq_getElem (by simpa using h2))
  unfold smI; rw [e]
section
variable {n : Nat} {m : LMod} {F : List (List Int)} {a z : List Bool} {few fl : Int} (r : Rt n m F a z few fl)
include r
theorem Rt.brv {v : Nat} (hv : v ≤ n) : m.br v = brT a F v := by
  rw [r.cnt.br v hv, r.ek]
  exact smI_map fun i c hc => by rw [r.H i c hc, r.S i c hc]; simp
theorem Rt.mav {v : Nat} (hv : v ≤ n) : m.ma v = mkT a F v := by
  rw [r.cnt.ma v hv, r.ek]
  exact smI_map fun i c hc => by rw [r.H i c hc, r.L i c hc]; simp
theorem Rt.rowm (i : Nat) : i ∈ m.row ↔ ∃ c, F[i]? = some c ∧ hB (litT a) c = 0 := by
  rw [r.cnt.mem, r.ek]
  constructor
  · rintro ⟨h1, _, h2⟩
    obtain ⟨c, hc, _⟩ := getF h1
    exact ⟨c, hc, by rw [← r.H i c hc]; exact h2⟩
  · rintro ⟨c, hc, h2⟩
    exact ⟨(someF hc).1, rfl, by rw [r.H i c hc]; exact h2⟩
end
theorem eg_F : fmT [[1, 2], [-1]] = [[1, 2], [-1]] := by decide
theorem eg_un : unT [false, false] [[1, 2], [-1]] = 1 := by decide
theorem eg_br : brT [false, false] [[1, 2], [-1]] 1 = 1 := by decide
theorem eg_mk : mkT [false, false] [[1, 2], [-1]] 1 = 1 := by decide
theorem Lo.nilL (h : Heap) : RdL h nilS [] [] := ⟨(Own.nil h).rd, rfl, fun i c hc => by cases hc⟩
set_option maxHeartbeats 4000000 in
theorem bradawllaw14_fit.spec {K : Ret} {h : Heap} (hk : ∀ h', Fr [] h h' → K (.bool true) h') : CallH Try.prog bradawllaw14_fit.id #[] K h := by
  refine bradawllaw14_fit.ok ?_
  simp only [bradawllaw14_fit.pt]
  rw [go_eq]
  refine BldS_two rfl rfl fun h1 o1 f1 s1 => ?_
  rw [go_eq]
  refine BldS_one rfl rfl fun h2 o2 f2 s2 => ?_
  rw [go_eq]
  refine BldS_two rfl rfl fun h3 o3 f3 s3 => ?_
  rw [go_eq, Bld_two rfl rfl, go_eq]
  refine BldS_two rfl rfl fun h4 o4 f4 s4 => ?_
  have o14 := ((o1.fr f2 (by simp)).fr f3 (by simp)).fr f4 (by simp)
  have o24 := (o2.fr f3 (by simp)).fr f4 (by simp)
  have o34 := o3.fr f4 (by simp)
  have hw : RdL h4 (.slice (some ⟨h2.size, 0, none⟩) 2 2) [[1, 2], [-1]] [.slice (some ⟨h.size, 0, none⟩) 2 2, .slice (some ⟨h1.size, 0, none⟩) 1 1] := ⟨o34.rd, rfl, fun i c hc => by
    match i, hc with
    | 0, hc => exact ⟨_, ⟨rfl⟩, by cases hc; exact o14.rd⟩
    | 1, hc => exact ⟨_, ⟨rfl⟩, by cases hc; exact o24.rd⟩
    | i + 2, hc => cases hc⟩
  rw [go_eq, CallF_eq]
  refine local_New.spec (n := 2) (a := [false, false]) (by decide) (by decide) (by decide) (by intro c hc; simp at hc; rcases hc with rfl | rfl <;> intro l hl <;> simp at hl <;> (try rcases hl with rfl | rfl) <;> (try subst hl) <;> (unfold LitOk; omega)) hw o4.rd (by decide) (fun q => absurd rfl q) fun _ h5 sb M R m s r f5 => ?_
  rw [eg_F] at s r
  rw [eg_un] at r
  rw [go_eq, Ext_atE ⟨rfl⟩, go_eq, Ext_atE ⟨rfl⟩, go_eq, Bld_fst rfl, go_eq, CallF_eq]
  refine local_New.spec (n := 2) (a := []) (by decide) (by decide) (by decide) (by intro c hc; cases hc) (Lo.nilL h5) (Own.nil h5).rd (by decide) (fun _ h6 f6 => ?_) (fun q => by cases q)
  have s6 := s.fr f6
  have hun := r.un
  rw [eg_un] at hun
  have hb := r.brv (v := 1) (by decide)
  have hm := r.mav (v := 1) (by decide)
  rw [eg_br] at hb
  rw [eg_mk] at hm
  have h0 : (0 : Nat) ∈ m.row := (r.rowm 0).2 ⟨[1, 2], rfl, by decide⟩
  have hrow : m.row = [0] := by
    match hq : m.row, hun with
    | [x], _ => rw [hq] at h0; simp at h0; rw [h0]
  try simp (disch := first | assumption | omega | (apply At.mk; with_unfolding_all rfl)) only [↓go_eq, ↓ent_eq, Mv, NilC_at, Fld_at, add_mk, Nat.zero_add, Nat.add_zero, Add64, Sub64, Mul64, Quo64, Rem64, Neg64, Cvt64, CvtU8, CvtU16, CvtU32, CvtU64, AddU64, SubU64, MulU64, Shr64, Shr_u8, Shr_u16, Shr_u32, Shr_u64, And1, And31, And32, Eql64, Neq64, Bin_lss, Bin_leq, Bin_gtr, Bin_geq, Bin_bool_eql, Bin_bool_neq, Bin_ptr_nil_eql, Bin_ptr_nil_neq, Not_dec, Un_not, Pick_t, Pick_f, Pick_pos, Pick_neg, Gd_tt, Gd_tf, Gd_ft, Gd_ff, Gd_pos_t, Gd_neg_t, Gd_pos_f, Gd_neg_f, Gd_undef, If_t, If_f, If_pos, If_neg, CallF_eq, Max_two, Min_two, Len_rd, Len_own, Ld_blkE, Idx_rdN, Idx_ownN, Idx_rdE, Idx_ownE, IdxAE, LdA_two, Idx_at0, Ext_atE, Len_at, Int.toNat_natCast, Int.toNat_zero, Int.toNat_one, List.length_map, List.length_append, List.length_cons, List.length_nil, List.length_take, List.length_set, List.length_replicate, Bool.not_true, Bool.not_false, decide_true, decide_false, BEq.rfl, bne_self_eq_false, tf_beq, ft_beq, tf_bne, ft_bne, not_true_eq_false, not_false_eq_true, app]
  refine unsat_q s6 ?_
  rw [hun]
  try simp (disch := first | assumption | omega | (apply At.mk; with_unfolding_all rfl)) only [↓go_eq, ↓ent_eq, Mv, NilC_at, Fld_at, add_mk, Nat.zero_add, Nat.add_zero, Add64, Sub64, Mul64, Quo64, Rem64, Neg64, Cvt64, CvtU8, CvtU16, CvtU32, CvtU64, AddU64, SubU64, MulU64, Shr64, Shr_u8, Shr_u16, Shr_u32, Shr_u64, And1, And31, And32, Eql64, Neq64, Bin_lss, Bin_leq, Bin_gtr, Bin_geq, Bin_bool_eql, Bin_bool_neq, Bin_ptr_nil_eql, Bin_ptr_nil_neq, Not_dec, Un_not, Pick_t, Pick_f, Pick_pos, Pick_neg, Gd_tt, Gd_tf, Gd_ft, Gd_ff, Gd_pos_t, Gd_neg_t, Gd_pos_f, Gd_neg_f, Gd_undef, If_t, If_f, If_pos, If_neg, CallF_eq, Max_two, Min_two, Len_rd, Len_own, Ld_blkE, Idx_rdN, Idx_ownN, Idx_rdE, Idx_ownE, IdxAE, LdA_two, Idx_at0, Ext_atE, Len_at, Int.toNat_natCast, Int.toNat_zero, Int.toNat_one, List.length_map, List.length_append, List.length_cons, List.length_nil, List.length_take, List.length_set, List.length_replicate, Bool.not_true, Bool.not_false, decide_true, decide_false, BEq.rfl, bne_self_eq_false, tf_beq, ft_beq, tf_bne, ft_bne, not_true_eq_false, not_false_eq_true, app]
  refine make_q s6 ?_
  rw [if_pos (by decide), show (1 : Int).toNat = 1 from rfl, hm]
  try simp (disch := first | assumption | omega | (apply At.mk; with_unfolding_all rfl)) only [↓go_eq, ↓ent_eq, Mv, NilC_at, Fld_at, add_mk, Nat.zero_add, Nat.add_zero, Add64, Sub64, Mul64, Quo64, Rem64, Neg64, Cvt64, CvtU8, CvtU16, CvtU32, CvtU64, AddU64, SubU64, MulU64, Shr64, Shr_u8, Shr_u16, Shr_u32, Shr_u64, And1, And31, And32, Eql64, Neq64, Bin_lss, Bin_leq, Bin_gtr, Bin_geq, Bin_bool_eql, Bin_bool_neq, Bin_ptr_nil_eql, Bin_ptr_nil_neq, Not_dec, Un_not, Pick_t, Pick_f, Pick_pos, Pick_neg, Gd_tt, Gd_tf, Gd_ft, Gd_ff, Gd_pos_t, Gd_neg_t, Gd_pos_f, Gd_neg_f, Gd_undef, If_t, If_f, If_pos, If_neg, CallF_eq, Max_two, Min_two, Len_rd, Len_own, Ld_blkE, Idx_rdN, Idx_ownN, Idx_rdE, Idx_ownE, IdxAE, LdA_two, Idx_at0, Ext_atE, Len_at, Int.toNat_natCast, Int.toNat_zero, Int.toNat_one, List.length_map, List.length_append, List.length_cons, List.length_nil, List.length_take, List.length_set, List.length_replicate, Bool.not_true, Bool.not_false, decide_true, decide_false, BEq.rfl, bne_self_eq_false, tf_beq, ft_beq, tf_bne, ft_bne, not_true_eq_false, not_false_eq_true, app]
  refine break_q s6 ?_
  rw [if_pos (by decide), show (1 : Int).toNat = 1 from rfl, hb]
  try simp (disch := first | assumption | omega | (apply At.mk; with_unfolding_all rfl)) only [↓go_eq, ↓ent_eq, Mv, NilC_at, Fld_at, add_mk, Nat.zero_add, Nat.add_zero, Add64, Sub64, Mul64, Quo64, Rem64, Neg64, Cvt64, CvtU8, CvtU16, CvtU32, CvtU64, AddU64, SubU64, MulU64, Shr64, Shr_u8, Shr_u16, Shr_u32, Shr_u64, And1, And31, And32, Eql64, Neq64, Bin_lss, Bin_leq, Bin_gtr, Bin_geq, Bin_bool_eql, Bin_bool_neq, Bin_ptr_nil_eql, Bin_ptr_nil_neq, Not_dec, Un_not, Pick_t, Pick_f, Pick_pos, Pick_neg, Gd_tt, Gd_tf, Gd_ft, Gd_ff, Gd_pos_t, Gd_neg_t, Gd_pos_f, Gd_neg_f, Gd_undef, If_t, If_f, If_pos, If_neg, CallF_eq, Max_two, Min_two, Len_rd, Len_own, Ld_blkE, Idx_rdN, Idx_ownN, Idx_rdE, Idx_ownE, IdxAE, LdA_two, Idx_at0, Ext_atE, Len_at, Int.toNat_natCast, Int.toNat_zero, Int.toNat_one, List.length_map, List.length_append, List.length_cons, List.length_nil, List.length_take, List.length_set, List.length_replicate, Bool.not_true, Bool.not_false, decide_true, decide_false, BEq.rfl, bne_self_eq_false, tf_beq, ft_beq, tf_bne, ft_bne, not_true_eq_false, not_false_eq_true, app]
  refine clauses_q s6 ?_
  rw [r.ek]
  try simp (disch := first | assumption | omega | (apply At.mk; with_unfolding_all rfl)) only [↓go_eq, ↓ent_eq, Mv, NilC_at, Fld_at, add_mk, Nat.zero_add, Nat.add_zero, Add64, Sub64, Mul64, Quo64, Rem64, Neg64, Cvt64, CvtU8, CvtU16, CvtU32, CvtU64, AddU64, SubU64, MulU64, Shr64, Shr_u8, Shr_u16, Shr_u32, Shr_u64, And1, And31, And32, Eql64, Neq64, Bin_lss, Bin_leq, Bin_gtr, Bin_geq, Bin_bool_eql, Bin_bool_neq, Bin_ptr_nil_eql, Bin_ptr_nil_neq, Not_dec, Un_not, Pick_t, Pick_f, Pick_pos, Pick_neg, Gd_tt, Gd_tf, Gd_ft, Gd_ff, Gd_pos_t, Gd_neg_t, Gd_pos_f, Gd_neg_f, Gd_undef, If_t, If_f, If_pos, If_neg, CallF_eq, Max_two, Min_two, Len_rd, Len_own, Ld_blkE, Idx_rdN, Idx_ownN, Idx_rdE, Idx_ownE, IdxAE, LdA_two, Idx_at0, Ext_atE, Len_at, Int.toNat_natCast, Int.toNat_zero, Int.toNat_one, List.length_map, List.length_append, List.length_cons, List.length_nil, List.length_take, List.length_set, List.length_replicate, Bool.not_true, Bool.not_false, decide_true, decide_false, BEq.rfl, bne_self_eq_false, tf_beq, ft_beq, tf_bne, ft_bne, not_true_eq_false, not_false_eq_true, app]
  refine row_q s6 ?_
  rw [hrow, show rowT [0] 0 = 0 from rfl]
  try simp (disch := first | assumption | omega | (apply At.mk; with_unfolding_all rfl)) only [↓go_eq, ↓ent_eq, Mv, NilC_at, Fld_at, add_mk, Nat.zero_add, Nat.add_zero, Add64, Sub64, Mul64, Quo64, Rem64, Neg64, Cvt64, CvtU8, CvtU16, CvtU32, CvtU64, AddU64, SubU64, MulU64, Shr64, Shr_u8, Shr_u16, Shr_u32, Shr_u64, And1, And31, And32, Eql64, Neq64, Bin_lss, Bin_leq, Bin_gtr, Bin_geq, Bin_bool_eql, Bin_bool_neq, Bin_ptr_nil_eql, Bin_ptr_nil_neq, Not_dec, Un_not, Pick_t, Pick_f, Pick_pos, Pick_neg, Gd_tt, Gd_tf, Gd_ft, Gd_ff, Gd_pos_t, Gd_neg_t, Gd_pos_f, Gd_neg_f, Gd_undef, If_t, If_f, If_pos, If_neg, CallF_eq, Max_two, Min_two, Len_rd, Len_own, Ld_blkE, Idx_rdN, Idx_ownN, Idx_rdE, Idx_ownE, IdxAE, LdA_two, Idx_at0, Ext_atE, Len_at, Int.toNat_natCast, Int.toNat_zero, Int.toNat_one, List.length_map, List.length_append, List.length_cons, List.length_nil, List.length_take, List.length_set, List.length_replicate, Bool.not_true, Bool.not_false, decide_true, decide_false, BEq.rfl, bne_self_eq_false, tf_beq, ft_beq, tf_bne, ft_bne, not_true_eq_false, not_false_eq_true, app]
  exact hk h6 (((((f1.trans f2).trans f3).trans f4).trans f5).trans f6)
end Go.Proofs.Ytonihbbpfliihaa
