/- Formulas made of raw numbers. Conditions: those typed ahead of each theorem. -/
import Derived.Test.YtonngdjfnnibaaaCf
namespace Go.Proofs.Ytonngdjfnnibaaa
open Go.Pt
set_option linter.unusedVariables false
set_option linter.unusedSimpArgs false
def rawLit (n : Nat) (x : Int) : Int := if x % 2 = 1 then -(1 + (x % 65536) / 2 % n) else 1 + (x % 65536) / 2 % n
def rawCl (n w : Nat) (c : List Int) : List Int := if n = 0 then [] else (c.take w).map (rawLit n)
def rawF (n w : Nat) (xss : List (List Int)) : List (List Int) := xss.map (rawCl n w)
theorem rawLit_ok {n : Nat} (hn : n ≠ 0) (x : Int) : LitOk n (rawLit n x) := by
  have h1 := Int.emod_nonneg (x % 65536 / 2) (show (n : Int) ≠ 0 by omega)
  have h2 := Int.emod_lt_of_pos (x % 65536 / 2) (show (0 : Int) < n by omega)
  unfold rawLit LitOk
  split <;> omega
theorem rawF_ok (n w : Nat) (xss : List (List Int)) : FOk n (rawF n w xss) := by
  intro c hc l hl
  obtain ⟨c', _, rfl⟩ := List.mem_map.1 hc
  unfold rawCl at hl
  split at hl
  · cases hl
  · rename_i hn
    obtain ⟨x, _, rfl⟩ := List.mem_map.1 hl
    exact rawLit_ok hn x
theorem rawF_len (n w : Nat) (xss : List (List Int)) : (rawF n w xss).length = xss.length := by simp [rawF]
theorem rawF_cl (n w : Nat) (xss : List (List Int)) : ∀ c ∈ rawF n w xss, c.length ≤ w := by
  intro c hc
  obtain ⟨c', _, rfl⟩ := List.mem_map.1 hc
  unfold rawCl
  split
  · simp
  · simp; omega
/-- Clauses of one's own, each in a block of its own. -/
structure OwnF (h : Heap) (v : Value) (N : Nat) (b0 : List Nat) (ps : List (Value × List Int × List Nat)) : Prop where
  own : Own h v (ps.map (·.1)) b0
  each : ∀ p ∈ ps, Own h p.1 (p.2.1.map Iv) p.2.2
  lo : ∀ b ∈ b0, N ≤ b
  los : ∀ p ∈ ps, ∀ b ∈ p.2.2, N ≤ b ∧ b ∉ b0
  dj : ps.Pairwise fun p q => ∀ b ∈ p.2.2, b ∉ q.2.2
def cls (ps : List (Value × List Int × List Nat)) : List (List Int) := ps.map (·.2.1)
theorem OwnF.nil (h : Heap) (N : Nat) : OwnF h (.slice none 0 0) N [] [] := ⟨Own.nil _, by simp, by simp, by simp, List.Pairwise.nil⟩
theorem OwnF.fr {h h' : Heap} {v : Value} {N : Nat} {b0 S : List Nat} {ps : List (Value × List Int × List Nat)} (o : OwnF h v N b0 ps) (f : Fr S h h') (hS : ∀ b ∈ S, b < N) : OwnF h' v N b0 ps :=
  ⟨o.own.fr f fun b hb hm => by have := o.lo b hb; have := hS b hm; omega, fun p hp => (o.each p hp).fr f fun b hb hm => by have := (o.los p hp b hb).1; have := hS b hm; omega, o.lo, o.los, o.dj⟩
theorem OwnF.rdl {h : Heap} {v : Value} {N : Nat} {b0 : List Nat} {ps : List (Value × List Int × List Nat)} (o : OwnF h v N b0 ps) : RdL h v (cls ps) (ps.map (·.1)) := by
  refine ⟨o.own.rd, by simp [cls], fun i c hc => ?_⟩
  rw [cls, List.getElem?_map] at hc
  cases hp : ps[i]? with
  | none => rw [hp] at hc; cases hc
  | some p =>
    rw [hp] at hc
    cases hc
    exact ⟨p.1, ⟨by rw [List.getElem?_map, hp]; rfl⟩, (o.each p (List.mem_of_getElem? hp)).rd⟩
theorem OwnF.lt {h : Heap} {v : Value} {N : Nat} {b0 : List Nat} {ps : List (Value × List Int × List Nat)} (o : OwnF h v N b0 ps) : (∀ b ∈ b0, b < h.size) ∧ ∀ p ∈ ps, ∀ b ∈ p.2.2, b < h.size := ⟨o.own.lt, fun p hp => (o.each p hp).lt⟩
set_option maxHeartbeats 2000000 in
theorem bradawllaw02_Raw_Formula.spec {a : Int} {xss : List (List Int)} {ws : List Value} {v : Value} {vars w : Nat} (ha : 0 ≤ a ∧ a ≤ 255) (hvars : vars ≤ 1000) (hw : w ≤ 1000) (hxs : xss.length ≤ 1000000) (hcl : ∀ c ∈ xss, c.length ≤ 1000000) {K : Ret} {h : Heap} (hv : RdX (.int .i16) h v xss ws)
    (hk : ∀ u b0 ps h', OwnF h' u h.size b0 ps → cls ps = rawF (a % (vars + 1)).toNat w xss → Fr [] h h' → K (.agg #[Iv (a % (vars + 1)).toNat, u]) h') : CallH Try.prog bradawllaw02_Raw_Formula.id #[.agg #[.int .u8 a, v], Iv vars, Iv w] K h := by
  refine bradawllaw02_Raw_Formula.ok ?_
  simp only [bradawllaw02_Raw_Formula.pt]
  obtain ⟨n, hn⟩ : ∃ n : Nat, (a % (vars + 1)).toNat = n := ⟨_, rfl⟩
  rw [hn] at hk
  have hm0 := Int.emod_nonneg a (show (vars : Int) + 1 ≠ 0 by omega)
  have hm1 := Int.emod_lt_of_pos a (show (0 : Int) < (vars : Int) + 1 by omega)
  have hn' : a % ((vars : Int) + 1) = (n : Nat) := by omega
  try simp (disch := first | assumption | omega | (apply At.mk; with_unfolding_all rfl)) only [↓go_eq, ↓ent_eq, Mv, NilC_at, Fld_at, add_mk, Nat.zero_add, Nat.add_zero, Add64, Sub64, Mul64, Quo64, Rem64, Neg64, Cvt64, CvtU8, CvtU16, CvtU32, CvtU64, AddU64, SubU64, MulU64, Shr64, Shr_u8, Shr_u16, Shr_u32, Shr_u64, And1, And31, And32, Eql64, Neq64, Bin_lss, Bin_leq, Bin_gtr, Bin_geq, Bin_bool_eql, Bin_bool_neq, Bin_ptr_nil_eql, Bin_ptr_nil_neq, Not_dec, Un_not, Pick_t, Pick_f, Pick_pos, Pick_neg, Gd_tt, Gd_tf, Gd_ft, Gd_ff, Gd_pos_t, Gd_neg_t, Gd_pos_f, Gd_neg_f, Gd_undef, If_t, If_f, If_pos, If_neg, CallF_eq, Max_two, Min_two, Len_rd, Len_own, Ld_blkE, Idx_rdN, Idx_ownN, Idx_rdE, Idx_ownE, IdxAE, LdA_two, Idx_at0, Ext_atE, Len_at, Int.toNat_natCast, Int.toNat_zero, Int.toNat_one, List.length_map, List.length_append, List.length_cons, List.length_nil, List.length_take, List.length_set, List.length_replicate, Bool.not_true, Bool.not_false, decide_true, decide_false, BEq.rfl, bne_self_eq_false, tf_beq, ft_beq, tf_bne, ft_bne, not_true_eq_false, not_false_eq_true, app]
  refine New_blk fun h1 b1 f1 s1 => ?_
  try simp (disch := first | assumption | omega | (apply At.mk; with_unfolding_all rfl)) only [↓go_eq, ↓ent_eq, Mv, NilC_at, Fld_at, add_mk, Nat.zero_add, Nat.add_zero, Add64, Sub64, Mul64, Quo64, Rem64, Neg64, Cvt64, CvtU8, CvtU16, CvtU32, CvtU64, AddU64, SubU64, MulU64, Shr64, Shr_u8, Shr_u16, Shr_u32, Shr_u64, And1, And31, And32, Eql64, Neq64, Bin_lss, Bin_leq, Bin_gtr, Bin_geq, Bin_bool_eql, Bin_bool_neq, Bin_ptr_nil_eql, Bin_ptr_nil_neq, Not_dec, Un_not, Pick_t, Pick_f, Pick_pos, Pick_neg, Gd_tt, Gd_tf, Gd_ft, Gd_ff, Gd_pos_t, Gd_neg_t, Gd_pos_f, Gd_neg_f, Gd_undef, If_t, If_f, If_pos, If_neg, CallF_eq, Max_two, Min_two, Len_rd, Len_own, Ld_blkE, Idx_rdN, Idx_ownN, Idx_rdE, Idx_ownE, IdxAE, LdA_two, Idx_at0, Ext_atE, Len_at, Int.toNat_natCast, Int.toNat_zero, Int.toNat_one, List.length_map, List.length_append, List.length_cons, List.length_nil, List.length_take, List.length_set, List.length_replicate, Bool.not_true, Bool.not_false, decide_true, decide_false, BEq.rfl, bne_self_eq_false, tf_beq, ft_beq, tf_bne, ft_bne, not_true_eq_false, not_false_eq_true, app]
  refine New_blk fun h2 b2 f2 s2 => ?_
  have b1 : Blk h2 h.size [.int .u8 a, v] := b1.fr f2 (by simp)
  have b2 : Blk h2 h1.size [Iv 0, .slice none 0 0] := b2
  have hrd := hv.rd
  have hvc := hrd.isCell
  try simp (disch := first | assumption | omega | (apply At.mk; with_unfolding_all rfl)) only [↓go_eq, ↓ent_eq, Mv, NilC_at, Fld_at, add_mk, Nat.zero_add, Nat.add_zero, Add64, Sub64, Mul64, Quo64, Rem64, Neg64, Cvt64, CvtU8, CvtU16, CvtU32, CvtU64, AddU64, SubU64, MulU64, Shr64, Shr_u8, Shr_u16, Shr_u32, Shr_u64, And1, And31, And32, Eql64, Neq64, Bin_lss, Bin_leq, Bin_gtr, Bin_geq, Bin_bool_eql, Bin_bool_neq, Bin_ptr_nil_eql, Bin_ptr_nil_neq, Not_dec, Un_not, Pick_t, Pick_f, Pick_pos, Pick_neg, Gd_tt, Gd_tf, Gd_ft, Gd_ff, Gd_pos_t, Gd_neg_t, Gd_pos_f, Gd_neg_f, Gd_undef, If_t, If_f, If_pos, If_neg, CallF_eq, Max_two, Min_two, Len_rd, Len_own, Ld_blkE, Idx_rdN, Idx_ownN, Idx_rdE, Idx_ownE, IdxAE, LdA_two, Idx_at0, Ext_atE, Len_at, Int.toNat_natCast, Int.toNat_zero, Int.toNat_one, List.length_map, List.length_append, List.length_cons, List.length_nil, List.length_take, List.length_set, List.length_replicate, Bool.not_true, Bool.not_false, decide_true, decide_false, BEq.rfl, bne_self_eq_false, tf_beq, ft_beq, tf_bne, ft_bne, not_true_eq_false, not_false_eq_true, app]
  rw [hn', Bld_fst rfl]
  try simp (disch := first | assumption | omega | (apply At.mk; with_unfolding_all rfl)) only [↓go_eq, ↓ent_eq, Mv, NilC_at, Fld_at, add_mk, Nat.zero_add, Nat.add_zero, Add64, Sub64, Mul64, Quo64, Rem64, Neg64, Cvt64, CvtU8, CvtU16, CvtU32, CvtU64, AddU64, SubU64, MulU64, Shr64, Shr_u8, Shr_u16, Shr_u32, Shr_u64, And1, And31, And32, Eql64, Neq64, Bin_lss, Bin_leq, Bin_gtr, Bin_geq, Bin_bool_eql, Bin_bool_neq, Bin_ptr_nil_eql, Bin_ptr_nil_neq, Not_dec, Un_not, Pick_t, Pick_f, Pick_pos, Pick_neg, Gd_tt, Gd_tf, Gd_ft, Gd_ff, Gd_pos_t, Gd_neg_t, Gd_pos_f, Gd_neg_f, Gd_undef, If_t, If_f, If_pos, If_neg, CallF_eq, Max_two, Min_two, Len_rd, Len_own, Ld_blkE, Idx_rdN, Idx_ownN, Idx_rdE, Idx_ownE, IdxAE, LdA_two, Idx_at0, Ext_atE, Len_at, Int.toNat_natCast, Int.toNat_zero, Int.toNat_one, List.length_map, List.length_append, List.length_cons, List.length_nil, List.length_take, List.length_set, List.length_replicate, Bool.not_true, Bool.not_false, decide_true, decide_false, BEq.rfl, bne_self_eq_false, tf_beq, ft_beq, tf_bne, ft_bne, not_true_eq_false, not_false_eq_true, app]
  refine New_blk fun h3 b3 f3 s3 => ?_
  have b3 : Blk h3 h2.size [Iv 0, .slice none 0 0] := b3
  have b1 := b1.fr f3 (by first | (simp; done) | (simp; omega) | omega)
  have b2 := b2.fr f3 (by first | (simp; done) | (simp; omega) | omega)
  try simp (disch := first | assumption | omega | (apply At.mk; with_unfolding_all rfl)) only [↓go_eq, ↓ent_eq, Mv, NilC_at, Fld_at, add_mk, Nat.zero_add, Nat.add_zero, Add64, Sub64, Mul64, Quo64, Rem64, Neg64, Cvt64, CvtU8, CvtU16, CvtU32, CvtU64, AddU64, SubU64, MulU64, Shr64, Shr_u8, Shr_u16, Shr_u32, Shr_u64, And1, And31, And32, Eql64, Neq64, Bin_lss, Bin_leq, Bin_gtr, Bin_geq, Bin_bool_eql, Bin_bool_neq, Bin_ptr_nil_eql, Bin_ptr_nil_neq, Not_dec, Un_not, Pick_t, Pick_f, Pick_pos, Pick_neg, Gd_tt, Gd_tf, Gd_ft, Gd_ff, Gd_pos_t, Gd_neg_t, Gd_pos_f, Gd_neg_f, Gd_undef, If_t, If_f, If_pos, If_neg, CallF_eq, Max_two, Min_two, Len_rd, Len_own, Ld_blkE, Idx_rdN, Idx_ownN, Idx_rdE, Idx_ownE, IdxAE, LdA_two, Idx_at0, Ext_atE, Len_at, Int.toNat_natCast, Int.toNat_zero, Int.toNat_one, List.length_map, List.length_append, List.length_cons, List.length_nil, List.length_take, List.length_set, List.length_replicate, Bool.not_true, Bool.not_false, decide_true, decide_false, BEq.rfl, bne_self_eq_false, tf_beq, ft_beq, tf_bne, ft_bne, not_true_eq_false, not_false_eq_true, app]
  refine StA_two b3 rfl rfl fun h4 b4 f4 => ?_
  have b1 := b1.fr f4 (by first | (simp; done) | (simp; omega) | omega)
  have b2 := b2.fr f4 (by first | (simp; done) | (simp; omega) | omega)
  have f04 : Fr [] h h4 := ((f1.trans f2).trans f3).trans' f4 (by have := f1.size; have := f2.size; simp; omega)
  have hv4 := hv.fr f04
  have hrd4 := hv4.rd
  obtain ⟨rb, hrb⟩ : ∃ rb, rb = h1.size := ⟨_, rfl⟩
  obtain ⟨fb, hfb⟩ : ∃ fb, fb = h2.size := ⟨_, rfl⟩
  rw [← hrb] at b2 ⊢
  rw [← hfb] at b4 ⊢
  have hwl := hv.len
  have hz : h.size ≤ rb ∧ rb < fb ∧ fb < h4.size := by have := b4.lt; omega
  try simp (disch := first | assumption | omega | (apply At.mk; with_unfolding_all rfl)) only [hwl, ↓go_eq, ↓ent_eq, Mv, NilC_at, Fld_at, add_mk, Nat.zero_add, Nat.add_zero, Add64, Sub64, Mul64, Quo64, Rem64, Neg64, Cvt64, CvtU8, CvtU16, CvtU32, CvtU64, AddU64, SubU64, MulU64, Shr64, Shr_u8, Shr_u16, Shr_u32, Shr_u64, And1, And31, And32, Eql64, Neq64, Bin_lss, Bin_leq, Bin_gtr, Bin_geq, Bin_bool_eql, Bin_bool_neq, Bin_ptr_nil_eql, Bin_ptr_nil_neq, Not_dec, Un_not, Pick_t, Pick_f, Pick_pos, Pick_neg, Gd_tt, Gd_tf, Gd_ft, Gd_ff, Gd_pos_t, Gd_neg_t, Gd_pos_f, Gd_neg_f, Gd_undef, If_t, If_f, If_pos, If_neg, CallF_eq, Max_two, Min_two, Len_rd, Len_own, Ld_blkE, Idx_rdN, Idx_ownN, Idx_rdE, Idx_ownE, IdxAE, LdA_two, Idx_at0, Ext_atE, Len_at, Int.toNat_natCast, Int.toNat_zero, Int.toNat_one, List.length_map, List.length_append, List.length_cons, List.length_nil, List.length_take, List.length_set, List.length_replicate, Bool.not_true, Bool.not_false, decide_true, decide_false, BEq.rfl, bne_self_eq_false, tf_beq, ft_beq, tf_bne, ft_bne, not_true_eq_false, not_false_eq_true, app]
  refine Lp_fn (σ := Nat × Value × List Nat × List (Value × List Int × List Nat)) (fun s => [Iv w, ptr rb, ptr fb, v, Iv (xss.length : Nat), Iv (s.1 : Int)])
    (fun s h' => s.1 ≤ xss.length ∧ Fr [] h h' ∧ h4.size ≤ h'.size ∧ Blk h' rb [Iv 0, .slice none 0 0] ∧ Blk h' fb [Iv n, s.2.1] ∧ OwnF h' s.2.1 h4.size s.2.2.1 s.2.2.2 ∧ cls s.2.2.2 = rawF n w (xss.take s.1)) (fun s => xss.length - s.1)
    (0, .slice none 0 0, [], []) rfl (fun _ => rfl) ⟨Nat.zero_le _, f04, Nat.le_refl _, b2, b4, OwnF.nil _ _, rfl⟩ ?_
  rintro ⟨i, cv, b0, ps⟩ h5 ⟨hi, f5, z5, x2, x3, oF, hcs⟩ X hX
  simp only at hi x3 oF hcs
  have hv5 := hv.fr f5
  have hrd5 := hv5.rd
  by_cases c1 : (i : Int) < (xss.length : Nat)
  · have hg : xss[i]? = some xss[i] := List.getElem?_eq_getElem (by omega)
    obtain ⟨x, ax, rx⟩ := hv5.get i _ hg
    have hc5 := hcl _ (List.getElem_mem (by omega : i < xss.length))
    have hsn : rawF n w (xss.take (i + 1)) = rawF n w (xss.take i) ++ [rawCl n w xss[i]] := by rw [List.take_add_one, hg, rawF, List.map_append]; rfl
    generalize hC : xss[i] = C at *
    try simp (disch := first | assumption | omega | (apply At.mk; with_unfolding_all rfl)) only [↓go_eq, ↓ent_eq, Mv, NilC_at, Fld_at, add_mk, Nat.zero_add, Nat.add_zero, Add64, Sub64, Mul64, Quo64, Rem64, Neg64, Cvt64, CvtU8, CvtU16, CvtU32, CvtU64, AddU64, SubU64, MulU64, Shr64, Shr_u8, Shr_u16, Shr_u32, Shr_u64, And1, And31, And32, Eql64, Neq64, Bin_lss, Bin_leq, Bin_gtr, Bin_geq, Bin_bool_eql, Bin_bool_neq, Bin_ptr_nil_eql, Bin_ptr_nil_neq, Not_dec, Un_not, Pick_t, Pick_f, Pick_pos, Pick_neg, Gd_tt, Gd_tf, Gd_ft, Gd_ff, Gd_pos_t, Gd_neg_t, Gd_pos_f, Gd_neg_f, Gd_undef, If_t, If_f, If_pos, If_neg, CallF_eq, Max_two, Min_two, Len_rd, Len_own, Ld_blkE, Idx_rdN, Idx_ownN, Idx_rdE, Idx_ownE, IdxAE, LdA_two, Idx_at0, Ext_atE, Len_at, Int.toNat_natCast, Int.toNat_zero, Int.toNat_one, List.length_map, List.length_append, List.length_cons, List.length_nil, List.length_take, List.length_set, List.length_replicate, Bool.not_true, Bool.not_false, decide_true, decide_false, BEq.rfl, bne_self_eq_false, tf_beq, ft_beq, tf_bne, ft_bne, not_true_eq_false, not_false_eq_true, app]
    refine Jn_fn (σ := Value × List Nat) (fun s => [Iv w, ptr rb, ptr fb, s.1, v, Iv (xss.length : Nat), Iv (i : Int)]) (fun s h' => Fr [] h5 h' ∧ Own h' s.1 ((rawCl n w C).map Iv) s.2 ∧ ∀ b ∈ s.2, h5.size ≤ b) ?_ ?_
    · intro J hJ
      try simp (disch := first | assumption | omega | (apply At.mk; with_unfolding_all rfl)) only [↓go_eq, ↓ent_eq, Mv, NilC_at, Fld_at, add_mk, Nat.zero_add, Nat.add_zero, Add64, Sub64, Mul64, Quo64, Rem64, Neg64, Cvt64, CvtU8, CvtU16, CvtU32, CvtU64, AddU64, SubU64, MulU64, Shr64, Shr_u8, Shr_u16, Shr_u32, Shr_u64, And1, And31, And32, Eql64, Neq64, Bin_lss, Bin_leq, Bin_gtr, Bin_geq, Bin_bool_eql, Bin_bool_neq, Bin_ptr_nil_eql, Bin_ptr_nil_neq, Not_dec, Un_not, Pick_t, Pick_f, Pick_pos, Pick_neg, Gd_tt, Gd_tf, Gd_ft, Gd_ff, Gd_pos_t, Gd_neg_t, Gd_pos_f, Gd_neg_f, Gd_undef, If_t, If_f, If_pos, If_neg, CallF_eq, Max_two, Min_two, Len_rd, Len_own, Ld_blkE, Idx_rdN, Idx_ownN, Idx_rdE, Idx_ownE, IdxAE, LdA_two, Idx_at0, Ext_atE, Len_at, Int.toNat_natCast, Int.toNat_zero, Int.toNat_one, List.length_map, List.length_append, List.length_cons, List.length_nil, List.length_take, List.length_set, List.length_replicate, Bool.not_true, Bool.not_false, decide_true, decide_false, BEq.rfl, bne_self_eq_false, tf_beq, ft_beq, tf_bne, ft_bne, not_true_eq_false, not_false_eq_true, app]
      refine Lp_fn (σ := Nat × Value × List Nat) (fun s => [Iv w, ptr rb, ptr fb, s.2.1, v, Iv (xss.length : Nat), Iv (i : Int), x, Iv (C.length : Nat), Iv (s.1 : Int)])
        (fun s h' => s.1 ≤ C.length ∧ s.1 ≤ w ∧ (n = 0 → s.1 = 0) ∧ Fr [] h5 h' ∧ Own h' s.2.1 (((C.take s.1).map (rawLit n)).map Iv) s.2.2 ∧ ∀ b ∈ s.2.2, h5.size ≤ b) (fun s => C.length - s.1)
        (0, .slice none 0 0, []) rfl (fun _ => rfl) ⟨Nat.zero_le _, Nat.zero_le _, fun _ => rfl, Fr.refl _ _, Own.nil _, by simp⟩ ?_
      rintro ⟨j, u, bs⟩ h6 ⟨hj, hjw, hn0, f6, o6, hbs⟩ Y hY
      simp only at hj hjw hn0 o6 hbs
      have rx6 := rx.fr f6
      have x36 := x3.fr f6 (by simp)
      by_cases c2 : (j : Int) < (C.length : Nat)
      · have hgj : C[j]? = some C[j] := List.getElem?_eq_getElem (by omega)
        have a2 := At.map (f := Value.int .i16) hgj
        have hul : (((C.take j).map (rawLit n)).map Iv).length = j := by rw [List.length_map, List.length_map, List.length_take]; omega
        by_cases c3 : (n : Int) = 0
        · have e0 := hn0 (by omega)
          subst e0
          try simp (disch := first | assumption | omega | (apply At.mk; with_unfolding_all rfl)) only [↓go_eq, ↓ent_eq, Mv, NilC_at, Fld_at, add_mk, Nat.zero_add, Nat.add_zero, Add64, Sub64, Mul64, Quo64, Rem64, Neg64, Cvt64, CvtU8, CvtU16, CvtU32, CvtU64, AddU64, SubU64, MulU64, Shr64, Shr_u8, Shr_u16, Shr_u32, Shr_u64, And1, And31, And32, Eql64, Neq64, Bin_lss, Bin_leq, Bin_gtr, Bin_geq, Bin_bool_eql, Bin_bool_neq, Bin_ptr_nil_eql, Bin_ptr_nil_neq, Not_dec, Un_not, Pick_t, Pick_f, Pick_pos, Pick_neg, Gd_tt, Gd_tf, Gd_ft, Gd_ff, Gd_pos_t, Gd_neg_t, Gd_pos_f, Gd_neg_f, Gd_undef, If_t, If_f, If_pos, If_neg, CallF_eq, Max_two, Min_two, Len_rd, Len_own, Ld_blkE, Idx_rdN, Idx_ownN, Idx_rdE, Idx_ownE, IdxAE, LdA_two, Idx_at0, Ext_atE, Len_at, Int.toNat_natCast, Int.toNat_zero, Int.toNat_one, List.length_map, List.length_append, List.length_cons, List.length_nil, List.length_take, List.length_set, List.length_replicate, Bool.not_true, Bool.not_false, decide_true, decide_false, BEq.rfl, bne_self_eq_false, tf_beq, ft_beq, tf_bne, ft_bne, not_true_eq_false, not_false_eq_true, app]
          refine hJ (u, bs) h6 ⟨f6, ?_, hbs⟩
          rw [rawCl, if_pos (by omega)]; simpa using o6
        · have c3' : n ≠ 0 := by omega
          by_cases c4 : (j : Int) = w
          · have c4' : j = w := by omega
            have e4 : min j C.length = w := by omega
            try simp (disch := first | assumption | omega | (apply At.mk; with_unfolding_all rfl)) only [↓go_eq, ↓ent_eq, Mv, NilC_at, Fld_at, add_mk, Nat.zero_add, Nat.add_zero, Add64, Sub64, Mul64, Quo64, Rem64, Neg64, Cvt64, CvtU8, CvtU16, CvtU32, CvtU64, AddU64, SubU64, MulU64, Shr64, Shr_u8, Shr_u16, Shr_u32, Shr_u64, And1, And31, And32, Eql64, Neq64, Bin_lss, Bin_leq, Bin_gtr, Bin_geq, Bin_bool_eql, Bin_bool_neq, Bin_ptr_nil_eql, Bin_ptr_nil_neq, Not_dec, Un_not, Pick_t, Pick_f, Pick_pos, Pick_neg, Gd_tt, Gd_tf, Gd_ft, Gd_ff, Gd_pos_t, Gd_neg_t, Gd_pos_f, Gd_neg_f, Gd_undef, If_t, If_f, If_pos, If_neg, CallF_eq, Max_two, Min_two, Len_rd, Len_own, Ld_blkE, Idx_rdN, Idx_ownN, Idx_rdE, Idx_ownE, IdxAE, LdA_two, Idx_at0, Ext_atE, Len_at, Int.toNat_natCast, Int.toNat_zero, Int.toNat_one, List.length_map, List.length_append, List.length_cons, List.length_nil, List.length_take, List.length_set, List.length_replicate, Bool.not_true, Bool.not_false, decide_true, decide_false, BEq.rfl, bne_self_eq_false, tf_beq, ft_beq, tf_bne, ft_bne, not_true_eq_false, not_false_eq_true, app]
            refine hJ (u, bs) h6 ⟨f6, ?_, hbs⟩
            rw [rawCl, if_neg c3', ← c4']; exact o6
          · have hlen : ((C.take j).length : Int) ≠ w := by rw [List.length_take]; omega
            have hmn : min j C.length = j := by omega
            have hp : (0 : Int) ≤ C[j] % 65536 / 2 := by omega
            have hp2 := Int.emod_nonneg (C[j] % 65536 / 2) (show (n : Int) ≠ 0 by omega)
            have hp3 := Int.emod_lt_of_pos (C[j] % 65536 / 2) (show (0 : Int) < n by omega)
            have e21 : (2 : Int) ^ (1 : Int).toNat = 2 := rfl
            have e22 : (2 : Int) ^ 1 = 2 := rfl
            try simp (disch := first | assumption | omega | (apply At.mk; with_unfolding_all rfl)) only [e21, e22, hmn, ↓go_eq, ↓ent_eq, Mv, NilC_at, Fld_at, add_mk, Nat.zero_add, Nat.add_zero, Add64, Sub64, Mul64, Quo64, Rem64, Neg64, Cvt64, CvtU8, CvtU16, CvtU32, CvtU64, AddU64, SubU64, MulU64, Shr64, Shr_u8, Shr_u16, Shr_u32, Shr_u64, And1, And31, And32, Eql64, Neq64, Bin_lss, Bin_leq, Bin_gtr, Bin_geq, Bin_bool_eql, Bin_bool_neq, Bin_ptr_nil_eql, Bin_ptr_nil_neq, Not_dec, Un_not, Pick_t, Pick_f, Pick_pos, Pick_neg, Gd_tt, Gd_tf, Gd_ft, Gd_ff, Gd_pos_t, Gd_neg_t, Gd_pos_f, Gd_neg_f, Gd_undef, If_t, If_f, If_pos, If_neg, CallF_eq, Max_two, Min_two, Len_rd, Len_own, Ld_blkE, Idx_rdN, Idx_ownN, Idx_rdE, Idx_ownE, IdxAE, LdA_two, Idx_at0, Ext_atE, Len_at, Int.toNat_natCast, Int.toNat_zero, Int.toNat_one, List.length_map, List.length_append, List.length_cons, List.length_nil, List.length_take, List.length_set, List.length_replicate, Bool.not_true, Bool.not_false, decide_true, decide_false, BEq.rfl, bne_self_eq_false, tf_beq, ft_beq, tf_bne, ft_bne, not_true_eq_false, not_false_eq_true, app]
            refine Jn_fn (σ := Unit) (fun _ => [Iv w, ptr rb, ptr fb, u, Iv (rawLit n C[j]), v, Iv (xss.length : Nat), Iv (i : Int), x, Iv (C.length : Nat), Iv (j : Int)]) (fun _ h' => h6 = h') ?_ ?_
            · intro J4 hJ4
              have := hJ4 () h6 rfl
              unfold rawLit at this
              by_cases c5 : C[j] % 2 = 1
              · rw [if_pos c5] at this
                try simp (disch := first | assumption | omega | (apply At.mk; with_unfolding_all rfl)) only [↓go_eq, ↓ent_eq, Mv, NilC_at, Fld_at, add_mk, Nat.zero_add, Nat.add_zero, Add64, Sub64, Mul64, Quo64, Rem64, Neg64, Cvt64, CvtU8, CvtU16, CvtU32, CvtU64, AddU64, SubU64, MulU64, Shr64, Shr_u8, Shr_u16, Shr_u32, Shr_u64, And1, And31, And32, Eql64, Neq64, Bin_lss, Bin_leq, Bin_gtr, Bin_geq, Bin_bool_eql, Bin_bool_neq, Bin_ptr_nil_eql, Bin_ptr_nil_neq, Not_dec, Un_not, Pick_t, Pick_f, Pick_pos, Pick_neg, Gd_tt, Gd_tf, Gd_ft, Gd_ff, Gd_pos_t, Gd_neg_t, Gd_pos_f, Gd_neg_f, Gd_undef, If_t, If_f, If_pos, If_neg, CallF_eq, Max_two, Min_two, Len_rd, Len_own, Ld_blkE, Idx_rdN, Idx_ownN, Idx_rdE, Idx_ownE, IdxAE, LdA_two, Idx_at0, Ext_atE, Len_at, Int.toNat_natCast, Int.toNat_zero, Int.toNat_one, List.length_map, List.length_append, List.length_cons, List.length_nil, List.length_take, List.length_set, List.length_replicate, Bool.not_true, Bool.not_false, decide_true, decide_false, BEq.rfl, bne_self_eq_false, tf_beq, ft_beq, tf_bne, ft_bne, not_true_eq_false, not_false_eq_true, app]
                exact this
              · rw [if_neg c5] at this
                try simp (disch := first | assumption | omega | (apply At.mk; with_unfolding_all rfl)) only [↓go_eq, ↓ent_eq, Mv, NilC_at, Fld_at, add_mk, Nat.zero_add, Nat.add_zero, Add64, Sub64, Mul64, Quo64, Rem64, Neg64, Cvt64, CvtU8, CvtU16, CvtU32, CvtU64, AddU64, SubU64, MulU64, Shr64, Shr_u8, Shr_u16, Shr_u32, Shr_u64, And1, And31, And32, Eql64, Neq64, Bin_lss, Bin_leq, Bin_gtr, Bin_geq, Bin_bool_eql, Bin_bool_neq, Bin_ptr_nil_eql, Bin_ptr_nil_neq, Not_dec, Un_not, Pick_t, Pick_f, Pick_pos, Pick_neg, Gd_tt, Gd_tf, Gd_ft, Gd_ff, Gd_pos_t, Gd_neg_t, Gd_pos_f, Gd_neg_f, Gd_undef, If_t, If_f, If_pos, If_neg, CallF_eq, Max_two, Min_two, Len_rd, Len_own, Ld_blkE, Idx_rdN, Idx_ownN, Idx_rdE, Idx_ownE, IdxAE, LdA_two, Idx_at0, Ext_atE, Len_at, Int.toNat_natCast, Int.toNat_zero, Int.toNat_one, List.length_map, List.length_append, List.length_cons, List.length_nil, List.length_take, List.length_set, List.length_replicate, Bool.not_true, Bool.not_false, decide_true, decide_false, BEq.rfl, bne_self_eq_false, tf_beq, ft_beq, tf_bne, ft_bne, not_true_eq_false, not_false_eq_true, app]
                exact this
            · rintro _ _ rfl
              try simp (disch := first | assumption | omega | (apply At.mk; with_unfolding_all rfl)) only [↓go_eq, ↓ent_eq, Mv, NilC_at, Fld_at, add_mk, Nat.zero_add, Nat.add_zero, Add64, Sub64, Mul64, Quo64, Rem64, Neg64, Cvt64, CvtU8, CvtU16, CvtU32, CvtU64, AddU64, SubU64, MulU64, Shr64, Shr_u8, Shr_u16, Shr_u32, Shr_u64, And1, And31, And32, Eql64, Neq64, Bin_lss, Bin_leq, Bin_gtr, Bin_geq, Bin_bool_eql, Bin_bool_neq, Bin_ptr_nil_eql, Bin_ptr_nil_neq, Not_dec, Un_not, Pick_t, Pick_f, Pick_pos, Pick_neg, Gd_tt, Gd_tf, Gd_ft, Gd_ff, Gd_pos_t, Gd_neg_t, Gd_pos_f, Gd_neg_f, Gd_undef, If_t, If_f, If_pos, If_neg, CallF_eq, Max_two, Min_two, Len_rd, Len_own, Ld_blkE, Idx_rdN, Idx_ownN, Idx_rdE, Idx_ownE, IdxAE, LdA_two, Idx_at0, Ext_atE, Len_at, Int.toNat_natCast, Int.toNat_zero, Int.toNat_one, List.length_map, List.length_append, List.length_cons, List.length_nil, List.length_take, List.length_set, List.length_replicate, Bool.not_true, Bool.not_false, decide_true, decide_false, BEq.rfl, bne_self_eq_false, tf_beq, ft_beq, tf_bne, ft_bne, not_true_eq_false, not_false_eq_true, app]
              refine o6.app1 rfl rfl rfl (by rw [hul]; omega) (by rw [hul]; omega) fun u' h7 bs' o7 f7 hb7 => ?_
              try simp (disch := first | assumption | omega | (apply At.mk; with_unfolding_all rfl)) only [↓go_eq, ↓ent_eq, Mv, NilC_at, Fld_at, add_mk, Nat.zero_add, Nat.add_zero, Add64, Sub64, Mul64, Quo64, Rem64, Neg64, Cvt64, CvtU8, CvtU16, CvtU32, CvtU64, AddU64, SubU64, MulU64, Shr64, Shr_u8, Shr_u16, Shr_u32, Shr_u64, And1, And31, And32, Eql64, Neq64, Bin_lss, Bin_leq, Bin_gtr, Bin_geq, Bin_bool_eql, Bin_bool_neq, Bin_ptr_nil_eql, Bin_ptr_nil_neq, Not_dec, Un_not, Pick_t, Pick_f, Pick_pos, Pick_neg, Gd_tt, Gd_tf, Gd_ft, Gd_ff, Gd_pos_t, Gd_neg_t, Gd_pos_f, Gd_neg_f, Gd_undef, If_t, If_f, If_pos, If_neg, CallF_eq, Max_two, Min_two, Len_rd, Len_own, Ld_blkE, Idx_rdN, Idx_ownN, Idx_rdE, Idx_ownE, IdxAE, LdA_two, Idx_at0, Ext_atE, Len_at, Int.toNat_natCast, Int.toNat_zero, Int.toNat_one, List.length_map, List.length_append, List.length_cons, List.length_nil, List.length_take, List.length_set, List.length_replicate, Bool.not_true, Bool.not_false, decide_true, decide_false, BEq.rfl, bne_self_eq_false, tf_beq, ft_beq, tf_bne, ft_bne, not_true_eq_false, not_false_eq_true, app]
              refine hY (j + 1, u', bs') h7 ⟨by simp only; omega, by simp only; omega, fun e => absurd e c3', f6.trans' f7 fun b hb => .inr (hbs b hb), ?_, fun b hb => ?_⟩ (by simp only; omega)
              · simp only
                rw [List.take_add_one, hgj, List.map_append, List.map_append]; exact o7
              · rcases hb7 b hb with q | q
                · exact hbs b q
                · have := f6.size; omega
      · have : j = C.length := by omega
        subst this
        rw [List.take_length] at o6
        try simp (disch := first | assumption | omega | (apply At.mk; with_unfolding_all rfl)) only [↓go_eq, ↓ent_eq, Mv, NilC_at, Fld_at, add_mk, Nat.zero_add, Nat.add_zero, Add64, Sub64, Mul64, Quo64, Rem64, Neg64, Cvt64, CvtU8, CvtU16, CvtU32, CvtU64, AddU64, SubU64, MulU64, Shr64, Shr_u8, Shr_u16, Shr_u32, Shr_u64, And1, And31, And32, Eql64, Neq64, Bin_lss, Bin_leq, Bin_gtr, Bin_geq, Bin_bool_eql, Bin_bool_neq, Bin_ptr_nil_eql, Bin_ptr_nil_neq, Not_dec, Un_not, Pick_t, Pick_f, Pick_pos, Pick_neg, Gd_tt, Gd_tf, Gd_ft, Gd_ff, Gd_pos_t, Gd_neg_t, Gd_pos_f, Gd_neg_f, Gd_undef, If_t, If_f, If_pos, If_neg, CallF_eq, Max_two, Min_two, Len_rd, Len_own, Ld_blkE, Idx_rdN, Idx_ownN, Idx_rdE, Idx_ownE, IdxAE, LdA_two, Idx_at0, Ext_atE, Len_at, Int.toNat_natCast, Int.toNat_zero, Int.toNat_one, List.length_map, List.length_append, List.length_cons, List.length_nil, List.length_take, List.length_set, List.length_replicate, Bool.not_true, Bool.not_false, decide_true, decide_false, BEq.rfl, bne_self_eq_false, tf_beq, ft_beq, tf_bne, ft_bne, not_true_eq_false, not_false_eq_true, app]
        refine hJ (u, bs) h6 ⟨f6, ?_, hbs⟩
        unfold rawCl
        split
        · rename_i e
          have : C = [] := List.length_eq_zero_iff.1 (hn0 e)
          subst this; exact o6
        · rw [List.take_of_length_le hjw]; exact o6
    · rintro ⟨u, bs⟩ h6 ⟨f6, o6, hbs⟩
      have x26 := x2.fr f6 (by simp)
      have x36 := x3.fr f6 (by simp)
      have oF6 := oF.fr f6 (by simp)
      have l6 := x36.lt
      have lF := oF.lt
      have hps : (ps.map (·.1)).length = i := by
        have := congrArg List.length hcs
        simp only [cls, List.length_map, rawF, List.length_take] at this
        rw [List.length_map]; omega
      have hob0 : ∀ b ∈ b0, b < h5.size := lF.1
      try simp (disch := first | assumption | omega | (apply At.mk; with_unfolding_all rfl)) only [↓go_eq, ↓ent_eq, Mv, NilC_at, Fld_at, add_mk, Nat.zero_add, Nat.add_zero, Add64, Sub64, Mul64, Quo64, Rem64, Neg64, Cvt64, CvtU8, CvtU16, CvtU32, CvtU64, AddU64, SubU64, MulU64, Shr64, Shr_u8, Shr_u16, Shr_u32, Shr_u64, And1, And31, And32, Eql64, Neq64, Bin_lss, Bin_leq, Bin_gtr, Bin_geq, Bin_bool_eql, Bin_bool_neq, Bin_ptr_nil_eql, Bin_ptr_nil_neq, Not_dec, Un_not, Pick_t, Pick_f, Pick_pos, Pick_neg, Gd_tt, Gd_tf, Gd_ft, Gd_ff, Gd_pos_t, Gd_neg_t, Gd_pos_f, Gd_neg_f, Gd_undef, If_t, If_f, If_pos, If_neg, CallF_eq, Max_two, Min_two, Len_rd, Len_own, Ld_blkE, Idx_rdN, Idx_ownN, Idx_rdE, Idx_ownE, IdxAE, LdA_two, Idx_at0, Ext_atE, Len_at, Int.toNat_natCast, Int.toNat_zero, Int.toNat_one, List.length_map, List.length_append, List.length_cons, List.length_nil, List.length_take, List.length_set, List.length_replicate, Bool.not_true, Bool.not_false, decide_true, decide_false, BEq.rfl, bne_self_eq_false, tf_beq, ft_beq, tf_bne, ft_bne, not_true_eq_false, not_false_eq_true, app]
      refine oF6.own.app1 rfl rfl o6.rd.isCell (by rw [hps]; omega) (by rw [hps]; omega) fun cv' h7 b0' o7 f7 hb7 => ?_
      have x27 := x26.fr f7 (fun hm => by have := oF.lo _ hm; omega)
      have x37 := x36.fr f7 (fun hm => by have := oF.lo _ hm; omega)
      have ou7 := o6.fr f7 (fun b hb hm => by have := hbs b hb; have := hob0 b hm; omega)
      have oe7 : ∀ p ∈ ps, Own h7 p.1 (p.2.1.map Iv) p.2.2 := fun p hp => (oF6.each p hp).fr f7 (fun b hb hm => (oF.los p hp b hb).2 hm)
      have f07 : Fr [] h h7 := (f5.trans f6).trans' f7 fun b hb => .inr (by have := oF.lo b hb; have := f04.size; omega)
      have hb07 : ∀ b ∈ b0', h4.size ≤ b ∧ (b ∈ b0 ∨ h6.size ≤ b) := fun b hb => by
        rcases hb7 b hb with q | q
        · exact ⟨oF.lo b q, .inl q⟩
        · have := f6.size; exact ⟨by omega, .inr q⟩
      have l7 := x37.lt
      try simp (disch := first | assumption | omega | (apply At.mk; with_unfolding_all rfl)) only [↓go_eq, ↓ent_eq, Mv, NilC_at, Fld_at, add_mk, Nat.zero_add, Nat.add_zero, Add64, Sub64, Mul64, Quo64, Rem64, Neg64, Cvt64, CvtU8, CvtU16, CvtU32, CvtU64, AddU64, SubU64, MulU64, Shr64, Shr_u8, Shr_u16, Shr_u32, Shr_u64, And1, And31, And32, Eql64, Neq64, Bin_lss, Bin_leq, Bin_gtr, Bin_geq, Bin_bool_eql, Bin_bool_neq, Bin_ptr_nil_eql, Bin_ptr_nil_neq, Not_dec, Un_not, Pick_t, Pick_f, Pick_pos, Pick_neg, Gd_tt, Gd_tf, Gd_ft, Gd_ff, Gd_pos_t, Gd_neg_t, Gd_pos_f, Gd_neg_f, Gd_undef, If_t, If_f, If_pos, If_neg, CallF_eq, Max_two, Min_two, Len_rd, Len_own, Ld_blkE, Idx_rdN, Idx_ownN, Idx_rdE, Idx_ownE, IdxAE, LdA_two, Idx_at0, Ext_atE, Len_at, Int.toNat_natCast, Int.toNat_zero, Int.toNat_one, List.length_map, List.length_append, List.length_cons, List.length_nil, List.length_take, List.length_set, List.length_replicate, Bool.not_true, Bool.not_false, decide_true, decide_false, BEq.rfl, bne_self_eq_false, tf_beq, ft_beq, tf_bne, ft_bne, not_true_eq_false, not_false_eq_true, app]
      refine St_blk x37 (by simp) o7.rd.isCell fun h8 b8 f8 => ?_
      have x28 := x27.fr f8 (by first | (simp; done) | (simp; omega) | omega)
      have o8 := o7.fr f8 (fun b hb => by have := (hb07 b hb).1; simp; omega)
      have ou8 := ou7.fr f8 (fun b hb => by have := hbs b hb; simp; omega)
      have oe8 : ∀ p ∈ ps, Own h8 p.1 (p.2.1.map Iv) p.2.2 := fun p hp => (oe7 p hp).fr f8 (fun b hb => by have := (oF.los p hp b hb).1; simp; omega)
      try simp (disch := first | assumption | omega | (apply At.mk; with_unfolding_all rfl)) only [↓go_eq, ↓ent_eq, Mv, NilC_at, Fld_at, add_mk, Nat.zero_add, Nat.add_zero, Add64, Sub64, Mul64, Quo64, Rem64, Neg64, Cvt64, CvtU8, CvtU16, CvtU32, CvtU64, AddU64, SubU64, MulU64, Shr64, Shr_u8, Shr_u16, Shr_u32, Shr_u64, And1, And31, And32, Eql64, Neq64, Bin_lss, Bin_leq, Bin_gtr, Bin_geq, Bin_bool_eql, Bin_bool_neq, Bin_ptr_nil_eql, Bin_ptr_nil_neq, Not_dec, Un_not, Pick_t, Pick_f, Pick_pos, Pick_neg, Gd_tt, Gd_tf, Gd_ft, Gd_ff, Gd_pos_t, Gd_neg_t, Gd_pos_f, Gd_neg_f, Gd_undef, If_t, If_f, If_pos, If_neg, CallF_eq, Max_two, Min_two, Len_rd, Len_own, Ld_blkE, Idx_rdN, Idx_ownN, Idx_rdE, Idx_ownE, IdxAE, LdA_two, Idx_at0, Ext_atE, Len_at, Int.toNat_natCast, Int.toNat_zero, Int.toNat_one, List.length_map, List.length_append, List.length_cons, List.length_nil, List.length_take, List.length_set, List.length_replicate, Bool.not_true, Bool.not_false, decide_true, decide_false, BEq.rfl, bne_self_eq_false, tf_beq, ft_beq, tf_bne, ft_bne, not_true_eq_false, not_false_eq_true, app]
      have s6 := f6.size
      have s7 := f7.size
      have s8 := f8.size
      refine hX (i + 1, cv', b0', ps ++ [(u, rawCl n w C, bs)]) h8 ⟨by simp only; omega, f07.trans' f8 (by have := f04.size; simp; omega), by omega, x28, b8, ⟨?_, ?_, ?_, ?_, ?_⟩, ?_⟩ (by simp only; omega)
      · simp only [List.map_append, List.map_cons, List.map_nil]; exact o8
      · intro p hp
        rcases List.mem_append.1 hp with q | q
        · exact oe8 p q
        · simp at q; subst q; exact ou8
      · intro b hb; exact (hb07 b hb).1
      · intro p hp b hb
        rcases List.mem_append.1 hp with q | q
        · refine ⟨(oF.los p q b hb).1, fun hm => ?_⟩
          rcases (hb07 b hm).2 with q2 | q2
          · exact (oF.los p q b hb).2 q2
          · have := lF.2 p q b hb; omega
        · simp at q; subst q
          refine ⟨by have := hbs b hb; omega, fun hm => ?_⟩
          rcases (hb07 b hm).2 with q2 | q2
          · have := hob0 b q2; have := hbs b hb; omega
          · have := o6.lt b hb; omega
      · rw [List.pairwise_append]
        refine ⟨oF.dj, List.pairwise_singleton _ _, fun p hp q hq b hb hm => ?_⟩
        simp at hq; subst hq
        have := lF.2 p hp b hb; have := hbs b hm; omega
      · simp only [cls, List.map_append, List.map_cons, List.map_nil] at hcs ⊢
        rw [hcs, hsn]
  · have : i = xss.length := by omega
    subst this
    rw [List.take_length] at hcs
    have l2 := x2.lt
    try simp (disch := first | assumption | omega | (apply At.mk; with_unfolding_all rfl)) only [↓go_eq, ↓ent_eq, Mv, NilC_at, Fld_at, add_mk, Nat.zero_add, Nat.add_zero, Add64, Sub64, Mul64, Quo64, Rem64, Neg64, Cvt64, CvtU8, CvtU16, CvtU32, CvtU64, AddU64, SubU64, MulU64, Shr64, Shr_u8, Shr_u16, Shr_u32, Shr_u64, And1, And31, And32, Eql64, Neq64, Bin_lss, Bin_leq, Bin_gtr, Bin_geq, Bin_bool_eql, Bin_bool_neq, Bin_ptr_nil_eql, Bin_ptr_nil_neq, Not_dec, Un_not, Pick_t, Pick_f, Pick_pos, Pick_neg, Gd_tt, Gd_tf, Gd_ft, Gd_ff, Gd_pos_t, Gd_neg_t, Gd_pos_f, Gd_neg_f, Gd_undef, If_t, If_f, If_pos, If_neg, CallF_eq, Max_two, Min_two, Len_rd, Len_own, Ld_blkE, Idx_rdN, Idx_ownN, Idx_rdE, Idx_ownE, IdxAE, LdA_two, Idx_at0, Ext_atE, Len_at, Int.toNat_natCast, Int.toNat_zero, Int.toNat_one, List.length_map, List.length_append, List.length_cons, List.length_nil, List.length_take, List.length_set, List.length_replicate, Bool.not_true, Bool.not_false, decide_true, decide_false, BEq.rfl, bne_self_eq_false, tf_beq, ft_beq, tf_bne, ft_bne, not_true_eq_false, not_false_eq_true, app]
    refine StA_two x2 rfl oF.own.rd.isCell fun h6 b6 f6 => ?_
    have oF6 := oF.fr f6 (by simp; omega)
    try simp (disch := first | assumption | omega | (apply At.mk; with_unfolding_all rfl)) only [↓go_eq, ↓ent_eq, Mv, NilC_at, Fld_at, add_mk, Nat.zero_add, Nat.add_zero, Add64, Sub64, Mul64, Quo64, Rem64, Neg64, Cvt64, CvtU8, CvtU16, CvtU32, CvtU64, AddU64, SubU64, MulU64, Shr64, Shr_u8, Shr_u16, Shr_u32, Shr_u64, And1, And31, And32, Eql64, Neq64, Bin_lss, Bin_leq, Bin_gtr, Bin_geq, Bin_bool_eql, Bin_bool_neq, Bin_ptr_nil_eql, Bin_ptr_nil_neq, Not_dec, Un_not, Pick_t, Pick_f, Pick_pos, Pick_neg, Gd_tt, Gd_tf, Gd_ft, Gd_ff, Gd_pos_t, Gd_neg_t, Gd_pos_f, Gd_neg_f, Gd_undef, If_t, If_f, If_pos, If_neg, CallF_eq, Max_two, Min_two, Len_rd, Len_own, Ld_blkE, Idx_rdN, Idx_ownN, Idx_rdE, Idx_ownE, IdxAE, LdA_two, Idx_at0, Ext_atE, Len_at, Int.toNat_natCast, Int.toNat_zero, Int.toNat_one, List.length_map, List.length_append, List.length_cons, List.length_nil, List.length_take, List.length_set, List.length_replicate, Bool.not_true, Bool.not_false, decide_true, decide_false, BEq.rfl, bne_self_eq_false, tf_beq, ft_beq, tf_bne, ft_bne, not_true_eq_false, not_false_eq_true, app]
    exact hk cv b0 ps h6 ⟨oF6.own, oF6.each, fun b hb => by have := oF6.lo b hb; have := f04.size; omega, fun p hp b hb => ⟨by have := (oF6.los p hp b hb).1; have := f04.size; omega, (oF6.los p hp b hb).2⟩, oF6.dj⟩ hcs (f5.trans' f6 (by simp; omega))
theorem bradawllaw02_Raw_Light.spec {a : Int} {xss : List (List Int)} {ws : List Value} {v : Value} {m : Nat} (hm : m ≤ 1000) (hcl : ∀ c ∈ xss, c.length ≤ 140737488351232) {K : Ret} {h : Heap} (hv : RdX (.int .i16) h v xss ws)
    (hk : ∀ h', Fr [] h h' → (xss.length ≤ m ∧ (∀ c ∈ xss, c.length ≤ 10 * m) → K (.bool true) h') ∧ K (.bool false) h') : CallH Try.prog bradawllaw02_Raw_Light.id #[.agg #[.int .u8 a, v], Iv m] K h := by
  refine bradawllaw02_Raw_Light.ok ?_
  simp only [bradawllaw02_Raw_Light.pt]
  try simp (disch := first | assumption | omega | (apply At.mk; with_unfolding_all rfl)) only [↓go_eq, ↓ent_eq, Mv, NilC_at, Fld_at, add_mk, Nat.zero_add, Nat.add_zero, Add64, Sub64, Mul64, Quo64, Rem64, Neg64, Cvt64, CvtU8, CvtU16, CvtU32, CvtU64, AddU64, SubU64, MulU64, Shr64, Shr_u8, Shr_u16, Shr_u32, Shr_u64, And1, And31, And32, Eql64, Neq64, Bin_lss, Bin_leq, Bin_gtr, Bin_geq, Bin_bool_eql, Bin_bool_neq, Bin_ptr_nil_eql, Bin_ptr_nil_neq, Not_dec, Un_not, Pick_t, Pick_f, Pick_pos, Pick_neg, Gd_tt, Gd_tf, Gd_ft, Gd_ff, Gd_pos_t, Gd_neg_t, Gd_pos_f, Gd_neg_f, Gd_undef, If_t, If_f, If_pos, If_neg, CallF_eq, Max_two, Min_two, Len_rd, Len_own, Ld_blkE, Idx_rdN, Idx_ownN, Idx_rdE, Idx_ownE, IdxAE, LdA_two, Idx_at0, Ext_atE, Len_at, Int.toNat_natCast, Int.toNat_zero, Int.toNat_one, List.length_map, List.length_append, List.length_cons, List.length_nil, List.length_take, List.length_set, List.length_replicate, Bool.not_true, Bool.not_false, decide_true, decide_false, BEq.rfl, bne_self_eq_false, tf_beq, ft_beq, tf_bne, ft_bne, not_true_eq_false, not_false_eq_true, app]
  refine New_blk fun h1 b1 f1 s1 => ?_
  have b1 : Blk h1 h.size [.int .u8 a, v] := b1
  have hv1 := hv.fr f1
  have hrd := hv1.rd
  have hwl := hv.len
  have hk1 := hk h1 f1
  try simp (disch := first | assumption | omega | (apply At.mk; with_unfolding_all rfl)) only [hwl, ↓go_eq, ↓ent_eq, Mv, NilC_at, Fld_at, add_mk, Nat.zero_add, Nat.add_zero, Add64, Sub64, Mul64, Quo64, Rem64, Neg64, Cvt64, CvtU8, CvtU16, CvtU32, CvtU64, AddU64, SubU64, MulU64, Shr64, Shr_u8, Shr_u16, Shr_u32, Shr_u64, And1, And31, And32, Eql64, Neq64, Bin_lss, Bin_leq, Bin_gtr, Bin_geq, Bin_bool_eql, Bin_bool_neq, Bin_ptr_nil_eql, Bin_ptr_nil_neq, Not_dec, Un_not, Pick_t, Pick_f, Pick_pos, Pick_neg, Gd_tt, Gd_tf, Gd_ft, Gd_ff, Gd_pos_t, Gd_neg_t, Gd_pos_f, Gd_neg_f, Gd_undef, If_t, If_f, If_pos, If_neg, CallF_eq, Max_two, Min_two, Len_rd, Len_own, Ld_blkE, Idx_rdN, Idx_ownN, Idx_rdE, Idx_ownE, IdxAE, LdA_two, Idx_at0, Ext_atE, Len_at, Int.toNat_natCast, Int.toNat_zero, Int.toNat_one, List.length_map, List.length_append, List.length_cons, List.length_nil, List.length_take, List.length_set, List.length_replicate, Bool.not_true, Bool.not_false, decide_true, decide_false, BEq.rfl, bne_self_eq_false, tf_beq, ft_beq, tf_bne, ft_bne, not_true_eq_false, not_false_eq_true, app]
  refine Lp_fn (σ := Nat × Int) (fun s => [Iv m, ptr h.size, Iv s.2, v, Iv (xss.length : Nat), Iv (s.1 : Int)]) (fun s h' => h1 = h' ∧ s.1 ≤ xss.length ∧ s.1 ≤ s.2 ∧ s.2 ≤ 10 * m ∧ ∀ c ∈ xss.take s.1, c.length ≤ 10 * m) (fun s => xss.length - s.1) (0, 0) rfl (fun _ => rfl)
    ⟨rfl, Nat.zero_le _, by decide, by simp only; omega, by simp⟩ ?_
  rintro ⟨i, t⟩ _ ⟨rfl, hi, ht0, ht1, hc⟩ X hX
  simp only at hi ht0 ht1 hc
  by_cases c1 : (i : Int) < (xss.length : Nat)
  · have hg : xss[i]? = some xss[i] := List.getElem?_eq_getElem (by omega)
    obtain ⟨x, ax, rx⟩ := hv1.get i _ hg
    have hc5 := hcl _ (List.getElem_mem (by omega : i < xss.length))
    by_cases c2 : t + (1 + ((xss[i].length : Nat) : Int)) > 10 * m
    · try simp (disch := first | assumption | omega | (apply At.mk; with_unfolding_all rfl)) only [↓go_eq, ↓ent_eq, Mv, NilC_at, Fld_at, add_mk, Nat.zero_add, Nat.add_zero, Add64, Sub64, Mul64, Quo64, Rem64, Neg64, Cvt64, CvtU8, CvtU16, CvtU32, CvtU64, AddU64, SubU64, MulU64, Shr64, Shr_u8, Shr_u16, Shr_u32, Shr_u64, And1, And31, And32, Eql64, Neq64, Bin_lss, Bin_leq, Bin_gtr, Bin_geq, Bin_bool_eql, Bin_bool_neq, Bin_ptr_nil_eql, Bin_ptr_nil_neq, Not_dec, Un_not, Pick_t, Pick_f, Pick_pos, Pick_neg, Gd_tt, Gd_tf, Gd_ft, Gd_ff, Gd_pos_t, Gd_neg_t, Gd_pos_f, Gd_neg_f, Gd_undef, If_t, If_f, If_pos, If_neg, CallF_eq, Max_two, Min_two, Len_rd, Len_own, Ld_blkE, Idx_rdN, Idx_ownN, Idx_rdE, Idx_ownE, IdxAE, LdA_two, Idx_at0, Ext_atE, Len_at, Int.toNat_natCast, Int.toNat_zero, Int.toNat_one, List.length_map, List.length_append, List.length_cons, List.length_nil, List.length_take, List.length_set, List.length_replicate, Bool.not_true, Bool.not_false, decide_true, decide_false, BEq.rfl, bne_self_eq_false, tf_beq, ft_beq, tf_bne, ft_bne, not_true_eq_false, not_false_eq_true, app]
      exact hk1.2
    · try simp (disch := first | assumption | omega | (apply At.mk; with_unfolding_all rfl)) only [↓go_eq, ↓ent_eq, Mv, NilC_at, Fld_at, add_mk, Nat.zero_add, Nat.add_zero, Add64, Sub64, Mul64, Quo64, Rem64, Neg64, Cvt64, CvtU8, CvtU16, CvtU32, CvtU64, AddU64, SubU64, MulU64, Shr64, Shr_u8, Shr_u16, Shr_u32, Shr_u64, And1, And31, And32, Eql64, Neq64, Bin_lss, Bin_leq, Bin_gtr, Bin_geq, Bin_bool_eql, Bin_bool_neq, Bin_ptr_nil_eql, Bin_ptr_nil_neq, Not_dec, Un_not, Pick_t, Pick_f, Pick_pos, Pick_neg, Gd_tt, Gd_tf, Gd_ft, Gd_ff, Gd_pos_t, Gd_neg_t, Gd_pos_f, Gd_neg_f, Gd_undef, If_t, If_f, If_pos, If_neg, CallF_eq, Max_two, Min_two, Len_rd, Len_own, Ld_blkE, Idx_rdN, Idx_ownN, Idx_rdE, Idx_ownE, IdxAE, LdA_two, Idx_at0, Ext_atE, Len_at, Int.toNat_natCast, Int.toNat_zero, Int.toNat_one, List.length_map, List.length_append, List.length_cons, List.length_nil, List.length_take, List.length_set, List.length_replicate, Bool.not_true, Bool.not_false, decide_true, decide_false, BEq.rfl, bne_self_eq_false, tf_beq, ft_beq, tf_bne, ft_bne, not_true_eq_false, not_false_eq_true, app]
      refine hX (i + 1, t + (1 + ((xss[i].length : Nat) : Int))) h1 ⟨rfl, by simp only; omega, by simp only; omega, by simp only; omega, ?_⟩ (by simp only; omega)
      intro c hc'
      simp only at hc'
      rw [List.take_add_one, hg] at hc'
      rcases List.mem_append.1 hc' with q | q
      · exact hc c q
      · simp at q; subst q; omega
  · have : i = xss.length := by omega
    subst this
    rw [List.take_length] at hc
    try simp (disch := first | assumption | omega | (apply At.mk; with_unfolding_all rfl)) only [hwl, ↓go_eq, ↓ent_eq, Mv, NilC_at, Fld_at, add_mk, Nat.zero_add, Nat.add_zero, Add64, Sub64, Mul64, Quo64, Rem64, Neg64, Cvt64, CvtU8, CvtU16, CvtU32, CvtU64, AddU64, SubU64, MulU64, Shr64, Shr_u8, Shr_u16, Shr_u32, Shr_u64, And1, And31, And32, Eql64, Neq64, Bin_lss, Bin_leq, Bin_gtr, Bin_geq, Bin_bool_eql, Bin_bool_neq, Bin_ptr_nil_eql, Bin_ptr_nil_neq, Not_dec, Un_not, Pick_t, Pick_f, Pick_pos, Pick_neg, Gd_tt, Gd_tf, Gd_ft, Gd_ff, Gd_pos_t, Gd_neg_t, Gd_pos_f, Gd_neg_f, Gd_undef, If_t, If_f, If_pos, If_neg, CallF_eq, Max_two, Min_two, Len_rd, Len_own, Ld_blkE, Idx_rdN, Idx_ownN, Idx_rdE, Idx_ownE, IdxAE, LdA_two, Idx_at0, Ext_atE, Len_at, Int.toNat_natCast, Int.toNat_zero, Int.toNat_one, List.length_map, List.length_append, List.length_cons, List.length_nil, List.length_take, List.length_set, List.length_replicate, Bool.not_true, Bool.not_false, decide_true, decide_false, BEq.rfl, bne_self_eq_false, tf_beq, ft_beq, tf_bne, ft_bne, not_true_eq_false, not_false_eq_true, app]
    by_cases c2 : ((xss.length : Nat) : Int) ≤ m
    · rw [decide_eq_true c2]; exact hk1.1 ⟨by omega, hc⟩
    · rw [decide_eq_false c2]; exact hk1.2
end Go.Proofs.Ytonngdjfnnibaaa
