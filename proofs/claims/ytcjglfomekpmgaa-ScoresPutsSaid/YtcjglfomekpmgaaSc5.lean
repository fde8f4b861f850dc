/- A heap made anew, the model beside it, one deed done to both. Conditions: those typed ahead of each theorem. -/
import Derived.Test.YtcjglfomekpmgaaSc4
namespace Go.Proofs.Ytcjglfomekpmgaa
open Go.Pt
set_option linter.unusedVariables false
set_option linter.unusedSimpArgs false
theorem And255 {K : Ret} {h : Heap} (a : Int) : Bin .int .and (.int .i64 a) (.int .i64 255) K h = K (.int .i64 (a % 256)) h := by
  rw [Bin_and, mask_i64 a 8 (by decide) 255 rfl]; rfl
theorem Bld_four {K : Ret} {h : Heap} {x y w a b c d : Value} (hx : isCell x = true) (hy : isCell y = true) (hw : isCell w = true) : Bld [(0, 1), (1, 1), (2, 1), (3, 1)] #[a, b, c, d] [(0, x), (1, y), (3, w)] K h = K (.agg #[x, y, c, w]) h := by
  rw [Bld_eq, fill_one (off := 0) rfl hx (by simp), fill_one (off := 1) rfl hy (by simp), fill_one (off := 3) rfl hw (by simp), fill_nil]; rfl
theorem Bld_three {K : Ret} {h : Heap} {x y w a b c : Value} (hx : isCell x = true) (hy : isCell y = true) (hw : isCell w = true) : Bld [(0, 1), (1, 1), (2, 1)] #[a, b, c] [(0, x), (1, y), (2, w)] K h = K (.agg #[x, y, w]) h := by
  rw [Bld_eq, fill_one (off := 0) rfl hx (by simp), fill_one (off := 1) rfl hy (by simp), fill_one (off := 2) rfl hw (by simp), fill_nil]; rfl
theorem arr_zero (n : Nat) : arr n (fun _ => 0) = List.replicate n (Iv 0) := by simp only [arr, List.map_const', List.length_range]
def t0 : T := (fun _ => 0, 1048576)
def S0 : Nat → Bool := fun x => decide (1 ≤ x)
theorem cnt_S0 : ∀ n, cnt n S0 = n
  | 0 => rfl
  | n + 1 => by rw [cnt, cnt_S0 n]; simp [S0]
theorem SB_t0 (n : Nat) : SB n t0 := ⟨fun v _ => ⟨by simp [t0], by simp [t0], fun _ => rfl⟩, by decide, by decide⟩
def pNew (v : Nat) : Nat → Int := fun x => if 1 ≤ x ∧ x < v then ((x - 1 : Nat) : Int) else 0
theorem pNew_set (v : Nat) (hv : 1 ≤ v) : upd (pNew v) v ((v - 1 : Nat) : Int) = pNew (v + 1) := by
  funext x; unfold upd pNew
  by_cases e : x = v
  · subst e; rw [if_pos rfl, if_pos (by omega)]
  · rw [if_neg e]
    by_cases e2 : 1 ≤ x ∧ x < v
    · rw [if_pos e2, if_pos (by omega)]
    · rw [if_neg e2, if_neg (by omega)]
theorem PI_new (n : Nat) : PI n n 0 S0 (· + 1) (pNew (n + 1)) := by
  refine ⟨fun i hi => ⟨by simp only; omega, by simp only; omega, by simp only; omega, by simp [S0], ?_⟩, fun v v1 vn _ => ⟨fun _ => ⟨v - 1, by omega, by simp only; omega⟩, fun h => ?_⟩⟩
  · unfold pNew; rw [if_pos (by simp only; omega)]; simp
  · simp [S0] at h; omega
section
variable {K : Ret} {h h' : Heap} {g : Nat} {fp : List Nat} {n : Nat} {t : T} {S : Nat → Bool}
set_option maxHeartbeats 1000000 in
theorem scores_New.spec (hn : n ≤ 1000) (hk : ∀ g fp h', HP h' g fp n t0 S0 → Fr [] h h' → (∀ b ∈ fp, h.size ≤ b) → K (ptr g) h') : CallH Try.prog scores_New.id #[Iv (n : Nat)] K h := by
  refine scores_New.ok ?_
  simp only [scores_New.pt]
  have e1 : (n : Int) + 1 = ((n + 1 : Nat) : Int) := by omega
  refine Jn_fn (σ := Nat × Nat × Nat × Value × Value) (fun x => [Iv (n : Nat), ptr x.1]) (fun x h' => Blk h' x.1 [x.2.2.2.1, x.2.2.2.2, .slice none 0 0, Iv 1048576] ∧ Own h' x.2.2.2.1 (arr (n + 1) fun _ => 0) [x.2.1] ∧ Own h' x.2.2.2.2 (arr (n + 1) fun _ => 0) [x.2.2.1] ∧ x.1 ≠ x.2.1 ∧ x.1 ≠ x.2.2.1 ∧ x.2.1 ≠ x.2.2.1 ∧ h.size ≤ x.1 ∧ h.size ≤ x.2.1 ∧ h.size ≤ x.2.2.1 ∧ Fr [] h h') ?_ ?_
  · intro J hJ
    try simp (disch := first | assumption | omega | (apply At.mk; with_unfolding_all rfl)) only [↓go_eq, ↓ent_eq, Mv, NilC_at, Fld_at, add_mk, Nat.zero_add, Nat.add_zero, Add64, Sub64, Mul64, Quo64, Rem64, Neg64, Cvt64, CvtU8, CvtU16, CvtU32, CvtU64, AddU64, SubU64, MulU64, Shr64, Shr_u8, Shr_u16, Shr_u32, Shr_u64, And1, And31, And32, Eql64, Neq64, Bin_lss, Bin_leq, Bin_gtr, Bin_geq, Bin_bool_eql, Bin_bool_neq, Bin_ptr_nil_eql, Bin_ptr_nil_neq, Not_dec, Un_not, Pick_t, Pick_f, Pick_pos, Pick_neg, Gd_tt, Gd_tf, Gd_ft, Gd_ff, Gd_pos_t, Gd_neg_t, Gd_pos_f, Gd_neg_f, Gd_undef, If_t, If_f, If_pos, If_neg, CallF_eq, Max_two, Min_two, Len_rd, Len_own, Ld_blkE, Idx_rdN, Idx_ownN, Idx_rdE, Idx_ownE, IdxAE, LdA_two, Idx_at0, Ext_atE, Len_at, Int.toNat_natCast, Int.toNat_zero, Int.toNat_one, List.length_map, List.length_append, List.length_cons, List.length_nil, List.length_take, List.length_set, List.length_replicate, Bool.not_true, Bool.not_false, decide_true, decide_false, BEq.rfl, bne_self_eq_false, tf_beq, ft_beq, tf_bne, ft_bne, not_true_eq_false, not_false_eq_true, app]
    rw [e1]
    constructor
    · refine MkS_one (n := n + 1) (by omega) (by omega) fun h1 o1 f1 s1 => ?_
      refine MkS_one (n := n + 1) (by omega) (by omega) fun h2 o2 f2 s2 => ?_
      rw [Bld_four rfl rfl rfl]
      refine New_blk fun h3 b3 f3 s3 => ?_
      refine hJ (h2.size, h.size, h1.size, .slice (some ⟨h.size, 0, none⟩) (n + 1) (n + 1), .slice (some ⟨h1.size, 0, none⟩) (n + 1) (n + 1)) h3 ⟨b3, ?_, ?_, ?_, ?_, ?_, ?_, ?_, ?_, (f1.trans f2).trans f3⟩
      · rw [arr_zero]; exact (o1.fr f2 (by simp)).fr f3 (by simp)
      · rw [arr_zero]; exact o2.fr f3 (by simp)
      all_goals simp only; omega
    · refine MkS_one (n := n + 1) (by omega) (by omega) fun h1 o1 f1 s1 => ?_
      refine MkS_one (n := n + 1) (by omega) (by omega) fun h2 o2 f2 s2 => ?_
      rw [Bld_four rfl rfl rfl]
      refine New_blk fun h3 b3 f3 s3 => ?_
      refine hJ (h2.size, h1.size, h.size, .slice (some ⟨h1.size, 0, none⟩) (n + 1) (n + 1), .slice (some ⟨h.size, 0, none⟩) (n + 1) (n + 1)) h3 ⟨b3, ?_, ?_, ?_, ?_, ?_, ?_, ?_, ?_, (f1.trans f2).trans f3⟩
      · rw [arr_zero]; exact o2.fr f3 (by simp)
      · rw [arr_zero]; exact (o1.fr f2 (by simp)).fr f3 (by simp)
      all_goals simp only; omega
  · rintro ⟨g, sb, pb, sv, pv⟩ h1 ⟨b1, o1, o2, n1, n2, n3, z1, z2, z3, f1⟩
    simp only at b1 o1 o2 n1 n2 n3 z1 z2 z3
    have ep : pNew 1 = fun _ => 0 := by funext x; unfold pNew; rw [if_neg (by omega)]
    have q1 : HM h1 ⟨g, n, sb, pb, sv, pv, .slice none 0 0, []⟩ t0.1 (pNew 1) (· + 1) 0 t0.2 := ⟨b1, o1, by rw [ep]; exact o2, Own.nil _, n1, n2, n3, by simp, by simp, by simp⟩
    try simp (disch := first | assumption | omega | (apply At.mk; with_unfolding_all rfl)) only [↓go_eq, ↓ent_eq, Mv, NilC_at, Fld_at, add_mk, Nat.zero_add, Nat.add_zero, Add64, Sub64, Mul64, Quo64, Rem64, Neg64, Cvt64, CvtU8, CvtU16, CvtU32, CvtU64, AddU64, SubU64, MulU64, Shr64, Shr_u8, Shr_u16, Shr_u32, Shr_u64, And1, And31, And32, Eql64, Neq64, Bin_lss, Bin_leq, Bin_gtr, Bin_geq, Bin_bool_eql, Bin_bool_neq, Bin_ptr_nil_eql, Bin_ptr_nil_neq, Not_dec, Un_not, Pick_t, Pick_f, Pick_pos, Pick_neg, Gd_tt, Gd_tf, Gd_ft, Gd_ff, Gd_pos_t, Gd_neg_t, Gd_pos_f, Gd_neg_f, Gd_undef, If_t, If_f, If_pos, If_neg, CallF_eq, Max_two, Min_two, Len_rd, Len_own, Ld_blkE, Idx_rdN, Idx_ownN, Idx_rdE, Idx_ownE, IdxAE, LdA_two, Idx_at0, Ext_atE, Len_at, Int.toNat_natCast, Int.toNat_zero, Int.toNat_one, List.length_map, List.length_append, List.length_cons, List.length_nil, List.length_take, List.length_set, List.length_replicate, Bool.not_true, Bool.not_false, decide_true, decide_false, BEq.rfl, bne_self_eq_false, tf_beq, ft_beq, tf_bne, ft_bne, not_true_eq_false, not_false_eq_true, app]
    refine Lp_fn (σ := Nat × Value × List Nat) (fun x => [Iv (n : Nat), ptr g, Iv ((x.1 + 1 : Nat) : Int)]) (fun x h' => x.1 ≤ n ∧ HM h' ⟨g, n, sb, pb, sv, pv, x.2.1, x.2.2⟩ t0.1 (pNew (x.1 + 1)) (· + 1) x.1 t0.2 ∧ Fr [] h h' ∧ ∀ b ∈ x.2.2, h.size ≤ b) (fun x => n - x.1) (0, .slice none 0 0, []) rfl (fun _ => rfl) ⟨Nat.zero_le _, q1, f1, by simp⟩ ?_
    rintro ⟨v, lv, lbs⟩ h2 ⟨hv, q2, f2, hbs⟩ X hX
    simp only at hv q2 hbs
    have hd := q2.hd
    have ol := q2.ol
    simp only at hd ol
    have hl := arr_len v (fun i => ((i + 1 : Nat) : Int))
    by_cases c1 : ((v + 1 : Nat) : Int) ≤ n
    · try simp (disch := first | assumption | omega | (apply At.mk; with_unfolding_all rfl)) only [hl, ↓go_eq, ↓ent_eq, Mv, NilC_at, Fld_at, add_mk, Nat.zero_add, Nat.add_zero, Add64, Sub64, Mul64, Quo64, Rem64, Neg64, Cvt64, CvtU8, CvtU16, CvtU32, CvtU64, AddU64, SubU64, MulU64, Shr64, Shr_u8, Shr_u16, Shr_u32, Shr_u64, And1, And31, And32, Eql64, Neq64, Bin_lss, Bin_leq, Bin_gtr, Bin_geq, Bin_bool_eql, Bin_bool_neq, Bin_ptr_nil_eql, Bin_ptr_nil_neq, Not_dec, Un_not, Pick_t, Pick_f, Pick_pos, Pick_neg, Gd_tt, Gd_tf, Gd_ft, Gd_ff, Gd_pos_t, Gd_neg_t, Gd_pos_f, Gd_neg_f, Gd_undef, If_t, If_f, If_pos, If_neg, CallF_eq, Max_two, Min_two, Len_rd, Len_own, Ld_blkE, Idx_rdN, Idx_ownN, Idx_rdE, Idx_ownE, IdxAE, LdA_two, Idx_at0, Ext_atE, Len_at, Int.toNat_natCast, Int.toNat_zero, Int.toNat_one, List.length_map, List.length_append, List.length_cons, List.length_nil, List.length_take, List.length_set, List.length_replicate, Bool.not_true, Bool.not_false, decide_true, decide_false, BEq.rfl, bne_self_eq_false, tf_beq, ft_beq, tf_bne, ft_bne, not_true_eq_false, not_false_eq_true, app]
      refine q2.setp (v := v + 1) (by simp only; omega) fun h3 q3 f3 => ?_
      have ep2 : upd (pNew (v + 1)) (v + 1) ((v : Nat) : Int) = pNew (v + 1 + 1) := pNew_set (v + 1) (by omega)
      rw [ep2] at q3
      have hd := q3.hd
      have ol := q3.ol
      simp only at hd ol
      have f03 : Fr [] h h3 := f2.trans' f3 fun b hb => .inr (by simp only [HC.fp, List.mem_cons] at hb; rcases hb with x | x | x | x; omega; omega; omega; exact hbs b x)
      have hz3 := f03.size
      try simp (disch := first | assumption | omega | (apply At.mk; with_unfolding_all rfl)) only [hl, ↓go_eq, ↓ent_eq, Mv, NilC_at, Fld_at, add_mk, Nat.zero_add, Nat.add_zero, Add64, Sub64, Mul64, Quo64, Rem64, Neg64, Cvt64, CvtU8, CvtU16, CvtU32, CvtU64, AddU64, SubU64, MulU64, Shr64, Shr_u8, Shr_u16, Shr_u32, Shr_u64, And1, And31, And32, Eql64, Neq64, Bin_lss, Bin_leq, Bin_gtr, Bin_geq, Bin_bool_eql, Bin_bool_neq, Bin_ptr_nil_eql, Bin_ptr_nil_neq, Not_dec, Un_not, Pick_t, Pick_f, Pick_pos, Pick_neg, Gd_tt, Gd_tf, Gd_ft, Gd_ff, Gd_pos_t, Gd_neg_t, Gd_pos_f, Gd_neg_f, Gd_undef, If_t, If_f, If_pos, If_neg, CallF_eq, Max_two, Min_two, Len_rd, Len_own, Ld_blkE, Idx_rdN, Idx_ownN, Idx_rdE, Idx_ownE, IdxAE, LdA_two, Idx_at0, Ext_atE, Len_at, Int.toNat_natCast, Int.toNat_zero, Int.toNat_one, List.length_map, List.length_append, List.length_cons, List.length_nil, List.length_take, List.length_set, List.length_replicate, Bool.not_true, Bool.not_false, decide_true, decide_false, BEq.rfl, bne_self_eq_false, tf_beq, ft_beq, tf_bne, ft_bne, not_true_eq_false, not_false_eq_true, app]
      refine ol.app1 rfl rfl rfl (by rw [hl]; omega) (by rw [hl]; omega) fun lv' h4 lbs' o4 f4 hb4 => ?_
      have hbs' : ∀ b ∈ lbs', h.size ≤ b := fun b hb => by rcases hb4 b hb with x | x; exact hbs b x; omega
      rw [← arr_snoc (f := fun i => ((i + 1 : Nat) : Int))] at o4
      obtain ⟨d1, d2, d3, d4, d5, d6⟩ := q3.dj
      simp only at d1 d2 d3 d4 d5 d6
      have lg := q3.hd.lt
      have ls := q3.os.lt _ (List.mem_singleton.2 rfl)
      have lp := q3.op.lt _ (List.mem_singleton.2 rfl)
      simp only at lg ls lp
      have e4 : g ∉ lbs' := fun hm => by rcases hb4 _ hm with x | x; exact d4 x; omega
      have e5 : sb ∉ lbs' := fun hm => by rcases hb4 _ hm with x | x; exact d5 x; omega
      have e6 : pb ∉ lbs' := fun hm => by rcases hb4 _ hm with x | x; exact d6 x; omega
      have b4 := hd.fr f4 d4
      have os4 := q3.os.fr f4 (by simp; exact d5)
      have op4 := q3.op.fr f4 (by simp; exact d6)
      try simp (disch := first | assumption | omega | (apply At.mk; with_unfolding_all rfl)) only [↓go_eq, ↓ent_eq, Mv, NilC_at, Fld_at, add_mk, Nat.zero_add, Nat.add_zero, Add64, Sub64, Mul64, Quo64, Rem64, Neg64, Cvt64, CvtU8, CvtU16, CvtU32, CvtU64, AddU64, SubU64, MulU64, Shr64, Shr_u8, Shr_u16, Shr_u32, Shr_u64, And1, And31, And32, Eql64, Neq64, Bin_lss, Bin_leq, Bin_gtr, Bin_geq, Bin_bool_eql, Bin_bool_neq, Bin_ptr_nil_eql, Bin_ptr_nil_neq, Not_dec, Un_not, Pick_t, Pick_f, Pick_pos, Pick_neg, Gd_tt, Gd_tf, Gd_ft, Gd_ff, Gd_pos_t, Gd_neg_t, Gd_pos_f, Gd_neg_f, Gd_undef, If_t, If_f, If_pos, If_neg, CallF_eq, Max_two, Min_two, Len_rd, Len_own, Ld_blkE, Idx_rdN, Idx_ownN, Idx_rdE, Idx_ownE, IdxAE, LdA_two, Idx_at0, Ext_atE, Len_at, Int.toNat_natCast, Int.toNat_zero, Int.toNat_one, List.length_map, List.length_append, List.length_cons, List.length_nil, List.length_take, List.length_set, List.length_replicate, Bool.not_true, Bool.not_false, decide_true, decide_false, BEq.rfl, bne_self_eq_false, tf_beq, ft_beq, tf_bne, ft_bne, not_true_eq_false, not_false_eq_true, app]
      refine St_blk b4 (by simp) o4.rd.isCell fun h5 b5 f5 => ?_
      have q5 : HM h5 ⟨g, n, sb, pb, sv, pv, lv', lbs'⟩ t0.1 (pNew (v + 1 + 1)) (· + 1) (v + 1) t0.2 := ⟨b5, os4.fr f5 (by simp; exact Ne.symm d1), op4.fr f5 (by simp; exact Ne.symm d2), o4.fr f5 (fun b hb => by simp; rintro rfl; exact e4 hb), d1, d2, d3, e4, e5, e6⟩
      try simp (disch := first | assumption | omega | (apply At.mk; with_unfolding_all rfl)) only [↓go_eq, ↓ent_eq, Mv, NilC_at, Fld_at, add_mk, Nat.zero_add, Nat.add_zero, Add64, Sub64, Mul64, Quo64, Rem64, Neg64, Cvt64, CvtU8, CvtU16, CvtU32, CvtU64, AddU64, SubU64, MulU64, Shr64, Shr_u8, Shr_u16, Shr_u32, Shr_u64, And1, And31, And32, Eql64, Neq64, Bin_lss, Bin_leq, Bin_gtr, Bin_geq, Bin_bool_eql, Bin_bool_neq, Bin_ptr_nil_eql, Bin_ptr_nil_neq, Not_dec, Un_not, Pick_t, Pick_f, Pick_pos, Pick_neg, Gd_tt, Gd_tf, Gd_ft, Gd_ff, Gd_pos_t, Gd_neg_t, Gd_pos_f, Gd_neg_f, Gd_undef, If_t, If_f, If_pos, If_neg, CallF_eq, Max_two, Min_two, Len_rd, Len_own, Ld_blkE, Idx_rdN, Idx_ownN, Idx_rdE, Idx_ownE, IdxAE, LdA_two, Idx_at0, Ext_atE, Len_at, Int.toNat_natCast, Int.toNat_zero, Int.toNat_one, List.length_map, List.length_append, List.length_cons, List.length_nil, List.length_take, List.length_set, List.length_replicate, Bool.not_true, Bool.not_false, decide_true, decide_false, BEq.rfl, bne_self_eq_false, tf_beq, ft_beq, tf_bne, ft_bne, not_true_eq_false, not_false_eq_true, app]
      exact hX (v + 1, lv', lbs') h5 ⟨by simp only; omega, q5, (f03.trans' f4 fun b hb => .inr (hbs b hb)).trans' f5 (by simp; omega), hbs'⟩ (by simp only; omega)
    · have ev : v = n := by omega
      subst ev
      try simp (disch := first | assumption | omega | (apply At.mk; with_unfolding_all rfl)) only [↓go_eq, ↓ent_eq, Mv, NilC_at, Fld_at, add_mk, Nat.zero_add, Nat.add_zero, Add64, Sub64, Mul64, Quo64, Rem64, Neg64, Cvt64, CvtU8, CvtU16, CvtU32, CvtU64, AddU64, SubU64, MulU64, Shr64, Shr_u8, Shr_u16, Shr_u32, Shr_u64, And1, And31, And32, Eql64, Neq64, Bin_lss, Bin_leq, Bin_gtr, Bin_geq, Bin_bool_eql, Bin_bool_neq, Bin_ptr_nil_eql, Bin_ptr_nil_neq, Not_dec, Un_not, Pick_t, Pick_f, Pick_pos, Pick_neg, Gd_tt, Gd_tf, Gd_ft, Gd_ff, Gd_pos_t, Gd_neg_t, Gd_pos_f, Gd_neg_f, Gd_undef, If_t, If_f, If_pos, If_neg, CallF_eq, Max_two, Min_two, Len_rd, Len_own, Ld_blkE, Idx_rdN, Idx_ownN, Idx_rdE, Idx_ownE, IdxAE, LdA_two, Idx_at0, Ext_atE, Len_at, Int.toNat_natCast, Int.toNat_zero, Int.toNat_one, List.length_map, List.length_append, List.length_cons, List.length_nil, List.length_take, List.length_set, List.length_replicate, Bool.not_true, Bool.not_false, decide_true, decide_false, BEq.rfl, bne_self_eq_false, tf_beq, ft_beq, tf_bne, ft_bne, not_true_eq_false, not_false_eq_true, app]
      refine hk g (g :: sb :: pb :: lbs) h2 ⟨⟨g, v, sb, pb, sv, pv, lv, lbs⟩, pNew (v + 1), (· + 1), rfl, rfl, rfl, by rw [cnt_S0]; exact q2, by rw [cnt_S0]; exact PI_new v, fun j j0 jm _ => ?_⟩ f2 (fun b hb => by simp only [List.mem_cons] at hb; rcases hb with x | x | x | x; omega; omega; omega; exact hbs b x)
      unfold A; simp [t0]; omega
end
/-! ### The model -/
def brr (m : Nat) (S : Nat → Bool) : List Value := (List.range m).map fun i => .bool (S i)
theorem brr_len (m : Nat) (f : Nat → Bool) : (brr m f).length = m := by simp [brr]
theorem brr_at {m i : Nat} (f : Nat → Bool) (hi : i < m) : At (brr m f) i (.bool (f i)) := ⟨by rw [brr, List.getElem?_map, List.getElem?_range hi]; rfl⟩
theorem brr_set {m i : Nat} (f : Nat → Bool) (x : Bool) : (brr m f).set i (.bool x) = brr m (upd f i x) := by
  refine List.ext_getElem (by simp [brr]) fun j h1 h2 => ?_
  rw [List.getElem_set]
  simp only [brr, List.getElem_map, List.getElem_range, upd]
  by_cases e : i = j
  · rw [if_pos e, if_pos e.symm]
  · rw [if_neg e, if_neg (Ne.symm e)]
structure MC where
  q : Nat
  sb : Nat
  ib : Nat
  sv : Value
  iv : Value
def MC.fp (c : MC) : List Nat := [c.q, c.sb, c.ib]
structure MM (h : Heap) (c : MC) (n : Nat) (t : T) (S : Nat → Bool) : Prop where
  hd : Blk h c.q [c.sv, c.iv, Iv t.2]
  os : Own h c.sv (arr (n + 1) t.1) [c.sb]
  oi : Own h c.iv (brr (n + 1) S) [c.ib]
  dj : c.q ≠ c.sb ∧ c.q ≠ c.ib ∧ c.sb ≠ c.ib
section
variable {K : Ret} {h h' : Heap} {g : Nat} {fp : List Nat} {n : Nat} {t : T} {S : Nat → Bool} {c : MC}
theorem MM.fr {B : List Nat} (q : MM h c n t S) (f : Fr B h h') (hd : ∀ b ∈ c.fp, b ∉ B) : MM h' c n t S :=
  ⟨q.hd.fr f (hd _ (by simp [MC.fp])), q.os.fr f (fun b hb => hd b (by simp at hb; simp [MC.fp, hb])), q.oi.fr f (fun b hb => hd b (by simp at hb; simp [MC.fp, hb])), q.dj⟩
theorem MM.lt (q : MM h c n t S) : ∀ b ∈ c.fp, b < h.size := by
  intro b hb
  simp only [MC.fp, List.mem_cons] at hb
  rcases hb with rfl | rfl | rfl | hb
  · exact q.hd.lt
  · exact q.os.lt _ (by simp)
  · exact q.oi.lt _ (by simp)
  · cases hb
theorem MM.sets {v : Nat} {x : Int} (q : MM h c n t S) (hv : v ≤ n) (hk : ∀ h', MM h' c n (upd t.1 v x, t.2) S → Fr c.fp h h' → K undef h') : Idx 1 c.sv (Iv (v : Nat)) (fun a h => St a (Iv x) K h) h := by
  obtain ⟨hd, os, oi, d1, d2, d3⟩ := q
  refine os.put (by omega) (by rw [arr_len]; omega) rfl fun h1 o1 f1 _ => ?_
  rw [Int.toNat_natCast, arr_set] at o1
  exact hk h1 ⟨hd.fr f1 (by simp; exact d1), o1, oi.fr f1 (by simp; exact Ne.symm d3), d1, d2, d3⟩ (f1.mono fun b hb => by simp at hb; simp [MC.fp, hb])
theorem MM.seti {v : Nat} {x : Bool} (q : MM h c n t S) (hv : v ≤ n) (hk : ∀ h', MM h' c n t (upd S v x) → Fr c.fp h h' → K undef h') : Idx 1 c.iv (Iv (v : Nat)) (fun a h => St a (.bool x) K h) h := by
  obtain ⟨hd, os, oi, d1, d2, d3⟩ := q
  refine oi.put (by omega) (by rw [brr_len]; omega) rfl fun h1 o1 f1 _ => ?_
  rw [Int.toNat_natCast, brr_set] at o1
  exact hk h1 ⟨hd.fr f1 (by simp; exact d2), os.fr f1 (by simp; exact d3), o1, d1, d2, d3⟩ (f1.mono fun b hb => by simp at hb; simp [MC.fp, hb])
theorem MM.setr {x : Int} (q : MM h c n t S) (hk : ∀ h', MM h' c n (t.1, x) S → Fr c.fp h h' → K undef h') : St (.pointer (some ⟨c.q, 2, none⟩)) (Iv x) K h := by
  obtain ⟨hd, os, oi, d1, d2, d3⟩ := q
  refine St_blk hd (by simp) rfl fun h1 b1 f1 => ?_
  exact hk h1 ⟨b1, os.fr f1 (by simp; exact Ne.symm d1), oi.fr f1 (by simp; exact Ne.symm d2), d1, d2, d3⟩ (f1.mono fun b hb => by simp at hb; simp [MC.fp, hb])
set_option maxHeartbeats 1000000 in
theorem bradawllaw16_model_first.spec (q : MM h c n t S) (hn : n ≤ 1000) (hk : ∀ (v : Nat) ok, Fst n t.1 S v ok → K (Iv (v : Nat)) h) : CallH Try.prog bradawllaw16_model_first.id #[ptr c.q] K h := by
  refine bradawllaw16_model_first.ok ?_
  simp only [bradawllaw16_model_first.pt]
  obtain ⟨hd, os, oi, dj⟩ := q
  refine Lp_fn (σ := Nat × Nat) (fun x => [ptr c.q, Iv (x.1 : Nat), Iv ((x.2 + 1 : Nat) : Int)]) (fun x h' => h = h' ∧ x.2 ≤ n ∧ ((x.1 = 0 ∧ ∀ y, 1 ≤ y → y ≤ x.2 → S y = false) ∨ (1 ≤ x.1 ∧ x.1 ≤ x.2 ∧ S x.1 = true ∧ ∀ y, 1 ≤ y → y ≤ x.2 → S y = true → ¬ A t.1 y x.1))) (fun x => n - x.2) (0, 0) rfl (fun _ => rfl) ⟨rfl, Nat.zero_le _, .inl ⟨rfl, fun y a b => by simp only at b; omega⟩⟩ ?_
  rintro ⟨b, v⟩ _ ⟨rfl, hv, hI⟩ X hX
  simp only at hv hI
  have hl := arr_len (n + 1) t.1
  by_cases c1 : ((v + 1 : Nat) : Int) < ((n + 1 : Nat) : Int)
  · have a1 := brr_at S (show v + 1 < n + 1 by omega)
    have a2 := arr_at t.1 (show v + 1 < n + 1 by omega)
    have a3 := arr_at t.1 (show b < n + 1 by rcases hI with ⟨rfl, _⟩ | ⟨_, x, _⟩ <;> omega)
    have keep : (¬ (S (v + 1) = true ∧ (b = 0 ∨ t.1 (v + 1) > t.1 b))) → ((b = 0 ∧ ∀ y, 1 ≤ y → y ≤ v + 1 → S y = false) ∨ (1 ≤ b ∧ b ≤ v + 1 ∧ S b = true ∧ ∀ y, 1 ≤ y → y ≤ v + 1 → S y = true → ¬ A t.1 y b)) := by
      intro hno
      rcases hI with ⟨rfl, hI⟩ | ⟨b1, bv, bS, hI⟩
      · refine .inl ⟨rfl, fun y y1 yv => ?_⟩
        by_cases e : y = v + 1
        · subst e
          cases hS : S (v + 1) with
          | false => rfl
          | true => exact absurd ⟨hS, .inl rfl⟩ hno
        · exact hI y y1 (by omega)
      · refine .inr ⟨b1, by omega, bS, fun y y1 yv yS => ?_⟩
        by_cases e : y = v + 1
        · subst e
          have : ¬ t.1 (v + 1) > t.1 b := fun x => hno ⟨yS, .inr x⟩
          unfold A; omega
        · exact hI y y1 (by omega) yS
    have take : S (v + 1) = true → (b = 0 ∨ t.1 (v + 1) > t.1 b) → ((v + 1 = 0 ∧ ∀ y, 1 ≤ y → y ≤ v + 1 → S y = false) ∨ (1 ≤ v + 1 ∧ v + 1 ≤ v + 1 ∧ S (v + 1) = true ∧ ∀ y, 1 ≤ y → y ≤ v + 1 → S y = true → ¬ A t.1 y (v + 1))) := by
      intro hS hgt
      refine .inr ⟨by omega, Nat.le_refl _, hS, fun y y1 yv yS => ?_⟩
      by_cases e : y = v + 1
      · subst e; exact A_irr _ _
      · rcases hI with ⟨rfl, hI⟩ | ⟨b1, bv, bS, hI⟩
        · rw [hI y y1 (by omega)] at yS; cases yS
        · have := hI y y1 (by omega) yS
          rcases hgt with x | x
          · omega
          · unfold A at *; omega
    try simp (disch := first | assumption | omega | (apply At.mk; with_unfolding_all rfl)) only [hl, ↓go_eq, ↓ent_eq, Mv, NilC_at, Fld_at, add_mk, Nat.zero_add, Nat.add_zero, Add64, Sub64, Mul64, Quo64, Rem64, Neg64, Cvt64, CvtU8, CvtU16, CvtU32, CvtU64, AddU64, SubU64, MulU64, Shr64, Shr_u8, Shr_u16, Shr_u32, Shr_u64, And1, And31, And32, Eql64, Neq64, Bin_lss, Bin_leq, Bin_gtr, Bin_geq, Bin_bool_eql, Bin_bool_neq, Bin_ptr_nil_eql, Bin_ptr_nil_neq, Not_dec, Un_not, Pick_t, Pick_f, Pick_pos, Pick_neg, Gd_tt, Gd_tf, Gd_ft, Gd_ff, Gd_pos_t, Gd_neg_t, Gd_pos_f, Gd_neg_f, Gd_undef, If_t, If_f, If_pos, If_neg, CallF_eq, Max_two, Min_two, Len_rd, Len_own, Ld_blkE, Idx_rdN, Idx_ownN, Idx_rdE, Idx_ownE, IdxAE, LdA_two, Idx_at0, Ext_atE, Len_at, Int.toNat_natCast, Int.toNat_zero, Int.toNat_one, List.length_map, List.length_append, List.length_cons, List.length_nil, List.length_take, List.length_set, List.length_replicate, Bool.not_true, Bool.not_false, decide_true, decide_false, BEq.rfl, bne_self_eq_false, tf_beq, ft_beq, tf_bne, ft_bne, not_true_eq_false, not_false_eq_true, app]
    refine Jn_fn (σ := Nat) (fun b' => [ptr c.q, Iv (b' : Nat), Iv ((v + 1 : Nat) : Int)]) (fun b' h' => h = h' ∧ ((b' = 0 ∧ ∀ y, 1 ≤ y → y ≤ v + 1 → S y = false) ∨ (1 ≤ b' ∧ b' ≤ v + 1 ∧ S b' = true ∧ ∀ y, 1 ≤ y → y ≤ v + 1 → S y = true → ¬ A t.1 y b'))) ?_ ?_
    · intro J hJ
      cases hS : S (v + 1) with
      | false =>
        rw [hS] at a1
        try simp (disch := first | assumption | omega | (apply At.mk; with_unfolding_all rfl)) only [↓go_eq, ↓ent_eq, Mv, NilC_at, Fld_at, add_mk, Nat.zero_add, Nat.add_zero, Add64, Sub64, Mul64, Quo64, Rem64, Neg64, Cvt64, CvtU8, CvtU16, CvtU32, CvtU64, AddU64, SubU64, MulU64, Shr64, Shr_u8, Shr_u16, Shr_u32, Shr_u64, And1, And31, And32, Eql64, Neq64, Bin_lss, Bin_leq, Bin_gtr, Bin_geq, Bin_bool_eql, Bin_bool_neq, Bin_ptr_nil_eql, Bin_ptr_nil_neq, Not_dec, Un_not, Pick_t, Pick_f, Pick_pos, Pick_neg, Gd_tt, Gd_tf, Gd_ft, Gd_ff, Gd_pos_t, Gd_neg_t, Gd_pos_f, Gd_neg_f, Gd_undef, If_t, If_f, If_pos, If_neg, CallF_eq, Max_two, Min_two, Len_rd, Len_own, Ld_blkE, Idx_rdN, Idx_ownN, Idx_rdE, Idx_ownE, IdxAE, LdA_two, Idx_at0, Ext_atE, Len_at, Int.toNat_natCast, Int.toNat_zero, Int.toNat_one, List.length_map, List.length_append, List.length_cons, List.length_nil, List.length_take, List.length_set, List.length_replicate, Bool.not_true, Bool.not_false, decide_true, decide_false, BEq.rfl, bne_self_eq_false, tf_beq, ft_beq, tf_bne, ft_bne, not_true_eq_false, not_false_eq_true, app]
        exact hJ b h ⟨rfl, keep (by rw [hS]; rintro ⟨x, _⟩; cases x)⟩
      | true =>
        rw [hS] at a1
        by_cases e0 : ((b : Nat) : Int) = 0
        · try simp (disch := first | assumption | omega | (apply At.mk; with_unfolding_all rfl)) only [↓go_eq, ↓ent_eq, Mv, NilC_at, Fld_at, add_mk, Nat.zero_add, Nat.add_zero, Add64, Sub64, Mul64, Quo64, Rem64, Neg64, Cvt64, CvtU8, CvtU16, CvtU32, CvtU64, AddU64, SubU64, MulU64, Shr64, Shr_u8, Shr_u16, Shr_u32, Shr_u64, And1, And31, And32, Eql64, Neq64, Bin_lss, Bin_leq, Bin_gtr, Bin_geq, Bin_bool_eql, Bin_bool_neq, Bin_ptr_nil_eql, Bin_ptr_nil_neq, Not_dec, Un_not, Pick_t, Pick_f, Pick_pos, Pick_neg, Gd_tt, Gd_tf, Gd_ft, Gd_ff, Gd_pos_t, Gd_neg_t, Gd_pos_f, Gd_neg_f, Gd_undef, If_t, If_f, If_pos, If_neg, CallF_eq, Max_two, Min_two, Len_rd, Len_own, Ld_blkE, Idx_rdN, Idx_ownN, Idx_rdE, Idx_ownE, IdxAE, LdA_two, Idx_at0, Ext_atE, Len_at, Int.toNat_natCast, Int.toNat_zero, Int.toNat_one, List.length_map, List.length_append, List.length_cons, List.length_nil, List.length_take, List.length_set, List.length_replicate, Bool.not_true, Bool.not_false, decide_true, decide_false, BEq.rfl, bne_self_eq_false, tf_beq, ft_beq, tf_bne, ft_bne, not_true_eq_false, not_false_eq_true, app]
          exact hJ (v + 1) h ⟨rfl, take hS (.inl (by omega))⟩
        · by_cases e1 : t.1 (v + 1) > t.1 b
          · try simp (disch := first | assumption | omega | (apply At.mk; with_unfolding_all rfl)) only [↓go_eq, ↓ent_eq, Mv, NilC_at, Fld_at, add_mk, Nat.zero_add, Nat.add_zero, Add64, Sub64, Mul64, Quo64, Rem64, Neg64, Cvt64, CvtU8, CvtU16, CvtU32, CvtU64, AddU64, SubU64, MulU64, Shr64, Shr_u8, Shr_u16, Shr_u32, Shr_u64, And1, And31, And32, Eql64, Neq64, Bin_lss, Bin_leq, Bin_gtr, Bin_geq, Bin_bool_eql, Bin_bool_neq, Bin_ptr_nil_eql, Bin_ptr_nil_neq, Not_dec, Un_not, Pick_t, Pick_f, Pick_pos, Pick_neg, Gd_tt, Gd_tf, Gd_ft, Gd_ff, Gd_pos_t, Gd_neg_t, Gd_pos_f, Gd_neg_f, Gd_undef, If_t, If_f, If_pos, If_neg, CallF_eq, Max_two, Min_two, Len_rd, Len_own, Ld_blkE, Idx_rdN, Idx_ownN, Idx_rdE, Idx_ownE, IdxAE, LdA_two, Idx_at0, Ext_atE, Len_at, Int.toNat_natCast, Int.toNat_zero, Int.toNat_one, List.length_map, List.length_append, List.length_cons, List.length_nil, List.length_take, List.length_set, List.length_replicate, Bool.not_true, Bool.not_false, decide_true, decide_false, BEq.rfl, bne_self_eq_false, tf_beq, ft_beq, tf_bne, ft_bne, not_true_eq_false, not_false_eq_true, app]
            exact hJ (v + 1) h ⟨rfl, take hS (.inr e1)⟩
          · try simp (disch := first | assumption | omega | (apply At.mk; with_unfolding_all rfl)) only [↓go_eq, ↓ent_eq, Mv, NilC_at, Fld_at, add_mk, Nat.zero_add, Nat.add_zero, Add64, Sub64, Mul64, Quo64, Rem64, Neg64, Cvt64, CvtU8, CvtU16, CvtU32, CvtU64, AddU64, SubU64, MulU64, Shr64, Shr_u8, Shr_u16, Shr_u32, Shr_u64, And1, And31, And32, Eql64, Neq64, Bin_lss, Bin_leq, Bin_gtr, Bin_geq, Bin_bool_eql, Bin_bool_neq, Bin_ptr_nil_eql, Bin_ptr_nil_neq, Not_dec, Un_not, Pick_t, Pick_f, Pick_pos, Pick_neg, Gd_tt, Gd_tf, Gd_ft, Gd_ff, Gd_pos_t, Gd_neg_t, Gd_pos_f, Gd_neg_f, Gd_undef, If_t, If_f, If_pos, If_neg, CallF_eq, Max_two, Min_two, Len_rd, Len_own, Ld_blkE, Idx_rdN, Idx_ownN, Idx_rdE, Idx_ownE, IdxAE, LdA_two, Idx_at0, Ext_atE, Len_at, Int.toNat_natCast, Int.toNat_zero, Int.toNat_one, List.length_map, List.length_append, List.length_cons, List.length_nil, List.length_take, List.length_set, List.length_replicate, Bool.not_true, Bool.not_false, decide_true, decide_false, BEq.rfl, bne_self_eq_false, tf_beq, ft_beq, tf_bne, ft_bne, not_true_eq_false, not_false_eq_true, app]
            exact hJ b h ⟨rfl, keep (by rintro ⟨_, x | x⟩; omega; omega)⟩
    · rintro b' _ ⟨rfl, hI'⟩
      try simp (disch := first | assumption | omega | (apply At.mk; with_unfolding_all rfl)) only [↓go_eq, ↓ent_eq, Mv, NilC_at, Fld_at, add_mk, Nat.zero_add, Nat.add_zero, Add64, Sub64, Mul64, Quo64, Rem64, Neg64, Cvt64, CvtU8, CvtU16, CvtU32, CvtU64, AddU64, SubU64, MulU64, Shr64, Shr_u8, Shr_u16, Shr_u32, Shr_u64, And1, And31, And32, Eql64, Neq64, Bin_lss, Bin_leq, Bin_gtr, Bin_geq, Bin_bool_eql, Bin_bool_neq, Bin_ptr_nil_eql, Bin_ptr_nil_neq, Not_dec, Un_not, Pick_t, Pick_f, Pick_pos, Pick_neg, Gd_tt, Gd_tf, Gd_ft, Gd_ff, Gd_pos_t, Gd_neg_t, Gd_pos_f, Gd_neg_f, Gd_undef, If_t, If_f, If_pos, If_neg, CallF_eq, Max_two, Min_two, Len_rd, Len_own, Ld_blkE, Idx_rdN, Idx_ownN, Idx_rdE, Idx_ownE, IdxAE, LdA_two, Idx_at0, Ext_atE, Len_at, Int.toNat_natCast, Int.toNat_zero, Int.toNat_one, List.length_map, List.length_append, List.length_cons, List.length_nil, List.length_take, List.length_set, List.length_replicate, Bool.not_true, Bool.not_false, decide_true, decide_false, BEq.rfl, bne_self_eq_false, tf_beq, ft_beq, tf_bne, ft_bne, not_true_eq_false, not_false_eq_true, app]
      exact hX (b', v + 1) h ⟨rfl, by simp only; omega, hI'⟩ (by simp only; omega)
  · have ev : v = n := by omega
    subst ev
    try simp (disch := first | assumption | omega | (apply At.mk; with_unfolding_all rfl)) only [hl, ↓go_eq, ↓ent_eq, Mv, NilC_at, Fld_at, add_mk, Nat.zero_add, Nat.add_zero, Add64, Sub64, Mul64, Quo64, Rem64, Neg64, Cvt64, CvtU8, CvtU16, CvtU32, CvtU64, AddU64, SubU64, MulU64, Shr64, Shr_u8, Shr_u16, Shr_u32, Shr_u64, And1, And31, And32, Eql64, Neq64, Bin_lss, Bin_leq, Bin_gtr, Bin_geq, Bin_bool_eql, Bin_bool_neq, Bin_ptr_nil_eql, Bin_ptr_nil_neq, Not_dec, Un_not, Pick_t, Pick_f, Pick_pos, Pick_neg, Gd_tt, Gd_tf, Gd_ft, Gd_ff, Gd_pos_t, Gd_neg_t, Gd_pos_f, Gd_neg_f, Gd_undef, If_t, If_f, If_pos, If_neg, CallF_eq, Max_two, Min_two, Len_rd, Len_own, Ld_blkE, Idx_rdN, Idx_ownN, Idx_rdE, Idx_ownE, IdxAE, LdA_two, Idx_at0, Ext_atE, Len_at, Int.toNat_natCast, Int.toNat_zero, Int.toNat_one, List.length_map, List.length_append, List.length_cons, List.length_nil, List.length_take, List.length_set, List.length_replicate, Bool.not_true, Bool.not_false, decide_true, decide_false, BEq.rfl, bne_self_eq_false, tf_beq, ft_beq, tf_bne, ft_bne, not_true_eq_false, not_false_eq_true, app]
    rcases hI with ⟨rfl, hI⟩ | ⟨b1, bv, bS, hI⟩
    · exact hk 0 false (.inl ⟨rfl, rfl, hI⟩)
    · exact hk b true (.inr ⟨rfl, b1, bv, bS, hI⟩)
set_option maxHeartbeats 1000000 in
theorem bradawllaw16_model_low.spec (q : MM h c n t S) (hn : n ≤ 1000) (hs : ∀ v, v ≤ n → 0 ≤ t.1 v ∧ t.1 v ≤ 4611686018427387904) (hr : 0 ≤ t.2 ∧ t.2 ≤ 4611686018427387904) (hk : ∀ h', MM h' c n (low t) S → Fr c.fp h h' → K (.tuple #[]) h') : CallH Try.prog bradawllaw16_model_low.id #[ptr c.q] K h := by
  refine bradawllaw16_model_low.ok ?_
  simp only [bradawllaw16_model_low.pt]
  have hd := q.hd
  have os := q.os
  have hl := arr_len (n + 1) t.1
  try simp (disch := first | assumption | omega | (apply At.mk; with_unfolding_all rfl)) only [hl, ↓go_eq, ↓ent_eq, Mv, NilC_at, Fld_at, add_mk, Nat.zero_add, Nat.add_zero, Add64, Sub64, Mul64, Quo64, Rem64, Neg64, Cvt64, CvtU8, CvtU16, CvtU32, CvtU64, AddU64, SubU64, MulU64, Shr64, Shr_u8, Shr_u16, Shr_u32, Shr_u64, And1, And31, And32, Eql64, Neq64, Bin_lss, Bin_leq, Bin_gtr, Bin_geq, Bin_bool_eql, Bin_bool_neq, Bin_ptr_nil_eql, Bin_ptr_nil_neq, Not_dec, Un_not, Pick_t, Pick_f, Pick_pos, Pick_neg, Gd_tt, Gd_tf, Gd_ft, Gd_ff, Gd_pos_t, Gd_neg_t, Gd_pos_f, Gd_neg_f, Gd_undef, If_t, If_f, If_pos, If_neg, CallF_eq, Max_two, Min_two, Len_rd, Len_own, Ld_blkE, Idx_rdN, Idx_ownN, Idx_rdE, Idx_ownE, IdxAE, LdA_two, Idx_at0, Ext_atE, Len_at, Int.toNat_natCast, Int.toNat_zero, Int.toNat_one, List.length_map, List.length_append, List.length_cons, List.length_nil, List.length_take, List.length_set, List.length_replicate, Bool.not_true, Bool.not_false, decide_true, decide_false, BEq.rfl, bne_self_eq_false, tf_beq, ft_beq, tf_bne, ft_bne, not_true_eq_false, not_false_eq_true, app]
  have e0 : (fun x : Nat => if x < 0 then t.1 x / 1073741824 else t.1 x) = t.1 := by funext x; simp
  refine Lp_fn (σ := Nat) (fun i => [ptr c.q, Iv ((n + 1 : Nat) : Int), Iv (i : Nat)]) (fun i h' => i ≤ n + 1 ∧ MM h' c n (fun x => if x < i then t.1 x / 1073741824 else t.1 x, t.2) S ∧ Fr c.fp h h') (fun i => n + 1 - i) 0 rfl (fun _ => rfl) ⟨Nat.zero_le _, by rw [e0]; exact q, Fr.refl _ _⟩ ?_
  clear hd os hl e0
  rintro i h1 ⟨hi, q1, f1⟩ X hX
  have hd := q1.hd
  have os := q1.os
  have hl := arr_len (n + 1) (fun x => if x < i then t.1 x / 1073741824 else t.1 x)
  by_cases c1 : (i : Int) < ((n + 1 : Nat) : Int)
  · have a1 := arr_at (fun x => if x < i then t.1 x / 1073741824 else t.1 x) (show i < n + 1 by omega)
    simp only [Nat.lt_irrefl, if_false] at a1
    have hsi := hs i (by omega)
    try simp (disch := first | assumption | omega | (apply At.mk; with_unfolding_all rfl)) only [hl, ↓go_eq, ↓ent_eq, Mv, NilC_at, Fld_at, add_mk, Nat.zero_add, Nat.add_zero, Add64, Sub64, Mul64, Quo64, Rem64, Neg64, Cvt64, CvtU8, CvtU16, CvtU32, CvtU64, AddU64, SubU64, MulU64, Shr64, Shr_u8, Shr_u16, Shr_u32, Shr_u64, And1, And31, And32, Eql64, Neq64, Bin_lss, Bin_leq, Bin_gtr, Bin_geq, Bin_bool_eql, Bin_bool_neq, Bin_ptr_nil_eql, Bin_ptr_nil_neq, Not_dec, Un_not, Pick_t, Pick_f, Pick_pos, Pick_neg, Gd_tt, Gd_tf, Gd_ft, Gd_ff, Gd_pos_t, Gd_neg_t, Gd_pos_f, Gd_neg_f, Gd_undef, If_t, If_f, If_pos, If_neg, CallF_eq, Max_two, Min_two, Len_rd, Len_own, Ld_blkE, Idx_rdN, Idx_ownN, Idx_rdE, Idx_ownE, IdxAE, LdA_two, Idx_at0, Ext_atE, Len_at, Int.toNat_natCast, Int.toNat_zero, Int.toNat_one, List.length_map, List.length_append, List.length_cons, List.length_nil, List.length_take, List.length_set, List.length_replicate, Bool.not_true, Bool.not_false, decide_true, decide_false, BEq.rfl, bne_self_eq_false, tf_beq, ft_beq, tf_bne, ft_bne, not_true_eq_false, not_false_eq_true, app]
    refine q1.sets (by omega) fun h2 q2 f2 => ?_
    try simp (disch := first | assumption | omega | (apply At.mk; with_unfolding_all rfl)) only [↓go_eq, ↓ent_eq, Mv, NilC_at, Fld_at, add_mk, Nat.zero_add, Nat.add_zero, Add64, Sub64, Mul64, Quo64, Rem64, Neg64, Cvt64, CvtU8, CvtU16, CvtU32, CvtU64, AddU64, SubU64, MulU64, Shr64, Shr_u8, Shr_u16, Shr_u32, Shr_u64, And1, And31, And32, Eql64, Neq64, Bin_lss, Bin_leq, Bin_gtr, Bin_geq, Bin_bool_eql, Bin_bool_neq, Bin_ptr_nil_eql, Bin_ptr_nil_neq, Not_dec, Un_not, Pick_t, Pick_f, Pick_pos, Pick_neg, Gd_tt, Gd_tf, Gd_ft, Gd_ff, Gd_pos_t, Gd_neg_t, Gd_pos_f, Gd_neg_f, Gd_undef, If_t, If_f, If_pos, If_neg, CallF_eq, Max_two, Min_two, Len_rd, Len_own, Ld_blkE, Idx_rdN, Idx_ownN, Idx_rdE, Idx_ownE, IdxAE, LdA_two, Idx_at0, Ext_atE, Len_at, Int.toNat_natCast, Int.toNat_zero, Int.toNat_one, List.length_map, List.length_append, List.length_cons, List.length_nil, List.length_take, List.length_set, List.length_replicate, Bool.not_true, Bool.not_false, decide_true, decide_false, BEq.rfl, bne_self_eq_false, tf_beq, ft_beq, tf_bne, ft_bne, not_true_eq_false, not_false_eq_true, app]
    refine hX (i + 1) h2 ⟨by omega, ?_, f1.trans f2⟩ (by omega)
    have e : upd (fun x => if x < i then t.1 x / 1073741824 else t.1 x) i (t.1 i / 1073741824) = fun x => if x < i + 1 then t.1 x / 1073741824 else t.1 x := by
      funext x; unfold upd
      by_cases e1 : x = i
      · subst e1; rw [if_pos rfl, if_pos (by omega)]
      · rw [if_neg e1]
        show (if x < i then t.1 x / 1073741824 else t.1 x) = _
        by_cases e2 : x < i
        · rw [if_pos e2, if_pos (by omega)]
        · rw [if_neg e2, if_neg (by omega)]
    rw [← e]; exact q2
  · have ei : i = n + 1 := by omega
    have e2 : arr (n + 1) (fun x => if x < i then t.1 x / 1073741824 else t.1 x) = arr (n + 1) (low t).1 := arr_congr fun x hx => if_pos (by omega)
    have q1 : MM h1 c n ((low t).1, t.2) S := ⟨q1.hd, by rw [← e2]; exact q1.os, q1.oi, q1.dj⟩
    try simp (disch := first | assumption | omega | (apply At.mk; with_unfolding_all rfl)) only [↓go_eq, ↓ent_eq, Mv, NilC_at, Fld_at, add_mk, Nat.zero_add, Nat.add_zero, Add64, Sub64, Mul64, Quo64, Rem64, Neg64, Cvt64, CvtU8, CvtU16, CvtU32, CvtU64, AddU64, SubU64, MulU64, Shr64, Shr_u8, Shr_u16, Shr_u32, Shr_u64, And1, And31, And32, Eql64, Neq64, Bin_lss, Bin_leq, Bin_gtr, Bin_geq, Bin_bool_eql, Bin_bool_neq, Bin_ptr_nil_eql, Bin_ptr_nil_neq, Not_dec, Un_not, Pick_t, Pick_f, Pick_pos, Pick_neg, Gd_tt, Gd_tf, Gd_ft, Gd_ff, Gd_pos_t, Gd_neg_t, Gd_pos_f, Gd_neg_f, Gd_undef, If_t, If_f, If_pos, If_neg, CallF_eq, Max_two, Min_two, Len_rd, Len_own, Ld_blkE, Idx_rdN, Idx_ownN, Idx_rdE, Idx_ownE, IdxAE, LdA_two, Idx_at0, Ext_atE, Len_at, Int.toNat_natCast, Int.toNat_zero, Int.toNat_one, List.length_map, List.length_append, List.length_cons, List.length_nil, List.length_take, List.length_set, List.length_replicate, Bool.not_true, Bool.not_false, decide_true, decide_false, BEq.rfl, bne_self_eq_false, tf_beq, ft_beq, tf_bne, ft_bne, not_true_eq_false, not_false_eq_true, app]
    refine q1.setr fun h2 q2 f2 => ?_
    try simp (disch := first | assumption | omega | (apply At.mk; with_unfolding_all rfl)) only [↓go_eq, ↓ent_eq, Mv, NilC_at, Fld_at, add_mk, Nat.zero_add, Nat.add_zero, Add64, Sub64, Mul64, Quo64, Rem64, Neg64, Cvt64, CvtU8, CvtU16, CvtU32, CvtU64, AddU64, SubU64, MulU64, Shr64, Shr_u8, Shr_u16, Shr_u32, Shr_u64, And1, And31, And32, Eql64, Neq64, Bin_lss, Bin_leq, Bin_gtr, Bin_geq, Bin_bool_eql, Bin_bool_neq, Bin_ptr_nil_eql, Bin_ptr_nil_neq, Not_dec, Un_not, Pick_t, Pick_f, Pick_pos, Pick_neg, Gd_tt, Gd_tf, Gd_ft, Gd_ff, Gd_pos_t, Gd_neg_t, Gd_pos_f, Gd_neg_f, Gd_undef, If_t, If_f, If_pos, If_neg, CallF_eq, Max_two, Min_two, Len_rd, Len_own, Ld_blkE, Idx_rdN, Idx_ownN, Idx_rdE, Idx_ownE, IdxAE, LdA_two, Idx_at0, Ext_atE, Len_at, Int.toNat_natCast, Int.toNat_zero, Int.toNat_one, List.length_map, List.length_append, List.length_cons, List.length_nil, List.length_take, List.length_set, List.length_replicate, Bool.not_true, Bool.not_false, decide_true, decide_false, BEq.rfl, bne_self_eq_false, tf_beq, ft_beq, tf_bne, ft_bne, not_true_eq_false, not_false_eq_true, app]
    exact hk h2 q2 (f1.trans f2)
end
end Go.Proofs.Ytcjglfomekpmgaa
