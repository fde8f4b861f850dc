/- A heap of variables by their scores: taking, putting, making. Conditions: those typed ahead of each theorem. -/
import Derived.Test.YtcjglfomekpmgaaSc3
namespace Go.Proofs.Ytcjglfomekpmgaa
open Go.Pt
set_option linter.unusedVariables false
set_option linter.unusedSimpArgs false
theorem PI_take {n m : Nat} {S : Nat → Bool} {f : Nat → Nat} {p : Nat → Int} (pi : PI n (m + 1) 0 S f p) (hm : 0 < m) : PI n m (f 0) (upd S (f 0) false) (upd f 0 (f m)) (upd p (f m) (0 : Nat)) := by
  have inj : ∀ i j, i < m + 1 → j < m + 1 → f i = f j → i = j := fun i j hi hj e => pi.inj hi hj e
  refine ⟨fun i hi => ?_, fun v v1 vn vd => ⟨fun hS => ?_, fun hS => ?_⟩⟩
  · by_cases e : i = 0
    · subst e
      rw [upd_at]
      obtain ⟨a, b, c, d, x⟩ := pi.1 m (by omega)
      have hne : f m ≠ f 0 := fun e => by have := inj _ _ (by omega) (by omega) e; omega
      exact ⟨a, b, hne, by rw [upd_ne hne]; exact d, by rw [upd_at]⟩
    · rw [upd_ne e]
      obtain ⟨a, b, c, d, x⟩ := pi.1 i (by omega)
      have hne : f i ≠ f 0 := fun e' => by have := inj _ _ (by omega) (by omega) e'; omega
      have hne2 : f i ≠ f m := fun e' => by have := inj _ _ (by omega) (by omega) e'; omega
      exact ⟨a, b, hne, by rw [upd_ne hne]; exact d, by rw [upd_ne hne2]; exact x⟩
  · rw [upd_ne vd] at hS
    obtain ⟨i, hi, e⟩ := (pi.2 v v1 vn (by omega)).1 hS
    by_cases e2 : i = m
    · exact ⟨0, hm, by rw [upd_at, ← e2]; exact e⟩
    · have : i ≠ 0 := fun x => vd (by rw [← e, x])
      exact ⟨i, by omega, by rw [upd_ne this]; exact e⟩
  · rw [upd_ne vd] at hS
    have hne : v ≠ f m := fun x => by have := (pi.1 m (by omega)).2.2.2.1; rw [← x, hS] at this; cases this
    rw [upd_ne hne]
    exact (pi.2 v v1 vn (by omega)).2 hS
theorem PI_take0 {n : Nat} {S : Nat → Bool} {f : Nat → Nat} {p : Nat → Int} (pi : PI n 1 0 S f p) : PI n 0 (f 0) (upd S (f 0) false) f p := by
  refine ⟨fun i hi => by omega, fun v v1 vn vd => ⟨fun hS => ?_, fun hS => ?_⟩⟩
  · rw [upd_ne vd] at hS
    obtain ⟨i, hi, e⟩ := (pi.2 v v1 vn (by omega)).1 hS
    rw [show i = 0 by omega] at e
    exact absurd e.symm vd
  · rw [upd_ne vd] at hS
    exact (pi.2 v v1 vn (by omega)).2 hS
theorem PI_fin {n m d : Nat} {S : Nat → Bool} {f : Nat → Nat} {p : Nat → Int} (pi : PI n m d S f p) (hS : S d = false) : PI n m 0 S f (upd p d (-1)) := by
  refine ⟨fun i hi => ?_, fun v v1 vn _ => ?_⟩
  · obtain ⟨a, b, c, e, x⟩ := pi.1 i hi
    exact ⟨a, b, by omega, e, by rw [upd_ne c]; exact x⟩
  · by_cases e : v = d
    · subst e
      rw [upd_at]
      exact ⟨fun x => (by rw [hS] at x; cases x), fun _ => by decide⟩
    · rw [upd_ne e]; exact pi.2 v v1 vn e
theorem PI_put {n m v : Nat} {S : Nat → Bool} {f : Nat → Nat} {p : Nat → Int} (pi : PI n m 0 S f p) (v1 : 1 ≤ v) (vn : v ≤ n) (hS : S v = false) : PI n (m + 1) 0 (upd S v true) (upd f m v) (upd p v (m : Nat)) := by
  have hne : ∀ i, i < m → f i ≠ v := fun i hi e => by have := (pi.1 i hi).2.2.2.1; rw [e, hS] at this; cases this
  refine ⟨fun i hi => ?_, fun x x1 xn _ => ⟨fun h => ?_, fun h => ?_⟩⟩
  · by_cases e : i = m
    · subst e; rw [upd_at, upd_at, upd_at]; exact ⟨v1, vn, by omega, rfl, rfl⟩
    · obtain ⟨a, b, c, d, y⟩ := pi.1 i (by omega)
      rw [upd_ne e, upd_ne (hne i (by omega)), upd_ne (hne i (by omega))]
      exact ⟨a, b, c, d, y⟩
  · by_cases e : x = v
    · exact ⟨m, by omega, by rw [upd_at, e]⟩
    · rw [upd_ne e] at h
      obtain ⟨i, hi, e2⟩ := (pi.2 x x1 xn (by omega)).1 h
      exact ⟨i, by omega, by rw [upd_ne (by omega)]; exact e2⟩
  · by_cases e : x = v
    · rw [e, upd_at] at h; cases h
    · rw [upd_ne e] at h ⊢
      exact (pi.2 x x1 xn (by omega)).2 h
theorem arr_snoc_upd (m v : Nat) (f : Nat → Nat) : arr (m + 1) (fun i => ((upd f m v i : Nat) : Int)) = (arr m fun i => (f i : Int)) ++ [Iv (v : Nat)] := by
  rw [arr_snoc, upd_at, arr_congr (g := fun i => (f i : Int)) fun i hi => by rw [upd_ne (by omega)]]
section
variable {K : Ret} {h h' : Heap} {g : Nat} {fp : List Nat} {n : Nat} {t : T} {S : Nat → Bool}
set_option maxHeartbeats 1000000 in
theorem scores_Heap_Take.spec (q : HP h g fp n t S) (hn : n ≤ 1000) (hk : ∀ (v : Nat) ok h', Fst n t.1 S v ok → HP h' g fp n t (if ok then upd S v false else S) → Fr fp h h' → K (.tuple #[Iv (v : Nat), .bool ok]) h') : CallH Try.prog scores_Heap_Take.id #[ptr g] K h := by
  refine scores_Heap_Take.ok ?_
  simp only [scores_Heap_Take.pt]
  try simp (disch := first | assumption | omega | (apply At.mk; with_unfolding_all rfl)) only [↓go_eq, ↓ent_eq, Mv, NilC_at, Fld_at, add_mk, Nat.zero_add, Nat.add_zero, Add64, Sub64, Mul64, Quo64, Rem64, Neg64, Cvt64, CvtU8, CvtU16, CvtU32, CvtU64, AddU64, SubU64, MulU64, Shr64, Shr_u8, Shr_u16, Shr_u32, Shr_u64, And1, And31, And32, Eql64, Neq64, Bin_lss, Bin_leq, Bin_gtr, Bin_geq, Bin_bool_eql, Bin_bool_neq, Bin_ptr_nil_eql, Bin_ptr_nil_neq, Not_dec, Un_not, Pick_t, Pick_f, Pick_pos, Pick_neg, Gd_tt, Gd_tf, Gd_ft, Gd_ff, Gd_pos_t, Gd_neg_t, Gd_pos_f, Gd_neg_f, Gd_undef, If_t, If_f, If_pos, If_neg, CallF_eq, Max_two, Min_two, Len_rd, Len_own, Ld_blkE, Idx_rdN, Idx_ownN, Idx_rdE, Idx_ownE, IdxAE, LdA_two, Idx_at0, Ext_atE, Len_at, Int.toNat_natCast, Int.toNat_zero, Int.toNat_one, List.length_map, List.length_append, List.length_cons, List.length_nil, List.length_take, List.length_set, List.length_replicate, Bool.not_true, Bool.not_false, decide_true, decide_false, BEq.rfl, bne_self_eq_false, tf_beq, ft_beq, tf_bne, ft_bne, not_true_eq_false, not_false_eq_true, app]
  refine scores_Heap_First.spec q fun v ok hF => ?_
  have hF0 := hF
  rcases hF with ⟨rfl, rfl, hnone⟩ | ⟨rfl, v1, vn, hS, hbest⟩
  · try simp (disch := first | assumption | omega | (apply At.mk; with_unfolding_all rfl)) only [↓go_eq, ↓ent_eq, Mv, NilC_at, Fld_at, add_mk, Nat.zero_add, Nat.add_zero, Add64, Sub64, Mul64, Quo64, Rem64, Neg64, Cvt64, CvtU8, CvtU16, CvtU32, CvtU64, AddU64, SubU64, MulU64, Shr64, Shr_u8, Shr_u16, Shr_u32, Shr_u64, And1, And31, And32, Eql64, Neq64, Bin_lss, Bin_leq, Bin_gtr, Bin_geq, Bin_bool_eql, Bin_bool_neq, Bin_ptr_nil_eql, Bin_ptr_nil_neq, Not_dec, Un_not, Pick_t, Pick_f, Pick_pos, Pick_neg, Gd_tt, Gd_tf, Gd_ft, Gd_ff, Gd_pos_t, Gd_neg_t, Gd_pos_f, Gd_neg_f, Gd_undef, If_t, If_f, If_pos, If_neg, CallF_eq, Max_two, Min_two, Len_rd, Len_own, Ld_blkE, Idx_rdN, Idx_ownN, Idx_rdE, Idx_ownE, IdxAE, LdA_two, Idx_at0, Ext_atE, Len_at, Int.toNat_natCast, Int.toNat_zero, Int.toNat_one, List.length_map, List.length_append, List.length_cons, List.length_nil, List.length_take, List.length_set, List.length_replicate, Bool.not_true, Bool.not_false, decide_true, decide_false, BEq.rfl, bne_self_eq_false, tf_beq, ft_beq, tf_bne, ft_bne, not_true_eq_false, not_false_eq_true, app]
    exact hk 0 false h hF0 q (Fr.refl _ _)
  have hcnt := cnt_take v1 vn hS
  obtain ⟨c, p, f, rfl, rfl, rfl, q, pi, ho⟩ := q
  obtain ⟨m, hm⟩ : ∃ m, cnt c.n S = m + 1 := ⟨cnt c.n (upd S v false), hcnt.symm⟩
  have hcm : cnt c.n (upd S v false) = m := by omega
  have hmn := cnt_le c.n S
  rw [hm] at q pi ho
  obtain ⟨e0, _⟩ := hF0.uniq (fst_of pi ho (by omega))
  have hd := q.hd
  have ol := q.ol
  have hl := arr_len (m + 1) (fun i => (f i : Int))
  have hmt : (((m + 1 : Nat) : Int) - 1).toNat = m := by omega
  have al : At (arr (m + 1) fun i => (f i : Int)) (((m + 1 : Nat) : Int) - 1).toNat (Iv (f m : Nat)) := by rw [hmt]; exact arr_at (fun i => (f i : Int)) (show m < m + 1 by omega)
  try simp (disch := first | assumption | omega | (apply At.mk; with_unfolding_all rfl)) only [hl, ↓go_eq, ↓ent_eq, Mv, NilC_at, Fld_at, add_mk, Nat.zero_add, Nat.add_zero, Add64, Sub64, Mul64, Quo64, Rem64, Neg64, Cvt64, CvtU8, CvtU16, CvtU32, CvtU64, AddU64, SubU64, MulU64, Shr64, Shr_u8, Shr_u16, Shr_u32, Shr_u64, And1, And31, And32, Eql64, Neq64, Bin_lss, Bin_leq, Bin_gtr, Bin_geq, Bin_bool_eql, Bin_bool_neq, Bin_ptr_nil_eql, Bin_ptr_nil_neq, Not_dec, Un_not, Pick_t, Pick_f, Pick_pos, Pick_neg, Gd_tt, Gd_tf, Gd_ft, Gd_ff, Gd_pos_t, Gd_neg_t, Gd_pos_f, Gd_neg_f, Gd_undef, If_t, If_f, If_pos, If_neg, CallF_eq, Max_two, Min_two, Len_rd, Len_own, Ld_blkE, Idx_rdN, Idx_ownN, Idx_rdE, Idx_ownE, IdxAE, LdA_two, Idx_at0, Ext_atE, Len_at, Int.toNat_natCast, Int.toNat_zero, Int.toNat_one, List.length_map, List.length_append, List.length_cons, List.length_nil, List.length_take, List.length_set, List.length_replicate, Bool.not_true, Bool.not_false, decide_true, decide_false, BEq.rfl, bne_self_eq_false, tf_beq, ft_beq, tf_bne, ft_bne, not_true_eq_false, not_false_eq_true, app]
  rw [arr_snoc] at ol
  have eI : (((m + 1 : Nat) : Int) - 1) = (((arr m fun i => (f i : Int)).length : Nat) : Int) := by rw [arr_len]; omega
  rw [eI]
  refine Own.cut ol fun lv' o1 => ?_
  try simp (disch := first | assumption | omega | (apply At.mk; with_unfolding_all rfl)) only [↓go_eq, ↓ent_eq, Mv, NilC_at, Fld_at, add_mk, Nat.zero_add, Nat.add_zero, Add64, Sub64, Mul64, Quo64, Rem64, Neg64, Cvt64, CvtU8, CvtU16, CvtU32, CvtU64, AddU64, SubU64, MulU64, Shr64, Shr_u8, Shr_u16, Shr_u32, Shr_u64, And1, And31, And32, Eql64, Neq64, Bin_lss, Bin_leq, Bin_gtr, Bin_geq, Bin_bool_eql, Bin_bool_neq, Bin_ptr_nil_eql, Bin_ptr_nil_neq, Not_dec, Un_not, Pick_t, Pick_f, Pick_pos, Pick_neg, Gd_tt, Gd_tf, Gd_ft, Gd_ff, Gd_pos_t, Gd_neg_t, Gd_pos_f, Gd_neg_f, Gd_undef, If_t, If_f, If_pos, If_neg, CallF_eq, Max_two, Min_two, Len_rd, Len_own, Ld_blkE, Idx_rdN, Idx_ownN, Idx_rdE, Idx_ownE, IdxAE, LdA_two, Idx_at0, Ext_atE, Len_at, Int.toNat_natCast, Int.toNat_zero, Int.toNat_one, List.length_map, List.length_append, List.length_cons, List.length_nil, List.length_take, List.length_set, List.length_replicate, Bool.not_true, Bool.not_false, decide_true, decide_false, BEq.rfl, bne_self_eq_false, tf_beq, ft_beq, tf_bne, ft_bne, not_true_eq_false, not_false_eq_true, app]
  refine St_blk hd (by simp) o1.rd.isCell fun h1 b1 f1 => ?_
  obtain ⟨d1, d2, d3, d4, d5, d6⟩ := q.dj
  have q1 : HM h1 { c with lv := lv' } t.1 p f m t.2 := ⟨b1, q.os.fr f1 (by simp; exact Ne.symm d1), q.op.fr f1 (by simp; exact Ne.symm d2), o1.fr f1 (fun b hb => by simp; rintro rfl; exact d4 hb), d1, d2, d3, d4, d5, d6⟩
  have f1 : Fr c.fp h h1 := f1.mono (by simp [HC.fp])
  have q1' := q1
  obtain ⟨c', hc'⟩ : ∃ c', c' = { c with lv := lv' } := ⟨_, rfl⟩
  have ec1 : c'.g = c.g := by rw [hc']
  have ec2 : c'.n = c.n := by rw [hc']
  have ec3 : c'.fp = c.fp := by rw [hc']; rfl
  rw [← hc'] at q1
  rw [← ec1]
  rw [← ec2] at pi hcm
  have hd := q1.hd
  have ol := q1.ol
  have hl := arr_len m (fun i => (f i : Int))
  try simp (disch := first | assumption | omega | (apply At.mk; with_unfolding_all rfl)) only [↓go_eq, ↓ent_eq, Mv, NilC_at, Fld_at, add_mk, Nat.zero_add, Nat.add_zero, Add64, Sub64, Mul64, Quo64, Rem64, Neg64, Cvt64, CvtU8, CvtU16, CvtU32, CvtU64, AddU64, SubU64, MulU64, Shr64, Shr_u8, Shr_u16, Shr_u32, Shr_u64, And1, And31, And32, Eql64, Neq64, Bin_lss, Bin_leq, Bin_gtr, Bin_geq, Bin_bool_eql, Bin_bool_neq, Bin_ptr_nil_eql, Bin_ptr_nil_neq, Not_dec, Un_not, Pick_t, Pick_f, Pick_pos, Pick_neg, Gd_tt, Gd_tf, Gd_ft, Gd_ff, Gd_pos_t, Gd_neg_t, Gd_pos_f, Gd_neg_f, Gd_undef, If_t, If_f, If_pos, If_neg, CallF_eq, Max_two, Min_two, Len_rd, Len_own, Ld_blkE, Idx_rdN, Idx_ownN, Idx_rdE, Idx_ownE, IdxAE, LdA_two, Idx_at0, Ext_atE, Len_at, Int.toNat_natCast, Int.toNat_zero, Int.toNat_one, List.length_map, List.length_append, List.length_cons, List.length_nil, List.length_take, List.length_set, List.length_replicate, Bool.not_true, Bool.not_false, decide_true, decide_false, BEq.rfl, bne_self_eq_false, tf_beq, ft_beq, tf_bne, ft_bne, not_true_eq_false, not_false_eq_true, app]
  refine Jn_fn (σ := (Nat → Nat) × (Nat → Int)) (fun _ => [ptr c'.g, Iv (v : Nat)]) (fun x h' => HM h' c' t.1 x.2 x.1 m t.2 ∧ PI c'.n m v (upd S v false) x.1 x.2 ∧ HOF t.1 m x.1 0 ∧ Fr c.fp h h') ?_ ?_
  · intro J hJ
    by_cases c1 : ((m : Nat) : Int) > 0
    · have e00 : (0 : Int) = ((0 : Nat) : Int) := rfl
      try simp (disch := first | assumption | omega | (apply At.mk; with_unfolding_all rfl)) only [hl, ↓go_eq, ↓ent_eq, Mv, NilC_at, Fld_at, add_mk, Nat.zero_add, Nat.add_zero, Add64, Sub64, Mul64, Quo64, Rem64, Neg64, Cvt64, CvtU8, CvtU16, CvtU32, CvtU64, AddU64, SubU64, MulU64, Shr64, Shr_u8, Shr_u16, Shr_u32, Shr_u64, And1, And31, And32, Eql64, Neq64, Bin_lss, Bin_leq, Bin_gtr, Bin_geq, Bin_bool_eql, Bin_bool_neq, Bin_ptr_nil_eql, Bin_ptr_nil_neq, Not_dec, Un_not, Pick_t, Pick_f, Pick_pos, Pick_neg, Gd_tt, Gd_tf, Gd_ft, Gd_ff, Gd_pos_t, Gd_neg_t, Gd_pos_f, Gd_neg_f, Gd_undef, If_t, If_f, If_pos, If_neg, CallF_eq, Max_two, Min_two, Len_rd, Len_own, Ld_blkE, Idx_rdN, Idx_ownN, Idx_rdE, Idx_ownE, IdxAE, LdA_two, Idx_at0, Ext_atE, Len_at, Int.toNat_natCast, Int.toNat_zero, Int.toNat_one, List.length_map, List.length_append, List.length_cons, List.length_nil, List.length_take, List.length_set, List.length_replicate, Bool.not_true, Bool.not_false, decide_true, decide_false, BEq.rfl, bne_self_eq_false, tf_beq, ft_beq, tf_bne, ft_bne, not_true_eq_false, not_false_eq_true, app]
      have pf := pi.1 m (by omega)
      refine scores_Heap_set.spec (i := 0) q1 (by omega) pf.2.1 fun h2 q2 f2 => ?_
      try simp (disch := first | assumption | omega | (apply At.mk; with_unfolding_all rfl)) only [↓go_eq, ↓ent_eq, Mv, NilC_at, Fld_at, add_mk, Nat.zero_add, Nat.add_zero, Add64, Sub64, Mul64, Quo64, Rem64, Neg64, Cvt64, CvtU8, CvtU16, CvtU32, CvtU64, AddU64, SubU64, MulU64, Shr64, Shr_u8, Shr_u16, Shr_u32, Shr_u64, And1, And31, And32, Eql64, Neq64, Bin_lss, Bin_leq, Bin_gtr, Bin_geq, Bin_bool_eql, Bin_bool_neq, Bin_ptr_nil_eql, Bin_ptr_nil_neq, Not_dec, Un_not, Pick_t, Pick_f, Pick_pos, Pick_neg, Gd_tt, Gd_tf, Gd_ft, Gd_ff, Gd_pos_t, Gd_neg_t, Gd_pos_f, Gd_neg_f, Gd_undef, If_t, If_f, If_pos, If_neg, CallF_eq, Max_two, Min_two, Len_rd, Len_own, Ld_blkE, Idx_rdN, Idx_ownN, Idx_rdE, Idx_ownE, IdxAE, LdA_two, Idx_at0, Ext_atE, Len_at, Int.toNat_natCast, Int.toNat_zero, Int.toNat_one, List.length_map, List.length_append, List.length_cons, List.length_nil, List.length_take, List.length_set, List.length_replicate, Bool.not_true, Bool.not_false, decide_true, decide_false, BEq.rfl, bne_self_eq_false, tf_beq, ft_beq, tf_bne, ft_bne, not_true_eq_false, not_false_eq_true, app]
      have pt := PI_take pi (show 0 < m by omega)
      rw [← e0] at pt
      refine scores_Heap_sink.spec (i := 0) (lo := 0) q2 (by omega) (by omega) (Nat.le_refl _) ⟨fun j j0 jm _ jp => ?_, fun j j0 jm jp i0 => by omega⟩ pt fun h3 f' p' q3 pi3 ho3 f3 => ?_
      · rw [upd_ne (by omega), upd_ne jp]; exact ho j j0 (by omega) (Nat.zero_le _)
      · try simp (disch := first | assumption | omega | (apply At.mk; with_unfolding_all rfl)) only [↓go_eq, ↓ent_eq, Mv, NilC_at, Fld_at, add_mk, Nat.zero_add, Nat.add_zero, Add64, Sub64, Mul64, Quo64, Rem64, Neg64, Cvt64, CvtU8, CvtU16, CvtU32, CvtU64, AddU64, SubU64, MulU64, Shr64, Shr_u8, Shr_u16, Shr_u32, Shr_u64, And1, And31, And32, Eql64, Neq64, Bin_lss, Bin_leq, Bin_gtr, Bin_geq, Bin_bool_eql, Bin_bool_neq, Bin_ptr_nil_eql, Bin_ptr_nil_neq, Not_dec, Un_not, Pick_t, Pick_f, Pick_pos, Pick_neg, Gd_tt, Gd_tf, Gd_ft, Gd_ff, Gd_pos_t, Gd_neg_t, Gd_pos_f, Gd_neg_f, Gd_undef, If_t, If_f, If_pos, If_neg, CallF_eq, Max_two, Min_two, Len_rd, Len_own, Ld_blkE, Idx_rdN, Idx_ownN, Idx_rdE, Idx_ownE, IdxAE, LdA_two, Idx_at0, Ext_atE, Len_at, Int.toNat_natCast, Int.toNat_zero, Int.toNat_one, List.length_map, List.length_append, List.length_cons, List.length_nil, List.length_take, List.length_set, List.length_replicate, Bool.not_true, Bool.not_false, decide_true, decide_false, BEq.rfl, bne_self_eq_false, tf_beq, ft_beq, tf_bne, ft_bne, not_true_eq_false, not_false_eq_true, app]
        exact hJ (f', p') h3 ⟨q3, pi3, ho3, (f1.trans (ec3 ▸ f2)).trans (ec3 ▸ f3)⟩
    · have em : m = 0 := by omega
      subst em
      try simp (disch := first | assumption | omega | (apply At.mk; with_unfolding_all rfl)) only [hl, ↓go_eq, ↓ent_eq, Mv, NilC_at, Fld_at, add_mk, Nat.zero_add, Nat.add_zero, Add64, Sub64, Mul64, Quo64, Rem64, Neg64, Cvt64, CvtU8, CvtU16, CvtU32, CvtU64, AddU64, SubU64, MulU64, Shr64, Shr_u8, Shr_u16, Shr_u32, Shr_u64, And1, And31, And32, Eql64, Neq64, Bin_lss, Bin_leq, Bin_gtr, Bin_geq, Bin_bool_eql, Bin_bool_neq, Bin_ptr_nil_eql, Bin_ptr_nil_neq, Not_dec, Un_not, Pick_t, Pick_f, Pick_pos, Pick_neg, Gd_tt, Gd_tf, Gd_ft, Gd_ff, Gd_pos_t, Gd_neg_t, Gd_pos_f, Gd_neg_f, Gd_undef, If_t, If_f, If_pos, If_neg, CallF_eq, Max_two, Min_two, Len_rd, Len_own, Ld_blkE, Idx_rdN, Idx_ownN, Idx_rdE, Idx_ownE, IdxAE, LdA_two, Idx_at0, Ext_atE, Len_at, Int.toNat_natCast, Int.toNat_zero, Int.toNat_one, List.length_map, List.length_append, List.length_cons, List.length_nil, List.length_take, List.length_set, List.length_replicate, Bool.not_true, Bool.not_false, decide_true, decide_false, BEq.rfl, bne_self_eq_false, tf_beq, ft_beq, tf_bne, ft_bne, not_true_eq_false, not_false_eq_true, app]
      have pt := PI_take0 pi
      rw [← e0] at pt
      exact hJ (f, p) h1 ⟨q1, pt, fun j j0 jm => by omega, f1⟩
  · rintro ⟨f', p'⟩ h2 ⟨q2, pi2, ho2, f2⟩
    simp only at q2 pi2 ho2
    have hd := q2.hd
    try simp (disch := first | assumption | omega | (apply At.mk; with_unfolding_all rfl)) only [↓go_eq, ↓ent_eq, Mv, NilC_at, Fld_at, add_mk, Nat.zero_add, Nat.add_zero, Add64, Sub64, Mul64, Quo64, Rem64, Neg64, Cvt64, CvtU8, CvtU16, CvtU32, CvtU64, AddU64, SubU64, MulU64, Shr64, Shr_u8, Shr_u16, Shr_u32, Shr_u64, And1, And31, And32, Eql64, Neq64, Bin_lss, Bin_leq, Bin_gtr, Bin_geq, Bin_bool_eql, Bin_bool_neq, Bin_ptr_nil_eql, Bin_ptr_nil_neq, Not_dec, Un_not, Pick_t, Pick_f, Pick_pos, Pick_neg, Gd_tt, Gd_tf, Gd_ft, Gd_ff, Gd_pos_t, Gd_neg_t, Gd_pos_f, Gd_neg_f, Gd_undef, If_t, If_f, If_pos, If_neg, CallF_eq, Max_two, Min_two, Len_rd, Len_own, Ld_blkE, Idx_rdN, Idx_ownN, Idx_rdE, Idx_ownE, IdxAE, LdA_two, Idx_at0, Ext_atE, Len_at, Int.toNat_natCast, Int.toNat_zero, Int.toNat_one, List.length_map, List.length_append, List.length_cons, List.length_nil, List.length_take, List.length_set, List.length_replicate, Bool.not_true, Bool.not_false, decide_true, decide_false, BEq.rfl, bne_self_eq_false, tf_beq, ft_beq, tf_bne, ft_bne, not_true_eq_false, not_false_eq_true, app]
    refine q2.setp (by omega) fun h3 q3 f3 => ?_
    try simp (disch := first | assumption | omega | (apply At.mk; with_unfolding_all rfl)) only [↓go_eq, ↓ent_eq, Mv, NilC_at, Fld_at, add_mk, Nat.zero_add, Nat.add_zero, Add64, Sub64, Mul64, Quo64, Rem64, Neg64, Cvt64, CvtU8, CvtU16, CvtU32, CvtU64, AddU64, SubU64, MulU64, Shr64, Shr_u8, Shr_u16, Shr_u32, Shr_u64, And1, And31, And32, Eql64, Neq64, Bin_lss, Bin_leq, Bin_gtr, Bin_geq, Bin_bool_eql, Bin_bool_neq, Bin_ptr_nil_eql, Bin_ptr_nil_neq, Not_dec, Un_not, Pick_t, Pick_f, Pick_pos, Pick_neg, Gd_tt, Gd_tf, Gd_ft, Gd_ff, Gd_pos_t, Gd_neg_t, Gd_pos_f, Gd_neg_f, Gd_undef, If_t, If_f, If_pos, If_neg, CallF_eq, Max_two, Min_two, Len_rd, Len_own, Ld_blkE, Idx_rdN, Idx_ownN, Idx_rdE, Idx_ownE, IdxAE, LdA_two, Idx_at0, Ext_atE, Len_at, Int.toNat_natCast, Int.toNat_zero, Int.toNat_one, List.length_map, List.length_append, List.length_cons, List.length_nil, List.length_take, List.length_set, List.length_replicate, Bool.not_true, Bool.not_false, decide_true, decide_false, BEq.rfl, bne_self_eq_false, tf_beq, ft_beq, tf_bne, ft_bne, not_true_eq_false, not_false_eq_true, app]
    refine hk v true h3 hF0 ⟨c', upd p' v (-1), f', ec1, ec2, ec3, ?_, ?_, ?_⟩ (f2.trans (ec3 ▸ f3))
    · rw [if_pos rfl, ← ec2, hcm]; exact q3
    · rw [if_pos rfl, ← ec2, hcm]; exact PI_fin pi2 (upd_at _ _ _)
    · rw [if_pos rfl, ← ec2, hcm]; exact ho2
set_option maxHeartbeats 1000000 in
theorem scores_Heap_Put.spec {v : Int} (q : HP h g fp n t S) (hn : n ≤ 1000)
    (hk1 : 1 ≤ v ∧ v ≤ n → S v.toNat = false → ∀ h' fp', HP h' g fp' n t (upd S v.toNat true) → Fr fp h h' → (∀ b ∈ fp', b ∈ fp ∨ h.size ≤ b) → K (.bool true) h')
    (hk2 : ¬ (1 ≤ v ∧ v ≤ n) ∨ S v.toNat = true → K (.bool false) h) : CallH Try.prog scores_Heap_Put.id #[ptr g, Iv v] K h := by
  refine scores_Heap_Put.ok ?_
  simp only [scores_Heap_Put.pt]
  try simp (disch := first | assumption | omega | (apply At.mk; with_unfolding_all rfl)) only [↓go_eq, ↓ent_eq, Mv, NilC_at, Fld_at, add_mk, Nat.zero_add, Nat.add_zero, Add64, Sub64, Mul64, Quo64, Rem64, Neg64, Cvt64, CvtU8, CvtU16, CvtU32, CvtU64, AddU64, SubU64, MulU64, Shr64, Shr_u8, Shr_u16, Shr_u32, Shr_u64, And1, And31, And32, Eql64, Neq64, Bin_lss, Bin_leq, Bin_gtr, Bin_geq, Bin_bool_eql, Bin_bool_neq, Bin_ptr_nil_eql, Bin_ptr_nil_neq, Not_dec, Un_not, Pick_t, Pick_f, Pick_pos, Pick_neg, Gd_tt, Gd_tf, Gd_ft, Gd_ff, Gd_pos_t, Gd_neg_t, Gd_pos_f, Gd_neg_f, Gd_undef, If_t, If_f, If_pos, If_neg, CallF_eq, Max_two, Min_two, Len_rd, Len_own, Ld_blkE, Idx_rdN, Idx_ownN, Idx_rdE, Idx_ownE, IdxAE, LdA_two, Idx_at0, Ext_atE, Len_at, Int.toNat_natCast, Int.toNat_zero, Int.toNat_one, List.length_map, List.length_append, List.length_cons, List.length_nil, List.length_take, List.length_set, List.length_replicate, Bool.not_true, Bool.not_false, decide_true, decide_false, BEq.rfl, bne_self_eq_false, tf_beq, ft_beq, tf_bne, ft_bne, not_true_eq_false, not_false_eq_true, app]
  refine scores_Heap_right.spec q hn ?_
  by_cases c1 : 1 ≤ v ∧ v ≤ n
  case neg =>
    rw [decide_eq_false c1]
    try simp (disch := first | assumption | omega | (apply At.mk; with_unfolding_all rfl)) only [↓go_eq, ↓ent_eq, Mv, NilC_at, Fld_at, add_mk, Nat.zero_add, Nat.add_zero, Add64, Sub64, Mul64, Quo64, Rem64, Neg64, Cvt64, CvtU8, CvtU16, CvtU32, CvtU64, AddU64, SubU64, MulU64, Shr64, Shr_u8, Shr_u16, Shr_u32, Shr_u64, And1, And31, And32, Eql64, Neq64, Bin_lss, Bin_leq, Bin_gtr, Bin_geq, Bin_bool_eql, Bin_bool_neq, Bin_ptr_nil_eql, Bin_ptr_nil_neq, Not_dec, Un_not, Pick_t, Pick_f, Pick_pos, Pick_neg, Gd_tt, Gd_tf, Gd_ft, Gd_ff, Gd_pos_t, Gd_neg_t, Gd_pos_f, Gd_neg_f, Gd_undef, If_t, If_f, If_pos, If_neg, CallF_eq, Max_two, Min_two, Len_rd, Len_own, Ld_blkE, Idx_rdN, Idx_ownN, Idx_rdE, Idx_ownE, IdxAE, LdA_two, Idx_at0, Ext_atE, Len_at, Int.toNat_natCast, Int.toNat_zero, Int.toNat_one, List.length_map, List.length_append, List.length_cons, List.length_nil, List.length_take, List.length_set, List.length_replicate, Bool.not_true, Bool.not_false, decide_true, decide_false, BEq.rfl, bne_self_eq_false, tf_beq, ft_beq, tf_bne, ft_bne, not_true_eq_false, not_false_eq_true, app]
    exact hk2 (.inl c1)
  rw [decide_eq_true c1]
  have hcl := cnt_le n S
  obtain ⟨c, p, f, rfl, rfl, rfl, q, pi, ho⟩ := q
  obtain ⟨w, hw⟩ : ∃ w : Nat, v = w := ⟨v.toNat, by omega⟩
  subst hw
  rw [Int.toNat_natCast] at hk1 hk2
  have hd := q.hd
  have op := q.op
  have ap := arr_at p (show w < c.n + 1 by omega)
  have hp := pi.2 w (by omega) (by omega) (by omega)
  try simp (disch := first | assumption | omega | (apply At.mk; with_unfolding_all rfl)) only [↓go_eq, ↓ent_eq, Mv, NilC_at, Fld_at, add_mk, Nat.zero_add, Nat.add_zero, Add64, Sub64, Mul64, Quo64, Rem64, Neg64, Cvt64, CvtU8, CvtU16, CvtU32, CvtU64, AddU64, SubU64, MulU64, Shr64, Shr_u8, Shr_u16, Shr_u32, Shr_u64, And1, And31, And32, Eql64, Neq64, Bin_lss, Bin_leq, Bin_gtr, Bin_geq, Bin_bool_eql, Bin_bool_neq, Bin_ptr_nil_eql, Bin_ptr_nil_neq, Not_dec, Un_not, Pick_t, Pick_f, Pick_pos, Pick_neg, Gd_tt, Gd_tf, Gd_ft, Gd_ff, Gd_pos_t, Gd_neg_t, Gd_pos_f, Gd_neg_f, Gd_undef, If_t, If_f, If_pos, If_neg, CallF_eq, Max_two, Min_two, Len_rd, Len_own, Ld_blkE, Idx_rdN, Idx_ownN, Idx_rdE, Idx_ownE, IdxAE, LdA_two, Idx_at0, Ext_atE, Len_at, Int.toNat_natCast, Int.toNat_zero, Int.toNat_one, List.length_map, List.length_append, List.length_cons, List.length_nil, List.length_take, List.length_set, List.length_replicate, Bool.not_true, Bool.not_false, decide_true, decide_false, BEq.rfl, bne_self_eq_false, tf_beq, ft_beq, tf_bne, ft_bne, not_true_eq_false, not_false_eq_true, app]
  cases hS : S w with
  | true =>
    obtain ⟨i, hi, e⟩ := hp.1 hS
    have := (pi.1 i hi).2.2.2.2
    rw [e] at this
    try simp (disch := first | assumption | omega | (apply At.mk; with_unfolding_all rfl)) only [↓go_eq, ↓ent_eq, Mv, NilC_at, Fld_at, add_mk, Nat.zero_add, Nat.add_zero, Add64, Sub64, Mul64, Quo64, Rem64, Neg64, Cvt64, CvtU8, CvtU16, CvtU32, CvtU64, AddU64, SubU64, MulU64, Shr64, Shr_u8, Shr_u16, Shr_u32, Shr_u64, And1, And31, And32, Eql64, Neq64, Bin_lss, Bin_leq, Bin_gtr, Bin_geq, Bin_bool_eql, Bin_bool_neq, Bin_ptr_nil_eql, Bin_ptr_nil_neq, Not_dec, Un_not, Pick_t, Pick_f, Pick_pos, Pick_neg, Gd_tt, Gd_tf, Gd_ft, Gd_ff, Gd_pos_t, Gd_neg_t, Gd_pos_f, Gd_neg_f, Gd_undef, If_t, If_f, If_pos, If_neg, CallF_eq, Max_two, Min_two, Len_rd, Len_own, Ld_blkE, Idx_rdN, Idx_ownN, Idx_rdE, Idx_ownE, IdxAE, LdA_two, Idx_at0, Ext_atE, Len_at, Int.toNat_natCast, Int.toNat_zero, Int.toNat_one, List.length_map, List.length_append, List.length_cons, List.length_nil, List.length_take, List.length_set, List.length_replicate, Bool.not_true, Bool.not_false, decide_true, decide_false, BEq.rfl, bne_self_eq_false, tf_beq, ft_beq, tf_bne, ft_bne, not_true_eq_false, not_false_eq_true, app]
    exact hk2 (.inr hS)
  | false =>
    have := hp.2 hS
    have hcp := cnt_put (show 1 ≤ w by omega) (show w ≤ c.n by omega) hS
    have ol := q.ol
    have hl := arr_len (cnt c.n S) (fun i => (f i : Int))
    have hlt := q.ol.lt
    try simp (disch := first | assumption | omega | (apply At.mk; with_unfolding_all rfl)) only [↓go_eq, ↓ent_eq, Mv, NilC_at, Fld_at, add_mk, Nat.zero_add, Nat.add_zero, Add64, Sub64, Mul64, Quo64, Rem64, Neg64, Cvt64, CvtU8, CvtU16, CvtU32, CvtU64, AddU64, SubU64, MulU64, Shr64, Shr_u8, Shr_u16, Shr_u32, Shr_u64, And1, And31, And32, Eql64, Neq64, Bin_lss, Bin_leq, Bin_gtr, Bin_geq, Bin_bool_eql, Bin_bool_neq, Bin_ptr_nil_eql, Bin_ptr_nil_neq, Not_dec, Un_not, Pick_t, Pick_f, Pick_pos, Pick_neg, Gd_tt, Gd_tf, Gd_ft, Gd_ff, Gd_pos_t, Gd_neg_t, Gd_pos_f, Gd_neg_f, Gd_undef, If_t, If_f, If_pos, If_neg, CallF_eq, Max_two, Min_two, Len_rd, Len_own, Ld_blkE, Idx_rdN, Idx_ownN, Idx_rdE, Idx_ownE, IdxAE, LdA_two, Idx_at0, Ext_atE, Len_at, Int.toNat_natCast, Int.toNat_zero, Int.toNat_one, List.length_map, List.length_append, List.length_cons, List.length_nil, List.length_take, List.length_set, List.length_replicate, Bool.not_true, Bool.not_false, decide_true, decide_false, BEq.rfl, bne_self_eq_false, tf_beq, ft_beq, tf_bne, ft_bne, not_true_eq_false, not_false_eq_true, app]
    refine ol.app1 rfl rfl rfl (by rw [hl]; omega) (by rw [hl]; omega) fun lv' h1 lbs' o1 f1 hb1 => ?_
    rw [← arr_snoc_upd] at o1
    obtain ⟨d1, d2, d3, d4, d5, d6⟩ := q.dj
    have b1 := q.hd.fr f1 d4
    have os1 := q.os.fr f1 (by simp; exact d5)
    have op1 := q.op.fr f1 (by simp; exact d6)
    have lg := q.hd.lt
    have ls := q.os.lt _ (List.mem_singleton.2 rfl)
    have lp := q.op.lt _ (List.mem_singleton.2 rfl)
    have e4 : c.g ∉ lbs' := fun hm => by rcases hb1 _ hm with x | x; exact d4 x; omega
    have e5 : c.sb ∉ lbs' := fun hm => by rcases hb1 _ hm with x | x; exact d5 x; omega
    have e6 : c.pb ∉ lbs' := fun hm => by rcases hb1 _ hm with x | x; exact d6 x; omega
    try simp (disch := first | assumption | omega | (apply At.mk; with_unfolding_all rfl)) only [↓go_eq, ↓ent_eq, Mv, NilC_at, Fld_at, add_mk, Nat.zero_add, Nat.add_zero, Add64, Sub64, Mul64, Quo64, Rem64, Neg64, Cvt64, CvtU8, CvtU16, CvtU32, CvtU64, AddU64, SubU64, MulU64, Shr64, Shr_u8, Shr_u16, Shr_u32, Shr_u64, And1, And31, And32, Eql64, Neq64, Bin_lss, Bin_leq, Bin_gtr, Bin_geq, Bin_bool_eql, Bin_bool_neq, Bin_ptr_nil_eql, Bin_ptr_nil_neq, Not_dec, Un_not, Pick_t, Pick_f, Pick_pos, Pick_neg, Gd_tt, Gd_tf, Gd_ft, Gd_ff, Gd_pos_t, Gd_neg_t, Gd_pos_f, Gd_neg_f, Gd_undef, If_t, If_f, If_pos, If_neg, CallF_eq, Max_two, Min_two, Len_rd, Len_own, Ld_blkE, Idx_rdN, Idx_ownN, Idx_rdE, Idx_ownE, IdxAE, LdA_two, Idx_at0, Ext_atE, Len_at, Int.toNat_natCast, Int.toNat_zero, Int.toNat_one, List.length_map, List.length_append, List.length_cons, List.length_nil, List.length_take, List.length_set, List.length_replicate, Bool.not_true, Bool.not_false, decide_true, decide_false, BEq.rfl, bne_self_eq_false, tf_beq, ft_beq, tf_bne, ft_bne, not_true_eq_false, not_false_eq_true, app]
    refine St_blk b1 (by simp) o1.rd.isCell fun h2 b2 f2 => ?_
    have q2 : HM h2 { c with lv := lv', lbs := lbs' } t.1 p (upd f (cnt c.n S) w) (cnt c.n S + 1) t.2 := ⟨b2, os1.fr f2 (by simp; exact Ne.symm d1), op1.fr f2 (by simp; exact Ne.symm d2), o1.fr f2 (fun b hb => by simp; rintro rfl; exact e4 hb), d1, d2, d3, e4, e5, e6⟩
    have f02 : Fr c.fp h h2 := (f1.mono (fun b hb => by simp [HC.fp, hb])).trans (f2.mono (by simp [HC.fp]))
    have hfp : ∀ b ∈ ({ c with lv := lv', lbs := lbs' } : HC).fp, b ∈ c.fp ∨ h.size ≤ b := by
      intro b hb
      simp only [HC.fp, List.mem_cons] at hb ⊢
      rcases hb with x | x | x | x
      · exact .inl (.inl x)
      · exact .inl (.inr (.inl x))
      · exact .inl (.inr (.inr (.inl x)))
      · rcases hb1 b x with y | y
        · exact .inl (.inr (.inr (.inr y)))
        · exact .inr y
    obtain ⟨c', hc'⟩ : ∃ c', c' = ({ c with lv := lv', lbs := lbs' } : HC) := ⟨_, rfl⟩
    have ec1 : c'.g = c.g := by rw [hc']
    have ec2 : c'.n = c.n := by rw [hc']
    rw [← hc'] at q2 hfp
    rw [← ec1]
    have hd := q2.hd
    have ol := q2.ol
    have hl := arr_len (cnt c.n S + 1) (fun i => ((upd f (cnt c.n S) w i : Nat) : Int))
    try simp (disch := first | assumption | omega | (apply At.mk; with_unfolding_all rfl)) only [hl, ↓go_eq, ↓ent_eq, Mv, NilC_at, Fld_at, add_mk, Nat.zero_add, Nat.add_zero, Add64, Sub64, Mul64, Quo64, Rem64, Neg64, Cvt64, CvtU8, CvtU16, CvtU32, CvtU64, AddU64, SubU64, MulU64, Shr64, Shr_u8, Shr_u16, Shr_u32, Shr_u64, And1, And31, And32, Eql64, Neq64, Bin_lss, Bin_leq, Bin_gtr, Bin_geq, Bin_bool_eql, Bin_bool_neq, Bin_ptr_nil_eql, Bin_ptr_nil_neq, Not_dec, Un_not, Pick_t, Pick_f, Pick_pos, Pick_neg, Gd_tt, Gd_tf, Gd_ft, Gd_ff, Gd_pos_t, Gd_neg_t, Gd_pos_f, Gd_neg_f, Gd_undef, If_t, If_f, If_pos, If_neg, CallF_eq, Max_two, Min_two, Len_rd, Len_own, Ld_blkE, Idx_rdN, Idx_ownN, Idx_rdE, Idx_ownE, IdxAE, LdA_two, Idx_at0, Ext_atE, Len_at, Int.toNat_natCast, Int.toNat_zero, Int.toNat_one, List.length_map, List.length_append, List.length_cons, List.length_nil, List.length_take, List.length_set, List.length_replicate, Bool.not_true, Bool.not_false, decide_true, decide_false, BEq.rfl, bne_self_eq_false, tf_beq, ft_beq, tf_bne, ft_bne, not_true_eq_false, not_false_eq_true, app]
    rw [show ((cnt c.n S + 1 : Nat) : Int) - 1 = ((cnt c.n S : Nat) : Int) by omega]
    refine q2.setp (by omega) fun h3 q3 f3 => ?_
    have hd := q3.hd
    have ol := q3.ol
    try simp (disch := first | assumption | omega | (apply At.mk; with_unfolding_all rfl)) only [hl, ↓go_eq, ↓ent_eq, Mv, NilC_at, Fld_at, add_mk, Nat.zero_add, Nat.add_zero, Add64, Sub64, Mul64, Quo64, Rem64, Neg64, Cvt64, CvtU8, CvtU16, CvtU32, CvtU64, AddU64, SubU64, MulU64, Shr64, Shr_u8, Shr_u16, Shr_u32, Shr_u64, And1, And31, And32, Eql64, Neq64, Bin_lss, Bin_leq, Bin_gtr, Bin_geq, Bin_bool_eql, Bin_bool_neq, Bin_ptr_nil_eql, Bin_ptr_nil_neq, Not_dec, Un_not, Pick_t, Pick_f, Pick_pos, Pick_neg, Gd_tt, Gd_tf, Gd_ft, Gd_ff, Gd_pos_t, Gd_neg_t, Gd_pos_f, Gd_neg_f, Gd_undef, If_t, If_f, If_pos, If_neg, CallF_eq, Max_two, Min_two, Len_rd, Len_own, Ld_blkE, Idx_rdN, Idx_ownN, Idx_rdE, Idx_ownE, IdxAE, LdA_two, Idx_at0, Ext_atE, Len_at, Int.toNat_natCast, Int.toNat_zero, Int.toNat_one, List.length_map, List.length_append, List.length_cons, List.length_nil, List.length_take, List.length_set, List.length_replicate, Bool.not_true, Bool.not_false, decide_true, decide_false, BEq.rfl, bne_self_eq_false, tf_beq, ft_beq, tf_bne, ft_bne, not_true_eq_false, not_false_eq_true, app]
    rw [show ((cnt c.n S + 1 : Nat) : Int) - 1 = ((cnt c.n S : Nat) : Int) by omega]
    have pp : PI c'.n (cnt c.n S + 1) 0 (upd S w true) (upd f (cnt c.n S) w) (upd p w ((cnt c.n S : Nat) : Int)) := by rw [ec2]; exact PI_put pi (by omega) (by omega) hS
    have hsz2 := f02.size
    have hsz1 := f1.size
    have f3' : Fr c.fp h h3 := f02.trans' f3 fun b hb => by rcases hfp b hb with x | x; exact .inl x; exact .inr x
    have hsz3 := f3'.size
    refine scores_Heap_up.spec q3 (by omega) (by omega) ⟨fun j j0 jm jne => ?_, fun j j0 jm jp i0 => by omega⟩ pp fun h4 f' p' q4 pi4 ho4 f4 => ?_
    · rw [upd_ne jne, upd_ne (by omega)]; exact ho j j0 (by omega) (Nat.zero_le _)
    · try simp (disch := first | assumption | omega | (apply At.mk; with_unfolding_all rfl)) only [↓go_eq, ↓ent_eq, Mv, NilC_at, Fld_at, add_mk, Nat.zero_add, Nat.add_zero, Add64, Sub64, Mul64, Quo64, Rem64, Neg64, Cvt64, CvtU8, CvtU16, CvtU32, CvtU64, AddU64, SubU64, MulU64, Shr64, Shr_u8, Shr_u16, Shr_u32, Shr_u64, And1, And31, And32, Eql64, Neq64, Bin_lss, Bin_leq, Bin_gtr, Bin_geq, Bin_bool_eql, Bin_bool_neq, Bin_ptr_nil_eql, Bin_ptr_nil_neq, Not_dec, Un_not, Pick_t, Pick_f, Pick_pos, Pick_neg, Gd_tt, Gd_tf, Gd_ft, Gd_ff, Gd_pos_t, Gd_neg_t, Gd_pos_f, Gd_neg_f, Gd_undef, If_t, If_f, If_pos, If_neg, CallF_eq, Max_two, Min_two, Len_rd, Len_own, Ld_blkE, Idx_rdN, Idx_ownN, Idx_rdE, Idx_ownE, IdxAE, LdA_two, Idx_at0, Ext_atE, Len_at, Int.toNat_natCast, Int.toNat_zero, Int.toNat_one, List.length_map, List.length_append, List.length_cons, List.length_nil, List.length_take, List.length_set, List.length_replicate, Bool.not_true, Bool.not_false, decide_true, decide_false, BEq.rfl, bne_self_eq_false, tf_beq, ft_beq, tf_bne, ft_bne, not_true_eq_false, not_false_eq_true, app]
      refine hk1 c1 hS h4 c'.fp ⟨c', p', f', ec1, ec2, rfl, ?_, ?_, ?_⟩ (f3'.trans' f4 fun b hb => by rcases hfp b hb with x | x; exact .inl x; exact .inr x) hfp
      · rw [hcp]; exact q4
      · rw [hcp]; exact ec2 ▸ pi4
      · rw [hcp]; exact ho4
end
end Go.Proofs.Ytcjglfomekpmgaa
