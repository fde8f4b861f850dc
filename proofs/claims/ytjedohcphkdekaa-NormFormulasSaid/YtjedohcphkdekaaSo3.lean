/- Sorting by a heap, with a comparison handed in. Conditions: those typed ahead of each theorem. -/
import Derived.Test.YtjedohcphkdekaaSo2
namespace Go.Proofs.Ytjedohcphkdekaa
open Go.Pt
set_option linter.unusedVariables false
set_option linter.unusedSimpArgs false
namespace So
def MHp (L : Int → Int → Prop) (lo hi : Nat) (G : Nat → Int) : Prop := ∀ j, 0 < j → j < hi → lo ≤ (j - 1) / 2 → ¬ L (G ((j - 1) / 2)) (G j)
def SfI (L : Int → Int → Prop) (lo hi root : Nat) (G : Nat → Int) : Prop :=
  (∀ j, 0 < j → j < hi → lo ≤ (j - 1) / 2 → (j - 1) / 2 ≠ root → ¬ L (G ((j - 1) / 2)) (G j)) ∧ ∀ j, 0 < j → j < hi → (j - 1) / 2 = root → 0 < root → lo ≤ (root - 1) / 2 → ¬ L (G ((root - 1) / 2)) (G j)
theorem sf_step {L : Int → Int → Prop} {lo hi root k : Nat} {G : Nat → Int} (o : Ord L) (s : SfI L lo hi root G) (hlo : lo ≤ root) (hk : k < hi) (k0 : 0 < k) (kp : (k - 1) / 2 = root) (hb : ∀ j, 0 < j → j < hi → (j - 1) / 2 = root → ¬ L (G k) (G j)) (hL : L (G root) (G k)) : SfI L lo hi k (swp G root k) := by
  obtain ⟨sa, sb⟩ := s
  refine ⟨fun j j0 jh jl jk => ?_, fun j j0 jh jp _ pl => ?_⟩
  · by_cases e : (j - 1) / 2 = root
    · rw [e, swp_i]
      by_cases e2 : j = k
      · subst e2; rw [swp_j]; exact o.asymm hL
      · rw [swp_ne (by omega) e2]; exact hb j j0 jh e
    · rw [swp_ne e jk]
      by_cases e2 : j = root
      · subst e2; rw [swp_i]; exact sb k k0 hk kp j0 jl
      · rw [swp_ne e2 (fun x => e (by rw [x]; exact kp))]; exact sa j j0 jh jl e
  · rw [kp, swp_i, swp_ne (by omega) (by omega)]
    have := sa j j0 jh (by omega) (by omega)
    rwa [jp] at this
theorem sf_end {L : Int → Int → Prop} {lo hi root : Nat} {G : Nat → Int} (s : SfI L lo hi root G) (h : ∀ j, 0 < j → j < hi → (j - 1) / 2 = root → ¬ L (G root) (G j)) : MHp L lo hi G := by
  intro j j0 jh jl
  by_cases e : (j - 1) / 2 = root
  · rw [e]; exact h j j0 jh e
  · exact s.1 j j0 jh jl e
theorem mhp_top {L : Int → Int → Prop} (o : Ord L) {hi : Nat} {G : Nat → Int} (s : MHp L 0 hi G) : ∀ j, j < hi → ¬ L (G 0) (G j) := by
  intro j
  induction j using Nat.strongRecOn with
  | _ j ih =>
    intro hj
    by_cases e : j = 0
    · rw [e]; exact o.irr _
    · exact o.nt (ih ((j - 1) / 2) (by omega) (by omega)) (s j (by omega) hj (Nat.zero_le _))
theorem swp_shift (f : Nat → Int) (c i j : Nat) : (fun k => swp f (c + i) (c + j) (c + k)) = swp (fun k => f (c + k)) i j := by
  funext k
  unfold swp upd
  by_cases e : k = j
  · subst e; rw [if_pos rfl, if_pos rfl]
  · rw [if_neg (by omega), if_neg e]
    by_cases e2 : k = i
    · subst e2; rw [if_pos rfl, if_pos rfl]
    · rw [if_neg (by omega), if_neg e2]
section
variable {K : Ret} {h : Heap} {v cv : Value} {bs : List Nat} {m : Nat} {L : Int → Int → Prop} [DecidableRel L] {ok : Heap → Prop} {D : Int → Prop}
set_option maxHeartbeats 4000000 in
theorem slices_siftDownCmpFunc_int.spec {lo hi c : Nat} {f : Nat → Int} (o : Ord L) (hc : Cmp L cv ok D) (hok : ∀ h h', ok h → Fr bs h h' → ok h') (hb : c + hi ≤ m) (hm : m ≤ 1000000000) (hlo : lo ≤ 1000000000) (hD : ∀ k, c ≤ k → k < c + hi → D (f k)) (w : Own h v (arr m f) bs) (h0 : ok h) (s : SfI L lo hi lo fun k => f (c + k))
    (hk : ∀ h' g, Own h' v (arr m g) bs → Pm c (c + hi) f g → MHp L lo hi (fun k => g (c + k)) → Fr bs h h' → K (.tuple #[]) h') : CallH Try.prog slices_siftDownCmpFunc_int.id #[v, Iv (lo : Nat), Iv (hi : Nat), Iv (c : Nat), cv] K h := by
  refine slices_siftDownCmpFunc_int.ok ?_
  simp only [slices_siftDownCmpFunc_int.pt]
  refine Lp_fn (σ := Nat × (Nat → Int)) (fun s => [v, Iv (hi : Nat), Iv (c : Nat), cv, Iv (s.1 : Nat)]) (fun s h' => lo ≤ s.1 ∧ (s.1 < hi ∨ s.1 = lo) ∧ Own h' v (arr m s.2) bs ∧ Pm c (c + hi) f s.2 ∧ SfI L lo hi s.1 (fun k => s.2 (c + k)) ∧ Fr bs h h') (fun s => hi - s.1) (lo, f) rfl (fun _ => rfl) ⟨Nat.le_refl _, .inr rfl, w, .refl, s, Fr.refl _ _⟩ ?_
  clear s w
  rintro ⟨r, g⟩ h1 ⟨hr, hr2, w1, p1, s1, f1⟩ X hX
  simp only at hr hr2 w1 p1 s1
  have hD' := p1.all hD
  have ok1 := hok _ _ h0 f1
  have e21 : 2 * (r : Int) + 1 = ((2 * r + 1 : Nat) : Int) := by omega
  by_cases c1 : 2 * (r : Int) + 1 ≥ (hi : Nat)
  · try simp (disch := first | assumption | omega | (apply At.mk; with_unfolding_all rfl)) only [↓go_eq, ↓ent_eq, Mv, NilC_at, Fld_at, add_mk, Nat.zero_add, Nat.add_zero, Add64, Sub64, Mul64, Quo64, Rem64, Neg64, Cvt64, CvtU8, CvtU16, CvtU32, CvtU64, AddU64, SubU64, MulU64, Shr64, Shr_u8, Shr_u16, Shr_u32, Shr_u64, And1, And31, And32, Eql64, Neq64, Bin_lss, Bin_leq, Bin_gtr, Bin_geq, Bin_bool_eql, Bin_bool_neq, Bin_ptr_nil_eql, Bin_ptr_nil_neq, Not_dec, Un_not, Pick_t, Pick_f, Pick_pos, Pick_neg, Gd_tt, Gd_tf, Gd_ft, Gd_ff, Gd_pos_t, Gd_neg_t, Gd_pos_f, Gd_neg_f, Gd_undef, If_t, If_f, If_pos, If_neg, CallF_eq, Max_two, Min_two, Len_rd, Len_own, Ld_blkE, Idx_rdN, Idx_ownN, Idx_rdE, Idx_ownE, IdxAE, LdA_two, Idx_at0, Ext_atE, Len_at, Int.toNat_natCast, Int.toNat_zero, Int.toNat_one, List.length_map, List.length_append, List.length_cons, List.length_nil, List.length_take, List.length_set, List.length_replicate, Bool.not_true, Bool.not_false, decide_true, decide_false, BEq.rfl, bne_self_eq_false, tf_beq, ft_beq, tf_bne, ft_bne, not_true_eq_false, not_false_eq_true, app]
    exact hk h1 g w1 p1 (sf_end s1 fun j j0 jh jp => by omega) f1
  · try simp (disch := first | assumption | omega | (apply At.mk; with_unfolding_all rfl)) only [↓go_eq, ↓ent_eq, Mv, NilC_at, Fld_at, add_mk, Nat.zero_add, Nat.add_zero, Add64, Sub64, Mul64, Quo64, Rem64, Neg64, Cvt64, CvtU8, CvtU16, CvtU32, CvtU64, AddU64, SubU64, MulU64, Shr64, Shr_u8, Shr_u16, Shr_u32, Shr_u64, And1, And31, And32, Eql64, Neq64, Bin_lss, Bin_leq, Bin_gtr, Bin_geq, Bin_bool_eql, Bin_bool_neq, Bin_ptr_nil_eql, Bin_ptr_nil_neq, Not_dec, Un_not, Pick_t, Pick_f, Pick_pos, Pick_neg, Gd_tt, Gd_tf, Gd_ft, Gd_ff, Gd_pos_t, Gd_neg_t, Gd_pos_f, Gd_neg_f, Gd_undef, If_t, If_f, If_pos, If_neg, CallF_eq, Max_two, Min_two, Len_rd, Len_own, Ld_blkE, Idx_rdN, Idx_ownN, Idx_rdE, Idx_ownE, IdxAE, LdA_two, Idx_at0, Ext_atE, Len_at, Int.toNat_natCast, Int.toNat_zero, Int.toNat_one, List.length_map, List.length_append, List.length_cons, List.length_nil, List.length_take, List.length_set, List.length_replicate, Bool.not_true, Bool.not_false, decide_true, decide_false, BEq.rfl, bne_self_eq_false, tf_beq, ft_beq, tf_bne, ft_bne, not_true_eq_false, not_false_eq_true, app]
    refine Jn_fn (σ := Nat) (fun k => [v, Iv (hi : Nat), Iv (c : Nat), cv, Iv (r : Nat), Iv (k : Nat)]) (fun k h' => h1 = h' ∧ 0 < k ∧ k < hi ∧ (k - 1) / 2 = r ∧ ∀ j, 0 < j → j < hi → (j - 1) / 2 = r → ¬ L (g (c + k)) (g (c + j))) ?_ ?_
    · intro J hJ
      by_cases c2 : 2 * (r : Int) + 1 + 1 < (hi : Nat)
      · have t1 : ((c : Int) + (2 * (r : Int) + 1)).toNat = c + (2 * r + 1) := by omega
        have t2 : ((c : Int) + (2 * (r : Int) + 1) + 1).toNat = c + (2 * r + 2) := by omega
        have a1 := arr_at g (show c + (2 * r + 1) < m by omega)
        have a2 := arr_at g (show c + (2 * r + 2) < m by omega)
        rw [← t1] at a1
        rw [← t2] at a2
        try simp (disch := first | assumption | omega | (apply At.mk; with_unfolding_all rfl)) only [↓go_eq, ↓ent_eq, Mv, NilC_at, Fld_at, add_mk, Nat.zero_add, Nat.add_zero, Add64, Sub64, Mul64, Quo64, Rem64, Neg64, Cvt64, CvtU8, CvtU16, CvtU32, CvtU64, AddU64, SubU64, MulU64, Shr64, Shr_u8, Shr_u16, Shr_u32, Shr_u64, And1, And31, And32, Eql64, Neq64, Bin_lss, Bin_leq, Bin_gtr, Bin_geq, Bin_bool_eql, Bin_bool_neq, Bin_ptr_nil_eql, Bin_ptr_nil_neq, Not_dec, Un_not, Pick_t, Pick_f, Pick_pos, Pick_neg, Gd_tt, Gd_tf, Gd_ft, Gd_ff, Gd_pos_t, Gd_neg_t, Gd_pos_f, Gd_neg_f, Gd_undef, If_t, If_f, If_pos, If_neg, CallF_eq, Max_two, Min_two, Len_rd, Len_own, Ld_blkE, Idx_rdN, Idx_ownN, Idx_rdE, Idx_ownE, IdxAE, LdA_two, Idx_at0, Ext_atE, Len_at, Int.toNat_natCast, Int.toNat_zero, Int.toNat_one, List.length_map, List.length_append, List.length_cons, List.length_nil, List.length_take, List.length_set, List.length_replicate, Bool.not_true, Bool.not_false, decide_true, decide_false, BEq.rfl, bne_self_eq_false, tf_beq, ft_beq, tf_bne, ft_bne, not_true_eq_false, not_false_eq_true, app]
        refine hc _ _ _ _ ok1 (hD' _ (by omega) (by omega)) (hD' _ (by omega) (by omega)) fun q hq => ?_
        rw [t1, t2] at hq
        by_cases c3 : q < 0
        · have hL := hq.1 c3
          try simp (disch := first | assumption | omega | (apply At.mk; with_unfolding_all rfl)) only [↓go_eq, ↓ent_eq, Mv, NilC_at, Fld_at, add_mk, Nat.zero_add, Nat.add_zero, Add64, Sub64, Mul64, Quo64, Rem64, Neg64, Cvt64, CvtU8, CvtU16, CvtU32, CvtU64, AddU64, SubU64, MulU64, Shr64, Shr_u8, Shr_u16, Shr_u32, Shr_u64, And1, And31, And32, Eql64, Neq64, Bin_lss, Bin_leq, Bin_gtr, Bin_geq, Bin_bool_eql, Bin_bool_neq, Bin_ptr_nil_eql, Bin_ptr_nil_neq, Not_dec, Un_not, Pick_t, Pick_f, Pick_pos, Pick_neg, Gd_tt, Gd_tf, Gd_ft, Gd_ff, Gd_pos_t, Gd_neg_t, Gd_pos_f, Gd_neg_f, Gd_undef, If_t, If_f, If_pos, If_neg, CallF_eq, Max_two, Min_two, Len_rd, Len_own, Ld_blkE, Idx_rdN, Idx_ownN, Idx_rdE, Idx_ownE, IdxAE, LdA_two, Idx_at0, Ext_atE, Len_at, Int.toNat_natCast, Int.toNat_zero, Int.toNat_one, List.length_map, List.length_append, List.length_cons, List.length_nil, List.length_take, List.length_set, List.length_replicate, Bool.not_true, Bool.not_false, decide_true, decide_false, BEq.rfl, bne_self_eq_false, tf_beq, ft_beq, tf_bne, ft_bne, not_true_eq_false, not_false_eq_true, app]
          rw [show 2 * (r : Int) + 1 + 1 = ((2 * r + 2 : Nat) : Int) by omega]
          refine hJ (2 * r + 2) h1 ⟨rfl, by omega, by omega, by omega, fun j j0 jh jp => ?_⟩
          rcases (by omega : j = 2 * r + 1 ∨ j = 2 * r + 2) with rfl | rfl
          · exact o.asymm hL
          · exact o.irr _
        · have hL : ¬ L (g (c + (2 * r + 1))) (g (c + (2 * r + 2))) := fun x => c3 (hq.2 x)
          try simp (disch := first | assumption | omega | (apply At.mk; with_unfolding_all rfl)) only [↓go_eq, ↓ent_eq, Mv, NilC_at, Fld_at, add_mk, Nat.zero_add, Nat.add_zero, Add64, Sub64, Mul64, Quo64, Rem64, Neg64, Cvt64, CvtU8, CvtU16, CvtU32, CvtU64, AddU64, SubU64, MulU64, Shr64, Shr_u8, Shr_u16, Shr_u32, Shr_u64, And1, And31, And32, Eql64, Neq64, Bin_lss, Bin_leq, Bin_gtr, Bin_geq, Bin_bool_eql, Bin_bool_neq, Bin_ptr_nil_eql, Bin_ptr_nil_neq, Not_dec, Un_not, Pick_t, Pick_f, Pick_pos, Pick_neg, Gd_tt, Gd_tf, Gd_ft, Gd_ff, Gd_pos_t, Gd_neg_t, Gd_pos_f, Gd_neg_f, Gd_undef, If_t, If_f, If_pos, If_neg, CallF_eq, Max_two, Min_two, Len_rd, Len_own, Ld_blkE, Idx_rdN, Idx_ownN, Idx_rdE, Idx_ownE, IdxAE, LdA_two, Idx_at0, Ext_atE, Len_at, Int.toNat_natCast, Int.toNat_zero, Int.toNat_one, List.length_map, List.length_append, List.length_cons, List.length_nil, List.length_take, List.length_set, List.length_replicate, Bool.not_true, Bool.not_false, decide_true, decide_false, BEq.rfl, bne_self_eq_false, tf_beq, ft_beq, tf_bne, ft_bne, not_true_eq_false, not_false_eq_true, app]
          rw [e21]
          refine hJ (2 * r + 1) h1 ⟨rfl, by omega, by omega, by omega, fun j j0 jh jp => ?_⟩
          rcases (by omega : j = 2 * r + 1 ∨ j = 2 * r + 2) with rfl | rfl
          · exact o.irr _
          · exact hL
      · try simp (disch := first | assumption | omega | (apply At.mk; with_unfolding_all rfl)) only [↓go_eq, ↓ent_eq, Mv, NilC_at, Fld_at, add_mk, Nat.zero_add, Nat.add_zero, Add64, Sub64, Mul64, Quo64, Rem64, Neg64, Cvt64, CvtU8, CvtU16, CvtU32, CvtU64, AddU64, SubU64, MulU64, Shr64, Shr_u8, Shr_u16, Shr_u32, Shr_u64, And1, And31, And32, Eql64, Neq64, Bin_lss, Bin_leq, Bin_gtr, Bin_geq, Bin_bool_eql, Bin_bool_neq, Bin_ptr_nil_eql, Bin_ptr_nil_neq, Not_dec, Un_not, Pick_t, Pick_f, Pick_pos, Pick_neg, Gd_tt, Gd_tf, Gd_ft, Gd_ff, Gd_pos_t, Gd_neg_t, Gd_pos_f, Gd_neg_f, Gd_undef, If_t, If_f, If_pos, If_neg, CallF_eq, Max_two, Min_two, Len_rd, Len_own, Ld_blkE, Idx_rdN, Idx_ownN, Idx_rdE, Idx_ownE, IdxAE, LdA_two, Idx_at0, Ext_atE, Len_at, Int.toNat_natCast, Int.toNat_zero, Int.toNat_one, List.length_map, List.length_append, List.length_cons, List.length_nil, List.length_take, List.length_set, List.length_replicate, Bool.not_true, Bool.not_false, decide_true, decide_false, BEq.rfl, bne_self_eq_false, tf_beq, ft_beq, tf_bne, ft_bne, not_true_eq_false, not_false_eq_true, app]
        rw [e21]
        refine hJ (2 * r + 1) h1 ⟨rfl, by omega, by omega, by omega, fun j j0 jh jp => ?_⟩
        rw [show j = 2 * r + 1 by omega]
        exact o.irr _
    · rintro k _ ⟨rfl, k0, kh, kp, hb'⟩
      have t1 : ((c : Int) + (r : Int)).toNat = c + r := by omega
      have t2 : ((c : Int) + (k : Int)).toNat = c + k := by omega
      have a1 := arr_at g (show c + r < m by omega)
      have a2 := arr_at g (show c + k < m by omega)
      rw [← t1] at a1
      rw [← t2] at a2
      try simp (disch := first | assumption | omega | (apply At.mk; with_unfolding_all rfl)) only [↓go_eq, ↓ent_eq, Mv, NilC_at, Fld_at, add_mk, Nat.zero_add, Nat.add_zero, Add64, Sub64, Mul64, Quo64, Rem64, Neg64, Cvt64, CvtU8, CvtU16, CvtU32, CvtU64, AddU64, SubU64, MulU64, Shr64, Shr_u8, Shr_u16, Shr_u32, Shr_u64, And1, And31, And32, Eql64, Neq64, Bin_lss, Bin_leq, Bin_gtr, Bin_geq, Bin_bool_eql, Bin_bool_neq, Bin_ptr_nil_eql, Bin_ptr_nil_neq, Not_dec, Un_not, Pick_t, Pick_f, Pick_pos, Pick_neg, Gd_tt, Gd_tf, Gd_ft, Gd_ff, Gd_pos_t, Gd_neg_t, Gd_pos_f, Gd_neg_f, Gd_undef, If_t, If_f, If_pos, If_neg, CallF_eq, Max_two, Min_two, Len_rd, Len_own, Ld_blkE, Idx_rdN, Idx_ownN, Idx_rdE, Idx_ownE, IdxAE, LdA_two, Idx_at0, Ext_atE, Len_at, Int.toNat_natCast, Int.toNat_zero, Int.toNat_one, List.length_map, List.length_append, List.length_cons, List.length_nil, List.length_take, List.length_set, List.length_replicate, Bool.not_true, Bool.not_false, decide_true, decide_false, BEq.rfl, bne_self_eq_false, tf_beq, ft_beq, tf_bne, ft_bne, not_true_eq_false, not_false_eq_true, app]
      refine hc _ _ _ _ ok1 (hD' _ (by omega) (by omega)) (hD' _ (by omega) (by omega)) fun q hq => ?_
      rw [t1, t2] at hq
      by_cases c3 : q < 0
      · have hL := hq.1 c3
        try simp (disch := first | assumption | omega | (apply At.mk; with_unfolding_all rfl)) only [↓go_eq, ↓ent_eq, Mv, NilC_at, Fld_at, add_mk, Nat.zero_add, Nat.add_zero, Add64, Sub64, Mul64, Quo64, Rem64, Neg64, Cvt64, CvtU8, CvtU16, CvtU32, CvtU64, AddU64, SubU64, MulU64, Shr64, Shr_u8, Shr_u16, Shr_u32, Shr_u64, And1, And31, And32, Eql64, Neq64, Bin_lss, Bin_leq, Bin_gtr, Bin_geq, Bin_bool_eql, Bin_bool_neq, Bin_ptr_nil_eql, Bin_ptr_nil_neq, Not_dec, Un_not, Pick_t, Pick_f, Pick_pos, Pick_neg, Gd_tt, Gd_tf, Gd_ft, Gd_ff, Gd_pos_t, Gd_neg_t, Gd_pos_f, Gd_neg_f, Gd_undef, If_t, If_f, If_pos, If_neg, CallF_eq, Max_two, Min_two, Len_rd, Len_own, Ld_blkE, Idx_rdN, Idx_ownN, Idx_rdE, Idx_ownE, IdxAE, LdA_two, Idx_at0, Ext_atE, Len_at, Int.toNat_natCast, Int.toNat_zero, Int.toNat_one, List.length_map, List.length_append, List.length_cons, List.length_nil, List.length_take, List.length_set, List.length_replicate, Bool.not_true, Bool.not_false, decide_true, decide_false, BEq.rfl, bne_self_eq_false, tf_beq, ft_beq, tf_bne, ft_bne, not_true_eq_false, not_false_eq_true, app]
        try rw [decide_eq_true c3]
        try simp (disch := first | assumption | omega | (apply At.mk; with_unfolding_all rfl)) only [↓go_eq, ↓ent_eq, Mv, NilC_at, Fld_at, add_mk, Nat.zero_add, Nat.add_zero, Add64, Sub64, Mul64, Quo64, Rem64, Neg64, Cvt64, CvtU8, CvtU16, CvtU32, CvtU64, AddU64, SubU64, MulU64, Shr64, Shr_u8, Shr_u16, Shr_u32, Shr_u64, And1, And31, And32, Eql64, Neq64, Bin_lss, Bin_leq, Bin_gtr, Bin_geq, Bin_bool_eql, Bin_bool_neq, Bin_ptr_nil_eql, Bin_ptr_nil_neq, Not_dec, Un_not, Pick_t, Pick_f, Pick_pos, Pick_neg, Gd_tt, Gd_tf, Gd_ft, Gd_ff, Gd_pos_t, Gd_neg_t, Gd_pos_f, Gd_neg_f, Gd_undef, If_t, If_f, If_pos, If_neg, CallF_eq, Max_two, Min_two, Len_rd, Len_own, Ld_blkE, Idx_rdN, Idx_ownN, Idx_rdE, Idx_ownE, IdxAE, LdA_two, Idx_at0, Ext_atE, Len_at, Int.toNat_natCast, Int.toNat_zero, Int.toNat_one, List.length_map, List.length_append, List.length_cons, List.length_nil, List.length_take, List.length_set, List.length_replicate, Bool.not_true, Bool.not_false, decide_true, decide_false, BEq.rfl, bne_self_eq_false, tf_beq, ft_beq, tf_bne, ft_bne, not_true_eq_false, not_false_eq_true, app]
        rw [t1, t2, show (c : Int) + (r : Int) = ((c + r : Nat) : Int) by omega, show (c : Int) + (k : Int) = ((c + k : Nat) : Int) by omega]
        refine swap2 (i := c + r) (j := c + k) w1 (by omega) (by omega) fun h2 w2 f2 => ?_
        have ss := sf_step o s1 hr kh k0 kp hb' hL
        rw [← swp_shift] at ss
        exact hX (k, swp g (c + r) (c + k)) h2 ⟨by simp only; omega, .inl kh, w2, p1.step _ _ (by omega) (by omega) (by omega) (by omega), ss, f1.trans f2⟩ (by simp only; omega)
      · have hL : ¬ L (g (c + r)) (g (c + k)) := fun x => c3 (hq.2 x)
        try simp (disch := first | assumption | omega | (apply At.mk; with_unfolding_all rfl)) only [↓go_eq, ↓ent_eq, Mv, NilC_at, Fld_at, add_mk, Nat.zero_add, Nat.add_zero, Add64, Sub64, Mul64, Quo64, Rem64, Neg64, Cvt64, CvtU8, CvtU16, CvtU32, CvtU64, AddU64, SubU64, MulU64, Shr64, Shr_u8, Shr_u16, Shr_u32, Shr_u64, And1, And31, And32, Eql64, Neq64, Bin_lss, Bin_leq, Bin_gtr, Bin_geq, Bin_bool_eql, Bin_bool_neq, Bin_ptr_nil_eql, Bin_ptr_nil_neq, Not_dec, Un_not, Pick_t, Pick_f, Pick_pos, Pick_neg, Gd_tt, Gd_tf, Gd_ft, Gd_ff, Gd_pos_t, Gd_neg_t, Gd_pos_f, Gd_neg_f, Gd_undef, If_t, If_f, If_pos, If_neg, CallF_eq, Max_two, Min_two, Len_rd, Len_own, Ld_blkE, Idx_rdN, Idx_ownN, Idx_rdE, Idx_ownE, IdxAE, LdA_two, Idx_at0, Ext_atE, Len_at, Int.toNat_natCast, Int.toNat_zero, Int.toNat_one, List.length_map, List.length_append, List.length_cons, List.length_nil, List.length_take, List.length_set, List.length_replicate, Bool.not_true, Bool.not_false, decide_true, decide_false, BEq.rfl, bne_self_eq_false, tf_beq, ft_beq, tf_bne, ft_bne, not_true_eq_false, not_false_eq_true, app]
        try rw [decide_eq_false c3]
        try simp (disch := first | assumption | omega | (apply At.mk; with_unfolding_all rfl)) only [↓go_eq, ↓ent_eq, Mv, NilC_at, Fld_at, add_mk, Nat.zero_add, Nat.add_zero, Add64, Sub64, Mul64, Quo64, Rem64, Neg64, Cvt64, CvtU8, CvtU16, CvtU32, CvtU64, AddU64, SubU64, MulU64, Shr64, Shr_u8, Shr_u16, Shr_u32, Shr_u64, And1, And31, And32, Eql64, Neq64, Bin_lss, Bin_leq, Bin_gtr, Bin_geq, Bin_bool_eql, Bin_bool_neq, Bin_ptr_nil_eql, Bin_ptr_nil_neq, Not_dec, Un_not, Pick_t, Pick_f, Pick_pos, Pick_neg, Gd_tt, Gd_tf, Gd_ft, Gd_ff, Gd_pos_t, Gd_neg_t, Gd_pos_f, Gd_neg_f, Gd_undef, If_t, If_f, If_pos, If_neg, CallF_eq, Max_two, Min_two, Len_rd, Len_own, Ld_blkE, Idx_rdN, Idx_ownN, Idx_rdE, Idx_ownE, IdxAE, LdA_two, Idx_at0, Ext_atE, Len_at, Int.toNat_natCast, Int.toNat_zero, Int.toNat_one, List.length_map, List.length_append, List.length_cons, List.length_nil, List.length_take, List.length_set, List.length_replicate, Bool.not_true, Bool.not_false, decide_true, decide_false, BEq.rfl, bne_self_eq_false, tf_beq, ft_beq, tf_bne, ft_bne, not_true_eq_false, not_false_eq_true, app]
        exact hk h1 g w1 p1 (sf_end s1 fun j j0 jh jp => o.nt hL (hb' j j0 jh jp)) f1
end
end So
end Go.Proofs.Ytjedohcphkdekaa
