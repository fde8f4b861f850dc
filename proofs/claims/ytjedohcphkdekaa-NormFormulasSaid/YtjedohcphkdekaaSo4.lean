/- Sorting by a heap: the whole. Conditions: those typed ahead of each theorem. -/
import Derived.Test.YtjedohcphkdekaaSo3
namespace Go.Proofs.Ytjedohcphkdekaa
open Go.Pt
set_option linter.unusedVariables false
set_option linter.unusedSimpArgs false
namespace So
section
variable {K : Ret} {h : Heap} {v cv : Value} {bs : List Nat} {m : Nat} {L : Int → Int → Prop} [DecidableRel L] {ok : Heap → Prop} {D : Int → Prop}
set_option maxHeartbeats 4000000 in
theorem slices_heapSortCmpFunc_int.spec {a b : Nat} {f : Nat → Int} (o : Ord L) (hc : Cmp L cv ok D) (hok : ∀ h h', ok h → Fr bs h h' → ok h') (hab : a < b) (hb : b ≤ m) (hm : m ≤ 1000000000) (hD : ∀ k, a ≤ k → k < b → D (f k)) (w : Own h v (arr m f) bs) (h0 : ok h)
    (hk : ∀ h' g, Own h' v (arr m g) bs → Pm a b f g → Srt L a b g → Fr bs h h' → K (.tuple #[]) h') : CallH Try.prog slices_heapSortCmpFunc_int.id #[v, Iv (a : Nat), Iv (b : Nat), cv] K h := by
  refine slices_heapSortCmpFunc_int.ok ?_
  simp only [slices_heapSortCmpFunc_int.pt]
  obtain ⟨n, hn⟩ : ∃ n, b = a + n := ⟨b - a, by omega⟩
  subst hn
  have e1 : ((a + n : Nat) : Int) - (a : Nat) = (n : Nat) := by omega
  obtain ⟨H, hH⟩ : ∃ H, H = (n - 1) / 2 := ⟨_, rfl⟩
  have e2 : ((n : Int) - 1) / 2 = (H : Nat) := by omega
  try simp (disch := first | assumption | omega | (apply At.mk; with_unfolding_all rfl)) only [↓go_eq, ↓ent_eq, Mv, NilC_at, Fld_at, add_mk, Nat.zero_add, Nat.add_zero, Add64, Sub64, Mul64, Quo64, Rem64, Neg64, Cvt64, CvtU8, CvtU16, CvtU32, CvtU64, AddU64, SubU64, MulU64, Shr64, Shr_u8, Shr_u16, Shr_u32, Shr_u64, And1, And31, And32, Eql64, Neq64, Bin_lss, Bin_leq, Bin_gtr, Bin_geq, Bin_bool_eql, Bin_bool_neq, Bin_ptr_nil_eql, Bin_ptr_nil_neq, Not_dec, Un_not, Pick_t, Pick_f, Pick_pos, Pick_neg, Gd_tt, Gd_tf, Gd_ft, Gd_ff, Gd_pos_t, Gd_neg_t, Gd_pos_f, Gd_neg_f, Gd_undef, If_t, If_f, If_pos, If_neg, CallF_eq, Max_two, Min_two, Len_rd, Len_own, Ld_blkE, Idx_rdN, Idx_ownN, Idx_rdE, Idx_ownE, IdxAE, LdA_two, Idx_at0, Ext_atE, Len_at, Int.toNat_natCast, Int.toNat_zero, Int.toNat_one, List.length_map, List.length_append, List.length_cons, List.length_nil, List.length_take, List.length_set, List.length_replicate, Bool.not_true, Bool.not_false, decide_true, decide_false, BEq.rfl, bne_self_eq_false, tf_beq, ft_beq, tf_bne, ft_bne, not_true_eq_false, not_false_eq_true, app]
  simp only [e1, e2]
  refine Lp_fn (σ := Nat × (Nat → Int)) (fun s => [v, cv, Iv (a : Nat), Iv 0, Iv (n : Nat), Iv ((H : Int) - (s.1 : Nat))]) (fun s h' => s.1 ≤ H + 1 ∧ Own h' v (arr m s.2) bs ∧ Pm a (a + n) f s.2 ∧ MHp L (H + 1 - s.1) n (fun k => s.2 (a + k)) ∧ Fr bs h h') (fun s => H + 1 - s.1) (0, f) (by simp) (fun _ => rfl) ⟨Nat.zero_le _, w, .refl, fun j j0 jh jl => by simp only at jl; omega, Fr.refl _ _⟩ ?_
  rintro ⟨j, g⟩ h1 ⟨hj, w1, p1, s1, f1⟩ X hX
  simp only at hj w1 p1 s1
  by_cases c1 : (H : Int) - (j : Nat) ≥ 0
  · try simp (disch := first | assumption | omega | (apply At.mk; with_unfolding_all rfl)) only [↓go_eq, ↓ent_eq, Mv, NilC_at, Fld_at, add_mk, Nat.zero_add, Nat.add_zero, Add64, Sub64, Mul64, Quo64, Rem64, Neg64, Cvt64, CvtU8, CvtU16, CvtU32, CvtU64, AddU64, SubU64, MulU64, Shr64, Shr_u8, Shr_u16, Shr_u32, Shr_u64, And1, And31, And32, Eql64, Neq64, Bin_lss, Bin_leq, Bin_gtr, Bin_geq, Bin_bool_eql, Bin_bool_neq, Bin_ptr_nil_eql, Bin_ptr_nil_neq, Not_dec, Un_not, Pick_t, Pick_f, Pick_pos, Pick_neg, Gd_tt, Gd_tf, Gd_ft, Gd_ff, Gd_pos_t, Gd_neg_t, Gd_pos_f, Gd_neg_f, Gd_undef, If_t, If_f, If_pos, If_neg, CallF_eq, Max_two, Min_two, Len_rd, Len_own, Ld_blkE, Idx_rdN, Idx_ownN, Idx_rdE, Idx_ownE, IdxAE, LdA_two, Idx_at0, Ext_atE, Len_at, Int.toNat_natCast, Int.toNat_zero, Int.toNat_one, List.length_map, List.length_append, List.length_cons, List.length_nil, List.length_take, List.length_set, List.length_replicate, Bool.not_true, Bool.not_false, decide_true, decide_false, BEq.rfl, bne_self_eq_false, tf_beq, ft_beq, tf_bne, ft_bne, not_true_eq_false, not_false_eq_true, app]
    rw [show (H : Int) - (j : Nat) = ((H - j : Nat) : Int) by omega]
    refine slices_siftDownCmpFunc_int.spec (lo := H - j) (hi := n) (c := a) o hc hok hb hm (by omega) (p1.all hD) w1 (hok _ _ h0 f1) ⟨fun k k0 kh kl kn => s1 k k0 kh (by omega), fun k k0 kh kp r0 rl => by omega⟩ fun h2 g2 w2 p2 s2 f2 => ?_
    try simp (disch := first | assumption | omega | (apply At.mk; with_unfolding_all rfl)) only [↓go_eq, ↓ent_eq, Mv, NilC_at, Fld_at, add_mk, Nat.zero_add, Nat.add_zero, Add64, Sub64, Mul64, Quo64, Rem64, Neg64, Cvt64, CvtU8, CvtU16, CvtU32, CvtU64, AddU64, SubU64, MulU64, Shr64, Shr_u8, Shr_u16, Shr_u32, Shr_u64, And1, And31, And32, Eql64, Neq64, Bin_lss, Bin_leq, Bin_gtr, Bin_geq, Bin_bool_eql, Bin_bool_neq, Bin_ptr_nil_eql, Bin_ptr_nil_neq, Not_dec, Un_not, Pick_t, Pick_f, Pick_pos, Pick_neg, Gd_tt, Gd_tf, Gd_ft, Gd_ff, Gd_pos_t, Gd_neg_t, Gd_pos_f, Gd_neg_f, Gd_undef, If_t, If_f, If_pos, If_neg, CallF_eq, Max_two, Min_two, Len_rd, Len_own, Ld_blkE, Idx_rdN, Idx_ownN, Idx_rdE, Idx_ownE, IdxAE, LdA_two, Idx_at0, Ext_atE, Len_at, Int.toNat_natCast, Int.toNat_zero, Int.toNat_one, List.length_map, List.length_append, List.length_cons, List.length_nil, List.length_take, List.length_set, List.length_replicate, Bool.not_true, Bool.not_false, decide_true, decide_false, BEq.rfl, bne_self_eq_false, tf_beq, ft_beq, tf_bne, ft_bne, not_true_eq_false, not_false_eq_true, app]
    have := hX (j + 1, g2) h2 ⟨by simp only; omega, w2, p1.trans p2, by simp only; rw [show H + 1 - (j + 1) = H - j by omega]; exact s2, f1.trans f2⟩ (by simp only; omega)
    simp only at this
    rw [show (H : Int) - ((j + 1 : Nat) : Int) = ((H - j : Nat) : Int) - 1 by omega] at this
    exact this
  · have ej : j = H + 1 := by omega
    subst ej
    rw [Nat.sub_self] at s1
    try simp (disch := first | assumption | omega | (apply At.mk; with_unfolding_all rfl)) only [↓go_eq, ↓ent_eq, Mv, NilC_at, Fld_at, add_mk, Nat.zero_add, Nat.add_zero, Add64, Sub64, Mul64, Quo64, Rem64, Neg64, Cvt64, CvtU8, CvtU16, CvtU32, CvtU64, AddU64, SubU64, MulU64, Shr64, Shr_u8, Shr_u16, Shr_u32, Shr_u64, And1, And31, And32, Eql64, Neq64, Bin_lss, Bin_leq, Bin_gtr, Bin_geq, Bin_bool_eql, Bin_bool_neq, Bin_ptr_nil_eql, Bin_ptr_nil_neq, Not_dec, Un_not, Pick_t, Pick_f, Pick_pos, Pick_neg, Gd_tt, Gd_tf, Gd_ft, Gd_ff, Gd_pos_t, Gd_neg_t, Gd_pos_f, Gd_neg_f, Gd_undef, If_t, If_f, If_pos, If_neg, CallF_eq, Max_two, Min_two, Len_rd, Len_own, Ld_blkE, Idx_rdN, Idx_ownN, Idx_rdE, Idx_ownE, IdxAE, LdA_two, Idx_at0, Ext_atE, Len_at, Int.toNat_natCast, Int.toNat_zero, Int.toNat_one, List.length_map, List.length_append, List.length_cons, List.length_nil, List.length_take, List.length_set, List.length_replicate, Bool.not_true, Bool.not_false, decide_true, decide_false, BEq.rfl, bne_self_eq_false, tf_beq, ft_beq, tf_bne, ft_bne, not_true_eq_false, not_false_eq_true, app]
    clear hX X
    refine Lp_fn (σ := Nat × (Nat → Int)) (fun s => [v, cv, Iv (a : Nat), Iv 0, Iv ((n : Int) - 1 - (s.1 : Nat))]) (fun s h' => s.1 ≤ n ∧ Own h' v (arr m s.2) bs ∧ Pm a (a + n) f s.2 ∧ MHp L 0 (n - s.1) (fun k => s.2 (a + k)) ∧ Srt L (a + (n - s.1)) (a + n) s.2 ∧ (∀ p q, p < n - s.1 → n - s.1 ≤ q → q < n → ¬ L (s.2 (a + q)) (s.2 (a + p))) ∧ Fr bs h h') (fun s => n - s.1) (0, g) (by simp) (fun _ => rfl)
      ⟨Nat.zero_le _, w1, p1, s1, fun i j h1 h2 h3 => by simp only at h1; omega, fun p q h1 h2 h3 => by simp only at h2; omega, f1⟩ ?_
    clear w1 p1 s1 f1 hj c1
    rintro ⟨j, g⟩ h2 ⟨hj, w2, p2, s2, r2, t2, f2⟩ Y hY
    simp only at hj w2 p2 s2 r2 t2
    by_cases c2 : (n : Int) - 1 - (j : Nat) ≥ 0
    · obtain ⟨i, hi⟩ : ∃ i, n - j = i + 1 := ⟨n - j - 1, by omega⟩
      have ei : (n : Int) - 1 - (j : Nat) = (i : Nat) := by omega
      have et : ((a : Int) + (i : Nat)).toNat = a + i := by omega
      have a1 := arr_at g (show a + i < m by omega)
      have a0 := arr_at g (show a < m by omega)
      rw [← et] at a1
      simp only [ei]
      have ci : (i : Int) ≥ 0 := by omega
      try simp (disch := first | assumption | omega | (apply At.mk; with_unfolding_all rfl)) only [↓go_eq, ↓ent_eq, Mv, NilC_at, Fld_at, add_mk, Nat.zero_add, Nat.add_zero, Add64, Sub64, Mul64, Quo64, Rem64, Neg64, Cvt64, CvtU8, CvtU16, CvtU32, CvtU64, AddU64, SubU64, MulU64, Shr64, Shr_u8, Shr_u16, Shr_u32, Shr_u64, And1, And31, And32, Eql64, Neq64, Bin_lss, Bin_leq, Bin_gtr, Bin_geq, Bin_bool_eql, Bin_bool_neq, Bin_ptr_nil_eql, Bin_ptr_nil_neq, Not_dec, Un_not, Pick_t, Pick_f, Pick_pos, Pick_neg, Gd_tt, Gd_tf, Gd_ft, Gd_ff, Gd_pos_t, Gd_neg_t, Gd_pos_f, Gd_neg_f, Gd_undef, If_t, If_f, If_pos, If_neg, CallF_eq, Max_two, Min_two, Len_rd, Len_own, Ld_blkE, Idx_rdN, Idx_ownN, Idx_rdE, Idx_ownE, IdxAE, LdA_two, Idx_at0, Ext_atE, Len_at, Int.toNat_natCast, Int.toNat_zero, Int.toNat_one, List.length_map, List.length_append, List.length_cons, List.length_nil, List.length_take, List.length_set, List.length_replicate, Bool.not_true, Bool.not_false, decide_true, decide_false, BEq.rfl, bne_self_eq_false, tf_beq, ft_beq, tf_bne, ft_bne, not_true_eq_false, not_false_eq_true, app]
      rw [et, show (a : Int) + (i : Nat) = ((a + i : Nat) : Int) by omega]
      refine swap2 (i := a) (j := a + i) w2 (by omega) (by omega) fun h3 w3 f3 => ?_
      try simp (disch := first | assumption | omega | (apply At.mk; with_unfolding_all rfl)) only [↓go_eq, ↓ent_eq, Mv, NilC_at, Fld_at, add_mk, Nat.zero_add, Nat.add_zero, Add64, Sub64, Mul64, Quo64, Rem64, Neg64, Cvt64, CvtU8, CvtU16, CvtU32, CvtU64, AddU64, SubU64, MulU64, Shr64, Shr_u8, Shr_u16, Shr_u32, Shr_u64, And1, And31, And32, Eql64, Neq64, Bin_lss, Bin_leq, Bin_gtr, Bin_geq, Bin_bool_eql, Bin_bool_neq, Bin_ptr_nil_eql, Bin_ptr_nil_neq, Not_dec, Un_not, Pick_t, Pick_f, Pick_pos, Pick_neg, Gd_tt, Gd_tf, Gd_ft, Gd_ff, Gd_pos_t, Gd_neg_t, Gd_pos_f, Gd_neg_f, Gd_undef, If_t, If_f, If_pos, If_neg, CallF_eq, Max_two, Min_two, Len_rd, Len_own, Ld_blkE, Idx_rdN, Idx_ownN, Idx_rdE, Idx_ownE, IdxAE, LdA_two, Idx_at0, Ext_atE, Len_at, Int.toNat_natCast, Int.toNat_zero, Int.toNat_one, List.length_map, List.length_append, List.length_cons, List.length_nil, List.length_take, List.length_set, List.length_replicate, Bool.not_true, Bool.not_false, decide_true, decide_false, BEq.rfl, bne_self_eq_false, tf_beq, ft_beq, tf_bne, ft_bne, not_true_eq_false, not_false_eq_true, app]
      rw [hi] at s2 r2 t2
      have tp := mhp_top o s2
      have pst := p2.step a (a + i) (Nat.le_refl _) (by omega) (by omega) (by omega)
      refine slices_siftDownCmpFunc_int.spec (lo := 0) (hi := i) (c := a) o hc hok (by omega) hm (by omega) (fun k k1 k2 => pst.all hD k k1 (by omega)) w3 (hok _ _ h0 (f2.trans f3)) ⟨fun k k0 kh _ kn => ?_, fun k k0 kh kp r0 rl => by omega⟩ fun h4 g4 w4 p4 s4 f4 => ?_
      · show ¬ L (swp g a (a + i) (a + (k - 1) / 2)) (swp g a (a + i) (a + k))
        rw [swp_ne (by omega) (by omega), swp_ne (by omega) (by omega)]
        exact s2 k k0 (by omega) (Nat.zero_le _)
      · have out : ∀ q, i ≤ q → g4 (a + q) = swp g a (a + i) (a + q) := fun q hq => p4.out (a + q) (.inr (by omega))
        have g4i : g4 (a + i) = g a := by rw [out i (Nat.le_refl _), swp_j]
        have g4q : ∀ q, i < q → g4 (a + q) = g (a + q) := fun q hq => by rw [out q (by omega), swp_ne (by omega) (by omega)]
        have low : ∀ u : Int, (∀ p, p < i + 1 → ¬ L u (g (a + p))) → ∀ p, p < i → ¬ L u (g4 (a + p)) := fun u hu p hp => by
          refine p4.all (Q := fun z => ¬ L u z) (fun k k1 k2 => ?_) (a + p) (by omega) (by omega)
          by_cases e : k = a
          · subst e; rw [swp_i]; exact hu i (by omega)
          · rw [swp_ne e (by omega)]
            have := hu (k - a) (by omega)
            rwa [show a + (k - a) = k by omega] at this
        try simp (disch := first | assumption | omega | (apply At.mk; with_unfolding_all rfl)) only [↓go_eq, ↓ent_eq, Mv, NilC_at, Fld_at, add_mk, Nat.zero_add, Nat.add_zero, Add64, Sub64, Mul64, Quo64, Rem64, Neg64, Cvt64, CvtU8, CvtU16, CvtU32, CvtU64, AddU64, SubU64, MulU64, Shr64, Shr_u8, Shr_u16, Shr_u32, Shr_u64, And1, And31, And32, Eql64, Neq64, Bin_lss, Bin_leq, Bin_gtr, Bin_geq, Bin_bool_eql, Bin_bool_neq, Bin_ptr_nil_eql, Bin_ptr_nil_neq, Not_dec, Un_not, Pick_t, Pick_f, Pick_pos, Pick_neg, Gd_tt, Gd_tf, Gd_ft, Gd_ff, Gd_pos_t, Gd_neg_t, Gd_pos_f, Gd_neg_f, Gd_undef, If_t, If_f, If_pos, If_neg, CallF_eq, Max_two, Min_two, Len_rd, Len_own, Ld_blkE, Idx_rdN, Idx_ownN, Idx_rdE, Idx_ownE, IdxAE, LdA_two, Idx_at0, Ext_atE, Len_at, Int.toNat_natCast, Int.toNat_zero, Int.toNat_one, List.length_map, List.length_append, List.length_cons, List.length_nil, List.length_take, List.length_set, List.length_replicate, Bool.not_true, Bool.not_false, decide_true, decide_false, BEq.rfl, bne_self_eq_false, tf_beq, ft_beq, tf_bne, ft_bne, not_true_eq_false, not_false_eq_true, app]
        have := hY (j + 1, g4) h4 ⟨by simp only; omega, w4, pst.trans (p4.mono (Nat.le_refl _) (by omega)), by simp only; rw [show n - (j + 1) = i by omega]; exact s4, ?_, ?_, (f2.trans f3).trans f4⟩ (by simp only; omega)
        · simp only at this
          rw [show (n : Int) - 1 - ((j + 1 : Nat) : Int) = (i : Int) - 1 by omega] at this
          exact this
        · simp only
          rw [show n - (j + 1) = i by omega]
          intro x y hx hxy hy
          obtain ⟨y', rfl⟩ : ∃ y', y = a + y' := ⟨y - a, by omega⟩
          rw [g4q y' (by omega)]
          by_cases e : x = a + i
          · rw [e, g4i]
            have := t2 0 y' (by omega) (by omega) (by omega)
            exact this
          · obtain ⟨x', rfl⟩ : ∃ x', x = a + x' := ⟨x - a, by omega⟩
            rw [g4q x' (by omega)]
            exact r2 _ _ (by omega) hxy hy
        · simp only
          rw [show n - (j + 1) = i by omega]
          intro p q hp hq hqn
          refine low _ (fun p' hp' => ?_) p hp
          by_cases e : q = i
          · rw [e, g4i]
            exact tp p' hp'
          · rw [g4q q (by omega)]
            exact t2 p' q hp' (by omega) hqn
    · have ej : j = n := by omega
      subst ej
      rw [Nat.sub_self, Nat.add_zero] at r2
      try simp (disch := first | assumption | omega | (apply At.mk; with_unfolding_all rfl)) only [↓go_eq, ↓ent_eq, Mv, NilC_at, Fld_at, add_mk, Nat.zero_add, Nat.add_zero, Add64, Sub64, Mul64, Quo64, Rem64, Neg64, Cvt64, CvtU8, CvtU16, CvtU32, CvtU64, AddU64, SubU64, MulU64, Shr64, Shr_u8, Shr_u16, Shr_u32, Shr_u64, And1, And31, And32, Eql64, Neq64, Bin_lss, Bin_leq, Bin_gtr, Bin_geq, Bin_bool_eql, Bin_bool_neq, Bin_ptr_nil_eql, Bin_ptr_nil_neq, Not_dec, Un_not, Pick_t, Pick_f, Pick_pos, Pick_neg, Gd_tt, Gd_tf, Gd_ft, Gd_ff, Gd_pos_t, Gd_neg_t, Gd_pos_f, Gd_neg_f, Gd_undef, If_t, If_f, If_pos, If_neg, CallF_eq, Max_two, Min_two, Len_rd, Len_own, Ld_blkE, Idx_rdN, Idx_ownN, Idx_rdE, Idx_ownE, IdxAE, LdA_two, Idx_at0, Ext_atE, Len_at, Int.toNat_natCast, Int.toNat_zero, Int.toNat_one, List.length_map, List.length_append, List.length_cons, List.length_nil, List.length_take, List.length_set, List.length_replicate, Bool.not_true, Bool.not_false, decide_true, decide_false, BEq.rfl, bne_self_eq_false, tf_beq, ft_beq, tf_bne, ft_bne, not_true_eq_false, not_false_eq_true, app]
      exact hk h2 g w2 p2 r2 f2
end
end So
end Go.Proofs.Ytjedohcphkdekaa
