/- Parting off what is like the pivot, with a comparison handed in. Conditions: those typed ahead of each theorem. -/
import Derived.Test.YtjedohcphkdekaaSo5
namespace Go.Proofs.Ytjedohcphkdekaa
open Go.Pt
set_option linter.unusedVariables false
set_option linter.unusedSimpArgs false
namespace So
structure EqI (L : Int → Int → Prop) (a b i j : Nat) (pv : Int) (g : Nat → Int) : Prop where
  hi : a + 1 ≤ i
  hj : j < b
  hij : i ≤ j + 1
  pa : g a = pv
  lo : ∀ k, a < k → k < i → ¬ L pv (g k)
  up : ∀ k, j < k → k < b → L pv (g k)
def Alike (L : Int → Int → Prop) (a b mid : Nat) (g : Nat → Int) : Prop := a < mid ∧ mid ≤ b ∧ (∀ k, a ≤ k → k < mid → ¬ L (g a) (g k)) ∧ ∀ k, mid ≤ k → k < b → L (g a) (g k)
section
variable {L : Int → Int → Prop} {a b i j : Nat} {pv : Int} {g : Nat → Int}
theorem EqI.start (hab : a < b) (pa : g a = pv) : EqI L a b (a + 1) (b - 1) pv g := ⟨Nat.le_refl _, by omega, by omega, pa, fun k h1 h2 => by omega, fun k h1 h2 => by omega⟩
theorem EqI.incr (q : EqI L a b i j pv g) (h : i ≤ j) (hL : ¬ L pv (g i)) : EqI L a b (i + 1) j pv g :=
  ⟨by have := q.hi; omega, q.hj, by omega, q.pa, fun k h1 h2 => by rcases Nat.lt_or_ge k i with x | x; exact q.lo k h1 x; rw [show k = i by omega]; exact hL, q.up⟩
theorem EqI.decr (q : EqI L a b i j pv g) (h : i ≤ j) (hL : L pv (g j)) : EqI L a b i (j - 1) pv g :=
  ⟨q.hi, by have := q.hj; omega, by have := q.hi; omega, q.pa, q.lo, fun k h1 h2 => by rcases Nat.lt_or_ge j k with x | x; exact q.up k x h2; rw [show k = j by omega]; exact hL⟩
theorem EqI.swap (q : EqI L a b i j pv g) (h : i ≤ j) (h1 : L pv (g i)) (h2 : ¬ L pv (g j)) : EqI L a b (i + 1) (j - 1) pv (swp g i j) := by
  have hne : i ≠ j := fun e => h2 (e ▸ h1)
  have hi := q.hi
  refine ⟨by omega, by have := q.hj; omega, by omega, by rw [swp_ne (by omega) (by omega)]; exact q.pa, fun k k1 k2 => ?_, fun k k1 k2 => ?_⟩
  · by_cases e : k = i
    · subst e; rw [swp_i]; exact h2
    · rw [swp_ne e (by omega)]; exact q.lo k k1 (by omega)
  · by_cases e : k = j
    · subst e; rw [swp_j]; exact h1
    · rw [swp_ne (by omega) e]; exact q.up k (by omega) k2
theorem EqI.done (o : Ord L) (q : EqI L a b i j pv g) (h : j < i) : Alike L a b i g := by
  have hi := q.hi
  have hij := q.hij
  have hj := q.hj
  refine ⟨by omega, by omega, fun k k1 k2 => ?_, fun k k1 k2 => ?_⟩
  · rw [q.pa]
    by_cases e : k = a
    · rw [e, q.pa]; exact o.irr _
    · exact q.lo k (by omega) k2
  · rw [q.pa]; exact q.up k (by omega) k2
end
/-- The second search of a round, and what follows (the printed text). -/
def rest3 (X1 : Cur 5) (t0 t1 t4 t11 t12 : Value) (K : Ret) (h : Heap) : Prop :=
Lp 5 (fun X3 t0_3 t1_3 t4_3 t11_2 t12_2 h =>
 go (Bin .int .leq t11_2 t12_2) h fun t52 h =>
 go (Gd t52 true (Mv t4_3)) h fun t54 h =>
 go (Gd t52 true (Mv t0_3)) h fun t55 h =>
 go (Gd t52 true (Mv t1_3)) h fun t56 h =>
 go (Gd t52 true (Idx 1 t55 t56)) h fun t57 h =>
 go (Gd t52 true (Ld t57)) h fun t58 h =>
 go (Gd t52 true (Mv t0_3)) h fun t59 h =>
 go (Gd t52 true (Mv t12_2)) h fun t60 h =>
 go (Gd t52 true (Idx 1 t59 t60)) h fun t61 h =>
 go (Gd t52 true (Ld t61)) h fun t62 h =>
 go (Gd t52 true (CallV Try.prog t54 [t58, t62])) h fun t63 h =>
 go (Gd t52 true (Bin .int .lss t63 (.int .i64 0))) h fun t64 h =>
 go (Pick t52 t64 (.bool false)) h fun t65 h =>
 If t65 (
 go (Bin .int .sub t12_2 (.int .i64 1)) h fun t67 h =>
 X3 t0_3 t1_3 t4_3 t11_2 t67 h) (
 go (Bin .int .gtr t11_2 t12_2) h fun t70 h =>
 If t70 (
 K t11_2 h) (
 go (Idx 1 t0_3 t12_2) h fun t77 h =>
 go (Ld t77) h fun t78 h =>
 go (Idx 1 t0_3 t11_2) h fun t81 h =>
 go (Ld t81) h fun t82 h =>
 go (Idx 1 t0_3 t11_2) h fun t83 h =>
 go (St t83 t78) h fun _ h =>
 go (Idx 1 t0_3 t12_2) h fun t84 h =>
 go (St t84 t82) h fun _ h =>
 go (Bin .int .add t11_2 (.int .i64 1)) h fun t86 h =>
 go (Bin .int .sub t12_2 (.int .i64 1)) h fun t88 h =>
 X1 t0_3 t1_3 t4_3 t86 t88 h))) [t0, t1, t4, t11, t12] h
section
variable {K : Ret} {h : Heap} {v cv : Value} {bs : List Nat} {m : Nat} {L : Int → Int → Prop} [DecidableRel L] {ok : Heap → Prop} {D : Int → Prop}
set_option maxHeartbeats 8000000 in
theorem part3 {a b : Nat} {f : Nat → Int} {pv : Int} (o : Ord L) (hc : Cmp L cv ok D) (hok : ∀ h h', ok h → Fr bs h h' → ok h') (hab : a < b) (hb : b ≤ m) (hm : m ≤ 1000000000) (hD : ∀ k, a ≤ k → k < b → D (f k)) (h0 : ok h)
    (hk : ∀ h' g mid, Own h' v (arr m g) bs → Pm a b f g → g a = pv → Alike L a b mid g → Fr bs h h' → K (Iv (mid : Nat)) h') {i j : Nat} {g : Nat → Int} {h2 : Heap} (w2 : Own h2 v (arr m g) bs) (p2 : Pm a b f g) (q2 : EqI L a b i j pv g) (f2 : Fr bs h h2) (hx : i ≤ j → L pv (g i)) {X1 : Cur 5}
    (hX : ∀ i' j' g' h', Own h' v (arr m g') bs → Pm a b f g' → EqI L a b i' j' pv g' → Fr bs h h' → j' + 1 - i' < j + 1 - i → app 5 X1 [v, Iv (a : Nat), cv, Iv (i' : Nat), Iv (j' : Nat)] h') : rest3 X1 v (Iv (a : Nat)) cv (Iv (i : Nat)) (Iv (j : Nat)) K h2 := by
  unfold rest3
  refine Lp_fn (σ := Nat) (fun s => [v, Iv (a : Nat), cv, Iv (i : Nat), Iv (s : Nat)]) (fun s h' => h2 = h' ∧ s ≤ j ∧ EqI L a b i s pv g) (fun s => s) j rfl (fun _ => rfl) ⟨rfl, Nat.le_refl _, q2⟩ ?_
  rintro s _ ⟨rfl, hs, q⟩ Y hY
  have b1 := q.hi
  have b2 := q.hj
  have b3 := q.hij
  have ai := arr_at g (show a < m by omega)
  have aJ := arr_at g (show s < m by omega)
  have D2 := p2.all hD
  have ok2 := hok _ _ h0 f2
  by_cases c1 : (i : Int) ≤ (s : Nat)
  · try simp (disch := first | assumption | omega | (apply At.mk; with_unfolding_all rfl)) only [↓go_eq, ↓ent_eq, Mv, NilC_at, Fld_at, add_mk, Nat.zero_add, Nat.add_zero, Add64, Sub64, Mul64, Quo64, Rem64, Neg64, Cvt64, CvtU8, CvtU16, CvtU32, CvtU64, AddU64, SubU64, MulU64, Shr64, Shr_u8, Shr_u16, Shr_u32, Shr_u64, And1, And31, And32, Eql64, Neq64, Bin_lss, Bin_leq, Bin_gtr, Bin_geq, Bin_bool_eql, Bin_bool_neq, Bin_ptr_nil_eql, Bin_ptr_nil_neq, Not_dec, Un_not, Pick_t, Pick_f, Pick_pos, Pick_neg, Gd_tt, Gd_tf, Gd_ft, Gd_ff, Gd_pos_t, Gd_neg_t, Gd_pos_f, Gd_neg_f, Gd_undef, If_t, If_f, If_pos, If_neg, CallF_eq, Max_two, Min_two, Len_rd, Len_own, Ld_blkE, Idx_rdN, Idx_ownN, Idx_rdE, Idx_ownE, IdxAE, LdA_two, Idx_at0, Ext_atE, Len_at, Int.toNat_natCast, Int.toNat_zero, Int.toNat_one, List.length_map, List.length_append, List.length_cons, List.length_nil, List.length_take, List.length_set, List.length_replicate, Bool.not_true, Bool.not_false, decide_true, decide_false, BEq.rfl, bne_self_eq_false, tf_beq, ft_beq, tf_bne, ft_bne, not_true_eq_false, not_false_eq_true, app]
    refine hc _ _ _ _ ok2 (D2 _ (by omega) (by omega)) (D2 _ (by omega) (by omega)) fun r hr => ?_
    rw [q.pa] at hr
    by_cases c2 : r < 0
    · try simp (disch := first | assumption | omega | (apply At.mk; with_unfolding_all rfl)) only [↓go_eq, ↓ent_eq, Mv, NilC_at, Fld_at, add_mk, Nat.zero_add, Nat.add_zero, Add64, Sub64, Mul64, Quo64, Rem64, Neg64, Cvt64, CvtU8, CvtU16, CvtU32, CvtU64, AddU64, SubU64, MulU64, Shr64, Shr_u8, Shr_u16, Shr_u32, Shr_u64, And1, And31, And32, Eql64, Neq64, Bin_lss, Bin_leq, Bin_gtr, Bin_geq, Bin_bool_eql, Bin_bool_neq, Bin_ptr_nil_eql, Bin_ptr_nil_neq, Not_dec, Un_not, Pick_t, Pick_f, Pick_pos, Pick_neg, Gd_tt, Gd_tf, Gd_ft, Gd_ff, Gd_pos_t, Gd_neg_t, Gd_pos_f, Gd_neg_f, Gd_undef, If_t, If_f, If_pos, If_neg, CallF_eq, Max_two, Min_two, Len_rd, Len_own, Ld_blkE, Idx_rdN, Idx_ownN, Idx_rdE, Idx_ownE, IdxAE, LdA_two, Idx_at0, Ext_atE, Len_at, Int.toNat_natCast, Int.toNat_zero, Int.toNat_one, List.length_map, List.length_append, List.length_cons, List.length_nil, List.length_take, List.length_set, List.length_replicate, Bool.not_true, Bool.not_false, decide_true, decide_false, BEq.rfl, bne_self_eq_false, tf_beq, ft_beq, tf_bne, ft_bne, not_true_eq_false, not_false_eq_true, app]
      try rw [decide_eq_true c2]
      try simp (disch := first | assumption | omega | (apply At.mk; with_unfolding_all rfl)) only [↓go_eq, ↓ent_eq, Mv, NilC_at, Fld_at, add_mk, Nat.zero_add, Nat.add_zero, Add64, Sub64, Mul64, Quo64, Rem64, Neg64, Cvt64, CvtU8, CvtU16, CvtU32, CvtU64, AddU64, SubU64, MulU64, Shr64, Shr_u8, Shr_u16, Shr_u32, Shr_u64, And1, And31, And32, Eql64, Neq64, Bin_lss, Bin_leq, Bin_gtr, Bin_geq, Bin_bool_eql, Bin_bool_neq, Bin_ptr_nil_eql, Bin_ptr_nil_neq, Not_dec, Un_not, Pick_t, Pick_f, Pick_pos, Pick_neg, Gd_tt, Gd_tf, Gd_ft, Gd_ff, Gd_pos_t, Gd_neg_t, Gd_pos_f, Gd_neg_f, Gd_undef, If_t, If_f, If_pos, If_neg, CallF_eq, Max_two, Min_two, Len_rd, Len_own, Ld_blkE, Idx_rdN, Idx_ownN, Idx_rdE, Idx_ownE, IdxAE, LdA_two, Idx_at0, Ext_atE, Len_at, Int.toNat_natCast, Int.toNat_zero, Int.toNat_one, List.length_map, List.length_append, List.length_cons, List.length_nil, List.length_take, List.length_set, List.length_replicate, Bool.not_true, Bool.not_false, decide_true, decide_false, BEq.rfl, bne_self_eq_false, tf_beq, ft_beq, tf_bne, ft_bne, not_true_eq_false, not_false_eq_true, app]
      try rw [show (s : Int) - 1 = ((s - 1 : Nat) : Int) by omega]
      exact hY (s - 1) h2 ⟨rfl, by omega, q.decr (by omega) (hr.1 c2)⟩ (by omega)
    · have c3 : ¬ ((i : Int) > (s : Nat)) := by omega
      have aI := arr_at g (show i < m by omega)
      have nI := hx (by omega)
      try simp (disch := first | assumption | omega | (apply At.mk; with_unfolding_all rfl)) only [↓go_eq, ↓ent_eq, Mv, NilC_at, Fld_at, add_mk, Nat.zero_add, Nat.add_zero, Add64, Sub64, Mul64, Quo64, Rem64, Neg64, Cvt64, CvtU8, CvtU16, CvtU32, CvtU64, AddU64, SubU64, MulU64, Shr64, Shr_u8, Shr_u16, Shr_u32, Shr_u64, And1, And31, And32, Eql64, Neq64, Bin_lss, Bin_leq, Bin_gtr, Bin_geq, Bin_bool_eql, Bin_bool_neq, Bin_ptr_nil_eql, Bin_ptr_nil_neq, Not_dec, Un_not, Pick_t, Pick_f, Pick_pos, Pick_neg, Gd_tt, Gd_tf, Gd_ft, Gd_ff, Gd_pos_t, Gd_neg_t, Gd_pos_f, Gd_neg_f, Gd_undef, If_t, If_f, If_pos, If_neg, CallF_eq, Max_two, Min_two, Len_rd, Len_own, Ld_blkE, Idx_rdN, Idx_ownN, Idx_rdE, Idx_ownE, IdxAE, LdA_two, Idx_at0, Ext_atE, Len_at, Int.toNat_natCast, Int.toNat_zero, Int.toNat_one, List.length_map, List.length_append, List.length_cons, List.length_nil, List.length_take, List.length_set, List.length_replicate, Bool.not_true, Bool.not_false, decide_true, decide_false, BEq.rfl, bne_self_eq_false, tf_beq, ft_beq, tf_bne, ft_bne, not_true_eq_false, not_false_eq_true, app]
      try rw [decide_eq_false c2]
      try simp (disch := first | assumption | omega | (apply At.mk; with_unfolding_all rfl)) only [↓go_eq, ↓ent_eq, Mv, NilC_at, Fld_at, add_mk, Nat.zero_add, Nat.add_zero, Add64, Sub64, Mul64, Quo64, Rem64, Neg64, Cvt64, CvtU8, CvtU16, CvtU32, CvtU64, AddU64, SubU64, MulU64, Shr64, Shr_u8, Shr_u16, Shr_u32, Shr_u64, And1, And31, And32, Eql64, Neq64, Bin_lss, Bin_leq, Bin_gtr, Bin_geq, Bin_bool_eql, Bin_bool_neq, Bin_ptr_nil_eql, Bin_ptr_nil_neq, Not_dec, Un_not, Pick_t, Pick_f, Pick_pos, Pick_neg, Gd_tt, Gd_tf, Gd_ft, Gd_ff, Gd_pos_t, Gd_neg_t, Gd_pos_f, Gd_neg_f, Gd_undef, If_t, If_f, If_pos, If_neg, CallF_eq, Max_two, Min_two, Len_rd, Len_own, Ld_blkE, Idx_rdN, Idx_ownN, Idx_rdE, Idx_ownE, IdxAE, LdA_two, Idx_at0, Ext_atE, Len_at, Int.toNat_natCast, Int.toNat_zero, Int.toNat_one, List.length_map, List.length_append, List.length_cons, List.length_nil, List.length_take, List.length_set, List.length_replicate, Bool.not_true, Bool.not_false, decide_true, decide_false, BEq.rfl, bne_self_eq_false, tf_beq, ft_beq, tf_bne, ft_bne, not_true_eq_false, not_false_eq_true, app]
      refine swap2 (i := i) (j := s) w2 (by omega) (by omega) fun h3 w3 f3 => ?_
      try simp (disch := first | assumption | omega | (apply At.mk; with_unfolding_all rfl)) only [↓go_eq, ↓ent_eq, Mv, NilC_at, Fld_at, add_mk, Nat.zero_add, Nat.add_zero, Add64, Sub64, Mul64, Quo64, Rem64, Neg64, Cvt64, CvtU8, CvtU16, CvtU32, CvtU64, AddU64, SubU64, MulU64, Shr64, Shr_u8, Shr_u16, Shr_u32, Shr_u64, And1, And31, And32, Eql64, Neq64, Bin_lss, Bin_leq, Bin_gtr, Bin_geq, Bin_bool_eql, Bin_bool_neq, Bin_ptr_nil_eql, Bin_ptr_nil_neq, Not_dec, Un_not, Pick_t, Pick_f, Pick_pos, Pick_neg, Gd_tt, Gd_tf, Gd_ft, Gd_ff, Gd_pos_t, Gd_neg_t, Gd_pos_f, Gd_neg_f, Gd_undef, If_t, If_f, If_pos, If_neg, CallF_eq, Max_two, Min_two, Len_rd, Len_own, Ld_blkE, Idx_rdN, Idx_ownN, Idx_rdE, Idx_ownE, IdxAE, LdA_two, Idx_at0, Ext_atE, Len_at, Int.toNat_natCast, Int.toNat_zero, Int.toNat_one, List.length_map, List.length_append, List.length_cons, List.length_nil, List.length_take, List.length_set, List.length_replicate, Bool.not_true, Bool.not_false, decide_true, decide_false, BEq.rfl, bne_self_eq_false, tf_beq, ft_beq, tf_bne, ft_bne, not_true_eq_false, not_false_eq_true, app]
      try rw [show (i : Int) + 1 = ((i + 1 : Nat) : Int) by omega]
      try rw [show (s : Int) - 1 = ((s - 1 : Nat) : Int) by omega]
      exact hX (i + 1) (s - 1) _ h3 w3 (p2.step i s (by omega) (by omega) (by omega) (by omega)) (q.swap (by omega) nI fun x => c2 (hr.2 x)) (f2.trans f3) (by omega)
  · have c3 : (i : Int) > (s : Nat) := by omega
    try simp (disch := first | assumption | omega | (apply At.mk; with_unfolding_all rfl)) only [↓go_eq, ↓ent_eq, Mv, NilC_at, Fld_at, add_mk, Nat.zero_add, Nat.add_zero, Add64, Sub64, Mul64, Quo64, Rem64, Neg64, Cvt64, CvtU8, CvtU16, CvtU32, CvtU64, AddU64, SubU64, MulU64, Shr64, Shr_u8, Shr_u16, Shr_u32, Shr_u64, And1, And31, And32, Eql64, Neq64, Bin_lss, Bin_leq, Bin_gtr, Bin_geq, Bin_bool_eql, Bin_bool_neq, Bin_ptr_nil_eql, Bin_ptr_nil_neq, Not_dec, Un_not, Pick_t, Pick_f, Pick_pos, Pick_neg, Gd_tt, Gd_tf, Gd_ft, Gd_ff, Gd_pos_t, Gd_neg_t, Gd_pos_f, Gd_neg_f, Gd_undef, If_t, If_f, If_pos, If_neg, CallF_eq, Max_two, Min_two, Len_rd, Len_own, Ld_blkE, Idx_rdN, Idx_ownN, Idx_rdE, Idx_ownE, IdxAE, LdA_two, Idx_at0, Ext_atE, Len_at, Int.toNat_natCast, Int.toNat_zero, Int.toNat_one, List.length_map, List.length_append, List.length_cons, List.length_nil, List.length_take, List.length_set, List.length_replicate, Bool.not_true, Bool.not_false, decide_true, decide_false, BEq.rfl, bne_self_eq_false, tf_beq, ft_beq, tf_bne, ft_bne, not_true_eq_false, not_false_eq_true, app]
    exact hk h2 g i w2 p2 q.pa (q.done o (by omega)) f2
set_option maxHeartbeats 8000000 in
theorem slices_partitionEqualCmpFunc_int.spec {a b pi : Nat} {f : Nat → Int} (o : Ord L) (hc : Cmp L cv ok D) (hok : ∀ h h', ok h → Fr bs h h' → ok h') (hab : a < b) (hb : b ≤ m) (hp : a ≤ pi ∧ pi < b) (hm : m ≤ 1000000000) (hD : ∀ k, a ≤ k → k < b → D (f k)) (w : Own h v (arr m f) bs) (h0 : ok h)
    (hk : ∀ h' g mid, Own h' v (arr m g) bs → Pm a b f g → g a = f pi → Alike L a b mid g → Fr bs h h' → K (Iv (mid : Nat)) h') : CallH Try.prog slices_partitionEqualCmpFunc_int.id #[v, Iv (a : Nat), Iv (b : Nat), Iv (pi : Nat), cv] K h := by
  refine slices_partitionEqualCmpFunc_int.ok ?_
  simp only [slices_partitionEqualCmpFunc_int.pt]
  have a1 := arr_at f (show pi < m by omega)
  have a2 := arr_at f (show a < m by omega)
  try simp (disch := first | assumption | omega | (apply At.mk; with_unfolding_all rfl)) only [↓go_eq, ↓ent_eq, Mv, NilC_at, Fld_at, add_mk, Nat.zero_add, Nat.add_zero, Add64, Sub64, Mul64, Quo64, Rem64, Neg64, Cvt64, CvtU8, CvtU16, CvtU32, CvtU64, AddU64, SubU64, MulU64, Shr64, Shr_u8, Shr_u16, Shr_u32, Shr_u64, And1, And31, And32, Eql64, Neq64, Bin_lss, Bin_leq, Bin_gtr, Bin_geq, Bin_bool_eql, Bin_bool_neq, Bin_ptr_nil_eql, Bin_ptr_nil_neq, Not_dec, Un_not, Pick_t, Pick_f, Pick_pos, Pick_neg, Gd_tt, Gd_tf, Gd_ft, Gd_ff, Gd_pos_t, Gd_neg_t, Gd_pos_f, Gd_neg_f, Gd_undef, If_t, If_f, If_pos, If_neg, CallF_eq, Max_two, Min_two, Len_rd, Len_own, Ld_blkE, Idx_rdN, Idx_ownN, Idx_rdE, Idx_ownE, IdxAE, LdA_two, Idx_at0, Ext_atE, Len_at, Int.toNat_natCast, Int.toNat_zero, Int.toNat_one, List.length_map, List.length_append, List.length_cons, List.length_nil, List.length_take, List.length_set, List.length_replicate, Bool.not_true, Bool.not_false, decide_true, decide_false, BEq.rfl, bne_self_eq_false, tf_beq, ft_beq, tf_bne, ft_bne, not_true_eq_false, not_false_eq_true, app]
  refine swap2 (i := a) (j := pi) w (by omega) (by omega) fun h1 w1 f1 => ?_
  have p1 : Pm a b f (swp f a pi) := Pm.refl.step a pi (Nat.le_refl _) hab hp.1 hp.2
  obtain ⟨pv, hpv⟩ : ∃ pv, f pi = pv := ⟨_, rfl⟩
  rw [hpv] at hk
  have q1 := EqI.start (L := L) (pv := pv) (g := swp f a pi) hab (by rw [swp_i, hpv])
  generalize swp f a pi = g1 at *
  clear a1 a2
  try simp (disch := first | assumption | omega | (apply At.mk; with_unfolding_all rfl)) only [↓go_eq, ↓ent_eq, Mv, NilC_at, Fld_at, add_mk, Nat.zero_add, Nat.add_zero, Add64, Sub64, Mul64, Quo64, Rem64, Neg64, Cvt64, CvtU8, CvtU16, CvtU32, CvtU64, AddU64, SubU64, MulU64, Shr64, Shr_u8, Shr_u16, Shr_u32, Shr_u64, And1, And31, And32, Eql64, Neq64, Bin_lss, Bin_leq, Bin_gtr, Bin_geq, Bin_bool_eql, Bin_bool_neq, Bin_ptr_nil_eql, Bin_ptr_nil_neq, Not_dec, Un_not, Pick_t, Pick_f, Pick_pos, Pick_neg, Gd_tt, Gd_tf, Gd_ft, Gd_ff, Gd_pos_t, Gd_neg_t, Gd_pos_f, Gd_neg_f, Gd_undef, If_t, If_f, If_pos, If_neg, CallF_eq, Max_two, Min_two, Len_rd, Len_own, Ld_blkE, Idx_rdN, Idx_ownN, Idx_rdE, Idx_ownE, IdxAE, LdA_two, Idx_at0, Ext_atE, Len_at, Int.toNat_natCast, Int.toNat_zero, Int.toNat_one, List.length_map, List.length_append, List.length_cons, List.length_nil, List.length_take, List.length_set, List.length_replicate, Bool.not_true, Bool.not_false, decide_true, decide_false, BEq.rfl, bne_self_eq_false, tf_beq, ft_beq, tf_bne, ft_bne, not_true_eq_false, not_false_eq_true, app]
  have e1 : (a : Int) + 1 = ((a + 1 : Nat) : Int) := by omega
  have e2 : (b : Int) - 1 = ((b - 1 : Nat) : Int) := by omega
  simp only [e1, e2]
  refine Lp_fn (σ := Nat × Nat × (Nat → Int)) (fun s => [v, Iv (a : Nat), cv, Iv (s.1 : Nat), Iv (s.2.1 : Nat)]) (fun s h' => Own h' v (arr m s.2.2) bs ∧ Pm a b f s.2.2 ∧ EqI L a b s.1 s.2.1 pv s.2.2 ∧ Fr bs h h') (fun s => s.2.1 + 1 - s.1) (a + 1, b - 1, g1) rfl (fun _ => rfl) ⟨w1, p1, q1, f1⟩ ?_
  clear w1 p1 q1 f1 hpv e1 e2
  rintro ⟨i, j, g⟩ h2 ⟨w2, p2, q2, f2⟩ X hX
  simp only at w2 p2 q2
  refine Lp_fn (σ := Nat) (fun s => [v, Iv (a : Nat), cv, Iv (s : Nat), Iv (j : Nat)]) (fun s h' => h2 = h' ∧ i ≤ s ∧ EqI L a b s j pv g) (fun s => j + 1 - s) i rfl (fun _ => rfl) ⟨rfl, Nat.le_refl _, q2⟩ ?_
  rintro u _ ⟨rfl, hu, q5⟩ W hW
  have b1 := q5.hi
  have b2 := q5.hj
  have b3 := q5.hij
  have ai := arr_at g (show a < m by omega)
  have D4 := p2.all hD
  have ok4 := hok _ _ h0 f2
  have fin : (u ≤ j → L pv (g u)) → rest3 X v (Iv (a : Nat)) cv (Iv (u : Nat)) (Iv (j : Nat)) K h2 := fun hn => part3 o hc hok hab hb hm hD h0 hk w2 p2 q5 f2 hn fun i' j' g' h' w' p' q' f' hlt => hX (i', j', g') h' ⟨w', p', q', f'⟩ (by simp only; omega)
  by_cases c1 : (u : Int) ≤ (j : Nat)
  · have aU := arr_at g (show u < m by omega)
    try simp (disch := first | assumption | omega | (apply At.mk; with_unfolding_all rfl)) only [↓go_eq, ↓ent_eq, Mv, NilC_at, Fld_at, add_mk, Nat.zero_add, Nat.add_zero, Add64, Sub64, Mul64, Quo64, Rem64, Neg64, Cvt64, CvtU8, CvtU16, CvtU32, CvtU64, AddU64, SubU64, MulU64, Shr64, Shr_u8, Shr_u16, Shr_u32, Shr_u64, And1, And31, And32, Eql64, Neq64, Bin_lss, Bin_leq, Bin_gtr, Bin_geq, Bin_bool_eql, Bin_bool_neq, Bin_ptr_nil_eql, Bin_ptr_nil_neq, Not_dec, Un_not, Pick_t, Pick_f, Pick_pos, Pick_neg, Gd_tt, Gd_tf, Gd_ft, Gd_ff, Gd_pos_t, Gd_neg_t, Gd_pos_f, Gd_neg_f, Gd_undef, If_t, If_f, If_pos, If_neg, CallF_eq, Max_two, Min_two, Len_rd, Len_own, Ld_blkE, Idx_rdN, Idx_ownN, Idx_rdE, Idx_ownE, IdxAE, LdA_two, Idx_at0, Ext_atE, Len_at, Int.toNat_natCast, Int.toNat_zero, Int.toNat_one, List.length_map, List.length_append, List.length_cons, List.length_nil, List.length_take, List.length_set, List.length_replicate, Bool.not_true, Bool.not_false, decide_true, decide_false, BEq.rfl, bne_self_eq_false, tf_beq, ft_beq, tf_bne, ft_bne, not_true_eq_false, not_false_eq_true, app]
    refine hc _ _ _ _ ok4 (D4 _ (by omega) (by omega)) (D4 _ (by omega) (by omega)) fun r hr => ?_
    rw [q5.pa] at hr
    by_cases c2 : r < 0
    · try simp (disch := first | assumption | omega | (apply At.mk; with_unfolding_all rfl)) only [↓go_eq, ↓ent_eq, Mv, NilC_at, Fld_at, add_mk, Nat.zero_add, Nat.add_zero, Add64, Sub64, Mul64, Quo64, Rem64, Neg64, Cvt64, CvtU8, CvtU16, CvtU32, CvtU64, AddU64, SubU64, MulU64, Shr64, Shr_u8, Shr_u16, Shr_u32, Shr_u64, And1, And31, And32, Eql64, Neq64, Bin_lss, Bin_leq, Bin_gtr, Bin_geq, Bin_bool_eql, Bin_bool_neq, Bin_ptr_nil_eql, Bin_ptr_nil_neq, Not_dec, Un_not, Pick_t, Pick_f, Pick_pos, Pick_neg, Gd_tt, Gd_tf, Gd_ft, Gd_ff, Gd_pos_t, Gd_neg_t, Gd_pos_f, Gd_neg_f, Gd_undef, If_t, If_f, If_pos, If_neg, CallF_eq, Max_two, Min_two, Len_rd, Len_own, Ld_blkE, Idx_rdN, Idx_ownN, Idx_rdE, Idx_ownE, IdxAE, LdA_two, Idx_at0, Ext_atE, Len_at, Int.toNat_natCast, Int.toNat_zero, Int.toNat_one, List.length_map, List.length_append, List.length_cons, List.length_nil, List.length_take, List.length_set, List.length_replicate, Bool.not_true, Bool.not_false, decide_true, decide_false, BEq.rfl, bne_self_eq_false, tf_beq, ft_beq, tf_bne, ft_bne, not_true_eq_false, not_false_eq_true, app]
      try rw [decide_eq_true c2]
      try simp (disch := first | assumption | omega | (apply At.mk; with_unfolding_all rfl)) only [↓go_eq, ↓ent_eq, Mv, NilC_at, Fld_at, add_mk, Nat.zero_add, Nat.add_zero, Add64, Sub64, Mul64, Quo64, Rem64, Neg64, Cvt64, CvtU8, CvtU16, CvtU32, CvtU64, AddU64, SubU64, MulU64, Shr64, Shr_u8, Shr_u16, Shr_u32, Shr_u64, And1, And31, And32, Eql64, Neq64, Bin_lss, Bin_leq, Bin_gtr, Bin_geq, Bin_bool_eql, Bin_bool_neq, Bin_ptr_nil_eql, Bin_ptr_nil_neq, Not_dec, Un_not, Pick_t, Pick_f, Pick_pos, Pick_neg, Gd_tt, Gd_tf, Gd_ft, Gd_ff, Gd_pos_t, Gd_neg_t, Gd_pos_f, Gd_neg_f, Gd_undef, If_t, If_f, If_pos, If_neg, CallF_eq, Max_two, Min_two, Len_rd, Len_own, Ld_blkE, Idx_rdN, Idx_ownN, Idx_rdE, Idx_ownE, IdxAE, LdA_two, Idx_at0, Ext_atE, Len_at, Int.toNat_natCast, Int.toNat_zero, Int.toNat_one, List.length_map, List.length_append, List.length_cons, List.length_nil, List.length_take, List.length_set, List.length_replicate, Bool.not_true, Bool.not_false, decide_true, decide_false, BEq.rfl, bne_self_eq_false, tf_beq, ft_beq, tf_bne, ft_bne, not_true_eq_false, not_false_eq_true, app]
      exact fin fun _ => hr.1 c2
    · try simp (disch := first | assumption | omega | (apply At.mk; with_unfolding_all rfl)) only [↓go_eq, ↓ent_eq, Mv, NilC_at, Fld_at, add_mk, Nat.zero_add, Nat.add_zero, Add64, Sub64, Mul64, Quo64, Rem64, Neg64, Cvt64, CvtU8, CvtU16, CvtU32, CvtU64, AddU64, SubU64, MulU64, Shr64, Shr_u8, Shr_u16, Shr_u32, Shr_u64, And1, And31, And32, Eql64, Neq64, Bin_lss, Bin_leq, Bin_gtr, Bin_geq, Bin_bool_eql, Bin_bool_neq, Bin_ptr_nil_eql, Bin_ptr_nil_neq, Not_dec, Un_not, Pick_t, Pick_f, Pick_pos, Pick_neg, Gd_tt, Gd_tf, Gd_ft, Gd_ff, Gd_pos_t, Gd_neg_t, Gd_pos_f, Gd_neg_f, Gd_undef, If_t, If_f, If_pos, If_neg, CallF_eq, Max_two, Min_two, Len_rd, Len_own, Ld_blkE, Idx_rdN, Idx_ownN, Idx_rdE, Idx_ownE, IdxAE, LdA_two, Idx_at0, Ext_atE, Len_at, Int.toNat_natCast, Int.toNat_zero, Int.toNat_one, List.length_map, List.length_append, List.length_cons, List.length_nil, List.length_take, List.length_set, List.length_replicate, Bool.not_true, Bool.not_false, decide_true, decide_false, BEq.rfl, bne_self_eq_false, tf_beq, ft_beq, tf_bne, ft_bne, not_true_eq_false, not_false_eq_true, app]
      try rw [decide_eq_false c2]
      try simp (disch := first | assumption | omega | (apply At.mk; with_unfolding_all rfl)) only [↓go_eq, ↓ent_eq, Mv, NilC_at, Fld_at, add_mk, Nat.zero_add, Nat.add_zero, Add64, Sub64, Mul64, Quo64, Rem64, Neg64, Cvt64, CvtU8, CvtU16, CvtU32, CvtU64, AddU64, SubU64, MulU64, Shr64, Shr_u8, Shr_u16, Shr_u32, Shr_u64, And1, And31, And32, Eql64, Neq64, Bin_lss, Bin_leq, Bin_gtr, Bin_geq, Bin_bool_eql, Bin_bool_neq, Bin_ptr_nil_eql, Bin_ptr_nil_neq, Not_dec, Un_not, Pick_t, Pick_f, Pick_pos, Pick_neg, Gd_tt, Gd_tf, Gd_ft, Gd_ff, Gd_pos_t, Gd_neg_t, Gd_pos_f, Gd_neg_f, Gd_undef, If_t, If_f, If_pos, If_neg, CallF_eq, Max_two, Min_two, Len_rd, Len_own, Ld_blkE, Idx_rdN, Idx_ownN, Idx_rdE, Idx_ownE, IdxAE, LdA_two, Idx_at0, Ext_atE, Len_at, Int.toNat_natCast, Int.toNat_zero, Int.toNat_one, List.length_map, List.length_append, List.length_cons, List.length_nil, List.length_take, List.length_set, List.length_replicate, Bool.not_true, Bool.not_false, decide_true, decide_false, BEq.rfl, bne_self_eq_false, tf_beq, ft_beq, tf_bne, ft_bne, not_true_eq_false, not_false_eq_true, app]
      try rw [show (u : Int) + 1 = ((u + 1 : Nat) : Int) by omega]
      exact hW (u + 1) h2 ⟨rfl, by omega, q5.incr (by omega) fun x => c2 (hr.2 x)⟩ (by omega)
  · try simp (disch := first | assumption | omega | (apply At.mk; with_unfolding_all rfl)) only [↓go_eq, ↓ent_eq, Mv, NilC_at, Fld_at, add_mk, Nat.zero_add, Nat.add_zero, Add64, Sub64, Mul64, Quo64, Rem64, Neg64, Cvt64, CvtU8, CvtU16, CvtU32, CvtU64, AddU64, SubU64, MulU64, Shr64, Shr_u8, Shr_u16, Shr_u32, Shr_u64, And1, And31, And32, Eql64, Neq64, Bin_lss, Bin_leq, Bin_gtr, Bin_geq, Bin_bool_eql, Bin_bool_neq, Bin_ptr_nil_eql, Bin_ptr_nil_neq, Not_dec, Un_not, Pick_t, Pick_f, Pick_pos, Pick_neg, Gd_tt, Gd_tf, Gd_ft, Gd_ff, Gd_pos_t, Gd_neg_t, Gd_pos_f, Gd_neg_f, Gd_undef, If_t, If_f, If_pos, If_neg, CallF_eq, Max_two, Min_two, Len_rd, Len_own, Ld_blkE, Idx_rdN, Idx_ownN, Idx_rdE, Idx_ownE, IdxAE, LdA_two, Idx_at0, Ext_atE, Len_at, Int.toNat_natCast, Int.toNat_zero, Int.toNat_one, List.length_map, List.length_append, List.length_cons, List.length_nil, List.length_take, List.length_set, List.length_replicate, Bool.not_true, Bool.not_false, decide_true, decide_false, BEq.rfl, bne_self_eq_false, tf_beq, ft_beq, tf_bne, ft_bne, not_true_eq_false, not_false_eq_true, app]
    exact fin fun x => absurd x (by omega)
end
end So
end Go.Proofs.Ytjedohcphkdekaa
