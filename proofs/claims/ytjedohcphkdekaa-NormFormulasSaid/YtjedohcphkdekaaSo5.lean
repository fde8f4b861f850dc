/- Parting a segment, with a comparison handed in. Conditions: those typed ahead of each theorem. -/
import Derived.Test.YtjedohcphkdekaaSo4
namespace Go.Proofs.Ytjedohcphkdekaa
open Go.Pt
set_option linter.unusedVariables false
set_option linter.unusedSimpArgs false
namespace So
/-- What is known while a segment is parted. -/
structure PtI (L : Int → Int → Prop) (a b i j : Nat) (pv : Int) (g : Nat → Int) : Prop where
  hi : a + 1 ≤ i
  hj : j < b
  hij : i ≤ j + 1
  pa : g a = pv
  lo : ∀ k, a < k → k < i → L (g k) pv
  up : ∀ k, j < k → k < b → ¬ L (g k) pv
section
variable {L : Int → Int → Prop} {a b i j : Nat} {pv : Int} {g : Nat → Int}
theorem PtI.start (hab : a < b) (pa : g a = pv) : PtI L a b (a + 1) (b - 1) pv g := ⟨Nat.le_refl _, by omega, by omega, pa, fun k h1 h2 => by omega, fun k h1 h2 => by omega⟩
theorem PtI.incr (q : PtI L a b i j pv g) (h : i ≤ j) (hL : L (g i) pv) : PtI L a b (i + 1) j pv g :=
  ⟨by have := q.hi; omega, q.hj, by omega, q.pa, fun k h1 h2 => by rcases Nat.lt_or_ge k i with x | x; exact q.lo k h1 x; rw [show k = i by omega]; exact hL, q.up⟩
theorem PtI.decr (q : PtI L a b i j pv g) (h : i ≤ j) (hL : ¬ L (g j) pv) : PtI L a b i (j - 1) pv g :=
  ⟨q.hi, by have := q.hj; omega, by have := q.hi; omega, q.pa, q.lo, fun k h1 h2 => by rcases Nat.lt_or_ge j k with x | x; exact q.up k x h2; rw [show k = j by omega]; exact hL⟩
theorem PtI.swap (q : PtI L a b i j pv g) (h : i ≤ j) (h1 : ¬ L (g i) pv) (h2 : L (g j) pv) : PtI L a b (i + 1) (j - 1) pv (swp g i j) := by
  have hne : i ≠ j := fun e => h1 (e ▸ h2)
  have hi := q.hi
  refine ⟨by omega, by have := q.hj; omega, by omega, by rw [swp_ne (by omega) (by omega)]; exact q.pa, fun k k1 k2 => ?_, fun k k1 k2 => ?_⟩
  · by_cases e : k = i
    · subst e; rw [swp_i]; exact h2
    · rw [swp_ne e (by omega)]; exact q.lo k k1 (by omega)
  · by_cases e : k = j
    · subst e; rw [swp_j]; exact h1
    · rw [swp_ne (by omega) e]; exact q.up k (by omega) k2
/-- What a parted segment is. -/
def Parted (L : Int → Int → Prop) (a b mid : Nat) (g : Nat → Int) : Prop := a ≤ mid ∧ mid < b ∧ (∀ k, a ≤ k → k < mid → L (g k) (g mid)) ∧ ∀ k, mid < k → k < b → ¬ L (g k) (g mid)
theorem PtI.done (q : PtI L a b i j pv g) (h : j < i) : Parted L a b j (swp g j a) := by
  have hi := q.hi
  have hij := q.hij
  refine ⟨by omega, q.hj, fun k k1 k2 => ?_, fun k k1 k2 => ?_⟩
  · rw [swp_i, q.pa]
    by_cases e : k = a
    · subst e; rw [swp_j]; exact q.lo j (by omega) (by omega)
    · rw [swp_ne (by omega) e]; exact q.lo k (by omega) (by omega)
  · rw [swp_i, q.pa, swp_ne (by omega) (by omega)]; exact q.up k k1 k2
end
section
variable {K : Ret} {h : Heap} {v cv : Value} {bs : List Nat} {m : Nat} {L : Int → Int → Prop} [DecidableRel L] {ok : Heap → Prop} {D : Int → Prop}
/-- The second search of a round, and what follows (the printed text). -/
def rest5 (X3 : Cur 5) (t0 t1 t4 t12 t13 : Value) (K : Ret) (h : Heap) : Prop :=
Lp 5 (fun X5 t0_5 t1_5 t4_5 t12_4 t13_4 h =>
 go (Bin .int .leq t12_4 t13_4) h fun t125 h =>
 go (Gd t125 true (Mv t4_5)) h fun t127 h =>
 go (Gd t125 true (Mv t0_5)) h fun t128 h =>
 go (Gd t125 true (Mv t13_4)) h fun t129 h =>
 go (Gd t125 true (Idx 1 t128 t129)) h fun t130 h =>
 go (Gd t125 true (Ld t130)) h fun t131 h =>
 go (Gd t125 true (Mv t0_5)) h fun t132 h =>
 go (Gd t125 true (Mv t1_5)) h fun t133 h =>
 go (Gd t125 true (Idx 1 t132 t133)) h fun t134 h =>
 go (Gd t125 true (Ld t134)) h fun t135 h =>
 go (Gd t125 true (CallV Try.prog t127 [t131, t135])) h fun t136 h =>
 go (Gd t125 true (Bin .int .lss t136 (.int .i64 0))) h fun t137 h =>
 go (Gd t125 true (Un .not t137)) h fun t138 h =>
 go (Pick t125 t138 (.bool false)) h fun t139 h =>
 If t139 (
 go (Bin .int .sub t13_4 (.int .i64 1)) h fun t141 h =>
 X5 t0_5 t1_5 t4_5 t12_4 t141 h) (
 go (Bin .int .gtr t12_4 t13_4) h fun t144 h =>
 If t144 (
 go (Idx 1 t0_5 t1_5) h fun t169 h =>
 go (Ld t169) h fun t170 h =>
 go (Idx 1 t0_5 t13_4) h fun t173 h =>
 go (Ld t173) h fun t174 h =>
 go (Idx 1 t0_5 t13_4) h fun t175 h =>
 go (St t175 t170) h fun _ h =>
 go (Idx 1 t0_5 t1_5) h fun t176 h =>
 go (St t176 t174) h fun _ h =>
 K (.tuple #[t13_4, (.bool false)]) h) (
 go (Idx 1 t0_5 t13_4) h fun t151 h =>
 go (Ld t151) h fun t152 h =>
 go (Idx 1 t0_5 t12_4) h fun t155 h =>
 go (Ld t155) h fun t156 h =>
 go (Idx 1 t0_5 t12_4) h fun t157 h =>
 go (St t157 t152) h fun _ h =>
 go (Idx 1 t0_5 t13_4) h fun t158 h =>
 go (St t158 t156) h fun _ h =>
 go (Bin .int .add t12_4 (.int .i64 1)) h fun t160 h =>
 go (Bin .int .sub t13_4 (.int .i64 1)) h fun t162 h =>
 X3 t0_5 t1_5 t4_5 t160 t162 h))) [t0, t1, t4, t12, t13] h
def rest2 (t0 t1 t4 t12 t13 : Value) (K : Ret) (h : Heap) : Prop :=
Lp 5 (fun X2 t0_2 t1_2 t4_2 t12_1 t13_1 h =>
 go (Bin .int .leq t12_1 t13_1) h fun t52 h =>
 go (Gd t52 true (Mv t4_2)) h fun t54 h =>
 go (Gd t52 true (Mv t0_2)) h fun t55 h =>
 go (Gd t52 true (Mv t13_1)) h fun t56 h =>
 go (Gd t52 true (Idx 1 t55 t56)) h fun t57 h =>
 go (Gd t52 true (Ld t57)) h fun t58 h =>
 go (Gd t52 true (Mv t0_2)) h fun t59 h =>
 go (Gd t52 true (Mv t1_2)) h fun t60 h =>
 go (Gd t52 true (Idx 1 t59 t60)) h fun t61 h =>
 go (Gd t52 true (Ld t61)) h fun t62 h =>
 go (Gd t52 true (CallV Try.prog t54 [t58, t62])) h fun t63 h =>
 go (Gd t52 true (Bin .int .lss t63 (.int .i64 0))) h fun t64 h =>
 go (Gd t52 true (Un .not t64)) h fun t65 h =>
 go (Pick t52 t65 (.bool false)) h fun t66 h =>
 If t66 (
 go (Bin .int .sub t13_1 (.int .i64 1)) h fun t68 h =>
 X2 t0_2 t1_2 t4_2 t12_1 t68 h) (
 go (Bin .int .gtr t12_1 t13_1) h fun t71 h =>
 If t71 (
 go (Idx 1 t0_2 t1_2) h fun t78 h =>
 go (Ld t78) h fun t79 h =>
 go (Idx 1 t0_2 t13_1) h fun t82 h =>
 go (Ld t82) h fun t83 h =>
 go (Idx 1 t0_2 t13_1) h fun t84 h =>
 go (St t84 t79) h fun _ h =>
 go (Idx 1 t0_2 t1_2) h fun t85 h =>
 go (St t85 t83) h fun _ h =>
 K (.tuple #[t13_1, (.bool true)]) h) (
 go (Idx 1 t0_2 t13_1) h fun t93 h =>
 go (Ld t93) h fun t94 h =>
 go (Idx 1 t0_2 t12_1) h fun t97 h =>
 go (Ld t97) h fun t98 h =>
 go (Idx 1 t0_2 t12_1) h fun t99 h =>
 go (St t99 t94) h fun _ h =>
 go (Idx 1 t0_2 t13_1) h fun t100 h =>
 go (St t100 t98) h fun _ h =>
 go (Bin .int .add t12_1 (.int .i64 1)) h fun t102 h =>
 go (Bin .int .sub t13_1 (.int .i64 1)) h fun t104 h =>
 Lp 5 (fun X3 t0_3 t1_3 t4_3 t12_2 t13_2 h =>
 Lp 5 (fun X4 t0_4 t1_4 t4_4 t12_3 t13_3 h =>
 go (Bin .int .leq t12_3 t13_3) h fun t107 h =>
 go (Gd t107 true (Mv t4_4)) h fun t109 h =>
 go (Gd t107 true (Mv t0_4)) h fun t110 h =>
 go (Gd t107 true (Mv t12_3)) h fun t111 h =>
 go (Gd t107 true (Idx 1 t110 t111)) h fun t112 h =>
 go (Gd t107 true (Ld t112)) h fun t113 h =>
 go (Gd t107 true (Mv t0_4)) h fun t114 h =>
 go (Gd t107 true (Mv t1_4)) h fun t115 h =>
 go (Gd t107 true (Idx 1 t114 t115)) h fun t116 h =>
 go (Gd t107 true (Ld t116)) h fun t117 h =>
 go (Gd t107 true (CallV Try.prog t109 [t113, t117])) h fun t118 h =>
 go (Gd t107 true (Bin .int .lss t118 (.int .i64 0))) h fun t119 h =>
 go (Pick t107 t119 (.bool false)) h fun t120 h =>
 If t120 (
 go (Bin .int .add t12_3 (.int .i64 1)) h fun t122 h =>
 X4 t0_4 t1_4 t4_4 t122 t13_3 h) (
 Lp 5 (fun X5 t0_5 t1_5 t4_5 t12_4 t13_4 h =>
 go (Bin .int .leq t12_4 t13_4) h fun t125 h =>
 go (Gd t125 true (Mv t4_5)) h fun t127 h =>
 go (Gd t125 true (Mv t0_5)) h fun t128 h =>
 go (Gd t125 true (Mv t13_4)) h fun t129 h =>
 go (Gd t125 true (Idx 1 t128 t129)) h fun t130 h =>
 go (Gd t125 true (Ld t130)) h fun t131 h =>
 go (Gd t125 true (Mv t0_5)) h fun t132 h =>
 go (Gd t125 true (Mv t1_5)) h fun t133 h =>
 go (Gd t125 true (Idx 1 t132 t133)) h fun t134 h =>
 go (Gd t125 true (Ld t134)) h fun t135 h =>
 go (Gd t125 true (CallV Try.prog t127 [t131, t135])) h fun t136 h =>
 go (Gd t125 true (Bin .int .lss t136 (.int .i64 0))) h fun t137 h =>
 go (Gd t125 true (Un .not t137)) h fun t138 h =>
 go (Pick t125 t138 (.bool false)) h fun t139 h =>
 If t139 (
 go (Bin .int .sub t13_4 (.int .i64 1)) h fun t141 h =>
 X5 t0_5 t1_5 t4_5 t12_4 t141 h) (
 go (Bin .int .gtr t12_4 t13_4) h fun t144 h =>
 If t144 (
 go (Idx 1 t0_5 t1_5) h fun t169 h =>
 go (Ld t169) h fun t170 h =>
 go (Idx 1 t0_5 t13_4) h fun t173 h =>
 go (Ld t173) h fun t174 h =>
 go (Idx 1 t0_5 t13_4) h fun t175 h =>
 go (St t175 t170) h fun _ h =>
 go (Idx 1 t0_5 t1_5) h fun t176 h =>
 go (St t176 t174) h fun _ h =>
 K (.tuple #[t13_4, (.bool false)]) h) (
 go (Idx 1 t0_5 t13_4) h fun t151 h =>
 go (Ld t151) h fun t152 h =>
 go (Idx 1 t0_5 t12_4) h fun t155 h =>
 go (Ld t155) h fun t156 h =>
 go (Idx 1 t0_5 t12_4) h fun t157 h =>
 go (St t157 t152) h fun _ h =>
 go (Idx 1 t0_5 t13_4) h fun t158 h =>
 go (St t158 t156) h fun _ h =>
 go (Bin .int .add t12_4 (.int .i64 1)) h fun t160 h =>
 go (Bin .int .sub t13_4 (.int .i64 1)) h fun t162 h =>
 X3 t0_5 t1_5 t4_5 t160 t162 h))) [t0_4, t1_4, t4_4, t12_3, t13_3] h)) [t0_3, t1_3, t4_3, t12_2, t13_2] h) [t0_2, t1_2, t4_2, t102, t104] h))) [t0, t1, t4, t12, t13] h
set_option maxHeartbeats 8000000 in
theorem part5 {a b : Nat} {f : Nat → Int} {pv : Int} (o : Ord L) (hc : Cmp L cv ok D) (hok : ∀ h h', ok h → Fr bs h h' → ok h') (hab : a < b) (hb : b ≤ m) (hm : m ≤ 1000000000) (hD : ∀ k, a ≤ k → k < b → D (f k)) (h0 : ok h)
    (hk : ∀ h' g mid x, Own h' v (arr m g) bs → Pm a b f g → Parted L a b mid g → Fr bs h h' → K (.tuple #[Iv (mid : Nat), .bool x]) h') {i j : Nat} {g : Nat → Int} {h2 : Heap} (w2 : Own h2 v (arr m g) bs) (p2 : Pm a b f g) (q2 : PtI L a b i j pv g) (f2 : Fr bs h h2) (hx : i ≤ j → ¬ L (g i) pv) {X3 : Cur 5}
    (hX : ∀ i' j' g' h', Own h' v (arr m g') bs → Pm a b f g' → PtI L a b i' j' pv g' → Fr bs h h' → j' + 1 - i' < j + 1 - i → app 5 X3 [v, Iv (a : Nat), cv, Iv (i' : Nat), Iv (j' : Nat)] h') : rest5 X3 v (Iv (a : Nat)) cv (Iv (i : Nat)) (Iv (j : Nat)) K h2 := by
  unfold rest5
  refine Lp_fn (σ := Nat) (fun s => [v, Iv (a : Nat), cv, Iv (i : Nat), Iv (s : Nat)]) (fun s h' => h2 = h' ∧ s ≤ j ∧ PtI L a b i s pv g) (fun s => s) j rfl (fun _ => rfl) ⟨rfl, Nat.le_refl _, q2⟩ ?_
  rintro s _ ⟨rfl, hs, q⟩ Y hY
  have b1 := q.hi
  have b2 := q.hj
  have b3 := q.hij
  have ai := arr_at g (show a < m by omega)
  have aJ := arr_at g (show s < m by omega)
  have D2 := p2.all hD
  have ok2 := hok _ _ h0 f2
  by_cases c1 : (i : Int) ≤ (s : Nat)
  · try simp (disch := first | assumption | omega | (apply At.mk; with_unfolding_all rfl)) only [↓go_eq, ↓ent_eq, Mv, NilC_at, Fld_at, add_mk, Nat.zero_add, Nat.add_zero, Add64, Sub64, Mul64, Quo64, Rem64, Neg64, Cvt64, CvtU8, CvtU16, CvtU32, CvtU64, AddU64, SubU64, MulU64, Shr64, Shr_u8, Shr_u16, Shr_u32, Shr_u64, And1, And31, And32, Eql64, Neq64, Bin_lss, Bin_leq, Bin_gtr, Bin_geq, Bin_bool_eql, Bin_bool_neq, Bin_ptr_nil_eql, Bin_ptr_nil_neq, Not_dec, Un_not, Pick_t, Pick_f, Pick_pos, Pick_neg, Gd_tt, Gd_tf, Gd_ft, Gd_ff, Gd_pos_t, Gd_neg_t, Gd_pos_f, Gd_neg_f, Gd_undef, If_t, If_f, If_pos, If_neg, CallF_eq, Max_two, Min_two, Len_rd, Len_own, Ld_blkE, Idx_rdN, Idx_ownN, Idx_rdE, Idx_ownE, IdxAE, LdA_two, Idx_at0, Ext_atE, Len_at, Int.toNat_natCast, Int.toNat_zero, Int.toNat_one, List.length_map, List.length_append, List.length_cons, List.length_nil, List.length_take, List.length_set, List.length_replicate, Bool.not_true, Bool.not_false, decide_true, decide_false, BEq.rfl, bne_self_eq_false, tf_beq, ft_beq, tf_bne, ft_bne, not_true_eq_false, not_false_eq_true, app]
    refine hc _ _ _ _ ok2 (D2 _ (by omega) (by omega)) (D2 _ (by omega) (by omega)) fun r hr => ?_
    rw [q.pa] at hr
    by_cases c2 : r < 0
    · have c3 : ¬ ((i : Int) > (s : Nat)) := by omega
      have aI := arr_at g (show i < m by omega)
      have nI := hx (by omega)
      try simp (disch := first | assumption | omega | (apply At.mk; with_unfolding_all rfl)) only [↓go_eq, ↓ent_eq, Mv, NilC_at, Fld_at, add_mk, Nat.zero_add, Nat.add_zero, Add64, Sub64, Mul64, Quo64, Rem64, Neg64, Cvt64, CvtU8, CvtU16, CvtU32, CvtU64, AddU64, SubU64, MulU64, Shr64, Shr_u8, Shr_u16, Shr_u32, Shr_u64, And1, And31, And32, Eql64, Neq64, Bin_lss, Bin_leq, Bin_gtr, Bin_geq, Bin_bool_eql, Bin_bool_neq, Bin_ptr_nil_eql, Bin_ptr_nil_neq, Not_dec, Un_not, Pick_t, Pick_f, Pick_pos, Pick_neg, Gd_tt, Gd_tf, Gd_ft, Gd_ff, Gd_pos_t, Gd_neg_t, Gd_pos_f, Gd_neg_f, Gd_undef, If_t, If_f, If_pos, If_neg, CallF_eq, Max_two, Min_two, Len_rd, Len_own, Ld_blkE, Idx_rdN, Idx_ownN, Idx_rdE, Idx_ownE, IdxAE, LdA_two, Idx_at0, Ext_atE, Len_at, Int.toNat_natCast, Int.toNat_zero, Int.toNat_one, List.length_map, List.length_append, List.length_cons, List.length_nil, List.length_take, List.length_set, List.length_replicate, Bool.not_true, Bool.not_false, decide_true, decide_false, BEq.rfl, bne_self_eq_false, tf_beq, ft_beq, tf_bne, ft_bne, not_true_eq_false, not_false_eq_true, app]
      try rw [decide_eq_true c2]
      try simp (disch := first | assumption | omega | (apply At.mk; with_unfolding_all rfl)) only [↓go_eq, ↓ent_eq, Mv, NilC_at, Fld_at, add_mk, Nat.zero_add, Nat.add_zero, Add64, Sub64, Mul64, Quo64, Rem64, Neg64, Cvt64, CvtU8, CvtU16, CvtU32, CvtU64, AddU64, SubU64, MulU64, Shr64, Shr_u8, Shr_u16, Shr_u32, Shr_u64, And1, And31, And32, Eql64, Neq64, Bin_lss, Bin_leq, Bin_gtr, Bin_geq, Bin_bool_eql, Bin_bool_neq, Bin_ptr_nil_eql, Bin_ptr_nil_neq, Not_dec, Un_not, Pick_t, Pick_f, Pick_pos, Pick_neg, Gd_tt, Gd_tf, Gd_ft, Gd_ff, Gd_pos_t, Gd_neg_t, Gd_pos_f, Gd_neg_f, Gd_undef, If_t, If_f, If_pos, If_neg, CallF_eq, Max_two, Min_two, Len_rd, Len_own, Ld_blkE, Idx_rdN, Idx_ownN, Idx_rdE, Idx_ownE, IdxAE, LdA_two, Idx_at0, Ext_atE, Len_at, Int.toNat_natCast, Int.toNat_zero, Int.toNat_one, List.length_map, List.length_append, List.length_cons, List.length_nil, List.length_take, List.length_set, List.length_replicate, Bool.not_true, Bool.not_false, decide_true, decide_false, BEq.rfl, bne_self_eq_false, tf_beq, ft_beq, tf_bne, ft_bne, not_true_eq_false, not_false_eq_true, app]
      refine swap2 (i := i) (j := s) w2 (by omega) (by omega) fun h3 w3 f3 => ?_
      try simp (disch := first | assumption | omega | (apply At.mk; with_unfolding_all rfl)) only [↓go_eq, ↓ent_eq, Mv, NilC_at, Fld_at, add_mk, Nat.zero_add, Nat.add_zero, Add64, Sub64, Mul64, Quo64, Rem64, Neg64, Cvt64, CvtU8, CvtU16, CvtU32, CvtU64, AddU64, SubU64, MulU64, Shr64, Shr_u8, Shr_u16, Shr_u32, Shr_u64, And1, And31, And32, Eql64, Neq64, Bin_lss, Bin_leq, Bin_gtr, Bin_geq, Bin_bool_eql, Bin_bool_neq, Bin_ptr_nil_eql, Bin_ptr_nil_neq, Not_dec, Un_not, Pick_t, Pick_f, Pick_pos, Pick_neg, Gd_tt, Gd_tf, Gd_ft, Gd_ff, Gd_pos_t, Gd_neg_t, Gd_pos_f, Gd_neg_f, Gd_undef, If_t, If_f, If_pos, If_neg, CallF_eq, Max_two, Min_two, Len_rd, Len_own, Ld_blkE, Idx_rdN, Idx_ownN, Idx_rdE, Idx_ownE, IdxAE, LdA_two, Idx_at0, Ext_atE, Len_at, Int.toNat_natCast, Int.toNat_zero, Int.toNat_one, List.length_map, List.length_append, List.length_cons, List.length_nil, List.length_take, List.length_set, List.length_replicate, Bool.not_true, Bool.not_false, decide_true, decide_false, BEq.rfl, bne_self_eq_false, tf_beq, ft_beq, tf_bne, ft_bne, not_true_eq_false, not_false_eq_true, app]
      try rw [show (i : Int) + 1 = ((i + 1 : Nat) : Int) by omega]
      try rw [show (s : Int) - 1 = ((s - 1 : Nat) : Int) by omega]
      exact hX (i + 1) (s - 1) _ h3 w3 (p2.step i s (by omega) (by omega) (by omega) (by omega)) (q.swap (by omega) nI (hr.1 c2)) (f2.trans f3) (by omega)
    · try simp (disch := first | assumption | omega | (apply At.mk; with_unfolding_all rfl)) only [↓go_eq, ↓ent_eq, Mv, NilC_at, Fld_at, add_mk, Nat.zero_add, Nat.add_zero, Add64, Sub64, Mul64, Quo64, Rem64, Neg64, Cvt64, CvtU8, CvtU16, CvtU32, CvtU64, AddU64, SubU64, MulU64, Shr64, Shr_u8, Shr_u16, Shr_u32, Shr_u64, And1, And31, And32, Eql64, Neq64, Bin_lss, Bin_leq, Bin_gtr, Bin_geq, Bin_bool_eql, Bin_bool_neq, Bin_ptr_nil_eql, Bin_ptr_nil_neq, Not_dec, Un_not, Pick_t, Pick_f, Pick_pos, Pick_neg, Gd_tt, Gd_tf, Gd_ft, Gd_ff, Gd_pos_t, Gd_neg_t, Gd_pos_f, Gd_neg_f, Gd_undef, If_t, If_f, If_pos, If_neg, CallF_eq, Max_two, Min_two, Len_rd, Len_own, Ld_blkE, Idx_rdN, Idx_ownN, Idx_rdE, Idx_ownE, IdxAE, LdA_two, Idx_at0, Ext_atE, Len_at, Int.toNat_natCast, Int.toNat_zero, Int.toNat_one, List.length_map, List.length_append, List.length_cons, List.length_nil, List.length_take, List.length_set, List.length_replicate, Bool.not_true, Bool.not_false, decide_true, decide_false, BEq.rfl, bne_self_eq_false, tf_beq, ft_beq, tf_bne, ft_bne, not_true_eq_false, not_false_eq_true, app]
      try rw [decide_eq_false c2]
      try simp (disch := first | assumption | omega | (apply At.mk; with_unfolding_all rfl)) only [↓go_eq, ↓ent_eq, Mv, NilC_at, Fld_at, add_mk, Nat.zero_add, Nat.add_zero, Add64, Sub64, Mul64, Quo64, Rem64, Neg64, Cvt64, CvtU8, CvtU16, CvtU32, CvtU64, AddU64, SubU64, MulU64, Shr64, Shr_u8, Shr_u16, Shr_u32, Shr_u64, And1, And31, And32, Eql64, Neq64, Bin_lss, Bin_leq, Bin_gtr, Bin_geq, Bin_bool_eql, Bin_bool_neq, Bin_ptr_nil_eql, Bin_ptr_nil_neq, Not_dec, Un_not, Pick_t, Pick_f, Pick_pos, Pick_neg, Gd_tt, Gd_tf, Gd_ft, Gd_ff, Gd_pos_t, Gd_neg_t, Gd_pos_f, Gd_neg_f, Gd_undef, If_t, If_f, If_pos, If_neg, CallF_eq, Max_two, Min_two, Len_rd, Len_own, Ld_blkE, Idx_rdN, Idx_ownN, Idx_rdE, Idx_ownE, IdxAE, LdA_two, Idx_at0, Ext_atE, Len_at, Int.toNat_natCast, Int.toNat_zero, Int.toNat_one, List.length_map, List.length_append, List.length_cons, List.length_nil, List.length_take, List.length_set, List.length_replicate, Bool.not_true, Bool.not_false, decide_true, decide_false, BEq.rfl, bne_self_eq_false, tf_beq, ft_beq, tf_bne, ft_bne, not_true_eq_false, not_false_eq_true, app]
      try rw [show (s : Int) - 1 = ((s - 1 : Nat) : Int) by omega]
      exact hY (s - 1) h2 ⟨rfl, by omega, q.decr (by omega) fun x => c2 (hr.2 x)⟩ (by omega)
  · have c3 : (i : Int) > (s : Nat) := by omega
    try simp (disch := first | assumption | omega | (apply At.mk; with_unfolding_all rfl)) only [↓go_eq, ↓ent_eq, Mv, NilC_at, Fld_at, add_mk, Nat.zero_add, Nat.add_zero, Add64, Sub64, Mul64, Quo64, Rem64, Neg64, Cvt64, CvtU8, CvtU16, CvtU32, CvtU64, AddU64, SubU64, MulU64, Shr64, Shr_u8, Shr_u16, Shr_u32, Shr_u64, And1, And31, And32, Eql64, Neq64, Bin_lss, Bin_leq, Bin_gtr, Bin_geq, Bin_bool_eql, Bin_bool_neq, Bin_ptr_nil_eql, Bin_ptr_nil_neq, Not_dec, Un_not, Pick_t, Pick_f, Pick_pos, Pick_neg, Gd_tt, Gd_tf, Gd_ft, Gd_ff, Gd_pos_t, Gd_neg_t, Gd_pos_f, Gd_neg_f, Gd_undef, If_t, If_f, If_pos, If_neg, CallF_eq, Max_two, Min_two, Len_rd, Len_own, Ld_blkE, Idx_rdN, Idx_ownN, Idx_rdE, Idx_ownE, IdxAE, LdA_two, Idx_at0, Ext_atE, Len_at, Int.toNat_natCast, Int.toNat_zero, Int.toNat_one, List.length_map, List.length_append, List.length_cons, List.length_nil, List.length_take, List.length_set, List.length_replicate, Bool.not_true, Bool.not_false, decide_true, decide_false, BEq.rfl, bne_self_eq_false, tf_beq, ft_beq, tf_bne, ft_bne, not_true_eq_false, not_false_eq_true, app]
    refine swap2 (i := s) (j := a) w2 (by omega) (by omega) fun h3 w3 f3 => ?_
    try simp (disch := first | assumption | omega | (apply At.mk; with_unfolding_all rfl)) only [↓go_eq, ↓ent_eq, Mv, NilC_at, Fld_at, add_mk, Nat.zero_add, Nat.add_zero, Add64, Sub64, Mul64, Quo64, Rem64, Neg64, Cvt64, CvtU8, CvtU16, CvtU32, CvtU64, AddU64, SubU64, MulU64, Shr64, Shr_u8, Shr_u16, Shr_u32, Shr_u64, And1, And31, And32, Eql64, Neq64, Bin_lss, Bin_leq, Bin_gtr, Bin_geq, Bin_bool_eql, Bin_bool_neq, Bin_ptr_nil_eql, Bin_ptr_nil_neq, Not_dec, Un_not, Pick_t, Pick_f, Pick_pos, Pick_neg, Gd_tt, Gd_tf, Gd_ft, Gd_ff, Gd_pos_t, Gd_neg_t, Gd_pos_f, Gd_neg_f, Gd_undef, If_t, If_f, If_pos, If_neg, CallF_eq, Max_two, Min_two, Len_rd, Len_own, Ld_blkE, Idx_rdN, Idx_ownN, Idx_rdE, Idx_ownE, IdxAE, LdA_two, Idx_at0, Ext_atE, Len_at, Int.toNat_natCast, Int.toNat_zero, Int.toNat_one, List.length_map, List.length_append, List.length_cons, List.length_nil, List.length_take, List.length_set, List.length_replicate, Bool.not_true, Bool.not_false, decide_true, decide_false, BEq.rfl, bne_self_eq_false, tf_beq, ft_beq, tf_bne, ft_bne, not_true_eq_false, not_false_eq_true, app]
    exact hk h3 _ s _ w3 (p2.step s a (by omega) (by omega) (by omega) (by omega)) (q.done (by omega)) (f2.trans f3)
set_option maxHeartbeats 8000000 in
theorem part2 {a b : Nat} {f : Nat → Int} {pv : Int} (o : Ord L) (hc : Cmp L cv ok D) (hok : ∀ h h', ok h → Fr bs h h' → ok h') (hab : a < b) (hb : b ≤ m) (hm : m ≤ 1000000000) (hD : ∀ k, a ≤ k → k < b → D (f k)) (h0 : ok h)
    (hk : ∀ h' g mid x, Own h' v (arr m g) bs → Pm a b f g → Parted L a b mid g → Fr bs h h' → K (.tuple #[Iv (mid : Nat), .bool x]) h') {i j : Nat} {g : Nat → Int} {h2 : Heap} (w2 : Own h2 v (arr m g) bs) (p2 : Pm a b f g) (q2 : PtI L a b i j pv g) (f2 : Fr bs h h2) (hx : i ≤ j → ¬ L (g i) pv) : rest2 v (Iv (a : Nat)) cv (Iv (i : Nat)) (Iv (j : Nat)) K h2 := by
  unfold rest2
  refine Lp_fn (σ := Nat) (fun s => [v, Iv (a : Nat), cv, Iv (i : Nat), Iv (s : Nat)]) (fun s h' => h2 = h' ∧ s ≤ j ∧ PtI L a b i s pv g) (fun s => s) j rfl (fun _ => rfl) ⟨rfl, Nat.le_refl _, q2⟩ ?_
  rintro s _ ⟨rfl, hs, q⟩ Y hY
  have b1 := q.hi
  have b2 := q.hj
  have b3 := q.hij
  have ai := arr_at g (show a < m by omega)
  have aJ := arr_at g (show s < m by omega)
  have D2 := p2.all hD
  have ok2 := hok _ _ h0 f2
  by_cases c1 : (i : Int) ≤ (s : Nat)
  · try simp (disch := first | assumption | omega | (apply At.mk; with_unfolding_all rfl)) only [↓go_eq, ↓ent_eq, Mv, NilC_at, Fld_at, add_mk, Nat.zero_add, Nat.add_zero, Add64, Sub64, Mul64, Quo64, Rem64, Neg64, Cvt64, CvtU8, CvtU16, CvtU32, CvtU64, AddU64, SubU64, MulU64, Shr64, Shr_u8, Shr_u16, Shr_u32, Shr_u64, And1, And31, And32, Eql64, Neq64, Bin_lss, Bin_leq, Bin_gtr, Bin_geq, Bin_bool_eql, Bin_bool_neq, Bin_ptr_nil_eql, Bin_ptr_nil_neq, Not_dec, Un_not, Pick_t, Pick_f, Pick_pos, Pick_neg, Gd_tt, Gd_tf, Gd_ft, Gd_ff, Gd_pos_t, Gd_neg_t, Gd_pos_f, Gd_neg_f, Gd_undef, If_t, If_f, If_pos, If_neg, CallF_eq, Max_two, Min_two, Len_rd, Len_own, Ld_blkE, Idx_rdN, Idx_ownN, Idx_rdE, Idx_ownE, IdxAE, LdA_two, Idx_at0, Ext_atE, Len_at, Int.toNat_natCast, Int.toNat_zero, Int.toNat_one, List.length_map, List.length_append, List.length_cons, List.length_nil, List.length_take, List.length_set, List.length_replicate, Bool.not_true, Bool.not_false, decide_true, decide_false, BEq.rfl, bne_self_eq_false, tf_beq, ft_beq, tf_bne, ft_bne, not_true_eq_false, not_false_eq_true, app]
    refine hc _ _ _ _ ok2 (D2 _ (by omega) (by omega)) (D2 _ (by omega) (by omega)) fun r hr => ?_
    rw [q.pa] at hr
    by_cases c2 : r < 0
    · have c3 : ¬ ((i : Int) > (s : Nat)) := by omega
      have aI := arr_at g (show i < m by omega)
      have nI := hx (by omega)
      try simp (disch := first | assumption | omega | (apply At.mk; with_unfolding_all rfl)) only [↓go_eq, ↓ent_eq, Mv, NilC_at, Fld_at, add_mk, Nat.zero_add, Nat.add_zero, Add64, Sub64, Mul64, Quo64, Rem64, Neg64, Cvt64, CvtU8, CvtU16, CvtU32, CvtU64, AddU64, SubU64, MulU64, Shr64, Shr_u8, Shr_u16, Shr_u32, Shr_u64, And1, And31, And32, Eql64, Neq64, Bin_lss, Bin_leq, Bin_gtr, Bin_geq, Bin_bool_eql, Bin_bool_neq, Bin_ptr_nil_eql, Bin_ptr_nil_neq, Not_dec, Un_not, Pick_t, Pick_f, Pick_pos, Pick_neg, Gd_tt, Gd_tf, Gd_ft, Gd_ff, Gd_pos_t, Gd_neg_t, Gd_pos_f, Gd_neg_f, Gd_undef, If_t, If_f, If_pos, If_neg, CallF_eq, Max_two, Min_two, Len_rd, Len_own, Ld_blkE, Idx_rdN, Idx_ownN, Idx_rdE, Idx_ownE, IdxAE, LdA_two, Idx_at0, Ext_atE, Len_at, Int.toNat_natCast, Int.toNat_zero, Int.toNat_one, List.length_map, List.length_append, List.length_cons, List.length_nil, List.length_take, List.length_set, List.length_replicate, Bool.not_true, Bool.not_false, decide_true, decide_false, BEq.rfl, bne_self_eq_false, tf_beq, ft_beq, tf_bne, ft_bne, not_true_eq_false, not_false_eq_true, app]
      try rw [decide_eq_true c2]
      try simp (disch := first | assumption | omega | (apply At.mk; with_unfolding_all rfl)) only [↓go_eq, ↓ent_eq, Mv, NilC_at, Fld_at, add_mk, Nat.zero_add, Nat.add_zero, Add64, Sub64, Mul64, Quo64, Rem64, Neg64, Cvt64, CvtU8, CvtU16, CvtU32, CvtU64, AddU64, SubU64, MulU64, Shr64, Shr_u8, Shr_u16, Shr_u32, Shr_u64, And1, And31, And32, Eql64, Neq64, Bin_lss, Bin_leq, Bin_gtr, Bin_geq, Bin_bool_eql, Bin_bool_neq, Bin_ptr_nil_eql, Bin_ptr_nil_neq, Not_dec, Un_not, Pick_t, Pick_f, Pick_pos, Pick_neg, Gd_tt, Gd_tf, Gd_ft, Gd_ff, Gd_pos_t, Gd_neg_t, Gd_pos_f, Gd_neg_f, Gd_undef, If_t, If_f, If_pos, If_neg, CallF_eq, Max_two, Min_two, Len_rd, Len_own, Ld_blkE, Idx_rdN, Idx_ownN, Idx_rdE, Idx_ownE, IdxAE, LdA_two, Idx_at0, Ext_atE, Len_at, Int.toNat_natCast, Int.toNat_zero, Int.toNat_one, List.length_map, List.length_append, List.length_cons, List.length_nil, List.length_take, List.length_set, List.length_replicate, Bool.not_true, Bool.not_false, decide_true, decide_false, BEq.rfl, bne_self_eq_false, tf_beq, ft_beq, tf_bne, ft_bne, not_true_eq_false, not_false_eq_true, app]
      refine swap2 (i := i) (j := s) w2 (by omega) (by omega) fun h3 w3 f3 => ?_
      have p3 := p2.step i s (by omega) (by omega) (by omega) (by omega)
      have q3 := q.swap (by omega) nI (hr.1 c2)
      have f03 := f2.trans f3
      try simp (disch := first | assumption | omega | (apply At.mk; with_unfolding_all rfl)) only [↓go_eq, ↓ent_eq, Mv, NilC_at, Fld_at, add_mk, Nat.zero_add, Nat.add_zero, Add64, Sub64, Mul64, Quo64, Rem64, Neg64, Cvt64, CvtU8, CvtU16, CvtU32, CvtU64, AddU64, SubU64, MulU64, Shr64, Shr_u8, Shr_u16, Shr_u32, Shr_u64, And1, And31, And32, Eql64, Neq64, Bin_lss, Bin_leq, Bin_gtr, Bin_geq, Bin_bool_eql, Bin_bool_neq, Bin_ptr_nil_eql, Bin_ptr_nil_neq, Not_dec, Un_not, Pick_t, Pick_f, Pick_pos, Pick_neg, Gd_tt, Gd_tf, Gd_ft, Gd_ff, Gd_pos_t, Gd_neg_t, Gd_pos_f, Gd_neg_f, Gd_undef, If_t, If_f, If_pos, If_neg, CallF_eq, Max_two, Min_two, Len_rd, Len_own, Ld_blkE, Idx_rdN, Idx_ownN, Idx_rdE, Idx_ownE, IdxAE, LdA_two, Idx_at0, Ext_atE, Len_at, Int.toNat_natCast, Int.toNat_zero, Int.toNat_one, List.length_map, List.length_append, List.length_cons, List.length_nil, List.length_take, List.length_set, List.length_replicate, Bool.not_true, Bool.not_false, decide_true, decide_false, BEq.rfl, bne_self_eq_false, tf_beq, ft_beq, tf_bne, ft_bne, not_true_eq_false, not_false_eq_true, app]
      simp only [show (i : Int) + 1 = ((i + 1 : Nat) : Int) from by omega, show (s : Int) - 1 = ((s - 1 : Nat) : Int) from by omega]
      refine Lp_fn (σ := Nat × Nat × (Nat → Int)) (fun s => [v, Iv (a : Nat), cv, Iv (s.1 : Nat), Iv (s.2.1 : Nat)]) (fun s h' => Own h' v (arr m s.2.2) bs ∧ Pm a b f s.2.2 ∧ PtI L a b s.1 s.2.1 pv s.2.2 ∧ Fr bs h h') (fun s => s.2.1 + 1 - s.1) (i + 1, s - 1, swp g i s) rfl (fun _ => rfl) ⟨w3, p3, q3, f03⟩ ?_
      clear w3 p3 q3 f03 hx nI c3 c2 c1 aI ai aJ D2 ok2 hr hY Y b1 b2 b3
      rintro ⟨i, j, g⟩ h4 ⟨w4, p4, q4, f4⟩ Z hZ
      simp only at w4 p4 q4
      refine Lp_fn (σ := Nat) (fun s => [v, Iv (a : Nat), cv, Iv (s : Nat), Iv (j : Nat)]) (fun s h' => h4 = h' ∧ i ≤ s ∧ PtI L a b s j pv g) (fun s => j + 1 - s) i rfl (fun _ => rfl) ⟨rfl, Nat.le_refl _, q4⟩ ?_
      rintro u _ ⟨rfl, hu, q5⟩ W hW
      have b1 := q5.hi
      have b2 := q5.hj
      have b3 := q5.hij
      have ai := arr_at g (show a < m by omega)
      have D4 := p4.all hD
      have ok4 := hok _ _ h0 f4
      have fin : (u ≤ j → ¬ L (g u) pv) → rest5 Z v (Iv (a : Nat)) cv (Iv (u : Nat)) (Iv (j : Nat)) K h4 := fun hn => part5 o hc hok hab hb hm hD h0 hk w4 p4 q5 f4 hn fun i' j' g' h' w' p' q' f' hlt => hZ (i', j', g') h' ⟨w', p', q', f'⟩ (by simp only; omega)
      by_cases c1 : (u : Int) ≤ (j : Nat)
      · have aU := arr_at g (show u < m by omega)
        try simp (disch := first | assumption | omega | (apply At.mk; with_unfolding_all rfl)) only [↓go_eq, ↓ent_eq, Mv, NilC_at, Fld_at, add_mk, Nat.zero_add, Nat.add_zero, Add64, Sub64, Mul64, Quo64, Rem64, Neg64, Cvt64, CvtU8, CvtU16, CvtU32, CvtU64, AddU64, SubU64, MulU64, Shr64, Shr_u8, Shr_u16, Shr_u32, Shr_u64, And1, And31, And32, Eql64, Neq64, Bin_lss, Bin_leq, Bin_gtr, Bin_geq, Bin_bool_eql, Bin_bool_neq, Bin_ptr_nil_eql, Bin_ptr_nil_neq, Not_dec, Un_not, Pick_t, Pick_f, Pick_pos, Pick_neg, Gd_tt, Gd_tf, Gd_ft, Gd_ff, Gd_pos_t, Gd_neg_t, Gd_pos_f, Gd_neg_f, Gd_undef, If_t, If_f, If_pos, If_neg, CallF_eq, Max_two, Min_two, Len_rd, Len_own, Ld_blkE, Idx_rdN, Idx_ownN, Idx_rdE, Idx_ownE, IdxAE, LdA_two, Idx_at0, Ext_atE, Len_at, Int.toNat_natCast, Int.toNat_zero, Int.toNat_one, List.length_map, List.length_append, List.length_cons, List.length_nil, List.length_take, List.length_set, List.length_replicate, Bool.not_true, Bool.not_false, decide_true, decide_false, BEq.rfl, bne_self_eq_false, tf_beq, ft_beq, tf_bne, ft_bne, not_true_eq_false, not_false_eq_true, app]
        refine hc _ _ _ _ ok4 (D4 _ (by omega) (by omega)) (D4 _ (by omega) (by omega)) fun r hr => ?_
        rw [q5.pa] at hr
        by_cases c2 : r < 0
        · try simp (disch := first | assumption | omega | (apply At.mk; with_unfolding_all rfl)) only [↓go_eq, ↓ent_eq, Mv, NilC_at, Fld_at, add_mk, Nat.zero_add, Nat.add_zero, Add64, Sub64, Mul64, Quo64, Rem64, Neg64, Cvt64, CvtU8, CvtU16, CvtU32, CvtU64, AddU64, SubU64, MulU64, Shr64, Shr_u8, Shr_u16, Shr_u32, Shr_u64, And1, And31, And32, Eql64, Neq64, Bin_lss, Bin_leq, Bin_gtr, Bin_geq, Bin_bool_eql, Bin_bool_neq, Bin_ptr_nil_eql, Bin_ptr_nil_neq, Not_dec, Un_not, Pick_t, Pick_f, Pick_pos, Pick_neg, Gd_tt, Gd_tf, Gd_ft, Gd_ff, Gd_pos_t, Gd_neg_t, Gd_pos_f, Gd_neg_f, Gd_undef, If_t, If_f, If_pos, If_neg, CallF_eq, Max_two, Min_two, Len_rd, Len_own, Ld_blkE, Idx_rdN, Idx_ownN, Idx_rdE, Idx_ownE, IdxAE, LdA_two, Idx_at0, Ext_atE, Len_at, Int.toNat_natCast, Int.toNat_zero, Int.toNat_one, List.length_map, List.length_append, List.length_cons, List.length_nil, List.length_take, List.length_set, List.length_replicate, Bool.not_true, Bool.not_false, decide_true, decide_false, BEq.rfl, bne_self_eq_false, tf_beq, ft_beq, tf_bne, ft_bne, not_true_eq_false, not_false_eq_true, app]
          try rw [decide_eq_true c2]
          try simp (disch := first | assumption | omega | (apply At.mk; with_unfolding_all rfl)) only [↓go_eq, ↓ent_eq, Mv, NilC_at, Fld_at, add_mk, Nat.zero_add, Nat.add_zero, Add64, Sub64, Mul64, Quo64, Rem64, Neg64, Cvt64, CvtU8, CvtU16, CvtU32, CvtU64, AddU64, SubU64, MulU64, Shr64, Shr_u8, Shr_u16, Shr_u32, Shr_u64, And1, And31, And32, Eql64, Neq64, Bin_lss, Bin_leq, Bin_gtr, Bin_geq, Bin_bool_eql, Bin_bool_neq, Bin_ptr_nil_eql, Bin_ptr_nil_neq, Not_dec, Un_not, Pick_t, Pick_f, Pick_pos, Pick_neg, Gd_tt, Gd_tf, Gd_ft, Gd_ff, Gd_pos_t, Gd_neg_t, Gd_pos_f, Gd_neg_f, Gd_undef, If_t, If_f, If_pos, If_neg, CallF_eq, Max_two, Min_two, Len_rd, Len_own, Ld_blkE, Idx_rdN, Idx_ownN, Idx_rdE, Idx_ownE, IdxAE, LdA_two, Idx_at0, Ext_atE, Len_at, Int.toNat_natCast, Int.toNat_zero, Int.toNat_one, List.length_map, List.length_append, List.length_cons, List.length_nil, List.length_take, List.length_set, List.length_replicate, Bool.not_true, Bool.not_false, decide_true, decide_false, BEq.rfl, bne_self_eq_false, tf_beq, ft_beq, tf_bne, ft_bne, not_true_eq_false, not_false_eq_true, app]
          try rw [show (u : Int) + 1 = ((u + 1 : Nat) : Int) by omega]
          exact hW (u + 1) h4 ⟨rfl, by omega, q5.incr (by omega) (hr.1 c2)⟩ (by omega)
        · try simp (disch := first | assumption | omega | (apply At.mk; with_unfolding_all rfl)) only [↓go_eq, ↓ent_eq, Mv, NilC_at, Fld_at, add_mk, Nat.zero_add, Nat.add_zero, Add64, Sub64, Mul64, Quo64, Rem64, Neg64, Cvt64, CvtU8, CvtU16, CvtU32, CvtU64, AddU64, SubU64, MulU64, Shr64, Shr_u8, Shr_u16, Shr_u32, Shr_u64, And1, And31, And32, Eql64, Neq64, Bin_lss, Bin_leq, Bin_gtr, Bin_geq, Bin_bool_eql, Bin_bool_neq, Bin_ptr_nil_eql, Bin_ptr_nil_neq, Not_dec, Un_not, Pick_t, Pick_f, Pick_pos, Pick_neg, Gd_tt, Gd_tf, Gd_ft, Gd_ff, Gd_pos_t, Gd_neg_t, Gd_pos_f, Gd_neg_f, Gd_undef, If_t, If_f, If_pos, If_neg, CallF_eq, Max_two, Min_two, Len_rd, Len_own, Ld_blkE, Idx_rdN, Idx_ownN, Idx_rdE, Idx_ownE, IdxAE, LdA_two, Idx_at0, Ext_atE, Len_at, Int.toNat_natCast, Int.toNat_zero, Int.toNat_one, List.length_map, List.length_append, List.length_cons, List.length_nil, List.length_take, List.length_set, List.length_replicate, Bool.not_true, Bool.not_false, decide_true, decide_false, BEq.rfl, bne_self_eq_false, tf_beq, ft_beq, tf_bne, ft_bne, not_true_eq_false, not_false_eq_true, app]
          try rw [decide_eq_false c2]
          try simp (disch := first | assumption | omega | (apply At.mk; with_unfolding_all rfl)) only [↓go_eq, ↓ent_eq, Mv, NilC_at, Fld_at, add_mk, Nat.zero_add, Nat.add_zero, Add64, Sub64, Mul64, Quo64, Rem64, Neg64, Cvt64, CvtU8, CvtU16, CvtU32, CvtU64, AddU64, SubU64, MulU64, Shr64, Shr_u8, Shr_u16, Shr_u32, Shr_u64, And1, And31, And32, Eql64, Neq64, Bin_lss, Bin_leq, Bin_gtr, Bin_geq, Bin_bool_eql, Bin_bool_neq, Bin_ptr_nil_eql, Bin_ptr_nil_neq, Not_dec, Un_not, Pick_t, Pick_f, Pick_pos, Pick_neg, Gd_tt, Gd_tf, Gd_ft, Gd_ff, Gd_pos_t, Gd_neg_t, Gd_pos_f, Gd_neg_f, Gd_undef, If_t, If_f, If_pos, If_neg, CallF_eq, Max_two, Min_two, Len_rd, Len_own, Ld_blkE, Idx_rdN, Idx_ownN, Idx_rdE, Idx_ownE, IdxAE, LdA_two, Idx_at0, Ext_atE, Len_at, Int.toNat_natCast, Int.toNat_zero, Int.toNat_one, List.length_map, List.length_append, List.length_cons, List.length_nil, List.length_take, List.length_set, List.length_replicate, Bool.not_true, Bool.not_false, decide_true, decide_false, BEq.rfl, bne_self_eq_false, tf_beq, ft_beq, tf_bne, ft_bne, not_true_eq_false, not_false_eq_true, app]
          exact fin fun _ x => c2 (hr.2 x)
      · try simp (disch := first | assumption | omega | (apply At.mk; with_unfolding_all rfl)) only [↓go_eq, ↓ent_eq, Mv, NilC_at, Fld_at, add_mk, Nat.zero_add, Nat.add_zero, Add64, Sub64, Mul64, Quo64, Rem64, Neg64, Cvt64, CvtU8, CvtU16, CvtU32, CvtU64, AddU64, SubU64, MulU64, Shr64, Shr_u8, Shr_u16, Shr_u32, Shr_u64, And1, And31, And32, Eql64, Neq64, Bin_lss, Bin_leq, Bin_gtr, Bin_geq, Bin_bool_eql, Bin_bool_neq, Bin_ptr_nil_eql, Bin_ptr_nil_neq, Not_dec, Un_not, Pick_t, Pick_f, Pick_pos, Pick_neg, Gd_tt, Gd_tf, Gd_ft, Gd_ff, Gd_pos_t, Gd_neg_t, Gd_pos_f, Gd_neg_f, Gd_undef, If_t, If_f, If_pos, If_neg, CallF_eq, Max_two, Min_two, Len_rd, Len_own, Ld_blkE, Idx_rdN, Idx_ownN, Idx_rdE, Idx_ownE, IdxAE, LdA_two, Idx_at0, Ext_atE, Len_at, Int.toNat_natCast, Int.toNat_zero, Int.toNat_one, List.length_map, List.length_append, List.length_cons, List.length_nil, List.length_take, List.length_set, List.length_replicate, Bool.not_true, Bool.not_false, decide_true, decide_false, BEq.rfl, bne_self_eq_false, tf_beq, ft_beq, tf_bne, ft_bne, not_true_eq_false, not_false_eq_true, app]
        exact fin fun x => absurd x (by omega)
    · try simp (disch := first | assumption | omega | (apply At.mk; with_unfolding_all rfl)) only [↓go_eq, ↓ent_eq, Mv, NilC_at, Fld_at, add_mk, Nat.zero_add, Nat.add_zero, Add64, Sub64, Mul64, Quo64, Rem64, Neg64, Cvt64, CvtU8, CvtU16, CvtU32, CvtU64, AddU64, SubU64, MulU64, Shr64, Shr_u8, Shr_u16, Shr_u32, Shr_u64, And1, And31, And32, Eql64, Neq64, Bin_lss, Bin_leq, Bin_gtr, Bin_geq, Bin_bool_eql, Bin_bool_neq, Bin_ptr_nil_eql, Bin_ptr_nil_neq, Not_dec, Un_not, Pick_t, Pick_f, Pick_pos, Pick_neg, Gd_tt, Gd_tf, Gd_ft, Gd_ff, Gd_pos_t, Gd_neg_t, Gd_pos_f, Gd_neg_f, Gd_undef, If_t, If_f, If_pos, If_neg, CallF_eq, Max_two, Min_two, Len_rd, Len_own, Ld_blkE, Idx_rdN, Idx_ownN, Idx_rdE, Idx_ownE, IdxAE, LdA_two, Idx_at0, Ext_atE, Len_at, Int.toNat_natCast, Int.toNat_zero, Int.toNat_one, List.length_map, List.length_append, List.length_cons, List.length_nil, List.length_take, List.length_set, List.length_replicate, Bool.not_true, Bool.not_false, decide_true, decide_false, BEq.rfl, bne_self_eq_false, tf_beq, ft_beq, tf_bne, ft_bne, not_true_eq_false, not_false_eq_true, app]
      try rw [decide_eq_false c2]
      try simp (disch := first | assumption | omega | (apply At.mk; with_unfolding_all rfl)) only [↓go_eq, ↓ent_eq, Mv, NilC_at, Fld_at, add_mk, Nat.zero_add, Nat.add_zero, Add64, Sub64, Mul64, Quo64, Rem64, Neg64, Cvt64, CvtU8, CvtU16, CvtU32, CvtU64, AddU64, SubU64, MulU64, Shr64, Shr_u8, Shr_u16, Shr_u32, Shr_u64, And1, And31, And32, Eql64, Neq64, Bin_lss, Bin_leq, Bin_gtr, Bin_geq, Bin_bool_eql, Bin_bool_neq, Bin_ptr_nil_eql, Bin_ptr_nil_neq, Not_dec, Un_not, Pick_t, Pick_f, Pick_pos, Pick_neg, Gd_tt, Gd_tf, Gd_ft, Gd_ff, Gd_pos_t, Gd_neg_t, Gd_pos_f, Gd_neg_f, Gd_undef, If_t, If_f, If_pos, If_neg, CallF_eq, Max_two, Min_two, Len_rd, Len_own, Ld_blkE, Idx_rdN, Idx_ownN, Idx_rdE, Idx_ownE, IdxAE, LdA_two, Idx_at0, Ext_atE, Len_at, Int.toNat_natCast, Int.toNat_zero, Int.toNat_one, List.length_map, List.length_append, List.length_cons, List.length_nil, List.length_take, List.length_set, List.length_replicate, Bool.not_true, Bool.not_false, decide_true, decide_false, BEq.rfl, bne_self_eq_false, tf_beq, ft_beq, tf_bne, ft_bne, not_true_eq_false, not_false_eq_true, app]
      try rw [show (s : Int) - 1 = ((s - 1 : Nat) : Int) by omega]
      exact hY (s - 1) h2 ⟨rfl, by omega, q.decr (by omega) fun x => c2 (hr.2 x)⟩ (by omega)
  · have c3 : (i : Int) > (s : Nat) := by omega
    try simp (disch := first | assumption | omega | (apply At.mk; with_unfolding_all rfl)) only [↓go_eq, ↓ent_eq, Mv, NilC_at, Fld_at, add_mk, Nat.zero_add, Nat.add_zero, Add64, Sub64, Mul64, Quo64, Rem64, Neg64, Cvt64, CvtU8, CvtU16, CvtU32, CvtU64, AddU64, SubU64, MulU64, Shr64, Shr_u8, Shr_u16, Shr_u32, Shr_u64, And1, And31, And32, Eql64, Neq64, Bin_lss, Bin_leq, Bin_gtr, Bin_geq, Bin_bool_eql, Bin_bool_neq, Bin_ptr_nil_eql, Bin_ptr_nil_neq, Not_dec, Un_not, Pick_t, Pick_f, Pick_pos, Pick_neg, Gd_tt, Gd_tf, Gd_ft, Gd_ff, Gd_pos_t, Gd_neg_t, Gd_pos_f, Gd_neg_f, Gd_undef, If_t, If_f, If_pos, If_neg, CallF_eq, Max_two, Min_two, Len_rd, Len_own, Ld_blkE, Idx_rdN, Idx_ownN, Idx_rdE, Idx_ownE, IdxAE, LdA_two, Idx_at0, Ext_atE, Len_at, Int.toNat_natCast, Int.toNat_zero, Int.toNat_one, List.length_map, List.length_append, List.length_cons, List.length_nil, List.length_take, List.length_set, List.length_replicate, Bool.not_true, Bool.not_false, decide_true, decide_false, BEq.rfl, bne_self_eq_false, tf_beq, ft_beq, tf_bne, ft_bne, not_true_eq_false, not_false_eq_true, app]
    refine swap2 (i := s) (j := a) w2 (by omega) (by omega) fun h3 w3 f3 => ?_
    try simp (disch := first | assumption | omega | (apply At.mk; with_unfolding_all rfl)) only [↓go_eq, ↓ent_eq, Mv, NilC_at, Fld_at, add_mk, Nat.zero_add, Nat.add_zero, Add64, Sub64, Mul64, Quo64, Rem64, Neg64, Cvt64, CvtU8, CvtU16, CvtU32, CvtU64, AddU64, SubU64, MulU64, Shr64, Shr_u8, Shr_u16, Shr_u32, Shr_u64, And1, And31, And32, Eql64, Neq64, Bin_lss, Bin_leq, Bin_gtr, Bin_geq, Bin_bool_eql, Bin_bool_neq, Bin_ptr_nil_eql, Bin_ptr_nil_neq, Not_dec, Un_not, Pick_t, Pick_f, Pick_pos, Pick_neg, Gd_tt, Gd_tf, Gd_ft, Gd_ff, Gd_pos_t, Gd_neg_t, Gd_pos_f, Gd_neg_f, Gd_undef, If_t, If_f, If_pos, If_neg, CallF_eq, Max_two, Min_two, Len_rd, Len_own, Ld_blkE, Idx_rdN, Idx_ownN, Idx_rdE, Idx_ownE, IdxAE, LdA_two, Idx_at0, Ext_atE, Len_at, Int.toNat_natCast, Int.toNat_zero, Int.toNat_one, List.length_map, List.length_append, List.length_cons, List.length_nil, List.length_take, List.length_set, List.length_replicate, Bool.not_true, Bool.not_false, decide_true, decide_false, BEq.rfl, bne_self_eq_false, tf_beq, ft_beq, tf_bne, ft_bne, not_true_eq_false, not_false_eq_true, app]
    exact hk h3 _ s _ w3 (p2.step s a (by omega) (by omega) (by omega) (by omega)) (q.done (by omega)) (f2.trans f3)
set_option maxHeartbeats 8000000 in
theorem slices_partitionCmpFunc_int.spec {a b pi : Nat} {f : Nat → Int} (o : Ord L) (hc : Cmp L cv ok D) (hok : ∀ h h', ok h → Fr bs h h' → ok h') (hab : a < b) (hb : b ≤ m) (hp : a ≤ pi ∧ pi < b) (hm : m ≤ 1000000000) (hD : ∀ k, a ≤ k → k < b → D (f k)) (w : Own h v (arr m f) bs) (h0 : ok h)
    (hk : ∀ h' g mid x, Own h' v (arr m g) bs → Pm a b f g → Parted L a b mid g → Fr bs h h' → K (.tuple #[Iv (mid : Nat), .bool x]) h') : CallH Try.prog slices_partitionCmpFunc_int.id #[v, Iv (a : Nat), Iv (b : Nat), Iv (pi : Nat), cv] K h := by
  refine slices_partitionCmpFunc_int.ok ?_
  simp only [slices_partitionCmpFunc_int.pt]
  have a1 := arr_at f (show pi < m by omega)
  have a2 := arr_at f (show a < m by omega)
  try simp (disch := first | assumption | omega | (apply At.mk; with_unfolding_all rfl)) only [↓go_eq, ↓ent_eq, Mv, NilC_at, Fld_at, add_mk, Nat.zero_add, Nat.add_zero, Add64, Sub64, Mul64, Quo64, Rem64, Neg64, Cvt64, CvtU8, CvtU16, CvtU32, CvtU64, AddU64, SubU64, MulU64, Shr64, Shr_u8, Shr_u16, Shr_u32, Shr_u64, And1, And31, And32, Eql64, Neq64, Bin_lss, Bin_leq, Bin_gtr, Bin_geq, Bin_bool_eql, Bin_bool_neq, Bin_ptr_nil_eql, Bin_ptr_nil_neq, Not_dec, Un_not, Pick_t, Pick_f, Pick_pos, Pick_neg, Gd_tt, Gd_tf, Gd_ft, Gd_ff, Gd_pos_t, Gd_neg_t, Gd_pos_f, Gd_neg_f, Gd_undef, If_t, If_f, If_pos, If_neg, CallF_eq, Max_two, Min_two, Len_rd, Len_own, Ld_blkE, Idx_rdN, Idx_ownN, Idx_rdE, Idx_ownE, IdxAE, LdA_two, Idx_at0, Ext_atE, Len_at, Int.toNat_natCast, Int.toNat_zero, Int.toNat_one, List.length_map, List.length_append, List.length_cons, List.length_nil, List.length_take, List.length_set, List.length_replicate, Bool.not_true, Bool.not_false, decide_true, decide_false, BEq.rfl, bne_self_eq_false, tf_beq, ft_beq, tf_bne, ft_bne, not_true_eq_false, not_false_eq_true, app]
  refine swap2 (i := a) (j := pi) w (by omega) (by omega) fun h1 w1 f1 => ?_
  have p1 : Pm a b f (swp f a pi) := Pm.refl.step a pi (Nat.le_refl _) hab hp.1 hp.2
  obtain ⟨pv, hpv⟩ : ∃ pv, swp f a pi a = pv := ⟨_, rfl⟩
  have q1 := PtI.start (L := L) hab hpv
  generalize swp f a pi = g1 at *
  clear a1 a2
  try simp (disch := first | assumption | omega | (apply At.mk; with_unfolding_all rfl)) only [↓go_eq, ↓ent_eq, Mv, NilC_at, Fld_at, add_mk, Nat.zero_add, Nat.add_zero, Add64, Sub64, Mul64, Quo64, Rem64, Neg64, Cvt64, CvtU8, CvtU16, CvtU32, CvtU64, AddU64, SubU64, MulU64, Shr64, Shr_u8, Shr_u16, Shr_u32, Shr_u64, And1, And31, And32, Eql64, Neq64, Bin_lss, Bin_leq, Bin_gtr, Bin_geq, Bin_bool_eql, Bin_bool_neq, Bin_ptr_nil_eql, Bin_ptr_nil_neq, Not_dec, Un_not, Pick_t, Pick_f, Pick_pos, Pick_neg, Gd_tt, Gd_tf, Gd_ft, Gd_ff, Gd_pos_t, Gd_neg_t, Gd_pos_f, Gd_neg_f, Gd_undef, If_t, If_f, If_pos, If_neg, CallF_eq, Max_two, Min_two, Len_rd, Len_own, Ld_blkE, Idx_rdN, Idx_ownN, Idx_rdE, Idx_ownE, IdxAE, LdA_two, Idx_at0, Ext_atE, Len_at, Int.toNat_natCast, Int.toNat_zero, Int.toNat_one, List.length_map, List.length_append, List.length_cons, List.length_nil, List.length_take, List.length_set, List.length_replicate, Bool.not_true, Bool.not_false, decide_true, decide_false, BEq.rfl, bne_self_eq_false, tf_beq, ft_beq, tf_bne, ft_bne, not_true_eq_false, not_false_eq_true, app]
  have e1 : (a : Int) + 1 = ((a + 1 : Nat) : Int) := by omega
  have e2 : (b : Int) - 1 = ((b - 1 : Nat) : Int) := by omega
  simp only [e1, e2]
  refine Lp_fn (σ := Nat × Nat × (Nat → Int)) (fun s => [v, Iv (a : Nat), cv, Iv (s.1 : Nat), Iv (s.2.1 : Nat)]) (fun s h' => Own h' v (arr m s.2.2) bs ∧ Pm a b f s.2.2 ∧ PtI L a b s.1 s.2.1 pv s.2.2 ∧ Fr bs h h') (fun s => s.2.1 + 1 - s.1) (a + 1, b - 1, g1) rfl (fun _ => rfl) ⟨w1, p1, q1, f1⟩ ?_
  clear w1 p1 q1 f1 hpv e1 e2
  rintro ⟨i, j, g⟩ h2 ⟨w2, p2, q2, f2⟩ X hX
  simp only at w2 p2 q2
  have b1 := q2.hi
  have b2 := q2.hj
  have b3 := q2.hij
  -- the end of it: the pivot goes to its place
  have ai := arr_at g (show a < m by omega)
  have D2 := p2.all hD
  have ok2 := hok _ _ h0 f2
  by_cases c1 : (i : Int) ≤ (j : Nat)
  · have aI := arr_at g (show i < m by omega)
    try simp (disch := first | assumption | omega | (apply At.mk; with_unfolding_all rfl)) only [↓go_eq, ↓ent_eq, Mv, NilC_at, Fld_at, add_mk, Nat.zero_add, Nat.add_zero, Add64, Sub64, Mul64, Quo64, Rem64, Neg64, Cvt64, CvtU8, CvtU16, CvtU32, CvtU64, AddU64, SubU64, MulU64, Shr64, Shr_u8, Shr_u16, Shr_u32, Shr_u64, And1, And31, And32, Eql64, Neq64, Bin_lss, Bin_leq, Bin_gtr, Bin_geq, Bin_bool_eql, Bin_bool_neq, Bin_ptr_nil_eql, Bin_ptr_nil_neq, Not_dec, Un_not, Pick_t, Pick_f, Pick_pos, Pick_neg, Gd_tt, Gd_tf, Gd_ft, Gd_ff, Gd_pos_t, Gd_neg_t, Gd_pos_f, Gd_neg_f, Gd_undef, If_t, If_f, If_pos, If_neg, CallF_eq, Max_two, Min_two, Len_rd, Len_own, Ld_blkE, Idx_rdN, Idx_ownN, Idx_rdE, Idx_ownE, IdxAE, LdA_two, Idx_at0, Ext_atE, Len_at, Int.toNat_natCast, Int.toNat_zero, Int.toNat_one, List.length_map, List.length_append, List.length_cons, List.length_nil, List.length_take, List.length_set, List.length_replicate, Bool.not_true, Bool.not_false, decide_true, decide_false, BEq.rfl, bne_self_eq_false, tf_beq, ft_beq, tf_bne, ft_bne, not_true_eq_false, not_false_eq_true, app]
    refine hc _ _ _ _ ok2 (D2 _ (by omega) (by omega)) (D2 _ (by omega) (by omega)) fun r hr => ?_
    rw [q2.pa] at hr
    by_cases c2 : r < 0
    · try simp (disch := first | assumption | omega | (apply At.mk; with_unfolding_all rfl)) only [↓go_eq, ↓ent_eq, Mv, NilC_at, Fld_at, add_mk, Nat.zero_add, Nat.add_zero, Add64, Sub64, Mul64, Quo64, Rem64, Neg64, Cvt64, CvtU8, CvtU16, CvtU32, CvtU64, AddU64, SubU64, MulU64, Shr64, Shr_u8, Shr_u16, Shr_u32, Shr_u64, And1, And31, And32, Eql64, Neq64, Bin_lss, Bin_leq, Bin_gtr, Bin_geq, Bin_bool_eql, Bin_bool_neq, Bin_ptr_nil_eql, Bin_ptr_nil_neq, Not_dec, Un_not, Pick_t, Pick_f, Pick_pos, Pick_neg, Gd_tt, Gd_tf, Gd_ft, Gd_ff, Gd_pos_t, Gd_neg_t, Gd_pos_f, Gd_neg_f, Gd_undef, If_t, If_f, If_pos, If_neg, CallF_eq, Max_two, Min_two, Len_rd, Len_own, Ld_blkE, Idx_rdN, Idx_ownN, Idx_rdE, Idx_ownE, IdxAE, LdA_two, Idx_at0, Ext_atE, Len_at, Int.toNat_natCast, Int.toNat_zero, Int.toNat_one, List.length_map, List.length_append, List.length_cons, List.length_nil, List.length_take, List.length_set, List.length_replicate, Bool.not_true, Bool.not_false, decide_true, decide_false, BEq.rfl, bne_self_eq_false, tf_beq, ft_beq, tf_bne, ft_bne, not_true_eq_false, not_false_eq_true, app]
      try rw [decide_eq_true c2]
      try simp (disch := first | assumption | omega | (apply At.mk; with_unfolding_all rfl)) only [↓go_eq, ↓ent_eq, Mv, NilC_at, Fld_at, add_mk, Nat.zero_add, Nat.add_zero, Add64, Sub64, Mul64, Quo64, Rem64, Neg64, Cvt64, CvtU8, CvtU16, CvtU32, CvtU64, AddU64, SubU64, MulU64, Shr64, Shr_u8, Shr_u16, Shr_u32, Shr_u64, And1, And31, And32, Eql64, Neq64, Bin_lss, Bin_leq, Bin_gtr, Bin_geq, Bin_bool_eql, Bin_bool_neq, Bin_ptr_nil_eql, Bin_ptr_nil_neq, Not_dec, Un_not, Pick_t, Pick_f, Pick_pos, Pick_neg, Gd_tt, Gd_tf, Gd_ft, Gd_ff, Gd_pos_t, Gd_neg_t, Gd_pos_f, Gd_neg_f, Gd_undef, If_t, If_f, If_pos, If_neg, CallF_eq, Max_two, Min_two, Len_rd, Len_own, Ld_blkE, Idx_rdN, Idx_ownN, Idx_rdE, Idx_ownE, IdxAE, LdA_two, Idx_at0, Ext_atE, Len_at, Int.toNat_natCast, Int.toNat_zero, Int.toNat_one, List.length_map, List.length_append, List.length_cons, List.length_nil, List.length_take, List.length_set, List.length_replicate, Bool.not_true, Bool.not_false, decide_true, decide_false, BEq.rfl, bne_self_eq_false, tf_beq, ft_beq, tf_bne, ft_bne, not_true_eq_false, not_false_eq_true, app]
      try rw [show (i : Int) + 1 = ((i + 1 : Nat) : Int) by omega]
      exact hX (i + 1, j, g) h2 ⟨w2, p2, q2.incr (by omega) (hr.1 c2), f2⟩ (by simp only; omega)
    · try simp (disch := first | assumption | omega | (apply At.mk; with_unfolding_all rfl)) only [↓go_eq, ↓ent_eq, Mv, NilC_at, Fld_at, add_mk, Nat.zero_add, Nat.add_zero, Add64, Sub64, Mul64, Quo64, Rem64, Neg64, Cvt64, CvtU8, CvtU16, CvtU32, CvtU64, AddU64, SubU64, MulU64, Shr64, Shr_u8, Shr_u16, Shr_u32, Shr_u64, And1, And31, And32, Eql64, Neq64, Bin_lss, Bin_leq, Bin_gtr, Bin_geq, Bin_bool_eql, Bin_bool_neq, Bin_ptr_nil_eql, Bin_ptr_nil_neq, Not_dec, Un_not, Pick_t, Pick_f, Pick_pos, Pick_neg, Gd_tt, Gd_tf, Gd_ft, Gd_ff, Gd_pos_t, Gd_neg_t, Gd_pos_f, Gd_neg_f, Gd_undef, If_t, If_f, If_pos, If_neg, CallF_eq, Max_two, Min_two, Len_rd, Len_own, Ld_blkE, Idx_rdN, Idx_ownN, Idx_rdE, Idx_ownE, IdxAE, LdA_two, Idx_at0, Ext_atE, Len_at, Int.toNat_natCast, Int.toNat_zero, Int.toNat_one, List.length_map, List.length_append, List.length_cons, List.length_nil, List.length_take, List.length_set, List.length_replicate, Bool.not_true, Bool.not_false, decide_true, decide_false, BEq.rfl, bne_self_eq_false, tf_beq, ft_beq, tf_bne, ft_bne, not_true_eq_false, not_false_eq_true, app]
      try rw [decide_eq_false c2]
      try simp (disch := first | assumption | omega | (apply At.mk; with_unfolding_all rfl)) only [↓go_eq, ↓ent_eq, Mv, NilC_at, Fld_at, add_mk, Nat.zero_add, Nat.add_zero, Add64, Sub64, Mul64, Quo64, Rem64, Neg64, Cvt64, CvtU8, CvtU16, CvtU32, CvtU64, AddU64, SubU64, MulU64, Shr64, Shr_u8, Shr_u16, Shr_u32, Shr_u64, And1, And31, And32, Eql64, Neq64, Bin_lss, Bin_leq, Bin_gtr, Bin_geq, Bin_bool_eql, Bin_bool_neq, Bin_ptr_nil_eql, Bin_ptr_nil_neq, Not_dec, Un_not, Pick_t, Pick_f, Pick_pos, Pick_neg, Gd_tt, Gd_tf, Gd_ft, Gd_ff, Gd_pos_t, Gd_neg_t, Gd_pos_f, Gd_neg_f, Gd_undef, If_t, If_f, If_pos, If_neg, CallF_eq, Max_two, Min_two, Len_rd, Len_own, Ld_blkE, Idx_rdN, Idx_ownN, Idx_rdE, Idx_ownE, IdxAE, LdA_two, Idx_at0, Ext_atE, Len_at, Int.toNat_natCast, Int.toNat_zero, Int.toNat_one, List.length_map, List.length_append, List.length_cons, List.length_nil, List.length_take, List.length_set, List.length_replicate, Bool.not_true, Bool.not_false, decide_true, decide_false, BEq.rfl, bne_self_eq_false, tf_beq, ft_beq, tf_bne, ft_bne, not_true_eq_false, not_false_eq_true, app]
      exact part2 o hc hok hab hb hm hD h0 hk w2 p2 q2 f2 fun _ x => c2 (hr.2 x)
  · try simp (disch := first | assumption | omega | (apply At.mk; with_unfolding_all rfl)) only [↓go_eq, ↓ent_eq, Mv, NilC_at, Fld_at, add_mk, Nat.zero_add, Nat.add_zero, Add64, Sub64, Mul64, Quo64, Rem64, Neg64, Cvt64, CvtU8, CvtU16, CvtU32, CvtU64, AddU64, SubU64, MulU64, Shr64, Shr_u8, Shr_u16, Shr_u32, Shr_u64, And1, And31, And32, Eql64, Neq64, Bin_lss, Bin_leq, Bin_gtr, Bin_geq, Bin_bool_eql, Bin_bool_neq, Bin_ptr_nil_eql, Bin_ptr_nil_neq, Not_dec, Un_not, Pick_t, Pick_f, Pick_pos, Pick_neg, Gd_tt, Gd_tf, Gd_ft, Gd_ff, Gd_pos_t, Gd_neg_t, Gd_pos_f, Gd_neg_f, Gd_undef, If_t, If_f, If_pos, If_neg, CallF_eq, Max_two, Min_two, Len_rd, Len_own, Ld_blkE, Idx_rdN, Idx_ownN, Idx_rdE, Idx_ownE, IdxAE, LdA_two, Idx_at0, Ext_atE, Len_at, Int.toNat_natCast, Int.toNat_zero, Int.toNat_one, List.length_map, List.length_append, List.length_cons, List.length_nil, List.length_take, List.length_set, List.length_replicate, Bool.not_true, Bool.not_false, decide_true, decide_false, BEq.rfl, bne_self_eq_false, tf_beq, ft_beq, tf_bne, ft_bne, not_true_eq_false, not_false_eq_true, app]
    exact part2 o hc hok hab hb hm hD h0 hk w2 p2 q2 f2 fun x => absurd x (by omega)
end
end So
end Go.Proofs.Ytjedohcphkdekaa
