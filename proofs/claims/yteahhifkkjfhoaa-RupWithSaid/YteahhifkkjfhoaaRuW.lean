/- The clauses that have a literal, gone through; ranges whose values are made anew. Conditions: those typed ahead of each theorem. -/
import Derived.Test.YteahhifkkjfhoaaRu9
namespace Go.Proofs.Yteahhifkkjfhoaa
open Go.Pt
set_option linter.unusedVariables false
set_option linter.unusedSimpArgs false
/-- A function that hands n values to its yield, each made ahead of the call out of new memory; A is what it leans on. -/
def SeqD (P : Program) (gf : FuncId) (captured : Array Value) (n : Nat) (A : Heap → Prop) (Q : Nat → Value → Nat → Heap → Prop) : Prop :=
  ∀ (y : Value) (h : Heap) (I : Nat → Heap → Prop) (E : Heap → Prop), I 0 h → (∀ i h, I i h → A h) →
    (∀ (i : Nat) (x : Value) (h h1 : Heap), i < n → I i h → Fr [] h h1 → Q i x h.size h1 → CallV P y [x] (fun v h' => (v = .bool true ∧ I (i + 1) h') ∨ (v = .bool false ∧ E h')) h1) →
    CallH P gf (#[y] ++ captured) (fun _ h' => I n h' ∨ E h') h
theorem Rng_ruleD {P : Program} {gf : FuncId} {captured : Array Value} {round : ((Heap → Prop) → Heap → Prop) → (Heap → Prop) → (Ex → Heap → Prop) → Cur 1} {after : Heap → Prop} {left : Ex → Heap → Prop} {h : Heap}
    {n : Nat} {A : Heap → Prop} {Q : Nat → Value → Nat → Heap → Prop} (hb : hasBody P gf = true) (hseq : SeqD P gf captured n A Q) (J : Nat → Heap → Prop) (EJ : Ex → Heap → Prop)
    (hA : ∀ i h, J i h → A h) (hJ1 : ∀ i l h1 h2, h.size ≤ l → One l h1 h2 → J i h1 → J i h2) (hE1 : ∀ ex l h1 h2, h.size ≤ l → One l h1 h2 → EJ ex h1 → EJ ex h2) (hJF : ∀ i h1 h2, J i h1 → Fr [] h1 h2 → J i h2) (hQ1 : ∀ i x m l h1 h2, One l h1 h2 → Q i x m h1 → Q i x m h2)
    (h0 : ∀ h1, Fr [] h h1 → J 0 h1)
    (hround : ∀ (i : Nat) (x : Value) (h0 h1 : Heap) (B : (Heap → Prop) → Heap → Prop) (N : Heap → Prop) (L : Ex → Heap → Prop), i < n → J i h0 →
      (∀ X : Heap → Prop, (∀ h2, J i h2 → Q i x h0.size h2 → X h2) → B X h1) → (∀ h2, J (i + 1) h2 → N h2) → (∀ ex h2, EJ ex h2 → L ex h2) → round B N L x h1)
    (hafter : ∀ h1, J n h1 → after h1) (hleft : ∀ ex h1, EJ ex h1 → left ex h1) : RngF P (.func (.func gf) #[] captured) 1 round after left h := by
  refine ⟨⟨hb, ?_⟩⟩
  intro y l h1 Rdy Dn hl hlt hfr hr hst hdn hcall
  have f1 : Fr [] h h1 := ⟨by omega, fun c hc _ => hfr c hc⟩
  have := hseq y h1 (fun i h => Rdy h ∧ l < h.size ∧ J i h) (fun h => ∃ ex, Dn ex h ∧ EJ ex h) ⟨hr, hlt, h0 _ f1⟩ (fun i h hI => hA i h hI.2.2) ?_
  · rw [Array.empty_append]
    refine this.mono ?_
    rintro v h6 (⟨h2, _, h3⟩ | ⟨ex, h2, h3⟩)
    · exact .inl ⟨h2, fun h7 o => hafter _ (hJ1 _ _ _ _ hl o h3)⟩
    · exact .inr ⟨ex, h2, fun h7 o => hleft _ _ (hE1 _ _ _ _ hl o h3)⟩
  · rintro i x h2 h3 hi ⟨hr2, hl2, hJ2⟩ f23 hq
    have hr3 : Rdy h3 := hst h2 h3 hr2 (f23.keep l hl2 (by simp))
    refine hcall [x] _ h3 rfl hr3 ?_
    refine hround i x h2 h3 _ _ _ hi hJ2 (fun X hX => ⟨hr3, fun h4 o => hX _ (hJ1 _ _ _ _ hl o (hJF _ _ _ hJ2 f23)) (hQ1 _ _ _ _ _ _ o hq)⟩) ?_ ?_
    · intro h4 hJ4 h5 o hr5
      refine .inl ⟨rfl, hr5, ?_, hJ1 _ _ _ _ hl o hJ4⟩
      have := o.lt
      have := o.size
      omega
    · intro ex h4 hE4 h5 o hd5
      exact .inr ⟨rfl, ex, hd5, hE1 _ _ _ _ hl o hE4⟩
theorem slices_Index_int_int.spec {v : Value} {c : List Int} {x : Int} (hl : c.length ≤ 1000000000) {K : Ret} {h : Heap} (hv : Rd h v (c.map Iv)) (hk : ∀ i : Int, (0 ≤ i ↔ x ∈ c) → K (Iv i) h) : CallH Try.prog slices_Index_int_int.id #[v, Iv x] K h := by
  refine slices_Index_int_int.ok ?_
  simp only [slices_Index_int_int.pt]
  try simp (disch := first | assumption | omega | (apply At.mk; with_unfolding_all rfl)) only [↓go_eq, ↓ent_eq, Mv, NilC_at, Fld_at, add_mk, Nat.zero_add, Nat.add_zero, Add64, Sub64, Mul64, Quo64, Rem64, Neg64, Cvt64, CvtU8, CvtU16, CvtU32, CvtU64, AddU64, SubU64, MulU64, Shr64, Shr_u8, Shr_u16, Shr_u32, Shr_u64, And1, And31, And32, Eql64, Neq64, Bin_lss, Bin_leq, Bin_gtr, Bin_geq, Bin_bool_eql, Bin_bool_neq, Bin_ptr_nil_eql, Bin_ptr_nil_neq, Not_dec, Un_not, Pick_t, Pick_f, Pick_pos, Pick_neg, Gd_tt, Gd_tf, Gd_ft, Gd_ff, Gd_pos_t, Gd_neg_t, Gd_pos_f, Gd_neg_f, Gd_undef, If_t, If_f, If_pos, If_neg, CallF_eq, Max_two, Min_two, Len_rd, Len_own, Ld_blkE, Idx_rdN, Idx_ownN, Idx_rdE, Idx_ownE, IdxAE, LdA_two, Idx_at0, Ext_atE, Len_at, Int.toNat_natCast, Int.toNat_zero, Int.toNat_one, List.length_map, List.length_append, List.length_cons, List.length_nil, List.length_take, List.length_set, List.length_replicate, Bool.not_true, Bool.not_false, decide_true, decide_false, BEq.rfl, bne_self_eq_false, tf_beq, ft_beq, tf_bne, ft_bne, not_true_eq_false, not_false_eq_true, app]
  refine Lp_fn (σ := Nat) (fun i => [v, Iv x, Iv (c.length : Nat), Iv (i : Nat)]) (fun i h' => h = h' ∧ i ≤ c.length ∧ x ∉ c.take i) (fun i => c.length - i) 0 rfl (fun _ => rfl) ⟨rfl, Nat.zero_le _, by simp⟩ ?_
  rintro i _ ⟨rfl, hi, ht⟩ X hX
  by_cases c1 : (i : Int) < (c.length : Nat)
  · have a1 := at_getD (show i < c.length by omega)
    by_cases c2 : x = c.getD i 0
    · try simp (disch := first | assumption | omega | (apply At.mk; with_unfolding_all rfl)) only [↓go_eq, ↓ent_eq, Mv, NilC_at, Fld_at, add_mk, Nat.zero_add, Nat.add_zero, Add64, Sub64, Mul64, Quo64, Rem64, Neg64, Cvt64, CvtU8, CvtU16, CvtU32, CvtU64, AddU64, SubU64, MulU64, Shr64, Shr_u8, Shr_u16, Shr_u32, Shr_u64, And1, And31, And32, Eql64, Neq64, Bin_lss, Bin_leq, Bin_gtr, Bin_geq, Bin_bool_eql, Bin_bool_neq, Bin_ptr_nil_eql, Bin_ptr_nil_neq, Not_dec, Un_not, Pick_t, Pick_f, Pick_pos, Pick_neg, Gd_tt, Gd_tf, Gd_ft, Gd_ff, Gd_pos_t, Gd_neg_t, Gd_pos_f, Gd_neg_f, Gd_undef, If_t, If_f, If_pos, If_neg, CallF_eq, Max_two, Min_two, Len_rd, Len_own, Ld_blkE, Idx_rdN, Idx_ownN, Idx_rdE, Idx_ownE, IdxAE, LdA_two, Idx_at0, Ext_atE, Len_at, Int.toNat_natCast, Int.toNat_zero, Int.toNat_one, List.length_map, List.length_append, List.length_cons, List.length_nil, List.length_take, List.length_set, List.length_replicate, Bool.not_true, Bool.not_false, decide_true, decide_false, BEq.rfl, bne_self_eq_false, tf_beq, ft_beq, tf_bne, ft_bne, not_true_eq_false, not_false_eq_true, app]
      exact hk i ⟨fun _ => by rw [c2]; exact getD_mem (by omega), fun _ => by omega⟩
    · try simp (disch := first | assumption | omega | (apply At.mk; with_unfolding_all rfl)) only [↓go_eq, ↓ent_eq, Mv, NilC_at, Fld_at, add_mk, Nat.zero_add, Nat.add_zero, Add64, Sub64, Mul64, Quo64, Rem64, Neg64, Cvt64, CvtU8, CvtU16, CvtU32, CvtU64, AddU64, SubU64, MulU64, Shr64, Shr_u8, Shr_u16, Shr_u32, Shr_u64, And1, And31, And32, Eql64, Neq64, Bin_lss, Bin_leq, Bin_gtr, Bin_geq, Bin_bool_eql, Bin_bool_neq, Bin_ptr_nil_eql, Bin_ptr_nil_neq, Not_dec, Un_not, Pick_t, Pick_f, Pick_pos, Pick_neg, Gd_tt, Gd_tf, Gd_ft, Gd_ff, Gd_pos_t, Gd_neg_t, Gd_pos_f, Gd_neg_f, Gd_undef, If_t, If_f, If_pos, If_neg, CallF_eq, Max_two, Min_two, Len_rd, Len_own, Ld_blkE, Idx_rdN, Idx_ownN, Idx_rdE, Idx_ownE, IdxAE, LdA_two, Idx_at0, Ext_atE, Len_at, Int.toNat_natCast, Int.toNat_zero, Int.toNat_one, List.length_map, List.length_append, List.length_cons, List.length_nil, List.length_take, List.length_set, List.length_replicate, Bool.not_true, Bool.not_false, decide_true, decide_false, BEq.rfl, bne_self_eq_false, tf_beq, ft_beq, tf_bne, ft_bne, not_true_eq_false, not_false_eq_true, app]
      try simp only [show (i : Int) + 1 = ((i + 1 : Nat) : Int) from by omega]
      refine hX (i + 1) h ⟨rfl, by omega, fun q => ?_⟩ (by omega)
      rw [getD_take (by omega)] at q
      rcases List.mem_append.1 q with r | r
      · exact ht r
      · simp at r; exact c2 r
  · rw [List.take_of_length_le (by omega)] at ht
    try simp (disch := first | assumption | omega | (apply At.mk; with_unfolding_all rfl)) only [↓go_eq, ↓ent_eq, Mv, NilC_at, Fld_at, add_mk, Nat.zero_add, Nat.add_zero, Add64, Sub64, Mul64, Quo64, Rem64, Neg64, Cvt64, CvtU8, CvtU16, CvtU32, CvtU64, AddU64, SubU64, MulU64, Shr64, Shr_u8, Shr_u16, Shr_u32, Shr_u64, And1, And31, And32, Eql64, Neq64, Bin_lss, Bin_leq, Bin_gtr, Bin_geq, Bin_bool_eql, Bin_bool_neq, Bin_ptr_nil_eql, Bin_ptr_nil_neq, Not_dec, Un_not, Pick_t, Pick_f, Pick_pos, Pick_neg, Gd_tt, Gd_tf, Gd_ft, Gd_ff, Gd_pos_t, Gd_neg_t, Gd_pos_f, Gd_neg_f, Gd_undef, If_t, If_f, If_pos, If_neg, CallF_eq, Max_two, Min_two, Len_rd, Len_own, Ld_blkE, Idx_rdN, Idx_ownN, Idx_rdE, Idx_ownE, IdxAE, LdA_two, Idx_at0, Ext_atE, Len_at, Int.toNat_natCast, Int.toNat_zero, Int.toNat_one, List.length_map, List.length_append, List.length_cons, List.length_nil, List.length_take, List.length_set, List.length_replicate, Bool.not_true, Bool.not_false, decide_true, decide_false, BEq.rfl, bne_self_eq_false, tf_beq, ft_beq, tf_bne, ft_bne, not_true_eq_false, not_false_eq_true, app]
    exact hk (-1) ⟨fun q => by omega, fun q => absurd q ht⟩
theorem slices_Contains_int_int.spec {v : Value} {c : List Int} {x : Int} (hl : c.length ≤ 1000000000) {K : Ret} {h : Heap} (hv : Rd h v (c.map Iv)) (hk : K (.bool (decide (x ∈ c))) h) : CallH Try.prog slices_Contains_int_int.id #[v, Iv x] K h := by
  refine slices_Contains_int_int.ok ?_
  simp only [slices_Contains_int_int.pt]
  try simp (disch := first | assumption | omega | (apply At.mk; with_unfolding_all rfl)) only [↓go_eq, ↓ent_eq, Mv, NilC_at, Fld_at, add_mk, Nat.zero_add, Nat.add_zero, Add64, Sub64, Mul64, Quo64, Rem64, Neg64, Cvt64, CvtU8, CvtU16, CvtU32, CvtU64, AddU64, SubU64, MulU64, Shr64, Shr_u8, Shr_u16, Shr_u32, Shr_u64, And1, And31, And32, Eql64, Neq64, Bin_lss, Bin_leq, Bin_gtr, Bin_geq, Bin_bool_eql, Bin_bool_neq, Bin_ptr_nil_eql, Bin_ptr_nil_neq, Not_dec, Un_not, Pick_t, Pick_f, Pick_pos, Pick_neg, Gd_tt, Gd_tf, Gd_ft, Gd_ff, Gd_pos_t, Gd_neg_t, Gd_pos_f, Gd_neg_f, Gd_undef, If_t, If_f, If_pos, If_neg, CallF_eq, Max_two, Min_two, Len_rd, Len_own, Ld_blkE, Idx_rdN, Idx_ownN, Idx_rdE, Idx_ownE, IdxAE, LdA_two, Idx_at0, Ext_atE, Len_at, Int.toNat_natCast, Int.toNat_zero, Int.toNat_one, List.length_map, List.length_append, List.length_cons, List.length_nil, List.length_take, List.length_set, List.length_replicate, Bool.not_true, Bool.not_false, decide_true, decide_false, BEq.rfl, bne_self_eq_false, tf_beq, ft_beq, tf_bne, ft_bne, not_true_eq_false, not_false_eq_true, app]
  refine slices_Index_int_int.spec hl hv fun i hi => ?_
  try simp (disch := first | assumption | omega | (apply At.mk; with_unfolding_all rfl)) only [↓go_eq, ↓ent_eq, Mv, NilC_at, Fld_at, add_mk, Nat.zero_add, Nat.add_zero, Add64, Sub64, Mul64, Quo64, Rem64, Neg64, Cvt64, CvtU8, CvtU16, CvtU32, CvtU64, AddU64, SubU64, MulU64, Shr64, Shr_u8, Shr_u16, Shr_u32, Shr_u64, And1, And31, And32, Eql64, Neq64, Bin_lss, Bin_leq, Bin_gtr, Bin_geq, Bin_bool_eql, Bin_bool_neq, Bin_ptr_nil_eql, Bin_ptr_nil_neq, Not_dec, Un_not, Pick_t, Pick_f, Pick_pos, Pick_neg, Gd_tt, Gd_tf, Gd_ft, Gd_ff, Gd_pos_t, Gd_neg_t, Gd_pos_f, Gd_neg_f, Gd_undef, If_t, If_f, If_pos, If_neg, CallF_eq, Max_two, Min_two, Len_rd, Len_own, Ld_blkE, Idx_rdN, Idx_ownN, Idx_rdE, Idx_ownE, IdxAE, LdA_two, Idx_at0, Ext_atE, Len_at, Int.toNat_natCast, Int.toNat_zero, Int.toNat_one, List.length_map, List.length_append, List.length_cons, List.length_nil, List.length_take, List.length_set, List.length_replicate, Bool.not_true, Bool.not_false, decide_true, decide_false, BEq.rfl, bne_self_eq_false, tf_beq, ft_beq, tf_bne, ft_bne, not_true_eq_false, not_false_eq_true, app]
  have e : decide (i ≥ 0) = decide (x ∈ c) := by rw [Bool.eq_iff_iff, decide_eq_true_iff, decide_eq_true_iff]; exact hi
  rw [e]; exact hk
theorem rup_Store_With.spec {sb : Nat} {l : Int} {K : Ret} {h : Heap} (hk : ∀ t2 t3 h', h.size ≤ t2 → h.size ≤ t3 → Blk h' t2 [ptr sb] → Blk h' t3 [Iv l] → Fr [] h h' → K (.func (.func 39) #[] #[ptr t2, ptr t3]) h') : CallH Try.prog rup_Store_With.id #[ptr sb, Iv l] K h := by
  refine rup_Store_With.ok ?_
  simp only [rup_Store_With.pt]
  try simp (disch := first | assumption | omega | (apply At.mk; with_unfolding_all rfl)) only [↓go_eq, ↓ent_eq, Mv, NilC_at, Fld_at, add_mk, Nat.zero_add, Nat.add_zero, Add64, Sub64, Mul64, Quo64, Rem64, Neg64, Cvt64, CvtU8, CvtU16, CvtU32, CvtU64, AddU64, SubU64, MulU64, Shr64, Shr_u8, Shr_u16, Shr_u32, Shr_u64, And1, And31, And32, Eql64, Neq64, Bin_lss, Bin_leq, Bin_gtr, Bin_geq, Bin_bool_eql, Bin_bool_neq, Bin_ptr_nil_eql, Bin_ptr_nil_neq, Not_dec, Un_not, Pick_t, Pick_f, Pick_pos, Pick_neg, Gd_tt, Gd_tf, Gd_ft, Gd_ff, Gd_pos_t, Gd_neg_t, Gd_pos_f, Gd_neg_f, Gd_undef, If_t, If_f, If_pos, If_neg, CallF_eq, Max_two, Min_two, Len_rd, Len_own, Ld_blkE, Idx_rdN, Idx_ownN, Idx_rdE, Idx_ownE, IdxAE, LdA_two, Idx_at0, Ext_atE, Len_at, Int.toNat_natCast, Int.toNat_zero, Int.toNat_one, List.length_map, List.length_append, List.length_cons, List.length_nil, List.length_take, List.length_set, List.length_replicate, Bool.not_true, Bool.not_false, decide_true, decide_false, BEq.rfl, bne_self_eq_false, tf_beq, ft_beq, tf_bne, ft_bne, not_true_eq_false, not_false_eq_true, app]
  refine New_blk fun h1 b1 f1 s1 => ?_
  have b1 : Blk h1 h.size [ptr sb] := b1
  try simp (disch := first | assumption | omega | (apply At.mk; with_unfolding_all rfl)) only [↓go_eq, ↓ent_eq, Mv, NilC_at, Fld_at, add_mk, Nat.zero_add, Nat.add_zero, Add64, Sub64, Mul64, Quo64, Rem64, Neg64, Cvt64, CvtU8, CvtU16, CvtU32, CvtU64, AddU64, SubU64, MulU64, Shr64, Shr_u8, Shr_u16, Shr_u32, Shr_u64, And1, And31, And32, Eql64, Neq64, Bin_lss, Bin_leq, Bin_gtr, Bin_geq, Bin_bool_eql, Bin_bool_neq, Bin_ptr_nil_eql, Bin_ptr_nil_neq, Not_dec, Un_not, Pick_t, Pick_f, Pick_pos, Pick_neg, Gd_tt, Gd_tf, Gd_ft, Gd_ff, Gd_pos_t, Gd_neg_t, Gd_pos_f, Gd_neg_f, Gd_undef, If_t, If_f, If_pos, If_neg, CallF_eq, Max_two, Min_two, Len_rd, Len_own, Ld_blkE, Idx_rdN, Idx_ownN, Idx_rdE, Idx_ownE, IdxAE, LdA_two, Idx_at0, Ext_atE, Len_at, Int.toNat_natCast, Int.toNat_zero, Int.toNat_one, List.length_map, List.length_append, List.length_cons, List.length_nil, List.length_take, List.length_set, List.length_replicate, Bool.not_true, Bool.not_false, decide_true, decide_false, BEq.rfl, bne_self_eq_false, tf_beq, ft_beq, tf_bne, ft_bne, not_true_eq_false, not_false_eq_true, app]
  refine New_blk fun h2 b2 f2 s2 => ?_
  have b2 : Blk h2 h1.size [Iv l] := b2
  exact hk _ _ h2 (Nat.le_refl _) f1.size (b1.fr f2 (by simp)) b2 (f1.trans f2)
theorem filt_step {cs : List (List Int)} {i : Nat} {c : List Int} {l : Int} (h : cs[i]? = some c) : (cs.take (i + 1)).filter (fun c => decide (l ∈ c)) = (cs.take i).filter (fun c => decide (l ∈ c)) ++ (if l ∈ c then [c] else []) := by
  rw [get_take h, List.filter_append, List.filter_cons, List.filter_nil]
  by_cases q : l ∈ c
  · rw [if_pos (decide_eq_true q), if_pos q]
  · rw [if_neg (by simpa using q), if_neg q]
theorem filt_at {cs : List (List Int)} {i : Nat} {c : List Int} {l : Int} (h : cs[i]? = some c) (hm : l ∈ c) : (cs.filter fun c => decide (l ∈ c))[((cs.take i).filter fun c => decide (l ∈ c)).length]? = some c := by
  have hi : i < cs.length := by
    rcases Nat.lt_or_ge i cs.length with q | q
    · exact q
    · rw [List.getElem?_eq_none q] at h; cases h
  have e : cs.filter (fun c => decide (l ∈ c)) = (cs.take i).filter (fun c => decide (l ∈ c)) ++ c :: (cs.drop (i + 1)).filter fun c => decide (l ∈ c) := by
    have hc : cs[i] = c := by rw [List.getElem?_eq_getElem hi] at h; exact Option.some.inj h
    conv => lhs; rw [← List.take_append_drop i cs, List.filter_append, List.drop_eq_getElem_cons hi, hc, List.filter_cons, if_pos (decide_eq_true hm)]
  rw [e, List.getElem?_append_right (Nat.le_refl _), Nat.sub_self]; rfl
set_option maxHeartbeats 2000000 in
/-- With hands copies of the clauses that have the literal. -/
theorem With_seq {t2 t3 sb n N : Nat} {u : Value} {b0 : List Nat} {ps : Ps} {l : Int} (hps : ps.length ≤ 1000000) (hpl : ∀ p ∈ ps, p.2.1.length ≤ 1000000) :
    SeqD Try.prog rup_Store_With_1.id #[ptr t2, ptr t3] ((cls ps).filter fun c => decide (l ∈ c)).length (fun h => Blk h t2 [ptr sb] ∧ Blk h t3 [Iv l] ∧ StAt h sb n N u b0 ps)
      (fun i x m h => ∃ c bs, ((cls ps).filter fun c => decide (l ∈ c))[i]? = some c ∧ Own h x (c.map Iv) bs ∧ ∀ b ∈ bs, m ≤ b) := by
  intro y h I E hI hA hy
  show CallH Try.prog rup_Store_With_1.id #[y, ptr t2, ptr t3] _ h
  refine rup_Store_With_1.ok ?_
  simp only [rup_Store_With_1.pt]
  refine Lp_fn (σ := Nat) (fun i => [y, ptr t2, ptr t3, Iv (i : Nat)]) (fun i h' => i ≤ ps.length ∧ I (((cls ps).take i).filter fun c => decide (l ∈ c)).length h') (fun i => ps.length - i) 0 rfl (fun _ => rfl) ⟨Nat.zero_le _, hI⟩ ?_
  rintro i h1 ⟨hi, hI1⟩ X hX
  obtain ⟨b2, b3, S⟩ := hA _ _ hI1
  have hs := S.blk
  have ho := S.own.own
  have hcl : (cls ps).length = ps.length := by simp [cls]
  by_cases c1 : (i : Int) < (ps.length : Nat)
  · have hp : ps[i]? = some ps[i] := List.getElem?_eq_getElem (by omega)
    have hg : (cls ps)[i]? = some ps[i].2.1 := by rw [cls, List.getElem?_map, hp]; rfl
    have ap : At (ps.map (·.1)) i ps[i].1 := ⟨by rw [List.getElem?_map, hp]; rfl⟩
    have hm := List.getElem_mem (show i < ps.length by omega)
    have rp := (S.own.each _ hm).rd
    have hpl1 := hpl _ hm
    have hst := filt_step (l := l) hg
    have hat := fun q => filt_at (l := l) hg q
    generalize ps[i].2.1 = c at *
    generalize ps[i].1 = pv at *
    try simp (disch := first | assumption | omega | (apply At.mk; with_unfolding_all rfl)) only [↓go_eq, ↓ent_eq, Mv, NilC_at, Fld_at, add_mk, Nat.zero_add, Nat.add_zero, Add64, Sub64, Mul64, Quo64, Rem64, Neg64, Cvt64, CvtU8, CvtU16, CvtU32, CvtU64, AddU64, SubU64, MulU64, Shr64, Shr_u8, Shr_u16, Shr_u32, Shr_u64, And1, And31, And32, Eql64, Neq64, Bin_lss, Bin_leq, Bin_gtr, Bin_geq, Bin_bool_eql, Bin_bool_neq, Bin_ptr_nil_eql, Bin_ptr_nil_neq, Not_dec, Un_not, Pick_t, Pick_f, Pick_pos, Pick_neg, Gd_tt, Gd_tf, Gd_ft, Gd_ff, Gd_pos_t, Gd_neg_t, Gd_pos_f, Gd_neg_f, Gd_undef, If_t, If_f, If_pos, If_neg, CallF_eq, Max_two, Min_two, Len_rd, Len_own, Ld_blkE, Idx_rdN, Idx_ownN, Idx_rdE, Idx_ownE, IdxAE, LdA_two, Idx_at0, Ext_atE, Len_at, Int.toNat_natCast, Int.toNat_zero, Int.toNat_one, List.length_map, List.length_append, List.length_cons, List.length_nil, List.length_take, List.length_set, List.length_replicate, Bool.not_true, Bool.not_false, decide_true, decide_false, BEq.rfl, bne_self_eq_false, tf_beq, ft_beq, tf_bne, ft_bne, not_true_eq_false, not_false_eq_true, app]
    refine slices_Contains_int_int.spec (by omega) rp ?_
    by_cases c2 : l ∈ c
    · rw [if_pos c2] at hst
      rw [decide_eq_true c2]
      try simp (disch := first | assumption | omega | (apply At.mk; with_unfolding_all rfl)) only [↓go_eq, ↓ent_eq, Mv, NilC_at, Fld_at, add_mk, Nat.zero_add, Nat.add_zero, Add64, Sub64, Mul64, Quo64, Rem64, Neg64, Cvt64, CvtU8, CvtU16, CvtU32, CvtU64, AddU64, SubU64, MulU64, Shr64, Shr_u8, Shr_u16, Shr_u32, Shr_u64, And1, And31, And32, Eql64, Neq64, Bin_lss, Bin_leq, Bin_gtr, Bin_geq, Bin_bool_eql, Bin_bool_neq, Bin_ptr_nil_eql, Bin_ptr_nil_neq, Not_dec, Un_not, Pick_t, Pick_f, Pick_pos, Pick_neg, Gd_tt, Gd_tf, Gd_ft, Gd_ff, Gd_pos_t, Gd_neg_t, Gd_pos_f, Gd_neg_f, Gd_undef, If_t, If_f, If_pos, If_neg, CallF_eq, Max_two, Min_two, Len_rd, Len_own, Ld_blkE, Idx_rdN, Idx_ownN, Idx_rdE, Idx_ownE, IdxAE, LdA_two, Idx_at0, Ext_atE, Len_at, Int.toNat_natCast, Int.toNat_zero, Int.toNat_one, List.length_map, List.length_append, List.length_cons, List.length_nil, List.length_take, List.length_set, List.length_replicate, Bool.not_true, Bool.not_false, decide_true, decide_false, BEq.rfl, bne_self_eq_false, tf_beq, ft_beq, tf_bne, ft_bne, not_true_eq_false, not_false_eq_true, app]
      refine slices_Clone_int_int.spec hpl1 rp fun x bs h2 o2 hb2 f2 => ?_
      have hlt : (((cls ps).take i).filter fun c => decide (l ∈ c)).length < ((cls ps).filter fun c => decide (l ∈ c)).length := by
        have := hat c2
        rcases Nat.lt_or_ge (((cls ps).take i).filter fun c => decide (l ∈ c)).length ((cls ps).filter fun c => decide (l ∈ c)).length with q | q
        · exact q
        · rw [List.getElem?_eq_none q] at this; cases this
      try simp (disch := first | assumption | omega | (apply At.mk; with_unfolding_all rfl)) only [↓go_eq, ↓ent_eq, Mv, NilC_at, Fld_at, add_mk, Nat.zero_add, Nat.add_zero, Add64, Sub64, Mul64, Quo64, Rem64, Neg64, Cvt64, CvtU8, CvtU16, CvtU32, CvtU64, AddU64, SubU64, MulU64, Shr64, Shr_u8, Shr_u16, Shr_u32, Shr_u64, And1, And31, And32, Eql64, Neq64, Bin_lss, Bin_leq, Bin_gtr, Bin_geq, Bin_bool_eql, Bin_bool_neq, Bin_ptr_nil_eql, Bin_ptr_nil_neq, Not_dec, Un_not, Pick_t, Pick_f, Pick_pos, Pick_neg, Gd_tt, Gd_tf, Gd_ft, Gd_ff, Gd_pos_t, Gd_neg_t, Gd_pos_f, Gd_neg_f, Gd_undef, If_t, If_f, If_pos, If_neg, CallF_eq, Max_two, Min_two, Len_rd, Len_own, Ld_blkE, Idx_rdN, Idx_ownN, Idx_rdE, Idx_ownE, IdxAE, LdA_two, Idx_at0, Ext_atE, Len_at, Int.toNat_natCast, Int.toNat_zero, Int.toNat_one, List.length_map, List.length_append, List.length_cons, List.length_nil, List.length_take, List.length_set, List.length_replicate, Bool.not_true, Bool.not_false, decide_true, decide_false, BEq.rfl, bne_self_eq_false, tf_beq, ft_beq, tf_bne, ft_bne, not_true_eq_false, not_false_eq_true, app]
      refine (hy _ x h1 h2 hlt hI1 f2 ⟨c, bs, hat c2, o2, hb2⟩).mono ?_
      rintro v h3 (⟨rfl, hI3⟩ | ⟨rfl, hE⟩)
      · try simp (disch := first | assumption | omega | (apply At.mk; with_unfolding_all rfl)) only [↓go_eq, ↓ent_eq, Mv, NilC_at, Fld_at, add_mk, Nat.zero_add, Nat.add_zero, Add64, Sub64, Mul64, Quo64, Rem64, Neg64, Cvt64, CvtU8, CvtU16, CvtU32, CvtU64, AddU64, SubU64, MulU64, Shr64, Shr_u8, Shr_u16, Shr_u32, Shr_u64, And1, And31, And32, Eql64, Neq64, Bin_lss, Bin_leq, Bin_gtr, Bin_geq, Bin_bool_eql, Bin_bool_neq, Bin_ptr_nil_eql, Bin_ptr_nil_neq, Not_dec, Un_not, Pick_t, Pick_f, Pick_pos, Pick_neg, Gd_tt, Gd_tf, Gd_ft, Gd_ff, Gd_pos_t, Gd_neg_t, Gd_pos_f, Gd_neg_f, Gd_undef, If_t, If_f, If_pos, If_neg, CallF_eq, Max_two, Min_two, Len_rd, Len_own, Ld_blkE, Idx_rdN, Idx_ownN, Idx_rdE, Idx_ownE, IdxAE, LdA_two, Idx_at0, Ext_atE, Len_at, Int.toNat_natCast, Int.toNat_zero, Int.toNat_one, List.length_map, List.length_append, List.length_cons, List.length_nil, List.length_take, List.length_set, List.length_replicate, Bool.not_true, Bool.not_false, decide_true, decide_false, BEq.rfl, bne_self_eq_false, tf_beq, ft_beq, tf_bne, ft_bne, not_true_eq_false, not_false_eq_true, app]
        try simp only [show (i : Int) + 1 = ((i + 1 : Nat) : Int) from by omega]
        refine hX (i + 1) h3 ⟨by omega, ?_⟩ (by omega)
        rw [hst, List.length_append]; exact hI3
      · try simp (disch := first | assumption | omega | (apply At.mk; with_unfolding_all rfl)) only [↓go_eq, ↓ent_eq, Mv, NilC_at, Fld_at, add_mk, Nat.zero_add, Nat.add_zero, Add64, Sub64, Mul64, Quo64, Rem64, Neg64, Cvt64, CvtU8, CvtU16, CvtU32, CvtU64, AddU64, SubU64, MulU64, Shr64, Shr_u8, Shr_u16, Shr_u32, Shr_u64, And1, And31, And32, Eql64, Neq64, Bin_lss, Bin_leq, Bin_gtr, Bin_geq, Bin_bool_eql, Bin_bool_neq, Bin_ptr_nil_eql, Bin_ptr_nil_neq, Not_dec, Un_not, Pick_t, Pick_f, Pick_pos, Pick_neg, Gd_tt, Gd_tf, Gd_ft, Gd_ff, Gd_pos_t, Gd_neg_t, Gd_pos_f, Gd_neg_f, Gd_undef, If_t, If_f, If_pos, If_neg, CallF_eq, Max_two, Min_two, Len_rd, Len_own, Ld_blkE, Idx_rdN, Idx_ownN, Idx_rdE, Idx_ownE, IdxAE, LdA_two, Idx_at0, Ext_atE, Len_at, Int.toNat_natCast, Int.toNat_zero, Int.toNat_one, List.length_map, List.length_append, List.length_cons, List.length_nil, List.length_take, List.length_set, List.length_replicate, Bool.not_true, Bool.not_false, decide_true, decide_false, BEq.rfl, bne_self_eq_false, tf_beq, ft_beq, tf_bne, ft_bne, not_true_eq_false, not_false_eq_true, app]
        exact .inr hE
    · rw [if_neg c2, List.append_nil] at hst
      rw [decide_eq_false c2]
      try simp (disch := first | assumption | omega | (apply At.mk; with_unfolding_all rfl)) only [↓go_eq, ↓ent_eq, Mv, NilC_at, Fld_at, add_mk, Nat.zero_add, Nat.add_zero, Add64, Sub64, Mul64, Quo64, Rem64, Neg64, Cvt64, CvtU8, CvtU16, CvtU32, CvtU64, AddU64, SubU64, MulU64, Shr64, Shr_u8, Shr_u16, Shr_u32, Shr_u64, And1, And31, And32, Eql64, Neq64, Bin_lss, Bin_leq, Bin_gtr, Bin_geq, Bin_bool_eql, Bin_bool_neq, Bin_ptr_nil_eql, Bin_ptr_nil_neq, Not_dec, Un_not, Pick_t, Pick_f, Pick_pos, Pick_neg, Gd_tt, Gd_tf, Gd_ft, Gd_ff, Gd_pos_t, Gd_neg_t, Gd_pos_f, Gd_neg_f, Gd_undef, If_t, If_f, If_pos, If_neg, CallF_eq, Max_two, Min_two, Len_rd, Len_own, Ld_blkE, Idx_rdN, Idx_ownN, Idx_rdE, Idx_ownE, IdxAE, LdA_two, Idx_at0, Ext_atE, Len_at, Int.toNat_natCast, Int.toNat_zero, Int.toNat_one, List.length_map, List.length_append, List.length_cons, List.length_nil, List.length_take, List.length_set, List.length_replicate, Bool.not_true, Bool.not_false, decide_true, decide_false, BEq.rfl, bne_self_eq_false, tf_beq, ft_beq, tf_bne, ft_bne, not_true_eq_false, not_false_eq_true, app]
      try simp only [show (i : Int) + 1 = ((i + 1 : Nat) : Int) from by omega]
      exact hX (i + 1) h1 ⟨by omega, by rw [hst]; exact hI1⟩ (by omega)
  · rw [List.take_of_length_le (by omega)] at hI1
    try simp (disch := first | assumption | omega | (apply At.mk; with_unfolding_all rfl)) only [↓go_eq, ↓ent_eq, Mv, NilC_at, Fld_at, add_mk, Nat.zero_add, Nat.add_zero, Add64, Sub64, Mul64, Quo64, Rem64, Neg64, Cvt64, CvtU8, CvtU16, CvtU32, CvtU64, AddU64, SubU64, MulU64, Shr64, Shr_u8, Shr_u16, Shr_u32, Shr_u64, And1, And31, And32, Eql64, Neq64, Bin_lss, Bin_leq, Bin_gtr, Bin_geq, Bin_bool_eql, Bin_bool_neq, Bin_ptr_nil_eql, Bin_ptr_nil_neq, Not_dec, Un_not, Pick_t, Pick_f, Pick_pos, Pick_neg, Gd_tt, Gd_tf, Gd_ft, Gd_ff, Gd_pos_t, Gd_neg_t, Gd_pos_f, Gd_neg_f, Gd_undef, If_t, If_f, If_pos, If_neg, CallF_eq, Max_two, Min_two, Len_rd, Len_own, Ld_blkE, Idx_rdN, Idx_ownN, Idx_rdE, Idx_ownE, IdxAE, LdA_two, Idx_at0, Ext_atE, Len_at, Int.toNat_natCast, Int.toNat_zero, Int.toNat_one, List.length_map, List.length_append, List.length_cons, List.length_nil, List.length_take, List.length_set, List.length_replicate, Bool.not_true, Bool.not_false, decide_true, decide_false, BEq.rfl, bne_self_eq_false, tf_beq, ft_beq, tf_bne, ft_bne, not_true_eq_false, not_false_eq_true, app]
    exact .inl hI1
end Go.Proofs.Yteahhifkkjfhoaa
