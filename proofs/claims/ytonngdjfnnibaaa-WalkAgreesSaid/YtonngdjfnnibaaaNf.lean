/- A clause in one form: clone, sort, compact. Conditions: those typed ahead of each theorem. -/
import Derived.Test.YtonngdjfnnibaaaSo16
import Derived.Test.YtonngdjfnnibaaaCf
namespace Go.Proofs.Ytonngdjfnnibaaa
open Go.Pt
set_option linter.unusedVariables false
set_option linter.unusedSimpArgs false
/-! ### Rising lists, each literal once -/
def Asc (l : List Int) : Prop := l.Pairwise fun x y => ix x < ix y
def ins (x : Int) : List Int → List Int
  | [] => [x]
  | y :: l => if ix x < ix y then x :: y :: l else if x = y then y :: l else y :: ins x l
/-- In one form. -/
def nf (c : List Int) : List Int := c.foldr ins []
theorem ins_mem (x z : Int) (l : List Int) : z ∈ ins x l ↔ z = x ∨ z ∈ l := by
  induction l with
  | nil => simp [ins]
  | cons y l ih =>
    unfold ins
    split
    · simp
    · split
      · rename_i e; subst e; simp
      · simp only [List.mem_cons, ih]
        constructor
        · rintro (h | h | h)
          · exact .inr (.inl h)
          · exact .inl h
          · exact .inr (.inr h)
        · rintro (h | h | h)
          · exact .inr (.inl h)
          · exact .inl h
          · exact .inr (.inr h)
theorem ins_asc {x : Int} {l : List Int} (h : Asc l) : Asc (ins x l) := by
  induction l with
  | nil => exact List.pairwise_singleton _ _
  | cons y l ih =>
    unfold Asc at h ih ⊢
    rw [List.pairwise_cons] at h
    unfold ins
    split
    · rename_i c
      refine List.pairwise_cons.2 ⟨fun z hz => ?_, List.pairwise_cons.2 h⟩
      rcases List.mem_cons.1 hz with rfl | q
      · exact c
      · have := h.1 z q; omega
    · split
      · exact List.pairwise_cons.2 h
      · rename_i c e
        refine List.pairwise_cons.2 ⟨fun z hz => ?_, ih h.2⟩
        rcases (ins_mem _ _ _).1 hz with rfl | q
        · have : ix z ≠ ix y := fun q => e (ix_inj q)
          omega
        · exact h.1 z q
theorem nf_asc (c : List Int) : Asc (nf c) := by
  induction c with
  | nil => exact List.Pairwise.nil
  | cons x c ih => exact ins_asc ih
theorem nf_mem {c : List Int} {z : Int} : z ∈ nf c ↔ z ∈ c := by
  induction c with
  | nil => exact Iff.rfl
  | cons x c ih => show z ∈ ins x (nf c) ↔ _; rw [ins_mem, ih, List.mem_cons]
theorem asc_ext : ∀ {a b : List Int}, Asc a → Asc b → (∀ z, z ∈ a ↔ z ∈ b) → a = b
  | [], [], _, _, _ => rfl
  | [], y :: b, _, _, h => by have := (h y).2 List.mem_cons_self; cases this
  | x :: a, [], _, _, h => by have := (h x).1 List.mem_cons_self; cases this
  | x :: a, y :: b, ha, hb, h => by
    unfold Asc at ha hb
    rw [List.pairwise_cons] at ha hb
    have e : x = y := by
      rcases List.mem_cons.1 ((h x).1 List.mem_cons_self) with q | q
      · exact q
      · rcases List.mem_cons.1 ((h y).2 List.mem_cons_self) with r | r
        · exact r.symm
        · have := ha.1 y r; have := hb.1 x q; omega
    subst e
    have : a = b := by
      refine asc_ext ha.2 hb.2 fun z => ⟨fun q => ?_, fun q => ?_⟩
      · rcases List.mem_cons.1 ((h z).1 (List.mem_cons_of_mem _ q)) with r | r
        · subst r; have := ha.1 z q; omega
        · exact r
      · rcases List.mem_cons.1 ((h z).2 (List.mem_cons_of_mem _ q)) with r | r
        · subst r; have := hb.1 z q; omega
        · exact r
    rw [this]
theorem nf_eq {c l : List Int} (h : Asc l) (hm : ∀ z, z ∈ l ↔ z ∈ c) : l = nf c := asc_ext h (nf_asc c) fun z => (hm z).trans nf_mem.symm
theorem nf_len (c : List Int) : (nf c).length ≤ c.length := by
  induction c with
  | nil => exact Nat.le_refl _
  | cons x c ih =>
    have : ∀ l : List Int, (ins x l).length ≤ l.length + 1 := fun l => by
      induction l with
      | nil => exact Nat.le_refl _
      | cons y l ih =>
        unfold ins
        split
        · exact Nat.le_refl _
        · split
          · exact Nat.le_succ _
          · exact Nat.succ_le_succ ih
    exact Nat.le_trans (this _) (Nat.succ_le_succ ih)
/-! ### Compacting -/
def kp (xs : List Int) (j : Nat) : Bool := j == 0 || xs.getD j 0 != xs.getD (j - 1) 0
def ddn (xs : List Int) (i : Nat) : List Int := ((List.range i).filter (kp xs)).map fun j => xs.getD j 0
theorem ddn_step (xs : List Int) (i : Nat) : ddn xs (i + 1) = ddn xs i ++ (if kp xs i then [xs.getD i 0] else []) := by
  unfold ddn
  rw [List.range_succ, List.filter_append, List.map_append, List.filter_cons, List.filter_nil]
  split <;> rfl
theorem getD_take {xs : List Int} {i : Nat} (h : i < xs.length) : xs.take (i + 1) = xs.take i ++ [xs.getD i 0] := by
  rw [List.take_add_one, List.getElem?_eq_getElem h, List.getD_eq_getElem?_getD, List.getElem?_eq_getElem h]; rfl
theorem ddn_one {xs : List Int} (h : 0 < xs.length) : ddn xs 1 = xs.take 1 := by
  rw [ddn_step, getD_take h]; rfl
theorem dd_asc {xs : List Int} (h : xs.Pairwise fun x y => ¬ ix y < ix x) : Asc (ddn xs xs.length) := by
  unfold Asc ddn
  rw [List.pairwise_map]
  have hg : ∀ i j, i < j → j < xs.length → ¬ ix (xs.getD j 0) < ix (xs.getD i 0) := fun i j hij hj => by
    rw [List.getD_eq_getElem?_getD, List.getD_eq_getElem?_getD, List.getElem?_eq_getElem hj, List.getElem?_eq_getElem (show i < xs.length by omega)]
    exact List.pairwise_iff_getElem.1 h i j (by omega) hj hij
  have hr : (List.range xs.length).Pairwise (· < ·) := List.pairwise_lt_range
  have hf := hr.filter (kp xs)
  refine hf.imp_of_mem fun {a b} ha hb hab => ?_
  obtain ⟨hb1, hb2⟩ := List.mem_filter.1 hb
  have hb1 := List.mem_range.1 hb1
  unfold kp at hb2
  have hne : xs.getD b 0 ≠ xs.getD (b - 1) 0 := by
    have : (b == 0) = false := by simp; omega
    rw [this, Bool.false_or] at hb2
    simpa using hb2
  have h1 := hg (b - 1) b (by omega) hb1
  have h2 : ix (xs.getD b 0) ≠ ix (xs.getD (b - 1) 0) := fun q => hne (ix_inj q)
  by_cases e : a = b - 1
  · subst e; omega
  · have h3 := hg a (b - 1) (by omega) (by omega)
    omega
theorem dd_mem {xs : List Int} {z : Int} : z ∈ ddn xs xs.length ↔ z ∈ xs := by
  unfold ddn
  rw [List.mem_map]
  constructor
  · rintro ⟨j, hj, rfl⟩
    have := List.mem_range.1 (List.mem_filter.1 hj).1
    rw [List.getD_eq_getElem?_getD, List.getElem?_eq_getElem this]
    exact List.getElem_mem _
  · intro hz
    obtain ⟨j, hj, e⟩ := List.getElem_of_mem hz
    have key : ∀ n j, j ≤ n → j < xs.length → xs.getD j 0 = z → ∃ a, a ∈ (List.range xs.length).filter (kp xs) ∧ xs.getD a 0 = z := by
      intro n
      induction n with
      | zero =>
        intro j h1 h2 h3
        have : j = 0 := by omega
        subst this
        exact ⟨0, List.mem_filter.2 ⟨List.mem_range.2 h2, rfl⟩, h3⟩
      | succ n ih =>
        intro j h1 h2 h3
        by_cases c : kp xs j = true
        · exact ⟨j, List.mem_filter.2 ⟨List.mem_range.2 h2, c⟩, h3⟩
        · unfold kp at c
          have hc : ¬ j = 0 ∧ xs.getD j 0 = xs.getD (j - 1) 0 := by simpa using c
          exact ih (j - 1) (by omega) (by omega) (by rw [← hc.2]; exact h3)
    refine key j j (Nat.le_refl _) hj ?_
    rw [List.getD_eq_getElem?_getD, List.getElem?_eq_getElem hj]; exact e
theorem at_getD {xs : List Int} {i : Nat} (h : i < xs.length) : At (xs.map Iv) i (Iv (xs.getD i 0)) := by
  rw [List.getD_eq_getElem?_getD, List.getElem?_eq_getElem h]
  exact At.map (f := Iv) (List.getElem?_eq_getElem h)
theorem At.drop {xs : List Value} {k i : Nat} {x : Value} (a : At xs (k + i) x) : At (xs.drop k) i x := ⟨by rw [List.getElem?_drop]; exact a.out⟩
theorem set_getD {xs : List Int} {i j : Nat} {y : Int} (h : i ≠ j) : (xs.set i y).getD j 0 = xs.getD j 0 := by
  rw [List.getD_eq_getElem?_getD, List.getElem?_set_ne h, ← List.getD_eq_getElem?_getD]
theorem set_take {xs : List Int} {i : Nat} {y : Int} (h : i < xs.length) : (xs.set i y).take (i + 1) = xs.take i ++ [y] := by
  rw [getD_take (by simpa using h), List.take_set_of_le (Nat.le_refl _)]
  simp [List.getD_eq_getElem?_getD, h]
set_option maxHeartbeats 2000000 in
theorem slices_Compact_int_int.spec {v : Value} {bs : List Nat} {xs : List Int} {K : Ret} {h : Heap} (hm : xs.length ≤ 1000000000) (w : Own h v (xs.map Iv) bs) (hk : ∀ v' h', Own h' v' ((ddn xs xs.length).map Iv) bs → Fr bs h h' → K v' h') : CallH Try.prog slices_Compact_int_int.id #[v] K h := by
  refine slices_Compact_int_int.ok ?_
  simp only [slices_Compact_int_int.pt]
  try simp (disch := first | assumption | omega | (apply At.mk; with_unfolding_all rfl)) only [↓go_eq, ↓ent_eq, Mv, NilC_at, Fld_at, add_mk, Nat.zero_add, Nat.add_zero, Add64, Sub64, Mul64, Quo64, Rem64, Neg64, Cvt64, CvtU8, CvtU16, CvtU32, CvtU64, AddU64, SubU64, MulU64, Shr64, Shr_u8, Shr_u16, Shr_u32, Shr_u64, And1, And31, And32, Eql64, Neq64, Bin_lss, Bin_leq, Bin_gtr, Bin_geq, Bin_bool_eql, Bin_bool_neq, Bin_ptr_nil_eql, Bin_ptr_nil_neq, Not_dec, Un_not, Pick_t, Pick_f, Pick_pos, Pick_neg, Gd_tt, Gd_tf, Gd_ft, Gd_ff, Gd_pos_t, Gd_neg_t, Gd_pos_f, Gd_neg_f, Gd_undef, If_t, If_f, If_pos, If_neg, CallF_eq, Max_two, Min_two, Len_rd, Len_own, Ld_blkE, Idx_rdN, Idx_ownN, Idx_rdE, Idx_ownE, IdxAE, LdA_two, Idx_at0, Ext_atE, Len_at, Int.toNat_natCast, Int.toNat_zero, Int.toNat_one, List.length_map, List.length_append, List.length_cons, List.length_nil, List.length_take, List.length_set, List.length_replicate, Bool.not_true, Bool.not_false, decide_true, decide_false, BEq.rfl, bne_self_eq_false, tf_beq, ft_beq, tf_bne, ft_bne, not_true_eq_false, not_false_eq_true, app]
  by_cases c1 : ((xs.length : Nat) : Int) < 2
  · try simp (disch := first | assumption | omega | (apply At.mk; with_unfolding_all rfl)) only [↓go_eq, ↓ent_eq, Mv, NilC_at, Fld_at, add_mk, Nat.zero_add, Nat.add_zero, Add64, Sub64, Mul64, Quo64, Rem64, Neg64, Cvt64, CvtU8, CvtU16, CvtU32, CvtU64, AddU64, SubU64, MulU64, Shr64, Shr_u8, Shr_u16, Shr_u32, Shr_u64, And1, And31, And32, Eql64, Neq64, Bin_lss, Bin_leq, Bin_gtr, Bin_geq, Bin_bool_eql, Bin_bool_neq, Bin_ptr_nil_eql, Bin_ptr_nil_neq, Not_dec, Un_not, Pick_t, Pick_f, Pick_pos, Pick_neg, Gd_tt, Gd_tf, Gd_ft, Gd_ff, Gd_pos_t, Gd_neg_t, Gd_pos_f, Gd_neg_f, Gd_undef, If_t, If_f, If_pos, If_neg, CallF_eq, Max_two, Min_two, Len_rd, Len_own, Ld_blkE, Idx_rdN, Idx_ownN, Idx_rdE, Idx_ownE, IdxAE, LdA_two, Idx_at0, Ext_atE, Len_at, Int.toNat_natCast, Int.toNat_zero, Int.toNat_one, List.length_map, List.length_append, List.length_cons, List.length_nil, List.length_take, List.length_set, List.length_replicate, Bool.not_true, Bool.not_false, decide_true, decide_false, BEq.rfl, bne_self_eq_false, tf_beq, ft_beq, tf_bne, ft_bne, not_true_eq_false, not_false_eq_true, app]
    have e : ddn xs xs.length = xs := by
      match xs, c1 with
      | [], _ => rfl
      | [x], _ => exact ddn_one (xs := [x]) (Nat.zero_lt_succ _)
      | x :: y :: r, c => simp at c; omega
    rw [e] at hk
    exact hk v h w (Fr.refl _ _)
  try simp (disch := first | assumption | omega | (apply At.mk; with_unfolding_all rfl)) only [↓go_eq, ↓ent_eq, Mv, NilC_at, Fld_at, add_mk, Nat.zero_add, Nat.add_zero, Add64, Sub64, Mul64, Quo64, Rem64, Neg64, Cvt64, CvtU8, CvtU16, CvtU32, CvtU64, AddU64, SubU64, MulU64, Shr64, Shr_u8, Shr_u16, Shr_u32, Shr_u64, And1, And31, And32, Eql64, Neq64, Bin_lss, Bin_leq, Bin_gtr, Bin_geq, Bin_bool_eql, Bin_bool_neq, Bin_ptr_nil_eql, Bin_ptr_nil_neq, Not_dec, Un_not, Pick_t, Pick_f, Pick_pos, Pick_neg, Gd_tt, Gd_tf, Gd_ft, Gd_ff, Gd_pos_t, Gd_neg_t, Gd_pos_f, Gd_neg_f, Gd_undef, If_t, If_f, If_pos, If_neg, CallF_eq, Max_two, Min_two, Len_rd, Len_own, Ld_blkE, Idx_rdN, Idx_ownN, Idx_rdE, Idx_ownE, IdxAE, LdA_two, Idx_at0, Ext_atE, Len_at, Int.toNat_natCast, Int.toNat_zero, Int.toNat_one, List.length_map, List.length_append, List.length_cons, List.length_nil, List.length_take, List.length_set, List.length_replicate, Bool.not_true, Bool.not_false, decide_true, decide_false, BEq.rfl, bne_self_eq_false, tf_beq, ft_beq, tf_bne, ft_bne, not_true_eq_false, not_false_eq_true, app]
  refine Lp_fn (σ := Nat) (fun k => [v, Iv (k : Nat)]) (fun k h' => h = h' ∧ 1 ≤ k ∧ k ≤ xs.length ∧ ddn xs k = xs.take k) (fun k => xs.length - k) 1 rfl (fun _ => rfl) ⟨rfl, Nat.le_refl _, by omega, ddn_one (by omega)⟩ ?_
  rintro k _ ⟨rfl, k1, k2, hd⟩ X hX
  by_cases c2 : (k : Int) < (xs.length : Nat)
  · have a1 := at_getD (show k < xs.length by omega)
    have a2 := at_getD (show k - 1 < xs.length by omega)
    have ek : ((k : Int) - 1).toNat = k - 1 := by omega
    rw [← ek] at a2
    by_cases c3 : xs.getD k 0 = xs.getD (k - 1) 0
    · rw [← ek] at c3
      try simp (disch := first | assumption | omega | (apply At.mk; with_unfolding_all rfl)) only [↓go_eq, ↓ent_eq, Mv, NilC_at, Fld_at, add_mk, Nat.zero_add, Nat.add_zero, Add64, Sub64, Mul64, Quo64, Rem64, Neg64, Cvt64, CvtU8, CvtU16, CvtU32, CvtU64, AddU64, SubU64, MulU64, Shr64, Shr_u8, Shr_u16, Shr_u32, Shr_u64, And1, And31, And32, Eql64, Neq64, Bin_lss, Bin_leq, Bin_gtr, Bin_geq, Bin_bool_eql, Bin_bool_neq, Bin_ptr_nil_eql, Bin_ptr_nil_neq, Not_dec, Un_not, Pick_t, Pick_f, Pick_pos, Pick_neg, Gd_tt, Gd_tf, Gd_ft, Gd_ff, Gd_pos_t, Gd_neg_t, Gd_pos_f, Gd_neg_f, Gd_undef, If_t, If_f, If_pos, If_neg, CallF_eq, Max_two, Min_two, Len_rd, Len_own, Ld_blkE, Idx_rdN, Idx_ownN, Idx_rdE, Idx_ownE, IdxAE, LdA_two, Idx_at0, Ext_atE, Len_at, Int.toNat_natCast, Int.toNat_zero, Int.toNat_one, List.length_map, List.length_append, List.length_cons, List.length_nil, List.length_take, List.length_set, List.length_replicate, Bool.not_true, Bool.not_false, decide_true, decide_false, BEq.rfl, bne_self_eq_false, tf_beq, ft_beq, tf_bne, ft_bne, not_true_eq_false, not_false_eq_true, app]
      refine Own.tail w (by omega) (by simp; omega) fun v2 T => ?_
      rw [List.length_map] at T
      have kk : kp xs k = false := by unfold kp; rw [ek] at c3; rw [c3]; simp; omega
      try simp (disch := first | assumption | omega | (apply At.mk; with_unfolding_all rfl)) only [↓go_eq, ↓ent_eq, Mv, NilC_at, Fld_at, add_mk, Nat.zero_add, Nat.add_zero, Add64, Sub64, Mul64, Quo64, Rem64, Neg64, Cvt64, CvtU8, CvtU16, CvtU32, CvtU64, AddU64, SubU64, MulU64, Shr64, Shr_u8, Shr_u16, Shr_u32, Shr_u64, And1, And31, And32, Eql64, Neq64, Bin_lss, Bin_leq, Bin_gtr, Bin_geq, Bin_bool_eql, Bin_bool_neq, Bin_ptr_nil_eql, Bin_ptr_nil_neq, Not_dec, Un_not, Pick_t, Pick_f, Pick_pos, Pick_neg, Gd_tt, Gd_tf, Gd_ft, Gd_ff, Gd_pos_t, Gd_neg_t, Gd_pos_f, Gd_neg_f, Gd_undef, If_t, If_f, If_pos, If_neg, CallF_eq, Max_two, Min_two, Len_rd, Len_own, Ld_blkE, Idx_rdN, Idx_ownN, Idx_rdE, Idx_ownE, IdxAE, LdA_two, Idx_at0, Ext_atE, Len_at, Int.toNat_natCast, Int.toNat_zero, Int.toNat_one, List.length_map, List.length_append, List.length_cons, List.length_nil, List.length_take, List.length_set, List.length_replicate, Bool.not_true, Bool.not_false, decide_true, decide_false, BEq.rfl, bne_self_eq_false, tf_beq, ft_beq, tf_bne, ft_bne, not_true_eq_false, not_false_eq_true, app]
      refine Lp_fn (σ := Nat × Nat × List Int) (fun s => [v, Iv (s.1 : Nat), v2, Iv (s.2.1 : Nat)])
        (fun s h' => s.2.2.length = xs.length ∧ 1 ≤ s.2.1 ∧ k + s.2.1 ≤ xs.length ∧ s.1 + 1 ≤ k + s.2.1 ∧ s.2.2.take s.1 = ddn xs (k + s.2.1) ∧ (∀ j, k + s.2.1 ≤ j + 1 → s.2.2.getD j 0 = xs.getD j 0) ∧ Own h' v (s.2.2.map Iv) bs ∧ Fr bs h h') (fun s => xs.length - s.2.1)
        (k, 1, xs) rfl (fun _ => rfl) ⟨rfl, Nat.le_refl _, by simp only; omega, Nat.le_refl _, by simp only; rw [ddn_step, kk, hd]; simp, fun _ _ => rfl, w, Fr.refl _ _⟩ ?_
      clear a1 a2 c3 hX
      rintro ⟨p, q, zs⟩ h2 ⟨hz, q1, q2, pq, ht, hj, w2, f2⟩ Y hY
      simp only at hz q1 q2 pq ht hj w2
      have r2 := T.rd w2 (by simpa using hz)
      have e2 : ((zs.map Iv).drop k).length = xs.length - k := by simp [hz]
      rw [Int.toNat_natCast] at r2
      by_cases c4 : (q : Int) < ((xs.length - k : Nat) : Int)
      · have b1 := At.drop (k := k) (i := q) (at_getD (xs := zs) (show k + q < zs.length by omega))
        have b2 := At.drop (k := k) (i := q - 1) (at_getD (xs := zs) (show k + (q - 1) < zs.length by omega))
        have eq : ((q : Int) - 1).toNat = q - 1 := by omega
        rw [hj (k + q) (by omega)] at b1
        rw [hj (k + (q - 1)) (by omega), ← eq] at b2
        have hst := ddn_step xs (k + q)
        have ekk : kp xs (k + q) = (xs.getD (k + q) 0 != xs.getD (k + ((q : Int) - 1).toNat) 0) := by
          unfold kp
          rw [eq, show k + q - 1 = k + (q - 1) by omega, show (k + q == 0) = false by simp; omega, Bool.false_or]
        rw [ekk] at hst
        have b2' : At ((zs.map Iv).drop k) ((q : Int) - 1).toNat (Iv (xs.getD (k + ((q : Int) - 1).toNat) 0)) := b2
        clear b2
        try simp (disch := first | assumption | omega | (apply At.mk; with_unfolding_all rfl)) only [e2, ↓go_eq, ↓ent_eq, Mv, NilC_at, Fld_at, add_mk, Nat.zero_add, Nat.add_zero, Add64, Sub64, Mul64, Quo64, Rem64, Neg64, Cvt64, CvtU8, CvtU16, CvtU32, CvtU64, AddU64, SubU64, MulU64, Shr64, Shr_u8, Shr_u16, Shr_u32, Shr_u64, And1, And31, And32, Eql64, Neq64, Bin_lss, Bin_leq, Bin_gtr, Bin_geq, Bin_bool_eql, Bin_bool_neq, Bin_ptr_nil_eql, Bin_ptr_nil_neq, Not_dec, Un_not, Pick_t, Pick_f, Pick_pos, Pick_neg, Gd_tt, Gd_tf, Gd_ft, Gd_ff, Gd_pos_t, Gd_neg_t, Gd_pos_f, Gd_neg_f, Gd_undef, If_t, If_f, If_pos, If_neg, CallF_eq, Max_two, Min_two, Len_rd, Len_own, Ld_blkE, Idx_rdN, Idx_ownN, Idx_rdE, Idx_ownE, IdxAE, LdA_two, Idx_at0, Ext_atE, Len_at, Int.toNat_natCast, Int.toNat_zero, Int.toNat_one, List.length_map, List.length_append, List.length_cons, List.length_nil, List.length_take, List.length_set, List.length_replicate, Bool.not_true, Bool.not_false, decide_true, decide_false, BEq.rfl, bne_self_eq_false, tf_beq, ft_beq, tf_bne, ft_bne, not_true_eq_false, not_false_eq_true, app]
        refine Jn_fn (σ := Nat × List Int) (fun s => [v, Iv (s.1 : Nat), v2, Iv (q : Nat)]) (fun s h' => s.2.length = xs.length ∧ s.1 + 1 ≤ k + (q + 1) ∧ s.2.take s.1 = ddn xs (k + (q + 1)) ∧ (∀ j, k + (q + 1) ≤ j + 1 → s.2.getD j 0 = xs.getD j 0) ∧ Own h' v (s.2.map Iv) bs ∧ Fr bs h h') ?_ ?_
        · intro J hJ
          by_cases c5 : xs.getD (k + q) 0 ≠ xs.getD (k + ((q : Int) - 1).toNat) 0
          · try simp (disch := first | assumption | omega | (apply At.mk; with_unfolding_all rfl)) only [↓go_eq, ↓ent_eq, Mv, NilC_at, Fld_at, add_mk, Nat.zero_add, Nat.add_zero, Add64, Sub64, Mul64, Quo64, Rem64, Neg64, Cvt64, CvtU8, CvtU16, CvtU32, CvtU64, AddU64, SubU64, MulU64, Shr64, Shr_u8, Shr_u16, Shr_u32, Shr_u64, And1, And31, And32, Eql64, Neq64, Bin_lss, Bin_leq, Bin_gtr, Bin_geq, Bin_bool_eql, Bin_bool_neq, Bin_ptr_nil_eql, Bin_ptr_nil_neq, Not_dec, Un_not, Pick_t, Pick_f, Pick_pos, Pick_neg, Gd_tt, Gd_tf, Gd_ft, Gd_ff, Gd_pos_t, Gd_neg_t, Gd_pos_f, Gd_neg_f, Gd_undef, If_t, If_f, If_pos, If_neg, CallF_eq, Max_two, Min_two, Len_rd, Len_own, Ld_blkE, Idx_rdN, Idx_ownN, Idx_rdE, Idx_ownE, IdxAE, LdA_two, Idx_at0, Ext_atE, Len_at, Int.toNat_natCast, Int.toNat_zero, Int.toNat_one, List.length_map, List.length_append, List.length_cons, List.length_nil, List.length_take, List.length_set, List.length_replicate, Bool.not_true, Bool.not_false, decide_true, decide_false, BEq.rfl, bne_self_eq_false, tf_beq, ft_beq, tf_bne, ft_bne, not_true_eq_false, not_false_eq_true, app]
            refine w2.put (by omega) (by simp; omega) rfl fun h3 w3 f3 _ => ?_
            rw [Int.toNat_natCast, ← List.map_set] at w3
            try simp (disch := first | assumption | omega | (apply At.mk; with_unfolding_all rfl)) only [↓go_eq, ↓ent_eq, Mv, NilC_at, Fld_at, add_mk, Nat.zero_add, Nat.add_zero, Add64, Sub64, Mul64, Quo64, Rem64, Neg64, Cvt64, CvtU8, CvtU16, CvtU32, CvtU64, AddU64, SubU64, MulU64, Shr64, Shr_u8, Shr_u16, Shr_u32, Shr_u64, And1, And31, And32, Eql64, Neq64, Bin_lss, Bin_leq, Bin_gtr, Bin_geq, Bin_bool_eql, Bin_bool_neq, Bin_ptr_nil_eql, Bin_ptr_nil_neq, Not_dec, Un_not, Pick_t, Pick_f, Pick_pos, Pick_neg, Gd_tt, Gd_tf, Gd_ft, Gd_ff, Gd_pos_t, Gd_neg_t, Gd_pos_f, Gd_neg_f, Gd_undef, If_t, If_f, If_pos, If_neg, CallF_eq, Max_two, Min_two, Len_rd, Len_own, Ld_blkE, Idx_rdN, Idx_ownN, Idx_rdE, Idx_ownE, IdxAE, LdA_two, Idx_at0, Ext_atE, Len_at, Int.toNat_natCast, Int.toNat_zero, Int.toNat_one, List.length_map, List.length_append, List.length_cons, List.length_nil, List.length_take, List.length_set, List.length_replicate, Bool.not_true, Bool.not_false, decide_true, decide_false, BEq.rfl, bne_self_eq_false, tf_beq, ft_beq, tf_bne, ft_bne, not_true_eq_false, not_false_eq_true, app]
            try simp only [show (p : Int) + 1 = ((p + 1 : Nat) : Int) from by omega]
            refine hJ (p + 1, zs.set p (xs.getD (k + q) 0)) h3 ⟨by simp only [List.length_set]; exact hz, by simp only; omega, ?_, fun j hj' => ?_, w3, f2.trans f3⟩
            · simp only
              rw [set_take (by omega), ht, ← Nat.add_assoc, hst, if_pos (bne_iff_ne.2 c5)]
            · simp only
              rw [set_getD (by omega)]
              exact hj j (by omega)
          · try simp (disch := first | assumption | omega | (apply At.mk; with_unfolding_all rfl)) only [↓go_eq, ↓ent_eq, Mv, NilC_at, Fld_at, add_mk, Nat.zero_add, Nat.add_zero, Add64, Sub64, Mul64, Quo64, Rem64, Neg64, Cvt64, CvtU8, CvtU16, CvtU32, CvtU64, AddU64, SubU64, MulU64, Shr64, Shr_u8, Shr_u16, Shr_u32, Shr_u64, And1, And31, And32, Eql64, Neq64, Bin_lss, Bin_leq, Bin_gtr, Bin_geq, Bin_bool_eql, Bin_bool_neq, Bin_ptr_nil_eql, Bin_ptr_nil_neq, Not_dec, Un_not, Pick_t, Pick_f, Pick_pos, Pick_neg, Gd_tt, Gd_tf, Gd_ft, Gd_ff, Gd_pos_t, Gd_neg_t, Gd_pos_f, Gd_neg_f, Gd_undef, If_t, If_f, If_pos, If_neg, CallF_eq, Max_two, Min_two, Len_rd, Len_own, Ld_blkE, Idx_rdN, Idx_ownN, Idx_rdE, Idx_ownE, IdxAE, LdA_two, Idx_at0, Ext_atE, Len_at, Int.toNat_natCast, Int.toNat_zero, Int.toNat_one, List.length_map, List.length_append, List.length_cons, List.length_nil, List.length_take, List.length_set, List.length_replicate, Bool.not_true, Bool.not_false, decide_true, decide_false, BEq.rfl, bne_self_eq_false, tf_beq, ft_beq, tf_bne, ft_bne, not_true_eq_false, not_false_eq_true, app]
            refine hJ (p, zs) h2 ⟨hz, by simp only; omega, ?_, fun j hj' => hj j (by omega), w2, f2⟩
            simp only
            rw [ht, ← Nat.add_assoc, hst, if_neg (fun x => c5 (bne_iff_ne.1 x)), List.append_nil]
        · rintro ⟨p', zs'⟩ h3 ⟨i1, i2, i3, i4, i5, i6⟩
          simp only at i1 i2 i3 i4 i5
          try simp (disch := first | assumption | omega | (apply At.mk; with_unfolding_all rfl)) only [↓go_eq, ↓ent_eq, Mv, NilC_at, Fld_at, add_mk, Nat.zero_add, Nat.add_zero, Add64, Sub64, Mul64, Quo64, Rem64, Neg64, Cvt64, CvtU8, CvtU16, CvtU32, CvtU64, AddU64, SubU64, MulU64, Shr64, Shr_u8, Shr_u16, Shr_u32, Shr_u64, And1, And31, And32, Eql64, Neq64, Bin_lss, Bin_leq, Bin_gtr, Bin_geq, Bin_bool_eql, Bin_bool_neq, Bin_ptr_nil_eql, Bin_ptr_nil_neq, Not_dec, Un_not, Pick_t, Pick_f, Pick_pos, Pick_neg, Gd_tt, Gd_tf, Gd_ft, Gd_ff, Gd_pos_t, Gd_neg_t, Gd_pos_f, Gd_neg_f, Gd_undef, If_t, If_f, If_pos, If_neg, CallF_eq, Max_two, Min_two, Len_rd, Len_own, Ld_blkE, Idx_rdN, Idx_ownN, Idx_rdE, Idx_ownE, IdxAE, LdA_two, Idx_at0, Ext_atE, Len_at, Int.toNat_natCast, Int.toNat_zero, Int.toNat_one, List.length_map, List.length_append, List.length_cons, List.length_nil, List.length_take, List.length_set, List.length_replicate, Bool.not_true, Bool.not_false, decide_true, decide_false, BEq.rfl, bne_self_eq_false, tf_beq, ft_beq, tf_bne, ft_bne, not_true_eq_false, not_false_eq_true, app]
          try simp only [show (q : Int) + 1 = ((q + 1 : Nat) : Int) from by omega]
          exact hY (p', q + 1, zs') h3 ⟨i1, by simp only; omega, by simp only; omega, i2, i3, i4, i5, i6⟩ (by simp only; omega)
      · have eq : k + q = xs.length := by omega
        rw [eq] at ht
        try simp (disch := first | assumption | omega | (apply At.mk; with_unfolding_all rfl)) only [e2, ↓go_eq, ↓ent_eq, Mv, NilC_at, Fld_at, add_mk, Nat.zero_add, Nat.add_zero, Add64, Sub64, Mul64, Quo64, Rem64, Neg64, Cvt64, CvtU8, CvtU16, CvtU32, CvtU64, AddU64, SubU64, MulU64, Shr64, Shr_u8, Shr_u16, Shr_u32, Shr_u64, And1, And31, And32, Eql64, Neq64, Bin_lss, Bin_leq, Bin_gtr, Bin_geq, Bin_bool_eql, Bin_bool_neq, Bin_ptr_nil_eql, Bin_ptr_nil_neq, Not_dec, Un_not, Pick_t, Pick_f, Pick_pos, Pick_neg, Gd_tt, Gd_tf, Gd_ft, Gd_ff, Gd_pos_t, Gd_neg_t, Gd_pos_f, Gd_neg_f, Gd_undef, If_t, If_f, If_pos, If_neg, CallF_eq, Max_two, Min_two, Len_rd, Len_own, Ld_blkE, Idx_rdN, Idx_ownN, Idx_rdE, Idx_ownE, IdxAE, LdA_two, Idx_at0, Ext_atE, Len_at, Int.toNat_natCast, Int.toNat_zero, Int.toNat_one, List.length_map, List.length_append, List.length_cons, List.length_nil, List.length_take, List.length_set, List.length_replicate, Bool.not_true, Bool.not_false, decide_true, decide_false, BEq.rfl, bne_self_eq_false, tf_beq, ft_beq, tf_bne, ft_bne, not_true_eq_false, not_false_eq_true, app]
        refine Own.tail w2 (by omega) (by simp; omega) fun v3 T3 => ?_
        try simp (disch := first | assumption | omega | (apply At.mk; with_unfolding_all rfl)) only [↓go_eq, ↓ent_eq, Mv, NilC_at, Fld_at, add_mk, Nat.zero_add, Nat.add_zero, Add64, Sub64, Mul64, Quo64, Rem64, Neg64, Cvt64, CvtU8, CvtU16, CvtU32, CvtU64, AddU64, SubU64, MulU64, Shr64, Shr_u8, Shr_u16, Shr_u32, Shr_u64, And1, And31, And32, Eql64, Neq64, Bin_lss, Bin_leq, Bin_gtr, Bin_geq, Bin_bool_eql, Bin_bool_neq, Bin_ptr_nil_eql, Bin_ptr_nil_neq, Not_dec, Un_not, Pick_t, Pick_f, Pick_pos, Pick_neg, Gd_tt, Gd_tf, Gd_ft, Gd_ff, Gd_pos_t, Gd_neg_t, Gd_pos_f, Gd_neg_f, Gd_undef, If_t, If_f, If_pos, If_neg, CallF_eq, Max_two, Min_two, Len_rd, Len_own, Ld_blkE, Idx_rdN, Idx_ownN, Idx_rdE, Idx_ownE, IdxAE, LdA_two, Idx_at0, Ext_atE, Len_at, Int.toNat_natCast, Int.toNat_zero, Int.toNat_one, List.length_map, List.length_append, List.length_cons, List.length_nil, List.length_take, List.length_set, List.length_replicate, Bool.not_true, Bool.not_false, decide_true, decide_false, BEq.rfl, bne_self_eq_false, tf_beq, ft_beq, tf_bne, ft_bne, not_true_eq_false, not_false_eq_true, app]
        refine T3.clr w2 rfl rfl fun h3 w3 f3 => ?_
        rw [Int.toNat_natCast] at w3
        try simp (disch := first | assumption | omega | (apply At.mk; with_unfolding_all rfl)) only [↓go_eq, ↓ent_eq, Mv, NilC_at, Fld_at, add_mk, Nat.zero_add, Nat.add_zero, Add64, Sub64, Mul64, Quo64, Rem64, Neg64, Cvt64, CvtU8, CvtU16, CvtU32, CvtU64, AddU64, SubU64, MulU64, Shr64, Shr_u8, Shr_u16, Shr_u32, Shr_u64, And1, And31, And32, Eql64, Neq64, Bin_lss, Bin_leq, Bin_gtr, Bin_geq, Bin_bool_eql, Bin_bool_neq, Bin_ptr_nil_eql, Bin_ptr_nil_neq, Not_dec, Un_not, Pick_t, Pick_f, Pick_pos, Pick_neg, Gd_tt, Gd_tf, Gd_ft, Gd_ff, Gd_pos_t, Gd_neg_t, Gd_pos_f, Gd_neg_f, Gd_undef, If_t, If_f, If_pos, If_neg, CallF_eq, Max_two, Min_two, Len_rd, Len_own, Ld_blkE, Idx_rdN, Idx_ownN, Idx_rdE, Idx_ownE, IdxAE, LdA_two, Idx_at0, Ext_atE, Len_at, Int.toNat_natCast, Int.toNat_zero, Int.toNat_one, List.length_map, List.length_append, List.length_cons, List.length_nil, List.length_take, List.length_set, List.length_replicate, Bool.not_true, Bool.not_false, decide_true, decide_false, BEq.rfl, bne_self_eq_false, tf_beq, ft_beq, tf_bne, ft_bne, not_true_eq_false, not_false_eq_true, app]
        refine Own.front w3 (by omega) (by simp; omega) fun v4 w4 => ?_
        rw [Int.toNat_natCast, List.take_append_of_le_length (by simp; omega), List.take_take, Nat.min_self, ← List.map_take, ht] at w4
        try simp (disch := first | assumption | omega | (apply At.mk; with_unfolding_all rfl)) only [↓go_eq, ↓ent_eq, Mv, NilC_at, Fld_at, add_mk, Nat.zero_add, Nat.add_zero, Add64, Sub64, Mul64, Quo64, Rem64, Neg64, Cvt64, CvtU8, CvtU16, CvtU32, CvtU64, AddU64, SubU64, MulU64, Shr64, Shr_u8, Shr_u16, Shr_u32, Shr_u64, And1, And31, And32, Eql64, Neq64, Bin_lss, Bin_leq, Bin_gtr, Bin_geq, Bin_bool_eql, Bin_bool_neq, Bin_ptr_nil_eql, Bin_ptr_nil_neq, Not_dec, Un_not, Pick_t, Pick_f, Pick_pos, Pick_neg, Gd_tt, Gd_tf, Gd_ft, Gd_ff, Gd_pos_t, Gd_neg_t, Gd_pos_f, Gd_neg_f, Gd_undef, If_t, If_f, If_pos, If_neg, CallF_eq, Max_two, Min_two, Len_rd, Len_own, Ld_blkE, Idx_rdN, Idx_ownN, Idx_rdE, Idx_ownE, IdxAE, LdA_two, Idx_at0, Ext_atE, Len_at, Int.toNat_natCast, Int.toNat_zero, Int.toNat_one, List.length_map, List.length_append, List.length_cons, List.length_nil, List.length_take, List.length_set, List.length_replicate, Bool.not_true, Bool.not_false, decide_true, decide_false, BEq.rfl, bne_self_eq_false, tf_beq, ft_beq, tf_bne, ft_bne, not_true_eq_false, not_false_eq_true, app]
        exact hk v4 h3 w4 (f2.trans f3)
    · have c3' : ¬ xs.getD k 0 = xs.getD ((k : Int) - 1).toNat 0 := by rw [ek]; exact c3
      try simp (disch := first | assumption | omega | (apply At.mk; with_unfolding_all rfl)) only [↓go_eq, ↓ent_eq, Mv, NilC_at, Fld_at, add_mk, Nat.zero_add, Nat.add_zero, Add64, Sub64, Mul64, Quo64, Rem64, Neg64, Cvt64, CvtU8, CvtU16, CvtU32, CvtU64, AddU64, SubU64, MulU64, Shr64, Shr_u8, Shr_u16, Shr_u32, Shr_u64, And1, And31, And32, Eql64, Neq64, Bin_lss, Bin_leq, Bin_gtr, Bin_geq, Bin_bool_eql, Bin_bool_neq, Bin_ptr_nil_eql, Bin_ptr_nil_neq, Not_dec, Un_not, Pick_t, Pick_f, Pick_pos, Pick_neg, Gd_tt, Gd_tf, Gd_ft, Gd_ff, Gd_pos_t, Gd_neg_t, Gd_pos_f, Gd_neg_f, Gd_undef, If_t, If_f, If_pos, If_neg, CallF_eq, Max_two, Min_two, Len_rd, Len_own, Ld_blkE, Idx_rdN, Idx_ownN, Idx_rdE, Idx_ownE, IdxAE, LdA_two, Idx_at0, Ext_atE, Len_at, Int.toNat_natCast, Int.toNat_zero, Int.toNat_one, List.length_map, List.length_append, List.length_cons, List.length_nil, List.length_take, List.length_set, List.length_replicate, Bool.not_true, Bool.not_false, decide_true, decide_false, BEq.rfl, bne_self_eq_false, tf_beq, ft_beq, tf_bne, ft_bne, not_true_eq_false, not_false_eq_true, app]
      try simp only [show (k : Int) + 1 = ((k + 1 : Nat) : Int) from by omega]
      refine hX (k + 1) h ⟨rfl, by omega, by omega, ?_⟩ (by omega)
      have : kp xs k = true := by unfold kp; simp only [bne_iff_ne, Bool.or_eq_true]; exact .inr c3
      rw [ddn_step, this, hd, getD_take (by omega)]
      rfl
  · have : k = xs.length := by omega
    subst this
    rw [List.take_length] at hd
    rw [hd] at hk
    try simp (disch := first | assumption | omega | (apply At.mk; with_unfolding_all rfl)) only [↓go_eq, ↓ent_eq, Mv, NilC_at, Fld_at, add_mk, Nat.zero_add, Nat.add_zero, Add64, Sub64, Mul64, Quo64, Rem64, Neg64, Cvt64, CvtU8, CvtU16, CvtU32, CvtU64, AddU64, SubU64, MulU64, Shr64, Shr_u8, Shr_u16, Shr_u32, Shr_u64, And1, And31, And32, Eql64, Neq64, Bin_lss, Bin_leq, Bin_gtr, Bin_geq, Bin_bool_eql, Bin_bool_neq, Bin_ptr_nil_eql, Bin_ptr_nil_neq, Not_dec, Un_not, Pick_t, Pick_f, Pick_pos, Pick_neg, Gd_tt, Gd_tf, Gd_ft, Gd_ff, Gd_pos_t, Gd_neg_t, Gd_pos_f, Gd_neg_f, Gd_undef, If_t, If_f, If_pos, If_neg, CallF_eq, Max_two, Min_two, Len_rd, Len_own, Ld_blkE, Idx_rdN, Idx_ownN, Idx_rdE, Idx_ownE, IdxAE, LdA_two, Idx_at0, Ext_atE, Len_at, Int.toNat_natCast, Int.toNat_zero, Int.toNat_one, List.length_map, List.length_append, List.length_cons, List.length_nil, List.length_take, List.length_set, List.length_replicate, Bool.not_true, Bool.not_false, decide_true, decide_false, BEq.rfl, bne_self_eq_false, tf_beq, ft_beq, tf_bne, ft_bne, not_true_eq_false, not_false_eq_true, app]
    exact hk v h w (Fr.refl _ _)
end Go.Proofs.Ytonngdjfnnibaaa

/- Clauses in one form. Conditions: those typed ahead of each theorem. -/
namespace Go.Proofs.Ytonngdjfnnibaaa
open Go.Pt
set_option linter.unusedVariables false
set_option linter.unusedSimpArgs false
theorem Bin_slice_none {K : Ret} {h : Heap} (n c : Nat) : Bin .slice .eql (.slice none n c) (.slice none 0 0) K h = K (.bool true) h := by rw [Bin_eq]; simp [binV, eqV]
theorem Bin_slice_some {K : Ret} {h : Heap} (a : Addr) (n c : Nat) : Bin .slice .eql (.slice (some a) n c) (.slice none 0 0) K h = K (.bool false) h := by rw [Bin_eq]; simp [binV, eqV]
theorem Bld0_own {K : Ret} {h : Heap} {el : TypeId} (hk : ∀ h', Own h' (.slice (some ⟨h.size, 0, none⟩) 0 0) [] [h.size] → Fr [] h h' → h'.size = h.size + 1 → K (.slice (some ⟨h.size, 0, none⟩) 0 0) h') : Bld0 el K h :=
  ⟨hk _ (Own.of_blk (Blk.push h #[] el)) (Fr.push h _) (by simp)⟩
theorem slices_Clone_int_int.spec {v : Value} {c : List Int} (hl : c.length ≤ 1000000) {K : Ret} {h : Heap} (hv : Rd h v (c.map Iv)) (hk : ∀ v' bs h', Own h' v' (c.map Iv) bs → (∀ b ∈ bs, h.size ≤ b) → Fr [] h h' → K v' h') : CallH Try.prog slices_Clone_int_int.id #[v] K h := by
  refine slices_Clone_int_int.ok ?_
  simp only [slices_Clone_int_int.pt]
  have hv0 := hv
  obtain ⟨a, cap, rfl, hcap, hc⟩ := hv
  cases a with
  | none =>
    have : c = [] := by
      cases c with
      | nil => rfl
      | cons x xs => obtain ⟨ad, e, _⟩ := hc 0 _ rfl; cases e
    subst this
    rw [go_eq, Bin_slice_none, If_t]
    exact hk _ [] h (Own.nil h) (by simp) (Fr.refl _ _)
  | some a =>
    rw [go_eq, Bin_slice_some, If_f, go_eq]
    refine Bld0_own fun h1 o1 f1 s1 => ?_
    rw [go_eq]
    refine o1.app (hv0.fr f1) rfl rfl (fun x hx => by obtain ⟨y, _, rfl⟩ := List.mem_map.1 hx; rfl) (by simp; omega) (by simp; omega) fun v' h2 bs o2 f2 hb s2 => ?_
    exact hk v' bs h2 (by simpa using o2) (fun b hm => by rcases hb b hm with x | x; simp at x; omega; omega) (f1.trans' f2 (by simp))
abbrev Sm := So.Sm
theorem norm_Clause.spec {v : Value} {c : List Int} (hl : c.length ≤ 1000000) (hD : ∀ x ∈ c, Sm x) {K : Ret} {h : Heap} (hv : Rd h v (c.map Iv)) (hk : ∀ v' bs h', Own h' v' ((nf c).map Iv) bs → (∀ b ∈ bs, h.size ≤ b) → Fr [] h h' → K v' h') : CallH Try.prog norm_Clause.id #[v] K h := by
  refine norm_Clause.ok ?_
  simp only [norm_Clause.pt]
  try simp (disch := first | assumption | omega | (apply At.mk; with_unfolding_all rfl)) only [↓go_eq, ↓ent_eq, Mv, NilC_at, Fld_at, add_mk, Nat.zero_add, Nat.add_zero, Add64, Sub64, Mul64, Quo64, Rem64, Neg64, Cvt64, CvtU8, CvtU16, CvtU32, CvtU64, AddU64, SubU64, MulU64, Shr64, Shr_u8, Shr_u16, Shr_u32, Shr_u64, And1, And31, And32, Eql64, Neq64, Bin_lss, Bin_leq, Bin_gtr, Bin_geq, Bin_bool_eql, Bin_bool_neq, Bin_ptr_nil_eql, Bin_ptr_nil_neq, Not_dec, Un_not, Pick_t, Pick_f, Pick_pos, Pick_neg, Gd_tt, Gd_tf, Gd_ft, Gd_ff, Gd_pos_t, Gd_neg_t, Gd_pos_f, Gd_neg_f, Gd_undef, If_t, If_f, If_pos, If_neg, CallF_eq, Max_two, Min_two, Len_rd, Len_own, Ld_blkE, Idx_rdN, Idx_ownN, Idx_rdE, Idx_ownE, IdxAE, LdA_two, Idx_at0, Ext_atE, Len_at, Int.toNat_natCast, Int.toNat_zero, Int.toNat_one, List.length_map, List.length_append, List.length_cons, List.length_nil, List.length_take, List.length_set, List.length_replicate, Bool.not_true, Bool.not_false, decide_true, decide_false, BEq.rfl, bne_self_eq_false, tf_beq, ft_beq, tf_bne, ft_bne, not_true_eq_false, not_false_eq_true, app]
  refine slices_Clone_int_int.spec hl hv fun u bs h1 o1 hbs f1 => ?_
  try simp (disch := first | assumption | omega | (apply At.mk; with_unfolding_all rfl)) only [↓go_eq, ↓ent_eq, Mv, NilC_at, Fld_at, add_mk, Nat.zero_add, Nat.add_zero, Add64, Sub64, Mul64, Quo64, Rem64, Neg64, Cvt64, CvtU8, CvtU16, CvtU32, CvtU64, AddU64, SubU64, MulU64, Shr64, Shr_u8, Shr_u16, Shr_u32, Shr_u64, And1, And31, And32, Eql64, Neq64, Bin_lss, Bin_leq, Bin_gtr, Bin_geq, Bin_bool_eql, Bin_bool_neq, Bin_ptr_nil_eql, Bin_ptr_nil_neq, Not_dec, Un_not, Pick_t, Pick_f, Pick_pos, Pick_neg, Gd_tt, Gd_tf, Gd_ft, Gd_ff, Gd_pos_t, Gd_neg_t, Gd_pos_f, Gd_neg_f, Gd_undef, If_t, If_f, If_pos, If_neg, CallF_eq, Max_two, Min_two, Len_rd, Len_own, Ld_blkE, Idx_rdN, Idx_ownN, Idx_rdE, Idx_ownE, IdxAE, LdA_two, Idx_at0, Ext_atE, Len_at, Int.toNat_natCast, Int.toNat_zero, Int.toNat_one, List.length_map, List.length_append, List.length_cons, List.length_nil, List.length_take, List.length_set, List.length_replicate, Bool.not_true, Bool.not_false, decide_true, decide_false, BEq.rfl, bne_self_eq_false, tf_beq, ft_beq, tf_bne, ft_bne, not_true_eq_false, not_false_eq_true, app]
  refine So.slices_SortFunc_int_int.spec So.lit_ord (So.lit_cmp _) (by omega) hD o1 fun h2 ys o2 p2 s2 f2 => ?_
  try simp (disch := first | assumption | omega | (apply At.mk; with_unfolding_all rfl)) only [↓go_eq, ↓ent_eq, Mv, NilC_at, Fld_at, add_mk, Nat.zero_add, Nat.add_zero, Add64, Sub64, Mul64, Quo64, Rem64, Neg64, Cvt64, CvtU8, CvtU16, CvtU32, CvtU64, AddU64, SubU64, MulU64, Shr64, Shr_u8, Shr_u16, Shr_u32, Shr_u64, And1, And31, And32, Eql64, Neq64, Bin_lss, Bin_leq, Bin_gtr, Bin_geq, Bin_bool_eql, Bin_bool_neq, Bin_ptr_nil_eql, Bin_ptr_nil_neq, Not_dec, Un_not, Pick_t, Pick_f, Pick_pos, Pick_neg, Gd_tt, Gd_tf, Gd_ft, Gd_ff, Gd_pos_t, Gd_neg_t, Gd_pos_f, Gd_neg_f, Gd_undef, If_t, If_f, If_pos, If_neg, CallF_eq, Max_two, Min_two, Len_rd, Len_own, Ld_blkE, Idx_rdN, Idx_ownN, Idx_rdE, Idx_ownE, IdxAE, LdA_two, Idx_at0, Ext_atE, Len_at, Int.toNat_natCast, Int.toNat_zero, Int.toNat_one, List.length_map, List.length_append, List.length_cons, List.length_nil, List.length_take, List.length_set, List.length_replicate, Bool.not_true, Bool.not_false, decide_true, decide_false, BEq.rfl, bne_self_eq_false, tf_beq, ft_beq, tf_bne, ft_bne, not_true_eq_false, not_false_eq_true, app]
  refine slices_Compact_int_int.spec (by rw [p2.length_eq]; omega) o2 fun w h3 o3 f3 => ?_
  have e : ddn ys ys.length = nf c := nf_eq (dd_asc s2) fun z => dd_mem.trans p2.mem_iff
  rw [e] at o3
  try simp (disch := first | assumption | omega | (apply At.mk; with_unfolding_all rfl)) only [↓go_eq, ↓ent_eq, Mv, NilC_at, Fld_at, add_mk, Nat.zero_add, Nat.add_zero, Add64, Sub64, Mul64, Quo64, Rem64, Neg64, Cvt64, CvtU8, CvtU16, CvtU32, CvtU64, AddU64, SubU64, MulU64, Shr64, Shr_u8, Shr_u16, Shr_u32, Shr_u64, And1, And31, And32, Eql64, Neq64, Bin_lss, Bin_leq, Bin_gtr, Bin_geq, Bin_bool_eql, Bin_bool_neq, Bin_ptr_nil_eql, Bin_ptr_nil_neq, Not_dec, Un_not, Pick_t, Pick_f, Pick_pos, Pick_neg, Gd_tt, Gd_tf, Gd_ft, Gd_ff, Gd_pos_t, Gd_neg_t, Gd_pos_f, Gd_neg_f, Gd_undef, If_t, If_f, If_pos, If_neg, CallF_eq, Max_two, Min_two, Len_rd, Len_own, Ld_blkE, Idx_rdN, Idx_ownN, Idx_rdE, Idx_ownE, IdxAE, LdA_two, Idx_at0, Ext_atE, Len_at, Int.toNat_natCast, Int.toNat_zero, Int.toNat_one, List.length_map, List.length_append, List.length_cons, List.length_nil, List.length_take, List.length_set, List.length_replicate, Bool.not_true, Bool.not_false, decide_true, decide_false, BEq.rfl, bne_self_eq_false, tf_beq, ft_beq, tf_bne, ft_bne, not_true_eq_false, not_false_eq_true, app]
  exact hk w bs h3 o3 hbs (f1.trans' (f2.trans f3) fun b hb => .inr (hbs b hb))
/-- A literal and its negation. -/
def taut (c : List Int) : Bool := c.any fun x => c.contains (-x)
/-- In one form, who stand side by side are alone with their negations. -/
def adj (ys : List Int) (i : Nat) : Bool := (List.range i).any fun j => j != 0 && ys.getD j 0 == - ys.getD (j - 1) 0
theorem adj_step (ys : List Int) (i : Nat) : adj ys (i + 1) = (adj ys i || (i != 0 && ys.getD i 0 == - ys.getD (i - 1) 0)) := by
  unfold adj
  rw [List.range_succ, List.any_append, List.any_cons, List.any_nil, Bool.or_false]
theorem getD_mem {xs : List Int} {i : Nat} (h : i < xs.length) : xs.getD i 0 ∈ xs := by
  rw [List.getD_eq_getElem?_getD, List.getElem?_eq_getElem h]; exact List.getElem_mem _
theorem taut_iff {c : List Int} : taut c = true ↔ ∃ x, x ∈ c ∧ -x ∈ c := by
  unfold taut
  rw [List.any_eq_true]
  constructor
  · rintro ⟨x, hx, h⟩; exact ⟨x, hx, by simpa using h⟩
  · rintro ⟨x, hx, h⟩; exact ⟨x, hx, by simpa using h⟩
theorem adj_taut {c : List Int} (hz : ∀ x ∈ c, x ≠ 0) : adj (nf c) (nf c).length = taut c := by
  rw [Bool.eq_iff_iff, taut_iff]
  have ha := nf_asc c
  unfold adj
  rw [List.any_eq_true]
  constructor
  · rintro ⟨j, hj, h⟩
    have hj := List.mem_range.1 hj
    obtain ⟨h1, h2⟩ : ¬ j = 0 ∧ (nf c).getD j 0 = - (nf c).getD (j - 1) 0 := by simpa using h
    refine ⟨(nf c).getD (j - 1) 0, nf_mem.1 (getD_mem (by omega)), ?_⟩
    rw [← h2]; exact nf_mem.1 (getD_mem hj)
  · rintro ⟨x, hx, hx'⟩
    have h0 := hz x hx
    obtain ⟨y, hy, hy', hp⟩ : ∃ y, y ∈ c ∧ -y ∈ c ∧ 0 < y := by
      by_cases p : 0 < x
      · exact ⟨x, hx, hx', p⟩
      · exact ⟨-x, hx', by rwa [Int.neg_neg], by omega⟩
    obtain ⟨i, hi, ei⟩ := List.getElem_of_mem (nf_mem.2 hy)
    obtain ⟨j, hj, ej⟩ := List.getElem_of_mem (nf_mem.2 hy')
    have i1 : ix y = 2 * (y - 1) := by unfold ix; rw [if_neg (by omega)]
    have i2 : ix (-y) = 2 * (y - 1) + 1 := by unfold ix; rw [if_pos (by omega)]; omega
    have mono : ∀ a b (h1 : a < (nf c).length) (h2 : b < (nf c).length), a < b → ix (nf c)[a] < ix (nf c)[b] := fun a b h1 h2 hab => List.pairwise_iff_getElem.1 ha a b h1 h2 hab
    have hij : i < j := by
      rcases Nat.lt_trichotomy i j with q | q | q
      · exact q
      · subst q; rw [ei] at ej; omega
      · have := mono j i hj hi q; rw [ei, ej] at this; omega
    have hj1 : j = i + 1 := by
      rcases Nat.lt_or_ge (i + 1) j with q | q
      · have m1 := mono i (i + 1) hi (by omega) (by omega)
        have m2 := mono (i + 1) j (by omega) hj q
        rw [ei] at m1; rw [ej] at m2; omega
      · omega
    subst hj1
    refine ⟨i + 1, List.mem_range.2 hj, ?_⟩
    rw [Nat.add_sub_cancel, List.getD_eq_getElem?_getD, List.getD_eq_getElem?_getD, List.getElem?_eq_getElem hj, List.getElem?_eq_getElem hi]
    simp [ei, ej]
theorem nf_sm {c : List Int} (hD : ∀ x ∈ c, Sm x) : ∀ x ∈ nf c, Sm x := fun x hx => hD x (nf_mem.1 hx)
theorem norm_Tautology.spec {v : Value} {c : List Int} (hl : c.length ≤ 1000000) (hD : ∀ x ∈ c, Sm x) (hz : ∀ x ∈ c, x ≠ 0) {K : Ret} {h : Heap} (hv : Rd h v (c.map Iv)) (hk : ∀ h', Fr [] h h' → K (.bool (taut c)) h') : CallH Try.prog norm_Tautology.id #[v] K h := by
  refine norm_Tautology.ok ?_
  simp only [norm_Tautology.pt]
  try simp (disch := first | assumption | omega | (apply At.mk; with_unfolding_all rfl)) only [↓go_eq, ↓ent_eq, Mv, NilC_at, Fld_at, add_mk, Nat.zero_add, Nat.add_zero, Add64, Sub64, Mul64, Quo64, Rem64, Neg64, Cvt64, CvtU8, CvtU16, CvtU32, CvtU64, AddU64, SubU64, MulU64, Shr64, Shr_u8, Shr_u16, Shr_u32, Shr_u64, And1, And31, And32, Eql64, Neq64, Bin_lss, Bin_leq, Bin_gtr, Bin_geq, Bin_bool_eql, Bin_bool_neq, Bin_ptr_nil_eql, Bin_ptr_nil_neq, Not_dec, Un_not, Pick_t, Pick_f, Pick_pos, Pick_neg, Gd_tt, Gd_tf, Gd_ft, Gd_ff, Gd_pos_t, Gd_neg_t, Gd_pos_f, Gd_neg_f, Gd_undef, If_t, If_f, If_pos, If_neg, CallF_eq, Max_two, Min_two, Len_rd, Len_own, Ld_blkE, Idx_rdN, Idx_ownN, Idx_rdE, Idx_ownE, IdxAE, LdA_two, Idx_at0, Ext_atE, Len_at, Int.toNat_natCast, Int.toNat_zero, Int.toNat_one, List.length_map, List.length_append, List.length_cons, List.length_nil, List.length_take, List.length_set, List.length_replicate, Bool.not_true, Bool.not_false, decide_true, decide_false, BEq.rfl, bne_self_eq_false, tf_beq, ft_beq, tf_bne, ft_bne, not_true_eq_false, not_false_eq_true, app]
  refine norm_Clause.spec hl hD hv fun u bs h1 o1 hbs f1 => ?_
  have hnl := nf_len c
  have hsm := nf_sm hD
  have hat := adj_taut hz
  generalize nf c = ys at *
  try simp (disch := first | assumption | omega | (apply At.mk; with_unfolding_all rfl)) only [↓go_eq, ↓ent_eq, Mv, NilC_at, Fld_at, add_mk, Nat.zero_add, Nat.add_zero, Add64, Sub64, Mul64, Quo64, Rem64, Neg64, Cvt64, CvtU8, CvtU16, CvtU32, CvtU64, AddU64, SubU64, MulU64, Shr64, Shr_u8, Shr_u16, Shr_u32, Shr_u64, And1, And31, And32, Eql64, Neq64, Bin_lss, Bin_leq, Bin_gtr, Bin_geq, Bin_bool_eql, Bin_bool_neq, Bin_ptr_nil_eql, Bin_ptr_nil_neq, Not_dec, Un_not, Pick_t, Pick_f, Pick_pos, Pick_neg, Gd_tt, Gd_tf, Gd_ft, Gd_ff, Gd_pos_t, Gd_neg_t, Gd_pos_f, Gd_neg_f, Gd_undef, If_t, If_f, If_pos, If_neg, CallF_eq, Max_two, Min_two, Len_rd, Len_own, Ld_blkE, Idx_rdN, Idx_ownN, Idx_rdE, Idx_ownE, IdxAE, LdA_two, Idx_at0, Ext_atE, Len_at, Int.toNat_natCast, Int.toNat_zero, Int.toNat_one, List.length_map, List.length_append, List.length_cons, List.length_nil, List.length_take, List.length_set, List.length_replicate, Bool.not_true, Bool.not_false, decide_true, decide_false, BEq.rfl, bne_self_eq_false, tf_beq, ft_beq, tf_bne, ft_bne, not_true_eq_false, not_false_eq_true, app]
  refine Lp_fn (σ := Nat) (fun i => [u, Iv ((i + 1 : Nat) : Int)]) (fun i h' => h1 = h' ∧ adj ys (i + 1) = false ∧ i ≤ ys.length) (fun i => ys.length - i) 0 rfl (fun _ => rfl) ⟨rfl, rfl, Nat.zero_le _⟩ ?_
  rintro i _ ⟨rfl, ha, hi⟩ X hX
  by_cases c1 : ((i + 1 : Nat) : Int) < (ys.length : Nat)
  · have a1 := at_getD (show i + 1 < ys.length by omega)
    have a2 := at_getD (show i < ys.length by omega)
    have e1 : (((i + 1 : Nat) : Int) - 1).toNat = i := by omega
    rw [← e1] at a2
    have hst := adj_step ys (i + 1)
    rw [ha, Nat.add_sub_cancel, Bool.false_or, show (i + 1 != 0) = true from rfl, Bool.true_and] at hst
    have hs1 := hsm _ (getD_mem (show i < ys.length by omega))
    obtain ⟨q1, q2⟩ := hs1
    rw [← e1] at q1 q2
    by_cases c2 : ys.getD (i + 1) 0 = - ys.getD i 0
    · have c2' : ys.getD (i + 1) 0 = - ys.getD (((i + 1 : Nat) : Int) - 1).toNat 0 := by rw [e1]; exact c2
      try simp (disch := first | assumption | omega | (apply At.mk; with_unfolding_all rfl)) only [↓go_eq, ↓ent_eq, Mv, NilC_at, Fld_at, add_mk, Nat.zero_add, Nat.add_zero, Add64, Sub64, Mul64, Quo64, Rem64, Neg64, Cvt64, CvtU8, CvtU16, CvtU32, CvtU64, AddU64, SubU64, MulU64, Shr64, Shr_u8, Shr_u16, Shr_u32, Shr_u64, And1, And31, And32, Eql64, Neq64, Bin_lss, Bin_leq, Bin_gtr, Bin_geq, Bin_bool_eql, Bin_bool_neq, Bin_ptr_nil_eql, Bin_ptr_nil_neq, Not_dec, Un_not, Pick_t, Pick_f, Pick_pos, Pick_neg, Gd_tt, Gd_tf, Gd_ft, Gd_ff, Gd_pos_t, Gd_neg_t, Gd_pos_f, Gd_neg_f, Gd_undef, If_t, If_f, If_pos, If_neg, CallF_eq, Max_two, Min_two, Len_rd, Len_own, Ld_blkE, Idx_rdN, Idx_ownN, Idx_rdE, Idx_ownE, IdxAE, LdA_two, Idx_at0, Ext_atE, Len_at, Int.toNat_natCast, Int.toNat_zero, Int.toNat_one, List.length_map, List.length_append, List.length_cons, List.length_nil, List.length_take, List.length_set, List.length_replicate, Bool.not_true, Bool.not_false, decide_true, decide_false, BEq.rfl, bne_self_eq_false, tf_beq, ft_beq, tf_bne, ft_bne, not_true_eq_false, not_false_eq_true, app]
      have : taut c = true := by
        rw [← hat]
        unfold adj
        refine List.any_eq_true.2 ⟨i + 1, List.mem_range.2 (by omega), ?_⟩
        rw [Nat.add_sub_cancel]
        simp only [beq_iff_eq.2 c2]; rfl
      rw [this] at hk
      exact hk h1 f1
    · have c2' : ¬ ys.getD (i + 1) 0 = - ys.getD (((i + 1 : Nat) : Int) - 1).toNat 0 := by rw [e1]; exact c2
      try simp (disch := first | assumption | omega | (apply At.mk; with_unfolding_all rfl)) only [↓go_eq, ↓ent_eq, Mv, NilC_at, Fld_at, add_mk, Nat.zero_add, Nat.add_zero, Add64, Sub64, Mul64, Quo64, Rem64, Neg64, Cvt64, CvtU8, CvtU16, CvtU32, CvtU64, AddU64, SubU64, MulU64, Shr64, Shr_u8, Shr_u16, Shr_u32, Shr_u64, And1, And31, And32, Eql64, Neq64, Bin_lss, Bin_leq, Bin_gtr, Bin_geq, Bin_bool_eql, Bin_bool_neq, Bin_ptr_nil_eql, Bin_ptr_nil_neq, Not_dec, Un_not, Pick_t, Pick_f, Pick_pos, Pick_neg, Gd_tt, Gd_tf, Gd_ft, Gd_ff, Gd_pos_t, Gd_neg_t, Gd_pos_f, Gd_neg_f, Gd_undef, If_t, If_f, If_pos, If_neg, CallF_eq, Max_two, Min_two, Len_rd, Len_own, Ld_blkE, Idx_rdN, Idx_ownN, Idx_rdE, Idx_ownE, IdxAE, LdA_two, Idx_at0, Ext_atE, Len_at, Int.toNat_natCast, Int.toNat_zero, Int.toNat_one, List.length_map, List.length_append, List.length_cons, List.length_nil, List.length_take, List.length_set, List.length_replicate, Bool.not_true, Bool.not_false, decide_true, decide_false, BEq.rfl, bne_self_eq_false, tf_beq, ft_beq, tf_bne, ft_bne, not_true_eq_false, not_false_eq_true, app]
      try simp only [show ((i + 1 : Nat) : Int) + 1 = ((i + 1 + 1 : Nat) : Int) from by omega]
      exact hX (i + 1) h1 ⟨rfl, by rw [hst]; exact beq_eq_false_iff_ne.2 c2, by omega⟩ (by omega)
  · try simp (disch := first | assumption | omega | (apply At.mk; with_unfolding_all rfl)) only [↓go_eq, ↓ent_eq, Mv, NilC_at, Fld_at, add_mk, Nat.zero_add, Nat.add_zero, Add64, Sub64, Mul64, Quo64, Rem64, Neg64, Cvt64, CvtU8, CvtU16, CvtU32, CvtU64, AddU64, SubU64, MulU64, Shr64, Shr_u8, Shr_u16, Shr_u32, Shr_u64, And1, And31, And32, Eql64, Neq64, Bin_lss, Bin_leq, Bin_gtr, Bin_geq, Bin_bool_eql, Bin_bool_neq, Bin_ptr_nil_eql, Bin_ptr_nil_neq, Not_dec, Un_not, Pick_t, Pick_f, Pick_pos, Pick_neg, Gd_tt, Gd_tf, Gd_ft, Gd_ff, Gd_pos_t, Gd_neg_t, Gd_pos_f, Gd_neg_f, Gd_undef, If_t, If_f, If_pos, If_neg, CallF_eq, Max_two, Min_two, Len_rd, Len_own, Ld_blkE, Idx_rdN, Idx_ownN, Idx_rdE, Idx_ownE, IdxAE, LdA_two, Idx_at0, Ext_atE, Len_at, Int.toNat_natCast, Int.toNat_zero, Int.toNat_one, List.length_map, List.length_append, List.length_cons, List.length_nil, List.length_take, List.length_set, List.length_replicate, Bool.not_true, Bool.not_false, decide_true, decide_false, BEq.rfl, bne_self_eq_false, tf_beq, ft_beq, tf_bne, ft_bne, not_true_eq_false, not_false_eq_true, app]
    have : taut c = false := by
      rw [← hat]
      rcases Nat.lt_or_ge i ys.length with q | q
      · have : ys.length = i + 1 := by omega
        rw [this]; exact ha
      · have e0 : ys.length = i := by omega
        rw [adj_step] at ha
        rw [e0]
        exact (Bool.or_eq_false_iff.1 ha).1
    rw [this] at hk
    exact hk h1 f1
end Go.Proofs.Ytonngdjfnnibaaa

/- Clauses without a literal, resolvents. Conditions: those typed ahead of each theorem. -/
namespace Go.Proofs.Ytonngdjfnnibaaa
open Go.Pt
set_option linter.unusedVariables false
set_option linter.unusedSimpArgs false
/-- In one form, but for a literal. -/
def wo (l : Int) (c : List Int) : List Int := (nf c).filter fun x => !(x == l)
end Go.Proofs.Ytonngdjfnnibaaa
