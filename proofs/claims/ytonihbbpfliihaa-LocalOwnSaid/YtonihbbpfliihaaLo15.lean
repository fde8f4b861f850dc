/- What the laws reckon anew, plain, and holding. Conditions: those typed ahead of each theorem. -/
import Derived.Test.YtonihbbpfliihaaLo14
namespace Go.Proofs.Ytonihbbpfliihaa
open Go.Pt
set_option linter.unusedVariables false
set_option linter.unusedSimpArgs false
/-- How many literals of a variable hold. -/
def cnT (a : List Bool) (c : List Int) (v : Nat) : Int := wsm (fun x => litT a x && (x.natAbs == v)) (fun _ => 1) c
theorem cnT_nil (a : List Bool) (v : Nat) : cnT a [] v = 0 := rfl
theorem cnT_snoc (a : List Bool) (c : List Int) (x : Int) (v : Nat) : cnT a (c ++ [x]) v = cnT a c v + (if litT a x = true ∧ x.natAbs = v then 1 else 0) := by
  unfold cnT
  rw [wsm_snoc]
  congr 1
  by_cases e : litT a x = true ∧ x.natAbs = v
  · rw [if_pos e, if_pos (by simp [e.1, e.2])]
  · rw [if_neg e, if_neg (by simpa using e)]
theorem wsm_false {p : Int → Bool} {f : Int → Int} {c : List Int} (h : ∀ x ∈ c, p x = false) : wsm p f c = 0 := by
  rw [wsm_congr (p := fun _ => false) (p' := p) h]
  clear h
  induction c with
  | nil => rfl
  | cons y c ih => rw [wsm_cons, ih]; rfl
theorem cnT_one {a : List Bool} {c : List Int} (h : hB (litT a) c = 1) (v : Nat) : cnT a c v = if sB (litT a) c = (v : Nat) then 1 else 0 := by
  induction c with
  | nil => rw [hB, wsm_nil] at h; cases h
  | cons y c ih =>
    have h1 := hB_le (litT a) c
    unfold hB at h h1 ih
    unfold sB cnT at *
    rw [wsm_cons] at h ⊢
    rw [wsm_cons]
    cases e : litT a y with
    | true =>
      rw [e, if_pos rfl] at h
      have h0 := hB_zero.1 (show hB (litT a) c = 0 by unfold hB; omega)
      rw [wsm_false (p := litT a) h0, wsm_false (p := fun x => litT a x && (x.natAbs == v)) fun x hx => by rw [h0 x hx]; rfl, if_pos rfl]
      by_cases q : y.natAbs = v
      · rw [if_pos (by simp [q]), if_pos (by omega)]; rfl
      · rw [if_neg (by simpa using q), if_neg (by omega)]; rfl
    | false =>
      rw [e, if_neg (by simp), Int.zero_add] at h
      simp only [Bool.false_and, Bool.false_eq_true, if_false, Int.zero_add]
      exact ih h
theorem sum_snoc (l : List Int) (x : Int) : (l ++ [x]).sum = l.sum + x := by rw [List.sum_append]; simp
section
variable {a : List Bool} {F : List (List Int)} {i : Nat} {C : List Int} (hC : F[i]? = some C)
include hC
theorem brT_take (v : Nat) : brT a (F.take (i + 1)) v = brT a (F.take i) v + (if hB (litT a) C = 1 then cnT a C v else 0) := by
  unfold brT
  rw [get_take hC, List.map_append, List.map_cons, List.map_nil, sum_snoc]
  by_cases e : hB (litT a) C = 1
  · rw [if_pos e, cnT_one e]
    by_cases q : sB (litT a) C = (v : Nat)
    · rw [if_pos q, if_pos ⟨e, q⟩]
    · rw [if_neg q, if_neg (fun r => q r.2)]
  · rw [if_neg e, if_neg (fun r => e r.1)]
theorem mkT_take (v : Nat) : mkT a (F.take (i + 1)) v = mkT a (F.take i) v + (if hB (litT a) C = 0 then cntV C v else 0) := by
  unfold mkT
  rw [get_take hC, List.map_append, List.map_cons, List.map_nil, sum_snoc]
end
theorem brT_zero {n : Nat} {a : List Bool} {F : List (List Int)} (hF : GF n F) : brT a F 0 = 0 := by
  unfold brT
  induction F with
  | nil => rfl
  | cons c F ih =>
    rw [List.map_cons, List.sum_cons, ih fun d hd => hF d (by simp [hd]), if_neg (fun q => ?_)]; rfl
    obtain ⟨x, hx, _, hs⟩ := hB_one q.1
    have := (hF c (by simp)).1 x hx
    obtain ⟨h0, _, _⟩ := this
    rw [q.2] at hs
    omega
theorem cntV_zero {n : Nat} {c : List Int} (h : ClOk n c) : cntV c 0 = 0 := by
  unfold cntV
  rw [List.countP_eq_zero.2 fun x hx => by have := (h x hx).1; simp; omega]; rfl
theorem mkT_zero {n : Nat} {a : List Bool} {F : List (List Int)} (hF : GF n F) : mkT a F 0 = 0 := by
  unfold mkT
  induction F with
  | nil => rfl
  | cons c F ih =>
    rw [List.map_cons, List.sum_cons, ih fun d hd => hF d (by simp [hd]), cntV_zero (hF c (by simp)).1, ite_self]; rfl
/-- The clauses that don't hold, of the first. -/
def unL (a : List Bool) (F : List (List Int)) (i : Nat) : List Nat := (List.range i).filter fun q => decide (hB (litT a) (F.getD q []) = 0)
theorem unL_succ {a : List Bool} {F : List (List Int)} {i : Nat} {C : List Int} (hC : F[i]? = some C) : unL a F (i + 1) = unL a F i ++ (if hB (litT a) C = 0 then [i] else []) := by
  unfold unL
  rw [List.range_succ, List.filter_append, List.filter_cons, List.filter_nil, List.getD_eq_getElem?_getD, hC]
  by_cases e : hB (litT a) C = 0
  · rw [if_pos e, if_pos (by simpa using e)]
  · rw [if_neg e, if_neg (by simpa using e)]
theorem unL_lt {a : List Bool} {F : List (List Int)} {i q : Nat} (h : q ∈ unL a F i) : q < i := List.mem_range.1 (List.mem_filter.1 h).1
theorem unL_mem {a : List Bool} {F : List (List Int)} {q : Nat} : q ∈ unL a F F.length ↔ ∃ c, F[q]? = some c ∧ hB (litT a) c = 0 := by
  unfold unL
  rw [List.mem_filter, List.mem_range, decide_eq_true_iff, List.getD_eq_getElem?_getD]
  constructor
  · rintro ⟨h1, h2⟩
    rw [List.getElem?_eq_getElem h1] at h2
    exact ⟨_, List.getElem?_eq_getElem h1, h2⟩
  · rintro ⟨c, h1, h2⟩
    rw [h1]; exact ⟨(someF h1).1, h2⟩
theorem unL_len (a : List Bool) (F : List (List Int)) : (unL a F F.length).length = unT a F := unT_row (List.nodup_range.filter _) fun i => unL_mem
theorem look_map {l : List Nat} {f : Nat → Value} {x : Nat} : (l.map fun q : Nat => ((q : Int), f q)).lookup (x : Int) = if x ∈ l then some (f x) else none := by
  induction l with
  | nil => rfl
  | cons y l ih =>
    rw [List.map_cons, List.lookup_cons]
    by_cases e : x = y
    · subst e; simp
    · have : ((x : Int) == (y : Int)) = false := by simp; omega
      rw [this, ih]; simp [e]
theorem holds_T {n : Nat} {a : List Bool} {x : Int} (h : LitOk n x) : litT a x = ((decide (x > 0) && a.getD (x - 1).toNat false) || (decide (x < 0) && !a.getD (-x - 1).toNat false)) := by
  obtain ⟨h0, _, _⟩ := h
  unfold litT
  by_cases c : x > 0
  · rw [decide_eq_true c, decide_eq_false (by omega), show x.natAbs - 1 = (x - 1).toNat by omega]; simp
  · rw [decide_eq_false c, decide_eq_true (by omega), show x.natAbs - 1 = (-x - 1).toNat by omega]; simp
set_option maxHeartbeats 4000000 in
theorem bradawllaw14_holding.spec {n : Nat} {c : List Int} {a : List Bool} {u v : Value} (hc : ClOk n c) (hl : c.length ≤ 1000) (hn : n ≤ 1000) (al : a.length = n) {K : Ret} {h : Heap} (hu : Rd h u (c.map Iv)) (hv : Rd h v (a.map .bool)) (hk : K (Iv (hB (litT a) c)) h) : CallH Try.prog bradawllaw14_holding.id #[u, v] K h := by
  refine bradawllaw14_holding.ok ?_
  simp only [bradawllaw14_holding.pt]
  try simp (disch := first | assumption | omega | (apply At.mk; with_unfolding_all rfl)) only [↓go_eq, ↓ent_eq, Mv, NilC_at, Fld_at, add_mk, Nat.zero_add, Nat.add_zero, Add64, Sub64, Mul64, Quo64, Rem64, Neg64, Cvt64, CvtU8, CvtU16, CvtU32, CvtU64, AddU64, SubU64, MulU64, Shr64, Shr_u8, Shr_u16, Shr_u32, Shr_u64, And1, And31, And32, Eql64, Neq64, Bin_lss, Bin_leq, Bin_gtr, Bin_geq, Bin_bool_eql, Bin_bool_neq, Bin_ptr_nil_eql, Bin_ptr_nil_neq, Not_dec, Un_not, Pick_t, Pick_f, Pick_pos, Pick_neg, Gd_tt, Gd_tf, Gd_ft, Gd_ff, Gd_pos_t, Gd_neg_t, Gd_pos_f, Gd_neg_f, Gd_undef, If_t, If_f, If_pos, If_neg, CallF_eq, Max_two, Min_two, Len_rd, Len_own, Ld_blkE, Idx_rdN, Idx_ownN, Idx_rdE, Idx_ownE, IdxAE, LdA_two, Idx_at0, Ext_atE, Len_at, Int.toNat_natCast, Int.toNat_zero, Int.toNat_one, List.length_map, List.length_append, List.length_cons, List.length_nil, List.length_take, List.length_set, List.length_replicate, Bool.not_true, Bool.not_false, decide_true, decide_false, BEq.rfl, bne_self_eq_false, tf_beq, ft_beq, tf_bne, ft_bne, not_true_eq_false, not_false_eq_true, app]
  refine Lp_fn (σ := Nat) (fun i => [v, Iv (hB (litT a) (c.take i)), u, Iv (c.length : Nat), Iv (i : Nat)]) (fun i h' => i ≤ c.length ∧ h = h') (fun i => c.length - i) 0 rfl (fun _ => rfl) ⟨Nat.zero_le _, rfl⟩ ?_
  rintro i h1 ⟨hi, rfl⟩ X hX
  by_cases c1 : (i : Int) < (c.length : Nat)
  · have hg : c[i]? = some (c.getD i 0) := by rw [List.getD_eq_getElem?_getD, List.getElem?_eq_getElem (by omega)]; rfl
    have ax : At (c.map Iv) i (Iv (c.getD i 0)) := At.map (f := Iv) hg
    have hx := hc _ (List.mem_of_getElem? hg)
    have hX' := hX (i + 1) h ⟨by omega, rfl⟩ (by omega)
    rw [get_take hg, hB_snoc] at hX'
    have hb := hB_le (litT a) (c.take i)
    have hb2 : (c.take i).length ≤ 1000 := by rw [List.length_take]; omega
    have hxT := holds_T (a := a) hx
    generalize c.getD i 0 = x at *
    generalize hB (litT a) (c.take i) = s at *
    obtain ⟨h0, hx1, hx2⟩ := hx
    try simp (disch := first | assumption | omega | (apply At.mk; with_unfolding_all rfl)) only [↓go_eq, ↓ent_eq, Mv, NilC_at, Fld_at, add_mk, Nat.zero_add, Nat.add_zero, Add64, Sub64, Mul64, Quo64, Rem64, Neg64, Cvt64, CvtU8, CvtU16, CvtU32, CvtU64, AddU64, SubU64, MulU64, Shr64, Shr_u8, Shr_u16, Shr_u32, Shr_u64, And1, And31, And32, Eql64, Neq64, Bin_lss, Bin_leq, Bin_gtr, Bin_geq, Bin_bool_eql, Bin_bool_neq, Bin_ptr_nil_eql, Bin_ptr_nil_neq, Not_dec, Un_not, Pick_t, Pick_f, Pick_pos, Pick_neg, Gd_tt, Gd_tf, Gd_ft, Gd_ff, Gd_pos_t, Gd_neg_t, Gd_pos_f, Gd_neg_f, Gd_undef, If_t, If_f, If_pos, If_neg, CallF_eq, Max_two, Min_two, Len_rd, Len_own, Ld_blkE, Idx_rdN, Idx_ownN, Idx_rdE, Idx_ownE, IdxAE, LdA_two, Idx_at0, Ext_atE, Len_at, Int.toNat_natCast, Int.toNat_zero, Int.toNat_one, List.length_map, List.length_append, List.length_cons, List.length_nil, List.length_take, List.length_set, List.length_replicate, Bool.not_true, Bool.not_false, decide_true, decide_false, BEq.rfl, bne_self_eq_false, tf_beq, ft_beq, tf_bne, ft_bne, not_true_eq_false, not_false_eq_true, app]
    refine Jn_fn (σ := Unit) (fun _ => [v, Iv (s + (if litT a x then 1 else 0)), u, Iv (c.length : Nat), Iv (i : Nat)]) (fun _ h' => h = h') ?_ ?_
    · intro J hJ
      by_cases cp : x > 0
      · have a1 := bool_atD (a := a) (i := (x - 1).toNat) (by omega)
        rw [decide_eq_true cp, decide_eq_false (by omega)] at hxT
        generalize a.getD (x - 1).toNat false = y at *
        try simp (disch := first | assumption | omega | (apply At.mk; with_unfolding_all rfl)) only [↓go_eq, ↓ent_eq, Mv, NilC_at, Fld_at, add_mk, Nat.zero_add, Nat.add_zero, Add64, Sub64, Mul64, Quo64, Rem64, Neg64, Cvt64, CvtU8, CvtU16, CvtU32, CvtU64, AddU64, SubU64, MulU64, Shr64, Shr_u8, Shr_u16, Shr_u32, Shr_u64, And1, And31, And32, Eql64, Neq64, Bin_lss, Bin_leq, Bin_gtr, Bin_geq, Bin_bool_eql, Bin_bool_neq, Bin_ptr_nil_eql, Bin_ptr_nil_neq, Not_dec, Un_not, Pick_t, Pick_f, Pick_pos, Pick_neg, Gd_tt, Gd_tf, Gd_ft, Gd_ff, Gd_pos_t, Gd_neg_t, Gd_pos_f, Gd_neg_f, Gd_undef, If_t, If_f, If_pos, If_neg, CallF_eq, Max_two, Min_two, Len_rd, Len_own, Ld_blkE, Idx_rdN, Idx_ownN, Idx_rdE, Idx_ownE, IdxAE, LdA_two, Idx_at0, Ext_atE, Len_at, Int.toNat_natCast, Int.toNat_zero, Int.toNat_one, List.length_map, List.length_append, List.length_cons, List.length_nil, List.length_take, List.length_set, List.length_replicate, Bool.not_true, Bool.not_false, decide_true, decide_false, BEq.rfl, bne_self_eq_false, tf_beq, ft_beq, tf_bne, ft_bne, not_true_eq_false, not_false_eq_true, app]
        cases y with
        | true =>
          simp only [Bool.and_true, Bool.true_or] at hxT
          rw [hxT, if_pos rfl] at hJ
          try simp (disch := first | assumption | omega | (apply At.mk; with_unfolding_all rfl)) only [↓go_eq, ↓ent_eq, Mv, NilC_at, Fld_at, add_mk, Nat.zero_add, Nat.add_zero, Add64, Sub64, Mul64, Quo64, Rem64, Neg64, Cvt64, CvtU8, CvtU16, CvtU32, CvtU64, AddU64, SubU64, MulU64, Shr64, Shr_u8, Shr_u16, Shr_u32, Shr_u64, And1, And31, And32, Eql64, Neq64, Bin_lss, Bin_leq, Bin_gtr, Bin_geq, Bin_bool_eql, Bin_bool_neq, Bin_ptr_nil_eql, Bin_ptr_nil_neq, Not_dec, Un_not, Pick_t, Pick_f, Pick_pos, Pick_neg, Gd_tt, Gd_tf, Gd_ft, Gd_ff, Gd_pos_t, Gd_neg_t, Gd_pos_f, Gd_neg_f, Gd_undef, If_t, If_f, If_pos, If_neg, CallF_eq, Max_two, Min_two, Len_rd, Len_own, Ld_blkE, Idx_rdN, Idx_ownN, Idx_rdE, Idx_ownE, IdxAE, LdA_two, Idx_at0, Ext_atE, Len_at, Int.toNat_natCast, Int.toNat_zero, Int.toNat_one, List.length_map, List.length_append, List.length_cons, List.length_nil, List.length_take, List.length_set, List.length_replicate, Bool.not_true, Bool.not_false, decide_true, decide_false, BEq.rfl, bne_self_eq_false, tf_beq, ft_beq, tf_bne, ft_bne, not_true_eq_false, not_false_eq_true, app]
          exact hJ () h rfl
        | false =>
          simp only [Bool.and_false, Bool.false_and, Bool.false_or] at hxT
          rw [hxT, if_neg (by simp), Int.add_zero] at hJ
          try simp (disch := first | assumption | omega | (apply At.mk; with_unfolding_all rfl)) only [↓go_eq, ↓ent_eq, Mv, NilC_at, Fld_at, add_mk, Nat.zero_add, Nat.add_zero, Add64, Sub64, Mul64, Quo64, Rem64, Neg64, Cvt64, CvtU8, CvtU16, CvtU32, CvtU64, AddU64, SubU64, MulU64, Shr64, Shr_u8, Shr_u16, Shr_u32, Shr_u64, And1, And31, And32, Eql64, Neq64, Bin_lss, Bin_leq, Bin_gtr, Bin_geq, Bin_bool_eql, Bin_bool_neq, Bin_ptr_nil_eql, Bin_ptr_nil_neq, Not_dec, Un_not, Pick_t, Pick_f, Pick_pos, Pick_neg, Gd_tt, Gd_tf, Gd_ft, Gd_ff, Gd_pos_t, Gd_neg_t, Gd_pos_f, Gd_neg_f, Gd_undef, If_t, If_f, If_pos, If_neg, CallF_eq, Max_two, Min_two, Len_rd, Len_own, Ld_blkE, Idx_rdN, Idx_ownN, Idx_rdE, Idx_ownE, IdxAE, LdA_two, Idx_at0, Ext_atE, Len_at, Int.toNat_natCast, Int.toNat_zero, Int.toNat_one, List.length_map, List.length_append, List.length_cons, List.length_nil, List.length_take, List.length_set, List.length_replicate, Bool.not_true, Bool.not_false, decide_true, decide_false, BEq.rfl, bne_self_eq_false, tf_beq, ft_beq, tf_bne, ft_bne, not_true_eq_false, not_false_eq_true, app]
          exact hJ () h rfl
      · have a1 := bool_atD (a := a) (i := (-x - 1).toNat) (by omega)
        rw [decide_eq_false cp, decide_eq_true (by omega)] at hxT
        generalize a.getD (-x - 1).toNat false = y at *
        have cn : x < 0 := by omega
        try simp (disch := first | assumption | omega | (apply At.mk; with_unfolding_all rfl)) only [↓go_eq, ↓ent_eq, Mv, NilC_at, Fld_at, add_mk, Nat.zero_add, Nat.add_zero, Add64, Sub64, Mul64, Quo64, Rem64, Neg64, Cvt64, CvtU8, CvtU16, CvtU32, CvtU64, AddU64, SubU64, MulU64, Shr64, Shr_u8, Shr_u16, Shr_u32, Shr_u64, And1, And31, And32, Eql64, Neq64, Bin_lss, Bin_leq, Bin_gtr, Bin_geq, Bin_bool_eql, Bin_bool_neq, Bin_ptr_nil_eql, Bin_ptr_nil_neq, Not_dec, Un_not, Pick_t, Pick_f, Pick_pos, Pick_neg, Gd_tt, Gd_tf, Gd_ft, Gd_ff, Gd_pos_t, Gd_neg_t, Gd_pos_f, Gd_neg_f, Gd_undef, If_t, If_f, If_pos, If_neg, CallF_eq, Max_two, Min_two, Len_rd, Len_own, Ld_blkE, Idx_rdN, Idx_ownN, Idx_rdE, Idx_ownE, IdxAE, LdA_two, Idx_at0, Ext_atE, Len_at, Int.toNat_natCast, Int.toNat_zero, Int.toNat_one, List.length_map, List.length_append, List.length_cons, List.length_nil, List.length_take, List.length_set, List.length_replicate, Bool.not_true, Bool.not_false, decide_true, decide_false, BEq.rfl, bne_self_eq_false, tf_beq, ft_beq, tf_bne, ft_bne, not_true_eq_false, not_false_eq_true, app]
        cases y with
        | false =>
          simp only [Bool.not_false, Bool.and_true, Bool.false_and, Bool.false_or] at hxT
          rw [hxT, if_pos rfl] at hJ
          try simp (disch := first | assumption | omega | (apply At.mk; with_unfolding_all rfl)) only [↓go_eq, ↓ent_eq, Mv, NilC_at, Fld_at, add_mk, Nat.zero_add, Nat.add_zero, Add64, Sub64, Mul64, Quo64, Rem64, Neg64, Cvt64, CvtU8, CvtU16, CvtU32, CvtU64, AddU64, SubU64, MulU64, Shr64, Shr_u8, Shr_u16, Shr_u32, Shr_u64, And1, And31, And32, Eql64, Neq64, Bin_lss, Bin_leq, Bin_gtr, Bin_geq, Bin_bool_eql, Bin_bool_neq, Bin_ptr_nil_eql, Bin_ptr_nil_neq, Not_dec, Un_not, Pick_t, Pick_f, Pick_pos, Pick_neg, Gd_tt, Gd_tf, Gd_ft, Gd_ff, Gd_pos_t, Gd_neg_t, Gd_pos_f, Gd_neg_f, Gd_undef, If_t, If_f, If_pos, If_neg, CallF_eq, Max_two, Min_two, Len_rd, Len_own, Ld_blkE, Idx_rdN, Idx_ownN, Idx_rdE, Idx_ownE, IdxAE, LdA_two, Idx_at0, Ext_atE, Len_at, Int.toNat_natCast, Int.toNat_zero, Int.toNat_one, List.length_map, List.length_append, List.length_cons, List.length_nil, List.length_take, List.length_set, List.length_replicate, Bool.not_true, Bool.not_false, decide_true, decide_false, BEq.rfl, bne_self_eq_false, tf_beq, ft_beq, tf_bne, ft_bne, not_true_eq_false, not_false_eq_true, app]
          exact hJ () h rfl
        | true =>
          simp only [Bool.not_true, Bool.and_false, Bool.false_and, Bool.false_or] at hxT
          rw [hxT, if_neg (by simp), Int.add_zero] at hJ
          try simp (disch := first | assumption | omega | (apply At.mk; with_unfolding_all rfl)) only [↓go_eq, ↓ent_eq, Mv, NilC_at, Fld_at, add_mk, Nat.zero_add, Nat.add_zero, Add64, Sub64, Mul64, Quo64, Rem64, Neg64, Cvt64, CvtU8, CvtU16, CvtU32, CvtU64, AddU64, SubU64, MulU64, Shr64, Shr_u8, Shr_u16, Shr_u32, Shr_u64, And1, And31, And32, Eql64, Neq64, Bin_lss, Bin_leq, Bin_gtr, Bin_geq, Bin_bool_eql, Bin_bool_neq, Bin_ptr_nil_eql, Bin_ptr_nil_neq, Not_dec, Un_not, Pick_t, Pick_f, Pick_pos, Pick_neg, Gd_tt, Gd_tf, Gd_ft, Gd_ff, Gd_pos_t, Gd_neg_t, Gd_pos_f, Gd_neg_f, Gd_undef, If_t, If_f, If_pos, If_neg, CallF_eq, Max_two, Min_two, Len_rd, Len_own, Ld_blkE, Idx_rdN, Idx_ownN, Idx_rdE, Idx_ownE, IdxAE, LdA_two, Idx_at0, Ext_atE, Len_at, Int.toNat_natCast, Int.toNat_zero, Int.toNat_one, List.length_map, List.length_append, List.length_cons, List.length_nil, List.length_take, List.length_set, List.length_replicate, Bool.not_true, Bool.not_false, decide_true, decide_false, BEq.rfl, bne_self_eq_false, tf_beq, ft_beq, tf_bne, ft_bne, not_true_eq_false, not_false_eq_true, app]
          exact hJ () h rfl
    · rintro - h1 rfl
      try simp (disch := first | assumption | omega | (apply At.mk; with_unfolding_all rfl)) only [↓go_eq, ↓ent_eq, Mv, NilC_at, Fld_at, add_mk, Nat.zero_add, Nat.add_zero, Add64, Sub64, Mul64, Quo64, Rem64, Neg64, Cvt64, CvtU8, CvtU16, CvtU32, CvtU64, AddU64, SubU64, MulU64, Shr64, Shr_u8, Shr_u16, Shr_u32, Shr_u64, And1, And31, And32, Eql64, Neq64, Bin_lss, Bin_leq, Bin_gtr, Bin_geq, Bin_bool_eql, Bin_bool_neq, Bin_ptr_nil_eql, Bin_ptr_nil_neq, Not_dec, Un_not, Pick_t, Pick_f, Pick_pos, Pick_neg, Gd_tt, Gd_tf, Gd_ft, Gd_ff, Gd_pos_t, Gd_neg_t, Gd_pos_f, Gd_neg_f, Gd_undef, If_t, If_f, If_pos, If_neg, CallF_eq, Max_two, Min_two, Len_rd, Len_own, Ld_blkE, Idx_rdN, Idx_ownN, Idx_rdE, Idx_ownE, IdxAE, LdA_two, Idx_at0, Ext_atE, Len_at, Int.toNat_natCast, Int.toNat_zero, Int.toNat_one, List.length_map, List.length_append, List.length_cons, List.length_nil, List.length_take, List.length_set, List.length_replicate, Bool.not_true, Bool.not_false, decide_true, decide_false, BEq.rfl, bne_self_eq_false, tf_beq, ft_beq, tf_bne, ft_bne, not_true_eq_false, not_false_eq_true, app]
      try simp only [show (i : Int) + 1 = ((i + 1 : Nat) : Int) from by omega]
      exact hX'
  · rw [show c.take i = c from List.take_of_length_le (by omega)]
    try simp (disch := first | assumption | omega | (apply At.mk; with_unfolding_all rfl)) only [↓go_eq, ↓ent_eq, Mv, NilC_at, Fld_at, add_mk, Nat.zero_add, Nat.add_zero, Add64, Sub64, Mul64, Quo64, Rem64, Neg64, Cvt64, CvtU8, CvtU16, CvtU32, CvtU64, AddU64, SubU64, MulU64, Shr64, Shr_u8, Shr_u16, Shr_u32, Shr_u64, And1, And31, And32, Eql64, Neq64, Bin_lss, Bin_leq, Bin_gtr, Bin_geq, Bin_bool_eql, Bin_bool_neq, Bin_ptr_nil_eql, Bin_ptr_nil_neq, Not_dec, Un_not, Pick_t, Pick_f, Pick_pos, Pick_neg, Gd_tt, Gd_tf, Gd_ft, Gd_ff, Gd_pos_t, Gd_neg_t, Gd_pos_f, Gd_neg_f, Gd_undef, If_t, If_f, If_pos, If_neg, CallF_eq, Max_two, Min_two, Len_rd, Len_own, Ld_blkE, Idx_rdN, Idx_ownN, Idx_rdE, Idx_ownE, IdxAE, LdA_two, Idx_at0, Ext_atE, Len_at, Int.toNat_natCast, Int.toNat_zero, Int.toNat_one, List.length_map, List.length_append, List.length_cons, List.length_nil, List.length_take, List.length_set, List.length_replicate, Bool.not_true, Bool.not_false, decide_true, decide_false, BEq.rfl, bne_self_eq_false, tf_beq, ft_beq, tf_bne, ft_bne, not_true_eq_false, not_false_eq_true, app]
    exact hk
theorem holding_lq {n : Nat} {c : List Int} {a : List Bool} {u v : Value} (hc : ClOk n c) (hl : c.length ≤ 1000) (hn : n ≤ 1000) (al : a.length = n) {K : Ret} {h : Heap} (hu : Rd h u (c.map Iv)) (hv : Rd h v (a.map .bool)) (hk : K (Iv (hB (litT a) c)) h) : QCall Try.prog bradawllaw14_holding.id [u, v] K h := QCall_mk (bradawllaw14_holding.spec hc hl hn al hu hv ⟨rfl, rfl⟩) hk
end Go.Proofs.Ytonihbbpfliihaa
