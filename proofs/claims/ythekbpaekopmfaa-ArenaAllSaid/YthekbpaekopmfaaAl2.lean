/- Deeds as they lie in memory, and what one deed does. Conditions: those typed ahead of each theorem. -/
import Derived.Test.YthekbpaekopmfaaAl
namespace Go.Proofs.Ythekbpaekopmfaa
open Go.Pt
set_option linter.unusedVariables false
set_option linter.unusedSimpArgs false
abbrev De := Int × Int × Int × List Int × Int
abbrev rDes : Rk (List De) := rSlice (rLen 5 (rAnd (rField 0 1 (rInt .u8)) (rAnd (rField 1 1 (rInt .i64)) (rAnd (rField 2 1 (rInt .i64)) (rAnd (rField 3 1 (rSlice (rInt .i8) 1)) (rField 4 1 (rInt .u8))))))) 5
def ecells (d : De) (w : Value) : List Value := [.int .u8 d.1, Iv d.2.1, Iv d.2.2.1, w, .int .u8 d.2.2.2.2]
structure RdE (h : Heap) (v : Value) (ds : List De) : Prop where
  out : ∃ a cap, v = .slice a ds.length cap ∧ ∀ (i : Nat) (d : De), ds[i]? = some d → ∃ ad w, a = some ad ∧ Rd h w (d.2.2.2.1.map (.int .i8)) ∧ ∀ (j : Nat) (u : Value), (ecells d w)[j]? = some u → cell h ((ad.add (i * 5)).add j) = some u
def eok (d : De) : Prop := (0 ≤ d.1 ∧ d.1 ≤ 255) ∧ (0 ≤ d.2.2.2.2 ∧ d.2.2.2.2 ≤ 255) ∧ d.2.2.2.1.length ≤ 140737488351232
theorem des_arg {h : Heap} {ds : List De} {v : Value} (r : rDes.is h ds [v]) : RdE h v ds ∧ ∀ d ∈ ds, eok d := by
  obtain ⟨a, cap, e, hl, hm, hx, hR⟩ := r
  have ev : v = .slice a ds.length cap := by simpa using e
  have key : ∀ (i : Nat) (d : De), ds[i]? = some d → ∃ ad w, a = some ad ∧ Rd h w (d.2.2.2.1.map (.int .i8)) ∧ eok d ∧ ∀ (j : Nat) (u : Value), (ecells d w)[j]? = some u → cell h ((ad.add (i * 5)).add j) = some u := by
    intro i d hd
    obtain ⟨ad, ecs, h1, h2, h3, h4⟩ := hx i d hd
    obtain ⟨_, hA, hB, hC, hD, hE⟩ := h2
    match ecs, h3, hA, hB, hC, hD, hE, h4 with
    | [x, y, z, u, w], _, hA, hB, hC, hD, hE, h4 =>
      obtain ⟨e1, l1, u1⟩ := hA
      obtain ⟨e2, l2, u2⟩ := hB
      obtain ⟨e3, l3, u3⟩ := hC
      obtain ⟨e5, l5, u5⟩ := hE
      have hD : (rSlice (rInt .i8) 1).is h d.2.2.2.1 [u] := hD
      have hD2 := hD
      obtain ⟨_, _, _, _, _, _, hlen⟩ := hD2
      have e1 : x = .int .u8 d.1 := by simpa using e1
      have e2 : y = Iv d.2.1 := by simpa using e2
      have e3 : z = Iv d.2.2.1 := by simpa using e3
      have e5 : w = .int .u8 d.2.2.2.2 := by simpa using e5
      exact ⟨ad, u, h1, (rd_ints hD).1, ⟨⟨l1, u1⟩, ⟨l5, u5⟩, hlen⟩, by rw [e1, e2, e3, e5] at h4; exact h4⟩
  refine ⟨⟨a, cap, ev, fun i d hd => ?_⟩, fun d hd => ?_⟩
  · obtain ⟨ad, w, h1, h2, h3, h4⟩ := key i d hd
    exact ⟨ad, w, h1, h2, h4⟩
  · obtain ⟨i, hi⟩ := List.getElem?_of_mem hd
    obtain ⟨_, _, _, _, h2, _⟩ := key i d hi
    exact h2
section
variable {K : Ret} {h h' : Heap} {ds : List De} {v : Value}
theorem RdE.fr (r : RdE h v ds) (f : Fr [] h h') : RdE h' v ds := by
  obtain ⟨a, cap, e, hc⟩ := r.out
  exact ⟨a, cap, e, fun i d hd => let ⟨ad, w, e1, e2, e3⟩ := hc i d hd; ⟨ad, w, e1, e2.fr f, fun j u hu => cell_fr (e3 j u hu) f (by simp)⟩⟩
theorem RdE.len (r : RdE h v ds) (hk : K (Iv (ds.length : Nat)) h) : Len v K h := by
  obtain ⟨a, cap, rfl, hc⟩ := r.out
  rw [Len_at]; exact hk
theorem RdE.at {i : Nat} {d : De} (r : RdE h v ds) (hd : ds[i]? = some d) (hk : ∀ w, Rd h w (d.2.2.2.1.map (.int .i8)) → K (.agg (ecells d w).toArray) h) : Idx 5 v (Iv (i : Nat)) (fun p h => LdA 5 p K h) h := by
  obtain ⟨a, cap, rfl, hc⟩ := r.out
  obtain ⟨ad, w, rfl, hw, e2⟩ := hc i d hd
  have hi := (List.getElem?_eq_some_iff.1 hd).1
  rw [Idx_at]
  refine ⟨by omega, ?_⟩
  rw [LdA_at, Int.toNat_natCast]
  have h0 := e2 0 _ rfl
  have h1 := e2 1 _ rfl
  have h2 := e2 2 _ rfl
  have h3 := e2 3 _ rfl
  have h4 := e2 4 _ rfl
  have : loads h (ad.add (i * 5)) 0 5 #[] = some (ecells d w).toArray := by simp [loads, h0, h1, h2, h3, h4, ecells]
  rw [this]; exact hk w hw
variable {b : Nat}
theorem LdA_five {x y z u w : Value} (hb : Blk h b [x, y, z, u, w]) : LdA 5 (.pointer (some ⟨b, 0, none⟩)) K h = K (.agg #[x, y, z, u, w]) h := by
  rw [LdA_at, loads_blk hb 5 0 #[] (by simp)]; rfl
theorem StA_five {x y z u w x' y' z' u' w' : Value} (hb : Blk h b [x, y, z, u, w]) (hx : isCell x' = true) (hy : isCell y' = true) (hz : isCell z' = true) (hu : isCell u' = true) (hw : isCell w' = true) (hk : ∀ h', Blk h' b [x', y', z', u', w'] → Fr [b] h h' → K undef h') : StA 5 (.pointer (some ⟨b, 0, none⟩)) (.agg #[x', y', z', u', w']) K h := by
  rw [StA_at]
  refine ⟨rfl, ?_⟩
  obtain ⟨h', e, b', f⟩ := stores_blk (o := 0) [x', y', z', u', w'] h [x, y, z, u, w] 0 hb (by simp) (by simp [hx, hy, hz, hu, hw])
  have e' : stores h ⟨b, 0, none⟩ 0 (#[x', y', z', u', w'] : Array Value).toList = some h' := e
  rw [e']
  exact hk h' (by simpa using b') f
end
theorem And_u8 (a b : Int) : ∃ z : Int, ∀ {K : Ret} {h : Heap}, Bin .int .and (.int .u8 a) (.int .u8 b) K h = K (.int .u8 z) h := ⟨_, fun {K h} => Bin_and _ _ _ _⟩
/-- How much deeds weigh. -/
def wt (ds : List De) (i : Nat) : Nat := ((ds.take i).map fun d => 1 + d.2.2.2.1.length).sum
theorem wt_succ {ds : List De} {i : Nat} {d : De} (h : ds[i]? = some d) : wt ds (i + 1) = wt ds i + (1 + d.2.2.2.1.length) := by
  unfold wt; rw [List.take_add_one, h, Option.toList_some, List.map_append, List.sum_append]; simp
theorem wt_mono (ds : List De) {i j : Nat} (h : i ≤ j) : wt ds i ≤ wt ds j := by
  unfold wt
  have : ds.take i = (ds.take j).take i := by rw [List.take_take, Nat.min_eq_left h]
  rw [this]
  generalize ds.take j = l
  clear this h
  induction l generalizing i with
  | nil => simp
  | cons x l ih =>
    cases i with
    | zero => simp
    | succ i => simp only [List.take_succ_cons, List.map_cons, List.sum_cons]; have := ih (i := i); omega
theorem wt_ge (ds : List De) : ∀ i, i ≤ ds.length → i ≤ wt ds i
  | 0, _ => Nat.zero_le _
  | i + 1, h => by
    have := wt_ge ds i (by omega)
    rw [wt_succ (List.getElem?_eq_getElem (show i < ds.length by omega))]; omega
set_option maxHeartbeats 1000000 in
theorem bradawllaw05_light.spec {ds : List De} {v : Value} {K : Ret} {h : Heap} (hv : RdE h v ds) (he : ∀ d ∈ ds, eok d) (ht : ∀ h', wt ds ds.length ≤ 500 → Fr [] h h' → K (.bool true) h') (hf : ∀ h', Fr [] h h' → K (.bool false) h') : CallH Try.prog bradawllaw05_light.id #[v] K h := by
  refine bradawllaw05_light.ok ?_
  simp only [bradawllaw05_light.pt]
  rw [go_eq]
  refine hv.len ?_
  refine Lp_fn (σ := Nat) (fun i => [Iv (wt ds i : Nat), v, Iv (ds.length : Nat), Iv (i : Nat)]) (fun i h' => i ≤ ds.length ∧ wt ds i ≤ 500 ∧ Fr [] h h') (fun i => ds.length - i) 0 (by simp [wt]) (fun _ => rfl) ⟨Nat.zero_le _, by simp [wt], Fr.refl _ _⟩ ?_
  rintro i h1 ⟨hi, hw, f1⟩ X hX
  have hv1 := hv.fr f1
  by_cases ci : (i : Int) < (ds.length : Nat)
  · have hd : ds[i]? = some (ds[i]'(by omega)) := List.getElem?_eq_getElem _
    generalize (ds[i]'(by omega)) = d at hd
    have hs := wt_succ hd
    have hge := wt_ge ds i (by omega)
    have hle := (he d (List.mem_of_getElem? hd)).2.2
    try simp (disch := first | assumption | omega | (apply At.mk; with_unfolding_all rfl)) only [↓go_eq, ↓ent_eq, Mv, NilC_at, Fld_at, add_mk, Nat.zero_add, Nat.add_zero, Add64, Sub64, Mul64, Quo64, Rem64, Neg64, Cvt64, CvtU8, CvtU16, CvtU32, CvtU64, AddU64, SubU64, MulU64, Shr64, Shr_u8, Shr_u16, Shr_u32, Shr_u64, And1, And31, And32, Eql64, Neq64, Bin_lss, Bin_leq, Bin_gtr, Bin_geq, Bin_bool_eql, Bin_bool_neq, Bin_ptr_nil_eql, Bin_ptr_nil_neq, Not_dec, Un_not, Pick_t, Pick_f, Pick_pos, Pick_neg, Gd_tt, Gd_tf, Gd_ft, Gd_ff, Gd_pos_t, Gd_neg_t, Gd_pos_f, Gd_neg_f, Gd_undef, If_t, If_f, If_pos, If_neg, CallF_eq, Max_two, Min_two, Len_rd, Len_own, Ld_blkE, Idx_rdN, Idx_ownN, Idx_rdE, Idx_ownE, IdxAE, LdA_two, Idx_at0, Ext_atE, Len_at, Int.toNat_natCast, Int.toNat_zero, Int.toNat_one, List.length_map, List.length_append, List.length_cons, List.length_nil, List.length_take, List.length_set, List.length_replicate, Bool.not_true, Bool.not_false, decide_true, decide_false, BEq.rfl, bne_self_eq_false, tf_beq, ft_beq, tf_bne, ft_bne, not_true_eq_false, not_false_eq_true, app]
    refine hv1.at hd fun w rw' => ?_
    try simp (disch := first | assumption | omega | (apply At.mk; with_unfolding_all rfl)) only [↓go_eq, ↓ent_eq, Mv, NilC_at, Fld_at, add_mk, Nat.zero_add, Nat.add_zero, Add64, Sub64, Mul64, Quo64, Rem64, Neg64, Cvt64, CvtU8, CvtU16, CvtU32, CvtU64, AddU64, SubU64, MulU64, Shr64, Shr_u8, Shr_u16, Shr_u32, Shr_u64, And1, And31, And32, Eql64, Neq64, Bin_lss, Bin_leq, Bin_gtr, Bin_geq, Bin_bool_eql, Bin_bool_neq, Bin_ptr_nil_eql, Bin_ptr_nil_neq, Not_dec, Un_not, Pick_t, Pick_f, Pick_pos, Pick_neg, Gd_tt, Gd_tf, Gd_ft, Gd_ff, Gd_pos_t, Gd_neg_t, Gd_pos_f, Gd_neg_f, Gd_undef, If_t, If_f, If_pos, If_neg, CallF_eq, Max_two, Min_two, Len_rd, Len_own, Ld_blkE, Idx_rdN, Idx_ownN, Idx_rdE, Idx_ownE, IdxAE, LdA_two, Idx_at0, Ext_atE, Len_at, Int.toNat_natCast, Int.toNat_zero, Int.toNat_one, List.length_map, List.length_append, List.length_cons, List.length_nil, List.length_take, List.length_set, List.length_replicate, Bool.not_true, Bool.not_false, decide_true, decide_false, BEq.rfl, bne_self_eq_false, tf_beq, ft_beq, tf_bne, ft_bne, not_true_eq_false, not_false_eq_true, app]
    refine New_blk fun h2 b2 f2 s2 => ?_
    have b2 : Blk h2 h1.size [.int .u8 0, Iv 0, Iv 0, nilS, .int .u8 0] := b2
    have rw2 := rw'.fr f2
    try simp (disch := first | assumption | omega | (apply At.mk; with_unfolding_all rfl)) only [↓go_eq, ↓ent_eq, Mv, NilC_at, Fld_at, add_mk, Nat.zero_add, Nat.add_zero, Add64, Sub64, Mul64, Quo64, Rem64, Neg64, Cvt64, CvtU8, CvtU16, CvtU32, CvtU64, AddU64, SubU64, MulU64, Shr64, Shr_u8, Shr_u16, Shr_u32, Shr_u64, And1, And31, And32, Eql64, Neq64, Bin_lss, Bin_leq, Bin_gtr, Bin_geq, Bin_bool_eql, Bin_bool_neq, Bin_ptr_nil_eql, Bin_ptr_nil_neq, Not_dec, Un_not, Pick_t, Pick_f, Pick_pos, Pick_neg, Gd_tt, Gd_tf, Gd_ft, Gd_ff, Gd_pos_t, Gd_neg_t, Gd_pos_f, Gd_neg_f, Gd_undef, If_t, If_f, If_pos, If_neg, CallF_eq, Max_two, Min_two, Len_rd, Len_own, Ld_blkE, Idx_rdN, Idx_ownN, Idx_rdE, Idx_ownE, IdxAE, LdA_two, Idx_at0, Ext_atE, Len_at, Int.toNat_natCast, Int.toNat_zero, Int.toNat_one, List.length_map, List.length_append, List.length_cons, List.length_nil, List.length_take, List.length_set, List.length_replicate, Bool.not_true, Bool.not_false, decide_true, decide_false, BEq.rfl, bne_self_eq_false, tf_beq, ft_beq, tf_bne, ft_bne, not_true_eq_false, not_false_eq_true, app]
    refine StA_five b2 rfl rfl rfl rw2.isCell rfl fun h3 b3 f3 => ?_
    have f13 : Fr [] h1 h3 := f2.trans' f3 (by simp)
    have rw3 := rw'.fr f13
    have hl : (d.2.2.2.1.map (Value.int .i8)).length = d.2.2.2.1.length := List.length_map _
    try simp (disch := first | assumption | omega | (apply At.mk; with_unfolding_all rfl)) only [hl, ↓go_eq, ↓ent_eq, Mv, NilC_at, Fld_at, add_mk, Nat.zero_add, Nat.add_zero, Add64, Sub64, Mul64, Quo64, Rem64, Neg64, Cvt64, CvtU8, CvtU16, CvtU32, CvtU64, AddU64, SubU64, MulU64, Shr64, Shr_u8, Shr_u16, Shr_u32, Shr_u64, And1, And31, And32, Eql64, Neq64, Bin_lss, Bin_leq, Bin_gtr, Bin_geq, Bin_bool_eql, Bin_bool_neq, Bin_ptr_nil_eql, Bin_ptr_nil_neq, Not_dec, Un_not, Pick_t, Pick_f, Pick_pos, Pick_neg, Gd_tt, Gd_tf, Gd_ft, Gd_ff, Gd_pos_t, Gd_neg_t, Gd_pos_f, Gd_neg_f, Gd_undef, If_t, If_f, If_pos, If_neg, CallF_eq, Max_two, Min_two, Len_rd, Len_own, Ld_blkE, Idx_rdN, Idx_ownN, Idx_rdE, Idx_ownE, IdxAE, LdA_two, Idx_at0, Ext_atE, Len_at, Int.toNat_natCast, Int.toNat_zero, Int.toNat_one, List.length_map, List.length_append, List.length_cons, List.length_nil, List.length_take, List.length_set, List.length_replicate, Bool.not_true, Bool.not_false, decide_true, decide_false, BEq.rfl, bne_self_eq_false, tf_beq, ft_beq, tf_bne, ft_bne, not_true_eq_false, not_false_eq_true, app]
    by_cases c5 : (wt ds i : Int) + (1 + (d.2.2.2.1.length : Nat)) > 500
    · try simp (disch := first | assumption | omega | (apply At.mk; with_unfolding_all rfl)) only [↓go_eq, ↓ent_eq, Mv, NilC_at, Fld_at, add_mk, Nat.zero_add, Nat.add_zero, Add64, Sub64, Mul64, Quo64, Rem64, Neg64, Cvt64, CvtU8, CvtU16, CvtU32, CvtU64, AddU64, SubU64, MulU64, Shr64, Shr_u8, Shr_u16, Shr_u32, Shr_u64, And1, And31, And32, Eql64, Neq64, Bin_lss, Bin_leq, Bin_gtr, Bin_geq, Bin_bool_eql, Bin_bool_neq, Bin_ptr_nil_eql, Bin_ptr_nil_neq, Not_dec, Un_not, Pick_t, Pick_f, Pick_pos, Pick_neg, Gd_tt, Gd_tf, Gd_ft, Gd_ff, Gd_pos_t, Gd_neg_t, Gd_pos_f, Gd_neg_f, Gd_undef, If_t, If_f, If_pos, If_neg, CallF_eq, Max_two, Min_two, Len_rd, Len_own, Ld_blkE, Idx_rdN, Idx_ownN, Idx_rdE, Idx_ownE, IdxAE, LdA_two, Idx_at0, Ext_atE, Len_at, Int.toNat_natCast, Int.toNat_zero, Int.toNat_one, List.length_map, List.length_append, List.length_cons, List.length_nil, List.length_take, List.length_set, List.length_replicate, Bool.not_true, Bool.not_false, decide_true, decide_false, BEq.rfl, bne_self_eq_false, tf_beq, ft_beq, tf_bne, ft_bne, not_true_eq_false, not_false_eq_true, app]
      exact hf h3 (f1.trans f13)
    · have nx := hX (i + 1) h3 ⟨by omega, by omega, f1.trans f13⟩ (by omega)
      rw [hs, show ((wt ds i + (1 + d.2.2.2.1.length) : Nat) : Int) = (wt ds i : Int) + (1 + (d.2.2.2.1.length : Nat)) by omega, show ((i + 1 : Nat) : Int) = (i : Int) + 1 by omega] at nx
      try simp (disch := first | assumption | omega | (apply At.mk; with_unfolding_all rfl)) only [↓go_eq, ↓ent_eq, Mv, NilC_at, Fld_at, add_mk, Nat.zero_add, Nat.add_zero, Add64, Sub64, Mul64, Quo64, Rem64, Neg64, Cvt64, CvtU8, CvtU16, CvtU32, CvtU64, AddU64, SubU64, MulU64, Shr64, Shr_u8, Shr_u16, Shr_u32, Shr_u64, And1, And31, And32, Eql64, Neq64, Bin_lss, Bin_leq, Bin_gtr, Bin_geq, Bin_bool_eql, Bin_bool_neq, Bin_ptr_nil_eql, Bin_ptr_nil_neq, Not_dec, Un_not, Pick_t, Pick_f, Pick_pos, Pick_neg, Gd_tt, Gd_tf, Gd_ft, Gd_ff, Gd_pos_t, Gd_neg_t, Gd_pos_f, Gd_neg_f, Gd_undef, If_t, If_f, If_pos, If_neg, CallF_eq, Max_two, Min_two, Len_rd, Len_own, Ld_blkE, Idx_rdN, Idx_ownN, Idx_rdE, Idx_ownE, IdxAE, LdA_two, Idx_at0, Ext_atE, Len_at, Int.toNat_natCast, Int.toNat_zero, Int.toNat_one, List.length_map, List.length_append, List.length_cons, List.length_nil, List.length_take, List.length_set, List.length_replicate, Bool.not_true, Bool.not_false, decide_true, decide_false, BEq.rfl, bne_self_eq_false, tf_beq, ft_beq, tf_bne, ft_bne, not_true_eq_false, not_false_eq_true, app]
      exact nx
  · have ei : i = ds.length := by omega
    subst ei
    try simp (disch := first | assumption | omega | (apply At.mk; with_unfolding_all rfl)) only [↓go_eq, ↓ent_eq, Mv, NilC_at, Fld_at, add_mk, Nat.zero_add, Nat.add_zero, Add64, Sub64, Mul64, Quo64, Rem64, Neg64, Cvt64, CvtU8, CvtU16, CvtU32, CvtU64, AddU64, SubU64, MulU64, Shr64, Shr_u8, Shr_u16, Shr_u32, Shr_u64, And1, And31, And32, Eql64, Neq64, Bin_lss, Bin_leq, Bin_gtr, Bin_geq, Bin_bool_eql, Bin_bool_neq, Bin_ptr_nil_eql, Bin_ptr_nil_neq, Not_dec, Un_not, Pick_t, Pick_f, Pick_pos, Pick_neg, Gd_tt, Gd_tf, Gd_ft, Gd_ff, Gd_pos_t, Gd_neg_t, Gd_pos_f, Gd_neg_f, Gd_undef, If_t, If_f, If_pos, If_neg, CallF_eq, Max_two, Min_two, Len_rd, Len_own, Ld_blkE, Idx_rdN, Idx_ownN, Idx_rdE, Idx_ownE, IdxAE, LdA_two, Idx_at0, Ext_atE, Len_at, Int.toNat_natCast, Int.toNat_zero, Int.toNat_one, List.length_map, List.length_append, List.length_cons, List.length_nil, List.length_take, List.length_set, List.length_replicate, Bool.not_true, Bool.not_false, decide_true, decide_false, BEq.rfl, bne_self_eq_false, tf_beq, ft_beq, tf_bne, ft_bne, not_true_eq_false, not_false_eq_true, app]
    exact ht h1 hw f1
section
variable {N g : Nat} {h h' h0 : Heap} {cs : List Cl} {ps : List (Nat × Nat)} {av : Value} {F ab S : List Nat} {K : Ret}
/-- Is a place in a clause? -/
theorem do_in {t b l n : Nat} {r i : Int} {gn : Bool} (bt : Blk h t [ptr b]) (m : MB h r n gn b l) (hk : K (.bool (!gn && decide (0 ≤ i ∧ i < (n : Nat)))) h) : CallV Try.prog (.func (.func bradawllaw05_do_1.id) #[] #[ptr t]) [Iv i] K h := by
  refine CallV_func (by kernel_rfl) ?_
  refine bradawllaw05_do_1.ok ?_
  show bradawllaw05_do_1.pt (Iv i) (ptr t) K h
  simp only [bradawllaw05_do_1.pt]
  obtain ⟨⟨u, w, q, b1⟩, xs, h1, o1⟩ := m
  have hl : ∀ {K : Ret} {h : Heap}, Len (.slice (some ⟨l, 0, none⟩) n n) K h = K (Iv (n : Nat)) h := fun {K h} => Len_at _ _ _
  cases gn with
  | true =>
    try simp (disch := first | assumption | omega | (apply At.mk; with_unfolding_all rfl)) only [↓go_eq, ↓ent_eq, Mv, NilC_at, Fld_at, add_mk, Nat.zero_add, Nat.add_zero, Add64, Sub64, Mul64, Quo64, Rem64, Neg64, Cvt64, CvtU8, CvtU16, CvtU32, CvtU64, AddU64, SubU64, MulU64, Shr64, Shr_u8, Shr_u16, Shr_u32, Shr_u64, And1, And31, And32, Eql64, Neq64, Bin_lss, Bin_leq, Bin_gtr, Bin_geq, Bin_bool_eql, Bin_bool_neq, Bin_ptr_nil_eql, Bin_ptr_nil_neq, Not_dec, Un_not, Pick_t, Pick_f, Pick_pos, Pick_neg, Gd_tt, Gd_tf, Gd_ft, Gd_ff, Gd_pos_t, Gd_neg_t, Gd_pos_f, Gd_neg_f, Gd_undef, If_t, If_f, If_pos, If_neg, CallF_eq, Max_two, Min_two, Len_rd, Len_own, Ld_blkE, Idx_rdN, Idx_ownN, Idx_rdE, Idx_ownE, IdxAE, LdA_two, Idx_at0, Ext_atE, Len_at, Int.toNat_natCast, Int.toNat_zero, Int.toNat_one, List.length_map, List.length_append, List.length_cons, List.length_nil, List.length_take, List.length_set, List.length_replicate, Bool.not_true, Bool.not_false, decide_true, decide_false, BEq.rfl, bne_self_eq_false, tf_beq, ft_beq, tf_bne, ft_bne, not_true_eq_false, not_false_eq_true, app]
    exact hk
  | false =>
    by_cases c1 : i ≥ 0
    · try simp (disch := first | assumption | omega | (apply At.mk; with_unfolding_all rfl)) only [hl, ↓go_eq, ↓ent_eq, Mv, NilC_at, Fld_at, add_mk, Nat.zero_add, Nat.add_zero, Add64, Sub64, Mul64, Quo64, Rem64, Neg64, Cvt64, CvtU8, CvtU16, CvtU32, CvtU64, AddU64, SubU64, MulU64, Shr64, Shr_u8, Shr_u16, Shr_u32, Shr_u64, And1, And31, And32, Eql64, Neq64, Bin_lss, Bin_leq, Bin_gtr, Bin_geq, Bin_bool_eql, Bin_bool_neq, Bin_ptr_nil_eql, Bin_ptr_nil_neq, Not_dec, Un_not, Pick_t, Pick_f, Pick_pos, Pick_neg, Gd_tt, Gd_tf, Gd_ft, Gd_ff, Gd_pos_t, Gd_neg_t, Gd_pos_f, Gd_neg_f, Gd_undef, If_t, If_f, If_pos, If_neg, CallF_eq, Max_two, Min_two, Len_rd, Len_own, Ld_blkE, Idx_rdN, Idx_ownN, Idx_rdE, Idx_ownE, IdxAE, LdA_two, Idx_at0, Ext_atE, Len_at, Int.toNat_natCast, Int.toNat_zero, Int.toNat_one, List.length_map, List.length_append, List.length_cons, List.length_nil, List.length_take, List.length_set, List.length_replicate, Bool.not_true, Bool.not_false, decide_true, decide_false, BEq.rfl, bne_self_eq_false, tf_beq, ft_beq, tf_bne, ft_bne, not_true_eq_false, not_false_eq_true, app]
      refine cast (congrArg (fun z => K (.bool z) h) ?_) hk
      rw [Bool.not_false, Bool.true_and]
      exact decide_eq_decide.2 ⟨fun q => q.2, fun q => ⟨c1, q⟩⟩
    · try simp (disch := first | assumption | omega | (apply At.mk; with_unfolding_all rfl)) only [↓go_eq, ↓ent_eq, Mv, NilC_at, Fld_at, add_mk, Nat.zero_add, Nat.add_zero, Add64, Sub64, Mul64, Quo64, Rem64, Neg64, Cvt64, CvtU8, CvtU16, CvtU32, CvtU64, AddU64, SubU64, MulU64, Shr64, Shr_u8, Shr_u16, Shr_u32, Shr_u64, And1, And31, And32, Eql64, Neq64, Bin_lss, Bin_leq, Bin_gtr, Bin_geq, Bin_bool_eql, Bin_bool_neq, Bin_ptr_nil_eql, Bin_ptr_nil_neq, Not_dec, Un_not, Pick_t, Pick_f, Pick_pos, Pick_neg, Gd_tt, Gd_tf, Gd_ft, Gd_ff, Gd_pos_t, Gd_neg_t, Gd_pos_f, Gd_neg_f, Gd_undef, If_t, If_f, If_pos, If_neg, CallF_eq, Max_two, Min_two, Len_rd, Len_own, Ld_blkE, Idx_rdN, Idx_ownN, Idx_rdE, Idx_ownE, IdxAE, LdA_two, Idx_at0, Ext_atE, Len_at, Int.toNat_natCast, Int.toNat_zero, Int.toNat_one, List.length_map, List.length_append, List.length_cons, List.length_nil, List.length_take, List.length_set, List.length_replicate, Bool.not_true, Bool.not_false, decide_true, decide_false, BEq.rfl, bne_self_eq_false, tf_beq, ft_beq, tf_bne, ft_bne, not_true_eq_false, not_false_eq_true, app]
      rw [decide_eq_false (show ¬ (0 ≤ i ∧ i < (n : Nat)) by omega)] at hk
      exact hk
end
end Go.Proofs.Ythekbpaekopmfaa
