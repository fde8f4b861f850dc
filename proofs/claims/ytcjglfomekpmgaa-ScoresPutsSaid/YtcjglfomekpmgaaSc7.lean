/- Deeds as they lie in memory, the fit of package 16. Conditions: those typed ahead of each theorem. -/
import Derived.Test.YtcjglfomekpmgaaSc6
namespace Go.Proofs.Ytcjglfomekpmgaa
open Go.Pt
set_option linter.unusedVariables false
set_option linter.unusedSimpArgs false
abbrev Dd := Int × Int × Int
abbrev rDeeds : Rk (List Dd) := rSlice (rLen 3 (rAnd (rField 0 1 (rInt .u8)) (rAnd (rField 1 1 (rInt .i64)) (rField 2 1 (rInt .i64))))) 3
structure RdD (h : Heap) (v : Value) (ds : List Dd) : Prop where
  out : ∃ a cap, v = .slice a ds.length cap ∧ ∀ i d, ds[i]? = some d → ∃ ad, a = some ad ∧ ∀ j u, [Value.int .u8 d.1, Iv d.2.1, Iv d.2.2][j]? = some u → cell h ((ad.add (i * 3)).add j) = some u
theorem deeds_arg {h : Heap} {ds : List Dd} {v : Value} (r : rDeeds.is h ds [v]) : RdD h v ds ∧ ∀ d ∈ ds, 0 ≤ d.1 ∧ d.1 ≤ 255 := by
  obtain ⟨a, cap, e, hl, hm, hx, hR⟩ := r
  have ev : v = .slice a ds.length cap := by simpa using e
  have key : ∀ i d, ds[i]? = some d → ∃ ad ecs, a = some ad ∧ (0 ≤ d.1 ∧ d.1 ≤ 255) ∧ ecs = [Value.int .u8 d.1, Iv d.2.1, Iv d.2.2] ∧ ∀ j u, ecs[j]? = some u → cell h ((ad.add (i * 3)).add j) = some u := by
    intro i d hd
    obtain ⟨ad, ecs, h1, h2, h3, h4⟩ := hx i d hd
    obtain ⟨_, hA, hB, hC⟩ := h2
    match ecs, h3, hA, hB, hC, h4 with
    | [x, y, z], _, hA, hB, hC, h4 =>
      obtain ⟨e1, l1, l2⟩ := hA
      obtain ⟨e2, _⟩ := hB
      obtain ⟨e3, _⟩ := hC
      have e1 : x = .int .u8 d.1 := by simpa using e1
      have e2 : y = Iv d.2.1 := by simpa using e2
      have e3 : z = Iv d.2.2 := by simpa using e3
      exact ⟨ad, [x, y, z], h1, ⟨l1, l2⟩, by rw [e1, e2, e3], h4⟩
  refine ⟨⟨a, cap, ev, fun i d hd => ?_⟩, fun d hd => ?_⟩
  · obtain ⟨ad, ecs, h1, h2, rfl, h4⟩ := key i d hd
    exact ⟨ad, h1, h4⟩
  · obtain ⟨i, hi⟩ := List.getElem?_of_mem hd
    obtain ⟨_, _, _, h2, _⟩ := key i d hi
    exact h2
section
variable {K : Ret} {h h' : Heap} {ds : List Dd} {v : Value}
theorem RdD.fr (r : RdD h v ds) (f : Fr [] h h') : RdD h' v ds := by
  obtain ⟨a, cap, e, hc⟩ := r.out
  exact ⟨a, cap, e, fun i d hd => let ⟨ad, e1, e2⟩ := hc i d hd; ⟨ad, e1, fun j u hu => cell_fr (e2 j u hu) f (by simp)⟩⟩
theorem RdD.len (r : RdD h v ds) (hk : K (Iv (ds.length : Nat)) h) : Len v K h := by
  obtain ⟨a, cap, rfl, hc⟩ := r.out
  rw [Len_at]; exact hk
theorem RdD.at {i : Nat} {d : Dd} (r : RdD h v ds) (hd : ds[i]? = some d) (hk : K (.agg #[.int .u8 d.1, Iv d.2.1, Iv d.2.2]) h) : Idx 3 v (Iv (i : Nat)) (fun p h => LdA 3 p K h) h := by
  obtain ⟨a, cap, rfl, hc⟩ := r.out
  obtain ⟨ad, rfl, e2⟩ := hc i d hd
  have hi : i < ds.length := by
    rcases Nat.lt_or_ge i ds.length with x | x
    · exact x
    · rw [List.getElem?_eq_none x] at hd; cases hd
  rw [Idx_at]
  refine ⟨by omega, ?_⟩
  rw [LdA_at, Int.toNat_natCast]
  have h0 := e2 0 _ rfl
  have h1 := e2 1 _ rfl
  have h2 := e2 2 _ rfl
  have : loads h (ad.add (i * 3)) 0 3 #[] = some #[.int .u8 d.1, Iv d.2.1, Iv d.2.2] := by simp [loads, h0, h1, h2]
  rw [this]; exact hk
variable {b : Nat}
theorem LdA_three {x y z : Value} (hb : Blk h b [x, y, z]) : LdA 3 (.pointer (some ⟨b, 0, none⟩)) K h = K (.agg #[x, y, z]) h := by
  rw [LdA_at, loads_blk hb 3 0 #[] (by simp)]; rfl
theorem StA_three {x y z x' y' z' : Value} (hb : Blk h b [x, y, z]) (hx : isCell x' = true) (hy : isCell y' = true) (hz : isCell z' = true) (hk : ∀ h', Blk h' b [x', y', z'] → Fr [b] h h' → K undef h') : StA 3 (.pointer (some ⟨b, 0, none⟩)) (.agg #[x', y', z']) K h := by
  rw [StA_at]
  refine ⟨rfl, ?_⟩
  obtain ⟨h', e, b', f⟩ := stores_blk (o := 0) [x', y', z'] h [x, y, z] 0 hb (by simp) (by simp [hx, hy, hz])
  have e' : stores h ⟨b, 0, none⟩ 0 (#[x', y', z'] : Array Value).toList = some h' := e
  rw [e']
  exact hk h' (by simpa using b') f
end
set_option maxHeartbeats 2000000 in
theorem bradawllaw16_fit.spec {K : Ret} {h : Heap} (hk : ∀ h', Fr [] h h' → K (.bool true) h') : CallH Try.prog bradawllaw16_fit.id #[] K h := by
  refine bradawllaw16_fit.ok ?_
  simp only [bradawllaw16_fit.pt]
  try simp (disch := first | assumption | omega | (apply At.mk; with_unfolding_all rfl)) only [↓go_eq, ↓ent_eq, Mv, NilC_at, Fld_at, add_mk, Nat.zero_add, Nat.add_zero, Add64, Sub64, Mul64, Quo64, Rem64, Neg64, Cvt64, CvtU8, CvtU16, CvtU32, CvtU64, AddU64, SubU64, MulU64, Shr64, Shr_u8, Shr_u16, Shr_u32, Shr_u64, And1, And31, And32, Eql64, Neq64, Bin_lss, Bin_leq, Bin_gtr, Bin_geq, Bin_bool_eql, Bin_bool_neq, Bin_ptr_nil_eql, Bin_ptr_nil_neq, Not_dec, Un_not, Pick_t, Pick_f, Pick_pos, Pick_neg, Gd_tt, Gd_tf, Gd_ft, Gd_ff, Gd_pos_t, Gd_neg_t, Gd_pos_f, Gd_neg_f, Gd_undef, If_t, If_f, If_pos, If_neg, CallF_eq, Max_two, Min_two, Len_rd, Len_own, Ld_blkE, Idx_rdN, Idx_ownN, Idx_rdE, Idx_ownE, IdxAE, LdA_two, Idx_at0, Ext_atE, Len_at, Int.toNat_natCast, Int.toNat_zero, Int.toNat_one, List.length_map, List.length_append, List.length_cons, List.length_nil, List.length_take, List.length_set, List.length_replicate, Bool.not_true, Bool.not_false, decide_true, decide_false, BEq.rfl, bne_self_eq_false, tf_beq, ft_beq, tf_bne, ft_bne, not_true_eq_false, not_false_eq_true, app]
  refine scores_New.spec (n := 5) (by decide) fun g fp h1 q1 f1 z1 => ?_
  have ft : ∀ {B h'}, Fr B h1 h' → (∀ b ∈ B, b ∈ fp ∨ h1.size ≤ b) → Fr [] h h' := fun f hB => f1.trans' f fun b hb => .inr (by rcases hB b hb with x | x; exact z1 b x; have := f1.size; omega)
  try simp (disch := first | assumption | omega | (apply At.mk; with_unfolding_all rfl)) only [↓go_eq, ↓ent_eq, Mv, NilC_at, Fld_at, add_mk, Nat.zero_add, Nat.add_zero, Add64, Sub64, Mul64, Quo64, Rem64, Neg64, Cvt64, CvtU8, CvtU16, CvtU32, CvtU64, AddU64, SubU64, MulU64, Shr64, Shr_u8, Shr_u16, Shr_u32, Shr_u64, And1, And31, And32, Eql64, Neq64, Bin_lss, Bin_leq, Bin_gtr, Bin_geq, Bin_bool_eql, Bin_bool_neq, Bin_ptr_nil_eql, Bin_ptr_nil_neq, Not_dec, Un_not, Pick_t, Pick_f, Pick_pos, Pick_neg, Gd_tt, Gd_tf, Gd_ft, Gd_ff, Gd_pos_t, Gd_neg_t, Gd_pos_f, Gd_neg_f, Gd_undef, If_t, If_f, If_pos, If_neg, CallF_eq, Max_two, Min_two, Len_rd, Len_own, Ld_blkE, Idx_rdN, Idx_ownN, Idx_rdE, Idx_ownE, IdxAE, LdA_two, Idx_at0, Ext_atE, Len_at, Int.toNat_natCast, Int.toNat_zero, Int.toNat_one, List.length_map, List.length_append, List.length_cons, List.length_nil, List.length_take, List.length_set, List.length_replicate, Bool.not_true, Bool.not_false, decide_true, decide_false, BEq.rfl, bne_self_eq_false, tf_beq, ft_beq, tf_bne, ft_bne, not_true_eq_false, not_false_eq_true, app]
  refine scores_Heap_Bump.spec (v := 3) q1 (by decide) (SB_t0 5) fun h2 q2 f2 => ?_
  have e2 : bmp 5 t0 3 = (upd (fun _ => 0) 3 1048576, 1048576) := by
    unfold bmp; rw [if_pos (by decide), if_neg (by decide)]; rfl
  have sb2 : SB 5 (bmp 5 t0 3) := bmp_SB (SB_t0 5) 3
  rw [e2] at q2 sb2
  rw [decide_eq_true (show (1 : Int) ≤ 3 ∧ (3 : Int) ≤ ((5 : Nat) : Int) by decide)]
  try simp (disch := first | assumption | omega | (apply At.mk; with_unfolding_all rfl)) only [↓go_eq, ↓ent_eq, Mv, NilC_at, Fld_at, add_mk, Nat.zero_add, Nat.add_zero, Add64, Sub64, Mul64, Quo64, Rem64, Neg64, Cvt64, CvtU8, CvtU16, CvtU32, CvtU64, AddU64, SubU64, MulU64, Shr64, Shr_u8, Shr_u16, Shr_u32, Shr_u64, And1, And31, And32, Eql64, Neq64, Bin_lss, Bin_leq, Bin_gtr, Bin_geq, Bin_bool_eql, Bin_bool_neq, Bin_ptr_nil_eql, Bin_ptr_nil_neq, Not_dec, Un_not, Pick_t, Pick_f, Pick_pos, Pick_neg, Gd_tt, Gd_tf, Gd_ft, Gd_ff, Gd_pos_t, Gd_neg_t, Gd_pos_f, Gd_neg_f, Gd_undef, If_t, If_f, If_pos, If_neg, CallF_eq, Max_two, Min_two, Len_rd, Len_own, Ld_blkE, Idx_rdN, Idx_ownN, Idx_rdE, Idx_ownE, IdxAE, LdA_two, Idx_at0, Ext_atE, Len_at, Int.toNat_natCast, Int.toNat_zero, Int.toNat_one, List.length_map, List.length_append, List.length_cons, List.length_nil, List.length_take, List.length_set, List.length_replicate, Bool.not_true, Bool.not_false, decide_true, decide_false, BEq.rfl, bne_self_eq_false, tf_beq, ft_beq, tf_bne, ft_bne, not_true_eq_false, not_false_eq_true, app]
  refine scores_Heap_Bump.spec (v := 6) q2 (by decide) sb2 fun h3 q3 f3 => ?_
  rw [bmp, if_neg (by decide)] at q3
  rw [decide_eq_false (show ¬ ((1 : Int) ≤ 6 ∧ (6 : Int) ≤ ((5 : Nat) : Int)) by decide)]
  try simp (disch := first | assumption | omega | (apply At.mk; with_unfolding_all rfl)) only [↓go_eq, ↓ent_eq, Mv, NilC_at, Fld_at, add_mk, Nat.zero_add, Nat.add_zero, Add64, Sub64, Mul64, Quo64, Rem64, Neg64, Cvt64, CvtU8, CvtU16, CvtU32, CvtU64, AddU64, SubU64, MulU64, Shr64, Shr_u8, Shr_u16, Shr_u32, Shr_u64, And1, And31, And32, Eql64, Neq64, Bin_lss, Bin_leq, Bin_gtr, Bin_geq, Bin_bool_eql, Bin_bool_neq, Bin_ptr_nil_eql, Bin_ptr_nil_neq, Not_dec, Un_not, Pick_t, Pick_f, Pick_pos, Pick_neg, Gd_tt, Gd_tf, Gd_ft, Gd_ff, Gd_pos_t, Gd_neg_t, Gd_pos_f, Gd_neg_f, Gd_undef, If_t, If_f, If_pos, If_neg, CallF_eq, Max_two, Min_two, Len_rd, Len_own, Ld_blkE, Idx_rdN, Idx_ownN, Idx_rdE, Idx_ownE, IdxAE, LdA_two, Idx_at0, Ext_atE, Len_at, Int.toNat_natCast, Int.toNat_zero, Int.toNat_one, List.length_map, List.length_append, List.length_cons, List.length_nil, List.length_take, List.length_set, List.length_replicate, Bool.not_true, Bool.not_false, decide_true, decide_false, BEq.rfl, bne_self_eq_false, tf_beq, ft_beq, tf_bne, ft_bne, not_true_eq_false, not_false_eq_true, app]
  refine scores_Heap_Len.q q3 ?_
  rw [cnt_S0]
  try simp (disch := first | assumption | omega | (apply At.mk; with_unfolding_all rfl)) only [↓go_eq, ↓ent_eq, Mv, NilC_at, Fld_at, add_mk, Nat.zero_add, Nat.add_zero, Add64, Sub64, Mul64, Quo64, Rem64, Neg64, Cvt64, CvtU8, CvtU16, CvtU32, CvtU64, AddU64, SubU64, MulU64, Shr64, Shr_u8, Shr_u16, Shr_u32, Shr_u64, And1, And31, And32, Eql64, Neq64, Bin_lss, Bin_leq, Bin_gtr, Bin_geq, Bin_bool_eql, Bin_bool_neq, Bin_ptr_nil_eql, Bin_ptr_nil_neq, Not_dec, Un_not, Pick_t, Pick_f, Pick_pos, Pick_neg, Gd_tt, Gd_tf, Gd_ft, Gd_ff, Gd_pos_t, Gd_neg_t, Gd_pos_f, Gd_neg_f, Gd_undef, If_t, If_f, If_pos, If_neg, CallF_eq, Max_two, Min_two, Len_rd, Len_own, Ld_blkE, Idx_rdN, Idx_ownN, Idx_rdE, Idx_ownE, IdxAE, LdA_two, Idx_at0, Ext_atE, Len_at, Int.toNat_natCast, Int.toNat_zero, Int.toNat_one, List.length_map, List.length_append, List.length_cons, List.length_nil, List.length_take, List.length_set, List.length_replicate, Bool.not_true, Bool.not_false, decide_true, decide_false, BEq.rfl, bne_self_eq_false, tf_beq, ft_beq, tf_bne, ft_bne, not_true_eq_false, not_false_eq_true, app]
  refine scores_Heap_Take.spec q3 (by decide) fun v ok h4 hF q4 f4 => ?_
  obtain ⟨rfl, rfl⟩ := hF.uniq (show Fst 5 (upd (fun _ => 0) 3 1048576) S0 3 true from .inr ⟨rfl, by decide, by decide, by decide, fun x h1 h2 _ => by
    rcases (by omega : x = 1 ∨ x = 2 ∨ x = 3 ∨ x = 4 ∨ x = 5) with rfl | rfl | rfl | rfl | rfl <;> decide⟩)
  rw [if_pos rfl] at q4
  try simp (disch := first | assumption | omega | (apply At.mk; with_unfolding_all rfl)) only [↓go_eq, ↓ent_eq, Mv, NilC_at, Fld_at, add_mk, Nat.zero_add, Nat.add_zero, Add64, Sub64, Mul64, Quo64, Rem64, Neg64, Cvt64, CvtU8, CvtU16, CvtU32, CvtU64, AddU64, SubU64, MulU64, Shr64, Shr_u8, Shr_u16, Shr_u32, Shr_u64, And1, And31, And32, Eql64, Neq64, Bin_lss, Bin_leq, Bin_gtr, Bin_geq, Bin_bool_eql, Bin_bool_neq, Bin_ptr_nil_eql, Bin_ptr_nil_neq, Not_dec, Un_not, Pick_t, Pick_f, Pick_pos, Pick_neg, Gd_tt, Gd_tf, Gd_ft, Gd_ff, Gd_pos_t, Gd_neg_t, Gd_pos_f, Gd_neg_f, Gd_undef, If_t, If_f, If_pos, If_neg, CallF_eq, Max_two, Min_two, Len_rd, Len_own, Ld_blkE, Idx_rdN, Idx_ownN, Idx_rdE, Idx_ownE, IdxAE, LdA_two, Idx_at0, Ext_atE, Len_at, Int.toNat_natCast, Int.toNat_zero, Int.toNat_one, List.length_map, List.length_append, List.length_cons, List.length_nil, List.length_take, List.length_set, List.length_replicate, Bool.not_true, Bool.not_false, decide_true, decide_false, BEq.rfl, bne_self_eq_false, tf_beq, ft_beq, tf_bne, ft_bne, not_true_eq_false, not_false_eq_true, app]
  refine scores_Heap_First.spec q4 fun v ok hF => ?_
  obtain ⟨rfl, rfl⟩ := hF.uniq (show Fst 5 (upd (fun _ => 0) 3 1048576) (upd S0 3 false) 1 true from .inr ⟨rfl, by decide, by decide, by decide, fun x h1 h2 h3 => by
    rcases (by omega : x = 1 ∨ x = 2 ∨ x = 3 ∨ x = 4 ∨ x = 5) with rfl | rfl | rfl | rfl | rfl
    · decide
    · decide
    · exact absurd h3 (by decide)
    · decide
    · decide⟩)
  try simp (disch := first | assumption | omega | (apply At.mk; with_unfolding_all rfl)) only [↓go_eq, ↓ent_eq, Mv, NilC_at, Fld_at, add_mk, Nat.zero_add, Nat.add_zero, Add64, Sub64, Mul64, Quo64, Rem64, Neg64, Cvt64, CvtU8, CvtU16, CvtU32, CvtU64, AddU64, SubU64, MulU64, Shr64, Shr_u8, Shr_u16, Shr_u32, Shr_u64, And1, And31, And32, Eql64, Neq64, Bin_lss, Bin_leq, Bin_gtr, Bin_geq, Bin_bool_eql, Bin_bool_neq, Bin_ptr_nil_eql, Bin_ptr_nil_neq, Not_dec, Un_not, Pick_t, Pick_f, Pick_pos, Pick_neg, Gd_tt, Gd_tf, Gd_ft, Gd_ff, Gd_pos_t, Gd_neg_t, Gd_pos_f, Gd_neg_f, Gd_undef, If_t, If_f, If_pos, If_neg, CallF_eq, Max_two, Min_two, Len_rd, Len_own, Ld_blkE, Idx_rdN, Idx_ownN, Idx_rdE, Idx_ownE, IdxAE, LdA_two, Idx_at0, Ext_atE, Len_at, Int.toNat_natCast, Int.toNat_zero, Int.toNat_one, List.length_map, List.length_append, List.length_cons, List.length_nil, List.length_take, List.length_set, List.length_replicate, Bool.not_true, Bool.not_false, decide_true, decide_false, BEq.rfl, bne_self_eq_false, tf_beq, ft_beq, tf_bne, ft_bne, not_true_eq_false, not_false_eq_true, app]
  refine scores_Heap_In.q (v := 3) q4 (by decide) ?_
  rw [show (decide ((1 : Int) ≤ 3 ∧ (3 : Int) ≤ ((5 : Nat) : Int)) && upd S0 3 false (3 : Int).toNat) = false from by decide]
  try simp (disch := first | assumption | omega | (apply At.mk; with_unfolding_all rfl)) only [↓go_eq, ↓ent_eq, Mv, NilC_at, Fld_at, add_mk, Nat.zero_add, Nat.add_zero, Add64, Sub64, Mul64, Quo64, Rem64, Neg64, Cvt64, CvtU8, CvtU16, CvtU32, CvtU64, AddU64, SubU64, MulU64, Shr64, Shr_u8, Shr_u16, Shr_u32, Shr_u64, And1, And31, And32, Eql64, Neq64, Bin_lss, Bin_leq, Bin_gtr, Bin_geq, Bin_bool_eql, Bin_bool_neq, Bin_ptr_nil_eql, Bin_ptr_nil_neq, Not_dec, Un_not, Pick_t, Pick_f, Pick_pos, Pick_neg, Gd_tt, Gd_tf, Gd_ft, Gd_ff, Gd_pos_t, Gd_neg_t, Gd_pos_f, Gd_neg_f, Gd_undef, If_t, If_f, If_pos, If_neg, CallF_eq, Max_two, Min_two, Len_rd, Len_own, Ld_blkE, Idx_rdN, Idx_ownN, Idx_rdE, Idx_ownE, IdxAE, LdA_two, Idx_at0, Ext_atE, Len_at, Int.toNat_natCast, Int.toNat_zero, Int.toNat_one, List.length_map, List.length_append, List.length_cons, List.length_nil, List.length_take, List.length_set, List.length_replicate, Bool.not_true, Bool.not_false, decide_true, decide_false, BEq.rfl, bne_self_eq_false, tf_beq, ft_beq, tf_bne, ft_bne, not_true_eq_false, not_false_eq_true, app]
  refine scores_Heap_Score.q (v := 3) q4 (by decide) ?_
  rw [if_pos (by decide)]
  rw [show ((upd (fun _ => (0 : Int)) 3 1048576, 1048576) : T).1 (Int.toNat 3) = 1048576 from rfl]
  try simp (disch := first | assumption | omega | (apply At.mk; with_unfolding_all rfl)) only [↓go_eq, ↓ent_eq, Mv, NilC_at, Fld_at, add_mk, Nat.zero_add, Nat.add_zero, Add64, Sub64, Mul64, Quo64, Rem64, Neg64, Cvt64, CvtU8, CvtU16, CvtU32, CvtU64, AddU64, SubU64, MulU64, Shr64, Shr_u8, Shr_u16, Shr_u32, Shr_u64, And1, And31, And32, Eql64, Neq64, Bin_lss, Bin_leq, Bin_gtr, Bin_geq, Bin_bool_eql, Bin_bool_neq, Bin_ptr_nil_eql, Bin_ptr_nil_neq, Not_dec, Un_not, Pick_t, Pick_f, Pick_pos, Pick_neg, Gd_tt, Gd_tf, Gd_ft, Gd_ff, Gd_pos_t, Gd_neg_t, Gd_pos_f, Gd_neg_f, Gd_undef, If_t, If_f, If_pos, If_neg, CallF_eq, Max_two, Min_two, Len_rd, Len_own, Ld_blkE, Idx_rdN, Idx_ownN, Idx_rdE, Idx_ownE, IdxAE, LdA_two, Idx_at0, Ext_atE, Len_at, Int.toNat_natCast, Int.toNat_zero, Int.toNat_one, List.length_map, List.length_append, List.length_cons, List.length_nil, List.length_take, List.length_set, List.length_replicate, Bool.not_true, Bool.not_false, decide_true, decide_false, BEq.rfl, bne_self_eq_false, tf_beq, ft_beq, tf_bne, ft_bne, not_true_eq_false, not_false_eq_true, app]
  refine scores_Heap_Put.spec (v := 3) q4 (by decide) (fun _ _ h5 fp5 q5 f5 hfp => ?_) (fun hno => absurd hno (by decide))
  try simp (disch := first | assumption | omega | (apply At.mk; with_unfolding_all rfl)) only [↓go_eq, ↓ent_eq, Mv, NilC_at, Fld_at, add_mk, Nat.zero_add, Nat.add_zero, Add64, Sub64, Mul64, Quo64, Rem64, Neg64, Cvt64, CvtU8, CvtU16, CvtU32, CvtU64, AddU64, SubU64, MulU64, Shr64, Shr_u8, Shr_u16, Shr_u32, Shr_u64, And1, And31, And32, Eql64, Neq64, Bin_lss, Bin_leq, Bin_gtr, Bin_geq, Bin_bool_eql, Bin_bool_neq, Bin_ptr_nil_eql, Bin_ptr_nil_neq, Not_dec, Un_not, Pick_t, Pick_f, Pick_pos, Pick_neg, Gd_tt, Gd_tf, Gd_ft, Gd_ff, Gd_pos_t, Gd_neg_t, Gd_pos_f, Gd_neg_f, Gd_undef, If_t, If_f, If_pos, If_neg, CallF_eq, Max_two, Min_two, Len_rd, Len_own, Ld_blkE, Idx_rdN, Idx_ownN, Idx_rdE, Idx_ownE, IdxAE, LdA_two, Idx_at0, Ext_atE, Len_at, Int.toNat_natCast, Int.toNat_zero, Int.toNat_one, List.length_map, List.length_append, List.length_cons, List.length_nil, List.length_take, List.length_set, List.length_replicate, Bool.not_true, Bool.not_false, decide_true, decide_false, BEq.rfl, bne_self_eq_false, tf_beq, ft_beq, tf_bne, ft_bne, not_true_eq_false, not_false_eq_true, app]
  refine scores_Heap_Put.spec (v := 3) q5 (by decide) (fun _ hS h6 fp6 q6 f6 hfp => absurd hS (by decide)) (fun hno => ?_)
  try simp (disch := first | assumption | omega | (apply At.mk; with_unfolding_all rfl)) only [↓go_eq, ↓ent_eq, Mv, NilC_at, Fld_at, add_mk, Nat.zero_add, Nat.add_zero, Add64, Sub64, Mul64, Quo64, Rem64, Neg64, Cvt64, CvtU8, CvtU16, CvtU32, CvtU64, AddU64, SubU64, MulU64, Shr64, Shr_u8, Shr_u16, Shr_u32, Shr_u64, And1, And31, And32, Eql64, Neq64, Bin_lss, Bin_leq, Bin_gtr, Bin_geq, Bin_bool_eql, Bin_bool_neq, Bin_ptr_nil_eql, Bin_ptr_nil_neq, Not_dec, Un_not, Pick_t, Pick_f, Pick_pos, Pick_neg, Gd_tt, Gd_tf, Gd_ft, Gd_ff, Gd_pos_t, Gd_neg_t, Gd_pos_f, Gd_neg_f, Gd_undef, If_t, If_f, If_pos, If_neg, CallF_eq, Max_two, Min_two, Len_rd, Len_own, Ld_blkE, Idx_rdN, Idx_ownN, Idx_rdE, Idx_ownE, IdxAE, LdA_two, Idx_at0, Ext_atE, Len_at, Int.toNat_natCast, Int.toNat_zero, Int.toNat_one, List.length_map, List.length_append, List.length_cons, List.length_nil, List.length_take, List.length_set, List.length_replicate, Bool.not_true, Bool.not_false, decide_true, decide_false, BEq.rfl, bne_self_eq_false, tf_beq, ft_beq, tf_bne, ft_bne, not_true_eq_false, not_false_eq_true, app]
  exact hk h5 (ft ((f2.trans f3).trans (f4.trans f5)) fun b hb => .inl hb)
end Go.Proofs.Ytcjglfomekpmgaa
