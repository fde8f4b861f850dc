/- The law TableOrders: places in another order are picked for as many numbers. No condition but that the arguments lie in memory as Go lays them. -/
import Derived.Test.YtfagifhgjndoaaaTableWhole
namespace Go.Proofs.Ytfagifhgjndoaaa
open Go.Pt
set_option linter.unusedVariables false
set_option linter.unusedSimpArgs false
theorem pick_append {w : Int → Int} : ∀ (ks ls : List Int) (r : Int) (i : Nat), r < (ks.map w).sum → pick w (ks ++ ls) r i = pick w ks r i ∨ r < 0
  | [], ls, r, i, h => .inr (by simpa using h)
  | k :: ks, ls, r, i, h => by
    by_cases c : r < w k
    · left; simp [pick, c]
    · rcases pick_append (w := w) ks ls (r - w k) (i + 1) (by simp only [List.map_cons, List.sum_cons] at h; omega) with e | e
      · left; simp [pick, c, e]
      · omega
theorem pick_skip {w : Int → Int} (hw : ∀ k, 1 ≤ w k) : ∀ (ks ls : List Int) (r : Int) (i : Nat), (ks.map w).sum ≤ r → pick w (ks ++ ls) r i = pick w ls (r - (ks.map w).sum) (i + ks.length)
  | [], ls, r, i, h => by simp
  | k :: ks, ls, r, i, h => by
    have h2 := sum_len hw ks
    simp only [List.map_cons, List.sum_cons] at h
    rw [List.cons_append, pick, if_neg (by omega), pick_skip hw ks ls _ _ (by omega)]
    simp only [List.map_cons, List.sum_cons, List.length_cons]
    rw [show r - w k - (ks.map w).sum = r - (w k + (ks.map w).sum) by omega, show i + 1 + ks.length = i + (ks.length + 1) by omega]
theorem pick_rev {w : Int → Int} (hw : ∀ k, 1 ≤ w k) : ∀ (ks : List Int) (r : Int) (i : Nat), 0 ≤ r → r < (ks.map w).sum → pick w ks r i = i + ks.length - 1 - pick w ks.reverse ((ks.map w).sum - 1 - r) 0
  | [], r, i, h0, h1 => by simp at h1; omega
  | k :: ks, r, i, h0, h1 => by
    have h2 := sum_len hw ks
    have hs : ((ks.reverse).map w).sum = (ks.map w).sum := by rw [List.map_reverse, List.sum_reverse]
    simp only [List.map_cons, List.sum_cons, List.length_cons, List.reverse_cons] at h1 ⊢
    by_cases c : r < w k
    · rw [pick, if_pos c, pick_skip hw _ _ _ _ (by rw [hs]; omega), pick, if_pos (by rw [hs]; omega), List.length_reverse]; omega
    · rw [pick, if_neg c, pick_rev hw ks _ _ (by omega) (by omega)]
      rcases pick_append (w := w) ks.reverse [k] (w k + (ks.map w).sum - 1 - r) 0 (by rw [hs]; omega) with e | e
      · rw [e, show (ks.map w).sum - 1 - (r - w k) = w k + (ks.map w).sum - 1 - r by omega]; omega
      · omega
theorem bradawllaw11_TableOrders.spec (e : Bool) {v : Value} {ks : List Int} {x y : Int} (hx : 0 ≤ x ∧ x ≤ 18446744073709551615) (hy : 0 ≤ y ∧ y ≤ 18446744073709551615) {K : Ret} {h : Heap} (hv : Rd h v (ks.map (.int .u8))) (hks : ∀ k ∈ ks, 0 ≤ k ∧ k ≤ 255) (hk : ∀ h', Fr [] h h' → K (.bool true) h') :
    CallH Try.prog bradawllaw11_TableOrders.id #[.bool e, v, .agg #[.int .u64 x, .int .u64 y]] K h := by
  refine bradawllaw11_TableOrders.ok ?_
  simp only [bradawllaw11_TableOrders.pt, go, Mv, NilC_at, Fld_at, add_mk, Nat.zero_add, Nat.add_zero, Bin_add, Bin_sub, Bin_mul, Bin_eql, Bin_neq, Bin_lss, Bin_leq, Bin_gtr, Bin_geq, Bin_bool_eql, Bin_bool_neq, Bin_ptr_nil_eql, Bin_ptr_nil_neq, Un_not, Pick_bool, Gd_bool, Gd_undef, If_bool, CallF_eq, MaxV_two, MinV_two, if_true, if_false, Bool.false_eq_true, Bool.true_eq_false, Bool.not_true, Bool.not_false, BEq.rfl]
  refine New_blk fun h0 b0 f0 s0 => ?_
  have b0' : Blk h0 h.size [.int .u64 x, .int .u64 y] := b0
  refine bradawllaw11_fit.spec fun h1 f1 => ?_
  have f01 := f0.trans f1
  have hv1 := hv.fr f01
  have b1 := b0'.fr f1 (by simp)
  try simp (disch := first | assumption | omega | (apply At.mk; with_unfolding_all rfl)) only [↓go_eq, Mv, NilC_at, Fld_at, add_mk, Nat.zero_add, Nat.add_zero, Add64, Sub64, Mul64, Quo64, Rem64, Neg64, Cvt64, CvtU8, CvtU16, CvtU32, CvtU64, AddU64, SubU64, MulU64, Shr64, Eql64, Neq64, Bin_lss, Bin_leq, Bin_gtr, Bin_geq, Bin_bool_eql, Bin_bool_neq, Bin_ptr_nil_eql, Bin_ptr_nil_neq, Not_dec, Un_not, Pick_t, Pick_f, Pick_pos, Pick_neg, Gd_tt, Gd_tf, Gd_ft, Gd_ff, Gd_pos_t, Gd_neg_t, Gd_pos_f, Gd_neg_f, Gd_undef, If_t, If_f, If_pos, If_neg, CallF_eq, Max_two, Min_two, Len_rd, Len_own, Ld_blkE, Idx_rdN, Idx_ownN, Idx_rdE, Idx_ownE, IdxAE, Ext_atE, Int.toNat_natCast, Int.toNat_zero, Int.toNat_one, List.length_map, List.length_append, List.length_cons, List.length_nil, List.length_take, List.length_set, List.length_replicate, Bool.not_true, Bool.not_false, decide_true, decide_false, not_true_eq_false, not_false_eq_true, app]
  by_cases c0 : (ks.length : Int) = 0
  · try simp (disch := first | assumption | omega | (apply At.mk; with_unfolding_all rfl)) only [↓go_eq, Mv, NilC_at, Fld_at, add_mk, Nat.zero_add, Nat.add_zero, Add64, Sub64, Mul64, Quo64, Rem64, Neg64, Cvt64, CvtU8, CvtU16, CvtU32, CvtU64, AddU64, SubU64, MulU64, Shr64, Eql64, Neq64, Bin_lss, Bin_leq, Bin_gtr, Bin_geq, Bin_bool_eql, Bin_bool_neq, Bin_ptr_nil_eql, Bin_ptr_nil_neq, Not_dec, Un_not, Pick_t, Pick_f, Pick_pos, Pick_neg, Gd_tt, Gd_tf, Gd_ft, Gd_ff, Gd_pos_t, Gd_neg_t, Gd_pos_f, Gd_neg_f, Gd_undef, If_t, If_f, If_pos, If_neg, CallF_eq, Max_two, Min_two, Len_rd, Len_own, Ld_blkE, Idx_rdN, Idx_ownN, Idx_rdE, Idx_ownE, IdxAE, Ext_atE, Int.toNat_natCast, Int.toNat_zero, Int.toNat_one, List.length_map, List.length_append, List.length_cons, List.length_nil, List.length_take, List.length_set, List.length_replicate, Bool.not_true, Bool.not_false, decide_true, decide_false, not_true_eq_false, not_false_eq_true, app]; exact hk _ f01
  by_cases c1 : (ks.length : Int) > 60
  · try simp (disch := first | assumption | omega | (apply At.mk; with_unfolding_all rfl)) only [↓go_eq, Mv, NilC_at, Fld_at, add_mk, Nat.zero_add, Nat.add_zero, Add64, Sub64, Mul64, Quo64, Rem64, Neg64, Cvt64, CvtU8, CvtU16, CvtU32, CvtU64, AddU64, SubU64, MulU64, Shr64, Eql64, Neq64, Bin_lss, Bin_leq, Bin_gtr, Bin_geq, Bin_bool_eql, Bin_bool_neq, Bin_ptr_nil_eql, Bin_ptr_nil_neq, Not_dec, Un_not, Pick_t, Pick_f, Pick_pos, Pick_neg, Gd_tt, Gd_tf, Gd_ft, Gd_ff, Gd_pos_t, Gd_neg_t, Gd_pos_f, Gd_neg_f, Gd_undef, If_t, If_f, If_pos, If_neg, CallF_eq, Max_two, Min_two, Len_rd, Len_own, Ld_blkE, Idx_rdN, Idx_ownN, Idx_rdE, Idx_ownE, IdxAE, Ext_atE, Int.toNat_natCast, Int.toNat_zero, Int.toNat_one, List.length_map, List.length_append, List.length_cons, List.length_nil, List.length_take, List.length_set, List.length_replicate, Bool.not_true, Bool.not_false, decide_true, decide_false, not_true_eq_false, not_false_eq_true, app]; exact hk _ f01
  try simp (disch := first | assumption | omega | (apply At.mk; with_unfolding_all rfl)) only [↓go_eq, Mv, NilC_at, Fld_at, add_mk, Nat.zero_add, Nat.add_zero, Add64, Sub64, Mul64, Quo64, Rem64, Neg64, Cvt64, CvtU8, CvtU16, CvtU32, CvtU64, AddU64, SubU64, MulU64, Shr64, Eql64, Neq64, Bin_lss, Bin_leq, Bin_gtr, Bin_geq, Bin_bool_eql, Bin_bool_neq, Bin_ptr_nil_eql, Bin_ptr_nil_neq, Not_dec, Un_not, Pick_t, Pick_f, Pick_pos, Pick_neg, Gd_tt, Gd_tf, Gd_ft, Gd_ff, Gd_pos_t, Gd_neg_t, Gd_pos_f, Gd_neg_f, Gd_undef, If_t, If_f, If_pos, If_neg, CallF_eq, Max_two, Min_two, Len_rd, Len_own, Ld_blkE, Idx_rdN, Idx_ownN, Idx_rdE, Idx_ownE, IdxAE, Ext_atE, Int.toNat_natCast, Int.toNat_zero, Int.toNat_one, List.length_map, List.length_append, List.length_cons, List.length_nil, List.length_take, List.length_set, List.length_replicate, Bool.not_true, Bool.not_false, decide_true, decide_false, not_true_eq_false, not_false_eq_true, app]
  have w8 : 0 ≤ y % 256 ∧ y % 256 ≤ 255 := by omega
  generalize y % 256 = b at *
  refine bradawllaw11_made.spec e b w8.1 w8.2 ?_
  have hf := made_fits e b
  generalize mKind e = kd at *
  generalize mBase e b = bs at *
  try simp (disch := first | assumption | omega | (apply At.mk; with_unfolding_all rfl)) only [↓go_eq, Mv, NilC_at, Fld_at, add_mk, Nat.zero_add, Nat.add_zero, Add64, Sub64, Mul64, Quo64, Rem64, Neg64, Cvt64, CvtU8, CvtU16, CvtU32, CvtU64, AddU64, SubU64, MulU64, Shr64, Eql64, Neq64, Bin_lss, Bin_leq, Bin_gtr, Bin_geq, Bin_bool_eql, Bin_bool_neq, Bin_ptr_nil_eql, Bin_ptr_nil_neq, Not_dec, Un_not, Pick_t, Pick_f, Pick_pos, Pick_neg, Gd_tt, Gd_tf, Gd_ft, Gd_ff, Gd_pos_t, Gd_neg_t, Gd_pos_f, Gd_neg_f, Gd_undef, If_t, If_f, If_pos, If_neg, CallF_eq, Max_two, Min_two, Len_rd, Len_own, Ld_blkE, Idx_rdN, Idx_ownN, Idx_rdE, Idx_ownE, IdxAE, Ext_atE, Int.toNat_natCast, Int.toNat_zero, Int.toNat_one, List.length_map, List.length_append, List.length_cons, List.length_nil, List.length_take, List.length_set, List.length_replicate, Bool.not_true, Bool.not_false, decide_true, decide_false, not_true_eq_false, not_false_eq_true, app]
  refine table_New.spec hf fun g h2 t2 f2 n2 => ?_
  have hv2 := hv1.fr f2
  have b2 := b1.fr f2 (by simp)
  have f02 := f01.trans f2
  try simp (disch := first | assumption | omega | (apply At.mk; with_unfolding_all rfl)) only [↓go_eq, Mv, NilC_at, Fld_at, add_mk, Nat.zero_add, Nat.add_zero, Add64, Sub64, Mul64, Quo64, Rem64, Neg64, Cvt64, CvtU8, CvtU16, CvtU32, CvtU64, AddU64, SubU64, MulU64, Shr64, Eql64, Neq64, Bin_lss, Bin_leq, Bin_gtr, Bin_geq, Bin_bool_eql, Bin_bool_neq, Bin_ptr_nil_eql, Bin_ptr_nil_neq, Not_dec, Un_not, Pick_t, Pick_f, Pick_pos, Pick_neg, Gd_tt, Gd_tf, Gd_ft, Gd_ff, Gd_pos_t, Gd_neg_t, Gd_pos_f, Gd_neg_f, Gd_undef, If_t, If_f, If_pos, If_neg, CallF_eq, Max_two, Min_two, Len_rd, Len_own, Ld_blkE, Idx_rdN, Idx_ownN, Idx_rdE, Idx_ownE, IdxAE, Ext_atE, Int.toNat_natCast, Int.toNat_zero, Int.toNat_one, List.length_map, List.length_append, List.length_cons, List.length_nil, List.length_take, List.length_set, List.length_replicate, Bool.not_true, Bool.not_false, decide_true, decide_false, not_true_eq_false, not_false_eq_true, app]
  refine Lp_fn (σ := Nat × Value × Value × List Nat × List Nat) (fun s => [v, .pointer (some ⟨h.size, 0, none⟩), .pointer (some ⟨g, 0, none⟩), s.2.1, s.2.2.1, .int .i64 (ks.length : Int), .int .i64 (s.1 : Int)])
    (fun s h' => s.1 ≤ ks.length ∧ Fr [] h2 h' ∧ Own h' s.2.1 ((ks.take s.1).map Iv) s.2.2.2.1 ∧ Own h' s.2.2.1 ((ks.reverse.take s.1).map Iv) s.2.2.2.2 ∧ (∀ b ∈ s.2.2.2.1, h2.size ≤ b ∧ b ∉ s.2.2.2.2) ∧ (∀ b ∈ s.2.2.2.2, h2.size ≤ b))
    (fun s => ks.length - s.1) (0, .slice none 0 0, .slice none 0 0, [], []) rfl (fun _ => rfl) ⟨Nat.zero_le _, Fr.refl _ _, Own.nil _, Own.nil _, by simp, by simp⟩ ?_
  rintro ⟨i, lv, mv, bl, bm⟩ h3 ⟨hi, f3, ol, om, hbl, hbm⟩ X hX
  simp only at hi ol om hbl hbm
  have hv3 := hv2.fr f3
  by_cases hd : (i : Int) < ks.length
  · have hlt : i < ks.length := by omega
    have g1 : ks[i]? = some ks[i] := List.getElem?_eq_getElem _
    have hlt2 : ks.length - 1 - i < ks.length := by omega
    have g2 : ks[ks.length - 1 - i]? = some ks[ks.length - 1 - i] := List.getElem?_eq_getElem _
    have a1 := At.map (f := Value.int .u8) g1
    have a2 : At (ks.map (Value.int .u8)) ((ks.length : Int) - 1 - i).toNat (.int .u8 ks[ks.length - 1 - i]) := by
      rw [show ((ks.length : Int) - 1 - i).toNat = ks.length - 1 - i by omega]; exact At.map g2
    have r1 := hks _ (List.mem_of_getElem? g1)
    have r2 := hks _ (List.mem_of_getElem? g2)
    try simp (disch := first | assumption | omega | (apply At.mk; with_unfolding_all rfl)) only [↓go_eq, Mv, NilC_at, Fld_at, add_mk, Nat.zero_add, Nat.add_zero, Add64, Sub64, Mul64, Quo64, Rem64, Neg64, Cvt64, CvtU8, CvtU16, CvtU32, CvtU64, AddU64, SubU64, MulU64, Shr64, Eql64, Neq64, Bin_lss, Bin_leq, Bin_gtr, Bin_geq, Bin_bool_eql, Bin_bool_neq, Bin_ptr_nil_eql, Bin_ptr_nil_neq, Not_dec, Un_not, Pick_t, Pick_f, Pick_pos, Pick_neg, Gd_tt, Gd_tf, Gd_ft, Gd_ff, Gd_pos_t, Gd_neg_t, Gd_pos_f, Gd_neg_f, Gd_undef, If_t, If_f, If_pos, If_neg, CallF_eq, Max_two, Min_two, Len_rd, Len_own, Ld_blkE, Idx_rdN, Idx_ownN, Idx_rdE, Idx_ownE, IdxAE, Ext_atE, Int.toNat_natCast, Int.toNat_zero, Int.toNat_one, List.length_map, List.length_append, List.length_cons, List.length_nil, List.length_take, List.length_set, List.length_replicate, Bool.not_true, Bool.not_false, decide_true, decide_false, not_true_eq_false, not_false_eq_true, app]
    refine ol.app1 rfl rfl rfl (by simp; omega) (by simp; omega) fun lv' h4 bl' ol4 f4 hb4 => ?_
    have hv4 : Rd h4 v (ks.map (.int .u8)) := hv2.fr (f3.trans' f4 fun b hb => .inr (hbl b hb).1)
    have om4 : Own h4 mv _ bm := om.fr f4 fun b hb hb' => (hbl b hb').2 hb
    try simp (disch := first | assumption | omega | (apply At.mk; with_unfolding_all rfl)) only [↓go_eq, Mv, NilC_at, Fld_at, add_mk, Nat.zero_add, Nat.add_zero, Add64, Sub64, Mul64, Quo64, Rem64, Neg64, Cvt64, CvtU8, CvtU16, CvtU32, CvtU64, AddU64, SubU64, MulU64, Shr64, Eql64, Neq64, Bin_lss, Bin_leq, Bin_gtr, Bin_geq, Bin_bool_eql, Bin_bool_neq, Bin_ptr_nil_eql, Bin_ptr_nil_neq, Not_dec, Un_not, Pick_t, Pick_f, Pick_pos, Pick_neg, Gd_tt, Gd_tf, Gd_ft, Gd_ff, Gd_pos_t, Gd_neg_t, Gd_pos_f, Gd_neg_f, Gd_undef, If_t, If_f, If_pos, If_neg, CallF_eq, Max_two, Min_two, Len_rd, Len_own, Ld_blkE, Idx_rdN, Idx_ownN, Idx_rdE, Idx_ownE, IdxAE, Ext_atE, Int.toNat_natCast, Int.toNat_zero, Int.toNat_one, List.length_map, List.length_append, List.length_cons, List.length_nil, List.length_take, List.length_set, List.length_replicate, Bool.not_true, Bool.not_false, decide_true, decide_false, not_true_eq_false, not_false_eq_true, app]
    refine om4.app1 rfl rfl rfl (by simp; omega) (by simp; omega) fun mv' h5 bm' om5 f5 hb5 => ?_
    have ol5 := ol4.fr f5 fun b hb hb' => by
      rcases hb4 b hb with q | q
      · exact (hbl b q).2 hb'
      · exact absurd (om.lt b hb') (by omega)
    try simp (disch := first | assumption | omega | (apply At.mk; with_unfolding_all rfl)) only [↓go_eq, Mv, NilC_at, Fld_at, add_mk, Nat.zero_add, Nat.add_zero, Add64, Sub64, Mul64, Quo64, Rem64, Neg64, Cvt64, CvtU8, CvtU16, CvtU32, CvtU64, AddU64, SubU64, MulU64, Shr64, Eql64, Neq64, Bin_lss, Bin_leq, Bin_gtr, Bin_geq, Bin_bool_eql, Bin_bool_neq, Bin_ptr_nil_eql, Bin_ptr_nil_neq, Not_dec, Un_not, Pick_t, Pick_f, Pick_pos, Pick_neg, Gd_tt, Gd_tf, Gd_ft, Gd_ff, Gd_pos_t, Gd_neg_t, Gd_pos_f, Gd_neg_f, Gd_undef, If_t, If_f, If_pos, If_neg, CallF_eq, Max_two, Min_two, Len_rd, Len_own, Ld_blkE, Idx_rdN, Idx_ownN, Idx_rdE, Idx_ownE, IdxAE, Ext_atE, Int.toNat_natCast, Int.toNat_zero, Int.toNat_one, List.length_map, List.length_append, List.length_cons, List.length_nil, List.length_take, List.length_set, List.length_replicate, Bool.not_true, Bool.not_false, decide_true, decide_false, not_true_eq_false, not_false_eq_true, app]
    refine hX (i + 1, lv', mv', bl', bm') h5 ⟨by simp only; omega, (f3.trans' f4 fun b hb => .inr (hbl b hb).1).trans' f5 (fun b hb => .inr (hbm b hb)), ?_, ?_, ?_, ?_⟩ (by simp only; omega)
    · simp only; rw [List.take_add_one, g1, List.map_append]; exact ol5
    · simp only; rw [List.take_add_one, List.getElem?_reverse hlt, g2, List.map_append]; exact om5
    · intro b hb
      have : h2.size ≤ b ∧ (b ∈ bl ∨ h3.size ≤ b) := by
        rcases hb4 b hb with q | q
        · exact ⟨(hbl b q).1, .inl q⟩
        · exact ⟨Nat.le_trans f3.size q, .inr q⟩
      refine ⟨this.1, fun hb' => ?_⟩
      rcases hb5 b hb' with q | q
      · rcases this.2 with q2 | q2
        · exact (hbl b q2).2 q
        · exact absurd (om.lt b q) (by omega)
      · exact absurd (ol4.lt b hb) (by omega)
    · intro b hb
      rcases hb5 b hb with q | q
      · exact hbm b q
      · exact Nat.le_trans (Nat.le_trans f3.size f4.size) q
  have e : i = ks.length := by omega
  subst e
  rw [List.take_of_length_le (Nat.le_refl _)] at ol
  rw [List.take_of_length_le (by simp)] at om
  have t3 := Blk.fr t2 f3 (by simp)
  have b3 := b2.fr f3 (by simp)
  have hl : ks.length ≤ 4000000 := by omega
  have hb := tot_bd hf ks
  have hr : tot kd bs ks.reverse = tot kd bs ks := by unfold tot; rw [List.map_reverse, List.sum_reverse]
  have hw : ∀ k, 1 ≤ wk kd bs k := fun k => (wk_bd hf k).1
  try simp (disch := first | assumption | omega | (apply At.mk; with_unfolding_all rfl)) only [↓go_eq, Mv, NilC_at, Fld_at, add_mk, Nat.zero_add, Nat.add_zero, Add64, Sub64, Mul64, Quo64, Rem64, Neg64, Cvt64, CvtU8, CvtU16, CvtU32, CvtU64, AddU64, SubU64, MulU64, Shr64, Eql64, Neq64, Bin_lss, Bin_leq, Bin_gtr, Bin_geq, Bin_bool_eql, Bin_bool_neq, Bin_ptr_nil_eql, Bin_ptr_nil_neq, Not_dec, Un_not, Pick_t, Pick_f, Pick_pos, Pick_neg, Gd_tt, Gd_tf, Gd_ft, Gd_ff, Gd_pos_t, Gd_neg_t, Gd_pos_f, Gd_neg_f, Gd_undef, If_t, If_f, If_pos, If_neg, CallF_eq, Max_two, Min_two, Len_rd, Len_own, Ld_blkE, Idx_rdN, Idx_ownN, Idx_rdE, Idx_ownE, IdxAE, Ext_atE, Int.toNat_natCast, Int.toNat_zero, Int.toNat_one, List.length_map, List.length_append, List.length_cons, List.length_nil, List.length_take, List.length_set, List.length_replicate, Bool.not_true, Bool.not_false, decide_true, decide_false, not_true_eq_false, not_false_eq_true, app]
  refine table_Table_Total.spec hf t3 ol.rd hl ?_
  simp only [Iv]
  refine table_Table_Total.spec hf t3 om.rd (by simpa using hl) ?_
  rw [hr]
  simp only [Iv]
  try simp (disch := first | assumption | omega | (apply At.mk; with_unfolding_all rfl)) only [↓go_eq, Mv, NilC_at, Fld_at, add_mk, Nat.zero_add, Nat.add_zero, Add64, Sub64, Mul64, Quo64, Rem64, Neg64, Cvt64, CvtU8, CvtU16, CvtU32, CvtU64, AddU64, SubU64, MulU64, Shr64, Eql64, Neq64, Bin_lss, Bin_leq, Bin_gtr, Bin_geq, Bin_bool_eql, Bin_bool_neq, Bin_ptr_nil_eql, Bin_ptr_nil_neq, Not_dec, Un_not, Pick_t, Pick_f, Pick_pos, Pick_neg, Gd_tt, Gd_tf, Gd_ft, Gd_ff, Gd_pos_t, Gd_neg_t, Gd_pos_f, Gd_neg_f, Gd_undef, If_t, If_f, If_pos, If_neg, CallF_eq, Max_two, Min_two, Len_rd, Len_own, Ld_blkE, Idx_rdN, Idx_ownN, Idx_rdE, Idx_ownE, IdxAE, Ext_atE, Int.toNat_natCast, Int.toNat_zero, Int.toNat_one, List.length_map, List.length_append, List.length_cons, List.length_nil, List.length_take, List.length_set, List.length_replicate, Bool.not_true, Bool.not_false, decide_true, decide_false, not_true_eq_false, not_false_eq_true, app]
  refine table_Table_Total.spec hf t3 ol.rd hl ?_
  simp only [Iv]
  try simp (disch := first | assumption | omega | (apply At.mk; with_unfolding_all rfl)) only [↓go_eq, Mv, NilC_at, Fld_at, add_mk, Nat.zero_add, Nat.add_zero, Add64, Sub64, Mul64, Quo64, Rem64, Neg64, Cvt64, CvtU8, CvtU16, CvtU32, CvtU64, AddU64, SubU64, MulU64, Shr64, Eql64, Neq64, Bin_lss, Bin_leq, Bin_gtr, Bin_geq, Bin_bool_eql, Bin_bool_neq, Bin_ptr_nil_eql, Bin_ptr_nil_neq, Not_dec, Un_not, Pick_t, Pick_f, Pick_pos, Pick_neg, Gd_tt, Gd_tf, Gd_ft, Gd_ff, Gd_pos_t, Gd_neg_t, Gd_pos_f, Gd_neg_f, Gd_undef, If_t, If_f, If_pos, If_neg, CallF_eq, Max_two, Min_two, Len_rd, Len_own, Ld_blkE, Idx_rdN, Idx_ownN, Idx_rdE, Idx_ownE, IdxAE, Ext_atE, Int.toNat_natCast, Int.toNat_zero, Int.toNat_one, List.length_map, List.length_append, List.length_cons, List.length_nil, List.length_take, List.length_set, List.length_replicate, Bool.not_true, Bool.not_false, decide_true, decide_false, not_true_eq_false, not_false_eq_true, app]
  have hr0 := Int.emod_nonneg x (show tot kd bs ks ≠ 0 by omega)
  have hr1 := Int.emod_lt_of_pos x (show 0 < tot kd bs ks by omega)
  refine Jn_fn (σ := Unit) (fun _ => [.pointer (some ⟨g, 0, none⟩), lv, mv, .int .u64 (x % tot kd bs ks)]) (fun _ h' => h3 = h') ?_ ?_
  · intro J hJ
    try simp (disch := first | assumption | omega | (apply At.mk; with_unfolding_all rfl)) only [↓go_eq, Mv, NilC_at, Fld_at, add_mk, Nat.zero_add, Nat.add_zero, Add64, Sub64, Mul64, Quo64, Rem64, Neg64, Cvt64, CvtU8, CvtU16, CvtU32, CvtU64, AddU64, SubU64, MulU64, Shr64, Eql64, Neq64, Bin_lss, Bin_leq, Bin_gtr, Bin_geq, Bin_bool_eql, Bin_bool_neq, Bin_ptr_nil_eql, Bin_ptr_nil_neq, Not_dec, Un_not, Pick_t, Pick_f, Pick_pos, Pick_neg, Gd_tt, Gd_tf, Gd_ft, Gd_ff, Gd_pos_t, Gd_neg_t, Gd_pos_f, Gd_neg_f, Gd_undef, If_t, If_f, If_pos, If_neg, CallF_eq, Max_two, Min_two, Len_rd, Len_own, Ld_blkE, Idx_rdN, Idx_ownN, Idx_rdE, Idx_ownE, IdxAE, Ext_atE, Int.toNat_natCast, Int.toNat_zero, Int.toNat_one, List.length_map, List.length_append, List.length_cons, List.length_nil, List.length_take, List.length_set, List.length_replicate, Bool.not_true, Bool.not_false, decide_true, decide_false, not_true_eq_false, not_false_eq_true, app]
    refine ⟨?_, ?_⟩
    · refine table_Table_Total.spec hf t3 ol.rd hl ?_
      simp only [Iv]
      try simp (disch := first | assumption | omega | (apply At.mk; with_unfolding_all rfl)) only [↓go_eq, Mv, NilC_at, Fld_at, add_mk, Nat.zero_add, Nat.add_zero, Add64, Sub64, Mul64, Quo64, Rem64, Neg64, Cvt64, CvtU8, CvtU16, CvtU32, CvtU64, AddU64, SubU64, MulU64, Shr64, Eql64, Neq64, Bin_lss, Bin_leq, Bin_gtr, Bin_geq, Bin_bool_eql, Bin_bool_neq, Bin_ptr_nil_eql, Bin_ptr_nil_neq, Not_dec, Un_not, Pick_t, Pick_f, Pick_pos, Pick_neg, Gd_tt, Gd_tf, Gd_ft, Gd_ff, Gd_pos_t, Gd_neg_t, Gd_pos_f, Gd_neg_f, Gd_undef, If_t, If_f, If_pos, If_neg, CallF_eq, Max_two, Min_two, Len_rd, Len_own, Ld_blkE, Idx_rdN, Idx_ownN, Idx_rdE, Idx_ownE, IdxAE, Ext_atE, Int.toNat_natCast, Int.toNat_zero, Int.toNat_one, List.length_map, List.length_append, List.length_cons, List.length_nil, List.length_take, List.length_set, List.length_replicate, Bool.not_true, Bool.not_false, decide_true, decide_false, not_true_eq_false, not_false_eq_true, app]
      exact hJ () _ rfl
    · refine table_Table_Total.spec hf t3 ol.rd hl ?_
      simp only [Iv]
      try simp (disch := first | assumption | omega | (apply At.mk; with_unfolding_all rfl)) only [↓go_eq, Mv, NilC_at, Fld_at, add_mk, Nat.zero_add, Nat.add_zero, Add64, Sub64, Mul64, Quo64, Rem64, Neg64, Cvt64, CvtU8, CvtU16, CvtU32, CvtU64, AddU64, SubU64, MulU64, Shr64, Eql64, Neq64, Bin_lss, Bin_leq, Bin_gtr, Bin_geq, Bin_bool_eql, Bin_bool_neq, Bin_ptr_nil_eql, Bin_ptr_nil_neq, Not_dec, Un_not, Pick_t, Pick_f, Pick_pos, Pick_neg, Gd_tt, Gd_tf, Gd_ft, Gd_ff, Gd_pos_t, Gd_neg_t, Gd_pos_f, Gd_neg_f, Gd_undef, If_t, If_f, If_pos, If_neg, CallF_eq, Max_two, Min_two, Len_rd, Len_own, Ld_blkE, Idx_rdN, Idx_ownN, Idx_rdE, Idx_ownE, IdxAE, Ext_atE, Int.toNat_natCast, Int.toNat_zero, Int.toNat_one, List.length_map, List.length_append, List.length_cons, List.length_nil, List.length_take, List.length_set, List.length_replicate, Bool.not_true, Bool.not_false, decide_true, decide_false, not_true_eq_false, not_false_eq_true, app]
      exact hJ () _ rfl
  rintro _ _ rfl
  generalize hq : x % tot kd bs ks = q at *
  try simp (disch := first | assumption | omega | (apply At.mk; with_unfolding_all rfl)) only [↓go_eq, Mv, NilC_at, Fld_at, add_mk, Nat.zero_add, Nat.add_zero, Add64, Sub64, Mul64, Quo64, Rem64, Neg64, Cvt64, CvtU8, CvtU16, CvtU32, CvtU64, AddU64, SubU64, MulU64, Shr64, Eql64, Neq64, Bin_lss, Bin_leq, Bin_gtr, Bin_geq, Bin_bool_eql, Bin_bool_neq, Bin_ptr_nil_eql, Bin_ptr_nil_neq, Not_dec, Un_not, Pick_t, Pick_f, Pick_pos, Pick_neg, Gd_tt, Gd_tf, Gd_ft, Gd_ff, Gd_pos_t, Gd_neg_t, Gd_pos_f, Gd_neg_f, Gd_undef, If_t, If_f, If_pos, If_neg, CallF_eq, Max_two, Min_two, Len_rd, Len_own, Ld_blkE, Idx_rdN, Idx_ownN, Idx_rdE, Idx_ownE, IdxAE, Ext_atE, Int.toNat_natCast, Int.toNat_zero, Int.toNat_one, List.length_map, List.length_append, List.length_cons, List.length_nil, List.length_take, List.length_set, List.length_replicate, Bool.not_true, Bool.not_false, decide_true, decide_false, not_true_eq_false, not_false_eq_true, app]
  refine table_Table_Pick.specI hf hr0 (by omega) t3 ol.rd hl ?_
  rw [Int.emod_eq_of_lt hr0 hr1]
  simp only [Iv]
  refine (Own.nil _).app ol.rd rfl rfl (by intro u hu; obtain ⟨z, _, rfl⟩ := List.mem_map.1 hu; rfl) (by simp; omega) (by simp; omega) fun v4 h4 b4 o4 f4 hb4 _ => ?_
  refine o4.app1 rfl rfl rfl (by simp; omega) (by simp; omega) fun v5 h5 b5 o5 f5 hb5 => ?_
  have f35 : Fr [] h3 h5 := f4.trans' f5 fun b hb => by rcases hb4 b hb with q | q; exact absurd q (by simp); right; omega
  have o5' : Own h5 v5 ((ks ++ [3]).map Iv) b5 := by simpa [Iv] using o5
  have t5 := Blk.fr t3 f35 (by simp)
  have e3 : tot kd bs (ks ++ [3]) = tot kd bs ks + wk kd bs 3 := by simp [tot]
  have := hw 3
  try simp (disch := first | assumption | omega | (apply At.mk; with_unfolding_all rfl)) only [↓go_eq, Mv, NilC_at, Fld_at, add_mk, Nat.zero_add, Nat.add_zero, Add64, Sub64, Mul64, Quo64, Rem64, Neg64, Cvt64, CvtU8, CvtU16, CvtU32, CvtU64, AddU64, SubU64, MulU64, Shr64, Eql64, Neq64, Bin_lss, Bin_leq, Bin_gtr, Bin_geq, Bin_bool_eql, Bin_bool_neq, Bin_ptr_nil_eql, Bin_ptr_nil_neq, Not_dec, Un_not, Pick_t, Pick_f, Pick_pos, Pick_neg, Gd_tt, Gd_tf, Gd_ft, Gd_ff, Gd_pos_t, Gd_neg_t, Gd_pos_f, Gd_neg_f, Gd_undef, If_t, If_f, If_pos, If_neg, CallF_eq, Max_two, Min_two, Len_rd, Len_own, Ld_blkE, Idx_rdN, Idx_ownN, Idx_rdE, Idx_ownE, IdxAE, Ext_atE, Int.toNat_natCast, Int.toNat_zero, Int.toNat_one, List.length_map, List.length_append, List.length_cons, List.length_nil, List.length_take, List.length_set, List.length_replicate, Bool.not_true, Bool.not_false, decide_true, decide_false, not_true_eq_false, not_false_eq_true, app]
  refine table_Table_Pick.specI hf hr0 (by omega) t5 o5'.rd (by simp; omega) ?_
  rw [Int.emod_eq_of_lt hr0 (by omega)]
  rw [show pick (wk kd bs) (ks ++ [3]) q 0 = pick (wk kd bs) ks q 0 from (pick_append ks [3] q 0 hr1).resolve_right (by omega)]
  simp only [Iv]
  have ol5 := ol.fr f35 (by simp)
  have om5 := om.fr f35 (by simp)
  try simp (disch := first | assumption | omega | (apply At.mk; with_unfolding_all rfl)) only [↓go_eq, Mv, NilC_at, Fld_at, add_mk, Nat.zero_add, Nat.add_zero, Add64, Sub64, Mul64, Quo64, Rem64, Neg64, Cvt64, CvtU8, CvtU16, CvtU32, CvtU64, AddU64, SubU64, MulU64, Shr64, Eql64, Neq64, Bin_lss, Bin_leq, Bin_gtr, Bin_geq, Bin_bool_eql, Bin_bool_neq, Bin_ptr_nil_eql, Bin_ptr_nil_neq, Not_dec, Un_not, Pick_t, Pick_f, Pick_pos, Pick_neg, Gd_tt, Gd_tf, Gd_ft, Gd_ff, Gd_pos_t, Gd_neg_t, Gd_pos_f, Gd_neg_f, Gd_undef, If_t, If_f, If_pos, If_neg, CallF_eq, Max_two, Min_two, Len_rd, Len_own, Ld_blkE, Idx_rdN, Idx_ownN, Idx_rdE, Idx_ownE, IdxAE, Ext_atE, Int.toNat_natCast, Int.toNat_zero, Int.toNat_one, List.length_map, List.length_append, List.length_cons, List.length_nil, List.length_take, List.length_set, List.length_replicate, Bool.not_true, Bool.not_false, decide_true, decide_false, not_true_eq_false, not_false_eq_true, app]
  refine table_Table_Pick.specI hf hr0 (by omega) t5 ol5.rd hl ?_
  rw [Int.emod_eq_of_lt hr0 hr1]
  simp only [Iv]
  try simp (disch := first | assumption | omega | (apply At.mk; with_unfolding_all rfl)) only [↓go_eq, Mv, NilC_at, Fld_at, add_mk, Nat.zero_add, Nat.add_zero, Add64, Sub64, Mul64, Quo64, Rem64, Neg64, Cvt64, CvtU8, CvtU16, CvtU32, CvtU64, AddU64, SubU64, MulU64, Shr64, Eql64, Neq64, Bin_lss, Bin_leq, Bin_gtr, Bin_geq, Bin_bool_eql, Bin_bool_neq, Bin_ptr_nil_eql, Bin_ptr_nil_neq, Not_dec, Un_not, Pick_t, Pick_f, Pick_pos, Pick_neg, Gd_tt, Gd_tf, Gd_ft, Gd_ff, Gd_pos_t, Gd_neg_t, Gd_pos_f, Gd_neg_f, Gd_undef, If_t, If_f, If_pos, If_neg, CallF_eq, Max_two, Min_two, Len_rd, Len_own, Ld_blkE, Idx_rdN, Idx_ownN, Idx_rdE, Idx_ownE, IdxAE, Ext_atE, Int.toNat_natCast, Int.toNat_zero, Int.toNat_one, List.length_map, List.length_append, List.length_cons, List.length_nil, List.length_take, List.length_set, List.length_replicate, Bool.not_true, Bool.not_false, decide_true, decide_false, not_true_eq_false, not_false_eq_true, app]
  refine table_Table_Total.spec hf t5 ol5.rd hl ?_
  simp only [Iv]
  try simp (disch := first | assumption | omega | (apply At.mk; with_unfolding_all rfl)) only [↓go_eq, Mv, NilC_at, Fld_at, add_mk, Nat.zero_add, Nat.add_zero, Add64, Sub64, Mul64, Quo64, Rem64, Neg64, Cvt64, CvtU8, CvtU16, CvtU32, CvtU64, AddU64, SubU64, MulU64, Shr64, Eql64, Neq64, Bin_lss, Bin_leq, Bin_gtr, Bin_geq, Bin_bool_eql, Bin_bool_neq, Bin_ptr_nil_eql, Bin_ptr_nil_neq, Not_dec, Un_not, Pick_t, Pick_f, Pick_pos, Pick_neg, Gd_tt, Gd_tf, Gd_ft, Gd_ff, Gd_pos_t, Gd_neg_t, Gd_pos_f, Gd_neg_f, Gd_undef, If_t, If_f, If_pos, If_neg, CallF_eq, Max_two, Min_two, Len_rd, Len_own, Ld_blkE, Idx_rdN, Idx_ownN, Idx_rdE, Idx_ownE, IdxAE, Ext_atE, Int.toNat_natCast, Int.toNat_zero, Int.toNat_one, List.length_map, List.length_append, List.length_cons, List.length_nil, List.length_take, List.length_set, List.length_replicate, Bool.not_true, Bool.not_false, decide_true, decide_false, not_true_eq_false, not_false_eq_true, app]
  refine table_Table_Pick.specI hf (by omega) (by omega) t5 om5.rd (by simpa using hl) ?_
  rw [hr, Int.emod_eq_of_lt (by omega) (by omega)]
  have hp := pick_rev hw ks q 0 hr0 hr1
  rw [show (ks.map (wk kd bs)).sum = tot kd bs ks from rfl] at hp
  have hlo : ∀ (ks : List Int) (r : Int) (i : Nat), -1 ≤ pick (wk kd bs) ks r i ∧ pick (wk kd bs) ks r i < i + ks.length + 1 := by
    intro ks
    induction ks with
    | nil => intro r i; simp [pick]; omega
    | cons k ks ih => intro r i; have := ih (r - wk kd bs k) (i + 1); rw [pick]; split <;> simp only [List.length_cons] <;> omega
  have := hlo ks.reverse (tot kd bs ks - 1 - q) 0
  rw [List.length_reverse] at this
  have := hlo ks q 0
  simp only [Iv]
  try simp (disch := first | assumption | omega | (apply At.mk; with_unfolding_all rfl)) only [↓go_eq, Mv, NilC_at, Fld_at, add_mk, Nat.zero_add, Nat.add_zero, Add64, Sub64, Mul64, Quo64, Rem64, Neg64, Cvt64, CvtU8, CvtU16, CvtU32, CvtU64, AddU64, SubU64, MulU64, Shr64, Eql64, Neq64, Bin_lss, Bin_leq, Bin_gtr, Bin_geq, Bin_bool_eql, Bin_bool_neq, Bin_ptr_nil_eql, Bin_ptr_nil_neq, Not_dec, Un_not, Pick_t, Pick_f, Pick_pos, Pick_neg, Gd_tt, Gd_tf, Gd_ft, Gd_ff, Gd_pos_t, Gd_neg_t, Gd_pos_f, Gd_neg_f, Gd_undef, If_t, If_f, If_pos, If_neg, CallF_eq, Max_two, Min_two, Len_rd, Len_own, Ld_blkE, Idx_rdN, Idx_ownN, Idx_rdE, Idx_ownE, IdxAE, Ext_atE, Int.toNat_natCast, Int.toNat_zero, Int.toNat_one, List.length_map, List.length_append, List.length_cons, List.length_nil, List.length_take, List.length_set, List.length_replicate, Bool.not_true, Bool.not_false, decide_true, decide_false, not_true_eq_false, not_false_eq_true, app]
  rw [decide_eq_true (by omega)]
  exact hk _ (f02.trans (f3.trans f35))
theorem bradawllaw11_TableOrders.law {h : Heap} {a0 : Bool} {a1 a2 : List Int} {v0 v1 : Value} {cs2 : Array Value} (r0 : rBool.is h a0 [v0]) (r1 : (rSlice (rInt .u8) 1).is h a1 [v1]) (r2 : (rArr 2 (rInt .u64) 1).is h a2 cs2.toList) :
    CallH Try.prog bradawllaw11_TableOrders.id #[v0, v1, .agg cs2] (fun v h' => v = .bool true ∧ Fr [] h h') h := by
  have := bool_arg r0
  subst this
  obtain ⟨x, y, rfl, hx, hy⟩ := pairI_arg r2
  exact bradawllaw11_TableOrders.spec a0 hx hy (rd_ints r1).1 (fun k hk => (rd_ints r1).2 k hk) fun h' f => ⟨rfl, f⟩
end Go.Proofs.Ytfagifhgjndoaaa
