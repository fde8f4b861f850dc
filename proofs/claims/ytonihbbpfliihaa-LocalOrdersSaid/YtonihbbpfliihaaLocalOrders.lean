/- The law LocalOrders. No condition but that the arguments lie in memory, laid by Go. -/
import Derived.Test.YtonihbbpfliihaaLo19
namespace Go.Proofs.Ytonihbbpfliihaa
open Go.Pt
set_option linter.unusedVariables false
set_option linter.unusedSimpArgs false
set_option maxHeartbeats 8000000 in
theorem bradawllaw14_LocalOrders.spec {a bits : Int} {xss : List (List Int)} {ws : List Value} {v w : Value} {l : List Int} (ha : 0 ≤ a ∧ a ≤ 255) (hbits : 0 ≤ bits ∧ bits ≤ 4294967295) (hcl : ∀ c ∈ xss, c.length ≤ 140737488351232) (hlr : ∀ x ∈ l, 0 ≤ x ∧ x ≤ 255) {K : Ret} {h : Heap} (hv : RdX (.int .i16) h v xss ws) (hw : Rd h w (l.map (.int .u8)))
    (hk : ∀ h', Fr [] h h' → K (.bool true) h') : CallH Try.prog bradawllaw14_LocalOrders.id #[.agg #[.int .u8 a, v], .int .u32 bits, w] K h := by
  refine bradawllaw14_LocalOrders.ok ?_
  simp only [bradawllaw14_LocalOrders.pt]
  rw [go_eq]
  refine New_blk fun h1 b1 f1 s1 => ?_
  have b1 : Blk h1 h.size [.int .u8 a, v] := b1
  rw [go_eq, CallF_eq]
  refine bradawllaw14_fit.spec fun h2 f2 => ?_
  have b2 := b1.fr f2 (by simp)
  rw [go_eq, Un_not, Bool.not_true, If_f, go_eq, LdA_two b2, go_eq, CallF_eq]
  refine bradawllaw02_Raw_Light.spec (m := 40) (by decide) hcl ((hv.fr f1).fr f2) fun h3 f3 => ⟨fun hL => ?_, ?_⟩
  rotate_left
  · try simp (disch := first | assumption | omega | (apply At.mk; with_unfolding_all rfl)) only [↓go_eq, ↓ent_eq, Mv, NilC_at, Fld_at, add_mk, Nat.zero_add, Nat.add_zero, Add64, Sub64, Mul64, Quo64, Rem64, Neg64, Cvt64, CvtU8, CvtU16, CvtU32, CvtU64, AddU64, SubU64, MulU64, Shr64, Shr_u8, Shr_u16, Shr_u32, Shr_u64, And1, And31, And32, Eql64, Neq64, Bin_lss, Bin_leq, Bin_gtr, Bin_geq, Bin_bool_eql, Bin_bool_neq, Bin_ptr_nil_eql, Bin_ptr_nil_neq, Not_dec, Un_not, Pick_t, Pick_f, Pick_pos, Pick_neg, Gd_tt, Gd_tf, Gd_ft, Gd_ff, Gd_pos_t, Gd_neg_t, Gd_pos_f, Gd_neg_f, Gd_undef, If_t, If_f, If_pos, If_neg, CallF_eq, Max_two, Min_two, Len_rd, Len_own, Ld_blkE, Idx_rdN, Idx_ownN, Idx_rdE, Idx_ownE, IdxAE, LdA_two, Idx_at0, Ext_atE, Len_at, Int.toNat_natCast, Int.toNat_zero, Int.toNat_one, List.length_map, List.length_append, List.length_cons, List.length_nil, List.length_take, List.length_set, List.length_replicate, Bool.not_true, Bool.not_false, decide_true, decide_false, BEq.rfl, bne_self_eq_false, tf_beq, ft_beq, tf_bne, ft_bne, not_true_eq_false, not_false_eq_true, app]
    exact hk h3 ((f1.trans f2).trans f3)
  obtain ⟨hL1, hL2⟩ := hL
  have b3 := b2.fr f3 (by simp)
  have f03 := (f1.trans f2).trans f3
  have hw3 := hw.fr f03
  rw [go_eq, Un_not, Bool.not_true, go_eq, Gd_ff, Mv, go_eq, Gd_ff, Len_rd hw3, go_eq, Gd_ff, Bin_gtr, go_eq, Pick_f, List.length_map]
  by_cases c1 : ((l.length : Nat) : Int) > 30
  · rw [If_pos c1]
    exact hk h3 f03
  rw [If_neg c1, go_eq, LdA_two b3]
  refine lo_pre ha hL1 hL2 (hv.fr f03) hbits fun n cs fb uf wf va ba sb N M R0 m0 h0 h4 hn hok hlen hcl9 bb hfb rf oa hba hN t0 f4 f5 => ?_
  have hG := GF_fmT hok (fun c hc => by have := hcl9 c hc; omega)
  have hal := stT_len n bits
  have bb4 := bb.fr f5 (by simp)
  have rf4 := rf.fr f5
  have oa4 := oa.fr f5 (by simp)
  have hNs : h.size ≤ N := by have := f03.size; have := f4.size; omega
  have f00 := f03.trans f4
  have f04 := f00.trans f5
  rw [go_eq, Ext_atE ⟨rfl⟩, go_eq, Ext_atE ⟨rfl⟩, go_eq, LdA_two bb4, go_eq, CallF_eq]
  refine local_New.spec' (by omega) (by omega) (fun c hc => by have := hcl9 c hc; omega) hok rf4 oa4.rd hal fun h5 tb M' R1 m1 t1 f6 => ?_
  generalize hFF : fmT cs = F at *
  generalize stT n bits = st0 at *
  obtain ⟨R2, tt⟩ := two_mk t0 t1 f6 (Nat.le_refl _)
  have f05 := f04.trans f6
  have g05 := f5.trans f6
  have hw5 := hw.fr f05
  clear b1 b2 b3 hw3 t0 t1 bb4 rf4 oa4
  try simp (disch := first | assumption | omega | (apply At.mk; with_unfolding_all rfl)) only [↓go_eq, ↓ent_eq, Mv, NilC_at, Fld_at, add_mk, Nat.zero_add, Nat.add_zero, Add64, Sub64, Mul64, Quo64, Rem64, Neg64, Cvt64, CvtU8, CvtU16, CvtU32, CvtU64, AddU64, SubU64, MulU64, Shr64, Shr_u8, Shr_u16, Shr_u32, Shr_u64, And1, And31, And32, Eql64, Neq64, Bin_lss, Bin_leq, Bin_gtr, Bin_geq, Bin_bool_eql, Bin_bool_neq, Bin_ptr_nil_eql, Bin_ptr_nil_neq, Not_dec, Un_not, Pick_t, Pick_f, Pick_pos, Pick_neg, Gd_tt, Gd_tf, Gd_ft, Gd_ff, Gd_pos_t, Gd_neg_t, Gd_pos_f, Gd_neg_f, Gd_undef, If_t, If_f, If_pos, If_neg, CallF_eq, Max_two, Min_two, Len_rd, Len_own, Ld_blkE, Idx_rdN, Idx_ownN, Idx_rdE, Idx_ownE, IdxAE, LdA_two, Idx_at0, Ext_atE, Len_at, Int.toNat_natCast, Int.toNat_zero, Int.toNat_one, List.length_map, List.length_append, List.length_cons, List.length_nil, List.length_take, List.length_set, List.length_replicate, Bool.not_true, Bool.not_false, decide_true, decide_false, BEq.rfl, bne_self_eq_false, tf_beq, ft_beq, tf_bne, ft_bne, not_true_eq_false, not_false_eq_true, app]
  refine Lp_fn (σ := Nat × W × W × LMod × LMod × (Nat → Res)) (fun x => [w, ptr fb, va, ptr sb, ptr tb, Iv (l.length : Nat), Iv (x.1 : Nat)])
    (fun x h' => x.1 ≤ l.length ∧ Two N h' (M + M') x.2.2.2.2.2 sb M tb n F x.2.1 x.2.2.1 x.2.2.2.1 x.2.2.2.2.1 ∧ x.2.1.a = (l.take x.1).foldl (fa n) st0 ∧ x.2.2.1.a = (l.reverse.take x.1).foldl (fa n) st0 ∧ 0 ≤ x.2.1.fl ∧ x.2.1.fl ≤ x.1 ∧ 0 ≤ x.2.2.1.fl ∧ x.2.2.1.fl ≤ x.1 ∧ Fr [] h0 h') (fun x => l.length - x.1)
    (0, _, _, m0, m1, R2) rfl (fun _ => rfl) ⟨Nat.zero_le _, tt, rfl, rfl, Int.le_refl _, Int.le_refl _, Int.le_refl _, Int.le_refl _, g05⟩ ?_
  clear tt hw5
  rintro ⟨j, wd, we, ms, mt, R⟩ h6 ⟨hj, tt, ea, eb, w0, w1, w2, w3, g6⟩ X hX
  simp only at hj tt ea eb w0 w1 w2 w3
  have hw6 := hw.fr (f00.trans g6)
  by_cases c2 : (j : Int) < (l.length : Nat)
  · have hgj : l[j]? = some (l.getD j 0) := by rw [List.getD_eq_getElem?_getD, List.getElem?_eq_getElem (by omega)]; rfl
    have ax : At (l.map (Value.int .u8)) j (.int .u8 (l.getD j 0)) := At.map (f := Value.int .u8) hgj
    have hxb := hlr _ (List.mem_of_getElem? hgj)
    have hgk : l[l.length - 1 - j]? = some (l.getD (l.length - 1 - j) 0) := by rw [List.getD_eq_getElem?_getD, List.getElem?_eq_getElem (by omega)]; rfl
    have ek : ((l.length : Int) - 1 - j).toNat = l.length - 1 - j := by omega
    have ay : At (l.map (Value.int .u8)) ((l.length : Int) - 1 - j).toNat (.int .u8 (l.getD (l.length - 1 - j) 0)) := by rw [ek]; exact At.map (f := Value.int .u8) hgk
    have hyb := hlr _ (List.mem_of_getElem? hgk)
    have hgr : l.reverse[j]? = some (l.getD (l.length - 1 - j) 0) := by rw [List.getElem?_reverse (by omega)]; exact hgk
    have ex1 := fold_take (n := n) (a := st0) hgj
    have ex2 := fold_take (n := n) (a := st0) hgr
    generalize l.getD j 0 = x at *
    generalize l.getD (l.length - 1 - j) 0 = y at *
    have hf1 := W.flip_fl (n := n) (F := F) (w := wd) (v := x)
    have hf2 := W.flip_fl (n := n) (F := F) (w := we) (v := y)
    try simp (disch := first | assumption | omega | (apply At.mk; with_unfolding_all rfl)) only [↓go_eq, ↓ent_eq, Mv, NilC_at, Fld_at, add_mk, Nat.zero_add, Nat.add_zero, Add64, Sub64, Mul64, Quo64, Rem64, Neg64, Cvt64, CvtU8, CvtU16, CvtU32, CvtU64, AddU64, SubU64, MulU64, Shr64, Shr_u8, Shr_u16, Shr_u32, Shr_u64, And1, And31, And32, Eql64, Neq64, Bin_lss, Bin_leq, Bin_gtr, Bin_geq, Bin_bool_eql, Bin_bool_neq, Bin_ptr_nil_eql, Bin_ptr_nil_neq, Not_dec, Un_not, Pick_t, Pick_f, Pick_pos, Pick_neg, Gd_tt, Gd_tf, Gd_ft, Gd_ff, Gd_pos_t, Gd_neg_t, Gd_pos_f, Gd_neg_f, Gd_undef, If_t, If_f, If_pos, If_neg, CallF_eq, Max_two, Min_two, Len_rd, Len_own, Ld_blkE, Idx_rdN, Idx_ownN, Idx_rdE, Idx_ownE, IdxAE, LdA_two, Idx_at0, Ext_atE, Len_at, Int.toNat_natCast, Int.toNat_zero, Int.toNat_one, List.length_map, List.length_append, List.length_cons, List.length_nil, List.length_take, List.length_set, List.length_replicate, Bool.not_true, Bool.not_false, decide_true, decide_false, BEq.rfl, bne_self_eq_false, tf_beq, ft_beq, tf_bne, ft_bne, not_true_eq_false, not_false_eq_true, app]
    refine flip_s tt hG ⟨w0, by omega⟩ fun h7 R7 m7 t7 f7 => ?_
    have g7 : Fr [] h0 h7 := FrN.fr f7 g6 (by omega)
    have hw7 := hw.fr (f00.trans g7)
    try simp (disch := first | assumption | omega | (apply At.mk; with_unfolding_all rfl)) only [↓go_eq, ↓ent_eq, Mv, NilC_at, Fld_at, add_mk, Nat.zero_add, Nat.add_zero, Add64, Sub64, Mul64, Quo64, Rem64, Neg64, Cvt64, CvtU8, CvtU16, CvtU32, CvtU64, AddU64, SubU64, MulU64, Shr64, Shr_u8, Shr_u16, Shr_u32, Shr_u64, And1, And31, And32, Eql64, Neq64, Bin_lss, Bin_leq, Bin_gtr, Bin_geq, Bin_bool_eql, Bin_bool_neq, Bin_ptr_nil_eql, Bin_ptr_nil_neq, Not_dec, Un_not, Pick_t, Pick_f, Pick_pos, Pick_neg, Gd_tt, Gd_tf, Gd_ft, Gd_ff, Gd_pos_t, Gd_neg_t, Gd_pos_f, Gd_neg_f, Gd_undef, If_t, If_f, If_pos, If_neg, CallF_eq, Max_two, Min_two, Len_rd, Len_own, Ld_blkE, Idx_rdN, Idx_ownN, Idx_rdE, Idx_ownE, IdxAE, LdA_two, Idx_at0, Ext_atE, Len_at, Int.toNat_natCast, Int.toNat_zero, Int.toNat_one, List.length_map, List.length_append, List.length_cons, List.length_nil, List.length_take, List.length_set, List.length_replicate, Bool.not_true, Bool.not_false, decide_true, decide_false, BEq.rfl, bne_self_eq_false, tf_beq, ft_beq, tf_bne, ft_bne, not_true_eq_false, not_false_eq_true, app]
    refine flip_t t7 hG ⟨w2, by omega⟩ fun h8 R8 m8 t8 f8 => ?_
    have g8 : Fr [] h0 h8 := FrN.fr f8 g7 (by omega)
    try simp (disch := first | assumption | omega | (apply At.mk; with_unfolding_all rfl)) only [↓go_eq, ↓ent_eq, Mv, NilC_at, Fld_at, add_mk, Nat.zero_add, Nat.add_zero, Add64, Sub64, Mul64, Quo64, Rem64, Neg64, Cvt64, CvtU8, CvtU16, CvtU32, CvtU64, AddU64, SubU64, MulU64, Shr64, Shr_u8, Shr_u16, Shr_u32, Shr_u64, And1, And31, And32, Eql64, Neq64, Bin_lss, Bin_leq, Bin_gtr, Bin_geq, Bin_bool_eql, Bin_bool_neq, Bin_ptr_nil_eql, Bin_ptr_nil_neq, Not_dec, Un_not, Pick_t, Pick_f, Pick_pos, Pick_neg, Gd_tt, Gd_tf, Gd_ft, Gd_ff, Gd_pos_t, Gd_neg_t, Gd_pos_f, Gd_neg_f, Gd_undef, If_t, If_f, If_pos, If_neg, CallF_eq, Max_two, Min_two, Len_rd, Len_own, Ld_blkE, Idx_rdN, Idx_ownN, Idx_rdE, Idx_ownE, IdxAE, LdA_two, Idx_at0, Ext_atE, Len_at, Int.toNat_natCast, Int.toNat_zero, Int.toNat_one, List.length_map, List.length_append, List.length_cons, List.length_nil, List.length_take, List.length_set, List.length_replicate, Bool.not_true, Bool.not_false, decide_true, decide_false, BEq.rfl, bne_self_eq_false, tf_beq, ft_beq, tf_bne, ft_bne, not_true_eq_false, not_false_eq_true, app]
    try simp only [show (j : Int) + 1 = ((j + 1 : Nat) : Int) from by omega]
    exact hX (j + 1, _, _, m7, m8, R8) h8 ⟨show j + 1 ≤ l.length by omega, t8, by rw [ex1, ← ea]; exact W.flip_a, by rw [ex2, ← eb]; exact W.flip_a, Int.le_trans w0 hf1.1, show (W.flip n F wd x).fl ≤ ((j + 1 : Nat) : Int) by omega, Int.le_trans w2 hf2.1, show (W.flip n F we y).fl ≤ ((j + 1 : Nat) : Int) by omega, g8⟩ (show l.length - (j + 1) < l.length - j by omega)
  · have ej : j = l.length := by omega
    subst ej
    rw [List.take_length] at ea
    rw [List.take_of_length_le (by rw [List.length_reverse]; exact Nat.le_refl _), fold_rev l st0 hal] at eb
    have bb6 := bb.fr g6 (by simp)
    have rf6 := rf.fr g6
    try simp (disch := first | assumption | omega | (apply At.mk; with_unfolding_all rfl)) only [↓go_eq, ↓ent_eq, Mv, NilC_at, Fld_at, add_mk, Nat.zero_add, Nat.add_zero, Add64, Sub64, Mul64, Quo64, Rem64, Neg64, Cvt64, CvtU8, CvtU16, CvtU32, CvtU64, AddU64, SubU64, MulU64, Shr64, Shr_u8, Shr_u16, Shr_u32, Shr_u64, And1, And31, And32, Eql64, Neq64, Bin_lss, Bin_leq, Bin_gtr, Bin_geq, Bin_bool_eql, Bin_bool_neq, Bin_ptr_nil_eql, Bin_ptr_nil_neq, Not_dec, Un_not, Pick_t, Pick_f, Pick_pos, Pick_neg, Gd_tt, Gd_tf, Gd_ft, Gd_ff, Gd_pos_t, Gd_neg_t, Gd_pos_f, Gd_neg_f, Gd_undef, If_t, If_f, If_pos, If_neg, CallF_eq, Max_two, Min_two, Len_rd, Len_own, Ld_blkE, Idx_rdN, Idx_ownN, Idx_rdE, Idx_ownE, IdxAE, LdA_two, Idx_at0, Ext_atE, Len_at, Int.toNat_natCast, Int.toNat_zero, Int.toNat_one, List.length_map, List.length_append, List.length_cons, List.length_nil, List.length_take, List.length_set, List.length_replicate, Bool.not_true, Bool.not_false, decide_true, decide_false, BEq.rfl, bne_self_eq_false, tf_beq, ft_beq, tf_bne, ft_bne, not_true_eq_false, not_false_eq_true, app]
    refine norm_Formula.spec (by omega) (fun c hc => by have := hcl9 c hc; omega) (fun c hc y hy => by obtain ⟨_, _, _⟩ := hok c hc y hy; exact ⟨by omega, by omega⟩) (fun c hc y hy => (hok c hc y hy).1) rf6 fun u bu ps h7 oF hcls f7 => ?_
    have t7 := tt.fr f7
    have g7 := g6.trans f7
    rw [hFF] at hcls
    have oF7 := oF
    have rl7 := oF.rdl
    rw [hcls] at rl7
    try simp (disch := first | assumption | omega | (apply At.mk; with_unfolding_all rfl)) only [↓go_eq, ↓ent_eq, Mv, NilC_at, Fld_at, add_mk, Nat.zero_add, Nat.add_zero, Add64, Sub64, Mul64, Quo64, Rem64, Neg64, Cvt64, CvtU8, CvtU16, CvtU32, CvtU64, AddU64, SubU64, MulU64, Shr64, Shr_u8, Shr_u16, Shr_u32, Shr_u64, And1, And31, And32, Eql64, Neq64, Bin_lss, Bin_leq, Bin_gtr, Bin_geq, Bin_bool_eql, Bin_bool_neq, Bin_ptr_nil_eql, Bin_ptr_nil_neq, Not_dec, Un_not, Pick_t, Pick_f, Pick_pos, Pick_neg, Gd_tt, Gd_tf, Gd_ft, Gd_ff, Gd_pos_t, Gd_neg_t, Gd_pos_f, Gd_neg_f, Gd_undef, If_t, If_f, If_pos, If_neg, CallF_eq, Max_two, Min_two, Len_rd, Len_own, Ld_blkE, Idx_rdN, Idx_ownN, Idx_rdE, Idx_ownE, IdxAE, LdA_two, Idx_at0, Ext_atE, Len_at, Int.toNat_natCast, Int.toNat_zero, Int.toNat_one, List.length_map, List.length_append, List.length_cons, List.length_nil, List.length_take, List.length_set, List.length_replicate, Bool.not_true, Bool.not_false, decide_true, decide_false, BEq.rfl, bne_self_eq_false, tf_beq, ft_beq, tf_bne, ft_bne, not_true_eq_false, not_false_eq_true, app]
    refine unsat_w t7.s ?_
    try simp (disch := first | assumption | omega | (apply At.mk; with_unfolding_all rfl)) only [↓go_eq, ↓ent_eq, Mv, NilC_at, Fld_at, add_mk, Nat.zero_add, Nat.add_zero, Add64, Sub64, Mul64, Quo64, Rem64, Neg64, Cvt64, CvtU8, CvtU16, CvtU32, CvtU64, AddU64, SubU64, MulU64, Shr64, Shr_u8, Shr_u16, Shr_u32, Shr_u64, And1, And31, And32, Eql64, Neq64, Bin_lss, Bin_leq, Bin_gtr, Bin_geq, Bin_bool_eql, Bin_bool_neq, Bin_ptr_nil_eql, Bin_ptr_nil_neq, Not_dec, Un_not, Pick_t, Pick_f, Pick_pos, Pick_neg, Gd_tt, Gd_tf, Gd_ft, Gd_ff, Gd_pos_t, Gd_neg_t, Gd_pos_f, Gd_neg_f, Gd_undef, If_t, If_f, If_pos, If_neg, CallF_eq, Max_two, Min_two, Len_rd, Len_own, Ld_blkE, Idx_rdN, Idx_ownN, Idx_rdE, Idx_ownE, IdxAE, LdA_two, Idx_at0, Ext_atE, Len_at, Int.toNat_natCast, Int.toNat_zero, Int.toNat_one, List.length_map, List.length_append, List.length_cons, List.length_nil, List.length_take, List.length_set, List.length_replicate, Bool.not_true, Bool.not_false, decide_true, decide_false, BEq.rfl, bne_self_eq_false, tf_beq, ft_beq, tf_bne, ft_bne, not_true_eq_false, not_false_eq_true, app]
    refine unsat_w t7.t ?_
    rw [ea, eb]
    try simp (disch := first | assumption | omega | (apply At.mk; with_unfolding_all rfl)) only [↓go_eq, ↓ent_eq, Mv, NilC_at, Fld_at, add_mk, Nat.zero_add, Nat.add_zero, Add64, Sub64, Mul64, Quo64, Rem64, Neg64, Cvt64, CvtU8, CvtU16, CvtU32, CvtU64, AddU64, SubU64, MulU64, Shr64, Shr_u8, Shr_u16, Shr_u32, Shr_u64, And1, And31, And32, Eql64, Neq64, Bin_lss, Bin_leq, Bin_gtr, Bin_geq, Bin_bool_eql, Bin_bool_neq, Bin_ptr_nil_eql, Bin_ptr_nil_neq, Not_dec, Un_not, Pick_t, Pick_f, Pick_pos, Pick_neg, Gd_tt, Gd_tf, Gd_ft, Gd_ff, Gd_pos_t, Gd_neg_t, Gd_pos_f, Gd_neg_f, Gd_undef, If_t, If_f, If_pos, If_neg, CallF_eq, Max_two, Min_two, Len_rd, Len_own, Ld_blkE, Idx_rdN, Idx_ownN, Idx_rdE, Idx_ownE, IdxAE, LdA_two, Idx_at0, Ext_atE, Len_at, Int.toNat_natCast, Int.toNat_zero, Int.toNat_one, List.length_map, List.length_append, List.length_cons, List.length_nil, List.length_take, List.length_set, List.length_replicate, Bool.not_true, Bool.not_false, decide_true, decide_false, BEq.rfl, bne_self_eq_false, tf_beq, ft_beq, tf_bne, ft_bne, not_true_eq_false, not_false_eq_true, app]
    refine local_State_Assignment.spec t7.t.s fun u2 b2 h8 o8 hb8 f8 => ?_
    rw [t7.t.r.ea, eb, ← ea] at o8
    have t8 := t7.fr f8
    have rl8 := rl7.fr f8
    try simp (disch := first | assumption | omega | (apply At.mk; with_unfolding_all rfl)) only [↓go_eq, ↓ent_eq, Mv, NilC_at, Fld_at, add_mk, Nat.zero_add, Nat.add_zero, Add64, Sub64, Mul64, Quo64, Rem64, Neg64, Cvt64, CvtU8, CvtU16, CvtU32, CvtU64, AddU64, SubU64, MulU64, Shr64, Shr_u8, Shr_u16, Shr_u32, Shr_u64, And1, And31, And32, Eql64, Neq64, Bin_lss, Bin_leq, Bin_gtr, Bin_geq, Bin_bool_eql, Bin_bool_neq, Bin_ptr_nil_eql, Bin_ptr_nil_neq, Not_dec, Un_not, Pick_t, Pick_f, Pick_pos, Pick_neg, Gd_tt, Gd_tf, Gd_ft, Gd_ff, Gd_pos_t, Gd_neg_t, Gd_pos_f, Gd_neg_f, Gd_undef, If_t, If_f, If_pos, If_neg, CallF_eq, Max_two, Min_two, Len_rd, Len_own, Ld_blkE, Idx_rdN, Idx_ownN, Idx_rdE, Idx_ownE, IdxAE, LdA_two, Idx_at0, Ext_atE, Len_at, Int.toNat_natCast, Int.toNat_zero, Int.toNat_one, List.length_map, List.length_append, List.length_cons, List.length_nil, List.length_take, List.length_set, List.length_replicate, Bool.not_true, Bool.not_false, decide_true, decide_false, BEq.rfl, bne_self_eq_false, tf_beq, ft_beq, tf_bne, ft_bne, not_true_eq_false, not_false_eq_true, app]
    refine bradawllaw14_right.spec t8.s hG rl8 o8.rd fun h9 f9 => ?_
    have t9 := t8.fr f9
    have g9 := (g7.trans f8).trans f9
    have hw9 := hw.fr (f00.trans g9)
    have f79 := f8.trans f9
    have hl7 := oF.own.lt
    try simp (disch := first | assumption | omega | (apply At.mk; with_unfolding_all rfl)) only [↓go_eq, ↓ent_eq, Mv, NilC_at, Fld_at, add_mk, Nat.zero_add, Nat.add_zero, Add64, Sub64, Mul64, Quo64, Rem64, Neg64, Cvt64, CvtU8, CvtU16, CvtU32, CvtU64, AddU64, SubU64, MulU64, Shr64, Shr_u8, Shr_u16, Shr_u32, Shr_u64, And1, And31, And32, Eql64, Neq64, Bin_lss, Bin_leq, Bin_gtr, Bin_geq, Bin_bool_eql, Bin_bool_neq, Bin_ptr_nil_eql, Bin_ptr_nil_neq, Not_dec, Un_not, Pick_t, Pick_f, Pick_pos, Pick_neg, Gd_tt, Gd_tf, Gd_ft, Gd_ff, Gd_pos_t, Gd_neg_t, Gd_pos_f, Gd_neg_f, Gd_undef, If_t, If_f, If_pos, If_neg, CallF_eq, Max_two, Min_two, Len_rd, Len_own, Ld_blkE, Idx_rdN, Idx_ownN, Idx_rdE, Idx_ownE, IdxAE, LdA_two, Idx_at0, Ext_atE, Len_at, Int.toNat_natCast, Int.toNat_zero, Int.toNat_one, List.length_map, List.length_append, List.length_cons, List.length_nil, List.length_take, List.length_set, List.length_replicate, Bool.not_true, Bool.not_false, decide_true, decide_false, BEq.rfl, bne_self_eq_false, tf_beq, ft_beq, tf_bne, ft_bne, not_true_eq_false, not_false_eq_true, app]
    obtain ⟨RX, tX, eX⟩ := st_with tt.s f7 oF
    have tX9 := tX.fr f79
    have hMX := tt.s.s.hM
    refine Lp_fn (σ := Nat × W × LMod × (Nat → Res)) (fun x => [va, ptr sb, u, w, Iv (l.length : Nat), Iv (x.1 : Nat)])
      (fun x h' => x.1 ≤ l.length ∧ St4 N h' (M + M' + (ps.length + 1)) x.2.2.2 0 sb n F x.2.1 x.2.2.1 ∧ x.2.1.a = (l.take x.1).foldl (fa n) (l.foldl (fa n) st0) ∧ 0 ≤ x.2.1.fl ∧ x.2.1.fl ≤ l.length + x.1 ∧ Fr [] h0 h' ∧ (∀ i, i ≤ ps.length → x.2.2.2 (M + M' + i) = psR u bu ps i)) (fun x => l.length - x.1)
      (0, wd, ms, RX) rfl (fun _ => rfl) ⟨Nat.zero_le _, tX9, ea, w0, by show wd.fl ≤ (l.length : Int) + ((0 : Nat) : Int); omega, g9, eX⟩ ?_
    clear tt t7 t8 t9 tX tX9 rl7 rl8 oF oF7 hw9 g9 f79 o8 hw6 rf6 bb6
    rintro ⟨i, wi, mi, Ri⟩ h10 ⟨hi, ti, ei, v0, v1, g10, eR⟩ Y hY
    simp only at hi ti ei v0 v1 eR
    have hw10 := hw.fr (f00.trans g10)
    by_cases c3 : (i : Int) < (l.length : Nat)
    · have hgj : l[i]? = some (l.getD i 0) := by rw [List.getD_eq_getElem?_getD, List.getElem?_eq_getElem (by omega)]; rfl
      have ax : At (l.map (Value.int .u8)) i (.int .u8 (l.getD i 0)) := At.map (f := Value.int .u8) hgj
      have hxb := hlr _ (List.mem_of_getElem? hgj)
      have ex1 := fold_take (n := n) (a := l.foldl (fa n) st0) hgj
      generalize l.getD i 0 = x at *
      have hf1 := W.flip_fl (n := n) (F := F) (w := wi) (v := x)
      try simp (disch := first | assumption | omega | (apply At.mk; with_unfolding_all rfl)) only [↓go_eq, ↓ent_eq, Mv, NilC_at, Fld_at, add_mk, Nat.zero_add, Nat.add_zero, Add64, Sub64, Mul64, Quo64, Rem64, Neg64, Cvt64, CvtU8, CvtU16, CvtU32, CvtU64, AddU64, SubU64, MulU64, Shr64, Shr_u8, Shr_u16, Shr_u32, Shr_u64, And1, And31, And32, Eql64, Neq64, Bin_lss, Bin_leq, Bin_gtr, Bin_geq, Bin_bool_eql, Bin_bool_neq, Bin_ptr_nil_eql, Bin_ptr_nil_neq, Not_dec, Un_not, Pick_t, Pick_f, Pick_pos, Pick_neg, Gd_tt, Gd_tf, Gd_ft, Gd_ff, Gd_pos_t, Gd_neg_t, Gd_pos_f, Gd_neg_f, Gd_undef, If_t, If_f, If_pos, If_neg, CallF_eq, Max_two, Min_two, Len_rd, Len_own, Ld_blkE, Idx_rdN, Idx_ownN, Idx_rdE, Idx_ownE, IdxAE, LdA_two, Idx_at0, Ext_atE, Len_at, Int.toNat_natCast, Int.toNat_zero, Int.toNat_one, List.length_map, List.length_append, List.length_cons, List.length_nil, List.length_take, List.length_set, List.length_replicate, Bool.not_true, Bool.not_false, decide_true, decide_false, BEq.rfl, bne_self_eq_false, tf_beq, ft_beq, tf_bne, ft_bne, not_true_eq_false, not_false_eq_true, app]
      refine local_State_Flip.spec' ti hG ⟨v0, by omega⟩ fun h11 R11 m11 t11 hR11 f11 => ?_
      try simp (disch := first | assumption | omega | (apply At.mk; with_unfolding_all rfl)) only [↓go_eq, ↓ent_eq, Mv, NilC_at, Fld_at, add_mk, Nat.zero_add, Nat.add_zero, Add64, Sub64, Mul64, Quo64, Rem64, Neg64, Cvt64, CvtU8, CvtU16, CvtU32, CvtU64, AddU64, SubU64, MulU64, Shr64, Shr_u8, Shr_u16, Shr_u32, Shr_u64, And1, And31, And32, Eql64, Neq64, Bin_lss, Bin_leq, Bin_gtr, Bin_geq, Bin_bool_eql, Bin_bool_neq, Bin_ptr_nil_eql, Bin_ptr_nil_neq, Not_dec, Un_not, Pick_t, Pick_f, Pick_pos, Pick_neg, Gd_tt, Gd_tf, Gd_ft, Gd_ff, Gd_pos_t, Gd_neg_t, Gd_pos_f, Gd_neg_f, Gd_undef, If_t, If_f, If_pos, If_neg, CallF_eq, Max_two, Min_two, Len_rd, Len_own, Ld_blkE, Idx_rdN, Idx_ownN, Idx_rdE, Idx_ownE, IdxAE, LdA_two, Idx_at0, Ext_atE, Len_at, Int.toNat_natCast, Int.toNat_zero, Int.toNat_one, List.length_map, List.length_append, List.length_cons, List.length_nil, List.length_take, List.length_set, List.length_replicate, Bool.not_true, Bool.not_false, decide_true, decide_false, BEq.rfl, bne_self_eq_false, tf_beq, ft_beq, tf_bne, ft_bne, not_true_eq_false, not_false_eq_true, app]
      try simp only [show (i : Int) + 1 = ((i + 1 : Nat) : Int) from by omega]
      exact hY (i + 1, _, m11, R11) h11 ⟨show i + 1 ≤ l.length by omega, t11, by rw [ex1, ← ei]; exact W.flip_a, Int.le_trans v0 hf1.1, show (W.flip n F wi x).fl ≤ (l.length : Int) + ((i + 1 : Nat) : Int) by omega, FrN.fr f11 g10 (by omega), fun q hq => (hR11 _ (.inr (by omega))).trans (eR q hq)⟩ (show l.length - (i + 1) < l.length - i by omega)
    · have ej : i = l.length := by omega
      subst ej
      rw [List.take_length, fold_twice l st0 hal] at ei
      have rl := ps_rdl ti.s.sep (by omega) eR
      rw [hcls] at rl
      have oa10 := (oa.fr g10 (by simp)).rd
      rw [← ei] at oa10
      try simp (disch := first | assumption | omega | (apply At.mk; with_unfolding_all rfl)) only [↓go_eq, ↓ent_eq, Mv, NilC_at, Fld_at, add_mk, Nat.zero_add, Nat.add_zero, Add64, Sub64, Mul64, Quo64, Rem64, Neg64, Cvt64, CvtU8, CvtU16, CvtU32, CvtU64, AddU64, SubU64, MulU64, Shr64, Shr_u8, Shr_u16, Shr_u32, Shr_u64, And1, And31, And32, Eql64, Neq64, Bin_lss, Bin_leq, Bin_gtr, Bin_geq, Bin_bool_eql, Bin_bool_neq, Bin_ptr_nil_eql, Bin_ptr_nil_neq, Not_dec, Un_not, Pick_t, Pick_f, Pick_pos, Pick_neg, Gd_tt, Gd_tf, Gd_ft, Gd_ff, Gd_pos_t, Gd_neg_t, Gd_pos_f, Gd_neg_f, Gd_undef, If_t, If_f, If_pos, If_neg, CallF_eq, Max_two, Min_two, Len_rd, Len_own, Ld_blkE, Idx_rdN, Idx_ownN, Idx_rdE, Idx_ownE, IdxAE, LdA_two, Idx_at0, Ext_atE, Len_at, Int.toNat_natCast, Int.toNat_zero, Int.toNat_one, List.length_map, List.length_append, List.length_cons, List.length_nil, List.length_take, List.length_set, List.length_replicate, Bool.not_true, Bool.not_false, decide_true, decide_false, BEq.rfl, bne_self_eq_false, tf_beq, ft_beq, tf_bne, ft_bne, not_true_eq_false, not_false_eq_true, app]
      refine bradawllaw14_right.spec ti hG rl oa10 fun h11 f11 => ?_
      try simp (disch := first | assumption | omega | (apply At.mk; with_unfolding_all rfl)) only [↓go_eq, ↓ent_eq, Mv, NilC_at, Fld_at, add_mk, Nat.zero_add, Nat.add_zero, Add64, Sub64, Mul64, Quo64, Rem64, Neg64, Cvt64, CvtU8, CvtU16, CvtU32, CvtU64, AddU64, SubU64, MulU64, Shr64, Shr_u8, Shr_u16, Shr_u32, Shr_u64, And1, And31, And32, Eql64, Neq64, Bin_lss, Bin_leq, Bin_gtr, Bin_geq, Bin_bool_eql, Bin_bool_neq, Bin_ptr_nil_eql, Bin_ptr_nil_neq, Not_dec, Un_not, Pick_t, Pick_f, Pick_pos, Pick_neg, Gd_tt, Gd_tf, Gd_ft, Gd_ff, Gd_pos_t, Gd_neg_t, Gd_pos_f, Gd_neg_f, Gd_undef, If_t, If_f, If_pos, If_neg, CallF_eq, Max_two, Min_two, Len_rd, Len_own, Ld_blkE, Idx_rdN, Idx_ownN, Idx_rdE, Idx_ownE, IdxAE, LdA_two, Idx_at0, Ext_atE, Len_at, Int.toNat_natCast, Int.toNat_zero, Int.toNat_one, List.length_map, List.length_append, List.length_cons, List.length_nil, List.length_take, List.length_set, List.length_replicate, Bool.not_true, Bool.not_false, decide_true, decide_false, BEq.rfl, bne_self_eq_false, tf_beq, ft_beq, tf_bne, ft_bne, not_true_eq_false, not_false_eq_true, app]
      exact hk h11 ((f00.trans g10).trans f11)
theorem bradawllaw14_LocalOrders.law {h : Heap} {a0 : Int × List (List Int)} {cs : Array Value} {a1 : Int} {a2 : List Int} {v1 v2 : Value} (r0 : rRaw.is h a0 cs.toList) (r1 : (rInt .u32).is h a1 [v1]) (r2 : (rSlice (rInt .u8) 1).is h a2 [v2]) :
    CallH Try.prog bradawllaw14_LocalOrders.id #[.agg cs, v1, v2] (fun v h' => v = .bool true ∧ Fr [] h h') h := by
  obtain ⟨v, ws, rfl, h1, h2, h3⟩ := raw_arg r0
  obtain ⟨hl0, hb0⟩ := rd_ints r2
  obtain ⟨rfl, h4, h5⟩ := int_arg r1
  exact bradawllaw14_LocalOrders.spec h1 ⟨h4, h5⟩ h2 hb0 h3 hl0 fun h' f => ⟨rfl, f⟩
end Go.Proofs.Ytonihbbpfliihaa
