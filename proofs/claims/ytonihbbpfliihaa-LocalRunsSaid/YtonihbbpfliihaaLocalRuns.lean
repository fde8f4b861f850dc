/- The law LocalRuns. No condition but that the arguments lie in memory, laid by Go. -/
import Derived.Test.YtonihbbpfliihaaLo18
namespace Go.Proofs.Ytonihbbpfliihaa
open Go.Pt
set_option linter.unusedVariables false
set_option linter.unusedSimpArgs false
set_option maxHeartbeats 8000000 in
theorem bradawllaw14_LocalRuns.spec {a bits : Int} {xss : List (List Int)} {ws : List Value} {v w : Value} {l : List Int} (ha : 0 ≤ a ∧ a ≤ 255) (hbits : 0 ≤ bits ∧ bits ≤ 4294967295) (hcl : ∀ c ∈ xss, c.length ≤ 140737488351232) (hlr : ∀ x ∈ l, -9223372036854775808 ≤ x ∧ x ≤ 9223372036854775807) {K : Ret} {h : Heap} (hv : RdX (.int .i16) h v xss ws) (hw : Rd h w (l.map Iv))
    (hk : ∀ h', Fr [] h h' → K (.bool true) h') : CallH Try.prog bradawllaw14_LocalRuns.id #[.agg #[.int .u8 a, v], .int .u32 bits, w] K h := by
  refine bradawllaw14_LocalRuns.ok ?_
  simp only [bradawllaw14_LocalRuns.pt]
  rw [go_eq]
  refine New_blk fun h1 b1 f1 s1 => ?_
  have b1 : Blk h1 h.size [.int .u8 a, v] := b1
  rw [go_eq, CallF_eq]
  refine bradawllaw14_fit.spec fun h2 f2 => ?_
  have b2 := b1.fr f2 (by simp)
  rw [go_eq, Un_not, Bool.not_true, If_f, go_eq, LdA_two b2, go_eq, CallF_eq]
  refine bradawllaw02_Raw_Light.spec (m := 40) (by decide) hcl ((hv.fr f1).fr f2) fun h3 f3 => ⟨fun hL => ?_, ?_⟩
  rotate_left
  · try simp (disch := first | assumption | omega | (apply At.mk; with_unfolding_all rfl)) only [↓go_eq, ↓ent_eq, Mv, NilC_at, Fld_at, add_mk, Nat.zero_add, Nat.add_zero, Add64, Sub64, Mul64, Quo64, Rem64, Neg64, Cvt64, CvtU8, CvtU16, CvtU32, CvtU64, AddU64, SubU64, MulU64, Shr64, Shr_u8, Shr_u16, Shr_u32, Shr_u64, And1, And31, And32, Eql64, Neq64, Bin_lss, Bin_leq, Bin_gtr, Bin_geq, Bin_bool_eql, Bin_bool_neq, Bin_ptr_nil_eql, Bin_ptr_nil_neq, Not_dec, Un_not, Pick_t, Pick_f, Pick_pos, Pick_neg, Gd_tt, Gd_tf, Gd_ft, Gd_ff, Gd_pos_t, Gd_neg_t, Gd_pos_f, Gd_neg_f, Gd_undef, If_t, If_f, If_pos, If_neg, CallF_eq, Max_two, Min_two, Len_rd, Len_own, Ld_blkE, Idx_rdN, Idx_ownN, Idx_rdE, Idx_ownE, IdxAE, LdA_two, Idx_at0, Ext_atE, Len_at, Int.toNat_natCast, Int.toNat_zero, Int.toNat_one, List.length_map, List.length_append, List.length_cons, List.length_nil, List.length_take, List.length_set, List.length_replicate, Bool.not_true, Bool.not_false, decide_true, decide_false, BEq.rfl, bne_self_eq_false, tf_beq, ft_beq, tf_bne, ft_bne, not_true_eq_false, not_false_eq_true, app]
    exact hk h3 ((f1.trans f2).trans f3)
  obtain ⟨hL1, hL2⟩ := hL
  have b3 := b2.fr f3 (by simp)
  have f03 := (f1.trans f2).trans f3
  have hw3 := hw.fr f03
  rw [go_eq, Un_not, Bool.not_true, go_eq, Gd_ff, Mv, go_eq, Gd_ff, Len_rd hw3, go_eq, Gd_ff, Bin_gtr, go_eq, Pick_f, List.length_map]
  by_cases c1 : ((l.length : Nat) : Int) > 60
  · rw [If_pos c1]
    exact hk h3 f03
  rw [If_neg c1, go_eq, LdA_two b3]
  refine lo_pre2 ha hL1 hL2 (hv.fr f03) hbits fun n cs fb uf lv N0 bu ps va ba sb N M R0 m0 h0 h4 hn hok hlen hcl9 bb hfb oL hcls oa hba hN t0 f4 f5 => ?_
  have hG := GF_fmT hok (fun c hc => by have := hcl9 c hc; omega)
  generalize hFF : fmT cs = F at *
  have hal := stT_len n bits
  generalize stT n bits = st0 at *
  have oa4 := oa.fr f5 (by simp)
  have hbaN : ∀ b ∈ ba, h.size ≤ b ∧ b < N := fun b hb => by have := hba b hb; have := oa.lt b hb; have := f03.size; omega
  have hNs : h.size ≤ N := by have := f03.size; have := f4.size; omega
  have f00 : Fr [] h h0 := f03.trans f4
  have rdl : ∀ {h'}, Fr ba h0 h' → RdL h' lv F (ps.map (·.1)) := fun {h'} f => by
    have := (oL.frd f (fun b hb q => (hba b q).2.2.1 hb) (fun p hp b hb q => (hba b q).2.2.2 p hp hb)).rdl
    rwa [hcls] at this
  have tofr : ∀ {h'}, Fr ba h0 h' → Fr [] h h' := fun {h'} f => f00.trans' f fun b hb => .inr (hbaN b hb).1
  clear b1 b2 b3 hw3
  rw [go_eq, Ext_atE ⟨rfl⟩, go_eq, Ext_atE ⟨rfl⟩]
  have g5 : Fr ba h0 h4 := f5.mono (by simp)
  have hwz := hw.fr (tofr g5)
  have rl4 := rdl g5
  have oar4 := oa4.rd
  rw [go_eq, Neq64, go_eq, decide_eq_false (by simp), Gd_ff, Mv, go_eq, Gd_ff, Bin_ptr_nil_eql, go_eq, Pick_f, go_eq, Gd_ff, Mv, go_eq, Gd_ff, Mv, go_eq, Gd_ff, Mv, go_eq, Gd_ff, CallF_eq]
  refine bradawllaw14_right.spec t0 hG rl4 oar4 fun h5 f6 => ?_
  have t5 := t0.fr f6
  have oa5 := oa4.fr f6 (by simp)
  have g55 : Fr ba h0 h5 := g5.trans (f6.mono (by simp))
  have hw5 := hw.fr (tofr g55)
  rw [go_eq, Gd_ff, Un_not, Bool.not_true, go_eq, Pick_f, If_f, go_eq, Len_rd hw5, List.length_map]
  refine Lp_fn (σ := Nat × W × LMod × (Nat → Res)) (fun x => [ptr fb, lv, va, ptr sb, Iv x.2.1.fl, w, Iv (l.length : Nat), Iv (x.1 : Nat)])
    (fun x h' => x.1 ≤ l.length ∧ St4 N h' M x.2.2.2 0 sb n F x.2.1 x.2.2.1 ∧ Own h' va (x.2.1.a.map .bool) ba ∧ 0 ≤ x.2.1.fl ∧ x.2.1.fl ≤ x.1 ∧ Fr ba h0 h') (fun x => l.length - x.1)
    (0, _, m0, R0) rfl (fun _ => rfl) ⟨Nat.zero_le _, t5, oa5, Int.le_refl _, Int.le_refl _, g55⟩ ?_
  clear t0 t5 oa4 oa5 hw5 hwz rl4 oar4 g5 g55 oa
  rintro ⟨j, wd, m, R⟩ h6 ⟨hj, t, oa, w0, w1, g6⟩ X hX
  simp only at hj t oa w0 w1
  have hw6 := hw.fr (tofr g6)
  have al := t.al
  simp only [app]
  rw [go_eq, Bin_lss]
  by_cases c2 : (j : Int) < (l.length : Nat)
  · rw [decide_eq_true c2, If_t]
    have hgj : l[j]? = some (l.getD j 0) := by rw [List.getD_eq_getElem?_getD, List.getElem?_eq_getElem (by omega)]; rfl
    have ax : At (l.map Iv) j (Iv (l.getD j 0)) := At.map (f := Iv) hgj
    have hxb := hlr _ (List.mem_of_getElem? hgj)
    generalize l.getD j 0 = x at *
    have hfl := W.flip_fl (n := n) (F := F) (w := wd) (v := x)
    have hNh : h0.size ≤ N := by omega
    have bb6 := bb.fr g6 (fun q => (hba fb q).2.1 rfl)
    rw [go_eq]
    refine Eq.mpr (Idx_rdE hw6 (by omega) (by rw [Int.toNat_natCast]; exact ax)) ?_
    refine may_go bb6 ?_
    rw [go_eq, CallF_eq]
    refine local_State_Flip.spec' t hG ⟨w0, by omega⟩ fun h7 R7 m7 t7 hR7 f7 => ?_
    have oa7 := Own.frN oa f7 fun b hb => (hbaN b hb).2
    have g7 : Fr ba h0 h7 := FrN.frS f7 g6 hNh
    rw [go_eq, Bin_bool_neq, bne_self_eq_false, If_f]
    refine Jn_fn (σ := LMod × (Nat → Res)) (fun y => [ptr fb, lv, va, ptr sb, Iv (wd.flip n F x).fl, w, Iv (l.length : Nat), Iv (j : Nat)])
      (fun y h' => St4 N h' M y.2 0 sb n F (wd.flip n F x) y.1 ∧ Own h' va ((wd.flip n F x).a.map .bool) ba ∧ Fr ba h0 h') ?_ ?_
    · intro J hJ
      by_cases ci : inR n x
      rotate_left
      · rw [decide_eq_false ci]
        unfold W.flip at t7 hJ
        rw [if_neg ci] at t7 hJ
        try simp (disch := first | assumption | omega | (apply At.mk; with_unfolding_all rfl)) only [↓go_eq, ↓ent_eq, Mv, NilC_at, Fld_at, add_mk, Nat.zero_add, Nat.add_zero, Add64, Sub64, Mul64, Quo64, Rem64, Neg64, Cvt64, CvtU8, CvtU16, CvtU32, CvtU64, AddU64, SubU64, MulU64, Shr64, Shr_u8, Shr_u16, Shr_u32, Shr_u64, And1, And31, And32, Eql64, Neq64, Bin_lss, Bin_leq, Bin_gtr, Bin_geq, Bin_bool_eql, Bin_bool_neq, Bin_ptr_nil_eql, Bin_ptr_nil_neq, Not_dec, Un_not, Pick_t, Pick_f, Pick_pos, Pick_neg, Gd_tt, Gd_tf, Gd_ft, Gd_ff, Gd_pos_t, Gd_neg_t, Gd_pos_f, Gd_neg_f, Gd_undef, If_t, If_f, If_pos, If_neg, CallF_eq, Max_two, Min_two, Len_rd, Len_own, Ld_blkE, Idx_rdN, Idx_ownN, Idx_rdE, Idx_ownE, IdxAE, LdA_two, Idx_at0, Ext_atE, Len_at, Int.toNat_natCast, Int.toNat_zero, Int.toNat_one, List.length_map, List.length_append, List.length_cons, List.length_nil, List.length_take, List.length_set, List.length_replicate, Bool.not_true, Bool.not_false, decide_true, decide_false, BEq.rfl, bne_self_eq_false, tf_beq, ft_beq, tf_bne, ft_bne, not_true_eq_false, not_false_eq_true, app]
        exact hJ (m7, R7) h7 ⟨t7, oa7, g7⟩
      rw [decide_eq_true ci]
      unfold W.flip at t7 hJ
      rw [if_pos ci] at t7 hJ
      obtain ⟨ci1, ci2⟩ := ci
      have ex : (x - 1).toNat = x.toNat - 1 := by omega
      have a7 := bool_atD (a := wd.a) (i := (x - 1).toNat) (by omega)
      have oa7r := oa7.rd
      try simp (disch := first | assumption | omega | (apply At.mk; with_unfolding_all rfl)) only [↓go_eq, ↓ent_eq, Mv, NilC_at, Fld_at, add_mk, Nat.zero_add, Nat.add_zero, Add64, Sub64, Mul64, Quo64, Rem64, Neg64, Cvt64, CvtU8, CvtU16, CvtU32, CvtU64, AddU64, SubU64, MulU64, Shr64, Shr_u8, Shr_u16, Shr_u32, Shr_u64, And1, And31, And32, Eql64, Neq64, Bin_lss, Bin_leq, Bin_gtr, Bin_geq, Bin_bool_eql, Bin_bool_neq, Bin_ptr_nil_eql, Bin_ptr_nil_neq, Not_dec, Un_not, Pick_t, Pick_f, Pick_pos, Pick_neg, Gd_tt, Gd_tf, Gd_ft, Gd_ff, Gd_pos_t, Gd_neg_t, Gd_pos_f, Gd_neg_f, Gd_undef, If_t, If_f, If_pos, If_neg, CallF_eq, Max_two, Min_two, Len_rd, Len_own, Ld_blkE, Idx_rdN, Idx_ownN, Idx_rdE, Idx_ownE, IdxAE, LdA_two, Idx_at0, Ext_atE, Len_at, Int.toNat_natCast, Int.toNat_zero, Int.toNat_one, List.length_map, List.length_append, List.length_cons, List.length_nil, List.length_take, List.length_set, List.length_replicate, Bool.not_true, Bool.not_false, decide_true, decide_false, BEq.rfl, bne_self_eq_false, tf_beq, ft_beq, tf_bne, ft_bne, not_true_eq_false, not_false_eq_true, app]
      refine oa7.put (by omega) (by rw [List.length_map]; omega) rfl fun h8 oa8 f8 _ => ?_
      rw [bool_set, ex] at oa8
      change Own h8 va ((flp wd.a x.toNat).map .bool) ba at oa8
      have t8 := t7.frN f8 fun b hb => (hbaN b hb).2
      try simp (disch := first | assumption | omega | (apply At.mk; with_unfolding_all rfl)) only [↓go_eq, ↓ent_eq, Mv, NilC_at, Fld_at, add_mk, Nat.zero_add, Nat.add_zero, Add64, Sub64, Mul64, Quo64, Rem64, Neg64, Cvt64, CvtU8, CvtU16, CvtU32, CvtU64, AddU64, SubU64, MulU64, Shr64, Shr_u8, Shr_u16, Shr_u32, Shr_u64, And1, And31, And32, Eql64, Neq64, Bin_lss, Bin_leq, Bin_gtr, Bin_geq, Bin_bool_eql, Bin_bool_neq, Bin_ptr_nil_eql, Bin_ptr_nil_neq, Not_dec, Un_not, Pick_t, Pick_f, Pick_pos, Pick_neg, Gd_tt, Gd_tf, Gd_ft, Gd_ff, Gd_pos_t, Gd_neg_t, Gd_pos_f, Gd_neg_f, Gd_undef, If_t, If_f, If_pos, If_neg, CallF_eq, Max_two, Min_two, Len_rd, Len_own, Ld_blkE, Idx_rdN, Idx_ownN, Idx_rdE, Idx_ownE, IdxAE, LdA_two, Idx_at0, Ext_atE, Len_at, Int.toNat_natCast, Int.toNat_zero, Int.toNat_one, List.length_map, List.length_append, List.length_cons, List.length_nil, List.length_take, List.length_set, List.length_replicate, Bool.not_true, Bool.not_false, decide_true, decide_false, BEq.rfl, bne_self_eq_false, tf_beq, ft_beq, tf_bne, ft_bne, not_true_eq_false, not_false_eq_true, app]
      exact hJ (m7, R7) h8 ⟨t8, oa8, g7.trans f8⟩
    · generalize wd.flip n F x = wn at *
      rintro ⟨m8, R8⟩ h8 ⟨t8, oa8, g8⟩
      simp only [app]
      rw [go_eq, CallF_eq]
      refine bradawllaw14_right.spec t8 hG (rdl g8) oa8.rd fun h9 f9 => ?_
      have t9 := t8.fr f9
      try simp (disch := first | assumption | omega | (apply At.mk; with_unfolding_all rfl)) only [↓go_eq, ↓ent_eq, Mv, NilC_at, Fld_at, add_mk, Nat.zero_add, Nat.add_zero, Add64, Sub64, Mul64, Quo64, Rem64, Neg64, Cvt64, CvtU8, CvtU16, CvtU32, CvtU64, AddU64, SubU64, MulU64, Shr64, Shr_u8, Shr_u16, Shr_u32, Shr_u64, And1, And31, And32, Eql64, Neq64, Bin_lss, Bin_leq, Bin_gtr, Bin_geq, Bin_bool_eql, Bin_bool_neq, Bin_ptr_nil_eql, Bin_ptr_nil_neq, Not_dec, Un_not, Pick_t, Pick_f, Pick_pos, Pick_neg, Gd_tt, Gd_tf, Gd_ft, Gd_ff, Gd_pos_t, Gd_neg_t, Gd_pos_f, Gd_neg_f, Gd_undef, If_t, If_f, If_pos, If_neg, CallF_eq, Max_two, Min_two, Len_rd, Len_own, Ld_blkE, Idx_rdN, Idx_ownN, Idx_rdE, Idx_ownE, IdxAE, LdA_two, Idx_at0, Ext_atE, Len_at, Int.toNat_natCast, Int.toNat_zero, Int.toNat_one, List.length_map, List.length_append, List.length_cons, List.length_nil, List.length_take, List.length_set, List.length_replicate, Bool.not_true, Bool.not_false, decide_true, decide_false, BEq.rfl, bne_self_eq_false, tf_beq, ft_beq, tf_bne, ft_bne, not_true_eq_false, not_false_eq_true, app]
      refine flips_w t9 ?_
      try simp (disch := first | assumption | omega | (apply At.mk; with_unfolding_all rfl)) only [↓go_eq, ↓ent_eq, Mv, NilC_at, Fld_at, add_mk, Nat.zero_add, Nat.add_zero, Add64, Sub64, Mul64, Quo64, Rem64, Neg64, Cvt64, CvtU8, CvtU16, CvtU32, CvtU64, AddU64, SubU64, MulU64, Shr64, Shr_u8, Shr_u16, Shr_u32, Shr_u64, And1, And31, And32, Eql64, Neq64, Bin_lss, Bin_leq, Bin_gtr, Bin_geq, Bin_bool_eql, Bin_bool_neq, Bin_ptr_nil_eql, Bin_ptr_nil_neq, Not_dec, Un_not, Pick_t, Pick_f, Pick_pos, Pick_neg, Gd_tt, Gd_tf, Gd_ft, Gd_ff, Gd_pos_t, Gd_neg_t, Gd_pos_f, Gd_neg_f, Gd_undef, If_t, If_f, If_pos, If_neg, CallF_eq, Max_two, Min_two, Len_rd, Len_own, Ld_blkE, Idx_rdN, Idx_ownN, Idx_rdE, Idx_ownE, IdxAE, LdA_two, Idx_at0, Ext_atE, Len_at, Int.toNat_natCast, Int.toNat_zero, Int.toNat_one, List.length_map, List.length_append, List.length_cons, List.length_nil, List.length_take, List.length_set, List.length_replicate, Bool.not_true, Bool.not_false, decide_true, decide_false, BEq.rfl, bne_self_eq_false, tf_beq, ft_beq, tf_bne, ft_bne, not_true_eq_false, not_false_eq_true, app]
      try simp only [show (j : Int) + 1 = ((j + 1 : Nat) : Int) from by omega]
      exact hX (j + 1, wn, m8, R8) h9 ⟨by simp only; omega, t9, oa8.fr f9 (by simp), by simp only; omega, by simp only; omega, g8.trans (f9.mono (by simp))⟩ (by simp only; omega)
  · rw [decide_eq_false c2, If_f, go_eq, CallF_eq]
    refine local_State_Assignment.spec t.s fun u bs h7 o7 hb7 f7 => ?_
    rw [t.r.ea] at o7
    have oa7 := (oa.fr f7 (by simp)).rd
    have o7r := o7.rd
    try simp (disch := first | assumption | omega | (apply At.mk; with_unfolding_all rfl)) only [↓go_eq, ↓ent_eq, Mv, NilC_at, Fld_at, add_mk, Nat.zero_add, Nat.add_zero, Add64, Sub64, Mul64, Quo64, Rem64, Neg64, Cvt64, CvtU8, CvtU16, CvtU32, CvtU64, AddU64, SubU64, MulU64, Shr64, Shr_u8, Shr_u16, Shr_u32, Shr_u64, And1, And31, And32, Eql64, Neq64, Bin_lss, Bin_leq, Bin_gtr, Bin_geq, Bin_bool_eql, Bin_bool_neq, Bin_ptr_nil_eql, Bin_ptr_nil_neq, Not_dec, Un_not, Pick_t, Pick_f, Pick_pos, Pick_neg, Gd_tt, Gd_tf, Gd_ft, Gd_ff, Gd_pos_t, Gd_neg_t, Gd_pos_f, Gd_neg_f, Gd_undef, If_t, If_f, If_pos, If_neg, CallF_eq, Max_two, Min_two, Len_rd, Len_own, Ld_blkE, Idx_rdN, Idx_ownN, Idx_rdE, Idx_ownE, IdxAE, LdA_two, Idx_at0, Ext_atE, Len_at, Int.toNat_natCast, Int.toNat_zero, Int.toNat_one, List.length_map, List.length_append, List.length_cons, List.length_nil, List.length_take, List.length_set, List.length_replicate, Bool.not_true, Bool.not_false, decide_true, decide_false, BEq.rfl, bne_self_eq_false, tf_beq, ft_beq, tf_bne, ft_bne, not_true_eq_false, not_false_eq_true, app]
    refine Lp_fn (σ := Nat) (fun y => [va, u, Iv (wd.a.length : Nat), Iv (y : Nat)]) (fun y h' => y ≤ wd.a.length ∧ h7 = h') (fun y => wd.a.length - y) 0 rfl (fun _ => rfl) ⟨Nat.zero_le _, rfl⟩ ?_
    rintro y h8 ⟨hy, rfl⟩ Y hY
    by_cases c5 : (y : Int) < (wd.a.length : Nat)
    · have a1 := bool_atD (a := wd.a) (i := y) (by omega)
      generalize wd.a.getD y false = bz at *
      try simp (disch := first | assumption | omega | (apply At.mk; with_unfolding_all rfl)) only [↓go_eq, ↓ent_eq, Mv, NilC_at, Fld_at, add_mk, Nat.zero_add, Nat.add_zero, Add64, Sub64, Mul64, Quo64, Rem64, Neg64, Cvt64, CvtU8, CvtU16, CvtU32, CvtU64, AddU64, SubU64, MulU64, Shr64, Shr_u8, Shr_u16, Shr_u32, Shr_u64, And1, And31, And32, Eql64, Neq64, Bin_lss, Bin_leq, Bin_gtr, Bin_geq, Bin_bool_eql, Bin_bool_neq, Bin_ptr_nil_eql, Bin_ptr_nil_neq, Not_dec, Un_not, Pick_t, Pick_f, Pick_pos, Pick_neg, Gd_tt, Gd_tf, Gd_ft, Gd_ff, Gd_pos_t, Gd_neg_t, Gd_pos_f, Gd_neg_f, Gd_undef, If_t, If_f, If_pos, If_neg, CallF_eq, Max_two, Min_two, Len_rd, Len_own, Ld_blkE, Idx_rdN, Idx_ownN, Idx_rdE, Idx_ownE, IdxAE, LdA_two, Idx_at0, Ext_atE, Len_at, Int.toNat_natCast, Int.toNat_zero, Int.toNat_one, List.length_map, List.length_append, List.length_cons, List.length_nil, List.length_take, List.length_set, List.length_replicate, Bool.not_true, Bool.not_false, decide_true, decide_false, BEq.rfl, bne_self_eq_false, tf_beq, ft_beq, tf_bne, ft_bne, not_true_eq_false, not_false_eq_true, app]
      try simp only [show (y : Int) + 1 = ((y + 1 : Nat) : Int) from by omega]
      exact hY (y + 1) h7 ⟨by omega, rfl⟩ (by omega)
    · try simp (disch := first | assumption | omega | (apply At.mk; with_unfolding_all rfl)) only [↓go_eq, ↓ent_eq, Mv, NilC_at, Fld_at, add_mk, Nat.zero_add, Nat.add_zero, Add64, Sub64, Mul64, Quo64, Rem64, Neg64, Cvt64, CvtU8, CvtU16, CvtU32, CvtU64, AddU64, SubU64, MulU64, Shr64, Shr_u8, Shr_u16, Shr_u32, Shr_u64, And1, And31, And32, Eql64, Neq64, Bin_lss, Bin_leq, Bin_gtr, Bin_geq, Bin_bool_eql, Bin_bool_neq, Bin_ptr_nil_eql, Bin_ptr_nil_neq, Not_dec, Un_not, Pick_t, Pick_f, Pick_pos, Pick_neg, Gd_tt, Gd_tf, Gd_ft, Gd_ff, Gd_pos_t, Gd_neg_t, Gd_pos_f, Gd_neg_f, Gd_undef, If_t, If_f, If_pos, If_neg, CallF_eq, Max_two, Min_two, Len_rd, Len_own, Ld_blkE, Idx_rdN, Idx_ownN, Idx_rdE, Idx_ownE, IdxAE, LdA_two, Idx_at0, Ext_atE, Len_at, Int.toNat_natCast, Int.toNat_zero, Int.toNat_one, List.length_map, List.length_append, List.length_cons, List.length_nil, List.length_take, List.length_set, List.length_replicate, Bool.not_true, Bool.not_false, decide_true, decide_false, BEq.rfl, bne_self_eq_false, tf_beq, ft_beq, tf_bne, ft_bne, not_true_eq_false, not_false_eq_true, app]
      exact hk h7 ((tofr g6).trans f7)
theorem bradawllaw14_LocalRuns.law {h : Heap} {a0 : Int × List (List Int)} {cs : Array Value} {a1 : Int} {a2 : List Int} {v1 v2 : Value} (r0 : rRaw.is h a0 cs.toList) (r1 : (rInt .u32).is h a1 [v1]) (r2 : (rSlice (rInt .i64) 1).is h a2 [v2]) :
    CallH Try.prog bradawllaw14_LocalRuns.id #[.agg cs, v1, v2] (fun v h' => v = .bool true ∧ Fr [] h h') h := by
  obtain ⟨v, ws, rfl, h1, h2, h3⟩ := raw_arg r0
  obtain ⟨hl0, hb0⟩ := rd_ints r2
  obtain ⟨rfl, h4, h5⟩ := int_arg r1
  exact bradawllaw14_LocalRuns.spec h1 ⟨h4, h5⟩ h2 hb0 h3 hl0 fun h' f => ⟨rfl, f⟩
end Go.Proofs.Ytonihbbpfliihaa
