/- The law WalkSteps. No condition but that the arguments lie in memory, laid by Go. -/
import Derived.Test.YtonngdjfnnibaaaWk6
namespace Go.Proofs.Ytonngdjfnnibaaa
open Go.Pt
set_option linter.unusedVariables false
set_option linter.unusedSimpArgs false
set_option maxHeartbeats 16000000 in
theorem bradawllaw15_WalkSteps.spec {a x0 x1 x2 : Int} {xss : List (List Int)} {ws : List Value} {v wv : Value} {wl : List W64} (ha : 0 ≤ a ∧ a ≤ 255) (hx0 : 0 ≤ x0 ∧ x0 ≤ 4294967295) (hx1 : 0 ≤ x1 ∧ x1 ≤ 4294967295) (hx2 : 0 ≤ x2 ∧ x2 ≤ 4294967295) (hcl : ∀ c ∈ xss, c.length ≤ 140737488351232) {K : Ret} {h : Heap} (hv : RdX (.int .i16) h v xss ws) (hw : Rd h wv (wl.map U))
    (hk : ∀ h', Fr [] h h' → K (.bool true) h') : CallH Try.prog bradawllaw15_WalkSteps.id #[.agg #[.int .u8 a, v], .agg #[.int .u32 x0, .int .u32 x1, .int .u32 x2], wv] K h := by
  refine bradawllaw15_WalkSteps.ok ?_
  simp only [bradawllaw15_WalkSteps.pt]
  rw [go_eq]
  refine New_blk fun h1 b1 f1 s1 => ?_
  have b1 : Blk h1 h.size [.int .u8 a, v] := b1
  rw [go_eq]
  refine New_blk fun h2 b2 f2 s2 => ?_
  have b2 : Blk h2 h1.size [.int .u32 x0, .int .u32 x1, .int .u32 x2] := b2
  rw [go_eq, CallF_eq]
  refine bradawllaw15_fit.spec fun h3 f3 => ?_
  have f03 := (f1.trans f2).trans f3
  rw [go_eq, Un_not, Bool.not_true, If_f]
  refine wk_light hcl ((b1.fr f2 (by simp)).fr f3 (by simp)) (hv.fr f03) (hw.fr f03) (fun h4 f4 => hk h4 (f03.trans f4)) fun h4 f4 hL1 hL2 hwl => ?_
  have f04 := f03.trans f4
  have b4 := (b2.fr f3 (by simp)).fr f4 (by simp)
  have br4 := ((b1.fr f2 (by simp)).fr f3 (by simp)).fr f4 (by simp)
  refine wk_formO (vars := 12) (by decide) ha hL1 hL2 br4 (hv.fr f04) fun n fb u N0 b0 ps h5 hn hok hlen hcl9 b5 hfb oF5 f5 => ?_
  have f05 := f04.trans f5
  have bn5 := b4.fr f5 (by simp)
  have a0 : At [Value.int .u32 x0, .int .u32 x1, .int .u32 x2] (0 + (0 : Int).toNat) (.int .u32 x0) := ⟨rfl⟩
  have a1 : At [Value.int .u32 x0, .int .u32 x1, .int .u32 x2] (0 + (1 : Int).toNat) (.int .u32 x1) := ⟨rfl⟩
  have a2 : At [Value.int .u32 x0, .int .u32 x1, .int .u32 x2] (0 + (2 : Int).toNat) (.int .u32 x2) := ⟨rfl⟩
  have af : At [Iv n, u] 0 (Iv n) := ⟨rfl⟩
  rw [go_eq, Fld_at, go_eq, add_mk, Ld_blkE b5 af, go_eq, IdxAE (by decide) (by decide), go_eq, Ld_blkE bn5 a0, go_eq, CallF_eq]
  refine bradawllaw14_Start.spec (by omega) hx0 fun va ba h6 o6 hb6 f6 => ?_
  have hal := stT_len n x0
  generalize stT n x0 = st0 at *
  have bn6 := bn5.fr f6 (by simp)
  have b6 := b5.fr f6 (by simp)
  have oF6 := oF5.frd f6 (by simp) (by simp)
  have f06 := f05.trans f6
  have hcl1 : ∀ c ∈ cls ps, c.length ≤ 1000 := fun c hc => by have := hcl9 c hc; omega
  have hG := GF_fmT (n := n) hok hcl1
  have hbaF : ∀ b ∈ b0, b ∉ ba := fun b hb hm => by have := oF5.own.lt b hb; have := hb6 b hm; omega
  have hbaP : ∀ p ∈ ps, ∀ b ∈ p.2.2, b ∉ ba := fun p hp b hb hm => by have := (oF5.each p hp).lt b hb; have := hb6 b hm; omega
  have hbab : fb ∉ ba := fun hm => by have := b5.lt; have := hb6 _ hm; omega
  have hbalt := o6.lt
  have z06 := f06.size
  have hba0 : ∀ b ∈ ba, h.size ≤ b := fun b hb => by have := hb6 b hb; have := f05.size; omega
  rw [go_eq, LdA_two b6, go_eq, CallF_eq]
  refine local_New.spec' (by omega) (by omega) hcl1 hok oF6.rdl o6.rd hal fun h7 sb M R m t7 f7 => ?_
  have bn7 := bn6.fr f7 (by simp)
  rw [go_eq, Ext_atE ⟨rfl⟩, go_eq, Ext_atE ⟨rfl⟩]
  rw [go_eq, Neq64, decide_eq_false (by simp), go_eq, Gd_ff, Mv, go_eq, Gd_ff, Bin_ptr_nil_eql, go_eq, Pick_f, If_f]
  rw [go_eq, IdxAE (by decide) (by decide), go_eq, Ld_blkE bn7 a1, go_eq, CvtU8, go_eq, IdxAE (by decide) (by decide), go_eq, Ld_blkE bn7 a2, go_eq, CvtU16, go_eq]
  refine way_a (by omega) (by omega) fun kd bsz ns h8 hW f8 => ?_
  have t8 := t7.fr f8
  rw [go_eq]
  refine New_blk fun h9 b9 f9 s9 => ?_
  have b9 : Blk h9 h8.size [Iv 0, Iv 0, Iv 0] := b9
  rw [go_eq]
  refine StA_three b9 rfl rfl rfl fun h10 b10 f10 => ?_
  have f810 : Fr [] h8 h10 := f9.trans' f10 fun b hb => .inr (by simp at hb; omega)
  have t10 := t8.more (r := rBlk h8.size [Iv kd, Iv bsz, Iv ns]) f810 b10 (by simp [rBlk])
  have f610 := (f7.trans f8).trans f810
  rw [go_eq]
  refine new_a (x := 5#64) (hw.fr (f06.trans f610)) (by omega) fun gr h11 Fr1 hsr f11 hFr => ?_
  have t11 := t10.more (r := rStr gr _ Fr1) f11 hsr hFr
  rw [go_eq]
  refine new_a (x := 5#64) (hw.fr ((f06.trans f610).trans f11)) (by omega) fun gq h12 Fq hsq f12 hFq => ?_
  have t12 := t11.more (r := rStr gq _ Fq) f12 hsq hFq
  have hM := t7.s.hM
  have f612 := (f610.trans f11).trans f12
  have o12 := o6.fr f612 (by simp)
  generalize hFF : fmT (cls ps) = F at *
  have hKF : F.length ≤ 40 := by rw [← hFF]; have := fmT_len (cls ps); omega
  refine Lp_fn (σ := Nat × W × LMod × (Nat → Res) × Str) (fun x => [ptr fb, va, ptr sb, ptr h8.size, ptr gr, ptr gq, Iv (x.1 : Nat)])
    (fun x h' => x.1 ≤ 12 ∧ St4 h6.size h' (M + 1 + 1 + 1) x.2.2.2.1 0 sb n F x.2.1 x.2.2.1 ∧ x.2.2.2.1 M = rBlk h8.size [Iv kd, Iv bsz, Iv ns] ∧ x.2.2.2.1 (M + 1) = rStr gr x.2.2.2.2 Fr1 ∧ x.2.2.2.1 (M + 2) = rStr gq x.2.2.2.2 Fq ∧ Own h' va (x.2.1.a.map .bool) ba ∧ 0 ≤ x.2.1.fl ∧ x.2.1.fl ≤ x.1 ∧ x.2.2.2.2.d ≤ 3 * x.1 ∧ x.2.2.2.2.ws = wl ∧ Fr ba h6 h') (fun x => 12 - x.1)
    (0, _, m, _, ⟨wl, seedOf 5#64, 0⟩) rfl (fun _ => rfl) ⟨Nat.zero_le _, t12, (updR_ne (by omega)).trans ((updR_ne (by omega)).trans (updR_at _ _ _)), (updR_ne (by omega)).trans (updR_at _ _ _), updR_at _ _ _, o12, Int.le_refl _, Int.le_refl _, Nat.le_refl _, rfl, f612.mono (by simp)⟩ ?_
  clear t7 t8 t10 t11 t12 hsr hsq o12 b9 b10 bn7 bn6 bn5 b2 b1
  rintro ⟨i, wd, md, Rd', sd⟩ h13 ⟨hi, t, eM, eM1, eM2, oa, w0, w1, hd, hws, g13⟩ X hX
  simp only at hi t eM eM1 eM2 oa w0 w1 hd hws
  have tofr : ∀ {h'}, Fr ba h6 h' → Fr [] h h' := fun {h'} f => f06.trans' f fun b hb => .inr (hba0 b hb)
  have hwsl : sd.ws.length ≤ 60 := by rw [hws]; exact hwl
  have al := t.al
  simp only [app]
  rw [go_eq, Bin_lss]
  by_cases c1 : (i : Int) < 12
  rotate_left
  · rw [decide_eq_false c1, If_f]
    exact hk h13 (tofr g13)
  rw [decide_eq_true c1, If_t]
  have sd' := stepT_d kd bsz ns wd.a F md.row sd
  have hin := stepT_in (s := sd) hW hG t.rowOk
  refine Jn_fn (σ := Nat → Res) (fun _ => [ptr fb, va, ptr sb, ptr h8.size, ptr gr, ptr gq, Iv ((stepT kd bsz ns wd.a F md.row sd).1 : Nat), Iv (i : Nat)])
    (fun R' h' => St4 h6.size h' (M + 1 + 1 + 1) R' 0 sb n F wd md ∧ R' M = rBlk h8.size [Iv kd, Iv bsz, Iv ns] ∧ R' (M + 1) = rStr gr sd Fr1 ∧ R' (M + 2) = rStr gq (stepT kd bsz ns wd.a F md.row sd).2 Fq ∧ Own h' va (wd.a.map .bool) ba ∧ Fr ba h6 h') ?_ ?_
  · intro J hJ
    have kq : Wst h6.size h13 (M + 1 + 1 + 1) Rd' 0 sb n F wd md (M + 2) gq sd Fq := ⟨t, by omega, by omega, eM2⟩
    have hloq := kq.lo
    have fin : ∀ {h'} {st : Str}, Fr Fq h13 h' → StrAt h' gq st Fq → St4 h6.size h' (M + 1 + 1 + 1) (updR Rd' (M + 2) (rStr gq st Fq)) 0 sb n F wd md ∧ updR Rd' (M + 2) (rStr gq st Fq) M = rBlk h8.size [Iv kd, Iv bsz, Iv ns] ∧ updR Rd' (M + 2) (rStr gq st Fq) (M + 1) = rStr gr sd Fr1 ∧ updR Rd' (M + 2) (rStr gq st Fq) (M + 2) = rStr gq st Fq ∧ Own h' va (wd.a.map .bool) ba ∧ Fr ba h6 h' := by
      intro h' st f hs
      refine ⟨(kq.put f hs).t, (updR_ne (by omega)).trans eM, (updR_ne (by omega)).trans eM1, updR_at _ _ _, ?_, ?_⟩
      · exact oa.fr f fun b hb hm => by have := hloq b hm; have := hbalt b hb; omega
      · exact g13.trans' f fun b hb => .inr (hloq b hb)
    unfold stepT at hJ
    rw [go_eq]
    refine unsat_m t ?_
    rw [go_eq, Bin_gtr]
    by_cases c0 : md.row.length = 0
    · rw [if_pos c0] at hJ
      rw [decide_eq_false (by omega), If_f]
      exact hJ Rd' h13 ⟨t, eM, eM1, eM2, oa, g13⟩
    rw [if_neg c0] at hJ
    rw [decide_eq_true (by omega), If_t, go_eq, CallF_eq]
    have hmr : md.row.length ≤ 40 := by have := t.r.cnt.len; have := t.r.ek; omega
    refine rng_Stream_Below.spec kq.str (by omega) (by omega) (by omega) fun h14 s14 f14 => ?_
    have hbl := sd.below_lt (n := md.row.length) (by omega)
    have hbd := sd.below_d (n := md.row.length) (by omega)
    have hbw : (sd.below md.row.length).2.ws.length = sd.ws.length := by rw [sd.below_ws]
    generalize sd.below md.row.length = sx at *
    obtain ⟨x, s'⟩ := sx
    simp only at hbl hbd hbw hJ s14
    have k14 := kq.put f14 s14
    obtain ⟨xn, rfl⟩ : ∃ xn : Nat, x = xn := ⟨x.toNat, by omega⟩
    obtain ⟨c, hc, hB0, hcD⟩ := t.rowg (i := xn) (by omega)
    simp only [Int.toNat_natCast, hcD] at hJ
    obtain ⟨hci, hcm⟩ := someF hc
    obtain ⟨hc1, hc2, hc3⟩ := hG c hcm
    rw [go_eq]
    refine row_w k14.t ?_
    rw [show rowT md.row (xn : Int) = (md.row.getD xn 0 : Nat) by unfold rowT; rw [if_pos (by omega), Int.toNat_natCast]]
    rw [go_eq, CallF_eq]
    refine local_State_Clause.spec k14.t.s (fun j hj => ?_) fun cv bc h15 oc hbc f15 => ?_
    · rw [k14.t.r.ek] at hj
      obtain ⟨D, hD, hDm⟩ := getF hj
      rw [k14.t.r.L j D hD]; have := (hG D hDm).2.2; omega
    rw [if_pos ⟨by omega, by rw [k14.t.r.ek]; omega⟩, Int.toNat_natCast, k14.t.r.L _ c hc] at oc
    have f1315 : Fr Fq h13 h15 := f14.trans (f15.mono (by simp))
    have s15 := s14.fr f15 (by simp)
    rw [go_eq, Len_own oc, List.length_map, go_eq, Bin_gtr]
    by_cases c2 : c = []
    · rw [if_pos c2] at hJ
      subst c2
      rw [decide_eq_false (by simp), If_f]
      exact hJ _ h15 (fin f1315 s15)
    rw [if_neg c2] at hJ
    have hcl : 0 < c.length := List.length_pos_iff.2 c2
    rw [decide_eq_true (by omega), If_t, go_eq, Len_own oc, List.length_map]
    refine Lp_fn (σ := Nat × Value × List Nat) (fun y => [ptr fb, va, ptr sb, ptr h8.size, ptr gr, ptr gq, cv, y.2.1, Iv (i : Nat), cv, Iv (c.length : Nat), Iv (y.1 : Nat)])
      (fun y h' => y.1 ≤ c.length ∧ Own h' y.2.1 ((brs wd.a F (c.take y.1)).map Iv) y.2.2 ∧ (∀ b ∈ y.2.2, h15.size ≤ b) ∧ Fr [] h15 h') (fun y => c.length - y.1) (0, nilS, []) rfl (fun _ => rfl) ⟨Nat.zero_le _, Own.nil h15, by simp, Fr.refl _ _⟩ ?_
    rintro ⟨j, bv, bb⟩ h16 ⟨hj, ob, hbb, f16⟩ Y hY
    simp only at hj ob hbb
    have k16 := (k14.fr f15).fr f16
    have oc16 := (oc.fr f16 (by simp)).rd
    by_cases c3 : (j : Int) < (c.length : Nat)
    · have hg : c[j]? = some (c.getD j 0) := by rw [List.getD_eq_getElem?_getD, List.getElem?_eq_getElem (by omega)]; rfl
      have ax : At (c.map Iv) j (Iv (c.getD j 0)) := At.map (f := Iv) hg
      have hx := hc1 _ (List.mem_of_getElem? hg)
      have htk := get_take hg
      generalize c.getD j 0 = x at *
      obtain ⟨q0, q1, q2⟩ := hx
      have emx := max_abs x
      have hinx : inR n ((x.natAbs : Nat) : Int) := ⟨by omega, by omega⟩
      try simp (disch := first | assumption | omega | (apply At.mk; with_unfolding_all rfl)) only [↓go_eq, ↓ent_eq, Mv, NilC_at, Fld_at, add_mk, Nat.zero_add, Nat.add_zero, Add64, Sub64, Mul64, Quo64, Rem64, Neg64, Cvt64, CvtU8, CvtU16, CvtU32, CvtU64, AddU64, SubU64, MulU64, Shr64, Shr_u8, Shr_u16, Shr_u32, Shr_u64, And1, And31, And32, Eql64, Neq64, Bin_lss, Bin_leq, Bin_gtr, Bin_geq, Bin_bool_eql, Bin_bool_neq, Bin_ptr_nil_eql, Bin_ptr_nil_neq, Not_dec, Un_not, Pick_t, Pick_f, Pick_pos, Pick_neg, Gd_tt, Gd_tf, Gd_ft, Gd_ff, Gd_pos_t, Gd_neg_t, Gd_pos_f, Gd_neg_f, Gd_undef, If_t, If_f, If_pos, If_neg, CallF_eq, Max_two, Min_two, Len_rd, Len_own, Ld_blkE, Idx_rdN, Idx_ownN, Idx_rdE, Idx_ownE, IdxAE, LdA_two, Idx_at0, Ext_atE, Len_at, Int.toNat_natCast, Int.toNat_zero, Int.toNat_one, List.length_map, List.length_append, List.length_cons, List.length_nil, List.length_take, List.length_set, List.length_replicate, Bool.not_true, Bool.not_false, decide_true, decide_false, BEq.rfl, bne_self_eq_false, tf_beq, ft_beq, tf_bne, ft_bne, not_true_eq_false, not_false_eq_true, app]
      rw [emx]
      refine break_w k16.t ?_
      rw [if_pos hinx, Int.toNat_natCast]
      have hbl' : ((brs wd.a F (c.take j)).map Iv).length = j := by unfold brs; rw [List.length_map, List.length_map, List.length_take]; omega
      try simp (disch := first | assumption | omega | (apply At.mk; with_unfolding_all rfl)) only [↓go_eq, ↓ent_eq, Mv, NilC_at, Fld_at, add_mk, Nat.zero_add, Nat.add_zero, Add64, Sub64, Mul64, Quo64, Rem64, Neg64, Cvt64, CvtU8, CvtU16, CvtU32, CvtU64, AddU64, SubU64, MulU64, Shr64, Shr_u8, Shr_u16, Shr_u32, Shr_u64, And1, And31, And32, Eql64, Neq64, Bin_lss, Bin_leq, Bin_gtr, Bin_geq, Bin_bool_eql, Bin_bool_neq, Bin_ptr_nil_eql, Bin_ptr_nil_neq, Not_dec, Un_not, Pick_t, Pick_f, Pick_pos, Pick_neg, Gd_tt, Gd_tf, Gd_ft, Gd_ff, Gd_pos_t, Gd_neg_t, Gd_pos_f, Gd_neg_f, Gd_undef, If_t, If_f, If_pos, If_neg, CallF_eq, Max_two, Min_two, Len_rd, Len_own, Ld_blkE, Idx_rdN, Idx_ownN, Idx_rdE, Idx_ownE, IdxAE, LdA_two, Idx_at0, Ext_atE, Len_at, Int.toNat_natCast, Int.toNat_zero, Int.toNat_one, List.length_map, List.length_append, List.length_cons, List.length_nil, List.length_take, List.length_set, List.length_replicate, Bool.not_true, Bool.not_false, decide_true, decide_false, BEq.rfl, bne_self_eq_false, tf_beq, ft_beq, tf_bne, ft_bne, not_true_eq_false, not_false_eq_true, app]
      refine ob.app1 rfl rfl rfl (by rw [hbl']; omega) (by rw [hbl']; omega) fun v' h17 bs' o17 f17 hb17 => ?_
      try simp (disch := first | assumption | omega | (apply At.mk; with_unfolding_all rfl)) only [↓go_eq, ↓ent_eq, Mv, NilC_at, Fld_at, add_mk, Nat.zero_add, Nat.add_zero, Add64, Sub64, Mul64, Quo64, Rem64, Neg64, Cvt64, CvtU8, CvtU16, CvtU32, CvtU64, AddU64, SubU64, MulU64, Shr64, Shr_u8, Shr_u16, Shr_u32, Shr_u64, And1, And31, And32, Eql64, Neq64, Bin_lss, Bin_leq, Bin_gtr, Bin_geq, Bin_bool_eql, Bin_bool_neq, Bin_ptr_nil_eql, Bin_ptr_nil_neq, Not_dec, Un_not, Pick_t, Pick_f, Pick_pos, Pick_neg, Gd_tt, Gd_tf, Gd_ft, Gd_ff, Gd_pos_t, Gd_neg_t, Gd_pos_f, Gd_neg_f, Gd_undef, If_t, If_f, If_pos, If_neg, CallF_eq, Max_two, Min_two, Len_rd, Len_own, Ld_blkE, Idx_rdN, Idx_ownN, Idx_rdE, Idx_ownE, IdxAE, LdA_two, Idx_at0, Ext_atE, Len_at, Int.toNat_natCast, Int.toNat_zero, Int.toNat_one, List.length_map, List.length_append, List.length_cons, List.length_nil, List.length_take, List.length_set, List.length_replicate, Bool.not_true, Bool.not_false, decide_true, decide_false, BEq.rfl, bne_self_eq_false, tf_beq, ft_beq, tf_bne, ft_bne, not_true_eq_false, not_false_eq_true, app]
      try simp only [show (j : Int) + 1 = ((j + 1 : Nat) : Int) from by omega]
      refine hY (j + 1, v', bs') h17 ⟨by simp only; omega, ?_, fun b hm => ?_, f16.trans' f17 fun b hm => .inr (hbb b hm)⟩ (by simp only; omega)
      · have e : (brs wd.a F (c.take j)).map Iv ++ [Iv (brT wd.a F x.natAbs)] = (brs wd.a F (c.take (j + 1))).map Iv := by rw [htk]; simp [brs]
        rw [← e]; exact o17
      · rcases hb17 b hm with q | q
        · exact hbb b q
        · have := f16.size; omega
    · rw [show c.take j = c from List.take_of_length_le (by omega)] at ob
      have bx : Blk h16 h8.size [Iv kd, Iv bsz, Iv ns] := k16.t.s.sep.is (by omega) ((updR_ne (by omega)).trans eM)
      have s16 := s15.fr f16 (by simp)
      have hbne : brs wd.a F c ≠ [] := by unfold brs; simpa using c2
      have hbl' : (brs wd.a F c).length = c.length := by unfold brs; rw [List.length_map]
      have hpr := pickT_range (s := s') hW hbne
      rw [hbl'] at hpr
      have hFqlt : ∀ b ∈ Fq, b < h15.size := s15.lt
      simp only [app]
      rw [go_eq, Bin_lss, decide_eq_false c3, If_f, go_eq, LdA_three bx, go_eq, CallF_eq]
      refine bradawllaw15_chosen.spec hW hbne (brs_nonneg _ _ _) (by omega) ob.rd s16 (fun h2 f2 => (ob.fr f2 fun b hb hm => by have := hbb b hb; have := hFqlt b hm; omega).rd) (by omega) (by omega) fun h17 s17 f17 => ?_
      have oc17 := oc.fr ((f16.mono (by simp)).trans f17) fun b hb hm => by have := hbc b hb; have := s14.lt b hm; omega
      generalize pickT kd bsz ns (brs wd.a F c) s' = px at *
      obtain ⟨p, s''⟩ := px
      simp only at hpr hJ s17
      have hg : c[p.toNat]? = some (c.getD p.toNat 0) := by rw [List.getD_eq_getElem?_getD, List.getElem?_eq_getElem (by omega)]; rfl
      have ax : At (c.map Iv) p.toNat (Iv (c.getD p.toNat 0)) := At.map (f := Iv) hg
      have hlit := hc1 _ (List.mem_of_getElem? hg)
      have hJf := hJ _ h17 (fin ((f1315.trans (f16.mono (by simp))).trans f17) s17)
      generalize c.getD p.toNat 0 = x at *
      obtain ⟨q0, q1, q2⟩ := hlit
      have emx := max_abs x
      have oc17r := oc17.rd
      rw [← emx] at hJf
      try simp (disch := first | assumption | omega | (apply At.mk; with_unfolding_all rfl)) only [↓go_eq, ↓ent_eq, Mv, NilC_at, Fld_at, add_mk, Nat.zero_add, Nat.add_zero, Add64, Sub64, Mul64, Quo64, Rem64, Neg64, Cvt64, CvtU8, CvtU16, CvtU32, CvtU64, AddU64, SubU64, MulU64, Shr64, Shr_u8, Shr_u16, Shr_u32, Shr_u64, And1, And31, And32, Eql64, Neq64, Bin_lss, Bin_leq, Bin_gtr, Bin_geq, Bin_bool_eql, Bin_bool_neq, Bin_ptr_nil_eql, Bin_ptr_nil_neq, Not_dec, Un_not, Pick_t, Pick_f, Pick_pos, Pick_neg, Gd_tt, Gd_tf, Gd_ft, Gd_ff, Gd_pos_t, Gd_neg_t, Gd_pos_f, Gd_neg_f, Gd_undef, If_t, If_f, If_pos, If_neg, CallF_eq, Max_two, Min_two, Len_rd, Len_own, Ld_blkE, Idx_rdN, Idx_ownN, Idx_rdE, Idx_ownE, IdxAE, LdA_two, Idx_at0, Ext_atE, Len_at, Int.toNat_natCast, Int.toNat_zero, Int.toNat_one, List.length_map, List.length_append, List.length_cons, List.length_nil, List.length_take, List.length_set, List.length_replicate, Bool.not_true, Bool.not_false, decide_true, decide_false, BEq.rfl, bne_self_eq_false, tf_beq, ft_beq, tf_bne, ft_bne, not_true_eq_false, not_false_eq_true, app]
      exact hJf
  · rintro R' h14 ⟨t14, e1, e2, e3, oa14, g14⟩
    have k14 : Wst h6.size h14 (M + 1 + 1 + 1) R' 0 sb n F wd md (M + 1) gr sd Fr1 := ⟨t14, by omega, by omega, e2⟩
    have bx : Blk h14 h8.size [Iv kd, Iv bsz, Iv ns] := t14.s.sep.is (by omega) e1
    simp only [app]
    rw [go_eq, LdA_three bx, go_eq, CallF_eq]
    have wf := W.flip_fl (n := n) (F := F) (w := wd) (v := ((stepT kd bsz ns wd.a F md.row sd).1 : Nat))
    refine walk_Step.spec hW k14 hG ⟨w0, by omega⟩ (by omega) (by omega) fun h15 R3 m3 k15 hR3 f15 er => ?_
    have e31 : R3 M = rBlk h8.size [Iv kd, Iv bsz, Iv ns] := (hR3 M (by omega) (by omega)).trans e1
    have e33 : R3 (M + 2) = rStr gq (stepT kd bsz ns wd.a F md.row sd).2 Fq := (hR3 (M + 2) (by omega) (by omega)).trans e3
    have oa15 := Own.frN oa14 f15 hbalt
    have g15 : Fr ba h6 h15 := FrN.frS f15 g14 (Nat.le_refl _)
    have sq15 := k15.t.s.sep.own (M + 2) (by omega)
    rw [e33] at sq15
    have sq15 : StrAt h15 gq _ Fq := sq15
    have sr15 := k15.str
    generalize hst : stepT kd bsz ns wd.a F md.row sd = st at *
    obtain ⟨vv, st'⟩ := st
    simp only at k15 e33 sq15 sr15 hin sd' wf ⊢
    try simp (disch := first | assumption | omega | (apply At.mk; with_unfolding_all rfl)) only [↓go_eq, ↓ent_eq, Mv, NilC_at, Fld_at, add_mk, Nat.zero_add, Nat.add_zero, Add64, Sub64, Mul64, Quo64, Rem64, Neg64, Cvt64, CvtU8, CvtU16, CvtU32, CvtU64, AddU64, SubU64, MulU64, Shr64, Shr_u8, Shr_u16, Shr_u32, Shr_u64, And1, And31, And32, Eql64, Neq64, Bin_lss, Bin_leq, Bin_gtr, Bin_geq, Bin_bool_eql, Bin_bool_neq, Bin_ptr_nil_eql, Bin_ptr_nil_neq, Not_dec, Un_not, Pick_t, Pick_f, Pick_pos, Pick_neg, Gd_tt, Gd_tf, Gd_ft, Gd_ff, Gd_pos_t, Gd_neg_t, Gd_pos_f, Gd_neg_f, Gd_undef, If_t, If_f, If_pos, If_neg, CallF_eq, Max_two, Min_two, Len_rd, Len_own, Ld_blkE, Idx_rdN, Idx_ownN, Idx_rdE, Idx_ownE, IdxAE, LdA_two, Idx_at0, Ext_atE, Len_at, Int.toNat_natCast, Int.toNat_zero, Int.toNat_one, List.length_map, List.length_append, List.length_cons, List.length_nil, List.length_take, List.length_set, List.length_replicate, Bool.not_true, Bool.not_false, decide_true, decide_false, BEq.rfl, bne_self_eq_false, tf_beq, ft_beq, tf_bne, ft_bne, not_true_eq_false, not_false_eq_true, app]
    refine drawn_q sr15 ?_
    try simp (disch := first | assumption | omega | (apply At.mk; with_unfolding_all rfl)) only [↓go_eq, ↓ent_eq, Mv, NilC_at, Fld_at, add_mk, Nat.zero_add, Nat.add_zero, Add64, Sub64, Mul64, Quo64, Rem64, Neg64, Cvt64, CvtU8, CvtU16, CvtU32, CvtU64, AddU64, SubU64, MulU64, Shr64, Shr_u8, Shr_u16, Shr_u32, Shr_u64, And1, And31, And32, Eql64, Neq64, Bin_lss, Bin_leq, Bin_gtr, Bin_geq, Bin_bool_eql, Bin_bool_neq, Bin_ptr_nil_eql, Bin_ptr_nil_neq, Not_dec, Un_not, Pick_t, Pick_f, Pick_pos, Pick_neg, Gd_tt, Gd_tf, Gd_ft, Gd_ff, Gd_pos_t, Gd_neg_t, Gd_pos_f, Gd_neg_f, Gd_undef, If_t, If_f, If_pos, If_neg, CallF_eq, Max_two, Min_two, Len_rd, Len_own, Ld_blkE, Idx_rdN, Idx_ownN, Idx_rdE, Idx_ownE, IdxAE, LdA_two, Idx_at0, Ext_atE, Len_at, Int.toNat_natCast, Int.toNat_zero, Int.toNat_one, List.length_map, List.length_append, List.length_cons, List.length_nil, List.length_take, List.length_set, List.length_replicate, Bool.not_true, Bool.not_false, decide_true, decide_false, BEq.rfl, bne_self_eq_false, tf_beq, ft_beq, tf_bne, ft_bne, not_true_eq_false, not_false_eq_true, app]
    refine drawn_q sq15 ?_
    try simp (disch := first | assumption | omega | (apply At.mk; with_unfolding_all rfl)) only [↓go_eq, ↓ent_eq, Mv, NilC_at, Fld_at, add_mk, Nat.zero_add, Nat.add_zero, Add64, Sub64, Mul64, Quo64, Rem64, Neg64, Cvt64, CvtU8, CvtU16, CvtU32, CvtU64, AddU64, SubU64, MulU64, Shr64, Shr_u8, Shr_u16, Shr_u32, Shr_u64, And1, And31, And32, Eql64, Neq64, Bin_lss, Bin_leq, Bin_gtr, Bin_geq, Bin_bool_eql, Bin_bool_neq, Bin_ptr_nil_eql, Bin_ptr_nil_neq, Not_dec, Un_not, Pick_t, Pick_f, Pick_pos, Pick_neg, Gd_tt, Gd_tf, Gd_ft, Gd_ff, Gd_pos_t, Gd_neg_t, Gd_pos_f, Gd_neg_f, Gd_undef, If_t, If_f, If_pos, If_neg, CallF_eq, Max_two, Min_two, Len_rd, Len_own, Ld_blkE, Idx_rdN, Idx_ownN, Idx_rdE, Idx_ownE, IdxAE, LdA_two, Idx_at0, Ext_atE, Len_at, Int.toNat_natCast, Int.toNat_zero, Int.toNat_one, List.length_map, List.length_append, List.length_cons, List.length_nil, List.length_take, List.length_set, List.length_replicate, Bool.not_true, Bool.not_false, decide_true, decide_false, BEq.rfl, bne_self_eq_false, tf_beq, ft_beq, tf_bne, ft_bne, not_true_eq_false, not_false_eq_true, app]
    refine Jn_fn (σ := Unit) (fun _ => [ptr fb, va, ptr sb, ptr h8.size, ptr gr, ptr gq, Iv (i : Nat)]) (fun _ h' => St4 h6.size h' (M + 1 + 1 + 1) R3 0 sb n F (wd.flip n F (vv : Nat)) m3 ∧ Own h' va ((wd.flip n F (vv : Nat)).a.map .bool) ba ∧ Fr ba h6 h') ?_ ?_
    · intro J hJ
      by_cases c2 : (vv : Int) > 0
      · have ci : inR n ((vv : Nat) : Int) := by
          rcases hin with q | q
          · omega
          · exact q
        have t15 := k15.t
        unfold W.flip at t15 hJ
        rw [if_pos ci] at t15 hJ
        obtain ⟨ci1, ci2⟩ := ci
        have ex : ((vv : Int) - 1).toNat = vv - 1 := by omega
        have a7 := bool_atD (a := wd.a) (i := ((vv : Int) - 1).toNat) (by omega)
        have oa15r := oa15.rd
        try simp (disch := first | assumption | omega | (apply At.mk; with_unfolding_all rfl)) only [↓go_eq, ↓ent_eq, Mv, NilC_at, Fld_at, add_mk, Nat.zero_add, Nat.add_zero, Add64, Sub64, Mul64, Quo64, Rem64, Neg64, Cvt64, CvtU8, CvtU16, CvtU32, CvtU64, AddU64, SubU64, MulU64, Shr64, Shr_u8, Shr_u16, Shr_u32, Shr_u64, And1, And31, And32, Eql64, Neq64, Bin_lss, Bin_leq, Bin_gtr, Bin_geq, Bin_bool_eql, Bin_bool_neq, Bin_ptr_nil_eql, Bin_ptr_nil_neq, Not_dec, Un_not, Pick_t, Pick_f, Pick_pos, Pick_neg, Gd_tt, Gd_tf, Gd_ft, Gd_ff, Gd_pos_t, Gd_neg_t, Gd_pos_f, Gd_neg_f, Gd_undef, If_t, If_f, If_pos, If_neg, CallF_eq, Max_two, Min_two, Len_rd, Len_own, Ld_blkE, Idx_rdN, Idx_ownN, Idx_rdE, Idx_ownE, IdxAE, LdA_two, Idx_at0, Ext_atE, Len_at, Int.toNat_natCast, Int.toNat_zero, Int.toNat_one, List.length_map, List.length_append, List.length_cons, List.length_nil, List.length_take, List.length_set, List.length_replicate, Bool.not_true, Bool.not_false, decide_true, decide_false, BEq.rfl, bne_self_eq_false, tf_beq, ft_beq, tf_bne, ft_bne, not_true_eq_false, not_false_eq_true, app]
        refine oa15.put (by omega) (by rw [List.length_map]; omega) rfl fun h16 oa16 f16 _ => ?_
        rw [bool_set, ex] at oa16
        have ev : ((vv : Nat) : Int).toNat = vv := Int.toNat_natCast vv
        rw [ev] at hJ t15
        change Own h16 va ((flp wd.a vv).map .bool) ba at oa16
        have t16 := t15.frN f16 hbalt
        try simp (disch := first | assumption | omega | (apply At.mk; with_unfolding_all rfl)) only [↓go_eq, ↓ent_eq, Mv, NilC_at, Fld_at, add_mk, Nat.zero_add, Nat.add_zero, Add64, Sub64, Mul64, Quo64, Rem64, Neg64, Cvt64, CvtU8, CvtU16, CvtU32, CvtU64, AddU64, SubU64, MulU64, Shr64, Shr_u8, Shr_u16, Shr_u32, Shr_u64, And1, And31, And32, Eql64, Neq64, Bin_lss, Bin_leq, Bin_gtr, Bin_geq, Bin_bool_eql, Bin_bool_neq, Bin_ptr_nil_eql, Bin_ptr_nil_neq, Not_dec, Un_not, Pick_t, Pick_f, Pick_pos, Pick_neg, Gd_tt, Gd_tf, Gd_ft, Gd_ff, Gd_pos_t, Gd_neg_t, Gd_pos_f, Gd_neg_f, Gd_undef, If_t, If_f, If_pos, If_neg, CallF_eq, Max_two, Min_two, Len_rd, Len_own, Ld_blkE, Idx_rdN, Idx_ownN, Idx_rdE, Idx_ownE, IdxAE, LdA_two, Idx_at0, Ext_atE, Len_at, Int.toNat_natCast, Int.toNat_zero, Int.toNat_one, List.length_map, List.length_append, List.length_cons, List.length_nil, List.length_take, List.length_set, List.length_replicate, Bool.not_true, Bool.not_false, decide_true, decide_false, BEq.rfl, bne_self_eq_false, tf_beq, ft_beq, tf_bne, ft_bne, not_true_eq_false, not_false_eq_true, app]
        exact hJ () h16 ⟨t16, oa16, g15.trans f16⟩
      · have ez : vv = 0 := by omega
        subst ez
        have t15 := k15.t
        unfold W.flip at t15 hJ
        rw [if_neg (fun q => by have := q.1; omega)] at t15 hJ
        try simp (disch := first | assumption | omega | (apply At.mk; with_unfolding_all rfl)) only [↓go_eq, ↓ent_eq, Mv, NilC_at, Fld_at, add_mk, Nat.zero_add, Nat.add_zero, Add64, Sub64, Mul64, Quo64, Rem64, Neg64, Cvt64, CvtU8, CvtU16, CvtU32, CvtU64, AddU64, SubU64, MulU64, Shr64, Shr_u8, Shr_u16, Shr_u32, Shr_u64, And1, And31, And32, Eql64, Neq64, Bin_lss, Bin_leq, Bin_gtr, Bin_geq, Bin_bool_eql, Bin_bool_neq, Bin_ptr_nil_eql, Bin_ptr_nil_neq, Not_dec, Un_not, Pick_t, Pick_f, Pick_pos, Pick_neg, Gd_tt, Gd_tf, Gd_ft, Gd_ff, Gd_pos_t, Gd_neg_t, Gd_pos_f, Gd_neg_f, Gd_undef, If_t, If_f, If_pos, If_neg, CallF_eq, Max_two, Min_two, Len_rd, Len_own, Ld_blkE, Idx_rdN, Idx_ownN, Idx_rdE, Idx_ownE, IdxAE, LdA_two, Idx_at0, Ext_atE, Len_at, Int.toNat_natCast, Int.toNat_zero, Int.toNat_one, List.length_map, List.length_append, List.length_cons, List.length_nil, List.length_take, List.length_set, List.length_replicate, Bool.not_true, Bool.not_false, decide_true, decide_false, BEq.rfl, bne_self_eq_false, tf_beq, ft_beq, tf_bne, ft_bne, not_true_eq_false, not_false_eq_true, app]
        exact hJ () h15 ⟨t15, oa15, g15⟩
    · rintro - h16 ⟨t16, oa16, g16⟩
      have b16 := b6.fr g16 hbab
      have oF16 := oF6.frd g16 hbaF hbaP
      have al16 := t16.al
      try simp (disch := first | assumption | omega | (apply At.mk; with_unfolding_all rfl)) only [↓go_eq, ↓ent_eq, Mv, NilC_at, Fld_at, add_mk, Nat.zero_add, Nat.add_zero, Add64, Sub64, Mul64, Quo64, Rem64, Neg64, Cvt64, CvtU8, CvtU16, CvtU32, CvtU64, AddU64, SubU64, MulU64, Shr64, Shr_u8, Shr_u16, Shr_u32, Shr_u64, And1, And31, And32, Eql64, Neq64, Bin_lss, Bin_leq, Bin_gtr, Bin_geq, Bin_bool_eql, Bin_bool_neq, Bin_ptr_nil_eql, Bin_ptr_nil_neq, Not_dec, Un_not, Pick_t, Pick_f, Pick_pos, Pick_neg, Gd_tt, Gd_tf, Gd_ft, Gd_ff, Gd_pos_t, Gd_neg_t, Gd_pos_f, Gd_neg_f, Gd_undef, If_t, If_f, If_pos, If_neg, CallF_eq, Max_two, Min_two, Len_rd, Len_own, Ld_blkE, Idx_rdN, Idx_ownN, Idx_rdE, Idx_ownE, IdxAE, LdA_two, Idx_at0, Ext_atE, Len_at, Int.toNat_natCast, Int.toNat_zero, Int.toNat_one, List.length_map, List.length_append, List.length_cons, List.length_nil, List.length_take, List.length_set, List.length_replicate, Bool.not_true, Bool.not_false, decide_true, decide_false, BEq.rfl, bne_self_eq_false, tf_beq, ft_beq, tf_bne, ft_bne, not_true_eq_false, not_false_eq_true, app]
      refine unsat_w t16 ?_
      try simp (disch := first | assumption | omega | (apply At.mk; with_unfolding_all rfl)) only [↓go_eq, ↓ent_eq, Mv, NilC_at, Fld_at, add_mk, Nat.zero_add, Nat.add_zero, Add64, Sub64, Mul64, Quo64, Rem64, Neg64, Cvt64, CvtU8, CvtU16, CvtU32, CvtU64, AddU64, SubU64, MulU64, Shr64, Shr_u8, Shr_u16, Shr_u32, Shr_u64, And1, And31, And32, Eql64, Neq64, Bin_lss, Bin_leq, Bin_gtr, Bin_geq, Bin_bool_eql, Bin_bool_neq, Bin_ptr_nil_eql, Bin_ptr_nil_neq, Not_dec, Un_not, Pick_t, Pick_f, Pick_pos, Pick_neg, Gd_tt, Gd_tf, Gd_ft, Gd_ff, Gd_pos_t, Gd_neg_t, Gd_pos_f, Gd_neg_f, Gd_undef, If_t, If_f, If_pos, If_neg, CallF_eq, Max_two, Min_two, Len_rd, Len_own, Ld_blkE, Idx_rdN, Idx_ownN, Idx_rdE, Idx_ownE, IdxAE, LdA_two, Idx_at0, Ext_atE, Len_at, Int.toNat_natCast, Int.toNat_zero, Int.toNat_one, List.length_map, List.length_append, List.length_cons, List.length_nil, List.length_take, List.length_set, List.length_replicate, Bool.not_true, Bool.not_false, decide_true, decide_false, BEq.rfl, bne_self_eq_false, tf_beq, ft_beq, tf_bne, ft_bne, not_true_eq_false, not_false_eq_true, app]
      try rw [LdA_two b16]
      refine unsat_a (by omega) (by omega) hcl1 hok oF16.rdl oa16.rd al16 fun h17 f17 => ?_
      rw [hFF]
      have t17 := t16.fr f17
      try simp (disch := first | assumption | omega | (apply At.mk; with_unfolding_all rfl)) only [↓go_eq, ↓ent_eq, Mv, NilC_at, Fld_at, add_mk, Nat.zero_add, Nat.add_zero, Add64, Sub64, Mul64, Quo64, Rem64, Neg64, Cvt64, CvtU8, CvtU16, CvtU32, CvtU64, AddU64, SubU64, MulU64, Shr64, Shr_u8, Shr_u16, Shr_u32, Shr_u64, And1, And31, And32, Eql64, Neq64, Bin_lss, Bin_leq, Bin_gtr, Bin_geq, Bin_bool_eql, Bin_bool_neq, Bin_ptr_nil_eql, Bin_ptr_nil_neq, Not_dec, Un_not, Pick_t, Pick_f, Pick_pos, Pick_neg, Gd_tt, Gd_tf, Gd_ft, Gd_ff, Gd_pos_t, Gd_neg_t, Gd_pos_f, Gd_neg_f, Gd_undef, If_t, If_f, If_pos, If_neg, CallF_eq, Max_two, Min_two, Len_rd, Len_own, Ld_blkE, Idx_rdN, Idx_ownN, Idx_rdE, Idx_ownE, IdxAE, LdA_two, Idx_at0, Ext_atE, Len_at, Int.toNat_natCast, Int.toNat_zero, Int.toNat_one, List.length_map, List.length_append, List.length_cons, List.length_nil, List.length_take, List.length_set, List.length_replicate, Bool.not_true, Bool.not_false, decide_true, decide_false, BEq.rfl, bne_self_eq_false, tf_beq, ft_beq, tf_bne, ft_bne, not_true_eq_false, not_false_eq_true, app]
      try simp only [show (i : Int) + 1 = ((i + 1 : Nat) : Int) from by omega]
      exact hX (i + 1, _, m3, R3, st') h17 ⟨show i + 1 ≤ 12 by omega, t17, e31, k15.rq, e33, oa16.fr f17 (by simp), Int.le_trans w0 wf.1, show (W.flip n F wd (vv : Nat)).fl ≤ ((i + 1 : Nat) : Int) by omega, show st'.d ≤ 3 * (i + 1) by omega, sd'.2.2.1.trans hws, g16.trans (f17.mono (by simp))⟩ (show 12 - (i + 1) < 12 - i by omega)
theorem bradawllaw15_WalkSteps.law {h : Heap} {a0 : Int × List (List Int)} {cs : Array Value} {a1 : List Int} {cs1 : Array Value} {a2 : List Int} {v2 : Value} (r0 : rRaw.is h a0 cs.toList) (r1 : (rArr 3 (rInt .u32) 1).is h a1 cs1.toList) (r2 : (rSlice (rInt .u64) 1).is h a2 [v2]) :
    CallH Try.prog bradawllaw15_WalkSteps.id #[.agg cs, .agg cs1, v2] (fun v h' => v = .bool true ∧ Fr [] h h') h := by
  obtain ⟨v, ws, rfl, h1, h2, h3⟩ := raw_arg r0
  obtain ⟨x, y, z, rfl, hx, hy, hz⟩ := triple_arg r1
  exact bradawllaw15_WalkSteps.spec h1 hx hy hz h2 h3 (words_arg r2) fun h' f => ⟨rfl, f⟩
end Go.Proofs.Ytonngdjfnnibaaa
