/- The law WalkNoises. No condition but that the arguments lie in memory, laid by Go. -/
import Derived.Test.YtonngdjfnnibaaaWk6
import Derived.Test.YtonngdjfnnibaaaPtR
namespace Go.Proofs.Ytonngdjfnnibaaa
open Go.Pt
set_option linter.unusedVariables false
set_option linter.unusedSimpArgs false
def rMap (b : Nat) (k : IntKind) (m : List (Int × Value)) : Res := ⟨fun h => MapAt h b k m, [b], fun o f hS => MapAt.fr o f (hS b (by simp)), fun o b' hb => by simp at hb; rw [hb]; exact MapAt.lt o, fun o f => MapAt.one o f⟩
theorem lookup_range (f : Nat → Value) (v : Int) : ∀ i : Nat, ((List.range i).map fun q : Nat => (((q + 1 : Nat) : Int), f q)).lookup v = if 1 ≤ v ∧ v ≤ i then some (f (v.toNat - 1)) else none
  | 0 => by rw [if_neg (by omega)]; rfl
  | i + 1 => by
    rw [List.range_succ, List.map_append, List.lookup_append, lookup_range f v i]
    by_cases c : 1 ≤ v ∧ v ≤ i
    · rw [if_pos c, if_pos (by omega)]; rfl
    · rw [if_neg c]
      by_cases e : v = ((i + 1 : Nat) : Int)
      · subst e
        rw [if_pos (by omega), show (((i + 1 : Nat) : Int)).toNat - 1 = i by omega]
        simp [List.lookup]
      · rw [if_neg (by omega)]
        have : (v == ((i + 1 : Nat) : Int)) = false := by simpa using e
        simp only [List.map_cons, List.map_nil, List.lookup, this]
        rfl
theorem stepT_noise {n : Nat} {noise : Int} {a : List Bool} {F : List (List Int)} {row : List Nat} {s : Str} (hno : noise = 0 ∨ noise = 1000) (hG : GF n F) (ro : RowOk n a F row) (hr : row.length ≠ 0) :
    ((stepT 2 0 noise a F row s).1 = 0 ∧ (stepT 2 0 noise a F row s).2.d = s.d + 1) ∨ (inR n ((stepT 2 0 noise a F row s).1 : Nat) ∧ ((brT a F (stepT 2 0 noise a F row s).1 = 0 ∧ (stepT 2 0 noise a F row s).2.d = s.d + 1) ∨ (brT a F (stepT 2 0 noise a F row s).1 ≠ 0 ∧ (noise = 0 → (stepT 2 0 noise a F row s).2.d = s.d + 2) ∧ (noise = 1000 → (stepT 2 0 noise a F row s).2.d = s.d + 3)))) := by
  have hW : WOk 2 0 noise := .inr ⟨rfl, rfl, by omega, by omega⟩
  have hin := stepT_in (s := s) hW hG ro
  unfold stepT at hin ⊢
  rw [if_neg hr] at hin ⊢
  have hbl := s.below_lt (n := row.length) (by omega)
  have hbd := s.below_d (n := row.length) (by omega)
  have hi : (s.below row.length).1.toNat < row.length := by omega
  have hm : row.getD (s.below row.length).1.toNat 0 ∈ row := by
    rw [List.getD_eq_getElem?_getD, List.getElem?_eq_getElem hi]; exact List.getElem_mem hi
  obtain ⟨c, hc, _⟩ := (ro.2.1 _).1 hm
  have hcD : F.getD (row.getD (s.below row.length).1.toNat 0) [] = c := by rw [List.getD_eq_getElem?_getD, hc]; rfl
  rw [hcD] at hin ⊢
  generalize (s.below row.length).2 = s1 at *
  by_cases c1 : c = []
  · rw [if_pos c1]; exact .inl ⟨rfl, hbd⟩
  rw [if_neg c1] at hin ⊢
  have hl : (brs a F c).length = c.length := by unfold brs; rw [List.length_map]
  have hbne : brs a F c ≠ [] := by unfold brs; simpa using c1
  have hpr := pickT_range (s := s1) hW hbne
  rw [hl] at hpr
  have hnn := brs_nonneg a F c
  have hval : ∀ p : Nat, p < c.length → (brs a F c).getD p 0 = brT a F (c.getD p 0).natAbs := by
    intro p hp
    unfold brs
    rw [List.getD_eq_getElem?_getD, List.getElem?_map, List.getElem?_eq_getElem hp, List.getD_eq_getElem?_getD, List.getElem?_eq_getElem hp]; rfl
  have hne : ∀ p : Nat, p < c.length → (c.getD p 0).natAbs ≠ 0 := by
    intro p hp
    have hx : c.getD p 0 ∈ c := by rw [List.getD_eq_getElem?_getD, List.getElem?_eq_getElem hp]; exact List.getElem_mem _
    have := ((hG c (someF hc).2).1 _ hx).1
    omega
  have hmin := bestI_le (brs a F c) (brs a F c).length
  have hblt := bestI_lt hbne _ (Nat.le_refl _)
  rw [hl] at hmin hblt
  simp only at hin ⊢
  have hin := hin.resolve_left (hne _ (by omega))
  refine .inr ⟨hin, ?_⟩
  rw [← hval _ (by omega)]
  clear hin hval hne
  unfold pickT noisyT at hpr ⊢
  rw [if_pos rfl] at hpr ⊢
  rw [hl] at hpr ⊢
  have h1 := s1.below_d (n := 1000) (by decide)
  have h1' := s1.below_lt (n := 1000) (by decide)
  have h2 := (s1.below 1000).2.below_d (n := c.length) (by have := List.length_pos_iff.2 c1; omega)
  by_cases c2 : 0 < (brs a F c).getD (bestI (brs a F c) c.length) 0
  · rw [if_pos c2] at hpr ⊢
    rcases hno with rfl | rfl
    · rw [if_neg (by omega)] at hpr ⊢
      refine .inr ⟨?_, fun _ => by simp only; omega, fun q => by omega⟩
      simp only [Int.toNat_natCast]; omega
    · rw [if_pos (by omega)] at hpr ⊢
      refine .inr ⟨?_, fun q => by omega, fun _ => by omega⟩
      have := hmin _ (show ((s1.below 1000).2.below (c.length : Int)).1.toNat < c.length by omega)
      omega
  · rw [if_neg c2] at hpr ⊢
    refine .inl ⟨?_, by simp only; omega⟩
    have := hnn _ (getD_mem (xs := brs a F c) (i := bestI (brs a F c) c.length) (by omega))
    simp only [Int.toNat_natCast]; omega
set_option maxHeartbeats 8000000 in
theorem bradawllaw15_WalkNoises.spec {a x0 x1 x2 : Int} {xss : List (List Int)} {ws : List Value} {v wv : Value} {wl : List W64} (ha : 0 ≤ a ∧ a ≤ 255) (hx0 : 0 ≤ x0 ∧ x0 ≤ 4294967295) (hx1 : 0 ≤ x1 ∧ x1 ≤ 4294967295) (hx2 : 0 ≤ x2 ∧ x2 ≤ 4294967295) (hcl : ∀ c ∈ xss, c.length ≤ 140737488351232) {K : Ret} {h : Heap} (hv : RdX (.int .i16) h v xss ws) (hw : Rd h wv (wl.map U))
    (hk : ∀ h', Fr [] h h' → K (.bool true) h') : CallH Try.prog bradawllaw15_WalkNoises.id #[.agg #[.int .u8 a, v], .agg #[.int .u32 x0, .int .u32 x1, .int .u32 x2], wv] K h := by
  refine bradawllaw15_WalkNoises.ok ?_
  simp only [bradawllaw15_WalkNoises.pt]
  rw [go_eq]
  refine New_blk fun h1 b1 f1 s1 => ?_
  have b1 : Blk h1 h.size [.int .u8 a, v] := b1
  rw [go_eq]
  refine New_blk fun h2 b2 f2 s2 => ?_
  have b2 : Blk h2 h1.size [.int .u32 x0, .int .u32 x1, .int .u32 x2] := b2
  rw [go_eq, CallF_eq]
  refine bradawllaw15_fit.spec fun h3 f3 => ?_
  have f03 := (f1.trans f2).trans f3
  rw [go_eq, Un_not, Bool.not_true, If_f]
  refine wk_light hcl ((b1.fr f2 (by simp)).fr f3 (by simp)) (hv.fr f03) (hw.fr f03) (fun h4 f4 => hk h4 (f03.trans f4)) fun h4 f4 hL1 hL2 hwl => ?_
  have f04 := f03.trans f4
  have b4 := (b2.fr f3 (by simp)).fr f4 (by simp)
  have br4 := ((b1.fr f2 (by simp)).fr f3 (by simp)).fr f4 (by simp)
  refine wk_form (vars := 12) (by decide) ha hL1 hL2 br4 (hv.fr f04) fun n cs fb u wf h5 hn hok hlen hcl9 b5 hfb rf5 f5 => ?_
  have f05 := f04.trans f5
  have bn5 := b4.fr f5 (by simp)
  have a0 : At [Value.int .u32 x0, .int .u32 x1, .int .u32 x2] (0 + (0 : Int).toNat) (.int .u32 x0) := ⟨rfl⟩
  have a1 : At [Value.int .u32 x0, .int .u32 x1, .int .u32 x2] (0 + (1 : Int).toNat) (.int .u32 x1) := ⟨rfl⟩
  have a2 : At [Value.int .u32 x0, .int .u32 x1, .int .u32 x2] (0 + (2 : Int).toNat) (.int .u32 x2) := ⟨rfl⟩
  have af : At [Iv n, u] 0 (Iv n) := ⟨rfl⟩
  have hcl1 : ∀ c ∈ cs, c.length ≤ 1000 := fun c hc => by have := hcl9 c hc; omega
  have hG := GF_fmT (n := n) hok hcl1
  refine Jn_fn (σ := Nat × LMod × (Nat → Res) × Nat × Nat × W) (fun x => [wv, ptr h1.size, ptr fb, ptr x.1, Iv 0]) (fun x h' => St4 x.2.2.2.2.1 h' x.2.2.2.1 x.2.2.1 0 x.1 n (fmT cs) x.2.2.2.2.2 x.2.1 ∧ x.2.2.2.2.2.fl = 0 ∧ h5.size ≤ x.2.2.2.2.1 ∧ Fr [] h5 h') ?_ ?_
  · intro J hJ
    rw [go_eq, Fld_at, go_eq, add_mk, Ld_blkE b5 af, go_eq, IdxAE (by decide) (by decide), go_eq, Ld_blkE bn5 a0]
    refine And.intro ?_ ?_
    · rw [go_eq, LdA_two b5, go_eq, CallF_eq]
      refine bradawllaw14_Start.spec (by omega) hx0 fun va ba h6 o6 hb6 f6 => ?_
      rw [go_eq, CallF_eq]
      refine local_New.spec' (by omega) (by omega) hcl1 hok (rf5.fr f6) o6.rd (stT_len n x0) fun h7 sb M R m t7 f7 => ?_
      rw [go_eq, Ext_atE ⟨rfl⟩, go_eq, Ext_atE ⟨rfl⟩]
      exact hJ (sb, m, R, M, h6.size, _) h7 ⟨t7, rfl, f6.size, f6.trans f7⟩
    · rw [go_eq, CallF_eq]
      refine bradawllaw14_Start.spec (by omega) hx0 fun va ba h6 o6 hb6 f6 => ?_
      rw [go_eq, LdA_two (b5.fr f6 (by simp)), go_eq, CallF_eq]
      refine local_New.spec' (by omega) (by omega) hcl1 hok (rf5.fr f6) o6.rd (stT_len n x0) fun h7 sb M R m t7 f7 => ?_
      rw [go_eq, Ext_atE ⟨rfl⟩, go_eq, Ext_atE ⟨rfl⟩]
      exact hJ (sb, m, R, M, h6.size, _) h7 ⟨t7, rfl, f6.size, f6.trans f7⟩
  rintro ⟨sb, m, R, M, N, w⟩ h6 ⟨t6, hwf, hN, f56⟩
  simp only at t6 hwf hN
  have bn6 := bn5.fr f56 (by simp)
  have b6 := b5.fr f56 (by simp)
  simp only [app]
  rw [go_eq, Neq64, decide_eq_false (by simp), go_eq, Gd_ff, Mv, go_eq, Gd_ff, Bin_ptr_nil_eql, go_eq, Pick_f, If_f]
  refine Jn_fn (σ := Int) (fun x => [wv, ptr h1.size, ptr fb, ptr sb, Iv x]) (fun x h' => (x = 0 ∨ x = 1000) ∧ h6 = h') ?_ ?_
  · intro J hJ
    rw [go_eq, IdxAE (by decide) (by decide), go_eq, Ld_blkE bn6 a1, go_eq, And1, go_eq, Eql64]
    by_cases c : x1 % 2 = 1
    · rw [If_pos c]; exact hJ 1000 h6 ⟨.inr rfl, rfl⟩
    · rw [If_neg c]; exact hJ 0 h6 ⟨.inl rfl, rfl⟩
  rintro noise h7 ⟨hno, rfl⟩
  have hW : WOk 2 0 noise := .inr ⟨rfl, rfl, by omega, by omega⟩
  simp only [app]
  rw [go_eq, IdxAE (by decide) (by decide), go_eq, Ld_blkE bn6 a2, go_eq, Cvt_u64, go_eq]
  refine new_a (hw.fr (f05.trans f56)) (by omega) fun g h7 Fp hs f7 hFp => ?_
  have t7 := t6.more (r := rStr g _ Fp) f7 hs hFp
  have hM := t6.s.hM
  have f57 := f56.trans f7
  generalize fmT cs = F at *
  refine Lp_fn (σ := Nat × W × LMod × (Nat → Res) × Str) (fun x => [ptr fb, ptr sb, Iv noise, ptr g, Iv (x.1 : Nat)])
    (fun x h' => x.1 ≤ 15 ∧ Wst N h' (M + 1) x.2.2.2.1 0 sb n F x.2.1 x.2.2.1 M g x.2.2.2.2 Fp ∧ 0 ≤ x.2.1.fl ∧ x.2.1.fl ≤ x.1 ∧ x.2.2.2.2.d ≤ 3 * x.1 ∧ x.2.2.2.2.ws = wl ∧ Fr [] h5 h') (fun x => 15 - x.1)
    (0, w, m, _, ⟨wl, seedOf (BitVec.ofInt 64 x2), 0⟩) rfl (fun _ => rfl) ⟨Nat.zero_le _, ⟨t7, by omega, by omega, updR_at _ _ _⟩, by simp only; omega, by simp only; omega, Nat.le_refl _, rfl, f57⟩ ?_
  clear t6 t7 hs b6 bn6 bn5 b4 br4 b1 b2
  rintro ⟨i, wd, md, Rd', sd⟩ h8 ⟨hi, k8, w0, w1, hd, hws, f58⟩ X hX
  simp only at hi k8 w0 w1 hd hws
  have hwsl : sd.ws.length ≤ 60 := by rw [hws]; exact hwl
  simp only [app]
  rw [go_eq, Bin_lss]
  by_cases c1 : (i : Int) < 15
  rotate_left
  · rw [decide_eq_false c1, If_f]
    exact hk h8 (f05.trans f58)
  rw [decide_eq_true c1, If_t]
  have hstd := stepT_d 2 0 noise wd.a F md.row sd
  have wf := W.flip_fl (n := n) (F := F) (w := wd) (v := ((stepT 2 0 noise wd.a F md.row sd).1 : Nat))
  refine Jn_fn (σ := LMod × (Nat → Res)) (fun _ => [ptr fb, ptr sb, Iv noise, ptr g, Iv (i : Nat)]) (fun x h' => Wst N h' (M + 1) x.2 0 sb n F (wd.flip n F ((stepT 2 0 noise wd.a F md.row sd).1 : Nat)) x.1 M g (stepT 2 0 noise wd.a F md.row sd).2 Fp ∧ Fr [] h5 h') ?_ ?_
  · intro J hJ
    rw [go_eq]
    refine MkM_map (k := .i64) fun h9 m9 f9 z9 => ?_
    have k9 := k8.more (r := rMap h8.size .i64 []) f9 m9 (by simp [rMap])
    have nN := k8.t.s.nN
    refine Lp_fn (σ := Nat × (Nat → Res)) (fun x => [ptr fb, ptr sb, Iv noise, ptr g, .map (some h8.size), Iv ((x.1 : Nat) + 1 : Int), Iv (i : Nat)])
      (fun x h' => x.1 ≤ n ∧ Wst N h' (M + 1 + 1) x.2 0 sb n F wd md M g sd Fp ∧ x.2 (M + 1) = rMap h8.size .i64 ((List.range x.1).map fun q : Nat => (((q + 1 : Nat) : Int), Iv (brT wd.a F (q + 1)))) ∧ Fr [] h5 h') (fun x => n - x.1)
      (0, _) rfl (fun _ => rfl) ⟨Nat.zero_le _, k9, updR_at _ _ _, f58.trans f9⟩ ?_
    rintro ⟨j, Rj⟩ h10 ⟨hj, k10, eM, f510⟩ Y hY
    simp only at hj k10 eM
    have b10 := b5.fr f510 (by simp)
    have mp : MapAt h10 h8.size .i64 _ := k10.t.s.sep.is (by omega) eM
    simp only [app]
    rw [go_eq, Fld_at, go_eq, add_mk, Ld_blkE b10 af, go_eq, Bin_leq]
    by_cases c2 : ((j : Nat) : Int) + 1 ≤ (n : Int)
    · rw [decide_eq_true c2, If_t, go_eq]
      refine break_w k10.t ?_
      rw [if_pos ⟨by omega, c2⟩, show (((j : Nat) : Int) + 1).toNat = j + 1 by omega, go_eq]
      refine MUpd_new mp (by rw [lookup_range (fun q => Iv (brT wd.a F (q + 1))), if_neg (by omega)]) fun h11 m11 f11 z11 => ?_
      have k11 : Wst N h11 (M + 1 + 1) (updR Rj (M + 1) (rMap h8.size .i64 ((List.range (j + 1)).map fun q : Nat => (((q + 1 : Nat) : Int), Iv (brT wd.a F (q + 1)))))) 0 sb n F wd md M g sd Fp := by
        refine ⟨k10.t.putq (by omega) (by omega) (by rw [eM]; exact f11) ?_ (by rw [eM]; exact fun b hb => .inl hb), by omega, k10.qo, (updR_ne (by omega)).trans k10.rq⟩
        show MapAt _ _ _ _
        rw [List.range_succ, List.map_append]
        exact m11
      rw [go_eq, Add64 _ (by omega) (by omega)]
      have e1 : ((j : Nat) : Int) + 1 + 1 = ((j + 1 : Nat) : Int) + 1 := by omega
      rw [e1]
      exact hY (j + 1, _) h11 ⟨by simp only; omega, k11, updR_at _ _ _, f510.trans' f11 fun b hb => .inr (by simp at hb; have := f58.size; omega)⟩ (by simp only; omega)
    · have ej : j = n := by omega
      subst ej
      rw [decide_eq_false c2, If_f, go_eq]
      refine unsat_m k10.t ?_
      rw [go_eq]
      refine drawn_q k10.str ?_
      rw [go_eq, bld_way02, go_eq, CallF_eq]
      refine walk_Step.spec hW k10 hG ⟨w0, by omega⟩ (by omega) (by omega) fun h11 R3 m3 k11 hR3 f11 er => ?_
      have e3 : R3 (M + 1) = _ := (hR3 (M + 1) (by omega) (by omega)).trans eM
      have mp11 : MapAt h11 h8.size .i64 _ := k11.t.s.sep.is (by omega) e3
      have f511 : Fr [] h5 h11 := FrN.fr f11 f510 hN
      have hfin := hJ (m3, R3) h11 ⟨k11.less (by omega) (by omega) (by omega), f511⟩
      have hnoise := stepT_noise (s := sd) hno hG k10.t.rowOk
      have hrz : md.row.length = 0 → stepT 2 0 noise wd.a F md.row sd = (0, sd) := fun e => by unfold stepT; rw [if_pos e]
      clear hJ
      rw [go_eq]
      refine drawn_q k11.str ?_
      have hstd' := hstd
      generalize stepT 2 0 noise wd.a F md.row sd = st at *
      obtain ⟨vv, st'⟩ := st
      simp only at hnoise hrz hstd' hfin ⊢
      rw [go_eq, Sub64 _ (by omega) (by omega)]
      by_cases c3 : md.row.length = 0
      · have e4 := hrz c3
        have e5 : vv = 0 := congrArg (·.1) e4
        have e6 : st' = sd := congrArg (·.2) e4
        subst e5 e6
        have e7 : (st'.d : Int) - st'.d = 0 := by omega
        rw [e7, c3]
        try simp (disch := first | assumption | omega | (apply At.mk; with_unfolding_all rfl)) only [↓go_eq, ↓ent_eq, Mv, NilC_at, Fld_at, add_mk, Nat.zero_add, Nat.add_zero, Add64, Sub64, Mul64, Quo64, Rem64, Neg64, Cvt64, CvtU8, CvtU16, CvtU32, CvtU64, AddU64, SubU64, MulU64, Shr64, Shr_u8, Shr_u16, Shr_u32, Shr_u64, And1, And31, And32, Eql64, Neq64, Bin_lss, Bin_leq, Bin_gtr, Bin_geq, Bin_bool_eql, Bin_bool_neq, Bin_ptr_nil_eql, Bin_ptr_nil_neq, Not_dec, Un_not, Pick_t, Pick_f, Pick_pos, Pick_neg, Gd_tt, Gd_tf, Gd_ft, Gd_ff, Gd_pos_t, Gd_neg_t, Gd_pos_f, Gd_neg_f, Gd_undef, If_t, If_f, If_pos, If_neg, CallF_eq, Max_two, Min_two, Len_rd, Len_own, Ld_blkE, Idx_rdN, Idx_ownN, Idx_rdE, Idx_ownE, IdxAE, LdA_two, Idx_at0, Ext_atE, Len_at, Int.toNat_natCast, Int.toNat_zero, Int.toNat_one, List.length_map, List.length_append, List.length_cons, List.length_nil, List.length_take, List.length_set, List.length_replicate, Bool.not_true, Bool.not_false, decide_true, decide_false, BEq.rfl, bne_self_eq_false, tf_beq, ft_beq, tf_bne, ft_bne, not_true_eq_false, not_false_eq_true, app]
        exact hfin
      · have hnoise := hnoise c3
        have c3' : ¬ ((md.row.length : Nat) : Int) = 0 := by omega
        rcases hnoise with ⟨e4, e5⟩ | ⟨hin, hcase⟩
        · subst e4
          have e7 : (st'.d : Int) - sd.d = 1 := by omega
          rw [e7]
          try simp (disch := first | assumption | omega | (apply At.mk; with_unfolding_all rfl)) only [↓go_eq, ↓ent_eq, Mv, NilC_at, Fld_at, add_mk, Nat.zero_add, Nat.add_zero, Add64, Sub64, Mul64, Quo64, Rem64, Neg64, Cvt64, CvtU8, CvtU16, CvtU32, CvtU64, AddU64, SubU64, MulU64, Shr64, Shr_u8, Shr_u16, Shr_u32, Shr_u64, And1, And31, And32, Eql64, Neq64, Bin_lss, Bin_leq, Bin_gtr, Bin_geq, Bin_bool_eql, Bin_bool_neq, Bin_ptr_nil_eql, Bin_ptr_nil_neq, Not_dec, Un_not, Pick_t, Pick_f, Pick_pos, Pick_neg, Gd_tt, Gd_tf, Gd_ft, Gd_ff, Gd_pos_t, Gd_neg_t, Gd_pos_f, Gd_neg_f, Gd_undef, If_t, If_f, If_pos, If_neg, CallF_eq, Max_two, Min_two, Len_rd, Len_own, Ld_blkE, Idx_rdN, Idx_ownN, Idx_rdE, Idx_ownE, IdxAE, LdA_two, Idx_at0, Ext_atE, Len_at, Int.toNat_natCast, Int.toNat_zero, Int.toNat_one, List.length_map, List.length_append, List.length_cons, List.length_nil, List.length_take, List.length_set, List.length_replicate, Bool.not_true, Bool.not_false, decide_true, decide_false, BEq.rfl, bne_self_eq_false, tf_beq, ft_beq, tf_bne, ft_bne, not_true_eq_false, not_false_eq_true, app]
          exact hfin
        · have hlk : ((List.range j).map fun q : Nat => (((q + 1 : Nat) : Int), Iv (brT wd.a F (q + 1)))).lookup (vv : Int) = some (Iv (brT wd.a F vv)) := by
            obtain ⟨i1, i2⟩ := hin
            rw [lookup_range (fun q => Iv (brT wd.a F (q + 1))), if_pos ⟨i1, i2⟩, Int.toNat_natCast, show vv - 1 + 1 = vv by omega]
          have hv0 : ¬ (vv : Int) = 0 := by obtain ⟨i1, i2⟩ := hin; omega
          rcases hcase with ⟨hb0, hd1⟩ | ⟨hb1, hd0, hd1⟩
          · have e7 : (st'.d : Int) - sd.d = 1 := by omega
            rw [e7]
            try simp (disch := first | assumption | omega | (apply At.mk; with_unfolding_all rfl)) only [↓go_eq, ↓ent_eq, Mv, NilC_at, Fld_at, add_mk, Nat.zero_add, Nat.add_zero, Add64, Sub64, Mul64, Quo64, Rem64, Neg64, Cvt64, CvtU8, CvtU16, CvtU32, CvtU64, AddU64, SubU64, MulU64, Shr64, Shr_u8, Shr_u16, Shr_u32, Shr_u64, And1, And31, And32, Eql64, Neq64, Bin_lss, Bin_leq, Bin_gtr, Bin_geq, Bin_bool_eql, Bin_bool_neq, Bin_ptr_nil_eql, Bin_ptr_nil_neq, Not_dec, Un_not, Pick_t, Pick_f, Pick_pos, Pick_neg, Gd_tt, Gd_tf, Gd_ft, Gd_ff, Gd_pos_t, Gd_neg_t, Gd_pos_f, Gd_neg_f, Gd_undef, If_t, If_f, If_pos, If_neg, CallF_eq, Max_two, Min_two, Len_rd, Len_own, Ld_blkE, Idx_rdN, Idx_ownN, Idx_rdE, Idx_ownE, IdxAE, LdA_two, Idx_at0, Ext_atE, Len_at, Int.toNat_natCast, Int.toNat_zero, Int.toNat_one, List.length_map, List.length_append, List.length_cons, List.length_nil, List.length_take, List.length_set, List.length_replicate, Bool.not_true, Bool.not_false, decide_true, decide_false, BEq.rfl, bne_self_eq_false, tf_beq, ft_beq, tf_bne, ft_bne, not_true_eq_false, not_false_eq_true, app]
            refine Lk_map mp11 ?_
            rw [hlk]
            simp only [Bool.false_eq_true, if_false]
            rw [hb0]
            try simp (disch := first | assumption | omega | (apply At.mk; with_unfolding_all rfl)) only [↓go_eq, ↓ent_eq, Mv, NilC_at, Fld_at, add_mk, Nat.zero_add, Nat.add_zero, Add64, Sub64, Mul64, Quo64, Rem64, Neg64, Cvt64, CvtU8, CvtU16, CvtU32, CvtU64, AddU64, SubU64, MulU64, Shr64, Shr_u8, Shr_u16, Shr_u32, Shr_u64, And1, And31, And32, Eql64, Neq64, Bin_lss, Bin_leq, Bin_gtr, Bin_geq, Bin_bool_eql, Bin_bool_neq, Bin_ptr_nil_eql, Bin_ptr_nil_neq, Not_dec, Un_not, Pick_t, Pick_f, Pick_pos, Pick_neg, Gd_tt, Gd_tf, Gd_ft, Gd_ff, Gd_pos_t, Gd_neg_t, Gd_pos_f, Gd_neg_f, Gd_undef, If_t, If_f, If_pos, If_neg, CallF_eq, Max_two, Min_two, Len_rd, Len_own, Ld_blkE, Idx_rdN, Idx_ownN, Idx_rdE, Idx_ownE, IdxAE, LdA_two, Idx_at0, Ext_atE, Len_at, Int.toNat_natCast, Int.toNat_zero, Int.toNat_one, List.length_map, List.length_append, List.length_cons, List.length_nil, List.length_take, List.length_set, List.length_replicate, Bool.not_true, Bool.not_false, decide_true, decide_false, BEq.rfl, bne_self_eq_false, tf_beq, ft_beq, tf_bne, ft_bne, not_true_eq_false, not_false_eq_true, app]
            exact hfin
          · rcases hno with rfl | rfl
            · have e7 : (st'.d : Int) - sd.d = 2 := by have := hd0 rfl; omega
              rw [e7]
              try simp (disch := first | assumption | omega | (apply At.mk; with_unfolding_all rfl)) only [↓go_eq, ↓ent_eq, Mv, NilC_at, Fld_at, add_mk, Nat.zero_add, Nat.add_zero, Add64, Sub64, Mul64, Quo64, Rem64, Neg64, Cvt64, CvtU8, CvtU16, CvtU32, CvtU64, AddU64, SubU64, MulU64, Shr64, Shr_u8, Shr_u16, Shr_u32, Shr_u64, And1, And31, And32, Eql64, Neq64, Bin_lss, Bin_leq, Bin_gtr, Bin_geq, Bin_bool_eql, Bin_bool_neq, Bin_ptr_nil_eql, Bin_ptr_nil_neq, Not_dec, Un_not, Pick_t, Pick_f, Pick_pos, Pick_neg, Gd_tt, Gd_tf, Gd_ft, Gd_ff, Gd_pos_t, Gd_neg_t, Gd_pos_f, Gd_neg_f, Gd_undef, If_t, If_f, If_pos, If_neg, CallF_eq, Max_two, Min_two, Len_rd, Len_own, Ld_blkE, Idx_rdN, Idx_ownN, Idx_rdE, Idx_ownE, IdxAE, LdA_two, Idx_at0, Ext_atE, Len_at, Int.toNat_natCast, Int.toNat_zero, Int.toNat_one, List.length_map, List.length_append, List.length_cons, List.length_nil, List.length_take, List.length_set, List.length_replicate, Bool.not_true, Bool.not_false, decide_true, decide_false, BEq.rfl, bne_self_eq_false, tf_beq, ft_beq, tf_bne, ft_bne, not_true_eq_false, not_false_eq_true, app]
              refine Lk_map mp11 ?_
              rw [hlk]
              simp only [Bool.false_eq_true, if_false]
              try simp (disch := first | assumption | omega | (apply At.mk; with_unfolding_all rfl)) only [↓go_eq, ↓ent_eq, Mv, NilC_at, Fld_at, add_mk, Nat.zero_add, Nat.add_zero, Add64, Sub64, Mul64, Quo64, Rem64, Neg64, Cvt64, CvtU8, CvtU16, CvtU32, CvtU64, AddU64, SubU64, MulU64, Shr64, Shr_u8, Shr_u16, Shr_u32, Shr_u64, And1, And31, And32, Eql64, Neq64, Bin_lss, Bin_leq, Bin_gtr, Bin_geq, Bin_bool_eql, Bin_bool_neq, Bin_ptr_nil_eql, Bin_ptr_nil_neq, Not_dec, Un_not, Pick_t, Pick_f, Pick_pos, Pick_neg, Gd_tt, Gd_tf, Gd_ft, Gd_ff, Gd_pos_t, Gd_neg_t, Gd_pos_f, Gd_neg_f, Gd_undef, If_t, If_f, If_pos, If_neg, CallF_eq, Max_two, Min_two, Len_rd, Len_own, Ld_blkE, Idx_rdN, Idx_ownN, Idx_rdE, Idx_ownE, IdxAE, LdA_two, Idx_at0, Ext_atE, Len_at, Int.toNat_natCast, Int.toNat_zero, Int.toNat_one, List.length_map, List.length_append, List.length_cons, List.length_nil, List.length_take, List.length_set, List.length_replicate, Bool.not_true, Bool.not_false, decide_true, decide_false, BEq.rfl, bne_self_eq_false, tf_beq, ft_beq, tf_bne, ft_bne, not_true_eq_false, not_false_eq_true, app]
              exact hfin
            · have e7 : (st'.d : Int) - sd.d = 3 := by have := hd1 rfl; omega
              rw [e7]
              try simp (disch := first | assumption | omega | (apply At.mk; with_unfolding_all rfl)) only [↓go_eq, ↓ent_eq, Mv, NilC_at, Fld_at, add_mk, Nat.zero_add, Nat.add_zero, Add64, Sub64, Mul64, Quo64, Rem64, Neg64, Cvt64, CvtU8, CvtU16, CvtU32, CvtU64, AddU64, SubU64, MulU64, Shr64, Shr_u8, Shr_u16, Shr_u32, Shr_u64, And1, And31, And32, Eql64, Neq64, Bin_lss, Bin_leq, Bin_gtr, Bin_geq, Bin_bool_eql, Bin_bool_neq, Bin_ptr_nil_eql, Bin_ptr_nil_neq, Not_dec, Un_not, Pick_t, Pick_f, Pick_pos, Pick_neg, Gd_tt, Gd_tf, Gd_ft, Gd_ff, Gd_pos_t, Gd_neg_t, Gd_pos_f, Gd_neg_f, Gd_undef, If_t, If_f, If_pos, If_neg, CallF_eq, Max_two, Min_two, Len_rd, Len_own, Ld_blkE, Idx_rdN, Idx_ownN, Idx_rdE, Idx_ownE, IdxAE, LdA_two, Idx_at0, Ext_atE, Len_at, Int.toNat_natCast, Int.toNat_zero, Int.toNat_one, List.length_map, List.length_append, List.length_cons, List.length_nil, List.length_take, List.length_set, List.length_replicate, Bool.not_true, Bool.not_false, decide_true, decide_false, BEq.rfl, bne_self_eq_false, tf_beq, ft_beq, tf_bne, ft_bne, not_true_eq_false, not_false_eq_true, app]
              refine Lk_map mp11 ?_
              rw [hlk]
              simp only [Bool.false_eq_true, if_false]
              try simp (disch := first | assumption | omega | (apply At.mk; with_unfolding_all rfl)) only [↓go_eq, ↓ent_eq, Mv, NilC_at, Fld_at, add_mk, Nat.zero_add, Nat.add_zero, Add64, Sub64, Mul64, Quo64, Rem64, Neg64, Cvt64, CvtU8, CvtU16, CvtU32, CvtU64, AddU64, SubU64, MulU64, Shr64, Shr_u8, Shr_u16, Shr_u32, Shr_u64, And1, And31, And32, Eql64, Neq64, Bin_lss, Bin_leq, Bin_gtr, Bin_geq, Bin_bool_eql, Bin_bool_neq, Bin_ptr_nil_eql, Bin_ptr_nil_neq, Not_dec, Un_not, Pick_t, Pick_f, Pick_pos, Pick_neg, Gd_tt, Gd_tf, Gd_ft, Gd_ff, Gd_pos_t, Gd_neg_t, Gd_pos_f, Gd_neg_f, Gd_undef, If_t, If_f, If_pos, If_neg, CallF_eq, Max_two, Min_two, Len_rd, Len_own, Ld_blkE, Idx_rdN, Idx_ownN, Idx_rdE, Idx_ownE, IdxAE, LdA_two, Idx_at0, Ext_atE, Len_at, Int.toNat_natCast, Int.toNat_zero, Int.toNat_one, List.length_map, List.length_append, List.length_cons, List.length_nil, List.length_take, List.length_set, List.length_replicate, Bool.not_true, Bool.not_false, decide_true, decide_false, BEq.rfl, bne_self_eq_false, tf_beq, ft_beq, tf_bne, ft_bne, not_true_eq_false, not_false_eq_true, app]
              exact hfin
  · rintro ⟨m3, R3⟩ h9 ⟨k9, f59⟩
    simp only at k9
    generalize stepT 2 0 noise wd.a F md.row sd = st at *
    obtain ⟨vv, st'⟩ := st
    simp only at k9 hstd wf
    try simp (disch := first | assumption | omega | (apply At.mk; with_unfolding_all rfl)) only [↓go_eq, ↓ent_eq, Mv, NilC_at, Fld_at, add_mk, Nat.zero_add, Nat.add_zero, Add64, Sub64, Mul64, Quo64, Rem64, Neg64, Cvt64, CvtU8, CvtU16, CvtU32, CvtU64, AddU64, SubU64, MulU64, Shr64, Shr_u8, Shr_u16, Shr_u32, Shr_u64, And1, And31, And32, Eql64, Neq64, Bin_lss, Bin_leq, Bin_gtr, Bin_geq, Bin_bool_eql, Bin_bool_neq, Bin_ptr_nil_eql, Bin_ptr_nil_neq, Not_dec, Un_not, Pick_t, Pick_f, Pick_pos, Pick_neg, Gd_tt, Gd_tf, Gd_ft, Gd_ff, Gd_pos_t, Gd_neg_t, Gd_pos_f, Gd_neg_f, Gd_undef, If_t, If_f, If_pos, If_neg, CallF_eq, Max_two, Min_two, Len_rd, Len_own, Ld_blkE, Idx_rdN, Idx_ownN, Idx_rdE, Idx_ownE, IdxAE, LdA_two, Idx_at0, Ext_atE, Len_at, Int.toNat_natCast, Int.toNat_zero, Int.toNat_one, List.length_map, List.length_append, List.length_cons, List.length_nil, List.length_take, List.length_set, List.length_replicate, Bool.not_true, Bool.not_false, decide_true, decide_false, BEq.rfl, bne_self_eq_false, tf_beq, ft_beq, tf_bne, ft_bne, not_true_eq_false, not_false_eq_true, app]
    try simp only [show (i : Int) + 1 = ((i + 1 : Nat) : Int) from by omega]
    exact hX (i + 1, _, m3, R3, st') h9 ⟨show i + 1 ≤ 15 by omega, k9, Int.le_trans w0 wf.1, show (W.flip n F wd (vv : Nat)).fl ≤ ((i + 1 : Nat) : Int) by omega, show st'.d ≤ 3 * (i + 1) by omega, hstd.2.2.1.trans hws, f59⟩ (show 15 - (i + 1) < 15 - i by omega)
theorem bradawllaw15_WalkNoises.law {h : Heap} {a0 : Int × List (List Int)} {cs : Array Value} {a1 : List Int} {cs1 : Array Value} {a2 : List Int} {v2 : Value} (r0 : rRaw.is h a0 cs.toList) (r1 : (rArr 3 (rInt .u32) 1).is h a1 cs1.toList) (r2 : (rSlice (rInt .u64) 1).is h a2 [v2]) :
    CallH Try.prog bradawllaw15_WalkNoises.id #[.agg cs, .agg cs1, v2] (fun v h' => v = .bool true ∧ Fr [] h h') h := by
  obtain ⟨v, ws, rfl, h1, h2, h3⟩ := raw_arg r0
  obtain ⟨x, y, z, rfl, hx, hy, hz⟩ := triple_arg r1
  exact bradawllaw15_WalkNoises.spec h1 hx hy hz h2 h3 (words_arg r2) fun h' f => ⟨rfl, f⟩
end Go.Proofs.Ytonngdjfnnibaaa
