/- The law WalkRests. No condition but that the arguments lie in memory, laid by Go. -/
import Derived.Test.YtonngdjfnnibaaaWk5
namespace Go.Proofs.Ytonngdjfnnibaaa
open Go.Pt
set_option linter.unusedVariables false
set_option linter.unusedSimpArgs false
theorem kept_zero {a : List Bool} {cs : List (List Int)} : unT a (fmT (cs.filter (clT a))) = 0 := by
  unfold unT
  rw [List.countP_eq_zero]
  intro d hd
  obtain ⟨c, hc, rfl⟩ := List.mem_map.1 hd
  have h1 := (List.mem_filter.1 (List.mem_filter.1 hc).1).2
  have h2 := clT_hB (a := a) (c := nf c)
  rw [clT_nf, h1] at h2
  simpa using h2
theorem filter_take {α : Type} {p : α → Bool} {l : List α} {i : Nat} {x : α} (h : l[i]? = some x) : (l.take (i + 1)).filter p = (l.take i).filter p ++ (if p x = true then [x] else []) := by
  rw [get_take h, List.filter_append]
  congr 1
  by_cases e : p x = true
  · rw [if_pos e, List.filter_cons_of_pos e]; rfl
  · rw [if_neg e, List.filter_cons_of_neg e]; rfl
theorem fm_one {l : Int} (h : l ≠ 0) : fmT [[l]] = [[l]] := by
  have : taut [l] = false := by
    cases e : taut [l] with
    | false => rfl
    | true =>
      obtain ⟨x, hx, hy⟩ := taut_iff.1 e
      simp at hx hy
      omega
  unfold fmT
  rw [List.filter_cons_of_pos (by rw [this]; rfl)]
  rfl
/-- The clauses of these values. -/
structure KL (h : Heap) (cs : List (List Int)) (ws : List Value) : Prop where
  len : ws.length = cs.length
  get : ∀ (i : Nat) (c : List Int), cs[i]? = some c → ∃ x, At ws i x ∧ Rd h x (c.map Iv)
theorem KL.nil (h : Heap) : KL h [] [] := ⟨rfl, fun i c hc => by cases hc⟩
theorem KL.rdl {h h' : Heap} {v : Value} {cs : List (List Int)} {ws : List Value} (k : KL h cs ws) (f : Fr [] h h') (r : Rd h' v ws) : RdL h' v cs ws := ⟨r, k.len, fun i c hc => by
  obtain ⟨x, ax, rx⟩ := k.get i c hc
  exact ⟨x, ax, rx.fr f⟩⟩
theorem KL.snoc {h : Heap} {x : Value} {cs : List (List Int)} {ws : List Value} {c : List Int} (k : KL h cs ws) (rx : Rd h x (c.map Iv)) : KL h (cs ++ [c]) (ws ++ [x]) := by
  refine ⟨by rw [List.length_append, List.length_append, k.len]; rfl, fun i d hd => ?_⟩
  rcases Nat.lt_or_ge i cs.length with q | q
  · rw [List.getElem?_append_left q] at hd
    obtain ⟨y, ay, ry⟩ := k.get i d hd
    exact ⟨y, ⟨by rw [List.getElem?_append_left (by rw [k.len]; exact q)]; exact ay.out⟩, ry⟩
  · rw [List.getElem?_append_right q] at hd
    have e : i = cs.length := by
      rcases Nat.lt_or_ge cs.length i with q2 | q2
      · rw [List.getElem?_eq_none (by simp; omega)] at hd; cases hd
      · omega
    subst e
    rw [Nat.sub_self] at hd
    cases hd
    exact ⟨x, ⟨by rw [← k.len, List.getElem?_append_right (Nat.le_refl _), Nat.sub_self]; rfl⟩, rx⟩
set_option maxHeartbeats 8000000 in
theorem bradawllaw15_WalkRests.spec {a x0 x1 x2 y : Int} {xss : List (List Int)} {ws : List Value} {v : Value} (ha : 0 ≤ a ∧ a ≤ 255) (hx0 : 0 ≤ x0 ∧ x0 ≤ 4294967295) (hx1 : 0 ≤ x1 ∧ x1 ≤ 4294967295) (hx2 : 0 ≤ x2 ∧ x2 ≤ 4294967295) (hy : 0 ≤ y ∧ y ≤ 255) (hcl : ∀ c ∈ xss, c.length ≤ 140737488351232) {K : Ret} {h : Heap} (hv : RdX (.int .i16) h v xss ws)
    (hk : ∀ h', Fr [] h h' → K (.bool true) h') : CallH Try.prog bradawllaw15_WalkRests.id #[.agg #[.int .u8 a, v], .agg #[.int .u32 x0, .int .u32 x1, .int .u32 x2], .int .u8 y] K h := by
  refine bradawllaw15_WalkRests.ok ?_
  simp only [bradawllaw15_WalkRests.pt]
  rw [go_eq]
  refine New_blk fun h1 b1 f1 s1 => ?_
  have b1 : Blk h1 h.size [.int .u8 a, v] := b1
  rw [go_eq]
  refine New_blk fun h2 b2 f2 s2 => ?_
  have b2 : Blk h2 h1.size [.int .u32 x0, .int .u32 x1, .int .u32 x2] := b2
  rw [go_eq, CallF_eq]
  refine bradawllaw15_fit.spec fun h3 f3 => ?_
  have f03 := (f1.trans f2).trans f3
  have br3 := (b1.fr f2 (by simp)).fr f3 (by simp)
  rw [go_eq, Un_not, Bool.not_true, If_f, go_eq, LdA_two br3, go_eq, CallF_eq]
  refine bradawllaw02_Raw_Light.spec (m := 40) (by decide) hcl (hv.fr f03) fun h4 f4 => ⟨fun hL => ?_, ?_⟩
  rotate_left
  · rw [go_eq, Un_not, Bool.not_false, If_t]
    exact hk h4 (f03.trans f4)
  obtain ⟨hL1, hL2⟩ := hL
  have f04 := f03.trans f4
  have b4 := (b2.fr f3 (by simp)).fr f4 (by simp)
  have br4 := br3.fr f4 (by simp)
  rw [go_eq, Un_not, Bool.not_true, If_f]
  refine wk_form (vars := 10) (by decide) ha hL1 (fun c hc => by have := hL2 c hc; omega) br4 (hv.fr f04) fun n cs fb u wf h5 hn hok hlen hcl9 b5 hfb rf5 f5 => ?_
  have f05 := f04.trans f5
  have bn5 := b4.fr f5 (by simp)
  have a0 : At [Value.int .u32 x0, .int .u32 x1, .int .u32 x2] (0 + (0 : Int).toNat) (.int .u32 x0) := ⟨rfl⟩
  have a1 : At [Value.int .u32 x0, .int .u32 x1, .int .u32 x2] (0 + (1 : Int).toNat) (.int .u32 x1) := ⟨rfl⟩
  have a2 : At [Value.int .u32 x0, .int .u32 x1, .int .u32 x2] (0 + (2 : Int).toNat) (.int .u32 x2) := ⟨rfl⟩
  rw [go_eq, IdxAE (by decide) (by decide), go_eq, Ld_blkE bn5 a1, go_eq, CvtU8, go_eq, IdxAE (by decide) (by decide), go_eq, Ld_blkE bn5 a2, go_eq, CvtU16, go_eq]
  refine way_a (by omega) (by omega) fun kd bsz ns h6 hW f6 => ?_
  rw [go_eq]
  refine New_blk fun h7 b7 f7 s7 => ?_
  have b7 : Blk h7 h6.size [Iv 0, Iv 0, Iv 0] := b7
  rw [go_eq]
  refine StA_three b7 rfl rfl rfl fun h8 b8 f8 => ?_
  have f58 : Fr [] h5 h8 := (f6.trans f7).trans' f8 fun b hb => .inr (by simp at hb; have := f6.size; omega)
  have b58 := b5.fr f58 (by simp)
  have bn8 := bn5.fr f58 (by simp)
  have af : At [Iv n, u] 0 (Iv n) := ⟨rfl⟩
  have af1 : At [Iv n, u] (0 + 1) u := ⟨rfl⟩
  rw [go_eq, Fld_at, go_eq, add_mk, Ld_blkE b58 af, go_eq, IdxAE (by decide) (by decide), go_eq, Ld_blkE bn8 a0, go_eq, CallF_eq]
  refine bradawllaw14_Start.spec (by omega) hx0 fun va ba h9 o9 hb9 f9 => ?_
  have hal := stT_len n x0
  generalize stT n x0 = st0 at *
  have f59 := f58.trans f9
  have b9 := b58.fr f9 (by simp)
  have bw9 := b8.fr f9 (by simp)
  have rf9 := rf5.fr f59
  have f09 := f05.trans f59
  have rl := rf9.rd
  have wl := rf9.len
  rw [go_eq, Fld_at, go_eq, add_mk, Ld_blkE b9 af1, go_eq, Len_rd rl, wl]
  refine Lp_fn (σ := Nat × Value × List Value × List Nat) (fun x => [.int .u8 y, ptr fb, ptr h6.size, va, x.2.1, u, Iv (cs.length : Nat), Iv (x.1 : Nat)])
    (fun x h' => x.1 ≤ cs.length ∧ KL h9 ((cs.take x.1).filter (clT st0)) x.2.2.1 ∧ Own h' x.2.1 x.2.2.1 x.2.2.2 ∧ (∀ b ∈ x.2.2.2, h9.size ≤ b) ∧ Fr [] h9 h') (fun x => cs.length - x.1)
    (0, nilS, [], []) rfl (fun _ => rfl) ⟨Nat.zero_le _, KL.nil h9, Own.nil h9, by simp, Fr.refl _ _⟩ ?_
  rintro ⟨i, kv, kw, kb⟩ h10 ⟨hi, rk, ok, hkb, f10⟩ X hX
  simp only at hi rk ok hkb
  have b10 := b9.fr f10 (by simp)
  have bw10 := bw9.fr f10 (by simp)
  have o10 := o9.fr f10 (by simp)
  have rf10 := rf9.fr f10
  by_cases c1 : (i : Int) < (cs.length : Nat)
  · obtain ⟨c, hc, hm⟩ := getF (F := cs) (i := i) (by omega)
    obtain ⟨x, ax, rx9⟩ := rf9.get i c hc
    have rx := rx9.fr f10
    have hft := filter_take (p := clT st0) hc
    have hcl6 := hcl9 c hm
    have hoc := hok c hm
    have rl10 := rf10.rd
    have hkl : kw.length ≤ 40 := by
      rw [rk.len]
      have h1 := List.length_filter_le (clT st0) (cs.take i)
      have h2 : (cs.take i).length ≤ 40 := by rw [List.length_take]; omega
      omega
    try simp (disch := first | assumption | omega | (apply At.mk; with_unfolding_all rfl)) only [↓go_eq, ↓ent_eq, Mv, NilC_at, Fld_at, add_mk, Nat.zero_add, Nat.add_zero, Add64, Sub64, Mul64, Quo64, Rem64, Neg64, Cvt64, CvtU8, CvtU16, CvtU32, CvtU64, AddU64, SubU64, MulU64, Shr64, Shr_u8, Shr_u16, Shr_u32, Shr_u64, And1, And31, And32, Eql64, Neq64, Bin_lss, Bin_leq, Bin_gtr, Bin_geq, Bin_bool_eql, Bin_bool_neq, Bin_ptr_nil_eql, Bin_ptr_nil_neq, Not_dec, Un_not, Pick_t, Pick_f, Pick_pos, Pick_neg, Gd_tt, Gd_tf, Gd_ft, Gd_ff, Gd_pos_t, Gd_neg_t, Gd_pos_f, Gd_neg_f, Gd_undef, If_t, If_f, If_pos, If_neg, CallF_eq, Max_two, Min_two, Len_rd, Len_own, Ld_blkE, Idx_rdN, Idx_ownN, Idx_rdE, Idx_ownE, IdxAE, LdA_two, Idx_at0, Ext_atE, Len_at, Int.toNat_natCast, Int.toNat_zero, Int.toNat_one, List.length_map, List.length_append, List.length_cons, List.length_nil, List.length_take, List.length_set, List.length_replicate, Bool.not_true, Bool.not_false, decide_true, decide_false, BEq.rfl, bne_self_eq_false, tf_beq, ft_beq, tf_bne, ft_bne, not_true_eq_false, not_false_eq_true, app]
    refine Jn_fn (σ := Value × List Value × List Nat) (fun z => [.int .u8 y, ptr fb, ptr h6.size, va, z.1, u, Iv (cs.length : Nat), Iv (i : Nat)])
      (fun z h' => KL h9 ((cs.take (i + 1)).filter (clT st0)) z.2.1 ∧ Own h' z.1 z.2.1 z.2.2 ∧ (∀ b ∈ z.2.2, h9.size ≤ b) ∧ Fr [] h9 h') ?_ ?_
    · intro J hJ
      rw [hft] at hJ
      try simp (disch := first | assumption | omega | (apply At.mk; with_unfolding_all rfl)) only [↓go_eq, ↓ent_eq, Mv, NilC_at, Fld_at, add_mk, Nat.zero_add, Nat.add_zero, Add64, Sub64, Mul64, Quo64, Rem64, Neg64, Cvt64, CvtU8, CvtU16, CvtU32, CvtU64, AddU64, SubU64, MulU64, Shr64, Shr_u8, Shr_u16, Shr_u32, Shr_u64, And1, And31, And32, Eql64, Neq64, Bin_lss, Bin_leq, Bin_gtr, Bin_geq, Bin_bool_eql, Bin_bool_neq, Bin_ptr_nil_eql, Bin_ptr_nil_neq, Not_dec, Un_not, Pick_t, Pick_f, Pick_pos, Pick_neg, Gd_tt, Gd_tf, Gd_ft, Gd_ff, Gd_pos_t, Gd_neg_t, Gd_pos_f, Gd_neg_f, Gd_undef, If_t, If_f, If_pos, If_neg, CallF_eq, Max_two, Min_two, Len_rd, Len_own, Ld_blkE, Idx_rdN, Idx_ownN, Idx_rdE, Idx_ownE, IdxAE, LdA_two, Idx_at0, Ext_atE, Len_at, Int.toNat_natCast, Int.toNat_zero, Int.toNat_one, List.length_map, List.length_append, List.length_cons, List.length_nil, List.length_take, List.length_set, List.length_replicate, Bool.not_true, Bool.not_false, decide_true, decide_false, BEq.rfl, bne_self_eq_false, tf_beq, ft_beq, tf_bne, ft_bne, not_true_eq_false, not_false_eq_true, app]
      refine BldS_one rfl rx.isCell fun h11 o11 f11 s11 => ?_
      have rC := wk_rdl o11.rd (rx.fr f11)
      try simp (disch := first | assumption | omega | (apply At.mk; with_unfolding_all rfl)) only [↓go_eq, ↓ent_eq, Mv, NilC_at, Fld_at, add_mk, Nat.zero_add, Nat.add_zero, Add64, Sub64, Mul64, Quo64, Rem64, Neg64, Cvt64, CvtU8, CvtU16, CvtU32, CvtU64, AddU64, SubU64, MulU64, Shr64, Shr_u8, Shr_u16, Shr_u32, Shr_u64, And1, And31, And32, Eql64, Neq64, Bin_lss, Bin_leq, Bin_gtr, Bin_geq, Bin_bool_eql, Bin_bool_neq, Bin_ptr_nil_eql, Bin_ptr_nil_neq, Not_dec, Un_not, Pick_t, Pick_f, Pick_pos, Pick_neg, Gd_tt, Gd_tf, Gd_ft, Gd_ff, Gd_pos_t, Gd_neg_t, Gd_pos_f, Gd_neg_f, Gd_undef, If_t, If_f, If_pos, If_neg, CallF_eq, Max_two, Min_two, Len_rd, Len_own, Ld_blkE, Idx_rdN, Idx_ownN, Idx_rdE, Idx_ownE, IdxAE, LdA_two, Idx_at0, Ext_atE, Len_at, Int.toNat_natCast, Int.toNat_zero, Int.toNat_one, List.length_map, List.length_append, List.length_cons, List.length_nil, List.length_take, List.length_set, List.length_replicate, Bool.not_true, Bool.not_false, decide_true, decide_false, BEq.rfl, bne_self_eq_false, tf_beq, ft_beq, tf_bne, ft_bne, not_true_eq_false, not_false_eq_true, app]
      rw [Bld_two rfl o11.rd.isCell]
      refine bradawllaw02_Holds.spec (n := n) (cs := [c]) (fun d hd => by simp at hd; subst hd; exact hoc) (by omega) (by omega) (by simp) (fun d hd => by simp at hd; subst hd; omega) rC (o10.rd.fr f11) fun h12 f12 => ?_
      have e : satT st0 [c] = clT st0 c := by simp [satT]
      rw [e]
      have f012 := f11.trans f12
      have ok12 := ok.fr f012 (by simp)
      cases e2 : clT st0 c with
      | true =>
        rw [e2, if_pos rfl] at hJ
        try simp (disch := first | assumption | omega | (apply At.mk; with_unfolding_all rfl)) only [↓go_eq, ↓ent_eq, Mv, NilC_at, Fld_at, add_mk, Nat.zero_add, Nat.add_zero, Add64, Sub64, Mul64, Quo64, Rem64, Neg64, Cvt64, CvtU8, CvtU16, CvtU32, CvtU64, AddU64, SubU64, MulU64, Shr64, Shr_u8, Shr_u16, Shr_u32, Shr_u64, And1, And31, And32, Eql64, Neq64, Bin_lss, Bin_leq, Bin_gtr, Bin_geq, Bin_bool_eql, Bin_bool_neq, Bin_ptr_nil_eql, Bin_ptr_nil_neq, Not_dec, Un_not, Pick_t, Pick_f, Pick_pos, Pick_neg, Gd_tt, Gd_tf, Gd_ft, Gd_ff, Gd_pos_t, Gd_neg_t, Gd_pos_f, Gd_neg_f, Gd_undef, If_t, If_f, If_pos, If_neg, CallF_eq, Max_two, Min_two, Len_rd, Len_own, Ld_blkE, Idx_rdN, Idx_ownN, Idx_rdE, Idx_ownE, IdxAE, LdA_two, Idx_at0, Ext_atE, Len_at, Int.toNat_natCast, Int.toNat_zero, Int.toNat_one, List.length_map, List.length_append, List.length_cons, List.length_nil, List.length_take, List.length_set, List.length_replicate, Bool.not_true, Bool.not_false, decide_true, decide_false, BEq.rfl, bne_self_eq_false, tf_beq, ft_beq, tf_bne, ft_bne, not_true_eq_false, not_false_eq_true, app]
        refine ok12.app1 rfl rfl rx.isCell (by omega) (by omega) fun v' h13 bs' o13 f13 hb13 => ?_
        try simp (disch := first | assumption | omega | (apply At.mk; with_unfolding_all rfl)) only [↓go_eq, ↓ent_eq, Mv, NilC_at, Fld_at, add_mk, Nat.zero_add, Nat.add_zero, Add64, Sub64, Mul64, Quo64, Rem64, Neg64, Cvt64, CvtU8, CvtU16, CvtU32, CvtU64, AddU64, SubU64, MulU64, Shr64, Shr_u8, Shr_u16, Shr_u32, Shr_u64, And1, And31, And32, Eql64, Neq64, Bin_lss, Bin_leq, Bin_gtr, Bin_geq, Bin_bool_eql, Bin_bool_neq, Bin_ptr_nil_eql, Bin_ptr_nil_neq, Not_dec, Un_not, Pick_t, Pick_f, Pick_pos, Pick_neg, Gd_tt, Gd_tf, Gd_ft, Gd_ff, Gd_pos_t, Gd_neg_t, Gd_pos_f, Gd_neg_f, Gd_undef, If_t, If_f, If_pos, If_neg, CallF_eq, Max_two, Min_two, Len_rd, Len_own, Ld_blkE, Idx_rdN, Idx_ownN, Idx_rdE, Idx_ownE, IdxAE, LdA_two, Idx_at0, Ext_atE, Len_at, Int.toNat_natCast, Int.toNat_zero, Int.toNat_one, List.length_map, List.length_append, List.length_cons, List.length_nil, List.length_take, List.length_set, List.length_replicate, Bool.not_true, Bool.not_false, decide_true, decide_false, BEq.rfl, bne_self_eq_false, tf_beq, ft_beq, tf_bne, ft_bne, not_true_eq_false, not_false_eq_true, app]
        refine hJ (v', kw ++ [x], bs') h13 ⟨rk.snoc rx9, o13, fun b hb => ?_, (f10.trans f012).trans' f13 fun b hb => .inr (hkb b hb)⟩
        rcases hb13 b hb with q | q
        · exact hkb b q
        · have := (f10.trans f012).size; omega
      | false =>
        rw [e2, if_neg (by simp), List.append_nil] at hJ
        try simp (disch := first | assumption | omega | (apply At.mk; with_unfolding_all rfl)) only [↓go_eq, ↓ent_eq, Mv, NilC_at, Fld_at, add_mk, Nat.zero_add, Nat.add_zero, Add64, Sub64, Mul64, Quo64, Rem64, Neg64, Cvt64, CvtU8, CvtU16, CvtU32, CvtU64, AddU64, SubU64, MulU64, Shr64, Shr_u8, Shr_u16, Shr_u32, Shr_u64, And1, And31, And32, Eql64, Neq64, Bin_lss, Bin_leq, Bin_gtr, Bin_geq, Bin_bool_eql, Bin_bool_neq, Bin_ptr_nil_eql, Bin_ptr_nil_neq, Not_dec, Un_not, Pick_t, Pick_f, Pick_pos, Pick_neg, Gd_tt, Gd_tf, Gd_ft, Gd_ff, Gd_pos_t, Gd_neg_t, Gd_pos_f, Gd_neg_f, Gd_undef, If_t, If_f, If_pos, If_neg, CallF_eq, Max_two, Min_two, Len_rd, Len_own, Ld_blkE, Idx_rdN, Idx_ownN, Idx_rdE, Idx_ownE, IdxAE, LdA_two, Idx_at0, Ext_atE, Len_at, Int.toNat_natCast, Int.toNat_zero, Int.toNat_one, List.length_map, List.length_append, List.length_cons, List.length_nil, List.length_take, List.length_set, List.length_replicate, Bool.not_true, Bool.not_false, decide_true, decide_false, BEq.rfl, bne_self_eq_false, tf_beq, ft_beq, tf_bne, ft_bne, not_true_eq_false, not_false_eq_true, app]
        exact hJ (kv, kw, kb) h12 ⟨rk, ok12, hkb, f10.trans f012⟩
    · rintro ⟨kv', kw', kb'⟩ h11 ⟨rk', ok', hkb', f11⟩
      try simp (disch := first | assumption | omega | (apply At.mk; with_unfolding_all rfl)) only [↓go_eq, ↓ent_eq, Mv, NilC_at, Fld_at, add_mk, Nat.zero_add, Nat.add_zero, Add64, Sub64, Mul64, Quo64, Rem64, Neg64, Cvt64, CvtU8, CvtU16, CvtU32, CvtU64, AddU64, SubU64, MulU64, Shr64, Shr_u8, Shr_u16, Shr_u32, Shr_u64, And1, And31, And32, Eql64, Neq64, Bin_lss, Bin_leq, Bin_gtr, Bin_geq, Bin_bool_eql, Bin_bool_neq, Bin_ptr_nil_eql, Bin_ptr_nil_neq, Not_dec, Un_not, Pick_t, Pick_f, Pick_pos, Pick_neg, Gd_tt, Gd_tf, Gd_ft, Gd_ff, Gd_pos_t, Gd_neg_t, Gd_pos_f, Gd_neg_f, Gd_undef, If_t, If_f, If_pos, If_neg, CallF_eq, Max_two, Min_two, Len_rd, Len_own, Ld_blkE, Idx_rdN, Idx_ownN, Idx_rdE, Idx_ownE, IdxAE, LdA_two, Idx_at0, Ext_atE, Len_at, Int.toNat_natCast, Int.toNat_zero, Int.toNat_one, List.length_map, List.length_append, List.length_cons, List.length_nil, List.length_take, List.length_set, List.length_replicate, Bool.not_true, Bool.not_false, decide_true, decide_false, BEq.rfl, bne_self_eq_false, tf_beq, ft_beq, tf_bne, ft_bne, not_true_eq_false, not_false_eq_true, app]
      try simp only [show (i : Int) + 1 = ((i + 1 : Nat) : Int) from by omega]
      exact hX (i + 1, kv', kw', kb') h11 ⟨by simp only; omega, rk', ok', hkb', f11⟩ (by simp only; omega)
  · rw [show cs.take i = cs from List.take_of_length_le (by omega)] at rk
    have rK := rk.rdl f10 ok.rd
    have f010 := f09.trans f10
    have hKl : (cs.filter (clT st0)).length ≤ 40 := by have := List.length_filter_le (clT st0) cs; omega
    have hKc : ∀ c ∈ cs.filter (clT st0), c.length ≤ 1000 := fun c hc => by have := hcl9 c (List.mem_filter.1 hc).1; omega
    have hKo : FOk n (cs.filter (clT st0)) := fun c hc => hok c (List.mem_filter.1 hc).1
    have hz := kept_zero (a := st0) (cs := cs)
    have z10 := f10.size
    simp only [app]
    rw [go_eq, Bin_lss, decide_eq_false c1, If_f, go_eq]
    refine new_a (ws := []) (x := 7#64) (Own.nil _).rd (by decide) fun g h11 Fp hs f11 hFp => ?_
    have b11 := b10.fr f11 (by simp)
    have bw11 := bw10.fr f11 (by simp)
    have o11 := o10.fr f11 (by simp)
    have rK11 := rK.fr f11
    rw [go_eq, Fld_at, go_eq, add_mk, Ld_blkE b11 af, go_eq, Bld_two rfl rK11.rd.isCell, go_eq, LdA_three bw11, go_eq, CallF_eq]
    refine walk_Walk.spec (N := h10.size) (a := st0) (fun i w row s => i = 0 ∧ w = ⟨st0, st0, (unT st0 (fmT (cs.filter (clT st0))) : Nat), 0⟩ ∧ s.d = 0 ∧ s.ws.length ≤ 1000) hW (by omega) (by omega) hKc hKo rK11 o11.rd (by omega) hs hFp f11.size (Nat.zero_le _) (by simp) (by decide) (fun _ => ⟨rfl, rfl, rfl, by simp⟩) (fun i w row s p hi hr ro => ?_) (fun q => absurd hal q) fun _ i' h12 bv bs w' row' s' p hi' hex ro hzl hs12 o12 hb12 f12 _ => ?_
    · obtain ⟨_, rfl, _⟩ := p
      exact absurd (ro.1.trans hz) hr
    obtain ⟨rfl, rfl, hd0, hwl0⟩ := p
    simp only [hz] at o12 hzl ⊢
    have f1012 : Fr [] h10 h12 := FrN.fr f12 f11 (Nat.le_refl _)
    have b12 := b10.fr f1012 (by simp)
    have bw12 := bw10.fr f1012 (by simp)
    have oa12 := o10.fr f1012 (by simp)
    have f012 := f010.trans f1012
    rw [go_eq, Ext_atE ⟨rfl⟩, go_eq, Ext_atE ⟨rfl⟩, go_eq]
    refine New_blk fun h13 b13 f13 s13 => ?_
    have b13 : Blk h13 h12.size [nilS, Iv 0, Iv 0] := b13
    rw [go_eq]
    refine StA_three b13 o12.rd.isCell rfl rfl fun h14 b14 f14 => ?_
    have f1214 : Fr [] h12 h14 := f13.trans' f14 fun b hb => .inr (by simp at hb; omega)
    have b14f := b12.fr f1214 (by simp)
    have bw14 := bw12.fr f1214 (by simp)
    have oa14 := oa12.fr f1214 (by simp)
    have o14 := (o12.fr f1214 (by simp)).rd
    have hs14 := hs12.fr f1214 (by simp)
    have f014 := f012.trans f1214
    have hlb : (st0.map Value.bool).length = n := by rw [List.length_map]; exact hal
    try simp (disch := first | assumption | omega | (apply At.mk; with_unfolding_all rfl)) only [↓go_eq, ↓ent_eq, Mv, NilC_at, Fld_at, add_mk, Nat.zero_add, Nat.add_zero, Add64, Sub64, Mul64, Quo64, Rem64, Neg64, Cvt64, CvtU8, CvtU16, CvtU32, CvtU64, AddU64, SubU64, MulU64, Shr64, Shr_u8, Shr_u16, Shr_u32, Shr_u64, And1, And31, And32, Eql64, Neq64, Bin_lss, Bin_leq, Bin_gtr, Bin_geq, Bin_bool_eql, Bin_bool_neq, Bin_ptr_nil_eql, Bin_ptr_nil_neq, Not_dec, Un_not, Pick_t, Pick_f, Pick_pos, Pick_neg, Gd_tt, Gd_tf, Gd_ft, Gd_ff, Gd_pos_t, Gd_neg_t, Gd_pos_f, Gd_neg_f, Gd_undef, If_t, If_f, If_pos, If_neg, CallF_eq, Max_two, Min_two, Len_rd, Len_own, Ld_blkE, Idx_rdN, Idx_ownN, Idx_rdE, Idx_ownE, IdxAE, LdA_two, Idx_at0, Ext_atE, Len_at, Int.toNat_natCast, Int.toNat_zero, Int.toNat_one, List.length_map, List.length_append, List.length_cons, List.length_nil, List.length_take, List.length_set, List.length_replicate, Bool.not_true, Bool.not_false, decide_true, decide_false, BEq.rfl, bne_self_eq_false, tf_beq, ft_beq, tf_bne, ft_bne, not_true_eq_false, not_false_eq_true, app]
    refine drawn_q hs14 ?_
    rw [hd0]
    try simp (disch := first | assumption | omega | (apply At.mk; with_unfolding_all rfl)) only [hlb, ↓go_eq, ↓ent_eq, Mv, NilC_at, Fld_at, add_mk, Nat.zero_add, Nat.add_zero, Add64, Sub64, Mul64, Quo64, Rem64, Neg64, Cvt64, CvtU8, CvtU16, CvtU32, CvtU64, AddU64, SubU64, MulU64, Shr64, Shr_u8, Shr_u16, Shr_u32, Shr_u64, And1, And31, And32, Eql64, Neq64, Bin_lss, Bin_leq, Bin_gtr, Bin_geq, Bin_bool_eql, Bin_bool_neq, Bin_ptr_nil_eql, Bin_ptr_nil_neq, Not_dec, Un_not, Pick_t, Pick_f, Pick_pos, Pick_neg, Gd_tt, Gd_tf, Gd_ft, Gd_ff, Gd_pos_t, Gd_neg_t, Gd_pos_f, Gd_neg_f, Gd_undef, If_t, If_f, If_pos, If_neg, CallF_eq, Max_two, Min_two, Len_rd, Len_own, Ld_blkE, Idx_rdN, Idx_ownN, Idx_rdE, Idx_ownE, IdxAE, LdA_two, Idx_at0, Ext_atE, Len_at, Int.toNat_natCast, Int.toNat_zero, Int.toNat_one, List.length_map, List.length_append, List.length_cons, List.length_nil, List.length_take, List.length_set, List.length_replicate, Bool.not_true, Bool.not_false, decide_true, decide_false, BEq.rfl, bne_self_eq_false, tf_beq, ft_beq, tf_bne, ft_bne, not_true_eq_false, not_false_eq_true, app]
    by_cases c2 : (n : Int) = 0
    · rw [If_pos c2]
      exact hk h14 f014
    rw [If_neg c2]
    have hl0 : 0 ≤ y % (n : Int) := Int.emod_nonneg _ c2
    have hl1 : y % (n : Int) < n := Int.emod_lt_of_pos _ (by omega)
    rw [Rem64 (a := y) (b := (n : Int)) _ _ hy.1 (by omega), Add64 (a := 1) (b := y % (n : Int)) _ (by omega) (by omega)]
    obtain ⟨l, hl⟩ : ∃ l : Nat, 1 + y % (n : Int) = l := ⟨(1 + y % (n : Int)).toNat, by omega⟩
    rw [hl]
    have hl2 : 1 ≤ l ∧ l ≤ n := by omega
    refine Jn_fn (σ := Unit) (fun _ => [ptr fb, ptr h6.size, va, ptr g, Iv (cmg st0 l)]) (fun _ h' => h14 = h') ?_ ?_
    · intro J hJ
      have hJ := hJ () h14 rfl
      unfold cmg at hJ
      have al := bool_atD (a := st0) (i := ((l : Int) - 1).toNat) (by omega)
      have oar := oa14.rd
      have e1 : ((l : Int) - 1).toNat = l - 1 := by omega
      have al' : At (st0.map Value.bool) ((l : Int) - 1).toNat (.bool (st0.getD (l - 1) false)) := by rw [← e1]; exact al
      try simp (disch := first | assumption | omega | (apply At.mk; with_unfolding_all rfl)) only [↓go_eq, ↓ent_eq, Mv, NilC_at, Fld_at, add_mk, Nat.zero_add, Nat.add_zero, Add64, Sub64, Mul64, Quo64, Rem64, Neg64, Cvt64, CvtU8, CvtU16, CvtU32, CvtU64, AddU64, SubU64, MulU64, Shr64, Shr_u8, Shr_u16, Shr_u32, Shr_u64, And1, And31, And32, Eql64, Neq64, Bin_lss, Bin_leq, Bin_gtr, Bin_geq, Bin_bool_eql, Bin_bool_neq, Bin_ptr_nil_eql, Bin_ptr_nil_neq, Not_dec, Un_not, Pick_t, Pick_f, Pick_pos, Pick_neg, Gd_tt, Gd_tf, Gd_ft, Gd_ff, Gd_pos_t, Gd_neg_t, Gd_pos_f, Gd_neg_f, Gd_undef, If_t, If_f, If_pos, If_neg, CallF_eq, Max_two, Min_two, Len_rd, Len_own, Ld_blkE, Idx_rdN, Idx_ownN, Idx_rdE, Idx_ownE, IdxAE, LdA_two, Idx_at0, Ext_atE, Len_at, Int.toNat_natCast, Int.toNat_zero, Int.toNat_one, List.length_map, List.length_append, List.length_cons, List.length_nil, List.length_take, List.length_set, List.length_replicate, Bool.not_true, Bool.not_false, decide_true, decide_false, BEq.rfl, bne_self_eq_false, tf_beq, ft_beq, tf_bne, ft_bne, not_true_eq_false, not_false_eq_true, app]
      cases e : st0.getD (l - 1) false with
      | true =>
        rw [e, if_pos rfl] at hJ
        try simp (disch := first | assumption | omega | (apply At.mk; with_unfolding_all rfl)) only [↓go_eq, ↓ent_eq, Mv, NilC_at, Fld_at, add_mk, Nat.zero_add, Nat.add_zero, Add64, Sub64, Mul64, Quo64, Rem64, Neg64, Cvt64, CvtU8, CvtU16, CvtU32, CvtU64, AddU64, SubU64, MulU64, Shr64, Shr_u8, Shr_u16, Shr_u32, Shr_u64, And1, And31, And32, Eql64, Neq64, Bin_lss, Bin_leq, Bin_gtr, Bin_geq, Bin_bool_eql, Bin_bool_neq, Bin_ptr_nil_eql, Bin_ptr_nil_neq, Not_dec, Un_not, Pick_t, Pick_f, Pick_pos, Pick_neg, Gd_tt, Gd_tf, Gd_ft, Gd_ff, Gd_pos_t, Gd_neg_t, Gd_pos_f, Gd_neg_f, Gd_undef, If_t, If_f, If_pos, If_neg, CallF_eq, Max_two, Min_two, Len_rd, Len_own, Ld_blkE, Idx_rdN, Idx_ownN, Idx_rdE, Idx_ownE, IdxAE, LdA_two, Idx_at0, Ext_atE, Len_at, Int.toNat_natCast, Int.toNat_zero, Int.toNat_one, List.length_map, List.length_append, List.length_cons, List.length_nil, List.length_take, List.length_set, List.length_replicate, Bool.not_true, Bool.not_false, decide_true, decide_false, BEq.rfl, bne_self_eq_false, tf_beq, ft_beq, tf_bne, ft_bne, not_true_eq_false, not_false_eq_true, app]
        exact hJ
      | false =>
        rw [e, if_neg (by simp)] at hJ
        try simp (disch := first | assumption | omega | (apply At.mk; with_unfolding_all rfl)) only [↓go_eq, ↓ent_eq, Mv, NilC_at, Fld_at, add_mk, Nat.zero_add, Nat.add_zero, Add64, Sub64, Mul64, Quo64, Rem64, Neg64, Cvt64, CvtU8, CvtU16, CvtU32, CvtU64, AddU64, SubU64, MulU64, Shr64, Shr_u8, Shr_u16, Shr_u32, Shr_u64, And1, And31, And32, Eql64, Neq64, Bin_lss, Bin_leq, Bin_gtr, Bin_geq, Bin_bool_eql, Bin_bool_neq, Bin_ptr_nil_eql, Bin_ptr_nil_neq, Not_dec, Un_not, Pick_t, Pick_f, Pick_pos, Pick_neg, Gd_tt, Gd_tf, Gd_ft, Gd_ff, Gd_pos_t, Gd_neg_t, Gd_pos_f, Gd_neg_f, Gd_undef, If_t, If_f, If_pos, If_neg, CallF_eq, Max_two, Min_two, Len_rd, Len_own, Ld_blkE, Idx_rdN, Idx_ownN, Idx_rdE, Idx_ownE, IdxAE, LdA_two, Idx_at0, Ext_atE, Len_at, Int.toNat_natCast, Int.toNat_zero, Int.toNat_one, List.length_map, List.length_append, List.length_cons, List.length_nil, List.length_take, List.length_set, List.length_replicate, Bool.not_true, Bool.not_false, decide_true, decide_false, BEq.rfl, bne_self_eq_false, tf_beq, ft_beq, tf_bne, ft_bne, not_true_eq_false, not_false_eq_true, app]
        exact hJ
    · rintro - h15 rfl
      have hcm := cmg_ok (a := st0) (n := n) hl2.1 hl2.2
      obtain ⟨q1, q2, q3, q4⟩ := litT_cmg (a := st0) (v := l) hl2.1 (by omega)
      generalize cmg st0 l = x at *
      have hx := hcm.1
      obtain ⟨hx0', hx1', hx2'⟩ := hx
      try simp (disch := first | assumption | omega | (apply At.mk; with_unfolding_all rfl)) only [↓go_eq, ↓ent_eq, Mv, NilC_at, Fld_at, add_mk, Nat.zero_add, Nat.add_zero, Add64, Sub64, Mul64, Quo64, Rem64, Neg64, Cvt64, CvtU8, CvtU16, CvtU32, CvtU64, AddU64, SubU64, MulU64, Shr64, Shr_u8, Shr_u16, Shr_u32, Shr_u64, And1, And31, And32, Eql64, Neq64, Bin_lss, Bin_leq, Bin_gtr, Bin_geq, Bin_bool_eql, Bin_bool_neq, Bin_ptr_nil_eql, Bin_ptr_nil_neq, Not_dec, Un_not, Pick_t, Pick_f, Pick_pos, Pick_neg, Gd_tt, Gd_tf, Gd_ft, Gd_ff, Gd_pos_t, Gd_neg_t, Gd_pos_f, Gd_neg_f, Gd_undef, If_t, If_f, If_pos, If_neg, CallF_eq, Max_two, Min_two, Len_rd, Len_own, Ld_blkE, Idx_rdN, Idx_ownN, Idx_rdE, Idx_ownE, IdxAE, LdA_two, Idx_at0, Ext_atE, Len_at, Int.toNat_natCast, Int.toNat_zero, Int.toNat_one, List.length_map, List.length_append, List.length_cons, List.length_nil, List.length_take, List.length_set, List.length_replicate, Bool.not_true, Bool.not_false, decide_true, decide_false, BEq.rfl, bne_self_eq_false, tf_beq, ft_beq, tf_bne, ft_bne, not_true_eq_false, not_false_eq_true, app]
      refine BldS_one rfl rfl fun h16 o16 f16 s16 => ?_
      try simp (disch := first | assumption | omega | (apply At.mk; with_unfolding_all rfl)) only [↓go_eq, ↓ent_eq, Mv, NilC_at, Fld_at, add_mk, Nat.zero_add, Nat.add_zero, Add64, Sub64, Mul64, Quo64, Rem64, Neg64, Cvt64, CvtU8, CvtU16, CvtU32, CvtU64, AddU64, SubU64, MulU64, Shr64, Shr_u8, Shr_u16, Shr_u32, Shr_u64, And1, And31, And32, Eql64, Neq64, Bin_lss, Bin_leq, Bin_gtr, Bin_geq, Bin_bool_eql, Bin_bool_neq, Bin_ptr_nil_eql, Bin_ptr_nil_neq, Not_dec, Un_not, Pick_t, Pick_f, Pick_pos, Pick_neg, Gd_tt, Gd_tf, Gd_ft, Gd_ff, Gd_pos_t, Gd_neg_t, Gd_pos_f, Gd_neg_f, Gd_undef, If_t, If_f, If_pos, If_neg, CallF_eq, Max_two, Min_two, Len_rd, Len_own, Ld_blkE, Idx_rdN, Idx_ownN, Idx_rdE, Idx_ownE, IdxAE, LdA_two, Idx_at0, Ext_atE, Len_at, Int.toNat_natCast, Int.toNat_zero, Int.toNat_one, List.length_map, List.length_append, List.length_cons, List.length_nil, List.length_take, List.length_set, List.length_replicate, Bool.not_true, Bool.not_false, decide_true, decide_false, BEq.rfl, bne_self_eq_false, tf_beq, ft_beq, tf_bne, ft_bne, not_true_eq_false, not_false_eq_true, app]
      refine BldS_one rfl o16.rd.isCell fun h17 o17 f17 s17 => ?_
      have rC : RdL h17 _ [[x]] _ := wk_rdl o17.rd (o16.rd.fr f17)
      have f1417 := f16.trans f17
      try simp (disch := first | assumption | omega | (apply At.mk; with_unfolding_all rfl)) only [↓go_eq, ↓ent_eq, Mv, NilC_at, Fld_at, add_mk, Nat.zero_add, Nat.add_zero, Add64, Sub64, Mul64, Quo64, Rem64, Neg64, Cvt64, CvtU8, CvtU16, CvtU32, CvtU64, AddU64, SubU64, MulU64, Shr64, Shr_u8, Shr_u16, Shr_u32, Shr_u64, And1, And31, And32, Eql64, Neq64, Bin_lss, Bin_leq, Bin_gtr, Bin_geq, Bin_bool_eql, Bin_bool_neq, Bin_ptr_nil_eql, Bin_ptr_nil_neq, Not_dec, Un_not, Pick_t, Pick_f, Pick_pos, Pick_neg, Gd_tt, Gd_tf, Gd_ft, Gd_ff, Gd_pos_t, Gd_neg_t, Gd_pos_f, Gd_neg_f, Gd_undef, If_t, If_f, If_pos, If_neg, CallF_eq, Max_two, Min_two, Len_rd, Len_own, Ld_blkE, Idx_rdN, Idx_ownN, Idx_rdE, Idx_ownE, IdxAE, LdA_two, Idx_at0, Ext_atE, Len_at, Int.toNat_natCast, Int.toNat_zero, Int.toNat_one, List.length_map, List.length_append, List.length_cons, List.length_nil, List.length_take, List.length_set, List.length_replicate, Bool.not_true, Bool.not_false, decide_true, decide_false, BEq.rfl, bne_self_eq_false, tf_beq, ft_beq, tf_bne, ft_bne, not_true_eq_false, not_false_eq_true, app]
      rw [Bld_two rfl o17.rd.isCell]
      have hok1 : FOk n [[x]] := fun c hc y hy => by simp at hc; subst hc; simp at hy; subst hy; exact hcm.1
      refine local_New.spec5 (by omega) (by simp) (by simp) hok1 rC (oa14.fr f1417 (by simp)).rd hal fun h18 sb M R m t hrow f18 => ?_
      have hG := GF_fmT (n := n) hok1 (by simp)
      rw [fm_one hx0'] at t hrow hG
      have hs17 := hs14.fr f1417 (by simp)
      have S17 : Sep h10.size h17 1 (fun _ => rStr g s' Fp) := ⟨fun _ _ => hs17, fun _ _ => hFp, fun i j hi hj hij => absurd (show i = j by omega) hij⟩
      have z1 := f1012.size
      have z2 := f1214.size
      have z3 := f1417.size
      obtain ⟨R2, tt, eR⟩ := st_over S17 t f18 (by omega) (Nat.le_refl _)
      have k18 : Wst h10.size h18 (1 + M) R2 1 sb n [[x]] _ m 0 g s' Fp := ⟨tt, by omega, by omega, eR 0 (by decide)⟩
      have hrow0 : row0 st0 [[x]] = [0] := by
        unfold row0
        have : hB (litT st0) [x] = 0 := by rw [hB_single, q1]; rfl
        simp [List.range_succ, this]
      rw [hrow0] at hrow
      have bw18 := (bw14.fr f1417 (by simp)).fr f18 (by simp)
      try simp (disch := first | assumption | omega | (apply At.mk; with_unfolding_all rfl)) only [↓go_eq, ↓ent_eq, Mv, NilC_at, Fld_at, add_mk, Nat.zero_add, Nat.add_zero, Add64, Sub64, Mul64, Quo64, Rem64, Neg64, Cvt64, CvtU8, CvtU16, CvtU32, CvtU64, AddU64, SubU64, MulU64, Shr64, Shr_u8, Shr_u16, Shr_u32, Shr_u64, And1, And31, And32, Eql64, Neq64, Bin_lss, Bin_leq, Bin_gtr, Bin_geq, Bin_bool_eql, Bin_bool_neq, Bin_ptr_nil_eql, Bin_ptr_nil_neq, Not_dec, Un_not, Pick_t, Pick_f, Pick_pos, Pick_neg, Gd_tt, Gd_tf, Gd_ft, Gd_ff, Gd_pos_t, Gd_neg_t, Gd_pos_f, Gd_neg_f, Gd_undef, If_t, If_f, If_pos, If_neg, CallF_eq, Max_two, Min_two, Len_rd, Len_own, Ld_blkE, Idx_rdN, Idx_ownN, Idx_rdE, Idx_ownE, IdxAE, LdA_two, Idx_at0, Ext_atE, Len_at, Int.toNat_natCast, Int.toNat_zero, Int.toNat_one, List.length_map, List.length_append, List.length_cons, List.length_nil, List.length_take, List.length_set, List.length_replicate, Bool.not_true, Bool.not_false, decide_true, decide_false, BEq.rfl, bne_self_eq_false, tf_beq, ft_beq, tf_bne, ft_bne, not_true_eq_false, not_false_eq_true, app]
      rw [LdA_three bw18]
      refine walk_Step.spec hW k18 hG ⟨Int.le_refl _, by show (0 : Int) ≤ _; decide⟩ (by omega) (by omega) fun h19 R3 m3 k19 hR3 f19 er => ?_
      rw [hrow, step_one hW] at k19 ⊢
      rw [hcm.2.2] at k19 ⊢
      have f1019 : Fr [] h10 h19 := FrN.fr f19 (((f1012.trans f1214).trans f1417).trans f18) (Nat.le_refl _)
      have hKK := hk h19 (f010.trans f1019)
      have emx : max x (-x) = (l : Int) := by rw [max_abs, hcm.2.2]
      rw [emx]
      try simp (disch := first | assumption | omega | (apply At.mk; with_unfolding_all rfl)) only [↓go_eq, ↓ent_eq, Mv, NilC_at, Fld_at, add_mk, Nat.zero_add, Nat.add_zero, Add64, Sub64, Mul64, Quo64, Rem64, Neg64, Cvt64, CvtU8, CvtU16, CvtU32, CvtU64, AddU64, SubU64, MulU64, Shr64, Shr_u8, Shr_u16, Shr_u32, Shr_u64, And1, And31, And32, Eql64, Neq64, Bin_lss, Bin_leq, Bin_gtr, Bin_geq, Bin_bool_eql, Bin_bool_neq, Bin_ptr_nil_eql, Bin_ptr_nil_neq, Not_dec, Un_not, Pick_t, Pick_f, Pick_pos, Pick_neg, Gd_tt, Gd_tf, Gd_ft, Gd_ff, Gd_pos_t, Gd_neg_t, Gd_pos_f, Gd_neg_f, Gd_undef, If_t, If_f, If_pos, If_neg, CallF_eq, Max_two, Min_two, Len_rd, Len_own, Ld_blkE, Idx_rdN, Idx_ownN, Idx_rdE, Idx_ownE, IdxAE, LdA_two, Idx_at0, Ext_atE, Len_at, Int.toNat_natCast, Int.toNat_zero, Int.toNat_one, List.length_map, List.length_append, List.length_cons, List.length_nil, List.length_take, List.length_set, List.length_replicate, Bool.not_true, Bool.not_false, decide_true, decide_false, BEq.rfl, bne_self_eq_false, tf_beq, ft_beq, tf_bne, ft_bne, not_true_eq_false, not_false_eq_true, app]
      refine unsat_w k19.t ?_
      have hun : unT ((⟨st0, st0, (unT st0 [[x]] : Nat), 0⟩ : W).flip n [[x]] (l : Int)).a [[x]] = 0 := by
        unfold W.flip
        rw [if_pos ⟨by omega, by omega⟩]
        show unT (flp st0 ((l : Nat) : Int).toNat) [[x]] = 0
        rw [Int.toNat_natCast]
        unfold unT
        rw [List.countP_eq_zero]
        intro c hc
        simp at hc; subst hc
        rw [hB_single, q3]; simp
      rw [hun]
      try simp (disch := first | assumption | omega | (apply At.mk; with_unfolding_all rfl)) only [↓go_eq, ↓ent_eq, Mv, NilC_at, Fld_at, add_mk, Nat.zero_add, Nat.add_zero, Add64, Sub64, Mul64, Quo64, Rem64, Neg64, Cvt64, CvtU8, CvtU16, CvtU32, CvtU64, AddU64, SubU64, MulU64, Shr64, Shr_u8, Shr_u16, Shr_u32, Shr_u64, And1, And31, And32, Eql64, Neq64, Bin_lss, Bin_leq, Bin_gtr, Bin_geq, Bin_bool_eql, Bin_bool_neq, Bin_ptr_nil_eql, Bin_ptr_nil_neq, Not_dec, Un_not, Pick_t, Pick_f, Pick_pos, Pick_neg, Gd_tt, Gd_tf, Gd_ft, Gd_ff, Gd_pos_t, Gd_neg_t, Gd_pos_f, Gd_neg_f, Gd_undef, If_t, If_f, If_pos, If_neg, CallF_eq, Max_two, Min_two, Len_rd, Len_own, Ld_blkE, Idx_rdN, Idx_ownN, Idx_rdE, Idx_ownE, IdxAE, LdA_two, Idx_at0, Ext_atE, Len_at, Int.toNat_natCast, Int.toNat_zero, Int.toNat_one, List.length_map, List.length_append, List.length_cons, List.length_nil, List.length_take, List.length_set, List.length_replicate, Bool.not_true, Bool.not_false, decide_true, decide_false, BEq.rfl, bne_self_eq_false, tf_beq, ft_beq, tf_bne, ft_bne, not_true_eq_false, not_false_eq_true, app]
      exact hKK
theorem bradawllaw15_WalkRests.law {h : Heap} {a0 : Int × List (List Int)} {cs : Array Value} {a1 : List Int} {cs1 : Array Value} {a2 : Int} {v2 : Value} (r0 : rRaw.is h a0 cs.toList) (r1 : (rArr 3 (rInt .u32) 1).is h a1 cs1.toList) (r2 : (rInt .u8).is h a2 [v2]) :
    CallH Try.prog bradawllaw15_WalkRests.id #[.agg cs, .agg cs1, v2] (fun v h' => v = .bool true ∧ Fr [] h h') h := by
  obtain ⟨v, ws, rfl, h1, h2, h3⟩ := raw_arg r0
  obtain ⟨x, y, z, rfl, hx, hy, hz⟩ := triple_arg r1
  obtain ⟨rfl, h4, h5⟩ := int_arg r2
  exact bradawllaw15_WalkRests.spec h1 hx hy hz ⟨h4, h5⟩ h2 h3 fun h' f => ⟨rfl, f⟩
end Go.Proofs.Ytonngdjfnnibaaa
