/- The law CnfTurned. No condition but that the arguments lie in memory, laid by Go. -/
import Derived.Test.YtgcifnnaikcimaaCf6
namespace Go.Proofs.Ytgcifnnaikcimaa
open Go.Pt
set_option linter.unusedVariables false
set_option linter.unusedSimpArgs false
set_option maxHeartbeats 8000000 in
theorem bradawllaw02_CnfTurned.spec {a t1 t2 : Int} {xss : List (List Int)} {ws : List Value} {v : Value} (ha : 0 ≤ a ∧ a ≤ 255) (h16 : 0 ≤ t1 ∧ t1 ≤ 65535) (h8 : 0 ≤ t2 ∧ t2 ≤ 255) (hcl : ∀ c ∈ xss, c.length ≤ 140737488351232) {K : Ret} {h : Heap} (hv : RdX (.int .i16) h v xss ws) (hk : ∀ h', Fr [] h h' → K (.bool true) h') : CallH Try.prog bradawllaw02_CnfTurned.id #[.agg #[.int .u8 a, v], .int .u16 t1, .int .u8 t2] K h := by
  refine bradawllaw02_CnfTurned.ok ?_
  simp only [bradawllaw02_CnfTurned.pt]
  have hvc := hv.rd.isCell
  rw [go_eq]
  refine New_blk fun h1 b1 f1 s1 => ?_
  have b1 : Blk h1 h.size [.int .u8 a, v] := b1
  rw [go_eq, CallF_eq]
  refine bradawllaw02_fit.spec fun h2 f2 => ?_
  have b2 := b1.fr f2 (by simp)
  rw [go_eq, Un_not, Bool.not_true, If_f, go_eq, LdA_two b2, go_eq, CallF_eq]
  refine bradawllaw02_Raw_Light.spec (m := 40) (by decide) hcl ((hv.fr f1).fr f2) fun h3 f3 => ⟨fun hL => ?_, ?_⟩
  rotate_left
  · rw [go_eq, Un_not, Bool.not_false, If_t]
    exact hk h3 ((f1.trans f2).trans f3)
  rw [go_eq, Un_not, Bool.not_true, If_f]
  obtain ⟨hL1, hL2⟩ := hL
  have b3 := b2.fr f3 (by simp)
  have f03 := (f1.trans f2).trans f3
  have hI : Mem ⟨h3, h.size, a, v, xss, ws, 9, 9⟩ [] h3 := ⟨Fr.refl _ _, b3, hv.fr f03, ⟨ha, by show 9 ≤ 1000; decide, by show 9 ≤ 1000; decide, by show xss.length ≤ _; omega, fun c hc => by have := hL2 c hc; omega⟩, fun i x hx => (by cases hx), fun i j x y hx => (by cases hx)⟩
  refine Jn_fn (σ := PR) (fun x => [.int .u16 t1, .int .u8 t2, ptr x.b1, ptr x.b2]) (fun x h' => Pair ⟨h3, h.size, a, v, xss, ws, 9, 9⟩ x h') ?_ ?_
  · intro J hJ
    repeat' first
      | refine Mem.new hI fun b h hI => ?_
      | refine Mem.call hI fun u b0 ps h hI hu => ?_
      | refine Mem.lda hI ?_
      | refine Mem.sta0 hI (by assumption) fun h hI => ?_
      | refine Mem.sta1 hI (by assumption) fun h hI => ?_
      | refine Mem.sta2 hI (by assumption) fun h hI => ?_
      | refine Mem.sta3 hI (by assumption) fun h hI => ?_
      | refine And.intro ?_ ?_
      | exact hJ ⟨_, _, _, _, _, _, _, _⟩ _ (Mem.pair hI (by first | exact it0 | exact it1 | exact it2 | exact it3) (by first | exact it0 | exact it1 | exact it2 | exact it3) (by first | exact it0 | exact it1 | exact it2 | exact it3) (by first | exact it0 | exact it1 | exact it2 | exact it3) (by decide) (by decide))
  · rintro ⟨fb, gb, u1, c1, p1, u2, c2, p2⟩ h4 ⟨f4, w1, w2, ⟨N1, o1⟩, ⟨N2, o2⟩, e1, e2, lo, ⟨d0, d1, d2, d3, d4⟩, dd⟩
    simp only [MP.k, MP.cs] at *
    have hok := rawF_ok (a % (((9 : Nat) : Int) + 1)).toNat 9 xss
    have hlen := rawF_len (a % (((9 : Nat) : Int) + 1)).toNat 9 xss
    have hcl9 := rawF_cl (a % (((9 : Nat) : Int) + 1)).toNat 9 xss
    have hn9 : (a % (((9 : Nat) : Int) + 1)).toNat ≤ 9 := by omega
    generalize rawF (a % (((9 : Nat) : Int) + 1)).toNat 9 xss = cs at *
    generalize (a % (((9 : Nat) : Int) + 1)).toNat = n at *
    have f04 := f03.trans f4
    have z3 := f03.size
    have hll : ∀ c ∈ cs, c.length ≤ 1000000000 := fun c hc => by have := hcl9 c hc; omega
    by_cases cn : (n : Int) = 0
    · try simp (disch := first | assumption | omega | (apply At.mk; with_unfolding_all rfl)) only [↓go_eq, ↓ent_eq, Mv, NilC_at, Fld_at, add_mk, Nat.zero_add, Nat.add_zero, Add64, Sub64, Mul64, Quo64, Rem64, Neg64, Cvt64, CvtU8, CvtU16, CvtU32, CvtU64, AddU64, SubU64, MulU64, Shr64, Shr_u8, Shr_u16, Shr_u32, Shr_u64, And1, And31, And32, Eql64, Neq64, Bin_lss, Bin_leq, Bin_gtr, Bin_geq, Bin_bool_eql, Bin_bool_neq, Bin_ptr_nil_eql, Bin_ptr_nil_neq, Not_dec, Un_not, Pick_t, Pick_f, Pick_pos, Pick_neg, Gd_tt, Gd_tf, Gd_ft, Gd_ff, Gd_pos_t, Gd_neg_t, Gd_pos_f, Gd_neg_f, Gd_undef, If_t, If_f, If_pos, If_neg, CallF_eq, Max_two, Min_two, Len_rd, Len_own, Ld_blkE, Idx_rdN, Idx_ownN, Idx_rdE, Idx_ownE, IdxAE, LdA_two, Idx_at0, Ext_atE, Len_at, Int.toNat_natCast, Int.toNat_zero, Int.toNat_one, List.length_map, List.length_append, List.length_cons, List.length_nil, List.length_take, List.length_set, List.length_replicate, Bool.not_true, Bool.not_false, decide_true, decide_false, BEq.rfl, bne_self_eq_false, tf_beq, ft_beq, tf_bne, ft_bne, not_true_eq_false, not_false_eq_true, app]
      exact hk h4 f04
    have r2 := o2.rdl
    have hrd2 := r2.rd
    have hl2 := r2.len
    rw [e2] at hl2
    have hx0 := Int.emod_nonneg t2 (show (n : Int) ≠ 0 by omega)
    have hx1 := Int.emod_lt_of_pos t2 (show (0 : Int) < n by omega)
    obtain ⟨x, hx⟩ : ∃ x : Nat, 1 + t2 % (n : Int) = x := ⟨(1 + t2 % (n : Int)).toNat, by omega⟩
    have hxn : 1 ≤ x ∧ x ≤ n := by omega
    try simp (disch := first | assumption | omega | (apply At.mk; with_unfolding_all rfl)) only [hl2, ↓go_eq, ↓ent_eq, Mv, NilC_at, Fld_at, add_mk, Nat.zero_add, Nat.add_zero, Add64, Sub64, Mul64, Quo64, Rem64, Neg64, Cvt64, CvtU8, CvtU16, CvtU32, CvtU64, AddU64, SubU64, MulU64, Shr64, Shr_u8, Shr_u16, Shr_u32, Shr_u64, And1, And31, And32, Eql64, Neq64, Bin_lss, Bin_leq, Bin_gtr, Bin_geq, Bin_bool_eql, Bin_bool_neq, Bin_ptr_nil_eql, Bin_ptr_nil_neq, Not_dec, Un_not, Pick_t, Pick_f, Pick_pos, Pick_neg, Gd_tt, Gd_tf, Gd_ft, Gd_ff, Gd_pos_t, Gd_neg_t, Gd_pos_f, Gd_neg_f, Gd_undef, If_t, If_f, If_pos, If_neg, CallF_eq, Max_two, Min_two, Len_rd, Len_own, Ld_blkE, Idx_rdN, Idx_ownN, Idx_rdE, Idx_ownE, IdxAE, LdA_two, Idx_at0, Ext_atE, Len_at, Int.toNat_natCast, Int.toNat_zero, Int.toNat_one, List.length_map, List.length_append, List.length_cons, List.length_nil, List.length_take, List.length_set, List.length_replicate, Bool.not_true, Bool.not_false, decide_true, decide_false, BEq.rfl, bne_self_eq_false, tf_beq, ft_beq, tf_bne, ft_bne, not_true_eq_false, not_false_eq_true, app]
    rw [hx]
    refine Lp_fn (σ := Nat × Ps) (fun s => [.int .u16 t1, ptr fb, ptr gb, Iv (x : Nat), u2, Iv (cs.length : Nat), Iv (s.1 : Nat)]) (fun s h' => s.1 ≤ cs.length ∧ OwnF h' u2 N2 c2 s.2 ∧ cls s.2 = half (fl x) s.1 cs ∧ ofp c2 s.2 = ofp c2 p2 ∧ Fr (ofp c2 p2) h4 h') (fun s => cs.length - s.1) (0, p2) rfl (fun _ => rfl) ⟨Nat.zero_le _, o2, by rw [half_zero]; exact e2, rfl, Fr.refl _ _⟩ ?_
    clear r2 hrd2
    rintro ⟨i, ps⟩ h5 ⟨hi, o5, ec5, eo5, f5⟩ X hX
    simp only at hi o5 ec5 eo5
    have hpl : (ps.map (·.1)).length = cs.length := by
      have := congrArg List.length ec5
      simp only [cls, List.length_map, half, List.length_append, List.length_take, List.length_drop] at this
      rw [List.length_map]; omega
    by_cases c1' : (i : Int) < (cs.length : Nat)
    · have hg : cs[i]? = some cs[i] := List.getElem?_eq_getElem (by omega)
      have hmem : cs[i] ∈ cs := List.getElem_mem _
      have hcl := hcl9 _ hmem
      have hokc := hok _ hmem
      generalize cs[i] = c at *
      rw [half_at hg] at ec5
      obtain ⟨w, bs, hp⟩ := cls_at (by rw [ec5]; exact turned_at (by omega))
      have hrd5 := o5.rdl.rd
      have aw : At (ps.map (·.1)) i w := ⟨by rw [List.getElem?_map, hp]; rfl⟩
      have ow := (o5.each _ (List.mem_of_getElem? hp)).rd
      simp only at ow
      try simp (disch := first | assumption | omega | (apply At.mk; with_unfolding_all rfl)) only [↓go_eq, ↓ent_eq, Mv, NilC_at, Fld_at, add_mk, Nat.zero_add, Nat.add_zero, Add64, Sub64, Mul64, Quo64, Rem64, Neg64, Cvt64, CvtU8, CvtU16, CvtU32, CvtU64, AddU64, SubU64, MulU64, Shr64, Shr_u8, Shr_u16, Shr_u32, Shr_u64, And1, And31, And32, Eql64, Neq64, Bin_lss, Bin_leq, Bin_gtr, Bin_geq, Bin_bool_eql, Bin_bool_neq, Bin_ptr_nil_eql, Bin_ptr_nil_neq, Not_dec, Un_not, Pick_t, Pick_f, Pick_pos, Pick_neg, Gd_tt, Gd_tf, Gd_ft, Gd_ff, Gd_pos_t, Gd_neg_t, Gd_pos_f, Gd_neg_f, Gd_undef, If_t, If_f, If_pos, If_neg, CallF_eq, Max_two, Min_two, Len_rd, Len_own, Ld_blkE, Idx_rdN, Idx_ownN, Idx_rdE, Idx_ownE, IdxAE, LdA_two, Idx_at0, Ext_atE, Len_at, Int.toNat_natCast, Int.toNat_zero, Int.toNat_one, List.length_map, List.length_append, List.length_cons, List.length_nil, List.length_take, List.length_set, List.length_replicate, Bool.not_true, Bool.not_false, decide_true, decide_false, BEq.rfl, bne_self_eq_false, tf_beq, ft_beq, tf_bne, ft_bne, not_true_eq_false, not_false_eq_true, app]
      refine Lp_fn (σ := Nat × Ps) (fun s => [.int .u16 t1, ptr fb, ptr gb, Iv (x : Nat), w, u2, Iv (cs.length : Nat), Iv (i : Nat), w, Iv (c.length : Nat), Iv (s.1 : Nat)]) (fun s h' => s.1 ≤ c.length ∧ OwnF h' u2 N2 c2 s.2 ∧ cls s.2 = turned (fl x) i (mix (fl x) s.1 c) cs ∧ s.2[i]? = some (w, mix (fl x) s.1 c, bs) ∧ ofp c2 s.2 = ofp c2 p2 ∧ Fr (ofp c2 p2) h4 h') (fun s => c.length - s.1) (0, ps) rfl (fun _ => rfl) ⟨Nat.zero_le _, o5, by rw [mix_zero]; exact ec5, by rw [mix_zero]; exact hp, eo5, f5⟩ ?_
      clear hrd5 ow aw hp o5 ec5 eo5 f5 hpl
      rintro ⟨k, ps⟩ h6 ⟨hk', o6, ec6, hp, eo6, f6⟩ Y hY
      simp only at hk' o6 ec6 hp eo6
      by_cases c2' : (k : Int) < (c.length : Nat)
      · have hgk : c[k]? = some c[k] := List.getElem?_eq_getElem (by omega)
        have hokl := hokc _ (List.getElem_mem (by omega : k < c.length))
        generalize c[k] = l at *
        have hbd : -9 ≤ l ∧ l ≤ 9 := by obtain ⟨_, b, d⟩ := hokl; omega
        have ow := (o6.each _ (List.mem_of_getElem? hp)).rd
        simp only at ow
        have al := At.map (f := Iv) (mix_at (f := fl x) hgk)
        try simp (disch := first | assumption | omega | (apply At.mk; with_unfolding_all rfl)) only [↓go_eq, ↓ent_eq, Mv, NilC_at, Fld_at, add_mk, Nat.zero_add, Nat.add_zero, Add64, Sub64, Mul64, Quo64, Rem64, Neg64, Cvt64, CvtU8, CvtU16, CvtU32, CvtU64, AddU64, SubU64, MulU64, Shr64, Shr_u8, Shr_u16, Shr_u32, Shr_u64, And1, And31, And32, Eql64, Neq64, Bin_lss, Bin_leq, Bin_gtr, Bin_geq, Bin_bool_eql, Bin_bool_neq, Bin_ptr_nil_eql, Bin_ptr_nil_neq, Not_dec, Un_not, Pick_t, Pick_f, Pick_pos, Pick_neg, Gd_tt, Gd_tf, Gd_ft, Gd_ff, Gd_pos_t, Gd_neg_t, Gd_pos_f, Gd_neg_f, Gd_undef, If_t, If_f, If_pos, If_neg, CallF_eq, Max_two, Min_two, Len_rd, Len_own, Ld_blkE, Idx_rdN, Idx_ownN, Idx_rdE, Idx_ownE, IdxAE, LdA_two, Idx_at0, Ext_atE, Len_at, Int.toNat_natCast, Int.toNat_zero, Int.toNat_one, List.length_map, List.length_append, List.length_cons, List.length_nil, List.length_take, List.length_set, List.length_replicate, Bool.not_true, Bool.not_false, decide_true, decide_false, BEq.rfl, bne_self_eq_false, tf_beq, ft_beq, tf_bne, ft_bne, not_true_eq_false, not_false_eq_true, app]
        refine Jn_fn (σ := Ps) (fun _ => [.int .u16 t1, ptr fb, ptr gb, Iv (x : Nat), w, u2, Iv (cs.length : Nat), Iv (i : Nat), w, Iv (c.length : Nat), Iv (k : Nat)]) (fun s h' => OwnF h' u2 N2 c2 s ∧ cls s = turned (fl x) i (mix (fl x) (k + 1) c) cs ∧ s[i]? = some (w, mix (fl x) (k + 1) c, bs) ∧ ofp c2 s = ofp c2 p2 ∧ Fr (ofp c2 p2) h4 h') ?_ ?_
        · intro J hJ
          have chg : fl x l = -l → ∀ h', OwnF h' u2 N2 c2 (ps.set i (w, (mix (fl x) k c).set k (-l), bs)) → Fr (ofp c2 ps) h6 h' → app 11 J [.int .u16 t1, ptr fb, ptr gb, Iv (x : Nat), w, u2, Iv (cs.length : Nat), Iv (i : Nat), w, Iv (c.length : Nat), Iv (k : Nat)] h' := by
            intro e h' o f
            rw [← e, mix_set hgk] at o
            have hil : i < ps.length := by
              rcases Nat.lt_or_ge i ps.length with y | y
              · exact y
              · rw [List.getElem?_eq_none y] at hp; cases hp
            exact hJ _ h' ⟨o, by rw [cls_set, ec6, turned_set (by omega)], List.getElem?_set_self hil, by rw [ofp_set hp]; exact eo6, f6.trans (eo6 ▸ f)⟩
          have keep : fl x l = l → app 11 J [.int .u16 t1, ptr fb, ptr gb, Iv (x : Nat), w, u2, Iv (cs.length : Nat), Iv (i : Nat), w, Iv (c.length : Nat), Iv (k : Nat)] h6 := by
            intro e
            have em := mix_same hgk e
            exact hJ ps h6 ⟨o6, by rw [em]; exact ec6, by rw [em]; exact hp, eo6, f6⟩
          by_cases q1 : l = x
          · try simp (disch := first | assumption | omega | (apply At.mk; with_unfolding_all rfl)) only [↓go_eq, ↓ent_eq, Mv, NilC_at, Fld_at, add_mk, Nat.zero_add, Nat.add_zero, Add64, Sub64, Mul64, Quo64, Rem64, Neg64, Cvt64, CvtU8, CvtU16, CvtU32, CvtU64, AddU64, SubU64, MulU64, Shr64, Shr_u8, Shr_u16, Shr_u32, Shr_u64, And1, And31, And32, Eql64, Neq64, Bin_lss, Bin_leq, Bin_gtr, Bin_geq, Bin_bool_eql, Bin_bool_neq, Bin_ptr_nil_eql, Bin_ptr_nil_neq, Not_dec, Un_not, Pick_t, Pick_f, Pick_pos, Pick_neg, Gd_tt, Gd_tf, Gd_ft, Gd_ff, Gd_pos_t, Gd_neg_t, Gd_pos_f, Gd_neg_f, Gd_undef, If_t, If_f, If_pos, If_neg, CallF_eq, Max_two, Min_two, Len_rd, Len_own, Ld_blkE, Idx_rdN, Idx_ownN, Idx_rdE, Idx_ownE, IdxAE, LdA_two, Idx_at0, Ext_atE, Len_at, Int.toNat_natCast, Int.toNat_zero, Int.toNat_one, List.length_map, List.length_append, List.length_cons, List.length_nil, List.length_take, List.length_set, List.length_replicate, Bool.not_true, Bool.not_false, decide_true, decide_false, BEq.rfl, bne_self_eq_false, tf_beq, ft_beq, tf_bne, ft_bne, not_true_eq_false, not_false_eq_true, app]
            refine o6.put hp (by rw [mix_len]; omega) fun h7 o7 f7 => ?_
            try simp (disch := first | assumption | omega | (apply At.mk; with_unfolding_all rfl)) only [↓go_eq, ↓ent_eq, Mv, NilC_at, Fld_at, add_mk, Nat.zero_add, Nat.add_zero, Add64, Sub64, Mul64, Quo64, Rem64, Neg64, Cvt64, CvtU8, CvtU16, CvtU32, CvtU64, AddU64, SubU64, MulU64, Shr64, Shr_u8, Shr_u16, Shr_u32, Shr_u64, And1, And31, And32, Eql64, Neq64, Bin_lss, Bin_leq, Bin_gtr, Bin_geq, Bin_bool_eql, Bin_bool_neq, Bin_ptr_nil_eql, Bin_ptr_nil_neq, Not_dec, Un_not, Pick_t, Pick_f, Pick_pos, Pick_neg, Gd_tt, Gd_tf, Gd_ft, Gd_ff, Gd_pos_t, Gd_neg_t, Gd_pos_f, Gd_neg_f, Gd_undef, If_t, If_f, If_pos, If_neg, CallF_eq, Max_two, Min_two, Len_rd, Len_own, Ld_blkE, Idx_rdN, Idx_ownN, Idx_rdE, Idx_ownE, IdxAE, LdA_two, Idx_at0, Ext_atE, Len_at, Int.toNat_natCast, Int.toNat_zero, Int.toNat_one, List.length_map, List.length_append, List.length_cons, List.length_nil, List.length_take, List.length_set, List.length_replicate, Bool.not_true, Bool.not_false, decide_true, decide_false, BEq.rfl, bne_self_eq_false, tf_beq, ft_beq, tf_bne, ft_bne, not_true_eq_false, not_false_eq_true, app]
            exact chg (by unfold fl; rw [if_pos (.inl q1)]) h7 o7 f7
          · by_cases q2 : l = -(x : Int)
            · try simp (disch := first | assumption | omega | (apply At.mk; with_unfolding_all rfl)) only [↓go_eq, ↓ent_eq, Mv, NilC_at, Fld_at, add_mk, Nat.zero_add, Nat.add_zero, Add64, Sub64, Mul64, Quo64, Rem64, Neg64, Cvt64, CvtU8, CvtU16, CvtU32, CvtU64, AddU64, SubU64, MulU64, Shr64, Shr_u8, Shr_u16, Shr_u32, Shr_u64, And1, And31, And32, Eql64, Neq64, Bin_lss, Bin_leq, Bin_gtr, Bin_geq, Bin_bool_eql, Bin_bool_neq, Bin_ptr_nil_eql, Bin_ptr_nil_neq, Not_dec, Un_not, Pick_t, Pick_f, Pick_pos, Pick_neg, Gd_tt, Gd_tf, Gd_ft, Gd_ff, Gd_pos_t, Gd_neg_t, Gd_pos_f, Gd_neg_f, Gd_undef, If_t, If_f, If_pos, If_neg, CallF_eq, Max_two, Min_two, Len_rd, Len_own, Ld_blkE, Idx_rdN, Idx_ownN, Idx_rdE, Idx_ownE, IdxAE, LdA_two, Idx_at0, Ext_atE, Len_at, Int.toNat_natCast, Int.toNat_zero, Int.toNat_one, List.length_map, List.length_append, List.length_cons, List.length_nil, List.length_take, List.length_set, List.length_replicate, Bool.not_true, Bool.not_false, decide_true, decide_false, BEq.rfl, bne_self_eq_false, tf_beq, ft_beq, tf_bne, ft_bne, not_true_eq_false, not_false_eq_true, app]
              refine o6.put hp (by rw [mix_len]; omega) fun h7 o7 f7 => ?_
              try simp (disch := first | assumption | omega | (apply At.mk; with_unfolding_all rfl)) only [↓go_eq, ↓ent_eq, Mv, NilC_at, Fld_at, add_mk, Nat.zero_add, Nat.add_zero, Add64, Sub64, Mul64, Quo64, Rem64, Neg64, Cvt64, CvtU8, CvtU16, CvtU32, CvtU64, AddU64, SubU64, MulU64, Shr64, Shr_u8, Shr_u16, Shr_u32, Shr_u64, And1, And31, And32, Eql64, Neq64, Bin_lss, Bin_leq, Bin_gtr, Bin_geq, Bin_bool_eql, Bin_bool_neq, Bin_ptr_nil_eql, Bin_ptr_nil_neq, Not_dec, Un_not, Pick_t, Pick_f, Pick_pos, Pick_neg, Gd_tt, Gd_tf, Gd_ft, Gd_ff, Gd_pos_t, Gd_neg_t, Gd_pos_f, Gd_neg_f, Gd_undef, If_t, If_f, If_pos, If_neg, CallF_eq, Max_two, Min_two, Len_rd, Len_own, Ld_blkE, Idx_rdN, Idx_ownN, Idx_rdE, Idx_ownE, IdxAE, LdA_two, Idx_at0, Ext_atE, Len_at, Int.toNat_natCast, Int.toNat_zero, Int.toNat_one, List.length_map, List.length_append, List.length_cons, List.length_nil, List.length_take, List.length_set, List.length_replicate, Bool.not_true, Bool.not_false, decide_true, decide_false, BEq.rfl, bne_self_eq_false, tf_beq, ft_beq, tf_bne, ft_bne, not_true_eq_false, not_false_eq_true, app]
              exact chg (by unfold fl; rw [if_pos (.inr q2)]) h7 o7 f7
            · try simp (disch := first | assumption | omega | (apply At.mk; with_unfolding_all rfl)) only [↓go_eq, ↓ent_eq, Mv, NilC_at, Fld_at, add_mk, Nat.zero_add, Nat.add_zero, Add64, Sub64, Mul64, Quo64, Rem64, Neg64, Cvt64, CvtU8, CvtU16, CvtU32, CvtU64, AddU64, SubU64, MulU64, Shr64, Shr_u8, Shr_u16, Shr_u32, Shr_u64, And1, And31, And32, Eql64, Neq64, Bin_lss, Bin_leq, Bin_gtr, Bin_geq, Bin_bool_eql, Bin_bool_neq, Bin_ptr_nil_eql, Bin_ptr_nil_neq, Not_dec, Un_not, Pick_t, Pick_f, Pick_pos, Pick_neg, Gd_tt, Gd_tf, Gd_ft, Gd_ff, Gd_pos_t, Gd_neg_t, Gd_pos_f, Gd_neg_f, Gd_undef, If_t, If_f, If_pos, If_neg, CallF_eq, Max_two, Min_two, Len_rd, Len_own, Ld_blkE, Idx_rdN, Idx_ownN, Idx_rdE, Idx_ownE, IdxAE, LdA_two, Idx_at0, Ext_atE, Len_at, Int.toNat_natCast, Int.toNat_zero, Int.toNat_one, List.length_map, List.length_append, List.length_cons, List.length_nil, List.length_take, List.length_set, List.length_replicate, Bool.not_true, Bool.not_false, decide_true, decide_false, BEq.rfl, bne_self_eq_false, tf_beq, ft_beq, tf_bne, ft_bne, not_true_eq_false, not_false_eq_true, app]
              exact keep (by unfold fl; rw [if_neg (by omega)])
        · rintro ps' h7 ⟨o7, ec7, hp7, eo7, f7⟩
          try simp (disch := first | assumption | omega | (apply At.mk; with_unfolding_all rfl)) only [↓go_eq, ↓ent_eq, Mv, NilC_at, Fld_at, add_mk, Nat.zero_add, Nat.add_zero, Add64, Sub64, Mul64, Quo64, Rem64, Neg64, Cvt64, CvtU8, CvtU16, CvtU32, CvtU64, AddU64, SubU64, MulU64, Shr64, Shr_u8, Shr_u16, Shr_u32, Shr_u64, And1, And31, And32, Eql64, Neq64, Bin_lss, Bin_leq, Bin_gtr, Bin_geq, Bin_bool_eql, Bin_bool_neq, Bin_ptr_nil_eql, Bin_ptr_nil_neq, Not_dec, Un_not, Pick_t, Pick_f, Pick_pos, Pick_neg, Gd_tt, Gd_tf, Gd_ft, Gd_ff, Gd_pos_t, Gd_neg_t, Gd_pos_f, Gd_neg_f, Gd_undef, If_t, If_f, If_pos, If_neg, CallF_eq, Max_two, Min_two, Len_rd, Len_own, Ld_blkE, Idx_rdN, Idx_ownN, Idx_rdE, Idx_ownE, IdxAE, LdA_two, Idx_at0, Ext_atE, Len_at, Int.toNat_natCast, Int.toNat_zero, Int.toNat_one, List.length_map, List.length_append, List.length_cons, List.length_nil, List.length_take, List.length_set, List.length_replicate, Bool.not_true, Bool.not_false, decide_true, decide_false, BEq.rfl, bne_self_eq_false, tf_beq, ft_beq, tf_bne, ft_bne, not_true_eq_false, not_false_eq_true, app]
          exact hY (k + 1, ps') h7 ⟨by simp only; omega, o7, ec7, hp7, eo7, f7⟩ (by simp only; omega)
      · have ek : k = c.length := by omega
        subst ek
        rw [mix_all, turned_end hg] at ec6
        try simp (disch := first | assumption | omega | (apply At.mk; with_unfolding_all rfl)) only [↓go_eq, ↓ent_eq, Mv, NilC_at, Fld_at, add_mk, Nat.zero_add, Nat.add_zero, Add64, Sub64, Mul64, Quo64, Rem64, Neg64, Cvt64, CvtU8, CvtU16, CvtU32, CvtU64, AddU64, SubU64, MulU64, Shr64, Shr_u8, Shr_u16, Shr_u32, Shr_u64, And1, And31, And32, Eql64, Neq64, Bin_lss, Bin_leq, Bin_gtr, Bin_geq, Bin_bool_eql, Bin_bool_neq, Bin_ptr_nil_eql, Bin_ptr_nil_neq, Not_dec, Un_not, Pick_t, Pick_f, Pick_pos, Pick_neg, Gd_tt, Gd_tf, Gd_ft, Gd_ff, Gd_pos_t, Gd_neg_t, Gd_pos_f, Gd_neg_f, Gd_undef, If_t, If_f, If_pos, If_neg, CallF_eq, Max_two, Min_two, Len_rd, Len_own, Ld_blkE, Idx_rdN, Idx_ownN, Idx_rdE, Idx_ownE, IdxAE, LdA_two, Idx_at0, Ext_atE, Len_at, Int.toNat_natCast, Int.toNat_zero, Int.toNat_one, List.length_map, List.length_append, List.length_cons, List.length_nil, List.length_take, List.length_set, List.length_replicate, Bool.not_true, Bool.not_false, decide_true, decide_false, BEq.rfl, bne_self_eq_false, tf_beq, ft_beq, tf_bne, ft_bne, not_true_eq_false, not_false_eq_true, app]
        exact hX (i + 1, ps) h6 ⟨by simp only; omega, o6, ec6, eo6, f6⟩ (by simp only; omega)
    · have ei : i = cs.length := by omega
      subst ei
      rw [half_all] at ec5
      have o15 := o1.frd f5 dd
      have w15 := w1.fr f5 d2
      have w25 := w2.fr f5 d4
      have f05 : Fr [] h h5 := f04.trans' f5 fun b hb => .inr (by have := lo.2.2.2 b hb; omega)
      have rf5 := o15.rdl
      rw [e1] at rf5
      have rg5 := o5.rdl
      rw [ec5] at rg5
      have okg := FOk_fl (x := x) hok
      have hlg : (cs.map (List.map (fl x))).length ≤ 1000000000 := by rw [List.length_map]; omega
      have hllg : ∀ c ∈ cs.map (List.map (fl x)), c.length ≤ 1000000000 := fun c hc => by
        obtain ⟨c', hc', rfl⟩ := List.mem_map.1 hc
        rw [List.length_map]; exact hll c' hc'
      try simp (disch := first | assumption | omega | (apply At.mk; with_unfolding_all rfl)) only [↓go_eq, ↓ent_eq, Mv, NilC_at, Fld_at, add_mk, Nat.zero_add, Nat.add_zero, Add64, Sub64, Mul64, Quo64, Rem64, Neg64, Cvt64, CvtU8, CvtU16, CvtU32, CvtU64, AddU64, SubU64, MulU64, Shr64, Shr_u8, Shr_u16, Shr_u32, Shr_u64, And1, And31, And32, Eql64, Neq64, Bin_lss, Bin_leq, Bin_gtr, Bin_geq, Bin_bool_eql, Bin_bool_neq, Bin_ptr_nil_eql, Bin_ptr_nil_neq, Not_dec, Un_not, Pick_t, Pick_f, Pick_pos, Pick_neg, Gd_tt, Gd_tf, Gd_ft, Gd_ff, Gd_pos_t, Gd_neg_t, Gd_pos_f, Gd_neg_f, Gd_undef, If_t, If_f, If_pos, If_neg, CallF_eq, Max_two, Min_two, Len_rd, Len_own, Ld_blkE, Idx_rdN, Idx_ownN, Idx_rdE, Idx_ownE, IdxAE, LdA_two, Idx_at0, Ext_atE, Len_at, Int.toNat_natCast, Int.toNat_zero, Int.toNat_one, List.length_map, List.length_append, List.length_cons, List.length_nil, List.length_take, List.length_set, List.length_replicate, Bool.not_true, Bool.not_false, decide_true, decide_false, BEq.rfl, bne_self_eq_false, tf_beq, ft_beq, tf_bne, ft_bne, not_true_eq_false, not_false_eq_true, app]
      clear hX X
      refine MkS_one (n := n) (by omega) (by omega) fun h6 o6 f6 s6 => ?_
      have o6 : Own h6 (.slice (some ⟨h5.size, 0, none⟩) n n) ((fillB n (fun p => decide (t1 / 2 ^ p % 2 = 1)) 0).map .bool) [h5.size] := by rw [fillB_zero, List.map_replicate]; exact o6
      obtain ⟨u9, hu9⟩ : ∃ u, u = Value.slice (some ⟨h5.size, 0, none⟩) n n := ⟨_, rfl⟩
      rw [← hu9] at o6 ⊢
      obtain ⟨zb, hzb⟩ : ∃ zb, zb = h5.size := ⟨_, rfl⟩
      rw [← hzb] at o6
      have z5 := f05.size
      have hl0 := fillB_len n (fun p => decide (t1 / 2 ^ p % 2 = 1)) 0
      try simp (disch := first | assumption | omega | (apply At.mk; with_unfolding_all rfl)) only [hl0, ↓go_eq, ↓ent_eq, Mv, NilC_at, Fld_at, add_mk, Nat.zero_add, Nat.add_zero, Add64, Sub64, Mul64, Quo64, Rem64, Neg64, Cvt64, CvtU8, CvtU16, CvtU32, CvtU64, AddU64, SubU64, MulU64, Shr64, Shr_u8, Shr_u16, Shr_u32, Shr_u64, And1, And31, And32, Eql64, Neq64, Bin_lss, Bin_leq, Bin_gtr, Bin_geq, Bin_bool_eql, Bin_bool_neq, Bin_ptr_nil_eql, Bin_ptr_nil_neq, Not_dec, Un_not, Pick_t, Pick_f, Pick_pos, Pick_neg, Gd_tt, Gd_tf, Gd_ft, Gd_ff, Gd_pos_t, Gd_neg_t, Gd_pos_f, Gd_neg_f, Gd_undef, If_t, If_f, If_pos, If_neg, CallF_eq, Max_two, Min_two, Len_rd, Len_own, Ld_blkE, Idx_rdN, Idx_ownN, Idx_rdE, Idx_ownE, IdxAE, LdA_two, Idx_at0, Ext_atE, Len_at, Int.toNat_natCast, Int.toNat_zero, Int.toNat_one, List.length_map, List.length_append, List.length_cons, List.length_nil, List.length_take, List.length_set, List.length_replicate, Bool.not_true, Bool.not_false, decide_true, decide_false, BEq.rfl, bne_self_eq_false, tf_beq, ft_beq, tf_bne, ft_bne, not_true_eq_false, not_false_eq_true, app]
      refine Lp_fn (σ := Nat) (fun i => [.int .u16 t1, ptr fb, ptr gb, Iv (x : Nat), u9, Iv (n : Int), Iv (i : Int)]) (fun i h' => i ≤ n ∧ Fr [] h5 h' ∧ Own h' u9 ((fillB n (fun p => decide (t1 / 2 ^ p % 2 = 1)) i).map .bool) [zb]) (fun i => n - i) 0 rfl (fun _ => rfl) ⟨Nat.zero_le _, f6, o6⟩ ?_
      clear o6 f6 s6 hl0
      rintro i h7 ⟨hi, f7, o7⟩ Y hY
      have hl1 := fillB_len n (fun p => decide (t1 / 2 ^ p % 2 = 1)) i
      by_cases c2 : (i : Int) < n
      · try simp (disch := first | assumption | omega | (apply At.mk; with_unfolding_all rfl)) only [hl1, ↓go_eq, ↓ent_eq, Mv, NilC_at, Fld_at, add_mk, Nat.zero_add, Nat.add_zero, Add64, Sub64, Mul64, Quo64, Rem64, Neg64, Cvt64, CvtU8, CvtU16, CvtU32, CvtU64, AddU64, SubU64, MulU64, Shr64, Shr_u8, Shr_u16, Shr_u32, Shr_u64, And1, And31, And32, Eql64, Neq64, Bin_lss, Bin_leq, Bin_gtr, Bin_geq, Bin_bool_eql, Bin_bool_neq, Bin_ptr_nil_eql, Bin_ptr_nil_neq, Not_dec, Un_not, Pick_t, Pick_f, Pick_pos, Pick_neg, Gd_tt, Gd_tf, Gd_ft, Gd_ff, Gd_pos_t, Gd_neg_t, Gd_pos_f, Gd_neg_f, Gd_undef, If_t, If_f, If_pos, If_neg, CallF_eq, Max_two, Min_two, Len_rd, Len_own, Ld_blkE, Idx_rdN, Idx_ownN, Idx_rdE, Idx_ownE, IdxAE, LdA_two, Idx_at0, Ext_atE, Len_at, Int.toNat_natCast, Int.toNat_zero, Int.toNat_one, List.length_map, List.length_append, List.length_cons, List.length_nil, List.length_take, List.length_set, List.length_replicate, Bool.not_true, Bool.not_false, decide_true, decide_false, BEq.rfl, bne_self_eq_false, tf_beq, ft_beq, tf_bne, ft_bne, not_true_eq_false, not_false_eq_true, app]
        refine o7.put (by omega) (by rw [List.length_map, hl1]; omega) rfl fun h11 o11 f11 _ => ?_
        rw [Int.toNat_natCast] at o11
        have e11 := fillB_set (β := fun p => decide (t1 / 2 ^ p % 2 = 1)) (show i < n by omega)
        try simp (disch := first | assumption | omega | (apply At.mk; with_unfolding_all rfl)) only [↓go_eq, ↓ent_eq, Mv, NilC_at, Fld_at, add_mk, Nat.zero_add, Nat.add_zero, Add64, Sub64, Mul64, Quo64, Rem64, Neg64, Cvt64, CvtU8, CvtU16, CvtU32, CvtU64, AddU64, SubU64, MulU64, Shr64, Shr_u8, Shr_u16, Shr_u32, Shr_u64, And1, And31, And32, Eql64, Neq64, Bin_lss, Bin_leq, Bin_gtr, Bin_geq, Bin_bool_eql, Bin_bool_neq, Bin_ptr_nil_eql, Bin_ptr_nil_neq, Not_dec, Un_not, Pick_t, Pick_f, Pick_pos, Pick_neg, Gd_tt, Gd_tf, Gd_ft, Gd_ff, Gd_pos_t, Gd_neg_t, Gd_pos_f, Gd_neg_f, Gd_undef, If_t, If_f, If_pos, If_neg, CallF_eq, Max_two, Min_two, Len_rd, Len_own, Ld_blkE, Idx_rdN, Idx_ownN, Idx_rdE, Idx_ownE, IdxAE, LdA_two, Idx_at0, Ext_atE, Len_at, Int.toNat_natCast, Int.toNat_zero, Int.toNat_one, List.length_map, List.length_append, List.length_cons, List.length_nil, List.length_take, List.length_set, List.length_replicate, Bool.not_true, Bool.not_false, decide_true, decide_false, BEq.rfl, bne_self_eq_false, tf_beq, ft_beq, tf_bne, ft_bne, not_true_eq_false, not_false_eq_true, app]
        refine hY (i + 1) h11 ⟨by omega, f7.trans' f11 (by simp; omega), ?_⟩ (by omega)
        rw [← e11, List.map_set]; exact o11
      have ein : i = n := by omega
      subst ein
      clear hY
      have hla := fillB_len i (fun p => decide (t1 / 2 ^ p % 2 = 1)) i
      generalize fillB i (fun p => decide (t1 / 2 ^ p % 2 = 1)) i = av at *
      have w17 := w15.fr f7 (by simp)
      have rf7 := rf5.fr f7
      try simp (disch := first | assumption | omega | (apply At.mk; with_unfolding_all rfl)) only [↓go_eq, ↓ent_eq, Mv, NilC_at, Fld_at, add_mk, Nat.zero_add, Nat.add_zero, Add64, Sub64, Mul64, Quo64, Rem64, Neg64, Cvt64, CvtU8, CvtU16, CvtU32, CvtU64, AddU64, SubU64, MulU64, Shr64, Shr_u8, Shr_u16, Shr_u32, Shr_u64, And1, And31, And32, Eql64, Neq64, Bin_lss, Bin_leq, Bin_gtr, Bin_geq, Bin_bool_eql, Bin_bool_neq, Bin_ptr_nil_eql, Bin_ptr_nil_neq, Not_dec, Un_not, Pick_t, Pick_f, Pick_pos, Pick_neg, Gd_tt, Gd_tf, Gd_ft, Gd_ff, Gd_pos_t, Gd_neg_t, Gd_pos_f, Gd_neg_f, Gd_undef, If_t, If_f, If_pos, If_neg, CallF_eq, Max_two, Min_two, Len_rd, Len_own, Ld_blkE, Idx_rdN, Idx_ownN, Idx_rdE, Idx_ownE, IdxAE, LdA_two, Idx_at0, Ext_atE, Len_at, Int.toNat_natCast, Int.toNat_zero, Int.toNat_one, List.length_map, List.length_append, List.length_cons, List.length_nil, List.length_take, List.length_set, List.length_replicate, Bool.not_true, Bool.not_false, decide_true, decide_false, BEq.rfl, bne_self_eq_false, tf_beq, ft_beq, tf_bne, ft_bne, not_true_eq_false, not_false_eq_true, app]
      refine cnf_Satisfies.spec hok (by omega) (by omega) hll rf7 o7.rd fun h8 f8 => ?_
      rw [decide_eq_true hla, Bool.true_and]
      have o8 := o7.fr f8 (by simp)
      have f58 := f7.trans f8
      have hxa : av[x - 1]? = some (av.getD (x - 1) false) := by rw [List.getD_eq_getElem?_getD, List.getElem?_eq_getElem (by omega), Option.getD_some]
      have ax := At.map (f := Value.bool) hxa
      have ext : ((x : Int) - 1).toNat = x - 1 := by omega
      rw [← ext] at ax
      have hlab : (av.map Value.bool).length = i := by rw [List.length_map, hla]
      try simp (disch := first | assumption | omega | (apply At.mk; with_unfolding_all rfl)) only [hla, ↓go_eq, ↓ent_eq, Mv, NilC_at, Fld_at, add_mk, Nat.zero_add, Nat.add_zero, Add64, Sub64, Mul64, Quo64, Rem64, Neg64, Cvt64, CvtU8, CvtU16, CvtU32, CvtU64, AddU64, SubU64, MulU64, Shr64, Shr_u8, Shr_u16, Shr_u32, Shr_u64, And1, And31, And32, Eql64, Neq64, Bin_lss, Bin_leq, Bin_gtr, Bin_geq, Bin_bool_eql, Bin_bool_neq, Bin_ptr_nil_eql, Bin_ptr_nil_neq, Not_dec, Un_not, Pick_t, Pick_f, Pick_pos, Pick_neg, Gd_tt, Gd_tf, Gd_ft, Gd_ff, Gd_pos_t, Gd_neg_t, Gd_pos_f, Gd_neg_f, Gd_undef, If_t, If_f, If_pos, If_neg, CallF_eq, Max_two, Min_two, Len_rd, Len_own, Ld_blkE, Idx_rdN, Idx_ownN, Idx_rdE, Idx_ownE, IdxAE, LdA_two, Idx_at0, Ext_atE, Len_at, Int.toNat_natCast, Int.toNat_zero, Int.toNat_one, List.length_map, List.length_append, List.length_cons, List.length_nil, List.length_take, List.length_set, List.length_replicate, Bool.not_true, Bool.not_false, decide_true, decide_false, BEq.rfl, bne_self_eq_false, tf_beq, ft_beq, tf_bne, ft_bne, not_true_eq_false, not_false_eq_true, app]
      refine o8.put (by omega) (by rw [hlab]; omega) rfl fun h9 o9 f9 _ => ?_
      rw [ext, ← List.map_set] at o9
      have f59 : Fr [] h5 h9 := f58.trans' f9 (by simp; omega)
      have w19 := w15.fr f59 (by simp)
      have w29 := w25.fr f59 (by simp)
      have rf9 := rf5.fr f59
      have rg9 := rg5.fr f59
      try simp (disch := first | assumption | omega | (apply At.mk; with_unfolding_all rfl)) only [↓go_eq, ↓ent_eq, Mv, NilC_at, Fld_at, add_mk, Nat.zero_add, Nat.add_zero, Add64, Sub64, Mul64, Quo64, Rem64, Neg64, Cvt64, CvtU8, CvtU16, CvtU32, CvtU64, AddU64, SubU64, MulU64, Shr64, Shr_u8, Shr_u16, Shr_u32, Shr_u64, And1, And31, And32, Eql64, Neq64, Bin_lss, Bin_leq, Bin_gtr, Bin_geq, Bin_bool_eql, Bin_bool_neq, Bin_ptr_nil_eql, Bin_ptr_nil_neq, Not_dec, Un_not, Pick_t, Pick_f, Pick_pos, Pick_neg, Gd_tt, Gd_tf, Gd_ft, Gd_ff, Gd_pos_t, Gd_neg_t, Gd_pos_f, Gd_neg_f, Gd_undef, If_t, If_f, If_pos, If_neg, CallF_eq, Max_two, Min_two, Len_rd, Len_own, Ld_blkE, Idx_rdN, Idx_ownN, Idx_rdE, Idx_ownE, IdxAE, LdA_two, Idx_at0, Ext_atE, Len_at, Int.toNat_natCast, Int.toNat_zero, Int.toNat_one, List.length_map, List.length_append, List.length_cons, List.length_nil, List.length_take, List.length_set, List.length_replicate, Bool.not_true, Bool.not_false, decide_true, decide_false, BEq.rfl, bne_self_eq_false, tf_beq, ft_beq, tf_bne, ft_bne, not_true_eq_false, not_false_eq_true, app]
      refine cnf_Brute.spec2 hok (by omega) (by omega) hll rf9 fun A ok h10 hA f10 => ?_
      have w210 := w29.fr f10 (by simp)
      have rg10 := rg9.fr f10
      have o10 := o9.fr f10 (by simp)
      try simp (disch := first | assumption | omega | (apply At.mk; with_unfolding_all rfl)) only [↓go_eq, ↓ent_eq, Mv, NilC_at, Fld_at, add_mk, Nat.zero_add, Nat.add_zero, Add64, Sub64, Mul64, Quo64, Rem64, Neg64, Cvt64, CvtU8, CvtU16, CvtU32, CvtU64, AddU64, SubU64, MulU64, Shr64, Shr_u8, Shr_u16, Shr_u32, Shr_u64, And1, And31, And32, Eql64, Neq64, Bin_lss, Bin_leq, Bin_gtr, Bin_geq, Bin_bool_eql, Bin_bool_neq, Bin_ptr_nil_eql, Bin_ptr_nil_neq, Not_dec, Un_not, Pick_t, Pick_f, Pick_pos, Pick_neg, Gd_tt, Gd_tf, Gd_ft, Gd_ff, Gd_pos_t, Gd_neg_t, Gd_pos_f, Gd_neg_f, Gd_undef, If_t, If_f, If_pos, If_neg, CallF_eq, Max_two, Min_two, Len_rd, Len_own, Ld_blkE, Idx_rdN, Idx_ownN, Idx_rdE, Idx_ownE, IdxAE, LdA_two, Idx_at0, Ext_atE, Len_at, Int.toNat_natCast, Int.toNat_zero, Int.toNat_one, List.length_map, List.length_append, List.length_cons, List.length_nil, List.length_take, List.length_set, List.length_replicate, Bool.not_true, Bool.not_false, decide_true, decide_false, BEq.rfl, bne_self_eq_false, tf_beq, ft_beq, tf_bne, ft_bne, not_true_eq_false, not_false_eq_true, app]
      refine cnf_Brute.spec2 okg (by omega) hlg hllg rg10 fun B is h11 hB f11 => ?_
      obtain rfl := hA.flip hxn.1 hxn.2 hok hB
      have w211 := w210.fr f11 (by simp)
      have rg11 := rg10.fr f11
      have o11 := o10.fr f11 (by simp)
      try simp (disch := first | assumption | omega | (apply At.mk; with_unfolding_all rfl)) only [↓go_eq, ↓ent_eq, Mv, NilC_at, Fld_at, add_mk, Nat.zero_add, Nat.add_zero, Add64, Sub64, Mul64, Quo64, Rem64, Neg64, Cvt64, CvtU8, CvtU16, CvtU32, CvtU64, AddU64, SubU64, MulU64, Shr64, Shr_u8, Shr_u16, Shr_u32, Shr_u64, And1, And31, And32, Eql64, Neq64, Bin_lss, Bin_leq, Bin_gtr, Bin_geq, Bin_bool_eql, Bin_bool_neq, Bin_ptr_nil_eql, Bin_ptr_nil_neq, Not_dec, Un_not, Pick_t, Pick_f, Pick_pos, Pick_neg, Gd_tt, Gd_tf, Gd_ft, Gd_ff, Gd_pos_t, Gd_neg_t, Gd_pos_f, Gd_neg_f, Gd_undef, If_t, If_f, If_pos, If_neg, CallF_eq, Max_two, Min_two, Len_rd, Len_own, Ld_blkE, Idx_rdN, Idx_ownN, Idx_rdE, Idx_ownE, IdxAE, LdA_two, Idx_at0, Ext_atE, Len_at, Int.toNat_natCast, Int.toNat_zero, Int.toNat_one, List.length_map, List.length_append, List.length_cons, List.length_nil, List.length_take, List.length_set, List.length_replicate, Bool.not_true, Bool.not_false, decide_true, decide_false, BEq.rfl, bne_self_eq_false, tf_beq, ft_beq, tf_bne, ft_bne, not_true_eq_false, not_false_eq_true, app]
      refine cnf_Satisfies.spec okg (by omega) hlg hllg rg11 o11.rd fun h12 f12 => ?_
      rw [decide_eq_true (by rw [List.length_set, hla]), Bool.true_and, ← ext]
      rw [ext, satT_fl hla hxn.1 hxn.2 hok]
      try simp (disch := first | assumption | omega | (apply At.mk; with_unfolding_all rfl)) only [↓go_eq, ↓ent_eq, Mv, NilC_at, Fld_at, add_mk, Nat.zero_add, Nat.add_zero, Add64, Sub64, Mul64, Quo64, Rem64, Neg64, Cvt64, CvtU8, CvtU16, CvtU32, CvtU64, AddU64, SubU64, MulU64, Shr64, Shr_u8, Shr_u16, Shr_u32, Shr_u64, And1, And31, And32, Eql64, Neq64, Bin_lss, Bin_leq, Bin_gtr, Bin_geq, Bin_bool_eql, Bin_bool_neq, Bin_ptr_nil_eql, Bin_ptr_nil_neq, Not_dec, Un_not, Pick_t, Pick_f, Pick_pos, Pick_neg, Gd_tt, Gd_tf, Gd_ft, Gd_ff, Gd_pos_t, Gd_neg_t, Gd_pos_f, Gd_neg_f, Gd_undef, If_t, If_f, If_pos, If_neg, CallF_eq, Max_two, Min_two, Len_rd, Len_own, Ld_blkE, Idx_rdN, Idx_ownN, Idx_rdE, Idx_ownE, IdxAE, LdA_two, Idx_at0, Ext_atE, Len_at, Int.toNat_natCast, Int.toNat_zero, Int.toNat_one, List.length_map, List.length_append, List.length_cons, List.length_nil, List.length_take, List.length_set, List.length_replicate, Bool.not_true, Bool.not_false, decide_true, decide_false, BEq.rfl, bne_self_eq_false, tf_beq, ft_beq, tf_bne, ft_bne, not_true_eq_false, not_false_eq_true, app]
      exact hk h12 (((f05.trans f59).trans f10).trans (f11.trans f12))
theorem bradawllaw02_CnfTurned.law {h : Heap} {a0 : Int × List (List Int)} {cs : Array Value} {a1 a2 : Int} {v1 v2 : Value} (r0 : rRaw.is h a0 cs.toList) (r1 : (rInt .u16).is h a1 [v1]) (r2 : (rInt .u8).is h a2 [v2]) :
    CallH Try.prog bradawllaw02_CnfTurned.id #[.agg cs, v1, v2] (fun v h' => v = .bool true ∧ Fr [] h h') h := by
  obtain ⟨v, ws, rfl, h1, h2, h3⟩ := raw_arg r0
  obtain ⟨rfl, h4, h5⟩ := int_arg r1
  obtain ⟨rfl, h6, h7⟩ := int_arg r2
  exact bradawllaw02_CnfTurned.spec h1 ⟨h4, h5⟩ ⟨h6, h7⟩ h2 h3 fun h' f => ⟨rfl, f⟩
end Go.Proofs.Ytgcifnnaikcimaa
