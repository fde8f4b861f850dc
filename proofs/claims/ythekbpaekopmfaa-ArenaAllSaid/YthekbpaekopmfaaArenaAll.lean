/- The law ArenaAll. No condition but that the arguments lie in memory as Go lays them. -/
import Derived.Test.YthekbpaekopmfaaAl4
namespace Go.Proofs.Ythekbpaekopmfaa
open Go.Pt
set_option linter.unusedVariables false
set_option linter.unusedSimpArgs false
theorem addWds {cs : List Cl} {c : Cl} : (wds (cs ++ [c])).length = (wds cs).length + 3 + c.lits.length := by rw [wds_append, wds_one, List.length_append, enc_len]; omega
set_option maxHeartbeats 16000000 in
theorem bradawllaw05_ArenaAll.spec {ds : List De} {v : Value} {lv dr : Int} {K : Ret} {h : Heap} (hv : RdE h v ds) (he : ∀ d ∈ ds, eok d) (hlv : 0 ≤ lv ∧ lv ≤ 255) (hdr : 0 ≤ dr ∧ dr ≤ 255) (hk : ∀ h', Fr [] h h' → K (.bool true) h') :
    CallH Try.prog bradawllaw05_ArenaAll.id #[v, .int .u8 lv, .int .u8 dr] K h := by
  refine bradawllaw05_ArenaAll.ok ?_
  simp only [bradawllaw05_ArenaAll.pt]
  rw [ent_eq, go_eq]
  refine New_blk fun h1 b4 f1 s1 => ?_
  have b4 : Blk h1 h.size [.int .u8 lv] := b4
  rw [go_eq]
  refine New_blk fun h2 b5 f2 s2 => ?_
  have b5 : Blk h2 h1.size [.int .u8 dr] := b5
  rw [go_eq]
  refine New_blk fun h3 b6 f3 s3 => ?_
  have b6 : Blk h3 h2.size [.bool false] := b6
  have b4 := (b4.fr f2 (by simp)).fr f3 (by simp)
  have b5 := b5.fr f3 (by simp)
  have f03 := (f1.trans f2).trans f3
  obtain ⟨t4, e4⟩ : ∃ t, t = h.size := ⟨_, rfl⟩
  obtain ⟨t5, e5⟩ : ∃ t, t = h1.size := ⟨_, rfl⟩
  obtain ⟨t6, e6⟩ : ∃ t, t = h2.size := ⟨_, rfl⟩
  rw [← e4] at b4
  rw [← e5] at b5
  rw [← e6] at b6
  -- how the function ends
  have over : ∀ h9, Blk h9 t6 [.bool true] → Fr [] h h9 → Lv h.size (fun h => go (Ld (ptr t6)) h fun r0 h => K r0 h) h9 := fun h9 bb f => by
    refine Lv_mk fun h10 s10 => ?_
    have bb := bb.shut s10
    try simp (disch := first | assumption | omega | (apply At.mk; with_unfolding_all rfl)) only [↓go_eq, ↓ent_eq, Mv, NilC_at, Fld_at, add_mk, Nat.zero_add, Nat.add_zero, Add64, Sub64, Mul64, Quo64, Rem64, Neg64, Cvt64, CvtU8, CvtU16, CvtU32, CvtU64, AddU64, SubU64, MulU64, Shr64, Shr_u8, Shr_u16, Shr_u32, Shr_u64, And1, And31, And32, Eql64, Neq64, Bin_lss, Bin_leq, Bin_gtr, Bin_geq, Bin_bool_eql, Bin_bool_neq, Bin_ptr_nil_eql, Bin_ptr_nil_neq, Not_dec, Un_not, Pick_t, Pick_f, Pick_pos, Pick_neg, Gd_tt, Gd_tf, Gd_ft, Gd_ff, Gd_pos_t, Gd_neg_t, Gd_pos_f, Gd_neg_f, Gd_undef, If_t, If_f, If_pos, If_neg, CallF_eq, Max_two, Min_two, Len_rd, Len_own, Ld_blkE, Idx_rdN, Idx_ownN, Idx_rdE, Idx_ownE, IdxAE, LdA_two, Idx_at0, Ext_atE, Len_at, Int.toNat_natCast, Int.toNat_zero, Int.toNat_one, List.length_map, List.length_append, List.length_cons, List.length_nil, List.length_take, List.length_set, List.length_replicate, Bool.not_true, Bool.not_false, decide_true, decide_false, BEq.rfl, bne_self_eq_false, tf_beq, ft_beq, tf_bne, ft_bne, not_true_eq_false, not_false_eq_true, app]
    exact hk h10 (f.shut s10)
  rw [show (Value.pointer (some { block := h.size, off := 0, spot := none })) = ptr t4 by rw [e4], show (Value.pointer (some { block := h1.size, off := 0, spot := none })) = ptr t5 by rw [e5], show (Value.pointer (some { block := h2.size, off := 0, spot := none })) = ptr t6 by rw [e6]]
  rw [go_eq, CallF_eq]
  refine bradawllaw05_fit.spec fun h4 f4 => ?_
  have b4 := b4.fr f4 (by simp)
  have b5 := b5.fr f4 (by simp)
  have b6 := b6.fr f4 (by simp)
  have f04 := f03.trans f4
  have hv4 := hv.fr f04
  rw [go_eq, Un_not, Bool.not_true, If_f, go_eq, CallF_eq]
  refine bradawllaw05_light.spec hv4 he (fun h5 hw f5 => ?_) (fun h5 f5 => ?_)
  rotate_left
  · have b6 := b6.fr f5 (by simp)
    try simp (disch := first | assumption | omega | (apply At.mk; with_unfolding_all rfl)) only [↓go_eq, ↓ent_eq, Mv, NilC_at, Fld_at, add_mk, Nat.zero_add, Nat.add_zero, Add64, Sub64, Mul64, Quo64, Rem64, Neg64, Cvt64, CvtU8, CvtU16, CvtU32, CvtU64, AddU64, SubU64, MulU64, Shr64, Shr_u8, Shr_u16, Shr_u32, Shr_u64, And1, And31, And32, Eql64, Neq64, Bin_lss, Bin_leq, Bin_gtr, Bin_geq, Bin_bool_eql, Bin_bool_neq, Bin_ptr_nil_eql, Bin_ptr_nil_neq, Not_dec, Un_not, Pick_t, Pick_f, Pick_pos, Pick_neg, Gd_tt, Gd_tf, Gd_ft, Gd_ff, Gd_pos_t, Gd_neg_t, Gd_pos_f, Gd_neg_f, Gd_undef, If_t, If_f, If_pos, If_neg, CallF_eq, Max_two, Min_two, Len_rd, Len_own, Ld_blkE, Idx_rdN, Idx_ownN, Idx_rdE, Idx_ownE, IdxAE, LdA_two, Idx_at0, Ext_atE, Len_at, Int.toNat_natCast, Int.toNat_zero, Int.toNat_one, List.length_map, List.length_append, List.length_cons, List.length_nil, List.length_take, List.length_set, List.length_replicate, Bool.not_true, Bool.not_false, decide_true, decide_false, BEq.rfl, bne_self_eq_false, tf_beq, ft_beq, tf_bne, ft_bne, not_true_eq_false, not_false_eq_true, app]
    refine St_blk b6 (by simp) rfl fun h6 b66 f6 => ?_
    exact over h6 b66 ((f04.trans f5).trans' f6 (by simp; omega))
  have b4 := b4.fr f5 (by simp)
  have b5 := b5.fr f5 (by simp)
  have b6 := b6.fr f5 (by simp)
  have f05 := f04.trans f5
  rw [go_eq, Un_not, Bool.not_true, If_f, go_eq, CallF_eq]
  refine arena_New.spec 0 fun g h6 F0 ar6 f6 n6 => ?_
  rw [go_eq]
  refine New_blk fun h7 b7 f7 s7 => ?_
  have b7 : Blk h7 h6.size [.pointer none] := b7
  rw [go_eq]
  refine St_blk b7 (by simp) rfl fun h8 b7 f8 => ?_
  have b7 : Blk h8 h6.size [ptr g] := b7
  rw [go_eq]
  refine New_blk fun h9 b8 f9 s9 => ?_
  have b8 : Blk h9 h8.size [nilS] := b8
  obtain ⟨t7, e7⟩ : ∃ t, t = h6.size := ⟨_, rfl⟩
  obtain ⟨t8, e8⟩ : ∃ t, t = h8.size := ⟨_, rfl⟩
  rw [← e7] at b7
  rw [← e8] at b8
  rw [show (Value.pointer (some { block := h6.size, off := 0, spot := none })) = ptr t7 by rw [e7], show (Value.pointer (some { block := h8.size, off := 0, spot := none })) = ptr t8 by rw [e8]]
  have z8 := f8.size
  have z6 := f6.size
  have z5 := f05.size
  have f69 : Fr [] h6 h9 := (f7.trans' f8 (by simp)).trans f9
  have f59 := f6.trans f69
  have f09 := f05.trans f59
  have l6 := b6.lt
  have l5 := b5.lt
  have l4 := b4.lt
  have ltF0 := ar6.lt
  have bk9 : BK h9 t4 t5 t6 t7 t8 g lv dr nilS := ⟨b4.fr f59 (by simp), b5.fr f59 (by simp), b6.fr f59 (by simp), b7.fr f9 (by simp), b8⟩
  have as9 : AS h5.size g h9 [] [] nilS F0 [] := ⟨ar6.fr f69 (by simp), rfl, by simp, by simp, Own.nil _, by simp, n6, by simp, by simp, by simp, by simp⟩
  have ts : t4 < h5.size ∧ t5 < h5.size ∧ t6 < h5.size ∧ h5.size ≤ t7 ∧ t7 < t8 ∧ t8 < h9.size := by have := b8.lt; omega
  have tne : t4 < t5 ∧ t5 < t6 := by omega
  have out9 : Outs [t4, t5, t6, t7, t8] F0 [] [] := fun b hb => by
    refine ⟨fun hF => ?_, by simp, by simp⟩
    have h1 := n6 b hF
    have h2 := ltF0 b hF
    simp only [List.mem_cons, List.not_mem_nil, or_false] at hb
    omega
  generalize hN : h5.size = N at *
  have hN0 : h.size ≤ N := by omega
  clear b4 b5 b6 b7 b8 ar6 n6 ltF0 f1 f2 f3 f4 f5 f6 f7 f8 f9 f69 f59 s1 s2 s3 s7 s9
  have hv9 := hv.fr f09
  rw [go_eq]
  refine hv9.len ?_
  have hge := wt_ge ds ds.length (Nat.le_refl _)
  refine Lp_fn (σ := Nat × List Cl × List (Nat × Nat) × Value × List Nat × List Nat) (fun s => [ptr t4, ptr t5, ptr t6, ptr t7, ptr t8, v, Iv (ds.length : Nat), Iv (s.1 : Nat)])
    (fun s h' => s.1 ≤ ds.length ∧ AS N g h' s.2.1 s.2.2.1 s.2.2.2.1 s.2.2.2.2.1 s.2.2.2.2.2 ∧ BK h' t4 t5 t6 t7 t8 g lv dr s.2.2.2.1 ∧ Outs [t4, t5, t6, t7, t8] s.2.2.2.2.1 s.2.2.2.2.2 s.2.2.1 ∧ s.2.1.length ≤ s.1 ∧ (wds s.2.1).length ≤ 3 * wt ds s.1 ∧ Fr [] h h' ∧ h9.size ≤ h'.size) (fun s => ds.length - s.1)
    (0, [], [], nilS, F0, []) rfl (fun _ => rfl) ⟨Nat.zero_le _, as9, bk9, out9, Nat.le_refl _, by simp [wds], f09, Nat.le_refl _⟩ ?_
  rintro ⟨i, cs, ps, av, F, ab⟩ h10 ⟨hi, a10, k10, u10, hcl, hwd, f10, z10⟩ X hX
  simp only at hi a10 k10 u10 hcl hwd
  have hv10 := hv.fr f10
  have tlt : ∀ b ∈ [t4, t5, t6, t7, t8], b < h9.size := fun b hb => by
    simp only [List.mem_cons, List.not_mem_nil, or_false] at hb; omega
  have tge : ∀ b ∈ [t4, t5, t6, t7, t8], h.size ≤ b := fun b hb => by
    simp only [List.mem_cons, List.not_mem_nil, or_false] at hb; omega
  by_cases ci : (i : Int) < (ds.length : Nat)
  · have hd : ds[i]? = some (ds[i]'(by omega)) := List.getElem?_eq_getElem _
    generalize (ds[i]'(by omega)) = d at hd
    have hed := he d (List.mem_of_getElem? hd)
    have hws := wt_succ hd
    have hwi := wt_mono ds (show i + 1 ≤ ds.length by omega)
    have hk7 := k10.b7
    have hk8 := k10.b8
    try simp (disch := first | assumption | omega | (apply At.mk; with_unfolding_all rfl)) only [↓go_eq, ↓ent_eq, Mv, NilC_at, Fld_at, add_mk, Nat.zero_add, Nat.add_zero, Add64, Sub64, Mul64, Quo64, Rem64, Neg64, Cvt64, CvtU8, CvtU16, CvtU32, CvtU64, AddU64, SubU64, MulU64, Shr64, Shr_u8, Shr_u16, Shr_u32, Shr_u64, And1, And31, And32, Eql64, Neq64, Bin_lss, Bin_leq, Bin_gtr, Bin_geq, Bin_bool_eql, Bin_bool_neq, Bin_ptr_nil_eql, Bin_ptr_nil_neq, Not_dec, Un_not, Pick_t, Pick_f, Pick_pos, Pick_neg, Gd_tt, Gd_tf, Gd_ft, Gd_ff, Gd_pos_t, Gd_neg_t, Gd_pos_f, Gd_neg_f, Gd_undef, If_t, If_f, If_pos, If_neg, CallF_eq, Max_two, Min_two, Len_rd, Len_own, Ld_blkE, Idx_rdN, Idx_ownN, Idx_rdE, Idx_ownE, IdxAE, LdA_two, Idx_at0, Ext_atE, Len_at, Int.toNat_natCast, Int.toNat_zero, Int.toNat_one, List.length_map, List.length_append, List.length_cons, List.length_nil, List.length_take, List.length_set, List.length_replicate, Bool.not_true, Bool.not_false, decide_true, decide_false, BEq.rfl, bne_self_eq_false, tf_beq, ft_beq, tf_bne, ft_bne, not_true_eq_false, not_false_eq_true, app]
    refine Jn_fn (σ := List Cl × List (Nat × Nat) × Value × List Nat × List Nat) (fun s => [ptr t4, ptr t5, ptr t6, ptr t7, ptr t8, v, Iv (ds.length : Nat), Iv (i : Nat)])
      (fun s h' => AS N g h' s.1 s.2.1 s.2.2.1 s.2.2.2.1 s.2.2.2.2 ∧ BK h' t4 t5 t6 t7 t8 g lv dr s.2.2.1 ∧ Outs [t4, t5, t6, t7, t8] s.2.2.2.1 s.2.2.2.2 s.2.1 ∧ s.1.length ≤ i + 1 ∧ (wds s.1).length ≤ 3 * wt ds (i + 1) ∧ Fr [] h h' ∧ h9.size ≤ h'.size) ?_ ?_
    · intro J hJ
      refine hv10.at hd fun w hw => ?_
      try simp (disch := first | assumption | omega | (apply At.mk; with_unfolding_all rfl)) only [↓go_eq, ↓ent_eq, Mv, NilC_at, Fld_at, add_mk, Nat.zero_add, Nat.add_zero, Add64, Sub64, Mul64, Quo64, Rem64, Neg64, Cvt64, CvtU8, CvtU16, CvtU32, CvtU64, AddU64, SubU64, MulU64, Shr64, Shr_u8, Shr_u16, Shr_u32, Shr_u64, And1, And31, And32, Eql64, Neq64, Bin_lss, Bin_leq, Bin_gtr, Bin_geq, Bin_bool_eql, Bin_bool_neq, Bin_ptr_nil_eql, Bin_ptr_nil_neq, Not_dec, Un_not, Pick_t, Pick_f, Pick_pos, Pick_neg, Gd_tt, Gd_tf, Gd_ft, Gd_ff, Gd_pos_t, Gd_neg_t, Gd_pos_f, Gd_neg_f, Gd_undef, If_t, If_f, If_pos, If_neg, CallF_eq, Max_two, Min_two, Len_rd, Len_own, Ld_blkE, Idx_rdN, Idx_ownN, Idx_rdE, Idx_ownE, IdxAE, LdA_two, Idx_at0, Ext_atE, Len_at, Int.toNat_natCast, Int.toNat_zero, Int.toNat_one, List.length_map, List.length_append, List.length_cons, List.length_nil, List.length_take, List.length_set, List.length_replicate, Bool.not_true, Bool.not_false, decide_true, decide_false, BEq.rfl, bne_self_eq_false, tf_beq, ft_beq, tf_bne, ft_bne, not_true_eq_false, not_false_eq_true, app]
      refine New_blk fun h11 b10 f11 s11 => ?_
      have b10 : Blk h11 h10.size [.int .u8 0, Iv 0, Iv 0, nilS, .int .u8 0] := b10
      try simp (disch := first | assumption | omega | (apply At.mk; with_unfolding_all rfl)) only [↓go_eq, ↓ent_eq, Mv, NilC_at, Fld_at, add_mk, Nat.zero_add, Nat.add_zero, Add64, Sub64, Mul64, Quo64, Rem64, Neg64, Cvt64, CvtU8, CvtU16, CvtU32, CvtU64, AddU64, SubU64, MulU64, Shr64, Shr_u8, Shr_u16, Shr_u32, Shr_u64, And1, And31, And32, Eql64, Neq64, Bin_lss, Bin_leq, Bin_gtr, Bin_geq, Bin_bool_eql, Bin_bool_neq, Bin_ptr_nil_eql, Bin_ptr_nil_neq, Not_dec, Un_not, Pick_t, Pick_f, Pick_pos, Pick_neg, Gd_tt, Gd_tf, Gd_ft, Gd_ff, Gd_pos_t, Gd_neg_t, Gd_pos_f, Gd_neg_f, Gd_undef, If_t, If_f, If_pos, If_neg, CallF_eq, Max_two, Min_two, Len_rd, Len_own, Ld_blkE, Idx_rdN, Idx_ownN, Idx_rdE, Idx_ownE, IdxAE, LdA_two, Idx_at0, Ext_atE, Len_at, Int.toNat_natCast, Int.toNat_zero, Int.toNat_one, List.length_map, List.length_append, List.length_cons, List.length_nil, List.length_take, List.length_set, List.length_replicate, Bool.not_true, Bool.not_false, decide_true, decide_false, BEq.rfl, bne_self_eq_false, tf_beq, ft_beq, tf_bne, ft_bne, not_true_eq_false, not_false_eq_true, app]
      refine StA_five b10 rfl rfl rfl hw.isCell rfl fun h12 b12 f12 => ?_
      have f1012 : Fr [] h10 h12 := f11.trans' f12 (by simp)
      have hw12 := hw.fr f1012
      have a12 := a10.fr0 f1012
      have k12 := k10.fr f1012 (by simp)
      have f012 := f10.trans f1012
      have z12 := f1012.size
      have hk7 := k12.b7
      have hk8 := k12.b8
      obtain ⟨z, hz⟩ := And_u8 d.1 7
      try simp (disch := first | assumption | omega | (apply At.mk; with_unfolding_all rfl)) only [hz, ↓go_eq, ↓ent_eq, Mv, NilC_at, Fld_at, add_mk, Nat.zero_add, Nat.add_zero, Add64, Sub64, Mul64, Quo64, Rem64, Neg64, Cvt64, CvtU8, CvtU16, CvtU32, CvtU64, AddU64, SubU64, MulU64, Shr64, Shr_u8, Shr_u16, Shr_u32, Shr_u64, And1, And31, And32, Eql64, Neq64, Bin_lss, Bin_leq, Bin_gtr, Bin_geq, Bin_bool_eql, Bin_bool_neq, Bin_ptr_nil_eql, Bin_ptr_nil_neq, Not_dec, Un_not, Pick_t, Pick_f, Pick_pos, Pick_neg, Gd_tt, Gd_tf, Gd_ft, Gd_ff, Gd_pos_t, Gd_neg_t, Gd_pos_f, Gd_neg_f, Gd_undef, If_t, If_f, If_pos, If_neg, CallF_eq, Max_two, Min_two, Len_rd, Len_own, Ld_blkE, Idx_rdN, Idx_ownN, Idx_rdE, Idx_ownE, IdxAE, LdA_two, Idx_at0, Ext_atE, Len_at, Int.toNat_natCast, Int.toNat_zero, Int.toNat_one, List.length_map, List.length_append, List.length_cons, List.length_nil, List.length_take, List.length_set, List.length_replicate, Bool.not_true, Bool.not_false, decide_true, decide_false, BEq.rfl, bne_self_eq_false, tf_beq, ft_beq, tf_bne, ft_bne, not_true_eq_false, not_false_eq_true, app]
      by_cases c2 : z < 2
      · obtain ⟨n, hn⟩ : ∃ n, n = d.2.2.2.1.length := ⟨_, rfl⟩
        have hl : (d.2.2.2.1.map (Value.int .i8)).length = n := by rw [List.length_map, hn]
        rw [← hn] at hws
        have hn500 : n ≤ 500 := by omega
        have hl2 : d.2.2.2.1.length = n := hn.symm
        try simp (disch := first | assumption | omega | (apply At.mk; with_unfolding_all rfl)) only [hl, hl2, ↓go_eq, ↓ent_eq, Mv, NilC_at, Fld_at, add_mk, Nat.zero_add, Nat.add_zero, Add64, Sub64, Mul64, Quo64, Rem64, Neg64, Cvt64, CvtU8, CvtU16, CvtU32, CvtU64, AddU64, SubU64, MulU64, Shr64, Shr_u8, Shr_u16, Shr_u32, Shr_u64, And1, And31, And32, Eql64, Neq64, Bin_lss, Bin_leq, Bin_gtr, Bin_geq, Bin_bool_eql, Bin_bool_neq, Bin_ptr_nil_eql, Bin_ptr_nil_neq, Not_dec, Un_not, Pick_t, Pick_f, Pick_pos, Pick_neg, Gd_tt, Gd_tf, Gd_ft, Gd_ff, Gd_pos_t, Gd_neg_t, Gd_pos_f, Gd_neg_f, Gd_undef, If_t, If_f, If_pos, If_neg, CallF_eq, Max_two, Min_two, Len_rd, Len_own, Ld_blkE, Idx_rdN, Idx_ownN, Idx_rdE, Idx_ownE, IdxAE, LdA_two, Idx_at0, Ext_atE, Len_at, Int.toNat_natCast, Int.toNat_zero, Int.toNat_one, List.length_map, List.length_append, List.length_cons, List.length_nil, List.length_take, List.length_set, List.length_replicate, Bool.not_true, Bool.not_false, decide_true, decide_false, BEq.rfl, bne_self_eq_false, tf_beq, ft_beq, tf_bne, ft_bne, not_true_eq_false, not_false_eq_true, app]
        refine MkS_one (x := Iv 0) (n := n) (by omega) (by omega) fun h13 o13 f13 s13 => ?_
        obtain ⟨lb, elb⟩ : ∃ t, t = h12.size := ⟨_, rfl⟩
        rw [← elb] at o13 ⊢
        have e0 : List.replicate n (Iv 0) = (List.range n).map fun k : Nat => Iv (if k < 0 then 1 + (k : Int) else 0) := by
          refine List.ext_getElem (by simp) fun k h1 h2 => ?_
          simp
        rw [e0] at o13
        have ln : ∀ {K : Ret} {h' : Heap}, Len (.slice (some ⟨lb, 0, none⟩) n n) K h' = K (Iv (n : Nat)) h' := fun {K h'} => Len_at _ _ _
        have a13 := a12.fr0 f13
        have k13 := k12.fr f13 (by simp)
        try simp (disch := first | assumption | omega | (apply At.mk; with_unfolding_all rfl)) only [ln, ↓go_eq, ↓ent_eq, Mv, NilC_at, Fld_at, add_mk, Nat.zero_add, Nat.add_zero, Add64, Sub64, Mul64, Quo64, Rem64, Neg64, Cvt64, CvtU8, CvtU16, CvtU32, CvtU64, AddU64, SubU64, MulU64, Shr64, Shr_u8, Shr_u16, Shr_u32, Shr_u64, And1, And31, And32, Eql64, Neq64, Bin_lss, Bin_leq, Bin_gtr, Bin_geq, Bin_bool_eql, Bin_bool_neq, Bin_ptr_nil_eql, Bin_ptr_nil_neq, Not_dec, Un_not, Pick_t, Pick_f, Pick_pos, Pick_neg, Gd_tt, Gd_tf, Gd_ft, Gd_ff, Gd_pos_t, Gd_neg_t, Gd_pos_f, Gd_neg_f, Gd_undef, If_t, If_f, If_pos, If_neg, CallF_eq, Max_two, Min_two, Len_rd, Len_own, Ld_blkE, Idx_rdN, Idx_ownN, Idx_rdE, Idx_ownE, IdxAE, LdA_two, Idx_at0, Ext_atE, Len_at, Int.toNat_natCast, Int.toNat_zero, Int.toNat_one, List.length_map, List.length_append, List.length_cons, List.length_nil, List.length_take, List.length_set, List.length_replicate, Bool.not_true, Bool.not_false, decide_true, decide_false, BEq.rfl, bne_self_eq_false, tf_beq, ft_beq, tf_bne, ft_bne, not_true_eq_false, not_false_eq_true, app]
        refine Lp_fn (σ := Nat) (fun j => [ptr t4, ptr t5, ptr t6, ptr t7, ptr t8, .slice (some ⟨lb, 0, none⟩) n n, v, Iv (ds.length : Nat), Iv (i : Nat), Iv (n : Nat), Iv (j : Nat)])
          (fun j h' => j ≤ n ∧ Own h' (.slice (some ⟨lb, 0, none⟩) n n) ((List.range n).map fun k : Nat => Iv (if k < j then 1 + (k : Int) else 0)) [lb] ∧ Fr [lb] h13 h') (fun j => n - j) 0 rfl (fun _ => rfl) ⟨Nat.zero_le _, o13, Fr.refl _ _⟩ ?_
        rintro j h14 ⟨hj, o14, f14⟩ Y hY
        by_cases cj : (j : Int) < (n : Nat)
        · have hsl : ∀ (x : Value) (K : Ret) (hh : Heap), Blk hh lb ((List.range n).map fun k : Nat => Iv (if k < j then 1 + (k : Int) else 0)) → isCell x = true → (∀ h', Blk h' lb (((List.range n).map fun k : Nat => Iv (if k < j then 1 + (k : Int) else 0)).set j x) → Fr [lb] hh h' → K undef h') → St (.pointer (some ⟨lb, j * 1, none⟩)) x K hh := fun x K hh bl hx hK => by
            rw [Nat.mul_one]; exact St_blk bl (by simp; omega) hx hK
          have bl14 := own_blk o14
          try simp (disch := first | assumption | omega | (apply At.mk; with_unfolding_all rfl)) only [↓go_eq, ↓ent_eq, Mv, NilC_at, Fld_at, add_mk, Nat.zero_add, Nat.add_zero, Add64, Sub64, Mul64, Quo64, Rem64, Neg64, Cvt64, CvtU8, CvtU16, CvtU32, CvtU64, AddU64, SubU64, MulU64, Shr64, Shr_u8, Shr_u16, Shr_u32, Shr_u64, And1, And31, And32, Eql64, Neq64, Bin_lss, Bin_leq, Bin_gtr, Bin_geq, Bin_bool_eql, Bin_bool_neq, Bin_ptr_nil_eql, Bin_ptr_nil_neq, Not_dec, Un_not, Pick_t, Pick_f, Pick_pos, Pick_neg, Gd_tt, Gd_tf, Gd_ft, Gd_ff, Gd_pos_t, Gd_neg_t, Gd_pos_f, Gd_neg_f, Gd_undef, If_t, If_f, If_pos, If_neg, CallF_eq, Max_two, Min_two, Len_rd, Len_own, Ld_blkE, Idx_rdN, Idx_ownN, Idx_rdE, Idx_ownE, IdxAE, LdA_two, Idx_at0, Ext_atE, Len_at, Int.toNat_natCast, Int.toNat_zero, Int.toNat_one, List.length_map, List.length_append, List.length_cons, List.length_nil, List.length_take, List.length_set, List.length_replicate, Bool.not_true, Bool.not_false, decide_true, decide_false, BEq.rfl, bne_self_eq_false, tf_beq, ft_beq, tf_bne, ft_bne, not_true_eq_false, not_false_eq_true, app]
          refine hsl _ _ _ bl14 rfl fun h15 bl15 f15 => ?_
          try simp (disch := first | assumption | omega | (apply At.mk; with_unfolding_all rfl)) only [↓go_eq, ↓ent_eq, Mv, NilC_at, Fld_at, add_mk, Nat.zero_add, Nat.add_zero, Add64, Sub64, Mul64, Quo64, Rem64, Neg64, Cvt64, CvtU8, CvtU16, CvtU32, CvtU64, AddU64, SubU64, MulU64, Shr64, Shr_u8, Shr_u16, Shr_u32, Shr_u64, And1, And31, And32, Eql64, Neq64, Bin_lss, Bin_leq, Bin_gtr, Bin_geq, Bin_bool_eql, Bin_bool_neq, Bin_ptr_nil_eql, Bin_ptr_nil_neq, Not_dec, Un_not, Pick_t, Pick_f, Pick_pos, Pick_neg, Gd_tt, Gd_tf, Gd_ft, Gd_ff, Gd_pos_t, Gd_neg_t, Gd_pos_f, Gd_neg_f, Gd_undef, If_t, If_f, If_pos, If_neg, CallF_eq, Max_two, Min_two, Len_rd, Len_own, Ld_blkE, Idx_rdN, Idx_ownN, Idx_rdE, Idx_ownE, IdxAE, LdA_two, Idx_at0, Ext_atE, Len_at, Int.toNat_natCast, Int.toNat_zero, Int.toNat_one, List.length_map, List.length_append, List.length_cons, List.length_nil, List.length_take, List.length_set, List.length_replicate, Bool.not_true, Bool.not_false, decide_true, decide_false, BEq.rfl, bne_self_eq_false, tf_beq, ft_beq, tf_bne, ft_bne, not_true_eq_false, not_false_eq_true, app]
          try simp only [show (j : Int) + 1 = ((j + 1 : Nat) : Int) from by omega]
          refine hY (j + 1) h15 ⟨by omega, ?_, f14.trans f15⟩ (by omega)
          have e : (((List.range n).map fun k : Nat => Iv (if k < j then 1 + (k : Int) else 0)).set j (Iv (1 + (j : Int)))) = (List.range n).map fun k : Nat => Iv (if k < j + 1 then 1 + (k : Int) else 0) := by
            refine List.ext_getElem? fun q => ?_
            rw [List.getElem?_set, List.length_map, List.length_range]
            by_cases hq : q < n
            · rw [List.getElem?_map, List.getElem?_map, List.getElem?_range hq]
              by_cases e : j = q
              · subst e
                rw [if_pos rfl, if_pos hq]
                simp only [Option.map_some]
                rw [if_pos (by omega)]
              · rw [if_neg e]
                simp only [Option.map_some]
                by_cases e2 : q < j
                · rw [if_pos e2, if_pos (by omega)]
                · rw [if_neg e2, if_neg (by omega)]
            · rw [List.getElem?_eq_none (by simp; omega), List.getElem?_eq_none (by simp; omega)]
              split
              · rename_i e; subst e; rw [if_neg hq]
              · rfl
          rw [e] at bl15
          have := Own.of_blk bl15
          rwa [List.length_map, List.length_range] at this
        · have ej : (List.range n).map (fun k : Nat => Iv (if k < j then 1 + (k : Int) else 0)) = (lits1 n).map Iv := by
            unfold lits1
            rw [List.map_map]
            refine List.map_congr_left fun k hk => ?_
            rw [List.mem_range] at hk
            simp only [Function.comp]
            rw [if_pos (by omega)]
          rw [ej] at o14
          have hFl := a13.ar.lt
          have hAl := a13.ow.lt
          have hPl := fun p (hp : p ∈ ps) => a12.ltP hp
          have hFl12 := a12.ar.lt
          have hAl12 := a12.ow.lt
          have a14 := a13.fr f14 (fun b hb => by
            rw [List.mem_singleton] at hb; subst hb
            exact ⟨fun q => by have := hFl12 _ q; omega, fun q => by have := hAl12 _ q; omega, fun p hp => by have := hPl p hp; omega⟩)
          have k14 := k13.fr f14 (fun b hb => by have := tlt b hb; simp; omega)
          have hk7 := k14.b7
          have hk8 := k14.b8
          have z14 := f14.size
          have z13 := f13.size
          have f014 : Fr [] h h14 := (f012.trans f13).trans' f14 (by simp; have := f012.size; omega)
          try simp (disch := first | assumption | omega | (apply At.mk; with_unfolding_all rfl)) only [↓go_eq, ↓ent_eq, Mv, NilC_at, Fld_at, add_mk, Nat.zero_add, Nat.add_zero, Add64, Sub64, Mul64, Quo64, Rem64, Neg64, Cvt64, CvtU8, CvtU16, CvtU32, CvtU64, AddU64, SubU64, MulU64, Shr64, Shr_u8, Shr_u16, Shr_u32, Shr_u64, And1, And31, And32, Eql64, Neq64, Bin_lss, Bin_leq, Bin_gtr, Bin_geq, Bin_bool_eql, Bin_bool_neq, Bin_ptr_nil_eql, Bin_ptr_nil_neq, Not_dec, Un_not, Pick_t, Pick_f, Pick_pos, Pick_neg, Gd_tt, Gd_tf, Gd_ft, Gd_ff, Gd_pos_t, Gd_neg_t, Gd_pos_f, Gd_neg_f, Gd_undef, If_t, If_f, If_pos, If_neg, CallF_eq, Max_two, Min_two, Len_rd, Len_own, Ld_blkE, Idx_rdN, Idx_ownN, Idx_rdE, Idx_ownE, IdxAE, LdA_two, Idx_at0, Ext_atE, Len_at, Int.toNat_natCast, Int.toNat_zero, Int.toNat_one, List.length_map, List.length_append, List.length_cons, List.length_nil, List.length_take, List.length_set, List.length_replicate, Bool.not_true, Bool.not_false, decide_true, decide_false, BEq.rfl, bne_self_eq_false, tf_beq, ft_beq, tf_bne, ft_bne, not_true_eq_false, not_false_eq_true, app]
          refine arena_Arena_Add.spec (c := lits1 n) a14.ar (fun h' f => (o14.fr f fun b hb hm => by rw [List.mem_singleton] at hb; subst hb; have := hFl12 _ hm; omega).rd) (by rw [lits1_len]; omega) (fun hf => absurd hf.1 (by decide)) fun _ h15 F' ar15 f15 n15 => ?_
          have k15 := k14.fr f15 (fun b hb => (u10 b hb).1)
          have o15 := o14.fr f15 (fun b hb hm => by rw [List.mem_singleton] at hb; subst hb; have := hFl12 _ hm; omega)
          have ow15 := a14.ow.fr f15 (fun b hb hm => a14.sA b hm hb)
          have z15 := f15.size
          have hk8 := k15.b8
          have hfill : Instr.fill (([(0, 1), (1, 1), (2, 1), (3, 1), (4, 1), (5, 1)] : List (Nat × Nat)).toArray[·]?) #[(.int .i64 0), (.int .i64 0), (.int .i64 0), (.slice none 0 0), (.bool false), (.bool false)] [(0, Iv ((wds cs).length : Nat)), (3, .slice (some ⟨lb, 0, none⟩) n n)] = some #[Iv ((wds cs).length : Nat), .int .i64 0, .int .i64 0, .slice (some ⟨lb, 0, none⟩) n n, .bool false, .bool false] := by
            rw [fill_one rfl rfl (by simp), fill_one rfl rfl (by simp), fill_nil]; rfl
          try simp (disch := first | assumption | omega | (apply At.mk; with_unfolding_all rfl)) only [↓go_eq, ↓ent_eq, Mv, NilC_at, Fld_at, add_mk, Nat.zero_add, Nat.add_zero, Add64, Sub64, Mul64, Quo64, Rem64, Neg64, Cvt64, CvtU8, CvtU16, CvtU32, CvtU64, AddU64, SubU64, MulU64, Shr64, Shr_u8, Shr_u16, Shr_u32, Shr_u64, And1, And31, And32, Eql64, Neq64, Bin_lss, Bin_leq, Bin_gtr, Bin_geq, Bin_bool_eql, Bin_bool_neq, Bin_ptr_nil_eql, Bin_ptr_nil_neq, Not_dec, Un_not, Pick_t, Pick_f, Pick_pos, Pick_neg, Gd_tt, Gd_tf, Gd_ft, Gd_ff, Gd_pos_t, Gd_neg_t, Gd_pos_f, Gd_neg_f, Gd_undef, If_t, If_f, If_pos, If_neg, CallF_eq, Max_two, Min_two, Len_rd, Len_own, Ld_blkE, Idx_rdN, Idx_ownN, Idx_rdE, Idx_ownE, IdxAE, LdA_two, Idx_at0, Ext_atE, Len_at, Int.toNat_natCast, Int.toNat_zero, Int.toNat_one, List.length_map, List.length_append, List.length_cons, List.length_nil, List.length_take, List.length_set, List.length_replicate, Bool.not_true, Bool.not_false, decide_true, decide_false, BEq.rfl, bne_self_eq_false, tf_beq, ft_beq, tf_bne, ft_bne, not_true_eq_false, not_false_eq_true, app]
          rw [Bld_eq, hfill]
          show go (New _ _) h15 _
          rw [go_eq]
          refine New_blk fun h16 b16 f16 s16 => ?_
          have b16 : Blk h16 h15.size [Iv ((wds cs).length : Nat), Iv 0, Iv 0, .slice (some ⟨lb, 0, none⟩) n n, .bool false, .bool false] := b16
          have ow16 := ow15.fr f16 (by simp)
          have k16 := k15.fr f16 (by simp)
          have ar16 := ar15.fr f16 (by simp)
          have o16 := o15.fr f16 (by simp)
          have hpl : (ps.map fun p => ptr p.1).length ≤ 500 := by rw [List.length_map, a10.len]; omega
          try simp (disch := first | assumption | omega | (apply At.mk; with_unfolding_all rfl)) only [↓go_eq, ↓ent_eq, Mv, NilC_at, Fld_at, add_mk, Nat.zero_add, Nat.add_zero, Add64, Sub64, Mul64, Quo64, Rem64, Neg64, Cvt64, CvtU8, CvtU16, CvtU32, CvtU64, AddU64, SubU64, MulU64, Shr64, Shr_u8, Shr_u16, Shr_u32, Shr_u64, And1, And31, And32, Eql64, Neq64, Bin_lss, Bin_leq, Bin_gtr, Bin_geq, Bin_bool_eql, Bin_bool_neq, Bin_ptr_nil_eql, Bin_ptr_nil_neq, Not_dec, Un_not, Pick_t, Pick_f, Pick_pos, Pick_neg, Gd_tt, Gd_tf, Gd_ft, Gd_ff, Gd_pos_t, Gd_neg_t, Gd_pos_f, Gd_neg_f, Gd_undef, If_t, If_f, If_pos, If_neg, CallF_eq, Max_two, Min_two, Len_rd, Len_own, Ld_blkE, Idx_rdN, Idx_ownN, Idx_rdE, Idx_ownE, IdxAE, LdA_two, Idx_at0, Ext_atE, Len_at, Int.toNat_natCast, Int.toNat_zero, Int.toNat_one, List.length_map, List.length_append, List.length_cons, List.length_nil, List.length_take, List.length_set, List.length_replicate, Bool.not_true, Bool.not_false, decide_true, decide_false, BEq.rfl, bne_self_eq_false, tf_beq, ft_beq, tf_bne, ft_bne, not_true_eq_false, not_false_eq_true, app]
          refine ow16.app1 rfl rfl rfl (by omega) (by omega) fun av' h17 ab' ow17 f17 nb17 => ?_
          have k17 := k16.fr f17 (fun b hb => (u10 b hb).2.1)
          have hk8 := k17.b8
          try simp (disch := first | assumption | omega | (apply At.mk; with_unfolding_all rfl)) only [↓go_eq, ↓ent_eq, Mv, NilC_at, Fld_at, add_mk, Nat.zero_add, Nat.add_zero, Add64, Sub64, Mul64, Quo64, Rem64, Neg64, Cvt64, CvtU8, CvtU16, CvtU32, CvtU64, AddU64, SubU64, MulU64, Shr64, Shr_u8, Shr_u16, Shr_u32, Shr_u64, And1, And31, And32, Eql64, Neq64, Bin_lss, Bin_leq, Bin_gtr, Bin_geq, Bin_bool_eql, Bin_bool_neq, Bin_ptr_nil_eql, Bin_ptr_nil_neq, Not_dec, Un_not, Pick_t, Pick_f, Pick_pos, Pick_neg, Gd_tt, Gd_tf, Gd_ft, Gd_ff, Gd_pos_t, Gd_neg_t, Gd_pos_f, Gd_neg_f, Gd_undef, If_t, If_f, If_pos, If_neg, CallF_eq, Max_two, Min_two, Len_rd, Len_own, Ld_blkE, Idx_rdN, Idx_ownN, Idx_rdE, Idx_ownE, IdxAE, LdA_two, Idx_at0, Ext_atE, Len_at, Int.toNat_natCast, Int.toNat_zero, Int.toNat_one, List.length_map, List.length_append, List.length_cons, List.length_nil, List.length_take, List.length_set, List.length_replicate, Bool.not_true, Bool.not_false, decide_true, decide_false, BEq.rfl, bne_self_eq_false, tf_beq, ft_beq, tf_bne, ft_bne, not_true_eq_false, not_false_eq_true, app]
          refine St_blk hk8 (by simp) ow17.rd.isCell fun h18 b88 f18 => ?_
          have b88 : Blk h18 t8 [av'] := b88
          have z17 := f17.size
          have z18 := f18.size
          have z16 := f16.size
          have k18 : BK h18 t4 t5 t6 t7 t8 g lv dr av' := ⟨k17.b4.fr f18 (by simp; omega), k17.b5.fr f18 (by simp; omega), k17.b6.fr f18 (by simp; omega), k17.b7.fr f18 (by simp; omega), b88⟩
          have hg9 : ∀ b ∈ F', b ∈ F ∨ h14.size ≤ b := n15
          have hA9 : ∀ b ∈ ab', b ∈ ab ∨ h16.size ≤ b := nb17
          have t8n := u10 t8 (by simp)
          have hF'lt := ar15.lt
          have dFA : ∀ x ∈ F', x ∉ ab' := fun x hx hm => by
            rcases hg9 x hx with q | q
            · rcases hA9 x hm with r | r
              · exact a10.sA x q r
              · have := hFl12 x q; omega
            · rcases hA9 x hm with r | r
              · have := hAl12 x r; omega
              · have := hF'lt x hx; omega
          have ar18 : ArR h18 g 0 (cs ++ [⟨lits1 n, false, fit31 0, 0, false⟩]) F' := (ar16.fr f17 (fun b hb hm => by
            rcases hg9 b hb with q | q
            · exact a10.sA b q hm
            · have := hAl12 b hm; omega)).fr f18 (by
              intro b hb; simp; intro e; subst e
              rcases hg9 _ hb with q | q
              · exact t8n.1 q
              · omega)
          have lbn : lb ∉ ab ∧ lb ∉ F := ⟨fun q => by have := hAl12 _ q; omega, fun q => by have := hFl12 _ q; omega⟩
          have mb18 : MB h18 ((wds cs).length : Nat) n false h15.size lb := by
            refine ⟨⟨0, 0, false, (b16.fr f17 (fun q => by have := hAl12 _ q; omega)).fr f18 (by simp; omega)⟩, lits1 n, lits1_len n, ?_⟩
            exact ((own_blk o16).fr f17 lbn.1).fr f18 (by simp; omega)
          have snoc := AS.snoc (h := h12) (h' := h18) (c := ⟨lits1 n, false, fit31 0, 0, false⟩) (b := h15.size) (l := lb) (av' := av') (F' := F') (ab' := ab') a12 (by omega) ar18 (fun x hx => by rcases hg9 x hx with q | q; exact .inl q; exact .inr (by omega)) (by rw [List.map_append]; exact ow17.fr f18 (by
              intro b hb; simp; intro e; subst e
              rcases hA9 _ hb with q | q
              · exact t8n.2.1 q
              · omega)) (fun x hx => by rcases hA9 x hx with q | q; exact .inl q; exact .inr (by omega)) (by omega) (by omega) (by omega) (fun x hx => by
              unfold lits1 at hx
              obtain ⟨k, _, rfl⟩ := List.mem_map.1 hx; omega) (by rw [show (⟨lits1 n, false, fit31 0, 0, false⟩ : Cl).lits.length = n from lits1_len n]; exact mb18)
              (fun r n p hp hpm m => by
                have s := a12.sF hp hpm
                have q := hPl hp hpm
                have t := t8n.2.2 hp hpm
                have m13 := m.fr f13 (by simp) (by simp)
                have m14 := m13.fr f14 (by simp; omega) (by simp; omega)
                have m15 := m14.fr f15 s.1.1 s.1.2
                have m16 := m15.fr f16 (by simp) (by simp)
                have m17 := m16.fr f17 s.2.1 s.2.2
                exact m17.fr f18 (by simp; exact fun e => t.1 e.symm) (by simp; exact fun e => t.2 e.symm))
              ⟨⟨fun q => by have := hF'lt _ q; omega, fun q => by rcases hg9 _ q with r | r; exact lbn.2 r; omega⟩, fun q => by rcases hA9 _ q with r | r; have := hAl12 _ r; omega; omega, fun q => by rcases hA9 _ q with r | r; exact lbn.1 r; omega⟩ dFA
          try simp (disch := first | assumption | omega | (apply At.mk; with_unfolding_all rfl)) only [↓go_eq, ↓ent_eq, Mv, NilC_at, Fld_at, add_mk, Nat.zero_add, Nat.add_zero, Add64, Sub64, Mul64, Quo64, Rem64, Neg64, Cvt64, CvtU8, CvtU16, CvtU32, CvtU64, AddU64, SubU64, MulU64, Shr64, Shr_u8, Shr_u16, Shr_u32, Shr_u64, And1, And31, And32, Eql64, Neq64, Bin_lss, Bin_leq, Bin_gtr, Bin_geq, Bin_bool_eql, Bin_bool_neq, Bin_ptr_nil_eql, Bin_ptr_nil_neq, Not_dec, Un_not, Pick_t, Pick_f, Pick_pos, Pick_neg, Gd_tt, Gd_tf, Gd_ft, Gd_ff, Gd_pos_t, Gd_neg_t, Gd_pos_f, Gd_neg_f, Gd_undef, If_t, If_f, If_pos, If_neg, CallF_eq, Max_two, Min_two, Len_rd, Len_own, Ld_blkE, Idx_rdN, Idx_ownN, Idx_rdE, Idx_ownE, IdxAE, LdA_two, Idx_at0, Ext_atE, Len_at, Int.toNat_natCast, Int.toNat_zero, Int.toNat_one, List.length_map, List.length_append, List.length_cons, List.length_nil, List.length_take, List.length_set, List.length_replicate, Bool.not_true, Bool.not_false, decide_true, decide_false, BEq.rfl, bne_self_eq_false, tf_beq, ft_beq, tf_bne, ft_bne, not_true_eq_false, not_false_eq_true, app]
          refine hJ (cs ++ [⟨lits1 n, false, fit31 0, 0, false⟩], ps ++ [(h15.size, lb)], av', F', ab') h18 ⟨snoc, k18, fun b hb => ?_, by simp; omega, ?_, ?_, by omega⟩
          · have ub := u10 b hb
            have tb := tlt b hb
            refine ⟨fun q => ?_, fun q => ?_, fun p hp => ?_⟩
            · rcases hg9 b q with r | r
              · exact ub.1 r
              · omega
            · rcases hA9 b q with r | r
              · exact ub.2.1 r
              · omega
            · rcases List.mem_append.1 hp with r | r
              · exact ub.2.2 p r
              · rw [List.mem_singleton] at r; subst r
                simp only
                omega
          · simp only [addWds, lits1_len]; omega
          · have g16 := ((f014.trans' f15 fun b hb => .inr (by have := a10.loF b hb; omega)).trans f16).trans' f17 fun b hb => .inr (by have := a10.loA b hb; omega)
            exact g16.trans' f18 (by simp; omega)
      · try simp (disch := first | assumption | omega | (apply At.mk; with_unfolding_all rfl)) only [↓go_eq, ↓ent_eq, Mv, NilC_at, Fld_at, add_mk, Nat.zero_add, Nat.add_zero, Add64, Sub64, Mul64, Quo64, Rem64, Neg64, Cvt64, CvtU8, CvtU16, CvtU32, CvtU64, AddU64, SubU64, MulU64, Shr64, Shr_u8, Shr_u16, Shr_u32, Shr_u64, And1, And31, And32, Eql64, Neq64, Bin_lss, Bin_leq, Bin_gtr, Bin_geq, Bin_bool_eql, Bin_bool_neq, Bin_ptr_nil_eql, Bin_ptr_nil_neq, Not_dec, Un_not, Pick_t, Pick_f, Pick_pos, Pick_neg, Gd_tt, Gd_tf, Gd_ft, Gd_ff, Gd_pos_t, Gd_neg_t, Gd_pos_f, Gd_neg_f, Gd_undef, If_t, If_f, If_pos, If_neg, CallF_eq, Max_two, Min_two, Len_rd, Len_own, Ld_blkE, Idx_rdN, Idx_ownN, Idx_rdE, Idx_ownE, IdxAE, LdA_two, Idx_at0, Ext_atE, Len_at, Int.toNat_natCast, Int.toNat_zero, Int.toNat_one, List.length_map, List.length_append, List.length_cons, List.length_nil, List.length_take, List.length_set, List.length_replicate, Bool.not_true, Bool.not_false, decide_true, decide_false, BEq.rfl, bne_self_eq_false, tf_beq, ft_beq, tf_bne, ft_bne, not_true_eq_false, not_false_eq_true, app]
        rw [LdA_five b12]
        try simp (disch := first | assumption | omega | (apply At.mk; with_unfolding_all rfl)) only [↓go_eq, ↓ent_eq, Mv, NilC_at, Fld_at, add_mk, Nat.zero_add, Nat.add_zero, Add64, Sub64, Mul64, Quo64, Rem64, Neg64, Cvt64, CvtU8, CvtU16, CvtU32, CvtU64, AddU64, SubU64, MulU64, Shr64, Shr_u8, Shr_u16, Shr_u32, Shr_u64, And1, And31, And32, Eql64, Neq64, Bin_lss, Bin_leq, Bin_gtr, Bin_geq, Bin_bool_eql, Bin_bool_neq, Bin_ptr_nil_eql, Bin_ptr_nil_neq, Not_dec, Un_not, Pick_t, Pick_f, Pick_pos, Pick_neg, Gd_tt, Gd_tf, Gd_ft, Gd_ff, Gd_pos_t, Gd_neg_t, Gd_pos_f, Gd_neg_f, Gd_undef, If_t, If_f, If_pos, If_neg, CallF_eq, Max_two, Min_two, Len_rd, Len_own, Ld_blkE, Idx_rdN, Idx_ownN, Idx_rdE, Idx_ownE, IdxAE, LdA_two, Idx_at0, Ext_atE, Len_at, Int.toNat_natCast, Int.toNat_zero, Int.toNat_one, List.length_map, List.length_append, List.length_cons, List.length_nil, List.length_take, List.length_set, List.length_replicate, Bool.not_true, Bool.not_false, decide_true, decide_false, BEq.rfl, bne_self_eq_false, tf_beq, ft_beq, tf_bne, ft_bne, not_true_eq_false, not_false_eq_true, app]
        refine bradawllaw05_do.spec (d := d) (w := w) hed hw12 a12 hN0 f012 (by rw [a10.len]; omega) fun h13 cs' a13 e1 e2 f13 hS => ?_
        obtain ⟨S, fS, hS⟩ := hS
        try simp (disch := first | assumption | omega | (apply At.mk; with_unfolding_all rfl)) only [↓go_eq, ↓ent_eq, Mv, NilC_at, Fld_at, add_mk, Nat.zero_add, Nat.add_zero, Add64, Sub64, Mul64, Quo64, Rem64, Neg64, Cvt64, CvtU8, CvtU16, CvtU32, CvtU64, AddU64, SubU64, MulU64, Shr64, Shr_u8, Shr_u16, Shr_u32, Shr_u64, And1, And31, And32, Eql64, Neq64, Bin_lss, Bin_leq, Bin_gtr, Bin_geq, Bin_bool_eql, Bin_bool_neq, Bin_ptr_nil_eql, Bin_ptr_nil_neq, Not_dec, Un_not, Pick_t, Pick_f, Pick_pos, Pick_neg, Gd_tt, Gd_tf, Gd_ft, Gd_ff, Gd_pos_t, Gd_neg_t, Gd_pos_f, Gd_neg_f, Gd_undef, If_t, If_f, If_pos, If_neg, CallF_eq, Max_two, Min_two, Len_rd, Len_own, Ld_blkE, Idx_rdN, Idx_ownN, Idx_rdE, Idx_ownE, IdxAE, LdA_two, Idx_at0, Ext_atE, Len_at, Int.toNat_natCast, Int.toNat_zero, Int.toNat_one, List.length_map, List.length_append, List.length_cons, List.length_nil, List.length_take, List.length_set, List.length_replicate, Bool.not_true, Bool.not_false, decide_true, decide_false, BEq.rfl, bne_self_eq_false, tf_beq, ft_beq, tf_bne, ft_bne, not_true_eq_false, not_false_eq_true, app]
        refine hJ (cs', ps, av, F, ab) h13 ⟨a13, k12.fr fS (u10.not hS), u10, by simp only; omega, ?_, f13, by have := fS.size; omega⟩
        simp only
        rw [wds_len, e1, e2, ← wds_len]; omega
    · rintro ⟨cs2, ps2, av2, F2, ab2⟩ h11 ⟨q1, q2, q3, q4, q5, q6, q7⟩
      try simp (disch := first | assumption | omega | (apply At.mk; with_unfolding_all rfl)) only [↓go_eq, ↓ent_eq, Mv, NilC_at, Fld_at, add_mk, Nat.zero_add, Nat.add_zero, Add64, Sub64, Mul64, Quo64, Rem64, Neg64, Cvt64, CvtU8, CvtU16, CvtU32, CvtU64, AddU64, SubU64, MulU64, Shr64, Shr_u8, Shr_u16, Shr_u32, Shr_u64, And1, And31, And32, Eql64, Neq64, Bin_lss, Bin_leq, Bin_gtr, Bin_geq, Bin_bool_eql, Bin_bool_neq, Bin_ptr_nil_eql, Bin_ptr_nil_neq, Not_dec, Un_not, Pick_t, Pick_f, Pick_pos, Pick_neg, Gd_tt, Gd_tf, Gd_ft, Gd_ff, Gd_pos_t, Gd_neg_t, Gd_pos_f, Gd_neg_f, Gd_undef, If_t, If_f, If_pos, If_neg, CallF_eq, Max_two, Min_two, Len_rd, Len_own, Ld_blkE, Idx_rdN, Idx_ownN, Idx_rdE, Idx_ownE, IdxAE, LdA_two, Idx_at0, Ext_atE, Len_at, Int.toNat_natCast, Int.toNat_zero, Int.toNat_one, List.length_map, List.length_append, List.length_cons, List.length_nil, List.length_take, List.length_set, List.length_replicate, Bool.not_true, Bool.not_false, decide_true, decide_false, BEq.rfl, bne_self_eq_false, tf_beq, ft_beq, tf_bne, ft_bne, not_true_eq_false, not_false_eq_true, app]
      try simp only [show (i : Int) + 1 = ((i + 1 : Nat) : Int) from by omega]
      exact hX (i + 1, cs2, ps2, av2, F2, ab2) h11 ⟨by simp only; omega, q1, q2, q3, q4, q5, q6, q7⟩ (by simp only; omega)
  have ei : i = ds.length := by omega
  subst ei
  clear hX
  have hk7 := k10.b7
  have ltF := a10.ar.lt
  have ltA := a10.ow.lt
  have ltP := fun p (hp : p ∈ ps) => a10.ltP hp
  try simp (disch := first | assumption | omega | (apply At.mk; with_unfolding_all rfl)) only [↓go_eq, ↓ent_eq, Mv, NilC_at, Fld_at, add_mk, Nat.zero_add, Nat.add_zero, Add64, Sub64, Mul64, Quo64, Rem64, Neg64, Cvt64, CvtU8, CvtU16, CvtU32, CvtU64, AddU64, SubU64, MulU64, Shr64, Shr_u8, Shr_u16, Shr_u32, Shr_u64, And1, And31, And32, Eql64, Neq64, Bin_lss, Bin_leq, Bin_gtr, Bin_geq, Bin_bool_eql, Bin_bool_neq, Bin_ptr_nil_eql, Bin_ptr_nil_neq, Not_dec, Un_not, Pick_t, Pick_f, Pick_pos, Pick_neg, Gd_tt, Gd_tf, Gd_ft, Gd_ff, Gd_pos_t, Gd_neg_t, Gd_pos_f, Gd_neg_f, Gd_undef, If_t, If_f, If_pos, If_neg, CallF_eq, Max_two, Min_two, Len_rd, Len_own, Ld_blkE, Idx_rdN, Idx_ownN, Idx_rdE, Idx_ownE, IdxAE, LdA_two, Idx_at0, Ext_atE, Len_at, Int.toNat_natCast, Int.toNat_zero, Int.toNat_one, List.length_map, List.length_append, List.length_cons, List.length_nil, List.length_take, List.length_set, List.length_replicate, Bool.not_true, Bool.not_false, decide_true, decide_false, BEq.rfl, bne_self_eq_false, tf_beq, ft_beq, tf_bne, ft_bne, not_true_eq_false, not_false_eq_true, app]
  refine New_blk fun h11 b15 f11 s11 => ?_
  have b15 : Blk h11 h10.size [Iv 0] := b15
  try simp (disch := first | assumption | omega | (apply At.mk; with_unfolding_all rfl)) only [↓go_eq, ↓ent_eq, Mv, NilC_at, Fld_at, add_mk, Nat.zero_add, Nat.add_zero, Add64, Sub64, Mul64, Quo64, Rem64, Neg64, Cvt64, CvtU8, CvtU16, CvtU32, CvtU64, AddU64, SubU64, MulU64, Shr64, Shr_u8, Shr_u16, Shr_u32, Shr_u64, And1, And31, And32, Eql64, Neq64, Bin_lss, Bin_leq, Bin_gtr, Bin_geq, Bin_bool_eql, Bin_bool_neq, Bin_ptr_nil_eql, Bin_ptr_nil_neq, Not_dec, Un_not, Pick_t, Pick_f, Pick_pos, Pick_neg, Gd_tt, Gd_tf, Gd_ft, Gd_ff, Gd_pos_t, Gd_neg_t, Gd_pos_f, Gd_neg_f, Gd_undef, If_t, If_f, If_pos, If_neg, CallF_eq, Max_two, Min_two, Len_rd, Len_own, Ld_blkE, Idx_rdN, Idx_ownN, Idx_rdE, Idx_ownE, IdxAE, LdA_two, Idx_at0, Ext_atE, Len_at, Int.toNat_natCast, Int.toNat_zero, Int.toNat_one, List.length_map, List.length_append, List.length_cons, List.length_nil, List.length_take, List.length_set, List.length_replicate, Bool.not_true, Bool.not_false, decide_true, decide_false, BEq.rfl, bne_self_eq_false, tf_beq, ft_beq, tf_bne, ft_bne, not_true_eq_false, not_false_eq_true, app]
  refine St_blk b15 (by simp) rfl fun h12 b15 f12 => ?_
  have b15 : Blk h12 h10.size [Iv 0] := b15
  have f1012 : Fr [] h10 h12 := f11.trans' f12 (by simp)
  obtain ⟨t15, e15⟩ : ∃ t, t = h10.size := ⟨_, rfl⟩
  rw [← e15] at b15 ⊢
  have a12 := a10.fr0 f1012
  have k12 := k10.fr f1012 (by simp)
  have f012 := f10.trans f1012
  have z12 : t15 < h12.size := b15.lt
  have o15 : Outs [t15] F ab ps := fun b hb => by
    rw [List.mem_singleton] at hb; subst hb
    exact ⟨fun q => by have := ltF _ q; omega, fun q => by have := ltA _ q; omega, fun p hp => by have := ltP p hp; omega⟩
  have t15n : ∀ b ∈ [t4, t5, t6, t7, t8], b ∉ [t15] := fun b hb => by have := tlt b hb; simp; omega
  have o6 : Outs [t6] F ab ps := fun b hb => u10 b (by rw [List.mem_singleton] at hb; subst hb; simp)
  have hpl : (ps.map fun p => ptr p.1).length = ps.length := List.length_map _
  have hpc := a10.len
  have hpn : ps.length ≤ 500 := by omega
  try simp (disch := first | assumption | omega | (apply At.mk; with_unfolding_all rfl)) only [↓go_eq, ↓ent_eq, Mv, NilC_at, Fld_at, add_mk, Nat.zero_add, Nat.add_zero, Add64, Sub64, Mul64, Quo64, Rem64, Neg64, Cvt64, CvtU8, CvtU16, CvtU32, CvtU64, AddU64, SubU64, MulU64, Shr64, Shr_u8, Shr_u16, Shr_u32, Shr_u64, And1, And31, And32, Eql64, Neq64, Bin_lss, Bin_leq, Bin_gtr, Bin_geq, Bin_bool_eql, Bin_bool_neq, Bin_ptr_nil_eql, Bin_ptr_nil_neq, Not_dec, Un_not, Pick_t, Pick_f, Pick_pos, Pick_neg, Gd_tt, Gd_tf, Gd_ft, Gd_ff, Gd_pos_t, Gd_neg_t, Gd_pos_f, Gd_neg_f, Gd_undef, If_t, If_f, If_pos, If_neg, CallF_eq, Max_two, Min_two, Len_rd, Len_own, Ld_blkE, Idx_rdN, Idx_ownN, Idx_rdE, Idx_ownE, IdxAE, LdA_two, Idx_at0, Ext_atE, Len_at, Int.toNat_natCast, Int.toNat_zero, Int.toNat_one, List.length_map, List.length_append, List.length_cons, List.length_nil, List.length_take, List.length_set, List.length_replicate, Bool.not_true, Bool.not_false, decide_true, decide_false, BEq.rfl, bne_self_eq_false, tf_beq, ft_beq, tf_bne, ft_bne, not_true_eq_false, not_false_eq_true, app]
  refine Jn_fn (σ := List Cl) (fun _ => [ptr t6, ptr t8, ptr t15]) (fun cs' h' => AS N g h' cs' ps av F ab ∧ BK h' t4 t5 t6 t7 t8 g lv dr av ∧ (∃ k : Nat, Blk h' t15 [Iv (k : Nat)] ∧ k ≤ cs.length ∧ ∀ q, k ≤ q → q < cs.length → ∃ e, cs'[q]? = some e ∧ e.gone = true) ∧ cs'.length = cs.length ∧ Fr [] h h') ?_ ?_
  · intro J4 hJ4
    have hk7 := k12.b7
    try simp (disch := first | assumption | omega | (apply At.mk; with_unfolding_all rfl)) only [↓go_eq, ↓ent_eq, Mv, NilC_at, Fld_at, add_mk, Nat.zero_add, Nat.add_zero, Add64, Sub64, Mul64, Quo64, Rem64, Neg64, Cvt64, CvtU8, CvtU16, CvtU32, CvtU64, AddU64, SubU64, MulU64, Shr64, Shr_u8, Shr_u16, Shr_u32, Shr_u64, And1, And31, And32, Eql64, Neq64, Bin_lss, Bin_leq, Bin_gtr, Bin_geq, Bin_bool_eql, Bin_bool_neq, Bin_ptr_nil_eql, Bin_ptr_nil_neq, Not_dec, Un_not, Pick_t, Pick_f, Pick_pos, Pick_neg, Gd_tt, Gd_tf, Gd_ft, Gd_ff, Gd_pos_t, Gd_neg_t, Gd_pos_f, Gd_neg_f, Gd_undef, If_t, If_f, If_pos, If_neg, CallF_eq, Max_two, Min_two, Len_rd, Len_own, Ld_blkE, Idx_rdN, Idx_ownN, Idx_rdE, Idx_ownE, IdxAE, LdA_two, Idx_at0, Ext_atE, Len_at, Int.toNat_natCast, Int.toNat_zero, Int.toNat_one, List.length_map, List.length_append, List.length_cons, List.length_nil, List.length_take, List.length_set, List.length_replicate, Bool.not_true, Bool.not_false, decide_true, decide_false, BEq.rfl, bne_self_eq_false, tf_beq, ft_beq, tf_bne, ft_bne, not_true_eq_false, not_false_eq_true, app]
    refine arena_Arena_All.spec fun c h13 bc f13 hc => ?_
    try simp (disch := first | assumption | omega | (apply At.mk; with_unfolding_all rfl)) only [↓go_eq, ↓ent_eq, Mv, NilC_at, Fld_at, add_mk, Nat.zero_add, Nat.add_zero, Add64, Sub64, Mul64, Quo64, Rem64, Neg64, Cvt64, CvtU8, CvtU16, CvtU32, CvtU64, AddU64, SubU64, MulU64, Shr64, Shr_u8, Shr_u16, Shr_u32, Shr_u64, And1, And31, And32, Eql64, Neq64, Bin_lss, Bin_leq, Bin_gtr, Bin_geq, Bin_bool_eql, Bin_bool_neq, Bin_ptr_nil_eql, Bin_ptr_nil_neq, Not_dec, Un_not, Pick_t, Pick_f, Pick_pos, Pick_neg, Gd_tt, Gd_tf, Gd_ft, Gd_ff, Gd_pos_t, Gd_neg_t, Gd_pos_f, Gd_neg_f, Gd_undef, If_t, If_f, If_pos, If_neg, CallF_eq, Max_two, Min_two, Len_rd, Len_own, Ld_blkE, Idx_rdN, Idx_ownN, Idx_rdE, Idx_ownE, IdxAE, LdA_two, Idx_at0, Ext_atE, Len_at, Int.toNat_natCast, Int.toNat_zero, Int.toNat_one, List.length_map, List.length_append, List.length_cons, List.length_nil, List.length_take, List.length_set, List.length_replicate, Bool.not_true, Bool.not_false, decide_true, decide_false, BEq.rfl, bne_self_eq_false, tf_beq, ft_beq, tf_bne, ft_bne, not_true_eq_false, not_false_eq_true, app]
    have z13 := f13.size
    have bcl := bc.lt
    refine Rng_All (g := g) (lim := 0) (cs0 := cs) (fun i cs' h' => (Blk h' c [ptr g] ∧ AS N g h' cs' ps av F ab ∧ BK h' t4 t5 t6 t7 t8 g lv dr av) ∧ (∃ k : Nat, Blk h' t15 [Iv (k : Nat)] ∧ k ≤ i ∧ ∀ q, k ≤ q → q < i → ∃ e, cs'[q]? = some e ∧ e.gone = true) ∧ (i ≤ cs.length ∧ cs'.length = cs.length ∧ ∀ k, off cs' k = off cs k) ∧ Fr [] h h' ∧ h13.size ≤ h'.size)
      (fun ex h' => ex = Ex.ret ∧ Blk h' t6 [.bool true] ∧ Fr [] h h') ?_ ?_ ?_ ?_ ?_ ?_ ?_ ?_
    · rintro i cs' h' ⟨⟨q1, q2, q3⟩, q4, ⟨q5, q6, q7⟩, q8⟩
      exact ⟨q1, ⟨F, q2.ar⟩, q6, q7⟩
    · rintro i cs' h' d ⟨q1, ⟨k, q4, q41, q42⟩, ⟨q5, q6, q7⟩, q8⟩ hd hg
      have hil := (List.getElem?_eq_some_iff.1 hd).1
      refine ⟨q1, ⟨k, q4, by omega, fun q h1 h2 => ?_⟩, ⟨by omega, q6, q7⟩, q8⟩
      by_cases e : q = i
      · subst e; exact ⟨d, hd, hg⟩
      · exact q42 q h1 (by omega)
    · rintro i cs' l h' h'' hl o ⟨⟨q1, q2, q3⟩, ⟨k, q4, q41, q42⟩, q5, q8, q9⟩
      have zo := o.size
      exact ⟨⟨q1.one o, q2.one o, q3.one o⟩, ⟨k, q4.one o, q41, q42⟩, q5, q8.one o (by omega), by omega⟩
    · rintro ex l h' h'' hl o ⟨q1, q2, q3⟩
      exact ⟨q1, q2.one o, q3.one o (by omega)⟩
    · intro h14 f14
      have f := f13.trans f14
      exact ⟨⟨bc.fr f14 (by simp), a12.fr0 f, k12.fr f (by simp)⟩, ⟨0, b15.fr f (by simp), Nat.le_refl _, fun q _ h2 => by omega⟩, ⟨Nat.zero_le _, rfl, fun _ => rfl⟩, f012.trans f, f14.size⟩
    · rintro i d cs' h14 B Nx L hd hg ⟨-, -, ⟨hic, hlen, hoff⟩, -⟩ hB hN' hL
      refine hB _ fun h15 => ?_
      rintro ⟨⟨qc, a15, k15⟩, ⟨k0, bt, hk0, hgn0⟩, -, f015, z15⟩
      have hil := (List.getElem?_eq_some_iff.1 hd).1
      refine Lp_fn (σ := Nat) (fun _ => [ptr t4, ptr t5, ptr t6, ptr t7, ptr t8, ptr t15, Iv (off cs i : Nat)]) (fun k h' => k ≤ i ∧ Blk h' t15 [Iv (k : Nat)] ∧ Fr [t15] h15 h' ∧ ∀ q, k ≤ q → q < i → ∃ e, cs'[q]? = some e ∧ e.gone = true) (fun k => i - k) k0 rfl (fun _ => rfl) ⟨hk0, bt, Fr.refl _ _, hgn0⟩ ?_
      rintro k h16 ⟨hki, bt, f16, hgn⟩ X hX
      have a16 := a15.fr f16 o15
      have k16 := k15.fr f16 t15n
      have qc16 := qc.fr f16 (by simp; omega)
      have f016 : Fr [] h h16 := f015.trans' f16 (by simp; have := f10.size; omega)
      have z16 := f16.size
      have hk4 := k16.b4
      have hk5 := k16.b5
      have hk6 := k16.b6
      have hk7 := k16.b7
      have hk8 := k16.b8
      have ow16 := a16.ow
      have hkl : k < ps.length := by omega
      obtain ⟨p, hp⟩ : ∃ p, ps[k]? = some p := ⟨_, List.getElem?_eq_getElem hkl⟩
      obtain ⟨e, hce⟩ : ∃ e, cs'[k]? = some e := ⟨_, List.getElem?_eq_getElem (by omega)⟩
      have hat : At (ps.map fun p => ptr p.1) k (ptr p.1) := ⟨by rw [List.getElem?_map, hp]; rfl⟩
      have mb := a16.md k e p hce hp
      rw [hoff] at mb
      obtain ⟨⟨u, w, q, bb⟩, xs, hxl, bl⟩ := mb
      cases eg : e.gone with
      | true =>
        rw [eg] at bb
        have hne : k ≠ i := fun e' => by subst e'; rw [hd] at hce; cases hce; rw [hg] at eg; cases eg
        try simp (disch := first | assumption | omega | (apply At.mk; with_unfolding_all rfl)) only [hpl, ↓go_eq, ↓ent_eq, Mv, NilC_at, Fld_at, add_mk, Nat.zero_add, Nat.add_zero, Add64, Sub64, Mul64, Quo64, Rem64, Neg64, Cvt64, CvtU8, CvtU16, CvtU32, CvtU64, AddU64, SubU64, MulU64, Shr64, Shr_u8, Shr_u16, Shr_u32, Shr_u64, And1, And31, And32, Eql64, Neq64, Bin_lss, Bin_leq, Bin_gtr, Bin_geq, Bin_bool_eql, Bin_bool_neq, Bin_ptr_nil_eql, Bin_ptr_nil_neq, Not_dec, Un_not, Pick_t, Pick_f, Pick_pos, Pick_neg, Gd_tt, Gd_tf, Gd_ft, Gd_ff, Gd_pos_t, Gd_neg_t, Gd_pos_f, Gd_neg_f, Gd_undef, If_t, If_f, If_pos, If_neg, CallF_eq, Max_two, Min_two, Len_rd, Len_own, Ld_blkE, Idx_rdN, Idx_ownN, Idx_rdE, Idx_ownE, IdxAE, LdA_two, Idx_at0, Ext_atE, Len_at, Int.toNat_natCast, Int.toNat_zero, Int.toNat_one, List.length_map, List.length_append, List.length_cons, List.length_nil, List.length_take, List.length_set, List.length_replicate, Bool.not_true, Bool.not_false, decide_true, decide_false, BEq.rfl, bne_self_eq_false, tf_beq, ft_beq, tf_bne, ft_bne, not_true_eq_false, not_false_eq_true, app]
        refine St_blk bt (by simp) rfl fun h17 bt17 f17 => ?_
        try simp (disch := first | assumption | omega | (apply At.mk; with_unfolding_all rfl)) only [↓go_eq, ↓ent_eq, Mv, NilC_at, Fld_at, add_mk, Nat.zero_add, Nat.add_zero, Add64, Sub64, Mul64, Quo64, Rem64, Neg64, Cvt64, CvtU8, CvtU16, CvtU32, CvtU64, AddU64, SubU64, MulU64, Shr64, Shr_u8, Shr_u16, Shr_u32, Shr_u64, And1, And31, And32, Eql64, Neq64, Bin_lss, Bin_leq, Bin_gtr, Bin_geq, Bin_bool_eql, Bin_bool_neq, Bin_ptr_nil_eql, Bin_ptr_nil_neq, Not_dec, Un_not, Pick_t, Pick_f, Pick_pos, Pick_neg, Gd_tt, Gd_tf, Gd_ft, Gd_ff, Gd_pos_t, Gd_neg_t, Gd_pos_f, Gd_neg_f, Gd_undef, If_t, If_f, If_pos, If_neg, CallF_eq, Max_two, Min_two, Len_rd, Len_own, Ld_blkE, Idx_rdN, Idx_ownN, Idx_rdE, Idx_ownE, IdxAE, LdA_two, Idx_at0, Ext_atE, Len_at, Int.toNat_natCast, Int.toNat_zero, Int.toNat_one, List.length_map, List.length_append, List.length_cons, List.length_nil, List.length_take, List.length_set, List.length_replicate, Bool.not_true, Bool.not_false, decide_true, decide_false, BEq.rfl, bne_self_eq_false, tf_beq, ft_beq, tf_bne, ft_bne, not_true_eq_false, not_false_eq_true, app]
        try simp only [show (k : Int) + 1 = ((k + 1 : Nat) : Int) from by omega] at bt17
        exact hX (k + 1) h17 ⟨by omega, bt17, f16.trans f17, fun q h1 h2 => hgn q (by omega) h2⟩ (by omega)
      | false =>
        rw [eg] at bb
        have hki : k = i := by
          rcases Nat.lt_or_ge k i with hlt | hge
          · obtain ⟨e', h1, h2⟩ := hgn k (Nat.le_refl _) hlt
            rw [hce] at h1; cases h1; rw [eg] at h2; cases h2
          · omega
        subst hki
        try simp (disch := first | assumption | omega | (apply At.mk; with_unfolding_all rfl)) only [hpl, ↓go_eq, ↓ent_eq, Mv, NilC_at, Fld_at, add_mk, Nat.zero_add, Nat.add_zero, Add64, Sub64, Mul64, Quo64, Rem64, Neg64, Cvt64, CvtU8, CvtU16, CvtU32, CvtU64, AddU64, SubU64, MulU64, Shr64, Shr_u8, Shr_u16, Shr_u32, Shr_u64, And1, And31, And32, Eql64, Neq64, Bin_lss, Bin_leq, Bin_gtr, Bin_geq, Bin_bool_eql, Bin_bool_neq, Bin_ptr_nil_eql, Bin_ptr_nil_neq, Not_dec, Un_not, Pick_t, Pick_f, Pick_pos, Pick_neg, Gd_tt, Gd_tf, Gd_ft, Gd_ff, Gd_pos_t, Gd_neg_t, Gd_pos_f, Gd_neg_f, Gd_undef, If_t, If_f, If_pos, If_neg, CallF_eq, Max_two, Min_two, Len_rd, Len_own, Ld_blkE, Idx_rdN, Idx_ownN, Idx_rdE, Idx_ownE, IdxAE, LdA_two, Idx_at0, Ext_atE, Len_at, Int.toNat_natCast, Int.toNat_zero, Int.toNat_one, List.length_map, List.length_append, List.length_cons, List.length_nil, List.length_take, List.length_set, List.length_replicate, Bool.not_true, Bool.not_false, decide_true, decide_false, BEq.rfl, bne_self_eq_false, tf_beq, ft_beq, tf_bne, ft_bne, not_true_eq_false, not_false_eq_true, app]
        refine Jn_fn (σ := List Cl) (fun _ => [ptr t4, ptr t6, ptr t15]) (fun cs'' h' => (Blk h' c [ptr g] ∧ AS N g h' cs'' ps av F ab ∧ BK h' t4 t5 t6 t7 t8 g lv dr av) ∧ Blk h' t15 [Iv (k : Nat)] ∧ (cs''.length = cs.length ∧ ∀ k, off cs'' k = off cs k) ∧ Fr [] h h' ∧ h13.size ≤ h'.size) ?_ ?_
        · intro J7 hJ7
          have same := hJ7 cs' h16 ⟨⟨qc16, a16, k16⟩, bt, ⟨hlen, hoff⟩, f016, by omega⟩
          by_cases c7 : (k : Int) = dr % 9
          · by_cases c8 : k + 1 < ps.length
            · obtain ⟨p2, hp2⟩ : ∃ p, ps[k + 1]? = some p := ⟨_, List.getElem?_eq_getElem c8⟩
              obtain ⟨e2, hce2⟩ : ∃ e, cs'[k + 1]? = some e := ⟨_, List.getElem?_eq_getElem (by omega)⟩
              have hat2 : At (ps.map fun p => ptr p.1) ((k : Int) + 1).toNat (ptr p2.1) := ⟨by rw [show ((k : Int) + 1).toNat = k + 1 by omega, List.getElem?_map, hp2]; rfl⟩
              have mb2 := a16.md (k + 1) e2 p2 hce2 hp2
              have hp2m := List.mem_of_getElem? hp2
              obtain ⟨⟨u2, w2, q2, bb2⟩, xs2, hxl2, bl2⟩ := mb2
              have sF2 := (a16.sF p2 hp2m).1
              have hne12 := (a16.dj (k + 1) (k + 1) p2 p2 hp2 hp2).2.2
              obtain ⟨c1, l1, g1, step⟩ : ∃ c1 : Cl, c1.lits = e2.lits ∧ c1.gone = true ∧ ∀ Q : Ret, (∀ h4 (b : Bool), ArR h4 g 0 (cs'.set (k + 1) c1) F → Fr F h16 h4 → Q (.bool b) h4) → CallH Try.prog arena_Arena_Drop.id #[ptr g, Iv (off cs' (k + 1) : Nat)] Q h16 := by
                cases hg2 : e2.gone with
                | true => exact ⟨e2, rfl, hg2, fun Q hQ => arena_Arena_Drop.no a16.ar (by rw [clAt_off hce2, hg2]; rfl) (hQ h16 false (by rw [set_same' hce2]; exact a16.ar) (Fr.refl _ _))⟩
                | false => exact ⟨{ e2 with gone := true }, rfl, rfl, fun Q hQ => arena_Arena_Drop.yes a16.ar hce2 hg2 fun h4 ar4 f4 => hQ h4 true ar4 f4⟩
              have c8' : (k : Int) + 1 < (ps.length : Nat) := by omega
              try simp (disch := first | assumption | omega | (apply At.mk; with_unfolding_all rfl)) only [hpl, ↓go_eq, ↓ent_eq, Mv, NilC_at, Fld_at, add_mk, Nat.zero_add, Nat.add_zero, Add64, Sub64, Mul64, Quo64, Rem64, Neg64, Cvt64, CvtU8, CvtU16, CvtU32, CvtU64, AddU64, SubU64, MulU64, Shr64, Shr_u8, Shr_u16, Shr_u32, Shr_u64, And1, And31, And32, Eql64, Neq64, Bin_lss, Bin_leq, Bin_gtr, Bin_geq, Bin_bool_eql, Bin_bool_neq, Bin_ptr_nil_eql, Bin_ptr_nil_neq, Not_dec, Un_not, Pick_t, Pick_f, Pick_pos, Pick_neg, Gd_tt, Gd_tf, Gd_ft, Gd_ff, Gd_pos_t, Gd_neg_t, Gd_pos_f, Gd_neg_f, Gd_undef, If_t, If_f, If_pos, If_neg, CallF_eq, Max_two, Min_two, Len_rd, Len_own, Ld_blkE, Idx_rdN, Idx_ownN, Idx_rdE, Idx_ownE, IdxAE, LdA_two, Idx_at0, Ext_atE, Len_at, Int.toNat_natCast, Int.toNat_zero, Int.toNat_one, List.length_map, List.length_append, List.length_cons, List.length_nil, List.length_take, List.length_set, List.length_replicate, Bool.not_true, Bool.not_false, decide_true, decide_false, BEq.rfl, bne_self_eq_false, tf_beq, ft_beq, tf_bne, ft_bne, not_true_eq_false, not_false_eq_true, app]
              refine step _ fun h17 bq ar17 f17 => ?_
              have bt17 := bt.fr f17 (o15 t15 (by simp)).1
              have k17 := k16.fr f17 (fun b hb => (u10 b hb).1)
              have hk8 := k17.b8
              have ow17 := a16.ow.fr f17 (fun b hb hm => a16.sA b hm hb)
              have bb17 := bb2.fr f17 sF2.1
              try simp (disch := first | assumption | omega | (apply At.mk; with_unfolding_all rfl)) only [hpl, ↓go_eq, ↓ent_eq, Mv, NilC_at, Fld_at, add_mk, Nat.zero_add, Nat.add_zero, Add64, Sub64, Mul64, Quo64, Rem64, Neg64, Cvt64, CvtU8, CvtU16, CvtU32, CvtU64, AddU64, SubU64, MulU64, Shr64, Shr_u8, Shr_u16, Shr_u32, Shr_u64, And1, And31, And32, Eql64, Neq64, Bin_lss, Bin_leq, Bin_gtr, Bin_geq, Bin_bool_eql, Bin_bool_neq, Bin_ptr_nil_eql, Bin_ptr_nil_neq, Not_dec, Un_not, Pick_t, Pick_f, Pick_pos, Pick_neg, Gd_tt, Gd_tf, Gd_ft, Gd_ff, Gd_pos_t, Gd_neg_t, Gd_pos_f, Gd_neg_f, Gd_undef, If_t, If_f, If_pos, If_neg, CallF_eq, Max_two, Min_two, Len_rd, Len_own, Ld_blkE, Idx_rdN, Idx_ownN, Idx_rdE, Idx_ownE, IdxAE, LdA_two, Idx_at0, Ext_atE, Len_at, Int.toNat_natCast, Int.toNat_zero, Int.toNat_one, List.length_map, List.length_append, List.length_cons, List.length_nil, List.length_take, List.length_set, List.length_replicate, Bool.not_true, Bool.not_false, decide_true, decide_false, BEq.rfl, bne_self_eq_false, tf_beq, ft_beq, tf_bne, ft_bne, not_true_eq_false, not_false_eq_true, app]
              refine St_blk bb17 (by simp) rfl fun h18 bb18 f18 => ?_
              have f1618 : Fr (p2.1 :: p2.2 :: F) h16 h18 := (f17.mono (by intro b hb; simp [hb])).trans (f18.mono (by simp))
              have a18 := a16.upd hce2 hp2 (c' := c1) (by rw [l1]) (by rw [l1]; exact a16.nz e2 (List.mem_of_getElem? hce2)) f1618 (ar17.fr f18 (by intro b hb; simp; intro e; subst e; exact sF2.1 hb)) (by
                rw [l1, g1]
                exact ⟨⟨u2, w2, q2, bb18⟩, xs2, hxl2, (bl2.fr f17 sF2.2).fr f18 (by simp; exact fun e => hne12 e.symm)⟩)
              have nS : ∀ b ∈ [t4, t5, t6, t7, t8], b ∉ (p2.1 :: p2.2 :: F) := u10.not fun b hb => by
                rcases List.mem_cons.1 hb with q | hb
                · exact .inr ⟨p2, hp2m, .inl q⟩
                · rcases List.mem_cons.1 hb with q | hb
                  · exact .inr ⟨p2, hp2m, .inr q⟩
                  · exact .inl hb
              have hlt2 := a16.ltP hp2m
              have ltp2 := ltP p2 hp2m
              have ltF16 := ltF
              try simp (disch := first | assumption | omega | (apply At.mk; with_unfolding_all rfl)) only [↓go_eq, ↓ent_eq, Mv, NilC_at, Fld_at, add_mk, Nat.zero_add, Nat.add_zero, Add64, Sub64, Mul64, Quo64, Rem64, Neg64, Cvt64, CvtU8, CvtU16, CvtU32, CvtU64, AddU64, SubU64, MulU64, Shr64, Shr_u8, Shr_u16, Shr_u32, Shr_u64, And1, And31, And32, Eql64, Neq64, Bin_lss, Bin_leq, Bin_gtr, Bin_geq, Bin_bool_eql, Bin_bool_neq, Bin_ptr_nil_eql, Bin_ptr_nil_neq, Not_dec, Un_not, Pick_t, Pick_f, Pick_pos, Pick_neg, Gd_tt, Gd_tf, Gd_ft, Gd_ff, Gd_pos_t, Gd_neg_t, Gd_pos_f, Gd_neg_f, Gd_undef, If_t, If_f, If_pos, If_neg, CallF_eq, Max_two, Min_two, Len_rd, Len_own, Ld_blkE, Idx_rdN, Idx_ownN, Idx_rdE, Idx_ownE, IdxAE, LdA_two, Idx_at0, Ext_atE, Len_at, Int.toNat_natCast, Int.toNat_zero, Int.toNat_one, List.length_map, List.length_append, List.length_cons, List.length_nil, List.length_take, List.length_set, List.length_replicate, Bool.not_true, Bool.not_false, decide_true, decide_false, BEq.rfl, bne_self_eq_false, tf_beq, ft_beq, tf_bne, ft_bne, not_true_eq_false, not_false_eq_true, app]
              refine hJ7 (cs'.set (k + 1) c1) h18 ⟨⟨qc16.fr f1618 (fun hm => ?_), a18, k16.fr f1618 nS⟩, bt17.fr f18 (by simp; exact (fun e => by omega)), ⟨by rw [List.length_set]; exact hlen, fun j => by rw [off_set hce2 (by rw [l1])]; exact hoff j⟩, a16.frP hp2m hN0 f016 f1618, by have := f1618.size; omega⟩
              rcases List.mem_cons.1 hm with q | hm
              · omega
              · rcases List.mem_cons.1 hm with q | hm
                · omega
                · have := ltF _ hm; omega
            · have c8' : ¬ ((k : Int) + 1 < (ps.length : Nat)) := by omega
              try simp (disch := first | assumption | omega | (apply At.mk; with_unfolding_all rfl)) only [hpl, ↓go_eq, ↓ent_eq, Mv, NilC_at, Fld_at, add_mk, Nat.zero_add, Nat.add_zero, Add64, Sub64, Mul64, Quo64, Rem64, Neg64, Cvt64, CvtU8, CvtU16, CvtU32, CvtU64, AddU64, SubU64, MulU64, Shr64, Shr_u8, Shr_u16, Shr_u32, Shr_u64, And1, And31, And32, Eql64, Neq64, Bin_lss, Bin_leq, Bin_gtr, Bin_geq, Bin_bool_eql, Bin_bool_neq, Bin_ptr_nil_eql, Bin_ptr_nil_neq, Not_dec, Un_not, Pick_t, Pick_f, Pick_pos, Pick_neg, Gd_tt, Gd_tf, Gd_ft, Gd_ff, Gd_pos_t, Gd_neg_t, Gd_pos_f, Gd_neg_f, Gd_undef, If_t, If_f, If_pos, If_neg, CallF_eq, Max_two, Min_two, Len_rd, Len_own, Ld_blkE, Idx_rdN, Idx_ownN, Idx_rdE, Idx_ownE, IdxAE, LdA_two, Idx_at0, Ext_atE, Len_at, Int.toNat_natCast, Int.toNat_zero, Int.toNat_one, List.length_map, List.length_append, List.length_cons, List.length_nil, List.length_take, List.length_set, List.length_replicate, Bool.not_true, Bool.not_false, decide_true, decide_false, BEq.rfl, bne_self_eq_false, tf_beq, ft_beq, tf_bne, ft_bne, not_true_eq_false, not_false_eq_true, app]
              exact same
          · try simp (disch := first | assumption | omega | (apply At.mk; with_unfolding_all rfl)) only [↓go_eq, ↓ent_eq, Mv, NilC_at, Fld_at, add_mk, Nat.zero_add, Nat.add_zero, Add64, Sub64, Mul64, Quo64, Rem64, Neg64, Cvt64, CvtU8, CvtU16, CvtU32, CvtU64, AddU64, SubU64, MulU64, Shr64, Shr_u8, Shr_u16, Shr_u32, Shr_u64, And1, And31, And32, Eql64, Neq64, Bin_lss, Bin_leq, Bin_gtr, Bin_geq, Bin_bool_eql, Bin_bool_neq, Bin_ptr_nil_eql, Bin_ptr_nil_neq, Not_dec, Un_not, Pick_t, Pick_f, Pick_pos, Pick_neg, Gd_tt, Gd_tf, Gd_ft, Gd_ff, Gd_pos_t, Gd_neg_t, Gd_pos_f, Gd_neg_f, Gd_undef, If_t, If_f, If_pos, If_neg, CallF_eq, Max_two, Min_two, Len_rd, Len_own, Ld_blkE, Idx_rdN, Idx_ownN, Idx_rdE, Idx_ownE, IdxAE, LdA_two, Idx_at0, Ext_atE, Len_at, Int.toNat_natCast, Int.toNat_zero, Int.toNat_one, List.length_map, List.length_append, List.length_cons, List.length_nil, List.length_take, List.length_set, List.length_replicate, Bool.not_true, Bool.not_false, decide_true, decide_false, BEq.rfl, bne_self_eq_false, tf_beq, ft_beq, tf_bne, ft_bne, not_true_eq_false, not_false_eq_true, app]
            exact same
        · rintro cs'' h17 ⟨⟨qc17, a17, k17⟩, bt17, ⟨hlen2, hoff2⟩, f017, z17⟩
          try simp (disch := first | assumption | omega | (apply At.mk; with_unfolding_all rfl)) only [↓go_eq, ↓ent_eq, Mv, NilC_at, Fld_at, add_mk, Nat.zero_add, Nat.add_zero, Add64, Sub64, Mul64, Quo64, Rem64, Neg64, Cvt64, CvtU8, CvtU16, CvtU32, CvtU64, AddU64, SubU64, MulU64, Shr64, Shr_u8, Shr_u16, Shr_u32, Shr_u64, And1, And31, And32, Eql64, Neq64, Bin_lss, Bin_leq, Bin_gtr, Bin_geq, Bin_bool_eql, Bin_bool_neq, Bin_ptr_nil_eql, Bin_ptr_nil_neq, Not_dec, Un_not, Pick_t, Pick_f, Pick_pos, Pick_neg, Gd_tt, Gd_tf, Gd_ft, Gd_ff, Gd_pos_t, Gd_neg_t, Gd_pos_f, Gd_neg_f, Gd_undef, If_t, If_f, If_pos, If_neg, CallF_eq, Max_two, Min_two, Len_rd, Len_own, Ld_blkE, Idx_rdN, Idx_ownN, Idx_rdE, Idx_ownE, IdxAE, LdA_two, Idx_at0, Ext_atE, Len_at, Int.toNat_natCast, Int.toNat_zero, Int.toNat_one, List.length_map, List.length_append, List.length_cons, List.length_nil, List.length_take, List.length_set, List.length_replicate, Bool.not_true, Bool.not_false, decide_true, decide_false, BEq.rfl, bne_self_eq_false, tf_beq, ft_beq, tf_bne, ft_bne, not_true_eq_false, not_false_eq_true, app]
          refine St_blk bt17 (by simp) rfl fun h18 bt18 f18 => ?_
          have bt18 : Blk h18 t15 [Iv ((k : Int) + 1)] := bt18
          have k18 := k17.fr f18 t15n
          have hk4 := k18.b4
          have hk6 := k18.b6
          have f018 : Fr [] h h18 := f017.trans' f18 (by simp; have := f10.size; omega)
          have z18 := f18.size
          by_cases c9 : (k : Int) + 1 = lv
          · try simp (disch := first | assumption | omega | (apply At.mk; with_unfolding_all rfl)) only [↓go_eq, ↓ent_eq, Mv, NilC_at, Fld_at, add_mk, Nat.zero_add, Nat.add_zero, Add64, Sub64, Mul64, Quo64, Rem64, Neg64, Cvt64, CvtU8, CvtU16, CvtU32, CvtU64, AddU64, SubU64, MulU64, Shr64, Shr_u8, Shr_u16, Shr_u32, Shr_u64, And1, And31, And32, Eql64, Neq64, Bin_lss, Bin_leq, Bin_gtr, Bin_geq, Bin_bool_eql, Bin_bool_neq, Bin_ptr_nil_eql, Bin_ptr_nil_neq, Not_dec, Un_not, Pick_t, Pick_f, Pick_pos, Pick_neg, Gd_tt, Gd_tf, Gd_ft, Gd_ff, Gd_pos_t, Gd_neg_t, Gd_pos_f, Gd_neg_f, Gd_undef, If_t, If_f, If_pos, If_neg, CallF_eq, Max_two, Min_two, Len_rd, Len_own, Ld_blkE, Idx_rdN, Idx_ownN, Idx_rdE, Idx_ownE, IdxAE, LdA_two, Idx_at0, Ext_atE, Len_at, Int.toNat_natCast, Int.toNat_zero, Int.toNat_one, List.length_map, List.length_append, List.length_cons, List.length_nil, List.length_take, List.length_set, List.length_replicate, Bool.not_true, Bool.not_false, decide_true, decide_false, BEq.rfl, bne_self_eq_false, tf_beq, ft_beq, tf_bne, ft_bne, not_true_eq_false, not_false_eq_true, app]
            refine St_blk hk6 (by simp) rfl fun h19 b19 f19 => ?_
            try simp (disch := first | assumption | omega | (apply At.mk; with_unfolding_all rfl)) only [↓go_eq, ↓ent_eq, Mv, NilC_at, Fld_at, add_mk, Nat.zero_add, Nat.add_zero, Add64, Sub64, Mul64, Quo64, Rem64, Neg64, Cvt64, CvtU8, CvtU16, CvtU32, CvtU64, AddU64, SubU64, MulU64, Shr64, Shr_u8, Shr_u16, Shr_u32, Shr_u64, And1, And31, And32, Eql64, Neq64, Bin_lss, Bin_leq, Bin_gtr, Bin_geq, Bin_bool_eql, Bin_bool_neq, Bin_ptr_nil_eql, Bin_ptr_nil_neq, Not_dec, Un_not, Pick_t, Pick_f, Pick_pos, Pick_neg, Gd_tt, Gd_tf, Gd_ft, Gd_ff, Gd_pos_t, Gd_neg_t, Gd_pos_f, Gd_neg_f, Gd_undef, If_t, If_f, If_pos, If_neg, CallF_eq, Max_two, Min_two, Len_rd, Len_own, Ld_blkE, Idx_rdN, Idx_ownN, Idx_rdE, Idx_ownE, IdxAE, LdA_two, Idx_at0, Ext_atE, Len_at, Int.toNat_natCast, Int.toNat_zero, Int.toNat_one, List.length_map, List.length_append, List.length_cons, List.length_nil, List.length_take, List.length_set, List.length_replicate, Bool.not_true, Bool.not_false, decide_true, decide_false, BEq.rfl, bne_self_eq_false, tf_beq, ft_beq, tf_bne, ft_bne, not_true_eq_false, not_false_eq_true, app]
            exact hL _ h19 ⟨rfl, b19, f018.trans' f19 (by simp; omega)⟩
          · try simp (disch := first | assumption | omega | (apply At.mk; with_unfolding_all rfl)) only [↓go_eq, ↓ent_eq, Mv, NilC_at, Fld_at, add_mk, Nat.zero_add, Nat.add_zero, Add64, Sub64, Mul64, Quo64, Rem64, Neg64, Cvt64, CvtU8, CvtU16, CvtU32, CvtU64, AddU64, SubU64, MulU64, Shr64, Shr_u8, Shr_u16, Shr_u32, Shr_u64, And1, And31, And32, Eql64, Neq64, Bin_lss, Bin_leq, Bin_gtr, Bin_geq, Bin_bool_eql, Bin_bool_neq, Bin_ptr_nil_eql, Bin_ptr_nil_neq, Not_dec, Un_not, Pick_t, Pick_f, Pick_pos, Pick_neg, Gd_tt, Gd_tf, Gd_ft, Gd_ff, Gd_pos_t, Gd_neg_t, Gd_pos_f, Gd_neg_f, Gd_undef, If_t, If_f, If_pos, If_neg, CallF_eq, Max_two, Min_two, Len_rd, Len_own, Ld_blkE, Idx_rdN, Idx_ownN, Idx_rdE, Idx_ownE, IdxAE, LdA_two, Idx_at0, Ext_atE, Len_at, Int.toNat_natCast, Int.toNat_zero, Int.toNat_one, List.length_map, List.length_append, List.length_cons, List.length_nil, List.length_take, List.length_set, List.length_replicate, Bool.not_true, Bool.not_false, decide_true, decide_false, BEq.rfl, bne_self_eq_false, tf_beq, ft_beq, tf_bne, ft_bne, not_true_eq_false, not_false_eq_true, app]
            refine hN' cs'' h18 ⟨⟨qc17.fr f18 (by simp; omega), a17.fr f18 o15, k18⟩, ⟨k + 1, by rw [show ((k + 1 : Nat) : Int) = (k : Int) + 1 by omega]; exact bt18, Nat.le_refl _, fun q h1 h2 => by omega⟩, ⟨by omega, hlen2, hoff2⟩, f018, by omega⟩
    · rintro cs' h14 ⟨⟨-, q2, q3⟩, q4, ⟨-, q6, -⟩, q8, -⟩
      exact hJ4 cs' h14 ⟨q2, q3, q4, q6, q8⟩
    · rintro ex h14 ⟨rfl, q2, q3⟩
      exact over h14 q2 q3
  · rintro cs' h13 ⟨a13, k13, ⟨k0, bt, hk0, hgn0⟩, hlen, f013⟩
    refine Lp_fn (σ := Nat) (fun _ => [ptr t6, ptr t8, ptr t15]) (fun k h' => k ≤ cs.length ∧ Blk h' t15 [Iv (k : Nat)] ∧ Fr [t15] h13 h' ∧ ∀ q, k ≤ q → q < cs.length → ∃ e, cs'[q]? = some e ∧ e.gone = true) (fun k => cs.length - k) k0 rfl (fun _ => rfl) ⟨hk0, bt, Fr.refl _ _, hgn0⟩ ?_
    rintro k h16 ⟨hki, bt, f16, hgn⟩ X hX
    have a16 := a13.fr f16 o15
    have k16 := k13.fr f16 t15n
    have f016 : Fr [] h h16 := f013.trans' f16 (by simp; have := f10.size; omega)
    have hk6 := k16.b6
    have hk8 := k16.b8
    have ow16 := a16.ow
    by_cases ck : k < ps.length
    · obtain ⟨p, hp⟩ : ∃ p, ps[k]? = some p := ⟨_, List.getElem?_eq_getElem ck⟩
      obtain ⟨e, hce, eg⟩ := hgn k (Nat.le_refl _) (by omega)
      have hat : At (ps.map fun p => ptr p.1) k (ptr p.1) := ⟨by rw [List.getElem?_map, hp]; rfl⟩
      have mb := a16.md k e p hce hp
      obtain ⟨⟨u, w, q, bb⟩, xs, hxl, bl⟩ := mb
      rw [eg] at bb
      try simp (disch := first | assumption | omega | (apply At.mk; with_unfolding_all rfl)) only [hpl, ↓go_eq, ↓ent_eq, Mv, NilC_at, Fld_at, add_mk, Nat.zero_add, Nat.add_zero, Add64, Sub64, Mul64, Quo64, Rem64, Neg64, Cvt64, CvtU8, CvtU16, CvtU32, CvtU64, AddU64, SubU64, MulU64, Shr64, Shr_u8, Shr_u16, Shr_u32, Shr_u64, And1, And31, And32, Eql64, Neq64, Bin_lss, Bin_leq, Bin_gtr, Bin_geq, Bin_bool_eql, Bin_bool_neq, Bin_ptr_nil_eql, Bin_ptr_nil_neq, Not_dec, Un_not, Pick_t, Pick_f, Pick_pos, Pick_neg, Gd_tt, Gd_tf, Gd_ft, Gd_ff, Gd_pos_t, Gd_neg_t, Gd_pos_f, Gd_neg_f, Gd_undef, If_t, If_f, If_pos, If_neg, CallF_eq, Max_two, Min_two, Len_rd, Len_own, Ld_blkE, Idx_rdN, Idx_ownN, Idx_rdE, Idx_ownE, IdxAE, LdA_two, Idx_at0, Ext_atE, Len_at, Int.toNat_natCast, Int.toNat_zero, Int.toNat_one, List.length_map, List.length_append, List.length_cons, List.length_nil, List.length_take, List.length_set, List.length_replicate, Bool.not_true, Bool.not_false, decide_true, decide_false, BEq.rfl, bne_self_eq_false, tf_beq, ft_beq, tf_bne, ft_bne, not_true_eq_false, not_false_eq_true, app]
      refine St_blk bt (by simp) rfl fun h17 bt17 f17 => ?_
      try simp (disch := first | assumption | omega | (apply At.mk; with_unfolding_all rfl)) only [↓go_eq, ↓ent_eq, Mv, NilC_at, Fld_at, add_mk, Nat.zero_add, Nat.add_zero, Add64, Sub64, Mul64, Quo64, Rem64, Neg64, Cvt64, CvtU8, CvtU16, CvtU32, CvtU64, AddU64, SubU64, MulU64, Shr64, Shr_u8, Shr_u16, Shr_u32, Shr_u64, And1, And31, And32, Eql64, Neq64, Bin_lss, Bin_leq, Bin_gtr, Bin_geq, Bin_bool_eql, Bin_bool_neq, Bin_ptr_nil_eql, Bin_ptr_nil_neq, Not_dec, Un_not, Pick_t, Pick_f, Pick_pos, Pick_neg, Gd_tt, Gd_tf, Gd_ft, Gd_ff, Gd_pos_t, Gd_neg_t, Gd_pos_f, Gd_neg_f, Gd_undef, If_t, If_f, If_pos, If_neg, CallF_eq, Max_two, Min_two, Len_rd, Len_own, Ld_blkE, Idx_rdN, Idx_ownN, Idx_rdE, Idx_ownE, IdxAE, LdA_two, Idx_at0, Ext_atE, Len_at, Int.toNat_natCast, Int.toNat_zero, Int.toNat_one, List.length_map, List.length_append, List.length_cons, List.length_nil, List.length_take, List.length_set, List.length_replicate, Bool.not_true, Bool.not_false, decide_true, decide_false, BEq.rfl, bne_self_eq_false, tf_beq, ft_beq, tf_bne, ft_bne, not_true_eq_false, not_false_eq_true, app]
      try simp only [show (k : Int) + 1 = ((k + 1 : Nat) : Int) from by omega] at bt17
      exact hX (k + 1) h17 ⟨by omega, bt17, f16.trans f17, fun q h1 h2 => hgn q (by omega) h2⟩ (by omega)
    · have ek : k = ps.length := by omega
      have ck' : ¬ (k : Int) < (ps.length : Nat) := by omega
      have ck2 : (k : Int) = (ps.length : Nat) := by omega
      try simp (disch := first | assumption | omega | (apply At.mk; with_unfolding_all rfl)) only [hpl, ↓go_eq, ↓ent_eq, Mv, NilC_at, Fld_at, add_mk, Nat.zero_add, Nat.add_zero, Add64, Sub64, Mul64, Quo64, Rem64, Neg64, Cvt64, CvtU8, CvtU16, CvtU32, CvtU64, AddU64, SubU64, MulU64, Shr64, Shr_u8, Shr_u16, Shr_u32, Shr_u64, And1, And31, And32, Eql64, Neq64, Bin_lss, Bin_leq, Bin_gtr, Bin_geq, Bin_bool_eql, Bin_bool_neq, Bin_ptr_nil_eql, Bin_ptr_nil_neq, Not_dec, Un_not, Pick_t, Pick_f, Pick_pos, Pick_neg, Gd_tt, Gd_tf, Gd_ft, Gd_ff, Gd_pos_t, Gd_neg_t, Gd_pos_f, Gd_neg_f, Gd_undef, If_t, If_f, If_pos, If_neg, CallF_eq, Max_two, Min_two, Len_rd, Len_own, Ld_blkE, Idx_rdN, Idx_ownN, Idx_rdE, Idx_ownE, IdxAE, LdA_two, Idx_at0, Ext_atE, Len_at, Int.toNat_natCast, Int.toNat_zero, Int.toNat_one, List.length_map, List.length_append, List.length_cons, List.length_nil, List.length_take, List.length_set, List.length_replicate, Bool.not_true, Bool.not_false, decide_true, decide_false, BEq.rfl, bne_self_eq_false, tf_beq, ft_beq, tf_bne, ft_bne, not_true_eq_false, not_false_eq_true, app]
      try rw [decide_eq_true ck2]
      refine St_blk hk6 (by simp) rfl fun h17 b17 f17 => ?_
      exact over h17 b17 (f016.trans' f17 (by simp; omega))
theorem bradawllaw05_ArenaAll.law {h : Heap} {a0 : List De} {a1 a2 : Int} {v0 v1 v2 : Value} (r0 : rDes.is h a0 [v0]) (r1 : (rInt .u8).is h a1 [v1]) (r2 : (rInt .u8).is h a2 [v2]) :
    CallH Try.prog bradawllaw05_ArenaAll.id #[v0, v1, v2] (fun v h' => v = .bool true ∧ Fr [] h h') h := by
  obtain ⟨h1, h2⟩ := des_arg r0
  obtain ⟨e1, l1, u1⟩ := r1
  obtain ⟨e2, l2, u2⟩ := r2
  have e1 : v1 = .int .u8 a1 := by simpa using e1
  have e2 : v2 = .int .u8 a2 := by simpa using e2
  subst e1 e2
  exact bradawllaw05_ArenaAll.spec h1 h2 ⟨l1, u1⟩ ⟨l2, u2⟩ fun h' f => ⟨rfl, f⟩
end Go.Proofs.Ythekbpaekopmfaa
