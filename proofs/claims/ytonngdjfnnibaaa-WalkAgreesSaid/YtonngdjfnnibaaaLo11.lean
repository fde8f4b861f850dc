/- A new state, walked. Conditions: those typed ahead of each theorem. -/
import Derived.Test.YtonngdjfnnibaaaLo10
namespace Go.Proofs.Ytonngdjfnnibaaa
open Go.Pt
set_option linter.unusedVariables false
set_option linter.unusedSimpArgs false
set_option maxHeartbeats 16000000 in
theorem local_New.spec {n : Nat} {cs : List (List Int)} {ws : List Value} {w t1 : Value} {a : List Bool} {Q : Ret} {h : Heap} (hn : n ≤ 1000) (hl : cs.length ≤ 1000) (hll : ∀ c ∈ cs, c.length ≤ 1000) (hF : FOk n cs) (hw : RdL h w cs ws) (ha : Rd h t1 (a.map .bool)) (al : a.length ≤ 1000000)
    (hk0 : a.length ≠ n → ∀ h', Fr [] h h' → Q (.tuple #[.pointer none, Iv 1]) h')
    (hk : a.length = n → ∀ h' sb M R m, LS h.size h' M R 0 sb n (fmT cs).length m → Rt n m (fmT cs) a a (unT a (fmT cs)) 0 → Fr [] h h' → m.row.Pairwise (· < ·) → Q (.tuple #[ptr sb, Iv 0]) h') : CallH Try.prog local_New.id #[.agg #[Iv n, w], t1] Q h := by
  refine local_New.ok ?_
  simp only [local_New.pt]
  have hwc := hw.rd.isCell
  have hal : (a.map Value.bool).length = a.length := List.length_map _
  rw [go_eq]
  refine New_blk fun h1 b1 f1 s1 => ?_
  have b1 : Blk h1 h.size [Iv n, w] := b1
  have ha1 := ha.fr f1
  have hfld : ∀ {K : Ret} {h' : Heap}, Fld 0 (.pointer (some ⟨h.size, 0, none⟩)) K h' = K (.pointer (some ⟨h.size, 0, none⟩)) h' := Fld_at _ _
  have hld : ∀ {K : Ret}, Ld (.pointer (some ⟨h.size, 0, none⟩)) K h1 = K (Iv n) h1 := Ld_blkE b1 ⟨rfl⟩
  rw [go_eq, Len_rd ha1, hal, go_eq, hfld, go_eq, hld, go_eq, Neq64]
  by_cases c : a.length = n
  rotate_left
  · rw [decide_eq_true (by omega), If_t]
    exact hk0 c h1 f1
  have hk := hk c
  rw [decide_eq_false (by omega), If_f]
  have z1 := f1.size
  have e2n : (2 : Int) * (n : Int) = ((2 * n : Nat) : Int) := by omega
  have en1 : (n : Int) + 1 = ((n + 1 : Nat) : Int) := by omega
  refine Jn_fn (σ := Nat × Value × List Nat × Value × List Nat × Value × List Nat × Value × List Nat) (fun x => [ptr h.size, ptr x.1]) (fun x h' => Sep h1.size h' 5 (nR x.1 n a x.2.1 x.2.2.1 x.2.2.2.1 x.2.2.2.2.1 x.2.2.2.2.2.1 x.2.2.2.2.2.2.1 x.2.2.2.2.2.2.2.1 x.2.2.2.2.2.2.2.2) ∧ Fr [] h1 h') ?_ ?_
  · intro J hJ
    rw [go_eq, hfld, go_eq, hld, go_eq, Mul64 _ (by omega) (by omega), e2n, go_eq, hfld, go_eq, hld, go_eq, Add64 _ (by omega) (by omega), en1, go_eq, hfld, go_eq, hld, go_eq, Add64 _ (by omega) (by omega), en1]
    have s0 : Sep h1.size h1 0 (fun _ => rBlk 0 []) := Sep.nil h1
    have fg := Fr.refl [] h1
    have rd := ha1
    repeat' first
      | refine And.intro ?_ ?_
      | (rw [go_eq]; refine clone_a al rd fun v bs h' ow lo f' => ?_
         have vc := ow.rd.isCell
         replace s0 := s0.add (r := rOwn v (a.map .bool) bs) f' ow lo (by have := fg.size; omega)
         replace rd := rd.fr f'
         replace fg := fg.trans f'
         clear ow lo f')
      | (rw [go_eq]; refine MkS_one (x := nilS) (n := 2 * n) (by omega) (by omega) fun h' ow f' sz => ?_
         replace s0 := s0.add (r := rOwn _ (List.replicate (2 * n) nilS) _) f' ow (by simp [rOwn]) (by have := fg.size; omega)
         replace rd := rd.fr f'
         replace fg := fg.trans f'
         clear ow f' sz)
      | (rw [go_eq]; refine MkS_one (x := Iv 0) (n := n + 1) (by omega) (by omega) fun h' ow f' sz => ?_
         replace s0 := s0.add (r := rOwn _ (List.replicate (n + 1) (Iv 0)) _) f' ow (by simp [rOwn]) (by have := fg.size; omega)
         replace rd := rd.fr f'
         replace fg := fg.trans f'
         clear ow f' sz)
      | (rw [go_eq, Bld_nine vc rfl rfl rfl, go_eq]; refine New_blk fun h5 b5 f5 z5 => ?_
         first
           | exact hJ (_, _, _, _, _, _, _, _, _) h5 ⟨Sep.nine 0 1 2 3 s0 rfl rfl rfl rfl (by decide) (by decide) b5 f5 (by have := fg.size; omega), fg.trans f5⟩
           | exact hJ (_, _, _, _, _, _, _, _, _) h5 ⟨Sep.nine 0 1 3 2 s0 rfl rfl rfl rfl (by decide) (by decide) b5 f5 (by have := fg.size; omega), fg.trans f5⟩
           | exact hJ (_, _, _, _, _, _, _, _, _) h5 ⟨Sep.nine 0 2 1 3 s0 rfl rfl rfl rfl (by decide) (by decide) b5 f5 (by have := fg.size; omega), fg.trans f5⟩
           | exact hJ (_, _, _, _, _, _, _, _, _) h5 ⟨Sep.nine 0 2 3 1 s0 rfl rfl rfl rfl (by decide) (by decide) b5 f5 (by have := fg.size; omega), fg.trans f5⟩
           | exact hJ (_, _, _, _, _, _, _, _, _) h5 ⟨Sep.nine 0 3 1 2 s0 rfl rfl rfl rfl (by decide) (by decide) b5 f5 (by have := fg.size; omega), fg.trans f5⟩
           | exact hJ (_, _, _, _, _, _, _, _, _) h5 ⟨Sep.nine 0 3 2 1 s0 rfl rfl rfl rfl (by decide) (by decide) b5 f5 (by have := fg.size; omega), fg.trans f5⟩
           | exact hJ (_, _, _, _, _, _, _, _, _) h5 ⟨Sep.nine 1 0 2 3 s0 rfl rfl rfl rfl (by decide) (by decide) b5 f5 (by have := fg.size; omega), fg.trans f5⟩
           | exact hJ (_, _, _, _, _, _, _, _, _) h5 ⟨Sep.nine 1 0 3 2 s0 rfl rfl rfl rfl (by decide) (by decide) b5 f5 (by have := fg.size; omega), fg.trans f5⟩
           | exact hJ (_, _, _, _, _, _, _, _, _) h5 ⟨Sep.nine 1 2 0 3 s0 rfl rfl rfl rfl (by decide) (by decide) b5 f5 (by have := fg.size; omega), fg.trans f5⟩
           | exact hJ (_, _, _, _, _, _, _, _, _) h5 ⟨Sep.nine 1 2 3 0 s0 rfl rfl rfl rfl (by decide) (by decide) b5 f5 (by have := fg.size; omega), fg.trans f5⟩
           | exact hJ (_, _, _, _, _, _, _, _, _) h5 ⟨Sep.nine 1 3 0 2 s0 rfl rfl rfl rfl (by decide) (by decide) b5 f5 (by have := fg.size; omega), fg.trans f5⟩
           | exact hJ (_, _, _, _, _, _, _, _, _) h5 ⟨Sep.nine 1 3 2 0 s0 rfl rfl rfl rfl (by decide) (by decide) b5 f5 (by have := fg.size; omega), fg.trans f5⟩
           | exact hJ (_, _, _, _, _, _, _, _, _) h5 ⟨Sep.nine 2 0 1 3 s0 rfl rfl rfl rfl (by decide) (by decide) b5 f5 (by have := fg.size; omega), fg.trans f5⟩
           | exact hJ (_, _, _, _, _, _, _, _, _) h5 ⟨Sep.nine 2 0 3 1 s0 rfl rfl rfl rfl (by decide) (by decide) b5 f5 (by have := fg.size; omega), fg.trans f5⟩
           | exact hJ (_, _, _, _, _, _, _, _, _) h5 ⟨Sep.nine 2 1 0 3 s0 rfl rfl rfl rfl (by decide) (by decide) b5 f5 (by have := fg.size; omega), fg.trans f5⟩
           | exact hJ (_, _, _, _, _, _, _, _, _) h5 ⟨Sep.nine 2 1 3 0 s0 rfl rfl rfl rfl (by decide) (by decide) b5 f5 (by have := fg.size; omega), fg.trans f5⟩
           | exact hJ (_, _, _, _, _, _, _, _, _) h5 ⟨Sep.nine 2 3 0 1 s0 rfl rfl rfl rfl (by decide) (by decide) b5 f5 (by have := fg.size; omega), fg.trans f5⟩
           | exact hJ (_, _, _, _, _, _, _, _, _) h5 ⟨Sep.nine 2 3 1 0 s0 rfl rfl rfl rfl (by decide) (by decide) b5 f5 (by have := fg.size; omega), fg.trans f5⟩
           | exact hJ (_, _, _, _, _, _, _, _, _) h5 ⟨Sep.nine 3 0 1 2 s0 rfl rfl rfl rfl (by decide) (by decide) b5 f5 (by have := fg.size; omega), fg.trans f5⟩
           | exact hJ (_, _, _, _, _, _, _, _, _) h5 ⟨Sep.nine 3 0 2 1 s0 rfl rfl rfl rfl (by decide) (by decide) b5 f5 (by have := fg.size; omega), fg.trans f5⟩
           | exact hJ (_, _, _, _, _, _, _, _, _) h5 ⟨Sep.nine 3 1 0 2 s0 rfl rfl rfl rfl (by decide) (by decide) b5 f5 (by have := fg.size; omega), fg.trans f5⟩
           | exact hJ (_, _, _, _, _, _, _, _, _) h5 ⟨Sep.nine 3 1 2 0 s0 rfl rfl rfl rfl (by decide) (by decide) b5 f5 (by have := fg.size; omega), fg.trans f5⟩
           | exact hJ (_, _, _, _, _, _, _, _, _) h5 ⟨Sep.nine 3 2 0 1 s0 rfl rfl rfl rfl (by decide) (by decide) b5 f5 (by have := fg.size; omega), fg.trans f5⟩
           | exact hJ (_, _, _, _, _, _, _, _, _) h5 ⟨Sep.nine 3 2 1 0 s0 rfl rfl rfl rfl (by decide) (by decide) b5 f5 (by have := fg.size; omega), fg.trans f5⟩)
  · rintro ⟨sb, v0, b0, v1, b1', v2, b2, v3, b3⟩ h2 ⟨s2, f2⟩
    simp only at s2
    simp only [app]
    have bb := b1.fr f2 (by simp)
    have hw2 := hw.fr (f1.trans f2)
    have z2 := f2.size
    rw [go_eq, LdA_two bb, go_eq, CallF_eq]
    refine norm_Formula.spec (by omega) (fun c hc => by have := hll c hc; omega) (fun c hc x hx => by obtain ⟨_, _, _⟩ := hF c hc x hx; exact ⟨by omega, by omega⟩) (fun c hc x hx => (hF c hc x hx).1) hw2 fun u bu ps h3 oF hcl f3 => ?_
    have hK : (fmT cs).length ≤ 1000 := by have := fmT_len cs; omega
    have hG := GF_fmT (n := n) hF hll
    obtain ⟨m0, R0, ls0, bt0, oc0, ru0, aw0⟩ := new_state (s2.mono (N' := h.size) z1) oF f3 (by omega) hcl c hn hK
    have hul : (ps.map (·.1)).length = (fmT cs).length := by rw [← hcl]; simp [cls]
    have f03 := (f1.trans f2).trans f3
    generalize fmT cs = F at *
    have nF : FrN h.size h h3 := ⟨f03.size, fun c hc _ => f03.keep c hc (by simp)⟩
    rw [go_eq, Ext_atE ⟨rfl⟩, go_eq, Ext_atE ⟨rfl⟩, go_eq, Len_rd oF.own.rd, hul]
    refine Lp_fn (σ := Nat × LMod × (Nat → Res)) (fun x => [ptr sb, u, Iv (F.length : Nat), Iv (x.1 : Nat)])
      (fun x h' => x.1 ≤ F.length ∧ LS h.size h' (8 + 2 * n + F.length + 1) x.2.2 0 sb n F.length x.2.1 ∧ Bt n x.1 x.2.1 F a ∧ OcT n x.1 F [] x.2.1.occ ∧ x.2.2 (8 + 2 * n + F.length) = rOwn u (ps.map (·.1)) bu ∧ (∀ i, i < F.length → At (ps.map (·.1)) i (x.2.1.lw i)) ∧ FrN h.size h h') (fun x => F.length - x.1)
      (0, m0, R0) rfl (fun _ => rfl) ⟨Nat.zero_le _, ls0, bt0, oc0, ru0, aw0, nF⟩ ?_
    clear s2 bb hw2 hw ha ha1 oF ls0 bt0 oc0 ru0 aw0 hld b1
    rintro ⟨i, m, R⟩ h4 ⟨hi, s, bt, oc, ru, aw, nf⟩ X hX
    simp only at hi s bt oc ru aw
    simp only [app]
    rw [go_eq, Bin_lss]
    have hM := s.hM
    by_cases cc : (i : Int) < (F.length : Nat)
    · rw [decide_eq_true cc, If_t]
      obtain ⟨C, hC, hCm⟩ := getF (F := F) (i := i) (by omega)
      obtain ⟨hC1, hC2, hC3⟩ := hG C hCm
      have eL := bt.L i C hC
      have ou := (s.sep.is (by omega) ru).rd
      have au := aw i (by omega)
      have ol := s.ol (i := i) (by omega)
      rw [eL] at ol
      have olr := ol.rd
      have olc := olr.isCell
      try simp (disch := first | assumption | omega | (apply At.mk; with_unfolding_all rfl)) only [↓go_eq, ↓ent_eq, Mv, NilC_at, Fld_at, add_mk, Nat.zero_add, Nat.add_zero, Add64, Sub64, Mul64, Quo64, Rem64, Neg64, Cvt64, CvtU8, CvtU16, CvtU32, CvtU64, AddU64, SubU64, MulU64, Shr64, Shr_u8, Shr_u16, Shr_u32, Shr_u64, And1, And31, And32, Eql64, Neq64, Bin_lss, Bin_leq, Bin_gtr, Bin_geq, Bin_bool_eql, Bin_bool_neq, Bin_ptr_nil_eql, Bin_ptr_nil_neq, Not_dec, Un_not, Pick_t, Pick_f, Pick_pos, Pick_neg, Gd_tt, Gd_tf, Gd_ft, Gd_ff, Gd_pos_t, Gd_neg_t, Gd_pos_f, Gd_neg_f, Gd_undef, If_t, If_f, If_pos, If_neg, CallF_eq, Max_two, Min_two, Len_rd, Len_own, Ld_blkE, Idx_rdN, Idx_ownN, Idx_rdE, Idx_ownE, IdxAE, LdA_two, Idx_at0, Ext_atE, Len_at, Int.toNat_natCast, Int.toNat_zero, Int.toNat_one, List.length_map, List.length_append, List.length_cons, List.length_nil, List.length_take, List.length_set, List.length_replicate, Bool.not_true, Bool.not_false, decide_true, decide_false, BEq.rfl, bne_self_eq_false, tf_beq, ft_beq, tf_bne, ft_bne, not_true_eq_false, not_false_eq_true, app]
      rw [Bld_four olc]
      refine New_blk fun h5 b5 f5 z5 => ?_
      have b5 : Blk h5 h4.size [nilS, Iv 0, Iv 0, Iv 0] := b5
      refine StA_four b5 olc rfl rfl rfl fun h6 b6 f6 => ?_
      have f46 : Fr [] h4 h6 := f5.trans' f6 fun b hb => .inr (by simp at hb; omega)
      have ol6 := ol.fr f46 (by simp)
      have s6 := s.more (r := rBlk h4.size [m.lw i, Iv 0, Iv 0, Iv (-1)]) f46 b6 (by simp [rBlk])
      have hM6 := s6.hM
      have f46N : FrN h.size h h6 := nf.trans (Fr.toN f46 (by simp))
      rw [Len_rd ol6.rd, List.length_map]
      refine Lp_fn (σ := Nat × LMod × (Nat → Res)) (fun x => [ptr sb, Iv (i : Nat), ptr h4.size, u, Iv (F.length : Nat), Iv (i : Nat), m.lw i, Iv (C.length : Nat), Iv (x.1 : Nat)])
        (fun x h' => x.1 ≤ C.length ∧ LS h.size h' (8 + 2 * n + F.length + 1 + 1) x.2.2 0 sb n F.length x.2.1 ∧ Bt n i x.2.1 F a ∧ OcT n i F (C.take x.1) x.2.1.occ ∧ x.2.2 (8 + 2 * n + F.length) = rOwn u (ps.map (·.1)) bu ∧ x.2.2 (8 + 2 * n + F.length + 1) = rBlk h4.size [m.lw i, Iv (hB (litT a) (C.take x.1)), Iv (sB (litT a) (C.take x.1)), Iv (-1)] ∧ x.2.1.lw = m.lw ∧ FrN h.size h h') (fun x => C.length - x.1)
        (0, m, _) rfl (fun _ => rfl) ⟨Nat.zero_le _, s6, bt, oc, (updR_ne (by omega)).trans ru, updR_at _ _ _, rfl, f46N⟩ ?_
      clear ol olr b5 b6 ol6 s6 f46N f5 f6 f46 z5 s ou oc bt ru nf
      rintro ⟨j, m', R'⟩ h7 ⟨hj, s, bt, oc, ru, rb, elw, nf⟩ Y hY
      simp only at hj s bt oc ru rb elw nf
      have bx := s.sep.is (by omega) rb
      have ol := (s.ol (i := i) (by omega)).rd
      rw [elw, bt.L i C hC] at ol
      have b7 := s.b0
      by_cases c7 : (j : Int) < (C.length : Nat)
      · have hgj : C[j]? = some (C.getD j 0) := by rw [List.getD_eq_getElem?_getD, List.getElem?_eq_getElem (by omega)]; rfl
        have htk : C.take (j + 1) = C.take j ++ [C.getD j 0] := get_take hgj
        have hlm := List.mem_of_getElem? hgj
        have hni : C.getD j 0 ∉ C.take j := fun q => by
          have := hC2.sublist (List.take_sublist (j + 1) C)
          rw [htk, List.nodup_append] at this
          exact this.2.2 _ q _ (by simp) rfl
        have ax : At (C.map Iv) j (Iv (C.getD j 0)) := At.map (f := Iv) hgj
        generalize C.getD j 0 = x at *
        have hl := hC1 x hlm
        have ir := ix_range hl
        have hY' := fun y h' a b => hY (j + 1, y) h' a b
        simp only [htk, hB_snoc, sB_snoc] at hY'
        try simp (disch := first | assumption | omega | (apply At.mk; with_unfolding_all rfl)) only [↓go_eq, ↓ent_eq, Mv, NilC_at, Fld_at, add_mk, Nat.zero_add, Nat.add_zero, Add64, Sub64, Mul64, Quo64, Rem64, Neg64, Cvt64, CvtU8, CvtU16, CvtU32, CvtU64, AddU64, SubU64, MulU64, Shr64, Shr_u8, Shr_u16, Shr_u32, Shr_u64, And1, And31, And32, Eql64, Neq64, Bin_lss, Bin_leq, Bin_gtr, Bin_geq, Bin_bool_eql, Bin_bool_neq, Bin_ptr_nil_eql, Bin_ptr_nil_neq, Not_dec, Un_not, Pick_t, Pick_f, Pick_pos, Pick_neg, Gd_tt, Gd_tf, Gd_ft, Gd_ff, Gd_pos_t, Gd_neg_t, Gd_pos_f, Gd_neg_f, Gd_undef, If_t, If_f, If_pos, If_neg, CallF_eq, Max_two, Min_two, Len_rd, Len_own, Ld_blkE, Idx_rdN, Idx_ownN, Idx_rdE, Idx_ownE, IdxAE, LdA_two, Idx_at0, Ext_atE, Len_at, Int.toNat_natCast, Int.toNat_zero, Int.toNat_one, List.length_map, List.length_append, List.length_cons, List.length_nil, List.length_take, List.length_set, List.length_replicate, Bool.not_true, Bool.not_false, decide_true, decide_false, BEq.rfl, bne_self_eq_false, tf_beq, ft_beq, tf_bne, ft_bne, not_true_eq_false, not_false_eq_true, app]
        refine Jn_fn (σ := LMod × (Nat → Res)) (fun _ => [ptr sb, Iv (i : Nat), ptr h4.size, u, Iv (F.length : Nat), Iv (i : Nat), m.lw i, Iv (C.length : Nat), Iv (j : Nat)])
          (fun y h' => j + 1 ≤ C.length ∧ LS h.size h' (8 + 2 * n + F.length + 1 + 1) y.2 0 sb n F.length y.1 ∧ Bt n i y.1 F a ∧ OcT n i F (C.take j ++ [x]) y.1.occ ∧ y.2 (8 + 2 * n + F.length) = rOwn u (ps.map (·.1)) bu ∧ y.2 (8 + 2 * n + F.length + 1) = rBlk h4.size [m.lw i, Iv (hB (litT a) (C.take j) + (if litT a x then 1 else 0)), Iv (sB (litT a) (C.take j) + (if litT a x then ((x.natAbs : Nat) : Int) else 0)), Iv (-1)] ∧ y.1.lw = m.lw ∧ FrN h.size h h') ?_ ?_
        · intro J hJ
          try simp (disch := first | assumption | omega | (apply At.mk; with_unfolding_all rfl)) only [↓go_eq, ↓ent_eq, Mv, NilC_at, Fld_at, add_mk, Nat.zero_add, Nat.add_zero, Add64, Sub64, Mul64, Quo64, Rem64, Neg64, Cvt64, CvtU8, CvtU16, CvtU32, CvtU64, AddU64, SubU64, MulU64, Shr64, Shr_u8, Shr_u16, Shr_u32, Shr_u64, And1, And31, And32, Eql64, Neq64, Bin_lss, Bin_leq, Bin_gtr, Bin_geq, Bin_bool_eql, Bin_bool_neq, Bin_ptr_nil_eql, Bin_ptr_nil_neq, Not_dec, Un_not, Pick_t, Pick_f, Pick_pos, Pick_neg, Gd_tt, Gd_tf, Gd_ft, Gd_ff, Gd_pos_t, Gd_neg_t, Gd_pos_f, Gd_neg_f, Gd_undef, If_t, If_f, If_pos, If_neg, CallF_eq, Max_two, Min_two, Len_rd, Len_own, Ld_blkE, Idx_rdN, Idx_ownN, Idx_rdE, Idx_ownE, IdxAE, LdA_two, Idx_at0, Ext_atE, Len_at, Int.toNat_natCast, Int.toNat_zero, Int.toNat_one, List.length_map, List.length_append, List.length_cons, List.length_nil, List.length_take, List.length_set, List.length_replicate, Bool.not_true, Bool.not_false, decide_true, decide_false, BEq.rfl, bne_self_eq_false, tf_beq, ft_beq, tf_bne, ft_bne, not_true_eq_false, not_false_eq_true, app]
          refine Jn_fn (σ := LMod × (Nat → Res)) (fun _ => [ptr sb, Iv (i : Nat), ptr h4.size, Iv x, u, Iv (F.length : Nat), Iv (i : Nat), m.lw i, Iv (C.length : Nat), Iv (j : Nat)])
            (fun y h' => LS h.size h' (8 + 2 * n + F.length + 1 + 1) y.2 0 sb n F.length y.1 ∧ Bt n i y.1 F a ∧ OcT n i F (C.take j ++ [x]) y.1.occ ∧ y.2 (8 + 2 * n + F.length) = rOwn u (ps.map (·.1)) bu ∧ y.2 (8 + 2 * n + F.length + 1) = rBlk h4.size [m.lw i, Iv (hB (litT a) (C.take j)), Iv (sB (litT a) (C.take j)), Iv (-1)] ∧ y.1.lw = m.lw ∧ FrN h.size h h') ?_ ?_
          · intro J5 hJ5
            have o3 := s.o3.rd
            have oo := s.oo (j := (ix x).toNat) (by omega)
            have a3 := ow_at (k := 2 * n) (j := (ix x).toNat) (f := m'.ow) (by omega)
            have ol3 := oc.len (j := (ix x).toNat) (by omega)
            have oll := ints_len (m'.occ (ix x).toNat)
            have lr3 : ((List.range (2 * n)).map m'.ow).length = 2 * n := by simp
            have est : m'.c0 = _ := s.st.1
            have pre : ∀ {h8 v' h9 bs'}, Fr [] h7 h8 → Own h9 v' (ints (m'.occ (ix x).toNat) ++ [Iv (i : Nat)]) bs' → Fr (m'.ofp (ix x).toNat) h8 h9 → (∀ b ∈ bs', b ∈ m'.ofp (ix x).toNat ∨ b = h8.size) →
                Sep h.size h9 (8 + 2 * n + F.length + 1 + 1) (updR R' (0 + 8 + (ix x).toNat) (rOwn v' (ints (m'.occ (ix x).toNat ++ [i])) bs')) ∧ LR (updR R' (0 + 8 + (ix x).toNat) (rOwn v' (ints (m'.occ (ix x).toNat ++ [i])) bs')) 0 sb n F.length { m' with ow := updR m'.ow (ix x).toNat v', occ := updR m'.occ (ix x).toNat (m'.occ (ix x).toNat ++ [i]), ofp := updR m'.ofp (ix x).toNat bs' } := by
              intro h8 v' h9 bs' f8 o9 f9 hb9
              have s8 := s.fr f8
              exact s8.lr.puto s8.sep s8.hM (by omega) s8.nN (by show Own h9 v' (ints (_ ++ [i])) bs'; simpa [ints] using o9) f9 (fun b hb => (hb9 b hb).elim .inl fun e => .inr (by omega))
            have preB : ∀ {h8 v' h9 bs'}, Fr [] h7 h8 → Own h9 v' (ints (m'.occ (ix x).toNat) ++ [Iv (i : Nat)]) bs' → Fr (m'.ofp (ix x).toNat) h8 h9 → (∀ b ∈ bs', b ∈ m'.ofp (ix x).toNat ∨ b = h8.size) → Blk h9 sb [m'.av, m'.lv, m'.ov, m'.rv, m'.bv, m'.mv, m'.zv, Iv m'.few, Iv m'.fl] := by
              intro h8 v' h9 bs' f8 o9 f9 hb9
              obtain ⟨sp9, lr9⟩ := pre f8 o9 f9 hb9
              have := lr9.b0 sp9 s.hM
              rwa [est] at this
            have fin : ∀ {h8 v' h9 bs'}, Fr [] h7 h8 → Own h9 v' (ints (m'.occ (ix x).toNat) ++ [Iv (i : Nat)]) bs' → Fr (m'.ofp (ix x).toNat) h8 h9 → (∀ b ∈ bs', b ∈ m'.ofp (ix x).toNat ∨ b = h8.size) →
                Idx 1 m'.ov (Iv (ix x)) (fun p h => St p v' (fun _ h => J5 (ptr sb) (Iv (i : Nat)) (ptr h4.size) (Iv x) u (Iv (F.length : Nat)) (Iv (i : Nat)) (m.lw i) (Iv (C.length : Nat)) (Iv (j : Nat)) h) h) h9 := by
              intro h8 v' h9 bs' f8 o9 f9 hb9
              obtain ⟨sp9, lr9⟩ := pre f8 o9 f9 hb9
              have o39 := lr9.o3 sp9 s.hM
              have e3 : m'.ows = (List.range (2 * n)).map m'.ow := s.st.2
              have z8 := f8.size
              have z9 := f9.size
              have hN := s.nN
              refine o39.put (by omega) (by simp only [e3]; simp; omega) o9.rd.isCell fun h10 w10 f10 _ => ?_
              simp only [e3, ow_set] at w10
              obtain ⟨sp10, lr10⟩ := lr9.put3 sp9 s.hM (by omega) w10 f10
              have z10 := f10.size
              refine hJ5 (_, _) h10 ⟨⟨sp10, lr10, ⟨est, rfl⟩, s.hM, by omega, s.al, hn, hK⟩, ⟨bt.ek, bt.ea, bt.ew, bt.ef, bt.L, bt.H, bt.S, bt.cnt, bt.rs⟩, oc.step hl hni, (updR_ne (by omega)).trans ((updR_ne (by omega)).trans ru), (updR_ne (by omega)).trans ((updR_ne (by omega)).trans rb), elw, ((nf.trans (Fr.toN f8 (by simp))).trans (Fr.toN f9 (s.sep.los (by omega) (s.lr.ro _ (by omega))))).trans (Fr.toN f10 (sp9.los (by omega) lr9.r3))⟩
            try simp (disch := first | assumption | omega | (apply At.mk; with_unfolding_all rfl)) only [↓go_eq, ↓ent_eq, Mv, NilC_at, Fld_at, add_mk, Nat.zero_add, Nat.add_zero, Add64, Sub64, Mul64, Quo64, Rem64, Neg64, Cvt64, CvtU8, CvtU16, CvtU32, CvtU64, AddU64, SubU64, MulU64, Shr64, Shr_u8, Shr_u16, Shr_u32, Shr_u64, And1, And31, And32, Eql64, Neq64, Bin_lss, Bin_leq, Bin_gtr, Bin_geq, Bin_bool_eql, Bin_bool_neq, Bin_ptr_nil_eql, Bin_ptr_nil_neq, Not_dec, Un_not, Pick_t, Pick_f, Pick_pos, Pick_neg, Gd_tt, Gd_tf, Gd_ft, Gd_ff, Gd_pos_t, Gd_neg_t, Gd_pos_f, Gd_neg_f, Gd_undef, If_t, If_f, If_pos, If_neg, CallF_eq, Max_two, Min_two, Len_rd, Len_own, Ld_blkE, Idx_rdN, Idx_ownN, Idx_rdE, Idx_ownE, IdxAE, LdA_two, Idx_at0, Ext_atE, Len_at, Int.toNat_natCast, Int.toNat_zero, Int.toNat_one, List.length_map, List.length_append, List.length_cons, List.length_nil, List.length_take, List.length_set, List.length_replicate, Bool.not_true, Bool.not_false, decide_true, decide_false, BEq.rfl, bne_self_eq_false, tf_beq, ft_beq, tf_bne, ft_bne, not_true_eq_false, not_false_eq_true, app]
            repeat' first
              | refine And.intro ?_ ?_
              | refine lit_Index.spec' hl (by omega) ?_
              | (refine BldS_one rfl rfl fun h8 w8 f8 z8 => ?_
                 have b8 := b7.fr f8 (by simp)
                 have o38 := o3.fr f8
                 have oo8 := oo.fr f8 (by simp))
              | (refine oo8.app (ys := [Iv (i : Nat)]) w8.rd rfl rfl (by simp [isCell]) (by simp; omega) (by simp; omega) fun v' h9 bs' o9 f9 hb9 z9 => ?_
                 have b9 := preB f8 o9 f9 hb9)
              | exact fin f8 o9 f9 hb9
              | simp (disch := first | assumption | omega | (apply At.mk; with_unfolding_all rfl)) only [↓go_eq, ↓ent_eq, Mv, NilC_at, Fld_at, add_mk, Nat.zero_add, Nat.add_zero, Add64, Sub64, Mul64, Quo64, Rem64, Neg64, Cvt64, CvtU8, CvtU16, CvtU32, CvtU64, AddU64, SubU64, MulU64, Shr64, Shr_u8, Shr_u16, Shr_u32, Shr_u64, And1, And31, And32, Eql64, Neq64, Bin_lss, Bin_leq, Bin_gtr, Bin_geq, Bin_bool_eql, Bin_bool_neq, Bin_ptr_nil_eql, Bin_ptr_nil_neq, Not_dec, Un_not, Pick_t, Pick_f, Pick_pos, Pick_neg, Gd_tt, Gd_tf, Gd_ft, Gd_ff, Gd_pos_t, Gd_neg_t, Gd_pos_f, Gd_neg_f, Gd_undef, If_t, If_f, If_pos, If_neg, CallF_eq, Max_two, Min_two, Len_rd, Len_own, Ld_blkE, Idx_rdN, Idx_ownN, Idx_rdE, Idx_ownE, IdxAE, LdA_two, Idx_at0, Ext_atE, Len_at, Int.toNat_natCast, Int.toNat_zero, Int.toNat_one, List.length_map, List.length_append, List.length_cons, List.length_nil, List.length_take, List.length_set, List.length_replicate, Bool.not_true, Bool.not_false, decide_true, decide_false, BEq.rfl, bne_self_eq_false, tf_beq, ft_beq, tf_bne, ft_bne, not_true_eq_false, not_false_eq_true, app]
          · rintro ⟨m5, R5⟩ h8 ⟨s5, bt5, oc5, ru5, rb5, elw5, nf5⟩
            simp only at s5 bt5 oc5 ru5 rb5 elw5
            have b85 := s5.b0
            have o15 := s5.o1.rd
            rw [bt5.ea] at o15
            have bx5 : Blk h8 h4.size [m.lw i, Iv (hB (litT a) (C.take j)), Iv (sB (litT a) (C.take j)), Iv (-1)] := s5.sep.is (by omega) rb5
            have e1 := hB_le (litT a) (C.take j)
            have e2 := sB_le (n := n) (p := litT a) (c := C.take j) fun y hy => hC1 y (List.mem_of_mem_take hy)
            have e3 : (C.take j).length ≤ 1000 := by rw [List.length_take]; omega
            have e4 : ((C.take j).length : Int) * (n : Int) ≤ 1000 * 1000 := Int.mul_le_mul (by omega) (by omega) (by omega) (by omega)
            have e5 : x.natAbs ≤ 1000 := by obtain ⟨_, _, _⟩ := hl; omega
            try simp (disch := first | assumption | omega | (apply At.mk; with_unfolding_all rfl)) only [↓go_eq, ↓ent_eq, Mv, NilC_at, Fld_at, add_mk, Nat.zero_add, Nat.add_zero, Add64, Sub64, Mul64, Quo64, Rem64, Neg64, Cvt64, CvtU8, CvtU16, CvtU32, CvtU64, AddU64, SubU64, MulU64, Shr64, Shr_u8, Shr_u16, Shr_u32, Shr_u64, And1, And31, And32, Eql64, Neq64, Bin_lss, Bin_leq, Bin_gtr, Bin_geq, Bin_bool_eql, Bin_bool_neq, Bin_ptr_nil_eql, Bin_ptr_nil_neq, Not_dec, Un_not, Pick_t, Pick_f, Pick_pos, Pick_neg, Gd_tt, Gd_tf, Gd_ft, Gd_ff, Gd_pos_t, Gd_neg_t, Gd_pos_f, Gd_neg_f, Gd_undef, If_t, If_f, If_pos, If_neg, CallF_eq, Max_two, Min_two, Len_rd, Len_own, Ld_blkE, Idx_rdN, Idx_ownN, Idx_rdE, Idx_ownE, IdxAE, LdA_two, Idx_at0, Ext_atE, Len_at, Int.toNat_natCast, Int.toNat_zero, Int.toNat_one, List.length_map, List.length_append, List.length_cons, List.length_nil, List.length_take, List.length_set, List.length_replicate, Bool.not_true, Bool.not_false, decide_true, decide_false, BEq.rfl, bne_self_eq_false, tf_beq, ft_beq, tf_bne, ft_bne, not_true_eq_false, not_false_eq_true, app]
            refine lit_holds_q hl (by omega) (by omega) o15 ?_
            cases e : litT a x with
            | true =>
              rw [e, if_pos rfl, if_pos rfl] at hJ
              try simp (disch := first | assumption | omega | (apply At.mk; with_unfolding_all rfl)) only [↓go_eq, ↓ent_eq, Mv, NilC_at, Fld_at, add_mk, Nat.zero_add, Nat.add_zero, Add64, Sub64, Mul64, Quo64, Rem64, Neg64, Cvt64, CvtU8, CvtU16, CvtU32, CvtU64, AddU64, SubU64, MulU64, Shr64, Shr_u8, Shr_u16, Shr_u32, Shr_u64, And1, And31, And32, Eql64, Neq64, Bin_lss, Bin_leq, Bin_gtr, Bin_geq, Bin_bool_eql, Bin_bool_neq, Bin_ptr_nil_eql, Bin_ptr_nil_neq, Not_dec, Un_not, Pick_t, Pick_f, Pick_pos, Pick_neg, Gd_tt, Gd_tf, Gd_ft, Gd_ff, Gd_pos_t, Gd_neg_t, Gd_pos_f, Gd_neg_f, Gd_undef, If_t, If_f, If_pos, If_neg, CallF_eq, Max_two, Min_two, Len_rd, Len_own, Ld_blkE, Idx_rdN, Idx_ownN, Idx_rdE, Idx_ownE, IdxAE, LdA_two, Idx_at0, Ext_atE, Len_at, Int.toNat_natCast, Int.toNat_zero, Int.toNat_one, List.length_map, List.length_append, List.length_cons, List.length_nil, List.length_take, List.length_set, List.length_replicate, Bool.not_true, Bool.not_false, decide_true, decide_false, BEq.rfl, bne_self_eq_false, tf_beq, ft_beq, tf_bne, ft_bne, not_true_eq_false, not_false_eq_true, app]
              refine St_blk (o := 1) bx5 (by simp) rfl fun h9 b9 f9 => ?_
              simp only [List.set_cons_succ, List.set_cons_zero] at b9
              try simp (disch := first | assumption | omega | (apply At.mk; with_unfolding_all rfl)) only [↓go_eq, ↓ent_eq, Mv, NilC_at, Fld_at, add_mk, Nat.zero_add, Nat.add_zero, Add64, Sub64, Mul64, Quo64, Rem64, Neg64, Cvt64, CvtU8, CvtU16, CvtU32, CvtU64, AddU64, SubU64, MulU64, Shr64, Shr_u8, Shr_u16, Shr_u32, Shr_u64, And1, And31, And32, Eql64, Neq64, Bin_lss, Bin_leq, Bin_gtr, Bin_geq, Bin_bool_eql, Bin_bool_neq, Bin_ptr_nil_eql, Bin_ptr_nil_neq, Not_dec, Un_not, Pick_t, Pick_f, Pick_pos, Pick_neg, Gd_tt, Gd_tf, Gd_ft, Gd_ff, Gd_pos_t, Gd_neg_t, Gd_pos_f, Gd_neg_f, Gd_undef, If_t, If_f, If_pos, If_neg, CallF_eq, Max_two, Min_two, Len_rd, Len_own, Ld_blkE, Idx_rdN, Idx_ownN, Idx_rdE, Idx_ownE, IdxAE, LdA_two, Idx_at0, Ext_atE, Len_at, Int.toNat_natCast, Int.toNat_zero, Int.toNat_one, List.length_map, List.length_append, List.length_cons, List.length_nil, List.length_take, List.length_set, List.length_replicate, Bool.not_true, Bool.not_false, decide_true, decide_false, BEq.rfl, bne_self_eq_false, tf_beq, ft_beq, tf_bne, ft_bne, not_true_eq_false, not_false_eq_true, app]
              refine lit_var_q hl (by omega) ?_
              try simp (disch := first | assumption | omega | (apply At.mk; with_unfolding_all rfl)) only [↓go_eq, ↓ent_eq, Mv, NilC_at, Fld_at, add_mk, Nat.zero_add, Nat.add_zero, Add64, Sub64, Mul64, Quo64, Rem64, Neg64, Cvt64, CvtU8, CvtU16, CvtU32, CvtU64, AddU64, SubU64, MulU64, Shr64, Shr_u8, Shr_u16, Shr_u32, Shr_u64, And1, And31, And32, Eql64, Neq64, Bin_lss, Bin_leq, Bin_gtr, Bin_geq, Bin_bool_eql, Bin_bool_neq, Bin_ptr_nil_eql, Bin_ptr_nil_neq, Not_dec, Un_not, Pick_t, Pick_f, Pick_pos, Pick_neg, Gd_tt, Gd_tf, Gd_ft, Gd_ff, Gd_pos_t, Gd_neg_t, Gd_pos_f, Gd_neg_f, Gd_undef, If_t, If_f, If_pos, If_neg, CallF_eq, Max_two, Min_two, Len_rd, Len_own, Ld_blkE, Idx_rdN, Idx_ownN, Idx_rdE, Idx_ownE, IdxAE, LdA_two, Idx_at0, Ext_atE, Len_at, Int.toNat_natCast, Int.toNat_zero, Int.toNat_one, List.length_map, List.length_append, List.length_cons, List.length_nil, List.length_take, List.length_set, List.length_replicate, Bool.not_true, Bool.not_false, decide_true, decide_false, BEq.rfl, bne_self_eq_false, tf_beq, ft_beq, tf_bne, ft_bne, not_true_eq_false, not_false_eq_true, app]
              refine St_blk (o := 2) b9 (by simp) rfl fun h10 b10 f10 => ?_
              simp only [List.set_cons_succ, List.set_cons_zero] at b10
              have s10 := s5.putx (q := 8 + 2 * n + F.length + 1) (h' := h10) (r := rBlk h4.size [m.lw i, Iv (hB (litT a) (C.take j) + 1), Iv (sB (litT a) (C.take j) + (x.natAbs : Nat)), Iv (-1)]) (by omega) (by omega) (by rw [rb5]; exact f9.trans f10) b10 (by rw [rb5]; exact fun b hb => .inl hb)
              refine hJ (m5, _) h10 ⟨by omega, s10, bt5, oc5, (updR_ne (by omega)).trans ru5, updR_at _ _ _, elw5, nf5.trans (Fr.toN (f9.trans f10) fun b hb => s5.sep.los (by omega) rb5 b hb)⟩
            | false =>
              rw [e, if_neg (by simp), if_neg (by simp), Int.add_zero, Int.add_zero] at hJ
              try simp (disch := first | assumption | omega | (apply At.mk; with_unfolding_all rfl)) only [↓go_eq, ↓ent_eq, Mv, NilC_at, Fld_at, add_mk, Nat.zero_add, Nat.add_zero, Add64, Sub64, Mul64, Quo64, Rem64, Neg64, Cvt64, CvtU8, CvtU16, CvtU32, CvtU64, AddU64, SubU64, MulU64, Shr64, Shr_u8, Shr_u16, Shr_u32, Shr_u64, And1, And31, And32, Eql64, Neq64, Bin_lss, Bin_leq, Bin_gtr, Bin_geq, Bin_bool_eql, Bin_bool_neq, Bin_ptr_nil_eql, Bin_ptr_nil_neq, Not_dec, Un_not, Pick_t, Pick_f, Pick_pos, Pick_neg, Gd_tt, Gd_tf, Gd_ft, Gd_ff, Gd_pos_t, Gd_neg_t, Gd_pos_f, Gd_neg_f, Gd_undef, If_t, If_f, If_pos, If_neg, CallF_eq, Max_two, Min_two, Len_rd, Len_own, Ld_blkE, Idx_rdN, Idx_ownN, Idx_rdE, Idx_ownE, IdxAE, LdA_two, Idx_at0, Ext_atE, Len_at, Int.toNat_natCast, Int.toNat_zero, Int.toNat_one, List.length_map, List.length_append, List.length_cons, List.length_nil, List.length_take, List.length_set, List.length_replicate, Bool.not_true, Bool.not_false, decide_true, decide_false, BEq.rfl, bne_self_eq_false, tf_beq, ft_beq, tf_bne, ft_bne, not_true_eq_false, not_false_eq_true, app]
              exact hJ (m5, R5) h8 ⟨by omega, s5, bt5, oc5, ru5, rb5, elw5, nf5⟩
        · rintro ⟨m5, R5⟩ h8 ⟨hj5, s5, bt5, oc5, ru5, rb5, elw5, nf5⟩
          try simp (disch := first | assumption | omega | (apply At.mk; with_unfolding_all rfl)) only [↓go_eq, ↓ent_eq, Mv, NilC_at, Fld_at, add_mk, Nat.zero_add, Nat.add_zero, Add64, Sub64, Mul64, Quo64, Rem64, Neg64, Cvt64, CvtU8, CvtU16, CvtU32, CvtU64, AddU64, SubU64, MulU64, Shr64, Shr_u8, Shr_u16, Shr_u32, Shr_u64, And1, And31, And32, Eql64, Neq64, Bin_lss, Bin_leq, Bin_gtr, Bin_geq, Bin_bool_eql, Bin_bool_neq, Bin_ptr_nil_eql, Bin_ptr_nil_neq, Not_dec, Un_not, Pick_t, Pick_f, Pick_pos, Pick_neg, Gd_tt, Gd_tf, Gd_ft, Gd_ff, Gd_pos_t, Gd_neg_t, Gd_pos_f, Gd_neg_f, Gd_undef, If_t, If_f, If_pos, If_neg, CallF_eq, Max_two, Min_two, Len_rd, Len_own, Ld_blkE, Idx_rdN, Idx_ownN, Idx_rdE, Idx_ownE, IdxAE, LdA_two, Idx_at0, Ext_atE, Len_at, Int.toNat_natCast, Int.toNat_zero, Int.toNat_one, List.length_map, List.length_append, List.length_cons, List.length_nil, List.length_take, List.length_set, List.length_replicate, Bool.not_true, Bool.not_false, decide_true, decide_false, BEq.rfl, bne_self_eq_false, tf_beq, ft_beq, tf_bne, ft_bne, not_true_eq_false, not_false_eq_true, app]
          try simp only [show (j : Int) + 1 = ((j + 1 : Nat) : Int) from by omega]
          exact hY' (m5, R5) h8 ⟨hj5, s5, bt5, oc5, ru5, rb5, elw5, nf5⟩ (by omega)
      · rw [List.take_of_length_le (by omega)] at oc rb
        rw [List.take_of_length_le (by omega)] at bx
        have bl := hB_le (litT a) C
        have elwi : m'.lw i = m.lw i := by rw [elw]
        have lc := olc
        try simp (disch := first | assumption | omega | (apply At.mk; with_unfolding_all rfl)) only [↓go_eq, ↓ent_eq, Mv, NilC_at, Fld_at, add_mk, Nat.zero_add, Nat.add_zero, Add64, Sub64, Mul64, Quo64, Rem64, Neg64, Cvt64, CvtU8, CvtU16, CvtU32, CvtU64, AddU64, SubU64, MulU64, Shr64, Shr_u8, Shr_u16, Shr_u32, Shr_u64, And1, And31, And32, Eql64, Neq64, Bin_lss, Bin_leq, Bin_gtr, Bin_geq, Bin_bool_eql, Bin_bool_neq, Bin_ptr_nil_eql, Bin_ptr_nil_neq, Not_dec, Un_not, Pick_t, Pick_f, Pick_pos, Pick_neg, Gd_tt, Gd_tf, Gd_ft, Gd_ff, Gd_pos_t, Gd_neg_t, Gd_pos_f, Gd_neg_f, Gd_undef, If_t, If_f, If_pos, If_neg, CallF_eq, Max_two, Min_two, Len_rd, Len_own, Ld_blkE, Idx_rdN, Idx_ownN, Idx_rdE, Idx_ownE, IdxAE, LdA_two, Idx_at0, Ext_atE, Len_at, Int.toNat_natCast, Int.toNat_zero, Int.toNat_one, List.length_map, List.length_append, List.length_cons, List.length_nil, List.length_take, List.length_set, List.length_replicate, Bool.not_true, Bool.not_false, decide_true, decide_false, BEq.rfl, bne_self_eq_false, tf_beq, ft_beq, tf_bne, ft_bne, not_true_eq_false, not_false_eq_true, app]
        rw [LdA_four bx]
        refine BldS_agg fun h8 b8 f8 z8 => ?_
        have s8 := s.fr f8
        have o2 := s8.o2
        rw [bt.ek] at o2
        rw [← elwi] at b8
        refine o2.app1 b8 (by intro x hx; simp at hx; rcases hx with rfl | rfl | rfl | rfl; rw [elwi]; exact olc; rfl; rfl; rfl) (cells4_mk (hB (litT a) C) (sB (litT a) C) (-1)) (by omega) fun v' h9 bs' o9 f9 hb9 => ?_
        obtain ⟨sp9, lr9⟩ := s8.lr.put2 (lv' := v') (k' := i + 1) (H' := updR m'.H i (hB (litT a) C)) (S' := updR m'.S i (sB (litT a) C)) (P' := updR m'.P i (-1)) (lb' := bs') s8.sep s8.hM s8.nN o9 (by rw [bt.ek]; exact f9) hb9 (by omega)
        have b9 := lr9.b0 sp9 s8.hM
        rw [show m'.c0 = _ from s.st.1] at b9
        have vc := Own4.isCell o9
        have z8' := f8.size
        have z9 := f9.size
        have N8 := s8.nN
        refine St_blk b9 (by simp) vc fun h10 b10 f10 => ?_
        obtain ⟨sp10, lr10⟩ := lr9.put0 (cs := [m'.av, v', m'.ov, m'.rv, m'.bv, m'.mv, m'.zv, Iv m'.few, Iv m'.fl]) sp9 s8.hM (by omega) b10 f10
        have z10 := f10.size
        have s10 : LS h.size h10 (8 + 2 * n + F.length + 1 + 1) _ 0 sb n F.length { m' with c0 := [m'.av, v', m'.ov, m'.rv, m'.bv, m'.mv, m'.zv, Iv m'.few, Iv m'.fl], lv := v', k := i + 1, H := updR m'.H i (hB (litT a) C), S := updR m'.S i (sB (litT a) C), P := updR m'.P i (-1), lb := bs' } := ⟨sp10, lr10, ⟨rfl, s.st.2⟩, s8.hM, by omega, s.al, hn, hK⟩
        have cn := bt.cnt
        rw [bt.ek] at cn
        have cg := cn.grow (hB (litT a) C) (sB (litT a) C)
        have f7N : FrN h.size h h10 := ((nf.trans (Fr.toN f8 (by simp))).trans (Fr.toN f9 (s8.sep.los (by omega) s8.lr.r2))).trans (Fr.toN f10 (sp9.los (by omega) lr9.r0))
        refine local_State_count.spec (i := i) (d := 1) (A := updR (fun _ => true) i false) s10 cg (Nat.lt_succ_self i) (.inl ⟨rfl, updR_at _ _ _⟩) (by show ∀ x ∈ m'.L i, _; rw [bt.L i C hC]; exact hC1) (fun q hq => ?_) (by show updR m'.H i _ i = 1 → _; rw [updR_at]; intro e; obtain ⟨w, e1, e2⟩ := hB_good hC1 e; exact ⟨w, by show updR m'.S i _ i = _; rw [updR_at]; exact e1, e2⟩) fun h11 R11 c0' P' row' rv' rb' br' ma' s11 c11 hR11 f11 er11 => ?_
        · obtain ⟨D, hD, hDm⟩ := getF (F := F) (i := q) (by simp only at hq; omega)
          show (m'.L q).length ≤ 1000
          rw [bt.L q D hD]
          exact (hG D hDm).2.2
        · rw [decide_eq_true rfl, all_back (fun _ => rfl)] at c11
          try simp (disch := first | assumption | omega | (apply At.mk; with_unfolding_all rfl)) only [↓go_eq, ↓ent_eq, Mv, NilC_at, Fld_at, add_mk, Nat.zero_add, Nat.add_zero, Add64, Sub64, Mul64, Quo64, Rem64, Neg64, Cvt64, CvtU8, CvtU16, CvtU32, CvtU64, AddU64, SubU64, MulU64, Shr64, Shr_u8, Shr_u16, Shr_u32, Shr_u64, And1, And31, And32, Eql64, Neq64, Bin_lss, Bin_leq, Bin_gtr, Bin_geq, Bin_bool_eql, Bin_bool_neq, Bin_ptr_nil_eql, Bin_ptr_nil_neq, Not_dec, Un_not, Pick_t, Pick_f, Pick_pos, Pick_neg, Gd_tt, Gd_tf, Gd_ft, Gd_ff, Gd_pos_t, Gd_neg_t, Gd_pos_f, Gd_neg_f, Gd_undef, If_t, If_f, If_pos, If_neg, CallF_eq, Max_two, Min_two, Len_rd, Len_own, Ld_blkE, Idx_rdN, Idx_ownN, Idx_rdE, Idx_ownE, IdxAE, LdA_two, Idx_at0, Ext_atE, Len_at, Int.toNat_natCast, Int.toNat_zero, Int.toNat_one, List.length_map, List.length_append, List.length_cons, List.length_nil, List.length_take, List.length_set, List.length_replicate, Bool.not_true, Bool.not_false, decide_true, decide_false, BEq.rfl, bne_self_eq_false, tf_beq, ft_beq, tf_bne, ft_bne, not_true_eq_false, not_false_eq_true, app]
          try simp only [show (i : Int) + 1 = ((i + 1 : Nat) : Int) from by omega]
          refine hX (i + 1, _, R11) h11 ⟨by simp only; omega, s11.less (by omega) (by omega), ⟨rfl, bt.ea, bt.ew, bt.ef, bt.L, fun q c hq hc => ?_, fun q c hq hc => ?_, c11, by rw [er11]; exact rowC_srt bt.rs fun x hx => by have := ((bt.cnt.mem x).1 hx).1; rw [bt.ek] at this; exact this⟩, oc.next hC, ?_, fun q hq => by show At _ q (m'.lw q); rw [elw]; exact aw q hq, f7N.trans f11⟩ (by simp only; omega)
          · show updR m'.H i _ q = _
            by_cases e : q = i
            · subst e; rw [updR_at]; rw [hC] at hc; rw [Option.some.inj hc]
            · rw [updR_ne e]; exact bt.H q c (by omega) hc
          · show updR m'.S i _ q = _
            by_cases e : q = i
            · subst e; rw [updR_at]; rw [hC] at hc; rw [Option.some.inj hc]
            · rw [updR_ne e]; exact bt.S q c (by omega) hc
          · exact (hR11 _ (by omega)).trans ((updR_ne (by omega)).trans ((updR_ne (by omega)).trans ru))
    · rw [decide_eq_false cc, If_f]
      have ei : i = F.length := by omega
      subst ei
      have hH : ∀ (q : Nat) (c : List Int), F[q]? = some c → m.H q = hB (litT a) c := fun q c hc => bt.H q c (someF hc).1 hc
      have hS : ∀ (q : Nat) (c : List Int), F[q]? = some c → m.S q = sB (litT a) c := fun q c hc => bt.S q c (someF hc).1 hc
      have hun : m.row.length = unT a F := by
        refine unT_row bt.cnt.nd fun q => ?_
        rw [bt.cnt.mem, bt.ek]
        constructor
        · rintro ⟨h1, _, h2⟩
          obtain ⟨d, hd, _⟩ := getF h1
          exact ⟨d, hd, by rw [← hH q d hd]; exact h2⟩
        · rintro ⟨d, hd, h2⟩
          exact ⟨(someF hd).1, rfl, by rw [hH q d hd]; exact h2⟩
      have b4 := s.b0
      rw [bt.ew, bt.ef] at b4
      have o1 := s.o1.rd
      rw [bt.ea] at o1
      have o4 := s.o4.rd
      have ln4 : ∀ (K : Ret) (h' : Heap), Len m.rv K h' = K (Iv (unT a F : Nat)) h' := fun K h' => by rw [Rd.len_any o4, ints_len, hun]
      refine Jn_fn (σ := LMod × (Nat → Res)) (fun _ => [ptr sb]) (fun x h' => LS h.size h' (8 + 2 * n + F.length + 1) x.2 0 sb n F.length x.1 ∧ Rt n x.1 F a a (unT a F : Nat) 0 ∧ FrN h.size h h' ∧ x.1.row.Pairwise (· < ·)) ?_ ?_
      · intro J hJ
        have fin : ∀ v bs h5, Own h5 v (a.map .bool) bs → (∀ b ∈ bs, h4.size ≤ b) → Fr [] h4 h5 → St (.pointer (some ⟨sb, 6, none⟩)) v (fun _ h => St (.pointer (some ⟨sb, 7, none⟩)) (Iv (unT a F : Nat)) (fun _ h => J (ptr sb) h) h) h5 := by
          intro v bs h5 o5 hb5 f5
          obtain ⟨sp5, lr5⟩ := s.lr.put7 (zv' := v) (z' := a) (zb' := bs) s.sep hM s.nN o5 (f5.mono (by simp)) (fun b hb => .inr (hb5 b hb))
          have b5 := lr5.b0 sp5 hM
          rw [show m.c0 = _ from s.st.1, bt.ew, bt.ef] at b5
          refine St_blk b5 (by simp) o5.rd.isCell fun h6 b6 f6 => ?_
          refine St_blk b6 (by simp) rfl fun h7 b7 f7 => ?_
          have f57 := f6.trans f7
          have z5 := f5.size
          have z57 := f57.size
          have hN4 := s.nN
          obtain ⟨sp7, lr7⟩ := lr5.put0 (cs := [m.av, m.lv, m.ov, m.rv, m.bv, m.mv, v, Iv (unT a F : Nat), Iv 0]) sp5 hM (by omega) b7 f57
          refine hJ (_, _) h7 ⟨⟨sp7, lr7.ff (unT a F : Nat) 0, ⟨rfl, s.st.2⟩, hM, by omega, s.al, hn, hK⟩, ⟨bt.ek, bt.ea, rfl, c, rfl, rfl, bt.L, hH, hS, fun j hj => (oc j hj).1, fun j hj q => ?_, bt.cnt⟩, (nf.trans (Fr.toN f5 (by simp))).trans (Fr.toN f57 fun b hb => by have := sp5.los (by omega) lr5.r0 b; simp at hb; subst hb; exact this (by simp [rBlk])), bt.rs⟩
          rw [show _ ↔ _ from (oc j hj).2 q]
          constructor
          · rintro (⟨_, h2⟩ | ⟨_, h2⟩)
            · exact h2
            · cases h2
          · rintro ⟨d, hd, hl⟩
            exact .inl ⟨(someF hd).1, d, hd, hl⟩
        try simp (disch := first | assumption | omega | (apply At.mk; with_unfolding_all rfl)) only [↓go_eq, ↓ent_eq, Mv, NilC_at, Fld_at, add_mk, Nat.zero_add, Nat.add_zero, Add64, Sub64, Mul64, Quo64, Rem64, Neg64, Cvt64, CvtU8, CvtU16, CvtU32, CvtU64, AddU64, SubU64, MulU64, Shr64, Shr_u8, Shr_u16, Shr_u32, Shr_u64, And1, And31, And32, Eql64, Neq64, Bin_lss, Bin_leq, Bin_gtr, Bin_geq, Bin_bool_eql, Bin_bool_neq, Bin_ptr_nil_eql, Bin_ptr_nil_neq, Not_dec, Un_not, Pick_t, Pick_f, Pick_pos, Pick_neg, Gd_tt, Gd_tf, Gd_ft, Gd_ff, Gd_pos_t, Gd_neg_t, Gd_pos_f, Gd_neg_f, Gd_undef, If_t, If_f, If_pos, If_neg, CallF_eq, Max_two, Min_two, Len_rd, Len_own, Ld_blkE, Idx_rdN, Idx_ownN, Idx_rdE, Idx_ownE, IdxAE, LdA_two, Idx_at0, Ext_atE, Len_at, Int.toNat_natCast, Int.toNat_zero, Int.toNat_one, List.length_map, List.length_append, List.length_cons, List.length_nil, List.length_take, List.length_set, List.length_replicate, Bool.not_true, Bool.not_false, decide_true, decide_false, BEq.rfl, bne_self_eq_false, tf_beq, ft_beq, tf_bne, ft_bne, not_true_eq_false, not_false_eq_true, app]
        refine ⟨clone_a al o1 fun v bs h5 o5 hb5 f5 => ⟨?_, ?_⟩, ?_⟩
        · simp only [ln4]; exact fin v bs h5 o5 hb5 f5
        · simp only [ln4]; exact fin v bs h5 o5 hb5 f5
        · refine clone_a al o1 fun v bs h5 o5 hb5 f5 => ?_
          simp only [ints_len, hun]
          exact fin v bs h5 o5 hb5 f5
      · rintro ⟨m5, R5⟩ h5 ⟨s5, r5, f5, rs5⟩
        try simp (disch := first | assumption | omega | (apply At.mk; with_unfolding_all rfl)) only [↓go_eq, ↓ent_eq, Mv, NilC_at, Fld_at, add_mk, Nat.zero_add, Nat.add_zero, Add64, Sub64, Mul64, Quo64, Rem64, Neg64, Cvt64, CvtU8, CvtU16, CvtU32, CvtU64, AddU64, SubU64, MulU64, Shr64, Shr_u8, Shr_u16, Shr_u32, Shr_u64, And1, And31, And32, Eql64, Neq64, Bin_lss, Bin_leq, Bin_gtr, Bin_geq, Bin_bool_eql, Bin_bool_neq, Bin_ptr_nil_eql, Bin_ptr_nil_neq, Not_dec, Un_not, Pick_t, Pick_f, Pick_pos, Pick_neg, Gd_tt, Gd_tf, Gd_ft, Gd_ff, Gd_pos_t, Gd_neg_t, Gd_pos_f, Gd_neg_f, Gd_undef, If_t, If_f, If_pos, If_neg, CallF_eq, Max_two, Min_two, Len_rd, Len_own, Ld_blkE, Idx_rdN, Idx_ownN, Idx_rdE, Idx_ownE, IdxAE, LdA_two, Idx_at0, Ext_atE, Len_at, Int.toNat_natCast, Int.toNat_zero, Int.toNat_one, List.length_map, List.length_append, List.length_cons, List.length_nil, List.length_take, List.length_set, List.length_replicate, Bool.not_true, Bool.not_false, decide_true, decide_false, BEq.rfl, bne_self_eq_false, tf_beq, ft_beq, tf_bne, ft_bne, not_true_eq_false, not_false_eq_true, app]
        exact hk h5 sb _ R5 m5 s5 r5 (FrN.fr f5 (Fr.refl _ _) (Nat.le_refl _)) rs5
end Go.Proofs.Ytonngdjfnnibaaa
