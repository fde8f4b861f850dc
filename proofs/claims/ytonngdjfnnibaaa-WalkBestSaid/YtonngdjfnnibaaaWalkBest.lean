/- The law WalkBest. No condition but that the arguments lie in memory, laid by Go. -/
import Derived.Test.YtonngdjfnnibaaaWk5
namespace Go.Proofs.Ytonngdjfnnibaaa
open Go.Pt
set_option linter.unusedVariables false
set_option linter.unusedSimpArgs false
structure BP (n : Nat) (F : List (List Int)) (a0 : List Bool) (i : Nat) (w : W) (row : List Nat) (s : Str) : Prop where
  f1 : w.few = (unT w.z F : Nat)
  f2 : w.few ≤ (unT a0 F : Nat)
  f3 : w.few ≤ (unT w.a F : Nat)
  d1 : i ≤ s.d
  d2 : s.d ≤ 3 * i
  e0 : i = 0 → w = ⟨a0, a0, (unT a0 F : Nat), 0⟩
  e1 : 0 < i → unT a0 F ≠ 0
theorem BP.step {n : Nat} {F : List (List Int)} {a0 : List Bool} {i : Nat} {w : W} {row row' : List Nat} {s : Str} {kind base noise : Int} (p : BP n F a0 i w row s) (hr : row.length ≠ 0) (ro : RowOk n w.a F row) (v : Int) : BP n F a0 (i + 1) (w.flip n F v) row' (stepT kind base noise w.a F row s).2 := by
  obtain ⟨d1, d2, _, d3⟩ := stepT_d kind base noise w.a F row s
  have d3 := d3 hr
  have p1 := p.d1
  have p2 := p.d2
  have e1 : 0 < i + 1 → unT a0 F ≠ 0 := fun _ => by
    by_cases e : i = 0
    · have := p.e0 e
      rw [← ro.1.symm, this] at hr
      exact hr
    · exact p.e1 (by omega)
  unfold W.flip
  split
  · unfold fewT bst
    split
    · rename_i c
      exact ⟨rfl, by have := p.f2; simp only; omega, Int.le_refl _, by omega, by omega, fun q => by omega, e1⟩
    · rename_i c
      exact ⟨p.f1, p.f2, by simp only; omega, by omega, by omega, fun q => by omega, e1⟩
  · exact ⟨p.f1, p.f2, p.f3, by omega, by omega, fun q => by omega, e1⟩
set_option maxHeartbeats 8000000 in
theorem bradawllaw15_WalkBest.spec {a x0 x1 x2 x3 : Int} {xss : List (List Int)} {ws : List Value} {v wv : Value} {wl : List W64} (ha : 0 ≤ a ∧ a ≤ 255) (hx0 : 0 ≤ x0 ∧ x0 ≤ 4294967295) (hx1 : 0 ≤ x1 ∧ x1 ≤ 4294967295) (hx2 : 0 ≤ x2 ∧ x2 ≤ 4294967295) (hx3 : 0 ≤ x3 ∧ x3 ≤ 4294967295) (hcl : ∀ c ∈ xss, c.length ≤ 140737488351232) {K : Ret} {h : Heap} (hv : RdX (.int .i16) h v xss ws) (hw : Rd h wv (wl.map U))
    (hk : ∀ h', Fr [] h h' → K (.bool true) h') : CallH Try.prog bradawllaw15_WalkBest.id #[.agg #[.int .u8 a, v], .agg #[.int .u32 x0, .int .u32 x1, .int .u32 x2, .int .u32 x3], wv] K h := by
  refine bradawllaw15_WalkBest.ok ?_
  simp only [bradawllaw15_WalkBest.pt]
  rw [go_eq]
  refine New_blk fun h1 b1 f1 s1 => ?_
  have b1 : Blk h1 h.size [.int .u8 a, v] := b1
  rw [go_eq]
  refine New_blk fun h2 b2 f2 s2 => ?_
  have b2 : Blk h2 h1.size [.int .u32 x0, .int .u32 x1, .int .u32 x2, .int .u32 x3] := b2
  rw [go_eq, CallF_eq]
  refine bradawllaw15_fit.spec fun h3 f3 => ?_
  have f03 := (f1.trans f2).trans f3
  rw [go_eq, Un_not, Bool.not_true, If_f]
  refine wk_light hcl ((b1.fr f2 (by simp)).fr f3 (by simp)) (hv.fr f03) (hw.fr f03) (fun h4 f4 => hk h4 (f03.trans f4)) fun h4 f4 hL1 hL2 hwl => ?_
  have f04 := f03.trans f4
  have b4 := (b2.fr f3 (by simp)).fr f4 (by simp)
  have br4 := ((b1.fr f2 (by simp)).fr f3 (by simp)).fr f4 (by simp)
  have a3 : At [Value.int .u32 x0, .int .u32 x1, .int .u32 x2, .int .u32 x3] (0 + (3 : Int).toNat) (.int .u32 x3) := ⟨rfl⟩
  rw [go_eq, IdxAE (by decide) (by decide), go_eq, Ld_blkE b4 a3, go_eq, Rem64 _ _ (by omega) (by decide), go_eq, Cvt64 _ (by omega) (by omega), go_eq, Sub64 _ (by omega) (by omega)]
  have hm1 : -5 ≤ x3 % 2000 - 5 ∧ x3 % 2000 - 5 ≤ 1994 := by omega
  generalize x3 % 2000 - 5 = most at *
  refine wk_form (by decide) ha hL1 hL2 br4 (hv.fr f04) fun n cs fb u wf h5 hn hok hlen hcl9 b5 hfb rf5 f5 => ?_
  have f05 := f04.trans f5
  have bn5 := b4.fr f5 (by simp)
  have hw5 := hw.fr f05
  have a0 : At [Value.int .u32 x0, .int .u32 x1, .int .u32 x2, .int .u32 x3] (0 + (0 : Int).toNat) (.int .u32 x0) := ⟨rfl⟩
  have a1 : At [Value.int .u32 x0, .int .u32 x1, .int .u32 x2, .int .u32 x3] (0 + (1 : Int).toNat) (.int .u32 x1) := ⟨rfl⟩
  have a2 : At [Value.int .u32 x0, .int .u32 x1, .int .u32 x2, .int .u32 x3] (0 + (2 : Int).toNat) (.int .u32 x2) := ⟨rfl⟩
  have af : At [Iv n, u] 0 (Iv n) := ⟨rfl⟩
  rw [go_eq, Fld_at, go_eq, add_mk, Ld_blkE b5 af, go_eq, IdxAE (by decide) (by decide), go_eq, Ld_blkE bn5 a0, go_eq, CallF_eq]
  refine bradawllaw14_Start.spec (by omega) hx0 fun va ba h6 o6 hb6 f6 => ?_
  have hal := stT_len n x0
  generalize stT n x0 = st0 at *
  have bn6 := bn5.fr f6 (by simp)
  have b6 := b5.fr f6 (by simp)
  have rf6 := rf5.fr f6
  have f06 := f05.trans f6
  have hG := GF_fmT (n := n) hok (fun c hc => by have := hcl9 c hc; omega)
  have hcl1 : ∀ c ∈ cs, c.length ≤ 1000 := fun c hc => by have := hcl9 c hc; omega
  rw [go_eq, IdxAE (by decide) (by decide), go_eq, Ld_blkE bn6 a2, go_eq, Cvt_u64, go_eq]
  refine new_a (hw.fr f06) (by omega) fun g h7 Fp hs f7 hFp => ?_
  have bn7 := bn6.fr f7 (by simp)
  have b7 := b6.fr f7 (by simp)
  have S7 : Sep h6.size h7 1 (fun _ => rStr g ⟨wl, seedOf (BitVec.ofInt 64 x2), 0⟩ Fp) := ⟨fun _ _ => hs, fun _ _ => hFp, fun i j hi hj hij => absurd (show i = j by omega) hij⟩
  have z7 := f7.size
  refine Jn_fn (σ := Nat × W × Str × Nat × Value × List Nat) (fun x => [Iv most, ptr fb, va, ptr g, ptr x.2.2.2.1, Iv 0])
    (fun x h' => BP n (fmT cs) st0 x.1 x.2.1 (x.2.2.2.2.2) x.2.2.1 ∧ (x.1 : Int) ≤ max most 0 ∧ ¬ ((x.1 : Int) < most ∧ 0 < x.2.2.2.2.2.length) ∧ RowOk n x.2.1.a (fmT cs) x.2.2.2.2.2 ∧ x.2.1.z.length = n ∧ StrAt h' g x.2.2.1 Fp ∧ Blk h' x.2.2.2.1 [x.2.2.2.2.1, Iv x.2.1.few, Iv (x.1 : Nat)] ∧ Rd h' x.2.2.2.2.1 (x.2.1.z.map .bool) ∧ Fr [] h6 h') ?_ ?_
  · intro J hJ
    have fin : ∀ {h' : Heap} (tb : Nat) (bv : Value) (bs : List Nat) (i : Nat) (w : W) (row : List Nat) (s : Str), BP n (fmT cs) st0 i w row s → (i : Int) ≤ max most 0 → ¬ ((i : Int) < most ∧ 0 < row.length) → RowOk n w.a (fmT cs) row → w.z.length = n → StrAt h' g s Fp → Blk h' tb [nilS, Iv 0, Iv 0] → Own h' bv (w.z.map .bool) bs → tb ∉ bs → tb ∉ Fp → Fr [] h6 h' → h6.size ≤ tb →
        go (StA 3 (ptr tb) (.agg #[bv, Iv w.few, Iv (i : Nat)])) h' fun _ h => J (Iv most) (ptr fb) va (ptr g) (ptr tb) (Iv 0) h := by
      intro h' tb bv bs i w row s p1 p2 p3 p4 p5 p6 p7 p8 p9 p10 p11 p12
      rw [go_eq]
      refine StA_three p7 p8.rd.isCell rfl rfl fun h8 b8 f8 => ?_
      exact hJ (i, w, s, tb, bv, row) h8 ⟨p1, p2, p3, p4, p5, p6.fr f8 (fun b hb hm => by simp at hm; subst hm; exact p10 hb), b8, (p8.fr f8 fun b hb hm => by simp at hm; subst hm; exact p9 hb).rd, p11.trans' f8 fun b hb => .inr (by simp at hb; omega)⟩
    clear hJ
    rw [go_eq, LdA_two b7, go_eq, IdxAE (by decide) (by decide), go_eq, Ld_blkE bn7 a1, go_eq, CvtU8, go_eq, IdxAE (by decide) (by decide), go_eq, Ld_blkE bn7 a2, go_eq, CvtU16]
    have walk1 : ∀ {h8 : Heap} {kd bs ns : Int} {k : Nat} {R0 : Nat → Res} {Q : Ret}, WOk kd bs ns → Fr [] h7 h8 → Sep h6.size h8 k R0 → 0 < k → R0 0 = rStr g ⟨wl, seedOf (BitVec.ofInt 64 x2), 0⟩ Fp →
        (∀ i h' bv bs w' row' s' R', BP n (fmT cs) st0 i w' row' s' → (i : Int) ≤ max most 0 → ¬ ((i : Int) < most ∧ 0 < row'.length) → RowOk n w'.a (fmT cs) row' → w'.z.length = n → StrAt h' g s' Fp → Sep h6.size h' k R' → (∀ i, i < k → i ≠ 0 → R' i = R0 i) → Own h' bv (w'.z.map .bool) bs → (∀ b ∈ bs, h8.size ≤ b) → Fr [] h6 h' → Q (.tuple #[.agg #[bv, Iv w'.few, Iv (i : Nat)], Iv 0]) h') →
        CallH Try.prog walk_Walk.id #[.agg #[Iv n, u], va, .agg #[Iv kd, Iv bs, Iv ns], ptr g, Iv most] Q h8 := by
      intro h8 kd bs ns k R0 Q hW f8 S8 hk0 hr0 hq
      have f68 := f7.trans f8
      have z8 := f8.size
      refine walk_Walk.specS (N := h6.size) (a := st0) (BP n (fmT cs) st0) hW (by omega) (by omega) hcl1 hok (rf6.fr f68) (o6.fr f68 (by simp)).rd (by omega) S8 hk0 hr0 (by omega) (Nat.zero_le _) (by show wl.length ≤ _; omega) (by omega) (fun _ => ⟨rfl, Int.le_refl _, Int.le_refl _, Nat.le_refl _, Nat.le_refl _, fun _ => rfl, fun q => absurd q (by decide)⟩) (fun i w row s p hi hr ro => p.step hr ro _) (fun q => absurd hal q) fun _ i h' bv bs w' row' s' R' p1 p2 p3 p4 p5 S9 hr9 hR9 o9 hb9 f9 _ => ?_
      have hs9 := S9.own 0 hk0
      rw [hr9] at hs9
      exact hq i h' bv bs w' row' s' R' p1 p2 p3 p4 p5 hs9 S9 hR9 o9 hb9 (FrN.fr f9 f68 (Nat.le_refl _))
    refine And.intro ?_ ?_
    · rw [go_eq]
      refine way_a (by omega) (by omega) fun kd bs ns h8 hW f8 => ?_
      refine And.intro ?_ ?_
      · rw [go_eq, CallF_eq]
        refine walk1 hW f8 (S7.fr f8) (by decide) rfl fun i h9 bv bs w' row' s' R' p1 p2 p3 p4 p5 hs9 S9 hR9 o9 hb9 f9 => ?_
        rw [go_eq, Ext_atE ⟨rfl⟩, go_eq, Ext_atE ⟨rfl⟩, go_eq]
        refine New_blk fun h10 b10 f10 s10 => ?_
        exact fin h9.size bv bs i w' row' s' p1 p2 p3 p4 p5 (hs9.fr f10 (by simp)) b10 (o9.fr f10 (by simp)) (fun hm => by have := o9.lt _ hm; omega) (fun hm => by have := hs9.lt _ hm; omega) (f9.trans f10) f9.size
      · rw [go_eq]
        refine New_blk fun h9 b9 f9 s9 => ?_
        have b9 : Blk h9 h8.size [nilS, Iv 0, Iv 0] := b9
        have z8 := f8.size
        have S9 := (S7.fr f8).add (r := rBlk h8.size [nilS, Iv 0, Iv 0]) f9 b9 (by simp [rBlk]) (by omega)
        rw [go_eq, CallF_eq]
        refine walk1 hW (f8.trans f9) S9 (by decide) (updR_ne (by decide)) fun i h10 bv bs w' row' s' R' p1 p2 p3 p4 p5 hs9 S10 hR10 o9 hb9 f10 => ?_
        have b10 : Blk h10 h8.size [nilS, Iv 0, Iv 0] := S10.is (by decide) ((hR10 1 (by decide) (by decide)).trans (updR_at _ _ _))
        rw [go_eq, Ext_atE ⟨rfl⟩, go_eq, Ext_atE ⟨rfl⟩]
        exact fin h8.size bv bs i w' row' s' p1 p2 p3 p4 p5 hs9 b10 o9 (fun hm => by have := hb9 _ hm; omega) (fun hm => by have := hs.lt _ hm; omega) f10 (by omega)
    · rw [go_eq]
      refine New_blk fun h8 b8 f8 s8 => ?_
      have b8 : Blk h8 h7.size [nilS, Iv 0, Iv 0] := b8
      have S8 := S7.add (r := rBlk h7.size [nilS, Iv 0, Iv 0]) f8 b8 (by simp [rBlk]) (by omega)
      rw [go_eq]
      refine way_a (by omega) (by omega) fun kd bs ns h9 hW f9 => ?_
      rw [go_eq, CallF_eq]
      refine walk1 hW (f8.trans f9) (S8.fr f9) (by decide) (updR_ne (by decide)) fun i h10 bv bs w' row' s' R' p1 p2 p3 p4 p5 hs9 S10 hR10 o9 hb9 f10 => ?_
      have b10 : Blk h10 h7.size [nilS, Iv 0, Iv 0] := S10.is (by decide) ((hR10 1 (by decide) (by decide)).trans (updR_at _ _ _))
      have z9 := f9.size
      rw [go_eq, Ext_atE ⟨rfl⟩, go_eq, Ext_atE ⟨rfl⟩]
      exact fin h7.size bv bs i w' row' s' p1 p2 p3 p4 p5 hs9 b10 o9 (fun hm => by have := hb9 _ hm; omega) (fun hm => by have := hs.lt _ hm; omega) f10 (by omega)
  · rintro ⟨i, w, s, tb, bv, row⟩ h8 ⟨p, hi, hex, ro, hz, hs8, bt, rv, f8⟩
    simp only at p hi hex ro hz hs8 bt rv
    obtain ⟨p1, p2, p3, p4, p5, p6, p7⟩ := p
    have b8 := b6.fr f8 (by simp)
    have rf8 := rf6.fr f8
    have oa8 := (o6.fr f8 (by simp)).rd
    have f08 := f06.trans f8
    have hlz : (w.z.map Value.bool).length = n := by rw [List.length_map]; exact hz
    have hun := unT_le w.z (fmT cs)
    have hun0 := unT_le st0 (fmT cs)
    have hfl : (fmT cs).length ≤ 40 := by have := fmT_len cs; omega
    have hrow := ro.1
    try simp (disch := first | assumption | omega | (apply At.mk; with_unfolding_all rfl)) only [hlz, ↓go_eq, ↓ent_eq, Mv, NilC_at, Fld_at, add_mk, Nat.zero_add, Nat.add_zero, Add64, Sub64, Mul64, Quo64, Rem64, Neg64, Cvt64, CvtU8, CvtU16, CvtU32, CvtU64, AddU64, SubU64, MulU64, Shr64, Shr_u8, Shr_u16, Shr_u32, Shr_u64, And1, And31, And32, Eql64, Neq64, Bin_lss, Bin_leq, Bin_gtr, Bin_geq, Bin_bool_eql, Bin_bool_neq, Bin_ptr_nil_eql, Bin_ptr_nil_neq, Not_dec, Un_not, Pick_t, Pick_f, Pick_pos, Pick_neg, Gd_tt, Gd_tf, Gd_ft, Gd_ff, Gd_pos_t, Gd_neg_t, Gd_pos_f, Gd_neg_f, Gd_undef, If_t, If_f, If_pos, If_neg, CallF_eq, Max_two, Min_two, Len_rd, Len_own, Ld_blkE, Idx_rdN, Idx_ownN, Idx_rdE, Idx_ownE, IdxAE, LdA_two, Idx_at0, Ext_atE, Len_at, Int.toNat_natCast, Int.toNat_zero, Int.toNat_one, List.length_map, List.length_append, List.length_cons, List.length_nil, List.length_take, List.length_set, List.length_replicate, Bool.not_true, Bool.not_false, decide_true, decide_false, BEq.rfl, bne_self_eq_false, tf_beq, ft_beq, tf_bne, ft_bne, not_true_eq_false, not_false_eq_true, app]
    try rw [LdA_two b8]
    refine unsat_a (by omega) (by omega) hcl1 hok rf8 rv hz fun h9 f9 => ?_
    have b9 := b8.fr f9 (by simp)
    have rf9 := rf8.fr f9
    have bt9 := bt.fr f9 (by simp)
    have oa9 := oa8.fr f9
    have hs9 := hs8.fr f9 (by simp)
    have f09 := f08.trans f9
    rw [← p1]
    try simp (disch := first | assumption | omega | (apply At.mk; with_unfolding_all rfl)) only [↓go_eq, ↓ent_eq, Mv, NilC_at, Fld_at, add_mk, Nat.zero_add, Nat.add_zero, Add64, Sub64, Mul64, Quo64, Rem64, Neg64, Cvt64, CvtU8, CvtU16, CvtU32, CvtU64, AddU64, SubU64, MulU64, Shr64, Shr_u8, Shr_u16, Shr_u32, Shr_u64, And1, And31, And32, Eql64, Neq64, Bin_lss, Bin_leq, Bin_gtr, Bin_geq, Bin_bool_eql, Bin_bool_neq, Bin_ptr_nil_eql, Bin_ptr_nil_neq, Not_dec, Un_not, Pick_t, Pick_f, Pick_pos, Pick_neg, Gd_tt, Gd_tf, Gd_ft, Gd_ff, Gd_pos_t, Gd_neg_t, Gd_pos_f, Gd_neg_f, Gd_undef, If_t, If_f, If_pos, If_neg, CallF_eq, Max_two, Min_two, Len_rd, Len_own, Ld_blkE, Idx_rdN, Idx_ownN, Idx_rdE, Idx_ownE, IdxAE, LdA_two, Idx_at0, Ext_atE, Len_at, Int.toNat_natCast, Int.toNat_zero, Int.toNat_one, List.length_map, List.length_append, List.length_cons, List.length_nil, List.length_take, List.length_set, List.length_replicate, Bool.not_true, Bool.not_false, decide_true, decide_false, BEq.rfl, bne_self_eq_false, tf_beq, ft_beq, tf_bne, ft_bne, not_true_eq_false, not_false_eq_true, app]
    try rw [LdA_two b9]
    refine unsat_a (by omega) (by omega) hcl1 hok rf9 oa9 hal fun h10 f10 => ?_
    have b10 := b9.fr f10 (by simp)
    have rf10 := rf9.fr f10
    have bt10 := bt9.fr f10 (by simp)
    have oa10 := oa9.fr f10
    have hs10 := hs9.fr f10 (by simp)
    have f010 := f09.trans f10
    try simp (disch := first | assumption | omega | (apply At.mk; with_unfolding_all rfl)) only [↓go_eq, ↓ent_eq, Mv, NilC_at, Fld_at, add_mk, Nat.zero_add, Nat.add_zero, Add64, Sub64, Mul64, Quo64, Rem64, Neg64, Cvt64, CvtU8, CvtU16, CvtU32, CvtU64, AddU64, SubU64, MulU64, Shr64, Shr_u8, Shr_u16, Shr_u32, Shr_u64, And1, And31, And32, Eql64, Neq64, Bin_lss, Bin_leq, Bin_gtr, Bin_geq, Bin_bool_eql, Bin_bool_neq, Bin_ptr_nil_eql, Bin_ptr_nil_neq, Not_dec, Un_not, Pick_t, Pick_f, Pick_pos, Pick_neg, Gd_tt, Gd_tf, Gd_ft, Gd_ff, Gd_pos_t, Gd_neg_t, Gd_pos_f, Gd_neg_f, Gd_undef, If_t, If_f, If_pos, If_neg, CallF_eq, Max_two, Min_two, Len_rd, Len_own, Ld_blkE, Idx_rdN, Idx_ownN, Idx_rdE, Idx_ownE, IdxAE, LdA_two, Idx_at0, Ext_atE, Len_at, Int.toNat_natCast, Int.toNat_zero, Int.toNat_one, List.length_map, List.length_append, List.length_cons, List.length_nil, List.length_take, List.length_set, List.length_replicate, Bool.not_true, Bool.not_false, decide_true, decide_false, BEq.rfl, bne_self_eq_false, tf_beq, ft_beq, tf_bne, ft_bne, not_true_eq_false, not_false_eq_true, app]
    by_cases c1 : most < 1
    · have ei : i = 0 := by omega
      have ew := p6 ei
      subst ei
      have hd0 : s.d = 0 := by omega
      have e3 : w.few = (unT st0 (fmT cs) : Nat) := by rw [ew]
      try simp (disch := first | assumption | omega | (apply At.mk; with_unfolding_all rfl)) only [↓go_eq, ↓ent_eq, Mv, NilC_at, Fld_at, add_mk, Nat.zero_add, Nat.add_zero, Add64, Sub64, Mul64, Quo64, Rem64, Neg64, Cvt64, CvtU8, CvtU16, CvtU32, CvtU64, AddU64, SubU64, MulU64, Shr64, Shr_u8, Shr_u16, Shr_u32, Shr_u64, And1, And31, And32, Eql64, Neq64, Bin_lss, Bin_leq, Bin_gtr, Bin_geq, Bin_bool_eql, Bin_bool_neq, Bin_ptr_nil_eql, Bin_ptr_nil_neq, Not_dec, Un_not, Pick_t, Pick_f, Pick_pos, Pick_neg, Gd_tt, Gd_tf, Gd_ft, Gd_ff, Gd_pos_t, Gd_neg_t, Gd_pos_f, Gd_neg_f, Gd_undef, If_t, If_f, If_pos, If_neg, CallF_eq, Max_two, Min_two, Len_rd, Len_own, Ld_blkE, Idx_rdN, Idx_ownN, Idx_rdE, Idx_ownE, IdxAE, LdA_two, Idx_at0, Ext_atE, Len_at, Int.toNat_natCast, Int.toNat_zero, Int.toNat_one, List.length_map, List.length_append, List.length_cons, List.length_nil, List.length_take, List.length_set, List.length_replicate, Bool.not_true, Bool.not_false, decide_true, decide_false, BEq.rfl, bne_self_eq_false, tf_beq, ft_beq, tf_bne, ft_bne, not_true_eq_false, not_false_eq_true, app]
      refine drawn_q hs10 ?_
      rw [hd0]
      try simp (disch := first | assumption | omega | (apply At.mk; with_unfolding_all rfl)) only [↓go_eq, ↓ent_eq, Mv, NilC_at, Fld_at, add_mk, Nat.zero_add, Nat.add_zero, Add64, Sub64, Mul64, Quo64, Rem64, Neg64, Cvt64, CvtU8, CvtU16, CvtU32, CvtU64, AddU64, SubU64, MulU64, Shr64, Shr_u8, Shr_u16, Shr_u32, Shr_u64, And1, And31, And32, Eql64, Neq64, Bin_lss, Bin_leq, Bin_gtr, Bin_geq, Bin_bool_eql, Bin_bool_neq, Bin_ptr_nil_eql, Bin_ptr_nil_neq, Not_dec, Un_not, Pick_t, Pick_f, Pick_pos, Pick_neg, Gd_tt, Gd_tf, Gd_ft, Gd_ff, Gd_pos_t, Gd_neg_t, Gd_pos_f, Gd_neg_f, Gd_undef, If_t, If_f, If_pos, If_neg, CallF_eq, Max_two, Min_two, Len_rd, Len_own, Ld_blkE, Idx_rdN, Idx_ownN, Idx_rdE, Idx_ownE, IdxAE, LdA_two, Idx_at0, Ext_atE, Len_at, Int.toNat_natCast, Int.toNat_zero, Int.toNat_one, List.length_map, List.length_append, List.length_cons, List.length_nil, List.length_take, List.length_set, List.length_replicate, Bool.not_true, Bool.not_false, decide_true, decide_false, BEq.rfl, bne_self_eq_false, tf_beq, ft_beq, tf_bne, ft_bne, not_true_eq_false, not_false_eq_true, app]
      try rw [LdA_two b10]
      refine unsat_a (by omega) (by omega) hcl1 hok rf10 oa10 hal fun h11 f11 => ?_
      rw [e3]
      have hKK := hk h11 (f010.trans f11)
      try simp (disch := first | assumption | omega | (apply At.mk; with_unfolding_all rfl)) only [↓go_eq, ↓ent_eq, Mv, NilC_at, Fld_at, add_mk, Nat.zero_add, Nat.add_zero, Add64, Sub64, Mul64, Quo64, Rem64, Neg64, Cvt64, CvtU8, CvtU16, CvtU32, CvtU64, AddU64, SubU64, MulU64, Shr64, Shr_u8, Shr_u16, Shr_u32, Shr_u64, And1, And31, And32, Eql64, Neq64, Bin_lss, Bin_leq, Bin_gtr, Bin_geq, Bin_bool_eql, Bin_bool_neq, Bin_ptr_nil_eql, Bin_ptr_nil_neq, Not_dec, Un_not, Pick_t, Pick_f, Pick_pos, Pick_neg, Gd_tt, Gd_tf, Gd_ft, Gd_ff, Gd_pos_t, Gd_neg_t, Gd_pos_f, Gd_neg_f, Gd_undef, If_t, If_f, If_pos, If_neg, CallF_eq, Max_two, Min_two, Len_rd, Len_own, Ld_blkE, Idx_rdN, Idx_ownN, Idx_rdE, Idx_ownE, IdxAE, LdA_two, Idx_at0, Ext_atE, Len_at, Int.toNat_natCast, Int.toNat_zero, Int.toNat_one, List.length_map, List.length_append, List.length_cons, List.length_nil, List.length_take, List.length_set, List.length_replicate, Bool.not_true, Bool.not_false, decide_true, decide_false, BEq.rfl, bne_self_eq_false, tf_beq, ft_beq, tf_bne, ft_bne, not_true_eq_false, not_false_eq_true, app]
      exact hKK
    · try simp (disch := first | assumption | omega | (apply At.mk; with_unfolding_all rfl)) only [↓go_eq, ↓ent_eq, Mv, NilC_at, Fld_at, add_mk, Nat.zero_add, Nat.add_zero, Add64, Sub64, Mul64, Quo64, Rem64, Neg64, Cvt64, CvtU8, CvtU16, CvtU32, CvtU64, AddU64, SubU64, MulU64, Shr64, Shr_u8, Shr_u16, Shr_u32, Shr_u64, And1, And31, And32, Eql64, Neq64, Bin_lss, Bin_leq, Bin_gtr, Bin_geq, Bin_bool_eql, Bin_bool_neq, Bin_ptr_nil_eql, Bin_ptr_nil_neq, Not_dec, Un_not, Pick_t, Pick_f, Pick_pos, Pick_neg, Gd_tt, Gd_tf, Gd_ft, Gd_ff, Gd_pos_t, Gd_neg_t, Gd_pos_f, Gd_neg_f, Gd_undef, If_t, If_f, If_pos, If_neg, CallF_eq, Max_two, Min_two, Len_rd, Len_own, Ld_blkE, Idx_rdN, Idx_ownN, Idx_rdE, Idx_ownE, IdxAE, LdA_two, Idx_at0, Ext_atE, Len_at, Int.toNat_natCast, Int.toNat_zero, Int.toNat_one, List.length_map, List.length_append, List.length_cons, List.length_nil, List.length_take, List.length_set, List.length_replicate, Bool.not_true, Bool.not_false, decide_true, decide_false, BEq.rfl, bne_self_eq_false, tf_beq, ft_beq, tf_bne, ft_bne, not_true_eq_false, not_false_eq_true, app]
      try rw [LdA_two b10]
      refine unsat_a (by omega) (by omega) hcl1 hok rf10 oa10 hal fun h11 f11 => ?_
      have b11 := b10.fr f11 (by simp)
      have rf11 := rf10.fr f11
      have bt11 := bt10.fr f11 (by simp)
      have oa11 := oa10.fr f11
      have hs11 := hs10.fr f11 (by simp)
      have f011 := f010.trans f11
      by_cases c2 : (unT st0 (fmT cs) : Int) = 0
      · have ei : i = 0 := by
          rcases Nat.eq_zero_or_pos i with q | q
          · exact q
          · exact absurd c2 (by have := p7 q; omega)
        have ew := p6 ei
        subst ei
        have hd0 : s.d = 0 := by omega
        have e3 : w.few = (unT st0 (fmT cs) : Nat) := by rw [ew]
        try simp (disch := first | assumption | omega | (apply At.mk; with_unfolding_all rfl)) only [↓go_eq, ↓ent_eq, Mv, NilC_at, Fld_at, add_mk, Nat.zero_add, Nat.add_zero, Add64, Sub64, Mul64, Quo64, Rem64, Neg64, Cvt64, CvtU8, CvtU16, CvtU32, CvtU64, AddU64, SubU64, MulU64, Shr64, Shr_u8, Shr_u16, Shr_u32, Shr_u64, And1, And31, And32, Eql64, Neq64, Bin_lss, Bin_leq, Bin_gtr, Bin_geq, Bin_bool_eql, Bin_bool_neq, Bin_ptr_nil_eql, Bin_ptr_nil_neq, Not_dec, Un_not, Pick_t, Pick_f, Pick_pos, Pick_neg, Gd_tt, Gd_tf, Gd_ft, Gd_ff, Gd_pos_t, Gd_neg_t, Gd_pos_f, Gd_neg_f, Gd_undef, If_t, If_f, If_pos, If_neg, CallF_eq, Max_two, Min_two, Len_rd, Len_own, Ld_blkE, Idx_rdN, Idx_ownN, Idx_rdE, Idx_ownE, IdxAE, LdA_two, Idx_at0, Ext_atE, Len_at, Int.toNat_natCast, Int.toNat_zero, Int.toNat_one, List.length_map, List.length_append, List.length_cons, List.length_nil, List.length_take, List.length_set, List.length_replicate, Bool.not_true, Bool.not_false, decide_true, decide_false, BEq.rfl, bne_self_eq_false, tf_beq, ft_beq, tf_bne, ft_bne, not_true_eq_false, not_false_eq_true, app]
        refine drawn_q hs11 ?_
        rw [hd0]
        try simp (disch := first | assumption | omega | (apply At.mk; with_unfolding_all rfl)) only [↓go_eq, ↓ent_eq, Mv, NilC_at, Fld_at, add_mk, Nat.zero_add, Nat.add_zero, Add64, Sub64, Mul64, Quo64, Rem64, Neg64, Cvt64, CvtU8, CvtU16, CvtU32, CvtU64, AddU64, SubU64, MulU64, Shr64, Shr_u8, Shr_u16, Shr_u32, Shr_u64, And1, And31, And32, Eql64, Neq64, Bin_lss, Bin_leq, Bin_gtr, Bin_geq, Bin_bool_eql, Bin_bool_neq, Bin_ptr_nil_eql, Bin_ptr_nil_neq, Not_dec, Un_not, Pick_t, Pick_f, Pick_pos, Pick_neg, Gd_tt, Gd_tf, Gd_ft, Gd_ff, Gd_pos_t, Gd_neg_t, Gd_pos_f, Gd_neg_f, Gd_undef, If_t, If_f, If_pos, If_neg, CallF_eq, Max_two, Min_two, Len_rd, Len_own, Ld_blkE, Idx_rdN, Idx_ownN, Idx_rdE, Idx_ownE, IdxAE, LdA_two, Idx_at0, Ext_atE, Len_at, Int.toNat_natCast, Int.toNat_zero, Int.toNat_one, List.length_map, List.length_append, List.length_cons, List.length_nil, List.length_take, List.length_set, List.length_replicate, Bool.not_true, Bool.not_false, decide_true, decide_false, BEq.rfl, bne_self_eq_false, tf_beq, ft_beq, tf_bne, ft_bne, not_true_eq_false, not_false_eq_true, app]
        try rw [LdA_two b11]
        refine unsat_a (by omega) (by omega) hcl1 hok rf11 oa11 hal fun h12 f12 => ?_
        rw [e3]
        have hKK := hk h12 (f011.trans f12)
        try simp (disch := first | assumption | omega | (apply At.mk; with_unfolding_all rfl)) only [↓go_eq, ↓ent_eq, Mv, NilC_at, Fld_at, add_mk, Nat.zero_add, Nat.add_zero, Add64, Sub64, Mul64, Quo64, Rem64, Neg64, Cvt64, CvtU8, CvtU16, CvtU32, CvtU64, AddU64, SubU64, MulU64, Shr64, Shr_u8, Shr_u16, Shr_u32, Shr_u64, And1, And31, And32, Eql64, Neq64, Bin_lss, Bin_leq, Bin_gtr, Bin_geq, Bin_bool_eql, Bin_bool_neq, Bin_ptr_nil_eql, Bin_ptr_nil_neq, Not_dec, Un_not, Pick_t, Pick_f, Pick_pos, Pick_neg, Gd_tt, Gd_tf, Gd_ft, Gd_ff, Gd_pos_t, Gd_neg_t, Gd_pos_f, Gd_neg_f, Gd_undef, If_t, If_f, If_pos, If_neg, CallF_eq, Max_two, Min_two, Len_rd, Len_own, Ld_blkE, Idx_rdN, Idx_ownN, Idx_rdE, Idx_ownE, IdxAE, LdA_two, Idx_at0, Ext_atE, Len_at, Int.toNat_natCast, Int.toNat_zero, Int.toNat_one, List.length_map, List.length_append, List.length_cons, List.length_nil, List.length_take, List.length_set, List.length_replicate, Bool.not_true, Bool.not_false, decide_true, decide_false, BEq.rfl, bne_self_eq_false, tf_beq, ft_beq, tf_bne, ft_bne, not_true_eq_false, not_false_eq_true, app]
        exact hKK
      · have hKK := hk h11 f011
        try simp (disch := first | assumption | omega | (apply At.mk; with_unfolding_all rfl)) only [↓go_eq, ↓ent_eq, Mv, NilC_at, Fld_at, add_mk, Nat.zero_add, Nat.add_zero, Add64, Sub64, Mul64, Quo64, Rem64, Neg64, Cvt64, CvtU8, CvtU16, CvtU32, CvtU64, AddU64, SubU64, MulU64, Shr64, Shr_u8, Shr_u16, Shr_u32, Shr_u64, And1, And31, And32, Eql64, Neq64, Bin_lss, Bin_leq, Bin_gtr, Bin_geq, Bin_bool_eql, Bin_bool_neq, Bin_ptr_nil_eql, Bin_ptr_nil_neq, Not_dec, Un_not, Pick_t, Pick_f, Pick_pos, Pick_neg, Gd_tt, Gd_tf, Gd_ft, Gd_ff, Gd_pos_t, Gd_neg_t, Gd_pos_f, Gd_neg_f, Gd_undef, If_t, If_f, If_pos, If_neg, CallF_eq, Max_two, Min_two, Len_rd, Len_own, Ld_blkE, Idx_rdN, Idx_ownN, Idx_rdE, Idx_ownE, IdxAE, LdA_two, Idx_at0, Ext_atE, Len_at, Int.toNat_natCast, Int.toNat_zero, Int.toNat_one, List.length_map, List.length_append, List.length_cons, List.length_nil, List.length_take, List.length_set, List.length_replicate, Bool.not_true, Bool.not_false, decide_true, decide_false, BEq.rfl, bne_self_eq_false, tf_beq, ft_beq, tf_bne, ft_bne, not_true_eq_false, not_false_eq_true, app]
        refine drawn_q hs11 ?_
        try simp (disch := first | assumption | omega | (apply At.mk; with_unfolding_all rfl)) only [↓go_eq, ↓ent_eq, Mv, NilC_at, Fld_at, add_mk, Nat.zero_add, Nat.add_zero, Add64, Sub64, Mul64, Quo64, Rem64, Neg64, Cvt64, CvtU8, CvtU16, CvtU32, CvtU64, AddU64, SubU64, MulU64, Shr64, Shr_u8, Shr_u16, Shr_u32, Shr_u64, And1, And31, And32, Eql64, Neq64, Bin_lss, Bin_leq, Bin_gtr, Bin_geq, Bin_bool_eql, Bin_bool_neq, Bin_ptr_nil_eql, Bin_ptr_nil_neq, Not_dec, Un_not, Pick_t, Pick_f, Pick_pos, Pick_neg, Gd_tt, Gd_tf, Gd_ft, Gd_ff, Gd_pos_t, Gd_neg_t, Gd_pos_f, Gd_neg_f, Gd_undef, If_t, If_f, If_pos, If_neg, CallF_eq, Max_two, Min_two, Len_rd, Len_own, Ld_blkE, Idx_rdN, Idx_ownN, Idx_rdE, Idx_ownE, IdxAE, LdA_two, Idx_at0, Ext_atE, Len_at, Int.toNat_natCast, Int.toNat_zero, Int.toNat_one, List.length_map, List.length_append, List.length_cons, List.length_nil, List.length_take, List.length_set, List.length_replicate, Bool.not_true, Bool.not_false, decide_true, decide_false, BEq.rfl, bne_self_eq_false, tf_beq, ft_beq, tf_bne, ft_bne, not_true_eq_false, not_false_eq_true, app]
        try rw [decide_eq_true (show (s.d : Int) ≤ 3 * (i : Int) by omega)]
        try simp (disch := first | assumption | omega | (apply At.mk; with_unfolding_all rfl)) only [↓go_eq, ↓ent_eq, Mv, NilC_at, Fld_at, add_mk, Nat.zero_add, Nat.add_zero, Add64, Sub64, Mul64, Quo64, Rem64, Neg64, Cvt64, CvtU8, CvtU16, CvtU32, CvtU64, AddU64, SubU64, MulU64, Shr64, Shr_u8, Shr_u16, Shr_u32, Shr_u64, And1, And31, And32, Eql64, Neq64, Bin_lss, Bin_leq, Bin_gtr, Bin_geq, Bin_bool_eql, Bin_bool_neq, Bin_ptr_nil_eql, Bin_ptr_nil_neq, Not_dec, Un_not, Pick_t, Pick_f, Pick_pos, Pick_neg, Gd_tt, Gd_tf, Gd_ft, Gd_ff, Gd_pos_t, Gd_neg_t, Gd_pos_f, Gd_neg_f, Gd_undef, If_t, If_f, If_pos, If_neg, CallF_eq, Max_two, Min_two, Len_rd, Len_own, Ld_blkE, Idx_rdN, Idx_ownN, Idx_rdE, Idx_ownE, IdxAE, LdA_two, Idx_at0, Ext_atE, Len_at, Int.toNat_natCast, Int.toNat_zero, Int.toNat_one, List.length_map, List.length_append, List.length_cons, List.length_nil, List.length_take, List.length_set, List.length_replicate, Bool.not_true, Bool.not_false, decide_true, decide_false, BEq.rfl, bne_self_eq_false, tf_beq, ft_beq, tf_bne, ft_bne, not_true_eq_false, not_false_eq_true, app]
        refine drawn_q hs11 ?_
        try simp (disch := first | assumption | omega | (apply At.mk; with_unfolding_all rfl)) only [↓go_eq, ↓ent_eq, Mv, NilC_at, Fld_at, add_mk, Nat.zero_add, Nat.add_zero, Add64, Sub64, Mul64, Quo64, Rem64, Neg64, Cvt64, CvtU8, CvtU16, CvtU32, CvtU64, AddU64, SubU64, MulU64, Shr64, Shr_u8, Shr_u16, Shr_u32, Shr_u64, And1, And31, And32, Eql64, Neq64, Bin_lss, Bin_leq, Bin_gtr, Bin_geq, Bin_bool_eql, Bin_bool_neq, Bin_ptr_nil_eql, Bin_ptr_nil_neq, Not_dec, Un_not, Pick_t, Pick_f, Pick_pos, Pick_neg, Gd_tt, Gd_tf, Gd_ft, Gd_ff, Gd_pos_t, Gd_neg_t, Gd_pos_f, Gd_neg_f, Gd_undef, If_t, If_f, If_pos, If_neg, CallF_eq, Max_two, Min_two, Len_rd, Len_own, Ld_blkE, Idx_rdN, Idx_ownN, Idx_rdE, Idx_ownE, IdxAE, LdA_two, Idx_at0, Ext_atE, Len_at, Int.toNat_natCast, Int.toNat_zero, Int.toNat_one, List.length_map, List.length_append, List.length_cons, List.length_nil, List.length_take, List.length_set, List.length_replicate, Bool.not_true, Bool.not_false, decide_true, decide_false, BEq.rfl, bne_self_eq_false, tf_beq, ft_beq, tf_bne, ft_bne, not_true_eq_false, not_false_eq_true, app]
        try rw [decide_eq_true (show (s.d : Int) ≥ (i : Int) by omega)]
        try simp (disch := first | assumption | omega | (apply At.mk; with_unfolding_all rfl)) only [↓go_eq, ↓ent_eq, Mv, NilC_at, Fld_at, add_mk, Nat.zero_add, Nat.add_zero, Add64, Sub64, Mul64, Quo64, Rem64, Neg64, Cvt64, CvtU8, CvtU16, CvtU32, CvtU64, AddU64, SubU64, MulU64, Shr64, Shr_u8, Shr_u16, Shr_u32, Shr_u64, And1, And31, And32, Eql64, Neq64, Bin_lss, Bin_leq, Bin_gtr, Bin_geq, Bin_bool_eql, Bin_bool_neq, Bin_ptr_nil_eql, Bin_ptr_nil_neq, Not_dec, Un_not, Pick_t, Pick_f, Pick_pos, Pick_neg, Gd_tt, Gd_tf, Gd_ft, Gd_ff, Gd_pos_t, Gd_neg_t, Gd_pos_f, Gd_neg_f, Gd_undef, If_t, If_f, If_pos, If_neg, CallF_eq, Max_two, Min_two, Len_rd, Len_own, Ld_blkE, Idx_rdN, Idx_ownN, Idx_rdE, Idx_ownE, IdxAE, LdA_two, Idx_at0, Ext_atE, Len_at, Int.toNat_natCast, Int.toNat_zero, Int.toNat_one, List.length_map, List.length_append, List.length_cons, List.length_nil, List.length_take, List.length_set, List.length_replicate, Bool.not_true, Bool.not_false, decide_true, decide_false, BEq.rfl, bne_self_eq_false, tf_beq, ft_beq, tf_bne, ft_bne, not_true_eq_false, not_false_eq_true, app]
        by_cases c3 : w.few = 0
        · try simp (disch := first | assumption | omega | (apply At.mk; with_unfolding_all rfl)) only [↓go_eq, ↓ent_eq, Mv, NilC_at, Fld_at, add_mk, Nat.zero_add, Nat.add_zero, Add64, Sub64, Mul64, Quo64, Rem64, Neg64, Cvt64, CvtU8, CvtU16, CvtU32, CvtU64, AddU64, SubU64, MulU64, Shr64, Shr_u8, Shr_u16, Shr_u32, Shr_u64, And1, And31, And32, Eql64, Neq64, Bin_lss, Bin_leq, Bin_gtr, Bin_geq, Bin_bool_eql, Bin_bool_neq, Bin_ptr_nil_eql, Bin_ptr_nil_neq, Not_dec, Un_not, Pick_t, Pick_f, Pick_pos, Pick_neg, Gd_tt, Gd_tf, Gd_ft, Gd_ff, Gd_pos_t, Gd_neg_t, Gd_pos_f, Gd_neg_f, Gd_undef, If_t, If_f, If_pos, If_neg, CallF_eq, Max_two, Min_two, Len_rd, Len_own, Ld_blkE, Idx_rdN, Idx_ownN, Idx_rdE, Idx_ownE, IdxAE, LdA_two, Idx_at0, Ext_atE, Len_at, Int.toNat_natCast, Int.toNat_zero, Int.toNat_one, List.length_map, List.length_append, List.length_cons, List.length_nil, List.length_take, List.length_set, List.length_replicate, Bool.not_true, Bool.not_false, decide_true, decide_false, BEq.rfl, bne_self_eq_false, tf_beq, ft_beq, tf_bne, ft_bne, not_true_eq_false, not_false_eq_true, app]
          exact hKK
        · have e4 : (i : Int) = most := by omega
          rw [← decide_eq_true e4] at hKK
          try simp (disch := first | assumption | omega | (apply At.mk; with_unfolding_all rfl)) only [↓go_eq, ↓ent_eq, Mv, NilC_at, Fld_at, add_mk, Nat.zero_add, Nat.add_zero, Add64, Sub64, Mul64, Quo64, Rem64, Neg64, Cvt64, CvtU8, CvtU16, CvtU32, CvtU64, AddU64, SubU64, MulU64, Shr64, Shr_u8, Shr_u16, Shr_u32, Shr_u64, And1, And31, And32, Eql64, Neq64, Bin_lss, Bin_leq, Bin_gtr, Bin_geq, Bin_bool_eql, Bin_bool_neq, Bin_ptr_nil_eql, Bin_ptr_nil_neq, Not_dec, Un_not, Pick_t, Pick_f, Pick_pos, Pick_neg, Gd_tt, Gd_tf, Gd_ft, Gd_ff, Gd_pos_t, Gd_neg_t, Gd_pos_f, Gd_neg_f, Gd_undef, If_t, If_f, If_pos, If_neg, CallF_eq, Max_two, Min_two, Len_rd, Len_own, Ld_blkE, Idx_rdN, Idx_ownN, Idx_rdE, Idx_ownE, IdxAE, LdA_two, Idx_at0, Ext_atE, Len_at, Int.toNat_natCast, Int.toNat_zero, Int.toNat_one, List.length_map, List.length_append, List.length_cons, List.length_nil, List.length_take, List.length_set, List.length_replicate, Bool.not_true, Bool.not_false, decide_true, decide_false, BEq.rfl, bne_self_eq_false, tf_beq, ft_beq, tf_bne, ft_bne, not_true_eq_false, not_false_eq_true, app]
          exact hKK
theorem bradawllaw15_WalkBest.law {h : Heap} {a0 : Int × List (List Int)} {cs : Array Value} {a1 : List Int} {cs1 : Array Value} {a2 : List Int} {v2 : Value} (r0 : rRaw.is h a0 cs.toList) (r1 : (rArr 4 (rInt .u32) 1).is h a1 cs1.toList) (r2 : (rSlice (rInt .u64) 1).is h a2 [v2]) :
    CallH Try.prog bradawllaw15_WalkBest.id #[.agg cs, .agg cs1, v2] (fun v h' => v = .bool true ∧ Fr [] h h') h := by
  obtain ⟨v, ws, rfl, h1, h2, h3⟩ := raw_arg r0
  obtain ⟨x, y, z, w, rfl, hx, hy, hz, hw⟩ := quad_arg r1
  exact bradawllaw15_WalkBest.spec h1 hx hy hz hw h2 h3 (words_arg r2) fun h' f => ⟨rfl, f⟩
end Go.Proofs.Ytonngdjfnnibaaa
