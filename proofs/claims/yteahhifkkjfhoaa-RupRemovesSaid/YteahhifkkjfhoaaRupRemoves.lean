/- The law RupRemoves. No condition but that the arguments lie in memory, laid by Go. -/
import Derived.Test.YteahhifkkjfhoaaRu9
namespace Go.Proofs.Yteahhifkkjfhoaa
open Go.Pt
set_option linter.unusedVariables false
set_option linter.unusedSimpArgs false
/-- xs[lo:] -/
theorem Rd.slc_lo {h : Heap} {v : Value} {xs : List Value} {K : Ret} {lo : Int} {k : IntKind} (hr : Rd h v xs) (h0 : 0 ≤ lo) (h1 : lo ≤ xs.length) (hk : ∀ v', Rd h v' (xs.drop lo.toNat) → K v' h) : Slc 1 v (some (.int k lo)) none none K h := by
  have e : Slc 1 v (some (.int k lo)) none none K h = Slc 1 v (some (.int k lo)) (some (.int .i64 xs.length)) none K h := by
    obtain ⟨a, cap, rfl, hcap, hc⟩ := hr
    rw [Slc_eq, Slc_eq, bnd_lo h0 h1, bnd_lo_hi h0 h1 (by omega), Int.toNat_natCast]
  rw [e]
  exact hr.slc h0 h1 (by omega) fun v' r => hk v' (by rwa [Int.toNat_natCast, List.take_length] at r)
theorem Own.isCells {h : Heap} {v : Value} {xs : List Value} {bs : List Nat} {cs : List (List Int)} {h0 : Heap} (hx : ∀ (i : Nat) (c : List Int), cs[i]? = some c → ∃ w, At xs i w ∧ Rd h0 w (c.map Iv)) (hl : xs.length = cs.length) : ∀ x ∈ xs, isCell x = true := fun x hm => by
  obtain ⟨i, hi, rfl⟩ := List.getElem_of_mem hm
  obtain ⟨w, a, r⟩ := hx i _ (List.getElem?_eq_getElem (by omega))
  have := a.out
  rw [List.getElem?_eq_getElem hi] at this
  cases this
  exact r.isCell
/-- Clauses that lie at h0, told by a slice of one's own. -/
structure OwC (h0 h : Heap) (v : Value) (cs : List (List Int)) (ws : List Value) (bs : List Nat) : Prop where
  own : Own h v ws bs
  len : ws.length = cs.length
  get : ∀ (i : Nat) (c : List Int), cs[i]? = some c → ∃ w, At ws i w ∧ Rd h0 w (c.map Iv)
theorem OwC.cells {h0 h : Heap} {v : Value} {cs : List (List Int)} {ws : List Value} {bs : List Nat} (o : OwC h0 h v cs ws bs) : ∀ x ∈ ws, isCell x = true := Own.isCells (h := h) (v := v) (bs := bs) o.get o.len
theorem OwC.rdl {h0 h : Heap} {v : Value} {cs : List (List Int)} {ws : List Value} {bs : List Nat} (o : OwC h0 h v cs ws bs) (f : Fr [] h0 h) : RdL h v cs ws := ⟨o.own.rd, o.len, fun i c hc => let ⟨w, a, r⟩ := o.get i c hc; ⟨w, a, r.fr f⟩⟩
theorem OwC.fr {h0 h h' : Heap} {v : Value} {cs : List (List Int)} {ws : List Value} {bs S : List Nat} (o : OwC h0 h v cs ws bs) (f : Fr S h h') (hS : ∀ b ∈ bs, b ∉ S) : OwC h0 h' v cs ws bs := ⟨o.own.fr f hS, o.len, o.get⟩
theorem OwC.erase {h0 h : Heap} {v : Value} {cs : List (List Int)} {ws : List Value} {bs : List Nat} {j : Nat} (hl : ws.length = cs.length) (hg : ∀ (i : Nat) (c : List Int), cs[i]? = some c → ∃ w, At ws i w ∧ Rd h0 w (c.map Iv)) (o : Own h v (ws.eraseIdx j) bs) : OwC h0 h v (cs.eraseIdx j) (ws.eraseIdx j) bs := by
  refine ⟨o, by rw [List.length_eraseIdx, List.length_eraseIdx, hl], fun i c hc => ?_⟩
  rw [List.getElem?_eraseIdx] at hc
  split at hc
  · rename_i hi
    obtain ⟨w, a, r⟩ := hg i c hc
    exact ⟨w, ⟨by rw [List.getElem?_eraseIdx, if_pos hi]; exact a.out⟩, r⟩
  · rename_i hi
    obtain ⟨w, a, r⟩ := hg (i + 1) c hc
    exact ⟨w, ⟨by rw [List.getElem?_eraseIdx, if_neg hi]; exact a.out⟩, r⟩
theorem bradawlref07_Remove.spec {h0 : Heap} {v w : Value} {cs : List (List Int)} {ws : List Value} {bs : List Nat} {c : List Int} (hl : cs.length ≤ 1000000) (hll : ∀ c ∈ cs, c.length ≤ 1000000) (hc : c.length ≤ 1000000) {K : Ret} {h : Heap} (o : OwC h0 h w cs ws bs) (f0 : Fr [] h0 h) (hv : Rd h v (c.map Iv))
    (h1 : ∀ (j : Nat) (d : List Int), cs[j]? = some d → SameT d c → (∀ i d', i < j → cs[i]? = some d' → ¬ SameT d' c) → ∀ v' bs' h', OwC h0 h' v' (cs.eraseIdx j) (ws.eraseIdx j) bs' → (∀ b ∈ bs', h.size ≤ b) → Fr [] h h' → K (.tuple #[v', .bool true]) h')
    (h2 : (∀ d ∈ cs, ¬ SameT d c) → K (.tuple #[w, .bool false]) h) : CallH Try.prog bradawlref07_Remove.id #[w, v] K h := by
  refine bradawlref07_Remove.ok ?_
  simp only [bradawlref07_Remove.pt]
  have rl := o.rdl f0
  have hrd := rl.rd
  have hwl := rl.len
  refine Lp_fn (σ := Nat) (fun i => [w, v, Iv (i : Nat)]) (fun i h' => h = h' ∧ i ≤ cs.length ∧ ∀ k d, k < i → cs[k]? = some d → ¬ SameT d c) (fun i => cs.length - i) 0 rfl (fun _ => rfl) ⟨rfl, Nat.zero_le _, fun k d hk => by omega⟩ ?_
  rintro i _ ⟨rfl, hi, ht⟩ X hX
  by_cases c1 : (i : Int) < (cs.length : Nat)
  · have hg : cs[i]? = some cs[i] := List.getElem?_eq_getElem (by omega)
    obtain ⟨x, ax, rx⟩ := rl.get i _ hg
    have hc5 := hll _ (List.getElem_mem (show i < cs.length by omega))
    generalize cs[i] = d at *
    try simp (disch := first | assumption | omega | (apply At.mk; with_unfolding_all rfl)) only [hwl, ↓go_eq, ↓ent_eq, Mv, NilC_at, Fld_at, add_mk, Nat.zero_add, Nat.add_zero, Add64, Sub64, Mul64, Quo64, Rem64, Neg64, Cvt64, CvtU8, CvtU16, CvtU32, CvtU64, AddU64, SubU64, MulU64, Shr64, Shr_u8, Shr_u16, Shr_u32, Shr_u64, And1, And31, And32, Eql64, Neq64, Bin_lss, Bin_leq, Bin_gtr, Bin_geq, Bin_bool_eql, Bin_bool_neq, Bin_ptr_nil_eql, Bin_ptr_nil_neq, Not_dec, Un_not, Pick_t, Pick_f, Pick_pos, Pick_neg, Gd_tt, Gd_tf, Gd_ft, Gd_ff, Gd_pos_t, Gd_neg_t, Gd_pos_f, Gd_neg_f, Gd_undef, If_t, If_f, If_pos, If_neg, CallF_eq, Max_two, Min_two, Len_rd, Len_own, Ld_blkE, Idx_rdN, Idx_ownN, Idx_rdE, Idx_ownE, IdxAE, LdA_two, Idx_at0, Ext_atE, Len_at, Int.toNat_natCast, Int.toNat_zero, Int.toNat_one, List.length_map, List.length_append, List.length_cons, List.length_nil, List.length_take, List.length_set, List.length_replicate, Bool.not_true, Bool.not_false, decide_true, decide_false, BEq.rfl, bne_self_eq_false, tf_beq, ft_beq, tf_bne, ft_bne, not_true_eq_false, not_false_eq_true, app]
    refine same_q (by omega) (by omega) rx hv ?_
    by_cases c2 : SameT d c
    · rw [decide_eq_true c2]
      try simp (disch := first | assumption | omega | (apply At.mk; with_unfolding_all rfl)) only [↓go_eq, ↓ent_eq, Mv, NilC_at, Fld_at, add_mk, Nat.zero_add, Nat.add_zero, Add64, Sub64, Mul64, Quo64, Rem64, Neg64, Cvt64, CvtU8, CvtU16, CvtU32, CvtU64, AddU64, SubU64, MulU64, Shr64, Shr_u8, Shr_u16, Shr_u32, Shr_u64, And1, And31, And32, Eql64, Neq64, Bin_lss, Bin_leq, Bin_gtr, Bin_geq, Bin_bool_eql, Bin_bool_neq, Bin_ptr_nil_eql, Bin_ptr_nil_neq, Not_dec, Un_not, Pick_t, Pick_f, Pick_pos, Pick_neg, Gd_tt, Gd_tf, Gd_ft, Gd_ff, Gd_pos_t, Gd_neg_t, Gd_pos_f, Gd_neg_f, Gd_undef, If_t, If_f, If_pos, If_neg, CallF_eq, Max_two, Min_two, Len_rd, Len_own, Ld_blkE, Idx_rdN, Idx_ownN, Idx_rdE, Idx_ownE, IdxAE, LdA_two, Idx_at0, Ext_atE, Len_at, Int.toNat_natCast, Int.toNat_zero, Int.toNat_one, List.length_map, List.length_append, List.length_cons, List.length_nil, List.length_take, List.length_set, List.length_replicate, Bool.not_true, Bool.not_false, decide_true, decide_false, BEq.rfl, bne_self_eq_false, tf_beq, ft_beq, tf_bne, ft_bne, not_true_eq_false, not_false_eq_true, app]
      refine hrd.slc_hi (by omega) (by omega) fun v1 r1 => ?_
      rw [Int.toNat_natCast] at r1
      try simp (disch := first | assumption | omega | (apply At.mk; with_unfolding_all rfl)) only [↓go_eq, ↓ent_eq, Mv, NilC_at, Fld_at, add_mk, Nat.zero_add, Nat.add_zero, Add64, Sub64, Mul64, Quo64, Rem64, Neg64, Cvt64, CvtU8, CvtU16, CvtU32, CvtU64, AddU64, SubU64, MulU64, Shr64, Shr_u8, Shr_u16, Shr_u32, Shr_u64, And1, And31, And32, Eql64, Neq64, Bin_lss, Bin_leq, Bin_gtr, Bin_geq, Bin_bool_eql, Bin_bool_neq, Bin_ptr_nil_eql, Bin_ptr_nil_neq, Not_dec, Un_not, Pick_t, Pick_f, Pick_pos, Pick_neg, Gd_tt, Gd_tf, Gd_ft, Gd_ff, Gd_pos_t, Gd_neg_t, Gd_pos_f, Gd_neg_f, Gd_undef, If_t, If_f, If_pos, If_neg, CallF_eq, Max_two, Min_two, Len_rd, Len_own, Ld_blkE, Idx_rdN, Idx_ownN, Idx_rdE, Idx_ownE, IdxAE, LdA_two, Idx_at0, Ext_atE, Len_at, Int.toNat_natCast, Int.toNat_zero, Int.toNat_one, List.length_map, List.length_append, List.length_cons, List.length_nil, List.length_take, List.length_set, List.length_replicate, Bool.not_true, Bool.not_false, decide_true, decide_false, BEq.rfl, bne_self_eq_false, tf_beq, ft_beq, tf_bne, ft_bne, not_true_eq_false, not_false_eq_true, app]
      refine (Own.nil h).app r1 rfl rfl (fun y hy => o.cells y (List.mem_of_mem_take hy)) (by simp; omega) (by simp; omega) fun v2 h3 bs3 o3 f3 hb3 s3 => ?_
      have hr3 := hrd.fr f3
      try simp (disch := first | assumption | omega | (apply At.mk; with_unfolding_all rfl)) only [↓go_eq, ↓ent_eq, Mv, NilC_at, Fld_at, add_mk, Nat.zero_add, Nat.add_zero, Add64, Sub64, Mul64, Quo64, Rem64, Neg64, Cvt64, CvtU8, CvtU16, CvtU32, CvtU64, AddU64, SubU64, MulU64, Shr64, Shr_u8, Shr_u16, Shr_u32, Shr_u64, And1, And31, And32, Eql64, Neq64, Bin_lss, Bin_leq, Bin_gtr, Bin_geq, Bin_bool_eql, Bin_bool_neq, Bin_ptr_nil_eql, Bin_ptr_nil_neq, Not_dec, Un_not, Pick_t, Pick_f, Pick_pos, Pick_neg, Gd_tt, Gd_tf, Gd_ft, Gd_ff, Gd_pos_t, Gd_neg_t, Gd_pos_f, Gd_neg_f, Gd_undef, If_t, If_f, If_pos, If_neg, CallF_eq, Max_two, Min_two, Len_rd, Len_own, Ld_blkE, Idx_rdN, Idx_ownN, Idx_rdE, Idx_ownE, IdxAE, LdA_two, Idx_at0, Ext_atE, Len_at, Int.toNat_natCast, Int.toNat_zero, Int.toNat_one, List.length_map, List.length_append, List.length_cons, List.length_nil, List.length_take, List.length_set, List.length_replicate, Bool.not_true, Bool.not_false, decide_true, decide_false, BEq.rfl, bne_self_eq_false, tf_beq, ft_beq, tf_bne, ft_bne, not_true_eq_false, not_false_eq_true, app]
      refine Rd.slc_lo hr3 (by omega) (by omega) fun v4 r4 => ?_
      rw [show ((i : Int) + 1).toNat = i + 1 by omega] at r4
      try simp (disch := first | assumption | omega | (apply At.mk; with_unfolding_all rfl)) only [↓go_eq, ↓ent_eq, Mv, NilC_at, Fld_at, add_mk, Nat.zero_add, Nat.add_zero, Add64, Sub64, Mul64, Quo64, Rem64, Neg64, Cvt64, CvtU8, CvtU16, CvtU32, CvtU64, AddU64, SubU64, MulU64, Shr64, Shr_u8, Shr_u16, Shr_u32, Shr_u64, And1, And31, And32, Eql64, Neq64, Bin_lss, Bin_leq, Bin_gtr, Bin_geq, Bin_bool_eql, Bin_bool_neq, Bin_ptr_nil_eql, Bin_ptr_nil_neq, Not_dec, Un_not, Pick_t, Pick_f, Pick_pos, Pick_neg, Gd_tt, Gd_tf, Gd_ft, Gd_ff, Gd_pos_t, Gd_neg_t, Gd_pos_f, Gd_neg_f, Gd_undef, If_t, If_f, If_pos, If_neg, CallF_eq, Max_two, Min_two, Len_rd, Len_own, Ld_blkE, Idx_rdN, Idx_ownN, Idx_rdE, Idx_ownE, IdxAE, LdA_two, Idx_at0, Ext_atE, Len_at, Int.toNat_natCast, Int.toNat_zero, Int.toNat_one, List.length_map, List.length_append, List.length_cons, List.length_nil, List.length_take, List.length_set, List.length_replicate, Bool.not_true, Bool.not_false, decide_true, decide_false, BEq.rfl, bne_self_eq_false, tf_beq, ft_beq, tf_bne, ft_bne, not_true_eq_false, not_false_eq_true, app]
      refine o3.app r4 rfl rfl (fun y hy => o.cells y (List.mem_of_mem_drop hy)) (by simp; omega) (by simp; omega) fun v5 h5 bs5 o5 f5 hb5 s5 => ?_
      have hb3' : ∀ b ∈ bs3, h.size ≤ b := fun b hb => by
        rcases hb3 b hb with q | q
        · cases q
        · omega
      rw [List.nil_append, ← List.eraseIdx_eq_take_drop_succ] at o5
      try simp (disch := first | assumption | omega | (apply At.mk; with_unfolding_all rfl)) only [↓go_eq, ↓ent_eq, Mv, NilC_at, Fld_at, add_mk, Nat.zero_add, Nat.add_zero, Add64, Sub64, Mul64, Quo64, Rem64, Neg64, Cvt64, CvtU8, CvtU16, CvtU32, CvtU64, AddU64, SubU64, MulU64, Shr64, Shr_u8, Shr_u16, Shr_u32, Shr_u64, And1, And31, And32, Eql64, Neq64, Bin_lss, Bin_leq, Bin_gtr, Bin_geq, Bin_bool_eql, Bin_bool_neq, Bin_ptr_nil_eql, Bin_ptr_nil_neq, Not_dec, Un_not, Pick_t, Pick_f, Pick_pos, Pick_neg, Gd_tt, Gd_tf, Gd_ft, Gd_ff, Gd_pos_t, Gd_neg_t, Gd_pos_f, Gd_neg_f, Gd_undef, If_t, If_f, If_pos, If_neg, CallF_eq, Max_two, Min_two, Len_rd, Len_own, Ld_blkE, Idx_rdN, Idx_ownN, Idx_rdE, Idx_ownE, IdxAE, LdA_two, Idx_at0, Ext_atE, Len_at, Int.toNat_natCast, Int.toNat_zero, Int.toNat_one, List.length_map, List.length_append, List.length_cons, List.length_nil, List.length_take, List.length_set, List.length_replicate, Bool.not_true, Bool.not_false, decide_true, decide_false, BEq.rfl, bne_self_eq_false, tf_beq, ft_beq, tf_bne, ft_bne, not_true_eq_false, not_false_eq_true, app]
      exact h1 i d hg c2 (fun k d' hk => ht k d' hk) v5 bs5 h5 (OwC.erase o.len o.get o5) (fun b hb => by
        rcases hb5 b hb with q | q
        · exact hb3' b q
        · have := f3.size; omega) (f3.trans' f5 fun b hb => .inr (hb3' b hb))
    · rw [decide_eq_false c2]
      try simp (disch := first | assumption | omega | (apply At.mk; with_unfolding_all rfl)) only [↓go_eq, ↓ent_eq, Mv, NilC_at, Fld_at, add_mk, Nat.zero_add, Nat.add_zero, Add64, Sub64, Mul64, Quo64, Rem64, Neg64, Cvt64, CvtU8, CvtU16, CvtU32, CvtU64, AddU64, SubU64, MulU64, Shr64, Shr_u8, Shr_u16, Shr_u32, Shr_u64, And1, And31, And32, Eql64, Neq64, Bin_lss, Bin_leq, Bin_gtr, Bin_geq, Bin_bool_eql, Bin_bool_neq, Bin_ptr_nil_eql, Bin_ptr_nil_neq, Not_dec, Un_not, Pick_t, Pick_f, Pick_pos, Pick_neg, Gd_tt, Gd_tf, Gd_ft, Gd_ff, Gd_pos_t, Gd_neg_t, Gd_pos_f, Gd_neg_f, Gd_undef, If_t, If_f, If_pos, If_neg, CallF_eq, Max_two, Min_two, Len_rd, Len_own, Ld_blkE, Idx_rdN, Idx_ownN, Idx_rdE, Idx_ownE, IdxAE, LdA_two, Idx_at0, Ext_atE, Len_at, Int.toNat_natCast, Int.toNat_zero, Int.toNat_one, List.length_map, List.length_append, List.length_cons, List.length_nil, List.length_take, List.length_set, List.length_replicate, Bool.not_true, Bool.not_false, decide_true, decide_false, BEq.rfl, bne_self_eq_false, tf_beq, ft_beq, tf_bne, ft_bne, not_true_eq_false, not_false_eq_true, app]
      try simp only [show (i : Int) + 1 = ((i + 1 : Nat) : Int) from by omega]
      refine hX (i + 1) h ⟨rfl, by omega, fun k d' hk hd' => ?_⟩ (by omega)
      by_cases e : k = i
      · subst e; rw [hg] at hd'; cases hd'; exact c2
      · exact ht k d' (by omega) hd'
  · try simp (disch := first | assumption | omega | (apply At.mk; with_unfolding_all rfl)) only [hwl, ↓go_eq, ↓ent_eq, Mv, NilC_at, Fld_at, add_mk, Nat.zero_add, Nat.add_zero, Add64, Sub64, Mul64, Quo64, Rem64, Neg64, Cvt64, CvtU8, CvtU16, CvtU32, CvtU64, AddU64, SubU64, MulU64, Shr64, Shr_u8, Shr_u16, Shr_u32, Shr_u64, And1, And31, And32, Eql64, Neq64, Bin_lss, Bin_leq, Bin_gtr, Bin_geq, Bin_bool_eql, Bin_bool_neq, Bin_ptr_nil_eql, Bin_ptr_nil_neq, Not_dec, Un_not, Pick_t, Pick_f, Pick_pos, Pick_neg, Gd_tt, Gd_tf, Gd_ft, Gd_ff, Gd_pos_t, Gd_neg_t, Gd_pos_f, Gd_neg_f, Gd_undef, If_t, If_f, If_pos, If_neg, CallF_eq, Max_two, Min_two, Len_rd, Len_own, Ld_blkE, Idx_rdN, Idx_ownN, Idx_rdE, Idx_ownE, IdxAE, LdA_two, Idx_at0, Ext_atE, Len_at, Int.toNat_natCast, Int.toNat_zero, Int.toNat_one, List.length_map, List.length_append, List.length_cons, List.length_nil, List.length_take, List.length_set, List.length_replicate, Bool.not_true, Bool.not_false, decide_true, decide_false, BEq.rfl, bne_self_eq_false, tf_beq, ft_beq, tf_bne, ft_bne, not_true_eq_false, not_false_eq_true, app]
    refine h2 fun d hd => ?_
    obtain ⟨k, hk', rfl⟩ := List.getElem_of_mem hd
    exact ht k _ (by omega) (List.getElem?_eq_getElem hk')
theorem erase_map {cs : List (List Int)} {c d : List Int} {j : Nat} (h : cs[j]? = some d) (hs : SameT d c) (hn : ∀ i d', i < j → cs[i]? = some d' → ¬ SameT d' c) : (cs.map nf).erase (nf c) = (cs.eraseIdx j).map nf := by
  have e : nf d = nf c := sameT_nf.1 hs
  rw [erase_at (i := j) (by rw [List.getElem?_map, h, ← e]; rfl) fun i hi q => ?_, map_eraseIdx]
  rw [List.getElem?_map] at q
  cases hd : cs[i]? with
  | none => rw [hd] at q; cases q
  | some d' =>
    rw [hd] at q
    exact hn i d' hi hd (sameT_nf.2 (by simpa using q))
/-- The clause is taken from the store too. -/
theorem StF.remove {h : Heap} {sb n N : Nat} {cs : List (List Int)} {u : Value} {b0 : List Nat} {ps : Ps} (s : StF h sb n N cs u b0 ps) {v : Value} {c : List Int} (hn : n ≤ 100000) (hl : c.length ≤ 1000000) (hc : ClOk n c) {K : Ret} (hv : Rd h v (c.map Iv))
    (h1 : ∀ (j : Nat) (d : List Int), cs[j]? = some d → SameT d c → (∀ i d', i < j → cs[i]? = some d' → ¬ SameT d' c) → ∀ u' i h', StF h' sb n N (cs.eraseIdx j) u' b0 (ps.eraseIdx i) → Fr (sb :: b0) h h' → K (.bool true) h')
    (h2 : (∀ d ∈ cs, ¬ SameT d c) → ∀ h', Fr [] h h' → K (.bool false) h')
    (hd : (∃ (j : Nat) (d : List Int), cs[j]? = some d ∧ SameT d c ∧ ∀ i d', i < j → cs[i]? = some d' → ¬ SameT d' c) ∨ ∀ d ∈ cs, ¬ SameT d c) : CallH Try.prog rup_Store_Remove.id #[ptr sb, v] K h := by
  refine rup_Store_Remove.spec hn hl (fun z hz => (hc z hz).sm (by omega)) (by rw [s.plen]; exact s.len) s.peach s.st hv (fun hh u' i h' S' e' f' => ?_) fun hno h' f' => ?_
  · rcases hd with ⟨j, d, g1, g2, g3⟩ | q
    · rw [s.eq, erase_map g1 g2 g3] at e'
      refine h1 j d g1 g2 g3 u' i h' ⟨S', e', ?_, fun c hc => s.each c (List.mem_of_mem_eraseIdx hc), fun c hc => s.ok c (List.mem_of_mem_eraseIdx hc)⟩ f'
      have := s.len
      rw [List.length_eraseIdx]; split <;> omega
    · rw [s.eq] at hh
      obtain ⟨d, hd, e⟩ := List.mem_map.1 hh.2
      exact absurd (sameT_nf.2 e) (q d hd)
  · rcases hd with ⟨j, d, g1, g2, g3⟩ | q
    · refine absurd ⟨hc, ?_⟩ hno
      rw [s.eq]
      exact List.mem_map.2 ⟨d, List.mem_of_getElem? g1, sameT_nf.1 g2⟩
    · exact h2 q h' f'
theorem has_iff {n : Nat} {cs : List (List Int)} {c : List Int} (hc : ClOk n c) : HasT n (cs.map nf) c ↔ ∃ d ∈ cs, SameT d c := by
  constructor
  · rintro ⟨_, h⟩
    obtain ⟨d, hd, e⟩ := List.mem_map.1 h
    exact ⟨d, hd, sameT_nf.2 e⟩
  · rintro ⟨d, hd, e⟩
    exact ⟨hc, List.mem_map.2 ⟨d, hd, sameT_nf.1 e⟩⟩
set_option maxHeartbeats 8000000 in
theorem bradawllaw07_RupRemoves.spec {a : Int} {xss yss : List (List Int)} {ws vs : List Value} {v w : Value} (ha : 0 ≤ a ∧ a ≤ 255) (hcl : ∀ c ∈ xss, c.length ≤ 140737488351232) (hcl2 : ∀ c ∈ yss, c.length ≤ 140737488351232) (hl0 : yss.length ≤ 140737488351232) {K : Ret} {h : Heap} (hv : RdX (.int .i16) h v xss ws) (hw : RdX (.int .i16) h w yss vs)
    (hk : ∀ h', Fr [] h h' → K (.bool true) h') : CallH Try.prog bradawllaw07_RupRemoves.id #[.agg #[.int .u8 a, v], w] K h := by
  refine bradawllaw07_RupRemoves.ok ?_
  simp only [bradawllaw07_RupRemoves.pt]
  rw [go_eq]
  refine New_blk fun h1 b1 f1 s1 => ?_
  have b1 : Blk h1 h.size [.int .u8 a, v] := b1
  rw [go_eq, CallF_eq]
  refine bradawllaw07_fit.spec fun h2 f2 => ?_
  have b2 := b1.fr f2 (by simp)
  rw [go_eq, Un_not, Bool.not_true, If_f, go_eq, LdA_two b2, go_eq, CallF_eq]
  refine bradawllaw02_Raw_Light.spec (m := 40) (by decide) hcl ((hv.fr f1).fr f2) fun h3 f3 => ⟨fun hL => ?_, ?_⟩
  rotate_left
  · try simp (disch := first | assumption | omega | (apply At.mk; with_unfolding_all rfl)) only [↓go_eq, ↓ent_eq, Mv, NilC_at, Fld_at, add_mk, Nat.zero_add, Nat.add_zero, Add64, Sub64, Mul64, Quo64, Rem64, Neg64, Cvt64, CvtU8, CvtU16, CvtU32, CvtU64, AddU64, SubU64, MulU64, Shr64, Shr_u8, Shr_u16, Shr_u32, Shr_u64, And1, And31, And32, Eql64, Neq64, Bin_lss, Bin_leq, Bin_gtr, Bin_geq, Bin_bool_eql, Bin_bool_neq, Bin_ptr_nil_eql, Bin_ptr_nil_neq, Not_dec, Un_not, Pick_t, Pick_f, Pick_pos, Pick_neg, Gd_tt, Gd_tf, Gd_ft, Gd_ff, Gd_pos_t, Gd_neg_t, Gd_pos_f, Gd_neg_f, Gd_undef, If_t, If_f, If_pos, If_neg, CallF_eq, Max_two, Min_two, Len_rd, Len_own, Ld_blkE, Idx_rdN, Idx_ownN, Idx_rdE, Idx_ownE, IdxAE, LdA_two, Idx_at0, Ext_atE, Len_at, Int.toNat_natCast, Int.toNat_zero, Int.toNat_one, List.length_map, List.length_append, List.length_cons, List.length_nil, List.length_take, List.length_set, List.length_replicate, Bool.not_true, Bool.not_false, decide_true, decide_false, BEq.rfl, bne_self_eq_false, tf_beq, ft_beq, tf_bne, ft_bne, not_true_eq_false, not_false_eq_true, app]
    exact hk h3 ((f1.trans f2).trans f3)
  obtain ⟨hL1, hL2⟩ := hL
  have b3 := b2.fr f3 (by simp)
  have f03 := (f1.trans f2).trans f3
  have hw3 := hw.fr f03
  have hvl := hw.len
  rw [go_eq, Un_not, Bool.not_true, go_eq, Gd_ff, Mv, go_eq, Gd_ff, Len_rd hw3.rd, go_eq, Gd_ff, Bin_gtr, go_eq, Pick_f, hvl]
  by_cases c1 : ((yss.length : Nat) : Int) > 30
  · rw [If_pos c1]
    exact hk h3 f03
  rw [If_neg c1, go_eq, LdA_two b3]
  refine prelude (vars := 5) (w := 4) ha (by decide) (by decide) (by omega) hL2 (hv.fr f03) fun n cs fb uf wf sb u b0 ps h5 h4 hn hlen hclw b4 hfb r4 S5 f4 f5 => ?_
  have b5 := b4.fr f5 (by simp)
  have r5 := r4.fr f5
  have f04 := f03.trans f4
  have hsb := S5.st.blk.lt
  have hb0 := S5.st.own.lt.1
  have hS : ∀ b ∈ sb :: b0, b < h5.size := fun b hb => by
    rcases List.mem_cons.1 hb with q | q
    · omega
    · exact hb0 b q
  have hS2 : ∀ b ∈ sb :: b0, h4.size ≤ b := fun b hb => by
    rcases List.mem_cons.1 hb with q | q
    · have := S5.st.lo; omega
    · exact S5.st.own.lo b q
  have hfl := b4.lt
  have hfS : fb ∉ sb :: b0 := fun hm => by have := hS2 fb hm; omega
  have hr5 := r5.rd
  have hwl5 := r5.len
  have cel : ∀ x ∈ wf, isCell x = true := Own.isCells (h := h4) (v := uf) (bs := []) r4.get r4.len
  clear b1 b2 b3 f1 f2 f3 hw3
  try simp (disch := first | assumption | omega | (apply At.mk; with_unfolding_all rfl)) only [↓go_eq, ↓ent_eq, Mv, NilC_at, Fld_at, add_mk, Nat.zero_add, Nat.add_zero, Add64, Sub64, Mul64, Quo64, Rem64, Neg64, Cvt64, CvtU8, CvtU16, CvtU32, CvtU64, AddU64, SubU64, MulU64, Shr64, Shr_u8, Shr_u16, Shr_u32, Shr_u64, And1, And31, And32, Eql64, Neq64, Bin_lss, Bin_leq, Bin_gtr, Bin_geq, Bin_bool_eql, Bin_bool_neq, Bin_ptr_nil_eql, Bin_ptr_nil_neq, Not_dec, Un_not, Pick_t, Pick_f, Pick_pos, Pick_neg, Gd_tt, Gd_tf, Gd_ft, Gd_ff, Gd_pos_t, Gd_neg_t, Gd_pos_f, Gd_neg_f, Gd_undef, If_t, If_f, If_pos, If_neg, CallF_eq, Max_two, Min_two, Len_rd, Len_own, Ld_blkE, Idx_rdN, Idx_ownN, Idx_rdE, Idx_ownE, IdxAE, LdA_two, Idx_at0, Ext_atE, Len_at, Int.toNat_natCast, Int.toNat_zero, Int.toNat_one, List.length_map, List.length_append, List.length_cons, List.length_nil, List.length_take, List.length_set, List.length_replicate, Bool.not_true, Bool.not_false, decide_true, decide_false, BEq.rfl, bne_self_eq_false, tf_beq, ft_beq, tf_bne, ft_bne, not_true_eq_false, not_false_eq_true, app]
  refine (Own.nil h5).app (ys := wf) hr5 rfl rfl cel (by simp; omega) (by simp; omega) fun ov h6 ob o6 f6 hb6 s6 => ?_
  have o6 : Own h6 ov wf ob := by simpa using o6
  have hb6 : ∀ b ∈ ob, h5.size ≤ b := fun b hb => by
    rcases hb6 b hb with q | q
    · cases q
    · omega
  have b6 := b5.fr f6 (by simp)
  have S6 := S5.fr f6
  have f46 := f5.trans f6
  have hw6 := hw.fr (f04.trans f46)
  have hrw := hw6.rd
  have z56 := f6.size
  clear b5 r5 hr5
  try simp (disch := first | assumption | omega | (apply At.mk; with_unfolding_all rfl)) only [hvl, ↓go_eq, ↓ent_eq, Mv, NilC_at, Fld_at, add_mk, Nat.zero_add, Nat.add_zero, Add64, Sub64, Mul64, Quo64, Rem64, Neg64, Cvt64, CvtU8, CvtU16, CvtU32, CvtU64, AddU64, SubU64, MulU64, Shr64, Shr_u8, Shr_u16, Shr_u32, Shr_u64, And1, And31, And32, Eql64, Neq64, Bin_lss, Bin_leq, Bin_gtr, Bin_geq, Bin_bool_eql, Bin_bool_neq, Bin_ptr_nil_eql, Bin_ptr_nil_neq, Not_dec, Un_not, Pick_t, Pick_f, Pick_pos, Pick_neg, Gd_tt, Gd_tf, Gd_ft, Gd_ff, Gd_pos_t, Gd_neg_t, Gd_pos_f, Gd_neg_f, Gd_undef, If_t, If_f, If_pos, If_neg, CallF_eq, Max_two, Min_two, Len_rd, Len_own, Ld_blkE, Idx_rdN, Idx_ownN, Idx_rdE, Idx_ownE, IdxAE, LdA_two, Idx_at0, Ext_atE, Len_at, Int.toNat_natCast, Int.toNat_zero, Int.toNat_one, List.length_map, List.length_append, List.length_cons, List.length_nil, List.length_take, List.length_set, List.length_replicate, Bool.not_true, Bool.not_false, decide_true, decide_false, BEq.rfl, bne_self_eq_false, tf_beq, ft_beq, tf_bne, ft_bne, not_true_eq_false, not_false_eq_true, app]
  refine Lp_fn (σ := Nat × List (List Int) × Value × List Value × List Nat × Value × Ps) (fun s => [ptr fb, ptr sb, s.2.2.1, w, Iv (yss.length : Nat), Iv (s.1 : Nat)])
    (fun s h' => s.1 ≤ yss.length ∧ OwC h4 h' s.2.2.1 s.2.1 s.2.2.2.1 s.2.2.2.2.1 ∧ (∀ b ∈ s.2.2.2.2.1, h5.size ≤ b) ∧ StF h' sb n h4.size s.2.1 s.2.2.2.2.2.1 b0 s.2.2.2.2.2.2 ∧ Blk h' fb [Iv n, uf] ∧ Fr [] h4 h' ∧ h5.size ≤ h'.size ∧ (∀ c ∈ s.2.1, c ∈ cs) ∧ s.2.1.length ≤ 40) (fun s => yss.length - s.1)
    (0, cs, ov, wf, ob, u, ps) rfl (fun _ => rfl) ⟨Nat.zero_le _, ⟨o6, r4.len, r4.get⟩, hb6, S6, b6, f46, z56, fun _ h => h, by simp only; omega⟩ ?_
  clear o6 hb6 b6 S6 S5 f46 hw6 hrw f6 f5 s6 s1 z56 hb0 hsb hwl5
  rintro ⟨i, cs1, ov, wo, ob, u, ps⟩ h6 ⟨hi, o6, hb6, S6, b6, f46, z56, hsub, hl1⟩ X hX
  simp only at hi o6 hb6 S6 hsub hl1
  have hw6 := hw.fr (f04.trans f46)
  have hrw := hw6.rd
  have hok1 := S6.ok
  by_cases c2 : (i : Int) < (yss.length : Nat)
  · have hg : yss[i]? = some yss[i] := List.getElem?_eq_getElem (by omega)
    obtain ⟨x, ax, rx⟩ := hw6.get i _ hg
    have hy5 := hcl2 _ (List.getElem_mem (show i < yss.length by omega))
    generalize yss[i] = y at *
    try simp (disch := first | assumption | omega | (apply At.mk; with_unfolding_all rfl)) only [↓go_eq, ↓ent_eq, Mv, NilC_at, Fld_at, add_mk, Nat.zero_add, Nat.add_zero, Add64, Sub64, Mul64, Quo64, Rem64, Neg64, Cvt64, CvtU8, CvtU16, CvtU32, CvtU64, AddU64, SubU64, MulU64, Shr64, Shr_u8, Shr_u16, Shr_u32, Shr_u64, And1, And31, And32, Eql64, Neq64, Bin_lss, Bin_leq, Bin_gtr, Bin_geq, Bin_bool_eql, Bin_bool_neq, Bin_ptr_nil_eql, Bin_ptr_nil_neq, Not_dec, Un_not, Pick_t, Pick_f, Pick_pos, Pick_neg, Gd_tt, Gd_tf, Gd_ft, Gd_ff, Gd_pos_t, Gd_neg_t, Gd_pos_f, Gd_neg_f, Gd_undef, If_t, If_f, If_pos, If_neg, CallF_eq, Max_two, Min_two, Len_rd, Len_own, Ld_blkE, Idx_rdN, Idx_ownN, Idx_rdE, Idx_ownE, IdxAE, LdA_two, Idx_at0, Ext_atE, Len_at, Int.toNat_natCast, Int.toNat_zero, Int.toNat_one, List.length_map, List.length_append, List.length_cons, List.length_nil, List.length_take, List.length_set, List.length_replicate, Bool.not_true, Bool.not_false, decide_true, decide_false, BEq.rfl, bne_self_eq_false, tf_beq, ft_beq, tf_bne, ft_bne, not_true_eq_false, not_false_eq_true, app]
    by_cases c3 : ((y.length : Nat) : Int) > 10
    · try simp (disch := first | assumption | omega | (apply At.mk; with_unfolding_all rfl)) only [↓go_eq, ↓ent_eq, Mv, NilC_at, Fld_at, add_mk, Nat.zero_add, Nat.add_zero, Add64, Sub64, Mul64, Quo64, Rem64, Neg64, Cvt64, CvtU8, CvtU16, CvtU32, CvtU64, AddU64, SubU64, MulU64, Shr64, Shr_u8, Shr_u16, Shr_u32, Shr_u64, And1, And31, And32, Eql64, Neq64, Bin_lss, Bin_leq, Bin_gtr, Bin_geq, Bin_bool_eql, Bin_bool_neq, Bin_ptr_nil_eql, Bin_ptr_nil_neq, Not_dec, Un_not, Pick_t, Pick_f, Pick_pos, Pick_neg, Gd_tt, Gd_tf, Gd_ft, Gd_ff, Gd_pos_t, Gd_neg_t, Gd_pos_f, Gd_neg_f, Gd_undef, If_t, If_f, If_pos, If_neg, CallF_eq, Max_two, Min_two, Len_rd, Len_own, Ld_blkE, Idx_rdN, Idx_ownN, Idx_rdE, Idx_ownE, IdxAE, LdA_two, Idx_at0, Ext_atE, Len_at, Int.toNat_natCast, Int.toNat_zero, Int.toNat_one, List.length_map, List.length_append, List.length_cons, List.length_nil, List.length_take, List.length_set, List.length_replicate, Bool.not_true, Bool.not_false, decide_true, decide_false, BEq.rfl, bne_self_eq_false, tf_beq, ft_beq, tf_bne, ft_bne, not_true_eq_false, not_false_eq_true, app]
      exact hk h6 (f04.trans f46)
    try simp (disch := first | assumption | omega | (apply At.mk; with_unfolding_all rfl)) only [↓go_eq, ↓ent_eq, Mv, NilC_at, Fld_at, add_mk, Nat.zero_add, Nat.add_zero, Add64, Sub64, Mul64, Quo64, Rem64, Neg64, Cvt64, CvtU8, CvtU16, CvtU32, CvtU64, AddU64, SubU64, MulU64, Shr64, Shr_u8, Shr_u16, Shr_u32, Shr_u64, And1, And31, And32, Eql64, Neq64, Bin_lss, Bin_leq, Bin_gtr, Bin_geq, Bin_bool_eql, Bin_bool_neq, Bin_ptr_nil_eql, Bin_ptr_nil_neq, Not_dec, Un_not, Pick_t, Pick_f, Pick_pos, Pick_neg, Gd_tt, Gd_tf, Gd_ft, Gd_ff, Gd_pos_t, Gd_neg_t, Gd_pos_f, Gd_neg_f, Gd_undef, If_t, If_f, If_pos, If_neg, CallF_eq, Max_two, Min_two, Len_rd, Len_own, Ld_blkE, Idx_rdN, Idx_ownN, Idx_rdE, Idx_ownE, IdxAE, LdA_two, Idx_at0, Ext_atE, Len_at, Int.toNat_natCast, Int.toNat_zero, Int.toNat_one, List.length_map, List.length_append, List.length_cons, List.length_nil, List.length_take, List.length_set, List.length_replicate, Bool.not_true, Bool.not_false, decide_true, decide_false, BEq.rfl, bne_self_eq_false, tf_beq, ft_beq, tf_bne, ft_bne, not_true_eq_false, not_false_eq_true, app]
    refine bradawllaw07_Lits.spec (by omega) (by omega) rx fun xv xb h7 o7 hb7 f7 => ?_
    have hxo := litsT_ok n y
    have hxl := litsT_len n y
    generalize litsT n y = C0 at *
    have rx7 := rx.fr f7
    have b7 := b6.fr f7 (by simp)
    have S7 := S6.fr f7
    have oc7 := o6.fr f7 (by simp)
    have f47 := f46.trans f7
    have z7 := f7.size
    have rl7 := oc7.rdl f47
    have hol := rl7.len
    have hro := rl7.rd
    have hr7 := o7.rd
    clear o6 S6 b6 rx hw6 hrw f46 f7 o7 hb7
    refine Jn_fn (σ := Value × List Int) (fun s => [ptr fb, ptr sb, ov, s.1, w, Iv (yss.length : Nat), Iv (i : Nat)]) (fun s h' => Rd h' s.1 (s.2.map Iv) ∧ ClOk n s.2 ∧ s.2.length ≤ 100 ∧ Fr [] h7 h') ?_ ?_
    · intro J hJ
      have keep : app 7 J [ptr fb, ptr sb, ov, xv, w, Iv (yss.length : Nat), Iv (i : Nat)] h7 := hJ (xv, C0) h7 ⟨hr7, hxo, by simp only; omega, Fr.refl _ _⟩
      by_cases c4 : (i : Int) % 2 = 0
      · by_cases c5 : ((cs1.length : Nat) : Int) > 0
        · have hm := Int.emod_lt_of_pos ((y.length : Nat) : Int) c5
          have hm0 := Int.emod_nonneg ((y.length : Nat) : Int) (show ((cs1.length : Nat) : Int) ≠ 0 by omega)
          obtain ⟨j, hj⟩ : ∃ j : Nat, ((y.length : Nat) : Int) % ((cs1.length : Nat) : Int) = j := ⟨_, (Int.toNat_of_nonneg hm0).symm⟩
          have hjl : j < cs1.length := by omega
          have hg2 : cs1[j]? = some cs1[j] := List.getElem?_eq_getElem hjl
          obtain ⟨z, az, rz⟩ := rl7.get j _ hg2
          have hdm := List.getElem_mem hjl
          have hdo := hok1 _ hdm
          have hdl := hclw _ (hsub _ hdm)
          generalize cs1[j] = d at *
          rw [← hol] at c5 hj
          try simp (disch := first | assumption | omega | (apply At.mk; with_unfolding_all rfl)) only [↓go_eq, ↓ent_eq, Mv, NilC_at, Fld_at, add_mk, Nat.zero_add, Nat.add_zero, Add64, Sub64, Mul64, Quo64, Rem64, Neg64, Cvt64, CvtU8, CvtU16, CvtU32, CvtU64, AddU64, SubU64, MulU64, Shr64, Shr_u8, Shr_u16, Shr_u32, Shr_u64, And1, And31, And32, Eql64, Neq64, Bin_lss, Bin_leq, Bin_gtr, Bin_geq, Bin_bool_eql, Bin_bool_neq, Bin_ptr_nil_eql, Bin_ptr_nil_neq, Not_dec, Un_not, Pick_t, Pick_f, Pick_pos, Pick_neg, Gd_tt, Gd_tf, Gd_ft, Gd_ff, Gd_pos_t, Gd_neg_t, Gd_pos_f, Gd_neg_f, Gd_undef, If_t, If_f, If_pos, If_neg, CallF_eq, Max_two, Min_two, Len_rd, Len_own, Ld_blkE, Idx_rdN, Idx_ownN, Idx_rdE, Idx_ownE, IdxAE, LdA_two, Idx_at0, Ext_atE, Len_at, Int.toNat_natCast, Int.toNat_zero, Int.toNat_one, List.length_map, List.length_append, List.length_cons, List.length_nil, List.length_take, List.length_set, List.length_replicate, Bool.not_true, Bool.not_false, decide_true, decide_false, BEq.rfl, bne_self_eq_false, tf_beq, ft_beq, tf_bne, ft_bne, not_true_eq_false, not_false_eq_true, app]
          simp only [hj]
          try simp (disch := first | assumption | omega | (apply At.mk; with_unfolding_all rfl)) only [↓go_eq, ↓ent_eq, Mv, NilC_at, Fld_at, add_mk, Nat.zero_add, Nat.add_zero, Add64, Sub64, Mul64, Quo64, Rem64, Neg64, Cvt64, CvtU8, CvtU16, CvtU32, CvtU64, AddU64, SubU64, MulU64, Shr64, Shr_u8, Shr_u16, Shr_u32, Shr_u64, And1, And31, And32, Eql64, Neq64, Bin_lss, Bin_leq, Bin_gtr, Bin_geq, Bin_bool_eql, Bin_bool_neq, Bin_ptr_nil_eql, Bin_ptr_nil_neq, Not_dec, Un_not, Pick_t, Pick_f, Pick_pos, Pick_neg, Gd_tt, Gd_tf, Gd_ft, Gd_ff, Gd_pos_t, Gd_neg_t, Gd_pos_f, Gd_neg_f, Gd_undef, If_t, If_f, If_pos, If_neg, CallF_eq, Max_two, Min_two, Len_rd, Len_own, Ld_blkE, Idx_rdN, Idx_ownN, Idx_rdE, Idx_ownE, IdxAE, LdA_two, Idx_at0, Ext_atE, Len_at, Int.toNat_natCast, Int.toNat_zero, Int.toNat_one, List.length_map, List.length_append, List.length_cons, List.length_nil, List.length_take, List.length_set, List.length_replicate, Bool.not_true, Bool.not_false, decide_true, decide_false, BEq.rfl, bne_self_eq_false, tf_beq, ft_beq, tf_bne, ft_bne, not_true_eq_false, not_false_eq_true, app]
          refine Lp_fn (σ := Nat × Value × List Nat) (fun s => [ptr fb, ptr sb, ov, s.2.1, w, Iv (yss.length : Nat), Iv (i : Nat), z, Iv (d.length : Nat), Iv (s.1 : Nat)]) (fun s h' => s.1 ≤ d.length ∧ Own h' s.2.1 ((d.take s.1).reverse.map Iv) s.2.2 ∧ (∀ b ∈ s.2.2, h7.size ≤ b) ∧ Fr [] h7 h') (fun s => d.length - s.1) (0, .slice none 0 0, []) rfl (fun _ => rfl) ⟨Nat.zero_le _, Own.nil _, by simp, Fr.refl _ _⟩ ?_
          rintro ⟨k, cv, cb⟩ h8 ⟨hk8, o8, hb8, f8⟩ Y hY
          simp only at hk8 o8 hb8
          have rz8 := rz.fr f8
          by_cases c6 : (k : Int) < (d.length : Nat)
          · have a1 := at_getD (show k < d.length by omega)
            have htk := getD_take (show k < d.length by omega)
            generalize d.getD k 0 = e at *
            try simp (disch := first | assumption | omega | (apply At.mk; with_unfolding_all rfl)) only [↓go_eq, ↓ent_eq, Mv, NilC_at, Fld_at, add_mk, Nat.zero_add, Nat.add_zero, Add64, Sub64, Mul64, Quo64, Rem64, Neg64, Cvt64, CvtU8, CvtU16, CvtU32, CvtU64, AddU64, SubU64, MulU64, Shr64, Shr_u8, Shr_u16, Shr_u32, Shr_u64, And1, And31, And32, Eql64, Neq64, Bin_lss, Bin_leq, Bin_gtr, Bin_geq, Bin_bool_eql, Bin_bool_neq, Bin_ptr_nil_eql, Bin_ptr_nil_neq, Not_dec, Un_not, Pick_t, Pick_f, Pick_pos, Pick_neg, Gd_tt, Gd_tf, Gd_ft, Gd_ff, Gd_pos_t, Gd_neg_t, Gd_pos_f, Gd_neg_f, Gd_undef, If_t, If_f, If_pos, If_neg, CallF_eq, Max_two, Min_two, Len_rd, Len_own, Ld_blkE, Idx_rdN, Idx_ownN, Idx_rdE, Idx_ownE, IdxAE, LdA_two, Idx_at0, Ext_atE, Len_at, Int.toNat_natCast, Int.toNat_zero, Int.toNat_one, List.length_map, List.length_append, List.length_cons, List.length_nil, List.length_take, List.length_set, List.length_replicate, Bool.not_true, Bool.not_false, decide_true, decide_false, BEq.rfl, bne_self_eq_false, tf_beq, ft_beq, tf_bne, ft_bne, not_true_eq_false, not_false_eq_true, app]
            refine BldS_one rfl rfl fun h9 o9 f9 s9 => ?_
            have o89 := o8.fr f9 (by simp)
            try simp (disch := first | assumption | omega | (apply At.mk; with_unfolding_all rfl)) only [↓go_eq, ↓ent_eq, Mv, NilC_at, Fld_at, add_mk, Nat.zero_add, Nat.add_zero, Add64, Sub64, Mul64, Quo64, Rem64, Neg64, Cvt64, CvtU8, CvtU16, CvtU32, CvtU64, AddU64, SubU64, MulU64, Shr64, Shr_u8, Shr_u16, Shr_u32, Shr_u64, And1, And31, And32, Eql64, Neq64, Bin_lss, Bin_leq, Bin_gtr, Bin_geq, Bin_bool_eql, Bin_bool_neq, Bin_ptr_nil_eql, Bin_ptr_nil_neq, Not_dec, Un_not, Pick_t, Pick_f, Pick_pos, Pick_neg, Gd_tt, Gd_tf, Gd_ft, Gd_ff, Gd_pos_t, Gd_neg_t, Gd_pos_f, Gd_neg_f, Gd_undef, If_t, If_f, If_pos, If_neg, CallF_eq, Max_two, Min_two, Len_rd, Len_own, Ld_blkE, Idx_rdN, Idx_ownN, Idx_rdE, Idx_ownE, IdxAE, LdA_two, Idx_at0, Ext_atE, Len_at, Int.toNat_natCast, Int.toNat_zero, Int.toNat_one, List.length_map, List.length_append, List.length_cons, List.length_nil, List.length_take, List.length_set, List.length_replicate, Bool.not_true, Bool.not_false, decide_true, decide_false, BEq.rfl, bne_self_eq_false, tf_beq, ft_beq, tf_bne, ft_bne, not_true_eq_false, not_false_eq_true, app]
            refine o9.app o89.rd rfl rfl (fun y hy => by obtain ⟨q, _, rfl⟩ := List.mem_map.1 hy; rfl) (by simp; omega) (by simp; omega) fun cv' h10 cb' o10 f10 hb10 s10 => ?_
            try simp (disch := first | assumption | omega | (apply At.mk; with_unfolding_all rfl)) only [↓go_eq, ↓ent_eq, Mv, NilC_at, Fld_at, add_mk, Nat.zero_add, Nat.add_zero, Add64, Sub64, Mul64, Quo64, Rem64, Neg64, Cvt64, CvtU8, CvtU16, CvtU32, CvtU64, AddU64, SubU64, MulU64, Shr64, Shr_u8, Shr_u16, Shr_u32, Shr_u64, And1, And31, And32, Eql64, Neq64, Bin_lss, Bin_leq, Bin_gtr, Bin_geq, Bin_bool_eql, Bin_bool_neq, Bin_ptr_nil_eql, Bin_ptr_nil_neq, Not_dec, Un_not, Pick_t, Pick_f, Pick_pos, Pick_neg, Gd_tt, Gd_tf, Gd_ft, Gd_ff, Gd_pos_t, Gd_neg_t, Gd_pos_f, Gd_neg_f, Gd_undef, If_t, If_f, If_pos, If_neg, CallF_eq, Max_two, Min_two, Len_rd, Len_own, Ld_blkE, Idx_rdN, Idx_ownN, Idx_rdE, Idx_ownE, IdxAE, LdA_two, Idx_at0, Ext_atE, Len_at, Int.toNat_natCast, Int.toNat_zero, Int.toNat_one, List.length_map, List.length_append, List.length_cons, List.length_nil, List.length_take, List.length_set, List.length_replicate, Bool.not_true, Bool.not_false, decide_true, decide_false, BEq.rfl, bne_self_eq_false, tf_beq, ft_beq, tf_bne, ft_bne, not_true_eq_false, not_false_eq_true, app]
            try simp only [show (k : Int) + 1 = ((k + 1 : Nat) : Int) from by omega]
            have z8 := f8.size
            refine hY (k + 1, cv', cb') h10 ⟨by simp only; omega, ?_, fun b hb => ?_, (f8.trans f9).trans' f10 fun b hb => .inr (by simp at hb; omega)⟩ (by simp only; omega)
            · simp only
              rw [htk, List.reverse_append]; exact o10
            · rcases hb10 b hb with q | q
              · simp at q; omega
              · omega
          · rw [List.take_of_length_le (by omega)] at o8
            try simp (disch := first | assumption | omega | (apply At.mk; with_unfolding_all rfl)) only [↓go_eq, ↓ent_eq, Mv, NilC_at, Fld_at, add_mk, Nat.zero_add, Nat.add_zero, Add64, Sub64, Mul64, Quo64, Rem64, Neg64, Cvt64, CvtU8, CvtU16, CvtU32, CvtU64, AddU64, SubU64, MulU64, Shr64, Shr_u8, Shr_u16, Shr_u32, Shr_u64, And1, And31, And32, Eql64, Neq64, Bin_lss, Bin_leq, Bin_gtr, Bin_geq, Bin_bool_eql, Bin_bool_neq, Bin_ptr_nil_eql, Bin_ptr_nil_neq, Not_dec, Un_not, Pick_t, Pick_f, Pick_pos, Pick_neg, Gd_tt, Gd_tf, Gd_ft, Gd_ff, Gd_pos_t, Gd_neg_t, Gd_pos_f, Gd_neg_f, Gd_undef, If_t, If_f, If_pos, If_neg, CallF_eq, Max_two, Min_two, Len_rd, Len_own, Ld_blkE, Idx_rdN, Idx_ownN, Idx_rdE, Idx_ownE, IdxAE, LdA_two, Idx_at0, Ext_atE, Len_at, Int.toNat_natCast, Int.toNat_zero, Int.toNat_one, List.length_map, List.length_append, List.length_cons, List.length_nil, List.length_take, List.length_set, List.length_replicate, Bool.not_true, Bool.not_false, decide_true, decide_false, BEq.rfl, bne_self_eq_false, tf_beq, ft_beq, tf_bne, ft_bne, not_true_eq_false, not_false_eq_true, app]
            exact hJ (cv, d.reverse) h8 ⟨o8.rd, fun q hq => hdo q (List.mem_reverse.1 hq), by simp only [List.length_reverse]; omega, f8⟩
        · rw [← hol] at c5
          try simp (disch := first | assumption | omega | (apply At.mk; with_unfolding_all rfl)) only [↓go_eq, ↓ent_eq, Mv, NilC_at, Fld_at, add_mk, Nat.zero_add, Nat.add_zero, Add64, Sub64, Mul64, Quo64, Rem64, Neg64, Cvt64, CvtU8, CvtU16, CvtU32, CvtU64, AddU64, SubU64, MulU64, Shr64, Shr_u8, Shr_u16, Shr_u32, Shr_u64, And1, And31, And32, Eql64, Neq64, Bin_lss, Bin_leq, Bin_gtr, Bin_geq, Bin_bool_eql, Bin_bool_neq, Bin_ptr_nil_eql, Bin_ptr_nil_neq, Not_dec, Un_not, Pick_t, Pick_f, Pick_pos, Pick_neg, Gd_tt, Gd_tf, Gd_ft, Gd_ff, Gd_pos_t, Gd_neg_t, Gd_pos_f, Gd_neg_f, Gd_undef, If_t, If_f, If_pos, If_neg, CallF_eq, Max_two, Min_two, Len_rd, Len_own, Ld_blkE, Idx_rdN, Idx_ownN, Idx_rdE, Idx_ownE, IdxAE, LdA_two, Idx_at0, Ext_atE, Len_at, Int.toNat_natCast, Int.toNat_zero, Int.toNat_one, List.length_map, List.length_append, List.length_cons, List.length_nil, List.length_take, List.length_set, List.length_replicate, Bool.not_true, Bool.not_false, decide_true, decide_false, BEq.rfl, bne_self_eq_false, tf_beq, ft_beq, tf_bne, ft_bne, not_true_eq_false, not_false_eq_true, app]
          exact keep
      · try simp (disch := first | assumption | omega | (apply At.mk; with_unfolding_all rfl)) only [↓go_eq, ↓ent_eq, Mv, NilC_at, Fld_at, add_mk, Nat.zero_add, Nat.add_zero, Add64, Sub64, Mul64, Quo64, Rem64, Neg64, Cvt64, CvtU8, CvtU16, CvtU32, CvtU64, AddU64, SubU64, MulU64, Shr64, Shr_u8, Shr_u16, Shr_u32, Shr_u64, And1, And31, And32, Eql64, Neq64, Bin_lss, Bin_leq, Bin_gtr, Bin_geq, Bin_bool_eql, Bin_bool_neq, Bin_ptr_nil_eql, Bin_ptr_nil_neq, Not_dec, Un_not, Pick_t, Pick_f, Pick_pos, Pick_neg, Gd_tt, Gd_tf, Gd_ft, Gd_ff, Gd_pos_t, Gd_neg_t, Gd_pos_f, Gd_neg_f, Gd_undef, If_t, If_f, If_pos, If_neg, CallF_eq, Max_two, Min_two, Len_rd, Len_own, Ld_blkE, Idx_rdN, Idx_ownN, Idx_rdE, Idx_ownE, IdxAE, LdA_two, Idx_at0, Ext_atE, Len_at, Int.toNat_natCast, Int.toNat_zero, Int.toNat_one, List.length_map, List.length_append, List.length_cons, List.length_nil, List.length_take, List.length_set, List.length_replicate, Bool.not_true, Bool.not_false, decide_true, decide_false, BEq.rfl, bne_self_eq_false, tf_beq, ft_beq, tf_bne, ft_bne, not_true_eq_false, not_false_eq_true, app]
        exact keep
    · rintro ⟨cv, C⟩ h8 ⟨rc8, hC, hCl, f8⟩
      simp only at rc8 hC hCl
      have b8 := b7.fr f8 (by simp)
      have S8 := S7.fr f8
      have oc8 := oc7.fr f8 (by simp)
      have f48 := f47.trans f8
      have z8 := f8.size
      clear b7 S7 oc7 rl7 hro hr7 rx7
      have hplen := S8.plen
      try simp (disch := first | assumption | omega | (apply At.mk; with_unfolding_all rfl)) only [↓go_eq, ↓ent_eq, Mv, NilC_at, Fld_at, add_mk, Nat.zero_add, Nat.add_zero, Add64, Sub64, Mul64, Quo64, Rem64, Neg64, Cvt64, CvtU8, CvtU16, CvtU32, CvtU64, AddU64, SubU64, MulU64, Shr64, Shr_u8, Shr_u16, Shr_u32, Shr_u64, And1, And31, And32, Eql64, Neq64, Bin_lss, Bin_leq, Bin_gtr, Bin_geq, Bin_bool_eql, Bin_bool_neq, Bin_ptr_nil_eql, Bin_ptr_nil_neq, Not_dec, Un_not, Pick_t, Pick_f, Pick_pos, Pick_neg, Gd_tt, Gd_tf, Gd_ft, Gd_ff, Gd_pos_t, Gd_neg_t, Gd_pos_f, Gd_neg_f, Gd_undef, If_t, If_f, If_pos, If_neg, CallF_eq, Max_two, Min_two, Len_rd, Len_own, Ld_blkE, Idx_rdN, Idx_ownN, Idx_rdE, Idx_ownE, IdxAE, LdA_two, Idx_at0, Ext_atE, Len_at, Int.toNat_natCast, Int.toNat_zero, Int.toNat_one, List.length_map, List.length_append, List.length_cons, List.length_nil, List.length_take, List.length_set, List.length_replicate, Bool.not_true, Bool.not_false, decide_true, decide_false, BEq.rfl, bne_self_eq_false, tf_beq, ft_beq, tf_bne, ft_bne, not_true_eq_false, not_false_eq_true, app]
      refine bradawlref07_Remove.spec (by omega) S8.each (by omega) oc8 f48 rc8 (fun j d g1 g2 g3 v' bs' h9 o9 hb9 f9 => ?_) fun hno => ?_
      · have S9 := S8.fr f9
        have rc9 := rc8.fr f9
        have hjl : j < cs1.length := by
          rcases Nat.lt_or_ge j cs1.length with q | q
          · exact q
          · rw [List.getElem?_eq_none q] at g1; cases g1
        try simp (disch := first | assumption | omega | (apply At.mk; with_unfolding_all rfl)) only [↓go_eq, ↓ent_eq, Mv, NilC_at, Fld_at, add_mk, Nat.zero_add, Nat.add_zero, Add64, Sub64, Mul64, Quo64, Rem64, Neg64, Cvt64, CvtU8, CvtU16, CvtU32, CvtU64, AddU64, SubU64, MulU64, Shr64, Shr_u8, Shr_u16, Shr_u32, Shr_u64, And1, And31, And32, Eql64, Neq64, Bin_lss, Bin_leq, Bin_gtr, Bin_geq, Bin_bool_eql, Bin_bool_neq, Bin_ptr_nil_eql, Bin_ptr_nil_neq, Not_dec, Un_not, Pick_t, Pick_f, Pick_pos, Pick_neg, Gd_tt, Gd_tf, Gd_ft, Gd_ff, Gd_pos_t, Gd_neg_t, Gd_pos_f, Gd_neg_f, Gd_undef, If_t, If_f, If_pos, If_neg, CallF_eq, Max_two, Min_two, Len_rd, Len_own, Ld_blkE, Idx_rdN, Idx_ownN, Idx_rdE, Idx_ownE, IdxAE, LdA_two, Idx_at0, Ext_atE, Len_at, Int.toNat_natCast, Int.toNat_zero, Int.toNat_one, List.length_map, List.length_append, List.length_cons, List.length_nil, List.length_take, List.length_set, List.length_replicate, Bool.not_true, Bool.not_false, decide_true, decide_false, BEq.rfl, bne_self_eq_false, tf_beq, ft_beq, tf_bne, ft_bne, not_true_eq_false, not_false_eq_true, app]
        refine S9.has (by omega) (by omega) (fun z hz => (hC z hz).sm (by omega)) rc9 fun h10 f10 => ?_
        rw [decide_eq_true ((has_iff hC).2 ⟨d, List.mem_of_getElem? g1, g2⟩)]
        try simp (disch := first | assumption | omega | (apply At.mk; with_unfolding_all rfl)) only [↓go_eq, ↓ent_eq, Mv, NilC_at, Fld_at, add_mk, Nat.zero_add, Nat.add_zero, Add64, Sub64, Mul64, Quo64, Rem64, Neg64, Cvt64, CvtU8, CvtU16, CvtU32, CvtU64, AddU64, SubU64, MulU64, Shr64, Shr_u8, Shr_u16, Shr_u32, Shr_u64, And1, And31, And32, Eql64, Neq64, Bin_lss, Bin_leq, Bin_gtr, Bin_geq, Bin_bool_eql, Bin_bool_neq, Bin_ptr_nil_eql, Bin_ptr_nil_neq, Not_dec, Un_not, Pick_t, Pick_f, Pick_pos, Pick_neg, Gd_tt, Gd_tf, Gd_ft, Gd_ff, Gd_pos_t, Gd_neg_t, Gd_pos_f, Gd_neg_f, Gd_undef, If_t, If_f, If_pos, If_neg, CallF_eq, Max_two, Min_two, Len_rd, Len_own, Ld_blkE, Idx_rdN, Idx_ownN, Idx_rdE, Idx_ownE, IdxAE, LdA_two, Idx_at0, Ext_atE, Len_at, Int.toNat_natCast, Int.toNat_zero, Int.toNat_one, List.length_map, List.length_append, List.length_cons, List.length_nil, List.length_take, List.length_set, List.length_replicate, Bool.not_true, Bool.not_false, decide_true, decide_false, BEq.rfl, bne_self_eq_false, tf_beq, ft_beq, tf_bne, ft_bne, not_true_eq_false, not_false_eq_true, app]
        refine (S9.fr f10).remove (by omega) (by omega) hC (rc9.fr f10) (fun j' d' q1 q2 q3 u' i' h11 S11 f11 => ?_) (fun hno => absurd g2 (hno d (List.mem_of_getElem? g1))) (.inl ⟨j, d, g1, g2, g3⟩)
        have ej : j' = j := by
          rcases Nat.lt_trichotomy j' j with q | q | q
          · exact absurd q2 (g3 j' d' q q1)
          · exact q
          · exact absurd g2 (q3 j d q g1)
        subst ej
        have o11 := (o9.fr f10 (by simp)).fr f11 fun b hb hm => by have := hS b hm; have := hb9 b hb; omega
        have b11 := ((b8.fr f9 (by simp)).fr f10 (by simp)).fr f11 hfS
        have f411 : Fr [] h4 h11 := ((f48.trans f9).trans f10).trans' f11 fun b hb => .inr (hS2 b hb)
        have hlen11 := S11.plen
        have hol11 := o11.len
        have hown11 := o11.own
        have hel : (cs1.eraseIdx j').length = cs1.length - 1 := List.length_eraseIdx_of_lt hjl
        try simp (disch := first | assumption | omega | (apply At.mk; with_unfolding_all rfl)) only [↓go_eq, ↓ent_eq, Mv, NilC_at, Fld_at, add_mk, Nat.zero_add, Nat.add_zero, Add64, Sub64, Mul64, Quo64, Rem64, Neg64, Cvt64, CvtU8, CvtU16, CvtU32, CvtU64, AddU64, SubU64, MulU64, Shr64, Shr_u8, Shr_u16, Shr_u32, Shr_u64, And1, And31, And32, Eql64, Neq64, Bin_lss, Bin_leq, Bin_gtr, Bin_geq, Bin_bool_eql, Bin_bool_neq, Bin_ptr_nil_eql, Bin_ptr_nil_neq, Not_dec, Un_not, Pick_t, Pick_f, Pick_pos, Pick_neg, Gd_tt, Gd_tf, Gd_ft, Gd_ff, Gd_pos_t, Gd_neg_t, Gd_pos_f, Gd_neg_f, Gd_undef, If_t, If_f, If_pos, If_neg, CallF_eq, Max_two, Min_two, Len_rd, Len_own, Ld_blkE, Idx_rdN, Idx_ownN, Idx_rdE, Idx_ownE, IdxAE, LdA_two, Idx_at0, Ext_atE, Len_at, Int.toNat_natCast, Int.toNat_zero, Int.toNat_one, List.length_map, List.length_append, List.length_cons, List.length_nil, List.length_take, List.length_set, List.length_replicate, Bool.not_true, Bool.not_false, decide_true, decide_false, BEq.rfl, bne_self_eq_false, tf_beq, ft_beq, tf_bne, ft_bne, not_true_eq_false, not_false_eq_true, app]
        refine len_q S11.st ?_
        rw [hlen11, hel]
        have hno : ¬ (((cs1.length - 1 : Nat) : Int) ≠ ((cs1.length - 1 : Nat) : Int)) := fun q => q rfl
        rw [hel] at hol11
        try simp (disch := first | assumption | omega | (apply At.mk; with_unfolding_all rfl)) only [hol11, ↓go_eq, ↓ent_eq, Mv, NilC_at, Fld_at, add_mk, Nat.zero_add, Nat.add_zero, Add64, Sub64, Mul64, Quo64, Rem64, Neg64, Cvt64, CvtU8, CvtU16, CvtU32, CvtU64, AddU64, SubU64, MulU64, Shr64, Shr_u8, Shr_u16, Shr_u32, Shr_u64, And1, And31, And32, Eql64, Neq64, Bin_lss, Bin_leq, Bin_gtr, Bin_geq, Bin_bool_eql, Bin_bool_neq, Bin_ptr_nil_eql, Bin_ptr_nil_neq, Not_dec, Un_not, Pick_t, Pick_f, Pick_pos, Pick_neg, Gd_tt, Gd_tf, Gd_ft, Gd_ff, Gd_pos_t, Gd_neg_t, Gd_pos_f, Gd_neg_f, Gd_undef, If_t, If_f, If_pos, If_neg, CallF_eq, Max_two, Min_two, Len_rd, Len_own, Ld_blkE, Idx_rdN, Idx_ownN, Idx_rdE, Idx_ownE, IdxAE, LdA_two, Idx_at0, Ext_atE, Len_at, Int.toNat_natCast, Int.toNat_zero, Int.toNat_one, List.length_map, List.length_append, List.length_cons, List.length_nil, List.length_take, List.length_set, List.length_replicate, Bool.not_true, Bool.not_false, decide_true, decide_false, BEq.rfl, bne_self_eq_false, tf_beq, ft_beq, tf_bne, ft_bne, not_true_eq_false, not_false_eq_true, app]
        try simp only [show (i : Int) + 1 = ((i + 1 : Nat) : Int) from by omega]
        refine hX (i + 1, cs1.eraseIdx j', v', wo.eraseIdx j', bs', u', ps.eraseIdx i') h11 ⟨by simp only; omega, o11, fun b hb => by have := hb9 b hb; omega, S11, b11, f411, by have := f9.size; have := f10.size; have := f11.size; omega, fun c hc => hsub c (List.mem_of_mem_eraseIdx hc), by simp only; omega⟩ (by simp only; omega)
      · have hno' : ¬ ∃ d ∈ cs1, SameT d C := fun ⟨d, a, b⟩ => hno d a b
        try simp (disch := first | assumption | omega | (apply At.mk; with_unfolding_all rfl)) only [↓go_eq, ↓ent_eq, Mv, NilC_at, Fld_at, add_mk, Nat.zero_add, Nat.add_zero, Add64, Sub64, Mul64, Quo64, Rem64, Neg64, Cvt64, CvtU8, CvtU16, CvtU32, CvtU64, AddU64, SubU64, MulU64, Shr64, Shr_u8, Shr_u16, Shr_u32, Shr_u64, And1, And31, And32, Eql64, Neq64, Bin_lss, Bin_leq, Bin_gtr, Bin_geq, Bin_bool_eql, Bin_bool_neq, Bin_ptr_nil_eql, Bin_ptr_nil_neq, Not_dec, Un_not, Pick_t, Pick_f, Pick_pos, Pick_neg, Gd_tt, Gd_tf, Gd_ft, Gd_ff, Gd_pos_t, Gd_neg_t, Gd_pos_f, Gd_neg_f, Gd_undef, If_t, If_f, If_pos, If_neg, CallF_eq, Max_two, Min_two, Len_rd, Len_own, Ld_blkE, Idx_rdN, Idx_ownN, Idx_rdE, Idx_ownE, IdxAE, LdA_two, Idx_at0, Ext_atE, Len_at, Int.toNat_natCast, Int.toNat_zero, Int.toNat_one, List.length_map, List.length_append, List.length_cons, List.length_nil, List.length_take, List.length_set, List.length_replicate, Bool.not_true, Bool.not_false, decide_true, decide_false, BEq.rfl, bne_self_eq_false, tf_beq, ft_beq, tf_bne, ft_bne, not_true_eq_false, not_false_eq_true, app]
        refine S8.has (by omega) (by omega) (fun z hz => (hC z hz).sm (by omega)) rc8 fun h10 f10 => ?_
        rw [decide_eq_false (fun q => hno' ((has_iff hC).1 q))]
        try simp (disch := first | assumption | omega | (apply At.mk; with_unfolding_all rfl)) only [↓go_eq, ↓ent_eq, Mv, NilC_at, Fld_at, add_mk, Nat.zero_add, Nat.add_zero, Add64, Sub64, Mul64, Quo64, Rem64, Neg64, Cvt64, CvtU8, CvtU16, CvtU32, CvtU64, AddU64, SubU64, MulU64, Shr64, Shr_u8, Shr_u16, Shr_u32, Shr_u64, And1, And31, And32, Eql64, Neq64, Bin_lss, Bin_leq, Bin_gtr, Bin_geq, Bin_bool_eql, Bin_bool_neq, Bin_ptr_nil_eql, Bin_ptr_nil_neq, Not_dec, Un_not, Pick_t, Pick_f, Pick_pos, Pick_neg, Gd_tt, Gd_tf, Gd_ft, Gd_ff, Gd_pos_t, Gd_neg_t, Gd_pos_f, Gd_neg_f, Gd_undef, If_t, If_f, If_pos, If_neg, CallF_eq, Max_two, Min_two, Len_rd, Len_own, Ld_blkE, Idx_rdN, Idx_ownN, Idx_rdE, Idx_ownE, IdxAE, LdA_two, Idx_at0, Ext_atE, Len_at, Int.toNat_natCast, Int.toNat_zero, Int.toNat_one, List.length_map, List.length_append, List.length_cons, List.length_nil, List.length_take, List.length_set, List.length_replicate, Bool.not_true, Bool.not_false, decide_true, decide_false, BEq.rfl, bne_self_eq_false, tf_beq, ft_beq, tf_bne, ft_bne, not_true_eq_false, not_false_eq_true, app]
        refine (S8.fr f10).remove (by omega) (by omega) hC (rc8.fr f10) (fun j' d' q1 q2 q3 => absurd q2 (hno d' (List.mem_of_getElem? q1))) (fun _ h11 f11 => ?_) (.inr hno)
        have f811 := f10.trans f11
        have S11 := S8.fr f811
        have o11 := oc8.fr f811 (by simp)
        have b11 := b8.fr f811 (by simp)
        have hol11 := o11.len
        have hown11 := o11.own
        have hno2 : ¬ (((cs1.length : Nat) : Int) ≠ ((cs1.length : Nat) : Int)) := fun q => q rfl
        try simp (disch := first | assumption | omega | (apply At.mk; with_unfolding_all rfl)) only [↓go_eq, ↓ent_eq, Mv, NilC_at, Fld_at, add_mk, Nat.zero_add, Nat.add_zero, Add64, Sub64, Mul64, Quo64, Rem64, Neg64, Cvt64, CvtU8, CvtU16, CvtU32, CvtU64, AddU64, SubU64, MulU64, Shr64, Shr_u8, Shr_u16, Shr_u32, Shr_u64, And1, And31, And32, Eql64, Neq64, Bin_lss, Bin_leq, Bin_gtr, Bin_geq, Bin_bool_eql, Bin_bool_neq, Bin_ptr_nil_eql, Bin_ptr_nil_neq, Not_dec, Un_not, Pick_t, Pick_f, Pick_pos, Pick_neg, Gd_tt, Gd_tf, Gd_ft, Gd_ff, Gd_pos_t, Gd_neg_t, Gd_pos_f, Gd_neg_f, Gd_undef, If_t, If_f, If_pos, If_neg, CallF_eq, Max_two, Min_two, Len_rd, Len_own, Ld_blkE, Idx_rdN, Idx_ownN, Idx_rdE, Idx_ownE, IdxAE, LdA_two, Idx_at0, Ext_atE, Len_at, Int.toNat_natCast, Int.toNat_zero, Int.toNat_one, List.length_map, List.length_append, List.length_cons, List.length_nil, List.length_take, List.length_set, List.length_replicate, Bool.not_true, Bool.not_false, decide_true, decide_false, BEq.rfl, bne_self_eq_false, tf_beq, ft_beq, tf_bne, ft_bne, not_true_eq_false, not_false_eq_true, app]
        refine len_q S11.st ?_
        rw [hplen]
        try simp (disch := first | assumption | omega | (apply At.mk; with_unfolding_all rfl)) only [hol11, ↓go_eq, ↓ent_eq, Mv, NilC_at, Fld_at, add_mk, Nat.zero_add, Nat.add_zero, Add64, Sub64, Mul64, Quo64, Rem64, Neg64, Cvt64, CvtU8, CvtU16, CvtU32, CvtU64, AddU64, SubU64, MulU64, Shr64, Shr_u8, Shr_u16, Shr_u32, Shr_u64, And1, And31, And32, Eql64, Neq64, Bin_lss, Bin_leq, Bin_gtr, Bin_geq, Bin_bool_eql, Bin_bool_neq, Bin_ptr_nil_eql, Bin_ptr_nil_neq, Not_dec, Un_not, Pick_t, Pick_f, Pick_pos, Pick_neg, Gd_tt, Gd_tf, Gd_ft, Gd_ff, Gd_pos_t, Gd_neg_t, Gd_pos_f, Gd_neg_f, Gd_undef, If_t, If_f, If_pos, If_neg, CallF_eq, Max_two, Min_two, Len_rd, Len_own, Ld_blkE, Idx_rdN, Idx_ownN, Idx_rdE, Idx_ownE, IdxAE, LdA_two, Idx_at0, Ext_atE, Len_at, Int.toNat_natCast, Int.toNat_zero, Int.toNat_one, List.length_map, List.length_append, List.length_cons, List.length_nil, List.length_take, List.length_set, List.length_replicate, Bool.not_true, Bool.not_false, decide_true, decide_false, BEq.rfl, bne_self_eq_false, tf_beq, ft_beq, tf_bne, ft_bne, not_true_eq_false, not_false_eq_true, app]
        try simp only [show (i : Int) + 1 = ((i + 1 : Nat) : Int) from by omega]
        exact hX (i + 1, cs1, ov, wo, ob, u, ps) h11 ⟨by simp only; omega, o11, hb6, S11, b11, f48.trans f811, by have := f811.size; omega, hsub, hl1⟩ (by simp only; omega)
  · have f06 := f04.trans f46
    have hps := S6.plen
    try simp (disch := first | assumption | omega | (apply At.mk; with_unfolding_all rfl)) only [↓go_eq, ↓ent_eq, Mv, NilC_at, Fld_at, add_mk, Nat.zero_add, Nat.add_zero, Add64, Sub64, Mul64, Quo64, Rem64, Neg64, Cvt64, CvtU8, CvtU16, CvtU32, CvtU64, AddU64, SubU64, MulU64, Shr64, Shr_u8, Shr_u16, Shr_u32, Shr_u64, And1, And31, And32, Eql64, Neq64, Bin_lss, Bin_leq, Bin_gtr, Bin_geq, Bin_bool_eql, Bin_bool_neq, Bin_ptr_nil_eql, Bin_ptr_nil_neq, Not_dec, Un_not, Pick_t, Pick_f, Pick_pos, Pick_neg, Gd_tt, Gd_tf, Gd_ft, Gd_ff, Gd_pos_t, Gd_neg_t, Gd_pos_f, Gd_neg_f, Gd_undef, If_t, If_f, If_pos, If_neg, CallF_eq, Max_two, Min_two, Len_rd, Len_own, Ld_blkE, Idx_rdN, Idx_ownN, Idx_rdE, Idx_ownE, IdxAE, LdA_two, Idx_at0, Ext_atE, Len_at, Int.toNat_natCast, Int.toNat_zero, Int.toNat_one, List.length_map, List.length_append, List.length_cons, List.length_nil, List.length_take, List.length_set, List.length_replicate, Bool.not_true, Bool.not_false, decide_true, decide_false, BEq.rfl, bne_self_eq_false, tf_beq, ft_beq, tf_bne, ft_bne, not_true_eq_false, not_false_eq_true, app]
    refine BldS_one rfl rfl fun h7 o7 f7 s7 => ?_
    have S7 := S6.fr f7
    have n1 : ¬ ClOk n [(n : Int) + 1] := fun q => by have := (q _ (List.mem_singleton_self _)).2.2; omega
    try simp (disch := first | assumption | omega | (apply At.mk; with_unfolding_all rfl)) only [↓go_eq, ↓ent_eq, Mv, NilC_at, Fld_at, add_mk, Nat.zero_add, Nat.add_zero, Add64, Sub64, Mul64, Quo64, Rem64, Neg64, Cvt64, CvtU8, CvtU16, CvtU32, CvtU64, AddU64, SubU64, MulU64, Shr64, Shr_u8, Shr_u16, Shr_u32, Shr_u64, And1, And31, And32, Eql64, Neq64, Bin_lss, Bin_leq, Bin_gtr, Bin_geq, Bin_bool_eql, Bin_bool_neq, Bin_ptr_nil_eql, Bin_ptr_nil_neq, Not_dec, Un_not, Pick_t, Pick_f, Pick_pos, Pick_neg, Gd_tt, Gd_tf, Gd_ft, Gd_ff, Gd_pos_t, Gd_neg_t, Gd_pos_f, Gd_neg_f, Gd_undef, If_t, If_f, If_pos, If_neg, CallF_eq, Max_two, Min_two, Len_rd, Len_own, Ld_blkE, Idx_rdN, Idx_ownN, Idx_rdE, Idx_ownE, IdxAE, LdA_two, Idx_at0, Ext_atE, Len_at, Int.toNat_natCast, Int.toNat_zero, Int.toNat_one, List.length_map, List.length_append, List.length_cons, List.length_nil, List.length_take, List.length_set, List.length_replicate, Bool.not_true, Bool.not_false, decide_true, decide_false, BEq.rfl, bne_self_eq_false, tf_beq, ft_beq, tf_bne, ft_bne, not_true_eq_false, not_false_eq_true, app]
    refine rup_Store_Has.spec (c := [(n : Int) + 1]) (by omega) (by simp) (fun z hz => by simp at hz; subst hz; exact ⟨by omega, by omega⟩) (by rw [hps]; omega) S7.peach S7.st o7.rd fun h8 f8 => ?_
    rw [decide_eq_false (fun q => n1 q.1)]
    have S8 := S7.fr f8
    try simp (disch := first | assumption | omega | (apply At.mk; with_unfolding_all rfl)) only [↓go_eq, ↓ent_eq, Mv, NilC_at, Fld_at, add_mk, Nat.zero_add, Nat.add_zero, Add64, Sub64, Mul64, Quo64, Rem64, Neg64, Cvt64, CvtU8, CvtU16, CvtU32, CvtU64, AddU64, SubU64, MulU64, Shr64, Shr_u8, Shr_u16, Shr_u32, Shr_u64, And1, And31, And32, Eql64, Neq64, Bin_lss, Bin_leq, Bin_gtr, Bin_geq, Bin_bool_eql, Bin_bool_neq, Bin_ptr_nil_eql, Bin_ptr_nil_neq, Not_dec, Un_not, Pick_t, Pick_f, Pick_pos, Pick_neg, Gd_tt, Gd_tf, Gd_ft, Gd_ff, Gd_pos_t, Gd_neg_t, Gd_pos_f, Gd_neg_f, Gd_undef, If_t, If_f, If_pos, If_neg, CallF_eq, Max_two, Min_two, Len_rd, Len_own, Ld_blkE, Idx_rdN, Idx_ownN, Idx_rdE, Idx_ownE, IdxAE, LdA_two, Idx_at0, Ext_atE, Len_at, Int.toNat_natCast, Int.toNat_zero, Int.toNat_one, List.length_map, List.length_append, List.length_cons, List.length_nil, List.length_take, List.length_set, List.length_replicate, Bool.not_true, Bool.not_false, decide_true, decide_false, BEq.rfl, bne_self_eq_false, tf_beq, ft_beq, tf_bne, ft_bne, not_true_eq_false, not_false_eq_true, app]
    refine BldS_one rfl rfl fun h9 o9 f9 s9 => ?_
    have S9 := S8.fr f9
    have n2 : ¬ ClOk n [0] := fun q => (q 0 (List.mem_singleton_self _)).1 rfl
    try simp (disch := first | assumption | omega | (apply At.mk; with_unfolding_all rfl)) only [↓go_eq, ↓ent_eq, Mv, NilC_at, Fld_at, add_mk, Nat.zero_add, Nat.add_zero, Add64, Sub64, Mul64, Quo64, Rem64, Neg64, Cvt64, CvtU8, CvtU16, CvtU32, CvtU64, AddU64, SubU64, MulU64, Shr64, Shr_u8, Shr_u16, Shr_u32, Shr_u64, And1, And31, And32, Eql64, Neq64, Bin_lss, Bin_leq, Bin_gtr, Bin_geq, Bin_bool_eql, Bin_bool_neq, Bin_ptr_nil_eql, Bin_ptr_nil_neq, Not_dec, Un_not, Pick_t, Pick_f, Pick_pos, Pick_neg, Gd_tt, Gd_tf, Gd_ft, Gd_ff, Gd_pos_t, Gd_neg_t, Gd_pos_f, Gd_neg_f, Gd_undef, If_t, If_f, If_pos, If_neg, CallF_eq, Max_two, Min_two, Len_rd, Len_own, Ld_blkE, Idx_rdN, Idx_ownN, Idx_rdE, Idx_ownE, IdxAE, LdA_two, Idx_at0, Ext_atE, Len_at, Int.toNat_natCast, Int.toNat_zero, Int.toNat_one, List.length_map, List.length_append, List.length_cons, List.length_nil, List.length_take, List.length_set, List.length_replicate, Bool.not_true, Bool.not_false, decide_true, decide_false, BEq.rfl, bne_self_eq_false, tf_beq, ft_beq, tf_bne, ft_bne, not_true_eq_false, not_false_eq_true, app]
    refine rup_Store_Remove.spec (c := [0]) (by omega) (by simp) (fun z hz => by simp at hz; subst hz; exact ⟨by omega, by omega⟩) (by rw [hps]; omega) S9.peach S9.st o9.rd (fun q => absurd q.1 n2) fun _ h10 f10 => ?_
    have S10 := S9.fr f10
    have f610 := ((f7.trans f8).trans f9).trans f10
    have b10 := b6.fr f610 (by simp)
    try simp (disch := first | assumption | omega | (apply At.mk; with_unfolding_all rfl)) only [↓go_eq, ↓ent_eq, Mv, NilC_at, Fld_at, add_mk, Nat.zero_add, Nat.add_zero, Add64, Sub64, Mul64, Quo64, Rem64, Neg64, Cvt64, CvtU8, CvtU16, CvtU32, CvtU64, AddU64, SubU64, MulU64, Shr64, Shr_u8, Shr_u16, Shr_u32, Shr_u64, And1, And31, And32, Eql64, Neq64, Bin_lss, Bin_leq, Bin_gtr, Bin_geq, Bin_bool_eql, Bin_bool_neq, Bin_ptr_nil_eql, Bin_ptr_nil_neq, Not_dec, Un_not, Pick_t, Pick_f, Pick_pos, Pick_neg, Gd_tt, Gd_tf, Gd_ft, Gd_ff, Gd_pos_t, Gd_neg_t, Gd_pos_f, Gd_neg_f, Gd_undef, If_t, If_f, If_pos, If_neg, CallF_eq, Max_two, Min_two, Len_rd, Len_own, Ld_blkE, Idx_rdN, Idx_ownN, Idx_rdE, Idx_ownE, IdxAE, LdA_two, Idx_at0, Ext_atE, Len_at, Int.toNat_natCast, Int.toNat_zero, Int.toNat_one, List.length_map, List.length_append, List.length_cons, List.length_nil, List.length_take, List.length_set, List.length_replicate, Bool.not_true, Bool.not_false, decide_true, decide_false, BEq.rfl, bne_self_eq_false, tf_beq, ft_beq, tf_bne, ft_bne, not_true_eq_false, not_false_eq_true, app]
    refine BldS_one rfl rfl fun h11 o11 f11 s11 => ?_
    have S11 := S10.fr f11
    have n3 : ¬ ClOk n [-(n : Int) - 1] := fun q => by have := (q _ (List.mem_singleton_self _)).2.1; omega
    have z11 := (f46.trans f610).trans f11
    try simp (disch := first | assumption | omega | (apply At.mk; with_unfolding_all rfl)) only [↓go_eq, ↓ent_eq, Mv, NilC_at, Fld_at, add_mk, Nat.zero_add, Nat.add_zero, Add64, Sub64, Mul64, Quo64, Rem64, Neg64, Cvt64, CvtU8, CvtU16, CvtU32, CvtU64, AddU64, SubU64, MulU64, Shr64, Shr_u8, Shr_u16, Shr_u32, Shr_u64, And1, And31, And32, Eql64, Neq64, Bin_lss, Bin_leq, Bin_gtr, Bin_geq, Bin_bool_eql, Bin_bool_neq, Bin_ptr_nil_eql, Bin_ptr_nil_neq, Not_dec, Un_not, Pick_t, Pick_f, Pick_pos, Pick_neg, Gd_tt, Gd_tf, Gd_ft, Gd_ff, Gd_pos_t, Gd_neg_t, Gd_pos_f, Gd_neg_f, Gd_undef, If_t, If_f, If_pos, If_neg, CallF_eq, Max_two, Min_two, Len_rd, Len_own, Ld_blkE, Idx_rdN, Idx_ownN, Idx_rdE, Idx_ownE, IdxAE, LdA_two, Idx_at0, Ext_atE, Len_at, Int.toNat_natCast, Int.toNat_zero, Int.toNat_one, List.length_map, List.length_append, List.length_cons, List.length_nil, List.length_take, List.length_set, List.length_replicate, Bool.not_true, Bool.not_false, decide_true, decide_false, BEq.rfl, bne_self_eq_false, tf_beq, ft_beq, tf_bne, ft_bne, not_true_eq_false, not_false_eq_true, app]
    refine rup_Store_Add.spec (c := [-(n : Int) - 1]) (by omega) (by simp) (fun z hz => by simp at hz; subst hz; exact ⟨by omega, by omega⟩) (by rw [hps]; omega) S11.st z11.size o11.rd (fun q => absurd q n3) fun _ h12 f12 => ?_
    have S12 := S11.fr f12
    have f612 := (f610.trans f11).trans f12
    have o12 := o6.fr f612 (by simp)
    have hol := o12.len
    have hown := o12.own
    try simp (disch := first | assumption | omega | (apply At.mk; with_unfolding_all rfl)) only [↓go_eq, ↓ent_eq, Mv, NilC_at, Fld_at, add_mk, Nat.zero_add, Nat.add_zero, Add64, Sub64, Mul64, Quo64, Rem64, Neg64, Cvt64, CvtU8, CvtU16, CvtU32, CvtU64, AddU64, SubU64, MulU64, Shr64, Shr_u8, Shr_u16, Shr_u32, Shr_u64, And1, And31, And32, Eql64, Neq64, Bin_lss, Bin_leq, Bin_gtr, Bin_geq, Bin_bool_eql, Bin_bool_neq, Bin_ptr_nil_eql, Bin_ptr_nil_neq, Not_dec, Un_not, Pick_t, Pick_f, Pick_pos, Pick_neg, Gd_tt, Gd_tf, Gd_ft, Gd_ff, Gd_pos_t, Gd_neg_t, Gd_pos_f, Gd_neg_f, Gd_undef, If_t, If_f, If_pos, If_neg, CallF_eq, Max_two, Min_two, Len_rd, Len_own, Ld_blkE, Idx_rdN, Idx_ownN, Idx_rdE, Idx_ownE, IdxAE, LdA_two, Idx_at0, Ext_atE, Len_at, Int.toNat_natCast, Int.toNat_zero, Int.toNat_one, List.length_map, List.length_append, List.length_cons, List.length_nil, List.length_take, List.length_set, List.length_replicate, Bool.not_true, Bool.not_false, decide_true, decide_false, BEq.rfl, bne_self_eq_false, tf_beq, ft_beq, tf_bne, ft_bne, not_true_eq_false, not_false_eq_true, app]
    refine len_q S12.st ?_
    rw [hps]
    try simp (disch := first | assumption | omega | (apply At.mk; with_unfolding_all rfl)) only [hol, ↓go_eq, ↓ent_eq, Mv, NilC_at, Fld_at, add_mk, Nat.zero_add, Nat.add_zero, Add64, Sub64, Mul64, Quo64, Rem64, Neg64, Cvt64, CvtU8, CvtU16, CvtU32, CvtU64, AddU64, SubU64, MulU64, Shr64, Shr_u8, Shr_u16, Shr_u32, Shr_u64, And1, And31, And32, Eql64, Neq64, Bin_lss, Bin_leq, Bin_gtr, Bin_geq, Bin_bool_eql, Bin_bool_neq, Bin_ptr_nil_eql, Bin_ptr_nil_neq, Not_dec, Un_not, Pick_t, Pick_f, Pick_pos, Pick_neg, Gd_tt, Gd_tf, Gd_ft, Gd_ff, Gd_pos_t, Gd_neg_t, Gd_pos_f, Gd_neg_f, Gd_undef, If_t, If_f, If_pos, If_neg, CallF_eq, Max_two, Min_two, Len_rd, Len_own, Ld_blkE, Idx_rdN, Idx_ownN, Idx_rdE, Idx_ownE, IdxAE, LdA_two, Idx_at0, Ext_atE, Len_at, Int.toNat_natCast, Int.toNat_zero, Int.toNat_one, List.length_map, List.length_append, List.length_cons, List.length_nil, List.length_take, List.length_set, List.length_replicate, Bool.not_true, Bool.not_false, decide_true, decide_false, BEq.rfl, bne_self_eq_false, tf_beq, ft_beq, tf_bne, ft_bne, not_true_eq_false, not_false_eq_true, app]
    exact hk h12 (f06.trans f612)
theorem bradawllaw07_RupRemoves.law {h : Heap} {a0 : Int × List (List Int)} {cs : Array Value} {a1 : List (List Int)} {v1 : Value} (r0 : rRaw.is h a0 cs.toList) (r1 : (rSlice (rSlice (rInt .i16) 1) 1).is h a1 [v1]) :
    CallH Try.prog bradawllaw07_RupRemoves.id #[.agg cs, v1] (fun v h' => v = .bool true ∧ Fr [] h h') h := by
  obtain ⟨v, ws, rfl, h1, h2, h3⟩ := raw_arg r0
  obtain ⟨⟨vs, hr⟩, hc⟩ := rdx_arg r1
  exact bradawllaw07_RupRemoves.spec h1 h2 (fun c hm => (hc c hm).1) (rlen r1) h3 hr fun h' f => ⟨rfl, f⟩
end Go.Proofs.Yteahhifkkjfhoaa
