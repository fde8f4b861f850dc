/- The law RupOrders. No condition but that the arguments lie in memory, laid by Go. -/
import Derived.Test.YteahhifkkjfhoaaRu9
import Derived.Test.YteahhifkkjfhoaaMm
namespace Go.Proofs.Yteahhifkkjfhoaa
open Go.Pt
set_option linter.unusedVariables false
set_option linter.unusedSimpArgs false
/-- Clauses turned round by t. -/
def rotL (cs : List (List Int)) (t : Nat) : List (List Int) := (List.range cs.length).map fun j => cs.getD ((j + t) % cs.length) []
theorem rotL_len (cs : List (List Int)) (t : Nat) : (rotL cs t).length = cs.length := by simp [rotL]
theorem rotL_at {cs : List (List Int)} {t i : Nat} {c : List Int} (h : (rotL cs t)[i]? = some c) : i < cs.length ∧ cs[(i + t) % cs.length]? = some c := by
  have hi : i < cs.length := by
    rcases Nat.lt_or_ge i (rotL cs t).length with q | q
    · rwa [rotL_len] at q
    · rw [List.getElem?_eq_none q] at h; cases h
  refine ⟨hi, ?_⟩
  have hm := Nat.mod_lt (i + t) (show 0 < cs.length by omega)
  unfold rotL at h
  rw [List.getElem?_map, List.getElem?_range hi] at h
  rw [List.getElem?_eq_getElem hm]
  simpa [List.getD_eq_getElem?_getD, hm] using h
theorem rotL_mem {cs : List (List Int)} {t : Nat} {z : List Int} : z ∈ rotL cs t ↔ z ∈ cs := by
  constructor
  · intro h
    obtain ⟨i, hi⟩ := List.getElem?_of_mem h
    exact List.mem_of_getElem? (rotL_at hi).2
  · intro hz
    obtain ⟨j, hj, e⟩ := List.getElem_of_mem hz
    unfold rotL
    refine List.mem_map.2 ⟨(j + (cs.length - t % cs.length)) % cs.length, List.mem_range.2 (Nat.mod_lt _ (by omega)), ?_⟩
    have hm := Nat.mod_lt t (show 0 < cs.length by omega)
    have e2 : ((j + (cs.length - t % cs.length)) % cs.length + t) % cs.length = j := by
      rw [Nat.mod_add_mod, ← Nat.add_mod_mod, show j + (cs.length - t % cs.length) + t % cs.length = j + cs.length by omega, Nat.add_mod_right, Nat.mod_eq_of_lt hj]
    rw [e2, List.getD_eq_getElem?_getD, List.getElem?_eq_getElem hj]; exact e
theorem rotL_alik (cs : List (List Int)) (t : Nat) : Alik cs (rotL cs t) := ⟨fun c h => ⟨c, rotL_mem.2 h, fun _ => Iff.rfl⟩, fun c h => ⟨c, rotL_mem.1 h, fun _ => Iff.rfl⟩⟩
set_option maxHeartbeats 8000000 in
theorem bradawllaw07_RupOrders.spec {a t : Int} {xss : List (List Int)} {ws : List Value} {v w : Value} {l : List Int} (ha : 0 ≤ a ∧ a ≤ 255) (ht : 0 ≤ t ∧ t ≤ 255) (hcl : ∀ c ∈ xss, c.length ≤ 140737488351232) (hl0 : l.length ≤ 140737488351232) {K : Ret} {h : Heap} (hv : RdX (.int .i16) h v xss ws) (hw : Rd h w (l.map (.int .i16)))
    (hk : ∀ h', Fr [] h h' → K (.bool true) h') : CallH Try.prog bradawllaw07_RupOrders.id #[.agg #[.int .u8 a, v], w, .int .u8 t] K h := by
  refine bradawllaw07_RupOrders.ok ?_
  simp only [bradawllaw07_RupOrders.pt]
  rw [go_eq]
  refine New_blk fun h1 b1 f1 s1 => ?_
  have b1 : Blk h1 h.size [.int .u8 a, v] := b1
  rw [go_eq, CallF_eq]
  refine bradawllaw07_fit.spec fun h2 f2 => ?_
  have b2 := b1.fr f2 (by simp)
  rw [go_eq, Un_not, Bool.not_true, If_f, go_eq, LdA_two b2, go_eq, CallF_eq]
  refine bradawllaw02_Raw_Light.spec (m := 40) (by decide) hcl ((hv.fr f1).fr f2) fun h3 f3 => ⟨fun hL => ?_, ?_⟩
  rotate_left
  · rw [go_eq, Un_not, Bool.not_false, go_eq, Gd_tf, go_eq, Gd_tf, go_eq, Gd_tf, go_eq, Pick_t, If_t]
    exact hk h3 ((f1.trans f2).trans f3)
  obtain ⟨hL1, hL2⟩ := hL
  have b3 := b2.fr f3 (by simp)
  have f03 := (f1.trans f2).trans f3
  have hw3 := hw.fr f03
  rw [go_eq, Un_not, Bool.not_true, go_eq, Gd_ff, Mv, go_eq, Gd_ff, Len_rd hw3, go_eq, Gd_ff, Bin_gtr, go_eq, Pick_f, List.length_map]
  by_cases c1 : ((l.length : Nat) : Int) > 20
  · rw [If_pos c1]
    exact hk h3 f03
  rw [If_neg c1]
  have hI : Mem ⟨h3, h.size, a, v, xss, ws, 12, 6⟩ [] h3 := ⟨Fr.refl _ _, b3, hv.fr f03, ⟨ha, by show 12 ≤ 1000; decide, by show 6 ≤ 1000; decide, by show xss.length ≤ _; omega, fun c hc => by have := hL2 c hc; omega⟩, fun i x hx => (by cases hx), fun i j x y hx => (by cases hx)⟩
  refine Jn_fn (σ := PR) (fun x => [w, .int .u8 t, ptr x.b1, ptr x.b2]) (fun x h' => Pair ⟨h3, h.size, a, v, xss, ws, 12, 6⟩ x h') ?_ ?_
  · intro J hJ
    repeat' first
      | refine Mem.new hI fun b h hI => ?_
      | refine Mem.call hI fun u b0 ps h hI hu => ?_
      | refine Mem.lda hI ?_
      | refine Mem.sta0 hI (by assumption) fun h hI => ?_
      | refine Mem.sta1 hI (by assumption) fun h hI => ?_
      | refine Mem.sta2 hI (by assumption) fun h hI => ?_
      | refine Mem.sta3 hI (by assumption) fun h hI => ?_
      | refine And.intro ?_ ?_
      | exact hJ ⟨_, _, _, _, _, _, _, _⟩ _ (Mem.pair hI (by first | exact it0 | exact it1 | exact it2 | exact it3) (by first | exact it0 | exact it1 | exact it2 | exact it3) (by first | exact it0 | exact it1 | exact it2 | exact it3) (by first | exact it0 | exact it1 | exact it2 | exact it3) (by decide) (by decide))
  rintro ⟨fb, gb, u1, c1', p1, u2, c2', p2⟩ h4 ⟨f4, w1, w2, ⟨N1, o1⟩, ⟨N2, o2⟩, e1, e2, lo, ⟨d0, d1, d2, d3, d4⟩, dd⟩
  simp only [MP.k, MP.cs] at *
  have hok := rawF_ok (a % (((12 : Nat) : Int) + 1)).toNat 6 xss
  have hlen := rawF_len (a % (((12 : Nat) : Int) + 1)).toNat 6 xss
  have hclw := rawF_cl (a % (((12 : Nat) : Int) + 1)).toNat 6 xss
  have hn : (a % (((12 : Nat) : Int) + 1)).toNat ≤ 12 := by omega
  generalize rawF (a % (((12 : Nat) : Int) + 1)).toNat 6 xss = cs at *
  generalize (a % (((12 : Nat) : Int) + 1)).toNat = n at *
  have f04 := f03.trans f4
  have rF4 := o1.rdl
  rw [e1] at rF4
  have og4 := o2.own
  have hc2 : ∀ b ∈ c2', b ∈ ofp c2' p2 := fun b hb => List.mem_append_left _ hb
  have hp2 : (p2.map (·.1)).length = cs.length := by have := congrArg List.length e2; simpa [cls] using this
  have hlo2 := lo.2.2.2
  obtain ⟨T, hT⟩ : ∃ T : Nat, t = T := ⟨t.toNat, by omega⟩
  subst hT
  have hrd := rF4.rd
  have hwl := rF4.len
  have w1' := w1
  try simp (disch := first | assumption | omega | (apply At.mk; with_unfolding_all rfl)) only [hwl, ↓go_eq, ↓ent_eq, Mv, NilC_at, Fld_at, add_mk, Nat.zero_add, Nat.add_zero, Add64, Sub64, Mul64, Quo64, Rem64, Neg64, Cvt64, CvtU8, CvtU16, CvtU32, CvtU64, AddU64, SubU64, MulU64, Shr64, Shr_u8, Shr_u16, Shr_u32, Shr_u64, And1, And31, And32, Eql64, Neq64, Bin_lss, Bin_leq, Bin_gtr, Bin_geq, Bin_bool_eql, Bin_bool_neq, Bin_ptr_nil_eql, Bin_ptr_nil_neq, Not_dec, Un_not, Pick_t, Pick_f, Pick_pos, Pick_neg, Gd_tt, Gd_tf, Gd_ft, Gd_ff, Gd_pos_t, Gd_neg_t, Gd_pos_f, Gd_neg_f, Gd_undef, If_t, If_f, If_pos, If_neg, CallF_eq, Max_two, Min_two, Len_rd, Len_own, Ld_blkE, Idx_rdN, Idx_ownN, Idx_rdE, Idx_ownE, IdxAE, LdA_two, Idx_at0, Ext_atE, Len_at, Int.toNat_natCast, Int.toNat_zero, Int.toNat_one, List.length_map, List.length_append, List.length_cons, List.length_nil, List.length_take, List.length_set, List.length_replicate, Bool.not_true, Bool.not_false, decide_true, decide_false, BEq.rfl, bne_self_eq_false, tf_beq, ft_beq, tf_bne, ft_bne, not_true_eq_false, not_false_eq_true, app]
  refine Lp_fn (σ := Nat × List Value) (fun s => [w, .int .u8 (T : Nat), ptr fb, ptr gb, Iv (cs.length : Nat), Iv (s.1 : Nat)])
    (fun s h' => s.1 ≤ cs.length ∧ Own h' u2 s.2 c2' ∧ s.2.length = cs.length ∧ (∀ j, j < s.1 → s.2[j]? = (p1.map (·.1))[(j + T) % cs.length]?) ∧ Fr c2' h4 h') (fun s => cs.length - s.1) (0, p2.map (·.1)) rfl (fun _ => rfl) ⟨Nat.zero_le _, og4, hp2, fun j hj => by omega, Fr.refl _ _⟩ ?_
  clear og4 hrd w1'
  rintro ⟨i, W⟩ h5 ⟨hi, o5, hWl, hWs, f5⟩ X hX
  simp only at hi o5 hWl hWs
  have b5 := w1.fr f5 (fun hm => d2 (hc2 _ hm))
  have g5 := w2.fr f5 (fun hm => d4 (hc2 _ hm))
  have oF5 := o1.frd f5 (fun b hb hm => dd b hb (hc2 _ hm))
  have rF5 := oF5.rdl
  rw [e1] at rF5
  have hrd := rF5.rd
  have f35 : Fr [] h3 h5 := f4.trans' f5 fun b hb => .inr (hlo2 b (hc2 b hb))
  by_cases c2 : (i : Int) < (cs.length : Nat)
  · have hm := Nat.mod_lt (i + T) (show 0 < cs.length by omega)
    have hg : cs[(i + T) % cs.length]? = some cs[(i + T) % cs.length] := List.getElem?_eq_getElem hm
    obtain ⟨x, ax, rx⟩ := rF5.get _ _ hg
    have ee : (((i : Int) + (T : Nat)) % ((cs.length : Nat) : Int)) = ((((i + T) % cs.length : Nat)) : Int) := by push_cast; rfl
    have hxc := rx.isCell
    have hwl3 : p1.length = cs.length := by simpa using hwl
    try simp (disch := first | assumption | omega | (apply At.mk; with_unfolding_all rfl)) only [hwl3, ee, ↓go_eq, ↓ent_eq, Mv, NilC_at, Fld_at, add_mk, Nat.zero_add, Nat.add_zero, Add64, Sub64, Mul64, Quo64, Rem64, Neg64, Cvt64, CvtU8, CvtU16, CvtU32, CvtU64, AddU64, SubU64, MulU64, Shr64, Shr_u8, Shr_u16, Shr_u32, Shr_u64, And1, And31, And32, Eql64, Neq64, Bin_lss, Bin_leq, Bin_gtr, Bin_geq, Bin_bool_eql, Bin_bool_neq, Bin_ptr_nil_eql, Bin_ptr_nil_neq, Not_dec, Un_not, Pick_t, Pick_f, Pick_pos, Pick_neg, Gd_tt, Gd_tf, Gd_ft, Gd_ff, Gd_pos_t, Gd_neg_t, Gd_pos_f, Gd_neg_f, Gd_undef, If_t, If_f, If_pos, If_neg, CallF_eq, Max_two, Min_two, Len_rd, Len_own, Ld_blkE, Idx_rdN, Idx_ownN, Idx_rdE, Idx_ownE, IdxAE, LdA_two, Idx_at0, Ext_atE, Len_at, Int.toNat_natCast, Int.toNat_zero, Int.toNat_one, List.length_map, List.length_append, List.length_cons, List.length_nil, List.length_take, List.length_set, List.length_replicate, Bool.not_true, Bool.not_false, decide_true, decide_false, BEq.rfl, bne_self_eq_false, tf_beq, ft_beq, tf_bne, ft_bne, not_true_eq_false, not_false_eq_true, app]
    refine o5.put (by omega) (by omega) hxc fun h6 o6 f6 _ => ?_
    rw [Int.toNat_natCast] at o6
    try simp (disch := first | assumption | omega | (apply At.mk; with_unfolding_all rfl)) only [↓go_eq, ↓ent_eq, Mv, NilC_at, Fld_at, add_mk, Nat.zero_add, Nat.add_zero, Add64, Sub64, Mul64, Quo64, Rem64, Neg64, Cvt64, CvtU8, CvtU16, CvtU32, CvtU64, AddU64, SubU64, MulU64, Shr64, Shr_u8, Shr_u16, Shr_u32, Shr_u64, And1, And31, And32, Eql64, Neq64, Bin_lss, Bin_leq, Bin_gtr, Bin_geq, Bin_bool_eql, Bin_bool_neq, Bin_ptr_nil_eql, Bin_ptr_nil_neq, Not_dec, Un_not, Pick_t, Pick_f, Pick_pos, Pick_neg, Gd_tt, Gd_tf, Gd_ft, Gd_ff, Gd_pos_t, Gd_neg_t, Gd_pos_f, Gd_neg_f, Gd_undef, If_t, If_f, If_pos, If_neg, CallF_eq, Max_two, Min_two, Len_rd, Len_own, Ld_blkE, Idx_rdN, Idx_ownN, Idx_rdE, Idx_ownE, IdxAE, LdA_two, Idx_at0, Ext_atE, Len_at, Int.toNat_natCast, Int.toNat_zero, Int.toNat_one, List.length_map, List.length_append, List.length_cons, List.length_nil, List.length_take, List.length_set, List.length_replicate, Bool.not_true, Bool.not_false, decide_true, decide_false, BEq.rfl, bne_self_eq_false, tf_beq, ft_beq, tf_bne, ft_bne, not_true_eq_false, not_false_eq_true, app]
    try simp only [show (i : Int) + 1 = ((i + 1 : Nat) : Int) from by omega]
    refine hX (i + 1, W.set i x) h6 ⟨by simp only; omega, o6, by simp only [List.length_set]; exact hWl, fun j hj => ?_, f5.trans f6⟩ (by simp only; omega)
    simp only at hj ⊢
    by_cases e : j = i
    · subst e
      rw [List.getElem?_set_self (by omega)]; exact ax.out.symm
    · rw [List.getElem?_set_ne (fun q => e q.symm)]
      exact hWs j (by omega)
  clear hX
  have ei : i = cs.length := by omega
  subst ei
  have rG5 : RdL h5 u2 (rotL cs T) W := by
    refine ⟨o5.rd, by rw [rotL_len]; exact hWl, fun i c hc => ?_⟩
    obtain ⟨q1, q2⟩ := rotL_at hc
    obtain ⟨x, ax, rx⟩ := rF5.get _ _ q2
    exact ⟨x, ⟨by rw [hWs i q1]; exact ax.out⟩, rx⟩
  have hok2 : FOk n (rotL cs T) := fun c hc => hok c (rotL_mem.1 hc)
  have hclw2 : ∀ c ∈ rotL cs T, c.length ≤ 6 := fun c hc => hclw c (rotL_mem.1 hc)
  have hal := rotL_alik cs T
  have hl2 := rotL_len cs T
  generalize rotL cs T = ds at *
  have f05 := f03.trans f35
  have hw5 := hw3.fr f35
  try simp (disch := first | assumption | omega | (apply At.mk; with_unfolding_all rfl)) only [↓go_eq, ↓ent_eq, Mv, NilC_at, Fld_at, add_mk, Nat.zero_add, Nat.add_zero, Add64, Sub64, Mul64, Quo64, Rem64, Neg64, Cvt64, CvtU8, CvtU16, CvtU32, CvtU64, AddU64, SubU64, MulU64, Shr64, Shr_u8, Shr_u16, Shr_u32, Shr_u64, And1, And31, And32, Eql64, Neq64, Bin_lss, Bin_leq, Bin_gtr, Bin_geq, Bin_bool_eql, Bin_bool_neq, Bin_ptr_nil_eql, Bin_ptr_nil_neq, Not_dec, Un_not, Pick_t, Pick_f, Pick_pos, Pick_neg, Gd_tt, Gd_tf, Gd_ft, Gd_ff, Gd_pos_t, Gd_neg_t, Gd_pos_f, Gd_neg_f, Gd_undef, If_t, If_f, If_pos, If_neg, CallF_eq, Max_two, Min_two, Len_rd, Len_own, Ld_blkE, Idx_rdN, Idx_ownN, Idx_rdE, Idx_ownE, IdxAE, LdA_two, Idx_at0, Ext_atE, Len_at, Int.toNat_natCast, Int.toNat_zero, Int.toNat_one, List.length_map, List.length_append, List.length_cons, List.length_nil, List.length_take, List.length_set, List.length_replicate, Bool.not_true, Bool.not_false, decide_true, decide_false, BEq.rfl, bne_self_eq_false, tf_beq, ft_beq, tf_bne, ft_bne, not_true_eq_false, not_false_eq_true, app]
  refine Jn_fn (σ := Nat × Value × List Nat × Ps × Nat × Value × List Nat × Ps × Nat × Nat) (fun s => [w, ptr fb, ptr s.1, ptr s.2.2.2.2.1]) (fun s h' => StF h' s.1 n s.2.2.2.2.2.2.2.2.1 cs s.2.1 s.2.2.1 s.2.2.2.1 ∧ StF h' s.2.2.2.2.1 n s.2.2.2.2.2.2.2.2.2 ds s.2.2.2.2.2.1 s.2.2.2.2.2.2.1 s.2.2.2.2.2.2.2.1 ∧ Fr [] h5 h') ?_ ?_
  · intro J hJ
    refine ⟨?_, ?_⟩
    · try simp (disch := first | assumption | omega | (apply At.mk; with_unfolding_all rfl)) only [↓go_eq, ↓ent_eq, Mv, NilC_at, Fld_at, add_mk, Nat.zero_add, Nat.add_zero, Add64, Sub64, Mul64, Quo64, Rem64, Neg64, Cvt64, CvtU8, CvtU16, CvtU32, CvtU64, AddU64, SubU64, MulU64, Shr64, Shr_u8, Shr_u16, Shr_u32, Shr_u64, And1, And31, And32, Eql64, Neq64, Bin_lss, Bin_leq, Bin_gtr, Bin_geq, Bin_bool_eql, Bin_bool_neq, Bin_ptr_nil_eql, Bin_ptr_nil_neq, Not_dec, Un_not, Pick_t, Pick_f, Pick_pos, Pick_neg, Gd_tt, Gd_tf, Gd_ft, Gd_ff, Gd_pos_t, Gd_neg_t, Gd_pos_f, Gd_neg_f, Gd_undef, If_t, If_f, If_pos, If_neg, CallF_eq, Max_two, Min_two, Len_rd, Len_own, Ld_blkE, Idx_rdN, Idx_ownN, Idx_rdE, Idx_ownE, IdxAE, LdA_two, Idx_at0, Ext_atE, Len_at, Int.toNat_natCast, Int.toNat_zero, Int.toNat_one, List.length_map, List.length_append, List.length_cons, List.length_nil, List.length_take, List.length_set, List.length_replicate, Bool.not_true, Bool.not_false, decide_true, decide_false, BEq.rfl, bne_self_eq_false, tf_beq, ft_beq, tf_bne, ft_bne, not_true_eq_false, not_false_eq_true, app]
      refine bradawllaw07_Store.spec (by omega) hok (by omega) (fun c hc => by have := hclw c hc; omega) rF5 fun sb u b0 ps h6 S6 hcs6 f6 => ?_
      have g6 := g5.fr f6 (by simp)
      try simp (disch := first | assumption | omega | (apply At.mk; with_unfolding_all rfl)) only [↓go_eq, ↓ent_eq, Mv, NilC_at, Fld_at, add_mk, Nat.zero_add, Nat.add_zero, Add64, Sub64, Mul64, Quo64, Rem64, Neg64, Cvt64, CvtU8, CvtU16, CvtU32, CvtU64, AddU64, SubU64, MulU64, Shr64, Shr_u8, Shr_u16, Shr_u32, Shr_u64, And1, And31, And32, Eql64, Neq64, Bin_lss, Bin_leq, Bin_gtr, Bin_geq, Bin_bool_eql, Bin_bool_neq, Bin_ptr_nil_eql, Bin_ptr_nil_neq, Not_dec, Un_not, Pick_t, Pick_f, Pick_pos, Pick_neg, Gd_tt, Gd_tf, Gd_ft, Gd_ff, Gd_pos_t, Gd_neg_t, Gd_pos_f, Gd_neg_f, Gd_undef, If_t, If_f, If_pos, If_neg, CallF_eq, Max_two, Min_two, Len_rd, Len_own, Ld_blkE, Idx_rdN, Idx_ownN, Idx_rdE, Idx_ownE, IdxAE, LdA_two, Idx_at0, Ext_atE, Len_at, Int.toNat_natCast, Int.toNat_zero, Int.toNat_one, List.length_map, List.length_append, List.length_cons, List.length_nil, List.length_take, List.length_set, List.length_replicate, Bool.not_true, Bool.not_false, decide_true, decide_false, BEq.rfl, bne_self_eq_false, tf_beq, ft_beq, tf_bne, ft_bne, not_true_eq_false, not_false_eq_true, app]
      refine bradawllaw07_Store.spec (by omega) hok2 (by omega) (fun c hc => by have := hclw2 c hc; omega) (rG5.fr f6) fun sb' u' b0' ps' h7 S7 hcs7 f7 => ?_
      try simp (disch := first | assumption | omega | (apply At.mk; with_unfolding_all rfl)) only [↓go_eq, ↓ent_eq, Mv, NilC_at, Fld_at, add_mk, Nat.zero_add, Nat.add_zero, Add64, Sub64, Mul64, Quo64, Rem64, Neg64, Cvt64, CvtU8, CvtU16, CvtU32, CvtU64, AddU64, SubU64, MulU64, Shr64, Shr_u8, Shr_u16, Shr_u32, Shr_u64, And1, And31, And32, Eql64, Neq64, Bin_lss, Bin_leq, Bin_gtr, Bin_geq, Bin_bool_eql, Bin_bool_neq, Bin_ptr_nil_eql, Bin_ptr_nil_neq, Not_dec, Un_not, Pick_t, Pick_f, Pick_pos, Pick_neg, Gd_tt, Gd_tf, Gd_ft, Gd_ff, Gd_pos_t, Gd_neg_t, Gd_pos_f, Gd_neg_f, Gd_undef, If_t, If_f, If_pos, If_neg, CallF_eq, Max_two, Min_two, Len_rd, Len_own, Ld_blkE, Idx_rdN, Idx_ownN, Idx_rdE, Idx_ownE, IdxAE, LdA_two, Idx_at0, Ext_atE, Len_at, Int.toNat_natCast, Int.toNat_zero, Int.toNat_one, List.length_map, List.length_append, List.length_cons, List.length_nil, List.length_take, List.length_set, List.length_replicate, Bool.not_true, Bool.not_false, decide_true, decide_false, BEq.rfl, bne_self_eq_false, tf_beq, ft_beq, tf_bne, ft_bne, not_true_eq_false, not_false_eq_true, app]
      exact hJ (sb, u, b0, ps, sb', u', b0', ps', h5.size, h6.size) h7 ⟨⟨S6.fr f7, hcs6, by omega, fun c hc => by have := hclw c hc; omega, hok⟩, ⟨S7, hcs7, by omega, fun c hc => by have := hclw2 c hc; omega, hok2⟩, f6.trans f7⟩
    · try simp (disch := first | assumption | omega | (apply At.mk; with_unfolding_all rfl)) only [↓go_eq, ↓ent_eq, Mv, NilC_at, Fld_at, add_mk, Nat.zero_add, Nat.add_zero, Add64, Sub64, Mul64, Quo64, Rem64, Neg64, Cvt64, CvtU8, CvtU16, CvtU32, CvtU64, AddU64, SubU64, MulU64, Shr64, Shr_u8, Shr_u16, Shr_u32, Shr_u64, And1, And31, And32, Eql64, Neq64, Bin_lss, Bin_leq, Bin_gtr, Bin_geq, Bin_bool_eql, Bin_bool_neq, Bin_ptr_nil_eql, Bin_ptr_nil_neq, Not_dec, Un_not, Pick_t, Pick_f, Pick_pos, Pick_neg, Gd_tt, Gd_tf, Gd_ft, Gd_ff, Gd_pos_t, Gd_neg_t, Gd_pos_f, Gd_neg_f, Gd_undef, If_t, If_f, If_pos, If_neg, CallF_eq, Max_two, Min_two, Len_rd, Len_own, Ld_blkE, Idx_rdN, Idx_ownN, Idx_rdE, Idx_ownE, IdxAE, LdA_two, Idx_at0, Ext_atE, Len_at, Int.toNat_natCast, Int.toNat_zero, Int.toNat_one, List.length_map, List.length_append, List.length_cons, List.length_nil, List.length_take, List.length_set, List.length_replicate, Bool.not_true, Bool.not_false, decide_true, decide_false, BEq.rfl, bne_self_eq_false, tf_beq, ft_beq, tf_bne, ft_bne, not_true_eq_false, not_false_eq_true, app]
      refine bradawllaw07_Store.spec (by omega) hok (by omega) (fun c hc => by have := hclw c hc; omega) rF5 fun sb u b0 ps h6 S6 hcs6 f6 => ?_
      try simp (disch := first | assumption | omega | (apply At.mk; with_unfolding_all rfl)) only [↓go_eq, ↓ent_eq, Mv, NilC_at, Fld_at, add_mk, Nat.zero_add, Nat.add_zero, Add64, Sub64, Mul64, Quo64, Rem64, Neg64, Cvt64, CvtU8, CvtU16, CvtU32, CvtU64, AddU64, SubU64, MulU64, Shr64, Shr_u8, Shr_u16, Shr_u32, Shr_u64, And1, And31, And32, Eql64, Neq64, Bin_lss, Bin_leq, Bin_gtr, Bin_geq, Bin_bool_eql, Bin_bool_neq, Bin_ptr_nil_eql, Bin_ptr_nil_neq, Not_dec, Un_not, Pick_t, Pick_f, Pick_pos, Pick_neg, Gd_tt, Gd_tf, Gd_ft, Gd_ff, Gd_pos_t, Gd_neg_t, Gd_pos_f, Gd_neg_f, Gd_undef, If_t, If_f, If_pos, If_neg, CallF_eq, Max_two, Min_two, Len_rd, Len_own, Ld_blkE, Idx_rdN, Idx_ownN, Idx_rdE, Idx_ownE, IdxAE, LdA_two, Idx_at0, Ext_atE, Len_at, Int.toNat_natCast, Int.toNat_zero, Int.toNat_one, List.length_map, List.length_append, List.length_cons, List.length_nil, List.length_take, List.length_set, List.length_replicate, Bool.not_true, Bool.not_false, decide_true, decide_false, BEq.rfl, bne_self_eq_false, tf_beq, ft_beq, tf_bne, ft_bne, not_true_eq_false, not_false_eq_true, app]
      refine bradawllaw07_Store.spec (by omega) hok2 (by omega) (fun c hc => by have := hclw2 c hc; omega) (rG5.fr f6) fun sb' u' b0' ps' h7 S7 hcs7 f7 => ?_
      try simp (disch := first | assumption | omega | (apply At.mk; with_unfolding_all rfl)) only [↓go_eq, ↓ent_eq, Mv, NilC_at, Fld_at, add_mk, Nat.zero_add, Nat.add_zero, Add64, Sub64, Mul64, Quo64, Rem64, Neg64, Cvt64, CvtU8, CvtU16, CvtU32, CvtU64, AddU64, SubU64, MulU64, Shr64, Shr_u8, Shr_u16, Shr_u32, Shr_u64, And1, And31, And32, Eql64, Neq64, Bin_lss, Bin_leq, Bin_gtr, Bin_geq, Bin_bool_eql, Bin_bool_neq, Bin_ptr_nil_eql, Bin_ptr_nil_neq, Not_dec, Un_not, Pick_t, Pick_f, Pick_pos, Pick_neg, Gd_tt, Gd_tf, Gd_ft, Gd_ff, Gd_pos_t, Gd_neg_t, Gd_pos_f, Gd_neg_f, Gd_undef, If_t, If_f, If_pos, If_neg, CallF_eq, Max_two, Min_two, Len_rd, Len_own, Ld_blkE, Idx_rdN, Idx_ownN, Idx_rdE, Idx_ownE, IdxAE, LdA_two, Idx_at0, Ext_atE, Len_at, Int.toNat_natCast, Int.toNat_zero, Int.toNat_one, List.length_map, List.length_append, List.length_cons, List.length_nil, List.length_take, List.length_set, List.length_replicate, Bool.not_true, Bool.not_false, decide_true, decide_false, BEq.rfl, bne_self_eq_false, tf_beq, ft_beq, tf_bne, ft_bne, not_true_eq_false, not_false_eq_true, app]
      exact hJ (sb, u, b0, ps, sb', u', b0', ps', h5.size, h6.size) h7 ⟨⟨S6.fr f7, hcs6, by omega, fun c hc => by have := hclw c hc; omega, hok⟩, ⟨S7, hcs7, by omega, fun c hc => by have := hclw2 c hc; omega, hok2⟩, f6.trans f7⟩
  rintro ⟨sb, u, b0, ps, sb', u', b0', ps', N, N'⟩ h6 ⟨S6, S6', f6⟩
  simp only at S6 S6'
  have b6 := b5.fr f6 (by simp)
  have hw6 := hw5.fr f6
  have f06 := f05.trans f6
  clear o1 o2 rF4 rF5 rG5 oF5 o5 w1 w2 g5 dd d0 d1 d2 d3 d4 lo hrd hw3 hw5 b1 b2 b3 c2
  try simp (disch := first | assumption | omega | (apply At.mk; with_unfolding_all rfl)) only [↓go_eq, ↓ent_eq, Mv, NilC_at, Fld_at, add_mk, Nat.zero_add, Nat.add_zero, Add64, Sub64, Mul64, Quo64, Rem64, Neg64, Cvt64, CvtU8, CvtU16, CvtU32, CvtU64, AddU64, SubU64, MulU64, Shr64, Shr_u8, Shr_u16, Shr_u32, Shr_u64, And1, And31, And32, Eql64, Neq64, Bin_lss, Bin_leq, Bin_gtr, Bin_geq, Bin_bool_eql, Bin_bool_neq, Bin_ptr_nil_eql, Bin_ptr_nil_neq, Not_dec, Un_not, Pick_t, Pick_f, Pick_pos, Pick_neg, Gd_tt, Gd_tf, Gd_ft, Gd_ff, Gd_pos_t, Gd_neg_t, Gd_pos_f, Gd_neg_f, Gd_undef, If_t, If_f, If_pos, If_neg, CallF_eq, Max_two, Min_two, Len_rd, Len_own, Ld_blkE, Idx_rdN, Idx_ownN, Idx_rdE, Idx_ownE, IdxAE, LdA_two, Idx_at0, Ext_atE, Len_at, Int.toNat_natCast, Int.toNat_zero, Int.toNat_one, List.length_map, List.length_append, List.length_cons, List.length_nil, List.length_take, List.length_set, List.length_replicate, Bool.not_true, Bool.not_false, decide_true, decide_false, BEq.rfl, bne_self_eq_false, tf_beq, ft_beq, tf_bne, ft_bne, not_true_eq_false, not_false_eq_true, app]
  refine bradawllaw07_Lits.spec (by omega) (by omega) hw6 fun xv xb h7 o7 hb7 f7 => ?_
  have hxo := litsT_ok n l
  have hxl := litsT_len n l
  generalize litsT n l = x at *
  have f07 := f06.trans f7
  have S7 := S6.fr f7
  have S7' := S6'.fr f7
  have rx7 := o7.rd
  clear b6 hw6 o7
  try simp (disch := first | assumption | omega | (apply At.mk; with_unfolding_all rfl)) only [↓go_eq, ↓ent_eq, Mv, NilC_at, Fld_at, add_mk, Nat.zero_add, Nat.add_zero, Add64, Sub64, Mul64, Quo64, Rem64, Neg64, Cvt64, CvtU8, CvtU16, CvtU32, CvtU64, AddU64, SubU64, MulU64, Shr64, Shr_u8, Shr_u16, Shr_u32, Shr_u64, And1, And31, And32, Eql64, Neq64, Bin_lss, Bin_leq, Bin_gtr, Bin_geq, Bin_bool_eql, Bin_bool_neq, Bin_ptr_nil_eql, Bin_ptr_nil_neq, Not_dec, Un_not, Pick_t, Pick_f, Pick_pos, Pick_neg, Gd_tt, Gd_tf, Gd_ft, Gd_ff, Gd_pos_t, Gd_neg_t, Gd_pos_f, Gd_neg_f, Gd_undef, If_t, If_f, If_pos, If_neg, CallF_eq, Max_two, Min_two, Len_rd, Len_own, Ld_blkE, Idx_rdN, Idx_ownN, Idx_rdE, Idx_ownE, IdxAE, LdA_two, Idx_at0, Ext_atE, Len_at, Int.toNat_natCast, Int.toNat_zero, Int.toNat_one, List.length_map, List.length_append, List.length_cons, List.length_nil, List.length_take, List.length_set, List.length_replicate, Bool.not_true, Bool.not_false, decide_true, decide_false, BEq.rfl, bne_self_eq_false, tf_beq, ft_beq, tf_bne, ft_bne, not_true_eq_false, not_false_eq_true, app]
  refine Lp_fn (σ := Nat × Value × List Nat) (fun s => [ptr sb, ptr sb', xv, s.2.1, Iv ((s.1 : Int) - 1)]) (fun s h' => s.1 ≤ x.length ∧ Own h' s.2.1 ((x.drop s.1).reverse.map Iv) s.2.2 ∧ (∀ b ∈ s.2.2, h7.size ≤ b) ∧ Fr [] h7 h') (fun s => s.1) (x.length, .slice none 0 0, []) rfl (fun _ => rfl) ⟨Nat.le_refl _, by simp only; rw [List.drop_length]; exact Own.nil _, by simp, Fr.refl _ _⟩ ?_
  rintro ⟨k, yv, yb⟩ h8 ⟨hk8, o8, hb8, f8⟩ X hX
  simp only at hk8 o8 hb8
  have rx8 := rx7.fr f8
  by_cases c3 : (k : Int) - 1 ≥ 0
  · have a1 := at_getD (show k - 1 < x.length by omega)
    have e1' : ((k : Int) - 1).toNat = k - 1 := by omega
    rw [← e1'] at a1
    have ed : x.drop (k - 1) = x.getD ((k : Int) - 1).toNat 0 :: x.drop k := by
      rw [List.drop_eq_getElem_cons (show k - 1 < x.length by omega), e1', List.getD_eq_getElem?_getD, List.getElem?_eq_getElem (show k - 1 < x.length by omega), show k - 1 + 1 = k by omega]; rfl
    generalize x.getD ((k : Int) - 1).toNat 0 = z at *
    have hdl : (x.drop k).length ≤ x.length := by simp
    try simp (disch := first | assumption | omega | (apply At.mk; with_unfolding_all rfl)) only [↓go_eq, ↓ent_eq, Mv, NilC_at, Fld_at, add_mk, Nat.zero_add, Nat.add_zero, Add64, Sub64, Mul64, Quo64, Rem64, Neg64, Cvt64, CvtU8, CvtU16, CvtU32, CvtU64, AddU64, SubU64, MulU64, Shr64, Shr_u8, Shr_u16, Shr_u32, Shr_u64, And1, And31, And32, Eql64, Neq64, Bin_lss, Bin_leq, Bin_gtr, Bin_geq, Bin_bool_eql, Bin_bool_neq, Bin_ptr_nil_eql, Bin_ptr_nil_neq, Not_dec, Un_not, Pick_t, Pick_f, Pick_pos, Pick_neg, Gd_tt, Gd_tf, Gd_ft, Gd_ff, Gd_pos_t, Gd_neg_t, Gd_pos_f, Gd_neg_f, Gd_undef, If_t, If_f, If_pos, If_neg, CallF_eq, Max_two, Min_two, Len_rd, Len_own, Ld_blkE, Idx_rdN, Idx_ownN, Idx_rdE, Idx_ownE, IdxAE, LdA_two, Idx_at0, Ext_atE, Len_at, Int.toNat_natCast, Int.toNat_zero, Int.toNat_one, List.length_map, List.length_append, List.length_cons, List.length_nil, List.length_take, List.length_set, List.length_replicate, Bool.not_true, Bool.not_false, decide_true, decide_false, BEq.rfl, bne_self_eq_false, tf_beq, ft_beq, tf_bne, ft_bne, not_true_eq_false, not_false_eq_true, app]
    refine BldS_one rfl rfl fun h9 o9 f9 s9 => ?_
    have o89 := o8.fr f9 (by simp)
    try simp (disch := first | assumption | omega | (apply At.mk; with_unfolding_all rfl)) only [↓go_eq, ↓ent_eq, Mv, NilC_at, Fld_at, add_mk, Nat.zero_add, Nat.add_zero, Add64, Sub64, Mul64, Quo64, Rem64, Neg64, Cvt64, CvtU8, CvtU16, CvtU32, CvtU64, AddU64, SubU64, MulU64, Shr64, Shr_u8, Shr_u16, Shr_u32, Shr_u64, And1, And31, And32, Eql64, Neq64, Bin_lss, Bin_leq, Bin_gtr, Bin_geq, Bin_bool_eql, Bin_bool_neq, Bin_ptr_nil_eql, Bin_ptr_nil_neq, Not_dec, Un_not, Pick_t, Pick_f, Pick_pos, Pick_neg, Gd_tt, Gd_tf, Gd_ft, Gd_ff, Gd_pos_t, Gd_neg_t, Gd_pos_f, Gd_neg_f, Gd_undef, If_t, If_f, If_pos, If_neg, CallF_eq, Max_two, Min_two, Len_rd, Len_own, Ld_blkE, Idx_rdN, Idx_ownN, Idx_rdE, Idx_ownE, IdxAE, LdA_two, Idx_at0, Ext_atE, Len_at, Int.toNat_natCast, Int.toNat_zero, Int.toNat_one, List.length_map, List.length_append, List.length_cons, List.length_nil, List.length_take, List.length_set, List.length_replicate, Bool.not_true, Bool.not_false, decide_true, decide_false, BEq.rfl, bne_self_eq_false, tf_beq, ft_beq, tf_bne, ft_bne, not_true_eq_false, not_false_eq_true, app]
    refine o89.app (ys := [Iv z]) o9.rd rfl rfl (fun y hy => by simp at hy; rw [hy]; rfl) (by simp; omega) (by simp; omega) fun yv' h10 yb' o10 f10 hb10 s10 => ?_
    try simp (disch := first | assumption | omega | (apply At.mk; with_unfolding_all rfl)) only [↓go_eq, ↓ent_eq, Mv, NilC_at, Fld_at, add_mk, Nat.zero_add, Nat.add_zero, Add64, Sub64, Mul64, Quo64, Rem64, Neg64, Cvt64, CvtU8, CvtU16, CvtU32, CvtU64, AddU64, SubU64, MulU64, Shr64, Shr_u8, Shr_u16, Shr_u32, Shr_u64, And1, And31, And32, Eql64, Neq64, Bin_lss, Bin_leq, Bin_gtr, Bin_geq, Bin_bool_eql, Bin_bool_neq, Bin_ptr_nil_eql, Bin_ptr_nil_neq, Not_dec, Un_not, Pick_t, Pick_f, Pick_pos, Pick_neg, Gd_tt, Gd_tf, Gd_ft, Gd_ff, Gd_pos_t, Gd_neg_t, Gd_pos_f, Gd_neg_f, Gd_undef, If_t, If_f, If_pos, If_neg, CallF_eq, Max_two, Min_two, Len_rd, Len_own, Ld_blkE, Idx_rdN, Idx_ownN, Idx_rdE, Idx_ownE, IdxAE, LdA_two, Idx_at0, Ext_atE, Len_at, Int.toNat_natCast, Int.toNat_zero, Int.toNat_one, List.length_map, List.length_append, List.length_cons, List.length_nil, List.length_take, List.length_set, List.length_replicate, Bool.not_true, Bool.not_false, decide_true, decide_false, BEq.rfl, bne_self_eq_false, tf_beq, ft_beq, tf_bne, ft_bne, not_true_eq_false, not_false_eq_true, app]
    try simp only [show (k : Int) - 1 - 1 = ((k - 1 : Nat) : Int) - 1 from by omega]
    refine hX (k - 1, yv', yb') h10 ⟨by simp only; omega, ?_, fun b hb => ?_, (f8.trans f9).trans' f10 fun b hb => .inr (hb8 b hb)⟩ (by simp only; omega)
    · simp only
      rw [ed, List.reverse_cons, List.map_append]; exact o10
    · rcases hb10 b hb with q | q
      · exact hb8 b q
      · have := f8.size; omega
  clear hX
  have ek : k = 0 := by omega
  subst ek
  rw [List.drop_zero] at o8
  have ry8 := o8.rd
  have S8 := S7.fr f8
  have S8' := S7'.fr f8
  have f08 := f07.trans f8
  have hyo : ∀ z ∈ x.reverse, LitOk n z := fun z hz => hxo z (List.mem_reverse.1 hz)
  try simp (disch := first | assumption | omega | (apply At.mk; with_unfolding_all rfl)) only [↓go_eq, ↓ent_eq, Mv, NilC_at, Fld_at, add_mk, Nat.zero_add, Nat.add_zero, Add64, Sub64, Mul64, Quo64, Rem64, Neg64, Cvt64, CvtU8, CvtU16, CvtU32, CvtU64, AddU64, SubU64, MulU64, Shr64, Shr_u8, Shr_u16, Shr_u32, Shr_u64, And1, And31, And32, Eql64, Neq64, Bin_lss, Bin_leq, Bin_gtr, Bin_geq, Bin_bool_eql, Bin_bool_neq, Bin_ptr_nil_eql, Bin_ptr_nil_neq, Not_dec, Un_not, Pick_t, Pick_f, Pick_pos, Pick_neg, Gd_tt, Gd_tf, Gd_ft, Gd_ff, Gd_pos_t, Gd_neg_t, Gd_pos_f, Gd_neg_f, Gd_undef, If_t, If_f, If_pos, If_neg, CallF_eq, Max_two, Min_two, Len_rd, Len_own, Ld_blkE, Idx_rdN, Idx_ownN, Idx_rdE, Idx_ownE, IdxAE, LdA_two, Idx_at0, Ext_atE, Len_at, Int.toNat_natCast, Int.toNat_zero, Int.toNat_one, List.length_map, List.length_append, List.length_cons, List.length_nil, List.length_take, List.length_set, List.length_replicate, Bool.not_true, Bool.not_false, decide_true, decide_false, BEq.rfl, bne_self_eq_false, tf_beq, ft_beq, tf_bne, ft_bne, not_true_eq_false, not_false_eq_true, app]
  refine S8.follow (by omega) hxo (by omega) rx8 fun av ab xs ok h9 g1 o9 hb9 f9 => ?_
  have S9 := S8.fr f9
  have S9' := S8'.fr f9
  have rx9 := rx8.fr f9
  have ry9 := ry8.fr f9
  have ra9 := o9.rd
  have hxl1 := flw_len S8.ok hxo g1
  try simp (disch := first | assumption | omega | (apply At.mk; with_unfolding_all rfl)) only [↓go_eq, ↓ent_eq, Mv, NilC_at, Fld_at, add_mk, Nat.zero_add, Nat.add_zero, Add64, Sub64, Mul64, Quo64, Rem64, Neg64, Cvt64, CvtU8, CvtU16, CvtU32, CvtU64, AddU64, SubU64, MulU64, Shr64, Shr_u8, Shr_u16, Shr_u32, Shr_u64, And1, And31, And32, Eql64, Neq64, Bin_lss, Bin_leq, Bin_gtr, Bin_geq, Bin_bool_eql, Bin_bool_neq, Bin_ptr_nil_eql, Bin_ptr_nil_neq, Not_dec, Un_not, Pick_t, Pick_f, Pick_pos, Pick_neg, Gd_tt, Gd_tf, Gd_ft, Gd_ff, Gd_pos_t, Gd_neg_t, Gd_pos_f, Gd_neg_f, Gd_undef, If_t, If_f, If_pos, If_neg, CallF_eq, Max_two, Min_two, Len_rd, Len_own, Ld_blkE, Idx_rdN, Idx_ownN, Idx_rdE, Idx_ownE, IdxAE, LdA_two, Idx_at0, Ext_atE, Len_at, Int.toNat_natCast, Int.toNat_zero, Int.toNat_one, List.length_map, List.length_append, List.length_cons, List.length_nil, List.length_take, List.length_set, List.length_replicate, Bool.not_true, Bool.not_false, decide_true, decide_false, BEq.rfl, bne_self_eq_false, tf_beq, ft_beq, tf_bne, ft_bne, not_true_eq_false, not_false_eq_true, app]
  refine S9'.follow (by omega) hyo (by rw [List.length_reverse]; omega) ry9 fun bv bb ys is h10 g2 o10 hb10 f10 => ?_
  have S10 := S9.fr f10
  have S10' := S9'.fr f10
  have rx10 := rx9.fr f10
  have ry10 := ry9.fr f10
  have ra10 := ra9.fr f10
  have rb10 := o10.rd
  have f010 := (f08.trans f9).trans f10
  have hcong : ∀ z, z ∈ x ↔ z ∈ x.reverse := fun z => List.mem_reverse.symm
  have hcl' : Clash cs (fun z => z ∈ x) ↔ Clash ds (fun z => z ∈ x.reverse) := hal.clash hcong
  obtain ⟨rfl, rfl⟩ : is = ok ∧ ys = xs := by
    rcases g1 with ⟨rfl, n1, a1, m1⟩ | ⟨rfl, n1, rfl⟩
    · rcases g2 with ⟨rfl, n2, a2, m2⟩ | ⟨rfl, n2, rfl⟩
      · exact ⟨rfl, asc_ext a2 a1 fun z => (m2 z).trans ((hal.der hcong).symm.trans (m1 z).symm)⟩
      · exact absurd (hcl'.2 n2) n1
    · rcases g2 with ⟨rfl, n2, a2, m2⟩ | ⟨rfl, n2, rfl⟩
      · exact absurd (hcl'.1 n1) n2
      · exact ⟨rfl, rfl⟩
  have hno : ¬ ((ys.length : Int) ≠ (ys.length : Nat)) := fun q => q rfl
  try simp (disch := first | assumption | omega | (apply At.mk; with_unfolding_all rfl)) only [↓go_eq, ↓ent_eq, Mv, NilC_at, Fld_at, add_mk, Nat.zero_add, Nat.add_zero, Add64, Sub64, Mul64, Quo64, Rem64, Neg64, Cvt64, CvtU8, CvtU16, CvtU32, CvtU64, AddU64, SubU64, MulU64, Shr64, Shr_u8, Shr_u16, Shr_u32, Shr_u64, And1, And31, And32, Eql64, Neq64, Bin_lss, Bin_leq, Bin_gtr, Bin_geq, Bin_bool_eql, Bin_bool_neq, Bin_ptr_nil_eql, Bin_ptr_nil_neq, Not_dec, Un_not, Pick_t, Pick_f, Pick_pos, Pick_neg, Gd_tt, Gd_tf, Gd_ft, Gd_ff, Gd_pos_t, Gd_neg_t, Gd_pos_f, Gd_neg_f, Gd_undef, If_t, If_f, If_pos, If_neg, CallF_eq, Max_two, Min_two, Len_rd, Len_own, Ld_blkE, Idx_rdN, Idx_ownN, Idx_rdE, Idx_ownE, IdxAE, LdA_two, Idx_at0, Ext_atE, Len_at, Int.toNat_natCast, Int.toNat_zero, Int.toNat_one, List.length_map, List.length_append, List.length_cons, List.length_nil, List.length_take, List.length_set, List.length_replicate, Bool.not_true, Bool.not_false, decide_true, decide_false, BEq.rfl, bne_self_eq_false, tf_beq, ft_beq, tf_bne, ft_bne, not_true_eq_false, not_false_eq_true, app]
  refine Lp_fn (σ := Nat) (fun i => [ptr sb, ptr sb', xv, yv, av, bv, Iv (ys.length : Nat), Iv (i : Nat)]) (fun i h' => h10 = h' ∧ i ≤ ys.length) (fun i => ys.length - i) 0 rfl (fun _ => rfl) ⟨rfl, Nat.zero_le _⟩ ?_
  rintro i _ ⟨rfl, hi⟩ X hX
  by_cases c4 : (i : Int) < (ys.length : Nat)
  · have a1 := at_getD (show i < ys.length by omega)
    have hno2 : ¬ (ys.getD i 0 ≠ ys.getD i 0) := fun q => q rfl
    try simp (disch := first | assumption | omega | (apply At.mk; with_unfolding_all rfl)) only [↓go_eq, ↓ent_eq, Mv, NilC_at, Fld_at, add_mk, Nat.zero_add, Nat.add_zero, Add64, Sub64, Mul64, Quo64, Rem64, Neg64, Cvt64, CvtU8, CvtU16, CvtU32, CvtU64, AddU64, SubU64, MulU64, Shr64, Shr_u8, Shr_u16, Shr_u32, Shr_u64, And1, And31, And32, Eql64, Neq64, Bin_lss, Bin_leq, Bin_gtr, Bin_geq, Bin_bool_eql, Bin_bool_neq, Bin_ptr_nil_eql, Bin_ptr_nil_neq, Not_dec, Un_not, Pick_t, Pick_f, Pick_pos, Pick_neg, Gd_tt, Gd_tf, Gd_ft, Gd_ff, Gd_pos_t, Gd_neg_t, Gd_pos_f, Gd_neg_f, Gd_undef, If_t, If_f, If_pos, If_neg, CallF_eq, Max_two, Min_two, Len_rd, Len_own, Ld_blkE, Idx_rdN, Idx_ownN, Idx_rdE, Idx_ownE, IdxAE, LdA_two, Idx_at0, Ext_atE, Len_at, Int.toNat_natCast, Int.toNat_zero, Int.toNat_one, List.length_map, List.length_append, List.length_cons, List.length_nil, List.length_take, List.length_set, List.length_replicate, Bool.not_true, Bool.not_false, decide_true, decide_false, BEq.rfl, bne_self_eq_false, tf_beq, ft_beq, tf_bne, ft_bne, not_true_eq_false, not_false_eq_true, app]
    try simp only [show (i : Int) + 1 = ((i + 1 : Nat) : Int) from by omega]
    exact hX (i + 1) h10 ⟨rfl, by omega⟩ (by omega)
  try simp (disch := first | assumption | omega | (apply At.mk; with_unfolding_all rfl)) only [↓go_eq, ↓ent_eq, Mv, NilC_at, Fld_at, add_mk, Nat.zero_add, Nat.add_zero, Add64, Sub64, Mul64, Quo64, Rem64, Neg64, Cvt64, CvtU8, CvtU16, CvtU32, CvtU64, AddU64, SubU64, MulU64, Shr64, Shr_u8, Shr_u16, Shr_u32, Shr_u64, And1, And31, And32, Eql64, Neq64, Bin_lss, Bin_leq, Bin_gtr, Bin_geq, Bin_bool_eql, Bin_bool_neq, Bin_ptr_nil_eql, Bin_ptr_nil_neq, Not_dec, Un_not, Pick_t, Pick_f, Pick_pos, Pick_neg, Gd_tt, Gd_tf, Gd_ft, Gd_ff, Gd_pos_t, Gd_neg_t, Gd_pos_f, Gd_neg_f, Gd_undef, If_t, If_f, If_pos, If_neg, CallF_eq, Max_two, Min_two, Len_rd, Len_own, Ld_blkE, Idx_rdN, Idx_ownN, Idx_rdE, Idx_ownE, IdxAE, LdA_two, Idx_at0, Ext_atE, Len_at, Int.toNat_natCast, Int.toNat_zero, Int.toNat_one, List.length_map, List.length_append, List.length_cons, List.length_nil, List.length_take, List.length_set, List.length_replicate, Bool.not_true, Bool.not_false, decide_true, decide_false, BEq.rfl, bne_self_eq_false, tf_beq, ft_beq, tf_bne, ft_bne, not_true_eq_false, not_false_eq_true, app]
  refine S10.implied (by omega) hxo (by omega) rx10 fun r1 h11 hr1 f11 => ?_
  try simp (disch := first | assumption | omega | (apply At.mk; with_unfolding_all rfl)) only [↓go_eq, ↓ent_eq, Mv, NilC_at, Fld_at, add_mk, Nat.zero_add, Nat.add_zero, Add64, Sub64, Mul64, Quo64, Rem64, Neg64, Cvt64, CvtU8, CvtU16, CvtU32, CvtU64, AddU64, SubU64, MulU64, Shr64, Shr_u8, Shr_u16, Shr_u32, Shr_u64, And1, And31, And32, Eql64, Neq64, Bin_lss, Bin_leq, Bin_gtr, Bin_geq, Bin_bool_eql, Bin_bool_neq, Bin_ptr_nil_eql, Bin_ptr_nil_neq, Not_dec, Un_not, Pick_t, Pick_f, Pick_pos, Pick_neg, Gd_tt, Gd_tf, Gd_ft, Gd_ff, Gd_pos_t, Gd_neg_t, Gd_pos_f, Gd_neg_f, Gd_undef, If_t, If_f, If_pos, If_neg, CallF_eq, Max_two, Min_two, Len_rd, Len_own, Ld_blkE, Idx_rdN, Idx_ownN, Idx_rdE, Idx_ownE, IdxAE, LdA_two, Idx_at0, Ext_atE, Len_at, Int.toNat_natCast, Int.toNat_zero, Int.toNat_one, List.length_map, List.length_append, List.length_cons, List.length_nil, List.length_take, List.length_set, List.length_replicate, Bool.not_true, Bool.not_false, decide_true, decide_false, BEq.rfl, bne_self_eq_false, tf_beq, ft_beq, tf_bne, ft_bne, not_true_eq_false, not_false_eq_true, app]
  refine (S10'.fr f11).implied (by omega) hyo (by rw [List.length_reverse]; omega) (ry10.fr f11) fun r2 h12 hr2 f12 => ?_
  have e : r1 = r2 := by
    rw [Bool.eq_iff_iff, hr1, hr2]
    exact hal.clash fun z => by rw [List.mem_map, List.mem_map]; exact ⟨fun ⟨y, p, q⟩ => ⟨y, (hcong y).1 p, q⟩, fun ⟨y, p, q⟩ => ⟨y, (hcong y).2 p, q⟩⟩
  subst e
  try simp (disch := first | assumption | omega | (apply At.mk; with_unfolding_all rfl)) only [↓go_eq, ↓ent_eq, Mv, NilC_at, Fld_at, add_mk, Nat.zero_add, Nat.add_zero, Add64, Sub64, Mul64, Quo64, Rem64, Neg64, Cvt64, CvtU8, CvtU16, CvtU32, CvtU64, AddU64, SubU64, MulU64, Shr64, Shr_u8, Shr_u16, Shr_u32, Shr_u64, And1, And31, And32, Eql64, Neq64, Bin_lss, Bin_leq, Bin_gtr, Bin_geq, Bin_bool_eql, Bin_bool_neq, Bin_ptr_nil_eql, Bin_ptr_nil_neq, Not_dec, Un_not, Pick_t, Pick_f, Pick_pos, Pick_neg, Gd_tt, Gd_tf, Gd_ft, Gd_ff, Gd_pos_t, Gd_neg_t, Gd_pos_f, Gd_neg_f, Gd_undef, If_t, If_f, If_pos, If_neg, CallF_eq, Max_two, Min_two, Len_rd, Len_own, Ld_blkE, Idx_rdN, Idx_ownN, Idx_rdE, Idx_ownE, IdxAE, LdA_two, Idx_at0, Ext_atE, Len_at, Int.toNat_natCast, Int.toNat_zero, Int.toNat_one, List.length_map, List.length_append, List.length_cons, List.length_nil, List.length_take, List.length_set, List.length_replicate, Bool.not_true, Bool.not_false, decide_true, decide_false, BEq.rfl, bne_self_eq_false, tf_beq, ft_beq, tf_bne, ft_bne, not_true_eq_false, not_false_eq_true, app]
  exact hk h12 ((f010.trans f11).trans f12)
theorem bradawllaw07_RupOrders.law {h : Heap} {a0 : Int × List (List Int)} {cs : Array Value} {a1 : List Int} {a2 : Int} {v1 v2 : Value} (r0 : rRaw.is h a0 cs.toList) (r1 : (rSlice (rInt .i16) 1).is h a1 [v1]) (r2 : (rInt .u8).is h a2 [v2]) :
    CallH Try.prog bradawllaw07_RupOrders.id #[.agg cs, v1, v2] (fun v h' => v = .bool true ∧ Fr [] h h') h := by
  obtain ⟨v, ws, rfl, h1, h2, h3⟩ := raw_arg r0
  obtain ⟨hl0, hb0⟩ := rd_ints r1
  obtain ⟨rfl, h4, h5⟩ := int_arg r2
  exact bradawllaw07_RupOrders.spec h1 ⟨h4, h5⟩ h2 (rlen r1) h3 hl0 fun h' f => ⟨rfl, f⟩
end Go.Proofs.Yteahhifkkjfhoaa
