/- The law RupWith. No condition but that the arguments lie in memory, laid by Go. -/
import Derived.Test.YteahhifkkjfhoaaRuW
namespace Go.Proofs.Yteahhifkkjfhoaa
open Go.Pt
set_option linter.unusedVariables false
set_option linter.unusedSimpArgs false
/-- Clauses that lie at h0, told by a slice of one's own. -/
structure OwC (h0 h : Heap) (v : Value) (cs : List (List Int)) (ws : List Value) (bs : List Nat) : Prop where
  own : Own h v ws bs
  len : ws.length = cs.length
  get : ∀ (i : Nat) (c : List Int), cs[i]? = some c → ∃ w, At ws i w ∧ Rd h0 w (c.map Iv)
theorem OwC.rdl {h0 h : Heap} {v : Value} {cs : List (List Int)} {ws : List Value} {bs : List Nat} (o : OwC h0 h v cs ws bs) (f : Fr [] h0 h) : RdL h v cs ws := ⟨o.own.rd, o.len, fun i c hc => let ⟨w, a, r⟩ := o.get i c hc; ⟨w, a, r.fr f⟩⟩
theorem OwC.fr {h0 h h' : Heap} {v : Value} {cs : List (List Int)} {ws : List Value} {bs S : List Nat} (o : OwC h0 h v cs ws bs) (f : Fr S h h') (hS : ∀ b ∈ bs, b ∉ S) : OwC h0 h' v cs ws bs := ⟨o.own.fr f hS, o.len, o.get⟩
theorem OwC.one {h0 h h' : Heap} {v : Value} {cs : List (List Int)} {ws : List Value} {bs : List Nat} {l : Nat} (o : OwC h0 h v cs ws bs) (f : One l h h') : OwC h0 h' v cs ws bs := ⟨o.own.one f, o.len, o.get⟩
theorem OwC.snoc {h0 h : Heap} {v w : Value} {cs : List (List Int)} {c : List Int} {ws : List Value} {bs : List Nat} (hl : ws.length = cs.length) (hg : ∀ (i : Nat) (c : List Int), cs[i]? = some c → ∃ w, At ws i w ∧ Rd h0 w (c.map Iv)) (o : Own h v (ws ++ [w]) bs) (r : Rd h0 w (c.map Iv)) : OwC h0 h v (cs ++ [c]) (ws ++ [w]) bs := by
  refine ⟨o, by simp [hl], fun i d hd => ?_⟩
  rcases Nat.lt_or_ge i cs.length with q | q
  · rw [List.getElem?_append_left q] at hd
    obtain ⟨x, a, b⟩ := hg i d hd
    exact ⟨x, ⟨by rw [List.getElem?_append_left (by omega)]; exact a.out⟩, b⟩
  · rw [List.getElem?_append_right q] at hd
    have e : i - cs.length = 0 := by
      rcases Nat.eq_zero_or_pos (i - cs.length) with e | e
      · exact e
      · rw [List.getElem?_eq_none (by simp; omega)] at hd; cases hd
    rw [e] at hd
    cases hd
    exact ⟨w, ⟨by rw [List.getElem?_append_right (by omega), show i - ws.length = 0 by omega]; rfl⟩, r⟩
theorem OwnF.one {h h' : Heap} {v : Value} {N : Nat} {b0 : List Nat} {ps : Ps} {l : Nat} (o : OwnF h v N b0 ps) (f : One l h h') : OwnF h' v N b0 ps := ⟨o.own.one f, fun p hp => (o.each p hp).one f, o.lo, o.los, o.dj⟩
theorem StAt.one {h h' : Heap} {sb n N : Nat} {u : Value} {b0 : List Nat} {ps : Ps} {l : Nat} (s : StAt h sb n N u b0 ps) (f : One l h h') : StAt h' sb n N u b0 ps := ⟨s.blk.one f, s.own.one f, s.lo, s.ne⟩
theorem StF.one {h h' : Heap} {sb n N : Nat} {cs : List (List Int)} {u : Value} {b0 : List Nat} {ps : Ps} {l : Nat} (s : StF h sb n N cs u b0 ps) (f : One l h h') : StF h' sb n N cs u b0 ps := ⟨s.st.one f, s.eq, s.len, s.each, s.ok⟩
theorem filt_nf (l : Int) (cs : List (List Int)) : (cs.map nf).filter (fun c => decide (l ∈ c)) = (cs.filter fun c => decide (l ∈ c)).map nf := by
  rw [List.filter_map]
  congr 1
  exact List.filter_congr fun c _ => by simp [nf_mem]
/-- All that the round leans on. -/
structure WJ (h4 : Heap) (n sb N fb rb lb sbk wbk kb t2 t3 : Nat) (lv l : Int) (cs W : List (List Int)) (uf u wv : Value) (b0 wb : List Nat) (ps : Ps) (ws wf : List Value) (H : Heap) (i : Nat) (h : Heap) : Prop where
  b2 : Blk h t2 [ptr sb]
  b3 : Blk h t3 [Iv l]
  st : StF h sb n N cs u b0 ps
  xr : Blk h rb [.bool false]
  xf : Blk h fb [Iv n, uf]
  xl : Blk h lb [.int .u8 lv]
  sk : Blk h sbk [ptr sb]
  wk : Blk h wbk [wv]
  ow : OwC h4 h wv W ws wb
  xk : Blk h kb [Iv (i : Nat)]
  fr : Fr [] h4 h
  frH : Fr [] H h
  ne : kb ∉ t2 :: t3 :: sb :: rb :: fb :: lb :: sbk :: wbk :: (wb ++ b0) ∧ (∀ p ∈ ps, kb ∉ p.2.2) ∧ h4.size ≤ kb ∧ H.size ≤ kb ∧ H.size ≤ rb
theorem WJ.one {h4 : Heap} {n sb N fb rb lb sbk wbk kb t2 t3 : Nat} {lv l : Int} {cs W : List (List Int)} {uf u wv : Value} {b0 wb : List Nat} {ps : Ps} {ws wf : List Value} {H : Heap} {i : Nat} {h h' : Heap} {k : Nat}
    (j : WJ h4 n sb N fb rb lb sbk wbk kb t2 t3 lv l cs W uf u wv b0 wb ps ws wf H i h) (o : One k h h') (hk : h4.size ≤ k) (hk2 : H.size ≤ k) : WJ h4 n sb N fb rb lb sbk wbk kb t2 t3 lv l cs W uf u wv b0 wb ps ws wf H i h' :=
  ⟨j.b2.one o, j.b3.one o, j.st.one o, j.xr.one o, j.xf.one o, j.xl.one o, j.sk.one o, j.wk.one o, j.ow.one o, j.xk.one o, j.fr.one o hk, j.frH.one o hk2, j.ne⟩
theorem WJ.frE {h4 : Heap} {n sb N fb rb lb sbk wbk kb t2 t3 : Nat} {lv l : Int} {cs W : List (List Int)} {uf u wv : Value} {b0 wb : List Nat} {ps : Ps} {ws wf : List Value} {H : Heap} {i : Nat} {h h' : Heap}
    (j : WJ h4 n sb N fb rb lb sbk wbk kb t2 t3 lv l cs W uf u wv b0 wb ps ws wf H i h) (f : Fr [] h h') : WJ h4 n sb N fb rb lb sbk wbk kb t2 t3 lv l cs W uf u wv b0 wb ps ws wf H i h' :=
  ⟨j.b2.fr f (by simp), j.b3.fr f (by simp), j.st.fr f, j.xr.fr f (by simp), j.xf.fr f (by simp), j.xl.fr f (by simp), j.sk.fr f (by simp), j.wk.fr f (by simp), j.ow.fr f (by simp), j.xk.fr f (by simp), j.fr.trans f, j.frH.trans f, j.ne⟩
/-- What is newer may be written. -/
theorem WJ.frS {h4 : Heap} {n sb N fb rb lb sbk wbk kb t2 t3 : Nat} {lv l : Int} {cs W : List (List Int)} {uf u wv : Value} {b0 wb S : List Nat} {ps : Ps} {ws wf : List Value} {H : Heap} {i : Nat} {h0 h h' : Heap}
    (j0 : WJ h4 n sb N fb rb lb sbk wbk kb t2 t3 lv l cs W uf u wv b0 wb ps ws wf H i h0) (j : WJ h4 n sb N fb rb lb sbk wbk kb t2 t3 lv l cs W uf u wv b0 wb ps ws wf H i h) (f : Fr S h h') (hS : ∀ b ∈ S, h0.size ≤ b) : WJ h4 n sb N fb rb lb sbk wbk kb t2 t3 lv l cs W uf u wv b0 wb ps ws wf H i h' := by
  have lt : ∀ {b : Nat} {c : List Value}, Blk h0 b c → b ∉ S := fun hb hm => by have := hb.lt; have := hS _ hm; omega
  have l2 := j0.st.st.own.lt
  have l3 := j0.ow.own.lt
  refine ⟨j.b2.fr f (lt j0.b2), j.b3.fr f (lt j0.b3), ⟨j.st.st.frS f fun b hb => ?_, j.st.eq, j.st.len, j.st.each, j.st.ok⟩, j.xr.fr f (lt j0.xr), j.xf.fr f (lt j0.xf), j.xl.fr f (lt j0.xl), j.sk.fr f (lt j0.sk), j.wk.fr f (lt j0.wk), j.ow.fr f (fun b hb hm => by have := l3 b hb; have := hS b hm; omega), j.xk.fr f (lt j0.xk), j.fr.trans' f fun b hb => .inr (by have := hS b hb; have := j0.fr.size; omega), j.frH.trans' f fun b hb => .inr (by have := hS b hb; have := j0.frH.size; omega), j.ne⟩
  have := hS b hb
  exact ⟨fun e => by have := j0.st.st.blk.lt; omega, fun hm => by have := l2.1 b hm; omega, fun p hp hm => by have := l2.2 p hp b hm; omega⟩
/-- The count goes on. -/
theorem WJ.step {h4 : Heap} {n sb N fb rb lb sbk wbk kb t2 t3 : Nat} {lv l : Int} {cs W : List (List Int)} {uf u wv : Value} {b0 wb : List Nat} {ps : Ps} {ws wf : List Value} {H : Heap} {i k : Nat} {h h' : Heap}
    (j : WJ h4 n sb N fb rb lb sbk wbk kb t2 t3 lv l cs W uf u wv b0 wb ps ws wf H i h) (b : Blk h' kb [Iv (k : Nat)]) (f : Fr [kb] h h') : WJ h4 n sb N fb rb lb sbk wbk kb t2 t3 lv l cs W uf u wv b0 wb ps ws wf H k h' := by
  obtain ⟨n1, n2, n3, n4, n5⟩ := j.ne
  simp only [List.mem_cons, List.mem_append, not_or] at n1
  obtain ⟨a1, a2, a3, a4, a5, a6, a7, a8, a9, a10⟩ := n1
  refine ⟨j.b2.fr f (by simp; omega), j.b3.fr f (by simp; omega), ⟨j.st.st.frS f fun b hb => ?_, j.st.eq, j.st.len, j.st.each, j.st.ok⟩, j.xr.fr f (by simp; omega), j.xf.fr f (by simp; omega), j.xl.fr f (by simp; omega), j.sk.fr f (by simp; omega), j.wk.fr f (by simp; omega), j.ow.fr f (fun b hb hm => by simp at hm; subst hm; exact a9 hb), b, j.fr.trans' f fun b hb => .inr (by simp at hb; omega), j.frH.trans' f fun b hb => .inr (by simp at hb; omega), j.ne⟩
  simp at hb; subst hb
  exact ⟨a3, a10, n2⟩
set_option maxHeartbeats 8000000 in
theorem bradawllaw07_RupWith.spec {a r lv : Int} {xss : List (List Int)} {ws : List Value} {v : Value} (ha : 0 ≤ a ∧ a ≤ 255) (hr : -32768 ≤ r ∧ r ≤ 32767) (hlv : 0 ≤ lv ∧ lv ≤ 255) (hcl : ∀ c ∈ xss, c.length ≤ 140737488351232) {K : Ret} {h : Heap} (hv : RdX (.int .i16) h v xss ws)
    (hk : ∀ h', Fr [] h h' → K (.bool true) h') : CallH Try.prog bradawllaw07_RupWith.id #[.agg #[.int .u8 a, v], .int .i16 r, .int .u8 lv] K h := by
  refine bradawllaw07_RupWith.ok ?_
  simp only [bradawllaw07_RupWith.pt]
  rw [ent_eq, go_eq]
  refine New_blk fun h1 b1 f1 s1 => ?_
  have b1 : Blk h1 h.size [.int .u8 a, v] := b1
  rw [go_eq]
  refine New_blk fun h2 b2 f2 s2 => ?_
  have bl : Blk h2 h1.size [.int .u8 lv] := b2
  rw [go_eq]
  refine New_blk fun h3 b3 f3 s3 => ?_
  have br : Blk h3 h2.size [.bool false] := b3
  have b1 := (b1.fr f2 (by simp)).fr f3 (by simp)
  have bl := bl.fr f3 (by simp)
  have f03 := (f1.trans f2).trans f3
  obtain ⟨rb, hrb⟩ : ∃ rb, rb = h2.size := ⟨_, rfl⟩
  obtain ⟨lb, hlb⟩ : ∃ lb, lb = h1.size := ⟨_, rfl⟩
  rw [← hrb] at br ⊢
  rw [← hlb] at bl ⊢
  have hzr : h.size ≤ lb ∧ lb < rb := by have := f1.size; omega
  rw [go_eq, CallF_eq]
  refine bradawllaw07_fit.spec fun h4 f4 => ?_
  have b1 := b1.fr f4 (by simp)
  have bl := bl.fr f4 (by simp)
  have br := br.fr f4 (by simp)
  rw [go_eq, Un_not, Bool.not_true, If_f, go_eq, LdA_two b1, go_eq, CallF_eq]
  refine bradawllaw02_Raw_Light.spec (m := 40) (by decide) hcl (hv.fr (f03.trans f4)) fun h5 f5 => ⟨fun hL => ?_, ?_⟩
  rotate_left
  · try simp (disch := first | assumption | omega | (apply At.mk; with_unfolding_all rfl)) only [↓go_eq, ↓ent_eq, Mv, NilC_at, Fld_at, add_mk, Nat.zero_add, Nat.add_zero, Add64, Sub64, Mul64, Quo64, Rem64, Neg64, Cvt64, CvtU8, CvtU16, CvtU32, CvtU64, AddU64, SubU64, MulU64, Shr64, Shr_u8, Shr_u16, Shr_u32, Shr_u64, And1, And31, And32, Eql64, Neq64, Bin_lss, Bin_leq, Bin_gtr, Bin_geq, Bin_bool_eql, Bin_bool_neq, Bin_ptr_nil_eql, Bin_ptr_nil_neq, Not_dec, Un_not, Pick_t, Pick_f, Pick_pos, Pick_neg, Gd_tt, Gd_tf, Gd_ft, Gd_ff, Gd_pos_t, Gd_neg_t, Gd_pos_f, Gd_neg_f, Gd_undef, If_t, If_f, If_pos, If_neg, CallF_eq, Max_two, Min_two, Len_rd, Len_own, Ld_blkE, Idx_rdN, Idx_ownN, Idx_rdE, Idx_ownE, IdxAE, LdA_two, Idx_at0, Ext_atE, Len_at, Int.toNat_natCast, Int.toNat_zero, Int.toNat_one, List.length_map, List.length_append, List.length_cons, List.length_nil, List.length_take, List.length_set, List.length_replicate, Bool.not_true, Bool.not_false, decide_true, decide_false, BEq.rfl, bne_self_eq_false, tf_beq, ft_beq, tf_bne, ft_bne, not_true_eq_false, not_false_eq_true, app]
    exact fin1 (br.fr f5 (by simp)) rfl ((f03.trans f4).trans f5) (by omega) hk
  obtain ⟨hL1, hL2⟩ := hL
  have b1 := b1.fr f5 (by simp)
  have bl := bl.fr f5 (by simp)
  have br := br.fr f5 (by simp)
  have f05 := (f03.trans f4).trans f5
  rw [go_eq, Un_not, Bool.not_true, If_f, go_eq, LdA_two b1]
  refine prelude (vars := 6) (w := 5) ha (by decide) (by decide) (by omega) hL2 (hv.fr f05) fun n cs fb uf wf sb u b0 ps h7 h6 hn hlen hclw bf hfb r6 S7 f6 f7 => ?_
  have f57 := f6.trans f7
  have brl := br.lt
  have bfl := bf.lt
  have bl := bl.fr f57 (by simp)
  have br := br.fr f57 (by simp)
  have bf := bf.fr f7 (by simp)
  have f07 := f05.trans f57
  have r7 := r6.fr f7
  clear b1 b2 b3 f1 f2 f3 f4 f5 s1 s2 s3 f03
  have huc := r7.rd.isCell
  have z67 := f7.size
  try simp (disch := first | assumption | omega | (apply At.mk; with_unfolding_all rfl)) only [↓go_eq, ↓ent_eq, Mv, NilC_at, Fld_at, add_mk, Nat.zero_add, Nat.add_zero, Add64, Sub64, Mul64, Quo64, Rem64, Neg64, Cvt64, CvtU8, CvtU16, CvtU32, CvtU64, AddU64, SubU64, MulU64, Shr64, Shr_u8, Shr_u16, Shr_u32, Shr_u64, And1, And31, And32, Eql64, Neq64, Bin_lss, Bin_leq, Bin_gtr, Bin_geq, Bin_bool_eql, Bin_bool_neq, Bin_ptr_nil_eql, Bin_ptr_nil_neq, Not_dec, Un_not, Pick_t, Pick_f, Pick_pos, Pick_neg, Gd_tt, Gd_tf, Gd_ft, Gd_ff, Gd_pos_t, Gd_neg_t, Gd_pos_f, Gd_neg_f, Gd_undef, If_t, If_f, If_pos, If_neg, CallF_eq, Max_two, Min_two, Len_rd, Len_own, Ld_blkE, Idx_rdN, Idx_ownN, Idx_rdE, Idx_ownE, IdxAE, LdA_two, Idx_at0, Ext_atE, Len_at, Int.toNat_natCast, Int.toNat_zero, Int.toNat_one, List.length_map, List.length_append, List.length_cons, List.length_nil, List.length_take, List.length_set, List.length_replicate, Bool.not_true, Bool.not_false, decide_true, decide_false, BEq.rfl, bne_self_eq_false, tf_beq, ft_beq, tf_bne, ft_bne, not_true_eq_false, not_false_eq_true, app]
  refine New_blk fun h8 b8 f8 s8 => ?_
  have b8 : Blk h8 h7.size [.pointer none] := b8
  try simp (disch := first | assumption | omega | (apply At.mk; with_unfolding_all rfl)) only [↓go_eq, ↓ent_eq, Mv, NilC_at, Fld_at, add_mk, Nat.zero_add, Nat.add_zero, Add64, Sub64, Mul64, Quo64, Rem64, Neg64, Cvt64, CvtU8, CvtU16, CvtU32, CvtU64, AddU64, SubU64, MulU64, Shr64, Shr_u8, Shr_u16, Shr_u32, Shr_u64, And1, And31, And32, Eql64, Neq64, Bin_lss, Bin_leq, Bin_gtr, Bin_geq, Bin_bool_eql, Bin_bool_neq, Bin_ptr_nil_eql, Bin_ptr_nil_neq, Not_dec, Un_not, Pick_t, Pick_f, Pick_pos, Pick_neg, Gd_tt, Gd_tf, Gd_ft, Gd_ff, Gd_pos_t, Gd_neg_t, Gd_pos_f, Gd_neg_f, Gd_undef, If_t, If_f, If_pos, If_neg, CallF_eq, Max_two, Min_two, Len_rd, Len_own, Ld_blkE, Idx_rdN, Idx_ownN, Idx_rdE, Idx_ownE, IdxAE, LdA_two, Idx_at0, Ext_atE, Len_at, Int.toNat_natCast, Int.toNat_zero, Int.toNat_one, List.length_map, List.length_append, List.length_cons, List.length_nil, List.length_take, List.length_set, List.length_replicate, Bool.not_true, Bool.not_false, decide_true, decide_false, BEq.rfl, bne_self_eq_false, tf_beq, ft_beq, tf_bne, ft_bne, not_true_eq_false, not_false_eq_true, app]
  refine St_blk b8 (by simp) rfl fun h9 b9 f9 => ?_
  have b9 : Blk h9 h7.size [ptr sb] := b9
  have f79 : Fr [] h7 h9 := f8.trans' f9 (by simp)
  obtain ⟨sk, hsk⟩ : ∃ sk, sk = h7.size := ⟨_, rfl⟩
  rw [← hsk] at b9 ⊢
  have bl := bl.fr f79 (by simp)
  have br := br.fr f79 (by simp)
  have bf := bf.fr f79 (by simp)
  have S9 := S7.fr f79
  have f69 := f7.trans f79
  have f09 := f07.trans f79
  have hsl := S7.st.blk.lt
  have hpsl := S7.st.own.lt
  have hslo := S7.st.lo
  have hplo := S7.st.own.lo
  have hplos := S7.st.own.los
  have z9 : sk < h9.size := b9.lt
  clear b8 f8 f9 f79 s8 S7
  try simp (disch := first | assumption | omega | (apply At.mk; with_unfolding_all rfl)) only [↓go_eq, ↓ent_eq, Mv, NilC_at, Fld_at, add_mk, Nat.zero_add, Nat.add_zero, Add64, Sub64, Mul64, Quo64, Rem64, Neg64, Cvt64, CvtU8, CvtU16, CvtU32, CvtU64, AddU64, SubU64, MulU64, Shr64, Shr_u8, Shr_u16, Shr_u32, Shr_u64, And1, And31, And32, Eql64, Neq64, Bin_lss, Bin_leq, Bin_gtr, Bin_geq, Bin_bool_eql, Bin_bool_neq, Bin_ptr_nil_eql, Bin_ptr_nil_neq, Not_dec, Un_not, Pick_t, Pick_f, Pick_pos, Pick_neg, Gd_tt, Gd_tf, Gd_ft, Gd_ff, Gd_pos_t, Gd_neg_t, Gd_pos_f, Gd_neg_f, Gd_undef, If_t, If_f, If_pos, If_neg, CallF_eq, Max_two, Min_two, Len_rd, Len_own, Ld_blkE, Idx_rdN, Idx_ownN, Idx_rdE, Idx_ownE, IdxAE, LdA_two, Idx_at0, Ext_atE, Len_at, Int.toNat_natCast, Int.toNat_zero, Int.toNat_one, List.length_map, List.length_append, List.length_cons, List.length_nil, List.length_take, List.length_set, List.length_replicate, Bool.not_true, Bool.not_false, decide_true, decide_false, BEq.rfl, bne_self_eq_false, tf_beq, ft_beq, tf_bne, ft_bne, not_true_eq_false, not_false_eq_true, app]
  refine BldS_one rfl rfl fun h10 o10 f10 s10 => ?_
  have bf10 := bf.fr f10 (by simp)
  try simp (disch := first | assumption | omega | (apply At.mk; with_unfolding_all rfl)) only [↓go_eq, ↓ent_eq, Mv, NilC_at, Fld_at, add_mk, Nat.zero_add, Nat.add_zero, Add64, Sub64, Mul64, Quo64, Rem64, Neg64, Cvt64, CvtU8, CvtU16, CvtU32, CvtU64, AddU64, SubU64, MulU64, Shr64, Shr_u8, Shr_u16, Shr_u32, Shr_u64, And1, And31, And32, Eql64, Neq64, Bin_lss, Bin_leq, Bin_gtr, Bin_geq, Bin_bool_eql, Bin_bool_neq, Bin_ptr_nil_eql, Bin_ptr_nil_neq, Not_dec, Un_not, Pick_t, Pick_f, Pick_pos, Pick_neg, Gd_tt, Gd_tf, Gd_ft, Gd_ff, Gd_pos_t, Gd_neg_t, Gd_pos_f, Gd_neg_f, Gd_undef, If_t, If_f, If_pos, If_neg, CallF_eq, Max_two, Min_two, Len_rd, Len_own, Ld_blkE, Idx_rdN, Idx_ownN, Idx_rdE, Idx_ownE, IdxAE, LdA_two, Idx_at0, Ext_atE, Len_at, Int.toNat_natCast, Int.toNat_zero, Int.toNat_one, List.length_map, List.length_append, List.length_cons, List.length_nil, List.length_take, List.length_set, List.length_replicate, Bool.not_true, Bool.not_false, decide_true, decide_false, BEq.rfl, bne_self_eq_false, tf_beq, ft_beq, tf_bne, ft_bne, not_true_eq_false, not_false_eq_true, app]
  refine bradawllaw07_Lits.spec (l := [r]) (by omega) (by simp) o10.rd fun lv' lb' h11 o11 hb11 f11 => ?_
  have f911 := f10.trans f11
  have bl := bl.fr f911 (by simp)
  have br := br.fr f911 (by simp)
  have bf := bf.fr f911 (by simp)
  have b11 := b9.fr f911 (by simp)
  have S11 := S9.fr f911
  have rl11 := o11.rd
  have f011 := f09.trans f911
  have f611 := f69.trans f911
  have z911 := f911.size
  have hlb' := o11.lt
  clear o10 f10 f11 hb11 S9 bf10 b9 f911 f09 f69
  by_cases c0 : n = 0
  · have e : litsT n [r] = [] := by unfold litsT; rw [if_pos c0]
    rw [e] at rl11
    have rl11 : Rd h11 lv' [] := rl11
    rw [Len_rd rl11]
    try simp (disch := first | assumption | omega | (apply At.mk; with_unfolding_all rfl)) only [↓go_eq, ↓ent_eq, Mv, NilC_at, Fld_at, add_mk, Nat.zero_add, Nat.add_zero, Add64, Sub64, Mul64, Quo64, Rem64, Neg64, Cvt64, CvtU8, CvtU16, CvtU32, CvtU64, AddU64, SubU64, MulU64, Shr64, Shr_u8, Shr_u16, Shr_u32, Shr_u64, And1, And31, And32, Eql64, Neq64, Bin_lss, Bin_leq, Bin_gtr, Bin_geq, Bin_bool_eql, Bin_bool_neq, Bin_ptr_nil_eql, Bin_ptr_nil_neq, Not_dec, Un_not, Pick_t, Pick_f, Pick_pos, Pick_neg, Gd_tt, Gd_tf, Gd_ft, Gd_ff, Gd_pos_t, Gd_neg_t, Gd_pos_f, Gd_neg_f, Gd_undef, If_t, If_f, If_pos, If_neg, CallF_eq, Max_two, Min_two, Len_rd, Len_own, Ld_blkE, Idx_rdN, Idx_ownN, Idx_rdE, Idx_ownE, IdxAE, LdA_two, Idx_at0, Ext_atE, Len_at, Int.toNat_natCast, Int.toNat_zero, Int.toNat_one, List.length_map, List.length_append, List.length_cons, List.length_nil, List.length_take, List.length_set, List.length_replicate, Bool.not_true, Bool.not_false, decide_true, decide_false, BEq.rfl, bne_self_eq_false, tf_beq, ft_beq, tf_bne, ft_bne, not_true_eq_false, not_false_eq_true, app]
    exact fin1 br rfl f011 (by omega) hk
  have e : litsT n [r] = [rawLit n r] := by unfold litsT; rw [if_neg c0]; rfl
  rw [e] at rl11 o11
  have hlo := rawLit_ok c0 r
  generalize rawLit n r = l at *
  have rl11 : Rd h11 lv' [Iv l] := rl11
  have o11 : Own h11 lv' [Iv l] lb' := o11
  have al : At [Iv l] ((0 : Int).toNat) (Iv l) := ⟨rfl⟩
  have rF11 := r6.fr f611
  have hrd := rF11.rd
  have hwl := rF11.len
  rw [Len_rd rl11, show (([Iv l] : List Value).length : Int) = 1 from rfl]
  try simp (disch := first | assumption | omega | (apply At.mk; with_unfolding_all rfl)) only [↓go_eq, ↓ent_eq, Mv, NilC_at, Fld_at, add_mk, Nat.zero_add, Nat.add_zero, Add64, Sub64, Mul64, Quo64, Rem64, Neg64, Cvt64, CvtU8, CvtU16, CvtU32, CvtU64, AddU64, SubU64, MulU64, Shr64, Shr_u8, Shr_u16, Shr_u32, Shr_u64, And1, And31, And32, Eql64, Neq64, Bin_lss, Bin_leq, Bin_gtr, Bin_geq, Bin_bool_eql, Bin_bool_neq, Bin_ptr_nil_eql, Bin_ptr_nil_neq, Not_dec, Un_not, Pick_t, Pick_f, Pick_pos, Pick_neg, Gd_tt, Gd_tf, Gd_ft, Gd_ff, Gd_pos_t, Gd_neg_t, Gd_pos_f, Gd_neg_f, Gd_undef, If_t, If_f, If_pos, If_neg, CallF_eq, Max_two, Min_two, Len_rd, Len_own, Ld_blkE, Idx_rdN, Idx_ownN, Idx_rdE, Idx_ownE, IdxAE, LdA_two, Idx_at0, Ext_atE, Len_at, Int.toNat_natCast, Int.toNat_zero, Int.toNat_one, List.length_map, List.length_append, List.length_cons, List.length_nil, List.length_take, List.length_set, List.length_replicate, Bool.not_true, Bool.not_false, decide_true, decide_false, BEq.rfl, bne_self_eq_false, tf_beq, ft_beq, tf_bne, ft_bne, not_true_eq_false, not_false_eq_true, app]
  refine New_blk fun h12 b12 f12 s12 => ?_
  have b12 : Blk h12 h11.size [.slice none 0 0] := b12
  obtain ⟨wk, hwk⟩ : ∃ wk, wk = h11.size := ⟨_, rfl⟩
  rw [← hwk] at b12 ⊢
  have bl := bl.fr f12 (by simp)
  have br := br.fr f12 (by simp)
  have bf := bf.fr f12 (by simp)
  have b8 := b11.fr f12 (by simp)
  have S12 := S11.fr f12
  have hrd := hrd.fr f12
  have f612 := f611.trans f12
  have f012 := f011.trans f12
  have hll12 := o11.fr f12 (by simp)
  clear rF11 rl11 b11 S11 f12 f011 f611
  try simp (disch := first | assumption | omega | (apply At.mk; with_unfolding_all rfl)) only [hwl, ↓go_eq, ↓ent_eq, Mv, NilC_at, Fld_at, add_mk, Nat.zero_add, Nat.add_zero, Add64, Sub64, Mul64, Quo64, Rem64, Neg64, Cvt64, CvtU8, CvtU16, CvtU32, CvtU64, AddU64, SubU64, MulU64, Shr64, Shr_u8, Shr_u16, Shr_u32, Shr_u64, And1, And31, And32, Eql64, Neq64, Bin_lss, Bin_leq, Bin_gtr, Bin_geq, Bin_bool_eql, Bin_bool_neq, Bin_ptr_nil_eql, Bin_ptr_nil_neq, Not_dec, Un_not, Pick_t, Pick_f, Pick_pos, Pick_neg, Gd_tt, Gd_tf, Gd_ft, Gd_ff, Gd_pos_t, Gd_neg_t, Gd_pos_f, Gd_neg_f, Gd_undef, If_t, If_f, If_pos, If_neg, CallF_eq, Max_two, Min_two, Len_rd, Len_own, Ld_blkE, Idx_rdN, Idx_ownN, Idx_rdE, Idx_ownE, IdxAE, LdA_two, Idx_at0, Ext_atE, Len_at, Int.toNat_natCast, Int.toNat_zero, Int.toNat_one, List.length_map, List.length_append, List.length_cons, List.length_nil, List.length_take, List.length_set, List.length_replicate, Bool.not_true, Bool.not_false, decide_true, decide_false, BEq.rfl, bne_self_eq_false, tf_beq, ft_beq, tf_bne, ft_bne, not_true_eq_false, not_false_eq_true, app]
  refine Lp_fn (σ := Nat × Value × List Value × List Nat) (fun s => [ptr lb, ptr rb, ptr fb, ptr sk, lv', ptr wk, uf, Iv (cs.length : Nat), Iv (s.1 : Nat)])
    (fun s h' => s.1 ≤ cs.length ∧ OwC h6 h' s.2.1 ((cs.take s.1).filter fun c => decide (l ∈ c)) s.2.2.1 s.2.2.2 ∧ (∀ b ∈ s.2.2.2, h11.size < b) ∧ Blk h' wk [s.2.1] ∧ Blk h' lb [.int .u8 lv] ∧ Blk h' rb [.bool false] ∧ Blk h' fb [Iv n, uf] ∧ Blk h' sk [ptr sb] ∧ StF h' sb n h6.size cs u b0 ps ∧ Own h' lv' [Iv l] lb' ∧ Fr [] h6 h' ∧ Fr [] h h' ∧ h12.size ≤ h'.size) (fun s => cs.length - s.1)
    (0, .slice none 0 0, [], []) rfl (fun _ => rfl) ⟨Nat.zero_le _, ⟨Own.nil _, rfl, fun i c hc => by simp at hc⟩, by simp, b12, bl, br, bf, b8, S12, hll12, f612, f012, Nat.le_refl _⟩ ?_
  clear hrd
  rintro ⟨i, wv, ws', wb⟩ h13 ⟨hi, ow, hwb, x4, xl, xr, xf, xs, S13, hl13, f613, f013, z13⟩ X hX
  simp only at hi ow hwb x4
  have rF13 := r6.fr f613
  have hrd := rF13.rd
  have hrl13 := hl13.rd
  by_cases c1 : (i : Int) < (cs.length : Nat)
  · have hg : cs[i]? = some cs[i] := List.getElem?_eq_getElem (by omega)
    obtain ⟨x, ax, rx⟩ := rF13.get i _ hg
    obtain ⟨x', ax', rx6⟩ := r6.get i _ hg
    have exx : x' = x := by have := ax'.out; rw [ax.out] at this; cases this; rfl
    subst exx
    have hc5 := hclw _ (List.getElem_mem (show i < cs.length by omega))
    have hst := filt_step (l := l) hg
    generalize cs[i] = c at *
    have hfl : ((cs.take i).filter fun c => decide (l ∈ c)).length ≤ i := Nat.le_trans (List.length_filter_le _ _) (by simp; omega)
    have hwsl := ow.len
    try simp (disch := first | assumption | omega | (apply At.mk; with_unfolding_all rfl)) only [↓go_eq, ↓ent_eq, Mv, NilC_at, Fld_at, add_mk, Nat.zero_add, Nat.add_zero, Add64, Sub64, Mul64, Quo64, Rem64, Neg64, Cvt64, CvtU8, CvtU16, CvtU32, CvtU64, AddU64, SubU64, MulU64, Shr64, Shr_u8, Shr_u16, Shr_u32, Shr_u64, And1, And31, And32, Eql64, Neq64, Bin_lss, Bin_leq, Bin_gtr, Bin_geq, Bin_bool_eql, Bin_bool_neq, Bin_ptr_nil_eql, Bin_ptr_nil_neq, Not_dec, Un_not, Pick_t, Pick_f, Pick_pos, Pick_neg, Gd_tt, Gd_tf, Gd_ft, Gd_ff, Gd_pos_t, Gd_neg_t, Gd_pos_f, Gd_neg_f, Gd_undef, If_t, If_f, If_pos, If_neg, CallF_eq, Max_two, Min_two, Len_rd, Len_own, Ld_blkE, Idx_rdN, Idx_ownN, Idx_rdE, Idx_ownE, IdxAE, LdA_two, Idx_at0, Ext_atE, Len_at, Int.toNat_natCast, Int.toNat_zero, Int.toNat_one, List.length_map, List.length_append, List.length_cons, List.length_nil, List.length_take, List.length_set, List.length_replicate, Bool.not_true, Bool.not_false, decide_true, decide_false, BEq.rfl, bne_self_eq_false, tf_beq, ft_beq, tf_bne, ft_bne, not_true_eq_false, not_false_eq_true, app]
    refine Jn_fn (σ := Value × List Value × List Nat) (fun s => [ptr lb, ptr rb, ptr fb, ptr sk, lv', ptr wk, uf, Iv (cs.length : Nat), Iv (i : Nat)])
      (fun s h' => OwC h6 h' s.1 ((cs.take (i + 1)).filter fun c => decide (l ∈ c)) s.2.1 s.2.2 ∧ (∀ b ∈ s.2.2, h11.size < b) ∧ Blk h' wk [s.1] ∧ Blk h' lb [.int .u8 lv] ∧ Blk h' rb [.bool false] ∧ Blk h' fb [Iv n, uf] ∧ Blk h' sk [ptr sb] ∧ StF h' sb n h6.size cs u b0 ps ∧ Own h' lv' [Iv l] lb' ∧ Fr [] h6 h' ∧ Fr [] h h' ∧ h12.size ≤ h'.size) ?_ ?_
    · intro J hJ
      try simp (disch := first | assumption | omega | (apply At.mk; with_unfolding_all rfl)) only [↓go_eq, ↓ent_eq, Mv, NilC_at, Fld_at, add_mk, Nat.zero_add, Nat.add_zero, Add64, Sub64, Mul64, Quo64, Rem64, Neg64, Cvt64, CvtU8, CvtU16, CvtU32, CvtU64, AddU64, SubU64, MulU64, Shr64, Shr_u8, Shr_u16, Shr_u32, Shr_u64, And1, And31, And32, Eql64, Neq64, Bin_lss, Bin_leq, Bin_gtr, Bin_geq, Bin_bool_eql, Bin_bool_neq, Bin_ptr_nil_eql, Bin_ptr_nil_neq, Not_dec, Un_not, Pick_t, Pick_f, Pick_pos, Pick_neg, Gd_tt, Gd_tf, Gd_ft, Gd_ff, Gd_pos_t, Gd_neg_t, Gd_pos_f, Gd_neg_f, Gd_undef, If_t, If_f, If_pos, If_neg, CallF_eq, Max_two, Min_two, Len_rd, Len_own, Ld_blkE, Idx_rdN, Idx_ownN, Idx_rdE, Idx_ownE, IdxAE, LdA_two, Idx_at0, Ext_atE, Len_at, Int.toNat_natCast, Int.toNat_zero, Int.toNat_one, List.length_map, List.length_append, List.length_cons, List.length_nil, List.length_take, List.length_set, List.length_replicate, Bool.not_true, Bool.not_false, decide_true, decide_false, BEq.rfl, bne_self_eq_false, tf_beq, ft_beq, tf_bne, ft_bne, not_true_eq_false, not_false_eq_true, app]
      refine in_q (by omega) rx ?_
      by_cases c2 : l ∈ c
      · rw [if_pos c2] at hst
        rw [decide_eq_true c2]
        try simp (disch := first | assumption | omega | (apply At.mk; with_unfolding_all rfl)) only [↓go_eq, ↓ent_eq, Mv, NilC_at, Fld_at, add_mk, Nat.zero_add, Nat.add_zero, Add64, Sub64, Mul64, Quo64, Rem64, Neg64, Cvt64, CvtU8, CvtU16, CvtU32, CvtU64, AddU64, SubU64, MulU64, Shr64, Shr_u8, Shr_u16, Shr_u32, Shr_u64, And1, And31, And32, Eql64, Neq64, Bin_lss, Bin_leq, Bin_gtr, Bin_geq, Bin_bool_eql, Bin_bool_neq, Bin_ptr_nil_eql, Bin_ptr_nil_neq, Not_dec, Un_not, Pick_t, Pick_f, Pick_pos, Pick_neg, Gd_tt, Gd_tf, Gd_ft, Gd_ff, Gd_pos_t, Gd_neg_t, Gd_pos_f, Gd_neg_f, Gd_undef, If_t, If_f, If_pos, If_neg, CallF_eq, Max_two, Min_two, Len_rd, Len_own, Ld_blkE, Idx_rdN, Idx_ownN, Idx_rdE, Idx_ownE, IdxAE, LdA_two, Idx_at0, Ext_atE, Len_at, Int.toNat_natCast, Int.toNat_zero, Int.toNat_one, List.length_map, List.length_append, List.length_cons, List.length_nil, List.length_take, List.length_set, List.length_replicate, Bool.not_true, Bool.not_false, decide_true, decide_false, BEq.rfl, bne_self_eq_false, tf_beq, ft_beq, tf_bne, ft_bne, not_true_eq_false, not_false_eq_true, app]
        refine BldS_one rfl rx.isCell fun h14 o14 f14 s14 => ?_
        have ow14 := ow.fr f14 (by simp)
        try simp (disch := first | assumption | omega | (apply At.mk; with_unfolding_all rfl)) only [↓go_eq, ↓ent_eq, Mv, NilC_at, Fld_at, add_mk, Nat.zero_add, Nat.add_zero, Add64, Sub64, Mul64, Quo64, Rem64, Neg64, Cvt64, CvtU8, CvtU16, CvtU32, CvtU64, AddU64, SubU64, MulU64, Shr64, Shr_u8, Shr_u16, Shr_u32, Shr_u64, And1, And31, And32, Eql64, Neq64, Bin_lss, Bin_leq, Bin_gtr, Bin_geq, Bin_bool_eql, Bin_bool_neq, Bin_ptr_nil_eql, Bin_ptr_nil_neq, Not_dec, Un_not, Pick_t, Pick_f, Pick_pos, Pick_neg, Gd_tt, Gd_tf, Gd_ft, Gd_ff, Gd_pos_t, Gd_neg_t, Gd_pos_f, Gd_neg_f, Gd_undef, If_t, If_f, If_pos, If_neg, CallF_eq, Max_two, Min_two, Len_rd, Len_own, Ld_blkE, Idx_rdN, Idx_ownN, Idx_rdE, Idx_ownE, IdxAE, LdA_two, Idx_at0, Ext_atE, Len_at, Int.toNat_natCast, Int.toNat_zero, Int.toNat_one, List.length_map, List.length_append, List.length_cons, List.length_nil, List.length_take, List.length_set, List.length_replicate, Bool.not_true, Bool.not_false, decide_true, decide_false, BEq.rfl, bne_self_eq_false, tf_beq, ft_beq, tf_bne, ft_bne, not_true_eq_false, not_false_eq_true, app]
        refine ow14.own.app (ys := [x']) o14.rd rfl rfl (fun y hy => by simp at hy; rw [hy]; exact rx.isCell) (by simp; omega) (by simp; omega) fun wv' h15 wb' o15 f15 hb15 s15 => ?_
        have hwb14 : ∀ b ∈ wb, h11.size < b ∧ b < h13.size := fun b hb => ⟨hwb b hb, ow.own.lt b hb⟩
        have nw : ∀ {b : Nat}, b ≤ h11.size → b ∉ wb := fun hb hm => by have := hwb _ hm; omega
        have z14 := f14.size
        have x415 := (x4.fr f14 (by simp)).fr f15 (nw (by omega))
        try simp (disch := first | assumption | omega | (apply At.mk; with_unfolding_all rfl)) only [↓go_eq, ↓ent_eq, Mv, NilC_at, Fld_at, add_mk, Nat.zero_add, Nat.add_zero, Add64, Sub64, Mul64, Quo64, Rem64, Neg64, Cvt64, CvtU8, CvtU16, CvtU32, CvtU64, AddU64, SubU64, MulU64, Shr64, Shr_u8, Shr_u16, Shr_u32, Shr_u64, And1, And31, And32, Eql64, Neq64, Bin_lss, Bin_leq, Bin_gtr, Bin_geq, Bin_bool_eql, Bin_bool_neq, Bin_ptr_nil_eql, Bin_ptr_nil_neq, Not_dec, Un_not, Pick_t, Pick_f, Pick_pos, Pick_neg, Gd_tt, Gd_tf, Gd_ft, Gd_ff, Gd_pos_t, Gd_neg_t, Gd_pos_f, Gd_neg_f, Gd_undef, If_t, If_f, If_pos, If_neg, CallF_eq, Max_two, Min_two, Len_rd, Len_own, Ld_blkE, Idx_rdN, Idx_ownN, Idx_rdE, Idx_ownE, IdxAE, LdA_two, Idx_at0, Ext_atE, Len_at, Int.toNat_natCast, Int.toNat_zero, Int.toNat_one, List.length_map, List.length_append, List.length_cons, List.length_nil, List.length_take, List.length_set, List.length_replicate, Bool.not_true, Bool.not_false, decide_true, decide_false, BEq.rfl, bne_self_eq_false, tf_beq, ft_beq, tf_bne, ft_bne, not_true_eq_false, not_false_eq_true, app]
        refine St_blk x415 (by simp) o15.rd.isCell fun h16 b16 f16 => ?_
        have z15 := f15.size
        have z16 := f16.size
        have hb15' : ∀ b ∈ wb', h11.size < b := fun b hb => by
          rcases hb15 b hb with q | q
          · exact hwb b q
          · omega
        have f1316 : Fr (wk :: wb) h13 h16 := ((f14.mono (by simp)).trans (f15.mono (by intro y hy; exact List.mem_cons_of_mem _ hy))).trans (f16.mono (by simp))
        have hS : ∀ b ∈ wk :: wb, h11.size ≤ b := fun b hb => by
          rcases List.mem_cons.1 hb with q | q
          · omega
          · have := hwb b q; omega
        have ol : ∀ {b : Nat}, b < h11.size → b ∉ wk :: wb := fun hb hm => by have := hS _ hm; omega
        refine hJ (wv', ws' ++ [x'], wb') h16 ⟨?_, hb15', b16, xl.fr f1316 (ol (by omega)), xr.fr f1316 (ol (by omega)), xf.fr f1316 (ol (by omega)), xs.fr f1316 (ol (by omega)), ⟨S13.st.frS f1316 fun b hb => ?_, S13.eq, S13.len, S13.each, S13.ok⟩, hl13.fr f1316 (fun b hb => ol (hlb' b hb)), f613.trans' f1316 fun b hb => .inr (by have := hS b hb; omega), f013.trans' f1316 fun b hb => .inr (by have := hS b hb; omega), by omega⟩
        · simp only
          rw [hst]
          exact OwC.snoc ow.len ow.get (o15.fr f16 fun b hb hm => by simp at hm; subst hm; have := hb15' _ hb; omega) rx6
        · have q := hS b hb
          exact ⟨fun e => by omega, fun hm => by have := hpsl.1 b hm; omega, fun p hp hm => by have := hpsl.2 p hp b hm; omega⟩
      · rw [if_neg c2, List.append_nil] at hst
        rw [decide_eq_false c2]
        try simp (disch := first | assumption | omega | (apply At.mk; with_unfolding_all rfl)) only [↓go_eq, ↓ent_eq, Mv, NilC_at, Fld_at, add_mk, Nat.zero_add, Nat.add_zero, Add64, Sub64, Mul64, Quo64, Rem64, Neg64, Cvt64, CvtU8, CvtU16, CvtU32, CvtU64, AddU64, SubU64, MulU64, Shr64, Shr_u8, Shr_u16, Shr_u32, Shr_u64, And1, And31, And32, Eql64, Neq64, Bin_lss, Bin_leq, Bin_gtr, Bin_geq, Bin_bool_eql, Bin_bool_neq, Bin_ptr_nil_eql, Bin_ptr_nil_neq, Not_dec, Un_not, Pick_t, Pick_f, Pick_pos, Pick_neg, Gd_tt, Gd_tf, Gd_ft, Gd_ff, Gd_pos_t, Gd_neg_t, Gd_pos_f, Gd_neg_f, Gd_undef, If_t, If_f, If_pos, If_neg, CallF_eq, Max_two, Min_two, Len_rd, Len_own, Ld_blkE, Idx_rdN, Idx_ownN, Idx_rdE, Idx_ownE, IdxAE, LdA_two, Idx_at0, Ext_atE, Len_at, Int.toNat_natCast, Int.toNat_zero, Int.toNat_one, List.length_map, List.length_append, List.length_cons, List.length_nil, List.length_take, List.length_set, List.length_replicate, Bool.not_true, Bool.not_false, decide_true, decide_false, BEq.rfl, bne_self_eq_false, tf_beq, ft_beq, tf_bne, ft_bne, not_true_eq_false, not_false_eq_true, app]
        exact hJ (wv, ws', wb) h13 ⟨by simp only; rw [hst]; exact ow, hwb, x4, xl, xr, xf, xs, S13, hl13, f613, f013, z13⟩
    · rintro ⟨wv', ws2, wb'⟩ h14 ⟨q1, q2, q3, q4, q5, q6, q7, q8, q9, q10, q11, q12⟩
      try simp (disch := first | assumption | omega | (apply At.mk; with_unfolding_all rfl)) only [↓go_eq, ↓ent_eq, Mv, NilC_at, Fld_at, add_mk, Nat.zero_add, Nat.add_zero, Add64, Sub64, Mul64, Quo64, Rem64, Neg64, Cvt64, CvtU8, CvtU16, CvtU32, CvtU64, AddU64, SubU64, MulU64, Shr64, Shr_u8, Shr_u16, Shr_u32, Shr_u64, And1, And31, And32, Eql64, Neq64, Bin_lss, Bin_leq, Bin_gtr, Bin_geq, Bin_bool_eql, Bin_bool_neq, Bin_ptr_nil_eql, Bin_ptr_nil_neq, Not_dec, Un_not, Pick_t, Pick_f, Pick_pos, Pick_neg, Gd_tt, Gd_tf, Gd_ft, Gd_ff, Gd_pos_t, Gd_neg_t, Gd_pos_f, Gd_neg_f, Gd_undef, If_t, If_f, If_pos, If_neg, CallF_eq, Max_two, Min_two, Len_rd, Len_own, Ld_blkE, Idx_rdN, Idx_ownN, Idx_rdE, Idx_ownE, IdxAE, LdA_two, Idx_at0, Ext_atE, Len_at, Int.toNat_natCast, Int.toNat_zero, Int.toNat_one, List.length_map, List.length_append, List.length_cons, List.length_nil, List.length_take, List.length_set, List.length_replicate, Bool.not_true, Bool.not_false, decide_true, decide_false, BEq.rfl, bne_self_eq_false, tf_beq, ft_beq, tf_bne, ft_bne, not_true_eq_false, not_false_eq_true, app]
      try simp only [show (i : Int) + 1 = ((i + 1 : Nat) : Int) from by omega]
      exact hX (i + 1, wv', ws2, wb') h14 ⟨by simp only; omega, q1, q2, q3, q4, q5, q6, q7, q8, q9, q10, q11, q12⟩ (by simp only; omega)
  clear hX
  rw [List.take_of_length_le (by omega)] at ow
  have hW : ((cls ps).filter fun c => decide (l ∈ c)) = (cs.filter fun c => decide (l ∈ c)).map nf := by rw [S13.eq, filt_nf]
  have hWc : ∀ c ∈ cs.filter (fun c => decide (l ∈ c)), c ∈ cs := fun c hc => (List.mem_filter.1 hc).1
  have hWl : (cs.filter fun c => decide (l ∈ c)).length ≤ cs.length := List.length_filter_le _ _
  have hpl := S13.plen
  have hpe := S13.peach
  generalize (cs.filter fun c => decide (l ∈ c)) = W at *
  try simp (disch := first | assumption | omega | (apply At.mk; with_unfolding_all rfl)) only [↓go_eq, ↓ent_eq, Mv, NilC_at, Fld_at, add_mk, Nat.zero_add, Nat.add_zero, Add64, Sub64, Mul64, Quo64, Rem64, Neg64, Cvt64, CvtU8, CvtU16, CvtU32, CvtU64, AddU64, SubU64, MulU64, Shr64, Shr_u8, Shr_u16, Shr_u32, Shr_u64, And1, And31, And32, Eql64, Neq64, Bin_lss, Bin_leq, Bin_gtr, Bin_geq, Bin_bool_eql, Bin_bool_neq, Bin_ptr_nil_eql, Bin_ptr_nil_neq, Not_dec, Un_not, Pick_t, Pick_f, Pick_pos, Pick_neg, Gd_tt, Gd_tf, Gd_ft, Gd_ff, Gd_pos_t, Gd_neg_t, Gd_pos_f, Gd_neg_f, Gd_undef, If_t, If_f, If_pos, If_neg, CallF_eq, Max_two, Min_two, Len_rd, Len_own, Ld_blkE, Idx_rdN, Idx_ownN, Idx_rdE, Idx_ownE, IdxAE, LdA_two, Idx_at0, Ext_atE, Len_at, Int.toNat_natCast, Int.toNat_zero, Int.toNat_one, List.length_map, List.length_append, List.length_cons, List.length_nil, List.length_take, List.length_set, List.length_replicate, Bool.not_true, Bool.not_false, decide_true, decide_false, BEq.rfl, bne_self_eq_false, tf_beq, ft_beq, tf_bne, ft_bne, not_true_eq_false, not_false_eq_true, app]
  refine New_blk fun h14 b14 f14 s14 => ?_
  have b14 : Blk h14 h13.size [Iv 0] := b14
  try simp (disch := first | assumption | omega | (apply At.mk; with_unfolding_all rfl)) only [↓go_eq, ↓ent_eq, Mv, NilC_at, Fld_at, add_mk, Nat.zero_add, Nat.add_zero, Add64, Sub64, Mul64, Quo64, Rem64, Neg64, Cvt64, CvtU8, CvtU16, CvtU32, CvtU64, AddU64, SubU64, MulU64, Shr64, Shr_u8, Shr_u16, Shr_u32, Shr_u64, And1, And31, And32, Eql64, Neq64, Bin_lss, Bin_leq, Bin_gtr, Bin_geq, Bin_bool_eql, Bin_bool_neq, Bin_ptr_nil_eql, Bin_ptr_nil_neq, Not_dec, Un_not, Pick_t, Pick_f, Pick_pos, Pick_neg, Gd_tt, Gd_tf, Gd_ft, Gd_ff, Gd_pos_t, Gd_neg_t, Gd_pos_f, Gd_neg_f, Gd_undef, If_t, If_f, If_pos, If_neg, CallF_eq, Max_two, Min_two, Len_rd, Len_own, Ld_blkE, Idx_rdN, Idx_ownN, Idx_rdE, Idx_ownE, IdxAE, LdA_two, Idx_at0, Ext_atE, Len_at, Int.toNat_natCast, Int.toNat_zero, Int.toNat_one, List.length_map, List.length_append, List.length_cons, List.length_nil, List.length_take, List.length_set, List.length_replicate, Bool.not_true, Bool.not_false, decide_true, decide_false, BEq.rfl, bne_self_eq_false, tf_beq, ft_beq, tf_bne, ft_bne, not_true_eq_false, not_false_eq_true, app]
  refine St_blk b14 (by simp) rfl fun h15 b15 f15 => ?_
  obtain ⟨kb, hkb⟩ : ∃ kb, kb = h13.size := ⟨_, rfl⟩
  rw [← hkb] at b15 f15 ⊢
  have b15 : Blk h15 kb [Iv 0] := b15
  have f1315 : Fr [] h13 h15 := f14.trans' f15 (by simp; omega)
  have x4l := x4.lt
  have owl := ow.own.lt
  have x4 := x4.fr f1315 (by simp)
  have xl := xl.fr f1315 (by simp)
  have xr := xr.fr f1315 (by simp)
  have xf := xf.fr f1315 (by simp)
  have xs := xs.fr f1315 (by simp)
  have S15 := S13.fr f1315
  have hl15 := hl13.fr f1315 (by simp)
  have ow := ow.fr f1315 (by simp)
  have hrl15 := hl15.rd
  have f615 := f613.trans f1315
  have f015 := f013.trans f1315
  have hkl : kb < h15.size := b15.lt
  clear b14 f14 f15 s14 S13 hl13 f613 f013 hrd hrl13
  refine Jn_fn (σ := Unit) (fun _ => [ptr rb, ptr fb, ptr sk, ptr wk, ptr kb]) (fun _ h' => Blk h' rb [.bool false] ∧ Blk h' fb [Iv n, uf] ∧ Blk h' sk [ptr sb] ∧ Blk h' wk [wv] ∧ OwC h6 h' wv W ws' wb ∧ Blk h' kb [Iv (W.length : Nat)] ∧ StF h' sb n h6.size cs u b0 ps ∧ Fr [] h6 h' ∧ Fr [] h h') ?_ ?_
  · intro J hJ
    try simp (disch := first | assumption | omega | (apply At.mk; with_unfolding_all rfl)) only [↓go_eq, ↓ent_eq, Mv, NilC_at, Fld_at, add_mk, Nat.zero_add, Nat.add_zero, Add64, Sub64, Mul64, Quo64, Rem64, Neg64, Cvt64, CvtU8, CvtU16, CvtU32, CvtU64, AddU64, SubU64, MulU64, Shr64, Shr_u8, Shr_u16, Shr_u32, Shr_u64, And1, And31, And32, Eql64, Neq64, Bin_lss, Bin_leq, Bin_gtr, Bin_geq, Bin_bool_eql, Bin_bool_neq, Bin_ptr_nil_eql, Bin_ptr_nil_neq, Not_dec, Un_not, Pick_t, Pick_f, Pick_pos, Pick_neg, Gd_tt, Gd_tf, Gd_ft, Gd_ff, Gd_pos_t, Gd_neg_t, Gd_pos_f, Gd_neg_f, Gd_undef, If_t, If_f, If_pos, If_neg, CallF_eq, Max_two, Min_two, Len_rd, Len_own, Ld_blkE, Idx_rdN, Idx_ownN, Idx_rdE, Idx_ownE, IdxAE, LdA_two, Idx_at0, Ext_atE, Len_at, Int.toNat_natCast, Int.toNat_zero, Int.toNat_one, List.length_map, List.length_append, List.length_cons, List.length_nil, List.length_take, List.length_set, List.length_replicate, Bool.not_true, Bool.not_false, decide_true, decide_false, BEq.rfl, bne_self_eq_false, tf_beq, ft_beq, tf_bne, ft_bne, not_true_eq_false, not_false_eq_true, app]
    refine rup_Store_With.spec fun t2 t3 h16 z2 z3 c2 c3 f16 => ?_
    try simp (disch := first | assumption | omega | (apply At.mk; with_unfolding_all rfl)) only [↓go_eq, ↓ent_eq, Mv, NilC_at, Fld_at, add_mk, Nat.zero_add, Nat.add_zero, Add64, Sub64, Mul64, Quo64, Rem64, Neg64, Cvt64, CvtU8, CvtU16, CvtU32, CvtU64, AddU64, SubU64, MulU64, Shr64, Shr_u8, Shr_u16, Shr_u32, Shr_u64, And1, And31, And32, Eql64, Neq64, Bin_lss, Bin_leq, Bin_gtr, Bin_geq, Bin_bool_eql, Bin_bool_neq, Bin_ptr_nil_eql, Bin_ptr_nil_neq, Not_dec, Un_not, Pick_t, Pick_f, Pick_pos, Pick_neg, Gd_tt, Gd_tf, Gd_ft, Gd_ff, Gd_pos_t, Gd_neg_t, Gd_pos_f, Gd_neg_f, Gd_undef, If_t, If_f, If_pos, If_neg, CallF_eq, Max_two, Min_two, Len_rd, Len_own, Ld_blkE, Idx_rdN, Idx_ownN, Idx_rdE, Idx_ownE, IdxAE, LdA_two, Idx_at0, Ext_atE, Len_at, Int.toNat_natCast, Int.toNat_zero, Int.toNat_one, List.length_map, List.length_append, List.length_cons, List.length_nil, List.length_take, List.length_set, List.length_replicate, Bool.not_true, Bool.not_false, decide_true, decide_false, BEq.rfl, bne_self_eq_false, tf_beq, ft_beq, tf_bne, ft_bne, not_true_eq_false, not_false_eq_true, app]
    have hj : WJ h6 n sb h6.size fb rb lb sk wk kb t2 t3 lv l cs W uf u wv b0 wb ps ws' wf h 0 h16 := by
      refine ⟨c2, c3, S15.fr f16, xr.fr f16 (by simp), xf.fr f16 (by simp), xl.fr f16 (by simp), xs.fr f16 (by simp), x4.fr f16 (by simp), ow.fr f16 (by simp), b15.fr f16 (by simp), f615.trans f16, f015.trans f16, ?_⟩
      have hb0 : kb ∉ b0 := fun hm => by have := hpsl.1 _ hm; omega
      have hwb0 : kb ∉ wb := fun hm => by have := owl _ hm; omega
      have z613 := f1315.size
      refine ⟨?_, fun p hp hm => by have := hpsl.2 p hp _ hm; omega, by omega, by omega, by omega⟩
      simp only [List.mem_cons, List.mem_append, not_or]
      exact ⟨by omega, by omega, by omega, by omega, by omega, by omega, by omega, by omega, hwb0, hb0⟩
    refine Rng_ruleD (by kernel_rfl) (With_seq (t2 := t2) (t3 := t3) (sb := sb) (n := n) (N := h6.size) (u := u) (b0 := b0) (ps := ps) (l := l) (by omega) hpe)
      (WJ h6 n sb h6.size fb rb lb sk wk kb t2 t3 lv l cs W uf u wv b0 wb ps ws' wf h) (fun ex h' => ex = .ret ∧ Blk h' rb [.bool true] ∧ Fr [] h h')
      (fun i h' j => ⟨j.b2, j.b3, j.st.st⟩) (fun i k ha hb hl o j => j.one o (by have := f16.size; have := f615.size; omega) (by have := f16.size; have := f015.size; omega)) ?_ (fun i ha hb j f => j.frE f) ?_ (fun ha f => hj.frE f) ?_ ?_ ?_
    · rintro ex k ha hb hl o ⟨e, b, f⟩
      exact ⟨e, b.one o, f.one o (by have := f16.size; have := f015.size; omega)⟩
    · rintro i x m k ha hb o ⟨c, bs, g1, g2, g3⟩
      exact ⟨c, bs, g1, g2.one o, g3⟩
    · rintro i x ha hb B N L hi j0 hB hN hL
      rw [hW, List.length_map] at hi
      refine hB _ fun h17 j ⟨c, bs, g1, g2, g3⟩ => ?_
      have hgW : W[i]? = some W[i] := List.getElem?_eq_getElem hi
      have hmW := List.getElem_mem hi
      have hdc := hWc _ hmW
      have hdl := hclw _ hdc
      have hdo := j.st.ok _ hdc
      generalize W[i] = d at *
      rw [hW, List.getElem?_map, hgW] at g1
      have ec : nf d = c := by simpa using g1
      subst ec
      obtain ⟨y, ay, ry⟩ := (j.ow.rdl j.fr).get i _ hgW
      have k1 := j.xk
      have k2 := j.wk
      have k3 := j.ow.own
      have k4 := j.ow.len
      have rx := g2.rd
      have nl := nf_len d
      have ng : ¬ ((i : Int) ≥ (W.length : Nat)) := by omega
      try simp (disch := first | assumption | omega | (apply At.mk; with_unfolding_all rfl)) only [k4, ↓go_eq, ↓ent_eq, Mv, NilC_at, Fld_at, add_mk, Nat.zero_add, Nat.add_zero, Add64, Sub64, Mul64, Quo64, Rem64, Neg64, Cvt64, CvtU8, CvtU16, CvtU32, CvtU64, AddU64, SubU64, MulU64, Shr64, Shr_u8, Shr_u16, Shr_u32, Shr_u64, And1, And31, And32, Eql64, Neq64, Bin_lss, Bin_leq, Bin_gtr, Bin_geq, Bin_bool_eql, Bin_bool_neq, Bin_ptr_nil_eql, Bin_ptr_nil_neq, Not_dec, Un_not, Pick_t, Pick_f, Pick_pos, Pick_neg, Gd_tt, Gd_tf, Gd_ft, Gd_ff, Gd_pos_t, Gd_neg_t, Gd_pos_f, Gd_neg_f, Gd_undef, If_t, If_f, If_pos, If_neg, CallF_eq, Max_two, Min_two, Len_rd, Len_own, Ld_blkE, Idx_rdN, Idx_ownN, Idx_rdE, Idx_ownE, IdxAE, LdA_two, Idx_at0, Ext_atE, Len_at, Int.toNat_natCast, Int.toNat_zero, Int.toNat_one, List.length_map, List.length_append, List.length_cons, List.length_nil, List.length_take, List.length_set, List.length_replicate, Bool.not_true, Bool.not_false, decide_true, decide_false, BEq.rfl, bne_self_eq_false, tf_beq, ft_beq, tf_bne, ft_bne, not_true_eq_false, not_false_eq_true, app]
      refine same_q (by omega) (by omega) rx ry ?_
      rw [decide_eq_true (sameT_nf.2 (nf_id (nf_asc d)))]
      try simp (disch := first | assumption | omega | (apply At.mk; with_unfolding_all rfl)) only [↓go_eq, ↓ent_eq, Mv, NilC_at, Fld_at, add_mk, Nat.zero_add, Nat.add_zero, Add64, Sub64, Mul64, Quo64, Rem64, Neg64, Cvt64, CvtU8, CvtU16, CvtU32, CvtU64, AddU64, SubU64, MulU64, Shr64, Shr_u8, Shr_u16, Shr_u32, Shr_u64, And1, And31, And32, Eql64, Neq64, Bin_lss, Bin_leq, Bin_gtr, Bin_geq, Bin_bool_eql, Bin_bool_neq, Bin_ptr_nil_eql, Bin_ptr_nil_neq, Not_dec, Un_not, Pick_t, Pick_f, Pick_pos, Pick_neg, Gd_tt, Gd_tf, Gd_ft, Gd_ff, Gd_pos_t, Gd_neg_t, Gd_pos_f, Gd_neg_f, Gd_undef, If_t, If_f, If_pos, If_neg, CallF_eq, Max_two, Min_two, Len_rd, Len_own, Ld_blkE, Idx_rdN, Idx_ownN, Idx_rdE, Idx_ownE, IdxAE, LdA_two, Idx_at0, Ext_atE, Len_at, Int.toNat_natCast, Int.toNat_zero, Int.toNat_one, List.length_map, List.length_append, List.length_cons, List.length_nil, List.length_take, List.length_set, List.length_replicate, Bool.not_true, Bool.not_false, decide_true, decide_false, BEq.rfl, bne_self_eq_false, tf_beq, ft_beq, tf_bne, ft_bne, not_true_eq_false, not_false_eq_true, app]
      refine rising_q (by omega) (fun z hz => (hdo z (nf_mem.1 hz)).sm (by omega)) (nf_asc d) rx ?_
      try simp (disch := first | assumption | omega | (apply At.mk; with_unfolding_all rfl)) only [↓go_eq, ↓ent_eq, Mv, NilC_at, Fld_at, add_mk, Nat.zero_add, Nat.add_zero, Add64, Sub64, Mul64, Quo64, Rem64, Neg64, Cvt64, CvtU8, CvtU16, CvtU32, CvtU64, AddU64, SubU64, MulU64, Shr64, Shr_u8, Shr_u16, Shr_u32, Shr_u64, And1, And31, And32, Eql64, Neq64, Bin_lss, Bin_leq, Bin_gtr, Bin_geq, Bin_bool_eql, Bin_bool_neq, Bin_ptr_nil_eql, Bin_ptr_nil_neq, Not_dec, Un_not, Pick_t, Pick_f, Pick_pos, Pick_neg, Gd_tt, Gd_tf, Gd_ft, Gd_ff, Gd_pos_t, Gd_neg_t, Gd_pos_f, Gd_neg_f, Gd_undef, If_t, If_f, If_pos, If_neg, CallF_eq, Max_two, Min_two, Len_rd, Len_own, Ld_blkE, Idx_rdN, Idx_ownN, Idx_rdE, Idx_ownE, IdxAE, LdA_two, Idx_at0, Ext_atE, Len_at, Int.toNat_natCast, Int.toNat_zero, Int.toNat_one, List.length_map, List.length_append, List.length_cons, List.length_nil, List.length_take, List.length_set, List.length_replicate, Bool.not_true, Bool.not_false, decide_true, decide_false, BEq.rfl, bne_self_eq_false, tf_beq, ft_beq, tf_bne, ft_bne, not_true_eq_false, not_false_eq_true, app]
      refine Lp_fn (σ := Nat × List Int) (fun s => [ptr lb, ptr rb, ptr sk, ptr wk, ptr kb, x, Iv ((nf d).length : Nat), Iv (s.1 : Nat)]) (fun s h' => s.1 ≤ (nf d).length ∧ s.2.length = (nf d).length ∧ Own h' x (s.2.map Iv) bs ∧ Fr bs h17 h') (fun s => (nf d).length - s.1) (0, nf d) rfl (fun _ => rfl) ⟨Nat.zero_le _, rfl, g2, Fr.refl _ _⟩ ?_
      clear rx g2 k1 k2 k3
      rintro ⟨q, e⟩ h18 ⟨hq, he, o18, f18⟩ Y hY
      simp only at hq he o18
      by_cases c4 : (q : Int) < ((nf d).length : Nat)
      · try simp (disch := first | assumption | omega | (apply At.mk; with_unfolding_all rfl)) only [↓go_eq, ↓ent_eq, Mv, NilC_at, Fld_at, add_mk, Nat.zero_add, Nat.add_zero, Add64, Sub64, Mul64, Quo64, Rem64, Neg64, Cvt64, CvtU8, CvtU16, CvtU32, CvtU64, AddU64, SubU64, MulU64, Shr64, Shr_u8, Shr_u16, Shr_u32, Shr_u64, And1, And31, And32, Eql64, Neq64, Bin_lss, Bin_leq, Bin_gtr, Bin_geq, Bin_bool_eql, Bin_bool_neq, Bin_ptr_nil_eql, Bin_ptr_nil_neq, Not_dec, Un_not, Pick_t, Pick_f, Pick_pos, Pick_neg, Gd_tt, Gd_tf, Gd_ft, Gd_ff, Gd_pos_t, Gd_neg_t, Gd_pos_f, Gd_neg_f, Gd_undef, If_t, If_f, If_pos, If_neg, CallF_eq, Max_two, Min_two, Len_rd, Len_own, Ld_blkE, Idx_rdN, Idx_ownN, Idx_rdE, Idx_ownE, IdxAE, LdA_two, Idx_at0, Ext_atE, Len_at, Int.toNat_natCast, Int.toNat_zero, Int.toNat_one, List.length_map, List.length_append, List.length_cons, List.length_nil, List.length_take, List.length_set, List.length_replicate, Bool.not_true, Bool.not_false, decide_true, decide_false, BEq.rfl, bne_self_eq_false, tf_beq, ft_beq, tf_bne, ft_bne, not_true_eq_false, not_false_eq_true, app]
        refine o18.put (by omega) (by simp; omega) rfl fun h19 o19 f19 _ => ?_
        rw [Int.toNat_natCast, ← List.map_set] at o19
        try simp (disch := first | assumption | omega | (apply At.mk; with_unfolding_all rfl)) only [↓go_eq, ↓ent_eq, Mv, NilC_at, Fld_at, add_mk, Nat.zero_add, Nat.add_zero, Add64, Sub64, Mul64, Quo64, Rem64, Neg64, Cvt64, CvtU8, CvtU16, CvtU32, CvtU64, AddU64, SubU64, MulU64, Shr64, Shr_u8, Shr_u16, Shr_u32, Shr_u64, And1, And31, And32, Eql64, Neq64, Bin_lss, Bin_leq, Bin_gtr, Bin_geq, Bin_bool_eql, Bin_bool_neq, Bin_ptr_nil_eql, Bin_ptr_nil_neq, Not_dec, Un_not, Pick_t, Pick_f, Pick_pos, Pick_neg, Gd_tt, Gd_tf, Gd_ft, Gd_ff, Gd_pos_t, Gd_neg_t, Gd_pos_f, Gd_neg_f, Gd_undef, If_t, If_f, If_pos, If_neg, CallF_eq, Max_two, Min_two, Len_rd, Len_own, Ld_blkE, Idx_rdN, Idx_ownN, Idx_rdE, Idx_ownE, IdxAE, LdA_two, Idx_at0, Ext_atE, Len_at, Int.toNat_natCast, Int.toNat_zero, Int.toNat_one, List.length_map, List.length_append, List.length_cons, List.length_nil, List.length_take, List.length_set, List.length_replicate, Bool.not_true, Bool.not_false, decide_true, decide_false, BEq.rfl, bne_self_eq_false, tf_beq, ft_beq, tf_bne, ft_bne, not_true_eq_false, not_false_eq_true, app]
        try simp only [show (q : Int) + 1 = ((q + 1 : Nat) : Int) from by omega]
        exact hY (q + 1, _) h19 ⟨by simp only; omega, by simp only [List.length_set]; exact he, o19, f18.trans f19⟩ (by simp only; omega)
      clear hY
      have j18 := j0.frS j f18 g3
      have k1 := j18.xk
      try simp (disch := first | assumption | omega | (apply At.mk; with_unfolding_all rfl)) only [↓go_eq, ↓ent_eq, Mv, NilC_at, Fld_at, add_mk, Nat.zero_add, Nat.add_zero, Add64, Sub64, Mul64, Quo64, Rem64, Neg64, Cvt64, CvtU8, CvtU16, CvtU32, CvtU64, AddU64, SubU64, MulU64, Shr64, Shr_u8, Shr_u16, Shr_u32, Shr_u64, And1, And31, And32, Eql64, Neq64, Bin_lss, Bin_leq, Bin_gtr, Bin_geq, Bin_bool_eql, Bin_bool_neq, Bin_ptr_nil_eql, Bin_ptr_nil_neq, Not_dec, Un_not, Pick_t, Pick_f, Pick_pos, Pick_neg, Gd_tt, Gd_tf, Gd_ft, Gd_ff, Gd_pos_t, Gd_neg_t, Gd_pos_f, Gd_neg_f, Gd_undef, If_t, If_f, If_pos, If_neg, CallF_eq, Max_two, Min_two, Len_rd, Len_own, Ld_blkE, Idx_rdN, Idx_ownN, Idx_rdE, Idx_ownE, IdxAE, LdA_two, Idx_at0, Ext_atE, Len_at, Int.toNat_natCast, Int.toNat_zero, Int.toNat_one, List.length_map, List.length_append, List.length_cons, List.length_nil, List.length_take, List.length_set, List.length_replicate, Bool.not_true, Bool.not_false, decide_true, decide_false, BEq.rfl, bne_self_eq_false, tf_beq, ft_beq, tf_bne, ft_bne, not_true_eq_false, not_false_eq_true, app]
      refine St_blk k1 (by simp) rfl fun h19 b19 f19 => ?_
      have b19 : Blk h19 kb [Iv ((i : Int) + 1)] := b19
      rw [show (i : Int) + 1 = ((i + 1 : Nat) : Int) from by omega] at b19
      have j19 := j18.step b19 f19
      have k5 := j19.xl
      try simp (disch := first | assumption | omega | (apply At.mk; with_unfolding_all rfl)) only [↓go_eq, ↓ent_eq, Mv, NilC_at, Fld_at, add_mk, Nat.zero_add, Nat.add_zero, Add64, Sub64, Mul64, Quo64, Rem64, Neg64, Cvt64, CvtU8, CvtU16, CvtU32, CvtU64, AddU64, SubU64, MulU64, Shr64, Shr_u8, Shr_u16, Shr_u32, Shr_u64, And1, And31, And32, Eql64, Neq64, Bin_lss, Bin_leq, Bin_gtr, Bin_geq, Bin_bool_eql, Bin_bool_neq, Bin_ptr_nil_eql, Bin_ptr_nil_neq, Not_dec, Un_not, Pick_t, Pick_f, Pick_pos, Pick_neg, Gd_tt, Gd_tf, Gd_ft, Gd_ff, Gd_pos_t, Gd_neg_t, Gd_pos_f, Gd_neg_f, Gd_undef, If_t, If_f, If_pos, If_neg, CallF_eq, Max_two, Min_two, Len_rd, Len_own, Ld_blkE, Idx_rdN, Idx_ownN, Idx_rdE, Idx_ownE, IdxAE, LdA_two, Idx_at0, Ext_atE, Len_at, Int.toNat_natCast, Int.toNat_zero, Int.toNat_one, List.length_map, List.length_append, List.length_cons, List.length_nil, List.length_take, List.length_set, List.length_replicate, Bool.not_true, Bool.not_false, decide_true, decide_false, BEq.rfl, bne_self_eq_false, tf_beq, ft_beq, tf_bne, ft_bne, not_true_eq_false, not_false_eq_true, app]
      by_cases c5 : ((i + 1 : Nat) : Int) = lv
      · have k6 := j19.sk
        have k7 := j19.wk
        have k8 := j19.ow.own
        obtain ⟨y', ay', ry'⟩ := (j19.ow.rdl j19.fr).get i _ hgW
        have e1 : (((i + 1 : Nat) : Int) - 1).toNat = i := by omega
        rw [← e1] at ay'
        try simp (disch := first | assumption | omega | (apply At.mk; with_unfolding_all rfl)) only [↓go_eq, ↓ent_eq, Mv, NilC_at, Fld_at, add_mk, Nat.zero_add, Nat.add_zero, Add64, Sub64, Mul64, Quo64, Rem64, Neg64, Cvt64, CvtU8, CvtU16, CvtU32, CvtU64, AddU64, SubU64, MulU64, Shr64, Shr_u8, Shr_u16, Shr_u32, Shr_u64, And1, And31, And32, Eql64, Neq64, Bin_lss, Bin_leq, Bin_gtr, Bin_geq, Bin_bool_eql, Bin_bool_neq, Bin_ptr_nil_eql, Bin_ptr_nil_neq, Not_dec, Un_not, Pick_t, Pick_f, Pick_pos, Pick_neg, Gd_tt, Gd_tf, Gd_ft, Gd_ff, Gd_pos_t, Gd_neg_t, Gd_pos_f, Gd_neg_f, Gd_undef, If_t, If_f, If_pos, If_neg, CallF_eq, Max_two, Min_two, Len_rd, Len_own, Ld_blkE, Idx_rdN, Idx_ownN, Idx_rdE, Idx_ownE, IdxAE, LdA_two, Idx_at0, Ext_atE, Len_at, Int.toNat_natCast, Int.toNat_zero, Int.toNat_one, List.length_map, List.length_append, List.length_cons, List.length_nil, List.length_take, List.length_set, List.length_replicate, Bool.not_true, Bool.not_false, decide_true, decide_false, BEq.rfl, bne_self_eq_false, tf_beq, ft_beq, tf_bne, ft_bne, not_true_eq_false, not_false_eq_true, app]
        refine j19.st.has (by omega) (by omega) (fun z hz => (hdo z hz).sm (by omega)) ry' fun h20 f20 => ?_
        rw [decide_eq_true (show HasT n (cs.map nf) d from ⟨hdo, List.mem_map.2 ⟨d, hdc, rfl⟩⟩)]
        have k9 := j19.xr.fr f20 (by simp)
        try simp (disch := first | assumption | omega | (apply At.mk; with_unfolding_all rfl)) only [↓go_eq, ↓ent_eq, Mv, NilC_at, Fld_at, add_mk, Nat.zero_add, Nat.add_zero, Add64, Sub64, Mul64, Quo64, Rem64, Neg64, Cvt64, CvtU8, CvtU16, CvtU32, CvtU64, AddU64, SubU64, MulU64, Shr64, Shr_u8, Shr_u16, Shr_u32, Shr_u64, And1, And31, And32, Eql64, Neq64, Bin_lss, Bin_leq, Bin_gtr, Bin_geq, Bin_bool_eql, Bin_bool_neq, Bin_ptr_nil_eql, Bin_ptr_nil_neq, Not_dec, Un_not, Pick_t, Pick_f, Pick_pos, Pick_neg, Gd_tt, Gd_tf, Gd_ft, Gd_ff, Gd_pos_t, Gd_neg_t, Gd_pos_f, Gd_neg_f, Gd_undef, If_t, If_f, If_pos, If_neg, CallF_eq, Max_two, Min_two, Len_rd, Len_own, Ld_blkE, Idx_rdN, Idx_ownN, Idx_rdE, Idx_ownE, IdxAE, LdA_two, Idx_at0, Ext_atE, Len_at, Int.toNat_natCast, Int.toNat_zero, Int.toNat_one, List.length_map, List.length_append, List.length_cons, List.length_nil, List.length_take, List.length_set, List.length_replicate, Bool.not_true, Bool.not_false, decide_true, decide_false, BEq.rfl, bne_self_eq_false, tf_beq, ft_beq, tf_bne, ft_bne, not_true_eq_false, not_false_eq_true, app]
        refine St_blk k9 (by simp) rfl fun h21 b21 f21 => ?_
        have := j19.ne.2.2.2.2
        exact hL _ _ ⟨rfl, b21, (j19.frH.trans f20).trans' f21 (by simp; omega)⟩
      · try simp (disch := first | assumption | omega | (apply At.mk; with_unfolding_all rfl)) only [↓go_eq, ↓ent_eq, Mv, NilC_at, Fld_at, add_mk, Nat.zero_add, Nat.add_zero, Add64, Sub64, Mul64, Quo64, Rem64, Neg64, Cvt64, CvtU8, CvtU16, CvtU32, CvtU64, AddU64, SubU64, MulU64, Shr64, Shr_u8, Shr_u16, Shr_u32, Shr_u64, And1, And31, And32, Eql64, Neq64, Bin_lss, Bin_leq, Bin_gtr, Bin_geq, Bin_bool_eql, Bin_bool_neq, Bin_ptr_nil_eql, Bin_ptr_nil_neq, Not_dec, Un_not, Pick_t, Pick_f, Pick_pos, Pick_neg, Gd_tt, Gd_tf, Gd_ft, Gd_ff, Gd_pos_t, Gd_neg_t, Gd_pos_f, Gd_neg_f, Gd_undef, If_t, If_f, If_pos, If_neg, CallF_eq, Max_two, Min_two, Len_rd, Len_own, Ld_blkE, Idx_rdN, Idx_ownN, Idx_rdE, Idx_ownE, IdxAE, LdA_two, Idx_at0, Ext_atE, Len_at, Int.toNat_natCast, Int.toNat_zero, Int.toNat_one, List.length_map, List.length_append, List.length_cons, List.length_nil, List.length_take, List.length_set, List.length_replicate, Bool.not_true, Bool.not_false, decide_true, decide_false, BEq.rfl, bne_self_eq_false, tf_beq, ft_beq, tf_bne, ft_bne, not_true_eq_false, not_false_eq_true, app]
        exact hN _ j19
    · intro ha j
      rw [hW, List.length_map] at j
      exact hJ () ha ⟨j.xr, j.xf, j.sk, j.wk, j.ow, j.xk, j.st, j.fr, j.frH⟩
    · rintro ex ha ⟨rfl, b, f⟩
      exact end1 b f hk
  · rintro _ h16 ⟨q1, q2, q3, q4, q5, q6, q7, q8, q9⟩
    have k1 := q5.own
    have k2 := q5.len
    try simp (disch := first | assumption | omega | (apply At.mk; with_unfolding_all rfl)) only [k2, ↓go_eq, ↓ent_eq, Mv, NilC_at, Fld_at, add_mk, Nat.zero_add, Nat.add_zero, Add64, Sub64, Mul64, Quo64, Rem64, Neg64, Cvt64, CvtU8, CvtU16, CvtU32, CvtU64, AddU64, SubU64, MulU64, Shr64, Shr_u8, Shr_u16, Shr_u32, Shr_u64, And1, And31, And32, Eql64, Neq64, Bin_lss, Bin_leq, Bin_gtr, Bin_geq, Bin_bool_eql, Bin_bool_neq, Bin_ptr_nil_eql, Bin_ptr_nil_neq, Not_dec, Un_not, Pick_t, Pick_f, Pick_pos, Pick_neg, Gd_tt, Gd_tf, Gd_ft, Gd_ff, Gd_pos_t, Gd_neg_t, Gd_pos_f, Gd_neg_f, Gd_undef, If_t, If_f, If_pos, If_neg, CallF_eq, Max_two, Min_two, Len_rd, Len_own, Ld_blkE, Idx_rdN, Idx_ownN, Idx_rdE, Idx_ownE, IdxAE, LdA_two, Idx_at0, Ext_atE, Len_at, Int.toNat_natCast, Int.toNat_zero, Int.toNat_one, List.length_map, List.length_append, List.length_cons, List.length_nil, List.length_take, List.length_set, List.length_replicate, Bool.not_true, Bool.not_false, decide_true, decide_false, BEq.rfl, bne_self_eq_false, tf_beq, ft_beq, tf_bne, ft_bne, not_true_eq_false, not_false_eq_true, app]
    refine len_q q7.st ?_
    have r16 := r6.fr q8
    have hrd := r16.rd
    have hl16 := r16.len
    try simp (disch := first | assumption | omega | (apply At.mk; with_unfolding_all rfl)) only [hl16, ↓go_eq, ↓ent_eq, Mv, NilC_at, Fld_at, add_mk, Nat.zero_add, Nat.add_zero, Add64, Sub64, Mul64, Quo64, Rem64, Neg64, Cvt64, CvtU8, CvtU16, CvtU32, CvtU64, AddU64, SubU64, MulU64, Shr64, Shr_u8, Shr_u16, Shr_u32, Shr_u64, And1, And31, And32, Eql64, Neq64, Bin_lss, Bin_leq, Bin_gtr, Bin_geq, Bin_bool_eql, Bin_bool_neq, Bin_ptr_nil_eql, Bin_ptr_nil_neq, Not_dec, Un_not, Pick_t, Pick_f, Pick_pos, Pick_neg, Gd_tt, Gd_tf, Gd_ft, Gd_ff, Gd_pos_t, Gd_neg_t, Gd_pos_f, Gd_neg_f, Gd_undef, If_t, If_f, If_pos, If_neg, CallF_eq, Max_two, Min_two, Len_rd, Len_own, Ld_blkE, Idx_rdN, Idx_ownN, Idx_rdE, Idx_ownE, IdxAE, LdA_two, Idx_at0, Ext_atE, Len_at, Int.toNat_natCast, Int.toNat_zero, Int.toNat_one, List.length_map, List.length_append, List.length_cons, List.length_nil, List.length_take, List.length_set, List.length_replicate, Bool.not_true, Bool.not_false, decide_true, decide_false, BEq.rfl, bne_self_eq_false, tf_beq, ft_beq, tf_bne, ft_bne, not_true_eq_false, not_false_eq_true, app]
    rw [hpl, decide_eq_true rfl]
    exact fin1 q1 rfl q9 (by omega) hk
theorem bradawllaw07_RupWith.law {h : Heap} {a0 : Int × List (List Int)} {cs : Array Value} {a1 a2 : Int} {v1 v2 : Value} (r0 : rRaw.is h a0 cs.toList) (r1 : (rInt .i16).is h a1 [v1]) (r2 : (rInt .u8).is h a2 [v2]) :
    CallH Try.prog bradawllaw07_RupWith.id #[.agg cs, v1, v2] (fun v h' => v = .bool true ∧ Fr [] h h') h := by
  obtain ⟨v, ws, rfl, h1, h2, h3⟩ := raw_arg r0
  obtain ⟨rfl, h4, h5⟩ := int_arg r1
  obtain ⟨rfl, h6, h7⟩ := int_arg r2
  exact bradawllaw07_RupWith.spec h1 ⟨h4, h5⟩ ⟨h6, h7⟩ h2 h3 fun h' f => ⟨rfl, f⟩
end Go.Proofs.Yteahhifkkjfhoaa
