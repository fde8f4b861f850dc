/- The arena in memory, and what its functions compute. Conditions: those typed ahead of each theorem. -/
import Derived.Test.YthekbpaekopmfaaAn
namespace Go.Proofs.Ythekbpaekopmfaa
open Go.Pt
set_option linter.unusedVariables false
set_option linter.unusedSimpArgs false
theorem QCall_of {P : Program} {f : FuncId} {args : List Value} {v : Value} {K : Ret} {h : Heap} (hc : ∀ Q : Ret, Q v h → CallH P f args.toArray Q h) (hk : K v h) : QCall P f args K h := QCall_mk (hc _ ⟨rfl, rfl⟩) hk
/-- xs[lo:hi:hi] -/
theorem Rd.slc3 {h : Heap} {v : Value} {xs : List Value} {K : Ret} {lo hi : Int} {k k' k'' : IntKind} (hr : Rd h v xs) (h0 : 0 ≤ lo) (h1 : lo ≤ hi) (h2 : hi ≤ xs.length) (hk : ∀ v', Rd h v' ((xs.take hi.toNat).drop lo.toNat) → K v' h) : Slc 1 v (some (.int k lo)) (some (.int k' hi)) (some (.int k'' hi)) K h := by
  obtain ⟨a, cap, rfl, hcap, hc⟩ := hr
  have e : bounds3 xs.length cap (some (.int k lo)) (some (.int k' hi)) (some (.int k'' hi)) = some (lo.toNat, hi.toNat, hi.toNat) := by
    have e1 : (0 : Int) ≤ hi := by omega
    have e2 : hi ≤ (cap : Int) := by omega
    have e3 : lo ≤ (hi.toNat : Int) := by omega
    simp [bounds3, bound, e1, e2, h0, show lo ≤ max hi 0 by omega, show hi ≤ max hi 0 by omega]
  rw [Slc_eq, e]
  show K (Value.slice (if hi.toNat = lo.toNat then a else a.map (·.add (lo.toNat * 1))) (hi.toNat - lo.toNat) (hi.toNat - lo.toNat)) h
  have hlen : ((xs.take hi.toNat).drop lo.toNat).length = hi.toNat - lo.toNat := by rw [List.length_drop, List.length_take, Nat.min_eq_left (by omega)]
  refine hk _ ⟨(if hi.toNat = lo.toNat then a else a.map (·.add (lo.toNat * 1))), hi.toNat - lo.toNat, by rw [hlen], by omega, fun i x hx => ?_⟩
  rw [List.getElem?_drop, List.getElem?_take] at hx
  split at hx
  · rename_i hlt
    obtain ⟨ad, rfl, e2⟩ := hc _ _ hx
    rw [if_neg (by omega)]
    refine ⟨_, rfl, ?_⟩
    rw [Nat.mul_one, addr_add_add]; exact e2
  · cases hx
/-- An arena of these clauses in memory, and its blocks. -/
structure ArR (h : Heap) (g : Nat) (lim : Int) (cs : List Cl) (F : List Nat) : Prop where
  ex : ∃ (wv : Value) (wb : List Nat) (mb : Nat) (lv : List Int), Blk h g [wv, Iv lim, Iv (lv.length : Nat), .map (some mb)] ∧ Own h wv ((wds cs).map Iv) wb ∧ MapAt h mb .i64 (lv.map fun n => (n, .bool true)) ∧ F = g :: mb :: wb ∧ g ∉ wb ∧ mb ∉ wb ∧ g ≠ mb ∧ lv.Nodup ∧ (∀ r, r ∈ lv ↔ (clAt cs r).isSome = true)
  bd : (wds cs).length ≤ 1000000000000
  gu : ∀ c ∈ cs, (0 ≤ c.glue ∧ c.glue ≤ 2147483647) ∧ 0 ≤ c.uses ∧ c.uses ≤ 2147483647
theorem ArR.fr {h h' : Heap} {g : Nat} {lim : Int} {cs : List Cl} {F S : List Nat} (ha : ArR h g lim cs F) (f : Fr S h h') (hd : ∀ b ∈ F, b ∉ S) : ArR h' g lim cs F := by
  obtain ⟨⟨wv, wb, mb, lv, h1, h2, h3, rfl, h4⟩, hb, hg⟩ := ha
  exact ⟨⟨wv, wb, mb, lv, h1.fr f (hd _ (by simp)), h2.fr f (fun b hb => hd _ (by simp [hb])), h3.fr f (hd _ (by simp)), rfl, h4⟩, hb, hg⟩
theorem ArR.one {h h' : Heap} {g l : Nat} {lim : Int} {cs : List Cl} {F : List Nat} (ha : ArR h g lim cs F) (f : One l h h') : ArR h' g lim cs F := by
  obtain ⟨⟨wv, wb, mb, lv, h1, h2, h3, rfl, h4⟩, hb, hg⟩ := ha
  exact ⟨⟨wv, wb, mb, lv, h1.one f, h2.one f, h3.one f, rfl, h4⟩, hb, hg⟩
theorem ArR.lt {h : Heap} {g : Nat} {lim : Int} {cs : List Cl} {F : List Nat} (ha : ArR h g lim cs F) : ∀ b ∈ F, b < h.size := by
  obtain ⟨⟨wv, wb, mb, lv, h1, h2, h3, rfl, h4⟩, hb, hg⟩ := ha
  intro b hb
  rcases List.mem_cons.1 hb with rfl | hb
  · exact h1.lt
  · rcases List.mem_cons.1 hb with rfl | hb
    · exact h3.lt
    · exact h2.lt _ hb
theorem look_live (lv : List Int) (n : Int) : (lv.map fun n => (n, Value.bool true)).lookup n = if n ∈ lv then some (.bool true) else none := by
  induction lv with
  | nil => simp
  | cons m lv ih =>
    rw [List.map_cons, List.lookup_cons, ih]
    by_cases e : n = m
    · simp [e]
    · have : (n == m) = false := by simpa using e
      simp [this, e]
theorem lv_count {cs : List Cl} {lv : List Int} (nd : lv.Nodup) (hm : ∀ r, r ∈ lv ↔ (clAt cs r).isSome = true) : lv.length = cs.countP fun c => !c.gone := by
  have key : ∀ (s t : List Int), s.Nodup → (∀ x ∈ s, x ∈ t) → s.length ≤ t.length := by
    intro s
    induction s with
    | nil => intro t _ _; simp
    | cons y s ih =>
      intro t hs h
      rw [List.nodup_cons] at hs
      have := ih (t.erase y) hs.2 fun x hx => (List.mem_erase_of_ne (fun e => hs.1 (by rw [← e]; exact hx))).2 (h x (by simp [hx]))
      have hy := h y (by simp)
      rw [List.length_erase_of_mem hy] at this
      have := List.length_pos_of_mem hy
      simp only [List.length_cons]; omega
  have eL : ((List.range cs.length).filter fun k => !(cs.getD k ⟨[], false, 0, 0, true⟩).gone).length = cs.countP fun c => !c.gone := by
    have e : cs = (List.range cs.length).map fun i => cs.getD i ⟨[], false, 0, 0, true⟩ := by
      refine List.ext_getElem (by simp) fun i h1 h2 => ?_
      rw [List.getElem_map, List.getElem_range, List.getD_eq_getElem?_getD, List.getElem?_eq_getElem h1]; rfl
    conv => rhs; rw [e]
    rw [List.countP_map, List.countP_eq_length_filter]; rfl
  rw [← eL]
  have e2 : ∀ r, r ∈ lv ↔ r ∈ ((List.range cs.length).filter fun k => !(cs.getD k ⟨[], false, 0, 0, true⟩).gone).map fun k => ((off cs k : Nat) : Int) := by
    intro r
    rw [hm, List.mem_map]
    constructor
    · intro h
      obtain ⟨c, hc⟩ := Option.isSome_iff_exists.1 h
      obtain ⟨k, h1, h2, h3⟩ := clAt_some hc
      refine ⟨k, List.mem_filter.2 ⟨List.mem_range.2 (List.getElem?_eq_some_iff.1 h1).1, ?_⟩, h3.symm⟩
      rw [List.getD_eq_getElem?_getD, h1]; simpa using h2
    · rintro ⟨k, hk, rfl⟩
      obtain ⟨h1, h2⟩ := List.mem_filter.1 hk
      have hl := List.mem_range.1 h1
      have hg : cs[k]? = some cs[k] := List.getElem?_eq_getElem hl
      rw [List.getD_eq_getElem?_getD, hg] at h2
      rw [clAt_off hg, if_neg (by simpa using h2)]; rfl
  have nd2 : (((List.range cs.length).filter fun k => !(cs.getD k ⟨[], false, 0, 0, true⟩).gone).map fun k => ((off cs k : Nat) : Int)).Nodup := by
    rw [List.nodup_iff_pairwise_ne, List.pairwise_map]
    exact (List.pairwise_lt_range.filter _).imp fun {a b} hab e => by
      have := off_lt (cs := cs) hab; omega
  have l1 := key _ _ nd fun x hx => (e2 x).1 hx
  have l2 := key _ _ nd2 fun x hx => (e2 x).2 hx
  rw [List.length_map] at l1 l2
  omega
section
variable {g : Nat} {lim : Int} {cs : List Cl} {F : List Nat} {r : Int} {K : Ret} {h : Heap}
theorem arena_New.spec (lim : Int) (hk : ∀ g h' F, ArR h' g lim [] F → Fr [] h h' → (∀ b ∈ F, h.size ≤ b) → K (ptr g) h') : CallH Try.prog arena_New.id #[Iv lim] K h := by
  refine arena_New.ok ?_
  simp only [arena_New.pt]
  rw [go_eq]
  refine MkM_map (k := .i64) fun h1 hm f1 hs1 => ?_
  have hf : Instr.fill (([(0, 1), (1, 1), (2, 1), (3, 1)] : List (Nat × Nat)).toArray[·]?) #[(.slice none 0 0), (.int .i64 0), (.int .i64 0), (.map none)] [(1, Iv lim), (3, .map (some h.size))] = some #[.slice none 0 0, Iv lim, .int .i64 0, .map (some h.size)] := by
    rw [fill_one rfl rfl (by simp), fill_one rfl rfl (by simp), fill_nil]; rfl
  rw [go_eq, Bld_eq, hf]
  show go (New _ _) h1 _
  rw [go_eq]
  refine New_blk fun h2 hb f2 hs2 => hk h1.size h2 (h1.size :: h.size :: []) ⟨⟨nilS, [], h.size, [], by simpa [Value.cells] using hb, Own.nil _, ?_, rfl, by simp, by simp, by omega, List.nodup_nil, fun r => by simp [clAt]⟩, by simp [wds], by simp⟩ (f1.trans f2) ?_
  · exact hm.fr f2 (by simp)
  · intro b hb
    simp only [List.mem_cons, List.not_mem_nil, or_false] at hb
    rcases hb with rfl | rfl
    · omega
    · exact Nat.le_refl _
theorem words_q (ha : ArR h g lim cs F) (hk : K (Iv ((wds cs).length : Nat)) h) : QCall Try.prog arena_Arena_Words.id [ptr g] K h := by
  refine QCall_of (fun Q hQ => arena_Arena_Words.ok ?_) hk
  obtain ⟨⟨wv, wb, mb, lv, b1, o1, m1, rfl, d1, d2, d3, nd, hm⟩, bd, gu⟩ := ha
  simp only [arena_Arena_Words.pt]
  have o1r := o1.rd
  have hl : ((wds cs).map Iv).length = (wds cs).length := List.length_map _
  try simp (disch := first | assumption | omega | (apply At.mk; with_unfolding_all rfl)) only [hl, ↓go_eq, ↓ent_eq, Mv, NilC_at, Fld_at, add_mk, Nat.zero_add, Nat.add_zero, Add64, Sub64, Mul64, Quo64, Rem64, Neg64, Cvt64, CvtU8, CvtU16, CvtU32, CvtU64, AddU64, SubU64, MulU64, Shr64, Shr_u8, Shr_u16, Shr_u32, Shr_u64, And1, And31, And32, Eql64, Neq64, Bin_lss, Bin_leq, Bin_gtr, Bin_geq, Bin_bool_eql, Bin_bool_neq, Bin_ptr_nil_eql, Bin_ptr_nil_neq, Not_dec, Un_not, Pick_t, Pick_f, Pick_pos, Pick_neg, Gd_tt, Gd_tf, Gd_ft, Gd_ff, Gd_pos_t, Gd_neg_t, Gd_pos_f, Gd_neg_f, Gd_undef, If_t, If_f, If_pos, If_neg, CallF_eq, Max_two, Min_two, Len_rd, Len_own, Ld_blkE, Idx_rdN, Idx_ownN, Idx_rdE, Idx_ownE, IdxAE, LdA_two, Idx_at0, Ext_atE, Len_at, Int.toNat_natCast, Int.toNat_zero, Int.toNat_one, List.length_map, List.length_append, List.length_cons, List.length_nil, List.length_take, List.length_set, List.length_replicate, Bool.not_true, Bool.not_false, decide_true, decide_false, BEq.rfl, bne_self_eq_false, tf_beq, ft_beq, tf_bne, ft_bne, not_true_eq_false, not_false_eq_true, app]
  exact hQ
theorem count_q (ha : ArR h g lim cs F) (hk : K (Iv (cs.countP (fun c => !c.gone) : Nat)) h) : QCall Try.prog arena_Arena_Count.id [ptr g] K h := by
  refine QCall_of (fun Q hQ => arena_Arena_Count.ok ?_) hk
  obtain ⟨⟨wv, wb, mb, lv, b1, o1, m1, rfl, d1, d2, d3, nd, hm⟩, bd, gu⟩ := ha
  simp only [arena_Arena_Count.pt]
  rw [← lv_count nd hm] at hQ
  try simp (disch := first | assumption | omega | (apply At.mk; with_unfolding_all rfl)) only [↓go_eq, ↓ent_eq, Mv, NilC_at, Fld_at, add_mk, Nat.zero_add, Nat.add_zero, Add64, Sub64, Mul64, Quo64, Rem64, Neg64, Cvt64, CvtU8, CvtU16, CvtU32, CvtU64, AddU64, SubU64, MulU64, Shr64, Shr_u8, Shr_u16, Shr_u32, Shr_u64, And1, And31, And32, Eql64, Neq64, Bin_lss, Bin_leq, Bin_gtr, Bin_geq, Bin_bool_eql, Bin_bool_neq, Bin_ptr_nil_eql, Bin_ptr_nil_neq, Not_dec, Un_not, Pick_t, Pick_f, Pick_pos, Pick_neg, Gd_tt, Gd_tf, Gd_ft, Gd_ff, Gd_pos_t, Gd_neg_t, Gd_pos_f, Gd_neg_f, Gd_undef, If_t, If_f, If_pos, If_neg, CallF_eq, Max_two, Min_two, Len_rd, Len_own, Ld_blkE, Idx_rdN, Idx_ownN, Idx_rdE, Idx_ownE, IdxAE, LdA_two, Idx_at0, Ext_atE, Len_at, Int.toNat_natCast, Int.toNat_zero, Int.toNat_one, List.length_map, List.length_append, List.length_cons, List.length_nil, List.length_take, List.length_set, List.length_replicate, Bool.not_true, Bool.not_false, decide_true, decide_false, BEq.rfl, bne_self_eq_false, tf_beq, ft_beq, tf_bne, ft_bne, not_true_eq_false, not_false_eq_true, app]
  exact hQ
theorem has_q (ha : ArR h g lim cs F) (hk : K (.bool (clAt cs r).isSome) h) : QCall Try.prog arena_Arena_Has.id [ptr g, Iv r] K h := by
  refine QCall_of (fun Q hQ => arena_Arena_Has.ok ?_) hk
  obtain ⟨⟨wv, wb, mb, lv, b1, o1, m1, rfl, d1, d2, d3, nd, hm⟩, bd, gu⟩ := ha
  simp only [arena_Arena_Has.pt]
  try simp (disch := first | assumption | omega | (apply At.mk; with_unfolding_all rfl)) only [↓go_eq, ↓ent_eq, Mv, NilC_at, Fld_at, add_mk, Nat.zero_add, Nat.add_zero, Add64, Sub64, Mul64, Quo64, Rem64, Neg64, Cvt64, CvtU8, CvtU16, CvtU32, CvtU64, AddU64, SubU64, MulU64, Shr64, Shr_u8, Shr_u16, Shr_u32, Shr_u64, And1, And31, And32, Eql64, Neq64, Bin_lss, Bin_leq, Bin_gtr, Bin_geq, Bin_bool_eql, Bin_bool_neq, Bin_ptr_nil_eql, Bin_ptr_nil_neq, Not_dec, Un_not, Pick_t, Pick_f, Pick_pos, Pick_neg, Gd_tt, Gd_tf, Gd_ft, Gd_ff, Gd_pos_t, Gd_neg_t, Gd_pos_f, Gd_neg_f, Gd_undef, If_t, If_f, If_pos, If_neg, CallF_eq, Max_two, Min_two, Len_rd, Len_own, Ld_blkE, Idx_rdN, Idx_ownN, Idx_rdE, Idx_ownE, IdxAE, LdA_two, Idx_at0, Ext_atE, Len_at, Int.toNat_natCast, Int.toNat_zero, Int.toNat_one, List.length_map, List.length_append, List.length_cons, List.length_nil, List.length_take, List.length_set, List.length_replicate, Bool.not_true, Bool.not_false, decide_true, decide_false, BEq.rfl, bne_self_eq_false, tf_beq, ft_beq, tf_bne, ft_bne, not_true_eq_false, not_false_eq_true, app]
  refine Lk_map m1 ?_
  rw [look_live]
  have := hm r
  cases e : (clAt cs r).isSome with
  | true =>
    rw [e] at this hQ
    rw [if_pos (this.2 rfl)]
    try simp (disch := first | assumption | omega | (apply At.mk; with_unfolding_all rfl)) only [↓go_eq, ↓ent_eq, Mv, NilC_at, Fld_at, add_mk, Nat.zero_add, Nat.add_zero, Add64, Sub64, Mul64, Quo64, Rem64, Neg64, Cvt64, CvtU8, CvtU16, CvtU32, CvtU64, AddU64, SubU64, MulU64, Shr64, Shr_u8, Shr_u16, Shr_u32, Shr_u64, And1, And31, And32, Eql64, Neq64, Bin_lss, Bin_leq, Bin_gtr, Bin_geq, Bin_bool_eql, Bin_bool_neq, Bin_ptr_nil_eql, Bin_ptr_nil_neq, Not_dec, Un_not, Pick_t, Pick_f, Pick_pos, Pick_neg, Gd_tt, Gd_tf, Gd_ft, Gd_ff, Gd_pos_t, Gd_neg_t, Gd_pos_f, Gd_neg_f, Gd_undef, If_t, If_f, If_pos, If_neg, CallF_eq, Max_two, Min_two, Len_rd, Len_own, Ld_blkE, Idx_rdN, Idx_ownN, Idx_rdE, Idx_ownE, IdxAE, LdA_two, Idx_at0, Ext_atE, Len_at, Int.toNat_natCast, Int.toNat_zero, Int.toNat_one, List.length_map, List.length_append, List.length_cons, List.length_nil, List.length_take, List.length_set, List.length_replicate, Bool.not_true, Bool.not_false, decide_true, decide_false, BEq.rfl, bne_self_eq_false, tf_beq, ft_beq, tf_bne, ft_bne, not_true_eq_false, not_false_eq_true, app]
    exact hQ
  | false =>
    rw [e] at this hQ
    rw [if_neg (fun q => by have := this.1 q; cases this)]
    try simp (disch := first | assumption | omega | (apply At.mk; with_unfolding_all rfl)) only [↓go_eq, ↓ent_eq, Mv, NilC_at, Fld_at, add_mk, Nat.zero_add, Nat.add_zero, Add64, Sub64, Mul64, Quo64, Rem64, Neg64, Cvt64, CvtU8, CvtU16, CvtU32, CvtU64, AddU64, SubU64, MulU64, Shr64, Shr_u8, Shr_u16, Shr_u32, Shr_u64, And1, And31, And32, Eql64, Neq64, Bin_lss, Bin_leq, Bin_gtr, Bin_geq, Bin_bool_eql, Bin_bool_neq, Bin_ptr_nil_eql, Bin_ptr_nil_neq, Not_dec, Un_not, Pick_t, Pick_f, Pick_pos, Pick_neg, Gd_tt, Gd_tf, Gd_ft, Gd_ff, Gd_pos_t, Gd_neg_t, Gd_pos_f, Gd_neg_f, Gd_undef, If_t, If_f, If_pos, If_neg, CallF_eq, Max_two, Min_two, Len_rd, Len_own, Ld_blkE, Idx_rdN, Idx_ownN, Idx_rdE, Idx_ownE, IdxAE, LdA_two, Idx_at0, Ext_atE, Len_at, Int.toNat_natCast, Int.toNat_zero, Int.toNat_one, List.length_map, List.length_append, List.length_cons, List.length_nil, List.length_take, List.length_set, List.length_replicate, Bool.not_true, Bool.not_false, decide_true, decide_false, BEq.rfl, bne_self_eq_false, tf_beq, ft_beq, tf_bne, ft_bne, not_true_eq_false, not_false_eq_true, app]
    exact hQ
/-- Of a clause that is there: where its words stand. -/
theorem ArR.word (ha : ArR h g lim cs F) {c : Cl} (hc : clAt cs r = some c) {j : Nat} (hj : j < 3 + c.lits.length) : At ((wds cs).map Iv) (r + j).toNat (Iv ((enc c).getD j 0)) := by
  obtain ⟨k, h1, h2, rfl⟩ := clAt_some hc
  have hw := wds_at h1 hj
  refine ⟨?_⟩
  rw [show ((off cs k : Nat) + (j : Nat) : Int).toNat = off cs k + j by omega, List.getElem?_map, hw, List.getD_eq_getElem?_getD]
  have : j < (enc c).length := by rw [enc_len]; exact hj
  rw [List.getElem?_eq_getElem this]; rfl
theorem ArR.cl (ha : ArR h g lim cs F) {c : Cl} (hc : clAt cs r = some c) : 0 ≤ r ∧ r ≤ 1000000000000 ∧ c.lits.length ≤ 1000000000000 ∧ r + 3 + c.lits.length ≤ (wds cs).length := by
  have h1 := clAt_lt hc
  have := ha.bd
  omega
theorem hd_at (c : Cl) : (enc c).getD 0 0 = hd c := rfl
theorem lit_at (c : Cl) (i : Nat) : (enc c).getD (3 + i) 0 = c.lits.getD i 0 := by
  unfold enc
  rw [List.getD_eq_getElem?_getD, List.getElem?_append_right (by simp), List.getD_eq_getElem?_getD]
  simp
def lenO : Option Cl → Nat
  | none => 0
  | some c => c.lits.length
theorem len_q (ha : ArR h g lim cs F) (hk : K (Iv (lenO (clAt cs r) : Nat)) h) : QCall Try.prog arena_Arena_Len.id [ptr g, Iv r] K h := by
  refine QCall_of (fun Q hQ => arena_Arena_Len.ok ?_) hk
  simp only [arena_Arena_Len.pt]
  rw [go_eq]
  refine has_q ha ?_
  cases e : clAt cs r with
  | none =>
    rw [e] at hQ
    rw [show (none : Option Cl).isSome = false from rfl]
    try simp (disch := first | assumption | omega | (apply At.mk; with_unfolding_all rfl)) only [↓go_eq, ↓ent_eq, Mv, NilC_at, Fld_at, add_mk, Nat.zero_add, Nat.add_zero, Add64, Sub64, Mul64, Quo64, Rem64, Neg64, Cvt64, CvtU8, CvtU16, CvtU32, CvtU64, AddU64, SubU64, MulU64, Shr64, Shr_u8, Shr_u16, Shr_u32, Shr_u64, And1, And31, And32, Eql64, Neq64, Bin_lss, Bin_leq, Bin_gtr, Bin_geq, Bin_bool_eql, Bin_bool_neq, Bin_ptr_nil_eql, Bin_ptr_nil_neq, Not_dec, Un_not, Pick_t, Pick_f, Pick_pos, Pick_neg, Gd_tt, Gd_tf, Gd_ft, Gd_ff, Gd_pos_t, Gd_neg_t, Gd_pos_f, Gd_neg_f, Gd_undef, If_t, If_f, If_pos, If_neg, CallF_eq, Max_two, Min_two, Len_rd, Len_own, Ld_blkE, Idx_rdN, Idx_ownN, Idx_rdE, Idx_ownE, IdxAE, LdA_two, Idx_at0, Ext_atE, Len_at, Int.toNat_natCast, Int.toNat_zero, Int.toNat_one, List.length_map, List.length_append, List.length_cons, List.length_nil, List.length_take, List.length_set, List.length_replicate, Bool.not_true, Bool.not_false, decide_true, decide_false, BEq.rfl, bne_self_eq_false, tf_beq, ft_beq, tf_bne, ft_bne, not_true_eq_false, not_false_eq_true, app]
    exact hQ
  | some c =>
    rw [e] at hQ
    have w := ha.word e (j := 0) (by omega)
    obtain ⟨q1, q2, q3, q4⟩ := ha.cl e
    obtain ⟨⟨wv, wb, mb, lv, b1, o1, m1, rfl, d1, d2, d3, nd, hm⟩, bd, gu⟩ := ha
    have o1r := o1.rd
    rw [hd_at, show (r + ((0 : Nat) : Int)) = r + 0 by omega] at w
    rw [show (some c).isSome = true from rfl]
    try simp (disch := first | assumption | omega | (apply At.mk; with_unfolding_all rfl)) only [↓go_eq, ↓ent_eq, Mv, NilC_at, Fld_at, add_mk, Nat.zero_add, Nat.add_zero, Add64, Sub64, Mul64, Quo64, Rem64, Neg64, Cvt64, CvtU8, CvtU16, CvtU32, CvtU64, AddU64, SubU64, MulU64, Shr64, Shr_u8, Shr_u16, Shr_u32, Shr_u64, And1, And31, And32, Eql64, Neq64, Bin_lss, Bin_leq, Bin_gtr, Bin_geq, Bin_bool_eql, Bin_bool_neq, Bin_ptr_nil_eql, Bin_ptr_nil_neq, Not_dec, Un_not, Pick_t, Pick_f, Pick_pos, Pick_neg, Gd_tt, Gd_tf, Gd_ft, Gd_ff, Gd_pos_t, Gd_neg_t, Gd_pos_f, Gd_neg_f, Gd_undef, If_t, If_f, If_pos, If_neg, CallF_eq, Max_two, Min_two, Len_rd, Len_own, Ld_blkE, Idx_rdN, Idx_ownN, Idx_rdE, Idx_ownE, IdxAE, LdA_two, Idx_at0, Ext_atE, Len_at, Int.toNat_natCast, Int.toNat_zero, Int.toNat_one, List.length_map, List.length_append, List.length_cons, List.length_nil, List.length_take, List.length_set, List.length_replicate, Bool.not_true, Bool.not_false, decide_true, decide_false, BEq.rfl, bne_self_eq_false, tf_beq, ft_beq, tf_bne, ft_bne, not_true_eq_false, not_false_eq_true, app]
    rw [hd_len q3]
    exact hQ
def litO (o : Option Cl) (i : Int) : Int := if 0 ≤ i then (match o with | none => 0 | some c => c.lits.getD i.toNat 0) else 0
theorem lit_q (ha : ArR h g lim cs F) {i : Int} (hk : K (Iv (litO (clAt cs r) i)) h) : QCall Try.prog arena_Arena_Lit.id [ptr g, Iv r, Iv i] K h := by
  refine QCall_of (fun Q hQ => arena_Arena_Lit.ok ?_) hk
  simp only [arena_Arena_Lit.pt]
  unfold litO at hQ
  by_cases c0 : i < 0
  · rw [if_neg (by omega)] at hQ
    try simp (disch := first | assumption | omega | (apply At.mk; with_unfolding_all rfl)) only [↓go_eq, ↓ent_eq, Mv, NilC_at, Fld_at, add_mk, Nat.zero_add, Nat.add_zero, Add64, Sub64, Mul64, Quo64, Rem64, Neg64, Cvt64, CvtU8, CvtU16, CvtU32, CvtU64, AddU64, SubU64, MulU64, Shr64, Shr_u8, Shr_u16, Shr_u32, Shr_u64, And1, And31, And32, Eql64, Neq64, Bin_lss, Bin_leq, Bin_gtr, Bin_geq, Bin_bool_eql, Bin_bool_neq, Bin_ptr_nil_eql, Bin_ptr_nil_neq, Not_dec, Un_not, Pick_t, Pick_f, Pick_pos, Pick_neg, Gd_tt, Gd_tf, Gd_ft, Gd_ff, Gd_pos_t, Gd_neg_t, Gd_pos_f, Gd_neg_f, Gd_undef, If_t, If_f, If_pos, If_neg, CallF_eq, Max_two, Min_two, Len_rd, Len_own, Ld_blkE, Idx_rdN, Idx_ownN, Idx_rdE, Idx_ownE, IdxAE, LdA_two, Idx_at0, Ext_atE, Len_at, Int.toNat_natCast, Int.toNat_zero, Int.toNat_one, List.length_map, List.length_append, List.length_cons, List.length_nil, List.length_take, List.length_set, List.length_replicate, Bool.not_true, Bool.not_false, decide_true, decide_false, BEq.rfl, bne_self_eq_false, tf_beq, ft_beq, tf_bne, ft_bne, not_true_eq_false, not_false_eq_true, app]
    exact hQ
  rw [if_pos (by omega)] at hQ
  try simp (disch := first | assumption | omega | (apply At.mk; with_unfolding_all rfl)) only [↓go_eq, ↓ent_eq, Mv, NilC_at, Fld_at, add_mk, Nat.zero_add, Nat.add_zero, Add64, Sub64, Mul64, Quo64, Rem64, Neg64, Cvt64, CvtU8, CvtU16, CvtU32, CvtU64, AddU64, SubU64, MulU64, Shr64, Shr_u8, Shr_u16, Shr_u32, Shr_u64, And1, And31, And32, Eql64, Neq64, Bin_lss, Bin_leq, Bin_gtr, Bin_geq, Bin_bool_eql, Bin_bool_neq, Bin_ptr_nil_eql, Bin_ptr_nil_neq, Not_dec, Un_not, Pick_t, Pick_f, Pick_pos, Pick_neg, Gd_tt, Gd_tf, Gd_ft, Gd_ff, Gd_pos_t, Gd_neg_t, Gd_pos_f, Gd_neg_f, Gd_undef, If_t, If_f, If_pos, If_neg, CallF_eq, Max_two, Min_two, Len_rd, Len_own, Ld_blkE, Idx_rdN, Idx_ownN, Idx_rdE, Idx_ownE, IdxAE, LdA_two, Idx_at0, Ext_atE, Len_at, Int.toNat_natCast, Int.toNat_zero, Int.toNat_one, List.length_map, List.length_append, List.length_cons, List.length_nil, List.length_take, List.length_set, List.length_replicate, Bool.not_true, Bool.not_false, decide_true, decide_false, BEq.rfl, bne_self_eq_false, tf_beq, ft_beq, tf_bne, ft_bne, not_true_eq_false, not_false_eq_true, app]
  refine len_q ha ?_
  cases e : clAt cs r with
  | none =>
    rw [e] at hQ
    have c1 : i ≥ ((lenO none : Nat) : Int) := by show i ≥ ((0 : Nat) : Int); omega
    try simp (disch := first | assumption | omega | (apply At.mk; with_unfolding_all rfl)) only [↓go_eq, ↓ent_eq, Mv, NilC_at, Fld_at, add_mk, Nat.zero_add, Nat.add_zero, Add64, Sub64, Mul64, Quo64, Rem64, Neg64, Cvt64, CvtU8, CvtU16, CvtU32, CvtU64, AddU64, SubU64, MulU64, Shr64, Shr_u8, Shr_u16, Shr_u32, Shr_u64, And1, And31, And32, Eql64, Neq64, Bin_lss, Bin_leq, Bin_gtr, Bin_geq, Bin_bool_eql, Bin_bool_neq, Bin_ptr_nil_eql, Bin_ptr_nil_neq, Not_dec, Un_not, Pick_t, Pick_f, Pick_pos, Pick_neg, Gd_tt, Gd_tf, Gd_ft, Gd_ff, Gd_pos_t, Gd_neg_t, Gd_pos_f, Gd_neg_f, Gd_undef, If_t, If_f, If_pos, If_neg, CallF_eq, Max_two, Min_two, Len_rd, Len_own, Ld_blkE, Idx_rdN, Idx_ownN, Idx_rdE, Idx_ownE, IdxAE, LdA_two, Idx_at0, Ext_atE, Len_at, Int.toNat_natCast, Int.toNat_zero, Int.toNat_one, List.length_map, List.length_append, List.length_cons, List.length_nil, List.length_take, List.length_set, List.length_replicate, Bool.not_true, Bool.not_false, decide_true, decide_false, BEq.rfl, bne_self_eq_false, tf_beq, ft_beq, tf_bne, ft_bne, not_true_eq_false, not_false_eq_true, app]
    exact hQ
  | some c =>
    rw [e] at hQ
    by_cases c1 : i ≥ ((c.lits.length : Nat) : Int)
    · have c1' : i ≥ ((lenO (some c) : Nat) : Int) := c1
      try simp (disch := first | assumption | omega | (apply At.mk; with_unfolding_all rfl)) only [↓go_eq, ↓ent_eq, Mv, NilC_at, Fld_at, add_mk, Nat.zero_add, Nat.add_zero, Add64, Sub64, Mul64, Quo64, Rem64, Neg64, Cvt64, CvtU8, CvtU16, CvtU32, CvtU64, AddU64, SubU64, MulU64, Shr64, Shr_u8, Shr_u16, Shr_u32, Shr_u64, And1, And31, And32, Eql64, Neq64, Bin_lss, Bin_leq, Bin_gtr, Bin_geq, Bin_bool_eql, Bin_bool_neq, Bin_ptr_nil_eql, Bin_ptr_nil_neq, Not_dec, Un_not, Pick_t, Pick_f, Pick_pos, Pick_neg, Gd_tt, Gd_tf, Gd_ft, Gd_ff, Gd_pos_t, Gd_neg_t, Gd_pos_f, Gd_neg_f, Gd_undef, If_t, If_f, If_pos, If_neg, CallF_eq, Max_two, Min_two, Len_rd, Len_own, Ld_blkE, Idx_rdN, Idx_ownN, Idx_rdE, Idx_ownE, IdxAE, LdA_two, Idx_at0, Ext_atE, Len_at, Int.toNat_natCast, Int.toNat_zero, Int.toNat_one, List.length_map, List.length_append, List.length_cons, List.length_nil, List.length_take, List.length_set, List.length_replicate, Bool.not_true, Bool.not_false, decide_true, decide_false, BEq.rfl, bne_self_eq_false, tf_beq, ft_beq, tf_bne, ft_bne, not_true_eq_false, not_false_eq_true, app]
      have e3 : c.lits.getD i.toNat 0 = 0 := by rw [List.getD_eq_getElem?_getD, List.getElem?_eq_none (by omega)]; rfl
      simp only [e3] at hQ
      exact hQ
    · have c1' : ¬ i ≥ ((lenO (some c) : Nat) : Int) := c1
      have w := ha.word e (j := 3 + i.toNat) (by omega)
      obtain ⟨q1, q2, q3, q4⟩ := ha.cl e
      obtain ⟨⟨wv, wb, mb, lv, b1, o1, m1, rfl, d1, d2, d3, nd, hm⟩, bd, gu⟩ := ha
      have o1r := o1.rd
      rw [lit_at, show (r + ((3 + i.toNat : Nat) : Int)) = r + 3 + i by omega] at w
      try simp (disch := first | assumption | omega | (apply At.mk; with_unfolding_all rfl)) only [↓go_eq, ↓ent_eq, Mv, NilC_at, Fld_at, add_mk, Nat.zero_add, Nat.add_zero, Add64, Sub64, Mul64, Quo64, Rem64, Neg64, Cvt64, CvtU8, CvtU16, CvtU32, CvtU64, AddU64, SubU64, MulU64, Shr64, Shr_u8, Shr_u16, Shr_u32, Shr_u64, And1, And31, And32, Eql64, Neq64, Bin_lss, Bin_leq, Bin_gtr, Bin_geq, Bin_bool_eql, Bin_bool_neq, Bin_ptr_nil_eql, Bin_ptr_nil_neq, Not_dec, Un_not, Pick_t, Pick_f, Pick_pos, Pick_neg, Gd_tt, Gd_tf, Gd_ft, Gd_ff, Gd_pos_t, Gd_neg_t, Gd_pos_f, Gd_neg_f, Gd_undef, If_t, If_f, If_pos, If_neg, CallF_eq, Max_two, Min_two, Len_rd, Len_own, Ld_blkE, Idx_rdN, Idx_ownN, Idx_rdE, Idx_ownE, IdxAE, LdA_two, Idx_at0, Ext_atE, Len_at, Int.toNat_natCast, Int.toNat_zero, Int.toNat_one, List.length_map, List.length_append, List.length_cons, List.length_nil, List.length_take, List.length_set, List.length_replicate, Bool.not_true, Bool.not_false, decide_true, decide_false, BEq.rfl, bne_self_eq_false, tf_beq, ft_beq, tf_bne, ft_bne, not_true_eq_false, not_false_eq_true, app]
      exact hQ
def lrnO : Option Cl → Bool
  | none => false
  | some c => c.lrn
theorem learned_q (ha : ArR h g lim cs F) (hk : K (.bool (lrnO (clAt cs r))) h) : QCall Try.prog arena_Arena_Learned.id [ptr g, Iv r] K h := by
  refine QCall_of (fun Q hQ => arena_Arena_Learned.ok ?_) hk
  simp only [arena_Arena_Learned.pt]
  rw [go_eq]
  refine has_q ha ?_
  cases e : clAt cs r with
  | none =>
    rw [e] at hQ
    rw [show (none : Option Cl).isSome = false from rfl]
    try simp (disch := first | assumption | omega | (apply At.mk; with_unfolding_all rfl)) only [↓go_eq, ↓ent_eq, Mv, NilC_at, Fld_at, add_mk, Nat.zero_add, Nat.add_zero, Add64, Sub64, Mul64, Quo64, Rem64, Neg64, Cvt64, CvtU8, CvtU16, CvtU32, CvtU64, AddU64, SubU64, MulU64, Shr64, Shr_u8, Shr_u16, Shr_u32, Shr_u64, And1, And31, And32, Eql64, Neq64, Bin_lss, Bin_leq, Bin_gtr, Bin_geq, Bin_bool_eql, Bin_bool_neq, Bin_ptr_nil_eql, Bin_ptr_nil_neq, Not_dec, Un_not, Pick_t, Pick_f, Pick_pos, Pick_neg, Gd_tt, Gd_tf, Gd_ft, Gd_ff, Gd_pos_t, Gd_neg_t, Gd_pos_f, Gd_neg_f, Gd_undef, If_t, If_f, If_pos, If_neg, CallF_eq, Max_two, Min_two, Len_rd, Len_own, Ld_blkE, Idx_rdN, Idx_ownN, Idx_rdE, Idx_ownE, IdxAE, LdA_two, Idx_at0, Ext_atE, Len_at, Int.toNat_natCast, Int.toNat_zero, Int.toNat_one, List.length_map, List.length_append, List.length_cons, List.length_nil, List.length_take, List.length_set, List.length_replicate, Bool.not_true, Bool.not_false, decide_true, decide_false, BEq.rfl, bne_self_eq_false, tf_beq, ft_beq, tf_bne, ft_bne, not_true_eq_false, not_false_eq_true, app]
    exact hQ
  | some c =>
    rw [e] at hQ
    have w := ha.word e (j := 0) (by omega)
    obtain ⟨k, hk1, hk2, _⟩ := clAt_some e
    obtain ⟨q1, q2, q3, q4⟩ := ha.cl e
    obtain ⟨⟨wv, wb, mb, lv, b1, o1, m1, rfl, d1, d2, d3, nd, hm⟩, bd, gu⟩ := ha
    have o1r := o1.rd
    rw [hd_at, show (r + ((0 : Nat) : Int)) = r + 0 by omega] at w
    rw [show (some c).isSome = true from rfl]
    try simp (disch := first | assumption | omega | (apply At.mk; with_unfolding_all rfl)) only [↓go_eq, ↓ent_eq, Mv, NilC_at, Fld_at, add_mk, Nat.zero_add, Nat.add_zero, Add64, Sub64, Mul64, Quo64, Rem64, Neg64, Cvt64, CvtU8, CvtU16, CvtU32, CvtU64, AddU64, SubU64, MulU64, Shr64, Shr_u8, Shr_u16, Shr_u32, Shr_u64, And1, And31, And32, Eql64, Neq64, Bin_lss, Bin_leq, Bin_gtr, Bin_geq, Bin_bool_eql, Bin_bool_neq, Bin_ptr_nil_eql, Bin_ptr_nil_neq, Not_dec, Un_not, Pick_t, Pick_f, Pick_pos, Pick_neg, Gd_tt, Gd_tf, Gd_ft, Gd_ff, Gd_pos_t, Gd_neg_t, Gd_pos_f, Gd_neg_f, Gd_undef, If_t, If_f, If_pos, If_neg, CallF_eq, Max_two, Min_two, Len_rd, Len_own, Ld_blkE, Idx_rdN, Idx_ownN, Idx_rdE, Idx_ownE, IdxAE, LdA_two, Idx_at0, Ext_atE, Len_at, Int.toNat_natCast, Int.toNat_zero, Int.toNat_one, List.length_map, List.length_append, List.length_cons, List.length_nil, List.length_take, List.length_set, List.length_replicate, Bool.not_true, Bool.not_false, decide_true, decide_false, BEq.rfl, bne_self_eq_false, tf_beq, ft_beq, tf_bne, ft_bne, not_true_eq_false, not_false_eq_true, app]
    rw [hd_lrn q3 hk2]
    have hQ : Q (.bool c.lrn) h := hQ
    cases e2 : c.lrn with
    | true =>
      rw [e2] at hQ
      rw [if_pos rfl, Neq64, decide_eq_true (by decide)]
      try simp (disch := first | assumption | omega | (apply At.mk; with_unfolding_all rfl)) only [↓go_eq, ↓ent_eq, Mv, NilC_at, Fld_at, add_mk, Nat.zero_add, Nat.add_zero, Add64, Sub64, Mul64, Quo64, Rem64, Neg64, Cvt64, CvtU8, CvtU16, CvtU32, CvtU64, AddU64, SubU64, MulU64, Shr64, Shr_u8, Shr_u16, Shr_u32, Shr_u64, And1, And31, And32, Eql64, Neq64, Bin_lss, Bin_leq, Bin_gtr, Bin_geq, Bin_bool_eql, Bin_bool_neq, Bin_ptr_nil_eql, Bin_ptr_nil_neq, Not_dec, Un_not, Pick_t, Pick_f, Pick_pos, Pick_neg, Gd_tt, Gd_tf, Gd_ft, Gd_ff, Gd_pos_t, Gd_neg_t, Gd_pos_f, Gd_neg_f, Gd_undef, If_t, If_f, If_pos, If_neg, CallF_eq, Max_two, Min_two, Len_rd, Len_own, Ld_blkE, Idx_rdN, Idx_ownN, Idx_rdE, Idx_ownE, IdxAE, LdA_two, Idx_at0, Ext_atE, Len_at, Int.toNat_natCast, Int.toNat_zero, Int.toNat_one, List.length_map, List.length_append, List.length_cons, List.length_nil, List.length_take, List.length_set, List.length_replicate, Bool.not_true, Bool.not_false, decide_true, decide_false, BEq.rfl, bne_self_eq_false, tf_beq, ft_beq, tf_bne, ft_bne, not_true_eq_false, not_false_eq_true, app]
      exact hQ
    | false =>
      rw [e2] at hQ
      rw [if_neg (by simp), Neq64, decide_eq_false (by decide)]
      try simp (disch := first | assumption | omega | (apply At.mk; with_unfolding_all rfl)) only [↓go_eq, ↓ent_eq, Mv, NilC_at, Fld_at, add_mk, Nat.zero_add, Nat.add_zero, Add64, Sub64, Mul64, Quo64, Rem64, Neg64, Cvt64, CvtU8, CvtU16, CvtU32, CvtU64, AddU64, SubU64, MulU64, Shr64, Shr_u8, Shr_u16, Shr_u32, Shr_u64, And1, And31, And32, Eql64, Neq64, Bin_lss, Bin_leq, Bin_gtr, Bin_geq, Bin_bool_eql, Bin_bool_neq, Bin_ptr_nil_eql, Bin_ptr_nil_neq, Not_dec, Un_not, Pick_t, Pick_f, Pick_pos, Pick_neg, Gd_tt, Gd_tf, Gd_ft, Gd_ff, Gd_pos_t, Gd_neg_t, Gd_pos_f, Gd_neg_f, Gd_undef, If_t, If_f, If_pos, If_neg, CallF_eq, Max_two, Min_two, Len_rd, Len_own, Ld_blkE, Idx_rdN, Idx_ownN, Idx_rdE, Idx_ownE, IdxAE, LdA_two, Idx_at0, Ext_atE, Len_at, Int.toNat_natCast, Int.toNat_zero, Int.toNat_one, List.length_map, List.length_append, List.length_cons, List.length_nil, List.length_take, List.length_set, List.length_replicate, Bool.not_true, Bool.not_false, decide_true, decide_false, BEq.rfl, bne_self_eq_false, tf_beq, ft_beq, tf_bne, ft_bne, not_true_eq_false, not_false_eq_true, app]
      exact hQ
def getO (o : Option Cl) (i : Nat) : Int := match o with | none => 0 | some c => (enc c).getD i 0
theorem get_q (ha : ArR h g lim cs F) {i : Nat} (hi : i < 3) (hk : K (Iv (getO (clAt cs r) i)) h) : QCall Try.prog arena_Arena_get.id [ptr g, Iv r, Iv (i : Nat)] K h := by
  refine QCall_of (fun Q hQ => arena_Arena_get.ok ?_) hk
  simp only [arena_Arena_get.pt]
  rw [go_eq]
  refine has_q ha ?_
  cases e : clAt cs r with
  | none =>
    rw [e] at hQ
    rw [show (none : Option Cl).isSome = false from rfl]
    try simp (disch := first | assumption | omega | (apply At.mk; with_unfolding_all rfl)) only [↓go_eq, ↓ent_eq, Mv, NilC_at, Fld_at, add_mk, Nat.zero_add, Nat.add_zero, Add64, Sub64, Mul64, Quo64, Rem64, Neg64, Cvt64, CvtU8, CvtU16, CvtU32, CvtU64, AddU64, SubU64, MulU64, Shr64, Shr_u8, Shr_u16, Shr_u32, Shr_u64, And1, And31, And32, Eql64, Neq64, Bin_lss, Bin_leq, Bin_gtr, Bin_geq, Bin_bool_eql, Bin_bool_neq, Bin_ptr_nil_eql, Bin_ptr_nil_neq, Not_dec, Un_not, Pick_t, Pick_f, Pick_pos, Pick_neg, Gd_tt, Gd_tf, Gd_ft, Gd_ff, Gd_pos_t, Gd_neg_t, Gd_pos_f, Gd_neg_f, Gd_undef, If_t, If_f, If_pos, If_neg, CallF_eq, Max_two, Min_two, Len_rd, Len_own, Ld_blkE, Idx_rdN, Idx_ownN, Idx_rdE, Idx_ownE, IdxAE, LdA_two, Idx_at0, Ext_atE, Len_at, Int.toNat_natCast, Int.toNat_zero, Int.toNat_one, List.length_map, List.length_append, List.length_cons, List.length_nil, List.length_take, List.length_set, List.length_replicate, Bool.not_true, Bool.not_false, decide_true, decide_false, BEq.rfl, bne_self_eq_false, tf_beq, ft_beq, tf_bne, ft_bne, not_true_eq_false, not_false_eq_true, app]
    exact hQ
  | some c =>
    rw [e] at hQ
    have w := ha.word e (j := i) (by omega)
    obtain ⟨q1, q2, q3, q4⟩ := ha.cl e
    obtain ⟨⟨wv, wb, mb, lv, b1, o1, m1, rfl, d1, d2, d3, nd, hm⟩, bd, gu⟩ := ha
    have o1r := o1.rd
    rw [show (some c).isSome = true from rfl]
    try simp (disch := first | assumption | omega | (apply At.mk; with_unfolding_all rfl)) only [↓go_eq, ↓ent_eq, Mv, NilC_at, Fld_at, add_mk, Nat.zero_add, Nat.add_zero, Add64, Sub64, Mul64, Quo64, Rem64, Neg64, Cvt64, CvtU8, CvtU16, CvtU32, CvtU64, AddU64, SubU64, MulU64, Shr64, Shr_u8, Shr_u16, Shr_u32, Shr_u64, And1, And31, And32, Eql64, Neq64, Bin_lss, Bin_leq, Bin_gtr, Bin_geq, Bin_bool_eql, Bin_bool_neq, Bin_ptr_nil_eql, Bin_ptr_nil_neq, Not_dec, Un_not, Pick_t, Pick_f, Pick_pos, Pick_neg, Gd_tt, Gd_tf, Gd_ft, Gd_ff, Gd_pos_t, Gd_neg_t, Gd_pos_f, Gd_neg_f, Gd_undef, If_t, If_f, If_pos, If_neg, CallF_eq, Max_two, Min_two, Len_rd, Len_own, Ld_blkE, Idx_rdN, Idx_ownN, Idx_rdE, Idx_ownE, IdxAE, LdA_two, Idx_at0, Ext_atE, Len_at, Int.toNat_natCast, Int.toNat_zero, Int.toNat_one, List.length_map, List.length_append, List.length_cons, List.length_nil, List.length_take, List.length_set, List.length_replicate, Bool.not_true, Bool.not_false, decide_true, decide_false, BEq.rfl, bne_self_eq_false, tf_beq, ft_beq, tf_bne, ft_bne, not_true_eq_false, not_false_eq_true, app]
    exact hQ
def glueO : Option Cl → Int
  | none => 0
  | some c => c.glue
def usesO : Option Cl → Int
  | none => 0
  | some c => c.uses
theorem glue_q (ha : ArR h g lim cs F) (hk : K (Iv (glueO (clAt cs r))) h) : QCall Try.prog arena_Arena_Glue.id [ptr g, Iv r] K h := by
  refine QCall_of (fun Q hQ => arena_Arena_Glue.ok ?_) hk
  simp only [arena_Arena_Glue.pt]
  rw [go_eq]
  refine get_q (i := 1) ha (by decide) ?_
  cases e : clAt cs r with
  | none => rw [e] at hQ; exact hQ
  | some c => rw [e] at hQ; exact hQ
theorem fit_q (n : Int) (hk : K (Iv (fit31 n)) h) : QCall Try.prog arena_fit.id [Iv n] K h := by
  refine QCall_of (fun Q hQ => arena_fit.ok ?_) hk
  simp only [arena_fit.pt]
  try simp (disch := first | assumption | omega | (apply At.mk; with_unfolding_all rfl)) only [↓go_eq, ↓ent_eq, Mv, NilC_at, Fld_at, add_mk, Nat.zero_add, Nat.add_zero, Add64, Sub64, Mul64, Quo64, Rem64, Neg64, Cvt64, CvtU8, CvtU16, CvtU32, CvtU64, AddU64, SubU64, MulU64, Shr64, Shr_u8, Shr_u16, Shr_u32, Shr_u64, And1, And31, And32, Eql64, Neq64, Bin_lss, Bin_leq, Bin_gtr, Bin_geq, Bin_bool_eql, Bin_bool_neq, Bin_ptr_nil_eql, Bin_ptr_nil_neq, Not_dec, Un_not, Pick_t, Pick_f, Pick_pos, Pick_neg, Gd_tt, Gd_tf, Gd_ft, Gd_ff, Gd_pos_t, Gd_neg_t, Gd_pos_f, Gd_neg_f, Gd_undef, If_t, If_f, If_pos, If_neg, CallF_eq, Max_two, Min_two, Len_rd, Len_own, Ld_blkE, Idx_rdN, Idx_ownN, Idx_rdE, Idx_ownE, IdxAE, LdA_two, Idx_at0, Ext_atE, Len_at, Int.toNat_natCast, Int.toNat_zero, Int.toNat_one, List.length_map, List.length_append, List.length_cons, List.length_nil, List.length_take, List.length_set, List.length_replicate, Bool.not_true, Bool.not_false, decide_true, decide_false, BEq.rfl, bne_self_eq_false, tf_beq, ft_beq, tf_bne, ft_bne, not_true_eq_false, not_false_eq_true, app]
  exact hQ
theorem fit31_bd (n : Int) : 0 ≤ fit31 n ∧ fit31 n ≤ 2147483647 := by unfold fit31; omega
end
end Go.Proofs.Ythekbpaekopmfaa
