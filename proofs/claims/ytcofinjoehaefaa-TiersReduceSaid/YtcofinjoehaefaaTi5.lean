/- The clauses of the statements, as they lie in memory, and the arena that is made of them. Conditions: those typed ahead of each theorem. -/
import Derived.Test.YtcofinjoehaefaaTi4
namespace Go.Proofs.Ytcofinjoehaefaa
open Go.Pt
set_option linter.unusedVariables false
set_option linter.unusedSimpArgs false
theorem clAt_redC {lo hi : Int} {cs : List Cl} (S : List Int) {k : Nat} {c : Cl} (h : cs[k]? = some c) : clAt (redC lo hi cs S) (off cs k : Nat) = if c.gone = true ∨ ((off cs k : Nat) : Int) ∈ S then none else some { useC lo hi c with gone := false } := by
  have g := clAt_off (redC_get (lo := lo) (hi := hi) S h)
  rw [off_redC] at g
  rw [g]
  by_cases hc : c.gone = true ∨ ((off cs k : Nat) : Int) ∈ S
  · rw [if_pos hc, if_pos (show (c.gone || decide (((off cs k : Nat) : Int) ∈ S)) = true by simpa using hc)]
  · rw [if_neg hc]
    have e : (c.gone || decide (((off cs k : Nat) : Int) ∈ S)) = false := by
      simp only [not_or, Bool.not_eq_true] at hc
      rw [hc.1, decide_eq_false hc.2]; rfl
    rw [if_neg (show ¬ (c.gone || decide (((off cs k : Nat) : Int) ∈ S)) = true by rw [e]; simp), e]
abbrev Dc := Bool × Int × Int × Int × Bool
abbrev rCls : Rk (List Dc) := rSlice (rLen 5 (rAnd (rField 0 1 rBool) (rAnd (rField 1 1 (rInt .u8)) (rAnd (rField 2 1 (rInt .u8)) (rAnd (rField 3 1 (rInt .u8)) (rField 4 1 rBool)))))) 5
def dcells (d : Dc) : List Value := [.bool d.1, .int .u8 d.2.1, .int .u8 d.2.2.1, .int .u8 d.2.2.2.1, .bool d.2.2.2.2]
structure RdC (h : Heap) (v : Value) (ds : List Dc) : Prop where
  out : ∃ a cap, v = .slice a ds.length cap ∧ ∀ i d, ds[i]? = some d → ∃ ad, a = some ad ∧ ∀ j u, (dcells d)[j]? = some u → cell h ((ad.add (i * 5)).add j) = some u
def u8ok (d : Dc) : Prop := (0 ≤ d.2.1 ∧ d.2.1 ≤ 255) ∧ (0 ≤ d.2.2.1 ∧ d.2.2.1 ≤ 255) ∧ (0 ≤ d.2.2.2.1 ∧ d.2.2.2.1 ≤ 255)
theorem cls_arg {h : Heap} {ds : List Dc} {v : Value} (r : rCls.is h ds [v]) : RdC h v ds ∧ ∀ d ∈ ds, u8ok d := by
  obtain ⟨a, cap, e, hl, hm, hx, hR⟩ := r
  have ev : v = .slice a ds.length cap := by simpa using e
  have key : ∀ i d, ds[i]? = some d → ∃ ad ecs, a = some ad ∧ u8ok d ∧ ecs = dcells d ∧ ∀ j u, ecs[j]? = some u → cell h ((ad.add (i * 5)).add j) = some u := by
    intro i d hd
    obtain ⟨ad, ecs, h1, h2, h3, h4⟩ := hx i d hd
    obtain ⟨_, hA, hB, hC, hD, hE⟩ := h2
    match ecs, h3, hA, hB, hC, hD, hE, h4 with
    | [x, y, z, u, w], _, hA, hB, hC, hD, hE, h4 =>
      obtain ⟨e2, l2, u2⟩ := hB
      obtain ⟨e3, l3, u3⟩ := hC
      obtain ⟨e4, l4, u4⟩ := hD
      have e1 : x = .bool d.1 := by simpa [rBool, rField] using hA
      have e5 : w = .bool d.2.2.2.2 := by simpa [rBool, rField] using hE
      have e2 : y = .int .u8 d.2.1 := by simpa using e2
      have e3 : z = .int .u8 d.2.2.1 := by simpa using e3
      have e4 : u = .int .u8 d.2.2.2.1 := by simpa using e4
      exact ⟨ad, [x, y, z, u, w], h1, ⟨⟨l2, u2⟩, ⟨l3, u3⟩, ⟨l4, u4⟩⟩, by rw [e1, e2, e3, e4, e5]; rfl, h4⟩
  refine ⟨⟨a, cap, ev, fun i d hd => ?_⟩, fun d hd => ?_⟩
  · obtain ⟨ad, ecs, h1, h2, rfl, h4⟩ := key i d hd
    exact ⟨ad, h1, h4⟩
  · obtain ⟨i, hi⟩ := List.getElem?_of_mem hd
    obtain ⟨_, _, _, h2, _⟩ := key i d hi
    exact h2
section
variable {K : Ret} {h h' : Heap} {ds : List Dc} {v : Value}
theorem RdC.fr (r : RdC h v ds) (f : Fr [] h h') : RdC h' v ds := by
  obtain ⟨a, cap, e, hc⟩ := r.out
  exact ⟨a, cap, e, fun i d hd => let ⟨ad, e1, e2⟩ := hc i d hd; ⟨ad, e1, fun j u hu => cell_fr (e2 j u hu) f (by simp)⟩⟩
theorem RdC.len (r : RdC h v ds) (hk : K (Iv (ds.length : Nat)) h) : Len v K h := by
  obtain ⟨a, cap, rfl, hc⟩ := r.out
  rw [Len_at]; exact hk
theorem RdC.at {i : Nat} {d : Dc} (r : RdC h v ds) (hd : ds[i]? = some d) (hk : K (.agg (dcells d).toArray) h) : Idx 5 v (Iv (i : Nat)) (fun p h => LdA 5 p K h) h := by
  obtain ⟨a, cap, rfl, hc⟩ := r.out
  obtain ⟨ad, rfl, e2⟩ := hc i d hd
  have hi := (List.getElem?_eq_some_iff.1 hd).1
  rw [Idx_at]
  refine ⟨by omega, ?_⟩
  rw [LdA_at, Int.toNat_natCast]
  have h0 := e2 0 _ rfl
  have h1 := e2 1 _ rfl
  have h2 := e2 2 _ rfl
  have h3 := e2 3 _ rfl
  have h4 := e2 4 _ rfl
  have : loads h (ad.add (i * 5)) 0 5 #[] = some (dcells d).toArray := by simp [loads, h0, h1, h2, h3, h4, dcells]
  rw [this]; exact hk
theorem RdC.lock {i : Nat} {d : Dc} (r : RdC h v ds) (hd : ds[i]? = some d) (hk : K (.bool d.2.2.2.2) h) : Idx 5 v (Iv (i : Nat)) (fun p h => Fld 4 p (fun q h => Ld q K h) h) h := by
  obtain ⟨a, cap, rfl, hc⟩ := r.out
  obtain ⟨ad, rfl, e2⟩ := hc i d hd
  have hi := (List.getElem?_eq_some_iff.1 hd).1
  rw [Idx_at]
  refine ⟨by omega, ?_⟩
  rw [Fld_at, Ld_at, Int.toNat_natCast]
  have h4 := e2 4 _ rfl
  rw [h4]; exact hk
variable {b : Nat}
theorem StA_five {x y z u w x' y' z' u' w' : Value} (hb : Blk h b [x, y, z, u, w]) (hx : isCell x' = true) (hy : isCell y' = true) (hz : isCell z' = true) (hu : isCell u' = true) (hw : isCell w' = true) (hk : ∀ h', Blk h' b [x', y', z', u', w'] → Fr [b] h h' → K undef h') : StA 5 (.pointer (some ⟨b, 0, none⟩)) (.agg #[x', y', z', u', w']) K h := by
  rw [StA_at]
  refine ⟨rfl, ?_⟩
  obtain ⟨h', e, b', f⟩ := stores_blk (o := 0) [x', y', z', u', w'] h [x, y, z, u, w] 0 hb (by simp) (by simp [hx, hy, hz, hu, hw])
  have e' : stores h ⟨b, 0, none⟩ 0 (#[x', y', z', u', w'] : Array Value).toList = some h' := e
  rw [e']
  exact hk h' (by simpa using b') f
end
def szB (d : Dc) : Nat := (d.2.2.2.1 % 6).toNat
def litsB (n : Nat) : List Int := (List.range n).map fun k : Nat => ((k + 1 : Nat) : Int)
/-- The clause that is made. -/
def bC (d : Dc) : Cl := ⟨litsB (szB d), d.1, d.2.1 % 20, d.2.2.1 % 4, false⟩
theorem litsB_len (n : Nat) : (litsB n).length = n := by simp [litsB]
theorem litsB_succ (n : Nat) : litsB (n + 1) = litsB n ++ [((n + 1 : Nat) : Int)] := by unfold litsB; rw [List.range_succ, List.map_append]; rfl
theorem szB_lt (d : Dc) : szB d < 6 := by unfold szB; omega
def csB (ds : List Dc) (i : Nat) : List Cl := (ds.take i).map bC
theorem csB_len {ds : List Dc} {i : Nat} (h : i ≤ ds.length) : (csB ds i).length = i := by simp [csB]; omega
theorem csB_succ {ds : List Dc} {i : Nat} {d : Dc} (h : ds[i]? = some d) : csB ds (i + 1) = csB ds i ++ [bC d] := by
  unfold csB; rw [List.take_add_one, h, Option.toList_some, List.map_append]; rfl
theorem csB_bd (ds : List Dc) (i : Nat) : (wds (csB ds i)).length ≤ ds.length * 8 := by
  have := wds_bd (m := 5) (cs := csB ds i) fun c hc => by
    unfold csB at hc
    obtain ⟨d, _, rfl⟩ := List.mem_map.1 hc
    show (litsB (szB d)).length ≤ 5
    rw [litsB_len]; have := szB_lt d; omega
  have h2 : (csB ds i).length ≤ ds.length := by simp [csB]; omega
  have := Nat.mul_le_mul_right (3 + 5) h2
  omega
theorem csB_off (ds : List Dc) {i k : Nat} (hk : k ≤ i) (hi : i ≤ ds.length) : off (csB ds i) k = off (ds.map bC) k := by
  have e : ds.map bC = csB ds i ++ (ds.drop i).map bC := by unfold csB; rw [← List.map_append, List.take_append_drop]
  rw [e, off_append (by rw [csB_len hi]; exact hk)]
theorem tier_bC (d : Dc) (lo hi : Int) (h0 : u8ok d) : tierC (some (bC d)) lo hi = if d.1 then (if d.2.1 % 20 ≤ lo ∨ d.2.2.2.1 % 6 ≤ 2 then 0 else if d.2.1 % 20 ≤ hi then 1 else 2) else -1 := by
  have e : ((lenO (some (bC d)) : Nat) : Int) = d.2.2.2.1 % 6 := by
    show (((litsB (szB d)).length : Nat) : Int) = _
    rw [litsB_len]; unfold szB; omega
  unfold tierC
  rw [e]; rfl
section
variable {K : Ret} {h : Heap} {ds : List Dc} {v : Value}
theorem bradawllaw20_tier.spec {d : Dc} {lo hi : Int} (h0 : u8ok d) (hk : ∀ h', Fr [] h h' → K (Iv (tierC (some (bC d)) lo hi)) h') : CallH Try.prog bradawllaw20_tier.id #[.agg (dcells d).toArray, Iv lo, Iv hi] K h := by
  refine bradawllaw20_tier.ok ?_
  simp only [bradawllaw20_tier.pt]
  obtain ⟨⟨a1, a2⟩, ⟨b1, b2⟩, c1, c2⟩ := h0
  rw [tier_bC d lo hi ⟨⟨a1, a2⟩, ⟨b1, b2⟩, c1, c2⟩] at hk
  obtain ⟨p, q, r, s, t⟩ := d
  simp only at a1 a2 b1 b2 c1 c2 hk
  rw [go_eq]
  refine New_blk fun h1 e1 f1 s1 => ?_
  have e1 : Blk h1 h.size [.bool p, .int .u8 q, .int .u8 r, .int .u8 s, .bool t] := e1
  have hK := hk h1 f1
  cases p with
  | false =>
    rw [if_neg (by simp)] at hK
    try simp (disch := first | assumption | omega | (apply At.mk; with_unfolding_all rfl)) only [↓go_eq, ↓ent_eq, Mv, NilC_at, Fld_at, add_mk, Nat.zero_add, Nat.add_zero, Add64, Sub64, Mul64, Quo64, Rem64, Neg64, Cvt64, CvtU8, CvtU16, CvtU32, CvtU64, AddU64, SubU64, MulU64, Shr64, Shr_u8, Shr_u16, Shr_u32, Shr_u64, And1, And31, And32, Eql64, Neq64, Bin_lss, Bin_leq, Bin_gtr, Bin_geq, Bin_bool_eql, Bin_bool_neq, Bin_ptr_nil_eql, Bin_ptr_nil_neq, Not_dec, Un_not, Pick_t, Pick_f, Pick_pos, Pick_neg, Gd_tt, Gd_tf, Gd_ft, Gd_ff, Gd_pos_t, Gd_neg_t, Gd_pos_f, Gd_neg_f, Gd_undef, If_t, If_f, If_pos, If_neg, CallF_eq, Max_two, Min_two, Len_rd, Len_own, Ld_blkE, Idx_rdN, Idx_ownN, Idx_rdE, Idx_ownE, IdxAE, LdA_two, Idx_at0, Ext_atE, Len_at, Int.toNat_natCast, Int.toNat_zero, Int.toNat_one, List.length_map, List.length_append, List.length_cons, List.length_nil, List.length_take, List.length_set, List.length_replicate, Bool.not_true, Bool.not_false, decide_true, decide_false, BEq.rfl, bne_self_eq_false, tf_beq, ft_beq, tf_bne, ft_bne, not_true_eq_false, not_false_eq_true, app]
    exact hK
  | true =>
    rw [if_pos rfl] at hK
    by_cases d1 : q % 20 ≤ lo
    · rw [if_pos (.inl d1)] at hK
      try simp (disch := first | assumption | omega | (apply At.mk; with_unfolding_all rfl)) only [↓go_eq, ↓ent_eq, Mv, NilC_at, Fld_at, add_mk, Nat.zero_add, Nat.add_zero, Add64, Sub64, Mul64, Quo64, Rem64, Neg64, Cvt64, CvtU8, CvtU16, CvtU32, CvtU64, AddU64, SubU64, MulU64, Shr64, Shr_u8, Shr_u16, Shr_u32, Shr_u64, And1, And31, And32, Eql64, Neq64, Bin_lss, Bin_leq, Bin_gtr, Bin_geq, Bin_bool_eql, Bin_bool_neq, Bin_ptr_nil_eql, Bin_ptr_nil_neq, Not_dec, Un_not, Pick_t, Pick_f, Pick_pos, Pick_neg, Gd_tt, Gd_tf, Gd_ft, Gd_ff, Gd_pos_t, Gd_neg_t, Gd_pos_f, Gd_neg_f, Gd_undef, If_t, If_f, If_pos, If_neg, CallF_eq, Max_two, Min_two, Len_rd, Len_own, Ld_blkE, Idx_rdN, Idx_ownN, Idx_rdE, Idx_ownE, IdxAE, LdA_two, Idx_at0, Ext_atE, Len_at, Int.toNat_natCast, Int.toNat_zero, Int.toNat_one, List.length_map, List.length_append, List.length_cons, List.length_nil, List.length_take, List.length_set, List.length_replicate, Bool.not_true, Bool.not_false, decide_true, decide_false, BEq.rfl, bne_self_eq_false, tf_beq, ft_beq, tf_bne, ft_bne, not_true_eq_false, not_false_eq_true, app]
      exact hK
    · by_cases d2 : s % 6 ≤ 2
      · rw [if_pos (.inr d2)] at hK
        try simp (disch := first | assumption | omega | (apply At.mk; with_unfolding_all rfl)) only [↓go_eq, ↓ent_eq, Mv, NilC_at, Fld_at, add_mk, Nat.zero_add, Nat.add_zero, Add64, Sub64, Mul64, Quo64, Rem64, Neg64, Cvt64, CvtU8, CvtU16, CvtU32, CvtU64, AddU64, SubU64, MulU64, Shr64, Shr_u8, Shr_u16, Shr_u32, Shr_u64, And1, And31, And32, Eql64, Neq64, Bin_lss, Bin_leq, Bin_gtr, Bin_geq, Bin_bool_eql, Bin_bool_neq, Bin_ptr_nil_eql, Bin_ptr_nil_neq, Not_dec, Un_not, Pick_t, Pick_f, Pick_pos, Pick_neg, Gd_tt, Gd_tf, Gd_ft, Gd_ff, Gd_pos_t, Gd_neg_t, Gd_pos_f, Gd_neg_f, Gd_undef, If_t, If_f, If_pos, If_neg, CallF_eq, Max_two, Min_two, Len_rd, Len_own, Ld_blkE, Idx_rdN, Idx_ownN, Idx_rdE, Idx_ownE, IdxAE, LdA_two, Idx_at0, Ext_atE, Len_at, Int.toNat_natCast, Int.toNat_zero, Int.toNat_one, List.length_map, List.length_append, List.length_cons, List.length_nil, List.length_take, List.length_set, List.length_replicate, Bool.not_true, Bool.not_false, decide_true, decide_false, BEq.rfl, bne_self_eq_false, tf_beq, ft_beq, tf_bne, ft_bne, not_true_eq_false, not_false_eq_true, app]
        exact hK
      · rw [if_neg (by simp only [not_or]; exact ⟨d1, d2⟩)] at hK
        by_cases d3 : q % 20 ≤ hi
        · rw [if_pos d3] at hK
          try simp (disch := first | assumption | omega | (apply At.mk; with_unfolding_all rfl)) only [↓go_eq, ↓ent_eq, Mv, NilC_at, Fld_at, add_mk, Nat.zero_add, Nat.add_zero, Add64, Sub64, Mul64, Quo64, Rem64, Neg64, Cvt64, CvtU8, CvtU16, CvtU32, CvtU64, AddU64, SubU64, MulU64, Shr64, Shr_u8, Shr_u16, Shr_u32, Shr_u64, And1, And31, And32, Eql64, Neq64, Bin_lss, Bin_leq, Bin_gtr, Bin_geq, Bin_bool_eql, Bin_bool_neq, Bin_ptr_nil_eql, Bin_ptr_nil_neq, Not_dec, Un_not, Pick_t, Pick_f, Pick_pos, Pick_neg, Gd_tt, Gd_tf, Gd_ft, Gd_ff, Gd_pos_t, Gd_neg_t, Gd_pos_f, Gd_neg_f, Gd_undef, If_t, If_f, If_pos, If_neg, CallF_eq, Max_two, Min_two, Len_rd, Len_own, Ld_blkE, Idx_rdN, Idx_ownN, Idx_rdE, Idx_ownE, IdxAE, LdA_two, Idx_at0, Ext_atE, Len_at, Int.toNat_natCast, Int.toNat_zero, Int.toNat_one, List.length_map, List.length_append, List.length_cons, List.length_nil, List.length_take, List.length_set, List.length_replicate, Bool.not_true, Bool.not_false, decide_true, decide_false, BEq.rfl, bne_self_eq_false, tf_beq, ft_beq, tf_bne, ft_bne, not_true_eq_false, not_false_eq_true, app]
          exact hK
        · rw [if_neg d3] at hK
          try simp (disch := first | assumption | omega | (apply At.mk; with_unfolding_all rfl)) only [↓go_eq, ↓ent_eq, Mv, NilC_at, Fld_at, add_mk, Nat.zero_add, Nat.add_zero, Add64, Sub64, Mul64, Quo64, Rem64, Neg64, Cvt64, CvtU8, CvtU16, CvtU32, CvtU64, AddU64, SubU64, MulU64, Shr64, Shr_u8, Shr_u16, Shr_u32, Shr_u64, And1, And31, And32, Eql64, Neq64, Bin_lss, Bin_leq, Bin_gtr, Bin_geq, Bin_bool_eql, Bin_bool_neq, Bin_ptr_nil_eql, Bin_ptr_nil_neq, Not_dec, Un_not, Pick_t, Pick_f, Pick_pos, Pick_neg, Gd_tt, Gd_tf, Gd_ft, Gd_ff, Gd_pos_t, Gd_neg_t, Gd_pos_f, Gd_neg_f, Gd_undef, If_t, If_f, If_pos, If_neg, CallF_eq, Max_two, Min_two, Len_rd, Len_own, Ld_blkE, Idx_rdN, Idx_ownN, Idx_rdE, Idx_ownE, IdxAE, LdA_two, Idx_at0, Ext_atE, Len_at, Int.toNat_natCast, Int.toNat_zero, Int.toNat_one, List.length_map, List.length_append, List.length_cons, List.length_nil, List.length_take, List.length_set, List.length_replicate, Bool.not_true, Bool.not_false, decide_true, decide_false, BEq.rfl, bne_self_eq_false, tf_beq, ft_beq, tf_bne, ft_bne, not_true_eq_false, not_false_eq_true, app]
          exact hK
set_option maxHeartbeats 4000000 in
theorem bradawllaw20_begin.spec (hv : RdC h v ds) (hd8 : ∀ d ∈ ds, u8ok d) (hn : ds.length ≤ 60)
    (hk : ∀ g rv rb F h', ArR h' g 0 (ds.map bC) F → Own h' rv ((List.range ds.length).map fun q : Nat => Iv (off (ds.map bC) q : Nat)) rb → (∀ b ∈ F, h.size ≤ b) → (∀ b ∈ rb, h.size ≤ b ∧ b ∉ F) → Fr [] h h' → K (.tuple #[ptr g, rv]) h') :
    CallH Try.prog bradawllaw20_begin.id #[v] K h := by
  refine bradawllaw20_begin.ok ?_
  simp only [bradawllaw20_begin.pt]
  rw [go_eq, CallF_eq]
  refine arena_New.spec 0 fun g h1 F1 a1 f1 n1 => ?_
  rw [go_eq]
  refine (hv.fr f1).len ?_
  refine Lp_fn (σ := Nat × Value × List Nat × List Nat) (fun x => [ptr g, x.2.1, v, Iv (ds.length : Nat), Iv (x.1 : Nat)])
    (fun x h' => x.1 ≤ ds.length ∧ ArR h' g 0 (csB ds x.1) x.2.2.2 ∧ (∀ b ∈ x.2.2.2, h.size ≤ b) ∧ Own h' x.2.1 ((List.range x.1).map fun q : Nat => Iv (off (ds.map bC) q : Nat)) x.2.2.1 ∧ (∀ b ∈ x.2.2.1, h.size ≤ b ∧ b ∉ x.2.2.2) ∧ Fr [] h h') (fun x => ds.length - x.1)
    (0, nilS, [], F1) rfl (fun _ => rfl) ⟨Nat.zero_le _, a1, n1, Own.nil _, by simp, f1⟩ ?_
  rintro ⟨i, rv, rb, F⟩ h2 ⟨hi, a2, n2, o2, hrb, f2⟩ X hX
  simp only at hi a2 n2 o2 hrb
  have lt2 := a2.lt
  have olt2 := o2.lt
  have z2 := f2.size
  have hrl : ((List.range i).map fun q : Nat => Iv (off (ds.map bC) q : Nat)).length = i := by simp
  by_cases ci : (i : Int) < (ds.length : Nat)
  · have hd : ds[i]? = some (ds[i]'(by omega)) := List.getElem?_eq_getElem _
    generalize (ds[i]'(by omega)) = d at hd
    have h8 := hd8 d (List.mem_of_getElem? hd)
    have hbd := csB_bd ds i
    have hwl : (wds (csB ds i)).length = off (ds.map bC) i := by rw [wds_len, csB_len hi, csB_off ds (Nat.le_refl _) hi]
    have hsucc := csB_succ hd
    have hs6 := szB_lt d
    have ebC : bC d = ⟨litsB (szB d), d.1, d.2.1 % 20, d.2.2.1 % 4, false⟩ := rfl
    have esz : d.2.2.2.1 % 6 = ((szB d : Nat) : Int) := by unfold szB; omega
    obtain ⟨⟨q1, q2⟩, ⟨r1, r2⟩, s1, s2⟩ := h8
    obtain ⟨p, q, r, s, t⟩ := d
    simp only at q1 q2 r1 r2 s1 s2 esz ebC
    generalize szB (p, q, r, s, t) = n at *
    simp only [app]
    rw [go_eq, Bin_lss, decide_eq_true ci, If_t, go_eq]
    refine (hv.fr f2).at hd ?_
    rw [go_eq]
    refine New_blk fun h3 b3 f3 s3 => ?_
    have b3 : Blk h3 h2.size [.bool false, .int .u8 0, .int .u8 0, .int .u8 0, .bool false] := b3
    rw [go_eq]
    refine StA_five b3 rfl rfl rfl rfl rfl fun h4 b4 f4 => ?_
    have z4 := f4.size
    have a4 := (a2.fr f3 (by simp)).fr f4 (by intro b hb; simp; intro e; have := lt2 b hb; omega)
    have o4 := (o2.fr f3 (by simp)).fr f4 (by intro b hb; simp; intro e; have := olt2 b hb; omega)
    have f24 : Fr [] h2 h4 := f3.trans' f4 (by simp)
    have hvl : ∀ {K : Ret} {h' : Heap}, K (Iv (ds.length : Nat)) h' → Len v K h' := fun {K h'} hK => by
      obtain ⟨a, cap, rfl, hc⟩ := hv.out
      rw [Len_at]; exact hK
    try simp (disch := first | assumption | omega | (apply At.mk; with_unfolding_all rfl)) only [esz, ↓go_eq, ↓ent_eq, Mv, NilC_at, Fld_at, add_mk, Nat.zero_add, Nat.add_zero, Add64, Sub64, Mul64, Quo64, Rem64, Neg64, Cvt64, CvtU8, CvtU16, CvtU32, CvtU64, AddU64, SubU64, MulU64, Shr64, Shr_u8, Shr_u16, Shr_u32, Shr_u64, And1, And31, And32, Eql64, Neq64, Bin_lss, Bin_leq, Bin_gtr, Bin_geq, Bin_bool_eql, Bin_bool_neq, Bin_ptr_nil_eql, Bin_ptr_nil_neq, Not_dec, Un_not, Pick_t, Pick_f, Pick_pos, Pick_neg, Gd_tt, Gd_tf, Gd_ft, Gd_ff, Gd_pos_t, Gd_neg_t, Gd_pos_f, Gd_neg_f, Gd_undef, If_t, If_f, If_pos, If_neg, CallF_eq, Max_two, Min_two, Len_rd, Len_own, Ld_blkE, Idx_rdN, Idx_ownN, Idx_rdE, Idx_ownE, IdxAE, LdA_two, Idx_at0, Ext_atE, Len_at, Int.toNat_natCast, Int.toNat_zero, Int.toNat_one, List.length_map, List.length_append, List.length_cons, List.length_nil, List.length_take, List.length_set, List.length_replicate, Bool.not_true, Bool.not_false, decide_true, decide_false, BEq.rfl, bne_self_eq_false, tf_beq, ft_beq, tf_bne, ft_bne, not_true_eq_false, not_false_eq_true, app]
    refine Lp_fn (σ := Nat × Value × List Nat) (fun x => [ptr g, rv, ptr h2.size, x.2.1, v, Iv (ds.length : Nat), Iv (i : Nat), Iv (n : Nat), Iv (x.1 : Nat)])
      (fun x h' => x.1 ≤ n ∧ Own h' x.2.1 ((litsB x.1).map Iv) x.2.2 ∧ (∀ b ∈ x.2.2, h4.size ≤ b) ∧ Fr [] h4 h') (fun x => n - x.1) (0, nilS, []) rfl (fun _ => rfl) ⟨Nat.zero_le _, Own.nil _, by simp, Fr.refl _ _⟩ ?_
    rintro ⟨j, lv, lb⟩ h5 ⟨hj, o5, hlb, f5⟩ Y hY
    simp only at hj o5 hlb
    have hll : ((litsB j).map Iv).length = j := by rw [List.length_map, litsB_len]
    have z5 := f5.size
    by_cases cj : (j : Int) < (n : Nat)
    · try simp (disch := first | assumption | omega | (apply At.mk; with_unfolding_all rfl)) only [↓go_eq, ↓ent_eq, Mv, NilC_at, Fld_at, add_mk, Nat.zero_add, Nat.add_zero, Add64, Sub64, Mul64, Quo64, Rem64, Neg64, Cvt64, CvtU8, CvtU16, CvtU32, CvtU64, AddU64, SubU64, MulU64, Shr64, Shr_u8, Shr_u16, Shr_u32, Shr_u64, And1, And31, And32, Eql64, Neq64, Bin_lss, Bin_leq, Bin_gtr, Bin_geq, Bin_bool_eql, Bin_bool_neq, Bin_ptr_nil_eql, Bin_ptr_nil_neq, Not_dec, Un_not, Pick_t, Pick_f, Pick_pos, Pick_neg, Gd_tt, Gd_tf, Gd_ft, Gd_ff, Gd_pos_t, Gd_neg_t, Gd_pos_f, Gd_neg_f, Gd_undef, If_t, If_f, If_pos, If_neg, CallF_eq, Max_two, Min_two, Len_rd, Len_own, Ld_blkE, Idx_rdN, Idx_ownN, Idx_rdE, Idx_ownE, IdxAE, LdA_two, Idx_at0, Ext_atE, Len_at, Int.toNat_natCast, Int.toNat_zero, Int.toNat_one, List.length_map, List.length_append, List.length_cons, List.length_nil, List.length_take, List.length_set, List.length_replicate, Bool.not_true, Bool.not_false, decide_true, decide_false, BEq.rfl, bne_self_eq_false, tf_beq, ft_beq, tf_bne, ft_bne, not_true_eq_false, not_false_eq_true, app]
      refine o5.app1 rfl rfl rfl (by rw [hll]; omega) (by rw [hll]; omega) fun v6 h6 lb6 o6 f6 hb6 => ?_
      try simp (disch := first | assumption | omega | (apply At.mk; with_unfolding_all rfl)) only [↓go_eq, ↓ent_eq, Mv, NilC_at, Fld_at, add_mk, Nat.zero_add, Nat.add_zero, Add64, Sub64, Mul64, Quo64, Rem64, Neg64, Cvt64, CvtU8, CvtU16, CvtU32, CvtU64, AddU64, SubU64, MulU64, Shr64, Shr_u8, Shr_u16, Shr_u32, Shr_u64, And1, And31, And32, Eql64, Neq64, Bin_lss, Bin_leq, Bin_gtr, Bin_geq, Bin_bool_eql, Bin_bool_neq, Bin_ptr_nil_eql, Bin_ptr_nil_neq, Not_dec, Un_not, Pick_t, Pick_f, Pick_pos, Pick_neg, Gd_tt, Gd_tf, Gd_ft, Gd_ff, Gd_pos_t, Gd_neg_t, Gd_pos_f, Gd_neg_f, Gd_undef, If_t, If_f, If_pos, If_neg, CallF_eq, Max_two, Min_two, Len_rd, Len_own, Ld_blkE, Idx_rdN, Idx_ownN, Idx_rdE, Idx_ownE, IdxAE, LdA_two, Idx_at0, Ext_atE, Len_at, Int.toNat_natCast, Int.toNat_zero, Int.toNat_one, List.length_map, List.length_append, List.length_cons, List.length_nil, List.length_take, List.length_set, List.length_replicate, Bool.not_true, Bool.not_false, decide_true, decide_false, BEq.rfl, bne_self_eq_false, tf_beq, ft_beq, tf_bne, ft_bne, not_true_eq_false, not_false_eq_true, app]
      try simp only [show (j : Int) + 1 = ((j + 1 : Nat) : Int) from by omega]
      refine hY (j + 1, v6, lb6) h6 ⟨by simp only; omega, ?_, fun b hb => ?_, f5.trans' f6 fun b hb => .inr (hlb b hb)⟩ (by simp only; omega)
      · rw [litsB_succ, List.map_append]; exact o6
      · rcases hb6 b hb with q | q
        · exact hlb b q
        · omega
    · have ej : j = n := by omega
      subst ej
      have b5 := b4.fr f5 (by simp)
      have a5 := a4.fr f5 (by simp)
      have o5' := o4.fr f5 (by simp)
      try simp (disch := first | assumption | omega | (apply At.mk; with_unfolding_all rfl)) only [↓go_eq, ↓ent_eq, Mv, NilC_at, Fld_at, add_mk, Nat.zero_add, Nat.add_zero, Add64, Sub64, Mul64, Quo64, Rem64, Neg64, Cvt64, CvtU8, CvtU16, CvtU32, CvtU64, AddU64, SubU64, MulU64, Shr64, Shr_u8, Shr_u16, Shr_u32, Shr_u64, And1, And31, And32, Eql64, Neq64, Bin_lss, Bin_leq, Bin_gtr, Bin_geq, Bin_bool_eql, Bin_bool_neq, Bin_ptr_nil_eql, Bin_ptr_nil_neq, Not_dec, Un_not, Pick_t, Pick_f, Pick_pos, Pick_neg, Gd_tt, Gd_tf, Gd_ft, Gd_ff, Gd_pos_t, Gd_neg_t, Gd_pos_f, Gd_neg_f, Gd_undef, If_t, If_f, If_pos, If_neg, CallF_eq, Max_two, Min_two, Len_rd, Len_own, Ld_blkE, Idx_rdN, Idx_ownN, Idx_rdE, Idx_ownE, IdxAE, LdA_two, Idx_at0, Ext_atE, Len_at, Int.toNat_natCast, Int.toNat_zero, Int.toNat_one, List.length_map, List.length_append, List.length_cons, List.length_nil, List.length_take, List.length_set, List.length_replicate, Bool.not_true, Bool.not_false, decide_true, decide_false, BEq.rfl, bne_self_eq_false, tf_beq, ft_beq, tf_bne, ft_bne, not_true_eq_false, not_false_eq_true, app]
      refine arena_Arena_Add.spec (c := litsB j) a5 (fun h' f => (o5.fr f fun b hb hm => by have := lt2 b hm; have := hlb b hb; omega).rd) (by rw [litsB_len]; omega) (fun hf => absurd hf.1 (by decide)) fun _ h6 F6 a6 f6 n6 => ?_
      have z6 := f6.size
      have n6' : ∀ b ∈ F6, h.size ≤ b := fun b hb => by
        rcases n6 b hb with q | q
        · exact n2 b q
        · omega
      have b6 := b5.fr f6 (by intro hm; have := lt2 _ hm; omega)
      have o6 := o5'.fr f6 (fun b hb => (hrb b hb).2)
      have hrb6 : ∀ b ∈ rb, b ∉ F6 := fun b hb hm => by
        rcases n6 b hm with q | q
        · exact (hrb b hb).2 q
        · have := olt2 b hb; omega
      have hc6 : (csB ds i ++ [(⟨litsB j, p, fit31 (q % 20), 0, false⟩ : Cl)])[i]? = some ⟨litsB j, p, fit31 (q % 20), 0, false⟩ := by
        rw [List.getElem?_append_right (by rw [csB_len hi]; exact Nat.le_refl _), csB_len hi, Nat.sub_self]; rfl
      have hsu := fun Q : Ret => arena_Arena_SetUses.yes (K := Q) a6 hc6 rfl (r % 4)
      rw [off_append (by rw [csB_len hi]; exact Nat.le_refl _), csB_off ds (Nat.le_refl _) hi] at hsu
      rw [hwl]
      have er : ((r % 4 : Int)) = r % 4 := rfl
      try simp (disch := first | assumption | omega | (apply At.mk; with_unfolding_all rfl)) only [↓go_eq, ↓ent_eq, Mv, NilC_at, Fld_at, add_mk, Nat.zero_add, Nat.add_zero, Add64, Sub64, Mul64, Quo64, Rem64, Neg64, Cvt64, CvtU8, CvtU16, CvtU32, CvtU64, AddU64, SubU64, MulU64, Shr64, Shr_u8, Shr_u16, Shr_u32, Shr_u64, And1, And31, And32, Eql64, Neq64, Bin_lss, Bin_leq, Bin_gtr, Bin_geq, Bin_bool_eql, Bin_bool_neq, Bin_ptr_nil_eql, Bin_ptr_nil_neq, Not_dec, Un_not, Pick_t, Pick_f, Pick_pos, Pick_neg, Gd_tt, Gd_tf, Gd_ft, Gd_ff, Gd_pos_t, Gd_neg_t, Gd_pos_f, Gd_neg_f, Gd_undef, If_t, If_f, If_pos, If_neg, CallF_eq, Max_two, Min_two, Len_rd, Len_own, Ld_blkE, Idx_rdN, Idx_ownN, Idx_rdE, Idx_ownE, IdxAE, LdA_two, Idx_at0, Ext_atE, Len_at, Int.toNat_natCast, Int.toNat_zero, Int.toNat_one, List.length_map, List.length_append, List.length_cons, List.length_nil, List.length_take, List.length_set, List.length_replicate, Bool.not_true, Bool.not_false, decide_true, decide_false, BEq.rfl, bne_self_eq_false, tf_beq, ft_beq, tf_bne, ft_bne, not_true_eq_false, not_false_eq_true, app]
      refine hsu _ fun h7 a7 f7 s7 => ?_
      have o7 := o6.fr f7 hrb6
      try simp (disch := first | assumption | omega | (apply At.mk; with_unfolding_all rfl)) only [↓go_eq, ↓ent_eq, Mv, NilC_at, Fld_at, add_mk, Nat.zero_add, Nat.add_zero, Add64, Sub64, Mul64, Quo64, Rem64, Neg64, Cvt64, CvtU8, CvtU16, CvtU32, CvtU64, AddU64, SubU64, MulU64, Shr64, Shr_u8, Shr_u16, Shr_u32, Shr_u64, And1, And31, And32, Eql64, Neq64, Bin_lss, Bin_leq, Bin_gtr, Bin_geq, Bin_bool_eql, Bin_bool_neq, Bin_ptr_nil_eql, Bin_ptr_nil_neq, Not_dec, Un_not, Pick_t, Pick_f, Pick_pos, Pick_neg, Gd_tt, Gd_tf, Gd_ft, Gd_ff, Gd_pos_t, Gd_neg_t, Gd_pos_f, Gd_neg_f, Gd_undef, If_t, If_f, If_pos, If_neg, CallF_eq, Max_two, Min_two, Len_rd, Len_own, Ld_blkE, Idx_rdN, Idx_ownN, Idx_rdE, Idx_ownE, IdxAE, LdA_two, Idx_at0, Ext_atE, Len_at, Int.toNat_natCast, Int.toNat_zero, Int.toNat_one, List.length_map, List.length_append, List.length_cons, List.length_nil, List.length_take, List.length_set, List.length_replicate, Bool.not_true, Bool.not_false, decide_true, decide_false, BEq.rfl, bne_self_eq_false, tf_beq, ft_beq, tf_bne, ft_bne, not_true_eq_false, not_false_eq_true, app]
      refine o7.app1 rfl rfl rfl (by rw [hrl]; omega) (by rw [hrl]; omega) fun v8 h8 rb8 o8 f8 hb8 => ?_
      try simp (disch := first | assumption | omega | (apply At.mk; with_unfolding_all rfl)) only [↓go_eq, ↓ent_eq, Mv, NilC_at, Fld_at, add_mk, Nat.zero_add, Nat.add_zero, Add64, Sub64, Mul64, Quo64, Rem64, Neg64, Cvt64, CvtU8, CvtU16, CvtU32, CvtU64, AddU64, SubU64, MulU64, Shr64, Shr_u8, Shr_u16, Shr_u32, Shr_u64, And1, And31, And32, Eql64, Neq64, Bin_lss, Bin_leq, Bin_gtr, Bin_geq, Bin_bool_eql, Bin_bool_neq, Bin_ptr_nil_eql, Bin_ptr_nil_neq, Not_dec, Un_not, Pick_t, Pick_f, Pick_pos, Pick_neg, Gd_tt, Gd_tf, Gd_ft, Gd_ff, Gd_pos_t, Gd_neg_t, Gd_pos_f, Gd_neg_f, Gd_undef, If_t, If_f, If_pos, If_neg, CallF_eq, Max_two, Min_two, Len_rd, Len_own, Ld_blkE, Idx_rdN, Idx_ownN, Idx_rdE, Idx_ownE, IdxAE, LdA_two, Idx_at0, Ext_atE, Len_at, Int.toNat_natCast, Int.toNat_zero, Int.toNat_one, List.length_map, List.length_append, List.length_cons, List.length_nil, List.length_take, List.length_set, List.length_replicate, Bool.not_true, Bool.not_false, decide_true, decide_false, BEq.rfl, bne_self_eq_false, tf_beq, ft_beq, tf_bne, ft_bne, not_true_eq_false, not_false_eq_true, app]
      try simp only [show (i : Int) + 1 = ((i + 1 : Nat) : Int) from by omega]
      have f06 : Fr [] h h6 := ((f2.trans f24).trans f5).trans' f6 fun b hb => .inr (n2 b hb)
      have f07 : Fr [] h h7 := f06.trans' f7 fun b hb => .inr (n6' b hb)
      refine hX (i + 1, v8, rb8, F6) h8 ⟨by simp only; omega, ?_, n6', ?_, fun b hb => ?_, f07.trans' f8 fun b hb => .inr ((hrb b hb).1)⟩ (by simp only; omega)
      · have e : (csB ds i ++ [(⟨litsB j, p, fit31 (q % 20), 0, false⟩ : Cl)]).set i ⟨litsB j, p, fit31 (q % 20), fit31 (r % 4), false⟩ = csB ds (i + 1) := by
          rw [hsucc, List.set_append_right _ _ (by rw [csB_len hi]; exact Nat.le_refl _), csB_len hi, Nat.sub_self, ebC]
          rw [show fit31 (q % 20) = q % 20 by unfold fit31; omega, show fit31 (r % 4) = r % 4 by unfold fit31; omega]; rfl
        rw [← e]
        exact a7.fr f8 (fun b hb hm => hrb6 b hm hb)
      · rw [List.range_succ, List.map_append]; exact o8
      · rcases hb8 b hb with q | q
        · exact ⟨(hrb b q).1, hrb6 b q⟩
        · have := f07.size
          have := f7.size
          exact ⟨by omega, fun hm => by have := a7.lt b hm; omega⟩
  · have ei : i = ds.length := by omega
    subst ei
    have e : csB ds ds.length = ds.map bC := by unfold csB; rw [List.take_length]
    rw [e] at a2
    try simp (disch := first | assumption | omega | (apply At.mk; with_unfolding_all rfl)) only [↓go_eq, ↓ent_eq, Mv, NilC_at, Fld_at, add_mk, Nat.zero_add, Nat.add_zero, Add64, Sub64, Mul64, Quo64, Rem64, Neg64, Cvt64, CvtU8, CvtU16, CvtU32, CvtU64, AddU64, SubU64, MulU64, Shr64, Shr_u8, Shr_u16, Shr_u32, Shr_u64, And1, And31, And32, Eql64, Neq64, Bin_lss, Bin_leq, Bin_gtr, Bin_geq, Bin_bool_eql, Bin_bool_neq, Bin_ptr_nil_eql, Bin_ptr_nil_neq, Not_dec, Un_not, Pick_t, Pick_f, Pick_pos, Pick_neg, Gd_tt, Gd_tf, Gd_ft, Gd_ff, Gd_pos_t, Gd_neg_t, Gd_pos_f, Gd_neg_f, Gd_undef, If_t, If_f, If_pos, If_neg, CallF_eq, Max_two, Min_two, Len_rd, Len_own, Ld_blkE, Idx_rdN, Idx_ownN, Idx_rdE, Idx_ownE, IdxAE, LdA_two, Idx_at0, Ext_atE, Len_at, Int.toNat_natCast, Int.toNat_zero, Int.toNat_one, List.length_map, List.length_append, List.length_cons, List.length_nil, List.length_take, List.length_set, List.length_replicate, Bool.not_true, Bool.not_false, decide_true, decide_false, BEq.rfl, bne_self_eq_false, tf_beq, ft_beq, tf_bne, ft_bne, not_true_eq_false, not_false_eq_true, app]
    exact hk g rv rb F h2 a2 o2 n2 hrb f2
end
end Go.Proofs.Ytcofinjoehaefaa
