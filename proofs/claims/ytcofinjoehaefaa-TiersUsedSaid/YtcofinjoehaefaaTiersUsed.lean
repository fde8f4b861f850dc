/- The law TiersUsed. No condition. -/
import Derived.Test.YtcofinjoehaefaaTi5
namespace Go.Proofs.Ytcofinjoehaefaa
open Go.Pt
set_option linter.unusedVariables false
set_option linter.unusedSimpArgs false
theorem pair_argU {k : IntKind} {h : Heap} {xs : List Int} {cs : Array Value} (r : (rArr 2 (rInt k) 1).is h xs cs.toList) : ∃ x y : Int, cs = #[.int k x, .int k y] := by
  obtain ⟨h1, h2, h3⟩ := r
  match xs, h1 with
  | [a, b], _ =>
    obtain ⟨l⟩ := cs
    match l, h2 with
    | [d, e], _ =>
      obtain ⟨e0, l0, u0⟩ := h3 0 a rfl
      obtain ⟨e1, l1, u1⟩ := h3 1 b rfl
      have e0 : d = .int k a := by simpa using e0
      have e1 : e = .int k b := by simpa using e1
      exact ⟨a, b, by rw [e0, e1]⟩
theorem And4095 (n : Int) {K : Ret} {h : Heap} : Bin .int .and (.int .i64 n) (.int .i64 4095) K h = K (.int .i64 (n % 4096)) h := by
  rw [Bin_and, mask_i64 n 12 (by decide) 4095 rfl]; rfl
section
variable {g : Nat} {F : List Nat} {K : Ret} {h : Heap}
/-- One clause alone never goes. -/
theorem Reduce_one {lo hi : Int} {c : Cl} {fv : Value} (ha : ArR h g 0 [c] F) (hfv : fv.cells = #[fv]) (hq : ∀ (r : Int) (h' : Heap) (Q : Ret), Q (.bool false) h' → CallV Try.prog fv [Iv r] Q h')
    (hk : ∀ v bs h', Own h' v [] bs → ArR h' g 0 [useC lo hi c] F → Fr F h h' → K v h') : CallH Try.prog tiers_Reduce.id #[ptr g, fv, Iv lo, Iv hi] K h := by
  refine tiers_Reduce.spec (lk := noL) ha (by simp) hfv (fun q Q h' _ _ hQ => hq _ _ _ hQ) fun v bs h5 ys o5 hb5 p5 s5 a5 f5 => ?_
  have h1 := p5.length_eq
  have h2 := mayL_len (lo := lo) (hi := hi) (lk := noL) (cs := [c]) [c].length
  have h3 : [c].length = 1 := rfl
  have h0 : ys.length / 2 = 0 := by omega
  rw [h0, List.take_zero] at o5 a5
  rw [redC_nil] at a5
  exact hk v bs h5 o5 a5 f5
end
def uC (n : Nat) (g : Int) (u : Int) : Cl := ⟨litsB n, true, g, u, false⟩
theorem uC_tier {n : Nat} {g u mid : Int} (hn : 3 ≤ n) (hg : 7 ≤ g) : tierC (some (uC n g u)) 2 mid = if g ≤ mid then 1 else 2 := by
  have e1 : ((lenO (some (uC n g u)) : Nat) : Int) = (n : Nat) := by show (((litsB n).length : Nat) : Int) = _; rw [litsB_len]
  unfold tierC
  rw [if_pos (show lrnO (some (uC n g u)) = true from rfl), e1, if_neg (show ¬ (glueO (some (uC n g u)) ≤ 2 ∨ ((n : Nat) : Int) ≤ 2) from by show ¬ (g ≤ 2 ∨ _); omega)]
  rfl
theorem uC_use {n : Nat} {g u mid : Int} (hn : 3 ≤ n) (hg : 7 ≤ g) : useC 2 mid (uC n g u) = uC n g (if u = 0 then 0 else if g ≤ mid then u - 1 else 0) := by
  have ht := uC_tier (u := u) (mid := mid) hn hg
  unfold useC
  rw [ht]
  by_cases c0 : u = 0
  · rw [if_neg (show ¬ ((uC n g u).gone = false ∧ (1 : Int) ≤ (if g ≤ mid then 1 else 2) ∧ (uC n g u).uses ≠ 0) from fun q => q.2.2 c0), if_pos c0, c0]
  · by_cases c1 : g ≤ mid
    · rw [if_pos c1, if_pos (show (uC n g u).gone = false ∧ (1 : Int) ≤ 1 ∧ (uC n g u).uses ≠ 0 from ⟨rfl, by decide, c0⟩), if_neg (show ¬ (1 : Int) = 2 by decide), if_neg c0, if_pos c1]; rfl
    · rw [if_neg c1, if_pos (show (uC n g u).gone = false ∧ (1 : Int) ≤ 2 ∧ (uC n g u).uses ≠ 0 from ⟨rfl, by decide, c0⟩), if_pos rfl, if_neg c0, if_neg c1]; rfl
theorem twin_ys {n : Nat} {g mid : Int} (hn : 3 ≤ n) (hg : 7 ≤ g) {ys : List Int} (p : ys.Perm (mayL 2 mid noL [uC n g 0, uC n g 0] [uC n g 0, uC n g 0].length)) (s : ys.Pairwise (fun x y => ¬ WorseL (fun r => glueO (clAt (chg (useC 2 mid) [uC n g 0, uC n g 0] [uC n g 0, uC n g 0].length) r)) (fun r => (lenO (clAt (chg (useC 2 mid) [uC n g 0, uC n g 0] [uC n g 0, uC n g 0].length) r) : Nat)) y x)) : ys = [0, 3 + (n : Int)] := by
  have ec : chg (useC 2 mid) [uC n g 0, uC n g 0] [uC n g 0, uC n g 0].length = [uC n g 0, uC n g 0] := by
    rw [chg_all, List.map_cons, List.map_cons, uC_use hn hg, if_pos rfl]; rfl
  have o1 : off [uC n g 0, uC n g 0] 1 = 3 + n := by show 0 + 3 + (litsB n).length = _; rw [litsB_len, Nat.zero_add]
  have gk : ∀ k, k < 2 → goesK 2 mid noL [uC n g 0, uC n g 0] k = true := fun k hk => by
    have e : [uC n g 0, uC n g 0][k]? = some (uC n g 0) := by
      match k, hk with
      | 0, _ => rfl
      | 1, _ => rfl
    rw [goesK_some e, uC_tier hn hg]
    have : decide ((1 : Int) ≤ if g ≤ mid then 1 else 2) = true := decide_eq_true (by split <;> omega)
    rw [this]; rfl
  have em : mayL 2 mid noL [uC n g 0, uC n g 0] [uC n g 0, uC n g 0].length = [0, 3 + (n : Int)] := by
    show mayL 2 mid noL [uC n g 0, uC n g 0] (0 + 1 + 1) = _
    rw [mayL_step, mayL_step, gk 0 (by omega), gk (0 + 1) (by omega), if_pos rfl, if_pos rfl, o1]
    show [((0 : Nat) : Int)] ++ [((3 + n : Nat) : Int)] = _
    rw [show ((3 + n : Nat) : Int) = 3 + (n : Int) by omega]; rfl
  rw [em] at p
  rw [ec] at s
  refine worse_uniq p s ?_
  have c0 : clAt [uC n g 0, uC n g 0] 0 = some (uC n g 0) := clAt_live (k := 0) rfl rfl
  have c1 : clAt [uC n g 0, uC n g 0] (3 + (n : Int)) = some (uC n g 0) := by
    have := clAt_live (cs := [uC n g 0, uC n g 0]) (k := 1) (c := uC n g 0) rfl rfl
    rw [o1, show ((3 + n : Nat) : Int) = 3 + (n : Int) by omega] at this; exact this
  refine List.Pairwise.cons (fun b hb => ?_) (List.Pairwise.cons (fun b hb => by cases hb) List.Pairwise.nil)
  rw [List.mem_singleton] at hb
  subst hb
  unfold WorseL
  simp only [c0, c1]
  omega
set_option maxHeartbeats 4000000 in
theorem bradawllaw20_TiersUsed.spec {sz gl now : Int} {md : Bool} {K : Ret} {h : Heap} (hsz : 0 ≤ sz ∧ sz ≤ 255) (hk : ∀ h', Fr [] h h' → K (.bool true) h') :
    CallH Try.prog bradawllaw20_TiersUsed.id #[.int .u8 sz, .agg #[Iv gl, Iv now], .bool md] K h := by
  refine bradawllaw20_TiersUsed.ok ?_
  simp only [bradawllaw20_TiersUsed.pt]
  rw [go_eq]
  refine New_blk fun h1 b1 f1 s1 => ?_
  have b1 : Blk h1 h.size [Iv gl, Iv now] := b1
  try simp (disch := first | assumption | omega | (apply At.mk; with_unfolding_all rfl)) only [↓go_eq, ↓ent_eq, Mv, NilC_at, Fld_at, add_mk, Nat.zero_add, Nat.add_zero, Add64, Sub64, Mul64, Quo64, Rem64, Neg64, Cvt64, CvtU8, CvtU16, CvtU32, CvtU64, AddU64, SubU64, MulU64, Shr64, Shr_u8, Shr_u16, Shr_u32, Shr_u64, And1, And31, And32, Eql64, Neq64, Bin_lss, Bin_leq, Bin_gtr, Bin_geq, Bin_bool_eql, Bin_bool_neq, Bin_ptr_nil_eql, Bin_ptr_nil_neq, Not_dec, Un_not, Pick_t, Pick_f, Pick_pos, Pick_neg, Gd_tt, Gd_tf, Gd_ft, Gd_ff, Gd_pos_t, Gd_neg_t, Gd_pos_f, Gd_neg_f, Gd_undef, If_t, If_f, If_pos, If_neg, CallF_eq, Max_two, Min_two, Len_rd, Len_own, Ld_blkE, Idx_rdN, Idx_ownN, Idx_rdE, Idx_ownE, IdxAE, LdA_two, Idx_at0, Ext_atE, Len_at, Int.toNat_natCast, Int.toNat_zero, Int.toNat_one, List.length_map, List.length_append, List.length_cons, List.length_nil, List.length_take, List.length_set, List.length_replicate, Bool.not_true, Bool.not_false, decide_true, decide_false, BEq.rfl, bne_self_eq_false, tf_beq, ft_beq, tf_bne, ft_bne, not_true_eq_false, not_false_eq_true, app]
  refine bradawllaw20_fit.spec fun h2 f2 => ?_
  have f02 := f1.trans f2
  try simp (disch := first | assumption | omega | (apply At.mk; with_unfolding_all rfl)) only [↓go_eq, ↓ent_eq, Mv, NilC_at, Fld_at, add_mk, Nat.zero_add, Nat.add_zero, Add64, Sub64, Mul64, Quo64, Rem64, Neg64, Cvt64, CvtU8, CvtU16, CvtU32, CvtU64, AddU64, SubU64, MulU64, Shr64, Shr_u8, Shr_u16, Shr_u32, Shr_u64, And1, And31, And32, Eql64, Neq64, Bin_lss, Bin_leq, Bin_gtr, Bin_geq, Bin_bool_eql, Bin_bool_neq, Bin_ptr_nil_eql, Bin_ptr_nil_neq, Not_dec, Un_not, Pick_t, Pick_f, Pick_pos, Pick_neg, Gd_tt, Gd_tf, Gd_ft, Gd_ff, Gd_pos_t, Gd_neg_t, Gd_pos_f, Gd_neg_f, Gd_undef, If_t, If_f, If_pos, If_neg, CallF_eq, Max_two, Min_two, Len_rd, Len_own, Ld_blkE, Idx_rdN, Idx_ownN, Idx_rdE, Idx_ownE, IdxAE, LdA_two, Idx_at0, Ext_atE, Len_at, Int.toNat_natCast, Int.toNat_zero, Int.toNat_one, List.length_map, List.length_append, List.length_cons, List.length_nil, List.length_take, List.length_set, List.length_replicate, Bool.not_true, Bool.not_false, decide_true, decide_false, BEq.rfl, bne_self_eq_false, tf_beq, ft_beq, tf_bne, ft_bne, not_true_eq_false, not_false_eq_true, app]
  refine arena_New.spec 0 fun g h3 F3 a3 f3 n3 => ?_
  have f03 := f02.trans f3
  have hF3 : ∀ b ∈ F3, h.size ≤ b := fun b hb => by have := n3 b hb; have := f02.size; omega
  have lt3 := a3.lt
  obtain ⟨n, en⟩ : ∃ n : Nat, 3 + sz % 5 = (n : Int) := ⟨(3 + sz % 5).toNat, by omega⟩
  have hn3 : 3 ≤ n := by omega
  have hn8 : n ≤ 7 := by omega
  try simp (disch := first | assumption | omega | (apply At.mk; with_unfolding_all rfl)) only [en, ↓go_eq, ↓ent_eq, Mv, NilC_at, Fld_at, add_mk, Nat.zero_add, Nat.add_zero, Add64, Sub64, Mul64, Quo64, Rem64, Neg64, Cvt64, CvtU8, CvtU16, CvtU32, CvtU64, AddU64, SubU64, MulU64, Shr64, Shr_u8, Shr_u16, Shr_u32, Shr_u64, And1, And31, And32, Eql64, Neq64, Bin_lss, Bin_leq, Bin_gtr, Bin_geq, Bin_bool_eql, Bin_bool_neq, Bin_ptr_nil_eql, Bin_ptr_nil_neq, Not_dec, Un_not, Pick_t, Pick_f, Pick_pos, Pick_neg, Gd_tt, Gd_tf, Gd_ft, Gd_ff, Gd_pos_t, Gd_neg_t, Gd_pos_f, Gd_neg_f, Gd_undef, If_t, If_f, If_pos, If_neg, CallF_eq, Max_two, Min_two, Len_rd, Len_own, Ld_blkE, Idx_rdN, Idx_ownN, Idx_rdE, Idx_ownE, IdxAE, LdA_two, Idx_at0, Ext_atE, Len_at, Int.toNat_natCast, Int.toNat_zero, Int.toNat_one, List.length_map, List.length_append, List.length_cons, List.length_nil, List.length_take, List.length_set, List.length_replicate, Bool.not_true, Bool.not_false, decide_true, decide_false, BEq.rfl, bne_self_eq_false, tf_beq, ft_beq, tf_bne, ft_bne, not_true_eq_false, not_false_eq_true, app]
  refine MkS_one (x := Iv 0) (n := n) (by omega) (by omega) fun h4 o4 f4 s4 => ?_
  have a4 := a3.fr f4 (by simp)
  have e0 : List.replicate n (Iv 0) = (List.range n).map fun k : Nat => Iv (if k < 0 then ((k + 1 : Nat) : Int) else 0) := by
    refine List.ext_getElem (by simp) fun k h1 h2 => ?_
    simp
  rw [e0] at o4
  have ln4 : ∀ {K : Ret} {h' : Heap}, Len (.slice (some ⟨h3.size, 0, none⟩) n n) K h' = K (Iv (n : Nat)) h' := fun {K h'} => Len_at _ _ _
  try simp (disch := first | assumption | omega | (apply At.mk; with_unfolding_all rfl)) only [ln4, ↓go_eq, ↓ent_eq, Mv, NilC_at, Fld_at, add_mk, Nat.zero_add, Nat.add_zero, Add64, Sub64, Mul64, Quo64, Rem64, Neg64, Cvt64, CvtU8, CvtU16, CvtU32, CvtU64, AddU64, SubU64, MulU64, Shr64, Shr_u8, Shr_u16, Shr_u32, Shr_u64, And1, And31, And32, Eql64, Neq64, Bin_lss, Bin_leq, Bin_gtr, Bin_geq, Bin_bool_eql, Bin_bool_neq, Bin_ptr_nil_eql, Bin_ptr_nil_neq, Not_dec, Un_not, Pick_t, Pick_f, Pick_pos, Pick_neg, Gd_tt, Gd_tf, Gd_ft, Gd_ff, Gd_pos_t, Gd_neg_t, Gd_pos_f, Gd_neg_f, Gd_undef, If_t, If_f, If_pos, If_neg, CallF_eq, Max_two, Min_two, Len_rd, Len_own, Ld_blkE, Idx_rdN, Idx_ownN, Idx_rdE, Idx_ownE, IdxAE, LdA_two, Idx_at0, Ext_atE, Len_at, Int.toNat_natCast, Int.toNat_zero, Int.toNat_one, List.length_map, List.length_append, List.length_cons, List.length_nil, List.length_take, List.length_set, List.length_replicate, Bool.not_true, Bool.not_false, decide_true, decide_false, BEq.rfl, bne_self_eq_false, tf_beq, ft_beq, tf_bne, ft_bne, not_true_eq_false, not_false_eq_true, app]
  generalize (Value.slice (some ⟨h3.size, 0, none⟩) n n) = lv at *
  refine Lp_fn (σ := Nat) (fun j => [.bool md, Iv gl, Iv now, ptr g, lv, Iv (n : Nat), Iv (j : Nat)])
    (fun j h' => j ≤ n ∧ Own h' lv ((List.range n).map fun k : Nat => Iv (if k < j then ((k + 1 : Nat) : Int) else 0)) [h3.size] ∧ Fr [h3.size] h4 h') (fun j => n - j) 0 rfl (fun _ => rfl) ⟨Nat.zero_le _, o4, Fr.refl _ _⟩ ?_
  rintro j h5 ⟨hj, o5, f5⟩ Y hY
  by_cases c2 : (j : Int) < (n : Nat)
  · try simp (disch := first | assumption | omega | (apply At.mk; with_unfolding_all rfl)) only [↓go_eq, ↓ent_eq, Mv, NilC_at, Fld_at, add_mk, Nat.zero_add, Nat.add_zero, Add64, Sub64, Mul64, Quo64, Rem64, Neg64, Cvt64, CvtU8, CvtU16, CvtU32, CvtU64, AddU64, SubU64, MulU64, Shr64, Shr_u8, Shr_u16, Shr_u32, Shr_u64, And1, And31, And32, Eql64, Neq64, Bin_lss, Bin_leq, Bin_gtr, Bin_geq, Bin_bool_eql, Bin_bool_neq, Bin_ptr_nil_eql, Bin_ptr_nil_neq, Not_dec, Un_not, Pick_t, Pick_f, Pick_pos, Pick_neg, Gd_tt, Gd_tf, Gd_ft, Gd_ff, Gd_pos_t, Gd_neg_t, Gd_pos_f, Gd_neg_f, Gd_undef, If_t, If_f, If_pos, If_neg, CallF_eq, Max_two, Min_two, Len_rd, Len_own, Ld_blkE, Idx_rdN, Idx_ownN, Idx_rdE, Idx_ownE, IdxAE, LdA_two, Idx_at0, Ext_atE, Len_at, Int.toNat_natCast, Int.toNat_zero, Int.toNat_one, List.length_map, List.length_append, List.length_cons, List.length_nil, List.length_take, List.length_set, List.length_replicate, Bool.not_true, Bool.not_false, decide_true, decide_false, BEq.rfl, bne_self_eq_false, tf_beq, ft_beq, tf_bne, ft_bne, not_true_eq_false, not_false_eq_true, app]
    refine o5.put (by omega) (by simp; omega) rfl fun h6 o6 f6 _ => ?_
    try simp (disch := first | assumption | omega | (apply At.mk; with_unfolding_all rfl)) only [↓go_eq, ↓ent_eq, Mv, NilC_at, Fld_at, add_mk, Nat.zero_add, Nat.add_zero, Add64, Sub64, Mul64, Quo64, Rem64, Neg64, Cvt64, CvtU8, CvtU16, CvtU32, CvtU64, AddU64, SubU64, MulU64, Shr64, Shr_u8, Shr_u16, Shr_u32, Shr_u64, And1, And31, And32, Eql64, Neq64, Bin_lss, Bin_leq, Bin_gtr, Bin_geq, Bin_bool_eql, Bin_bool_neq, Bin_ptr_nil_eql, Bin_ptr_nil_neq, Not_dec, Un_not, Pick_t, Pick_f, Pick_pos, Pick_neg, Gd_tt, Gd_tf, Gd_ft, Gd_ff, Gd_pos_t, Gd_neg_t, Gd_pos_f, Gd_neg_f, Gd_undef, If_t, If_f, If_pos, If_neg, CallF_eq, Max_two, Min_two, Len_rd, Len_own, Ld_blkE, Idx_rdN, Idx_ownN, Idx_rdE, Idx_ownE, IdxAE, LdA_two, Idx_at0, Ext_atE, Len_at, Int.toNat_natCast, Int.toNat_zero, Int.toNat_one, List.length_map, List.length_append, List.length_cons, List.length_nil, List.length_take, List.length_set, List.length_replicate, Bool.not_true, Bool.not_false, decide_true, decide_false, BEq.rfl, bne_self_eq_false, tf_beq, ft_beq, tf_bne, ft_bne, not_true_eq_false, not_false_eq_true, app]
    try simp only [show (j : Int) + 1 = ((j + 1 : Nat) : Int) from by omega]
    refine hY (j + 1) h6 ⟨by omega, ?_, f5.trans f6⟩ (by omega)
    refine cast (congrArg (fun z => Own h6 lv z [h3.size]) ?_) o6
    refine List.ext_getElem? fun q => ?_
    rw [Int.toNat_natCast, List.getElem?_set, List.length_map, List.length_range]
    by_cases hq : q < n
    · rw [List.getElem?_map, List.getElem?_map, List.getElem?_range hq]
      by_cases e : j = q
      · subst e
        rw [if_pos rfl, if_pos hq]
        simp only [Option.map_some]
        rw [if_pos (by omega)]; rfl
      · rw [if_neg e]
        simp only [Option.map_some]
        by_cases e2 : q < j
        · rw [if_pos e2, if_pos (by omega)]
        · rw [if_neg e2, if_neg (by omega)]
    · rw [List.getElem?_eq_none (by simp; omega), List.getElem?_eq_none (by simp; omega)]
      split
      · rename_i e; subst e; rw [if_neg hq]
      · rfl
  have ej : (List.range n).map (fun k : Nat => Iv (if k < j then ((k + 1 : Nat) : Int) else 0)) = (litsB n).map Iv := by
    unfold litsB
    rw [List.map_map]
    refine List.map_congr_left fun k hk => ?_
    rw [List.mem_range] at hk
    simp only [Function.comp]
    rw [if_pos (by omega)]
  rw [ej] at o5
  clear ej e0 o4
  have a5 := a4.fr f5 (fun b hb => by simp; intro e; have := lt3 _ hb; omega)
  have f05 : Fr [] h h5 := (f03.trans f4).trans' f5 (fun b hb => .inr (by simp at hb; have := f03.size; omega))
  have hw5 : ∀ (F' : List Nat) (h' h'' : Heap), Own h' lv ((litsB n).map Iv) [h3.size] → (∀ b ∈ F', b ∈ F3 ∨ h4.size ≤ b) → Fr F' h' h'' → Own h'' lv ((litsB n).map Iv) [h3.size] := fun F' h' h'' o hF f => o.fr f fun b hb hm => by
    rw [List.mem_singleton] at hb; subst hb
    rcases hF _ hm with q | q
    · have := lt3 _ q; omega
    · omega
  have hg4 : 0 ≤ gl % 4096 ∧ gl % 4096 < 4096 := by omega
  have z5 := f5.size
  try simp (disch := first | assumption | omega | (apply At.mk; with_unfolding_all rfl)) only [And4095, ↓go_eq, ↓ent_eq, Mv, NilC_at, Fld_at, add_mk, Nat.zero_add, Nat.add_zero, Add64, Sub64, Mul64, Quo64, Rem64, Neg64, Cvt64, CvtU8, CvtU16, CvtU32, CvtU64, AddU64, SubU64, MulU64, Shr64, Shr_u8, Shr_u16, Shr_u32, Shr_u64, And1, And31, And32, Eql64, Neq64, Bin_lss, Bin_leq, Bin_gtr, Bin_geq, Bin_bool_eql, Bin_bool_neq, Bin_ptr_nil_eql, Bin_ptr_nil_neq, Not_dec, Un_not, Pick_t, Pick_f, Pick_pos, Pick_neg, Gd_tt, Gd_tf, Gd_ft, Gd_ff, Gd_pos_t, Gd_neg_t, Gd_pos_f, Gd_neg_f, Gd_undef, If_t, If_f, If_pos, If_neg, CallF_eq, Max_two, Min_two, Len_rd, Len_own, Ld_blkE, Idx_rdN, Idx_ownN, Idx_rdE, Idx_ownE, IdxAE, LdA_two, Idx_at0, Ext_atE, Len_at, Int.toNat_natCast, Int.toNat_zero, Int.toNat_one, List.length_map, List.length_append, List.length_cons, List.length_nil, List.length_take, List.length_set, List.length_replicate, Bool.not_true, Bool.not_false, decide_true, decide_false, BEq.rfl, bne_self_eq_false, tf_beq, ft_beq, tf_bne, ft_bne, not_true_eq_false, not_false_eq_true, app]
  obtain ⟨gg, egg⟩ : ∃ gg, gg = 7 + gl % 4096 := ⟨_, rfl⟩
  rw [← egg]
  have hgg : 7 ≤ gg ∧ gg ≤ 4102 := by omega
  have fgg : fit31 gg = gg := by unfold fit31; omega
  refine arena_Arena_Add.spec (c := litsB n) a5 (fun h' f => (hw5 F3 _ _ o5 (fun b hb => .inl hb) f).rd) (by rw [litsB_len]; show 0 + 3 + n ≤ _; omega) (fun hf => absurd hf.1 (by decide)) fun _ h6 F6 a6 f6 n6 => ?_
  have hF6 : ∀ b ∈ F6, b ∈ F3 ∨ h4.size ≤ b := fun b hb => by
    rcases n6 b hb with q | q
    · exact .inl q
    · exact .inr (by omega)
  have hF6' : ∀ b ∈ F6, b ∈ ([] : List Nat) ∨ h.size ≤ b := fun b hb => by
    rcases hF6 b hb with q | q
    · exact .inr (hF3 b q)
    · have := f03.size; exact .inr (by omega)
  have o6 := hw5 F3 _ _ o5 (fun b hb => .inl hb) f6
  have f06 := f05.trans' f6 fun b hb => .inr (hF3 b hb)
  rw [fgg] at a6
  have a6 : ArR h6 g 0 [uC n gg 0] F6 := a6
  rw [show (((wds ([] : List Cl)).length : Nat) : Int) = 0 from rfl]
  have hu := fun Q : Ret => tiers_Used.yes (K := Q) (gl := now) (k := 0) (c := uC n gg 0) a6 rfl rfl rfl
  try simp (disch := first | assumption | omega | (apply At.mk; with_unfolding_all rfl)) only [↓go_eq, ↓ent_eq, Mv, NilC_at, Fld_at, add_mk, Nat.zero_add, Nat.add_zero, Add64, Sub64, Mul64, Quo64, Rem64, Neg64, Cvt64, CvtU8, CvtU16, CvtU32, CvtU64, AddU64, SubU64, MulU64, Shr64, Shr_u8, Shr_u16, Shr_u32, Shr_u64, And1, And31, And32, Eql64, Neq64, Bin_lss, Bin_leq, Bin_gtr, Bin_geq, Bin_bool_eql, Bin_bool_neq, Bin_ptr_nil_eql, Bin_ptr_nil_neq, Not_dec, Un_not, Pick_t, Pick_f, Pick_pos, Pick_neg, Gd_tt, Gd_tf, Gd_ft, Gd_ff, Gd_pos_t, Gd_neg_t, Gd_pos_f, Gd_neg_f, Gd_undef, If_t, If_f, If_pos, If_neg, CallF_eq, Max_two, Min_two, Len_rd, Len_own, Ld_blkE, Idx_rdN, Idx_ownN, Idx_rdE, Idx_ownE, IdxAE, LdA_two, Idx_at0, Ext_atE, Len_at, Int.toNat_natCast, Int.toNat_zero, Int.toNat_one, List.length_map, List.length_append, List.length_cons, List.length_nil, List.length_take, List.length_set, List.length_replicate, Bool.not_true, Bool.not_false, decide_true, decide_false, BEq.rfl, bne_self_eq_false, tf_beq, ft_beq, tf_bne, ft_bne, not_true_eq_false, not_false_eq_true, app]
  refine hu _ fun h7 a7 f7 s7 => ?_
  have hm : fit31 (min gg (max now 0)) = min gg (max now 0) := by unfold fit31; omega
  have a7 : ArR h7 g 0 [⟨litsB n, true, fit31 (min gg (max now 0)), 2, false⟩] F6 := a7
  rw [hm] at a7
  have c7 : clAt [(⟨litsB n, true, min gg (max now 0), 2, false⟩ : Cl)] 0 = some ⟨litsB n, true, min gg (max now 0), 2, false⟩ := clAt_live (k := 0) rfl rfl
  try simp (disch := first | assumption | omega | (apply At.mk; with_unfolding_all rfl)) only [↓go_eq, ↓ent_eq, Mv, NilC_at, Fld_at, add_mk, Nat.zero_add, Nat.add_zero, Add64, Sub64, Mul64, Quo64, Rem64, Neg64, Cvt64, CvtU8, CvtU16, CvtU32, CvtU64, AddU64, SubU64, MulU64, Shr64, Shr_u8, Shr_u16, Shr_u32, Shr_u64, And1, And31, And32, Eql64, Neq64, Bin_lss, Bin_leq, Bin_gtr, Bin_geq, Bin_bool_eql, Bin_bool_neq, Bin_ptr_nil_eql, Bin_ptr_nil_neq, Not_dec, Un_not, Pick_t, Pick_f, Pick_pos, Pick_neg, Gd_tt, Gd_tf, Gd_ft, Gd_ff, Gd_pos_t, Gd_neg_t, Gd_pos_f, Gd_neg_f, Gd_undef, If_t, If_f, If_pos, If_neg, CallF_eq, Max_two, Min_two, Len_rd, Len_own, Ld_blkE, Idx_rdN, Idx_ownN, Idx_rdE, Idx_ownE, IdxAE, LdA_two, Idx_at0, Ext_atE, Len_at, Int.toNat_natCast, Int.toNat_zero, Int.toNat_one, List.length_map, List.length_append, List.length_cons, List.length_nil, List.length_take, List.length_set, List.length_replicate, Bool.not_true, Bool.not_false, decide_true, decide_false, BEq.rfl, bne_self_eq_false, tf_beq, ft_beq, tf_bne, ft_bne, not_true_eq_false, not_false_eq_true, app]
  refine uses_q a7 ?_
  rw [c7, show usesO (some (⟨litsB n, true, min gg (max now 0), 2, false⟩ : Cl)) = 2 from rfl]
  try simp (disch := first | assumption | omega | (apply At.mk; with_unfolding_all rfl)) only [↓go_eq, ↓ent_eq, Mv, NilC_at, Fld_at, add_mk, Nat.zero_add, Nat.add_zero, Add64, Sub64, Mul64, Quo64, Rem64, Neg64, Cvt64, CvtU8, CvtU16, CvtU32, CvtU64, AddU64, SubU64, MulU64, Shr64, Shr_u8, Shr_u16, Shr_u32, Shr_u64, And1, And31, And32, Eql64, Neq64, Bin_lss, Bin_leq, Bin_gtr, Bin_geq, Bin_bool_eql, Bin_bool_neq, Bin_ptr_nil_eql, Bin_ptr_nil_neq, Not_dec, Un_not, Pick_t, Pick_f, Pick_pos, Pick_neg, Gd_tt, Gd_tf, Gd_ft, Gd_ff, Gd_pos_t, Gd_neg_t, Gd_pos_f, Gd_neg_f, Gd_undef, If_t, If_f, If_pos, If_neg, CallF_eq, Max_two, Min_two, Len_rd, Len_own, Ld_blkE, Idx_rdN, Idx_ownN, Idx_rdE, Idx_ownE, IdxAE, LdA_two, Idx_at0, Ext_atE, Len_at, Int.toNat_natCast, Int.toNat_zero, Int.toNat_one, List.length_map, List.length_append, List.length_cons, List.length_nil, List.length_take, List.length_set, List.length_replicate, Bool.not_true, Bool.not_false, decide_true, decide_false, BEq.rfl, bne_self_eq_false, tf_beq, ft_beq, tf_bne, ft_bne, not_true_eq_false, not_false_eq_true, app]
  refine glue_q a7 ?_
  rw [c7, show glueO (some (⟨litsB n, true, min gg (max now 0), 2, false⟩ : Cl)) = min gg (max now 0) from rfl]
  have emm : (if (if (0 : Int) > now then 0 else now) < gg then (if (0 : Int) > now then 0 else now) else gg) = min gg (max now 0) := by (repeat' split) <;> omega
  try simp (disch := first | assumption | omega | (apply At.mk; with_unfolding_all rfl)) only [emm, ↓go_eq, ↓ent_eq, Mv, NilC_at, Fld_at, add_mk, Nat.zero_add, Nat.add_zero, Add64, Sub64, Mul64, Quo64, Rem64, Neg64, Cvt64, CvtU8, CvtU16, CvtU32, CvtU64, AddU64, SubU64, MulU64, Shr64, Shr_u8, Shr_u16, Shr_u32, Shr_u64, And1, And31, And32, Eql64, Neq64, Bin_lss, Bin_leq, Bin_gtr, Bin_geq, Bin_bool_eql, Bin_bool_neq, Bin_ptr_nil_eql, Bin_ptr_nil_neq, Not_dec, Un_not, Pick_t, Pick_f, Pick_pos, Pick_neg, Gd_tt, Gd_tf, Gd_ft, Gd_ff, Gd_pos_t, Gd_neg_t, Gd_pos_f, Gd_neg_f, Gd_undef, If_t, If_f, If_pos, If_neg, CallF_eq, Max_two, Min_two, Len_rd, Len_own, Ld_blkE, Idx_rdN, Idx_ownN, Idx_rdE, Idx_ownE, IdxAE, LdA_two, Idx_at0, Ext_atE, Len_at, Int.toNat_natCast, Int.toNat_zero, Int.toNat_one, List.length_map, List.length_append, List.length_cons, List.length_nil, List.length_take, List.length_set, List.length_replicate, Bool.not_true, Bool.not_false, decide_true, decide_false, BEq.rfl, bne_self_eq_false, tf_beq, ft_beq, tf_bne, ft_bne, not_true_eq_false, not_false_eq_true, app]
  have hsg := fun Q : Ret => arena_Arena_SetGlue.yes (K := Q) a7 (k := 0) rfl rfl gg
  rw [fgg] at hsg
  refine hsg _ fun h8 a8 f8 s8 => ?_
  have a8 : ArR h8 g 0 [uC n gg 2] F6 := a8
  have o8 := hw5 F6 _ _ (hw5 F6 _ _ o6 hF6 f7) hF6 f8
  have f08 := (f06.trans' f7 hF6').trans' f8 hF6'
  have hq : ∀ (r : Int) (h' : Heap) (Q : Ret), Q (.bool false) h' → CallV Try.prog (.func (.func bradawllaw20_TiersUsed_1.id) #[] #[]) [Iv r] Q h' := fun r h' Q hQ => CallV_func (by kernel_rfl) (bradawllaw20_TiersUsed_1.ok hQ)
  clear hu hsg a7 a6 a5 a4 a3 o6 o5 c7 emm hm
  try simp (disch := first | assumption | omega | (apply At.mk; with_unfolding_all rfl)) only [↓go_eq, ↓ent_eq, Mv, NilC_at, Fld_at, add_mk, Nat.zero_add, Nat.add_zero, Add64, Sub64, Mul64, Quo64, Rem64, Neg64, Cvt64, CvtU8, CvtU16, CvtU32, CvtU64, AddU64, SubU64, MulU64, Shr64, Shr_u8, Shr_u16, Shr_u32, Shr_u64, And1, And31, And32, Eql64, Neq64, Bin_lss, Bin_leq, Bin_gtr, Bin_geq, Bin_bool_eql, Bin_bool_neq, Bin_ptr_nil_eql, Bin_ptr_nil_neq, Not_dec, Un_not, Pick_t, Pick_f, Pick_pos, Pick_neg, Gd_tt, Gd_tf, Gd_ft, Gd_ff, Gd_pos_t, Gd_neg_t, Gd_pos_f, Gd_neg_f, Gd_undef, If_t, If_f, If_pos, If_neg, CallF_eq, Max_two, Min_two, Len_rd, Len_own, Ld_blkE, Idx_rdN, Idx_ownN, Idx_rdE, Idx_ownE, IdxAE, LdA_two, Idx_at0, Ext_atE, Len_at, Int.toNat_natCast, Int.toNat_zero, Int.toNat_one, List.length_map, List.length_append, List.length_cons, List.length_nil, List.length_take, List.length_set, List.length_replicate, Bool.not_true, Bool.not_false, decide_true, decide_false, BEq.rfl, bne_self_eq_false, tf_beq, ft_beq, tf_bne, ft_bne, not_true_eq_false, not_false_eq_true, app]
  refine Jn_fn (σ := Int × Int) (fun s => [ptr g, lv, Iv gg, Iv 0, Iv s.1, Iv s.2]) (fun s h' => h' = h8 ∧ ((s.1 = 6 ∧ s.2 = 0) ∨ (s.1 = 1048576 ∧ s.2 = 1))) ?_ ?_
  · intro J hJ
    cases md
    · try simp (disch := first | assumption | omega | (apply At.mk; with_unfolding_all rfl)) only [↓go_eq, ↓ent_eq, Mv, NilC_at, Fld_at, add_mk, Nat.zero_add, Nat.add_zero, Add64, Sub64, Mul64, Quo64, Rem64, Neg64, Cvt64, CvtU8, CvtU16, CvtU32, CvtU64, AddU64, SubU64, MulU64, Shr64, Shr_u8, Shr_u16, Shr_u32, Shr_u64, And1, And31, And32, Eql64, Neq64, Bin_lss, Bin_leq, Bin_gtr, Bin_geq, Bin_bool_eql, Bin_bool_neq, Bin_ptr_nil_eql, Bin_ptr_nil_neq, Not_dec, Un_not, Pick_t, Pick_f, Pick_pos, Pick_neg, Gd_tt, Gd_tf, Gd_ft, Gd_ff, Gd_pos_t, Gd_neg_t, Gd_pos_f, Gd_neg_f, Gd_undef, If_t, If_f, If_pos, If_neg, CallF_eq, Max_two, Min_two, Len_rd, Len_own, Ld_blkE, Idx_rdN, Idx_ownN, Idx_rdE, Idx_ownE, IdxAE, LdA_two, Idx_at0, Ext_atE, Len_at, Int.toNat_natCast, Int.toNat_zero, Int.toNat_one, List.length_map, List.length_append, List.length_cons, List.length_nil, List.length_take, List.length_set, List.length_replicate, Bool.not_true, Bool.not_false, decide_true, decide_false, BEq.rfl, bne_self_eq_false, tf_beq, ft_beq, tf_bne, ft_bne, not_true_eq_false, not_false_eq_true, app]
      exact hJ (6, 0) h8 ⟨rfl, .inl ⟨rfl, rfl⟩⟩
    · try simp (disch := first | assumption | omega | (apply At.mk; with_unfolding_all rfl)) only [↓go_eq, ↓ent_eq, Mv, NilC_at, Fld_at, add_mk, Nat.zero_add, Nat.add_zero, Add64, Sub64, Mul64, Quo64, Rem64, Neg64, Cvt64, CvtU8, CvtU16, CvtU32, CvtU64, AddU64, SubU64, MulU64, Shr64, Shr_u8, Shr_u16, Shr_u32, Shr_u64, And1, And31, And32, Eql64, Neq64, Bin_lss, Bin_leq, Bin_gtr, Bin_geq, Bin_bool_eql, Bin_bool_neq, Bin_ptr_nil_eql, Bin_ptr_nil_neq, Not_dec, Un_not, Pick_t, Pick_f, Pick_pos, Pick_neg, Gd_tt, Gd_tf, Gd_ft, Gd_ff, Gd_pos_t, Gd_neg_t, Gd_pos_f, Gd_neg_f, Gd_undef, If_t, If_f, If_pos, If_neg, CallF_eq, Max_two, Min_two, Len_rd, Len_own, Ld_blkE, Idx_rdN, Idx_ownN, Idx_rdE, Idx_ownE, IdxAE, LdA_two, Idx_at0, Ext_atE, Len_at, Int.toNat_natCast, Int.toNat_zero, Int.toNat_one, List.length_map, List.length_append, List.length_cons, List.length_nil, List.length_take, List.length_set, List.length_replicate, Bool.not_true, Bool.not_false, decide_true, decide_false, BEq.rfl, bne_self_eq_false, tf_beq, ft_beq, tf_bne, ft_bne, not_true_eq_false, not_false_eq_true, app]
      exact hJ (1048576, 1) h8 ⟨rfl, .inr ⟨rfl, rfl⟩⟩
  rintro ⟨mid, left⟩ h' ⟨rfl, hml⟩
  simp only at hml
  have hl1 : (if (2 : Int) = 0 then (0 : Int) else if gg ≤ mid then 2 - 1 else 0) = left := by
    rw [if_neg (by decide)]
    rcases hml with ⟨rfl, rfl⟩ | ⟨rfl, rfl⟩
    · rw [if_neg (by omega)]
    · rw [if_pos (by omega)]; rfl
  have hl2 : (if left = 0 then (0 : Int) else if gg ≤ mid then left - 1 else 0) = 0 := by
    rcases hml with ⟨rfl, rfl⟩ | ⟨rfl, rfl⟩
    · rfl
    · rw [if_neg (by decide), if_pos (by omega)]; rfl
  have hc0 : ∀ u, clAt [uC n gg u] 0 = some (uC n gg u) := fun u => clAt_live (k := 0) rfl rfl
  try simp (disch := first | assumption | omega | (apply At.mk; with_unfolding_all rfl)) only [↓go_eq, ↓ent_eq, Mv, NilC_at, Fld_at, add_mk, Nat.zero_add, Nat.add_zero, Add64, Sub64, Mul64, Quo64, Rem64, Neg64, Cvt64, CvtU8, CvtU16, CvtU32, CvtU64, AddU64, SubU64, MulU64, Shr64, Shr_u8, Shr_u16, Shr_u32, Shr_u64, And1, And31, And32, Eql64, Neq64, Bin_lss, Bin_leq, Bin_gtr, Bin_geq, Bin_bool_eql, Bin_bool_neq, Bin_ptr_nil_eql, Bin_ptr_nil_neq, Not_dec, Un_not, Pick_t, Pick_f, Pick_pos, Pick_neg, Gd_tt, Gd_tf, Gd_ft, Gd_ff, Gd_pos_t, Gd_neg_t, Gd_pos_f, Gd_neg_f, Gd_undef, If_t, If_f, If_pos, If_neg, CallF_eq, Max_two, Min_two, Len_rd, Len_own, Ld_blkE, Idx_rdN, Idx_ownN, Idx_rdE, Idx_ownE, IdxAE, LdA_two, Idx_at0, Ext_atE, Len_at, Int.toNat_natCast, Int.toNat_zero, Int.toNat_one, List.length_map, List.length_append, List.length_cons, List.length_nil, List.length_take, List.length_set, List.length_replicate, Bool.not_true, Bool.not_false, decide_true, decide_false, BEq.rfl, bne_self_eq_false, tf_beq, ft_beq, tf_bne, ft_bne, not_true_eq_false, not_false_eq_true, app]
  refine Reduce_one a8 rfl hq fun v9 bs9 h9 o9 a9 f9 => ?_
  rw [uC_use hn3 hgg.1, hl1] at a9
  have hn0 : ([] : List Value).length = 0 := rfl
  try simp (disch := first | assumption | omega | (apply At.mk; with_unfolding_all rfl)) only [hn0, ↓go_eq, ↓ent_eq, Mv, NilC_at, Fld_at, add_mk, Nat.zero_add, Nat.add_zero, Add64, Sub64, Mul64, Quo64, Rem64, Neg64, Cvt64, CvtU8, CvtU16, CvtU32, CvtU64, AddU64, SubU64, MulU64, Shr64, Shr_u8, Shr_u16, Shr_u32, Shr_u64, And1, And31, And32, Eql64, Neq64, Bin_lss, Bin_leq, Bin_gtr, Bin_geq, Bin_bool_eql, Bin_bool_neq, Bin_ptr_nil_eql, Bin_ptr_nil_neq, Not_dec, Un_not, Pick_t, Pick_f, Pick_pos, Pick_neg, Gd_tt, Gd_tf, Gd_ft, Gd_ff, Gd_pos_t, Gd_neg_t, Gd_pos_f, Gd_neg_f, Gd_undef, If_t, If_f, If_pos, If_neg, CallF_eq, Max_two, Min_two, Len_rd, Len_own, Ld_blkE, Idx_rdN, Idx_ownN, Idx_rdE, Idx_ownE, IdxAE, LdA_two, Idx_at0, Ext_atE, Len_at, Int.toNat_natCast, Int.toNat_zero, Int.toNat_one, List.length_map, List.length_append, List.length_cons, List.length_nil, List.length_take, List.length_set, List.length_replicate, Bool.not_true, Bool.not_false, decide_true, decide_false, BEq.rfl, bne_self_eq_false, tf_beq, ft_beq, tf_bne, ft_bne, not_true_eq_false, not_false_eq_true, app]
  refine uses_q a9 ?_
  rw [hc0, show usesO (some (uC n gg left)) = left from rfl]
  try simp (disch := first | assumption | omega | (apply At.mk; with_unfolding_all rfl)) only [↓go_eq, ↓ent_eq, Mv, NilC_at, Fld_at, add_mk, Nat.zero_add, Nat.add_zero, Add64, Sub64, Mul64, Quo64, Rem64, Neg64, Cvt64, CvtU8, CvtU16, CvtU32, CvtU64, AddU64, SubU64, MulU64, Shr64, Shr_u8, Shr_u16, Shr_u32, Shr_u64, And1, And31, And32, Eql64, Neq64, Bin_lss, Bin_leq, Bin_gtr, Bin_geq, Bin_bool_eql, Bin_bool_neq, Bin_ptr_nil_eql, Bin_ptr_nil_neq, Not_dec, Un_not, Pick_t, Pick_f, Pick_pos, Pick_neg, Gd_tt, Gd_tf, Gd_ft, Gd_ff, Gd_pos_t, Gd_neg_t, Gd_pos_f, Gd_neg_f, Gd_undef, If_t, If_f, If_pos, If_neg, CallF_eq, Max_two, Min_two, Len_rd, Len_own, Ld_blkE, Idx_rdN, Idx_ownN, Idx_rdE, Idx_ownE, IdxAE, LdA_two, Idx_at0, Ext_atE, Len_at, Int.toNat_natCast, Int.toNat_zero, Int.toNat_one, List.length_map, List.length_append, List.length_cons, List.length_nil, List.length_take, List.length_set, List.length_replicate, Bool.not_true, Bool.not_false, decide_true, decide_false, BEq.rfl, bne_self_eq_false, tf_beq, ft_beq, tf_bne, ft_bne, not_true_eq_false, not_false_eq_true, app]
  refine Reduce_one a9 rfl hq fun v10 bs10 h10 o10 a10 f10 => ?_
  rw [uC_use hn3 hgg.1, hl2] at a10
  try simp (disch := first | assumption | omega | (apply At.mk; with_unfolding_all rfl)) only [hn0, ↓go_eq, ↓ent_eq, Mv, NilC_at, Fld_at, add_mk, Nat.zero_add, Nat.add_zero, Add64, Sub64, Mul64, Quo64, Rem64, Neg64, Cvt64, CvtU8, CvtU16, CvtU32, CvtU64, AddU64, SubU64, MulU64, Shr64, Shr_u8, Shr_u16, Shr_u32, Shr_u64, And1, And31, And32, Eql64, Neq64, Bin_lss, Bin_leq, Bin_gtr, Bin_geq, Bin_bool_eql, Bin_bool_neq, Bin_ptr_nil_eql, Bin_ptr_nil_neq, Not_dec, Un_not, Pick_t, Pick_f, Pick_pos, Pick_neg, Gd_tt, Gd_tf, Gd_ft, Gd_ff, Gd_pos_t, Gd_neg_t, Gd_pos_f, Gd_neg_f, Gd_undef, If_t, If_f, If_pos, If_neg, CallF_eq, Max_two, Min_two, Len_rd, Len_own, Ld_blkE, Idx_rdN, Idx_ownN, Idx_rdE, Idx_ownE, IdxAE, LdA_two, Idx_at0, Ext_atE, Len_at, Int.toNat_natCast, Int.toNat_zero, Int.toNat_one, List.length_map, List.length_append, List.length_cons, List.length_nil, List.length_take, List.length_set, List.length_replicate, Bool.not_true, Bool.not_false, decide_true, decide_false, BEq.rfl, bne_self_eq_false, tf_beq, ft_beq, tf_bne, ft_bne, not_true_eq_false, not_false_eq_true, app]
  refine uses_q a10 ?_
  rw [hc0, show usesO (some (uC n gg 0)) = 0 from rfl]
  have ol10 := hw5 F6 _ _ (hw5 F6 _ _ o8 hF6 f9) hF6 f10
  have f010 := (f08.trans' f9 hF6').trans' f10 hF6'
  try simp (disch := first | assumption | omega | (apply At.mk; with_unfolding_all rfl)) only [↓go_eq, ↓ent_eq, Mv, NilC_at, Fld_at, add_mk, Nat.zero_add, Nat.add_zero, Add64, Sub64, Mul64, Quo64, Rem64, Neg64, Cvt64, CvtU8, CvtU16, CvtU32, CvtU64, AddU64, SubU64, MulU64, Shr64, Shr_u8, Shr_u16, Shr_u32, Shr_u64, And1, And31, And32, Eql64, Neq64, Bin_lss, Bin_leq, Bin_gtr, Bin_geq, Bin_bool_eql, Bin_bool_neq, Bin_ptr_nil_eql, Bin_ptr_nil_neq, Not_dec, Un_not, Pick_t, Pick_f, Pick_pos, Pick_neg, Gd_tt, Gd_tf, Gd_ft, Gd_ff, Gd_pos_t, Gd_neg_t, Gd_pos_f, Gd_neg_f, Gd_undef, If_t, If_f, If_pos, If_neg, CallF_eq, Max_two, Min_two, Len_rd, Len_own, Ld_blkE, Idx_rdN, Idx_ownN, Idx_rdE, Idx_ownE, IdxAE, LdA_two, Idx_at0, Ext_atE, Len_at, Int.toNat_natCast, Int.toNat_zero, Int.toNat_one, List.length_map, List.length_append, List.length_cons, List.length_nil, List.length_take, List.length_set, List.length_replicate, Bool.not_true, Bool.not_false, decide_true, decide_false, BEq.rfl, bne_self_eq_false, tf_beq, ft_beq, tf_bne, ft_bne, not_true_eq_false, not_false_eq_true, app]
  have hwl : (wds [uC n gg 0]).length = 3 + n := by simp [wds, enc_len, uC, litsB_len]
  refine arena_Arena_Add.spec (c := litsB n) a10 (fun h' f => (hw5 F6 _ _ ol10 hF6 f).rd) (by rw [litsB_len, hwl]; omega) (fun hf => absurd hf.1 (by decide)) fun _ h11 F11 a11 f11 n11 => ?_
  rw [fgg] at a11
  have a11 : ArR h11 g 0 [uC n gg 0, uC n gg 0] F11 := a11
  have hF11' : ∀ b ∈ F11, b ∈ ([] : List Nat) ∨ h.size ≤ b := fun b hb => by
    rcases n11 b hb with q | q
    · exact hF6' b q
    · have := f010.size; exact .inr (by omega)
  have f011 := f010.trans' f11 hF6'
  rw [hwl]
  try simp (disch := first | assumption | omega | (apply At.mk; with_unfolding_all rfl)) only [↓go_eq, ↓ent_eq, Mv, NilC_at, Fld_at, add_mk, Nat.zero_add, Nat.add_zero, Add64, Sub64, Mul64, Quo64, Rem64, Neg64, Cvt64, CvtU8, CvtU16, CvtU32, CvtU64, AddU64, SubU64, MulU64, Shr64, Shr_u8, Shr_u16, Shr_u32, Shr_u64, And1, And31, And32, Eql64, Neq64, Bin_lss, Bin_leq, Bin_gtr, Bin_geq, Bin_bool_eql, Bin_bool_neq, Bin_ptr_nil_eql, Bin_ptr_nil_neq, Not_dec, Un_not, Pick_t, Pick_f, Pick_pos, Pick_neg, Gd_tt, Gd_tf, Gd_ft, Gd_ff, Gd_pos_t, Gd_neg_t, Gd_pos_f, Gd_neg_f, Gd_undef, If_t, If_f, If_pos, If_neg, CallF_eq, Max_two, Min_two, Len_rd, Len_own, Ld_blkE, Idx_rdN, Idx_ownN, Idx_rdE, Idx_ownE, IdxAE, LdA_two, Idx_at0, Ext_atE, Len_at, Int.toNat_natCast, Int.toNat_zero, Int.toNat_one, List.length_map, List.length_append, List.length_cons, List.length_nil, List.length_take, List.length_set, List.length_replicate, Bool.not_true, Bool.not_false, decide_true, decide_false, BEq.rfl, bne_self_eq_false, tf_beq, ft_beq, tf_bne, ft_bne, not_true_eq_false, not_false_eq_true, app]
  refine tiers_Reduce.spec (lk := noL) a11 (by simp) rfl (fun q Q h' _ _ hQ => hq _ _ _ hQ) fun v12 bs12 h12 ys o12 hb12 p12 s12 a12 f12 => ?_
  have ey := twin_ys hn3 hgg.1 p12 s12
  subst ey
  have hh := hk h12 (f011.trans' f12 hF11')
  rw [show ([0, 3 + (n : Int)] : List Int).take ([0, 3 + (n : Int)].length / 2) = [0] by simp] at o12 a12
  have o12 : Own h12 v12 [Iv 0] bs12 := o12
  have a12 : ArR h12 g 0 (redC 2 mid [uC n gg 0, uC n gg 0] [0]) F11 := a12
  have hl12 : [Iv 0].length = 1 := rfl
  have at0 : At [Iv 0] 0 (Iv 0) := ⟨rfl⟩
  have o1 : off [uC n gg 0, uC n gg 0] 1 = 3 + n := by show 0 + 3 + (litsB n).length = _; rw [litsB_len, Nat.zero_add]
  have k0 := clAt_redC (lo := 2) (hi := mid) (cs := [uC n gg 0, uC n gg 0]) [0] (k := 0) rfl
  have k1 := clAt_redC (lo := 2) (hi := mid) (cs := [uC n gg 0, uC n gg 0]) [0] (k := 1) rfl
  rw [if_pos (.inr (by show ((0 : Nat) : Int) ∈ _; simp))] at k0
  rw [o1, if_neg (by simp only [not_or]; exact ⟨by show ¬ false = true; simp, by simp; omega⟩)] at k1
  try simp (disch := first | assumption | omega | (apply At.mk; with_unfolding_all rfl)) only [hl12, ↓go_eq, ↓ent_eq, Mv, NilC_at, Fld_at, add_mk, Nat.zero_add, Nat.add_zero, Add64, Sub64, Mul64, Quo64, Rem64, Neg64, Cvt64, CvtU8, CvtU16, CvtU32, CvtU64, AddU64, SubU64, MulU64, Shr64, Shr_u8, Shr_u16, Shr_u32, Shr_u64, And1, And31, And32, Eql64, Neq64, Bin_lss, Bin_leq, Bin_gtr, Bin_geq, Bin_bool_eql, Bin_bool_neq, Bin_ptr_nil_eql, Bin_ptr_nil_neq, Not_dec, Un_not, Pick_t, Pick_f, Pick_pos, Pick_neg, Gd_tt, Gd_tf, Gd_ft, Gd_ff, Gd_pos_t, Gd_neg_t, Gd_pos_f, Gd_neg_f, Gd_undef, If_t, If_f, If_pos, If_neg, CallF_eq, Max_two, Min_two, Len_rd, Len_own, Ld_blkE, Idx_rdN, Idx_ownN, Idx_rdE, Idx_ownE, IdxAE, LdA_two, Idx_at0, Ext_atE, Len_at, Int.toNat_natCast, Int.toNat_zero, Int.toNat_one, List.length_map, List.length_append, List.length_cons, List.length_nil, List.length_take, List.length_set, List.length_replicate, Bool.not_true, Bool.not_false, decide_true, decide_false, BEq.rfl, bne_self_eq_false, tf_beq, ft_beq, tf_bne, ft_bne, not_true_eq_false, not_false_eq_true, app]
  refine has_q a12 ?_
  rw [show clAt (redC 2 mid [uC n gg 0, uC n gg 0] [0]) 0 = none from k0, show (none : Option Cl).isSome = false from rfl]
  try simp (disch := first | assumption | omega | (apply At.mk; with_unfolding_all rfl)) only [↓go_eq, ↓ent_eq, Mv, NilC_at, Fld_at, add_mk, Nat.zero_add, Nat.add_zero, Add64, Sub64, Mul64, Quo64, Rem64, Neg64, Cvt64, CvtU8, CvtU16, CvtU32, CvtU64, AddU64, SubU64, MulU64, Shr64, Shr_u8, Shr_u16, Shr_u32, Shr_u64, And1, And31, And32, Eql64, Neq64, Bin_lss, Bin_leq, Bin_gtr, Bin_geq, Bin_bool_eql, Bin_bool_neq, Bin_ptr_nil_eql, Bin_ptr_nil_neq, Not_dec, Un_not, Pick_t, Pick_f, Pick_pos, Pick_neg, Gd_tt, Gd_tf, Gd_ft, Gd_ff, Gd_pos_t, Gd_neg_t, Gd_pos_f, Gd_neg_f, Gd_undef, If_t, If_f, If_pos, If_neg, CallF_eq, Max_two, Min_two, Len_rd, Len_own, Ld_blkE, Idx_rdN, Idx_ownN, Idx_rdE, Idx_ownE, IdxAE, LdA_two, Idx_at0, Ext_atE, Len_at, Int.toNat_natCast, Int.toNat_zero, Int.toNat_one, List.length_map, List.length_append, List.length_cons, List.length_nil, List.length_take, List.length_set, List.length_replicate, Bool.not_true, Bool.not_false, decide_true, decide_false, BEq.rfl, bne_self_eq_false, tf_beq, ft_beq, tf_bne, ft_bne, not_true_eq_false, not_false_eq_true, app]
  refine has_q a12 ?_
  rw [k1]
  try simp (disch := first | assumption | omega | (apply At.mk; with_unfolding_all rfl)) only [↓go_eq, ↓ent_eq, Mv, NilC_at, Fld_at, add_mk, Nat.zero_add, Nat.add_zero, Add64, Sub64, Mul64, Quo64, Rem64, Neg64, Cvt64, CvtU8, CvtU16, CvtU32, CvtU64, AddU64, SubU64, MulU64, Shr64, Shr_u8, Shr_u16, Shr_u32, Shr_u64, And1, And31, And32, Eql64, Neq64, Bin_lss, Bin_leq, Bin_gtr, Bin_geq, Bin_bool_eql, Bin_bool_neq, Bin_ptr_nil_eql, Bin_ptr_nil_neq, Not_dec, Un_not, Pick_t, Pick_f, Pick_pos, Pick_neg, Gd_tt, Gd_tf, Gd_ft, Gd_ff, Gd_pos_t, Gd_neg_t, Gd_pos_f, Gd_neg_f, Gd_undef, If_t, If_f, If_pos, If_neg, CallF_eq, Max_two, Min_two, Len_rd, Len_own, Ld_blkE, Idx_rdN, Idx_ownN, Idx_rdE, Idx_ownE, IdxAE, LdA_two, Idx_at0, Ext_atE, Len_at, Int.toNat_natCast, Int.toNat_zero, Int.toNat_one, List.length_map, List.length_append, List.length_cons, List.length_nil, List.length_take, List.length_set, List.length_replicate, Bool.not_true, Bool.not_false, decide_true, decide_false, BEq.rfl, bne_self_eq_false, tf_beq, ft_beq, tf_bne, ft_bne, not_true_eq_false, not_false_eq_true, app]
  exact hh
theorem bradawllaw20_TiersUsed.law {h : Heap} {a0 : Int} {a1 : List Int} {a2 : Bool} {v0 v2 : Value} {cs1 : Array Value} (r0 : (rInt .u8).is h a0 [v0]) (r1 : (rArr 2 (rInt .i64) 1).is h a1 cs1.toList) (r2 : rBool.is h a2 [v2]) :
    CallH Try.prog bradawllaw20_TiersUsed.id #[v0, .agg cs1, v2] (fun v h' => v = .bool true ∧ Fr [] h h') h := by
  obtain ⟨e0, l0, u0⟩ := r0
  have e0 : v0 = .int .u8 a0 := by simpa using e0
  obtain ⟨x, y, rfl⟩ := pair_argU r1
  have e2 : v2 = .bool a2 := by simpa [rBool] using r2
  subst e0 e2
  exact bradawllaw20_TiersUsed.spec ⟨l0, u0⟩ fun h' f => ⟨rfl, f⟩
end Go.Proofs.Ytcofinjoehaefaa
