/- A heap of variables by their scores, as it is seen from without. Conditions: those typed ahead of each theorem. -/
import Derived.Test.YtcjglfomekpmgaaSc2
namespace Go.Proofs.Ytcjglfomekpmgaa
open Go.Pt
set_option linter.unusedVariables false
set_option linter.unusedSimpArgs false
def cnt : Nat → (Nat → Bool) → Nat
  | 0, _ => 0
  | n + 1, S => cnt n S + if S (n + 1) then 1 else 0
theorem cnt_le : ∀ (n : Nat) (S : Nat → Bool), cnt n S ≤ n
  | 0, _ => Nat.le_refl _
  | n + 1, S => by have := cnt_le n S; unfold cnt; split <;> omega
theorem cnt_congr : ∀ {n : Nat} {S T : Nat → Bool}, (∀ v, 1 ≤ v → v ≤ n → S v = T v) → cnt n S = cnt n T
  | 0, _, _, _ => rfl
  | n + 1, S, T, h => by unfold cnt; rw [cnt_congr fun v a b => h v a (by omega), h (n + 1) (by omega) (Nat.le_refl _)]
theorem cnt_put : ∀ {n : Nat} {S : Nat → Bool} {v : Nat}, 1 ≤ v → v ≤ n → S v = false → cnt n (upd S v true) = cnt n S + 1
  | 0, _, _, h1, h2, _ => by omega
  | n + 1, S, v, h1, h2, h3 => by
    unfold cnt
    by_cases e : v = n + 1
    · subst e
      rw [upd_at, h3, cnt_congr (T := S) fun x a b => upd_ne (by omega)]; simp
    · rw [upd_ne (Ne.symm e), cnt_put h1 (by omega) h3]; omega
theorem cnt_take : ∀ {n : Nat} {S : Nat → Bool} {v : Nat}, 1 ≤ v → v ≤ n → S v = true → cnt n (upd S v false) + 1 = cnt n S
  | 0, _, _, h1, h2, _ => by omega
  | n + 1, S, v, h1, h2, h3 => by
    unfold cnt
    by_cases e : v = n + 1
    · subst e
      rw [upd_at, h3, cnt_congr (T := S) fun x a b => upd_ne (by omega)]; simp
    · have := cnt_take h1 (show v ≤ n by omega) h3
      rw [upd_ne (Ne.symm e)]; omega
theorem cnt_zero : ∀ {n : Nat} {S : Nat → Bool}, cnt n S = 0 → ∀ v, 1 ≤ v → v ≤ n → S v = false
  | 0, _, _, v, h1, h2 => by omega
  | n + 1, S, h, v, h1, h2 => by
    unfold cnt at h
    by_cases e : v = n + 1
    · subst e
      cases hS : S (n + 1) with
      | false => rfl
      | true => rw [hS] at h; simp at h
    · exact cnt_zero (show cnt n S = 0 by omega) v h1 (by omega)
theorem Own.cut {h : Heap} {v : Value} {xs : List Value} {y : Value} {bs : List Nat} {k : IntKind} {K : Ret} (o : Own h v (xs ++ [y]) bs) (hk : ∀ v', Own h v' xs bs → K v' h) : Slc 1 v none (some (.int k (xs.length : Nat))) none K h := by
  rcases o with ⟨_, e, _⟩ | ⟨b, rest, rfl, hb, rfl⟩
  · simp at e
  · have e : bounds3 (xs ++ [y]).length ((xs ++ [y]).length + rest.length) none (some (.int k (xs.length : Nat))) none = some (0, xs.length, (xs ++ [y]).length + rest.length) := by
      have e2 : (xs.length : Int) ≤ (xs.length : Int) + 1 + (rest.length : Int) := by omega
      simp [bounds3, bound, e2]
    rw [Slc_eq, e]
    refine hk _ (.inr ⟨b, y :: rest, ?_, by rw [show xs ++ y :: rest = (xs ++ [y]) ++ rest by simp]; exact hb, rfl⟩)
    have e3 : (xs ++ [y]).length + rest.length = xs.length + (y :: rest).length := by simp; omega
    rw [e3]
    have : (some (⟨b, 0, none⟩ : Addr)).map (·.add (0 * 1)) = some ⟨b, 0, none⟩ := by rw [Option.map_some, add_mk]
    simp [this, add_mk]
abbrev T := (Nat → Int) × Int
def bmp (n : Nat) (t : T) (v : Int) : T :=
  if 1 ≤ v ∧ v ≤ n then (if t.1 v.toNat + t.2 > 1125899906842624 then low (upd t.1 v.toNat (t.1 v.toNat + t.2), t.2) else (upd t.1 v.toNat (t.1 v.toNat + t.2), t.2)) else t
def dec (t : T) : T := if t.2 + (t.2 / 15 + 1) > 1125899906842624 then low (t.1, t.2 + (t.2 / 15 + 1)) else (t.1, t.2 + (t.2 / 15 + 1))
def SB (n : Nat) (t : T) : Prop := (∀ v, v ≤ n → 0 ≤ t.1 v ∧ t.1 v ≤ 1125899906842624 ∧ (v = 0 → t.1 v = 0)) ∧ 1 ≤ t.2 ∧ t.2 ≤ 1125899906842624
theorem low_SB {n : Nat} {t : T} (h1 : ∀ v, v ≤ n → 0 ≤ t.1 v ∧ t.1 v ≤ 4611686018427387904) (h2 : 0 ≤ t.2 ∧ t.2 ≤ 4611686018427387904) (h0 : t.1 0 = 0) : SB n (low t) := by
  refine ⟨fun v hv => ?_, ?_, ?_⟩
  · have := h1 v hv; show 0 ≤ t.1 v / 1073741824 ∧ t.1 v / 1073741824 ≤ _ ∧ (v = 0 → t.1 v / 1073741824 = 0); refine ⟨by omega, by omega, fun e => ?_⟩; rw [e, h0]; rfl
  · show 1 ≤ max (t.2 / 1073741824) 1; omega
  · show max (t.2 / 1073741824) 1 ≤ _; omega
theorem upd_bd {n : Nat} {t : T} (hb : SB n t) {v : Int} : ∀ x, x ≤ n → 0 ≤ upd t.1 v.toNat (t.1 v.toNat + t.2) x ∧ upd t.1 v.toNat (t.1 v.toNat + t.2) x ≤ 4611686018427387904 := by
  intro x hx
  by_cases e : x = v.toNat
  · subst e; rw [upd_at]; have := hb.1 _ hx; have := hb.2; omega
  · rw [upd_ne e]; have := hb.1 _ hx; omega
theorem bmp_SB {n : Nat} {t : T} (hb : SB n t) (v : Int) : SB n (bmp n t v) := by
  unfold bmp
  split
  · rename_i hV
    split
    · exact low_SB (upd_bd hb) ⟨by have := hb.2; simp only; omega, by have := hb.2; simp only; omega⟩ (by simp only; rw [upd_ne (by omega)]; exact (hb.1 0 (Nat.zero_le _)).2.2 rfl)
    · refine ⟨fun x hx => ?_, hb.2⟩
      by_cases e : x = v.toNat
      · subst e; simp only; rw [upd_at]; have := hb.1 _ hx; have := hb.2; omega
      · simp only; rw [upd_ne e]; exact hb.1 _ hx
  · exact hb
theorem dec_SB {n : Nat} {t : T} (hb : SB n t) : SB n (dec t) := by
  obtain ⟨h1, h2, h3⟩ := hb
  unfold dec
  split
  · exact low_SB (fun v hv => by have := h1 v hv; simp only; omega) ⟨by simp only; omega, by simp only; omega⟩ ((h1 0 (Nat.zero_le _)).2.2 rfl)
  · exact ⟨h1, by simp only; omega, by simp only; omega⟩
/-- The first one of those that are in. -/
def Fst (n : Nat) (s : Nat → Int) (S : Nat → Bool) (v : Nat) (ok : Bool) : Prop :=
  (ok = false ∧ v = 0 ∧ ∀ x, 1 ≤ x → x ≤ n → S x = false) ∨ (ok = true ∧ 1 ≤ v ∧ v ≤ n ∧ S v = true ∧ ∀ x, 1 ≤ x → x ≤ n → S x = true → ¬ A s x v)
theorem Fst.uniq {n : Nat} {s : Nat → Int} {S : Nat → Bool} {v w : Nat} {a b : Bool} (h : Fst n s S v a) (h' : Fst n s S w b) : v = w ∧ a = b := by
  rcases h with ⟨rfl, rfl, h1⟩ | ⟨rfl, h1, h2, h3, h4⟩ <;> rcases h' with ⟨rfl, rfl, g1⟩ | ⟨rfl, g1, g2, g3, g4⟩
  · exact ⟨rfl, rfl⟩
  · rw [h1 w g1 g2] at g3; cases g3
  · rw [g1 v h1 h2] at h3; cases h3
  · refine ⟨?_, rfl⟩
    have x1 := h4 w g1 g2 g3
    have x2 := g4 v h1 h2 h3
    by_cases e : v = w
    · exact e
    · exact absurd (A_tot e x2) x1
theorem Fst.ok {n : Nat} {s : Nat → Int} {S : Nat → Bool} {v : Nat} {a : Bool} (h : Fst n s S v a) : a = decide ((v : Int) > 0) := by
  rcases h with ⟨rfl, rfl, _⟩ | ⟨rfl, h1, _⟩
  · rfl
  · rw [decide_eq_true (by omega)]
def HP (h : Heap) (g : Nat) (fp : List Nat) (n : Nat) (t : T) (S : Nat → Bool) : Prop :=
  ∃ (c : HC) (p : Nat → Int) (f : Nat → Nat), c.g = g ∧ c.n = n ∧ c.fp = fp ∧ HM h c t.1 p f (cnt n S) t.2 ∧ PI n (cnt n S) 0 S f p ∧ HOF t.1 (cnt n S) f 0
section
variable {K : Ret} {h h' : Heap} {g : Nat} {fp : List Nat} {n : Nat} {t : T} {S : Nat → Bool}
theorem HP.fr {B : List Nat} (q : HP h g fp n t S) (f : Fr B h h') (hd : ∀ b ∈ fp, b ∉ B) : HP h' g fp n t S := by
  obtain ⟨c, p, f', e1, e2, rfl, q, pi, ho⟩ := q
  exact ⟨c, p, f', e1, e2, rfl, q.fr f hd, pi, ho⟩
theorem HP.lt (q : HP h g fp n t S) : ∀ b ∈ fp, b < h.size := by
  obtain ⟨c, p, f', e1, e2, rfl, q, pi, ho⟩ := q
  exact q.lt
theorem scores_Heap_right.spec {v : Int} (q : HP h g fp n t S) (hn : n ≤ 1000) (hk : K (.bool (decide (1 ≤ v ∧ v ≤ n))) h) : CallH Try.prog scores_Heap_right.id #[ptr g, Iv v] K h := by
  refine scores_Heap_right.ok ?_
  simp only [scores_Heap_right.pt]
  obtain ⟨c, p, f, rfl, rfl, rfl, q, pi, ho⟩ := q
  have hd := q.hd
  have os := q.os
  have hl := arr_len (c.n + 1) t.1
  by_cases c1 : v ≥ 1
  · try simp (disch := first | assumption | omega | (apply At.mk; with_unfolding_all rfl)) only [hl, ↓go_eq, ↓ent_eq, Mv, NilC_at, Fld_at, add_mk, Nat.zero_add, Nat.add_zero, Add64, Sub64, Mul64, Quo64, Rem64, Neg64, Cvt64, CvtU8, CvtU16, CvtU32, CvtU64, AddU64, SubU64, MulU64, Shr64, Shr_u8, Shr_u16, Shr_u32, Shr_u64, And1, And31, And32, Eql64, Neq64, Bin_lss, Bin_leq, Bin_gtr, Bin_geq, Bin_bool_eql, Bin_bool_neq, Bin_ptr_nil_eql, Bin_ptr_nil_neq, Not_dec, Un_not, Pick_t, Pick_f, Pick_pos, Pick_neg, Gd_tt, Gd_tf, Gd_ft, Gd_ff, Gd_pos_t, Gd_neg_t, Gd_pos_f, Gd_neg_f, Gd_undef, If_t, If_f, If_pos, If_neg, CallF_eq, Max_two, Min_two, Len_rd, Len_own, Ld_blkE, Idx_rdN, Idx_ownN, Idx_rdE, Idx_ownE, IdxAE, LdA_two, Idx_at0, Ext_atE, Len_at, Int.toNat_natCast, Int.toNat_zero, Int.toNat_one, List.length_map, List.length_append, List.length_cons, List.length_nil, List.length_take, List.length_set, List.length_replicate, Bool.not_true, Bool.not_false, decide_true, decide_false, BEq.rfl, bne_self_eq_false, tf_beq, ft_beq, tf_bne, ft_bne, not_true_eq_false, not_false_eq_true, app]
    by_cases c2 : v < ((c.n + 1 : Nat) : Int)
    · rw [decide_eq_true (show 1 ≤ v ∧ v ≤ c.n by omega)] at hk
      rw [decide_eq_true c2]; exact hk
    · rw [decide_eq_false (show ¬ (1 ≤ v ∧ v ≤ c.n) by omega)] at hk
      rw [decide_eq_false c2]; exact hk
  · rw [decide_eq_false (show ¬ (1 ≤ v ∧ v ≤ c.n) by omega)] at hk
    try simp (disch := first | assumption | omega | (apply At.mk; with_unfolding_all rfl)) only [↓go_eq, ↓ent_eq, Mv, NilC_at, Fld_at, add_mk, Nat.zero_add, Nat.add_zero, Add64, Sub64, Mul64, Quo64, Rem64, Neg64, Cvt64, CvtU8, CvtU16, CvtU32, CvtU64, AddU64, SubU64, MulU64, Shr64, Shr_u8, Shr_u16, Shr_u32, Shr_u64, And1, And31, And32, Eql64, Neq64, Bin_lss, Bin_leq, Bin_gtr, Bin_geq, Bin_bool_eql, Bin_bool_neq, Bin_ptr_nil_eql, Bin_ptr_nil_neq, Not_dec, Un_not, Pick_t, Pick_f, Pick_pos, Pick_neg, Gd_tt, Gd_tf, Gd_ft, Gd_ff, Gd_pos_t, Gd_neg_t, Gd_pos_f, Gd_neg_f, Gd_undef, If_t, If_f, If_pos, If_neg, CallF_eq, Max_two, Min_two, Len_rd, Len_own, Ld_blkE, Idx_rdN, Idx_ownN, Idx_rdE, Idx_ownE, IdxAE, LdA_two, Idx_at0, Ext_atE, Len_at, Int.toNat_natCast, Int.toNat_zero, Int.toNat_one, List.length_map, List.length_append, List.length_cons, List.length_nil, List.length_take, List.length_set, List.length_replicate, Bool.not_true, Bool.not_false, decide_true, decide_false, BEq.rfl, bne_self_eq_false, tf_beq, ft_beq, tf_bne, ft_bne, not_true_eq_false, not_false_eq_true, app]
    exact hk
theorem scores_Heap_Score.spec {v : Int} (q : HP h g fp n t S) (hn : n ≤ 1000) (hk : K (Iv (if 1 ≤ v ∧ v ≤ n then t.1 v.toNat else 0)) h) : CallH Try.prog scores_Heap_Score.id #[ptr g, Iv v] K h := by
  refine scores_Heap_Score.ok ?_
  simp only [scores_Heap_Score.pt]
  try simp (disch := first | assumption | omega | (apply At.mk; with_unfolding_all rfl)) only [↓go_eq, ↓ent_eq, Mv, NilC_at, Fld_at, add_mk, Nat.zero_add, Nat.add_zero, Add64, Sub64, Mul64, Quo64, Rem64, Neg64, Cvt64, CvtU8, CvtU16, CvtU32, CvtU64, AddU64, SubU64, MulU64, Shr64, Shr_u8, Shr_u16, Shr_u32, Shr_u64, And1, And31, And32, Eql64, Neq64, Bin_lss, Bin_leq, Bin_gtr, Bin_geq, Bin_bool_eql, Bin_bool_neq, Bin_ptr_nil_eql, Bin_ptr_nil_neq, Not_dec, Un_not, Pick_t, Pick_f, Pick_pos, Pick_neg, Gd_tt, Gd_tf, Gd_ft, Gd_ff, Gd_pos_t, Gd_neg_t, Gd_pos_f, Gd_neg_f, Gd_undef, If_t, If_f, If_pos, If_neg, CallF_eq, Max_two, Min_two, Len_rd, Len_own, Ld_blkE, Idx_rdN, Idx_ownN, Idx_rdE, Idx_ownE, IdxAE, LdA_two, Idx_at0, Ext_atE, Len_at, Int.toNat_natCast, Int.toNat_zero, Int.toNat_one, List.length_map, List.length_append, List.length_cons, List.length_nil, List.length_take, List.length_set, List.length_replicate, Bool.not_true, Bool.not_false, decide_true, decide_false, BEq.rfl, bne_self_eq_false, tf_beq, ft_beq, tf_bne, ft_bne, not_true_eq_false, not_false_eq_true, app]
  refine scores_Heap_right.spec q hn ?_
  by_cases c1 : 1 ≤ v ∧ v ≤ n
  · rw [if_pos c1] at hk
    rw [decide_eq_true c1]
    obtain ⟨c, p, f, rfl, rfl, rfl, q, pi, ho⟩ := q
    have hd := q.hd
    have os := q.os
    have a1 := arr_at t.1 (show v.toNat < c.n + 1 by omega)
    try simp (disch := first | assumption | omega | (apply At.mk; with_unfolding_all rfl)) only [↓go_eq, ↓ent_eq, Mv, NilC_at, Fld_at, add_mk, Nat.zero_add, Nat.add_zero, Add64, Sub64, Mul64, Quo64, Rem64, Neg64, Cvt64, CvtU8, CvtU16, CvtU32, CvtU64, AddU64, SubU64, MulU64, Shr64, Shr_u8, Shr_u16, Shr_u32, Shr_u64, And1, And31, And32, Eql64, Neq64, Bin_lss, Bin_leq, Bin_gtr, Bin_geq, Bin_bool_eql, Bin_bool_neq, Bin_ptr_nil_eql, Bin_ptr_nil_neq, Not_dec, Un_not, Pick_t, Pick_f, Pick_pos, Pick_neg, Gd_tt, Gd_tf, Gd_ft, Gd_ff, Gd_pos_t, Gd_neg_t, Gd_pos_f, Gd_neg_f, Gd_undef, If_t, If_f, If_pos, If_neg, CallF_eq, Max_two, Min_two, Len_rd, Len_own, Ld_blkE, Idx_rdN, Idx_ownN, Idx_rdE, Idx_ownE, IdxAE, LdA_two, Idx_at0, Ext_atE, Len_at, Int.toNat_natCast, Int.toNat_zero, Int.toNat_one, List.length_map, List.length_append, List.length_cons, List.length_nil, List.length_take, List.length_set, List.length_replicate, Bool.not_true, Bool.not_false, decide_true, decide_false, BEq.rfl, bne_self_eq_false, tf_beq, ft_beq, tf_bne, ft_bne, not_true_eq_false, not_false_eq_true, app]
    exact hk
  · rw [if_neg c1] at hk
    rw [decide_eq_false c1]
    try simp (disch := first | assumption | omega | (apply At.mk; with_unfolding_all rfl)) only [↓go_eq, ↓ent_eq, Mv, NilC_at, Fld_at, add_mk, Nat.zero_add, Nat.add_zero, Add64, Sub64, Mul64, Quo64, Rem64, Neg64, Cvt64, CvtU8, CvtU16, CvtU32, CvtU64, AddU64, SubU64, MulU64, Shr64, Shr_u8, Shr_u16, Shr_u32, Shr_u64, And1, And31, And32, Eql64, Neq64, Bin_lss, Bin_leq, Bin_gtr, Bin_geq, Bin_bool_eql, Bin_bool_neq, Bin_ptr_nil_eql, Bin_ptr_nil_neq, Not_dec, Un_not, Pick_t, Pick_f, Pick_pos, Pick_neg, Gd_tt, Gd_tf, Gd_ft, Gd_ff, Gd_pos_t, Gd_neg_t, Gd_pos_f, Gd_neg_f, Gd_undef, If_t, If_f, If_pos, If_neg, CallF_eq, Max_two, Min_two, Len_rd, Len_own, Ld_blkE, Idx_rdN, Idx_ownN, Idx_rdE, Idx_ownE, IdxAE, LdA_two, Idx_at0, Ext_atE, Len_at, Int.toNat_natCast, Int.toNat_zero, Int.toNat_one, List.length_map, List.length_append, List.length_cons, List.length_nil, List.length_take, List.length_set, List.length_replicate, Bool.not_true, Bool.not_false, decide_true, decide_false, BEq.rfl, bne_self_eq_false, tf_beq, ft_beq, tf_bne, ft_bne, not_true_eq_false, not_false_eq_true, app]
    exact hk
theorem scores_Heap_In.spec {v : Int} (q : HP h g fp n t S) (hn : n ≤ 1000) (hk : K (.bool (decide (1 ≤ v ∧ v ≤ n) && S v.toNat)) h) : CallH Try.prog scores_Heap_In.id #[ptr g, Iv v] K h := by
  refine scores_Heap_In.ok ?_
  simp only [scores_Heap_In.pt]
  try simp (disch := first | assumption | omega | (apply At.mk; with_unfolding_all rfl)) only [↓go_eq, ↓ent_eq, Mv, NilC_at, Fld_at, add_mk, Nat.zero_add, Nat.add_zero, Add64, Sub64, Mul64, Quo64, Rem64, Neg64, Cvt64, CvtU8, CvtU16, CvtU32, CvtU64, AddU64, SubU64, MulU64, Shr64, Shr_u8, Shr_u16, Shr_u32, Shr_u64, And1, And31, And32, Eql64, Neq64, Bin_lss, Bin_leq, Bin_gtr, Bin_geq, Bin_bool_eql, Bin_bool_neq, Bin_ptr_nil_eql, Bin_ptr_nil_neq, Not_dec, Un_not, Pick_t, Pick_f, Pick_pos, Pick_neg, Gd_tt, Gd_tf, Gd_ft, Gd_ff, Gd_pos_t, Gd_neg_t, Gd_pos_f, Gd_neg_f, Gd_undef, If_t, If_f, If_pos, If_neg, CallF_eq, Max_two, Min_two, Len_rd, Len_own, Ld_blkE, Idx_rdN, Idx_ownN, Idx_rdE, Idx_ownE, IdxAE, LdA_two, Idx_at0, Ext_atE, Len_at, Int.toNat_natCast, Int.toNat_zero, Int.toNat_one, List.length_map, List.length_append, List.length_cons, List.length_nil, List.length_take, List.length_set, List.length_replicate, Bool.not_true, Bool.not_false, decide_true, decide_false, BEq.rfl, bne_self_eq_false, tf_beq, ft_beq, tf_bne, ft_bne, not_true_eq_false, not_false_eq_true, app]
  refine scores_Heap_right.spec q hn ?_
  by_cases c1 : 1 ≤ v ∧ v ≤ n
  · rw [decide_eq_true c1, Bool.true_and] at hk
    rw [decide_eq_true c1]
    obtain ⟨c, p, f, rfl, rfl, rfl, q, pi, ho⟩ := q
    have hd := q.hd
    have op := q.op
    have a1 := arr_at p (show v.toNat < c.n + 1 by omega)
    try simp (disch := first | assumption | omega | (apply At.mk; with_unfolding_all rfl)) only [↓go_eq, ↓ent_eq, Mv, NilC_at, Fld_at, add_mk, Nat.zero_add, Nat.add_zero, Add64, Sub64, Mul64, Quo64, Rem64, Neg64, Cvt64, CvtU8, CvtU16, CvtU32, CvtU64, AddU64, SubU64, MulU64, Shr64, Shr_u8, Shr_u16, Shr_u32, Shr_u64, And1, And31, And32, Eql64, Neq64, Bin_lss, Bin_leq, Bin_gtr, Bin_geq, Bin_bool_eql, Bin_bool_neq, Bin_ptr_nil_eql, Bin_ptr_nil_neq, Not_dec, Un_not, Pick_t, Pick_f, Pick_pos, Pick_neg, Gd_tt, Gd_tf, Gd_ft, Gd_ff, Gd_pos_t, Gd_neg_t, Gd_pos_f, Gd_neg_f, Gd_undef, If_t, If_f, If_pos, If_neg, CallF_eq, Max_two, Min_two, Len_rd, Len_own, Ld_blkE, Idx_rdN, Idx_ownN, Idx_rdE, Idx_ownE, IdxAE, LdA_two, Idx_at0, Ext_atE, Len_at, Int.toNat_natCast, Int.toNat_zero, Int.toNat_one, List.length_map, List.length_append, List.length_cons, List.length_nil, List.length_take, List.length_set, List.length_replicate, Bool.not_true, Bool.not_false, decide_true, decide_false, BEq.rfl, bne_self_eq_false, tf_beq, ft_beq, tf_bne, ft_bne, not_true_eq_false, not_false_eq_true, app]
    have hp := pi.2 v.toNat (by omega) (by omega) (by omega)
    cases hS : S v.toNat with
    | true =>
      obtain ⟨i, hi, e⟩ := hp.1 hS
      have := (pi.1 i hi).2.2.2.2
      rw [e] at this
      rw [hS] at hk
      rw [decide_eq_true (by omega)]; exact hk
    | false =>
      have := hp.2 hS
      rw [hS] at hk
      rw [decide_eq_false (by omega)]; exact hk
  · rw [decide_eq_false c1, Bool.false_and] at hk
    rw [decide_eq_false c1]
    try simp (disch := first | assumption | omega | (apply At.mk; with_unfolding_all rfl)) only [↓go_eq, ↓ent_eq, Mv, NilC_at, Fld_at, add_mk, Nat.zero_add, Nat.add_zero, Add64, Sub64, Mul64, Quo64, Rem64, Neg64, Cvt64, CvtU8, CvtU16, CvtU32, CvtU64, AddU64, SubU64, MulU64, Shr64, Shr_u8, Shr_u16, Shr_u32, Shr_u64, And1, And31, And32, Eql64, Neq64, Bin_lss, Bin_leq, Bin_gtr, Bin_geq, Bin_bool_eql, Bin_bool_neq, Bin_ptr_nil_eql, Bin_ptr_nil_neq, Not_dec, Un_not, Pick_t, Pick_f, Pick_pos, Pick_neg, Gd_tt, Gd_tf, Gd_ft, Gd_ff, Gd_pos_t, Gd_neg_t, Gd_pos_f, Gd_neg_f, Gd_undef, If_t, If_f, If_pos, If_neg, CallF_eq, Max_two, Min_two, Len_rd, Len_own, Ld_blkE, Idx_rdN, Idx_ownN, Idx_rdE, Idx_ownE, IdxAE, LdA_two, Idx_at0, Ext_atE, Len_at, Int.toNat_natCast, Int.toNat_zero, Int.toNat_one, List.length_map, List.length_append, List.length_cons, List.length_nil, List.length_take, List.length_set, List.length_replicate, Bool.not_true, Bool.not_false, decide_true, decide_false, BEq.rfl, bne_self_eq_false, tf_beq, ft_beq, tf_bne, ft_bne, not_true_eq_false, not_false_eq_true, app]
    exact hk
theorem scores_Heap_Len.spec (q : HP h g fp n t S) (hk : K (Iv (cnt n S : Nat)) h) : CallH Try.prog scores_Heap_Len.id #[ptr g] K h := by
  refine scores_Heap_Len.ok ?_
  simp only [scores_Heap_Len.pt]
  obtain ⟨c, p, f, rfl, rfl, rfl, q, pi, ho⟩ := q
  have hd := q.hd
  have ol := q.ol
  have hl := arr_len (cnt c.n S) (fun i => (f i : Int))
  try simp (disch := first | assumption | omega | (apply At.mk; with_unfolding_all rfl)) only [hl, ↓go_eq, ↓ent_eq, Mv, NilC_at, Fld_at, add_mk, Nat.zero_add, Nat.add_zero, Add64, Sub64, Mul64, Quo64, Rem64, Neg64, Cvt64, CvtU8, CvtU16, CvtU32, CvtU64, AddU64, SubU64, MulU64, Shr64, Shr_u8, Shr_u16, Shr_u32, Shr_u64, And1, And31, And32, Eql64, Neq64, Bin_lss, Bin_leq, Bin_gtr, Bin_geq, Bin_bool_eql, Bin_bool_neq, Bin_ptr_nil_eql, Bin_ptr_nil_neq, Not_dec, Un_not, Pick_t, Pick_f, Pick_pos, Pick_neg, Gd_tt, Gd_tf, Gd_ft, Gd_ff, Gd_pos_t, Gd_neg_t, Gd_pos_f, Gd_neg_f, Gd_undef, If_t, If_f, If_pos, If_neg, CallF_eq, Max_two, Min_two, Len_rd, Len_own, Ld_blkE, Idx_rdN, Idx_ownN, Idx_rdE, Idx_ownE, IdxAE, LdA_two, Idx_at0, Ext_atE, Len_at, Int.toNat_natCast, Int.toNat_zero, Int.toNat_one, List.length_map, List.length_append, List.length_cons, List.length_nil, List.length_take, List.length_set, List.length_replicate, Bool.not_true, Bool.not_false, decide_true, decide_false, BEq.rfl, bne_self_eq_false, tf_beq, ft_beq, tf_bne, ft_bne, not_true_eq_false, not_false_eq_true, app]
  exact hk
theorem scores_Heap_Rise.spec (q : HP h g fp n t S) (hk : K (Iv t.2) h) : CallH Try.prog scores_Heap_Rise.id #[ptr g] K h := by
  refine scores_Heap_Rise.ok ?_
  simp only [scores_Heap_Rise.pt]
  obtain ⟨c, p, f, rfl, rfl, rfl, q, pi, ho⟩ := q
  have hd := q.hd
  try simp (disch := first | assumption | omega | (apply At.mk; with_unfolding_all rfl)) only [↓go_eq, ↓ent_eq, Mv, NilC_at, Fld_at, add_mk, Nat.zero_add, Nat.add_zero, Add64, Sub64, Mul64, Quo64, Rem64, Neg64, Cvt64, CvtU8, CvtU16, CvtU32, CvtU64, AddU64, SubU64, MulU64, Shr64, Shr_u8, Shr_u16, Shr_u32, Shr_u64, And1, And31, And32, Eql64, Neq64, Bin_lss, Bin_leq, Bin_gtr, Bin_geq, Bin_bool_eql, Bin_bool_neq, Bin_ptr_nil_eql, Bin_ptr_nil_neq, Not_dec, Un_not, Pick_t, Pick_f, Pick_pos, Pick_neg, Gd_tt, Gd_tf, Gd_ft, Gd_ff, Gd_pos_t, Gd_neg_t, Gd_pos_f, Gd_neg_f, Gd_undef, If_t, If_f, If_pos, If_neg, CallF_eq, Max_two, Min_two, Len_rd, Len_own, Ld_blkE, Idx_rdN, Idx_ownN, Idx_rdE, Idx_ownE, IdxAE, LdA_two, Idx_at0, Ext_atE, Len_at, Int.toNat_natCast, Int.toNat_zero, Int.toNat_one, List.length_map, List.length_append, List.length_cons, List.length_nil, List.length_take, List.length_set, List.length_replicate, Bool.not_true, Bool.not_false, decide_true, decide_false, BEq.rfl, bne_self_eq_false, tf_beq, ft_beq, tf_bne, ft_bne, not_true_eq_false, not_false_eq_true, app]
  exact hk
theorem fst_of {m : Nat} {s : Nat → Int} {f : Nat → Nat} {p : Nat → Int} (pi : PI n m 0 S f p) (ho : HOF s m f 0) (hm : 0 < m) : Fst n s S (f 0) true := by
  obtain ⟨a, b, _, d, _⟩ := pi.1 0 hm
  refine .inr ⟨rfl, a, b, d, fun x x1 xn hS => ?_⟩
  obtain ⟨i, hi, e⟩ := (pi.2 x x1 xn (by omega)).1 hS
  rw [← e]
  exact top ho i hi
theorem scores_Heap_First.spec (q : HP h g fp n t S) (hk : ∀ (v : Nat) ok, Fst n t.1 S v ok → K (.tuple #[Iv (v : Nat), .bool ok]) h) : CallH Try.prog scores_Heap_First.id #[ptr g] K h := by
  refine scores_Heap_First.ok ?_
  simp only [scores_Heap_First.pt]
  obtain ⟨c, p, f, rfl, rfl, rfl, q, pi, ho⟩ := q
  have hd := q.hd
  have ol := q.ol
  have hl := arr_len (cnt c.n S) (fun i => (f i : Int))
  by_cases c1 : ((cnt c.n S : Nat) : Int) = 0
  · try simp (disch := first | assumption | omega | (apply At.mk; with_unfolding_all rfl)) only [hl, ↓go_eq, ↓ent_eq, Mv, NilC_at, Fld_at, add_mk, Nat.zero_add, Nat.add_zero, Add64, Sub64, Mul64, Quo64, Rem64, Neg64, Cvt64, CvtU8, CvtU16, CvtU32, CvtU64, AddU64, SubU64, MulU64, Shr64, Shr_u8, Shr_u16, Shr_u32, Shr_u64, And1, And31, And32, Eql64, Neq64, Bin_lss, Bin_leq, Bin_gtr, Bin_geq, Bin_bool_eql, Bin_bool_neq, Bin_ptr_nil_eql, Bin_ptr_nil_neq, Not_dec, Un_not, Pick_t, Pick_f, Pick_pos, Pick_neg, Gd_tt, Gd_tf, Gd_ft, Gd_ff, Gd_pos_t, Gd_neg_t, Gd_pos_f, Gd_neg_f, Gd_undef, If_t, If_f, If_pos, If_neg, CallF_eq, Max_two, Min_two, Len_rd, Len_own, Ld_blkE, Idx_rdN, Idx_ownN, Idx_rdE, Idx_ownE, IdxAE, LdA_two, Idx_at0, Ext_atE, Len_at, Int.toNat_natCast, Int.toNat_zero, Int.toNat_one, List.length_map, List.length_append, List.length_cons, List.length_nil, List.length_take, List.length_set, List.length_replicate, Bool.not_true, Bool.not_false, decide_true, decide_false, BEq.rfl, bne_self_eq_false, tf_beq, ft_beq, tf_bne, ft_bne, not_true_eq_false, not_false_eq_true, app]
    exact hk 0 false (.inl ⟨rfl, rfl, cnt_zero (by omega)⟩)
  · have a1 : At (arr (cnt c.n S) fun i => (f i : Int)) (0 : Int).toNat (Iv (f 0 : Nat)) := arr_at (fun i => (f i : Int)) (show 0 < cnt c.n S by omega)
    try simp (disch := first | assumption | omega | (apply At.mk; with_unfolding_all rfl)) only [hl, ↓go_eq, ↓ent_eq, Mv, NilC_at, Fld_at, add_mk, Nat.zero_add, Nat.add_zero, Add64, Sub64, Mul64, Quo64, Rem64, Neg64, Cvt64, CvtU8, CvtU16, CvtU32, CvtU64, AddU64, SubU64, MulU64, Shr64, Shr_u8, Shr_u16, Shr_u32, Shr_u64, And1, And31, And32, Eql64, Neq64, Bin_lss, Bin_leq, Bin_gtr, Bin_geq, Bin_bool_eql, Bin_bool_neq, Bin_ptr_nil_eql, Bin_ptr_nil_neq, Not_dec, Un_not, Pick_t, Pick_f, Pick_pos, Pick_neg, Gd_tt, Gd_tf, Gd_ft, Gd_ff, Gd_pos_t, Gd_neg_t, Gd_pos_f, Gd_neg_f, Gd_undef, If_t, If_f, If_pos, If_neg, CallF_eq, Max_two, Min_two, Len_rd, Len_own, Ld_blkE, Idx_rdN, Idx_ownN, Idx_rdE, Idx_ownE, IdxAE, LdA_two, Idx_at0, Ext_atE, Len_at, Int.toNat_natCast, Int.toNat_zero, Int.toNat_one, List.length_map, List.length_append, List.length_cons, List.length_nil, List.length_take, List.length_set, List.length_replicate, Bool.not_true, Bool.not_false, decide_true, decide_false, BEq.rfl, bne_self_eq_false, tf_beq, ft_beq, tf_bne, ft_bne, not_true_eq_false, not_false_eq_true, app]
    exact hk (f 0) true (fst_of pi ho (by omega))
theorem up_bump {s : Nat → Int} {m i v : Nat} {f : Nat → Nat} {p : Nat → Int} {r : Int} (ho : HOF s m f 0) (pi : PI n m 0 S f p) (hi : i < m) (hv : f i = v) (hr : 0 ≤ r) : UpI (upd s v (s v + r)) m f i := by
  have ne : ∀ j, j < m → j ≠ i → f j ≠ v := fun j hj hji e => hji (pi.inj hj hi (by rw [e, hv]))
  have key : ∀ j k, j < m → j ≠ i → k < m → ¬ A s (f j) (f k) → ¬ A (upd s v (s v + r)) (f j) (f k) := by
    intro j k hj hji hk hA
    unfold A at *
    rw [upd_ne (ne j hj hji)]
    by_cases e : f k = v
    · rw [e] at hA ⊢; rw [upd_at]; omega
    · rw [upd_ne e]; exact hA
  refine ⟨fun j j0 jm ji => key j _ jm ji (by omega) (ho j j0 jm (Nat.zero_le _)), fun j j0 jm jp i0 => key j _ jm (by omega) (by omega) ?_⟩
  have h1 := ho j j0 jm (Nat.zero_le _)
  rw [jp] at h1
  exact A_nt h1 (ho i i0 hi (Nat.zero_le _))
set_option maxHeartbeats 1000000 in
theorem scores_Heap_Bump.spec {v : Int} (q : HP h g fp n t S) (hn : n ≤ 1000) (hb : SB n t) (hk : ∀ h', HP h' g fp n (bmp n t v) S → Fr fp h h' → K (.bool (decide (1 ≤ v ∧ v ≤ n))) h') : CallH Try.prog scores_Heap_Bump.id #[ptr g, Iv v] K h := by
  refine scores_Heap_Bump.ok ?_
  simp only [scores_Heap_Bump.pt]
  try simp (disch := first | assumption | omega | (apply At.mk; with_unfolding_all rfl)) only [↓go_eq, ↓ent_eq, Mv, NilC_at, Fld_at, add_mk, Nat.zero_add, Nat.add_zero, Add64, Sub64, Mul64, Quo64, Rem64, Neg64, Cvt64, CvtU8, CvtU16, CvtU32, CvtU64, AddU64, SubU64, MulU64, Shr64, Shr_u8, Shr_u16, Shr_u32, Shr_u64, And1, And31, And32, Eql64, Neq64, Bin_lss, Bin_leq, Bin_gtr, Bin_geq, Bin_bool_eql, Bin_bool_neq, Bin_ptr_nil_eql, Bin_ptr_nil_neq, Not_dec, Un_not, Pick_t, Pick_f, Pick_pos, Pick_neg, Gd_tt, Gd_tf, Gd_ft, Gd_ff, Gd_pos_t, Gd_neg_t, Gd_pos_f, Gd_neg_f, Gd_undef, If_t, If_f, If_pos, If_neg, CallF_eq, Max_two, Min_two, Len_rd, Len_own, Ld_blkE, Idx_rdN, Idx_ownN, Idx_rdE, Idx_ownE, IdxAE, LdA_two, Idx_at0, Ext_atE, Len_at, Int.toNat_natCast, Int.toNat_zero, Int.toNat_one, List.length_map, List.length_append, List.length_cons, List.length_nil, List.length_take, List.length_set, List.length_replicate, Bool.not_true, Bool.not_false, decide_true, decide_false, BEq.rfl, bne_self_eq_false, tf_beq, ft_beq, tf_bne, ft_bne, not_true_eq_false, not_false_eq_true, app]
  refine scores_Heap_right.spec q hn ?_
  by_cases c1 : 1 ≤ v ∧ v ≤ n
  case neg =>
    rw [decide_eq_false c1] at hk ⊢
    rw [bmp, if_neg c1] at hk
    try simp (disch := first | assumption | omega | (apply At.mk; with_unfolding_all rfl)) only [↓go_eq, ↓ent_eq, Mv, NilC_at, Fld_at, add_mk, Nat.zero_add, Nat.add_zero, Add64, Sub64, Mul64, Quo64, Rem64, Neg64, Cvt64, CvtU8, CvtU16, CvtU32, CvtU64, AddU64, SubU64, MulU64, Shr64, Shr_u8, Shr_u16, Shr_u32, Shr_u64, And1, And31, And32, Eql64, Neq64, Bin_lss, Bin_leq, Bin_gtr, Bin_geq, Bin_bool_eql, Bin_bool_neq, Bin_ptr_nil_eql, Bin_ptr_nil_neq, Not_dec, Un_not, Pick_t, Pick_f, Pick_pos, Pick_neg, Gd_tt, Gd_tf, Gd_ft, Gd_ff, Gd_pos_t, Gd_neg_t, Gd_pos_f, Gd_neg_f, Gd_undef, If_t, If_f, If_pos, If_neg, CallF_eq, Max_two, Min_two, Len_rd, Len_own, Ld_blkE, Idx_rdN, Idx_ownN, Idx_rdE, Idx_ownE, IdxAE, LdA_two, Idx_at0, Ext_atE, Len_at, Int.toNat_natCast, Int.toNat_zero, Int.toNat_one, List.length_map, List.length_append, List.length_cons, List.length_nil, List.length_take, List.length_set, List.length_replicate, Bool.not_true, Bool.not_false, decide_true, decide_false, BEq.rfl, bne_self_eq_false, tf_beq, ft_beq, tf_bne, ft_bne, not_true_eq_false, not_false_eq_true, app]
    exact hk h q (Fr.refl _ _)
  rw [decide_eq_true c1] at hk ⊢
  rw [bmp, if_pos c1] at hk
  obtain ⟨c, p, f, rfl, rfl, rfl, q, pi, ho⟩ := q
  obtain ⟨w, hw⟩ : ∃ w : Nat, v = w := ⟨v.toNat, by omega⟩
  subst hw
  rw [Int.toNat_natCast] at hk
  have hm : cnt c.n S ≤ 2000 := Nat.le_trans (Nat.le_trans (cnt_le _ _) hn) (by decide)
  have hd := q.hd
  have os := q.os
  have a1 := arr_at t.1 (show w < c.n + 1 by omega)
  have hsw := hb.1 w (by omega)
  have hbr := hb.2
  try simp (disch := first | assumption | omega | (apply At.mk; with_unfolding_all rfl)) only [↓go_eq, ↓ent_eq, Mv, NilC_at, Fld_at, add_mk, Nat.zero_add, Nat.add_zero, Add64, Sub64, Mul64, Quo64, Rem64, Neg64, Cvt64, CvtU8, CvtU16, CvtU32, CvtU64, AddU64, SubU64, MulU64, Shr64, Shr_u8, Shr_u16, Shr_u32, Shr_u64, And1, And31, And32, Eql64, Neq64, Bin_lss, Bin_leq, Bin_gtr, Bin_geq, Bin_bool_eql, Bin_bool_neq, Bin_ptr_nil_eql, Bin_ptr_nil_neq, Not_dec, Un_not, Pick_t, Pick_f, Pick_pos, Pick_neg, Gd_tt, Gd_tf, Gd_ft, Gd_ff, Gd_pos_t, Gd_neg_t, Gd_pos_f, Gd_neg_f, Gd_undef, If_t, If_f, If_pos, If_neg, CallF_eq, Max_two, Min_two, Len_rd, Len_own, Ld_blkE, Idx_rdN, Idx_ownN, Idx_rdE, Idx_ownE, IdxAE, LdA_two, Idx_at0, Ext_atE, Len_at, Int.toNat_natCast, Int.toNat_zero, Int.toNat_one, List.length_map, List.length_append, List.length_cons, List.length_nil, List.length_take, List.length_set, List.length_replicate, Bool.not_true, Bool.not_false, decide_true, decide_false, BEq.rfl, bne_self_eq_false, tf_beq, ft_beq, tf_bne, ft_bne, not_true_eq_false, not_false_eq_true, app]
  refine q.sets (by omega) fun h1 q1 f1 => ?_
  have hd := q1.hd
  have op := q1.op
  have ap := arr_at p (show w < c.n + 1 by omega)
  try simp (disch := first | assumption | omega | (apply At.mk; with_unfolding_all rfl)) only [↓go_eq, ↓ent_eq, Mv, NilC_at, Fld_at, add_mk, Nat.zero_add, Nat.add_zero, Add64, Sub64, Mul64, Quo64, Rem64, Neg64, Cvt64, CvtU8, CvtU16, CvtU32, CvtU64, AddU64, SubU64, MulU64, Shr64, Shr_u8, Shr_u16, Shr_u32, Shr_u64, And1, And31, And32, Eql64, Neq64, Bin_lss, Bin_leq, Bin_gtr, Bin_geq, Bin_bool_eql, Bin_bool_neq, Bin_ptr_nil_eql, Bin_ptr_nil_neq, Not_dec, Un_not, Pick_t, Pick_f, Pick_pos, Pick_neg, Gd_tt, Gd_tf, Gd_ft, Gd_ff, Gd_pos_t, Gd_neg_t, Gd_pos_f, Gd_neg_f, Gd_undef, If_t, If_f, If_pos, If_neg, CallF_eq, Max_two, Min_two, Len_rd, Len_own, Ld_blkE, Idx_rdN, Idx_ownN, Idx_rdE, Idx_ownE, IdxAE, LdA_two, Idx_at0, Ext_atE, Len_at, Int.toNat_natCast, Int.toNat_zero, Int.toNat_one, List.length_map, List.length_append, List.length_cons, List.length_nil, List.length_take, List.length_set, List.length_replicate, Bool.not_true, Bool.not_false, decide_true, decide_false, BEq.rfl, bne_self_eq_false, tf_beq, ft_beq, tf_bne, ft_bne, not_true_eq_false, not_false_eq_true, app]
  refine Jn_fn (σ := (Nat → Nat) × (Nat → Int)) (fun _ => [ptr c.g, Iv (w : Nat)]) (fun x h' => HM h' c (upd t.1 w (t.1 w + t.2)) x.2 x.1 (cnt c.n S) t.2 ∧ PI c.n (cnt c.n S) 0 S x.1 x.2 ∧ HOF (upd t.1 w (t.1 w + t.2)) (cnt c.n S) x.1 0 ∧ Fr c.fp h h') ?_ ?_
  · intro J hJ
    have hp := pi.2 w (by omega) (by omega) (by omega)
    cases hS : S w with
    | true =>
      obtain ⟨i, hi, e⟩ := hp.1 hS
      have hpi := (pi.1 i hi).2.2.2.2
      rw [e] at hpi
      try simp (disch := first | assumption | omega | (apply At.mk; with_unfolding_all rfl)) only [↓go_eq, ↓ent_eq, Mv, NilC_at, Fld_at, add_mk, Nat.zero_add, Nat.add_zero, Add64, Sub64, Mul64, Quo64, Rem64, Neg64, Cvt64, CvtU8, CvtU16, CvtU32, CvtU64, AddU64, SubU64, MulU64, Shr64, Shr_u8, Shr_u16, Shr_u32, Shr_u64, And1, And31, And32, Eql64, Neq64, Bin_lss, Bin_leq, Bin_gtr, Bin_geq, Bin_bool_eql, Bin_bool_neq, Bin_ptr_nil_eql, Bin_ptr_nil_neq, Not_dec, Un_not, Pick_t, Pick_f, Pick_pos, Pick_neg, Gd_tt, Gd_tf, Gd_ft, Gd_ff, Gd_pos_t, Gd_neg_t, Gd_pos_f, Gd_neg_f, Gd_undef, If_t, If_f, If_pos, If_neg, CallF_eq, Max_two, Min_two, Len_rd, Len_own, Ld_blkE, Idx_rdN, Idx_ownN, Idx_rdE, Idx_ownE, IdxAE, LdA_two, Idx_at0, Ext_atE, Len_at, Int.toNat_natCast, Int.toNat_zero, Int.toNat_one, List.length_map, List.length_append, List.length_cons, List.length_nil, List.length_take, List.length_set, List.length_replicate, Bool.not_true, Bool.not_false, decide_true, decide_false, BEq.rfl, bne_self_eq_false, tf_beq, ft_beq, tf_bne, ft_bne, not_true_eq_false, not_false_eq_true, app]
      rw [hpi]
      refine scores_Heap_up.spec q1 hm hi (up_bump ho pi hi e (by omega)) pi fun h2 f' p' q2 pi2 ho2 f2 => ?_
      try simp (disch := first | assumption | omega | (apply At.mk; with_unfolding_all rfl)) only [↓go_eq, ↓ent_eq, Mv, NilC_at, Fld_at, add_mk, Nat.zero_add, Nat.add_zero, Add64, Sub64, Mul64, Quo64, Rem64, Neg64, Cvt64, CvtU8, CvtU16, CvtU32, CvtU64, AddU64, SubU64, MulU64, Shr64, Shr_u8, Shr_u16, Shr_u32, Shr_u64, And1, And31, And32, Eql64, Neq64, Bin_lss, Bin_leq, Bin_gtr, Bin_geq, Bin_bool_eql, Bin_bool_neq, Bin_ptr_nil_eql, Bin_ptr_nil_neq, Not_dec, Un_not, Pick_t, Pick_f, Pick_pos, Pick_neg, Gd_tt, Gd_tf, Gd_ft, Gd_ff, Gd_pos_t, Gd_neg_t, Gd_pos_f, Gd_neg_f, Gd_undef, If_t, If_f, If_pos, If_neg, CallF_eq, Max_two, Min_two, Len_rd, Len_own, Ld_blkE, Idx_rdN, Idx_ownN, Idx_rdE, Idx_ownE, IdxAE, LdA_two, Idx_at0, Ext_atE, Len_at, Int.toNat_natCast, Int.toNat_zero, Int.toNat_one, List.length_map, List.length_append, List.length_cons, List.length_nil, List.length_take, List.length_set, List.length_replicate, Bool.not_true, Bool.not_false, decide_true, decide_false, BEq.rfl, bne_self_eq_false, tf_beq, ft_beq, tf_bne, ft_bne, not_true_eq_false, not_false_eq_true, app]
      exact hJ (f', p') h2 ⟨q2, pi2, ho2, f1.trans f2⟩
    | false =>
      have := hp.2 hS
      try simp (disch := first | assumption | omega | (apply At.mk; with_unfolding_all rfl)) only [↓go_eq, ↓ent_eq, Mv, NilC_at, Fld_at, add_mk, Nat.zero_add, Nat.add_zero, Add64, Sub64, Mul64, Quo64, Rem64, Neg64, Cvt64, CvtU8, CvtU16, CvtU32, CvtU64, AddU64, SubU64, MulU64, Shr64, Shr_u8, Shr_u16, Shr_u32, Shr_u64, And1, And31, And32, Eql64, Neq64, Bin_lss, Bin_leq, Bin_gtr, Bin_geq, Bin_bool_eql, Bin_bool_neq, Bin_ptr_nil_eql, Bin_ptr_nil_neq, Not_dec, Un_not, Pick_t, Pick_f, Pick_pos, Pick_neg, Gd_tt, Gd_tf, Gd_ft, Gd_ff, Gd_pos_t, Gd_neg_t, Gd_pos_f, Gd_neg_f, Gd_undef, If_t, If_f, If_pos, If_neg, CallF_eq, Max_two, Min_two, Len_rd, Len_own, Ld_blkE, Idx_rdN, Idx_ownN, Idx_rdE, Idx_ownE, IdxAE, LdA_two, Idx_at0, Ext_atE, Len_at, Int.toNat_natCast, Int.toNat_zero, Int.toNat_one, List.length_map, List.length_append, List.length_cons, List.length_nil, List.length_take, List.length_set, List.length_replicate, Bool.not_true, Bool.not_false, decide_true, decide_false, BEq.rfl, bne_self_eq_false, tf_beq, ft_beq, tf_bne, ft_bne, not_true_eq_false, not_false_eq_true, app]
      refine hJ (f, p) h1 ⟨q1, pi, fun j j0 jm jl => ?_, f1⟩
      have ne : ∀ j, j < cnt c.n S → f j ≠ w := fun j hj e => by have := (pi.1 j hj).2.2.2.1; rw [e, hS] at this; cases this
      have := ho j j0 jm jl
      unfold A at this ⊢
      rw [upd_ne (ne j jm), upd_ne (ne _ (by omega))]; exact this
  · rintro ⟨f, p⟩ h2 ⟨q2, pi, ho, f2⟩
    simp only at q2 pi ho
    have hd := q2.hd
    have os := q2.os
    have a1 := arr_at (upd t.1 w (t.1 w + t.2)) (show w < c.n + 1 by omega)
    rw [upd_at] at a1
    try simp (disch := first | assumption | omega | (apply At.mk; with_unfolding_all rfl)) only [↓go_eq, ↓ent_eq, Mv, NilC_at, Fld_at, add_mk, Nat.zero_add, Nat.add_zero, Add64, Sub64, Mul64, Quo64, Rem64, Neg64, Cvt64, CvtU8, CvtU16, CvtU32, CvtU64, AddU64, SubU64, MulU64, Shr64, Shr_u8, Shr_u16, Shr_u32, Shr_u64, And1, And31, And32, Eql64, Neq64, Bin_lss, Bin_leq, Bin_gtr, Bin_geq, Bin_bool_eql, Bin_bool_neq, Bin_ptr_nil_eql, Bin_ptr_nil_neq, Not_dec, Un_not, Pick_t, Pick_f, Pick_pos, Pick_neg, Gd_tt, Gd_tf, Gd_ft, Gd_ff, Gd_pos_t, Gd_neg_t, Gd_pos_f, Gd_neg_f, Gd_undef, If_t, If_f, If_pos, If_neg, CallF_eq, Max_two, Min_two, Len_rd, Len_own, Ld_blkE, Idx_rdN, Idx_ownN, Idx_rdE, Idx_ownE, IdxAE, LdA_two, Idx_at0, Ext_atE, Len_at, Int.toNat_natCast, Int.toNat_zero, Int.toNat_one, List.length_map, List.length_append, List.length_cons, List.length_nil, List.length_take, List.length_set, List.length_replicate, Bool.not_true, Bool.not_false, decide_true, decide_false, BEq.rfl, bne_self_eq_false, tf_beq, ft_beq, tf_bne, ft_bne, not_true_eq_false, not_false_eq_true, app]
    refine Jn_fn (σ := Unit) (fun _ => []) (fun _ h' => K (.bool true) h') ?_ (fun _ h' hK => hK)
    intro J hJ
    by_cases c2 : t.1 w + t.2 > 1125899906842624
    · rw [if_pos c2] at hk
      try simp (disch := first | assumption | omega | (apply At.mk; with_unfolding_all rfl)) only [↓go_eq, ↓ent_eq, Mv, NilC_at, Fld_at, add_mk, Nat.zero_add, Nat.add_zero, Add64, Sub64, Mul64, Quo64, Rem64, Neg64, Cvt64, CvtU8, CvtU16, CvtU32, CvtU64, AddU64, SubU64, MulU64, Shr64, Shr_u8, Shr_u16, Shr_u32, Shr_u64, And1, And31, And32, Eql64, Neq64, Bin_lss, Bin_leq, Bin_gtr, Bin_geq, Bin_bool_eql, Bin_bool_neq, Bin_ptr_nil_eql, Bin_ptr_nil_neq, Not_dec, Un_not, Pick_t, Pick_f, Pick_pos, Pick_neg, Gd_tt, Gd_tf, Gd_ft, Gd_ff, Gd_pos_t, Gd_neg_t, Gd_pos_f, Gd_neg_f, Gd_undef, If_t, If_f, If_pos, If_neg, CallF_eq, Max_two, Min_two, Len_rd, Len_own, Ld_blkE, Idx_rdN, Idx_ownN, Idx_rdE, Idx_ownE, IdxAE, LdA_two, Idx_at0, Ext_atE, Len_at, Int.toNat_natCast, Int.toNat_zero, Int.toNat_one, List.length_map, List.length_append, List.length_cons, List.length_nil, List.length_take, List.length_set, List.length_replicate, Bool.not_true, Bool.not_false, decide_true, decide_false, BEq.rfl, bne_self_eq_false, tf_beq, ft_beq, tf_bne, ft_bne, not_true_eq_false, not_false_eq_true, app]
      refine scores_Heap_lower.spec q2 hm hn pi (by simpa using upd_bd hb (v := w)) (by omega) fun h3 f' p' q3 pi3 ho3 f3 => ?_
      try simp (disch := first | assumption | omega | (apply At.mk; with_unfolding_all rfl)) only [↓go_eq, ↓ent_eq, Mv, NilC_at, Fld_at, add_mk, Nat.zero_add, Nat.add_zero, Add64, Sub64, Mul64, Quo64, Rem64, Neg64, Cvt64, CvtU8, CvtU16, CvtU32, CvtU64, AddU64, SubU64, MulU64, Shr64, Shr_u8, Shr_u16, Shr_u32, Shr_u64, And1, And31, And32, Eql64, Neq64, Bin_lss, Bin_leq, Bin_gtr, Bin_geq, Bin_bool_eql, Bin_bool_neq, Bin_ptr_nil_eql, Bin_ptr_nil_neq, Not_dec, Un_not, Pick_t, Pick_f, Pick_pos, Pick_neg, Gd_tt, Gd_tf, Gd_ft, Gd_ff, Gd_pos_t, Gd_neg_t, Gd_pos_f, Gd_neg_f, Gd_undef, If_t, If_f, If_pos, If_neg, CallF_eq, Max_two, Min_two, Len_rd, Len_own, Ld_blkE, Idx_rdN, Idx_ownN, Idx_rdE, Idx_ownE, IdxAE, LdA_two, Idx_at0, Ext_atE, Len_at, Int.toNat_natCast, Int.toNat_zero, Int.toNat_one, List.length_map, List.length_append, List.length_cons, List.length_nil, List.length_take, List.length_set, List.length_replicate, Bool.not_true, Bool.not_false, decide_true, decide_false, BEq.rfl, bne_self_eq_false, tf_beq, ft_beq, tf_bne, ft_bne, not_true_eq_false, not_false_eq_true, app]
      exact hJ () h3 (hk h3 ⟨c, p', f', rfl, rfl, rfl, q3, pi3, ho3⟩ (f2.trans f3))
    · rw [if_neg c2] at hk
      try simp (disch := first | assumption | omega | (apply At.mk; with_unfolding_all rfl)) only [↓go_eq, ↓ent_eq, Mv, NilC_at, Fld_at, add_mk, Nat.zero_add, Nat.add_zero, Add64, Sub64, Mul64, Quo64, Rem64, Neg64, Cvt64, CvtU8, CvtU16, CvtU32, CvtU64, AddU64, SubU64, MulU64, Shr64, Shr_u8, Shr_u16, Shr_u32, Shr_u64, And1, And31, And32, Eql64, Neq64, Bin_lss, Bin_leq, Bin_gtr, Bin_geq, Bin_bool_eql, Bin_bool_neq, Bin_ptr_nil_eql, Bin_ptr_nil_neq, Not_dec, Un_not, Pick_t, Pick_f, Pick_pos, Pick_neg, Gd_tt, Gd_tf, Gd_ft, Gd_ff, Gd_pos_t, Gd_neg_t, Gd_pos_f, Gd_neg_f, Gd_undef, If_t, If_f, If_pos, If_neg, CallF_eq, Max_two, Min_two, Len_rd, Len_own, Ld_blkE, Idx_rdN, Idx_ownN, Idx_rdE, Idx_ownE, IdxAE, LdA_two, Idx_at0, Ext_atE, Len_at, Int.toNat_natCast, Int.toNat_zero, Int.toNat_one, List.length_map, List.length_append, List.length_cons, List.length_nil, List.length_take, List.length_set, List.length_replicate, Bool.not_true, Bool.not_false, decide_true, decide_false, BEq.rfl, bne_self_eq_false, tf_beq, ft_beq, tf_bne, ft_bne, not_true_eq_false, not_false_eq_true, app]
      exact hJ () h2 (hk h2 ⟨c, p, f, rfl, rfl, rfl, q2, pi, ho⟩ f2)
theorem scores_Heap_Decay.spec (q : HP h g fp n t S) (hn : n ≤ 1000) (hb : SB n t) (hk : ∀ h', HP h' g fp n (dec t) S → Fr fp h h' → K (.tuple #[]) h') : CallH Try.prog scores_Heap_Decay.id #[ptr g] K h := by
  refine scores_Heap_Decay.ok ?_
  simp only [scores_Heap_Decay.pt]
  obtain ⟨c, p, f, rfl, rfl, rfl, q, pi, ho⟩ := q
  have hm : cnt c.n S ≤ 2000 := Nat.le_trans (Nat.le_trans (cnt_le _ _) hn) (by decide)
  have hd := q.hd
  have hbr := hb.2
  try simp (disch := first | assumption | omega | (apply At.mk; with_unfolding_all rfl)) only [↓go_eq, ↓ent_eq, Mv, NilC_at, Fld_at, add_mk, Nat.zero_add, Nat.add_zero, Add64, Sub64, Mul64, Quo64, Rem64, Neg64, Cvt64, CvtU8, CvtU16, CvtU32, CvtU64, AddU64, SubU64, MulU64, Shr64, Shr_u8, Shr_u16, Shr_u32, Shr_u64, And1, And31, And32, Eql64, Neq64, Bin_lss, Bin_leq, Bin_gtr, Bin_geq, Bin_bool_eql, Bin_bool_neq, Bin_ptr_nil_eql, Bin_ptr_nil_neq, Not_dec, Un_not, Pick_t, Pick_f, Pick_pos, Pick_neg, Gd_tt, Gd_tf, Gd_ft, Gd_ff, Gd_pos_t, Gd_neg_t, Gd_pos_f, Gd_neg_f, Gd_undef, If_t, If_f, If_pos, If_neg, CallF_eq, Max_two, Min_two, Len_rd, Len_own, Ld_blkE, Idx_rdN, Idx_ownN, Idx_rdE, Idx_ownE, IdxAE, LdA_two, Idx_at0, Ext_atE, Len_at, Int.toNat_natCast, Int.toNat_zero, Int.toNat_one, List.length_map, List.length_append, List.length_cons, List.length_nil, List.length_take, List.length_set, List.length_replicate, Bool.not_true, Bool.not_false, decide_true, decide_false, BEq.rfl, bne_self_eq_false, tf_beq, ft_beq, tf_bne, ft_bne, not_true_eq_false, not_false_eq_true, app]
  refine q.setr fun h1 q1 f1 => ?_
  have hd := q1.hd
  rw [dec] at hk
  by_cases c2 : t.2 + (t.2 / 15 + 1) > 1125899906842624
  · rw [if_pos c2] at hk
    try simp (disch := first | assumption | omega | (apply At.mk; with_unfolding_all rfl)) only [↓go_eq, ↓ent_eq, Mv, NilC_at, Fld_at, add_mk, Nat.zero_add, Nat.add_zero, Add64, Sub64, Mul64, Quo64, Rem64, Neg64, Cvt64, CvtU8, CvtU16, CvtU32, CvtU64, AddU64, SubU64, MulU64, Shr64, Shr_u8, Shr_u16, Shr_u32, Shr_u64, And1, And31, And32, Eql64, Neq64, Bin_lss, Bin_leq, Bin_gtr, Bin_geq, Bin_bool_eql, Bin_bool_neq, Bin_ptr_nil_eql, Bin_ptr_nil_neq, Not_dec, Un_not, Pick_t, Pick_f, Pick_pos, Pick_neg, Gd_tt, Gd_tf, Gd_ft, Gd_ff, Gd_pos_t, Gd_neg_t, Gd_pos_f, Gd_neg_f, Gd_undef, If_t, If_f, If_pos, If_neg, CallF_eq, Max_two, Min_two, Len_rd, Len_own, Ld_blkE, Idx_rdN, Idx_ownN, Idx_rdE, Idx_ownE, IdxAE, LdA_two, Idx_at0, Ext_atE, Len_at, Int.toNat_natCast, Int.toNat_zero, Int.toNat_one, List.length_map, List.length_append, List.length_cons, List.length_nil, List.length_take, List.length_set, List.length_replicate, Bool.not_true, Bool.not_false, decide_true, decide_false, BEq.rfl, bne_self_eq_false, tf_beq, ft_beq, tf_bne, ft_bne, not_true_eq_false, not_false_eq_true, app]
    refine scores_Heap_lower.spec q1 hm hn pi (fun v hv => by have := hb.1 v hv; omega) (by omega) fun h3 f' p' q3 pi3 ho3 f3 => ?_
    try simp (disch := first | assumption | omega | (apply At.mk; with_unfolding_all rfl)) only [↓go_eq, ↓ent_eq, Mv, NilC_at, Fld_at, add_mk, Nat.zero_add, Nat.add_zero, Add64, Sub64, Mul64, Quo64, Rem64, Neg64, Cvt64, CvtU8, CvtU16, CvtU32, CvtU64, AddU64, SubU64, MulU64, Shr64, Shr_u8, Shr_u16, Shr_u32, Shr_u64, And1, And31, And32, Eql64, Neq64, Bin_lss, Bin_leq, Bin_gtr, Bin_geq, Bin_bool_eql, Bin_bool_neq, Bin_ptr_nil_eql, Bin_ptr_nil_neq, Not_dec, Un_not, Pick_t, Pick_f, Pick_pos, Pick_neg, Gd_tt, Gd_tf, Gd_ft, Gd_ff, Gd_pos_t, Gd_neg_t, Gd_pos_f, Gd_neg_f, Gd_undef, If_t, If_f, If_pos, If_neg, CallF_eq, Max_two, Min_two, Len_rd, Len_own, Ld_blkE, Idx_rdN, Idx_ownN, Idx_rdE, Idx_ownE, IdxAE, LdA_two, Idx_at0, Ext_atE, Len_at, Int.toNat_natCast, Int.toNat_zero, Int.toNat_one, List.length_map, List.length_append, List.length_cons, List.length_nil, List.length_take, List.length_set, List.length_replicate, Bool.not_true, Bool.not_false, decide_true, decide_false, BEq.rfl, bne_self_eq_false, tf_beq, ft_beq, tf_bne, ft_bne, not_true_eq_false, not_false_eq_true, app]
    exact hk h3 ⟨c, p', f', rfl, rfl, rfl, q3, pi3, ho3⟩ (f1.trans f3)
  · rw [if_neg c2] at hk
    try simp (disch := first | assumption | omega | (apply At.mk; with_unfolding_all rfl)) only [↓go_eq, ↓ent_eq, Mv, NilC_at, Fld_at, add_mk, Nat.zero_add, Nat.add_zero, Add64, Sub64, Mul64, Quo64, Rem64, Neg64, Cvt64, CvtU8, CvtU16, CvtU32, CvtU64, AddU64, SubU64, MulU64, Shr64, Shr_u8, Shr_u16, Shr_u32, Shr_u64, And1, And31, And32, Eql64, Neq64, Bin_lss, Bin_leq, Bin_gtr, Bin_geq, Bin_bool_eql, Bin_bool_neq, Bin_ptr_nil_eql, Bin_ptr_nil_neq, Not_dec, Un_not, Pick_t, Pick_f, Pick_pos, Pick_neg, Gd_tt, Gd_tf, Gd_ft, Gd_ff, Gd_pos_t, Gd_neg_t, Gd_pos_f, Gd_neg_f, Gd_undef, If_t, If_f, If_pos, If_neg, CallF_eq, Max_two, Min_two, Len_rd, Len_own, Ld_blkE, Idx_rdN, Idx_ownN, Idx_rdE, Idx_ownE, IdxAE, LdA_two, Idx_at0, Ext_atE, Len_at, Int.toNat_natCast, Int.toNat_zero, Int.toNat_one, List.length_map, List.length_append, List.length_cons, List.length_nil, List.length_take, List.length_set, List.length_replicate, Bool.not_true, Bool.not_false, decide_true, decide_false, BEq.rfl, bne_self_eq_false, tf_beq, ft_beq, tf_bne, ft_bne, not_true_eq_false, not_false_eq_true, app]
    exact hk h1 ⟨c, p, f, rfl, rfl, rfl, q1, pi, ho⟩ f1
theorem scores_Heap_Score.q {v : Int} (q : HP h g fp n t S) (hn : n ≤ 1000) (hk : K (Iv (if 1 ≤ v ∧ v ≤ n then t.1 v.toNat else 0)) h) : QCall Try.prog scores_Heap_Score.id [ptr g, Iv v] K h :=
  QCall_mk (scores_Heap_Score.spec q hn ⟨rfl, rfl⟩) hk
theorem scores_Heap_In.q {v : Int} (q : HP h g fp n t S) (hn : n ≤ 1000) (hk : K (.bool (decide (1 ≤ v ∧ v ≤ n) && S v.toNat)) h) : QCall Try.prog scores_Heap_In.id [ptr g, Iv v] K h :=
  QCall_mk (scores_Heap_In.spec q hn ⟨rfl, rfl⟩) hk
theorem scores_Heap_Len.q (q : HP h g fp n t S) (hk : K (Iv (cnt n S : Nat)) h) : QCall Try.prog scores_Heap_Len.id [ptr g] K h :=
  QCall_mk (scores_Heap_Len.spec q ⟨rfl, rfl⟩) hk
theorem scores_Heap_Rise.q (q : HP h g fp n t S) (hk : K (Iv t.2) h) : QCall Try.prog scores_Heap_Rise.id [ptr g] K h :=
  QCall_mk (scores_Heap_Rise.spec q ⟨rfl, rfl⟩) hk
end
end Go.Proofs.Ytcjglfomekpmgaa
