/- The arena's clauses are added, changed, dropped and gone through. Conditions: those typed ahead of each theorem. -/
import Derived.Test.YthekbpaekopmfaaAn2
namespace Go.Proofs.Ythekbpaekopmfaa
open Go.Pt
set_option linter.unusedVariables false
set_option linter.unusedSimpArgs false
theorem live_iff {cs : List Cl} {r : Int} : (clAt cs r).isSome = true ↔ ∃ k c, cs[k]? = some c ∧ c.gone = false ∧ r = (off cs k : Nat) := by
  constructor
  · intro h
    obtain ⟨c, hc⟩ := Option.isSome_iff_exists.1 h
    obtain ⟨k, h1, h2, h3⟩ := clAt_some hc
    exact ⟨k, c, h1, h2, h3⟩
  · rintro ⟨k, c, h1, h2, rfl⟩
    rw [clAt_off h1, h2]; rfl
theorem clAt_live {cs : List Cl} {k : Nat} {c : Cl} (h : cs[k]? = some c) (hg : c.gone = false) : clAt cs (off cs k : Nat) = some c := by rw [clAt_off h, hg]; rfl
theorem live_snoc {cs : List Cl} {d : Cl} (hd : d.gone = false) {r : Int} : (clAt (cs ++ [d]) r).isSome = true ↔ (clAt cs r).isSome = true ∨ r = ((wds cs).length : Nat) := by
  rw [live_iff, live_iff, wds_len]
  constructor
  · rintro ⟨k, c, h1, h2, h3⟩
    rcases Nat.lt_or_ge k cs.length with q | q
    · rw [List.getElem?_append_left q] at h1
      exact .inl ⟨k, c, h1, h2, by rw [h3, off_append (by omega)]⟩
    · have hl := (List.getElem?_eq_some_iff.1 h1).1
      rw [List.length_append, List.length_cons, List.length_nil] at hl
      have e : k = cs.length := by omega
      subst e
      exact .inr (by rw [h3, off_append (Nat.le_refl _)])
  · rintro (⟨k, c, h1, h2, h3⟩ | h3)
    · have hl := (List.getElem?_eq_some_iff.1 h1).1
      exact ⟨k, c, by rw [List.getElem?_append_left hl]; exact h1, h2, by rw [h3, off_append (by omega)]⟩
    · exact ⟨cs.length, d, by rw [List.getElem?_append_right (Nat.le_refl _), Nat.sub_self]; rfl, hd, by rw [h3, off_append (Nat.le_refl _)]⟩
theorem live_set {cs : List Cl} {k : Nat} {c c' : Cl} (h : cs[k]? = some c) (hl : c'.lits.length = c.lits.length) (hg : c'.gone = c.gone) {r : Int} : (clAt (cs.set k c') r).isSome = true ↔ (clAt cs r).isSome = true := by
  rw [live_iff, live_iff]
  have hk := (List.getElem?_eq_some_iff.1 h).1
  constructor
  · rintro ⟨j, d, h1, h2, h3⟩
    rw [off_set h hl] at h3
    rw [List.getElem?_set] at h1
    by_cases e : k = j
    · subst e
      rw [if_pos rfl, if_pos hk] at h1
      cases h1
      exact ⟨k, c, h, by rw [← hg]; exact h2, h3⟩
    · rw [if_neg e] at h1
      exact ⟨j, d, h1, h2, h3⟩
  · rintro ⟨j, d, h1, h2, h3⟩
    by_cases e : k = j
    · subst e
      rw [h] at h1; cases h1
      exact ⟨k, c', by rw [List.getElem?_set, if_pos rfl, if_pos hk], by rw [hg]; exact h2, by rw [off_set h hl]; exact h3⟩
    · exact ⟨j, d, by rw [List.getElem?_set, if_neg e]; exact h1, h2, by rw [off_set h hl]; exact h3⟩
theorem live_drop {cs : List Cl} {k : Nat} {c : Cl} (h : cs[k]? = some c) {r : Int} : (clAt (cs.set k { c with gone := true }) r).isSome = true ↔ (clAt cs r).isSome = true ∧ r ≠ (off cs k : Nat) := by
  rw [live_iff, live_iff]
  have hk := (List.getElem?_eq_some_iff.1 h).1
  constructor
  · rintro ⟨j, d, h1, h2, h3⟩
    rw [off_set (c' := { c with gone := true }) h rfl] at h3
    rw [List.getElem?_set] at h1
    by_cases e : k = j
    · subst e
      rw [if_pos rfl, if_pos hk] at h1
      cases h1; cases h2
    · rw [if_neg e] at h1
      exact ⟨⟨j, d, h1, h2, h3⟩, fun q => e (off_inj (cs := cs) (by omega))⟩
  · rintro ⟨⟨j, d, h1, h2, h3⟩, hne⟩
    have e : k ≠ j := fun e => by subst e; exact hne h3
    exact ⟨j, d, by rw [List.getElem?_set, if_neg e]; exact h1, h2, by rw [off_set (c' := { c with gone := true }) h rfl]; exact h3⟩
theorem set_mem {α : Type} {l : List α} {k : Nat} {x y : α} (h : y ∈ l.set k x) : y ∈ l ∨ y = x := (List.mem_or_eq_of_mem_set h)
section
variable {g : Nat} {lim : Int} {cs : List Cl} {F : List Nat} {r : Int} {K : Ret} {h : Heap}
def fullA (lim : Int) (cs : List Cl) (c : List Int) : Prop := lim > 0 ∧ lim < ((wds cs).length : Int) + 3 + c.length
set_option maxHeartbeats 1000000 in
theorem arena_Arena_Add.spec {w : Value} {c : List Int} {l : Bool} {gl : Int} (ha : ArR h g lim cs F) (hw : ∀ h', Fr F h h' → Rd h' w (c.map Iv)) (hb : (wds cs).length + 3 + c.length ≤ 1000000000000)
    (h0 : fullA lim cs c → K (.tuple #[Iv 0, .bool false]) h)
    (hk : ¬ fullA lim cs c → ∀ h' F', ArR h' g lim (cs ++ [⟨c, l, fit31 gl, 0, false⟩]) F' → Fr F h h' → (∀ b ∈ F', b ∈ F ∨ h.size ≤ b) → K (.tuple #[Iv ((wds cs).length : Nat), .bool true]) h') :
    CallH Try.prog arena_Arena_Add.id #[ptr g, w, .bool l, Iv gl] K h := by
  obtain ⟨⟨wv, wb, mb, lv, b1, o1, m1, rfl, d1, d2, d3, nd, hm⟩, bd, gu⟩ := ha
  refine arena_Arena_Add.ok ?_
  simp only [arena_Arena_Add.pt]
  have hw0 := hw h (Fr.refl _ _)
  have o1r := o1.rd
  have hwl : ((wds cs).map Iv).length = (wds cs).length := List.length_map _
  have hcl : (c.map Iv).length = c.length := List.length_map _
  have hlv : lv.length ≤ (wds cs).length + 1 := by
    rw [lv_count nd hm, wds_len]
    have h1 := List.countP_le_length (l := cs) (p := fun c => !c.gone)
    have h2 := off_mono (cs := cs) (j := 0) (k := cs.length) (Nat.zero_le _)
    omega
  try simp (disch := first | assumption | omega | (apply At.mk; with_unfolding_all rfl)) only [hwl, ↓go_eq, ↓ent_eq, Mv, NilC_at, Fld_at, add_mk, Nat.zero_add, Nat.add_zero, Add64, Sub64, Mul64, Quo64, Rem64, Neg64, Cvt64, CvtU8, CvtU16, CvtU32, CvtU64, AddU64, SubU64, MulU64, Shr64, Shr_u8, Shr_u16, Shr_u32, Shr_u64, And1, And31, And32, Eql64, Neq64, Bin_lss, Bin_leq, Bin_gtr, Bin_geq, Bin_bool_eql, Bin_bool_neq, Bin_ptr_nil_eql, Bin_ptr_nil_neq, Not_dec, Un_not, Pick_t, Pick_f, Pick_pos, Pick_neg, Gd_tt, Gd_tf, Gd_ft, Gd_ff, Gd_pos_t, Gd_neg_t, Gd_pos_f, Gd_neg_f, Gd_undef, If_t, If_f, If_pos, If_neg, CallF_eq, Max_two, Min_two, Len_rd, Len_own, Ld_blkE, Idx_rdN, Idx_ownN, Idx_rdE, Idx_ownE, IdxAE, LdA_two, Idx_at0, Ext_atE, Len_at, Int.toNat_natCast, Int.toNat_zero, Int.toNat_one, List.length_map, List.length_append, List.length_cons, List.length_nil, List.length_take, List.length_set, List.length_replicate, Bool.not_true, Bool.not_false, decide_true, decide_false, BEq.rfl, bne_self_eq_false, tf_beq, ft_beq, tf_bne, ft_bne, not_true_eq_false, not_false_eq_true, app]
  apply cutIf (C := ¬ fullA lim cs c)
  · intro hT
    by_cases hlim : lim > 0
    · try simp (disch := first | assumption | omega | (apply At.mk; with_unfolding_all rfl)) only [hwl, hcl, ↓go_eq, ↓ent_eq, Mv, NilC_at, Fld_at, add_mk, Nat.zero_add, Nat.add_zero, Add64, Sub64, Mul64, Quo64, Rem64, Neg64, Cvt64, CvtU8, CvtU16, CvtU32, CvtU64, AddU64, SubU64, MulU64, Shr64, Shr_u8, Shr_u16, Shr_u32, Shr_u64, And1, And31, And32, Eql64, Neq64, Bin_lss, Bin_leq, Bin_gtr, Bin_geq, Bin_bool_eql, Bin_bool_neq, Bin_ptr_nil_eql, Bin_ptr_nil_neq, Not_dec, Un_not, Pick_t, Pick_f, Pick_pos, Pick_neg, Gd_tt, Gd_tf, Gd_ft, Gd_ff, Gd_pos_t, Gd_neg_t, Gd_pos_f, Gd_neg_f, Gd_undef, If_t, If_f, If_pos, If_neg, CallF_eq, Max_two, Min_two, Len_rd, Len_own, Ld_blkE, Idx_rdN, Idx_ownN, Idx_rdE, Idx_ownE, IdxAE, LdA_two, Idx_at0, Ext_atE, Len_at, Int.toNat_natCast, Int.toNat_zero, Int.toNat_one, List.length_map, List.length_append, List.length_cons, List.length_nil, List.length_take, List.length_set, List.length_replicate, Bool.not_true, Bool.not_false, decide_true, decide_false, BEq.rfl, bne_self_eq_false, tf_beq, ft_beq, tf_bne, ft_bne, not_true_eq_false, not_false_eq_true, app]
      by_cases hgt : ((wds cs).length : Int) + 3 + c.length > lim
      · try simp (disch := first | assumption | omega | (apply At.mk; with_unfolding_all rfl)) only [↓go_eq, ↓ent_eq, Mv, NilC_at, Fld_at, add_mk, Nat.zero_add, Nat.add_zero, Add64, Sub64, Mul64, Quo64, Rem64, Neg64, Cvt64, CvtU8, CvtU16, CvtU32, CvtU64, AddU64, SubU64, MulU64, Shr64, Shr_u8, Shr_u16, Shr_u32, Shr_u64, And1, And31, And32, Eql64, Neq64, Bin_lss, Bin_leq, Bin_gtr, Bin_geq, Bin_bool_eql, Bin_bool_neq, Bin_ptr_nil_eql, Bin_ptr_nil_neq, Not_dec, Un_not, Pick_t, Pick_f, Pick_pos, Pick_neg, Gd_tt, Gd_tf, Gd_ft, Gd_ff, Gd_pos_t, Gd_neg_t, Gd_pos_f, Gd_neg_f, Gd_undef, If_t, If_f, If_pos, If_neg, CallF_eq, Max_two, Min_two, Len_rd, Len_own, Ld_blkE, Idx_rdN, Idx_ownN, Idx_rdE, Idx_ownE, IdxAE, LdA_two, Idx_at0, Ext_atE, Len_at, Int.toNat_natCast, Int.toNat_zero, Int.toNat_one, List.length_map, List.length_append, List.length_cons, List.length_nil, List.length_take, List.length_set, List.length_replicate, Bool.not_true, Bool.not_false, decide_true, decide_false, BEq.rfl, bne_self_eq_false, tf_beq, ft_beq, tf_bne, ft_bne, not_true_eq_false, not_false_eq_true, app]
        exact h0 ⟨hlim, hgt⟩
      · try simp (disch := first | assumption | omega | (apply At.mk; with_unfolding_all rfl)) only [↓go_eq, ↓ent_eq, Mv, NilC_at, Fld_at, add_mk, Nat.zero_add, Nat.add_zero, Add64, Sub64, Mul64, Quo64, Rem64, Neg64, Cvt64, CvtU8, CvtU16, CvtU32, CvtU64, AddU64, SubU64, MulU64, Shr64, Shr_u8, Shr_u16, Shr_u32, Shr_u64, And1, And31, And32, Eql64, Neq64, Bin_lss, Bin_leq, Bin_gtr, Bin_geq, Bin_bool_eql, Bin_bool_neq, Bin_ptr_nil_eql, Bin_ptr_nil_neq, Not_dec, Un_not, Pick_t, Pick_f, Pick_pos, Pick_neg, Gd_tt, Gd_tf, Gd_ft, Gd_ff, Gd_pos_t, Gd_neg_t, Gd_pos_f, Gd_neg_f, Gd_undef, If_t, If_f, If_pos, If_neg, CallF_eq, Max_two, Min_two, Len_rd, Len_own, Ld_blkE, Idx_rdN, Idx_ownN, Idx_rdE, Idx_ownE, IdxAE, LdA_two, Idx_at0, Ext_atE, Len_at, Int.toNat_natCast, Int.toNat_zero, Int.toNat_one, List.length_map, List.length_append, List.length_cons, List.length_nil, List.length_take, List.length_set, List.length_replicate, Bool.not_true, Bool.not_false, decide_true, decide_false, BEq.rfl, bne_self_eq_false, tf_beq, ft_beq, tf_bne, ft_bne, not_true_eq_false, not_false_eq_true, app]
        exact hT fun hf => hgt hf.2
    · try simp (disch := first | assumption | omega | (apply At.mk; with_unfolding_all rfl)) only [↓go_eq, ↓ent_eq, Mv, NilC_at, Fld_at, add_mk, Nat.zero_add, Nat.add_zero, Add64, Sub64, Mul64, Quo64, Rem64, Neg64, Cvt64, CvtU8, CvtU16, CvtU32, CvtU64, AddU64, SubU64, MulU64, Shr64, Shr_u8, Shr_u16, Shr_u32, Shr_u64, And1, And31, And32, Eql64, Neq64, Bin_lss, Bin_leq, Bin_gtr, Bin_geq, Bin_bool_eql, Bin_bool_neq, Bin_ptr_nil_eql, Bin_ptr_nil_neq, Not_dec, Un_not, Pick_t, Pick_f, Pick_pos, Pick_neg, Gd_tt, Gd_tf, Gd_ft, Gd_ff, Gd_pos_t, Gd_neg_t, Gd_pos_f, Gd_neg_f, Gd_undef, If_t, If_f, If_pos, If_neg, CallF_eq, Max_two, Min_two, Len_rd, Len_own, Ld_blkE, Idx_rdN, Idx_ownN, Idx_rdE, Idx_ownE, IdxAE, LdA_two, Idx_at0, Ext_atE, Len_at, Int.toNat_natCast, Int.toNat_zero, Int.toNat_one, List.length_map, List.length_append, List.length_cons, List.length_nil, List.length_take, List.length_set, List.length_replicate, Bool.not_true, Bool.not_false, decide_true, decide_false, BEq.rfl, bne_self_eq_false, tf_beq, ft_beq, tf_bne, ft_bne, not_true_eq_false, not_false_eq_true, app]
      exact hT fun hf => hlim hf.1
  intro hnf
  try rw [Len_rd hw0, hcl]
  refine Jn_fn (σ := Unit) (fun _ => [ptr g, w, Iv gl, Iv ((wds cs).length : Nat), Iv (hd ⟨c, l, fit31 gl, 0, false⟩)]) (fun _ h' => h = h') ?_ ?_
  · intro J hJ
    have hJ := hJ () h rfl
    cases l with
    | true =>
      try simp (disch := first | assumption | omega | (apply At.mk; with_unfolding_all rfl)) only [↓go_eq, ↓ent_eq, Mv, NilC_at, Fld_at, add_mk, Nat.zero_add, Nat.add_zero, Add64, Sub64, Mul64, Quo64, Rem64, Neg64, Cvt64, CvtU8, CvtU16, CvtU32, CvtU64, AddU64, SubU64, MulU64, Shr64, Shr_u8, Shr_u16, Shr_u32, Shr_u64, And1, And31, And32, Eql64, Neq64, Bin_lss, Bin_leq, Bin_gtr, Bin_geq, Bin_bool_eql, Bin_bool_neq, Bin_ptr_nil_eql, Bin_ptr_nil_neq, Not_dec, Un_not, Pick_t, Pick_f, Pick_pos, Pick_neg, Gd_tt, Gd_tf, Gd_ft, Gd_ff, Gd_pos_t, Gd_neg_t, Gd_pos_f, Gd_neg_f, Gd_undef, If_t, If_f, If_pos, If_neg, CallF_eq, Max_two, Min_two, Len_rd, Len_own, Ld_blkE, Idx_rdN, Idx_ownN, Idx_rdE, Idx_ownE, IdxAE, LdA_two, Idx_at0, Ext_atE, Len_at, Int.toNat_natCast, Int.toNat_zero, Int.toNat_one, List.length_map, List.length_append, List.length_cons, List.length_nil, List.length_take, List.length_set, List.length_replicate, Bool.not_true, Bool.not_false, decide_true, decide_false, BEq.rfl, bne_self_eq_false, tf_beq, ft_beq, tf_bne, ft_bne, not_true_eq_false, not_false_eq_true, app]
      rw [hd_new (g := fit31 gl) (u := 0) (n := 0) (by omega)]
      exact hJ
    | false =>
      have e : hd ⟨c, false, fit31 gl, 0, false⟩ = (c.length : Int) := by unfold hd; simp
      rw [e] at hJ
      try simp (disch := first | assumption | omega | (apply At.mk; with_unfolding_all rfl)) only [↓go_eq, ↓ent_eq, Mv, NilC_at, Fld_at, add_mk, Nat.zero_add, Nat.add_zero, Add64, Sub64, Mul64, Quo64, Rem64, Neg64, Cvt64, CvtU8, CvtU16, CvtU32, CvtU64, AddU64, SubU64, MulU64, Shr64, Shr_u8, Shr_u16, Shr_u32, Shr_u64, And1, And31, And32, Eql64, Neq64, Bin_lss, Bin_leq, Bin_gtr, Bin_geq, Bin_bool_eql, Bin_bool_neq, Bin_ptr_nil_eql, Bin_ptr_nil_neq, Not_dec, Un_not, Pick_t, Pick_f, Pick_pos, Pick_neg, Gd_tt, Gd_tf, Gd_ft, Gd_ff, Gd_pos_t, Gd_neg_t, Gd_pos_f, Gd_neg_f, Gd_undef, If_t, If_f, If_pos, If_neg, CallF_eq, Max_two, Min_two, Len_rd, Len_own, Ld_blkE, Idx_rdN, Idx_ownN, Idx_rdE, Idx_ownE, IdxAE, LdA_two, Idx_at0, Ext_atE, Len_at, Int.toNat_natCast, Int.toNat_zero, Int.toNat_one, List.length_map, List.length_append, List.length_cons, List.length_nil, List.length_take, List.length_set, List.length_replicate, Bool.not_true, Bool.not_false, decide_true, decide_false, BEq.rfl, bne_self_eq_false, tf_beq, ft_beq, tf_bne, ft_bne, not_true_eq_false, not_false_eq_true, app]
      exact hJ
  rintro - h1 rfl
  try simp (disch := first | assumption | omega | (apply At.mk; with_unfolding_all rfl)) only [↓go_eq, ↓ent_eq, Mv, NilC_at, Fld_at, add_mk, Nat.zero_add, Nat.add_zero, Add64, Sub64, Mul64, Quo64, Rem64, Neg64, Cvt64, CvtU8, CvtU16, CvtU32, CvtU64, AddU64, SubU64, MulU64, Shr64, Shr_u8, Shr_u16, Shr_u32, Shr_u64, And1, And31, And32, Eql64, Neq64, Bin_lss, Bin_leq, Bin_gtr, Bin_geq, Bin_bool_eql, Bin_bool_neq, Bin_ptr_nil_eql, Bin_ptr_nil_neq, Not_dec, Un_not, Pick_t, Pick_f, Pick_pos, Pick_neg, Gd_tt, Gd_tf, Gd_ft, Gd_ff, Gd_pos_t, Gd_neg_t, Gd_pos_f, Gd_neg_f, Gd_undef, If_t, If_f, If_pos, If_neg, CallF_eq, Max_two, Min_two, Len_rd, Len_own, Ld_blkE, Idx_rdN, Idx_ownN, Idx_rdE, Idx_ownE, IdxAE, LdA_two, Idx_at0, Ext_atE, Len_at, Int.toNat_natCast, Int.toNat_zero, Int.toNat_one, List.length_map, List.length_append, List.length_cons, List.length_nil, List.length_take, List.length_set, List.length_replicate, Bool.not_true, Bool.not_false, decide_true, decide_false, BEq.rfl, bne_self_eq_false, tf_beq, ft_beq, tf_bne, ft_bne, not_true_eq_false, not_false_eq_true, app]
  refine fit_q gl ?_
  refine BldS_three rfl rfl rfl fun h1 o2 f1 s1 => ?_
  have oo := o1.fr f1 (by simp)
  refine oo.app (ys := [Iv (hd ⟨c, l, fit31 gl, 0, false⟩), Iv (fit31 gl), Iv 0]) o2.rd rfl rfl (by intro x hx; simp at hx; rcases hx with rfl | rfl | rfl <;> rfl) (by rw [hwl]; simp; omega) (by rw [hwl]; simp; omega) fun v2 h2 wb2 o3 f2 hb2 hs2 => ?_
  have f02 : Fr (g :: mb :: wb) h h2 := (f1.mono (by simp)).trans (f2.mono fun x hx => by simp [hx])
  have k2 : ∀ b ∈ wb2, b ∈ wb ∨ h.size ≤ b := fun b hb => (hb2 b hb).imp (fun hm => hm) fun e => by rw [e]; exact f1.size
  have old : ∀ x, x < h.size → x ∉ wb → x ∉ wb2 := fun x hx hn hm => (k2 x hm).elim hn (by omega)
  have g2 : g ∉ wb2 := old g b1.lt d1
  have mb2 : mb ∉ wb2 := old mb m1.lt d2
  refine o3.app (ys := c.map Iv) (hw h2 f02) rfl rfl (by intro x hx; obtain ⟨y, _, rfl⟩ := List.mem_map.1 hx; rfl) (by rw [List.length_append, hwl, hcl]; simp; omega) (by rw [List.length_append, hwl, hcl]; simp; omega) fun v3 h3 wb3 o4 f3 hb3 hs3 => ?_
  have k3 : ∀ b ∈ wb3, b ∈ wb ∨ h.size ≤ b := fun b hb => (hb3 b hb).elim (k2 b) fun e => .inr (by rw [e]; exact f02.size)
  have old3 : ∀ x, x < h.size → x ∉ wb → x ∉ wb3 := fun x hx hn hm => (k3 x hm).elim hn (by omega)
  have b3 := ((b1.fr f1 (by simp)).fr f2 d1).fr f3 g2
  have ew : (wds cs).map Iv ++ [Iv (hd ⟨c, l, fit31 gl, 0, false⟩), Iv (fit31 gl), Iv 0] ++ c.map Iv = (wds (cs ++ [⟨c, l, fit31 gl, 0, false⟩])).map Iv := by
    rw [wds_append, wds_one]; simp [enc]
  rw [ew] at o4
  refine St_blk b3 (by simp) o4.rd.isCell fun h4 b4 f4 => ?_
  simp only [List.set] at b4
  have g3 := old3 g b1.lt d1
  have m3 := old3 mb m1.lt d2
  have o5 := o4.fr f4 (fun b hb hm => g3 (by rw [List.mem_singleton] at hm; rwa [← hm]))
  have m5 := (((m1.fr f1 (by simp)).fr f2 d2).fr f3 mb2).fr f4 (by simpa using Ne.symm d3)
  try simp (disch := first | assumption | omega | (apply At.mk; with_unfolding_all rfl)) only [↓go_eq, ↓ent_eq, Mv, NilC_at, Fld_at, add_mk, Nat.zero_add, Nat.add_zero, Add64, Sub64, Mul64, Quo64, Rem64, Neg64, Cvt64, CvtU8, CvtU16, CvtU32, CvtU64, AddU64, SubU64, MulU64, Shr64, Shr_u8, Shr_u16, Shr_u32, Shr_u64, And1, And31, And32, Eql64, Neq64, Bin_lss, Bin_leq, Bin_gtr, Bin_geq, Bin_bool_eql, Bin_bool_neq, Bin_ptr_nil_eql, Bin_ptr_nil_neq, Not_dec, Un_not, Pick_t, Pick_f, Pick_pos, Pick_neg, Gd_tt, Gd_tf, Gd_ft, Gd_ff, Gd_pos_t, Gd_neg_t, Gd_pos_f, Gd_neg_f, Gd_undef, If_t, If_f, If_pos, If_neg, CallF_eq, Max_two, Min_two, Len_rd, Len_own, Ld_blkE, Idx_rdN, Idx_ownN, Idx_rdE, Idx_ownE, IdxAE, LdA_two, Idx_at0, Ext_atE, Len_at, Int.toNat_natCast, Int.toNat_zero, Int.toNat_one, List.length_map, List.length_append, List.length_cons, List.length_nil, List.length_take, List.length_set, List.length_replicate, Bool.not_true, Bool.not_false, decide_true, decide_false, BEq.rfl, bne_self_eq_false, tf_beq, ft_beq, tf_bne, ft_bne, not_true_eq_false, not_false_eq_true, app]
  refine St_blk b4 (by simp) rfl fun h5 b5 f5 => ?_
  simp only [List.set] at b5
  have dm : mb ∉ [g] := by simpa using Ne.symm d3
  have hn : ((wds cs).length : Int) ∉ lv := fun hm' => by
    obtain ⟨k, c', h1, h2, h3⟩ := live_iff.1 ((hm _).1 hm')
    have := wds_end h1; omega
  try simp (disch := first | assumption | omega | (apply At.mk; with_unfolding_all rfl)) only [↓go_eq, ↓ent_eq, Mv, NilC_at, Fld_at, add_mk, Nat.zero_add, Nat.add_zero, Add64, Sub64, Mul64, Quo64, Rem64, Neg64, Cvt64, CvtU8, CvtU16, CvtU32, CvtU64, AddU64, SubU64, MulU64, Shr64, Shr_u8, Shr_u16, Shr_u32, Shr_u64, And1, And31, And32, Eql64, Neq64, Bin_lss, Bin_leq, Bin_gtr, Bin_geq, Bin_bool_eql, Bin_bool_neq, Bin_ptr_nil_eql, Bin_ptr_nil_neq, Not_dec, Un_not, Pick_t, Pick_f, Pick_pos, Pick_neg, Gd_tt, Gd_tf, Gd_ft, Gd_ff, Gd_pos_t, Gd_neg_t, Gd_pos_f, Gd_neg_f, Gd_undef, If_t, If_f, If_pos, If_neg, CallF_eq, Max_two, Min_two, Len_rd, Len_own, Ld_blkE, Idx_rdN, Idx_ownN, Idx_rdE, Idx_ownE, IdxAE, LdA_two, Idx_at0, Ext_atE, Len_at, Int.toNat_natCast, Int.toNat_zero, Int.toNat_one, List.length_map, List.length_append, List.length_cons, List.length_nil, List.length_take, List.length_set, List.length_replicate, Bool.not_true, Bool.not_false, decide_true, decide_false, BEq.rfl, bne_self_eq_false, tf_beq, ft_beq, tf_bne, ft_bne, not_true_eq_false, not_false_eq_true, app]
  refine MUpd_new (m5.fr f5 dm) (by rw [look_live]; simp [hn]) fun h6 m6 f6 hs6 => ?_
  try simp (disch := first | assumption | omega | (apply At.mk; with_unfolding_all rfl)) only [↓go_eq, ↓ent_eq, Mv, NilC_at, Fld_at, add_mk, Nat.zero_add, Nat.add_zero, Add64, Sub64, Mul64, Quo64, Rem64, Neg64, Cvt64, CvtU8, CvtU16, CvtU32, CvtU64, AddU64, SubU64, MulU64, Shr64, Shr_u8, Shr_u16, Shr_u32, Shr_u64, And1, And31, And32, Eql64, Neq64, Bin_lss, Bin_leq, Bin_gtr, Bin_geq, Bin_bool_eql, Bin_bool_neq, Bin_ptr_nil_eql, Bin_ptr_nil_neq, Not_dec, Un_not, Pick_t, Pick_f, Pick_pos, Pick_neg, Gd_tt, Gd_tf, Gd_ft, Gd_ff, Gd_pos_t, Gd_neg_t, Gd_pos_f, Gd_neg_f, Gd_undef, If_t, If_f, If_pos, If_neg, CallF_eq, Max_two, Min_two, Len_rd, Len_own, Ld_blkE, Idx_rdN, Idx_ownN, Idx_rdE, Idx_ownE, IdxAE, LdA_two, Idx_at0, Ext_atE, Len_at, Int.toNat_natCast, Int.toNat_zero, Int.toNat_one, List.length_map, List.length_append, List.length_cons, List.length_nil, List.length_take, List.length_set, List.length_replicate, Bool.not_true, Bool.not_false, decide_true, decide_false, BEq.rfl, bne_self_eq_false, tf_beq, ft_beq, tf_bne, ft_bne, not_true_eq_false, not_false_eq_true, app]
  refine hk hnf h6 (g :: mb :: wb3) ⟨⟨v3, wb3, mb, lv ++ [((wds cs).length : Int)], ?_, ?_, ?_, rfl, g3, m3, d3, ?_, fun r => ?_⟩, ?_, fun x hx => ?_⟩ ?_ ?_
  · have := b5.fr f6 (by simpa using d3)
    rw [List.length_append]
    simpa using this
  · exact (o5.fr f5 (fun b hb hm => g3 (by rw [List.mem_singleton] at hm; rwa [← hm]))).fr f6 (fun b hb hm => m3 (by rw [List.mem_singleton] at hm; rwa [← hm]))
  · simpa using m6
  · rw [List.nodup_append]
    exact ⟨nd, by simp, fun a ha b hb e => by simp at hb; subst hb; subst e; exact hn ha⟩
  · rw [live_snoc rfl, List.mem_append, List.mem_singleton, hm]
  · rw [wds_append, wds_one, List.length_append, enc_len]; simp only; omega
  · rcases List.mem_append.1 hx with q | q
    · exact gu x q
    · simp at q; subst q
      exact ⟨fit31_bd gl, Int.le_refl _, by show (0 : Int) ≤ 2147483647; decide⟩
  · exact ((((f02.trans' f3 fun x hx => (k2 x hx).imp (fun hm => by simp [hm]) fun e => e).trans (f4.mono (by simp))).trans (f5.mono (by simp)))).trans (f6.mono (by simp))
  · intro b hb
    rcases List.mem_cons.1 hb with rfl | hb
    · simp
    · rcases List.mem_cons.1 hb with rfl | hb
      · simp
      · exact (k3 b hb).imp (fun hm => by simp [hm]) fun e => e
def setF (c : Cl) (i : Nat) (n : Int) : Cl := if i = 1 then { c with glue := n } else { c with uses := n }
theorem setF_enc (c : Cl) {i : Nat} (hi : i = 1 ∨ i = 2) (n : Int) : enc (setF c i n) = (enc c).set i n := by
  rcases hi with rfl | rfl <;> rfl
theorem setF_lits (c : Cl) (i : Nat) (n : Int) : (setF c i n).lits = c.lits := by unfold setF; split <;> rfl
theorem setF_gone (c : Cl) (i : Nat) (n : Int) : (setF c i n).gone = c.gone := by unfold setF; split <;> rfl
theorem arena_Arena_set.no (ha : ArR h g lim cs F) (hr : clAt cs r = none) (i : Nat) (n : Int) (hk : K (.bool false) h) : CallH Try.prog arena_Arena_set.id #[ptr g, Iv r, Iv (i : Nat), Iv n] K h := by
  refine arena_Arena_set.ok ?_
  simp only [arena_Arena_set.pt]
  rw [go_eq]
  refine has_q ha ?_
  rw [hr, show (none : Option Cl).isSome = false from rfl]
  try simp (disch := first | assumption | omega | (apply At.mk; with_unfolding_all rfl)) only [↓go_eq, ↓ent_eq, Mv, NilC_at, Fld_at, add_mk, Nat.zero_add, Nat.add_zero, Add64, Sub64, Mul64, Quo64, Rem64, Neg64, Cvt64, CvtU8, CvtU16, CvtU32, CvtU64, AddU64, SubU64, MulU64, Shr64, Shr_u8, Shr_u16, Shr_u32, Shr_u64, And1, And31, And32, Eql64, Neq64, Bin_lss, Bin_leq, Bin_gtr, Bin_geq, Bin_bool_eql, Bin_bool_neq, Bin_ptr_nil_eql, Bin_ptr_nil_neq, Not_dec, Un_not, Pick_t, Pick_f, Pick_pos, Pick_neg, Gd_tt, Gd_tf, Gd_ft, Gd_ff, Gd_pos_t, Gd_neg_t, Gd_pos_f, Gd_neg_f, Gd_undef, If_t, If_f, If_pos, If_neg, CallF_eq, Max_two, Min_two, Len_rd, Len_own, Ld_blkE, Idx_rdN, Idx_ownN, Idx_rdE, Idx_ownE, IdxAE, LdA_two, Idx_at0, Ext_atE, Len_at, Int.toNat_natCast, Int.toNat_zero, Int.toNat_one, List.length_map, List.length_append, List.length_cons, List.length_nil, List.length_take, List.length_set, List.length_replicate, Bool.not_true, Bool.not_false, decide_true, decide_false, BEq.rfl, bne_self_eq_false, tf_beq, ft_beq, tf_bne, ft_bne, not_true_eq_false, not_false_eq_true, app]
  exact hk
theorem arena_Arena_set.yes (ha : ArR h g lim cs F) {k : Nat} {c : Cl} (hc : cs[k]? = some c) (hg : c.gone = false) {i : Nat} (hi : i = 1 ∨ i = 2) (n : Int) (hk : ∀ h', ArR h' g lim (cs.set k (setF c i (fit31 n))) F → Fr F h h' → h'.size = h.size → K (.bool true) h') : CallH Try.prog arena_Arena_set.id #[ptr g, Iv (off cs k : Nat), Iv (i : Nat), Iv n] K h := by
  refine arena_Arena_set.ok ?_
  simp only [arena_Arena_set.pt]
  rw [go_eq]
  refine has_q ha ?_
  rw [clAt_live hc hg, show (some c).isSome = true from rfl]
  have hend := wds_end hc
  obtain ⟨⟨wv, wb, mb, lv, b1, o1, m1, rfl, d1, d2, d3, nd, hm⟩, bd, gu⟩ := ha
  try simp (disch := first | assumption | omega | (apply At.mk; with_unfolding_all rfl)) only [↓go_eq, ↓ent_eq, Mv, NilC_at, Fld_at, add_mk, Nat.zero_add, Nat.add_zero, Add64, Sub64, Mul64, Quo64, Rem64, Neg64, Cvt64, CvtU8, CvtU16, CvtU32, CvtU64, AddU64, SubU64, MulU64, Shr64, Shr_u8, Shr_u16, Shr_u32, Shr_u64, And1, And31, And32, Eql64, Neq64, Bin_lss, Bin_leq, Bin_gtr, Bin_geq, Bin_bool_eql, Bin_bool_neq, Bin_ptr_nil_eql, Bin_ptr_nil_neq, Not_dec, Un_not, Pick_t, Pick_f, Pick_pos, Pick_neg, Gd_tt, Gd_tf, Gd_ft, Gd_ff, Gd_pos_t, Gd_neg_t, Gd_pos_f, Gd_neg_f, Gd_undef, If_t, If_f, If_pos, If_neg, CallF_eq, Max_two, Min_two, Len_rd, Len_own, Ld_blkE, Idx_rdN, Idx_ownN, Idx_rdE, Idx_ownE, IdxAE, LdA_two, Idx_at0, Ext_atE, Len_at, Int.toNat_natCast, Int.toNat_zero, Int.toNat_one, List.length_map, List.length_append, List.length_cons, List.length_nil, List.length_take, List.length_set, List.length_replicate, Bool.not_true, Bool.not_false, decide_true, decide_false, BEq.rfl, bne_self_eq_false, tf_beq, ft_beq, tf_bne, ft_bne, not_true_eq_false, not_false_eq_true, app]
  refine fit_q n ?_
  refine o1.put (by omega) (by rw [List.length_map]; omega) rfl fun h1 o2 f1 z1 => ?_
  have e1 : ((off cs k : Nat) + (i : Nat) : Int).toNat = off cs k + i := by omega
  rw [e1, ← List.map_set, wds_set (c' := setF c i (fit31 n)) hc (by omega) (setF_enc c hi _)] at o2
  refine hk h1 ⟨⟨wv, wb, mb, lv, b1.fr f1 d1, o2, m1.fr f1 d2, rfl, d1, d2, d3, nd, fun r => ?_⟩, ?_, fun x hx => ?_⟩ (f1.mono (by intro x hx; simp [hx])) z1
  · rw [hm, live_set hc (by rw [setF_lits]) (setF_gone c i _)]
  · rw [wds_len] at bd ⊢
    rw [List.length_set, off_set hc (by rw [setF_lits])]; exact bd
  · rcases set_mem hx with q | q
    · exact gu x q
    · subst q
      have h1 := gu c (List.mem_of_getElem? hc)
      have h2 := fit31_bd n
      rcases hi with rfl | rfl
      · exact ⟨h2, h1.2⟩
      · exact ⟨h1.1, h2⟩
theorem arena_Arena_SetGlue.no (ha : ArR h g lim cs F) (hr : clAt cs r = none) (n : Int) (hk : K (.bool false) h) : CallH Try.prog arena_Arena_SetGlue.id #[ptr g, Iv r, Iv n] K h := by
  refine arena_Arena_SetGlue.ok ?_
  simp only [arena_Arena_SetGlue.pt]
  rw [go_eq, CallF_eq]
  exact arena_Arena_set.no ha hr 1 n hk
theorem arena_Arena_SetGlue.yes (ha : ArR h g lim cs F) {k : Nat} {c : Cl} (hc : cs[k]? = some c) (hg : c.gone = false) (n : Int) (hk : ∀ h', ArR h' g lim (cs.set k { c with glue := fit31 n }) F → Fr F h h' → h'.size = h.size → K (.bool true) h') : CallH Try.prog arena_Arena_SetGlue.id #[ptr g, Iv (off cs k : Nat), Iv n] K h := by
  refine arena_Arena_SetGlue.ok ?_
  simp only [arena_Arena_SetGlue.pt]
  rw [go_eq, CallF_eq]
  exact arena_Arena_set.yes ha hc hg (i := 1) (.inl rfl) n hk
theorem arena_Arena_SetUses.no (ha : ArR h g lim cs F) (hr : clAt cs r = none) (n : Int) (hk : K (.bool false) h) : CallH Try.prog arena_Arena_SetUses.id #[ptr g, Iv r, Iv n] K h := by
  refine arena_Arena_SetUses.ok ?_
  simp only [arena_Arena_SetUses.pt]
  rw [go_eq, CallF_eq]
  exact arena_Arena_set.no ha hr 2 n hk
theorem arena_Arena_SetUses.yes (ha : ArR h g lim cs F) {k : Nat} {c : Cl} (hc : cs[k]? = some c) (hg : c.gone = false) (n : Int) (hk : ∀ h', ArR h' g lim (cs.set k { c with uses := fit31 n }) F → Fr F h h' → h'.size = h.size → K (.bool true) h') : CallH Try.prog arena_Arena_SetUses.id #[ptr g, Iv (off cs k : Nat), Iv n] K h := by
  refine arena_Arena_SetUses.ok ?_
  simp only [arena_Arena_SetUses.pt]
  rw [go_eq, CallF_eq]
  exact arena_Arena_set.yes ha hc hg (i := 2) (.inr rfl) n hk
theorem arena_Arena_Drop.no (ha : ArR h g lim cs F) (hr : clAt cs r = none) (hk : K (.bool false) h) : CallH Try.prog arena_Arena_Drop.id #[ptr g, Iv r] K h := by
  refine arena_Arena_Drop.ok ?_
  simp only [arena_Arena_Drop.pt]
  rw [go_eq]
  refine has_q ha ?_
  rw [hr, show (none : Option Cl).isSome = false from rfl]
  try simp (disch := first | assumption | omega | (apply At.mk; with_unfolding_all rfl)) only [↓go_eq, ↓ent_eq, Mv, NilC_at, Fld_at, add_mk, Nat.zero_add, Nat.add_zero, Add64, Sub64, Mul64, Quo64, Rem64, Neg64, Cvt64, CvtU8, CvtU16, CvtU32, CvtU64, AddU64, SubU64, MulU64, Shr64, Shr_u8, Shr_u16, Shr_u32, Shr_u64, And1, And31, And32, Eql64, Neq64, Bin_lss, Bin_leq, Bin_gtr, Bin_geq, Bin_bool_eql, Bin_bool_neq, Bin_ptr_nil_eql, Bin_ptr_nil_neq, Not_dec, Un_not, Pick_t, Pick_f, Pick_pos, Pick_neg, Gd_tt, Gd_tf, Gd_ft, Gd_ff, Gd_pos_t, Gd_neg_t, Gd_pos_f, Gd_neg_f, Gd_undef, If_t, If_f, If_pos, If_neg, CallF_eq, Max_two, Min_two, Len_rd, Len_own, Ld_blkE, Idx_rdN, Idx_ownN, Idx_rdE, Idx_ownE, IdxAE, LdA_two, Idx_at0, Ext_atE, Len_at, Int.toNat_natCast, Int.toNat_zero, Int.toNat_one, List.length_map, List.length_append, List.length_cons, List.length_nil, List.length_take, List.length_set, List.length_replicate, Bool.not_true, Bool.not_false, decide_true, decide_false, BEq.rfl, bne_self_eq_false, tf_beq, ft_beq, tf_bne, ft_bne, not_true_eq_false, not_false_eq_true, app]
  exact hk
theorem nd_filter {lv : List Int} {r : Int} (nd : lv.Nodup) (hr : r ∈ lv) : (lv.filter fun n => n != r).length + 1 = lv.length := by
  have := nd.erase_eq_filter r
  rw [show (lv.filter fun n => n != r) = lv.erase r from this.symm, List.length_erase_of_mem hr]
  have := List.length_pos_of_mem hr
  omega
theorem arena_Arena_Drop.yes (ha : ArR h g lim cs F) {k : Nat} {c : Cl} (hc : cs[k]? = some c) (hg : c.gone = false) (hk : ∀ h', ArR h' g lim (cs.set k { c with gone := true }) F → Fr F h h' → K (.bool true) h') : CallH Try.prog arena_Arena_Drop.id #[ptr g, Iv (off cs k : Nat)] K h := by
  refine arena_Arena_Drop.ok ?_
  simp only [arena_Arena_Drop.pt]
  rw [go_eq]
  refine has_q ha ?_
  rw [clAt_live hc hg, show (some c).isSome = true from rfl]
  have hend := wds_end hc
  obtain ⟨q1, q2, q3, q4⟩ := ha.cl (clAt_live hc hg)
  have hw := ha.word (clAt_live hc hg) (j := 0) (by omega)
  obtain ⟨⟨wv, wb, mb, lv, b1, o1, m1, rfl, d1, d2, d3, nd, hm⟩, bd, gu⟩ := ha
  have hrl : ((off cs k : Nat) : Int) ∈ lv := (hm _).2 (by rw [clAt_live hc hg]; rfl)
  have hnl := nd_filter nd hrl
  have hlv : lv.length ≤ (wds cs).length + 1 := by
    rw [lv_count nd hm, wds_len]
    have h1 := List.countP_le_length (l := cs) (p := fun c => !c.gone)
    have h2 := off_mono (cs := cs) (j := 0) (k := cs.length) (Nat.zero_le _)
    omega
  rw [hd_at] at hw
  try simp (disch := first | assumption | omega | (apply At.mk; with_unfolding_all rfl)) only [↓go_eq, ↓ent_eq, Mv, NilC_at, Fld_at, add_mk, Nat.zero_add, Nat.add_zero, Add64, Sub64, Mul64, Quo64, Rem64, Neg64, Cvt64, CvtU8, CvtU16, CvtU32, CvtU64, AddU64, SubU64, MulU64, Shr64, Shr_u8, Shr_u16, Shr_u32, Shr_u64, And1, And31, And32, Eql64, Neq64, Bin_lss, Bin_leq, Bin_gtr, Bin_geq, Bin_bool_eql, Bin_bool_neq, Bin_ptr_nil_eql, Bin_ptr_nil_neq, Not_dec, Un_not, Pick_t, Pick_f, Pick_pos, Pick_neg, Gd_tt, Gd_tf, Gd_ft, Gd_ff, Gd_pos_t, Gd_neg_t, Gd_pos_f, Gd_neg_f, Gd_undef, If_t, If_f, If_pos, If_neg, CallF_eq, Max_two, Min_two, Len_rd, Len_own, Ld_blkE, Idx_rdN, Idx_ownN, Idx_rdE, Idx_ownE, IdxAE, LdA_two, Idx_at0, Ext_atE, Len_at, Int.toNat_natCast, Int.toNat_zero, Int.toNat_one, List.length_map, List.length_append, List.length_cons, List.length_nil, List.length_take, List.length_set, List.length_replicate, Bool.not_true, Bool.not_false, decide_true, decide_false, BEq.rfl, bne_self_eq_false, tf_beq, ft_beq, tf_bne, ft_bne, not_true_eq_false, not_false_eq_true, app]
  refine MDel_map m1 fun h1 m2 f1 z1 => ?_
  have b2 := b1.fr f1 (by simpa using d3)
  have o2 := o1.fr f1 (fun b hb hm => d2 (by rw [List.mem_singleton] at hm; rwa [← hm]))
  have o2r := o2.rd
  rw [show ((off cs k : Nat) : Int) + ((0 : Nat) : Int) = (off cs k : Nat) + 0 by omega] at hw
  try simp (disch := first | assumption | omega | (apply At.mk; with_unfolding_all rfl)) only [↓go_eq, ↓ent_eq, Mv, NilC_at, Fld_at, add_mk, Nat.zero_add, Nat.add_zero, Add64, Sub64, Mul64, Quo64, Rem64, Neg64, Cvt64, CvtU8, CvtU16, CvtU32, CvtU64, AddU64, SubU64, MulU64, Shr64, Shr_u8, Shr_u16, Shr_u32, Shr_u64, And1, And31, And32, Eql64, Neq64, Bin_lss, Bin_leq, Bin_gtr, Bin_geq, Bin_bool_eql, Bin_bool_neq, Bin_ptr_nil_eql, Bin_ptr_nil_neq, Not_dec, Un_not, Pick_t, Pick_f, Pick_pos, Pick_neg, Gd_tt, Gd_tf, Gd_ft, Gd_ff, Gd_pos_t, Gd_neg_t, Gd_pos_f, Gd_neg_f, Gd_undef, If_t, If_f, If_pos, If_neg, CallF_eq, Max_two, Min_two, Len_rd, Len_own, Ld_blkE, Idx_rdN, Idx_ownN, Idx_rdE, Idx_ownE, IdxAE, LdA_two, Idx_at0, Ext_atE, Len_at, Int.toNat_natCast, Int.toNat_zero, Int.toNat_one, List.length_map, List.length_append, List.length_cons, List.length_nil, List.length_take, List.length_set, List.length_replicate, Bool.not_true, Bool.not_false, decide_true, decide_false, BEq.rfl, bne_self_eq_false, tf_beq, ft_beq, tf_bne, ft_bne, not_true_eq_false, not_false_eq_true, app]
  rw [hd_drop q3 hg]
  refine o2.put (by omega) (by rw [List.length_map]; omega) rfl fun h2 o3 f2 z2 => ?_
  have e1 : ((off cs k : Nat) + 0 : Int).toNat = off cs k + 0 := by omega
  rw [e1, ← List.map_set, wds_set (c' := { c with gone := true }) hc (by omega) rfl] at o3
  have b3 := b2.fr f2 d1
  have m3 := m2.fr f2 d2
  try simp (disch := first | assumption | omega | (apply At.mk; with_unfolding_all rfl)) only [↓go_eq, ↓ent_eq, Mv, NilC_at, Fld_at, add_mk, Nat.zero_add, Nat.add_zero, Add64, Sub64, Mul64, Quo64, Rem64, Neg64, Cvt64, CvtU8, CvtU16, CvtU32, CvtU64, AddU64, SubU64, MulU64, Shr64, Shr_u8, Shr_u16, Shr_u32, Shr_u64, And1, And31, And32, Eql64, Neq64, Bin_lss, Bin_leq, Bin_gtr, Bin_geq, Bin_bool_eql, Bin_bool_neq, Bin_ptr_nil_eql, Bin_ptr_nil_neq, Not_dec, Un_not, Pick_t, Pick_f, Pick_pos, Pick_neg, Gd_tt, Gd_tf, Gd_ft, Gd_ff, Gd_pos_t, Gd_neg_t, Gd_pos_f, Gd_neg_f, Gd_undef, If_t, If_f, If_pos, If_neg, CallF_eq, Max_two, Min_two, Len_rd, Len_own, Ld_blkE, Idx_rdN, Idx_ownN, Idx_rdE, Idx_ownE, IdxAE, LdA_two, Idx_at0, Ext_atE, Len_at, Int.toNat_natCast, Int.toNat_zero, Int.toNat_one, List.length_map, List.length_append, List.length_cons, List.length_nil, List.length_take, List.length_set, List.length_replicate, Bool.not_true, Bool.not_false, decide_true, decide_false, BEq.rfl, bne_self_eq_false, tf_beq, ft_beq, tf_bne, ft_bne, not_true_eq_false, not_false_eq_true, app]
  refine St_blk b3 (by simp) rfl fun h3 b4 f3 => ?_
  simp only [List.set] at b4
  have em : ((lv.map fun n => (n, Value.bool true)).filter fun p => p.1 != ((off cs k : Nat) : Int)) = (lv.filter fun n => n != ((off cs k : Nat) : Int)).map fun n => (n, Value.bool true) := by rw [List.filter_map]; rfl
  rw [em] at m3
  try simp (disch := first | assumption | omega | (apply At.mk; with_unfolding_all rfl)) only [↓go_eq, ↓ent_eq, Mv, NilC_at, Fld_at, add_mk, Nat.zero_add, Nat.add_zero, Add64, Sub64, Mul64, Quo64, Rem64, Neg64, Cvt64, CvtU8, CvtU16, CvtU32, CvtU64, AddU64, SubU64, MulU64, Shr64, Shr_u8, Shr_u16, Shr_u32, Shr_u64, And1, And31, And32, Eql64, Neq64, Bin_lss, Bin_leq, Bin_gtr, Bin_geq, Bin_bool_eql, Bin_bool_neq, Bin_ptr_nil_eql, Bin_ptr_nil_neq, Not_dec, Un_not, Pick_t, Pick_f, Pick_pos, Pick_neg, Gd_tt, Gd_tf, Gd_ft, Gd_ff, Gd_pos_t, Gd_neg_t, Gd_pos_f, Gd_neg_f, Gd_undef, If_t, If_f, If_pos, If_neg, CallF_eq, Max_two, Min_two, Len_rd, Len_own, Ld_blkE, Idx_rdN, Idx_ownN, Idx_rdE, Idx_ownE, IdxAE, LdA_two, Idx_at0, Ext_atE, Len_at, Int.toNat_natCast, Int.toNat_zero, Int.toNat_one, List.length_map, List.length_append, List.length_cons, List.length_nil, List.length_take, List.length_set, List.length_replicate, Bool.not_true, Bool.not_false, decide_true, decide_false, BEq.rfl, bne_self_eq_false, tf_beq, ft_beq, tf_bne, ft_bne, not_true_eq_false, not_false_eq_true, app]
  refine hk h3 ⟨⟨wv, wb, mb, lv.filter fun n => n != ((off cs k : Nat) : Int), ?_, o3.fr f3 (fun b hb hm => d1 (by rw [List.mem_singleton] at hm; rwa [← hm])), m3.fr f3 (by simpa using Ne.symm d3), rfl, d1, d2, d3, nd.filter _, fun r => ?_⟩, ?_, fun x hx => ?_⟩ (((f1.mono (by simp)).trans (f2.mono (by intro x hx; simp [hx]))).trans (f3.mono (by simp)))
  · rw [show ((lv.filter fun n => n != ((off cs k : Nat) : Int)).length : Int) = (lv.length : Int) - 1 by omega]; exact b4
  · rw [live_drop hc, List.mem_filter, hm]
    simp
  · rw [wds_len] at bd ⊢
    rw [List.length_set, off_set (c' := { c with gone := true }) hc rfl]; exact bd
  · rcases set_mem hx with q | q
    · exact gu x q
    · subst q
      exact gu c (List.mem_of_getElem? hc)
theorem arena_Arena_Lits.spec (ha : ArR h g lim cs F) (hk : ∀ v bs h', Own h' v (((clAt cs r).map (·.lits)).getD [] |>.map Iv) bs → (∀ b ∈ bs, h.size ≤ b) → Fr [] h h' → K v h') : CallH Try.prog arena_Arena_Lits.id #[ptr g, Iv r] K h := by
  refine arena_Arena_Lits.ok ?_
  simp only [arena_Arena_Lits.pt]
  rw [go_eq]
  refine len_q ha ?_
  cases e : clAt cs r with
  | none =>
    rw [e] at hk
    have e0 : ((lenO none : Nat) : Int) = 0 := rfl
    try simp (disch := first | assumption | omega | (apply At.mk; with_unfolding_all rfl)) only [↓go_eq, ↓ent_eq, Mv, NilC_at, Fld_at, add_mk, Nat.zero_add, Nat.add_zero, Add64, Sub64, Mul64, Quo64, Rem64, Neg64, Cvt64, CvtU8, CvtU16, CvtU32, CvtU64, AddU64, SubU64, MulU64, Shr64, Shr_u8, Shr_u16, Shr_u32, Shr_u64, And1, And31, And32, Eql64, Neq64, Bin_lss, Bin_leq, Bin_gtr, Bin_geq, Bin_bool_eql, Bin_bool_neq, Bin_ptr_nil_eql, Bin_ptr_nil_neq, Not_dec, Un_not, Pick_t, Pick_f, Pick_pos, Pick_neg, Gd_tt, Gd_tf, Gd_ft, Gd_ff, Gd_pos_t, Gd_neg_t, Gd_pos_f, Gd_neg_f, Gd_undef, If_t, If_f, If_pos, If_neg, CallF_eq, Max_two, Min_two, Len_rd, Len_own, Ld_blkE, Idx_rdN, Idx_ownN, Idx_rdE, Idx_ownE, IdxAE, LdA_two, Idx_at0, Ext_atE, Len_at, Int.toNat_natCast, Int.toNat_zero, Int.toNat_one, List.length_map, List.length_append, List.length_cons, List.length_nil, List.length_take, List.length_set, List.length_replicate, Bool.not_true, Bool.not_false, decide_true, decide_false, BEq.rfl, bne_self_eq_false, tf_beq, ft_beq, tf_bne, ft_bne, not_true_eq_false, not_false_eq_true, app]
    exact hk nilS [] h (Own.nil h) (by simp) (Fr.refl _ _)
  | some c =>
    rw [e] at hk
    have hk : ∀ v bs h', Own h' v (c.lits.map Iv) bs → (∀ b ∈ bs, h.size ≤ b) → Fr [] h h' → K v h' := hk
    by_cases c0 : c.lits.length = 0
    · have e0 : ((lenO (some c) : Nat) : Int) = 0 := by show ((c.lits.length : Nat) : Int) = 0; omega
      have el : c.lits = [] := List.length_eq_zero_iff.1 c0
      rw [el] at hk
      try simp (disch := first | assumption | omega | (apply At.mk; with_unfolding_all rfl)) only [↓go_eq, ↓ent_eq, Mv, NilC_at, Fld_at, add_mk, Nat.zero_add, Nat.add_zero, Add64, Sub64, Mul64, Quo64, Rem64, Neg64, Cvt64, CvtU8, CvtU16, CvtU32, CvtU64, AddU64, SubU64, MulU64, Shr64, Shr_u8, Shr_u16, Shr_u32, Shr_u64, And1, And31, And32, Eql64, Neq64, Bin_lss, Bin_leq, Bin_gtr, Bin_geq, Bin_bool_eql, Bin_bool_neq, Bin_ptr_nil_eql, Bin_ptr_nil_neq, Not_dec, Un_not, Pick_t, Pick_f, Pick_pos, Pick_neg, Gd_tt, Gd_tf, Gd_ft, Gd_ff, Gd_pos_t, Gd_neg_t, Gd_pos_f, Gd_neg_f, Gd_undef, If_t, If_f, If_pos, If_neg, CallF_eq, Max_two, Min_two, Len_rd, Len_own, Ld_blkE, Idx_rdN, Idx_ownN, Idx_rdE, Idx_ownE, IdxAE, LdA_two, Idx_at0, Ext_atE, Len_at, Int.toNat_natCast, Int.toNat_zero, Int.toNat_one, List.length_map, List.length_append, List.length_cons, List.length_nil, List.length_take, List.length_set, List.length_replicate, Bool.not_true, Bool.not_false, decide_true, decide_false, BEq.rfl, bne_self_eq_false, tf_beq, ft_beq, tf_bne, ft_bne, not_true_eq_false, not_false_eq_true, app]
      exact hk nilS [] h (Own.nil h) (by simp) (Fr.refl _ _)
    · have e0 : ¬ ((lenO (some c) : Nat) : Int) = 0 := by show ¬ ((c.lits.length : Nat) : Int) = 0; omega
      obtain ⟨q1, q2, q3, q4⟩ := ha.cl e
      obtain ⟨k, hc, hg, er⟩ := clAt_some e
      have hcl := wds_lits hc
      obtain ⟨⟨wv, wb, mb, lv, b1, o1, m1, rfl, d1, d2, d3, nd, hm⟩, bd, gu⟩ := ha
      have el : ((lenO (some c) : Nat) : Int) = (c.lits.length : Nat) := rfl
      rw [el]
      rw [el] at e0
      try simp (disch := first | assumption | omega | (apply At.mk; with_unfolding_all rfl)) only [↓go_eq, ↓ent_eq, Mv, NilC_at, Fld_at, add_mk, Nat.zero_add, Nat.add_zero, Add64, Sub64, Mul64, Quo64, Rem64, Neg64, Cvt64, CvtU8, CvtU16, CvtU32, CvtU64, AddU64, SubU64, MulU64, Shr64, Shr_u8, Shr_u16, Shr_u32, Shr_u64, And1, And31, And32, Eql64, Neq64, Bin_lss, Bin_leq, Bin_gtr, Bin_geq, Bin_bool_eql, Bin_bool_neq, Bin_ptr_nil_eql, Bin_ptr_nil_neq, Not_dec, Un_not, Pick_t, Pick_f, Pick_pos, Pick_neg, Gd_tt, Gd_tf, Gd_ft, Gd_ff, Gd_pos_t, Gd_neg_t, Gd_pos_f, Gd_neg_f, Gd_undef, If_t, If_f, If_pos, If_neg, CallF_eq, Max_two, Min_two, Len_rd, Len_own, Ld_blkE, Idx_rdN, Idx_ownN, Idx_rdE, Idx_ownE, IdxAE, LdA_two, Idx_at0, Ext_atE, Len_at, Int.toNat_natCast, Int.toNat_zero, Int.toNat_one, List.length_map, List.length_append, List.length_cons, List.length_nil, List.length_take, List.length_set, List.length_replicate, Bool.not_true, Bool.not_false, decide_true, decide_false, BEq.rfl, bne_self_eq_false, tf_beq, ft_beq, tf_bne, ft_bne, not_true_eq_false, not_false_eq_true, app]
      refine Rd.slc3 o1.rd (by omega) (by omega) (by rw [List.length_map]; omega) fun v' hv' => ?_
      rw [← List.map_take, ← List.map_drop, show (r + 3 + (c.lits.length : Nat)).toNat = off cs k + 3 + c.lits.length by omega, show (r + 3).toNat = off cs k + 3 by omega, hcl] at hv'
      refine (Own.nil h).app hv' rfl rfl (by intro x hx; obtain ⟨y, _, rfl⟩ := List.mem_map.1 hx; rfl) (by simp; omega) (by simp; omega) fun v2 h2 bs o2 f2 hb2 z2 => ?_
      try simp (disch := first | assumption | omega | (apply At.mk; with_unfolding_all rfl)) only [↓go_eq, ↓ent_eq, Mv, NilC_at, Fld_at, add_mk, Nat.zero_add, Nat.add_zero, Add64, Sub64, Mul64, Quo64, Rem64, Neg64, Cvt64, CvtU8, CvtU16, CvtU32, CvtU64, AddU64, SubU64, MulU64, Shr64, Shr_u8, Shr_u16, Shr_u32, Shr_u64, And1, And31, And32, Eql64, Neq64, Bin_lss, Bin_leq, Bin_gtr, Bin_geq, Bin_bool_eql, Bin_bool_neq, Bin_ptr_nil_eql, Bin_ptr_nil_neq, Not_dec, Un_not, Pick_t, Pick_f, Pick_pos, Pick_neg, Gd_tt, Gd_tf, Gd_ft, Gd_ff, Gd_pos_t, Gd_neg_t, Gd_pos_f, Gd_neg_f, Gd_undef, If_t, If_f, If_pos, If_neg, CallF_eq, Max_two, Min_two, Len_rd, Len_own, Ld_blkE, Idx_rdN, Idx_ownN, Idx_rdE, Idx_ownE, IdxAE, LdA_two, Idx_at0, Ext_atE, Len_at, Int.toNat_natCast, Int.toNat_zero, Int.toNat_one, List.length_map, List.length_append, List.length_cons, List.length_nil, List.length_take, List.length_set, List.length_replicate, Bool.not_true, Bool.not_false, decide_true, decide_false, BEq.rfl, bne_self_eq_false, tf_beq, ft_beq, tf_bne, ft_bne, not_true_eq_false, not_false_eq_true, app]
      exact hk v2 bs h2 (by simpa using o2) (fun b hb => by rcases hb2 b hb with q | q; cases q; omega) f2
/-- All clauses, gone through: what is gone through may change on the way, but for its lengths. -/
theorem arena_Arena_All.spec (hk : ∀ c h', Blk h' c [ptr g] → Fr [] h h' → h.size ≤ c → K (.func (.func arena_Arena_All_1.id) #[] #[ptr c]) h') : CallH Try.prog arena_Arena_All.id #[ptr g] K h := by
  refine arena_Arena_All.ok ?_
  simp only [arena_Arena_All.pt]
  try simp (disch := first | assumption | omega | (apply At.mk; with_unfolding_all rfl)) only [↓go_eq, ↓ent_eq, Mv, NilC_at, Fld_at, add_mk, Nat.zero_add, Nat.add_zero, Add64, Sub64, Mul64, Quo64, Rem64, Neg64, Cvt64, CvtU8, CvtU16, CvtU32, CvtU64, AddU64, SubU64, MulU64, Shr64, Shr_u8, Shr_u16, Shr_u32, Shr_u64, And1, And31, And32, Eql64, Neq64, Bin_lss, Bin_leq, Bin_gtr, Bin_geq, Bin_bool_eql, Bin_bool_neq, Bin_ptr_nil_eql, Bin_ptr_nil_neq, Not_dec, Un_not, Pick_t, Pick_f, Pick_pos, Pick_neg, Gd_tt, Gd_tf, Gd_ft, Gd_ff, Gd_pos_t, Gd_neg_t, Gd_pos_f, Gd_neg_f, Gd_undef, If_t, If_f, If_pos, If_neg, CallF_eq, Max_two, Min_two, Len_rd, Len_own, Ld_blkE, Idx_rdN, Idx_ownN, Idx_rdE, Idx_ownE, IdxAE, LdA_two, Idx_at0, Ext_atE, Len_at, Int.toNat_natCast, Int.toNat_zero, Int.toNat_one, List.length_map, List.length_append, List.length_cons, List.length_nil, List.length_take, List.length_set, List.length_replicate, Bool.not_true, Bool.not_false, decide_true, decide_false, BEq.rfl, bne_self_eq_false, tf_beq, ft_beq, tf_bne, ft_bne, not_true_eq_false, not_false_eq_true, app]
  exact New_blk fun h1 b1 f1 _ => hk _ h1 b1 f1 (Nat.le_refl _)
set_option maxHeartbeats 1000000 in
theorem All_seq {c : Nat} {cs0 : List Cl} (y : Value) (h : Heap) (J : Nat → List Cl → Heap → Prop) (E : Heap → Prop) (h0 : J 0 cs0 h)
    (hA : ∀ i cs h, J i cs h → Blk h c [ptr g] ∧ (∃ F, ArR h g lim cs F) ∧ cs.length = cs0.length ∧ ∀ k, off cs k = off cs0 k)
    (hgone : ∀ i cs h d, J i cs h → cs[i]? = some d → d.gone = true → J (i + 1) cs h)
    (hy : ∀ i cs h d, J i cs h → cs[i]? = some d → d.gone = false → CallV Try.prog y [Iv (off cs0 i : Nat)] (fun v h' => (v = .bool true ∧ ∃ cs', J (i + 1) cs' h') ∨ (v = .bool false ∧ E h')) h) :
    CallH Try.prog arena_Arena_All_1.id #[y, ptr c] (fun _ h' => (∃ cs, J cs0.length cs h') ∨ E h') h := by
  refine arena_Arena_All_1.ok ?_
  simp only [arena_Arena_All_1.pt]
  refine Lp_fn (σ := Nat × List Cl) (fun x => [y, ptr c, Iv (off cs0 x.1 : Nat)]) (fun x h' => x.1 ≤ cs0.length ∧ J x.1 x.2 h') (fun x => cs0.length - x.1) (0, cs0) rfl (fun _ => rfl) ⟨Nat.zero_le _, h0⟩ ?_
  rintro ⟨i, cs⟩ h1 ⟨hi, hJ⟩ X hX
  simp only at hi hJ
  obtain ⟨bc, ⟨F, ha⟩, hlen, hoff⟩ := hA i cs h1 hJ
  have hJk := hJ
  have bd := ha.bd
  have hwl := wds_len cs
  rw [hlen, hoff] at hwl
  by_cases ci : i < cs0.length
  · obtain ⟨d, hdg⟩ : ∃ d, cs[i]? = some d := ⟨cs[i]'(by omega), List.getElem?_eq_getElem _⟩
    have hol := off_lt (cs := cs0) ci
    have hend := wds_end hdg
    rw [hoff] at hend
    have hwd := wds_at hdg (j := 0) (by omega)
    rw [hoff] at hwd
    have hdl : d.lits.length ≤ 1000000000000 := by omega
    have hr := hd_range d hdl
    have hos := off_succ hdg
    rw [hoff, hoff] at hos
    have next : ∀ {h2 : Heap} {cs2 : List Cl}, J (i + 1) cs2 h2 → Ld (ptr c) (fun t12 h => NilC t12 (fun t13 h => Fld 0 t13 (fun t14 h => Ld t14 (fun t15 h => Bin .int .add (Iv (off cs0 i : Nat)) (.int .i64 0) (fun t17 h => Idx 1 t15 t17 (fun t18 h => Ld t18 (fun t19 h => Bin .int .and t19 (.int .i64 1099511627775) (fun t20 h => Bin .int .add (.int .i64 3) t20 (fun t21 h => Bin .int .add (Iv (off cs0 i : Nat)) t21 (fun t22 h => X y (ptr c) t22 h) h) h) h) h) h) h) h) h) h) h2 := by
      intro h2 cs2 hJ2
      obtain ⟨bc2, ⟨F2, ha2⟩, hlen2, hoff2⟩ := hA (i + 1) cs2 h2 hJ2
      obtain ⟨d2, hd2⟩ : ∃ d2, cs2[i]? = some d2 := ⟨cs2[i]'(by omega), List.getElem?_eq_getElem _⟩
      have hwd2 := wds_at hd2 (j := 0) (by omega)
      rw [hoff2] at hwd2
      have hend2 := wds_end hd2
      have bd2 := ha2.bd
      have hos2 := off_succ hd2
      rw [hoff2, hoff2] at hos2
      obtain ⟨⟨wv, wb, mb, lv, b1, o1, m1, rfl, d1, d2', d3, nd, hm⟩, _, gu⟩ := ha2
      have o1r := o1.rd
      have w2 : At ((wds cs2).map Iv) ((off cs0 i : Nat) + 0 : Int).toNat (Iv (hd d2)) := ⟨by rw [show ((off cs0 i : Nat) + 0 : Int).toNat = off cs0 i + 0 by omega, List.getElem?_map, hwd2]; rfl⟩
      try simp (disch := first | assumption | omega | (apply At.mk; with_unfolding_all rfl)) only [↓go_eq, ↓ent_eq, Mv, NilC_at, Fld_at, add_mk, Nat.zero_add, Nat.add_zero, Add64, Sub64, Mul64, Quo64, Rem64, Neg64, Cvt64, CvtU8, CvtU16, CvtU32, CvtU64, AddU64, SubU64, MulU64, Shr64, Shr_u8, Shr_u16, Shr_u32, Shr_u64, And1, And31, And32, Eql64, Neq64, Bin_lss, Bin_leq, Bin_gtr, Bin_geq, Bin_bool_eql, Bin_bool_neq, Bin_ptr_nil_eql, Bin_ptr_nil_neq, Not_dec, Un_not, Pick_t, Pick_f, Pick_pos, Pick_neg, Gd_tt, Gd_tf, Gd_ft, Gd_ff, Gd_pos_t, Gd_neg_t, Gd_pos_f, Gd_neg_f, Gd_undef, If_t, If_f, If_pos, If_neg, CallF_eq, Max_two, Min_two, Len_rd, Len_own, Ld_blkE, Idx_rdN, Idx_ownN, Idx_rdE, Idx_ownE, IdxAE, LdA_two, Idx_at0, Ext_atE, Len_at, Int.toNat_natCast, Int.toNat_zero, Int.toNat_one, List.length_map, List.length_append, List.length_cons, List.length_nil, List.length_take, List.length_set, List.length_replicate, Bool.not_true, Bool.not_false, decide_true, decide_false, BEq.rfl, bne_self_eq_false, tf_beq, ft_beq, tf_bne, ft_bne, not_true_eq_false, not_false_eq_true, app]
      rw [hd_len (by omega)]
      try simp (disch := first | assumption | omega | (apply At.mk; with_unfolding_all rfl)) only [↓go_eq, ↓ent_eq, Mv, NilC_at, Fld_at, add_mk, Nat.zero_add, Nat.add_zero, Add64, Sub64, Mul64, Quo64, Rem64, Neg64, Cvt64, CvtU8, CvtU16, CvtU32, CvtU64, AddU64, SubU64, MulU64, Shr64, Shr_u8, Shr_u16, Shr_u32, Shr_u64, And1, And31, And32, Eql64, Neq64, Bin_lss, Bin_leq, Bin_gtr, Bin_geq, Bin_bool_eql, Bin_bool_neq, Bin_ptr_nil_eql, Bin_ptr_nil_neq, Not_dec, Un_not, Pick_t, Pick_f, Pick_pos, Pick_neg, Gd_tt, Gd_tf, Gd_ft, Gd_ff, Gd_pos_t, Gd_neg_t, Gd_pos_f, Gd_neg_f, Gd_undef, If_t, If_f, If_pos, If_neg, CallF_eq, Max_two, Min_two, Len_rd, Len_own, Ld_blkE, Idx_rdN, Idx_ownN, Idx_rdE, Idx_ownE, IdxAE, LdA_two, Idx_at0, Ext_atE, Len_at, Int.toNat_natCast, Int.toNat_zero, Int.toNat_one, List.length_map, List.length_append, List.length_cons, List.length_nil, List.length_take, List.length_set, List.length_replicate, Bool.not_true, Bool.not_false, decide_true, decide_false, BEq.rfl, bne_self_eq_false, tf_beq, ft_beq, tf_bne, ft_bne, not_true_eq_false, not_false_eq_true, app]
      have e1 : ((off cs0 i : Nat) : Int) + (3 + (d2.lits.length : Nat)) = (off cs0 (i + 1) : Nat) := by omega
      rw [e1]
      exact hX (i + 1, cs2) h2 ⟨ci, hJ2⟩ (by simp only; omega)
    obtain ⟨⟨wv, wb, mb, lv, b1, o1, m1, rfl, d1, d2', d3, nd, hm⟩, _, gu⟩ := ha
    have o1r := o1.rd
    have hml : ((wds cs).map Iv).length = off cs0 cs0.length := by rw [List.length_map]; exact hwl
    have w1 : At ((wds cs).map Iv) ((off cs0 i : Nat) + 0 : Int).toNat (Iv (hd d)) := ⟨by rw [show ((off cs0 i : Nat) + 0 : Int).toNat = off cs0 i + 0 by omega, List.getElem?_map, hwd]; rfl⟩
    have hlt : ((off cs0 i : Nat) : Int) < (off cs0 cs0.length : Nat) := by omega
    try simp (disch := first | assumption | omega | (apply At.mk; with_unfolding_all rfl)) only [hml, ↓go_eq, ↓ent_eq, Mv, NilC_at, Fld_at, add_mk, Nat.zero_add, Nat.add_zero, Add64, Sub64, Mul64, Quo64, Rem64, Neg64, Cvt64, CvtU8, CvtU16, CvtU32, CvtU64, AddU64, SubU64, MulU64, Shr64, Shr_u8, Shr_u16, Shr_u32, Shr_u64, And1, And31, And32, Eql64, Neq64, Bin_lss, Bin_leq, Bin_gtr, Bin_geq, Bin_bool_eql, Bin_bool_neq, Bin_ptr_nil_eql, Bin_ptr_nil_neq, Not_dec, Un_not, Pick_t, Pick_f, Pick_pos, Pick_neg, Gd_tt, Gd_tf, Gd_ft, Gd_ff, Gd_pos_t, Gd_neg_t, Gd_pos_f, Gd_neg_f, Gd_undef, If_t, If_f, If_pos, If_neg, CallF_eq, Max_two, Min_two, Len_rd, Len_own, Ld_blkE, Idx_rdN, Idx_ownN, Idx_rdE, Idx_ownE, IdxAE, LdA_two, Idx_at0, Ext_atE, Len_at, Int.toNat_natCast, Int.toNat_zero, Int.toNat_one, List.length_map, List.length_append, List.length_cons, List.length_nil, List.length_take, List.length_set, List.length_replicate, Bool.not_true, Bool.not_false, decide_true, decide_false, BEq.rfl, bne_self_eq_false, tf_beq, ft_beq, tf_bne, ft_bne, not_true_eq_false, not_false_eq_true, app]
    rw [hd_gone hdl]
    cases eg : d.gone with
    | true =>
      rw [if_pos rfl, Eql64, decide_eq_false (by decide)]
      have nx := next (hgone i cs h1 d hJk hdg eg)
      try simp (disch := first | assumption | omega | (apply At.mk; with_unfolding_all rfl)) only [↓go_eq, ↓ent_eq, Mv, NilC_at, Fld_at, add_mk, Nat.zero_add, Nat.add_zero, Add64, Sub64, Mul64, Quo64, Rem64, Neg64, Cvt64, CvtU8, CvtU16, CvtU32, CvtU64, AddU64, SubU64, MulU64, Shr64, Shr_u8, Shr_u16, Shr_u32, Shr_u64, And1, And31, And32, Eql64, Neq64, Bin_lss, Bin_leq, Bin_gtr, Bin_geq, Bin_bool_eql, Bin_bool_neq, Bin_ptr_nil_eql, Bin_ptr_nil_neq, Not_dec, Un_not, Pick_t, Pick_f, Pick_pos, Pick_neg, Gd_tt, Gd_tf, Gd_ft, Gd_ff, Gd_pos_t, Gd_neg_t, Gd_pos_f, Gd_neg_f, Gd_undef, If_t, If_f, If_pos, If_neg, CallF_eq, Max_two, Min_two, Len_rd, Len_own, Ld_blkE, Idx_rdN, Idx_ownN, Idx_rdE, Idx_ownE, IdxAE, LdA_two, Idx_at0, Ext_atE, Len_at, Int.toNat_natCast, Int.toNat_zero, Int.toNat_one, List.length_map, List.length_append, List.length_cons, List.length_nil, List.length_take, List.length_set, List.length_replicate, Bool.not_true, Bool.not_false, decide_true, decide_false, BEq.rfl, bne_self_eq_false, tf_beq, ft_beq, tf_bne, ft_bne, not_true_eq_false, not_false_eq_true, app]
      try simp (disch := first | assumption | omega | (apply At.mk; with_unfolding_all rfl)) only [↓go_eq, ↓ent_eq, Mv, NilC_at, Fld_at, add_mk, Nat.zero_add, Nat.add_zero, Add64, Sub64, Mul64, Quo64, Rem64, Neg64, Cvt64, CvtU8, CvtU16, CvtU32, CvtU64, AddU64, SubU64, MulU64, Shr64, Shr_u8, Shr_u16, Shr_u32, Shr_u64, And1, And31, And32, Eql64, Neq64, Bin_lss, Bin_leq, Bin_gtr, Bin_geq, Bin_bool_eql, Bin_bool_neq, Bin_ptr_nil_eql, Bin_ptr_nil_neq, Not_dec, Un_not, Pick_t, Pick_f, Pick_pos, Pick_neg, Gd_tt, Gd_tf, Gd_ft, Gd_ff, Gd_pos_t, Gd_neg_t, Gd_pos_f, Gd_neg_f, Gd_undef, If_t, If_f, If_pos, If_neg, CallF_eq, Max_two, Min_two, Len_rd, Len_own, Ld_blkE, Idx_rdN, Idx_ownN, Idx_rdE, Idx_ownE, IdxAE, LdA_two, Idx_at0, Ext_atE, Len_at, Int.toNat_natCast, Int.toNat_zero, Int.toNat_one, List.length_map, List.length_append, List.length_cons, List.length_nil, List.length_take, List.length_set, List.length_replicate, Bool.not_true, Bool.not_false, decide_true, decide_false, BEq.rfl, bne_self_eq_false, tf_beq, ft_beq, tf_bne, ft_bne, not_true_eq_false, not_false_eq_true, app] at nx
      exact nx
    | false =>
      rw [if_neg (by simp), Eql64, decide_eq_true (by decide)]
      try simp (disch := first | assumption | omega | (apply At.mk; with_unfolding_all rfl)) only [↓go_eq, ↓ent_eq, Mv, NilC_at, Fld_at, add_mk, Nat.zero_add, Nat.add_zero, Add64, Sub64, Mul64, Quo64, Rem64, Neg64, Cvt64, CvtU8, CvtU16, CvtU32, CvtU64, AddU64, SubU64, MulU64, Shr64, Shr_u8, Shr_u16, Shr_u32, Shr_u64, And1, And31, And32, Eql64, Neq64, Bin_lss, Bin_leq, Bin_gtr, Bin_geq, Bin_bool_eql, Bin_bool_neq, Bin_ptr_nil_eql, Bin_ptr_nil_neq, Not_dec, Un_not, Pick_t, Pick_f, Pick_pos, Pick_neg, Gd_tt, Gd_tf, Gd_ft, Gd_ff, Gd_pos_t, Gd_neg_t, Gd_pos_f, Gd_neg_f, Gd_undef, If_t, If_f, If_pos, If_neg, CallF_eq, Max_two, Min_two, Len_rd, Len_own, Ld_blkE, Idx_rdN, Idx_ownN, Idx_rdE, Idx_ownE, IdxAE, LdA_two, Idx_at0, Ext_atE, Len_at, Int.toNat_natCast, Int.toNat_zero, Int.toNat_one, List.length_map, List.length_append, List.length_cons, List.length_nil, List.length_take, List.length_set, List.length_replicate, Bool.not_true, Bool.not_false, decide_true, decide_false, BEq.rfl, bne_self_eq_false, tf_beq, ft_beq, tf_bne, ft_bne, not_true_eq_false, not_false_eq_true, app]
      refine (hy i cs h1 d hJk hdg eg).mono fun v h2 hv => ?_
      rcases hv with ⟨rfl, cs2, hJ2⟩ | ⟨rfl, hE⟩
      · have nx := next hJ2
        try simp (disch := first | assumption | omega | (apply At.mk; with_unfolding_all rfl)) only [↓go_eq, ↓ent_eq, Mv, NilC_at, Fld_at, add_mk, Nat.zero_add, Nat.add_zero, Add64, Sub64, Mul64, Quo64, Rem64, Neg64, Cvt64, CvtU8, CvtU16, CvtU32, CvtU64, AddU64, SubU64, MulU64, Shr64, Shr_u8, Shr_u16, Shr_u32, Shr_u64, And1, And31, And32, Eql64, Neq64, Bin_lss, Bin_leq, Bin_gtr, Bin_geq, Bin_bool_eql, Bin_bool_neq, Bin_ptr_nil_eql, Bin_ptr_nil_neq, Not_dec, Un_not, Pick_t, Pick_f, Pick_pos, Pick_neg, Gd_tt, Gd_tf, Gd_ft, Gd_ff, Gd_pos_t, Gd_neg_t, Gd_pos_f, Gd_neg_f, Gd_undef, If_t, If_f, If_pos, If_neg, CallF_eq, Max_two, Min_two, Len_rd, Len_own, Ld_blkE, Idx_rdN, Idx_ownN, Idx_rdE, Idx_ownE, IdxAE, LdA_two, Idx_at0, Ext_atE, Len_at, Int.toNat_natCast, Int.toNat_zero, Int.toNat_one, List.length_map, List.length_append, List.length_cons, List.length_nil, List.length_take, List.length_set, List.length_replicate, Bool.not_true, Bool.not_false, decide_true, decide_false, BEq.rfl, bne_self_eq_false, tf_beq, ft_beq, tf_bne, ft_bne, not_true_eq_false, not_false_eq_true, app]
        try simp (disch := first | assumption | omega | (apply At.mk; with_unfolding_all rfl)) only [↓go_eq, ↓ent_eq, Mv, NilC_at, Fld_at, add_mk, Nat.zero_add, Nat.add_zero, Add64, Sub64, Mul64, Quo64, Rem64, Neg64, Cvt64, CvtU8, CvtU16, CvtU32, CvtU64, AddU64, SubU64, MulU64, Shr64, Shr_u8, Shr_u16, Shr_u32, Shr_u64, And1, And31, And32, Eql64, Neq64, Bin_lss, Bin_leq, Bin_gtr, Bin_geq, Bin_bool_eql, Bin_bool_neq, Bin_ptr_nil_eql, Bin_ptr_nil_neq, Not_dec, Un_not, Pick_t, Pick_f, Pick_pos, Pick_neg, Gd_tt, Gd_tf, Gd_ft, Gd_ff, Gd_pos_t, Gd_neg_t, Gd_pos_f, Gd_neg_f, Gd_undef, If_t, If_f, If_pos, If_neg, CallF_eq, Max_two, Min_two, Len_rd, Len_own, Ld_blkE, Idx_rdN, Idx_ownN, Idx_rdE, Idx_ownE, IdxAE, LdA_two, Idx_at0, Ext_atE, Len_at, Int.toNat_natCast, Int.toNat_zero, Int.toNat_one, List.length_map, List.length_append, List.length_cons, List.length_nil, List.length_take, List.length_set, List.length_replicate, Bool.not_true, Bool.not_false, decide_true, decide_false, BEq.rfl, bne_self_eq_false, tf_beq, ft_beq, tf_bne, ft_bne, not_true_eq_false, not_false_eq_true, app] at nx
        exact nx
      · try simp (disch := first | assumption | omega | (apply At.mk; with_unfolding_all rfl)) only [↓go_eq, ↓ent_eq, Mv, NilC_at, Fld_at, add_mk, Nat.zero_add, Nat.add_zero, Add64, Sub64, Mul64, Quo64, Rem64, Neg64, Cvt64, CvtU8, CvtU16, CvtU32, CvtU64, AddU64, SubU64, MulU64, Shr64, Shr_u8, Shr_u16, Shr_u32, Shr_u64, And1, And31, And32, Eql64, Neq64, Bin_lss, Bin_leq, Bin_gtr, Bin_geq, Bin_bool_eql, Bin_bool_neq, Bin_ptr_nil_eql, Bin_ptr_nil_neq, Not_dec, Un_not, Pick_t, Pick_f, Pick_pos, Pick_neg, Gd_tt, Gd_tf, Gd_ft, Gd_ff, Gd_pos_t, Gd_neg_t, Gd_pos_f, Gd_neg_f, Gd_undef, If_t, If_f, If_pos, If_neg, CallF_eq, Max_two, Min_two, Len_rd, Len_own, Ld_blkE, Idx_rdN, Idx_ownN, Idx_rdE, Idx_ownE, IdxAE, LdA_two, Idx_at0, Ext_atE, Len_at, Int.toNat_natCast, Int.toNat_zero, Int.toNat_one, List.length_map, List.length_append, List.length_cons, List.length_nil, List.length_take, List.length_set, List.length_replicate, Bool.not_true, Bool.not_false, decide_true, decide_false, BEq.rfl, bne_self_eq_false, tf_beq, ft_beq, tf_bne, ft_bne, not_true_eq_false, not_false_eq_true, app]
        exact .inr hE
  · have ei : i = cs0.length := by omega
    subst ei
    obtain ⟨⟨wv, wb, mb, lv, b1, o1, m1, rfl, d1, d2', d3, nd, hm⟩, _, gu⟩ := ha
    have o1r := o1.rd
    have hml : ((wds cs).map Iv).length = off cs0 cs0.length := by rw [List.length_map]; exact hwl
    have hlt : ¬ ((off cs0 cs0.length : Nat) : Int) < (off cs0 cs0.length : Nat) := by omega
    try simp (disch := first | assumption | omega | (apply At.mk; with_unfolding_all rfl)) only [hml, ↓go_eq, ↓ent_eq, Mv, NilC_at, Fld_at, add_mk, Nat.zero_add, Nat.add_zero, Add64, Sub64, Mul64, Quo64, Rem64, Neg64, Cvt64, CvtU8, CvtU16, CvtU32, CvtU64, AddU64, SubU64, MulU64, Shr64, Shr_u8, Shr_u16, Shr_u32, Shr_u64, And1, And31, And32, Eql64, Neq64, Bin_lss, Bin_leq, Bin_gtr, Bin_geq, Bin_bool_eql, Bin_bool_neq, Bin_ptr_nil_eql, Bin_ptr_nil_neq, Not_dec, Un_not, Pick_t, Pick_f, Pick_pos, Pick_neg, Gd_tt, Gd_tf, Gd_ft, Gd_ff, Gd_pos_t, Gd_neg_t, Gd_pos_f, Gd_neg_f, Gd_undef, If_t, If_f, If_pos, If_neg, CallF_eq, Max_two, Min_two, Len_rd, Len_own, Ld_blkE, Idx_rdN, Idx_ownN, Idx_rdE, Idx_ownE, IdxAE, LdA_two, Idx_at0, Ext_atE, Len_at, Int.toNat_natCast, Int.toNat_zero, Int.toNat_one, List.length_map, List.length_append, List.length_cons, List.length_nil, List.length_take, List.length_set, List.length_replicate, Bool.not_true, Bool.not_false, decide_true, decide_false, BEq.rfl, bne_self_eq_false, tf_beq, ft_beq, tf_bne, ft_bne, not_true_eq_false, not_false_eq_true, app]
    exact .inl ⟨cs, hJk⟩
theorem Rng_All {c : Nat} {cs0 : List Cl} {round : ((Heap → Prop) → Heap → Prop) → (Heap → Prop) → (Ex → Heap → Prop) → Cur 1} {after : Heap → Prop} {left : Ex → Heap → Prop} {h : Heap}
    (J : Nat → List Cl → Heap → Prop) (EJ : Ex → Heap → Prop)
    (hA : ∀ i cs h, J i cs h → Blk h c [ptr g] ∧ (∃ F, ArR h g lim cs F) ∧ cs.length = cs0.length ∧ ∀ k, off cs k = off cs0 k)
    (hgone : ∀ i cs h d, J i cs h → cs[i]? = some d → d.gone = true → J (i + 1) cs h)
    (hJ1 : ∀ i cs l h1 h2, h.size ≤ l → One l h1 h2 → J i cs h1 → J i cs h2) (hE1 : ∀ ex l h1 h2, h.size ≤ l → One l h1 h2 → EJ ex h1 → EJ ex h2)
    (h0 : ∀ h1, Fr [] h h1 → J 0 cs0 h1)
    (hround : ∀ (i : Nat) (d : Cl) (cs : List Cl) (h1 : Heap) (B : (Heap → Prop) → Heap → Prop) (N : Heap → Prop) (L : Ex → Heap → Prop), cs[i]? = some d → d.gone = false → J i cs h1 →
      (∀ X : Heap → Prop, (∀ h2, J i cs h2 → X h2) → B X h1) → (∀ cs' h2, J (i + 1) cs' h2 → N h2) → (∀ ex h2, EJ ex h2 → L ex h2) → round B N L (Iv (off cs0 i : Nat)) h1)
    (hafter : ∀ cs h1, J cs0.length cs h1 → after h1) (hleft : ∀ ex h1, EJ ex h1 → left ex h1) : RngF Try.prog (.func (.func arena_Arena_All_1.id) #[] #[ptr c]) 1 round after left h := by
  refine ⟨⟨by kernel_rfl, ?_⟩⟩
  intro y l h1 Rdy Dn hl hlt hfr hr hst hdn hcall
  have f1 : Fr [] h h1 := ⟨by omega, fun c hc _ => hfr c hc⟩
  have := All_seq (g := g) (lim := lim) (c := c) (cs0 := cs0) y h1 (fun i cs h => Rdy h ∧ J i cs h) (fun h => ∃ ex, Dn ex h ∧ EJ ex h) ⟨hr, h0 _ f1⟩ (fun i cs h hI => hA i cs h hI.2) (fun i cs h d hI hd hg => ⟨hI.1, hgone i cs h d hI.2 hd hg⟩) ?_
  · rw [Array.empty_append]
    refine this.mono ?_
    rintro v h6 (⟨cs, h2, h3⟩ | ⟨ex, h2, h3⟩)
    · exact .inl ⟨h2, fun h7 o => hafter _ _ (hJ1 _ _ _ _ _ hl o h3)⟩
    · exact .inr ⟨ex, h2, fun h7 o => hleft _ _ (hE1 _ _ _ _ hl o h3)⟩
  · rintro i cs h2 d ⟨hr2, hJ2⟩ hd hg
    refine hcall [Iv (off cs0 i : Nat)] _ h2 rfl hr2 ?_
    refine hround i d cs h2 _ _ _ hd hg hJ2 (fun X hX => ⟨hr2, fun h3 o => hX _ (hJ1 _ _ _ _ _ hl o hJ2)⟩) ?_ ?_
    · intro cs' h4 hJ4 h5 o hr5
      exact .inl ⟨rfl, cs', hr5, hJ1 _ _ _ _ _ hl o hJ4⟩
    · intro ex h4 hE4 h5 o hd5
      exact .inr ⟨rfl, ex, hd5, hE1 _ _ _ _ hl o hE4⟩
end
theorem ArR.shut {h h' : Heap} {g N : Nat} {lim : Int} {cs : List Cl} {F : List Nat} (ha : ArR h g lim cs F) (s : Shut N h h') : ArR h' g lim cs F := by
  obtain ⟨⟨wv, wb, mb, lv, h1, h2, h3, rfl, h4⟩, hb, hg⟩ := ha
  exact ⟨⟨wv, wb, mb, lv, h1.shut s, h2.shut s, h3.shut s, rfl, h4⟩, hb, hg⟩
end Go.Proofs.Ythekbpaekopmfaa
