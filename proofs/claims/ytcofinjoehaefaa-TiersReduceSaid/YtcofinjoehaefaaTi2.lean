/- A reduction. Conditions: those typed ahead of each theorem. -/
import Derived.Test.YtcofinjoehaefaaTi
namespace Go.Proofs.Ytcofinjoehaefaa
open Go.Pt
set_option linter.unusedVariables false
set_option linter.unusedSimpArgs false
section
variable {α : Type}
/-- The first i are changed. -/
def chg (f : α → α) (l : List α) (i : Nat) : List α := (l.take i).map f ++ l.drop i
theorem chg_len (f : α → α) (l : List α) (i : Nat) : (chg f l i).length = l.length := by simp [chg]; omega
theorem chg_get (f : α → α) (l : List α) (i q : Nat) : (chg f l i)[q]? = if q < i then l[q]?.map f else l[q]? := by
  unfold chg
  by_cases h : q < i
  · rw [if_pos h]
    by_cases hl : q < l.length
    · rw [List.getElem?_append_left (by simp; omega), List.getElem?_map, List.getElem?_take, if_pos h]
    · rw [List.getElem?_eq_none (by simp; omega), List.getElem?_eq_none (by omega)]; rfl
  · rw [if_neg h]
    by_cases hl : i ≤ l.length
    · rw [List.getElem?_append_right (by simp; omega), List.length_map, List.length_take, Nat.min_eq_left hl, List.getElem?_drop]
      congr 1; omega
    · rw [List.getElem?_eq_none (by simp; omega), List.getElem?_eq_none (by omega)]
theorem chg_zero (f : α → α) (l : List α) : chg f l 0 = l := by simp [chg]
theorem chg_all (f : α → α) (l : List α) : chg f l l.length = l.map f := by simp [chg]
theorem chg_step (f : α → α) {l : List α} {i : Nat} {d : α} (h : (chg f l i)[i]? = some d) : (chg f l i).set i (f d) = chg f l (i + 1) ∧ (f d = d → chg f l i = chg f l (i + 1)) := by
  have e : (chg f l i).set i (f d) = chg f l (i + 1) := by
    have hi : l[i]? = some d := by rw [chg_get, if_neg (by omega)] at h; exact h
    have hl := (List.getElem?_eq_some_iff.1 hi).1
    refine List.ext_getElem? fun q => ?_
    rw [List.getElem?_set, chg_get, chg_get, chg_len]
    by_cases e : i = q
    · subst e; rw [if_pos rfl, if_pos hl, if_pos (by omega), hi]; rfl
    · rw [if_neg e]
      by_cases e2 : q < i
      · rw [if_pos e2, if_pos (by omega)]
      · rw [if_neg e2, if_neg (by omega)]
  exact ⟨e, fun hd => by rw [← e, hd, set_same h]⟩
end
theorem off_chg {f : Cl → Cl} (hf : ∀ c, (f c).lits = c.lits) (cs : List Cl) (i k : Nat) : off (chg f cs i) k = off cs k :=
  off_congr fun j _ => by
    rw [List.getD_eq_getElem?_getD, List.getD_eq_getElem?_getD, chg_get]
    split
    · cases cs[j]? <;> simp [hf]
    · rfl
section
variable (lo hi : Int) (lk : Int → Bool) (cs : List Cl)
/-- Who may go. -/
def goesK (k : Nat) : Bool := match cs[k]? with
  | none => false
  | some c => !c.gone && decide (1 ≤ tierC (some c) lo hi) && decide (c.uses = 0) && !lk (off cs k : Nat)
def mayL (i : Nat) : List Int := ((List.range i).filter (goesK lo hi lk cs)).map fun k => ((off cs k : Nat) : Int)
/-- The clauses after a reduction that takes S away. -/
def redC (S : List Int) : List Cl := (List.range cs.length).map fun k => { useC lo hi (cs.getD k ⟨[], false, 0, 0, true⟩) with gone := (cs.getD k ⟨[], false, 0, 0, true⟩).gone || decide (((off cs k : Nat) : Int) ∈ S) }
end
section
variable {lo hi : Int} {lk : Int → Bool} {cs : List Cl}
theorem mayL_step (i : Nat) : mayL lo hi lk cs (i + 1) = mayL lo hi lk cs i ++ (if goesK lo hi lk cs i then [((off cs i : Nat) : Int)] else []) := by
  unfold mayL
  rw [List.range_succ, List.filter_append, List.map_append]
  congr 1
  cases h : goesK lo hi lk cs i <;> simp [h]
theorem mayL_len (i : Nat) : (mayL lo hi lk cs i).length ≤ i := by
  unfold mayL
  rw [List.length_map]
  exact Nat.le_trans (List.length_filter_le _ _) (by simp)
theorem mayL_mem {i : Nat} {r : Int} : r ∈ mayL lo hi lk cs i ↔ ∃ k, k < i ∧ goesK lo hi lk cs k = true ∧ r = (off cs k : Nat) := by
  unfold mayL
  rw [List.mem_map]
  constructor
  · rintro ⟨k, h, rfl⟩
    rw [List.mem_filter, List.mem_range] at h
    exact ⟨k, h.1, h.2, rfl⟩
  · rintro ⟨k, h1, h2, rfl⟩
    exact ⟨k, List.mem_filter.2 ⟨List.mem_range.2 h1, h2⟩, rfl⟩
theorem mayL_nodup (i : Nat) : (mayL lo hi lk cs i).Nodup := by
  unfold mayL
  rw [List.nodup_iff_pairwise_ne, List.pairwise_map]
  exact (List.pairwise_lt_range.filter _).imp fun {a b} hab e => by
    have := off_lt (cs := cs) hab; omega
theorem redC_len (S : List Int) : (redC lo hi cs S).length = cs.length := by simp [redC]
theorem redC_get (S : List Int) {k : Nat} {c : Cl} (h : cs[k]? = some c) : (redC lo hi cs S)[k]? = some { useC lo hi c with gone := c.gone || decide (((off cs k : Nat) : Int) ∈ S) } := by
  unfold redC
  rw [List.getElem?_map, List.getElem?_range (List.getElem?_eq_some_iff.1 h).1, Option.map_some, List.getD_eq_getElem?_getD, h]; rfl
theorem redC_none (S : List Int) {k : Nat} (h : cs[k]? = none) : (redC lo hi cs S)[k]? = none := by
  rw [List.getElem?_eq_none_iff] at *; rw [redC_len]; exact h
theorem redC_nil : redC lo hi cs [] = chg (useC lo hi) cs cs.length := by
  refine List.ext_getElem? fun q => ?_
  cases e : cs[q]? with
  | none => rw [redC_none [] e, chg_all, List.getElem?_map, e]; rfl
  | some c =>
    rw [redC_get [] e, chg_all, List.getElem?_map, e]
    have : (useC lo hi c).gone = c.gone := useC_gone lo hi c
    simp [← this]
theorem off_redC (S : List Int) (k : Nat) : off (redC lo hi cs S) k = off cs k :=
  off_congr fun j _ => by
    rw [List.getD_eq_getElem?_getD, List.getD_eq_getElem?_getD]
    cases e : cs[j]? with
    | none => rw [redC_none S e]
    | some c => rw [redC_get S e]; show (useC lo hi c).lits.length = _; rw [useC_lits]; rfl
theorem goesK_some {k : Nat} {c : Cl} (h : cs[k]? = some c) : goesK lo hi lk cs k = (!c.gone && decide (1 ≤ tierC (some c) lo hi) && decide (c.uses = 0) && !lk (off cs k : Nat)) := by unfold goesK; rw [h]
theorem redC_drop {S : List Int} {r : Int} {k : Nat} (hg : goesK lo hi lk cs k = true) (hr : r = (off cs k : Nat)) (hS : r ∉ S) :
    ∃ c, (redC lo hi cs S)[k]? = some c ∧ c.gone = false ∧ (redC lo hi cs S).set k { c with gone := true } = redC lo hi cs (S ++ [r]) := by
  cases e : cs[k]? with
  | none => unfold goesK at hg; rw [e] at hg; cases hg
  | some c =>
    rw [goesK_some e] at hg
    simp only [Bool.and_eq_true, Bool.not_eq_true'] at hg
    refine ⟨_, redC_get S e, ?_, ?_⟩
    · show (c.gone || _) = false
      rw [hg.1.1.1, ← hr, decide_eq_false hS]; rfl
    · refine List.ext_getElem? fun q => ?_
      rw [List.getElem?_set, redC_len]
      by_cases eq : k = q
      · subst eq
        rw [if_pos rfl, if_pos (List.getElem?_eq_some_iff.1 e).1, redC_get _ e, decide_eq_true (show ((off cs k : Nat) : Int) ∈ S ++ [r] by rw [hr]; simp), Bool.or_true]
      · rw [if_neg eq]
        cases e2 : cs[q]? with
        | none => rw [redC_none _ e2, redC_none _ e2]
        | some d =>
          rw [redC_get _ e2, redC_get _ e2]
          have : (((off cs q : Nat) : Int) ∈ S ++ [r]) ↔ (((off cs q : Nat) : Int) ∈ S) := by
            rw [List.mem_append, List.mem_singleton]
            refine ⟨fun h => h.elim id fun h => ?_, .inl⟩
            exact absurd (off_inj (cs := cs) (show off cs k = off cs q by omega)) eq
          rw [decide_eq_decide.2 this]
end
theorem Bin_slice_none {K : Ret} {h : Heap} (n c : Nat) : Bin .slice .eql (.slice none n c) (.slice none 0 0) K h = K (.bool true) h := by rw [Bin_eq]; simp [binV, eqV]
theorem Bin_slice_some {K : Ret} {h : Heap} (a : Addr) (n c : Nat) : Bin .slice .eql (.slice (some a) n c) (.slice none 0 0) K h = K (.bool false) h := by rw [Bin_eq]; simp [binV, eqV]
theorem Bld0_own {K : Ret} {h : Heap} {el : TypeId} (hk : ∀ h', Own h' (.slice (some ⟨h.size, 0, none⟩) 0 0) [] [h.size] → Fr [] h h' → h'.size = h.size + 1 → K (.slice (some ⟨h.size, 0, none⟩) 0 0) h') : Bld0 el K h :=
  ⟨hk _ (Own.of_blk (Blk.push h #[] el)) (Fr.push h _) (by simp)⟩
theorem slices_Clone_int_int.spec {v : Value} {c : List Int} (hl : c.length ≤ 1000000) {K : Ret} {h : Heap} (hv : Rd h v (c.map Iv)) (hk : ∀ v' bs h', Own h' v' (c.map Iv) bs → (∀ b ∈ bs, h.size ≤ b) → Fr [] h h' → K v' h') : CallH Try.prog slices_Clone_int_int.id #[v] K h := by
  refine slices_Clone_int_int.ok ?_
  simp only [slices_Clone_int_int.pt]
  have hv0 := hv
  obtain ⟨a, cap, rfl, hcap, hc⟩ := hv
  cases a with
  | none =>
    have : c = [] := by
      cases c with
      | nil => rfl
      | cons x xs => obtain ⟨ad, e, _⟩ := hc 0 _ rfl; cases e
    subst this
    rw [go_eq, Bin_slice_none, If_t]
    exact hk _ [] h (Own.nil h) (by simp) (Fr.refl _ _)
  | some a =>
    rw [go_eq, Bin_slice_some, If_f, go_eq]
    refine Bld0_own fun h1 o1 f1 s1 => ?_
    rw [go_eq]
    refine o1.app (hv0.fr f1) rfl rfl (fun x hx => by obtain ⟨y, _, rfl⟩ := List.mem_map.1 hx; rfl) (by simp; omega) (by simp; omega) fun v' h2 bs o2 f2 hb s2 => ?_
    exact hk v' bs h2 (by simpa using o2) (fun b hm => by rcases hb b hm with x | x; simp at x; omega; omega) (f1.trans' f2 (by simp))
structure RJ (g : Nat) (lim lo hi : Int) (lv : Value) (lk : Int → Bool) (cs : List Cl) (F : List Nat) (H : Heap) (M c t4 t5 t6 t7 t9 i : Nat) (h : Heap) : Prop where
  bc : Blk h c [ptr g]
  ar : ArR h g lim (chg (useC lo hi) cs i) F
  b4 : Blk h t4 [ptr g]
  b5 : Blk h t5 [lv]
  b6 : Blk h t6 [Iv lo]
  b7 : Blk h t7 [Iv hi]
  b9 : ∃ v bs, Blk h t9 [v] ∧ Own h v ((mayL lo hi lk cs i).map Iv) bs ∧ ∀ b ∈ bs, M ≤ b
  fr : Fr F H h
  sz : M ≤ h.size
section
variable {g : Nat} {lim : Int} {cs : List Cl} {F : List Nat} {r : Int} {K : Ret} {h : Heap}
set_option maxHeartbeats 4000000 in
theorem tiers_Reduce.spec {lo hi : Int} {lv : Value} {lk : Int → Bool} (ha : ArR h g lim cs F) (hn : cs.length ≤ 1000000) (hs : lv.cells = #[lv])
    (hlk : ∀ (k : Nat) (K : Ret) (h' : Heap), k < cs.length → Fr F h h' → K (.bool (lk (off cs k : Nat))) h' → CallV Try.prog lv [Iv (off cs k : Nat)] K h')
    (hk : ∀ v bs h' (ys : List Int), Own h' v ((ys.take (ys.length / 2)).map Iv) bs → (∀ b ∈ bs, h.size ≤ b) → ys.Perm (mayL lo hi lk cs cs.length) →
      ys.Pairwise (fun x y => ¬ WorseL (fun r => glueO (clAt (chg (useC lo hi) cs cs.length) r)) (fun r => (lenO (clAt (chg (useC lo hi) cs cs.length) r) : Nat)) y x) →
      ArR h' g lim (redC lo hi cs (ys.take (ys.length / 2))) F → Fr F h h' → K v h') :
    CallH Try.prog tiers_Reduce.id #[ptr g, lv, Iv lo, Iv hi] K h := by
  refine tiers_Reduce.ok ?_
  simp only [tiers_Reduce.pt]
  have hF := ha.lt
  have hoff : ∀ i k, off (chg (useC lo hi) cs i) k = off cs k := fun i k => off_chg (useC_lits lo hi) cs i k
  rw [ent_eq, go_eq]
  refine New_blk fun h1 c1 f1 s1 => ?_
  have c1 : Blk h1 h.size [ptr g] := c1
  rw [go_eq]
  refine New_blk fun h2 c2 f2 s2 => ?_
  have c2 : Blk h2 h1.size [lv] := by rw [hs] at c2; exact c2
  rw [go_eq]
  refine New_blk fun h3 c3 f3 s3 => ?_
  have c3 : Blk h3 h2.size [Iv lo] := c3
  rw [go_eq]
  refine New_blk fun h4 c4 f4 s4 => ?_
  have c4 : Blk h4 h3.size [Iv hi] := c4
  rw [go_eq]
  refine New_blk fun h5 c5 f5 s5 => ?_
  have c5 : Blk h5 h4.size [nilS] := c5
  have b4 : Blk h5 h.size [ptr g] := (((c1.fr f2 (by simp)).fr f3 (by simp)).fr f4 (by simp)).fr f5 (by simp)
  have b5 : Blk h5 h1.size [lv] := ((c2.fr f3 (by simp)).fr f4 (by simp)).fr f5 (by simp)
  have b6 : Blk h5 h2.size [Iv lo] := (c3.fr f4 (by simp)).fr f5 (by simp)
  have b7 : Blk h5 h3.size [Iv hi] := c4.fr f5 (by simp)
  have f05 : Fr [] h h5 := (((f1.trans f2).trans f3).trans f4).trans f5
  have ar5 := ha.fr f05 (by simp)
  have z05 : h.size < h1.size ∧ h1.size < h2.size ∧ h2.size < h3.size ∧ h3.size < h4.size ∧ h4.size < h5.size := by omega
  clear c1 c2 c3 c4 f1 f2 f3 f4 f5 s1 s2 s3 s4 s5
  generalize h1.size = t5 at *
  generalize h2.size = t6 at *
  generalize h3.size = t7 at *
  generalize h4.size = t9 at *
  refine Jn_fn (σ := Nat × Nat) (fun _ => [ptr h.size, ptr t9]) (fun x h' => h5.size ≤ x.2 ∧ RJ g lim lo hi lv lk cs F h x.2 x.1 h.size t5 t6 t7 t9 cs.length h') ?_ ?_
  · intro J hJ
    try simp (disch := first | assumption | omega | (apply At.mk; with_unfolding_all rfl)) only [↓go_eq, ↓ent_eq, Mv, NilC_at, Fld_at, add_mk, Nat.zero_add, Nat.add_zero, Add64, Sub64, Mul64, Quo64, Rem64, Neg64, Cvt64, CvtU8, CvtU16, CvtU32, CvtU64, AddU64, SubU64, MulU64, Shr64, Shr_u8, Shr_u16, Shr_u32, Shr_u64, And1, And31, And32, Eql64, Neq64, Bin_lss, Bin_leq, Bin_gtr, Bin_geq, Bin_bool_eql, Bin_bool_neq, Bin_ptr_nil_eql, Bin_ptr_nil_neq, Not_dec, Un_not, Pick_t, Pick_f, Pick_pos, Pick_neg, Gd_tt, Gd_tf, Gd_ft, Gd_ff, Gd_pos_t, Gd_neg_t, Gd_pos_f, Gd_neg_f, Gd_undef, If_t, If_f, If_pos, If_neg, CallF_eq, Max_two, Min_two, Len_rd, Len_own, Ld_blkE, Idx_rdN, Idx_ownN, Idx_rdE, Idx_ownE, IdxAE, LdA_two, Idx_at0, Ext_atE, Len_at, Int.toNat_natCast, Int.toNat_zero, Int.toNat_one, List.length_map, List.length_append, List.length_cons, List.length_nil, List.length_take, List.length_set, List.length_replicate, Bool.not_true, Bool.not_false, decide_true, decide_false, BEq.rfl, bne_self_eq_false, tf_beq, ft_beq, tf_bne, ft_bne, not_true_eq_false, not_false_eq_true, app]
    refine arena_Arena_All.spec fun c h9 bc f9 hc => ?_
    try simp (disch := first | assumption | omega | (apply At.mk; with_unfolding_all rfl)) only [↓go_eq, ↓ent_eq, Mv, NilC_at, Fld_at, add_mk, Nat.zero_add, Nat.add_zero, Add64, Sub64, Mul64, Quo64, Rem64, Neg64, Cvt64, CvtU8, CvtU16, CvtU32, CvtU64, AddU64, SubU64, MulU64, Shr64, Shr_u8, Shr_u16, Shr_u32, Shr_u64, And1, And31, And32, Eql64, Neq64, Bin_lss, Bin_leq, Bin_gtr, Bin_geq, Bin_bool_eql, Bin_bool_neq, Bin_ptr_nil_eql, Bin_ptr_nil_neq, Not_dec, Un_not, Pick_t, Pick_f, Pick_pos, Pick_neg, Gd_tt, Gd_tf, Gd_ft, Gd_ff, Gd_pos_t, Gd_neg_t, Gd_pos_f, Gd_neg_f, Gd_undef, If_t, If_f, If_pos, If_neg, CallF_eq, Max_two, Min_two, Len_rd, Len_own, Ld_blkE, Idx_rdN, Idx_ownN, Idx_rdE, Idx_ownE, IdxAE, LdA_two, Idx_at0, Ext_atE, Len_at, Int.toNat_natCast, Int.toNat_zero, Int.toNat_one, List.length_map, List.length_append, List.length_cons, List.length_nil, List.length_take, List.length_set, List.length_replicate, Bool.not_true, Bool.not_false, decide_true, decide_false, BEq.rfl, bne_self_eq_false, tf_beq, ft_beq, tf_bne, ft_bne, not_true_eq_false, not_false_eq_true, app]
    have z9 := f9.size
    have hcl := bc.lt
    refine Rng_All (g := g) (lim := lim) (cs0 := cs) (fun i cs' h' => cs' = chg (useC lo hi) cs i ∧ i ≤ cs.length ∧ RJ g lim lo hi lv lk cs F h h9.size c h.size t5 t6 t7 t9 i h') (fun _ _ => False) ?_ ?_ ?_ ?_ ?_ ?_ ?_ ?_
    · rintro i cs' h' ⟨rfl, _, j⟩
      exact ⟨j.bc, ⟨F, j.ar⟩, chg_len _ _ _, hoff i⟩
    · rintro i cs' h' d ⟨rfl, hi', j⟩ hd hg
      have hst := (chg_step _ hd).2 (by unfold useC; rw [if_neg (by rw [hg]; simp)])
      have hil := (List.getElem?_eq_some_iff.1 hd).1
      rw [chg_len] at hil
      have hdo : cs[i]? = some d := by rw [chg_get, if_neg (by omega)] at hd; exact hd
      have hno : goesK lo hi lk cs i = false := by rw [goesK_some hdo, hg]; rfl
      refine ⟨hst, by omega, ⟨j.bc, hst ▸ j.ar, j.b4, j.b5, j.b6, j.b7, ?_, j.fr, j.sz⟩⟩
      rw [mayL_step, hno, if_neg (by simp), List.append_nil]; exact j.b9
    · rintro i cs' l h' h'' hl o ⟨rfl, hi', ⟨q1, q2, q3, q4, q5, q6, ⟨v, bs, q8, q9, q10⟩, q11, q12⟩⟩
      have zo := o.size
      exact ⟨rfl, hi', ⟨q1.one o, q2.one o, q3.one o, q4.one o, q5.one o, q6.one o, ⟨v, bs, q8.one o, q9.one o, q10⟩, q11.one o (by omega), by omega⟩⟩
    · rintro ex l h' h'' hl o hx; exact hx.elim
    · intro h10 f10
      have f := f9.trans f10
      exact ⟨(chg_zero _ _).symm, Nat.zero_le _, ⟨bc.fr f10 (by simp), by rw [chg_zero]; exact ar5.fr f (by simp), b4.fr f (by simp), b5.fr f (by simp), b6.fr f (by simp), b7.fr f (by simp), ⟨nilS, [], c5.fr f (by simp), Own.nil _, by simp⟩, (f05.trans f).mono (by simp), f10.size⟩⟩
    · rintro i d cs' h10 B N L hd hg ⟨rfl, hi', j10⟩ hB hN hL
      refine hB _ fun h11 => ?_
      rintro ⟨-, -, ⟨q1, q2, q3, q4, q5, q6, ⟨v, bs, q8, q9, q10⟩, q11, q12⟩⟩
      have hil := (List.getElem?_eq_some_iff.1 hd).1
      rw [chg_len] at hil
      have hdo : cs[i]? = some d := by rw [chg_get, if_neg (by omega)] at hd; exact hd
      have hcA := clAt_live hd hg
      rw [hoff] at hcA
      have hbs : ∀ b, b < h9.size → b ∉ bs := fun b hb hm => by have := q10 b hm; omega
      have hgk := goesK_some (lo := lo) (hi := hi) (lk := lk) hdo
      rw [hg] at hgk
      have hrg := tierC_rng (some d) lo hi
      try simp (disch := first | assumption | omega | (apply At.mk; with_unfolding_all rfl)) only [↓go_eq, ↓ent_eq, Mv, NilC_at, Fld_at, add_mk, Nat.zero_add, Nat.add_zero, Add64, Sub64, Mul64, Quo64, Rem64, Neg64, Cvt64, CvtU8, CvtU16, CvtU32, CvtU64, AddU64, SubU64, MulU64, Shr64, Shr_u8, Shr_u16, Shr_u32, Shr_u64, And1, And31, And32, Eql64, Neq64, Bin_lss, Bin_leq, Bin_gtr, Bin_geq, Bin_bool_eql, Bin_bool_neq, Bin_ptr_nil_eql, Bin_ptr_nil_neq, Not_dec, Un_not, Pick_t, Pick_f, Pick_pos, Pick_neg, Gd_tt, Gd_tf, Gd_ft, Gd_ff, Gd_pos_t, Gd_neg_t, Gd_pos_f, Gd_neg_f, Gd_undef, If_t, If_f, If_pos, If_neg, CallF_eq, Max_two, Min_two, Len_rd, Len_own, Ld_blkE, Idx_rdN, Idx_ownN, Idx_rdE, Idx_ownE, IdxAE, LdA_two, Idx_at0, Ext_atE, Len_at, Int.toNat_natCast, Int.toNat_zero, Int.toNat_one, List.length_map, List.length_append, List.length_cons, List.length_nil, List.length_take, List.length_set, List.length_replicate, Bool.not_true, Bool.not_false, decide_true, decide_false, BEq.rfl, bne_self_eq_false, tf_beq, ft_beq, tf_bne, ft_bne, not_true_eq_false, not_false_eq_true, app]
      refine tier_q q2 ?_
      rw [hcA]
      by_cases ct : tierC (some d) lo hi ≥ 0
      · try simp (disch := first | assumption | omega | (apply At.mk; with_unfolding_all rfl)) only [↓go_eq, ↓ent_eq, Mv, NilC_at, Fld_at, add_mk, Nat.zero_add, Nat.add_zero, Add64, Sub64, Mul64, Quo64, Rem64, Neg64, Cvt64, CvtU8, CvtU16, CvtU32, CvtU64, AddU64, SubU64, MulU64, Shr64, Shr_u8, Shr_u16, Shr_u32, Shr_u64, And1, And31, And32, Eql64, Neq64, Bin_lss, Bin_leq, Bin_gtr, Bin_geq, Bin_bool_eql, Bin_bool_neq, Bin_ptr_nil_eql, Bin_ptr_nil_neq, Not_dec, Un_not, Pick_t, Pick_f, Pick_pos, Pick_neg, Gd_tt, Gd_tf, Gd_ft, Gd_ff, Gd_pos_t, Gd_neg_t, Gd_pos_f, Gd_neg_f, Gd_undef, If_t, If_f, If_pos, If_neg, CallF_eq, Max_two, Min_two, Len_rd, Len_own, Ld_blkE, Idx_rdN, Idx_ownN, Idx_rdE, Idx_ownE, IdxAE, LdA_two, Idx_at0, Ext_atE, Len_at, Int.toNat_natCast, Int.toNat_zero, Int.toNat_one, List.length_map, List.length_append, List.length_cons, List.length_nil, List.length_take, List.length_set, List.length_replicate, Bool.not_true, Bool.not_false, decide_true, decide_false, BEq.rfl, bne_self_eq_false, tf_beq, ft_beq, tf_bne, ft_bne, not_true_eq_false, not_false_eq_true, app]
        have hsp := fun Q : Ret => tiers_spared.spec (K := Q) (lo := lo) (hi := hi) q2 hd hg ct
        rw [hoff] at hsp
        refine hsp _ fun h12 a12 f12 s12 => ?_
        rw [(chg_step _ hd).1] at a12
        have p1 := q1.fr f12 (by intro hm; have := hF _ hm; omega)
        have p3 := q3.fr f12 (by intro hm; have := hF _ hm; omega)
        have p4 := q4.fr f12 (by intro hm; have := hF _ hm; omega)
        have p5 := q5.fr f12 (by intro hm; have := hF _ hm; omega)
        have p6 := q6.fr f12 (by intro hm; have := hF _ hm; omega)
        have p8 := q8.fr f12 (by intro hm; have := hF _ hm; omega)
        have p9 := q9.fr f12 (by intro b hb hm; have := hF _ hm; have := q10 b hb; omega)
        have p11 := q11.trans f12
        have stay : goesK lo hi lk cs i = false → N h12 := fun hno => by
          refine hN _ h12 ⟨rfl, by omega, ⟨p1, a12, p3, p4, p5, p6, ⟨v, bs, p8, ?_, q10⟩, p11, by omega⟩⟩
          rw [mayL_step, hno, if_neg (by simp), List.append_nil]; exact p9
        by_cases cb : tierC (some d) lo hi = 0 ∨ d.uses ≠ 0
        · rw [decide_eq_true cb]
          try simp (disch := first | assumption | omega | (apply At.mk; with_unfolding_all rfl)) only [↓go_eq, ↓ent_eq, Mv, NilC_at, Fld_at, add_mk, Nat.zero_add, Nat.add_zero, Add64, Sub64, Mul64, Quo64, Rem64, Neg64, Cvt64, CvtU8, CvtU16, CvtU32, CvtU64, AddU64, SubU64, MulU64, Shr64, Shr_u8, Shr_u16, Shr_u32, Shr_u64, And1, And31, And32, Eql64, Neq64, Bin_lss, Bin_leq, Bin_gtr, Bin_geq, Bin_bool_eql, Bin_bool_neq, Bin_ptr_nil_eql, Bin_ptr_nil_neq, Not_dec, Un_not, Pick_t, Pick_f, Pick_pos, Pick_neg, Gd_tt, Gd_tf, Gd_ft, Gd_ff, Gd_pos_t, Gd_neg_t, Gd_pos_f, Gd_neg_f, Gd_undef, If_t, If_f, If_pos, If_neg, CallF_eq, Max_two, Min_two, Len_rd, Len_own, Ld_blkE, Idx_rdN, Idx_ownN, Idx_rdE, Idx_ownE, IdxAE, LdA_two, Idx_at0, Ext_atE, Len_at, Int.toNat_natCast, Int.toNat_zero, Int.toNat_one, List.length_map, List.length_append, List.length_cons, List.length_nil, List.length_take, List.length_set, List.length_replicate, Bool.not_true, Bool.not_false, decide_true, decide_false, BEq.rfl, bne_self_eq_false, tf_beq, ft_beq, tf_bne, ft_bne, not_true_eq_false, not_false_eq_true, app]
          refine stay ?_
          rw [hgk]
          rcases cb with c | c
          · rw [c]; simp
          · rw [decide_eq_false c]; simp
        · rw [decide_eq_false cb]
          simp only [not_or, Decidable.not_not] at cb
          try simp (disch := first | assumption | omega | (apply At.mk; with_unfolding_all rfl)) only [↓go_eq, ↓ent_eq, Mv, NilC_at, Fld_at, add_mk, Nat.zero_add, Nat.add_zero, Add64, Sub64, Mul64, Quo64, Rem64, Neg64, Cvt64, CvtU8, CvtU16, CvtU32, CvtU64, AddU64, SubU64, MulU64, Shr64, Shr_u8, Shr_u16, Shr_u32, Shr_u64, And1, And31, And32, Eql64, Neq64, Bin_lss, Bin_leq, Bin_gtr, Bin_geq, Bin_bool_eql, Bin_bool_neq, Bin_ptr_nil_eql, Bin_ptr_nil_neq, Not_dec, Un_not, Pick_t, Pick_f, Pick_pos, Pick_neg, Gd_tt, Gd_tf, Gd_ft, Gd_ff, Gd_pos_t, Gd_neg_t, Gd_pos_f, Gd_neg_f, Gd_undef, If_t, If_f, If_pos, If_neg, CallF_eq, Max_two, Min_two, Len_rd, Len_own, Ld_blkE, Idx_rdN, Idx_ownN, Idx_rdE, Idx_ownE, IdxAE, LdA_two, Idx_at0, Ext_atE, Len_at, Int.toNat_natCast, Int.toNat_zero, Int.toNat_one, List.length_map, List.length_append, List.length_cons, List.length_nil, List.length_take, List.length_set, List.length_replicate, Bool.not_true, Bool.not_false, decide_true, decide_false, BEq.rfl, bne_self_eq_false, tf_beq, ft_beq, tf_bne, ft_bne, not_true_eq_false, not_false_eq_true, app]
          refine hlk i _ _ hil p11 ?_
          cases cl : lk (off cs i : Nat) with
          | true =>
            try simp (disch := first | assumption | omega | (apply At.mk; with_unfolding_all rfl)) only [↓go_eq, ↓ent_eq, Mv, NilC_at, Fld_at, add_mk, Nat.zero_add, Nat.add_zero, Add64, Sub64, Mul64, Quo64, Rem64, Neg64, Cvt64, CvtU8, CvtU16, CvtU32, CvtU64, AddU64, SubU64, MulU64, Shr64, Shr_u8, Shr_u16, Shr_u32, Shr_u64, And1, And31, And32, Eql64, Neq64, Bin_lss, Bin_leq, Bin_gtr, Bin_geq, Bin_bool_eql, Bin_bool_neq, Bin_ptr_nil_eql, Bin_ptr_nil_neq, Not_dec, Un_not, Pick_t, Pick_f, Pick_pos, Pick_neg, Gd_tt, Gd_tf, Gd_ft, Gd_ff, Gd_pos_t, Gd_neg_t, Gd_pos_f, Gd_neg_f, Gd_undef, If_t, If_f, If_pos, If_neg, CallF_eq, Max_two, Min_two, Len_rd, Len_own, Ld_blkE, Idx_rdN, Idx_ownN, Idx_rdE, Idx_ownE, IdxAE, LdA_two, Idx_at0, Ext_atE, Len_at, Int.toNat_natCast, Int.toNat_zero, Int.toNat_one, List.length_map, List.length_append, List.length_cons, List.length_nil, List.length_take, List.length_set, List.length_replicate, Bool.not_true, Bool.not_false, decide_true, decide_false, BEq.rfl, bne_self_eq_false, tf_beq, ft_beq, tf_bne, ft_bne, not_true_eq_false, not_false_eq_true, app]
            refine stay ?_
            rw [hgk, cl]; simp
          | false =>
            have hyes : goesK lo hi lk cs i = true := by rw [hgk, cl, decide_eq_true (show 1 ≤ tierC (some d) lo hi by omega), decide_eq_true cb.2]; rfl
            have hml := mayL_len (lo := lo) (hi := hi) (lk := lk) (cs := cs) i
            try simp (disch := first | assumption | omega | (apply At.mk; with_unfolding_all rfl)) only [↓go_eq, ↓ent_eq, Mv, NilC_at, Fld_at, add_mk, Nat.zero_add, Nat.add_zero, Add64, Sub64, Mul64, Quo64, Rem64, Neg64, Cvt64, CvtU8, CvtU16, CvtU32, CvtU64, AddU64, SubU64, MulU64, Shr64, Shr_u8, Shr_u16, Shr_u32, Shr_u64, And1, And31, And32, Eql64, Neq64, Bin_lss, Bin_leq, Bin_gtr, Bin_geq, Bin_bool_eql, Bin_bool_neq, Bin_ptr_nil_eql, Bin_ptr_nil_neq, Not_dec, Un_not, Pick_t, Pick_f, Pick_pos, Pick_neg, Gd_tt, Gd_tf, Gd_ft, Gd_ff, Gd_pos_t, Gd_neg_t, Gd_pos_f, Gd_neg_f, Gd_undef, If_t, If_f, If_pos, If_neg, CallF_eq, Max_two, Min_two, Len_rd, Len_own, Ld_blkE, Idx_rdN, Idx_ownN, Idx_rdE, Idx_ownE, IdxAE, LdA_two, Idx_at0, Ext_atE, Len_at, Int.toNat_natCast, Int.toNat_zero, Int.toNat_one, List.length_map, List.length_append, List.length_cons, List.length_nil, List.length_take, List.length_set, List.length_replicate, Bool.not_true, Bool.not_false, decide_true, decide_false, BEq.rfl, bne_self_eq_false, tf_beq, ft_beq, tf_bne, ft_bne, not_true_eq_false, not_false_eq_true, app]
            refine p9.app1 rfl rfl rfl (by rw [List.length_map]; omega) (by rw [List.length_map]; omega) fun v2 h13 bs2 o13 f13 hb13 => ?_
            have z13 := f13.size
            have hb13' : ∀ b ∈ bs2, h9.size ≤ b := fun b hb => by rcases hb13 b hb with q | q; exact q10 b q; omega
            have p8' := p8.fr f13 (hbs _ (by omega))
            try simp (disch := first | assumption | omega | (apply At.mk; with_unfolding_all rfl)) only [↓go_eq, ↓ent_eq, Mv, NilC_at, Fld_at, add_mk, Nat.zero_add, Nat.add_zero, Add64, Sub64, Mul64, Quo64, Rem64, Neg64, Cvt64, CvtU8, CvtU16, CvtU32, CvtU64, AddU64, SubU64, MulU64, Shr64, Shr_u8, Shr_u16, Shr_u32, Shr_u64, And1, And31, And32, Eql64, Neq64, Bin_lss, Bin_leq, Bin_gtr, Bin_geq, Bin_bool_eql, Bin_bool_neq, Bin_ptr_nil_eql, Bin_ptr_nil_neq, Not_dec, Un_not, Pick_t, Pick_f, Pick_pos, Pick_neg, Gd_tt, Gd_tf, Gd_ft, Gd_ff, Gd_pos_t, Gd_neg_t, Gd_pos_f, Gd_neg_f, Gd_undef, If_t, If_f, If_pos, If_neg, CallF_eq, Max_two, Min_two, Len_rd, Len_own, Ld_blkE, Idx_rdN, Idx_ownN, Idx_rdE, Idx_ownE, IdxAE, LdA_two, Idx_at0, Ext_atE, Len_at, Int.toNat_natCast, Int.toNat_zero, Int.toNat_one, List.length_map, List.length_append, List.length_cons, List.length_nil, List.length_take, List.length_set, List.length_replicate, Bool.not_true, Bool.not_false, decide_true, decide_false, BEq.rfl, bne_self_eq_false, tf_beq, ft_beq, tf_bne, ft_bne, not_true_eq_false, not_false_eq_true, app]
            refine St_blk p8' (by simp) o13.rd.isCell fun h14 b14 f14 => ?_
            have z14 := f14.size
            try simp (disch := first | assumption | omega | (apply At.mk; with_unfolding_all rfl)) only [↓go_eq, ↓ent_eq, Mv, NilC_at, Fld_at, add_mk, Nat.zero_add, Nat.add_zero, Add64, Sub64, Mul64, Quo64, Rem64, Neg64, Cvt64, CvtU8, CvtU16, CvtU32, CvtU64, AddU64, SubU64, MulU64, Shr64, Shr_u8, Shr_u16, Shr_u32, Shr_u64, And1, And31, And32, Eql64, Neq64, Bin_lss, Bin_leq, Bin_gtr, Bin_geq, Bin_bool_eql, Bin_bool_neq, Bin_ptr_nil_eql, Bin_ptr_nil_neq, Not_dec, Un_not, Pick_t, Pick_f, Pick_pos, Pick_neg, Gd_tt, Gd_tf, Gd_ft, Gd_ff, Gd_pos_t, Gd_neg_t, Gd_pos_f, Gd_neg_f, Gd_undef, If_t, If_f, If_pos, If_neg, CallF_eq, Max_two, Min_two, Len_rd, Len_own, Ld_blkE, Idx_rdN, Idx_ownN, Idx_rdE, Idx_ownE, IdxAE, LdA_two, Idx_at0, Ext_atE, Len_at, Int.toNat_natCast, Int.toNat_zero, Int.toNat_one, List.length_map, List.length_append, List.length_cons, List.length_nil, List.length_take, List.length_set, List.length_replicate, Bool.not_true, Bool.not_false, decide_true, decide_false, BEq.rfl, bne_self_eq_false, tf_beq, ft_beq, tf_bne, ft_bne, not_true_eq_false, not_false_eq_true, app]
            refine hN _ h14 ⟨rfl, by omega, ⟨(p1.fr f13 (hbs _ (by omega))).fr f14 (by simp; omega), (a12.fr f13 (fun b hb => hbs b (by have := hF b hb; omega))).fr f14 (by intro b hb; simp; intro e; have := hF b hb; omega), (p3.fr f13 (hbs _ (by omega))).fr f14 (by simp; omega), (p4.fr f13 (hbs _ (by omega))).fr f14 (by simp; omega), (p5.fr f13 (hbs _ (by omega))).fr f14 (by simp; omega), (p6.fr f13 (hbs _ (by omega))).fr f14 (by simp; omega), ⟨v2, bs2, b14, ?_, hb13'⟩, (p11.trans' f13 (fun b hb => .inr (by have := q10 b hb; omega))).trans' f14 (by simp; omega), by omega⟩⟩
            rw [mayL_step, hyes, if_pos rfl, List.map_append]
            exact o13.fr f14 (by intro b hb; simp; intro e; have := hb13' b hb; omega)
      · try simp (disch := first | assumption | omega | (apply At.mk; with_unfolding_all rfl)) only [↓go_eq, ↓ent_eq, Mv, NilC_at, Fld_at, add_mk, Nat.zero_add, Nat.add_zero, Add64, Sub64, Mul64, Quo64, Rem64, Neg64, Cvt64, CvtU8, CvtU16, CvtU32, CvtU64, AddU64, SubU64, MulU64, Shr64, Shr_u8, Shr_u16, Shr_u32, Shr_u64, And1, And31, And32, Eql64, Neq64, Bin_lss, Bin_leq, Bin_gtr, Bin_geq, Bin_bool_eql, Bin_bool_neq, Bin_ptr_nil_eql, Bin_ptr_nil_neq, Not_dec, Un_not, Pick_t, Pick_f, Pick_pos, Pick_neg, Gd_tt, Gd_tf, Gd_ft, Gd_ff, Gd_pos_t, Gd_neg_t, Gd_pos_f, Gd_neg_f, Gd_undef, If_t, If_f, If_pos, If_neg, CallF_eq, Max_two, Min_two, Len_rd, Len_own, Ld_blkE, Idx_rdN, Idx_ownN, Idx_rdE, Idx_ownE, IdxAE, LdA_two, Idx_at0, Ext_atE, Len_at, Int.toNat_natCast, Int.toNat_zero, Int.toNat_one, List.length_map, List.length_append, List.length_cons, List.length_nil, List.length_take, List.length_set, List.length_replicate, Bool.not_true, Bool.not_false, decide_true, decide_false, BEq.rfl, bne_self_eq_false, tf_beq, ft_beq, tf_bne, ft_bne, not_true_eq_false, not_false_eq_true, app]
        have hst := (chg_step _ hd).2 (by unfold useC; rw [if_neg (by omega)])
        refine hN _ h11 ⟨hst, by omega, ⟨q1, hst ▸ q2, q3, q4, q5, q6, ⟨v, bs, q8, ?_, q10⟩, q11, q12⟩⟩
        have hno : goesK lo hi lk cs i = false := by rw [hgk, decide_eq_false (show ¬ 1 ≤ tierC (some d) lo hi by omega)]; rfl
        rw [mayL_step, hno, if_neg (by simp), List.append_nil]; exact q9
    · rintro cs' h10 ⟨rfl, _, j⟩
      exact hJ (c, h9.size) h10 ⟨z9, j⟩
    · rintro ex h10 hx; exact hx.elim
  · rintro ⟨c, M⟩ h6 ⟨hM, ⟨q1, q2, q3, q4, q5, q6, ⟨v, bs, q8, q9, q10⟩, q11, q12⟩⟩
    simp only at hM q1 q10 q12
    have hbs : ∀ b, b < M → b ∉ bs := fun b hb hm => by have := q10 b hm; omega
    have hml := mayL_len (lo := lo) (hi := hi) (lk := lk) (cs := cs) cs.length
    have hmd := mayL_nodup (lo := lo) (hi := hi) (lk := lk) (cs := cs) cs.length
    try simp (disch := first | assumption | omega | (apply At.mk; with_unfolding_all rfl)) only [↓go_eq, ↓ent_eq, Mv, NilC_at, Fld_at, add_mk, Nat.zero_add, Nat.add_zero, Add64, Sub64, Mul64, Quo64, Rem64, Neg64, Cvt64, CvtU8, CvtU16, CvtU32, CvtU64, AddU64, SubU64, MulU64, Shr64, Shr_u8, Shr_u16, Shr_u32, Shr_u64, And1, And31, And32, Eql64, Neq64, Bin_lss, Bin_leq, Bin_gtr, Bin_geq, Bin_bool_eql, Bin_bool_neq, Bin_ptr_nil_eql, Bin_ptr_nil_neq, Not_dec, Un_not, Pick_t, Pick_f, Pick_pos, Pick_neg, Gd_tt, Gd_tf, Gd_ft, Gd_ff, Gd_pos_t, Gd_neg_t, Gd_pos_f, Gd_neg_f, Gd_undef, If_t, If_f, If_pos, If_neg, CallF_eq, Max_two, Min_two, Len_rd, Len_own, Ld_blkE, Idx_rdN, Idx_ownN, Idx_rdE, Idx_ownE, IdxAE, LdA_two, Idx_at0, Ext_atE, Len_at, Int.toNat_natCast, Int.toNat_zero, Int.toNat_one, List.length_map, List.length_append, List.length_cons, List.length_nil, List.length_take, List.length_set, List.length_replicate, Bool.not_true, Bool.not_false, decide_true, decide_false, BEq.rfl, bne_self_eq_false, tf_beq, ft_beq, tf_bne, ft_bne, not_true_eq_false, not_false_eq_true, app]
    refine So.slices_SortFunc_int_int.spec (D := fun _ => True) (worse_ord _ _) (worse_cmp (F := F) fun h' f => ⟨q2.fr f (fun b hb => hbs b (by have := hF b hb; omega)), q3.fr f (hbs _ (by omega))⟩) (by omega) (fun _ _ => trivial) q9 fun h7 ys o7 p7 s7 f7 => ?_
    have a7 := q2.fr f7 (fun b hb => hbs b (by have := hF b hb; omega))
    have e4 := q3.fr f7 (hbs _ (by omega))
    have e9 := q8.fr f7 (hbs _ (by omega))
    have f07 : Fr F h h7 := q11.trans' f7 (fun b hb => .inr (by have := q10 b hb; omega))
    have hyl := p7.length_eq
    have hyd : ys.Nodup := p7.nodup_iff.2 hmd
    have hlm : (ys.map Iv).length = ys.length := List.length_map _
    rw [← redC_nil] at a7
    try simp (disch := first | assumption | omega | (apply At.mk; with_unfolding_all rfl)) only [hlm, ↓go_eq, ↓ent_eq, Mv, NilC_at, Fld_at, add_mk, Nat.zero_add, Nat.add_zero, Add64, Sub64, Mul64, Quo64, Rem64, Neg64, Cvt64, CvtU8, CvtU16, CvtU32, CvtU64, AddU64, SubU64, MulU64, Shr64, Shr_u8, Shr_u16, Shr_u32, Shr_u64, And1, And31, And32, Eql64, Neq64, Bin_lss, Bin_leq, Bin_gtr, Bin_geq, Bin_bool_eql, Bin_bool_neq, Bin_ptr_nil_eql, Bin_ptr_nil_neq, Not_dec, Un_not, Pick_t, Pick_f, Pick_pos, Pick_neg, Gd_tt, Gd_tf, Gd_ft, Gd_ff, Gd_pos_t, Gd_neg_t, Gd_pos_f, Gd_neg_f, Gd_undef, If_t, If_f, If_pos, If_neg, CallF_eq, Max_two, Min_two, Len_rd, Len_own, Ld_blkE, Idx_rdN, Idx_ownN, Idx_rdE, Idx_ownE, IdxAE, LdA_two, Idx_at0, Ext_atE, Len_at, Int.toNat_natCast, Int.toNat_zero, Int.toNat_one, List.length_map, List.length_append, List.length_cons, List.length_nil, List.length_take, List.length_set, List.length_replicate, Bool.not_true, Bool.not_false, decide_true, decide_false, BEq.rfl, bne_self_eq_false, tf_beq, ft_beq, tf_bne, ft_bne, not_true_eq_false, not_false_eq_true, app]
    refine Own.slc_hi o7 (by omega) (by rw [hlm]; omega) fun v2 hv2 => ?_
    rw [show ((ys.length : Int) / 2).toNat = ys.length / 2 by omega, ← List.map_take] at hv2
    have r7 := hv2 h7 o7
    have hl2 : ((ys.take (ys.length / 2)).map Iv).length = ys.length / 2 := by rw [List.length_map, List.length_take]; omega
    have hl3 : (ys.take (ys.length / 2)).length = ys.length / 2 := by rw [List.length_take]; omega
    try simp (disch := first | assumption | omega | (apply At.mk; with_unfolding_all rfl)) only [hl2, ↓go_eq, ↓ent_eq, Mv, NilC_at, Fld_at, add_mk, Nat.zero_add, Nat.add_zero, Add64, Sub64, Mul64, Quo64, Rem64, Neg64, Cvt64, CvtU8, CvtU16, CvtU32, CvtU64, AddU64, SubU64, MulU64, Shr64, Shr_u8, Shr_u16, Shr_u32, Shr_u64, And1, And31, And32, Eql64, Neq64, Bin_lss, Bin_leq, Bin_gtr, Bin_geq, Bin_bool_eql, Bin_bool_neq, Bin_ptr_nil_eql, Bin_ptr_nil_neq, Not_dec, Un_not, Pick_t, Pick_f, Pick_pos, Pick_neg, Gd_tt, Gd_tf, Gd_ft, Gd_ff, Gd_pos_t, Gd_neg_t, Gd_pos_f, Gd_neg_f, Gd_undef, If_t, If_f, If_pos, If_neg, CallF_eq, Max_two, Min_two, Len_rd, Len_own, Ld_blkE, Idx_rdN, Idx_ownN, Idx_rdE, Idx_ownE, IdxAE, LdA_two, Idx_at0, Ext_atE, Len_at, Int.toNat_natCast, Int.toNat_zero, Int.toNat_one, List.length_map, List.length_append, List.length_cons, List.length_nil, List.length_take, List.length_set, List.length_replicate, Bool.not_true, Bool.not_false, decide_true, decide_false, BEq.rfl, bne_self_eq_false, tf_beq, ft_beq, tf_bne, ft_bne, not_true_eq_false, not_false_eq_true, app]
    generalize hout : ys.take (ys.length / 2) = out at *
    refine Lp_fn (σ := Nat) (fun i => [ptr h.size, v2, v2, Iv (ys.length / 2 : Nat), Iv (i : Nat)]) (fun i h' => i ≤ ys.length / 2 ∧ ArR h' g lim (redC lo hi cs (out.take i)) F ∧ Own h' v (ys.map Iv) bs ∧ Blk h' h.size [ptr g] ∧ Fr F h h' ∧ M ≤ h'.size) (fun i => ys.length / 2 - i) 0 rfl (fun _ => rfl) ⟨Nat.zero_le _, a7, o7, e4, f07, by have := f7.size; omega⟩ ?_
    rintro i h8 ⟨hi8, a8, o8, b8, f08, z8⟩ X hX
    have r8 := hv2 h8 o8
    by_cases ci : (i : Int) < (ys.length / 2 : Nat)
    · have hgi : out[i]? = some (out[i]'(by omega)) := List.getElem?_eq_getElem _
      generalize hr : out[i]'(by omega) = r at hgi
      have hat : At (out.map Iv) i (Iv r) := ⟨by rw [List.getElem?_map, hgi]; rfl⟩
      have hrm : r ∈ ys := by
        have : r ∈ out := List.mem_of_getElem? hgi
        rw [← hout] at this; exact List.mem_of_mem_take this
      obtain ⟨k, hk1, hk2, hk3⟩ := mayL_mem.1 (p7.mem_iff.1 hrm)
      have hod : out.Nodup := by rw [← hout]; exact hyd.sublist (List.take_sublist _ _)
      have hnot : r ∉ out.take i := fun hm => by
        obtain ⟨j, hj1, hj2⟩ := List.mem_take_iff_getElem.1 hm
        rw [← hr] at hj2
        have := (List.getElem_inj hod).1 hj2
        omega
      obtain ⟨c', hc1, hc2, hc3⟩ := redC_drop (lo := lo) (hi := hi) hk2 hk3 hnot
      have hdr := fun Q : Ret => arena_Arena_Drop.yes (K := Q) a8 hc1 hc2
      rw [off_redC, ← hk3, hc3] at hdr
      try simp (disch := first | assumption | omega | (apply At.mk; with_unfolding_all rfl)) only [↓go_eq, ↓ent_eq, Mv, NilC_at, Fld_at, add_mk, Nat.zero_add, Nat.add_zero, Add64, Sub64, Mul64, Quo64, Rem64, Neg64, Cvt64, CvtU8, CvtU16, CvtU32, CvtU64, AddU64, SubU64, MulU64, Shr64, Shr_u8, Shr_u16, Shr_u32, Shr_u64, And1, And31, And32, Eql64, Neq64, Bin_lss, Bin_leq, Bin_gtr, Bin_geq, Bin_bool_eql, Bin_bool_neq, Bin_ptr_nil_eql, Bin_ptr_nil_neq, Not_dec, Un_not, Pick_t, Pick_f, Pick_pos, Pick_neg, Gd_tt, Gd_tf, Gd_ft, Gd_ff, Gd_pos_t, Gd_neg_t, Gd_pos_f, Gd_neg_f, Gd_undef, If_t, If_f, If_pos, If_neg, CallF_eq, Max_two, Min_two, Len_rd, Len_own, Ld_blkE, Idx_rdN, Idx_ownN, Idx_rdE, Idx_ownE, IdxAE, LdA_two, Idx_at0, Ext_atE, Len_at, Int.toNat_natCast, Int.toNat_zero, Int.toNat_one, List.length_map, List.length_append, List.length_cons, List.length_nil, List.length_take, List.length_set, List.length_replicate, Bool.not_true, Bool.not_false, decide_true, decide_false, BEq.rfl, bne_self_eq_false, tf_beq, ft_beq, tf_bne, ft_bne, not_true_eq_false, not_false_eq_true, app]
      refine hdr _ fun h9 a9 f9 => ?_
      try simp (disch := first | assumption | omega | (apply At.mk; with_unfolding_all rfl)) only [↓go_eq, ↓ent_eq, Mv, NilC_at, Fld_at, add_mk, Nat.zero_add, Nat.add_zero, Add64, Sub64, Mul64, Quo64, Rem64, Neg64, Cvt64, CvtU8, CvtU16, CvtU32, CvtU64, AddU64, SubU64, MulU64, Shr64, Shr_u8, Shr_u16, Shr_u32, Shr_u64, And1, And31, And32, Eql64, Neq64, Bin_lss, Bin_leq, Bin_gtr, Bin_geq, Bin_bool_eql, Bin_bool_neq, Bin_ptr_nil_eql, Bin_ptr_nil_neq, Not_dec, Un_not, Pick_t, Pick_f, Pick_pos, Pick_neg, Gd_tt, Gd_tf, Gd_ft, Gd_ff, Gd_pos_t, Gd_neg_t, Gd_pos_f, Gd_neg_f, Gd_undef, If_t, If_f, If_pos, If_neg, CallF_eq, Max_two, Min_two, Len_rd, Len_own, Ld_blkE, Idx_rdN, Idx_ownN, Idx_rdE, Idx_ownE, IdxAE, LdA_two, Idx_at0, Ext_atE, Len_at, Int.toNat_natCast, Int.toNat_zero, Int.toNat_one, List.length_map, List.length_append, List.length_cons, List.length_nil, List.length_take, List.length_set, List.length_replicate, Bool.not_true, Bool.not_false, decide_true, decide_false, BEq.rfl, bne_self_eq_false, tf_beq, ft_beq, tf_bne, ft_bne, not_true_eq_false, not_false_eq_true, app]
      try simp only [show (i : Int) + 1 = ((i + 1 : Nat) : Int) from by omega]
      refine hX (i + 1) h9 ⟨by omega, ?_, o8.fr f9 (fun b hb hm => by have := q10 b hb; have := hF b hm; omega), b8.fr f9 (fun hm => by have := hF _ hm; omega), f08.trans f9, by have := f9.size; omega⟩ (by omega)
      rw [List.take_add_one, hgi, Option.toList_some]; exact a9
    · have ei : i = ys.length / 2 := by omega
      rw [ei, ← hl3, List.take_length] at a8
      try simp (disch := first | assumption | omega | (apply At.mk; with_unfolding_all rfl)) only [↓go_eq, ↓ent_eq, Mv, NilC_at, Fld_at, add_mk, Nat.zero_add, Nat.add_zero, Add64, Sub64, Mul64, Quo64, Rem64, Neg64, Cvt64, CvtU8, CvtU16, CvtU32, CvtU64, AddU64, SubU64, MulU64, Shr64, Shr_u8, Shr_u16, Shr_u32, Shr_u64, And1, And31, And32, Eql64, Neq64, Bin_lss, Bin_leq, Bin_gtr, Bin_geq, Bin_bool_eql, Bin_bool_neq, Bin_ptr_nil_eql, Bin_ptr_nil_neq, Not_dec, Un_not, Pick_t, Pick_f, Pick_pos, Pick_neg, Gd_tt, Gd_tf, Gd_ft, Gd_ff, Gd_pos_t, Gd_neg_t, Gd_pos_f, Gd_neg_f, Gd_undef, If_t, If_f, If_pos, If_neg, CallF_eq, Max_two, Min_two, Len_rd, Len_own, Ld_blkE, Idx_rdN, Idx_ownN, Idx_rdE, Idx_ownE, IdxAE, LdA_two, Idx_at0, Ext_atE, Len_at, Int.toNat_natCast, Int.toNat_zero, Int.toNat_one, List.length_map, List.length_append, List.length_cons, List.length_nil, List.length_take, List.length_set, List.length_replicate, Bool.not_true, Bool.not_false, decide_true, decide_false, BEq.rfl, bne_self_eq_false, tf_beq, ft_beq, tf_bne, ft_bne, not_true_eq_false, not_false_eq_true, app]
      refine slices_Clone_int_int.spec (by omega) r8 fun v9 bs9 h9 o9 hb9 f9 => ?_
      try simp (disch := first | assumption | omega | (apply At.mk; with_unfolding_all rfl)) only [↓go_eq, ↓ent_eq, Mv, NilC_at, Fld_at, add_mk, Nat.zero_add, Nat.add_zero, Add64, Sub64, Mul64, Quo64, Rem64, Neg64, Cvt64, CvtU8, CvtU16, CvtU32, CvtU64, AddU64, SubU64, MulU64, Shr64, Shr_u8, Shr_u16, Shr_u32, Shr_u64, And1, And31, And32, Eql64, Neq64, Bin_lss, Bin_leq, Bin_gtr, Bin_geq, Bin_bool_eql, Bin_bool_neq, Bin_ptr_nil_eql, Bin_ptr_nil_neq, Not_dec, Un_not, Pick_t, Pick_f, Pick_pos, Pick_neg, Gd_tt, Gd_tf, Gd_ft, Gd_ff, Gd_pos_t, Gd_neg_t, Gd_pos_f, Gd_neg_f, Gd_undef, If_t, If_f, If_pos, If_neg, CallF_eq, Max_two, Min_two, Len_rd, Len_own, Ld_blkE, Idx_rdN, Idx_ownN, Idx_rdE, Idx_ownE, IdxAE, LdA_two, Idx_at0, Ext_atE, Len_at, Int.toNat_natCast, Int.toNat_zero, Int.toNat_one, List.length_map, List.length_append, List.length_cons, List.length_nil, List.length_take, List.length_set, List.length_replicate, Bool.not_true, Bool.not_false, decide_true, decide_false, BEq.rfl, bne_self_eq_false, tf_beq, ft_beq, tf_bne, ft_bne, not_true_eq_false, not_false_eq_true, app]
      refine Lv_mk fun h10 s10 => ?_
      have f09 := f08.trans' f9 (by simp)
      refine hk v9 bs9 h10 ys (by rw [hout]; exact o9.shut s10) (fun b hb => by have := hb9 b hb; omega) p7 s7 (by rw [hout]; exact (a8.fr f9 (by simp)).shut s10) (f09.shut s10)
end
end Go.Proofs.Ytcofinjoehaefaa
