/- All clauses of an arena move together. Conditions: those typed ahead of each theorem. -/
import Derived.Test.YthekbpaekopmfaaAn3
namespace Go.Proofs.Ythekbpaekopmfaa
open Go.Pt
set_option linter.unusedVariables false
set_option linter.unusedSimpArgs false
def live (c : Cl) : Bool := !c.gone
def newOff (cs : List Cl) (k : Nat) : Nat := (wds ((cs.take k).filter live)).length
def liveK (cs : List Cl) (k : Nat) : Bool := match cs[k]? with | some c => live c | none => false
theorem filt_step {cs : List Cl} {i : Nat} {c : Cl} (h : cs[i]? = some c) : (cs.take (i + 1)).filter live = (cs.take i).filter live ++ (if live c = true then [c] else []) := by
  rw [List.take_add_one, h, List.filter_append]
  congr 1
  by_cases e : live c = true
  · rw [if_pos e]; exact List.filter_cons_of_pos e
  · rw [if_neg e]; exact List.filter_cons_of_neg e
theorem newOff_live {cs : List Cl} {k : Nat} {c : Cl} (h : cs[k]? = some c) (hl : live c = true) : newOff cs (k + 1) = newOff cs k + 3 + c.lits.length := by
  unfold newOff
  rw [filt_step h, if_pos hl, wds_append, wds_one, List.length_append, enc_len]; omega
theorem newOff_gone {cs : List Cl} {k : Nat} {c : Cl} (h : cs[k]? = some c) (hl : ¬ live c = true) : newOff cs (k + 1) = newOff cs k := by
  unfold newOff
  rw [filt_step h, if_neg hl, List.append_nil]
theorem newOff_mono {cs : List Cl} {j : Nat} : ∀ {k : Nat}, j ≤ k → newOff cs j ≤ newOff cs k
  | 0, h => by have : j = 0 := by omega
               subst this; exact Nat.le_refl _
  | k + 1, h => by
    by_cases e : j = k + 1
    · subst e; exact Nat.le_refl _
    · refine Nat.le_trans (newOff_mono (cs := cs) (k := k) (by omega)) ?_
      cases hc : cs[k]? with
      | none =>
        have := List.getElem?_eq_none_iff.1 hc
        unfold newOff
        rw [List.take_of_length_le this, List.take_of_length_le (by omega)]; exact Nat.le_refl _
      | some c =>
        by_cases hl : live c = true
        · rw [newOff_live hc hl]; omega
        · rw [newOff_gone hc hl]; exact Nat.le_refl _
theorem newOff_lt {cs : List Cl} {j k : Nat} (h : j < k) (hl : liveK cs j = true) : newOff cs j + 3 ≤ newOff cs k := by
  unfold liveK at hl
  cases hc : cs[j]? with
  | none => rw [hc] at hl; cases hl
  | some c =>
    rw [hc] at hl
    have h1 := newOff_live hc hl
    have h2 := newOff_mono (cs := cs) (j := j + 1) (k := k) (by omega)
    omega
theorem newOff_le_off {cs : List Cl} : ∀ {k : Nat}, k ≤ cs.length → newOff cs k ≤ off cs k
  | 0, _ => by simp [newOff, wds, off]
  | k + 1, h => by
    have hc : cs[k]? = some cs[k] := List.getElem?_eq_getElem (by omega)
    have ih := newOff_le_off (cs := cs) (k := k) (by omega)
    rw [off_succ hc]
    by_cases hl : live cs[k] = true
    · rw [newOff_live hc hl]; omega
    · rw [newOff_gone hc hl]; omega
theorem newOff_end (cs : List Cl) : newOff cs cs.length = (wds (cs.filter live)).length := by unfold newOff; rw [List.take_length]
def ks (cs : List Cl) (i : Nat) : List Nat := (List.range i).filter (liveK cs)
theorem ks_step {cs : List Cl} {i : Nat} : ks cs (i + 1) = ks cs i ++ (if liveK cs i = true then [i] else []) := by
  unfold ks
  rw [List.range_succ, List.filter_append]
  congr 1
  by_cases e : liveK cs i = true
  · rw [if_pos e]; exact List.filter_cons_of_pos e
  · rw [if_neg e]; exact List.filter_cons_of_neg e
theorem ks_mem {cs : List Cl} {i k : Nat} : k ∈ ks cs i ↔ k < i ∧ liveK cs k = true := by unfold ks; rw [List.mem_filter, List.mem_range]
def mvV (cs : List Cl) (i : Nat) : List (Int × Value) := (ks cs i).map fun k => (((off cs k : Nat) : Int), Iv (newOff cs k : Nat))
def lvL (cs : List Cl) (i : Nat) : List Int := (ks cs i).map fun k => ((newOff cs k : Nat) : Int)
theorem look_ks {cs : List Cl} (l : List Nat) (k : Nat) : (l.map fun k => (((off cs k : Nat) : Int), Iv (newOff cs k : Nat))).lookup ((off cs k : Nat) : Int) = if k ∈ l then some (Iv (newOff cs k : Nat)) else none := by
  induction l with
  | nil => rfl
  | cons j l ih =>
    rw [List.map_cons, List.lookup_cons, ih]
    by_cases e : k = j
    · subst e; simp
    · have : (((off cs k : Nat) : Int) == ((off cs j : Nat) : Int)) = false := by
        rw [beq_eq_false_iff_ne]; intro q; exact e (off_inj (cs := cs) (by omega))
      rw [this]; simp [e]
theorem look_mv {cs : List Cl} {i k : Nat} : (mvV cs i).lookup ((off cs k : Nat) : Int) = if k < i ∧ liveK cs k = true then some (Iv (newOff cs k : Nat)) else none := by
  unfold mvV
  rw [look_ks]
  by_cases e : k < i ∧ liveK cs k = true
  · rw [if_pos e, if_pos (ks_mem.2 e)]
  · rw [if_neg e, if_neg (fun q => e (ks_mem.1 q))]
theorem liveK_some {cs : List Cl} {k : Nat} {c : Cl} (h : cs[k]? = some c) : liveK cs k = live c := by unfold liveK; rw [h]
theorem lvL_nodup (cs : List Cl) (i : Nat) : (lvL cs i).Nodup := by
  rw [List.nodup_iff_pairwise_ne]
  unfold lvL
  rw [List.pairwise_map]
  have : (ks cs i).Pairwise (· < ·) := List.pairwise_lt_range.filter _
  refine this.imp_of_mem fun {a b} ha hb hab e => ?_
  have := newOff_lt (cs := cs) hab (ks_mem.1 ha).2
  omega
theorem filt_at {cs : List Cl} {k : Nat} {c : Cl} (h : cs[k]? = some c) (hl : live c = true) : ∃ j, (cs.filter live)[j]? = some c ∧ off (cs.filter live) j = newOff cs k := by
  have e2 : cs.filter live = (cs.take k).filter live ++ (c :: (cs.drop (k + 1)).filter live) := by
    conv => lhs; rw [split_at h]
    rw [List.filter_append, List.filter_cons_of_pos hl]
  refine ⟨((cs.take k).filter live).length, ?_, ?_⟩
  · rw [e2, List.getElem?_append_right (Nat.le_refl _), Nat.sub_self]; rfl
  · rw [e2, off_append (Nat.le_refl _), ← wds_len]; rfl
theorem filt_back {cs : List Cl} : ∀ {i j : Nat} {c : Cl}, i ≤ cs.length → ((cs.take i).filter live)[j]? = some c → ∃ k, k < i ∧ cs[k]? = some c ∧ live c = true ∧ newOff cs k = off (cs.filter live) j
  | 0, j, c, _, h => by simp at h
  | i + 1, j, c, hi, h => by
    have hc : cs[i]? = some cs[i] := List.getElem?_eq_getElem (by omega)
    rw [filt_step hc] at h
    rcases Nat.lt_or_ge j ((cs.take i).filter live).length with q | q
    · rw [List.getElem?_append_left q] at h
      obtain ⟨k, h1, h2⟩ := filt_back (by omega) h
      exact ⟨k, by omega, h2⟩
    · rw [List.getElem?_append_right q] at h
      split at h
      · rename_i hl
        have e : j = ((cs.take i).filter live).length := by
          rcases Nat.lt_or_ge ((cs.take i).filter live).length j with q2 | q2
          · rw [List.getElem?_eq_none (by simp; omega)] at h; cases h
          · omega
        subst e
        rw [Nat.sub_self] at h
        cases h
        obtain ⟨j', h1, h2⟩ := filt_at hc hl
        refine ⟨i, by omega, hc, hl, ?_⟩
        have e2 : cs.filter live = (cs.take i).filter live ++ (cs[i] :: (cs.drop (i + 1)).filter live) := by
          conv => lhs; rw [split_at hc]
          rw [List.filter_append, List.filter_cons_of_pos hl]
        rw [e2, off_append (Nat.le_refl _), ← wds_len]; rfl
      · cases h
theorem lvL_mem {cs : List Cl} {r : Int} : r ∈ lvL cs cs.length ↔ (clAt (cs.filter live) r).isSome = true := by
  unfold lvL
  rw [live_iff, List.mem_map]
  constructor
  · rintro ⟨k, hk, rfl⟩
    obtain ⟨h1, h2⟩ := ks_mem.1 hk
    have hc : cs[k]? = some cs[k] := List.getElem?_eq_getElem h1
    rw [liveK_some hc] at h2
    obtain ⟨j, q1, q2⟩ := filt_at hc h2
    exact ⟨j, cs[k], q1, by unfold live at h2; simpa using h2, by rw [q2]⟩
  · rintro ⟨j, c, h1, h2, rfl⟩
    obtain ⟨k, q1, q2, q3, q4⟩ := filt_back (i := cs.length) (Nat.le_refl _) (by rw [List.take_length]; exact h1)
    exact ⟨k, ks_mem.2 ⟨q1, by rw [liveK_some q2]; exact q3⟩, by rw [q4]⟩
structure CJ (g : Nat) (lim : Int) (cs : List Cl) (F : List Nat) (H : Heap) (M c t1 t3 t4 t5 mvb lb i : Nat) (h : Heap) : Prop where
  bc : Blk h c [ptr g]
  ar : ArR h g lim cs F
  b1 : Blk h t1 [ptr g]
  b3 : Blk h t3 [.map (some mvb)]
  b4 : Blk h t4 [.map (some lb)]
  mv : MapAt h mvb .i64 (mvV cs i)
  ml : MapAt h lb .i64 ((lvL cs i).map fun n => (n, .bool true))
  b5 : ∃ v bs, Blk h t5 [v] ∧ Own h v ((wds ((cs.take i).filter live)).map Iv) bs ∧ ∀ b ∈ bs, M ≤ b
  fr : Fr [] H h
  sz : M ≤ h.size
section
variable {g : Nat} {lim : Int} {cs : List Cl} {F : List Nat} {K : Ret} {h : Heap}
set_option maxHeartbeats 4000000 in
theorem arena_Arena_Compact.spec (ha : ArR h g lim cs F) (hk : ∀ mb h' F', MapAt h' mb .i64 (mvV cs cs.length) → ArR h' g lim (cs.filter live) F' → Fr F h h' → (∀ b ∈ F', b ∈ F ∨ h.size ≤ b) → h.size ≤ mb → mb ∉ F' → K (.map (some mb)) h') : CallH Try.prog arena_Arena_Compact.id #[ptr g] K h := by
  refine arena_Arena_Compact.ok ?_
  simp only [arena_Arena_Compact.pt]
  have hF := ha.lt
  rw [ent_eq, go_eq]
  refine New_blk fun h1 c1 f1 s1 => ?_
  have c1 : Blk h1 h.size [ptr g] := c1
  rw [go_eq]
  refine MkM_map (k := .i64) fun h2 m2 f2 s2 => ?_
  rw [go_eq]
  refine New_blk fun h3 c3 f3 s3 => ?_
  have c3 : Blk h3 h2.size [.map none] := c3
  rw [go_eq]
  refine St_blk c3 (by simp) rfl fun h4 c4 f4 => ?_
  rw [go_eq]
  refine MkM_map (k := .i64) fun h5 m5 f5 s5 => ?_
  rw [go_eq]
  refine New_blk fun h6 c6 f6 s6 => ?_
  have c6 : Blk h6 h5.size [.map none] := c6
  rw [go_eq]
  refine St_blk c6 (by simp) rfl fun h7 c7 f7 => ?_
  rw [go_eq]
  refine New_blk fun h8 c8 f8 s8 => ?_
  have c8 : Blk h8 h7.size [nilS] := c8
  have z4 := f4.size
  have z7 := f7.size
  have l1 := m2.lt
  have l3 := c4.lt
  have l6 := c7.lt
  have l5 := m5.lt
  have b1 : Blk h8 h.size [ptr g] := ((((((c1.fr f2 (by simp)).fr f3 (by simp)).fr f4 (by simp; omega)).fr f5 (by simp)).fr f6 (by simp)).fr f7 (by simp; omega)).fr f8 (by simp)
  have b3 : Blk h8 h2.size [.map (some h1.size)] := (((c4.fr f5 (by simp)).fr f6 (by simp)).fr f7 (by simp; omega)).fr f8 (by simp)
  have b4 : Blk h8 h5.size [.map (some h4.size)] := c7.fr f8 (by simp)
  have mv : MapAt h8 h1.size .i64 [] := (((((m2.fr f3 (by simp)).fr f4 (by simp; omega)).fr f5 (by simp)).fr f6 (by simp)).fr f7 (by simp; omega)).fr f8 (by simp)
  have ml : MapAt h8 h4.size .i64 [] := ((m5.fr f6 (by simp)).fr f7 (by simp; omega)).fr f8 (by simp)
  have f08 : Fr [] h h8 := ((((((f1.trans f2).trans f3).trans' f4 (by simp; omega)).trans f5).trans f6).trans' f7 (by simp; omega)).trans f8
  have ar8 := ha.fr f08 (by simp)
  have z08 : h.size < h1.size ∧ h1.size < h2.size ∧ h2.size < h4.size ∧ h4.size < h5.size ∧ h5.size < h7.size ∧ h7.size < h8.size := by omega
  clear c1 c3 c4 c6 c7 m2 m5 f1 f2 f3 f4 f5 f6 f7 f8 s1 s2 s3 s5 s6 s8
  generalize h1.size = mvb at *
  generalize h2.size = t3 at *
  generalize h4.size = lb at *
  generalize h5.size = t4 at *
  generalize h7.size = t5 at *
  have hz := ha.bd
  refine Jn_fn (σ := Nat × Nat) (fun _ => [ptr h.size, ptr t3, ptr t4, ptr t5]) (fun x h' => h8.size ≤ x.2 ∧ CJ g lim cs F h x.2 x.1 h.size t3 t4 t5 mvb lb cs.length h') ?_ ?_
  · intro J hJ
    try simp (disch := first | assumption | omega | (apply At.mk; with_unfolding_all rfl)) only [↓go_eq, ↓ent_eq, Mv, NilC_at, Fld_at, add_mk, Nat.zero_add, Nat.add_zero, Add64, Sub64, Mul64, Quo64, Rem64, Neg64, Cvt64, CvtU8, CvtU16, CvtU32, CvtU64, AddU64, SubU64, MulU64, Shr64, Shr_u8, Shr_u16, Shr_u32, Shr_u64, And1, And31, And32, Eql64, Neq64, Bin_lss, Bin_leq, Bin_gtr, Bin_geq, Bin_bool_eql, Bin_bool_neq, Bin_ptr_nil_eql, Bin_ptr_nil_neq, Not_dec, Un_not, Pick_t, Pick_f, Pick_pos, Pick_neg, Gd_tt, Gd_tf, Gd_ft, Gd_ff, Gd_pos_t, Gd_neg_t, Gd_pos_f, Gd_neg_f, Gd_undef, If_t, If_f, If_pos, If_neg, CallF_eq, Max_two, Min_two, Len_rd, Len_own, Ld_blkE, Idx_rdN, Idx_ownN, Idx_rdE, Idx_ownE, IdxAE, LdA_two, Idx_at0, Ext_atE, Len_at, Int.toNat_natCast, Int.toNat_zero, Int.toNat_one, List.length_map, List.length_append, List.length_cons, List.length_nil, List.length_take, List.length_set, List.length_replicate, Bool.not_true, Bool.not_false, decide_true, decide_false, BEq.rfl, bne_self_eq_false, tf_beq, ft_beq, tf_bne, ft_bne, not_true_eq_false, not_false_eq_true, app]
    refine arena_Arena_All.spec fun c h9 bc f9 hc => ?_
    try simp (disch := first | assumption | omega | (apply At.mk; with_unfolding_all rfl)) only [↓go_eq, ↓ent_eq, Mv, NilC_at, Fld_at, add_mk, Nat.zero_add, Nat.add_zero, Add64, Sub64, Mul64, Quo64, Rem64, Neg64, Cvt64, CvtU8, CvtU16, CvtU32, CvtU64, AddU64, SubU64, MulU64, Shr64, Shr_u8, Shr_u16, Shr_u32, Shr_u64, And1, And31, And32, Eql64, Neq64, Bin_lss, Bin_leq, Bin_gtr, Bin_geq, Bin_bool_eql, Bin_bool_neq, Bin_ptr_nil_eql, Bin_ptr_nil_neq, Not_dec, Un_not, Pick_t, Pick_f, Pick_pos, Pick_neg, Gd_tt, Gd_tf, Gd_ft, Gd_ff, Gd_pos_t, Gd_neg_t, Gd_pos_f, Gd_neg_f, Gd_undef, If_t, If_f, If_pos, If_neg, CallF_eq, Max_two, Min_two, Len_rd, Len_own, Ld_blkE, Idx_rdN, Idx_ownN, Idx_rdE, Idx_ownE, IdxAE, LdA_two, Idx_at0, Ext_atE, Len_at, Int.toNat_natCast, Int.toNat_zero, Int.toNat_one, List.length_map, List.length_append, List.length_cons, List.length_nil, List.length_take, List.length_set, List.length_replicate, Bool.not_true, Bool.not_false, decide_true, decide_false, BEq.rfl, bne_self_eq_false, tf_beq, ft_beq, tf_bne, ft_bne, not_true_eq_false, not_false_eq_true, app]
    have z9 := f9.size
    have hcl := bc.lt
    refine Rng_All (g := g) (lim := lim) (cs0 := cs) (fun i cs' h' => cs' = cs ∧ i ≤ cs.length ∧ CJ g lim cs F h h9.size c h.size t3 t4 t5 mvb lb i h') (fun _ _ => False) ?_ ?_ ?_ ?_ ?_ ?_ ?_ ?_
    · rintro i cs' h' ⟨rfl, _, j⟩
      exact ⟨j.bc, ⟨F, j.ar⟩, rfl, fun _ => rfl⟩
    · rintro i cs' h' d ⟨rfl, hi, j⟩ hd hg
      have hl : ¬ live d = true := by unfold live; rw [hg]; simp
      have hn : ¬ liveK cs' i = true := by rw [liveK_some hd]; exact hl
      have hil := (List.getElem?_eq_some_iff.1 hd).1
      refine ⟨rfl, by omega, ⟨j.bc, j.ar, j.b1, j.b3, j.b4, ?_, ?_, ?_, j.fr, j.sz⟩⟩
      · unfold mvV; rw [ks_step, if_neg hn, List.append_nil]; exact j.mv
      · unfold lvL; rw [ks_step, if_neg hn, List.append_nil]; exact j.ml
      · rw [filt_step hd, if_neg hl, List.append_nil]; exact j.b5
    · rintro i cs' l h' h'' hl o ⟨rfl, hi, ⟨q1, q2, q3, q4, q5, q6, q7, ⟨v, bs, q8, q9, q10⟩, q11, q12⟩⟩
      have zo := o.size
      exact ⟨rfl, hi, ⟨q1.one o, q2.one o, q3.one o, q4.one o, q5.one o, q6.one o, q7.one o, ⟨v, bs, q8.one o, q9.one o, q10⟩, q11.one o (by omega), by omega⟩⟩
    · rintro ex l h' h'' hl o hx; exact hx.elim
    · intro h10 f10
      have f := f9.trans f10
      exact ⟨rfl, Nat.zero_le _, ⟨bc.fr f10 (by simp), ar8.fr f (by simp), b1.fr f (by simp), b3.fr f (by simp), b4.fr f (by simp), mv.fr f (by simp), ml.fr f (by simp), ⟨nilS, [], c8.fr f (by simp), Own.nil _, by simp⟩, f08.trans f, f10.size⟩⟩
    · rintro i d cs' h10 B N L hd hg ⟨rfl, hi, j10⟩ hB hN hL
      refine hB _ fun h11 => ?_
      rintro ⟨-, -, ⟨q1, q2, q3, q4, q5, q6, q7, ⟨v, bs, q8, q9, q10⟩, q11, q12⟩⟩
      have hl : live d = true := by unfold live; rw [hg]; rfl
      have hlk : liveK cs' i = true := by rw [liveK_some hd]; exact hl
      have hil := (List.getElem?_eq_some_iff.1 hd).1
      have q9r := q9.rd
      have hnl : ((wds ((cs'.take i).filter live)).map Iv).length = newOff cs' i := by rw [List.length_map]; rfl
      have hend := wds_end hd
      have hno := newOff_le_off (cs := cs') (k := i) (by omega)
      have hbs : ∀ b, b < h9.size → b ∉ bs := fun b hb hm => by have := q10 b hm; omega
      try simp (disch := first | assumption | omega | (apply At.mk; with_unfolding_all rfl)) only [hnl, ↓go_eq, ↓ent_eq, Mv, NilC_at, Fld_at, add_mk, Nat.zero_add, Nat.add_zero, Add64, Sub64, Mul64, Quo64, Rem64, Neg64, Cvt64, CvtU8, CvtU16, CvtU32, CvtU64, AddU64, SubU64, MulU64, Shr64, Shr_u8, Shr_u16, Shr_u32, Shr_u64, And1, And31, And32, Eql64, Neq64, Bin_lss, Bin_leq, Bin_gtr, Bin_geq, Bin_bool_eql, Bin_bool_neq, Bin_ptr_nil_eql, Bin_ptr_nil_neq, Not_dec, Un_not, Pick_t, Pick_f, Pick_pos, Pick_neg, Gd_tt, Gd_tf, Gd_ft, Gd_ff, Gd_pos_t, Gd_neg_t, Gd_pos_f, Gd_neg_f, Gd_undef, If_t, If_f, If_pos, If_neg, CallF_eq, Max_two, Min_two, Len_rd, Len_own, Ld_blkE, Idx_rdN, Idx_ownN, Idx_rdE, Idx_ownE, IdxAE, LdA_two, Idx_at0, Ext_atE, Len_at, Int.toNat_natCast, Int.toNat_zero, Int.toNat_one, List.length_map, List.length_append, List.length_cons, List.length_nil, List.length_take, List.length_set, List.length_replicate, Bool.not_true, Bool.not_false, decide_true, decide_false, BEq.rfl, bne_self_eq_false, tf_beq, ft_beq, tf_bne, ft_bne, not_true_eq_false, not_false_eq_true, app]
      refine MUpd_new q6 (by rw [look_mv, if_neg (by omega)]) fun h12 m12 f12 z12 => ?_
      have p3 := q3.fr f12 (by simp; omega)
      have p4 := q4.fr f12 (by simp; omega)
      have p5 := q5.fr f12 (by simp; omega)
      have p7 := q7.fr f12 (by simp; omega)
      have p8 := q8.fr f12 (by simp; omega)
      have p9 := q9.fr f12 (by intro b hb; simp; intro e; subst e; exact hbs _ (by omega) hb)
      have p9r := p9.rd
      have pc := q1.fr f12 (by simp; omega)
      have pa := q2.fr f12 (by intro b hb; simp; intro e; subst e; have := hF b hb; omega)
      try simp (disch := first | assumption | omega | (apply At.mk; with_unfolding_all rfl)) only [hnl, ↓go_eq, ↓ent_eq, Mv, NilC_at, Fld_at, add_mk, Nat.zero_add, Nat.add_zero, Add64, Sub64, Mul64, Quo64, Rem64, Neg64, Cvt64, CvtU8, CvtU16, CvtU32, CvtU64, AddU64, SubU64, MulU64, Shr64, Shr_u8, Shr_u16, Shr_u32, Shr_u64, And1, And31, And32, Eql64, Neq64, Bin_lss, Bin_leq, Bin_gtr, Bin_geq, Bin_bool_eql, Bin_bool_neq, Bin_ptr_nil_eql, Bin_ptr_nil_neq, Not_dec, Un_not, Pick_t, Pick_f, Pick_pos, Pick_neg, Gd_tt, Gd_tf, Gd_ft, Gd_ff, Gd_pos_t, Gd_neg_t, Gd_pos_f, Gd_neg_f, Gd_undef, If_t, If_f, If_pos, If_neg, CallF_eq, Max_two, Min_two, Len_rd, Len_own, Ld_blkE, Idx_rdN, Idx_ownN, Idx_rdE, Idx_ownE, IdxAE, LdA_two, Idx_at0, Ext_atE, Len_at, Int.toNat_natCast, Int.toNat_zero, Int.toNat_one, List.length_map, List.length_append, List.length_cons, List.length_nil, List.length_take, List.length_set, List.length_replicate, Bool.not_true, Bool.not_false, decide_true, decide_false, BEq.rfl, bne_self_eq_false, tf_beq, ft_beq, tf_bne, ft_bne, not_true_eq_false, not_false_eq_true, app]
      refine MUpd_new p7 (by
        rw [look_live, if_neg fun q => ?_]
        unfold lvL at q
        obtain ⟨k, hk, e⟩ := List.mem_map.1 q
        obtain ⟨r1, r2⟩ := ks_mem.1 hk
        have := newOff_lt (cs := cs') r1 r2
        omega) fun h13 m13 f13 z13 => ?_
      have r3 := p3.fr f13 (by simp; omega)
      have r4 := p4.fr f13 (by simp; omega)
      have r5 := p5.fr f13 (by simp; omega)
      have r6 := m12.fr f13 (by simp; omega)
      have r8 := p8.fr f13 (by simp; omega)
      have r9 := p9.fr f13 (by intro b hb; simp; intro e; subst e; exact hbs _ (by omega) hb)
      have rc := pc.fr f13 (by simp; omega)
      have ra := pa.fr f13 (by intro b hb; simp; intro e; subst e; have := hF b hb; omega)
      have ra0 := ra
      obtain ⟨⟨wv, wb, mb, lv, a1, o1, m1, rfl, d1, d2, d3, nd, hm⟩, bd, gu⟩ := ra0
      have o1r := o1.rd
      try simp (disch := first | assumption | omega | (apply At.mk; with_unfolding_all rfl)) only [↓go_eq, ↓ent_eq, Mv, NilC_at, Fld_at, add_mk, Nat.zero_add, Nat.add_zero, Add64, Sub64, Mul64, Quo64, Rem64, Neg64, Cvt64, CvtU8, CvtU16, CvtU32, CvtU64, AddU64, SubU64, MulU64, Shr64, Shr_u8, Shr_u16, Shr_u32, Shr_u64, And1, And31, And32, Eql64, Neq64, Bin_lss, Bin_leq, Bin_gtr, Bin_geq, Bin_bool_eql, Bin_bool_neq, Bin_ptr_nil_eql, Bin_ptr_nil_neq, Not_dec, Un_not, Pick_t, Pick_f, Pick_pos, Pick_neg, Gd_tt, Gd_tf, Gd_ft, Gd_ff, Gd_pos_t, Gd_neg_t, Gd_pos_f, Gd_neg_f, Gd_undef, If_t, If_f, If_pos, If_neg, CallF_eq, Max_two, Min_two, Len_rd, Len_own, Ld_blkE, Idx_rdN, Idx_ownN, Idx_rdE, Idx_ownE, IdxAE, LdA_two, Idx_at0, Ext_atE, Len_at, Int.toNat_natCast, Int.toNat_zero, Int.toNat_one, List.length_map, List.length_append, List.length_cons, List.length_nil, List.length_take, List.length_set, List.length_replicate, Bool.not_true, Bool.not_false, decide_true, decide_false, BEq.rfl, bne_self_eq_false, tf_beq, ft_beq, tf_bne, ft_bne, not_true_eq_false, not_false_eq_true, app]
      refine len_q ra ?_
      have hcA := clAt_live hd hg
      rw [hcA]
      have elen : ((lenO (some d) : Nat) : Int) = (d.lits.length : Nat) := rfl
      rw [elen]
      try simp (disch := first | assumption | omega | (apply At.mk; with_unfolding_all rfl)) only [↓go_eq, ↓ent_eq, Mv, NilC_at, Fld_at, add_mk, Nat.zero_add, Nat.add_zero, Add64, Sub64, Mul64, Quo64, Rem64, Neg64, Cvt64, CvtU8, CvtU16, CvtU32, CvtU64, AddU64, SubU64, MulU64, Shr64, Shr_u8, Shr_u16, Shr_u32, Shr_u64, And1, And31, And32, Eql64, Neq64, Bin_lss, Bin_leq, Bin_gtr, Bin_geq, Bin_bool_eql, Bin_bool_neq, Bin_ptr_nil_eql, Bin_ptr_nil_neq, Not_dec, Un_not, Pick_t, Pick_f, Pick_pos, Pick_neg, Gd_tt, Gd_tf, Gd_ft, Gd_ff, Gd_pos_t, Gd_neg_t, Gd_pos_f, Gd_neg_f, Gd_undef, If_t, If_f, If_pos, If_neg, CallF_eq, Max_two, Min_two, Len_rd, Len_own, Ld_blkE, Idx_rdN, Idx_ownN, Idx_rdE, Idx_ownE, IdxAE, LdA_two, Idx_at0, Ext_atE, Len_at, Int.toNat_natCast, Int.toNat_zero, Int.toNat_one, List.length_map, List.length_append, List.length_cons, List.length_nil, List.length_take, List.length_set, List.length_replicate, Bool.not_true, Bool.not_false, decide_true, decide_false, BEq.rfl, bne_self_eq_false, tf_beq, ft_beq, tf_bne, ft_bne, not_true_eq_false, not_false_eq_true, app]
      refine o1r.slc (by omega) (by omega) (by rw [List.length_map]; omega) fun v' hv' => ?_
      rw [← List.map_take, ← List.map_drop, show ((off cs' i : Nat) + 3 + (d.lits.length : Nat) : Int).toNat = off cs' i + 3 + d.lits.length by omega, Int.toNat_natCast, wds_clause hd] at hv'
      try simp (disch := first | assumption | omega | (apply At.mk; with_unfolding_all rfl)) only [↓go_eq, ↓ent_eq, Mv, NilC_at, Fld_at, add_mk, Nat.zero_add, Nat.add_zero, Add64, Sub64, Mul64, Quo64, Rem64, Neg64, Cvt64, CvtU8, CvtU16, CvtU32, CvtU64, AddU64, SubU64, MulU64, Shr64, Shr_u8, Shr_u16, Shr_u32, Shr_u64, And1, And31, And32, Eql64, Neq64, Bin_lss, Bin_leq, Bin_gtr, Bin_geq, Bin_bool_eql, Bin_bool_neq, Bin_ptr_nil_eql, Bin_ptr_nil_neq, Not_dec, Un_not, Pick_t, Pick_f, Pick_pos, Pick_neg, Gd_tt, Gd_tf, Gd_ft, Gd_ff, Gd_pos_t, Gd_neg_t, Gd_pos_f, Gd_neg_f, Gd_undef, If_t, If_f, If_pos, If_neg, CallF_eq, Max_two, Min_two, Len_rd, Len_own, Ld_blkE, Idx_rdN, Idx_ownN, Idx_rdE, Idx_ownE, IdxAE, LdA_two, Idx_at0, Ext_atE, Len_at, Int.toNat_natCast, Int.toNat_zero, Int.toNat_one, List.length_map, List.length_append, List.length_cons, List.length_nil, List.length_take, List.length_set, List.length_replicate, Bool.not_true, Bool.not_false, decide_true, decide_false, BEq.rfl, bne_self_eq_false, tf_beq, ft_beq, tf_bne, ft_bne, not_true_eq_false, not_false_eq_true, app]
      refine r9.app hv' rfl rfl (by intro x hx; obtain ⟨y, _, rfl⟩ := List.mem_map.1 hx; rfl) (by rw [hnl, List.length_map, enc_len]; omega) (by rw [hnl, List.length_map, enc_len]; omega) fun v2 h14 bs2 o14 f14 hb14 z14 => ?_
      have hb14' : ∀ b ∈ bs2, h9.size ≤ b := fun b hb => by rcases hb14 b hb with q | q; exact q10 b q; omega
      have r8' := r8.fr f14 (hbs _ (by omega))
      have z14' := f14.size
      try simp (disch := first | assumption | omega | (apply At.mk; with_unfolding_all rfl)) only [↓go_eq, ↓ent_eq, Mv, NilC_at, Fld_at, add_mk, Nat.zero_add, Nat.add_zero, Add64, Sub64, Mul64, Quo64, Rem64, Neg64, Cvt64, CvtU8, CvtU16, CvtU32, CvtU64, AddU64, SubU64, MulU64, Shr64, Shr_u8, Shr_u16, Shr_u32, Shr_u64, And1, And31, And32, Eql64, Neq64, Bin_lss, Bin_leq, Bin_gtr, Bin_geq, Bin_bool_eql, Bin_bool_neq, Bin_ptr_nil_eql, Bin_ptr_nil_neq, Not_dec, Un_not, Pick_t, Pick_f, Pick_pos, Pick_neg, Gd_tt, Gd_tf, Gd_ft, Gd_ff, Gd_pos_t, Gd_neg_t, Gd_pos_f, Gd_neg_f, Gd_undef, If_t, If_f, If_pos, If_neg, CallF_eq, Max_two, Min_two, Len_rd, Len_own, Ld_blkE, Idx_rdN, Idx_ownN, Idx_rdE, Idx_ownE, IdxAE, LdA_two, Idx_at0, Ext_atE, Len_at, Int.toNat_natCast, Int.toNat_zero, Int.toNat_one, List.length_map, List.length_append, List.length_cons, List.length_nil, List.length_take, List.length_set, List.length_replicate, Bool.not_true, Bool.not_false, decide_true, decide_false, BEq.rfl, bne_self_eq_false, tf_beq, ft_beq, tf_bne, ft_bne, not_true_eq_false, not_false_eq_true, app]
      refine St_blk r8' (by simp) o14.rd.isCell fun h15 b15 f15 => ?_
      have u1 := (rc.fr f14 (hbs _ (by omega))).fr f15 (by simp; omega)
      have u2 := (ra.fr f14 (fun b hb hm => by have := hF b hb; exact hbs b (by omega) hm)).fr f15 (by intro b hb; simp; intro e; subst e; have := hF b hb; omega)
      have u3 := ((q3.fr f12 (by simp; omega)).fr f13 (by simp; omega)).fr f14 (hbs _ (by omega)) |>.fr f15 (by simp; omega)
      have u4 := (r4.fr f14 (hbs _ (by omega))).fr f15 (by simp; omega)
      have u5 := (r5.fr f14 (hbs _ (by omega))).fr f15 (by simp; omega)
      have u6 := (r6.fr f14 (hbs _ (by omega))).fr f15 (by simp; omega)
      have u7 := (m13.fr f14 (hbs _ (by omega))).fr f15 (by simp; omega)
      have u9 := o14.fr f15 (by intro b hb; simp; intro e; subst e; have := hb14' _ hb; omega)
      have z15 := f15.size
      try simp (disch := first | assumption | omega | (apply At.mk; with_unfolding_all rfl)) only [↓go_eq, ↓ent_eq, Mv, NilC_at, Fld_at, add_mk, Nat.zero_add, Nat.add_zero, Add64, Sub64, Mul64, Quo64, Rem64, Neg64, Cvt64, CvtU8, CvtU16, CvtU32, CvtU64, AddU64, SubU64, MulU64, Shr64, Shr_u8, Shr_u16, Shr_u32, Shr_u64, And1, And31, And32, Eql64, Neq64, Bin_lss, Bin_leq, Bin_gtr, Bin_geq, Bin_bool_eql, Bin_bool_neq, Bin_ptr_nil_eql, Bin_ptr_nil_neq, Not_dec, Un_not, Pick_t, Pick_f, Pick_pos, Pick_neg, Gd_tt, Gd_tf, Gd_ft, Gd_ff, Gd_pos_t, Gd_neg_t, Gd_pos_f, Gd_neg_f, Gd_undef, If_t, If_f, If_pos, If_neg, CallF_eq, Max_two, Min_two, Len_rd, Len_own, Ld_blkE, Idx_rdN, Idx_ownN, Idx_rdE, Idx_ownE, IdxAE, LdA_two, Idx_at0, Ext_atE, Len_at, Int.toNat_natCast, Int.toNat_zero, Int.toNat_one, List.length_map, List.length_append, List.length_cons, List.length_nil, List.length_take, List.length_set, List.length_replicate, Bool.not_true, Bool.not_false, decide_true, decide_false, BEq.rfl, bne_self_eq_false, tf_beq, ft_beq, tf_bne, ft_bne, not_true_eq_false, not_false_eq_true, app]
      refine hN cs' h15 ⟨rfl, by omega, ⟨u1, u2, ?_, u4, u5, ?_, ?_, ⟨v2, bs2, b15, ?_, hb14'⟩, ?_, by omega⟩⟩
      · exact u3
      · unfold mvV; rw [ks_step, if_pos hlk, List.map_append]; exact u6
      · unfold lvL; rw [ks_step, if_pos hlk, List.map_append, List.map_append]; exact u7
      · rw [filt_step hd, if_pos hl, wds_append, wds_one, List.map_append]; exact u9
      · exact (((q11.trans' f12 (by simp; omega)).trans' f13 (by simp; omega)).trans' f14 (fun b hb => .inr (by have := q10 b hb; omega))).trans' f15 (by simp; omega)
    · rintro cs' h10 ⟨rfl, _, j⟩
      try simp (disch := first | assumption | omega | (apply At.mk; with_unfolding_all rfl)) only [↓go_eq, ↓ent_eq, Mv, NilC_at, Fld_at, add_mk, Nat.zero_add, Nat.add_zero, Add64, Sub64, Mul64, Quo64, Rem64, Neg64, Cvt64, CvtU8, CvtU16, CvtU32, CvtU64, AddU64, SubU64, MulU64, Shr64, Shr_u8, Shr_u16, Shr_u32, Shr_u64, And1, And31, And32, Eql64, Neq64, Bin_lss, Bin_leq, Bin_gtr, Bin_geq, Bin_bool_eql, Bin_bool_neq, Bin_ptr_nil_eql, Bin_ptr_nil_neq, Not_dec, Un_not, Pick_t, Pick_f, Pick_pos, Pick_neg, Gd_tt, Gd_tf, Gd_ft, Gd_ff, Gd_pos_t, Gd_neg_t, Gd_pos_f, Gd_neg_f, Gd_undef, If_t, If_f, If_pos, If_neg, CallF_eq, Max_two, Min_two, Len_rd, Len_own, Ld_blkE, Idx_rdN, Idx_ownN, Idx_rdE, Idx_ownE, IdxAE, LdA_two, Idx_at0, Ext_atE, Len_at, Int.toNat_natCast, Int.toNat_zero, Int.toNat_one, List.length_map, List.length_append, List.length_cons, List.length_nil, List.length_take, List.length_set, List.length_replicate, Bool.not_true, Bool.not_false, decide_true, decide_false, BEq.rfl, bne_self_eq_false, tf_beq, ft_beq, tf_bne, ft_bne, not_true_eq_false, not_false_eq_true, app]
      exact hJ (c, h9.size) h10 ⟨by omega, j⟩
    · intro ex h' hx; exact hx.elim
  · rintro ⟨c, M⟩ h9 ⟨hM, ⟨q1, q2, q3, q4, q5, q6, q7, ⟨v, bs, q8, q9, q10⟩, q11, q12⟩⟩
    simp only at hM q1 q3 q4 q5 q6 q7 q8 q9 q10 q12
    rw [List.take_length] at q9
    have hbs : ∀ b, b < h8.size → b ∉ bs := fun b hb hm => by have := q10 b hm; omega
    obtain ⟨⟨wv, wb, mb, lv, a1, o1, m1, rfl, d1, d2, d3, nd, hm⟩, bd, gu⟩ := q2
    have hgl := hF g (by simp)
    have hml := hF mb (by simp)
    have hwl : ∀ b ∈ wb, b < h.size := fun b hb => hF b (by simp [hb])
    refine Jn_fn (σ := Unit) (fun _ => [ptr t3]) (fun _ h' => Blk h' g [v, Iv lim, Iv (lv.length : Nat), .map (some lb)] ∧ Fr [g] h9 h') ?_ ?_
    · intro J hJ
      have fin : ∀ {h' : Heap}, Blk h' g [v, Iv lim, Iv (lv.length : Nat), .map (some lb)] → Fr [g] h9 h' → J (ptr t3) h' := fun b f => hJ () _ ⟨b, f⟩
      clear hJ
      have ex : ∀ {h' : Heap} {x : Nat} {w : Value}, Blk h9 x [w] → x ≠ g → Fr [g] h9 h' → Blk h' x [w] := fun b hne f => b.fr f (by simpa using hne)
      have step1 : ∀ {X : Ret}, (∀ h', Blk h' g [v, Iv lim, Iv (lv.length : Nat), .map (some mb)] → Fr [g] h9 h' → X undef h') → St (.pointer (some ⟨g, 0, none⟩)) v X h9 := fun hX => St_blk a1 (by simp) q9.rd.isCell fun h' b' f' => hX h' b' f'
      have step2 : ∀ {h' : Heap} {X : Ret}, Blk h' g [v, Iv lim, Iv (lv.length : Nat), .map (some mb)] → Fr [g] h9 h' → (∀ h2, Blk h2 g [v, Iv lim, Iv (lv.length : Nat), .map (some lb)] → Fr [g] h9 h2 → X undef h2) → St (.pointer (some ⟨g, 3, none⟩)) (.map (some lb)) X h' := fun b f hX => St_blk b (by simp) rfl fun h2 b2 f2 => hX h2 b2 (f.trans f2)
      have ng : h.size ≠ g ∧ t4 ≠ g := by omega
      try simp (disch := first | assumption | omega | (apply At.mk; with_unfolding_all rfl)) only [↓go_eq, ↓ent_eq, Mv, NilC_at, Fld_at, add_mk, Nat.zero_add, Nat.add_zero, Add64, Sub64, Mul64, Quo64, Rem64, Neg64, Cvt64, CvtU8, CvtU16, CvtU32, CvtU64, AddU64, SubU64, MulU64, Shr64, Shr_u8, Shr_u16, Shr_u32, Shr_u64, And1, And31, And32, Eql64, Neq64, Bin_lss, Bin_leq, Bin_gtr, Bin_geq, Bin_bool_eql, Bin_bool_neq, Bin_ptr_nil_eql, Bin_ptr_nil_neq, Not_dec, Un_not, Pick_t, Pick_f, Pick_pos, Pick_neg, Gd_tt, Gd_tf, Gd_ft, Gd_ff, Gd_pos_t, Gd_neg_t, Gd_pos_f, Gd_neg_f, Gd_undef, If_t, If_f, If_pos, If_neg, CallF_eq, Max_two, Min_two, Len_rd, Len_own, Ld_blkE, Idx_rdN, Idx_ownN, Idx_rdE, Idx_ownE, IdxAE, LdA_two, Idx_at0, Ext_atE, Len_at, Int.toNat_natCast, Int.toNat_zero, Int.toNat_one, List.length_map, List.length_append, List.length_cons, List.length_nil, List.length_take, List.length_set, List.length_replicate, Bool.not_true, Bool.not_false, decide_true, decide_false, BEq.rfl, bne_self_eq_false, tf_beq, ft_beq, tf_bne, ft_bne, not_true_eq_false, not_false_eq_true, app]
      refine ⟨⟨?_, ?_⟩, ⟨⟨?_, ?_⟩, ?_⟩⟩
      · try simp (disch := first | assumption | omega | (apply At.mk; with_unfolding_all rfl)) only [↓go_eq, ↓ent_eq, Mv, NilC_at, Fld_at, add_mk, Nat.zero_add, Nat.add_zero, Add64, Sub64, Mul64, Quo64, Rem64, Neg64, Cvt64, CvtU8, CvtU16, CvtU32, CvtU64, AddU64, SubU64, MulU64, Shr64, Shr_u8, Shr_u16, Shr_u32, Shr_u64, And1, And31, And32, Eql64, Neq64, Bin_lss, Bin_leq, Bin_gtr, Bin_geq, Bin_bool_eql, Bin_bool_neq, Bin_ptr_nil_eql, Bin_ptr_nil_neq, Not_dec, Un_not, Pick_t, Pick_f, Pick_pos, Pick_neg, Gd_tt, Gd_tf, Gd_ft, Gd_ff, Gd_pos_t, Gd_neg_t, Gd_pos_f, Gd_neg_f, Gd_undef, If_t, If_f, If_pos, If_neg, CallF_eq, Max_two, Min_two, Len_rd, Len_own, Ld_blkE, Idx_rdN, Idx_ownN, Idx_rdE, Idx_ownE, IdxAE, LdA_two, Idx_at0, Ext_atE, Len_at, Int.toNat_natCast, Int.toNat_zero, Int.toNat_one, List.length_map, List.length_append, List.length_cons, List.length_nil, List.length_take, List.length_set, List.length_replicate, Bool.not_true, Bool.not_false, decide_true, decide_false, BEq.rfl, bne_self_eq_false, tf_beq, ft_beq, tf_bne, ft_bne, not_true_eq_false, not_false_eq_true, app]
        refine step1 fun h10 b10 f10 => ?_
        try simp (disch := first | assumption | omega | (apply At.mk; with_unfolding_all rfl)) only [↓go_eq, ↓ent_eq, Mv, NilC_at, Fld_at, add_mk, Nat.zero_add, Nat.add_zero, Add64, Sub64, Mul64, Quo64, Rem64, Neg64, Cvt64, CvtU8, CvtU16, CvtU32, CvtU64, AddU64, SubU64, MulU64, Shr64, Shr_u8, Shr_u16, Shr_u32, Shr_u64, And1, And31, And32, Eql64, Neq64, Bin_lss, Bin_leq, Bin_gtr, Bin_geq, Bin_bool_eql, Bin_bool_neq, Bin_ptr_nil_eql, Bin_ptr_nil_neq, Not_dec, Un_not, Pick_t, Pick_f, Pick_pos, Pick_neg, Gd_tt, Gd_tf, Gd_ft, Gd_ff, Gd_pos_t, Gd_neg_t, Gd_pos_f, Gd_neg_f, Gd_undef, If_t, If_f, If_pos, If_neg, CallF_eq, Max_two, Min_two, Len_rd, Len_own, Ld_blkE, Idx_rdN, Idx_ownN, Idx_rdE, Idx_ownE, IdxAE, LdA_two, Idx_at0, Ext_atE, Len_at, Int.toNat_natCast, Int.toNat_zero, Int.toNat_one, List.length_map, List.length_append, List.length_cons, List.length_nil, List.length_take, List.length_set, List.length_replicate, Bool.not_true, Bool.not_false, decide_true, decide_false, BEq.rfl, bne_self_eq_false, tf_beq, ft_beq, tf_bne, ft_bne, not_true_eq_false, not_false_eq_true, app]
        refine step2 b10 f10 fun h11 b11 f11 => ?_
        try simp (disch := first | assumption | omega | (apply At.mk; with_unfolding_all rfl)) only [↓go_eq, ↓ent_eq, Mv, NilC_at, Fld_at, add_mk, Nat.zero_add, Nat.add_zero, Add64, Sub64, Mul64, Quo64, Rem64, Neg64, Cvt64, CvtU8, CvtU16, CvtU32, CvtU64, AddU64, SubU64, MulU64, Shr64, Shr_u8, Shr_u16, Shr_u32, Shr_u64, And1, And31, And32, Eql64, Neq64, Bin_lss, Bin_leq, Bin_gtr, Bin_geq, Bin_bool_eql, Bin_bool_neq, Bin_ptr_nil_eql, Bin_ptr_nil_neq, Not_dec, Un_not, Pick_t, Pick_f, Pick_pos, Pick_neg, Gd_tt, Gd_tf, Gd_ft, Gd_ff, Gd_pos_t, Gd_neg_t, Gd_pos_f, Gd_neg_f, Gd_undef, If_t, If_f, If_pos, If_neg, CallF_eq, Max_two, Min_two, Len_rd, Len_own, Ld_blkE, Idx_rdN, Idx_ownN, Idx_rdE, Idx_ownE, IdxAE, LdA_two, Idx_at0, Ext_atE, Len_at, Int.toNat_natCast, Int.toNat_zero, Int.toNat_one, List.length_map, List.length_append, List.length_cons, List.length_nil, List.length_take, List.length_set, List.length_replicate, Bool.not_true, Bool.not_false, decide_true, decide_false, BEq.rfl, bne_self_eq_false, tf_beq, ft_beq, tf_bne, ft_bne, not_true_eq_false, not_false_eq_true, app]
        exact fin b11 f11
      · refine step1 fun h10 b10 f10 => ?_
        have e4 := ex q5 ng.2 f10
        try simp (disch := first | assumption | omega | (apply At.mk; with_unfolding_all rfl)) only [↓go_eq, ↓ent_eq, Mv, NilC_at, Fld_at, add_mk, Nat.zero_add, Nat.add_zero, Add64, Sub64, Mul64, Quo64, Rem64, Neg64, Cvt64, CvtU8, CvtU16, CvtU32, CvtU64, AddU64, SubU64, MulU64, Shr64, Shr_u8, Shr_u16, Shr_u32, Shr_u64, And1, And31, And32, Eql64, Neq64, Bin_lss, Bin_leq, Bin_gtr, Bin_geq, Bin_bool_eql, Bin_bool_neq, Bin_ptr_nil_eql, Bin_ptr_nil_neq, Not_dec, Un_not, Pick_t, Pick_f, Pick_pos, Pick_neg, Gd_tt, Gd_tf, Gd_ft, Gd_ff, Gd_pos_t, Gd_neg_t, Gd_pos_f, Gd_neg_f, Gd_undef, If_t, If_f, If_pos, If_neg, CallF_eq, Max_two, Min_two, Len_rd, Len_own, Ld_blkE, Idx_rdN, Idx_ownN, Idx_rdE, Idx_ownE, IdxAE, LdA_two, Idx_at0, Ext_atE, Len_at, Int.toNat_natCast, Int.toNat_zero, Int.toNat_one, List.length_map, List.length_append, List.length_cons, List.length_nil, List.length_take, List.length_set, List.length_replicate, Bool.not_true, Bool.not_false, decide_true, decide_false, BEq.rfl, bne_self_eq_false, tf_beq, ft_beq, tf_bne, ft_bne, not_true_eq_false, not_false_eq_true, app]
        refine step2 b10 f10 fun h11 b11 f11 => ?_
        try simp (disch := first | assumption | omega | (apply At.mk; with_unfolding_all rfl)) only [↓go_eq, ↓ent_eq, Mv, NilC_at, Fld_at, add_mk, Nat.zero_add, Nat.add_zero, Add64, Sub64, Mul64, Quo64, Rem64, Neg64, Cvt64, CvtU8, CvtU16, CvtU32, CvtU64, AddU64, SubU64, MulU64, Shr64, Shr_u8, Shr_u16, Shr_u32, Shr_u64, And1, And31, And32, Eql64, Neq64, Bin_lss, Bin_leq, Bin_gtr, Bin_geq, Bin_bool_eql, Bin_bool_neq, Bin_ptr_nil_eql, Bin_ptr_nil_neq, Not_dec, Un_not, Pick_t, Pick_f, Pick_pos, Pick_neg, Gd_tt, Gd_tf, Gd_ft, Gd_ff, Gd_pos_t, Gd_neg_t, Gd_pos_f, Gd_neg_f, Gd_undef, If_t, If_f, If_pos, If_neg, CallF_eq, Max_two, Min_two, Len_rd, Len_own, Ld_blkE, Idx_rdN, Idx_ownN, Idx_rdE, Idx_ownE, IdxAE, LdA_two, Idx_at0, Ext_atE, Len_at, Int.toNat_natCast, Int.toNat_zero, Int.toNat_one, List.length_map, List.length_append, List.length_cons, List.length_nil, List.length_take, List.length_set, List.length_replicate, Bool.not_true, Bool.not_false, decide_true, decide_false, BEq.rfl, bne_self_eq_false, tf_beq, ft_beq, tf_bne, ft_bne, not_true_eq_false, not_false_eq_true, app]
        exact fin b11 f11
      · try simp (disch := first | assumption | omega | (apply At.mk; with_unfolding_all rfl)) only [↓go_eq, ↓ent_eq, Mv, NilC_at, Fld_at, add_mk, Nat.zero_add, Nat.add_zero, Add64, Sub64, Mul64, Quo64, Rem64, Neg64, Cvt64, CvtU8, CvtU16, CvtU32, CvtU64, AddU64, SubU64, MulU64, Shr64, Shr_u8, Shr_u16, Shr_u32, Shr_u64, And1, And31, And32, Eql64, Neq64, Bin_lss, Bin_leq, Bin_gtr, Bin_geq, Bin_bool_eql, Bin_bool_neq, Bin_ptr_nil_eql, Bin_ptr_nil_neq, Not_dec, Un_not, Pick_t, Pick_f, Pick_pos, Pick_neg, Gd_tt, Gd_tf, Gd_ft, Gd_ff, Gd_pos_t, Gd_neg_t, Gd_pos_f, Gd_neg_f, Gd_undef, If_t, If_f, If_pos, If_neg, CallF_eq, Max_two, Min_two, Len_rd, Len_own, Ld_blkE, Idx_rdN, Idx_ownN, Idx_rdE, Idx_ownE, IdxAE, LdA_two, Idx_at0, Ext_atE, Len_at, Int.toNat_natCast, Int.toNat_zero, Int.toNat_one, List.length_map, List.length_append, List.length_cons, List.length_nil, List.length_take, List.length_set, List.length_replicate, Bool.not_true, Bool.not_false, decide_true, decide_false, BEq.rfl, bne_self_eq_false, tf_beq, ft_beq, tf_bne, ft_bne, not_true_eq_false, not_false_eq_true, app]
        refine step1 fun h10 b10 f10 => ?_
        try simp (disch := first | assumption | omega | (apply At.mk; with_unfolding_all rfl)) only [↓go_eq, ↓ent_eq, Mv, NilC_at, Fld_at, add_mk, Nat.zero_add, Nat.add_zero, Add64, Sub64, Mul64, Quo64, Rem64, Neg64, Cvt64, CvtU8, CvtU16, CvtU32, CvtU64, AddU64, SubU64, MulU64, Shr64, Shr_u8, Shr_u16, Shr_u32, Shr_u64, And1, And31, And32, Eql64, Neq64, Bin_lss, Bin_leq, Bin_gtr, Bin_geq, Bin_bool_eql, Bin_bool_neq, Bin_ptr_nil_eql, Bin_ptr_nil_neq, Not_dec, Un_not, Pick_t, Pick_f, Pick_pos, Pick_neg, Gd_tt, Gd_tf, Gd_ft, Gd_ff, Gd_pos_t, Gd_neg_t, Gd_pos_f, Gd_neg_f, Gd_undef, If_t, If_f, If_pos, If_neg, CallF_eq, Max_two, Min_two, Len_rd, Len_own, Ld_blkE, Idx_rdN, Idx_ownN, Idx_rdE, Idx_ownE, IdxAE, LdA_two, Idx_at0, Ext_atE, Len_at, Int.toNat_natCast, Int.toNat_zero, Int.toNat_one, List.length_map, List.length_append, List.length_cons, List.length_nil, List.length_take, List.length_set, List.length_replicate, Bool.not_true, Bool.not_false, decide_true, decide_false, BEq.rfl, bne_self_eq_false, tf_beq, ft_beq, tf_bne, ft_bne, not_true_eq_false, not_false_eq_true, app]
        refine step2 b10 f10 fun h11 b11 f11 => ?_
        try simp (disch := first | assumption | omega | (apply At.mk; with_unfolding_all rfl)) only [↓go_eq, ↓ent_eq, Mv, NilC_at, Fld_at, add_mk, Nat.zero_add, Nat.add_zero, Add64, Sub64, Mul64, Quo64, Rem64, Neg64, Cvt64, CvtU8, CvtU16, CvtU32, CvtU64, AddU64, SubU64, MulU64, Shr64, Shr_u8, Shr_u16, Shr_u32, Shr_u64, And1, And31, And32, Eql64, Neq64, Bin_lss, Bin_leq, Bin_gtr, Bin_geq, Bin_bool_eql, Bin_bool_neq, Bin_ptr_nil_eql, Bin_ptr_nil_neq, Not_dec, Un_not, Pick_t, Pick_f, Pick_pos, Pick_neg, Gd_tt, Gd_tf, Gd_ft, Gd_ff, Gd_pos_t, Gd_neg_t, Gd_pos_f, Gd_neg_f, Gd_undef, If_t, If_f, If_pos, If_neg, CallF_eq, Max_two, Min_two, Len_rd, Len_own, Ld_blkE, Idx_rdN, Idx_ownN, Idx_rdE, Idx_ownE, IdxAE, LdA_two, Idx_at0, Ext_atE, Len_at, Int.toNat_natCast, Int.toNat_zero, Int.toNat_one, List.length_map, List.length_append, List.length_cons, List.length_nil, List.length_take, List.length_set, List.length_replicate, Bool.not_true, Bool.not_false, decide_true, decide_false, BEq.rfl, bne_self_eq_false, tf_beq, ft_beq, tf_bne, ft_bne, not_true_eq_false, not_false_eq_true, app]
        exact fin b11 f11
      · refine step1 fun h10 b10 f10 => ?_
        have e1 := ex q3 ng.1 f10
        try simp (disch := first | assumption | omega | (apply At.mk; with_unfolding_all rfl)) only [↓go_eq, ↓ent_eq, Mv, NilC_at, Fld_at, add_mk, Nat.zero_add, Nat.add_zero, Add64, Sub64, Mul64, Quo64, Rem64, Neg64, Cvt64, CvtU8, CvtU16, CvtU32, CvtU64, AddU64, SubU64, MulU64, Shr64, Shr_u8, Shr_u16, Shr_u32, Shr_u64, And1, And31, And32, Eql64, Neq64, Bin_lss, Bin_leq, Bin_gtr, Bin_geq, Bin_bool_eql, Bin_bool_neq, Bin_ptr_nil_eql, Bin_ptr_nil_neq, Not_dec, Un_not, Pick_t, Pick_f, Pick_pos, Pick_neg, Gd_tt, Gd_tf, Gd_ft, Gd_ff, Gd_pos_t, Gd_neg_t, Gd_pos_f, Gd_neg_f, Gd_undef, If_t, If_f, If_pos, If_neg, CallF_eq, Max_two, Min_two, Len_rd, Len_own, Ld_blkE, Idx_rdN, Idx_ownN, Idx_rdE, Idx_ownE, IdxAE, LdA_two, Idx_at0, Ext_atE, Len_at, Int.toNat_natCast, Int.toNat_zero, Int.toNat_one, List.length_map, List.length_append, List.length_cons, List.length_nil, List.length_take, List.length_set, List.length_replicate, Bool.not_true, Bool.not_false, decide_true, decide_false, BEq.rfl, bne_self_eq_false, tf_beq, ft_beq, tf_bne, ft_bne, not_true_eq_false, not_false_eq_true, app]
        refine step2 b10 f10 fun h11 b11 f11 => ?_
        try simp (disch := first | assumption | omega | (apply At.mk; with_unfolding_all rfl)) only [↓go_eq, ↓ent_eq, Mv, NilC_at, Fld_at, add_mk, Nat.zero_add, Nat.add_zero, Add64, Sub64, Mul64, Quo64, Rem64, Neg64, Cvt64, CvtU8, CvtU16, CvtU32, CvtU64, AddU64, SubU64, MulU64, Shr64, Shr_u8, Shr_u16, Shr_u32, Shr_u64, And1, And31, And32, Eql64, Neq64, Bin_lss, Bin_leq, Bin_gtr, Bin_geq, Bin_bool_eql, Bin_bool_neq, Bin_ptr_nil_eql, Bin_ptr_nil_neq, Not_dec, Un_not, Pick_t, Pick_f, Pick_pos, Pick_neg, Gd_tt, Gd_tf, Gd_ft, Gd_ff, Gd_pos_t, Gd_neg_t, Gd_pos_f, Gd_neg_f, Gd_undef, If_t, If_f, If_pos, If_neg, CallF_eq, Max_two, Min_two, Len_rd, Len_own, Ld_blkE, Idx_rdN, Idx_ownN, Idx_rdE, Idx_ownE, IdxAE, LdA_two, Idx_at0, Ext_atE, Len_at, Int.toNat_natCast, Int.toNat_zero, Int.toNat_one, List.length_map, List.length_append, List.length_cons, List.length_nil, List.length_take, List.length_set, List.length_replicate, Bool.not_true, Bool.not_false, decide_true, decide_false, BEq.rfl, bne_self_eq_false, tf_beq, ft_beq, tf_bne, ft_bne, not_true_eq_false, not_false_eq_true, app]
        exact fin b11 f11
      · refine step1 fun h10 b10 f10 => ?_
        have e1 := ex q3 ng.1 f10
        have e4 := ex q5 ng.2 f10
        try simp (disch := first | assumption | omega | (apply At.mk; with_unfolding_all rfl)) only [↓go_eq, ↓ent_eq, Mv, NilC_at, Fld_at, add_mk, Nat.zero_add, Nat.add_zero, Add64, Sub64, Mul64, Quo64, Rem64, Neg64, Cvt64, CvtU8, CvtU16, CvtU32, CvtU64, AddU64, SubU64, MulU64, Shr64, Shr_u8, Shr_u16, Shr_u32, Shr_u64, And1, And31, And32, Eql64, Neq64, Bin_lss, Bin_leq, Bin_gtr, Bin_geq, Bin_bool_eql, Bin_bool_neq, Bin_ptr_nil_eql, Bin_ptr_nil_neq, Not_dec, Un_not, Pick_t, Pick_f, Pick_pos, Pick_neg, Gd_tt, Gd_tf, Gd_ft, Gd_ff, Gd_pos_t, Gd_neg_t, Gd_pos_f, Gd_neg_f, Gd_undef, If_t, If_f, If_pos, If_neg, CallF_eq, Max_two, Min_two, Len_rd, Len_own, Ld_blkE, Idx_rdN, Idx_ownN, Idx_rdE, Idx_ownE, IdxAE, LdA_two, Idx_at0, Ext_atE, Len_at, Int.toNat_natCast, Int.toNat_zero, Int.toNat_one, List.length_map, List.length_append, List.length_cons, List.length_nil, List.length_take, List.length_set, List.length_replicate, Bool.not_true, Bool.not_false, decide_true, decide_false, BEq.rfl, bne_self_eq_false, tf_beq, ft_beq, tf_bne, ft_bne, not_true_eq_false, not_false_eq_true, app]
        refine step2 b10 f10 fun h11 b11 f11 => ?_
        try simp (disch := first | assumption | omega | (apply At.mk; with_unfolding_all rfl)) only [↓go_eq, ↓ent_eq, Mv, NilC_at, Fld_at, add_mk, Nat.zero_add, Nat.add_zero, Add64, Sub64, Mul64, Quo64, Rem64, Neg64, Cvt64, CvtU8, CvtU16, CvtU32, CvtU64, AddU64, SubU64, MulU64, Shr64, Shr_u8, Shr_u16, Shr_u32, Shr_u64, And1, And31, And32, Eql64, Neq64, Bin_lss, Bin_leq, Bin_gtr, Bin_geq, Bin_bool_eql, Bin_bool_neq, Bin_ptr_nil_eql, Bin_ptr_nil_neq, Not_dec, Un_not, Pick_t, Pick_f, Pick_pos, Pick_neg, Gd_tt, Gd_tf, Gd_ft, Gd_ff, Gd_pos_t, Gd_neg_t, Gd_pos_f, Gd_neg_f, Gd_undef, If_t, If_f, If_pos, If_neg, CallF_eq, Max_two, Min_two, Len_rd, Len_own, Ld_blkE, Idx_rdN, Idx_ownN, Idx_rdE, Idx_ownE, IdxAE, LdA_two, Idx_at0, Ext_atE, Len_at, Int.toNat_natCast, Int.toNat_zero, Int.toNat_one, List.length_map, List.length_append, List.length_cons, List.length_nil, List.length_take, List.length_set, List.length_replicate, Bool.not_true, Bool.not_false, decide_true, decide_false, BEq.rfl, bne_self_eq_false, tf_beq, ft_beq, tf_bne, ft_bne, not_true_eq_false, not_false_eq_true, app]
        exact fin b11 f11
    · rintro - h10 ⟨b10, f10⟩
      have b3' := q4.fr f10 (by simp; omega)
      try simp (disch := first | assumption | omega | (apply At.mk; with_unfolding_all rfl)) only [↓go_eq, ↓ent_eq, Mv, NilC_at, Fld_at, add_mk, Nat.zero_add, Nat.add_zero, Add64, Sub64, Mul64, Quo64, Rem64, Neg64, Cvt64, CvtU8, CvtU16, CvtU32, CvtU64, AddU64, SubU64, MulU64, Shr64, Shr_u8, Shr_u16, Shr_u32, Shr_u64, And1, And31, And32, Eql64, Neq64, Bin_lss, Bin_leq, Bin_gtr, Bin_geq, Bin_bool_eql, Bin_bool_neq, Bin_ptr_nil_eql, Bin_ptr_nil_neq, Not_dec, Un_not, Pick_t, Pick_f, Pick_pos, Pick_neg, Gd_tt, Gd_tf, Gd_ft, Gd_ff, Gd_pos_t, Gd_neg_t, Gd_pos_f, Gd_neg_f, Gd_undef, If_t, If_f, If_pos, If_neg, CallF_eq, Max_two, Min_two, Len_rd, Len_own, Ld_blkE, Idx_rdN, Idx_ownN, Idx_rdE, Idx_ownE, IdxAE, LdA_two, Idx_at0, Ext_atE, Len_at, Int.toNat_natCast, Int.toNat_zero, Int.toNat_one, List.length_map, List.length_append, List.length_cons, List.length_nil, List.length_take, List.length_set, List.length_replicate, Bool.not_true, Bool.not_false, decide_true, decide_false, BEq.rfl, bne_self_eq_false, tf_beq, ft_beq, tf_bne, ft_bne, not_true_eq_false, not_false_eq_true, app]
      refine Lv_mk fun h11 s11 => ?_
      have z10 := f10.size
      have hgb : g ∉ bs := hbs g (by omega)
      have e11 := (b10.shut s11)
      have v11 := (q9.fr f10 (by intro b hb; simp; intro e; subst e; exact hgb hb)).shut s11
      have l11 := (q7.fr f10 (by simp; omega)).shut s11
      have m11 := (q6.fr f10 (by simp; omega)).shut s11
      have hlen : lv.length = (lvL cs cs.length).length := by
        rw [lv_count nd hm, lv_count (cs := cs.filter live) (lvL_nodup cs cs.length) fun r => lvL_mem, List.countP_filter]
        refine List.countP_congr fun c _ => ?_
        unfold live; simp
      try simp (disch := first | assumption | omega | (apply At.mk; with_unfolding_all rfl)) only [↓go_eq, ↓ent_eq, Mv, NilC_at, Fld_at, add_mk, Nat.zero_add, Nat.add_zero, Add64, Sub64, Mul64, Quo64, Rem64, Neg64, Cvt64, CvtU8, CvtU16, CvtU32, CvtU64, AddU64, SubU64, MulU64, Shr64, Shr_u8, Shr_u16, Shr_u32, Shr_u64, And1, And31, And32, Eql64, Neq64, Bin_lss, Bin_leq, Bin_gtr, Bin_geq, Bin_bool_eql, Bin_bool_neq, Bin_ptr_nil_eql, Bin_ptr_nil_neq, Not_dec, Un_not, Pick_t, Pick_f, Pick_pos, Pick_neg, Gd_tt, Gd_tf, Gd_ft, Gd_ff, Gd_pos_t, Gd_neg_t, Gd_pos_f, Gd_neg_f, Gd_undef, If_t, If_f, If_pos, If_neg, CallF_eq, Max_two, Min_two, Len_rd, Len_own, Ld_blkE, Idx_rdN, Idx_ownN, Idx_rdE, Idx_ownE, IdxAE, LdA_two, Idx_at0, Ext_atE, Len_at, Int.toNat_natCast, Int.toNat_zero, Int.toNat_one, List.length_map, List.length_append, List.length_cons, List.length_nil, List.length_take, List.length_set, List.length_replicate, Bool.not_true, Bool.not_false, decide_true, decide_false, BEq.rfl, bne_self_eq_false, tf_beq, ft_beq, tf_bne, ft_bne, not_true_eq_false, not_false_eq_true, app]
      refine hk mvb h11 (g :: lb :: bs) m11 ⟨⟨v, bs, lb, lvL cs cs.length, by rw [← hlen]; exact e11, v11, l11, rfl, hgb, hbs lb (by omega), by omega, lvL_nodup cs _, fun r => lvL_mem⟩, ?_, fun x hx => gu x (List.mem_filter.1 hx).1⟩ ?_ ?_ (by omega) ?_
      · rw [← newOff_end]
        have := newOff_le_off (cs := cs) (k := cs.length) (Nat.le_refl _)
        rw [wds_len] at bd; omega
      · exact ((q11.mono (by simp)).trans (f10.mono (by simp))).shut s11
      · intro b hb
        rcases List.mem_cons.1 hb with rfl | hb
        · simp
        · rcases List.mem_cons.1 hb with rfl | hb
          · exact .inr (by omega)
          · exact .inr (by have := q10 b hb; omega)
      · simp only [List.mem_cons, not_or]
        exact ⟨by omega, by omega, hbs mvb (by omega)⟩
end
end Go.Proofs.Ythekbpaekopmfaa
