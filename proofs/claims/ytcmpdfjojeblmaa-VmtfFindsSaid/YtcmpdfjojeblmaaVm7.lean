/- Who is found: the first that isn't skipped. Conditions: those typed ahead of each theorem. -/
import Derived.Test.YtcmpdfjojeblmaaVm6
namespace Go.Proofs.Ytcmpdfjojeblmaa
open Go.Pt
set_option linter.unusedVariables false
set_option linter.unusedSimpArgs false
theorem Shut.fr {N : Nat} {h h' : Heap} (s : Shut N h h') : ∃ S : List Nat, (∀ x ∈ S, N ≤ x) ∧ Fr S h h' :=
  ⟨List.range' N h.size, fun x hx => (List.mem_range'_1.1 hx).1, by rw [s.size]; exact Nat.le_refl _, fun c hc hS => s.keep c (.inl (by
    rcases Nat.lt_or_ge c N with q | q
    · exact q
    · exact absurd (List.mem_range'_1.2 ⟨q, by omega⟩) hS))⟩
/-- The place of the first that isn't skipped. -/
def fnd (p : Nat → Bool) (row : List Nat) : Nat := row.findIdx fun x => !p x
theorem vmtf_Queue_Find.spec {g b n : Nat} {m : Qm} {sk : Value} (hn : n ≤ 1000) (hsk : isCell sk = true) (p : Nat → Bool) {S0 : List Nat} {K : Ret} {h : Heap} (I : Nat → Heap → Prop) (hS0 : ∀ x ∈ S0, x < h.size ∧ x ≠ g ∧ x ≠ b)
    (q : QS h g b n m) (hI0 : I 0 h) (hst : ∀ i S h1 h2, (∀ x ∈ S, h.size ≤ x) → Fr S h1 h2 → I i h1 → I i h2)
    (hcall : ∀ (i x : Nat) (h1 : Heap), m.row[i]? = some x → h.size ≤ h1.size → I i h1 → CallV Try.prog sk [Iv x] (fun v h2 => v = .bool (p x) ∧ I (i + 1) h2 ∧ Fr S0 h1 h2) h1)
    (hk : ∀ h', Fr S0 h h' → QS h' g b n m → I (min (fnd p m.row + 1) m.row.length) h' → K (.tuple #[Iv (m.row.getD (fnd p m.row) 0 : Nat), .bool (decide (fnd p m.row < m.row.length))]) h') :
    CallH Try.prog vmtf_Queue_Find.id #[ptr g, sk] K h := by
  refine vmtf_Queue_Find.ok ?_
  simp only [vmtf_Queue_Find.pt]
  try simp (disch := first | assumption | omega | (apply At.mk; with_unfolding_all rfl)) only [↓go_eq, ↓ent_eq, Mv, NilC_at, Fld_at, add_mk, Nat.zero_add, Nat.add_zero, Add64, Sub64, Mul64, Quo64, Rem64, Neg64, Cvt64, CvtU8, CvtU16, CvtU32, CvtU64, AddU64, SubU64, MulU64, Shr64, Shr_u8, Shr_u16, Shr_u32, Shr_u64, And1, And31, Eql64, Neq64, Bin_lss, Bin_leq, Bin_gtr, Bin_geq, Bin_bool_eql, Bin_bool_neq, Bin_ptr_nil_eql, Bin_ptr_nil_neq, Not_dec, Un_not, Pick_t, Pick_f, Pick_pos, Pick_neg, Gd_tt, Gd_tf, Gd_ft, Gd_ff, Gd_pos_t, Gd_neg_t, Gd_pos_f, Gd_neg_f, Gd_undef, If_t, If_f, If_pos, If_neg, CallF_eq, Max_two, Min_two, Len_rd, Len_own, Ld_blkE, Idx_rdN, Idx_ownN, Idx_rdE, Idx_ownE, IdxAE, Idx_at0, Ext_atE, Len_at, Int.toNat_natCast, Int.toNat_zero, Int.toNat_one, List.length_map, List.length_append, List.length_cons, List.length_nil, List.length_take, List.length_set, List.length_replicate, Bool.not_true, Bool.not_false, decide_true, decide_false, BEq.rfl, bne_self_eq_false, not_true_eq_false, not_false_eq_true, app]
  rw [cells_one hsk]
  refine New_blk fun h1 b1 f1 s1 => ?_
  try simp (disch := first | assumption | omega | (apply At.mk; with_unfolding_all rfl)) only [↓go_eq, ↓ent_eq, Mv, NilC_at, Fld_at, add_mk, Nat.zero_add, Nat.add_zero, Add64, Sub64, Mul64, Quo64, Rem64, Neg64, Cvt64, CvtU8, CvtU16, CvtU32, CvtU64, AddU64, SubU64, MulU64, Shr64, Shr_u8, Shr_u16, Shr_u32, Shr_u64, And1, And31, Eql64, Neq64, Bin_lss, Bin_leq, Bin_gtr, Bin_geq, Bin_bool_eql, Bin_bool_neq, Bin_ptr_nil_eql, Bin_ptr_nil_neq, Not_dec, Un_not, Pick_t, Pick_f, Pick_pos, Pick_neg, Gd_tt, Gd_tf, Gd_ft, Gd_ff, Gd_pos_t, Gd_neg_t, Gd_pos_f, Gd_neg_f, Gd_undef, If_t, If_f, If_pos, If_neg, CallF_eq, Max_two, Min_two, Len_rd, Len_own, Ld_blkE, Idx_rdN, Idx_ownN, Idx_rdE, Idx_ownE, IdxAE, Idx_at0, Ext_atE, Len_at, Int.toNat_natCast, Int.toNat_zero, Int.toNat_one, List.length_map, List.length_append, List.length_cons, List.length_nil, List.length_take, List.length_set, List.length_replicate, Bool.not_true, Bool.not_false, decide_true, decide_false, BEq.rfl, bne_self_eq_false, not_true_eq_false, not_false_eq_true, app]
  refine New_blk fun h2 b2 f2 s2 => ?_
  try simp (disch := first | assumption | omega | (apply At.mk; with_unfolding_all rfl)) only [↓go_eq, ↓ent_eq, Mv, NilC_at, Fld_at, add_mk, Nat.zero_add, Nat.add_zero, Add64, Sub64, Mul64, Quo64, Rem64, Neg64, Cvt64, CvtU8, CvtU16, CvtU32, CvtU64, AddU64, SubU64, MulU64, Shr64, Shr_u8, Shr_u16, Shr_u32, Shr_u64, And1, And31, Eql64, Neq64, Bin_lss, Bin_leq, Bin_gtr, Bin_geq, Bin_bool_eql, Bin_bool_neq, Bin_ptr_nil_eql, Bin_ptr_nil_neq, Not_dec, Un_not, Pick_t, Pick_f, Pick_pos, Pick_neg, Gd_tt, Gd_tf, Gd_ft, Gd_ff, Gd_pos_t, Gd_neg_t, Gd_pos_f, Gd_neg_f, Gd_undef, If_t, If_f, If_pos, If_neg, CallF_eq, Max_two, Min_two, Len_rd, Len_own, Ld_blkE, Idx_rdN, Idx_ownN, Idx_rdE, Idx_ownE, IdxAE, Idx_at0, Ext_atE, Len_at, Int.toNat_natCast, Int.toNat_zero, Int.toNat_one, List.length_map, List.length_append, List.length_cons, List.length_nil, List.length_take, List.length_set, List.length_replicate, Bool.not_true, Bool.not_false, decide_true, decide_false, BEq.rfl, bne_self_eq_false, not_true_eq_false, not_false_eq_true, app]
  refine New_blk fun h3 b3 f3 s3 => ?_
  obtain ⟨kb, hkb⟩ : ∃ kb, kb = h.size := ⟨_, rfl⟩
  obtain ⟨ab, hab⟩ : ∃ ab, ab = h1.size := ⟨_, rfl⟩
  obtain ⟨cb, hcb⟩ : ∃ cb, cb = h2.size := ⟨_, rfl⟩
  have x1 : Blk h3 kb [sk] := by rw [hkb]; exact (b1.fr f2 (by simp)).fr f3 (by simp)
  have x2 : Blk h3 ab [Iv 0] := by rw [hab]; exact b2.fr f3 (by simp)
  have x3 : Blk h3 cb [.bool false] := by rw [hcb]; exact b3
  have f03 := (f1.trans f2).trans f3
  have kq := q.k_lt
  rw [← hab, ← hcb]
  have ek : (⟨h.size, 0, none⟩ : Addr) = ⟨kb, 0, none⟩ := by rw [hkb]
  have sz_f1 := f1.size
  have sz_f2 := f2.size
  have sz_f3 := f3.size
  have hord : kb < ab ∧ ab < cb ∧ cb < h3.size ∧ h.size = kb := by omega
  have sep : ∀ x, h.size ≤ x → x ∉ S0 := fun x hx hm => by have := hS0 x hm; omega
  have frS : ∀ {x y : Heap} {T : List Nat}, (∀ z ∈ T, h.size ≤ z) → Fr S0 h x → Fr T x y → Fr S0 h y := fun hT a b => a.trans' b fun z hz => .inr (hT z hz)
  have hlen := q.len
  have hfl : fnd p m.row ≤ m.row.length := List.findIdx_le_length
  -- how it ends
  have fin : ∀ (h4 : Heap) (j : Int) (t : Bool), Fr S0 h h4 → QS h4 g b n m → I (min (fnd p m.row + 1) m.row.length) h4 → Blk h4 ab [Iv j] → Blk h4 cb [.bool t] → j = (m.row.getD (fnd p m.row) 0 : Nat) → t = decide (fnd p m.row < m.row.length) →
      Lv h.size (fun h => Ld (ptr ab) (fun r0 h => Ld (ptr cb) (fun r1 h => K (.tuple #[r0, r1]) h) h) h) h4 := by
    rintro h4 j t f4 q4 i4 z1 z2 rfl rfl
    refine Lv_mk fun h5 s5 => ?_
    have z1 := z1.shut s5
    have z2 := z2.shut s5
    obtain ⟨S, hS, fS⟩ := Shut.fr s5
    have q5 : QS h5 g b n m := q4.fr fS ⟨fun hm => by have := hS _ hm; omega, fun hm => by have := hS _ hm; omega⟩
    try simp (disch := first | assumption | omega | (apply At.mk; with_unfolding_all rfl)) only [↓go_eq, ↓ent_eq, Mv, NilC_at, Fld_at, add_mk, Nat.zero_add, Nat.add_zero, Add64, Sub64, Mul64, Quo64, Rem64, Neg64, Cvt64, CvtU8, CvtU16, CvtU32, CvtU64, AddU64, SubU64, MulU64, Shr64, Shr_u8, Shr_u16, Shr_u32, Shr_u64, And1, And31, Eql64, Neq64, Bin_lss, Bin_leq, Bin_gtr, Bin_geq, Bin_bool_eql, Bin_bool_neq, Bin_ptr_nil_eql, Bin_ptr_nil_neq, Not_dec, Un_not, Pick_t, Pick_f, Pick_pos, Pick_neg, Gd_tt, Gd_tf, Gd_ft, Gd_ff, Gd_pos_t, Gd_neg_t, Gd_pos_f, Gd_neg_f, Gd_undef, If_t, If_f, If_pos, If_neg, CallF_eq, Max_two, Min_two, Len_rd, Len_own, Ld_blkE, Idx_rdN, Idx_ownN, Idx_rdE, Idx_ownE, IdxAE, Idx_at0, Ext_atE, Len_at, Int.toNat_natCast, Int.toNat_zero, Int.toNat_one, List.length_map, List.length_append, List.length_cons, List.length_nil, List.length_take, List.length_set, List.length_replicate, Bool.not_true, Bool.not_false, decide_true, decide_false, BEq.rfl, bne_self_eq_false, not_true_eq_false, not_false_eq_true, app]
    exact hk h5 (frS hS f4 fS) q5 (hst _ S _ _ hS fS i4)
  refine Jn_fn (σ := Unit) (fun _ => [ptr ab, ptr cb]) (fun _ h' => Fr S0 h h' ∧ QS h' g b n m ∧ I m.row.length h' ∧ fnd p m.row = m.row.length ∧ (∃ u, Blk h' ab [u]) ∧ (∃ u, Blk h' cb [u])) ?_ ?_
  · intro J hJ
    try simp (disch := first | assumption | omega | (apply At.mk; with_unfolding_all rfl)) only [↓go_eq, ↓ent_eq, Mv, NilC_at, Fld_at, add_mk, Nat.zero_add, Nat.add_zero, Add64, Sub64, Mul64, Quo64, Rem64, Neg64, Cvt64, CvtU8, CvtU16, CvtU32, CvtU64, AddU64, SubU64, MulU64, Shr64, Shr_u8, Shr_u16, Shr_u32, Shr_u64, And1, And31, Eql64, Neq64, Bin_lss, Bin_leq, Bin_gtr, Bin_geq, Bin_bool_eql, Bin_bool_neq, Bin_ptr_nil_eql, Bin_ptr_nil_neq, Not_dec, Un_not, Pick_t, Pick_f, Pick_pos, Pick_neg, Gd_tt, Gd_tf, Gd_ft, Gd_ff, Gd_pos_t, Gd_neg_t, Gd_pos_f, Gd_neg_f, Gd_undef, If_t, If_f, If_pos, If_neg, CallF_eq, Max_two, Min_two, Len_rd, Len_own, Ld_blkE, Idx_rdN, Idx_ownN, Idx_rdE, Idx_ownE, IdxAE, Idx_at0, Ext_atE, Len_at, Int.toNat_natCast, Int.toNat_zero, Int.toNat_one, List.length_map, List.length_append, List.length_cons, List.length_nil, List.length_take, List.length_set, List.length_replicate, Bool.not_true, Bool.not_false, decide_true, decide_false, BEq.rfl, bne_self_eq_false, not_true_eq_false, not_false_eq_true, app]
    refine vmtf_Queue_All.spec fun c h4 bc f4 hc => ?_
    rw [ek]
    try simp (disch := first | assumption | omega | (apply At.mk; with_unfolding_all rfl)) only [↓go_eq, ↓ent_eq, Mv, NilC_at, Fld_at, add_mk, Nat.zero_add, Nat.add_zero, Add64, Sub64, Mul64, Quo64, Rem64, Neg64, Cvt64, CvtU8, CvtU16, CvtU32, CvtU64, AddU64, SubU64, MulU64, Shr64, Shr_u8, Shr_u16, Shr_u32, Shr_u64, And1, And31, Eql64, Neq64, Bin_lss, Bin_leq, Bin_gtr, Bin_geq, Bin_bool_eql, Bin_bool_neq, Bin_ptr_nil_eql, Bin_ptr_nil_neq, Not_dec, Un_not, Pick_t, Pick_f, Pick_pos, Pick_neg, Gd_tt, Gd_tf, Gd_ft, Gd_ff, Gd_pos_t, Gd_neg_t, Gd_pos_f, Gd_neg_f, Gd_undef, If_t, If_f, If_pos, If_neg, CallF_eq, Max_two, Min_two, Len_rd, Len_own, Ld_blkE, Idx_rdN, Idx_ownN, Idx_rdE, Idx_ownE, IdxAE, Idx_at0, Ext_atE, Len_at, Int.toNat_natCast, Int.toNat_zero, Int.toNat_one, List.length_map, List.length_append, List.length_cons, List.length_nil, List.length_take, List.length_set, List.length_replicate, Bool.not_true, Bool.not_false, decide_true, decide_false, BEq.rfl, bne_self_eq_false, not_true_eq_false, not_false_eq_true, app]
    refine Rng_rule (by kernel_rfl) (vmtf_All_seq (g := g) (b := b) (n := n) (m := m))
      (fun i h' => (Blk h' c [ptr g] ∧ QS h' g b n m) ∧ Fr S0 h h' ∧ Blk h' kb [sk] ∧ (∃ u, Blk h' ab [u]) ∧ (∃ u, Blk h' cb [u]) ∧ I i h' ∧ h3.size ≤ h'.size ∧ i ≤ fnd p m.row)
      (fun ex h' => ex = .ret ∧ Fr S0 h h' ∧ QS h' g b n m ∧ fnd p m.row < m.row.length ∧ I (fnd p m.row + 1) h' ∧ Blk h' ab [Iv (m.row.getD (fnd p m.row) 0 : Nat)] ∧ Blk h' cb [.bool true]) ?_ ?_ ?_ ?_ ?_ ?_ ?_
    · rintro i h' ⟨x, _⟩; exact x
    · rintro i l h5 h6 hl o ⟨⟨y1, y2⟩, y3, y4, ⟨u, y5⟩, ⟨w, y6⟩, y7, y8, y9⟩
      have := f4.size
      refine ⟨⟨y1.one o, y2.one o⟩, frS (T := [l]) (by simp; omega) y3 o.fr, y4.one o, ⟨u, y5.one o⟩, ⟨w, y6.one o⟩, hst _ [l] _ _ (by simp; omega) o.fr y7, by rw [o.size]; exact y8, y9⟩
    · rintro ex l h5 h6 hl o ⟨rfl, y2, y3, y4, y5, y6, y7⟩
      have := f4.size
      exact ⟨rfl, frS (T := [l]) (by simp; omega) y2 o.fr, y3.one o, y4, hst _ [l] _ _ (by simp; omega) o.fr y5, y6.one o, y7.one o⟩
    · intro h5 f5
      have f := f4.trans f5
      have f35 := f03.trans f
      exact ⟨⟨bc.fr f5 (by simp), q.fr f35 (by simp)⟩, f35.mono (by simp), x1.fr f (by simp), ⟨_, x2.fr f (by simp)⟩, ⟨_, x3.fr f (by simp)⟩, hst _ [] _ _ (by simp) f35 hI0, f.size, Nat.zero_le _⟩
    · rintro i x h5 B N L hx hJ5 hB hN hL
      refine hB _ fun h6 => ?_
      rintro ⟨⟨y1, y2⟩, y3, y4, ⟨u, y5⟩, ⟨w, y6⟩, y7, y8, y9⟩
      have hlt : i < m.row.length := by
        rcases Nat.lt_or_ge i m.row.length with q | q
        · exact q
        · rw [List.getElem?_eq_none (by simpa using q)] at hx; cases hx
      have hy : m.row[i]? = some m.row[i] := List.getElem?_eq_getElem _
      have ey : x = Iv (m.row[i] : Nat) := by rw [List.getElem?_map, hy] at hx; simpa using hx.symm
      subst ey
      try simp (disch := first | assumption | omega | (apply At.mk; with_unfolding_all rfl)) only [↓go_eq, ↓ent_eq, Mv, NilC_at, Fld_at, add_mk, Nat.zero_add, Nat.add_zero, Add64, Sub64, Mul64, Quo64, Rem64, Neg64, Cvt64, CvtU8, CvtU16, CvtU32, CvtU64, AddU64, SubU64, MulU64, Shr64, Shr_u8, Shr_u16, Shr_u32, Shr_u64, And1, And31, Eql64, Neq64, Bin_lss, Bin_leq, Bin_gtr, Bin_geq, Bin_bool_eql, Bin_bool_neq, Bin_ptr_nil_eql, Bin_ptr_nil_neq, Not_dec, Un_not, Pick_t, Pick_f, Pick_pos, Pick_neg, Gd_tt, Gd_tf, Gd_ft, Gd_ff, Gd_pos_t, Gd_neg_t, Gd_pos_f, Gd_neg_f, Gd_undef, If_t, If_f, If_pos, If_neg, CallF_eq, Max_two, Min_two, Len_rd, Len_own, Ld_blkE, Idx_rdN, Idx_ownN, Idx_rdE, Idx_ownE, IdxAE, Idx_at0, Ext_atE, Len_at, Int.toNat_natCast, Int.toNat_zero, Int.toNat_one, List.length_map, List.length_append, List.length_cons, List.length_nil, List.length_take, List.length_set, List.length_replicate, Bool.not_true, Bool.not_false, decide_true, decide_false, BEq.rfl, bne_self_eq_false, not_true_eq_false, not_false_eq_true, app]
      refine (hcall i m.row[i] h6 hy (by omega) y7).mono ?_
      rintro v h7 ⟨rfl, i7, f7⟩
      have cs : c ∉ S0 := sep c (by omega)
      have y1 := y1.fr f7 cs
      have y2 := y2.fr f7 ⟨fun hm => (hS0 _ hm).2.1 rfl, fun hm => (hS0 _ hm).2.2 rfl⟩
      have y3 := y3.trans f7
      have y4 := y4.fr f7 (sep _ (by omega))
      have y5 := y5.fr f7 (sep _ (by omega))
      have y6 := y6.fr f7 (sep _ (by omega))
      have z7 := f7.size
      by_cases e : p m.row[i] = true
      · rw [e]
        try simp (disch := first | assumption | omega | (apply At.mk; with_unfolding_all rfl)) only [↓go_eq, ↓ent_eq, Mv, NilC_at, Fld_at, add_mk, Nat.zero_add, Nat.add_zero, Add64, Sub64, Mul64, Quo64, Rem64, Neg64, Cvt64, CvtU8, CvtU16, CvtU32, CvtU64, AddU64, SubU64, MulU64, Shr64, Shr_u8, Shr_u16, Shr_u32, Shr_u64, And1, And31, Eql64, Neq64, Bin_lss, Bin_leq, Bin_gtr, Bin_geq, Bin_bool_eql, Bin_bool_neq, Bin_ptr_nil_eql, Bin_ptr_nil_neq, Not_dec, Un_not, Pick_t, Pick_f, Pick_pos, Pick_neg, Gd_tt, Gd_tf, Gd_ft, Gd_ff, Gd_pos_t, Gd_neg_t, Gd_pos_f, Gd_neg_f, Gd_undef, If_t, If_f, If_pos, If_neg, CallF_eq, Max_two, Min_two, Len_rd, Len_own, Ld_blkE, Idx_rdN, Idx_ownN, Idx_rdE, Idx_ownE, IdxAE, Idx_at0, Ext_atE, Len_at, Int.toNat_natCast, Int.toNat_zero, Int.toNat_one, List.length_map, List.length_append, List.length_cons, List.length_nil, List.length_take, List.length_set, List.length_replicate, Bool.not_true, Bool.not_false, decide_true, decide_false, BEq.rfl, bne_self_eq_false, not_true_eq_false, not_false_eq_true, app]
        refine hN _ ⟨⟨y1, y2⟩, y3, y4, ⟨_, y5⟩, ⟨_, y6⟩, i7, by omega, ?_⟩
        rcases Nat.lt_or_ge i (fnd p m.row) with q | q
        · exact q
        · have : fnd p m.row = i := by omega
          have h1 : fnd p m.row < m.row.length := by omega
          have := List.findIdx_getElem (p := fun x => !p x) (w := h1)
          rename_i hfi
          simp only [fnd] at hfi
          simp only [hfi] at this
          rw [e] at this; cases this
      · have e : p m.row[i] = false := by simpa using e
        have ei : fnd p m.row = i := by
          refine Nat.le_antisymm ?_ y9
          rcases Nat.lt_or_ge i (fnd p m.row) with q | q
          · have := List.not_of_lt_findIdx (p := fun x => !p x) (xs := m.row) (i := i) q
            simp [e] at this
          · exact q
        rw [e]
        try simp (disch := first | assumption | omega | (apply At.mk; with_unfolding_all rfl)) only [↓go_eq, ↓ent_eq, Mv, NilC_at, Fld_at, add_mk, Nat.zero_add, Nat.add_zero, Add64, Sub64, Mul64, Quo64, Rem64, Neg64, Cvt64, CvtU8, CvtU16, CvtU32, CvtU64, AddU64, SubU64, MulU64, Shr64, Shr_u8, Shr_u16, Shr_u32, Shr_u64, And1, And31, Eql64, Neq64, Bin_lss, Bin_leq, Bin_gtr, Bin_geq, Bin_bool_eql, Bin_bool_neq, Bin_ptr_nil_eql, Bin_ptr_nil_neq, Not_dec, Un_not, Pick_t, Pick_f, Pick_pos, Pick_neg, Gd_tt, Gd_tf, Gd_ft, Gd_ff, Gd_pos_t, Gd_neg_t, Gd_pos_f, Gd_neg_f, Gd_undef, If_t, If_f, If_pos, If_neg, CallF_eq, Max_two, Min_two, Len_rd, Len_own, Ld_blkE, Idx_rdN, Idx_ownN, Idx_rdE, Idx_ownE, IdxAE, Idx_at0, Ext_atE, Len_at, Int.toNat_natCast, Int.toNat_zero, Int.toNat_one, List.length_map, List.length_append, List.length_cons, List.length_nil, List.length_take, List.length_set, List.length_replicate, Bool.not_true, Bool.not_false, decide_true, decide_false, BEq.rfl, bne_self_eq_false, not_true_eq_false, not_false_eq_true, app]
        refine St_blk y5 (by simp) rfl fun h8 b8 f8 => ?_
        have y1 := y1.fr f8 (by first | (simp; done) | (simp; omega) | omega)
        have y2 := y2.fr f8 (by first | (simp; done) | (simp; omega) | omega)
        have y6 := y6.fr f8 (by first | (simp; done) | (simp; omega) | omega)
        try simp (disch := first | assumption | omega | (apply At.mk; with_unfolding_all rfl)) only [↓go_eq, ↓ent_eq, Mv, NilC_at, Fld_at, add_mk, Nat.zero_add, Nat.add_zero, Add64, Sub64, Mul64, Quo64, Rem64, Neg64, Cvt64, CvtU8, CvtU16, CvtU32, CvtU64, AddU64, SubU64, MulU64, Shr64, Shr_u8, Shr_u16, Shr_u32, Shr_u64, And1, And31, Eql64, Neq64, Bin_lss, Bin_leq, Bin_gtr, Bin_geq, Bin_bool_eql, Bin_bool_neq, Bin_ptr_nil_eql, Bin_ptr_nil_neq, Not_dec, Un_not, Pick_t, Pick_f, Pick_pos, Pick_neg, Gd_tt, Gd_tf, Gd_ft, Gd_ff, Gd_pos_t, Gd_neg_t, Gd_pos_f, Gd_neg_f, Gd_undef, If_t, If_f, If_pos, If_neg, CallF_eq, Max_two, Min_two, Len_rd, Len_own, Ld_blkE, Idx_rdN, Idx_ownN, Idx_rdE, Idx_ownE, IdxAE, Idx_at0, Ext_atE, Len_at, Int.toNat_natCast, Int.toNat_zero, Int.toNat_one, List.length_map, List.length_append, List.length_cons, List.length_nil, List.length_take, List.length_set, List.length_replicate, Bool.not_true, Bool.not_false, decide_true, decide_false, BEq.rfl, bne_self_eq_false, not_true_eq_false, not_false_eq_true, app]
        refine St_blk y6 (by simp) rfl fun h9 b9 f9 => ?_
        have y1 := y1.fr f9 (by first | (simp; done) | (simp; omega) | omega)
        have y2 := y2.fr f9 (by first | (simp; done) | (simp; omega) | omega)
        have b8 := b8.fr f9 (by first | (simp; done) | (simp; omega) | omega)
        refine hL _ _ ⟨rfl, frS (T := [cb]) (by simp; omega) (frS (T := [ab]) (by simp; omega) y3 f8) f9, y2, by omega, hst _ [cb] _ _ (by simp; omega) f9 (hst _ [ab] _ _ (by simp; omega) f8 ?_), ?_, b9⟩
        · rw [ei]; exact i7
        · rw [ei, List.getD_eq_getElem?_getD, hy]; exact b8
    · rintro h5 ⟨_, y3, y4, y5, y6, y7, y8, y9⟩
      rw [List.length_map] at y7 y9
      refine hJ () _ ⟨y3, ?_, y7, by omega, y5, y6⟩
      rename_i hq; exact hq.2
    · rintro ex h5 ⟨rfl, y2, y3, y4, y5, y6, y7⟩
      refine fin h5 _ _ y2 y3 ?_ y6 y7 rfl (by rw [decide_eq_true y4])
      rw [Nat.min_eq_left (by omega)]; exact y5
  · rintro _ h4 ⟨y2, y3, y4, y5, ⟨u, y6⟩, ⟨w, y7⟩⟩
    try simp (disch := first | assumption | omega | (apply At.mk; with_unfolding_all rfl)) only [↓go_eq, ↓ent_eq, Mv, NilC_at, Fld_at, add_mk, Nat.zero_add, Nat.add_zero, Add64, Sub64, Mul64, Quo64, Rem64, Neg64, Cvt64, CvtU8, CvtU16, CvtU32, CvtU64, AddU64, SubU64, MulU64, Shr64, Shr_u8, Shr_u16, Shr_u32, Shr_u64, And1, And31, Eql64, Neq64, Bin_lss, Bin_leq, Bin_gtr, Bin_geq, Bin_bool_eql, Bin_bool_neq, Bin_ptr_nil_eql, Bin_ptr_nil_neq, Not_dec, Un_not, Pick_t, Pick_f, Pick_pos, Pick_neg, Gd_tt, Gd_tf, Gd_ft, Gd_ff, Gd_pos_t, Gd_neg_t, Gd_pos_f, Gd_neg_f, Gd_undef, If_t, If_f, If_pos, If_neg, CallF_eq, Max_two, Min_two, Len_rd, Len_own, Ld_blkE, Idx_rdN, Idx_ownN, Idx_rdE, Idx_ownE, IdxAE, Idx_at0, Ext_atE, Len_at, Int.toNat_natCast, Int.toNat_zero, Int.toNat_one, List.length_map, List.length_append, List.length_cons, List.length_nil, List.length_take, List.length_set, List.length_replicate, Bool.not_true, Bool.not_false, decide_true, decide_false, BEq.rfl, bne_self_eq_false, not_true_eq_false, not_false_eq_true, app]
    refine St_blk y6 (by simp) rfl fun h5 b5 f5 => ?_
    have y3 := y3.fr f5 (by first | (simp; done) | (simp; omega) | omega)
    have y7 := y7.fr f5 (by first | (simp; done) | (simp; omega) | omega)
    try simp (disch := first | assumption | omega | (apply At.mk; with_unfolding_all rfl)) only [↓go_eq, ↓ent_eq, Mv, NilC_at, Fld_at, add_mk, Nat.zero_add, Nat.add_zero, Add64, Sub64, Mul64, Quo64, Rem64, Neg64, Cvt64, CvtU8, CvtU16, CvtU32, CvtU64, AddU64, SubU64, MulU64, Shr64, Shr_u8, Shr_u16, Shr_u32, Shr_u64, And1, And31, Eql64, Neq64, Bin_lss, Bin_leq, Bin_gtr, Bin_geq, Bin_bool_eql, Bin_bool_neq, Bin_ptr_nil_eql, Bin_ptr_nil_neq, Not_dec, Un_not, Pick_t, Pick_f, Pick_pos, Pick_neg, Gd_tt, Gd_tf, Gd_ft, Gd_ff, Gd_pos_t, Gd_neg_t, Gd_pos_f, Gd_neg_f, Gd_undef, If_t, If_f, If_pos, If_neg, CallF_eq, Max_two, Min_two, Len_rd, Len_own, Ld_blkE, Idx_rdN, Idx_ownN, Idx_rdE, Idx_ownE, IdxAE, Idx_at0, Ext_atE, Len_at, Int.toNat_natCast, Int.toNat_zero, Int.toNat_one, List.length_map, List.length_append, List.length_cons, List.length_nil, List.length_take, List.length_set, List.length_replicate, Bool.not_true, Bool.not_false, decide_true, decide_false, BEq.rfl, bne_self_eq_false, not_true_eq_false, not_false_eq_true, app]
    refine St_blk y7 (by simp) rfl fun h6 b6 f6 => ?_
    have y3 := y3.fr f6 (by first | (simp; done) | (simp; omega) | omega)
    have b5 := b5.fr f6 (by first | (simp; done) | (simp; omega) | omega)
    refine fin h6 _ _ (frS (T := [cb]) (by simp; omega) (frS (T := [ab]) (by simp; omega) y2 f5) f6) y3 (hst _ [cb] _ _ (by simp; omega) f6 (hst _ [ab] _ _ (by simp; omega) f5 ?_)) b5 b6 ?_ ?_
    · rw [y5, Nat.min_eq_right (by omega)]; exact y4
    · rw [y5, List.getD_eq_getElem?_getD, List.getElem?_eq_none (Nat.le_refl _)]; rfl
    · rw [y5, decide_eq_false (by omega)]
end Go.Proofs.Ytcmpdfjojeblmaa
