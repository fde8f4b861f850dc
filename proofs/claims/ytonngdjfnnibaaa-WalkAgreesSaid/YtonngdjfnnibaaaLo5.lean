/- A literal comes to hold, or holds no more. Conditions: those typed ahead of each theorem. -/
import Derived.Test.YtonngdjfnnibaaaLo4
namespace Go.Proofs.Ytonngdjfnnibaaa
open Go.Pt
set_option linter.unusedVariables false
set_option linter.unusedSimpArgs false
theorem lit_Index.spec' {l : Int} {n : Nat} (hl : LitOk n l) (hn : n ≤ 1000000) {K : Ret} {h : Heap} (hk : K (Iv (ix l)) h) : QCall Try.prog lit_Index.id [Iv l] K h := So.lit_index_q ⟨by have := hl.2.1; omega, by have := hl.2.2; omega⟩ hk
theorem ix_range {n : Nat} {x : Int} (h : LitOk n x) : 0 ≤ ix x ∧ ix x < 2 * (n : Int) := by obtain ⟨h1, h2, h3⟩ := h; unfold ix; split <;> omega
/-- What an index of one that holds alone may be. -/
def GoodS (n : Nat) (H S : Int) : Prop := H = 1 → ∃ w : Nat, S = (w : Nat) ∧ w ≤ n
def addAt (H : Nat → Int) (oc : List Nat) (d : Int) : Nat → Int := fun i => if i ∈ oc then H i + d else H i
theorem addAt_nil (H : Nat → Int) (d : Int) : addAt H [] d = H := by funext i; unfold addAt; rw [if_neg (by simp)]
theorem addAt_snoc {H : Nat → Int} {oc : List Nat} {d : Int} {i : Nat} (hi : i ∉ oc) : updR (addAt H oc d) i (addAt H oc d i + d) = addAt H (oc ++ [i]) d := by
  funext j
  by_cases e : j = i
  · subst e; rw [updR_at]; unfold addAt; rw [if_neg hi, if_pos (by simp)]
  · rw [updR_ne e]; unfold addAt
    by_cases q : j ∈ oc
    · rw [if_pos q, if_pos (by simp [q])]
    · rw [if_neg q, if_neg (by simp [q, e])]
theorem all_back {A : Nat → Bool} (hA : ∀ i, A i = true) {i : Nat} : updR (updR A i false) i true = A := by
  funext j
  by_cases e : j = i
  · subst e; rw [updR_at, hA]
  · rw [updR_ne e, updR_ne e]
theorem getN {l : List Nat} {i : Nat} (h : i < l.length) : l[i]? = some (l.getD i 0) := by rw [List.getD_eq_getElem?_getD, List.getElem?_eq_getElem h]; rfl
theorem takeN {l : List Nat} {i : Nat} (h : i < l.length) : l.take (i + 1) = l.take i ++ [l.getD i 0] := by rw [List.take_add_one, getN h]; rfl
/-- Other values of the clauses' fields that count has not touched. -/
theorem Cnt.turn {n k : Nat} {A : Nat → Bool} {L : Nat → List Int} {H S P : Nat → Int} {row : List Nat} {br ma : Nat → Int} (c : Cnt n k A L H S P row br ma) {i : Nat} (hA : A i = false) (x y : Int) : Cnt n k A L (updR H i x) (updR S i y) P row br ma := by
  refine ⟨fun v hv => ?_, fun v hv => ?_, c.nd, fun j => ?_, c.pl, c.pn⟩
  · rw [c.br v hv]
    refine smI_congr fun j _ => ?_
    by_cases e : j = i
    · subst e; rw [hA]; simp
    · rw [updR_ne e, updR_ne e]
  · rw [c.ma v hv]
    refine smI_congr fun j _ => ?_
    by_cases e : j = i
    · subst e; rw [hA]; simp
    · rw [updR_ne e]
  · rw [c.mem]
    by_cases e : j = i
    · subst e; rw [hA]; simp
    · rw [updR_ne e]
set_option maxHeartbeats 8000000 in
theorem local_State_turn.spec {N M : Nat} {h : Heap} {R : Nat → Res} {o sb n K : Nat} {m : LMod} {Q : Ret} {l d : Int} (hl : LitOk n l) (hd : d = 1 ∨ d = -1) (s : LS N h M R o sb n K m) (c : Cnt n m.k (fun _ => true) m.L m.H m.S m.P m.row m.br m.ma)
    (hnd : (m.occ (ix l).toNat).Nodup) (hoc : ∀ i ∈ m.occ (ix l).toNat, i < m.k) (hol : (m.occ (ix l).toNat).length ≤ 1000000) (hL : ∀ i, i < m.k → ∀ x ∈ m.L i, LitOk n x) (hlen : ∀ j, j < m.k → (m.L j).length ≤ 1000)
    (hb : ∀ i, i < m.k → -10000 ≤ m.H i ∧ m.H i ≤ 10000 ∧ -10000000 ≤ m.S i ∧ m.S i ≤ 10000000) (hg : ∀ i ∈ m.occ (ix l).toNat, GoodS n (m.H i) (m.S i) ∧ GoodS n (m.H i + d) (m.S i + d * (l.natAbs : Nat)))
    (hk : ∀ h' R' c0' P' row' rv' rb' br' ma', LS N h' M R' o sb n K { m with c0 := c0', H := addAt m.H (m.occ (ix l).toNat) d, S := addAt m.S (m.occ (ix l).toNat) (d * (l.natAbs : Nat)), P := P', row := row', rv := rv', rb := rb', br := br', ma := ma' } →
      Cnt n m.k (fun _ => true) m.L (addAt m.H (m.occ (ix l).toNat) d) (addAt m.S (m.occ (ix l).toNat) (d * (l.natAbs : Nat))) P' row' br' ma' → (∀ q, q < o ∨ o + 8 + 2 * n + K ≤ q → R' q = R q) → FrN N h h' → row' = rowN m.H d (m.occ (ix l).toNat) m.row → Q (.tuple #[]) h') : CallH Try.prog local_State_turn.id #[ptr sb, Iv l, Iv d] Q h := by
  refine local_State_turn.ok ?_
  simp only [local_State_turn.pt]
  have b0 := s.b0
  have nb := s.nb
  have hM := s.hM
  have Kb := s.Kb
  have kK := s.lr.kK
  have ir := ix_range hl
  have o3 := s.o3.rd
  have oo := s.oo (j := (ix l).toNat) (by omega)
  have oor := oo.rd
  have il := ints_len (m.occ (ix l).toNat)
  have a3 : At ((List.range (2 * n)).map m.ow) (ix l).toNat (m.ow (ix l).toNat) := ⟨by rw [List.getElem?_map, List.getElem?_range (by omega)]; rfl⟩
  have hl3 : ((List.range (2 * n)).map m.ow).length = 2 * n := by simp
  generalize hocc : m.occ (ix l).toNat = oc at *
  try simp (disch := first | assumption | omega | (apply At.mk; with_unfolding_all rfl)) only [↓go_eq, ↓ent_eq, Mv, NilC_at, Fld_at, add_mk, Nat.zero_add, Nat.add_zero, Add64, Sub64, Mul64, Quo64, Rem64, Neg64, Cvt64, CvtU8, CvtU16, CvtU32, CvtU64, AddU64, SubU64, MulU64, Shr64, Shr_u8, Shr_u16, Shr_u32, Shr_u64, And1, And31, And32, Eql64, Neq64, Bin_lss, Bin_leq, Bin_gtr, Bin_geq, Bin_bool_eql, Bin_bool_neq, Bin_ptr_nil_eql, Bin_ptr_nil_neq, Not_dec, Un_not, Pick_t, Pick_f, Pick_pos, Pick_neg, Gd_tt, Gd_tf, Gd_ft, Gd_ff, Gd_pos_t, Gd_neg_t, Gd_pos_f, Gd_neg_f, Gd_undef, If_t, If_f, If_pos, If_neg, CallF_eq, Max_two, Min_two, Len_rd, Len_own, Ld_blkE, Idx_rdN, Idx_ownN, Idx_rdE, Idx_ownE, IdxAE, LdA_two, Idx_at0, Ext_atE, Len_at, Int.toNat_natCast, Int.toNat_zero, Int.toNat_one, List.length_map, List.length_append, List.length_cons, List.length_nil, List.length_take, List.length_set, List.length_replicate, Bool.not_true, Bool.not_false, decide_true, decide_false, BEq.rfl, bne_self_eq_false, tf_beq, ft_beq, tf_bne, ft_bne, not_true_eq_false, not_false_eq_true, app]
  refine lit_Index.spec' hl (by omega) ?_
  try simp (disch := first | assumption | omega | (apply At.mk; with_unfolding_all rfl)) only [il, ↓go_eq, ↓ent_eq, Mv, NilC_at, Fld_at, add_mk, Nat.zero_add, Nat.add_zero, Add64, Sub64, Mul64, Quo64, Rem64, Neg64, Cvt64, CvtU8, CvtU16, CvtU32, CvtU64, AddU64, SubU64, MulU64, Shr64, Shr_u8, Shr_u16, Shr_u32, Shr_u64, And1, And31, And32, Eql64, Neq64, Bin_lss, Bin_leq, Bin_gtr, Bin_geq, Bin_bool_eql, Bin_bool_neq, Bin_ptr_nil_eql, Bin_ptr_nil_neq, Not_dec, Un_not, Pick_t, Pick_f, Pick_pos, Pick_neg, Gd_tt, Gd_tf, Gd_ft, Gd_ff, Gd_pos_t, Gd_neg_t, Gd_pos_f, Gd_neg_f, Gd_undef, If_t, If_f, If_pos, If_neg, CallF_eq, Max_two, Min_two, Len_rd, Len_own, Ld_blkE, Idx_rdN, Idx_ownN, Idx_rdE, Idx_ownE, IdxAE, LdA_two, Idx_at0, Ext_atE, Len_at, Int.toNat_natCast, Int.toNat_zero, Int.toNat_one, List.length_map, List.length_append, List.length_cons, List.length_nil, List.length_take, List.length_set, List.length_replicate, Bool.not_true, Bool.not_false, decide_true, decide_false, BEq.rfl, bne_self_eq_false, tf_beq, ft_beq, tf_bne, ft_bne, not_true_eq_false, not_false_eq_true, app]
  refine Lp_fn (σ := Nat × (List Value × (Nat → Int) × List Nat × Value × List Nat × (Nat → Int) × (Nat → Int)) × (Nat → Res)) (fun x => [ptr sb, Iv l, Iv d, m.ow (ix l).toNat, Iv (oc.length : Nat), Iv (x.1 : Nat)])
    (fun x h' => x.1 ≤ oc.length ∧ LS N h' M x.2.2 o sb n K { m with c0 := x.2.1.1, H := addAt m.H (oc.take x.1) d, S := addAt m.S (oc.take x.1) (d * (l.natAbs : Nat)), P := x.2.1.2.1, row := x.2.1.2.2.1, rv := x.2.1.2.2.2.1, rb := x.2.1.2.2.2.2.1, br := x.2.1.2.2.2.2.2.1, ma := x.2.1.2.2.2.2.2.2 } ∧
      Cnt n m.k (fun _ => true) m.L (addAt m.H (oc.take x.1) d) (addAt m.S (oc.take x.1) (d * (l.natAbs : Nat))) x.2.1.2.1 x.2.1.2.2.1 x.2.1.2.2.2.2.2.1 x.2.1.2.2.2.2.2.2 ∧ (∀ q, q < o ∨ o + 8 + 2 * n + K ≤ q → x.2.2 q = R q) ∧ FrN N h h' ∧ x.2.1.2.2.1 = rowN m.H d (oc.take x.1) m.row) (fun x => oc.length - x.1)
    (0, (m.c0, m.P, m.row, m.rv, m.rb, m.br, m.ma), R) rfl (fun _ => rfl) ⟨Nat.zero_le _, by simp only [List.take_zero, addAt_nil]; exact s, by simp only [List.take_zero, addAt_nil]; exact c, fun _ _ => rfl, FrN.refl _ _, rfl⟩ ?_
  clear b0 o3 oo oor a3 c s
  rintro ⟨j, ⟨c0', P', row', rv', rb', br', ma'⟩, R'⟩ h1 ⟨hj, s, c, hR, f1, er⟩ X hX
  simp only at hj s c hR er
  by_cases c2 : (j : Int) < (oc.length : Nat)
  · have oo := (s.oo (j := (ix l).toNat) (by omega)).rd
    simp only [hocc] at oo
    have hgj := getN (l := oc) (show j < oc.length by omega)
    have a1 := ints_at hgj
    have htk := takeN (l := oc) (show j < oc.length by omega)
    have him := List.mem_of_getElem? hgj
    have hni : oc.getD j 0 ∉ oc.take j := fun q => by
      obtain ⟨a, ha⟩ := List.getElem?_of_mem q
      rw [List.getElem?_take] at ha
      split at ha
      · have := nd_inj hnd ha hgj; omega
      · cases ha
    generalize oc.getD j 0 = i at *
    have hik := hoc i him
    obtain ⟨hg1, hg2⟩ := hg i him
    obtain ⟨hb1, hb2, hb3, hb4⟩ := hb i hik
    have eH : addAt m.H (oc.take j) d i = m.H i := by unfold addAt; rw [if_neg hni]
    have eS : addAt m.S (oc.take j) (d * (l.natAbs : Nat)) i = m.S i := by unfold addAt; rw [if_neg hni]
    have hla : (l.natAbs : Int) ≤ 1000 := by obtain ⟨_, _, _⟩ := hl; omega
    have hdl : -1000 ≤ d * (l.natAbs : Nat) ∧ d * (l.natAbs : Nat) ≤ 1000 := by rcases hd with rfl | rfl <;> omega
    have hdd : -1 ≤ d ∧ d ≤ 1 := by rcases hd with rfl | rfl <;> decide
    try simp (disch := first | assumption | omega | (apply At.mk; with_unfolding_all rfl)) only [↓go_eq, ↓ent_eq, Mv, NilC_at, Fld_at, add_mk, Nat.zero_add, Nat.add_zero, Add64, Sub64, Mul64, Quo64, Rem64, Neg64, Cvt64, CvtU8, CvtU16, CvtU32, CvtU64, AddU64, SubU64, MulU64, Shr64, Shr_u8, Shr_u16, Shr_u32, Shr_u64, And1, And31, And32, Eql64, Neq64, Bin_lss, Bin_leq, Bin_gtr, Bin_geq, Bin_bool_eql, Bin_bool_neq, Bin_ptr_nil_eql, Bin_ptr_nil_neq, Not_dec, Un_not, Pick_t, Pick_f, Pick_pos, Pick_neg, Gd_tt, Gd_tf, Gd_ft, Gd_ff, Gd_pos_t, Gd_neg_t, Gd_pos_f, Gd_neg_f, Gd_undef, If_t, If_f, If_pos, If_neg, CallF_eq, Max_two, Min_two, Len_rd, Len_own, Ld_blkE, Idx_rdN, Idx_ownN, Idx_rdE, Idx_ownE, IdxAE, LdA_two, Idx_at0, Ext_atE, Len_at, Int.toNat_natCast, Int.toNat_zero, Int.toNat_one, List.length_map, List.length_append, List.length_cons, List.length_nil, List.length_take, List.length_set, List.length_replicate, Bool.not_true, Bool.not_false, decide_true, decide_false, BEq.rfl, bne_self_eq_false, tf_beq, ft_beq, tf_bne, ft_bne, not_true_eq_false, not_false_eq_true, app]
    refine local_State_count.spec (i := i) (d := -1) (A := fun _ => true) s c hik (.inr ⟨rfl, rfl⟩) (hL i hik) hlen (fun e => by simp only [eH, eS] at e ⊢; exact hg1 e) fun h2 R2 c02 P2 row2 rv2 rb2 br2 ma2 s2 c2 hR2 f2 er2 => ?_
    rw [decide_eq_false (show ¬ ((-1 : Int) = 1) by decide)] at c2
    have hA2 : updR (fun _ => true) i false i = false := updR_at _ _ _
    have b0 := s2.b0
    obtain ⟨b, cap, rest, e1, e2, e3, e4, e5⟩ := s2.o2.pos (show 0 < m.k by omega)
    simp only at b0 e1 e2 e3 e4 e5
    have x1 := cells4_at (k := m.k) (o := i * 4 + 1) (F := mkF m.lw (addAt m.H (oc.take j) d) (addAt m.S (oc.take j) (d * (l.natAbs : Nat))) P2) (rest := rest) (by omega)
    rw [mkF1, eH] at x1
    rw [e1] at b0
    try simp (disch := first | assumption | omega | (apply At.mk; with_unfolding_all rfl)) only [↓go_eq, ↓ent_eq, Mv, NilC_at, Fld_at, add_mk, Nat.zero_add, Nat.add_zero, Add64, Sub64, Mul64, Quo64, Rem64, Neg64, Cvt64, CvtU8, CvtU16, CvtU32, CvtU64, AddU64, SubU64, MulU64, Shr64, Shr_u8, Shr_u16, Shr_u32, Shr_u64, And1, And31, And32, Eql64, Neq64, Bin_lss, Bin_leq, Bin_gtr, Bin_geq, Bin_bool_eql, Bin_bool_neq, Bin_ptr_nil_eql, Bin_ptr_nil_neq, Not_dec, Un_not, Pick_t, Pick_f, Pick_pos, Pick_neg, Gd_tt, Gd_tf, Gd_ft, Gd_ff, Gd_pos_t, Gd_neg_t, Gd_pos_f, Gd_neg_f, Gd_undef, If_t, If_f, If_pos, If_neg, CallF_eq, Max_two, Min_two, Len_rd, Len_own, Ld_blkE, Idx_rdN, Idx_ownN, Idx_rdE, Idx_ownE, IdxAE, LdA_two, Idx_at0, Ext_atE, Len_at, Int.toNat_natCast, Int.toNat_zero, Int.toNat_one, List.length_map, List.length_append, List.length_cons, List.length_nil, List.length_take, List.length_set, List.length_replicate, Bool.not_true, Bool.not_false, decide_true, decide_false, BEq.rfl, bne_self_eq_false, tf_beq, ft_beq, tf_bne, ft_bne, not_true_eq_false, not_false_eq_true, app]
    refine cells_put rfl (by omega) e4 fun h3 b3 f3 => ?_
    rw [mkF_H] at b3
    have hN2 := s2.nN
    obtain ⟨sp3, lr3⟩ := s2.lr.put2 (lv' := m.lv) (k' := m.k) (H' := updR (addAt m.H (oc.take j) d) i (m.H i + d)) (S' := addAt m.S (oc.take j) (d * (l.natAbs : Nat))) (P' := P2) (lb' := m.lb) s2.sep hM hN2 (.inr ⟨b, cap, rest, e1, e2, e3, b3, e5⟩) (by show Fr m.lb h2 h3; rw [e5]; exact f3) (fun _ hb => .inl hb) kK
    have hN3 : N ≤ h3.size := by have := f3.size; omega
    have s3 : LS N h3 M _ o sb n K { m with c0 := c02, H := updR (addAt m.H (oc.take j) d) i (m.H i + d), S := addAt m.S (oc.take j) (d * (l.natAbs : Nat)), P := P2, row := row2, rv := rv2, rb := rb2, br := br2, ma := ma2 } := ⟨sp3, lr3, s2.st, hM, hN3, s2.al, nb, Kb⟩
    have b03 := s3.b0
    simp only at b03
    rw [e1] at b03
    have x2 := cells4_at (k := m.k) (o := i * 4 + 2) (F := mkF m.lw (updR (addAt m.H (oc.take j) d) i (m.H i + d)) (addAt m.S (oc.take j) (d * (l.natAbs : Nat))) P2) (rest := rest) (by omega)
    rw [mkF2, eS] at x2
    have lbb : ∀ x ∈ [b], N ≤ x := fun x hx => s2.sep.los (by omega) s2.lr.r2 x (by show x ∈ m.lb; rw [e5]; exact hx)
    try simp (disch := first | assumption | omega | (apply At.mk; with_unfolding_all rfl)) only [↓go_eq, ↓ent_eq, Mv, NilC_at, Fld_at, add_mk, Nat.zero_add, Nat.add_zero, Add64, Sub64, Mul64, Quo64, Rem64, Neg64, Cvt64, CvtU8, CvtU16, CvtU32, CvtU64, AddU64, SubU64, MulU64, Shr64, Shr_u8, Shr_u16, Shr_u32, Shr_u64, And1, And31, And32, Eql64, Neq64, Bin_lss, Bin_leq, Bin_gtr, Bin_geq, Bin_bool_eql, Bin_bool_neq, Bin_ptr_nil_eql, Bin_ptr_nil_neq, Not_dec, Un_not, Pick_t, Pick_f, Pick_pos, Pick_neg, Gd_tt, Gd_tf, Gd_ft, Gd_ff, Gd_pos_t, Gd_neg_t, Gd_pos_f, Gd_neg_f, Gd_undef, If_t, If_f, If_pos, If_neg, CallF_eq, Max_two, Min_two, Len_rd, Len_own, Ld_blkE, Idx_rdN, Idx_ownN, Idx_rdE, Idx_ownE, IdxAE, LdA_two, Idx_at0, Ext_atE, Len_at, Int.toNat_natCast, Int.toNat_zero, Int.toNat_one, List.length_map, List.length_append, List.length_cons, List.length_nil, List.length_take, List.length_set, List.length_replicate, Bool.not_true, Bool.not_false, decide_true, decide_false, BEq.rfl, bne_self_eq_false, tf_beq, ft_beq, tf_bne, ft_bne, not_true_eq_false, not_false_eq_true, app]
    refine lit_var_q hl (by omega) ?_
    try simp (disch := first | assumption | omega | (apply At.mk; with_unfolding_all rfl)) only [↓go_eq, ↓ent_eq, Mv, NilC_at, Fld_at, add_mk, Nat.zero_add, Nat.add_zero, Add64, Sub64, Mul64, Quo64, Rem64, Neg64, Cvt64, CvtU8, CvtU16, CvtU32, CvtU64, AddU64, SubU64, MulU64, Shr64, Shr_u8, Shr_u16, Shr_u32, Shr_u64, And1, And31, And32, Eql64, Neq64, Bin_lss, Bin_leq, Bin_gtr, Bin_geq, Bin_bool_eql, Bin_bool_neq, Bin_ptr_nil_eql, Bin_ptr_nil_neq, Not_dec, Un_not, Pick_t, Pick_f, Pick_pos, Pick_neg, Gd_tt, Gd_tf, Gd_ft, Gd_ff, Gd_pos_t, Gd_neg_t, Gd_pos_f, Gd_neg_f, Gd_undef, If_t, If_f, If_pos, If_neg, CallF_eq, Max_two, Min_two, Len_rd, Len_own, Ld_blkE, Idx_rdN, Idx_ownN, Idx_rdE, Idx_ownE, IdxAE, LdA_two, Idx_at0, Ext_atE, Len_at, Int.toNat_natCast, Int.toNat_zero, Int.toNat_one, List.length_map, List.length_append, List.length_cons, List.length_nil, List.length_take, List.length_set, List.length_replicate, Bool.not_true, Bool.not_false, decide_true, decide_false, BEq.rfl, bne_self_eq_false, tf_beq, ft_beq, tf_bne, ft_bne, not_true_eq_false, not_false_eq_true, app]
    refine cells_put rfl (by omega) b3 fun h4 b4 f4 => ?_
    rw [mkF_S] at b4
    obtain ⟨sp4, lr4⟩ := s3.lr.put2 (lv' := m.lv) (k' := m.k) (H' := updR (addAt m.H (oc.take j) d) i (m.H i + d)) (S' := updR (addAt m.S (oc.take j) (d * (l.natAbs : Nat))) i (m.S i + d * (l.natAbs : Nat))) (P' := P2) (lb' := m.lb) s3.sep hM hN3 (.inr ⟨b, cap, rest, e1, e2, e3, b4, e5⟩) (by show Fr m.lb h3 h4; rw [e5]; exact f4) (fun _ hb => .inl hb) kK
    have hN4 : N ≤ h4.size := by have := f4.size; omega
    have eH2 : updR (addAt m.H (oc.take j) d) i (m.H i + d) = addAt m.H (oc.take (j + 1)) d := by rw [htk, ← addAt_snoc hni, eH]
    have eS2 : updR (addAt m.S (oc.take j) (d * (l.natAbs : Nat))) i (m.S i + d * (l.natAbs : Nat)) = addAt m.S (oc.take (j + 1)) (d * (l.natAbs : Nat)) := by rw [htk, ← addAt_snoc hni, eS]
    have c4 := c2.turn hA2 (m.H i + d) (m.S i + d * (l.natAbs : Nat))
    have s4 : LS N h4 M _ o sb n K { m with c0 := c02, H := updR (addAt m.H (oc.take j) d) i (m.H i + d), S := updR (addAt m.S (oc.take j) (d * (l.natAbs : Nat))) i (m.S i + d * (l.natAbs : Nat)), P := P2, row := row2, rv := rv2, rb := rb2, br := br2, ma := ma2 } := ⟨sp4, lr4, s2.st, hM, hN4, s2.al, nb, Kb⟩
    rw [eH2, eS2] at c4
    simp only [eH2, eS2] at s4
    try simp (disch := first | assumption | omega | (apply At.mk; with_unfolding_all rfl)) only [↓go_eq, ↓ent_eq, Mv, NilC_at, Fld_at, add_mk, Nat.zero_add, Nat.add_zero, Add64, Sub64, Mul64, Quo64, Rem64, Neg64, Cvt64, CvtU8, CvtU16, CvtU32, CvtU64, AddU64, SubU64, MulU64, Shr64, Shr_u8, Shr_u16, Shr_u32, Shr_u64, And1, And31, And32, Eql64, Neq64, Bin_lss, Bin_leq, Bin_gtr, Bin_geq, Bin_bool_eql, Bin_bool_neq, Bin_ptr_nil_eql, Bin_ptr_nil_neq, Not_dec, Un_not, Pick_t, Pick_f, Pick_pos, Pick_neg, Gd_tt, Gd_tf, Gd_ft, Gd_ff, Gd_pos_t, Gd_neg_t, Gd_pos_f, Gd_neg_f, Gd_undef, If_t, If_f, If_pos, If_neg, CallF_eq, Max_two, Min_two, Len_rd, Len_own, Ld_blkE, Idx_rdN, Idx_ownN, Idx_rdE, Idx_ownE, IdxAE, LdA_two, Idx_at0, Ext_atE, Len_at, Int.toNat_natCast, Int.toNat_zero, Int.toNat_one, List.length_map, List.length_append, List.length_cons, List.length_nil, List.length_take, List.length_set, List.length_replicate, Bool.not_true, Bool.not_false, decide_true, decide_false, BEq.rfl, bne_self_eq_false, tf_beq, ft_beq, tf_bne, ft_bne, not_true_eq_false, not_false_eq_true, app]
    refine local_State_count.spec (i := i) (d := 1) (A := updR (fun _ => true) i false) s4 c4 hik (.inl ⟨rfl, hA2⟩) (hL i hik) hlen (fun e => ?_) fun h5 R5 c05 P5 row5 rv5 rb5 br5 ma5 s5 c5 hR5 f5 er5 => ?_
    · have q1 : addAt m.H (oc.take (j + 1)) d i = m.H i + d := by rw [← eH2, updR_at]
      have q2 : addAt m.S (oc.take (j + 1)) (d * (l.natAbs : Nat)) i = m.S i + d * (l.natAbs : Nat) := by rw [← eS2, updR_at]
      simp only [q1, q2] at e ⊢
      exact hg2 e
    · rw [decide_eq_true rfl, all_back (fun _ => rfl)] at c5
      try simp (disch := first | assumption | omega | (apply At.mk; with_unfolding_all rfl)) only [↓go_eq, ↓ent_eq, Mv, NilC_at, Fld_at, add_mk, Nat.zero_add, Nat.add_zero, Add64, Sub64, Mul64, Quo64, Rem64, Neg64, Cvt64, CvtU8, CvtU16, CvtU32, CvtU64, AddU64, SubU64, MulU64, Shr64, Shr_u8, Shr_u16, Shr_u32, Shr_u64, And1, And31, And32, Eql64, Neq64, Bin_lss, Bin_leq, Bin_gtr, Bin_geq, Bin_bool_eql, Bin_bool_neq, Bin_ptr_nil_eql, Bin_ptr_nil_neq, Not_dec, Un_not, Pick_t, Pick_f, Pick_pos, Pick_neg, Gd_tt, Gd_tf, Gd_ft, Gd_ff, Gd_pos_t, Gd_neg_t, Gd_pos_f, Gd_neg_f, Gd_undef, If_t, If_f, If_pos, If_neg, CallF_eq, Max_two, Min_two, Len_rd, Len_own, Ld_blkE, Idx_rdN, Idx_ownN, Idx_rdE, Idx_ownE, IdxAE, LdA_two, Idx_at0, Ext_atE, Len_at, Int.toNat_natCast, Int.toNat_zero, Int.toNat_one, List.length_map, List.length_append, List.length_cons, List.length_nil, List.length_take, List.length_set, List.length_replicate, Bool.not_true, Bool.not_false, decide_true, decide_false, BEq.rfl, bne_self_eq_false, tf_beq, ft_beq, tf_bne, ft_bne, not_true_eq_false, not_false_eq_true, app]
      try simp only [show (j : Int) + 1 = ((j + 1 : Nat) : Int) from by omega]
      refine hX (j + 1, (c05, P5, row5, rv5, rb5, br5, ma5), R5) h5 ⟨by simp only; omega, s5, c5, fun q hq => ?_, (((f1.trans f2).trans (Fr.toN f3 lbb)).trans (Fr.toN f4 lbb)).trans f5, ?_⟩ (by simp only; omega)
      · exact (hR5 q hq).trans ((updR_ne (by omega)).trans ((updR_ne (by omega)).trans ((hR2 q hq).trans (hR q hq))))
      · have q1 : addAt m.H (oc.take (j + 1)) d i = m.H i + d := by rw [← eH2, updR_at]
        simp only [q1] at er5
        simp only [eH] at er2
        show row5 = _
        rw [htk, rowN_snoc, er5, er2, er]
  · rw [List.take_of_length_le (by omega)] at s c er
    try simp (disch := first | assumption | omega | (apply At.mk; with_unfolding_all rfl)) only [↓go_eq, ↓ent_eq, Mv, NilC_at, Fld_at, add_mk, Nat.zero_add, Nat.add_zero, Add64, Sub64, Mul64, Quo64, Rem64, Neg64, Cvt64, CvtU8, CvtU16, CvtU32, CvtU64, AddU64, SubU64, MulU64, Shr64, Shr_u8, Shr_u16, Shr_u32, Shr_u64, And1, And31, And32, Eql64, Neq64, Bin_lss, Bin_leq, Bin_gtr, Bin_geq, Bin_bool_eql, Bin_bool_neq, Bin_ptr_nil_eql, Bin_ptr_nil_neq, Not_dec, Un_not, Pick_t, Pick_f, Pick_pos, Pick_neg, Gd_tt, Gd_tf, Gd_ft, Gd_ff, Gd_pos_t, Gd_neg_t, Gd_pos_f, Gd_neg_f, Gd_undef, If_t, If_f, If_pos, If_neg, CallF_eq, Max_two, Min_two, Len_rd, Len_own, Ld_blkE, Idx_rdN, Idx_ownN, Idx_rdE, Idx_ownE, IdxAE, LdA_two, Idx_at0, Ext_atE, Len_at, Int.toNat_natCast, Int.toNat_zero, Int.toNat_one, List.length_map, List.length_append, List.length_cons, List.length_nil, List.length_take, List.length_set, List.length_replicate, Bool.not_true, Bool.not_false, decide_true, decide_false, BEq.rfl, bne_self_eq_false, tf_beq, ft_beq, tf_bne, ft_bne, not_true_eq_false, not_false_eq_true, app]
    exact hk h1 R' c0' P' row' rv' rb' br' ma' s c hR f1 er
end Go.Proofs.Ytonngdjfnnibaaa
