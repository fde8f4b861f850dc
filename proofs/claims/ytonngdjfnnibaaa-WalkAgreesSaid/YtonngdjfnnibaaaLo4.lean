/- The count of a clause comes or goes. Conditions: those typed ahead of each theorem. -/
import Derived.Test.YtonngdjfnnibaaaLo3
namespace Go.Proofs.Ytonngdjfnnibaaa
open Go.Pt
set_option linter.unusedVariables false
set_option linter.unusedSimpArgs false
theorem lit_var_q {l : Int} {n : Nat} (hl : LitOk n l) (hn : n ≤ 1000000000) {K : Ret} {h : Heap} (hk : K (Iv (l.natAbs : Nat)) h) : QCall Try.prog lit_Var.id [Iv l] K h := QCall_mk (lit_Var.spec hl hn ⟨rfl, rfl⟩) hk
theorem cells_put {h : Heap} {b k o : Nat} {F : Nat → Value} {rest : List Value} {x : Value} (hx : isCell x = true) (ho : o < 4 * k) (hb : Blk h b (cells4 k F ++ rest)) {K : Ret} (hk : ∀ h', Blk h' b (cells4 k (updR F o x) ++ rest) → Fr [b] h h' → K undef h') : St (.pointer (some ⟨b, o, none⟩)) x K h := by
  refine St_blk hb (by rw [List.length_append, cells4_len]; omega) hx fun h' b' f' => ?_
  rw [List.set_append_left _ _ (by rw [cells4_len]; exact ho), cells4_set] at b'
  exact hk h' b' f'
set_option maxHeartbeats 8000000 in
theorem local_State_count.spec {N M : Nat} {h : Heap} {R : Nat → Res} {o sb n K : Nat} {m : LMod} {Q : Ret} {i : Nat} {d : Int} {A : Nat → Bool} (s : LS N h M R o sb n K m) (c : Cnt n m.k A m.L m.H m.S m.P m.row m.br m.ma) (hi : i < m.k) (hd : (d = 1 ∧ A i = false) ∨ (d = -1 ∧ A i = true)) (hL : ∀ l ∈ m.L i, LitOk n l) (hlen : ∀ j, j < m.k → (m.L j).length ≤ 1000) (hS : m.H i = 1 → ∃ w : Nat, m.S i = (w : Nat) ∧ w ≤ n)
    (hk : ∀ h' R' c0' P' row' rv' rb' br' ma', LS N h' M R' o sb n K { m with c0 := c0', P := P', row := row', rv := rv', rb := rb', br := br', ma := ma' } → Cnt n m.k (updR A i (decide (d = 1))) m.L m.H m.S P' row' br' ma' → (∀ q, q < o ∨ o + 8 + 2 * n + K ≤ q → R' q = R q) → FrN N h h' → row' = rowC d (decide (m.H i = 0)) i m.row → Q (.tuple #[]) h') : CallH Try.prog local_State_count.id #[ptr sb, Iv (i : Nat), Iv d] Q h := by
  refine local_State_count.ok ?_
  simp only [local_State_count.pt]
  have b0 := s.b0
  have st := s.st
  have nb := s.nb
  have hM := s.hM
  have hN := s.nN
  obtain ⟨b, cap, rest, e1, e2, e3, e4, e5⟩ := s.o2.pos (by omega)
  have x0 := cells4_at (k := m.k) (o := i * 4) (F := mkF m.lw m.H m.S m.P) (rest := rest) (by omega)
  have x1 := cells4_at (k := m.k) (o := i * 4 + 1) (F := mkF m.lw m.H m.S m.P) (rest := rest) (by omega)
  have x2 := cells4_at (k := m.k) (o := i * 4 + 2) (F := mkF m.lw m.H m.S m.P) (rest := rest) (by omega)
  rw [mkF0] at x0
  rw [mkF1] at x1
  rw [mkF2] at x2
  have b0' := b0
  rw [e1] at b0'
  have hd' : -1 ≤ d ∧ d ≤ 1 := by rcases hd with ⟨e, _⟩ | ⟨e, _⟩ <;> rw [e] <;> decide
  have kK := s.lr.kK
  have Kb := s.Kb
  by_cases c1 : m.H i = 1
  · obtain ⟨w, hw, hwn⟩ := hS c1
    rw [hw] at x2
    have o5 := s.o5
    have o5r := o5.rd
    have a5 := So.arr_at (m := n + 1) m.br (show w < n + 1 by omega)
    have hbl := c.brle hwn
    try simp (disch := first | assumption | omega | (apply At.mk; with_unfolding_all rfl)) only [↓go_eq, ↓ent_eq, Mv, NilC_at, Fld_at, add_mk, Nat.zero_add, Nat.add_zero, Add64, Sub64, Mul64, Quo64, Rem64, Neg64, Cvt64, CvtU8, CvtU16, CvtU32, CvtU64, AddU64, SubU64, MulU64, Shr64, Shr_u8, Shr_u16, Shr_u32, Shr_u64, And1, And31, And32, Eql64, Neq64, Bin_lss, Bin_leq, Bin_gtr, Bin_geq, Bin_bool_eql, Bin_bool_neq, Bin_ptr_nil_eql, Bin_ptr_nil_neq, Not_dec, Un_not, Pick_t, Pick_f, Pick_pos, Pick_neg, Gd_tt, Gd_tf, Gd_ft, Gd_ff, Gd_pos_t, Gd_neg_t, Gd_pos_f, Gd_neg_f, Gd_undef, If_t, If_f, If_pos, If_neg, CallF_eq, Max_two, Min_two, Len_rd, Len_own, Ld_blkE, Idx_rdN, Idx_ownN, Idx_rdE, Idx_ownE, IdxAE, LdA_two, Idx_at0, Ext_atE, Len_at, Int.toNat_natCast, Int.toNat_zero, Int.toNat_one, List.length_map, List.length_append, List.length_cons, List.length_nil, List.length_take, List.length_set, List.length_replicate, Bool.not_true, Bool.not_false, decide_true, decide_false, BEq.rfl, bne_self_eq_false, tf_beq, ft_beq, tf_bne, ft_bne, not_true_eq_false, not_false_eq_true, app]
    refine o5.put (by omega) (by rw [So.arr_len]; omega) rfl fun h1 w1 f1 _ => ?_
    rw [Int.toNat_natCast, So.arr_set] at w1
    obtain ⟨sp, lr⟩ := s.lr.put5 s.sep hM hN w1 f1
    have ff := Fr.toN f1 (s.sep.los (by omega) s.lr.r5)
    try simp (disch := first | assumption | omega | (apply At.mk; with_unfolding_all rfl)) only [↓go_eq, ↓ent_eq, Mv, NilC_at, Fld_at, add_mk, Nat.zero_add, Nat.add_zero, Add64, Sub64, Mul64, Quo64, Rem64, Neg64, Cvt64, CvtU8, CvtU16, CvtU32, CvtU64, AddU64, SubU64, MulU64, Shr64, Shr_u8, Shr_u16, Shr_u32, Shr_u64, And1, And31, And32, Eql64, Neq64, Bin_lss, Bin_leq, Bin_gtr, Bin_geq, Bin_bool_eql, Bin_bool_neq, Bin_ptr_nil_eql, Bin_ptr_nil_neq, Not_dec, Un_not, Pick_t, Pick_f, Pick_pos, Pick_neg, Gd_tt, Gd_tf, Gd_ft, Gd_ff, Gd_pos_t, Gd_neg_t, Gd_pos_f, Gd_neg_f, Gd_undef, If_t, If_f, If_pos, If_neg, CallF_eq, Max_two, Min_two, Len_rd, Len_own, Ld_blkE, Idx_rdN, Idx_ownN, Idx_rdE, Idx_ownE, IdxAE, LdA_two, Idx_at0, Ext_atE, Len_at, Int.toNat_natCast, Int.toNat_zero, Int.toNat_one, List.length_map, List.length_append, List.length_cons, List.length_nil, List.length_take, List.length_set, List.length_replicate, Bool.not_true, Bool.not_false, decide_true, decide_false, BEq.rfl, bne_self_eq_false, tf_beq, ft_beq, tf_bne, ft_bne, not_true_eq_false, not_false_eq_true, app]
    refine hk h1 _ m.c0 m.P m.row m.rv m.rb (So.upd m.br w (m.br w + d)) m.ma ⟨sp, lr, st, hM, by have := f1.size; omega, s.al, nb, Kb⟩ ?_ (fun q hq => updR_ne (by omega)) ff (by simp [rowC, c1])
    rcases hd with ⟨rfl, hA⟩ | ⟨rfl, hA⟩
    · exact c.add1 hi hA c1 hw
    · exact c.sub1 hi hA c1 hw
  by_cases c0 : m.H i = 0
  rotate_left
  · try simp (disch := first | assumption | omega | (apply At.mk; with_unfolding_all rfl)) only [↓go_eq, ↓ent_eq, Mv, NilC_at, Fld_at, add_mk, Nat.zero_add, Nat.add_zero, Add64, Sub64, Mul64, Quo64, Rem64, Neg64, Cvt64, CvtU8, CvtU16, CvtU32, CvtU64, AddU64, SubU64, MulU64, Shr64, Shr_u8, Shr_u16, Shr_u32, Shr_u64, And1, And31, And32, Eql64, Neq64, Bin_lss, Bin_leq, Bin_gtr, Bin_geq, Bin_bool_eql, Bin_bool_neq, Bin_ptr_nil_eql, Bin_ptr_nil_neq, Not_dec, Un_not, Pick_t, Pick_f, Pick_pos, Pick_neg, Gd_tt, Gd_tf, Gd_ft, Gd_ff, Gd_pos_t, Gd_neg_t, Gd_pos_f, Gd_neg_f, Gd_undef, If_t, If_f, If_pos, If_neg, CallF_eq, Max_two, Min_two, Len_rd, Len_own, Ld_blkE, Idx_rdN, Idx_ownN, Idx_rdE, Idx_ownE, IdxAE, LdA_two, Idx_at0, Ext_atE, Len_at, Int.toNat_natCast, Int.toNat_zero, Int.toNat_one, List.length_map, List.length_append, List.length_cons, List.length_nil, List.length_take, List.length_set, List.length_replicate, Bool.not_true, Bool.not_false, decide_true, decide_false, BEq.rfl, bne_self_eq_false, tf_beq, ft_beq, tf_bne, ft_bne, not_true_eq_false, not_false_eq_true, app]
    exact hk h R m.c0 m.P m.row m.rv m.rb m.br m.ma s (c.addE hi _ c0 c1) (fun _ _ => rfl) (FrN.refl _ _) (by simp [rowC, c0])
  have ol := s.ol (i := i) (by omega)
  have olr := ol.rd
  have hli := hlen i hi
  try simp (disch := first | assumption | omega | (apply At.mk; with_unfolding_all rfl)) only [↓go_eq, ↓ent_eq, Mv, NilC_at, Fld_at, add_mk, Nat.zero_add, Nat.add_zero, Add64, Sub64, Mul64, Quo64, Rem64, Neg64, Cvt64, CvtU8, CvtU16, CvtU32, CvtU64, AddU64, SubU64, MulU64, Shr64, Shr_u8, Shr_u16, Shr_u32, Shr_u64, And1, And31, And32, Eql64, Neq64, Bin_lss, Bin_leq, Bin_gtr, Bin_geq, Bin_bool_eql, Bin_bool_neq, Bin_ptr_nil_eql, Bin_ptr_nil_neq, Not_dec, Un_not, Pick_t, Pick_f, Pick_pos, Pick_neg, Gd_tt, Gd_tf, Gd_ft, Gd_ff, Gd_pos_t, Gd_neg_t, Gd_pos_f, Gd_neg_f, Gd_undef, If_t, If_f, If_pos, If_neg, CallF_eq, Max_two, Min_two, Len_rd, Len_own, Ld_blkE, Idx_rdN, Idx_ownN, Idx_rdE, Idx_ownE, IdxAE, LdA_two, Idx_at0, Ext_atE, Len_at, Int.toNat_natCast, Int.toNat_zero, Int.toNat_one, List.length_map, List.length_append, List.length_cons, List.length_nil, List.length_take, List.length_set, List.length_replicate, Bool.not_true, Bool.not_false, decide_true, decide_false, BEq.rfl, bne_self_eq_false, tf_beq, ft_beq, tf_bne, ft_bne, not_true_eq_false, not_false_eq_true, app]
  refine Lp_fn (σ := Nat × (Nat → Int) × (Nat → Res)) (fun x => [ptr sb, Iv (i : Nat), Iv d, .pointer (some ⟨b, i * 4, none⟩), m.lw i, Iv ((m.L i).length : Nat), Iv (x.1 : Nat)])
    (fun x h' => x.1 ≤ (m.L i).length ∧ (∀ v, x.2.1 v = m.ma v + d * cntV ((m.L i).take x.1) v) ∧ LS N h' M x.2.2 o sb n K { m with ma := x.2.1 } ∧ (∀ q, q < o ∨ o + 8 + 2 * n + K ≤ q → x.2.2 q = R q) ∧ FrN N h h') (fun x => (m.L i).length - x.1)
    (0, m.ma, R) rfl (fun _ => rfl) ⟨Nat.zero_le _, fun v => by simp [cntV], s, fun _ _ => rfl, FrN.refl _ _⟩ ?_
  clear x1 x2 b0 e4 ol olr b0' x0
  rintro ⟨j, ma', R'⟩ h1 ⟨hj, hma, s1, hR1, f1⟩ X hX
  simp only at hj hma s1 hR1
  have b0 := s1.b0
  simp only at b0
  by_cases c2 : (j : Int) < ((m.L i).length : Nat)
  · have ol := (s1.ol (i := i) (by omega)).rd
    simp only at ol
    have a1 := at_getD (xs := m.L i) (show j < (m.L i).length by omega)
    have hlo := hL _ (getD_mem (show j < (m.L i).length by omega))
    have htk := getD_take (xs := m.L i) (show j < (m.L i).length by omega)
    generalize (m.L i).getD j 0 = x at *
    have o6 := s1.o6
    simp only at o6
    have o6r := o6.rd
    obtain ⟨_, q1, q2⟩ := hlo
    have a6 := So.arr_at (m := n + 1) ma' (show x.natAbs < n + 1 by omega)
    have hb1 := c.male (v := x.natAbs) (by omega) hlen
    have hb2 := cntV_le ((m.L i).take j) x.natAbs
    have hb3 : ((m.L i).take j).length ≤ 1000 := by rw [List.length_take]; omega
    have hmx := hma x.natAbs
    have hkk : ((m.k : Nat) : Int) * ((1000 : Nat) : Int) ≤ 1000000 := by omega
    have hmb : -2000 ≤ ma' x.natAbs ∧ ma' x.natAbs ≤ 1001000 := by
      rw [hmx]
      rcases hd with ⟨rfl, _⟩ | ⟨rfl, _⟩ <;> omega
    try simp (disch := first | assumption | omega | (apply At.mk; with_unfolding_all rfl)) only [↓go_eq, ↓ent_eq, Mv, NilC_at, Fld_at, add_mk, Nat.zero_add, Nat.add_zero, Add64, Sub64, Mul64, Quo64, Rem64, Neg64, Cvt64, CvtU8, CvtU16, CvtU32, CvtU64, AddU64, SubU64, MulU64, Shr64, Shr_u8, Shr_u16, Shr_u32, Shr_u64, And1, And31, And32, Eql64, Neq64, Bin_lss, Bin_leq, Bin_gtr, Bin_geq, Bin_bool_eql, Bin_bool_neq, Bin_ptr_nil_eql, Bin_ptr_nil_neq, Not_dec, Un_not, Pick_t, Pick_f, Pick_pos, Pick_neg, Gd_tt, Gd_tf, Gd_ft, Gd_ff, Gd_pos_t, Gd_neg_t, Gd_pos_f, Gd_neg_f, Gd_undef, If_t, If_f, If_pos, If_neg, CallF_eq, Max_two, Min_two, Len_rd, Len_own, Ld_blkE, Idx_rdN, Idx_ownN, Idx_rdE, Idx_ownE, IdxAE, LdA_two, Idx_at0, Ext_atE, Len_at, Int.toNat_natCast, Int.toNat_zero, Int.toNat_one, List.length_map, List.length_append, List.length_cons, List.length_nil, List.length_take, List.length_set, List.length_replicate, Bool.not_true, Bool.not_false, decide_true, decide_false, BEq.rfl, bne_self_eq_false, tf_beq, ft_beq, tf_bne, ft_bne, not_true_eq_false, not_false_eq_true, app]
    refine lit_var_q (n := n) ⟨by assumption, q1, q2⟩ (by omega) ?_
    try simp (disch := first | assumption | omega | (apply At.mk; with_unfolding_all rfl)) only [↓go_eq, ↓ent_eq, Mv, NilC_at, Fld_at, add_mk, Nat.zero_add, Nat.add_zero, Add64, Sub64, Mul64, Quo64, Rem64, Neg64, Cvt64, CvtU8, CvtU16, CvtU32, CvtU64, AddU64, SubU64, MulU64, Shr64, Shr_u8, Shr_u16, Shr_u32, Shr_u64, And1, And31, And32, Eql64, Neq64, Bin_lss, Bin_leq, Bin_gtr, Bin_geq, Bin_bool_eql, Bin_bool_neq, Bin_ptr_nil_eql, Bin_ptr_nil_neq, Not_dec, Un_not, Pick_t, Pick_f, Pick_pos, Pick_neg, Gd_tt, Gd_tf, Gd_ft, Gd_ff, Gd_pos_t, Gd_neg_t, Gd_pos_f, Gd_neg_f, Gd_undef, If_t, If_f, If_pos, If_neg, CallF_eq, Max_two, Min_two, Len_rd, Len_own, Ld_blkE, Idx_rdN, Idx_ownN, Idx_rdE, Idx_ownE, IdxAE, LdA_two, Idx_at0, Ext_atE, Len_at, Int.toNat_natCast, Int.toNat_zero, Int.toNat_one, List.length_map, List.length_append, List.length_cons, List.length_nil, List.length_take, List.length_set, List.length_replicate, Bool.not_true, Bool.not_false, decide_true, decide_false, BEq.rfl, bne_self_eq_false, tf_beq, ft_beq, tf_bne, ft_bne, not_true_eq_false, not_false_eq_true, app]
    refine o6.put (by omega) (by rw [So.arr_len]; omega) rfl fun h2 w2 f2 _ => ?_
    rw [Int.toNat_natCast, So.arr_set] at w2
    obtain ⟨sp, lr⟩ := s1.lr.put6 s1.sep hM s1.nN w2 f2
    have ff := Fr.toN f2 (s1.sep.los (by omega) s1.lr.r6)
    try simp (disch := first | assumption | omega | (apply At.mk; with_unfolding_all rfl)) only [↓go_eq, ↓ent_eq, Mv, NilC_at, Fld_at, add_mk, Nat.zero_add, Nat.add_zero, Add64, Sub64, Mul64, Quo64, Rem64, Neg64, Cvt64, CvtU8, CvtU16, CvtU32, CvtU64, AddU64, SubU64, MulU64, Shr64, Shr_u8, Shr_u16, Shr_u32, Shr_u64, And1, And31, And32, Eql64, Neq64, Bin_lss, Bin_leq, Bin_gtr, Bin_geq, Bin_bool_eql, Bin_bool_neq, Bin_ptr_nil_eql, Bin_ptr_nil_neq, Not_dec, Un_not, Pick_t, Pick_f, Pick_pos, Pick_neg, Gd_tt, Gd_tf, Gd_ft, Gd_ff, Gd_pos_t, Gd_neg_t, Gd_pos_f, Gd_neg_f, Gd_undef, If_t, If_f, If_pos, If_neg, CallF_eq, Max_two, Min_two, Len_rd, Len_own, Ld_blkE, Idx_rdN, Idx_ownN, Idx_rdE, Idx_ownE, IdxAE, LdA_two, Idx_at0, Ext_atE, Len_at, Int.toNat_natCast, Int.toNat_zero, Int.toNat_one, List.length_map, List.length_append, List.length_cons, List.length_nil, List.length_take, List.length_set, List.length_replicate, Bool.not_true, Bool.not_false, decide_true, decide_false, BEq.rfl, bne_self_eq_false, tf_beq, ft_beq, tf_bne, ft_bne, not_true_eq_false, not_false_eq_true, app]
    try simp only [show (j : Int) + 1 = ((j + 1 : Nat) : Int) from by omega]
    refine hX (j + 1, So.upd ma' x.natAbs (ma' x.natAbs + d), _) h2 ⟨by simp only; omega, fun v => ?_, ⟨sp, lr, s1.st, hM, by have := f2.size; have := s1.nN; omega, s.al, nb, Kb⟩, fun q hq => (updR_ne (by omega)).trans (hR1 q hq), f1.trans ff⟩ (by simp only; omega)
    simp only
    rw [htk, cntV_snoc]
    unfold So.upd
    by_cases e : v = x.natAbs
    · subst e; rw [if_pos rfl, if_pos rfl, hma, Int.mul_add, Int.mul_one]; omega
    · rw [if_neg e, if_neg (fun q => e q.symm), hma, Int.add_zero]
  clear hX
  rw [List.take_of_length_le (by omega)] at hma
  have hN1 := s1.nN
  have o4 := s1.o4
  simp only at o4
  have o4r := o4.rd
  have il := ints_len m.row
  obtain ⟨b', cap', rest', g1, g2, g3, g4, g5⟩ := s1.o2.pos (show 0 < m.k by omega)
  simp only at g1 g2 g3 g4 g5
  have eb : b' = b ∧ cap' = cap := by rw [e1] at g1; cases g1; exact ⟨rfl, rfl⟩
  obtain ⟨rfl, rfl⟩ := eb
  have b1 := b0
  rw [e1] at b1
  have hrl := c.len
  have lb1 := s1.sep.los (by omega) s1.lr.r2
  have lr1 := s1.sep.los (by omega) s1.lr.r4
  have ls1 := s1.sep.los (by omega) s1.lr.r0
  have ema : ma' = fun v => m.ma v + d * cntV (m.L i) v := funext hma
  rcases hd with ⟨rfl, hA⟩ | ⟨rfl, hA⟩
  · try simp (disch := first | assumption | omega | (apply At.mk; with_unfolding_all rfl)) only [il, ↓go_eq, ↓ent_eq, Mv, NilC_at, Fld_at, add_mk, Nat.zero_add, Nat.add_zero, Add64, Sub64, Mul64, Quo64, Rem64, Neg64, Cvt64, CvtU8, CvtU16, CvtU32, CvtU64, AddU64, SubU64, MulU64, Shr64, Shr_u8, Shr_u16, Shr_u32, Shr_u64, And1, And31, And32, Eql64, Neq64, Bin_lss, Bin_leq, Bin_gtr, Bin_geq, Bin_bool_eql, Bin_bool_neq, Bin_ptr_nil_eql, Bin_ptr_nil_neq, Not_dec, Un_not, Pick_t, Pick_f, Pick_pos, Pick_neg, Gd_tt, Gd_tf, Gd_ft, Gd_ff, Gd_pos_t, Gd_neg_t, Gd_pos_f, Gd_neg_f, Gd_undef, If_t, If_f, If_pos, If_neg, CallF_eq, Max_two, Min_two, Len_rd, Len_own, Ld_blkE, Idx_rdN, Idx_ownN, Idx_rdE, Idx_ownE, IdxAE, LdA_two, Idx_at0, Ext_atE, Len_at, Int.toNat_natCast, Int.toNat_zero, Int.toNat_one, List.length_map, List.length_append, List.length_cons, List.length_nil, List.length_take, List.length_set, List.length_replicate, Bool.not_true, Bool.not_false, decide_true, decide_false, BEq.rfl, bne_self_eq_false, tf_beq, ft_beq, tf_bne, ft_bne, not_true_eq_false, not_false_eq_true, app]
    refine cells_put rfl (by omega) g4 fun h2 b2 f2 => ?_
    rw [mkF_P] at b2
    obtain ⟨sp2, lr2⟩ := s1.lr.put2 (lv' := m.lv) (k' := m.k) (H' := m.H) (S' := m.S) (P' := updR m.P i (m.row.length : Nat)) (lb' := m.lb) s1.sep hM hN1 (.inr ⟨b', cap', rest', e1, g2, g3, b2, e5⟩) (by show Fr m.lb h1 h2; rw [e5]; exact f2) (fun _ hb => .inl hb) kK
    have hN2 : N ≤ h2.size := by have := f2.size; omega
    have s2 : LS N h2 M _ o sb n K { m with ma := ma', P := updR m.P i (m.row.length : Nat) } := ⟨sp2, lr2, s1.st, hM, hN2, s.al, nb, Kb⟩
    have b02 := s2.b0
    have o42 := s2.o4
    simp only at b02 o42
    try simp (disch := first | assumption | omega | (apply At.mk; with_unfolding_all rfl)) only [↓go_eq, ↓ent_eq, Mv, NilC_at, Fld_at, add_mk, Nat.zero_add, Nat.add_zero, Add64, Sub64, Mul64, Quo64, Rem64, Neg64, Cvt64, CvtU8, CvtU16, CvtU32, CvtU64, AddU64, SubU64, MulU64, Shr64, Shr_u8, Shr_u16, Shr_u32, Shr_u64, And1, And31, And32, Eql64, Neq64, Bin_lss, Bin_leq, Bin_gtr, Bin_geq, Bin_bool_eql, Bin_bool_neq, Bin_ptr_nil_eql, Bin_ptr_nil_neq, Not_dec, Un_not, Pick_t, Pick_f, Pick_pos, Pick_neg, Gd_tt, Gd_tf, Gd_ft, Gd_ff, Gd_pos_t, Gd_neg_t, Gd_pos_f, Gd_neg_f, Gd_undef, If_t, If_f, If_pos, If_neg, CallF_eq, Max_two, Min_two, Len_rd, Len_own, Ld_blkE, Idx_rdN, Idx_ownN, Idx_rdE, Idx_ownE, IdxAE, LdA_two, Idx_at0, Ext_atE, Len_at, Int.toNat_natCast, Int.toNat_zero, Int.toNat_one, List.length_map, List.length_append, List.length_cons, List.length_nil, List.length_take, List.length_set, List.length_replicate, Bool.not_true, Bool.not_false, decide_true, decide_false, BEq.rfl, bne_self_eq_false, tf_beq, ft_beq, tf_bne, ft_bne, not_true_eq_false, not_false_eq_true, app]
    refine BldS_one rfl rfl fun h3 o3 f3 s3 => ?_
    have hN3 : N ≤ h3.size := by have := f3.size; omega
    have sp3 := sp2.fr f3
    have o43 := o42.fr f3 (by simp)
    try simp (disch := first | assumption | omega | (apply At.mk; with_unfolding_all rfl)) only [↓go_eq, ↓ent_eq, Mv, NilC_at, Fld_at, add_mk, Nat.zero_add, Nat.add_zero, Add64, Sub64, Mul64, Quo64, Rem64, Neg64, Cvt64, CvtU8, CvtU16, CvtU32, CvtU64, AddU64, SubU64, MulU64, Shr64, Shr_u8, Shr_u16, Shr_u32, Shr_u64, And1, And31, And32, Eql64, Neq64, Bin_lss, Bin_leq, Bin_gtr, Bin_geq, Bin_bool_eql, Bin_bool_neq, Bin_ptr_nil_eql, Bin_ptr_nil_neq, Not_dec, Un_not, Pick_t, Pick_f, Pick_pos, Pick_neg, Gd_tt, Gd_tf, Gd_ft, Gd_ff, Gd_pos_t, Gd_neg_t, Gd_pos_f, Gd_neg_f, Gd_undef, If_t, If_f, If_pos, If_neg, CallF_eq, Max_two, Min_two, Len_rd, Len_own, Ld_blkE, Idx_rdN, Idx_ownN, Idx_rdE, Idx_ownE, IdxAE, LdA_two, Idx_at0, Ext_atE, Len_at, Int.toNat_natCast, Int.toNat_zero, Int.toNat_one, List.length_map, List.length_append, List.length_cons, List.length_nil, List.length_take, List.length_set, List.length_replicate, Bool.not_true, Bool.not_false, decide_true, decide_false, BEq.rfl, bne_self_eq_false, tf_beq, ft_beq, tf_bne, ft_bne, not_true_eq_false, not_false_eq_true, app]
    refine o43.app (ys := [Iv (i : Nat)]) o3.rd rfl rfl (fun y hy => by simp at hy; rw [hy]; rfl) (by rw [il]; simp; omega) (by rw [il]; simp; omega) fun rv' h4 rb' o44 f4 hb4 s4 => ?_
    have e44 : ints m.row ++ [Iv (i : Nat)] = ints (m.row ++ [i]) := by simp [ints]
    rw [e44] at o44
    have hN4 : N ≤ h4.size := by have := f4.size; omega
    obtain ⟨sp4, lr4⟩ := lr2.put4 (rv' := rv') (row' := m.row ++ [i]) (rb' := rb') sp3 hM hN3 o44 f4 (fun x hx => by rcases hb4 x hx with q | q; exact .inl q; exact .inr (by omega))
    have b04 := lr4.b0 sp4 hM
    have hst := s1.st.1
    simp only at b04 hst
    rw [hst] at b04
    have lsb := sp4.los (by omega) lr4.r0
    try simp (disch := first | assumption | omega | (apply At.mk; with_unfolding_all rfl)) only [↓go_eq, ↓ent_eq, Mv, NilC_at, Fld_at, add_mk, Nat.zero_add, Nat.add_zero, Add64, Sub64, Mul64, Quo64, Rem64, Neg64, Cvt64, CvtU8, CvtU16, CvtU32, CvtU64, AddU64, SubU64, MulU64, Shr64, Shr_u8, Shr_u16, Shr_u32, Shr_u64, And1, And31, And32, Eql64, Neq64, Bin_lss, Bin_leq, Bin_gtr, Bin_geq, Bin_bool_eql, Bin_bool_neq, Bin_ptr_nil_eql, Bin_ptr_nil_neq, Not_dec, Un_not, Pick_t, Pick_f, Pick_pos, Pick_neg, Gd_tt, Gd_tf, Gd_ft, Gd_ff, Gd_pos_t, Gd_neg_t, Gd_pos_f, Gd_neg_f, Gd_undef, If_t, If_f, If_pos, If_neg, CallF_eq, Max_two, Min_two, Len_rd, Len_own, Ld_blkE, Idx_rdN, Idx_ownN, Idx_rdE, Idx_ownE, IdxAE, LdA_two, Idx_at0, Ext_atE, Len_at, Int.toNat_natCast, Int.toNat_zero, Int.toNat_one, List.length_map, List.length_append, List.length_cons, List.length_nil, List.length_take, List.length_set, List.length_replicate, Bool.not_true, Bool.not_false, decide_true, decide_false, BEq.rfl, bne_self_eq_false, tf_beq, ft_beq, tf_bne, ft_bne, not_true_eq_false, not_false_eq_true, app]
    refine St_blk b04 (by simp) o44.rd.isCell fun h5 b5 f5 => ?_
    obtain ⟨sp5, lr5⟩ := lr4.put0 sp4 hM hN4 b5 f5
    try simp (disch := first | assumption | omega | (apply At.mk; with_unfolding_all rfl)) only [↓go_eq, ↓ent_eq, Mv, NilC_at, Fld_at, add_mk, Nat.zero_add, Nat.add_zero, Add64, Sub64, Mul64, Quo64, Rem64, Neg64, Cvt64, CvtU8, CvtU16, CvtU32, CvtU64, AddU64, SubU64, MulU64, Shr64, Shr_u8, Shr_u16, Shr_u32, Shr_u64, And1, And31, And32, Eql64, Neq64, Bin_lss, Bin_leq, Bin_gtr, Bin_geq, Bin_bool_eql, Bin_bool_neq, Bin_ptr_nil_eql, Bin_ptr_nil_neq, Not_dec, Un_not, Pick_t, Pick_f, Pick_pos, Pick_neg, Gd_tt, Gd_tf, Gd_ft, Gd_ff, Gd_pos_t, Gd_neg_t, Gd_pos_f, Gd_neg_f, Gd_undef, If_t, If_f, If_pos, If_neg, CallF_eq, Max_two, Min_two, Len_rd, Len_own, Ld_blkE, Idx_rdN, Idx_ownN, Idx_rdE, Idx_ownE, IdxAE, LdA_two, Idx_at0, Ext_atE, Len_at, Int.toNat_natCast, Int.toNat_zero, Int.toNat_one, List.length_map, List.length_append, List.length_cons, List.length_nil, List.length_take, List.length_set, List.length_replicate, Bool.not_true, Bool.not_false, decide_true, decide_false, BEq.rfl, bne_self_eq_false, tf_beq, ft_beq, tf_bne, ft_bne, not_true_eq_false, not_false_eq_true, app]
    refine hk h5 _ _ (updR m.P i (m.row.length : Nat)) (m.row ++ [i]) rv' rb' m.br ma' ⟨sp5, lr5, ⟨rfl, s1.st.2⟩, hM, by have := f5.size; omega, s.al, nb, Kb⟩ ?_ (fun q hq => ?_) ?_ (by simp [rowC, c0])
    · rw [ema]
      simp only [Int.one_mul]
      exact c.add0 hi hA c0
    · rw [updR_ne (by omega), updR_ne (by omega), updR_ne (by omega)]; exact hR1 q hq
    · refine (((f1.trans (Fr.toN f2 fun x hx => ?_)).trans (Fr.toN f3 (by simp))).trans (Fr.toN f4 lr1)).trans (Fr.toN f5 ls1)
      exact lb1 x (by show x ∈ m.lb; rw [e5]; exact hx)
  · obtain ⟨j0, hj0, hP⟩ := c.place hi hA c0
    have hl0 := rowOut_lt hj0
    have hlast := rowOut_last hj0
    have hlm := (c.mem _).1 (List.mem_of_getElem? hlast)
    have a4 := ints_at hlast
    have el : ((m.row.length : Int) - 1).toNat = m.row.length - 1 := by omega
    rw [← el] at a4
    have y3 := cells4_at (k := m.k) (o := i * 4 + 3) (F := mkF m.lw m.H m.S m.P) (rest := rest') (by omega)
    rw [mkF3, hP] at y3
    have ng : ¬ ((-1 : Int) > 0) := by decide
    try simp (disch := first | assumption | omega | (apply At.mk; with_unfolding_all rfl)) only [il, ↓go_eq, ↓ent_eq, Mv, NilC_at, Fld_at, add_mk, Nat.zero_add, Nat.add_zero, Add64, Sub64, Mul64, Quo64, Rem64, Neg64, Cvt64, CvtU8, CvtU16, CvtU32, CvtU64, AddU64, SubU64, MulU64, Shr64, Shr_u8, Shr_u16, Shr_u32, Shr_u64, And1, And31, And32, Eql64, Neq64, Bin_lss, Bin_leq, Bin_gtr, Bin_geq, Bin_bool_eql, Bin_bool_neq, Bin_ptr_nil_eql, Bin_ptr_nil_neq, Not_dec, Un_not, Pick_t, Pick_f, Pick_pos, Pick_neg, Gd_tt, Gd_tf, Gd_ft, Gd_ff, Gd_pos_t, Gd_neg_t, Gd_pos_f, Gd_neg_f, Gd_undef, If_t, If_f, If_pos, If_neg, CallF_eq, Max_two, Min_two, Len_rd, Len_own, Ld_blkE, Idx_rdN, Idx_ownN, Idx_rdE, Idx_ownE, IdxAE, LdA_two, Idx_at0, Ext_atE, Len_at, Int.toNat_natCast, Int.toNat_zero, Int.toNat_one, List.length_map, List.length_append, List.length_cons, List.length_nil, List.length_take, List.length_set, List.length_replicate, Bool.not_true, Bool.not_false, decide_true, decide_false, BEq.rfl, bne_self_eq_false, tf_beq, ft_beq, tf_bne, ft_bne, not_true_eq_false, not_false_eq_true, app]
    rw [el] at *
    refine o4.put (by omega) (by rw [il]; omega) rfl fun h2 w2 f2 _ => ?_
    have e2' : (ints m.row).set ((j0 : Int).toNat) (Iv ((m.row.getD (m.row.length - 1) 0 : Nat) : Int)) = ints (m.row.set j0 (m.row.getD (m.row.length - 1) 0)) := by
      rw [Int.toNat_natCast]; unfold ints; rw [List.map_set]
    rw [e2'] at w2
    obtain ⟨sp2, lr2⟩ := s1.lr.put4 (rv' := m.rv) (row' := m.row.set j0 (m.row.getD (m.row.length - 1) 0)) (rb' := m.rb) s1.sep hM hN1 w2 f2 (fun x hx => .inl hx)
    have hN2 : N ≤ h2.size := by have := f2.size; omega
    have s2 : LS N h2 M _ o sb n K { m with ma := ma', row := m.row.set j0 (m.row.getD (m.row.length - 1) 0) } := ⟨sp2, lr2, s1.st, hM, hN2, s.al, nb, Kb⟩
    obtain ⟨b'', cap'', rest'', p1, p2, p3, p4, p5⟩ := s2.o2.pos (show 0 < m.k by omega)
    simp only at p1 p2 p3 p4 p5
    have eb : b'' = b' ∧ cap'' = cap' := by rw [e1] at p1; cases p1; exact ⟨rfl, rfl⟩
    obtain ⟨rfl, rfl⟩ := eb
    have b02 := s2.b0
    simp only at b02
    obtain ⟨hlast1, _, _⟩ := hlm
    generalize hlastd : m.row.getD (m.row.length - 1) 0 = last at *
    try simp (disch := first | assumption | omega | (apply At.mk; with_unfolding_all rfl)) only [↓go_eq, ↓ent_eq, Mv, NilC_at, Fld_at, add_mk, Nat.zero_add, Nat.add_zero, Add64, Sub64, Mul64, Quo64, Rem64, Neg64, Cvt64, CvtU8, CvtU16, CvtU32, CvtU64, AddU64, SubU64, MulU64, Shr64, Shr_u8, Shr_u16, Shr_u32, Shr_u64, And1, And31, And32, Eql64, Neq64, Bin_lss, Bin_leq, Bin_gtr, Bin_geq, Bin_bool_eql, Bin_bool_neq, Bin_ptr_nil_eql, Bin_ptr_nil_neq, Not_dec, Un_not, Pick_t, Pick_f, Pick_pos, Pick_neg, Gd_tt, Gd_tf, Gd_ft, Gd_ff, Gd_pos_t, Gd_neg_t, Gd_pos_f, Gd_neg_f, Gd_undef, If_t, If_f, If_pos, If_neg, CallF_eq, Max_two, Min_two, Len_rd, Len_own, Ld_blkE, Idx_rdN, Idx_ownN, Idx_rdE, Idx_ownE, IdxAE, LdA_two, Idx_at0, Ext_atE, Len_at, Int.toNat_natCast, Int.toNat_zero, Int.toNat_one, List.length_map, List.length_append, List.length_cons, List.length_nil, List.length_take, List.length_set, List.length_replicate, Bool.not_true, Bool.not_false, decide_true, decide_false, BEq.rfl, bne_self_eq_false, tf_beq, ft_beq, tf_bne, ft_bne, not_true_eq_false, not_false_eq_true, app]
    refine cells_put rfl (by omega) p4 fun h3 b3 f3 => ?_
    rw [mkF_P] at b3
    obtain ⟨sp3, lr3⟩ := s2.lr.put2 (lv' := m.lv) (k' := m.k) (H' := m.H) (S' := m.S) (P' := updR m.P last (j0 : Nat)) (lb' := m.lb) s2.sep hM hN2 (.inr ⟨b'', cap'', rest'', e1, p2, p3, b3, e5⟩) (by show Fr m.lb h2 h3; rw [e5]; exact f3) (fun _ hb => .inl hb) kK
    have hN3 : N ≤ h3.size := by have := f3.size; omega
    have s3 : LS N h3 M _ o sb n K { m with ma := ma', row := m.row.set j0 last, P := updR m.P last (j0 : Nat) } := ⟨sp3, lr3, s1.st, hM, hN3, s.al, nb, Kb⟩
    have b03 := s3.b0
    have o43 := s3.o4
    simp only at b03 o43
    have o43r := o43.rd
    have il3 : (ints (m.row.set j0 last)).length = m.row.length := by rw [ints_len, List.length_set]
    try simp (disch := first | assumption | omega | (apply At.mk; with_unfolding_all rfl)) only [il3, ↓go_eq, ↓ent_eq, Mv, NilC_at, Fld_at, add_mk, Nat.zero_add, Nat.add_zero, Add64, Sub64, Mul64, Quo64, Rem64, Neg64, Cvt64, CvtU8, CvtU16, CvtU32, CvtU64, AddU64, SubU64, MulU64, Shr64, Shr_u8, Shr_u16, Shr_u32, Shr_u64, And1, And31, And32, Eql64, Neq64, Bin_lss, Bin_leq, Bin_gtr, Bin_geq, Bin_bool_eql, Bin_bool_neq, Bin_ptr_nil_eql, Bin_ptr_nil_neq, Not_dec, Un_not, Pick_t, Pick_f, Pick_pos, Pick_neg, Gd_tt, Gd_tf, Gd_ft, Gd_ff, Gd_pos_t, Gd_neg_t, Gd_pos_f, Gd_neg_f, Gd_undef, If_t, If_f, If_pos, If_neg, CallF_eq, Max_two, Min_two, Len_rd, Len_own, Ld_blkE, Idx_rdN, Idx_ownN, Idx_rdE, Idx_ownE, IdxAE, LdA_two, Idx_at0, Ext_atE, Len_at, Int.toNat_natCast, Int.toNat_zero, Int.toNat_one, List.length_map, List.length_append, List.length_cons, List.length_nil, List.length_take, List.length_set, List.length_replicate, Bool.not_true, Bool.not_false, decide_true, decide_false, BEq.rfl, bne_self_eq_false, tf_beq, ft_beq, tf_bne, ft_bne, not_true_eq_false, not_false_eq_true, app]
    refine Own.front o43 (by omega) (by rw [il3]; omega) fun rv' o44 => ?_
    have e44 : (ints (m.row.set j0 last)).take ((m.row.length : Int) - 1).toNat = ints ((m.row.set j0 last).take (m.row.length - 1)) := by rw [show ((m.row.length : Int) - 1).toNat = m.row.length - 1 by omega]; unfold ints; rw [List.map_take]
    rw [e44] at o44
    obtain ⟨sp4, lr4⟩ := lr3.put4 (rv' := rv') (row' := (m.row.set j0 last).take (m.row.length - 1)) (rb' := m.rb) sp3 hM hN3 o44 (Fr.refl _ _) (fun x hx => .inl hx)
    have b04 := lr4.b0 sp4 hM
    have hst := s1.st.1
    simp only at b04 hst
    rw [hst] at b04
    try simp (disch := first | assumption | omega | (apply At.mk; with_unfolding_all rfl)) only [↓go_eq, ↓ent_eq, Mv, NilC_at, Fld_at, add_mk, Nat.zero_add, Nat.add_zero, Add64, Sub64, Mul64, Quo64, Rem64, Neg64, Cvt64, CvtU8, CvtU16, CvtU32, CvtU64, AddU64, SubU64, MulU64, Shr64, Shr_u8, Shr_u16, Shr_u32, Shr_u64, And1, And31, And32, Eql64, Neq64, Bin_lss, Bin_leq, Bin_gtr, Bin_geq, Bin_bool_eql, Bin_bool_neq, Bin_ptr_nil_eql, Bin_ptr_nil_neq, Not_dec, Un_not, Pick_t, Pick_f, Pick_pos, Pick_neg, Gd_tt, Gd_tf, Gd_ft, Gd_ff, Gd_pos_t, Gd_neg_t, Gd_pos_f, Gd_neg_f, Gd_undef, If_t, If_f, If_pos, If_neg, CallF_eq, Max_two, Min_two, Len_rd, Len_own, Ld_blkE, Idx_rdN, Idx_ownN, Idx_rdE, Idx_ownE, IdxAE, LdA_two, Idx_at0, Ext_atE, Len_at, Int.toNat_natCast, Int.toNat_zero, Int.toNat_one, List.length_map, List.length_append, List.length_cons, List.length_nil, List.length_take, List.length_set, List.length_replicate, Bool.not_true, Bool.not_false, decide_true, decide_false, BEq.rfl, bne_self_eq_false, tf_beq, ft_beq, tf_bne, ft_bne, not_true_eq_false, not_false_eq_true, app]
    refine St_blk b04 (by simp) o44.rd.isCell fun h5 b5 f5 => ?_
    obtain ⟨sp5, lr5⟩ := lr4.put0 sp4 hM hN3 b5 f5
    have hN5 : N ≤ h5.size := by have := f5.size; omega
    have s5 : LS N h5 M _ o sb n K { m with c0 := _, ma := ma', row := (m.row.set j0 last).take (m.row.length - 1), rv := rv', P := updR m.P last (j0 : Nat) } := ⟨sp5, lr5, ⟨rfl, s1.st.2⟩, hM, hN5, s.al, nb, Kb⟩
    obtain ⟨b6, cap6, rest6, r1, r2, r3, r4, r5⟩ := s5.o2.pos (show 0 < m.k by omega)
    simp only at r1 r2 r3 r4 r5
    have eb : b6 = b'' ∧ cap6 = cap'' := by rw [e1] at r1; cases r1; exact ⟨rfl, rfl⟩
    obtain ⟨rfl, rfl⟩ := eb
    try simp (disch := first | assumption | omega | (apply At.mk; with_unfolding_all rfl)) only [↓go_eq, ↓ent_eq, Mv, NilC_at, Fld_at, add_mk, Nat.zero_add, Nat.add_zero, Add64, Sub64, Mul64, Quo64, Rem64, Neg64, Cvt64, CvtU8, CvtU16, CvtU32, CvtU64, AddU64, SubU64, MulU64, Shr64, Shr_u8, Shr_u16, Shr_u32, Shr_u64, And1, And31, And32, Eql64, Neq64, Bin_lss, Bin_leq, Bin_gtr, Bin_geq, Bin_bool_eql, Bin_bool_neq, Bin_ptr_nil_eql, Bin_ptr_nil_neq, Not_dec, Un_not, Pick_t, Pick_f, Pick_pos, Pick_neg, Gd_tt, Gd_tf, Gd_ft, Gd_ff, Gd_pos_t, Gd_neg_t, Gd_pos_f, Gd_neg_f, Gd_undef, If_t, If_f, If_pos, If_neg, CallF_eq, Max_two, Min_two, Len_rd, Len_own, Ld_blkE, Idx_rdN, Idx_ownN, Idx_rdE, Idx_ownE, IdxAE, LdA_two, Idx_at0, Ext_atE, Len_at, Int.toNat_natCast, Int.toNat_zero, Int.toNat_one, List.length_map, List.length_append, List.length_cons, List.length_nil, List.length_take, List.length_set, List.length_replicate, Bool.not_true, Bool.not_false, decide_true, decide_false, BEq.rfl, bne_self_eq_false, tf_beq, ft_beq, tf_bne, ft_bne, not_true_eq_false, not_false_eq_true, app]
    refine cells_put rfl (by omega) r4 fun h6 b66 f6 => ?_
    rw [mkF_P] at b66
    obtain ⟨sp6, lr6⟩ := s5.lr.put2 (lv' := m.lv) (k' := m.k) (H' := m.H) (S' := m.S) (P' := updR (updR m.P last (j0 : Nat)) i (-1)) (lb' := m.lb) s5.sep hM hN5 (.inr ⟨b6, cap6, rest6, e1, r2, r3, b66, e5⟩) (by show Fr m.lb h5 h6; rw [e5]; exact f6) (fun _ hb => .inl hb) kK
    have lbb : ∀ x ∈ [b6], N ≤ x := fun x hx => lb1 x (by show x ∈ m.lb; rw [e5]; exact hx)
    try simp (disch := first | assumption | omega | (apply At.mk; with_unfolding_all rfl)) only [↓go_eq, ↓ent_eq, Mv, NilC_at, Fld_at, add_mk, Nat.zero_add, Nat.add_zero, Add64, Sub64, Mul64, Quo64, Rem64, Neg64, Cvt64, CvtU8, CvtU16, CvtU32, CvtU64, AddU64, SubU64, MulU64, Shr64, Shr_u8, Shr_u16, Shr_u32, Shr_u64, And1, And31, And32, Eql64, Neq64, Bin_lss, Bin_leq, Bin_gtr, Bin_geq, Bin_bool_eql, Bin_bool_neq, Bin_ptr_nil_eql, Bin_ptr_nil_neq, Not_dec, Un_not, Pick_t, Pick_f, Pick_pos, Pick_neg, Gd_tt, Gd_tf, Gd_ft, Gd_ff, Gd_pos_t, Gd_neg_t, Gd_pos_f, Gd_neg_f, Gd_undef, If_t, If_f, If_pos, If_neg, CallF_eq, Max_two, Min_two, Len_rd, Len_own, Ld_blkE, Idx_rdN, Idx_ownN, Idx_rdE, Idx_ownE, IdxAE, LdA_two, Idx_at0, Ext_atE, Len_at, Int.toNat_natCast, Int.toNat_zero, Int.toNat_one, List.length_map, List.length_append, List.length_cons, List.length_nil, List.length_take, List.length_set, List.length_replicate, Bool.not_true, Bool.not_false, decide_true, decide_false, BEq.rfl, bne_self_eq_false, tf_beq, ft_beq, tf_bne, ft_bne, not_true_eq_false, not_false_eq_true, app]
    refine hk h6 _ _ (updR (updR m.P last (j0 : Nat)) i (-1)) ((m.row.set j0 last).take (m.row.length - 1)) rv' m.rb m.br ma' ⟨sp6, lr6, ⟨rfl, s1.st.2⟩, hM, by have := f6.size; omega, s.al, nb, Kb⟩ ?_ (fun q hq => ?_) ?_ (by unfold rowC rowOut; rw [if_pos (decide_eq_true c0), if_neg (by decide), idx_of_nd c.nd hj0, hlastd])
    · rw [ema]
      have := c.sub0 hi hA c0 hj0
      unfold rowOut at this
      rw [hlastd] at this
      exact this
    · rw [updR_ne (by omega), updR_ne (by omega), updR_ne (by omega), updR_ne (by omega), updR_ne (by omega)]; exact hR1 q hq
    · exact (((f1.trans (Fr.toN f2 lr1)).trans (Fr.toN f3 lbb)).trans (Fr.toN f5 ls1)).trans (Fr.toN f6 lbb)
end Go.Proofs.Ytonngdjfnnibaaa
