/- What the state tells. Conditions: those typed ahead of each theorem. -/
import Derived.Test.YtonngdjfnnibaaaLo
namespace Go.Proofs.Ytonngdjfnnibaaa
open Go.Pt
set_option linter.unusedVariables false
set_option linter.unusedSimpArgs false
/-- A state that stands. -/
structure LS (N : Nat) (h : Heap) (M : Nat) (R : Nat → Res) (o sb n K : Nat) (m : LMod) : Prop where
  sep : Sep N h M R
  lr : LR R o sb n K m
  st : m.st n
  hM : o + 8 + 2 * n + K ≤ M
  nN : N ≤ h.size
  al : m.a.length = n
  nb : n ≤ 1000
  Kb : K ≤ 1000
section
variable {N M : Nat} {h h' : Heap} {R : Nat → Res} {o sb n K : Nat} {m : LMod} {Q : Ret}
theorem LS.fr (s : LS N h M R o sb n K m) (f : Fr [] h h') : LS N h' M R o sb n K m := ⟨s.sep.fr f, s.lr, s.st, s.hM, Nat.le_trans s.nN f.size, s.al, s.nb, s.Kb⟩
theorem LS.one {l : Nat} (s : LS N h M R o sb n K m) (f : One l h h') : LS N h' M R o sb n K m := ⟨s.sep.one f, s.lr, s.st, s.hM, by have := f.size; have := s.nN; omega, s.al, s.nb, s.Kb⟩
theorem LS.b0 (s : LS N h M R o sb n K m) : Blk h sb [m.av, m.lv, m.ov, m.rv, m.bv, m.mv, m.zv, Iv m.few, Iv m.fl] := by have := s.lr.b0 s.sep s.hM; rwa [s.st.1] at this
theorem LS.o1 (s : LS N h M R o sb n K m) : Own h m.av (m.a.map .bool) m.ab := s.lr.o1 s.sep s.hM
theorem LS.o2 (s : LS N h M R o sb n K m) : Own4 h m.lv m.k (mkF m.lw m.H m.S m.P) m.lb := s.lr.o2 s.sep s.hM
theorem LS.o3 (s : LS N h M R o sb n K m) : Own h m.ov ((List.range (2 * n)).map m.ow) m.ob := by have := s.lr.o3 s.sep s.hM; rwa [s.st.2] at this
theorem LS.o4 (s : LS N h M R o sb n K m) : Own h m.rv (ints m.row) m.rb := s.lr.o4 s.sep s.hM
theorem LS.o5 (s : LS N h M R o sb n K m) : Own h m.bv (So.arr (n + 1) m.br) m.bb := s.lr.o5 s.sep s.hM
theorem LS.o6 (s : LS N h M R o sb n K m) : Own h m.mv (So.arr (n + 1) m.ma) m.mb := s.lr.o6 s.sep s.hM
theorem LS.o7 (s : LS N h M R o sb n K m) : Own h m.zv (m.z.map .bool) m.zb := s.lr.o7 s.sep s.hM
theorem LS.oo (s : LS N h M R o sb n K m) {j : Nat} (hj : j < 2 * n) : Own h (m.ow j) (ints (m.occ j)) (m.ofp j) := s.lr.oo s.sep s.hM hj
theorem LS.ol (s : LS N h M R o sb n K m) {i : Nat} (hi : i < K) : Own h (m.lw i) ((m.L i).map Iv) (m.lf i) := s.lr.ol s.sep s.hM hi
theorem ints_len (l : List Nat) : (ints l).length = l.length := by simp [ints]
theorem ints_at {l : List Nat} {i x : Nat} (h : l[i]? = some x) : At (ints l) i (Iv (x : Nat)) := ⟨by rw [ints, List.getElem?_map, h]; rfl⟩
def inR (n : Nat) (v : Int) : Prop := 1 ≤ v ∧ v ≤ n
instance (n : Nat) (v : Int) : Decidable (inR n v) := inferInstanceAs (Decidable (_ ∧ _))
theorem local_State_right.spec {v : Int} (s : LS N h M R o sb n K m) (hk : Q (.bool (decide (inR n v))) h) : CallH Try.prog local_State_right.id #[ptr sb, Iv v] Q h := by
  refine local_State_right.ok ?_
  simp only [local_State_right.pt]
  have b0 := s.b0
  have o1 := s.o1.rd
  have al := s.al
  by_cases c : v ≥ 1
  · try simp (disch := first | assumption | omega | (apply At.mk; with_unfolding_all rfl)) only [al, ↓go_eq, ↓ent_eq, Mv, NilC_at, Fld_at, add_mk, Nat.zero_add, Nat.add_zero, Add64, Sub64, Mul64, Quo64, Rem64, Neg64, Cvt64, CvtU8, CvtU16, CvtU32, CvtU64, AddU64, SubU64, MulU64, Shr64, Shr_u8, Shr_u16, Shr_u32, Shr_u64, And1, And31, And32, Eql64, Neq64, Bin_lss, Bin_leq, Bin_gtr, Bin_geq, Bin_bool_eql, Bin_bool_neq, Bin_ptr_nil_eql, Bin_ptr_nil_neq, Not_dec, Un_not, Pick_t, Pick_f, Pick_pos, Pick_neg, Gd_tt, Gd_tf, Gd_ft, Gd_ff, Gd_pos_t, Gd_neg_t, Gd_pos_f, Gd_neg_f, Gd_undef, If_t, If_f, If_pos, If_neg, CallF_eq, Max_two, Min_two, Len_rd, Len_own, Ld_blkE, Idx_rdN, Idx_ownN, Idx_rdE, Idx_ownE, IdxAE, LdA_two, Idx_at0, Ext_atE, Len_at, Int.toNat_natCast, Int.toNat_zero, Int.toNat_one, List.length_map, List.length_append, List.length_cons, List.length_nil, List.length_take, List.length_set, List.length_replicate, Bool.not_true, Bool.not_false, decide_true, decide_false, BEq.rfl, bne_self_eq_false, tf_beq, ft_beq, tf_bne, ft_bne, not_true_eq_false, not_false_eq_true, app]
    by_cases c2 : v ≤ n
    · rw [decide_eq_true (show inR n v from ⟨c, c2⟩)] at hk
      rw [decide_eq_true c2]; exact hk
    · rw [decide_eq_false (show ¬ inR n v from fun q => c2 q.2)] at hk
      rw [decide_eq_false c2]; exact hk
  · rw [decide_eq_false (show ¬ inR n v from fun q => c q.1)] at hk
    try simp (disch := first | assumption | omega | (apply At.mk; with_unfolding_all rfl)) only [↓go_eq, ↓ent_eq, Mv, NilC_at, Fld_at, add_mk, Nat.zero_add, Nat.add_zero, Add64, Sub64, Mul64, Quo64, Rem64, Neg64, Cvt64, CvtU8, CvtU16, CvtU32, CvtU64, AddU64, SubU64, MulU64, Shr64, Shr_u8, Shr_u16, Shr_u32, Shr_u64, And1, And31, And32, Eql64, Neq64, Bin_lss, Bin_leq, Bin_gtr, Bin_geq, Bin_bool_eql, Bin_bool_neq, Bin_ptr_nil_eql, Bin_ptr_nil_neq, Not_dec, Un_not, Pick_t, Pick_f, Pick_pos, Pick_neg, Gd_tt, Gd_tf, Gd_ft, Gd_ff, Gd_pos_t, Gd_neg_t, Gd_pos_f, Gd_neg_f, Gd_undef, If_t, If_f, If_pos, If_neg, CallF_eq, Max_two, Min_two, Len_rd, Len_own, Ld_blkE, Idx_rdN, Idx_ownN, Idx_rdE, Idx_ownE, IdxAE, LdA_two, Idx_at0, Ext_atE, Len_at, Int.toNat_natCast, Int.toNat_zero, Int.toNat_one, List.length_map, List.length_append, List.length_cons, List.length_nil, List.length_take, List.length_set, List.length_replicate, Bool.not_true, Bool.not_false, decide_true, decide_false, BEq.rfl, bne_self_eq_false, tf_beq, ft_beq, tf_bne, ft_bne, not_true_eq_false, not_false_eq_true, app]
    exact hk
theorem sright_q {v : Int} (s : LS N h M R o sb n K m) (hk : Q (.bool (decide (inR n v))) h) : QCall Try.prog local_State_right.id [ptr sb, Iv v] Q h := QCall_mk (local_State_right.spec s ⟨rfl, rfl⟩) hk
theorem bool_atD {a : List Bool} {i : Nat} (h : i < a.length) : At (a.map Value.bool) i (.bool (a.getD i false)) := by
  rw [List.getD_eq_getElem?_getD, List.getElem?_eq_getElem h]
  exact At.map (f := Value.bool) (List.getElem?_eq_getElem h)
def valT (a : List Bool) (v : Int) : Bool := decide (inR a.length v) && a.getD (v - 1).toNat false
theorem local_State_Break.spec {v : Int} (s : LS N h M R o sb n K m) (hk : Q (Iv (if inR n v then m.br v.toNat else 0)) h) : CallH Try.prog local_State_Break.id #[ptr sb, Iv v] Q h := by
  refine local_State_Break.ok ?_
  simp only [local_State_Break.pt]
  have b0 := s.b0
  have o5 := s.o5.rd
  rw [go_eq]
  refine sright_q s ?_
  by_cases c : inR n v
  · have c12 := c
    obtain ⟨c1, c2⟩ := c12
    have a1 := So.arr_at (m := n + 1) m.br (show v.toNat < n + 1 by omega)
    rw [if_pos c] at hk
    rw [decide_eq_true c]
    try simp (disch := first | assumption | omega | (apply At.mk; with_unfolding_all rfl)) only [↓go_eq, ↓ent_eq, Mv, NilC_at, Fld_at, add_mk, Nat.zero_add, Nat.add_zero, Add64, Sub64, Mul64, Quo64, Rem64, Neg64, Cvt64, CvtU8, CvtU16, CvtU32, CvtU64, AddU64, SubU64, MulU64, Shr64, Shr_u8, Shr_u16, Shr_u32, Shr_u64, And1, And31, And32, Eql64, Neq64, Bin_lss, Bin_leq, Bin_gtr, Bin_geq, Bin_bool_eql, Bin_bool_neq, Bin_ptr_nil_eql, Bin_ptr_nil_neq, Not_dec, Un_not, Pick_t, Pick_f, Pick_pos, Pick_neg, Gd_tt, Gd_tf, Gd_ft, Gd_ff, Gd_pos_t, Gd_neg_t, Gd_pos_f, Gd_neg_f, Gd_undef, If_t, If_f, If_pos, If_neg, CallF_eq, Max_two, Min_two, Len_rd, Len_own, Ld_blkE, Idx_rdN, Idx_ownN, Idx_rdE, Idx_ownE, IdxAE, LdA_two, Idx_at0, Ext_atE, Len_at, Int.toNat_natCast, Int.toNat_zero, Int.toNat_one, List.length_map, List.length_append, List.length_cons, List.length_nil, List.length_take, List.length_set, List.length_replicate, Bool.not_true, Bool.not_false, decide_true, decide_false, BEq.rfl, bne_self_eq_false, tf_beq, ft_beq, tf_bne, ft_bne, not_true_eq_false, not_false_eq_true, app]
    exact hk
  · rw [if_neg c] at hk
    rw [decide_eq_false c]
    try simp (disch := first | assumption | omega | (apply At.mk; with_unfolding_all rfl)) only [↓go_eq, ↓ent_eq, Mv, NilC_at, Fld_at, add_mk, Nat.zero_add, Nat.add_zero, Add64, Sub64, Mul64, Quo64, Rem64, Neg64, Cvt64, CvtU8, CvtU16, CvtU32, CvtU64, AddU64, SubU64, MulU64, Shr64, Shr_u8, Shr_u16, Shr_u32, Shr_u64, And1, And31, And32, Eql64, Neq64, Bin_lss, Bin_leq, Bin_gtr, Bin_geq, Bin_bool_eql, Bin_bool_neq, Bin_ptr_nil_eql, Bin_ptr_nil_neq, Not_dec, Un_not, Pick_t, Pick_f, Pick_pos, Pick_neg, Gd_tt, Gd_tf, Gd_ft, Gd_ff, Gd_pos_t, Gd_neg_t, Gd_pos_f, Gd_neg_f, Gd_undef, If_t, If_f, If_pos, If_neg, CallF_eq, Max_two, Min_two, Len_rd, Len_own, Ld_blkE, Idx_rdN, Idx_ownN, Idx_rdE, Idx_ownE, IdxAE, LdA_two, Idx_at0, Ext_atE, Len_at, Int.toNat_natCast, Int.toNat_zero, Int.toNat_one, List.length_map, List.length_append, List.length_cons, List.length_nil, List.length_take, List.length_set, List.length_replicate, Bool.not_true, Bool.not_false, decide_true, decide_false, BEq.rfl, bne_self_eq_false, tf_beq, ft_beq, tf_bne, ft_bne, not_true_eq_false, not_false_eq_true, app]
    exact hk
theorem break_q {v : Int} (s : LS N h M R o sb n K m) (hk : Q (Iv (if inR n v then m.br v.toNat else 0)) h) : QCall Try.prog local_State_Break.id [ptr sb, Iv v] Q h := QCall_mk (local_State_Break.spec s ⟨rfl, rfl⟩) hk
theorem local_State_Unsatisfied.spec (s : LS N h M R o sb n K m) (hk : Q (Iv (m.row.length : Nat)) h) : CallH Try.prog local_State_Unsatisfied.id #[ptr sb] Q h := by
  refine local_State_Unsatisfied.ok ?_
  simp only [local_State_Unsatisfied.pt]
  have b0 := s.b0
  have o4 := s.o4.rd
  have il := ints_len m.row
  try simp (disch := first | assumption | omega | (apply At.mk; with_unfolding_all rfl)) only [il, ↓go_eq, ↓ent_eq, Mv, NilC_at, Fld_at, add_mk, Nat.zero_add, Nat.add_zero, Add64, Sub64, Mul64, Quo64, Rem64, Neg64, Cvt64, CvtU8, CvtU16, CvtU32, CvtU64, AddU64, SubU64, MulU64, Shr64, Shr_u8, Shr_u16, Shr_u32, Shr_u64, And1, And31, And32, Eql64, Neq64, Bin_lss, Bin_leq, Bin_gtr, Bin_geq, Bin_bool_eql, Bin_bool_neq, Bin_ptr_nil_eql, Bin_ptr_nil_neq, Not_dec, Un_not, Pick_t, Pick_f, Pick_pos, Pick_neg, Gd_tt, Gd_tf, Gd_ft, Gd_ff, Gd_pos_t, Gd_neg_t, Gd_pos_f, Gd_neg_f, Gd_undef, If_t, If_f, If_pos, If_neg, CallF_eq, Max_two, Min_two, Len_rd, Len_own, Ld_blkE, Idx_rdN, Idx_ownN, Idx_rdE, Idx_ownE, IdxAE, LdA_two, Idx_at0, Ext_atE, Len_at, Int.toNat_natCast, Int.toNat_zero, Int.toNat_one, List.length_map, List.length_append, List.length_cons, List.length_nil, List.length_take, List.length_set, List.length_replicate, Bool.not_true, Bool.not_false, decide_true, decide_false, BEq.rfl, bne_self_eq_false, tf_beq, ft_beq, tf_bne, ft_bne, not_true_eq_false, not_false_eq_true, app]
  exact hk
theorem unsat_q (s : LS N h M R o sb n K m) (hk : Q (Iv (m.row.length : Nat)) h) : QCall Try.prog local_State_Unsatisfied.id [ptr sb] Q h := QCall_mk (local_State_Unsatisfied.spec s ⟨rfl, rfl⟩) hk
def rowT (row : List Nat) (i : Int) : Int := if 0 ≤ i ∧ i < row.length then ((row.getD i.toNat 0 : Nat) : Int) else -1
theorem local_State_Row.spec {i : Int} (s : LS N h M R o sb n K m) (hk : Q (Iv (rowT m.row i)) h) : CallH Try.prog local_State_Row.id #[ptr sb, Iv i] Q h := by
  refine local_State_Row.ok ?_
  simp only [local_State_Row.pt]
  have b0 := s.b0
  have o4 := s.o4.rd
  have il := ints_len m.row
  unfold rowT at hk
  by_cases c : i < 0
  · rw [if_neg (by omega)] at hk
    try simp (disch := first | assumption | omega | (apply At.mk; with_unfolding_all rfl)) only [↓go_eq, ↓ent_eq, Mv, NilC_at, Fld_at, add_mk, Nat.zero_add, Nat.add_zero, Add64, Sub64, Mul64, Quo64, Rem64, Neg64, Cvt64, CvtU8, CvtU16, CvtU32, CvtU64, AddU64, SubU64, MulU64, Shr64, Shr_u8, Shr_u16, Shr_u32, Shr_u64, And1, And31, And32, Eql64, Neq64, Bin_lss, Bin_leq, Bin_gtr, Bin_geq, Bin_bool_eql, Bin_bool_neq, Bin_ptr_nil_eql, Bin_ptr_nil_neq, Not_dec, Un_not, Pick_t, Pick_f, Pick_pos, Pick_neg, Gd_tt, Gd_tf, Gd_ft, Gd_ff, Gd_pos_t, Gd_neg_t, Gd_pos_f, Gd_neg_f, Gd_undef, If_t, If_f, If_pos, If_neg, CallF_eq, Max_two, Min_two, Len_rd, Len_own, Ld_blkE, Idx_rdN, Idx_ownN, Idx_rdE, Idx_ownE, IdxAE, LdA_two, Idx_at0, Ext_atE, Len_at, Int.toNat_natCast, Int.toNat_zero, Int.toNat_one, List.length_map, List.length_append, List.length_cons, List.length_nil, List.length_take, List.length_set, List.length_replicate, Bool.not_true, Bool.not_false, decide_true, decide_false, BEq.rfl, bne_self_eq_false, tf_beq, ft_beq, tf_bne, ft_bne, not_true_eq_false, not_false_eq_true, app]
    exact hk
  · by_cases c2 : i ≥ ((m.row.length : Nat) : Int)
    · rw [if_neg (by omega)] at hk
      try simp (disch := first | assumption | omega | (apply At.mk; with_unfolding_all rfl)) only [il, ↓go_eq, ↓ent_eq, Mv, NilC_at, Fld_at, add_mk, Nat.zero_add, Nat.add_zero, Add64, Sub64, Mul64, Quo64, Rem64, Neg64, Cvt64, CvtU8, CvtU16, CvtU32, CvtU64, AddU64, SubU64, MulU64, Shr64, Shr_u8, Shr_u16, Shr_u32, Shr_u64, And1, And31, And32, Eql64, Neq64, Bin_lss, Bin_leq, Bin_gtr, Bin_geq, Bin_bool_eql, Bin_bool_neq, Bin_ptr_nil_eql, Bin_ptr_nil_neq, Not_dec, Un_not, Pick_t, Pick_f, Pick_pos, Pick_neg, Gd_tt, Gd_tf, Gd_ft, Gd_ff, Gd_pos_t, Gd_neg_t, Gd_pos_f, Gd_neg_f, Gd_undef, If_t, If_f, If_pos, If_neg, CallF_eq, Max_two, Min_two, Len_rd, Len_own, Ld_blkE, Idx_rdN, Idx_ownN, Idx_rdE, Idx_ownE, IdxAE, LdA_two, Idx_at0, Ext_atE, Len_at, Int.toNat_natCast, Int.toNat_zero, Int.toNat_one, List.length_map, List.length_append, List.length_cons, List.length_nil, List.length_take, List.length_set, List.length_replicate, Bool.not_true, Bool.not_false, decide_true, decide_false, BEq.rfl, bne_self_eq_false, tf_beq, ft_beq, tf_bne, ft_bne, not_true_eq_false, not_false_eq_true, app]
      exact hk
    · rw [if_pos (by omega)] at hk
      have hg : m.row[i.toNat]? = some (m.row.getD i.toNat 0) := by rw [List.getD_eq_getElem?_getD, List.getElem?_eq_getElem (by omega)]; rfl
      have a1 := ints_at hg
      try simp (disch := first | assumption | omega | (apply At.mk; with_unfolding_all rfl)) only [il, ↓go_eq, ↓ent_eq, Mv, NilC_at, Fld_at, add_mk, Nat.zero_add, Nat.add_zero, Add64, Sub64, Mul64, Quo64, Rem64, Neg64, Cvt64, CvtU8, CvtU16, CvtU32, CvtU64, AddU64, SubU64, MulU64, Shr64, Shr_u8, Shr_u16, Shr_u32, Shr_u64, And1, And31, And32, Eql64, Neq64, Bin_lss, Bin_leq, Bin_gtr, Bin_geq, Bin_bool_eql, Bin_bool_neq, Bin_ptr_nil_eql, Bin_ptr_nil_neq, Not_dec, Un_not, Pick_t, Pick_f, Pick_pos, Pick_neg, Gd_tt, Gd_tf, Gd_ft, Gd_ff, Gd_pos_t, Gd_neg_t, Gd_pos_f, Gd_neg_f, Gd_undef, If_t, If_f, If_pos, If_neg, CallF_eq, Max_two, Min_two, Len_rd, Len_own, Ld_blkE, Idx_rdN, Idx_ownN, Idx_rdE, Idx_ownE, IdxAE, LdA_two, Idx_at0, Ext_atE, Len_at, Int.toNat_natCast, Int.toNat_zero, Int.toNat_one, List.length_map, List.length_append, List.length_cons, List.length_nil, List.length_take, List.length_set, List.length_replicate, Bool.not_true, Bool.not_false, decide_true, decide_false, BEq.rfl, bne_self_eq_false, tf_beq, ft_beq, tf_bne, ft_bne, not_true_eq_false, not_false_eq_true, app]
      exact hk
theorem row_q {i : Int} (s : LS N h M R o sb n K m) (hk : Q (Iv (rowT m.row i)) h) : QCall Try.prog local_State_Row.id [ptr sb, Iv i] Q h := QCall_mk (local_State_Row.spec s ⟨rfl, rfl⟩) hk
theorem local_State_Clause.spec {i : Int} (s : LS N h M R o sb n K m) (hl : ∀ j, j < m.k → (m.L j).length ≤ 1000000) (hk : ∀ v bs h', Own h' v ((if 0 ≤ i ∧ i < m.k then m.L i.toNat else []).map Iv) bs → (∀ b ∈ bs, h.size ≤ b) → Fr [] h h' → Q v h') : CallH Try.prog local_State_Clause.id #[ptr sb, Iv i] Q h := by
  refine local_State_Clause.ok ?_
  simp only [local_State_Clause.pt]
  have b0 := s.b0
  by_cases c : i < 0
  · rw [if_neg (by omega)] at hk
    try simp (disch := first | assumption | omega | (apply At.mk; with_unfolding_all rfl)) only [↓go_eq, ↓ent_eq, Mv, NilC_at, Fld_at, add_mk, Nat.zero_add, Nat.add_zero, Add64, Sub64, Mul64, Quo64, Rem64, Neg64, Cvt64, CvtU8, CvtU16, CvtU32, CvtU64, AddU64, SubU64, MulU64, Shr64, Shr_u8, Shr_u16, Shr_u32, Shr_u64, And1, And31, And32, Eql64, Neq64, Bin_lss, Bin_leq, Bin_gtr, Bin_geq, Bin_bool_eql, Bin_bool_neq, Bin_ptr_nil_eql, Bin_ptr_nil_neq, Not_dec, Un_not, Pick_t, Pick_f, Pick_pos, Pick_neg, Gd_tt, Gd_tf, Gd_ft, Gd_ff, Gd_pos_t, Gd_neg_t, Gd_pos_f, Gd_neg_f, Gd_undef, If_t, If_f, If_pos, If_neg, CallF_eq, Max_two, Min_two, Len_rd, Len_own, Ld_blkE, Idx_rdN, Idx_ownN, Idx_rdE, Idx_ownE, IdxAE, LdA_two, Idx_at0, Ext_atE, Len_at, Int.toNat_natCast, Int.toNat_zero, Int.toNat_one, List.length_map, List.length_append, List.length_cons, List.length_nil, List.length_take, List.length_set, List.length_replicate, Bool.not_true, Bool.not_false, decide_true, decide_false, BEq.rfl, bne_self_eq_false, tf_beq, ft_beq, tf_bne, ft_bne, not_true_eq_false, not_false_eq_true, app]
    exact hk _ [] h (Own.nil h) (by simp) (Fr.refl _ _)
  · try simp (disch := first | assumption | omega | (apply At.mk; with_unfolding_all rfl)) only [↓go_eq, ↓ent_eq, Mv, NilC_at, Fld_at, add_mk, Nat.zero_add, Nat.add_zero, Add64, Sub64, Mul64, Quo64, Rem64, Neg64, Cvt64, CvtU8, CvtU16, CvtU32, CvtU64, AddU64, SubU64, MulU64, Shr64, Shr_u8, Shr_u16, Shr_u32, Shr_u64, And1, And31, And32, Eql64, Neq64, Bin_lss, Bin_leq, Bin_gtr, Bin_geq, Bin_bool_eql, Bin_bool_neq, Bin_ptr_nil_eql, Bin_ptr_nil_neq, Not_dec, Un_not, Pick_t, Pick_f, Pick_pos, Pick_neg, Gd_tt, Gd_tf, Gd_ft, Gd_ff, Gd_pos_t, Gd_neg_t, Gd_pos_f, Gd_neg_f, Gd_undef, If_t, If_f, If_pos, If_neg, CallF_eq, Max_two, Min_two, Len_rd, Len_own, Ld_blkE, Idx_rdN, Idx_ownN, Idx_rdE, Idx_ownE, IdxAE, LdA_two, Idx_at0, Ext_atE, Len_at, Int.toNat_natCast, Int.toNat_zero, Int.toNat_one, List.length_map, List.length_append, List.length_cons, List.length_nil, List.length_take, List.length_set, List.length_replicate, Bool.not_true, Bool.not_false, decide_true, decide_false, BEq.rfl, bne_self_eq_false, tf_beq, ft_beq, tf_bne, ft_bne, not_true_eq_false, not_false_eq_true, app]
    rw [s.o2.len]
    by_cases c2 : i ≥ ((m.k : Nat) : Int)
    · rw [if_neg (by omega)] at hk
      try simp (disch := first | assumption | omega | (apply At.mk; with_unfolding_all rfl)) only [↓go_eq, ↓ent_eq, Mv, NilC_at, Fld_at, add_mk, Nat.zero_add, Nat.add_zero, Add64, Sub64, Mul64, Quo64, Rem64, Neg64, Cvt64, CvtU8, CvtU16, CvtU32, CvtU64, AddU64, SubU64, MulU64, Shr64, Shr_u8, Shr_u16, Shr_u32, Shr_u64, And1, And31, And32, Eql64, Neq64, Bin_lss, Bin_leq, Bin_gtr, Bin_geq, Bin_bool_eql, Bin_bool_neq, Bin_ptr_nil_eql, Bin_ptr_nil_neq, Not_dec, Un_not, Pick_t, Pick_f, Pick_pos, Pick_neg, Gd_tt, Gd_tf, Gd_ft, Gd_ff, Gd_pos_t, Gd_neg_t, Gd_pos_f, Gd_neg_f, Gd_undef, If_t, If_f, If_pos, If_neg, CallF_eq, Max_two, Min_two, Len_rd, Len_own, Ld_blkE, Idx_rdN, Idx_ownN, Idx_rdE, Idx_ownE, IdxAE, LdA_two, Idx_at0, Ext_atE, Len_at, Int.toNat_natCast, Int.toNat_zero, Int.toNat_one, List.length_map, List.length_append, List.length_cons, List.length_nil, List.length_take, List.length_set, List.length_replicate, Bool.not_true, Bool.not_false, decide_true, decide_false, BEq.rfl, bne_self_eq_false, tf_beq, ft_beq, tf_bne, ft_bne, not_true_eq_false, not_false_eq_true, app]
      exact hk _ [] h (Own.nil h) (by simp) (Fr.refl _ _)
    · rw [if_pos (by omega)] at hk
      obtain ⟨b, cap, rest, e1, e2, e3, e4, e5⟩ := s.o2.pos (by omega)
      have a1 := cells4_at (k := m.k) (o := i.toNat * 4) (F := mkF m.lw m.H m.S m.P) (rest := rest) (by omega)
      rw [mkF0] at a1
      have ol := (s.ol (i := i.toNat) (by have := s.lr.kK; omega)).rd
      rw [e1] at b0
      try simp (disch := first | assumption | omega | (apply At.mk; with_unfolding_all rfl)) only [↓go_eq, ↓ent_eq, Mv, NilC_at, Fld_at, add_mk, Nat.zero_add, Nat.add_zero, Add64, Sub64, Mul64, Quo64, Rem64, Neg64, Cvt64, CvtU8, CvtU16, CvtU32, CvtU64, AddU64, SubU64, MulU64, Shr64, Shr_u8, Shr_u16, Shr_u32, Shr_u64, And1, And31, And32, Eql64, Neq64, Bin_lss, Bin_leq, Bin_gtr, Bin_geq, Bin_bool_eql, Bin_bool_neq, Bin_ptr_nil_eql, Bin_ptr_nil_neq, Not_dec, Un_not, Pick_t, Pick_f, Pick_pos, Pick_neg, Gd_tt, Gd_tf, Gd_ft, Gd_ff, Gd_pos_t, Gd_neg_t, Gd_pos_f, Gd_neg_f, Gd_undef, If_t, If_f, If_pos, If_neg, CallF_eq, Max_two, Min_two, Len_rd, Len_own, Ld_blkE, Idx_rdN, Idx_ownN, Idx_rdE, Idx_ownE, IdxAE, LdA_two, Idx_at0, Ext_atE, Len_at, Int.toNat_natCast, Int.toNat_zero, Int.toNat_one, List.length_map, List.length_append, List.length_cons, List.length_nil, List.length_take, List.length_set, List.length_replicate, Bool.not_true, Bool.not_false, decide_true, decide_false, BEq.rfl, bne_self_eq_false, tf_beq, ft_beq, tf_bne, ft_bne, not_true_eq_false, not_false_eq_true, app]
      refine slices_Clone_int_int.spec (hl _ (by omega)) ol fun v bs h' o' hb f => ?_
      exact hk v bs h' o' hb f
theorem slices_Clone_bool_bool.spec {v : Value} {c : List Bool} (hl : c.length ≤ 1000000) {K : Ret} {h : Heap} (hv : Rd h v (c.map .bool)) (hk : ∀ v' bs h', Own h' v' (c.map .bool) bs → (∀ b ∈ bs, h.size ≤ b) → Fr [] h h' → K v' h') : CallH Try.prog slices_Clone_bool_bool.id #[v] K h := by
  refine slices_Clone_bool_bool.ok ?_
  simp only [slices_Clone_bool_bool.pt]
  have hv0 := hv
  obtain ⟨a, cap, rfl, hcap, hc⟩ := hv
  cases a with
  | none =>
    have : c = [] := by
      cases c with
      | nil => rfl
      | cons x xs => obtain ⟨ad, e, _⟩ := hc 0 _ rfl; cases e
    subst this
    rw [go_eq, Bin_slice_none, If_t]
    exact hk _ [] h (Own.nil h) (by simp) (Fr.refl _ _)
  | some a =>
    rw [go_eq, Bin_slice_some, If_f, go_eq]
    refine Bld0_own fun h1 o1 f1 s1 => ?_
    rw [go_eq]
    refine o1.app (hv0.fr f1) rfl rfl (fun x hx => by obtain ⟨y, _, rfl⟩ := List.mem_map.1 hx; rfl) (by simp; omega) (by simp; omega) fun v' h2 bs o2 f2 hb s2 => ?_
    exact hk v' bs h2 (by simpa using o2) (fun b hm => by rcases hb b hm with x | x; simp at x; omega; omega) (f1.trans' f2 (by simp))
theorem clone_a {v : Value} {c : List Bool} (hl : c.length ≤ 1000000) {K : Ret} {h : Heap} (hv : Rd h v (c.map .bool)) (hk : ∀ v' bs h', Own h' v' (c.map .bool) bs → (∀ b ∈ bs, h.size ≤ b) → Fr [] h h' → K v' h') : ACall Try.prog slices_Clone_bool_bool.id [v] K h :=
  ACall_mk (slices_Clone_bool_bool.spec hl hv fun v' bs h' o hb f => ⟨f, hk v' bs h' o hb f⟩)
theorem local_State_Assignment.spec (s : LS N h M R o sb n K m) (hk : ∀ v bs h', Own h' v (m.a.map .bool) bs → (∀ b ∈ bs, h.size ≤ b) → Fr [] h h' → Q v h') : CallH Try.prog local_State_Assignment.id #[ptr sb] Q h := by
  refine local_State_Assignment.ok ?_
  simp only [local_State_Assignment.pt]
  have b0 := s.b0
  have o1 := s.o1.rd
  try simp (disch := first | assumption | omega | (apply At.mk; with_unfolding_all rfl)) only [↓go_eq, ↓ent_eq, Mv, NilC_at, Fld_at, add_mk, Nat.zero_add, Nat.add_zero, Add64, Sub64, Mul64, Quo64, Rem64, Neg64, Cvt64, CvtU8, CvtU16, CvtU32, CvtU64, AddU64, SubU64, MulU64, Shr64, Shr_u8, Shr_u16, Shr_u32, Shr_u64, And1, And31, And32, Eql64, Neq64, Bin_lss, Bin_leq, Bin_gtr, Bin_geq, Bin_bool_eql, Bin_bool_neq, Bin_ptr_nil_eql, Bin_ptr_nil_neq, Not_dec, Un_not, Pick_t, Pick_f, Pick_pos, Pick_neg, Gd_tt, Gd_tf, Gd_ft, Gd_ff, Gd_pos_t, Gd_neg_t, Gd_pos_f, Gd_neg_f, Gd_undef, If_t, If_f, If_pos, If_neg, CallF_eq, Max_two, Min_two, Len_rd, Len_own, Ld_blkE, Idx_rdN, Idx_ownN, Idx_rdE, Idx_ownE, IdxAE, LdA_two, Idx_at0, Ext_atE, Len_at, Int.toNat_natCast, Int.toNat_zero, Int.toNat_one, List.length_map, List.length_append, List.length_cons, List.length_nil, List.length_take, List.length_set, List.length_replicate, Bool.not_true, Bool.not_false, decide_true, decide_false, BEq.rfl, bne_self_eq_false, tf_beq, ft_beq, tf_bne, ft_bne, not_true_eq_false, not_false_eq_true, app]
  exact clone_a (by rw [s.al]; have := s.nb; omega) o1 hk
theorem local_State_Best.spec (s : LS N h M R o sb n K m) (hz : m.z.length ≤ 1000000) (hk : ∀ v bs h', Own h' v (m.z.map .bool) bs → (∀ b ∈ bs, h.size ≤ b) → Fr [] h h' → Q (.tuple #[v, Iv m.few]) h') : CallH Try.prog local_State_Best.id #[ptr sb] Q h := by
  refine local_State_Best.ok ?_
  simp only [local_State_Best.pt]
  have b0 := s.b0
  have o7 := s.o7.rd
  try simp (disch := first | assumption | omega | (apply At.mk; with_unfolding_all rfl)) only [↓go_eq, ↓ent_eq, Mv, NilC_at, Fld_at, add_mk, Nat.zero_add, Nat.add_zero, Add64, Sub64, Mul64, Quo64, Rem64, Neg64, Cvt64, CvtU8, CvtU16, CvtU32, CvtU64, AddU64, SubU64, MulU64, Shr64, Shr_u8, Shr_u16, Shr_u32, Shr_u64, And1, And31, And32, Eql64, Neq64, Bin_lss, Bin_leq, Bin_gtr, Bin_geq, Bin_bool_eql, Bin_bool_neq, Bin_ptr_nil_eql, Bin_ptr_nil_neq, Not_dec, Un_not, Pick_t, Pick_f, Pick_pos, Pick_neg, Gd_tt, Gd_tf, Gd_ft, Gd_ff, Gd_pos_t, Gd_neg_t, Gd_pos_f, Gd_neg_f, Gd_undef, If_t, If_f, If_pos, If_neg, CallF_eq, Max_two, Min_two, Len_rd, Len_own, Ld_blkE, Idx_rdN, Idx_ownN, Idx_rdE, Idx_ownE, IdxAE, LdA_two, Idx_at0, Ext_atE, Len_at, Int.toNat_natCast, Int.toNat_zero, Int.toNat_one, List.length_map, List.length_append, List.length_cons, List.length_nil, List.length_take, List.length_set, List.length_replicate, Bool.not_true, Bool.not_false, decide_true, decide_false, BEq.rfl, bne_self_eq_false, tf_beq, ft_beq, tf_bne, ft_bne, not_true_eq_false, not_false_eq_true, app]
  exact clone_a hz o7 hk
end
end Go.Proofs.Ytonngdjfnnibaaa
