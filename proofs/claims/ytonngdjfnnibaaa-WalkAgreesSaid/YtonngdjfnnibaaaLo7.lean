/- A variable is turned. Conditions: those typed ahead of each theorem. -/
import Derived.Test.YtonngdjfnnibaaaLo6
namespace Go.Proofs.Ytonngdjfnnibaaa
open Go.Pt
set_option linter.unusedVariables false
set_option linter.unusedSimpArgs false
def GF (n : Nat) (F : List (List Int)) : Prop := ∀ c ∈ F, ClOk n c ∧ c.Nodup ∧ c.length ≤ 1000
/-- The state is as an assignment makes it. -/
structure Rt (n : Nat) (m : LMod) (F : List (List Int)) (a z : List Bool) (few fl : Int) : Prop where
  ek : m.k = F.length
  ea : m.a = a
  ez : m.z = z
  zl : z.length = n
  ew : m.few = few
  ef : m.fl = fl
  L : ∀ (i : Nat) (c : List Int), F[i]? = some c → m.L i = c
  H : ∀ (i : Nat) (c : List Int), F[i]? = some c → m.H i = hB (litT a) c
  S : ∀ (i : Nat) (c : List Int), F[i]? = some c → m.S i = sB (litT a) c
  on : ∀ j, j < 2 * n → (m.occ j).Pairwise (· < ·)
  oc : ∀ j, j < 2 * n → ∀ i, i ∈ m.occ j ↔ ∃ c, F[i]? = some c ∧ lat j ∈ c
  cnt : Cnt n m.k (fun _ => true) m.L m.H m.S m.P m.row m.br m.ma
theorem getF {F : List (List Int)} {i : Nat} (h : i < F.length) : ∃ c, F[i]? = some c ∧ c ∈ F := ⟨F[i], List.getElem?_eq_getElem h, List.getElem_mem h⟩
theorem someF {F : List (List Int)} {i : Nat} {c : List Int} (h : F[i]? = some c) : i < F.length ∧ c ∈ F := ⟨(List.getElem?_eq_some_iff.1 h).1, List.mem_of_getElem? h⟩
theorem Rt.un {n : Nat} {m : LMod} {F : List (List Int)} {a z : List Bool} {few fl : Int} (r : Rt n m F a z few fl) : m.row.length = unT a F := by
  refine unT_row r.cnt.nd fun i => ?_
  rw [r.cnt.mem, r.ek]
  constructor
  · rintro ⟨h1, _, h2⟩
    obtain ⟨c, hc, _⟩ := getF h1
    exact ⟨c, hc, by rw [← r.H i c hc]; exact h2⟩
  · rintro ⟨c, hc, h2⟩
    exact ⟨(someF hc).1, rfl, by rw [r.H i c hc]; exact h2⟩
theorem LR.ff {R : Nat → Res} {o sb n K : Nat} {m : LMod} (l : LR R o sb n K m) (x y : Int) : LR R o sb n K { m with few := x, fl := y } := ⟨l.r0, l.r1, l.r2, l.r3, l.r4, l.r5, l.r6, l.r7, l.ro, l.rl, l.kK⟩
theorem Rd.len_any {h : Heap} {v : Value} {xs : List Value} (hv : Rd h v xs) {K : Ret} {h' : Heap} : Len v K h' = K (Iv (xs.length : Nat)) h' := by
  obtain ⟨a, cap, rfl, _⟩ := hv
  exact Len_at _ _ _
abbrev LMod.up (m : LMod) (c0 : List Value) (a : List Bool) (H S P : Nat → Int) (row : List Nat) (rv : Value) (rb : List Nat) (br ma : Nat → Int) (fl : Int) : LMod := { m with c0 := c0, a := a, H := H, S := S, P := P, row := row, rv := rv, rb := rb, br := br, ma := ma, fl := fl }
theorem bool_set {a : List Bool} {i : Nat} {b : Bool} : (a.map Value.bool).set i (.bool b) = (a.set i b).map .bool := by rw [List.map_set]
section
variable {N M : Nat} {h h' : Heap} {R : Nat → Res} {o sb n K : Nat} {m : LMod} {Q : Ret} {F : List (List Int)} {a z : List Bool} {few fl : Int}
/-- What turn asks for, of clauses as p makes them. -/
theorem turn_ok {p p' : Int → Bool} {H S : Nat → Int} {occ : List Nat} {l d : Int} (hF : GF n F) (hl : LitOk n l) (nb : n ≤ 1000) (hoc : ∀ i, i ∈ occ ↔ ∃ c, F[i]? = some c ∧ l ∈ c)
    (hH : ∀ (i : Nat) (c : List Int), F[i]? = some c → H i = hB p c) (hS : ∀ (i : Nat) (c : List Int), F[i]? = some c → S i = sB p c)
    (h1 : ∀ c ∈ F, hB p' c = hB p c + (if l ∈ c then d else 0)) (h2 : ∀ c ∈ F, sB p' c = sB p c + (if l ∈ c then d * (l.natAbs : Nat) else 0)) :
    (∀ i ∈ occ, i < F.length) ∧ (∀ i, i < F.length → -10000 ≤ H i ∧ H i ≤ 10000 ∧ -10000000 ≤ S i ∧ S i ≤ 10000000) ∧ (∀ i ∈ occ, GoodS n (H i) (S i) ∧ GoodS n (H i + d) (S i + d * (l.natAbs : Nat))) ∧
    (∀ (i : Nat) (c : List Int), F[i]? = some c → addAt H occ d i = hB p' c) ∧ (∀ (i : Nat) (c : List Int), F[i]? = some c → addAt S occ (d * (l.natAbs : Nat)) i = sB p' c) := by
  refine ⟨fun i hi => ?_, fun i hi => ?_, fun i hi => ?_, fun i c hc => ?_, fun i c hc => ?_⟩
  · obtain ⟨c, hc, _⟩ := (hoc i).1 hi
    exact (someF hc).1
  · obtain ⟨c, hc, hm⟩ := getF hi
    rw [hH i c hc, hS i c hc]
    obtain ⟨q1, _, q3⟩ := hF c hm
    have e1 := hB_le p c
    have e2 := sB_le (p := p) q1
    have e3 : (c.length : Int) * (n : Int) ≤ 1000 * 1000 := Int.mul_le_mul (by omega) (by omega) (by omega) (by omega)
    omega
  · obtain ⟨c, hc, hx⟩ := (hoc i).1 hi
    have hm := (someF hc).2
    have e1 := h1 c hm
    have e2 := h2 c hm
    rw [if_pos hx] at e1 e2
    rw [hH i c hc, hS i c hc, ← e1, ← e2]
    exact ⟨hB_good (hF c hm).1, hB_good (hF c hm).1⟩
  · have hm := (someF hc).2
    rw [h1 c hm, ← hH i c hc]
    unfold addAt
    by_cases q : l ∈ c
    · rw [if_pos ((hoc i).2 ⟨c, hc, q⟩), if_pos q]
    · rw [if_neg (fun r => by obtain ⟨c', hc', q'⟩ := (hoc i).1 r; rw [hc] at hc'; exact q (Option.some.inj hc' ▸ q')), if_neg q]; omega
  · have hm := (someF hc).2
    rw [h2 c hm, ← hS i c hc]
    unfold addAt
    by_cases q : l ∈ c
    · rw [if_pos ((hoc i).2 ⟨c, hc, q⟩), if_pos q]
    · rw [if_neg (fun r => by obtain ⟨c', hc', q'⟩ := (hoc i).1 r; rw [hc] at hc'; exact q (Option.some.inj hc' ▸ q')), if_neg q]; omega
/-- Where a literal stands. -/
def ocF (F : List (List Int)) (l : Int) : List Nat := (List.range F.length).filter fun i => decide (l ∈ F.getD i [])
theorem ocF_eq {F : List (List Int)} {l : Int} {oc : List Nat} (hs : oc.Pairwise (· < ·)) (hm : ∀ i, i ∈ oc ↔ ∃ c, F[i]? = some c ∧ l ∈ c) : oc = ocF F l := by
  refine srt_ext hs (List.pairwise_lt_range.filter _) fun i => ?_
  unfold ocF
  rw [hm, List.mem_filter, List.mem_range, decide_eq_true_iff]
  constructor
  · rintro ⟨c, hc, hl⟩
    exact ⟨(someF hc).1, by rw [List.getD_eq_getElem?_getD, hc]; exact hl⟩
  · rintro ⟨h1, h2⟩
    exact ⟨F[i], List.getElem?_eq_getElem h1, by rw [List.getD_eq_getElem?_getD, List.getElem?_eq_getElem h1] at h2; exact h2⟩
/-- The row, as a variable is turned. -/
def rowF (F : List (List Int)) (a : List Bool) (v : Nat) (row : List Nat) : List Nat := rowN (fun i => hB (midT a (cmg a v)) (F.getD i [])) (-1) (ocF F (-cmg a v)) (rowN (fun i => hB (litT a) (F.getD i [])) 1 (ocF F (cmg a v)) row)
theorem rowN_F {F : List (List Int)} {H : Nat → Int} {p : Int → Bool} {d l : Int} {oc : List Nat} {row : List Nat} (hs : oc.Pairwise (· < ·)) (hm : ∀ i, i ∈ oc ↔ ∃ c, F[i]? = some c ∧ l ∈ c) (hH : ∀ (i : Nat) (c : List Int), F[i]? = some c → H i = hB p c) : rowN H d oc row = rowN (fun i => hB p (F.getD i [])) d (ocF F l) row := by
  rw [rowN_congr (H' := fun i => hB p (F.getD i [])) fun i hi => ?_, ocF_eq hs hm]
  obtain ⟨c, hc, _⟩ := (hm i).1 hi
  rw [hH i c hc, List.getD_eq_getElem?_getD, hc]; rfl
def bst (a z : List Bool) (F : List (List Int)) (few : Int) : List Bool := if (unT a F : Int) < few then a else z
def fewT (a : List Bool) (F : List (List Int)) (few : Int) : Int := if (unT a F : Int) < few then unT a F else few
set_option maxHeartbeats 8000000 in
theorem local_State_Flip.spec {v : Int} (s : LS N h M R o sb n F.length m) (r : Rt n m F a z few fl) (hF : GF n F) (hfl : 0 ≤ fl ∧ fl ≤ 1000000) (hk0 : ¬ inR n v → Q (.bool false) h)
    (hk : inR n v → ∀ h' R' m', LS N h' M R' o sb n F.length m' → Rt n m' F (flp a v.toNat) (bst (flp a v.toNat) z F few) (fewT (flp a v.toNat) F few) (fl + 1) → (∀ q, q < o ∨ o + 8 + 2 * n + F.length ≤ q → R' q = R q) → FrN N h h' → m'.row = rowF F a v.toNat m.row → Q (.bool true) h') : CallH Try.prog local_State_Flip.id #[ptr sb, Iv v] Q h := by
  refine local_State_Flip.ok ?_
  simp only [local_State_Flip.pt]
  have b0 := s.b0
  have nb := s.nb
  have hM := s.hM
  have hN := s.nN
  have al : a.length = n := by rw [← r.ea]; exact s.al
  rw [go_eq]
  refine sright_q s ?_
  by_cases c : inR n v
  rotate_left
  · rw [decide_eq_false c]
    try simp (disch := first | assumption | omega | (apply At.mk; with_unfolding_all rfl)) only [↓go_eq, ↓ent_eq, Mv, NilC_at, Fld_at, add_mk, Nat.zero_add, Nat.add_zero, Add64, Sub64, Mul64, Quo64, Rem64, Neg64, Cvt64, CvtU8, CvtU16, CvtU32, CvtU64, AddU64, SubU64, MulU64, Shr64, Shr_u8, Shr_u16, Shr_u32, Shr_u64, And1, And31, And32, Eql64, Neq64, Bin_lss, Bin_leq, Bin_gtr, Bin_geq, Bin_bool_eql, Bin_bool_neq, Bin_ptr_nil_eql, Bin_ptr_nil_neq, Not_dec, Un_not, Pick_t, Pick_f, Pick_pos, Pick_neg, Gd_tt, Gd_tf, Gd_ft, Gd_ff, Gd_pos_t, Gd_neg_t, Gd_pos_f, Gd_neg_f, Gd_undef, If_t, If_f, If_pos, If_neg, CallF_eq, Max_two, Min_two, Len_rd, Len_own, Ld_blkE, Idx_rdN, Idx_ownN, Idx_rdE, Idx_ownE, IdxAE, LdA_two, Idx_at0, Ext_atE, Len_at, Int.toNat_natCast, Int.toNat_zero, Int.toNat_one, List.length_map, List.length_append, List.length_cons, List.length_nil, List.length_take, List.length_set, List.length_replicate, Bool.not_true, Bool.not_false, decide_true, decide_false, BEq.rfl, bne_self_eq_false, tf_beq, ft_beq, tf_bne, ft_bne, not_true_eq_false, not_false_eq_true, app]
    exact hk0 c
  have hk := hk c
  obtain ⟨c1, c2⟩ := c
  rw [decide_eq_true (show inR n v from ⟨c1, c2⟩)]
  obtain ⟨w, rfl⟩ : ∃ w : Nat, v = w := ⟨v.toNat, by omega⟩
  simp only [Int.toNat_natCast] at hk
  have o1 := s.o1
  rw [r.ea] at o1
  have o1r := o1.rd
  have hcm := cmg_ok (a := a) (n := n) (v := w) (by omega) (by omega)
  have ew : ((w : Int) - 1).toNat = w - 1 := by omega
  have a1 := bool_atD (a := a) (i := ((w : Int) - 1).toNat) (by omega)
  rw [ew] at a1
  have a1' : At (a.map Value.bool) ((w : Int) - 1).toNat (.bool (a.getD (w - 1) false)) := by rw [ew]; exact a1
  try simp (disch := first | assumption | omega | (apply At.mk; with_unfolding_all rfl)) only [↓go_eq, ↓ent_eq, Mv, NilC_at, Fld_at, add_mk, Nat.zero_add, Nat.add_zero, Add64, Sub64, Mul64, Quo64, Rem64, Neg64, Cvt64, CvtU8, CvtU16, CvtU32, CvtU64, AddU64, SubU64, MulU64, Shr64, Shr_u8, Shr_u16, Shr_u32, Shr_u64, And1, And31, And32, Eql64, Neq64, Bin_lss, Bin_leq, Bin_gtr, Bin_geq, Bin_bool_eql, Bin_bool_neq, Bin_ptr_nil_eql, Bin_ptr_nil_neq, Not_dec, Un_not, Pick_t, Pick_f, Pick_pos, Pick_neg, Gd_tt, Gd_tf, Gd_ft, Gd_ff, Gd_pos_t, Gd_neg_t, Gd_pos_f, Gd_neg_f, Gd_undef, If_t, If_f, If_pos, If_neg, CallF_eq, Max_two, Min_two, Len_rd, Len_own, Ld_blkE, Idx_rdN, Idx_ownN, Idx_rdE, Idx_ownE, IdxAE, LdA_two, Idx_at0, Ext_atE, Len_at, Int.toNat_natCast, Int.toNat_zero, Int.toNat_one, List.length_map, List.length_append, List.length_cons, List.length_nil, List.length_take, List.length_set, List.length_replicate, Bool.not_true, Bool.not_false, decide_true, decide_false, BEq.rfl, bne_self_eq_false, tf_beq, ft_beq, tf_bne, ft_bne, not_true_eq_false, not_false_eq_true, app]
  refine Jn_fn (σ := Unit) (fun _ => [ptr sb, Iv (w : Nat), Iv (cmg a w)]) (fun _ h' => h = h') ?_ ?_
  · intro J hJ
    unfold cmg at hJ
    cases e : a.getD (w - 1) false with
    | true =>
      rw [e, if_pos rfl] at hJ
      try simp (disch := first | assumption | omega | (apply At.mk; with_unfolding_all rfl)) only [↓go_eq, ↓ent_eq, Mv, NilC_at, Fld_at, add_mk, Nat.zero_add, Nat.add_zero, Add64, Sub64, Mul64, Quo64, Rem64, Neg64, Cvt64, CvtU8, CvtU16, CvtU32, CvtU64, AddU64, SubU64, MulU64, Shr64, Shr_u8, Shr_u16, Shr_u32, Shr_u64, And1, And31, And32, Eql64, Neq64, Bin_lss, Bin_leq, Bin_gtr, Bin_geq, Bin_bool_eql, Bin_bool_neq, Bin_ptr_nil_eql, Bin_ptr_nil_neq, Not_dec, Un_not, Pick_t, Pick_f, Pick_pos, Pick_neg, Gd_tt, Gd_tf, Gd_ft, Gd_ff, Gd_pos_t, Gd_neg_t, Gd_pos_f, Gd_neg_f, Gd_undef, If_t, If_f, If_pos, If_neg, CallF_eq, Max_two, Min_two, Len_rd, Len_own, Ld_blkE, Idx_rdN, Idx_ownN, Idx_rdE, Idx_ownE, IdxAE, LdA_two, Idx_at0, Ext_atE, Len_at, Int.toNat_natCast, Int.toNat_zero, Int.toNat_one, List.length_map, List.length_append, List.length_cons, List.length_nil, List.length_take, List.length_set, List.length_replicate, Bool.not_true, Bool.not_false, decide_true, decide_false, BEq.rfl, bne_self_eq_false, tf_beq, ft_beq, tf_bne, ft_bne, not_true_eq_false, not_false_eq_true, app]
      exact hJ () h rfl
    | false =>
      rw [e, if_neg (by simp)] at hJ
      try simp (disch := first | assumption | omega | (apply At.mk; with_unfolding_all rfl)) only [↓go_eq, ↓ent_eq, Mv, NilC_at, Fld_at, add_mk, Nat.zero_add, Nat.add_zero, Add64, Sub64, Mul64, Quo64, Rem64, Neg64, Cvt64, CvtU8, CvtU16, CvtU32, CvtU64, AddU64, SubU64, MulU64, Shr64, Shr_u8, Shr_u16, Shr_u32, Shr_u64, And1, And31, And32, Eql64, Neq64, Bin_lss, Bin_leq, Bin_gtr, Bin_geq, Bin_bool_eql, Bin_bool_neq, Bin_ptr_nil_eql, Bin_ptr_nil_neq, Not_dec, Un_not, Pick_t, Pick_f, Pick_pos, Pick_neg, Gd_tt, Gd_tf, Gd_ft, Gd_ff, Gd_pos_t, Gd_neg_t, Gd_pos_f, Gd_neg_f, Gd_undef, If_t, If_f, If_pos, If_neg, CallF_eq, Max_two, Min_two, Len_rd, Len_own, Ld_blkE, Idx_rdN, Idx_ownN, Idx_rdE, Idx_ownE, IdxAE, LdA_two, Idx_at0, Ext_atE, Len_at, Int.toNat_natCast, Int.toNat_zero, Int.toNat_one, List.length_map, List.length_append, List.length_cons, List.length_nil, List.length_take, List.length_set, List.length_replicate, Bool.not_true, Bool.not_false, decide_true, decide_false, BEq.rfl, bne_self_eq_false, tf_beq, ft_beq, tf_bne, ft_bne, not_true_eq_false, not_false_eq_true, app]
      exact hJ () h rfl
  · rintro - h0 rfl
    try simp (disch := first | assumption | omega | (apply At.mk; with_unfolding_all rfl)) only [↓go_eq, ↓ent_eq, Mv, NilC_at, Fld_at, add_mk, Nat.zero_add, Nat.add_zero, Add64, Sub64, Mul64, Quo64, Rem64, Neg64, Cvt64, CvtU8, CvtU16, CvtU32, CvtU64, AddU64, SubU64, MulU64, Shr64, Shr_u8, Shr_u16, Shr_u32, Shr_u64, And1, And31, And32, Eql64, Neq64, Bin_lss, Bin_leq, Bin_gtr, Bin_geq, Bin_bool_eql, Bin_bool_neq, Bin_ptr_nil_eql, Bin_ptr_nil_neq, Not_dec, Un_not, Pick_t, Pick_f, Pick_pos, Pick_neg, Gd_tt, Gd_tf, Gd_ft, Gd_ff, Gd_pos_t, Gd_neg_t, Gd_pos_f, Gd_neg_f, Gd_undef, If_t, If_f, If_pos, If_neg, CallF_eq, Max_two, Min_two, Len_rd, Len_own, Ld_blkE, Idx_rdN, Idx_ownN, Idx_rdE, Idx_ownE, IdxAE, LdA_two, Idx_at0, Ext_atE, Len_at, Int.toNat_natCast, Int.toNat_zero, Int.toNat_one, List.length_map, List.length_append, List.length_cons, List.length_nil, List.length_take, List.length_set, List.length_replicate, Bool.not_true, Bool.not_false, decide_true, decide_false, BEq.rfl, bne_self_eq_false, tf_beq, ft_beq, tf_bne, ft_bne, not_true_eq_false, not_false_eq_true, app]
    refine o1.put (by omega) (by rw [List.length_map]; omega) rfl fun h1 w1 f1 _ => ?_
    rw [ew, bool_set] at w1
    change Own h1 m.av ((flp a w).map .bool) m.ab at w1
    obtain ⟨sp1, lr1⟩ := s.lr.put1 (a' := flp a w) s.sep hM hN w1 (by rw [r.ea]; exact f1)
    have fN1 := Fr.toN f1 (s.sep.los (by omega) s.lr.r1)
    have s1 : LS N h1 M _ o sb n F.length { m with a := flp a w } := ⟨sp1, lr1, s.st, hM, by have := f1.size; omega, by show (flp a w).length = n; rw [flp_len]; exact al, nb, s.Kb⟩
    have lt1 : w - 1 < a.length := by omega
    have lw1 : 1 ≤ w := by omega
    have hL : ∀ i, i < m.k → ClOk n (m.L i) ∧ (m.L i).length ≤ 1000 := fun i hi => by
      rw [r.ek] at hi
      obtain ⟨c, hc, hm⟩ := getF hi
      rw [r.L i c hc]
      exact ⟨(hF c hm).1, (hF c hm).2.2⟩
    have occ1 : ∀ x, LitOk n x → (m.occ (ix x).toNat).Nodup ∧ (m.occ (ix x).toNat).length ≤ 1000000 ∧ ∀ i, i ∈ m.occ (ix x).toNat ↔ ∃ c, F[i]? = some c ∧ x ∈ c := fun x hx => by
      have hr := ix_range hx
      have hj : (ix x).toNat < 2 * n := by omega
      have ho : ∀ i, i ∈ m.occ (ix x).toNat ↔ ∃ c, F[i]? = some c ∧ x ∈ c := fun i => by rw [r.oc _ hj, lat_ix hx]
      refine ⟨(r.on _ hj).imp Nat.ne_of_lt, ?_, ho⟩
      have := nd_le (s := List.range F.length) ((r.on _ hj).imp Nat.ne_of_lt) fun i hi => by
        obtain ⟨c, hc, _⟩ := (ho i).1 hi
        exact List.mem_range.2 (someF hc).1
      rw [List.length_range] at this
      have := s.Kb
      omega
    obtain ⟨ho1, ho2, ho3⟩ := occ1 _ hcm.1
    obtain ⟨hq1, hq2, hq3⟩ := occ1 _ hcm.2.1
    obtain ⟨t1, t2, t3, t4, t5⟩ := turn_ok (p := litT a) (p' := midT a (cmg a w)) (d := 1) hF hcm.1 nb ho3 r.H r.S (fun c hc => wsm_flp1 (hF c hc).2.1 lw1 lt1) (fun c hc => by rw [Int.one_mul]; exact wsm_flp1 (hF c hc).2.1 lw1 lt1)
    obtain ⟨u1, u2, u3, u4, u5⟩ := turn_ok (p := midT a (cmg a w)) (p' := litT (flp a w)) (d := -1) hF hcm.2.1 nb hq3 t4 t5 (fun c hc => wsm_flp2 (hF c hc).1 (hF c hc).2.1 lw1 lt1) (fun c hc => by rw [show (-1 : Int) * ((-cmg a w).natAbs : Nat) = -((-cmg a w).natAbs : Nat) by omega]; exact wsm_flp2 (hF c hc).1 (hF c hc).2.1 lw1 lt1)
    refine local_State_turn.spec (l := cmg a w) (d := 1) hcm.1 (.inl rfl) s1 r.cnt ho1 (by rw [r.ek]; exact t1) ho2 (fun i hi => (hL i hi).1) (fun i hi => (hL i hi).2) (by rw [r.ek]; exact t2) t3 fun h2 R2 c02 P2 row2 rv2 rb2 br2 ma2 s2 n2 hR2 f2 er2 => ?_
    have hl1 := hcm.1
    obtain ⟨_, hl2, hl3⟩ := hl1
    try simp (disch := first | assumption | omega | (apply At.mk; with_unfolding_all rfl)) only [↓go_eq, ↓ent_eq, Mv, NilC_at, Fld_at, add_mk, Nat.zero_add, Nat.add_zero, Add64, Sub64, Mul64, Quo64, Rem64, Neg64, Cvt64, CvtU8, CvtU16, CvtU32, CvtU64, AddU64, SubU64, MulU64, Shr64, Shr_u8, Shr_u16, Shr_u32, Shr_u64, And1, And31, And32, Eql64, Neq64, Bin_lss, Bin_leq, Bin_gtr, Bin_geq, Bin_bool_eql, Bin_bool_neq, Bin_ptr_nil_eql, Bin_ptr_nil_neq, Not_dec, Un_not, Pick_t, Pick_f, Pick_pos, Pick_neg, Gd_tt, Gd_tf, Gd_ft, Gd_ff, Gd_pos_t, Gd_neg_t, Gd_pos_f, Gd_neg_f, Gd_undef, If_t, If_f, If_pos, If_neg, CallF_eq, Max_two, Min_two, Len_rd, Len_own, Ld_blkE, Idx_rdN, Idx_ownN, Idx_rdE, Idx_ownE, IdxAE, LdA_two, Idx_at0, Ext_atE, Len_at, Int.toNat_natCast, Int.toNat_zero, Int.toNat_one, List.length_map, List.length_append, List.length_cons, List.length_nil, List.length_take, List.length_set, List.length_replicate, Bool.not_true, Bool.not_false, decide_true, decide_false, BEq.rfl, bne_self_eq_false, tf_beq, ft_beq, tf_bne, ft_bne, not_true_eq_false, not_false_eq_true, app]
    refine local_State_turn.spec (l := -cmg a w) (d := -1) hcm.2.1 (.inr rfl) s2 n2 hq1 (by rw [r.ek]; exact u1) hq2 (fun i hi => (hL i hi).1) (fun i hi => (hL i hi).2) (by rw [r.ek]; exact u2) u3 fun h3 R3 c03 P3 row3 rv3 rb3 br3 ma3 s3 n3 hR3 f3 er3 => ?_
    have er : row3 = rowF F a w m.row := by
      have j1 := ix_range hcm.1
      have j2 := ix_range hcm.2.1
      unfold rowF
      rw [← rowN_F (r.on _ (by omega)) ho3 r.H, ← rowN_F (r.on _ (by omega)) hq3 t4, ← er2]
      exact er3
    have b03 := s3.b0
    simp only [r.ew, r.ef] at b03
    try simp (disch := first | assumption | omega | (apply At.mk; with_unfolding_all rfl)) only [↓go_eq, ↓ent_eq, Mv, NilC_at, Fld_at, add_mk, Nat.zero_add, Nat.add_zero, Add64, Sub64, Mul64, Quo64, Rem64, Neg64, Cvt64, CvtU8, CvtU16, CvtU32, CvtU64, AddU64, SubU64, MulU64, Shr64, Shr_u8, Shr_u16, Shr_u32, Shr_u64, And1, And31, And32, Eql64, Neq64, Bin_lss, Bin_leq, Bin_gtr, Bin_geq, Bin_bool_eql, Bin_bool_neq, Bin_ptr_nil_eql, Bin_ptr_nil_neq, Not_dec, Un_not, Pick_t, Pick_f, Pick_pos, Pick_neg, Gd_tt, Gd_tf, Gd_ft, Gd_ff, Gd_pos_t, Gd_neg_t, Gd_pos_f, Gd_neg_f, Gd_undef, If_t, If_f, If_pos, If_neg, CallF_eq, Max_two, Min_two, Len_rd, Len_own, Ld_blkE, Idx_rdN, Idx_ownN, Idx_rdE, Idx_ownE, IdxAE, LdA_two, Idx_at0, Ext_atE, Len_at, Int.toNat_natCast, Int.toNat_zero, Int.toNat_one, List.length_map, List.length_append, List.length_cons, List.length_nil, List.length_take, List.length_set, List.length_replicate, Bool.not_true, Bool.not_false, decide_true, decide_false, BEq.rfl, bne_self_eq_false, tf_beq, ft_beq, tf_bne, ft_bne, not_true_eq_false, not_false_eq_true, app]
    refine St_blk b03 (by simp) rfl fun h4 b4 f4 => ?_
    have f04 : FrN N h h4 := ((fN1.trans f2).trans f3).trans (Fr.toN f4 fun b hb => by have := s3.sep.los (by omega) s3.lr.r0 b; simp at hb; subst hb; exact this (by simp [rBlk]))
    obtain ⟨sp4, lr4⟩ := s3.lr.put0 (cs := [m.av, m.lv, m.ov, rv3, m.bv, m.mv, m.zv, Iv few, Iv (fl + 1)]) s3.sep hM s3.nN b4 f4
    have s4 : LS N h4 M _ o sb n F.length (m.up [m.av, m.lv, m.ov, rv3, m.bv, m.mv, m.zv, Iv few, Iv (fl + 1)] (flp a w) (addAt (addAt m.H (m.occ (ix (cmg a w)).toNat) 1) (m.occ (ix (-cmg a w)).toNat) (-1)) (addAt (addAt m.S (m.occ (ix (cmg a w)).toNat) (1 * ((cmg a w).natAbs : Nat))) (m.occ (ix (-cmg a w)).toNat) (-1 * ((-cmg a w).natAbs : Nat))) P3 row3 rv3 rb3 br3 ma3 (fl + 1)) := ⟨sp4, lr4.ff m.few (fl + 1), ⟨by rw [r.ew], s.st.2⟩, hM, by have := f4.size; have := s3.nN; omega, s1.al, nb, s.Kb⟩
    have r4 : Rt n (m.up [m.av, m.lv, m.ov, rv3, m.bv, m.mv, m.zv, Iv few, Iv (fl + 1)] (flp a w) (addAt (addAt m.H (m.occ (ix (cmg a w)).toNat) 1) (m.occ (ix (-cmg a w)).toNat) (-1)) (addAt (addAt m.S (m.occ (ix (cmg a w)).toNat) (1 * ((cmg a w).natAbs : Nat))) (m.occ (ix (-cmg a w)).toNat) (-1 * ((-cmg a w).natAbs : Nat))) P3 row3 rv3 rb3 br3 ma3 (fl + 1)) F (flp a w) z few (fl + 1) := ⟨r.ek, rfl, r.ez, r.zl, r.ew, rfl, r.L, u4, u5, r.on, r.oc, n3⟩
    have hun := r4.un
    simp only at hun
    have o14 := s4.o1.rd
    have o44 := s4.o4
    simp only at o14 o44
    have ln4 : ∀ (K : Ret) (h' : Heap), Len rv3 K h' = K (Iv (unT (flp a w) F : Nat)) h' := fun K h' => by rw [Rd.len_any o44.rd, ints_len, hun]
    have b04 := s4.b0
    simp only [r.ew] at b04
    have al4 : (flp a w).length ≤ 1000000 := by rw [flp_len]; omega
    have hR4 : ∀ q, q < o ∨ o + 8 + 2 * n + F.length ≤ q → updR R3 o (rBlk sb [m.av, m.lv, m.ov, rv3, m.bv, m.mv, m.zv, Iv few, Iv (fl + 1)]) q = R q := fun q hq => (updR_ne (by omega)).trans ((hR3 q hq).trans ((hR2 q hq).trans (updR_ne (by omega))))
    refine Jn_fn (σ := LMod × (Nat → Res)) (fun _ => []) (fun x h' => LS N h' M x.2 o sb n F.length x.1 ∧ Rt n x.1 F (flp a w) (bst (flp a w) z F few) (fewT (flp a w) F few) (fl + 1) ∧ (∀ q, q < o ∨ o + 8 + 2 * n + F.length ≤ q → x.2 q = R q) ∧ FrN N h h' ∧ x.1.row = rowF F a w m.row) ?_ ?_
    · intro J hJ
      try simp (disch := first | assumption | omega | (apply At.mk; with_unfolding_all rfl)) only [↓go_eq, ↓ent_eq, Mv, NilC_at, Fld_at, add_mk, Nat.zero_add, Nat.add_zero, Add64, Sub64, Mul64, Quo64, Rem64, Neg64, Cvt64, CvtU8, CvtU16, CvtU32, CvtU64, AddU64, SubU64, MulU64, Shr64, Shr_u8, Shr_u16, Shr_u32, Shr_u64, And1, And31, And32, Eql64, Neq64, Bin_lss, Bin_leq, Bin_gtr, Bin_geq, Bin_bool_eql, Bin_bool_neq, Bin_ptr_nil_eql, Bin_ptr_nil_neq, Not_dec, Un_not, Pick_t, Pick_f, Pick_pos, Pick_neg, Gd_tt, Gd_tf, Gd_ft, Gd_ff, Gd_pos_t, Gd_neg_t, Gd_pos_f, Gd_neg_f, Gd_undef, If_t, If_f, If_pos, If_neg, CallF_eq, Max_two, Min_two, Len_rd, Len_own, Ld_blkE, Idx_rdN, Idx_ownN, Idx_rdE, Idx_ownE, IdxAE, LdA_two, Idx_at0, Ext_atE, Len_at, Int.toNat_natCast, Int.toNat_zero, Int.toNat_one, List.length_map, List.length_append, List.length_cons, List.length_nil, List.length_take, List.length_set, List.length_replicate, Bool.not_true, Bool.not_false, decide_true, decide_false, BEq.rfl, bne_self_eq_false, tf_beq, ft_beq, tf_bne, ft_bne, not_true_eq_false, not_false_eq_true, app]
      simp only [ints_len, hun, ln4]
      by_cases c5 : (unT (flp a w) F : Int) < few
      · have fin : ∀ v bs h5, Own h5 v ((flp a w).map .bool) bs → (∀ b ∈ bs, h4.size ≤ b) → Fr [] h4 h5 → St (.pointer (some ⟨sb, 6, none⟩)) v (fun _ h => St (.pointer (some ⟨sb, 7, none⟩)) (Iv (unT (flp a w) F : Nat)) (fun _ h => J h) h) h5 := by
          intro v bs h5 o5 hb5 f5
          obtain ⟨sp5, lr5⟩ := s4.lr.put7 (zv' := v) (z' := flp a w) (zb' := bs) s4.sep hM s4.nN o5 (f5.mono (by simp)) (fun b hb => .inr (hb5 b hb))
          have b5 := lr5.b0 sp5 hM
          refine St_blk b5 (by simp) o5.rd.isCell fun h6 b6 f6 => ?_
          refine St_blk b6 (by simp) rfl fun h7 b7 f7 => ?_
          have f57 := f6.trans f7
          have z5 := f5.size
          have z57 := f57.size
          have hN4 := s4.nN
          obtain ⟨sp7, lr7⟩ := lr5.put0 (cs := [m.av, m.lv, m.ov, rv3, m.bv, m.mv, v, Iv (unT (flp a w) F : Nat), Iv (fl + 1)]) sp5 hM (by omega) b7 f57
          have e1 : bst (flp a w) z F few = flp a w := if_pos c5
          have e2 : fewT (flp a w) F few = unT (flp a w) F := if_pos c5
          rw [e1, e2] at hJ
          refine hJ (_, _) h7 ⟨⟨sp7, lr7.ff (unT (flp a w) F : Nat) (fl + 1), ⟨rfl, s4.st.2⟩, hM, by omega, s4.al, nb, s.Kb⟩, ⟨r4.ek, r4.ea, rfl, by rw [flp_len]; exact al, rfl, rfl, r4.L, r4.H, r4.S, r4.on, r4.oc, r4.cnt⟩, fun q hq => (updR_ne (by omega)).trans ((updR_ne (by omega)).trans (hR4 q hq)), (f04.trans (Fr.toN f5 (by simp))).trans (Fr.toN f57 fun b hb => by have := sp5.los (by omega) lr5.r0 b; simp at hb; subst hb; exact this (by simp [rBlk])), er⟩
        try simp (disch := first | assumption | omega | (apply At.mk; with_unfolding_all rfl)) only [↓go_eq, ↓ent_eq, Mv, NilC_at, Fld_at, add_mk, Nat.zero_add, Nat.add_zero, Add64, Sub64, Mul64, Quo64, Rem64, Neg64, Cvt64, CvtU8, CvtU16, CvtU32, CvtU64, AddU64, SubU64, MulU64, Shr64, Shr_u8, Shr_u16, Shr_u32, Shr_u64, And1, And31, And32, Eql64, Neq64, Bin_lss, Bin_leq, Bin_gtr, Bin_geq, Bin_bool_eql, Bin_bool_neq, Bin_ptr_nil_eql, Bin_ptr_nil_neq, Not_dec, Un_not, Pick_t, Pick_f, Pick_pos, Pick_neg, Gd_tt, Gd_tf, Gd_ft, Gd_ff, Gd_pos_t, Gd_neg_t, Gd_pos_f, Gd_neg_f, Gd_undef, If_t, If_f, If_pos, If_neg, CallF_eq, Max_two, Min_two, Len_rd, Len_own, Ld_blkE, Idx_rdN, Idx_ownN, Idx_rdE, Idx_ownE, IdxAE, LdA_two, Idx_at0, Ext_atE, Len_at, Int.toNat_natCast, Int.toNat_zero, Int.toNat_one, List.length_map, List.length_append, List.length_cons, List.length_nil, List.length_take, List.length_set, List.length_replicate, Bool.not_true, Bool.not_false, decide_true, decide_false, BEq.rfl, bne_self_eq_false, tf_beq, ft_beq, tf_bne, ft_bne, not_true_eq_false, not_false_eq_true, app]

        refine ⟨clone_a al4 o14 fun v bs h5 o5 hb5 f5 => ⟨fin v bs h5 o5 hb5 f5, fin v bs h5 o5 hb5 f5⟩, clone_a al4 o14 fun v bs h5 o5 hb5 f5 => fin v bs h5 o5 hb5 f5⟩
      · have e1 : bst (flp a w) z F few = z := if_neg c5
        have e2 : fewT (flp a w) F few = few := if_neg c5
        rw [e1, e2] at hJ
        try simp (disch := first | assumption | omega | (apply At.mk; with_unfolding_all rfl)) only [↓go_eq, ↓ent_eq, Mv, NilC_at, Fld_at, add_mk, Nat.zero_add, Nat.add_zero, Add64, Sub64, Mul64, Quo64, Rem64, Neg64, Cvt64, CvtU8, CvtU16, CvtU32, CvtU64, AddU64, SubU64, MulU64, Shr64, Shr_u8, Shr_u16, Shr_u32, Shr_u64, And1, And31, And32, Eql64, Neq64, Bin_lss, Bin_leq, Bin_gtr, Bin_geq, Bin_bool_eql, Bin_bool_neq, Bin_ptr_nil_eql, Bin_ptr_nil_neq, Not_dec, Un_not, Pick_t, Pick_f, Pick_pos, Pick_neg, Gd_tt, Gd_tf, Gd_ft, Gd_ff, Gd_pos_t, Gd_neg_t, Gd_pos_f, Gd_neg_f, Gd_undef, If_t, If_f, If_pos, If_neg, CallF_eq, Max_two, Min_two, Len_rd, Len_own, Ld_blkE, Idx_rdN, Idx_ownN, Idx_rdE, Idx_ownE, IdxAE, LdA_two, Idx_at0, Ext_atE, Len_at, Int.toNat_natCast, Int.toNat_zero, Int.toNat_one, List.length_map, List.length_append, List.length_cons, List.length_nil, List.length_take, List.length_set, List.length_replicate, Bool.not_true, Bool.not_false, decide_true, decide_false, BEq.rfl, bne_self_eq_false, tf_beq, ft_beq, tf_bne, ft_bne, not_true_eq_false, not_false_eq_true, app]
        exact hJ (_, _) h4 ⟨s4, r4, hR4, f04, er⟩
    · rintro ⟨m5, R5⟩ h5 ⟨s5, r5, hR5, f5, er5⟩
      try simp (disch := first | assumption | omega | (apply At.mk; with_unfolding_all rfl)) only [↓go_eq, ↓ent_eq, Mv, NilC_at, Fld_at, add_mk, Nat.zero_add, Nat.add_zero, Add64, Sub64, Mul64, Quo64, Rem64, Neg64, Cvt64, CvtU8, CvtU16, CvtU32, CvtU64, AddU64, SubU64, MulU64, Shr64, Shr_u8, Shr_u16, Shr_u32, Shr_u64, And1, And31, And32, Eql64, Neq64, Bin_lss, Bin_leq, Bin_gtr, Bin_geq, Bin_bool_eql, Bin_bool_neq, Bin_ptr_nil_eql, Bin_ptr_nil_neq, Not_dec, Un_not, Pick_t, Pick_f, Pick_pos, Pick_neg, Gd_tt, Gd_tf, Gd_ft, Gd_ff, Gd_pos_t, Gd_neg_t, Gd_pos_f, Gd_neg_f, Gd_undef, If_t, If_f, If_pos, If_neg, CallF_eq, Max_two, Min_two, Len_rd, Len_own, Ld_blkE, Idx_rdN, Idx_ownN, Idx_rdE, Idx_ownE, IdxAE, LdA_two, Idx_at0, Ext_atE, Len_at, Int.toNat_natCast, Int.toNat_zero, Int.toNat_one, List.length_map, List.length_append, List.length_cons, List.length_nil, List.length_take, List.length_set, List.length_replicate, Bool.not_true, Bool.not_false, decide_true, decide_false, BEq.rfl, bne_self_eq_false, tf_beq, ft_beq, tf_bne, ft_bne, not_true_eq_false, not_false_eq_true, app]
      exact hk h5 R5 m5 s5 r5 hR5 f5 er5
end
end Go.Proofs.Ytonngdjfnnibaaa
