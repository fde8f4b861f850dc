/- What the functions of the row compute. Conditions: those typed ahead of each theorem. -/
import Derived.Test.YtcmpdfjojeblmaaVm
namespace Go.Proofs.Ytcmpdfjojeblmaa
open Go.Pt
set_option linter.unusedVariables false
set_option linter.unusedSimpArgs false
abbrev ptr (b : Nat) : Value := .pointer (some ⟨b, 0, none⟩)
/-- A row in memory. -/
structure QAt (h : Heap) (g b n : Nat) (f : Nat → Int) (k : Int) : Prop where
  q : Blk h g [.slice (some ⟨b, 0, none⟩) (n + 1) (n + 1), Iv k]
  l : Blk h b (flat f n)
  ne : g ≠ b
theorem QAt.fr {h h' : Heap} {g b n : Nat} {f : Nat → Int} {k : Int} {S : List Nat} (q : QAt h g b n f k) (fr : Fr S h h') (hS : g ∉ S ∧ b ∉ S) : QAt h' g b n f k := ⟨q.q.fr fr hS.1, q.l.fr fr hS.2, q.ne⟩
theorem QAt.one {h h' : Heap} {g b n l : Nat} {f : Nat → Int} {k : Int} (q : QAt h g b n f k) (o : One l h h') : QAt h' g b n f k := ⟨q.q.one o, q.l.one o, q.ne⟩
theorem vmtf_Queue_right.spec {g b n : Nat} {f : Nat → Int} {k v : Int} (hn : n ≤ 1000) {K : Ret} {h : Heap} (q : QAt h g b n f k) (hk : K (.bool (decide (1 ≤ v ∧ v ≤ n))) h) : CallH Try.prog vmtf_Queue_right.id #[ptr g, Iv v] K h := by
  refine vmtf_Queue_right.ok ?_
  have bq := q.q
  simp only [vmtf_Queue_right.pt]
  by_cases c : v ≥ 1
  · try simp (disch := first | assumption | omega | exact flat_at (by omega) | (apply At.mk; with_unfolding_all rfl)) only [↓go_eq, ↓ent_eq, Mv, NilC_at, Fld_at, add_mk, Nat.zero_add, Nat.add_zero, Add64, Sub64, Mul64, Quo64, Rem64, Neg64, Cvt64, CvtU8, CvtU16, CvtU32, CvtU64, AddU64, SubU64, MulU64, Shr64, Shr_u8, Shr_u16, Shr_u32, Shr_u64, And1, And31, Eql64, Neq64, Bin_lss, Bin_leq, Bin_gtr, Bin_geq, Bin_bool_eql, Bin_bool_neq, Bin_ptr_nil_eql, Bin_ptr_nil_neq, Not_dec, Un_not, Pick_t, Pick_f, Pick_pos, Pick_neg, Gd_tt, Gd_tf, Gd_ft, Gd_ff, Gd_pos_t, Gd_neg_t, Gd_pos_f, Gd_neg_f, Gd_undef, If_t, If_f, If_pos, If_neg, CallF_eq, Max_two, Min_two, Len_rd, Len_own, Ld_blkE, Idx_rdN, Idx_ownN, Idx_rdE, Idx_ownE, IdxAE, Idx_at0, Ext_atE, Len_at, Int.toNat_natCast, Int.toNat_zero, Int.toNat_one, List.length_map, List.length_append, List.length_cons, List.length_nil, List.length_take, List.length_set, List.length_replicate, Bool.not_true, Bool.not_false, decide_true, decide_false, BEq.rfl, bne_self_eq_false, not_true_eq_false, not_false_eq_true, app]
    have e : decide (v < ((n + 1 : Nat) : Int)) = decide (1 ≤ v ∧ v ≤ n) := by rw [decide_eq_decide]; omega
    rw [e]; exact hk
  · try simp (disch := first | assumption | omega | exact flat_at (by omega) | (apply At.mk; with_unfolding_all rfl)) only [↓go_eq, ↓ent_eq, Mv, NilC_at, Fld_at, add_mk, Nat.zero_add, Nat.add_zero, Add64, Sub64, Mul64, Quo64, Rem64, Neg64, Cvt64, CvtU8, CvtU16, CvtU32, CvtU64, AddU64, SubU64, MulU64, Shr64, Shr_u8, Shr_u16, Shr_u32, Shr_u64, And1, And31, Eql64, Neq64, Bin_lss, Bin_leq, Bin_gtr, Bin_geq, Bin_bool_eql, Bin_bool_neq, Bin_ptr_nil_eql, Bin_ptr_nil_neq, Not_dec, Un_not, Pick_t, Pick_f, Pick_pos, Pick_neg, Gd_tt, Gd_tf, Gd_ft, Gd_ff, Gd_pos_t, Gd_neg_t, Gd_pos_f, Gd_neg_f, Gd_undef, If_t, If_f, If_pos, If_neg, CallF_eq, Max_two, Min_two, Len_rd, Len_own, Ld_blkE, Idx_rdN, Idx_ownN, Idx_rdE, Idx_ownE, IdxAE, Idx_at0, Ext_atE, Len_at, Int.toNat_natCast, Int.toNat_zero, Int.toNat_one, List.length_map, List.length_append, List.length_cons, List.length_nil, List.length_take, List.length_set, List.length_replicate, Bool.not_true, Bool.not_false, decide_true, decide_false, BEq.rfl, bne_self_eq_false, not_true_eq_false, not_false_eq_true, app]
    rw [decide_eq_false (by omega)] at hk; exact hk
theorem vmtf_Queue_join.spec {g b n : Nat} {f : Nat → Int} {k : Int} {x y : Nat} (hx : x ≤ n) (hy : y ≤ n) {K : Ret} {h : Heap} (q : QAt h g b n f k) (hk : ∀ h', QAt h' g b n (jn f x y) k → Fr [b] h h' → K (.tuple #[]) h') : CallH Try.prog vmtf_Queue_join.id #[ptr g, Iv x, Iv y] K h := by
  refine vmtf_Queue_join.ok ?_
  have bq := q.q
  have bl := q.l
  simp only [vmtf_Queue_join.pt]
  try simp (disch := first | assumption | omega | exact flat_at (by omega) | (apply At.mk; with_unfolding_all rfl)) only [↓go_eq, ↓ent_eq, Mv, NilC_at, Fld_at, add_mk, Nat.zero_add, Nat.add_zero, Add64, Sub64, Mul64, Quo64, Rem64, Neg64, Cvt64, CvtU8, CvtU16, CvtU32, CvtU64, AddU64, SubU64, MulU64, Shr64, Shr_u8, Shr_u16, Shr_u32, Shr_u64, And1, And31, Eql64, Neq64, Bin_lss, Bin_leq, Bin_gtr, Bin_geq, Bin_bool_eql, Bin_bool_neq, Bin_ptr_nil_eql, Bin_ptr_nil_neq, Not_dec, Un_not, Pick_t, Pick_f, Pick_pos, Pick_neg, Gd_tt, Gd_tf, Gd_ft, Gd_ff, Gd_pos_t, Gd_neg_t, Gd_pos_f, Gd_neg_f, Gd_undef, If_t, If_f, If_pos, If_neg, CallF_eq, Max_two, Min_two, Len_rd, Len_own, Ld_blkE, Idx_rdN, Idx_ownN, Idx_rdE, Idx_ownE, IdxAE, Idx_at0, Ext_atE, Len_at, Int.toNat_natCast, Int.toNat_zero, Int.toNat_one, List.length_map, List.length_append, List.length_cons, List.length_nil, List.length_take, List.length_set, List.length_replicate, Bool.not_true, Bool.not_false, decide_true, decide_false, BEq.rfl, bne_self_eq_false, not_true_eq_false, not_false_eq_true, app]
  refine St_blk bl (by rw [flat_len]; omega) rfl fun h1 b1 f1 => ?_
  rw [flat_set] at b1
  try simp (disch := first | assumption | omega | exact flat_at (by omega) | (apply At.mk; with_unfolding_all rfl)) only [↓go_eq, ↓ent_eq, Mv, NilC_at, Fld_at, add_mk, Nat.zero_add, Nat.add_zero, Add64, Sub64, Mul64, Quo64, Rem64, Neg64, Cvt64, CvtU8, CvtU16, CvtU32, CvtU64, AddU64, SubU64, MulU64, Shr64, Shr_u8, Shr_u16, Shr_u32, Shr_u64, And1, And31, Eql64, Neq64, Bin_lss, Bin_leq, Bin_gtr, Bin_geq, Bin_bool_eql, Bin_bool_neq, Bin_ptr_nil_eql, Bin_ptr_nil_neq, Not_dec, Un_not, Pick_t, Pick_f, Pick_pos, Pick_neg, Gd_tt, Gd_tf, Gd_ft, Gd_ff, Gd_pos_t, Gd_neg_t, Gd_pos_f, Gd_neg_f, Gd_undef, If_t, If_f, If_pos, If_neg, CallF_eq, Max_two, Min_two, Len_rd, Len_own, Ld_blkE, Idx_rdN, Idx_ownN, Idx_rdE, Idx_ownE, IdxAE, Idx_at0, Ext_atE, Len_at, Int.toNat_natCast, Int.toNat_zero, Int.toNat_one, List.length_map, List.length_append, List.length_cons, List.length_nil, List.length_take, List.length_set, List.length_replicate, Bool.not_true, Bool.not_false, decide_true, decide_false, BEq.rfl, bne_self_eq_false, not_true_eq_false, not_false_eq_true, app]
  refine St_blk b1 (by rw [flat_len]; omega) rfl fun h2 b2 f2 => ?_
  rw [flat_set] at b2
  have e : upd (upd f (x * 3 + 1) y) (y * 3) x = jn f x y := by rw [jn, Nat.mul_comm x, Nat.mul_comm y]
  rw [e] at b2
  exact hk _ ⟨(bq.fr f1 (by simpa using q.ne)).fr f2 (by simpa using q.ne), b2, q.ne⟩ (f1.trans f2)

/-- A row as the document has it: its order, when each was moved, how many moves there were. -/
structure Qm where
  row : List Nat
  st : Nat → Int
  k : Int
structure QS (h : Heap) (g b n : Nat) (m : Qm) : Prop where
  ex : ∃ f, QAt h g b n f m.k ∧ Path f (0 :: m.row ++ [0]) ∧ ∀ x, x ≤ n → f (3 * x + 2) = m.st x
  nd : m.row.Nodup
  len : m.row.length = n
  mem : ∀ x, x ∈ m.row ↔ 1 ≤ x ∧ x ≤ n
theorem QS.fr {h h' : Heap} {g b n : Nat} {m : Qm} {S : List Nat} (q : QS h g b n m) (fr : Fr S h h') (hS : g ∉ S ∧ b ∉ S) : QS h' g b n m := let ⟨f, q1, q2⟩ := q.ex; ⟨⟨f, q1.fr fr hS, q2⟩, q.nd, q.len, q.mem⟩
theorem QS.one {h h' : Heap} {g b n l : Nat} {m : Qm} (q : QS h g b n m) (o : One l h h') : QS h' g b n m := let ⟨f, q1, q2⟩ := q.ex; ⟨⟨f, q1.one o, q2⟩, q.nd, q.len, q.mem⟩
def Qm.bump (n : Nat) (m : Qm) (v : Int) : Qm := if 1 ≤ v ∧ v ≤ n then ⟨v.toNat :: m.row.filter (· != v.toNat), upd m.st v.toNat (m.k + 1), m.k + 1⟩ else m
theorem filter_mid {l1 l2 : List Nat} {v : Nat} (hn : (l1 ++ v :: l2).Nodup) : (l1 ++ v :: l2).filter (· != v) = l1 ++ l2 := by
  rw [List.nodup_append, List.nodup_cons] at hn
  obtain ⟨h1, ⟨h2, h3⟩, h4⟩ := hn
  rw [List.filter_append, List.filter_cons_of_neg (by simp)]
  rw [List.filter_eq_self.2 (fun a ha => by rw [bne_iff_ne]; exact h4 a ha v (by simp)), List.filter_eq_self.2 (fun a ha => by rw [bne_iff_ne]; exact fun e => h2 (e ▸ ha))]
theorem vmtf_Queue_Bump.spec {g b n : Nat} {m : Qm} {v : Int} (hn : n ≤ 1000) (hm : 0 ≤ m.k ∧ m.k ≤ 1000000) {K : Ret} {h : Heap} (q : QS h g b n m)
    (hk : ∀ h', QS h' g b n (m.bump n v) → Fr [g, b] h h' → K (.bool (decide (1 ≤ v ∧ v ≤ n))) h') : CallH Try.prog vmtf_Queue_Bump.id #[ptr g, Iv v] K h := by
  refine vmtf_Queue_Bump.ok ?_
  obtain ⟨f, q1, hp, hst⟩ := q.ex
  simp only [vmtf_Queue_Bump.pt]
  try simp (disch := first | assumption | omega | exact flat_at (by omega) | (apply At.mk; with_unfolding_all rfl)) only [↓go_eq, ↓ent_eq, Mv, NilC_at, Fld_at, add_mk, Nat.zero_add, Nat.add_zero, Add64, Sub64, Mul64, Quo64, Rem64, Neg64, Cvt64, CvtU8, CvtU16, CvtU32, CvtU64, AddU64, SubU64, MulU64, Shr64, Shr_u8, Shr_u16, Shr_u32, Shr_u64, And1, And31, Eql64, Neq64, Bin_lss, Bin_leq, Bin_gtr, Bin_geq, Bin_bool_eql, Bin_bool_neq, Bin_ptr_nil_eql, Bin_ptr_nil_neq, Not_dec, Un_not, Pick_t, Pick_f, Pick_pos, Pick_neg, Gd_tt, Gd_tf, Gd_ft, Gd_ff, Gd_pos_t, Gd_neg_t, Gd_pos_f, Gd_neg_f, Gd_undef, If_t, If_f, If_pos, If_neg, CallF_eq, Max_two, Min_two, Len_rd, Len_own, Ld_blkE, Idx_rdN, Idx_ownN, Idx_rdE, Idx_ownE, IdxAE, Idx_at0, Ext_atE, Len_at, Int.toNat_natCast, Int.toNat_zero, Int.toNat_one, List.length_map, List.length_append, List.length_cons, List.length_nil, List.length_take, List.length_set, List.length_replicate, Bool.not_true, Bool.not_false, decide_true, decide_false, BEq.rfl, bne_self_eq_false, not_true_eq_false, not_false_eq_true, app]
  refine vmtf_Queue_right.spec hn q1 ?_
  by_cases c : 1 ≤ v ∧ v ≤ n
  · obtain ⟨w, rfl⟩ : ∃ w : Nat, v = w := ⟨v.toNat, by omega⟩
    rw [Qm.bump, if_pos c] at hk
    rw [decide_eq_true c] at hk ⊢
    obtain ⟨c1, c2⟩ := c
    obtain ⟨l1, l2, hrow⟩ := List.append_of_mem ((q.mem w).2 ⟨by omega, by omega⟩)
    have hz : (0 :: m.row).Nodup := by rw [List.nodup_cons]; exact ⟨fun hm => by have := (q.mem 0).1 hm; omega, q.nd⟩
    have hle : ∀ x ∈ (0 :: m.row), x ≤ n := fun x hx => by
      rcases List.mem_cons.1 hx with rfl | hx
      · omega
      · exact ((q.mem x).1 hx).2
    rw [hrow] at hp hz hle
    obtain ⟨hnew, p, s, ep, es, hpm, hsm, bb, eb, hbm⟩ := mv_spec hz hp
    have hp1 : p ≤ n := hle p (by simp only [List.mem_cons, List.mem_append] at hpm ⊢; rcases hpm with q | q <;> simp [q])
    have hs1 : s ≤ n := hle s (by simp only [List.mem_cons, List.mem_append, List.mem_singleton, List.not_mem_nil, or_false] at hsm ⊢; rcases hsm with q | q <;> simp [q])
    have hb1 : bb ≤ n := hle bb (by simp only [List.mem_cons, List.mem_append, List.mem_singleton, List.not_mem_nil, or_false] at hbm ⊢; rcases hbm with (q | q) | q <;> simp [q])
    have bq := q1.q
    have bl := q1.l
    have hne := q1.ne
    try simp (disch := first | assumption | omega | exact flat_at (by omega) | (apply At.mk; with_unfolding_all rfl)) only [↓go_eq, ↓ent_eq, Mv, NilC_at, Fld_at, add_mk, Nat.zero_add, Nat.add_zero, Add64, Sub64, Mul64, Quo64, Rem64, Neg64, Cvt64, CvtU8, CvtU16, CvtU32, CvtU64, AddU64, SubU64, MulU64, Shr64, Shr_u8, Shr_u16, Shr_u32, Shr_u64, And1, And31, Eql64, Neq64, Bin_lss, Bin_leq, Bin_gtr, Bin_geq, Bin_bool_eql, Bin_bool_neq, Bin_ptr_nil_eql, Bin_ptr_nil_neq, Not_dec, Un_not, Pick_t, Pick_f, Pick_pos, Pick_neg, Gd_tt, Gd_tf, Gd_ft, Gd_ff, Gd_pos_t, Gd_neg_t, Gd_pos_f, Gd_neg_f, Gd_undef, If_t, If_f, If_pos, If_neg, CallF_eq, Max_two, Min_two, Len_rd, Len_own, Ld_blkE, Idx_rdN, Idx_ownN, Idx_rdE, Idx_ownE, IdxAE, Idx_at0, Ext_atE, Len_at, Int.toNat_natCast, Int.toNat_zero, Int.toNat_one, List.length_map, List.length_append, List.length_cons, List.length_nil, List.length_take, List.length_set, List.length_replicate, Bool.not_true, Bool.not_false, decide_true, decide_false, BEq.rfl, bne_self_eq_false, not_true_eq_false, not_false_eq_true, app]
    refine St_blk bq (by simp) rfl fun h1 b1 f1 => ?_
    have bl1 := bl.fr f1 (by simpa using fun e => hne e.symm)
    simp only [List.set_cons_succ, List.set_cons_zero] at b1
    try simp (disch := first | assumption | omega | exact flat_at (by omega) | (apply At.mk; with_unfolding_all rfl)) only [↓go_eq, ↓ent_eq, Mv, NilC_at, Fld_at, add_mk, Nat.zero_add, Nat.add_zero, Add64, Sub64, Mul64, Quo64, Rem64, Neg64, Cvt64, CvtU8, CvtU16, CvtU32, CvtU64, AddU64, SubU64, MulU64, Shr64, Shr_u8, Shr_u16, Shr_u32, Shr_u64, And1, And31, Eql64, Neq64, Bin_lss, Bin_leq, Bin_gtr, Bin_geq, Bin_bool_eql, Bin_bool_neq, Bin_ptr_nil_eql, Bin_ptr_nil_neq, Not_dec, Un_not, Pick_t, Pick_f, Pick_pos, Pick_neg, Gd_tt, Gd_tf, Gd_ft, Gd_ff, Gd_pos_t, Gd_neg_t, Gd_pos_f, Gd_neg_f, Gd_undef, If_t, If_f, If_pos, If_neg, CallF_eq, Max_two, Min_two, Len_rd, Len_own, Ld_blkE, Idx_rdN, Idx_ownN, Idx_rdE, Idx_ownE, IdxAE, Idx_at0, Ext_atE, Len_at, Int.toNat_natCast, Int.toNat_zero, Int.toNat_one, List.length_map, List.length_append, List.length_cons, List.length_nil, List.length_take, List.length_set, List.length_replicate, Bool.not_true, Bool.not_false, decide_true, decide_false, BEq.rfl, bne_self_eq_false, not_true_eq_false, not_false_eq_true, app]
    refine St_blk bl1 (by rw [flat_len]; omega) rfl fun h2 b2 f2 => ?_
    rw [flat_set] at b2
    have bq2 := b1.fr f2 (by simpa using hne)
    have e3 : upd f (w * 3 + 2) (m.k + 1) (w * 3) = p := by rw [upd_ne _ _ (by omega), Nat.mul_comm]; exact ep
    have e4 : upd f (w * 3 + 2) (m.k + 1) (w * 3 + 1) = s := by rw [upd_ne _ _ (by omega), Nat.mul_comm]; exact es
    try simp (disch := first | assumption | omega | exact flat_at (by omega) | (apply At.mk; with_unfolding_all rfl)) only [↓go_eq, ↓ent_eq, Mv, NilC_at, Fld_at, add_mk, Nat.zero_add, Nat.add_zero, Add64, Sub64, Mul64, Quo64, Rem64, Neg64, Cvt64, CvtU8, CvtU16, CvtU32, CvtU64, AddU64, SubU64, MulU64, Shr64, Shr_u8, Shr_u16, Shr_u32, Shr_u64, And1, And31, Eql64, Neq64, Bin_lss, Bin_leq, Bin_gtr, Bin_geq, Bin_bool_eql, Bin_bool_neq, Bin_ptr_nil_eql, Bin_ptr_nil_neq, Not_dec, Un_not, Pick_t, Pick_f, Pick_pos, Pick_neg, Gd_tt, Gd_tf, Gd_ft, Gd_ff, Gd_pos_t, Gd_neg_t, Gd_pos_f, Gd_neg_f, Gd_undef, If_t, If_f, If_pos, If_neg, CallF_eq, Max_two, Min_two, Len_rd, Len_own, Ld_blkE, Idx_rdN, Idx_ownN, Idx_rdE, Idx_ownE, IdxAE, Idx_at0, Ext_atE, Len_at, Int.toNat_natCast, Int.toNat_zero, Int.toNat_one, List.length_map, List.length_append, List.length_cons, List.length_nil, List.length_take, List.length_set, List.length_replicate, Bool.not_true, Bool.not_false, decide_true, decide_false, BEq.rfl, bne_self_eq_false, not_true_eq_false, not_false_eq_true, app]
    rw [e3, e4]
    refine vmtf_Queue_join.spec hp1 hs1 ⟨bq2, b2, hne⟩ fun h3 q3 f3 => ?_
    have bq3 := q3.q
    have bl3 := q3.l
    have ecomm : ∀ x y : Nat, jn (upd f (w * 3 + 2) (m.k + 1)) x y = upd (jn f x y) (w * 3 + 2) (m.k + 1) := fun x y => by
      funext j
      unfold jn upd
      by_cases a1 : j = 3 * y
      · have : j ≠ w * 3 + 2 := by omega
        simp [a1, show 3 * y ≠ w * 3 + 2 by omega]
      · by_cases a2 : j = 3 * x + 1
        · simp [a2, show 3 * x + 1 ≠ w * 3 + 2 by omega, show 3 * x ≠ w * 3 + 1 by omega]
        · simp [a1, a2]
    have e5 : jn (upd f (w * 3 + 2) (m.k + 1)) p s (0 + 1) = bb := by rw [ecomm, upd_ne _ _ (by omega)]; exact eb
    try simp (disch := first | assumption | omega | exact flat_at (by omega) | (apply At.mk; with_unfolding_all rfl)) only [↓go_eq, ↓ent_eq, Mv, NilC_at, Fld_at, add_mk, Nat.zero_add, Nat.add_zero, Add64, Sub64, Mul64, Quo64, Rem64, Neg64, Cvt64, CvtU8, CvtU16, CvtU32, CvtU64, AddU64, SubU64, MulU64, Shr64, Shr_u8, Shr_u16, Shr_u32, Shr_u64, And1, And31, Eql64, Neq64, Bin_lss, Bin_leq, Bin_gtr, Bin_geq, Bin_bool_eql, Bin_bool_neq, Bin_ptr_nil_eql, Bin_ptr_nil_neq, Not_dec, Un_not, Pick_t, Pick_f, Pick_pos, Pick_neg, Gd_tt, Gd_tf, Gd_ft, Gd_ff, Gd_pos_t, Gd_neg_t, Gd_pos_f, Gd_neg_f, Gd_undef, If_t, If_f, If_pos, If_neg, CallF_eq, Max_two, Min_two, Len_rd, Len_own, Ld_blkE, Idx_rdN, Idx_ownN, Idx_rdE, Idx_ownE, IdxAE, Idx_at0, Ext_atE, Len_at, Int.toNat_natCast, Int.toNat_zero, Int.toNat_one, List.length_map, List.length_append, List.length_cons, List.length_nil, List.length_take, List.length_set, List.length_replicate, Bool.not_true, Bool.not_false, decide_true, decide_false, BEq.rfl, bne_self_eq_false, not_true_eq_false, not_false_eq_true, app]
    simp only [Nat.zero_mul]
    try simp (disch := first | assumption | omega | exact flat_at (by omega) | (apply At.mk; with_unfolding_all rfl)) only [↓go_eq, ↓ent_eq, Mv, NilC_at, Fld_at, add_mk, Nat.zero_add, Nat.add_zero, Add64, Sub64, Mul64, Quo64, Rem64, Neg64, Cvt64, CvtU8, CvtU16, CvtU32, CvtU64, AddU64, SubU64, MulU64, Shr64, Shr_u8, Shr_u16, Shr_u32, Shr_u64, And1, And31, Eql64, Neq64, Bin_lss, Bin_leq, Bin_gtr, Bin_geq, Bin_bool_eql, Bin_bool_neq, Bin_ptr_nil_eql, Bin_ptr_nil_neq, Not_dec, Un_not, Pick_t, Pick_f, Pick_pos, Pick_neg, Gd_tt, Gd_tf, Gd_ft, Gd_ff, Gd_pos_t, Gd_neg_t, Gd_pos_f, Gd_neg_f, Gd_undef, If_t, If_f, If_pos, If_neg, CallF_eq, Max_two, Min_two, Len_rd, Len_own, Ld_blkE, Idx_rdN, Idx_ownN, Idx_rdE, Idx_ownE, IdxAE, Idx_at0, Ext_atE, Len_at, Int.toNat_natCast, Int.toNat_zero, Int.toNat_one, List.length_map, List.length_append, List.length_cons, List.length_nil, List.length_take, List.length_set, List.length_replicate, Bool.not_true, Bool.not_false, decide_true, decide_false, BEq.rfl, bne_self_eq_false, not_true_eq_false, not_false_eq_true, app]
    rw [e5]
    refine vmtf_Queue_join.spec (by omega) hb1 q3 fun h4 q4 f4 => ?_
    try simp (disch := first | assumption | omega | exact flat_at (by omega) | (apply At.mk; with_unfolding_all rfl)) only [↓go_eq, ↓ent_eq, Mv, NilC_at, Fld_at, add_mk, Nat.zero_add, Nat.add_zero, Add64, Sub64, Mul64, Quo64, Rem64, Neg64, Cvt64, CvtU8, CvtU16, CvtU32, CvtU64, AddU64, SubU64, MulU64, Shr64, Shr_u8, Shr_u16, Shr_u32, Shr_u64, And1, And31, Eql64, Neq64, Bin_lss, Bin_leq, Bin_gtr, Bin_geq, Bin_bool_eql, Bin_bool_neq, Bin_ptr_nil_eql, Bin_ptr_nil_neq, Not_dec, Un_not, Pick_t, Pick_f, Pick_pos, Pick_neg, Gd_tt, Gd_tf, Gd_ft, Gd_ff, Gd_pos_t, Gd_neg_t, Gd_pos_f, Gd_neg_f, Gd_undef, If_t, If_f, If_pos, If_neg, CallF_eq, Max_two, Min_two, Len_rd, Len_own, Ld_blkE, Idx_rdN, Idx_ownN, Idx_rdE, Idx_ownE, IdxAE, Idx_at0, Ext_atE, Len_at, Int.toNat_natCast, Int.toNat_zero, Int.toNat_one, List.length_map, List.length_append, List.length_cons, List.length_nil, List.length_take, List.length_set, List.length_replicate, Bool.not_true, Bool.not_false, decide_true, decide_false, BEq.rfl, bne_self_eq_false, not_true_eq_false, not_false_eq_true, app]
    refine vmtf_Queue_join.spec (x := 0) (Nat.zero_le _) (by omega) q4 fun h5 q5 f5 => ?_
    have efin : jn (jn (jn (upd f (w * 3 + 2) (m.k + 1)) p s) w bb) 0 w = upd (mv f w) (w * 3 + 2) (m.k + 1) := by
      have ecomm2 : ∀ (f : Nat → Int) (x y : Nat), jn (upd f (w * 3 + 2) (m.k + 1)) x y = upd (jn f x y) (w * 3 + 2) (m.k + 1) := fun f x y => by
        funext j
        unfold jn upd
        by_cases a1 : j = 3 * y
        · simp [a1, show 3 * y ≠ w * 3 + 2 by omega]
        · by_cases a2 : j = 3 * x + 1
          · simp [a2, show 3 * x + 1 ≠ w * 3 + 2 by omega, show 3 * x ≠ w * 3 + 1 by omega]
          · simp [a1, a2]
      rw [ecomm2, ecomm2, ecomm2]
      simp only [mv, ep, es, Int.toNat_natCast, eb]
    rw [efin] at q5
    have hrow2 : m.row.filter (· != w) = l1 ++ l2 := by rw [hrow]; exact filter_mid (by rw [List.nodup_cons] at hz; exact hz.2)
    refine hk _ ⟨⟨_, q5, ?_, ?_⟩, ?_, ?_, ?_⟩ (((((f1.mono (by simp)).trans (f2.mono (by simp))).trans (f3.mono (by simp))).trans (f4.mono (by simp))).trans (f5.mono (by simp)))
    · simp only [Int.toNat_natCast, hrow2]
      refine path_congr (fun a _ => upd_ne _ _ (by omega)) (fun a _ => upd_ne _ _ (by omega)) hnew
    · intro x hx
      simp only [Int.toNat_natCast]
      by_cases e : x = w
      · subst e; rw [upd_same, show 3 * x + 2 = x * 3 + 2 by omega, upd_same]
      · rw [upd_ne _ _ e, upd_ne _ _ (by omega), mv_st, hst x hx]
    · simp only [Int.toNat_natCast, List.nodup_cons, List.mem_filter, bne_self_eq_false, Bool.false_eq_true, and_false, not_false_eq_true, true_and]
      exact (List.filter_sublist).nodup q.nd
    · have := q.len
      rw [hrow] at this
      simp only [Int.toNat_natCast, hrow2, List.length_cons, List.length_append] at this ⊢; omega
    · intro x
      simp only [Int.toNat_natCast, List.mem_cons, List.mem_filter, bne_iff_ne, q.mem x]
      by_cases e : x = w <;> simp [e] <;> omega
  · rw [Qm.bump, if_neg c] at hk
    rw [decide_eq_false c] at hk ⊢
    try simp (disch := first | assumption | omega | exact flat_at (by omega) | (apply At.mk; with_unfolding_all rfl)) only [↓go_eq, ↓ent_eq, Mv, NilC_at, Fld_at, add_mk, Nat.zero_add, Nat.add_zero, Add64, Sub64, Mul64, Quo64, Rem64, Neg64, Cvt64, CvtU8, CvtU16, CvtU32, CvtU64, AddU64, SubU64, MulU64, Shr64, Shr_u8, Shr_u16, Shr_u32, Shr_u64, And1, And31, Eql64, Neq64, Bin_lss, Bin_leq, Bin_gtr, Bin_geq, Bin_bool_eql, Bin_bool_neq, Bin_ptr_nil_eql, Bin_ptr_nil_neq, Not_dec, Un_not, Pick_t, Pick_f, Pick_pos, Pick_neg, Gd_tt, Gd_tf, Gd_ft, Gd_ff, Gd_pos_t, Gd_neg_t, Gd_pos_f, Gd_neg_f, Gd_undef, If_t, If_f, If_pos, If_neg, CallF_eq, Max_two, Min_two, Len_rd, Len_own, Ld_blkE, Idx_rdN, Idx_ownN, Idx_rdE, Idx_ownE, IdxAE, Idx_at0, Ext_atE, Len_at, Int.toNat_natCast, Int.toNat_zero, Int.toNat_one, List.length_map, List.length_append, List.length_cons, List.length_nil, List.length_take, List.length_set, List.length_replicate, Bool.not_true, Bool.not_false, decide_true, decide_false, BEq.rfl, bne_self_eq_false, not_true_eq_false, not_false_eq_true, app]
    exact hk _ q (Fr.refl _ _)
end Go.Proofs.Ytcmpdfjojeblmaa
