/- The law VmtfRuns: variables are moved to the front, in whatever order, and all others stay in theirs; the first that isn't skipped is found. No condition but that the arguments lie in memory as Go lays them. -/
import Derived.Test.YtcmpdfjojeblmaaVm7
namespace Go.Proofs.Ytcmpdfjojeblmaa
open Go.Pt
set_option linter.unusedVariables false
set_option linter.unusedSimpArgs false
theorem bumps_st0 (n : Nat) (l : List Int) (x : Nat) (hx : x = 0 ∨ n < x) : (bumps n l).st x = 0 := by
  have : ∀ (l : List Int) (m : Qm), m.st x = 0 → (l.foldl (fun m v => m.bump n v) m).st x = 0 := by
    intro l
    induction l with
    | nil => intro m h; exact h
    | cons v l ih =>
      intro m h
      refine ih _ ?_
      show (m.bump n v).st x = 0
      unfold Qm.bump
      split
      · show upd _ _ _ x = 0
        rw [upd_ne _ _ (by omega)]; exact h
      · exact h
  exact this l _ rfl
def sts (n : Nat) (f : Nat → Int) : List Value := (List.range (n + 2)).map fun x => Iv (f x)
theorem sts_at {n : Nat} {f : Nat → Int} {x : Nat} (hx : x < n + 2) : At (sts n f) x (Iv (f x)) := ⟨by simp [sts, List.getElem?_map, List.getElem?_range hx]⟩
theorem sts_set (n : Nat) (f : Nat → Int) (x : Nat) (v : Int) : (sts n f).set x (Iv v) = sts n (upd f x v) := by
  apply List.ext_getElem?
  intro k
  rw [List.getElem?_set]
  by_cases hk : k < n + 2
  · rw [(sts_at (f := f) hk).out, (sts_at (f := upd f x v) hk).out]
    by_cases e : x = k
    · subst e; simp [hk, upd_same, sts]
    · rw [if_neg e, upd_ne _ _ (fun h => e h.symm)]
  · have a : (sts n f)[k]? = none := List.getElem?_eq_none (by simp [sts]; omega)
    have b : (sts n (upd f x v))[k]? = none := List.getElem?_eq_none (by simp [sts]; omega)
    rw [a, b]
    by_cases e : x = k
    · subst e; rw [if_pos rfl, if_neg (by simp [sts]; omega)]
    · rw [if_neg e]
/-- Is a variable skipped? -/
def skp (sk : Int) (x : Nat) : Bool := decide (sk / 2 ^ x % 2 = 1)
theorem bradawllaw17_VmtfRuns_1.spec {ab sb : Nat} {k sk : Int} {x : Nat} (hx : x ≤ 20) (hk0 : -1000 ≤ k ∧ k ≤ 1000) {K : Ret} {h : Heap} (b1 : Blk h ab [Iv k]) (b2 : Blk h sb [.int .u32 sk]) (hne : ab ≠ sb)
    (hk : ∀ h', Blk h' ab [Iv (k - 1)] → Blk h' sb [.int .u32 sk] → Fr [ab] h h' → K (.bool (skp sk x)) h') : CallH Try.prog bradawllaw17_VmtfRuns_1.id #[Iv x, ptr ab, ptr sb] K h := by
  refine bradawllaw17_VmtfRuns_1.ok ?_
  simp only [bradawllaw17_VmtfRuns_1.pt]
  try simp (disch := first | assumption | omega | (apply At.mk; with_unfolding_all rfl)) only [↓go_eq, ↓ent_eq, Mv, NilC_at, Fld_at, add_mk, Nat.zero_add, Nat.add_zero, Add64, Sub64, Mul64, Quo64, Rem64, Neg64, Cvt64, CvtU8, CvtU16, CvtU32, CvtU64, AddU64, SubU64, MulU64, Shr64, Shr_u8, Shr_u16, Shr_u32, Shr_u64, And1, And31, Eql64, Neq64, Bin_lss, Bin_leq, Bin_gtr, Bin_geq, Bin_bool_eql, Bin_bool_neq, Bin_ptr_nil_eql, Bin_ptr_nil_neq, Not_dec, Un_not, Pick_t, Pick_f, Pick_pos, Pick_neg, Gd_tt, Gd_tf, Gd_ft, Gd_ff, Gd_pos_t, Gd_neg_t, Gd_pos_f, Gd_neg_f, Gd_undef, If_t, If_f, If_pos, If_neg, CallF_eq, Max_two, Min_two, Len_rd, Len_own, Ld_blkE, Idx_rdN, Idx_ownN, Idx_rdE, Idx_ownE, IdxAE, Idx_at0, Ext_atE, Len_at, Int.toNat_natCast, Int.toNat_zero, Int.toNat_one, List.length_map, List.length_append, List.length_cons, List.length_nil, List.length_take, List.length_set, List.length_replicate, Bool.not_true, Bool.not_false, decide_true, decide_false, BEq.rfl, bne_self_eq_false, not_true_eq_false, not_false_eq_true, app]
  refine St_blk b1 (by simp) rfl fun h1 c1 f1 => ?_
  have c2 := b2.fr f1 (by first | (simp; done) | (simp; omega) | omega)
  have e : ((x : Int) % 32).toNat = x := by omega
  try simp (disch := first | assumption | omega | (apply At.mk; with_unfolding_all rfl)) only [↓go_eq, ↓ent_eq, Mv, NilC_at, Fld_at, add_mk, Nat.zero_add, Nat.add_zero, Add64, Sub64, Mul64, Quo64, Rem64, Neg64, Cvt64, CvtU8, CvtU16, CvtU32, CvtU64, AddU64, SubU64, MulU64, Shr64, Shr_u8, Shr_u16, Shr_u32, Shr_u64, And1, And31, Eql64, Neq64, Bin_lss, Bin_leq, Bin_gtr, Bin_geq, Bin_bool_eql, Bin_bool_neq, Bin_ptr_nil_eql, Bin_ptr_nil_neq, Not_dec, Un_not, Pick_t, Pick_f, Pick_pos, Pick_neg, Gd_tt, Gd_tf, Gd_ft, Gd_ff, Gd_pos_t, Gd_neg_t, Gd_pos_f, Gd_neg_f, Gd_undef, If_t, If_f, If_pos, If_neg, CallF_eq, Max_two, Min_two, Len_rd, Len_own, Ld_blkE, Idx_rdN, Idx_ownN, Idx_rdE, Idx_ownE, IdxAE, Idx_at0, Ext_atE, Len_at, Int.toNat_natCast, Int.toNat_zero, Int.toNat_one, List.length_map, List.length_append, List.length_cons, List.length_nil, List.length_take, List.length_set, List.length_replicate, Bool.not_true, Bool.not_false, decide_true, decide_false, BEq.rfl, bne_self_eq_false, not_true_eq_false, not_false_eq_true, app]
  rw [e]
  exact hk h1 c1 c2 f1
set_option maxHeartbeats 4000000 in
theorem bradawllaw17_VmtfRuns.spec {a sk : Int} {v : Value} {xs : List Int} (ha : 0 ≤ a ∧ a ≤ 255) (hsk : 0 ≤ sk ∧ sk ≤ 4294967295) {K : Ret} {h : Heap} (hv : Rd h v (xs.map Iv)) (hk : ∀ h', Fr [] h h' → K (.bool true) h') :
    CallH Try.prog bradawllaw17_VmtfRuns.id #[.int .u8 a, v, .int .u32 sk] K h := by
  refine bradawllaw17_VmtfRuns.ok ?_
  simp only [bradawllaw17_VmtfRuns.pt]
  try simp (disch := first | assumption | omega | (apply At.mk; with_unfolding_all rfl)) only [↓go_eq, ↓ent_eq, Mv, NilC_at, Fld_at, add_mk, Nat.zero_add, Nat.add_zero, Add64, Sub64, Mul64, Quo64, Rem64, Neg64, Cvt64, CvtU8, CvtU16, CvtU32, CvtU64, AddU64, SubU64, MulU64, Shr64, Shr_u8, Shr_u16, Shr_u32, Shr_u64, And1, And31, Eql64, Neq64, Bin_lss, Bin_leq, Bin_gtr, Bin_geq, Bin_bool_eql, Bin_bool_neq, Bin_ptr_nil_eql, Bin_ptr_nil_neq, Not_dec, Un_not, Pick_t, Pick_f, Pick_pos, Pick_neg, Gd_tt, Gd_tf, Gd_ft, Gd_ff, Gd_pos_t, Gd_neg_t, Gd_pos_f, Gd_neg_f, Gd_undef, If_t, If_f, If_pos, If_neg, CallF_eq, Max_two, Min_two, Len_rd, Len_own, Ld_blkE, Idx_rdN, Idx_ownN, Idx_rdE, Idx_ownE, IdxAE, Idx_at0, Ext_atE, Len_at, Int.toNat_natCast, Int.toNat_zero, Int.toNat_one, List.length_map, List.length_append, List.length_cons, List.length_nil, List.length_take, List.length_set, List.length_replicate, Bool.not_true, Bool.not_false, decide_true, decide_false, BEq.rfl, bne_self_eq_false, not_true_eq_false, not_false_eq_true, app]
  refine New_blk fun h1 b1 f1 s1 => ?_
  try simp (disch := first | assumption | omega | (apply At.mk; with_unfolding_all rfl)) only [↓go_eq, ↓ent_eq, Mv, NilC_at, Fld_at, add_mk, Nat.zero_add, Nat.add_zero, Add64, Sub64, Mul64, Quo64, Rem64, Neg64, Cvt64, CvtU8, CvtU16, CvtU32, CvtU64, AddU64, SubU64, MulU64, Shr64, Shr_u8, Shr_u16, Shr_u32, Shr_u64, And1, And31, Eql64, Neq64, Bin_lss, Bin_leq, Bin_gtr, Bin_geq, Bin_bool_eql, Bin_bool_neq, Bin_ptr_nil_eql, Bin_ptr_nil_neq, Not_dec, Un_not, Pick_t, Pick_f, Pick_pos, Pick_neg, Gd_tt, Gd_tf, Gd_ft, Gd_ff, Gd_pos_t, Gd_neg_t, Gd_pos_f, Gd_neg_f, Gd_undef, If_t, If_f, If_pos, If_neg, CallF_eq, Max_two, Min_two, Len_rd, Len_own, Ld_blkE, Idx_rdN, Idx_ownN, Idx_rdE, Idx_ownE, IdxAE, Idx_at0, Ext_atE, Len_at, Int.toNat_natCast, Int.toNat_zero, Int.toNat_one, List.length_map, List.length_append, List.length_cons, List.length_nil, List.length_take, List.length_set, List.length_replicate, Bool.not_true, Bool.not_false, decide_true, decide_false, BEq.rfl, bne_self_eq_false, not_true_eq_false, not_false_eq_true, app]
  refine bradawllaw17_fit.spec fun h2 f2 => ?_
  have x1 : Blk h2 h.size [.int .u32 sk] := b1.fr f2 (by simp)
  have f02 := f1.trans f2
  have hv2 := hv.fr f02
  have sz_f1 := f1.size
  have sz_f2 := f2.size
  obtain ⟨sb, hsb⟩ : ∃ sb, sb = h.size := ⟨_, rfl⟩
  rw [← hsb] at x1 ⊢
  have lsb := x1.lt
  try simp (disch := first | assumption | omega | (apply At.mk; with_unfolding_all rfl)) only [↓go_eq, ↓ent_eq, Mv, NilC_at, Fld_at, add_mk, Nat.zero_add, Nat.add_zero, Add64, Sub64, Mul64, Quo64, Rem64, Neg64, Cvt64, CvtU8, CvtU16, CvtU32, CvtU64, AddU64, SubU64, MulU64, Shr64, Shr_u8, Shr_u16, Shr_u32, Shr_u64, And1, And31, Eql64, Neq64, Bin_lss, Bin_leq, Bin_gtr, Bin_geq, Bin_bool_eql, Bin_bool_neq, Bin_ptr_nil_eql, Bin_ptr_nil_neq, Not_dec, Un_not, Pick_t, Pick_f, Pick_pos, Pick_neg, Gd_tt, Gd_tf, Gd_ft, Gd_ff, Gd_pos_t, Gd_neg_t, Gd_pos_f, Gd_neg_f, Gd_undef, If_t, If_f, If_pos, If_neg, CallF_eq, Max_two, Min_two, Len_rd, Len_own, Ld_blkE, Idx_rdN, Idx_ownN, Idx_rdE, Idx_ownE, IdxAE, Idx_at0, Ext_atE, Len_at, Int.toNat_natCast, Int.toNat_zero, Int.toNat_one, List.length_map, List.length_append, List.length_cons, List.length_nil, List.length_take, List.length_set, List.length_replicate, Bool.not_true, Bool.not_false, decide_true, decide_false, BEq.rfl, bne_self_eq_false, not_true_eq_false, not_false_eq_true, app]
  by_cases c0 : (xs.length : Int) > 100
  · try simp (disch := first | assumption | omega | (apply At.mk; with_unfolding_all rfl)) only [↓go_eq, ↓ent_eq, Mv, NilC_at, Fld_at, add_mk, Nat.zero_add, Nat.add_zero, Add64, Sub64, Mul64, Quo64, Rem64, Neg64, Cvt64, CvtU8, CvtU16, CvtU32, CvtU64, AddU64, SubU64, MulU64, Shr64, Shr_u8, Shr_u16, Shr_u32, Shr_u64, And1, And31, Eql64, Neq64, Bin_lss, Bin_leq, Bin_gtr, Bin_geq, Bin_bool_eql, Bin_bool_neq, Bin_ptr_nil_eql, Bin_ptr_nil_neq, Not_dec, Un_not, Pick_t, Pick_f, Pick_pos, Pick_neg, Gd_tt, Gd_tf, Gd_ft, Gd_ff, Gd_pos_t, Gd_neg_t, Gd_pos_f, Gd_neg_f, Gd_undef, If_t, If_f, If_pos, If_neg, CallF_eq, Max_two, Min_two, Len_rd, Len_own, Ld_blkE, Idx_rdN, Idx_ownN, Idx_rdE, Idx_ownE, IdxAE, Idx_at0, Ext_atE, Len_at, Int.toNat_natCast, Int.toNat_zero, Int.toNat_one, List.length_map, List.length_append, List.length_cons, List.length_nil, List.length_take, List.length_set, List.length_replicate, Bool.not_true, Bool.not_false, decide_true, decide_false, BEq.rfl, bne_self_eq_false, not_true_eq_false, not_false_eq_true, app]
    exact hk _ f02
  obtain ⟨n, hn⟩ : ∃ n : Nat, (n : Int) = a % 20 := ⟨(a % 20).toNat, by omega⟩
  try simp (disch := first | assumption | omega | (apply At.mk; with_unfolding_all rfl)) only [↓go_eq, ↓ent_eq, Mv, NilC_at, Fld_at, add_mk, Nat.zero_add, Nat.add_zero, Add64, Sub64, Mul64, Quo64, Rem64, Neg64, Cvt64, CvtU8, CvtU16, CvtU32, CvtU64, AddU64, SubU64, MulU64, Shr64, Shr_u8, Shr_u16, Shr_u32, Shr_u64, And1, And31, Eql64, Neq64, Bin_lss, Bin_leq, Bin_gtr, Bin_geq, Bin_bool_eql, Bin_bool_neq, Bin_ptr_nil_eql, Bin_ptr_nil_neq, Not_dec, Un_not, Pick_t, Pick_f, Pick_pos, Pick_neg, Gd_tt, Gd_tf, Gd_ft, Gd_ff, Gd_pos_t, Gd_neg_t, Gd_pos_f, Gd_neg_f, Gd_undef, If_t, If_f, If_pos, If_neg, CallF_eq, Max_two, Min_two, Len_rd, Len_own, Ld_blkE, Idx_rdN, Idx_ownN, Idx_rdE, Idx_ownE, IdxAE, Idx_at0, Ext_atE, Len_at, Int.toNat_natCast, Int.toNat_zero, Int.toNat_one, List.length_map, List.length_append, List.length_cons, List.length_nil, List.length_take, List.length_set, List.length_replicate, Bool.not_true, Bool.not_false, decide_true, decide_false, BEq.rfl, bne_self_eq_false, not_true_eq_false, not_false_eq_true, app]
  rw [← hn]
  refine bradawllaw17_begin.spec (by omega) fun g b u bs h3 q3 o3 zg zb zbs f3 => ?_
  have x1 := x1.fr f3 (by first | (simp; done) | (simp; omega) | omega)
  have k3 := q3.k_lt
  try simp (disch := first | assumption | omega | (apply At.mk; with_unfolding_all rfl)) only [↓go_eq, ↓ent_eq, Mv, NilC_at, Fld_at, add_mk, Nat.zero_add, Nat.add_zero, Add64, Sub64, Mul64, Quo64, Rem64, Neg64, Cvt64, CvtU8, CvtU16, CvtU32, CvtU64, AddU64, SubU64, MulU64, Shr64, Shr_u8, Shr_u16, Shr_u32, Shr_u64, And1, And31, Eql64, Neq64, Bin_lss, Bin_leq, Bin_gtr, Bin_geq, Bin_bool_eql, Bin_bool_neq, Bin_ptr_nil_eql, Bin_ptr_nil_neq, Not_dec, Un_not, Pick_t, Pick_f, Pick_pos, Pick_neg, Gd_tt, Gd_tf, Gd_ft, Gd_ff, Gd_pos_t, Gd_neg_t, Gd_pos_f, Gd_neg_f, Gd_undef, If_t, If_f, If_pos, If_neg, CallF_eq, Max_two, Min_two, Len_rd, Len_own, Ld_blkE, Idx_rdN, Idx_ownN, Idx_rdE, Idx_ownE, IdxAE, Idx_at0, Ext_atE, Len_at, Int.toNat_natCast, Int.toNat_zero, Int.toNat_one, List.length_map, List.length_append, List.length_cons, List.length_nil, List.length_take, List.length_set, List.length_replicate, Bool.not_true, Bool.not_false, decide_true, decide_false, BEq.rfl, bne_self_eq_false, not_true_eq_false, not_false_eq_true, app]
  have e2 : ((n : Int) + 2) = ((n + 2 : Nat) : Int) := by omega
  rw [e2]
  refine MkS_one (x := Iv 0) (by omega) (by omega) fun h4 o4 f4 s4 => ?_
  obtain ⟨tb, htb⟩ : ∃ tb, tb = h3.size := ⟨_, rfl⟩
  rw [← htb] at o4 ⊢
  generalize htv : Value.slice (some ⟨tb, 0, none⟩) (n + 2) (n + 2) = tv at *
  have o4 : Own h4 tv (sts n (bumps n (xs.take 0)).st) [tb] := by
    have e : sts n (bumps n (xs.take 0)).st = List.replicate (n + 2) (Iv 0) := by
      have : ∀ x : Nat, Iv ((bumps n (xs.take 0)).st x) = Iv 0 := fun x => rfl
      rw [sts]; simp only [this, List.map_const', List.length_range]
    rw [e]; exact o4
  have x1 := x1.fr f4 (by first | (simp; done) | (simp; omega) | omega)
  have q3 := q3.fr f4 (by first | (simp; done) | (simp; omega) | omega)
  have o3' := o3.fr f4 (by simp)
  have f04 := (f02.trans f3).trans f4
  have zbs' : ∀ x ∈ bs, h2.size ≤ x ∧ x ≠ g ∧ x ≠ b ∧ x < tb := fun x hx => by have := zbs x hx; have := o3.lt x hx; omega
  have sz_f3 := f3.size
  have sz_f4 := f4.size
  have hord : sb < h2.size ∧ h2.size ≤ g ∧ h2.size ≤ b ∧ g < tb ∧ b < tb := by omega
  generalize h2.size = z2 at *
  have hv4 := hv.fr f04
  have hq0 : QS h4 g b n (bumps n (xs.take 0)) := q3
  have hk0 : (bumps n (xs.take 0)).k = 0 := rfl
  try simp (disch := first | assumption | omega | (apply At.mk; with_unfolding_all rfl)) only [↓go_eq, ↓ent_eq, Mv, NilC_at, Fld_at, add_mk, Nat.zero_add, Nat.add_zero, Add64, Sub64, Mul64, Quo64, Rem64, Neg64, Cvt64, CvtU8, CvtU16, CvtU32, CvtU64, AddU64, SubU64, MulU64, Shr64, Shr_u8, Shr_u16, Shr_u32, Shr_u64, And1, And31, Eql64, Neq64, Bin_lss, Bin_leq, Bin_gtr, Bin_geq, Bin_bool_eql, Bin_bool_neq, Bin_ptr_nil_eql, Bin_ptr_nil_neq, Not_dec, Un_not, Pick_t, Pick_f, Pick_pos, Pick_neg, Gd_tt, Gd_tf, Gd_ft, Gd_ff, Gd_pos_t, Gd_neg_t, Gd_pos_f, Gd_neg_f, Gd_undef, If_t, If_f, If_pos, If_neg, CallF_eq, Max_two, Min_two, Len_rd, Len_own, Ld_blkE, Idx_rdN, Idx_ownN, Idx_rdE, Idx_ownE, IdxAE, Idx_at0, Ext_atE, Len_at, Int.toNat_natCast, Int.toNat_zero, Int.toNat_one, List.length_map, List.length_append, List.length_cons, List.length_nil, List.length_take, List.length_set, List.length_replicate, Bool.not_true, Bool.not_false, decide_true, decide_false, BEq.rfl, bne_self_eq_false, not_true_eq_false, not_false_eq_true, app]
  refine Lp_fn (σ := Nat × Value × List Nat) (fun s => [ptr sb, Iv n, ptr g, s.2.1, tv, Iv (bumps n (xs.take s.1)).k, v, Iv (xs.length : Nat), Iv (s.1 : Int)])
    (fun s h' => s.1 ≤ xs.length ∧ Fr [] h h' ∧ QS h' g b n (bumps n (xs.take s.1)) ∧ Blk h' sb [.int .u32 sk] ∧ Own h' s.2.1 (Iw (bumps n (xs.take s.1)).row) s.2.2 ∧ Own h' tv (sts n (bumps n (xs.take s.1)).st) [tb] ∧ (∀ x ∈ s.2.2, z2 ≤ x ∧ x ≠ g ∧ x ≠ b ∧ x ≠ tb))
    (fun s => xs.length - s.1) (0, u, bs) rfl (fun _ => rfl) ⟨Nat.zero_le _, f04, hq0, x1, o3', o4, fun x hx => by have := zbs' x hx; omega⟩ ?_
  rintro ⟨i, u5, bs5⟩ h5 ⟨hi, f5, q5, x1, o5, t5, z5⟩ X hX
  simp only at hi q5 o5 t5 z5
  have hv5 := hv.fr f5
  have hkk := bumps_k n (xs.take i)
  rw [List.length_take] at hkk
  have l1 := q5.k_lt
  have l2 := t5.lt tb (by simp)
  have l3 := x1.lt
  have hlen := q5.len
  by_cases c1 : (i : Int) < (xs.length : Nat)
  · have hg1 : xs[i]? = some xs[i] := List.getElem?_eq_getElem (by omega)
    have a1 := At.map (f := Iv) hg1
    have em : (decide (xs[i] ≥ 1), decide (xs[i] ≤ n)) = (decide (xs[i] ≥ 1), decide (xs[i] ≤ n)) := rfl
    -- behind the move: the row and the stamps are checked
    have main : ∀ (h6 : Heap) (u6 : Value) (bs6 : List Nat), Fr [] h h6 → QS h6 g b n (bumps n (xs.take (i + 1))) → Blk h6 sb [.int .u32 sk] → Own h6 u6 (Iw (bumps n (xs.take (i + 1))).row) bs6 → Own h6 tv (sts n (bumps n (xs.take (i + 1))).st) [tb] →
        (∀ x ∈ bs6, z2 ≤ x ∧ x ≠ g ∧ x ≠ b ∧ x ≠ tb) → CallH Try.prog bradawllaw17_same.id #[ptr g, u6] (fun t70 h =>
          Un .not t70 (fun t71 h => If t71 (K (.bool false) h) (
            Lp 10 (fun X3 t5_3 t7_2 t8_2 t9_2 t10_2 t11_2 t15 t40_2 t41_3 t42_2 h =>
              go (Bin .int .add t7_2 (.int .i64 1)) h fun t74 h =>
              go (Bin .int .leq t15 t74) h fun t75 h =>
              If t75 (
              go (QCall Try.prog 12 [t8_2, t15]) h fun t80 h =>
              go (Idx 1 t10_2 t15) h fun t83 h =>
              go (Ld t83) h fun t84 h =>
              go (Bin .int .neq t80 t84) h fun t85 h =>
              If t85 (
              K (.bool false) h) (
              go (Bin .int .add t15 (.int .i64 1)) h fun t77 h =>
              X3 t5_3 t7_2 t8_2 t9_2 t10_2 t11_2 t77 t40_2 t41_3 t42_2 h)) (
              go (Bin .int .add t42_2 (.int .i64 1)) h fun t86 h =>
              X t5_3 t7_2 t8_2 t9_2 t10_2 t11_2 t40_2 t41_3 t86 h)) [ptr sb, Iv n, ptr g, u6, tv, Iv (bumps n (xs.take (i + 1))).k, .int .i64 0, v, Iv (xs.length : Nat), Iv (i : Int)] h)) h) h6 := by
      intro h6 u6 bs6 f6 q6 x6 o6 t6 z6
      refine bradawllaw17_same.spec (by omega) (by have := q6.len; omega) q6 o6.rd fun h7 f7 => ?_
      rw [decide_eq_true rfl]
      have q6 := q6.fr f7 (by first | (simp; done) | (simp; omega) | omega)
      have x6 := x6.fr f7 (by first | (simp; done) | (simp; omega) | omega)
      have o7 := o6.fr f7 (by simp)
      have t7 := t6.fr f7 (by simp)
      have f07 := f6.trans f7
      try simp (disch := first | assumption | omega | (apply At.mk; with_unfolding_all rfl)) only [↓go_eq, ↓ent_eq, Mv, NilC_at, Fld_at, add_mk, Nat.zero_add, Nat.add_zero, Add64, Sub64, Mul64, Quo64, Rem64, Neg64, Cvt64, CvtU8, CvtU16, CvtU32, CvtU64, AddU64, SubU64, MulU64, Shr64, Shr_u8, Shr_u16, Shr_u32, Shr_u64, And1, And31, Eql64, Neq64, Bin_lss, Bin_leq, Bin_gtr, Bin_geq, Bin_bool_eql, Bin_bool_neq, Bin_ptr_nil_eql, Bin_ptr_nil_neq, Not_dec, Un_not, Pick_t, Pick_f, Pick_pos, Pick_neg, Gd_tt, Gd_tf, Gd_ft, Gd_ff, Gd_pos_t, Gd_neg_t, Gd_pos_f, Gd_neg_f, Gd_undef, If_t, If_f, If_pos, If_neg, CallF_eq, Max_two, Min_two, Len_rd, Len_own, Ld_blkE, Idx_rdN, Idx_ownN, Idx_rdE, Idx_ownE, IdxAE, Idx_at0, Ext_atE, Len_at, Int.toNat_natCast, Int.toNat_zero, Int.toNat_one, List.length_map, List.length_append, List.length_cons, List.length_nil, List.length_take, List.length_set, List.length_replicate, Bool.not_true, Bool.not_false, decide_true, decide_false, BEq.rfl, bne_self_eq_false, not_true_eq_false, not_false_eq_true, app]
      refine Lp_fn (σ := Nat) (fun j => [ptr sb, Iv n, ptr g, u6, tv, Iv (bumps n (xs.take (i + 1))).k, Iv (j : Int), v, Iv (xs.length : Nat), Iv (i : Int)]) (fun j h' => h7 = h' ∧ j ≤ n + 2) (fun j => n + 2 - j) 0 rfl (fun _ => rfl) ⟨rfl, Nat.zero_le _⟩ ?_
      rintro j _ ⟨rfl, hj⟩ Y hY
      have st0 := bumps_st0 n (xs.take (i + 1))
      by_cases c2 : (j : Int) ≤ n + 1
      · have at1 := sts_at (n := n) (f := (bumps n (xs.take (i + 1))).st) (x := j) (by omega)
        have e3 : (if 1 ≤ (j : Int) ∧ (j : Int) ≤ n then (bumps n (xs.take (i + 1))).st (j : Int).toNat else 0) = (bumps n (xs.take (i + 1))).st j := by
          rw [Int.toNat_natCast]
          by_cases c3 : 1 ≤ (j : Int) ∧ (j : Int) ≤ n
          · rw [if_pos c3]
          · rw [if_neg c3, st0 j (by omega)]
        try simp (disch := first | assumption | omega | (apply At.mk; with_unfolding_all rfl)) only [↓go_eq, ↓ent_eq, Mv, NilC_at, Fld_at, add_mk, Nat.zero_add, Nat.add_zero, Add64, Sub64, Mul64, Quo64, Rem64, Neg64, Cvt64, CvtU8, CvtU16, CvtU32, CvtU64, AddU64, SubU64, MulU64, Shr64, Shr_u8, Shr_u16, Shr_u32, Shr_u64, And1, And31, Eql64, Neq64, Bin_lss, Bin_leq, Bin_gtr, Bin_geq, Bin_bool_eql, Bin_bool_neq, Bin_ptr_nil_eql, Bin_ptr_nil_neq, Not_dec, Un_not, Pick_t, Pick_f, Pick_pos, Pick_neg, Gd_tt, Gd_tf, Gd_ft, Gd_ff, Gd_pos_t, Gd_neg_t, Gd_pos_f, Gd_neg_f, Gd_undef, If_t, If_f, If_pos, If_neg, CallF_eq, Max_two, Min_two, Len_rd, Len_own, Ld_blkE, Idx_rdN, Idx_ownN, Idx_rdE, Idx_ownE, IdxAE, Idx_at0, Ext_atE, Len_at, Int.toNat_natCast, Int.toNat_zero, Int.toNat_one, List.length_map, List.length_append, List.length_cons, List.length_nil, List.length_take, List.length_set, List.length_replicate, Bool.not_true, Bool.not_false, decide_true, decide_false, BEq.rfl, bne_self_eq_false, not_true_eq_false, not_false_eq_true, app]
        refine vmtf_Queue_Stamp.q (by omega) q6 ?_
        rw [e3]
        try simp (disch := first | assumption | omega | (apply At.mk; with_unfolding_all rfl)) only [↓go_eq, ↓ent_eq, Mv, NilC_at, Fld_at, add_mk, Nat.zero_add, Nat.add_zero, Add64, Sub64, Mul64, Quo64, Rem64, Neg64, Cvt64, CvtU8, CvtU16, CvtU32, CvtU64, AddU64, SubU64, MulU64, Shr64, Shr_u8, Shr_u16, Shr_u32, Shr_u64, And1, And31, Eql64, Neq64, Bin_lss, Bin_leq, Bin_gtr, Bin_geq, Bin_bool_eql, Bin_bool_neq, Bin_ptr_nil_eql, Bin_ptr_nil_neq, Not_dec, Un_not, Pick_t, Pick_f, Pick_pos, Pick_neg, Gd_tt, Gd_tf, Gd_ft, Gd_ff, Gd_pos_t, Gd_neg_t, Gd_pos_f, Gd_neg_f, Gd_undef, If_t, If_f, If_pos, If_neg, CallF_eq, Max_two, Min_two, Len_rd, Len_own, Ld_blkE, Idx_rdN, Idx_ownN, Idx_rdE, Idx_ownE, IdxAE, Idx_at0, Ext_atE, Len_at, Int.toNat_natCast, Int.toNat_zero, Int.toNat_one, List.length_map, List.length_append, List.length_cons, List.length_nil, List.length_take, List.length_set, List.length_replicate, Bool.not_true, Bool.not_false, decide_true, decide_false, BEq.rfl, bne_self_eq_false, not_true_eq_false, not_false_eq_true, app]
        exact hY (j + 1) _ ⟨rfl, by omega⟩ (by omega)
      · try simp (disch := first | assumption | omega | (apply At.mk; with_unfolding_all rfl)) only [↓go_eq, ↓ent_eq, Mv, NilC_at, Fld_at, add_mk, Nat.zero_add, Nat.add_zero, Add64, Sub64, Mul64, Quo64, Rem64, Neg64, Cvt64, CvtU8, CvtU16, CvtU32, CvtU64, AddU64, SubU64, MulU64, Shr64, Shr_u8, Shr_u16, Shr_u32, Shr_u64, And1, And31, Eql64, Neq64, Bin_lss, Bin_leq, Bin_gtr, Bin_geq, Bin_bool_eql, Bin_bool_neq, Bin_ptr_nil_eql, Bin_ptr_nil_neq, Not_dec, Un_not, Pick_t, Pick_f, Pick_pos, Pick_neg, Gd_tt, Gd_tf, Gd_ft, Gd_ff, Gd_pos_t, Gd_neg_t, Gd_pos_f, Gd_neg_f, Gd_undef, If_t, If_f, If_pos, If_neg, CallF_eq, Max_two, Min_two, Len_rd, Len_own, Ld_blkE, Idx_rdN, Idx_ownN, Idx_rdE, Idx_ownE, IdxAE, Idx_at0, Ext_atE, Len_at, Int.toNat_natCast, Int.toNat_zero, Int.toNat_one, List.length_map, List.length_append, List.length_cons, List.length_nil, List.length_take, List.length_set, List.length_replicate, Bool.not_true, Bool.not_false, decide_true, decide_false, BEq.rfl, bne_self_eq_false, not_true_eq_false, not_false_eq_true, app]
        exact hX (i + 1, u6, bs6) h7 ⟨by simp only; omega, f07, q6, x6, o7, t7, z6⟩ (by simp only; omega)
    by_cases c2 : 1 ≤ xs[i] ∧ xs[i] ≤ n
    · obtain ⟨y, hy⟩ : ∃ y : Nat, xs[i] = y := ⟨xs[i].toNat, by omega⟩
      rw [hy] at hg1 a1 c2
      have er : (bumps n (xs.take (i + 1))) = ⟨y :: (bumps n (xs.take i)).row.filter (· != y), upd (bumps n (xs.take i)).st y ((bumps n (xs.take i)).k + 1), (bumps n (xs.take i)).k + 1⟩ := by rw [take_snoc hg1, bumps_snoc, Qm.bump, if_pos c2]; rfl
      rw [er] at main
      try simp (disch := first | assumption | omega | (apply At.mk; with_unfolding_all rfl)) only [↓go_eq, ↓ent_eq, Mv, NilC_at, Fld_at, add_mk, Nat.zero_add, Nat.add_zero, Add64, Sub64, Mul64, Quo64, Rem64, Neg64, Cvt64, CvtU8, CvtU16, CvtU32, CvtU64, AddU64, SubU64, MulU64, Shr64, Shr_u8, Shr_u16, Shr_u32, Shr_u64, And1, And31, Eql64, Neq64, Bin_lss, Bin_leq, Bin_gtr, Bin_geq, Bin_bool_eql, Bin_bool_neq, Bin_ptr_nil_eql, Bin_ptr_nil_neq, Not_dec, Un_not, Pick_t, Pick_f, Pick_pos, Pick_neg, Gd_tt, Gd_tf, Gd_ft, Gd_ff, Gd_pos_t, Gd_neg_t, Gd_pos_f, Gd_neg_f, Gd_undef, If_t, If_f, If_pos, If_neg, CallF_eq, Max_two, Min_two, Len_rd, Len_own, Ld_blkE, Idx_rdN, Idx_ownN, Idx_rdE, Idx_ownE, IdxAE, Idx_at0, Ext_atE, Len_at, Int.toNat_natCast, Int.toNat_zero, Int.toNat_one, List.length_map, List.length_append, List.length_cons, List.length_nil, List.length_take, List.length_set, List.length_replicate, Bool.not_true, Bool.not_false, decide_true, decide_false, BEq.rfl, bne_self_eq_false, not_true_eq_false, not_false_eq_true, app]
      refine vmtf_Queue_Bump.spec (by omega) (by omega) q5 fun h6 q6 f6 => ?_
      rw [← bumps_snoc, ← take_snoc hg1, er] at q6
      rw [decide_eq_true c2, show decide ((y : Int) ≤ n) = true from decide_eq_true c2.2]
      have o6 := o5.fr f6 (fun x hx => by have := z5 x hx; simp; omega)
      have t6 := t5.fr f6 (fun x hx => by simp at hx; subst hx; simp; omega)
      have x1 := x1.fr f6 (by first | (simp; done) | (simp; omega) | omega)
      have f5 := f5.trans' f6 (by first | (simp; done) | (simp; omega) | omega)
      simp only [Bin_bool_neq, bne_self_eq_false]
      try simp (disch := first | assumption | omega | (apply At.mk; with_unfolding_all rfl)) only [↓go_eq, ↓ent_eq, Mv, NilC_at, Fld_at, add_mk, Nat.zero_add, Nat.add_zero, Add64, Sub64, Mul64, Quo64, Rem64, Neg64, Cvt64, CvtU8, CvtU16, CvtU32, CvtU64, AddU64, SubU64, MulU64, Shr64, Shr_u8, Shr_u16, Shr_u32, Shr_u64, And1, And31, Eql64, Neq64, Bin_lss, Bin_leq, Bin_gtr, Bin_geq, Bin_bool_eql, Bin_bool_neq, Bin_ptr_nil_eql, Bin_ptr_nil_neq, Not_dec, Un_not, Pick_t, Pick_f, Pick_pos, Pick_neg, Gd_tt, Gd_tf, Gd_ft, Gd_ff, Gd_pos_t, Gd_neg_t, Gd_pos_f, Gd_neg_f, Gd_undef, If_t, If_f, If_pos, If_neg, CallF_eq, Max_two, Min_two, Len_rd, Len_own, Ld_blkE, Idx_rdN, Idx_ownN, Idx_rdE, Idx_ownE, IdxAE, Idx_at0, Ext_atE, Len_at, Int.toNat_natCast, Int.toNat_zero, Int.toNat_one, List.length_map, List.length_append, List.length_cons, List.length_nil, List.length_take, List.length_set, List.length_replicate, Bool.not_true, Bool.not_false, decide_true, decide_false, BEq.rfl, bne_self_eq_false, not_true_eq_false, not_false_eq_true, app]
      rw [Join_eq]
      try simp (disch := first | assumption | omega | (apply At.mk; with_unfolding_all rfl)) only [↓go_eq, ↓ent_eq, Mv, NilC_at, Fld_at, add_mk, Nat.zero_add, Nat.add_zero, Add64, Sub64, Mul64, Quo64, Rem64, Neg64, Cvt64, CvtU8, CvtU16, CvtU32, CvtU64, AddU64, SubU64, MulU64, Shr64, Shr_u8, Shr_u16, Shr_u32, Shr_u64, And1, And31, Eql64, Neq64, Bin_lss, Bin_leq, Bin_gtr, Bin_geq, Bin_bool_eql, Bin_bool_neq, Bin_ptr_nil_eql, Bin_ptr_nil_neq, Not_dec, Un_not, Pick_t, Pick_f, Pick_pos, Pick_neg, Gd_tt, Gd_tf, Gd_ft, Gd_ff, Gd_pos_t, Gd_neg_t, Gd_pos_f, Gd_neg_f, Gd_undef, If_t, If_f, If_pos, If_neg, CallF_eq, Max_two, Min_two, Len_rd, Len_own, Ld_blkE, Idx_rdN, Idx_ownN, Idx_rdE, Idx_ownE, IdxAE, Idx_at0, Ext_atE, Len_at, Int.toNat_natCast, Int.toNat_zero, Int.toNat_one, List.length_map, List.length_append, List.length_cons, List.length_nil, List.length_take, List.length_set, List.length_replicate, Bool.not_true, Bool.not_false, decide_true, decide_false, BEq.rfl, bne_self_eq_false, not_true_eq_false, not_false_eq_true, app]
      refine bradawllaw17_bumped.spec (by omega) o6.rd fun u7 h7 bs7 o7 z7 f7 => ?_
      have x1 := x1.fr f7 (by first | (simp; done) | (simp; omega) | omega)
      have q6 := q6.fr f7 (by first | (simp; done) | (simp; omega) | omega)
      have t7 := t6.fr f7 (by simp)
      have f5 := f5.trans' f7 (by first | (simp; done) | (simp; omega) | omega)
      have := f6.size
      try simp (disch := first | assumption | omega | (apply At.mk; with_unfolding_all rfl)) only [↓go_eq, ↓ent_eq, Mv, NilC_at, Fld_at, add_mk, Nat.zero_add, Nat.add_zero, Add64, Sub64, Mul64, Quo64, Rem64, Neg64, Cvt64, CvtU8, CvtU16, CvtU32, CvtU64, AddU64, SubU64, MulU64, Shr64, Shr_u8, Shr_u16, Shr_u32, Shr_u64, And1, And31, Eql64, Neq64, Bin_lss, Bin_leq, Bin_gtr, Bin_geq, Bin_bool_eql, Bin_bool_neq, Bin_ptr_nil_eql, Bin_ptr_nil_neq, Not_dec, Un_not, Pick_t, Pick_f, Pick_pos, Pick_neg, Gd_tt, Gd_tf, Gd_ft, Gd_ff, Gd_pos_t, Gd_neg_t, Gd_pos_f, Gd_neg_f, Gd_undef, If_t, If_f, If_pos, If_neg, CallF_eq, Max_two, Min_two, Len_rd, Len_own, Ld_blkE, Idx_rdN, Idx_ownN, Idx_rdE, Idx_ownE, IdxAE, Idx_at0, Ext_atE, Len_at, Int.toNat_natCast, Int.toNat_zero, Int.toNat_one, List.length_map, List.length_append, List.length_cons, List.length_nil, List.length_take, List.length_set, List.length_replicate, Bool.not_true, Bool.not_false, decide_true, decide_false, BEq.rfl, bne_self_eq_false, not_true_eq_false, not_false_eq_true, app]
      refine t7.put (by omega) (by simp [sts]; omega) rfl fun h8 t8 f8 _ => ?_
      rw [Int.toNat_natCast, sts_set] at t8
      have o8 := o7.fr f8 fun x hx => by have := z7 x hx; simp; omega
      have x1 := x1.fr f8 (by first | (simp; done) | (simp; omega) | omega)
      have q6 := q6.fr f8 (by first | (simp; done) | (simp; omega) | omega)
      have f5 := f5.trans' f8 (by first | (simp; done) | (simp; omega) | omega)
      try simp (disch := first | assumption | omega | (apply At.mk; with_unfolding_all rfl)) only [↓go_eq, ↓ent_eq, Mv, NilC_at, Fld_at, add_mk, Nat.zero_add, Nat.add_zero, Add64, Sub64, Mul64, Quo64, Rem64, Neg64, Cvt64, CvtU8, CvtU16, CvtU32, CvtU64, AddU64, SubU64, MulU64, Shr64, Shr_u8, Shr_u16, Shr_u32, Shr_u64, And1, And31, Eql64, Neq64, Bin_lss, Bin_leq, Bin_gtr, Bin_geq, Bin_bool_eql, Bin_bool_neq, Bin_ptr_nil_eql, Bin_ptr_nil_neq, Not_dec, Un_not, Pick_t, Pick_f, Pick_pos, Pick_neg, Gd_tt, Gd_tf, Gd_ft, Gd_ff, Gd_pos_t, Gd_neg_t, Gd_pos_f, Gd_neg_f, Gd_undef, If_t, If_f, If_pos, If_neg, CallF_eq, Max_two, Min_two, Len_rd, Len_own, Ld_blkE, Idx_rdN, Idx_ownN, Idx_rdE, Idx_ownE, IdxAE, Idx_at0, Ext_atE, Len_at, Int.toNat_natCast, Int.toNat_zero, Int.toNat_one, List.length_map, List.length_append, List.length_cons, List.length_nil, List.length_take, List.length_set, List.length_replicate, Bool.not_true, Bool.not_false, decide_true, decide_false, BEq.rfl, bne_self_eq_false, not_true_eq_false, not_false_eq_true, app]
      exact main h8 u7 bs7 f5 q6 x1 o8 t8 fun x hx => by have := z7 x hx; omega
    · have er : bumps n (xs.take (i + 1)) = bumps n (xs.take i) := by rw [take_snoc hg1, bumps_snoc, Qm.bump, if_neg c2]
      rw [er] at main
      have fin : ∀ (t : Bool), t = false → CallH Try.prog vmtf_Queue_Bump.id #[ptr g, Iv xs[i]] (fun t55 h => Bin .bool .neq t55 (.bool t) (fun t57 h => If t57 (K (.bool false) h) (CallH Try.prog bradawllaw17_same.id #[ptr g, u5] (fun t70 h =>
          Un .not t70 (fun t71 h => If t71 (K (.bool false) h) (
            Lp 10 (fun X3 t5_3 t7_2 t8_2 t9_2 t10_2 t11_2 t15 t40_2 t41_3 t42_2 h =>
              go (Bin .int .add t7_2 (.int .i64 1)) h fun t74 h =>
              go (Bin .int .leq t15 t74) h fun t75 h =>
              If t75 (
              go (QCall Try.prog 12 [t8_2, t15]) h fun t80 h =>
              go (Idx 1 t10_2 t15) h fun t83 h =>
              go (Ld t83) h fun t84 h =>
              go (Bin .int .neq t80 t84) h fun t85 h =>
              If t85 (
              K (.bool false) h) (
              go (Bin .int .add t15 (.int .i64 1)) h fun t77 h =>
              X3 t5_3 t7_2 t8_2 t9_2 t10_2 t11_2 t77 t40_2 t41_3 t42_2 h)) (
              go (Bin .int .add t42_2 (.int .i64 1)) h fun t86 h =>
              X t5_3 t7_2 t8_2 t9_2 t10_2 t11_2 t40_2 t41_3 t86 h)) [ptr sb, Iv n, ptr g, u5, tv, Iv (bumps n (xs.take i)).k, .int .i64 0, v, Iv (xs.length : Nat), Iv (i : Int)] h)) h) h)) h) h5 := by
        rintro t rfl
        refine vmtf_Queue_Bump.spec (by omega) (by omega) q5 fun h6 q6 f6 => ?_
        rw [← bumps_snoc, ← take_snoc hg1, er] at q6
        rw [decide_eq_false c2]
        have o6 := o5.fr f6 (fun x hx => by have := z5 x hx; simp; omega)
        have t6 := t5.fr f6 (fun x hx => by simp at hx; subst hx; simp; omega)
        have x1 := x1.fr f6 (by first | (simp; done) | (simp; omega) | omega)
        have f5 := f5.trans' f6 (by first | (simp; done) | (simp; omega) | omega)
        simp only [Bin_bool_neq, bne_self_eq_false]
        try simp (disch := first | assumption | omega | (apply At.mk; with_unfolding_all rfl)) only [↓go_eq, ↓ent_eq, Mv, NilC_at, Fld_at, add_mk, Nat.zero_add, Nat.add_zero, Add64, Sub64, Mul64, Quo64, Rem64, Neg64, Cvt64, CvtU8, CvtU16, CvtU32, CvtU64, AddU64, SubU64, MulU64, Shr64, Shr_u8, Shr_u16, Shr_u32, Shr_u64, And1, And31, Eql64, Neq64, Bin_lss, Bin_leq, Bin_gtr, Bin_geq, Bin_bool_eql, Bin_bool_neq, Bin_ptr_nil_eql, Bin_ptr_nil_neq, Not_dec, Un_not, Pick_t, Pick_f, Pick_pos, Pick_neg, Gd_tt, Gd_tf, Gd_ft, Gd_ff, Gd_pos_t, Gd_neg_t, Gd_pos_f, Gd_neg_f, Gd_undef, If_t, If_f, If_pos, If_neg, CallF_eq, Max_two, Min_two, Len_rd, Len_own, Ld_blkE, Idx_rdN, Idx_ownN, Idx_rdE, Idx_ownE, IdxAE, Idx_at0, Ext_atE, Len_at, Int.toNat_natCast, Int.toNat_zero, Int.toNat_one, List.length_map, List.length_append, List.length_cons, List.length_nil, List.length_take, List.length_set, List.length_replicate, Bool.not_true, Bool.not_false, decide_true, decide_false, BEq.rfl, bne_self_eq_false, not_true_eq_false, not_false_eq_true, app]
        exact main h6 u5 bs5 f5 q6 x1 o6 t6 z5
      by_cases c3 : xs[i] ≥ 1
      · try simp (disch := first | assumption | omega | (apply At.mk; with_unfolding_all rfl)) only [↓go_eq, ↓ent_eq, Mv, NilC_at, Fld_at, add_mk, Nat.zero_add, Nat.add_zero, Add64, Sub64, Mul64, Quo64, Rem64, Neg64, Cvt64, CvtU8, CvtU16, CvtU32, CvtU64, AddU64, SubU64, MulU64, Shr64, Shr_u8, Shr_u16, Shr_u32, Shr_u64, And1, And31, Eql64, Neq64, Bin_lss, Bin_leq, Bin_gtr, Bin_geq, Bin_bool_eql, Bin_bool_neq, Bin_ptr_nil_eql, Bin_ptr_nil_neq, Not_dec, Un_not, Pick_t, Pick_f, Pick_pos, Pick_neg, Gd_tt, Gd_tf, Gd_ft, Gd_ff, Gd_pos_t, Gd_neg_t, Gd_pos_f, Gd_neg_f, Gd_undef, If_t, If_f, If_pos, If_neg, CallF_eq, Max_two, Min_two, Len_rd, Len_own, Ld_blkE, Idx_rdN, Idx_ownN, Idx_rdE, Idx_ownE, IdxAE, Idx_at0, Ext_atE, Len_at, Int.toNat_natCast, Int.toNat_zero, Int.toNat_one, List.length_map, List.length_append, List.length_cons, List.length_nil, List.length_take, List.length_set, List.length_replicate, Bool.not_true, Bool.not_false, decide_true, decide_false, BEq.rfl, bne_self_eq_false, not_true_eq_false, not_false_eq_true, app]
        rw [decide_eq_false (show ¬ xs[i] ≤ (n : Int) by omega)]
        simp only [Join_eq]
        try simp (disch := first | assumption | omega | (apply At.mk; with_unfolding_all rfl)) only [↓go_eq, ↓ent_eq, Mv, NilC_at, Fld_at, add_mk, Nat.zero_add, Nat.add_zero, Add64, Sub64, Mul64, Quo64, Rem64, Neg64, Cvt64, CvtU8, CvtU16, CvtU32, CvtU64, AddU64, SubU64, MulU64, Shr64, Shr_u8, Shr_u16, Shr_u32, Shr_u64, And1, And31, Eql64, Neq64, Bin_lss, Bin_leq, Bin_gtr, Bin_geq, Bin_bool_eql, Bin_bool_neq, Bin_ptr_nil_eql, Bin_ptr_nil_neq, Not_dec, Un_not, Pick_t, Pick_f, Pick_pos, Pick_neg, Gd_tt, Gd_tf, Gd_ft, Gd_ff, Gd_pos_t, Gd_neg_t, Gd_pos_f, Gd_neg_f, Gd_undef, If_t, If_f, If_pos, If_neg, CallF_eq, Max_two, Min_two, Len_rd, Len_own, Ld_blkE, Idx_rdN, Idx_ownN, Idx_rdE, Idx_ownE, IdxAE, Idx_at0, Ext_atE, Len_at, Int.toNat_natCast, Int.toNat_zero, Int.toNat_one, List.length_map, List.length_append, List.length_cons, List.length_nil, List.length_take, List.length_set, List.length_replicate, Bool.not_true, Bool.not_false, decide_true, decide_false, BEq.rfl, bne_self_eq_false, not_true_eq_false, not_false_eq_true, app]
        exact fin false rfl
      · try simp (disch := first | assumption | omega | (apply At.mk; with_unfolding_all rfl)) only [↓go_eq, ↓ent_eq, Mv, NilC_at, Fld_at, add_mk, Nat.zero_add, Nat.add_zero, Add64, Sub64, Mul64, Quo64, Rem64, Neg64, Cvt64, CvtU8, CvtU16, CvtU32, CvtU64, AddU64, SubU64, MulU64, Shr64, Shr_u8, Shr_u16, Shr_u32, Shr_u64, And1, And31, Eql64, Neq64, Bin_lss, Bin_leq, Bin_gtr, Bin_geq, Bin_bool_eql, Bin_bool_neq, Bin_ptr_nil_eql, Bin_ptr_nil_neq, Not_dec, Un_not, Pick_t, Pick_f, Pick_pos, Pick_neg, Gd_tt, Gd_tf, Gd_ft, Gd_ff, Gd_pos_t, Gd_neg_t, Gd_pos_f, Gd_neg_f, Gd_undef, If_t, If_f, If_pos, If_neg, CallF_eq, Max_two, Min_two, Len_rd, Len_own, Ld_blkE, Idx_rdN, Idx_ownN, Idx_rdE, Idx_ownE, IdxAE, Idx_at0, Ext_atE, Len_at, Int.toNat_natCast, Int.toNat_zero, Int.toNat_one, List.length_map, List.length_append, List.length_cons, List.length_nil, List.length_take, List.length_set, List.length_replicate, Bool.not_true, Bool.not_false, decide_true, decide_false, BEq.rfl, bne_self_eq_false, not_true_eq_false, not_false_eq_true, app]
        simp only [Join_eq]
        try simp (disch := first | assumption | omega | (apply At.mk; with_unfolding_all rfl)) only [↓go_eq, ↓ent_eq, Mv, NilC_at, Fld_at, add_mk, Nat.zero_add, Nat.add_zero, Add64, Sub64, Mul64, Quo64, Rem64, Neg64, Cvt64, CvtU8, CvtU16, CvtU32, CvtU64, AddU64, SubU64, MulU64, Shr64, Shr_u8, Shr_u16, Shr_u32, Shr_u64, And1, And31, Eql64, Neq64, Bin_lss, Bin_leq, Bin_gtr, Bin_geq, Bin_bool_eql, Bin_bool_neq, Bin_ptr_nil_eql, Bin_ptr_nil_neq, Not_dec, Un_not, Pick_t, Pick_f, Pick_pos, Pick_neg, Gd_tt, Gd_tf, Gd_ft, Gd_ff, Gd_pos_t, Gd_neg_t, Gd_pos_f, Gd_neg_f, Gd_undef, If_t, If_f, If_pos, If_neg, CallF_eq, Max_two, Min_two, Len_rd, Len_own, Ld_blkE, Idx_rdN, Idx_ownN, Idx_rdE, Idx_ownE, IdxAE, Idx_at0, Ext_atE, Len_at, Int.toNat_natCast, Int.toNat_zero, Int.toNat_one, List.length_map, List.length_append, List.length_cons, List.length_nil, List.length_take, List.length_set, List.length_replicate, Bool.not_true, Bool.not_false, decide_true, decide_false, BEq.rfl, bne_self_eq_false, not_true_eq_false, not_false_eq_true, app]
        exact fin false rfl
  obtain rfl : i = xs.length := by omega
  rw [List.take_length] at q5 o5 t5
  generalize bumps n xs = m at *
  try simp (disch := first | assumption | omega | (apply At.mk; with_unfolding_all rfl)) only [↓go_eq, ↓ent_eq, Mv, NilC_at, Fld_at, add_mk, Nat.zero_add, Nat.add_zero, Add64, Sub64, Mul64, Quo64, Rem64, Neg64, Cvt64, CvtU8, CvtU16, CvtU32, CvtU64, AddU64, SubU64, MulU64, Shr64, Shr_u8, Shr_u16, Shr_u32, Shr_u64, And1, And31, Eql64, Neq64, Bin_lss, Bin_leq, Bin_gtr, Bin_geq, Bin_bool_eql, Bin_bool_neq, Bin_ptr_nil_eql, Bin_ptr_nil_neq, Not_dec, Un_not, Pick_t, Pick_f, Pick_pos, Pick_neg, Gd_tt, Gd_tf, Gd_ft, Gd_ff, Gd_pos_t, Gd_neg_t, Gd_pos_f, Gd_neg_f, Gd_undef, If_t, If_f, If_pos, If_neg, CallF_eq, Max_two, Min_two, Len_rd, Len_own, Ld_blkE, Idx_rdN, Idx_ownN, Idx_rdE, Idx_ownE, IdxAE, Idx_at0, Ext_atE, Len_at, Int.toNat_natCast, Int.toNat_zero, Int.toNat_one, List.length_map, List.length_append, List.length_cons, List.length_nil, List.length_take, List.length_set, List.length_replicate, Bool.not_true, Bool.not_false, decide_true, decide_false, BEq.rfl, bne_self_eq_false, not_true_eq_false, not_false_eq_true, app]
  refine New_blk fun h6 b6 f6 s6 => ?_
  try simp (disch := first | assumption | omega | (apply At.mk; with_unfolding_all rfl)) only [↓go_eq, ↓ent_eq, Mv, NilC_at, Fld_at, add_mk, Nat.zero_add, Nat.add_zero, Add64, Sub64, Mul64, Quo64, Rem64, Neg64, Cvt64, CvtU8, CvtU16, CvtU32, CvtU64, AddU64, SubU64, MulU64, Shr64, Shr_u8, Shr_u16, Shr_u32, Shr_u64, And1, And31, Eql64, Neq64, Bin_lss, Bin_leq, Bin_gtr, Bin_geq, Bin_bool_eql, Bin_bool_neq, Bin_ptr_nil_eql, Bin_ptr_nil_neq, Not_dec, Un_not, Pick_t, Pick_f, Pick_pos, Pick_neg, Gd_tt, Gd_tf, Gd_ft, Gd_ff, Gd_pos_t, Gd_neg_t, Gd_pos_f, Gd_neg_f, Gd_undef, If_t, If_f, If_pos, If_neg, CallF_eq, Max_two, Min_two, Len_rd, Len_own, Ld_blkE, Idx_rdN, Idx_ownN, Idx_rdE, Idx_ownE, IdxAE, Idx_at0, Ext_atE, Len_at, Int.toNat_natCast, Int.toNat_zero, Int.toNat_one, List.length_map, List.length_append, List.length_cons, List.length_nil, List.length_take, List.length_set, List.length_replicate, Bool.not_true, Bool.not_false, decide_true, decide_false, BEq.rfl, bne_self_eq_false, not_true_eq_false, not_false_eq_true, app]
  refine St_blk b6 (by simp) rfl fun h7 b7 f7 => ?_
  obtain ⟨ab, hab⟩ : ∃ ab, ab = h5.size := ⟨_, rfl⟩
  rw [← hab] at b7 f7 ⊢
  have x7 : Blk h7 ab [Iv 0] := b7
  have zo : ∀ x ∈ bs5, x ≠ ab := fun x hx => by have := o5.lt x hx; omega
  have q5 := q5.fr f6 (by first | (simp; done) | (simp; omega) | omega)
  have x1 := x1.fr f6 (by first | (simp; done) | (simp; omega) | omega)
  have q5 := q5.fr f7 (by first | (simp; done) | (simp; omega) | omega)
  have x1 := x1.fr f7 (by first | (simp; done) | (simp; omega) | omega)
  have o7 := (o5.fr f6 (by simp)).fr f7 (fun x hx => by have := zo x hx; simp; omega)
  have f07 : Fr [] h h7 := (f5.trans f6).trans' f7 (by have := f5.size; simp; omega)
  have hord3 : sb < ab ∧ g < ab ∧ b < ab ∧ h.size ≤ ab := by have := f5.size; omega
  have hnl := q5.len
  have hmm := fun x => (q5.mem x).1
  generalize hp : skp sk = p at *
  have hfl : fnd p m.row ≤ m.row.length := List.findIdx_le_length
  refine Jn_fn (σ := Unit) (fun _ => [ptr sb, Iv n, ptr g, u5, Iv (m.row.getD (fnd p m.row) 0 : Nat), ptr ab])
    (fun _ h' => Fr [] h h' ∧ QS h' g b n m ∧ Blk h' sb [.int .u32 sk] ∧ Own h' u5 (Iw m.row) bs5 ∧ Blk h' ab [Iv (min (fnd p m.row + 1) m.row.length : Nat)]) ?_ ?_
  · intro J hJ
    try simp (disch := first | assumption | omega | (apply At.mk; with_unfolding_all rfl)) only [↓go_eq, ↓ent_eq, Mv, NilC_at, Fld_at, add_mk, Nat.zero_add, Nat.add_zero, Add64, Sub64, Mul64, Quo64, Rem64, Neg64, Cvt64, CvtU8, CvtU16, CvtU32, CvtU64, AddU64, SubU64, MulU64, Shr64, Shr_u8, Shr_u16, Shr_u32, Shr_u64, And1, And31, Eql64, Neq64, Bin_lss, Bin_leq, Bin_gtr, Bin_geq, Bin_bool_eql, Bin_bool_neq, Bin_ptr_nil_eql, Bin_ptr_nil_neq, Not_dec, Un_not, Pick_t, Pick_f, Pick_pos, Pick_neg, Gd_tt, Gd_tf, Gd_ft, Gd_ff, Gd_pos_t, Gd_neg_t, Gd_pos_f, Gd_neg_f, Gd_undef, If_t, If_f, If_pos, If_neg, CallF_eq, Max_two, Min_two, Len_rd, Len_own, Ld_blkE, Idx_rdN, Idx_ownN, Idx_rdE, Idx_ownE, IdxAE, Idx_at0, Ext_atE, Len_at, Int.toNat_natCast, Int.toNat_zero, Int.toNat_one, List.length_map, List.length_append, List.length_cons, List.length_nil, List.length_take, List.length_set, List.length_replicate, Bool.not_true, Bool.not_false, decide_true, decide_false, BEq.rfl, bne_self_eq_false, not_true_eq_false, not_false_eq_true, app]
    refine Lp_fn (σ := Nat) (fun i => [ptr sb, Iv n, ptr g, u5, Iv 0, ptr ab, u5, Iv (m.row.length : Nat), Iv (i : Int)])
      (fun i h' => i ≤ fnd p m.row ∧ Fr [] h h' ∧ QS h' g b n m ∧ Blk h' sb [.int .u32 sk] ∧ Own h' u5 (Iw m.row) bs5 ∧ Blk h' ab [Iv (i : Nat)]) (fun i => m.row.length - i) 0 rfl (fun _ => rfl) ⟨Nat.zero_le _, f07, q5, x1, o7, x7⟩ ?_
    rintro i h8 ⟨hi8, f8, q8, x8, o8, a8⟩ Y hY
    by_cases c2 : (i : Int) < (m.row.length : Nat)
    · have hy : m.row[i]? = some m.row[i] := List.getElem?_eq_getElem (by omega)
      have at1 := At.map (f := fun x : Nat => Iv (x : Nat)) hy
      have hb1 := hmm _ (List.getElem_mem (by omega : i < m.row.length))
      try simp (disch := first | assumption | omega | (apply At.mk; with_unfolding_all rfl)) only [↓go_eq, ↓ent_eq, Mv, NilC_at, Fld_at, add_mk, Nat.zero_add, Nat.add_zero, Add64, Sub64, Mul64, Quo64, Rem64, Neg64, Cvt64, CvtU8, CvtU16, CvtU32, CvtU64, AddU64, SubU64, MulU64, Shr64, Shr_u8, Shr_u16, Shr_u32, Shr_u64, And1, And31, Eql64, Neq64, Bin_lss, Bin_leq, Bin_gtr, Bin_geq, Bin_bool_eql, Bin_bool_neq, Bin_ptr_nil_eql, Bin_ptr_nil_neq, Not_dec, Un_not, Pick_t, Pick_f, Pick_pos, Pick_neg, Gd_tt, Gd_tf, Gd_ft, Gd_ff, Gd_pos_t, Gd_neg_t, Gd_pos_f, Gd_neg_f, Gd_undef, If_t, If_f, If_pos, If_neg, CallF_eq, Max_two, Min_two, Len_rd, Len_own, Ld_blkE, Idx_rdN, Idx_ownN, Idx_rdE, Idx_ownE, IdxAE, Idx_at0, Ext_atE, Len_at, Int.toNat_natCast, Int.toNat_zero, Int.toNat_one, List.length_map, List.length_append, List.length_cons, List.length_nil, List.length_take, List.length_set, List.length_replicate, Bool.not_true, Bool.not_false, decide_true, decide_false, BEq.rfl, bne_self_eq_false, not_true_eq_false, not_false_eq_true, app]
      refine St_blk a8 (by simp) rfl fun h9 b9 f9 => ?_
      have q8 := q8.fr f9 (by first | (simp; done) | (simp; omega) | omega)
      have x8 := x8.fr f9 (by first | (simp; done) | (simp; omega) | omega)
      have o9 := o8.fr f9 (fun x hx => by have := zo x hx; simp; omega)
      have f8 := f8.trans' f9 (by first | (simp; done) | (simp; omega) | omega)
      have b9 : Blk h9 ab [Iv ((i : Int) + 1)] := b9
      by_cases c3 : p m.row[i] = true
      · have c4 : sk / 2 ^ m.row[i] % 2 = 1 := by rw [← hp] at c3; exact of_decide_eq_true c3
        try simp (disch := first | assumption | omega | (apply At.mk; with_unfolding_all rfl)) only [↓go_eq, ↓ent_eq, Mv, NilC_at, Fld_at, add_mk, Nat.zero_add, Nat.add_zero, Add64, Sub64, Mul64, Quo64, Rem64, Neg64, Cvt64, CvtU8, CvtU16, CvtU32, CvtU64, AddU64, SubU64, MulU64, Shr64, Shr_u8, Shr_u16, Shr_u32, Shr_u64, And1, And31, Eql64, Neq64, Bin_lss, Bin_leq, Bin_gtr, Bin_geq, Bin_bool_eql, Bin_bool_neq, Bin_ptr_nil_eql, Bin_ptr_nil_neq, Not_dec, Un_not, Pick_t, Pick_f, Pick_pos, Pick_neg, Gd_tt, Gd_tf, Gd_ft, Gd_ff, Gd_pos_t, Gd_neg_t, Gd_pos_f, Gd_neg_f, Gd_undef, If_t, If_f, If_pos, If_neg, CallF_eq, Max_two, Min_two, Len_rd, Len_own, Ld_blkE, Idx_rdN, Idx_ownN, Idx_rdE, Idx_ownE, IdxAE, Idx_at0, Ext_atE, Len_at, Int.toNat_natCast, Int.toNat_zero, Int.toNat_one, List.length_map, List.length_append, List.length_cons, List.length_nil, List.length_take, List.length_set, List.length_replicate, Bool.not_true, Bool.not_false, decide_true, decide_false, BEq.rfl, bne_self_eq_false, not_true_eq_false, not_false_eq_true, app]
        refine hY (i + 1) h9 ⟨?_, f8, q8, x8, o9, b9⟩ (by omega)
        rcases Nat.lt_or_ge i (fnd p m.row) with q | q
        · exact q
        · have hfi : fnd p m.row = i := by omega
          have h1 : fnd p m.row < m.row.length := by omega
          have := List.findIdx_getElem (p := fun x => !p x) (w := h1)
          simp only [fnd] at hfi
          simp only [hfi] at this
          rw [c3] at this; cases this
      · have c3 : p m.row[i] = false := by simpa using c3
        have c4 : sk / 2 ^ m.row[i] % 2 = 0 := by
          rw [← hp] at c3
          have := of_decide_eq_false c3
          omega
        have ei : fnd p m.row = i := by
          refine Nat.le_antisymm ?_ hi8
          rcases Nat.lt_or_ge i (fnd p m.row) with q | q
          · have := List.not_of_lt_findIdx (p := fun x => !p x) (xs := m.row) (i := i) q
            simp [c3] at this
          · exact q
        try simp (disch := first | assumption | omega | (apply At.mk; with_unfolding_all rfl)) only [↓go_eq, ↓ent_eq, Mv, NilC_at, Fld_at, add_mk, Nat.zero_add, Nat.add_zero, Add64, Sub64, Mul64, Quo64, Rem64, Neg64, Cvt64, CvtU8, CvtU16, CvtU32, CvtU64, AddU64, SubU64, MulU64, Shr64, Shr_u8, Shr_u16, Shr_u32, Shr_u64, And1, And31, Eql64, Neq64, Bin_lss, Bin_leq, Bin_gtr, Bin_geq, Bin_bool_eql, Bin_bool_neq, Bin_ptr_nil_eql, Bin_ptr_nil_neq, Not_dec, Un_not, Pick_t, Pick_f, Pick_pos, Pick_neg, Gd_tt, Gd_tf, Gd_ft, Gd_ff, Gd_pos_t, Gd_neg_t, Gd_pos_f, Gd_neg_f, Gd_undef, If_t, If_f, If_pos, If_neg, CallF_eq, Max_two, Min_two, Len_rd, Len_own, Ld_blkE, Idx_rdN, Idx_ownN, Idx_rdE, Idx_ownE, IdxAE, Idx_at0, Ext_atE, Len_at, Int.toNat_natCast, Int.toNat_zero, Int.toNat_one, List.length_map, List.length_append, List.length_cons, List.length_nil, List.length_take, List.length_set, List.length_replicate, Bool.not_true, Bool.not_false, decide_true, decide_false, BEq.rfl, bne_self_eq_false, not_true_eq_false, not_false_eq_true, app]
        have := hJ () h9 ⟨f8, q8, x8, o9, by rw [ei, Nat.min_eq_left (by omega)]; exact b9⟩
        rw [ei, List.getD_eq_getElem?_getD, hy] at this
        exact this
    · have ei : fnd p m.row = m.row.length := by omega
      have ei2 : i = m.row.length := by omega
      subst ei2
      try simp (disch := first | assumption | omega | (apply At.mk; with_unfolding_all rfl)) only [↓go_eq, ↓ent_eq, Mv, NilC_at, Fld_at, add_mk, Nat.zero_add, Nat.add_zero, Add64, Sub64, Mul64, Quo64, Rem64, Neg64, Cvt64, CvtU8, CvtU16, CvtU32, CvtU64, AddU64, SubU64, MulU64, Shr64, Shr_u8, Shr_u16, Shr_u32, Shr_u64, And1, And31, Eql64, Neq64, Bin_lss, Bin_leq, Bin_gtr, Bin_geq, Bin_bool_eql, Bin_bool_neq, Bin_ptr_nil_eql, Bin_ptr_nil_neq, Not_dec, Un_not, Pick_t, Pick_f, Pick_pos, Pick_neg, Gd_tt, Gd_tf, Gd_ft, Gd_ff, Gd_pos_t, Gd_neg_t, Gd_pos_f, Gd_neg_f, Gd_undef, If_t, If_f, If_pos, If_neg, CallF_eq, Max_two, Min_two, Len_rd, Len_own, Ld_blkE, Idx_rdN, Idx_ownN, Idx_rdE, Idx_ownE, IdxAE, Idx_at0, Ext_atE, Len_at, Int.toNat_natCast, Int.toNat_zero, Int.toNat_one, List.length_map, List.length_append, List.length_cons, List.length_nil, List.length_take, List.length_set, List.length_replicate, Bool.not_true, Bool.not_false, decide_true, decide_false, BEq.rfl, bne_self_eq_false, not_true_eq_false, not_false_eq_true, app]
      have := hJ () h8 ⟨f8, q8, x8, o8, by rw [ei, Nat.min_eq_right (by omega)]; exact a8⟩
      rw [ei, List.getD_eq_getElem?_getD, List.getElem?_eq_none (Nat.le_refl _)] at this
      exact this
  · rintro _ h8 ⟨f8, q8, x8, o8, a8⟩
    try simp (disch := first | assumption | omega | (apply At.mk; with_unfolding_all rfl)) only [↓go_eq, ↓ent_eq, Mv, NilC_at, Fld_at, add_mk, Nat.zero_add, Nat.add_zero, Add64, Sub64, Mul64, Quo64, Rem64, Neg64, Cvt64, CvtU8, CvtU16, CvtU32, CvtU64, AddU64, SubU64, MulU64, Shr64, Shr_u8, Shr_u16, Shr_u32, Shr_u64, And1, And31, Eql64, Neq64, Bin_lss, Bin_leq, Bin_gtr, Bin_geq, Bin_bool_eql, Bin_bool_neq, Bin_ptr_nil_eql, Bin_ptr_nil_neq, Not_dec, Un_not, Pick_t, Pick_f, Pick_pos, Pick_neg, Gd_tt, Gd_tf, Gd_ft, Gd_ff, Gd_pos_t, Gd_neg_t, Gd_pos_f, Gd_neg_f, Gd_undef, If_t, If_f, If_pos, If_neg, CallF_eq, Max_two, Min_two, Len_rd, Len_own, Ld_blkE, Idx_rdN, Idx_ownN, Idx_rdE, Idx_ownE, IdxAE, Idx_at0, Ext_atE, Len_at, Int.toNat_natCast, Int.toNat_zero, Int.toNat_one, List.length_map, List.length_append, List.length_cons, List.length_nil, List.length_take, List.length_set, List.length_replicate, Bool.not_true, Bool.not_false, decide_true, decide_false, BEq.rfl, bne_self_eq_false, not_true_eq_false, not_false_eq_true, app]
    have z8 := f8.size
    have la := a8.lt
    have lq := q8.k_lt
    refine vmtf_Queue_Find.spec (S0 := [ab]) (by omega) rfl p (fun i h' => Blk h' ab [Iv ((min (fnd p m.row + 1) m.row.length : Nat) - i : Int)] ∧ Blk h' sb [.int .u32 sk]) (by simp; omega) q8
      ⟨by simpa using a8, x8⟩ ?_ ?_ ?_
    · rintro i S h9 h10 hS f ⟨y1, y2⟩
      exact ⟨y1.fr f fun hm => by have := hS _ hm; omega, y2.fr f fun hm => by have := hS _ hm; have := x8.lt; omega⟩
    · rintro i x h9 hx _ ⟨y1, y2⟩
      have hb1 := hmm x (List.mem_of_getElem? hx)
      have hi9 : i < m.row.length := by
        rcases Nat.lt_or_ge i m.row.length with q | q
        · exact q
        · rw [List.getElem?_eq_none q] at hx; cases hx
      refine CallV_func (by kernel_rfl) ?_
      show CallH Try.prog bradawllaw17_VmtfRuns_1.id #[Iv x, ptr ab, ptr sb] _ h9
      refine bradawllaw17_VmtfRuns_1.spec (by omega) (by omega) y1 y2 (by omega) fun h10 z1 z2 f10 => ?_
      refine ⟨by rw [hp], ⟨?_, z2⟩, f10⟩
      have e : ((min (fnd p m.row + 1) m.row.length : Nat) - (i : Nat) : Int) - 1 = (min (fnd p m.row + 1) m.row.length : Nat) - ((i + 1 : Nat) : Int) := by omega
      rw [← e]; exact z1
    · rintro h9 f9 q9 ⟨y1, y2⟩
      rw [Int.sub_self] at y1
      have o9 := o8.fr f9 (fun x hx => by have := zo x hx; simp; omega)
      have f8 := f8.trans' f9 (by first | (simp; done) | (simp; omega) | omega)
      try simp (disch := first | assumption | omega | (apply At.mk; with_unfolding_all rfl)) only [↓go_eq, ↓ent_eq, Mv, NilC_at, Fld_at, add_mk, Nat.zero_add, Nat.add_zero, Add64, Sub64, Mul64, Quo64, Rem64, Neg64, Cvt64, CvtU8, CvtU16, CvtU32, CvtU64, AddU64, SubU64, MulU64, Shr64, Shr_u8, Shr_u16, Shr_u32, Shr_u64, And1, And31, Eql64, Neq64, Bin_lss, Bin_leq, Bin_gtr, Bin_geq, Bin_bool_eql, Bin_bool_neq, Bin_ptr_nil_eql, Bin_ptr_nil_neq, Not_dec, Un_not, Pick_t, Pick_f, Pick_pos, Pick_neg, Gd_tt, Gd_tf, Gd_ft, Gd_ff, Gd_pos_t, Gd_neg_t, Gd_pos_f, Gd_neg_f, Gd_undef, If_t, If_f, If_pos, If_neg, CallF_eq, Max_two, Min_two, Len_rd, Len_own, Ld_blkE, Idx_rdN, Idx_ownN, Idx_rdE, Idx_ownE, IdxAE, Idx_at0, Ext_atE, Len_at, Int.toNat_natCast, Int.toNat_zero, Int.toNat_one, List.length_map, List.length_append, List.length_cons, List.length_nil, List.length_take, List.length_set, List.length_replicate, Bool.not_true, Bool.not_false, decide_true, decide_false, BEq.rfl, bne_self_eq_false, not_true_eq_false, not_false_eq_true, app]
      refine vmtf_Queue_Front.spec q9 ?_
      try simp (disch := first | assumption | omega | (apply At.mk; with_unfolding_all rfl)) only [↓go_eq, ↓ent_eq, Mv, NilC_at, Fld_at, add_mk, Nat.zero_add, Nat.add_zero, Add64, Sub64, Mul64, Quo64, Rem64, Neg64, Cvt64, CvtU8, CvtU16, CvtU32, CvtU64, AddU64, SubU64, MulU64, Shr64, Shr_u8, Shr_u16, Shr_u32, Shr_u64, And1, And31, Eql64, Neq64, Bin_lss, Bin_leq, Bin_gtr, Bin_geq, Bin_bool_eql, Bin_bool_neq, Bin_ptr_nil_eql, Bin_ptr_nil_neq, Not_dec, Un_not, Pick_t, Pick_f, Pick_pos, Pick_neg, Gd_tt, Gd_tf, Gd_ft, Gd_ff, Gd_pos_t, Gd_neg_t, Gd_pos_f, Gd_neg_f, Gd_undef, If_t, If_f, If_pos, If_neg, CallF_eq, Max_two, Min_two, Len_rd, Len_own, Ld_blkE, Idx_rdN, Idx_ownN, Idx_rdE, Idx_ownE, IdxAE, Idx_at0, Ext_atE, Len_at, Int.toNat_natCast, Int.toNat_zero, Int.toNat_one, List.length_map, List.length_append, List.length_cons, List.length_nil, List.length_take, List.length_set, List.length_replicate, Bool.not_true, Bool.not_false, decide_true, decide_false, BEq.rfl, bne_self_eq_false, not_true_eq_false, not_false_eq_true, app]
      rcases Nat.eq_zero_or_pos n with hn0 | hn0
      · have hr : m.row = [] := List.length_eq_zero_iff.1 (by omega)
        rw [decide_eq_false (show ¬ 0 < n by omega), hr]
        rw [decide_eq_false (show ¬ (n : Int) > 0 by omega)]
        have e1 : fnd p [] = 0 := rfl
        simp only [Bin_bool_neq, bne_self_eq_false, List.headD_nil, e1, List.length_nil, Nat.lt_irrefl, decide_false, List.getD_nil]
        try simp (disch := first | assumption | omega | (apply At.mk; with_unfolding_all rfl)) only [↓go_eq, ↓ent_eq, Mv, NilC_at, Fld_at, add_mk, Nat.zero_add, Nat.add_zero, Add64, Sub64, Mul64, Quo64, Rem64, Neg64, Cvt64, CvtU8, CvtU16, CvtU32, CvtU64, AddU64, SubU64, MulU64, Shr64, Shr_u8, Shr_u16, Shr_u32, Shr_u64, And1, And31, Eql64, Neq64, Bin_lss, Bin_leq, Bin_gtr, Bin_geq, Bin_bool_eql, Bin_bool_neq, Bin_ptr_nil_eql, Bin_ptr_nil_neq, Not_dec, Un_not, Pick_t, Pick_f, Pick_pos, Pick_neg, Gd_tt, Gd_tf, Gd_ft, Gd_ff, Gd_pos_t, Gd_neg_t, Gd_pos_f, Gd_neg_f, Gd_undef, If_t, If_f, If_pos, If_neg, CallF_eq, Max_two, Min_two, Len_rd, Len_own, Ld_blkE, Idx_rdN, Idx_ownN, Idx_rdE, Idx_ownE, IdxAE, Idx_at0, Ext_atE, Len_at, Int.toNat_natCast, Int.toNat_zero, Int.toNat_one, List.length_map, List.length_append, List.length_cons, List.length_nil, List.length_take, List.length_set, List.length_replicate, Bool.not_true, Bool.not_false, decide_true, decide_false, BEq.rfl, bne_self_eq_false, not_true_eq_false, not_false_eq_true, app]
        rw [show decide (((0 : Nat) : Int) > 0) = false from rfl]
        try simp (disch := first | assumption | omega | (apply At.mk; with_unfolding_all rfl)) only [↓go_eq, ↓ent_eq, Mv, NilC_at, Fld_at, add_mk, Nat.zero_add, Nat.add_zero, Add64, Sub64, Mul64, Quo64, Rem64, Neg64, Cvt64, CvtU8, CvtU16, CvtU32, CvtU64, AddU64, SubU64, MulU64, Shr64, Shr_u8, Shr_u16, Shr_u32, Shr_u64, And1, And31, Eql64, Neq64, Bin_lss, Bin_leq, Bin_gtr, Bin_geq, Bin_bool_eql, Bin_bool_neq, Bin_ptr_nil_eql, Bin_ptr_nil_neq, Not_dec, Un_not, Pick_t, Pick_f, Pick_pos, Pick_neg, Gd_tt, Gd_tf, Gd_ft, Gd_ff, Gd_pos_t, Gd_neg_t, Gd_pos_f, Gd_neg_f, Gd_undef, If_t, If_f, If_pos, If_neg, CallF_eq, Max_two, Min_two, Len_rd, Len_own, Ld_blkE, Idx_rdN, Idx_ownN, Idx_rdE, Idx_ownE, IdxAE, Idx_at0, Ext_atE, Len_at, Int.toNat_natCast, Int.toNat_zero, Int.toNat_one, List.length_map, List.length_append, List.length_cons, List.length_nil, List.length_take, List.length_set, List.length_replicate, Bool.not_true, Bool.not_false, decide_true, decide_false, BEq.rfl, bne_self_eq_false, not_true_eq_false, not_false_eq_true, app]
        exact hk _ f8
      · obtain ⟨x, l, hr⟩ : ∃ x l, m.row = x :: l := by cases hr : m.row with | nil => rw [hr] at hnl; simp at hnl; omega | cons x l => exact ⟨x, l, rfl⟩
        have hx := hmm x (by rw [hr]; simp)
        have at0 : At (Iw m.row) (0 : Int).toNat (Iv (x : Nat)) := ⟨by rw [hr]; rfl⟩
        have et : decide (fnd p m.row < m.row.length) = decide (((m.row.getD (fnd p m.row) 0 : Nat) : Int) > 0) := by
          rw [decide_eq_decide, List.getD_eq_getElem?_getD]
          rcases Nat.lt_or_ge (fnd p m.row) m.row.length with q | q
          · rw [List.getElem?_eq_getElem q]
            have := hmm _ (List.getElem_mem q)
            simp only [Option.getD_some]; omega
          · rw [List.getElem?_eq_none q]; simp; omega
        rw [decide_eq_true hn0, decide_eq_true (show (n : Int) > 0 by omega), ← et]
        generalize decide (fnd p m.row < m.row.length) = t at *
        try simp only [Bin_bool_neq, bne_self_eq_false]
        try simp (disch := first | assumption | omega | (apply At.mk; with_unfolding_all rfl)) only [↓go_eq, ↓ent_eq, Mv, NilC_at, Fld_at, add_mk, Nat.zero_add, Nat.add_zero, Add64, Sub64, Mul64, Quo64, Rem64, Neg64, Cvt64, CvtU8, CvtU16, CvtU32, CvtU64, AddU64, SubU64, MulU64, Shr64, Shr_u8, Shr_u16, Shr_u32, Shr_u64, And1, And31, Eql64, Neq64, Bin_lss, Bin_leq, Bin_gtr, Bin_geq, Bin_bool_eql, Bin_bool_neq, Bin_ptr_nil_eql, Bin_ptr_nil_neq, Not_dec, Un_not, Pick_t, Pick_f, Pick_pos, Pick_neg, Gd_tt, Gd_tf, Gd_ft, Gd_ff, Gd_pos_t, Gd_neg_t, Gd_pos_f, Gd_neg_f, Gd_undef, If_t, If_f, If_pos, If_neg, CallF_eq, Max_two, Min_two, Len_rd, Len_own, Ld_blkE, Idx_rdN, Idx_ownN, Idx_rdE, Idx_ownE, IdxAE, Idx_at0, Ext_atE, Len_at, Int.toNat_natCast, Int.toNat_zero, Int.toNat_one, List.length_map, List.length_append, List.length_cons, List.length_nil, List.length_take, List.length_set, List.length_replicate, Bool.not_true, Bool.not_false, decide_true, decide_false, BEq.rfl, bne_self_eq_false, not_true_eq_false, not_false_eq_true, app]
        rw [show m.row.headD 0 = x by rw [hr]; rfl]
        try simp (disch := first | assumption | omega | (apply At.mk; with_unfolding_all rfl)) only [↓go_eq, ↓ent_eq, Mv, NilC_at, Fld_at, add_mk, Nat.zero_add, Nat.add_zero, Add64, Sub64, Mul64, Quo64, Rem64, Neg64, Cvt64, CvtU8, CvtU16, CvtU32, CvtU64, AddU64, SubU64, MulU64, Shr64, Shr_u8, Shr_u16, Shr_u32, Shr_u64, And1, And31, Eql64, Neq64, Bin_lss, Bin_leq, Bin_gtr, Bin_geq, Bin_bool_eql, Bin_bool_neq, Bin_ptr_nil_eql, Bin_ptr_nil_neq, Not_dec, Un_not, Pick_t, Pick_f, Pick_pos, Pick_neg, Gd_tt, Gd_tf, Gd_ft, Gd_ff, Gd_pos_t, Gd_neg_t, Gd_pos_f, Gd_neg_f, Gd_undef, If_t, If_f, If_pos, If_neg, CallF_eq, Max_two, Min_two, Len_rd, Len_own, Ld_blkE, Idx_rdN, Idx_ownN, Idx_rdE, Idx_ownE, IdxAE, Idx_at0, Ext_atE, Len_at, Int.toNat_natCast, Int.toNat_zero, Int.toNat_one, List.length_map, List.length_append, List.length_cons, List.length_nil, List.length_take, List.length_set, List.length_replicate, Bool.not_true, Bool.not_false, decide_true, decide_false, BEq.rfl, bne_self_eq_false, not_true_eq_false, not_false_eq_true, app]
        try simp only [Bin_bool_eql, BEq.rfl]
        try simp (disch := first | assumption | omega | (apply At.mk; with_unfolding_all rfl)) only [↓go_eq, ↓ent_eq, Mv, NilC_at, Fld_at, add_mk, Nat.zero_add, Nat.add_zero, Add64, Sub64, Mul64, Quo64, Rem64, Neg64, Cvt64, CvtU8, CvtU16, CvtU32, CvtU64, AddU64, SubU64, MulU64, Shr64, Shr_u8, Shr_u16, Shr_u32, Shr_u64, And1, And31, Eql64, Neq64, Bin_lss, Bin_leq, Bin_gtr, Bin_geq, Bin_bool_eql, Bin_bool_neq, Bin_ptr_nil_eql, Bin_ptr_nil_neq, Not_dec, Un_not, Pick_t, Pick_f, Pick_pos, Pick_neg, Gd_tt, Gd_tf, Gd_ft, Gd_ff, Gd_pos_t, Gd_neg_t, Gd_pos_f, Gd_neg_f, Gd_undef, If_t, If_f, If_pos, If_neg, CallF_eq, Max_two, Min_two, Len_rd, Len_own, Ld_blkE, Idx_rdN, Idx_ownN, Idx_rdE, Idx_ownE, IdxAE, Idx_at0, Ext_atE, Len_at, Int.toNat_natCast, Int.toNat_zero, Int.toNat_one, List.length_map, List.length_append, List.length_cons, List.length_nil, List.length_take, List.length_set, List.length_replicate, Bool.not_true, Bool.not_false, decide_true, decide_false, BEq.rfl, bne_self_eq_false, not_true_eq_false, not_false_eq_true, app]
        exact hk _ f8
theorem bradawllaw17_VmtfRuns.law {h : Heap} {a0 a2 : Int} {a1 : List Int} {v0 v1 v2 : Value} (r0 : (rInt .u8).is h a0 [v0]) (r1 : (rSlice (rInt .i64) 1).is h a1 [v1]) (r2 : (rInt .u32).is h a2 [v2]) :
    CallH Try.prog bradawllaw17_VmtfRuns.id #[v0, v1, v2] (fun v h' => v = .bool true ∧ Fr [] h h') h := by
  obtain ⟨rfl, h1, h2⟩ := int_arg r0
  obtain ⟨rfl, h3, h4⟩ := int_arg r2
  exact bradawllaw17_VmtfRuns.spec ⟨h1, h2⟩ ⟨h3, h4⟩ (rd_ints r1).1 fun h' f => ⟨rfl, f⟩
end Go.Proofs.Ytcmpdfjojeblmaa
