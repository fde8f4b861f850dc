/- What the functions of the row compute, on. Conditions: those typed ahead of each theorem. -/
import Derived.Test.YtcmpdfjojeblmaaVm2
namespace Go.Proofs.Ytcmpdfjojeblmaa
open Go.Pt
set_option linter.unusedVariables false
set_option linter.unusedSimpArgs false
theorem zeros_flat (n : Nat) : ((Array.range ((n + 1) * 3)).map ((#[Iv 0, Iv 0, Iv 0] : Array Value)[· % (#[Iv 0, Iv 0, Iv 0] : Array Value).size]!)).toList = flat (fun _ => 0) n := by
  rw [Array.toList_map, Array.toList_range, flat, Nat.mul_comm]
  refine List.map_congr_left fun j _ => ?_
  have : j % 3 = 0 ∨ j % 3 = 1 ∨ j % 3 = 2 := by omega
  show (#[Iv 0, Iv 0, Iv 0] : Array Value)[j % 3]! = Iv 0
  rcases this with e | e | e <;> rw [e] <;> rfl
def ini (i : Nat) : Nat → Int := fun k => if k / 3 < i then (if k % 3 = 0 then (k / 3 : Nat) - 1 else if k % 3 = 1 then (k / 3 : Nat) + 1 else 0) else 0
theorem ini_step (i : Nat) : upd (upd (ini i) (i * 3) ((i : Int) - 1)) (i * 3 + 1) ((i : Int) + 1) = ini (i + 1) := by
  funext k
  unfold upd ini
  by_cases a : k = i * 3 + 1
  · subst a
    have h1 : (i * 3 + 1) / 3 = i := by omega
    have h2 : (i * 3 + 1) % 3 = 1 := by omega
    simp [h1, h2]
  · rw [if_neg a]
    by_cases b : k = i * 3
    · subst b
      have h1 : (i * 3) / 3 = i := by omega
      have h2 : (i * 3) % 3 = 0 := by omega
      simp [h1, h2]
    · rw [if_neg b]
      by_cases c : k / 3 < i
      · have c2 : k / 3 < i + 1 := by omega
        simp only [c, c2, if_true]
      · rw [if_neg c]
        by_cases d : k / 3 < i + 1
        · rw [if_pos d]
          have h2 : k % 3 = 2 := by omega
          simp [h2]
        · rw [if_neg d]
def mNew (n : Nat) : Qm := ⟨List.range' 1 n, fun _ => 0, 0⟩
theorem path_range {f : Nat → Int} : ∀ (m a : Nat), (∀ x, a ≤ x → x < a + m → Lnk f x (x + 1)) → Path f (List.range' a (m + 1))
  | 0, a, _ => trivial
  | m + 1, a, h => by
    rw [List.range'_succ, List.range'_succ]
    refine ⟨h a (Nat.le_refl _) (by omega), ?_⟩
    have := path_range m (a + 1) fun x h1 h2 => h x (by omega) (by omega)
    rwa [List.range'_succ] at this
theorem new_path (n : Nat) : Path (upd (upd (ini (n + 1)) 0 n) (n * 3 + 1) 0) (0 :: List.range' 1 n ++ [0]) := by
  have e : 0 :: List.range' 1 n ++ [0] = List.range' 0 n ++ n :: [0] := by
    have : 0 :: List.range' 1 n = List.range' 0 (n + 1) := by rw [List.range'_succ]
    rw [this, List.range'_1_concat, List.append_assoc, Nat.zero_add]; rfl
  have lk : ∀ x, x < n → Lnk (upd (upd (ini (n + 1)) 0 n) (n * 3 + 1) 0) x (x + 1) := fun x hx => by
    constructor
    · rw [upd_ne _ _ (by omega), upd_ne _ _ (by omega)]
      unfold ini
      rw [if_pos (by omega), if_neg (by omega), if_pos (by omega)]; omega
    · rw [upd_ne _ _ (by omega), upd_ne _ _ (by omega)]
      unfold ini
      rw [if_pos (by omega), if_pos (by omega)]; omega
  rw [e, path_append]
  refine ⟨?_, ⟨?_, ?_⟩, trivial⟩
  · have := path_range n 0 (fun x _ h => lk x (by omega))
    rwa [List.range'_1_concat, Nat.zero_add] at this
  · rw [show 3 * n + 1 = n * 3 + 1 by omega, upd_same]; rfl
  · show upd _ _ _ 0 = _
    rw [upd_ne _ _ (by omega), upd_same]
theorem vmtf_New.spec {n : Nat} (hn : n ≤ 1000) {K : Ret} {h : Heap} (hk : ∀ g b h', QS h' g b n (mNew n) → Fr [] h h' → h.size ≤ g → h.size ≤ b → K (ptr g) h') : CallH Try.prog vmtf_New.id #[Iv n] K h := by
  refine vmtf_New.ok ?_
  simp only [vmtf_New.pt]
  try simp (disch := first | assumption | omega | exact flat_at (by omega) | (apply At.mk; with_unfolding_all rfl)) only [↓go_eq, ↓ent_eq, Mv, NilC_at, Fld_at, add_mk, Nat.zero_add, Nat.add_zero, Add64, Sub64, Mul64, Quo64, Rem64, Neg64, Cvt64, CvtU8, CvtU16, CvtU32, CvtU64, AddU64, SubU64, MulU64, Shr64, Shr_u8, Shr_u16, Shr_u32, Shr_u64, And1, And31, Eql64, Neq64, Bin_lss, Bin_leq, Bin_gtr, Bin_geq, Bin_bool_eql, Bin_bool_neq, Bin_ptr_nil_eql, Bin_ptr_nil_neq, Not_dec, Un_not, Pick_t, Pick_f, Pick_pos, Pick_neg, Gd_tt, Gd_tf, Gd_ft, Gd_ff, Gd_pos_t, Gd_neg_t, Gd_pos_f, Gd_neg_f, Gd_undef, If_t, If_f, If_pos, If_neg, CallF_eq, Max_two, Min_two, Len_rd, Len_own, Ld_blkE, Idx_rdN, Idx_ownN, Idx_rdE, Idx_ownE, IdxAE, Idx_at0, Ext_atE, Len_at, Int.toNat_natCast, Int.toNat_zero, Int.toNat_one, List.length_map, List.length_append, List.length_cons, List.length_nil, List.length_take, List.length_set, List.length_replicate, Bool.not_true, Bool.not_false, decide_true, decide_false, BEq.rfl, bne_self_eq_false, not_true_eq_false, not_false_eq_true, app]
  rw [MkS_eq]
  refine ⟨⟨by omega, by omega, by omega, by omega⟩, ?_⟩
  have hb := Blk.push h ((Array.range (((n : Int) + 1).toNat * 3)).map ((#[Iv 0, Iv 0, Iv 0] : Array Value)[· % (#[Iv 0, Iv 0, Iv 0] : Array Value).size]!)) 49
  have hf := Fr.push h (.cells ((Array.range (((n : Int) + 1).toNat * 3)).map ((#[Iv 0, Iv 0, Iv 0] : Array Value)[· % (#[Iv 0, Iv 0, Iv 0] : Array Value).size]!)) 49)
  rw [show ((n : Int) + 1).toNat = n + 1 by omega] at hb hf ⊢
  rw [zeros_flat] at hb
  generalize h.push _ = h1 at *
  try simp (disch := first | assumption | omega | exact flat_at (by omega) | (apply At.mk; with_unfolding_all rfl)) only [↓go_eq, ↓ent_eq, Mv, NilC_at, Fld_at, add_mk, Nat.zero_add, Nat.add_zero, Add64, Sub64, Mul64, Quo64, Rem64, Neg64, Cvt64, CvtU8, CvtU16, CvtU32, CvtU64, AddU64, SubU64, MulU64, Shr64, Shr_u8, Shr_u16, Shr_u32, Shr_u64, And1, And31, Eql64, Neq64, Bin_lss, Bin_leq, Bin_gtr, Bin_geq, Bin_bool_eql, Bin_bool_neq, Bin_ptr_nil_eql, Bin_ptr_nil_neq, Not_dec, Un_not, Pick_t, Pick_f, Pick_pos, Pick_neg, Gd_tt, Gd_tf, Gd_ft, Gd_ff, Gd_pos_t, Gd_neg_t, Gd_pos_f, Gd_neg_f, Gd_undef, If_t, If_f, If_pos, If_neg, CallF_eq, Max_two, Min_two, Len_rd, Len_own, Ld_blkE, Idx_rdN, Idx_ownN, Idx_rdE, Idx_ownE, IdxAE, Idx_at0, Ext_atE, Len_at, Int.toNat_natCast, Int.toNat_zero, Int.toNat_one, List.length_map, List.length_append, List.length_cons, List.length_nil, List.length_take, List.length_set, List.length_replicate, Bool.not_true, Bool.not_false, decide_true, decide_false, BEq.rfl, bne_self_eq_false, not_true_eq_false, not_false_eq_true, app]
  rw [Bld_eq, fill_one (off := 0) rfl rfl (by simp), fill_nil]
  try simp (disch := first | assumption | omega | exact flat_at (by omega) | (apply At.mk; with_unfolding_all rfl)) only [↓go_eq, ↓ent_eq, Mv, NilC_at, Fld_at, add_mk, Nat.zero_add, Nat.add_zero, Add64, Sub64, Mul64, Quo64, Rem64, Neg64, Cvt64, CvtU8, CvtU16, CvtU32, CvtU64, AddU64, SubU64, MulU64, Shr64, Shr_u8, Shr_u16, Shr_u32, Shr_u64, And1, And31, Eql64, Neq64, Bin_lss, Bin_leq, Bin_gtr, Bin_geq, Bin_bool_eql, Bin_bool_neq, Bin_ptr_nil_eql, Bin_ptr_nil_neq, Not_dec, Un_not, Pick_t, Pick_f, Pick_pos, Pick_neg, Gd_tt, Gd_tf, Gd_ft, Gd_ff, Gd_pos_t, Gd_neg_t, Gd_pos_f, Gd_neg_f, Gd_undef, If_t, If_f, If_pos, If_neg, CallF_eq, Max_two, Min_two, Len_rd, Len_own, Ld_blkE, Idx_rdN, Idx_ownN, Idx_rdE, Idx_ownE, IdxAE, Idx_at0, Ext_atE, Len_at, Int.toNat_natCast, Int.toNat_zero, Int.toNat_one, List.length_map, List.length_append, List.length_cons, List.length_nil, List.length_take, List.length_set, List.length_replicate, Bool.not_true, Bool.not_false, decide_true, decide_false, BEq.rfl, bne_self_eq_false, not_true_eq_false, not_false_eq_true, app]
  refine New_blk fun h2 b2 f2 s2 => ?_
  have bq : Blk h2 h1.size [.slice (some ⟨h.size, 0, none⟩) (n + 1) (n + 1), Iv 0] := b2
  have hne : h1.size ≠ h.size := by have := hb.lt; omega
  have hl : h.size < h1.size := hb.lt
  have bl := hb.fr f2 (by simp)
  try simp (disch := first | assumption | omega | exact flat_at (by omega) | (apply At.mk; with_unfolding_all rfl)) only [↓go_eq, ↓ent_eq, Mv, NilC_at, Fld_at, add_mk, Nat.zero_add, Nat.add_zero, Add64, Sub64, Mul64, Quo64, Rem64, Neg64, Cvt64, CvtU8, CvtU16, CvtU32, CvtU64, AddU64, SubU64, MulU64, Shr64, Shr_u8, Shr_u16, Shr_u32, Shr_u64, And1, And31, Eql64, Neq64, Bin_lss, Bin_leq, Bin_gtr, Bin_geq, Bin_bool_eql, Bin_bool_neq, Bin_ptr_nil_eql, Bin_ptr_nil_neq, Not_dec, Un_not, Pick_t, Pick_f, Pick_pos, Pick_neg, Gd_tt, Gd_tf, Gd_ft, Gd_ff, Gd_pos_t, Gd_neg_t, Gd_pos_f, Gd_neg_f, Gd_undef, If_t, If_f, If_pos, If_neg, CallF_eq, Max_two, Min_two, Len_rd, Len_own, Ld_blkE, Idx_rdN, Idx_ownN, Idx_rdE, Idx_ownE, IdxAE, Idx_at0, Ext_atE, Len_at, Int.toNat_natCast, Int.toNat_zero, Int.toNat_one, List.length_map, List.length_append, List.length_cons, List.length_nil, List.length_take, List.length_set, List.length_replicate, Bool.not_true, Bool.not_false, decide_true, decide_false, BEq.rfl, bne_self_eq_false, not_true_eq_false, not_false_eq_true, app]
  refine Lp_fn (σ := Nat) (fun i => [Iv n, ptr h1.size, Iv ((n + 1 : Nat) : Int), Iv (i : Int)]) (fun i h' => i ≤ n + 1 ∧ QAt h' h1.size h.size n (ini i) 0 ∧ Fr [] h h') (fun i => n + 1 - i) 0 rfl (fun _ => rfl)
    ⟨by omega, ⟨bq, by rw [show ini 0 = fun _ => 0 by funext k; simp [ini]]; exact bl, hne⟩, hf.trans f2⟩ ?_
  rintro i h3 ⟨hi, q3, f3⟩ X hX
  have bq3 := q3.q
  have bl3 := q3.l
  have nw : ∀ {x y : Heap}, Fr [h.size] x y → Fr [] h x → Fr [] h y := fun a b => b.trans' a (by simp)
  by_cases c : (i : Int) < (n + 1 : Nat)
  · try simp (disch := first | assumption | omega | exact flat_at (by omega) | (apply At.mk; with_unfolding_all rfl)) only [↓go_eq, ↓ent_eq, Mv, NilC_at, Fld_at, add_mk, Nat.zero_add, Nat.add_zero, Add64, Sub64, Mul64, Quo64, Rem64, Neg64, Cvt64, CvtU8, CvtU16, CvtU32, CvtU64, AddU64, SubU64, MulU64, Shr64, Shr_u8, Shr_u16, Shr_u32, Shr_u64, And1, And31, Eql64, Neq64, Bin_lss, Bin_leq, Bin_gtr, Bin_geq, Bin_bool_eql, Bin_bool_neq, Bin_ptr_nil_eql, Bin_ptr_nil_neq, Not_dec, Un_not, Pick_t, Pick_f, Pick_pos, Pick_neg, Gd_tt, Gd_tf, Gd_ft, Gd_ff, Gd_pos_t, Gd_neg_t, Gd_pos_f, Gd_neg_f, Gd_undef, If_t, If_f, If_pos, If_neg, CallF_eq, Max_two, Min_two, Len_rd, Len_own, Ld_blkE, Idx_rdN, Idx_ownN, Idx_rdE, Idx_ownE, IdxAE, Idx_at0, Ext_atE, Len_at, Int.toNat_natCast, Int.toNat_zero, Int.toNat_one, List.length_map, List.length_append, List.length_cons, List.length_nil, List.length_take, List.length_set, List.length_replicate, Bool.not_true, Bool.not_false, decide_true, decide_false, BEq.rfl, bne_self_eq_false, not_true_eq_false, not_false_eq_true, app]
    refine St_blk bl3 (by rw [flat_len]; omega) rfl fun h4 b4 f4 => ?_
    rw [flat_set] at b4
    try simp (disch := first | assumption | omega | exact flat_at (by omega) | (apply At.mk; with_unfolding_all rfl)) only [↓go_eq, ↓ent_eq, Mv, NilC_at, Fld_at, add_mk, Nat.zero_add, Nat.add_zero, Add64, Sub64, Mul64, Quo64, Rem64, Neg64, Cvt64, CvtU8, CvtU16, CvtU32, CvtU64, AddU64, SubU64, MulU64, Shr64, Shr_u8, Shr_u16, Shr_u32, Shr_u64, And1, And31, Eql64, Neq64, Bin_lss, Bin_leq, Bin_gtr, Bin_geq, Bin_bool_eql, Bin_bool_neq, Bin_ptr_nil_eql, Bin_ptr_nil_neq, Not_dec, Un_not, Pick_t, Pick_f, Pick_pos, Pick_neg, Gd_tt, Gd_tf, Gd_ft, Gd_ff, Gd_pos_t, Gd_neg_t, Gd_pos_f, Gd_neg_f, Gd_undef, If_t, If_f, If_pos, If_neg, CallF_eq, Max_two, Min_two, Len_rd, Len_own, Ld_blkE, Idx_rdN, Idx_ownN, Idx_rdE, Idx_ownE, IdxAE, Idx_at0, Ext_atE, Len_at, Int.toNat_natCast, Int.toNat_zero, Int.toNat_one, List.length_map, List.length_append, List.length_cons, List.length_nil, List.length_take, List.length_set, List.length_replicate, Bool.not_true, Bool.not_false, decide_true, decide_false, BEq.rfl, bne_self_eq_false, not_true_eq_false, not_false_eq_true, app]
    refine St_blk b4 (by rw [flat_len]; omega) rfl fun h5 b5 f5 => ?_
    rw [flat_set, ini_step] at b5
    try simp (disch := first | assumption | omega | exact flat_at (by omega) | (apply At.mk; with_unfolding_all rfl)) only [↓go_eq, ↓ent_eq, Mv, NilC_at, Fld_at, add_mk, Nat.zero_add, Nat.add_zero, Add64, Sub64, Mul64, Quo64, Rem64, Neg64, Cvt64, CvtU8, CvtU16, CvtU32, CvtU64, AddU64, SubU64, MulU64, Shr64, Shr_u8, Shr_u16, Shr_u32, Shr_u64, And1, And31, Eql64, Neq64, Bin_lss, Bin_leq, Bin_gtr, Bin_geq, Bin_bool_eql, Bin_bool_neq, Bin_ptr_nil_eql, Bin_ptr_nil_neq, Not_dec, Un_not, Pick_t, Pick_f, Pick_pos, Pick_neg, Gd_tt, Gd_tf, Gd_ft, Gd_ff, Gd_pos_t, Gd_neg_t, Gd_pos_f, Gd_neg_f, Gd_undef, If_t, If_f, If_pos, If_neg, CallF_eq, Max_two, Min_two, Len_rd, Len_own, Ld_blkE, Idx_rdN, Idx_ownN, Idx_rdE, Idx_ownE, IdxAE, Idx_at0, Ext_atE, Len_at, Int.toNat_natCast, Int.toNat_zero, Int.toNat_one, List.length_map, List.length_append, List.length_cons, List.length_nil, List.length_take, List.length_set, List.length_replicate, Bool.not_true, Bool.not_false, decide_true, decide_false, BEq.rfl, bne_self_eq_false, not_true_eq_false, not_false_eq_true, app]
    exact hX (i + 1) h5 ⟨by omega, ⟨(bq3.fr f4 (by simpa using hne)).fr f5 (by simpa using hne), b5, hne⟩, nw f5 (nw f4 f3)⟩ (by omega)
  · obtain rfl : i = n + 1 := by omega
    try simp (disch := first | assumption | omega | exact flat_at (by omega) | (apply At.mk; with_unfolding_all rfl)) only [↓go_eq, ↓ent_eq, Mv, NilC_at, Fld_at, add_mk, Nat.zero_add, Nat.add_zero, Add64, Sub64, Mul64, Quo64, Rem64, Neg64, Cvt64, CvtU8, CvtU16, CvtU32, CvtU64, AddU64, SubU64, MulU64, Shr64, Shr_u8, Shr_u16, Shr_u32, Shr_u64, And1, And31, Eql64, Neq64, Bin_lss, Bin_leq, Bin_gtr, Bin_geq, Bin_bool_eql, Bin_bool_neq, Bin_ptr_nil_eql, Bin_ptr_nil_neq, Not_dec, Un_not, Pick_t, Pick_f, Pick_pos, Pick_neg, Gd_tt, Gd_tf, Gd_ft, Gd_ff, Gd_pos_t, Gd_neg_t, Gd_pos_f, Gd_neg_f, Gd_undef, If_t, If_f, If_pos, If_neg, CallF_eq, Max_two, Min_two, Len_rd, Len_own, Ld_blkE, Idx_rdN, Idx_ownN, Idx_rdE, Idx_ownE, IdxAE, Idx_at0, Ext_atE, Len_at, Int.toNat_natCast, Int.toNat_zero, Int.toNat_one, List.length_map, List.length_append, List.length_cons, List.length_nil, List.length_take, List.length_set, List.length_replicate, Bool.not_true, Bool.not_false, decide_true, decide_false, BEq.rfl, bne_self_eq_false, not_true_eq_false, not_false_eq_true, app]
    refine St_blk bl3 (by rw [flat_len]; omega) rfl fun h4 b4 f4 => ?_
    rw [Nat.zero_mul, flat_set] at b4
    try simp (disch := first | assumption | omega | exact flat_at (by omega) | (apply At.mk; with_unfolding_all rfl)) only [↓go_eq, ↓ent_eq, Mv, NilC_at, Fld_at, add_mk, Nat.zero_add, Nat.add_zero, Add64, Sub64, Mul64, Quo64, Rem64, Neg64, Cvt64, CvtU8, CvtU16, CvtU32, CvtU64, AddU64, SubU64, MulU64, Shr64, Shr_u8, Shr_u16, Shr_u32, Shr_u64, And1, And31, Eql64, Neq64, Bin_lss, Bin_leq, Bin_gtr, Bin_geq, Bin_bool_eql, Bin_bool_neq, Bin_ptr_nil_eql, Bin_ptr_nil_neq, Not_dec, Un_not, Pick_t, Pick_f, Pick_pos, Pick_neg, Gd_tt, Gd_tf, Gd_ft, Gd_ff, Gd_pos_t, Gd_neg_t, Gd_pos_f, Gd_neg_f, Gd_undef, If_t, If_f, If_pos, If_neg, CallF_eq, Max_two, Min_two, Len_rd, Len_own, Ld_blkE, Idx_rdN, Idx_ownN, Idx_rdE, Idx_ownE, IdxAE, Idx_at0, Ext_atE, Len_at, Int.toNat_natCast, Int.toNat_zero, Int.toNat_one, List.length_map, List.length_append, List.length_cons, List.length_nil, List.length_take, List.length_set, List.length_replicate, Bool.not_true, Bool.not_false, decide_true, decide_false, BEq.rfl, bne_self_eq_false, not_true_eq_false, not_false_eq_true, app]
    refine St_blk b4 (by rw [flat_len]; omega) rfl fun h5 b5 f5 => ?_
    rw [flat_set] at b5
    refine hk _ _ h5 ⟨⟨_, ⟨(bq3.fr f4 (by simpa using hne)).fr f5 (by simpa using hne), b5, hne⟩, new_path n, ?_⟩, ?_, by simp [mNew], ?_⟩ (nw f5 (nw f4 f3)) (by omega) (Nat.le_refl _)
    · intro x hx
      rw [upd_ne _ _ (by omega), upd_ne _ _ (by omega)]
      unfold ini
      rw [if_pos (by omega), if_neg (by omega), if_neg (by omega)]; rfl
    · exact List.nodup_range'
    · intro x; rw [mNew, List.mem_range'_1]; omega
theorem vmtf_Queue_Stamp.spec {g b n : Nat} {m : Qm} {v : Int} (hn : n ≤ 1000) {K : Ret} {h : Heap} (q : QS h g b n m) (hk : K (Iv (if 1 ≤ v ∧ v ≤ n then m.st v.toNat else 0)) h) : CallH Try.prog vmtf_Queue_Stamp.id #[ptr g, Iv v] K h := by
  refine vmtf_Queue_Stamp.ok ?_
  obtain ⟨f, q1, hp, hst⟩ := q.ex
  have bq := q1.q
  have bl := q1.l
  simp only [vmtf_Queue_Stamp.pt]
  try simp (disch := first | assumption | omega | exact flat_at (by omega) | (apply At.mk; with_unfolding_all rfl)) only [↓go_eq, ↓ent_eq, Mv, NilC_at, Fld_at, add_mk, Nat.zero_add, Nat.add_zero, Add64, Sub64, Mul64, Quo64, Rem64, Neg64, Cvt64, CvtU8, CvtU16, CvtU32, CvtU64, AddU64, SubU64, MulU64, Shr64, Shr_u8, Shr_u16, Shr_u32, Shr_u64, And1, And31, Eql64, Neq64, Bin_lss, Bin_leq, Bin_gtr, Bin_geq, Bin_bool_eql, Bin_bool_neq, Bin_ptr_nil_eql, Bin_ptr_nil_neq, Not_dec, Un_not, Pick_t, Pick_f, Pick_pos, Pick_neg, Gd_tt, Gd_tf, Gd_ft, Gd_ff, Gd_pos_t, Gd_neg_t, Gd_pos_f, Gd_neg_f, Gd_undef, If_t, If_f, If_pos, If_neg, CallF_eq, Max_two, Min_two, Len_rd, Len_own, Ld_blkE, Idx_rdN, Idx_ownN, Idx_rdE, Idx_ownE, IdxAE, Idx_at0, Ext_atE, Len_at, Int.toNat_natCast, Int.toNat_zero, Int.toNat_one, List.length_map, List.length_append, List.length_cons, List.length_nil, List.length_take, List.length_set, List.length_replicate, Bool.not_true, Bool.not_false, decide_true, decide_false, BEq.rfl, bne_self_eq_false, not_true_eq_false, not_false_eq_true, app]
  refine vmtf_Queue_right.spec hn q1 ?_
  by_cases c : 1 ≤ v ∧ v ≤ n
  · obtain ⟨w, rfl⟩ : ∃ w : Nat, v = w := ⟨v.toNat, by omega⟩
    rw [if_pos c, Int.toNat_natCast] at hk
    have := hst w (by omega)
    rw [Nat.mul_comm] at this
    rw [decide_eq_true c]
    try simp (disch := first | assumption | omega | exact flat_at (by omega) | (apply At.mk; with_unfolding_all rfl)) only [↓go_eq, ↓ent_eq, Mv, NilC_at, Fld_at, add_mk, Nat.zero_add, Nat.add_zero, Add64, Sub64, Mul64, Quo64, Rem64, Neg64, Cvt64, CvtU8, CvtU16, CvtU32, CvtU64, AddU64, SubU64, MulU64, Shr64, Shr_u8, Shr_u16, Shr_u32, Shr_u64, And1, And31, Eql64, Neq64, Bin_lss, Bin_leq, Bin_gtr, Bin_geq, Bin_bool_eql, Bin_bool_neq, Bin_ptr_nil_eql, Bin_ptr_nil_neq, Not_dec, Un_not, Pick_t, Pick_f, Pick_pos, Pick_neg, Gd_tt, Gd_tf, Gd_ft, Gd_ff, Gd_pos_t, Gd_neg_t, Gd_pos_f, Gd_neg_f, Gd_undef, If_t, If_f, If_pos, If_neg, CallF_eq, Max_two, Min_two, Len_rd, Len_own, Ld_blkE, Idx_rdN, Idx_ownN, Idx_rdE, Idx_ownE, IdxAE, Idx_at0, Ext_atE, Len_at, Int.toNat_natCast, Int.toNat_zero, Int.toNat_one, List.length_map, List.length_append, List.length_cons, List.length_nil, List.length_take, List.length_set, List.length_replicate, Bool.not_true, Bool.not_false, decide_true, decide_false, BEq.rfl, bne_self_eq_false, not_true_eq_false, not_false_eq_true, app]
    rw [this]; exact hk
  · rw [if_neg c] at hk
    rw [decide_eq_false c]
    try simp (disch := first | assumption | omega | exact flat_at (by omega) | (apply At.mk; with_unfolding_all rfl)) only [↓go_eq, ↓ent_eq, Mv, NilC_at, Fld_at, add_mk, Nat.zero_add, Nat.add_zero, Add64, Sub64, Mul64, Quo64, Rem64, Neg64, Cvt64, CvtU8, CvtU16, CvtU32, CvtU64, AddU64, SubU64, MulU64, Shr64, Shr_u8, Shr_u16, Shr_u32, Shr_u64, And1, And31, Eql64, Neq64, Bin_lss, Bin_leq, Bin_gtr, Bin_geq, Bin_bool_eql, Bin_bool_neq, Bin_ptr_nil_eql, Bin_ptr_nil_neq, Not_dec, Un_not, Pick_t, Pick_f, Pick_pos, Pick_neg, Gd_tt, Gd_tf, Gd_ft, Gd_ff, Gd_pos_t, Gd_neg_t, Gd_pos_f, Gd_neg_f, Gd_undef, If_t, If_f, If_pos, If_neg, CallF_eq, Max_two, Min_two, Len_rd, Len_own, Ld_blkE, Idx_rdN, Idx_ownN, Idx_rdE, Idx_ownE, IdxAE, Idx_at0, Ext_atE, Len_at, Int.toNat_natCast, Int.toNat_zero, Int.toNat_one, List.length_map, List.length_append, List.length_cons, List.length_nil, List.length_take, List.length_set, List.length_replicate, Bool.not_true, Bool.not_false, decide_true, decide_false, BEq.rfl, bne_self_eq_false, not_true_eq_false, not_false_eq_true, app]
    exact hk
theorem vmtf_Queue_Stamp.q {g b n : Nat} {m : Qm} {v : Int} (hn : n ≤ 1000) {K : Ret} {h : Heap} (q : QS h g b n m) (hk : K (Iv (if 1 ≤ v ∧ v ≤ n then m.st v.toNat else 0)) h) : QCall Try.prog vmtf_Queue_Stamp.id [ptr g, Iv v] K h :=
  QCall_mk (vmtf_Queue_Stamp.spec hn q ⟨rfl, rfl⟩) hk
theorem vmtf_Queue_Front.spec {g b n : Nat} {m : Qm} {K : Ret} {h : Heap} (q : QS h g b n m) (hk : K (.tuple #[Iv (m.row.headD 0 : Nat), .bool (decide (0 < n))]) h) : CallH Try.prog vmtf_Queue_Front.id #[ptr g] K h := by
  refine vmtf_Queue_Front.ok ?_
  obtain ⟨f, q1, hp, hst⟩ := q.ex
  have bq := q1.q
  have bl := q1.l
  have e : f (0 * 3 + 1) = (m.row.headD 0 : Nat) := by
    cases hr : m.row with
    | nil => rw [hr] at hp; exact hp.1.1
    | cons a l => rw [hr] at hp; exact hp.1.1
  have e2 : decide (f (0 * 3 + 1) ≠ 0) = decide (0 < n) := by
    rw [e, decide_eq_decide]
    cases hr : m.row with
    | nil =>
      have : ¬ 1 ≤ n := fun h1 => by have := (q.mem 1).2 ⟨Nat.le_refl _, h1⟩; rw [hr] at this; cases this
      simp; omega
    | cons a l =>
      have := (q.mem a).1 (by rw [hr]; simp)
      simp; omega
  simp only [vmtf_Queue_Front.pt]
  try simp (disch := first | assumption | omega | exact flat_at (by omega) | (apply At.mk; with_unfolding_all rfl)) only [↓go_eq, ↓ent_eq, Mv, NilC_at, Fld_at, add_mk, Nat.zero_add, Nat.add_zero, Add64, Sub64, Mul64, Quo64, Rem64, Neg64, Cvt64, CvtU8, CvtU16, CvtU32, CvtU64, AddU64, SubU64, MulU64, Shr64, Shr_u8, Shr_u16, Shr_u32, Shr_u64, And1, And31, Eql64, Neq64, Bin_lss, Bin_leq, Bin_gtr, Bin_geq, Bin_bool_eql, Bin_bool_neq, Bin_ptr_nil_eql, Bin_ptr_nil_neq, Not_dec, Un_not, Pick_t, Pick_f, Pick_pos, Pick_neg, Gd_tt, Gd_tf, Gd_ft, Gd_ff, Gd_pos_t, Gd_neg_t, Gd_pos_f, Gd_neg_f, Gd_undef, If_t, If_f, If_pos, If_neg, CallF_eq, Max_two, Min_two, Len_rd, Len_own, Ld_blkE, Idx_rdN, Idx_ownN, Idx_rdE, Idx_ownE, IdxAE, Idx_at0, Ext_atE, Len_at, Int.toNat_natCast, Int.toNat_zero, Int.toNat_one, List.length_map, List.length_append, List.length_cons, List.length_nil, List.length_take, List.length_set, List.length_replicate, Bool.not_true, Bool.not_false, decide_true, decide_false, BEq.rfl, bne_self_eq_false, not_true_eq_false, not_false_eq_true, app]
  rw [e2, e]; exact hk
theorem vmtf_Queue_All.spec {g : Nat} {K : Ret} {h : Heap} (hk : ∀ c h', Blk h' c [ptr g] → Fr [] h h' → h.size ≤ c → K (.func (.func vmtf_Queue_All_1.id) #[] #[ptr c]) h') : CallH Try.prog vmtf_Queue_All.id #[ptr g] K h := by
  refine vmtf_Queue_All.ok ?_
  simp only [vmtf_Queue_All.pt]
  try simp (disch := first | assumption | omega | exact flat_at (by omega) | (apply At.mk; with_unfolding_all rfl)) only [↓go_eq, ↓ent_eq, Mv, NilC_at, Fld_at, add_mk, Nat.zero_add, Nat.add_zero, Add64, Sub64, Mul64, Quo64, Rem64, Neg64, Cvt64, CvtU8, CvtU16, CvtU32, CvtU64, AddU64, SubU64, MulU64, Shr64, Shr_u8, Shr_u16, Shr_u32, Shr_u64, And1, And31, Eql64, Neq64, Bin_lss, Bin_leq, Bin_gtr, Bin_geq, Bin_bool_eql, Bin_bool_neq, Bin_ptr_nil_eql, Bin_ptr_nil_neq, Not_dec, Un_not, Pick_t, Pick_f, Pick_pos, Pick_neg, Gd_tt, Gd_tf, Gd_ft, Gd_ff, Gd_pos_t, Gd_neg_t, Gd_pos_f, Gd_neg_f, Gd_undef, If_t, If_f, If_pos, If_neg, CallF_eq, Max_two, Min_two, Len_rd, Len_own, Ld_blkE, Idx_rdN, Idx_ownN, Idx_rdE, Idx_ownE, IdxAE, Idx_at0, Ext_atE, Len_at, Int.toNat_natCast, Int.toNat_zero, Int.toNat_one, List.length_map, List.length_append, List.length_cons, List.length_nil, List.length_take, List.length_set, List.length_replicate, Bool.not_true, Bool.not_false, decide_true, decide_false, BEq.rfl, bne_self_eq_false, not_true_eq_false, not_false_eq_true, app]
  exact New_blk fun h1 b1 f1 _ => hk _ h1 b1 f1 (Nat.le_refl _)
/-- The row's function hands over its variables from the front on. -/
theorem vmtf_All_seq {g b n c : Nat} {m : Qm} : SeqC Try.prog vmtf_Queue_All_1.id #[ptr c] (m.row.map fun x => Iv (x : Nat)) (fun h => Blk h c [ptr g] ∧ QS h g b n m) := by
  intro y h I E h0 hA hy
  show CallH Try.prog vmtf_Queue_All_1.id #[y, ptr c] _ h
  refine vmtf_Queue_All_1.ok ?_
  obtain ⟨bc, q⟩ := hA 0 h h0
  obtain ⟨f, q1, hp, hst⟩ := q.ex
  have bq := q1.q
  have bl := q1.l
  have nx : ∀ i, i < (m.row ++ [0]).length → ∀ (f : Nat → Int), Path f (0 :: m.row ++ [0]) → f (3 * (0 :: m.row ++ [0]).getD i 0 + 1) = ((m.row ++ [0]).getD i 0 : Nat) := by
    have : ∀ (l : List Nat) (a : Nat) (i : Nat) (f : Nat → Int), i < l.length → Path f (a :: l) → f (3 * (a :: l).getD i 0 + 1) = (l.getD i 0 : Nat) := by
      intro l
      induction l with
      | nil => intro a i f hi; simp at hi
      | cons x l ih =>
        intro a i f hi hp
        cases i with
        | zero => exact hp.1.1
        | succ i => exact ih x i f (by simpa using hi) hp.2
    intro i hi f hp
    exact this (m.row ++ [0]) 0 i f hi hp
  simp only [vmtf_Queue_All_1.pt]
  try simp (disch := first | assumption | omega | exact flat_at (by omega) | (apply At.mk; with_unfolding_all rfl)) only [↓go_eq, ↓ent_eq, Mv, NilC_at, Fld_at, add_mk, Nat.zero_add, Nat.add_zero, Add64, Sub64, Mul64, Quo64, Rem64, Neg64, Cvt64, CvtU8, CvtU16, CvtU32, CvtU64, AddU64, SubU64, MulU64, Shr64, Shr_u8, Shr_u16, Shr_u32, Shr_u64, And1, And31, Eql64, Neq64, Bin_lss, Bin_leq, Bin_gtr, Bin_geq, Bin_bool_eql, Bin_bool_neq, Bin_ptr_nil_eql, Bin_ptr_nil_neq, Not_dec, Un_not, Pick_t, Pick_f, Pick_pos, Pick_neg, Gd_tt, Gd_tf, Gd_ft, Gd_ff, Gd_pos_t, Gd_neg_t, Gd_pos_f, Gd_neg_f, Gd_undef, If_t, If_f, If_pos, If_neg, CallF_eq, Max_two, Min_two, Len_rd, Len_own, Ld_blkE, Idx_rdN, Idx_ownN, Idx_rdE, Idx_ownE, IdxAE, Idx_at0, Ext_atE, Len_at, Int.toNat_natCast, Int.toNat_zero, Int.toNat_one, List.length_map, List.length_append, List.length_cons, List.length_nil, List.length_take, List.length_set, List.length_replicate, Bool.not_true, Bool.not_false, decide_true, decide_false, BEq.rfl, bne_self_eq_false, not_true_eq_false, not_false_eq_true, app]
  have e0 := nx 0 (by simp) f hp
  simp only [List.cons_append, List.getD_cons_zero] at e0
  rw [show 0 * 3 + 1 = 3 * 0 + 1 by rfl, e0]
  refine Lp_fn (σ := Nat) (fun i => [y, ptr c, Iv ((m.row ++ [0]).getD i 0 : Nat)]) (fun i h' => i ≤ m.row.length ∧ I i h') (fun i => m.row.length + 1 - i) 0 rfl (fun _ => rfl) ⟨Nat.zero_le _, h0⟩ ?_
  rintro i h1 ⟨hi, hI⟩ X hX
  rcases Nat.lt_or_ge i m.row.length with hl | hl
  · have hg : m.row[i]? = some m.row[i] := List.getElem?_eq_getElem _
    have hd : (m.row ++ [0]).getD i 0 = m.row[i] := by rw [List.getD_eq_getElem?_getD, List.getElem?_append_left hl, hg]; rfl
    have hb := (q.mem m.row[i]).1 (List.getElem_mem _)
    rw [hd]
    try simp (disch := first | assumption | omega | exact flat_at (by omega) | (apply At.mk; with_unfolding_all rfl)) only [↓go_eq, ↓ent_eq, Mv, NilC_at, Fld_at, add_mk, Nat.zero_add, Nat.add_zero, Add64, Sub64, Mul64, Quo64, Rem64, Neg64, Cvt64, CvtU8, CvtU16, CvtU32, CvtU64, AddU64, SubU64, MulU64, Shr64, Shr_u8, Shr_u16, Shr_u32, Shr_u64, And1, And31, Eql64, Neq64, Bin_lss, Bin_leq, Bin_gtr, Bin_geq, Bin_bool_eql, Bin_bool_neq, Bin_ptr_nil_eql, Bin_ptr_nil_neq, Not_dec, Un_not, Pick_t, Pick_f, Pick_pos, Pick_neg, Gd_tt, Gd_tf, Gd_ft, Gd_ff, Gd_pos_t, Gd_neg_t, Gd_pos_f, Gd_neg_f, Gd_undef, If_t, If_f, If_pos, If_neg, CallF_eq, Max_two, Min_two, Len_rd, Len_own, Ld_blkE, Idx_rdN, Idx_ownN, Idx_rdE, Idx_ownE, IdxAE, Idx_at0, Ext_atE, Len_at, Int.toNat_natCast, Int.toNat_zero, Int.toNat_one, List.length_map, List.length_append, List.length_cons, List.length_nil, List.length_take, List.length_set, List.length_replicate, Bool.not_true, Bool.not_false, decide_true, decide_false, BEq.rfl, bne_self_eq_false, not_true_eq_false, not_false_eq_true, app]
    refine (hy i (Iv (m.row[i] : Nat)) h1 (by rw [List.getElem?_map, hg]; rfl) hI).mono ?_
    rintro v h2 (⟨rfl, hI2⟩ | ⟨rfl, hE⟩)
    · try simp (disch := first | assumption | omega | exact flat_at (by omega) | (apply At.mk; with_unfolding_all rfl)) only [↓go_eq, ↓ent_eq, Mv, NilC_at, Fld_at, add_mk, Nat.zero_add, Nat.add_zero, Add64, Sub64, Mul64, Quo64, Rem64, Neg64, Cvt64, CvtU8, CvtU16, CvtU32, CvtU64, AddU64, SubU64, MulU64, Shr64, Shr_u8, Shr_u16, Shr_u32, Shr_u64, And1, And31, Eql64, Neq64, Bin_lss, Bin_leq, Bin_gtr, Bin_geq, Bin_bool_eql, Bin_bool_neq, Bin_ptr_nil_eql, Bin_ptr_nil_neq, Not_dec, Un_not, Pick_t, Pick_f, Pick_pos, Pick_neg, Gd_tt, Gd_tf, Gd_ft, Gd_ff, Gd_pos_t, Gd_neg_t, Gd_pos_f, Gd_neg_f, Gd_undef, If_t, If_f, If_pos, If_neg, CallF_eq, Max_two, Min_two, Len_rd, Len_own, Ld_blkE, Idx_rdN, Idx_ownN, Idx_rdE, Idx_ownE, IdxAE, Idx_at0, Ext_atE, Len_at, Int.toNat_natCast, Int.toNat_zero, Int.toNat_one, List.length_map, List.length_append, List.length_cons, List.length_nil, List.length_take, List.length_set, List.length_replicate, Bool.not_true, Bool.not_false, decide_true, decide_false, BEq.rfl, bne_self_eq_false, not_true_eq_false, not_false_eq_true, app]
      obtain ⟨bc2, qq2⟩ := hA _ _ hI2
      obtain ⟨f2, q2, hp2, _⟩ := qq2.ex
      have bq2 := q2.q
      have bl2 := q2.l
      have e1 := nx (i + 1) (by simp; omega) f2 hp2
      have hd2 : (0 :: m.row ++ [0]).getD (i + 1) 0 = m.row[i] := by rw [List.cons_append, List.getD_cons_succ]; exact hd
      rw [hd2, Nat.mul_comm] at e1
      try simp (disch := first | assumption | omega | exact flat_at (by omega) | (apply At.mk; with_unfolding_all rfl)) only [↓go_eq, ↓ent_eq, Mv, NilC_at, Fld_at, add_mk, Nat.zero_add, Nat.add_zero, Add64, Sub64, Mul64, Quo64, Rem64, Neg64, Cvt64, CvtU8, CvtU16, CvtU32, CvtU64, AddU64, SubU64, MulU64, Shr64, Shr_u8, Shr_u16, Shr_u32, Shr_u64, And1, And31, Eql64, Neq64, Bin_lss, Bin_leq, Bin_gtr, Bin_geq, Bin_bool_eql, Bin_bool_neq, Bin_ptr_nil_eql, Bin_ptr_nil_neq, Not_dec, Un_not, Pick_t, Pick_f, Pick_pos, Pick_neg, Gd_tt, Gd_tf, Gd_ft, Gd_ff, Gd_pos_t, Gd_neg_t, Gd_pos_f, Gd_neg_f, Gd_undef, If_t, If_f, If_pos, If_neg, CallF_eq, Max_two, Min_two, Len_rd, Len_own, Ld_blkE, Idx_rdN, Idx_ownN, Idx_rdE, Idx_ownE, IdxAE, Idx_at0, Ext_atE, Len_at, Int.toNat_natCast, Int.toNat_zero, Int.toNat_one, List.length_map, List.length_append, List.length_cons, List.length_nil, List.length_take, List.length_set, List.length_replicate, Bool.not_true, Bool.not_false, decide_true, decide_false, BEq.rfl, bne_self_eq_false, not_true_eq_false, not_false_eq_true, app]
      rw [e1]
      exact hX (i + 1) h2 ⟨by omega, hI2⟩ (by omega)
    · try simp (disch := first | assumption | omega | exact flat_at (by omega) | (apply At.mk; with_unfolding_all rfl)) only [↓go_eq, ↓ent_eq, Mv, NilC_at, Fld_at, add_mk, Nat.zero_add, Nat.add_zero, Add64, Sub64, Mul64, Quo64, Rem64, Neg64, Cvt64, CvtU8, CvtU16, CvtU32, CvtU64, AddU64, SubU64, MulU64, Shr64, Shr_u8, Shr_u16, Shr_u32, Shr_u64, And1, And31, Eql64, Neq64, Bin_lss, Bin_leq, Bin_gtr, Bin_geq, Bin_bool_eql, Bin_bool_neq, Bin_ptr_nil_eql, Bin_ptr_nil_neq, Not_dec, Un_not, Pick_t, Pick_f, Pick_pos, Pick_neg, Gd_tt, Gd_tf, Gd_ft, Gd_ff, Gd_pos_t, Gd_neg_t, Gd_pos_f, Gd_neg_f, Gd_undef, If_t, If_f, If_pos, If_neg, CallF_eq, Max_two, Min_two, Len_rd, Len_own, Ld_blkE, Idx_rdN, Idx_ownN, Idx_rdE, Idx_ownE, IdxAE, Idx_at0, Ext_atE, Len_at, Int.toNat_natCast, Int.toNat_zero, Int.toNat_one, List.length_map, List.length_append, List.length_cons, List.length_nil, List.length_take, List.length_set, List.length_replicate, Bool.not_true, Bool.not_false, decide_true, decide_false, BEq.rfl, bne_self_eq_false, not_true_eq_false, not_false_eq_true, app]
      exact .inr hE
  · have : i = m.row.length := by omega
    subst this
    have hd : (m.row ++ [0]).getD m.row.length 0 = 0 := by rw [List.getD_eq_getElem?_getD, List.getElem?_append_right (Nat.le_refl _)]; simp
    rw [hd]
    try simp (disch := first | assumption | omega | exact flat_at (by omega) | (apply At.mk; with_unfolding_all rfl)) only [↓go_eq, ↓ent_eq, Mv, NilC_at, Fld_at, add_mk, Nat.zero_add, Nat.add_zero, Add64, Sub64, Mul64, Quo64, Rem64, Neg64, Cvt64, CvtU8, CvtU16, CvtU32, CvtU64, AddU64, SubU64, MulU64, Shr64, Shr_u8, Shr_u16, Shr_u32, Shr_u64, And1, And31, Eql64, Neq64, Bin_lss, Bin_leq, Bin_gtr, Bin_geq, Bin_bool_eql, Bin_bool_neq, Bin_ptr_nil_eql, Bin_ptr_nil_neq, Not_dec, Un_not, Pick_t, Pick_f, Pick_pos, Pick_neg, Gd_tt, Gd_tf, Gd_ft, Gd_ff, Gd_pos_t, Gd_neg_t, Gd_pos_f, Gd_neg_f, Gd_undef, If_t, If_f, If_pos, If_neg, CallF_eq, Max_two, Min_two, Len_rd, Len_own, Ld_blkE, Idx_rdN, Idx_ownN, Idx_rdE, Idx_ownE, IdxAE, Idx_at0, Ext_atE, Len_at, Int.toNat_natCast, Int.toNat_zero, Int.toNat_one, List.length_map, List.length_append, List.length_cons, List.length_nil, List.length_take, List.length_set, List.length_replicate, Bool.not_true, Bool.not_false, decide_true, decide_false, BEq.rfl, bne_self_eq_false, not_true_eq_false, not_false_eq_true, app]
    exact .inl hI
end Go.Proofs.Ytcmpdfjojeblmaa
