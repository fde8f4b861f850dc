/- A walk's steps, walked. Conditions: those typed ahead of each theorem. -/
import Derived.Test.YtonngdjfnnibaaaWt
import Derived.Test.YtonngdjfnnibaaaLo19
namespace Go.Proofs.Ytonngdjfnnibaaa
open Go.Pt
set_option linter.unusedVariables false
set_option linter.unusedSimpArgs false
section
variable {K : Ret} {h : Heap} {b : Nat}
theorem LdA_three {x y z : Value} (hb : Blk h b [x, y, z]) : LdA 3 (.pointer (some ⟨b, 0, none⟩)) K h = K (.agg #[x, y, z]) h := by
  rw [LdA_at, loads_blk hb 3 0 #[] (by simp)]; rfl
theorem StA_three {x y z x' y' z' : Value} (hb : Blk h b [x, y, z]) (hx : isCell x' = true) (hy : isCell y' = true) (hz : isCell z' = true) (hk : ∀ h', Blk h' b [x', y', z'] → Fr [b] h h' → K undef h') : StA 3 (.pointer (some ⟨b, 0, none⟩)) (.agg #[x', y', z']) K h := by
  rw [StA_at]
  refine ⟨rfl, ?_⟩
  obtain ⟨h', e, b', f⟩ := stores_blk (o := 0) [x', y', z'] h [x, y, z] 0 hb (by simp) (by intro v hv; simp at hv; rcases hv with rfl | rfl | rfl <;> assumption)
  have e' : stores h ⟨b, 0, none⟩ 0 (#[x', y', z'] : Array Value).toList = some h' := e
  rw [e']
  exact hk h' (by simpa using b') f
end
/-! ### The stream as a thing -/
theorem StrAt.one {h h' : Heap} {g l : Nat} {s : Str} {F : List Nat} (hs : StrAt h g s F) (f : One l h h') : StrAt h' g s F := by
  obtain ⟨wv, wb, h1, h2, rfl, h3⟩ := hs
  exact ⟨wv, wb, h1.one f, h2.one f, rfl, h3⟩
def rStr (g : Nat) (s : Str) (F : List Nat) : Res := ⟨fun h => StrAt h g s F, F, fun o f hS => o.fr f hS, fun o => o.lt, fun o f => o.one f⟩
theorem Str.below_d (s : Str) {n : Int} (hn : 1 ≤ n) : (s.below n).2.d = s.d + 1 := by
  unfold Str.below; rw [if_neg (by omega)]; exact s.next_d
theorem Str.below_d' (s : Str) (n : Int) : s.d ≤ (s.below n).2.d ∧ (s.below n).2.d ≤ s.d + 1 := by
  unfold Str.below; split
  · exact ⟨Nat.le_refl _, Nat.le_succ _⟩
  · rw [s.next_d]; exact ⟨Nat.le_succ _, Nat.le_refl _⟩
theorem Str.below_lt (s : Str) {n : Int} (hn : 1 ≤ n) : 0 ≤ (s.below n).1 ∧ (s.below n).1 < n := by
  unfold Str.below; rw [if_neg (by omega)]
  exact ⟨Int.emod_nonneg _ (by omega), Int.emod_lt_of_pos _ (by omega)⟩
/-! ### Which place is taken, plain -/
def bestI (b : List Int) : Nat → Nat
  | 0 => 0
  | i + 1 => if b.getD i 0 < b.getD (bestI b i) 0 then i else bestI b i
theorem bestI_lt {b : List Int} (hb : b ≠ []) : ∀ k, k ≤ b.length → bestI b k < b.length
  | 0, _ => List.length_pos_iff.2 hb
  | k + 1, hk => by
    unfold bestI; split
    · omega
    · exact bestI_lt hb k (by omega)
def noisyT (b : List Int) (noise : Int) (s : Str) : Int × Str :=
  if 0 < b.getD (bestI b b.length) 0 then (if (s.below 1000).1 < noise then (s.below 1000).2.below b.length else (bestI b b.length, (s.below 1000).2)) else (bestI b b.length, s)
def pickT (kind base noise : Int) (b : List Int) (s : Str) : Int × Str := if kind = 2 then noisyT b noise s else (pickOf kind base b s.next.1, s.next.2)
theorem pick_range {w : Int → Int} : ∀ (ks : List Int) (r : Int) (i : Nat), r < (ks.map w).sum → 0 ≤ r → (i : Int) ≤ pick w ks r i ∧ pick w ks r i < i + ks.length
  | [], r, i, h, h0 => by simp at h; omega
  | k :: ks, r, i, h, h0 => by
    unfold pick
    split
    · simp only [List.length_cons]; omega
    · have := pick_range (w := w) ks (r - w k) (i + 1) (by rw [List.map_cons, List.sum_cons] at h; omega) (by omega)
      simp only [List.length_cons]; omega
/-- A way that may be. -/
def WOk (kind base noise : Int) : Prop := (Fits kind base ∧ noise = 0) ∨ (kind = 2 ∧ base = 0 ∧ 0 ≤ noise ∧ noise ≤ 1000)
theorem WOk.fits {kind base noise : Int} (h : WOk kind base noise) (hk : kind ≠ 2) : Fits kind base := by
  rcases h with ⟨h, _⟩ | ⟨h, _⟩
  · exact h
  · exact absurd h hk
theorem pickT_range {kind base noise : Int} {b : List Int} {s : Str} (hW : WOk kind base noise) (hb : b ≠ []) : 0 ≤ (pickT kind base noise b s).1 ∧ (pickT kind base noise b s).1 < b.length := by
  have hp : 0 < b.length := List.length_pos_iff.2 hb
  have hl := bestI_lt hb b.length (Nat.le_refl _)
  unfold pickT
  split
  · unfold noisyT
    split
    · split
      · exact Str.below_lt _ (by omega)
      · simp only; omega
    · simp only; omega
  · rename_i hk
    have hf := hW.fits hk
    have hbd := tot_bd hf b
    have r0 := Int.emod_nonneg (s.next.1.toNat : Int) (show tot kind base b ≠ 0 by omega)
    have r1 := Int.emod_lt_of_pos (s.next.1.toNat : Int) (show 0 < tot kind base b by omega)
    have := pick_range (w := wk kind base) b _ 0 r1 r0
    show 0 ≤ pick (wk kind base) b _ 0 ∧ pick (wk kind base) b _ 0 < b.length
    omega
theorem noisyT_d (b : List Int) (noise : Int) (s : Str) : s.d ≤ (noisyT b noise s).2.d ∧ (noisyT b noise s).2.d ≤ s.d + 2 ∧ (noisyT b noise s).2.ws = s.ws := by
  have h1 := s.below_d' 1000
  have h2 := (s.below 1000).2.below_d' b.length
  unfold noisyT
  split
  · split
    · rw [Str.below_ws, Str.below_ws]; exact ⟨by omega, by omega, rfl⟩
    · simp only; rw [Str.below_ws]; exact ⟨by omega, by omega, rfl⟩
  · exact ⟨Nat.le_refl _, by simp only; omega, rfl⟩
theorem pickT_d (kind base noise : Int) (b : List Int) (s : Str) : s.d ≤ (pickT kind base noise b s).2.d ∧ (pickT kind base noise b s).2.d ≤ s.d + 2 ∧ (pickT kind base noise b s).2.ws = s.ws := by
  unfold pickT
  split
  · exact noisyT_d _ _ _
  · simp only; rw [Str.next_d, Str.next_ws]; exact ⟨by omega, by omega, rfl⟩
/-- What a clause's variables break. -/
def brs (a : List Bool) (F : List (List Int)) (c : List Int) : List Int := c.map fun l => brT a F l.natAbs
def stepT (kind base noise : Int) (a : List Bool) (F : List (List Int)) (row : List Nat) (s : Str) : Nat × Str :=
  if row.length = 0 then (0, s) else
  if F.getD (row.getD (s.below row.length).1.toNat 0) [] = [] then (0, (s.below row.length).2) else
  ((((F.getD (row.getD (s.below row.length).1.toNat 0) []).getD (pickT kind base noise (brs a F (F.getD (row.getD (s.below row.length).1.toNat 0) [])) (s.below row.length).2).1.toNat 0).natAbs), (pickT kind base noise (brs a F (F.getD (row.getD (s.below row.length).1.toNat 0) [])) (s.below row.length).2).2)
theorem stepT_d (kind base noise : Int) (a : List Bool) (F : List (List Int)) (row : List Nat) (s : Str) : s.d ≤ (stepT kind base noise a F row s).2.d ∧ (stepT kind base noise a F row s).2.d ≤ s.d + 3 ∧ (stepT kind base noise a F row s).2.ws = s.ws ∧ (row.length ≠ 0 → s.d + 1 ≤ (stepT kind base noise a F row s).2.d) := by
  unfold stepT
  split
  · rename_i h; exact ⟨Nat.le_refl _, by simp only; omega, rfl, fun q => absurd h q⟩
  · rename_i h
    have h1 := s.below_d (n := row.length) (by omega)
    split
    · simp only; rw [Str.below_ws]; exact ⟨by omega, by omega, rfl, fun _ => by omega⟩
    · obtain ⟨p1, p2, p3⟩ := pickT_d kind base noise (brs a F (F.getD (row.getD (s.below row.length).1.toNat 0) [])) (s.below row.length).2
      simp only; rw [p3, Str.below_ws]; exact ⟨by omega, by omega, rfl, fun _ => by omega⟩
/-! ### The walk of the code -/
section
variable {N M : Nat} {h h' : Heap} {R : Nat → Res} {o sb n : Nat} {m : LMod} {Q : Ret} {F : List (List Int)} {w : W}
theorem walk_breaks.spec {c : List Int} {cv : Value} (t : St4 N h M R o sb n F w m) (hc : ClOk n c) (hl : c.length ≤ 1000000) (rc : Rd h cv (c.map Iv)) (hk : ∀ v bs h', Own h' v ((brs w.a F c).map Iv) bs → (∀ b ∈ bs, h.size ≤ b) → Fr [] h h' → Q v h') : CallH Try.prog walk_breaks.id #[ptr sb, cv] Q h := by
  refine walk_breaks.ok ?_
  simp only [walk_breaks.pt]
  have nb := t.s.nb
  rw [go_eq, Len_rd rc, List.length_map]
  refine Lp_fn (σ := Nat × Value × List Nat) (fun x => [ptr sb, x.2.1, cv, Iv (c.length : Nat), Iv (x.1 : Nat)]) (fun x h' => x.1 ≤ c.length ∧ Own h' x.2.1 ((brs w.a F (c.take x.1)).map Iv) x.2.2 ∧ (∀ b ∈ x.2.2, h.size ≤ b) ∧ Fr [] h h') (fun x => c.length - x.1) (0, nilS, []) rfl (fun _ => rfl) ⟨Nat.zero_le _, Own.nil h, by simp, Fr.refl _ _⟩ ?_
  rintro ⟨i, v, bs⟩ h1 ⟨hi, ow, hb, f1⟩ X hX
  simp only at hi ow hb
  have rc1 := rc.fr f1
  have t1 := t.fr f1
  by_cases c1 : (i : Int) < (c.length : Nat)
  · have hg : c[i]? = some (c.getD i 0) := by rw [List.getD_eq_getElem?_getD, List.getElem?_eq_getElem (by omega)]; rfl
    have ax : At (c.map Iv) i (Iv (c.getD i 0)) := At.map (f := Iv) hg
    have hx := hc _ (List.mem_of_getElem? hg)
    have htk := get_take hg
    generalize c.getD i 0 = x at *
    have hin : inR n ((x.natAbs : Nat) : Int) := by obtain ⟨h0, h1, h2⟩ := hx; exact ⟨by omega, by omega⟩
    try simp (disch := first | assumption | omega | (apply At.mk; with_unfolding_all rfl)) only [↓go_eq, ↓ent_eq, Mv, NilC_at, Fld_at, add_mk, Nat.zero_add, Nat.add_zero, Add64, Sub64, Mul64, Quo64, Rem64, Neg64, Cvt64, CvtU8, CvtU16, CvtU32, CvtU64, AddU64, SubU64, MulU64, Shr64, Shr_u8, Shr_u16, Shr_u32, Shr_u64, And1, And31, And32, Eql64, Neq64, Bin_lss, Bin_leq, Bin_gtr, Bin_geq, Bin_bool_eql, Bin_bool_neq, Bin_ptr_nil_eql, Bin_ptr_nil_neq, Not_dec, Un_not, Pick_t, Pick_f, Pick_pos, Pick_neg, Gd_tt, Gd_tf, Gd_ft, Gd_ff, Gd_pos_t, Gd_neg_t, Gd_pos_f, Gd_neg_f, Gd_undef, If_t, If_f, If_pos, If_neg, CallF_eq, Max_two, Min_two, Len_rd, Len_own, Ld_blkE, Idx_rdN, Idx_ownN, Idx_rdE, Idx_ownE, IdxAE, LdA_two, Idx_at0, Ext_atE, Len_at, Int.toNat_natCast, Int.toNat_zero, Int.toNat_one, List.length_map, List.length_append, List.length_cons, List.length_nil, List.length_take, List.length_set, List.length_replicate, Bool.not_true, Bool.not_false, decide_true, decide_false, BEq.rfl, bne_self_eq_false, tf_beq, ft_beq, tf_bne, ft_bne, not_true_eq_false, not_false_eq_true, app]
    refine lit_var_q hx (by omega) ?_
    try simp (disch := first | assumption | omega | (apply At.mk; with_unfolding_all rfl)) only [↓go_eq, ↓ent_eq, Mv, NilC_at, Fld_at, add_mk, Nat.zero_add, Nat.add_zero, Add64, Sub64, Mul64, Quo64, Rem64, Neg64, Cvt64, CvtU8, CvtU16, CvtU32, CvtU64, AddU64, SubU64, MulU64, Shr64, Shr_u8, Shr_u16, Shr_u32, Shr_u64, And1, And31, And32, Eql64, Neq64, Bin_lss, Bin_leq, Bin_gtr, Bin_geq, Bin_bool_eql, Bin_bool_neq, Bin_ptr_nil_eql, Bin_ptr_nil_neq, Not_dec, Un_not, Pick_t, Pick_f, Pick_pos, Pick_neg, Gd_tt, Gd_tf, Gd_ft, Gd_ff, Gd_pos_t, Gd_neg_t, Gd_pos_f, Gd_neg_f, Gd_undef, If_t, If_f, If_pos, If_neg, CallF_eq, Max_two, Min_two, Len_rd, Len_own, Ld_blkE, Idx_rdN, Idx_ownN, Idx_rdE, Idx_ownE, IdxAE, LdA_two, Idx_at0, Ext_atE, Len_at, Int.toNat_natCast, Int.toNat_zero, Int.toNat_one, List.length_map, List.length_append, List.length_cons, List.length_nil, List.length_take, List.length_set, List.length_replicate, Bool.not_true, Bool.not_false, decide_true, decide_false, BEq.rfl, bne_self_eq_false, tf_beq, ft_beq, tf_bne, ft_bne, not_true_eq_false, not_false_eq_true, app]
    refine break_w t1 ?_
    rw [if_pos hin, Int.toNat_natCast]
    try simp (disch := first | assumption | omega | (apply At.mk; with_unfolding_all rfl)) only [↓go_eq, ↓ent_eq, Mv, NilC_at, Fld_at, add_mk, Nat.zero_add, Nat.add_zero, Add64, Sub64, Mul64, Quo64, Rem64, Neg64, Cvt64, CvtU8, CvtU16, CvtU32, CvtU64, AddU64, SubU64, MulU64, Shr64, Shr_u8, Shr_u16, Shr_u32, Shr_u64, And1, And31, And32, Eql64, Neq64, Bin_lss, Bin_leq, Bin_gtr, Bin_geq, Bin_bool_eql, Bin_bool_neq, Bin_ptr_nil_eql, Bin_ptr_nil_neq, Not_dec, Un_not, Pick_t, Pick_f, Pick_pos, Pick_neg, Gd_tt, Gd_tf, Gd_ft, Gd_ff, Gd_pos_t, Gd_neg_t, Gd_pos_f, Gd_neg_f, Gd_undef, If_t, If_f, If_pos, If_neg, CallF_eq, Max_two, Min_two, Len_rd, Len_own, Ld_blkE, Idx_rdN, Idx_ownN, Idx_rdE, Idx_ownE, IdxAE, LdA_two, Idx_at0, Ext_atE, Len_at, Int.toNat_natCast, Int.toNat_zero, Int.toNat_one, List.length_map, List.length_append, List.length_cons, List.length_nil, List.length_take, List.length_set, List.length_replicate, Bool.not_true, Bool.not_false, decide_true, decide_false, BEq.rfl, bne_self_eq_false, tf_beq, ft_beq, tf_bne, ft_bne, not_true_eq_false, not_false_eq_true, app]
    refine BldS_one rfl rfl fun h2 o2 f2 s2 => ?_
    have ow2 := ow.fr f2 (by simp)
    have hbl : ((brs w.a F (c.take i)).map Iv).length = i := by unfold brs; rw [List.length_map, List.length_map, List.length_take]; omega
    try simp (disch := first | assumption | omega | (apply At.mk; with_unfolding_all rfl)) only [↓go_eq, ↓ent_eq, Mv, NilC_at, Fld_at, add_mk, Nat.zero_add, Nat.add_zero, Add64, Sub64, Mul64, Quo64, Rem64, Neg64, Cvt64, CvtU8, CvtU16, CvtU32, CvtU64, AddU64, SubU64, MulU64, Shr64, Shr_u8, Shr_u16, Shr_u32, Shr_u64, And1, And31, And32, Eql64, Neq64, Bin_lss, Bin_leq, Bin_gtr, Bin_geq, Bin_bool_eql, Bin_bool_neq, Bin_ptr_nil_eql, Bin_ptr_nil_neq, Not_dec, Un_not, Pick_t, Pick_f, Pick_pos, Pick_neg, Gd_tt, Gd_tf, Gd_ft, Gd_ff, Gd_pos_t, Gd_neg_t, Gd_pos_f, Gd_neg_f, Gd_undef, If_t, If_f, If_pos, If_neg, CallF_eq, Max_two, Min_two, Len_rd, Len_own, Ld_blkE, Idx_rdN, Idx_ownN, Idx_rdE, Idx_ownE, IdxAE, LdA_two, Idx_at0, Ext_atE, Len_at, Int.toNat_natCast, Int.toNat_zero, Int.toNat_one, List.length_map, List.length_append, List.length_cons, List.length_nil, List.length_take, List.length_set, List.length_replicate, Bool.not_true, Bool.not_false, decide_true, decide_false, BEq.rfl, bne_self_eq_false, tf_beq, ft_beq, tf_bne, ft_bne, not_true_eq_false, not_false_eq_true, app]
    refine ow2.app (ys := [Iv (brT w.a F x.natAbs)]) o2.rd rfl rfl (fun y hy => by simp at hy; rw [hy]; rfl) (by simp only [hbl, List.length_cons, List.length_nil]; omega) (by simp only [hbl, List.length_cons, List.length_nil]; omega) fun v' h3 bs' o3 f3 hb3 z3 => ?_
    try simp (disch := first | assumption | omega | (apply At.mk; with_unfolding_all rfl)) only [↓go_eq, ↓ent_eq, Mv, NilC_at, Fld_at, add_mk, Nat.zero_add, Nat.add_zero, Add64, Sub64, Mul64, Quo64, Rem64, Neg64, Cvt64, CvtU8, CvtU16, CvtU32, CvtU64, AddU64, SubU64, MulU64, Shr64, Shr_u8, Shr_u16, Shr_u32, Shr_u64, And1, And31, And32, Eql64, Neq64, Bin_lss, Bin_leq, Bin_gtr, Bin_geq, Bin_bool_eql, Bin_bool_neq, Bin_ptr_nil_eql, Bin_ptr_nil_neq, Not_dec, Un_not, Pick_t, Pick_f, Pick_pos, Pick_neg, Gd_tt, Gd_tf, Gd_ft, Gd_ff, Gd_pos_t, Gd_neg_t, Gd_pos_f, Gd_neg_f, Gd_undef, If_t, If_f, If_pos, If_neg, CallF_eq, Max_two, Min_two, Len_rd, Len_own, Ld_blkE, Idx_rdN, Idx_ownN, Idx_rdE, Idx_ownE, IdxAE, LdA_two, Idx_at0, Ext_atE, Len_at, Int.toNat_natCast, Int.toNat_zero, Int.toNat_one, List.length_map, List.length_append, List.length_cons, List.length_nil, List.length_take, List.length_set, List.length_replicate, Bool.not_true, Bool.not_false, decide_true, decide_false, BEq.rfl, bne_self_eq_false, tf_beq, ft_beq, tf_bne, ft_bne, not_true_eq_false, not_false_eq_true, app]
    try simp only [show (i : Int) + 1 = ((i + 1 : Nat) : Int) from by omega]
    have z1 := f1.size
    have z2 := f2.size
    refine hX (i + 1, v', bs') h3 ⟨by simp only; omega, ?_, fun b hm => ?_, (f1.trans f2).trans' f3 fun b hm => .inr (hb b hm)⟩ (by simp only; omega)
    · have e : (brs w.a F (c.take i)).map Iv ++ [Iv (brT w.a F x.natAbs)] = (brs w.a F (c.take (i + 1))).map Iv := by rw [htk]; simp [brs]
      rw [← e]; exact o3
    · rcases hb3 b hm with q | q
      · exact hb b q
      · omega
  · rw [List.take_of_length_le (by omega)] at ow
    try simp (disch := first | assumption | omega | (apply At.mk; with_unfolding_all rfl)) only [↓go_eq, ↓ent_eq, Mv, NilC_at, Fld_at, add_mk, Nat.zero_add, Nat.add_zero, Add64, Sub64, Mul64, Quo64, Rem64, Neg64, Cvt64, CvtU8, CvtU16, CvtU32, CvtU64, AddU64, SubU64, MulU64, Shr64, Shr_u8, Shr_u16, Shr_u32, Shr_u64, And1, And31, And32, Eql64, Neq64, Bin_lss, Bin_leq, Bin_gtr, Bin_geq, Bin_bool_eql, Bin_bool_neq, Bin_ptr_nil_eql, Bin_ptr_nil_neq, Not_dec, Un_not, Pick_t, Pick_f, Pick_pos, Pick_neg, Gd_tt, Gd_tf, Gd_ft, Gd_ff, Gd_pos_t, Gd_neg_t, Gd_pos_f, Gd_neg_f, Gd_undef, If_t, If_f, If_pos, If_neg, CallF_eq, Max_two, Min_two, Len_rd, Len_own, Ld_blkE, Idx_rdN, Idx_ownN, Idx_rdE, Idx_ownE, IdxAE, LdA_two, Idx_at0, Ext_atE, Len_at, Int.toNat_natCast, Int.toNat_zero, Int.toNat_one, List.length_map, List.length_append, List.length_cons, List.length_nil, List.length_take, List.length_set, List.length_replicate, Bool.not_true, Bool.not_false, decide_true, decide_false, BEq.rfl, bne_self_eq_false, tf_beq, ft_beq, tf_bne, ft_bne, not_true_eq_false, not_false_eq_true, app]
    exact hk v bs h1 ow hb f1
theorem walk_noisy.spec {b : List Int} {bv : Value} {noise : Int} {g : Nat} {s : Str} {Fp : List Nat} (hb : b ≠ []) (hl : b.length ≤ 1000000) (rb : Rd h bv (b.map Iv)) (hs : StrAt h g s Fp) (hd : s.d ≤ 1000000000) (hw : s.ws.length ≤ 1000000000) (hk : ∀ h', StrAt h' g (noisyT b noise s).2 Fp → Fr Fp h h' → Q (Iv (noisyT b noise s).1) h') : CallH Try.prog walk_noisy.id #[bv, Iv noise, ptr g] Q h := by
  refine walk_noisy.ok ?_
  simp only [walk_noisy.pt]
  rw [go_eq, Len_rd rb, List.length_map]
  refine Lp_fn (σ := Nat) (fun i => [bv, Iv noise, ptr g, Iv (bestI b i : Nat), bv, Iv (b.length : Nat), Iv (i : Nat)]) (fun i h' => i ≤ b.length ∧ h = h') (fun i => b.length - i) 0 rfl (fun _ => rfl) ⟨Nat.zero_le _, rfl⟩ ?_
  rintro i h1 ⟨hi, rfl⟩ X hX
  have hbl := bestI_lt hb i hi
  have a2 : At (b.map Iv) (bestI b i) (Iv (b.getD (bestI b i) 0)) := at_getD hbl
  by_cases c1 : (i : Int) < (b.length : Nat)
  · have a1 : At (b.map Iv) i (Iv (b.getD i 0)) := at_getD (by omega)
    have hX' := hX (i + 1) h ⟨by omega, rfl⟩ (by omega)
    rw [show bestI b (i + 1) = if b.getD i 0 < b.getD (bestI b i) 0 then i else bestI b i from rfl] at hX'
    try simp (disch := first | assumption | omega | (apply At.mk; with_unfolding_all rfl)) only [↓go_eq, ↓ent_eq, Mv, NilC_at, Fld_at, add_mk, Nat.zero_add, Nat.add_zero, Add64, Sub64, Mul64, Quo64, Rem64, Neg64, Cvt64, CvtU8, CvtU16, CvtU32, CvtU64, AddU64, SubU64, MulU64, Shr64, Shr_u8, Shr_u16, Shr_u32, Shr_u64, And1, And31, And32, Eql64, Neq64, Bin_lss, Bin_leq, Bin_gtr, Bin_geq, Bin_bool_eql, Bin_bool_neq, Bin_ptr_nil_eql, Bin_ptr_nil_neq, Not_dec, Un_not, Pick_t, Pick_f, Pick_pos, Pick_neg, Gd_tt, Gd_tf, Gd_ft, Gd_ff, Gd_pos_t, Gd_neg_t, Gd_pos_f, Gd_neg_f, Gd_undef, If_t, If_f, If_pos, If_neg, CallF_eq, Max_two, Min_two, Len_rd, Len_own, Ld_blkE, Idx_rdN, Idx_ownN, Idx_rdE, Idx_ownE, IdxAE, LdA_two, Idx_at0, Ext_atE, Len_at, Int.toNat_natCast, Int.toNat_zero, Int.toNat_one, List.length_map, List.length_append, List.length_cons, List.length_nil, List.length_take, List.length_set, List.length_replicate, Bool.not_true, Bool.not_false, decide_true, decide_false, BEq.rfl, bne_self_eq_false, tf_beq, ft_beq, tf_bne, ft_bne, not_true_eq_false, not_false_eq_true, app]
    refine Jn_fn (σ := Unit) (fun _ => [bv, Iv noise, ptr g, Iv ((if b.getD i 0 < b.getD (bestI b i) 0 then i else bestI b i : Nat) : Int), bv, Iv (b.length : Nat), Iv (i : Nat)]) (fun _ h' => h = h') ?_ ?_
    · intro J hJ
      have hJ := hJ () h rfl
      try simp (disch := first | assumption | omega | (apply At.mk; with_unfolding_all rfl)) only [↓go_eq, ↓ent_eq, Mv, NilC_at, Fld_at, add_mk, Nat.zero_add, Nat.add_zero, Add64, Sub64, Mul64, Quo64, Rem64, Neg64, Cvt64, CvtU8, CvtU16, CvtU32, CvtU64, AddU64, SubU64, MulU64, Shr64, Shr_u8, Shr_u16, Shr_u32, Shr_u64, And1, And31, And32, Eql64, Neq64, Bin_lss, Bin_leq, Bin_gtr, Bin_geq, Bin_bool_eql, Bin_bool_neq, Bin_ptr_nil_eql, Bin_ptr_nil_neq, Not_dec, Un_not, Pick_t, Pick_f, Pick_pos, Pick_neg, Gd_tt, Gd_tf, Gd_ft, Gd_ff, Gd_pos_t, Gd_neg_t, Gd_pos_f, Gd_neg_f, Gd_undef, If_t, If_f, If_pos, If_neg, CallF_eq, Max_two, Min_two, Len_rd, Len_own, Ld_blkE, Idx_rdN, Idx_ownN, Idx_rdE, Idx_ownE, IdxAE, LdA_two, Idx_at0, Ext_atE, Len_at, Int.toNat_natCast, Int.toNat_zero, Int.toNat_one, List.length_map, List.length_append, List.length_cons, List.length_nil, List.length_take, List.length_set, List.length_replicate, Bool.not_true, Bool.not_false, decide_true, decide_false, BEq.rfl, bne_self_eq_false, tf_beq, ft_beq, tf_bne, ft_bne, not_true_eq_false, not_false_eq_true, app]
      by_cases c2 : b.getD i 0 < b.getD (bestI b i) 0
      · rw [if_pos c2] at hJ; try simp (disch := first | assumption | omega | (apply At.mk; with_unfolding_all rfl)) only [↓go_eq, ↓ent_eq, Mv, NilC_at, Fld_at, add_mk, Nat.zero_add, Nat.add_zero, Add64, Sub64, Mul64, Quo64, Rem64, Neg64, Cvt64, CvtU8, CvtU16, CvtU32, CvtU64, AddU64, SubU64, MulU64, Shr64, Shr_u8, Shr_u16, Shr_u32, Shr_u64, And1, And31, And32, Eql64, Neq64, Bin_lss, Bin_leq, Bin_gtr, Bin_geq, Bin_bool_eql, Bin_bool_neq, Bin_ptr_nil_eql, Bin_ptr_nil_neq, Not_dec, Un_not, Pick_t, Pick_f, Pick_pos, Pick_neg, Gd_tt, Gd_tf, Gd_ft, Gd_ff, Gd_pos_t, Gd_neg_t, Gd_pos_f, Gd_neg_f, Gd_undef, If_t, If_f, If_pos, If_neg, CallF_eq, Max_two, Min_two, Len_rd, Len_own, Ld_blkE, Idx_rdN, Idx_ownN, Idx_rdE, Idx_ownE, IdxAE, LdA_two, Idx_at0, Ext_atE, Len_at, Int.toNat_natCast, Int.toNat_zero, Int.toNat_one, List.length_map, List.length_append, List.length_cons, List.length_nil, List.length_take, List.length_set, List.length_replicate, Bool.not_true, Bool.not_false, decide_true, decide_false, BEq.rfl, bne_self_eq_false, tf_beq, ft_beq, tf_bne, ft_bne, not_true_eq_false, not_false_eq_true, app]; exact hJ
      · rw [if_neg c2] at hJ; try simp (disch := first | assumption | omega | (apply At.mk; with_unfolding_all rfl)) only [↓go_eq, ↓ent_eq, Mv, NilC_at, Fld_at, add_mk, Nat.zero_add, Nat.add_zero, Add64, Sub64, Mul64, Quo64, Rem64, Neg64, Cvt64, CvtU8, CvtU16, CvtU32, CvtU64, AddU64, SubU64, MulU64, Shr64, Shr_u8, Shr_u16, Shr_u32, Shr_u64, And1, And31, And32, Eql64, Neq64, Bin_lss, Bin_leq, Bin_gtr, Bin_geq, Bin_bool_eql, Bin_bool_neq, Bin_ptr_nil_eql, Bin_ptr_nil_neq, Not_dec, Un_not, Pick_t, Pick_f, Pick_pos, Pick_neg, Gd_tt, Gd_tf, Gd_ft, Gd_ff, Gd_pos_t, Gd_neg_t, Gd_pos_f, Gd_neg_f, Gd_undef, If_t, If_f, If_pos, If_neg, CallF_eq, Max_two, Min_two, Len_rd, Len_own, Ld_blkE, Idx_rdN, Idx_ownN, Idx_rdE, Idx_ownE, IdxAE, LdA_two, Idx_at0, Ext_atE, Len_at, Int.toNat_natCast, Int.toNat_zero, Int.toNat_one, List.length_map, List.length_append, List.length_cons, List.length_nil, List.length_take, List.length_set, List.length_replicate, Bool.not_true, Bool.not_false, decide_true, decide_false, BEq.rfl, bne_self_eq_false, tf_beq, ft_beq, tf_bne, ft_bne, not_true_eq_false, not_false_eq_true, app]; exact hJ
    · rintro - h1 rfl
      try simp (disch := first | assumption | omega | (apply At.mk; with_unfolding_all rfl)) only [↓go_eq, ↓ent_eq, Mv, NilC_at, Fld_at, add_mk, Nat.zero_add, Nat.add_zero, Add64, Sub64, Mul64, Quo64, Rem64, Neg64, Cvt64, CvtU8, CvtU16, CvtU32, CvtU64, AddU64, SubU64, MulU64, Shr64, Shr_u8, Shr_u16, Shr_u32, Shr_u64, And1, And31, And32, Eql64, Neq64, Bin_lss, Bin_leq, Bin_gtr, Bin_geq, Bin_bool_eql, Bin_bool_neq, Bin_ptr_nil_eql, Bin_ptr_nil_neq, Not_dec, Un_not, Pick_t, Pick_f, Pick_pos, Pick_neg, Gd_tt, Gd_tf, Gd_ft, Gd_ff, Gd_pos_t, Gd_neg_t, Gd_pos_f, Gd_neg_f, Gd_undef, If_t, If_f, If_pos, If_neg, CallF_eq, Max_two, Min_two, Len_rd, Len_own, Ld_blkE, Idx_rdN, Idx_ownN, Idx_rdE, Idx_ownE, IdxAE, LdA_two, Idx_at0, Ext_atE, Len_at, Int.toNat_natCast, Int.toNat_zero, Int.toNat_one, List.length_map, List.length_append, List.length_cons, List.length_nil, List.length_take, List.length_set, List.length_replicate, Bool.not_true, Bool.not_false, decide_true, decide_false, BEq.rfl, bne_self_eq_false, tf_beq, ft_beq, tf_bne, ft_bne, not_true_eq_false, not_false_eq_true, app]
      try simp only [show (i : Int) + 1 = ((i + 1 : Nat) : Int) from by omega]
      exact hX'
  · have ei : i = b.length := by omega
    subst ei
    unfold noisyT at hk
    by_cases c2 : 0 < b.getD (bestI b b.length) 0
    · rw [if_pos c2] at hk
      try simp (disch := first | assumption | omega | (apply At.mk; with_unfolding_all rfl)) only [↓go_eq, ↓ent_eq, Mv, NilC_at, Fld_at, add_mk, Nat.zero_add, Nat.add_zero, Add64, Sub64, Mul64, Quo64, Rem64, Neg64, Cvt64, CvtU8, CvtU16, CvtU32, CvtU64, AddU64, SubU64, MulU64, Shr64, Shr_u8, Shr_u16, Shr_u32, Shr_u64, And1, And31, And32, Eql64, Neq64, Bin_lss, Bin_leq, Bin_gtr, Bin_geq, Bin_bool_eql, Bin_bool_neq, Bin_ptr_nil_eql, Bin_ptr_nil_neq, Not_dec, Un_not, Pick_t, Pick_f, Pick_pos, Pick_neg, Gd_tt, Gd_tf, Gd_ft, Gd_ff, Gd_pos_t, Gd_neg_t, Gd_pos_f, Gd_neg_f, Gd_undef, If_t, If_f, If_pos, If_neg, CallF_eq, Max_two, Min_two, Len_rd, Len_own, Ld_blkE, Idx_rdN, Idx_ownN, Idx_rdE, Idx_ownE, IdxAE, LdA_two, Idx_at0, Ext_atE, Len_at, Int.toNat_natCast, Int.toNat_zero, Int.toNat_one, List.length_map, List.length_append, List.length_cons, List.length_nil, List.length_take, List.length_set, List.length_replicate, Bool.not_true, Bool.not_false, decide_true, decide_false, BEq.rfl, bne_self_eq_false, tf_beq, ft_beq, tf_bne, ft_bne, not_true_eq_false, not_false_eq_true, app]
      refine rng_Stream_Chance.spec hs (by omega) (by omega) (by decide) fun h2 s2 f2 => ?_
      have hlv : ∀ {K : Ret} {h' : Heap}, Len bv K h' = K (Iv (b.length : Nat)) h' := by intro K h'; rw [Rd.len_any rb, List.length_map]
      by_cases c3 : (s.below 1000).1 < noise
      · rw [if_pos c3] at hk
        rw [decide_eq_true (show 1 ≤ (1000 : Int) ∧ _ from ⟨by decide, c3⟩)]
        have d1 := s.below_d (n := 1000) (by decide)
        try simp (disch := first | assumption | omega | (apply At.mk; with_unfolding_all rfl)) only [hlv, ↓go_eq, ↓ent_eq, Mv, NilC_at, Fld_at, add_mk, Nat.zero_add, Nat.add_zero, Add64, Sub64, Mul64, Quo64, Rem64, Neg64, Cvt64, CvtU8, CvtU16, CvtU32, CvtU64, AddU64, SubU64, MulU64, Shr64, Shr_u8, Shr_u16, Shr_u32, Shr_u64, And1, And31, And32, Eql64, Neq64, Bin_lss, Bin_leq, Bin_gtr, Bin_geq, Bin_bool_eql, Bin_bool_neq, Bin_ptr_nil_eql, Bin_ptr_nil_neq, Not_dec, Un_not, Pick_t, Pick_f, Pick_pos, Pick_neg, Gd_tt, Gd_tf, Gd_ft, Gd_ff, Gd_pos_t, Gd_neg_t, Gd_pos_f, Gd_neg_f, Gd_undef, If_t, If_f, If_pos, If_neg, CallF_eq, Max_two, Min_two, Len_rd, Len_own, Ld_blkE, Idx_rdN, Idx_ownN, Idx_rdE, Idx_ownE, IdxAE, LdA_two, Idx_at0, Ext_atE, Len_at, Int.toNat_natCast, Int.toNat_zero, Int.toNat_one, List.length_map, List.length_append, List.length_cons, List.length_nil, List.length_take, List.length_set, List.length_replicate, Bool.not_true, Bool.not_false, decide_true, decide_false, BEq.rfl, bne_self_eq_false, tf_beq, ft_beq, tf_bne, ft_bne, not_true_eq_false, not_false_eq_true, app]
        refine rng_Stream_Below.spec s2 (by omega) (by rw [Str.below_ws]; omega) (by omega) fun h3 s3 f3 => ?_
        try simp (disch := first | assumption | omega | (apply At.mk; with_unfolding_all rfl)) only [↓go_eq, ↓ent_eq, Mv, NilC_at, Fld_at, add_mk, Nat.zero_add, Nat.add_zero, Add64, Sub64, Mul64, Quo64, Rem64, Neg64, Cvt64, CvtU8, CvtU16, CvtU32, CvtU64, AddU64, SubU64, MulU64, Shr64, Shr_u8, Shr_u16, Shr_u32, Shr_u64, And1, And31, And32, Eql64, Neq64, Bin_lss, Bin_leq, Bin_gtr, Bin_geq, Bin_bool_eql, Bin_bool_neq, Bin_ptr_nil_eql, Bin_ptr_nil_neq, Not_dec, Un_not, Pick_t, Pick_f, Pick_pos, Pick_neg, Gd_tt, Gd_tf, Gd_ft, Gd_ff, Gd_pos_t, Gd_neg_t, Gd_pos_f, Gd_neg_f, Gd_undef, If_t, If_f, If_pos, If_neg, CallF_eq, Max_two, Min_two, Len_rd, Len_own, Ld_blkE, Idx_rdN, Idx_ownN, Idx_rdE, Idx_ownE, IdxAE, LdA_two, Idx_at0, Ext_atE, Len_at, Int.toNat_natCast, Int.toNat_zero, Int.toNat_one, List.length_map, List.length_append, List.length_cons, List.length_nil, List.length_take, List.length_set, List.length_replicate, Bool.not_true, Bool.not_false, decide_true, decide_false, BEq.rfl, bne_self_eq_false, tf_beq, ft_beq, tf_bne, ft_bne, not_true_eq_false, not_false_eq_true, app]
        exact hk h3 s3 (f2.trans f3)
      · rw [if_neg c3] at hk
        rw [decide_eq_false (show ¬ (1 ≤ (1000 : Int) ∧ _) from fun q => c3 q.2)]
        try simp (disch := first | assumption | omega | (apply At.mk; with_unfolding_all rfl)) only [↓go_eq, ↓ent_eq, Mv, NilC_at, Fld_at, add_mk, Nat.zero_add, Nat.add_zero, Add64, Sub64, Mul64, Quo64, Rem64, Neg64, Cvt64, CvtU8, CvtU16, CvtU32, CvtU64, AddU64, SubU64, MulU64, Shr64, Shr_u8, Shr_u16, Shr_u32, Shr_u64, And1, And31, And32, Eql64, Neq64, Bin_lss, Bin_leq, Bin_gtr, Bin_geq, Bin_bool_eql, Bin_bool_neq, Bin_ptr_nil_eql, Bin_ptr_nil_neq, Not_dec, Un_not, Pick_t, Pick_f, Pick_pos, Pick_neg, Gd_tt, Gd_tf, Gd_ft, Gd_ff, Gd_pos_t, Gd_neg_t, Gd_pos_f, Gd_neg_f, Gd_undef, If_t, If_f, If_pos, If_neg, CallF_eq, Max_two, Min_two, Len_rd, Len_own, Ld_blkE, Idx_rdN, Idx_ownN, Idx_rdE, Idx_ownE, IdxAE, LdA_two, Idx_at0, Ext_atE, Len_at, Int.toNat_natCast, Int.toNat_zero, Int.toNat_one, List.length_map, List.length_append, List.length_cons, List.length_nil, List.length_take, List.length_set, List.length_replicate, Bool.not_true, Bool.not_false, decide_true, decide_false, BEq.rfl, bne_self_eq_false, tf_beq, ft_beq, tf_bne, ft_bne, not_true_eq_false, not_false_eq_true, app]
        exact hk h2 s2 f2
    · rw [if_neg c2] at hk
      try simp (disch := first | assumption | omega | (apply At.mk; with_unfolding_all rfl)) only [↓go_eq, ↓ent_eq, Mv, NilC_at, Fld_at, add_mk, Nat.zero_add, Nat.add_zero, Add64, Sub64, Mul64, Quo64, Rem64, Neg64, Cvt64, CvtU8, CvtU16, CvtU32, CvtU64, AddU64, SubU64, MulU64, Shr64, Shr_u8, Shr_u16, Shr_u32, Shr_u64, And1, And31, And32, Eql64, Neq64, Bin_lss, Bin_leq, Bin_gtr, Bin_geq, Bin_bool_eql, Bin_bool_neq, Bin_ptr_nil_eql, Bin_ptr_nil_neq, Not_dec, Un_not, Pick_t, Pick_f, Pick_pos, Pick_neg, Gd_tt, Gd_tf, Gd_ft, Gd_ff, Gd_pos_t, Gd_neg_t, Gd_pos_f, Gd_neg_f, Gd_undef, If_t, If_f, If_pos, If_neg, CallF_eq, Max_two, Min_two, Len_rd, Len_own, Ld_blkE, Idx_rdN, Idx_ownN, Idx_rdE, Idx_ownE, IdxAE, LdA_two, Idx_at0, Ext_atE, Len_at, Int.toNat_natCast, Int.toNat_zero, Int.toNat_one, List.length_map, List.length_append, List.length_cons, List.length_nil, List.length_take, List.length_set, List.length_replicate, Bool.not_true, Bool.not_false, decide_true, decide_false, BEq.rfl, bne_self_eq_false, tf_beq, ft_beq, tf_bne, ft_bne, not_true_eq_false, not_false_eq_true, app]
      exact hk h hs (Fr.refl _ _)
end
end Go.Proofs.Ytonngdjfnnibaaa

/- A walk's step, and runs of steps, walked. Conditions: those typed ahead of each theorem. -/
namespace Go.Proofs.Ytonngdjfnnibaaa
open Go.Pt
set_option linter.unusedVariables false
set_option linter.unusedSimpArgs false
section
variable {N M : Nat} {h h' : Heap} {R : Nat → Res} {o sb n : Nat} {m : LMod} {Q : Ret} {F : List (List Int)} {w : W}
/-- A thing beside the state is put. -/
theorem St4.putq {q : Nat} {r : Res} (t : St4 N h M R o sb n F w m) (hq : q < M) (ho : q < o ∨ o + 8 + 2 * n + F.length ≤ q) (f : Fr (R q).fp h h') (ow : r.own h') (hb : ∀ b ∈ r.fp, b ∈ (R q).fp ∨ h.size ≤ b) : St4 N h' M (updR R q r) o sb n F w m := by
  have z := f.size
  have := t.s.nN
  refine ⟨⟨t.s.sep.set hq f ow hb t.s.nN, t.s.lr.cong2 fun x h1 h2 => updR_ne (by omega), t.s.st, t.s.hM, by omega, t.s.al, t.s.nb, t.s.Kb⟩, t.r⟩
theorem St4.more {r : Res} (t : St4 N h M R o sb n F w m) (f : Fr [] h h') (ow : r.own h') (hb : ∀ b ∈ r.fp, h.size ≤ b) : St4 N h' (M + 1) (updR R M r) o sb n F w m := by
  have z := f.size
  have := t.s.nN
  have hM := t.s.hM
  exact ⟨⟨t.s.sep.add f ow hb t.s.nN, t.s.lr.cong2 fun x h1 h2 => updR_ne (by omega), t.s.st, by omega, by omega, t.s.al, t.s.nb, t.s.Kb⟩, t.r⟩
theorem St4.less {M' : Nat} (t : St4 N h M R o sb n F w m) (h1 : M' ≤ M) (h2 : o + 8 + 2 * n + F.length ≤ M') : St4 N h M' R o sb n F w m := ⟨t.s.less h1 h2, t.r⟩
/-- The stream stands in the state's heap of things. -/
structure Wst (N : Nat) (h : Heap) (M : Nat) (R : Nat → Res) (o sb n : Nat) (F : List (List Int)) (w : W) (m : LMod) (q g : Nat) (s : Str) (Fp : List Nat) : Prop where
  t : St4 N h M R o sb n F w m
  hq : q < M
  qo : q < o ∨ o + 8 + 2 * n + F.length ≤ q
  rq : R q = rStr g s Fp
variable {q g : Nat} {s : Str} {Fp : List Nat}
theorem Wst.str (k : Wst N h M R o sb n F w m q g s Fp) : StrAt h g s Fp := by
  have := k.t.s.sep.own q k.hq
  rw [k.rq] at this; exact this
theorem Wst.fr (k : Wst N h M R o sb n F w m q g s Fp) (f : Fr [] h h') : Wst N h' M R o sb n F w m q g s Fp := ⟨k.t.fr f, k.hq, k.qo, k.rq⟩
theorem Wst.put {s' : Str} (k : Wst N h M R o sb n F w m q g s Fp) (f : Fr Fp h h') (ow : StrAt h' g s' Fp) : Wst N h' M (updR R q (rStr g s' Fp)) o sb n F w m q g s' Fp :=
  ⟨k.t.putq k.hq k.qo (r := rStr g s' Fp) (by rw [k.rq]; exact f) ow (fun b hb => .inl (by rw [k.rq]; exact hb)), k.hq, k.qo, updR_at _ _ _⟩
theorem Wst.lo (k : Wst N h M R o sb n F w m q g s Fp) : ∀ b ∈ Fp, N ≤ b := by
  have := k.t.s.sep.lo q k.hq
  rw [k.rq] at this; exact this
def TabR (kind base : Int) (tv : Value) (r : Res) : Prop := kind ≠ 2 → ∃ gt, tv = ptr gt ∧ r = rBlk gt (tab kind base 64)
theorem walk_Way_rows.spec {kind base noise : Int} (hW : WOk kind base noise) (hk : ∀ tv r h', TabR kind base tv r → isCell tv = true → r.own h' → (∀ b ∈ r.fp, h.size ≤ b) → Fr [] h h' → Q tv h') : CallH Try.prog walk_Way_rows.id #[.agg #[Iv kind, Iv base, Iv noise]] Q h := by
  refine walk_Way_rows.ok ?_
  simp only [walk_Way_rows.pt]
  rw [go_eq]
  refine New_blk fun h1 b1 f1 s1 => ?_
  have b1 : Blk h1 h.size [Iv kind, Iv base, Iv noise] := b1
  by_cases c : kind = 2
  · try simp (disch := first | assumption | omega | (apply At.mk; with_unfolding_all rfl)) only [↓go_eq, ↓ent_eq, Mv, NilC_at, Fld_at, add_mk, Nat.zero_add, Nat.add_zero, Add64, Sub64, Mul64, Quo64, Rem64, Neg64, Cvt64, CvtU8, CvtU16, CvtU32, CvtU64, AddU64, SubU64, MulU64, Shr64, Shr_u8, Shr_u16, Shr_u32, Shr_u64, And1, And31, And32, Eql64, Neq64, Bin_lss, Bin_leq, Bin_gtr, Bin_geq, Bin_bool_eql, Bin_bool_neq, Bin_ptr_nil_eql, Bin_ptr_nil_neq, Not_dec, Un_not, Pick_t, Pick_f, Pick_pos, Pick_neg, Gd_tt, Gd_tf, Gd_ft, Gd_ff, Gd_pos_t, Gd_neg_t, Gd_pos_f, Gd_neg_f, Gd_undef, If_t, If_f, If_pos, If_neg, CallF_eq, Max_two, Min_two, Len_rd, Len_own, Ld_blkE, Idx_rdN, Idx_ownN, Idx_rdE, Idx_ownE, IdxAE, LdA_two, Idx_at0, Ext_atE, Len_at, Int.toNat_natCast, Int.toNat_zero, Int.toNat_one, List.length_map, List.length_append, List.length_cons, List.length_nil, List.length_take, List.length_set, List.length_replicate, Bool.not_true, Bool.not_false, decide_true, decide_false, BEq.rfl, bne_self_eq_false, tf_beq, ft_beq, tf_bne, ft_bne, not_true_eq_false, not_false_eq_true, app]
    exact hk _ (rOwn nilS [] []) h1 (fun q => absurd c q) rfl (Own.nil h1) (by simp [rOwn]) f1
  · try simp (disch := first | assumption | omega | (apply At.mk; with_unfolding_all rfl)) only [↓go_eq, ↓ent_eq, Mv, NilC_at, Fld_at, add_mk, Nat.zero_add, Nat.add_zero, Add64, Sub64, Mul64, Quo64, Rem64, Neg64, Cvt64, CvtU8, CvtU16, CvtU32, CvtU64, AddU64, SubU64, MulU64, Shr64, Shr_u8, Shr_u16, Shr_u32, Shr_u64, And1, And31, And32, Eql64, Neq64, Bin_lss, Bin_leq, Bin_gtr, Bin_geq, Bin_bool_eql, Bin_bool_neq, Bin_ptr_nil_eql, Bin_ptr_nil_neq, Not_dec, Un_not, Pick_t, Pick_f, Pick_pos, Pick_neg, Gd_tt, Gd_tf, Gd_ft, Gd_ff, Gd_pos_t, Gd_neg_t, Gd_pos_f, Gd_neg_f, Gd_undef, If_t, If_f, If_pos, If_neg, CallF_eq, Max_two, Min_two, Len_rd, Len_own, Ld_blkE, Idx_rdN, Idx_ownN, Idx_rdE, Idx_ownE, IdxAE, LdA_two, Idx_at0, Ext_atE, Len_at, Int.toNat_natCast, Int.toNat_zero, Int.toNat_one, List.length_map, List.length_append, List.length_cons, List.length_nil, List.length_take, List.length_set, List.length_replicate, Bool.not_true, Bool.not_false, decide_true, decide_false, BEq.rfl, bne_self_eq_false, tf_beq, ft_beq, tf_bne, ft_bne, not_true_eq_false, not_false_eq_true, app]
    refine table_New.spec (hW.fits c) fun gt h2 t2 f2 n2 => ?_
    try simp (disch := first | assumption | omega | (apply At.mk; with_unfolding_all rfl)) only [↓go_eq, ↓ent_eq, Mv, NilC_at, Fld_at, add_mk, Nat.zero_add, Nat.add_zero, Add64, Sub64, Mul64, Quo64, Rem64, Neg64, Cvt64, CvtU8, CvtU16, CvtU32, CvtU64, AddU64, SubU64, MulU64, Shr64, Shr_u8, Shr_u16, Shr_u32, Shr_u64, And1, And31, And32, Eql64, Neq64, Bin_lss, Bin_leq, Bin_gtr, Bin_geq, Bin_bool_eql, Bin_bool_neq, Bin_ptr_nil_eql, Bin_ptr_nil_neq, Not_dec, Un_not, Pick_t, Pick_f, Pick_pos, Pick_neg, Gd_tt, Gd_tf, Gd_ft, Gd_ff, Gd_pos_t, Gd_neg_t, Gd_pos_f, Gd_neg_f, Gd_undef, If_t, If_f, If_pos, If_neg, CallF_eq, Max_two, Min_two, Len_rd, Len_own, Ld_blkE, Idx_rdN, Idx_ownN, Idx_rdE, Idx_ownE, IdxAE, LdA_two, Idx_at0, Ext_atE, Len_at, Int.toNat_natCast, Int.toNat_zero, Int.toNat_one, List.length_map, List.length_append, List.length_cons, List.length_nil, List.length_take, List.length_set, List.length_replicate, Bool.not_true, Bool.not_false, decide_true, decide_false, BEq.rfl, bne_self_eq_false, tf_beq, ft_beq, tf_bne, ft_bne, not_true_eq_false, not_false_eq_true, app]
    exact hk _ (rBlk gt (tab kind base 64)) h2 (fun _ => ⟨gt, rfl, rfl⟩) rfl t2 (by simp [rBlk]; have := f1.size; omega) (f1.trans f2)
theorem row_w {i : Int} (t : St4 N h M R o sb n F w m) (hk : Q (Iv (rowT m.row i)) h) : QCall Try.prog local_State_Row.id [ptr sb, Iv i] Q h := row_q t.s hk
theorem unsat_m (t : St4 N h M R o sb n F w m) (hk : Q (Iv (m.row.length : Nat)) h) : QCall Try.prog local_State_Unsatisfied.id [ptr sb] Q h := unsat_q t.s hk
theorem St4.rowg (t : St4 N h M R o sb n F w m) {i : Nat} (hi : i < m.row.length) : ∃ c, F[m.row.getD i 0]? = some c ∧ hB (litT w.a) c = 0 ∧ F.getD (m.row.getD i 0) [] = c := by
  have hm : m.row.getD i 0 ∈ m.row := by
    rw [List.getD_eq_getElem?_getD, List.getElem?_eq_getElem hi]; exact List.getElem_mem hi
  obtain ⟨c, h1, h2⟩ := (t.r.rowm _).1 hm
  exact ⟨c, h1, h2, by rw [List.getD_eq_getElem?_getD, h1]; rfl⟩
set_option maxHeartbeats 4000000 in
theorem walk_step.spec {kind base noise : Int} {tv : Value} (hW : WOk kind base noise) (k : Wst N h M R o sb n F w m q g s Fp) (htab : kind ≠ 2 → ∃ gt, tv = ptr gt ∧ TabAt h gt kind base ∧ gt ∉ Fp) (hG : GF n F) (hfl : 0 ≤ w.fl ∧ w.fl ≤ 1000000) (hd : s.d ≤ 1000000) (hl : s.ws.length ≤ 1000000)
    (hk : ∀ h' R' m', Wst N h' M R' o sb n F (w.flip n F ((stepT kind base noise w.a F m.row s).1 : Nat)) m' q g (stepT kind base noise w.a F m.row s).2 Fp → (∀ i, (i < o ∨ o + 8 + 2 * n + F.length ≤ i) → i ≠ q → R' i = R i) → FrN N h h' → m'.row = rowW n F w.a ((stepT kind base noise w.a F m.row s).1 : Nat) m.row → Q (Iv ((stepT kind base noise w.a F m.row s).1 : Nat)) h') : CallH Try.prog walk_step.id #[ptr sb, .agg #[Iv kind, Iv base, Iv noise], tv, ptr g] Q h := by
  refine walk_step.ok ?_
  simp only [walk_step.pt]
  rw [go_eq]
  refine New_blk fun h1 b1 f1 s1 => ?_
  have b1 : Blk h1 h.size [Iv kind, Iv base, Iv noise] := b1
  have k1 := k.fr f1
  have hlo := k.lo
  have nN := k.t.s.nN
  have hFlt : ∀ b ∈ Fp, b < h.size := k.str.lt
  have hz : w.flip n F ((0 : Nat) : Int) = w := by unfold W.flip; rw [if_neg (fun q => by have := q.1; omega)]
  have hz' : ∀ row, rowW n F w.a ((0 : Nat) : Int) row = row := fun row => by unfold rowW; rw [if_neg (fun q => by have := q.1; omega)]
  rw [go_eq]
  refine unsat_m k1.t ?_
  unfold stepT at hk
  by_cases c0 : m.row.length = 0
  · rw [if_pos c0] at hk
    simp only [hz, hz'] at hk
    rw [go_eq, Eql64, decide_eq_true (by omega), If_t]
    exact hk h1 R m k1 (fun _ _ _ => rfl) (Fr.toN f1 (by simp)) rfl
  rw [if_neg c0] at hk
  rw [go_eq, Eql64, decide_eq_false (by omega), If_f, go_eq]
  refine unsat_m k1.t ?_
  rw [go_eq, CallF_eq]
  refine rng_Stream_Below.spec k1.str (by omega) (by omega) (by have := k1.t.r.cnt.len; have := k1.t.r.ek; have := k1.t.s.Kb; omega) fun h2 s2 f2 => ?_
  have hbl := s.below_lt (n := m.row.length) (by omega)
  have hbd := s.below_d (n := m.row.length) (by omega)
  have hbw := s.below_ws m.row.length
  generalize s.below m.row.length = sx at *
  obtain ⟨x, s'⟩ := sx
  simp only at hbl hbd hbw hk s2
  have hbw' : s'.ws.length = s.ws.length := by rw [hbw]
  have k2 := k1.put f2 s2
  have b2 := b1.fr f2 (fun hm => by have := hFlt _ hm; omega)
  have f02 : Fr Fp h h2 := (f1.mono (by simp)).trans f2
  obtain ⟨xn, rfl⟩ : ∃ xn : Nat, x = xn := ⟨x.toNat, by omega⟩
  obtain ⟨c, hc, hB0, hcD⟩ := k.t.rowg (i := xn) (by omega)
  simp only [Int.toNat_natCast, hcD] at hk
  obtain ⟨hci, hcm⟩ := someF hc
  obtain ⟨hc1, hc2, hc3⟩ := hG c hcm
  rw [go_eq]
  refine row_w k2.t ?_
  rw [show rowT m.row (xn : Int) = (m.row.getD xn 0 : Nat) by unfold rowT; rw [if_pos (by omega), Int.toNat_natCast]]
  rw [go_eq, CallF_eq]
  refine local_State_Clause.spec k2.t.s (fun j hj => ?_) fun cv bc h3 oc hbc f3 => ?_
  · rw [k2.t.r.ek] at hj
    obtain ⟨D, hD, hDm⟩ := getF hj
    rw [k2.t.r.L j D hD]; have := (hG D hDm).2.2; omega
  rw [if_pos ⟨by omega, by rw [k2.t.r.ek]; omega⟩, Int.toNat_natCast, k2.t.r.L _ c hc] at oc
  have k3 := k2.fr f3
  have b3 := b2.fr f3 (by simp)
  rw [go_eq, Len_own oc, List.length_map, go_eq, Eql64]
  by_cases c1 : c = []
  · rw [if_pos c1] at hk
    simp only [hz, hz'] at hk
    subst c1
    rw [If_pos (show ((([] : List Int).length : Nat) : Int) = 0 from rfl)]
    exact hk h3 _ m k3 (fun i _ hi => updR_ne hi) ((Fr.toN f02 hlo).trans (Fr.toN f3 (by simp))) rfl
  rw [if_neg c1] at hk
  have hcl : 0 < c.length := List.length_pos_iff.2 c1
  rw [decide_eq_false (by omega), If_f, go_eq, CallF_eq]
  refine walk_breaks.spec k3.t hc1 (by omega) oc.rd fun bv bb h4 ob hbb f4 => ?_
  have k4 := k3.fr f4
  have b4 := b3.fr f4 (by simp)
  have oc4 := oc.fr f4 (by simp)
  have hbne : brs w.a F c ≠ [] := by unfold brs; simpa using c1
  have hbl' : (brs w.a F c).length = c.length := by unfold brs; rw [List.length_map]
  have hpr := pickT_range (s := s') hW hbne
  have hpd := pickT_d kind base noise (brs w.a F c) s'
  rw [hbl'] at hpr
  have f34 := f3.trans f4
  refine Jn_fn (σ := Unit) (fun _ => [ptr sb, cv, Iv (pickT kind base noise (brs w.a F c) s').1]) (fun _ h' => StrAt h' g (pickT kind base noise (brs w.a F c) s').2 Fp ∧ Fr Fp h4 h') ?_ ?_
  · intro J hJ
    have hJ := fun h' => hJ () h'
    unfold pickT at hJ
    by_cases c2 : kind = 2
    · rw [if_pos c2] at hJ
      try simp (disch := first | assumption | omega | (apply At.mk; with_unfolding_all rfl)) only [↓go_eq, ↓ent_eq, Mv, NilC_at, Fld_at, add_mk, Nat.zero_add, Nat.add_zero, Add64, Sub64, Mul64, Quo64, Rem64, Neg64, Cvt64, CvtU8, CvtU16, CvtU32, CvtU64, AddU64, SubU64, MulU64, Shr64, Shr_u8, Shr_u16, Shr_u32, Shr_u64, And1, And31, And32, Eql64, Neq64, Bin_lss, Bin_leq, Bin_gtr, Bin_geq, Bin_bool_eql, Bin_bool_neq, Bin_ptr_nil_eql, Bin_ptr_nil_neq, Not_dec, Un_not, Pick_t, Pick_f, Pick_pos, Pick_neg, Gd_tt, Gd_tf, Gd_ft, Gd_ff, Gd_pos_t, Gd_neg_t, Gd_pos_f, Gd_neg_f, Gd_undef, If_t, If_f, If_pos, If_neg, CallF_eq, Max_two, Min_two, Len_rd, Len_own, Ld_blkE, Idx_rdN, Idx_ownN, Idx_rdE, Idx_ownE, IdxAE, LdA_two, Idx_at0, Ext_atE, Len_at, Int.toNat_natCast, Int.toNat_zero, Int.toNat_one, List.length_map, List.length_append, List.length_cons, List.length_nil, List.length_take, List.length_set, List.length_replicate, Bool.not_true, Bool.not_false, decide_true, decide_false, BEq.rfl, bne_self_eq_false, tf_beq, ft_beq, tf_bne, ft_bne, not_true_eq_false, not_false_eq_true, app]
      exact walk_noisy.spec hbne (by omega) ob.rd k4.str (by omega) (by omega) fun h5 s5 f5 => hJ h5 ⟨s5, f5⟩
    · rw [if_neg c2] at hJ
      obtain ⟨gt, rfl, ht, hgt⟩ := htab c2
      have ht4 : TabAt h4 gt kind base := (Blk.fr ht f02 hgt).fr f34 (by simp)
      try simp (disch := first | assumption | omega | (apply At.mk; with_unfolding_all rfl)) only [↓go_eq, ↓ent_eq, Mv, NilC_at, Fld_at, add_mk, Nat.zero_add, Nat.add_zero, Add64, Sub64, Mul64, Quo64, Rem64, Neg64, Cvt64, CvtU8, CvtU16, CvtU32, CvtU64, AddU64, SubU64, MulU64, Shr64, Shr_u8, Shr_u16, Shr_u32, Shr_u64, And1, And31, And32, Eql64, Neq64, Bin_lss, Bin_leq, Bin_gtr, Bin_geq, Bin_bool_eql, Bin_bool_neq, Bin_ptr_nil_eql, Bin_ptr_nil_neq, Not_dec, Un_not, Pick_t, Pick_f, Pick_pos, Pick_neg, Gd_tt, Gd_tf, Gd_ft, Gd_ff, Gd_pos_t, Gd_neg_t, Gd_pos_f, Gd_neg_f, Gd_undef, If_t, If_f, If_pos, If_neg, CallF_eq, Max_two, Min_two, Len_rd, Len_own, Ld_blkE, Idx_rdN, Idx_ownN, Idx_rdE, Idx_ownE, IdxAE, LdA_two, Idx_at0, Ext_atE, Len_at, Int.toNat_natCast, Int.toNat_zero, Int.toNat_one, List.length_map, List.length_append, List.length_cons, List.length_nil, List.length_take, List.length_set, List.length_replicate, Bool.not_true, Bool.not_false, decide_true, decide_false, BEq.rfl, bne_self_eq_false, tf_beq, ft_beq, tf_bne, ft_bne, not_true_eq_false, not_false_eq_true, app]
      refine rng_Stream_Next.spec k4.str (by omega) (by omega) fun h5 s5 f5 => ?_
      have ht5 : TabAt h5 gt kind base := Blk.fr ht4 f5 hgt
      have ob5 := ob.fr f5 fun b hb hm => by have := hbb b hb; have := k3.str.lt b hm; omega
      try simp (disch := first | assumption | omega | (apply At.mk; with_unfolding_all rfl)) only [↓go_eq, ↓ent_eq, Mv, NilC_at, Fld_at, add_mk, Nat.zero_add, Nat.add_zero, Add64, Sub64, Mul64, Quo64, Rem64, Neg64, Cvt64, CvtU8, CvtU16, CvtU32, CvtU64, AddU64, SubU64, MulU64, Shr64, Shr_u8, Shr_u16, Shr_u32, Shr_u64, And1, And31, And32, Eql64, Neq64, Bin_lss, Bin_leq, Bin_gtr, Bin_geq, Bin_bool_eql, Bin_bool_neq, Bin_ptr_nil_eql, Bin_ptr_nil_neq, Not_dec, Un_not, Pick_t, Pick_f, Pick_pos, Pick_neg, Gd_tt, Gd_tf, Gd_ft, Gd_ff, Gd_pos_t, Gd_neg_t, Gd_pos_f, Gd_neg_f, Gd_undef, If_t, If_f, If_pos, If_neg, CallF_eq, Max_two, Min_two, Len_rd, Len_own, Ld_blkE, Idx_rdN, Idx_ownN, Idx_rdE, Idx_ownE, IdxAE, LdA_two, Idx_at0, Ext_atE, Len_at, Int.toNat_natCast, Int.toNat_zero, Int.toNat_one, List.length_map, List.length_append, List.length_cons, List.length_nil, List.length_take, List.length_set, List.length_replicate, Bool.not_true, Bool.not_false, decide_true, decide_false, BEq.rfl, bne_self_eq_false, tf_beq, ft_beq, tf_bne, ft_bne, not_true_eq_false, not_false_eq_true, app]
      exact table_Table_Pick.spec (hW.fits c2) s'.next.1 ht5 ob5.rd (by omega) (hJ h5 ⟨s5, f5⟩)
  · rintro - h5 ⟨s5, f5⟩
    simp only [app]
    have k5 := k4.put f5 s5
    have oc5 := oc4.fr f5 fun b hb hm => by have := hbc b hb; have := k2.str.lt b hm; omega
    generalize pickT kind base noise (brs w.a F c) s' = px at *
    obtain ⟨p, s''⟩ := px
    simp only at hpr hpd hk s5
    have hg : c[p.toNat]? = some (c.getD p.toNat 0) := by rw [List.getD_eq_getElem?_getD, List.getElem?_eq_getElem (by omega)]; rfl
    have ax : At (c.map Iv) p.toNat (Iv (c.getD p.toNat 0)) := At.map (f := Iv) hg
    have hlit := hc1 _ (List.mem_of_getElem? hg)
    rw [go_eq]
    refine Eq.mpr (Idx_ownE oc5 hpr.1 ax) ?_
    rw [go_eq]
    refine lit_var_q hlit (by have := k.t.s.nb; omega) ?_
    rw [go_eq, CallF_eq]
    refine local_State_Flip.spec5 k5.t hG hfl fun h6 R6 m6 t6 hR6 f6 er6 => ?_
    refine hk h6 R6 m6 ⟨t6, k.hq, k.qo, (hR6 q k.qo).trans k5.rq⟩ (fun i hi hiq => (hR6 i hi).trans ((updR_ne hiq).trans (updR_ne hiq))) ?_ er6
    exact ((((Fr.toN f02 hlo).trans (Fr.toN f34 (by simp))).trans (Fr.toN f5 hlo))).trans f6
end
end Go.Proofs.Ytonngdjfnnibaaa

/- Steps, runs and walks as a whole. Conditions: those typed ahead of each theorem. -/
namespace Go.Proofs.Ytonngdjfnnibaaa
open Go.Pt
set_option linter.unusedVariables false
set_option linter.unusedSimpArgs false
section
variable {N M : Nat} {h h' : Heap} {R : Nat → Res} {o sb n : Nat} {m : LMod} {Q : Ret} {F : List (List Int)} {w : W} {q g : Nat} {s : Str} {Fp : List Nat}
set_option maxHeartbeats 1000000 in
theorem walk_Step.spec {kind base noise : Int} (hW : WOk kind base noise) (k : Wst N h M R o sb n F w m q g s Fp) (hG : GF n F) (hfl : 0 ≤ w.fl ∧ w.fl ≤ 1000000) (hd : s.d ≤ 1000000) (hl : s.ws.length ≤ 1000000)
    (hk : ∀ h' R' m', Wst N h' M R' o sb n F (w.flip n F ((stepT kind base noise w.a F m.row s).1 : Nat)) m' q g (stepT kind base noise w.a F m.row s).2 Fp → (∀ i, (i < o ∨ o + 8 + 2 * n + F.length ≤ i) → i ≠ q → R' i = R i) → FrN N h h' → m'.row = rowW n F w.a ((stepT kind base noise w.a F m.row s).1 : Nat) m.row → Q (Iv ((stepT kind base noise w.a F m.row s).1 : Nat)) h') : CallH Try.prog walk_Step.id #[ptr sb, .agg #[Iv kind, Iv base, Iv noise], ptr g] Q h := by
  refine walk_Step.ok ?_
  simp only [walk_Step.pt]
  rw [go_eq]
  refine New_blk fun h1 b1 f1 s1 => ?_
  have b1 : Blk h1 h.size [Iv kind, Iv base, Iv noise] := b1
  have k1 := k.fr f1
  rw [go_eq, LdA_three b1]
  have fin : ∀ tv r h2, TabR kind base tv r → r.own h2 → (∀ b ∈ r.fp, h1.size ≤ b) → Fr [] h1 h2 → CallH Try.prog walk_step.id #[ptr sb, .agg #[Iv kind, Iv base, Iv noise], tv, ptr g] Q h2 := by
    intro tv r h2 ht ow hb f2
    refine walk_step.spec hW (k1.fr f2) (fun c => ?_) hG hfl hd hl fun h3 R3 m3 k3 hR3 f3 er => hk h3 R3 m3 k3 hR3 ((Fr.toN (f1.trans f2) (by simp)).trans f3) er
    obtain ⟨gt, e, er⟩ := ht c
    subst er
    exact ⟨gt, e, ow, fun hm => by have := k1.str.lt _ hm; have := hb gt (by simp [rBlk]); omega⟩
  refine And.intro ?_ ?_
  · rw [go_eq, LdA_three b1, go_eq, CallF_eq]
    refine walk_Way_rows.spec hW fun tv r h2 ht hc ow hb f2 => ?_
    rw [go_eq, CallF_eq]
    exact fin tv r h2 ht ow hb f2
  · rw [go_eq, CallF_eq]
    refine walk_Way_rows.spec hW fun tv r h2 ht hc ow hb f2 => ?_
    rw [go_eq, LdA_three (b1.fr f2 (by simp)), go_eq, CallF_eq]
    exact fin tv r h2 ht ow hb f2
def RowOk (n : Nat) (a : List Bool) (F : List (List Int)) (row : List Nat) : Prop := row.length = unT a F ∧ (∀ i, i ∈ row ↔ ∃ c, F[i]? = some c ∧ hB (litT a) c = 0) ∧ a.length = n
theorem St4.rowOk (t : St4 N h M R o sb n F w m) : RowOk n w.a F m.row := ⟨t.r.un, t.r.rowm, t.al⟩
theorem Wst.less {M' : Nat} (k : Wst N h M R o sb n F w m q g s Fp) (h1 : M' ≤ M) (h2 : o + 8 + 2 * n + F.length ≤ M') (h3 : q < M') : Wst N h M' R o sb n F w m q g s Fp := ⟨k.t.less h1 h2, h3, k.qo, k.rq⟩
theorem Wst.more {r : Res} (k : Wst N h M R o sb n F w m q g s Fp) (f : Fr [] h h') (ow : r.own h') (hb : ∀ b ∈ r.fp, h.size ≤ b) : Wst N h' (M + 1) (updR R M r) o sb n F w m q g s Fp :=
  ⟨k.t.more f ow hb, Nat.lt_succ_of_lt k.hq, k.qo, (updR_ne (Nat.ne_of_lt k.hq)).trans k.rq⟩
set_option maxHeartbeats 2000000 in
theorem walk_Run.spec (P : Nat → W → List Nat → Str → Prop) {kind base noise most : Int} (hW : WOk kind base noise) (k : Wst N h M R o sb n F w m q g s Fp) (hG : GF n F) (hfl : 0 ≤ w.fl ∧ w.fl ≤ 100000) (hd : s.d ≤ 100000) (hl : s.ws.length ≤ 1000000) (hm : most ≤ 100000)
    (h0 : P 0 w m.row s)
    (hst : ∀ i w row s, P i w row s → (i : Int) < most → row.length ≠ 0 → RowOk n w.a F row → P (i + 1) (w.flip n F ((stepT kind base noise w.a F row s).1 : Nat)) (rowW n F w.a ((stepT kind base noise w.a F row s).1 : Nat) row) (stepT kind base noise w.a F row s).2)
    (hk : ∀ i h' R' w' m' s', P i w' m'.row s' → (i : Int) ≤ max most 0 → ¬ ((i : Int) < most ∧ 0 < m'.row.length) → Wst N h' M R' o sb n F w' m' q g s' Fp → (∀ x, x < M → (x < o ∨ o + 8 + 2 * n + F.length ≤ x) → x ≠ q → R' x = R x) → FrN N h h' → 0 ≤ w'.fl ∧ w'.fl ≤ w.fl + i → s'.d ≤ s.d + 3 * i → s'.ws = s.ws → Q (Iv (i : Nat)) h') : CallH Try.prog walk_Run.id #[ptr sb, .agg #[Iv kind, Iv base, Iv noise], ptr g, Iv most] Q h := by
  refine walk_Run.ok ?_
  simp only [walk_Run.pt]
  rw [go_eq]
  refine New_blk fun h1 b1 f1 s1 => ?_
  have b1 : Blk h1 h.size [Iv kind, Iv base, Iv noise] := b1
  rw [go_eq, LdA_three b1, go_eq, CallF_eq]
  refine walk_Way_rows.spec hW fun tv r h2 ht hc ow hb f2 => ?_
  have b2 := b1.fr f2 (by simp)
  have z1 := f1.size
  have z2 := f2.size
  have k1 := k.more (r := rBlk h.size [Iv kind, Iv base, Iv noise]) f1 b1 (by simp [rBlk])
  have k2 := k1.more (r := r) f2 ow hb
  have hM := k.t.s.hM
  have hq := k.hq
  have qo := k.qo
  have hbel : 0 ≤ w.fl := hfl.1
  refine Lp_fn (σ := Nat × W × LMod × (Nat → Res) × Str) (fun x => [ptr sb, ptr g, Iv most, ptr h.size, tv, Iv (x.1 : Nat)])
    (fun x h' => P x.1 x.2.1 x.2.2.1.row x.2.2.2.2 ∧ (x.1 : Int) ≤ max most 0 ∧ Wst N h' (M + 1 + 1) x.2.2.2.1 o sb n F x.2.1 x.2.2.1 q g x.2.2.2.2 Fp ∧ x.2.2.2.1 M = rBlk h.size [Iv kind, Iv base, Iv noise] ∧ x.2.2.2.1 (M + 1) = r ∧ (∀ y, y < M → (y < o ∨ o + 8 + 2 * n + F.length ≤ y) → y ≠ q → x.2.2.2.1 y = R y) ∧ FrN N h h' ∧ (0 ≤ x.2.1.fl ∧ x.2.1.fl ≤ w.fl + x.1) ∧ x.2.2.2.2.d ≤ s.d + 3 * x.1 ∧ x.2.2.2.2.ws = s.ws) (fun x => most.toNat - x.1)
    (0, w, m, _, s) rfl (fun _ => rfl) ⟨h0, by show ((0 : Nat) : Int) ≤ _; omega, k2, (updR_ne (by omega)).trans (updR_at _ _ _), updR_at _ _ _, fun y hy _ _ => (updR_ne (by omega)).trans (updR_ne (by omega)), Fr.toN (f1.trans f2) (by simp), ⟨hfl.1, by show w.fl ≤ w.fl + ((0 : Nat) : Int); omega⟩, Nat.le_refl _, rfl⟩ ?_
  clear b1 b2 k1 k2
  rintro ⟨i, wi, mi, Ri, si⟩ h3 ⟨hP, hi, ki, eM, eM1, hR, f3, hf, hdi, hwi⟩ X hX
  simp only at hP hi ki eM eM1 hR hf hdi hwi
  have hwl : si.ws.length = s.ws.length := by rw [hwi]
  have ex : ¬ ((i : Int) < most ∧ 0 < mi.row.length) → Q (Iv (i : Nat)) h3 := fun q => hk i h3 Ri wi mi si hP hi q (ki.less (by omega) hM hq) hR f3 hf hdi hwi
  by_cases c1 : (i : Int) < most
  rotate_left
  · try simp (disch := first | assumption | omega | (apply At.mk; with_unfolding_all rfl)) only [↓go_eq, ↓ent_eq, Mv, NilC_at, Fld_at, add_mk, Nat.zero_add, Nat.add_zero, Add64, Sub64, Mul64, Quo64, Rem64, Neg64, Cvt64, CvtU8, CvtU16, CvtU32, CvtU64, AddU64, SubU64, MulU64, Shr64, Shr_u8, Shr_u16, Shr_u32, Shr_u64, And1, And31, And32, Eql64, Neq64, Bin_lss, Bin_leq, Bin_gtr, Bin_geq, Bin_bool_eql, Bin_bool_neq, Bin_ptr_nil_eql, Bin_ptr_nil_neq, Not_dec, Un_not, Pick_t, Pick_f, Pick_pos, Pick_neg, Gd_tt, Gd_tf, Gd_ft, Gd_ff, Gd_pos_t, Gd_neg_t, Gd_pos_f, Gd_neg_f, Gd_undef, If_t, If_f, If_pos, If_neg, CallF_eq, Max_two, Min_two, Len_rd, Len_own, Ld_blkE, Idx_rdN, Idx_ownN, Idx_rdE, Idx_ownE, IdxAE, LdA_two, Idx_at0, Ext_atE, Len_at, Int.toNat_natCast, Int.toNat_zero, Int.toNat_one, List.length_map, List.length_append, List.length_cons, List.length_nil, List.length_take, List.length_set, List.length_replicate, Bool.not_true, Bool.not_false, decide_true, decide_false, BEq.rfl, bne_self_eq_false, tf_beq, ft_beq, tf_bne, ft_bne, not_true_eq_false, not_false_eq_true, app]
    exact ex fun q => c1 q.1
  try simp (disch := first | assumption | omega | (apply At.mk; with_unfolding_all rfl)) only [↓go_eq, ↓ent_eq, Mv, NilC_at, Fld_at, add_mk, Nat.zero_add, Nat.add_zero, Add64, Sub64, Mul64, Quo64, Rem64, Neg64, Cvt64, CvtU8, CvtU16, CvtU32, CvtU64, AddU64, SubU64, MulU64, Shr64, Shr_u8, Shr_u16, Shr_u32, Shr_u64, And1, And31, And32, Eql64, Neq64, Bin_lss, Bin_leq, Bin_gtr, Bin_geq, Bin_bool_eql, Bin_bool_neq, Bin_ptr_nil_eql, Bin_ptr_nil_neq, Not_dec, Un_not, Pick_t, Pick_f, Pick_pos, Pick_neg, Gd_tt, Gd_tf, Gd_ft, Gd_ff, Gd_pos_t, Gd_neg_t, Gd_pos_f, Gd_neg_f, Gd_undef, If_t, If_f, If_pos, If_neg, CallF_eq, Max_two, Min_two, Len_rd, Len_own, Ld_blkE, Idx_rdN, Idx_ownN, Idx_rdE, Idx_ownE, IdxAE, LdA_two, Idx_at0, Ext_atE, Len_at, Int.toNat_natCast, Int.toNat_zero, Int.toNat_one, List.length_map, List.length_append, List.length_cons, List.length_nil, List.length_take, List.length_set, List.length_replicate, Bool.not_true, Bool.not_false, decide_true, decide_false, BEq.rfl, bne_self_eq_false, tf_beq, ft_beq, tf_bne, ft_bne, not_true_eq_false, not_false_eq_true, app]
  refine unsat_m ki.t ?_
  by_cases c2 : (mi.row.length : Int) > 0
  rotate_left
  · try simp (disch := first | assumption | omega | (apply At.mk; with_unfolding_all rfl)) only [↓go_eq, ↓ent_eq, Mv, NilC_at, Fld_at, add_mk, Nat.zero_add, Nat.add_zero, Add64, Sub64, Mul64, Quo64, Rem64, Neg64, Cvt64, CvtU8, CvtU16, CvtU32, CvtU64, AddU64, SubU64, MulU64, Shr64, Shr_u8, Shr_u16, Shr_u32, Shr_u64, And1, And31, And32, Eql64, Neq64, Bin_lss, Bin_leq, Bin_gtr, Bin_geq, Bin_bool_eql, Bin_bool_neq, Bin_ptr_nil_eql, Bin_ptr_nil_neq, Not_dec, Un_not, Pick_t, Pick_f, Pick_pos, Pick_neg, Gd_tt, Gd_tf, Gd_ft, Gd_ff, Gd_pos_t, Gd_neg_t, Gd_pos_f, Gd_neg_f, Gd_undef, If_t, If_f, If_pos, If_neg, CallF_eq, Max_two, Min_two, Len_rd, Len_own, Ld_blkE, Idx_rdN, Idx_ownN, Idx_rdE, Idx_ownE, IdxAE, LdA_two, Idx_at0, Ext_atE, Len_at, Int.toNat_natCast, Int.toNat_zero, Int.toNat_one, List.length_map, List.length_append, List.length_cons, List.length_nil, List.length_take, List.length_set, List.length_replicate, Bool.not_true, Bool.not_false, decide_true, decide_false, BEq.rfl, bne_self_eq_false, tf_beq, ft_beq, tf_bne, ft_bne, not_true_eq_false, not_false_eq_true, app]
    exact ex fun q => c2 (by have := q.2; omega)
  try simp (disch := first | assumption | omega | (apply At.mk; with_unfolding_all rfl)) only [↓go_eq, ↓ent_eq, Mv, NilC_at, Fld_at, add_mk, Nat.zero_add, Nat.add_zero, Add64, Sub64, Mul64, Quo64, Rem64, Neg64, Cvt64, CvtU8, CvtU16, CvtU32, CvtU64, AddU64, SubU64, MulU64, Shr64, Shr_u8, Shr_u16, Shr_u32, Shr_u64, And1, And31, And32, Eql64, Neq64, Bin_lss, Bin_leq, Bin_gtr, Bin_geq, Bin_bool_eql, Bin_bool_neq, Bin_ptr_nil_eql, Bin_ptr_nil_neq, Not_dec, Un_not, Pick_t, Pick_f, Pick_pos, Pick_neg, Gd_tt, Gd_tf, Gd_ft, Gd_ff, Gd_pos_t, Gd_neg_t, Gd_pos_f, Gd_neg_f, Gd_undef, If_t, If_f, If_pos, If_neg, CallF_eq, Max_two, Min_two, Len_rd, Len_own, Ld_blkE, Idx_rdN, Idx_ownN, Idx_rdE, Idx_ownE, IdxAE, LdA_two, Idx_at0, Ext_atE, Len_at, Int.toNat_natCast, Int.toNat_zero, Int.toNat_one, List.length_map, List.length_append, List.length_cons, List.length_nil, List.length_take, List.length_set, List.length_replicate, Bool.not_true, Bool.not_false, decide_true, decide_false, BEq.rfl, bne_self_eq_false, tf_beq, ft_beq, tf_bne, ft_bne, not_true_eq_false, not_false_eq_true, app]
  have bx : Blk h3 h.size [Iv kind, Iv base, Iv noise] := ki.t.s.sep.is (by omega) eM
  rw [LdA_three bx]
  have sd := stepT_d kind base noise wi.a F mi.row si
  have wf := W.flip_fl (n := n) (F := F) (w := wi) (v := ((stepT kind base noise wi.a F mi.row si).1 : Nat))
  have hPn := hst i wi mi.row si hP c1 (by omega) ki.t.rowOk
  refine walk_step.spec hW ki (fun c => ?_) hG ⟨hf.1, by omega⟩ (by omega) (by omega) fun h4 R4 m4 k4 hR4 f4 er4 => ?_
  · obtain ⟨gt, e, er⟩ := ht c
    have ot := ki.t.s.sep.own (M + 1) (by omega)
    have dj := ki.t.s.sep.dj (M + 1) q (by omega) (by omega) (by omega)
    rw [eM1, er] at ot
    rw [eM1, er, ki.rq] at dj
    exact ⟨gt, e, ot, dj gt (by simp [rBlk])⟩
  · rw [← er4] at hPn
    generalize stepT kind base noise wi.a F mi.row si = st at *
    try simp (disch := first | assumption | omega | (apply At.mk; with_unfolding_all rfl)) only [↓go_eq, ↓ent_eq, Mv, NilC_at, Fld_at, add_mk, Nat.zero_add, Nat.add_zero, Add64, Sub64, Mul64, Quo64, Rem64, Neg64, Cvt64, CvtU8, CvtU16, CvtU32, CvtU64, AddU64, SubU64, MulU64, Shr64, Shr_u8, Shr_u16, Shr_u32, Shr_u64, And1, And31, And32, Eql64, Neq64, Bin_lss, Bin_leq, Bin_gtr, Bin_geq, Bin_bool_eql, Bin_bool_neq, Bin_ptr_nil_eql, Bin_ptr_nil_neq, Not_dec, Un_not, Pick_t, Pick_f, Pick_pos, Pick_neg, Gd_tt, Gd_tf, Gd_ft, Gd_ff, Gd_pos_t, Gd_neg_t, Gd_pos_f, Gd_neg_f, Gd_undef, If_t, If_f, If_pos, If_neg, CallF_eq, Max_two, Min_two, Len_rd, Len_own, Ld_blkE, Idx_rdN, Idx_ownN, Idx_rdE, Idx_ownE, IdxAE, LdA_two, Idx_at0, Ext_atE, Len_at, Int.toNat_natCast, Int.toNat_zero, Int.toNat_one, List.length_map, List.length_append, List.length_cons, List.length_nil, List.length_take, List.length_set, List.length_replicate, Bool.not_true, Bool.not_false, decide_true, decide_false, BEq.rfl, bne_self_eq_false, tf_beq, ft_beq, tf_bne, ft_bne, not_true_eq_false, not_false_eq_true, app]
    try simp only [show (i : Int) + 1 = ((i + 1 : Nat) : Int) from by omega]
    refine hX (i + 1, _, m4, R4, st.2) h4 ⟨hPn, by show ((i + 1 : Nat) : Int) ≤ _; omega, k4, (hR4 M (by omega) (by omega)).trans eM, (hR4 (M + 1) (by omega) (by omega)).trans eM1, fun y hy ho hq' => (hR4 y ho hq').trans (hR y hy ho hq'), f3.trans f4, ⟨Int.le_trans hf.1 wf.1, by show (W.flip n F wi (st.1 : Nat)).fl ≤ w.fl + ((i + 1 : Nat) : Int); omega⟩, by simp only; omega, by simp only; exact sd.2.2.1.trans hwi⟩ (by simp only; omega)
theorem st_over {N' k M' : Nat} {R0 R1 : Nat → Res} (s0 : Sep N h k R0) (t : St4 N' h' M' R1 0 sb n F w m) (f : Fr [] h h') (hN : N ≤ h.size) (hN' : h.size ≤ N') : ∃ R2, St4 N h' (k + M') R2 k sb n F w m ∧ ∀ i, i < k → R2 i = R0 i := by
  have sp := s0.append t.s.sep f hN' hN
  have hM' := t.s.hM
  have z := f.size
  have := t.s.nN
  refine ⟨_, ⟨⟨sp, t.s.lr.shift fun q hq => ?_, t.s.st, by omega, by omega, t.s.al, t.s.nb, t.s.Kb⟩, t.r⟩, fun i hi => if_pos hi⟩
  rw [if_neg (by omega), Nat.add_sub_cancel_left]
set_option maxHeartbeats 4000000 in
theorem walk_Walk.specS (P : Nat → W → List Nat → Str → Prop) {kind base noise most : Int} {cs : List (List Int)} {ws : List Value} {v av : Value} {a : List Bool} {k : Nat} {R0 : Nat → Res} (hW : WOk kind base noise) (hn : n ≤ 1000) (hcl : cs.length ≤ 1000) (hll : ∀ c ∈ cs, c.length ≤ 1000) (hF : FOk n cs) (hw : RdL h v cs ws) (ha : Rd h av (a.map .bool)) (hal : a.length ≤ 1000000)
    (S0 : Sep N h k R0) (hq : q < k) (rq : R0 q = rStr g s Fp) (hNh : N ≤ h.size) (hd : s.d ≤ 100000) (hl : s.ws.length ≤ 1000000) (hm : most ≤ 100000)
    (h0 : a.length = n → P 0 ⟨a, a, (unT a (fmT cs) : Nat), 0⟩ (row0 a (fmT cs)) s)
    (hst : ∀ i w row s, P i w row s → (i : Int) < most → row.length ≠ 0 → RowOk n w.a (fmT cs) row → P (i + 1) (w.flip n (fmT cs) ((stepT kind base noise w.a (fmT cs) row s).1 : Nat)) (rowW n (fmT cs) w.a ((stepT kind base noise w.a (fmT cs) row s).1 : Nat) row) (stepT kind base noise w.a (fmT cs) row s).2)
    (hk0 : a.length ≠ n → ∀ h', Fr [] h h' → Q (.tuple #[.agg #[nilS, Iv 0, Iv 0], Iv 1]) h')
    (hk : a.length = n → ∀ i h' bv bs w' row' s' R', P i w' row' s' → (i : Int) ≤ max most 0 → ¬ ((i : Int) < most ∧ 0 < row'.length) → RowOk n w'.a (fmT cs) row' → w'.z.length = n → Sep N h' k R' → R' q = rStr g s' Fp → (∀ i, i < k → i ≠ q → R' i = R0 i) → Own h' bv (w'.z.map .bool) bs → (∀ b ∈ bs, h.size ≤ b) → FrN N h h' → s'.d ≤ s.d + 3 * i → Q (.tuple #[.agg #[bv, Iv w'.few, Iv (i : Nat)], Iv 0]) h') :
    CallH Try.prog walk_Walk.id #[.agg #[Iv n, v], av, .agg #[Iv kind, Iv base, Iv noise], ptr g, Iv most] Q h := by
  refine walk_Walk.ok ?_
  simp only [walk_Walk.pt]
  have hvc := hw.rd.isCell
  rw [go_eq]
  refine New_blk fun h1 b1 f1 s1 => ?_
  have b1 : Blk h1 h.size [Iv n, v] := b1
  rw [go_eq]
  refine New_blk fun h2 b2 f2 s2 => ?_
  have b2 : Blk h2 h1.size [Iv kind, Iv base, Iv noise] := b2
  rw [go_eq]
  refine New_blk fun h3 b3 f3 s3 => ?_
  have b3 : Blk h3 h2.size [nilS, Iv 0, Iv 0] := b3
  have z1 := f1.size
  have z2 := f2.size
  have z3 := f3.size
  have S1 := (S0.fr f1).add (r := rBlk h1.size [Iv kind, Iv base, Iv noise]) f2 b2 (by simp [rBlk]) (by omega)
  have S2 := S1.add (r := rBlk h2.size [nilS, Iv 0, Iv 0]) f3 b3 (by simp [rBlk]) (by omega)
  have f03 := (f1.trans f2).trans f3
  have b13 := (b1.fr f2 (by simp)).fr f3 (by simp)
  rw [go_eq, LdA_two b13, go_eq, CallF_eq]
  refine local_New.spec hn hcl hll hF (hw.fr f03) (ha.fr f03) (by omega) (fun e h4 f4 => ?_) fun e h4 sb M' R1 m1 ls rt f4 rs => ?_
  · have b4 := b3.fr f4 (by simp)
    rw [go_eq, Ext_atE ⟨rfl⟩, go_eq, Ext_atE ⟨rfl⟩, go_eq, Neq64, decide_eq_true (by decide), If_t]
    rw [go_eq, show Bld [(0, 1), (1, 1), (2, 1)] #[(.slice none 0 0), (.int .i64 0), (.int .i64 0)] [] = fun (K : Ret) h => K (.agg #[nilS, Iv 0, Iv 0]) h from by funext K h; rw [Bld_eq, fill_nil]]
    show go (StA 3 _ _) h4 _
    rw [go_eq]
    refine StA_three b4 rfl rfl rfl fun h5 b5 f5 => ?_
    rw [go_eq, LdA_three b5]
    exact hk0 e h5 ((f03.trans f4).trans' f5 fun b hb => .inr (by simp at hb; omega))
  have hG := GF_fmT (n := n) hF hll
  have hrow := row0_eq rt rs
  have h0 := h0 e
  rw [← hrow] at h0
  generalize fmT cs = F at *
  have t4 : St4 h3.size h4 M' R1 0 sb n F ⟨a, a, (unT a F : Nat), 0⟩ m1 := ⟨ls, rt⟩
  obtain ⟨R2, tt, eR⟩ := st_over S2 t4 f4 (by omega) (Nat.le_refl _)
  have k4 : Wst N h4 (k + 1 + 1 + M') R2 (k + 1 + 1) sb n F ⟨a, a, (unT a F : Nat), 0⟩ m1 q g s Fp := ⟨tt, by omega, by omega, (eR q (by omega)).trans ((updR_ne (by omega)).trans ((updR_ne (by omega)).trans rq))⟩
  have e1 : R2 k = rBlk h1.size [Iv kind, Iv base, Iv noise] := (eR k (by omega)).trans ((updR_ne (by omega)).trans (updR_at _ _ _))
  have e2 : R2 (k + 1) = rBlk h2.size [nilS, Iv 0, Iv 0] := (eR (k + 1) (by omega)).trans (updR_at _ _ _)
  have bw : Blk h4 h1.size [Iv kind, Iv base, Iv noise] := tt.s.sep.is (by omega) e1
  rw [go_eq, Ext_atE ⟨rfl⟩, go_eq, Ext_atE ⟨rfl⟩, go_eq, Neq64, decide_eq_false (by decide), If_f, go_eq, LdA_three bw, go_eq, CallF_eq]
  refine walk_Run.spec P hW k4 hG ⟨Int.le_refl _, by show (0 : Int) ≤ _; decide⟩ hd hl hm h0 hst fun i h5 R5 w5 m5 s5 hP hi hex k5 hR5 f5 hf5 hd5 hw5 => ?_
  have e2' : R5 (k + 1) = rBlk h2.size [nilS, Iv 0, Iv 0] := (hR5 (k + 1) (by omega) (by omega) (by omega)).trans e2
  have hb5 : Blk h5 h2.size [nilS, Iv 0, Iv 0] := k5.t.s.sep.is (by omega) e2'
  have n5 := k5.t.s.nN
  rw [go_eq, CallF_eq]
  refine best_w k5.t fun bv bs h6 o6 hbs f6 => ?_
  have hb6 := hb5.fr f6 (by simp)
  have k6 := k5.fr f6
  rw [go_eq, Ext_atE ⟨rfl⟩, go_eq, Ext_atE ⟨rfl⟩, go_eq]
  have eb : ∀ (K : Ret) h, Bld [(0, 1), (1, 1), (2, 1)] #[(.slice none 0 0), (.int .i64 0), (.int .i64 0)] [(0, bv), (1, Iv w5.few), (2, Iv (i : Nat))] K h = K (.agg #[bv, Iv w5.few, Iv (i : Nat)]) h := by
    intro K h
    rw [Bld_eq, fill_one rfl o6.rd.isCell (by simp), fill_one rfl rfl (by simp), fill_one rfl rfl (by simp), fill_nil]; rfl
  rw [eb, go_eq]
  refine StA_three hb6 o6.rd.isCell rfl rfl fun h7 b7 f7 => ?_
  rw [go_eq, LdA_three b7]
  have f05 : FrN N h h5 := (Fr.toN (f03.trans f4) (by simp)).trans f5
  have z5 := f5.size
  have hlt5 := hb5.lt
  have z4 := f4.size
  have s7 := k6.t.s.sep.set (i := k + 1) (r := rBlk h2.size [bv, Iv w5.few, Iv (i : Nat)]) (by omega) (by rw [e2']; exact f7) b7 (by rw [e2']; exact fun b hb => .inl hb) k6.t.s.nN
  refine hk e i h7 bv bs w5 m5.row s5 _ hP hi hex k5.t.rowOk (by rw [← k5.t.r.ez]; exact k5.t.r.ez ▸ k5.t.r.zl) (s7.less (by omega)) ((updR_ne (by omega)).trans k5.rq) (fun i hi hiq => (updR_ne (by omega)).trans ((hR5 i (by omega) (by omega) hiq).trans ((eR i (by omega)).trans ((updR_ne (by omega)).trans (updR_ne (by omega)))))) (o6.fr f7 fun b hb hm => by have := hbs b hb; simp at hm; omega) (fun b hb => by have := hbs b hb; have := f05.size; omega) ((f05.trans (Fr.toN f6 (by simp))).trans (Fr.toN f7 fun b hb => by simp at hb; omega)) hd5
theorem walk_Walk.spec (P : Nat → W → List Nat → Str → Prop) {kind base noise most : Int} {cs : List (List Int)} {ws : List Value} {v av : Value} {a : List Bool} (hW : WOk kind base noise) (hn : n ≤ 1000) (hcl : cs.length ≤ 1000) (hll : ∀ c ∈ cs, c.length ≤ 1000) (hF : FOk n cs) (hw : RdL h v cs ws) (ha : Rd h av (a.map .bool)) (hal : a.length ≤ 1000000)
    (hs : StrAt h g s Fp) (hN : ∀ b ∈ Fp, N ≤ b) (hNh : N ≤ h.size) (hd : s.d ≤ 100000) (hl : s.ws.length ≤ 1000000) (hm : most ≤ 100000)
    (h0 : a.length = n → P 0 ⟨a, a, (unT a (fmT cs) : Nat), 0⟩ (row0 a (fmT cs)) s)
    (hst : ∀ i w row s, P i w row s → (i : Int) < most → row.length ≠ 0 → RowOk n w.a (fmT cs) row → P (i + 1) (w.flip n (fmT cs) ((stepT kind base noise w.a (fmT cs) row s).1 : Nat)) (rowW n (fmT cs) w.a ((stepT kind base noise w.a (fmT cs) row s).1 : Nat) row) (stepT kind base noise w.a (fmT cs) row s).2)
    (hk0 : a.length ≠ n → ∀ h', Fr [] h h' → Q (.tuple #[.agg #[nilS, Iv 0, Iv 0], Iv 1]) h')
    (hk : a.length = n → ∀ i h' bv bs w' row' s', P i w' row' s' → (i : Int) ≤ max most 0 → ¬ ((i : Int) < most ∧ 0 < row'.length) → RowOk n w'.a (fmT cs) row' → w'.z.length = n → StrAt h' g s' Fp → Own h' bv (w'.z.map .bool) bs → (∀ b ∈ bs, h.size ≤ b) → FrN N h h' → s'.d ≤ s.d + 3 * i → Q (.tuple #[.agg #[bv, Iv w'.few, Iv (i : Nat)], Iv 0]) h') :
    CallH Try.prog walk_Walk.id #[.agg #[Iv n, v], av, .agg #[Iv kind, Iv base, Iv noise], ptr g, Iv most] Q h :=
  walk_Walk.specS P (q := 0) (k := 1) (R0 := fun _ => rStr g s Fp) hW hn hcl hll hF hw ha hal ⟨fun _ _ => hs, fun _ _ => hN, fun i j hi hj hij => absurd (show i = j by omega) hij⟩ (by decide) rfl hNh hd hl hm h0 hst hk0
    fun e i h' bv bs w' row' s' R' hP hi hex hro hz S rq hR o hb f hd => hk e i h' bv bs w' row' s' hP hi hex hro hz (by have := S.own 0 (by decide); rw [rq] at this; exact this) o hb f hd
end
end Go.Proofs.Ytonngdjfnnibaaa

/- What the laws of the walk use. Conditions: those typed ahead of each theorem. -/
namespace Go.Proofs.Ytonngdjfnnibaaa
open Go.Pt
set_option linter.unusedVariables false
set_option linter.unusedSimpArgs false
section
variable {h : Heap} {K : Ret}
theorem walk_Right.spec (kind base noise : Int) (hk : ∀ (b : Bool) h', (b = true ↔ WOk kind base noise) → Fr [] h h' → K (.bool b) h') : CallH Try.prog walk_Right.id #[.agg #[Iv kind, Iv base, Iv noise]] K h := by
  refine walk_Right.ok ?_
  simp only [walk_Right.pt]
  rw [go_eq]
  refine New_blk fun h1 b1 f1 s1 => ?_
  have b1 : Blk h1 h.size [Iv kind, Iv base, Iv noise] := b1
  by_cases c : kind = 2
  · subst c
    have hk' : ∀ (b : Bool), (b = true ↔ (base = 0 ∧ 0 ≤ noise ∧ noise ≤ 1000)) → K (.bool b) h1 := fun b hb => hk b h1 (hb.trans ⟨fun q => .inr ⟨rfl, q⟩, fun q => by
      rcases q with ⟨q, _⟩ | ⟨_, q⟩
      · unfold Fits at q; omega
      · exact q⟩) f1
    by_cases c1 : base = 0
    · by_cases c2 : noise ≥ 0
      · try simp (disch := first | assumption | omega | (apply At.mk; with_unfolding_all rfl)) only [↓go_eq, ↓ent_eq, Mv, NilC_at, Fld_at, add_mk, Nat.zero_add, Nat.add_zero, Add64, Sub64, Mul64, Quo64, Rem64, Neg64, Cvt64, CvtU8, CvtU16, CvtU32, CvtU64, AddU64, SubU64, MulU64, Shr64, Shr_u8, Shr_u16, Shr_u32, Shr_u64, And1, And31, And32, Eql64, Neq64, Bin_lss, Bin_leq, Bin_gtr, Bin_geq, Bin_bool_eql, Bin_bool_neq, Bin_ptr_nil_eql, Bin_ptr_nil_neq, Not_dec, Un_not, Pick_t, Pick_f, Pick_pos, Pick_neg, Gd_tt, Gd_tf, Gd_ft, Gd_ff, Gd_pos_t, Gd_neg_t, Gd_pos_f, Gd_neg_f, Gd_undef, If_t, If_f, If_pos, If_neg, CallF_eq, Max_two, Min_two, Len_rd, Len_own, Ld_blkE, Idx_rdN, Idx_ownN, Idx_rdE, Idx_ownE, IdxAE, LdA_two, Idx_at0, Ext_atE, Len_at, Int.toNat_natCast, Int.toNat_zero, Int.toNat_one, List.length_map, List.length_append, List.length_cons, List.length_nil, List.length_take, List.length_set, List.length_replicate, Bool.not_true, Bool.not_false, decide_true, decide_false, BEq.rfl, bne_self_eq_false, tf_beq, ft_beq, tf_bne, ft_bne, not_true_eq_false, not_false_eq_true, app]
        exact hk' _ (by rw [decide_eq_true_iff]; omega)
      · try simp (disch := first | assumption | omega | (apply At.mk; with_unfolding_all rfl)) only [↓go_eq, ↓ent_eq, Mv, NilC_at, Fld_at, add_mk, Nat.zero_add, Nat.add_zero, Add64, Sub64, Mul64, Quo64, Rem64, Neg64, Cvt64, CvtU8, CvtU16, CvtU32, CvtU64, AddU64, SubU64, MulU64, Shr64, Shr_u8, Shr_u16, Shr_u32, Shr_u64, And1, And31, And32, Eql64, Neq64, Bin_lss, Bin_leq, Bin_gtr, Bin_geq, Bin_bool_eql, Bin_bool_neq, Bin_ptr_nil_eql, Bin_ptr_nil_neq, Not_dec, Un_not, Pick_t, Pick_f, Pick_pos, Pick_neg, Gd_tt, Gd_tf, Gd_ft, Gd_ff, Gd_pos_t, Gd_neg_t, Gd_pos_f, Gd_neg_f, Gd_undef, If_t, If_f, If_pos, If_neg, CallF_eq, Max_two, Min_two, Len_rd, Len_own, Ld_blkE, Idx_rdN, Idx_ownN, Idx_rdE, Idx_ownE, IdxAE, LdA_two, Idx_at0, Ext_atE, Len_at, Int.toNat_natCast, Int.toNat_zero, Int.toNat_one, List.length_map, List.length_append, List.length_cons, List.length_nil, List.length_take, List.length_set, List.length_replicate, Bool.not_true, Bool.not_false, decide_true, decide_false, BEq.rfl, bne_self_eq_false, tf_beq, ft_beq, tf_bne, ft_bne, not_true_eq_false, not_false_eq_true, app]
        exact hk' _ (by simp; omega)
    · try simp (disch := first | assumption | omega | (apply At.mk; with_unfolding_all rfl)) only [↓go_eq, ↓ent_eq, Mv, NilC_at, Fld_at, add_mk, Nat.zero_add, Nat.add_zero, Add64, Sub64, Mul64, Quo64, Rem64, Neg64, Cvt64, CvtU8, CvtU16, CvtU32, CvtU64, AddU64, SubU64, MulU64, Shr64, Shr_u8, Shr_u16, Shr_u32, Shr_u64, And1, And31, And32, Eql64, Neq64, Bin_lss, Bin_leq, Bin_gtr, Bin_geq, Bin_bool_eql, Bin_bool_neq, Bin_ptr_nil_eql, Bin_ptr_nil_neq, Not_dec, Un_not, Pick_t, Pick_f, Pick_pos, Pick_neg, Gd_tt, Gd_tf, Gd_ft, Gd_ff, Gd_pos_t, Gd_neg_t, Gd_pos_f, Gd_neg_f, Gd_undef, If_t, If_f, If_pos, If_neg, CallF_eq, Max_two, Min_two, Len_rd, Len_own, Ld_blkE, Idx_rdN, Idx_ownN, Idx_rdE, Idx_ownE, IdxAE, LdA_two, Idx_at0, Ext_atE, Len_at, Int.toNat_natCast, Int.toNat_zero, Int.toNat_one, List.length_map, List.length_append, List.length_cons, List.length_nil, List.length_take, List.length_set, List.length_replicate, Bool.not_true, Bool.not_false, decide_true, decide_false, BEq.rfl, bne_self_eq_false, tf_beq, ft_beq, tf_bne, ft_bne, not_true_eq_false, not_false_eq_true, app]
      exact hk' _ (by simp; omega)
  · try simp (disch := first | assumption | omega | (apply At.mk; with_unfolding_all rfl)) only [↓go_eq, ↓ent_eq, Mv, NilC_at, Fld_at, add_mk, Nat.zero_add, Nat.add_zero, Add64, Sub64, Mul64, Quo64, Rem64, Neg64, Cvt64, CvtU8, CvtU16, CvtU32, CvtU64, AddU64, SubU64, MulU64, Shr64, Shr_u8, Shr_u16, Shr_u32, Shr_u64, And1, And31, And32, Eql64, Neq64, Bin_lss, Bin_leq, Bin_gtr, Bin_geq, Bin_bool_eql, Bin_bool_neq, Bin_ptr_nil_eql, Bin_ptr_nil_neq, Not_dec, Un_not, Pick_t, Pick_f, Pick_pos, Pick_neg, Gd_tt, Gd_tf, Gd_ft, Gd_ff, Gd_pos_t, Gd_neg_t, Gd_pos_f, Gd_neg_f, Gd_undef, If_t, If_f, If_pos, If_neg, CallF_eq, Max_two, Min_two, Len_rd, Len_own, Ld_blkE, Idx_rdN, Idx_ownN, Idx_rdE, Idx_ownE, IdxAE, LdA_two, Idx_at0, Ext_atE, Len_at, Int.toNat_natCast, Int.toNat_zero, Int.toNat_one, List.length_map, List.length_append, List.length_cons, List.length_nil, List.length_take, List.length_set, List.length_replicate, Bool.not_true, Bool.not_false, decide_true, decide_false, BEq.rfl, bne_self_eq_false, tf_beq, ft_beq, tf_bne, ft_bne, not_true_eq_false, not_false_eq_true, app]
    refine table_Right.spec kind base fun b hb => ?_
    cases b with
    | false =>
      try simp (disch := first | assumption | omega | (apply At.mk; with_unfolding_all rfl)) only [↓go_eq, ↓ent_eq, Mv, NilC_at, Fld_at, add_mk, Nat.zero_add, Nat.add_zero, Add64, Sub64, Mul64, Quo64, Rem64, Neg64, Cvt64, CvtU8, CvtU16, CvtU32, CvtU64, AddU64, SubU64, MulU64, Shr64, Shr_u8, Shr_u16, Shr_u32, Shr_u64, And1, And31, And32, Eql64, Neq64, Bin_lss, Bin_leq, Bin_gtr, Bin_geq, Bin_bool_eql, Bin_bool_neq, Bin_ptr_nil_eql, Bin_ptr_nil_neq, Not_dec, Un_not, Pick_t, Pick_f, Pick_pos, Pick_neg, Gd_tt, Gd_tf, Gd_ft, Gd_ff, Gd_pos_t, Gd_neg_t, Gd_pos_f, Gd_neg_f, Gd_undef, If_t, If_f, If_pos, If_neg, CallF_eq, Max_two, Min_two, Len_rd, Len_own, Ld_blkE, Idx_rdN, Idx_ownN, Idx_rdE, Idx_ownE, IdxAE, LdA_two, Idx_at0, Ext_atE, Len_at, Int.toNat_natCast, Int.toNat_zero, Int.toNat_one, List.length_map, List.length_append, List.length_cons, List.length_nil, List.length_take, List.length_set, List.length_replicate, Bool.not_true, Bool.not_false, decide_true, decide_false, BEq.rfl, bne_self_eq_false, tf_beq, ft_beq, tf_bne, ft_bne, not_true_eq_false, not_false_eq_true, app]
      exact hk _ h1 ⟨fun q => by simp at q, fun q => by
        rcases q with ⟨q, _⟩ | ⟨q, _⟩
        · have := hb.2 q; cases this
        · exact absurd q c⟩ f1
    | true =>
      have hf := hb.1 rfl
      try simp (disch := first | assumption | omega | (apply At.mk; with_unfolding_all rfl)) only [↓go_eq, ↓ent_eq, Mv, NilC_at, Fld_at, add_mk, Nat.zero_add, Nat.add_zero, Add64, Sub64, Mul64, Quo64, Rem64, Neg64, Cvt64, CvtU8, CvtU16, CvtU32, CvtU64, AddU64, SubU64, MulU64, Shr64, Shr_u8, Shr_u16, Shr_u32, Shr_u64, And1, And31, And32, Eql64, Neq64, Bin_lss, Bin_leq, Bin_gtr, Bin_geq, Bin_bool_eql, Bin_bool_neq, Bin_ptr_nil_eql, Bin_ptr_nil_neq, Not_dec, Un_not, Pick_t, Pick_f, Pick_pos, Pick_neg, Gd_tt, Gd_tf, Gd_ft, Gd_ff, Gd_pos_t, Gd_neg_t, Gd_pos_f, Gd_neg_f, Gd_undef, If_t, If_f, If_pos, If_neg, CallF_eq, Max_two, Min_two, Len_rd, Len_own, Ld_blkE, Idx_rdN, Idx_ownN, Idx_rdE, Idx_ownE, IdxAE, LdA_two, Idx_at0, Ext_atE, Len_at, Int.toNat_natCast, Int.toNat_zero, Int.toNat_one, List.length_map, List.length_append, List.length_cons, List.length_nil, List.length_take, List.length_set, List.length_replicate, Bool.not_true, Bool.not_false, decide_true, decide_false, BEq.rfl, bne_self_eq_false, tf_beq, ft_beq, tf_bne, ft_bne, not_true_eq_false, not_false_eq_true, app]
      exact hk _ h1 ⟨fun q => .inl ⟨hf, by simpa using q⟩, fun q => by
        rcases q with ⟨_, q⟩ | ⟨q, _⟩
        · simpa using q
        · exact absurd q c⟩ f1
theorem right_a (kind base noise : Int) (hk : ∀ (b : Bool) h', (b = true ↔ WOk kind base noise) → Fr [] h h' → K (.bool b) h') : ACall Try.prog walk_Right.id [.agg #[Iv kind, Iv base, Iv noise]] K h :=
  ACall_mk (walk_Right.spec kind base noise fun b h' hb f => ⟨f, hk b h' hb f⟩)
theorem bld_way0 {x : Value} : Bld [(0, 1), (1, 1), (2, 1)] #[(.int .i64 0), (.int .i64 0), (.int .i64 0)] [(0, .int .i64 2)] K h = K (.agg #[Iv 2, Iv 0, Iv 0]) h := by rw [Bld_eq, fill_one rfl rfl (by simp), fill_nil]; rfl
theorem bld_way3 : Bld [(0, 1), (1, 1), (2, 1)] #[(.int .i64 0), (.int .i64 0), (.int .i64 0)] [(0, .int .i64 3)] K h = K (.agg #[Iv 3, Iv 0, Iv 0]) h := by rw [Bld_eq, fill_one rfl rfl (by simp), fill_nil]; rfl
theorem bld_way01 {x y : Int} : Bld [(0, 1), (1, 1), (2, 1)] #[(.int .i64 0), (.int .i64 0), (.int .i64 0)] [(0, .int .i64 x), (1, .int .i64 y)] K h = K (.agg #[Iv x, Iv y, Iv 0]) h := by rw [Bld_eq, fill_one rfl rfl (by simp), fill_one rfl rfl (by simp), fill_nil]; rfl
theorem bld_way02 {x y : Int} : Bld [(0, 1), (1, 1), (2, 1)] #[(.int .i64 0), (.int .i64 0), (.int .i64 0)] [(0, .int .i64 x), (2, .int .i64 y)] K h = K (.agg #[Iv x, Iv 0, Iv y]) h := by rw [Bld_eq, fill_one rfl rfl (by simp), fill_one rfl rfl (by simp), fill_nil]; rfl
theorem bradawllaw15_Way.spec {x y : Int} (hx : 0 ≤ x ∧ x ≤ 255) (hy : 0 ≤ y ∧ y ≤ 65535) (hk : ∀ kd bs ns h', WOk kd bs ns → Fr [] h h' → K (.agg #[Iv kd, Iv bs, Iv ns]) h') : CallH Try.prog bradawllaw15_Way.id #[.int .u8 x, .int .u16 y] K h := by
  refine bradawllaw15_Way.ok ?_
  simp only [bradawllaw15_Way.pt]
  rw [go_eq]
  refine New_blk fun h1 b1 f1 s1 => ?_
  have b1 : Blk h1 h.size [Iv 0, Iv 0, Iv 0] := b1
  have fin : ∀ {kd bs ns : Int} {h2 : Heap}, WOk kd bs ns → Blk h2 h.size [Iv kd, Iv bs, Iv ns] → Fr [h.size] h1 h2 → go (LdA 3 (.pointer (some ⟨h.size, 0, none⟩))) h2 fun r0 h => K r0 h := by
    intro kd bs ns h2 hW b2 f2
    rw [go_eq, LdA_three b2]
    exact hk kd bs ns h2 hW (f1.trans' f2 (by simp))
  by_cases c0 : x % 3 = 0
  · try simp (disch := first | assumption | omega | (apply At.mk; with_unfolding_all rfl)) only [↓go_eq, ↓ent_eq, Mv, NilC_at, Fld_at, add_mk, Nat.zero_add, Nat.add_zero, Add64, Sub64, Mul64, Quo64, Rem64, Neg64, Cvt64, CvtU8, CvtU16, CvtU32, CvtU64, AddU64, SubU64, MulU64, Shr64, Shr_u8, Shr_u16, Shr_u32, Shr_u64, And1, And31, And32, Eql64, Neq64, Bin_lss, Bin_leq, Bin_gtr, Bin_geq, Bin_bool_eql, Bin_bool_neq, Bin_ptr_nil_eql, Bin_ptr_nil_neq, Not_dec, Un_not, Pick_t, Pick_f, Pick_pos, Pick_neg, Gd_tt, Gd_tf, Gd_ft, Gd_ff, Gd_pos_t, Gd_neg_t, Gd_pos_f, Gd_neg_f, Gd_undef, If_t, If_f, If_pos, If_neg, CallF_eq, Max_two, Min_two, Len_rd, Len_own, Ld_blkE, Idx_rdN, Idx_ownN, Idx_rdE, Idx_ownE, IdxAE, LdA_two, Idx_at0, Ext_atE, Len_at, Int.toNat_natCast, Int.toNat_zero, Int.toNat_one, List.length_map, List.length_append, List.length_cons, List.length_nil, List.length_take, List.length_set, List.length_replicate, Bool.not_true, Bool.not_false, decide_true, decide_false, BEq.rfl, bne_self_eq_false, tf_beq, ft_beq, tf_bne, ft_bne, not_true_eq_false, not_false_eq_true, app]
    rw [bld_way01]
    exact StA_three b1 rfl rfl rfl fun h2 b2 f2 => fin (.inl ⟨.inl ⟨rfl, by omega, by omega⟩, rfl⟩) b2 f2
  by_cases c1 : x % 3 = 1
  · try simp (disch := first | assumption | omega | (apply At.mk; with_unfolding_all rfl)) only [↓go_eq, ↓ent_eq, Mv, NilC_at, Fld_at, add_mk, Nat.zero_add, Nat.add_zero, Add64, Sub64, Mul64, Quo64, Rem64, Neg64, Cvt64, CvtU8, CvtU16, CvtU32, CvtU64, AddU64, SubU64, MulU64, Shr64, Shr_u8, Shr_u16, Shr_u32, Shr_u64, And1, And31, And32, Eql64, Neq64, Bin_lss, Bin_leq, Bin_gtr, Bin_geq, Bin_bool_eql, Bin_bool_neq, Bin_ptr_nil_eql, Bin_ptr_nil_neq, Not_dec, Un_not, Pick_t, Pick_f, Pick_pos, Pick_neg, Gd_tt, Gd_tf, Gd_ft, Gd_ff, Gd_pos_t, Gd_neg_t, Gd_pos_f, Gd_neg_f, Gd_undef, If_t, If_f, If_pos, If_neg, CallF_eq, Max_two, Min_two, Len_rd, Len_own, Ld_blkE, Idx_rdN, Idx_ownN, Idx_rdE, Idx_ownE, IdxAE, LdA_two, Idx_at0, Ext_atE, Len_at, Int.toNat_natCast, Int.toNat_zero, Int.toNat_one, List.length_map, List.length_append, List.length_cons, List.length_nil, List.length_take, List.length_set, List.length_replicate, Bool.not_true, Bool.not_false, decide_true, decide_false, BEq.rfl, bne_self_eq_false, tf_beq, ft_beq, tf_bne, ft_bne, not_true_eq_false, not_false_eq_true, app]
    rw [bld_way01]
    exact StA_three b1 rfl rfl rfl fun h2 b2 f2 => fin (.inl ⟨.inr ⟨rfl, by omega, by omega⟩, rfl⟩) b2 f2
  · try simp (disch := first | assumption | omega | (apply At.mk; with_unfolding_all rfl)) only [↓go_eq, ↓ent_eq, Mv, NilC_at, Fld_at, add_mk, Nat.zero_add, Nat.add_zero, Add64, Sub64, Mul64, Quo64, Rem64, Neg64, Cvt64, CvtU8, CvtU16, CvtU32, CvtU64, AddU64, SubU64, MulU64, Shr64, Shr_u8, Shr_u16, Shr_u32, Shr_u64, And1, And31, And32, Eql64, Neq64, Bin_lss, Bin_leq, Bin_gtr, Bin_geq, Bin_bool_eql, Bin_bool_neq, Bin_ptr_nil_eql, Bin_ptr_nil_neq, Not_dec, Un_not, Pick_t, Pick_f, Pick_pos, Pick_neg, Gd_tt, Gd_tf, Gd_ft, Gd_ff, Gd_pos_t, Gd_neg_t, Gd_pos_f, Gd_neg_f, Gd_undef, If_t, If_f, If_pos, If_neg, CallF_eq, Max_two, Min_two, Len_rd, Len_own, Ld_blkE, Idx_rdN, Idx_ownN, Idx_rdE, Idx_ownE, IdxAE, LdA_two, Idx_at0, Ext_atE, Len_at, Int.toNat_natCast, Int.toNat_zero, Int.toNat_one, List.length_map, List.length_append, List.length_cons, List.length_nil, List.length_take, List.length_set, List.length_replicate, Bool.not_true, Bool.not_false, decide_true, decide_false, BEq.rfl, bne_self_eq_false, tf_beq, ft_beq, tf_bne, ft_bne, not_true_eq_false, not_false_eq_true, app]
    rw [bld_way02]
    exact StA_three b1 rfl rfl rfl fun h2 b2 f2 => fin (.inr ⟨rfl, rfl, by omega, by omega⟩) b2 f2
theorem way_a {x y : Int} (hx : 0 ≤ x ∧ x ≤ 255) (hy : 0 ≤ y ∧ y ≤ 65535) (hk : ∀ kd bs ns h', WOk kd bs ns → Fr [] h h' → K (.agg #[Iv kd, Iv bs, Iv ns]) h') : ACall Try.prog bradawllaw15_Way.id [.int .u8 x, .int .u16 y] K h :=
  ACall_mk (bradawllaw15_Way.spec hx hy fun kd bs ns h' hW f => ⟨f, hk kd bs ns h' hW f⟩)
theorem clT_hB {a : List Bool} {c : List Int} : clT a c = !decide (hB (litT a) c = 0) := by
  by_cases e : hB (litT a) c = 0
  · rw [decide_eq_true e]
    have := hB_zero.1 e
    unfold clT
    rw [Bool.not_true, List.any_eq_false]
    intro x hx; rw [this x hx]; simp
  · rw [decide_eq_false e]
    cases h : clT a c with
    | true => rfl
    | false =>
      refine absurd (hB_zero.2 fun x hx => ?_) e
      have := List.any_eq_false.1 h x hx
      simpa using this
theorem unT_snoc (a : List Bool) (F : List (List Int)) (c : List Int) : unT a (F ++ [c]) = unT a F + (if hB (litT a) c = 0 then 1 else 0) := by
  unfold unT; rw [List.countP_append]; congr 1
  by_cases e : hB (litT a) c = 0
  · rw [if_pos e, List.countP_cons_of_pos (by simpa using e)]; rfl
  · rw [if_neg e, List.countP_cons_of_neg (by simpa using e)]; rfl
theorem unT_le (a : List Bool) (F : List (List Int)) : unT a F ≤ F.length := List.countP_le_length
theorem wk_rdl {h : Heap} {v x : Value} {c : List Int} (r : Rd h v [x]) (r1 : Rd h x (c.map Iv)) : RdL h v [c] [x] := ⟨r, rfl, fun i d hd => by
  match i, hd with
  | 0, hd => exact ⟨x, ⟨rfl⟩, by cases hd; exact r1⟩
  | i + 1, hd => cases hd⟩
set_option maxHeartbeats 1000000 in
theorem bradawllaw15_unsatisfied.spec {n : Nat} {cs : List (List Int)} {ws : List Value} {v av : Value} {a : List Bool} (hn : n ≤ 1000) (hcl : cs.length ≤ 1000) (hll : ∀ c ∈ cs, c.length ≤ 1000) (hF : FOk n cs) (hw : RdL h v cs ws) (ha : Rd h av (a.map .bool)) (al : a.length = n) (hk : ∀ h', Fr [] h h' → K (Iv (unT a (fmT cs) : Nat)) h') : CallH Try.prog bradawllaw15_unsatisfied.id #[.agg #[Iv n, v], av] K h := by
  refine bradawllaw15_unsatisfied.ok ?_
  simp only [bradawllaw15_unsatisfied.pt]
  rw [go_eq]
  refine New_blk fun h1 b1 f1 s1 => ?_
  have b1 : Blk h1 h.size [Iv n, v] := b1
  rw [go_eq, LdA_two b1, go_eq, CallF_eq]
  refine norm_Formula.spec (by omega) (fun c hc => by have := hll c hc; omega) (fun c hc y hy => by obtain ⟨_, _, _⟩ := hF c hc y hy; exact ⟨by omega, by omega⟩) (fun c hc y hy => (hF c hc y hy).1) (hw.fr f1) fun u bu ps h2 oF hcs f2 => ?_
  have b2 := b1.fr f2 (by simp)
  have hG := GF_fmT (n := n) hF hll
  have hlen : (fmT cs).length ≤ 1000 := by have := fmT_len cs; omega
  generalize fmT cs = F at *
  have rd2 := oF.rdl
  rw [hcs] at rd2
  have rl := rd2.rd
  have wl := rd2.len
  have f02 := f1.trans f2
  rw [go_eq, Ext_atE ⟨rfl⟩, go_eq, Ext_atE ⟨rfl⟩, go_eq, Len_rd rl, wl]
  refine Lp_fn (σ := Nat) (fun i => [av, ptr h.size, Iv (unT a (F.take i) : Nat), u, Iv (F.length : Nat), Iv (i : Nat)]) (fun i h' => i ≤ F.length ∧ Fr [] h2 h') (fun i => F.length - i) 0 rfl (fun _ => rfl) ⟨Nat.zero_le _, Fr.refl _ _⟩ ?_
  rintro i h3 ⟨hi, f3⟩ X hX
  have b3 := b2.fr f3 (by simp)
  have rd3 := rd2.fr f3
  by_cases c1 : (i : Int) < (F.length : Nat)
  · obtain ⟨c, hc, hm⟩ := getF (F := F) (i := i) (by omega)
    obtain ⟨g1, g2, g3⟩ := hG c hm
    obtain ⟨x, ax, rx⟩ := rd3.get i c hc
    have htk := get_take hc
    have rl3 := rd3.rd
    have hub := unT_le a (F.take i)
    have hul : (F.take i).length ≤ 1000 := by rw [List.length_take]; omega
    have hsn := unT_snoc a (F.take i) c
    rw [← htk] at hsn
    have hcT := clT_hB (a := a) (c := c)
    have hX' := hX (i + 1)
    rw [hsn] at hX'
    have ha3 := ha.fr (f02.trans f3)
    try simp (disch := first | assumption | omega | (apply At.mk; with_unfolding_all rfl)) only [↓go_eq, ↓ent_eq, Mv, NilC_at, Fld_at, add_mk, Nat.zero_add, Nat.add_zero, Add64, Sub64, Mul64, Quo64, Rem64, Neg64, Cvt64, CvtU8, CvtU16, CvtU32, CvtU64, AddU64, SubU64, MulU64, Shr64, Shr_u8, Shr_u16, Shr_u32, Shr_u64, And1, And31, And32, Eql64, Neq64, Bin_lss, Bin_leq, Bin_gtr, Bin_geq, Bin_bool_eql, Bin_bool_neq, Bin_ptr_nil_eql, Bin_ptr_nil_neq, Not_dec, Un_not, Pick_t, Pick_f, Pick_pos, Pick_neg, Gd_tt, Gd_tf, Gd_ft, Gd_ff, Gd_pos_t, Gd_neg_t, Gd_pos_f, Gd_neg_f, Gd_undef, If_t, If_f, If_pos, If_neg, CallF_eq, Max_two, Min_two, Len_rd, Len_own, Ld_blkE, Idx_rdN, Idx_ownN, Idx_rdE, Idx_ownE, IdxAE, LdA_two, Idx_at0, Ext_atE, Len_at, Int.toNat_natCast, Int.toNat_zero, Int.toNat_one, List.length_map, List.length_append, List.length_cons, List.length_nil, List.length_take, List.length_set, List.length_replicate, Bool.not_true, Bool.not_false, decide_true, decide_false, BEq.rfl, bne_self_eq_false, tf_beq, ft_beq, tf_bne, ft_bne, not_true_eq_false, not_false_eq_true, app]
    refine Jn_fn (σ := Unit) (fun _ => [av, ptr h.size, Iv ((unT a (F.take i) + (if hB (litT a) c = 0 then 1 else 0) : Nat) : Int), u, Iv (F.length : Nat), Iv (i : Nat)]) (fun _ h' => Fr [] h2 h') ?_ ?_
    · intro J hJ
      try simp (disch := first | assumption | omega | (apply At.mk; with_unfolding_all rfl)) only [↓go_eq, ↓ent_eq, Mv, NilC_at, Fld_at, add_mk, Nat.zero_add, Nat.add_zero, Add64, Sub64, Mul64, Quo64, Rem64, Neg64, Cvt64, CvtU8, CvtU16, CvtU32, CvtU64, AddU64, SubU64, MulU64, Shr64, Shr_u8, Shr_u16, Shr_u32, Shr_u64, And1, And31, And32, Eql64, Neq64, Bin_lss, Bin_leq, Bin_gtr, Bin_geq, Bin_bool_eql, Bin_bool_neq, Bin_ptr_nil_eql, Bin_ptr_nil_neq, Not_dec, Un_not, Pick_t, Pick_f, Pick_pos, Pick_neg, Gd_tt, Gd_tf, Gd_ft, Gd_ff, Gd_pos_t, Gd_neg_t, Gd_pos_f, Gd_neg_f, Gd_undef, If_t, If_f, If_pos, If_neg, CallF_eq, Max_two, Min_two, Len_rd, Len_own, Ld_blkE, Idx_rdN, Idx_ownN, Idx_rdE, Idx_ownE, IdxAE, LdA_two, Idx_at0, Ext_atE, Len_at, Int.toNat_natCast, Int.toNat_zero, Int.toNat_one, List.length_map, List.length_append, List.length_cons, List.length_nil, List.length_take, List.length_set, List.length_replicate, Bool.not_true, Bool.not_false, decide_true, decide_false, BEq.rfl, bne_self_eq_false, tf_beq, ft_beq, tf_bne, ft_bne, not_true_eq_false, not_false_eq_true, app]
      refine BldS_one rfl rx.isCell fun h4 o4 f4 s4 => ?_
      have rC := wk_rdl o4.rd (rx.fr f4)
      try simp (disch := first | assumption | omega | (apply At.mk; with_unfolding_all rfl)) only [↓go_eq, ↓ent_eq, Mv, NilC_at, Fld_at, add_mk, Nat.zero_add, Nat.add_zero, Add64, Sub64, Mul64, Quo64, Rem64, Neg64, Cvt64, CvtU8, CvtU16, CvtU32, CvtU64, AddU64, SubU64, MulU64, Shr64, Shr_u8, Shr_u16, Shr_u32, Shr_u64, And1, And31, And32, Eql64, Neq64, Bin_lss, Bin_leq, Bin_gtr, Bin_geq, Bin_bool_eql, Bin_bool_neq, Bin_ptr_nil_eql, Bin_ptr_nil_neq, Not_dec, Un_not, Pick_t, Pick_f, Pick_pos, Pick_neg, Gd_tt, Gd_tf, Gd_ft, Gd_ff, Gd_pos_t, Gd_neg_t, Gd_pos_f, Gd_neg_f, Gd_undef, If_t, If_f, If_pos, If_neg, CallF_eq, Max_two, Min_two, Len_rd, Len_own, Ld_blkE, Idx_rdN, Idx_ownN, Idx_rdE, Idx_ownE, IdxAE, LdA_two, Idx_at0, Ext_atE, Len_at, Int.toNat_natCast, Int.toNat_zero, Int.toNat_one, List.length_map, List.length_append, List.length_cons, List.length_nil, List.length_take, List.length_set, List.length_replicate, Bool.not_true, Bool.not_false, decide_true, decide_false, BEq.rfl, bne_self_eq_false, tf_beq, ft_beq, tf_bne, ft_bne, not_true_eq_false, not_false_eq_true, app]
      rw [Bld_two rfl o4.rd.isCell]
      refine bradawllaw02_Holds.spec (n := n) (cs := [c]) (fun d hd => by simp at hd; subst hd; exact g1) (by omega) (by omega) (by simp) (fun d hd => by simp at hd; subst hd; omega) rC (ha3.fr f4) fun h5 f5 => ?_
      have e : satT a [c] = clT a c := by simp [satT]
      rw [e, hcT]
      have hJ := hJ () h5 ((f3.trans f4).trans f5)
      by_cases c2 : hB (litT a) c = 0
      · rw [if_pos c2] at hJ
        rw [decide_eq_true c2]
        try simp (disch := first | assumption | omega | (apply At.mk; with_unfolding_all rfl)) only [↓go_eq, ↓ent_eq, Mv, NilC_at, Fld_at, add_mk, Nat.zero_add, Nat.add_zero, Add64, Sub64, Mul64, Quo64, Rem64, Neg64, Cvt64, CvtU8, CvtU16, CvtU32, CvtU64, AddU64, SubU64, MulU64, Shr64, Shr_u8, Shr_u16, Shr_u32, Shr_u64, And1, And31, And32, Eql64, Neq64, Bin_lss, Bin_leq, Bin_gtr, Bin_geq, Bin_bool_eql, Bin_bool_neq, Bin_ptr_nil_eql, Bin_ptr_nil_neq, Not_dec, Un_not, Pick_t, Pick_f, Pick_pos, Pick_neg, Gd_tt, Gd_tf, Gd_ft, Gd_ff, Gd_pos_t, Gd_neg_t, Gd_pos_f, Gd_neg_f, Gd_undef, If_t, If_f, If_pos, If_neg, CallF_eq, Max_two, Min_two, Len_rd, Len_own, Ld_blkE, Idx_rdN, Idx_ownN, Idx_rdE, Idx_ownE, IdxAE, LdA_two, Idx_at0, Ext_atE, Len_at, Int.toNat_natCast, Int.toNat_zero, Int.toNat_one, List.length_map, List.length_append, List.length_cons, List.length_nil, List.length_take, List.length_set, List.length_replicate, Bool.not_true, Bool.not_false, decide_true, decide_false, BEq.rfl, bne_self_eq_false, tf_beq, ft_beq, tf_bne, ft_bne, not_true_eq_false, not_false_eq_true, app]
        exact hJ
      · rw [if_neg c2] at hJ
        rw [decide_eq_false c2]
        try simp (disch := first | assumption | omega | (apply At.mk; with_unfolding_all rfl)) only [↓go_eq, ↓ent_eq, Mv, NilC_at, Fld_at, add_mk, Nat.zero_add, Nat.add_zero, Add64, Sub64, Mul64, Quo64, Rem64, Neg64, Cvt64, CvtU8, CvtU16, CvtU32, CvtU64, AddU64, SubU64, MulU64, Shr64, Shr_u8, Shr_u16, Shr_u32, Shr_u64, And1, And31, And32, Eql64, Neq64, Bin_lss, Bin_leq, Bin_gtr, Bin_geq, Bin_bool_eql, Bin_bool_neq, Bin_ptr_nil_eql, Bin_ptr_nil_neq, Not_dec, Un_not, Pick_t, Pick_f, Pick_pos, Pick_neg, Gd_tt, Gd_tf, Gd_ft, Gd_ff, Gd_pos_t, Gd_neg_t, Gd_pos_f, Gd_neg_f, Gd_undef, If_t, If_f, If_pos, If_neg, CallF_eq, Max_two, Min_two, Len_rd, Len_own, Ld_blkE, Idx_rdN, Idx_ownN, Idx_rdE, Idx_ownE, IdxAE, LdA_two, Idx_at0, Ext_atE, Len_at, Int.toNat_natCast, Int.toNat_zero, Int.toNat_one, List.length_map, List.length_append, List.length_cons, List.length_nil, List.length_take, List.length_set, List.length_replicate, Bool.not_true, Bool.not_false, decide_true, decide_false, BEq.rfl, bne_self_eq_false, tf_beq, ft_beq, tf_bne, ft_bne, not_true_eq_false, not_false_eq_true, app]
        exact hJ
    · rintro - h4 f4
      try simp (disch := first | assumption | omega | (apply At.mk; with_unfolding_all rfl)) only [↓go_eq, ↓ent_eq, Mv, NilC_at, Fld_at, add_mk, Nat.zero_add, Nat.add_zero, Add64, Sub64, Mul64, Quo64, Rem64, Neg64, Cvt64, CvtU8, CvtU16, CvtU32, CvtU64, AddU64, SubU64, MulU64, Shr64, Shr_u8, Shr_u16, Shr_u32, Shr_u64, And1, And31, And32, Eql64, Neq64, Bin_lss, Bin_leq, Bin_gtr, Bin_geq, Bin_bool_eql, Bin_bool_neq, Bin_ptr_nil_eql, Bin_ptr_nil_neq, Not_dec, Un_not, Pick_t, Pick_f, Pick_pos, Pick_neg, Gd_tt, Gd_tf, Gd_ft, Gd_ff, Gd_pos_t, Gd_neg_t, Gd_pos_f, Gd_neg_f, Gd_undef, If_t, If_f, If_pos, If_neg, CallF_eq, Max_two, Min_two, Len_rd, Len_own, Ld_blkE, Idx_rdN, Idx_ownN, Idx_rdE, Idx_ownE, IdxAE, LdA_two, Idx_at0, Ext_atE, Len_at, Int.toNat_natCast, Int.toNat_zero, Int.toNat_one, List.length_map, List.length_append, List.length_cons, List.length_nil, List.length_take, List.length_set, List.length_replicate, Bool.not_true, Bool.not_false, decide_true, decide_false, BEq.rfl, bne_self_eq_false, tf_beq, ft_beq, tf_bne, ft_bne, not_true_eq_false, not_false_eq_true, app]
      try simp only [show (i : Int) + 1 = ((i + 1 : Nat) : Int) from by omega]
      exact hX' h4 ⟨by omega, f4⟩ (by omega)
  · rw [show F.take i = F from List.take_of_length_le (by omega)]
    try simp (disch := first | assumption | omega | (apply At.mk; with_unfolding_all rfl)) only [↓go_eq, ↓ent_eq, Mv, NilC_at, Fld_at, add_mk, Nat.zero_add, Nat.add_zero, Add64, Sub64, Mul64, Quo64, Rem64, Neg64, Cvt64, CvtU8, CvtU16, CvtU32, CvtU64, AddU64, SubU64, MulU64, Shr64, Shr_u8, Shr_u16, Shr_u32, Shr_u64, And1, And31, And32, Eql64, Neq64, Bin_lss, Bin_leq, Bin_gtr, Bin_geq, Bin_bool_eql, Bin_bool_neq, Bin_ptr_nil_eql, Bin_ptr_nil_neq, Not_dec, Un_not, Pick_t, Pick_f, Pick_pos, Pick_neg, Gd_tt, Gd_tf, Gd_ft, Gd_ff, Gd_pos_t, Gd_neg_t, Gd_pos_f, Gd_neg_f, Gd_undef, If_t, If_f, If_pos, If_neg, CallF_eq, Max_two, Min_two, Len_rd, Len_own, Ld_blkE, Idx_rdN, Idx_ownN, Idx_rdE, Idx_ownE, IdxAE, LdA_two, Idx_at0, Ext_atE, Len_at, Int.toNat_natCast, Int.toNat_zero, Int.toNat_one, List.length_map, List.length_append, List.length_cons, List.length_nil, List.length_take, List.length_set, List.length_replicate, Bool.not_true, Bool.not_false, decide_true, decide_false, BEq.rfl, bne_self_eq_false, tf_beq, ft_beq, tf_bne, ft_bne, not_true_eq_false, not_false_eq_true, app]
    exact hk h3 (f02.trans f3)
theorem new_a {w : Value} {ws : List W64} {x : W64} (hw : Rd h w (ws.map U)) (hl : ws.length ≤ 1000000)
    (hk : ∀ g h' F, StrAt h' g ⟨ws, seedOf x, 0⟩ F → Fr [] h h' → (∀ b ∈ F, h.size ≤ b) → K (ptr g) h') : ACall Try.prog rng_New.id [w, U x] K h :=
  ACall_mk (rng_New.spec hw hl fun g h' F s f hF => ⟨f, hk g h' F s f hF⟩)
theorem drawn_q {g : Nat} {s : Str} {F : List Nat} (hs : StrAt h g s F) (hk : K (.int .i64 (s.d : Int)) h) : QCall Try.prog rng_Stream_Drawn.id [ptr g] K h := QCall_mk (rng_Stream_Drawn.spec hs ⟨rfl, rfl⟩) hk
end
/-! ### One clause of one literal -/
theorem step_one {kind base noise : Int} {a : List Bool} {l : Int} {s : Str} (hW : WOk kind base noise) : (stepT kind base noise a [[l]] [0] s).1 = l.natAbs := by
  have e0 : (s.below ((1 : Nat) : Int)).1 = 0 := by unfold Str.below; rw [if_neg (by decide)]; show _ % (1 : Int) = 0; omega
  have hr := pickT_range (s := (s.below ((1 : Nat) : Int)).2) (b := brs a [[l]] [l]) hW (by simp [brs])
  have hl : (brs a [[l]] [l]).length = 1 := rfl
  rw [hl] at hr
  unfold stepT
  simp only [show ([0] : List Nat).length = 1 from rfl, e0]
  rw [if_neg (by decide)]
  show (if [l] = [] then _ else ((([l] : List Int).getD (pickT kind base noise (brs a [[l]] [l]) (s.below ((1 : Nat) : Int)).2).1.toNat 0).natAbs, _) : Nat × Str).1 = _
  rw [if_neg (by simp), show (pickT kind base noise (brs a [[l]] [l]) (s.below ((1 : Nat) : Int)).2).1.toNat = 0 by omega]
  rfl
set_option maxHeartbeats 1000000 in
theorem bradawllaw15_fit.spec {K : Ret} {h : Heap} (hk : ∀ h', Fr [] h h' → K (.bool true) h') : CallH Try.prog bradawllaw15_fit.id #[] K h := by
  refine bradawllaw15_fit.ok ?_
  simp only [bradawllaw15_fit.pt]
  rw [go_eq]
  refine BldS_one rfl rfl fun h1 o1 f1 s1 => ?_
  rw [go_eq]
  refine BldS_one rfl o1.rd.isCell fun h2 o2 f2 s2 => ?_
  have rC : RdL h2 _ [[1]] _ := wk_rdl o2.rd (o1.rd.fr f2)
  rw [go_eq, Bld_two rfl o2.rd.isCell, go_eq]
  refine BldS_one rfl rfl fun h3 o3 f3 s3 => ?_
  rw [go_eq, bld_way0 (x := undef), go_eq]
  refine new_a (ws := []) (x := 1#64) (Own.nil h3).rd (by decide) fun g h4 Fp hs f4 hFp => ?_
  have f04 := ((f1.trans f2).trans f3).trans f4
  have hW : WOk 2 0 0 := .inr ⟨rfl, rfl, by decide, by decide⟩
  have hok : FOk 1 [[1]] := by show ∀ c ∈ [[(1 : Int)]], ∀ l ∈ c, LitOk 1 l; intro c hc l hl; simp at hc; subst hc; simp at hl; subst hl; unfold LitOk; omega
  rw [go_eq, CallF_eq]
  refine walk_Walk.spec (N := h3.size) (n := 1) (a := [false]) (fun i w row s => (i = 0 ∧ w = ⟨[false], [false], 1, 0⟩ ∧ row = [0]) ∨ (i = 1 ∧ w = ⟨[true], [true], 0, 1⟩)) hW (by decide) (by decide) (by decide) hok (rC.fr (f3.trans f4)) (o3.rd.fr f4) (by decide) hs hFp f4.size (by decide) (by decide) (by decide)
    (fun _ => .inl ⟨rfl, (W.mk.injEq _ _ _ _ _ _ _ _).mpr ⟨rfl, rfl, by decide, rfl⟩, by decide⟩) (fun i w row s hP hi hr hro => ?_) (fun q => absurd rfl q) fun _ i h5 bv bs w' row' s' hP hi hex hro hz hs5 o5 hb5 f5 hd5 => ?_
  · rcases hP with ⟨rfl, rfl, rfl⟩ | ⟨rfl, rfl⟩
    · refine .inr ⟨rfl, ?_⟩
      rw [show fmT [[(1 : Int)]] = [[1]] by decide, step_one hW]
      unfold W.flip
      rw [if_pos (by decide)]
      exact (W.mk.injEq _ _ _ _ _ _ _ _).mpr ⟨by decide, by decide, by decide, by decide⟩
    · exact absurd (hro.1.trans (by decide)) hr
  · have hw' : i = 1 ∧ w' = ⟨[true], [true], 0, 1⟩ := by
      rcases hP with ⟨rfl, _, rfl⟩ | q
      · exact absurd ⟨by decide, by decide⟩ hex
      · exact q
    obtain ⟨rfl, rfl⟩ := hw'
    have o5 : Own h5 bv [.bool true] bs := o5
    have f05 : Fr [] h h5 := FrN.fr f5 f04 (by have := ((f1.trans f2).trans f3).size; omega)
    rw [go_eq, Ext_atE ⟨rfl⟩, go_eq, Ext_atE ⟨rfl⟩, go_eq]
    refine New_blk fun h6 b6 f6 s6 => ?_
    have b6 : Blk h6 h5.size [nilS, Iv 0, Iv 0] := b6
    rw [go_eq]
    refine StA_three b6 o5.rd.isCell rfl rfl fun h7 b7 f7 => ?_
    have f57 : Fr [] h5 h7 := f6.trans' f7 fun b hb => .inr (by simp at hb; omega)
    have o7 := (o5.fr f57 (by simp)).rd
    have a7 : At [Value.bool true] (0 : Int).toNat (.bool true) := ⟨rfl⟩
    try simp (disch := first | assumption | omega | (apply At.mk; with_unfolding_all rfl)) only [↓go_eq, ↓ent_eq, Mv, NilC_at, Fld_at, add_mk, Nat.zero_add, Nat.add_zero, Add64, Sub64, Mul64, Quo64, Rem64, Neg64, Cvt64, CvtU8, CvtU16, CvtU32, CvtU64, AddU64, SubU64, MulU64, Shr64, Shr_u8, Shr_u16, Shr_u32, Shr_u64, And1, And31, And32, Eql64, Neq64, Bin_lss, Bin_leq, Bin_gtr, Bin_geq, Bin_bool_eql, Bin_bool_neq, Bin_ptr_nil_eql, Bin_ptr_nil_neq, Not_dec, Un_not, Pick_t, Pick_f, Pick_pos, Pick_neg, Gd_tt, Gd_tf, Gd_ft, Gd_ff, Gd_pos_t, Gd_neg_t, Gd_pos_f, Gd_neg_f, Gd_undef, If_t, If_f, If_pos, If_neg, CallF_eq, Max_two, Min_two, Len_rd, Len_own, Ld_blkE, Idx_rdN, Idx_ownN, Idx_rdE, Idx_ownE, IdxAE, LdA_two, Idx_at0, Ext_atE, Len_at, Int.toNat_natCast, Int.toNat_zero, Int.toNat_one, List.length_map, List.length_append, List.length_cons, List.length_nil, List.length_take, List.length_set, List.length_replicate, Bool.not_true, Bool.not_false, decide_true, decide_false, BEq.rfl, bne_self_eq_false, tf_beq, ft_beq, tf_bne, ft_bne, not_true_eq_false, not_false_eq_true, app]
    rw [bld_way0 (x := undef)]
    refine right_a 2 0 0 fun b h8 hb f8 => ?_
    obtain rfl : b = true := hb.2 hW
    try simp (disch := first | assumption | omega | (apply At.mk; with_unfolding_all rfl)) only [↓go_eq, ↓ent_eq, Mv, NilC_at, Fld_at, add_mk, Nat.zero_add, Nat.add_zero, Add64, Sub64, Mul64, Quo64, Rem64, Neg64, Cvt64, CvtU8, CvtU16, CvtU32, CvtU64, AddU64, SubU64, MulU64, Shr64, Shr_u8, Shr_u16, Shr_u32, Shr_u64, And1, And31, And32, Eql64, Neq64, Bin_lss, Bin_leq, Bin_gtr, Bin_geq, Bin_bool_eql, Bin_bool_neq, Bin_ptr_nil_eql, Bin_ptr_nil_neq, Not_dec, Un_not, Pick_t, Pick_f, Pick_pos, Pick_neg, Gd_tt, Gd_tf, Gd_ft, Gd_ff, Gd_pos_t, Gd_neg_t, Gd_pos_f, Gd_neg_f, Gd_undef, If_t, If_f, If_pos, If_neg, CallF_eq, Max_two, Min_two, Len_rd, Len_own, Ld_blkE, Idx_rdN, Idx_ownN, Idx_rdE, Idx_ownE, IdxAE, LdA_two, Idx_at0, Ext_atE, Len_at, Int.toNat_natCast, Int.toNat_zero, Int.toNat_one, List.length_map, List.length_append, List.length_cons, List.length_nil, List.length_take, List.length_set, List.length_replicate, Bool.not_true, Bool.not_false, decide_true, decide_false, BEq.rfl, bne_self_eq_false, tf_beq, ft_beq, tf_bne, ft_bne, not_true_eq_false, not_false_eq_true, app]
    rw [bld_way3]
    refine right_a 3 0 0 fun b h9 hb f9 => ?_
    obtain rfl : b = false := by
      cases b with
      | false => rfl
      | true => have := hb.1 rfl; unfold WOk Fits at this; omega
    try simp (disch := first | assumption | omega | (apply At.mk; with_unfolding_all rfl)) only [↓go_eq, ↓ent_eq, Mv, NilC_at, Fld_at, add_mk, Nat.zero_add, Nat.add_zero, Add64, Sub64, Mul64, Quo64, Rem64, Neg64, Cvt64, CvtU8, CvtU16, CvtU32, CvtU64, AddU64, SubU64, MulU64, Shr64, Shr_u8, Shr_u16, Shr_u32, Shr_u64, And1, And31, And32, Eql64, Neq64, Bin_lss, Bin_leq, Bin_gtr, Bin_geq, Bin_bool_eql, Bin_bool_neq, Bin_ptr_nil_eql, Bin_ptr_nil_neq, Not_dec, Un_not, Pick_t, Pick_f, Pick_pos, Pick_neg, Gd_tt, Gd_tf, Gd_ft, Gd_ff, Gd_pos_t, Gd_neg_t, Gd_pos_f, Gd_neg_f, Gd_undef, If_t, If_f, If_pos, If_neg, CallF_eq, Max_two, Min_two, Len_rd, Len_own, Ld_blkE, Idx_rdN, Idx_ownN, Idx_rdE, Idx_ownE, IdxAE, LdA_two, Idx_at0, Ext_atE, Len_at, Int.toNat_natCast, Int.toNat_zero, Int.toNat_one, List.length_map, List.length_append, List.length_cons, List.length_nil, List.length_take, List.length_set, List.length_replicate, Bool.not_true, Bool.not_false, decide_true, decide_false, BEq.rfl, bne_self_eq_false, tf_beq, ft_beq, tf_bne, ft_bne, not_true_eq_false, not_false_eq_true, app]
    exact hk h9 (((f05.trans f57).trans f8).trans f9)
end Go.Proofs.Ytonngdjfnnibaaa
