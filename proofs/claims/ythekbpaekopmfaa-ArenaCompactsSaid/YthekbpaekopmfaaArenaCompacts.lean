/- The law ArenaCompacts. No condition but that the arguments lie in memory as Go lays them. -/
import Derived.Test.YthekbpaekopmfaaAn5
namespace Go.Proofs.Ythekbpaekopmfaa
open Go.Pt
set_option linter.unusedVariables false
set_option linter.unusedSimpArgs false
def litsQ (q n : Nat) : List Int := (List.range n).map fun k : Nat => 10 * (q : Int) + k + 1
def szQ (xs : List Int) (q : Nat) : Nat := (xs.getD q 0 % 7).toNat
def bcl (xs : List Int) (q : Nat) : Cl := ⟨litsQ q (szQ xs q), decide (((q : Nat) : Int) % 2 = 0), q, 0, false⟩
theorem litsQ_len (q n : Nat) : (litsQ q n).length = n := by simp [litsQ]
theorem szQ_lt (xs : List Int) (q : Nat) : szQ xs q < 7 := by unfold szQ; omega
def csT (xs : List Int) (i : Nat) : List Cl := (List.range i).map (bcl xs)
def csD (xs : List Int) (y : W64) (i n : Nat) : List Cl := (List.range n).map fun q => { bcl xs q with gone := decide (q < i) && y.getLsbD q }
theorem csT_succ (xs : List Int) (i : Nat) : csT xs (i + 1) = csT xs i ++ [bcl xs i] := by unfold csT; rw [List.range_succ, List.map_append]; rfl
theorem csT_get {xs : List Int} {q i : Nat} (h : q < i) : (csT xs i)[q]? = some (bcl xs q) := by unfold csT; rw [List.getElem?_map, List.getElem?_range h]; rfl
theorem csT_len (xs : List Int) (i : Nat) : (csT xs i).length = i := by simp [csT]
theorem csD_get {xs : List Int} {y : W64} {q i n : Nat} (h : q < n) : (csD xs y i n)[q]? = some { bcl xs q with gone := decide (q < i) && y.getLsbD q } := by unfold csD; rw [List.getElem?_map, List.getElem?_range h]; rfl
theorem csD_len (xs : List Int) (y : W64) (i n : Nat) : (csD xs y i n).length = n := by simp [csD]
theorem off_csT {xs : List Int} {i n k : Nat} (h : k ≤ i) (hn : i ≤ n) : off (csT xs i) k = off (csT xs n) k :=
  off_congr fun j hj => by rw [List.getD_eq_getElem?_getD, List.getD_eq_getElem?_getD, csT_get (by omega), csT_get (by omega)]
theorem off_csD {xs : List Int} {y : W64} {i n k : Nat} (h : k ≤ n) : off (csD xs y i n) k = off (csT xs n) k :=
  off_congr fun j hj => by rw [List.getD_eq_getElem?_getD, List.getD_eq_getElem?_getD, csT_get (by omega), csD_get (by omega)]; rfl
theorem off_bd (xs : List Int) (n : Nat) : ∀ k, k ≤ n → off (csT xs n) k ≤ 9 * k
  | 0, _ => Nat.le_refl _
  | k + 1, h => by
    rw [off_succ (csT_get (show k < n by omega))]
    have := off_bd xs n k (by omega)
    have := szQ_lt xs k
    show off _ k + 3 + (litsQ k (szQ xs k)).length ≤ _
    rw [litsQ_len]; omega
theorem csD_zero (xs : List Int) (y : W64) (n : Nat) : csD xs y 0 n = csT xs n := by
  unfold csD csT
  refine List.map_congr_left fun q _ => ?_
  simp [bcl]
theorem csD_step {xs : List Int} {y : W64} {i n : Nat} (hi : i < n) : (y.getLsbD i = true → (csD xs y i n).set i { bcl xs i with gone := true } = csD xs y (i + 1) n) ∧ (y.getLsbD i = false → csD xs y i n = csD xs y (i + 1) n) := by
  constructor
  · intro hb
    refine List.ext_getElem? fun q => ?_
    by_cases hq : q < n
    · rw [csD_get hq, List.getElem?_set, csD_len]
      by_cases e : i = q
      · subst e; rw [if_pos rfl, if_pos hi, hb]; simp
      · rw [if_neg e, csD_get hq]
        have : decide (q < i) = decide (q < i + 1) := by rw [Bool.eq_iff_iff, decide_eq_true_iff, decide_eq_true_iff]; omega
        rw [this]
    · rw [List.getElem?_eq_none (by rw [List.length_set, csD_len]; omega), List.getElem?_eq_none (by rw [csD_len]; omega)]
  · intro hb
    unfold csD
    refine List.map_congr_left fun q _ => ?_
    by_cases e : q = i
    · subst e; rw [hb]; simp
    · have : decide (q < i) = decide (q < i + 1) := by rw [Bool.eq_iff_iff, decide_eq_true_iff, decide_eq_true_iff]; omega
      rw [this]
theorem bit_of (y : W64) (i : Nat) : ((y >>> i &&& 1#64) == 1#64) = y.getLsbD i := by
  have key : y >>> i &&& 1#64 = if y.getLsbD i then 1#64 else 0#64 := by
    apply BitVec.eq_of_getLsbD_eq
    intro j hj
    rw [BitVec.getLsbD_and, BitVec.getLsbD_ushiftRight, BitVec.getLsbD_one]
    by_cases h0 : j = 0
    · subst h0; cases h : y.getLsbD i <;> simp [h]
    · cases h : y.getLsbD i <;> simp [h0]
  rw [key]
  cases y.getLsbD i <;> rfl
/-- All are there: nothing moves. -/
theorem filt_filt (cs : List Cl) : (cs.filter live).filter live = cs.filter live := by
  rw [List.filter_filter]
  congr 1; funext c; simp
theorem newOff_all {cs : List Cl} (h : ∀ c ∈ cs, live c = true) {k : Nat} (hk : k ≤ cs.length) : newOff cs k = off cs k := by
  unfold newOff
  rw [List.filter_eq_self.2 fun c hc => h c (List.mem_of_mem_take hc), wds_take hk]
set_option maxHeartbeats 8000000 in
theorem bradawllaw05_ArenaCompacts.spec {v : Value} {xs : List Int} {y : W64} {K : Ret} {h : Heap} (hv : Rd h v (xs.map (.int .u8))) (hx : ∀ x ∈ xs, 0 ≤ x ∧ x ≤ 255) (hk : ∀ h', Fr [] h h' → K (.bool true) h') :
    CallH Try.prog bradawllaw05_ArenaCompacts.id #[v, U y] K h := by
  refine bradawllaw05_ArenaCompacts.ok ?_
  simp only [bradawllaw05_ArenaCompacts.pt]
  have hl : (xs.map (Value.int .u8)).length = xs.length := List.length_map _
  rw [go_eq, CallF_eq]
  refine bradawllaw05_fit.spec fun h1 f1 => ?_
  have hv1 := hv.fr f1
  rw [go_eq, Un_not, Bool.not_true, If_f, go_eq, Len_rd hv1, hl, go_eq, Bin_gtr]
  by_cases c0 : (xs.length : Int) > 60
  · rw [If_pos c0]; exact hk h1 f1
  rw [If_neg c0, go_eq, CallF_eq]
  refine arena_New.spec 0 fun g h2 F2 a2 f2 n2 => ?_
  have hv2 := hv1.fr f2
  have f02 := f1.trans f2
  have hat : ∀ i, i < xs.length → At (xs.map (Value.int .u8)) i (.int .u8 (xs.getD i 0)) := fun i hi => At.map (f := Value.int .u8) (by rw [List.getD_eq_getElem?_getD, List.getElem?_eq_getElem hi]; rfl)
  have hxr : ∀ i, i < xs.length → 0 ≤ xs.getD i 0 ∧ xs.getD i 0 ≤ 255 := fun i hi => hx _ (by rw [List.getD_eq_getElem?_getD, List.getElem?_eq_getElem hi]; exact List.getElem_mem hi)
  have hsz : ∀ i, xs.getD i 0 % 7 = ((szQ xs i : Nat) : Int) := fun i => by unfold szQ; omega
  rw [go_eq, Len_rd hv2, hl]
  refine Lp_fn (σ := Nat × Value × List Nat × List Nat) (fun x => [v, U y, ptr g, x.2.1, v, Iv (xs.length : Nat), Iv (x.1 : Nat)])
    (fun x h' => x.1 ≤ xs.length ∧ ArR h' g 0 (csT xs x.1) x.2.2.2 ∧ (∀ b ∈ x.2.2.2, h2.size ≤ b ∨ b ∈ F2) ∧ Own h' x.2.1 ((List.range x.1).map fun q : Nat => Iv (off (csT xs xs.length) q : Nat)) x.2.2.1 ∧ (∀ b ∈ x.2.2.1, h2.size ≤ b ∧ b ∉ x.2.2.2) ∧ Fr [] h h' ∧ h2.size ≤ h'.size) (fun x => xs.length - x.1)
    (0, nilS, [], F2) rfl (fun _ => rfl) ⟨Nat.zero_le _, a2, fun b hb => .inr hb, Own.nil h2, by simp, f02, Nat.le_refl _⟩ ?_
  rintro ⟨i, rv, rb, F⟩ h3 ⟨hi, a3, hF, o3, hrb, f3, z3⟩ X hX
  simp only at hi a3 hF o3 hrb
  have hF0 : ∀ b ∈ F, h.size ≤ b := fun b hb => by
    rcases hF b hb with q | q
    · have := f02.size; omega
    · have := n2 b q; have := f1.size; omega
  have hv3 := hv.fr f3
  have lt3 := a3.lt
  simp only [app]
  rw [go_eq, Bin_lss]
  by_cases c1 : (i : Int) < (xs.length : Nat)
  · rw [decide_eq_true c1, If_t]
    have hai := hat i (by omega)
    have hxi := hxr i (by omega)
    have hs := hsz i
    have hs7 := szQ_lt xs i
    rw [go_eq]
    refine Eq.mpr (Idx_rdN hv3 hai) ?_
    rw [go_eq, Rem64 _ _ hxi.1 (by decide), hs, go_eq, Cvt64 _ (by omega) (by omega), go_eq]
    refine MkS_one (x := Iv 0) (n := szQ xs i) (by omega) (by omega) fun h4 o4 f4 s4 => ?_
    have a4 := a3.fr f4 (by simp)
    have o34 := o3.fr f4 (by simp)
    have e0 : List.replicate (szQ xs i) (Iv 0) = (List.range (szQ xs i)).map fun k : Nat => Iv (if k < 0 then 10 * (i : Int) + k + 1 else 0) := by
      refine List.ext_getElem (by simp) fun k h1 h2 => ?_
      simp
    rw [e0] at o4
    have ln4 : ∀ {K : Ret} {h' : Heap}, Len (.slice (some ⟨h3.size, 0, none⟩) (szQ xs i) (szQ xs i)) K h' = K (Iv (szQ xs i : Nat)) h' := fun {K h'} => Len_at _ _ _
    rw [go_eq, ln4]
    generalize (Value.slice (some ⟨h3.size, 0, none⟩) (szQ xs i) (szQ xs i)) = lv at *
    refine Lp_fn (σ := Nat) (fun j => [v, U y, ptr g, rv, Iv (i : Nat), lv, v, Iv (xs.length : Nat), Iv (i : Nat), Iv (szQ xs i : Nat), Iv (j : Nat)])
      (fun j h' => j ≤ szQ xs i ∧ Own h' lv ((List.range (szQ xs i)).map fun k : Nat => Iv (if k < j then 10 * (i : Int) + k + 1 else 0)) [h3.size] ∧ Fr [h3.size] h4 h') (fun j => szQ xs i - j) 0 rfl (fun _ => rfl) ⟨Nat.zero_le _, o4, Fr.refl _ _⟩ ?_
    rintro j h5 ⟨hj, o5, f5⟩ Y hY
    by_cases c2 : (j : Int) < (szQ xs i : Nat)
    · try simp (disch := first | assumption | omega | (apply At.mk; with_unfolding_all rfl)) only [↓go_eq, ↓ent_eq, Mv, NilC_at, Fld_at, add_mk, Nat.zero_add, Nat.add_zero, Add64, Sub64, Mul64, Quo64, Rem64, Neg64, Cvt64, CvtU8, CvtU16, CvtU32, CvtU64, AddU64, SubU64, MulU64, Shr64, Shr_u8, Shr_u16, Shr_u32, Shr_u64, And1, And31, And32, Eql64, Neq64, Bin_lss, Bin_leq, Bin_gtr, Bin_geq, Bin_bool_eql, Bin_bool_neq, Bin_ptr_nil_eql, Bin_ptr_nil_neq, Not_dec, Un_not, Pick_t, Pick_f, Pick_pos, Pick_neg, Gd_tt, Gd_tf, Gd_ft, Gd_ff, Gd_pos_t, Gd_neg_t, Gd_pos_f, Gd_neg_f, Gd_undef, If_t, If_f, If_pos, If_neg, CallF_eq, Max_two, Min_two, Len_rd, Len_own, Ld_blkE, Idx_rdN, Idx_ownN, Idx_rdE, Idx_ownE, IdxAE, LdA_two, Idx_at0, Ext_atE, Len_at, Int.toNat_natCast, Int.toNat_zero, Int.toNat_one, List.length_map, List.length_append, List.length_cons, List.length_nil, List.length_take, List.length_set, List.length_replicate, Bool.not_true, Bool.not_false, decide_true, decide_false, BEq.rfl, bne_self_eq_false, tf_beq, ft_beq, tf_bne, ft_bne, not_true_eq_false, not_false_eq_true, app]
      refine o5.put (by omega) (by simp; omega) rfl fun h6 o6 f6 _ => ?_
      try simp (disch := first | assumption | omega | (apply At.mk; with_unfolding_all rfl)) only [↓go_eq, ↓ent_eq, Mv, NilC_at, Fld_at, add_mk, Nat.zero_add, Nat.add_zero, Add64, Sub64, Mul64, Quo64, Rem64, Neg64, Cvt64, CvtU8, CvtU16, CvtU32, CvtU64, AddU64, SubU64, MulU64, Shr64, Shr_u8, Shr_u16, Shr_u32, Shr_u64, And1, And31, And32, Eql64, Neq64, Bin_lss, Bin_leq, Bin_gtr, Bin_geq, Bin_bool_eql, Bin_bool_neq, Bin_ptr_nil_eql, Bin_ptr_nil_neq, Not_dec, Un_not, Pick_t, Pick_f, Pick_pos, Pick_neg, Gd_tt, Gd_tf, Gd_ft, Gd_ff, Gd_pos_t, Gd_neg_t, Gd_pos_f, Gd_neg_f, Gd_undef, If_t, If_f, If_pos, If_neg, CallF_eq, Max_two, Min_two, Len_rd, Len_own, Ld_blkE, Idx_rdN, Idx_ownN, Idx_rdE, Idx_ownE, IdxAE, LdA_two, Idx_at0, Ext_atE, Len_at, Int.toNat_natCast, Int.toNat_zero, Int.toNat_one, List.length_map, List.length_append, List.length_cons, List.length_nil, List.length_take, List.length_set, List.length_replicate, Bool.not_true, Bool.not_false, decide_true, decide_false, BEq.rfl, bne_self_eq_false, tf_beq, ft_beq, tf_bne, ft_bne, not_true_eq_false, not_false_eq_true, app]
      try simp only [show (j : Int) + 1 = ((j + 1 : Nat) : Int) from by omega]
      refine hY (j + 1) h6 ⟨by omega, ?_, f5.trans f6⟩ (by omega)
      refine cast (congrArg (fun z => Own h6 lv z [h3.size]) ?_) o6
      refine List.ext_getElem? fun q => ?_
      rw [Int.toNat_natCast, List.getElem?_set, List.length_map, List.length_range]
      by_cases hq : q < szQ xs i
      · rw [List.getElem?_map, List.getElem?_map, List.getElem?_range hq]
        by_cases e : j = q
        · subst e
          rw [if_pos rfl, if_pos hq]
          simp only [Option.map_some]
          rw [if_pos (by omega)]
        · rw [if_neg e]
          simp only [Option.map_some]
          by_cases e2 : q < j
          · rw [if_pos e2, if_pos (by omega)]
          · rw [if_neg e2, if_neg (by omega)]
      · rw [List.getElem?_eq_none (by simp; omega), List.getElem?_eq_none (by simp; omega)]
        split
        · rename_i e; subst e; rw [if_neg hq]
        · rfl
    · have ej : (List.range (szQ xs i)).map (fun k : Nat => Iv (if k < j then 10 * (i : Int) + k + 1 else 0)) = (litsQ i (szQ xs i)).map Iv := by
        unfold litsQ
        rw [List.map_map]
        refine List.map_congr_left fun k hk => ?_
        rw [List.mem_range] at hk
        simp only [Function.comp]
        rw [if_pos (by omega)]
      rw [ej] at o5
      have hw5 : ∀ h', Fr F h5 h' → Rd h' lv ((litsQ i (szQ xs i)).map Iv) := fun h' f => (o5.fr f fun b hb hm => by rw [List.mem_singleton] at hb; have := lt3 _ hm; omega).rd
      have a5 := a4.fr f5 (fun b hb => by simp; intro e; have := lt3 _ hb; omega)
      have o35 := o34.fr f5 (fun b hb => by simp; intro e; have := o3.lt _ hb; omega)
      have hwl : (wds (csT xs i)).length = off (csT xs xs.length) i := by rw [wds_len, csT_len, off_csT (Nat.le_refl _) hi]
      have hob := off_bd xs xs.length i hi
      have hrl : ((List.range i).map fun q : Nat => Iv (off (csT xs xs.length) q : Nat)).length = i := by simp
      try simp (disch := first | assumption | omega | (apply At.mk; with_unfolding_all rfl)) only [↓go_eq, ↓ent_eq, Mv, NilC_at, Fld_at, add_mk, Nat.zero_add, Nat.add_zero, Add64, Sub64, Mul64, Quo64, Rem64, Neg64, Cvt64, CvtU8, CvtU16, CvtU32, CvtU64, AddU64, SubU64, MulU64, Shr64, Shr_u8, Shr_u16, Shr_u32, Shr_u64, And1, And31, And32, Eql64, Neq64, Bin_lss, Bin_leq, Bin_gtr, Bin_geq, Bin_bool_eql, Bin_bool_neq, Bin_ptr_nil_eql, Bin_ptr_nil_neq, Not_dec, Un_not, Pick_t, Pick_f, Pick_pos, Pick_neg, Gd_tt, Gd_tf, Gd_ft, Gd_ff, Gd_pos_t, Gd_neg_t, Gd_pos_f, Gd_neg_f, Gd_undef, If_t, If_f, If_pos, If_neg, CallF_eq, Max_two, Min_two, Len_rd, Len_own, Ld_blkE, Idx_rdN, Idx_ownN, Idx_rdE, Idx_ownE, IdxAE, LdA_two, Idx_at0, Ext_atE, Len_at, Int.toNat_natCast, Int.toNat_zero, Int.toNat_one, List.length_map, List.length_append, List.length_cons, List.length_nil, List.length_take, List.length_set, List.length_replicate, Bool.not_true, Bool.not_false, decide_true, decide_false, BEq.rfl, bne_self_eq_false, tf_beq, ft_beq, tf_bne, ft_bne, not_true_eq_false, not_false_eq_true, app]
      refine arena_Arena_Add.spec (c := litsQ i (szQ xs i)) a5 hw5 (by rw [hwl, litsQ_len]; omega) (fun hf => absurd hf.1 (by decide)) fun _ h6 F6 a6 f6 n6 => ?_
      have o36 := o35.fr f6 (fun b hb hm => (hrb b hb).2 hm)
      have z5 := f5.size
      have z4 := f4.size
      have z6 := f6.size
      rw [hwl]
      try simp (disch := first | assumption | omega | (apply At.mk; with_unfolding_all rfl)) only [↓go_eq, ↓ent_eq, Mv, NilC_at, Fld_at, add_mk, Nat.zero_add, Nat.add_zero, Add64, Sub64, Mul64, Quo64, Rem64, Neg64, Cvt64, CvtU8, CvtU16, CvtU32, CvtU64, AddU64, SubU64, MulU64, Shr64, Shr_u8, Shr_u16, Shr_u32, Shr_u64, And1, And31, And32, Eql64, Neq64, Bin_lss, Bin_leq, Bin_gtr, Bin_geq, Bin_bool_eql, Bin_bool_neq, Bin_ptr_nil_eql, Bin_ptr_nil_neq, Not_dec, Un_not, Pick_t, Pick_f, Pick_pos, Pick_neg, Gd_tt, Gd_tf, Gd_ft, Gd_ff, Gd_pos_t, Gd_neg_t, Gd_pos_f, Gd_neg_f, Gd_undef, If_t, If_f, If_pos, If_neg, CallF_eq, Max_two, Min_two, Len_rd, Len_own, Ld_blkE, Idx_rdN, Idx_ownN, Idx_rdE, Idx_ownE, IdxAE, LdA_two, Idx_at0, Ext_atE, Len_at, Int.toNat_natCast, Int.toNat_zero, Int.toNat_one, List.length_map, List.length_append, List.length_cons, List.length_nil, List.length_take, List.length_set, List.length_replicate, Bool.not_true, Bool.not_false, decide_true, decide_false, BEq.rfl, bne_self_eq_false, tf_beq, ft_beq, tf_bne, ft_bne, not_true_eq_false, not_false_eq_true, app]
      refine o36.app1 rfl rfl rfl (by rw [hrl]; omega) (by rw [hrl]; omega) fun v7 h7 rb7 o7 f7 hb7 => ?_
      try simp (disch := first | assumption | omega | (apply At.mk; with_unfolding_all rfl)) only [↓go_eq, ↓ent_eq, Mv, NilC_at, Fld_at, add_mk, Nat.zero_add, Nat.add_zero, Add64, Sub64, Mul64, Quo64, Rem64, Neg64, Cvt64, CvtU8, CvtU16, CvtU32, CvtU64, AddU64, SubU64, MulU64, Shr64, Shr_u8, Shr_u16, Shr_u32, Shr_u64, And1, And31, And32, Eql64, Neq64, Bin_lss, Bin_leq, Bin_gtr, Bin_geq, Bin_bool_eql, Bin_bool_neq, Bin_ptr_nil_eql, Bin_ptr_nil_neq, Not_dec, Un_not, Pick_t, Pick_f, Pick_pos, Pick_neg, Gd_tt, Gd_tf, Gd_ft, Gd_ff, Gd_pos_t, Gd_neg_t, Gd_pos_f, Gd_neg_f, Gd_undef, If_t, If_f, If_pos, If_neg, CallF_eq, Max_two, Min_two, Len_rd, Len_own, Ld_blkE, Idx_rdN, Idx_ownN, Idx_rdE, Idx_ownE, IdxAE, LdA_two, Idx_at0, Ext_atE, Len_at, Int.toNat_natCast, Int.toNat_zero, Int.toNat_one, List.length_map, List.length_append, List.length_cons, List.length_nil, List.length_take, List.length_set, List.length_replicate, Bool.not_true, Bool.not_false, decide_true, decide_false, BEq.rfl, bne_self_eq_false, tf_beq, ft_beq, tf_bne, ft_bne, not_true_eq_false, not_false_eq_true, app]
      try simp only [show (i : Int) + 1 = ((i + 1 : Nat) : Int) from by omega]
      have efit : fit31 ((i : Nat) : Int) = ((i : Nat) : Int) := by unfold fit31; omega
      have a7 := a6.fr f7 (fun b hb hm => by
        rcases n6 b hb with q | q
        · exact (hrb b hm).2 q
        · have := o35.lt b hm; omega)
      have hcs : csT xs i ++ [⟨litsQ i (szQ xs i), decide (((i : Nat) : Int) % 2 = 0), fit31 ((i : Nat) : Int), 0, false⟩] = csT xs (i + 1) := by rw [csT_succ, efit]; rfl
      rw [hcs] at a7
      refine hX (i + 1, v7, rb7, F6) h7 ⟨by simp only; omega, a7, fun b hb => ?_, ?_, fun b hb => ?_, ?_, by have := f7.size; omega⟩ (by simp only; omega)
      · rcases n6 b hb with q | q
        · exact hF b q
        · exact .inl (by omega)
      · rw [List.range_succ, List.map_append]; exact o7
      · rcases hb7 b hb with q | q
        · refine ⟨(hrb b q).1, fun hm => ?_⟩
          rcases n6 b hm with r | r
          · exact (hrb b q).2 r
          · have := o35.lt b q; omega
        · have := f6.size
          exact ⟨by omega, fun hm => by have := a6.lt b hm; omega⟩
      · exact (((f3.trans f4).trans' f5 (fun b hb => .inr (by simp at hb; have := f3.size; omega))).trans' f6 (fun b hb => .inr (hF0 b hb))).trans' f7 (fun b hb => .inr (by have := (hrb b hb).1; have := f02.size; omega))
  have ei : i = xs.length := by omega
  subst ei
  generalize hn : xs.length = n at *
  have hrl : ((List.range n).map fun q : Nat => Iv (off (csT xs n) q : Nat)).length = n := by simp
  have har : ∀ q, q < n → At ((List.range n).map fun q : Nat => Iv (off (csT xs n) q : Nat)) q (Iv (off (csT xs n) q : Nat)) := fun q hq => ⟨by rw [List.getElem?_map, List.getElem?_range hq]; rfl⟩
  rw [decide_eq_false c1, If_f, go_eq, Len_own o3, hrl]
  have hrb' : ∀ b ∈ rb, b ∉ F := fun b hb => (hrb b hb).2
  have hnl : ∀ (m i : Nat), i < n → liveK (csD xs y m n) i = !(decide (i < m) && y.getLsbD i) := fun m i hi => by rw [liveK_some (csD_get hi)]; rfl
  refine Lp_fn (σ := Nat) (fun x => [v, U y, ptr g, rv, Iv (newOff (csD xs y n n) x : Nat), Iv ((ks (csD xs y n n) x).length : Nat), rv, Iv (n : Nat), Iv (x : Nat)])
    (fun x h' => x ≤ n ∧ ArR h' g 0 (csD xs y x n) F ∧ Own h' rv ((List.range n).map fun q : Nat => Iv (off (csT xs n) q : Nat)) rb ∧ Fr [] h h') (fun x => n - x) 0 rfl (fun _ => rfl) ⟨Nat.zero_le _, by rw [csD_zero]; exact a3, o3, f3⟩ ?_
  clear a3 o3 hX hrb
  rintro i h4 ⟨hi, a4, o4, f4⟩ Y hY
  have hv4 := hv.fr f4
  have lt4 := a4.lt
  simp only [app]
  rw [go_eq, Bin_lss]
  by_cases c2 : (i : Int) < (n : Nat)
  · rw [decide_eq_true c2, If_t]
    have hai := hat i (by omega)
    have hxi := hxr i (by omega)
    have hs := hsz i
    have hs7 := szQ_lt xs i
    have hri := har i (by omega)
    have hst := csD_step (xs := xs) (y := y) (i := i) (n := n) (by omega)
    have hgi := csD_get (xs := xs) (y := y) (i := n) (n := n) (q := i) (by omega)
    have hlk := hnl n i (by omega)
    rw [decide_eq_true (show i < n by omega), Bool.true_and] at hlk
    have hbn := newOff_le_off (cs := csD xs y n n) (k := i) (by rw [csD_len]; omega)
    rw [off_csD (by omega)] at hbn
    have hob := off_bd xs n i hi
    have hkl : (ks (csD xs y n n) i).length ≤ i := by unfold ks; have := List.length_filter_le (liveK (csD xs y n n)) (List.range i); simpa using this
    refine Jn_fn (σ := Unit) (fun _ => [v, U y, ptr g, rv, Iv (newOff (csD xs y n n) (i + 1) : Nat), Iv ((ks (csD xs y n n) (i + 1)).length : Nat), rv, Iv (n : Nat), Iv (i : Nat)])
      (fun _ h' => ArR h' g 0 (csD xs y (i + 1) n) F ∧ Own h' rv ((List.range n).map fun q : Nat => Iv (off (csT xs n) q : Nat)) rb ∧ Fr [] h h') ?_ ?_
    · intro J hJ
      rw [go_eq]
      refine Eq.mpr (Idx_ownN o4 hri) ?_
      rw [go_eq, U_shr, show Value.int .u64 1 = U 1#64 from rfl, go_eq, U_and, go_eq, U_eql, bit_of]
      cases hb : y.getLsbD i with
      | true =>
        rw [hb] at hlk
        have hnl' : ¬ liveK (csD xs y n n) i = true := by rw [hlk]; decide
        have hno : newOff (csD xs y n n) (i + 1) = newOff (csD xs y n n) i := newOff_gone hgi (by rw [← liveK_some hgi]; exact hnl')
        rw [hno, ks_step, if_neg hnl', List.append_nil] at hJ
        rw [If_t, go_eq, CallF_eq]
        have hgc := csD_get (xs := xs) (y := y) (i := i) (n := n) (q := i) (by omega)
        have hg0 : (decide (i < i) && y.getLsbD i) = false := by simp
        rw [hg0] at hgc
        rw [← off_csD (xs := xs) (y := y) (i := i) (n := n) (k := i) hi]
        refine arena_Arena_Drop.yes a4 hgc rfl fun h5 a5 f5 => ?_
        have e5 := hst.1 hb
        rw [show ({ (⟨(bcl xs i).lits, (bcl xs i).lrn, (bcl xs i).glue, (bcl xs i).uses, false⟩ : Cl) with gone := true } : Cl) = { bcl xs i with gone := true } from rfl, e5] at a5
        exact hJ () h5 ⟨a5, o4.fr f5 hrb', f4.trans' f5 fun b hb => .inr (hF0 b hb)⟩
      | false =>
        rw [hb] at hlk
        have hnl' : liveK (csD xs y n n) i = true := by rw [hlk]; decide
        have hno : newOff (csD xs y n n) (i + 1) = newOff (csD xs y n n) i + 3 + szQ xs i := by
          rw [newOff_live hgi (by rw [← liveK_some hgi]; exact hnl')]
          show _ + 3 + (litsQ i (szQ xs i)).length = _
          rw [litsQ_len]
        rw [hno, ks_step, if_pos hnl', List.length_append] at hJ
        rw [If_f, go_eq]
        refine Eq.mpr (Idx_rdN hv4 hai) ?_
        rw [go_eq, Rem64 _ _ hxi.1 (by decide), hs, go_eq, Cvt64 _ (by omega) (by omega), go_eq, Add64 _ (by omega) (by omega), go_eq, Add64 _ (by omega) (by omega), go_eq, Add64 _ (by omega) (by omega)]
        have e1 : ((newOff (csD xs y n n) i : Nat) : Int) + (3 + (szQ xs i : Nat)) = ((newOff (csD xs y n n) i + 3 + szQ xs i : Nat) : Int) := by omega
        have e2 : (((ks (csD xs y n n) i).length : Nat) : Int) + 1 = (((ks (csD xs y n n) i).length + [i].length : Nat) : Int) := by simp
        rw [e1, e2]
        rw [hst.2 hb] at a4
        exact hJ () h4 ⟨a4, o4, f4⟩
    · rintro - h5 ⟨a5, o5, f5⟩
      simp only [app]
      rw [go_eq, Add64 _ (by omega) (by omega)]
      try simp only [show (i : Int) + 1 = ((i + 1 : Nat) : Int) from by omega]
      exact hY (i + 1) h5 ⟨by omega, a5, o5, f5⟩ (by omega)
  have ei : i = n := by omega
  subst ei
  rw [decide_eq_false c2, If_f, go_eq, CallF_eq]
  refine arena_Arena_Compact.spec a4 fun mb h5 F5 m5 a5 f5 n5 hmb hmF => ?_
  rw [csD_len] at m5
  have hrb5 : ∀ b ∈ rb, b ∉ F5 := fun b hb hm => by
    rcases n5 b hm with q | q
    · exact hrb' b hb q
    · have := o4.lt b hb; omega
  have hmrb : mb ∉ rb := fun hm => by have := o4.lt mb hm; omega
  have o5 := o4.fr f5 hrb'
  have hF5 : ∀ b ∈ F5, h.size ≤ b := fun b hb => by
    rcases n5 b hb with q | q
    · exact hF0 b q
    · have := f4.size; omega
  have f05 : Fr [] h h5 := f4.trans' f5 fun b hb => .inr (hF0 b hb)
  have hml : ((mvV (csD xs y i i) i).length : Int) = ((ks (csD xs y i i) i).length : Nat) := by unfold mvV; rw [List.length_map]
  have hwl : ((wds ((csD xs y i i).filter live)).length : Int) = (newOff (csD xs y i i) i : Nat) := by rw [← newOff_end, csD_len]
  have hcl : (((csD xs y i i).filter live).countP (fun c => !c.gone) : Int) = ((ks (csD xs y i i) i).length : Nat) := by
    have := lv_count (cs := (csD xs y i i).filter live) (lvL_nodup (csD xs y i i) (csD xs y i i).length) fun r => lvL_mem
    rw [← this, csD_len]; unfold lvL; rw [List.length_map]
  have hkb : (ks (csD xs y i i) i).length ≤ i := by unfold ks; have := List.length_filter_le (liveK (csD xs y i i)) (List.range i); simpa using this
  have hbd := newOff_le_off (cs := csD xs y i i) (k := i) (by rw [csD_len]; omega)
  rw [off_csD (Nat.le_refl _)] at hbd
  have hob := off_bd xs i i (Nat.le_refl _)
  rw [go_eq]
  refine LenM_map m5 ?_
  rw [hml]
  try simp (disch := first | assumption | omega | (apply At.mk; with_unfolding_all rfl)) only [↓go_eq, ↓ent_eq, Mv, NilC_at, Fld_at, add_mk, Nat.zero_add, Nat.add_zero, Add64, Sub64, Mul64, Quo64, Rem64, Neg64, Cvt64, CvtU8, CvtU16, CvtU32, CvtU64, AddU64, SubU64, MulU64, Shr64, Shr_u8, Shr_u16, Shr_u32, Shr_u64, And1, And31, And32, Eql64, Neq64, Bin_lss, Bin_leq, Bin_gtr, Bin_geq, Bin_bool_eql, Bin_bool_neq, Bin_ptr_nil_eql, Bin_ptr_nil_neq, Not_dec, Un_not, Pick_t, Pick_f, Pick_pos, Pick_neg, Gd_tt, Gd_tf, Gd_ft, Gd_ff, Gd_pos_t, Gd_neg_t, Gd_pos_f, Gd_neg_f, Gd_undef, If_t, If_f, If_pos, If_neg, CallF_eq, Max_two, Min_two, Len_rd, Len_own, Ld_blkE, Idx_rdN, Idx_ownN, Idx_rdE, Idx_ownE, IdxAE, LdA_two, Idx_at0, Ext_atE, Len_at, Int.toNat_natCast, Int.toNat_zero, Int.toNat_one, List.length_map, List.length_append, List.length_cons, List.length_nil, List.length_take, List.length_set, List.length_replicate, Bool.not_true, Bool.not_false, decide_true, decide_false, BEq.rfl, bne_self_eq_false, tf_beq, ft_beq, tf_bne, ft_bne, not_true_eq_false, not_false_eq_true, app]
  refine words_q a5 ?_
  rw [hwl]
  try simp (disch := first | assumption | omega | (apply At.mk; with_unfolding_all rfl)) only [↓go_eq, ↓ent_eq, Mv, NilC_at, Fld_at, add_mk, Nat.zero_add, Nat.add_zero, Add64, Sub64, Mul64, Quo64, Rem64, Neg64, Cvt64, CvtU8, CvtU16, CvtU32, CvtU64, AddU64, SubU64, MulU64, Shr64, Shr_u8, Shr_u16, Shr_u32, Shr_u64, And1, And31, And32, Eql64, Neq64, Bin_lss, Bin_leq, Bin_gtr, Bin_geq, Bin_bool_eql, Bin_bool_neq, Bin_ptr_nil_eql, Bin_ptr_nil_neq, Not_dec, Un_not, Pick_t, Pick_f, Pick_pos, Pick_neg, Gd_tt, Gd_tf, Gd_ft, Gd_ff, Gd_pos_t, Gd_neg_t, Gd_pos_f, Gd_neg_f, Gd_undef, If_t, If_f, If_pos, If_neg, CallF_eq, Max_two, Min_two, Len_rd, Len_own, Ld_blkE, Idx_rdN, Idx_ownN, Idx_rdE, Idx_ownE, IdxAE, LdA_two, Idx_at0, Ext_atE, Len_at, Int.toNat_natCast, Int.toNat_zero, Int.toNat_one, List.length_map, List.length_append, List.length_cons, List.length_nil, List.length_take, List.length_set, List.length_replicate, Bool.not_true, Bool.not_false, decide_true, decide_false, BEq.rfl, bne_self_eq_false, tf_beq, ft_beq, tf_bne, ft_bne, not_true_eq_false, not_false_eq_true, app]
  refine count_q a5 ?_
  rw [hcl]
  try simp (disch := first | assumption | omega | (apply At.mk; with_unfolding_all rfl)) only [hrl, ↓go_eq, ↓ent_eq, Mv, NilC_at, Fld_at, add_mk, Nat.zero_add, Nat.add_zero, Add64, Sub64, Mul64, Quo64, Rem64, Neg64, Cvt64, CvtU8, CvtU16, CvtU32, CvtU64, AddU64, SubU64, MulU64, Shr64, Shr_u8, Shr_u16, Shr_u32, Shr_u64, And1, And31, And32, Eql64, Neq64, Bin_lss, Bin_leq, Bin_gtr, Bin_geq, Bin_bool_eql, Bin_bool_neq, Bin_ptr_nil_eql, Bin_ptr_nil_neq, Not_dec, Un_not, Pick_t, Pick_f, Pick_pos, Pick_neg, Gd_tt, Gd_tf, Gd_ft, Gd_ff, Gd_pos_t, Gd_neg_t, Gd_pos_f, Gd_neg_f, Gd_undef, If_t, If_f, If_pos, If_neg, CallF_eq, Max_two, Min_two, Len_rd, Len_own, Ld_blkE, Idx_rdN, Idx_ownN, Idx_rdE, Idx_ownE, IdxAE, LdA_two, Idx_at0, Ext_atE, Len_at, Int.toNat_natCast, Int.toNat_zero, Int.toNat_one, List.length_map, List.length_append, List.length_cons, List.length_nil, List.length_take, List.length_set, List.length_replicate, Bool.not_true, Bool.not_false, decide_true, decide_false, BEq.rfl, bne_self_eq_false, tf_beq, ft_beq, tf_bne, ft_bne, not_true_eq_false, not_false_eq_true, app]
  have lt5 := a5.lt
  refine Lp_fn (σ := Nat) (fun x => [v, U y, ptr g, Iv (newOff (csD xs y i i) i : Nat), Iv ((ks (csD xs y i i) i).length : Nat), .map (some mb), rv, Iv (i : Nat), Iv (x : Nat)])
    (fun x h' => x ≤ i ∧ h5 = h') (fun x => i - x) 0 rfl (fun _ => rfl) ⟨Nat.zero_le _, rfl⟩ ?_
  rintro k h6 ⟨hki, rfl⟩ Z hZ
  by_cases c3 : (k : Int) < (i : Nat)
  · have hlk := hnl i k (by omega)
    rw [decide_eq_true (show k < i by omega), Bool.true_and] at hlk
    have hrk := har k (by omega)
    have hgk := csD_get (xs := xs) (y := y) (i := i) (n := i) (q := k) (by omega)
    have hlook := look_mv (cs := csD xs y i i) (i := i) (k := k)
    rw [off_csD (by omega)] at hlook
    have hZ' := hZ (k + 1) h5 ⟨by omega, rfl⟩ (by omega)
    try simp (disch := first | assumption | omega | (apply At.mk; with_unfolding_all rfl)) only [↓go_eq, ↓ent_eq, Mv, NilC_at, Fld_at, add_mk, Nat.zero_add, Nat.add_zero, Add64, Sub64, Mul64, Quo64, Rem64, Neg64, Cvt64, CvtU8, CvtU16, CvtU32, CvtU64, AddU64, SubU64, MulU64, Shr64, Shr_u8, Shr_u16, Shr_u32, Shr_u64, And1, And31, And32, Eql64, Neq64, Bin_lss, Bin_leq, Bin_gtr, Bin_geq, Bin_bool_eql, Bin_bool_neq, Bin_ptr_nil_eql, Bin_ptr_nil_neq, Not_dec, Un_not, Pick_t, Pick_f, Pick_pos, Pick_neg, Gd_tt, Gd_tf, Gd_ft, Gd_ff, Gd_pos_t, Gd_neg_t, Gd_pos_f, Gd_neg_f, Gd_undef, If_t, If_f, If_pos, If_neg, CallF_eq, Max_two, Min_two, Len_rd, Len_own, Ld_blkE, Idx_rdN, Idx_ownN, Idx_rdE, Idx_ownE, IdxAE, LdA_two, Idx_at0, Ext_atE, Len_at, Int.toNat_natCast, Int.toNat_zero, Int.toNat_one, List.length_map, List.length_append, List.length_cons, List.length_nil, List.length_take, List.length_set, List.length_replicate, Bool.not_true, Bool.not_false, decide_true, decide_false, BEq.rfl, bne_self_eq_false, tf_beq, ft_beq, tf_bne, ft_bne, not_true_eq_false, not_false_eq_true, app]
    refine Lk_map m5 ?_
    cases hb : y.getLsbD k with
    | true =>
      rw [hb] at hlk
      rw [hlook, if_neg (fun q => by have := q.2; rw [hlk] at this; exact absurd this (by decide))]
      simp only [if_true]
      try simp (disch := first | assumption | omega | (apply At.mk; with_unfolding_all rfl)) only [↓go_eq, ↓ent_eq, Mv, NilC_at, Fld_at, add_mk, Nat.zero_add, Nat.add_zero, Add64, Sub64, Mul64, Quo64, Rem64, Neg64, Cvt64, CvtU8, CvtU16, CvtU32, CvtU64, AddU64, SubU64, MulU64, Shr64, Shr_u8, Shr_u16, Shr_u32, Shr_u64, And1, And31, And32, Eql64, Neq64, Bin_lss, Bin_leq, Bin_gtr, Bin_geq, Bin_bool_eql, Bin_bool_neq, Bin_ptr_nil_eql, Bin_ptr_nil_neq, Not_dec, Un_not, Pick_t, Pick_f, Pick_pos, Pick_neg, Gd_tt, Gd_tf, Gd_ft, Gd_ff, Gd_pos_t, Gd_neg_t, Gd_pos_f, Gd_neg_f, Gd_undef, If_t, If_f, If_pos, If_neg, CallF_eq, Max_two, Min_two, Len_rd, Len_own, Ld_blkE, Idx_rdN, Idx_ownN, Idx_rdE, Idx_ownE, IdxAE, LdA_two, Idx_at0, Ext_atE, Len_at, Int.toNat_natCast, Int.toNat_zero, Int.toNat_one, List.length_map, List.length_append, List.length_cons, List.length_nil, List.length_take, List.length_set, List.length_replicate, Bool.not_true, Bool.not_false, decide_true, decide_false, BEq.rfl, bne_self_eq_false, tf_beq, ft_beq, tf_bne, ft_bne, not_true_eq_false, not_false_eq_true, app]
      rw [U_shr, show Value.int .u64 1 = U 1#64 from rfl, U_and, U_eql, bit_of, hb]
      try simp (disch := first | assumption | omega | (apply At.mk; with_unfolding_all rfl)) only [↓go_eq, ↓ent_eq, Mv, NilC_at, Fld_at, add_mk, Nat.zero_add, Nat.add_zero, Add64, Sub64, Mul64, Quo64, Rem64, Neg64, Cvt64, CvtU8, CvtU16, CvtU32, CvtU64, AddU64, SubU64, MulU64, Shr64, Shr_u8, Shr_u16, Shr_u32, Shr_u64, And1, And31, And32, Eql64, Neq64, Bin_lss, Bin_leq, Bin_gtr, Bin_geq, Bin_bool_eql, Bin_bool_neq, Bin_ptr_nil_eql, Bin_ptr_nil_neq, Not_dec, Un_not, Pick_t, Pick_f, Pick_pos, Pick_neg, Gd_tt, Gd_tf, Gd_ft, Gd_ff, Gd_pos_t, Gd_neg_t, Gd_pos_f, Gd_neg_f, Gd_undef, If_t, If_f, If_pos, If_neg, CallF_eq, Max_two, Min_two, Len_rd, Len_own, Ld_blkE, Idx_rdN, Idx_ownN, Idx_rdE, Idx_ownE, IdxAE, LdA_two, Idx_at0, Ext_atE, Len_at, Int.toNat_natCast, Int.toNat_zero, Int.toNat_one, List.length_map, List.length_append, List.length_cons, List.length_nil, List.length_take, List.length_set, List.length_replicate, Bool.not_true, Bool.not_false, decide_true, decide_false, BEq.rfl, bne_self_eq_false, tf_beq, ft_beq, tf_bne, ft_bne, not_true_eq_false, not_false_eq_true, app]
      try simp only [show (k : Int) + 1 = ((k + 1 : Nat) : Int) from by omega]
      exact hZ'
    | false =>
      rw [hb] at hlk
      have hlk' : liveK (csD xs y i i) k = true := by rw [hlk]; decide
      have hlv : live { bcl xs k with gone := decide (k < i) && y.getLsbD k } = true := by rw [← liveK_some hgk]; exact hlk'
      have hg0 : (decide (k < i) && y.getLsbD k) = false := by rw [hb]; simp
      rw [hg0] at hgk hlv
      obtain ⟨j, q1, q2⟩ := filt_at hgk hlv
      have hcA := clAt_live q1 rfl
      rw [q2] at hcA
      rw [hlook, if_pos ⟨by omega, hlk'⟩]
      simp only [if_true]
      have hai := hat k (by omega)
      have hxi := hxr k (by omega)
      have hs := hsz k
      have hs7 := szQ_lt xs k
      have hv5 := hv.fr f05
      try simp (disch := first | assumption | omega | (apply At.mk; with_unfolding_all rfl)) only [↓go_eq, ↓ent_eq, Mv, NilC_at, Fld_at, add_mk, Nat.zero_add, Nat.add_zero, Add64, Sub64, Mul64, Quo64, Rem64, Neg64, Cvt64, CvtU8, CvtU16, CvtU32, CvtU64, AddU64, SubU64, MulU64, Shr64, Shr_u8, Shr_u16, Shr_u32, Shr_u64, And1, And31, And32, Eql64, Neq64, Bin_lss, Bin_leq, Bin_gtr, Bin_geq, Bin_bool_eql, Bin_bool_neq, Bin_ptr_nil_eql, Bin_ptr_nil_neq, Not_dec, Un_not, Pick_t, Pick_f, Pick_pos, Pick_neg, Gd_tt, Gd_tf, Gd_ft, Gd_ff, Gd_pos_t, Gd_neg_t, Gd_pos_f, Gd_neg_f, Gd_undef, If_t, If_f, If_pos, If_neg, CallF_eq, Max_two, Min_two, Len_rd, Len_own, Ld_blkE, Idx_rdN, Idx_ownN, Idx_rdE, Idx_ownE, IdxAE, LdA_two, Idx_at0, Ext_atE, Len_at, Int.toNat_natCast, Int.toNat_zero, Int.toNat_one, List.length_map, List.length_append, List.length_cons, List.length_nil, List.length_take, List.length_set, List.length_replicate, Bool.not_true, Bool.not_false, decide_true, decide_false, BEq.rfl, bne_self_eq_false, tf_beq, ft_beq, tf_bne, ft_bne, not_true_eq_false, not_false_eq_true, app]
      rw [U_shr, show Value.int .u64 1 = U 1#64 from rfl, U_and, U_eql, bit_of, hb]
      try simp (disch := first | assumption | omega | (apply At.mk; with_unfolding_all rfl)) only [↓go_eq, ↓ent_eq, Mv, NilC_at, Fld_at, add_mk, Nat.zero_add, Nat.add_zero, Add64, Sub64, Mul64, Quo64, Rem64, Neg64, Cvt64, CvtU8, CvtU16, CvtU32, CvtU64, AddU64, SubU64, MulU64, Shr64, Shr_u8, Shr_u16, Shr_u32, Shr_u64, And1, And31, And32, Eql64, Neq64, Bin_lss, Bin_leq, Bin_gtr, Bin_geq, Bin_bool_eql, Bin_bool_neq, Bin_ptr_nil_eql, Bin_ptr_nil_neq, Not_dec, Un_not, Pick_t, Pick_f, Pick_pos, Pick_neg, Gd_tt, Gd_tf, Gd_ft, Gd_ff, Gd_pos_t, Gd_neg_t, Gd_pos_f, Gd_neg_f, Gd_undef, If_t, If_f, If_pos, If_neg, CallF_eq, Max_two, Min_two, Len_rd, Len_own, Ld_blkE, Idx_rdN, Idx_ownN, Idx_rdE, Idx_ownE, IdxAE, LdA_two, Idx_at0, Ext_atE, Len_at, Int.toNat_natCast, Int.toNat_zero, Int.toNat_one, List.length_map, List.length_append, List.length_cons, List.length_nil, List.length_take, List.length_set, List.length_replicate, Bool.not_true, Bool.not_false, decide_true, decide_false, BEq.rfl, bne_self_eq_false, tf_beq, ft_beq, tf_bne, ft_bne, not_true_eq_false, not_false_eq_true, app]
      refine glue_q a5 ?_
      rw [hcA]
      rw [show glueO (some (⟨(bcl xs k).lits, (bcl xs k).lrn, (bcl xs k).glue, (bcl xs k).uses, false⟩ : Cl)) = (k : Int) from rfl]
      try simp (disch := first | assumption | omega | (apply At.mk; with_unfolding_all rfl)) only [↓go_eq, ↓ent_eq, Mv, NilC_at, Fld_at, add_mk, Nat.zero_add, Nat.add_zero, Add64, Sub64, Mul64, Quo64, Rem64, Neg64, Cvt64, CvtU8, CvtU16, CvtU32, CvtU64, AddU64, SubU64, MulU64, Shr64, Shr_u8, Shr_u16, Shr_u32, Shr_u64, And1, And31, And32, Eql64, Neq64, Bin_lss, Bin_leq, Bin_gtr, Bin_geq, Bin_bool_eql, Bin_bool_neq, Bin_ptr_nil_eql, Bin_ptr_nil_neq, Not_dec, Un_not, Pick_t, Pick_f, Pick_pos, Pick_neg, Gd_tt, Gd_tf, Gd_ft, Gd_ff, Gd_pos_t, Gd_neg_t, Gd_pos_f, Gd_neg_f, Gd_undef, If_t, If_f, If_pos, If_neg, CallF_eq, Max_two, Min_two, Len_rd, Len_own, Ld_blkE, Idx_rdN, Idx_ownN, Idx_rdE, Idx_ownE, IdxAE, LdA_two, Idx_at0, Ext_atE, Len_at, Int.toNat_natCast, Int.toNat_zero, Int.toNat_one, List.length_map, List.length_append, List.length_cons, List.length_nil, List.length_take, List.length_set, List.length_replicate, Bool.not_true, Bool.not_false, decide_true, decide_false, BEq.rfl, bne_self_eq_false, tf_beq, ft_beq, tf_bne, ft_bne, not_true_eq_false, not_false_eq_true, app]
      refine len_q a5 ?_
      rw [hcA]
      rw [show lenO (some (⟨(bcl xs k).lits, (bcl xs k).lrn, (bcl xs k).glue, (bcl xs k).uses, false⟩ : Cl)) = szQ xs k from litsQ_len k (szQ xs k)]
      try simp (disch := first | assumption | omega | (apply At.mk; with_unfolding_all rfl)) only [hs, ↓go_eq, ↓ent_eq, Mv, NilC_at, Fld_at, add_mk, Nat.zero_add, Nat.add_zero, Add64, Sub64, Mul64, Quo64, Rem64, Neg64, Cvt64, CvtU8, CvtU16, CvtU32, CvtU64, AddU64, SubU64, MulU64, Shr64, Shr_u8, Shr_u16, Shr_u32, Shr_u64, And1, And31, And32, Eql64, Neq64, Bin_lss, Bin_leq, Bin_gtr, Bin_geq, Bin_bool_eql, Bin_bool_neq, Bin_ptr_nil_eql, Bin_ptr_nil_neq, Not_dec, Un_not, Pick_t, Pick_f, Pick_pos, Pick_neg, Gd_tt, Gd_tf, Gd_ft, Gd_ff, Gd_pos_t, Gd_neg_t, Gd_pos_f, Gd_neg_f, Gd_undef, If_t, If_f, If_pos, If_neg, CallF_eq, Max_two, Min_two, Len_rd, Len_own, Ld_blkE, Idx_rdN, Idx_ownN, Idx_rdE, Idx_ownE, IdxAE, LdA_two, Idx_at0, Ext_atE, Len_at, Int.toNat_natCast, Int.toNat_zero, Int.toNat_one, List.length_map, List.length_append, List.length_cons, List.length_nil, List.length_take, List.length_set, List.length_replicate, Bool.not_true, Bool.not_false, decide_true, decide_false, BEq.rfl, bne_self_eq_false, tf_beq, ft_beq, tf_bne, ft_bne, not_true_eq_false, not_false_eq_true, app]
      refine learned_q a5 ?_
      rw [hcA]
      rw [show lrnO (some (⟨(bcl xs k).lits, (bcl xs k).lrn, (bcl xs k).glue, (bcl xs k).uses, false⟩ : Cl)) = decide (((k : Nat) : Int) % 2 = 0) from rfl]
      try simp (disch := first | assumption | omega | (apply At.mk; with_unfolding_all rfl)) only [↓go_eq, ↓ent_eq, Mv, NilC_at, Fld_at, add_mk, Nat.zero_add, Nat.add_zero, Add64, Sub64, Mul64, Quo64, Rem64, Neg64, Cvt64, CvtU8, CvtU16, CvtU32, CvtU64, AddU64, SubU64, MulU64, Shr64, Shr_u8, Shr_u16, Shr_u32, Shr_u64, And1, And31, And32, Eql64, Neq64, Bin_lss, Bin_leq, Bin_gtr, Bin_geq, Bin_bool_eql, Bin_bool_neq, Bin_ptr_nil_eql, Bin_ptr_nil_neq, Not_dec, Un_not, Pick_t, Pick_f, Pick_pos, Pick_neg, Gd_tt, Gd_tf, Gd_ft, Gd_ff, Gd_pos_t, Gd_neg_t, Gd_pos_f, Gd_neg_f, Gd_undef, If_t, If_f, If_pos, If_neg, CallF_eq, Max_two, Min_two, Len_rd, Len_own, Ld_blkE, Idx_rdN, Idx_ownN, Idx_rdE, Idx_ownE, IdxAE, LdA_two, Idx_at0, Ext_atE, Len_at, Int.toNat_natCast, Int.toNat_zero, Int.toNat_one, List.length_map, List.length_append, List.length_cons, List.length_nil, List.length_take, List.length_set, List.length_replicate, Bool.not_true, Bool.not_false, decide_true, decide_false, BEq.rfl, bne_self_eq_false, tf_beq, ft_beq, tf_bne, ft_bne, not_true_eq_false, not_false_eq_true, app]
      refine len_q a5 ?_
      rw [hcA]
      rw [show lenO (some (⟨(bcl xs k).lits, (bcl xs k).lrn, (bcl xs k).glue, (bcl xs k).uses, false⟩ : Cl)) = szQ xs k from litsQ_len k (szQ xs k)]
      by_cases c5 : ((szQ xs k : Nat) : Int) > 0
      · try simp (disch := first | assumption | omega | (apply At.mk; with_unfolding_all rfl)) only [↓go_eq, ↓ent_eq, Mv, NilC_at, Fld_at, add_mk, Nat.zero_add, Nat.add_zero, Add64, Sub64, Mul64, Quo64, Rem64, Neg64, Cvt64, CvtU8, CvtU16, CvtU32, CvtU64, AddU64, SubU64, MulU64, Shr64, Shr_u8, Shr_u16, Shr_u32, Shr_u64, And1, And31, And32, Eql64, Neq64, Bin_lss, Bin_leq, Bin_gtr, Bin_geq, Bin_bool_eql, Bin_bool_neq, Bin_ptr_nil_eql, Bin_ptr_nil_neq, Not_dec, Un_not, Pick_t, Pick_f, Pick_pos, Pick_neg, Gd_tt, Gd_tf, Gd_ft, Gd_ff, Gd_pos_t, Gd_neg_t, Gd_pos_f, Gd_neg_f, Gd_undef, If_t, If_f, If_pos, If_neg, CallF_eq, Max_two, Min_two, Len_rd, Len_own, Ld_blkE, Idx_rdN, Idx_ownN, Idx_rdE, Idx_ownE, IdxAE, LdA_two, Idx_at0, Ext_atE, Len_at, Int.toNat_natCast, Int.toNat_zero, Int.toNat_one, List.length_map, List.length_append, List.length_cons, List.length_nil, List.length_take, List.length_set, List.length_replicate, Bool.not_true, Bool.not_false, decide_true, decide_false, BEq.rfl, bne_self_eq_false, tf_beq, ft_beq, tf_bne, ft_bne, not_true_eq_false, not_false_eq_true, app]
        refine lit_q a5 ?_
        rw [hcA]
        have e0 : litO (some (⟨(bcl xs k).lits, (bcl xs k).lrn, (bcl xs k).glue, (bcl xs k).uses, false⟩ : Cl)) 0 = 10 * (k : Int) + 1 := by
          show (litsQ k (szQ xs k)).getD 0 0 = _
          unfold litsQ
          rw [List.getD_eq_getElem?_getD, List.getElem?_map, List.getElem?_range (by omega)]
          simp
        rw [e0]
        try simp (disch := first | assumption | omega | (apply At.mk; with_unfolding_all rfl)) only [↓go_eq, ↓ent_eq, Mv, NilC_at, Fld_at, add_mk, Nat.zero_add, Nat.add_zero, Add64, Sub64, Mul64, Quo64, Rem64, Neg64, Cvt64, CvtU8, CvtU16, CvtU32, CvtU64, AddU64, SubU64, MulU64, Shr64, Shr_u8, Shr_u16, Shr_u32, Shr_u64, And1, And31, And32, Eql64, Neq64, Bin_lss, Bin_leq, Bin_gtr, Bin_geq, Bin_bool_eql, Bin_bool_neq, Bin_ptr_nil_eql, Bin_ptr_nil_neq, Not_dec, Un_not, Pick_t, Pick_f, Pick_pos, Pick_neg, Gd_tt, Gd_tf, Gd_ft, Gd_ff, Gd_pos_t, Gd_neg_t, Gd_pos_f, Gd_neg_f, Gd_undef, If_t, If_f, If_pos, If_neg, CallF_eq, Max_two, Min_two, Len_rd, Len_own, Ld_blkE, Idx_rdN, Idx_ownN, Idx_rdE, Idx_ownE, IdxAE, LdA_two, Idx_at0, Ext_atE, Len_at, Int.toNat_natCast, Int.toNat_zero, Int.toNat_one, List.length_map, List.length_append, List.length_cons, List.length_nil, List.length_take, List.length_set, List.length_replicate, Bool.not_true, Bool.not_false, decide_true, decide_false, BEq.rfl, bne_self_eq_false, tf_beq, ft_beq, tf_bne, ft_bne, not_true_eq_false, not_false_eq_true, app]
        try simp only [show (k : Int) + 1 = ((k + 1 : Nat) : Int) from by omega]
        exact hZ'
      · try simp (disch := first | assumption | omega | (apply At.mk; with_unfolding_all rfl)) only [↓go_eq, ↓ent_eq, Mv, NilC_at, Fld_at, add_mk, Nat.zero_add, Nat.add_zero, Add64, Sub64, Mul64, Quo64, Rem64, Neg64, Cvt64, CvtU8, CvtU16, CvtU32, CvtU64, AddU64, SubU64, MulU64, Shr64, Shr_u8, Shr_u16, Shr_u32, Shr_u64, And1, And31, And32, Eql64, Neq64, Bin_lss, Bin_leq, Bin_gtr, Bin_geq, Bin_bool_eql, Bin_bool_neq, Bin_ptr_nil_eql, Bin_ptr_nil_neq, Not_dec, Un_not, Pick_t, Pick_f, Pick_pos, Pick_neg, Gd_tt, Gd_tf, Gd_ft, Gd_ff, Gd_pos_t, Gd_neg_t, Gd_pos_f, Gd_neg_f, Gd_undef, If_t, If_f, If_pos, If_neg, CallF_eq, Max_two, Min_two, Len_rd, Len_own, Ld_blkE, Idx_rdN, Idx_ownN, Idx_rdE, Idx_ownE, IdxAE, LdA_two, Idx_at0, Ext_atE, Len_at, Int.toNat_natCast, Int.toNat_zero, Int.toNat_one, List.length_map, List.length_append, List.length_cons, List.length_nil, List.length_take, List.length_set, List.length_replicate, Bool.not_true, Bool.not_false, decide_true, decide_false, BEq.rfl, bne_self_eq_false, tf_beq, ft_beq, tf_bne, ft_bne, not_true_eq_false, not_false_eq_true, app]
        try simp only [show (k : Int) + 1 = ((k + 1 : Nat) : Int) from by omega]
        exact hZ'
  · have ek : k = i := by omega
    subst ek
    try simp (disch := first | assumption | omega | (apply At.mk; with_unfolding_all rfl)) only [↓go_eq, ↓ent_eq, Mv, NilC_at, Fld_at, add_mk, Nat.zero_add, Nat.add_zero, Add64, Sub64, Mul64, Quo64, Rem64, Neg64, Cvt64, CvtU8, CvtU16, CvtU32, CvtU64, AddU64, SubU64, MulU64, Shr64, Shr_u8, Shr_u16, Shr_u32, Shr_u64, And1, And31, And32, Eql64, Neq64, Bin_lss, Bin_leq, Bin_gtr, Bin_geq, Bin_bool_eql, Bin_bool_neq, Bin_ptr_nil_eql, Bin_ptr_nil_neq, Not_dec, Un_not, Pick_t, Pick_f, Pick_pos, Pick_neg, Gd_tt, Gd_tf, Gd_ft, Gd_ff, Gd_pos_t, Gd_neg_t, Gd_pos_f, Gd_neg_f, Gd_undef, If_t, If_f, If_pos, If_neg, CallF_eq, Max_two, Min_two, Len_rd, Len_own, Ld_blkE, Idx_rdN, Idx_ownN, Idx_rdE, Idx_ownE, IdxAE, LdA_two, Idx_at0, Ext_atE, Len_at, Int.toNat_natCast, Int.toNat_zero, Int.toNat_one, List.length_map, List.length_append, List.length_cons, List.length_nil, List.length_take, List.length_set, List.length_replicate, Bool.not_true, Bool.not_false, decide_true, decide_false, BEq.rfl, bne_self_eq_false, tf_beq, ft_beq, tf_bne, ft_bne, not_true_eq_false, not_false_eq_true, app]
    refine BldS_one rfl rfl fun h6 o6 f6 s6 => ?_
    have a6 := a5.fr f6 (by simp)
    have m6 := m5.fr f6 (by simp)
    try simp (disch := first | assumption | omega | (apply At.mk; with_unfolding_all rfl)) only [↓go_eq, ↓ent_eq, Mv, NilC_at, Fld_at, add_mk, Nat.zero_add, Nat.add_zero, Add64, Sub64, Mul64, Quo64, Rem64, Neg64, Cvt64, CvtU8, CvtU16, CvtU32, CvtU64, AddU64, SubU64, MulU64, Shr64, Shr_u8, Shr_u16, Shr_u32, Shr_u64, And1, And31, And32, Eql64, Neq64, Bin_lss, Bin_leq, Bin_gtr, Bin_geq, Bin_bool_eql, Bin_bool_neq, Bin_ptr_nil_eql, Bin_ptr_nil_neq, Not_dec, Un_not, Pick_t, Pick_f, Pick_pos, Pick_neg, Gd_tt, Gd_tf, Gd_ft, Gd_ff, Gd_pos_t, Gd_neg_t, Gd_pos_f, Gd_neg_f, Gd_undef, If_t, If_f, If_pos, If_neg, CallF_eq, Max_two, Min_two, Len_rd, Len_own, Ld_blkE, Idx_rdN, Idx_ownN, Idx_rdE, Idx_ownE, IdxAE, LdA_two, Idx_at0, Ext_atE, Len_at, Int.toNat_natCast, Int.toNat_zero, Int.toNat_one, List.length_map, List.length_append, List.length_cons, List.length_nil, List.length_take, List.length_set, List.length_replicate, Bool.not_true, Bool.not_false, decide_true, decide_false, BEq.rfl, bne_self_eq_false, tf_beq, ft_beq, tf_bne, ft_bne, not_true_eq_false, not_false_eq_true, app]
    refine arena_Arena_Add.spec (c := [5]) a6 (fun h' f => (o6.fr f fun b hb hm => by rw [List.mem_singleton] at hb; have := lt5 _ hm; omega).rd) (by simp only [List.length_cons, List.length_nil]; omega) (fun hf => absurd hf.1 (by decide)) fun _ h7 F7 a7 f7 n7 => ?_
    have hF7 : ∀ b ∈ F7, h.size ≤ b := fun b hb => by
      rcases n7 b hb with q | q
      · exact hF5 b q
      · have := (f05.trans f6).size; omega
    try simp (disch := first | assumption | omega | (apply At.mk; with_unfolding_all rfl)) only [↓go_eq, ↓ent_eq, Mv, NilC_at, Fld_at, add_mk, Nat.zero_add, Nat.add_zero, Add64, Sub64, Mul64, Quo64, Rem64, Neg64, Cvt64, CvtU8, CvtU16, CvtU32, CvtU64, AddU64, SubU64, MulU64, Shr64, Shr_u8, Shr_u16, Shr_u32, Shr_u64, And1, And31, And32, Eql64, Neq64, Bin_lss, Bin_leq, Bin_gtr, Bin_geq, Bin_bool_eql, Bin_bool_neq, Bin_ptr_nil_eql, Bin_ptr_nil_neq, Not_dec, Un_not, Pick_t, Pick_f, Pick_pos, Pick_neg, Gd_tt, Gd_tf, Gd_ft, Gd_ff, Gd_pos_t, Gd_neg_t, Gd_pos_f, Gd_neg_f, Gd_undef, If_t, If_f, If_pos, If_neg, CallF_eq, Max_two, Min_two, Len_rd, Len_own, Ld_blkE, Idx_rdN, Idx_ownN, Idx_rdE, Idx_ownE, IdxAE, LdA_two, Idx_at0, Ext_atE, Len_at, Int.toNat_natCast, Int.toNat_zero, Int.toNat_one, List.length_map, List.length_append, List.length_cons, List.length_nil, List.length_take, List.length_set, List.length_replicate, Bool.not_true, Bool.not_false, decide_true, decide_false, BEq.rfl, bne_self_eq_false, tf_beq, ft_beq, tf_bne, ft_bne, not_true_eq_false, not_false_eq_true, app]
    refine arena_Arena_Compact.spec a7 fun mb8 h8 F8 m8 a8 f8 n8 hmb8 hmF8 => ?_
    have f08 : Fr [] h h8 := ((f05.trans f6).trans' f7 fun b hb => .inr (hF5 b hb)).trans' f8 fun b hb => .inr (hF7 b hb)
    have hKK := hk h8 f08
    have hall : ∀ c ∈ (csD xs y k k).filter live ++ [(⟨[5], false, fit31 0, 0, false⟩ : Cl)], live c = true := fun c hc => by
      rcases List.mem_append.1 hc with q | q
      · exact (List.mem_filter.1 q).2
      · simp at q; subst q; rfl
    have hlen2 : ((csD xs y k k).filter live).length = (ks (csD xs y k k) k).length := by
      have e : ((csD xs y k k).filter live).countP (fun c => !c.gone) = ((csD xs y k k).filter live).length := List.countP_eq_length.2 fun c hc => (List.mem_filter.1 hc).2
      omega
    have hks : (ks ((csD xs y k k).filter live ++ [(⟨[5], false, fit31 0, 0, false⟩ : Cl)]) ((csD xs y k k).filter live ++ [(⟨[5], false, fit31 0, 0, false⟩ : Cl)]).length).length = (ks (csD xs y k k) k).length + 1 := by
      unfold ks
      rw [List.filter_eq_self.2 fun j hj => ?_, List.length_range, List.length_append, hlen2]; rfl
      rw [List.mem_range] at hj
      rw [liveK_some (List.getElem?_eq_getElem hj)]
      exact hall _ (List.getElem_mem hj)
    have hml8 : ((mvV ((csD xs y k k).filter live ++ [(⟨[5], false, fit31 0, 0, false⟩ : Cl)]) ((csD xs y k k).filter live ++ [(⟨[5], false, fit31 0, 0, false⟩ : Cl)]).length).length : Int) = ((ks (csD xs y k k) k).length : Int) + 1 := by unfold mvV; rw [List.length_map, hks]; omega
    have hlook : (mvV ((csD xs y k k).filter live ++ [(⟨[5], false, fit31 0, 0, false⟩ : Cl)]) ((csD xs y k k).filter live ++ [(⟨[5], false, fit31 0, 0, false⟩ : Cl)]).length).lookup ((newOff (csD xs y k k) k : Nat) : Int) = some (Iv (newOff (csD xs y k k) k : Nat)) := by
      have e1 : off ((csD xs y k k).filter live ++ [(⟨[5], false, fit31 0, 0, false⟩ : Cl)]) ((csD xs y k k).filter live).length = newOff (csD xs y k k) k := by rw [off_append (Nat.le_refl _), ← wds_len]; omega
      have e2 := newOff_all hall (k := ((csD xs y k k).filter live).length) (by rw [List.length_append]; omega)
      rw [← e1, look_mv, if_pos ⟨by rw [List.length_append]; simp, by rw [liveK_some (c := ⟨[5], false, fit31 0, 0, false⟩) (by rw [List.getElem?_append_right (Nat.le_refl _), Nat.sub_self]; rfl)]; rfl⟩, e2]
    rw [hwl]
    try simp (disch := first | assumption | omega | (apply At.mk; with_unfolding_all rfl)) only [↓go_eq, ↓ent_eq, Mv, NilC_at, Fld_at, add_mk, Nat.zero_add, Nat.add_zero, Add64, Sub64, Mul64, Quo64, Rem64, Neg64, Cvt64, CvtU8, CvtU16, CvtU32, CvtU64, AddU64, SubU64, MulU64, Shr64, Shr_u8, Shr_u16, Shr_u32, Shr_u64, And1, And31, And32, Eql64, Neq64, Bin_lss, Bin_leq, Bin_gtr, Bin_geq, Bin_bool_eql, Bin_bool_neq, Bin_ptr_nil_eql, Bin_ptr_nil_neq, Not_dec, Un_not, Pick_t, Pick_f, Pick_pos, Pick_neg, Gd_tt, Gd_tf, Gd_ft, Gd_ff, Gd_pos_t, Gd_neg_t, Gd_pos_f, Gd_neg_f, Gd_undef, If_t, If_f, If_pos, If_neg, CallF_eq, Max_two, Min_two, Len_rd, Len_own, Ld_blkE, Idx_rdN, Idx_ownN, Idx_rdE, Idx_ownE, IdxAE, LdA_two, Idx_at0, Ext_atE, Len_at, Int.toNat_natCast, Int.toNat_zero, Int.toNat_one, List.length_map, List.length_append, List.length_cons, List.length_nil, List.length_take, List.length_set, List.length_replicate, Bool.not_true, Bool.not_false, decide_true, decide_false, BEq.rfl, bne_self_eq_false, tf_beq, ft_beq, tf_bne, ft_bne, not_true_eq_false, not_false_eq_true, app]
    refine LenM_map m8 ?_
    rw [hml8]
    try simp (disch := first | assumption | omega | (apply At.mk; with_unfolding_all rfl)) only [↓go_eq, ↓ent_eq, Mv, NilC_at, Fld_at, add_mk, Nat.zero_add, Nat.add_zero, Add64, Sub64, Mul64, Quo64, Rem64, Neg64, Cvt64, CvtU8, CvtU16, CvtU32, CvtU64, AddU64, SubU64, MulU64, Shr64, Shr_u8, Shr_u16, Shr_u32, Shr_u64, And1, And31, And32, Eql64, Neq64, Bin_lss, Bin_leq, Bin_gtr, Bin_geq, Bin_bool_eql, Bin_bool_neq, Bin_ptr_nil_eql, Bin_ptr_nil_neq, Not_dec, Un_not, Pick_t, Pick_f, Pick_pos, Pick_neg, Gd_tt, Gd_tf, Gd_ft, Gd_ff, Gd_pos_t, Gd_neg_t, Gd_pos_f, Gd_neg_f, Gd_undef, If_t, If_f, If_pos, If_neg, CallF_eq, Max_two, Min_two, Len_rd, Len_own, Ld_blkE, Idx_rdN, Idx_ownN, Idx_rdE, Idx_ownE, IdxAE, LdA_two, Idx_at0, Ext_atE, Len_at, Int.toNat_natCast, Int.toNat_zero, Int.toNat_one, List.length_map, List.length_append, List.length_cons, List.length_nil, List.length_take, List.length_set, List.length_replicate, Bool.not_true, Bool.not_false, decide_true, decide_false, BEq.rfl, bne_self_eq_false, tf_beq, ft_beq, tf_bne, ft_bne, not_true_eq_false, not_false_eq_true, app]
    refine Lk_map m8 ?_
    rw [hlook]
    simp only [Bool.false_eq_true, if_false]
    try simp (disch := first | assumption | omega | (apply At.mk; with_unfolding_all rfl)) only [↓go_eq, ↓ent_eq, Mv, NilC_at, Fld_at, add_mk, Nat.zero_add, Nat.add_zero, Add64, Sub64, Mul64, Quo64, Rem64, Neg64, Cvt64, CvtU8, CvtU16, CvtU32, CvtU64, AddU64, SubU64, MulU64, Shr64, Shr_u8, Shr_u16, Shr_u32, Shr_u64, And1, And31, And32, Eql64, Neq64, Bin_lss, Bin_leq, Bin_gtr, Bin_geq, Bin_bool_eql, Bin_bool_neq, Bin_ptr_nil_eql, Bin_ptr_nil_neq, Not_dec, Un_not, Pick_t, Pick_f, Pick_pos, Pick_neg, Gd_tt, Gd_tf, Gd_ft, Gd_ff, Gd_pos_t, Gd_neg_t, Gd_pos_f, Gd_neg_f, Gd_undef, If_t, If_f, If_pos, If_neg, CallF_eq, Max_two, Min_two, Len_rd, Len_own, Ld_blkE, Idx_rdN, Idx_ownN, Idx_rdE, Idx_ownE, IdxAE, LdA_two, Idx_at0, Ext_atE, Len_at, Int.toNat_natCast, Int.toNat_zero, Int.toNat_one, List.length_map, List.length_append, List.length_cons, List.length_nil, List.length_take, List.length_set, List.length_replicate, Bool.not_true, Bool.not_false, decide_true, decide_false, BEq.rfl, bne_self_eq_false, tf_beq, ft_beq, tf_bne, ft_bne, not_true_eq_false, not_false_eq_true, app]
    exact hKK
theorem bradawllaw05_ArenaCompacts.law {h : Heap} {a0 : List Int} {a1 : Int} {v0 v1 : Value} (r0 : (rSlice (rInt .u8) 1).is h a0 [v0]) (r1 : (rInt .u64).is h a1 [v1]) :
    CallH Try.prog bradawllaw05_ArenaCompacts.id #[v0, v1] (fun v h' => v = .bool true ∧ Fr [] h h') h := by
  obtain ⟨e, h1, h2⟩ := r1
  have e' : v1 = U (BitVec.ofInt 64 a1) := by
    have e' : v1 = .int .u64 a1 := by simpa using e
    have h1' : (0 : Int) ≤ a1 := h1
    have h2' : a1 ≤ 18446744073709551615 := h2
    rw [e', U, BitVec.toNat_ofInt]
    congr 1
    omega
  rw [e']
  obtain ⟨hl0, hb0⟩ := rd_ints r0
  exact bradawllaw05_ArenaCompacts.spec hl0 hb0 fun h' f => ⟨rfl, f⟩
end Go.Proofs.Ythekbpaekopmfaa
