/- The law TablePicks: each place is picked for as many numbers as it weighs. No condition but that the arguments lie in memory as Go lays them. -/
import Derived.Test.YtfagifhgjndoaaaTableWeights
namespace Go.Proofs.Ytfagifhgjndoaaa
open Go.Pt
set_option linter.unusedVariables false
set_option linter.unusedSimpArgs false
theorem bradawllaw11_TablePicks.spec (e : Bool) {v : Value} {ks : List Int} (x y : W64) {K : Ret} {h : Heap} (hv : Rd h v (ks.map Iv)) (hk : ∀ h', Fr [] h h' → K (.bool true) h') :
    CallH Try.prog bradawllaw11_TablePicks.id #[.bool e, v, .agg #[U x, U y]] K h := by
  refine bradawllaw11_TablePicks.ok ?_
  simp only [bradawllaw11_TablePicks.pt, go, Mv, NilC_at, Fld_at, add_mk, Nat.zero_add, Nat.add_zero, Bin_add, Bin_sub, Bin_mul, Bin_eql, Bin_neq, Bin_lss, Bin_leq, Bin_gtr, Bin_geq, Bin_bool_eql, Bin_bool_neq, Bin_ptr_nil_eql, Bin_ptr_nil_neq, Un_not, Pick_bool, Gd_bool, Gd_undef, If_bool, CallF_eq, MaxV_two, MinV_two, if_true, if_false, Bool.false_eq_true, Bool.true_eq_false, Bool.not_true, Bool.not_false, BEq.rfl]
  refine New_blk fun h0 b0 f0 s0 => ?_
  have b0' : Blk h0 h.size [U x, U y] := b0
  refine bradawllaw11_fit.spec fun h1 f1 => ?_
  have f01 := f0.trans f1
  have hv1 := hv.fr f01
  simp only [go, Mv, NilC_at, Fld_at, add_mk, Nat.zero_add, Nat.add_zero, Bin_add, Bin_sub, Bin_mul, Bin_eql, Bin_neq, Bin_lss, Bin_leq, Bin_gtr, Bin_geq, Bin_bool_eql, Bin_bool_neq, Bin_ptr_nil_eql, Bin_ptr_nil_neq, Un_not, Pick_bool, Gd_bool, Gd_undef, If_bool, CallF_eq, MaxV_two, MinV_two, if_true, if_false, Bool.false_eq_true, Bool.true_eq_false, Bool.not_true, Bool.not_false, BEq.rfl]
  refine hv1.len ?_
  rw [List.length_map]
  by_cases c0 : (ks.length : Int) > 100
  · simp only [decide_eq_true c0, go, Mv, NilC_at, Fld_at, add_mk, Nat.zero_add, Nat.add_zero, Bin_add, Bin_sub, Bin_mul, Bin_eql, Bin_neq, Bin_lss, Bin_leq, Bin_gtr, Bin_geq, Bin_bool_eql, Bin_bool_neq, Bin_ptr_nil_eql, Bin_ptr_nil_neq, Un_not, Pick_bool, Gd_bool, Gd_undef, If_bool, CallF_eq, MaxV_two, MinV_two, if_true, if_false, Bool.false_eq_true, Bool.true_eq_false, Bool.not_true, Bool.not_false, BEq.rfl]; exact hk _ f01
  simp only [decide_eq_false c0, go, Mv, NilC_at, Fld_at, add_mk, Nat.zero_add, Nat.add_zero, Bin_add, Bin_sub, Bin_mul, Bin_eql, Bin_neq, Bin_lss, Bin_leq, Bin_gtr, Bin_geq, Bin_bool_eql, Bin_bool_neq, Bin_ptr_nil_eql, Bin_ptr_nil_neq, Un_not, Pick_bool, Gd_bool, Gd_undef, If_bool, CallF_eq, MaxV_two, MinV_two, if_true, if_false, Bool.false_eq_true, Bool.true_eq_false, Bool.not_true, Bool.not_false, BEq.rfl]
  have b1 := b0'.fr f1 (by simp)
  refine IdxA_blk (by decide) (by decide) (Ld_blk b1 rfl ?_)
  have w8 : 0 ≤ IntKind.u8.wrap (y.toNat : Int) ∧ IntKind.u8.wrap (y.toNat : Int) ≤ 255 := by
    rw [show IntKind.u8.wrap (y.toNat : Int) = (y.toNat : Int) % 256 from by simp [IntKind.wrap, IntKind.bits, IntKind.signed]]; omega
  simp only [U, Cvt_int]
  generalize IntKind.u8.wrap (y.toNat : Int) = b at *
  refine bradawllaw11_made.spec e b w8.1 w8.2 ?_
  have hf := made_fits e b
  generalize mKind e = kd at *
  generalize mBase e b = bs at *
  simp only [Ext_at, List.getElem?_toArray, List.getElem?_cons_zero, List.getElem?_cons_succ, go, Mv, NilC_at, Fld_at, add_mk, Nat.zero_add, Nat.add_zero, Bin_add, Bin_sub, Bin_mul, Bin_eql, Bin_neq, Bin_lss, Bin_leq, Bin_gtr, Bin_geq, Bin_bool_eql, Bin_bool_neq, Bin_ptr_nil_eql, Bin_ptr_nil_neq, Un_not, Pick_bool, Gd_bool, Gd_undef, If_bool, CallF_eq, MaxV_two, MinV_two, if_true, if_false, Bool.false_eq_true, Bool.true_eq_false, Bool.not_true, Bool.not_false, BEq.rfl]
  refine table_New.spec hf fun g h2 t2 f2 n2 => ?_
  have hv2 := hv1.fr f2
  have b2 := b1.fr f2 (by simp)
  have f02 := f01.trans f2
  refine hv2.len ?_
  rw [List.length_map]
  have hl : ks.length ≤ 4000000 := by omega
  refine Lp9 (σ := Nat) (fun i a0 a1 a2 a3 a4 a5 a6 a7 a8 h' => h2 = h' ∧ i ≤ ks.length ∧ v = a0 ∧ a1 = .pointer (some ⟨h.size, 0, none⟩) ∧ a2 = Iv kd ∧ a3 = Iv bs ∧ a4 = .pointer (some ⟨g, 0, none⟩) ∧ a5 = .int .i64 (tot kd bs (ks.take i)) ∧ v = a6 ∧ a7 = .int .i64 (ks.length : Int) ∧ a8 = .int .i64 (i : Int)) (fun i => ks.length - i) 0
    ⟨rfl, Nat.zero_le _, rfl, rfl, rfl, rfl, rfl, rfl, rfl, rfl, rfl⟩ ?_
  rintro i a0 a1 a2 a3 a4 a5 a6 a7 a8 h3 ⟨rfl, hi, rfl, rfl, rfl, rfl, rfl, rfl, e6, rfl, rfl⟩ X hX
  subst e6
  simp only [go, Mv, NilC_at, Fld_at, add_mk, Nat.zero_add, Nat.add_zero, Bin_add, Bin_sub, Bin_mul, Bin_eql, Bin_neq, Bin_lss, Bin_leq, Bin_gtr, Bin_geq, Bin_bool_eql, Bin_bool_neq, Bin_ptr_nil_eql, Bin_ptr_nil_neq, Un_not, Pick_bool, Gd_bool, Gd_undef, If_bool, CallF_eq, MaxV_two, MinV_two, if_true, if_false, Bool.false_eq_true, Bool.true_eq_false, Bool.not_true, Bool.not_false, BEq.rfl]
  by_cases hd : (i : Int) < (ks.length : Int)
  · have hlt : i < ks.length := by omega
    have hget : ks[i]? = some ks[i] := List.getElem?_eq_getElem _
    simp only [decide_eq_true hd, go, Mv, NilC_at, Fld_at, add_mk, Nat.zero_add, Nat.add_zero, Bin_add, Bin_sub, Bin_mul, Bin_eql, Bin_neq, Bin_lss, Bin_leq, Bin_gtr, Bin_geq, Bin_bool_eql, Bin_bool_neq, Bin_ptr_nil_eql, Bin_ptr_nil_neq, Un_not, Pick_bool, Gd_bool, Gd_undef, If_bool, CallF_eq, MaxV_two, MinV_two, if_true, if_false, Bool.false_eq_true, Bool.true_eq_false, Bool.not_true, Bool.not_false, BEq.rfl]
    refine hv2.at (x := Iv ks[i]) (by omega) (by rw [Int.toNat_natCast, List.getElem?_map, hget]; rfl) ?_
    refine bradawllaw11_weight.spec hf ks[i] ?_
    have hb := tot_bd hf (ks.take i)
    have hw := wk_bd hf ks[i]
    have hlen : (ks.take i).length ≤ 4000000 := by rw [List.length_take]; omega
    have e1 : tot kd bs (ks.take (i + 1)) = tot kd bs (ks.take i) + wk kd bs ks[i] := by
      rw [List.take_add_one, hget]; exact tot_snoc _ _ _ _
    have w1 : IntKind.i64.wrap (tot kd bs (ks.take i) + wk kd bs ks[i]) = tot kd bs (ks.take (i + 1)) := by
      rw [e1, IntKind.wrap_i64]; omega
    have wi : IntKind.i64.wrap ((i : Int) + 1) = ((i + 1 : Nat) : Int) := by rw [IntKind.wrap_i64]; omega
    simp only [Iv, w1, wi, go, Mv, NilC_at, Fld_at, add_mk, Nat.zero_add, Nat.add_zero, Bin_add, Bin_sub, Bin_mul, Bin_eql, Bin_neq, Bin_lss, Bin_leq, Bin_gtr, Bin_geq, Bin_bool_eql, Bin_bool_neq, Bin_ptr_nil_eql, Bin_ptr_nil_neq, Un_not, Pick_bool, Gd_bool, Gd_undef, If_bool, CallF_eq, MaxV_two, MinV_two, if_true, if_false, Bool.false_eq_true, Bool.true_eq_false, Bool.not_true, Bool.not_false, BEq.rfl]
    exact hX (i + 1) _ _ _ _ _ _ _ _ _ _ ⟨rfl, by omega, rfl, rfl, rfl, rfl, rfl, rfl, rfl, rfl, rfl⟩ (by omega)
  simp only [decide_eq_false hd, go, Mv, NilC_at, Fld_at, add_mk, Nat.zero_add, Nat.add_zero, Bin_add, Bin_sub, Bin_mul, Bin_eql, Bin_neq, Bin_lss, Bin_leq, Bin_gtr, Bin_geq, Bin_bool_eql, Bin_bool_neq, Bin_ptr_nil_eql, Bin_ptr_nil_neq, Un_not, Pick_bool, Gd_bool, Gd_undef, If_bool, CallF_eq, MaxV_two, MinV_two, if_true, if_false, Bool.false_eq_true, Bool.true_eq_false, Bool.not_true, Bool.not_false, BEq.rfl]
  rw [List.take_of_length_le (by omega)]
  refine table_Table_Total.spec hf t2 hv2 hl ?_
  have hb := tot_bd hf ks
  have hK := hk h2 f02
  simp only [Iv, bne_self_eq_false, go, Mv, NilC_at, Fld_at, add_mk, Nat.zero_add, Nat.add_zero, Bin_add, Bin_sub, Bin_mul, Bin_eql, Bin_neq, Bin_lss, Bin_leq, Bin_gtr, Bin_geq, Bin_bool_eql, Bin_bool_neq, Bin_ptr_nil_eql, Bin_ptr_nil_neq, Un_not, Pick_bool, Gd_bool, Gd_undef, If_bool, CallF_eq, MaxV_two, MinV_two, if_true, if_false, Bool.false_eq_true, Bool.true_eq_false, Bool.not_true, Bool.not_false, BEq.rfl]
  by_cases z : ks = []
  · subst z
    simp only [show (tot kd bs [] == 0) = true from rfl, go, Mv, NilC_at, Fld_at, add_mk, Nat.zero_add, Nat.add_zero, Bin_add, Bin_sub, Bin_mul, Bin_eql, Bin_neq, Bin_lss, Bin_leq, Bin_gtr, Bin_geq, Bin_bool_eql, Bin_bool_neq, Bin_ptr_nil_eql, Bin_ptr_nil_neq, Un_not, Pick_bool, Gd_bool, Gd_undef, If_bool, CallF_eq, MaxV_two, MinV_two, if_true, if_false, Bool.false_eq_true, Bool.true_eq_false, Bool.not_true, Bool.not_false, BEq.rfl]
    refine IdxA_blk (by decide) (by decide) (Ld_blk b2 rfl ?_)
    refine table_Table_Pick.spec hf x t2 hv2 hl ?_
    simp only [Iv, show (pickOf kd bs [] x == -1) = true from rfl, go, Mv, NilC_at, Fld_at, add_mk, Nat.zero_add, Nat.add_zero, Bin_add, Bin_sub, Bin_mul, Bin_eql, Bin_neq, Bin_lss, Bin_leq, Bin_gtr, Bin_geq, Bin_bool_eql, Bin_bool_neq, Bin_ptr_nil_eql, Bin_ptr_nil_neq, Un_not, Pick_bool, Gd_bool, Gd_undef, If_bool, CallF_eq, MaxV_two, MinV_two, if_true, if_false, Bool.false_eq_true, Bool.true_eq_false, Bool.not_true, Bool.not_false, BEq.rfl]
    exact hK
  have hpos : 0 < ks.length := List.length_pos_iff.2 z
  have t : (tot kd bs ks == 0) = false := by rw [beq_eq_false_iff_ne]; omega
  simp only [t, go, Mv, NilC_at, Fld_at, add_mk, Nat.zero_add, Nat.add_zero, Bin_add, Bin_sub, Bin_mul, Bin_eql, Bin_neq, Bin_lss, Bin_leq, Bin_gtr, Bin_geq, Bin_bool_eql, Bin_bool_neq, Bin_ptr_nil_eql, Bin_ptr_nil_neq, Un_not, Pick_bool, Gd_bool, Gd_undef, If_bool, CallF_eq, MaxV_two, MinV_two, if_true, if_false, Bool.false_eq_true, Bool.true_eq_false, Bool.not_true, Bool.not_false, BEq.rfl]
  refine IdxA_blk (by decide) (by decide) (Ld_blk b2 rfl ?_)
  rw [Cvt_u64, rem_cvt (by omega) (by omega)]
  have r0 := Int.emod_nonneg (x.toNat : Int) (show tot kd bs ks ≠ 0 by omega)
  have r1 := Int.emod_lt_of_pos (x.toNat : Int) (show 0 < tot kd bs ks by omega)
  have hpk : pickOf kd bs ks x = pick (wk kd bs) ks ((x.toNat : Int) % tot kd bs ks) 0 := rfl
  generalize (x.toNat : Int) % tot kd bs ks = r at *
  refine Lp7 (σ := Nat × Int) (fun s a0 a1 a2 a3 a4 a5 a6 h' => h2 = h' ∧ s.1 ≤ ks.length ∧ (0 ≤ s.2 ∧ s.2 < tot kd bs (ks.drop s.1) ∧ s.2 ≤ r) ∧ pick (wk kd bs) (ks.drop s.1) s.2 s.1 = pick (wk kd bs) ks r 0 ∧ v = a0 ∧ a1 = .pointer (some ⟨h.size, 0, none⟩) ∧ a2 = Iv kd ∧ a3 = Iv bs ∧ a4 = .pointer (some ⟨g, 0, none⟩) ∧ a5 = .int .i64 s.2 ∧ a6 = .int .i64 (s.1 : Int)) (fun s => ks.length - s.1) (0, r)
    ⟨rfl, Nat.zero_le _, ⟨r0, by simpa using r1, by simp⟩, rfl, rfl, rfl, rfl, rfl, rfl, rfl, rfl⟩ ?_
  rintro ⟨i, q⟩ a0 a1 a2 a3 a4 a5 a6 h3 ⟨rfl, hi, ⟨q0, q1, q2⟩, hp, rfl, rfl, rfl, rfl, rfl, rfl, rfl⟩ X hX
  simp only at hi q0 q1 q2 hp
  have hlt : i < ks.length := by
    rcases Nat.lt_or_ge i ks.length with hl | hl
    · exact hl
    · rw [List.drop_of_length_le hl] at q1
      simp [tot] at q1; omega
  have hget : ks[i]? = some ks[i] := List.getElem?_eq_getElem _
  have hvat : (ks.map Iv)[((i : Int)).toNat]? = some (Iv ks[i]) := by rw [Int.toNat_natCast, List.getElem?_map, hget]; rfl
  rw [List.drop_eq_getElem_cons hlt] at hp q1
  have e1 : tot kd bs (ks[i] :: ks.drop (i + 1)) = wk kd bs ks[i] + tot kd bs (ks.drop (i + 1)) := by simp only [tot, List.map_cons, List.sum_cons]
  rw [e1] at q1
  simp only [pick] at hp
  have hw := wk_bd hf ks[i]
  refine hv2.at (x := Iv ks[i]) (by omega) hvat ?_
  refine bradawllaw11_weight.spec hf ks[i] ?_
  simp only [Iv, go, Mv, NilC_at, Fld_at, add_mk, Nat.zero_add, Nat.add_zero, Bin_add, Bin_sub, Bin_mul, Bin_eql, Bin_neq, Bin_lss, Bin_leq, Bin_gtr, Bin_geq, Bin_bool_eql, Bin_bool_neq, Bin_ptr_nil_eql, Bin_ptr_nil_neq, Un_not, Pick_bool, Gd_bool, Gd_undef, If_bool, CallF_eq, MaxV_two, MinV_two, if_true, if_false, Bool.false_eq_true, Bool.true_eq_false, Bool.not_true, Bool.not_false, BEq.rfl]
  by_cases hq : q < wk kd bs ks[i]
  · have tq : ¬ q ≥ wk kd bs ks[i] := by omega
    rw [if_pos hq] at hp
    simp only [decide_eq_false tq, go, Mv, NilC_at, Fld_at, add_mk, Nat.zero_add, Nat.add_zero, Bin_add, Bin_sub, Bin_mul, Bin_eql, Bin_neq, Bin_lss, Bin_leq, Bin_gtr, Bin_geq, Bin_bool_eql, Bin_bool_neq, Bin_ptr_nil_eql, Bin_ptr_nil_neq, Un_not, Pick_bool, Gd_bool, Gd_undef, If_bool, CallF_eq, MaxV_two, MinV_two, if_true, if_false, Bool.false_eq_true, Bool.true_eq_false, Bool.not_true, Bool.not_false, BEq.rfl]
    refine IdxA_blk (by decide) (by decide) (Ld_blk b2 rfl ?_)
    refine table_Table_Pick.spec hf x t2 hv2 hl ?_
    rw [hpk, ← hp]
    simp only [Iv, BEq.rfl, go, Mv, NilC_at, Fld_at, add_mk, Nat.zero_add, Nat.add_zero, Bin_add, Bin_sub, Bin_mul, Bin_eql, Bin_neq, Bin_lss, Bin_leq, Bin_gtr, Bin_geq, Bin_bool_eql, Bin_bool_neq, Bin_ptr_nil_eql, Bin_ptr_nil_neq, Un_not, Pick_bool, Gd_bool, Gd_undef, If_bool, CallF_eq, MaxV_two, MinV_two, if_true, if_false, Bool.false_eq_true, Bool.true_eq_false, Bool.not_true, Bool.not_false, BEq.rfl]
    exact hK
  · have tq : q ≥ wk kd bs ks[i] := by omega
    rw [if_neg hq] at hp
    simp only [decide_eq_true tq, go, Mv, NilC_at, Fld_at, add_mk, Nat.zero_add, Nat.add_zero, Bin_add, Bin_sub, Bin_mul, Bin_eql, Bin_neq, Bin_lss, Bin_leq, Bin_gtr, Bin_geq, Bin_bool_eql, Bin_bool_neq, Bin_ptr_nil_eql, Bin_ptr_nil_neq, Un_not, Pick_bool, Gd_bool, Gd_undef, If_bool, CallF_eq, MaxV_two, MinV_two, if_true, if_false, Bool.false_eq_true, Bool.true_eq_false, Bool.not_true, Bool.not_false, BEq.rfl]
    refine hv2.at (x := Iv ks[i]) (by omega) hvat ?_
    refine bradawllaw11_weight.spec hf ks[i] ?_
    have w1 : IntKind.i64.wrap (q - wk kd bs ks[i]) = q - wk kd bs ks[i] := by rw [IntKind.wrap_i64]; omega
    have wi : IntKind.i64.wrap ((i : Int) + 1) = ((i + 1 : Nat) : Int) := by rw [IntKind.wrap_i64]; omega
    simp only [Iv, w1, wi, go, Mv, NilC_at, Fld_at, add_mk, Nat.zero_add, Nat.add_zero, Bin_add, Bin_sub, Bin_mul, Bin_eql, Bin_neq, Bin_lss, Bin_leq, Bin_gtr, Bin_geq, Bin_bool_eql, Bin_bool_neq, Bin_ptr_nil_eql, Bin_ptr_nil_neq, Un_not, Pick_bool, Gd_bool, Gd_undef, If_bool, CallF_eq, MaxV_two, MinV_two, if_true, if_false, Bool.false_eq_true, Bool.true_eq_false, Bool.not_true, Bool.not_false, BEq.rfl]
    exact hX (i + 1, q - wk kd bs ks[i]) _ _ _ _ _ _ _ _ ⟨rfl, by simp only; omega, ⟨by simp only; omega, by simp only; omega, by simp only; omega⟩, hp, rfl, rfl, rfl, rfl, rfl, rfl, rfl⟩ (by simp only; omega)
theorem u64_arg {h : Heap} {a : Int} {v : Value} (r : (rInt .u64).is h a [v]) : v = U (BitVec.ofInt 64 a) := by
  obtain ⟨e, h1, h2⟩ := r
  have e' : v = .int .u64 a := by simpa using e
  have h1' : (0 : Int) ≤ a := h1
  have h2' : a ≤ 18446744073709551615 := h2
  rw [e', U, BitVec.toNat_ofInt]
  congr 1
  omega
theorem pair_arg {h : Heap} {xs : List Int} {cs : Array Value} (r : (rArr 2 (rInt .u64) 1).is h xs cs.toList) : ∃ x y : W64, cs = #[U x, U y] := by
  obtain ⟨h1, h2, h3⟩ := r
  match xs, h1 with
  | [a, b], _ =>
    obtain ⟨l⟩ := cs
    match l, h2 with
    | [c, d], _ =>
      have e0 := u64_arg (h3 0 a rfl)
      have e1 := u64_arg (h3 1 b rfl)
      exact ⟨_, _, by rw [e0, e1]⟩
theorem bradawllaw11_TablePicks.law {h : Heap} {a0 : Bool} {a1 a2 : List Int} {v0 v1 : Value} {cs2 : Array Value} (r0 : rBool.is h a0 [v0]) (r1 : (rSlice (rInt .i64) 1).is h a1 [v1]) (r2 : (rArr 2 (rInt .u64) 1).is h a2 cs2.toList) :
    CallH Try.prog bradawllaw11_TablePicks.id #[v0, v1, .agg cs2] (fun v h' => v = .bool true ∧ Fr [] h h') h := by
  have := bool_arg r0
  subst this
  obtain ⟨x, y, rfl⟩ := pair_arg r2
  exact bradawllaw11_TablePicks.spec a0 x y (rd_ints r1).1 fun h' f => ⟨rfl, f⟩
end Go.Proofs.Ytfagifhgjndoaaa
