/- Which place the table picks. Conditions: those typed ahead of each theorem. -/
import Derived.Test.YtfagifhgjndoaaaTab3
namespace Go.Proofs.Ytfagifhgjndoaaa
open Go.Pt
set_option linter.unusedVariables false
set_option linter.unusedSimpArgs false
/-- The place of a number, counted from i on. -/
def pick (w : Int → Int) : List Int → Int → Nat → Int
  | [], _, _ => -1
  | k :: ks, r, i => if r < w k then (i : Int) else pick w ks (r - w k) (i + 1)
def pickOf (kind base : Int) (ks : List Int) (x : W64) : Int := pick (wk kind base) ks ((x.toNat : Int) % tot kind base ks) 0
theorem Cvt_u64 (k : IntKind) (n : Int) {K : Ret} {h : Heap} : Cvt .u64 (.int k n) K h = K (U (BitVec.ofInt 64 n)) h := by
  rw [Cvt_int]; congr 2
  rw [wrap_u64, BitVec.toNat_ofInt]; omega
theorem rem_cvt {x : W64} {n : Int} {K : Ret} {h : Heap} (h1 : 1 ≤ n) (hn : n < 9223372036854775808) :
    Bin .int .rem (U x) (U (BitVec.ofInt 64 n)) (fun t h => Cvt .i64 t K h) h = K (.int .i64 ((x.toNat : Int) % n)) h := by
  have hne : BitVec.ofInt 64 n ≠ 0 := by
    intro e
    have := congrArg BitVec.toNat e
    rw [BitVec.toNat_ofInt] at this
    have h0 : (0 : W64).toNat = 0 := rfl
    rw [h0] at this
    omega
  rw [U_rem _ _ _ hne, U, Cvt_int]
  have e : IntKind.i64.wrap (((x % BitVec.ofInt 64 n).toNat : Nat) : Int) = (x.toNat : Int) % n := by
    have hn2 : (BitVec.ofInt 64 n).toNat = n.toNat := by rw [BitVec.toNat_ofInt]; omega
    rw [BitVec.toNat_umod, hn2, Int.natCast_emod]
    have hn3 : (n.toNat : Int) = n := Int.toNat_of_nonneg (by omega)
    rw [hn3, IntKind.wrap_i64]
    have a := Int.emod_nonneg (x.toNat : Int) (show n ≠ 0 by omega)
    have b := Int.emod_lt_of_pos (x.toNat : Int) (show 0 < n by omega)
    omega
  rw [e]
theorem table_Table_Pick.spec {g : Nat} {kind base : Int} (hf : Fits kind base) {v : Value} {ks : List Int} (x : W64) {K : Ret} {h : Heap} (ht : TabAt h g kind base) (hv : Rd h v (ks.map Iv)) (hl : ks.length ≤ 4000000) (hk : K (Iv (pickOf kind base ks x)) h) : CallH Try.prog table_Table_Pick.id #[.pointer (some ⟨g, 0, none⟩), v, U x] K h := by
  refine table_Table_Pick.ok ?_
  simp only [table_Table_Pick.pt, go, Mv, NilC_at, Fld_at, add_mk, Nat.zero_add, Nat.add_zero, Bin_add, Bin_sub, Bin_mul, Bin_eql, Bin_neq, Bin_lss, Bin_leq, Bin_gtr, Bin_geq, Bin_bool_eql, Bin_bool_neq, Bin_ptr_nil_eql, Bin_ptr_nil_neq, Un_not, Pick_bool, Gd_bool, Gd_undef, If_bool, CallF_eq, MaxV_two, MinV_two, if_true, if_false, Bool.false_eq_true, Bool.true_eq_false, Bool.not_true, Bool.not_false, BEq.rfl]
  refine hv.len ?_
  rw [List.length_map]
  by_cases z : ks = []
  · subst z
    simp only [show ((([] : List Int).length : Int) == 0) = true from rfl, go, Mv, NilC_at, Fld_at, add_mk, Nat.zero_add, Nat.add_zero, Bin_add, Bin_sub, Bin_mul, Bin_eql, Bin_neq, Bin_lss, Bin_leq, Bin_gtr, Bin_geq, Bin_bool_eql, Bin_bool_neq, Bin_ptr_nil_eql, Bin_ptr_nil_neq, Un_not, Pick_bool, Gd_bool, Gd_undef, If_bool, CallF_eq, MaxV_two, MinV_two, if_true, if_false, Bool.false_eq_true, Bool.true_eq_false, Bool.not_true, Bool.not_false, BEq.rfl]; exact hk
  have hpos : 0 < ks.length := List.length_pos_iff.2 z
  have t : ((ks.length : Int) == 0) = false := by simpa using z
  simp only [t, go, Mv, NilC_at, Fld_at, add_mk, Nat.zero_add, Nat.add_zero, Bin_add, Bin_sub, Bin_mul, Bin_eql, Bin_neq, Bin_lss, Bin_leq, Bin_gtr, Bin_geq, Bin_bool_eql, Bin_bool_neq, Bin_ptr_nil_eql, Bin_ptr_nil_neq, Un_not, Pick_bool, Gd_bool, Gd_undef, If_bool, CallF_eq, MaxV_two, MinV_two, if_true, if_false, Bool.false_eq_true, Bool.true_eq_false, Bool.not_true, Bool.not_false, BEq.rfl]
  refine table_Table_Total.spec hf ht hv hl ?_
  have hb := tot_bd hf ks
  simp only [Iv]
  rw [Cvt_u64, rem_cvt (by omega) (by omega)]
  refine hv.len ?_
  rw [List.length_map]
  have r0 := Int.emod_nonneg (x.toNat : Int) (show tot kind base ks ≠ 0 by omega)
  have r1 := Int.emod_lt_of_pos (x.toNat : Int) (show 0 < tot kind base ks by omega)
  unfold pickOf at hk
  generalize (x.toNat : Int) % tot kind base ks = r at *
  refine Lp5 (σ := Nat × Int) (fun s a b c d e h' => h = h' ∧ s.1 ≤ ks.length ∧ (0 ≤ s.2 ∧ s.2 ≤ r) ∧ pick (wk kind base) (ks.drop s.1) s.2 s.1 = pick (wk kind base) ks r 0 ∧ a = .pointer (some ⟨g, 0, none⟩) ∧ b = .int .i64 s.2 ∧ v = c ∧ d = .int .i64 (ks.length : Int) ∧ e = .int .i64 (s.1 : Int)) (fun s => ks.length - s.1) (0, r)
    ⟨rfl, Nat.zero_le _, ⟨r0, by simp⟩, rfl, rfl, rfl, rfl, rfl, rfl⟩ ?_
  rintro ⟨i, q⟩ a b c d e h2 ⟨rfl, hi, ⟨q0, q1⟩, hp, rfl, rfl, rfl, rfl, rfl⟩ X hX
  simp only at hi q0 q1 hp
  simp only [go, Mv, NilC_at, Fld_at, add_mk, Nat.zero_add, Nat.add_zero, Bin_add, Bin_sub, Bin_mul, Bin_eql, Bin_neq, Bin_lss, Bin_leq, Bin_gtr, Bin_geq, Bin_bool_eql, Bin_bool_neq, Bin_ptr_nil_eql, Bin_ptr_nil_neq, Un_not, Pick_bool, Gd_bool, Gd_undef, If_bool, CallF_eq, MaxV_two, MinV_two, if_true, if_false, Bool.false_eq_true, Bool.true_eq_false, Bool.not_true, Bool.not_false, BEq.rfl]
  by_cases hd : ¬ (i : Int) < (ks.length : Int)
  · simp only [decide_eq_false hd, go, Mv, NilC_at, Fld_at, add_mk, Nat.zero_add, Nat.add_zero, Bin_add, Bin_sub, Bin_mul, Bin_eql, Bin_neq, Bin_lss, Bin_leq, Bin_gtr, Bin_geq, Bin_bool_eql, Bin_bool_neq, Bin_ptr_nil_eql, Bin_ptr_nil_neq, Un_not, Pick_bool, Gd_bool, Gd_undef, If_bool, CallF_eq, MaxV_two, MinV_two, if_true, if_false, Bool.false_eq_true, Bool.true_eq_false, Bool.not_true, Bool.not_false, BEq.rfl]
    rw [List.drop_of_length_le (by omega)] at hp
    rw [← hp] at hk; exact hk
  have hd : (i : Int) < (ks.length : Int) := by omega
  have hlt : i < ks.length := by omega
  simp only [decide_eq_true hd, go, Mv, NilC_at, Fld_at, add_mk, Nat.zero_add, Nat.add_zero, Bin_add, Bin_sub, Bin_mul, Bin_eql, Bin_neq, Bin_lss, Bin_leq, Bin_gtr, Bin_geq, Bin_bool_eql, Bin_bool_neq, Bin_ptr_nil_eql, Bin_ptr_nil_neq, Un_not, Pick_bool, Gd_bool, Gd_undef, If_bool, CallF_eq, MaxV_two, MinV_two, if_true, if_false, Bool.false_eq_true, Bool.true_eq_false, Bool.not_true, Bool.not_false, BEq.rfl]
  have hget : ks[i]? = some ks[i] := List.getElem?_eq_getElem _
  refine hv.at (x := Iv ks[i]) (by omega) (by rw [Int.toNat_natCast, List.getElem?_map, hget]; rfl) ?_
  refine table_Table_Weight.spec ks[i] ht ?_
  have hw := wk_bd hf ks[i]
  have w1 : IntKind.i64.wrap (q - wt kind base (clampK ks[i])) = q - wk kind base ks[i] := by
    rw [IntKind.wrap_i64]; unfold wk at *; omega
  have wi : IntKind.i64.wrap ((i : Int) + 1) = ((i + 1 : Nat) : Int) := by rw [IntKind.wrap_i64]; omega
  rw [List.drop_eq_getElem_cons hlt] at hp
  simp only [pick] at hp
  simp only [Iv, w1, go, Mv, NilC_at, Fld_at, add_mk, Nat.zero_add, Nat.add_zero, Bin_add, Bin_sub, Bin_mul, Bin_eql, Bin_neq, Bin_lss, Bin_leq, Bin_gtr, Bin_geq, Bin_bool_eql, Bin_bool_neq, Bin_ptr_nil_eql, Bin_ptr_nil_neq, Un_not, Pick_bool, Gd_bool, Gd_undef, If_bool, CallF_eq, MaxV_two, MinV_two, if_true, if_false, Bool.false_eq_true, Bool.true_eq_false, Bool.not_true, Bool.not_false, BEq.rfl]
  by_cases hq : q < wk kind base ks[i]
  · have t : q - wk kind base ks[i] < 0 := by omega
    rw [if_pos hq] at hp
    simp only [decide_eq_true t, go, Mv, NilC_at, Fld_at, add_mk, Nat.zero_add, Nat.add_zero, Bin_add, Bin_sub, Bin_mul, Bin_eql, Bin_neq, Bin_lss, Bin_leq, Bin_gtr, Bin_geq, Bin_bool_eql, Bin_bool_neq, Bin_ptr_nil_eql, Bin_ptr_nil_neq, Un_not, Pick_bool, Gd_bool, Gd_undef, If_bool, CallF_eq, MaxV_two, MinV_two, if_true, if_false, Bool.false_eq_true, Bool.true_eq_false, Bool.not_true, Bool.not_false, BEq.rfl]
    rw [← hp] at hk; exact hk
  · have t : ¬ q - wk kind base ks[i] < 0 := by omega
    rw [if_neg hq] at hp
    simp only [decide_eq_false t, wi, go, Mv, NilC_at, Fld_at, add_mk, Nat.zero_add, Nat.add_zero, Bin_add, Bin_sub, Bin_mul, Bin_eql, Bin_neq, Bin_lss, Bin_leq, Bin_gtr, Bin_geq, Bin_bool_eql, Bin_bool_neq, Bin_ptr_nil_eql, Bin_ptr_nil_neq, Un_not, Pick_bool, Gd_bool, Gd_undef, If_bool, CallF_eq, MaxV_two, MinV_two, if_true, if_false, Bool.false_eq_true, Bool.true_eq_false, Bool.not_true, Bool.not_false, BEq.rfl]
    exact hX (i + 1, q - wk kind base ks[i]) _ _ _ _ _ _ ⟨rfl, by simp only; omega, ⟨by simp only; omega, by simp only; omega⟩, hp, rfl, rfl, rfl, rfl, rfl⟩ (by simp only; omega)
end Go.Proofs.Ytfagifhgjndoaaa
