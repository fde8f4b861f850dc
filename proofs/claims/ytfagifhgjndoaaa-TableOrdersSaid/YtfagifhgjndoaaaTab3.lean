/- What the table totals. Conditions: those typed ahead of each theorem. -/
import Derived.Test.YtfagifhgjndoaaaTab2
namespace Go.Proofs.Ytfagifhgjndoaaa
open Go.Pt
set_option linter.unusedVariables false
set_option linter.unusedSimpArgs false
def wk (kind base k : Int) : Int := wt kind base (clampK k)
theorem wk_bd {kind base : Int} (hf : Fits kind base) (k : Int) : 1 ≤ wk kind base k ∧ wk kind base k ≤ 1099511627776 := wt_bd hf _ (clampK_lt k)
def tot (kind base : Int) (ks : List Int) : Int := (ks.map (wk kind base)).sum
theorem tot_bd {kind base : Int} (hf : Fits kind base) : ∀ ks : List Int, (ks.length : Int) ≤ tot kind base ks ∧ tot kind base ks ≤ 1099511627776 * ks.length
  | [] => by simp [tot]
  | k :: ks => by
    have h1 := tot_bd hf ks
    have h2 := wk_bd hf k
    simp only [tot, List.map_cons, List.sum_cons, List.length_cons] at *
    omega
theorem tot_snoc (kind base : Int) (ks : List Int) (k : Int) : tot kind base (ks ++ [k]) = tot kind base ks + wk kind base k := by simp [tot]
theorem table_Table_Total.spec {g : Nat} {kind base : Int} (hf : Fits kind base) {v : Value} {ks : List Int} {K : Ret} {h : Heap} (ht : TabAt h g kind base) (hv : Rd h v (ks.map Iv)) (hl : ks.length ≤ 4000000) (hk : K (Iv (tot kind base ks)) h) : CallH Try.prog table_Table_Total.id #[.pointer (some ⟨g, 0, none⟩), v] K h := by
  refine table_Table_Total.ok ?_
  simp only [table_Table_Total.pt, go, Mv, NilC_at, Fld_at, add_mk, Nat.zero_add, Nat.add_zero, Bin_add, Bin_sub, Bin_mul, Bin_eql, Bin_neq, Bin_lss, Bin_leq, Bin_gtr, Bin_geq, Bin_bool_eql, Bin_bool_neq, Bin_ptr_nil_eql, Bin_ptr_nil_neq, Un_not, Pick_bool, Gd_bool, Gd_undef, If_bool, CallF_eq, MaxV_two, MinV_two, if_true, if_false, Bool.false_eq_true, Bool.true_eq_false, Bool.not_true, Bool.not_false, BEq.rfl]
  refine hv.len ?_
  rw [List.length_map]
  refine Lp5 (σ := Nat) (fun i a b c d e h' => h = h' ∧ i ≤ ks.length ∧ a = .pointer (some ⟨g, 0, none⟩) ∧ b = .int .i64 (tot kind base (ks.take i)) ∧ v = c ∧ d = .int .i64 (ks.length : Int) ∧ e = .int .i64 (i : Int)) (fun i => ks.length - i) 0
    ⟨rfl, Nat.zero_le _, rfl, rfl, rfl, rfl, rfl⟩ ?_
  rintro i a b c d e h2 ⟨rfl, hi, rfl, rfl, rfl, rfl, rfl⟩ X hX
  simp only [go, Mv, NilC_at, Fld_at, add_mk, Nat.zero_add, Nat.add_zero, Bin_add, Bin_sub, Bin_mul, Bin_eql, Bin_neq, Bin_lss, Bin_leq, Bin_gtr, Bin_geq, Bin_bool_eql, Bin_bool_neq, Bin_ptr_nil_eql, Bin_ptr_nil_neq, Un_not, Pick_bool, Gd_bool, Gd_undef, If_bool, CallF_eq, MaxV_two, MinV_two, if_true, if_false, Bool.false_eq_true, Bool.true_eq_false, Bool.not_true, Bool.not_false, BEq.rfl]
  by_cases hd : ¬ (i : Int) < (ks.length : Int)
  · simp only [decide_eq_false hd, go, Mv, NilC_at, Fld_at, add_mk, Nat.zero_add, Nat.add_zero, Bin_add, Bin_sub, Bin_mul, Bin_eql, Bin_neq, Bin_lss, Bin_leq, Bin_gtr, Bin_geq, Bin_bool_eql, Bin_bool_neq, Bin_ptr_nil_eql, Bin_ptr_nil_neq, Un_not, Pick_bool, Gd_bool, Gd_undef, If_bool, CallF_eq, MaxV_two, MinV_two, if_true, if_false, Bool.false_eq_true, Bool.true_eq_false, Bool.not_true, Bool.not_false, BEq.rfl]
    rw [List.take_of_length_le (by omega)]; exact hk
  have hd : (i : Int) < (ks.length : Int) := by omega
  simp only [decide_eq_true hd, go, Mv, NilC_at, Fld_at, add_mk, Nat.zero_add, Nat.add_zero, Bin_add, Bin_sub, Bin_mul, Bin_eql, Bin_neq, Bin_lss, Bin_leq, Bin_gtr, Bin_geq, Bin_bool_eql, Bin_bool_neq, Bin_ptr_nil_eql, Bin_ptr_nil_neq, Un_not, Pick_bool, Gd_bool, Gd_undef, If_bool, CallF_eq, MaxV_two, MinV_two, if_true, if_false, Bool.false_eq_true, Bool.true_eq_false, Bool.not_true, Bool.not_false, BEq.rfl]
  have hlt : i < ks.length := by omega
  have hget : ks[i]? = some ks[i] := List.getElem?_eq_getElem _
  refine hv.at (x := Iv ks[i]) (by omega) (by rw [Int.toNat_natCast, List.getElem?_map, hget]; rfl) ?_
  refine table_Table_Weight.spec ks[i] ht ?_
  have hb := tot_bd hf (ks.take i)
  have hw := wk_bd hf ks[i]
  have hlen : (ks.take i).length ≤ 4000000 := by rw [List.length_take]; omega
  have e1 : tot kind base (ks.take (i + 1)) = tot kind base (ks.take i) + wk kind base ks[i] := by
    rw [List.take_add_one, hget]; exact tot_snoc _ _ _ _
  have w1 : IntKind.i64.wrap (tot kind base (ks.take i) + wt kind base (clampK ks[i])) = tot kind base (ks.take (i + 1)) := by
    rw [e1, IntKind.wrap_i64]; unfold wk at *; omega
  have wi : IntKind.i64.wrap ((i : Int) + 1) = ((i + 1 : Nat) : Int) := by rw [IntKind.wrap_i64]; omega
  simp only [Iv, w1, wi, go, Mv, NilC_at, Fld_at, add_mk, Nat.zero_add, Nat.add_zero, Bin_add, Bin_sub, Bin_mul, Bin_eql, Bin_neq, Bin_lss, Bin_leq, Bin_gtr, Bin_geq, Bin_bool_eql, Bin_bool_neq, Bin_ptr_nil_eql, Bin_ptr_nil_neq, Un_not, Pick_bool, Gd_bool, Gd_undef, If_bool, CallF_eq, MaxV_two, MinV_two, if_true, if_false, Bool.false_eq_true, Bool.true_eq_false, Bool.not_true, Bool.not_false, BEq.rfl]
  exact hX (i + 1) _ _ _ _ _ _ ⟨rfl, by omega, rfl, rfl, rfl, rfl, rfl⟩ (by omega)
end Go.Proofs.Ytfagifhgjndoaaa
