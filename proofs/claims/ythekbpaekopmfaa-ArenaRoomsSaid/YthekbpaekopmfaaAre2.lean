/- What the functions of the arena that look a clause up compute. Conditions: those typed ahead of each theorem. -/
import Derived.Test.YthekbpaekopmfaaAre
namespace Go.Proofs.Ythekbpaekopmfaa
open Go.Pt
set_option linter.unusedVariables false
set_option linter.unusedSimpArgs false
section
variable {g : Nat} {a : Ar} {F : List Nat} {r : Int} {K : Ret} {h : Heap}
theorem arena_Arena_Words.spec (ha : ArAt h g a F) (hk : K (Iv (a.ws.length : Int)) h) : CallH Try.prog arena_Arena_Words.id #[.pointer (some ⟨g, 0, none⟩)] K h := by
  obtain ⟨wv, wb, mb, b1, o1, m1, rfl, d1, d2, d3⟩ := ha
  refine arena_Arena_Words.ok ?_
  simp only [arena_Arena_Words.pt, go, Mv, NilC_at, Fld_at, add_mk, Nat.zero_add, Nat.add_zero, Bin_add, Bin_sub, Bin_mul, Bin_eql, Bin_neq, Bin_lss, Bin_leq, Bin_gtr, Bin_geq, Bin_bool_eql, Bin_bool_neq, Bin_ptr_nil_eql, Bin_ptr_nil_neq, Un_not, Pick_bool, Gd_bool, If_bool, CallF_eq, MaxV_two, MinV_two, if_true, if_false, Bool.false_eq_true, Bool.true_eq_false, Bool.not_true, Bool.not_false, BEq.rfl]
  refine Ld_blk b1 rfl (o1.len ?_)
  rw [List.length_map]; exact hk
theorem arena_Arena_Count.spec (ha : ArAt h g a F) (hk : K (Iv (a.lv.length : Int)) h) : CallH Try.prog arena_Arena_Count.id #[.pointer (some ⟨g, 0, none⟩)] K h := by
  obtain ⟨wv, wb, mb, b1, o1, m1, rfl, d1, d2, d3⟩ := ha
  refine arena_Arena_Count.ok ?_
  simp only [arena_Arena_Count.pt, go, Mv, NilC_at, Fld_at, add_mk, Nat.zero_add, Nat.add_zero, Bin_add, Bin_sub, Bin_mul, Bin_eql, Bin_neq, Bin_lss, Bin_leq, Bin_gtr, Bin_geq, Bin_bool_eql, Bin_bool_neq, Bin_ptr_nil_eql, Bin_ptr_nil_neq, Un_not, Pick_bool, Gd_bool, If_bool, CallF_eq, MaxV_two, MinV_two, if_true, if_false, Bool.false_eq_true, Bool.true_eq_false, Bool.not_true, Bool.not_false, BEq.rfl]
  exact Ld_blk b1 rfl hk
theorem arena_Arena_Has.spec (ha : ArAt h g a F) (hk : K (.bool (decide (r ∈ a.lv))) h) : CallH Try.prog arena_Arena_Has.id #[.pointer (some ⟨g, 0, none⟩), Iv r] K h := by
  obtain ⟨wv, wb, mb, b1, o1, m1, rfl, d1, d2, d3⟩ := ha
  refine arena_Arena_Has.ok ?_
  simp only [arena_Arena_Has.pt, Iv, go, Mv, NilC_at, Fld_at, add_mk, Nat.zero_add, Nat.add_zero, Bin_add, Bin_sub, Bin_mul, Bin_eql, Bin_neq, Bin_lss, Bin_leq, Bin_gtr, Bin_geq, Bin_bool_eql, Bin_bool_neq, Bin_ptr_nil_eql, Bin_ptr_nil_neq, Un_not, Pick_bool, Gd_bool, If_bool, CallF_eq, MaxV_two, MinV_two, if_true, if_false, Bool.false_eq_true, Bool.true_eq_false, Bool.not_true, Bool.not_false, BEq.rfl]
  refine Ld_blk b1 rfl (Lk_map m1 ?_)
  rw [look_live]
  by_cases hr : r ∈ a.lv
  · simpa [hr] using hk
  · simpa [hr] using hk
theorem word_at (ha : ArAt h g a F) {x : Int} {i : Int} (h0 : 0 ≤ i) (hx : a.ws[i.toNat]? = some x) (hk : K (Iv x) h) : Ld (.pointer (some ⟨g, 0, none⟩)) (fun t h => Idx 1 t (.int .i64 i) (fun p h => Ld p K h) h) h := by
  obtain ⟨wv, wb, mb, b1, o1, m1, rfl, d1, d2, d3⟩ := ha
  refine Ld_blk b1 rfl (o1.at (x := Iv x) h0 ?_ hk)
  rw [List.getElem?_map, hx]; rfl
theorem wrap0 (h0 : -4611686018427387904 ≤ r) (h1 : r < 4611686018427387904) : IntKind.i64.wrap (r + 0) = r := by rw [IntKind.wrap_i64]; omega
theorem arena_Arena_Len.no (ha : ArAt h g a F) (hr : r ∉ a.lv) (hk : K (Iv 0) h) : CallH Try.prog arena_Arena_Len.id #[.pointer (some ⟨g, 0, none⟩), Iv r] K h := by
  refine arena_Arena_Len.ok ?_
  simp only [arena_Arena_Len.pt, go, Mv, NilC_at, Fld_at, add_mk, Nat.zero_add, Nat.add_zero, Bin_add, Bin_sub, Bin_mul, Bin_eql, Bin_neq, Bin_lss, Bin_leq, Bin_gtr, Bin_geq, Bin_bool_eql, Bin_bool_neq, Bin_ptr_nil_eql, Bin_ptr_nil_neq, Un_not, Pick_bool, Gd_bool, If_bool, CallF_eq, MaxV_two, MinV_two, if_true, if_false, Bool.false_eq_true, Bool.true_eq_false, Bool.not_true, Bool.not_false, BEq.rfl]
  refine arena_Arena_Has.spec ha ?_
  simp only [hr, decide_false, go, Mv, NilC_at, Fld_at, add_mk, Nat.zero_add, Nat.add_zero, Bin_add, Bin_sub, Bin_mul, Bin_eql, Bin_neq, Bin_lss, Bin_leq, Bin_gtr, Bin_geq, Bin_bool_eql, Bin_bool_neq, Bin_ptr_nil_eql, Bin_ptr_nil_neq, Un_not, Pick_bool, Gd_bool, If_bool, CallF_eq, MaxV_two, MinV_two, if_true, if_false, Bool.false_eq_true, Bool.true_eq_false, Bool.not_true, Bool.not_false, BEq.rfl]; exact hk
theorem arena_Arena_Len.yes (ha : ArAt h g a F) (hr : r ∈ a.lv) (h0 : 0 ≤ r) (h1 : r < 4611686018427387904) {x : Int} (hx : a.ws[r.toNat]? = some x) (hk : K (Iv (x % 1099511627776)) h) : CallH Try.prog arena_Arena_Len.id #[.pointer (some ⟨g, 0, none⟩), Iv r] K h := by
  refine arena_Arena_Len.ok ?_
  simp only [arena_Arena_Len.pt, go, Mv, NilC_at, Fld_at, add_mk, Nat.zero_add, Nat.add_zero, Bin_add, Bin_sub, Bin_mul, Bin_eql, Bin_neq, Bin_lss, Bin_leq, Bin_gtr, Bin_geq, Bin_bool_eql, Bin_bool_neq, Bin_ptr_nil_eql, Bin_ptr_nil_neq, Un_not, Pick_bool, Gd_bool, If_bool, CallF_eq, MaxV_two, MinV_two, if_true, if_false, Bool.false_eq_true, Bool.true_eq_false, Bool.not_true, Bool.not_false, BEq.rfl]
  refine arena_Arena_Has.spec ha ?_
  have w := wrap0 (r := r) (by omega) h1
  simp only [hr, decide_true, Iv, w, go, Mv, NilC_at, Fld_at, add_mk, Nat.zero_add, Nat.add_zero, Bin_add, Bin_sub, Bin_mul, Bin_eql, Bin_neq, Bin_lss, Bin_leq, Bin_gtr, Bin_geq, Bin_bool_eql, Bin_bool_neq, Bin_ptr_nil_eql, Bin_ptr_nil_neq, Un_not, Pick_bool, Gd_bool, If_bool, CallF_eq, MaxV_two, MinV_two, if_true, if_false, Bool.false_eq_true, Bool.true_eq_false, Bool.not_true, Bool.not_false, BEq.rfl]
  refine word_at ha h0 hx ?_
  simp only [Iv, Bin_and, go, Mv, NilC_at, Fld_at, add_mk, Nat.zero_add, Nat.add_zero, Bin_add, Bin_sub, Bin_mul, Bin_eql, Bin_neq, Bin_lss, Bin_leq, Bin_gtr, Bin_geq, Bin_bool_eql, Bin_bool_neq, Bin_ptr_nil_eql, Bin_ptr_nil_neq, Un_not, Pick_bool, Gd_bool, If_bool, CallF_eq, MaxV_two, MinV_two, if_true, if_false, Bool.false_eq_true, Bool.true_eq_false, Bool.not_true, Bool.not_false, BEq.rfl]
  rw [mask_i64 x 40 (by decide) 1099511627775 (by decide)]; exact hk
theorem arena_Arena_Lit.no (ha : ArAt h g a F) (hr : r ∉ a.lv) (i : Int) (hk : K (Iv 0) h) : CallH Try.prog arena_Arena_Lit.id #[.pointer (some ⟨g, 0, none⟩), Iv r, Iv i] K h := by
  refine arena_Arena_Lit.ok ?_
  simp only [arena_Arena_Lit.pt, Iv, go, Mv, NilC_at, Fld_at, add_mk, Nat.zero_add, Nat.add_zero, Bin_add, Bin_sub, Bin_mul, Bin_eql, Bin_neq, Bin_lss, Bin_leq, Bin_gtr, Bin_geq, Bin_bool_eql, Bin_bool_neq, Bin_ptr_nil_eql, Bin_ptr_nil_neq, Un_not, Pick_bool, Gd_bool, If_bool, CallF_eq, MaxV_two, MinV_two, if_true, if_false, Bool.false_eq_true, Bool.true_eq_false, Bool.not_true, Bool.not_false, BEq.rfl]
  by_cases hi : i < 0
  · simp only [decide_eq_true hi, go, Mv, NilC_at, Fld_at, add_mk, Nat.zero_add, Nat.add_zero, Bin_add, Bin_sub, Bin_mul, Bin_eql, Bin_neq, Bin_lss, Bin_leq, Bin_gtr, Bin_geq, Bin_bool_eql, Bin_bool_neq, Bin_ptr_nil_eql, Bin_ptr_nil_neq, Un_not, Pick_bool, Gd_bool, If_bool, CallF_eq, MaxV_two, MinV_two, if_true, if_false, Bool.false_eq_true, Bool.true_eq_false, Bool.not_true, Bool.not_false, BEq.rfl]; exact hk
  · simp only [decide_eq_false hi, go, Mv, NilC_at, Fld_at, add_mk, Nat.zero_add, Nat.add_zero, Bin_add, Bin_sub, Bin_mul, Bin_eql, Bin_neq, Bin_lss, Bin_leq, Bin_gtr, Bin_geq, Bin_bool_eql, Bin_bool_neq, Bin_ptr_nil_eql, Bin_ptr_nil_neq, Un_not, Pick_bool, Gd_bool, If_bool, CallF_eq, MaxV_two, MinV_two, if_true, if_false, Bool.false_eq_true, Bool.true_eq_false, Bool.not_true, Bool.not_false, BEq.rfl]
    refine arena_Arena_Len.no ha hr ?_
    have t : decide (i ≥ 0) = true := by simp; omega
    simp only [Iv, t, go, Mv, NilC_at, Fld_at, add_mk, Nat.zero_add, Nat.add_zero, Bin_add, Bin_sub, Bin_mul, Bin_eql, Bin_neq, Bin_lss, Bin_leq, Bin_gtr, Bin_geq, Bin_bool_eql, Bin_bool_neq, Bin_ptr_nil_eql, Bin_ptr_nil_neq, Un_not, Pick_bool, Gd_bool, If_bool, CallF_eq, MaxV_two, MinV_two, if_true, if_false, Bool.false_eq_true, Bool.true_eq_false, Bool.not_true, Bool.not_false, BEq.rfl]; exact hk
theorem arena_Arena_Lit.yes (ha : ArAt h g a F) (hr : r ∈ a.lv) (h0 : 0 ≤ r) (h1 : r < 4611686018427387904) {x y : Int} (hx : a.ws[r.toNat]? = some x) (i : Int) (hi : 0 ≤ i) (hi2 : i < x % 1099511627776) (hy : a.ws[(r + 3 + i).toNat]? = some y) (hk : K (Iv y) h) :
    CallH Try.prog arena_Arena_Lit.id #[.pointer (some ⟨g, 0, none⟩), Iv r, Iv i] K h := by
  refine arena_Arena_Lit.ok ?_
  have t : ¬ i < 0 := by omega
  simp only [arena_Arena_Lit.pt, Iv, decide_eq_false t, go, Mv, NilC_at, Fld_at, add_mk, Nat.zero_add, Nat.add_zero, Bin_add, Bin_sub, Bin_mul, Bin_eql, Bin_neq, Bin_lss, Bin_leq, Bin_gtr, Bin_geq, Bin_bool_eql, Bin_bool_neq, Bin_ptr_nil_eql, Bin_ptr_nil_neq, Un_not, Pick_bool, Gd_bool, If_bool, CallF_eq, MaxV_two, MinV_two, if_true, if_false, Bool.false_eq_true, Bool.true_eq_false, Bool.not_true, Bool.not_false, BEq.rfl]
  refine arena_Arena_Len.yes ha hr h0 h1 hx ?_
  have t : ¬ i ≥ x % 1099511627776 := by omega
  have w : IntKind.i64.wrap (IntKind.i64.wrap (r + 3) + i) = r + 3 + i := by simp only [IntKind.wrap_i64]; omega
  simp only [Iv, decide_eq_false t, w, go, Mv, NilC_at, Fld_at, add_mk, Nat.zero_add, Nat.add_zero, Bin_add, Bin_sub, Bin_mul, Bin_eql, Bin_neq, Bin_lss, Bin_leq, Bin_gtr, Bin_geq, Bin_bool_eql, Bin_bool_neq, Bin_ptr_nil_eql, Bin_ptr_nil_neq, Un_not, Pick_bool, Gd_bool, If_bool, CallF_eq, MaxV_two, MinV_two, if_true, if_false, Bool.false_eq_true, Bool.true_eq_false, Bool.not_true, Bool.not_false, BEq.rfl]
  refine word_at ha (by omega) hy ?_
  exact hk
theorem arena_Arena_Lits.no (ha : ArAt h g a F) (hr : r ∉ a.lv) (hk : K (.slice none 0 0) h) : CallH Try.prog arena_Arena_Lits.id #[.pointer (some ⟨g, 0, none⟩), Iv r] K h := by
  refine arena_Arena_Lits.ok ?_
  simp only [arena_Arena_Lits.pt, go, Mv, NilC_at, Fld_at, add_mk, Nat.zero_add, Nat.add_zero, Bin_add, Bin_sub, Bin_mul, Bin_eql, Bin_neq, Bin_lss, Bin_leq, Bin_gtr, Bin_geq, Bin_bool_eql, Bin_bool_neq, Bin_ptr_nil_eql, Bin_ptr_nil_neq, Un_not, Pick_bool, Gd_bool, If_bool, CallF_eq, MaxV_two, MinV_two, if_true, if_false, Bool.false_eq_true, Bool.true_eq_false, Bool.not_true, Bool.not_false, BEq.rfl]
  refine arena_Arena_Len.no ha hr ?_
  simp only [Iv, go, Mv, NilC_at, Fld_at, add_mk, Nat.zero_add, Nat.add_zero, Bin_add, Bin_sub, Bin_mul, Bin_eql, Bin_neq, Bin_lss, Bin_leq, Bin_gtr, Bin_geq, Bin_bool_eql, Bin_bool_neq, Bin_ptr_nil_eql, Bin_ptr_nil_neq, Un_not, Pick_bool, Gd_bool, If_bool, CallF_eq, MaxV_two, MinV_two, if_true, if_false, Bool.false_eq_true, Bool.true_eq_false, Bool.not_true, Bool.not_false, BEq.rfl]; exact hk
theorem arena_Arena_Swap.no (ha : ArAt h g a F) (hr : r ∉ a.lv) (i j : Int) (hk : K (.bool false) h) : CallH Try.prog arena_Arena_Swap.id #[.pointer (some ⟨g, 0, none⟩), Iv r, Iv i, Iv j] K h := by
  refine arena_Arena_Swap.ok ?_
  simp only [arena_Arena_Swap.pt, go, Mv, NilC_at, Fld_at, add_mk, Nat.zero_add, Nat.add_zero, Bin_add, Bin_sub, Bin_mul, Bin_eql, Bin_neq, Bin_lss, Bin_leq, Bin_gtr, Bin_geq, Bin_bool_eql, Bin_bool_neq, Bin_ptr_nil_eql, Bin_ptr_nil_neq, Un_not, Pick_bool, Gd_bool, If_bool, CallF_eq, MaxV_two, MinV_two, if_true, if_false, Bool.false_eq_true, Bool.true_eq_false, Bool.not_true, Bool.not_false, BEq.rfl]
  refine arena_Arena_Lit.no ha hr i ?_
  simp only [Iv, go, Mv, NilC_at, Fld_at, add_mk, Nat.zero_add, Nat.add_zero, Bin_add, Bin_sub, Bin_mul, Bin_eql, Bin_neq, Bin_lss, Bin_leq, Bin_gtr, Bin_geq, Bin_bool_eql, Bin_bool_neq, Bin_ptr_nil_eql, Bin_ptr_nil_neq, Un_not, Pick_bool, Gd_bool, If_bool, CallF_eq, MaxV_two, MinV_two, if_true, if_false, Bool.false_eq_true, Bool.true_eq_false, Bool.not_true, Bool.not_false, BEq.rfl]; exact hk
theorem arena_Arena_Learned.no (ha : ArAt h g a F) (hr : r ∉ a.lv) (hk : K (.bool false) h) : CallH Try.prog arena_Arena_Learned.id #[.pointer (some ⟨g, 0, none⟩), Iv r] K h := by
  refine arena_Arena_Learned.ok ?_
  simp only [arena_Arena_Learned.pt, go, Mv, NilC_at, Fld_at, add_mk, Nat.zero_add, Nat.add_zero, Bin_add, Bin_sub, Bin_mul, Bin_eql, Bin_neq, Bin_lss, Bin_leq, Bin_gtr, Bin_geq, Bin_bool_eql, Bin_bool_neq, Bin_ptr_nil_eql, Bin_ptr_nil_neq, Un_not, Pick_bool, Gd_bool, If_bool, CallF_eq, MaxV_two, MinV_two, if_true, if_false, Bool.false_eq_true, Bool.true_eq_false, Bool.not_true, Bool.not_false, BEq.rfl]
  refine arena_Arena_Has.spec ha ?_
  simp only [hr, decide_false, go, Mv, NilC_at, Fld_at, add_mk, Nat.zero_add, Nat.add_zero, Bin_add, Bin_sub, Bin_mul, Bin_eql, Bin_neq, Bin_lss, Bin_leq, Bin_gtr, Bin_geq, Bin_bool_eql, Bin_bool_neq, Bin_ptr_nil_eql, Bin_ptr_nil_neq, Un_not, Pick_bool, Gd_bool, If_bool, CallF_eq, MaxV_two, MinV_two, if_true, if_false, Bool.false_eq_true, Bool.true_eq_false, Bool.not_true, Bool.not_false, BEq.rfl]; exact hk
theorem and_pow40 (y : Nat) : y &&& 2 ^ 40 = if y.testBit 40 then 2 ^ 40 else 0 := by
  apply Nat.eq_of_testBit_eq
  intro i
  rw [Nat.testBit_and, Nat.testBit_two_pow]
  by_cases hi : 40 = i
  · subst hi
    cases y.testBit 40
    · rfl
    · rw [if_pos rfl, Nat.testBit_two_pow]; rfl
  · split
    · rw [Nat.testBit_two_pow]; simp [hi]
    · simp [hi]
theorem bit40 (x : Int) (b : Bool) (hx : 0 ≤ x) (hx2 : x < 1099511627776) : (bits .and .i64 (if b then x + 1099511627776 else x) 1099511627776 != 0) = b := by
  have e : bits .and .i64 (if b then x + 1099511627776 else x) 1099511627776 = if b then 1099511627776 else 0 := by
    show IntKind.i64.wrap ((BitVec.ofInt 64 (if b then x + 1099511627776 else x) &&& BitVec.ofInt 64 1099511627776).toNat : Int) = _
    have e2 : (BitVec.ofInt 64 1099511627776).toNat = 2 ^ 40 := by decide
    have hlt : x.toNat < 2 ^ 40 := by omega
    rw [BitVec.toNat_and, e2, and_pow40]
    cases b with
    | true =>
      simp only [if_true]
      have e1 : (BitVec.ofInt 64 (x + 1099511627776)).toNat = 2 ^ 40 + x.toNat := by rw [BitVec.toNat_ofInt]; omega
      rw [e1, Nat.testBit_two_pow_add_eq, Nat.testBit_lt_two_pow hlt]; rfl
    | false =>
      simp only [Bool.false_eq_true, if_false]
      have e1 : (BitVec.ofInt 64 x).toNat = x.toNat := by rw [BitVec.toNat_ofInt]; omega
      rw [e1, Nat.testBit_lt_two_pow hlt]; rfl
  rw [e]; cases b <;> rfl
theorem arena_Arena_Learned.yes (ha : ArAt h g a F) (hr : r ∈ a.lv) (h0 : 0 ≤ r) (h1 : r < 4611686018427387904) {n : Nat} {l : Bool} (hn : n < 1099511627776) (hx : a.ws[r.toNat]? = some (head n l)) (hk : K (.bool l) h) : CallH Try.prog arena_Arena_Learned.id #[.pointer (some ⟨g, 0, none⟩), Iv r] K h := by
  refine arena_Arena_Learned.ok ?_
  simp only [arena_Arena_Learned.pt, go, Mv, NilC_at, Fld_at, add_mk, Nat.zero_add, Nat.add_zero, Bin_add, Bin_sub, Bin_mul, Bin_eql, Bin_neq, Bin_lss, Bin_leq, Bin_gtr, Bin_geq, Bin_bool_eql, Bin_bool_neq, Bin_ptr_nil_eql, Bin_ptr_nil_neq, Un_not, Pick_bool, Gd_bool, If_bool, CallF_eq, MaxV_two, MinV_two, if_true, if_false, Bool.false_eq_true, Bool.true_eq_false, Bool.not_true, Bool.not_false, BEq.rfl]
  refine arena_Arena_Has.spec ha ?_
  have w := wrap0 (r := r) (by omega) h1
  simp only [hr, decide_true, Iv, w, go, Mv, NilC_at, Fld_at, add_mk, Nat.zero_add, Nat.add_zero, Bin_add, Bin_sub, Bin_mul, Bin_eql, Bin_neq, Bin_lss, Bin_leq, Bin_gtr, Bin_geq, Bin_bool_eql, Bin_bool_neq, Bin_ptr_nil_eql, Bin_ptr_nil_neq, Un_not, Pick_bool, Gd_bool, If_bool, CallF_eq, MaxV_two, MinV_two, if_true, if_false, Bool.false_eq_true, Bool.true_eq_false, Bool.not_true, Bool.not_false, BEq.rfl]
  refine word_at ha h0 hx ?_
  simp only [Iv, Bin_and, go, Mv, NilC_at, Fld_at, add_mk, Nat.zero_add, Nat.add_zero, Bin_add, Bin_sub, Bin_mul, Bin_eql, Bin_neq, Bin_lss, Bin_leq, Bin_gtr, Bin_geq, Bin_bool_eql, Bin_bool_neq, Bin_ptr_nil_eql, Bin_ptr_nil_neq, Un_not, Pick_bool, Gd_bool, If_bool, CallF_eq, MaxV_two, MinV_two, if_true, if_false, Bool.false_eq_true, Bool.true_eq_false, Bool.not_true, Bool.not_false, BEq.rfl]
  have := bit40 (n : Int) l (by omega) (by omega)
  rw [head, this]; exact hk
theorem head_len {n : Nat} {l : Bool} (hn : n < 1099511627776) : head n l % 1099511627776 = n := by unfold head; split <;> omega
theorem arena_Arena_get.no (ha : ArAt h g a F) (hr : r ∉ a.lv) (i : Int) (hk : K (Iv 0) h) : CallH Try.prog arena_Arena_get.id #[.pointer (some ⟨g, 0, none⟩), Iv r, Iv i] K h := by
  refine arena_Arena_get.ok ?_
  simp only [arena_Arena_get.pt, go, Mv, NilC_at, Fld_at, add_mk, Nat.zero_add, Nat.add_zero, Bin_add, Bin_sub, Bin_mul, Bin_eql, Bin_neq, Bin_lss, Bin_leq, Bin_gtr, Bin_geq, Bin_bool_eql, Bin_bool_neq, Bin_ptr_nil_eql, Bin_ptr_nil_neq, Un_not, Pick_bool, Gd_bool, If_bool, CallF_eq, MaxV_two, MinV_two, if_true, if_false, Bool.false_eq_true, Bool.true_eq_false, Bool.not_true, Bool.not_false, BEq.rfl]
  refine arena_Arena_Has.spec ha ?_
  simp only [hr, decide_false, go, Mv, NilC_at, Fld_at, add_mk, Nat.zero_add, Nat.add_zero, Bin_add, Bin_sub, Bin_mul, Bin_eql, Bin_neq, Bin_lss, Bin_leq, Bin_gtr, Bin_geq, Bin_bool_eql, Bin_bool_neq, Bin_ptr_nil_eql, Bin_ptr_nil_neq, Un_not, Pick_bool, Gd_bool, If_bool, CallF_eq, MaxV_two, MinV_two, if_true, if_false, Bool.false_eq_true, Bool.true_eq_false, Bool.not_true, Bool.not_false, BEq.rfl]; exact hk
theorem arena_Arena_get.yes (ha : ArAt h g a F) (hr : r ∈ a.lv) (h0 : 0 ≤ r) (h1 : r < 4611686018427387904) (i : Int) (hi0 : 0 ≤ i) (hi1 : i < 3) {x : Int} (hx : a.ws[(r + i).toNat]? = some x) (hk : K (Iv x) h) : CallH Try.prog arena_Arena_get.id #[.pointer (some ⟨g, 0, none⟩), Iv r, Iv i] K h := by
  refine arena_Arena_get.ok ?_
  simp only [arena_Arena_get.pt, go, Mv, NilC_at, Fld_at, add_mk, Nat.zero_add, Nat.add_zero, Bin_add, Bin_sub, Bin_mul, Bin_eql, Bin_neq, Bin_lss, Bin_leq, Bin_gtr, Bin_geq, Bin_bool_eql, Bin_bool_neq, Bin_ptr_nil_eql, Bin_ptr_nil_neq, Un_not, Pick_bool, Gd_bool, If_bool, CallF_eq, MaxV_two, MinV_two, if_true, if_false, Bool.false_eq_true, Bool.true_eq_false, Bool.not_true, Bool.not_false, BEq.rfl]
  refine arena_Arena_Has.spec ha ?_
  have w : IntKind.i64.wrap (r + i) = r + i := by rw [IntKind.wrap_i64]; omega
  simp only [hr, decide_true, Iv, w, go, Mv, NilC_at, Fld_at, add_mk, Nat.zero_add, Nat.add_zero, Bin_add, Bin_sub, Bin_mul, Bin_eql, Bin_neq, Bin_lss, Bin_leq, Bin_gtr, Bin_geq, Bin_bool_eql, Bin_bool_neq, Bin_ptr_nil_eql, Bin_ptr_nil_neq, Un_not, Pick_bool, Gd_bool, If_bool, CallF_eq, MaxV_two, MinV_two, if_true, if_false, Bool.false_eq_true, Bool.true_eq_false, Bool.not_true, Bool.not_false, BEq.rfl]
  exact word_at ha (by omega) hx hk
theorem arena_Arena_Glue.no (ha : ArAt h g a F) (hr : r ∉ a.lv) (hk : K (Iv 0) h) : CallH Try.prog arena_Arena_Glue.id #[.pointer (some ⟨g, 0, none⟩), Iv r] K h := by
  refine arena_Arena_Glue.ok ?_
  simp only [arena_Arena_Glue.pt, go, Mv, NilC_at, Fld_at, add_mk, Nat.zero_add, Nat.add_zero, Bin_add, Bin_sub, Bin_mul, Bin_eql, Bin_neq, Bin_lss, Bin_leq, Bin_gtr, Bin_geq, Bin_bool_eql, Bin_bool_neq, Bin_ptr_nil_eql, Bin_ptr_nil_neq, Un_not, Pick_bool, Gd_bool, If_bool, CallF_eq, MaxV_two, MinV_two, if_true, if_false, Bool.false_eq_true, Bool.true_eq_false, Bool.not_true, Bool.not_false, BEq.rfl]
  exact arena_Arena_get.no ha hr 1 hk
theorem arena_Arena_Glue.yes (ha : ArAt h g a F) (hr : r ∈ a.lv) (h0 : 0 ≤ r) (h1 : r < 4611686018427387904) {x : Int} (hx : a.ws[(r + 1).toNat]? = some x) (hk : K (Iv x) h) : CallH Try.prog arena_Arena_Glue.id #[.pointer (some ⟨g, 0, none⟩), Iv r] K h := by
  refine arena_Arena_Glue.ok ?_
  simp only [arena_Arena_Glue.pt, go, Mv, NilC_at, Fld_at, add_mk, Nat.zero_add, Nat.add_zero, Bin_add, Bin_sub, Bin_mul, Bin_eql, Bin_neq, Bin_lss, Bin_leq, Bin_gtr, Bin_geq, Bin_bool_eql, Bin_bool_neq, Bin_ptr_nil_eql, Bin_ptr_nil_neq, Un_not, Pick_bool, Gd_bool, If_bool, CallF_eq, MaxV_two, MinV_two, if_true, if_false, Bool.false_eq_true, Bool.true_eq_false, Bool.not_true, Bool.not_false, BEq.rfl]
  exact arena_Arena_get.yes ha hr h0 h1 1 (by decide) (by decide) hx hk
theorem arena_Arena_Uses.no (ha : ArAt h g a F) (hr : r ∉ a.lv) (hk : K (Iv 0) h) : CallH Try.prog arena_Arena_Uses.id #[.pointer (some ⟨g, 0, none⟩), Iv r] K h := by
  refine arena_Arena_Uses.ok ?_
  simp only [arena_Arena_Uses.pt, go, Mv, NilC_at, Fld_at, add_mk, Nat.zero_add, Nat.add_zero, Bin_add, Bin_sub, Bin_mul, Bin_eql, Bin_neq, Bin_lss, Bin_leq, Bin_gtr, Bin_geq, Bin_bool_eql, Bin_bool_neq, Bin_ptr_nil_eql, Bin_ptr_nil_neq, Un_not, Pick_bool, Gd_bool, If_bool, CallF_eq, MaxV_two, MinV_two, if_true, if_false, Bool.false_eq_true, Bool.true_eq_false, Bool.not_true, Bool.not_false, BEq.rfl]
  exact arena_Arena_get.no ha hr 2 hk
theorem arena_Arena_set.no (ha : ArAt h g a F) (hr : r ∉ a.lv) (i n : Int) (hk : K (.bool false) h) : CallH Try.prog arena_Arena_set.id #[.pointer (some ⟨g, 0, none⟩), Iv r, Iv i, Iv n] K h := by
  refine arena_Arena_set.ok ?_
  simp only [arena_Arena_set.pt, go, Mv, NilC_at, Fld_at, add_mk, Nat.zero_add, Nat.add_zero, Bin_add, Bin_sub, Bin_mul, Bin_eql, Bin_neq, Bin_lss, Bin_leq, Bin_gtr, Bin_geq, Bin_bool_eql, Bin_bool_neq, Bin_ptr_nil_eql, Bin_ptr_nil_neq, Un_not, Pick_bool, Gd_bool, If_bool, CallF_eq, MaxV_two, MinV_two, if_true, if_false, Bool.false_eq_true, Bool.true_eq_false, Bool.not_true, Bool.not_false, BEq.rfl]
  refine arena_Arena_Has.spec ha ?_
  simp only [hr, decide_false, go, Mv, NilC_at, Fld_at, add_mk, Nat.zero_add, Nat.add_zero, Bin_add, Bin_sub, Bin_mul, Bin_eql, Bin_neq, Bin_lss, Bin_leq, Bin_gtr, Bin_geq, Bin_bool_eql, Bin_bool_neq, Bin_ptr_nil_eql, Bin_ptr_nil_neq, Un_not, Pick_bool, Gd_bool, If_bool, CallF_eq, MaxV_two, MinV_two, if_true, if_false, Bool.false_eq_true, Bool.true_eq_false, Bool.not_true, Bool.not_false, BEq.rfl]; exact hk
theorem arena_Arena_SetGlue.no (ha : ArAt h g a F) (hr : r ∉ a.lv) (n : Int) (hk : K (.bool false) h) : CallH Try.prog arena_Arena_SetGlue.id #[.pointer (some ⟨g, 0, none⟩), Iv r, Iv n] K h := by
  refine arena_Arena_SetGlue.ok ?_
  simp only [arena_Arena_SetGlue.pt, go, Mv, NilC_at, Fld_at, add_mk, Nat.zero_add, Nat.add_zero, Bin_add, Bin_sub, Bin_mul, Bin_eql, Bin_neq, Bin_lss, Bin_leq, Bin_gtr, Bin_geq, Bin_bool_eql, Bin_bool_neq, Bin_ptr_nil_eql, Bin_ptr_nil_neq, Un_not, Pick_bool, Gd_bool, If_bool, CallF_eq, MaxV_two, MinV_two, if_true, if_false, Bool.false_eq_true, Bool.true_eq_false, Bool.not_true, Bool.not_false, BEq.rfl]
  exact arena_Arena_set.no ha hr 1 n hk
theorem arena_Arena_SetUses.no (ha : ArAt h g a F) (hr : r ∉ a.lv) (n : Int) (hk : K (.bool false) h) : CallH Try.prog arena_Arena_SetUses.id #[.pointer (some ⟨g, 0, none⟩), Iv r, Iv n] K h := by
  refine arena_Arena_SetUses.ok ?_
  simp only [arena_Arena_SetUses.pt, go, Mv, NilC_at, Fld_at, add_mk, Nat.zero_add, Nat.add_zero, Bin_add, Bin_sub, Bin_mul, Bin_eql, Bin_neq, Bin_lss, Bin_leq, Bin_gtr, Bin_geq, Bin_bool_eql, Bin_bool_neq, Bin_ptr_nil_eql, Bin_ptr_nil_neq, Un_not, Pick_bool, Gd_bool, If_bool, CallF_eq, MaxV_two, MinV_two, if_true, if_false, Bool.false_eq_true, Bool.true_eq_false, Bool.not_true, Bool.not_false, BEq.rfl]
  exact arena_Arena_set.no ha hr 2 n hk
theorem arena_Arena_Drop.no (ha : ArAt h g a F) (hr : r ∉ a.lv) (hk : K (.bool false) h) : CallH Try.prog arena_Arena_Drop.id #[.pointer (some ⟨g, 0, none⟩), Iv r] K h := by
  refine arena_Arena_Drop.ok ?_
  simp only [arena_Arena_Drop.pt, go, Mv, NilC_at, Fld_at, add_mk, Nat.zero_add, Nat.add_zero, Bin_add, Bin_sub, Bin_mul, Bin_eql, Bin_neq, Bin_lss, Bin_leq, Bin_gtr, Bin_geq, Bin_bool_eql, Bin_bool_neq, Bin_ptr_nil_eql, Bin_ptr_nil_neq, Un_not, Pick_bool, Gd_bool, If_bool, CallF_eq, MaxV_two, MinV_two, if_true, if_false, Bool.false_eq_true, Bool.true_eq_false, Bool.not_true, Bool.not_false, BEq.rfl]
  refine arena_Arena_Has.spec ha ?_
  simp only [hr, decide_false, go, Mv, NilC_at, Fld_at, add_mk, Nat.zero_add, Nat.add_zero, Bin_add, Bin_sub, Bin_mul, Bin_eql, Bin_neq, Bin_lss, Bin_leq, Bin_gtr, Bin_geq, Bin_bool_eql, Bin_bool_neq, Bin_ptr_nil_eql, Bin_ptr_nil_neq, Un_not, Pick_bool, Gd_bool, If_bool, CallF_eq, MaxV_two, MinV_two, if_true, if_false, Bool.false_eq_true, Bool.true_eq_false, Bool.not_true, Bool.not_false, BEq.rfl]; exact hk
end
theorem bradawllaw05_fit.spec {K : Ret} {h : Heap} (hk : ∀ h', Fr [] h h' → K (.bool true) h') : CallH Try.prog bradawllaw05_fit.id #[] K h := by
  refine bradawllaw05_fit.ok ?_
  simp only [bradawllaw05_fit.pt, go, Mv, NilC_at, Fld_at, add_mk, Nat.zero_add, Nat.add_zero, Bin_add, Bin_sub, Bin_mul, Bin_eql, Bin_neq, Bin_lss, Bin_leq, Bin_gtr, Bin_geq, Bin_bool_eql, Bin_bool_neq, Bin_ptr_nil_eql, Bin_ptr_nil_neq, Un_not, Pick_bool, Gd_bool, If_bool, CallF_eq, MaxV_two, MinV_two, if_true, if_false, Bool.false_eq_true, Bool.true_eq_false, Bool.not_true, Bool.not_false, BEq.rfl]
  refine arena_New.spec 10 fun g h1 F1 a1 f1 n1 => ?_
  simp only [go, Mv, NilC_at, Fld_at, add_mk, Nat.zero_add, Nat.add_zero, Bin_add, Bin_sub, Bin_mul, Bin_eql, Bin_neq, Bin_lss, Bin_leq, Bin_gtr, Bin_geq, Bin_bool_eql, Bin_bool_neq, Bin_ptr_nil_eql, Bin_ptr_nil_neq, Un_not, Pick_bool, Gd_bool, If_bool, CallF_eq, MaxV_two, MinV_two, if_true, if_false, Bool.false_eq_true, Bool.true_eq_false, Bool.not_true, Bool.not_false, BEq.rfl]
  refine BldS_two rfl rfl fun h2 o2 f2 s2 => ?_
  have a2 := a1.fr f2 (by simp)
  refine arena_Arena_Add.spec (c := [1, -2]) a2 (fun h' f => (o2.fr f fun b hb hm => ?_).rd) (by simp) (by decide) (by decide) (by decide) (fun hf => absurd hf.2 (by decide)) fun _ h3 F3 a3 f3 n3 => ?_
  · rw [List.mem_singleton] at hb
    have := a1.lt _ hm
    omega
  simp only [Ext_at, List.getElem?_toArray, List.getElem?_cons_zero, List.getElem?_cons_succ, Iv, go, Mv, NilC_at, Fld_at, add_mk, Nat.zero_add, Nat.add_zero, Bin_add, Bin_sub, Bin_mul, Bin_eql, Bin_neq, Bin_lss, Bin_leq, Bin_gtr, Bin_geq, Bin_bool_eql, Bin_bool_neq, Bin_ptr_nil_eql, Bin_ptr_nil_neq, Un_not, Pick_bool, Gd_bool, If_bool, CallF_eq, MaxV_two, MinV_two, if_true, if_false, Bool.false_eq_true, Bool.true_eq_false, Bool.not_true, Bool.not_false, BEq.rfl]
  refine BldS_two rfl rfl fun h4 o4 f4 s4 => ?_
  have a4 := a3.fr f4 (by simp)
  refine arena_Arena_Add.spec (c := [3, 4]) a4 (fun h' f => (o4.fr f fun b hb hm => ?_).rd) (by decide) (by decide) (by decide) (by decide) (fun hf => absurd hf.2 (by decide)) fun _ h5 F5 a5 f5 n5 => ?_
  · rw [List.mem_singleton] at hb
    have := a3.lt _ hm
    omega
  simp only [Ext_at, List.getElem?_toArray, List.getElem?_cons_zero, List.getElem?_cons_succ, Iv, go, Mv, NilC_at, Fld_at, add_mk, Nat.zero_add, Nat.add_zero, Bin_add, Bin_sub, Bin_mul, Bin_eql, Bin_neq, Bin_lss, Bin_leq, Bin_gtr, Bin_geq, Bin_bool_eql, Bin_bool_neq, Bin_ptr_nil_eql, Bin_ptr_nil_neq, Un_not, Pick_bool, Gd_bool, If_bool, CallF_eq, MaxV_two, MinV_two, if_true, if_false, Bool.false_eq_true, Bool.true_eq_false, Bool.not_true, Bool.not_false, BEq.rfl]
  refine arena_Arena_Add.spec (c := []) a5 (fun h' f => (Own.nil h').rd) (by decide) (by decide) (by decide) (by decide) (fun hf => ?_) fun hnf => absurd ?_ hnf
  rotate_left
  · exact ⟨by decide, by decide⟩
  simp only [Ext_at, List.getElem?_toArray, List.getElem?_cons_zero, List.getElem?_cons_succ, Iv, go, Mv, NilC_at, Fld_at, add_mk, Nat.zero_add, Nat.add_zero, Bin_add, Bin_sub, Bin_mul, Bin_eql, Bin_neq, Bin_lss, Bin_leq, Bin_gtr, Bin_geq, Bin_bool_eql, Bin_bool_neq, Bin_ptr_nil_eql, Bin_ptr_nil_neq, Un_not, Pick_bool, Gd_bool, If_bool, CallF_eq, MaxV_two, MinV_two, if_true, if_false, Bool.false_eq_true, Bool.true_eq_false, Bool.not_true, Bool.not_false, BEq.rfl]
  have t1 : (((Ar.add ⟨[], 10, []⟩ [1, -2] false 0).ws.length : Int) == 5) = true := by decide
  simp only [show ((([] : List Int).length : Int) == 0) = true from rfl, t1, go, Mv, NilC_at, Fld_at, add_mk, Nat.zero_add, Nat.add_zero, Bin_add, Bin_sub, Bin_mul, Bin_eql, Bin_neq, Bin_lss, Bin_leq, Bin_gtr, Bin_geq, Bin_bool_eql, Bin_bool_neq, Bin_ptr_nil_eql, Bin_ptr_nil_neq, Un_not, Pick_bool, Gd_bool, If_bool, CallF_eq, MaxV_two, MinV_two, if_true, if_false, Bool.false_eq_true, Bool.true_eq_false, Bool.not_true, Bool.not_false, BEq.rfl]
  refine arena_Arena_Words.spec a5 ?_
  have t1 : (((Ar.add (Ar.add ⟨[], 10, []⟩ [1, -2] false 0) [3, 4] true 2).ws.length : Int) == 10) = true := by decide
  simp only [Iv, t1, go, Mv, NilC_at, Fld_at, add_mk, Nat.zero_add, Nat.add_zero, Bin_add, Bin_sub, Bin_mul, Bin_eql, Bin_neq, Bin_lss, Bin_leq, Bin_gtr, Bin_geq, Bin_bool_eql, Bin_bool_neq, Bin_ptr_nil_eql, Bin_ptr_nil_neq, Un_not, Pick_bool, Gd_bool, If_bool, CallF_eq, MaxV_two, MinV_two, if_true, if_false, Bool.false_eq_true, Bool.true_eq_false, Bool.not_true, Bool.not_false, BEq.rfl]
  refine arena_Arena_Count.spec a5 ?_
  have t1 : (((Ar.add (Ar.add ⟨[], 10, []⟩ [1, -2] false 0) [3, 4] true 2).lv.length : Int) == 2) = true := by decide
  simp only [Iv, t1, go, Mv, NilC_at, Fld_at, add_mk, Nat.zero_add, Nat.add_zero, Bin_add, Bin_sub, Bin_mul, Bin_eql, Bin_neq, Bin_lss, Bin_leq, Bin_gtr, Bin_geq, Bin_bool_eql, Bin_bool_neq, Bin_ptr_nil_eql, Bin_ptr_nil_neq, Un_not, Pick_bool, Gd_bool, If_bool, CallF_eq, MaxV_two, MinV_two, if_true, if_false, Bool.false_eq_true, Bool.true_eq_false, Bool.not_true, Bool.not_false, BEq.rfl]
  refine arena_Arena_Lit.yes (x := 1099511627778) (y := 4) a5 (by decide) (by decide) (by decide) (by decide) 1 (by decide) (by decide) (by decide) ?_
  simp only [Iv, go, Mv, NilC_at, Fld_at, add_mk, Nat.zero_add, Nat.add_zero, Bin_add, Bin_sub, Bin_mul, Bin_eql, Bin_neq, Bin_lss, Bin_leq, Bin_gtr, Bin_geq, Bin_bool_eql, Bin_bool_neq, Bin_ptr_nil_eql, Bin_ptr_nil_neq, Un_not, Pick_bool, Gd_bool, If_bool, CallF_eq, MaxV_two, MinV_two, if_true, if_false, Bool.false_eq_true, Bool.true_eq_false, Bool.not_true, Bool.not_false, BEq.rfl]
  refine arena_Arena_Learned.yes (n := 2) (l := true) a5 (by decide) (by decide) (by decide) (by decide) (by decide) ?_
  simp only [go, Mv, NilC_at, Fld_at, add_mk, Nat.zero_add, Nat.add_zero, Bin_add, Bin_sub, Bin_mul, Bin_eql, Bin_neq, Bin_lss, Bin_leq, Bin_gtr, Bin_geq, Bin_bool_eql, Bin_bool_neq, Bin_ptr_nil_eql, Bin_ptr_nil_neq, Un_not, Pick_bool, Gd_bool, If_bool, CallF_eq, MaxV_two, MinV_two, if_true, if_false, Bool.false_eq_true, Bool.true_eq_false, Bool.not_true, Bool.not_false, BEq.rfl]
  refine arena_Arena_Glue.yes (x := 2) a5 (by decide) (by decide) (by decide) (by decide) ?_
  simp only [Iv, go, Mv, NilC_at, Fld_at, add_mk, Nat.zero_add, Nat.add_zero, Bin_add, Bin_sub, Bin_mul, Bin_eql, Bin_neq, Bin_lss, Bin_leq, Bin_gtr, Bin_geq, Bin_bool_eql, Bin_bool_neq, Bin_ptr_nil_eql, Bin_ptr_nil_neq, Un_not, Pick_bool, Gd_bool, If_bool, CallF_eq, MaxV_two, MinV_two, if_true, if_false, Bool.false_eq_true, Bool.true_eq_false, Bool.not_true, Bool.not_false, BEq.rfl]
  refine hk h5 ?_
  have g1 : ∀ x ∈ F1, x ∈ ([] : List Nat) ∨ h.size ≤ x := fun x hx => .inr (n1 x hx)
  have g3 : ∀ x ∈ F3, x ∈ ([] : List Nat) ∨ h.size ≤ x := fun x hx => .inr ((n3 x hx).elim (n1 x) fun e => Nat.le_trans (f1.trans f2).size e)
  exact (((f1.trans f2).trans' f3 g1).trans f4).trans' f5 g3
end Go.Proofs.Ythekbpaekopmfaa
