/- The table, as the walk uses it. Conditions: those typed ahead of each theorem. -/
import Derived.Test.YtonngdjfnnibaaaRng
import Derived.Test.YtonngdjfnnibaaaCf
namespace Go.Proofs.Ytonngdjfnnibaaa
open Go.Pt
set_option linter.unusedVariables false
set_option linter.unusedSimpArgs false
/-- The weight of k breaks at a kind and a base. -/
def expW (base : Int) : Nat → Int
  | 0 => 1099511627776
  | k + 1 => max (expW base k * 16 / base) 1
def wt (kind base : Int) (k : Nat) : Int := if kind = 0 then max (1099511627776 / ((base + k) * (base + k) * (base + k))) 1 else expW base k
theorem expW_bd (base : Int) (hb : 16 ≤ base) : ∀ k, 1 ≤ expW base k ∧ expW base k ≤ 1099511627776
  | 0 => by simp [expW]
  | k + 1 => by
    have ⟨h1, h2⟩ := expW_bd base hb k
    unfold expW
    refine ⟨by omega, ?_⟩
    have : expW base k * 16 / base ≤ expW base k := by
      apply Int.ediv_le_of_le_mul (by omega)
      exact Int.mul_le_mul_of_nonneg_left hb (by omega)
    omega
/-- A kind and a base that may be. -/
def Fits (kind base : Int) : Prop := (kind = 0 ∧ 1 ≤ base ∧ base ≤ 64) ∨ (kind = 1 ∧ 17 ≤ base ∧ base ≤ 256)
theorem cube {n : Int} (h1 : 1 ≤ n) (h2 : n ≤ 127) : 1 ≤ n * n * n ∧ n * n * n ≤ 2048383 ∧ 1 ≤ n * n ∧ n * n ≤ 16129 := by
  have a1 : 1 * 1 ≤ n * n := Int.mul_le_mul h1 h1 (by omega) (by omega)
  have a2 : n * n ≤ 127 * 127 := Int.mul_le_mul h2 h2 (by omega) (by omega)
  have a3 : 1 * 1 ≤ n * n * n := Int.mul_le_mul (by omega) h1 (by omega) (by omega)
  have a4 : n * n * n ≤ 16129 * 127 := Int.mul_le_mul (by omega) h2 (by omega) (by omega)
  omega
theorem wt_bd {kind base : Int} (hf : Fits kind base) (k : Nat) (hk : k < 64) : 1 ≤ wt kind base k ∧ wt kind base k ≤ 1099511627776 := by
  unfold wt
  rcases hf with ⟨rfl, h1, h2⟩ | ⟨rfl, h1, h2⟩
  · rw [if_pos rfl]
    have hc := cube (n := base + k) (by omega) (by omega)
    have : 1099511627776 / ((base + k) * (base + k) * (base + k)) ≤ 1099511627776 := Int.ediv_le_self _ (by omega)
    omega
  · rw [if_neg (by omega)]
    exact expW_bd base (by omega) k
def tab (kind base : Int) (i : Nat) : List Value := (List.range 64).map fun j => if j < i then Iv (wt kind base j) else Iv 0
theorem tab_len (kind base : Int) (i : Nat) : (tab kind base i).length = 64 := by simp [tab]
theorem tab_get (kind base : Int) (i j : Nat) (hj : j < 64) : (tab kind base i)[j]? = some (if j < i then Iv (wt kind base j) else Iv 0) := by
  simp [tab, List.getElem?_map, List.getElem?_range hj]
theorem tab_set (kind base : Int) (i : Nat) (hi : i < 64) : (tab kind base i).set i (Iv (wt kind base i)) = tab kind base (i + 1) := by
  apply List.ext_getElem?
  intro j
  rw [List.getElem?_set]
  by_cases hj : j < 64
  · rw [tab_get _ _ _ _ hj, tab_get _ _ _ _ hj, tab_len]
    by_cases e : i = j
    · subst e; simp [hi]
    · have : j < i ↔ j < i + 1 := by omega
      simp [e, this]
  · have h1 : (tab kind base i)[j]? = none := List.getElem?_eq_none (by rw [tab_len]; omega)
    have h2 : (tab kind base (i + 1))[j]? = none := List.getElem?_eq_none (by rw [tab_len]; omega)
    rw [h1, h2, if_neg (by omega)]
theorem IdxA_blk {len g : Nat} {k : IntKind} {n : Int} {K : Ret} {h : Heap} (h0 : 0 ≤ n) (h1 : n < len) (hk : K (.pointer (some ⟨g, n.toNat, none⟩)) h) : IdxA len 1 (.pointer (some ⟨g, 0, none⟩)) (.int k n) K h := by
  rw [IdxA_at, add_mk, Nat.mul_one, Nat.zero_add]; exact ⟨⟨h0, h1⟩, hk⟩
/-- A table in memory. -/
def TabAt (h : Heap) (g : Nat) (kind base : Int) : Prop := Blk h g (tab kind base 64)
theorem table_New.spec {kind base : Int} (hf : Fits kind base) {K : Ret} {h : Heap} (hk : ∀ g h', TabAt h' g kind base → Fr [] h h' → h.size ≤ g → K (.pointer (some ⟨g, 0, none⟩)) h') : CallH Try.prog table_New.id #[Iv kind, Iv base] K h := by
  refine table_New.ok ?_
  simp only [table_New.pt, Iv, go, Mv, NilC_at, Fld_at, add_mk, Nat.zero_add, Nat.add_zero, Bin_add, Bin_sub, Bin_mul, Bin_eql, Bin_neq, Bin_lss, Bin_leq, Bin_gtr, Bin_geq, Bin_bool_eql, Bin_bool_neq, Bin_ptr_nil_eql, Bin_ptr_nil_neq, Un_not, Pick_bool, Gd_bool, Gd_undef, If_bool, CallF_eq, MaxV_two, MinV_two, if_true, if_false, Bool.false_eq_true, Bool.true_eq_false, Bool.not_true, Bool.not_false, BEq.rfl]
  rw [Bld_eq, fill_nil]
  refine New_blk fun h1 b1 f1 s1 => ?_
  have b1' : Blk h1 h.size (tab kind base 0) := b1
  refine Lp5 (σ := Nat) (fun i a b c d e h' => Fr [] h h' ∧ Blk h' h.size (tab kind base i) ∧ i ≤ 64 ∧ a = .int .i64 kind ∧ b = .int .i64 base ∧ c = .pointer (some ⟨h.size, 0, none⟩) ∧ (∃ x, d = .int .i64 x ∧ (kind ≠ 0 → 0 < i → x = wt kind base (i - 1))) ∧ e = .int .i64 (i : Int)) (fun i => 64 - i) 0
    ⟨f1, b1', by omega, rfl, rfl, rfl, ⟨0, rfl, by omega⟩, rfl⟩ ?_
  rintro i a b c d e h2 ⟨f2, b2, hi, rfl, rfl, rfl, ⟨x, rfl, hx⟩, rfl⟩ X hX
  simp only [go, Mv, NilC_at, Fld_at, add_mk, Nat.zero_add, Nat.add_zero, Bin_add, Bin_sub, Bin_mul, Bin_eql, Bin_neq, Bin_lss, Bin_leq, Bin_gtr, Bin_geq, Bin_bool_eql, Bin_bool_neq, Bin_ptr_nil_eql, Bin_ptr_nil_neq, Un_not, Pick_bool, Gd_bool, Gd_undef, If_bool, CallF_eq, MaxV_two, MinV_two, if_true, if_false, Bool.false_eq_true, Bool.true_eq_false, Bool.not_true, Bool.not_false, BEq.rfl]
  by_cases hd : ¬ (i : Int) < 64
  · simp only [decide_eq_false hd, go, Mv, NilC_at, Fld_at, add_mk, Nat.zero_add, Nat.add_zero, Bin_add, Bin_sub, Bin_mul, Bin_eql, Bin_neq, Bin_lss, Bin_leq, Bin_gtr, Bin_geq, Bin_bool_eql, Bin_bool_neq, Bin_ptr_nil_eql, Bin_ptr_nil_neq, Un_not, Pick_bool, Gd_bool, Gd_undef, If_bool, CallF_eq, MaxV_two, MinV_two, if_true, if_false, Bool.false_eq_true, Bool.true_eq_false, Bool.not_true, Bool.not_false, BEq.rfl]
    have : i = 64 := by omega
    subst this
    exact hk _ _ b2 f2 (Nat.le_refl _)
  have hd : (i : Int) < 64 := by omega
  have hi64 : i < 64 := by omega
  simp only [decide_eq_true hd, go, Mv, NilC_at, Fld_at, add_mk, Nat.zero_add, Nat.add_zero, Bin_add, Bin_sub, Bin_mul, Bin_eql, Bin_neq, Bin_lss, Bin_leq, Bin_gtr, Bin_geq, Bin_bool_eql, Bin_bool_neq, Bin_ptr_nil_eql, Bin_ptr_nil_neq, Un_not, Pick_bool, Gd_bool, Gd_undef, If_bool, CallF_eq, MaxV_two, MinV_two, if_true, if_false, Bool.false_eq_true, Bool.true_eq_false, Bool.not_true, Bool.not_false, BEq.rfl]
  have wi : IntKind.i64.wrap ((i : Int) + 1) = ((i + 1 : Nat) : Int) := by rw [IntKind.wrap_i64]; omega
  refine Jn5 (fun a b c d e h3 => Fr [h.size] h2 h3 ∧ Blk h3 h.size (tab kind base (i + 1)) ∧ a = .int .i64 kind ∧ b = .int .i64 base ∧ c = .pointer (some ⟨h.size, 0, none⟩) ∧ (∃ x, d = .int .i64 x ∧ (kind ≠ 0 → x = wt kind base i)) ∧ e = .int .i64 (i : Int)) ?_ ?_
  · intro J hJ
    rcases hf with ⟨rfl, g1, g2⟩ | ⟨rfl, g1, g2⟩
    · have ⟨c1, c2, c3, c4⟩ := cube (n := base + i) (by omega) (by omega)
      have e1 : IntKind.i64.wrap (base + (i : Int)) = base + i := by rw [IntKind.wrap_i64]; omega
      have e2 : IntKind.i64.wrap ((base + (i : Int)) * (base + i)) = (base + i) * (base + i) := by rw [IntKind.wrap_i64]; omega
      have e3 : IntKind.i64.wrap ((base + (i : Int)) * (base + i) * (base + i)) = (base + i) * (base + i) * (base + i) := by rw [IntKind.wrap_i64]; omega
      have hw := wt_bd (kind := 0) (base := base) (.inl ⟨rfl, g1, g2⟩) i hi64
      simp only [show ((0 : Int) == 0) = true from rfl, e1, e2, e3, go, Mv, NilC_at, Fld_at, add_mk, Nat.zero_add, Nat.add_zero, Bin_add, Bin_sub, Bin_mul, Bin_eql, Bin_neq, Bin_lss, Bin_leq, Bin_gtr, Bin_geq, Bin_bool_eql, Bin_bool_neq, Bin_ptr_nil_eql, Bin_ptr_nil_neq, Un_not, Pick_bool, Gd_bool, Gd_undef, If_bool, CallF_eq, MaxV_two, MinV_two, if_true, if_false, Bool.false_eq_true, Bool.true_eq_false, Bool.not_true, Bool.not_false, BEq.rfl]
      rw [Bin_quo _ _ _ _ (by omega), Int.tdiv_eq_ediv_of_nonneg (by omega)]
      have hq0 : 0 ≤ 1099511627776 / ((base + (i : Int)) * (base + i) * (base + i)) := Int.ediv_nonneg (by omega) (by omega)
      have hq1 : 1099511627776 / ((base + (i : Int)) * (base + i) * (base + i)) ≤ 1099511627776 := Int.ediv_le_self _ (by omega)
      have e4 : (if (1 : Int) > IntKind.i64.wrap (1099511627776 / ((base + (i : Int)) * (base + i) * (base + i))) then 1 else IntKind.i64.wrap (1099511627776 / ((base + (i : Int)) * (base + i) * (base + i)))) = wt 0 base i := by
        rw [IntKind.wrap_i64]; simp only [wt, if_true]; omega
      simp only [e4, go, Mv, NilC_at, Fld_at, add_mk, Nat.zero_add, Nat.add_zero, Bin_add, Bin_sub, Bin_mul, Bin_eql, Bin_neq, Bin_lss, Bin_leq, Bin_gtr, Bin_geq, Bin_bool_eql, Bin_bool_neq, Bin_ptr_nil_eql, Bin_ptr_nil_neq, Un_not, Pick_bool, Gd_bool, Gd_undef, If_bool, CallF_eq, MaxV_two, MinV_two, if_true, if_false, Bool.false_eq_true, Bool.true_eq_false, Bool.not_true, Bool.not_false, BEq.rfl]
      refine IdxA_blk (by omega) hd (St_blk b2 (by rw [tab_len]; omega) rfl fun h3 b3 f3 => hJ _ _ _ _ _ h3 ⟨f3, ?_, rfl, rfl, rfl, ⟨_, rfl, by simp⟩, rfl⟩)
      rw [Int.toNat_natCast] at b3
      rw [← tab_set _ _ _ hi64]; exact b3
    · simp only [show ((1 : Int) == 0) = false from rfl, go, Mv, NilC_at, Fld_at, add_mk, Nat.zero_add, Nat.add_zero, Bin_add, Bin_sub, Bin_mul, Bin_eql, Bin_neq, Bin_lss, Bin_leq, Bin_gtr, Bin_geq, Bin_bool_eql, Bin_bool_neq, Bin_ptr_nil_eql, Bin_ptr_nil_neq, Un_not, Pick_bool, Gd_bool, Gd_undef, If_bool, CallF_eq, MaxV_two, MinV_two, if_true, if_false, Bool.false_eq_true, Bool.true_eq_false, Bool.not_true, Bool.not_false, BEq.rfl]
      refine Jn5 (fun a b c d e h3 => Fr [h.size] h2 h3 ∧ Blk h3 h.size (tab 1 base (i + 1)) ∧ a = .int .i64 1 ∧ b = .int .i64 base ∧ c = .pointer (some ⟨h.size, 0, none⟩) ∧ d = .int .i64 (i : Int) ∧ e = .int .i64 (i : Int)) ?_ ?_
      · intro J2 hJ2
        by_cases z : i = 0
        · subst z
          simp only [show (((0 : Nat) : Int) == 0) = true from rfl, go, Mv, NilC_at, Fld_at, add_mk, Nat.zero_add, Nat.add_zero, Bin_add, Bin_sub, Bin_mul, Bin_eql, Bin_neq, Bin_lss, Bin_leq, Bin_gtr, Bin_geq, Bin_bool_eql, Bin_bool_neq, Bin_ptr_nil_eql, Bin_ptr_nil_neq, Un_not, Pick_bool, Gd_bool, Gd_undef, If_bool, CallF_eq, MaxV_two, MinV_two, if_true, if_false, Bool.false_eq_true, Bool.true_eq_false, Bool.not_true, Bool.not_false, BEq.rfl]
          refine IdxA_blk (by omega) hd (St_blk b2 (by rw [tab_len]; omega) rfl fun h3 b3 f3 => hJ2 _ _ _ _ _ h3 ⟨f3, ?_, rfl, rfl, rfl, rfl, rfl⟩)
          rw [← tab_set _ _ _ hi64]; exact b3
        · have t : ((i : Int) == 0) = false := by simpa using z
          have hx' := hx (by decide) (by omega)
          subst hx'
          have hb := wt_bd (kind := 1) (base := base) (.inr ⟨rfl, g1, g2⟩) (i - 1) (by omega)
          have hb2 := wt_bd (kind := 1) (base := base) (.inr ⟨rfl, g1, g2⟩) i (by omega)
          have e1 : IntKind.i64.wrap (wt 1 base (i - 1) * 16) = wt 1 base (i - 1) * 16 := by rw [IntKind.wrap_i64]; omega
          simp only [t, e1, go, Mv, NilC_at, Fld_at, add_mk, Nat.zero_add, Nat.add_zero, Bin_add, Bin_sub, Bin_mul, Bin_eql, Bin_neq, Bin_lss, Bin_leq, Bin_gtr, Bin_geq, Bin_bool_eql, Bin_bool_neq, Bin_ptr_nil_eql, Bin_ptr_nil_neq, Un_not, Pick_bool, Gd_bool, Gd_undef, If_bool, CallF_eq, MaxV_two, MinV_two, if_true, if_false, Bool.false_eq_true, Bool.true_eq_false, Bool.not_true, Bool.not_false, BEq.rfl]
          rw [Bin_quo _ _ _ _ (by omega), Int.tdiv_eq_ediv_of_nonneg (by omega)]
          have e5 : wt 1 base i = max (wt 1 base (i - 1) * 16 / base) 1 := by
            obtain ⟨m, rfl⟩ : ∃ m, i = m + 1 := ⟨i - 1, by omega⟩
            rfl
          have e4 : (if (1 : Int) > IntKind.i64.wrap (wt 1 base (i - 1) * 16 / base) then 1 else IntKind.i64.wrap (wt 1 base (i - 1) * 16 / base)) = wt 1 base i := by
            have hq : 0 ≤ wt 1 base (i - 1) * 16 / base := Int.ediv_nonneg (by omega) (by omega)
            rw [IntKind.wrap_i64]; omega
          simp only [e4, go, Mv, NilC_at, Fld_at, add_mk, Nat.zero_add, Nat.add_zero, Bin_add, Bin_sub, Bin_mul, Bin_eql, Bin_neq, Bin_lss, Bin_leq, Bin_gtr, Bin_geq, Bin_bool_eql, Bin_bool_neq, Bin_ptr_nil_eql, Bin_ptr_nil_neq, Un_not, Pick_bool, Gd_bool, Gd_undef, If_bool, CallF_eq, MaxV_two, MinV_two, if_true, if_false, Bool.false_eq_true, Bool.true_eq_false, Bool.not_true, Bool.not_false, BEq.rfl]
          refine IdxA_blk (by omega) hd (St_blk b2 (by rw [tab_len]; omega) rfl fun h3 b3 f3 => hJ2 _ _ _ _ _ h3 ⟨f3, ?_, rfl, rfl, rfl, rfl, rfl⟩)
          rw [Int.toNat_natCast] at b3
          rw [← tab_set _ _ _ hi64]; exact b3
      · rintro a b c d e h3 ⟨f3, b3, rfl, rfl, rfl, rfl, rfl⟩
        simp only [go, Mv, NilC_at, Fld_at, add_mk, Nat.zero_add, Nat.add_zero, Bin_add, Bin_sub, Bin_mul, Bin_eql, Bin_neq, Bin_lss, Bin_leq, Bin_gtr, Bin_geq, Bin_bool_eql, Bin_bool_neq, Bin_ptr_nil_eql, Bin_ptr_nil_neq, Un_not, Pick_bool, Gd_bool, Gd_undef, If_bool, CallF_eq, MaxV_two, MinV_two, if_true, if_false, Bool.false_eq_true, Bool.true_eq_false, Bool.not_true, Bool.not_false, BEq.rfl]
        refine IdxA_blk (by omega) hd (Ld_blk b3 (by rw [Int.toNat_natCast, tab_get _ _ _ _ hi64, if_pos (by omega)]) ?_)
        exact hJ _ _ _ _ _ h3 ⟨f3, b3, rfl, rfl, rfl, ⟨_, rfl, fun _ => rfl⟩, rfl⟩
  · rintro a b c d e h3 ⟨f3, b3, rfl, rfl, rfl, ⟨y, rfl, hy⟩, rfl⟩
    simp only [wi, go, Mv, NilC_at, Fld_at, add_mk, Nat.zero_add, Nat.add_zero, Bin_add, Bin_sub, Bin_mul, Bin_eql, Bin_neq, Bin_lss, Bin_leq, Bin_gtr, Bin_geq, Bin_bool_eql, Bin_bool_neq, Bin_ptr_nil_eql, Bin_ptr_nil_neq, Un_not, Pick_bool, Gd_bool, Gd_undef, If_bool, CallF_eq, MaxV_two, MinV_two, if_true, if_false, Bool.false_eq_true, Bool.true_eq_false, Bool.not_true, Bool.not_false, BEq.rfl]
    exact hX (i + 1) _ _ _ _ _ h3 ⟨f2.trans' f3 (by simp), b3, by omega, rfl, rfl, rfl, ⟨y, rfl, fun h0 _ => hy h0⟩, rfl⟩ (by omega)
/-- The place in the table of so many breaks. -/
def clampK (k : Int) : Nat := (min (max k 0) 63).toNat
theorem clampK_lt (k : Int) : clampK k < 64 := by unfold clampK; omega
theorem table_Table_Weight.spec {g : Nat} {kind base : Int} (k : Int) {K : Ret} {h : Heap} (ht : TabAt h g kind base) (hk : K (Iv (wt kind base (clampK k))) h) : CallH Try.prog table_Table_Weight.id #[.pointer (some ⟨g, 0, none⟩), Iv k] K h := by
  refine table_Table_Weight.ok ?_
  simp only [table_Table_Weight.pt, Iv, go, Mv, NilC_at, Fld_at, add_mk, Nat.zero_add, Nat.add_zero, Bin_add, Bin_sub, Bin_mul, Bin_eql, Bin_neq, Bin_lss, Bin_leq, Bin_gtr, Bin_geq, Bin_bool_eql, Bin_bool_neq, Bin_ptr_nil_eql, Bin_ptr_nil_neq, Un_not, Pick_bool, Gd_bool, Gd_undef, If_bool, CallF_eq, MaxV_two, MinV_two, if_true, if_false, Bool.false_eq_true, Bool.true_eq_false, Bool.not_true, Bool.not_false, BEq.rfl]
  have e1 : (if (0 : Int) > k then 0 else k) = max k 0 := by split <;> omega
  have e2 : (if 63 < max k 0 then 63 else max k 0) = min (max k 0) 63 := by split <;> omega
  rw [e1, e2]
  refine IdxA_blk (by omega) (by omega) (Ld_blk ht ?_ hk)
  have := clampK_lt k
  rw [show (min (max k 0) 63).toNat = clampK k from rfl, tab_get _ _ _ _ this, if_pos this]
theorem table_Right.spec (kind base : Int) {K : Ret} {h : Heap} (hk : ∀ b : Bool, (b = true ↔ Fits kind base) → K (.bool b) h) : CallH Try.prog table_Right.id #[Iv kind, Iv base] K h := by
  refine table_Right.ok ?_
  simp only [table_Right.pt, Iv, go, Mv, NilC_at, Fld_at, add_mk, Nat.zero_add, Nat.add_zero, Bin_add, Bin_sub, Bin_mul, Bin_eql, Bin_neq, Bin_lss, Bin_leq, Bin_gtr, Bin_geq, Bin_bool_eql, Bin_bool_neq, Bin_ptr_nil_eql, Bin_ptr_nil_neq, Un_not, Pick_bool, Gd_bool, Gd_undef, If_bool, CallF_eq, MaxV_two, MinV_two, if_true, if_false, Bool.false_eq_true, Bool.true_eq_false, Bool.not_true, Bool.not_false, BEq.rfl]
  by_cases k0 : kind = 0
  · have t : (kind == 0) = true := by simpa using k0
    simp only [t, go, Mv, NilC_at, Fld_at, add_mk, Nat.zero_add, Nat.add_zero, Bin_add, Bin_sub, Bin_mul, Bin_eql, Bin_neq, Bin_lss, Bin_leq, Bin_gtr, Bin_geq, Bin_bool_eql, Bin_bool_neq, Bin_ptr_nil_eql, Bin_ptr_nil_neq, Un_not, Pick_bool, Gd_bool, Gd_undef, If_bool, CallF_eq, MaxV_two, MinV_two, if_true, if_false, Bool.false_eq_true, Bool.true_eq_false, Bool.not_true, Bool.not_false, BEq.rfl]
    by_cases b1 : base ≥ 1
    · simp only [decide_eq_true b1, go, Mv, NilC_at, Fld_at, add_mk, Nat.zero_add, Nat.add_zero, Bin_add, Bin_sub, Bin_mul, Bin_eql, Bin_neq, Bin_lss, Bin_leq, Bin_gtr, Bin_geq, Bin_bool_eql, Bin_bool_neq, Bin_ptr_nil_eql, Bin_ptr_nil_neq, Un_not, Pick_bool, Gd_bool, Gd_undef, If_bool, CallF_eq, MaxV_two, MinV_two, if_true, if_false, Bool.false_eq_true, Bool.true_eq_false, Bool.not_true, Bool.not_false, BEq.rfl]
      refine hk _ ?_
      simp only [decide_eq_true_eq, Fits]; omega
    · simp only [decide_eq_false b1, go, Mv, NilC_at, Fld_at, add_mk, Nat.zero_add, Nat.add_zero, Bin_add, Bin_sub, Bin_mul, Bin_eql, Bin_neq, Bin_lss, Bin_leq, Bin_gtr, Bin_geq, Bin_bool_eql, Bin_bool_neq, Bin_ptr_nil_eql, Bin_ptr_nil_neq, Un_not, Pick_bool, Gd_bool, Gd_undef, If_bool, CallF_eq, MaxV_two, MinV_two, if_true, if_false, Bool.false_eq_true, Bool.true_eq_false, Bool.not_true, Bool.not_false, BEq.rfl]
      refine hk _ ?_
      simp only [Bool.false_eq_true, false_iff, Fits]; omega
  have t : (kind == 0) = false := by simpa using k0
  simp only [t, go, Mv, NilC_at, Fld_at, add_mk, Nat.zero_add, Nat.add_zero, Bin_add, Bin_sub, Bin_mul, Bin_eql, Bin_neq, Bin_lss, Bin_leq, Bin_gtr, Bin_geq, Bin_bool_eql, Bin_bool_neq, Bin_ptr_nil_eql, Bin_ptr_nil_neq, Un_not, Pick_bool, Gd_bool, Gd_undef, If_bool, CallF_eq, MaxV_two, MinV_two, if_true, if_false, Bool.false_eq_true, Bool.true_eq_false, Bool.not_true, Bool.not_false, BEq.rfl]
  by_cases k1 : kind = 1
  · have t : (kind == 1) = true := by simpa using k1
    simp only [t, go, Mv, NilC_at, Fld_at, add_mk, Nat.zero_add, Nat.add_zero, Bin_add, Bin_sub, Bin_mul, Bin_eql, Bin_neq, Bin_lss, Bin_leq, Bin_gtr, Bin_geq, Bin_bool_eql, Bin_bool_neq, Bin_ptr_nil_eql, Bin_ptr_nil_neq, Un_not, Pick_bool, Gd_bool, Gd_undef, If_bool, CallF_eq, MaxV_two, MinV_two, if_true, if_false, Bool.false_eq_true, Bool.true_eq_false, Bool.not_true, Bool.not_false, BEq.rfl]
    by_cases b1 : base ≥ 17
    · simp only [decide_eq_true b1, go, Mv, NilC_at, Fld_at, add_mk, Nat.zero_add, Nat.add_zero, Bin_add, Bin_sub, Bin_mul, Bin_eql, Bin_neq, Bin_lss, Bin_leq, Bin_gtr, Bin_geq, Bin_bool_eql, Bin_bool_neq, Bin_ptr_nil_eql, Bin_ptr_nil_neq, Un_not, Pick_bool, Gd_bool, Gd_undef, If_bool, CallF_eq, MaxV_two, MinV_two, if_true, if_false, Bool.false_eq_true, Bool.true_eq_false, Bool.not_true, Bool.not_false, BEq.rfl]
      refine hk _ ?_
      simp only [decide_eq_true_eq, Fits]; omega
    · simp only [decide_eq_false b1, go, Mv, NilC_at, Fld_at, add_mk, Nat.zero_add, Nat.add_zero, Bin_add, Bin_sub, Bin_mul, Bin_eql, Bin_neq, Bin_lss, Bin_leq, Bin_gtr, Bin_geq, Bin_bool_eql, Bin_bool_neq, Bin_ptr_nil_eql, Bin_ptr_nil_neq, Un_not, Pick_bool, Gd_bool, Gd_undef, If_bool, CallF_eq, MaxV_two, MinV_two, if_true, if_false, Bool.false_eq_true, Bool.true_eq_false, Bool.not_true, Bool.not_false, BEq.rfl]
      refine hk _ ?_
      simp only [Bool.false_eq_true, false_iff, Fits]; omega
  · have t : (kind == 1) = false := by simpa using k1
    simp only [t, go, Mv, NilC_at, Fld_at, add_mk, Nat.zero_add, Nat.add_zero, Bin_add, Bin_sub, Bin_mul, Bin_eql, Bin_neq, Bin_lss, Bin_leq, Bin_gtr, Bin_geq, Bin_bool_eql, Bin_bool_neq, Bin_ptr_nil_eql, Bin_ptr_nil_neq, Un_not, Pick_bool, Gd_bool, Gd_undef, If_bool, CallF_eq, MaxV_two, MinV_two, if_true, if_false, Bool.false_eq_true, Bool.true_eq_false, Bool.not_true, Bool.not_false, BEq.rfl]
    refine hk _ ?_
    simp only [Bool.false_eq_true, false_iff, Fits]; omega
def wk (kind base k : Int) : Int := wt kind base (clampK k)
theorem wk_bd {kind base : Int} (hf : Fits kind base) (k : Int) : 1 ≤ wk kind base k ∧ wk kind base k ≤ 1099511627776 := wt_bd hf _ (clampK_lt k)
def tot (kind base : Int) (ks : List Int) : Int := (ks.map (wk kind base)).sum
theorem tot_bd {kind base : Int} (hf : Fits kind base) : ∀ ks : List Int, (ks.length : Int) ≤ tot kind base ks ∧ tot kind base ks ≤ 1099511627776 * ks.length
  | [] => by simp [tot]
  | k :: ks => by
    have h1 := tot_bd hf ks
    have h2 := wk_bd hf k
    simp only [tot, List.map_cons, List.sum_cons, List.length_cons] at *
    omega
theorem tot_snoc (kind base : Int) (ks : List Int) (k : Int) : tot kind base (ks ++ [k]) = tot kind base ks + wk kind base k := by simp [tot]
theorem table_Table_Total.spec {g : Nat} {kind base : Int} (hf : Fits kind base) {v : Value} {ks : List Int} {K : Ret} {h : Heap} (ht : TabAt h g kind base) (hv : Rd h v (ks.map Iv)) (hl : ks.length ≤ 4000000) (hk : K (Iv (tot kind base ks)) h) : CallH Try.prog table_Table_Total.id #[.pointer (some ⟨g, 0, none⟩), v] K h := by
  refine table_Table_Total.ok ?_
  simp only [table_Table_Total.pt, go, Mv, NilC_at, Fld_at, add_mk, Nat.zero_add, Nat.add_zero, Bin_add, Bin_sub, Bin_mul, Bin_eql, Bin_neq, Bin_lss, Bin_leq, Bin_gtr, Bin_geq, Bin_bool_eql, Bin_bool_neq, Bin_ptr_nil_eql, Bin_ptr_nil_neq, Un_not, Pick_bool, Gd_bool, Gd_undef, If_bool, CallF_eq, MaxV_two, MinV_two, if_true, if_false, Bool.false_eq_true, Bool.true_eq_false, Bool.not_true, Bool.not_false, BEq.rfl]
  refine hv.len ?_
  rw [List.length_map]
  refine Lp5 (σ := Nat) (fun i a b c d e h' => h = h' ∧ i ≤ ks.length ∧ a = .pointer (some ⟨g, 0, none⟩) ∧ b = .int .i64 (tot kind base (ks.take i)) ∧ v = c ∧ d = .int .i64 (ks.length : Int) ∧ e = .int .i64 (i : Int)) (fun i => ks.length - i) 0
    ⟨rfl, Nat.zero_le _, rfl, rfl, rfl, rfl, rfl⟩ ?_
  rintro i a b c d e h2 ⟨rfl, hi, rfl, rfl, rfl, rfl, rfl⟩ X hX
  simp only [go, Mv, NilC_at, Fld_at, add_mk, Nat.zero_add, Nat.add_zero, Bin_add, Bin_sub, Bin_mul, Bin_eql, Bin_neq, Bin_lss, Bin_leq, Bin_gtr, Bin_geq, Bin_bool_eql, Bin_bool_neq, Bin_ptr_nil_eql, Bin_ptr_nil_neq, Un_not, Pick_bool, Gd_bool, Gd_undef, If_bool, CallF_eq, MaxV_two, MinV_two, if_true, if_false, Bool.false_eq_true, Bool.true_eq_false, Bool.not_true, Bool.not_false, BEq.rfl]
  by_cases hd : ¬ (i : Int) < (ks.length : Int)
  · simp only [decide_eq_false hd, go, Mv, NilC_at, Fld_at, add_mk, Nat.zero_add, Nat.add_zero, Bin_add, Bin_sub, Bin_mul, Bin_eql, Bin_neq, Bin_lss, Bin_leq, Bin_gtr, Bin_geq, Bin_bool_eql, Bin_bool_neq, Bin_ptr_nil_eql, Bin_ptr_nil_neq, Un_not, Pick_bool, Gd_bool, Gd_undef, If_bool, CallF_eq, MaxV_two, MinV_two, if_true, if_false, Bool.false_eq_true, Bool.true_eq_false, Bool.not_true, Bool.not_false, BEq.rfl]
    rw [List.take_of_length_le (by omega)]; exact hk
  have hd : (i : Int) < (ks.length : Int) := by omega
  simp only [decide_eq_true hd, go, Mv, NilC_at, Fld_at, add_mk, Nat.zero_add, Nat.add_zero, Bin_add, Bin_sub, Bin_mul, Bin_eql, Bin_neq, Bin_lss, Bin_leq, Bin_gtr, Bin_geq, Bin_bool_eql, Bin_bool_neq, Bin_ptr_nil_eql, Bin_ptr_nil_neq, Un_not, Pick_bool, Gd_bool, Gd_undef, If_bool, CallF_eq, MaxV_two, MinV_two, if_true, if_false, Bool.false_eq_true, Bool.true_eq_false, Bool.not_true, Bool.not_false, BEq.rfl]
  have hlt : i < ks.length := by omega
  have hget : ks[i]? = some ks[i] := List.getElem?_eq_getElem _
  refine hv.at (x := Iv ks[i]) (by omega) (by rw [Int.toNat_natCast, List.getElem?_map, hget]; rfl) ?_
  refine table_Table_Weight.spec ks[i] ht ?_
  have hb := tot_bd hf (ks.take i)
  have hw := wk_bd hf ks[i]
  have hlen : (ks.take i).length ≤ 4000000 := by rw [List.length_take]; omega
  have e1 : tot kind base (ks.take (i + 1)) = tot kind base (ks.take i) + wk kind base ks[i] := by
    rw [List.take_add_one, hget]; exact tot_snoc _ _ _ _
  have w1 : IntKind.i64.wrap (tot kind base (ks.take i) + wt kind base (clampK ks[i])) = tot kind base (ks.take (i + 1)) := by
    rw [e1, IntKind.wrap_i64]; unfold wk at *; omega
  have wi : IntKind.i64.wrap ((i : Int) + 1) = ((i + 1 : Nat) : Int) := by rw [IntKind.wrap_i64]; omega
  simp only [Iv, w1, wi, go, Mv, NilC_at, Fld_at, add_mk, Nat.zero_add, Nat.add_zero, Bin_add, Bin_sub, Bin_mul, Bin_eql, Bin_neq, Bin_lss, Bin_leq, Bin_gtr, Bin_geq, Bin_bool_eql, Bin_bool_neq, Bin_ptr_nil_eql, Bin_ptr_nil_neq, Un_not, Pick_bool, Gd_bool, Gd_undef, If_bool, CallF_eq, MaxV_two, MinV_two, if_true, if_false, Bool.false_eq_true, Bool.true_eq_false, Bool.not_true, Bool.not_false, BEq.rfl]
  exact hX (i + 1) _ _ _ _ _ _ ⟨rfl, by omega, rfl, rfl, rfl, rfl, rfl⟩ (by omega)
/-- The place of a number, counted from i on. -/
def pick (w : Int → Int) : List Int → Int → Nat → Int
  | [], _, _ => -1
  | k :: ks, r, i => if r < w k then (i : Int) else pick w ks (r - w k) (i + 1)
def pickOf (kind base : Int) (ks : List Int) (x : W64) : Int := pick (wk kind base) ks ((x.toNat : Int) % tot kind base ks) 0
theorem rem_cvt {x : W64} {n : Int} {K : Ret} {h : Heap} (h1 : 1 ≤ n) (hn : n < 9223372036854775808) :
    Bin .int .rem (U x) (U (BitVec.ofInt 64 n)) (fun t h => Cvt .i64 t K h) h = K (.int .i64 ((x.toNat : Int) % n)) h := by
  have hne : BitVec.ofInt 64 n ≠ 0 := by
    intro e
    have := congrArg BitVec.toNat e
    rw [BitVec.toNat_ofInt] at this
    have h0 : (0 : W64).toNat = 0 := rfl
    rw [h0] at this
    omega
  rw [U_rem _ _ _ hne, U, Cvt_int]
  have e : IntKind.i64.wrap (((x % BitVec.ofInt 64 n).toNat : Nat) : Int) = (x.toNat : Int) % n := by
    have hn2 : (BitVec.ofInt 64 n).toNat = n.toNat := by rw [BitVec.toNat_ofInt]; omega
    rw [BitVec.toNat_umod, hn2, Int.natCast_emod]
    have hn3 : (n.toNat : Int) = n := Int.toNat_of_nonneg (by omega)
    rw [hn3, IntKind.wrap_i64]
    have a := Int.emod_nonneg (x.toNat : Int) (show n ≠ 0 by omega)
    have b := Int.emod_lt_of_pos (x.toNat : Int) (show 0 < n by omega)
    omega
  rw [e]
theorem table_Table_Pick.spec {g : Nat} {kind base : Int} (hf : Fits kind base) {v : Value} {ks : List Int} (x : W64) {K : Ret} {h : Heap} (ht : TabAt h g kind base) (hv : Rd h v (ks.map Iv)) (hl : ks.length ≤ 4000000) (hk : K (Iv (pickOf kind base ks x)) h) : CallH Try.prog table_Table_Pick.id #[.pointer (some ⟨g, 0, none⟩), v, U x] K h := by
  refine table_Table_Pick.ok ?_
  simp only [table_Table_Pick.pt, go, Mv, NilC_at, Fld_at, add_mk, Nat.zero_add, Nat.add_zero, Bin_add, Bin_sub, Bin_mul, Bin_eql, Bin_neq, Bin_lss, Bin_leq, Bin_gtr, Bin_geq, Bin_bool_eql, Bin_bool_neq, Bin_ptr_nil_eql, Bin_ptr_nil_neq, Un_not, Pick_bool, Gd_bool, Gd_undef, If_bool, CallF_eq, MaxV_two, MinV_two, if_true, if_false, Bool.false_eq_true, Bool.true_eq_false, Bool.not_true, Bool.not_false, BEq.rfl]
  refine hv.len ?_
  rw [List.length_map]
  by_cases z : ks = []
  · subst z
    simp only [show ((([] : List Int).length : Int) == 0) = true from rfl, go, Mv, NilC_at, Fld_at, add_mk, Nat.zero_add, Nat.add_zero, Bin_add, Bin_sub, Bin_mul, Bin_eql, Bin_neq, Bin_lss, Bin_leq, Bin_gtr, Bin_geq, Bin_bool_eql, Bin_bool_neq, Bin_ptr_nil_eql, Bin_ptr_nil_neq, Un_not, Pick_bool, Gd_bool, Gd_undef, If_bool, CallF_eq, MaxV_two, MinV_two, if_true, if_false, Bool.false_eq_true, Bool.true_eq_false, Bool.not_true, Bool.not_false, BEq.rfl]; exact hk
  have hpos : 0 < ks.length := List.length_pos_iff.2 z
  have t : ((ks.length : Int) == 0) = false := by simpa using z
  simp only [t, go, Mv, NilC_at, Fld_at, add_mk, Nat.zero_add, Nat.add_zero, Bin_add, Bin_sub, Bin_mul, Bin_eql, Bin_neq, Bin_lss, Bin_leq, Bin_gtr, Bin_geq, Bin_bool_eql, Bin_bool_neq, Bin_ptr_nil_eql, Bin_ptr_nil_neq, Un_not, Pick_bool, Gd_bool, Gd_undef, If_bool, CallF_eq, MaxV_two, MinV_two, if_true, if_false, Bool.false_eq_true, Bool.true_eq_false, Bool.not_true, Bool.not_false, BEq.rfl]
  refine table_Table_Total.spec hf ht hv hl ?_
  have hb := tot_bd hf ks
  simp only [Iv]
  rw [Cvt_u64, rem_cvt (by omega) (by omega)]
  refine hv.len ?_
  rw [List.length_map]
  have r0 := Int.emod_nonneg (x.toNat : Int) (show tot kind base ks ≠ 0 by omega)
  have r1 := Int.emod_lt_of_pos (x.toNat : Int) (show 0 < tot kind base ks by omega)
  unfold pickOf at hk
  generalize (x.toNat : Int) % tot kind base ks = r at *
  refine Lp5 (σ := Nat × Int) (fun s a b c d e h' => h = h' ∧ s.1 ≤ ks.length ∧ (0 ≤ s.2 ∧ s.2 ≤ r) ∧ pick (wk kind base) (ks.drop s.1) s.2 s.1 = pick (wk kind base) ks r 0 ∧ a = .pointer (some ⟨g, 0, none⟩) ∧ b = .int .i64 s.2 ∧ v = c ∧ d = .int .i64 (ks.length : Int) ∧ e = .int .i64 (s.1 : Int)) (fun s => ks.length - s.1) (0, r)
    ⟨rfl, Nat.zero_le _, ⟨r0, by simp⟩, rfl, rfl, rfl, rfl, rfl, rfl⟩ ?_
  rintro ⟨i, q⟩ a b c d e h2 ⟨rfl, hi, ⟨q0, q1⟩, hp, rfl, rfl, rfl, rfl, rfl⟩ X hX
  simp only at hi q0 q1 hp
  simp only [go, Mv, NilC_at, Fld_at, add_mk, Nat.zero_add, Nat.add_zero, Bin_add, Bin_sub, Bin_mul, Bin_eql, Bin_neq, Bin_lss, Bin_leq, Bin_gtr, Bin_geq, Bin_bool_eql, Bin_bool_neq, Bin_ptr_nil_eql, Bin_ptr_nil_neq, Un_not, Pick_bool, Gd_bool, Gd_undef, If_bool, CallF_eq, MaxV_two, MinV_two, if_true, if_false, Bool.false_eq_true, Bool.true_eq_false, Bool.not_true, Bool.not_false, BEq.rfl]
  by_cases hd : ¬ (i : Int) < (ks.length : Int)
  · simp only [decide_eq_false hd, go, Mv, NilC_at, Fld_at, add_mk, Nat.zero_add, Nat.add_zero, Bin_add, Bin_sub, Bin_mul, Bin_eql, Bin_neq, Bin_lss, Bin_leq, Bin_gtr, Bin_geq, Bin_bool_eql, Bin_bool_neq, Bin_ptr_nil_eql, Bin_ptr_nil_neq, Un_not, Pick_bool, Gd_bool, Gd_undef, If_bool, CallF_eq, MaxV_two, MinV_two, if_true, if_false, Bool.false_eq_true, Bool.true_eq_false, Bool.not_true, Bool.not_false, BEq.rfl]
    rw [List.drop_of_length_le (by omega)] at hp
    rw [← hp] at hk; exact hk
  have hd : (i : Int) < (ks.length : Int) := by omega
  have hlt : i < ks.length := by omega
  simp only [decide_eq_true hd, go, Mv, NilC_at, Fld_at, add_mk, Nat.zero_add, Nat.add_zero, Bin_add, Bin_sub, Bin_mul, Bin_eql, Bin_neq, Bin_lss, Bin_leq, Bin_gtr, Bin_geq, Bin_bool_eql, Bin_bool_neq, Bin_ptr_nil_eql, Bin_ptr_nil_neq, Un_not, Pick_bool, Gd_bool, Gd_undef, If_bool, CallF_eq, MaxV_two, MinV_two, if_true, if_false, Bool.false_eq_true, Bool.true_eq_false, Bool.not_true, Bool.not_false, BEq.rfl]
  have hget : ks[i]? = some ks[i] := List.getElem?_eq_getElem _
  refine hv.at (x := Iv ks[i]) (by omega) (by rw [Int.toNat_natCast, List.getElem?_map, hget]; rfl) ?_
  refine table_Table_Weight.spec ks[i] ht ?_
  have hw := wk_bd hf ks[i]
  have w1 : IntKind.i64.wrap (q - wt kind base (clampK ks[i])) = q - wk kind base ks[i] := by
    rw [IntKind.wrap_i64]; unfold wk at *; omega
  have wi : IntKind.i64.wrap ((i : Int) + 1) = ((i + 1 : Nat) : Int) := by rw [IntKind.wrap_i64]; omega
  rw [List.drop_eq_getElem_cons hlt] at hp
  simp only [pick] at hp
  simp only [Iv, w1, go, Mv, NilC_at, Fld_at, add_mk, Nat.zero_add, Nat.add_zero, Bin_add, Bin_sub, Bin_mul, Bin_eql, Bin_neq, Bin_lss, Bin_leq, Bin_gtr, Bin_geq, Bin_bool_eql, Bin_bool_neq, Bin_ptr_nil_eql, Bin_ptr_nil_neq, Un_not, Pick_bool, Gd_bool, Gd_undef, If_bool, CallF_eq, MaxV_two, MinV_two, if_true, if_false, Bool.false_eq_true, Bool.true_eq_false, Bool.not_true, Bool.not_false, BEq.rfl]
  by_cases hq : q < wk kind base ks[i]
  · have t : q - wk kind base ks[i] < 0 := by omega
    rw [if_pos hq] at hp
    simp only [decide_eq_true t, go, Mv, NilC_at, Fld_at, add_mk, Nat.zero_add, Nat.add_zero, Bin_add, Bin_sub, Bin_mul, Bin_eql, Bin_neq, Bin_lss, Bin_leq, Bin_gtr, Bin_geq, Bin_bool_eql, Bin_bool_neq, Bin_ptr_nil_eql, Bin_ptr_nil_neq, Un_not, Pick_bool, Gd_bool, Gd_undef, If_bool, CallF_eq, MaxV_two, MinV_two, if_true, if_false, Bool.false_eq_true, Bool.true_eq_false, Bool.not_true, Bool.not_false, BEq.rfl]
    rw [← hp] at hk; exact hk
  · have t : ¬ q - wk kind base ks[i] < 0 := by omega
    rw [if_neg hq] at hp
    simp only [decide_eq_false t, wi, go, Mv, NilC_at, Fld_at, add_mk, Nat.zero_add, Nat.add_zero, Bin_add, Bin_sub, Bin_mul, Bin_eql, Bin_neq, Bin_lss, Bin_leq, Bin_gtr, Bin_geq, Bin_bool_eql, Bin_bool_neq, Bin_ptr_nil_eql, Bin_ptr_nil_neq, Un_not, Pick_bool, Gd_bool, Gd_undef, If_bool, CallF_eq, MaxV_two, MinV_two, if_true, if_false, Bool.false_eq_true, Bool.true_eq_false, Bool.not_true, Bool.not_false, BEq.rfl]
    exact hX (i + 1, q - wk kind base ks[i]) _ _ _ _ _ _ ⟨rfl, by simp only; omega, ⟨by simp only; omega, by simp only; omega⟩, hp, rfl, rfl, rfl, rfl, rfl⟩ (by simp only; omega)
end Go.Proofs.Ytonngdjfnnibaaa
