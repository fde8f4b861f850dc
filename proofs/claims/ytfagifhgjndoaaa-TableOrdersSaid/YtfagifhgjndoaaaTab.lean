/- What the functions of the table compute. Conditions: those typed ahead of each theorem. -/
import Derived.Test.YtfagifhgjndoaaaFn
import Derived.Test.YtfagifhgjndoaaaPtR
namespace Go.Proofs.Ytfagifhgjndoaaa
open Go.Pt
set_option linter.unusedVariables false
set_option linter.unusedSimpArgs false
def Iv (n : Int) : Value := .int .i64 n
/-- The weight of k breaks at a kind and a base. -/
def expW (base : Int) : Nat → Int
  | 0 => 1099511627776
  | k + 1 => max (expW base k * 16 / base) 1
def wt (kind base : Int) (k : Nat) : Int := if kind = 0 then max (1099511627776 / ((base + k) * (base + k) * (base + k))) 1 else expW base k
theorem expW_bd (base : Int) (hb : 16 ≤ base) : ∀ k, 1 ≤ expW base k ∧ expW base k ≤ 1099511627776
  | 0 => by simp [expW]
  | k + 1 => by
    have ⟨h1, h2⟩ := expW_bd base hb k
    unfold expW
    refine ⟨by omega, ?_⟩
    have : expW base k * 16 / base ≤ expW base k := by
      apply Int.ediv_le_of_le_mul (by omega)
      exact Int.mul_le_mul_of_nonneg_left hb (by omega)
    omega
theorem expW_step (base : Int) (hb : 16 ≤ base) (k : Nat) : expW base (k + 1) ≤ expW base k := by
  have ⟨h1, h2⟩ := expW_bd base hb k
  show max (expW base k * 16 / base) 1 ≤ _
  have : expW base k * 16 / base ≤ expW base k := by
    apply Int.ediv_le_of_le_mul (by omega)
    exact Int.mul_le_mul_of_nonneg_left hb (by omega)
  omega
/-- A kind and a base that may be. -/
def Fits (kind base : Int) : Prop := (kind = 0 ∧ 1 ≤ base ∧ base ≤ 64) ∨ (kind = 1 ∧ 17 ≤ base ∧ base ≤ 256)
theorem cube {n : Int} (h1 : 1 ≤ n) (h2 : n ≤ 127) : 1 ≤ n * n * n ∧ n * n * n ≤ 2048383 ∧ 1 ≤ n * n ∧ n * n ≤ 16129 := by
  have a1 : 1 * 1 ≤ n * n := Int.mul_le_mul h1 h1 (by omega) (by omega)
  have a2 : n * n ≤ 127 * 127 := Int.mul_le_mul h2 h2 (by omega) (by omega)
  have a3 : 1 * 1 ≤ n * n * n := Int.mul_le_mul (by omega) h1 (by omega) (by omega)
  have a4 : n * n * n ≤ 16129 * 127 := Int.mul_le_mul (by omega) h2 (by omega) (by omega)
  omega
theorem wt_bd {kind base : Int} (hf : Fits kind base) (k : Nat) (hk : k < 64) : 1 ≤ wt kind base k ∧ wt kind base k ≤ 1099511627776 := by
  unfold wt
  rcases hf with ⟨rfl, h1, h2⟩ | ⟨rfl, h1, h2⟩
  · rw [if_pos rfl]
    have hc := cube (n := base + k) (by omega) (by omega)
    have : 1099511627776 / ((base + k) * (base + k) * (base + k)) ≤ 1099511627776 := Int.ediv_le_self _ (by omega)
    omega
  · rw [if_neg (by omega)]
    exact expW_bd base (by omega) k
def tab (kind base : Int) (i : Nat) : List Value := (List.range 64).map fun j => if j < i then Iv (wt kind base j) else Iv 0
theorem tab_len (kind base : Int) (i : Nat) : (tab kind base i).length = 64 := by simp [tab]
theorem tab_get (kind base : Int) (i j : Nat) (hj : j < 64) : (tab kind base i)[j]? = some (if j < i then Iv (wt kind base j) else Iv 0) := by
  simp [tab, List.getElem?_map, List.getElem?_range hj]
theorem tab_set (kind base : Int) (i : Nat) (hi : i < 64) : (tab kind base i).set i (Iv (wt kind base i)) = tab kind base (i + 1) := by
  apply List.ext_getElem?
  intro j
  rw [List.getElem?_set]
  by_cases hj : j < 64
  · rw [tab_get _ _ _ _ hj, tab_get _ _ _ _ hj, tab_len]
    by_cases e : i = j
    · subst e; simp [hi]
    · have : j < i ↔ j < i + 1 := by omega
      simp [e, this]
  · have h1 : (tab kind base i)[j]? = none := List.getElem?_eq_none (by rw [tab_len]; omega)
    have h2 : (tab kind base (i + 1))[j]? = none := List.getElem?_eq_none (by rw [tab_len]; omega)
    rw [h1, h2, if_neg (by omega)]
theorem IdxA_blk {len g : Nat} {k : IntKind} {n : Int} {K : Ret} {h : Heap} (h0 : 0 ≤ n) (h1 : n < len) (hk : K (.pointer (some ⟨g, n.toNat, none⟩)) h) : IdxA len 1 (.pointer (some ⟨g, 0, none⟩)) (.int k n) K h := by
  rw [IdxA_at, add_mk, Nat.mul_one, Nat.zero_add]; exact ⟨⟨h0, h1⟩, hk⟩
/-- A table in memory. -/
def TabAt (h : Heap) (g : Nat) (kind base : Int) : Prop := Blk h g (tab kind base 64)
theorem table_New.spec {kind base : Int} (hf : Fits kind base) {K : Ret} {h : Heap} (hk : ∀ g h', TabAt h' g kind base → Fr [] h h' → h.size ≤ g → K (.pointer (some ⟨g, 0, none⟩)) h') : CallH Try.prog table_New.id #[Iv kind, Iv base] K h := by
  refine table_New.ok ?_
  simp only [table_New.pt, Iv, go, Mv, NilC_at, Fld_at, add_mk, Nat.zero_add, Nat.add_zero, Bin_add, Bin_sub, Bin_mul, Bin_eql, Bin_neq, Bin_lss, Bin_leq, Bin_gtr, Bin_geq, Bin_bool_eql, Bin_bool_neq, Bin_ptr_nil_eql, Bin_ptr_nil_neq, Un_not, Pick_bool, Gd_bool, Gd_undef, If_bool, CallF_eq, MaxV_two, MinV_two, if_true, if_false, Bool.false_eq_true, Bool.true_eq_false, Bool.not_true, Bool.not_false, BEq.rfl]
  rw [Bld_eq, fill_nil]
  refine New_blk fun h1 b1 f1 s1 => ?_
  have b1' : Blk h1 h.size (tab kind base 0) := b1
  refine Lp5 (σ := Nat) (fun i a b c d e h' => Fr [] h h' ∧ Blk h' h.size (tab kind base i) ∧ i ≤ 64 ∧ a = .int .i64 kind ∧ b = .int .i64 base ∧ c = .pointer (some ⟨h.size, 0, none⟩) ∧ (∃ x, d = .int .i64 x ∧ (kind ≠ 0 → 0 < i → x = wt kind base (i - 1))) ∧ e = .int .i64 (i : Int)) (fun i => 64 - i) 0
    ⟨f1, b1', by omega, rfl, rfl, rfl, ⟨0, rfl, by omega⟩, rfl⟩ ?_
  rintro i a b c d e h2 ⟨f2, b2, hi, rfl, rfl, rfl, ⟨x, rfl, hx⟩, rfl⟩ X hX
  simp only [go, Mv, NilC_at, Fld_at, add_mk, Nat.zero_add, Nat.add_zero, Bin_add, Bin_sub, Bin_mul, Bin_eql, Bin_neq, Bin_lss, Bin_leq, Bin_gtr, Bin_geq, Bin_bool_eql, Bin_bool_neq, Bin_ptr_nil_eql, Bin_ptr_nil_neq, Un_not, Pick_bool, Gd_bool, Gd_undef, If_bool, CallF_eq, MaxV_two, MinV_two, if_true, if_false, Bool.false_eq_true, Bool.true_eq_false, Bool.not_true, Bool.not_false, BEq.rfl]
  by_cases hd : ¬ (i : Int) < 64
  · simp only [decide_eq_false hd, go, Mv, NilC_at, Fld_at, add_mk, Nat.zero_add, Nat.add_zero, Bin_add, Bin_sub, Bin_mul, Bin_eql, Bin_neq, Bin_lss, Bin_leq, Bin_gtr, Bin_geq, Bin_bool_eql, Bin_bool_neq, Bin_ptr_nil_eql, Bin_ptr_nil_neq, Un_not, Pick_bool, Gd_bool, Gd_undef, If_bool, CallF_eq, MaxV_two, MinV_two, if_true, if_false, Bool.false_eq_true, Bool.true_eq_false, Bool.not_true, Bool.not_false, BEq.rfl]
    have : i = 64 := by omega
    subst this
    exact hk _ _ b2 f2 (Nat.le_refl _)
  have hd : (i : Int) < 64 := by omega
  have hi64 : i < 64 := by omega
  simp only [decide_eq_true hd, go, Mv, NilC_at, Fld_at, add_mk, Nat.zero_add, Nat.add_zero, Bin_add, Bin_sub, Bin_mul, Bin_eql, Bin_neq, Bin_lss, Bin_leq, Bin_gtr, Bin_geq, Bin_bool_eql, Bin_bool_neq, Bin_ptr_nil_eql, Bin_ptr_nil_neq, Un_not, Pick_bool, Gd_bool, Gd_undef, If_bool, CallF_eq, MaxV_two, MinV_two, if_true, if_false, Bool.false_eq_true, Bool.true_eq_false, Bool.not_true, Bool.not_false, BEq.rfl]
  have wi : IntKind.i64.wrap ((i : Int) + 1) = ((i + 1 : Nat) : Int) := by rw [IntKind.wrap_i64]; omega
  refine Jn5 (fun a b c d e h3 => Fr [h.size] h2 h3 ∧ Blk h3 h.size (tab kind base (i + 1)) ∧ a = .int .i64 kind ∧ b = .int .i64 base ∧ c = .pointer (some ⟨h.size, 0, none⟩) ∧ (∃ x, d = .int .i64 x ∧ (kind ≠ 0 → x = wt kind base i)) ∧ e = .int .i64 (i : Int)) ?_ ?_
  · intro J hJ
    rcases hf with ⟨rfl, g1, g2⟩ | ⟨rfl, g1, g2⟩
    · have ⟨c1, c2, c3, c4⟩ := cube (n := base + i) (by omega) (by omega)
      have e1 : IntKind.i64.wrap (base + (i : Int)) = base + i := by rw [IntKind.wrap_i64]; omega
      have e2 : IntKind.i64.wrap ((base + (i : Int)) * (base + i)) = (base + i) * (base + i) := by rw [IntKind.wrap_i64]; omega
      have e3 : IntKind.i64.wrap ((base + (i : Int)) * (base + i) * (base + i)) = (base + i) * (base + i) * (base + i) := by rw [IntKind.wrap_i64]; omega
      have hw := wt_bd (kind := 0) (base := base) (.inl ⟨rfl, g1, g2⟩) i hi64
      simp only [show ((0 : Int) == 0) = true from rfl, e1, e2, e3, go, Mv, NilC_at, Fld_at, add_mk, Nat.zero_add, Nat.add_zero, Bin_add, Bin_sub, Bin_mul, Bin_eql, Bin_neq, Bin_lss, Bin_leq, Bin_gtr, Bin_geq, Bin_bool_eql, Bin_bool_neq, Bin_ptr_nil_eql, Bin_ptr_nil_neq, Un_not, Pick_bool, Gd_bool, Gd_undef, If_bool, CallF_eq, MaxV_two, MinV_two, if_true, if_false, Bool.false_eq_true, Bool.true_eq_false, Bool.not_true, Bool.not_false, BEq.rfl]
      rw [Bin_quo _ _ _ _ (by omega), Int.tdiv_eq_ediv_of_nonneg (by omega)]
      have hq0 : 0 ≤ 1099511627776 / ((base + (i : Int)) * (base + i) * (base + i)) := Int.ediv_nonneg (by omega) (by omega)
      have hq1 : 1099511627776 / ((base + (i : Int)) * (base + i) * (base + i)) ≤ 1099511627776 := Int.ediv_le_self _ (by omega)
      have e4 : (if (1 : Int) > IntKind.i64.wrap (1099511627776 / ((base + (i : Int)) * (base + i) * (base + i))) then 1 else IntKind.i64.wrap (1099511627776 / ((base + (i : Int)) * (base + i) * (base + i)))) = wt 0 base i := by
        rw [IntKind.wrap_i64]; simp only [wt, if_true]; omega
      simp only [e4, go, Mv, NilC_at, Fld_at, add_mk, Nat.zero_add, Nat.add_zero, Bin_add, Bin_sub, Bin_mul, Bin_eql, Bin_neq, Bin_lss, Bin_leq, Bin_gtr, Bin_geq, Bin_bool_eql, Bin_bool_neq, Bin_ptr_nil_eql, Bin_ptr_nil_neq, Un_not, Pick_bool, Gd_bool, Gd_undef, If_bool, CallF_eq, MaxV_two, MinV_two, if_true, if_false, Bool.false_eq_true, Bool.true_eq_false, Bool.not_true, Bool.not_false, BEq.rfl]
      refine IdxA_blk (by omega) hd (St_blk b2 (by rw [tab_len]; omega) rfl fun h3 b3 f3 => hJ _ _ _ _ _ h3 ⟨f3, ?_, rfl, rfl, rfl, ⟨_, rfl, by simp⟩, rfl⟩)
      rw [Int.toNat_natCast] at b3
      rw [← tab_set _ _ _ hi64]; exact b3
    · simp only [show ((1 : Int) == 0) = false from rfl, go, Mv, NilC_at, Fld_at, add_mk, Nat.zero_add, Nat.add_zero, Bin_add, Bin_sub, Bin_mul, Bin_eql, Bin_neq, Bin_lss, Bin_leq, Bin_gtr, Bin_geq, Bin_bool_eql, Bin_bool_neq, Bin_ptr_nil_eql, Bin_ptr_nil_neq, Un_not, Pick_bool, Gd_bool, Gd_undef, If_bool, CallF_eq, MaxV_two, MinV_two, if_true, if_false, Bool.false_eq_true, Bool.true_eq_false, Bool.not_true, Bool.not_false, BEq.rfl]
      refine Jn5 (fun a b c d e h3 => Fr [h.size] h2 h3 ∧ Blk h3 h.size (tab 1 base (i + 1)) ∧ a = .int .i64 1 ∧ b = .int .i64 base ∧ c = .pointer (some ⟨h.size, 0, none⟩) ∧ d = .int .i64 (i : Int) ∧ e = .int .i64 (i : Int)) ?_ ?_
      · intro J2 hJ2
        by_cases z : i = 0
        · subst z
          simp only [show (((0 : Nat) : Int) == 0) = true from rfl, go, Mv, NilC_at, Fld_at, add_mk, Nat.zero_add, Nat.add_zero, Bin_add, Bin_sub, Bin_mul, Bin_eql, Bin_neq, Bin_lss, Bin_leq, Bin_gtr, Bin_geq, Bin_bool_eql, Bin_bool_neq, Bin_ptr_nil_eql, Bin_ptr_nil_neq, Un_not, Pick_bool, Gd_bool, Gd_undef, If_bool, CallF_eq, MaxV_two, MinV_two, if_true, if_false, Bool.false_eq_true, Bool.true_eq_false, Bool.not_true, Bool.not_false, BEq.rfl]
          refine IdxA_blk (by omega) hd (St_blk b2 (by rw [tab_len]; omega) rfl fun h3 b3 f3 => hJ2 _ _ _ _ _ h3 ⟨f3, ?_, rfl, rfl, rfl, rfl, rfl⟩)
          rw [← tab_set _ _ _ hi64]; exact b3
        · have t : ((i : Int) == 0) = false := by simpa using z
          have hx' := hx (by decide) (by omega)
          subst hx'
          have hb := wt_bd (kind := 1) (base := base) (.inr ⟨rfl, g1, g2⟩) (i - 1) (by omega)
          have hb2 := wt_bd (kind := 1) (base := base) (.inr ⟨rfl, g1, g2⟩) i (by omega)
          have e1 : IntKind.i64.wrap (wt 1 base (i - 1) * 16) = wt 1 base (i - 1) * 16 := by rw [IntKind.wrap_i64]; omega
          simp only [t, e1, go, Mv, NilC_at, Fld_at, add_mk, Nat.zero_add, Nat.add_zero, Bin_add, Bin_sub, Bin_mul, Bin_eql, Bin_neq, Bin_lss, Bin_leq, Bin_gtr, Bin_geq, Bin_bool_eql, Bin_bool_neq, Bin_ptr_nil_eql, Bin_ptr_nil_neq, Un_not, Pick_bool, Gd_bool, Gd_undef, If_bool, CallF_eq, MaxV_two, MinV_two, if_true, if_false, Bool.false_eq_true, Bool.true_eq_false, Bool.not_true, Bool.not_false, BEq.rfl]
          rw [Bin_quo _ _ _ _ (by omega), Int.tdiv_eq_ediv_of_nonneg (by omega)]
          have e5 : wt 1 base i = max (wt 1 base (i - 1) * 16 / base) 1 := by
            obtain ⟨m, rfl⟩ : ∃ m, i = m + 1 := ⟨i - 1, by omega⟩
            rfl
          have e4 : (if (1 : Int) > IntKind.i64.wrap (wt 1 base (i - 1) * 16 / base) then 1 else IntKind.i64.wrap (wt 1 base (i - 1) * 16 / base)) = wt 1 base i := by
            have hq : 0 ≤ wt 1 base (i - 1) * 16 / base := Int.ediv_nonneg (by omega) (by omega)
            rw [IntKind.wrap_i64]; omega
          simp only [e4, go, Mv, NilC_at, Fld_at, add_mk, Nat.zero_add, Nat.add_zero, Bin_add, Bin_sub, Bin_mul, Bin_eql, Bin_neq, Bin_lss, Bin_leq, Bin_gtr, Bin_geq, Bin_bool_eql, Bin_bool_neq, Bin_ptr_nil_eql, Bin_ptr_nil_neq, Un_not, Pick_bool, Gd_bool, Gd_undef, If_bool, CallF_eq, MaxV_two, MinV_two, if_true, if_false, Bool.false_eq_true, Bool.true_eq_false, Bool.not_true, Bool.not_false, BEq.rfl]
          refine IdxA_blk (by omega) hd (St_blk b2 (by rw [tab_len]; omega) rfl fun h3 b3 f3 => hJ2 _ _ _ _ _ h3 ⟨f3, ?_, rfl, rfl, rfl, rfl, rfl⟩)
          rw [Int.toNat_natCast] at b3
          rw [← tab_set _ _ _ hi64]; exact b3
      · rintro a b c d e h3 ⟨f3, b3, rfl, rfl, rfl, rfl, rfl⟩
        simp only [go, Mv, NilC_at, Fld_at, add_mk, Nat.zero_add, Nat.add_zero, Bin_add, Bin_sub, Bin_mul, Bin_eql, Bin_neq, Bin_lss, Bin_leq, Bin_gtr, Bin_geq, Bin_bool_eql, Bin_bool_neq, Bin_ptr_nil_eql, Bin_ptr_nil_neq, Un_not, Pick_bool, Gd_bool, Gd_undef, If_bool, CallF_eq, MaxV_two, MinV_two, if_true, if_false, Bool.false_eq_true, Bool.true_eq_false, Bool.not_true, Bool.not_false, BEq.rfl]
        refine IdxA_blk (by omega) hd (Ld_blk b3 (by rw [Int.toNat_natCast, tab_get _ _ _ _ hi64, if_pos (by omega)]) ?_)
        exact hJ _ _ _ _ _ h3 ⟨f3, b3, rfl, rfl, rfl, ⟨_, rfl, fun _ => rfl⟩, rfl⟩
  · rintro a b c d e h3 ⟨f3, b3, rfl, rfl, rfl, ⟨y, rfl, hy⟩, rfl⟩
    simp only [wi, go, Mv, NilC_at, Fld_at, add_mk, Nat.zero_add, Nat.add_zero, Bin_add, Bin_sub, Bin_mul, Bin_eql, Bin_neq, Bin_lss, Bin_leq, Bin_gtr, Bin_geq, Bin_bool_eql, Bin_bool_neq, Bin_ptr_nil_eql, Bin_ptr_nil_neq, Un_not, Pick_bool, Gd_bool, Gd_undef, If_bool, CallF_eq, MaxV_two, MinV_two, if_true, if_false, Bool.false_eq_true, Bool.true_eq_false, Bool.not_true, Bool.not_false, BEq.rfl]
    exact hX (i + 1) _ _ _ _ _ h3 ⟨f2.trans' f3 (by simp), b3, by omega, rfl, rfl, rfl, ⟨y, rfl, fun h0 _ => hy h0⟩, rfl⟩ (by omega)
end Go.Proofs.Ytfagifhgjndoaaa
