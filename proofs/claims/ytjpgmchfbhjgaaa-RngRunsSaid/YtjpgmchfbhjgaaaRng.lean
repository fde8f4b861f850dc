/- What some functions of this seat compute (Rng), over their texts in primitives. Conditions: those typed ahead of each theorem. -/
import Derived.Test.YtjpgmchfbhjgaaaFn
namespace Go.Proofs.Ytjpgmchfbhjgaaa
open Go.Pt
set_option linter.unusedVariables false
set_option linter.unusedSimpArgs false

/-- The number behind one. -/
def stepB (x : W64) : W64 :=
  let a := x ^^^ (x <<< 13)
  let b := a ^^^ (a >>> 7)
  b ^^^ (b <<< 17)
theorem rng_Step.spec (x : W64) {K : Ret} {h : Heap} (hk : K (U (stepB x)) h) : CallH Try.prog rng_Step.id #[U x] K h := by
  refine rng_Step.ok ?_
  simp only [rng_Step.pt, go]
  rw [show Value.int .u64 13 = .int .u64 ((13 : Nat) : Int) from rfl, show Value.int .u64 7 = .int .u64 ((7 : Nat) : Int) from rfl, show Value.int .u64 17 = .int .u64 ((17 : Nat) : Int) from rfl]
  simp only [U_shl, U_shr, U_xor]
  exact hk

/-- The bits below i. -/
theorem turn_step (z o : W64) (i : Nat) (hi : i < 64) (ho : ∀ j, o.getLsbD j = (decide (j < i) && z.getLsbD j)) :
    ∀ j, (if z.getLsbD i then o ||| (1#64 <<< i) else o).getLsbD j = (decide (j < i + 1) && z.getLsbD j) := by
  intro j
  by_cases hz : z.getLsbD i = true
  · rw [if_pos hz, BitVec.getLsbD_or, ho j]
    rcases Nat.lt_trichotomy j i with hl | he | hg
    · have : (1#64 <<< i).getLsbD j = false := by rw [BitVec.getLsbD_shiftLeft]; simp; omega
      rw [this]; simp [hl, show j < i + 1 from by omega]
    · subst he
      have : (1#64 <<< j).getLsbD j = true := by rw [BitVec.getLsbD_shiftLeft]; simp [hi]
      rw [this]; simp [hz]
    · have : (1#64 <<< i).getLsbD j = false := by
        rw [BitVec.getLsbD_shiftLeft, BitVec.getLsbD_one]
        simp; omega
      rw [this]; simp [show ¬ j < i from by omega, show ¬ j < i + 1 from by omega]
  · rw [if_neg hz, ho j]
    rcases Nat.lt_trichotomy j i with hl | he | hg
    · simp [hl, show j < i + 1 from by omega]
    · subst he; simp at hz; simp [hz]
    · simp [show ¬ j < i from by omega, show ¬ j < i + 1 from by omega]
theorem bit_ne (x y : W64) (i : Nat) : ((x >>> i &&& 1#64) != (y >>> i &&& 1#64)) = (x ^^^ y).getLsbD i := by
  have key : ∀ a : W64, a >>> i &&& 1#64 = if a.getLsbD i then 1#64 else 0#64 := by
    intro a
    apply BitVec.eq_of_getLsbD_eq
    intro j hj
    rw [BitVec.getLsbD_and, BitVec.getLsbD_ushiftRight, BitVec.getLsbD_one]
    by_cases h0 : j = 0
    · subst h0; cases h : a.getLsbD i <;> simp [h]
    · cases h : a.getLsbD i <;> simp [h0]
  rw [key x, key y, BitVec.getLsbD_xor]
  cases x.getLsbD i <;> cases y.getLsbD i <;> rfl
theorem bradawllaw09_step_1.spec (x y : W64) {K : Ret} {h : Heap} (hk : K (U (x ^^^ y)) h) : CallH Try.prog bradawllaw09_step_1.id #[U x, U y] K h := by
  refine bradawllaw09_step_1.ok ?_
  simp only [bradawllaw09_step_1.pt, go]
  refine Lp4 (σ := Nat) (fun i a b o n h' => h' = h ∧ i ≤ 64 ∧ a = U x ∧ b = U y ∧ n = .int .i64 ((i : Nat) : Int) ∧ ∃ z : W64, o = U z ∧ ∀ j, z.getLsbD j = (decide (j < i) && (x ^^^ y).getLsbD j)) (fun i => 64 - i) 0
    ⟨rfl, by omega, rfl, rfl, rfl, 0#64, rfl, fun j => by simp⟩ ?_
  rintro i a b o n h' ⟨rfl, hi, rfl, rfl, rfl, z, rfl, hz⟩ X hX
  rw [Bin_lss, If_bool]
  by_cases hlt : i < 64
  · rw [if_pos (by simp; omega), Join_eq]
    rw [show Value.int .u64 1 = U 1#64 from rfl]
    simp only [U_shr, U_and, U_neq, If_bool, U_shl, U_or, bit_ne, Bin_add]
    have hw : IntKind.i64.wrap ((i : Int) + 1) = ((i + 1 : Nat) : Int) := by rw [IntKind.wrap_i64]; omega
    rw [hw]
    have hs := turn_step (x ^^^ y) z i hlt hz
    split
    · rename_i hc
      rw [if_pos hc] at hs
      exact hX (i + 1) _ _ _ _ _ ⟨rfl, by omega, rfl, rfl, rfl, _, rfl, hs⟩ (by omega)
    · rename_i hc
      rw [if_neg hc] at hs
      exact hX (i + 1) _ _ _ _ _ ⟨rfl, by omega, rfl, rfl, rfl, _, rfl, hs⟩ (by omega)
  · rw [if_neg (by simp; omega)]
    have : z = x ^^^ y := by
      apply BitVec.eq_of_getLsbD_eq
      intro j hj
      rw [hz j]; simp [show j < i from by omega]
    rw [this]; exact hk
theorem bradawllaw09_step.spec (x : W64) {K : Ret} {h : Heap} (hk : K (U (stepB x)) h) : CallH Try.prog bradawllaw09_step.id #[U x] K h := by
  refine bradawllaw09_step.ok ?_
  simp only [bradawllaw09_step.pt, go]
  have hb : hasBody Try.prog bradawllaw09_step_1.id = true := by kernel_rfl
  have e1 : ∀ z : W64, z * 8192#64 = z <<< 13 := fun z => by
    rw [BitVec.shiftLeft_eq_mul_twoPow]; rfl
  have e2 : ∀ z : W64, z / 128#64 = z >>> 7 := fun z => by
    apply BitVec.eq_of_toNat_eq
    rw [BitVec.toNat_udiv, BitVec.toNat_ushiftRight, Nat.shiftRight_eq_div_pow]; rfl
  have e3 : ∀ z : W64, z * 131072#64 = z <<< 17 := fun z => by
    rw [BitVec.shiftLeft_eq_mul_twoPow]; rfl
  rw [show Value.int .u64 8192 = U 8192#64 from rfl, U_mul, CallV_eq, e1]
  refine ⟨hb, bradawllaw09_step_1.spec x (x <<< 13) ?_⟩
  rw [show Value.int .u64 128 = U 128#64 from rfl, U_quo _ _ _ (by decide), CallV_eq, e2]
  refine ⟨hb, bradawllaw09_step_1.spec _ _ ?_⟩
  rw [show Value.int .u64 131072 = U 131072#64 from rfl, U_mul, CallV_eq, e3]
  exact ⟨hb, bradawllaw09_step_1.spec _ _ hk⟩
theorem shl_fix {d : W64} {n : Nat} (hn : 0 < n) (h : d <<< n = d) : d = 0 := by
  have key : ∀ k : Nat, d = d <<< (n * k) := by
    intro k
    induction k with
    | zero => simp
    | succ k ih =>
      rw [Nat.mul_succ, BitVec.shiftLeft_add, ← ih, h]
  rw [key 64]
  apply BitVec.shiftLeft_eq_zero
  have : 1 * 64 ≤ n * 64 := Nat.mul_le_mul_right _ hn
  omega
theorem shr_fix {d : W64} {n : Nat} (hn : 0 < n) (h : d >>> n = d) : d = 0 := by
  have key : ∀ k : Nat, d = d >>> (n * k) := by
    intro k
    induction k with
    | zero => simp
    | succ k ih =>
      rw [Nat.mul_succ, BitVec.shiftRight_add, ← ih, h]
  rw [key 64]
  apply BitVec.ushiftRight_eq_zero
  have : 1 * 64 ≤ n * 64 := Nat.mul_le_mul_right _ hn
  omega
theorem xor_shl_inj {x y : W64} {n : Nat} (hn : 0 < n) (h : x ^^^ (x <<< n) = y ^^^ (y <<< n)) : x = y := by
  have h1 : (x ^^^ y) <<< n = x ^^^ y := by
    rw [BitVec.shiftLeft_xor_distrib]
    have : (x ^^^ (x <<< n)) ^^^ (y ^^^ (y <<< n)) = 0#64 := by rw [h]; simp
    have e : (x ^^^ (x <<< n)) ^^^ (y ^^^ (y <<< n)) = ((x <<< n) ^^^ (y <<< n)) ^^^ (x ^^^ y) := by
      ac_rfl
    rw [e] at this
    exact BitVec.xor_eq_zero_iff.1 this
  exact BitVec.xor_eq_zero_iff.1 (shl_fix hn h1)
theorem xor_shr_inj {x y : W64} {n : Nat} (hn : 0 < n) (h : x ^^^ (x >>> n) = y ^^^ (y >>> n)) : x = y := by
  have h1 : (x ^^^ y) >>> n = x ^^^ y := by
    rw [BitVec.ushiftRight_xor_distrib]
    have : (x ^^^ (x >>> n)) ^^^ (y ^^^ (y >>> n)) = 0#64 := by rw [h]; simp
    have e : (x ^^^ (x >>> n)) ^^^ (y ^^^ (y >>> n)) = ((x >>> n) ^^^ (y >>> n)) ^^^ (x ^^^ y) := by
      ac_rfl
    rw [e] at this
    exact BitVec.xor_eq_zero_iff.1 this
  exact BitVec.xor_eq_zero_iff.1 (shr_fix hn h1)
theorem stepB_inj {x y : W64} (h : stepB x = stepB y) : x = y := xor_shl_inj (by decide) (xor_shr_inj (by decide) (xor_shl_inj (by decide) h))
theorem stepB_zero : stepB 0 = 0 := by decide
end Go.Proofs.Ytjpgmchfbhjgaaa
