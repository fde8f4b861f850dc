/- Masks of numbers of 64 bits with a sign. No condition. -/
import Derived.Test.YthekbpaekopmfaaPtP
namespace Go.Pt
set_option linter.unusedVariables false
set_option linter.unusedSimpArgs false
theorem toNat_ofInt64 (n : Int) : ((BitVec.ofInt 64 n).toNat : Int) = n % 18446744073709551616 := by
  rw [BitVec.toNat_ofInt]; omega
/-- A mask of k low bits. -/
theorem mask_i64 (n : Int) (k : Nat) (hk : k ≤ 62) (m : Int) (hm : m = ((2 ^ k - 1 : Nat) : Int)) : bits .and .i64 n m = n % ((2 ^ k : Nat) : Int) := by
  show IntKind.i64.wrap ((BitVec.ofInt 64 n &&& BitVec.ofInt 64 m).toNat : Int) = _
  have hp : 2 ^ k ≤ 2 ^ 62 := Nat.pow_le_pow_right (by decide) hk
  have hp0 : 0 < 2 ^ k := Nat.pow_pos (by decide)
  generalize hq : (2 ^ k : Nat) = q at *
  have e1 : (BitVec.ofInt 64 m).toNat = 2 ^ k - 1 := by
    rw [BitVec.toNat_ofInt, hm]; omega
  rw [BitVec.toNat_and, e1, Nat.and_two_pow_sub_one_eq_mod, hq, Int.natCast_emod, toNat_ofInt64]
  have hd : (q : Int) ∣ 18446744073709551616 := by
    rw [← hq, show (18446744073709551616 : Int) = ((2 ^ 64 : Nat) : Int) from rfl]
    exact Int.natCast_dvd_natCast.2 (Nat.pow_dvd_pow 2 (by omega))
  rw [Int.emod_emod_of_dvd _ hd, IntKind.wrap_i64]
  have a := Int.emod_nonneg n (show (q : Int) ≠ 0 by omega)
  have b := Int.emod_lt_of_pos n (show (0 : Int) < q by omega)
  omega
/-- The place of xs[i]. -/
theorem Rd.ix {h : Heap} {v : Value} {xs : List Value} {K : Ret} {k : IntKind} {i : Int} {x : Value} (hr : Rd h v xs) (h0 : 0 ≤ i) (hx : xs[i.toNat]? = some x) (hk : ∀ ad, cell h ad = some x → K (.pointer (some ad)) h) : Idx 1 v (.int k i) K h := by
  obtain ⟨a, cap, rfl, hcap, hc⟩ := hr
  have hlt : i.toNat < xs.length := by
    rcases Nat.lt_or_ge i.toNat xs.length with hl | hl
    · exact hl
    · rw [List.getElem?_eq_none hl] at hx; cases hx
  obtain ⟨ad, rfl, e2⟩ := hc _ _ hx
  rw [Idx_at]
  exact ⟨⟨h0, by omega⟩, hk _ (by simpa using e2)⟩
theorem Ld_cell {h : Heap} {K : Ret} {ad : Addr} {x : Value} (hc : cell h ad = some x) (hk : K x h) : Ld (.pointer (some ad)) K h := by
  rw [Ld_at, hc]; exact hk
theorem int_arg {h : Heap} {k : IntKind} {a : Int} {v : Value} (r : (rInt k).is h a [v]) : v = .int k a ∧ k.min ≤ a ∧ a ≤ k.max := by
  obtain ⟨e, h1, h2⟩ := r
  exact ⟨by simpa using e, h1, h2⟩
/-- What several ways come to, shown once. -/
theorem cut {T G : Prop} (main : T → G) (tail : T) : G := main tail
theorem cutIf {C T G : Prop} (main : (C → T) → G) (tail : C → T) : G := main tail
end Go.Pt
