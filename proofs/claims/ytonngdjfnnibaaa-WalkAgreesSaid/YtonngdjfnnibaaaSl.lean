/- Tails of slices of one's own, cutting and clearing. Conditions: those typed ahead of each theorem. -/
import Derived.Test.YtonngdjfnnibaaaFn
import Derived.Test.YtonngdjfnnibaaaPtS
namespace Go.Proofs.Ytonngdjfnnibaaa
open Go.Pt
set_option linter.unusedVariables false
set_option linter.unusedSimpArgs false
theorem Clr_none {K : Ret} {h : Heap} (z : Value) (a : Addr) (c : Nat) (hk : K (.tuple #[]) h) : Clr #[z] (.slice (some a) 0 c) K h := by
  refine ⟨?_⟩
  have e : (Builtin.zeroCells #[z] 0).toList = [] := by simp [Builtin.zeroCells]
  simp only [e, stores]
  exact hk
/-- v2 is v from k on. -/
structure Tail (v v2 : Value) (n k : Nat) (bs : List Nat) : Prop where
  rd : ∀ {h : Heap} {xs : List Value}, Own h v xs bs → xs.length = n → Rd h v2 (xs.drop k)
  clr : ∀ {h : Heap} {xs : List Value} {K : Ret} {z : Value}, Own h v xs bs → xs.length = n → isCell z = true → (∀ h', Own h' v (xs.take k ++ List.replicate (n - k) z) bs → Fr bs h h' → K (.tuple #[]) h') → Clr #[z] v2 K h
theorem zero_cells (z : Value) (n : Nat) : (Builtin.zeroCells #[z] n).toList = List.replicate n z := by
  have := zeros_one z n
  simpa [Builtin.zeroCells] using this
theorem Own.tail {h : Heap} {v : Value} {xs : List Value} {bs : List Nat} {K : Ret} {k : Int} {kd : IntKind} (o : Own h v xs bs) (h0 : 0 ≤ k) (h1 : k.toNat ≤ xs.length) (hk : ∀ v2, Tail v v2 xs.length k.toNat bs → K v2 h) : Slc 1 v (some (.int kd k)) none none K h := by
  rcases o with ⟨rfl, rfl, rfl⟩ | ⟨b, rest, rfl, hb, rfl⟩
  · have hz : k.toNat = 0 := by simpa using h1
    have hz' : k = 0 := by omega
    subst hz'
    rw [Slc_eq]
    have e : bounds3 0 0 (some (.int kd 0)) none none = some (0, 0, 0) := by simp [bounds3, bound]
    rw [e]
    refine hk _ ⟨fun {h xs} o hl => ?_, fun {h xs K z} o hl hz hk => ?_⟩
    · have : xs = [] := List.length_eq_zero_iff.1 hl
      subst this
      exact Rd.nil _
    · have : xs = [] := List.length_eq_zero_iff.1 hl
      subst this
      exact ⟨hk h o (Fr.refl _ _)⟩
  · rw [Slc_eq]
    have e : bounds3 xs.length (xs.length + rest.length) (some (.int kd k)) none none = some (k.toNat, xs.length, xs.length + rest.length) := by
      have e1 : k ≤ (xs.length : Int) := by omega
      simp [bounds3, bound, h0, e1]
    rw [e]
    show K (Value.slice (if xs.length + rest.length = k.toNat then some ⟨b, 0, none⟩ else (some (⟨b, 0, none⟩ : Addr)).map (·.add (k.toNat * 1))) (xs.length - k.toNat) (xs.length + rest.length - k.toNat)) h
    obtain ⟨n, hn⟩ : ∃ n, xs.length = n := ⟨_, rfl⟩
    rw [hn] at h1 hk ⊢
    refine hk _ ⟨fun {h' xs'} o hl => ?_, fun {h' xs' K' z} o hl hz hk' => ?_⟩
    · obtain ⟨a, cap, e1, e2, e3⟩ := o.rd
      cases e1
      refine ⟨_, _, by rw [List.length_drop, hl], by rw [List.length_drop]; omega, fun i x hx => ?_⟩
      rw [List.getElem?_drop] at hx
      have hlt : k.toNat + i < xs'.length := by
        rcases Nat.lt_or_ge (k.toNat + i) xs'.length with q | q
        · exact q
        · rw [List.getElem?_eq_none q] at hx; cases hx
      rw [if_neg (by omega)]
      refine ⟨_, rfl, ?_⟩
      obtain ⟨ad, q1, q2⟩ := e3 _ _ hx
      cases q1
      rw [Nat.mul_one, addr_add_add]; exact q2
    · by_cases hk0 : n = k.toNat
      · have e0 : xs'.take k.toNat ++ List.replicate (n - k.toNat) z = xs' := by rw [List.take_of_length_le (by omega), hk0]; simp
        rw [e0] at hk'
        rw [show n - k.toNat = 0 by omega]
        split
        · exact Clr_none _ _ _ (hk' _ o (Fr.refl _ _))
        · exact Clr_none _ _ _ (hk' _ o (Fr.refl _ _))
      · rcases o with ⟨e1, _⟩ | ⟨b', rest', e1, hb', e3⟩
        · cases e1
        · cases e3
          obtain ⟨h2, q1, q2, q3⟩ := stores_blk (o := k.toNat) (List.replicate (n - k.toNat) z) h' (xs' ++ rest') 0 hb' (by simp; omega) (by intro y hy; rw [(List.mem_replicate.1 hy).2]; exact hz)
          rw [if_neg (by omega)]
          refine ⟨?_⟩
          show (match stores h' ((⟨b, 0, none⟩ : Addr).add (k.toNat * 1)) 0 (Builtin.zeroCells #[z] (n - k.toNat)).toList with | some h' => K' (.tuple #[]) h' | none => False)
          rw [add_mk, Nat.zero_add, Nat.mul_one, zero_cells, q1]
          refine hk' h2 (.inr ⟨b, rest', ?_, ?_, rfl⟩) q3
          · rw [e1]; simp; omega
          · have e4 : List.take (k.toNat + 0) (xs' ++ rest') ++ List.replicate (n - k.toNat) z ++ List.drop (k.toNat + 0 + (List.replicate (n - k.toNat) z).length) (xs' ++ rest') = xs'.take k.toNat ++ List.replicate (n - k.toNat) z ++ rest' := by
              rw [List.take_append_of_le_length (by omega), List.length_replicate, show k.toNat + 0 + (n - k.toNat) = xs'.length from by omega, List.drop_append_of_le_length (Nat.le_refl _), List.drop_length]
              simp
            rw [e4] at q2; exact q2
/-- s[:k] -/
theorem Own.front {h : Heap} {v : Value} {xs : List Value} {bs : List Nat} {K : Ret} {k : Int} {kd : IntKind} (o : Own h v xs bs) (h0 : 0 ≤ k) (h1 : k.toNat ≤ xs.length) (hk : ∀ v2, Own h v2 (xs.take k.toNat) bs → K v2 h) : Slc 1 v none (some (.int kd k)) none K h := by
  rcases o with ⟨rfl, rfl, rfl⟩ | ⟨b, rest, rfl, hb, rfl⟩
  · have hz : k.toNat = 0 := by simpa using h1
    have hz' : k = 0 := by omega
    subst hz'
    rw [Slc_eq]
    have e : bounds3 0 0 none (some (.int kd 0)) none = some (0, 0, 0) := by simp [bounds3, bound]
    rw [e]
    exact hk _ (Own.nil h)
  · rw [Slc_eq]
    have e : bounds3 xs.length (xs.length + rest.length) none (some (.int kd k)) none = some (0, k.toNat, xs.length + rest.length) := by
      have e1 : k ≤ (xs.length : Int) + rest.length := by omega
      simp [bounds3, bound, h0, e1]
    rw [e]
    show K (Value.slice (if xs.length + rest.length = 0 then some ⟨b, 0, none⟩ else (some (⟨b, 0, none⟩ : Addr)).map (·.add (0 * 1))) (k.toNat - 0) (xs.length + rest.length - 0)) h
    have e2 : (if xs.length + rest.length = 0 then some (⟨b, 0, none⟩ : Addr) else (some (⟨b, 0, none⟩ : Addr)).map (·.add (0 * 1))) = some ⟨b, 0, none⟩ := by split <;> rfl
    rw [e2]
    refine hk _ (.inr ⟨b, xs.drop k.toNat ++ rest, ?_, ?_, rfl⟩)
    · simp; omega
    · rw [← List.append_assoc, List.take_append_drop]; exact hb
end Go.Proofs.Ytonngdjfnnibaaa
