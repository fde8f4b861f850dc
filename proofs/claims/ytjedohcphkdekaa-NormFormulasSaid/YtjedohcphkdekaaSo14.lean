/- What parting and sorting the parts come to. Conditions: those typed ahead of each theorem. -/
import Derived.Test.YtjedohcphkdekaaSo13
namespace Go.Proofs.Ytjedohcphkdekaa
open Go.Pt
set_option linter.unusedVariables false
set_option linter.unusedSimpArgs false
namespace So
section
variable {L : Int → Int → Prop} {a b mid : Nat} {f g : Nat → Int}
theorem Parted.left (q : Parted L a b mid f) (p : Pm a mid f g) : Parted L a b mid g := by
  obtain ⟨h1, h2, h3, h4⟩ := q
  have e : g mid = f mid := p.out mid (.inr (Nat.le_refl _))
  refine ⟨h1, h2, ?_, fun k k1 k2 => ?_⟩
  · rw [e]; exact p.all (Q := fun z => L z (f mid)) h3
  · rw [e, p.out k (.inr (by omega))]; exact h4 k k1 k2
theorem Parted.right (q : Parted L a b mid f) (p : Pm (mid + 1) b f g) : Parted L a b mid g := by
  obtain ⟨h1, h2, h3, h4⟩ := q
  have e : g mid = f mid := p.out mid (.inl (by omega))
  refine ⟨h1, h2, fun k k1 k2 => ?_, ?_⟩
  · rw [e, p.out k (.inl (by omega))]; exact h3 k k1 k2
  · rw [e]; exact fun k k1 k2 => p.all (Q := fun z => ¬ L z (f mid)) (fun k k1 k2 => h4 k (by omega) k2) k (by omega) k2
/-- Both parts sorted: the whole is. -/
theorem Parted.srt (o : Ord L) (q : Parted L a b mid g) (s1 : Srt L a mid g) (s2 : Srt L (mid + 1) b g) : Srt L a b g := by
  obtain ⟨h1, h2, h3, h4⟩ := q
  intro i j hi hij hj
  by_cases c1 : j < mid
  · exact s1 i j hi hij c1
  · by_cases c2 : mid < i
    · exact s2 i j (by omega) hij hj
    · have x : ¬ L (g j) (g mid) := by
        by_cases e : j = mid
        · rw [e]; exact o.irr _
        · exact h4 j (by omega) hj
      have y : ¬ L (g mid) (g i) := by
        by_cases e : i = mid
        · rw [e]; exact o.irr _
        · exact o.asymm (h3 i hi (by omega))
      exact o.nt x y
/-- The part that is like the pivot is sorted, and so is the whole when the rest is. -/
theorem Alike.srt (o : Ord L) (q : Alike L a b mid f) (hlow : ∀ k, a ≤ k → k < b → ¬ L (f k) (f a)) (p : Pm mid b f g) (s : Srt L mid b g) : Srt L a b g := by
  obtain ⟨h1, h2, h3, h4⟩ := q
  have eo : ∀ k, a ≤ k → k < mid → g k = f k := fun k _ k2 => p.out k (.inl k2)
  intro i j hi hij hj
  by_cases c2 : mid ≤ i
  · exact s i j c2 hij hj
  · rw [eo i hi (by omega)]
    have y : ¬ L (f a) (f i) := h3 i hi (by omega)
    have x : ¬ L (g j) (f a) := by
      by_cases c1 : j < mid
      · rw [eo j (by omega) c1]; exact hlow j (by omega) hj
      · exact p.all (Q := fun z => ¬ L z (f a)) (fun k k1 k2 => hlow k (by omega) k2) j (by omega) hj
    exact o.nt x y
end
end So
end Go.Proofs.Ytjedohcphkdekaa
