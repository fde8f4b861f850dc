/- The way to a state and to the clauses in one form. Conditions: those typed ahead of each theorem. -/
import Derived.Test.YtonngdjfnnibaaaLo17
namespace Go.Proofs.Ytonngdjfnnibaaa
open Go.Pt
set_option linter.unusedVariables false
set_option linter.unusedSimpArgs false
theorem OwnF.frd {h h' : Heap} {v : Value} {N : Nat} {b0 S : List Nat} {ps : List (Value × List Int × List Nat)} (o : OwnF h v N b0 ps) (f : Fr S h h') (h0 : ∀ b ∈ b0, b ∉ S) (h1 : ∀ p ∈ ps, ∀ b ∈ p.2.2, b ∉ S) : OwnF h' v N b0 ps :=
  ⟨o.own.fr f h0, fun p hp => (o.each p hp).fr f (h1 p hp), o.lo, o.los, o.dj⟩
theorem FrN.frS {N : Nat} {S : List Nat} {H h h' : Heap} (g : FrN N h h') (f : Fr S H h) (hN : H.size ≤ N) : Fr S H h' := ⟨Nat.le_trans f.size g.size, fun c hc hS => (g.keep c (Nat.lt_of_lt_of_le hc f.size) (by omega)).trans (f.keep c hc hS)⟩
end Go.Proofs.Ytonngdjfnnibaaa
