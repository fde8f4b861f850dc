/- What is told of variables, plain, and the example. Conditions: those typed ahead of each theorem. -/
import Derived.Test.YtonngdjfnnibaaaLo11
namespace Go.Proofs.Ytonngdjfnnibaaa
open Go.Pt
set_option linter.unusedVariables false
set_option linter.unusedSimpArgs false
/-- How many clauses break, and make. -/
def brT (a : List Bool) (F : List (List Int)) (v : Nat) : Int := (F.map fun c => if hB (litT a) c = 1 ∧ sB (litT a) c = (v : Nat) then 1 else 0).sum
def mkT (a : List Bool) (F : List (List Int)) (v : Nat) : Int := (F.map fun c => if hB (litT a) c = 0 then cntV c v else 0).sum
theorem smI_map {F : List (List Int)} {g : Nat → Int} {f : List Int → Int} (h : ∀ (i : Nat) (c : List Int), F[i]? = some c → g i = f c) : smI F.length g = (F.map f).sum := by
  have e : (List.range F.length).map g = F.map f := by
    refine List.ext_getElem (by simp) fun i h1 h2 => ?_
    rw [List.getElem_map, List.getElem_map, List.getElem_range]
    exact h i _ (List.getElem?_eq_getElem (by simpa using h2))
  unfold smI; rw [e]
section
variable {n : Nat} {m : LMod} {F : List (List Int)} {a z : List Bool} {few fl : Int} (r : Rt n m F a z few fl)
include r
theorem Rt.brv {v : Nat} (hv : v ≤ n) : m.br v = brT a F v := by
  rw [r.cnt.br v hv, r.ek]
  exact smI_map fun i c hc => by rw [r.H i c hc, r.S i c hc]; simp
theorem Rt.rowm (i : Nat) : i ∈ m.row ↔ ∃ c, F[i]? = some c ∧ hB (litT a) c = 0 := by
  rw [r.cnt.mem, r.ek]
  constructor
  · rintro ⟨h1, _, h2⟩
    obtain ⟨c, hc, _⟩ := getF h1
    exact ⟨c, hc, by rw [← r.H i c hc]; exact h2⟩
  · rintro ⟨c, hc, h2⟩
    exact ⟨(someF hc).1, rfl, by rw [r.H i c hc]; exact h2⟩
end
end Go.Proofs.Ytonngdjfnnibaaa
