/- How many clauses are there, and how many go. No condition. -/
import Derived.Test.YtcofinjoehaefaaTi3
namespace Go.Proofs.Ytcofinjoehaefaa
open Go.Pt
set_option linter.unusedVariables false
set_option linter.unusedSimpArgs false
theorem wds_bd {m : Nat} : ∀ {cs : List Cl}, (∀ c ∈ cs, c.lits.length ≤ m) → (wds cs).length ≤ cs.length * (3 + m)
  | [], _ => by simp [wds]
  | c :: cs, h => by
    have := wds_bd (m := m) (cs := cs) fun d hd => h d (by simp [hd])
    have h1 := h c (by simp)
    have e : wds (c :: cs) = enc c ++ wds cs := by simp [wds]
    rw [e, List.length_append, enc_len, List.length_cons, Nat.add_mul]
    omega
/-- All may go that are there. -/
def Out (cs : List Cl) : Prop := ∀ c ∈ cs, c.lrn = true ∧ 3 ≤ c.lits.length ∧ 6 < c.glue ∧ c.uses = 0
def outC (b : Int) (i : Nat) : List Cl := (List.range i).map fun q : Nat => ⟨List.replicate (3 + q % 4) 0, true, 10 + b, 0, false⟩
end Go.Proofs.Ytcofinjoehaefaa
