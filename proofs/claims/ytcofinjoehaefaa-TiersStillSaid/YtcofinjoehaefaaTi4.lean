/- How many clauses are there, and how many go. No condition. -/
import Derived.Test.YtcofinjoehaefaaTi3
namespace Go.Proofs.Ytcofinjoehaefaa
open Go.Pt
set_option linter.unusedVariables false
set_option linter.unusedSimpArgs false
theorem wds_bd {m : Nat} : ∀ {cs : List Cl}, (∀ c ∈ cs, c.lits.length ≤ m) → (wds cs).length ≤ cs.length * (3 + m)
  | [], _ => by simp [wds]
  | c :: cs, h => by
    have := wds_bd (m := m) (cs := cs) fun d hd => h d (by simp [hd])
    have h1 := h c (by simp)
    have e : wds (c :: cs) = enc c ++ wds cs := by simp [wds]
    rw [e, List.length_append, enc_len, List.length_cons, Nat.add_mul]
    omega
theorem redC_mem {lo hi : Int} {cs : List Cl} {S : List Int} {c : Cl} (h : c ∈ redC lo hi cs S) : ∃ k d, cs[k]? = some d ∧ c = { useC lo hi d with gone := d.gone || decide (((off cs k : Nat) : Int) ∈ S) } := by
  obtain ⟨k, hk, e⟩ := List.getElem_of_mem h
  rw [redC_len] at hk
  have hg := List.getElem?_eq_getElem hk
  refine ⟨k, _, hg, ?_⟩
  have h2 := redC_get (lo := lo) (hi := hi) S hg
  rw [← e]
  have h3 : (redC lo hi cs S)[k]? = some ((redC lo hi cs S)[k]'(by rw [redC_len]; exact hk)) := List.getElem?_eq_getElem _
  rw [h2] at h3
  exact (Option.some.inj h3).symm
/-- All may go that are there. -/
def Out (cs : List Cl) : Prop := ∀ c ∈ cs, c.lrn = true ∧ 3 ≤ c.lits.length ∧ 6 < c.glue ∧ c.uses = 0
theorem Out.red {cs : List Cl} (o : Out cs) (S : List Int) : Out (redC 2 6 cs S) := by
  intro c hc
  obtain ⟨k, d, hd, rfl⟩ := redC_mem hc
  have := o d (List.mem_of_getElem? hd)
  have e : useC 2 6 d = d := by unfold useC; rw [if_neg (by rw [this.2.2.2]; simp)]
  rw [e]
  exact this
def outC (b : Int) (i : Nat) : List Cl := (List.range i).map fun q : Nat => ⟨List.replicate (3 + q % 4) 0, true, 10 + b, 0, false⟩
end Go.Proofs.Ytcofinjoehaefaa
