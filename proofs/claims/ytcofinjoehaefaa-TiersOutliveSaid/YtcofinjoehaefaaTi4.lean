/- How many clauses are there, and how many go. No condition. -/
import Derived.Test.YtcofinjoehaefaaTi3
namespace Go.Proofs.Ytcofinjoehaefaa
open Go.Pt
set_option linter.unusedVariables false
set_option linter.unusedSimpArgs false
theorem wds_bd {m : Nat} : ∀ {cs : List Cl}, (∀ c ∈ cs, c.lits.length ≤ m) → (wds cs).length ≤ cs.length * (3 + m)
  | [], _ => by simp [wds]
  | c :: cs, h => by
    have := wds_bd (m := m) (cs := cs) fun d hd => h d (by simp [hd])
    have h1 := h c (by simp)
    have e : wds (c :: cs) = enc c ++ wds cs := by simp [wds]
    rw [e, List.length_append, enc_len, List.length_cons, Nat.add_mul]
    omega
theorem mayN {lo hi : Int} {lk : Int → Bool} {cs : List Cl} (p : Cl → Bool) (hg : ∀ k c, cs[k]? = some c → goesK lo hi lk cs k = p c) : (mayL lo hi lk cs cs.length).length = cs.countP p := by
  have e : cs = (List.range cs.length).map fun i => cs.getD i ⟨[], false, 0, 0, true⟩ := by
    refine List.ext_getElem (by simp) fun i h1 h2 => ?_
    rw [List.getElem_map, List.getElem_range, List.getD_eq_getElem?_getD, List.getElem?_eq_getElem h1]; rfl
  conv => rhs; rw [e]
  unfold mayL
  rw [List.length_map, List.countP_map, List.countP_eq_length_filter]
  congr 1
  refine List.filter_congr fun k hk => ?_
  rw [List.mem_range] at hk
  have hgk := List.getElem?_eq_getElem hk
  rw [hg k _ hgk]
  simp only [Function.comp]
  rw [List.getD_eq_getElem?_getD, hgk]; rfl
theorem redC_mem {lo hi : Int} {cs : List Cl} {S : List Int} {c : Cl} (h : c ∈ redC lo hi cs S) : ∃ k d, cs[k]? = some d ∧ c = { useC lo hi d with gone := d.gone || decide (((off cs k : Nat) : Int) ∈ S) } := by
  obtain ⟨k, hk, e⟩ := List.getElem_of_mem h
  rw [redC_len] at hk
  have hg := List.getElem?_eq_getElem hk
  refine ⟨k, _, hg, ?_⟩
  have h2 := redC_get (lo := lo) (hi := hi) S hg
  rw [← e]
  have h3 : (redC lo hi cs S)[k]? = some ((redC lo hi cs S)[k]'(by rw [redC_len]; exact hk)) := List.getElem?_eq_getElem _
  rw [h2] at h3
  exact (Option.some.inj h3).symm
/-- All may go that are there. -/
def Out (cs : List Cl) : Prop := ∀ c ∈ cs, c.lrn = true ∧ 3 ≤ c.lits.length ∧ 6 < c.glue ∧ c.uses = 0
theorem Out.tier {cs : List Cl} (o : Out cs) {c : Cl} (hc : c ∈ cs) : tierC (some c) 2 6 = 2 := by
  obtain ⟨h1, h2, h3, h4⟩ := o c hc
  unfold tierC
  rw [if_pos (show lrnO (some c) = true from h1), if_neg, if_neg]
  · show ¬ c.glue ≤ 6; omega
  · show ¬ (c.glue ≤ 2 ∨ ((c.lits.length : Nat) : Int) ≤ 2); omega
theorem Out.may {cs : List Cl} (o : Out cs) : (mayL 2 6 noL cs cs.length).length = liveN cs := by
  refine mayN (fun c => !c.gone) fun k c hk => ?_
  have hm := List.mem_of_getElem? hk
  rw [goesK_some hk, o.tier hm, (o c hm).2.2.2]
  cases c.gone <;> rfl
theorem Out.red {cs : List Cl} (o : Out cs) (S : List Int) : Out (redC 2 6 cs S) := by
  intro c hc
  obtain ⟨k, d, hd, rfl⟩ := redC_mem hc
  have := o d (List.mem_of_getElem? hd)
  have e : useC 2 6 d = d := by unfold useC; rw [if_neg (by rw [this.2.2.2]; simp)]
  rw [e]
  exact this
def outC (b : Int) (i : Nat) : List Cl := (List.range i).map fun q : Nat => ⟨List.replicate (3 + q % 4) 0, true, 10 + b, 0, false⟩
theorem outC_succ (b : Int) (i : Nat) : outC b (i + 1) = outC b i ++ [⟨List.replicate (3 + i % 4) 0, true, 10 + b, 0, false⟩] := by unfold outC; rw [List.range_succ, List.map_append]; rfl
theorem outC_len (b : Int) (i : Nat) : (outC b i).length = i := by simp [outC]
theorem outC_bd (b : Int) (i : Nat) : (wds (outC b i)).length ≤ i * 9 := by
  have := wds_bd (m := 6) (cs := outC b i) fun c hc => by
    unfold outC at hc
    obtain ⟨q, _, rfl⟩ := List.mem_map.1 hc
    simp only [List.length_replicate]; omega
  rwa [outC_len] at this
theorem outC_out {b : Int} (hb : 0 ≤ b) (i : Nat) : Out (outC b i) := by
  intro c hc
  unfold outC at hc
  obtain ⟨q, _, rfl⟩ := List.mem_map.1 hc
  exact ⟨rfl, by simp, by simp only; omega, rfl⟩
theorem outC_live (b : Int) (i : Nat) : liveN (outC b i) = i := by
  unfold liveN
  rw [List.countP_eq_length.2 fun c hc => ?_, outC_len]
  unfold outC at hc
  obtain ⟨q, _, rfl⟩ := List.mem_map.1 hc
  rfl
end Go.Proofs.Ytcofinjoehaefaa
