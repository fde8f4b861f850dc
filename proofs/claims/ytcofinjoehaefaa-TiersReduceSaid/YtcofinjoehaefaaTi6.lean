/- Reductions of an arena that was made of clauses; which ones are locked is looked up. Conditions: those typed ahead of each theorem. -/
import Derived.Test.YtcofinjoehaefaaTi5
namespace Go.Proofs.Ytcofinjoehaefaa
open Go.Pt
set_option linter.unusedVariables false
set_option linter.unusedSimpArgs false
/-- Which one begins there. -/
def atM (ds : List Dc) (i : Nat) : List (Int × Value) := (List.range i).map fun q : Nat => (((off (ds.map bC) q : Nat) : Int), Iv (q : Nat))
theorem atM_succ (ds : List Dc) (i : Nat) : atM ds (i + 1) = atM ds i ++ [(((off (ds.map bC) i : Nat) : Int), Iv (i : Nat))] := by unfold atM; rw [List.range_succ, List.map_append]; rfl
theorem look_atM (ds : List Dc) (q : Nat) : ∀ i, (atM ds i).lookup ((off (ds.map bC) q : Nat) : Int) = if q < i then some (Iv (q : Nat)) else none
  | 0 => by simp [atM]
  | i + 1 => by
    rw [atM_succ, List.lookup_append, look_atM ds q i]
    by_cases h : q < i
    · rw [if_pos h, if_pos (by omega)]; rfl
    · rw [if_neg h]
      by_cases e : q = i
      · subst e
        rw [if_pos (by omega)]
        simp [List.lookup]
      · rw [if_neg (by omega)]
        have : (((off (ds.map bC) q : Nat) : Int) == ((off (ds.map bC) i : Nat) : Int)) = false := by
          rw [beq_eq_false_iff_ne]; intro h; exact e (off_inj (cs := ds.map bC) (by omega))
        simp [List.lookup, this]
def lkF (ds : List Dc) (r : Int) : Bool := (List.range ds.length).any fun q => decide (((off (ds.map bC) q : Nat) : Int) = r) && (ds.getD q (false, 0, 0, 0, false)).2.2.2.2
theorem lkF_off {ds : List Dc} {k : Nat} {d : Dc} (h : ds[k]? = some d) : lkF ds ((off (ds.map bC) k : Nat) : Int) = d.2.2.2.2 := by
  have hl := (List.getElem?_eq_some_iff.1 h).1
  unfold lkF
  rw [Bool.eq_iff_iff, List.any_eq_true]
  constructor
  · rintro ⟨q, hq, e⟩
    rw [Bool.and_eq_true, decide_eq_true_eq] at e
    have : q = k := off_inj (cs := ds.map bC) (by omega)
    subst this
    rw [List.getD_eq_getElem?_getD, h] at e; exact e.2
  · intro e
    refine ⟨k, List.mem_range.2 hl, ?_⟩
    rw [List.getD_eq_getElem?_getD, h, Bool.and_eq_true, decide_eq_true_eq]
    exact ⟨rfl, e⟩
/-- Made of these clauses; who stands for ever is there. -/
structure Rel (ds : List Dc) (lo hi : Int) (cs : List Cl) : Prop where
  len : cs.length = ds.length
  at' : ∀ (k : Nat) (d : Dc), ds[k]? = some d → ∃ u gn, cs[k]? = some { bC d with uses := u, gone := gn } ∧ ((tierC (some (bC d)) lo hi < 1 ∨ d.2.2.2.2 = true) → gn = false)
theorem Rel.off {ds : List Dc} {lo hi : Int} {cs : List Cl} (r : Rel ds lo hi cs) (k : Nat) : Go.Proofs.Ytcofinjoehaefaa.off cs k = Go.Proofs.Ytcofinjoehaefaa.off (ds.map bC) k :=
  off_congr fun j _ => by
    rw [List.getD_eq_getElem?_getD, List.getD_eq_getElem?_getD, List.getElem?_map]
    cases e : ds[j]? with
    | none =>
      have : cs[j]? = none := by rw [List.getElem?_eq_none_iff] at *; rw [r.len]; exact e
      rw [this]; rfl
    | some d =>
      obtain ⟨u, gn, h1, _⟩ := r.at' j d e
      rw [h1]; rfl
end Go.Proofs.Ytcofinjoehaefaa
