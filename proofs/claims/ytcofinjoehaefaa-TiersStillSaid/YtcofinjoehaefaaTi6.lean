/- Reductions of an arena that was made of clauses; which ones are locked is looked up. Conditions: those typed ahead of each theorem. -/
import Derived.Test.YtcofinjoehaefaaTi5
namespace Go.Proofs.Ytcofinjoehaefaa
open Go.Pt
set_option linter.unusedVariables false
set_option linter.unusedSimpArgs false
theorem AddU8 {a b : Int} {K : Ret} {h : Heap} (h0 : 0 ≤ a + b) (h1 : a + b ≤ 255) : Bin .int .add (.int .u8 a) (.int .u8 b) K h = K (.int .u8 (a + b)) h := by
  rw [Bin_add]
  have : IntKind.u8.wrap (a + b) = a + b := by
    have : IntKind.u8.wrap (a + b) = (a + b) % 256 := by simp [IntKind.wrap, IntKind.bits, IntKind.signed]
    omega
  rw [this]
theorem pair_arg8 {k : IntKind} {h : Heap} {xs : List Int} {cs : Array Value} (r : (rArr 2 (rInt k) 1).is h xs cs.toList) : ∃ x y : Int, cs = #[.int k x, .int k y] ∧ (k.min ≤ x ∧ x ≤ k.max) ∧ (k.min ≤ y ∧ y ≤ k.max) := by
  obtain ⟨h1, h2, h3⟩ := r
  match xs, h1 with
  | [a, b], _ =>
    obtain ⟨l⟩ := cs
    match l, h2 with
    | [d, e], _ =>
      obtain ⟨e0, l0, u0⟩ := h3 0 a rfl
      obtain ⟨e1, l1, u1⟩ := h3 1 b rfl
      have e0 : d = .int k a := by simpa using e0
      have e1 : e = .int k b := by simpa using e1
      exact ⟨a, b, by rw [e0, e1], ⟨l0, u0⟩, ⟨l1, u1⟩⟩
/-- Which one begins there. -/
def atM (ds : List Dc) (i : Nat) : List (Int × Value) := (List.range i).map fun q : Nat => (((off (ds.map bC) q : Nat) : Int), Iv (q : Nat))
theorem atM_succ (ds : List Dc) (i : Nat) : atM ds (i + 1) = atM ds i ++ [(((off (ds.map bC) i : Nat) : Int), Iv (i : Nat))] := by unfold atM; rw [List.range_succ, List.map_append]; rfl
theorem look_atM (ds : List Dc) (q : Nat) : ∀ i, (atM ds i).lookup ((off (ds.map bC) q : Nat) : Int) = if q < i then some (Iv (q : Nat)) else none
  | 0 => by simp [atM]
  | i + 1 => by
    rw [atM_succ, List.lookup_append, look_atM ds q i]
    by_cases h : q < i
    · rw [if_pos h, if_pos (by omega)]; rfl
    · rw [if_neg h]
      by_cases e : q = i
      · subst e
        rw [if_pos (by omega)]
        simp [List.lookup]
      · rw [if_neg (by omega)]
        have : (((off (ds.map bC) q : Nat) : Int) == ((off (ds.map bC) i : Nat) : Int)) = false := by
          rw [beq_eq_false_iff_ne]; intro h; exact e (off_inj (cs := ds.map bC) (by omega))
        simp [List.lookup, this]
def lkF (ds : List Dc) (r : Int) : Bool := (List.range ds.length).any fun q => decide (((off (ds.map bC) q : Nat) : Int) = r) && (ds.getD q (false, 0, 0, 0, false)).2.2.2.2
theorem lkF_off {ds : List Dc} {k : Nat} {d : Dc} (h : ds[k]? = some d) : lkF ds ((off (ds.map bC) k : Nat) : Int) = d.2.2.2.2 := by
  have hl := (List.getElem?_eq_some_iff.1 h).1
  unfold lkF
  rw [Bool.eq_iff_iff, List.any_eq_true]
  constructor
  · rintro ⟨q, hq, e⟩
    rw [Bool.and_eq_true, decide_eq_true_eq] at e
    have : q = k := off_inj (cs := ds.map bC) (by omega)
    subst this
    rw [List.getD_eq_getElem?_getD, h] at e; exact e.2
  · intro e
    refine ⟨k, List.mem_range.2 hl, ?_⟩
    rw [List.getD_eq_getElem?_getD, h, Bool.and_eq_true, decide_eq_true_eq]
    exact ⟨rfl, e⟩
/-- Made of these clauses; who stands for ever is there. -/
structure Rel (ds : List Dc) (lo hi : Int) (cs : List Cl) : Prop where
  len : cs.length = ds.length
  at' : ∀ (k : Nat) (d : Dc), ds[k]? = some d → ∃ u gn, cs[k]? = some { bC d with uses := u, gone := gn } ∧ ((tierC (some (bC d)) lo hi < 1 ∨ d.2.2.2.2 = true) → gn = false)
theorem Rel.off {ds : List Dc} {lo hi : Int} {cs : List Cl} (r : Rel ds lo hi cs) (k : Nat) : Go.Proofs.Ytcofinjoehaefaa.off cs k = Go.Proofs.Ytcofinjoehaefaa.off (ds.map bC) k :=
  off_congr fun j _ => by
    rw [List.getD_eq_getElem?_getD, List.getD_eq_getElem?_getD, List.getElem?_map]
    cases e : ds[j]? with
    | none =>
      have : cs[j]? = none := by rw [List.getElem?_eq_none_iff] at *; rw [r.len]; exact e
      rw [this]; rfl
    | some d =>
      obtain ⟨u, gn, h1, _⟩ := r.at' j d e
      rw [h1]; rfl
theorem Rel.start (ds : List Dc) (lo hi : Int) : Rel ds lo hi (ds.map bC) := ⟨by simp, fun k d h => ⟨(bC d).uses, false, by rw [List.getElem?_map, h]; rfl, fun _ => rfl⟩⟩
theorem tier_alike {c d : Cl} {lo hi : Int} (h1 : c.lits = d.lits) (h2 : c.lrn = d.lrn) (h3 : c.glue = d.glue) : tierC (some c) lo hi = tierC (some d) lo hi := by
  unfold tierC
  rw [show lrnO (some c) = lrnO (some d) from h2, show glueO (some c) = glueO (some d) from h3, show lenO (some c) = lenO (some d) from by show c.lits.length = d.lits.length; rw [h1]]
theorem Rel.red {ds : List Dc} {lo hi : Int} {cs : List Cl} (r : Rel ds lo hi cs) {S : List Int} (hS : ∀ x ∈ S, x ∈ mayL lo hi (lkF ds) cs cs.length) : Rel ds lo hi (redC lo hi cs S) := by
  refine ⟨by rw [redC_len, r.len], fun k d hd => ?_⟩
  obtain ⟨u, gn, h1, h2⟩ := r.at' k d hd
  have hr := redC_get (lo := lo) (hi := hi) S h1
  have e1 := useC_lits lo hi { bC d with uses := u, gone := gn }
  have e2 := useC_lrn lo hi { bC d with uses := u, gone := gn }
  have e3 := useC_glue lo hi { bC d with uses := u, gone := gn }
  generalize useC lo hi { bC d with uses := u, gone := gn } = c at *
  refine ⟨c.uses, gn || decide (((Go.Proofs.Ytcofinjoehaefaa.off cs k : Nat) : Int) ∈ S), ?_, fun hs => ?_⟩
  · rw [hr]
    show some (⟨c.lits, c.lrn, c.glue, c.uses, gn || _⟩ : Cl) = some ⟨(bC d).lits, (bC d).lrn, (bC d).glue, c.uses, gn || _⟩
    rw [e1, e2, e3]
  · rw [h2 hs, Bool.false_or, decide_eq_false_iff_not]
    intro hm
    obtain ⟨q, q1, q2, q3⟩ := mayL_mem.1 (hS _ hm)
    have : k = q := off_inj (cs := cs) (by omega)
    subst this
    rw [goesK_some h1, r.off, lkF_off hd] at q2
    simp only [Bool.and_eq_true, decide_eq_true_eq, Bool.not_eq_true'] at q2
    rw [tier_alike (c := { bC d with uses := u, gone := gn }) (d := bC d) rfl rfl rfl] at q2
    rcases hs with hs | hs
    · omega
    · rw [hs] at q2; exact absurd q2.2 (by simp)
end Go.Proofs.Ytcofinjoehaefaa
