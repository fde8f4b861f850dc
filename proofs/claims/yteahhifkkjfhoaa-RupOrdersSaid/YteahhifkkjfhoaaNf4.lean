/- Formulas in one form. Conditions: those typed ahead of each theorem. -/
import Derived.Test.YteahhifkkjfhoaaNf
import Derived.Test.YteahhifkkjfhoaaCf2
namespace Go.Proofs.Yteahhifkkjfhoaa
open Go.Pt
set_option linter.unusedVariables false
set_option linter.unusedSimpArgs false
abbrev Ps := List (Value × List Int × List Nat)
/-- A clause more. -/
theorem OwnF.add {h h' : Heap} {cv cv' u : Value} {N M : Nat} {b0 b0' bs : List Nat} {ps : Ps} {c : List Int} (oF : OwnF h cv N b0 ps) (hM : ∀ b ∈ b0, b < M) (hM2 : ∀ p ∈ ps, ∀ b ∈ p.2.2, b < M) (o : Own h u (c.map Iv) bs) (hbs : ∀ b ∈ bs, M ≤ b) (hNM : N ≤ M) (hN : N ≤ h.size) (f : Fr b0 h h')
    (o' : Own h' cv' (ps.map (·.1) ++ [u]) b0') (hb : ∀ b ∈ b0', b ∈ b0 ∨ h.size ≤ b) : OwnF h' cv' N b0' (ps ++ [(u, c, bs)]) := by
  have hlt := o.lt
  refine ⟨by simp only [List.map_append, List.map_cons, List.map_nil]; exact o', fun p hp => ?_, fun b hm => ?_, fun p hp b hm => ?_, ?_⟩
  · rcases List.mem_append.1 hp with q | q
    · exact (oF.each p q).fr f fun b hb hm => (oF.los p q b hb).2 hm
    · simp at q; subst q; exact o.fr f fun b hb hm => by have := hbs b hb; have := hM b hm; omega
  · rcases hb b hm with q | q
    · exact oF.lo b q
    · omega
  · rcases List.mem_append.1 hp with q | q
    · refine ⟨(oF.los p q b hm).1, fun hm' => ?_⟩
      rcases hb b hm' with y | y
      · exact (oF.los p q b hm).2 y
      · have := oF.lt.2 p q b hm; omega
    · simp at q; subst q
      refine ⟨by have := hbs b hm; omega, fun hm' => ?_⟩
      rcases hb b hm' with y | y
      · have := hbs b hm; have := hM b y; omega
      · have := hlt b hm; omega
  · rw [List.pairwise_append]
    refine ⟨oF.dj, List.pairwise_singleton _ _, fun p hp q hq b hb hm => ?_⟩
    simp at hq; subst hq
    have := hbs b hm; have := hM2 p hp b hb; omega
/-- The clauses that do not always hold, in one form. -/
def fmT (cs : List (List Int)) : List (List Int) := (cs.filter fun c => !taut c).map nf
def emT (cs : List (List Int)) : Bool := cs.any fun c => !taut c && decide (c.length = 0)
theorem get_take {α : Type} {xs : List α} {i : Nat} {x : α} (h : xs[i]? = some x) : xs.take (i + 1) = xs.take i ++ [x] := by rw [List.take_add_one, h]; rfl
theorem fmT_step {cs : List (List Int)} {i : Nat} {c : List Int} (h : cs[i]? = some c) : fmT (cs.take (i + 1)) = fmT (cs.take i) ++ (if !taut c then [nf c] else []) := by
  unfold fmT
  rw [get_take h, List.filter_append, List.map_append, List.filter_cons, List.filter_nil]
  split <;> rfl
theorem emT_step {cs : List (List Int)} {i : Nat} {c : List Int} (h : cs[i]? = some c) : emT (cs.take (i + 1)) = (emT (cs.take i) || (!taut c && decide (c.length = 0))) := by
  unfold emT
  rw [get_take h, List.any_append, List.any_cons, List.any_nil, Bool.or_false]
theorem fmT_len (cs : List (List Int)) : (fmT cs).length ≤ cs.length := by
  unfold fmT; rw [List.length_map]; exact List.length_filter_le _ _
theorem litT_neg {a : List Bool} {l : Int} (h0 : l ≠ 0) : litT a (-l) = !litT a l := by
  unfold litT
  rw [Int.natAbs_neg]
  by_cases p : l > 0
  · rw [decide_eq_true p, decide_eq_false (show ¬ (-l > 0) by omega)]
    cases a.getD (l.natAbs - 1) false <;> rfl
  · rw [decide_eq_false p, decide_eq_true (show -l > 0 by omega)]
    cases a.getD (l.natAbs - 1) false <;> rfl
theorem taut_true {a : List Bool} {c : List Int} (hz : ∀ x ∈ c, x ≠ 0) (h : taut c = true) : clT a c = true := by
  obtain ⟨x, h1, h2⟩ := taut_iff.1 h
  cases e : litT a x with
  | true => exact List.any_eq_true.2 ⟨x, h1, e⟩
  | false => exact List.any_eq_true.2 ⟨-x, h2, by rw [litT_neg (hz x h1), e]; rfl⟩
theorem clT_congr {a : List Bool} {c d : List Int} (h : ∀ z, z ∈ c ↔ z ∈ d) : clT a c = clT a d := by
  rw [Bool.eq_iff_iff]
  unfold clT
  rw [List.any_eq_true, List.any_eq_true]
  exact ⟨fun ⟨x, p, q⟩ => ⟨x, (h x).1 p, q⟩, fun ⟨x, p, q⟩ => ⟨x, (h x).2 p, q⟩⟩
theorem clT_nf {a : List Bool} {c : List Int} : clT a (nf c) = clT a c := clT_congr fun _ => nf_mem
theorem sat_fm {a : List Bool} {cs : List (List Int)} (hz : ∀ c ∈ cs, ∀ x ∈ c, x ≠ 0) : satT a (fmT cs) = satT a cs := by
  rw [Bool.eq_iff_iff]
  unfold satT fmT
  rw [List.all_eq_true, List.all_eq_true]
  constructor
  · intro h c hc
    cases ht : taut c with
    | true => exact taut_true (hz c hc) ht
    | false => rw [← clT_nf]; exact h _ (List.mem_map.2 ⟨c, List.mem_filter.2 ⟨hc, by rw [ht]; rfl⟩, rfl⟩)
  · intro h c hc
    obtain ⟨d, hd, rfl⟩ := List.mem_map.1 hc
    rw [clT_nf]; exact h d (List.mem_filter.1 hd).1
theorem fmT_at {cs : List (List Int)} {i : Nat} {c : List Int} (h : cs[i]? = some c) (ht : taut c = false) : (fmT cs)[(fmT (cs.take i)).length]? = some (nf c) := by
  have hi : i < cs.length := by
    rcases Nat.lt_or_ge i cs.length with q | q
    · exact q
    · rw [List.getElem?_eq_none q] at h; cases h
  have e : fmT cs = fmT (cs.take i) ++ (nf c :: fmT (cs.drop (i + 1))) := by
    have : cs = cs.take i ++ c :: cs.drop (i + 1) := by
      have hc : cs[i] = c := by rw [List.getElem?_eq_getElem hi] at h; exact Option.some.inj h
      rw [← hc, ← List.drop_eq_getElem_cons hi, List.take_append_drop]
    conv => lhs; rw [this]
    unfold fmT
    rw [List.filter_append, List.map_append, List.filter_cons, if_pos (by rw [ht]; rfl), List.map_cons]
  rw [e, List.getElem?_append_right (Nat.le_refl _), Nat.sub_self]; rfl
end Go.Proofs.Yteahhifkkjfhoaa
