/- What is counted of clauses, plain. No condition. -/
import Derived.Test.YtonngdjfnnibaaaLo2
namespace Go.Proofs.Ytonngdjfnnibaaa
open Go.Pt
set_option linter.unusedVariables false
set_option linter.unusedSimpArgs false
theorem nd_inj {row : List Nat} (nd : row.Nodup) {a b x : Nat} (ha : row[a]? = some x) (hb : row[b]? = some x) : a = b := by
  have la : a < row.length := by
    rcases Nat.lt_or_ge a row.length with q | q
    · exact q
    · rw [List.getElem?_eq_none q] at ha; cases ha
  have lb : b < row.length := by
    rcases Nat.lt_or_ge b row.length with q | q
    · exact q
    · rw [List.getElem?_eq_none q] at hb; cases hb
  rw [List.getElem?_eq_getElem la] at ha
  rw [List.getElem?_eq_getElem lb] at hb
  have e : row[a] = row[b] := (Option.some.inj ha).trans (Option.some.inj hb).symm
  rcases Nat.lt_trichotomy a b with q | q | q
  · exact absurd e (List.pairwise_iff_getElem.1 nd a b la lb q)
  · exact q
  · exact absurd e.symm (List.pairwise_iff_getElem.1 nd b a lb la q)
theorem nd_of {row : List Nat} (h : ∀ (a b x : Nat), row[a]? = some x → row[b]? = some x → a = b) : row.Nodup := by
  refine List.pairwise_iff_getElem.2 fun a b la lb hab e => ?_
  have := h a b row[a] (List.getElem?_eq_getElem la) (by rw [e]; exact List.getElem?_eq_getElem lb)
  omega
/-- One goes out of the row, the last takes its place. -/
def rowOut (row : List Nat) (j0 : Nat) : List Nat := (row.set j0 (row.getD (row.length - 1) 0)).take (row.length - 1)
theorem rowOut_at {row : List Nat} {j0 : Nat} (h0 : j0 < row.length) {j x : Nat} : (rowOut row j0)[j]? = some x ↔ j < row.length - 1 ∧ ((j = j0 ∧ x = row.getD (row.length - 1) 0) ∨ (j ≠ j0 ∧ row[j]? = some x)) := by
  unfold rowOut
  rw [List.getElem?_take]
  by_cases c : j < row.length - 1
  · rw [if_pos c]
    by_cases e : j = j0
    · subst e
      rw [List.getElem?_set_self h0]
      constructor
      · intro q; exact ⟨c, .inl ⟨rfl, (Option.some.inj q).symm⟩⟩
      · rintro ⟨_, ⟨_, q⟩ | ⟨q, _⟩⟩
        · rw [q]
        · exact absurd rfl q
    · rw [List.getElem?_set_ne (fun q => e q.symm)]
      constructor
      · intro q; exact ⟨c, .inr ⟨e, q⟩⟩
      · rintro ⟨_, ⟨q, _⟩ | ⟨_, q⟩⟩
        · exact absurd q e
        · exact q
  · rw [if_neg c]
    constructor
    · intro q; cases q
    · rintro ⟨q, _⟩; exact absurd q c
theorem rowOut_lt {row : List Nat} {i j0 : Nat} (h0 : row[j0]? = some i) : j0 < row.length := by
  rcases Nat.lt_or_ge j0 row.length with q | q
  · exact q
  · rw [List.getElem?_eq_none q] at h0; cases h0
theorem rowOut_last {row : List Nat} {i j0 : Nat} (h0 : row[j0]? = some i) : row[row.length - 1]? = some (row.getD (row.length - 1) 0) := by
  have := rowOut_lt h0
  rw [List.getD_eq_getElem?_getD, List.getElem?_eq_getElem (by omega)]; rfl
section
variable {row : List Nat} {i j0 : Nat} (nd : row.Nodup) (h0 : row[j0]? = some i)
include nd h0
theorem rowOut_nd : (rowOut row j0).Nodup := by
  have hl := rowOut_lt h0
  have hL := rowOut_last h0
  refine nd_of fun a b x ha hb => ?_
  obtain ⟨a1, a2⟩ := (rowOut_at hl).1 ha
  obtain ⟨b1, b2⟩ := (rowOut_at hl).1 hb
  rcases a2 with ⟨a3, a4⟩ | ⟨a3, a4⟩
  · rcases b2 with ⟨b3, b4⟩ | ⟨b3, b4⟩
    · omega
    · rw [a4] at b4; have := nd_inj nd b4 hL; omega
  · rcases b2 with ⟨b3, b4⟩ | ⟨b3, b4⟩
    · rw [b4] at a4; have := nd_inj nd a4 hL; omega
    · exact nd_inj nd a4 b4
theorem rowOut_mem {x : Nat} : x ∈ rowOut row j0 ↔ x ∈ row ∧ x ≠ i := by
  have hl := rowOut_lt h0
  have hL := rowOut_last h0
  constructor
  · intro hx
    obtain ⟨j, hj⟩ := List.getElem?_of_mem hx
    obtain ⟨a1, a2⟩ := (rowOut_at hl).1 hj
    rcases a2 with ⟨a3, a4⟩ | ⟨a3, a4⟩
    · rw [a4]
      refine ⟨List.mem_of_getElem? hL, fun e => ?_⟩
      rw [e] at hL
      have := nd_inj nd hL h0; omega
    · exact ⟨List.mem_of_getElem? a4, fun e => by subst e; exact a3 (nd_inj nd a4 h0)⟩
  · rintro ⟨hx, hne⟩
    obtain ⟨j, hj⟩ := List.getElem?_of_mem hx
    have hjl : j < row.length := by
      rcases Nat.lt_or_ge j row.length with q | q
      · exact q
      · rw [List.getElem?_eq_none q] at hj; cases hj
    have hjj : j ≠ j0 := fun e => by rw [e] at hj; rw [hj] at h0; exact hne (Option.some.inj h0)
    by_cases c : j = row.length - 1
    · refine List.mem_of_getElem? (i := j0) ((rowOut_at hl).2 ⟨by omega, .inl ⟨rfl, ?_⟩⟩)
      rw [← c] at hL
      rw [hj] at hL
      have := Option.some.inj hL
      rw [this, c]
    · exact List.mem_of_getElem? (i := j) ((rowOut_at hl).2 ⟨by omega, .inr ⟨hjj, hj⟩⟩)
end
theorem idx_of_nd {row : List Nat} (nd : row.Nodup) {i j0 : Nat} (h0 : row[j0]? = some i) : row.idxOf i = j0 := by
  have hl := List.idxOf_lt_length_of_mem (List.mem_of_getElem? h0)
  exact nd_inj nd (x := i) (by rw [List.getElem?_eq_getElem hl, List.getElem_idxOf hl]) h0
/-- The row, as a clause comes into it or goes. -/
def rowC (d : Int) (z : Bool) (i : Nat) (row : List Nat) : List Nat := if z = true then (if d = 1 then row ++ [i] else rowOut row (row.idxOf i)) else row
def rowN (H : Nat → Int) (d : Int) (oc : List Nat) (row : List Nat) : List Nat := oc.foldl (fun r i => rowC 1 (decide (H i + d = 0)) i (rowC (-1) (decide (H i = 0)) i r)) row
theorem rowN_snoc (H : Nat → Int) (d : Int) (oc : List Nat) (i : Nat) (row : List Nat) : rowN H d (oc ++ [i]) row = rowC 1 (decide (H i + d = 0)) i (rowC (-1) (decide (H i = 0)) i (rowN H d oc row)) := by unfold rowN; rw [List.foldl_append]; rfl
theorem rowN_congr {H H' : Nat → Int} {d : Int} : ∀ {oc : List Nat} {row : List Nat}, (∀ i ∈ oc, H i = H' i) → rowN H d oc row = rowN H' d oc row
  | [], _, _ => rfl
  | i :: oc, row, h => by
    unfold rowN
    rw [List.foldl_cons, List.foldl_cons, h i (by simp)]
    exact rowN_congr (oc := oc) fun j hj => h j (by simp [hj])
theorem rowC_srt {z : Bool} {i : Nat} {row : List Nat} (h : row.Pairwise (· < ·)) (hi : ∀ x ∈ row, x < i) : (rowC 1 z i row).Pairwise (· < ·) := by
  unfold rowC
  split
  · rw [if_pos rfl, List.pairwise_append]
    exact ⟨h, by simp, fun a ha b hb => by simp at hb; subst hb; exact hi a ha⟩
  · exact h
theorem srt_ext : ∀ {a b : List Nat}, a.Pairwise (· < ·) → b.Pairwise (· < ·) → (∀ x, x ∈ a ↔ x ∈ b) → a = b
  | [], [], _, _, _ => rfl
  | [], y :: b, _, _, h => by have := (h y).2 (by simp); cases this
  | x :: a, [], _, _, h => by have := (h x).1 (by simp); cases this
  | x :: a, y :: b, ha, hb, h => by
    rw [List.pairwise_cons] at ha hb
    have e : x = y := by
      have h1 := (h x).1 (by simp)
      have h2 := (h y).2 (by simp)
      rcases List.mem_cons.1 h1 with q | q
      · exact q
      · rcases List.mem_cons.1 h2 with r | r
        · exact r.symm
        · have := hb.1 x q; have := ha.1 y r; omega
    subst e
    rw [srt_ext ha.2 hb.2 fun z => ?_]
    constructor
    · intro hz
      have := (h z).1 (by simp [hz])
      rcases List.mem_cons.1 this with q | q
      · subst q; have := ha.1 z hz; omega
      · exact q
    · intro hz
      have := (h z).2 (by simp [hz])
      rcases List.mem_cons.1 this with q | q
      · subst q; have := hb.1 z hz; omega
      · exact q
def cntV (c : List Int) (v : Nat) : Int := ((c.countP fun l => l.natAbs == v : Nat) : Int)
theorem cntV_le (c : List Int) (v : Nat) : 0 ≤ cntV c v ∧ cntV c v ≤ c.length := by
  unfold cntV
  have := List.countP_le_length (p := fun l : Int => l.natAbs == v) (l := c)
  omega
theorem cntV_snoc (c : List Int) (x : Int) (v : Nat) : cntV (c ++ [x]) v = cntV c v + (if x.natAbs = v then 1 else 0) := by
  unfold cntV
  rw [List.countP_append]
  by_cases e : x.natAbs = v
  · rw [if_pos e, List.countP_cons_of_pos (by simpa using e)]; simp
  · rw [if_neg e, List.countP_cons_of_neg (by simpa using e)]; simp
/-- What is counted of the clauses of A. -/
structure Cnt (n k : Nat) (A : Nat → Bool) (L : Nat → List Int) (H S P : Nat → Int) (row : List Nat) (br ma : Nat → Int) : Prop where
  br : ∀ v, v ≤ n → br v = smI k (fun i => if A i = true ∧ H i = 1 ∧ S i = (v : Nat) then 1 else 0)
  ma : ∀ v, v ≤ n → ma v = smI k (fun i => if A i = true ∧ H i = 0 then cntV (L i) v else 0)
  nd : row.Nodup
  mem : ∀ i, i ∈ row ↔ i < k ∧ A i = true ∧ H i = 0
  pl : ∀ (j i : Nat), row[j]? = some i → P i = j
  pn : ∀ i, i < k → i ∉ row → P i = -1
section
variable {n k : Nat} {A : Nat → Bool} {L : Nat → List Int} {H S P : Nat → Int} {row : List Nat} {br ma : Nat → Int} (c : Cnt n k A L H S P row br ma)
include c
theorem Cnt.len : row.length ≤ k := by
  have hsub : ∀ x ∈ row, x < k := fun x hx => ((c.mem x).1 hx).1
  have nd := c.nd
  have : ∀ (m : Nat) (r : List Nat), r.Nodup → (∀ x ∈ r, x < m) → r.length ≤ m := by
    intro m
    induction m with
    | zero => intro r _ hr; cases r with
      | nil => exact Nat.le_refl _
      | cons x r => have := hr x List.mem_cons_self; omega
    | succ m ih =>
      intro r nd hr
      have h1 := ih (r.erase m) (nd.erase m) fun x hx => by
        have h2 := (List.Nodup.mem_erase_iff nd).1 hx
        have := hr x h2.2
        omega
      rw [List.length_erase] at h1
      split at h1 <;> omega
  exact this k row nd hsub
theorem Cnt.brle {v : Nat} (hv : v ≤ n) : 0 ≤ br v ∧ br v ≤ k := by
  rw [c.br v hv]
  refine ⟨smI_nonneg fun i _ => by split <;> omega, ?_⟩
  have := smI_le (k := k) (g := fun i => if A i = true ∧ H i = 1 ∧ S i = (v : Nat) then (1 : Int) else 0) (B := 1) fun i _ => by split <;> omega
  simpa using this
theorem Cnt.male {v B : Nat} (hv : v ≤ n) (hB : ∀ i, i < k → (L i).length ≤ B) : 0 ≤ ma v ∧ ma v ≤ k * B := by
  rw [c.ma v hv]
  refine ⟨smI_nonneg fun i _ => by have := cntV_le (L i) v; split <;> omega, ?_⟩
  exact smI_le fun i hi => by have := cntV_le (L i) v; have := hB i hi; split <;> omega
/-- One comes, whose literals: none holds. -/
theorem Cnt.add0 {i : Nat} (hi : i < k) (hA : A i = false) (hH : H i = 0) : Cnt n k (updR A i true) L H S (updR P i (row.length : Nat)) (row ++ [i]) br (fun v => ma v + cntV (L i) v) := by
  have hni : i ∉ row := fun q => by have := ((c.mem i).1 q).2.1; rw [hA] at this; cases this
  refine ⟨fun v hv => ?_, fun v hv => ?_, ?_, fun x => ?_, fun j x hx => ?_, fun x hx hn => ?_⟩
  · rw [c.br v hv]
    refine (smI_congr fun j hj => ?_)
    by_cases e : j = i
    · subst e; rw [if_neg (by rw [hH]; rintro ⟨_, q, _⟩; cases q), if_neg (by rw [hH]; rintro ⟨_, q, _⟩; cases q)]
    · rw [updR_ne e]
  · rw [c.ma v hv, smI_upd (g := fun i => if A i = true ∧ H i = 0 then cntV (L i) v else 0) (g' := fun j => if updR A i true j = true ∧ H j = 0 then cntV (L j) v else 0) hi fun j _ hne => by simp only [updR_ne hne]]
    simp only [updR_at, hA, hH, if_true, and_self, Bool.false_eq_true, false_and, if_false]
    omega
  · rw [List.nodup_append]
    exact ⟨c.nd, by simp, fun x hx y hy e => by simp at hy; subst hy; subst e; exact hni hx⟩
  · rw [List.mem_append, c.mem]
    by_cases e : x = i
    · subst e; rw [updR_at]; simp [hi, hH]
    · rw [updR_ne e]; simp [e]
  · rcases Nat.lt_or_ge j row.length with q | q
    · rw [List.getElem?_append_left q] at hx
      have : x ≠ i := fun e => hni (e ▸ List.mem_of_getElem? hx)
      rw [updR_ne this]; exact c.pl j x hx
    · rw [List.getElem?_append_right q] at hx
      have e0 : j - row.length = 0 := by
        rcases Nat.eq_zero_or_pos (j - row.length) with e | e
        · exact e
        · rw [List.getElem?_eq_none (by simp; omega)] at hx; cases hx
      rw [e0] at hx
      have : x = i := (Option.some.inj hx).symm
      subst this
      rw [updR_at]; omega
  · have hn' : x ∉ row ∧ x ≠ i := by simpa [List.mem_append] using hn
    rw [updR_ne hn'.2]; exact c.pn x hx hn'.1
theorem Cnt.add1 {i w : Nat} (hi : i < k) (hA : A i = false) (hH : H i = 1) (hS : S i = (w : Nat)) : Cnt n k (updR A i true) L H S P row (So.upd br w (br w + 1)) ma := by
  refine ⟨fun v hv => ?_, fun v hv => ?_, c.nd, fun x => ?_, c.pl, c.pn⟩
  · rw [smI_upd (g := fun i => if A i = true ∧ H i = 1 ∧ S i = (v : Nat) then 1 else 0) (g' := fun j => if updR A i true j = true ∧ H j = 1 ∧ S j = (v : Nat) then 1 else 0) hi fun j _ hne => by simp only [updR_ne hne], ← c.br v hv]
    simp only [updR_at, hA, hH, hS, Bool.false_eq_true, false_and, if_false, true_and]
    unfold So.upd
    by_cases e : v = w
    · subst e; simp
    · rw [if_neg e, if_neg (by omega)]; omega
  · rw [c.ma v hv]
    refine smI_congr fun j hj => ?_
    by_cases e : j = i
    · subst e; rw [if_neg (by rw [hH]; rintro ⟨_, q⟩; cases q), if_neg (by rw [hH]; rintro ⟨_, q⟩; cases q)]
    · rw [updR_ne e]
  · rw [c.mem]
    by_cases e : x = i
    · subst e; rw [hH]; simp
    · rw [updR_ne e]
theorem Cnt.addE {i : Nat} (hi : i < k) (b : Bool) (h0 : H i ≠ 0) (h1 : H i ≠ 1) : Cnt n k (updR A i b) L H S P row br ma := by
  refine ⟨fun v hv => ?_, fun v hv => ?_, c.nd, fun x => ?_, c.pl, c.pn⟩
  · rw [c.br v hv]
    refine smI_congr fun j hj => ?_
    by_cases e : j = i
    · subst e; rw [if_neg (fun q => h1 q.2.1), if_neg (fun q => h1 q.2.1)]
    · rw [updR_ne e]
  · rw [c.ma v hv]
    refine smI_congr fun j hj => ?_
    by_cases e : j = i
    · subst e; rw [if_neg (fun q => h0 q.2), if_neg (fun q => h0 q.2)]
    · rw [updR_ne e]
  · rw [c.mem]
    by_cases e : x = i
    · subst e; exact ⟨fun q => absurd q.2.2 h0, fun q => absurd q.2.2 h0⟩
    · rw [updR_ne e]
theorem Cnt.sub1 {i w : Nat} (hi : i < k) (hA : A i = true) (hH : H i = 1) (hS : S i = (w : Nat)) : Cnt n k (updR A i false) L H S P row (So.upd br w (br w + -1)) ma := by
  refine ⟨fun v hv => ?_, fun v hv => ?_, c.nd, fun x => ?_, c.pl, c.pn⟩
  · rw [smI_upd (g := fun i => if A i = true ∧ H i = 1 ∧ S i = (v : Nat) then 1 else 0) (g' := fun j => if updR A i false j = true ∧ H j = 1 ∧ S j = (v : Nat) then 1 else 0) hi fun j _ hne => by simp only [updR_ne hne], ← c.br v hv]
    simp only [updR_at, hA, hH, hS, Bool.false_eq_true, false_and, if_false, true_and]
    unfold So.upd
    by_cases e : v = w
    · subst e; simp
    · rw [if_neg e, if_neg (by omega)]; omega
  · rw [c.ma v hv]
    refine smI_congr fun j hj => ?_
    by_cases e : j = i
    · subst e; rw [if_neg (by rw [hH]; rintro ⟨_, q⟩; cases q), if_neg (by rw [hH]; rintro ⟨_, q⟩; cases q)]
    · rw [updR_ne e]
  · rw [c.mem]
    by_cases e : x = i
    · subst e; rw [hH]; simp
    · rw [updR_ne e]
/-- Where an unsatisfied one stands. -/
theorem Cnt.place {i : Nat} (hi : i < k) (hA : A i = true) (hH : H i = 0) : ∃ j0 : Nat, row[j0]? = some i ∧ P i = j0 := by
  obtain ⟨j, hj⟩ := List.getElem?_of_mem ((c.mem i).2 ⟨hi, hA, hH⟩)
  exact ⟨j, hj, c.pl j i hj⟩
theorem Cnt.sub0 {i j0 : Nat} (hi : i < k) (hA : A i = true) (hH : H i = 0) (h0 : row[j0]? = some i) :
    Cnt n k (updR A i false) L H S (updR (updR P (row.getD (row.length - 1) 0) (j0 : Nat)) i (-1)) (rowOut row j0) br (fun v => ma v + -1 * cntV (L i) v) := by
  have nd := c.nd
  have hl := rowOut_lt h0
  have hL := rowOut_last h0
  refine ⟨fun v hv => ?_, fun v hv => ?_, rowOut_nd nd h0, fun x => ?_, fun j x hx => ?_, fun x hx hn => ?_⟩
  · rw [c.br v hv]
    refine (smI_congr fun j hj => ?_)
    by_cases e : j = i
    · subst e; rw [if_neg (by rw [hH]; rintro ⟨_, q, _⟩; cases q), if_neg (by rw [hH]; rintro ⟨_, q, _⟩; cases q)]
    · rw [updR_ne e]
  · rw [c.ma v hv, smI_upd (g := fun i => if A i = true ∧ H i = 0 then cntV (L i) v else 0) (g' := fun j => if updR A i false j = true ∧ H j = 0 then cntV (L j) v else 0) hi fun j _ hne => by simp only [updR_ne hne]]
    simp only [updR_at, hA, hH, if_true, and_self, Bool.false_eq_true, false_and, if_false]
    omega
  · rw [rowOut_mem nd h0, c.mem]
    by_cases e : x = i
    · subst e; rw [updR_at]; simp
    · rw [updR_ne e]; simp [e]
  · have hxm := (rowOut_mem nd h0).1 (List.mem_of_getElem? hx)
    rw [updR_ne hxm.2]
    obtain ⟨a1, a2⟩ := (rowOut_at hl).1 hx
    rcases a2 with ⟨a3, a4⟩ | ⟨a3, a4⟩
    · rw [a4, updR_at, a3]
    · have : x ≠ row.getD (row.length - 1) 0 := fun e => by rw [e] at a4; have := nd_inj nd a4 hL; omega
      rw [updR_ne this]; exact c.pl j x a4
  · by_cases e : x = i
    · subst e; rw [updR_at]
    · rw [updR_ne e]
      have hxr : x ∉ row := fun q => hn ((rowOut_mem nd h0).2 ⟨q, e⟩)
      have : x ≠ row.getD (row.length - 1) 0 := fun e => hxr (e ▸ List.mem_of_getElem? hL)
      rw [updR_ne this]; exact c.pn x hx hxr
end
end Go.Proofs.Ytonngdjfnnibaaa
