/- What an assignment makes of clauses, plain. No condition. -/
import Derived.Test.YtonngdjfnnibaaaLo5
namespace Go.Proofs.Ytonngdjfnnibaaa
open Go.Pt
set_option linter.unusedVariables false
set_option linter.unusedSimpArgs false
/-- The weights of those literals of which p is true. -/
def wsm (p : Int → Bool) (f : Int → Int) (c : List Int) : Int := (c.map fun x => if p x then f x else 0).sum
theorem wsm_nil (p : Int → Bool) (f : Int → Int) : wsm p f [] = 0 := rfl
theorem wsm_cons (p : Int → Bool) (f : Int → Int) (x : Int) (c : List Int) : wsm p f (x :: c) = (if p x then f x else 0) + wsm p f c := by simp [wsm]
theorem wsm_snoc (p : Int → Bool) (f : Int → Int) (x : Int) (c : List Int) : wsm p f (c ++ [x]) = wsm p f c + (if p x then f x else 0) := by simp [wsm]
theorem wsm_congr {p p' : Int → Bool} {f : Int → Int} {c : List Int} (h : ∀ x ∈ c, p' x = p x) : wsm p' f c = wsm p f c := by
  unfold wsm
  rw [List.map_congr_left fun x hx => by rw [h x hx]]
theorem wsm_at {p p' : Int → Bool} {f : Int → Int} {l : Int} {c : List Int} (nd : c.Nodup) (h : ∀ x, x ≠ l → p' x = p x) : wsm p' f c = wsm p f c + (if l ∈ c then (if p' l then f l else 0) - (if p l then f l else 0) else 0) := by
  induction c with
  | nil => rw [wsm_nil, wsm_nil, if_neg (by simp)]; omega
  | cons y c ih =>
    rw [List.nodup_cons] at nd
    rw [wsm_cons, wsm_cons]
    by_cases e : y = l
    · subst e
      rw [if_pos (show y ∈ y :: c by simp), wsm_congr (p := p) (p' := p') fun x hx => h x (fun q => nd.1 (q ▸ hx))]
      omega
    · rw [h y e, ih nd.2]
      by_cases q : l ∈ c
      · rw [if_pos q, if_pos (show l ∈ y :: c by simp [q])]; omega
      · rw [if_neg q, if_neg (show ¬ l ∈ y :: c from fun r => by rcases List.mem_cons.1 r with r | r; exact e r.symm; exact q r)]; omega
theorem wsm_bd {p : Int → Bool} {f : Int → Int} {B : Int} {c : List Int} (h : ∀ x ∈ c, 0 ≤ f x ∧ f x ≤ B) (hB : 0 ≤ B) : 0 ≤ wsm p f c ∧ wsm p f c ≤ c.length * B := by
  induction c with
  | nil => rw [wsm_nil]; simp
  | cons y c ih =>
    have h1 := ih fun x hx => h x (by simp [hx])
    have h2 := h y (by simp)
    rw [wsm_cons, List.length_cons, show ((c.length + 1 : Nat) : Int) * B = (c.length : Int) * B + B by push_cast; rw [Int.add_mul, Int.one_mul]]
    split <;> omega
def hB (p : Int → Bool) (c : List Int) : Int := wsm p (fun _ => 1) c
def sB (p : Int → Bool) (c : List Int) : Int := wsm p (fun x => (x.natAbs : Nat)) c
theorem hB_le (p : Int → Bool) (c : List Int) : 0 ≤ hB p c ∧ hB p c ≤ c.length := by
  have := wsm_bd (p := p) (f := fun _ => 1) (B := 1) (c := c) (fun _ _ => by decide) (by decide)
  unfold hB; omega
theorem sB_le {n : Nat} {p : Int → Bool} {c : List Int} (h : ClOk n c) : 0 ≤ sB p c ∧ sB p c ≤ c.length * (n : Int) := wsm_bd (fun x hx => by obtain ⟨_, _, _⟩ := h x hx; omega) (by omega)
theorem hB_zero {p : Int → Bool} {c : List Int} : hB p c = 0 ↔ ∀ x ∈ c, p x = false := by
  induction c with
  | nil => simp [hB, wsm_nil]
  | cons y c ih =>
    have h1 := hB_le p c
    unfold hB at *
    rw [wsm_cons]
    cases e : p y with
    | true =>
      rw [if_pos rfl]
      exact ⟨fun q => by omega, fun q => by have := q y (by simp); rw [e] at this; cases this⟩
    | false =>
      rw [if_neg (by simp), Int.zero_add, ih]
      exact ⟨fun q x hx => by rcases List.mem_cons.1 hx with rfl | hx; exact e; exact q x hx, fun q x hx => q x (by simp [hx])⟩
theorem sB_zero {p : Int → Bool} {c : List Int} (h : hB p c = 0) : sB p c = 0 := by
  have h1 := hB_zero.1 h
  unfold sB
  rw [wsm_congr (p := fun _ => false) (p' := p) h1]
  induction c with
  | nil => rfl
  | cons y c ih => rw [wsm_cons, ih]; rfl; exact hB_zero.2 fun x hx => h1 x (by simp [hx]); exact fun x hx => h1 x (by simp [hx])
/-- One that holds alone is the sum. -/
theorem hB_one {p : Int → Bool} {c : List Int} (h : hB p c = 1) : ∃ x ∈ c, p x = true ∧ sB p c = (x.natAbs : Nat) := by
  induction c with
  | nil => rw [hB, wsm_nil] at h; cases h
  | cons y c ih =>
    have h1 := hB_le p c
    unfold hB at h h1 ih
    unfold sB
    rw [wsm_cons] at h ⊢
    cases e : p y with
    | true =>
      rw [e, if_pos rfl] at h
      have h0 : hB p c = 0 := by unfold hB; omega
      have := sB_zero h0
      unfold sB at this
      exact ⟨y, by simp, e, by rw [if_pos rfl, this]; omega⟩
    | false =>
      rw [e, if_neg (by simp), Int.zero_add] at h
      obtain ⟨x, hx, hp, hs⟩ := ih h
      unfold sB at hs
      exact ⟨x, by simp [hx], hp, by rw [if_neg (by simp), hs]; omega⟩
theorem hB_good {n : Nat} {p : Int → Bool} {c : List Int} (h : ClOk n c) : GoodS n (hB p c) (sB p c) := fun e => by
  obtain ⟨x, hx, _, hs⟩ := hB_one e
  obtain ⟨_, _, _⟩ := h x hx
  exact ⟨x.natAbs, hs, by omega⟩
/-- The literal of an index. -/
def lat (i : Nat) : Int := if i % 2 = 1 then -((i / 2 : Nat) + 1 : Int) else (i / 2 : Nat) + 1
theorem ix_lat (i : Nat) : ix (lat i) = (i : Int) := by unfold ix lat; split <;> split <;> omega
theorem lat_ix {n : Nat} {x : Int} (h : LitOk n x) : lat (ix x).toNat = x := ix_inj (by rw [ix_lat]; have := ix_range h; omega)
theorem lat_eq {n j : Nat} {x : Int} (h : LitOk n x) : lat j = x ↔ j = (ix x).toNat := by
  constructor
  · rintro rfl; rw [ix_lat]; omega
  · rintro rfl; exact lat_ix h
/-- A variable turned. -/
def flp (a : List Bool) (v : Nat) : List Bool := a.set (v - 1) (!a.getD (v - 1) false)
theorem flp_len (a : List Bool) (v : Nat) : (flp a v).length = a.length := by simp [flp]
theorem flp_get {a : List Bool} {v i : Nat} (hv : v - 1 < a.length) : (flp a v).getD i false = if i = v - 1 then !a.getD i false else a.getD i false := by
  unfold flp
  rw [List.getD_eq_getElem?_getD]
  by_cases e : i = v - 1
  · subst e; rw [List.getElem?_set_self (by omega), if_pos rfl]; rfl
  · rw [List.getElem?_set_ne (fun q => e q.symm), if_neg e, ← List.getD_eq_getElem?_getD]
/-- The literal that comes to hold as a variable is turned. -/
def cmg (a : List Bool) (v : Nat) : Int := if a.getD (v - 1) false then -(v : Int) else v
theorem cmg_ok {a : List Bool} {n v : Nat} (h1 : 1 ≤ v) (h2 : v ≤ n) : LitOk n (cmg a v) ∧ LitOk n (-cmg a v) ∧ (cmg a v).natAbs = v := by
  unfold cmg LitOk; split <;> refine ⟨⟨?_, ?_, ?_⟩, ⟨?_, ?_, ?_⟩, ?_⟩ <;> omega
theorem litT_cmg {a : List Bool} {v : Nat} (h1 : 1 ≤ v) (h2 : v - 1 < a.length) : litT a (cmg a v) = false ∧ litT a (-cmg a v) = true ∧ litT (flp a v) (cmg a v) = true ∧ litT (flp a v) (-cmg a v) = false := by
  have ha := (cmg_ok (a := a) h1 (Nat.le_refl v)).2.2
  unfold litT
  rw [flp_get h2, flp_get h2, Int.natAbs_neg, ha, if_pos rfl]
  unfold cmg
  cases e : a.getD (v - 1) false with
  | true => rw [if_pos rfl, decide_eq_false (by omega), decide_eq_true (by omega)]; decide
  | false => rw [if_neg (by simp), decide_eq_true (by omega), decide_eq_false (by omega)]; decide
theorem litT_flp {a : List Bool} {v : Nat} {x : Int} (h1 : 1 ≤ v) (h2 : v - 1 < a.length) (hx : x ≠ 0) (n1 : x ≠ cmg a v) (n2 : x ≠ -cmg a v) : litT (flp a v) x = litT a x := by
  unfold litT
  have : x.natAbs ≠ v := fun e => by
    unfold cmg at n1 n2
    cases q : a.getD (v - 1) false with
    | true => rw [q, if_pos rfl] at n1 n2; omega
    | false => rw [q, if_neg (by simp)] at n1 n2; omega
  rw [flp_get h2, if_neg (by omega)]
/-- All between: l holds, and -l still does. -/
def midT (a : List Bool) (l x : Int) : Bool := decide (x = l) || litT a x
theorem wsm_flp1 {a : List Bool} {v : Nat} {f : Int → Int} {c : List Int} (nd : c.Nodup) (h1 : 1 ≤ v) (h2 : v - 1 < a.length) : wsm (midT a (cmg a v)) f c = wsm (litT a) f c + (if cmg a v ∈ c then f (cmg a v) else 0) := by
  rw [wsm_at (p := litT a) (p' := midT a (cmg a v)) (l := cmg a v) nd fun x hx => by unfold midT; rw [decide_eq_false hx]; rfl]
  rw [(litT_cmg h1 h2).1]
  unfold midT
  rw [decide_eq_true rfl]
  simp
theorem wsm_flp2 {a : List Bool} {v n : Nat} {f : Int → Int} {c : List Int} (hc : ClOk n c) (nd : c.Nodup) (h1 : 1 ≤ v) (h2 : v - 1 < a.length) : wsm (litT (flp a v)) f c = wsm (midT a (cmg a v)) f c + (if -cmg a v ∈ c then -f (-cmg a v) else 0) := by
  have q := litT_cmg h1 h2
  have h0 := (cmg_ok (a := a) h1 (Nat.le_refl v)).1.1
  rw [wsm_congr (p := fun x => if x = -cmg a v then false else midT a (cmg a v) x) (p' := litT (flp a v)) fun x hx => ?_]
  · rw [wsm_at (p := midT a (cmg a v)) (l := -cmg a v) nd fun x hx => by rw [if_neg hx]]
    have e : midT a (cmg a v) (-cmg a v) = true := by unfold midT; rw [q.2.1]; simp
    rw [e, if_pos rfl]
    split <;> simp
  · by_cases e : x = -cmg a v
    · rw [if_pos e, e]; exact q.2.2.2
    · rw [if_neg e]
      unfold midT
      by_cases e2 : x = cmg a v
      · rw [e2, decide_eq_true rfl, q.2.2.1]; rfl
      · rw [decide_eq_false e2, litT_flp h1 h2 (hc x hx).1 e2 e]; rfl
/-- As many as of the others. -/
theorem nd_le {r s : List Nat} (nd : r.Nodup) (h : ∀ x ∈ r, x ∈ s) : r.length ≤ s.length := by
  induction r generalizing s with
  | nil => simp
  | cons y r ih =>
    rw [List.nodup_cons] at nd
    have := ih (s := s.erase y) nd.2 fun x hx => (List.mem_erase_of_ne (fun e => nd.1 (by rw [← e]; exact hx))).2 (h x (by simp [hx]))
    have hy := h y (by simp)
    rw [List.length_erase_of_mem hy] at this
    have := List.length_pos_of_mem hy
    simp only [List.length_cons]; omega
/-- How many clauses don't hold. -/
def unT (a : List Bool) (F : List (List Int)) : Nat := F.countP fun c => decide (hB (litT a) c = 0)
theorem unT_row {a : List Bool} {F : List (List Int)} {row : List Nat} (nd : row.Nodup) (h : ∀ i, i ∈ row ↔ ∃ c, F[i]? = some c ∧ hB (litT a) c = 0) : row.length = unT a F := by
  have key : ∀ (p : List Int → Bool) (G : List (List Int)), G.countP p = ((List.range G.length).filter fun i => p (G.getD i [])).length := by
    intro p G
    have e : G = (List.range G.length).map fun i => G.getD i [] := by
      refine List.ext_getElem (by simp) fun i h1 h2 => ?_
      rw [List.getElem_map, List.getElem_range, List.getD_eq_getElem?_getD, List.getElem?_eq_getElem h1]; rfl
    conv => lhs; rw [e]
    rw [List.countP_map, List.countP_eq_length_filter]; rfl
  unfold unT
  rw [key]
  have hm : ∀ i, i ∈ row ↔ i ∈ (List.range F.length).filter fun i => decide (hB (litT a) (F.getD i []) = 0) := by
    intro i
    rw [h, List.mem_filter, List.mem_range, decide_eq_true_iff, List.getD_eq_getElem?_getD]
    constructor
    · rintro ⟨c, h1, h2⟩
      rw [h1]
      exact ⟨(List.getElem?_eq_some_iff.1 h1).1, h2⟩
    · rintro ⟨h1, h2⟩
      rw [List.getElem?_eq_getElem h1] at h2 ⊢
      exact ⟨_, rfl, h2⟩
  have n2 : ((List.range F.length).filter fun i => decide (hB (litT a) (F.getD i []) = 0)).Nodup := List.nodup_range.filter _
  have := nd_le nd fun x hx => (hm x).1 hx
  have := nd_le n2 fun x hx => (hm x).2 hx
  omega
end Go.Proofs.Ytonngdjfnnibaaa
