/- The arena as a row of clauses: what stands in its words. No condition. -/
import Derived.Test.YthekbpaekopmfaaFn
import Derived.Test.YthekbpaekopmfaaPtS
namespace Go.Proofs.Ythekbpaekopmfaa
open Go.Pt
set_option linter.unusedVariables false
set_option linter.unusedSimpArgs false
abbrev Iv (n : Int) : Value := .int .i64 n
abbrev ptr (b : Nat) : Value := .pointer (some ⟨b, 0, none⟩)
abbrev nilS : Value := .slice none 0 0
/-- A clause of the arena. -/
structure Cl where
  lits : List Int
  lrn : Bool
  glue : Int
  uses : Int
  gone : Bool
def hd (c : Cl) : Int := (c.lits.length : Int) + (if c.lrn then 1099511627776 else 0) + (if c.gone then 2199023255552 else 0)
def enc (c : Cl) : List Int := [hd c, c.glue, c.uses] ++ c.lits
theorem enc_len (c : Cl) : (enc c).length = 3 + c.lits.length := by simp [enc]; omega
def wds (cs : List Cl) : List Int := cs.flatMap enc
def off (cs : List Cl) : Nat → Nat
  | 0 => 0
  | k + 1 => off cs k + 3 + (cs.getD k ⟨[], false, 0, 0, false⟩).lits.length
theorem off_succ {cs : List Cl} {k : Nat} {c : Cl} (h : cs[k]? = some c) : off cs (k + 1) = off cs k + 3 + c.lits.length := by
  show off cs k + 3 + (cs.getD k _).lits.length = _
  rw [List.getD_eq_getElem?_getD, h]; rfl
theorem off_mono {cs : List Cl} {j : Nat} : ∀ {k : Nat}, j ≤ k → off cs j + 3 * (k - j) ≤ off cs k
  | 0, h => by have : j = 0 := by omega
               subst this; simp [off]
  | k + 1, h => by
    by_cases e : j = k + 1
    · subst e; omega
    · have := off_mono (cs := cs) (j := j) (k := k) (by omega)
      show _ ≤ off cs k + 3 + _
      omega
theorem off_lt {cs : List Cl} {j k : Nat} (h : j < k) : off cs j + 3 ≤ off cs k := by
  have := off_mono (cs := cs) (j := j) (k := k) (by omega); omega
theorem off_inj {cs : List Cl} {j k : Nat} (h : off cs j = off cs k) : j = k := by
  rcases Nat.lt_trichotomy j k with q | q | q
  · have := off_lt (cs := cs) q; omega
  · exact q
  · have := off_lt (cs := cs) q; omega
theorem off_congr {cs ds : List Cl} : ∀ {k : Nat}, (∀ j, j < k → (cs.getD j ⟨[], false, 0, 0, false⟩).lits.length = (ds.getD j ⟨[], false, 0, 0, false⟩).lits.length) → off cs k = off ds k
  | 0, _ => rfl
  | k + 1, h => by
    show off cs k + 3 + _ = off ds k + 3 + _
    rw [off_congr (cs := cs) (ds := ds) fun j hj => h j (by omega), h k (by omega)]
theorem wds_append (a b : List Cl) : wds (a ++ b) = wds a ++ wds b := List.flatMap_append
theorem wds_one (c : Cl) : wds [c] = enc c := by simp [wds]
theorem wds_take {cs : List Cl} : ∀ {k : Nat}, k ≤ cs.length → (wds (cs.take k)).length = off cs k
  | 0, _ => by simp [wds, off]
  | k + 1, h => by
    have hg : cs[k]? = some cs[k] := List.getElem?_eq_getElem (by omega)
    rw [List.take_add_one, hg, off_succ hg, ← wds_take (cs := cs) (k := k) (by omega), Option.toList_some, wds_append, wds_one, List.length_append, enc_len]; omega
theorem wds_len (cs : List Cl) : (wds cs).length = off cs cs.length := by
  have := wds_take (cs := cs) (Nat.le_refl _)
  rwa [List.take_length] at this
theorem split_at {α : Type} {cs : List α} {k : Nat} {c : α} (h : cs[k]? = some c) : cs = cs.take k ++ c :: cs.drop (k + 1) := by
  have hl : k < cs.length := (List.getElem?_eq_some_iff.1 h).1
  have e : cs[k] = c := (List.getElem?_eq_some_iff.1 h).2
  rw [← e, ← List.drop_eq_getElem_cons hl, List.take_append_drop]
theorem wds_split {cs : List Cl} {k : Nat} {c : Cl} (h : cs[k]? = some c) : wds cs = wds (cs.take k) ++ (enc c ++ wds (cs.drop (k + 1))) := by
  have e := split_at h
  unfold wds
  conv => lhs; rw [e]
  rw [List.flatMap_append, List.flatMap_cons]
theorem wds_at {cs : List Cl} {k : Nat} {c : Cl} (h : cs[k]? = some c) {j : Nat} (hj : j < 3 + c.lits.length) : (wds cs)[off cs k + j]? = (enc c)[j]? := by
  have hl : k < cs.length := (List.getElem?_eq_some_iff.1 h).1
  rw [wds_split h, List.getElem?_append_right (by rw [wds_take (by omega)]; omega), wds_take (by omega), Nat.add_sub_cancel_left, List.getElem?_append_left (by rw [enc_len]; exact hj)]
theorem wds_end {cs : List Cl} {k : Nat} {c : Cl} (h : cs[k]? = some c) : off cs k + 3 + c.lits.length ≤ (wds cs).length := by
  have hl : k < cs.length := (List.getElem?_eq_some_iff.1 h).1
  rw [wds_len, ← off_succ h]
  have := off_mono (cs := cs) (j := k + 1) (k := cs.length) (by omega)
  omega
theorem wds_clause {cs : List Cl} {k : Nat} {c : Cl} (h : cs[k]? = some c) : ((wds cs).take (off cs k + 3 + c.lits.length)).drop (off cs k) = enc c := by
  have hl : k < cs.length := (List.getElem?_eq_some_iff.1 h).1
  have e := wds_take (cs := cs) (k := k) (by omega)
  have e2 : off cs k + 3 + c.lits.length = (wds (cs.take k) ++ enc c).length := by rw [List.length_append, enc_len, e]; omega
  rw [wds_split h, ← List.append_assoc, e2, List.take_left, ← e, List.drop_left]
theorem wds_lits {cs : List Cl} {k : Nat} {c : Cl} (h : cs[k]? = some c) : ((wds cs).take (off cs k + 3 + c.lits.length)).drop (off cs k + 3) = c.lits := by
  have := wds_clause h
  rw [← List.drop_drop, this]
  rfl
theorem wds_set {cs : List Cl} {k : Nat} {c c' : Cl} (h : cs[k]? = some c) {j : Nat} {x : Int} (hj : j < 3 + c.lits.length) (he : enc c' = (enc c).set j x) : (wds cs).set (off cs k + j) x = wds (cs.set k c') := by
  have hl : k < cs.length := (List.getElem?_eq_some_iff.1 h).1
  have e1 : cs.set k c' = cs.take k ++ c' :: cs.drop (k + 1) := by rw [List.set_eq_take_append_cons_drop, if_pos hl]
  rw [wds_split h, e1]
  rw [List.set_append_right _ _ (by rw [wds_take (by omega)]; omega), wds_take (by omega), Nat.add_sub_cancel_left, List.set_append_left _ _ (by rw [enc_len]; exact hj), ← he]
  simp [wds]
theorem off_set {cs : List Cl} {k : Nat} {c c' : Cl} (h : cs[k]? = some c) (hl : c'.lits.length = c.lits.length) (i : Nat) : off (cs.set k c') i = off cs i := by
  refine off_congr fun j _ => ?_
  rw [List.getD_eq_getElem?_getD, List.getD_eq_getElem?_getD, List.getElem?_set]
  by_cases e : k = j
  · subst e
    rw [if_pos rfl, if_pos (List.getElem?_eq_some_iff.1 h).1, h]; exact hl
  · rw [if_neg e]
theorem off_append {cs ds : List Cl} {i : Nat} (hi : i ≤ cs.length) : off (cs ++ ds) i = off cs i :=
  off_congr fun j hj => by rw [List.getD_eq_getElem?_getD, List.getD_eq_getElem?_getD, List.getElem?_append_left (by omega)]
/-- The clause that begins at a place, and is there. -/
def clAt : List Cl → Int → Option Cl
  | [], _ => none
  | c :: cs, r => if r = 0 then (if c.gone then none else some c) else if r < 3 + (c.lits.length : Int) then none else clAt cs (r - (3 + (c.lits.length : Int)))
theorem off_cons (c : Cl) (cs : List Cl) (k : Nat) : off (c :: cs) (k + 1) = 3 + c.lits.length + off cs k := by
  induction k with
  | zero => simp [off]
  | succ k ih =>
    show off (c :: cs) (k + 1) + 3 + _ = 3 + c.lits.length + (off cs k + 3 + _)
    rw [ih, List.getD_cons_succ]; omega
theorem clAt_off {cs : List Cl} : ∀ {k : Nat} {c : Cl}, cs[k]? = some c → clAt cs (off cs k : Nat) = if c.gone then none else some c := by
  induction cs with
  | nil => intro k c h; cases h
  | cons d cs ih =>
    intro k c h
    cases k with
    | zero => cases h; simp [clAt, off]
    | succ k =>
      rw [List.getElem?_cons_succ] at h
      have := ih h
      rw [off_cons]
      unfold clAt
      rw [if_neg (by omega), if_neg (by omega), show (((3 + d.lits.length + off cs k : Nat)) : Int) - (3 + (d.lits.length : Int)) = (off cs k : Nat) by omega]
      exact this
theorem clAt_some {cs : List Cl} : ∀ {r : Int} {c : Cl}, clAt cs r = some c → ∃ k, cs[k]? = some c ∧ c.gone = false ∧ r = (off cs k : Nat) := by
  induction cs with
  | nil => intro r c h; cases h
  | cons d cs ih =>
    intro r c h
    unfold clAt at h
    split at h
    · rename_i hr
      split at h
      · cases h
      · rename_i hg
        cases h
        exact ⟨0, rfl, by simpa using hg, by rw [hr]; rfl⟩
    · split at h
      · cases h
      · obtain ⟨k, h1, h2, h3⟩ := ih h
        exact ⟨k + 1, h1, h2, by rw [off_cons]; omega⟩
theorem clAt_lt {cs : List Cl} {r : Int} {c : Cl} (h : clAt cs r = some c) : 0 ≤ r ∧ r + 3 + c.lits.length ≤ (wds cs).length := by
  obtain ⟨k, h1, _, rfl⟩ := clAt_some h
  have := wds_end h1
  omega
/-! ### The first word -/
theorem hd_range (c : Cl) (h : c.lits.length ≤ 1000000000000) : 0 ≤ hd c ∧ hd c < 4398046511104 := by unfold hd; split <;> split <;> omega
theorem and_pow (y k : Nat) : y &&& 2 ^ k = if y.testBit k then 2 ^ k else 0 := by
  apply Nat.eq_of_testBit_eq
  intro i
  rw [Nat.testBit_and, Nat.testBit_two_pow]
  by_cases hi : k = i
  · subst hi
    cases y.testBit k
    · simp
    · rw [if_pos rfl, Nat.testBit_two_pow]; simp
  · split
    · rw [Nat.testBit_two_pow]; simp [hi]
    · simp [hi]
section
variable {K : Ret} {h : Heap} {c : Cl}
theorem hd_len (hl : c.lits.length ≤ 1000000000000) : Bin .int .and (Iv (hd c)) (.int .i64 1099511627775) K h = K (Iv (c.lits.length : Nat)) h := by
  rw [Bin_and, mask_i64 (hd c) 40 (by decide) 1099511627775 (by decide)]
  congr 2
  unfold hd; split <;> split <;> omega
theorem bits_and_pow (x : Int) (k : Nat) (hk : k < 62) (h0 : 0 ≤ x) (h1 : x < 4611686018427387904) : bits .and .i64 x ((2 ^ k : Nat) : Int) = if x.toNat.testBit k then ((2 ^ k : Nat) : Int) else 0 := by
  show IntKind.i64.wrap ((BitVec.ofInt 64 x &&& BitVec.ofInt 64 ((2 ^ k : Nat) : Int)).toNat : Int) = _
  have hp : 2 ^ k < 2 ^ 62 := Nat.pow_lt_pow_right (by decide) hk
  have hpn : ∀ p : Nat, p < 2 ^ 62 → (BitVec.ofInt 64 (p : Int)).toNat = p := fun p hp => by rw [BitVec.toNat_ofInt]; omega
  have e1 : (BitVec.ofInt 64 x).toNat = x.toNat := by rw [BitVec.toNat_ofInt]; omega
  have e2 := hpn _ hp
  rw [BitVec.toNat_and, e1, e2, and_pow]
  split
  · rw [IntKind.wrap_i64]; omega
  · rfl
theorem hd_toNat (hl : c.lits.length ≤ 1000000000000) : (hd c).toNat = (if c.gone then 2 ^ 41 else 0) + ((if c.lrn then 2 ^ 40 else 0) + c.lits.length) := by
  unfold hd; split <;> split <;> omega
theorem hd_gone (hl : c.lits.length ≤ 1000000000000) : Bin .int .and (Iv (hd c)) (.int .i64 2199023255552) K h = K (Iv (if c.gone then 2199023255552 else 0)) h := by
  have hr := hd_range c hl
  rw [Bin_and, show (2199023255552 : Int) = ((2 ^ 41 : Nat) : Int) by decide, bits_and_pow _ 41 (by decide) hr.1 (by omega), hd_toNat hl]
  have hlt : (if c.lrn then 2 ^ 40 else 0) + c.lits.length < 2 ^ 41 := by split <;> omega
  congr 2
  cases c.gone with
  | true => rw [if_pos rfl, Nat.testBit_two_pow_add_eq, Nat.testBit_lt_two_pow hlt]; rfl
  | false => simp only [Bool.false_eq_true, if_false, Nat.zero_add]; rw [Nat.testBit_lt_two_pow hlt]; rfl
theorem hd_lrn (hl : c.lits.length ≤ 1000000000000) (hg : c.gone = false) : Bin .int .and (Iv (hd c)) (.int .i64 1099511627776) K h = K (Iv (if c.lrn then 1099511627776 else 0)) h := by
  have hr := hd_range c hl
  rw [Bin_and, show (1099511627776 : Int) = ((2 ^ 40 : Nat) : Int) by decide, bits_and_pow _ 40 (by decide) hr.1 (by omega), hd_toNat hl, hg]
  have hlt : c.lits.length < 2 ^ 40 := by omega
  congr 2
  simp only [Bool.false_eq_true, if_false, Nat.zero_add]
  cases c.lrn with
  | true => rw [if_pos rfl, Nat.testBit_two_pow_add_eq, Nat.testBit_lt_two_pow hlt]; rfl
  | false => simp only [Bool.false_eq_true, if_false, Nat.zero_add]; rw [Nat.testBit_lt_two_pow hlt]; rfl
theorem bits_or_pow (x : Int) (k : Nat) (hk : k < 62) (h0 : 0 ≤ x) (h1 : x < ((2 ^ k : Nat) : Int)) : bits .or .i64 x ((2 ^ k : Nat) : Int) = x + ((2 ^ k : Nat) : Int) := by
  show IntKind.i64.wrap ((BitVec.ofInt 64 x ||| BitVec.ofInt 64 ((2 ^ k : Nat) : Int)).toNat : Int) = _
  have hp : 2 ^ k < 2 ^ 62 := Nat.pow_lt_pow_right (by decide) hk
  have hpn : ∀ p : Nat, p < 2 ^ 62 → (BitVec.ofInt 64 (p : Int)).toNat = p := fun p hp => by rw [BitVec.toNat_ofInt]; omega
  have e1 : (BitVec.ofInt 64 x).toNat = x.toNat := by rw [BitVec.toNat_ofInt]; omega
  have e2 := hpn _ hp
  have key : x.toNat ||| 2 ^ k = 2 ^ k + x.toNat := by
    have := Nat.two_pow_add_eq_or_of_lt (i := k) (b := x.toNat) (by omega) 1
    rw [Nat.mul_one] at this
    rw [Nat.or_comm]; exact this.symm
  rw [BitVec.toNat_or, e1, e2, key, IntKind.wrap_i64]; omega
theorem hd_drop (hl : c.lits.length ≤ 1000000000000) (hg : c.gone = false) : Bin .int .or (Iv (hd c)) (.int .i64 2199023255552) K h = K (Iv (hd { c with gone := true })) h := by
  have : 0 ≤ hd c ∧ hd c < 2199023255552 := by unfold hd; rw [hg]; simp only [Bool.false_eq_true, if_false]; split <;> omega
  rw [Bin_or, show (2199023255552 : Int) = ((2 ^ 41 : Nat) : Int) by decide, bits_or_pow _ 41 (by decide) this.1 (by omega)]
  congr 2
  unfold hd; rw [hg]; simp only [Bool.false_eq_true, if_false, if_true]; omega
theorem hd_new {n : Nat} {l : List Int} {g u : Int} (hl : l.length ≤ 1000000000000) : Bin .int .or (Iv (l.length : Nat)) (.int .i64 1099511627776) K h = K (Iv (hd ⟨l, true, g, u, false⟩)) h := by
  rw [Bin_or, show (1099511627776 : Int) = ((2 ^ 40 : Nat) : Int) by decide, bits_or_pow _ 40 (by decide) (by omega) (by omega)]
  have e : (l.length : Int) + ((2 ^ 40 : Nat) : Int) = hd ⟨l, true, g, u, false⟩ := by unfold hd; simp
  rw [e]
end
def fit31 (n : Int) : Int := min (max n 0) 2147483647
end Go.Proofs.Ythekbpaekopmfaa
