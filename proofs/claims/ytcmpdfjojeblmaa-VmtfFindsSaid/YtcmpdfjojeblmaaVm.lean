/- A row of variables as links in memory: the plain facts. Conditions: those typed ahead of each theorem. -/
import Derived.Test.YtcmpdfjojeblmaaFn
import Derived.Test.YtcmpdfjojeblmaaPtS
namespace Go.Proofs.Ytcmpdfjojeblmaa
open Go.Pt
set_option linter.unusedVariables false
set_option linter.unusedSimpArgs false
abbrev Iv (n : Int) : Value := .int .i64 n
def upd (f : Nat → Int) (j : Nat) (v : Int) : Nat → Int := fun k => if k = j then v else f k
theorem upd_same (f : Nat → Int) (j : Nat) (v : Int) : upd f j v j = v := if_pos rfl
theorem upd_ne (f : Nat → Int) {j k : Nat} (v : Int) (h : k ≠ j) : upd f j v k = f k := if_neg h
/-- The cells of n + 1 links. -/
def flat (f : Nat → Int) (n : Nat) : List Value := (List.range (3 * (n + 1))).map fun j => Iv (f j)
theorem flat_len (f : Nat → Int) (n : Nat) : (flat f n).length = 3 * (n + 1) := by simp [flat]
theorem flat_at {f : Nat → Int} {n j : Nat} (hj : j < 3 * (n + 1)) : At (flat f n) j (Iv (f j)) := ⟨by simp [flat, List.getElem?_map, List.getElem?_range hj]⟩
theorem flat_set (f : Nat → Int) (n j : Nat) (v : Int) : (flat f n).set j (Iv v) = flat (upd f j v) n := by
  apply List.ext_getElem?
  intro k
  rw [List.getElem?_set]
  by_cases hk : k < 3 * (n + 1)
  · have a := (flat_at (f := f) hk).out
    have b := (flat_at (f := upd f j v) hk).out
    rw [a, b, flat_len]
    by_cases e : j = k
    · subst e; simp [hk, upd_same]
    · rw [if_neg e, upd_ne _ _ (fun h => e h.symm)]
  · have a : (flat f n)[k]? = none := List.getElem?_eq_none (by rw [flat_len]; omega)
    have b : (flat (upd f j v) n)[k]? = none := List.getElem?_eq_none (by rw [flat_len]; omega)
    rw [a, b]
    by_cases e : j = k
    · subst e; rw [if_pos rfl, if_neg (by rw [flat_len]; omega)]
    · rw [if_neg e]

/-! ### Rows -/
def Lnk (f : Nat → Int) (a b : Nat) : Prop := f (3 * a + 1) = (b : Int) ∧ f (3 * b) = (a : Int)
def Path (f : Nat → Int) : List Nat → Prop
  | a :: b :: l => Lnk f a b ∧ Path f (b :: l)
  | _ => True
theorem path_append {f : Nat → Int} {a : Nat} {m : List Nat} : ∀ {l : List Nat}, Path f (l ++ a :: m) ↔ Path f (l ++ [a]) ∧ Path f (a :: m)
  | [] => by simp [Path]
  | [b] => by simp [Path, and_assoc]
  | b :: c :: l => by
    have := path_append (f := f) (a := a) (m := m) (l := c :: l)
    simp only [List.cons_append, Path] at this ⊢
    rw [this, and_assoc]
theorem path_congr {f g : Nat → Int} : ∀ {l : List Nat}, (∀ a ∈ l.dropLast, g (3 * a + 1) = f (3 * a + 1)) → (∀ a ∈ l.tail, g (3 * a) = f (3 * a)) → Path f l → Path g l
  | [], _, _, _ => trivial
  | [a], _, _, _ => trivial
  | a :: b :: l, h1, h2, ⟨⟨h3, h4⟩, h5⟩ => by
    refine ⟨⟨by rw [h1 a (by simp), h3], by rw [h2 b (by simp), h4]⟩, path_congr (fun x hx => h1 x ?_) (fun x hx => h2 x ?_) h5⟩
    · rw [List.dropLast_cons_of_ne_nil (by simp)]; exact List.mem_cons_of_mem _ hx
    · exact List.mem_cons_of_mem _ hx
/-- join -/
def jn (f : Nat → Int) (x y : Nat) : Nat → Int := upd (upd f (3 * x + 1) y) (3 * y) x
theorem jn_lnk (f : Nat → Int) (x y : Nat) : Lnk (jn f x y) x y := by
  unfold jn Lnk
  exact ⟨by rw [upd_ne _ _ (by omega), upd_same], upd_same _ _ _⟩
theorem jn_beh (f : Nat → Int) {x y a : Nat} (h : a ≠ x) : jn f x y (3 * a + 1) = f (3 * a + 1) := by
  unfold jn; rw [upd_ne _ _ (by omega), upd_ne _ _ (by omega)]
theorem jn_ahd (f : Nat → Int) {x y a : Nat} (h : a ≠ y) : jn f x y (3 * a) = f (3 * a) := by
  unfold jn; rw [upd_ne _ _ (by omega), upd_ne _ _ (by omega)]
theorem jn_st (f : Nat → Int) (x y a : Nat) : jn f x y (3 * a + 2) = f (3 * a + 2) := by
  unfold jn; rw [upd_ne _ _ (by omega), upd_ne _ _ (by omega)]
theorem path_jn {f : Nat → Int} {l : List Nat} {x y : Nat} (h1 : x ∉ l.dropLast) (h2 : y ∉ l.tail) (hp : Path f l) : Path (jn f x y) l :=
  path_congr (fun a ha => jn_beh f fun e => h1 (e ▸ ha)) (fun a ha => jn_ahd f fun e => h2 (e ▸ ha)) hp
/-- What the three joins of a move come to. -/
def mv (f : Nat → Int) (v : Nat) : Nat → Int :=
  let f1 := jn f (f (3 * v)).toNat (f (3 * v + 1)).toNat
  let f2 := jn f1 v (f1 1).toNat
  jn f2 0 v
theorem mv_spec {f : Nat → Int} {v : Nat} {l1 l2 : List Nat} (hn : (0 :: (l1 ++ v :: l2)).Nodup) (hp : Path f (0 :: (l1 ++ v :: l2) ++ [0])) :
    Path (mv f v) (0 :: v :: (l1 ++ l2) ++ [0]) ∧ (∃ p s : Nat, f (3 * v) = p ∧ f (3 * v + 1) = s ∧ p ∈ 0 :: l1 ∧ s ∈ l2 ++ [0] ∧ ∃ b : Nat, jn f p s 1 = b ∧ b ∈ (l1 ++ l2) ++ [0]) := by
  have hv0 : v ≠ 0 := by intro e; subst e; simp at hn
  have hn' : l1.Nodup ∧ l2.Nodup ∧ v ∉ l1 ∧ v ∉ l2 ∧ 0 ∉ l1 ∧ 0 ∉ l2 ∧ ∀ a ∈ l1, a ∉ l2 := by
    simp only [List.nodup_cons, List.nodup_append, List.mem_append, List.mem_cons] at hn
    obtain ⟨h0, h1, ⟨h2, h3⟩, h4⟩ := hn
    refine ⟨h1, h3, fun hm => h4 v hm v (.inl rfl) rfl, h2, fun hm => h0 (.inl hm), fun hm => h0 (.inr (.inr hm)), fun a ha hb => h4 a ha a (.inr hb) rfl⟩
  obtain ⟨n1, n2, v1, v2, z1, z2, dj⟩ := hn'
  obtain ⟨A', p, hA⟩ : ∃ A' p, 0 :: l1 = A' ++ [p] := ⟨_, _, (List.dropLast_concat_getLast (l := 0 :: l1) (by simp)).symm⟩
  obtain ⟨s, B', hB⟩ : ∃ s B', l2 ++ [0] = s :: B' := by cases l2 with | nil => exact ⟨0, [], rfl⟩ | cons a l => exact ⟨a, l ++ [0], rfl⟩
  have hp1 : Path f ((0 :: l1) ++ v :: (l2 ++ [0])) := by simpa using hp
  rw [path_append] at hp1
  obtain ⟨q1, q2⟩ := hp1
  rw [hA, List.append_assoc, List.singleton_append, path_append] at q1
  obtain ⟨qa, qp, _⟩ := q1
  rw [hB] at q2
  obtain ⟨qs, qb⟩ := q2
  have ep : f (3 * v) = p := qp.2
  have es : f (3 * v + 1) = s := qs.1
  have hpm : p ∈ 0 :: l1 := by rw [hA]; simp
  have hsm : s ∈ l2 ++ [0] := by rw [hB]; simp
  have hpv : p ≠ v := by intro e; subst e; rcases List.mem_cons.1 hpm with q | q; exact hv0 q; exact v1 q
  have hsv : s ≠ v := by intro e; subst e; rcases List.mem_append.1 hsm with q | q; exact v2 q; exact hv0 (by simpa using q)
  have hpA : p ∉ A' := by
    intro hm
    have : (0 :: l1).Nodup := by rw [List.nodup_cons]; exact ⟨z1, n1⟩
    rw [hA, List.nodup_append] at this
    exact this.2.2 p hm p (by simp) rfl
  have hsB : s ∉ B' := by
    intro hm
    have : (l2 ++ [0]).Nodup := by rw [List.nodup_append]; exact ⟨n2, by simp, fun a ha b hb => by simp at hb; subst hb; exact fun e => z2 (e ▸ ha)⟩
    rw [hB, List.nodup_cons] at this
    exact this.1 hm
  -- the first join
  have r1 : Path (jn f p s) (0 :: l1) := by
    rw [hA]
    refine path_jn (by simpa using hpA) (fun hm => ?_) qa
    rw [← hA] at hm
    rcases List.mem_append.1 hsm with q | q
    · exact dj s (by simpa using hm) q
    · simp at q; subst q; exact z1 (by simpa using hm)
  have r2 : Path (jn f p s) (l2 ++ [0]) := by
    rw [hB]
    refine path_jn (fun hm => ?_) (by simpa using hsB) qb
    rw [← hB, List.dropLast_concat] at hm
    rcases List.mem_cons.1 hpm with q | q
    · subst q; exact z2 hm
    · exact dj p q hm
  have r3 : Path (jn f p s) (0 :: (l1 ++ l2) ++ [0]) := by
    rw [show 0 :: (l1 ++ l2) ++ [0] = A' ++ p :: (l2 ++ [0]) by rw [← List.cons_append, hA]; simp, path_append, ← hA, hB]
    exact ⟨r1, jn_lnk f p s, hB ▸ r2⟩
  obtain ⟨b, C', hC⟩ : ∃ b C', (l1 ++ l2) ++ [0] = b :: C' := by cases h : l1 ++ l2 with | nil => exact ⟨0, [], rfl⟩ | cons a l => exact ⟨a, l ++ [0], rfl⟩
  have hCn : (b :: C').Nodup := by
    rw [← hC, List.nodup_append, List.nodup_append]
    exact ⟨⟨n1, n2, fun a ha b hb e => dj a ha (e ▸ hb)⟩, by simp, fun a ha b hb => by
      simp at hb; subst hb; rcases List.mem_append.1 ha with q | q
      · exact fun e => z1 (e ▸ q)
      · exact fun e => z2 (e ▸ q)⟩
  rw [List.cons_append, hC] at r3
  have eb : jn f p s 1 = b := r3.1.1
  have hbm : b ∈ (l1 ++ l2) ++ [0] := by rw [hC]; simp
  have hvC : v ∉ b :: C' := by
    rw [← hC]; simp only [List.mem_append, List.mem_singleton]
    rintro ((q | q) | q)
    · exact v1 q
    · exact v2 q
    · exact hv0 q
  have hdl : (b :: C').dropLast = l1 ++ l2 := by rw [← hC, List.dropLast_concat]
  have s1 : Path (jn (jn f p s) v b) (b :: C') :=
    path_jn (fun hm => hvC (List.dropLast_subset _ hm)) (by rw [List.nodup_cons] at hCn; exact hCn.1) r3.2
  have s2 : Path (jn (jn (jn f p s) v b) 0 v) (b :: C') :=
    path_jn (by rw [hdl]; simp [z1, z2]) (fun hm => hvC (List.mem_cons_of_mem _ hm)) s1
  refine ⟨?_, p, s, ep, es, hpm, hsm, b, eb, hbm⟩
  have emv : mv f v = jn (jn (jn f p s) v b) 0 v := by simp only [mv, ep, es, Int.toNat_natCast, eb]
  rw [emv, List.cons_append, List.cons_append, hC]
  refine ⟨jn_lnk _ _ _, ⟨?_, ?_⟩, s2⟩
  · rw [jn_beh _ hv0]; exact (jn_lnk (jn f p s) v b).1
  · rw [jn_ahd _ (fun e => hvC (by rw [← e]; simp))]; exact (jn_lnk (jn f p s) v b).2
theorem mv_st {f : Nat → Int} {v a : Nat} : mv f v (3 * a + 2) = f (3 * a + 2) := by simp only [mv, jn_st]
end Go.Proofs.Ytcmpdfjojeblmaa
