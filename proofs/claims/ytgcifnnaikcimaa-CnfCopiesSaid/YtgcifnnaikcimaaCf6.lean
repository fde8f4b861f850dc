/- Literals changed in place; turning a variable over. Conditions: those typed ahead of each theorem. -/
import Derived.Test.YtgcifnnaikcimaaCf5
namespace Go.Proofs.Ytgcifnnaikcimaa
open Go.Pt
set_option linter.unusedVariables false
set_option linter.unusedSimpArgs false
theorem set_map {α β : Type} {g : α → β} {ps : List α} {i : Nat} {p q : α} (hp : ps[i]? = some p) (e : g q = g p) : (ps.set i q).map g = ps.map g := by
  refine List.ext_getElem? fun j => ?_
  rw [List.getElem?_map, List.getElem?_map, List.getElem?_set]
  by_cases c : i = j
  · subst c
    have hi : i < ps.length := by
      rcases Nat.lt_or_ge i ps.length with x | x
      · exact x
      · rw [List.getElem?_eq_none x] at hp; cases hp
    rw [if_pos rfl, if_pos hi, hp, Option.map_some, Option.map_some, e]
  · rw [if_neg c]
theorem ofp_set {b0 : List Nat} {ps : Ps} {i : Nat} {x : Value} {c c' : List Int} {bs : List Nat} (hp : ps[i]? = some (x, c, bs)) : ofp b0 (ps.set i (x, c', bs)) = ofp b0 ps := by
  have e : ∀ q : Ps, ofp b0 q = b0 ++ (q.map (·.2.2)).flatten := fun _ => rfl
  rw [e, e, set_map (g := fun x : Value × List Int × List Nat => x.2.2) (q := (x, c', bs)) hp rfl]
theorem cls_set (ps : Ps) (i : Nat) (x : Value) (c : List Int) (bs : List Nat) : cls (ps.set i (x, c, bs)) = (cls ps).set i c := by rw [cls, cls, List.map_set]
theorem OwnF.put {K : Ret} {h : Heap} {v x : Value} {N i k : Nat} {b0 bs : List Nat} {ps : Ps} {c : List Int} {l' : Int} (o : OwnF h v N b0 ps) (hp : ps[i]? = some (x, c, bs)) (hk : k < c.length)
    (hK : ∀ h', OwnF h' v N b0 (ps.set i (x, c.set k l', bs)) → Fr (ofp b0 ps) h h' → K undef h') : Idx 1 x (Iv (k : Nat)) (fun a h => St a (Iv l') K h) h := by
  have hm := List.mem_of_getElem? hp
  have hi : i < ps.length := by
    rcases Nat.lt_or_ge i ps.length with y | y
    · exact y
    · rw [List.getElem?_eq_none y] at hp; cases hp
  refine (o.each _ hm).put (by omega) (by rw [List.length_map, Int.toNat_natCast]; exact hk) rfl fun h1 o1 f1 _ => ?_
  rw [Int.toNat_natCast] at o1
  have e1 : (ps.set i (x, c.set k l', bs)).map (·.1) = ps.map (·.1) := set_map hp rfl
  have hj : ∀ q ∈ ps.set i (x, c.set k l', bs), q = (x, c.set k l', bs) ∨ (q ∈ ps ∧ ∀ b ∈ q.2.2, b ∉ bs) := by
    intro q hq
    obtain ⟨j, hj⟩ := List.getElem?_of_mem hq
    rw [List.getElem?_set] at hj
    by_cases e : i = j
    · rw [if_pos e, if_pos hi] at hj; cases hj; exact .inl rfl
    · rw [if_neg e] at hj
      refine .inr ⟨List.mem_of_getElem? hj, fun b hb hm' => ?_⟩
      have hd := List.pairwise_iff_getElem.1 o.dj
      have hjl : j < ps.length := by
        rcases Nat.lt_or_ge j ps.length with y | y
        · exact y
        · rw [List.getElem?_eq_none y] at hj; cases hj
      rw [List.getElem?_eq_getElem hjl] at hj
      rw [List.getElem?_eq_getElem hi] at hp
      have hj' := Option.some.inj hj
      have hp' := Option.some.inj hp
      rcases Nat.lt_or_gt_of_ne e with y | y
      · exact hd i j hi hjl y b (by rw [hp']; exact hm') (by rw [hj']; exact hb)
      · exact hd j i hjl hi y b (by rw [hj']; exact hb) (by rw [hp']; exact hm')
  refine hK h1 ⟨?_, fun q hq => ?_, o.lo, fun q hq => ?_, ?_⟩ (f1.mono fun b hb => List.mem_append_right _ (List.mem_flatMap.2 ⟨_, hm, hb⟩))
  · rw [e1]; exact o.own.fr f1 fun b hb hm' => (o.los _ hm b hm').2 hb
  · rcases hj q hq with rfl | ⟨y, z⟩
    · show Own h1 x ((c.set k l').map Iv) bs
      rw [List.map_set]; exact o1
    · exact (o.each q y).fr f1 z
  · rcases hj q hq with rfl | ⟨y, z⟩
    · exact fun b hb => o.los (x, c, bs) hm b hb
    · exact o.los q y
  · have := o.dj
    have e2 : (ps.set i (x, c.set k l', bs)).map (·.2.2) = ps.map (·.2.2) := set_map hp rfl
    have h1 : ((ps.set i (x, c.set k l', bs)).map (·.2.2)).Pairwise fun a b => ∀ y ∈ a, y ∉ b := by rw [e2]; exact List.pairwise_map.2 this
    exact List.pairwise_map.1 h1
/-- A clause turned up to a place. -/
def mix (f : Int → Int) (k : Nat) (c : List Int) : List Int := (c.take k).map f ++ c.drop k
theorem mix_zero (f : Int → Int) (c : List Int) : mix f 0 c = c := rfl
theorem mix_all (f : Int → Int) (c : List Int) : mix f c.length c = c.map f := by simp [mix]
theorem mix_len (f : Int → Int) (k : Nat) (c : List Int) : (mix f k c).length = c.length := by simp [mix]; omega
theorem mix_at {f : Int → Int} {k : Nat} {c : List Int} {l : Int} (h : c[k]? = some l) : (mix f k c)[k]? = some l := by
  have hk : k < c.length := by
    rcases Nat.lt_or_ge k c.length with y | y
    · exact y
    · rw [List.getElem?_eq_none y] at h; cases h
  rw [mix, List.getElem?_append_right (by simp; omega), List.getElem?_drop]
  simp only [List.length_map, List.length_take]
  rw [show k + (k - min k c.length) = k by omega]; exact h
theorem mix_set {f : Int → Int} {k : Nat} {c : List Int} {l : Int} (h : c[k]? = some l) : (mix f k c).set k (f l) = mix f (k + 1) c := by
  have hk : k < c.length := by
    rcases Nat.lt_or_ge k c.length with y | y
    · exact y
    · rw [List.getElem?_eq_none y] at h; cases h
  have hl : c[k] = l := by rw [List.getElem?_eq_getElem hk] at h; exact Option.some.inj h
  have e1 : ((c.take k).map f).length = k := by simp; omega
  rw [mix, mix, List.set_append_right _ _ (by omega), e1, Nat.sub_self, List.drop_eq_getElem_cons hk, List.set_cons_zero, List.take_add_one, h, List.map_append, List.append_assoc]
  rfl
theorem mix_same {f : Int → Int} {k : Nat} {c : List Int} {l : Int} (h : c[k]? = some l) (e : f l = l) : mix f (k + 1) c = mix f k c := by
  rw [← mix_set h, e]
  have := mix_at (f := f) h
  exact List.ext_getElem? fun j => by
    rw [List.getElem?_set]
    by_cases ej : k = j
    · subst ej
      have hk : k < (mix f k c).length := by
        rcases Nat.lt_or_ge k (mix f k c).length with y | y
        · exact y
        · rw [List.getElem?_eq_none y] at this; cases this
      rw [if_pos rfl, if_pos hk, this]
    · rw [if_neg ej]
/-- Clauses turned up to one. -/
def turned (f : Int → Int) (i : Nat) (m : List Int) (cs : List (List Int)) : List (List Int) := (cs.take i).map (List.map f) ++ m :: cs.drop (i + 1)
def half (f : Int → Int) (i : Nat) (cs : List (List Int)) : List (List Int) := (cs.take i).map (List.map f) ++ cs.drop i
theorem half_zero (f : Int → Int) (cs : List (List Int)) : half f 0 cs = cs := rfl
theorem half_all (f : Int → Int) (cs : List (List Int)) : half f cs.length cs = cs.map (List.map f) := by simp [half]
theorem half_at {f : Int → Int} {i : Nat} {cs : List (List Int)} {c : List Int} (h : cs[i]? = some c) : half f i cs = turned f i c cs := by
  have hk : i < cs.length := by
    rcases Nat.lt_or_ge i cs.length with y | y
    · exact y
    · rw [List.getElem?_eq_none y] at h; cases h
  have hl : cs[i] = c := by rw [List.getElem?_eq_getElem hk] at h; exact Option.some.inj h
  rw [half, turned, List.drop_eq_getElem_cons hk, hl]
theorem turned_end {f : Int → Int} {i : Nat} {cs : List (List Int)} {c : List Int} (h : cs[i]? = some c) : turned f i (c.map f) cs = half f (i + 1) cs := by
  rw [half, turned, List.take_add_one, h, List.map_append, List.append_assoc]; rfl
theorem turned_set {f : Int → Int} {i : Nat} {cs : List (List Int)} {m m' : List Int} (hi : i < cs.length) : (turned f i m cs).set i m' = turned f i m' cs := by
  have e1 : ((cs.take i).map (List.map f)).length = i := by simp; omega
  rw [turned, turned, List.set_append_right _ _ (by omega), e1, Nat.sub_self, List.set_cons_zero]
theorem turned_at {f : Int → Int} {i : Nat} {cs : List (List Int)} {m : List Int} (hi : i < cs.length) : (turned f i m cs)[i]? = some m := by
  have e1 : ((cs.take i).map (List.map f)).length = i := by simp; omega
  rw [turned, List.getElem?_append_right (by omega), e1, Nat.sub_self]; rfl
theorem cls_at {ps : Ps} {i : Nat} {c : List Int} (h : (cls ps)[i]? = some c) : ∃ x bs, ps[i]? = some (x, c, bs) := by
  rw [cls, List.getElem?_map] at h
  cases hp : ps[i]? with
  | none => rw [hp] at h; cases h
  | some p => rw [hp] at h; cases h; exact ⟨p.1, p.2.2, rfl⟩
/-! ### Turning a variable over -/
def fl (x : Nat) (l : Int) : Int := if l = x ∨ l = -(x : Int) then -l else l
theorem fl_fl (x : Nat) (l : Int) : fl x (fl x l) = l := by
  unfold fl
  by_cases c : l = x ∨ l = -(x : Int)
  · rw [if_pos c, if_pos (by omega)]; omega
  · rw [if_neg c, if_neg c]
theorem fl_ok {n x : Nat} {l : Int} (h : LitOk n l) : LitOk n (fl x l) := by unfold LitOk fl at *; split <;> omega
theorem litT_fl {A : List Bool} {n x : Nat} {l : Int} (hA : A.length = n) (x1 : 1 ≤ x) (xn : x ≤ n) (h : LitOk n l) : litT (A.set (x - 1) (!A.getD (x - 1) false)) (fl x l) = litT A l := by
  obtain ⟨l0, l1, l2⟩ := h
  unfold litT fl
  by_cases c : l = x ∨ l = -(x : Int)
  · rw [if_pos c]
    have e1 : (-l).natAbs = x := by omega
    have e2 : l.natAbs = x := by omega
    rw [e1, e2, List.getD_eq_getElem?_getD, List.getElem?_set_self (by omega), Option.getD_some]
    have e3 : decide (-l > 0) = !decide (l > 0) := by
      by_cases q : l > 0
      · rw [decide_eq_true q, decide_eq_false (by omega)]; rfl
      · rw [decide_eq_false q, decide_eq_true (by omega)]; rfl
    rw [e3]
    cases A.getD (x - 1) false <;> cases decide (l > 0) <;> rfl
  · rw [if_neg c, List.getD_eq_getElem?_getD, List.getElem?_set_ne (by omega), ← List.getD_eq_getElem?_getD]
theorem satT_fl {A : List Bool} {n x : Nat} {cs : List (List Int)} (hA : A.length = n) (x1 : 1 ≤ x) (xn : x ≤ n) (h : FOk n cs) : satT (A.set (x - 1) (!A.getD (x - 1) false)) (cs.map (List.map (fl x))) = satT A cs := by
  unfold satT
  rw [List.all_map]
  refine Bool.eq_iff_iff.2 ?_
  rw [List.all_eq_true, List.all_eq_true]
  refine forall_congr' fun c => forall_congr' fun hc => ?_
  have : clT (A.set (x - 1) (!A.getD (x - 1) false)) (c.map (fl x)) = clT A c := by
    unfold clT
    rw [List.any_map]
    refine Bool.eq_iff_iff.2 ?_
    rw [List.any_eq_true, List.any_eq_true]
    refine exists_congr fun l => and_congr_right fun hl => ?_
    show litT _ (fl x l) = true ↔ _
    rw [litT_fl hA x1 xn (h c hc l hl)]
  show clT _ (c.map (fl x)) = true ↔ _
  rw [this]
theorem bits_flip {n x k : Nat} (x1 : 1 ≤ x) (xn : x ≤ n) : bitsOf n (k ^^^ 2 ^ (n - x)) = (bitsOf n k).set (x - 1) (!(bitsOf n k).getD (x - 1) false) := by
  refine List.ext_getElem (by simp [bitsOf]) fun p h1 h2 => ?_
  have hp : p < n := by simpa [bitsOf] using h1
  rw [List.getElem_set]
  have e : (bitsOf n k).getD (x - 1) false = k.testBit (n - 1 - (x - 1)) := by
    rw [List.getD_eq_getElem?_getD, List.getElem?_eq_getElem (by rw [bits_len]; omega)]
    simp only [bitsOf, List.getElem_map, List.getElem_range, Option.getD_some]
  by_cases c : x - 1 = p
  · rw [if_pos c, e]
    simp only [bitsOf, List.getElem_map, List.getElem_range, Nat.testBit_xor, Nat.testBit_two_pow]
    rw [← c, decide_eq_true (by omega)]; simp
  · rw [if_neg c]
    simp only [bitsOf, List.getElem_map, List.getElem_range, Nat.testBit_xor, Nat.testBit_two_pow]
    rw [decide_eq_false (by omega)]; simp
theorem ex_flip {n x : Nat} {cs : List (List Int)} (x1 : 1 ≤ x) (xn : x ≤ n) (h : FOk n cs) (q : ∃ k, k < 2 ^ n ∧ satT (bitsOf n k) cs = true) : ∃ k, k < 2 ^ n ∧ satT (bitsOf n k) (cs.map (List.map (fl x))) = true := by
  obtain ⟨k, hk, hs⟩ := q
  refine ⟨k ^^^ 2 ^ (n - x), Nat.xor_lt_two_pow hk (Nat.pow_lt_pow_right (by decide) (by omega)), ?_⟩
  rw [bits_flip x1 xn, satT_fl (bits_len n k) x1 xn h, hs]
theorem FOk_fl {n x : Nat} {cs : List (List Int)} (h : FOk n cs) : FOk n (cs.map (List.map (fl x))) := by
  intro c hc l hl
  obtain ⟨c', hc', rfl⟩ := List.mem_map.1 hc
  obtain ⟨l', hl', rfl⟩ := List.mem_map.1 hl
  exact fl_ok (h c' hc' l' hl')
theorem fl_map (x : Nat) (cs : List (List Int)) : (cs.map (List.map (fl x))).map (List.map (fl x)) = cs := by
  rw [List.map_map]
  conv => rhs; rw [← List.map_id cs]
  refine List.map_congr_left fun c _ => ?_
  simp only [Function.comp, List.map_map]
  conv => rhs; rw [id, ← List.map_id c]
  exact List.map_congr_left fun l _ => fl_fl x l
theorem Least.ok_iff {n : Nat} {cs : List (List Int)} {h : Heap} {A : Value} {ok : Bool} (q : Least n cs h A ok) : ok = true ↔ ∃ k, k < 2 ^ n ∧ satT (bitsOf n k) cs = true := by
  rcases q with ⟨rfl, k, h1, h2, _⟩ | ⟨rfl, _, h1⟩
  · exact ⟨fun _ => ⟨k, h1, h2⟩, fun _ => rfl⟩
  · refine ⟨fun x => (by cases x), ?_⟩
    rintro ⟨k, a, b⟩
    rw [h1 k a] at b; cases b
theorem Least.flip {n x : Nat} {cs : List (List Int)} {h h' : Heap} {A B : Value} {ok is : Bool} (x1 : 1 ≤ x) (xn : x ≤ n) (hf : FOk n cs) (q : Least n cs h A ok) (q' : Least n (cs.map (List.map (fl x))) h' B is) : ok = is := by
  rw [Bool.eq_iff_iff, q.ok_iff, q'.ok_iff]
  refine ⟨ex_flip x1 xn hf, fun e => ?_⟩
  have := ex_flip x1 xn (FOk_fl (x := x) hf) e
  rwa [fl_map] at this
end Go.Proofs.Ytgcifnnaikcimaa
