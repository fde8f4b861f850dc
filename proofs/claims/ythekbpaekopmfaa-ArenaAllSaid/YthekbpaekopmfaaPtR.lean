/- Maps from numbers, and slices made at once. No condition. -/
import Derived.Test.YthekbpaekopmfaaPtQ
namespace Go.Pt
set_option linter.unusedVariables false
set_option linter.unusedSimpArgs false
/-- A map from numbers, in the order of its entries. -/
def MapAt (h : Heap) (b : Nat) (k : IntKind) (m : List (Int × Value)) : Prop :=
  ∃ es clock, h[b]? = some (.map es clock) ∧ es.toList.map (fun e => (e.key, e.val)) = m.map (fun p => (Value.int k p.1, p.2)) ∧ (m.map (·.1)).Nodup
section
variable {h h' : Heap} {b : Nat} {k : IntKind} {m : List (Int × Value)} {S : List Nat} {K : Ret}
theorem MapAt.lt (hm : MapAt h b k m) : b < h.size := by
  obtain ⟨es, c, h1, _⟩ := hm
  rcases Nat.lt_or_ge b h.size with hl | hl
  · exact hl
  · rw [Array.getElem?_eq_none hl] at h1; cases h1
theorem MapAt.fr (hm : MapAt h b k m) (f : Fr S h h') (hb : b ∉ S) : MapAt h' b k m := by
  have hl := hm.lt
  obtain ⟨es, c, h1, h2⟩ := hm
  exact ⟨es, c, by rw [f.keep b hl hb]; exact h1, h2⟩
theorem MapAt.one {l : Nat} (hm : MapAt h b k m) (o : One l h h') : MapAt h' b k m := by
  obtain ⟨es, c, h1, h2, h3⟩ := hm
  refine ⟨es, c, ?_, h2, h3⟩
  rw [o.keep b]; exact h1
  rintro rfl
  obtain ⟨r, hr⟩ := o.loop
  rw [h1] at hr; cases hr
theorem MapAt.shut {N : Nat} (hm : MapAt h b k m) (s : Shut N h h') : MapAt h' b k m := by
  obtain ⟨es, c, h1, h2, h3⟩ := hm
  exact ⟨es, c, (s.keep b (.inr fun x e => by rw [h1] at e; cases e)).trans h1, h2, h3⟩
theorem MkM_map (hk : ∀ h', MapAt h' h.size k [] → Fr [] h h' → h'.size = h.size + 1 → K (.map (some h.size)) h') : MkM K h :=
  ⟨hk _ ⟨#[], 0, by simp, by simp, by simp⟩ (Fr.push h _) (by simp)⟩
theorem find_none (n : Int) : ∀ (es : List MapEntry) (m : List (Int × Value)) (i : Nat), es.map (fun e => (e.key, e.val)) = m.map (fun p => (Value.int k p.1, p.2)) → m.lookup n = none → Instr.findNow (.int k) (.int k n) es i = some none
  | [], _, _, _, _ => rfl
  | e :: es, [], _, h, _ => by simp at h
  | e :: es, (q, v) :: m, i, h, hn => by
    simp only [List.map_cons, List.cons.injEq, Prod.mk.injEq] at h
    obtain ⟨⟨h1, h2⟩, h3⟩ := h
    rw [List.lookup_cons] at hn
    split at hn
    · cases hn
    · rename_i hne
      unfold Instr.findNow
      rw [h1]
      simp only [Instr.sameNow, hne, if_true]
      exact find_none n es m (i + 1) h3 hn
theorem find_some (n : Int) (v : Value) : ∀ (es : List MapEntry) (m : List (Int × Value)) (i : Nat), es.map (fun e => (e.key, e.val)) = m.map (fun p => (Value.int k p.1, p.2)) → m.lookup n = some v →
    ∃ j, Instr.findNow (.int k) (.int k n) es i = some (some (i + j, v)) ∧ m[j]? = some (n, v)
  | [], [], _, _, h => by simp at h
  | [], _ :: _, _, h, _ => by simp at h
  | e :: es, [], _, h, _ => by simp at h
  | e :: es, (q, u) :: m, i, h, hn => by
    simp only [List.map_cons, List.cons.injEq, Prod.mk.injEq] at h
    obtain ⟨⟨h1, h2⟩, h3⟩ := h
    rw [List.lookup_cons] at hn
    unfold Instr.findNow
    rw [h1]
    split at hn
    · rename_i heq
      have hq : q = n := (beq_iff_eq.1 heq).symm
      cases hn
      refine ⟨0, ?_, by rw [hq]; rfl⟩
      simp only [Instr.sameNow, BEq.rfl, Bool.true_and, hq, h2]
      rfl
    · rename_i hne
      obtain ⟨j, hj, hm⟩ := find_some n v es m (i + 1) h3 hn
      refine ⟨j + 1, ?_, hm⟩
      simp only [Instr.sameNow, hne, if_true]
      rw [hj, Nat.add_right_comm, Nat.add_assoc]
theorem map_eraseIdx {α β : Type} (f : α → β) : ∀ (l : List α) (j : Nat), (l.eraseIdx j).map f = (l.map f).eraseIdx j
  | [], _ => by simp
  | a :: l, 0 => by simp
  | a :: l, j + 1 => by simp [map_eraseIdx f l j]
theorem zeros_one (x : Value) (n : Nat) : ((Array.range (n * 1)).map ((#[x] : Array Value)[· % (#[x] : Array Value).size]!)).toList = List.replicate n x := by
  have e : ∀ i : Nat, (#[x] : Array Value)[i % (#[x] : Array Value).size]! = x := by
    intro i
    have : i % (#[x] : Array Value).size = 0 := Nat.mod_one i
    rw [this]; rfl
  simp only [e, Nat.mul_one, Array.toList_map, Array.toList_range, List.map_const', List.length_range]
/-- m[n] -/
theorem Lk_map {z : Value} {n : Int} {ok : Bool} (hm : MapAt h b k m) (hk : K (match m.lookup n with | some v => if ok then .tuple #[v, .bool true] else v | none => if ok then .tuple #[z, .bool false] else z) h) : Lk z (.map (some b)) (.int k n) ok K h := by
  obtain ⟨es, c, h1, h2, h3⟩ := hm
  refine ⟨?_⟩
  simp only [h1]
  cases hl : m.lookup n with
  | none => rw [hl] at hk; rw [find_none n _ _ 0 h2 hl]; exact hk
  | some v =>
    rw [hl] at hk
    obtain ⟨j, hj, _⟩ := find_some n v _ _ 0 h2 hl
    rw [hj]; exact hk
theorem lookup_none_iff {n : Int} : ∀ {m : List (Int × Value)}, m.lookup n = none ↔ n ∉ m.map (·.1)
  | [] => by simp
  | (q, v) :: m => by
    rw [List.lookup_cons]
    split
    · rename_i heq
      have := beq_iff_eq.1 heq
      simp [this]
    · rename_i hne
      have := beq_eq_false_iff_ne.1 hne
      rw [lookup_none_iff]
      simp [this]
theorem Fr.set (h : Heap) (b : Nat) (o : Obj) : Fr [b] h (h.setIfInBounds b o) :=
  ⟨by simp, fun c hc hS => by
    have : b ≠ c := fun e => hS (by simp [e])
    simp [Array.getElem?_setIfInBounds, this]⟩
/-- m[n] = v, where n was not there. -/
theorem MUpd_new {n : Int} {v : Value} (hm : MapAt h b k m) (hn : m.lookup n = none) (hk : ∀ h', MapAt h' b k (m ++ [(n, v)]) → Fr [b] h h' → h'.size = h.size → K undef h') : MUpd (.map (some b)) (.int k n) v K h := by
  have hb := hm.lt
  obtain ⟨es, c, h1, h2, h3⟩ := hm
  refine ⟨?_⟩
  simp only [h1]
  rw [find_none n _ _ 0 h2 hn]
  show K undef _
  refine hk _ ⟨_, _, by rw [Array.getElem?_setIfInBounds, if_pos rfl, if_pos hb], ?_, ?_⟩ (Fr.set h b _) (by simp)
  · simp [h2]
  · rw [List.map_append, List.map_cons, List.map_nil]
    have := lookup_none_iff.1 hn
    rw [List.nodup_append]
    refine ⟨h3, by simp, fun a ha c hc e => ?_⟩
    rw [List.mem_singleton] at hc
    have hc' : c = n := hc
    exact this (by rw [← hc', ← e]; exact ha)
/-- m[n] = v, where n was there. -/
theorem MUpd_old {n : Int} {v v0 : Value} (hm : MapAt h b k m) (hn : m.lookup n = some v0) (hk : ∀ h', MapAt h' b k (m.map fun p => if p.1 = n then (n, v) else p) → Fr [b] h h' → h'.size = h.size → K undef h') : MUpd (.map (some b)) (.int k n) v K h := by
  have hb := hm.lt
  obtain ⟨es, c, h1, h2, h3⟩ := hm
  refine ⟨?_⟩
  simp only [h1]
  obtain ⟨j, hj, hmj⟩ := find_some n v0 _ _ 0 h2 hn
  rw [hj, Nat.zero_add]
  show K undef _
  refine hk _ ⟨_, _, by rw [Array.getElem?_setIfInBounds, if_pos rfl, if_pos hb], ?_, ?_⟩ (Fr.set h b _) (by simp)
  · apply List.ext_getElem?
    intro i
    have hi := congrArg (·[i]?) h2
    simp only [List.getElem?_map, Array.getElem?_toList] at hi
    simp only [List.getElem?_map, Array.getElem?_toList, Array.getElem?_modify]
    by_cases hji : j = i
    · subst hji
      rw [hmj] at hi
      simp only [if_true, hmj, Option.map_some]
      cases he : es[j]? with
      | none => rw [he] at hi; cases hi
      | some e => rfl
    · rw [if_neg hji]
      rw [hi]
      cases hmi : m[i]? with
      | none => rfl
      | some p =>
        have hne : p.1 ≠ n := by
          intro e
          have hlj := (List.getElem?_eq_some_iff.1 hmj).1
          have hli := (List.getElem?_eq_some_iff.1 hmi).1
          have e1 : (m.map (·.1))[j]? = some n := by rw [List.getElem?_map, hmj]; rfl
          have e2 : (m.map (·.1))[i]? = some n := by rw [List.getElem?_map, hmi]; simp [e]
          exact hji ((List.getElem?_inj (by simpa using hlj) h3).1 (e1.trans e2.symm))
        simp [hne]
  · rw [List.map_map]
    have : ((fun p : Int × Value => p.1) ∘ fun p => if p.1 = n then (n, v) else p) = (·.1) := by
      funext p
      simp only [Function.comp]
      split
      · rename_i e; exact e.symm
      · rfl
    rw [this]; exact h3
/-- delete(m, n) -/
theorem MDel_map {n : Int} (hm : MapAt h b k m) (hk : ∀ h', MapAt h' b k (m.filter fun p => p.1 != n) → Fr [b] h h' → h'.size = h.size → K (.tuple #[]) h') : MDel (.map (some b)) (.int k n) K h := by
  have hb := hm.lt
  have hm0 := hm
  obtain ⟨es, c, h1, h2, h3⟩ := hm
  refine ⟨?_⟩
  simp only [h1]
  cases hl : m.lookup n with
  | none =>
    rw [find_none n _ _ 0 h2 hl]
    refine hk _ ?_ (Fr.refl _ _) rfl
    have hn := lookup_none_iff.1 hl
    have : m.filter (fun p => p.1 != n) = m := by
      rw [List.filter_eq_self]
      intro p hp
      rw [bne_iff_ne]
      intro e
      exact hn (List.mem_map.2 ⟨p, hp, e⟩)
    rw [this]; exact hm0
  | some v =>
    obtain ⟨j, hj, hmj⟩ := find_some n v _ _ 0 h2 hl
    rw [hj, Nat.zero_add]
    have hf : m.filter (fun p => p.1 != n) = m.eraseIdx j := by
      clear h2 hj hk hl hm0
      induction m generalizing j with
      | nil => cases hmj
      | cons p m ih =>
        cases j with
        | zero =>
          have hp : p = (n, v) := by simpa using hmj
          subst hp
          rw [List.eraseIdx_cons_zero, List.filter_cons_of_neg (by simp), List.filter_eq_self]
          intro q hq
          rw [bne_iff_ne]
          intro e
          simp only [List.map_cons, List.nodup_cons] at h3
          exact h3.1 (List.mem_map.2 ⟨q, hq, e⟩)
        | succ j =>
          simp only [List.map_cons, List.nodup_cons] at h3
          have hmj' : m[j]? = some (n, v) := by simpa using hmj
          have hne : p.1 ≠ n := by
            intro e
            exact h3.1 (List.mem_map.2 ⟨_, List.mem_of_getElem? hmj', e.symm⟩)
          rw [List.eraseIdx_cons_succ, List.filter_cons_of_pos (by simpa using hne), ih h3.2 j hmj']
    show K (.tuple #[]) _
    refine hk _ ⟨_, _, by rw [Array.getElem?_setIfInBounds, if_pos rfl, if_pos hb], ?_, ?_⟩ (Fr.set h b _) (by simp)
    · rw [hf]
      have e1 : (es.eraseIdxIfInBounds j).toList = es.toList.eraseIdx j := by
        unfold Array.eraseIdxIfInBounds
        split
        · simp
        · rename_i hge
          rw [List.eraseIdx_of_length_le]
          simpa using hge
      rw [e1, map_eraseIdx, h2, map_eraseIdx]
    · exact (List.Sublist.map _ List.filter_sublist).nodup h3
/-- len(m) -/
theorem LenM_map (hm : MapAt h b k m) (hk : K (.int .i64 (m.length : Int)) h) : LenM (.map (some b)) K h := by
  obtain ⟨es, c, h1, h2, h3⟩ := hm
  refine ⟨?_⟩
  simp only [h1]
  have := congrArg List.length h2
  simp only [List.length_map, Array.length_toList] at this
  rw [this]; exact hk
/-- make([]T, n) -/
theorem MkS_one {el bytes : Nat} {x : Value} {j k : IntKind} {n : Nat} (hb : bytes * n ≤ 281474976710656) (hn : n ≤ 281474976710656)
    (hk : ∀ h', Own h' (.slice (some ⟨h.size, 0, none⟩) n n) (List.replicate n x) [h.size] → Fr [] h h' → h'.size = h.size + 1 → K (.slice (some ⟨h.size, 0, none⟩) n n) h') : MkS el bytes 1 #[x] (.int j n) (.int k n) K h := by
  rw [MkS_eq]
  refine ⟨⟨by omega, by omega, by omega, ?_⟩, ?_⟩
  · rw [← Int.natCast_mul]; omega
  · rw [Int.toNat_natCast]
    refine hk _ ?_ (Fr.push h _) (by simp)
    have := Own.of_blk (Blk.push h ((Array.range (n * 1)).map ((#[x] : Array Value)[· % (#[x] : Array Value).size]!)) el)
    rw [zeros_one] at this
    simpa using this
/-- A slice of two or three. -/
theorem BldS_two {el : Nat} {z x y : Value} (hx : isCell x = true) (hy : isCell y = true)
    (hk : ∀ h', Own h' (.slice (some ⟨h.size, 0, none⟩) 2 2) [x, y] [h.size] → Fr [] h h' → h'.size = h.size + 1 → K (.slice (some ⟨h.size, 0, none⟩) 2 2) h') : BldS el 1 2 #[z] [(0, x), (1, y)] K h := by
  rw [BldS_eq]
  have e : (Array.range (2 * 1)).map ((#[z] : Array Value)[· % (#[z] : Array Value).size]!) = #[z, z] := by
    apply Array.ext'; rw [zeros_one]; rfl
  rw [e, fill_one (off := 0) rfl hx (by simp), fill_one (off := 1) rfl hy (by simp), fill_nil]
  exact hk _ (by have := Own.of_blk (Blk.push h #[x, y] el); simpa using this) (Fr.push h _) (by simp)
theorem BldS_three {el : Nat} {z x y u : Value} (hx : isCell x = true) (hy : isCell y = true) (hu : isCell u = true)
    (hk : ∀ h', Own h' (.slice (some ⟨h.size, 0, none⟩) 3 3) [x, y, u] [h.size] → Fr [] h h' → h'.size = h.size + 1 → K (.slice (some ⟨h.size, 0, none⟩) 3 3) h') : BldS el 1 3 #[z] [(0, x), (1, y), (2, u)] K h := by
  rw [BldS_eq]
  have e : (Array.range (3 * 1)).map ((#[z] : Array Value)[· % (#[z] : Array Value).size]!) = #[z, z, z] := by
    apply Array.ext'; rw [zeros_one]; rfl
  rw [e, fill_one (off := 0) rfl hx (by simp), fill_one (off := 1) rfl hy (by simp), fill_one (off := 2) rfl hu (by simp), fill_nil]
  exact hk _ (by have := Own.of_blk (Blk.push h #[x, y, u] el); simpa using this) (Fr.push h _) (by simp)
end
end Go.Pt
