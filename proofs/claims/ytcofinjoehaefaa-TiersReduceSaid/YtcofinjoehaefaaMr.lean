/- Ranges over maps from numbers. Conditions: those typed ahead of each theorem. -/
import Derived.Test.YtcofinjoehaefaaPtS
namespace Go.Proofs.Ytcofinjoehaefaa
open Go.Pt
set_option linter.unusedVariables false
set_option linter.unusedSimpArgs false
/-- A map that can be ranged over. -/
def MapC (h : Heap) (b : Nat) (m : List (Int × Value)) : Prop :=
  ∃ es c, h[b]? = some (.map es c) ∧ es.toList.map (fun e => (e.key, e.val)) = m.map (fun p => (Value.int .i64 p.1, p.2)) ∧ (m.map (·.1)).Nodup ∧ ∀ e ∈ es, e.born < c
section
variable {h h' : Heap} {b r n : Nat} {m : List (Int × Value)} {S : List Nat} {K : Ret}
theorem MapC.at (hm : MapC h b m) : MapAt h b .i64 m := by
  obtain ⟨es, c, h1, h2, h3, _⟩ := hm
  exact ⟨es, c, h1, h2, h3⟩
theorem MapC.fr (hm : MapC h b m) (f : Fr S h h') (hb : b ∉ S) : MapC h' b m := by
  have hl := hm.at.lt
  obtain ⟨es, c, h1, h2⟩ := hm
  exact ⟨es, c, by rw [f.keep b hl hb]; exact h1, h2⟩
theorem MkM_c (hk : ∀ h', MapC h' h.size [] → Fr [] h h' → h'.size = h.size + 1 → K (.map (some h.size)) h') : MkM K h :=
  ⟨hk _ ⟨#[], 0, by simp, by simp, by simp, by simp⟩ (Fr.push h _) (by simp)⟩
theorem MUpd_newC {k : Int} {v : Value} (hm : MapC h b m) (hn : m.lookup k = none) (hk : ∀ h', MapC h' b (m ++ [(k, v)]) → Fr [b] h h' → h'.size = h.size → K undef h') : MUpd (.map (some b)) (.int .i64 k) v K h := by
  have hb := hm.at.lt
  obtain ⟨es, c, h1, h2, h3, h4⟩ := hm
  refine ⟨?_⟩
  simp only [h1]
  rw [find_none k _ _ 0 h2 hn]
  show K undef _
  refine hk _ ⟨_, _, by rw [Array.getElem?_setIfInBounds, if_pos rfl, if_pos hb], ?_, ?_, ?_⟩ (Fr.set h b _) (by simp)
  · simp [h2]
  · rw [List.map_append, List.map_cons, List.map_nil]
    have := lookup_none_iff.1 hn
    rw [List.nodup_append]
    refine ⟨h3, by simp, fun a ha c hc e => ?_⟩
    rw [List.mem_singleton] at hc
    have hc' : c = k := hc
    exact this (by rw [← hc', ← e]; exact ha)
  · intro e he
    rcases Array.mem_push.1 he with q | q
    · have := h4 e q; omega
    · rw [q]; show c < c + 1; omega
/-- An iterator that has taken n steps. -/
def ItM (h : Heap) (r b : Nat) (m : List (Int × Value)) (n : Nat) : Prop :=
  ∃ es c seen, h[b]? = some (.map es c) ∧ es.toList.map (fun e => (e.key, e.val)) = m.map (fun p => (Value.int .i64 p.1, p.2)) ∧ (∀ e ∈ es, e.born < c) ∧ h[r]? = some (.mapIter (some b) c seen c) ∧ seen.toList.Nodup ∧ (∀ s ∈ seen.toList, s ∈ es.toList.map (·.born)) ∧ seen.size = n
theorem RngM_c (hm : MapC h b m) (hk : ∀ h', ItM h' h.size b m 0 → Fr [] h h' → h'.size = h.size + 1 → K (.pointer (some ⟨h.size, 0, none⟩)) h') : RngM (.map (some b)) K h := by
  have hl := hm.at.lt
  obtain ⟨es, c, h1, h2, h3, h4⟩ := hm
  refine ⟨?_⟩
  simp only [h1]
  refine hk _ ⟨es, c, #[], by rw [Array.getElem?_push_lt hl]; rw [← h1, Array.getElem?_eq_getElem hl], h2, h4, by simp, by simp, by simp, rfl⟩ (Fr.push h _) (by simp)
theorem nodup_le : ∀ (s t : List Nat), s.Nodup → (∀ x ∈ s, x ∈ t) → s.length ≤ t.length := by
  intro s
  induction s with
  | nil => intro t _ _; simp
  | cons y s ih =>
    intro t hs h
    rw [List.nodup_cons] at hs
    have := ih (t.erase y) hs.2 fun x hx => (List.mem_erase_of_ne (fun e => hs.1 (by rw [← e]; exact hx))).2 (h x (by simp [hx]))
    have hy := h y (by simp)
    rw [List.length_erase_of_mem hy] at this
    have := List.length_pos_of_mem hy
    simp only [List.length_cons]; omega
theorem ItM.fr (it : ItM h r b m n) (f : Fr S h h') (hb : b ∉ S) (hr : r ∉ S) : ItM h' r b m n := by
  obtain ⟨es, c, seen, h1, h2, h3, h4, h5⟩ := it
  have get : ∀ {i : Nat} {o : Obj}, h[i]? = some o → i < h.size := fun {i o} e => by
    rcases Nat.lt_or_ge i h.size with hl | hl
    · exact hl
    · rw [Array.getElem?_eq_none hl] at e; cases e
  exact ⟨es, c, seen, by rw [f.keep b (get h1) hb]; exact h1, h2, h3, by rw [f.keep r (get h4) hr]; exact h4, h5⟩
theorem NxtM_it (it : ItM h r b m n) (hmore : ∀ h' x y, ItM h' r b m (n + 1) → n < m.length → Fr [r] h h' → h'.size = h.size → K (.tuple #[.bool true, x, y]) h') (hend : K (.tuple #[.bool false]) h) : NxtM (.pointer (some ⟨r, 0, none⟩)) K h := by
  obtain ⟨es, c, seen, h1, h2, h3, h4, h5, h6, h7⟩ := it
  have hr : r < h.size := by
    rcases Nat.lt_or_ge r h.size with hl | hl
    · exact hl
    · rw [Array.getElem?_eq_none hl] at h4; cases h4
  have hne : b ≠ r := fun e => by subst e; rw [h1] at h4; cases h4
  refine ⟨?_⟩
  simp only [h4, h1]
  refine ⟨fun e he => ⟨h3 e he, h3 e he⟩, fun _ => hend, fun e he hs => ?_⟩
  have hns : e.born ∉ seen.toList := fun hm => by
    have : seen.contains e.born = true := by rw [Array.contains_iff_mem]; exact Array.mem_toList_iff.1 hm
    rw [this] at hs; cases hs
  have hnd : (seen.push e.born).toList.Nodup := by
    rw [Array.toList_push, List.nodup_append]
    refine ⟨h5, by simp, fun a ha c hc e' => ?_⟩
    rw [List.mem_singleton] at hc
    rw [e', hc] at ha; exact hns ha
  have hsub : ∀ s ∈ (seen.push e.born).toList, s ∈ es.toList.map (·.born) := fun s hs' => by
    rw [Array.toList_push, List.mem_append, List.mem_singleton] at hs'
    rcases hs' with q | q
    · exact h6 s q
    · rw [q]; exact List.mem_map.2 ⟨e, Array.mem_toList_iff.2 he, rfl⟩
  have hle := nodup_le _ _ hnd hsub
  have hlen := congrArg List.length h2
  rw [List.length_map, List.length_map] at hlen
  rw [List.length_map, hlen, Array.length_toList, Array.size_push] at hle
  refine hmore _ _ _ ⟨es, c, seen.push e.born, ?_, h2, h3, ?_, hnd, hsub, by rw [Array.size_push, h7]⟩ (by omega) (Fr.set h r _) (by simp)
  · rw [Array.getElem?_setIfInBounds, if_neg (fun e => hne e.symm)]; exact h1
  · rw [Array.getElem?_setIfInBounds, if_pos rfl, if_pos hr]
theorem EntM_it (it : ItM h r b m (n + 1)) (hk : ∀ p ∈ m, K (.tuple #[.int .i64 p.1, p.2]) h) : EntM (.pointer (some ⟨r, 0, none⟩)) K h := by
  obtain ⟨es, c, seen, h1, h2, h3, h4, h5, h6, h7⟩ := it
  refine ⟨?_⟩
  simp only [h4, h1]
  refine ⟨trivial, ?_⟩
  obtain ⟨s, hs⟩ : ∃ s, seen.back? = some s := by
    rw [Array.back?_eq_getElem?]
    exact ⟨seen[seen.size - 1]'(by omega), Array.getElem?_eq_getElem _⟩
  rw [hs]
  have hm : s ∈ seen.toList := Array.mem_toList_iff.2 (Array.mem_of_back? hs)
  obtain ⟨e, he, eb⟩ := List.mem_map.1 (h6 s hm)
  cases hf : es.find? (fun e => e.born == s) with
  | none =>
    rw [Array.find?_eq_none] at hf
    exact absurd (by simpa using eb) (hf e (Array.mem_toList_iff.1 he))
  | some e' =>
    have he' : e' ∈ es.toList := Array.mem_toList_iff.2 (Array.mem_of_find?_eq_some hf)
    have : (e'.key, e'.val) ∈ m.map (fun p => (Value.int .i64 p.1, p.2)) := by rw [← h2]; exact List.mem_map.2 ⟨e', he', rfl⟩
    obtain ⟨p, hp, e2⟩ := List.mem_map.1 this
    have := hk p hp
    simp only [Prod.mk.injEq] at e2
    simp only [hf]
    show K (.tuple #[e'.key, e'.val]) h
    rw [← e2.1, ← e2.2]; exact this
end
/-- Keys with values. -/
def kv (L : List Nat) (f : Nat → Int) : List (Int × Value) := L.map fun q : Nat => ((q : Int), Value.int .i64 (f q))
theorem kv_look (L : List Nat) (f : Nat → Int) (k : Nat) : (kv L f).lookup (k : Int) = if k ∈ L then some (.int .i64 (f k)) else none := by
  unfold kv
  induction L with
  | nil => simp
  | cons q L ih =>
    rw [List.map_cons, List.lookup_cons, ih]
    by_cases e : k = q
    · subst e; simp
    · have : ((k : Int) == (q : Int)) = false := by rw [beq_eq_false_iff_ne]; omega
      simp [this, e]
theorem kv_snoc (L : List Nat) (f : Nat → Int) (k : Nat) : kv (L ++ [k]) f = kv L f ++ [((k : Int), .int .i64 (f k))] := by simp [kv]
theorem kv_old {L : List Nat} {f : Nat → Int} {k : Nat} {u w : Int} (hk : k ∉ L) : ((kv L f ++ [((k : Int), Value.int .i64 u)]).map fun p => if p.1 = (k : Int) then ((k : Int), Value.int .i64 w) else p) = kv L f ++ [((k : Int), .int .i64 w)] := by
  rw [List.map_append]
  congr 1
  · unfold kv
    rw [List.map_map]
    refine List.map_congr_left fun q hq => ?_
    simp only [Function.comp]
    rw [if_neg]
    intro e
    have : q = k := by omega
    subst this; exact hk hq
  · simp
end Go.Proofs.Ytcofinjoehaefaa
