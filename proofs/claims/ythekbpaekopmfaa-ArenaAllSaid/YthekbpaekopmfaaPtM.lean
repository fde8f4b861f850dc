/- Blocks of memory, and what of a heap is left as it was. No condition. -/
import Derived.Test.YthekbpaekopmfaaPtL
namespace Go.Pt
set_option linter.unusedVariables false
set_option linter.unusedSimpArgs false

/-! ### Blocks -/
/-- Block b holds these cells, all of them free to be written. -/
def Blk (h : Heap) (b : Nat) (cs : List Value) : Prop := ∃ T, h[b]? = some (.cells cs.toArray T (0, 0))
/-- But for the blocks of S, and new ones, all is as it was. -/
structure Fr (S : List Nat) (h h' : Heap) : Prop where
  size : h.size ≤ h'.size
  keep : ∀ c, c < h.size → c ∉ S → h'[c]? = h[c]?
def isCell : Value → Bool
  | .agg _ => false
  | .tuple _ => false
  | _ => true
section
variable {h h' h1 h2 : Heap} {b c o : Nat} {cs cs' : List Value} {v : Value} {S S' : List Nat}
theorem Fr.refl (S : List Nat) (h : Heap) : Fr S h h := ⟨Nat.le_refl _, fun _ _ _ => rfl⟩
theorem Fr.trans (f : Fr S h h1) (g : Fr S h1 h2) : Fr S h h2 := ⟨Nat.le_trans f.size g.size, fun c hc hS => (g.keep c (Nat.lt_of_lt_of_le hc f.size) hS).trans (f.keep c hc hS)⟩
theorem Fr.mono (f : Fr S h h1) (hs : ∀ x ∈ S, x ∈ S') : Fr S' h h1 := ⟨f.size, fun c hc hS => f.keep c hc fun hm => hS (hs c hm)⟩
/-- What is new since h may be written freely. -/
theorem Fr.new (f : Fr S h h1) (hs : ∀ x ∈ S, x ∈ S' ∨ h.size ≤ x) : Fr S' h h1 :=
  ⟨f.size, fun c hc hS => f.keep c hc fun hm => (hs c hm).elim hS fun hx => Nat.lt_irrefl _ (Nat.lt_of_lt_of_le hc hx)⟩
theorem Fr.trans' (f : Fr S h h1) (g : Fr S' h1 h2) (hs : ∀ x ∈ S', x ∈ S ∨ h.size ≤ x) : Fr S h h2 :=
  ⟨Nat.le_trans f.size g.size, fun c hc hS => (g.keep c (Nat.lt_of_lt_of_le hc f.size) fun hm => (hs c hm).elim hS fun hx => Nat.lt_irrefl _ (Nat.lt_of_lt_of_le hc hx)).trans (f.keep c hc hS)⟩
theorem Blk.lt (hb : Blk h b cs) : b < h.size := by
  obtain ⟨T, hb⟩ := hb
  rcases Nat.lt_or_ge b h.size with hx | hx
  · exact hx
  · rw [Array.getElem?_eq_none hx] at hb; cases hb
theorem Blk.ne (hb : Blk h b cs) : b ≠ h.size := Nat.ne_of_lt hb.lt
theorem Blk.cell (hb : Blk h b cs) (o : Nat) : Pt.cell h ⟨b, o, none⟩ = cs[o]? := by
  obtain ⟨T, hb⟩ := hb
  simp [Pt.cell, hb]
theorem Blk.frozen (hb : Blk h b cs) (o : Nat) : frozenAt h ⟨b, o, none⟩ = false := by
  obtain ⟨T, hb⟩ := hb
  simp [frozenAt, hb]
theorem Blk.unique (hb : Blk h b cs) (hb' : Blk h b cs') : cs = cs' := by
  obtain ⟨T, hb⟩ := hb
  obtain ⟨T', hb'⟩ := hb'
  rw [hb] at hb'
  injection hb' with e; injection e with e _ _
  simpa using congrArg Array.toList e
theorem Blk.fr (hb : Blk h b cs) (f : Fr S h h') (hS : b ∉ S) : Blk h' b cs := by
  have hlt := hb.lt
  obtain ⟨T, hb⟩ := hb
  exact ⟨T, (f.keep b hlt hS).trans hb⟩
theorem setCell_get (h : Heap) (a : Addr) (v : Value) (c : Nat) (hc : c ≠ a.block) : (setCell h a v)[c]? = h[c]? := by
  unfold setCell
  rw [Array.getElem?_modify]
  have : ¬ a.block = c := fun e => hc e.symm
  simp [this]
theorem setCell_size (h : Heap) (a : Addr) (v : Value) : (setCell h a v).size = h.size := by simp [setCell]
theorem Fr.setCell (h : Heap) (b o : Nat) (v : Value) : Fr [b] h (Pt.setCell h ⟨b, o, none⟩ v) :=
  ⟨by rw [setCell_size]; exact Nat.le_refl _, fun c hc hS => setCell_get h _ v c (by simpa using hS)⟩
theorem Blk.setCell (hb : Blk h b cs) (o : Nat) (v : Value) : Blk (Pt.setCell h ⟨b, o, none⟩ v) b (cs.set o v) := by
  obtain ⟨T, hb⟩ := hb
  refine ⟨T, ?_⟩
  unfold Pt.setCell
  rw [Array.getElem?_modify]
  simp [hb]
theorem storeOne_blk (hb : Blk h b cs) (ho : o < cs.length) (hv : isCell v = true) : storeOne h ⟨b, o, none⟩ v = some (Pt.setCell h ⟨b, o, none⟩ v) := by
  have hc : Pt.cell h ⟨b, o, none⟩ = some cs[o] := by rw [hb.cell]; simp [ho]
  cases v <;> first | (simp [storeOne, hc, hb.frozen]; done) | cases hv
theorem Blk.push (h : Heap) (cs : Array Value) (t : TypeId) : Blk (h.push (.cells cs t)) h.size cs.toList := ⟨t, by simp⟩
theorem Fr.push (h : Heap) (ob : Obj) : Fr [] h (h.push ob) := ⟨by simp, fun c hc _ => by rw [Array.getElem?_push_lt hc]; simp [hc]⟩
end

/-! ### A loop's record -/
section
variable {h h' h1 h2 : Heap} {b l N : Nat} {cs : List Value} {S : List Nat}
theorem One.fr (o : One l h h') : Fr [l] h h' := ⟨Nat.le_of_eq o.size.symm, fun c hc hS => o.keep c (by simpa using hS)⟩
theorem Fr.one (f : Fr S h h1) (o : One l h1 h2) (hl : h.size ≤ l) : Fr S h h2 := f.trans' o.fr fun x hx => .inr (by rw [List.mem_singleton] at hx; omega)
theorem One.lt (o : One l h h') : l < h.size := by obtain ⟨r, hr⟩ := o.loop; exact get_lt hr
theorem Blk.one (hb : Blk h b cs) (o : One l h h') : Blk h' b cs := hb.fr o.fr fun hm => by
  rw [List.mem_singleton] at hm; subst hm
  obtain ⟨T, hb⟩ := hb
  obtain ⟨r, hr⟩ := o.loop
  rw [hb] at hr; cases hr
theorem Fr.shut (f : Fr S h h1) (s : Shut h.size h1 h2) : Fr S h h2 := ⟨by rw [s.size]; exact f.size, fun c hc hS => (s.keep c (.inl hc)).trans (f.keep c hc hS)⟩
theorem Fr.shut' (f : Fr S h h1) (s : Shut N h1 h2) (hN : h.size ≤ N) : Fr S h h2 := ⟨by rw [s.size]; exact f.size, fun c hc hS => (s.keep c (.inl (Nat.lt_of_lt_of_le hc hN))).trans (f.keep c hc hS)⟩
theorem Blk.shut (hb : Blk h b cs) (s : Shut N h h') : Blk h' b cs := by
  obtain ⟨T, hb⟩ := hb
  exact ⟨T, (s.keep b (.inr fun x e => by rw [hb] at e; cases e)).trans hb⟩
end

/-! ### Steps by blocks -/
section
variable {K : Ret} {h : Heap} {b o : Nat} {cs : List Value} {v : Value}
theorem Ld_blk (hb : Blk h b cs) (ho : cs[o]? = some v) (hk : K v h) : Ld (.pointer (some ⟨b, o, none⟩)) K h := by
  rw [Ld_at, hb.cell, ho]; exact hk
theorem St_blk (hb : Blk h b cs) (ho : o < cs.length) (hv : isCell v = true) (hk : ∀ h', Blk h' b (cs.set o v) → Fr [b] h h' → K undef h') : St (.pointer (some ⟨b, o, none⟩)) v K h := by
  rw [St_at, storeOne_blk hb ho hv]; exact hk _ (hb.setCell o v) (Fr.setCell h b o v)
theorem New_blk {cs : Array Value} {t : TypeId} (hk : ∀ h', Blk h' h.size cs.toList → Fr [] h h' → h'.size = h.size + 1 → K (.pointer (some ⟨h.size, 0, none⟩)) h') : New cs t K h := by
  rw [New_eq]; exact hk _ (Blk.push h cs t) (Fr.push h _) (by simp)
theorem loads_blk (hb : Blk h b cs) : ∀ (n i : Nat) (acc : Array Value), o + i + n ≤ cs.length → loads h ⟨b, o, none⟩ i n acc = some (acc ++ ((cs.drop (o + i)).take n).toArray)
  | 0, i, acc, _ => by simp [loads]
  | n + 1, i, acc, hle => by
    have hlt : o + i < cs.length := by omega
    rw [loads, add_mk, hb.cell]
    simp only [List.getElem?_eq_getElem hlt]
    rw [loads_blk hb n (i + 1) _ (by omega)]
    congr 1
    rw [List.drop_eq_getElem_cons hlt, List.take_succ_cons]
    apply Array.ext'
    simp [Nat.add_assoc]
theorem stores_blk : ∀ (vs : List Value) (h : Heap) (cs : List Value) (i : Nat), Blk h b cs → o + i + vs.length ≤ cs.length → (∀ v ∈ vs, isCell v = true) →
    ∃ h', stores h ⟨b, o, none⟩ i vs = some h' ∧ Blk h' b (cs.take (o + i) ++ vs ++ cs.drop (o + i + vs.length)) ∧ Fr [b] h h'
  | [], h, cs, i, hb, _, _ => ⟨h, rfl, by simpa using hb, Fr.refl _ _⟩
  | v :: vs, h, cs, i, hb, hle, hv => by
    have hlt : o + i < cs.length := by simp at hle; omega
    obtain ⟨h', h1, h2, h3⟩ := stores_blk vs (Pt.setCell h ⟨b, o + i, none⟩ v) (cs.set (o + i) v) (i + 1) (hb.setCell _ _) (by simp at hle ⊢; omega) (fun u hu => hv u (List.mem_cons_of_mem _ hu))
    refine ⟨h', ?_, ?_, (Fr.setCell h b (o + i) v).trans h3⟩
    · rw [stores, add_mk, storeOne_blk hb hlt (hv v List.mem_cons_self)]; exact h1
    · have e : (cs.set (o + i) v).take (o + (i + 1)) ++ vs ++ (cs.set (o + i) v).drop (o + (i + 1) + vs.length) = cs.take (o + i) ++ (v :: vs) ++ cs.drop (o + i + (v :: vs).length) := by
        rw [List.drop_set_of_lt (by omega), show o + (i + 1) = o + i + 1 from by omega, List.take_succ_eq_append_getElem (by simpa using hlt), List.take_set_of_le (Nat.le_refl _)]
        simp [Nat.add_assoc, Nat.add_comm 1]
      rw [← e]; exact h2
end
end Go.Pt
