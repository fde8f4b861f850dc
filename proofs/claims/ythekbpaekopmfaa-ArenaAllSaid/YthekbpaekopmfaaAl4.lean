/- The arena beside its model: one clause more. Conditions: those typed ahead of each theorem. -/
import Derived.Test.YthekbpaekopmfaaAl3
namespace Go.Proofs.Ythekbpaekopmfaa
open Go.Pt
set_option linter.unusedVariables false
set_option linter.unusedSimpArgs false
def Outs (O F ab : List Nat) (ps : List (Nat × Nat)) : Prop := ∀ b ∈ O, b ∉ F ∧ b ∉ ab ∧ ∀ p ∈ ps, b ≠ p.1 ∧ b ≠ p.2
theorem Outs.not {O F ab S : List Nat} {ps : List (Nat × Nat)} (o : Outs O F ab ps) (hS : ∀ b ∈ S, b ∈ F ∨ ∃ p ∈ ps, b = p.1 ∨ b = p.2) : ∀ b ∈ O, b ∉ S := fun b hb hm => by
  obtain ⟨o1, o2, o3⟩ := o b hb
  rcases hS b hm with q | ⟨p, hp, q | q⟩
  · exact o1 q
  · exact (o3 p hp).1 q
  · exact (o3 p hp).2 q
structure BK (h : Heap) (t4 t5 t6 t7 t8 g : Nat) (lv dr : Int) (av : Value) : Prop where
  b4 : Blk h t4 [.int .u8 lv]
  b5 : Blk h t5 [.int .u8 dr]
  b6 : Blk h t6 [.bool false]
  b7 : Blk h t7 [ptr g]
  b8 : Blk h t8 [av]
theorem BK.fr {h h' : Heap} {t4 t5 t6 t7 t8 g : Nat} {lv dr : Int} {av : Value} {S : List Nat} (b : BK h t4 t5 t6 t7 t8 g lv dr av) (f : Fr S h h') (hS : ∀ b ∈ [t4, t5, t6, t7, t8], b ∉ S) : BK h' t4 t5 t6 t7 t8 g lv dr av :=
  ⟨b.b4.fr f (hS _ (by simp)), b.b5.fr f (hS _ (by simp)), b.b6.fr f (hS _ (by simp)), b.b7.fr f (hS _ (by simp)), b.b8.fr f (hS _ (by simp))⟩
theorem BK.one {h h' : Heap} {t4 t5 t6 t7 t8 g l : Nat} {lv dr : Int} {av : Value} (b : BK h t4 t5 t6 t7 t8 g lv dr av) (o : One l h h') : BK h' t4 t5 t6 t7 t8 g lv dr av :=
  ⟨b.b4.one o, b.b5.one o, b.b6.one o, b.b7.one o, b.b8.one o⟩
theorem AS.one {N g l : Nat} {h h' : Heap} {cs : List Cl} {ps : List (Nat × Nat)} {av : Value} {F ab : List Nat} (a : AS N g h cs ps av F ab) (o : One l h h') : AS N g h' cs ps av F ab :=
  ⟨a.ar.one o, a.len, fun k c p hc hp => by
    obtain ⟨⟨u, w, q, b1⟩, xs, h1, o1⟩ := a.md k c p hc hp
    exact ⟨⟨u, w, q, b1.one o⟩, xs, h1, o1.one o⟩, a.nz, a.ow.one o, a.dj, a.loF, a.loA, a.loP, a.sF, a.sA⟩
theorem own_blk {h : Heap} {l n : Nat} {xs : List Value} (o : Own h (.slice (some ⟨l, 0, none⟩) n n) xs [l]) : Blk h l xs := by
  rcases o with ⟨e, _, _⟩ | ⟨b, rest, e, hb, e3⟩
  · cases e
  · simp only [Value.slice.injEq, Option.some.injEq, Addr.mk.injEq] at e
    obtain ⟨⟨rfl, _, _⟩, e1, e2⟩ := e
    have : rest = [] := List.length_eq_zero_iff.1 (by omega)
    subst this
    simpa using hb
def lits1 (n : Nat) : List Int := (List.range n).map fun k : Nat => 1 + (k : Int)
theorem lits1_len (n : Nat) : (lits1 n).length = n := by simp [lits1]
/-- One clause more, in both. -/
theorem AS.snoc {N g : Nat} {h h' : Heap} {cs : List Cl} {ps : List (Nat × Nat)} {av av' : Value} {F F' ab ab' : List Nat} {c : Cl} {b l : Nat} (a : AS N g h cs ps av F ab) (hN : N ≤ h.size)
    (ar : ArR h' g 0 (cs ++ [c]) F') (hF : ∀ x ∈ F', x ∈ F ∨ h.size ≤ x) (ow : Own h' av' ((ps ++ [(b, l)]).map fun p => ptr p.1) ab') (hA : ∀ x ∈ ab', x ∈ ab ∨ h.size ≤ x)
    (hb : h.size ≤ b) (hl : h.size ≤ l) (hbl : b ≠ l) (hz : ∀ x ∈ c.lits, x ≠ 0) (m : MB h' ((wds cs).length : Nat) c.lits.length c.gone b l)
    (keep : ∀ (r : Int) (n : Nat) (gn : Bool) (p : Nat × Nat), p ∈ ps → MB h r n gn p.1 p.2 → MB h' r n gn p.1 p.2)
    (hn : (b ∉ F' ∧ l ∉ F') ∧ b ∉ ab' ∧ l ∉ ab') (hFA : ∀ x ∈ F', x ∉ ab') : AS N g h' (cs ++ [c]) (ps ++ [(b, l)]) av' F' ab' := by
  have lt := fun p (hp : p ∈ ps) => a.ltP hp
  refine ⟨ar, by simp [a.len], fun k d p hd hp => ?_, fun d hd => ?_, ow, fun j k p q hp hq => ?_, fun x hx => ?_, fun x hx => ?_, fun p hp => ?_, fun p hp => ?_, hFA⟩
  · by_cases hk : k < cs.length
    · rw [List.getElem?_append_left hk] at hd
      rw [List.getElem?_append_left (by rw [a.len]; exact hk)] at hp
      have hpm := List.mem_of_getElem? hp
      have s := a.sF p hpm
      rw [off_append (by omega)]
      exact keep _ _ _ p hpm (a.md k d p hd hp)
    · have hkl := (List.getElem?_eq_some_iff.1 hd).1
      simp only [List.length_append, List.length_singleton] at hkl
      have ek : k = cs.length := by omega
      subst ek
      rw [List.getElem?_append_right (Nat.le_refl _), Nat.sub_self] at hd
      rw [List.getElem?_append_right (by rw [a.len]; exact Nat.le_refl _), a.len, Nat.sub_self] at hp
      cases hd; cases hp
      rw [off_append (Nat.le_refl _), ← wds_len]
      exact m
  · rcases List.mem_append.1 hd with q | q
    · exact a.nz d q
    · rw [List.mem_singleton] at q; subst q; exact hz
  · have get : ∀ (j : Nat) (p : Nat × Nat), (ps ++ [(b, l)])[j]? = some p → (j < ps.length ∧ ps[j]? = some p ∧ p.1 < h.size ∧ p.2 < h.size) ∨ (j = ps.length ∧ p = (b, l)) := fun j p hp => by
      by_cases hj : j < ps.length
      · rw [List.getElem?_append_left hj] at hp
        have := lt p (List.mem_of_getElem? hp)
        exact .inl ⟨hj, hp, this⟩
      · have hjl := (List.getElem?_eq_some_iff.1 hp).1
        simp only [List.length_append, List.length_singleton] at hjl
        have ej : j = ps.length := by omega
        subst ej
        rw [List.getElem?_append_right (Nat.le_refl _), Nat.sub_self] at hp
        cases hp
        exact .inr ⟨rfl, rfl⟩
    rcases get j p hp with ⟨j1, j2, j3, j4⟩ | ⟨rfl, rfl⟩
    · rcases get k q hq with ⟨k1, k2, k3, k4⟩ | ⟨rfl, rfl⟩
      · exact a.dj j k p q j2 k2
      · exact ⟨fun e => by simp only at e; omega, fun e => by simp only at e; omega, fun e => by simp only at e; omega⟩
    · rcases get k q hq with ⟨k1, k2, k3, k4⟩ | ⟨rfl, rfl⟩
      · exact ⟨fun e => by simp only at e; omega, fun e => by simp only at e; omega, fun e => by simp only at e; omega⟩
      · exact ⟨fun _ => rfl, fun _ => rfl, hbl⟩
  · rcases hF x hx with q | q
    · exact a.loF x q
    · omega
  · rcases hA x hx with q | q
    · exact a.loA x q
    · omega
  · rcases List.mem_append.1 hp with q | q
    · exact a.loP p q
    · rw [List.mem_singleton] at q; subst q; exact ⟨by simp only; omega, by simp only; omega⟩
  · rcases List.mem_append.1 hp with q | q
    · have s := a.sF p q
      have := lt p q
      exact ⟨⟨fun hx => by rcases hF _ hx with r | r; exact s.1.1 r; omega, fun hx => by rcases hF _ hx with r | r; exact s.1.2 r; omega⟩, fun hx => by rcases hA _ hx with r | r; exact s.2.1 r; omega, fun hx => by rcases hA _ hx with r | r; exact s.2.2 r; omega⟩
    · rw [List.mem_singleton] at q; subst q; exact hn
end Go.Proofs.Ythekbpaekopmfaa
