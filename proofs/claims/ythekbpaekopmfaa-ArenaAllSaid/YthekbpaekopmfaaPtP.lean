/- Arguments of a law as they lie in memory, and the step from a function to its row. No condition. -/
import Derived.Test.YthekbpaekopmfaaPtO
import Derived.WalkKit
import Derived.ProofKit
import Derived.OpenShut
import Derived.ChangeOld
import Derived.Below
import Derived.SizedLaws
import Derived.Carry
namespace Go.Pt
open Go.ChangeShapes Go.WideShapes Go.ChangeAt Go.RowKit
set_option linter.unusedVariables false
set_option linter.unusedSimpArgs false

/-! ### What was handed in, as plain data -/
structure Rk (α : Type) where
  is : Heap → α → List Value → Prop
def rInt (k : IntKind) : Rk Int := ⟨fun _ n cs => cs = [.int k n] ∧ k.min ≤ n ∧ n ≤ k.max⟩
def rBool : Rk Bool := ⟨fun _ b cs => cs = [.bool b]⟩
def rSlice {α : Type} (E : Rk α) (sz : Nat) : Rk (List α) :=
  ⟨fun h xs cs => ∃ a cap, cs = [.slice a xs.length cap] ∧ xs.length ≤ cap ∧ cap ≤ maxLen ∧
    (∀ i x, xs[i]? = some x → ∃ ad ecs, a = some ad ∧ E.is h x ecs ∧ ecs.length = sz ∧ ∀ j u, ecs[j]? = some u → cell h ((ad.add (i * sz)).add j) = some u) ∧ xs.length ≤ 140737488351232⟩
def rArr {α : Type} (n : Nat) (E : Rk α) (sz : Nat) : Rk (List α) := ⟨fun h xs cs => xs.length = n ∧ cs.length = n * sz ∧ ∀ i x, xs[i]? = some x → E.is h x ((cs.drop (i * sz)).take sz)⟩
def rField {α : Type} (off sz : Nat) (E : Rk α) : Rk α := ⟨fun h x cs => E.is h x ((cs.drop off).take sz)⟩
def rAnd {α β : Type} (A : Rk α) (B : Rk β) : Rk (α × β) := ⟨fun h x cs => A.is h x.1 cs ∧ B.is h x.2 cs⟩
def rLen {α : Type} (n : Nat) (A : Rk α) : Rk α := ⟨fun h x cs => cs.length = n ∧ A.is h x cs⟩
def Opens {α : Type} (P : Program) (t : TypeId) (E : Rk α) : Prop :=
  ∀ (H : Type) (enc : TypeId × Value → H) (w : World) (base : Nat) (spare : Nat → Bool) (held : Bool) (fuel : Nat) (cs : List Value) (x : DataW H × List MemPlace),
    DataW.trod enc P w base spare held fuel t cs = some x → (∀ n ∈ x.1.weights P t, n ≤ reachBytes) → ∃ a, E.is w.heap a cs
theorem weightsAll_mem {H : Type} {P : Program} {e : TypeId} {d : DataW H} : ∀ {l : List (DataW H)}, d ∈ l → ∀ n ∈ d.weights P e, n ∈ DataW.weightsAll P e l
  | x :: l, hd, n, hn => by
    simp only [DataW.weightsAll, List.mem_append]
    rcases List.mem_cons.1 hd with rfl | hd
    · exact .inl hn
    · exact .inr (weightsAll_mem hd n hn)
theorem choose_list {α : Type} (n : Nat) (p : Nat → α → Prop) (h : ∀ i, i < n → ∃ a, p i a) : ∃ xs : List α, xs.length = n ∧ ∀ i x, xs[i]? = some x → p i x := by
  induction n with
  | zero => exact ⟨[], rfl, fun i x hx => by simp at hx⟩
  | succ n ih =>
    obtain ⟨xs, h1, h2⟩ := ih fun i hi => h i (by omega)
    obtain ⟨a, ha⟩ := h n (by omega)
    refine ⟨xs ++ [a], by simp [h1], fun i x hx => ?_⟩
    rcases Nat.lt_trichotomy i xs.length with hl | he | hg
    · rw [List.getElem?_append_left hl] at hx; exact h2 i x hx
    · subst he
      rw [List.getElem?_append_right (Nat.le_refl _), Nat.sub_self] at hx
      simp at hx
      rw [h1, ← hx]; exact ha
    · rw [List.getElem?_eq_none (by simp; omega)] at hx; cases hx
section
variable {P : Program}
theorem opens_int {t : TypeId} {k : IntKind} (hu : P.underlying t = some (.int k)) : Opens P t (rInt k) := by
  intro H enc w base spare held fuel cs x hx _
  obtain ⟨n, h1, h2, h3⟩ := DataW.trod_int hu hx
  refine ⟨n, h1, ?_⟩
  simpa [Lit.wf] using h3
theorem opens_bool {t : TypeId} (hu : P.underlying t = some .bool) : Opens P t rBool := by
  intro H enc w base spare held fuel cs x hx _
  obtain ⟨n, h1, h2⟩ := DataW.trod_bool hu hx
  exact ⟨n, h1⟩
theorem cells_spec {w : World} {base : Nat} {a : Addr} {n : Nat} {ecs : List Value} (h : w.cells? base a n = some ecs) : ecs.length = n ∧ ∀ j u, ecs[j]? = some u → cell w.heap (a.add j) = some u := by
  unfold World.cells? at h
  by_cases hb : base ≤ a.block
  · rw [if_pos hb] at h
    have hlen : ∀ (l : List Nat) (r : List Value), (l.mapM fun i => w.cell? (a.add i)) = some r → r.length = l.length ∧ ∀ (j : Nat) (u : Value), r[j]? = some u → ∃ i : Nat, l[j]? = some i ∧ w.cell? (a.add i) = some u := by
      intro l
      induction l with
      | nil => intro r hr; simp at hr; subst hr; exact ⟨rfl, fun j u hu => by simp at hu⟩
      | cons i l ih =>
        intro r hr
        rw [List.mapM_cons] at hr
        cases hc : w.cell? (a.add i) with
        | none => rw [hc] at hr; cases hr
        | some v =>
          cases hm : (l.mapM fun i => w.cell? (a.add i)) with
          | none => rw [hc, hm] at hr; cases hr
          | some r' =>
            rw [hc, hm] at hr
            cases hr
            obtain ⟨h1, h2⟩ := ih r' hm
            refine ⟨by simp [h1], fun j u hu => ?_⟩
            cases j with
            | zero => simp at hu; subst hu; exact ⟨i, rfl, hc⟩
            | succ j => obtain ⟨i', e1, e2⟩ := h2 j u (by simpa using hu); exact ⟨i', by simpa using e1, e2⟩
    obtain ⟨h1, h2⟩ := hlen _ _ h
    refine ⟨by simpa using h1, fun j u hu => ?_⟩
    obtain ⟨i, e1, e2⟩ := h2 j u hu
    have hj : j < n := by
      rcases Nat.lt_or_ge j n with hl | hl
      · exact hl
      · rw [List.getElem?_eq_none (by simp; omega)] at e1; cases e1
    rw [List.getElem?_range hj] at e1
    cases e1
    exact e2
  · rw [if_neg hb] at h; cases h
theorem opens_slice {α : Type} {E : Rk α} {t e : TypeId} {sz : Nat} (hu : P.underlying t = some (.slice e)) (hc : P.cellsOf e = sz) (hE : Opens P e E) (hby : 1 ≤ P.bytesOf e) : Opens P t (rSlice E sz) := by
  intro H enc w base spare held fuel cs x hx hz
  rcases DataW.trod_slice hu hx with ⟨rfl, _⟩ | ⟨a, len, cap, elems, rest, n, _, rfl, hxe, hb, hl, hm, hlen, hel, _, _⟩
  · exact ⟨[], none, 0, rfl, Nat.le_refl _, Nat.zero_le _, fun i x hx => by simp at hx, Nat.zero_le _⟩
  · rw [hc] at hel
    obtain ⟨xs, h1, h2⟩ := choose_list len (fun i x => ∃ ecs, E.is w.heap x ecs ∧ ecs.length = sz ∧ ∀ j u, ecs[j]? = some u → cell w.heap ((a.add (i * sz)).add j) = some u) (by
      intro i hi
      have h1 := hel i hi
      cases hcs : w.cells? base (a.add (i * sz)) sz with
      | none =>
        rw [hcs] at h1
        simp at h1
        omega
      | some ecs =>
        rw [hcs] at h1
        simp only [Option.bind_some] at h1
        cases ht : DataW.trod enc P w base spare held n e ecs with
        | none => rw [ht] at h1; have := h1.symm; simp at this; omega
        | some y =>
          have hzz : ∀ m ∈ y.1.weights P e, m ≤ reachBytes := fun m hm => hz m (by
            rw [hxe]
            simp only [DataW.weights, hu, List.mem_cons, List.mem_append]
            right; left
            refine weightsAll_mem ?_ m hm
            rw [ht] at h1
            exact List.mem_map.2 ⟨y, List.mem_of_getElem? h1.symm, rfl⟩)
          obtain ⟨b, hb⟩ := hE H enc w base spare held n ecs y ht hzz
          obtain ⟨h3, h4⟩ := cells_spec hcs
          exact ⟨b, ecs, hb, h3, h4⟩)
    refine ⟨xs, some a, cap, by rw [h1], by omega, hm, fun i x hx => ?_, ?_⟩
    · obtain ⟨ecs, e1, e2, e3⟩ := h2 i x hx
      exact ⟨a, ecs, rfl, e1, e2, e3⟩
    · have := hz ((elems.length + rest.length) * P.bytesOf e) (by rw [hxe]; simp [DataW.weights, hu])
      have h8 : elems.length * 1 ≤ (elems.length + rest.length) * P.bytesOf e := Nat.mul_le_mul (Nat.le_add_right _ _) hby
      have : reachBytes = 140737488351232 := rfl
      omega
theorem opens_arr {α : Type} {E : Rk α} {t e : TypeId} {n sz : Nat} (hu : P.underlying t = some (.array n e)) (hc : P.cellsOf e = sz) (hct : P.cellsOf t = n * sz) (hE : Opens P e E) : Opens P t (rArr n E sz) := by
  intro H enc w base spare held fuel cs x hx hz
  obtain ⟨xs, m, _, hxe, h3, h4, h5⟩ := DataW.trod_array hu hx
  obtain ⟨ys, h6, h7⟩ := choose_list n (fun i y => E.is w.heap y ((cs.drop (i * sz)).take sz)) (by
    intro i hi
    have h1 := h5 i hi
    rw [hc] at h1
    have hsome : ∃ y, xs[i]? = some y := ⟨xs[i], by simp [h4, hi]⟩
    obtain ⟨y, hy⟩ := hsome
    rw [hy] at h1
    refine hE H enc w base spare held m _ y h1 fun k hk => hz k ?_
    rw [hxe]
    simp only [DataW.weights, hu]
    exact weightsAll_mem (List.mem_map.2 ⟨y, List.mem_of_getElem? hy, rfl⟩) k hk)
  exact ⟨ys, h6, by rw [h3, hct], h7⟩
/-- A struct's fields, one by one. -/
theorem opens_struct {α : Type} {A : Rk α} {t : TypeId} {fs : Array Field} {n : Nat} (hu : P.underlying t = some (.struct fs)) (hc : P.cellsOf t = n)
    (hA : ∀ (h : Heap) (cs : List Value), cs.length = n → (∀ (i : Nat) (f : Field), fs[i]? = some f → ∀ (β : Type) (B : Rk β), Opens P f.type B → ∃ b, B.is h b ((cs.drop f.offset).take (P.cellsOf f.type))) → ∃ a, A.is h a cs) : Opens P t (rLen n A) := by
  intro H enc w base spare held fuel cs x hx hz
  obtain ⟨xs, m, _, hxe, h3, h4, h5⟩ := DataW.trod_struct hu hx
  obtain ⟨a, ha⟩ := hA w.heap cs (by rw [h3, hc]) (by
    intro i f hf β B hB
    have h1 := h5 i f hf
    have hi : i < xs.length := by
      rw [h4]
      rcases Nat.lt_or_ge i fs.size with hl | hl
      · exact hl
      · rw [Array.getElem?_eq_none hl] at hf; cases hf
    have hy : xs[i]? = some xs[i] := by simp [hi]
    rw [hy] at h1
    refine hB H enc w base spare held m _ _ h1 fun k hk => hz k ?_
    rw [hxe]
    simp only [DataW.weights, hu]
    refine DataW.weights_mem_each (j := i) (t := f.type) (d := xs[i].1) ?_ ?_ k hk
    · rw [List.getElem?_map, Array.getElem?_toList, hf]; rfl
    · rw [List.getElem?_map, hy]; rfl)
  exact ⟨a, by rw [h3, hc], ha⟩
/-- A value of one cell. -/
theorem open1 {α : Type} {E : Rk α} {H : Type} {enc : TypeId × Value → H} {t : TypeId} {W : World} {base : Nat} {spare : Nat → Bool} {held : Bool} {v : Value} {d : DataW H} {p : List MemPlace} (hE : Opens P t E) (hv : isCell v = true)
    (h : DataW.Trod enc P W base spare held t v d p) (hz : ∀ n ∈ d.weights P t, n ≤ reachBytes) : ∃ a, E.is W.heap a [v] := by
  obtain ⟨fuel, hf⟩ := h
  obtain ⟨a, ha⟩ := hE H enc W base spare held fuel _ _ hf hz
  rw [cells_one hv] at ha
  exact ⟨a, ha⟩
theorem openA {α : Type} {E : Rk α} {H : Type} {enc : TypeId × Value → H} {t : TypeId} {W : World} {base : Nat} {spare : Nat → Bool} {held : Bool} {cs : Array Value} {d : DataW H} {p : List MemPlace} (hE : Opens P t E)
    (h : DataW.Trod enc P W base spare held t (.agg cs) d p) (hz : ∀ n ∈ d.weights P t, n ≤ reachBytes) : ∃ a, E.is W.heap a cs.toList := by
  obtain ⟨fuel, hf⟩ := h
  exact hE H enc W base spare held fuel _ _ hf hz
end
/-- A slice of whole numbers, read. -/
theorem rd_ints {h : Heap} {k : IntKind} {xs : List Int} {v : Value} (hr : (rSlice (rInt k) 1).is h xs [v]) : Rd h v (xs.map (.int k)) ∧ ∀ x ∈ xs, k.min ≤ x ∧ x ≤ k.max := by
  obtain ⟨a, cap, e, hl, hm, hx, hR⟩ := hr
  have ev : v = .slice a xs.length cap := by simpa using e
  subst ev
  refine ⟨⟨a, cap, by simp, by simpa using hl, fun i x hxi => ?_⟩, fun x hxm => ?_⟩
  · rw [List.getElem?_map] at hxi
    cases hg : xs[i]? with
    | none => rw [hg] at hxi; cases hxi
    | some y =>
      rw [hg] at hxi
      simp at hxi
      subst hxi
      obtain ⟨ad, ecs, rfl, ⟨rfl, _⟩, _, h4⟩ := hx i y hg
      have := h4 0 _ rfl
      rw [Nat.mul_one] at this
      exact ⟨ad, rfl, by simpa [Addr.add] using this⟩
  · obtain ⟨i, hi⟩ := List.getElem?_of_mem hxm
    obtain ⟨ad, ecs, _, ⟨_, h1, h2⟩, _⟩ := hx i x hi
    exact ⟨h1, h2⟩
theorem rd_bools {h : Heap} {xs : List Bool} {v : Value} (hr : (rSlice rBool 1).is h xs [v]) : Rd h v (xs.map .bool) := by
  obtain ⟨a, cap, e, hl, hm, hx, hR⟩ := hr
  have ev : v = .slice a xs.length cap := by simpa using e
  subst ev
  refine ⟨a, cap, by simp, by simpa using hl, fun i x hxi => ?_⟩
  rw [List.getElem?_map] at hxi
  cases hg : xs[i]? with
  | none => rw [hg] at hxi; cases hxi
  | some y =>
    rw [hg] at hxi
    simp at hxi
    subst hxi
    obtain ⟨ad, ecs, rfl, rfl, _, h4⟩ := hx i y hg
    have := h4 0 _ rfl
    rw [Nat.mul_one] at this
    exact ⟨ad, rfl, by simpa [Addr.add] using this⟩
/-- A law's end: it told 'true', and nothing that was there has changed. -/
theorem law_calls {P : Program} {f : FuncId} {args : Array Value} {W : World} (hc : CallH P f args (fun v h' => v = .bool true ∧ Fr [] W.heap h') W.heap) :
    Calls P f args W (fun e W' => e = .returned (.bool true) ∧ Below W.heap.size W W') := by
  refine (hc W rfl).mono ?_
  rintro e W' ⟨v, rfl, hs, rfl, hf⟩
  exact ⟨rfl, ⟨hs.os, hs.tape, hs.output, hf.size, fun k hk => hf.keep k hk (by simp)⟩⟩
theorem okWide_array {P : Program} {w : World} {t e : TypeId} {n base : Nat} {r : Reach} {v : Value} (ht : P.underlying t = some (.array n e)) (h : Value.okWide P w r base t v) : ∃ cs, v = .agg cs ∧ cs.size = P.cellsOf t := by
  simp only [Value.okWide, ht] at h
  obtain ⟨cs, h1, h2, _⟩ := h
  exact ⟨cs, h1, h2⟩
end Go.Pt
