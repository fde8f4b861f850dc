/- Each primitive says what the operation of the translation does (third part). No condition. -/
import Derived.Test.YthekbpaekopmfaaPtD
namespace Go.Pt
set_option linter.unusedVariables false
set_option linter.unusedSimpArgs false
section
variable {P : Program}
theorem run_mk {t el : TypeId} {z : Value} {l c : Int} {j k : IntKind} (hu : P.underlying t = some (.slice el)) (hz : zeroOf P el = some z)
    (h0 : 0 ≤ l) (h1 : l ≤ c) (h2 : c ≤ 281474976710656) (h3 : (P.bytesOf el : Int) * c ≤ 281474976710656) (w : World) :
    (Instr.makeSlice t (.int j l) (.int k c)).run P w =
      .ok (.slice (some ⟨w.heap.size, 0, none⟩) l.toNat c.toNat) { w with heap := w.heap.push (.cells ((Array.range (c.toNat * P.cellsOf el)).map (z.cells[· % z.cells.size]!)) el) } := by
  obtain ⟨i, hi, hiz⟩ := zeroOf_spec hz
  have hb : P.bytesOf el = i.bytes := by simp [Program.bytesOf, hi]
  have hs : P.cellsOf el = i.size := by simp [Program.cellsOf, hi]
  rw [hb] at h3
  have wl : IntKind.i64.wrap l = l := by rw [IntKind.wrap_i64]; omega
  have wc : IntKind.i64.wrap c = c := by rw [IntKind.wrap_i64]; omega
  have hti : (typeInfo el).run P w = .ok i w := by simp [typeInfo, hi]
  have t1 : decide (c < 0) = false := by simp; omega
  have t2 : decide ((i.bytes : Int) * c > 2 ^ 48) = false := by simp; omega
  have t3 : decide (l < 0) = false := by simp; omega
  have t4 : decide (l > c) = false := by simp; omega
  have hroom : ∀ n, (askRoom n).run P w = .ok () w := fun n => by unfold askRoom; split <;> simp [mark, Sem.run]
  unfold Instr.makeSlice
  simp only [Sem.run_bind, run_underlying hu, Result.andThen_ok, asInt, asIntOf, Sem.run_pure, hti, wl, wc, t1, t2, t3, t4, Bool.or_false, Bool.false_eq_true, if_false, hroom, run_size hi, hs]
  by_cases hn : c.toNat * i.size = 0
  · have e0 : ∀ f : Nat → Value, (Array.range 0).map f = #[] := fun f => by simp
    simp only [hn, if_true, Sem.run_bind, Sem.run_pure, Result.andThen_ok, run_newRow, e0]
  · have hzr : (zeroValue el).run P w = .ok z w := run_zero hz w
    simp only [hn, if_false, Sem.run_bind, hzr, Result.andThen_ok, Sem.run_pure, run_newRow]
theorem run_len_s {ats : Array TypeId} {ty t el : TypeId} (h0 : ats[0]? = some t) (hu : P.underlying t = some (.slice el)) (a : Option Addr) (n c : Nat) (w : World) :
    (Builtin.len_ ats ty #[.slice a n c]).run P w = .ok (.int .i64 n) w := by
  simp [Builtin.len_, h0, run_underlying hu, goInt]
theorem run_len_str {ats : Array TypeId} {ty t : TypeId} (h0 : ats[0]? = some t) (hu : P.underlying t = some .string) (s : ByteArray) (w : World) :
    (Builtin.len_ ats ty #[.string s]).run P w = .ok (.int .i64 s.size) w := by
  simp [Builtin.len_, h0, run_underlying hu, goInt]
theorem run_len_m0 {ats : Array TypeId} {ty t k el : TypeId} (h0 : ats[0]? = some t) (hu : P.underlying t = some (.map k el)) (w : World) :
    (Builtin.len_ ats ty #[.map none]).run P w = .ok (.int .i64 0) w := by
  simp [Builtin.len_, h0, run_underlying hu, goInt]
theorem run_len_m {ats : Array TypeId} {ty t k el : TypeId} (h0 : ats[0]? = some t) (hu : P.underlying t = some (.map k el)) {r : Nat} {es : Array MapEntry} {c : Nat} {w : World} (hr : w.heap[r]? = some (.map es c)) :
    (Builtin.len_ ats ty #[.map (some r)]).run P w = .ok (.int .i64 es.size) w := by
  simp [Builtin.len_, h0, run_underlying hu, goInt, getObj, Sem.run, hr]
theorem run_max {ats : Array TypeId} {ty : TypeId} {k : IntKind} (w : World) : ∀ (r : List Value) (x v : Int), foldI (fun x y => if y > x then y else x) k x r = some v →
    ((r.foldlM Builtin.max2 (.int k x)) : Sem Value).run P w = .ok (.int k v) w
  | [], x, v, h => by simp [foldI] at h; subst h; simp
  | y :: r, x, v, h => by
    cases y <;> simp only [foldI, reduceCtorEq] at h
    rename_i k' n
    simp only [List.foldlM_cons, Builtin.max2, Sem.run_bind, Sem.run_pure, Result.andThen_ok]
    exact run_max (ats := ats) (ty := ty) w r _ v h
theorem run_min {ats : Array TypeId} {ty : TypeId} {k : IntKind} (w : World) : ∀ (r : List Value) (x v : Int), foldI (fun x y => if y < x then y else x) k x r = some v →
    ((r.foldlM Builtin.min2 (.int k x)) : Sem Value).run P w = .ok (.int k v) w
  | [], x, v, h => by simp [foldI] at h; subst h; simp
  | y :: r, x, v, h => by
    cases y <;> simp only [foldI, reduceCtorEq] at h
    rename_i k' n
    simp only [List.foldlM_cons, Builtin.min2, Sem.run_bind, Sem.run_pure, Result.andThen_ok]
    exact run_min (ats := ats) (ty := ty) w r _ v h
theorem run_first {size n : Nat} {x : Value} {cs : Array Value} {w : World} (h : firstOf size n w.heap x = some cs) : (Builtin.firstCells size n x).run P w = .ok cs w := by
  unfold firstOf at h
  split at h
  · exact loads_run w _ _ _ _ _ h
  · cases h; simp [Builtin.firstCells]
  · cases h
theorem storeOne_keeps {h h' : Heap} {a : Addr} {v : Value} (e : storeOne h a v = some h') : Keeps h h' := by
  unfold storeOne at e
  split at e
  · cases e
  · cases e
  · split at e
    · split at e
      · cases e
      · cases e; exact Keeps.setCell _ _ _
    · cases e
theorem stores_keeps : ∀ {vs : List Value} {h h' : Heap} {a : Addr} {i : Nat}, stores h a i vs = some h' → Keeps h h'
  | [], h, h', a, i, e => by simp only [stores, Option.some.injEq] at e; subst e; exact Keeps.refl _
  | v :: vs, h, h', a, i, e => by
    rw [stores] at e
    cases hs : storeOne h (a.add i) v with
    | none => rw [hs] at e; cases e
    | some h1 => rw [hs] at e; exact (storeOne_keeps hs).trans (stores_keeps e)
theorem run_app {ats : Array TypeId} {ty t t1 el el1 : TypeId} {z : Value} (h0 : ats[0]? = some t) (h1 : ats[1]? = some t1) (hu : P.underlying t = some (.slice el)) (hu1 : P.underlying t1 = some (.slice el1))
    (hz : zeroOf P el = some z) (hb : P.bytesOf el ≠ 0) {base xb : Option Addr} {sLen sCap n xc : Nat} {K : Ret} {h : Heap}
    (hA : App el (P.cellsOf el) (P.bytesOf el) z.cells (.slice base sLen sCap) (.slice xb n xc) K h) (w : World) (hw : w.heap = h) :
    ∃ v w', (Builtin.append_ ats ty #[.slice base sLen sCap, .slice xb n xc]).run P w = .ok v w' ∧ Same w w' ∧ K v w'.heap := by
  subst hw
  obtain ⟨i, hi, hiz⟩ := zeroOf_spec hz
  have hbi : P.bytesOf el = i.bytes := by simp [Program.bytesOf, hi]
  have hsi : P.cellsOf el = i.size := by simp [Program.cellsOf, hi]
  have hti : ∀ w, (typeInfo el).run P w = .ok i w := fun w => by simp [typeInfo, hi]
  have hroom : ∀ n w, (askRoom n).run P w = .ok () w := fun n w => by unfold askRoom; split <;> simp [mark, Sem.run]
  have hint : ∀ w, ((do pure ((← underlying t1) matches .int _) : Sem Bool)).run P w = .ok false w := fun w => by simp [run_underlying hu1]
  replace hA := hA.out
  simp only at hA
  cases hn : firstOf (P.cellsOf el) n w.heap (.slice xb n xc) with
  | none => rw [hn] at hA; exact hA.elim
  | some new =>
    rw [hn] at hA
    simp only at hA
    unfold Builtin.append_
    simp only [h0, h1, show (#[Value.slice base sLen sCap, Value.slice xb n xc] : Array Value)[0]? = some (.slice base sLen sCap) from rfl,
      show (#[Value.slice base sLen sCap, Value.slice xb n xc] : Array Value)[1]? = some (.slice xb n xc) from rfl, Sem.run_bind, run_underlying hu, run_underlying hu1, Result.andThen_ok, run_size hi, Sem.run_pure, Bool.false_eq_true, if_false, Builtin.lenOf]
    rw [hsi] at hn hA
    by_cases hle : sLen + n ≤ sCap
    · rw [if_pos hle] at hA
      simp only [hle, if_true, Sem.run_bind, Bool.not_false, run_first hn, Result.andThen_ok]
      cases base with
      | none =>
        simp only [Sem.run_pure, Result.andThen_ok]
        exact ⟨_, w, rfl, Same.refl w, hA⟩
      | some a =>
        simp only at hA
        cases hs : stores w.heap (a.add (sLen * i.size)) 0 new.toList with
        | none => rw [hs] at hA; exact hA.elim
        | some h' =>
          rw [hs] at hA
          simp only [Sem.run_bind, stores_run _ _ _ _ _ hs, Result.andThen_ok, Sem.run_pure]
          exact ⟨.slice (some a) (sLen + n) sCap, { w with heap := h' }, rfl, ⟨rfl, rfl, rfl, stores_keeps hs⟩, hA⟩
    · rw [if_neg hle] at hA
      cases ho : firstOf i.size sLen w.heap (.slice base sLen sCap) with
      | none => rw [ho] at hA; exact hA.elim
      | some old =>
        rw [ho] at hA
        obtain ⟨hmax, hcap, hK⟩ := hA
        have c1 : ¬ ((((sLen + n : Nat) : Int)) > IntKind.i64.max ∧ (False ∨ i.bytes = 0)) := by
          rintro ⟨hx, _⟩; omega
        have c2 : ¬ Builtin.nextslicecap (sLen + n) sCap * i.bytes > 2 ^ 48 := by rw [← hbi]; omega
        simp only [hle, if_false, Sem.run_bind, Result.andThen_ok, hti]
        simp only [c1, c2, if_false, Sem.run_bind, hti, Sem.run_pure, Result.andThen_ok, Bool.false_eq_true, Bool.not_false, if_true]
        have hch : ∃ (nc : Nat) (d : Nat), sLen + n ≤ nc ∧ (choose (.appendCap (sLen + n) sCap el)).run P w = .ok nc { w with drawn := d } := by
          refine ⟨_, _, ?_, by simp only [choose, Sem.run, Question.forced, Bool.false_eq_true, if_false]; rfl⟩
          simp [Question.cut]
        obtain ⟨nc, d, hnc, hch⟩ := hch
        rw [hch]
        have hof : firstOf i.size sLen ({ w with drawn := d } : World).heap (.slice base sLen sCap) = some old := ho
        have hnf : firstOf i.size n ({ w with drawn := d } : World).heap (.slice xb n xc) = some new := hn
        simp only [Result.andThen_ok, Sem.run_bind, hroom, run_first hof, run_first hnf, run_zero hz, run_newRow, Sem.run_pure]
        exact ⟨_, _, rfl, ⟨rfl, rfl, rfl, Keeps.push _ _⟩, hK nc hnc⟩
end
end Go.Pt
