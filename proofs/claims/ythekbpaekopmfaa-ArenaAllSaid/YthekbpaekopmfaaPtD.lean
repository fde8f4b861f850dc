/- Each primitive says what the operation of the translation does (second part). No condition. -/
import Derived.Test.YthekbpaekopmfaaPtC
import Derived.Great.BuildSlice
namespace Go.Pt
set_option linter.unusedVariables false
set_option linter.unusedSimpArgs false
section
variable {P : Program}
theorem loads_run (w : World) (a : Addr) : ∀ (n i : Nat) (acc r : Array Value), loads w.heap a i n acc = some r → (loadCellsFrom a i n acc).run P w = .ok r w
  | 0, i, acc, r, h => by simp only [loads, Option.some.injEq] at h; subst h; simp [loadCellsFrom]
  | n + 1, i, acc, r, h => by
    simp only [loads] at h
    cases hc : cell w.heap (a.add i) with
    | none => rw [hc] at h; cases h
    | some v =>
      rw [hc] at h
      have hl : (load (a.add i) .plain).run P w = .ok v w := by
        have : w.cell? (a.add i) = some v := hc
        simp [load, Sem.run, this]
      simp only [loadCellsFrom, Sem.run_bind, hl, Result.andThen_ok]
      exact loads_run w a n (i + 1) _ r h
theorem storeOne_run {w : World} {a : Addr} {v : Value} {h' : Heap} (hs : storeOne w.heap a v = some h') : (store a v .plain).run P w = .ok () { w with heap := h' } := by
  unfold storeOne at hs
  split at hs
  · cases hs
  · cases hs
  · rename_i na nt
    cases hc : cell w.heap a with
    | none => rw [hc] at hs; cases hs
    | some u =>
      rw [hc] at hs
      simp only at hs
      by_cases hf : frozenAt w.heap a = true
      · rw [if_pos hf] at hs; cases hs
      · rw [if_neg hf] at hs
        cases hs
        have hl : w.cell? a = some u := hc
        have hfz : w.frozen? a = false := by simpa [frozen_eq] using hf
        unfold store
        cases v <;> first | exact absurd rfl (na _) | exact absurd rfl (nt _) | (simp [Sem.run, hl, hfz]; rfl)
theorem stores_run : ∀ (vs : List Value) (w : World) (a : Addr) (i : Nat) (h' : Heap), stores w.heap a i vs = some h' → (storeCells a vs i).run P w = .ok () { w with heap := h' }
  | [], w, a, i, h', h => by simp only [stores, Option.some.injEq] at h; subst h; simp [storeCells]
  | v :: vs, w, a, i, h', h => by
    simp only [stores] at h
    cases hs : storeOne w.heap (a.add i) v with
    | none => rw [hs] at h; cases h
    | some h1 =>
      rw [hs] at h
      simp only [storeCells, Sem.run_bind, storeOne_run hs, Result.andThen_ok]
      exact stores_run vs { w with heap := h1 } a (i + 1) h' h
theorem size_of_cellsOf {t : TypeId} (hp : P.cellsOf t ≠ 0) : ∃ i, P.info? t = some i ∧ i.size = P.cellsOf t := by
  unfold Program.cellsOf at *
  cases hi : P.info? t with
  | none => simp [hi] at hp
  | some i => exact ⟨i, rfl, by simp⟩
theorem run_sizeOf_cellsOf {t : TypeId} (hp : (P.info? t).isSome) (w : World) : (sizeOf t).run P w = .ok (P.cellsOf t) w := by
  unfold Program.cellsOf
  cases hi : P.info? t with
  | none => rw [hi] at hp; cases hp
  | some i => simp [sizeOf, typeInfo, hi]
theorem zeroOf_spec {t : TypeId} {z : Value} (h : zeroOf P t = some z) : ∃ i, P.info? t = some i ∧ i.zero = some z := by
  unfold zeroOf at h
  cases hi : P.info? t with
  | none => rw [hi] at h; cases h
  | some i => rw [hi] at h; exact ⟨i, rfl, h⟩
theorem info_of_underlying {t : TypeId} {d : TypeDesc} (h : P.underlying t = some d) : (P.info? t).isSome := by
  unfold Program.underlying at h
  cases hi : P.info? t with
  | none => rw [hi] at h; cases h
  | some i => rfl
theorem fieldOf_spec {s : TypeId} {f off : Nat} {t : TypeId} (h : fieldOf P s f = some (off, t)) : ∃ fs fd, P.underlying s = some (.struct fs) ∧ fs[f]? = some fd ∧ fd.offset = off ∧ fd.type = t := by
  unfold fieldOf at h
  split at h
  · rename_i fs hu
    split at h
    · rename_i fd hf
      cases h
      exact ⟨fs, fd, hu, hf, rfl, rfl⟩
    · cases h
  · cases h
theorem Fld_run {s : TypeId} {f off : Nat} {t : TypeId} (h : fieldOf P s f = some (off, t)) (hn : P.cellsOf t ≠ 0) (a : Addr) (w : World) :
    (Instr.fieldAt s (.pointer (some a)) f).run P w = .ok (.pointer (some (a.add off))) w := by
  obtain ⟨fs, fd, hu, hf, rfl, rfl⟩ := fieldOf_spec h
  obtain ⟨i, hi, hsz⟩ := size_of_cellsOf hn
  have hne : ¬ i.size = 0 := by rw [hsz]; exact hn
  simp only [Instr.fieldAt, Sem.run_bind, run_underlying hu, Result.andThen_ok, hf, Instr.sureAddr, Sem.run_pure, fieldPlace, run_size hi, hne, if_false]

theorem Idx_run {t el : TypeId} (hu : P.underlying t = some (.slice el)) (hn : P.cellsOf el ≠ 0) {a : Addr} {len cap : Nat} {k : IntKind} {n : Int} (h0 : 0 ≤ n) (h1 : n < (len : Int)) (w : World) :
    (Instr.indexAt t (.slice (some a) len cap) (.int k n)).run P w = .ok (.pointer (some (a.add (n.toNat * P.cellsOf el)))) w := by
  obtain ⟨i, hi, hsz⟩ := size_of_cellsOf hn
  simp only [Instr.indexAt, asIntOf, Sem.run_bind, Sem.run_pure, Result.andThen_ok, run_underlying hu]
  simp only [h0, h1, and_self, if_true, Sem.run_bind, run_size hi, Result.andThen_ok, Sem.run_pure, hsz]
theorem IdxA_run {t el : TypeId} {len : Nat} (hu : P.underlying t = some (.array len el)) (hn : P.cellsOf el ≠ 0) {a : Addr} {k : IntKind} {n : Int} (h0 : 0 ≤ n) (h1 : n < (len : Int)) (w : World) :
    (Instr.indexAt t (.pointer (some a)) (.int k n)).run P w = .ok (.pointer (some (a.add (n.toNat * P.cellsOf el)))) w := by
  obtain ⟨i, hi, hsz⟩ := size_of_cellsOf hn
  simp only [Instr.indexAt, asIntOf, Instr.sureAddr, Sem.run_bind, Sem.run_pure, Result.andThen_ok, run_underlying hu]
  simp only [h0, h1, and_self, if_true, Sem.run_bind, run_size hi, Result.andThen_ok, Sem.run_pure, hsz]
theorem run_cv {src dst : TypeId} {j k : IntKind} (hs : P.underlying src = some (.int j)) (hd : P.underlying dst = some (.int k)) (k' : IntKind) (n : Int) (w : World) :
    (convert src dst (.int k' n)).run P w = .ok (.int k (k.wrap n)) w := by
  simp only [convert, Sem.run_bind, run_underlying hs, run_underlying hd, Result.andThen_ok, Conv.intToInt, Sem.run_pure]
theorem run_zero {t : TypeId} {z : Value} (h : zeroOf P t = some z) (w : World) : (zeroValue t).run P w = .ok z w := by
  obtain ⟨i, hi, hz⟩ := zeroOf_spec h
  simp [zeroValue, typeInfo, hi, hz]
theorem run_newRow (el : TypeId) (cs : Array Value) (w : World) : (newRow el cs).run P w = .ok ⟨w.heap.size, 0, none⟩ { w with heap := w.heap.push (.cells cs el) } := by
  simp [newRow, newObj, Sem.run]
theorem run_alloc {t : TypeId} {z : Value} (h : zeroOf P t = some z) (w : World) :
    (Instr.alloc t true (.tuple #[])).run P w = .ok (.pointer (some ⟨w.heap.size, 0, none⟩)) { w with heap := w.heap.push (.cells z.cells t) } := by
  simp only [Instr.alloc, Sem.run_bind, run_zero h, Result.andThen_ok, newVar, run_newRow, Sem.run_pure]
theorem run_box (t : TypeId) (v : Value) (w : World) :
    (Instr.box t v).run P w = .ok (.pointer (some ⟨w.heap.size, 0, none⟩)) { w with heap := w.heap.push (.cells v.cells t) } := by
  simp only [Instr.box, Sem.run_bind, newVar, run_newRow, Result.andThen_ok, Sem.run_pure]
theorem run_sb {v : Value} {y d r : Nat} (h : bound (some v) y d = some r) (w : World) (code : BoundsCode) : (Instr.sliceBound v y code).run P w = .ok r w := by
  unfold bound at h
  split at h
  · rename_i e; cases e
  · rename_i k i e
    cases e
    by_cases hc : 0 ≤ i ∧ i ≤ (y : Int)
    · rw [if_pos hc] at h
      cases h
      simp only [Instr.sliceBound, asIntOf, Sem.run_bind, Sem.run_pure, Result.andThen_ok, if_pos hc]
    · rw [if_neg hc] at h; cases h
  · cases h
theorem bound_none {y d r : Nat} (h : bound none y d = some r) : r = d := by simpa [bound] using h.symm
theorem run_bounds3 {len cap l h' m : Nat} {lo hi mx : Option Value} (h : bounds3 len cap lo hi mx = some (l, h', m)) (w : World) :
    (Instr.sliceBounds true len cap lo hi mx).run P w = .ok (l, h', m) w := by
  unfold bounds3 at h
  cases hm : bound mx cap cap with
  | none => rw [hm] at h; cases h
  | some m' =>
    rw [hm] at h
    cases mx with
    | none =>
      cases hh : bound hi m' len with
      | none => simp only [hh] at h; cases h
      | some h2 =>
        cases hl : bound lo h2 0 with
        | none => simp only [hh, hl] at h; cases h
        | some l2 =>
          simp only [hh, hl] at h
          cases h
          have e1 := bound_none hm
          subst e1
          unfold Instr.sliceBounds
          cases hi with
          | none =>
            have e2 := bound_none hh
            subst e2
            cases lo with
            | none =>
              have e3 := bound_none hl
              subst e3
              simp only [Sem.run_bind, Sem.run_pure, Result.andThen_ok]
            | some lv => simp only [Sem.run_bind, Sem.run_pure, Result.andThen_ok, run_sb hl]
          | some hv =>
            cases lo with
            | none =>
              have e3 := bound_none hl
              subst e3
              simp only [Sem.run_bind, Sem.run_pure, Result.andThen_ok, run_sb hh]
            | some lv => simp only [Sem.run_bind, Sem.run_pure, Result.andThen_ok, run_sb hh, run_sb hl]
    | some mv =>
      cases hi with
      | none => cases h
      | some hv =>
        cases hh : bound (some hv) m' len with
        | none => simp only [hh] at h; cases h
        | some h2 =>
          cases hl : bound lo h2 0 with
          | none => simp only [hh, hl] at h; cases h
          | some l2 =>
            simp only [hh, hl] at h
            cases h
            unfold Instr.sliceBounds
            cases lo with
            | none =>
              have e3 := bound_none hl
              subst e3
              simp only [Sem.run_bind, Sem.run_pure, Result.andThen_ok, run_sb hm, run_sb hh]
            | some lv => simp only [Sem.run_bind, Sem.run_pure, Result.andThen_ok, run_sb hm, run_sb hh, run_sb hl]
theorem run_slc {t el : TypeId} (hu : P.underlying t = some (.slice el)) {a : Option Addr} {len cap l h' m : Nat} {lo hi mx : Option Value}
    (hp : (P.info? el).isSome = true) (h : bounds3 len cap lo hi mx = some (l, h', m)) (w : World) :
    (Instr.sliceAt t (.slice a len cap) lo hi mx).run P w = .ok (.slice (if m = l then a else a.map (·.add (l * P.cellsOf el))) (h' - l) (m - l)) w := by
  simp only [Instr.sliceAt, Instr.slice, Sem.run_bind, run_underlying hu, Result.andThen_ok, run_bounds3 h, run_sizeOf_cellsOf hp, Sem.run_pure]
end
end Go.Pt
