/- Each primitive says what the operation of the translation does (fourth part). No condition. -/
import Derived.Test.YthekbpaekopmfaaPtE
namespace Go.Pt
set_option linter.unusedVariables false
set_option linter.unusedSimpArgs false
section
variable {P : Program}
theorem run_check {b : Bool} {t : TypeId} {k : IntKind} (hu : P.underlying t = some (.int k)) (d : Nat) (v : Value) (w : World) : (Instr.checkKey b (d + 1) t v).run P w = .ok () w := by
  simp only [Instr.checkKey, Sem.run_bind, run_underlying hu, Result.andThen_ok]
  cases v <;> simp
theorem run_check' {b : Bool} {t : TypeId} {k : IntKind} (hu : P.underlying t = some (.int k)) (v : Value) (w : World) : (Instr.checkKey b 10000 t v).run P w = .ok () w := run_check hu 9999 v w
theorem findNow_kind {j k : IntKind} {n : Int} : ∀ (es : List MapEntry) (i : Nat), Instr.findNow (.int j) (.int k n) es i = Instr.findNow (.int k) (.int k n) es i
  | [], i => rfl
  | e :: es, i => by
    unfold Instr.findNow
    have : Instr.sameNow (.int j) (.int k n) e.key = Instr.sameNow (.int k) (.int k n) e.key := by
      cases e.key <;> rfl
    rw [this]
    split <;> first | rfl | exact findNow_kind es (i + 1)
theorem run_find {t : TypeId} {j k : IntKind} {n : Int} (hu : P.underlying t = some (.int j)) {es : List MapEntry} {r : Option (Nat × Value)} (h : Instr.findNow (.int k) (.int k n) es 0 = some r) (w : World) :
    (Instr.findKey t (.int k n) es).run P w = .ok r w := by
  rw [← findNow_kind (j := j)] at h
  simp only [Instr.findKey, Sem.run_bind, run_underlying hu, Result.andThen_ok, h, Sem.run_pure]
theorem run_getm {w : World} {r : Nat} {es : Array MapEntry} {c : Nat} (hr : w.heap[r]? = some (.map es c)) : (getObj r).run P w = .ok (.map es c) w := by
  simp [getObj, Sem.run, hr]
theorem run_setm {w : World} {r : Nat} {es : Array MapEntry} {c : Nat} (hr : w.heap[r]? = some (.map es c)) (o : Obj) : (setObj r o).run P w = .ok () { w with heap := w.heap.setIfInBounds r o } := by
  simp [setObj, Sem.run, hr]
theorem run_lk {t kt el : TypeId} {j : IntKind} {z : Value} (hu : P.underlying t = some (.map kt el)) (hk : P.underlying kt = some (.int j)) (hz : zeroOf P el = some z) {x i : Value} {ok : Bool} {K : Ret} {h : Heap}
    (hL : Lk z x i ok K h) : ∃ v, K v h ∧ ∀ w : World, w.heap = h → (Instr.lookup t x i ok).run P w = .ok v w := by
  replace hL := hL.out
  split at hL
  · rename_i k n
    refine ⟨_, hL, fun w hw => ?_⟩
    have hf : (Instr.findKey kt (.int k n) []).run P w = .ok none w := run_find hk rfl w
    cases ok <;> simp [Instr.lookup, run_underlying hu, run_check' hk, hf, run_zero hz]
  · rename_i r k n
    split at hL
    · rename_i es c hr
      split at hL
      · rename_i q v hfn
        refine ⟨_, hL, fun w hw => ?_⟩
        subst hw
        cases ok <;> simp [Instr.lookup, run_underlying hu, run_check' hk, run_find hk hfn, run_getm hr]
      · rename_i hfn
        refine ⟨_, hL, fun w hw => ?_⟩
        subst hw
        cases ok <;> simp [Instr.lookup, run_underlying hu, run_check' hk, run_find hk hfn, run_getm hr, run_zero hz]
      · exact hL.elim
    · exact hL.elim
  · exact hL.elim
theorem findNow_get {k : IntKind} {n : Int} : ∀ (es : List MapEntry) (i j : Nat) (v : Value), Instr.findNow (.int k) (.int k n) es i = some (some (j, v)) → i ≤ j ∧ ∃ e, es[j - i]? = some e ∧ e.key = .int k n
  | [], i, j, v, h => by simp [Instr.findNow] at h
  | e :: es, i, j, v, h => by
    unfold Instr.findNow at h
    split at h
    · rename_i hs
      cases h
      refine ⟨Nat.le_refl _, e, by simp, ?_⟩
      cases hk : e.key <;> simp only [Instr.sameNow, hk] at hs <;> try (cases hs)
      rename_i k' m
      by_cases hkk : k = k'
      · rw [if_pos hkk] at hs; simp at hs; rw [hkk, hs]
      · rw [if_neg hkk] at hs; cases hs
    · obtain ⟨h1, e', h2, h3⟩ := findNow_get es (i + 1) j v h
      refine ⟨by omega, e', ?_, h3⟩
      have : j - i = (j - (i + 1)) + 1 := by omega
      rw [this]; simpa using h2
    · cases h
theorem run_keep (k : IntKind) (n : Int) (w : World) : (Instr.keyThatStays (.int k n) (.int k n)).run P w = .ok (.int k n) w := by
  have hs : Instr.sameBits 10000 (.int k n) (.int k n) = true := by
    show Instr.sameBits (9999 + 1) (.int k n) (.int k n) = true
    unfold Instr.sameBits
    simp
  unfold Instr.keyThatStays
  rw [if_pos hs]; simp
theorem run_mupd {t kt el : TypeId} {j : IntKind} (hu : P.underlying t = some (.map kt el)) (hk : P.underlying kt = some (.int j)) {x i y : Value} {K : Ret} {h : Heap}
    (hM : MUpd x i y K h) (w : World) (hw : w.heap = h) : ∃ h', K undef h' ∧ (Instr.mapUpdate t x i y).run P w = .ok () { w with heap := h' } ∧ Keeps w.heap h' := by
  subst hw
  replace hM := hM.out
  split at hM
  · rename_i r k n
    split at hM
    · rename_i es c hr
      split at hM
      · rename_i q v hfn
        refine ⟨_, hM, ?_, Keeps.set hr rfl⟩
        obtain ⟨_, e, he, hkey⟩ := findNow_get _ _ _ _ hfn
        have hq : es[q]? = some e := by simpa using he
        simp only [Instr.mapUpdate, Sem.run_bind, run_underlying hu, Result.andThen_ok, run_getm hr, run_check' hk, run_find hk hfn, hq, Option.map_some, Option.getD_some, hkey, run_keep]
        rw [run_setm hr]
      · rename_i hfn
        refine ⟨_, hM, ?_, Keeps.set hr rfl⟩
        simp only [Instr.mapUpdate, Sem.run_bind, run_underlying hu, Result.andThen_ok, run_getm hr, run_check' hk, run_find hk hfn]
        rw [run_setm hr]
      · exact hM.elim
    · exact hM.elim
  · exact hM.elim
theorem run_mdel {ats : Array TypeId} {ty t kt el : TypeId} {j : IntKind} (h0 : ats[0]? = some t) (hu : P.underlying t = some (.map kt el)) (hk : P.underlying kt = some (.int j)) {x i : Value} {K : Ret} {h : Heap}
    (hM : MDel x i K h) (w : World) (hw : w.heap = h) : ∃ h', K (.tuple #[]) h' ∧ (Builtin.delete_ ats ty #[x, i]).run P w = .ok (.tuple #[]) { w with heap := h' } ∧ Keeps w.heap h' := by
  subst hw
  replace hM := hM.out
  split at hM
  · rename_i k n
    exact ⟨w.heap, hM, by simp [Builtin.delete_, h0, run_underlying hu, run_check' hk], Keeps.refl _⟩
  · rename_i r k n
    split at hM
    · rename_i es c hr
      split at hM
      · rename_i q v hfn
        refine ⟨_, hM, ?_, Keeps.set hr rfl⟩
        simp [Builtin.delete_, h0, run_underlying hu, run_check' hk, run_getm hr, run_find hk hfn, run_setm hr]
      · rename_i hfn
        refine ⟨w.heap, hM, ?_, Keeps.refl _⟩
        have hsame : w.heap.setIfInBounds r (.map es c) = w.heap := by
          apply Array.ext_getElem?
          intro i
          by_cases hi : r = i
          · subst hi
            have hlt : r < w.heap.size := by
              rcases Nat.lt_or_ge r w.heap.size with hx | hx
              · exact hx
              · rw [Array.getElem?_eq_none hx] at hr; cases hr
            have hg : w.heap[r] = .map es c := by simpa [Array.getElem?_eq_getElem hlt] using hr
            simp [Array.getElem?_setIfInBounds, hlt, hg]
          · simp [Array.getElem?_setIfInBounds, hi]
        simp [Builtin.delete_, h0, run_underlying hu, run_check' hk, run_getm hr, run_find hk hfn, run_setm hr, hsame]
      · exact hM.elim
    · exact hM.elim
  · exact hM.elim
theorem run_clr {ats : Array TypeId} {ty t el : TypeId} {z : Value} (h0 : ats[0]? = some t) (hu : P.underlying t = some (.slice el)) (hz : zeroOf P el = some z) {x : Value} {K : Ret} {h : Heap}
    (hM : Clr z.cells x K h) (w : World) (hw : w.heap = h) : ∃ h', K (.tuple #[]) h' ∧ (Builtin.clear_ ats ty #[x]).run P w = .ok (.tuple #[]) { w with heap := h' } ∧ Keeps w.heap h' := by
  subst hw
  replace hM := hM.out
  split at hM
  · exact ⟨w.heap, hM, by simp [Builtin.clear_, h0, run_underlying hu], Keeps.refl _⟩
  · rename_i a n cap
    split at hM
    · rename_i h' hs
      by_cases e : n = 0
      · subst e
        have e0 : (Builtin.zeroCells z.cells 0).toList = [] := by simp [Builtin.zeroCells]
        rw [e0, stores] at hs
        cases hs
        exact ⟨w.heap, hM, by simp [Builtin.clear_, h0, run_underlying hu], Keeps.refl _⟩
      · refine ⟨h', hM, ?_, stores_keeps hs⟩
        have hzv : (zeroValue el).run P w = .ok z w := run_zero hz w
        unfold Builtin.clear_
        simp only [h0, show (#[Value.slice (some a) n cap] : Array Value)[0]? = some (.slice (some a) n cap) from rfl, Sem.run_bind, run_underlying hu, Result.andThen_ok]
        simp only [hzv, Result.andThen_ok, stores_run _ _ _ _ _ hs, Sem.run_pure]
    · exact hM.elim
  · exact hM.elim
theorem run_mkm (t : TypeId) (w : World) : (Instr.makeMap t none).run P w = .ok (.map (some w.heap.size)) { w with heap := w.heap.push (.map #[] 0) } := by
  simp [Instr.makeMap, newObj, Sem.run]
theorem run_rngm {t kt el : TypeId} (hu : P.underlying t = some (.map kt el)) {x : Value} {K : Ret} {h : Heap} (hR : RngM x K h) (w : World) (hw : w.heap = h) :
    ∃ v w', (Instr.range t x).run P w = .ok v w' ∧ Same w w' ∧ K v w'.heap := by
  subst hw
  replace hR := hR.out
  split at hR
  · exact ⟨.pointer (some ⟨w.heap.size, 0, none⟩), { w with heap := w.heap.push (.mapIter none 0 #[] 0) }, by simp [Instr.range, run_underlying hu, newObj, Sem.run], ⟨rfl, rfl, rfl, Keeps.push _ _⟩, hR⟩
  · split at hR
    · rename_i es c hr
      exact ⟨.pointer (some ⟨w.heap.size, 0, none⟩), { w with heap := w.heap.push (.mapIter (some _) c #[] c) }, by simp [Instr.range, run_underlying hu, newObj, Sem.run, run_getm hr], ⟨rfl, rfl, rfl, Keeps.push _ _⟩, hR⟩
    · exact hR.elim
  · exact hR.elim
theorem run_geti {w : World} {r : Nat} {m : Option Nat} {a c : Nat} {s : Array Nat} (hr : w.heap[r]? = some (.mapIter m a s c)) : (getObj r).run P w = .ok (.mapIter m a s c) w := by
  simp [getObj, Sem.run, hr]
theorem run_choose (n : Nat) (hn : 0 < n) (w : World) : ∃ i k, i < n ∧ (choose (.mapNext n)).run P w = .ok i { w with drawn := k } := by
  unfold choose
  by_cases c : n ≤ 1
  · exact ⟨0, w.drawn, hn, by simp [Sem.run, Question.forced, c]⟩
  · exact ⟨_, _, Nat.mod_lt _ hn, by simp only [Sem.run, Question.forced, c, decide_false, Bool.false_eq_true, if_false]; rfl⟩
theorem run_nxtm {ty : TypeId} {x : Value} {K : Ret} {h : Heap} (hN : NxtM x K h) (w : World) (hw : w.heap = h) :
    ∃ v w', (Instr.next x false ty).run P w = .ok v w' ∧ Same w w' ∧ K v w'.heap := by
  subst hw
  replace hN := hN.out
  split at hN
  · rename_i r
    split at hN
    · rename_i hr
      exact ⟨_, w, by simp [Instr.next, run_geti hr], Same.refl _, hN⟩
    · rename_i m since seen last hr
      split at hN
      · rename_i es clock hm
        obtain ⟨h1, h2, h3⟩ := hN
        have e1 : (!seen.isEmpty && !es.isEmpty && es.all (fun e => decide (e.born ≥ last))) = false := by
          rw [Bool.eq_false_iff]
          intro q
          simp only [Bool.and_eq_true, Bool.not_eq_true', Array.all_eq_true_iff_forall_mem, decide_eq_true_eq] at q
          obtain ⟨⟨_, q2⟩, q3⟩ := q
          have hne : es ≠ #[] := fun e => by rw [e] at q2; simp at q2
          obtain ⟨e, he⟩ : ∃ e, e ∈ es := Array.exists_mem_of_ne_empty es hne
          have := q3 e he
          have := (h1 e he).1
          omega
        have e2 : (es.filter fun e => !seen.contains e.born).filter (fun e => decide (e.born ≥ since)) = #[] := by
          rw [Array.filter_eq_empty_iff]
          intro e he
          have := (h1 e (Array.mem_filter.1 he).1).2
          simp only [decide_eq_true_eq]; omega
        have e3 : (es.filter fun e => !seen.contains e.born).filter (fun e => decide (e.born < since)) = es.filter fun e => !seen.contains e.born := by
          rw [Array.filter_eq_self]
          intro e he
          have := (h1 e (Array.mem_filter.1 he).1).2
          simp only [decide_eq_true_eq]; omega
        generalize hL : (es.filter fun e => !seen.contains e.born) = left at *
        obtain ⟨i, k, hi, hrun⟩ := run_choose (P := P) ((if left.isEmpty then #[none] else #[]) ++ left.map some : Array (Option MapEntry)).size (by
          by_cases hl : left.isEmpty = true
          · rw [if_pos hl]; simp; omega
          · rw [if_neg hl]
            rw [Array.isEmpty_iff] at hl
            have : 0 < left.size := Array.size_pos_iff.2 hl
            simpa using this) w
        cases hc : ((if left.isEmpty then #[none] else #[]) ++ left.map some : Array (Option MapEntry))[i]? with
        | none => rw [Array.getElem?_eq_none_iff] at hc; omega
        | some o =>
          cases o with
          | some e =>
            have hm2 : some e ∈ ((if left.isEmpty then #[none] else #[]) ++ left.map some : Array (Option MapEntry)) := Array.mem_of_getElem? hc
            have hel : e ∈ left := by
              rcases Array.mem_append.1 hm2 with q | q
              · split at q <;> simp at q
              · simpa using q
            rw [← hL, Array.mem_filter] at hel
            refine ⟨.tuple #[.bool true, e.key, e.val], { w with heap := w.heap.setIfInBounds r (.mapIter (some m) since (seen.push e.born) clock), drawn := k }, ?_, ⟨rfl, rfl, rfl, Keeps.set hr rfl⟩, h3 e hel.1 (by simpa using hel.2)⟩
            · simp only [Instr.next, Sem.run_bind, run_geti hr, Result.andThen_ok, run_getm hm, e1, Bool.false_eq_true, if_false, hL, e2, e3, Array.append_empty, hrun, hc]
              simp [setObj, Sem.run, hr]
          | none =>
            have hall : ∀ e ∈ es, seen.contains e.born = true := by
              have hm2 : none ∈ ((if left.isEmpty then #[none] else #[]) ++ left.map some : Array (Option MapEntry)) := Array.mem_of_getElem? hc
              have hle : left.isEmpty = true := by
                rcases Array.mem_append.1 hm2 with q | q
                · by_cases hl : left.isEmpty = true
                  · exact hl
                  · rw [if_neg hl] at q; simp at q
                · simp at q
              intro e he
              cases hs : seen.contains e.born with
              | true => rfl
              | false =>
                have : e ∈ left := by rw [← hL, Array.mem_filter]; exact ⟨he, by rw [hs]; rfl⟩
                rw [Array.isEmpty_iff.1 hle] at this; simp at this
            refine ⟨_, { w with drawn := k }, ?_, Same.drawn _ _, h2 hall⟩
            simp only [Instr.next, Sem.run_bind, run_geti hr, Result.andThen_ok, run_getm hm, e1, Bool.false_eq_true, if_false, hL, e2, e3, Array.append_empty, hrun, hc]
            simp
      · exact hN.elim
    · exact hN.elim
  · exact hN.elim
theorem run_entm {x : Value} {K : Ret} {h : Heap} (hE : EntM x K h) (w : World) (hw : w.heap = h) :
    ∃ v w', (Instr.entry x).run P w = .ok v w' ∧ Same w w' ∧ K v w'.heap := by
  subst hw
  replace hE := hE.out
  split at hE
  · rename_i r
    split at hE
    · rename_i m since seen stepped hr
      split at hE
      · rename_i es clock hm
        obtain ⟨hc, hE⟩ := hE
        subst hc
        split at hE
        · rename_i stamp hb
          split at hE
          · rename_i e he
            exact ⟨_, w, by simp [Instr.entry, run_geti hr, run_getm hm, hb, he], Same.refl _, hE⟩
          · exact hE.elim
        · exact hE.elim
      · exact hE.elim
    · exact hE.elim
  · exact hE.elim
end
end Go.Pt
