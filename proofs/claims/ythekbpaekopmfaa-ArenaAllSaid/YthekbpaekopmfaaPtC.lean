/- Each primitive says what the operation of the translation does (first part). No condition. -/
import Derived.Test.YthekbpaekopmfaaPtB
namespace Go.Pt
set_option linter.unusedVariables false
set_option linter.unusedSimpArgs false
section
variable {P : Program}

theorem binI_run {op : BinOp} {k : IntKind} {a b : Int} {v : Value} (h : binI op k a b = some v) (w : World) (hs : op ≠ .shl) (hr : op ≠ .shr) (t : TypeId) :
    (binOp op t (.int k a) (.int k b)).run P w = .ok v w := by
  unfold binI at h
  cases op <;> simp only [Option.some.injEq, reduceCtorEq] at h
  case quo =>
    by_cases hb : b = 0
    · rw [if_pos hb] at h; cases h
    · rw [if_neg hb] at h; cases h; simp [binOp, Op.intDiv, hb]
  case rem =>
    by_cases hb : b = 0
    · rw [if_pos hb] at h; cases h
    · rw [if_neg hb] at h; cases h; simp [binOp, Op.intDiv, hb]
  all_goals (subst h; simp [binOp, Op.intArith, Op.intBits, Op.intCmp, bits])
theorem clsOf_bool {t : TypeId} (h : clsOf P t = .bool) : P.underlying t = some .bool := by
  unfold clsOf at h; split at h <;> first | assumption | cases h
theorem clsOf_pointer {t : TypeId} (h : clsOf P t = .pointer) : ∃ e, P.underlying t = some (.pointer e) := by
  unfold clsOf at h; split at h <;> first | exact ⟨_, by assumption⟩ | cases h
theorem clsOf_slice {t : TypeId} (h : clsOf P t = .slice) : ∃ e, P.underlying t = some (.slice e) := by
  unfold clsOf at h; split at h <;> first | exact ⟨_, by assumption⟩ | cases h
theorem clsOf_map {t : TypeId} (h : clsOf P t = .map) : ∃ k e, P.underlying t = some (.map k e) := by
  unfold clsOf at h; split at h <;> first | exact ⟨_, _, by assumption⟩ | cases h
theorem clsOf_func {t : TypeId} (h : clsOf P t = .func) : ∃ k e x, P.underlying t = some (.func k e x) := by
  unfold clsOf at h; split at h <;> first | exact ⟨_, _, _, by assumption⟩ | cases h
theorem clsOf_iface {t : TypeId} (h : clsOf P t = .iface) : ∃ k, P.underlying t = some (.interface k) := by
  unfold clsOf at h; split at h <;> first | exact ⟨_, by assumption⟩ | cases h
theorem equal_succ (t : TypeId) (x y : Value) : Op.equal t x y = Op.equalIn (9999 + 1) t x y := rfl
theorem eqV_runIn (d : Nat) {t : TypeId} {x y : Value} {b : Bool} (h : eqV (clsOf P t) x y = some b) (w : World) : (Op.equalIn (d + 1) t x y).run P w = .ok b w := by
  unfold eqV at h
  split at h <;> simp only [Option.some.injEq, reduceCtorEq] at h <;> subst h
  · rename_i hc; have hu := clsOf_bool hc; simp only [Op.equalIn, Sem.run_bind, run_underlying hu, Result.andThen_ok, Sem.run_pure]; try rfl
  · rename_i hc; obtain ⟨e, hu⟩ := clsOf_pointer hc; simp only [Op.equalIn, Sem.run_bind, run_underlying hu, Result.andThen_ok, Sem.run_pure]; try rfl
  · rename_i hc; obtain ⟨e, hu⟩ := clsOf_pointer hc; simp only [Op.equalIn, Sem.run_bind, run_underlying hu, Result.andThen_ok, Sem.run_pure]; try rfl
  · rename_i hc; obtain ⟨e, hu⟩ := clsOf_slice hc; simp only [Op.equalIn, Sem.run_bind, run_underlying hu, Result.andThen_ok, Sem.run_pure]; try rfl
  · rename_i hc; obtain ⟨e, hu⟩ := clsOf_slice hc; simp only [Op.equalIn, Sem.run_bind, run_underlying hu, Result.andThen_ok, Sem.run_pure]; try rfl
  · rename_i hc; obtain ⟨k, e, hu⟩ := clsOf_map hc; simp only [Op.equalIn, Sem.run_bind, run_underlying hu, Result.andThen_ok, Sem.run_pure]; try rfl
  · rename_i hc; obtain ⟨k, e, hu⟩ := clsOf_map hc; simp only [Op.equalIn, Sem.run_bind, run_underlying hu, Result.andThen_ok, Sem.run_pure]; try rfl
  · rename_i hc; obtain ⟨k, e, x, hu⟩ := clsOf_func hc; simp only [Op.equalIn, Sem.run_bind, run_underlying hu, Result.andThen_ok, Sem.run_pure]; try rfl
  · rename_i hc; obtain ⟨k, e, x, hu⟩ := clsOf_func hc; simp only [Op.equalIn, Sem.run_bind, run_underlying hu, Result.andThen_ok, Sem.run_pure]; try rfl
  · rename_i hc; obtain ⟨k, e, x, hu⟩ := clsOf_func hc; simp only [Op.equalIn, Sem.run_bind, run_underlying hu, Result.andThen_ok, Sem.run_pure]; try rfl
  · rename_i hc; obtain ⟨k, hu⟩ := clsOf_iface hc; simp only [Op.equalIn, Sem.run_bind, run_underlying hu, Result.andThen_ok, Sem.run_pure]; try rfl
  · rename_i hc; obtain ⟨k, hu⟩ := clsOf_iface hc; simp only [Op.equalIn, Sem.run_bind, run_underlying hu, Result.andThen_ok, Sem.run_pure]; try rfl
theorem eqV_run {t : TypeId} {x y : Value} {b : Bool} (h : eqV (clsOf P t) x y = some b) (w : World) : (Op.equal t x y).run P w = .ok b w := eqV_runIn 9999 h w
theorem eqV_guard {c : Cls} {x y : Value} {b : Bool} (h : eqV c x y = some b) (op : BinOp) (t : TypeId) (ox oy : Operand) (w : World) : (eqGuard op t ox oy x y).run P w = .ok () w := by
  unfold eqV at h
  split at h <;> first | (cases h; done) | (cases op <;> simp [eqGuard])

theorem binV_run {op : BinOp} {t : TypeId} {x y : Value} {v : Value} (h : binV (clsOf P t) op x y = some v) (ox oy : Operand) (w : World) :
    (do eqGuard op t ox oy x y; binOp op t x y : Sem Value).run P w = .ok v w := by
  unfold binV at h
  split at h
  · rename_i k a k' b
    have hg : (eqGuard op t ox oy (.int k a) (.int k' b)).run P w = .ok () w := by cases op <;> simp [eqGuard]
    simp only [Sem.run_bind, hg, Result.andThen_ok]
    split at h
    · by_cases hb : b < 0
      · rw [if_pos hb] at h; cases h
      · rw [if_neg hb] at h; cases h; simp [binOp, Op.shift, hb]
    · by_cases hb : b < 0
      · rw [if_pos hb] at h; cases h
      · rw [if_neg hb] at h; cases h; simp [binOp, Op.shift, hb]
    · rename_i hs hr
      by_cases hk : k = k'
      · subst hk
        rw [if_pos rfl] at h
        exact binI_run h w hs hr t
      · rw [if_neg hk] at h; cases h
  · rename_i hni
    split at h
    · cases he : eqV (clsOf P t) x y with
      | none => rw [he] at h; cases h
      | some b =>
        rw [he] at h
        cases h
        have h1 := eqV_run he w
        have h2 := eqV_guard (P := P) he .eql t ox oy w
        simp only [Sem.run_bind, h2, Result.andThen_ok]
        unfold eqV at he
        split at he <;> first | (cases he; done) | (simp only [binOp, Sem.run_bind, h1, Result.andThen_ok, Sem.run_pure]; done)
    · cases he : eqV (clsOf P t) x y with
      | none => rw [he] at h; cases h
      | some b =>
        rw [he] at h
        cases h
        have h1 := eqV_run he w
        have h2 := eqV_guard (P := P) he .neq t ox oy w
        simp only [Sem.run_bind, h2, Result.andThen_ok]
        unfold eqV at he
        split at he <;> first | (cases he; done) | (simp only [binOp, Sem.run_bind, h1, Result.andThen_ok, Sem.run_pure]; done)
    · cases h
section
variable {ρ : Operand → Value} {o : Oper} {K : Ret} {h : Heap}
theorem OpP_intro {v : Value} (hr : ∀ w, (execOp ρ o).run P w = .ok (.value v) w) (hK : K v h) : OpP P ρ o K h := ⟨v, hr, hK⟩
theorem OpS_intro {v : Value} (hr : ∀ w : World, Grows h w.heap → (execOp ρ o).run P w = .ok (.value v) w) (hK : K v h) : OpS P ρ o K h :=
  ⟨v, fun h' x w hw => by subst hw; rw [hr w x]; exact ⟨Same.refl w, rfl, rfl⟩, hK⟩
theorem OpR_intro {v : Value} (hr : ∀ w : World, w.heap = h → (execOp ρ o).run P w = .ok (.value v) w) (hK : K v h) : OpR P ρ o K h :=
  ⟨v, fun w hw => by rw [hr w hw]; exact ⟨Same.refl w, rfl, hw⟩, hK⟩
theorem OpW_value (hr : ∀ w : World, w.heap = h → ∃ v w', (execOp ρ o).run P w = .ok (.value v) w' ∧ Same w w' ∧ K v w'.heap) : OpW P ρ o K h := by
  intro w hw
  obtain ⟨v, w', h1, h2, h3⟩ := hr w hw
  rw [h1]; exact ⟨h2, h3⟩
theorem OpW_skip (hr : ∀ w : World, w.heap = h → ∃ w', (execOp ρ o).run P w = .ok .skip w' ∧ Same w w' ∧ K undef w'.heap) : OpW P ρ o K h := by
  intro w hw
  obtain ⟨w', h1, h2, h3⟩ := hr w hw
  rw [h1]; exact ⟨h2, h3⟩
/-- A value's own run, inside an operation. -/
theorem run_v {s : Sem Value} {w w' : World} {v : Value} (h : s.run P w = .ok v w') : (do pure (Next.value (← s)) : Sem Next).run P w = .ok (.value v) w' := by
  simp only [Sem.run_bind, h, Result.andThen_ok, Sem.run_pure]
theorem run_u {s : Sem Unit} {w w' : World} (h : s.run P w = .ok () w') : (do s; pure Next.skip : Sem Next).run P w = .ok .skip w' := by
  simp only [Sem.run_bind, h, Result.andThen_ok, Sem.run_pure]
end

theorem oneCell_spec {t : TypeId} (h : oneCell P t = true) : (∀ w, (isAgg t).run P w = .ok false w) ∧ ∃ i, P.info? t = some i ∧ i.size = 1 := by
  unfold oneCell at h
  split at h
  · cases h
  · cases h
  · rename_i d hs ha hu
    refine ⟨fun w => ?_, ?_⟩
    · simp only [isAgg, Sem.run_bind, run_underlying hu, Result.andThen_ok]
      cases d <;> simp_all
    · have h1 := Nat.eq_of_beq_eq_true h
      unfold Program.cellsOf at h1
      cases hi : P.info? t with
      | none => simp [hi] at h1
      | some i => simp [hi] at h1; exact ⟨i, rfl, h1⟩
  · cases h
theorem run_size {t : TypeId} {i : TypeInfo} (hi : P.info? t = some i) (w : World) : (sizeOf t).run P w = .ok i.size w := by simp [sizeOf, typeInfo, hi]
theorem Ld_run {t : TypeId} (h1 : oneCell P t = true) {a : Addr} {v : Value} {w : World} (hc : cell w.heap a = some v) : (Instr.loadAt t (.pointer (some a))).run P w = .ok v w := by
  have hl : w.cell? a = some v := hc
  simp only [Instr.loadAt, Instr.sureAddr, loadVar, Sem.run_bind, Sem.run_pure, Result.andThen_ok, (oneCell_spec h1).1 w]
  simp [load, Sem.run, hl]
theorem St_run {t : TypeId} (h1 : oneCell P t = true) {a : Addr} {v : Value} {w : World} {h' : Heap} (hs : storeOne w.heap a v = some h') :
    (Instr.storeAt t (.pointer (some a)) v).run P w = .ok () { w with heap := h' } := by
  obtain ⟨hag, i, hi, hsz⟩ := oneCell_spec h1
  unfold storeOne at hs
  split at hs
  · cases hs
  · cases hs
  · rename_i na nt
    have hcells : v.cells = #[v] := by cases v <;> first | rfl | exact absurd rfl (na _)
    cases hc : cell w.heap a with
    | none => rw [hc] at hs; cases hs
    | some u =>
      rw [hc] at hs
      simp only at hs
      by_cases hf : frozenAt w.heap a = true
      · rw [if_pos hf] at hs; cases hs
      · rw [if_neg hf] at hs
        cases hs
        have hl : w.cell? a = some u := hc
        have hfz : w.frozen? a = false := by simpa [frozen_eq] using hf
        simp only [Instr.storeAt, Instr.sureAddr, storeVar, Sem.run_bind, Sem.run_pure, Result.andThen_ok, run_size hi, hsz, hcells]
        have h0 : (store (a.add 0) v .plain).run P w = .ok () (w.setCell a v) := by
          unfold store
          cases v <;> first | exact absurd rfl (na _) | exact absurd rfl (nt _) | simp [Sem.run, Addr.add, hl, hfz]
        simp [storeCells, h0]
        rfl
end
end Go.Pt
