/- Each primitive says what the operation of the translation does (fifth part). No condition. -/
import Derived.Test.YthekbpaekopmfaaPtF
namespace Go.Pt
set_option linter.unusedVariables false
set_option linter.unusedSimpArgs false
section
variable {P : Program}
theorem partsOf_spec {n : Nat} {ds : List Deferred} {e : Env} {a : Act} (r : Rep n ds e a) : ∀ {xs : List (Nat × Operand)} {vs : List (Nat × Value)}, partsOf e xs = some vs → xs.map (fun (i, x) => (i, a.eval x)) = vs
  | [], vs, h => by simp [partsOf] at h; subst h; rfl
  | (i, x) :: xs, vs, h => by
    simp only [partsOf] at h
    cases hx : e.val x with
    | none => simp [hx] at h
    | some v =>
      cases hs : partsOf e xs with
      | none => simp [hx, hs] at h
      | some us =>
        simp [hx, hs] at h
        subst h
        have := partsOf_spec r hs
        simp [r.val hx, this]
theorem run_bld {t : TypeId} {fields : Array Field} {z : Value} {places : List (Nat × Nat)} {parts : Array (Nat × Value)} {cs : Array Value} (hu : P.underlying t = some (.struct fields)) (hz : zeroOf P t = some z)
    (hp : fields.toList.mapM (fun f => (P.info? f.type).map fun i => (f.offset, i.size)) = some places) (hf : Instr.fill (places.toArray[·]?) z.cells parts.toList = some cs) (w : World) :
    (Instr.build t parts).run P w = .ok (.agg cs) w := by
  obtain ⟨i, hi, hiz⟩ := zeroOf_spec hz
  exact run_build w t parts cs (by simp [Program.built, hi, hu, hiz, hp]; simpa using hf)
theorem run_bldA {t el : TypeId} {len : Nat} {z : Value} {parts : Array (Nat × Value)} {cs : Array Value} (hu : P.underlying t = some (.array len el)) (hz : zeroOf P t = some z) (he : (P.info? el).isSome = true)
    (hf : Instr.fill (fun i => some (i * P.cellsOf el, P.cellsOf el)) z.cells parts.toList = some cs) (w : World) :
    (Instr.build t parts).run P w = .ok (.agg cs) w := by
  obtain ⟨i, hi, hiz⟩ := zeroOf_spec hz
  cases hie : P.info? el with
  | none => rw [hie] at he; cases he
  | some ie =>
    have hc : P.cellsOf el = ie.size := by simp [Program.cellsOf, hie]
    rw [hc] at hf
    exact run_build w t parts cs (by simp [Program.built, hi, hu, hiz, hie, hf])
theorem run_blds {t el : TypeId} {len : Nat} {z : Value} {parts : Array (Nat × Value)} {cs : Array Value} (hu : P.underlying t = some (.slice el)) (hz : zeroOf P el = some z)
    (h1 : len * P.cellsOf el ≤ 16777216) (h2 : 0 < len * P.cellsOf el)
    (hf : Instr.fill (fun i => some (i * P.cellsOf el, P.cellsOf el)) ((Array.range (len * P.cellsOf el)).map (z.cells[· % z.cells.size]!)) parts.toList = some cs) (w : World) :
    (Instr.buildSlice t len parts).run P w = .ok (.slice (some ⟨w.heap.size, 0, none⟩) len len) { w with heap := w.heap.push (.cells cs el) } := by
  obtain ⟨i, hi, hiz⟩ := zeroOf_spec hz
  have hc : P.cellsOf el = i.size := by simp [Program.cellsOf, hi]
  rw [hc] at h1 h2 hf
  exact run_buildSlice w t el len parts cs i z hu hi hiz (by omega) (by omega) hf
theorem hasBody_spec {f : FuncId} (h : hasBody P f = true) : ∃ fn, P.funcs[f]? = some fn ∧ fn.body.isSome = true ∧ (fn.name == "runtime.NumGoroutine") = false := by
  unfold hasBody at h
  split at h
  · rename_i fn hf
    simp only [Bool.and_eq_true, bne] at h
    exact ⟨fn, hf, h.1, by simpa using h.2⟩
  · cases h
theorem run_callFunc {f : FuncId} (h : hasBody P f = true) (args : Array Value) (w : World) : (callFunc f args).run P w = .ok (.enter f args) w := by
  obtain ⟨fn, hf, hb, hn⟩ := hasBody_spec h
  have hbn : fn.body.isNone = false := by cases hq : fn.body <;> simp_all
  unfold callFunc
  simp only [Sem.run_bind, run_program, Result.andThen_ok, hf, hn, hbn, Bool.false_eq_true, if_false, Sem.run_pure]
/-- A call of a function value. -/
theorem run_callV {ρ : Operand → Value} {o : Oper} {c : Go.Call} (ho : o.op = .call c) {x : Operand} (hc : c.callee = .value x) {f : FuncId} {first captured : Array Value} (hv : ρ x = .func (.func f) first captured)
    (hb : hasBody P f = true) (w : World) : (execOp ρ o).run P w = .ok (.enter f (first ++ c.args.map ρ ++ captured)) w := by
  simp only [execOp, ho, resolve, hc, hv, Deferred.ofValue, Sem.run_bind, Sem.run_pure, Result.andThen_ok, invoke, run_callFunc hb]
end

section
variable {P : Program} {n : Nat} {ds : List Deferred} {e : Env} {a : Act} {o : Oper} {K : Ret} {h : Heap} {qs : List FuncId}
theorem ex_v {ρ : Operand → Value} {s : Sem Value} (he : execOp ρ o = (do pure (Next.value (← s)) : Sem Next)) {v : Value} {w w' : World} (hr : s.run P w = .ok v w') : (execOp ρ o).run P w = .ok (.value v) w' := by
  rw [he]; exact run_v hr
theorem Bin_sound (r : Rep n ds e a) {op : BinOp} {t t' : TypeId} {x y : Operand} (ho : o.op = .binOp op t x y t') {vx vy : Value} (hx : e.val x = some vx) (hy : e.val y = some vy) (hB : Bin (clsOf P t) op vx vy K h) :
    OpP P a.eval o K h := by
  replace hB := hB.out
  split at hB
  · rename_i v hv
    refine OpP_intro (v := v) (fun w => ?_) hB
    have := binV_run (P := P) hv x y w
    simp only [execOp, ho, r.val hx, r.val hy]
    exact run_v this
  · exact hB.elim
theorem bif_true {b : Bool} {p q : Prop} (hh : bif b then p else q) : (b = true ∧ p) ∨ (b = false ∧ q) := by cases b <;> simp_all
theorem beq0 {x : Nat} (hh : Nat.beq x 0 = false) : x ≠ 0 := by rintro rfl; cases hh
theorem aggB_spec {t : TypeId} (hh : aggB P t = true) : (∀ w, (isAgg t).run P w = .ok true w) ∧ (P.info? t).isSome = true := by
  unfold aggB at hh
  split at hh
  · rename_i f hu; exact ⟨fun w => by simp [isAgg, run_underlying hu], info_of_underlying hu⟩
  · rename_i m el hu; exact ⟨fun w => by simp [isAgg, run_underlying hu], info_of_underlying hu⟩
  · cases hh
theorem cell_ext {h h' : Heap} {ad : Addr} {v : Value} (x : Grows h h') (hc : cell h ad = some v) : cell h' ad = some v := by
  unfold cell at *
  cases hb : h[ad.block]? with
  | none => rw [hb] at hc; cases hc
  | some ob => rw [x.get hb]; rw [hb] at hc; exact hc
theorem loads_ext {h h' : Heap} {ad : Addr} {vs : Array Value} (x : Grows h h') : ∀ (n i : Nat) (acc : Array Value), loads h ad i n acc = some vs → loads h' ad i n acc = some vs
  | 0, i, acc, e => by unfold loads at *; exact e
  | n + 1, i, acc, e => by
    unfold loads at *
    cases hc : cell h (ad.add i) with
    | none => rw [hc] at e; cases e
    | some v =>
      rw [hc] at e
      rw [cell_ext x hc]
      exact loads_ext x n (i + 1) _ e
theorem Ld_sound (r : Rep n ds e a) {t : TypeId} {x : Operand} (ho : o.op = .load t x) {p : Value} (hx : e.val x = some p)
    (hL : bif oneCell P t then Ld p K h else bif aggB P t then LdA (P.cellsOf t) p K h else False) : OpS P a.eval o K h := by
  have hex : execOp a.eval o = (do pure (Next.value (← Instr.loadAt t p)) : Sem Next) := by simp only [execOp, ho, r.val hx]
  rcases bif_true hL with ⟨h1, hL⟩ | ⟨h1, hL⟩
  · replace hL := hL.out
    split at hL
    · rename_i ad
      split at hL
      · rename_i v hc
        exact OpS_intro (fun w x => ex_v hex (Ld_run h1 (cell_ext x hc))) hL
      · exact hL.elim
    · exact hL.elim
  · rcases bif_true hL with ⟨h2, hL⟩ | ⟨h2, hL⟩
    · obtain ⟨hag, his⟩ := aggB_spec h2
      replace hL := hL.out
      split at hL
      · rename_i ad
        split at hL
        · rename_i vs hc
          refine OpS_intro (v := .agg vs) (fun w x => ex_v hex ?_) hL
          replace hc := loads_ext x _ _ _ hc
          simp only [Instr.loadAt, Instr.sureAddr, loadVar, Sem.run_bind, Sem.run_pure, Result.andThen_ok, hag w, if_true, run_sizeOf_cellsOf his, loadCells, loads_run w _ _ _ _ _ hc]
        · exact hL.elim
      · exact hL.elim
    · exact hL.elim
theorem St_sound (r : Rep n ds e a) {t : TypeId} {x y : Operand} (ho : o.op = .store t x y) {p v : Value} (hx : e.val x = some p) (hy : e.val y = some v)
    (hS : bif oneCell P t then St p v K h else bif aggB P t then StA (P.cellsOf t) p v K h else False) : OpW P a.eval o K h := by
  have hex : execOp a.eval o = (do Instr.storeAt t p v; pure Next.skip : Sem Next) := by simp only [execOp, ho, r.val hx, r.val hy]
  have hS0 := bif_true hS
  clear hS
  rcases hS0 with ⟨h1, hS⟩ | ⟨h1, hS⟩
  · replace hS := hS.out
    split at hS
    · rename_i ad
      split at hS
      · rename_i h' hs
        refine OpW_skip fun w hw => ⟨{ w with heap := h' }, ?_, ⟨rfl, rfl, rfl, by rw [hw]; exact storeOne_keeps hs⟩, hS⟩
        subst hw
        rw [hex]; exact run_u (St_run h1 hs)
      · exact hS.elim
    · exact hS.elim
  · have hS1 := bif_true hS
    clear hS
    rcases hS1 with ⟨h2, hS⟩ | ⟨h2, hS⟩
    · obtain ⟨hag, his⟩ := aggB_spec h2
      replace hS := hS.out
      split at hS
      · rename_i ad cs
        obtain ⟨hsz, hS⟩ := hS
        split at hS
        · rename_i h' hs
          refine OpW_skip fun w hw => ⟨{ w with heap := h' }, ?_, ⟨rfl, rfl, rfl, by rw [hw]; exact stores_keeps hs⟩, hS⟩
          subst hw
          rw [hex]; refine run_u ?_
          have hc : (Value.agg cs).cells = cs := rfl
          have hne : ¬ (cs.size ≠ P.cellsOf t) := fun hx => hx hsz
          simp only [Instr.storeAt, Instr.sureAddr, storeVar, Sem.run_bind, Sem.run_pure, Result.andThen_ok, run_sizeOf_cellsOf his, hc, hne, if_false, stores_run _ _ _ _ _ hs]
        · exact hS.elim
      · exact hS.elim
    · exact hS.elim
theorem NilC_sound (r : Rep n ds e a) {x : Operand} (ho : o.op = .nilCheck x) {p : Value} (hx : e.val x = some p) (hN : NilC p K h) : OpP P a.eval o K h := by
  replace hN := hN.out
  split at hN
  · exact OpP_intro (fun w => by simp only [execOp, ho, r.val hx, Sem.run_pure]) hN
  · exact hN.elim
theorem Pick_sound (r : Rep n ds e a) {x y z : Operand} (ho : o.op = .pick x y z) {vx vy vz : Value} (hx : e.val x = some vx) (hy : e.val y = some vy) (hz : e.val z = some vz) (hP : Pick vx vy vz K h) : OpP P a.eval o K h := by
  replace hP := hP.out
  split at hP
  · rename_i t
    refine OpP_intro (v := if t then vy else vz) (fun w => ?_) hP
    simp only [execOp, ho, r.val hx, r.val hy, r.val hz, asBool, Sem.run_bind, Sem.run_pure, Result.andThen_ok]
  · exact hP.elim
theorem Fld_sound (r : Rep n ds e a) {s : TypeId} {f off : Nat} {t : TypeId} {x : Operand} (ho : o.op = .fieldAddr s x f) {p : Value} (hx : e.val x = some p) (hf : fieldOf P s f = some (off, t))
    (hF : bif Nat.beq (P.cellsOf t) 0 then False else Fld off p K h) : OpP P a.eval o K h := by
  rcases bif_true hF with ⟨_, hF⟩ | ⟨h0, hF⟩
  · exact hF.elim
  · replace hF := hF.out
    split at hF
    · exact OpP_intro (fun w => ex_v (by simp only [execOp, ho, r.val hx]) (Fld_run hf (beq0 h0) _ w)) hF
    · exact hF.elim
theorem run_part1 {t : TypeId} (h1 : oneCell P t = true) {cs : Array Value} {off : Nat} {v : Value} (hc : cs[off]? = some v) (w : World) : (part t cs off).run P w = .ok v w := by
  simp only [part, Sem.run_bind, (oneCell_spec h1).1 w, Result.andThen_ok, Bool.false_eq_true, if_false, hc, Sem.run_pure]
theorem FldV_sound (r : Rep n ds e a) {s : TypeId} {f off : Nat} {t : TypeId} {x : Operand} (ho : o.op = .field s x f) {p : Value} (hx : e.val x = some p) (hf : fieldOf P s f = some (off, t))
    (hF : bif oneCell P t then FldV off p K h else bif aggB P t then FldVA off (P.cellsOf t) p K h else False) : OpP P a.eval o K h := by
  obtain ⟨fs, fd, hu, hfd, rfl, rfl⟩ := fieldOf_spec hf
  have hex : execOp a.eval o = (do pure (Next.value (← Instr.field s p f)) : Sem Next) := by simp only [execOp, ho, r.val hx]
  rcases bif_true hF with ⟨h1, hF⟩ | ⟨_, hF⟩
  · replace hF := hF.out
    split at hF
    · rename_i cs
      split at hF
      · rename_i v hc
        exact OpP_intro (fun w => ex_v hex (by simp only [Instr.field, Sem.run_bind, run_underlying hu, Result.andThen_ok, hfd, asAgg, Sem.run_pure, run_part1 h1 hc])) hF
      · exact hF.elim
    · exact hF.elim
  · rcases bif_true hF with ⟨h2, hF⟩ | ⟨_, hF⟩
    · obtain ⟨hag, his⟩ := aggB_spec h2
      replace hF := hF.out
      split at hF
      · rename_i cs
        exact OpP_intro (fun w => ex_v hex (by simp only [Instr.field, Sem.run_bind, run_underlying hu, Result.andThen_ok, hfd, asAgg, Sem.run_pure, part, hag w, if_true, run_sizeOf_cellsOf his])) hF
      · exact hF.elim
    · exact hF.elim
theorem Idx_sound (r : Rep n ds e a) {t el : TypeId} {x y : Operand} (ho : o.op = .indexAddr t x y) {vx vy : Value} (hx : e.val x = some vx) (hy : e.val y = some vy) (hu : P.underlying t = some (.slice el))
    (hI : bif Nat.beq (P.cellsOf el) 0 then False else Idx (P.cellsOf el) vx vy K h) : OpP P a.eval o K h := by
  have hex : execOp a.eval o = (do pure (Next.value (← Instr.indexAt t vx vy)) : Sem Next) := by simp only [execOp, ho, r.val hx, r.val hy]
  rcases bif_true hI with ⟨_, hI⟩ | ⟨h0, hI⟩
  · exact hI.elim
  · replace hI := hI.out
    split at hI
    · exact OpP_intro (fun w => ex_v hex (Idx_run hu (beq0 h0) hI.1.1 hI.1.2 w)) hI.2
    · exact hI.elim
theorem IdxA_sound (r : Rep n ds e a) {t el : TypeId} {len : Nat} {x y : Operand} (ho : o.op = .indexAddr t x y) {vx vy : Value} (hx : e.val x = some vx) (hy : e.val y = some vy) (hu : P.underlying t = some (.array len el))
    (hI : bif Nat.beq (P.cellsOf el) 0 then False else IdxA len (P.cellsOf el) vx vy K h) : OpP P a.eval o K h := by
  have hex : execOp a.eval o = (do pure (Next.value (← Instr.indexAt t vx vy)) : Sem Next) := by simp only [execOp, ho, r.val hx, r.val hy]
  rcases bif_true hI with ⟨_, hI⟩ | ⟨h0, hI⟩
  · exact hI.elim
  · replace hI := hI.out
    split at hI
    · exact OpP_intro (fun w => ex_v hex (IdxA_run hu (beq0 h0) hI.1.1 hI.1.2 w)) hI.2
    · exact hI.elim
theorem IdxV_sound (r : Rep n ds e a) {t el : TypeId} {len : Nat} {x y : Operand} (ho : o.op = .index t x y) {vx vy : Value} (hx : e.val x = some vx) (hy : e.val y = some vy) (hu : P.underlying t = some (.array len el))
    (hI : bif oneCell P el then IdxV len (P.cellsOf el) vx vy K h else False) : OpP P a.eval o K h := by
  have hex : execOp a.eval o = (do pure (Next.value (← Instr.index t vx vy)) : Sem Next) := by simp only [execOp, ho, r.val hx, r.val hy]
  rcases bif_true hI with ⟨h1, hI⟩ | ⟨_, hI⟩
  · obtain ⟨_, i, hi, hsz⟩ := oneCell_spec h1
    have his : (P.info? el).isSome = true := by rw [hi]; rfl
    replace hI := hI.out
    split at hI
    · rename_i cs k m
      obtain ⟨⟨h0, h2⟩, hI⟩ := hI
      split at hI
      · rename_i v hc
        exact OpP_intro (fun w => ex_v hex (by simp only [Instr.index, asIntOf, Sem.run_bind, Sem.run_pure, Result.andThen_ok, run_underlying hu, h0, h2, and_self, if_true, run_sizeOf_cellsOf his, run_part1 h1 hc])) hI
      · exact hI.elim
    · exact hI.elim
  · exact hI.elim
theorem IdxS_sound (r : Rep n ds e a) {t : TypeId} {x y : Operand} (ho : o.op = .index t x y) {vx vy : Value} (hx : e.val x = some vx) (hy : e.val y = some vy) (hu : P.underlying t = some .string)
    (hI : IdxS vx vy K h) : OpP P a.eval o K h := by
  have hex : execOp a.eval o = (do pure (Next.value (← Instr.index t vx vy)) : Sem Next) := by simp only [execOp, ho, r.val hx, r.val hy]
  replace hI := hI.out
  split at hI
  · rename_i s k m
    obtain ⟨h0, hI⟩ := hI
    split at hI
    · rename_i b hb
      exact OpP_intro (fun w => ex_v hex (by simp only [Instr.index, asIntOf, Sem.run_bind, Sem.run_pure, Result.andThen_ok, run_underlying hu, h0, if_true, hb])) hI
    · exact hI.elim
  · exact hI.elim
theorem Un_sound (r : Rep n ds e a) {op : UnOp} {t : TypeId} {x : Operand} (ho : o.op = .unOp op t x) {v : Value} (hx : e.val x = some v) (hU : Un op v K h) : OpP P a.eval o K h := by
  have hex : execOp a.eval o = (do pure (Next.value (← Op.unary op v)) : Sem Next) := by simp only [execOp, ho, r.val hx]
  replace hU := hU.out
  split at hU
  · exact OpP_intro (fun w => ex_v hex (by simp [Op.unary])) hU
  · exact OpP_intro (fun w => ex_v hex (by simp [Op.unary, Op.intArith])) hU
  · exact OpP_intro (fun w => ex_v hex (by simp [Op.unary, Op.intBits, bits])) hU
  · exact hU.elim
theorem Cvt_sound (r : Rep n ds e a) {src dst : TypeId} {j k : IntKind} {x : Operand} (ho : o.op = .convert src dst x) {v : Value} (hx : e.val x = some v) (hs : P.underlying src = some (.int j)) (hd : P.underlying dst = some (.int k))
    (hC : Cvt k v K h) : OpP P a.eval o K h := by
  have hex : execOp a.eval o = (do pure (Next.value (← convert src dst v)) : Sem Next) := by simp only [execOp, ho, r.val hx]
  replace hC := hC.out
  split at hC
  · exact OpP_intro (fun w => ex_v hex (run_cv hs hd _ _ w)) hC
  · exact hC.elim
theorem Ext_sound (r : Rep n ds e a) {i : Nat} {x : Operand} (ho : o.op = .extract x i) {v : Value} (hx : e.val x = some v) (hE : Ext i v K h) : OpP P a.eval o K h := by
  have hex : execOp a.eval o = (do pure (Next.value (← Instr.extract v i)) : Sem Next) := by simp only [execOp, ho, r.val hx]
  replace hE := hE.out
  split at hE
  · rename_i vs
    split at hE
    · rename_i u hu
      exact OpP_intro (fun w => ex_v hex (by simp [Instr.extract, hu])) hE
    · exact hE.elim
  · exact hE.elim
end
end Go.Pt
