/- Each primitive says what the operation of the translation does (sixth part). No condition. -/
import Derived.Test.YthekbpaekopmfaaPtG
namespace Go.Pt
set_option linter.unusedVariables false
set_option linter.unusedSimpArgs false
section
variable {P : Program} {n : Nat} {ds : List Deferred} {e : Env} {a : Act} {o : Oper} {K : Ret} {h : Heap} {qs : List FuncId}
theorem OpW_v {ρ : Operand → Value} {s : Sem Value} (he : execOp ρ o = (do pure (Next.value (← s)) : Sem Next)) (hr : ∀ w : World, w.heap = h → ∃ v w', s.run P w = .ok v w' ∧ Same w w' ∧ K v w'.heap) : OpW P ρ o K h :=
  OpW_value fun w hw => let ⟨v, w', h1, h2, h3⟩ := hr w hw; ⟨v, w', ex_v he h1, h2, h3⟩
theorem OpA_v {ρ : Operand → Value} {s : Sem Value} (he : execOp ρ o = (do pure (Next.value (← s)) : Sem Next)) (hr : ∀ w : World, w.heap = h → ∃ v w', s.run P w = .ok v w' ∧ Same w w' ∧ Grows w.heap w'.heap ∧ K v w'.heap) : OpA P ρ o K h :=
  OpW_value fun w hw => let ⟨v, w', h1, h2, h3, h4⟩ := hr w hw; ⟨v, w', ex_v he h1, h2, by rw [← hw]; exact h3, h4⟩
theorem map2 {xs : Array Operand} {vs : List Value} {f : Operand → Value} (hm : xs.toList.map f = vs) : xs.map f = vs.toArray := by
  exact Array.ext' (by simp [← hm])
theorem parts2 {f : Operand → Value} {ps : Array (Nat × Operand)} {vs : List (Nat × Value)} (hm : ps.toList.map (fun (i, x) => (i, f x)) = vs) : (ps.map fun (i, x) => (i, f x)) = vs.toArray := by
  exact Array.ext' (by simp [← hm])
theorem callY_sound {P : Program} {o : Oper} {a : Act} {c : Call} {x : Operand} {l : Nat} {args : List Value} {K : Ret} {h : Heap} (hop : o.op = .call c) (hcl : c.callee = .value x) (hv : a.eval x = .func (.yield l) #[] #[])
    (hm : c.args.map a.eval = args.toArray) (hp : YieldH P l args K h) : OpW P a.eval o K h := by
  intro w hw
  subst hw
  unfold YieldH at hp
  split at hp
  · rename_i rec hr
    have hy := run_yield (P := P) (args := args.toArray) hr (by simpa using hp.1)
    have hrun : (execOp a.eval o).run P w = .ok (.round l rec.fn ((rec.params.zip args.toArray).foldl (fun tmps (t, a) => tmps.setIfInBounds t a) rec.tmps) rec.assign rec.body) w := by
      simp only [execOp, hop, resolve, hcl, hv, hm, Deferred.ofValue, Sem.run_bind, Sem.run_pure, Result.andThen_ok, invoke, Array.empty_append, hy]
    rw [hrun]
    exact ⟨Same.refl w, hp.2⟩
  · exact hp.elim
theorem opPt_sound (r : Rep n ds e a) (hp : opPt P qs e o K h) : OpK (kindOf qs o) P a.eval o K h := by
  unfold opPt at hp
  cases hop : o.op with
  | move x =>
    simp only [hop] at hp
    obtain ⟨v, hx, hK⟩ := get1_spec hp
    simp only [kindOf, hop, OpK]
    exact OpP_intro (fun w => by simp only [execOp, hop, r.val hx, Sem.run_pure]) hK
  | assign x =>
    simp only [hop] at hp
    obtain ⟨v, hx, hK⟩ := get1_spec hp
    simp only [kindOf, hop, OpK]
    exact OpP_intro (fun w => by simp only [execOp, hop, r.val hx, Sem.run_pure]) hK
  | pick c x y =>
    simp only [hop] at hp
    obtain ⟨vc, hc, hp⟩ := get1_spec hp
    obtain ⟨vx, hx, hp⟩ := get1_spec hp
    obtain ⟨vy, hy, hp⟩ := get1_spec hp
    simp only [kindOf, hop, OpK]
    exact Pick_sound r hop hc hx hy hp
  | alloc t =>
    simp only [hop] at hp
    simp only [kindOf, hop, OpK]
    split at hp
    · rename_i z hz
      refine OpA_v (by simp only [execOp, hop]) fun w hw => ⟨_, _, run_alloc hz w, ⟨rfl, rfl, rfl, Keeps.push _ _⟩, Grows.push _ _, ?_⟩
      subst hw; exact hp.out
    · exact hp.elim
  | box t x =>
    simp only [hop] at hp
    simp only [kindOf, hop, OpK]
    obtain ⟨v, hx, hp⟩ := get1_spec hp
    refine OpA_v (by simp only [execOp, hop, r.val hx]) fun w hw => ⟨_, _, run_box t v w, ⟨rfl, rfl, rfl, Keeps.push _ _⟩, Grows.push _ _, ?_⟩
    subst hw; exact hp.out
  | build t parts =>
    simp only [hop] at hp
    simp only [kindOf, hop, OpK]
    split at hp
    · rename_i ps hps
      have hm := parts2 (partsOf_spec r hps)
      have hex : execOp a.eval o = (do pure (Next.value (← Instr.build t ps.toArray)) : Sem Next) := by simp only [execOp, hop, hm]
      split at hp
      · rename_i fields z hu hz
        split at hp
        · rename_i places hpl
          replace hp := hp.out
          split at hp
          · rename_i cs hf
            exact OpP_intro (fun w => ex_v hex (run_bld hu hz hpl (by simpa using hf) w)) hp
          · exact hp.elim
        · exact hp.elim
      · rename_i len el z hu hz
        rcases bif_true hp with ⟨his, hp1⟩ | ⟨_, hp1⟩
        · clear hp
          replace hp1 := hp1.out
          split at hp1
          · rename_i cs hf
            exact OpP_intro (fun w => ex_v hex (run_bldA hu hz his (by simpa using hf) w)) hp1
          · exact hp1.elim
        · exact hp1.elim
      · exact hp.elim
    · exact hp.elim
  | buildSlice t len parts =>
    simp only [hop] at hp
    simp only [kindOf, hop, OpK]
    split at hp
    · rename_i ps hps
      have hm := parts2 (partsOf_spec r hps)
      have hex : execOp a.eval o = (do pure (Next.value (← Instr.buildSlice t len ps.toArray)) : Sem Next) := by simp only [execOp, hop, hm]
      split at hp
      · rename_i el hu
        split at hp
        · rename_i z hz
          rcases bif_true hp with ⟨hc, hp1⟩ | ⟨_, hp1⟩
          · clear hp
            simp only [Bool.and_eq_true] at hc
            replace hp1 := hp1.out
            split at hp1
            · rename_i cs hf
              refine OpA_v hex fun w hw => ⟨_, _, run_blds hu hz (Nat.le_of_ble_eq_true hc.1) (by simpa using hc.2) (by simpa using hf) w, ⟨rfl, rfl, rfl, Keeps.push _ _⟩, Grows.push _ _, ?_⟩
              subst hw; exact hp1
            · exact hp1.elim
          · rcases bif_true hp1 with ⟨hc, hp2⟩ | ⟨_, hp2⟩
            · simp only [Bool.and_eq_true] at hc
              have h0 := Nat.eq_of_beq_eq_true hc.1
              subst h0
              have hps0 : ps = [] := by simpa using hc.2
              subst hps0
              obtain ⟨i, hi, _⟩ := zeroOf_spec hz
              refine OpA_v hex fun w hw => ⟨.slice (some ⟨w.heap.size, 0, none⟩) 0 0, { w with heap := w.heap.push (.cells #[] el) }, ?_, ⟨rfl, rfl, rfl, Keeps.push _ _⟩, Grows.push _ _, ?_⟩
              · simp [Instr.buildSlice, Sem.run_bind, run_underlying hu, Result.andThen_ok, run_size hi, Instr.fill, run_newRow, show (Array.range 0).map (fun _ => (default : Value)) = #[] from Array.ext' (by simp)]
                try rfl
              · subst hw; exact hp2.out
            · exact hp2.elim
        · exact hp.elim
      · exact hp.elim
    · exact hp.elim
  | load t x =>
    simp only [hop] at hp
    obtain ⟨p, hx, hp⟩ := get1_spec hp
    simp only [kindOf, hop, OpK]
    exact Ld_sound r hop hx hp
  | store t x y =>
    simp only [hop] at hp
    obtain ⟨p, hx, hp⟩ := get1_spec hp
    obtain ⟨v, hy, hp⟩ := get1_spec hp
    simp only [kindOf, hop, OpK]
    exact St_sound r hop hx hy hp
  | nilCheck x =>
    simp only [hop] at hp
    obtain ⟨p, hx, hp⟩ := get1_spec hp
    simp only [kindOf, hop, OpK]
    exact NilC_sound r hop hx hp
  | binOp op t x y t' =>
    simp only [hop] at hp
    obtain ⟨vx, hx, hp⟩ := get1_spec hp
    obtain ⟨vy, hy, hp⟩ := get1_spec hp
    simp only [kindOf, hop, OpK]
    exact Bin_sound r hop hx hy hp
  | unOp op t x =>
    simp only [hop] at hp
    obtain ⟨v, hx, hp⟩ := get1_spec hp
    simp only [kindOf, hop, OpK]
    exact Un_sound r hop hx hp
  | convert src dst x =>
    simp only [hop] at hp
    obtain ⟨v, hx, hp⟩ := get1_spec hp
    simp only [kindOf, hop, OpK]
    split at hp
    · rename_i j k hs hd
      exact Cvt_sound r hop hx hs hd hp
    · exact hp.elim
  | extract x i =>
    simp only [hop] at hp
    obtain ⟨v, hx, hp⟩ := get1_spec hp
    simp only [kindOf, hop, OpK]
    exact Ext_sound r hop hx hp
  | fieldAddr s x f =>
    simp only [hop] at hp
    obtain ⟨p, hx, hp⟩ := get1_spec hp
    simp only [kindOf, hop, OpK]
    split at hp
    · rename_i off t hf
      exact Fld_sound r hop hx hf hp
    · exact hp.elim
  | field s x f =>
    simp only [hop] at hp
    obtain ⟨p, hx, hp⟩ := get1_spec hp
    simp only [kindOf, hop, OpK]
    split at hp
    · rename_i off t hf
      exact FldV_sound r hop hx hf hp
    · exact hp.elim
  | indexAddr t x y =>
    simp only [hop] at hp
    obtain ⟨vx, hx, hp⟩ := get1_spec hp
    obtain ⟨vy, hy, hp⟩ := get1_spec hp
    simp only [kindOf, hop, OpK]
    split at hp
    · rename_i el hu
      exact Idx_sound r hop hx hy hu hp
    · rename_i len el hu
      exact IdxA_sound r hop hx hy hu hp
    · exact hp.elim
  | index t x y =>
    simp only [hop] at hp
    obtain ⟨vx, hx, hp⟩ := get1_spec hp
    obtain ⟨vy, hy, hp⟩ := get1_spec hp
    simp only [kindOf, hop, OpK]
    split at hp
    · rename_i len el hu
      exact IdxV_sound r hop hx hy hu hp
    · rename_i hu
      exact IdxS_sound r hop hx hy hu hp
    · exact hp.elim
  | makeSlice t l c =>
    simp only [hop] at hp
    obtain ⟨vl, hl, hp⟩ := get1_spec hp
    obtain ⟨vc, hc, hp⟩ := get1_spec hp
    simp only [kindOf, hop, OpK]
    split at hp
    · rename_i el hu
      split at hp
      · rename_i z hz
        replace hp := hp.out
        have hex : execOp a.eval o = (do pure (Next.value (← Instr.makeSlice t vl vc)) : Sem Next) := by simp only [execOp, hop, r.val hl, r.val hc]
        split at hp
        · obtain ⟨⟨h0, h1, h2, h3⟩, hp⟩ := hp
          refine OpA_v hex fun w hw => ⟨_, _, run_mk hu hz h0 h1 h2 h3 w, ⟨rfl, rfl, rfl, Keeps.push _ _⟩, Grows.push _ _, ?_⟩
          subst hw; exact hp
        · exact hp.elim
      · exact hp.elim
    · exact hp.elim
  | slice t x lo hi mx =>
    simp only [hop] at hp
    obtain ⟨vx, hx, hp⟩ := get1_spec hp
    simp only [kindOf, hop, OpK]
    split at hp
    · rename_i vlo vhi vmx hlo hhi hmx
      have hex : execOp a.eval o = (do pure (Next.value (← Instr.sliceAt t vx vlo vhi vmx)) : Sem Next) := by simp only [execOp, hop, r.val hx, getO_spec r hlo, getO_spec r hhi, getO_spec r hmx]
      split at hp
      · rename_i el hu
        rcases bif_true hp with ⟨his, hp1⟩ | ⟨_, hp1⟩
        · clear hp
          replace hp1 := hp1.out
          split at hp1
          · rename_i ad len cap
            split at hp1
            · rename_i l h' m hb
              exact OpP_intro (fun w => ex_v hex (run_slc hu his hb w)) hp1
            · exact hp1.elim
          · exact hp1.elim
        · exact hp1.elim
      · exact hp.elim
    · exact hp.elim
  | makeFunc fn first captured =>
    simp only [hop] at hp
    simp only [kindOf, hop, OpK]
    split at hp
    · rename_i f c hf hc
      have hex : execOp a.eval o = (do pure (Next.value (← Instr.makeFunc fn f.toArray c.toArray)) : Sem Next) := by simp only [execOp, hop, map2 (getL_spec r hf), map2 (getL_spec r hc)]
      exact OpP_intro (fun w => ex_v hex (by simp [Instr.makeFunc])) hp
    · exact hp.elim
  | makeMap t rv =>
    cases rv with
    | some rv => simp only [hop] at hp
    | none =>
      simp only [hop] at hp
      simp only [kindOf, hop, OpK]
      refine OpA_v (by simp only [execOp, hop]; rfl) fun w hw => ⟨_, _, run_mkm t w, ⟨rfl, rfl, rfl, Keeps.push _ _⟩, Grows.push _ _, ?_⟩
      subst hw; exact hp.out
  | range t x =>
    simp only [hop] at hp
    obtain ⟨vx, hx, hp⟩ := get1_spec hp
    simp only [kindOf, hop, OpK]
    split at hp
    · rename_i kt el hu
      exact OpW_v (by simp only [execOp, hop, r.val hx]) fun w hw => run_rngm hu hp w hw
    · exact hp.elim
  | next x b =>
    cases b with
    | true => simp only [hop] at hp
    | false =>
      simp only [hop] at hp
      obtain ⟨vx, hx, hp⟩ := get1_spec hp
      simp only [kindOf, hop, OpK]
      exact OpW_v (by simp only [execOp, hop, r.val hx]; rfl) fun w hw => run_nxtm hp w hw
  | entry x =>
    simp only [hop] at hp
    obtain ⟨vx, hx, hp⟩ := get1_spec hp
    simp only [kindOf, hop, OpK]
    exact OpW_v (by simp only [execOp, hop, r.val hx]) fun w hw => run_entm hp w hw
  | lookup t x y ok =>
    simp only [hop] at hp
    obtain ⟨vx, hx, hp⟩ := get1_spec hp
    obtain ⟨vy, hy, hp⟩ := get1_spec hp
    simp only [kindOf, hop, OpK]
    split at hp
    · rename_i kt el hu
      split at hp
      · rename_i j z hk hz
        obtain ⟨v, hK, hr⟩ := run_lk hu hk hz hp
        exact OpR_intro (fun w hw => ex_v (by simp only [execOp, hop, r.val hx, r.val hy]) (hr w hw)) hK
      · exact hp.elim
    · exact hp.elim
  | mapUpdate t x y z =>
    simp only [hop] at hp
    obtain ⟨vx, hx, hp⟩ := get1_spec hp
    obtain ⟨vy, hy, hp⟩ := get1_spec hp
    obtain ⟨vz, hz, hp⟩ := get1_spec hp
    simp only [kindOf, hop, OpK]
    split at hp
    · rename_i kt el hu
      split at hp
      · rename_i j hk
        refine OpW_skip fun w hw => ?_
        obtain ⟨h', hK, hr, hkp⟩ := run_mupd hu hk hp w hw
        exact ⟨{ w with heap := h' }, by simp only [execOp, hop, r.val hx, r.val hy, r.val hz]; exact run_u hr, ⟨rfl, rfl, rfl, hkp⟩, hK⟩
      · exact hp.elim
    · exact hp.elim
  | call c =>
    simp only [hop] at hp
    split at hp
    · exact hp.elim
    · rename_i args hargs
      have hm : c.args.map a.eval = args.toArray := map2 (getL_spec r hargs)
      cases hcl : c.callee with
      | invoke x m => simp only [hcl] at hp
      | value x =>
        cases x with
        | func f =>
          simp only [hcl] at hp
          rcases bif_true hp with ⟨hb, hp1⟩ | ⟨_, hp1⟩
          · clear hp
            have hrun : ∀ w, (execOp a.eval o).run P w = .ok (.enter f args.toArray) w := fun w => by
              have := run_callV (P := P) (ρ := a.eval) hop hcl (f := f) (first := #[]) (captured := #[]) rfl hb w
              simpa [hm] using this
            cases hq : qs.elem f with
            | true =>
              simp only [hq, cond_true] at hp1
              simp only [kindOf, hop, hcl, hq, cond_true, OpK]
              obtain ⟨v, hc, hK⟩ := hp1.out
              refine ⟨v, fun w hw => ?_, hK⟩
              rw [hrun w]
              exact ⟨Same.refl w, by rw [hw]; exact hc⟩
            | false =>
              simp only [hq, cond_false] at hp1
              cases hq2 : qs.elem (f + 1000000) with
              | true =>
                simp only [hq2, cond_true] at hp1
                simp only [kindOf, hop, hcl, hq, hq2, cond_false, cond_true, OpK]
                intro w hw
                rw [hrun w]
                exact ⟨Same.refl w, by rw [hw]; exact hp1.out⟩
              | false =>
                simp only [hq2, cond_false] at hp1
                simp only [kindOf, hop, hcl, hq, hq2, cond_false, OpK]
                intro w hw
                rw [hrun w]
                exact ⟨Same.refl w, by rw [hw]; exact hp1.out⟩
          · exact hp1.elim
        | tmp t =>
          simp only [hcl] at hp
          obtain ⟨fv, hfv, hp⟩ := get1_spec hp
          simp only [kindOf, hop, hcl, OpK]
          replace hp := hp.out
          split at hp
          · rename_i f first captured
            intro w hw
            have := run_callV (P := P) (ρ := a.eval) hop hcl (f := f) (first := first) (captured := captured) (r.val hfv) hp.1 w
            rw [this, hm]
            exact ⟨Same.refl w, by rw [hw]; exact hp.2⟩
          · rename_i l first captured
            obtain ⟨rfl, rfl, hp⟩ := hp
            exact callY_sound hop hcl (r.val hfv) hm hp
          · exact hp.elim
        | const v =>
          simp only [hcl] at hp
          obtain ⟨fv, hfv, hp⟩ := get1_spec hp
          simp only [kindOf, hop, hcl, OpK]
          replace hp := hp.out
          split at hp
          · rename_i f first captured
            intro w hw
            have := run_callV (P := P) (ρ := a.eval) hop hcl (f := f) (first := first) (captured := captured) (r.val hfv) hp.1 w
            rw [this, hm]
            exact ⟨Same.refl w, by rw [hw]; exact hp.2⟩
          · rename_i l first captured
            obtain ⟨rfl, rfl, hp⟩ := hp
            exact callY_sound hop hcl (r.val hfv) hm hp
          · exact hp.elim
        | global g =>
          simp only [hcl] at hp
          obtain ⟨fv, hfv, hp⟩ := get1_spec hp
          simp only [Env.val, Option.some.injEq] at hfv
          subst hfv
          exact hp.out.elim
      | builtin b =>
        simp only [hcl] at hp
        obtain ⟨cs0, hres⟩ : ∃ cs0, ∀ w, (execOp a.eval o).run P w = (builtin b c.argTypes o.type cs0 args.toArray).run P w := ⟨_, fun w => by
          simp only [execOp, hop, resolve, hcl, hm, Sem.run_bind, Sem.run_pure, Result.andThen_ok, invoke]; rfl⟩
        split at hp
        · rename_i x
          simp only [kindOf, hop, hcl, OpK]
          have hl : ∀ (v : Value) (w w' : World), (Builtin.len_ c.argTypes o.type #[x]).run P w = .ok v w' → (execOp a.eval o).run P w = .ok (.value v) w' := fun v w w' hr => by
            rw [hres w]; exact run_v hr
          split at hp
          · rename_i el hu
            cases h0 : c.argTypes[0]? with
            | none => rw [h0] at hu; cases hu
            | some t =>
              rw [h0] at hu
              replace hp := hp.out
              split at hp
              · exact OpS_intro (fun w x => hl _ _ _ (run_len_s h0 hu _ _ _ w)) hp
              · exact hp.elim
          · rename_i kt el hu
            cases h0 : c.argTypes[0]? with
            | none => rw [h0] at hu; cases hu
            | some t =>
              rw [h0] at hu
              replace hp := hp.out
              split at hp
              · exact OpS_intro (fun w x => hl _ _ _ (run_len_m0 h0 hu w)) hp
              · split at hp
                · rename_i r' es c' hr
                  exact OpS_intro (fun w x => hl _ _ _ (run_len_m h0 hu (x.get hr))) hp
                · exact hp.elim
              · exact hp.elim
          · rename_i hu
            cases h0 : c.argTypes[0]? with
            | none => rw [h0] at hu; cases hu
            | some t =>
              rw [h0] at hu
              replace hp := hp.out
              split at hp
              · exact OpS_intro (fun w x => hl _ _ _ (run_len_str h0 hu _ w)) hp
              · exact hp.elim
          · exact hp.elim
        · simp only [kindOf, hop, hcl, OpK]
          replace hp := hp.out
          split at hp
          · rename_i k x rest
            split at hp
            · rename_i v hv
              exact OpP_intro (fun w => by rw [hres w]; exact run_v (by simp only [Builtin.max_, List.toList_toArray]; exact run_max (ats := #[]) (ty := 0) w rest x v hv)) hp
            · exact hp.elim
          · exact hp.elim
        · simp only [kindOf, hop, hcl, OpK]
          replace hp := hp.out
          split at hp
          · rename_i k x rest
            split at hp
            · rename_i v hv
              exact OpP_intro (fun w => by rw [hres w]; exact run_v (by simp only [Builtin.min_, List.toList_toArray]; exact run_min (ats := #[]) (ty := 0) w rest x v hv)) hp
            · exact hp.elim
          · exact hp.elim
        · rename_i s x
          simp only [kindOf, hop, hcl, OpK]
          split at hp
          · rename_i el el1 hu hu1
            cases h0 : c.argTypes[0]? with
            | none => rw [h0] at hu; cases hu
            | some t =>
              cases h1 : c.argTypes[1]? with
              | none => rw [h1] at hu1; cases hu1
              | some t1 =>
                rw [h0] at hu
                rw [h1] at hu1
                split at hp
                · rename_i z hz
                  rcases bif_true hp with ⟨_, hp1⟩ | ⟨hb, hp1⟩
                  · exact hp1.elim
                  · clear hp
                    have hsx : (∃ base sl sc, s = .slice base sl sc) ∧ ∃ xb nn xc, x = .slice xb nn xc := by
                      replace hp1 := hp1.out
                      split at hp1
                      · exact ⟨⟨_, _, _, rfl⟩, ⟨_, _, _, rfl⟩⟩
                      · exact hp1.elim
                    obtain ⟨⟨base, sl, sc, rfl⟩, ⟨xb, nn, xc, rfl⟩⟩ := hsx
                    refine OpW_value fun w hw => ?_
                    obtain ⟨v, w', hr, hs, hK⟩ := run_app (ty := o.type) h0 h1 hu hu1 hz (beq0 hb) hp1 w hw
                    exact ⟨v, w', by rw [hres w]; exact run_v hr, hs, hK⟩
                · exact hp.elim
          · exact hp.elim
        · rename_i x
          simp only [kindOf, hop, hcl, OpK]
          split at hp
          · rename_i el hu
            cases h0 : c.argTypes[0]? with
            | none => rw [h0] at hu; cases hu
            | some t =>
              rw [h0] at hu
              split at hp
              · rename_i z hz
                refine OpW_value fun w hw => ?_
                obtain ⟨h', hK, hr, hkp⟩ := run_clr (ty := o.type) h0 hu hz hp w hw
                exact ⟨.tuple #[], { w with heap := h' }, by rw [hres w]; exact run_v hr, ⟨rfl, rfl, rfl, hkp⟩, hK⟩
              · exact hp.elim
          · exact hp.elim
        · rename_i x i
          simp only [kindOf, hop, hcl, OpK]
          split at hp
          · rename_i kt el hu
            cases h0 : c.argTypes[0]? with
            | none => rw [h0] at hu; cases hu
            | some t =>
              rw [h0] at hu
              split at hp
              · rename_i j hk
                refine OpW_value fun w hw => ?_
                obtain ⟨h', hK, hr, hkp⟩ := run_mdel (ty := o.type) h0 hu hk hp w hw
                exact ⟨.tuple #[], { w with heap := h' }, by rw [hres w]; exact run_v hr, ⟨rfl, rfl, rfl, hkp⟩, hK⟩
              · exact hp.elim
          · exact hp.elim
        · exact hp.elim
  | _ => simp only [hop] at hp
end
end Go.Pt
