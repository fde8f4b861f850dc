/- A function of the translation does what its text in primitives says. No condition. -/
import Derived.Test.YtfagifhgjndoaaaPtI
namespace Go.Pt
set_option linter.unusedVariables false
set_option linter.unusedSimpArgs false

/-! ### Code -/
inductive Ex where
  | norm
  | exit (id : Nat)
  | ret
def Ex.toExit : Ex → Exit
  | .norm => .normal
  | .exit id => .exit id
  | .ret => .ret
/-- What the walk of a code is told: which slots live on, where ways meet and at a loop's head. -/
inductive Ann where
  | leaf
  | seq (join : Option (List Nat)) (a b : Ann)
  | cond (a b : Ann)
  | block (a : Ann)
  | loop (live : List Nat) (a : Ann)
@[reducible] def Cur : Nat → Type
  | 0 => Heap → Prop
  | n + 1 => Value → Cur n
def curry : (n : Nat) → (List Value → Heap → Prop) → Cur n
  | 0, k => k []
  | n + 1, k => fun v => curry n (fun vs => k (v :: vs))
def app : (n : Nat) → Cur n → List Value → Heap → Prop
  | 0, c, _ => c
  | _ + 1, _, [] => fun _ => False
  | n + 1, c, v :: vs => app n (c v) vs
theorem app_curry : ∀ (n : Nat) (k : List Value → Heap → Prop) (vs : List Value), vs.length = n → app n (curry n k) vs = k vs
  | 0, k, vs, h => by cases vs with | nil => rfl | cons v vs => cases h
  | n + 1, k, [], h => by cases h
  | n + 1, k, v :: vs, h => by
    simp only [curry, app]
    exact app_curry n _ vs (by simpa using h)
structure Join (n : Nat) (X : Cur n → Prop) (J : Cur n) : Prop where
  out : (X J)
structure Lp (n : Nat) (body : Cur n → Cur n) (vs : List Value) (h : Heap) : Prop where
  out : ∀ X : Cur n, (∀ vs h, vs.length = n → app n (body X) vs h → app n X vs h) → app n X vs h
structure If (c : Value) (A B : Prop) : Prop where
  out : (
  match c with
  | .bool true => A
  | .bool false => B
  | _ => False)
def Env.gets (e : Env) : List Nat → Option (List Value)
  | [] => some []
  | t :: ts => match e.get t, e.gets ts with
    | some v, some vs => some (v :: vs)
    | _, _ => none
def envOf : List Nat → List Value → Env
  | t :: ts, v :: vs => (envOf ts vs).cons t v
  | _, _ => Env.nil
def leave (n : Nat) (J : Cur n) (live : List Nat) (e : Env) (h : Heap) : Prop :=
  match e.gets live with
  | some vs => app n J vs h
  | none => False
section
variable (P : Program) (qs : List FuncId) (n : Nat)
def codePt : Code → Ann → (Ex → EK) → Env → Heap → Prop
  | .skip, _, Q, e, h => Q .norm e h
  | .region _ ops false, _, Q, e, h => opsPt P qs n ops ops.toList e (Q .norm) h
  | .region _ ops true, _, Q, e, h => bif noSel ops then regPt P qs n ops (masks ops.toList []) (fun i => kindOf qs (ops.getD i default)) ops.size (Array.replicate ops.size false) e (Q .norm) h else False
  | .seq x y, .seq none a b, Q, e, h => codePt x a (fun ex => match ex with
      | .norm => codePt y b Q
      | ex => Q ex) e h
  | .seq x y, .seq (some live) a b, Q, e, h =>
    Join live.length (fun J => codePt x a (fun ex => match ex with
      | .norm => leave live.length J live
      | ex => Q ex) e h) (curry live.length fun vs h => codePt y b Q (envOf live vs) h)
  | .cond c x y, .cond a b, Q, e, h => get1 e c fun v => If v (codePt x a Q e h) (codePt y b Q e h)
  | .block id x, .block a, Q, e, h => codePt x a (fun ex => match ex with
      | .exit id' => bif Nat.beq id' id then Q .norm else Q (.exit id')
      | ex => Q ex) e h
  | .loop x, .loop live a, Q, e, h =>
    match e.gets live with
    | some vs => Lp live.length (fun X => curry live.length fun vs h => codePt x a (fun ex => match ex with
      | .norm => leave live.length X live
      | ex => Q ex) (envOf live vs) h) vs h
    | none => False
  | .exit id, _, Q, e, h => Q (.exit id) e h
  | .ret, _, Q, e, h => Q .ret e h
  | _, _, _, _, _ => False
end
section
variable {P : Program} {qs : List FuncId} {n : Nat} {ds : List Deferred}
theorem gets_length : ∀ {ts : List Nat} {e : Env} {vs : List Value}, e.gets ts = some vs → vs.length = ts.length
  | [], e, vs, h => by simp [Env.gets] at h; subst h; rfl
  | t :: ts, e, vs, h => by
    simp only [Env.gets] at h
    cases h1 : e.get t with
    | none => simp [h1] at h
    | some v =>
      cases h2 : e.gets ts with
      | none => simp [h1, h2] at h
      | some us =>
        simp [h1, h2] at h
        subst h
        simp [gets_length h2]
theorem gets_rep {a : Act} : ∀ {ts : List Nat} {e : Env} {vs : List Value}, Rep n ds e a → e.gets ts = some vs → Rep n ds (envOf ts vs) a
  | [], e, vs, r, h => ⟨r.size, r.defers, fun t v ht => by simp [envOf, Env.get, Env.nil] at ht⟩
  | t :: ts, e, vs, r, h => by
    simp only [Env.gets] at h
    cases h1 : e.get t with
    | none => simp [h1] at h
    | some v =>
      cases h2 : e.gets ts with
      | none => simp [h1, h2] at h
      | some us =>
        simp [h1, h2] at h
        subst h
        have ih := gets_rep r h2
        refine ⟨r.size, r.defers, fun t' v' ht => ?_⟩
        simp only [envOf, Env.get, Env.cons] at ht
        cases hb : Nat.beq t t' with
        | true =>
          rw [hb] at ht
          simp at ht
          subst ht
          have : t = t' := Nat.eq_of_beq_eq_true hb
          subst this
          exact r.get _ _ h1
        | false =>
          rw [hb] at ht
          exact ih.get _ _ (by simpa [Env.get] using ht)
theorem leave_spec {m : Nat} {J : Cur m} {live : List Nat} {e : Env} {h : Heap} (hl : leave m J live e h) : ∃ vs, e.gets live = some vs ∧ app m J vs h := by
  unfold leave at hl
  cases hg : e.gets live with
  | none => rw [hg] at hl; exact hl.elim
  | some vs => rw [hg] at hl; exact ⟨vs, rfl, hl⟩
/-- Inside a loop, ahead of a round. -/
def InLoop (P : Program) (c : Code) (Q : Exit → Act → World → Prop) (a : Act) (w : World) : Prop :=
  ∀ (b : Frame) (k : List Item) (cs : List Frame), ∃ e a' w', Q e a' w' ∧ Arrives P (lone (b.at a (.code c :: .inLoop c :: k)) cs w) b k cs e a' w'
theorem inLoop_of {c : Code} {Q : Exit → Act → World → Prop} {a : Act} {w : World} (hc : c.wp P (Exit.then (InLoop P c Q) Q) a w) : InLoop P c Q a w := by
  intro b k cs
  obtain ⟨e, a₁, w₁, hq, harr⟩ := hc b (.inLoop c :: k) cs
  cases e with
  | normal =>
    obtain ⟨e₂, a₂, w₂, hq₂, harr₂⟩ := hq b k cs
    exact ⟨e₂, a₂, w₂, hq₂, .of_steps (Steps.trans harr (.one step_inLoop)) harr₂⟩
  | exit id => exact ⟨_, a₁, w₁, hq, .pass (x := .inLoop c) rfl (fun _ _ => .inl (by simp)) harr⟩
  | goto l => exact ⟨_, a₁, w₁, hq, .pass (x := .inLoop c) rfl (fun _ _ => .inl (by simp)) harr⟩
  | ret => exact ⟨_, a₁, w₁, hq, .pass (x := .inLoop c) rfl (fun _ _ => .inl (by simp)) harr⟩
  | panic ch => exact ⟨_, a₁, w₁, hq, .pass (x := .inLoop c) rfl (fun _ _ => .inl (by simp)) harr⟩
  | outgrown => exact ⟨_, a₁, w₁, hq, .pass (x := .inLoop c) rfl (fun _ _ => .inl (by simp)) harr⟩
theorem wp_of_inLoop {c : Code} {Q : Exit → Act → World → Prop} {a : Act} {w : World} (hl : InLoop P c Q a w) : (Code.loop c).wp P Q a w := by
  intro b k cs
  obtain ⟨e, a', w', hq, harr⟩ := hl b k cs
  exact ⟨e, a', w', hq, .of_steps (.one step_loop) harr⟩

theorem code_sound (hm : P.follows .mixedOrders = true) : ∀ (c : Code) (ann : Ann) (Q : Ex → EK) (e : Env) (a : Act) (w : World) (Qw : Exit → Act → World → Prop),
    codePt P qs n c ann Q e w.heap → Rep n ds e a → (∀ ex e' a' w', Same w w' → Rep n ds e' a' → Q ex e' w'.heap → Qw ex.toExit a' w') → c.wp P Qw a w := by
  intro c
  induction c with
  | skip => intro ann Q e a w Qw hp r hQ; simp only [codePt] at hp; exact wp_skip (hQ .norm e a w (Same.refl w) r hp)
  | region id ops draw =>
    intro ann Q e a w Qw hp r hQ
    cases draw with
    | false => simp only [codePt] at hp; exact region_text r hp fun e' a' w' hs r' hk => hQ .norm e' a' w' hs r' hk
    | true =>
      simp only [codePt] at hp
      rcases bif_true hp with ⟨hns, hp1⟩ | ⟨_, hp1⟩
      · exact region_draw hm hns r hp1 fun e' a' w' hs r' hk => hQ .norm e' a' w' hs r' hk
      · exact hp1.elim
  | seq x y ihx ihy =>
    intro ann Q e a w Qw hp r hQ
    cases ann with
    | seq j ax ay =>
      cases j with
      | none =>
        simp only [codePt] at hp
        refine wp_seq (ihx ax _ e a w _ hp r ?_)
        intro ex e' a' w' hs r' hk
        cases ex with
        | norm => exact ihy ay Q e' a' w' Qw hk r' fun ex2 e2 a2 w2 hs2 r2 hk2 => hQ ex2 e2 a2 w2 (hs.trans hs2) r2 hk2
        | exit id => exact hQ (.exit id) e' a' w' hs r' hk
        | ret => exact hQ .ret e' a' w' hs r' hk
      | some live =>
        simp only [codePt] at hp
        replace hp := hp.out
        refine wp_seq (ihx ax _ e a w _ hp r ?_)
        intro ex e' a' w' hs r' hk
        cases ex with
        | norm =>
          obtain ⟨vs, hg, hA⟩ := leave_spec hk
          rw [app_curry _ _ _ (gets_length hg)] at hA
          exact ihy ay Q _ a' w' Qw hA (gets_rep r' hg) fun ex2 e2 a2 w2 hs2 r2 hk2 => hQ ex2 e2 a2 w2 (hs.trans hs2) r2 hk2
        | exit id => exact hQ (.exit id) e' a' w' hs r' hk
        | ret => exact hQ .ret e' a' w' hs r' hk
    | _ => simp only [codePt] at hp
  | cond cv x y ihx ihy =>
    intro ann Q e a w Qw hp r hQ
    cases ann with
    | cond ax ay =>
      simp only [codePt] at hp
      obtain ⟨v, hv, hI⟩ := get1_spec hp
      replace hI := hI.out
      split at hI
      · exact wp_cond_true (r.val hv) (ihx ax Q e a w Qw hI r hQ)
      · exact wp_cond_false (r.val hv) (ihy ay Q e a w Qw hI r hQ)
      · exact hI.elim
    | _ => simp only [codePt] at hp
  | block id x ihx =>
    intro ann Q e a w Qw hp r hQ
    cases ann with
    | block ax =>
      simp only [codePt] at hp
      refine wp_block (ihx ax _ e a w _ hp r ?_)
      intro ex e' a' w' hs r' hk
      cases ex with
      | norm => exact hQ .norm e' a' w' hs r' hk
      | exit id' =>
        simp only at hk
        simp only [Ex.toExit, Exit.inBlock]
        by_cases hid : id' = id
        · subst hid
          have hb : Nat.beq id' id' = true := Nat.beq_refl id'
          rw [hb] at hk
          rw [if_pos rfl]
          exact hQ .norm e' a' w' hs r' hk
        · have hb : Nat.beq id' id = false := by
            cases hq : Nat.beq id' id with
            | false => rfl
            | true => exact absurd (Nat.eq_of_beq_eq_true hq) hid
          rw [hb] at hk
          rw [if_neg hid]
          exact hQ (.exit id') e' a' w' hs r' hk
      | ret => exact hQ .ret e' a' w' hs r' hk
    | _ => simp only [codePt] at hp
  | loop x ihx =>
    intro ann Q e a w Qw hp r hQ
    cases ann with
    | loop live ax =>
      simp only [codePt] at hp
      obtain ⟨vs0, hg, hA⟩ : ∃ vs0, e.gets live = some vs0 ∧ _ := by
        cases hg : e.gets live with
        | none => rw [hg] at hp; exact hp.elim
        | some vs0 => rw [hg] at hp; exact ⟨vs0, rfl, hp⟩
      have hX := hA.out (curry live.length fun vs h => ∀ a1 w1, w1.heap = h → Same w w1 → Rep n ds (envOf live vs) a1 → InLoop P x Qw a1 w1) ?_
      · rw [app_curry _ _ _ (gets_length hg)] at hX
        exact wp_of_inLoop (hX a w rfl (Same.refl w) (gets_rep r hg))
      · intro vs h hlen hb
        rw [app_curry _ _ _ hlen] at hb ⊢
        intro a1 w1 hw1 hs1 r1
        subst hw1
        refine inLoop_of (ihx ax _ _ a1 w1 _ hb r1 ?_)
        intro ex e' a' w' hs r' hk
        cases ex with
        | norm =>
          obtain ⟨vs', hg', hA'⟩ := leave_spec hk
          rw [app_curry _ _ _ (gets_length hg')] at hA'
          exact hA' a' w' rfl (hs1.trans hs) (gets_rep r' hg')
        | exit id => exact hQ (.exit id) e' a' w' (hs1.trans hs) r' hk
        | ret => exact hQ .ret e' a' w' (hs1.trans hs) r' hk
    | _ => simp only [codePt] at hp
  | exit id => intro ann Q e a w Qw hp r hQ; simp only [codePt] at hp; exact wp_exit (hQ (.exit id) e a w (Same.refl w) r hp)
  | ret => intro ann Q e a w Qw hp r hQ; simp only [codePt] at hp; exact wp_ret (hQ .ret e a w (Same.refl w) r hp)
  | _ => intro ann Q e a w Qw hp r hQ; simp only [codePt] at hp
end

/-! ### Functions -/
def tmpsOf : List ResultVar → Option (List Nat)
  | [] => some []
  | .tmp t :: r => match tmpsOf r with
    | some ts => some (t :: ts)
    | none => none
  | _ => none
def retPt (rs : List Nat) (K : Ret) (e : Env) (h : Heap) : Prop :=
  match e.gets rs with
  | some [v] => K v h
  | some vs => K (.tuple vs.toArray) h
  | none => False
def fnPt (P : Program) (qs : List FuncId) (fn : Func) (ann : Ann) (args : List Value) (K : Ret) (h : Heap) : Prop :=
  match fn.body, tmpsOf fn.results.toList with
  | some c, some rs => bif Nat.ble args.length fn.ntmps then codePt P qs fn.ntmps c ann (fun ex => match ex with
    | .norm => retPt rs K
    | .ret => retPt rs K
    | .exit _ => fun _ _ => False) (envOf (List.range args.length) args) h else False
  | _, _ => False
section
variable {P : Program} {qs : List FuncId}
theorem results_run {n : Nat} {ds : List Deferred} {a : Act} {e : Env} (r : Rep n ds e a) (F : ResultVar → Sem Value) (hF : ∀ t, F (.tmp t) = pure (a.tmps.getD t undef)) : ∀ {rvs : List ResultVar} {rs : List Nat} {vs : List Value}, tmpsOf rvs = some rs → e.gets rs = some vs → ∀ w,
    (rvs.mapM F : Sem (List Value)).run P w = .ok vs w
  | [], rs, vs, h1, h2, w => by
    simp only [tmpsOf, Option.some.injEq] at h1
    subst h1
    simp only [Env.gets, Option.some.injEq] at h2
    subst h2
    simp
  | .cell c t :: rvs, rs, vs, h1, h2, w => by simp [tmpsOf] at h1
  | .tmp t :: rvs, rs, vs, h1, h2, w => by
    simp only [tmpsOf] at h1
    cases h3 : tmpsOf rvs with
    | none => rw [h3] at h1; cases h1
    | some ts =>
      rw [h3] at h1
      cases h1
      simp only [Env.gets] at h2
      cases h4 : e.get t with
      | none => simp [h4] at h2
      | some v =>
        cases h5 : e.gets ts with
        | none => simp [h4, h5] at h2
        | some us =>
          simp [h4, h5] at h2
          subst h2
          have ih := results_run r F hF h3 h5 w
          have hv := r.get t v h4
          rw [List.mapM_cons]
          simp only [hF, Sem.run_bind, Sem.run_pure, Result.andThen_ok, hv, ih]
theorem fn_sound {f : FuncId} {fn : Func} {ann : Ann} {args : List Value} {K : Ret} {h : Heap} (hm : P.follows .mixedOrders = true) (hf : P.funcs[f]? = some fn) (hp : fnPt P qs fn ann args K h) : CallH P f args.toArray K h := by
  unfold fnPt at hp
  split at hp
  · rename_i c rs hb hr
    rcases bif_true hp with ⟨hle, hp1⟩ | ⟨_, hp1⟩
    · clear hp
      have hle' : args.length ≤ fn.ntmps := Nat.le_of_ble_eq_true hle
      intro w hw
      subst hw
      refine calls_of_wp hf hb (code_sound (n := fn.ntmps) (ds := []) hm c ann _ _ _ w _ hp1 ?_ ?_)
      · refine ⟨by simp; omega, rfl, fun t v ht => ?_⟩
        have key : ∀ (i : Nat) (as : List Value) (t : Nat) (v : Value), (envOf ((List.range as.length).map (i + ·)) as).get t = some v → i ≤ t ∧ as[t - i]? = some v := by
          intro i as
          induction as generalizing i with
          | nil => intro t v h1; simp [envOf, Env.get, Env.nil] at h1
          | cons x as ih =>
            intro t v h1
            have hrange : (List.range (x :: as).length).map (i + ·) = i :: (List.range as.length).map ((i + 1) + ·) := by
              rw [List.length_cons, List.range_succ_eq_map, List.map_cons, List.map_map]
              simp only [Nat.add_zero, List.cons.injEq, true_and]
              apply List.map_congr_left
              intro y _
              simp only [Function.comp]
              omega
            rw [hrange] at h1
            simp only [envOf, Env.get, Env.cons] at h1
            cases hq : Nat.beq i t with
            | true =>
              rw [hq] at h1
              have : i = t := Nat.eq_of_beq_eq_true hq
              subst this
              simp at h1
              simp [h1]
            | false =>
              rw [hq] at h1
              obtain ⟨h2, h3⟩ := ih (i + 1) t v (by simpa [Env.get] using h1)
              refine ⟨by omega, ?_⟩
              have : t - i = (t - (i + 1)) + 1 := by omega
              rw [this]; simpa using h3
        obtain ⟨_, h2⟩ := key 0 args t v (by simpa using ht)
        simp only [Nat.sub_zero] at h2
        have hlt : t < args.length := by
          rcases Nat.lt_or_ge t args.length with hx | hx
          · exact hx
          · rw [List.getElem?_eq_none hx] at h2; cases h2
        simp only [Array.getD_eq_getD_getElem?]
        rw [Array.getElem?_append_left (by simpa using hlt)]
        simp [h2]
      · have fin : ∀ (e' : Env) (a' : Act) (w' : World), Same w w' → Rep fn.ntmps [] e' a' → retPt rs K e' w'.heap → a'.defers = [] ∧ ∃ v, (results fn a'.tmps).run P w' = .ok v w' ∧ ∃ v', Ending.returned v = .returned v' ∧ Same w w' ∧ K v' w'.heap := by
          intro e' a' w' hs r' hk
          refine ⟨r'.defers, ?_⟩
          unfold retPt at hk
          cases hg : e'.gets rs with
          | none => rw [hg] at hk; exact hk.elim
          | some vs =>
            rw [hg] at hk
            have hmr : (results fn a'.tmps).run P w' = .ok (if hh : vs.toArray.size = 1 then vs.toArray[0] else .tuple vs.toArray) w' := by
              unfold results
              rw [Array.mapM_eq_mapM_toList]
              simp only [map_eq_pure_bind, Sem.run_bind]
              rw [results_run (P := P) r' _ (fun t => rfl) hr hg w']
              simp only [Result.andThen_ok, Sem.run_pure]
            refine ⟨_, hmr, _, rfl, hs, ?_⟩
            cases vs with
            | nil => simpa using hk
            | cons v rest =>
              cases rest with
              | nil => simpa using hk
              | cons v2 rest =>
                have : ¬ (v :: v2 :: rest).toArray.size = 1 := by simp
                rw [dif_neg this]; exact hk
        intro ex e' a' w' hs r' hk
        cases ex with
        | norm => exact fin e' a' w' hs r' hk
        | ret => exact fin e' a' w' hs r' hk
        | exit id => exact hk.elim
    · exact hp1.elim
  · exact hp.elim
end
end Go.Pt
