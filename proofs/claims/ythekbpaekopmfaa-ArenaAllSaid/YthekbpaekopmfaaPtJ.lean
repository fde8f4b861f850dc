/- A function of the translation does what its text in primitives says. No condition. -/
import Derived.Test.YthekbpaekopmfaaPtI
namespace Go.Pt
set_option linter.unusedVariables false
set_option linter.unusedSimpArgs false

/-! ### Code -/
inductive Ex where
  | norm
  | exit (id : Nat)
  | ret
def Ex.toExit : Ex → Exit
  | .norm => .normal
  | .exit id => .exit id
  | .ret => .ret
/-- What the walk of a code is told: which slots live on, where ways meet and at a loop's head. -/
inductive Ann where
  | leaf
  | seq (join : Option (List Nat)) (a b : Ann)
  | cond (a b : Ann)
  | block (a : Ann)
  | loop (live : List Nat) (a : Ann)
  | range (a b : Ann)
abbrev Cur : Nat → Type
  | 0 => Heap → Prop
  | n + 1 => Value → Cur n
def curry : (n : Nat) → (List Value → Heap → Prop) → Cur n
  | 0, k => k []
  | n + 1, k => fun v => curry n (fun vs => k (v :: vs))
def app : (n : Nat) → Cur n → List Value → Heap → Prop
  | 0, c, _ => c
  | _ + 1, _, [] => fun _ => False
  | n + 1, c, v :: vs => app n (c v) vs
theorem app_curry : ∀ (n : Nat) (k : List Value → Heap → Prop) (vs : List Value), vs.length = n → app n (curry n k) vs = k vs
  | 0, k, vs, h => by cases vs with | nil => rfl | cons v vs => cases h
  | n + 1, k, [], h => by cases h
  | n + 1, k, v :: vs, h => by
    simp only [curry, app]
    exact app_curry n _ vs (by simpa using h)
structure Join (n : Nat) (X : Cur n → Prop) (J : Cur n) : Prop where
  out : (X J)
structure Lp (n : Nat) (body : Cur n → Cur n) (vs : List Value) (h : Heap) : Prop where
  out : ∀ X : Cur n, (∀ vs h, vs.length = n → app n (body X) vs h → app n X vs h) → app n X vs h
structure If (c : Value) (A B : Prop) : Prop where
  out : (
  match c with
  | .bool true => A
  | .bool false => B
  | _ => False)
def Env.gets (e : Env) : List Nat → Option (List Value)
  | [] => some []
  | t :: ts => match e.get t, e.gets ts with
    | some v, some vs => some (v :: vs)
    | _, _ => none
def envOf : List Nat → List Value → Env
  | t :: ts, v :: vs => (envOf ts vs).cons t v
  | _, _ => Env.nil
def leave (n : Nat) (J : Cur n) (live : List Nat) (e : Env) (h : Heap) : Prop :=
  match e.gets live with
  | some vs => app n J vs h
  | none => False
/-- Nothing but the loop's own record has changed. -/
structure One (l : Nat) (h h' : Heap) : Prop where
  size : h'.size = h.size
  keep : ∀ c, c ≠ l → h'[c]? = h[c]?
  loop : ∃ r, h[l]? = some (.loop r)
/-- A loop over a function's values: the round as a text, B ahead of its body, N and L at its ends. -/
structure RngF (P : Program) (gv : Value) (np : Nat) (round : ((Heap → Prop) → Heap → Prop) → (Heap → Prop) → (Ex → Heap → Prop) → Cur np) (after : Heap → Prop) (left : Ex → Heap → Prop) (h : Heap) : Prop where
  out : (
  match gv with
  | .func (.func gf) first captured => hasBody P gf = true ∧
    ∀ (y : Value) (l : Nat) (h1 : Heap) (Rdy : Heap → Prop) (Dn : Ex → Heap → Prop), h.size ≤ l → l < h1.size → (∀ c, c < h.size → h1[c]? = h[c]?) → Rdy h1 →
      (∀ h h', Rdy h → h'[l]? = h[l]? → Rdy h') → (∀ ex h h', Dn ex h → h'[l]? = h[l]? → Dn ex h') →
      (∀ (vs : List Value) (K : Ret) (h2 : Heap), vs.length = np → Rdy h2 →
        app np (round (fun X h => Rdy h ∧ ∀ h', One l h h' → X h') (fun h => ∀ h', One l h h' → Rdy h' → K (.bool true) h') (fun ex h => ∀ h', One l h h' → Dn ex h' → K (.bool false) h')) vs h2 → CallV P y vs K h2) →
      CallH P gf (first ++ #[y] ++ captured) (fun _ h6 => (Rdy h6 ∧ ∀ h7, One l h6 h7 → after h7) ∨ (∃ ex, Dn ex h6 ∧ ∀ h7, One l h6 h7 → left ex h7)) h1
  | _ => False)
def bindE (e : Env) : List Nat → List Value → Env
  | t :: ts, v :: vs => bindE (e.cons t v) ts vs
  | _, _ => e
section
variable (P : Program) (qs : List FuncId) (n : Nat)
def codePt : Bool → Code → Ann → (Ex → EK) → Env → Heap → Prop
  | _, .skip, _, Q, e, h => Q .norm e h
  | _, .region _ ops false, _, Q, e, h => opsPt P qs n ops ops.toList e (Q .norm) h
  | _, .region _ ops true, _, Q, e, h => bif noSel ops then regPt P qs n ops (masks ops.toList []) (fun i => kindOf qs (ops.getD i default)) ops.size (Array.replicate ops.size false) e (Q .norm) h else False
  | m, .seq x y, .seq none a b, Q, e, h => codePt m x a (fun ex => match ex with
      | .norm => codePt m y b Q
      | ex => Q ex) e h
  | m, .seq x y, .seq (some live) a b, Q, e, h =>
    Join live.length (fun J => codePt m x a (fun ex => match ex with
      | .norm => leave live.length J live
      | ex => Q ex) e h) (curry live.length fun vs h => codePt m y b Q (envOf live vs) h)
  | m, .cond c x y, .cond a b, Q, e, h => get1 e c fun v => If v (codePt m x a Q e h) (codePt m y b Q e h)
  | m, .block id x, .block a, Q, e, h => codePt m x a (fun ex => match ex with
      | .exit id' => fun e h => bif Nat.beq id' id then Q .norm e h else Q (.exit id') e h
      | ex => Q ex) e h
  | m, .loop x, .loop live a, Q, e, h =>
    match e.gets live with
    | some vs => Lp live.length (fun X => curry live.length fun vs h => codePt m x a (fun ex => match ex with
      | .norm => leave live.length X live
      | ex => Q ex) (envOf live vs) h) vs h
    | none => False
  | m, .rangeFunc g ps x y, .range a b, Q, e, h => bif m && ps.toList.all (fun t => Nat.blt t n) then
      get1 e g fun gv => RngF P gv ps.toList.length (fun B N L => curry ps.toList.length fun vs h => codePt false x a (fun ex => match ex with
        | .norm => fun e h => B (fun h => codePt false y b (fun ex => match ex with
          | .norm => fun _ h => N h
          | ex => fun _ h => L ex h) e h) h
        | _ => fun _ _ => False) (bindE e ps.toList vs) h) (fun h => Q .norm e h) (fun ex h => match ex with
        | .norm => False
        | .exit id => Q (.exit id) e h
        | .ret => Q .ret e h) h else False
  | m, .scope x, .block a, Q, e, h => codePt m x a Q e h
  | _, .label _, _, Q, e, h => Q .norm e h
  | _, .exit id, _, Q, e, h => Q (.exit id) e h
  | _, .ret, _, Q, e, h => Q .ret e h
  | _, _, _, _, _, _ => False
end
section
variable {P : Program} {qs : List FuncId} {n : Nat} {ds : List Deferred}
theorem gets_length : ∀ {ts : List Nat} {e : Env} {vs : List Value}, e.gets ts = some vs → vs.length = ts.length
  | [], e, vs, h => by simp [Env.gets] at h; subst h; rfl
  | t :: ts, e, vs, h => by
    simp only [Env.gets] at h
    cases h1 : e.get t with
    | none => simp [h1] at h
    | some v =>
      cases h2 : e.gets ts with
      | none => simp [h1, h2] at h
      | some us =>
        simp [h1, h2] at h
        subst h
        simp [gets_length h2]
theorem gets_rep {a : Act} : ∀ {ts : List Nat} {e : Env} {vs : List Value}, Rep n ds e a → e.gets ts = some vs → Rep n ds (envOf ts vs) a
  | [], e, vs, r, h => ⟨r.size, r.defers, fun t v ht => by simp [envOf, Env.get, Env.nil] at ht⟩
  | t :: ts, e, vs, r, h => by
    simp only [Env.gets] at h
    cases h1 : e.get t with
    | none => simp [h1] at h
    | some v =>
      cases h2 : e.gets ts with
      | none => simp [h1, h2] at h
      | some us =>
        simp [h1, h2] at h
        subst h
        have ih := gets_rep r h2
        refine ⟨r.size, r.defers, fun t' v' ht => ?_⟩
        simp only [envOf, Env.get, Env.cons] at ht
        cases hb : Nat.beq t t' with
        | true =>
          rw [hb] at ht
          simp at ht
          subst ht
          have : t = t' := Nat.eq_of_beq_eq_true hb
          subst this
          exact r.get _ _ h1
        | false =>
          rw [hb] at ht
          exact ih.get _ _ (by simpa [Env.get] using ht)
theorem leave_spec {m : Nat} {J : Cur m} {live : List Nat} {e : Env} {h : Heap} (hl : leave m J live e h) : ∃ vs, e.gets live = some vs ∧ app m J vs h := by
  unfold leave at hl
  cases hg : e.gets live with
  | none => rw [hg] at hl; exact hl.elim
  | some vs => rw [hg] at hl; exact ⟨vs, rfl, hl⟩
/-- Inside a loop, ahead of a round. -/
def InLoop (P : Program) (F : Fence) (m : Nat) (c : Code) (Q : Exit → Act → World → Prop) (a : Act) (w : World) : Prop :=
  ∀ (b : Frame) (k : List Item) (cs : List Frame), b.roundOf = F.round → F.fn b.fn → F.room (cs.length + 1 + m) → ∃ e a' w', Q e a' w' ∧ ArrivesIn (Machine.fenced P F) P (lone (b.atR a (.code c :: .inLoop c :: k)) cs w) b k cs e a' w'
theorem inLoop_of {F : Fence} {m : Nat} {c : Code} {Q : Exit → Act → World → Prop} {a : Act} {w : World} (hc : c.wpIn F m P (Exit.then (InLoop P F m c Q) Q) a w) : InLoop P F m c Q a w := by
  intro b k cs hro hb hr
  obtain ⟨e, a₁, w₁, hq, harr⟩ := hc b (.inLoop c :: k) cs hro hb hr
  cases e with
  | normal =>
    obtain ⟨e₂, a₂, w₂, hq₂, harr₂⟩ := hq b k cs hro hb hr
    exact ⟨e₂, a₂, w₂, hq₂, .of_steps (StepsIn.trans harr (.one (fenced_calm hb hr rfl) stepR_inLoop)) harr₂⟩
  | exit id => exact ⟨_, a₁, w₁, hq, .pass (x := .inLoop c) rfl (fun _ _ => .inl (by simp)) harr⟩
  | goto l => exact ⟨_, a₁, w₁, hq, .pass (x := .inLoop c) rfl (fun _ _ => .inl (by simp)) harr⟩
  | ret => exact ⟨_, a₁, w₁, hq, .pass (x := .inLoop c) rfl (fun _ _ => .inl (by simp)) harr⟩
  | panic ch => exact ⟨_, a₁, w₁, hq, .pass (x := .inLoop c) rfl (fun _ _ => .inl (by simp)) harr⟩
  | outgrown => exact ⟨_, a₁, w₁, hq, .pass (x := .inLoop c) rfl (fun _ _ => .inl (by simp)) harr⟩
theorem wp_of_inLoop {F : Fence} {m : Nat} {c : Code} {Q : Exit → Act → World → Prop} {a : Act} {w : World} (hl : InLoop P F m c Q a w) : (Code.loop c).wpIn F m P Q a w := by
  intro b k cs hro hb hr
  obtain ⟨e, a', w', hq, harr⟩ := hl b k cs hro hb hr
  exact ⟨e, a', w', hq, .of_steps (.one (fenced_calm hb hr rfl) stepR_loop) harr⟩
theorem stepR_scope {b : Frame} {a : Act} {k : List Item} {cs : List Frame} {w : World} {c : Code} : step P (lone (b.atR a (.code (.scope c) :: k)) cs w) = .next (lone (b.atR a (.code c :: .inScope c :: k)) cs w) :=
  step_lone_go (by simp [stepG, stepG.exec, Frame.atR])
theorem stepR_inScope {b : Frame} {a : Act} {k : List Item} {cs : List Frame} {w : World} {c : Code} : step P (lone (b.atR a (.inScope c :: k)) cs w) = .next (lone (b.atR a k) cs w) :=
  step_lone_go (by simp [stepG, stepG.exec, Frame.atR])
theorem wpIn_scope {F : Fence} {m : Nat} {c : Code} {Q : Exit → Act → World → Prop} {a : Act} {w : World} (h : c.wpIn F m P (fun e a w => (∀ l, e ≠ .goto l) ∧ Q e a w) a w) : (Code.scope c).wpIn F m P Q a w := by
  intro b k cs hro hb hr
  have h0 : (lone (b.atR a (.code (.scope c) :: k)) cs w).fenced P F := fenced_calm hb hr rfl
  obtain ⟨e, a₁, w₁, ⟨hg, hq⟩, harr⟩ := h b (.inScope c :: k) cs hro hb hr
  cases e with
  | normal => exact ⟨.normal, a₁, w₁, hq, .head h0 stepR_scope (StepsIn.trans harr (.one (fenced_calm hb hr rfl) stepR_inScope))⟩
  | exit id =>
    have hx : exitTo id (.inScope c :: k) = exitTo id k := by simp [exitTo]
    exact ⟨_, a₁, w₁, hq, fun k' hk => .head h0 stepR_scope (harr.1 k' (by rw [hx]; exact hk)),
      fun hr' hk => let ⟨k₁, h1, h2⟩ := harr.2 hr' (by rw [hx]; exact hk); ⟨k₁, h1, .head h0 stepR_scope h2⟩⟩
  | goto l => exact absurd rfl (hg l)
  | ret => exact ⟨_, a₁, w₁, hq, .of_steps (.one h0 stepR_scope) harr⟩
  | panic ch => exact ⟨_, a₁, w₁, hq, .of_steps (.one h0 stepR_scope) harr⟩
  | outgrown => exact ⟨_, a₁, w₁, hq, .of_steps (.one h0 stepR_scope) harr⟩

/-! ### Marks: the blocks of deferred calls that loops over functions lay -/
def markOf (D : Nat) : Deferred := { target := .collected D, args := #[] }
def Mks (b : Bool) (N : Nat) (ds : List Deferred) (h : Heap) : Prop :=
  (b = false → ds = []) ∧ ∃ Ds : List Nat, ds = Ds.map markOf ∧ Ds.Nodup ∧ ∀ D ∈ Ds, N ≤ D ∧ h[D]? = some (.deferred (some []))
theorem Mks.keeps {b : Bool} {N : Nat} {ds : List Deferred} {h h' : Heap} (hm : Mks b N ds h) (k : Keeps h h') : Mks b N ds h' :=
  let ⟨h0, Ds, h1, h2, h3⟩ := hm; ⟨h0, Ds, h1, h2, fun D hD => ⟨(h3 D hD).1, k.keep _ _ (h3 D hD).2 rfl⟩⟩
theorem Mks.nil (b : Bool) (N : Nat) (h : Heap) : Mks b N [] h := ⟨fun _ => rfl, [], rfl, List.nodup_nil, fun D hD => by cases hD⟩
def codeOf : Ex → Option Code
  | .norm => none
  | .ret => some .ret
  | .exit id => some (.exit id)
theorem bindE_rep {a : Act} : ∀ {ts : List Nat} {vs : List Value} {e : Env} {tm : Array Value} {ds : List Deferred}, ts.all (fun t => Nat.blt t n) = true → Rep n ds e { tmps := tm, defers := ds } → 
    Rep n ds (bindE e ts vs) { tmps := (ts.zip vs).foldl (fun t (p, v) => t.setIfInBounds p v) tm, defers := ds }
  | [], vs, e, tm, ds, _, r => by cases vs <;> exact r
  | t :: ts, [], e, tm, ds, _, r => r
  | t :: ts, v :: vs, e, tm, ds, hb, r => by
    simp only [List.all_cons, Bool.and_eq_true] at hb
    have := r.put (d := t) (v := v) hb.1
    simp only [bindE, List.zip_cons_cons, List.foldl_cons]
    exact bindE_rep (a := a) hb.2 (by simpa [Act.put] using this)
theorem One.of_put {w : World} {l : Nat} {r r' : Loop} (hl : w.heap[l]? = some (.loop r)) : One l w.heap (w.putObj l (.loop r')).heap :=
  ⟨by simp, fun c hc => World.putObj_heap_other hc, r, hl⟩
theorem Same.put {w : World} {l : Nat} {r r' : Loop} (hl : w.heap[l]? = some (.loop r)) (hr : r.state ≠ .busy) : Same w (w.putObj l (.loop r')) :=
  ⟨rfl, rfl, rfl, Keeps.at (r := l) (by simp) hl (by simpa [fixedB] using hr) fun c hc => World.putObj_heap_other hc⟩
theorem get_lt {h : Heap} {c : Nat} {o : Obj} (e : h[c]? = some o) : c < h.size := by
  rcases Nat.lt_or_ge c h.size with hx | hx
  · exact hx
  · rw [Array.getElem?_eq_none hx] at e; cases e
/-- What a code of its own kind of world is left in. -/
def Sound (P : Program) (qs : List FuncId) (n : Nat) (c : Code) : Prop :=
  ∀ (m : Bool) (ann : Ann) (Q : Ex → EK) (e : Env) (a : Act) (w : World) (Qw : Exit → Act → World → Prop) (b : Bool) (N : Nat) (ds : List Deferred) (ro : Option Nat) (k : Nat),
    (m = true → b = true ∧ ro = none) → codePt P qs n m c ann Q e w.heap → Rep n ds e a → Mks b N ds w.heap → N ≤ w.heap.size →
    (∀ ex ds' e' a' w', Same w w' → Rep n ds' e' a' → Mks b N ds' w'.heap → Q ex e' w'.heap → Qw ex.toExit a' w') → c.wpIn (TF ro) k P Qw a w
theorem range_sound {g : Operand} {ps : Array Nat} {x y : Code} (ihx : Sound P qs n x) (ihy : Sound P qs n y) : Sound P qs n (.rangeFunc g ps x y) := by
  intro m ann Q e a w Qw b N ds ro k hro hp r hm hN hQ
  cases ann with
  | range ax ay =>
    simp only [codePt] at hp
    rcases bif_true hp with ⟨hc, hp1⟩ | ⟨_, hp1⟩
    · clear hp
      rw [Bool.and_eq_true] at hc
      obtain ⟨rfl, hps⟩ := hc
      obtain ⟨rfl, rfl⟩ := hro rfl
      obtain ⟨gv, hg, hR⟩ := get1_spec hp1
      have hgv := r.val hg
      replace hR := hR.out
      split at hR
      · rename_i gf first captured
        obtain ⟨hbody, hR⟩ := hR
        refine wpIn_rangeFunc ?_
        intro fn hfn
        obtain ⟨rec, hrec⟩ : ∃ rec : LoopState → Option Code → Loop, rec = fun st pe => { state := st, pending := pe, fn, tmps := a.tmps, params := ps, assign := x, body := y, defers := w.heap.size } := ⟨_, rfl⟩
        obtain ⟨W1, hW1⟩ : ∃ W1, (w.alloc (.deferred (some []))).alloc (.loop (rec .ready none)) = W1 := ⟨_, rfl⟩
        have hh1 : W1.heap = (w.heap.push (.deferred (some []))).push (.loop (rec .ready none)) := by rw [← hW1]; rfl
        have hL1 : W1.heap[w.heap.size + 1]? = some (.loop (rec .ready none)) := by
          rw [← hW1]; have := World.alloc_heap_new (w.alloc (.deferred (some []))) (.loop (rec .ready none)); rwa [World.size_alloc] at this
        have hK1 : W1.heap[w.heap.size]? = some (.deferred (some [])) := by rw [hh1, Array.getElem?_push_lt (by simp)]; simp
        have hS1 : Same w W1 := ⟨by rw [← hW1]; rfl, by rw [← hW1]; rfl, by rw [← hW1]; rfl, by rw [hh1]; exact (Keeps.push _ _).trans (Keeps.push _ _)⟩
        have hkeep : ∀ c, c < w.heap.size → W1.heap[c]? = w.heap[c]? := fun c hc => by
          rw [hh1, Array.getElem?_push_lt (by simp; omega), Array.getElem_push_lt hc]; simp [hc]
        have hy := hR (.func (.yield (w.heap.size + 1)) #[] #[]) (w.heap.size + 1) W1.heap (fun h => h[w.heap.size + 1]? = some (.loop (rec .ready none)))
          (fun ex h => ex ≠ .norm ∧ h[w.heap.size + 1]? = some (.loop (rec .done (codeOf ex)))) (by omega) (get_lt hL1) hkeep hL1 (fun h h' h1 h2 => by rw [h2]; exact h1) (fun ex h h' h1 h2 => ⟨h1.1, by rw [h2]; exact h1.2⟩) ?_
        · refine ⟨w.heap.size + 1, [markOf w.heap.size], W1, { target := .fn (.func gf) captured, args := first ++ #[.func (.yield (w.heap.size + 1)) #[] #[]] }, W1, gf,
            first ++ #[.func (.yield (w.heap.size + 1)) #[] #[]] ++ captured, W1, ?_, ?_, fun _ _ => trivial, ?_, fun e => (by cases e), ?_⟩
          · rw [← hW1, hrec]; exact run_enterLoop_outer _ _ _ _ _
          · simp only [resolve, hgv, Deferred.ofValue, List.map_toArray, List.map_cons, List.map_nil, Sem.run_pure]; rfl
          · simp only [invoke, run_callFunc hbody]
          · refine (hy.inTF none _).mono ?_
            rintro e' w2 ⟨v, rfl, hs2, hfin⟩
            have hD2 : w2.heap[w.heap.size]? = some (.deferred (some [])) := hs2.keeps.keep _ _ hK1 rfl
            have mk : ∀ (r' : Loop), Mks true N (markOf w.heap.size :: ds) (w2.putObj (w.heap.size + 1) (.loop r')).heap := fun r' => by
              obtain ⟨_, Ds, h1, h2, h3⟩ := hm
              refine ⟨fun e => (by cases e), w.heap.size :: Ds, by rw [h1]; rfl, ?_, ?_⟩
              · rw [List.nodup_cons]
                refine ⟨fun hmem => ?_, h2⟩
                exact absurd (get_lt (h3 _ hmem).2) (Nat.lt_irrefl _)
              · intro D hD
                rcases List.mem_cons.1 hD with rfl | hD
                · exact ⟨hN, by rw [World.putObj_heap_other (by omega)]; exact hD2⟩
                · obtain ⟨h4, h5⟩ := h3 D hD
                  have := get_lt h5
                  exact ⟨h4, by rw [World.putObj_heap_other (by omega)]; exact hs2.keeps.keep _ _ (hS1.keeps.keep _ _ h5 rfl) rfl⟩
            have rep : Rep n (markOf w.heap.size :: ds) e { a with defers := [markOf w.heap.size] ++ a.defers } := ⟨r.size, by simp [r.defers], r.get⟩
            rcases hfin with ⟨hl, haft⟩ | ⟨ex, ⟨hne, hl⟩, hleft⟩
            · refine ⟨none, _, by have := run_endLoop (P := P) hl (by rw [hrec]; simp); rw [hrec] at this; exact this, ?_⟩
              exact hQ .norm _ e _ _ ((hS1.trans hs2).trans (Same.put hl (by rw [hrec]; simp))) rep (mk _) (haft _ (One.of_put hl))
            · refine ⟨codeOf ex, _, by have := run_endLoop (P := P) hl (by rw [hrec]; simp); rw [hrec] at this; exact this, ?_⟩
              have fin := hQ ex _ e _ (w2.putObj (w.heap.size + 1) (.loop { rec .done (codeOf ex) with state := .exhausted })) ((hS1.trans hs2).trans (Same.put hl (by rw [hrec]; simp))) rep (mk _)
              have hlf := hleft _ (One.of_put (r' := { rec .done (codeOf ex) with state := .exhausted }) hl)
              rw [hrec] at fin hlf
              cases ex with
              | norm => exact absurd rfl hne
              | ret => exact wpIn_ret (fin hlf)
              | exit id => exact wpIn_exit (fin hlf)
        · intro vs K h2 hlen hrdy htext
          refine ⟨rfl, rfl, ?_⟩
          have hrdy' : h2[w.heap.size + 1]? = some (.loop (rec .ready none)) := hrdy
          unfold YieldH
          simp only [hrdy']
          have hpar : (rec .ready none).params = ps := by rw [hrec]
          refine ⟨by rw [hpar, hlen]; simp, ?_⟩
          intro W hW
          subst hW
          rw [app_curry _ _ _ hlen] at htext
          have hrep : Rep n [] (bindE e ps.toList vs) { tmps := (ps.zip vs.toArray).foldl (fun tmps (t, a) => tmps.setIfInBounds t a) a.tmps, defers := [] } := by
            have h0 : Rep n [] e { tmps := a.tmps, defers := [] } := ⟨r.size, rfl, r.get⟩
            have := bindE_rep (a := a) (vs := vs) hps h0
            rw [← Array.foldl_toList, Array.toList_zip]
            exact this
          have hlt : w.heap.size + 1 < W.heap.size := get_lt hrdy'
          have hfields : (rec .ready none).fn = fn ∧ (rec .ready none).tmps = a.tmps ∧ (rec .ready none).assign = x ∧ (rec .ready none).body = y := by rw [hrec]; exact ⟨rfl, rfl, rfl, rfl⟩
          rw [hpar, hfields.1, hfields.2.1, hfields.2.2.1, hfields.2.2.2]
          refine roundIn_of_wpIn (F := Fence.wide) (n := 0) trivial ?_
          refine ihx false ax _ _ _ W _ true 0 [] (some (w.heap.size + 1)) 0 (fun e => by cases e) htext hrep (Mks.nil _ _ _) (Nat.zero_le _) ?_
          intro ex ds1 e1 a1 w1 hs1 r1 _ hq1
          cases ex with
          | exit id => exact hq1.elim
          | ret => exact hq1.elim
          | norm =>
            obtain ⟨hrd1, hB⟩ := hq1
            have hbr := run_beginRound (P := P) hrd1 (by rw [hrec])
            refine ⟨_, hbr, ?_⟩
            have hone := One.of_put (r' := { rec .ready none with state := .busy }) hrd1
            have hlt1 : w.heap.size + 1 < w1.heap.size := get_lt hrd1
            have hbusy : (w1.putObj (w.heap.size + 1) (.loop { rec .ready none with state := .busy })).heap[w.heap.size + 1]? = some (.loop { rec .ready none with state := .busy }) := World.putObj_heap_same hlt1
            have hsb := Same.put (r' := { rec .ready none with state := .busy }) hrd1 (by rw [hrec]; simp)
            refine ihy false ay _ e1 a1 _ _ true 0 ds1 (some (w.heap.size + 1)) 0 (fun e => by cases e) (hB _ hone) r1 (by rename_i hmk; exact hmk.keeps hsb.keeps) (Nat.zero_le _) ?_
            intro ex ds2 e2 a2 w2 hs2 r2 _ hq2
            have hb2 : w2.heap[w.heap.size + 1]? = some (.loop { rec .ready none with state := .busy }) := hs2.keeps.keep _ _ hbusy rfl
            have hsame : ∀ jump, Same W (w2.putObj (w.heap.size + 1) (.loop (rec (if jump.isNone then .ready else .done) jump))) := fun jump => by
              have t := (hs1.trans hsb).trans hs2
              refine ⟨t.os, t.tape, t.output, by have := t.keeps.size; simpa using this, fun c o hc ho => ?_⟩
              by_cases hcl : c = w.heap.size + 1
              · subst hcl; rw [hrdy'] at hc; cases hc; rw [hrec] at ho; simp [fixedB] at ho
              · rw [World.putObj_heap_other hcl]; exact t.keeps.keep _ _ hc ho
            have fin : ∀ jump : Option Code, (Instr.endRound (w.heap.size + 1) jump).run P w2 = .ok (.bool jump.isNone) (w2.putObj (w.heap.size + 1) (.loop (rec (if jump.isNone then .ready else .done) jump))) ∧
                (w2.putObj (w.heap.size + 1) (.loop (rec (if jump.isNone then .ready else .done) jump))).heap[w.heap.size + 1]? = some (.loop (rec (if jump.isNone then .ready else .done) jump)) := fun jump => by
              have := run_endRound (P := P) jump hb2
              rw [hrec] at this ⊢
              exact ⟨this, World.putObj_heap_same (get_lt hb2)⟩
            cases ex with
            | norm =>
              obtain ⟨h1, h2⟩ := fin none
              exact ⟨_, _, h1, _, rfl, hsame none, hq2 _ (One.of_put hb2) h2⟩
            | ret =>
              obtain ⟨h1, h2⟩ := fin (some .ret)
              exact ⟨_, _, h1, _, rfl, hsame _, hq2 _ (One.of_put hb2) ⟨by simp, h2⟩⟩
            | exit id =>
              obtain ⟨h1, h2⟩ := fin (some (.exit id))
              exact ⟨_, _, h1, _, rfl, hsame _, hq2 _ (One.of_put hb2) ⟨by simp, h2⟩⟩
      · exact hR.elim
    · exact hp1.elim
  | _ => simp only [codePt] at hp
theorem code_sound (hmx : P.follows .mixedOrders = true) : ∀ (c : Code), Sound P qs n c := by
  intro c
  induction c with
  | skip => intro m ann Q e a w Qw b N ds ro k hro hp r hm hN hQ; simp only [codePt] at hp; exact wpIn_skip (hQ .norm ds e a w (Same.refl w) r hm hp)
  | label l => intro m ann Q e a w Qw b N ds ro k hro hp r hm hN hQ; simp only [codePt] at hp; exact wpIn_label (hQ .norm ds e a w (Same.refl w) r hm hp)
  | region id ops draw =>
    intro m ann Q e a w Qw b N ds ro k hro hp r hm hN hQ
    cases draw with
    | false => simp only [codePt] at hp; exact region_text ro r hp fun e' a' w' hs r' hk => hQ .norm ds e' a' w' hs r' (hm.keeps hs.keeps) hk
    | true =>
      simp only [codePt] at hp
      rcases bif_true hp with ⟨hns, hp1⟩ | ⟨_, hp1⟩
      · exact region_draw ro hmx hns r hp1 fun e' a' w' hs r' hk => hQ .norm ds e' a' w' hs r' (hm.keeps hs.keeps) hk
      · exact hp1.elim
  | seq x y ihx ihy =>
    intro m ann Q e a w Qw b N ds ro k hro hp r hm hN hQ
    cases ann with
    | seq j ax ay =>
      cases j with
      | none =>
        simp only [codePt] at hp
        refine wpIn_seq (ihx m ax _ e a w _ b N ds ro k hro hp r hm hN ?_)
        intro ex ds' e' a' w' hs r' hm' hk
        cases ex with
        | norm => exact ihy m ay Q e' a' w' Qw b N ds' ro k hro hk r' hm' (Nat.le_trans hN hs.keeps.size) fun ex2 ds2 e2 a2 w2 hs2 r2 hm2 hk2 => hQ ex2 ds2 e2 a2 w2 (hs.trans hs2) r2 hm2 hk2
        | exit id => exact hQ (.exit id) ds' e' a' w' hs r' hm' hk
        | ret => exact hQ .ret ds' e' a' w' hs r' hm' hk
      | some live =>
        simp only [codePt] at hp
        replace hp := hp.out
        refine wpIn_seq (ihx m ax _ e a w _ b N ds ro k hro hp r hm hN ?_)
        intro ex ds' e' a' w' hs r' hm' hk
        cases ex with
        | norm =>
          obtain ⟨vs, hg, hA⟩ := leave_spec hk
          rw [app_curry _ _ _ (gets_length hg)] at hA
          exact ihy m ay Q _ a' w' Qw b N ds' ro k hro hA (gets_rep r' hg) hm' (Nat.le_trans hN hs.keeps.size) fun ex2 ds2 e2 a2 w2 hs2 r2 hm2 hk2 => hQ ex2 ds2 e2 a2 w2 (hs.trans hs2) r2 hm2 hk2
        | exit id => exact hQ (.exit id) ds' e' a' w' hs r' hm' hk
        | ret => exact hQ .ret ds' e' a' w' hs r' hm' hk
    | _ => simp only [codePt] at hp
  | cond cv x y ihx ihy =>
    intro m ann Q e a w Qw b N ds ro k hro hp r hm hN hQ
    cases ann with
    | cond ax ay =>
      simp only [codePt] at hp
      obtain ⟨v, hv, hI⟩ := get1_spec hp
      replace hI := hI.out
      split at hI
      · exact wpIn_cond_true (r.val hv) (ihx m ax Q e a w Qw b N ds ro k hro hI r hm hN hQ)
      · exact wpIn_cond_false (r.val hv) (ihy m ay Q e a w Qw b N ds ro k hro hI r hm hN hQ)
      · exact hI.elim
    | _ => simp only [codePt] at hp
  | block id x ihx =>
    intro m ann Q e a w Qw b N ds ro k hro hp r hm hN hQ
    cases ann with
    | block ax =>
      simp only [codePt] at hp
      refine wpIn_block (ihx m ax _ e a w _ b N ds ro k hro hp r hm hN ?_)
      intro ex ds' e' a' w' hs r' hm' hk
      cases ex with
      | norm => exact hQ .norm ds' e' a' w' hs r' hm' hk
      | exit id' =>
        simp only at hk
        simp only [Ex.toExit, Exit.inBlock]
        by_cases hid : id' = id
        · subst hid
          have hb : Nat.beq id' id' = true := Nat.beq_refl id'
          rw [hb] at hk
          rw [if_pos rfl]
          exact hQ .norm ds' e' a' w' hs r' hm' hk
        · have hb : Nat.beq id' id = false := by
            cases hq : Nat.beq id' id with
            | false => rfl
            | true => exact absurd (Nat.eq_of_beq_eq_true hq) hid
          rw [hb] at hk
          rw [if_neg hid]
          exact hQ (.exit id') ds' e' a' w' hs r' hm' hk
      | ret => exact hQ .ret ds' e' a' w' hs r' hm' hk
    | _ => simp only [codePt] at hp
  | scope x ihx =>
    intro m ann Q e a w Qw b N ds ro k hro hp r hm hN hQ
    cases ann with
    | block ax =>
      simp only [codePt] at hp
      refine wpIn_scope (ihx m ax _ e a w _ b N ds ro k hro hp r hm hN ?_)
      intro ex ds' e' a' w' hs r' hm' hk
      exact ⟨fun l => by cases ex <;> simp [Ex.toExit], hQ ex ds' e' a' w' hs r' hm' hk⟩
    | _ => simp only [codePt] at hp
  | loop x ihx =>
    intro m ann Q e a w Qw b N ds ro k hro hp r hm hN hQ
    cases ann with
    | loop live ax =>
      simp only [codePt] at hp
      obtain ⟨vs0, hg, hA⟩ : ∃ vs0, e.gets live = some vs0 ∧ _ := by
        cases hg : e.gets live with
        | none => rw [hg] at hp; exact hp.elim
        | some vs0 => rw [hg] at hp; exact ⟨vs0, rfl, hp⟩
      have hX := hA.out (curry live.length fun vs h => ∀ ds1 a1 w1, w1.heap = h → Same w w1 → Rep n ds1 (envOf live vs) a1 → Mks b N ds1 h → InLoop P (TF ro) k x Qw a1 w1) ?_
      · rw [app_curry _ _ _ (gets_length hg)] at hX
        exact wp_of_inLoop (hX ds a w rfl (Same.refl w) (gets_rep r hg) hm)
      · intro vs h hlen hb
        rw [app_curry _ _ _ hlen] at hb ⊢
        intro ds1 a1 w1 hw1 hs1 r1 hm1
        subst hw1
        refine inLoop_of (ihx m ax _ _ a1 w1 _ b N ds1 ro k hro hb r1 hm1 (Nat.le_trans hN hs1.keeps.size) ?_)
        intro ex ds' e' a' w' hs r' hm' hk
        cases ex with
        | norm =>
          obtain ⟨vs', hg', hA'⟩ := leave_spec hk
          rw [app_curry _ _ _ (gets_length hg')] at hA'
          exact hA' ds' a' w' rfl (hs1.trans hs) (gets_rep r' hg') hm'
        | exit id => exact hQ (.exit id) ds' e' a' w' (hs1.trans hs) r' hm' hk
        | ret => exact hQ .ret ds' e' a' w' (hs1.trans hs) r' hm' hk
    | _ => simp only [codePt] at hp
  | rangeFunc g ps x y ihx ihy => exact range_sound ihx ihy
  | exit id => intro m ann Q e a w Qw b N ds ro k hro hp r hm hN hQ; simp only [codePt] at hp; exact wpIn_exit (hQ (.exit id) ds e a w (Same.refl w) r hm hp)
  | ret => intro m ann Q e a w Qw b N ds ro k hro hp r hm hN hQ; simp only [codePt] at hp; exact wpIn_ret (hQ .ret ds e a w (Same.refl w) r hm hp)
  | _ => intro m ann Q e a w Qw b N ds ro k hro hp r hm hN hQ; simp only [codePt] at hp
end

/-! ### Functions -/
def hasRange : Code → Bool
  | .seq x y => hasRange x || hasRange y
  | .cond _ x y => hasRange x || hasRange y
  | .block _ x => hasRange x
  | .loop x => hasRange x
  | .scope x => hasRange x
  | .rangeFunc _ _ _ _ => true
  | _ => false
/-- But for blocks of deferred calls, of the place N and on, nothing has changed. -/
structure Shut (N : Nat) (h h' : Heap) : Prop where
  size : h'.size = h.size
  keep : ∀ c, (c < N ∨ ∀ x, h[c]? ≠ some (.deferred x)) → h'[c]? = h[c]?
structure Lv (N : Nat) (X : Heap → Prop) (h : Heap) : Prop where
  out : ∀ h', Shut N h h' → X h'
def resPt (P : Program) : List ResultVar → Env → (List Value → Heap → Prop) → Heap → Prop
  | [], _, k, h => k [] h
  | .tmp t :: r, e, k, h => get1 e (.tmp t) fun v => resPt P r e (fun vs => k (v :: vs)) h
  | .cell a t :: r, e, k, h => get1 e (.tmp a) fun p => bif oneCell P t then Ld p (fun v h => resPt P r e (fun vs => k (v :: vs)) h) h
      else bif aggB P t then LdA (P.cellsOf t) p (fun v h => resPt P r e (fun vs => k (v :: vs)) h) h else False
def retK (K : Ret) (vs : List Value) (h : Heap) : Prop :=
  match vs with
  | [v] => K v h
  | vs => K (.tuple vs.toArray) h
def retPt (P : Program) (b : Bool) (rs : List ResultVar) (N : Nat) (K : Ret) (e : Env) (h : Heap) : Prop :=
  bif b then Lv N (fun h => resPt P rs e (retK K) h) h else resPt P rs e (retK K) h
def fnPt (P : Program) (qs : List FuncId) (fn : Func) (ann : Ann) (args : List Value) (K : Ret) (h : Heap) : Prop :=
  match fn.body with
  | some c => bif Nat.ble args.length fn.ntmps then codePt P qs fn.ntmps (hasRange c) c ann (fun ex => match ex with
    | .norm => retPt P (hasRange c) fn.results.toList h.size K
    | .ret => retPt P (hasRange c) fn.results.toList h.size K
    | .exit _ => fun _ _ => False) (envOf (List.range args.length) args) h else False
  | _ => False
section
variable {P : Program} {qs : List FuncId}
theorem resPt_run {n : Nat} {ds : List Deferred} {a : Act} {e : Env} (r : Rep n ds e a) (F : ResultVar → Sem Value) (hF : ∀ t, F (.tmp t) = pure (a.tmps.getD t undef))
    (hC : ∀ c t, F (.cell c t) = do loadVar t (← asAddr (a.tmps.getD c undef))) : ∀ {rvs : List ResultVar} {k : List Value → Heap → Prop} {w : World}, resPt P rvs e k w.heap →
    ∃ vs, (rvs.mapM F : Sem (List Value)).run P w = .ok vs w ∧ k vs w.heap
  | [], k, w, h => ⟨[], by simp, h⟩
  | .tmp t :: rvs, k, w, h => by
    simp only [resPt] at h
    obtain ⟨v, hv, h⟩ := get1_spec h
    obtain ⟨vs, h1, h2⟩ := resPt_run r F hF hC h
    refine ⟨v :: vs, ?_, h2⟩
    have hv' := r.get t v hv
    rw [List.mapM_cons]
    simp only [hF, Sem.run_bind, Sem.run_pure, Result.andThen_ok, hv', h1]
  | .cell c t :: rvs, k, w, h => by
    simp only [resPt] at h
    obtain ⟨p, hp, h⟩ := get1_spec h
    have hp' := r.get c p hp
    rcases bif_true h with ⟨h1, h2⟩ | ⟨_, h2⟩
    · clear h
      replace h2 := h2.out
      split at h2
      · rename_i ad
        split at h2
        · rename_i v hc
          obtain ⟨vs, h3, h4⟩ := resPt_run r F hF hC h2
          refine ⟨v :: vs, ?_, h4⟩
          obtain ⟨hag, i, hi, hsz⟩ := oneCell_spec h1
          have hl := Ld_run (P := P) h1 (w := w) hc
          simp only [Instr.loadAt, Instr.sureAddr, Sem.run_bind, Sem.run_pure, Result.andThen_ok] at hl
          rw [List.mapM_cons]
          simp only [hC, Sem.run_bind, Sem.run_pure, Result.andThen_ok, hp', asAddr, hl, h3]
        · exact h2.elim
      · exact h2.elim
    · clear h
      rcases bif_true h2 with ⟨h1, h5⟩ | ⟨_, h5⟩
      · clear h2
        obtain ⟨hag, his⟩ := aggB_spec h1
        replace h5 := h5.out
        split at h5
        · rename_i ad
          split at h5
          · rename_i vs0 hc
            obtain ⟨vs, h3, h4⟩ := resPt_run r F hF hC h5
            refine ⟨.agg vs0 :: vs, ?_, h4⟩
            rw [List.mapM_cons]
            simp only [hC, Sem.run_bind, Sem.run_pure, Result.andThen_ok, hp', asAddr, loadVar, hag w, if_true, run_sizeOf_cellsOf his, loadCells, loads_run w _ _ _ _ _ hc, h3]
          · exact h5.elim
        · exact h5.elim
      · exact h5.elim
def Fres (tmps : Array Value) : ResultVar → Sem Value
  | .tmp t => pure (tmps.getD t undef)
  | .cell a t => do loadVar t (← asAddr (tmps.getD a undef))
theorem results_run {fn : Func} {tmps : Array Value} {w : World} {vs : List Value} (h : (fn.results.toList.mapM (Fres tmps) : Sem (List Value)).run P w = .ok vs w) :
    (results fn tmps).run P w = .ok (if hh : vs.toArray.size = 1 then vs.toArray[0] else .tuple vs.toArray) w := by
  have e : results fn tmps = (do let vs ← fn.results.mapM (Fres tmps); pure (if h : vs.size = 1 then vs[0] else .tuple vs)) := by
    unfold results
    congr 1
  rw [e, Array.mapM_eq_mapM_toList]
  simp only [map_eq_pure_bind, Sem.run_bind, h, Result.andThen_ok, Sem.run_pure]
theorem Shut.refl (N : Nat) (h : Heap) : Shut N h h := ⟨rfl, fun _ _ => rfl⟩
theorem leavesM {fn : Func} {tmps : Array Value} {R : Ending → World → Prop} {N : Nat} : ∀ (Ds : List Nat) (w : World), Ds.Nodup → (∀ D ∈ Ds, N ≤ D ∧ w.heap[D]? = some (.deferred (some []))) →
    (∀ w' : World, w'.os = w.os → w'.tape = w.tape → w'.output = w.output → Shut N w.heap w'.heap → ∃ v, (results fn tmps).run P w' = .ok v w' ∧ R (.returned v) w') →
    LeavesInM Fence.wide 0 P fn tmps R (Ds.map markOf) .returning w
  | [], w, _, _, hR => hR w rfl rfl rfl (Shut.refl _ _)
  | D :: Ds, w, hn, hD, hR => by
    obtain ⟨h0, h1⟩ := hD D List.mem_cons_self
    rw [List.nodup_cons] at hn
    refine ⟨by simp, .inl ⟨D, w.putObj D (.deferred none), rfl, run_takeDeferred h1, ?_⟩⟩
    refine leavesM (N := N) Ds _ hn.2 (fun D' hD' => ?_) fun w' e1 e2 e3 hs => hR w' e1 e2 e3 ⟨by rw [hs.size]; simp, fun c hc => ?_⟩
    · have hne : D' ≠ D := fun e => hn.1 (e ▸ hD')
      obtain ⟨h2, h3⟩ := hD D' (List.mem_cons_of_mem _ hD')
      exact ⟨h2, by rw [World.putObj_heap_other hne]; exact h3⟩
    · have hne : c ≠ D := by
        rintro rfl
        rcases hc with hc | hc
        · omega
        · exact hc _ h1
      rw [hs.keep c (hc.imp id fun hx x => by rw [World.putObj_heap_other hne]; exact hx x), World.putObj_heap_other hne]
theorem args_rep {fn : Func} {args : List Value} (hle' : args.length ≤ fn.ntmps) : Rep fn.ntmps [] (envOf (List.range args.length) args) { tmps := args.toArray ++ Array.replicate (fn.ntmps - args.toArray.size) undef, defers := [] } := by
  refine ⟨by simp; omega, rfl, fun t v ht => ?_⟩
  have key : ∀ (i : Nat) (as : List Value) (t : Nat) (v : Value), (envOf ((List.range as.length).map (i + ·)) as).get t = some v → i ≤ t ∧ as[t - i]? = some v := by
    intro i as
    induction as generalizing i with
    | nil => intro t v h1; simp [envOf, Env.get, Env.nil] at h1
    | cons x as ih =>
      intro t v h1
      have hrange : (List.range (x :: as).length).map (i + ·) = i :: (List.range as.length).map ((i + 1) + ·) := by
        rw [List.length_cons, List.range_succ_eq_map, List.map_cons, List.map_map]
        simp only [Nat.add_zero, List.cons.injEq, true_and]
        apply List.map_congr_left
        intro y _
        simp only [Function.comp]
        omega
      rw [hrange] at h1
      simp only [envOf, Env.get, Env.cons] at h1
      cases hq : Nat.beq i t with
      | true =>
        rw [hq] at h1
        have : i = t := Nat.eq_of_beq_eq_true hq
        subst this
        simp at h1
        simp [h1]
      | false =>
        rw [hq] at h1
        obtain ⟨h2, h3⟩ := ih (i + 1) t v (by simpa [Env.get] using h1)
        refine ⟨by omega, ?_⟩
        have : t - i = (t - (i + 1)) + 1 := by omega
        rw [this]; simpa using h3
  obtain ⟨_, h2⟩ := key 0 args t v (by simpa using ht)
  simp only [Nat.sub_zero] at h2
  have hlt : t < args.length := by
    rcases Nat.lt_or_ge t args.length with hx | hx
    · exact hx
    · rw [List.getElem?_eq_none hx] at h2; cases h2
  simp only [Array.getD_eq_getD_getElem?]
  rw [Array.getElem?_append_left (by simpa using hlt)]
  simp [h2]
theorem fn_sound {f : FuncId} {fn : Func} {ann : Ann} {args : List Value} {K : Ret} {h : Heap} (hm : P.follows .mixedOrders = true) (hf : P.funcs[f]? = some fn) (hp : fnPt P qs fn ann args K h) : CallH P f args.toArray K h := by
  unfold fnPt at hp
  split at hp
  · rename_i c hb
    rcases bif_true hp with ⟨hle, hp1⟩ | ⟨_, hp1⟩
    · clear hp
      have hle' : args.length ≤ fn.ntmps := Nat.le_of_ble_eq_true hle
      intro w hw
      subst hw
      refine (callsIn_wide (n := 0)).1 (callsIn_of_wp_marks hf hb trivial ?_)
      refine code_sound (n := fn.ntmps) hm c (hasRange c) ann _ _ _ w _ (hasRange c) w.heap.size [] none 0 (fun e => ⟨e, rfl⟩) hp1 (args_rep hle') (Mks.nil _ _ _) (Nat.le_refl _) ?_
      have fin2 : ∀ (ds' : List Deferred) (e' : Env) (a' : Act) (w2 : World), Same w w2 → Rep fn.ntmps ds' e' a' → resPt P fn.results.toList e' (retK K) w2.heap →
          ∃ v, (results fn a'.tmps).run P w2 = .ok v w2 ∧ ∃ v', Ending.returned v = .returned v' ∧ Same w w2 ∧ K v' w2.heap := by
        intro ds' e' a' w2 hsame r' hres
        obtain ⟨vs, h5, h6⟩ := resPt_run r' (Fres a'.tmps) (fun _ => rfl) (fun _ _ => rfl) hres
        refine ⟨_, results_run h5, _, rfl, hsame, ?_⟩
        cases vs with
        | nil => simpa [retK] using h6
        | cons v rest =>
          cases rest with
          | nil => simpa [retK] using h6
          | cons v2 rest =>
            have : ¬ (v :: v2 :: rest).toArray.size = 1 := by simp
            rw [dif_neg this]; exact h6
      have fin : ∀ (ds' : List Deferred) (e' : Env) (a' : Act) (w' : World), Same w w' → Rep fn.ntmps ds' e' a' → Mks (hasRange c) w.heap.size ds' w'.heap → retPt P (hasRange c) fn.results.toList w.heap.size K e' w'.heap →
          LeavesInM Fence.wide 0 P fn a'.tmps (fun e w' => ∃ v, e = .returned v ∧ Same w w' ∧ K v w'.heap) a'.defers .returning w' := by
        intro ds' e' a' w' hs r' hmk hk
        obtain ⟨hz, Ds, h1, h2, h3⟩ := hmk
        unfold retPt at hk
        cases hr : hasRange c with
        | true =>
          rw [hr] at hk
          rw [r'.defers, h1]
          refine leavesM Ds w' h2 h3 fun w2 e1 e2 e3 hsh => ?_
          exact fin2 ds' e' a' w2 ⟨e1.trans hs.os, e2.trans hs.tape, e3.trans hs.output, by rw [hsh.size]; exact hs.keeps.size, fun c o hc ho => by
            rw [hsh.keep c (.inl (get_lt hc))]; exact hs.keeps.keep _ _ hc ho⟩ r' (hk.out _ hsh)
        | false =>
          rw [hr] at hk
          rw [r'.defers, hz hr]
          exact fin2 ds' e' a' w' hs r' hk
      intro ex ds' e' a' w' hs r' hm' hk
      cases ex with
      | norm => exact fin ds' e' a' w' hs r' hm' hk
      | ret => exact fin ds' e' a' w' hs r' hm' hk
      | exit id => exact hk.elim
    · exact hp1.elim
  · exact hp.elim
end
end Go.Pt
