/- A region of operations, in text order or in drawn order, does what its primitives say. No condition. -/
import Derived.Test.YthekbpaekopmfaaPtH
namespace Go.Pt
set_option linter.unusedVariables false
set_option linter.unusedSimpArgs false

/-! ### Regions -/
/-- An operation that is carried out only if a test said so. -/
structure Gd (g : Value) (want : Bool) (op : Ret → Heap → Prop) (K : Ret) (h : Heap) : Prop where
  out : (
  match g with
  | .bool b => if b = want then op K h else K undef h
  | .tuple _ => K undef h
  | _ => False)
abbrev EK := Env → Heap → Prop
def putE (n : Nat) (e : Env) (dst : Option Nat) (K : EK) (v : Value) (h : Heap) : Prop :=
  match dst with
  | none => K e h
  | some d => bif Nat.blt d n then K (e.cons d v) h else False
def opAt (P : Program) (qs : List FuncId) (n : Nat) (ops : Array Oper) (o : Oper) (e : Env) (K : EK) (h : Heap) : Prop :=
  match o.guard with
  | none => opPt P qs e o (fun v h => putE n e o.dst K v h) h
  | some (j, want) =>
    match (ops[j]?).bind (·.dst) with
    | none => False
    | some t => match e.get t with
      | none => False
      | some g => Gd g want (fun K h => opPt P qs e o K h) (fun v h => putE n e o.dst K v h) h
def opsPt (P : Program) (qs : List FuncId) (n : Nat) (ops : Array Oper) : List Oper → Env → EK → Heap → Prop
  | [], e, K, h => K e h
  | o :: r, e, K, h => opAt P qs n ops o e (fun e h => opsPt P qs n ops r e K h) h
section
variable {P : Program} {qs : List FuncId} {n : Nat} {ds : List Deferred} {ops : Array Oper} {e : Env} {a : Act} {K : EK} {h : Heap} {o : Oper}
theorem putE_sound (r : Rep n ds e a) {dst : Option Nat} {v : Value} (hp : putE n e dst K v h) : ∃ e', Rep n ds e' (a.put dst v) ∧ K e' h := by
  unfold putE at hp
  cases dst with
  | none => exact ⟨e, r, hp⟩
  | some d =>
    simp only at hp
    rcases bif_true hp with ⟨hd, hp1⟩ | ⟨_, hp1⟩
    · exact ⟨_, r.put hd, hp1⟩
    · exact hp1.elim
/-- What an operation's row asks, as the region's own step has it. -/
theorem opAt_sound {i : Nat} (ho : ops[i]? = some o) {kd : Nat → Kind} (hk : kd i = kindOf qs o) (hn : ops.size ≤ ops.size) (r : Rep n ds e a) (hp : opAt P qs n ops o e K h)
    {K' : Act → Heap → Prop} (hK : ∀ e' a' h', Rep n ds e' a' → K e' h' → K' a' h') : stepK P ops kd i K' a h := by
  have fin : ∀ v h', putE n e o.dst K v h' → K' (a.put o.dst v) h' := fun v h' hq => let ⟨e', r', hk'⟩ := putE_sound r hq; hK _ _ _ r' hk'
  unfold stepK
  simp only [ho, hk]
  unfold opAt at hp
  cases hg : o.guard with
  | none =>
    simp only [hg] at hp
    simp only [Region.wanted, hg, if_true]
    exact OpK.mono fin (opPt_sound r hp)
  | some jw =>
    obtain ⟨j, want⟩ := jw
    simp only [hg] at hp
    cases hd : (ops[j]?).bind (·.dst) with
    | none => rw [hd] at hp; exact hp.elim
    | some t =>
      rw [hd] at hp
      simp only at hp
      cases ht : e.get t with
      | none => rw [ht] at hp; exact hp.elim
      | some g =>
        rw [ht] at hp
        simp only at hp
        replace hp := hp.out
        have hval := r.get t g ht
        split at hp
        · rename_i b
          have hy : yielded ops a.tmps j = some b := by
            unfold yielded
            rw [hd]
            simp only [Option.bind_some]
            rw [Array.getD_eq_getD_getElem?] at hval
            cases hq : a.tmps[t]? with
            | none => rw [hq] at hval; simp [undef] at hval
            | some u => rw [hq] at hval; simp at hval; subst hval; rfl
          by_cases hb : b = want
          · rw [if_pos hb] at hp
            have hw : Region.wanted o (yielded ops a.tmps) = true := by simp [Region.wanted, hg, hy, hb]
            simp only [hw, if_true]
            exact OpK.mono fin (opPt_sound r hp)
          · rw [if_neg hb] at hp
            have hw : Region.wanted o (yielded ops a.tmps) = false := by simp [Region.wanted, hg, hy, hb]
            simp only [hw, Bool.false_eq_true, if_false]
            exact fin _ _ hp
        · rename_i tv
          have hy : yielded ops a.tmps j = none := by
            unfold yielded
            rw [hd]
            simp only [Option.bind_some]
            rw [Array.getD_eq_getD_getElem?] at hval
            cases hq : a.tmps[t]? with
            | none => rfl
            | some u => rw [hq] at hval; simp at hval; subst hval; rfl
          have hw : Region.wanted o (yielded ops a.tmps) = false := by simp [Region.wanted, hg, hy]
          simp only [hw, Bool.false_eq_true, if_false]
          exact fin _ _ hp
        · exact hp.elim

/-- One step in a region that keeps the text's order. -/
theorem wpOp_of_stepK {i : Nat} {kd : Nat → Kind} {K' : Act → Heap → Prop} {w : World} {next : Act → World → Prop} {Q : Exit → Act → World → Prop} {m : Nat} (ro : Option Nat) (hs : stepK P ops kd i K' a w.heap)
    (hn : ∀ a' w', Same w w' → K' a' w'.heap → next a' w') : wpOpIn (TF ro) m P ops Q i next a w := by
  unfold stepK at hs
  unfold wpOpIn
  split
  · rename_i e1; simp only [e1] at hs; exact hn _ _ (Same.refl w) hs
  · rename_i o1 e1
    simp only [e1] at hs
    split
    · rename_i hwant
      simp only [hwant, if_true] at hs
      exact OpW.wp ro (OpK.toW hs) rfl (fun v w' hs' hK => hn _ _ hs' hK)
    · rename_i hwant; simp only [hwant] at hs; exact ⟨fun _ _ => trivial, hn _ _ (Same.refl w) hs⟩
theorem wpOps_of_opsPt {m : Nat} (ro : Option Nat) {Q : Exit → Act → World → Prop} : ∀ (l : List Oper) (k : Nat) (e : Env) (a : Act) (w : World), (∀ j, l[j]? = ops[k + j]?) → Rep n ds e a → opsPt P qs n ops l e K w.heap →
    (∀ e' a' w', Same w w' → Rep n ds e' a' → K e' w'.heap → Q .normal a' w') → wpOpsIn (TF ro) m P ops Q ((List.range l.length).map (k + ·)) a w
  | [], k, e, a, w, hl, r, hp, hQ => by
    simp only [opsPt] at hp
    exact hQ e a w (Same.refl w) r hp
  | o :: l, k, e, a, w, hl, r, hp, hQ => by
    have h0 : ops[k]? = some o := by simpa using (hl 0).symm
    have hrange : (List.range (o :: l).length).map (k + ·) = k :: (List.range l.length).map ((k + 1) + ·) := by
      rw [List.length_cons, List.range_succ_eq_map, List.map_cons, List.map_map]
      simp only [Nat.add_zero, List.cons.injEq, true_and]
      apply List.map_congr_left
      intro x _
      simp only [Function.comp]
      omega
    rw [hrange, wpOpsIn_cons]
    simp only [opsPt] at hp
    have hs := opAt_sound (kd := fun i => kindOf qs (ops.getD i default)) (i := k) h0 (by simp [Array.getD_eq_getD_getElem?, h0]) (Nat.le_refl _) r hp
      (K' := fun a' h' => ∃ e', Rep n ds e' a' ∧ opsPt P qs n ops l e' K h') (fun e' a' h' r' hk => ⟨e', r', hk⟩)
    refine wpOp_of_stepK ro hs ?_
    rintro a' w' hsame ⟨e', r', hp'⟩
    refine wpOps_of_opsPt ro l (k + 1) e' a' w' (fun j => ?_) r' hp' fun e2 a2 w2 hs2 r2 hk2 => hQ e2 a2 w2 (hsame.trans hs2) r2 hk2
    have := hl (j + 1)
    simpa [Nat.add_assoc, Nat.add_comm 1 j] using this
theorem region_text {m : Nat} (ro : Option Nat) {id : Nat} {w : World} {Q : Exit → Act → World → Prop} (r : Rep n ds e a) (hp : opsPt P qs n ops ops.toList e K w.heap)
    (hQ : ∀ e' a' w', Same w w' → Rep n ds e' a' → K e' w'.heap → Q .normal a' w') : (Code.region id ops false).wpIn (TF ro) m P Q a w := by
  refine wpIn_region ?_
  have := wpOps_of_opsPt (m := m) ro (Q := Q) ops.toList 0 e a w (by simp) r hp hQ
  simpa using this
end

/-! ### A region that draws -/
def apartB (ops : Array Oper) (kd : Nat → Kind) (i j : Nat) : Bool :=
  match ops[i]?, ops[j]? with
  | some x, some y => x.apart ops y && compat (kd i) (kd j)
  | _, _ => true
/-- May this one be taken first? -/
def firstB (ops : Array Oper) (M : List Nat) (kd : Nat → Kind) (listed : Array Bool) (i : Nat) : Bool :=
  (List.range ops.size).all fun j => Nat.beq j i || (listed.getD j true || ((M.getD j 0).testBit i || apartB ops kd i j))
def noSel (ops : Array Oper) : Bool := ops.all fun o => match o.op with | .select _ _ => false | _ => true
def allOf : List Prop → Prop
  | [] => True
  | [p] => p
  | p :: ps => p ∧ allOf ps
def regPt (P : Program) (qs : List FuncId) (n : Nat) (ops : Array Oper) (M : List Nat) (kd : Nat → Kind) : Nat → Array Bool → Env → EK → Heap → Prop
  | 0, listed, e, K, h => match Region.ready .any ops listed with
    | [] => K e h
    | _ => False
  | fuel + 1, listed, e, K, h =>
    match Region.ready .any ops listed with
    | [] => K e h
    | i :: is => match (i :: is).find? (firstB ops M kd listed) with
      | some j => match ops[j]? with
        | some o => opAt P qs n ops o e (fun e h => regPt P qs n ops M kd fuel (listed.setIfInBounds j true) e K h) h
        | none => False
      | none => allOf ((i :: is).map fun j => match ops[j]? with
        | some o => opAt P qs n ops o e (fun e h => regPt P qs n ops M kd fuel (listed.setIfInBounds j true) e K h) h
        | none => False)
theorem allOf_mem : ∀ {ps : List Prop}, allOf ps → ∀ p ∈ ps, p
  | [], _, p, hm => by cases hm
  | [q], hq, p, hm => by rw [List.mem_singleton] at hm; subst hm; exact hq
  | q :: q2 :: ps, hq, p, hm => by
    rcases List.mem_cons.1 hm with rfl | hm
    · exact hq.1
    · exact allOf_mem hq.2 p hm
section
variable {P : Program} {qs : List FuncId} {n : Nat} {ds : List Deferred} {ops : Array Oper} {K : EK}
theorem firstB_spec {M : List Nat} {kd : Nat → Kind} {listed : Array Bool} {i : Nat} {oi : Oper} (hi : ops[i]? = some oi) (hf : firstB ops M kd listed i = true) :
    ∀ j oj, ops[j]? = some oj → j ≠ i → listed.getD j true = false → (M.getD j 0).testBit i = false → oi.apart ops oj = true ∧ compat (kd i) (kd j) = true := by
  intro j oj hj hne hl hw
  unfold firstB at hf
  rw [List.all_eq_true] at hf
  have hlt : j < ops.size := by
    rcases Nat.lt_or_ge j ops.size with hx | hx
    · exact hx
    · rw [Array.getElem?_eq_none hx] at hj; cases hj
  have h1 := hf j (List.mem_range.2 hlt)
  have hb : Nat.beq j i = false := by
    cases hq : Nat.beq j i with
    | false => rfl
    | true => exact absurd (Nat.eq_of_beq_eq_true hq) hne
  simp only [hb, hl, hw, Bool.false_or] at h1
  unfold apartB at h1
  simp only [hi, hj, Bool.and_eq_true] at h1
  exact h1
theorem noSel_spec (hs : noSel ops = true) : ∀ (j : Nat) (o : Oper) cs b, ops[j]? = some o → o.op ≠ .select cs b := by
  intro j o cs b hj he
  unfold noSel at hs
  rw [Array.all_eq_true] at hs
  have hlt : j < ops.size := by
    rcases Nat.lt_or_ge j ops.size with hx | hx
    · exact hx
    · rw [Array.getElem?_eq_none hx] at hj; cases hj
  have h1 := hs j hlt
  have h2 : ops[j] = o := by simpa [Array.getElem?_eq_getElem hlt] using hj
  rw [h2, he] at h1
  cases h1
theorem RAny_of_regPt (hs : noSel ops = true) : ∀ (fuel : Nat) (listed : Array Bool) (e : Env) (a : Act) (h : Heap), Closed ops listed → Rep n ds e a →
    regPt P qs n ops (masks ops.toList []) (fun i => kindOf qs (ops.getD i default)) fuel listed e K h → RAny P ops (fun i => kindOf qs (ops.getD i default)) (fun a' h' => ∃ e', Rep n ds e' a' ∧ K e' h') fuel listed a h
  | 0, listed, e, a, h, hc, r, hp => by
    unfold regPt at hp
    split at hp
    · rename_i hr; exact ⟨hr, e, r, hp⟩
    · exact hp.elim
  | fuel + 1, listed, e, a, h, hc, r, hp => by
    unfold regPt at hp
    split at hp
    · rename_i hr
      refine ⟨fun _ => ⟨e, r, hp⟩, fun i hi => ?_⟩
      rw [hr] at hi; cases hi
    · rename_i i is hr
      split at hp
      · rename_i j hj
        have hmem : j ∈ Region.ready .any ops listed := by rw [hr]; exact List.mem_of_find?_eq_some hj
        have hfirst : firstB ops _ _ listed j = true := List.find?_some hj
        split at hp
        · rename_i o ho
          refine RAny_first (W := fun k => ((masks ops.toList []).getD k 0).testBit j) (fun l hcl hil k hk => ready_not_masks hcl hil hk) ho (noSel_spec hs) fuel listed a h hc (firstB_spec ho hfirst) hmem ?_
          exact opAt_sound ho (by simp [Array.getD_eq_getD_getElem?, ho]) (Nat.le_refl _) r hp fun e' a' h' r' hk => RAny_of_regPt hs fuel _ e' a' h' (hc.set hmem) r' hk
        · exact hp.elim
      · refine ⟨fun h0 => (by rw [hr] at h0; cases h0), fun j hj => ?_⟩
        rw [hr] at hj
        have h1 := allOf_mem hp _ (List.mem_map_of_mem hj)
        split at h1
        · rename_i o ho
          exact opAt_sound ho (by simp [Array.getD_eq_getD_getElem?, ho]) (Nat.le_refl _) r h1 fun e' a' h' r' hk => RAny_of_regPt hs fuel _ e' a' h' (hc.set (by rw [hr]; exact hj)) r' hk
        · exact h1.elim
theorem region_draw {m : Nat} (ro : Option Nat) {id : Nat} {w : World} {e : Env} {a : Act} {Q : Exit → Act → World → Prop} (hm : P.follows .mixedOrders = true) (hs : noSel ops = true) (r : Rep n ds e a)
    (hp : regPt P qs n ops (masks ops.toList []) (fun i => kindOf qs (ops.getD i default)) ops.size (Array.replicate ops.size false) e K w.heap)
    (hQ : ∀ e' a' w', Same w w' → Rep n ds e' a' → K e' w'.heap → Q .normal a' w') : (Code.region id ops true).wpIn (TF ro) m P Q a w := by
  refine wpIn_region_any hm (wpAny_of_RAny ro (kd := fun i => kindOf qs (ops.getD i default)) (w0 := w) (Q := fun a' h' => ∃ e', Rep n ds e' a' ∧ K e' h') ?_ _ _ _ _ (Same.drawn w _) (RAny_of_regPt hs _ _ e a _ ?_ r hp))
  · rintro a' w' hsame ⟨e', r', hk⟩
    exact hQ e' a' w' hsame r' hk
  · intro j o ho hj
    have : (Array.replicate ops.size false).getD j false = false := by
      simp only [Array.getD_eq_getD_getElem?, Array.getElem?_replicate]
      split <;> rfl
    rw [this] at hj; cases hj
end
end Go.Pt
