/- Heaps: what it means that a call over a heap returns, and the order of taking operations in a drawn region. No condition. -/
import Derived.Orders
import Derived.OrdersIn
import Derived.RangeFuncLeaves
import Derived.RangeFuncRecord
import Derived.Still
import Derived.Calls
namespace Go.Pt
set_option linter.unusedVariables false
set_option linter.unusedSimpArgs false

/-! ### Worlds seen through their heaps -/
abbrev Heap := Array Obj
/-- What no step of another one changes: blocks of deferred calls, and loops over functions in whose round one is. -/
def fixedB : Obj → Bool
  | .deferred _ => true
  | .loop r => r.state == .busy
  | _ => false
structure Keeps (h h' : Heap) : Prop where
  size : h.size ≤ h'.size
  keep : ∀ (c : Nat) (o : Obj), h[c]? = some o → fixedB o = true → h'[c]? = some o
theorem Keeps.refl (h : Heap) : Keeps h h := ⟨Nat.le_refl _, fun _ _ e _ => e⟩
theorem Keeps.trans {a b c : Heap} (h : Keeps a b) (k : Keeps b c) : Keeps a c := ⟨Nat.le_trans h.size k.size, fun i o e f => k.keep i o (h.keep i o e f) f⟩
theorem Keeps.push (h : Heap) (o : Obj) : Keeps h (h.push o) := ⟨by simp, fun c o' e f => by
  have hlt : c < h.size := by
    rcases Nat.lt_or_ge c h.size with hx | hx
    · exact hx
    · rw [Array.getElem?_eq_none hx] at e; cases e
  rw [Array.getElem?_push_lt hlt]; simpa [Array.getElem?_eq_getElem hlt] using e⟩
/-- One place is changed, and what lay there was not fixed. -/
theorem Keeps.at {h h' : Heap} {r : Nat} {o : Obj} (hs : h'.size = h.size) (hr : h[r]? = some o) (hf : fixedB o = false) (hk : ∀ c, c ≠ r → h'[c]? = h[c]?) : Keeps h h' :=
  ⟨Nat.le_of_eq hs.symm, fun c o' e f => by
    by_cases hc : c = r
    · subst hc; rw [hr] at e; cases e; rw [hf] at f; cases f
    · rw [hk c hc]; exact e⟩
theorem Keeps.set {h : Heap} {r : Nat} {o o' : Obj} (hr : h[r]? = some o) (hf : fixedB o = false) : Keeps h (h.setIfInBounds r o') :=
  Keeps.at (by simp) hr hf fun c hc => by rw [Array.getElem?_setIfInBounds, if_neg (fun e => hc e.symm)]
structure Same (w w' : World) : Prop where
  os : w'.os = w.os
  tape : w'.tape = w.tape
  output : w'.output = w.output
  keeps : Keeps w.heap w'.heap
theorem Same.refl (w : World) : Same w w := ⟨rfl, rfl, rfl, Keeps.refl _⟩
theorem Same.trans {a b c : World} (h : Same a b) (k : Same b c) : Same a c := ⟨k.os.trans h.os, k.tape.trans h.tape, k.output.trans h.output, h.keeps.trans k.keeps⟩
theorem Same.drawn (w : World) (n : Nat) : Same w { w with drawn := n } := ⟨rfl, rfl, rfl, Keeps.refl _⟩

def cell (h : Heap) (a : Addr) : Option Value :=
  match h[a.block]? with
  | some (.cells c _ _) => if a.spot.isSome then none else c[a.off]?
  | _ => none
def frozenAt (h : Heap) (a : Addr) : Bool :=
  match h[a.block]? with
  | some (.cells _ _ (lo, hi)) => lo ≤ a.off && a.off < hi
  | _ => false
def setCell (h : Heap) (a : Addr) (v : Value) : Heap :=
  h.modify a.block fun
    | .cells c elem frozen => .cells (if a.spot.isSome then c else c.setIfInBounds a.off v) elem frozen
    | o => o
theorem cell_eq (w : World) (a : Addr) : w.cell? a = cell w.heap a := rfl
theorem frozen_eq (w : World) (a : Addr) : w.frozen? a = frozenAt w.heap a := rfl
theorem setCell_heap (w : World) (a : Addr) (v : Value) : (w.setCell a v).heap = setCell w.heap a v := rfl

theorem Keeps.setCell (h : Heap) (a : Addr) (v : Value) : Keeps h (Pt.setCell h a v) := by
  refine ⟨by simp [Pt.setCell], fun c o e f => ?_⟩
  unfold Pt.setCell
  rw [Array.getElem?_modify]
  by_cases hc : a.block = c
  · subst hc
    rw [if_pos rfl, e]
    cases o <;> first | rfl | cases f
  · rw [if_neg hc]; exact e

/-! ### The fence that lets everything in -/
def TF (ro : Option Nat) : Fence := { Fence.wide with round := ro }
theorem TF_none : TF none = Fence.wide := rfl
theorem TF_some (l : Nat) : TF (some l) = Fence.wide.inRound l := rfl

/-! ### Calls and operations -/
/-- A call over a heap: whatever world has that heap. -/
def CallH (P : Program) (f : FuncId) (args : Array Value) (K : Value → Heap → Prop) (h : Heap) : Prop :=
  ∀ w : World, w.heap = h → Calls P f args w (fun e w' => ∃ v, e = .returned v ∧ Same w w' ∧ K v w'.heap)
theorem CallH.mono {P : Program} {f : FuncId} {args : Array Value} {K K' : Value → Heap → Prop} {h : Heap} (hc : CallH P f args K h) (hk : ∀ v h', K v h' → K' v h') : CallH P f args K' h :=
  fun w hw => (hc w hw).mono fun _ _ ⟨v, he, hs, hK⟩ => ⟨v, he, hs, hk _ _ hK⟩
theorem CallH.some {P : Program} {f : FuncId} {args : Array Value} {K : Value → Heap → Prop} {h : Heap} (hc : CallH P f args K h) : ∃ v h', K v h' := by
  obtain ⟨e, w', fr, ⟨v, _, _, hK⟩, _⟩ := hc { (default : World) with heap := h } rfl []
  exact ⟨v, _, hK⟩

theorem CallH.inTF {P : Program} {f : FuncId} {args : Array Value} {K : Value → Heap → Prop} {w : World} (ro : Option Nat) (n : Nat) (hc : CallH P f args K w.heap) :
    CallsIn (TF ro) n P f args w (fun e w' => ∃ v, e = .returned v ∧ Same w w' ∧ K v w'.heap) :=
  (callsIn_wide (n := n)).2 (hc w rfl)
/-- A round of a loop over a function, over a heap. -/
def RoundH (P : Program) (l : Nat) (f : FuncId) (tmps : Array Value) (assign body : Code) (K : Value → Heap → Prop) (h : Heap) : Prop :=
  ∀ w : World, w.heap = h → RoundIn Fence.wide 0 P l f tmps assign body w (fun e w' => ∃ v, e = .returned v ∧ Same w w' ∧ K v w'.heap)
theorem RoundH.mono {P : Program} {l : Nat} {f : FuncId} {tmps : Array Value} {as bd : Code} {K K' : Value → Heap → Prop} {h : Heap} (hc : RoundH P l f tmps as bd K h) (hk : ∀ v h', K v h' → K' v h') : RoundH P l f tmps as bd K' h :=
  fun w hw => (hc w hw).mono fun _ _ ⟨v, he, hs, hK⟩ => ⟨v, he, hs, hk _ _ hK⟩
theorem RoundH.some {P : Program} {l : Nat} {f : FuncId} {tmps : Array Value} {as bd : Code} {K : Value → Heap → Prop} {h : Heap} (hc : RoundH P l f tmps as bd K h) : ∃ v h', K v h' := by
  obtain ⟨e, w', ⟨v, _, _, hK⟩, _⟩ := (hc { (default : World) with heap := h } rfl).2 default [] (room_wide _)
  exact ⟨v, _, hK⟩
def uponW (P : Program) (w : World) (K : Value → Heap → Prop) : Result Next → Prop
  | .ok (.value v) w' => Same w w' ∧ K v w'.heap
  | .ok .skip w' => Same w w' ∧ K undef w'.heap
  | .ok (.enter f args) w' => Same w w' ∧ CallH P f args K w'.heap
  | .ok (.round l f tmps as bd) w' => Same w w' ∧ RoundH P l f tmps as bd K w'.heap
  | _ => False
/-- It may do anything to the heap. -/
def OpW (P : Program) (ρ : Operand → Value) (o : Oper) (K : Value → Heap → Prop) (h : Heap) : Prop :=
  ∀ w : World, w.heap = h → uponW P w K ((execOp ρ o).run P w)
/-- It reads alone. -/
def OpR (P : Program) (ρ : Operand → Value) (o : Oper) (K : Value → Heap → Prop) (h : Heap) : Prop :=
  ∃ v, OpW P ρ o (fun v' h' => v' = v ∧ h' = h) h ∧ K v h
/-- It doesn't look at the heap. -/
def OpP (P : Program) (ρ : Operand → Value) (o : Oper) (K : Value → Heap → Prop) (h : Heap) : Prop :=
  ∃ v, (∀ w, (execOp ρ o).run P w = .ok (.value v) w) ∧ K v h
/-- All that was there is as it was. -/
structure Grows (h h' : Heap) : Prop where
  size : h.size ≤ h'.size
  keep : ∀ c, c < h.size → h'[c]? = h[c]?
theorem Grows.refl (h : Heap) : Grows h h := ⟨Nat.le_refl _, fun _ _ => rfl⟩
theorem Grows.trans {h h1 h2 : Heap} (f : Grows h h1) (g : Grows h1 h2) : Grows h h2 := ⟨Nat.le_trans f.size g.size, fun c hc => (g.keep c (Nat.lt_of_lt_of_le hc f.size)).trans (f.keep c hc)⟩
theorem Grows.push (h : Heap) (o : Obj) : Grows h (h.push o) := ⟨by simp, fun c hc => by rw [Array.getElem?_push_lt hc]; simp [hc]⟩
theorem Grows.get {h h' : Heap} {c : Nat} {o : Obj} (f : Grows h h') (e : h[c]? = some o) : h'[c]? = some o := by
  have hc : c < h.size := by
    rcases Nat.lt_or_ge c h.size with hx | hx
    · exact hx
    · rw [Array.getElem?_eq_none hx] at e; cases e
  rw [f.keep c hc]; exact e
/-- It reads alone, and reads the same when more is there. -/
def OpS (P : Program) (ρ : Operand → Value) (o : Oper) (K : Value → Heap → Prop) (h : Heap) : Prop :=
  ∃ v, (∀ h', Grows h h' → OpW P ρ o (fun v' h'' => v' = v ∧ h'' = h') h') ∧ K v h
/-- It lays new memory alone. -/
def OpA (P : Program) (ρ : Operand → Value) (o : Oper) (K : Value → Heap → Prop) (h : Heap) : Prop :=
  OpW P ρ o (fun v h' => Grows h h' ∧ K v h') h
inductive Kind where
  | pure | sread | read | alloc | write
  deriving DecidableEq
def OpK (k : Kind) (P : Program) (ρ : Operand → Value) (o : Oper) (K : Value → Heap → Prop) (h : Heap) : Prop :=
  match k with
  | .pure => OpP P ρ o K h
  | .sread => OpS P ρ o K h
  | .read => OpR P ρ o K h
  | .alloc => OpA P ρ o K h
  | .write => OpW P ρ o K h
section
variable {P : Program} {ρ : Operand → Value} {o : Oper} {K K' : Value → Heap → Prop} {h : Heap}
theorem uponW_mono {w : World} {r : Result Next} (hk : ∀ v h', K v h' → K' v h') (hu : uponW P w K r) : uponW P w K' r := by
  cases r with
  | halt x w' => exact hu
  | ok n w' =>
    cases n <;> simp only [uponW] at hu ⊢
    · exact ⟨hu.1, hk _ _ hu.2⟩
    · exact ⟨hu.1, hk _ _ hu.2⟩
    · exact ⟨hu.1, hu.2.mono hk⟩
    · exact ⟨hu.1, hu.2.mono hk⟩
theorem OpW.mono (hk : ∀ v h', K v h' → K' v h') (ho : OpW P ρ o K h) : OpW P ρ o K' h := fun w hw => uponW_mono hk (ho w hw)
theorem OpP.toR (ho : OpP P ρ o K h) : OpR P ρ o K h := by
  obtain ⟨v, hv, hK⟩ := ho
  refine ⟨v, fun w hw => ?_, hK⟩
  rw [hv w]
  exact ⟨Same.refl w, rfl, hw⟩
theorem OpR.toW (ho : OpR P ρ o K h) : OpW P ρ o K h := by
  obtain ⟨v, hv, hK⟩ := ho
  exact hv.mono fun v' h' ⟨e1, e2⟩ => by rw [e1, e2]; exact hK
theorem OpS.toR (ho : OpS P ρ o K h) : OpR P ρ o K h := by
  obtain ⟨v, hv, hK⟩ := ho
  exact ⟨v, hv h (Grows.refl h), hK⟩
theorem OpA.toW (ho : OpA P ρ o K h) : OpW P ρ o K h := OpW.mono (fun _ _ hK => hK.2) ho
theorem OpK.toW {k : Kind} (ho : OpK k P ρ o K h) : OpW P ρ o K h := by
  cases k with
  | pure => exact OpR.toW (OpP.toR ho)
  | sread => exact OpR.toW (OpS.toR ho)
  | read => exact OpR.toW ho
  | alloc => exact OpA.toW ho
  | write => exact ho
theorem OpK.mono {k : Kind} (hk : ∀ v h', K v h' → K' v h') (ho : OpK k P ρ o K h) : OpK k P ρ o K' h := by
  cases k with
  | pure => obtain ⟨v, hv, hK⟩ := ho; exact ⟨v, hv, hk _ _ hK⟩
  | sread => obtain ⟨v, hv, hK⟩ := ho; exact ⟨v, hv, hk _ _ hK⟩
  | read => obtain ⟨v, hv, hK⟩ := ho; exact ⟨v, hv, hk _ _ hK⟩
  | alloc => exact OpW.mono (fun _ _ hK => ⟨hK.1, hk _ _ hK.2⟩) ho
  | write => exact OpW.mono hk ho
theorem uponW_some {w : World} {r : Result Next} (hu : uponW P w K r) : ∃ v h', K v h' := by
  cases r with
  | halt x w' => exact hu.elim
  | ok n w' =>
    cases n <;> simp only [uponW] at hu
    · exact ⟨_, _, hu.2⟩
    · exact ⟨_, _, hu.2⟩
    · exact hu.2.some
    · exact hu.2.some
theorem OpW.some (ho : OpW P ρ o K h) : ∃ v h', K v h' := uponW_some (ho { (default : World) with heap := h } rfl)
theorem not_defer {ρ : Operand → Value} {w : World} (hu : uponW P w K ((execOp ρ o).run P w)) : ∀ c, o.op ≠ .defer c := by
  intro c hc
  simp only [execOp, hc, Sem.run_bind] at hu
  cases hr : (resolve ρ c o.type).run P w with
  | halt x w' => rw [hr] at hu; exact hu.elim
  | ok d w' => rw [hr] at hu; simp only [Result.andThen_ok, Sem.run_pure] at hu; exact hu.elim
theorem OpW.wp {a : Act} {w : World} {next : Act → World → Prop} {Q : Exit → Act → World → Prop} {n : Nat} (ro : Option Nat) (ho : OpW P a.eval o K h) (hw : w.heap = h)
    (hn : ∀ v w', Same w w' → K v w'.heap → next (a.put o.dst v) w') : o.wpIn (TF ro) n P a w next Q := by
  have hu := ho w hw
  refine ⟨fun _ _ => trivial, ?_⟩
  rw [Oper.semAt_eq _ _ _ (not_defer hu)]
  generalize (execOp a.eval o).run P w = r at hu
  cases r with
  | halt x w' => exact hu.elim
  | ok m w' =>
    cases m <;> simp only [uponW] at hu <;> simp only [Oper.uponIn]
    · exact hn _ _ hu.1 hu.2
    · exact hn _ _ hu.1 hu.2
    · refine ⟨fun e => (by cases e), (hu.2.inTF ro _).mono ?_⟩
      rintro e w'' ⟨v, rfl, hs, hK⟩
      exact hn _ _ (hu.1.trans hs) hK
    · refine ⟨fun e => (by cases e), ?_⟩
      refine ⟨trivial, fun c cs hr => ?_⟩
      obtain ⟨e, w'', ⟨v, rfl, hs, hK⟩, hsteps⟩ := (hu.2 w' rfl).2 c cs (room_wide _)
      exact ⟨.returned v, w'', hn _ _ (hu.1.trans hs) hK, hsteps⟩
end

/-! ### A region whose order is drawn -/
section
variable (P : Program) (ops : Array Oper) (kd : Nat → Kind)
def stepK (i : Nat) (K : Act → Heap → Prop) (a : Act) (h : Heap) : Prop :=
  match ops[i]? with
  | none => K a h
  | some o =>
    if Region.wanted o (yielded ops a.tmps) then OpK (kd i) P a.eval o (fun v h' => K (a.put o.dst v) h') h
    else K (a.put o.dst undef) h
def RAny (Q : Act → Heap → Prop) : Nat → Array Bool → Act → Heap → Prop
  | 0, listed, a, h => Region.ready .any ops listed = [] ∧ Q a h
  | fuel + 1, listed, a, h =>
    (Region.ready .any ops listed = [] → Q a h) ∧
    ∀ i ∈ Region.ready .any ops listed, stepK P ops kd i (RAny Q fuel (listed.setIfInBounds i true)) a h
end
section
variable {P : Program} {ops : Array Oper} {kd : Nat → Kind} {K K' : Act → Heap → Prop} {a : Act} {h : Heap} {i j : Nat}
theorem stepK_mono (hk : ∀ a h, K a h → K' a h) (hs : stepK P ops kd i K a h) : stepK P ops kd i K' a h := by
  unfold stepK at *
  split
  · rename_i e; simp only [e] at hs; exact hk _ _ hs
  · rename_i o e
    simp only [e] at hs
    split
    · rename_i hw; simp only [hw, if_true] at hs; exact OpK.mono (fun v h' => hk _ _) hs
    · rename_i hw; simp only [hw] at hs; exact hk _ _ hs
theorem stepK_some {o : Oper} (ho : ops[i]? = some o) (hs : stepK P ops kd i K a h) : ∃ v h', K (a.put o.dst v) h' := by
  unfold stepK at hs
  simp only [ho] at hs
  split at hs
  · exact OpW.some (OpK.toW hs)
  · exact ⟨_, _, hs⟩
theorem wpAny_of_RAny {n : Nat} (ro : Option Nat) {Q : Act → Heap → Prop} {Q' : Exit → Act → World → Prop} {w0 : World} (hQ : ∀ a w, Same w0 w → Q a w.heap → Q' .normal a w) :
    ∀ (fuel : Nat) (listed : Array Bool) (a : Act) (w : World), Same w0 w → RAny P ops kd Q fuel listed a w.heap → wpAnyIn (TF ro) n P .any ops Q' fuel listed a w
  | 0, _, _, _, hw, hr => ⟨hr.1, hQ _ _ hw hr.2⟩
  | fuel + 1, listed, a, w, hw, hr => by
    refine ⟨fun h0 => hQ _ _ hw (hr.1 h0), fun i hi => ?_⟩
    have hs := hr.2 i hi
    unfold stepK at hs
    unfold wpOpIn
    split
    · rename_i e; simp only [e] at hs; exact wpAny_of_RAny ro hQ fuel _ _ _ hw hs
    · rename_i o e
      simp only [e] at hs
      split
      · rename_i hwant
        simp only [hwant, if_true] at hs
        exact OpW.wp ro (OpK.toW hs) rfl (fun v w' hs' hK => wpAny_of_RAny ro hQ fuel _ _ _ (hw.trans hs') hK)
      · rename_i hwant; simp only [hwant] at hs; exact ⟨fun _ _ => trivial, wpAny_of_RAny ro hQ fuel _ _ _ hw hs⟩

/-- What an operation that doesn't look at the heap leaves in its temporary. -/
def PureV (P : Program) (ops : Array Oper) (o : Oper) (a : Act) (v : Value) : Prop :=
  (Region.wanted o (yielded ops a.tmps) = true ∧ ∀ w, (execOp a.eval o).run P w = .ok (.value v) w) ∨ (Region.wanted o (yielded ops a.tmps) = false ∧ v = undef)
def ReadV (P : Program) (ops : Array Oper) (o : Oper) (a : Act) (v : Value) (h : Heap) : Prop :=
  (Region.wanted o (yielded ops a.tmps) = true ∧ OpW P a.eval o (fun v' h' => v' = v ∧ h' = h) h) ∨ (Region.wanted o (yielded ops a.tmps) = false ∧ v = undef)
def SReadV (P : Program) (ops : Array Oper) (o : Oper) (a : Act) (v : Value) (h : Heap) : Prop :=
  (Region.wanted o (yielded ops a.tmps) = true ∧ ∀ h', Grows h h' → OpW P a.eval o (fun v' h'' => v' = v ∧ h'' = h') h') ∨ (Region.wanted o (yielded ops a.tmps) = false ∧ v = undef)
theorem SReadV.ext {o : Oper} {a : Act} {v : Value} {h h' : Heap} (hv : SReadV P ops o a v h) (x : Grows h h') : SReadV P ops o a v h' := by
  rcases hv with ⟨w, q⟩ | q
  · exact .inl ⟨w, fun h2 x2 => q h2 (x.trans x2)⟩
  · exact .inr q
theorem SReadV.toR {o : Oper} {a : Act} {v : Value} {h : Heap} (hv : SReadV P ops o a v h) : ReadV P ops o a v h := by
  rcases hv with ⟨w, q⟩ | q
  · exact .inl ⟨w, q h (Grows.refl h)⟩
  · exact .inr q
theorem PureV.unique {o : Oper} {v u : Value} (h1 : PureV P ops o a v) (h2 : PureV P ops o a u) : v = u := by
  rcases h1 with ⟨w1, h1⟩ | ⟨w1, h1⟩ <;> rcases h2 with ⟨w2, h2⟩ | ⟨w2, h2⟩
  · have := (h1 default).symm.trans (h2 default); injection this with e; injection e
  · rw [w1] at w2; cases w2
  · rw [w1] at w2; cases w2
  · rw [h1, h2]
theorem PureV.of_same {o : Oper} {a' : Act} {v : Value} (hv : PureV P ops o a v) (he : execOp a'.eval o = execOp a.eval o)
    (hw : Region.wanted o (yielded ops a'.tmps) = Region.wanted o (yielded ops a.tmps)) : PureV P ops o a' v := by
  unfold PureV at *; rw [he, hw]; exact hv
theorem ReadV.of_same {o : Oper} {a' : Act} {v : Value} (hv : ReadV P ops o a v h) (he : execOp a'.eval o = execOp a.eval o)
    (hw : Region.wanted o (yielded ops a'.tmps) = Region.wanted o (yielded ops a.tmps)) : ReadV P ops o a' v h := by
  unfold ReadV OpW at *; rw [he, hw]; exact hv
theorem SReadV.of_same {o : Oper} {a' : Act} {v : Value} (hv : SReadV P ops o a v h) (he : execOp a'.eval o = execOp a.eval o)
    (hw : Region.wanted o (yielded ops a'.tmps) = Region.wanted o (yielded ops a.tmps)) : SReadV P ops o a' v h := by
  unfold SReadV OpW at *; rw [he, hw]; exact hv
theorem stepK_sread {o : Oper} (ho : ops[i]? = some o) (hk : kd i = .sread) : stepK P ops kd i K a h ↔ ∃ v, SReadV P ops o a v h ∧ K (a.put o.dst v) h := by
  unfold stepK SReadV
  simp only [ho, hk, OpK, OpS]
  by_cases hw : Region.wanted o (yielded ops a.tmps) = true
  · simp only [hw, if_true, true_and, Bool.true_eq_false, false_and, or_false]
  · have hw' : Region.wanted o (yielded ops a.tmps) = false := by simpa using hw
    simp only [hw', if_false, false_and, false_or, true_and, Bool.false_eq_true]
    constructor
    · exact fun hK => ⟨undef, rfl, hK⟩
    · rintro ⟨v, rfl, hK⟩
      exact hK
theorem stepK_alloc {o : Oper} (ho : ops[i]? = some o) (hk : kd i = .alloc) (hs : stepK P ops kd i K a h) : stepK P ops kd i (fun a' h' => Grows h h' ∧ K a' h') a h := by
  unfold stepK at *
  simp only [ho, hk, OpK, OpA] at *
  split
  · rename_i hw
    simp only [hw, if_true] at hs
    exact OpW.mono (fun v h' q => ⟨q.1, q.1, q.2⟩) hs
  · rename_i hw
    simp only [hw] at hs
    exact ⟨Grows.refl h, hs⟩
theorem stepK_pure {o : Oper} (ho : ops[i]? = some o) (hk : kd i = .pure) : stepK P ops kd i K a h ↔ ∃ v, PureV P ops o a v ∧ K (a.put o.dst v) h := by
  unfold stepK PureV
  simp only [ho, hk, OpK, OpP]
  by_cases hw : Region.wanted o (yielded ops a.tmps) = true
  · simp only [hw, if_true, true_and, Bool.true_eq_false, false_and, or_false]
  · have hw' : Region.wanted o (yielded ops a.tmps) = false := by simpa using hw
    simp only [hw', if_false, false_and, false_or, true_and, Bool.false_eq_true]
    constructor
    · exact fun hK => ⟨undef, rfl, hK⟩
    · rintro ⟨v, rfl, hK⟩
      exact hK
theorem stepK_read {o : Oper} (ho : ops[i]? = some o) (hk : kd i = .read) : stepK P ops kd i K a h ↔ ∃ v, ReadV P ops o a v h ∧ K (a.put o.dst v) h := by
  unfold stepK ReadV
  simp only [ho, hk, OpK, OpR]
  by_cases hw : Region.wanted o (yielded ops a.tmps) = true
  · simp only [hw, if_true, true_and, Bool.true_eq_false, false_and, or_false]
  · have hw' : Region.wanted o (yielded ops a.tmps) = false := by simpa using hw
    simp only [hw', if_false, false_and, false_or, true_and, Bool.false_eq_true]
    constructor
    · exact fun hK => ⟨undef, rfl, hK⟩
    · rintro ⟨v, rfl, hK⟩
      exact hK

/-! ### An operation that may be taken first -/
theorem step_put {oi oj : Oper} {v : Value} (hj : ops[j]? = some oj) (hap : oi.apart ops oj = true) (hsj : ∀ cs b, oj.op ≠ .select cs b)
    (hs : stepK P ops kd j K (a.put oi.dst v) h) : stepK P ops kd j (fun a' h' => (∃ u, a' = a.put oj.dst u) ∧ K (a'.put oi.dst v) h') a h := by
  obtain ⟨h1, h2, h3⟩ := Oper.apart_spec hap
  unfold stepK at *
  simp only [hj] at *
  rw [wanted_put oj a oi.dst v h1] at hs
  split
  · rename_i hw
    simp only [hw, if_true] at hs
    have he : execOp (a.put oi.dst v).eval oj = execOp a.eval oj := execOp_put oj hsj a oi.dst v h1
    have hs' : OpK (kd j) P a.eval oj (fun u h' => K ((a.put oi.dst v).put oj.dst u) h') h := by
      unfold OpK OpP OpS OpR OpA OpW at *
      rw [← he]; exact hs
    exact OpK.mono (fun u h' hK => ⟨⟨u, rfl⟩, by rw [← Act.put_comm a v u h2]; exact hK⟩) hs'
  · rename_i hw
    simp only [hw] at hs
    exact ⟨⟨undef, rfl⟩, by rw [← Act.put_comm a v undef h2]; exact hs⟩
theorem step_unput {oi oj : Oper} {u : Value} (hi : ops[i]? = some oi) (hap : oi.apart ops oj = true) (hsi : ∀ cs b, oi.op ≠ .select cs b)
    (hs : stepK P ops kd i (fun a' h' => K (a'.put oj.dst u) h') a h) : stepK P ops kd i K (a.put oj.dst u) h := by
  obtain ⟨h1, h2, h3⟩ := Oper.apart_spec hap
  unfold stepK at *
  simp only [hi] at *
  rw [wanted_put oi a oj.dst u h3]
  split
  · rename_i hw
    simp only [hw, if_true] at hs
    have he : execOp (a.put oj.dst u).eval oi = execOp a.eval oi := execOp_put oi hsi a oj.dst u h3
    have hs' := OpK.mono (K' := fun v h' => K ((a.put oj.dst u).put oi.dst v) h') (fun v h' hK => by rw [← Act.put_comm a v u h2]; exact hK) hs
    unfold OpK OpP OpS OpR OpA OpW at *
    rw [he]; exact hs'
  · rename_i hw
    simp only [hw] at hs
    rw [← Act.put_comm a undef u h2]; exact hs
def compat (x y : Kind) : Bool :=
  match x, y with
  | .pure, _ => true
  | _, .pure => true
  | .read, .read => true
  | .read, .sread => true
  | .sread, .read => true
  | .sread, .sread => true
  | .sread, .alloc => true
  | _, _ => false
theorem swapK {oi oj : Oper} (hi : ops[i]? = some oi) (hj : ops[j]? = some oj) (hap : oi.apart ops oj = true)
    (hsi : ∀ cs b, oi.op ≠ .select cs b) (hsj : ∀ cs b, oj.op ≠ .select cs b) (hc : compat (kd i) (kd j) = true)
    (hs : stepK P ops kd i (fun a' h' => stepK P ops kd j K a' h') a h) : stepK P ops kd j (fun a' h' => stepK P ops kd i K a' h') a h := by
  obtain ⟨h1, h2, h3⟩ := Oper.apart_spec hap
  have pj : ∀ v u, PureV P ops oj (a.put oi.dst v) u → PureV P ops oj a u := fun v u hp =>
    hp.of_same (execOp_put oj hsj a oi.dst v h1).symm (wanted_put oj a oi.dst v h1).symm
  have pj' : ∀ v u, PureV P ops oj a u → PureV P ops oj (a.put oi.dst v) u := fun v u hp =>
    hp.of_same (execOp_put oj hsj a oi.dst v h1) (wanted_put oj a oi.dst v h1)
  have pi' : ∀ v u, PureV P ops oi a v → PureV P ops oi (a.put oj.dst u) v := fun v u hp =>
    hp.of_same (execOp_put oi hsi a oj.dst u h3) (wanted_put oi a oj.dst u h3)
  have rj : ∀ v u, ReadV P ops oj (a.put oi.dst v) u h → ReadV P ops oj a u h := fun v u hp =>
    hp.of_same (execOp_put oj hsj a oi.dst v h1).symm (wanted_put oj a oi.dst v h1).symm
  have sj : ∀ v u, SReadV P ops oj (a.put oi.dst v) u h → SReadV P ops oj a u h := fun v u hp =>
    hp.of_same (execOp_put oj hsj a oi.dst v h1).symm (wanted_put oj a oi.dst v h1).symm
  have ri' : ∀ v u, ReadV P ops oi a v h → ReadV P ops oi (a.put oj.dst u) v h := fun v u hp =>
    hp.of_same (execOp_put oi hsi a oj.dst u h3) (wanted_put oi a oj.dst u h3)
  have si' : ∀ v u h', SReadV P ops oi a v h' → SReadV P ops oi (a.put oj.dst u) v h' := fun v u h' hp =>
    hp.of_same (execOp_put oi hsi a oj.dst u h3) (wanted_put oi a oj.dst u h3)
  have wpure : kd j = .pure → stepK P ops kd j (fun a' h' => stepK P ops kd i K a' h') a h := by
    intro hkj
    obtain ⟨v0, h0, hK0⟩ := stepK_some hi hs
    obtain ⟨u, hu, _⟩ := (stepK_pure hj hkj).1 hK0
    have hu' := pj v0 u hu
    refine (stepK_pure hj hkj).2 ⟨u, hu', step_unput hi hap hsi ?_⟩
    have hs2 : stepK P ops kd i (fun a' h' => (∃ v, a' = a.put oi.dst v) ∧ stepK P ops kd j K a' h') a h := by
      unfold stepK at hs ⊢
      simp only [hi] at hs ⊢
      split
      · rename_i hw
        simp only [hw, if_true] at hs
        exact OpK.mono (fun v h' hK => ⟨⟨v, rfl⟩, hK⟩) hs
      · rename_i hw
        simp only [hw] at hs
        exact ⟨⟨undef, rfl⟩, hs⟩
    refine stepK_mono ?_ hs2
    rintro a' h' ⟨⟨v, rfl⟩, hK⟩
    obtain ⟨u', hu2, hK⟩ := (stepK_pure hj hkj).1 hK
    rw [hu'.unique (pj v u' hu2)]
    exact hK
  cases hki : kd i with
  | pure =>
    obtain ⟨v, hv, hK⟩ := (stepK_pure hi hki).1 hs
    refine stepK_mono ?_ (step_put hj hap hsj hK)
    rintro a' h' ⟨⟨u, rfl⟩, hK'⟩
    exact (stepK_pure hi hki).2 ⟨v, pi' v u hv, hK'⟩
  | sread =>
    obtain ⟨v, hv, hK⟩ := (stepK_sread hi hki).1 hs
    cases hkj : kd j with
    | write => rw [hki, hkj] at hc; cases hc
    | pure => exact wpure hkj
    | sread =>
      obtain ⟨u, hu, hK⟩ := (stepK_sread hj hkj).1 hK
      exact (stepK_sread hj hkj).2 ⟨u, sj v u hu, (stepK_sread hi hki).2 ⟨v, si' v u h hv, by rw [← Act.put_comm a v u h2]; exact hK⟩⟩
    | read =>
      obtain ⟨u, hu, hK⟩ := (stepK_read hj hkj).1 hK
      exact (stepK_read hj hkj).2 ⟨u, rj v u hu, (stepK_sread hi hki).2 ⟨v, si' v u h hv, by rw [← Act.put_comm a v u h2]; exact hK⟩⟩
    | alloc =>
      have hK2 := stepK_alloc hj hkj hK
      refine stepK_mono ?_ (step_put (K := fun a' h' => Grows h h' ∧ K a' h') hj hap hsj hK2)
      rintro a' h' ⟨⟨u, rfl⟩, x, hK'⟩
      exact (stepK_sread hi hki).2 ⟨v, si' v u h' (hv.ext x), hK'⟩
  | read =>
    obtain ⟨v, hv, hK⟩ := (stepK_read hi hki).1 hs
    cases hkj : kd j with
    | write => rw [hki, hkj] at hc; cases hc
    | alloc => rw [hki, hkj] at hc; cases hc
    | pure => exact wpure hkj
    | sread =>
      obtain ⟨u, hu, hK⟩ := (stepK_sread hj hkj).1 hK
      exact (stepK_sread hj hkj).2 ⟨u, sj v u hu, (stepK_read hi hki).2 ⟨v, ri' v u hv, by rw [← Act.put_comm a v u h2]; exact hK⟩⟩
    | read =>
      obtain ⟨u, hu, hK⟩ := (stepK_read hj hkj).1 hK
      exact (stepK_read hj hkj).2 ⟨u, rj v u hu, (stepK_read hi hki).2 ⟨v, ri' v u hv, by rw [← Act.put_comm a v u h2]; exact hK⟩⟩
  | alloc =>
    cases hkj : kd j with
    | pure => exact wpure hkj
    | sread => rw [hki, hkj] at hc; cases hc
    | read => rw [hki, hkj] at hc; cases hc
    | alloc => rw [hki, hkj] at hc; cases hc
    | write => rw [hki, hkj] at hc; cases hc
  | write =>
    cases hkj : kd j with
    | pure => exact wpure hkj
    | sread => rw [hki, hkj] at hc; cases hc
    | read => rw [hki, hkj] at hc; cases hc
    | alloc => rw [hki, hkj] at hc; cases hc
    | write => rw [hki, hkj] at hc; cases hc

/-- 'j' comes behind 'i' in every order: it waits for it, or for one that does. -/
def waits (ops : Array Oper) : Nat → Nat → Nat → Bool
  | 0, _, _ => false
  | fuel + 1, j, i =>
    match ops[j]? with
    | some o => o.after.any fun e => Region.binds .any e && (e.on == i || waits ops fuel e.on i)
    | none => false
/-- What has come up has come up behind all that it waits for. -/
def Closed (ops : Array Oper) (listed : Array Bool) : Prop :=
  ∀ j o, ops[j]? = some o → listed.getD j false = true → ∀ e ∈ o.after, Region.binds .any e = true → listed.getD e.on false = true
theorem waits_listed {listed : Array Bool} (hc : Closed ops listed) (hi : listed.getD i false = false) :
    ∀ (fuel j : Nat), listed.getD j false = true → waits ops fuel j i = false
  | 0, _, _ => rfl
  | fuel + 1, j, hj => by
    unfold waits
    cases ho : ops[j]? with
    | none => rfl
    | some o =>
      simp only [Array.any_eq_false']
      intro e he
      by_cases hb : Region.binds .any e = true
      · have hl := hc j o ho hj e he hb
        have hne : (e.on == i) = false := by
          rw [beq_eq_false_iff_ne]; rintro rfl; rw [hi] at hl; cases hl
        simp [hne, waits_listed hc hi fuel e.on hl]
      · simp [hb]
theorem ready_not_waits {listed : Array Bool} (hc : Closed ops listed) (hi : listed.getD i false = false) (hj : j ∈ Region.ready .any ops listed) (fuel : Nat) :
    waits ops fuel j i = false := by
  obtain ⟨_, o, ho, hall⟩ := mem_ready.1 hj
  cases fuel with
  | zero => rfl
  | succ fuel =>
    unfold waits
    simp only [ho, Array.any_eq_false']
    intro e he
    by_cases hb : Region.binds .any e = true
    · have hl := hall e he hb
      have hne : (e.on == i) = false := by
        rw [beq_eq_false_iff_ne]; rintro rfl; rw [hi] at hl; cases hl
      simp [hne, waits_listed hc hi fuel e.on hl]
    · simp [hb]

theorem getD_both' {listed : Array Bool} {i : Nat} (h : listed.getD i true = false) : listed.getD i false = false := by
  simp only [Array.getD_eq_getD_getElem?] at *
  cases hl : listed[i]? with
  | none => rfl
  | some b => rw [hl] at h; simpa using h
theorem Closed.set {listed : Array Bool} (hc : Closed ops listed) (hj : j ∈ Region.ready .any ops listed) : Closed ops (listed.setIfInBounds j true) := by
  intro k o ho hk e he hb
  by_cases hjk : j = k
  · subst hjk
    obtain ⟨_, o', ho', hall⟩ := mem_ready.1 hj
    have : o' = o := Option.some.inj (ho'.symm.trans ho)
    subst this
    exact getD_set_true (hall e he hb)
  · rw [getD_set_ne false hjk] at hk
    exact getD_set_true (hc k o ho hk e he hb)
theorem RAny_first {Q : Act → Heap → Prop} {oi : Oper} {W : Nat → Bool} (hW : ∀ listed : Array Bool, Closed ops listed → listed.getD i false = false → ∀ j ∈ Region.ready .any ops listed, W j = false) (hi : ops[i]? = some oi) (hsel : ∀ (j : Nat) (o : Oper) cs b, ops[j]? = some o → o.op ≠ .select cs b) :
    ∀ (fuel : Nat) (listed : Array Bool) (a : Act) (h : Heap), Closed ops listed →
      (∀ j oj, ops[j]? = some oj → j ≠ i → listed.getD j true = false → W j = false → oi.apart ops oj = true ∧ compat (kd i) (kd j) = true) →
      i ∈ Region.ready .any ops listed → stepK P ops kd i (RAny P ops kd Q fuel (listed.setIfInBounds i true)) a h → RAny P ops kd Q (fuel + 1) listed a h := by
  intro fuel
  induction fuel with
  | zero =>
    intro listed a h hc hfree hr hs
    refine ⟨fun h0 => (by rw [h0] at hr; cases hr), fun j hj => ?_⟩
    by_cases hji : j = i
    · subst hji; exact hs
    · obtain ⟨v, h', hK⟩ := stepK_some hi hs
      have := ready_mono hj hji
      rw [hK.1] at this
      cases this
  | succ fuel ih =>
    intro listed a h hc hfree hr hs
    refine ⟨fun h0 => (by rw [h0] at hr; cases hr), fun j hj => ?_⟩
    by_cases hji : j = i
    · subst hji; exact hs
    · obtain ⟨hjun, oj, hoj, _⟩ := mem_ready.1 hj
      have hi0 := getD_both' (mem_ready.1 hr).1
      obtain ⟨hap, hcm⟩ := hfree j oj hoj hji hjun (hW listed hc hi0 j hj)
      have hs1 : stepK P ops kd i (fun a' h' => stepK P ops kd j (RAny P ops kd Q fuel ((listed.setIfInBounds i true).setIfInBounds j true)) a' h') a h :=
        stepK_mono (fun a' h' hA => hA.2 j (ready_mono hj hji)) hs
      have hs2 := swapK hi hoj hap (fun cs b => hsel i oi cs b hi) (fun cs b => hsel j oj cs b hoj) hcm hs1
      refine stepK_mono (fun a' h' h3 => ih (listed.setIfInBounds j true) a' h' (hc.set hj) ?_ (ready_mono hr (Ne.symm hji)) ?_) hs2
      · intro k ok hk hki hun hno
        refine hfree k ok hk hki ?_ hno
        by_cases hjk : j = k
        · subst hjk; exact hjun
        · rw [getD_set_ne true hjk] at hun; exact hun
      · rw [Array.setIfInBounds_comm _ _ hji]
        exact h3

/-! ### The same by bits: one number an operation, whose bit i says that it waits for i -/
def maskOf (M : List Nat) (o : Oper) : Nat := o.after.toList.foldl (fun s e => bif Region.binds .any e then (s ||| 2 ^ e.on) ||| M.getD e.on 0 else s) 0
def masks : List Oper → List Nat → List Nat
  | [], M => M
  | o :: r, M => masks r (M ++ [maskOf M o])
theorem mask_fold {M : List Nat} {i : Nat} {es : List Edge} (h : ∀ e ∈ es, Region.binds .any e = true → e.on ≠ i ∧ (M.getD e.on 0).testBit i = false) :
    ∀ s : Nat, s.testBit i = false → (es.foldl (fun s e => bif Region.binds .any e then (s ||| 2 ^ e.on) ||| M.getD e.on 0 else s) s).testBit i = false := by
  induction es with
  | nil => intro s hs; exact hs
  | cons e es ih =>
    intro s hs
    rw [List.foldl_cons]
    refine ih (fun e' he' => h e' (List.mem_cons_of_mem _ he')) _ ?_
    cases hb : Region.binds .any e with
    | false => exact hs
    | true =>
      obtain ⟨h1, h2⟩ := h e List.mem_cons_self hb
      simp only [cond_true, Nat.testBit_or, hs, h2, Bool.or_false, Bool.false_or]
      rw [Nat.testBit_two_pow]
      simpa using h1
theorem mask_listed {listed : Array Bool} (hc : Closed ops listed) (hi : listed.getD i false = false) {M : List Nat} (hM : ∀ j, listed.getD j false = true → (M.getD j 0).testBit i = false)
    {k : Nat} {o : Oper} (ho : ops[k]? = some o) (hd : ∀ e ∈ o.after, Region.binds .any e = true → listed.getD e.on false = true) : (maskOf M o).testBit i = false := by
  unfold maskOf
  refine mask_fold (fun e he hb => ?_) 0 (Nat.zero_testBit i)
  have hl := hd e (by simpa using he) hb
  refine ⟨?_, hM _ hl⟩
  rintro rfl
  rw [hi] at hl; cases hl
theorem getD_lt {l m : List Nat} {k : Nat} (h : k < l.length) : (l ++ m).getD k 0 = l.getD k 0 := by
  rw [List.getD_eq_getElem?_getD, List.getD_eq_getElem?_getD, List.getElem?_append_left h]
theorem getD_at (l : List Nat) (x : Nat) : (l ++ [x]).getD l.length 0 = x := by
  rw [List.getD_eq_getElem?_getD]; simp
theorem masks_step {listed : Array Bool} (hc : Closed ops listed) (hi : listed.getD i false = false) :
    ∀ (l : List Oper) (M : List Nat), (∀ j, l[j]? = ops[M.length + j]?) → (∀ j, listed.getD j false = true → (M.getD j 0).testBit i = false) →
      (∀ j, listed.getD j false = true → ((masks l M).getD j 0).testBit i = false)
  | [], M, _, hM => hM
  | o :: l, M, hl, hM => by
    unfold masks
    have ho : ops[M.length]? = some o := by simpa using (hl 0).symm
    refine masks_step hc hi l _ (fun j => ?_) fun j hj => ?_
    · have := hl (j + 1)
      rw [List.length_append, List.length_singleton, Nat.add_assoc, Nat.add_comm 1 j]
      simpa using this
    · rcases Nat.lt_trichotomy j M.length with hlt | heq | hgt
      · rw [getD_lt hlt]; exact hM j hj
      · subst heq
        rw [getD_at]
        exact mask_listed hc hi hM ho (fun e he hb => hc _ o ho hj e he hb)
      · have : (M ++ [maskOf M o]).getD j 0 = 0 := by
          rw [List.getD_eq_getElem?_getD, List.getElem?_eq_none (by simp; omega)]; rfl
        rw [this]; exact Nat.zero_testBit i
theorem masks_out : ∀ (l : List Oper) (M : List Nat), (masks l M).length = M.length + l.length
  | [], M => rfl
  | o :: l, M => by unfold masks; rw [masks_out l]; simp; omega
theorem masks_at : ∀ (l : List Oper) (M : List Nat) (j : Nat) (o : Oper), (∀ k, l[k]? = ops[M.length + k]?) → M.length ≤ j → ops[j]? = some o →
    ∃ M', (masks l M).getD j 0 = maskOf M' o ∧ ∀ k, (M'.getD k 0 = (masks l M).getD k 0) ∨ (j ≤ k ∧ M'.getD k 0 = 0)
  | [], M, j, o, hl, hj, ho => by
    have := hl (j - M.length)
    rw [show M.length + (j - M.length) = j from by omega, ho] at this
    simp at this
  | q :: l, M, j, o, hl, hj, ho => by
    have hq : ops[M.length]? = some q := by simpa using (hl 0).symm
    have hl' : ∀ k, l[k]? = ops[(M ++ [maskOf M q]).length + k]? := fun k => by
      have := hl (k + 1)
      rw [List.length_append, List.length_singleton, Nat.add_assoc, Nat.add_comm 1 k]
      simpa using this
    have pre : ∀ (l : List Oper) (M : List Nat) (k : Nat), k < M.length → (masks l M).getD k 0 = M.getD k 0 := by
      intro l
      induction l with
      | nil => intro M k _; rfl
      | cons x l ih =>
        intro M k hk
        unfold masks
        rw [ih _ k (by simp; omega), getD_lt hk]
    by_cases hjm : j = M.length
    · subst hjm
      have : q = o := Option.some.inj (hq.symm.trans ho)
      subst this
      refine ⟨M, ?_, fun k => ?_⟩
      · unfold masks
        rw [pre l _ _ (by simp), getD_at]
      · by_cases hk : k < M.length
        · left; unfold masks; rw [pre l _ _ (by simp; omega), getD_lt hk]
        · right; exact ⟨by omega, by rw [List.getD_eq_getElem?_getD, List.getElem?_eq_none (by omega)]; rfl⟩
    · unfold masks
      exact masks_at l _ j o hl' (by simp; omega) ho
theorem ready_not_masks {listed : Array Bool} (hc : Closed ops listed) (hi : listed.getD i false = false) (hj : j ∈ Region.ready .any ops listed) :
    ((masks ops.toList []).getD j 0).testBit i = false := by
  obtain ⟨_, o, ho, hall⟩ := mem_ready.1 hj
  have hl : ∀ k, ops.toList[k]? = ops[([] : List Nat).length + k]? := by simp
  have hM := masks_step hc hi ops.toList [] hl (fun j _ => by simp)
  obtain ⟨M', h1, h2⟩ := masks_at ops.toList [] j o hl (Nat.zero_le _) ho
  rw [h1]
  refine mask_listed hc hi (fun k hk => ?_) ho hall
  rcases h2 k with h3 | ⟨_, h3⟩
  · rw [h3]; exact hM k hk
  · rw [h3]; exact Nat.zero_testBit i
end
end Go.Pt
