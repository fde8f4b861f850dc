/- The primitives in which a function is written down: one for each kind of operation; opPt writes an operation of the translation in them. No condition. -/
import Derived.Test.YthekbpaekopmfaaPtA
import Derived.Laws.Tables
import Derived.Laws.Slices
import Derived.WalkKit
namespace Go.Pt
set_option linter.unusedVariables false
set_option linter.unusedSimpArgs false

/-! ### What is known of a frame's slots -/
def Env := Nat → Option Value
def Env.get (e : Env) (t : Nat) : Option Value := e t
def Env.nil : Env := fun _ => none
def Env.cons (e : Env) (d : Nat) (v : Value) : Env := fun t => bif Nat.beq d t then some v else e t
def Env.val (e : Env) : Operand → Option Value
  | .tmp t => e.get t
  | .const v => some v
  | .global g => some (.pointer (some ⟨g, 0, none⟩))
  | .func f => some (.func (.func f) #[] #[])
structure Rep (n : Nat) (ds : List Deferred) (e : Env) (a : Act) : Prop where
  size : a.tmps.size = n
  defers : a.defers = ds
  get : ∀ t v, e.get t = some v → a.tmps.getD t undef = v
section
variable {n : Nat} {ds : List Deferred} {e : Env} {a : Act}
theorem Rep.val (r : Rep n ds e a) {x : Operand} {v : Value} (h : e.val x = some v) : a.eval x = v := by
  cases x with
  | tmp t => exact r.get t v h
  | const u => exact Option.some.inj h
  | global g => exact Option.some.inj h
  | func f => exact Option.some.inj h
theorem Rep.put (r : Rep n ds e a) {d : Nat} {v : Value} (hd : Nat.blt d n = true) : Rep n ds (e.cons d v) (a.put (some d) v) := by
  have hd' : d < n := by simpa using hd
  refine ⟨by simp [Act.put, r.size], by simp [Act.put, r.defers], fun t u ht => ?_⟩
  unfold Env.get Env.cons at ht
  by_cases hdt : d = t
  · subst hdt
    have hlt : d < a.tmps.size := by rw [r.size]; exact hd'
    simp at ht
    subst ht
    simp [Act.put, Array.getD_eq_getD_getElem?, hlt]
  · have hb : Nat.beq d t = false := by
      cases hq : Nat.beq d t with
      | false => rfl
      | true => exact absurd (Nat.eq_of_beq_eq_true hq) hdt
    rw [hb] at ht
    have := r.get t u ht
    simp only [Act.put, Array.getD_eq_getD_getElem?, Array.getElem?_setIfInBounds_ne hdt] at this ⊢
    exact this
end

def get1 (e : Env) (x : Operand) (k : Value → Prop) : Prop :=
  match e.val x with
  | some v => k v
  | none => False
def getL (e : Env) : List Operand → Option (List Value)
  | [] => some []
  | x :: xs => match e.val x, getL e xs with
    | some v, some vs => some (v :: vs)
    | _, _ => none
def getO (e : Env) : Option Operand → Option (Option Value)
  | none => some none
  | some x => match e.val x with
    | some v => some (some v)
    | none => none
theorem get1_spec {e : Env} {x : Operand} {k : Value → Prop} (h : get1 e x k) : ∃ v, e.val x = some v ∧ k v := by
  unfold get1 at h
  cases hv : e.val x with
  | none => rw [hv] at h; exact h.elim
  | some v => rw [hv] at h; exact ⟨v, rfl, h⟩
theorem getL_spec {n : Nat} {ds : List Deferred} {e : Env} {a : Act} (r : Rep n ds e a) : ∀ {xs : List Operand} {vs : List Value}, getL e xs = some vs → xs.map a.eval = vs
  | [], vs, h => by simp [getL] at h; subst h; rfl
  | x :: xs, vs, h => by
    simp only [getL] at h
    cases hx : e.val x with
    | none => simp [hx] at h
    | some v =>
      cases hs : getL e xs with
      | none => simp [hx, hs] at h
      | some us =>
        simp [hx, hs] at h
        subst h
        simp [r.val hx, getL_spec r hs]
theorem getO_spec {n : Nat} {ds : List Deferred} {e : Env} {a : Act} (r : Rep n ds e a) {x : Option Operand} {v : Option Value} (h : getO e x = some v) : x.map a.eval = v := by
  cases x with
  | none => simp [getO] at h; subst h; rfl
  | some x =>
    simp only [getO] at h
    cases hx : e.val x with
    | none => simp [hx] at h
    | some u => simp [hx] at h; subst h; simp [r.val hx]

/-! ### The primitives -/
abbrev Ret := Value → Heap → Prop
section
variable (P : Program)
structure Pick (c a b : Value) (K : Ret) (h : Heap) : Prop where
  out : (
  match c with
  | .bool t => K (if t then a else b) h
  | _ => False)
/-- The cells from one on. -/
def loads (h : Heap) (a : Addr) : Nat → Nat → Array Value → Option (Array Value)
  | _, 0, acc => some acc
  | i, n + 1, acc => match cell h (a.add i) with
    | some v => loads h a (i + 1) n (acc.push v)
    | none => none
def storeOne (h : Heap) (a : Addr) (v : Value) : Option Heap :=
  match v with
  | .agg _ => none
  | .tuple _ => none
  | v => match cell h a with
    | some _ => if frozenAt h a then none else some (setCell h a v)
    | none => none
def stores (h : Heap) (a : Addr) : Nat → List Value → Option Heap
  | _, [] => some h
  | i, v :: vs => match storeOne h (a.add i) v with
    | some h' => stores h' a (i + 1) vs
    | none => none
structure Ld (p : Value) (K : Ret) (h : Heap) : Prop where
  out : (
  match p with
  | .pointer (some a) => match cell h a with
    | some v => K v h
    | none => False
  | _ => False)
structure LdA (n : Nat) (p : Value) (K : Ret) (h : Heap) : Prop where
  out : (
  match p with
  | .pointer (some a) => match loads h a 0 n #[] with
    | some vs => K (.agg vs) h
    | none => False
  | _ => False)
structure St (p v : Value) (K : Ret) (h : Heap) : Prop where
  out : (
  match p with
  | .pointer (some a) => match storeOne h a v with
    | some h' => K undef h'
    | none => False
  | _ => False)
structure StA (n : Nat) (p v : Value) (K : Ret) (h : Heap) : Prop where
  out : (
  match p, v with
  | .pointer (some a), .agg cs => cs.size = n ∧ (match stores h a 0 cs.toList with
    | some h' => K undef h'
    | none => False)
  | _, _ => False)
structure NilC (p : Value) (K : Ret) (h : Heap) : Prop where
  out : (
  match p with
  | .pointer (some a) => K (.pointer (some a)) h
  | _ => False)
structure Fld (off : Nat) (p : Value) (K : Ret) (h : Heap) : Prop where
  out : (
  match p with
  | .pointer (some a) => K (.pointer (some (a.add off))) h
  | _ => False)
structure Idx (sz : Nat) (x i : Value) (K : Ret) (h : Heap) : Prop where
  out : (
  match x, i with
  | .slice (some a) len _, .int _ n => (0 ≤ n ∧ n < (len : Int)) ∧ K (.pointer (some (a.add (n.toNat * sz)))) h
  | _, _ => False)
structure IdxA (len sz : Nat) (x i : Value) (K : Ret) (h : Heap) : Prop where
  out : (
  match x, i with
  | .pointer (some a), .int _ n => (0 ≤ n ∧ n < (len : Int)) ∧ K (.pointer (some (a.add (n.toNat * sz)))) h
  | _, _ => False)
inductive Cls where
  | int | bool | string | pointer | slice | map | func | iface | other
def clsOf (t : TypeId) : Cls :=
  match P.underlying t with
  | some .bool => .bool
  | some (.int _) => .int
  | some .string => .string
  | some (.pointer _) => .pointer
  | some (.slice _) => .slice
  | some (.map _ _) => .map
  | some (.func _ _ _) => .func
  | some (.interface _) => .iface
  | _ => .other
def binI (op : BinOp) (k : IntKind) (a b : Int) : Option Value :=
  match op with
  | .add => some (.int k (k.wrap (a + b)))
  | .sub => some (.int k (k.wrap (a - b)))
  | .mul => some (.int k (k.wrap (a * b)))
  | .quo => if b = 0 then none else some (.int k (k.wrap (a.tdiv b)))
  | .rem => if b = 0 then none else some (.int k (a.tmod b))
  | .and => some (.int k (bits .and k a b))
  | .or => some (.int k (bits .or k a b))
  | .xor => some (.int k (bits .xor k a b))
  | .andNot => some (.int k (bits .andNot k a b))
  | .eql => some (.bool (a == b))
  | .neq => some (.bool (a != b))
  | .lss => some (.bool (a < b))
  | .leq => some (.bool (a ≤ b))
  | .gtr => some (.bool (a > b))
  | .geq => some (.bool (a ≥ b))
  | _ => none
/-- Equality of what isn't a whole number. -/
def eqV (c : Cls) (x y : Value) : Option Bool :=
  match c, x, y with
  | .bool, .bool a, .bool b => some (a == b)
  | .pointer, .pointer none, .pointer b => some b.isNone
  | .pointer, .pointer (some _), .pointer none => some false
  | .slice, .slice none _ _, .slice b _ _ => some b.isNone
  | .slice, .slice (some _) _ _, .slice none _ _ => some false
  | .map, .map none, .map b => some b.isNone
  | .map, .map (some _), .map none => some false
  | .func, .nilFunc, .nilFunc => some true
  | .func, .nilFunc, .func _ _ _ => some false
  | .func, .func _ _ _, .nilFunc => some false
  | .iface, .nilIface, .iface _ _ => some false
  | .iface, .iface _ _, .nilIface => some false
  | _, _, _ => none
def binV (c : Cls) (op : BinOp) (x y : Value) : Option Value :=
  match x, y with
  | .int k a, .int k' b =>
    match op with
    | .shl => if b < 0 then none else some (.int k (k.wrap (a * 2 ^ (min b.toNat k.bits))))
    | .shr => if b < 0 then none else some (.int k (a.fdiv (2 ^ (min b.toNat k.bits))))
    | op => if k = k' then binI op k a b else none
  | x, y =>
    match op with
    | .eql => (eqV c x y).map .bool
    | .neq => (eqV c x y).map fun b => .bool !b
    | _ => none
structure Bin (c : Cls) (op : BinOp) (x y : Value) (K : Ret) (h : Heap) : Prop where
  out : (
  match binV c op x y with
  | some v => K v h
  | none => False)
structure Un (op : UnOp) (x : Value) (K : Ret) (h : Heap) : Prop where
  out : (
  match op, x with
  | .not, .bool b => K (.bool !b) h
  | .neg, .int k n => K (.int k (k.wrap (0 - n))) h
  | .xor, .int k n => K (.int k (bits .xor k (if k.signed then -1 else k.max) n)) h
  | _, _ => False)
/-- A whole number as one of another kind. -/
structure Cvt (k : IntKind) (x : Value) (K : Ret) (h : Heap) : Prop where
  out : (
  match x with
  | .int _ n => K (.int k (k.wrap n)) h
  | _ => False)
structure Ext (i : Nat) (x : Value) (K : Ret) (h : Heap) : Prop where
  out : (
  match x with
  | .tuple vs => match vs[i]? with
    | some v => K v h
    | none => False
  | _ => False)
structure New (cells : Array Value) (t : TypeId) (K : Ret) (h : Heap) : Prop where
  out : (
  K (.pointer (some ⟨h.size, 0, none⟩)) (h.push (.cells cells t)))
/-- An aggregate of parts, into the zero value's cells. -/
structure Bld (places : List (Nat × Nat)) (zero : Array Value) (parts : List (Nat × Value)) (K : Ret) (h : Heap) : Prop where
  out : (
  match Instr.fill (places.toArray[·]?) zero parts with
  | some cs => K (.agg cs) h
  | none => False)
structure BldA (size : Nat) (zero : Array Value) (parts : List (Nat × Value)) (K : Ret) (h : Heap) : Prop where
  out : (
  match Instr.fill (fun i => some (i * size, size)) zero parts with
  | some cs => K (.agg cs) h
  | none => False)
structure BldS (elem : TypeId) (size len : Nat) (zero : Array Value) (parts : List (Nat × Value)) (K : Ret) (h : Heap) : Prop where
  out : (
  match Instr.fill (fun i => some (i * size, size)) ((Array.range (len * size)).map (zero[· % zero.size]!)) parts with
  | some cs => K (.slice (some ⟨h.size, 0, none⟩) len len) (h.push (.cells cs elem))
  | none => False)
structure Bld0 (elem : TypeId) (K : Ret) (h : Heap) : Prop where
  out : K (.slice (some ⟨h.size, 0, none⟩) 0 0) (h.push (.cells #[] elem))
structure MkS (elem : TypeId) (bytes size : Nat) (zero : Array Value) (len cap : Value) (K : Ret) (h : Heap) : Prop where
  out : (
  match len, cap with
  | .int _ l, .int _ c =>
    (0 ≤ l ∧ l ≤ c ∧ c ≤ 281474976710656 ∧ bytes * c ≤ 281474976710656) ∧
      K (.slice (some ⟨h.size, 0, none⟩) l.toNat c.toNat) (h.push (.cells ((Array.range (c.toNat * size)).map (zero[· % zero.size]!)) elem))
  | _, _ => False)
def bound (x : Option Value) (y dflt : Nat) : Option Nat :=
  match x with
  | none => some dflt
  | some (.int _ i) => if 0 ≤ i ∧ i ≤ (y : Int) then some i.toNat else none
  | _ => none
def bounds3 (len cap : Nat) (lo hi mx : Option Value) : Option (Nat × Nat × Nat) :=
  match bound mx cap cap with
  | some m =>
    match mx, hi with
    | some _, none => none
    | _, _ =>
      match bound hi m len with
      | some h' => match bound lo h' 0 with
        | some l => some (l, h', m)
        | none => none
      | none => none
  | none => none
structure Slc (sz : Nat) (x : Value) (lo hi mx : Option Value) (K : Ret) (h : Heap) : Prop where
  out : (
  match x with
  | .slice a len cap => match bounds3 len cap lo hi mx with
    | some (l, h', m) => K (.slice (if m = l then a else a.map (·.add (l * sz))) (h' - l) (m - l)) h
    | none => False
  | _ => False)
structure Len (x : Value) (K : Ret) (h : Heap) : Prop where
  out : (
  match x with
  | .slice _ n _ => K (.int .i64 n) h
  | _ => False)
structure LenM (x : Value) (K : Ret) (h : Heap) : Prop where
  out : (
  match x with
  | .map none => K (.int .i64 0) h
  | .map (some r) => match h[r]? with
    | some (.map es _) => K (.int .i64 es.size) h
    | _ => False
  | _ => False)
structure LenS (x : Value) (K : Ret) (h : Heap) : Prop where
  out : (
  match x with
  | .string s => K (.int .i64 s.size) h
  | _ => False)
def foldI (f : Int → Int → Int) (k : IntKind) : Int → List Value → Option Int
  | x, [] => some x
  | x, .int _ y :: r => foldI f k (f x y) r
  | _, _ => none
structure MaxV (xs : List Value) (K : Ret) (h : Heap) : Prop where
  out : (
  match xs with
  | .int k x :: r => match foldI (fun x y => if y > x then y else x) k x r with
    | some v => K (.int k v) h
    | none => False
  | _ => False)
structure MinV (xs : List Value) (K : Ret) (h : Heap) : Prop where
  out : (
  match xs with
  | .int k x :: r => match foldI (fun x y => if y < x then y else x) k x r with
    | some v => K (.int k v) h
    | none => False
  | _ => False)
def firstOf (size n : Nat) (h : Heap) (x : Value) : Option (Array Value) :=
  match x with
  | .slice (some a) _ _ => loads h a 0 (n * size) #[]
  | .slice none _ _ => some #[]
  | _ => none
structure App (elem : TypeId) (size bytes : Nat) (zero : Array Value) (s x : Value) (K : Ret) (h : Heap) : Prop where
  out : (
  match s, x with
  | .slice base sLen sCap, .slice xb n xc =>
    match firstOf size n h (.slice xb n xc) with
    | none => False
    | some new =>
      if sLen + n ≤ sCap then
        match base with
        | some a => match stores h (a.add (sLen * size)) 0 new.toList with
          | some h' => K (.slice base (sLen + n) sCap) h'
          | none => False
        | none => K (.slice base (sLen + n) sCap) h
      else
        match firstOf size sLen h (.slice base sLen sCap) with
        | none => False
        | some old =>
          ((sLen + n : Nat) : Int) ≤ IntKind.i64.max ∧ Builtin.nextslicecap (sLen + n) sCap * bytes ≤ 2 ^ 48 ∧
            ∀ newCap, sLen + n ≤ newCap → K (.slice (some ⟨h.size, 0, none⟩) (sLen + n) newCap) (h.push (.cells (old ++ new ++ Builtin.zeroCells zero (newCap - (sLen + n))) elem))
  | _, _ => False)
structure FldV (off : Nat) (x : Value) (K : Ret) (h : Heap) : Prop where
  out : (
  match x with
  | .agg cs => match cs[off]? with
    | some v => K v h
    | none => False
  | _ => False)
structure FldVA (off n : Nat) (x : Value) (K : Ret) (h : Heap) : Prop where
  out : (
  match x with
  | .agg cs => K (.agg (cs.extract off (off + n))) h
  | _ => False)
structure IdxS (x i : Value) (K : Ret) (h : Heap) : Prop where
  out : (
  match x, i with
  | .string s, .int _ n => 0 ≤ n ∧ (match s[n.toNat]? with
    | some b => K (.int .u8 b.toNat) h
    | none => False)
  | _, _ => False)
structure IdxV (len sz : Nat) (x i : Value) (K : Ret) (h : Heap) : Prop where
  out : (
  match x, i with
  | .agg cs, .int _ n => (0 ≤ n ∧ n < (len : Int)) ∧ (match cs[n.toNat * sz]? with
    | some v => K v h
    | none => False)
  | _, _ => False)
def hasBody (f : FuncId) : Bool :=
  match P.funcs[f]? with
  | some fn => fn.body.isSome && fn.name != "runtime.NumGoroutine"
  | none => false
structure CallF (f : FuncId) (args : List Value) (K : Ret) (h : Heap) : Prop where
  out : (CallH P f args.toArray K h)
structure QCall (f : FuncId) (args : List Value) (K : Ret) (h : Heap) : Prop where
  out : (∃ v, CallH P f args.toArray (fun v' h' => v' = v ∧ h' = h) h ∧ K v h)
/-- A call that lays new memory alone. -/
structure ACall (f : FuncId) (args : List Value) (K : Ret) (h : Heap) : Prop where
  out : CallH P f args.toArray (fun v h' => Grows h h' ∧ K v h') h
/-- A loop's yield is called: a round. -/
def YieldH (l : Nat) (args : List Value) (K : Ret) (h : Heap) : Prop :=
  match h[l]? with
  | some (.loop r) => args.length = r.params.size ∧ RoundH P l r.fn ((r.params.zip args.toArray).foldl (fun tmps (t, a) => tmps.setIfInBounds t a) r.tmps) r.assign r.body K h
  | _ => False
structure CallV (fv : Value) (args : List Value) (K : Ret) (h : Heap) : Prop where
  out : (
  match fv with
  | .func (.func f) first captured => hasBody P f = true ∧ CallH P f (first ++ args.toArray ++ captured) K h
  | .func (.yield l) first captured => first = #[] ∧ captured = #[] ∧ YieldH P l args K h
  | _ => False)
structure Lk (zero : Value) (x i : Value) (ok : Bool) (K : Ret) (h : Heap) : Prop where
  out : (
  match x, i with
  | .map none, .int _ _ => K (if ok then .tuple #[zero, .bool false] else zero) h
  | .map (some r), .int k n => match h[r]? with
    | some (.map es _) => match Instr.findNow (.int k) (.int k n) es.toList 0 with
      | some (some (_, v)) => K (if ok then .tuple #[v, .bool true] else v) h
      | some none => K (if ok then .tuple #[zero, .bool false] else zero) h
      | none => False
    | _ => False
  | _, _ => False)
structure MUpd (x i v : Value) (K : Ret) (h : Heap) : Prop where
  out : (
  match x, i with
  | .map (some r), .int k n => match h[r]? with
    | some (.map es clock) => match Instr.findNow (.int k) (.int k n) es.toList 0 with
      | some (some (j, _)) => K undef (h.setIfInBounds r (.map (es.modify j fun e => { e with key := .int k n, val := v }) clock))
      | some none => K undef (h.setIfInBounds r (.map (es.push { key := .int k n, val := v, born := clock }) (clock + 1)))
      | none => False
    | _ => False
  | _, _ => False)
/-- A range over a map begins. -/
structure RngM (x : Value) (K : Ret) (h : Heap) : Prop where
  out : (
  match x with
  | .map none => K (.pointer (some ⟨h.size, 0, none⟩)) (h.push (.mapIter none 0 #[] 0))
  | .map (some m) => match h[m]? with
    | some (.map _ clock) => K (.pointer (some ⟨h.size, 0, none⟩)) (h.push (.mapIter (some m) clock #[] clock))
    | _ => False
  | _ => False)
/-- It goes on, to any that wasn't seen. -/
structure NxtM (x : Value) (K : Ret) (h : Heap) : Prop where
  out : (
  match x with
  | .pointer (some ⟨r, 0, none⟩) => match h[r]? with
    | some (.mapIter none _ _ _) => K (.tuple #[.bool false]) h
    | some (.mapIter (some m) since seen last) => match h[m]? with
      | some (.map es clock) => (∀ e ∈ es, e.born < last ∧ e.born < since) ∧ ((∀ e ∈ es, seen.contains e.born = true) → K (.tuple #[.bool false]) h) ∧
          ∀ e ∈ es, seen.contains e.born = false → K (.tuple #[.bool true, e.key, e.val]) (h.setIfInBounds r (.mapIter (some m) since (seen.push e.born) clock))
      | _ => False
    | _ => False
  | _ => False)
/-- The entry at which it is. -/
structure EntM (x : Value) (K : Ret) (h : Heap) : Prop where
  out : (
  match x with
  | .pointer (some ⟨r, 0, none⟩) => match h[r]? with
    | some (.mapIter (some m) _ seen stepped) => match h[m]? with
      | some (.map es clock) => clock = stepped ∧ match seen.back? with
        | some stamp => match es.find? (fun e => e.born == stamp) with
          | some e => K (.tuple #[e.key, e.val]) h
          | none => False
        | none => False
      | _ => False
    | _ => False
  | _ => False)
structure Clr (zero : Array Value) (x : Value) (K : Ret) (h : Heap) : Prop where
  out : (
  match x with
  | .slice none _ _ => K (.tuple #[]) h
  | .slice (some a) n _ => match stores h a 0 (Builtin.zeroCells zero n).toList with
    | some h' => K (.tuple #[]) h'
    | none => False
  | _ => False)
structure MDel (x i : Value) (K : Ret) (h : Heap) : Prop where
  out : (
  match x, i with
  | .map none, .int _ _ => K (.tuple #[]) h
  | .map (some r), .int k n => match h[r]? with
    | some (.map es clock) => match Instr.findNow (.int k) (.int k n) es.toList 0 with
      | some (some (j, _)) => K (.tuple #[]) (h.setIfInBounds r (.map (es.eraseIdxIfInBounds j) clock))
      | some none => K (.tuple #[]) h
      | none => False
    | _ => False
  | _, _ => False)
structure MkM (K : Ret) (h : Heap) : Prop where
  out : (K (.map (some h.size)) (h.push (.map #[] 0)))
end

/-! ### An operation, told by the primitives -/
section
variable (P : Program)
def oneCell (t : TypeId) : Bool :=
  match P.underlying t with
  | some (.struct _) => false
  | some (.array _ _) => false
  | some _ => Nat.beq (P.cellsOf t) 1
  | none => false
def aggB (t : TypeId) : Bool :=
  match P.underlying t with
  | some (.struct _) => true
  | some (.array _ _) => true
  | _ => false
def zeroOf (t : TypeId) : Option Value := match P.info? t with
  | some i => i.zero
  | none => none
def fieldOf (s : TypeId) (f : Nat) : Option (Nat × TypeId) :=
  match P.underlying s with
  | some (.struct fs) => match fs[f]? with
    | some fd => some (fd.offset, fd.type)
    | none => none
  | _ => none
def partsOf (e : Env) : List (Nat × Operand) → Option (List (Nat × Value))
  | [] => some []
  | (i, x) :: r => match e.val x, partsOf e r with
    | some v, some vs => some ((i, v) :: vs)
    | _, _ => none
def opPt (qs : List FuncId) (e : Env) (o : Oper) (K : Ret) (h : Heap) : Prop :=
  match o.op with
  | .move x => get1 e x fun v => K v h
  | .assign x => get1 e x fun v => K v h
  | .pick c a b => get1 e c fun c => get1 e a fun a => get1 e b fun b => Pick c a b K h
  | .load t x => get1 e x fun p => bif oneCell P t then Ld p K h else bif aggB P t then LdA (P.cellsOf t) p K h else False
  | .store t x y => get1 e x fun p => get1 e y fun v => bif oneCell P t then St p v K h else bif aggB P t then StA (P.cellsOf t) p v K h else False
  | .nilCheck x => get1 e x fun p => NilC p K h
  | .fieldAddr s x f => get1 e x fun p =>
    match fieldOf P s f with
    | some (off, t) => bif Nat.beq (P.cellsOf t) 0 then False else Fld off p K h
    | none => False
  | .field s x f => get1 e x fun v =>
    match fieldOf P s f with
    | some (off, t) => bif oneCell P t then FldV off v K h else bif aggB P t then FldVA off (P.cellsOf t) v K h else False
    | none => False
  | .indexAddr t x i => get1 e x fun x => get1 e i fun i =>
    match P.underlying t with
    | some (.slice el) => bif Nat.beq (P.cellsOf el) 0 then False else Idx (P.cellsOf el) x i K h
    | some (.array n el) => bif Nat.beq (P.cellsOf el) 0 then False else IdxA n (P.cellsOf el) x i K h
    | _ => False
  | .index t x i => get1 e x fun x => get1 e i fun i =>
    match P.underlying t with
    | some (.array n el) => bif oneCell P el then IdxV n (P.cellsOf el) x i K h else False
    | some .string => IdxS x i K h
    | _ => False
  | .binOp op t x y _ => get1 e x fun x => get1 e y fun y => Bin (clsOf P t) op x y K h
  | .unOp op _ x => get1 e x fun x => Un op x K h
  | .convert src dst x => get1 e x fun x =>
    match P.underlying src, P.underlying dst with
    | some (.int _), some (.int k) => Cvt k x K h
    | _, _ => False
  | .extract x i => get1 e x fun x => Ext i x K h
  | .alloc t => match zeroOf P t with
    | some z => New z.cells t K h
    | none => False
  | .box t x => get1 e x fun v => New v.cells t K h
  | .build t parts => match partsOf e parts.toList with
    | some ps => match P.underlying t, zeroOf P t with
      | some (.struct fields), some z => match fields.toList.mapM (fun f => (P.info? f.type).map fun i => (f.offset, i.size)) with
        | some places => Bld places z.cells ps K h
        | none => False
      | some (.array _ el), some z => bif (P.info? el).isSome then BldA (P.cellsOf el) z.cells ps K h else False
      | _, _ => False
    | none => False
  | .buildSlice t len parts => match partsOf e parts.toList with
    | some ps => match P.underlying t with
      | some (.slice el) => match zeroOf P el with
        | some z => bif Nat.ble (len * P.cellsOf el) 16777216 && Nat.blt 0 (len * P.cellsOf el) then BldS el (P.cellsOf el) len z.cells ps K h else bif Nat.beq len 0 && ps.isEmpty then Bld0 el K h else False
        | none => False
      | _ => False
    | none => False
  | .makeSlice t l c => get1 e l fun l => get1 e c fun c =>
    match P.underlying t with
    | some (.slice el) => match zeroOf P el with
      | some z => MkS el (P.bytesOf el) (P.cellsOf el) z.cells l c K h
      | none => False
    | _ => False
  | .slice t x lo hi mx => get1 e x fun x =>
    match getO e lo, getO e hi, getO e mx with
    | some lo, some hi, some mx => match P.underlying t with
      | some (.slice el) => bif (P.info? el).isSome then Slc (P.cellsOf el) x lo hi mx K h else False
      | _ => False
    | _, _, _ => False
  | .makeFunc fn first captured => match getL e first.toList, getL e captured.toList with
    | some f, some c => K (.func fn f.toArray c.toArray) h
    | _, _ => False
  | .makeMap _ none => MkM K h
  | .lookup t x i ok => get1 e x fun x => get1 e i fun i =>
    match P.underlying t with
    | some (.map k el) => match P.underlying k, zeroOf P el with
      | some (.int _), some z => Lk z x i ok K h
      | _, _ => False
    | _ => False
  | .mapUpdate t x i y => get1 e x fun x => get1 e i fun i => get1 e y fun y =>
    match P.underlying t with
    | some (.map k _) => match P.underlying k with
      | some (.int _) => MUpd x i y K h
      | _ => False
    | _ => False
  | .range t x => get1 e x fun x => match P.underlying t with
    | some (.map _ _) => RngM x K h
    | _ => False
  | .next x false => get1 e x fun x => NxtM x K h
  | .entry x => get1 e x fun x => EntM x K h
  | .call c =>
    match getL e c.args.toList with
    | none => False
    | some args =>
      match c.callee with
      | .value (.func f) => bif hasBody P f then (bif qs.elem f then QCall P f args K h else bif qs.elem (f + 1000000) then ACall P f args K h else CallF P f args K h) else False
      | .value x => get1 e x fun fv => CallV P fv args K h
      | .invoke _ _ => False
      | .builtin b =>
        match b, args with
        | .len, [x] => match (c.argTypes[0]?).bind P.underlying with
          | some (.slice _) => Len x K h
          | some (.map _ _) => LenM x K h
          | some .string => LenS x K h
          | _ => False
        | .max, xs => MaxV xs K h
        | .min, xs => MinV xs K h
        | .append, [s, x] => match (c.argTypes[0]?).bind P.underlying, (c.argTypes[1]?).bind P.underlying with
          | some (.slice el), some (.slice _) => match zeroOf P el with
            | some z => bif Nat.beq (P.bytesOf el) 0 then False else App el (P.cellsOf el) (P.bytesOf el) z.cells s x K h
            | none => False
          | _, _ => False
        | .clear, [x] => match (c.argTypes[0]?).bind P.underlying with
          | some (.slice el) => match zeroOf P el with
            | some z => Clr z.cells x K h
            | none => False
          | _ => False
        | .delete, [x, i] => match (c.argTypes[0]?).bind P.underlying with
          | some (.map k _) => match P.underlying k with
            | some (.int _) => MDel x i K h
            | _ => False
          | _ => False
        | _, _ => False
  | _ => False
/-- What an operation may do, by its form. -/
def kindOf (qs : List FuncId) (o : Oper) : Kind :=
  match o.op with
  | .move _ | .assign _ | .pick .. | .nilCheck _ | .fieldAddr .. | .field .. | .indexAddr .. | .index .. | .binOp .. | .unOp .. | .convert .. | .extract ..
  | .build .. | .slice .. | .makeFunc .. => .pure
  | .load .. => .sread
  | .lookup .. => .read
  | .alloc _ | .box .. | .buildSlice .. | .makeSlice .. | .makeMap .. => .alloc
  | .call c => match c.callee with
    | .value (.func f) => bif qs.elem f then .read else bif qs.elem (f + 1000000) then .alloc else .write
    | .builtin .len => .sread
    | .builtin .max | .builtin .min => .pure
    | _ => .write
  | _ => .write
end
end Go.Pt
