/- What each primitive asks at plain values: rewriting laws. No condition. -/
import Derived.Test.YthekbpaekopmfaaPtK
namespace Go.Pt
set_option linter.unusedVariables false
set_option linter.unusedSimpArgs false

/-! ### The primitives, as rewriting -/
section
variable {K : Ret} {h : Heap}
theorem Pick_bool (t : Bool) (a b : Value) : Pick (.bool t) a b K h = K (if t then a else b) h := propext ⟨fun x => x.out, fun x => ⟨x⟩⟩
theorem If_bool (t : Bool) (A B : Prop) : If (.bool t) A B = if t then A else B := by
  cases t <;> exact propext ⟨fun x => x.out, fun x => ⟨x⟩⟩
theorem Gd_bool (b want : Bool) (op : Ret → Heap → Prop) : Gd (.bool b) want op K h = if b = want then op K h else K undef h := propext ⟨fun x => x.out, fun x => ⟨x⟩⟩
theorem Gd_undef (want : Bool) (op : Ret → Heap → Prop) : Gd undef want op K h = K undef h := propext ⟨fun x => x.out, fun x => ⟨x⟩⟩
theorem Ld_at (a : Addr) : Ld (.pointer (some a)) K h = match cell h a with | some v => K v h | none => False := propext ⟨fun x => x.out, fun x => ⟨x⟩⟩
theorem LdA_at (n : Nat) (a : Addr) : LdA n (.pointer (some a)) K h = match loads h a 0 n #[] with | some vs => K (.agg vs) h | none => False := propext ⟨fun x => x.out, fun x => ⟨x⟩⟩
theorem St_at (a : Addr) (v : Value) : St (.pointer (some a)) v K h = match storeOne h a v with | some h' => K undef h' | none => False := propext ⟨fun x => x.out, fun x => ⟨x⟩⟩
theorem StA_at (n : Nat) (a : Addr) (cs : Array Value) : StA n (.pointer (some a)) (.agg cs) K h = (cs.size = n ∧ (match stores h a 0 cs.toList with | some h' => K undef h' | none => False)) := propext ⟨fun x => x.out, fun x => ⟨x⟩⟩
theorem NilC_at (a : Addr) : NilC (.pointer (some a)) K h = K (.pointer (some a)) h := propext ⟨fun x => x.out, fun x => ⟨x⟩⟩
theorem Fld_at (off : Nat) (a : Addr) : Fld off (.pointer (some a)) K h = K (.pointer (some (a.add off))) h := propext ⟨fun x => x.out, fun x => ⟨x⟩⟩
theorem Idx_at (sz : Nat) (a : Addr) (len cap : Nat) (k : IntKind) (n : Int) : Idx sz (.slice (some a) len cap) (.int k n) K h = ((0 ≤ n ∧ n < (len : Int)) ∧ K (.pointer (some (a.add (n.toNat * sz)))) h) := propext ⟨fun x => x.out, fun x => ⟨x⟩⟩
theorem IdxA_at (len sz : Nat) (a : Addr) (k : IntKind) (n : Int) : IdxA len sz (.pointer (some a)) (.int k n) K h = ((0 ≤ n ∧ n < (len : Int)) ∧ K (.pointer (some (a.add (n.toNat * sz)))) h) := propext ⟨fun x => x.out, fun x => ⟨x⟩⟩
theorem Bin_eq (c : Cls) (op : BinOp) (x y : Value) : Bin c op x y K h = match binV c op x y with | some v => K v h | none => False := propext ⟨fun x => x.out, fun x => ⟨x⟩⟩
section
variable (c : Cls) (k : IntKind) (a b : Int)
theorem Bin_add : Bin c .add (.int k a) (.int k b) K h = K (.int k (k.wrap (a + b))) h := by rw [Bin_eq]; simp [binV, binI]
theorem Bin_sub : Bin c .sub (.int k a) (.int k b) K h = K (.int k (k.wrap (a - b))) h := by rw [Bin_eq]; simp [binV, binI]
theorem Bin_mul : Bin c .mul (.int k a) (.int k b) K h = K (.int k (k.wrap (a * b))) h := by rw [Bin_eq]; simp [binV, binI]
theorem Bin_quo (hb : b ≠ 0) : Bin c .quo (.int k a) (.int k b) K h = K (.int k (k.wrap (a.tdiv b))) h := by rw [Bin_eq]; simp [binV, binI, hb]
theorem Bin_rem (hb : b ≠ 0) : Bin c .rem (.int k a) (.int k b) K h = K (.int k (a.tmod b)) h := by rw [Bin_eq]; simp [binV, binI, hb]
theorem Bin_and : Bin c .and (.int k a) (.int k b) K h = K (.int k (bits .and k a b)) h := by rw [Bin_eq]; simp [binV, binI]
theorem Bin_or : Bin c .or (.int k a) (.int k b) K h = K (.int k (bits .or k a b)) h := by rw [Bin_eq]; simp [binV, binI]
theorem Bin_xor : Bin c .xor (.int k a) (.int k b) K h = K (.int k (bits .xor k a b)) h := by rw [Bin_eq]; simp [binV, binI]
theorem Bin_eql : Bin c .eql (.int k a) (.int k b) K h = K (.bool (a == b)) h := by rw [Bin_eq]; simp [binV, binI]
theorem Bin_neq : Bin c .neq (.int k a) (.int k b) K h = K (.bool (a != b)) h := by rw [Bin_eq]; simp [binV, binI]
theorem Bin_lss : Bin c .lss (.int k a) (.int k b) K h = K (.bool (decide (a < b))) h := by rw [Bin_eq]; simp [binV, binI]
theorem Bin_leq : Bin c .leq (.int k a) (.int k b) K h = K (.bool (decide (a ≤ b))) h := by rw [Bin_eq]; simp [binV, binI]
theorem Bin_gtr : Bin c .gtr (.int k a) (.int k b) K h = K (.bool (decide (a > b))) h := by rw [Bin_eq]; simp [binV, binI]
theorem Bin_geq : Bin c .geq (.int k a) (.int k b) K h = K (.bool (decide (a ≥ b))) h := by rw [Bin_eq]; simp [binV, binI]
theorem Bin_shl (k' : IntKind) (hb : 0 ≤ b) : Bin c .shl (.int k a) (.int k' b) K h = K (.int k (k.wrap (a * 2 ^ (min b.toNat k.bits)))) h := by
  rw [Bin_eq]; have : ¬ b < 0 := by omega
  simp [binV, this]
theorem Bin_shr (k' : IntKind) (hb : 0 ≤ b) : Bin c .shr (.int k a) (.int k' b) K h = K (.int k (a.fdiv (2 ^ (min b.toNat k.bits)))) h := by
  rw [Bin_eq]; have : ¬ b < 0 := by omega
  simp [binV, this]
end
theorem Bin_bool_eql (a b : Bool) : Bin .bool .eql (.bool a) (.bool b) K h = K (.bool (a == b)) h := by rw [Bin_eq]; simp [binV, eqV]
theorem Bin_bool_neq (a b : Bool) : Bin .bool .neq (.bool a) (.bool b) K h = K (.bool (a != b)) h := by rw [Bin_eq]; simp [binV, eqV]; rfl
theorem Bin_ptr_nil_eql (a : Addr) : Bin .pointer .eql (.pointer (some a)) (.pointer none) K h = K (.bool false) h := by rw [Bin_eq]; simp [binV, eqV]
theorem Bin_ptr_nil_neq (a : Addr) : Bin .pointer .neq (.pointer (some a)) (.pointer none) K h = K (.bool true) h := by rw [Bin_eq]; simp [binV, eqV]
theorem Un_not (b : Bool) : Un .not (.bool b) K h = K (.bool !b) h := propext ⟨fun x => x.out, fun x => ⟨x⟩⟩
theorem Un_neg (k : IntKind) (n : Int) : Un .neg (.int k n) K h = K (.int k (k.wrap (0 - n))) h := propext ⟨fun x => x.out, fun x => ⟨x⟩⟩
theorem Un_xor (k : IntKind) (n : Int) : Un .xor (.int k n) K h = K (.int k (bits .xor k (if k.signed then -1 else k.max) n)) h := propext ⟨fun x => x.out, fun x => ⟨x⟩⟩
theorem Cvt_int (k k' : IntKind) (n : Int) : Cvt k (.int k' n) K h = K (.int k (k.wrap n)) h := propext ⟨fun x => x.out, fun x => ⟨x⟩⟩
theorem Ext_at (i : Nat) (vs : Array Value) : Ext i (.tuple vs) K h = match vs[i]? with | some v => K v h | none => False := propext ⟨fun x => x.out, fun x => ⟨x⟩⟩
theorem New_eq (cs : Array Value) (t : TypeId) : New cs t K h = K (.pointer (some ⟨h.size, 0, none⟩)) (h.push (.cells cs t)) := propext ⟨fun x => x.out, fun x => ⟨x⟩⟩
theorem Bld_eq (places : List (Nat × Nat)) (zero : Array Value) (parts : List (Nat × Value)) : Bld places zero parts K h = match Instr.fill (places.toArray[·]?) zero parts with | some cs => K (.agg cs) h | none => False := propext ⟨fun x => x.out, fun x => ⟨x⟩⟩
theorem BldS_eq (el : TypeId) (size len : Nat) (zero : Array Value) (parts : List (Nat × Value)) : BldS el size len zero parts K h = match Instr.fill (fun i => some (i * size, size)) ((Array.range (len * size)).map (zero[· % zero.size]!)) parts with | some cs => K (.slice (some ⟨h.size, 0, none⟩) len len) (h.push (.cells cs el)) | none => False := propext ⟨fun x => x.out, fun x => ⟨x⟩⟩
theorem MkS_eq (el : TypeId) (bytes size : Nat) (zero : Array Value) (j k : IntKind) (l c : Int) : MkS el bytes size zero (.int j l) (.int k c) K h = ((0 ≤ l ∧ l ≤ c ∧ c ≤ 281474976710656 ∧ bytes * c ≤ 281474976710656) ∧
      K (.slice (some ⟨h.size, 0, none⟩) l.toNat c.toNat) (h.push (.cells ((Array.range (c.toNat * size)).map (zero[· % zero.size]!)) el))) := propext ⟨fun x => x.out, fun x => ⟨x⟩⟩
theorem Slc_eq (sz : Nat) (a : Option Addr) (len cap : Nat) (lo hi mx : Option Value) : Slc sz (.slice a len cap) lo hi mx K h = match bounds3 len cap lo hi mx with
    | some (l, h', m) => K (.slice (if m = l then a else a.map (·.add (l * sz))) (h' - l) (m - l)) h
    | none => False := propext ⟨fun x => x.out, fun x => ⟨x⟩⟩
theorem Len_at (a : Option Addr) (n c : Nat) : Len (.slice a n c) K h = K (.int .i64 n) h := propext ⟨fun x => x.out, fun x => ⟨x⟩⟩
theorem MaxV_two (k k' : IntKind) (x y : Int) : MaxV [.int k x, .int k' y] K h = K (.int k (if y > x then y else x)) h := propext ⟨fun x => by have := x.out; simpa [foldI] using this, fun x => ⟨by simpa [foldI] using x⟩⟩
theorem MinV_two (k k' : IntKind) (x y : Int) : MinV [.int k x, .int k' y] K h = K (.int k (if y < x then y else x)) h := propext ⟨fun x => by have := x.out; simpa [foldI] using this, fun x => ⟨by simpa [foldI] using x⟩⟩
theorem FldV_at (off : Nat) (cs : Array Value) : FldV off (.agg cs) K h = match cs[off]? with | some v => K v h | none => False := propext ⟨fun x => x.out, fun x => ⟨x⟩⟩
theorem FldVA_at (off n : Nat) (cs : Array Value) : FldVA off n (.agg cs) K h = K (.agg (cs.extract off (off + n))) h := propext ⟨fun x => x.out, fun x => ⟨x⟩⟩
theorem IdxV_at (len sz : Nat) (cs : Array Value) (k : IntKind) (n : Int) : IdxV len sz (.agg cs) (.int k n) K h = ((0 ≤ n ∧ n < (len : Int)) ∧ (match cs[n.toNat * sz]? with | some v => K v h | none => False)) := propext ⟨fun x => x.out, fun x => ⟨x⟩⟩
theorem CallF_eq (P : Program) (f : FuncId) (args : List Value) : CallF P f args K h = CallH P f args.toArray K h := propext ⟨fun x => x.out, fun x => ⟨x⟩⟩
theorem CallV_eq (P : Program) (f : FuncId) (first captured : Array Value) (args : List Value) : CallV P (.func (.func f) first captured) args K h = (hasBody P f = true ∧ CallH P f (first ++ args.toArray ++ captured) K h) := propext ⟨fun x => x.out, fun x => ⟨x⟩⟩
theorem add_mk (b o n : Nat) : (⟨b, o, none⟩ : Addr).add n = ⟨b, o + n, none⟩ := by
  unfold Addr.add; split
  · rename_i e; subst e; rfl
  · rfl
end
end Go.Pt
