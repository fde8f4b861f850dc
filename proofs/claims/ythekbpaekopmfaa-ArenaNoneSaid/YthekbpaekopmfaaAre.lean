/- What the functions of the arena compute, but for those that range over a function. Conditions: those typed ahead of each theorem. -/
import Derived.Test.YthekbpaekopmfaaFn
import Derived.Test.YthekbpaekopmfaaPtR
namespace Go.Proofs.Ythekbpaekopmfaa
open Go.Pt
set_option linter.unusedVariables false
set_option linter.unusedSimpArgs false
/-- An arena: its words, its limit, the refs of the clauses that are there. -/
structure Ar where
  ws : List Int
  lim : Int
  lv : List Int
def Iv (n : Int) : Value := .int .i64 n
theorem Iv_cell (n : Int) : isCell (Iv n) = true := rfl
theorem Iv_cells (xs : List Int) : ∀ x ∈ xs.map Iv, isCell x = true := by
  intro x hx
  obtain ⟨n, _, rfl⟩ := List.mem_map.1 hx
  rfl
/-- An arena in memory, and its blocks. -/
structure ArAt (h : Heap) (g : Nat) (a : Ar) (F : List Nat) : Prop where
  ex : ∃ wv wb mb, Blk h g [wv, Iv a.lim, Iv (a.lv.length : Int), .map (some mb)] ∧ Own h wv (a.ws.map Iv) wb ∧ MapAt h mb .i64 (a.lv.map fun n => (n, .bool true)) ∧ F = g :: mb :: wb ∧ g ∉ wb ∧ mb ∉ wb ∧ g ≠ mb
theorem ArAt.fr {h h' : Heap} {g : Nat} {a : Ar} {F S : List Nat} (ha : ArAt h g a F) (f : Fr S h h') (hd : ∀ b ∈ F, b ∉ S) : ArAt h' g a F := by
  obtain ⟨wv, wb, mb, h1, h2, h3, rfl, h4, h5, h6⟩ := ha
  exact ⟨wv, wb, mb, h1.fr f (hd _ (by simp)), h2.fr f (fun b hb => hd _ (by simp [hb])), h3.fr f (hd _ (by simp)), rfl, h4, h5, h6⟩
theorem ArAt.lt {h : Heap} {g : Nat} {a : Ar} {F : List Nat} (ha : ArAt h g a F) : ∀ b ∈ F, b < h.size := by
  obtain ⟨wv, wb, mb, h1, h2, h3, rfl, h4, h5, h6⟩ := ha
  intro b hb
  rcases List.mem_cons.1 hb with rfl | hb
  · exact h1.lt
  · rcases List.mem_cons.1 hb with rfl | hb
    · exact h3.lt
    · exact h2.lt _ hb
theorem look_live (lv : List Int) (n : Int) : (lv.map fun n => (n, Value.bool true)).lookup n = if n ∈ lv then some (.bool true) else none := by
  induction lv with
  | nil => simp
  | cons m lv ih =>
    rw [List.map_cons, List.lookup_cons, ih]
    by_cases e : n = m
    · simp [e]
    · have : (n == m) = false := by simpa using e
      simp [this, e]
theorem arena_New.spec (lim : Int) {K : Ret} {h : Heap} (hk : ∀ g h' F, ArAt h' g ⟨[], lim, []⟩ F → Fr [] h h' → (∀ b ∈ F, h.size ≤ b) → K (.pointer (some ⟨g, 0, none⟩)) h') : CallH Try.prog arena_New.id #[Iv lim] K h := by
  refine arena_New.ok ?_
  simp only [arena_New.pt, go, Mv, NilC_at, Fld_at, add_mk, Nat.zero_add, Nat.add_zero, Bin_add, Bin_sub, Bin_mul, Bin_eql, Bin_neq, Bin_lss, Bin_leq, Bin_gtr, Bin_geq, Bin_bool_eql, Bin_bool_neq, Bin_ptr_nil_eql, Bin_ptr_nil_neq, Un_not, Pick_bool, Gd_bool, If_bool, CallF_eq, MaxV_two, MinV_two, if_true, if_false, Bool.false_eq_true, Bool.true_eq_false, Bool.not_true, Bool.not_false, BEq.rfl]
  refine MkM_map (k := .i64) fun h1 hm f1 hs1 => ?_
  have hf : Instr.fill (([(0, 1), (1, 1), (2, 1), (3, 1)] : List (Nat × Nat)).toArray[·]?) #[(.slice none 0 0), (.int .i64 0), (.int .i64 0), (.map none)] [(1, Iv lim), (3, .map (some h.size))] = some #[.slice none 0 0, Iv lim, .int .i64 0, .map (some h.size)] := by
    rw [fill_one rfl rfl (by simp), fill_one rfl rfl (by simp), fill_nil]; rfl
  rw [Bld_eq, hf]
  refine New_blk fun h2 hb f2 hs2 => hk h1.size h2 (h1.size :: h.size :: []) ⟨.slice none 0 0, [], h.size, by simpa [Value.cells, Iv] using hb, Own.nil _, ?_, rfl, by simp, by simp, by omega⟩ (f1.trans f2) ?_
  · exact hm.fr f2 (by simp)
  · intro b hb
    simp only [List.mem_cons, List.not_mem_nil, or_false] at hb
    rcases hb with rfl | rfl
    · omega
    · exact Nat.le_refl _
def fit31 (n : Int) : Int := min (max n 0) 2147483647
theorem arena_fit.spec (n : Int) {K : Ret} {h : Heap} (hk : K (Iv (fit31 n)) h) : CallH Try.prog arena_fit.id #[Iv n] K h := by
  refine arena_fit.ok ?_
  simp only [arena_fit.pt, Iv, go, Mv, NilC_at, Fld_at, add_mk, Nat.zero_add, Nat.add_zero, Bin_add, Bin_sub, Bin_mul, Bin_eql, Bin_neq, Bin_lss, Bin_leq, Bin_gtr, Bin_geq, Bin_bool_eql, Bin_bool_neq, Bin_ptr_nil_eql, Bin_ptr_nil_neq, Un_not, Pick_bool, Gd_bool, If_bool, CallF_eq, MaxV_two, MinV_two, if_true, if_false, Bool.false_eq_true, Bool.true_eq_false, Bool.not_true, Bool.not_false, BEq.rfl]
  have e1 : (if (0 : Int) > n then 0 else n) = max n 0 := by split <;> omega
  rw [e1]
  have e2 : (if 2147483647 < max n 0 then 2147483647 else max n 0) = fit31 n := by unfold fit31; split <;> omega
  rw [e2]; exact hk
theorem or40 (n : Int) (h0 : 0 ≤ n) (h1 : n < 1099511627776) : bits .or .i64 n 1099511627776 = n + 1099511627776 := by
  show IntKind.i64.wrap ((BitVec.ofInt 64 n ||| BitVec.ofInt 64 1099511627776).toNat : Int) = _
  have e1 : (BitVec.ofInt 64 n).toNat = n.toNat := by rw [BitVec.toNat_ofInt]; omega
  have e2 : (BitVec.ofInt 64 1099511627776).toNat = 2 ^ 40 * 1 := by decide
  have hlt : n.toNat < 2 ^ 40 := by omega
  have key : n.toNat ||| 2 ^ 40 * 1 = 2 ^ 40 * 1 + n.toNat := by
    rw [Nat.or_comm]; exact (Nat.two_pow_add_eq_or_of_lt hlt 1).symm
  rw [BitVec.toNat_or, e1, e2, key, IntKind.wrap_i64]; omega
/-- What stands ahead of a clause. -/
def head (n : Nat) (learned : Bool) : Int := if learned then (n : Int) + 1099511627776 else n
def Ar.add (a : Ar) (c : List Int) (learned : Bool) (g : Int) : Ar := ⟨a.ws ++ [head c.length learned, fit31 g, 0] ++ c, a.lim, a.lv ++ [(a.ws.length : Int)]⟩
def Ar.full (a : Ar) (c : List Int) : Prop := a.lim > 0 ∧ a.lim < (a.ws.length : Int) + 3 + c.length
theorem arena_Arena_Add.spec {g : Nat} {a : Ar} {F : List Nat} {w : Value} {c : List Int} {l : Bool} {gl : Int} {K : Ret} {h : Heap} (ha : ArAt h g a F) (hw : ∀ h', Fr F h h' → Rd h' w (c.map Iv)) (hn : (a.ws.length : Int) ∉ a.lv)
    (hlw : a.ws.length ≤ 1000000000000) (hlc : c.length ≤ 1000000000000) (hlv : a.lv.length ≤ 1000000000000) 
    (h0 : a.full c → K (.tuple #[Iv 0, .bool false]) h)
    (hk : ¬ a.full c → ∀ h' F', ArAt h' g (a.add c l gl) F' → Fr F h h' → (∀ b ∈ F', b ∈ F ∨ h.size ≤ b) → K (.tuple #[Iv a.ws.length, .bool true]) h') :
    CallH Try.prog arena_Arena_Add.id #[.pointer (some ⟨g, 0, none⟩), w, .bool l, Iv gl] K h := by
  obtain ⟨wv, wb, mb, b1, o1, m1, rfl, d1, d2, d3⟩ := ha
  refine arena_Arena_Add.ok ?_
  simp only [arena_Arena_Add.pt, go, Mv, NilC_at, Fld_at, add_mk, Nat.zero_add, Nat.add_zero, Bin_add, Bin_sub, Bin_mul, Bin_eql, Bin_neq, Bin_lss, Bin_leq, Bin_gtr, Bin_geq, Bin_bool_eql, Bin_bool_neq, Bin_ptr_nil_eql, Bin_ptr_nil_neq, Un_not, Pick_bool, Gd_bool, If_bool, CallF_eq, MaxV_two, MinV_two, if_true, if_false, Bool.false_eq_true, Bool.true_eq_false, Bool.not_true, Bool.not_false, BEq.rfl]
  refine Ld_blk b1 rfl (o1.len ?_)
  rw [List.length_map]
  refine Ld_blk b1 rfl ?_
  simp only [Iv, go, Mv, NilC_at, Fld_at, add_mk, Nat.zero_add, Nat.add_zero, Bin_add, Bin_sub, Bin_mul, Bin_eql, Bin_neq, Bin_lss, Bin_leq, Bin_gtr, Bin_geq, Bin_bool_eql, Bin_bool_neq, Bin_ptr_nil_eql, Bin_ptr_nil_neq, Un_not, Pick_bool, Gd_bool, If_bool, CallF_eq, MaxV_two, MinV_two, if_true, if_false, Bool.false_eq_true, Bool.true_eq_false, Bool.not_true, Bool.not_false, BEq.rfl]
  have hw0 := hw h (Fr.refl _ _)
  have w1 : IntKind.i64.wrap ((a.ws.length : Int) + 3) = (a.ws.length : Int) + 3 := by rw [IntKind.wrap_i64]; omega
  have w2 : IntKind.i64.wrap ((a.ws.length : Int) + 3 + (c.length : Int)) = (a.ws.length : Int) + 3 + (c.length : Int) := by rw [IntKind.wrap_i64]; omega
  apply cutIf (C := ¬ a.full c)
  · intro hT
    by_cases hlim : a.lim > 0
    · simp only [decide_eq_true hlim, go, Mv, NilC_at, Fld_at, add_mk, Nat.zero_add, Nat.add_zero, Bin_add, Bin_sub, Bin_mul, Bin_eql, Bin_neq, Bin_lss, Bin_leq, Bin_gtr, Bin_geq, Bin_bool_eql, Bin_bool_neq, Bin_ptr_nil_eql, Bin_ptr_nil_neq, Un_not, Pick_bool, Gd_bool, If_bool, CallF_eq, MaxV_two, MinV_two, if_true, if_false, Bool.false_eq_true, Bool.true_eq_false, Bool.not_true, Bool.not_false, BEq.rfl]
      refine hw0.len ?_
      rw [List.length_map]
      simp only [w1, w2, go, Mv, NilC_at, Fld_at, add_mk, Nat.zero_add, Nat.add_zero, Bin_add, Bin_sub, Bin_mul, Bin_eql, Bin_neq, Bin_lss, Bin_leq, Bin_gtr, Bin_geq, Bin_bool_eql, Bin_bool_neq, Bin_ptr_nil_eql, Bin_ptr_nil_neq, Un_not, Pick_bool, Gd_bool, If_bool, CallF_eq, MaxV_two, MinV_two, if_true, if_false, Bool.false_eq_true, Bool.true_eq_false, Bool.not_true, Bool.not_false, BEq.rfl]
      refine Ld_blk b1 rfl ?_
      simp only [Iv, go, Mv, NilC_at, Fld_at, add_mk, Nat.zero_add, Nat.add_zero, Bin_add, Bin_sub, Bin_mul, Bin_eql, Bin_neq, Bin_lss, Bin_leq, Bin_gtr, Bin_geq, Bin_bool_eql, Bin_bool_neq, Bin_ptr_nil_eql, Bin_ptr_nil_neq, Un_not, Pick_bool, Gd_bool, If_bool, CallF_eq, MaxV_two, MinV_two, if_true, if_false, Bool.false_eq_true, Bool.true_eq_false, Bool.not_true, Bool.not_false, BEq.rfl]
      by_cases hgt : a.lim < (a.ws.length : Int) + 3 + c.length
      · simp only [gt_iff_lt, decide_eq_true hgt, go, Mv, NilC_at, Fld_at, add_mk, Nat.zero_add, Nat.add_zero, Bin_add, Bin_sub, Bin_mul, Bin_eql, Bin_neq, Bin_lss, Bin_leq, Bin_gtr, Bin_geq, Bin_bool_eql, Bin_bool_neq, Bin_ptr_nil_eql, Bin_ptr_nil_neq, Un_not, Pick_bool, Gd_bool, If_bool, CallF_eq, MaxV_two, MinV_two, if_true, if_false, Bool.false_eq_true, Bool.true_eq_false, Bool.not_true, Bool.not_false, BEq.rfl]
        exact h0 ⟨hlim, hgt⟩
      · simp only [gt_iff_lt, decide_eq_false hgt, go, Mv, NilC_at, Fld_at, add_mk, Nat.zero_add, Nat.add_zero, Bin_add, Bin_sub, Bin_mul, Bin_eql, Bin_neq, Bin_lss, Bin_leq, Bin_gtr, Bin_geq, Bin_bool_eql, Bin_bool_neq, Bin_ptr_nil_eql, Bin_ptr_nil_neq, Un_not, Pick_bool, Gd_bool, If_bool, CallF_eq, MaxV_two, MinV_two, if_true, if_false, Bool.false_eq_true, Bool.true_eq_false, Bool.not_true, Bool.not_false, BEq.rfl]
        exact hT fun hf => hgt hf.2
    · simp only [decide_eq_false hlim, go, Mv, NilC_at, Fld_at, add_mk, Nat.zero_add, Nat.add_zero, Bin_add, Bin_sub, Bin_mul, Bin_eql, Bin_neq, Bin_lss, Bin_leq, Bin_gtr, Bin_geq, Bin_bool_eql, Bin_bool_neq, Bin_ptr_nil_eql, Bin_ptr_nil_neq, Un_not, Pick_bool, Gd_bool, If_bool, CallF_eq, MaxV_two, MinV_two, if_true, if_false, Bool.false_eq_true, Bool.true_eq_false, Bool.not_true, Bool.not_false, BEq.rfl]
      exact hT fun hf => hlim hf.1
  intro hnf
  refine hw0.len ?_
  rw [List.length_map]
  refine Jn5 (fun p0 p1 p2 p3 p4 h1 => h = h1 ∧ p0 = .pointer (some ⟨g, 0, none⟩) ∧ w = p1 ∧ p2 = .int .i64 gl ∧ p3 = .int .i64 a.ws.length ∧ p4 = Iv (head c.length l)) ?_ ?_
  · intro J hJ
    cases l with
    | true =>
      simp only [Bin_or, or40 (c.length : Int) (by omega) (by omega), go, Mv, NilC_at, Fld_at, add_mk, Nat.zero_add, Nat.add_zero, Bin_add, Bin_sub, Bin_mul, Bin_eql, Bin_neq, Bin_lss, Bin_leq, Bin_gtr, Bin_geq, Bin_bool_eql, Bin_bool_neq, Bin_ptr_nil_eql, Bin_ptr_nil_neq, Un_not, Pick_bool, Gd_bool, If_bool, CallF_eq, MaxV_two, MinV_two, if_true, if_false, Bool.false_eq_true, Bool.true_eq_false, Bool.not_true, Bool.not_false, BEq.rfl]
      exact hJ _ _ _ _ _ h ⟨rfl, rfl, rfl, rfl, rfl, rfl⟩
    | false =>
      simp only [go, Mv, NilC_at, Fld_at, add_mk, Nat.zero_add, Nat.add_zero, Bin_add, Bin_sub, Bin_mul, Bin_eql, Bin_neq, Bin_lss, Bin_leq, Bin_gtr, Bin_geq, Bin_bool_eql, Bin_bool_neq, Bin_ptr_nil_eql, Bin_ptr_nil_neq, Un_not, Pick_bool, Gd_bool, If_bool, CallF_eq, MaxV_two, MinV_two, if_true, if_false, Bool.false_eq_true, Bool.true_eq_false, Bool.not_true, Bool.not_false, BEq.rfl]
      exact hJ _ _ _ _ _ h ⟨rfl, rfl, rfl, rfl, rfl, rfl⟩
  rintro p0 p1 p2 p3 p4 h1 ⟨rfl, rfl, rfl, rfl, rfl, rfl⟩
  simp only [go, Mv, NilC_at, Fld_at, add_mk, Nat.zero_add, Nat.add_zero, Bin_add, Bin_sub, Bin_mul, Bin_eql, Bin_neq, Bin_lss, Bin_leq, Bin_gtr, Bin_geq, Bin_bool_eql, Bin_bool_neq, Bin_ptr_nil_eql, Bin_ptr_nil_neq, Un_not, Pick_bool, Gd_bool, If_bool, CallF_eq, MaxV_two, MinV_two, if_true, if_false, Bool.false_eq_true, Bool.true_eq_false, Bool.not_true, Bool.not_false, BEq.rfl]
  refine Jn2 (fun p0 p1 h2 => p0 = .pointer (some ⟨g, 0, none⟩) ∧ p1 = .int .i64 a.ws.length ∧ ∃ wv' wb', Blk h2 g [wv', Iv a.lim, Iv (a.lv.length : Int), .map (some mb)] ∧ Own h2 wv' ((a.add c l gl).ws.map Iv) wb' ∧ MapAt h2 mb .i64 (a.lv.map fun n => (n, .bool true)) ∧
      g ∉ wb' ∧ mb ∉ wb' ∧ Fr (g :: mb :: wb) h h2 ∧ ∀ b ∈ wb', b ∈ wb ∨ h.size ≤ b) ?_ ?_
  · intro J hJ
    have way : ∀ {h1 : Heap} {tv : Value}, Fr [] h h1 → Own h1 tv ([head c.length l, fit31 gl, 0].map Iv) [h.size] → App 3 1 8 #[(.int .i64 0)] wv tv (fun t48 h' => App 3 1 8 #[(.int .i64 0)] t48 w (fun t50 h' => St (.pointer (some ⟨g, 0, none⟩)) t50 (fun _ h' => J (.pointer (some ⟨g, 0, none⟩)) (.int .i64 a.ws.length) h') h') h') h1 := by
      intro h1 tv f1 htv
      have oo := o1.fr f1 (by simp)
      refine oo.app htv.rd rfl rfl (Iv_cells _) (by simp; omega) (by simp; omega) fun v2 h2 wb2 o2 f2 hb2 hs2 => ?_
      have f02 : Fr (g :: mb :: wb) h h2 := (f1.mono (by simp)).trans (f2.mono fun x hx => by simp [hx])
      have k2 : ∀ b ∈ wb2, b ∈ wb ∨ h.size ≤ b := fun b hb => (hb2 b hb).imp (fun hm => hm) fun e => by rw [e]; exact f1.size
      have old : ∀ x, x < h.size → x ∉ wb → x ∉ wb2 := fun x hx hn hm => (k2 x hm).elim hn (by omega)
      have g2 : g ∉ wb2 := old g b1.lt d1
      have mb2 : mb ∉ wb2 := old mb m1.lt d2
      refine o2.app (hw h2 f02) rfl rfl (Iv_cells _) (by simp; omega) (by simp; omega) fun v3 h3 wb3 o3 f3 hb3 hs3 => ?_
      have k3 : ∀ b ∈ wb3, b ∈ wb ∨ h.size ≤ b := fun b hb => (hb3 b hb).elim (k2 b) fun e => .inr (by rw [e]; exact f02.size)
      have old3 : ∀ x, x < h.size → x ∉ wb → x ∉ wb3 := fun x hx hn hm => (k3 x hm).elim hn (by omega)
      have b3 : Blk h3 g [wv, Iv a.lim, Iv (a.lv.length : Int), .map (some mb)] := ((b1.fr f1 (by simp)).fr f2 d1).fr f3 g2
      refine St_blk b3 (by simp) o3.rd.isCell fun h4 b4 f4 => ?_
      simp only [List.set] at b4
      have g3 := old3 g b1.lt d1
      have m3 := old3 mb m1.lt d2
      refine hJ _ _ h4 ⟨rfl, rfl, v3, wb3, b4, ?_, (((m1.fr f1 (by simp)).fr f2 d2).fr f3 mb2).fr f4 (by simpa using Ne.symm d3), g3, m3, ?_, k3⟩
      · have := o3.fr f4 (fun b hb hm => g3 (by rw [List.mem_singleton] at hm; rwa [← hm]))
        simpa [Ar.add] using this
      · exact (f02.trans' f3 fun x hx => (k2 x hx).imp (fun hm => by simp [hm]) fun e => e).trans (f4.mono (by simp))
    refine ⟨?_, ?_⟩
    · refine Ld_blk b1 rfl (arena_fit.spec gl (BldS_three rfl rfl rfl fun h1 ho f1 hs => way f1 ho))
    · exact arena_fit.spec gl ⟨Ld_blk b1 rfl (BldS_three rfl rfl rfl fun h1 ho f1 hs => way f1 ho), BldS_three rfl rfl rfl fun h1 ho f1 hs => Ld_blk (b1.fr f1 (by simp)) rfl (way f1 ho)⟩
  rintro p0 p1 h2 ⟨rfl, rfl, wv2, wb2, b2, o2, m2, d4, d5, f2, k2⟩
  simp only [go, Mv, NilC_at, Fld_at, add_mk, Nat.zero_add, Nat.add_zero, Bin_add, Bin_sub, Bin_mul, Bin_eql, Bin_neq, Bin_lss, Bin_leq, Bin_gtr, Bin_geq, Bin_bool_eql, Bin_bool_neq, Bin_ptr_nil_eql, Bin_ptr_nil_neq, Un_not, Pick_bool, Gd_bool, If_bool, CallF_eq, MaxV_two, MinV_two, if_true, if_false, Bool.false_eq_true, Bool.true_eq_false, Bool.not_true, Bool.not_false, BEq.rfl]
  refine Ld_blk b2 rfl ?_
  have w3 : IntKind.i64.wrap ((a.lv.length : Int) + 1) = (a.lv.length : Int) + 1 := by rw [IntKind.wrap_i64]; omega
  simp only [Iv, w3, go, Mv, NilC_at, Fld_at, add_mk, Nat.zero_add, Nat.add_zero, Bin_add, Bin_sub, Bin_mul, Bin_eql, Bin_neq, Bin_lss, Bin_leq, Bin_gtr, Bin_geq, Bin_bool_eql, Bin_bool_neq, Bin_ptr_nil_eql, Bin_ptr_nil_neq, Un_not, Pick_bool, Gd_bool, If_bool, CallF_eq, MaxV_two, MinV_two, if_true, if_false, Bool.false_eq_true, Bool.true_eq_false, Bool.not_true, Bool.not_false, BEq.rfl]
  refine St_blk b2 (by simp) rfl fun h3 b3 f3 => ?_
  simp only [List.set] at b3
  refine Ld_blk b3 rfl ?_
  have dm : mb ∉ [g] := by simpa using Ne.symm d3
  refine MUpd_new (m2.fr f3 dm) (by rw [look_live]; simp [hn]) fun h4 m4 f4 hs4 => ?_
  refine hk hnf h4 (g :: mb :: wb2) ⟨wv2, wb2, mb, ?_, ?_, ?_, rfl, d4, d5, d3⟩ ?_ ?_
  · have := b3.fr f4 (by simpa using d3)
    simpa [Ar.add, Iv] using this
  · exact (o2.fr f3 (fun b hb hm => d4 (by rw [List.mem_singleton] at hm; rwa [← hm]))).fr f4 (fun b hb hm => d5 (by rw [List.mem_singleton] at hm; rwa [← hm]))
  · simpa [Ar.add] using m4
  · exact (f2.trans (f3.mono (by simp))).trans (f4.mono (by simp))
  · intro b hb
    rcases List.mem_cons.1 hb with rfl | hb
    · simp
    · rcases List.mem_cons.1 hb with rfl | hb
      · simp
      · exact (k2 b hb).imp (fun hm => by simp [hm]) fun e => e
end Go.Proofs.Ythekbpaekopmfaa
