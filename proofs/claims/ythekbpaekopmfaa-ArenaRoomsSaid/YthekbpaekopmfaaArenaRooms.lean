/- The law ArenaRooms: there is room for a clause just if its words fit. No condition but that the arguments lie in memory as Go lays them. -/
import Derived.Test.YthekbpaekopmfaaAre2
namespace Go.Proofs.Ythekbpaekopmfaa
open Go.Pt
set_option linter.unusedVariables false
set_option linter.unusedSimpArgs false
theorem Bin_rem9 (c : Cls) (x : Int) {K : Ret} {h : Heap} : Bin c .rem (.int .u8 x) (.int .u8 9) K h = K (.int .u8 (x.tmod 9)) h := Bin_rem _ _ _ _ (by decide)
theorem bradawllaw05_ArenaRooms.spec {v : Value} {xs : List Int} {lim : Int} {K : Ret} {h : Heap} (hl0 : 0 ≤ lim) (hl1 : lim < 256) (hv : Rd h v (xs.map (.int .u8))) (hx : ∀ x ∈ xs, 0 ≤ x ∧ x ≤ 255) (hk : ∀ h', Fr [] h h' → K (.bool true) h') :
    CallH Try.prog bradawllaw05_ArenaRooms.id #[.int .u8 lim, v] K h := by
  refine bradawllaw05_ArenaRooms.ok ?_
  simp only [bradawllaw05_ArenaRooms.pt, go, Mv, NilC_at, Fld_at, add_mk, Nat.zero_add, Nat.add_zero, Bin_add, Bin_sub, Bin_mul, Bin_eql, Bin_neq, Bin_lss, Bin_leq, Bin_gtr, Bin_geq, Bin_bool_eql, Bin_bool_neq, Bin_ptr_nil_eql, Bin_ptr_nil_neq, Un_not, Pick_bool, Gd_bool, If_bool, CallF_eq, MaxV_two, MinV_two, if_true, if_false, Bool.false_eq_true, Bool.true_eq_false, Bool.not_true, Bool.not_false, BEq.rfl]
  refine bradawllaw05_fit.spec fun h1 f1 => ?_
  have hv1 := hv.fr f1
  simp only [go, Mv, NilC_at, Fld_at, add_mk, Nat.zero_add, Nat.add_zero, Bin_add, Bin_sub, Bin_mul, Bin_eql, Bin_neq, Bin_lss, Bin_leq, Bin_gtr, Bin_geq, Bin_bool_eql, Bin_bool_neq, Bin_ptr_nil_eql, Bin_ptr_nil_neq, Un_not, Pick_bool, Gd_bool, If_bool, CallF_eq, MaxV_two, MinV_two, if_true, if_false, Bool.false_eq_true, Bool.true_eq_false, Bool.not_true, Bool.not_false, BEq.rfl]
  refine hv1.len ?_
  rw [List.length_map]
  by_cases c0 : (xs.length : Int) > 60
  · simp only [decide_eq_true c0, go, Mv, NilC_at, Fld_at, add_mk, Nat.zero_add, Nat.add_zero, Bin_add, Bin_sub, Bin_mul, Bin_eql, Bin_neq, Bin_lss, Bin_leq, Bin_gtr, Bin_geq, Bin_bool_eql, Bin_bool_neq, Bin_ptr_nil_eql, Bin_ptr_nil_neq, Un_not, Pick_bool, Gd_bool, If_bool, CallF_eq, MaxV_two, MinV_two, if_true, if_false, Bool.false_eq_true, Bool.true_eq_false, Bool.not_true, Bool.not_false, BEq.rfl]; exact hk _ f1
  have w0 : IntKind.i64.wrap lim = lim := by rw [IntKind.wrap_i64]; omega
  have w1 : IntKind.i64.wrap (1 + lim) = 1 + lim := by rw [IntKind.wrap_i64]; omega
  simp only [decide_eq_false c0, Cvt_int, w0, w1, go, Mv, NilC_at, Fld_at, add_mk, Nat.zero_add, Nat.add_zero, Bin_add, Bin_sub, Bin_mul, Bin_eql, Bin_neq, Bin_lss, Bin_leq, Bin_gtr, Bin_geq, Bin_bool_eql, Bin_bool_neq, Bin_ptr_nil_eql, Bin_ptr_nil_neq, Un_not, Pick_bool, Gd_bool, If_bool, CallF_eq, MaxV_two, MinV_two, if_true, if_false, Bool.false_eq_true, Bool.true_eq_false, Bool.not_true, Bool.not_false, BEq.rfl]
  refine arena_New.spec (1 + lim) fun g h2 F2 a2 f2 n2 => ?_
  have hv2 := hv1.fr f2
  refine hv2.len ?_
  rw [List.length_map]
  have f02 := f1.trans f2
  refine Lp7 (σ := Nat × Ar) (fun s a b c d e f i h' => Fr [] h h' ∧ (∃ F, ArAt h' g s.2 F ∧ ∀ b ∈ F, h.size ≤ b) ∧ s.2.lim = 1 + lim ∧ (s.2.lv.length ≤ s.1 ∧ s.2.ws.length ≤ 11 * s.1 ∧ (s.2.ws.length : Int) ≤ 1 + lim) ∧ (∀ n ∈ s.2.lv, n < (s.2.ws.length : Int)) ∧ s.1 ≤ xs.length ∧
      a = .int .u8 lim ∧ b = .int .i64 (1 + lim) ∧ c = .pointer (some ⟨g, 0, none⟩) ∧ d = .int .i64 (s.2.ws.length : Int) ∧ v = e ∧ f = .int .i64 (xs.length : Int) ∧ i = .int .i64 (s.1 : Int)) (fun s => xs.length - s.1) (0, ⟨[], 1 + lim, []⟩)
      ⟨f02, ⟨F2, a2, fun b hb => Nat.le_trans f1.size (n2 b hb)⟩, rfl, ⟨by simp, by simp, by simp; omega⟩, by simp, Nat.zero_le _, rfl, rfl, rfl, rfl, rfl, rfl, rfl⟩ ?_
  rintro ⟨i, ar⟩ a b c d e f j h3 ⟨f3, ⟨F3, a3, n3⟩, hlim, ⟨hb1, hb2, hb3⟩, hlt, hi, rfl, rfl, rfl, rfl, rfl, rfl, rfl⟩ X hX
  simp only at a3 hlim hb1 hb2 hb3 hlt hi
  simp only [go, Mv, NilC_at, Fld_at, add_mk, Nat.zero_add, Nat.add_zero, Bin_add, Bin_sub, Bin_mul, Bin_eql, Bin_neq, Bin_lss, Bin_leq, Bin_gtr, Bin_geq, Bin_bool_eql, Bin_bool_neq, Bin_ptr_nil_eql, Bin_ptr_nil_neq, Un_not, Pick_bool, Gd_bool, If_bool, CallF_eq, MaxV_two, MinV_two, if_true, if_false, Bool.false_eq_true, Bool.true_eq_false, Bool.not_true, Bool.not_false, BEq.rfl]
  by_cases hd : ¬ (i : Int) < (xs.length : Int)
  · simp only [decide_eq_false hd, go, Mv, NilC_at, Fld_at, add_mk, Nat.zero_add, Nat.add_zero, Bin_add, Bin_sub, Bin_mul, Bin_eql, Bin_neq, Bin_lss, Bin_leq, Bin_gtr, Bin_geq, Bin_bool_eql, Bin_bool_neq, Bin_ptr_nil_eql, Bin_ptr_nil_neq, Un_not, Pick_bool, Gd_bool, If_bool, CallF_eq, MaxV_two, MinV_two, if_true, if_false, Bool.false_eq_true, Bool.true_eq_false, Bool.not_true, Bool.not_false, BEq.rfl]
    -- behind the loop: a second arena
    have w2 : IntKind.i64.wrap (0 - lim) = -lim := by rw [IntKind.wrap_i64]; omega
    simp only [Cvt_int, Un_neg, w0, w2, go, Mv, NilC_at, Fld_at, add_mk, Nat.zero_add, Nat.add_zero, Bin_add, Bin_sub, Bin_mul, Bin_eql, Bin_neq, Bin_lss, Bin_leq, Bin_gtr, Bin_geq, Bin_bool_eql, Bin_bool_neq, Bin_ptr_nil_eql, Bin_ptr_nil_neq, Un_not, Pick_bool, Gd_bool, If_bool, CallF_eq, MaxV_two, MinV_two, if_true, if_false, Bool.false_eq_true, Bool.true_eq_false, Bool.not_true, Bool.not_false, BEq.rfl]
    refine arena_New.spec (-lim) fun g2 h4 F4 a4 f4 n4 => ?_
    refine MkS_one (n := 300) (by decide) (by decide) fun h5 o5 f5 s5 => ?_
    have a5 := a4.fr f5 (by simp)
    have rep : List.replicate 300 (Value.int .i64 0) = (List.replicate 300 (0 : Int)).map Iv := by rw [List.map_replicate]; rfl
    refine arena_Arena_Add.spec (c := List.replicate 300 0) a5 (fun h' f => by rw [← rep]; exact (o5.fr f fun b hb hm => by
      rw [List.mem_singleton] at hb
      have := a4.lt _ hm
      omega).rd) (by simp) (Nat.zero_le _) (by rw [List.length_replicate]; decide) (Nat.zero_le _) (fun hf => by have h9 : -lim > 0 := hf.1; omega) fun _ h6 F6 a6 f6 n6 => ?_
    simp only [Bin_rem9, Ext_at, List.getElem?_toArray, List.getElem?_cons_zero, List.getElem?_cons_succ, Iv, go, Mv, NilC_at, Fld_at, add_mk, Nat.zero_add, Nat.add_zero, Bin_add, Bin_sub, Bin_mul, Bin_eql, Bin_neq, Bin_lss, Bin_leq, Bin_gtr, Bin_geq, Bin_bool_eql, Bin_bool_neq, Bin_ptr_nil_eql, Bin_ptr_nil_neq, Un_not, Pick_bool, Gd_bool, If_bool, CallF_eq, MaxV_two, MinV_two, if_true, if_false, Bool.false_eq_true, Bool.true_eq_false, Bool.not_true, Bool.not_false, BEq.rfl]
    refine arena_Arena_Words.spec a6 ?_
    have t1 : (((Ar.add ⟨[], -lim, []⟩ (List.replicate 300 0) true 1).ws.length : Int) == 303) = true := by
      have : (Ar.add ⟨[], -lim, []⟩ (List.replicate 300 0) true 1).ws.length = 303 := by simp only [Ar.add, List.length_append, List.length_replicate]; rfl
      rw [this]; rfl
    simp only [Iv, t1, go, Mv, NilC_at, Fld_at, add_mk, Nat.zero_add, Nat.add_zero, Bin_add, Bin_sub, Bin_mul, Bin_eql, Bin_neq, Bin_lss, Bin_leq, Bin_gtr, Bin_geq, Bin_bool_eql, Bin_bool_neq, Bin_ptr_nil_eql, Bin_ptr_nil_neq, Un_not, Pick_bool, Gd_bool, If_bool, CallF_eq, MaxV_two, MinV_two, if_true, if_false, Bool.false_eq_true, Bool.true_eq_false, Bool.not_true, Bool.not_false, BEq.rfl]
    refine hk h6 ?_
    exact (((f3.trans f4).trans f5).trans' f6 fun x hx => .inr (Nat.le_trans f3.size (n4 x hx)))
  · have hd : (i : Int) < (xs.length : Int) := by omega
    simp only [decide_eq_true hd, go, Mv, NilC_at, Fld_at, add_mk, Nat.zero_add, Nat.add_zero, Bin_add, Bin_sub, Bin_mul, Bin_eql, Bin_neq, Bin_lss, Bin_leq, Bin_gtr, Bin_geq, Bin_bool_eql, Bin_bool_neq, Bin_ptr_nil_eql, Bin_ptr_nil_neq, Un_not, Pick_bool, Gd_bool, If_bool, CallF_eq, MaxV_two, MinV_two, if_true, if_false, Bool.false_eq_true, Bool.true_eq_false, Bool.not_true, Bool.not_false, BEq.rfl]
    obtain ⟨x, hxi⟩ : ∃ x, xs[i]? = some x := ⟨xs[i]'(by omega), List.getElem?_eq_getElem _⟩
    obtain ⟨x0, x1⟩ := hx x (List.mem_of_getElem? hxi)
    refine (hv.fr f3).at (x := .int .u8 x) (by omega) (by rw [Int.toNat_natCast, List.getElem?_map, hxi]; rfl) ?_
    have e9 : x.tmod 9 = x % 9 := Int.tmod_eq_emod_of_nonneg x0
    have w9 : IntKind.i64.wrap (x % 9) = ((x % 9).toNat : Int) := by rw [IntKind.wrap_i64]; omega
    simp only [Bin_rem9, e9, w9, Cvt_int, go, Mv, NilC_at, Fld_at, add_mk, Nat.zero_add, Nat.add_zero, Bin_add, Bin_sub, Bin_mul, Bin_eql, Bin_neq, Bin_lss, Bin_leq, Bin_gtr, Bin_geq, Bin_bool_eql, Bin_bool_neq, Bin_ptr_nil_eql, Bin_ptr_nil_neq, Un_not, Pick_bool, Gd_bool, If_bool, CallF_eq, MaxV_two, MinV_two, if_true, if_false, Bool.false_eq_true, Bool.true_eq_false, Bool.not_true, Bool.not_false, BEq.rfl]
    generalize hn : (x % 9).toNat = n
    have hn9 : n < 9 := by omega
    refine MkS_one (n := n) (by omega) (by omega) fun h4 o4 f4 s4 => ?_
    have a4 := a3.fr f4 (by simp)
    have rep : List.replicate n (Value.int .i64 0) = (List.replicate n (0 : Int)).map Iv := by rw [List.map_replicate]; rfl
    have wa : IntKind.i64.wrap ((ar.ws.length : Int) + 3) = (ar.ws.length : Int) + 3 := by rw [IntKind.wrap_i64]; omega
    have wb : IntKind.i64.wrap ((ar.ws.length : Int) + 3 + (n : Int)) = (ar.ws.length : Int) + 3 + n := by rw [IntKind.wrap_i64]; omega
    have wi : IntKind.i64.wrap ((i : Int) + 1) = ((i + 1 : Nat) : Int) := by rw [IntKind.wrap_i64]; omega
    have wc : IntKind.i64.wrap (3 + (n : Int)) = 3 + (n : Int) := by rw [IntKind.wrap_i64]; omega
    have wd : IntKind.i64.wrap ((ar.ws.length : Int) + (3 + (n : Int))) = ((ar.ws.length + 3 + n : Nat) : Int) := by rw [IntKind.wrap_i64]; omega
    refine arena_Arena_Add.spec (c := List.replicate n 0) a4 (fun h' f => by rw [← rep]; exact (o4.fr f fun b hb hm => by
      rw [List.mem_singleton] at hb
      have := a3.lt _ hm
      omega).rd) (fun hm => by have := hlt _ hm; omega) (by omega) (by simp; omega) (by omega) (fun hf => ?_) fun hnf h5 F5 a5 f5 n5 => ?_
    · have hf2 := hf.2
      simp only [List.length_replicate, hlim] at hf2
      have tf : ¬ ((ar.ws.length : Int) + 3 + n ≤ 1 + lim) := by omega
      simp only [Bin_rem9, Ext_at, List.getElem?_toArray, List.getElem?_cons_zero, List.getElem?_cons_succ, Iv, e9, w9, hn, Cvt_int, wa, wb, decide_eq_false tf, bne_self_eq_false, Join_eq, go, Mv, NilC_at, Fld_at, add_mk, Nat.zero_add, Nat.add_zero, Bin_add, Bin_sub, Bin_mul, Bin_eql, Bin_neq, Bin_lss, Bin_leq, Bin_gtr, Bin_geq, Bin_bool_eql, Bin_bool_neq, Bin_ptr_nil_eql, Bin_ptr_nil_neq, Un_not, Pick_bool, Gd_bool, If_bool, CallF_eq, MaxV_two, MinV_two, if_true, if_false, Bool.false_eq_true, Bool.true_eq_false, Bool.not_true, Bool.not_false, BEq.rfl]
      refine arena_Arena_Words.spec a4 ?_
      simp only [Iv, bne_self_eq_false, go, Mv, NilC_at, Fld_at, add_mk, Nat.zero_add, Nat.add_zero, Bin_add, Bin_sub, Bin_mul, Bin_eql, Bin_neq, Bin_lss, Bin_leq, Bin_gtr, Bin_geq, Bin_bool_eql, Bin_bool_neq, Bin_ptr_nil_eql, Bin_ptr_nil_neq, Un_not, Pick_bool, Gd_bool, If_bool, CallF_eq, MaxV_two, MinV_two, if_true, if_false, Bool.false_eq_true, Bool.true_eq_false, Bool.not_true, Bool.not_false, BEq.rfl]
      refine arena_Arena_Words.spec a4 ?_
      have t3 : ¬ ((ar.ws.length : Int) > 1 + lim) := by omega
      simp only [Iv, decide_eq_false t3, wi, go, Mv, NilC_at, Fld_at, add_mk, Nat.zero_add, Nat.add_zero, Bin_add, Bin_sub, Bin_mul, Bin_eql, Bin_neq, Bin_lss, Bin_leq, Bin_gtr, Bin_geq, Bin_bool_eql, Bin_bool_neq, Bin_ptr_nil_eql, Bin_ptr_nil_neq, Un_not, Pick_bool, Gd_bool, If_bool, CallF_eq, MaxV_two, MinV_two, if_true, if_false, Bool.false_eq_true, Bool.true_eq_false, Bool.not_true, Bool.not_false, BEq.rfl]
      exact hX (i + 1, ar) _ _ _ _ _ _ _ h4 ⟨f3.trans f4, ⟨F3, a4, n3⟩, hlim, ⟨by simp only; omega, by simp only; omega, hb3⟩, hlt, by simp only; omega, rfl, rfl, rfl, rfl, rfl, rfl, rfl⟩ (by simp only; omega)
    · have hfit : (ar.ws.length : Int) + 3 + n ≤ 1 + lim := by
        apply Int.not_lt.1
        intro e
        exact hnf ⟨by rw [hlim]; omega, by simp only [List.length_replicate, hlim]; omega⟩
      have ta : ((ar.add (List.replicate n 0) false 0).ws.length : Int) = ((ar.ws.length + 3 + n : Nat) : Int) := by simp [Ar.add]; omega
      simp only [Bin_rem9, Ext_at, List.getElem?_toArray, List.getElem?_cons_zero, List.getElem?_cons_succ, Iv, e9, w9, hn, Cvt_int, wa, wb, decide_eq_true hfit, bne_self_eq_false, Join_eq, go, Mv, NilC_at, Fld_at, add_mk, Nat.zero_add, Nat.add_zero, Bin_add, Bin_sub, Bin_mul, Bin_eql, Bin_neq, Bin_lss, Bin_leq, Bin_gtr, Bin_geq, Bin_bool_eql, Bin_bool_neq, Bin_ptr_nil_eql, Bin_ptr_nil_neq, Un_not, Pick_bool, Gd_bool, If_bool, CallF_eq, MaxV_two, MinV_two, if_true, if_false, Bool.false_eq_true, Bool.true_eq_false, Bool.not_true, Bool.not_false, BEq.rfl]
      simp only [Bin_rem9, e9, w9, hn, Cvt_int, wc, wd, go, Mv, NilC_at, Fld_at, add_mk, Nat.zero_add, Nat.add_zero, Bin_add, Bin_sub, Bin_mul, Bin_eql, Bin_neq, Bin_lss, Bin_leq, Bin_gtr, Bin_geq, Bin_bool_eql, Bin_bool_neq, Bin_ptr_nil_eql, Bin_ptr_nil_neq, Un_not, Pick_bool, Gd_bool, If_bool, CallF_eq, MaxV_two, MinV_two, if_true, if_false, Bool.false_eq_true, Bool.true_eq_false, Bool.not_true, Bool.not_false, BEq.rfl]
      refine arena_Arena_Words.spec a5 ?_
      simp only [Iv, ta, bne_self_eq_false, go, Mv, NilC_at, Fld_at, add_mk, Nat.zero_add, Nat.add_zero, Bin_add, Bin_sub, Bin_mul, Bin_eql, Bin_neq, Bin_lss, Bin_leq, Bin_gtr, Bin_geq, Bin_bool_eql, Bin_bool_neq, Bin_ptr_nil_eql, Bin_ptr_nil_neq, Un_not, Pick_bool, Gd_bool, If_bool, CallF_eq, MaxV_two, MinV_two, if_true, if_false, Bool.false_eq_true, Bool.true_eq_false, Bool.not_true, Bool.not_false, BEq.rfl]
      refine arena_Arena_Words.spec a5 ?_
      have t3 : ¬ (((ar.ws.length + 3 + n : Nat) : Int) > 1 + lim) := by omega
      simp only [Iv, ta, decide_eq_false t3, wi, go, Mv, NilC_at, Fld_at, add_mk, Nat.zero_add, Nat.add_zero, Bin_add, Bin_sub, Bin_mul, Bin_eql, Bin_neq, Bin_lss, Bin_leq, Bin_gtr, Bin_geq, Bin_bool_eql, Bin_bool_neq, Bin_ptr_nil_eql, Bin_ptr_nil_neq, Un_not, Pick_bool, Gd_bool, If_bool, CallF_eq, MaxV_two, MinV_two, if_true, if_false, Bool.false_eq_true, Bool.true_eq_false, Bool.not_true, Bool.not_false, BEq.rfl]
      rw [← ta]
      exact hX (i + 1, ar.add (List.replicate n 0) false 0) _ _ _ _ _ _ _ h5 ⟨(f3.trans f4).trans' f5 (fun b hb => .inr (n3 b hb)), ⟨F5, a5, fun b hb => (n5 b hb).elim (n3 b) fun e => Nat.le_trans (f3.trans f4).size e⟩, hlim, ⟨by simp [Ar.add]; omega, by simp [Ar.add]; omega, by rw [ta]; omega⟩, (by
        intro m hm
        rw [ta]
        rcases List.mem_append.1 hm with hm | hm
        · have := hlt m hm; omega
        · rw [List.mem_singleton] at hm; omega), by simp only; omega, rfl, rfl, rfl, rfl, rfl, rfl, rfl⟩ (by simp only; omega)
theorem bradawllaw05_ArenaRooms.law {h : Heap} {a0 : Int} {a1 : List Int} {v0 v1 : Value} (r0 : (rInt .u8).is h a0 [v0]) (r1 : (rSlice (rInt .u8) 1).is h a1 [v1]) :
    CallH Try.prog bradawllaw05_ArenaRooms.id #[v0, v1] (fun v h' => v = .bool true ∧ Fr [] h h') h := by
  obtain ⟨rfl, h1, h2⟩ := int_arg r0
  obtain ⟨hl0, hb0⟩ := rd_ints r1
  exact bradawllaw05_ArenaRooms.spec h1 (Int.lt_of_le_of_lt h2 (by decide)) hl0 hb0 fun h' f => ⟨rfl, f⟩
end Go.Proofs.Ythekbpaekopmfaa
