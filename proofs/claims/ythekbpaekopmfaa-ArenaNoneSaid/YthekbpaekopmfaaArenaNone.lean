/- The law ArenaNone: at places where no clause begins there is none. No condition but that the arguments lie in memory as Go lays them. -/
import Derived.Test.YthekbpaekopmfaaAre2
namespace Go.Proofs.Ythekbpaekopmfaa
open Go.Pt
set_option linter.unusedVariables false
set_option linter.unusedSimpArgs false
theorem bradawllaw05_ArenaNone.spec {v : Value} {xs : List Int} {raw : Int} {K : Ret} {h : Heap} (hv : Rd h v (xs.map (.int .i8))) (hx : ∀ x ∈ xs, -128 ≤ x ∧ x ≤ 127) (hk : ∀ h', Fr [] h h' → K (.bool true) h') :
    CallH Try.prog bradawllaw05_ArenaNone.id #[v, .int .i64 raw] K h := by
  refine bradawllaw05_ArenaNone.ok ?_
  simp only [bradawllaw05_ArenaNone.pt, go, Mv, NilC_at, Fld_at, add_mk, Nat.zero_add, Nat.add_zero, Bin_add, Bin_sub, Bin_mul, Bin_eql, Bin_neq, Bin_lss, Bin_leq, Bin_gtr, Bin_geq, Bin_bool_eql, Bin_bool_neq, Bin_ptr_nil_eql, Bin_ptr_nil_neq, Un_not, Pick_bool, Gd_bool, If_bool, CallF_eq, MaxV_two, MinV_two, if_true, if_false, Bool.false_eq_true, Bool.true_eq_false, Bool.not_true, Bool.not_false, BEq.rfl]
  refine bradawllaw05_fit.spec fun h1 f1 => ?_
  have hv1 := hv.fr f1
  simp only [go, Mv, NilC_at, Fld_at, add_mk, Nat.zero_add, Nat.add_zero, Bin_add, Bin_sub, Bin_mul, Bin_eql, Bin_neq, Bin_lss, Bin_leq, Bin_gtr, Bin_geq, Bin_bool_eql, Bin_bool_neq, Bin_ptr_nil_eql, Bin_ptr_nil_neq, Un_not, Pick_bool, Gd_bool, If_bool, CallF_eq, MaxV_two, MinV_two, if_true, if_false, Bool.false_eq_true, Bool.true_eq_false, Bool.not_true, Bool.not_false, BEq.rfl]
  refine hv1.len ?_
  rw [List.length_map]
  by_cases c0 : (xs.length : Int) > 60
  · simp only [decide_eq_true c0, go, Mv, NilC_at, Fld_at, add_mk, Nat.zero_add, Nat.add_zero, Bin_add, Bin_sub, Bin_mul, Bin_eql, Bin_neq, Bin_lss, Bin_leq, Bin_gtr, Bin_geq, Bin_bool_eql, Bin_bool_neq, Bin_ptr_nil_eql, Bin_ptr_nil_neq, Un_not, Pick_bool, Gd_bool, If_bool, CallF_eq, MaxV_two, MinV_two, if_true, if_false, Bool.false_eq_true, Bool.true_eq_false, Bool.not_true, Bool.not_false, BEq.rfl]; exact hk _ f1
  simp only [decide_eq_false c0, go, Mv, NilC_at, Fld_at, add_mk, Nat.zero_add, Nat.add_zero, Bin_add, Bin_sub, Bin_mul, Bin_eql, Bin_neq, Bin_lss, Bin_leq, Bin_gtr, Bin_geq, Bin_bool_eql, Bin_bool_neq, Bin_ptr_nil_eql, Bin_ptr_nil_neq, Un_not, Pick_bool, Gd_bool, If_bool, CallF_eq, MaxV_two, MinV_two, if_true, if_false, Bool.false_eq_true, Bool.true_eq_false, Bool.not_true, Bool.not_false, BEq.rfl]
  refine arena_New.spec 0 fun g h2 F2 a2 f2 n2 => ?_
  have hv2 := hv1.fr f2
  refine hv2.len ?_
  rw [List.length_map]
  have f02 := f1.trans f2
  refine Lp6 (σ := Nat × List Int) (fun s a b c d e f h' => Fr [] h h' ∧ (∃ B, ArAt h' g ⟨[], 0, []⟩ F2 ∧ Own h' c (s.2.map Iv) B ∧ (∀ b ∈ B, h.size ≤ b ∧ b ∉ F2)) ∧ s.2.length = s.1 ∧ s.1 ≤ xs.length ∧
      a = .int .i64 raw ∧ b = .pointer (some ⟨g, 0, none⟩) ∧ v = d ∧ e = .int .i64 (xs.length : Int) ∧ f = .int .i64 (s.1 : Int)) (fun s => xs.length - s.1) (0, [])
      ⟨f02, ⟨[], a2, Own.nil _, by simp⟩, rfl, Nat.zero_le _, rfl, rfl, rfl, rfl, rfl⟩ ?_
  rintro ⟨i, cs⟩ a b c d e f h3 ⟨f3, ⟨B, a3, o3, n3⟩, hlen, hi, rfl, rfl, rfl, rfl, rfl⟩ X hX
  simp only at a3 o3 hlen hi
  have n2' : ∀ b ∈ F2, h.size ≤ b := fun b hb => Nat.le_trans f1.size (n2 b hb)
  simp only [go, Mv, NilC_at, Fld_at, add_mk, Nat.zero_add, Nat.add_zero, Bin_add, Bin_sub, Bin_mul, Bin_eql, Bin_neq, Bin_lss, Bin_leq, Bin_gtr, Bin_geq, Bin_bool_eql, Bin_bool_neq, Bin_ptr_nil_eql, Bin_ptr_nil_neq, Un_not, Pick_bool, Gd_bool, If_bool, CallF_eq, MaxV_two, MinV_two, if_true, if_false, Bool.false_eq_true, Bool.true_eq_false, Bool.not_true, Bool.not_false, BEq.rfl]
  by_cases hd : (i : Int) < (xs.length : Int)
  · simp only [decide_eq_true hd, go, Mv, NilC_at, Fld_at, add_mk, Nat.zero_add, Nat.add_zero, Bin_add, Bin_sub, Bin_mul, Bin_eql, Bin_neq, Bin_lss, Bin_leq, Bin_gtr, Bin_geq, Bin_bool_eql, Bin_bool_neq, Bin_ptr_nil_eql, Bin_ptr_nil_neq, Un_not, Pick_bool, Gd_bool, If_bool, CallF_eq, MaxV_two, MinV_two, if_true, if_false, Bool.false_eq_true, Bool.true_eq_false, Bool.not_true, Bool.not_false, BEq.rfl]
    obtain ⟨x, hxi⟩ : ∃ x, xs[i]? = some x := ⟨xs[i]'(by omega), List.getElem?_eq_getElem _⟩
    obtain ⟨x0, x1⟩ := hx x (List.mem_of_getElem? hxi)
    refine (hv.fr f3).at (x := .int .i8 x) (by omega) (by rw [Int.toNat_natCast, List.getElem?_map, hxi]; rfl) ?_
    have w1 : IntKind.i64.wrap x = x := by rw [IntKind.wrap_i64]; omega
    have w2 : IntKind.i64.wrap (x + 200) = x + 200 := by rw [IntKind.wrap_i64]; omega
    have wi : IntKind.i64.wrap ((i : Int) + 1) = ((i + 1 : Nat) : Int) := by rw [IntKind.wrap_i64]; omega
    simp only [Cvt_int, w1, w2, wi, go, Mv, NilC_at, Fld_at, add_mk, Nat.zero_add, Nat.add_zero, Bin_add, Bin_sub, Bin_mul, Bin_eql, Bin_neq, Bin_lss, Bin_leq, Bin_gtr, Bin_geq, Bin_bool_eql, Bin_bool_neq, Bin_ptr_nil_eql, Bin_ptr_nil_neq, Un_not, Pick_bool, Gd_bool, If_bool, CallF_eq, MaxV_two, MinV_two, if_true, if_false, Bool.false_eq_true, Bool.true_eq_false, Bool.not_true, Bool.not_false, BEq.rfl]
    refine o3.app1 rfl rfl rfl (by simp; omega) (by simp; omega) fun v4 h4 B4 o4 f4 n4 => ?_
    refine hX (i + 1, cs ++ [x + 200]) _ _ _ _ _ _ h4 ⟨f3.trans' f4 fun b hb => .inr (n3 b hb).1, ⟨B4, a3.fr f4 fun b hb hm => (n3 b hm).2 hb, by simpa [Iv] using o4, fun b hb => (n4 b hb).elim (n3 b) fun e => ⟨Nat.le_trans f3.size e, fun hm => ?_⟩⟩, by simp [hlen], by simp only; omega, rfl, rfl, rfl, rfl, rfl⟩ (by simp only; omega)
    have := a3.lt b hm
    omega
  simp only [decide_eq_false hd, go, Mv, NilC_at, Fld_at, add_mk, Nat.zero_add, Nat.add_zero, Bin_add, Bin_sub, Bin_mul, Bin_eql, Bin_neq, Bin_lss, Bin_leq, Bin_gtr, Bin_geq, Bin_bool_eql, Bin_bool_neq, Bin_ptr_nil_eql, Bin_ptr_nil_neq, Un_not, Pick_bool, Gd_bool, If_bool, CallF_eq, MaxV_two, MinV_two, if_true, if_false, Bool.false_eq_true, Bool.true_eq_false, Bool.not_true, Bool.not_false, BEq.rfl]
  have hst : ∀ h', Fr F2 h3 h' → Rd h' c (cs.map Iv) := fun h' f => (o3.fr f fun b hb => (n3 b hb).2).rd
  refine arena_Arena_Add.spec (c := cs) a3 hst (by simp) (by simp) (by omega) (by simp) (fun hf => absurd hf.1 (by simp)) fun _ h4 F4 a4 f4 n4 => ?_
  have n4' : ∀ b ∈ F4, h.size ≤ b := fun b hb => (n4 b hb).elim (n2' b) fun e => Nat.le_trans f3.size e
  have hst4 : ∀ h', Fr F4 h4 h' → Rd h' c (cs.map Iv) := fun h' f => hst h' (f4.trans' f n4)
  refine arena_Arena_Add.spec (c := cs) a4 hst4 (by simp [Ar.add]; omega) (by simp [Ar.add]; omega) (by omega) (by simp [Ar.add]) (fun hf => absurd hf.1 (by simp [Ar.add])) fun _ h5 F5 a5 f5 n5 => ?_
  have f35 : Fr F2 h3 h5 := f4.trans' f5 n4
  have r5 : Rd h5 c (cs.map Iv) := hst h5 f35
  have f05 : Fr [] h h5 := f3.trans' f35 fun b hb => .inr (n2' b hb)
  have hl : (cs.map Iv).length = cs.length := List.length_map _
  have hlv : ∀ r, r ∈ (Ar.add (Ar.add ⟨[], 0, []⟩ cs true 5) cs false 5).lv ↔ r = 0 ∨ r = (3 + cs.length : Int) := by
    intro r
    simp only [Ar.add, List.nil_append, List.mem_append, List.mem_singleton, List.length_append, List.length_cons, List.length_nil, List.mem_cons, List.not_mem_nil, or_false]
    omega
  have hws : (Ar.add (Ar.add ⟨[], 0, []⟩ cs true 5) cs false 5).ws = [head cs.length true, fit31 5, 0] ++ cs ++ [head cs.length false, fit31 5, 0] ++ cs := by simp [Ar.add]
  have w3 : IntKind.i64.wrap (3 + (cs.length : Int)) = 3 + (cs.length : Int) := by rw [IntKind.wrap_i64]; omega
  have hlv2 : (Ar.add (Ar.add ⟨[], 0, []⟩ cs true 5) cs false 5).lv.length = 2 := by simp [Ar.add]
  generalize Ar.add (Ar.add ⟨[], 0, []⟩ cs true 5) cs false 5 = ar at *
  by_cases hz : raw = 0 ∨ raw = 3 + (cs.length : Int)
  · apply cut
    · intro hT
      by_cases z0 : raw = 0
      · have t : (raw == 0) = true := by simpa using z0
        simp only [t, go, Mv, NilC_at, Fld_at, add_mk, Nat.zero_add, Nat.add_zero, Bin_add, Bin_sub, Bin_mul, Bin_eql, Bin_neq, Bin_lss, Bin_leq, Bin_gtr, Bin_geq, Bin_bool_eql, Bin_bool_neq, Bin_ptr_nil_eql, Bin_ptr_nil_neq, Un_not, Pick_bool, Gd_bool, If_bool, CallF_eq, MaxV_two, MinV_two, if_true, if_false, Bool.false_eq_true, Bool.true_eq_false, Bool.not_true, Bool.not_false, BEq.rfl]
        exact hT
      · have t : (raw == 0) = false := by simpa using z0
        simp only [t, go, Mv, NilC_at, Fld_at, add_mk, Nat.zero_add, Nat.add_zero, Bin_add, Bin_sub, Bin_mul, Bin_eql, Bin_neq, Bin_lss, Bin_leq, Bin_gtr, Bin_geq, Bin_bool_eql, Bin_bool_neq, Bin_ptr_nil_eql, Bin_ptr_nil_neq, Un_not, Pick_bool, Gd_bool, If_bool, CallF_eq, MaxV_two, MinV_two, if_true, if_false, Bool.false_eq_true, Bool.true_eq_false, Bool.not_true, Bool.not_false, BEq.rfl]
        refine r5.len ?_
        have t : (raw == 3 + (cs.length : Int)) = true := by simpa using hz.resolve_left z0
        simp only [hl, w3, t, go, Mv, NilC_at, Fld_at, add_mk, Nat.zero_add, Nat.add_zero, Bin_add, Bin_sub, Bin_mul, Bin_eql, Bin_neq, Bin_lss, Bin_leq, Bin_gtr, Bin_geq, Bin_bool_eql, Bin_bool_neq, Bin_ptr_nil_eql, Bin_ptr_nil_neq, Un_not, Pick_bool, Gd_bool, If_bool, CallF_eq, MaxV_two, MinV_two, if_true, if_false, Bool.false_eq_true, Bool.true_eq_false, Bool.not_true, Bool.not_false, BEq.rfl]
        exact hT
    refine arena_Arena_Has.spec (r := raw) a5 ?_
    have hr := (hlv raw).2 hz
    simp only [decide_eq_true hr, go, Mv, NilC_at, Fld_at, add_mk, Nat.zero_add, Nat.add_zero, Bin_add, Bin_sub, Bin_mul, Bin_eql, Bin_neq, Bin_lss, Bin_leq, Bin_gtr, Bin_geq, Bin_bool_eql, Bin_bool_neq, Bin_ptr_nil_eql, Bin_ptr_nil_neq, Un_not, Pick_bool, Gd_bool, If_bool, CallF_eq, MaxV_two, MinV_two, if_true, if_false, Bool.false_eq_true, Bool.true_eq_false, Bool.not_true, Bool.not_false, BEq.rfl]
    have hw : ∃ b, ar.ws[raw.toNat]? = some (head cs.length b) := by
      rw [hws]
      rcases hz with rfl | rfl
      · exact ⟨true, by simp⟩
      · refine ⟨false, ?_⟩
        rw [show (3 + (cs.length : Int)).toNat = ([head cs.length true, fit31 5, 0] ++ cs).length + 0 by simp; omega, List.append_assoc, List.getElem?_append_right (by omega)]
        simp
    obtain ⟨b, hb⟩ := hw
    refine arena_Arena_Len.yes a5 hr (by omega) (by omega) hb ?_
    rw [head_len (by omega)]
    simp only [Iv, go, Mv, NilC_at, Fld_at, add_mk, Nat.zero_add, Nat.add_zero, Bin_add, Bin_sub, Bin_mul, Bin_eql, Bin_neq, Bin_lss, Bin_leq, Bin_gtr, Bin_geq, Bin_bool_eql, Bin_bool_neq, Bin_ptr_nil_eql, Bin_ptr_nil_neq, Un_not, Pick_bool, Gd_bool, If_bool, CallF_eq, MaxV_two, MinV_two, if_true, if_false, Bool.false_eq_true, Bool.true_eq_false, Bool.not_true, Bool.not_false, BEq.rfl]
    refine r5.len ?_
    simp only [hl, BEq.rfl, go, Mv, NilC_at, Fld_at, add_mk, Nat.zero_add, Nat.add_zero, Bin_add, Bin_sub, Bin_mul, Bin_eql, Bin_neq, Bin_lss, Bin_leq, Bin_gtr, Bin_geq, Bin_bool_eql, Bin_bool_neq, Bin_ptr_nil_eql, Bin_ptr_nil_neq, Un_not, Pick_bool, Gd_bool, If_bool, CallF_eq, MaxV_two, MinV_two, if_true, if_false, Bool.false_eq_true, Bool.true_eq_false, Bool.not_true, Bool.not_false, BEq.rfl]
    exact hk _ f05
  · have z0 : ¬ raw = 0 := fun e => hz (.inl e)
    have t : (raw == 0) = false := by simpa using z0
    simp only [t, go, Mv, NilC_at, Fld_at, add_mk, Nat.zero_add, Nat.add_zero, Bin_add, Bin_sub, Bin_mul, Bin_eql, Bin_neq, Bin_lss, Bin_leq, Bin_gtr, Bin_geq, Bin_bool_eql, Bin_bool_neq, Bin_ptr_nil_eql, Bin_ptr_nil_neq, Un_not, Pick_bool, Gd_bool, If_bool, CallF_eq, MaxV_two, MinV_two, if_true, if_false, Bool.false_eq_true, Bool.true_eq_false, Bool.not_true, Bool.not_false, BEq.rfl]
    refine r5.len ?_
    have t : (raw == 3 + (cs.length : Int)) = false := by
      rw [beq_eq_false_iff_ne]; exact fun e => hz (.inr e)
    simp only [hl, w3, t, go, Mv, NilC_at, Fld_at, add_mk, Nat.zero_add, Nat.add_zero, Bin_add, Bin_sub, Bin_mul, Bin_eql, Bin_neq, Bin_lss, Bin_leq, Bin_gtr, Bin_geq, Bin_bool_eql, Bin_bool_neq, Bin_ptr_nil_eql, Bin_ptr_nil_neq, Un_not, Pick_bool, Gd_bool, If_bool, CallF_eq, MaxV_two, MinV_two, if_true, if_false, Bool.false_eq_true, Bool.true_eq_false, Bool.not_true, Bool.not_false, BEq.rfl]
    have hr : raw ∉ ar.lv := fun hm => hz ((hlv raw).1 hm)
    refine arena_Arena_Has.spec (r := raw) a5 ?_
    simp only [decide_eq_false hr, go, Mv, NilC_at, Fld_at, add_mk, Nat.zero_add, Nat.add_zero, Bin_add, Bin_sub, Bin_mul, Bin_eql, Bin_neq, Bin_lss, Bin_leq, Bin_gtr, Bin_geq, Bin_bool_eql, Bin_bool_neq, Bin_ptr_nil_eql, Bin_ptr_nil_neq, Un_not, Pick_bool, Gd_bool, If_bool, CallF_eq, MaxV_two, MinV_two, if_true, if_false, Bool.false_eq_true, Bool.true_eq_false, Bool.not_true, Bool.not_false, BEq.rfl]
    refine arena_Arena_Len.no a5 hr ?_
    simp only [Iv, go, Mv, NilC_at, Fld_at, add_mk, Nat.zero_add, Nat.add_zero, Bin_add, Bin_sub, Bin_mul, Bin_eql, Bin_neq, Bin_lss, Bin_leq, Bin_gtr, Bin_geq, Bin_bool_eql, Bin_bool_neq, Bin_ptr_nil_eql, Bin_ptr_nil_neq, Un_not, Pick_bool, Gd_bool, If_bool, CallF_eq, MaxV_two, MinV_two, if_true, if_false, Bool.false_eq_true, Bool.true_eq_false, Bool.not_true, Bool.not_false, BEq.rfl]
    refine arena_Arena_Lits.no a5 hr ?_
    simp only [Len_at, show (((0 : Nat) : Int) == 0) = true from rfl, go, Mv, NilC_at, Fld_at, add_mk, Nat.zero_add, Nat.add_zero, Bin_add, Bin_sub, Bin_mul, Bin_eql, Bin_neq, Bin_lss, Bin_leq, Bin_gtr, Bin_geq, Bin_bool_eql, Bin_bool_neq, Bin_ptr_nil_eql, Bin_ptr_nil_neq, Un_not, Pick_bool, Gd_bool, If_bool, CallF_eq, MaxV_two, MinV_two, if_true, if_false, Bool.false_eq_true, Bool.true_eq_false, Bool.not_true, Bool.not_false, BEq.rfl]
    refine arena_Arena_Lit.no a5 hr 0 ?_
    simp only [Iv, go, Mv, NilC_at, Fld_at, add_mk, Nat.zero_add, Nat.add_zero, Bin_add, Bin_sub, Bin_mul, Bin_eql, Bin_neq, Bin_lss, Bin_leq, Bin_gtr, Bin_geq, Bin_bool_eql, Bin_bool_neq, Bin_ptr_nil_eql, Bin_ptr_nil_neq, Un_not, Pick_bool, Gd_bool, If_bool, CallF_eq, MaxV_two, MinV_two, if_true, if_false, Bool.false_eq_true, Bool.true_eq_false, Bool.not_true, Bool.not_false, BEq.rfl]
    refine arena_Arena_Swap.no a5 hr 0 0 ?_
    simp only [go, Mv, NilC_at, Fld_at, add_mk, Nat.zero_add, Nat.add_zero, Bin_add, Bin_sub, Bin_mul, Bin_eql, Bin_neq, Bin_lss, Bin_leq, Bin_gtr, Bin_geq, Bin_bool_eql, Bin_bool_neq, Bin_ptr_nil_eql, Bin_ptr_nil_neq, Un_not, Pick_bool, Gd_bool, If_bool, CallF_eq, MaxV_two, MinV_two, if_true, if_false, Bool.false_eq_true, Bool.true_eq_false, Bool.not_true, Bool.not_false, BEq.rfl]
    refine arena_Arena_Learned.no a5 hr ?_
    simp only [go, Mv, NilC_at, Fld_at, add_mk, Nat.zero_add, Nat.add_zero, Bin_add, Bin_sub, Bin_mul, Bin_eql, Bin_neq, Bin_lss, Bin_leq, Bin_gtr, Bin_geq, Bin_bool_eql, Bin_bool_neq, Bin_ptr_nil_eql, Bin_ptr_nil_neq, Un_not, Pick_bool, Gd_bool, If_bool, CallF_eq, MaxV_two, MinV_two, if_true, if_false, Bool.false_eq_true, Bool.true_eq_false, Bool.not_true, Bool.not_false, BEq.rfl]
    refine arena_Arena_Glue.no a5 hr ?_
    simp only [Iv, go, Mv, NilC_at, Fld_at, add_mk, Nat.zero_add, Nat.add_zero, Bin_add, Bin_sub, Bin_mul, Bin_eql, Bin_neq, Bin_lss, Bin_leq, Bin_gtr, Bin_geq, Bin_bool_eql, Bin_bool_neq, Bin_ptr_nil_eql, Bin_ptr_nil_neq, Un_not, Pick_bool, Gd_bool, If_bool, CallF_eq, MaxV_two, MinV_two, if_true, if_false, Bool.false_eq_true, Bool.true_eq_false, Bool.not_true, Bool.not_false, BEq.rfl]
    refine arena_Arena_SetGlue.no a5 hr 1 ?_
    simp only [go, Mv, NilC_at, Fld_at, add_mk, Nat.zero_add, Nat.add_zero, Bin_add, Bin_sub, Bin_mul, Bin_eql, Bin_neq, Bin_lss, Bin_leq, Bin_gtr, Bin_geq, Bin_bool_eql, Bin_bool_neq, Bin_ptr_nil_eql, Bin_ptr_nil_neq, Un_not, Pick_bool, Gd_bool, If_bool, CallF_eq, MaxV_two, MinV_two, if_true, if_false, Bool.false_eq_true, Bool.true_eq_false, Bool.not_true, Bool.not_false, BEq.rfl]
    refine arena_Arena_Uses.no a5 hr ?_
    simp only [Iv, go, Mv, NilC_at, Fld_at, add_mk, Nat.zero_add, Nat.add_zero, Bin_add, Bin_sub, Bin_mul, Bin_eql, Bin_neq, Bin_lss, Bin_leq, Bin_gtr, Bin_geq, Bin_bool_eql, Bin_bool_neq, Bin_ptr_nil_eql, Bin_ptr_nil_neq, Un_not, Pick_bool, Gd_bool, If_bool, CallF_eq, MaxV_two, MinV_two, if_true, if_false, Bool.false_eq_true, Bool.true_eq_false, Bool.not_true, Bool.not_false, BEq.rfl]
    refine arena_Arena_SetUses.no a5 hr 1 ?_
    simp only [go, Mv, NilC_at, Fld_at, add_mk, Nat.zero_add, Nat.add_zero, Bin_add, Bin_sub, Bin_mul, Bin_eql, Bin_neq, Bin_lss, Bin_leq, Bin_gtr, Bin_geq, Bin_bool_eql, Bin_bool_neq, Bin_ptr_nil_eql, Bin_ptr_nil_neq, Un_not, Pick_bool, Gd_bool, If_bool, CallF_eq, MaxV_two, MinV_two, if_true, if_false, Bool.false_eq_true, Bool.true_eq_false, Bool.not_true, Bool.not_false, BEq.rfl]
    refine arena_Arena_Drop.no a5 hr ?_
    simp only [go, Mv, NilC_at, Fld_at, add_mk, Nat.zero_add, Nat.add_zero, Bin_add, Bin_sub, Bin_mul, Bin_eql, Bin_neq, Bin_lss, Bin_leq, Bin_gtr, Bin_geq, Bin_bool_eql, Bin_bool_neq, Bin_ptr_nil_eql, Bin_ptr_nil_neq, Un_not, Pick_bool, Gd_bool, If_bool, CallF_eq, MaxV_two, MinV_two, if_true, if_false, Bool.false_eq_true, Bool.true_eq_false, Bool.not_true, Bool.not_false, BEq.rfl]
    refine arena_Arena_Count.spec a5 ?_
    simp only [Iv, hlv2, show (((2 : Nat) : Int) == 2) = true from rfl, go, Mv, NilC_at, Fld_at, add_mk, Nat.zero_add, Nat.add_zero, Bin_add, Bin_sub, Bin_mul, Bin_eql, Bin_neq, Bin_lss, Bin_leq, Bin_gtr, Bin_geq, Bin_bool_eql, Bin_bool_neq, Bin_ptr_nil_eql, Bin_ptr_nil_neq, Un_not, Pick_bool, Gd_bool, If_bool, CallF_eq, MaxV_two, MinV_two, if_true, if_false, Bool.false_eq_true, Bool.true_eq_false, Bool.not_true, Bool.not_false, BEq.rfl]
    refine arena_Arena_Words.spec a5 ?_
    simp only [Iv, go, Mv, NilC_at, Fld_at, add_mk, Nat.zero_add, Nat.add_zero, Bin_add, Bin_sub, Bin_mul, Bin_eql, Bin_neq, Bin_lss, Bin_leq, Bin_gtr, Bin_geq, Bin_bool_eql, Bin_bool_neq, Bin_ptr_nil_eql, Bin_ptr_nil_neq, Un_not, Pick_bool, Gd_bool, If_bool, CallF_eq, MaxV_two, MinV_two, if_true, if_false, Bool.false_eq_true, Bool.true_eq_false, Bool.not_true, Bool.not_false, BEq.rfl]
    refine r5.len ?_
    have w4 : IntKind.i64.wrap (2 * (3 + (cs.length : Int))) = (ar.ws.length : Int) := by
      rw [IntKind.wrap_i64, hws]; simp only [List.length_append, List.length_cons, List.length_nil]; omega
    simp only [hl, w3, w4, BEq.rfl, go, Mv, NilC_at, Fld_at, add_mk, Nat.zero_add, Nat.add_zero, Bin_add, Bin_sub, Bin_mul, Bin_eql, Bin_neq, Bin_lss, Bin_leq, Bin_gtr, Bin_geq, Bin_bool_eql, Bin_bool_neq, Bin_ptr_nil_eql, Bin_ptr_nil_neq, Un_not, Pick_bool, Gd_bool, If_bool, CallF_eq, MaxV_two, MinV_two, if_true, if_false, Bool.false_eq_true, Bool.true_eq_false, Bool.not_true, Bool.not_false, BEq.rfl]
    exact hk _ f05
theorem bradawllaw05_ArenaNone.law {h : Heap} {a0 : List Int} {a1 : Int} {v0 v1 : Value} (r0 : (rSlice (rInt .i8) 1).is h a0 [v0]) (r1 : (rInt .i64).is h a1 [v1]) :
    CallH Try.prog bradawllaw05_ArenaNone.id #[v0, v1] (fun v h' => v = .bool true ∧ Fr [] h h') h := by
  obtain ⟨rfl, h1, h2⟩ := int_arg r1
  obtain ⟨hl0, hb0⟩ := rd_ints r0
  exact bradawllaw05_ArenaNone.spec hl0 hb0 fun h' f => ⟨rfl, f⟩
end Go.Proofs.Ythekbpaekopmfaa
