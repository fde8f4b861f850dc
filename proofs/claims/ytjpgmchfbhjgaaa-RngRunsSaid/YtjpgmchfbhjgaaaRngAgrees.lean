/- What some functions of this seat compute (RngAgrees), over their texts in primitives. Conditions: those typed ahead of each theorem. -/
import Derived.Test.YtjpgmchfbhjgaaaRngBelow
namespace Go.Proofs.Ytjpgmchfbhjgaaa
open Go.Pt
set_option linter.unusedVariables false
set_option linter.unusedSimpArgs false
theorem set_map_U (os : List W64) (i : Nat) (x : W64) : (os.map U).set i (U x) = (os.set i x).map U := by rw [List.map_set]
theorem bradawllaw09_RngAgrees.spec {K : Ret} {h : Heap} {a0 : List Int} {a1 a2 : Int} {v0 v1 v2 : Value} (r0 : (rSlice (rInt .u64) 1).is h a0 [v0]) (r1 : (rInt .u64).is h a1 [v1]) (r2 : (rInt .u8).is h a2 [v2]) (hk : ∀ h', Fr [] h h' → K (.bool true) h') :
    CallH Try.prog bradawllaw09_RngAgrees.id #[v0, v1, v2] K h := by
  rw [u64_arg r1]
  obtain ⟨e2, hn1, hn2⟩ := r2
  obtain rfl : v2 = .int .u8 a2 := by simpa using e2
  have hn1' : (0 : Int) ≤ a2 := hn1
  have hn2' : a2 ≤ 255 := hn2
  have hw := words_arg r0
  generalize hws : a0.map (BitVec.ofInt 64) = ws at hw
  generalize hsd : BitVec.ofInt 64 a1 = sd
  refine bradawllaw09_RngAgrees.ok ?_
  simp only [bradawllaw09_RngAgrees.pt, go, Mv, NilC_at, Fld_at, add_mk, Nat.zero_add, Nat.add_zero, Bin_add, Bin_sub, Bin_mul, Bin_eql, Bin_neq, Bin_lss, Bin_leq, Bin_gtr, Bin_geq, Bin_bool_eql, Bin_bool_neq, Bin_ptr_nil_eql, Bin_ptr_nil_neq, Un_not, Pick_bool, Gd_bool, If_bool, CallF_eq, MaxV_two, MinV_two, if_true, if_false, Bool.false_eq_true, Bool.true_eq_false, Bool.not_true, Bool.not_false, BEq.rfl]
  refine bradawllaw09_fit.spec fun h1 f1 => ?_
  simp only [go, Mv, NilC_at, Fld_at, add_mk, Nat.zero_add, Nat.add_zero, Bin_add, Bin_sub, Bin_mul, Bin_eql, Bin_neq, Bin_lss, Bin_leq, Bin_gtr, Bin_geq, Bin_bool_eql, Bin_bool_neq, Bin_ptr_nil_eql, Bin_ptr_nil_neq, Un_not, Pick_bool, Gd_bool, If_bool, CallF_eq, MaxV_two, MinV_two, if_true, if_false, Bool.false_eq_true, Bool.true_eq_false, Bool.not_true, Bool.not_false, BEq.rfl]
  have hw1 := hw.fr f1
  refine hw1.len ?_
  rw [List.length_map]
  simp only [go, Mv, NilC_at, Fld_at, add_mk, Nat.zero_add, Nat.add_zero, Bin_add, Bin_sub, Bin_mul, Bin_eql, Bin_neq, Bin_lss, Bin_leq, Bin_gtr, Bin_geq, Bin_bool_eql, Bin_bool_neq, Bin_ptr_nil_eql, Bin_ptr_nil_neq, Un_not, Pick_bool, Gd_bool, If_bool, CallF_eq, MaxV_two, MinV_two, if_true, if_false, Bool.false_eq_true, Bool.true_eq_false, Bool.not_true, Bool.not_false, BEq.rfl]
  by_cases hl : 60 < ws.length
  · rw [if_pos (by simpa using (by omega : (60 : Int) < ws.length))]; exact hk _ f1
  rw [if_neg (by simpa using (by omega : ¬ (60 : Int) < ws.length))]
  refine (Own.nil h1).app hw1 rfl rfl (by simp [U_cell]) (by simp; omega) (by simp; omega) ?_
  intro ov h2 ob ho f2 hob _
  rw [List.nil_append] at ho
  have hw2 := hw1.fr f2
  rw [Cvt_int]
  refine hw2.len ?_
  rw [List.length_map]
  have e1 : IntKind.i64.wrap a2 = a2 := by rw [IntKind.wrap_i64]; omega
  have e2 : IntKind.i64.wrap ((ws.length : Int) + 1) = (ws.length : Int) + 1 := by rw [IntKind.wrap_i64]; omega
  simp only [e1, e2, go, Mv, NilC_at, Fld_at, add_mk, Nat.zero_add, Nat.add_zero, Bin_add, Bin_sub, Bin_mul, Bin_eql, Bin_neq, Bin_lss, Bin_leq, Bin_gtr, Bin_geq, Bin_bool_eql, Bin_bool_neq, Bin_ptr_nil_eql, Bin_ptr_nil_neq, Un_not, Pick_bool, Gd_bool, If_bool, CallF_eq, MaxV_two, MinV_two, if_true, if_false, Bool.false_eq_true, Bool.true_eq_false, Bool.not_true, Bool.not_false, BEq.rfl]
  rw [Bin_rem _ _ _ _ (by omega)]
  obtain ⟨k, hkk, hkl⟩ : ∃ k : Nat, a2.tmod ((ws.length : Int) + 1) = (k : Int) ∧ k ≤ ws.length := by
    rw [Int.tmod_eq_emod_of_nonneg hn1']
    have h1 := Int.emod_nonneg a2 (show (ws.length : Int) + 1 ≠ 0 by omega)
    have h2 := Int.emod_lt_of_pos a2 (show (0 : Int) < (ws.length : Int) + 1 by omega)
    exact ⟨(a2 % ((ws.length : Int) + 1)).toNat, by omega, by omega⟩
  rw [hkk]
  have nob : ∀ x ∈ ob, x ∈ ([] : List Nat) ∨ h.size ≤ x := fun x hx => (hob x hx).elim (fun hm => by cases hm) fun hm => .inr (by rw [hm]; exact f1.size)
  have rdF : ∀ h', Fr [] h h' → Rd h' v0 (ws.map U) := fun h' f => hw.fr f
  refine Lp5 (σ := Nat × List W64) (fun s a b c d e h' => Fr [] h h' ∧ Own h' ov (s.2.map U) ob ∧ s.2.length = ws.length ∧ k ≤ s.1 ∧ s.1 ≤ ws.length ∧
      (∀ j : Nat, s.2[j]? = if k ≤ j ∧ j < s.1 then (ws[j]?).map (~~~ ·) else ws[j]?) ∧ v0 = a ∧ b = U sd ∧ ov = c ∧ d = .int .i64 (k : Int) ∧ e = .int .i64 (s.1 : Int)) (fun s => ws.length - s.1) (k, ws)
    ⟨f1.trans f2, ho, rfl, Nat.le_refl _, hkl, fun j => by simp; intro h1 h2; omega, rfl, rfl, rfl, rfl, rfl⟩ ?_
  rintro ⟨i, os⟩ a b c d e h3 ⟨f3, ho3, hlen, hki, hil, hos, rfl, rfl, rfl, rfl, rfl⟩ X hX
  simp only at ho3 hlen hki hil hos
  simp only [go, Mv, NilC_at, Fld_at, add_mk, Nat.zero_add, Nat.add_zero, Bin_add, Bin_sub, Bin_mul, Bin_eql, Bin_neq, Bin_lss, Bin_leq, Bin_gtr, Bin_geq, Bin_bool_eql, Bin_bool_neq, Bin_ptr_nil_eql, Bin_ptr_nil_neq, Un_not, Pick_bool, Gd_bool, If_bool, CallF_eq, MaxV_two, MinV_two, if_true, if_false, Bool.false_eq_true, Bool.true_eq_false, Bool.not_true, Bool.not_false, BEq.rfl]
  refine ho3.len ?_
  rw [List.length_map, hlen]
  simp only [go, Mv, NilC_at, Fld_at, add_mk, Nat.zero_add, Nat.add_zero, Bin_add, Bin_sub, Bin_mul, Bin_eql, Bin_neq, Bin_lss, Bin_leq, Bin_gtr, Bin_geq, Bin_bool_eql, Bin_bool_neq, Bin_ptr_nil_eql, Bin_ptr_nil_neq, Un_not, Pick_bool, Gd_bool, If_bool, CallF_eq, MaxV_two, MinV_two, if_true, if_false, Bool.false_eq_true, Bool.true_eq_false, Bool.not_true, Bool.not_false, BEq.rfl]
  by_cases hlt : i < ws.length
  · rw [if_pos (by simpa using (by omega : (i : Int) < ws.length))]
    have hoi : os[i]? = some os[i] := by simp [hlen, hlt]
    refine ho3.at (x := U os[i]) (by omega) (by simp [hlen, hlt]) ?_
    rw [U_not]
    refine ho3.put (by omega) (by simp [hlen, hlt]) rfl fun h4 ho4 f4 _ => ?_
    rw [Int.toNat_natCast, set_map_U] at ho4
    have hwi : IntKind.i64.wrap ((i : Int) + 1) = ((i + 1 : Nat) : Int) := by rw [IntKind.wrap_i64]; omega
    rw [hwi]
    have hwsi : ws[i]? = some os[i] := by have := hos i; rw [hoi, if_neg (by omega)] at this; exact this.symm
    refine hX (i + 1, os.set i (~~~os[i])) _ _ _ _ _ h4 ⟨f3.trans' f4 nob, ho4, by simpa using hlen, (show k ≤ i + 1 by omega), (show i + 1 ≤ ws.length by omega), fun j => ?_, rfl, rfl, rfl, rfl, rfl⟩ (by simp; omega)
    show (os.set i (~~~os[i]))[j]? = if k ≤ j ∧ j < i + 1 then _ else _
    by_cases hj : i = j
    · subst hj
      rw [List.getElem?_set_self (by omega), if_pos (by omega), hwsi]; rfl
    · rw [List.getElem?_set_ne hj, hos j]
      by_cases hc : k ≤ j ∧ j < i
      · rw [if_pos hc, if_pos (by omega)]
      · rw [if_neg hc, if_neg (by omega)]
  rw [if_neg (by simpa using (by omega : ¬ (i : Int) < ws.length))]
  have hi : i = ws.length := by omega
  subst hi
  refine rng_New.spec (rdF _ f3) (by omega) fun g1 h4 F1 s1 f4 n1 => ?_
  have ho4 : Own h4 ov (os.map U) ob := ho3.fr f4 (by simp)
  refine rng_New.spec ho4.rd (by omega) fun g2 h5 F2 s2 f5 n2 => ?_
  have ho5 : Own h5 ov (os.map U) ob := ho4.fr f5 (by simp)
  have s1' : StrAt h5 g1 _ F1 := s1.fr f5 (by simp)
  refine ho5.len ?_
  rw [List.length_map, hlen]
  have obl : ∀ x ∈ ob, x < h3.size := ho3.lt
  have f35 := f3.trans (f4.trans f5)
  have d1 : ∀ x ∈ F1, x ∉ ob := fun x hx hm => by have := n1 x hx; have := obl x hm; omega
  have d2 : ∀ x ∈ F2, x ∉ ob := fun x hx hm => by have := n2 x hx; have := obl x hm; have := f4.size; omega
  have d12 : ∀ x ∈ F1, x ∉ F2 := fun x hx hm => by have := n2 x hm; have := s1.lt x hx; omega
  have nF1 : ∀ x ∈ F1, x ∈ ([] : List Nat) ∨ h.size ≤ x := fun x hx => .inr (Nat.le_trans f3.size (n1 x hx))
  have nF2 : ∀ x ∈ F2, x ∈ ([] : List Nat) ∨ h.size ≤ x := fun x hx => .inr (Nat.le_trans (f3.trans f4).size (n2 x hx))
  refine Lp7 (σ := Nat × List W64) (fun s a b c' d e f g h' => Fr [] h h' ∧ StrAt h' g1 ⟨ws, seedOf sd, 0⟩ F1 ∧ StrAt h' g2 ⟨os, seedOf sd, 0⟩ F2 ∧ Own h' ov (s.2.map U) ob ∧ s.2.length = ws.length ∧ s.1 ≤ ws.length ∧
      v0 = a ∧ ov = b ∧ c' = .int .i64 (k : Int) ∧ d = .pointer (some ⟨g1, 0, none⟩) ∧ e = .pointer (some ⟨g2, 0, none⟩) ∧ f = .int .i64 (ws.length : Int) ∧ g = .int .i64 (s.1 : Int)) (fun s => ws.length - s.1) (0, os)
    ⟨f35, s1', s2, ho5, hlen, Nat.zero_le _, rfl, rfl, rfl, rfl, rfl, rfl, rfl⟩ ?_
  rintro ⟨j, us⟩ a b c' d e f g h6 ⟨f6, sa6, sb6, ho6, hul, hjl, rfl, rfl, rfl, rfl, rfl, rfl, rfl⟩ X2 hX2
  simp only at ho6 hul hjl
  simp only [go, Mv, NilC_at, Fld_at, add_mk, Nat.zero_add, Nat.add_zero, Bin_add, Bin_sub, Bin_mul, Bin_eql, Bin_neq, Bin_lss, Bin_leq, Bin_gtr, Bin_geq, Bin_bool_eql, Bin_bool_neq, Bin_ptr_nil_eql, Bin_ptr_nil_neq, Un_not, Pick_bool, Gd_bool, If_bool, CallF_eq, MaxV_two, MinV_two, if_true, if_false, Bool.false_eq_true, Bool.true_eq_false, Bool.not_true, Bool.not_false, BEq.rfl]
  by_cases hlt : j < ws.length
  · rw [if_pos (by simpa using (by omega : (j : Int) < ws.length))]
    refine ho6.put (by omega) (by simp; omega) rfl fun h7 ho7 f7 _ => ?_
    rw [Int.toNat_natCast, show Value.int .u64 5 = U 5#64 from rfl, set_map_U] at ho7
    have hwi : IntKind.i64.wrap ((j : Int) + 1) = ((j + 1 : Nat) : Int) := by rw [IntKind.wrap_i64]; omega
    rw [hwi]
    exact hX2 (j + 1, us.set j 5#64) _ _ _ _ _ _ _ h7 ⟨f6.trans' f7 nob, sa6.fr f7 d1, sb6.fr f7 d2, ho7, by simpa using hul, (show j + 1 ≤ ws.length by omega), rfl, rfl, rfl, rfl, rfl, rfl, rfl⟩ (by simp; omega)
  rw [if_neg (by simpa using (by omega : ¬ (j : Int) < ws.length))]
  refine Lp6 (σ := Nat) (fun s a b' c' d e f h' => Fr [] h h' ∧ StrAt h' g1 ⟨ws, seedOf sd, s⟩ F1 ∧ StrAt h' g2 ⟨os, seedOf sd, s⟩ F2 ∧ s ≤ k ∧
      v0 = a ∧ b' = .int .i64 (k : Int) ∧ c' = .pointer (some ⟨g1, 0, none⟩) ∧ d = .pointer (some ⟨g2, 0, none⟩) ∧ e = .int .i64 (k : Int) ∧ f = .int .i64 (s : Int)) (fun s => k - s) 0
    ⟨f6, sa6, sb6, Nat.zero_le _, rfl, rfl, rfl, rfl, rfl, rfl⟩ ?_
  rintro m a b' c' d e f h7 ⟨f7, sa7, sb7, hmk, rfl, rfl, rfl, rfl, rfl, rfl⟩ X3 hX3
  simp only [go, Mv, NilC_at, Fld_at, add_mk, Nat.zero_add, Nat.add_zero, Bin_add, Bin_sub, Bin_mul, Bin_eql, Bin_neq, Bin_lss, Bin_leq, Bin_gtr, Bin_geq, Bin_bool_eql, Bin_bool_neq, Bin_ptr_nil_eql, Bin_ptr_nil_neq, Un_not, Pick_bool, Gd_bool, If_bool, CallF_eq, MaxV_two, MinV_two, if_true, if_false, Bool.false_eq_true, Bool.true_eq_false, Bool.not_true, Bool.not_false, BEq.rfl]
  by_cases hlt2 : m < k
  · rw [if_pos (by simpa using (by omega : (m : Int) < k))]
    have hm1 : m < ws.length := by omega
    have hm2 : m < os.length := by omega
    have hom : os[m] = ws[m] := by
      have := hos m
      rw [if_neg (by omega)] at this
      simpa [hm1, hm2] using this
    have ea : (Str.next ⟨ws, seedOf sd, m⟩) = (ws[m], ⟨ws, seedOf sd, m + 1⟩) := by unfold Str.next; rw [dif_pos hm1]
    have eb : (Str.next ⟨os, seedOf sd, m⟩) = (ws[m], ⟨os, seedOf sd, m + 1⟩) := by unfold Str.next; rw [dif_pos hm2]; simp [hom]
    refine rng_Stream_Next.spec sa7 (show m < _ by omega) (show ws.length < _ by omega) fun h8 sa8 f8 => ?_
    refine rng_Stream_Next.spec (sb7.fr f8 fun x hx hm => d12 x hm hx) (show m < _ by omega) (show os.length < _ by omega) fun h9 sb9 f9 => ?_
    rw [ea] at sa8
    rw [eb] at sb9
    rw [ea, eb]
    have hwi : IntKind.i64.wrap ((m : Int) + 1) = ((m + 1 : Nat) : Int) := by rw [IntKind.wrap_i64]; omega
    simp only [U_neq, bne_self_eq_false, hwi, go, Mv, NilC_at, Fld_at, add_mk, Nat.zero_add, Nat.add_zero, Bin_add, Bin_sub, Bin_mul, Bin_eql, Bin_neq, Bin_lss, Bin_leq, Bin_gtr, Bin_geq, Bin_bool_eql, Bin_bool_neq, Bin_ptr_nil_eql, Bin_ptr_nil_neq, Un_not, Pick_bool, Gd_bool, If_bool, CallF_eq, MaxV_two, MinV_two, if_true, if_false, Bool.false_eq_true, Bool.true_eq_false, Bool.not_true, Bool.not_false, BEq.rfl]
    exact hX3 (m + 1) _ _ _ _ _ _ h9 ⟨(f7.trans' f8 nF1).trans' f9 nF2, sa8.fr f9 d12, sb9, by omega, rfl, rfl, rfl, rfl, rfl, rfl⟩ (by omega)
  rw [if_neg (by simpa using (by omega : ¬ (m : Int) < k))]
  have hm : m = k := by omega
  subst hm
  refine (rdF _ f7).len ?_
  rw [List.length_map]
  simp only [go, Mv, NilC_at, Fld_at, add_mk, Nat.zero_add, Nat.add_zero, Bin_add, Bin_sub, Bin_mul, Bin_eql, Bin_neq, Bin_lss, Bin_leq, Bin_gtr, Bin_geq, Bin_bool_eql, Bin_bool_neq, Bin_ptr_nil_eql, Bin_ptr_nil_neq, Un_not, Pick_bool, Gd_bool, If_bool, CallF_eq, MaxV_two, MinV_two, if_true, if_false, Bool.false_eq_true, Bool.true_eq_false, Bool.not_true, Bool.not_false, BEq.rfl]
  by_cases hkl2 : m = ws.length
  · have t : ((m : Int) == (ws.length : Int)) = true := by rw [beq_iff_eq]; omega
    simp only [t, go, Mv, NilC_at, Fld_at, add_mk, Nat.zero_add, Nat.add_zero, Bin_add, Bin_sub, Bin_mul, Bin_eql, Bin_neq, Bin_lss, Bin_leq, Bin_gtr, Bin_geq, Bin_bool_eql, Bin_bool_neq, Bin_ptr_nil_eql, Bin_ptr_nil_neq, Un_not, Pick_bool, Gd_bool, If_bool, CallF_eq, MaxV_two, MinV_two, if_true, if_false, Bool.false_eq_true, Bool.true_eq_false, Bool.not_true, Bool.not_false, BEq.rfl]
    exact hk _ f7
  · have t : ((m : Int) == (ws.length : Int)) = false := by rw [beq_eq_false_iff_ne]; omega
    simp only [t, go, Mv, NilC_at, Fld_at, add_mk, Nat.zero_add, Nat.add_zero, Bin_add, Bin_sub, Bin_mul, Bin_eql, Bin_neq, Bin_lss, Bin_leq, Bin_gtr, Bin_geq, Bin_bool_eql, Bin_bool_neq, Bin_ptr_nil_eql, Bin_ptr_nil_neq, Un_not, Pick_bool, Gd_bool, If_bool, CallF_eq, MaxV_two, MinV_two, if_true, if_false, Bool.false_eq_true, Bool.true_eq_false, Bool.not_true, Bool.not_false, BEq.rfl]
    have hm1 : m < ws.length := by omega
    have hm2 : m < os.length := by omega
    have hom : os[m] = ~~~ws[m] := by
      have := hos m
      rw [if_pos (by omega)] at this
      simpa [hm1, hm2] using this
    have ea : (Str.next ⟨ws, seedOf sd, m⟩) = (ws[m], ⟨ws, seedOf sd, m + 1⟩) := by unfold Str.next; rw [dif_pos hm1]
    have eb : (Str.next ⟨os, seedOf sd, m⟩) = (~~~ws[m], ⟨os, seedOf sd, m + 1⟩) := by unfold Str.next; rw [dif_pos hm2]; simp [hom]
    refine rng_Stream_Next.spec sa7 (show m < _ by omega) (show ws.length < _ by omega) fun h8 sa8 f8 => ?_
    refine rng_Stream_Next.spec (sb7.fr f8 fun x hx hm => d12 x hm hx) (show m < _ by omega) (show os.length < _ by omega) fun h9 sb9 f9 => ?_
    rw [ea, eb]
    have hne : (ws[m] != ~~~ws[m]) = true := by
      rw [bne_iff_ne]
      intro e
      have := congrArg (fun z : W64 => z.getLsbD 0) e
      simp at this
    simp only [U_neq, hne, go, Mv, NilC_at, Fld_at, add_mk, Nat.zero_add, Nat.add_zero, Bin_add, Bin_sub, Bin_mul, Bin_eql, Bin_neq, Bin_lss, Bin_leq, Bin_gtr, Bin_geq, Bin_bool_eql, Bin_bool_neq, Bin_ptr_nil_eql, Bin_ptr_nil_neq, Un_not, Pick_bool, Gd_bool, If_bool, CallF_eq, MaxV_two, MinV_two, if_true, if_false, Bool.false_eq_true, Bool.true_eq_false, Bool.not_true, Bool.not_false, BEq.rfl]
    exact hk _ ((f7.trans' f8 nF1).trans' f9 nF2)
theorem bradawllaw09_RngAgrees.law {h : Heap} {a0 : List Int} {a1 a2 : Int} {v0 v1 v2 : Value} (r0 : (rSlice (rInt .u64) 1).is h a0 [v0]) (r1 : (rInt .u64).is h a1 [v1]) (r2 : (rInt .u8).is h a2 [v2]) :
    CallH Try.prog bradawllaw09_RngAgrees.id #[v0, v1, v2] (fun v h' => v = .bool true ∧ Fr [] h h') h := bradawllaw09_RngAgrees.spec r0 r1 r2 fun _ f => ⟨rfl, f⟩
end Go.Proofs.Ytjpgmchfbhjgaaa
