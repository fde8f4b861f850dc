/- What some functions of this seat compute (RngRuns), over their texts in primitives. Conditions: those typed ahead of each theorem. -/
import Derived.Test.YtjpgmchfbhjgaaaRngAgrees
namespace Go.Proofs.Ytjpgmchfbhjgaaa
open Go.Pt
set_option linter.unusedVariables false
set_option linter.unusedSimpArgs false
theorem rem_cvt {x : W64} {n : Int} {K : Ret} {h : Heap} (h1 : 1 ≤ n) (hn : n < 9223372036854775808) :
    Bin .int .rem (U x) (U (BitVec.ofInt 64 n)) (fun t h => Cvt .i64 t K h) h = K (.int .i64 ((x.toNat : Int) % n)) h := by
  have hne : BitVec.ofInt 64 n ≠ 0 := by
    intro e
    have := congrArg BitVec.toNat e
    rw [BitVec.toNat_ofInt] at this
    have h0 : (0 : W64).toNat = 0 := rfl
    rw [h0] at this
    omega
  rw [U_rem _ _ _ hne, U, Cvt_int]
  have e : IntKind.i64.wrap (((x % BitVec.ofInt 64 n).toNat : Nat) : Int) = (x.toNat : Int) % n := by
    have hn2 : (BitVec.ofInt 64 n).toNat = n.toNat := by rw [BitVec.toNat_ofInt]; omega
    rw [BitVec.toNat_umod, hn2, Int.natCast_emod]
    have hn3 : (n.toNat : Int) = n := Int.toNat_of_nonneg (by omega)
    rw [hn3, IntKind.wrap_i64]
    have a := Int.emod_nonneg (x.toNat : Int) (show n ≠ 0 by omega)
    have b := Int.emod_lt_of_pos (x.toNat : Int) (show 0 < n by omega)
    omega
  rw [e]
/-- The law's own stream: a count, the words, and a number, each in a block. -/
def OwnAt (h : Heap) (kb tb xb : Nat) (v : Value) (s : Str) : Prop :=
  Blk h kb [.int .i64 (s.d : Int)] ∧ Blk h tb [v] ∧ Blk h xb [U s.x] ∧ Rd h v (s.ws.map U)
theorem bradawllaw09_RngRuns_1.spec {kb tb xb : Nat} {v : Value} {s : Str} {K : Ret} {h : Heap} (hs : OwnAt h kb tb xb v s) (hkt : kb ≠ tb) (hkx : kb ≠ xb) (htx : tb ≠ xb) (hd : s.d < 4611686018427387904)
    {N : Nat} (hN : ∀ (i : Nat) (x : Value), (s.ws.map U)[i]? = some x → ∀ a n c, v = .slice (some a) n c → a.block < N) (hk1 : N ≤ kb) (hx1 : N ≤ xb)
    (hk : ∀ h', OwnAt h' kb tb xb v s.next.2 → Fr [kb, xb] h h' → K (U s.next.1) h') :
    CallH Try.prog bradawllaw09_RngRuns_1.id #[.pointer (some ⟨kb, 0, none⟩), .pointer (some ⟨tb, 0, none⟩), .pointer (some ⟨xb, 0, none⟩)] K h := by
  obtain ⟨b1, b2, b3, rd⟩ := hs
  refine bradawllaw09_RngRuns_1.ok ?_
  simp only [bradawllaw09_RngRuns_1.pt, go, Mv, NilC_at, Fld_at, add_mk, Nat.zero_add, Nat.add_zero, Bin_add, Bin_sub, Bin_mul, Bin_eql, Bin_neq, Bin_lss, Bin_leq, Bin_gtr, Bin_geq, Bin_bool_eql, Bin_bool_neq, Bin_ptr_nil_eql, Bin_ptr_nil_neq, Un_not, Pick_bool, Gd_bool, If_bool, CallF_eq, MaxV_two, MinV_two, if_true, if_false, Bool.false_eq_true, Bool.true_eq_false, Bool.not_true, Bool.not_false, BEq.rfl]
  refine Ld_blk b1 rfl ?_
  have hw : IntKind.i64.wrap ((s.d : Int) + 1) = ((s.d + 1 : Nat) : Int) := by rw [IntKind.wrap_i64]; omega
  simp only [hw, go, Mv, NilC_at, Fld_at, add_mk, Nat.zero_add, Nat.add_zero, Bin_add, Bin_sub, Bin_mul, Bin_eql, Bin_neq, Bin_lss, Bin_leq, Bin_gtr, Bin_geq, Bin_bool_eql, Bin_bool_neq, Bin_ptr_nil_eql, Bin_ptr_nil_neq, Un_not, Pick_bool, Gd_bool, If_bool, CallF_eq, MaxV_two, MinV_two, if_true, if_false, Bool.false_eq_true, Bool.true_eq_false, Bool.not_true, Bool.not_false, BEq.rfl]
  refine St_blk b1 (by simp) rfl fun h1 b1' f1 => ?_
  simp only [List.set] at b1'
  have b2' := b2.fr f1 (by simpa using Ne.symm hkt)
  have b3' := b3.fr f1 (by simpa using Ne.symm hkx)
  have rd' : Rd h1 v (s.ws.map U) := rd.frN hN f1 (by simpa using hk1)
  refine Ld_blk b1' rfl (Ld_blk b2' rfl (rd'.len ?_))
  rw [List.length_map]
  simp only [go, Mv, NilC_at, Fld_at, add_mk, Nat.zero_add, Nat.add_zero, Bin_add, Bin_sub, Bin_mul, Bin_eql, Bin_neq, Bin_lss, Bin_leq, Bin_gtr, Bin_geq, Bin_bool_eql, Bin_bool_neq, Bin_ptr_nil_eql, Bin_ptr_nil_neq, Un_not, Pick_bool, Gd_bool, If_bool, CallF_eq, MaxV_two, MinV_two, if_true, if_false, Bool.false_eq_true, Bool.true_eq_false, Bool.not_true, Bool.not_false, BEq.rfl]
  by_cases hlt : s.d < s.ws.length
  · have hnx : s.next = (s.ws[s.d], { s with d := s.d + 1 }) := by unfold Str.next; rw [dif_pos hlt]
    rw [if_pos (by simp; omega)]
    refine Ld_blk b2' rfl (Ld_blk b1' rfl ?_)
    have hw2 : IntKind.i64.wrap (((s.d + 1 : Nat) : Int) - 1) = (s.d : Int) := by rw [IntKind.wrap_i64]; omega
    simp only [hw2, go, Mv, NilC_at, Fld_at, add_mk, Nat.zero_add, Nat.add_zero, Bin_add, Bin_sub, Bin_mul, Bin_eql, Bin_neq, Bin_lss, Bin_leq, Bin_gtr, Bin_geq, Bin_bool_eql, Bin_bool_neq, Bin_ptr_nil_eql, Bin_ptr_nil_neq, Un_not, Pick_bool, Gd_bool, If_bool, CallF_eq, MaxV_two, MinV_two, if_true, if_false, Bool.false_eq_true, Bool.true_eq_false, Bool.not_true, Bool.not_false, BEq.rfl]
    refine rd'.at (x := U s.ws[s.d]) (by omega) (by simp [hlt]) ?_
    rw [hnx] at hk
    exact hk h1 ⟨b1', b2', b3', rd'⟩ (f1.mono (by simp))
  · have hnx : s.next = (stepB s.x, { s with x := stepB s.x, d := s.d + 1 }) := by unfold Str.next; rw [dif_neg hlt]
    rw [if_neg (by simp; omega)]
    refine Ld_blk b3' rfl ?_
    refine bradawllaw09_step.spec s.x ?_
    refine St_blk b3' (by simp) rfl fun h2 b3'' f2 => ?_
    simp only [List.set] at b3''
    refine Ld_blk b3'' rfl ?_
    rw [hnx] at hk
    exact hk h2 ⟨b1'.fr f2 (by simpa using hkx), b2'.fr f2 (by simpa using htx), b3'', rd'.frN hN f2 (by simpa using hx1)⟩ ((f1.mono (by simp)).trans (f2.mono (by simp)))
theorem bradawllaw09_RngRuns.spec {K : Ret} {h : Heap} {a0 : List Int} {a1 : Int} {a2 : List Int} {v0 v1 v2 : Value} (r0 : (rSlice (rInt .u64) 1).is h a0 [v0]) (r1 : (rInt .u64).is h a1 [v1]) (r2 : (rSlice (rInt .i64) 1).is h a2 [v2]) (hk : ∀ h', Fr [] h h' → K (.bool true) h') :
    CallH Try.prog bradawllaw09_RngRuns.id #[v0, v1, v2] K h := by
  rw [u64_arg r1]
  obtain ⟨hl0, hb0⟩ := rd_ints r2
  have hw := words_arg r0
  generalize hws : a0.map (BitVec.ofInt 64) = ws at hw
  generalize hsd : BitVec.ofInt 64 a1 = sd
  have hvN : ∀ (i : Nat) (x : Value), (ws.map U)[i]? = some x → ∀ a n c, v0 = .slice (some a) n c → a.block < h.size := by
    intro i x hx a n c e
    obtain ⟨ad, cap, e1, hc⟩ := hw
    obtain ⟨ad', e2, e3⟩ := hc i x hx
    rw [e1] at e
    injection e with e4 _ _
    rw [e2] at e4
    cases e4
    have := cell_lt e3
    rwa [Addr.add_block] at this
  have hb : hasBody Try.prog bradawllaw09_RngRuns_1.id = true := by kernel_rfl
  refine bradawllaw09_RngRuns.ok ?_
  simp only [bradawllaw09_RngRuns.pt, go, Mv, NilC_at, Fld_at, add_mk, Nat.zero_add, Nat.add_zero, Bin_add, Bin_sub, Bin_mul, Bin_eql, Bin_neq, Bin_lss, Bin_leq, Bin_gtr, Bin_geq, Bin_bool_eql, Bin_bool_neq, Bin_ptr_nil_eql, Bin_ptr_nil_neq, Un_not, Pick_bool, Gd_bool, If_bool, CallF_eq, MaxV_two, MinV_two, if_true, if_false, Bool.false_eq_true, Bool.true_eq_false, Bool.not_true, Bool.not_false, BEq.rfl]
  rw [cells_one hw.isCell]
  refine New_blk fun h0 bt f0 hz0 => ?_
  refine bradawllaw09_fit.spec fun h1 f1 => ?_
  simp only [go, Mv, NilC_at, Fld_at, add_mk, Nat.zero_add, Nat.add_zero, Bin_add, Bin_sub, Bin_mul, Bin_eql, Bin_neq, Bin_lss, Bin_leq, Bin_gtr, Bin_geq, Bin_bool_eql, Bin_bool_neq, Bin_ptr_nil_eql, Bin_ptr_nil_neq, Un_not, Pick_bool, Gd_bool, If_bool, CallF_eq, MaxV_two, MinV_two, if_true, if_false, Bool.false_eq_true, Bool.true_eq_false, Bool.not_true, Bool.not_false, BEq.rfl]
  have bt1 : Blk h1 h.size [v0] := bt.fr f1 (by simp)
  have f01 := f0.trans f1
  have hw1 := hw.fr f01
  have hl1 := hl0.fr f01
  refine Ld_blk bt1 rfl (hw1.len ?_)
  rw [List.length_map]
  simp only [go, Mv, NilC_at, Fld_at, add_mk, Nat.zero_add, Nat.add_zero, Bin_add, Bin_sub, Bin_mul, Bin_eql, Bin_neq, Bin_lss, Bin_leq, Bin_gtr, Bin_geq, Bin_bool_eql, Bin_bool_neq, Bin_ptr_nil_eql, Bin_ptr_nil_neq, Un_not, Pick_bool, Gd_bool, If_bool, CallF_eq, MaxV_two, MinV_two, if_true, if_false, Bool.false_eq_true, Bool.true_eq_false, Bool.not_true, Bool.not_false, BEq.rfl]
  have hsz : h.size < h1.size := bt1.lt
  by_cases hl : 60 < ws.length
  · have t : decide ((ws.length : Int) > 60) = true := by simp; omega
    simp only [t, go, Mv, NilC_at, Fld_at, add_mk, Nat.zero_add, Nat.add_zero, Bin_add, Bin_sub, Bin_mul, Bin_eql, Bin_neq, Bin_lss, Bin_leq, Bin_gtr, Bin_geq, Bin_bool_eql, Bin_bool_neq, Bin_ptr_nil_eql, Bin_ptr_nil_neq, Un_not, Pick_bool, Gd_bool, If_bool, CallF_eq, MaxV_two, MinV_two, if_true, if_false, Bool.false_eq_true, Bool.true_eq_false, Bool.not_true, Bool.not_false, BEq.rfl]; exact hk _ f01
  have t : decide ((ws.length : Int) > 60) = false := by simp; omega
  simp only [t, go, Mv, NilC_at, Fld_at, add_mk, Nat.zero_add, Nat.add_zero, Bin_add, Bin_sub, Bin_mul, Bin_eql, Bin_neq, Bin_lss, Bin_leq, Bin_gtr, Bin_geq, Bin_bool_eql, Bin_bool_neq, Bin_ptr_nil_eql, Bin_ptr_nil_neq, Un_not, Pick_bool, Gd_bool, If_bool, CallF_eq, MaxV_two, MinV_two, if_true, if_false, Bool.false_eq_true, Bool.true_eq_false, Bool.not_true, Bool.not_false, BEq.rfl]
  refine hl1.len ?_
  rw [List.length_map]
  by_cases hl2 : 100 < a2.length
  · have t : decide ((a2.length : Int) > 100) = true := by simp; omega
    simp only [t, go, Mv, NilC_at, Fld_at, add_mk, Nat.zero_add, Nat.add_zero, Bin_add, Bin_sub, Bin_mul, Bin_eql, Bin_neq, Bin_lss, Bin_leq, Bin_gtr, Bin_geq, Bin_bool_eql, Bin_bool_neq, Bin_ptr_nil_eql, Bin_ptr_nil_neq, Un_not, Pick_bool, Gd_bool, If_bool, CallF_eq, MaxV_two, MinV_two, if_true, if_false, Bool.false_eq_true, Bool.true_eq_false, Bool.not_true, Bool.not_false, BEq.rfl]; exact hk _ f01
  have t2 : decide ((a2.length : Int) > 100) = false := by simp; omega
  simp only [t2, go, Mv, NilC_at, Fld_at, add_mk, Nat.zero_add, Nat.add_zero, Bin_add, Bin_sub, Bin_mul, Bin_eql, Bin_neq, Bin_lss, Bin_leq, Bin_gtr, Bin_geq, Bin_bool_eql, Bin_bool_neq, Bin_ptr_nil_eql, Bin_ptr_nil_neq, Un_not, Pick_bool, Gd_bool, If_bool, CallF_eq, MaxV_two, MinV_two, if_true, if_false, Bool.false_eq_true, Bool.true_eq_false, Bool.not_true, Bool.not_false, BEq.rfl]
  refine Ld_blk bt1 rfl ?_
  refine rng_New.spec hw1 (by omega) fun g h2 F hs f2 hF => ?_
  refine New_blk fun h3 bx f3 hz3 => ?_
  refine St_blk bx (by simp) rfl fun h4 bx4 f4 => ?_
  simp only [List.set] at bx4
  refine Jn4 (fun a b c d h5 => v2 = a ∧ b = .pointer (some ⟨h.size, 0, none⟩) ∧ c = .pointer (some ⟨g, 0, none⟩) ∧ d = .pointer (some ⟨h2.size, 0, none⟩) ∧ Fr [h2.size] h4 h5 ∧ Blk h5 h2.size [U (seedOf sd)]) ?_ ?_
  · intro J1 hJ1
    refine Ld_blk bx4 rfl ?_
    rw [show Value.int .u64 0 = U 0#64 from rfl]
    simp only [U_eql, go, Mv, NilC_at, Fld_at, add_mk, Nat.zero_add, Nat.add_zero, Bin_add, Bin_sub, Bin_mul, Bin_eql, Bin_neq, Bin_lss, Bin_leq, Bin_gtr, Bin_geq, Bin_bool_eql, Bin_bool_neq, Bin_ptr_nil_eql, Bin_ptr_nil_neq, Un_not, Pick_bool, Gd_bool, If_bool, CallF_eq, MaxV_two, MinV_two, if_true, if_false, Bool.false_eq_true, Bool.true_eq_false, Bool.not_true, Bool.not_false, BEq.rfl]
    split
    · rename_i hx
      have hx0 : sd = 0 := by simpa using hx
      refine St_blk bx4 (by simp) rfl fun h5 bx5 f5 => ?_
      simp only [List.set] at bx5
      exact hJ1 _ _ _ _ h5 ⟨rfl, rfl, rfl, rfl, f5, by rw [show Value.int .u64 88172645463325252 = U firstSeed from rfl] at bx5; simpa [seedOf, hx0] using bx5⟩
    · rename_i hx
      have hx0 : ¬ sd = 0 := by simpa using hx
      have e : seedOf sd = sd := by unfold seedOf; rw [if_neg hx0]
      exact hJ1 _ _ _ _ h4 ⟨rfl, rfl, rfl, rfl, Fr.refl _ _, by rw [e]; exact bx4⟩
  · rintro a b c d h5 ⟨rfl, rfl, rfl, rfl, f5, bx5⟩
    refine New_blk fun h6 bk f6 hz6 => ?_
    refine St_blk bk (by simp) rfl fun h7 bk7 f7 => ?_
    simp only [List.set] at bk7
    have l2 := f2.size
    have l3 : h2.size < h3.size := by omega
    have l4 := f4.size
    have l5 := f5.size
    have l1 := f01.size
    have F2lt := hs.lt
    have f47 : Fr [h2.size, h5.size] h4 h7 := (f5.mono (by simp)).trans ((f6.mono (by simp)).trans (f7.mono (by simp)))
    have f37 : Fr [h2.size, h5.size] h3 h7 := (f4.mono (by simp)).trans f47
    have f17 : Fr [h2.size, h5.size] h1 h7 := (f2.mono (by simp)).trans ((f3.mono (by simp)).trans f37)
    have fall : Fr [] h h7 := f01.trans' f17 (by intro x hx; simp at hx; rcases hx with rfl | rfl <;> exact .inr (by omega))
    have hs7 : StrAt h7 g ⟨ws, seedOf sd, 0⟩ F := (hs.fr f3 (by simp)).fr f37 (by intro b hb; have := F2lt b hb; simp; omega)
    have own7 : OwnAt h7 h5.size h.size h2.size v0 ⟨ws, seedOf sd, 0⟩ := ⟨bk7, bt1.fr f17 (by simp; omega), (bx5.fr f6 (by simp)).fr f7 (by simp; omega), hw.fr fall⟩
    have hl7 := hl0.fr fall
    refine hl7.len ?_
    rw [List.length_map]
    refine Lp6 (σ := Nat × Str) (fun s a b c d e f h' => Fr [] h h' ∧ StrAt h' g s.2 F ∧ OwnAt h' h5.size h.size h2.size v0 s.2 ∧ s.2.ws = ws ∧ s.2.d ≤ s.1 ∧ s.1 ≤ a2.length ∧
        a = .pointer (some ⟨g, 0, none⟩) ∧ b = .pointer (some ⟨h5.size, 0, none⟩) ∧ c = .func (.func 12) #[] #[.pointer (some ⟨h5.size, 0, none⟩), .pointer (some ⟨h.size, 0, none⟩), .pointer (some ⟨h2.size, 0, none⟩)] ∧
        v2 = d ∧ e = .int .i64 (a2.length : Int) ∧ f = .int .i64 (s.1 : Int)) (fun s => a2.length - s.1) (0, ⟨ws, seedOf sd, 0⟩)
      ⟨fall, hs7, own7, rfl, Nat.le_refl _, Nat.zero_le _, rfl, rfl, rfl, rfl, rfl, rfl⟩ ?_
    rintro ⟨i, s⟩ a b c d e f h8 ⟨f8, s8, o8, hws8, hd8, hi8, rfl, rfl, rfl, rfl, rfl, rfl⟩ X hX
    simp only at s8 o8 hws8 hd8 hi8
    simp only [go, Mv, NilC_at, Fld_at, add_mk, Nat.zero_add, Nat.add_zero, Bin_add, Bin_sub, Bin_mul, Bin_eql, Bin_neq, Bin_lss, Bin_leq, Bin_gtr, Bin_geq, Bin_bool_eql, Bin_bool_neq, Bin_ptr_nil_eql, Bin_ptr_nil_neq, Un_not, Pick_bool, Gd_bool, If_bool, CallF_eq, MaxV_two, MinV_two, if_true, if_false, Bool.false_eq_true, Bool.true_eq_false, Bool.not_true, Bool.not_false, BEq.rfl]
    by_cases hlt0 : ¬ i < a2.length
    · rw [if_neg (by simp; omega)]; exact hk _ f8
    have hlt : i < a2.length := by omega
    rw [if_pos (by simp; omega)]
    obtain ⟨n, hn⟩ : ∃ n, a2[i]? = some n := ⟨a2[i], by simp [hlt]⟩
    obtain ⟨hnl, hnu⟩ := hb0 n (List.mem_of_getElem? hn)
    have hnu' : n ≤ 9223372036854775807 := hnu
    refine (hl0.fr f8).at (x := .int .i64 n) (by omega) (by simp [hn]) ?_
    have ne1 : h5.size ≠ h.size := by omega
    have ne2 : h5.size ≠ h2.size := by omega
    have ne3 : h.size ≠ h2.size := by omega
    have dF : ∀ x ∈ F, x ∉ [h5.size, h2.size] := fun x hx => by have := F2lt x hx; simp; omega
    have dF2 : h5.size ∉ F ∧ h.size ∉ F ∧ h2.size ∉ F := ⟨fun hm => by have := F2lt _ hm; omega, fun hm => by have := hF _ hm; omega, fun hm => by have := F2lt _ hm; omega⟩
    have nF : ∀ x ∈ F, x ∈ ([] : List Nat) ∨ h.size ≤ x := fun x hx => .inr (by have := hF x hx; omega)
    have nO : ∀ x ∈ [h5.size, h2.size], x ∈ ([] : List Nat) ∨ h.size ≤ x := fun x hx => .inr (by simp at hx; omega)
    have hNs : ∀ (s : Str), s.ws = ws → ∀ (i : Nat) (x : Value), (s.ws.map U)[i]? = some x → ∀ a n c, v0 = .slice (some a) n c → a.block < h.size := fun s e => by rw [e]; exact hvN
    have ofr : ∀ {h8 h9 : Heap} {s : Str}, s.ws = ws → OwnAt h8 h5.size h.size h2.size v0 s → Fr F h8 h9 → OwnAt h9 h5.size h.size h2.size v0 s := fun {h8 h9 s} e ⟨p1, p2, p3, p4⟩ ff =>
      ⟨p1.fr ff dF2.1, p2.fr ff dF2.2.1, p3.fr ff dF2.2.2, p4.frN (hNs s e) ff fun b hb => by have := hF b hb; omega⟩
    have hwi : IntKind.i64.wrap ((i : Int) + 1) = ((i + 1 : Nat) : Int) := by rw [IntKind.wrap_i64]; omega
    -- behind a round
    have s8d : s.d < 4611686018427387904 := by omega
    have s8l : s.ws.length < 4611686018427387904 := by rw [hws8]; omega
    have nd := s.next_d
    have nw := s.next_ws
    refine Jn6 (fun a b c d e f h9 => a = .pointer (some ⟨g, 0, none⟩) ∧ b = .pointer (some ⟨h5.size, 0, none⟩) ∧ c = .func (.func 12) #[] #[.pointer (some ⟨h5.size, 0, none⟩), .pointer (some ⟨h.size, 0, none⟩), .pointer (some ⟨h2.size, 0, none⟩)] ∧ v2 = d ∧ e = .int .i64 (a2.length : Int) ∧ f = .int .i64 (i : Int) ∧
        ∃ s', Fr [] h h9 ∧ StrAt h9 g s' F ∧ OwnAt h9 h5.size h.size h2.size v0 s' ∧ s'.ws = ws ∧ s'.d ≤ i + 1) ?_ ?_
    · intro J' hJ'
      have fin : ∀ h9 s', Fr [] h h9 → StrAt h9 g s' F → OwnAt h9 h5.size h.size h2.size v0 s' → s'.ws = ws → s'.d ≤ i + 1 → J' (.pointer (some ⟨g, 0, none⟩)) (.pointer (some ⟨h5.size, 0, none⟩)) (.func (.func 12) #[] #[.pointer (some ⟨h5.size, 0, none⟩), .pointer (some ⟨h.size, 0, none⟩), .pointer (some ⟨h2.size, 0, none⟩)]) v2 (.int .i64 (a2.length : Int)) (.int .i64 (i : Int)) h9 :=
        fun h9 s' p1 p2 p3 p4 p5 => hJ' _ _ _ _ _ _ h9 ⟨rfl, rfl, rfl, rfl, rfl, rfl, s', p1, p2, p3, p4, p5⟩
      rw [Bin_rem _ _ _ _ (by decide)]
      simp only [go, Mv, NilC_at, Fld_at, add_mk, Nat.zero_add, Nat.add_zero, Bin_add, Bin_sub, Bin_mul, Bin_eql, Bin_neq, Bin_lss, Bin_leq, Bin_gtr, Bin_geq, Bin_bool_eql, Bin_bool_neq, Bin_ptr_nil_eql, Bin_ptr_nil_neq, Un_not, Pick_bool, Gd_bool, If_bool, CallF_eq, MaxV_two, MinV_two, if_true, if_false, Bool.false_eq_true, Bool.true_eq_false, Bool.not_true, Bool.not_false, BEq.rfl]
      split
      · refine rng_Stream_Next.spec s8 s8d s8l fun h9 s9 f9 => ?_
        rw [CallV_eq]
        refine ⟨hb, bradawllaw09_RngRuns_1.spec (N := h.size) (ofr hws8 o8 f9) ne1 ne2 ne3 s8d (hNs s hws8) (by omega) (by omega) fun h10 o10 f10 => ?_⟩
        simp only [U_neq, bne_self_eq_false, go, Mv, NilC_at, Fld_at, add_mk, Nat.zero_add, Nat.add_zero, Bin_add, Bin_sub, Bin_mul, Bin_eql, Bin_neq, Bin_lss, Bin_leq, Bin_gtr, Bin_geq, Bin_bool_eql, Bin_bool_neq, Bin_ptr_nil_eql, Bin_ptr_nil_neq, Un_not, Pick_bool, Gd_bool, If_bool, CallF_eq, MaxV_two, MinV_two, if_true, if_false, Bool.false_eq_true, Bool.true_eq_false, Bool.not_true, Bool.not_false, BEq.rfl]
        exact fin h10 s.next.2 ((f8.trans' f9 nF).trans' f10 nO) (s9.fr f10 dF) o10 (by rw [nw, hws8]) (by omega)
      · rw [Bin_rem _ _ _ _ (by decide)]
        simp only [go, Mv, NilC_at, Fld_at, add_mk, Nat.zero_add, Nat.add_zero, Bin_add, Bin_sub, Bin_mul, Bin_eql, Bin_neq, Bin_lss, Bin_leq, Bin_gtr, Bin_geq, Bin_bool_eql, Bin_bool_neq, Bin_ptr_nil_eql, Bin_ptr_nil_neq, Un_not, Pick_bool, Gd_bool, If_bool, CallF_eq, MaxV_two, MinV_two, if_true, if_false, Bool.false_eq_true, Bool.true_eq_false, Bool.not_true, Bool.not_false, BEq.rfl]
        split
        · rw [Join_eq]
          by_cases hn1 : 1 ≤ n
          · have t : decide (n ≥ 1) = true := by simpa using hn1
            simp only [t, go, Mv, NilC_at, Fld_at, add_mk, Nat.zero_add, Nat.add_zero, Bin_add, Bin_sub, Bin_mul, Bin_eql, Bin_neq, Bin_lss, Bin_leq, Bin_gtr, Bin_geq, Bin_bool_eql, Bin_bool_neq, Bin_ptr_nil_eql, Bin_ptr_nil_neq, Un_not, Pick_bool, Gd_bool, If_bool, CallF_eq, MaxV_two, MinV_two, if_true, if_false, Bool.false_eq_true, Bool.true_eq_false, Bool.not_true, Bool.not_false, BEq.rfl, CallV_eq]
            refine ⟨hb, bradawllaw09_RngRuns_1.spec (N := h.size) o8 ne1 ne2 ne3 s8d (hNs s hws8) (by omega) (by omega) fun h9 o9 f9 => ?_⟩
            rw [Cvt_u64, rem_cvt hn1 (by omega)]
            refine rng_Stream_Below.spec (s8.fr f9 dF) s8d s8l (by omega) fun h10 s10 f10 => ?_
            have hbl : s.below n = ((s.next.1.toNat : Int) % n, s.next.2) := by unfold Str.below; rw [if_neg (by omega)]
            rw [hbl] at s10 ⊢
            simp only [bne_self_eq_false, go, Mv, NilC_at, Fld_at, add_mk, Nat.zero_add, Nat.add_zero, Bin_add, Bin_sub, Bin_mul, Bin_eql, Bin_neq, Bin_lss, Bin_leq, Bin_gtr, Bin_geq, Bin_bool_eql, Bin_bool_neq, Bin_ptr_nil_eql, Bin_ptr_nil_neq, Un_not, Pick_bool, Gd_bool, If_bool, CallF_eq, MaxV_two, MinV_two, if_true, if_false, Bool.false_eq_true, Bool.true_eq_false, Bool.not_true, Bool.not_false, BEq.rfl]
            exact fin h10 s.next.2 ((f8.trans' f9 nO).trans' f10 nF) s10 (ofr (by rw [nw, hws8]) o9 f10) (by rw [nw, hws8]) (by omega)
          · have t : decide (n ≥ 1) = false := by simpa using hn1
            simp only [t, go, Mv, NilC_at, Fld_at, add_mk, Nat.zero_add, Nat.add_zero, Bin_add, Bin_sub, Bin_mul, Bin_eql, Bin_neq, Bin_lss, Bin_leq, Bin_gtr, Bin_geq, Bin_bool_eql, Bin_bool_neq, Bin_ptr_nil_eql, Bin_ptr_nil_neq, Un_not, Pick_bool, Gd_bool, If_bool, CallF_eq, MaxV_two, MinV_two, if_true, if_false, Bool.false_eq_true, Bool.true_eq_false, Bool.not_true, Bool.not_false, BEq.rfl]
            refine rng_Stream_Below.spec s8 s8d s8l (by omega) fun h10 s10 f10 => ?_
            have hbl : s.below n = (0, s) := Str.below_neg s (by omega)
            rw [hbl] at s10 ⊢
            simp only [bne_self_eq_false, go, Mv, NilC_at, Fld_at, add_mk, Nat.zero_add, Nat.add_zero, Bin_add, Bin_sub, Bin_mul, Bin_eql, Bin_neq, Bin_lss, Bin_leq, Bin_gtr, Bin_geq, Bin_bool_eql, Bin_bool_neq, Bin_ptr_nil_eql, Bin_ptr_nil_neq, Un_not, Pick_bool, Gd_bool, If_bool, CallF_eq, MaxV_two, MinV_two, if_true, if_false, Bool.false_eq_true, Bool.true_eq_false, Bool.not_true, Bool.not_false, BEq.rfl]
            exact fin h10 s (f8.trans' f10 nF) s10 (ofr hws8 o8 f10) hws8 (by omega)
        · rw [Join_eq]
          by_cases hn1 : 1 ≤ n
          · have t : decide (n ≥ 1) = true := by simpa using hn1
            simp only [t, go, Mv, NilC_at, Fld_at, add_mk, Nat.zero_add, Nat.add_zero, Bin_add, Bin_sub, Bin_mul, Bin_eql, Bin_neq, Bin_lss, Bin_leq, Bin_gtr, Bin_geq, Bin_bool_eql, Bin_bool_neq, Bin_ptr_nil_eql, Bin_ptr_nil_neq, Un_not, Pick_bool, Gd_bool, If_bool, CallF_eq, MaxV_two, MinV_two, if_true, if_false, Bool.false_eq_true, Bool.true_eq_false, Bool.not_true, Bool.not_false, BEq.rfl, CallV_eq]
            refine ⟨hb, bradawllaw09_RngRuns_1.spec (N := h.size) o8 ne1 ne2 ne3 s8d (hNs s hws8) (by omega) (by omega) fun h9 o9 f9 => ?_⟩
            rw [Cvt_u64, rem_cvt hn1 (by omega)]
            simp only [go, Mv, NilC_at, Fld_at, add_mk, Nat.zero_add, Nat.add_zero, Bin_add, Bin_sub, Bin_mul, Bin_eql, Bin_neq, Bin_lss, Bin_leq, Bin_gtr, Bin_geq, Bin_bool_eql, Bin_bool_neq, Bin_ptr_nil_eql, Bin_ptr_nil_neq, Un_not, Pick_bool, Gd_bool, If_bool, CallF_eq, MaxV_two, MinV_two, if_true, if_false, Bool.false_eq_true, Bool.true_eq_false, Bool.not_true, Bool.not_false, BEq.rfl]
            refine rng_Stream_Chance.spec (s8.fr f9 dF) s8d s8l (by omega) fun h10 s10 f10 => ?_
            have hbl : s.below n = ((s.next.1.toNat : Int) % n, s.next.2) := by unfold Str.below; rw [if_neg (by omega)]
            rw [hbl] at s10 ⊢
            simp only [hn1, true_and, bne_self_eq_false, go, Mv, NilC_at, Fld_at, add_mk, Nat.zero_add, Nat.add_zero, Bin_add, Bin_sub, Bin_mul, Bin_eql, Bin_neq, Bin_lss, Bin_leq, Bin_gtr, Bin_geq, Bin_bool_eql, Bin_bool_neq, Bin_ptr_nil_eql, Bin_ptr_nil_neq, Un_not, Pick_bool, Gd_bool, If_bool, CallF_eq, MaxV_two, MinV_two, if_true, if_false, Bool.false_eq_true, Bool.true_eq_false, Bool.not_true, Bool.not_false, BEq.rfl]
            exact fin h10 s.next.2 ((f8.trans' f9 nO).trans' f10 nF) s10 (ofr (by rw [nw, hws8]) o9 f10) (by rw [nw, hws8]) (by omega)
          · have t : decide (n ≥ 1) = false := by simpa using hn1
            simp only [t, go, Mv, NilC_at, Fld_at, add_mk, Nat.zero_add, Nat.add_zero, Bin_add, Bin_sub, Bin_mul, Bin_eql, Bin_neq, Bin_lss, Bin_leq, Bin_gtr, Bin_geq, Bin_bool_eql, Bin_bool_neq, Bin_ptr_nil_eql, Bin_ptr_nil_neq, Un_not, Pick_bool, Gd_bool, If_bool, CallF_eq, MaxV_two, MinV_two, if_true, if_false, Bool.false_eq_true, Bool.true_eq_false, Bool.not_true, Bool.not_false, BEq.rfl]
            refine rng_Stream_Chance.spec s8 s8d s8l (by omega) fun h10 s10 f10 => ?_
            have hbl : s.below n = (0, s) := Str.below_neg s (by omega)
            rw [hbl] at s10 ⊢
            simp only [hn1, false_and, decide_false, bne_self_eq_false, go, Mv, NilC_at, Fld_at, add_mk, Nat.zero_add, Nat.add_zero, Bin_add, Bin_sub, Bin_mul, Bin_eql, Bin_neq, Bin_lss, Bin_leq, Bin_gtr, Bin_geq, Bin_bool_eql, Bin_bool_neq, Bin_ptr_nil_eql, Bin_ptr_nil_neq, Un_not, Pick_bool, Gd_bool, If_bool, CallF_eq, MaxV_two, MinV_two, if_true, if_false, Bool.false_eq_true, Bool.true_eq_false, Bool.not_true, Bool.not_false, BEq.rfl]
            exact fin h10 s (f8.trans' f10 nF) s10 (ofr hws8 o8 f10) hws8 (by omega)
    · intro a b c d e f h9 hI
      obtain ⟨rfl, rfl, rfl, rfl, rfl, rfl, s', f9, s9, o9, e9, d9⟩ := hI
      have hX' := hX (i + 1, s') _ _ _ _ _ _ h9 ⟨f9, s9, o9, e9, d9, (show i + 1 ≤ a2.length by omega), rfl, rfl, rfl, rfl, rfl, rfl⟩ (show a2.length - (i + 1) < a2.length - i by omega)
      have b9 := o9.1
      rw [Join_eq]
      refine ⟨?_, ?_⟩
      · refine rng_Stream_Drawn.spec s9 (Ld_blk b9 rfl ?_)
        simp only [bne_self_eq_false, hwi, go, Mv, NilC_at, Fld_at, add_mk, Nat.zero_add, Nat.add_zero, Bin_add, Bin_sub, Bin_mul, Bin_eql, Bin_neq, Bin_lss, Bin_leq, Bin_gtr, Bin_geq, Bin_bool_eql, Bin_bool_neq, Bin_ptr_nil_eql, Bin_ptr_nil_neq, Un_not, Pick_bool, Gd_bool, If_bool, CallF_eq, MaxV_two, MinV_two, if_true, if_false, Bool.false_eq_true, Bool.true_eq_false, Bool.not_true, Bool.not_false, BEq.rfl]
        exact hX'
      · refine Ld_blk b9 rfl ?_
        refine rng_Stream_Drawn.spec s9 ?_
        simp only [bne_self_eq_false, hwi, go, Mv, NilC_at, Fld_at, add_mk, Nat.zero_add, Nat.add_zero, Bin_add, Bin_sub, Bin_mul, Bin_eql, Bin_neq, Bin_lss, Bin_leq, Bin_gtr, Bin_geq, Bin_bool_eql, Bin_bool_neq, Bin_ptr_nil_eql, Bin_ptr_nil_neq, Un_not, Pick_bool, Gd_bool, If_bool, CallF_eq, MaxV_two, MinV_two, if_true, if_false, Bool.false_eq_true, Bool.true_eq_false, Bool.not_true, Bool.not_false, BEq.rfl]
        exact hX'
theorem bradawllaw09_RngRuns.law {h : Heap} {a0 : List Int} {a1 : Int} {a2 : List Int} {v0 v1 v2 : Value} (r0 : (rSlice (rInt .u64) 1).is h a0 [v0]) (r1 : (rInt .u64).is h a1 [v1]) (r2 : (rSlice (rInt .i64) 1).is h a2 [v2]) :
    CallH Try.prog bradawllaw09_RngRuns.id #[v0, v1, v2] (fun v h' => v = .bool true ∧ Fr [] h h') h := bradawllaw09_RngRuns.spec r0 r1 r2 fun _ f => ⟨rfl, f⟩
end Go.Proofs.Ytjpgmchfbhjgaaa
