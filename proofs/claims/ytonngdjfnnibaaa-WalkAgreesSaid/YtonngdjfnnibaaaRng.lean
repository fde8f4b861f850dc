/- What some functions of this seat compute (Rng), over their texts in primitives. Conditions: those typed ahead of each theorem. -/
import Derived.Test.YtonngdjfnnibaaaFn
namespace Go.Proofs.Ytonngdjfnnibaaa
open Go.Pt
set_option linter.unusedVariables false
set_option linter.unusedSimpArgs false

/-- The number behind one. -/
def stepB (x : W64) : W64 :=
  let a := x ^^^ (x <<< 13)
  let b := a ^^^ (a >>> 7)
  b ^^^ (b <<< 17)
theorem rng_Step.spec (x : W64) {K : Ret} {h : Heap} (hk : K (U (stepB x)) h) : CallH Try.prog rng_Step.id #[U x] K h := by
  refine rng_Step.ok ?_
  simp only [rng_Step.pt, go]
  rw [show Value.int .u64 13 = .int .u64 ((13 : Nat) : Int) from rfl, show Value.int .u64 7 = .int .u64 ((7 : Nat) : Int) from rfl, show Value.int .u64 17 = .int .u64 ((17 : Nat) : Int) from rfl]
  simp only [U_shl, U_shr, U_xor]
  exact hk

end Go.Proofs.Ytonngdjfnnibaaa

/- What some functions of this seat compute (Rng2), over their texts in primitives. Conditions: those typed ahead of each theorem. -/
namespace Go.Proofs.Ytonngdjfnnibaaa
open Go.Pt
set_option linter.unusedVariables false
set_option linter.unusedSimpArgs false

/-- A stream: its words, the number behind which it goes on, how many were drawn. -/
structure Str where
  ws : List W64
  x : W64
  d : Nat
def Str.next (s : Str) : W64 × Str :=
  if h : s.d < s.ws.length then (s.ws[s.d], { s with d := s.d + 1 }) else (stepB s.x, { s with x := stepB s.x, d := s.d + 1 })
/-- A stream in memory, and its blocks. -/
def StrAt (h : Heap) (g : Nat) (s : Str) (F : List Nat) : Prop :=
  ∃ wv wb, Blk h g [wv, U s.x, .int .i64 (s.d : Int)] ∧ Own h wv (s.ws.map U) wb ∧ F = g :: wb ∧ g ∉ wb
theorem StrAt.fr {h h' : Heap} {g : Nat} {s : Str} {F S : List Nat} (hs : StrAt h g s F) (f : Fr S h h') (hd : ∀ b ∈ F, b ∉ S) : StrAt h' g s F := by
  obtain ⟨wv, wb, h1, h2, rfl, h3⟩ := hs
  exact ⟨wv, wb, h1.fr f (hd g (by simp)), h2.fr f (fun b hb => hd b (by simp [hb])), rfl, h3⟩
theorem StrAt.lt {h : Heap} {g : Nat} {s : Str} {F : List Nat} (hs : StrAt h g s F) : ∀ b ∈ F, b < h.size := by
  obtain ⟨wv, wb, h1, h2, rfl, h3⟩ := hs
  intro b hb
  rcases List.mem_cons.1 hb with rfl | hb
  · exact h1.lt
  · exact h2.lt b hb
def firstSeed : W64 := 88172645463325252#64
def seedOf (x : W64) : W64 := if x = 0 then firstSeed else x
theorem rng_New.spec {w : Value} {ws : List W64} {x : W64} {K : Ret} {h : Heap} (hw : Rd h w (ws.map U)) (hl : ws.length ≤ 1000000)
    (hk : ∀ g h' F, StrAt h' g ⟨ws, seedOf x, 0⟩ F → Fr [] h h' → (∀ b ∈ F, h.size ≤ b) → K (.pointer (some ⟨g, 0, none⟩)) h') : CallH Try.prog rng_New.id #[w, U x] K h := by
  refine rng_New.ok ?_
  simp only [rng_New.pt, go]
  have key : ∀ (el el2 : TypeId) (y : W64), seedOf x = y → App el 1 8 #[(.int .u64 0)] (.slice none 0 0) w (fun t8 h => Bld [(0, 1), (1, 1), (2, 1)] #[(.slice none 0 0), (.int .u64 0), (.int .i64 0)] [(0, t8), (1, U y)] (fun t10 h => New (Value.cells t10) el2 (fun t11 h => K t11 h) h) h) h := by
    intro el el2 y hy
    refine (Own.nil h).app hw rfl rfl (by simp [U_cell]) (by simp; omega) (by simp; omega) ?_
    intro v h1 bs hv f1 hbs hsz
    rw [List.nil_append] at hv
    have hf : Instr.fill (([(0, 1), (1, 1), (2, 1)] : List (Nat × Nat)).toArray[·]?) #[(.slice none 0 0), (.int .u64 0), (.int .i64 0)] [(0, v), (1, U y)] = some #[v, U y, .int .i64 0] := by
      rw [fill_one rfl hv.rd.isCell (by simp), fill_one rfl rfl (by simp), fill_nil]; rfl
    rw [Bld_eq, hf]
    refine New_blk fun h2 hb f2 hs2 => hk h1.size h2 (h1.size :: bs) ⟨v, bs, ?_, hv.fr f2 (by simp), rfl, ?_⟩ (f1.trans f2) ?_
    · rw [hy]; simpa [Value.cells] using hb
    · intro hm
      have := hv.lt _ hm; omega
    · intro b hb
      rcases List.mem_cons.1 hb with rfl | hb
      · exact f1.size
      · rcases hbs b hb with hm | hm
        · cases hm
        · omega
  rw [Join_eq, show Value.int .u64 0 = U 0#64 from rfl, U_eql, If_bool]
  split
  · rename_i hx
    have : x = 0 := by simpa using hx
    rw [show Value.int .u64 88172645463325252 = U firstSeed from rfl]
    exact key _ _ firstSeed (by simp [seedOf, this])
  · rename_i hx
    have : ¬ x = 0 := by simpa using hx
    exact key _ _ x (by unfold seedOf; rw [if_neg this])
theorem rng_Stream_Next.spec {g : Nat} {s : Str} {F : List Nat} {K : Ret} {h : Heap} (hs : StrAt h g s F) (hd : s.d < 4611686018427387904) (hl : s.ws.length < 4611686018427387904)
    (hk : ∀ h', StrAt h' g s.next.2 F → Fr F h h' → K (U s.next.1) h') : CallH Try.prog rng_Stream_Next.id #[.pointer (some ⟨g, 0, none⟩)] K h := by
  obtain ⟨wv, wb, hg, ho, rfl, hn⟩ := hs
  refine rng_Stream_Next.ok ?_
  simp only [rng_Stream_Next.pt, go, NilC_at, Fld_at, add_mk, Nat.zero_add, Nat.add_zero]
  refine Ld_blk hg rfl ?_
  rw [Bin_add]
  have hw : IntKind.i64.wrap ((s.d : Int) + 1) = ((s.d + 1 : Nat) : Int) := by rw [IntKind.wrap_i64]; omega
  rw [hw]
  refine St_blk hg (by simp) rfl fun h1 hg1 f1 => ?_
  have ho1 : Own h1 wv (s.ws.map U) wb := ho.fr f1 (fun b hb => by simp; rintro rfl; exact hn hb)
  simp only [List.set] at hg1
  refine Ld_blk hg1 rfl (Ld_blk hg1 rfl (ho1.len ?_))
  rw [Bin_leq, If_bool]
  by_cases hlt : s.d < s.ws.length
  · have hnx : s.next = (s.ws[s.d], { s with d := s.d + 1 }) := by unfold Str.next; rw [dif_pos hlt]
    rw [if_pos (by simp; omega)]
    refine Ld_blk hg1 rfl (Ld_blk hg1 rfl ?_)
    rw [Bin_sub]
    have hw2 : IntKind.i64.wrap (((s.d + 1 : Nat) : Int) - 1) = (s.d : Int) := by rw [IntKind.wrap_i64]; omega
    rw [hw2]
    refine ho1.at (x := U s.ws[s.d]) (by omega) (by simp [hlt]) ?_
    rw [hnx] at hk
    exact hk h1 ⟨wv, wb, hg1, ho1, rfl, hn⟩ (f1.mono (by simp))
  · have hnx : s.next = (stepB s.x, { s with x := stepB s.x, d := s.d + 1 }) := by unfold Str.next; rw [dif_neg hlt]
    rw [if_neg (by simp; omega)]
    refine Ld_blk hg1 rfl ?_
    rw [CallF_eq]
    refine rng_Step.spec s.x ?_
    refine St_blk hg1 (by simp) rfl fun h2 hg2 f2 => ?_
    simp only [List.set] at hg2
    refine Ld_blk hg2 rfl ?_
    rw [hnx] at hk
    exact hk h2 ⟨wv, wb, hg2, ho1.fr f2 (fun b hb => by simp; rintro rfl; exact hn hb), rfl, hn⟩ ((f1.trans f2).mono (by simp))
theorem Str.next_d (s : Str) : s.next.2.d = s.d + 1 := by unfold Str.next; split <;> rfl
theorem Str.next_ws (s : Str) : s.next.2.ws = s.ws := by unfold Str.next; split <;> rfl
/-- One below another one. -/
def Str.below (s : Str) (n : Int) : Int × Str := if n < 1 then (0, s) else ((s.next.1.toNat : Int) % n, s.next.2)
theorem Cvt_u64 (k : IntKind) (n : Int) {K : Ret} {h : Heap} : Cvt .u64 (.int k n) K h = K (U (BitVec.ofInt 64 n)) h := by
  rw [Cvt_int]; congr 2
  rw [wrap_u64, BitVec.toNat_ofInt]; omega
theorem rng_Stream_Below.spec {g : Nat} {s : Str} {F : List Nat} {n : Int} {K : Ret} {h : Heap} (hs : StrAt h g s F) (hd : s.d < 4611686018427387904) (hl : s.ws.length < 4611686018427387904) (hn : n < 9223372036854775808)
    (hk : ∀ h', StrAt h' g (s.below n).2 F → Fr F h h' → K (.int .i64 (s.below n).1) h') : CallH Try.prog rng_Stream_Below.id #[.pointer (some ⟨g, 0, none⟩), .int .i64 n] K h := by
  refine rng_Stream_Below.ok ?_
  simp only [rng_Stream_Below.pt, go]
  rw [Bin_lss, If_bool]
  by_cases h1 : n < 1
  · rw [if_pos (by simpa using h1)]
    simp only [Str.below, if_pos h1] at hk
    exact hk h hs (Fr.refl _ _)
  · rw [if_neg (by simpa using h1), CallF_eq]
    simp only [Str.below, if_neg h1] at hk
    refine rng_Stream_Next.spec hs hd hl fun h' hs' f => ?_
    have hne : BitVec.ofInt 64 n ≠ 0 := by
      intro e
      have := congrArg BitVec.toNat e
      rw [BitVec.toNat_ofInt] at this
      have h0 : (0 : W64).toNat = 0 := rfl
      rw [h0] at this
      omega
    rw [Cvt_u64, U_rem _ _ _ hne, U, Cvt_int]
    have e : IntKind.i64.wrap (((s.next.1 % BitVec.ofInt 64 n).toNat : Nat) : Int) = (s.next.1.toNat : Int) % n := by
      have hn2 : (BitVec.ofInt 64 n).toNat = n.toNat := by rw [BitVec.toNat_ofInt]; omega
      rw [BitVec.toNat_umod, hn2, Int.natCast_emod]
      have hn3 : (n.toNat : Int) = n := Int.toNat_of_nonneg (by omega)
      rw [hn3, IntKind.wrap_i64]
      have a := Int.emod_nonneg (s.next.1.toNat : Int) (show n ≠ 0 by omega)
      have b := Int.emod_lt_of_pos (s.next.1.toNat : Int) (show 0 < n by omega)
      omega
    rw [e]
    exact hk h' hs' f
theorem Str.below_ws (s : Str) (n : Int) : (s.below n).2.ws = s.ws := by
  unfold Str.below
  split
  · rfl
  · exact s.next_ws
theorem rng_Stream_Chance.spec {g : Nat} {s : Str} {F : List Nat} {n m : Int} {K : Ret} {h : Heap} (hs : StrAt h g s F) (hd : s.d < 4611686018427387904) (hl : s.ws.length < 4611686018427387904) (hn : m < 9223372036854775808)
    (hk : ∀ h', StrAt h' g (s.below m).2 F → Fr F h h' → K (.bool (decide (1 ≤ m ∧ (s.below m).1 < n))) h') : CallH Try.prog rng_Stream_Chance.id #[.pointer (some ⟨g, 0, none⟩), .int .i64 n, .int .i64 m] K h := by
  refine rng_Stream_Chance.ok ?_
  simp only [rng_Stream_Chance.pt, go]
  rw [Bin_geq]
  simp only [Gd_bool, Mv]
  by_cases h1 : 1 ≤ m
  · have e1 : decide (m ≥ 1) = true := by simpa using h1
    simp only [e1, if_true, CallF_eq]
    refine rng_Stream_Below.spec hs hd hl hn fun h' hs' f => ?_
    rw [Bin_lss, Pick_bool]
    have := hk h' hs' f
    simpa [h1] using this
  · have e1 : decide (m ≥ 1) = false := by simpa using h1
    simp only [e1, Bool.false_eq_true, if_false, Pick_bool]
    have hb : s.below m = (0, s) := by unfold Str.below; rw [if_pos (by omega)]
    rw [hb] at hk
    have := hk h hs (Fr.refl _ _)
    simpa [h1] using this
theorem rng_Stream_Drawn.spec {g : Nat} {s : Str} {F : List Nat} {K : Ret} {h : Heap} (hs : StrAt h g s F) (hk : K (.int .i64 (s.d : Int)) h) : CallH Try.prog rng_Stream_Drawn.id #[.pointer (some ⟨g, 0, none⟩)] K h := by
  obtain ⟨wv, wb, hg, ho, rfl, hn⟩ := hs
  refine rng_Stream_Drawn.ok ?_
  simp only [rng_Stream_Drawn.pt, go, NilC_at, Fld_at, add_mk, Nat.zero_add]
  exact Ld_blk hg rfl hk
end Go.Proofs.Ytonngdjfnnibaaa
