/- How the laws of the walk begin, and their arguments. Conditions: those typed ahead of each theorem. -/
import Derived.Test.YtonngdjfnnibaaaWk
import Derived.Test.YtonngdjfnnibaaaRa
namespace Go.Proofs.Ytonngdjfnnibaaa
open Go.Pt
set_option linter.unusedVariables false
set_option linter.unusedSimpArgs false
theorem words_arg {h : Heap} {xs : List Int} {v : Value} (hr : (rSlice (rInt .u64) 1).is h xs [v]) : Rd h v ((xs.map (BitVec.ofInt 64)).map U) := by
  obtain ⟨h1, h2⟩ := rd_ints hr
  have e : xs.map (Value.int .u64) = (xs.map (BitVec.ofInt 64)).map U := by
    rw [List.map_map]
    refine List.map_congr_left fun x hx => ?_
    obtain ⟨a, b⟩ := h2 x hx
    have a' : (0 : Int) ≤ x := a
    have b' : x ≤ 18446744073709551615 := b
    simp only [Function.comp, U, BitVec.toNat_ofInt]
    congr 1
    omega
  rw [← e]; exact h1
theorem triple_arg {k : IntKind} {h : Heap} {xs : List Int} {cs : Array Value} (r : (rArr 3 (rInt k) 1).is h xs cs.toList) : ∃ x y z : Int, cs = #[.int k x, .int k y, .int k z] ∧ (k.min ≤ x ∧ x ≤ k.max) ∧ (k.min ≤ y ∧ y ≤ k.max) ∧ (k.min ≤ z ∧ z ≤ k.max) := by
  obtain ⟨h1, h2, h3⟩ := r
  match xs, h1 with
  | [a, b, c], _ =>
    obtain ⟨l⟩ := cs
    match l, h2 with
    | [d, e, f], _ =>
      obtain ⟨e0, l0, u0⟩ := h3 0 a rfl
      obtain ⟨e1, l1, u1⟩ := h3 1 b rfl
      obtain ⟨e2, l2, u2⟩ := h3 2 c rfl
      have e0 : d = .int k a := by simpa using e0
      have e1 : e = .int k b := by simpa using e1
      have e2 : f = .int k c := by simpa using e2
      exact ⟨a, b, c, by rw [e0, e1, e2], ⟨l0, u0⟩, ⟨l1, u1⟩, ⟨l2, u2⟩⟩
section
variable {h : Heap} {K : Ret}
/-- Is the formula light, and are the words few? -/
theorem wk_light {A B : Heap → Prop} {a : Int} {xss : List (List Int)} {ws : List Value} {v wv : Value} {rb : Nat} {wl : List W64} (hcl : ∀ c ∈ xss, c.length ≤ 140737488351232) (b : Blk h rb [.int .u8 a, v]) (hv : RdX (.int .i16) h v xss ws) (hw : Rd h wv (wl.map U)) (hA : ∀ h', Fr [] h h' → A h') (hB : ∀ h', Fr [] h h' → xss.length ≤ 40 → (∀ c ∈ xss, c.length ≤ 400) → wl.length ≤ 60 → B h') :
    go (LdA 2 (ptr rb)) h fun t15 h => go (CallF Try.prog bradawllaw02_Raw_Light.id [t15, (.int .i64 40)]) h fun t16 h => go (Un .not t16) h fun t17 h => go (Gd t17 false (Mv wv)) h fun t19 h => go (Gd t17 false (Len t19)) h fun t20 h => go (Gd t17 false (Bin .int .gtr t20 (.int .i64 60))) h fun t21 h => go (Pick t17 (.bool true) t21) h fun t22 h => If t22 (A h) (B h) := by
  rw [go_eq, LdA_two b, go_eq, CallF_eq]
  refine bradawllaw02_Raw_Light.spec (m := 40) (by decide) hcl hv fun h3 f3 => ⟨fun hL => ?_, ?_⟩
  rotate_left
  · try simp (disch := first | assumption | omega | (apply At.mk; with_unfolding_all rfl)) only [↓go_eq, ↓ent_eq, Mv, NilC_at, Fld_at, add_mk, Nat.zero_add, Nat.add_zero, Add64, Sub64, Mul64, Quo64, Rem64, Neg64, Cvt64, CvtU8, CvtU16, CvtU32, CvtU64, AddU64, SubU64, MulU64, Shr64, Shr_u8, Shr_u16, Shr_u32, Shr_u64, And1, And31, And32, Eql64, Neq64, Bin_lss, Bin_leq, Bin_gtr, Bin_geq, Bin_bool_eql, Bin_bool_neq, Bin_ptr_nil_eql, Bin_ptr_nil_neq, Not_dec, Un_not, Pick_t, Pick_f, Pick_pos, Pick_neg, Gd_tt, Gd_tf, Gd_ft, Gd_ff, Gd_pos_t, Gd_neg_t, Gd_pos_f, Gd_neg_f, Gd_undef, If_t, If_f, If_pos, If_neg, CallF_eq, Max_two, Min_two, Len_rd, Len_own, Ld_blkE, Idx_rdN, Idx_ownN, Idx_rdE, Idx_ownE, IdxAE, LdA_two, Idx_at0, Ext_atE, Len_at, Int.toNat_natCast, Int.toNat_zero, Int.toNat_one, List.length_map, List.length_append, List.length_cons, List.length_nil, List.length_take, List.length_set, List.length_replicate, Bool.not_true, Bool.not_false, decide_true, decide_false, BEq.rfl, bne_self_eq_false, tf_beq, ft_beq, tf_bne, ft_bne, not_true_eq_false, not_false_eq_true, app]
    exact hA h3 f3
  have hw3 := hw.fr f3
  rw [go_eq, Un_not, Bool.not_true, go_eq, Gd_ff, Mv, go_eq, Gd_ff, Len_rd hw3, go_eq, Gd_ff, Bin_gtr, go_eq, Pick_f, List.length_map]
  by_cases c1 : ((wl.length : Nat) : Int) > 60
  · rw [If_pos c1]; exact hA h3 f3
  · rw [If_neg c1]; exact hB h3 f3 hL.1 hL.2 (by omega)
/-- The formula is made. -/
theorem wk_form {R : Value → Heap → Prop} {a : Int} {xss : List (List Int)} {ws : List Value} {v : Value} {rb : Nat} {vars : Nat} {ty : TypeId} (hvars : vars ≤ 12) (ha : 0 ≤ a ∧ a ≤ 255) (h1 : xss.length ≤ 40) (h2 : ∀ c ∈ xss, c.length ≤ 400) (b : Blk h rb [.int .u8 a, v]) (hv : RdX (.int .i16) h v xss ws)
    (hk : ∀ n cs fb u wf h', n ≤ 12 → FOk n cs → cs.length ≤ 40 → (∀ c ∈ cs, c.length ≤ 6) → Blk h' fb [Iv n, u] → h.size ≤ fb → RdL h' u cs wf → Fr [] h h' → R (ptr fb) h') :
    go (LdA 2 (ptr rb)) h fun t28 h => go (CallF Try.prog bradawllaw02_Raw_Formula.id [t28, Iv (vars : Nat), (.int .i64 6)]) h fun t29 h => go (New #[(.int .i64 0), (.slice none 0 0)] ty) h fun t8 h => go (StA 2 t8 t29) h fun _ h => R t8 h := by
  rw [go_eq, LdA_two b, go_eq, CallF_eq]
  refine bradawllaw02_Raw_Formula.spec (vars := vars) (w := 6) ha (by omega) (by omega) (by omega) (fun c hc => by have := h2 c hc; omega) hv fun u b0 ps h4 oF hcs f4 => ?_
  have hok := rawF_ok (a % ((vars : Int) + 1)).toNat 6 xss
  have hlen := rawF_len (a % ((vars : Int) + 1)).toNat 6 xss
  have hcl9 := rawF_cl (a % ((vars : Int) + 1)).toNat 6 xss
  have hn9 : (a % ((vars : Int) + 1)).toNat ≤ 12 := by have := Int.emod_lt_of_pos a (show 0 < (vars : Int) + 1 by omega); omega
  generalize rawF (a % ((vars : Int) + 1)).toNat 6 xss = cs at *
  generalize (a % ((vars : Int) + 1)).toNat = n at *
  have rd4 := oF.rdl
  rw [hcs] at rd4
  have z4 := f4.size
  rw [go_eq]
  refine New_blk fun h5 b5 f5 s5 => ?_
  have b5 : Blk h5 h4.size [Iv 0, nilS] := b5
  rw [go_eq]
  refine StA_two b5 rfl oF.own.rd.isCell fun h6 b6 f6 => ?_
  have f46 : Fr [] h4 h6 := f5.trans' f6 fun b hb => .inr (by simp at hb; omega)
  exact hk n cs h4.size u _ h6 hn9 hok (by omega) hcl9 b6 (by omega) (rd4.fr f46) (f4.trans f46)
end
end Go.Proofs.Ytonngdjfnnibaaa
