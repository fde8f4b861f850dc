/- The way to a state and to the clauses in one form. Conditions: those typed ahead of each theorem. -/
import Derived.Test.YtonihbbpfliihaaLo17
namespace Go.Proofs.Ytonihbbpfliihaa
open Go.Pt
set_option linter.unusedVariables false
set_option linter.unusedSimpArgs false
theorem OwnF.frd {h h' : Heap} {v : Value} {N : Nat} {b0 S : List Nat} {ps : List (Value × List Int × List Nat)} (o : OwnF h v N b0 ps) (f : Fr S h h') (h0 : ∀ b ∈ b0, b ∉ S) (h1 : ∀ p ∈ ps, ∀ b ∈ p.2.2, b ∉ S) : OwnF h' v N b0 ps :=
  ⟨o.own.fr f h0, fun p hp => (o.each p hp).fr f (h1 p hp), o.lo, o.los, o.dj⟩
theorem FrN.frS {N : Nat} {S : List Nat} {H h h' : Heap} (g : FrN N h h') (f : Fr S H h) (hN : H.size ≤ N) : Fr S H h' := ⟨Nat.le_trans f.size g.size, fun c hc hS => (g.keep c (Nat.lt_of_lt_of_le hc f.size) (by omega)).trans (f.keep c hc hS)⟩
theorem lo_pre2 {a : Int} {xss : List (List Int)} {ws : List Value} {v : Value} {bits : Int} {ty : TypeId} {R : Value → Value → Value → Value → Heap → Prop} {h : Heap} (ha : 0 ≤ a ∧ a ≤ 255) (h1 : xss.length ≤ 40) (h2 : ∀ c ∈ xss, c.length ≤ 400) (hv : RdX (.int .i16) h v xss ws) (hb : 0 ≤ bits ∧ bits ≤ 4294967295)
    (hk : ∀ n cs fb uf lv N0 bu ps va ba sb N M R0 m h0 h', n ≤ 12 → FOk n cs → cs.length ≤ 40 → (∀ c ∈ cs, c.length ≤ 6) → Blk h0 fb [Iv n, uf] → h.size ≤ fb → OwnF h0 lv N0 bu ps → cls ps = fmT cs → Own h0 va ((stT n bits).map .bool) ba → (∀ b ∈ ba, h.size ≤ b ∧ b ≠ fb ∧ b ∉ bu ∧ ∀ p ∈ ps, b ∉ p.2.2) → h0.size = N →
      St4 N h' M R0 0 sb n (fmT cs) ⟨stT n bits, stT n bits, (unT (stT n bits) (fmT cs) : Nat), 0⟩ m → Fr [] h h0 → Fr [] h0 h' → R (ptr fb) lv va (.tuple #[ptr sb, Iv 0]) h') :
    go (CallF Try.prog bradawllaw02_Raw_Formula.id [.agg #[.int .u8 a, v], Iv 12, Iv 6]) h fun t22 h => go (New #[(.int .i64 0), (.slice none 0 0)] ty) h fun t7 h => go (StA 2 t7 t22) h fun _ h => go (LdA 2 t7) h fun t32 h => go (CallF Try.prog norm_Formula.id [t32]) h fun t33 h => go (Ext 0 t33) h fun t34 h => go (Ext 1 t33) h fun t35 h => go (Fld 0 t7) h fun t24 h => go (Ld t24) h fun t25 h => go (CallF Try.prog bradawllaw14_Start.id [t25, .int .u32 bits]) h fun t27 h => go (LdA 2 t7) h fun t29 h => go (CallF Try.prog local_New.id [t29, t27]) h fun t31 h => R t7 t34 t27 t31 h := by
  rw [go_eq, CallF_eq]
  refine bradawllaw02_Raw_Formula.spec (vars := 12) (w := 6) ha (by omega) (by omega) (by omega) (fun c hc => by have := h2 c hc; omega) hv fun u b0 ps h4 oF hcs f4 => ?_
  have hok := rawF_ok (a % (((12 : Nat) : Int) + 1)).toNat 6 xss
  have hlen := rawF_len (a % (((12 : Nat) : Int) + 1)).toNat 6 xss
  have hcl9 := rawF_cl (a % (((12 : Nat) : Int) + 1)).toNat 6 xss
  have hn9 : (a % (((12 : Nat) : Int) + 1)).toNat ≤ 12 := by omega
  generalize rawF (a % (((12 : Nat) : Int) + 1)).toNat 6 xss = cs at *
  generalize (a % (((12 : Nat) : Int) + 1)).toNat = n at *
  have rd4 := oF.rdl
  rw [hcs] at rd4
  have z4 := f4.size
  rw [go_eq]
  refine New_blk fun h5 b5 f5 s5 => ?_
  have b5 : Blk h5 h4.size [Iv 0, nilS] := b5
  rw [go_eq]
  refine StA_two b5 rfl oF.own.rd.isCell fun h6 b6 f6 => ?_
  have f46 : Fr [] h4 h6 := f5.trans' f6 fun b hb => .inr (by simp at hb; omega)
  have rd6 := rd4.fr f46
  have z46 := f46.size
  have z56 := f6.size
  rw [go_eq, LdA_two b6, go_eq, CallF_eq]
  refine norm_Formula.spec (by omega) (fun c hc => by have := hcl9 c hc; omega) (fun c hc y hy => by obtain ⟨_, _, _⟩ := hok c hc y hy; exact ⟨by omega, by omega⟩) (fun c hc y hy => (hok c hc y hy).1) rd6 fun lv bu pl h6' oL hcL f6' => ?_
  have b6' := b6.fr f6' (by simp)
  have rd6' := rd6.fr f6'
  have z6' := f6'.size
  try simp (disch := first | assumption | omega | (apply At.mk; with_unfolding_all rfl)) only [↓go_eq, ↓ent_eq, Mv, NilC_at, Fld_at, add_mk, Nat.zero_add, Nat.add_zero, Add64, Sub64, Mul64, Quo64, Rem64, Neg64, Cvt64, CvtU8, CvtU16, CvtU32, CvtU64, AddU64, SubU64, MulU64, Shr64, Shr_u8, Shr_u16, Shr_u32, Shr_u64, And1, And31, And32, Eql64, Neq64, Bin_lss, Bin_leq, Bin_gtr, Bin_geq, Bin_bool_eql, Bin_bool_neq, Bin_ptr_nil_eql, Bin_ptr_nil_neq, Not_dec, Un_not, Pick_t, Pick_f, Pick_pos, Pick_neg, Gd_tt, Gd_tf, Gd_ft, Gd_ff, Gd_pos_t, Gd_neg_t, Gd_pos_f, Gd_neg_f, Gd_undef, If_t, If_f, If_pos, If_neg, CallF_eq, Max_two, Min_two, Len_rd, Len_own, Ld_blkE, Idx_rdN, Idx_ownN, Idx_rdE, Idx_ownE, IdxAE, LdA_two, Idx_at0, Ext_atE, Len_at, Int.toNat_natCast, Int.toNat_zero, Int.toNat_one, List.length_map, List.length_append, List.length_cons, List.length_nil, List.length_take, List.length_set, List.length_replicate, Bool.not_true, Bool.not_false, decide_true, decide_false, BEq.rfl, bne_self_eq_false, tf_beq, ft_beq, tf_bne, ft_bne, not_true_eq_false, not_false_eq_true, app]
  refine bradawllaw14_Start.spec (by omega) hb fun va ba h7 o7 hb7 f7 => ?_
  have b7 := b6'.fr f7 (by simp)
  have rd7 := rd6'.fr f7
  have oL7 := oL.frd f7 (by simp) (by simp)
  rw [LdA_two b7]
  refine local_New.spec' (by omega) (by omega) (fun c hc => by have := hcl9 c hc; omega) hok rd7 o7.rd (stT_len _ _) fun h8 sb M R0 m t f8 => ?_
  refine hk n cs h4.size _ lv _ bu pl va ba sb h7.size M R0 m h7 h8 hn9 hok (by omega) hcl9 b7 (by omega) oL7 hcL o7 (fun b hb => ?_) rfl t (((f4.trans f46).trans f6').trans f7) f8
  have q1 := hb7 b hb
  exact ⟨by omega, by omega, fun q => by have := oL.own.lt b q; omega, fun p hp q => by have := (oL.each p hp).lt b q; omega⟩
theorem may_go {x : Int} {n : Nat} {fb : Nat} {uf : Value} {h : Heap} {P : Ret} (b : Blk h fb [Iv n, uf]) (hP : P (.bool (decide (inR n x))) h) :
    go (Bin .int .geq (Iv x) (.int .i64 1)) h fun t66 h => go (Gd t66 true (Mv (Iv x))) h fun t68 h => go (Gd t66 true (Fld 0 (ptr fb))) h fun t69 h => go (Gd t66 true (Ld t69)) h fun t70 h => go (Gd t66 true (Bin .int .leq t68 t70)) h fun t71 h => go (Pick t66 t71 (.bool false)) h P := by
  by_cases c : x ≥ 1
  · by_cases c2 : x ≤ n
    · rw [decide_eq_true (show inR n x from ⟨c, c2⟩)] at hP
      try simp (disch := first | assumption | omega | (apply At.mk; with_unfolding_all rfl)) only [↓go_eq, ↓ent_eq, Mv, NilC_at, Fld_at, add_mk, Nat.zero_add, Nat.add_zero, Add64, Sub64, Mul64, Quo64, Rem64, Neg64, Cvt64, CvtU8, CvtU16, CvtU32, CvtU64, AddU64, SubU64, MulU64, Shr64, Shr_u8, Shr_u16, Shr_u32, Shr_u64, And1, And31, And32, Eql64, Neq64, Bin_lss, Bin_leq, Bin_gtr, Bin_geq, Bin_bool_eql, Bin_bool_neq, Bin_ptr_nil_eql, Bin_ptr_nil_neq, Not_dec, Un_not, Pick_t, Pick_f, Pick_pos, Pick_neg, Gd_tt, Gd_tf, Gd_ft, Gd_ff, Gd_pos_t, Gd_neg_t, Gd_pos_f, Gd_neg_f, Gd_undef, If_t, If_f, If_pos, If_neg, CallF_eq, Max_two, Min_two, Len_rd, Len_own, Ld_blkE, Idx_rdN, Idx_ownN, Idx_rdE, Idx_ownE, IdxAE, LdA_two, Idx_at0, Ext_atE, Len_at, Int.toNat_natCast, Int.toNat_zero, Int.toNat_one, List.length_map, List.length_append, List.length_cons, List.length_nil, List.length_take, List.length_set, List.length_replicate, Bool.not_true, Bool.not_false, decide_true, decide_false, BEq.rfl, bne_self_eq_false, tf_beq, ft_beq, tf_bne, ft_bne, not_true_eq_false, not_false_eq_true, app]
      rw [decide_eq_true c2]; exact hP
    · rw [decide_eq_false (show ¬ inR n x from fun q => c2 q.2)] at hP
      try simp (disch := first | assumption | omega | (apply At.mk; with_unfolding_all rfl)) only [↓go_eq, ↓ent_eq, Mv, NilC_at, Fld_at, add_mk, Nat.zero_add, Nat.add_zero, Add64, Sub64, Mul64, Quo64, Rem64, Neg64, Cvt64, CvtU8, CvtU16, CvtU32, CvtU64, AddU64, SubU64, MulU64, Shr64, Shr_u8, Shr_u16, Shr_u32, Shr_u64, And1, And31, And32, Eql64, Neq64, Bin_lss, Bin_leq, Bin_gtr, Bin_geq, Bin_bool_eql, Bin_bool_neq, Bin_ptr_nil_eql, Bin_ptr_nil_neq, Not_dec, Un_not, Pick_t, Pick_f, Pick_pos, Pick_neg, Gd_tt, Gd_tf, Gd_ft, Gd_ff, Gd_pos_t, Gd_neg_t, Gd_pos_f, Gd_neg_f, Gd_undef, If_t, If_f, If_pos, If_neg, CallF_eq, Max_two, Min_two, Len_rd, Len_own, Ld_blkE, Idx_rdN, Idx_ownN, Idx_rdE, Idx_ownE, IdxAE, LdA_two, Idx_at0, Ext_atE, Len_at, Int.toNat_natCast, Int.toNat_zero, Int.toNat_one, List.length_map, List.length_append, List.length_cons, List.length_nil, List.length_take, List.length_set, List.length_replicate, Bool.not_true, Bool.not_false, decide_true, decide_false, BEq.rfl, bne_self_eq_false, tf_beq, ft_beq, tf_bne, ft_bne, not_true_eq_false, not_false_eq_true, app]
      rw [decide_eq_false c2]; exact hP
  · rw [decide_eq_false (show ¬ inR n x from fun q => c q.1)] at hP
    try simp (disch := first | assumption | omega | (apply At.mk; with_unfolding_all rfl)) only [↓go_eq, ↓ent_eq, Mv, NilC_at, Fld_at, add_mk, Nat.zero_add, Nat.add_zero, Add64, Sub64, Mul64, Quo64, Rem64, Neg64, Cvt64, CvtU8, CvtU16, CvtU32, CvtU64, AddU64, SubU64, MulU64, Shr64, Shr_u8, Shr_u16, Shr_u32, Shr_u64, And1, And31, And32, Eql64, Neq64, Bin_lss, Bin_leq, Bin_gtr, Bin_geq, Bin_bool_eql, Bin_bool_neq, Bin_ptr_nil_eql, Bin_ptr_nil_neq, Not_dec, Un_not, Pick_t, Pick_f, Pick_pos, Pick_neg, Gd_tt, Gd_tf, Gd_ft, Gd_ff, Gd_pos_t, Gd_neg_t, Gd_pos_f, Gd_neg_f, Gd_undef, If_t, If_f, If_pos, If_neg, CallF_eq, Max_two, Min_two, Len_rd, Len_own, Ld_blkE, Idx_rdN, Idx_ownN, Idx_rdE, Idx_ownE, IdxAE, LdA_two, Idx_at0, Ext_atE, Len_at, Int.toNat_natCast, Int.toNat_zero, Int.toNat_one, List.length_map, List.length_append, List.length_cons, List.length_nil, List.length_take, List.length_set, List.length_replicate, Bool.not_true, Bool.not_false, decide_true, decide_false, BEq.rfl, bne_self_eq_false, tf_beq, ft_beq, tf_bne, ft_bne, not_true_eq_false, not_false_eq_true, app]
    exact hP
end Go.Proofs.Ytonihbbpfliihaa
