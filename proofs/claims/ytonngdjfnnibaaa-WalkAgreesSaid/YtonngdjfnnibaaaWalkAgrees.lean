/- The law WalkAgrees. No condition but that the arguments lie in memory, laid by Go. -/
import Derived.Test.YtonngdjfnnibaaaWk6
namespace Go.Proofs.Ytonngdjfnnibaaa
open Go.Pt
set_option linter.unusedVariables false
set_option linter.unusedSimpArgs false
/-! ### The walk as a row of states, plain -/
abbrev St3 := W × List Nat × Str
def stp (kind base noise : Int) (n : Nat) (F : List (List Int)) (x : St3) : St3 :=
  (x.1.flip n F ((stepT kind base noise x.1.a F x.2.1 x.2.2).1 : Nat), rowW n F x.1.a ((stepT kind base noise x.1.a F x.2.1 x.2.2).1 : Nat) x.2.1, (stepT kind base noise x.1.a F x.2.1 x.2.2).2)
def itr (kind base noise : Int) (n : Nat) (F : List (List Int)) (x : St3) : Nat → St3
  | 0 => x
  | i + 1 => stp kind base noise n F (itr kind base noise n F x i)
def At3 (kind base noise : Int) (n : Nat) (F : List (List Int)) (x : St3) (i : Nat) (w : W) (row : List Nat) (s : Str) : Prop := (w, row, s) = itr kind base noise n F x i ∧ ∀ j, j < i → (itr kind base noise n F x j).2.1.length ≠ 0
theorem At3.step {kind base noise : Int} {n : Nat} {F : List (List Int)} {x : St3} {i : Nat} {w : W} {row : List Nat} {s : Str} (p : At3 kind base noise n F x i w row s) (hr : row.length ≠ 0) :
    At3 kind base noise n F x (i + 1) (w.flip n F ((stepT kind base noise w.a F row s).1 : Nat)) (rowW n F w.a ((stepT kind base noise w.a F row s).1 : Nat) row) (stepT kind base noise w.a F row s).2 := by
  obtain ⟨e, hj⟩ := p
  refine ⟨?_, fun j h => ?_⟩
  · show _ = stp kind base noise n F (itr kind base noise n F x i)
    rw [← e]; rfl
  · by_cases q : j = i
    · subst q; rw [← e]; exact hr
    · exact hj j (by omega)
theorem stop_one {L : Nat → Nat} {a b m : Nat} (ha : a ≤ m) (hb : b ≤ m) (h1 : ∀ j, j < a → L j ≠ 0) (h2 : ∀ j, j < b → L j ≠ 0) (ea : a = m ∨ L a = 0) (eb : b = m ∨ L b = 0) : a = b := by
  rcases Nat.lt_trichotomy a b with h | h | h
  · have := h2 a h
    rcases ea with e | e
    · omega
    · exact absurd e this
  · exact h
  · have := h1 b h
    rcases eb with e | e
    · omega
    · exact absurd e this
theorem Wst.move {N M : Nat} {h h' : Heap} {R R' : Nat → Res} {o sb n : Nat} {F : List (List Int)} {w : W} {m : LMod} {q g : Nat} {s : Str} {Fp : List Nat} (k : Wst N h M R o sb n F w m q g s Fp) (sp : Sep N h' M R') (nN : N ≤ h'.size) (e : ∀ x, o ≤ x → x < o + 8 + 2 * n + F.length → R' x = R x) (eq : R' q = R q) : Wst N h' M R' o sb n F w m q g s Fp :=
  ⟨⟨⟨sp, k.t.s.lr.cong2 e, k.t.s.st, k.t.s.hM, nN, k.t.s.al, k.t.s.nb, k.t.s.Kb⟩, k.t.r⟩, k.hq, k.qo, eq.trans k.rq⟩
set_option maxHeartbeats 8000000 in
theorem bradawllaw15_WalkAgrees.spec {a x0 x1 x2 : Int} {xss : List (List Int)} {ws : List Value} {v wv : Value} {wl : List W64} (ha : 0 ≤ a ∧ a ≤ 255) (hx0 : 0 ≤ x0 ∧ x0 ≤ 4294967295) (hx1 : 0 ≤ x1 ∧ x1 ≤ 4294967295) (hx2 : 0 ≤ x2 ∧ x2 ≤ 4294967295) (hcl : ∀ c ∈ xss, c.length ≤ 140737488351232) {K : Ret} {h : Heap} (hv : RdX (.int .i16) h v xss ws) (hw : Rd h wv (wl.map U))
    (hk : ∀ h', Fr [] h h' → K (.bool true) h') : CallH Try.prog bradawllaw15_WalkAgrees.id #[.agg #[.int .u8 a, v], .agg #[.int .u32 x0, .int .u32 x1, .int .u32 x2], wv] K h := by
  refine bradawllaw15_WalkAgrees.ok ?_
  simp only [bradawllaw15_WalkAgrees.pt]
  rw [go_eq]
  refine New_blk fun h1 b1 f1 s1 => ?_
  have b1 : Blk h1 h.size [.int .u8 a, v] := b1
  rw [go_eq]
  refine New_blk fun h2 b2 f2 s2 => ?_
  have b2 : Blk h2 h1.size [.int .u32 x0, .int .u32 x1, .int .u32 x2] := b2
  rw [go_eq, CallF_eq]
  refine bradawllaw15_fit.spec fun h3 f3 => ?_
  have f03 := (f1.trans f2).trans f3
  rw [go_eq, Un_not, Bool.not_true, If_f]
  refine wk_light hcl ((b1.fr f2 (by simp)).fr f3 (by simp)) (hv.fr f03) (hw.fr f03) (fun h4 f4 => hk h4 (f03.trans f4)) fun h4 f4 hL1 hL2 hwl => ?_
  have f04 := f03.trans f4
  have b4 := (b2.fr f3 (by simp)).fr f4 (by simp)
  have br4 := ((b1.fr f2 (by simp)).fr f3 (by simp)).fr f4 (by simp)
  refine wk_form (vars := 12) (by decide) ha hL1 hL2 br4 (hv.fr f04) fun n cs fb u wf h5 hn hok hlen hcl9 b5 hfb rf5 f5 => ?_
  have f05 := f04.trans f5
  have bn5 := b4.fr f5 (by simp)
  have a0 : At [Value.int .u32 x0, .int .u32 x1, .int .u32 x2] (0 + (0 : Int).toNat) (.int .u32 x0) := ⟨rfl⟩
  have a1 : At [Value.int .u32 x0, .int .u32 x1, .int .u32 x2] (0 + (1 : Int).toNat) (.int .u32 x1) := ⟨rfl⟩
  have a2 : At [Value.int .u32 x0, .int .u32 x1, .int .u32 x2] (0 + (2 : Int).toNat) (.int .u32 x2) := ⟨rfl⟩
  have af : At [Iv n, u] 0 (Iv n) := ⟨rfl⟩
  have hcl1 : ∀ c ∈ cs, c.length ≤ 1000 := fun c hc => by have := hcl9 c hc; omega
  have hG := GF_fmT (n := n) hok hcl1
  rw [go_eq, Fld_at, go_eq, add_mk, Ld_blkE b5 af, go_eq, IdxAE (by decide) (by decide), go_eq, Ld_blkE bn5 a0, go_eq, CallF_eq]
  refine bradawllaw14_Start.spec (by omega) hx0 fun va ba h6 o6 hb6 f6 => ?_
  have bn6 := bn5.fr f6 (by simp)
  have hal := stT_len n x0
  generalize stT n x0 = st0 at *
  rw [go_eq, IdxAE (by decide) (by decide), go_eq, Ld_blkE bn6 a1, go_eq, CvtU8, go_eq, IdxAE (by decide) (by decide), go_eq, Ld_blkE bn6 a2, go_eq, CvtU16, go_eq]
  refine way_a (by omega) (by omega) fun kd bsz ns h7 hW f7 => ?_
  rw [go_eq]
  refine New_blk fun h8 b8 f8 s8 => ?_
  have b8 : Blk h8 h7.size [Iv 0, Iv 0, Iv 0] := b8
  rw [go_eq]
  refine StA_three b8 rfl rfl rfl fun h9 b9 f9 => ?_
  have f79 : Fr [] h7 h9 := f8.trans' f9 fun b hb => .inr (by simp at hb; omega)
  have f69 := f7.trans f79
  have f59 := f6.trans f69
  have bf9 := b5.fr f59 (by simp)
  have rf9 := rf5.fr f59
  have o9 := o6.fr f69 (by simp)
  rw [go_eq, LdA_two bf9, go_eq, CallF_eq]
  refine local_New.spec5 (by omega) (by omega) hcl1 hok rf9 o9.rd hal fun h10 sb M R m t10 hrow f10 => ?_
  have bf10 := bf9.fr f10 (by simp)
  have bw10 := b9.fr f10 (by simp)
  rw [go_eq, Ext_atE ⟨rfl⟩, go_eq, Ext_atE ⟨rfl⟩, go_eq, LdA_two bf10, go_eq, CallF_eq]
  refine local_New.spec5 (by omega) (by omega) hcl1 hok (rf9.fr f10) (o9.fr f10 (by simp)).rd hal fun h11 tb M' R1 m1 t11 hrow1 f11 => ?_
  obtain ⟨R2, two⟩ := two_mk t10 t11 f11 (Nat.le_refl _)
  have bw11 := bw10.fr f11 (by simp)
  have f911 := f10.trans f11
  rw [go_eq, Ext_atE ⟨rfl⟩, go_eq, Ext_atE ⟨rfl⟩]
  rw [go_eq, Neq64, decide_eq_false (by simp), go_eq, Gd_ff, Mv, go_eq, Gd_ff, Neq64, decide_eq_false (by simp), go_eq, Pick_f, go_eq, Gd_ff, Mv, go_eq, Gd_ff, Bin_ptr_nil_eql, go_eq, Pick_f, go_eq, Gd_ff, Mv, go_eq, Gd_ff, Bin_ptr_nil_eql, go_eq, Pick_f, If_f]
  have f011 := (f05.trans f59).trans f911
  rw [go_eq]
  refine new_a (x := 9#64) (hw.fr f011) (by omega) fun gr h12 Fr1 hsr f12 hFr => ?_
  have f012 := f011.trans f12
  rw [go_eq]
  refine new_a (x := 9#64) (hw.fr f012) (by omega) fun gq h13 Fq hsq f13 hFq => ?_
  have bw13 := (bw11.fr f12 (by simp)).fr f13 (by simp)
  have hle := two.le
  have hMs := two.s.s.hM
  have hMt := two.t.s.hM
  have u1 := two.s.more (r := rStr gr _ Fr1) f12 hsr hFr
  have u2 := u1.more (r := rStr gq _ Fq) f13 hsq hFq
  have v1 := two.t.more (r := rStr gr _ Fr1) f12 hsr hFr
  have v2 := v1.more (r := rStr gq _ Fq) f13 hsq hFq
  have ks : Wst h9.size h13 (M + M' + 1 + 1) _ 0 sb n _ _ m (M + M') gr _ Fr1 := ⟨u2, by omega, by omega, (updR_ne (by omega)).trans (updR_at _ _ _)⟩
  have kt : Wst h9.size h13 (M + M' + 1 + 1) _ M tb n _ _ m1 (M + M' + 1) gq _ Fq := ⟨v2, by omega, by omega, updR_at _ _ _⟩
  have f913 : Fr [] h9 h13 := (f911.trans f12).trans f13
  have f013 := f012.trans f13
  clear u1 u2 v1 v2 two t10 t11
  rw [← hrow] at hrow1
  generalize fmT cs = F at *
  generalize updR (updR R2 (M + M') (rStr gr ⟨wl, seedOf 9#64, 0⟩ Fr1)) (M + M' + 1) (rStr gq ⟨wl, seedOf 9#64, 0⟩ Fq) = R3 at *
  have hw0 : (0 : Int) ≤ 0 := Int.le_refl _
  rw [go_eq, LdA_three bw13, go_eq, CallF_eq]
  refine walk_Run.spec (At3 kd bsz ns n F (⟨st0, st0, (unT st0 F : Nat), 0⟩, m.row, ⟨wl, seedOf 9#64, 0⟩)) hW ks hG ⟨Int.le_refl _, by show (0 : Int) ≤ _; decide⟩ (Nat.zero_le _) (by show wl.length ≤ _; omega) (by decide) ⟨rfl, fun j hj => by omega⟩ (fun i w row s p hi hr ro => p.step hr) fun i1 h14 R4 w4 m4 s4 p1 hi1 hex1 k14 hR4 f14 hf4 hd4 hws4 => ?_
  have kt14 := kt.move k14.t.s.sep k14.t.s.nN (fun x h1 h2 => hR4 x (by omega) (by omega) (by omega)) (hR4 _ (by omega) (by omega) (by omega))
  have f914 : Fr [] h9 h14 := FrN.fr f14 f913 (Nat.le_refl _)
  have bw14 := b9.fr f914 (by simp)
  rw [go_eq, LdA_three bw14, go_eq, CallF_eq]
  refine walk_Run.spec (At3 kd bsz ns n F (⟨st0, st0, (unT st0 F : Nat), 0⟩, m.row, ⟨wl, seedOf 9#64, 0⟩)) hW kt14 hG ⟨Int.le_refl _, by show (0 : Int) ≤ _; decide⟩ (Nat.zero_le _) (by show wl.length ≤ _; omega) (by decide) (by rw [hrow1]; exact ⟨rfl, fun j hj => by omega⟩) (fun i w row s p hi hr ro => p.step hr) fun i2 h15 R5 w5 m5 s5 p2 hi2 hex2 k15 hR5 f15 hf5 hd5 hws5 => ?_
  have ks15 := k14.move k15.t.s.sep k15.t.s.nN (fun x h1 h2 => hR5 x (by omega) (by omega) (by omega)) (hR5 _ (by omega) (by omega) (by omega))
  have f915 : Fr [] h9 h15 := FrN.fr f15 f914 (Nat.le_refl _)
  have bw15 := b9.fr f915 (by simp)
  have hfl5 : 0 ≤ w5.fl ∧ w5.fl ≤ 100000 := by simp only at hf5; omega
  rw [go_eq, LdA_three bw15, go_eq, CallF_eq]
  refine walk_Run.spec (fun i => At3 kd bsz ns n F (⟨st0, st0, (unT st0 F : Nat), 0⟩, m.row, ⟨wl, seedOf 9#64, 0⟩) (i2 + i)) hW k15 hG hfl5 (by simp only at hd5; omega) (by rw [hws5]; show wl.length ≤ _; omega) (by decide) p2 (fun i w row s p hi hr ro => p.step hr) fun i3 h16 R6 w6 m6 s6 p3 hi3 hex3 k16 hR6 f16 hf6 hd6 hws6 => ?_
  have ks16 := ks15.move k16.t.s.sep k16.t.s.nN (fun x h1 h2 => hR6 x (by omega) (by omega) (by omega)) (hR6 _ (by omega) (by omega) (by omega))
  have f916 : Fr [] h9 h16 := FrN.fr f16 f915 (Nat.le_refl _)
  have f016 : Fr [] h h16 := (f05.trans f59).trans f916
  -- both came to the same
  have hsame : i1 = i2 + i3 := by
    obtain ⟨q1, r1⟩ := p1
    obtain ⟨q2, r2⟩ := p2
    obtain ⟨q3, r3⟩ := p3
    have L1 : (itr kd bsz ns n F (⟨st0, st0, (unT st0 F : Nat), 0⟩, m.row, ⟨wl, seedOf 9#64, 0⟩) i1).2.1.length = m4.row.length := by rw [← q1]
    have L2 : (itr kd bsz ns n F (⟨st0, st0, (unT st0 F : Nat), 0⟩, m.row, ⟨wl, seedOf 9#64, 0⟩) i2).2.1.length = m5.row.length := by rw [← q2]
    have L3 : (itr kd bsz ns n F (⟨st0, st0, (unT st0 F : Nat), 0⟩, m.row, ⟨wl, seedOf 9#64, 0⟩) (i2 + i3)).2.1.length = m6.row.length := by rw [← q3]
    refine stop_one (m := 30) (L := fun j => (itr kd bsz ns n F (⟨st0, st0, (unT st0 F : Nat), 0⟩, m.row, ⟨wl, seedOf 9#64, 0⟩) j).2.1.length) (by omega) (by omega) r1 r3 ?_ ?_
    · by_cases e : i1 = 30
      · exact .inl e
      · refine .inr ?_
        rcases Nat.eq_zero_or_pos m4.row.length with q | q
        · exact L1.trans q
        · exact absurd ⟨by omega, q⟩ hex1
    · by_cases e : i2 + i3 = 30
      · exact .inl e
      · refine .inr ?_
        rcases Nat.eq_zero_or_pos m6.row.length with q | q
        · exact L3.trans q
        · by_cases e3 : i3 < 19
          · exact absurd ⟨by omega, q⟩ hex3
          · have e2 : i2 < 11 := by omega
            have hz : m5.row.length = 0 := by
              rcases Nat.eq_zero_or_pos m5.row.length with q' | q'
              · exact q'
              · exact absurd ⟨by omega, q'⟩ hex2
            exact absurd (L2.trans hz) (r3 i2 (by omega))
  have hpair : (w4, m4.row, s4) = (w6, m6.row, s6) := by rw [p1.1, p3.1, hsame]
  have ew : w4 = w6 := congrArg (·.1) hpair
  have erow : m4.row = m6.row := congrArg (·.2.1) hpair
  have est : s4 = s6 := congrArg (·.2.2) hpair
  subst ew est
  have bw16 := b9.fr f916 (by simp)
  have al16 := ks16.t.al
  have hlast : i1 = 30 ∨ m4.row.length = 0 := by
    by_cases e : i1 = 30
    · exact .inl e
    · refine .inr ?_
      rcases Nat.eq_zero_or_pos m4.row.length with q | q
      · exact q
      · exact absurd ⟨by omega, q⟩ hex1
  rw [go_eq, Add64 _ (by omega) (by omega)]
  rw [go_eq]
  refine ACall_mk (local_State_Assignment.spec ks16.t.s fun xv xb h17 o17 hb17 f17 => ⟨f17, ?_⟩)
  rw [ks16.t.r.ea] at o17
  have k17 := k16.fr f17
  rw [go_eq]
  refine ACall_mk (local_State_Assignment.spec k17.t.s fun yv yb h18 o18 hb18 f18 => ⟨f18, ?_⟩)
  rw [k17.t.r.ea] at o18
  have ks18 := (ks16.fr f17).fr f18
  have k18 := k17.fr f18
  have o17' := (o17.fr f18 (by simp)).rd
  have o18' := o18.rd
  have bw18 := (bw16.fr f17 (by simp)).fr f18 (by simp)
  have f018 := (f016.trans f17).trans f18
  rw [go_eq, Len_rd o17', List.length_map]
  refine Lp_fn (σ := Nat) (fun i => [ptr h7.size, ptr sb, ptr tb, ptr gr, ptr gq, Iv (i1 : Nat), Iv ((i2 : Nat) + (i3 : Nat) : Int), xv, yv, Iv (w4.a.length : Nat), Iv (i : Nat)]) (fun i h' => i ≤ w4.a.length ∧ h18 = h') (fun i => w4.a.length - i) 0 rfl (fun _ => rfl) ⟨Nat.zero_le _, rfl⟩ ?_
  rintro i h19 ⟨hi, rfl⟩ X hX
  by_cases c1 : (i : Int) < (w4.a.length : Nat)
  · have al := bool_atD (a := w4.a) (i := i) (by omega)
    have hl2 : (w4.a.map Value.bool).length = w4.a.length := List.length_map _
    have hX' := hX (i + 1) h18 ⟨by omega, rfl⟩ (by omega)
    try simp (disch := first | assumption | omega | (apply At.mk; with_unfolding_all rfl)) only [hl2, ↓go_eq, ↓ent_eq, Mv, NilC_at, Fld_at, add_mk, Nat.zero_add, Nat.add_zero, Add64, Sub64, Mul64, Quo64, Rem64, Neg64, Cvt64, CvtU8, CvtU16, CvtU32, CvtU64, AddU64, SubU64, MulU64, Shr64, Shr_u8, Shr_u16, Shr_u32, Shr_u64, And1, And31, And32, Eql64, Neq64, Bin_lss, Bin_leq, Bin_gtr, Bin_geq, Bin_bool_eql, Bin_bool_neq, Bin_ptr_nil_eql, Bin_ptr_nil_neq, Not_dec, Un_not, Pick_t, Pick_f, Pick_pos, Pick_neg, Gd_tt, Gd_tf, Gd_ft, Gd_ff, Gd_pos_t, Gd_neg_t, Gd_pos_f, Gd_neg_f, Gd_undef, If_t, If_f, If_pos, If_neg, CallF_eq, Max_two, Min_two, Len_rd, Len_own, Ld_blkE, Idx_rdN, Idx_ownN, Idx_rdE, Idx_ownE, IdxAE, LdA_two, Idx_at0, Ext_atE, Len_at, Int.toNat_natCast, Int.toNat_zero, Int.toNat_one, List.length_map, List.length_append, List.length_cons, List.length_nil, List.length_take, List.length_set, List.length_replicate, Bool.not_true, Bool.not_false, decide_true, decide_false, BEq.rfl, bne_self_eq_false, tf_beq, ft_beq, tf_bne, ft_bne, not_true_eq_false, not_false_eq_true, app]
    generalize w4.a.getD i false = bz at *
    try simp (disch := first | assumption | omega | (apply At.mk; with_unfolding_all rfl)) only [↓go_eq, ↓ent_eq, Mv, NilC_at, Fld_at, add_mk, Nat.zero_add, Nat.add_zero, Add64, Sub64, Mul64, Quo64, Rem64, Neg64, Cvt64, CvtU8, CvtU16, CvtU32, CvtU64, AddU64, SubU64, MulU64, Shr64, Shr_u8, Shr_u16, Shr_u32, Shr_u64, And1, And31, And32, Eql64, Neq64, Bin_lss, Bin_leq, Bin_gtr, Bin_geq, Bin_bool_eql, Bin_bool_neq, Bin_ptr_nil_eql, Bin_ptr_nil_neq, Not_dec, Un_not, Pick_t, Pick_f, Pick_pos, Pick_neg, Gd_tt, Gd_tf, Gd_ft, Gd_ff, Gd_pos_t, Gd_neg_t, Gd_pos_f, Gd_neg_f, Gd_undef, If_t, If_f, If_pos, If_neg, CallF_eq, Max_two, Min_two, Len_rd, Len_own, Ld_blkE, Idx_rdN, Idx_ownN, Idx_rdE, Idx_ownE, IdxAE, LdA_two, Idx_at0, Ext_atE, Len_at, Int.toNat_natCast, Int.toNat_zero, Int.toNat_one, List.length_map, List.length_append, List.length_cons, List.length_nil, List.length_take, List.length_set, List.length_replicate, Bool.not_true, Bool.not_false, decide_true, decide_false, BEq.rfl, bne_self_eq_false, tf_beq, ft_beq, tf_bne, ft_bne, not_true_eq_false, not_false_eq_true, app]
    try simp only [show (i : Int) + 1 = ((i + 1 : Nat) : Int) from by omega]
    exact hX'
  · have e1 : (i1 : Int) = (i2 : Nat) + (i3 : Nat) := by omega
    simp only [app]
    rw [go_eq, Bin_lss, decide_eq_false c1, If_f, go_eq, Eql64, decide_eq_true e1]
    have f918 := (f916.trans f17).trans f18
    have fin : ∀ {Q : Ret}, (∀ h', Fr [] h9 h' → Q (Iv 0) h') → CallH Try.prog walk_Run.id #[ptr sb, .agg #[Iv kd, Iv bsz, Iv ns], ptr gr, Iv (-5)] Q h18 := by
      intro Q hq
      refine walk_Run.spec (fun _ _ _ _ => True) hW ks18 hG (by simp only at hf4; omega) (by simp only at hd4; omega) (by rw [hws4]; show wl.length ≤ _; omega) (by decide) trivial (fun _ _ _ _ _ _ _ _ => trivial) fun i4 h19 R7 w7 m7 s7 _ hi4 _ _ _ f19 _ _ _ => ?_
      have : i4 = 0 := by omega
      subst this
      exact hq h19 (FrN.fr f19 f918 (Nat.le_refl _))
    have hrl : ((m4.row.length : Nat) : Int) = (m6.row.length : Nat) := by rw [erow]
    try simp (disch := first | assumption | omega | (apply At.mk; with_unfolding_all rfl)) only [↓go_eq, ↓ent_eq, Mv, NilC_at, Fld_at, add_mk, Nat.zero_add, Nat.add_zero, Add64, Sub64, Mul64, Quo64, Rem64, Neg64, Cvt64, CvtU8, CvtU16, CvtU32, CvtU64, AddU64, SubU64, MulU64, Shr64, Shr_u8, Shr_u16, Shr_u32, Shr_u64, And1, And31, And32, Eql64, Neq64, Bin_lss, Bin_leq, Bin_gtr, Bin_geq, Bin_bool_eql, Bin_bool_neq, Bin_ptr_nil_eql, Bin_ptr_nil_neq, Not_dec, Un_not, Pick_t, Pick_f, Pick_pos, Pick_neg, Gd_tt, Gd_tf, Gd_ft, Gd_ff, Gd_pos_t, Gd_neg_t, Gd_pos_f, Gd_neg_f, Gd_undef, If_t, If_f, If_pos, If_neg, CallF_eq, Max_two, Min_two, Len_rd, Len_own, Ld_blkE, Idx_rdN, Idx_ownN, Idx_rdE, Idx_ownE, IdxAE, LdA_two, Idx_at0, Ext_atE, Len_at, Int.toNat_natCast, Int.toNat_zero, Int.toNat_one, List.length_map, List.length_append, List.length_cons, List.length_nil, List.length_take, List.length_set, List.length_replicate, Bool.not_true, Bool.not_false, decide_true, decide_false, BEq.rfl, bne_self_eq_false, tf_beq, ft_beq, tf_bne, ft_bne, not_true_eq_false, not_false_eq_true, app]
    refine drawn_q ks18.str ?_
    try simp (disch := first | assumption | omega | (apply At.mk; with_unfolding_all rfl)) only [↓go_eq, ↓ent_eq, Mv, NilC_at, Fld_at, add_mk, Nat.zero_add, Nat.add_zero, Add64, Sub64, Mul64, Quo64, Rem64, Neg64, Cvt64, CvtU8, CvtU16, CvtU32, CvtU64, AddU64, SubU64, MulU64, Shr64, Shr_u8, Shr_u16, Shr_u32, Shr_u64, And1, And31, And32, Eql64, Neq64, Bin_lss, Bin_leq, Bin_gtr, Bin_geq, Bin_bool_eql, Bin_bool_neq, Bin_ptr_nil_eql, Bin_ptr_nil_neq, Not_dec, Un_not, Pick_t, Pick_f, Pick_pos, Pick_neg, Gd_tt, Gd_tf, Gd_ft, Gd_ff, Gd_pos_t, Gd_neg_t, Gd_pos_f, Gd_neg_f, Gd_undef, If_t, If_f, If_pos, If_neg, CallF_eq, Max_two, Min_two, Len_rd, Len_own, Ld_blkE, Idx_rdN, Idx_ownN, Idx_rdE, Idx_ownE, IdxAE, LdA_two, Idx_at0, Ext_atE, Len_at, Int.toNat_natCast, Int.toNat_zero, Int.toNat_one, List.length_map, List.length_append, List.length_cons, List.length_nil, List.length_take, List.length_set, List.length_replicate, Bool.not_true, Bool.not_false, decide_true, decide_false, BEq.rfl, bne_self_eq_false, tf_beq, ft_beq, tf_bne, ft_bne, not_true_eq_false, not_false_eq_true, app]
    refine drawn_q k18.str ?_
    try simp (disch := first | assumption | omega | (apply At.mk; with_unfolding_all rfl)) only [↓go_eq, ↓ent_eq, Mv, NilC_at, Fld_at, add_mk, Nat.zero_add, Nat.add_zero, Add64, Sub64, Mul64, Quo64, Rem64, Neg64, Cvt64, CvtU8, CvtU16, CvtU32, CvtU64, AddU64, SubU64, MulU64, Shr64, Shr_u8, Shr_u16, Shr_u32, Shr_u64, And1, And31, And32, Eql64, Neq64, Bin_lss, Bin_leq, Bin_gtr, Bin_geq, Bin_bool_eql, Bin_bool_neq, Bin_ptr_nil_eql, Bin_ptr_nil_neq, Not_dec, Un_not, Pick_t, Pick_f, Pick_pos, Pick_neg, Gd_tt, Gd_tf, Gd_ft, Gd_ff, Gd_pos_t, Gd_neg_t, Gd_pos_f, Gd_neg_f, Gd_undef, If_t, If_f, If_pos, If_neg, CallF_eq, Max_two, Min_two, Len_rd, Len_own, Ld_blkE, Idx_rdN, Idx_ownN, Idx_rdE, Idx_ownE, IdxAE, LdA_two, Idx_at0, Ext_atE, Len_at, Int.toNat_natCast, Int.toNat_zero, Int.toNat_one, List.length_map, List.length_append, List.length_cons, List.length_nil, List.length_take, List.length_set, List.length_replicate, Bool.not_true, Bool.not_false, decide_true, decide_false, BEq.rfl, bne_self_eq_false, tf_beq, ft_beq, tf_bne, ft_bne, not_true_eq_false, not_false_eq_true, app]
    refine unsat_m ks18.t ?_
    try simp (disch := first | assumption | omega | (apply At.mk; with_unfolding_all rfl)) only [↓go_eq, ↓ent_eq, Mv, NilC_at, Fld_at, add_mk, Nat.zero_add, Nat.add_zero, Add64, Sub64, Mul64, Quo64, Rem64, Neg64, Cvt64, CvtU8, CvtU16, CvtU32, CvtU64, AddU64, SubU64, MulU64, Shr64, Shr_u8, Shr_u16, Shr_u32, Shr_u64, And1, And31, And32, Eql64, Neq64, Bin_lss, Bin_leq, Bin_gtr, Bin_geq, Bin_bool_eql, Bin_bool_neq, Bin_ptr_nil_eql, Bin_ptr_nil_neq, Not_dec, Un_not, Pick_t, Pick_f, Pick_pos, Pick_neg, Gd_tt, Gd_tf, Gd_ft, Gd_ff, Gd_pos_t, Gd_neg_t, Gd_pos_f, Gd_neg_f, Gd_undef, If_t, If_f, If_pos, If_neg, CallF_eq, Max_two, Min_two, Len_rd, Len_own, Ld_blkE, Idx_rdN, Idx_ownN, Idx_rdE, Idx_ownE, IdxAE, LdA_two, Idx_at0, Ext_atE, Len_at, Int.toNat_natCast, Int.toNat_zero, Int.toNat_one, List.length_map, List.length_append, List.length_cons, List.length_nil, List.length_take, List.length_set, List.length_replicate, Bool.not_true, Bool.not_false, decide_true, decide_false, BEq.rfl, bne_self_eq_false, tf_beq, ft_beq, tf_bne, ft_bne, not_true_eq_false, not_false_eq_true, app]
    refine unsat_m k18.t ?_
    rw [erow]
    try simp (disch := first | assumption | omega | (apply At.mk; with_unfolding_all rfl)) only [↓go_eq, ↓ent_eq, Mv, NilC_at, Fld_at, add_mk, Nat.zero_add, Nat.add_zero, Add64, Sub64, Mul64, Quo64, Rem64, Neg64, Cvt64, CvtU8, CvtU16, CvtU32, CvtU64, AddU64, SubU64, MulU64, Shr64, Shr_u8, Shr_u16, Shr_u32, Shr_u64, And1, And31, And32, Eql64, Neq64, Bin_lss, Bin_leq, Bin_gtr, Bin_geq, Bin_bool_eql, Bin_bool_neq, Bin_ptr_nil_eql, Bin_ptr_nil_neq, Not_dec, Un_not, Pick_t, Pick_f, Pick_pos, Pick_neg, Gd_tt, Gd_tf, Gd_ft, Gd_ff, Gd_pos_t, Gd_neg_t, Gd_pos_f, Gd_neg_f, Gd_undef, If_t, If_f, If_pos, If_neg, CallF_eq, Max_two, Min_two, Len_rd, Len_own, Ld_blkE, Idx_rdN, Idx_ownN, Idx_rdE, Idx_ownE, IdxAE, LdA_two, Idx_at0, Ext_atE, Len_at, Int.toNat_natCast, Int.toNat_zero, Int.toNat_one, List.length_map, List.length_append, List.length_cons, List.length_nil, List.length_take, List.length_set, List.length_replicate, Bool.not_true, Bool.not_false, decide_true, decide_false, BEq.rfl, bne_self_eq_false, tf_beq, ft_beq, tf_bne, ft_bne, not_true_eq_false, not_false_eq_true, app]
    have hfK : ∀ h', Fr [] h9 h' → K (.bool true) h' := fun h' f => hk h' ((f05.trans f59).trans f)
    rcases hlast with e30 | e0
    · have e30' : (i1 : Int) = 30 := by omega
      try simp (disch := first | assumption | omega | (apply At.mk; with_unfolding_all rfl)) only [↓go_eq, ↓ent_eq, Mv, NilC_at, Fld_at, add_mk, Nat.zero_add, Nat.add_zero, Add64, Sub64, Mul64, Quo64, Rem64, Neg64, Cvt64, CvtU8, CvtU16, CvtU32, CvtU64, AddU64, SubU64, MulU64, Shr64, Shr_u8, Shr_u16, Shr_u32, Shr_u64, And1, And31, And32, Eql64, Neq64, Bin_lss, Bin_leq, Bin_gtr, Bin_geq, Bin_bool_eql, Bin_bool_neq, Bin_ptr_nil_eql, Bin_ptr_nil_neq, Not_dec, Un_not, Pick_t, Pick_f, Pick_pos, Pick_neg, Gd_tt, Gd_tf, Gd_ft, Gd_ff, Gd_pos_t, Gd_neg_t, Gd_pos_f, Gd_neg_f, Gd_undef, If_t, If_f, If_pos, If_neg, CallF_eq, Max_two, Min_two, Len_rd, Len_own, Ld_blkE, Idx_rdN, Idx_ownN, Idx_rdE, Idx_ownE, IdxAE, LdA_two, Idx_at0, Ext_atE, Len_at, Int.toNat_natCast, Int.toNat_zero, Int.toNat_one, List.length_map, List.length_append, List.length_cons, List.length_nil, List.length_take, List.length_set, List.length_replicate, Bool.not_true, Bool.not_false, decide_true, decide_false, BEq.rfl, bne_self_eq_false, tf_beq, ft_beq, tf_bne, ft_bne, not_true_eq_false, not_false_eq_true, app]
      rw [LdA_three bw18]
      refine fin fun h20 f20 => ?_
      have := hfK h20 f20
      try simp (disch := first | assumption | omega | (apply At.mk; with_unfolding_all rfl)) only [↓go_eq, ↓ent_eq, Mv, NilC_at, Fld_at, add_mk, Nat.zero_add, Nat.add_zero, Add64, Sub64, Mul64, Quo64, Rem64, Neg64, Cvt64, CvtU8, CvtU16, CvtU32, CvtU64, AddU64, SubU64, MulU64, Shr64, Shr_u8, Shr_u16, Shr_u32, Shr_u64, And1, And31, And32, Eql64, Neq64, Bin_lss, Bin_leq, Bin_gtr, Bin_geq, Bin_bool_eql, Bin_bool_neq, Bin_ptr_nil_eql, Bin_ptr_nil_neq, Not_dec, Un_not, Pick_t, Pick_f, Pick_pos, Pick_neg, Gd_tt, Gd_tf, Gd_ft, Gd_ff, Gd_pos_t, Gd_neg_t, Gd_pos_f, Gd_neg_f, Gd_undef, If_t, If_f, If_pos, If_neg, CallF_eq, Max_two, Min_two, Len_rd, Len_own, Ld_blkE, Idx_rdN, Idx_ownN, Idx_rdE, Idx_ownE, IdxAE, LdA_two, Idx_at0, Ext_atE, Len_at, Int.toNat_natCast, Int.toNat_zero, Int.toNat_one, List.length_map, List.length_append, List.length_cons, List.length_nil, List.length_take, List.length_set, List.length_replicate, Bool.not_true, Bool.not_false, decide_true, decide_false, BEq.rfl, bne_self_eq_false, tf_beq, ft_beq, tf_bne, ft_bne, not_true_eq_false, not_false_eq_true, app]
      exact this
    · by_cases e30' : (i1 : Int) = 30
      · try simp (disch := first | assumption | omega | (apply At.mk; with_unfolding_all rfl)) only [↓go_eq, ↓ent_eq, Mv, NilC_at, Fld_at, add_mk, Nat.zero_add, Nat.add_zero, Add64, Sub64, Mul64, Quo64, Rem64, Neg64, Cvt64, CvtU8, CvtU16, CvtU32, CvtU64, AddU64, SubU64, MulU64, Shr64, Shr_u8, Shr_u16, Shr_u32, Shr_u64, And1, And31, And32, Eql64, Neq64, Bin_lss, Bin_leq, Bin_gtr, Bin_geq, Bin_bool_eql, Bin_bool_neq, Bin_ptr_nil_eql, Bin_ptr_nil_neq, Not_dec, Un_not, Pick_t, Pick_f, Pick_pos, Pick_neg, Gd_tt, Gd_tf, Gd_ft, Gd_ff, Gd_pos_t, Gd_neg_t, Gd_pos_f, Gd_neg_f, Gd_undef, If_t, If_f, If_pos, If_neg, CallF_eq, Max_two, Min_two, Len_rd, Len_own, Ld_blkE, Idx_rdN, Idx_ownN, Idx_rdE, Idx_ownE, IdxAE, LdA_two, Idx_at0, Ext_atE, Len_at, Int.toNat_natCast, Int.toNat_zero, Int.toNat_one, List.length_map, List.length_append, List.length_cons, List.length_nil, List.length_take, List.length_set, List.length_replicate, Bool.not_true, Bool.not_false, decide_true, decide_false, BEq.rfl, bne_self_eq_false, tf_beq, ft_beq, tf_bne, ft_bne, not_true_eq_false, not_false_eq_true, app]
        rw [LdA_three bw18]
        refine fin fun h20 f20 => ?_
        have := hfK h20 f20
        try simp (disch := first | assumption | omega | (apply At.mk; with_unfolding_all rfl)) only [↓go_eq, ↓ent_eq, Mv, NilC_at, Fld_at, add_mk, Nat.zero_add, Nat.add_zero, Add64, Sub64, Mul64, Quo64, Rem64, Neg64, Cvt64, CvtU8, CvtU16, CvtU32, CvtU64, AddU64, SubU64, MulU64, Shr64, Shr_u8, Shr_u16, Shr_u32, Shr_u64, And1, And31, And32, Eql64, Neq64, Bin_lss, Bin_leq, Bin_gtr, Bin_geq, Bin_bool_eql, Bin_bool_neq, Bin_ptr_nil_eql, Bin_ptr_nil_neq, Not_dec, Un_not, Pick_t, Pick_f, Pick_pos, Pick_neg, Gd_tt, Gd_tf, Gd_ft, Gd_ff, Gd_pos_t, Gd_neg_t, Gd_pos_f, Gd_neg_f, Gd_undef, If_t, If_f, If_pos, If_neg, CallF_eq, Max_two, Min_two, Len_rd, Len_own, Ld_blkE, Idx_rdN, Idx_ownN, Idx_rdE, Idx_ownE, IdxAE, LdA_two, Idx_at0, Ext_atE, Len_at, Int.toNat_natCast, Int.toNat_zero, Int.toNat_one, List.length_map, List.length_append, List.length_cons, List.length_nil, List.length_take, List.length_set, List.length_replicate, Bool.not_true, Bool.not_false, decide_true, decide_false, BEq.rfl, bne_self_eq_false, tf_beq, ft_beq, tf_bne, ft_bne, not_true_eq_false, not_false_eq_true, app]
        exact this
      · try simp (disch := first | assumption | omega | (apply At.mk; with_unfolding_all rfl)) only [↓go_eq, ↓ent_eq, Mv, NilC_at, Fld_at, add_mk, Nat.zero_add, Nat.add_zero, Add64, Sub64, Mul64, Quo64, Rem64, Neg64, Cvt64, CvtU8, CvtU16, CvtU32, CvtU64, AddU64, SubU64, MulU64, Shr64, Shr_u8, Shr_u16, Shr_u32, Shr_u64, And1, And31, And32, Eql64, Neq64, Bin_lss, Bin_leq, Bin_gtr, Bin_geq, Bin_bool_eql, Bin_bool_neq, Bin_ptr_nil_eql, Bin_ptr_nil_neq, Not_dec, Un_not, Pick_t, Pick_f, Pick_pos, Pick_neg, Gd_tt, Gd_tf, Gd_ft, Gd_ff, Gd_pos_t, Gd_neg_t, Gd_pos_f, Gd_neg_f, Gd_undef, If_t, If_f, If_pos, If_neg, CallF_eq, Max_two, Min_two, Len_rd, Len_own, Ld_blkE, Idx_rdN, Idx_ownN, Idx_rdE, Idx_ownE, IdxAE, LdA_two, Idx_at0, Ext_atE, Len_at, Int.toNat_natCast, Int.toNat_zero, Int.toNat_one, List.length_map, List.length_append, List.length_cons, List.length_nil, List.length_take, List.length_set, List.length_replicate, Bool.not_true, Bool.not_false, decide_true, decide_false, BEq.rfl, bne_self_eq_false, tf_beq, ft_beq, tf_bne, ft_bne, not_true_eq_false, not_false_eq_true, app]
        refine unsat_m ks18.t ?_
        rw [e0]
        try simp (disch := first | assumption | omega | (apply At.mk; with_unfolding_all rfl)) only [↓go_eq, ↓ent_eq, Mv, NilC_at, Fld_at, add_mk, Nat.zero_add, Nat.add_zero, Add64, Sub64, Mul64, Quo64, Rem64, Neg64, Cvt64, CvtU8, CvtU16, CvtU32, CvtU64, AddU64, SubU64, MulU64, Shr64, Shr_u8, Shr_u16, Shr_u32, Shr_u64, And1, And31, And32, Eql64, Neq64, Bin_lss, Bin_leq, Bin_gtr, Bin_geq, Bin_bool_eql, Bin_bool_neq, Bin_ptr_nil_eql, Bin_ptr_nil_neq, Not_dec, Un_not, Pick_t, Pick_f, Pick_pos, Pick_neg, Gd_tt, Gd_tf, Gd_ft, Gd_ff, Gd_pos_t, Gd_neg_t, Gd_pos_f, Gd_neg_f, Gd_undef, If_t, If_f, If_pos, If_neg, CallF_eq, Max_two, Min_two, Len_rd, Len_own, Ld_blkE, Idx_rdN, Idx_ownN, Idx_rdE, Idx_ownE, IdxAE, LdA_two, Idx_at0, Ext_atE, Len_at, Int.toNat_natCast, Int.toNat_zero, Int.toNat_one, List.length_map, List.length_append, List.length_cons, List.length_nil, List.length_take, List.length_set, List.length_replicate, Bool.not_true, Bool.not_false, decide_true, decide_false, BEq.rfl, bne_self_eq_false, tf_beq, ft_beq, tf_bne, ft_bne, not_true_eq_false, not_false_eq_true, app]
        rw [LdA_three bw18]
        refine fin fun h20 f20 => ?_
        have := hfK h20 f20
        try simp (disch := first | assumption | omega | (apply At.mk; with_unfolding_all rfl)) only [↓go_eq, ↓ent_eq, Mv, NilC_at, Fld_at, add_mk, Nat.zero_add, Nat.add_zero, Add64, Sub64, Mul64, Quo64, Rem64, Neg64, Cvt64, CvtU8, CvtU16, CvtU32, CvtU64, AddU64, SubU64, MulU64, Shr64, Shr_u8, Shr_u16, Shr_u32, Shr_u64, And1, And31, And32, Eql64, Neq64, Bin_lss, Bin_leq, Bin_gtr, Bin_geq, Bin_bool_eql, Bin_bool_neq, Bin_ptr_nil_eql, Bin_ptr_nil_neq, Not_dec, Un_not, Pick_t, Pick_f, Pick_pos, Pick_neg, Gd_tt, Gd_tf, Gd_ft, Gd_ff, Gd_pos_t, Gd_neg_t, Gd_pos_f, Gd_neg_f, Gd_undef, If_t, If_f, If_pos, If_neg, CallF_eq, Max_two, Min_two, Len_rd, Len_own, Ld_blkE, Idx_rdN, Idx_ownN, Idx_rdE, Idx_ownE, IdxAE, LdA_two, Idx_at0, Ext_atE, Len_at, Int.toNat_natCast, Int.toNat_zero, Int.toNat_one, List.length_map, List.length_append, List.length_cons, List.length_nil, List.length_take, List.length_set, List.length_replicate, Bool.not_true, Bool.not_false, decide_true, decide_false, BEq.rfl, bne_self_eq_false, tf_beq, ft_beq, tf_bne, ft_bne, not_true_eq_false, not_false_eq_true, app]
        exact this
theorem bradawllaw15_WalkAgrees.law {h : Heap} {a0 : Int × List (List Int)} {cs : Array Value} {a1 : List Int} {cs1 : Array Value} {a2 : List Int} {v2 : Value} (r0 : rRaw.is h a0 cs.toList) (r1 : (rArr 3 (rInt .u32) 1).is h a1 cs1.toList) (r2 : (rSlice (rInt .u64) 1).is h a2 [v2]) :
    CallH Try.prog bradawllaw15_WalkAgrees.id #[.agg cs, .agg cs1, v2] (fun v h' => v = .bool true ∧ Fr [] h h') h := by
  obtain ⟨v, ws, rfl, h1, h2, h3⟩ := raw_arg r0
  obtain ⟨x, y, z, rfl, hx, hy, hz⟩ := triple_arg r1
  exact bradawllaw15_WalkAgrees.spec h1 hx hy hz h2 h3 (words_arg r2) fun h' f => ⟨rfl, f⟩
end Go.Proofs.Ytonngdjfnnibaaa
