/- What follows by units, and when it clashes. No condition. -/
import Derived.Test.YteahhifkkjfhoaaNf4
namespace Go.Proofs.Yteahhifkkjfhoaa
open Go.Pt
set_option linter.unusedVariables false
set_option linter.unusedSimpArgs false
/-- What follows from k0 by clauses. -/
inductive Der (cs : List (List Int)) (k0 : Int → Prop) : Int → Prop where
  | base {x : Int} : k0 x → Der cs k0 x
  | unit {c : List Int} {x : Int} : c ∈ cs → x ∈ c → (∀ y ∈ c, y ≠ x → Der cs k0 (-y)) → Der cs k0 x
def Clash (cs : List (List Int)) (k0 : Int → Prop) : Prop := (∃ x, Der cs k0 x ∧ Der cs k0 (-x)) ∨ [] ∈ cs
section
variable {cs ds : List (List Int)} {k0 k1 : Int → Prop} {x : Int}
theorem Der.mono (hc : ∀ c ∈ cs, ∃ d ∈ ds, ∀ z, z ∈ d ↔ z ∈ c) (hk : ∀ x, k0 x → k1 x) (d : Der cs k0 x) : Der ds k1 x := by
  induction d with
  | base h => exact .base (hk _ h)
  | unit h1 h2 h3 ih =>
    obtain ⟨d, hd, hm⟩ := hc _ h1
    exact .unit hd ((hm _).2 h2) fun y hy hne => ih y ((hm _).1 hy) hne
theorem Clash.mono (hc : ∀ c ∈ cs, ∃ d ∈ ds, ∀ z, z ∈ d ↔ z ∈ c) (hk : ∀ x, k0 x → k1 x) (d : Clash cs k0) : Clash ds k1 := by
  rcases d with ⟨x, h1, h2⟩ | h
  · exact .inl ⟨x, h1.mono hc hk, h2.mono hc hk⟩
  · obtain ⟨d, hd, hm⟩ := hc _ h
    have : d = [] := List.eq_nil_iff_forall_not_mem.2 fun z hz => by have := (hm z).1 hz; cases this
    rw [this] at hd
    exact .inr hd
/-- The same clauses, in whatever form. -/
def Alik (cs ds : List (List Int)) : Prop := (∀ c ∈ cs, ∃ d ∈ ds, ∀ z, z ∈ d ↔ z ∈ c) ∧ ∀ d ∈ ds, ∃ c ∈ cs, ∀ z, z ∈ c ↔ z ∈ d
theorem Alik.der (a : Alik cs ds) (hk : ∀ x, k0 x ↔ k1 x) : Der cs k0 x ↔ Der ds k1 x := ⟨.mono a.1 fun x => (hk x).1, .mono a.2 fun x => (hk x).2⟩
theorem Alik.clash (a : Alik cs ds) (hk : ∀ x, k0 x ↔ k1 x) : Clash cs k0 ↔ Clash ds k1 := ⟨.mono a.1 fun x => (hk x).1, .mono a.2 fun x => (hk x).2⟩
theorem Alik.refl (cs : List (List Int)) : Alik cs cs := ⟨fun c h => ⟨c, h, fun _ => Iff.rfl⟩, fun c h => ⟨c, h, fun _ => Iff.rfl⟩⟩
theorem Alik.of_nf (cs : List (List Int)) : Alik (cs.map nf) cs := by
  refine ⟨fun c h => ?_, fun c h => ?_⟩
  · obtain ⟨d, hd, rfl⟩ := List.mem_map.1 h
    exact ⟨d, hd, fun _ => nf_mem.symm⟩
  · exact ⟨nf c, List.mem_map.2 ⟨c, h, rfl⟩, fun _ => nf_mem⟩
theorem unit_clash {c : List Int} (hc : c ∈ cs) (h : ∀ y ∈ c, Der cs k0 (-y)) : Clash cs k0 := by
  cases c with
  | nil => exact .inr hc
  | cons x r => exact .inl ⟨x, .unit hc List.mem_cons_self fun y hy _ => h y hy, h x List.mem_cons_self⟩
theorem Der.closed {S : Int → Prop} (h0 : ∀ x, k0 x → S x) (h1 : ∀ c ∈ cs, ∀ x ∈ c, (∀ y ∈ c, y ≠ x → S (-y)) → S x) (d : Der cs k0 x) : S x := by
  induction d with
  | base h => exact h0 _ h
  | unit a b _ ih => exact h1 _ a _ b ih
theorem LitOk.neg {n : Nat} (h : LitOk n x) : LitOk n (-x) := ⟨fun e => h.1 (by omega), by have := h.2.2; omega, by have := h.2.1; omega⟩
theorem Der.ok {n : Nat} (hF : FOk n cs) (h0 : ∀ x, k0 x → LitOk n x) (d : Der cs k0 x) : LitOk n x := by
  induction d with
  | base h => exact h0 _ h
  | unit a b _ _ => exact hF _ a _ b
/-- What an assignment makes true is kept by units. -/
theorem Der.true {n : Nat} {a : List Bool} (hF : FOk n cs) (hs : satT a cs = true) (h0 : ∀ x, k0 x → litT a x = true) (d : Der cs k0 x) : litT a x = true := by
  induction d with
  | base h => exact h0 _ h
  | @unit c x hc hx _ ih =>
    obtain ⟨y, hy, ty⟩ := List.any_eq_true.1 (List.all_eq_true.1 hs c hc)
    by_cases e : y = x
    · rw [← e]; exact ty
    · have := ih y hy e
      rw [litT_neg (hF c hc y hy).1, ty] at this
      cases this
theorem Clash.unsat {n : Nat} {a : List Bool} (hF : FOk n cs) (h0 : ∀ x, k0 x → litT a x = true) (hk : ∀ x, k0 x → LitOk n x) (hc : Clash cs k0) : satT a cs = false := by
  cases hs : satT a cs with
  | false => rfl
  | true =>
    rcases hc with ⟨x, h1, h2⟩ | h
    · have t1 := h1.true hF hs h0
      have t2 := h2.true hF hs h0
      rw [litT_neg (h1.ok hF hk).1, t1] at t2; cases t2
    · have := List.all_eq_true.1 hs [] h
      cases this
end
/-! ### Literals by their indexes -/
def litAt (i : Nat) : Int := if i % 2 = 1 then -((i / 2 : Nat) + 1 : Int) else (i / 2 : Nat) + 1
theorem ix_at (i : Nat) : ix (litAt i) = (i : Int) := by unfold ix litAt; split <;> split <;> omega
theorem ix_ok {n : Nat} {x : Int} (h : LitOk n x) : 0 ≤ ix x ∧ ix x < 2 * (n : Int) := by obtain ⟨h1, h2, h3⟩ := h; unfold ix; split <;> omega
theorem at_ix {n : Nat} {x : Int} (h : LitOk n x) : litAt (ix x).toNat = x := ix_inj (by rw [ix_at]; have := ix_ok h; omega)
theorem at_ok {n i : Nat} (h : i < 2 * n) : LitOk n (litAt i) := by unfold litAt LitOk; split <;> omega
def kin (b : List Bool) (x : Int) : Bool := b.getD (ix x).toNat false
theorem kin_set {n : Nat} {b : List Bool} {x y : Int} (hb : b.length = 2 * n) (hx : LitOk n x) (hy : LitOk n y) : kin (b.set (ix x).toNat true) y = (decide (y = x) || kin b y) := by
  have i1 := ix_ok hx
  have i2 := ix_ok hy
  unfold kin
  rw [List.getD_eq_getElem?_getD, List.getD_eq_getElem?_getD]
  by_cases e : y = x
  · subst e
    rw [List.getElem?_set_self (by omega)]; simp
  · have : (ix x).toNat ≠ (ix y).toNat := fun q => e (ix_inj (by omega))
    rw [List.getElem?_set_ne this, decide_eq_false e, Bool.false_or]
theorem count_set {b : List Bool} {i : Nat} (hi : i < b.length) (h : b.getD i false = false) : (b.set i true).count true = b.count true + 1 := by
  induction b generalizing i with
  | nil => simp at hi
  | cons x r ih =>
    cases i with
    | zero =>
      have : x = false := by simpa using h
      subst this
      simp
    | succ i =>
      rw [List.set_cons_succ, List.count_cons, List.count_cons, ih (by simpa using hi) (by simpa using h)]
      omega
/-! ### One clause -/
def unitGo (b : List Bool) (free : Int) : List Int → Int × Bool
  | [] => (free, free != 0)
  | l :: r => if kin b l then (0, true) else if kin b (-l) then unitGo b free r else if free ≠ 0 then (0, true) else unitGo b l r
/-- What a clause tells: all its negations are in; or one is left; or nothing. -/
def UOut (b : List Bool) (c : List Int) (r : Int × Bool) : Prop :=
  (r.2 = false ∧ ∀ y ∈ c, kin b (-y) = true) ∨ (r.2 = true ∧ r.1 ≠ 0 ∧ r.1 ∈ c ∧ kin b r.1 = false ∧ ∀ y ∈ c, y ≠ r.1 → kin b (-y) = true) ∨
  (r.2 = true ∧ r.1 = 0 ∧ ((∃ y ∈ c, kin b y = true) ∨ ∃ y z, y ∈ c ∧ z ∈ c ∧ y ≠ z ∧ kin b (-y) = false ∧ kin b (-z) = false))
theorem unit_out_free {b : List Bool} {f : Int} (hf : f ≠ 0) : ∀ {c : List Int}, (∀ x ∈ c, x ≠ f) → 
    (unitGo b f c = (f, true) ∧ (∀ y ∈ c, kin b (-y) = true)) ∨ (unitGo b f c = (0, true) ∧ ((∃ y ∈ c, kin b y = true) ∨ ∃ y ∈ c, kin b (-y) = false))
  | [], _ => .inl ⟨by unfold unitGo; rw [show (f != 0) = true from bne_iff_ne.2 hf], by simp⟩
  | l :: r, h => by
    unfold unitGo
    by_cases k1 : kin b l = true
    · rw [if_pos k1]; exact .inr ⟨rfl, .inl ⟨l, List.mem_cons_self, k1⟩⟩
    · rw [if_neg k1]
      by_cases k2 : kin b (-l) = true
      · rw [if_pos k2]
        rcases unit_out_free (c := r) hf (fun x hx => h x (List.mem_cons_of_mem _ hx)) with ⟨e, q⟩ | ⟨e, q⟩
        · refine .inl ⟨e, fun y hy => ?_⟩
          rcases List.mem_cons.1 hy with rfl | y1
          · exact k2
          · exact q y y1
        · refine .inr ⟨e, ?_⟩
          rcases q with ⟨y, y1, y2⟩ | ⟨y, y1, y2⟩
          · exact .inl ⟨y, List.mem_cons_of_mem _ y1, y2⟩
          · exact .inr ⟨y, List.mem_cons_of_mem _ y1, y2⟩
      · rw [if_neg k2, if_pos hf]; exact .inr ⟨rfl, .inr ⟨l, List.mem_cons_self, by simpa using k2⟩⟩
theorem unit_out {b : List Bool} : ∀ {c : List Int}, c.Nodup → (∀ x ∈ c, x ≠ 0) → UOut b c (unitGo b 0 c)
  | [], _, _ => .inl ⟨rfl, by simp⟩
  | l :: r, hd, hz => by
    rw [List.nodup_cons] at hd
    have ih := unit_out (b := b) (c := r) hd.2 fun x hx => hz x (List.mem_cons_of_mem _ hx)
    unfold unitGo
    by_cases k1 : kin b l = true
    · rw [if_pos k1]; exact .inr (.inr ⟨rfl, rfl, .inl ⟨l, List.mem_cons_self, k1⟩⟩)
    · rw [if_neg k1]
      have k1' : kin b l = false := by simpa using k1
      by_cases k2 : kin b (-l) = true
      · rw [if_pos k2]
        rcases ih with ⟨e, q⟩ | ⟨e, e2, q1, q2, q3⟩ | ⟨e, e2, q⟩
        · refine .inl ⟨e, fun y hy => ?_⟩
          rcases List.mem_cons.1 hy with rfl | y1
          · exact k2
          · exact q y y1
        · refine .inr (.inl ⟨e, e2, List.mem_cons_of_mem _ q1, q2, fun y hy hne => ?_⟩)
          rcases List.mem_cons.1 hy with rfl | y1
          · exact k2
          · exact q3 y y1 hne
        · refine .inr (.inr ⟨e, e2, ?_⟩)
          rcases q with ⟨y, y1, y2⟩ | ⟨y, z, y1, z1, q⟩
          · exact .inl ⟨y, List.mem_cons_of_mem _ y1, y2⟩
          · exact .inr ⟨y, z, List.mem_cons_of_mem _ y1, List.mem_cons_of_mem _ z1, q⟩
      · rw [if_neg k2, if_neg (fun q => q rfl)]
        have k2' : kin b (-l) = false := by simpa using k2
        have hl := hz l List.mem_cons_self
        rcases unit_out_free (b := b) (c := r) hl (fun x hx e => hd.1 (e ▸ hx)) with ⟨e, q⟩ | ⟨e, q⟩
        · refine .inr (.inl ?_)
          rw [e]
          refine ⟨rfl, hl, List.mem_cons_self, k1', fun y hy hne => ?_⟩
          rcases List.mem_cons.1 hy with rfl | y1
          · exact absurd rfl hne
          · exact q y y1
        · refine .inr (.inr ?_)
          rw [e]
          refine ⟨rfl, rfl, ?_⟩
          rcases q with ⟨y, y1, y2⟩ | ⟨y, y1, y2⟩
          · exact .inl ⟨y, List.mem_cons_of_mem _ y1, y2⟩
          · exact .inr ⟨l, y, List.mem_cons_self, List.mem_cons_of_mem _ y1, fun e => hd.1 (e ▸ y1), k2', y2⟩
/-! ### What is known so far -/
structure Kinv (n : Nat) (cs : List (List Int)) (k0 : Int → Prop) (b : List Bool) (cl : Bool) : Prop where
  len : b.length = 2 * n
  sound : ∀ x, LitOk n x → kin b x = true → Der cs k0 x
  clash : cl = true → Clash cs k0
  free : cl = false → ∀ x, LitOk n x → kin b x = true → kin b (-x) = true → False
def Closed (b : List Bool) (c : List Int) : Prop := ∀ x ∈ c, (∀ y ∈ c, y ≠ x → kin b (-y) = true) → kin b x = true
section
variable {n : Nat} {cs : List (List Int)} {k0 : Int → Prop} {b : List Bool} {cl : Bool}
theorem Kinv.start : Kinv n cs k0 (List.replicate (2 * n) false) false := by
  have : ∀ x, kin (List.replicate (2 * n) false) x = false := fun x => by
    unfold kin
    rw [List.getD_eq_getElem?_getD, List.getElem?_replicate]
    split <;> rfl
  exact ⟨by simp, fun x _ h => (by rw [this] at h; cases h), fun h => (by cases h), fun _ x _ h => (by rw [this] at h; cases h)⟩
theorem Kinv.add {x : Int} (k : Kinv n cs k0 b cl) (hx : LitOk n x) (hd : Der cs k0 x) : Kinv n cs k0 (b.set (ix x).toNat true) (cl || kin (b.set (ix x).toNat true) (-x)) := by
  have ks := fun y (hy : LitOk n y) => kin_set k.len hx hy
  have hnx : -x ≠ x := fun e => hx.1 (by omega)
  have ekn : kin (b.set (ix x).toNat true) (-x) = kin b (-x) := by rw [ks _ hx.neg, decide_eq_false hnx, Bool.false_or]
  refine ⟨by rw [List.length_set]; exact k.len, fun y hy h => ?_, fun h => ?_, fun h y hy h1 h2 => ?_⟩
  · rw [ks y hy] at h
    by_cases e : y = x
    · rw [e]; exact hd
    · rw [decide_eq_false e, Bool.false_or] at h; exact k.sound y hy h
  · rw [ekn] at h
    rcases Bool.or_eq_true_iff.1 h with q | q
    · exact k.clash q
    · exact .inl ⟨x, hd, k.sound _ hx.neg q⟩
  · rw [ekn] at h
    obtain ⟨c1, c2⟩ := Bool.or_eq_false_iff.1 h
    rw [ks y hy] at h1
    rw [ks _ hy.neg] at h2
    by_cases e : y = x
    · subst e
      rw [decide_eq_false hnx, Bool.false_or, c2] at h2; cases h2
    · rw [decide_eq_false e, Bool.false_or] at h1
      by_cases e2 : -y = x
      · have : y = -x := by omega
        subst this
        rw [c2] at h1; cases h1
      · rw [decide_eq_false e2, Bool.false_or] at h2
        exact k.free c1 y hy h1 h2
theorem Kinv.quiet {c : List Int} {r : Int × Bool} (k : Kinv n cs k0 b false) (hok : ClOk n c) (u : UOut b c r) (h2 : r.2 = true) (h1 : r.1 = 0) : Closed b c := by
  rcases u with ⟨e, _⟩ | ⟨_, e, _⟩ | ⟨_, _, q⟩
  · rw [e] at h2; cases h2
  · exact absurd h1 e
  · intro x hx h
    rcases q with ⟨y, y1, y2⟩ | ⟨y, z, y1, z1, yz, ky, kz⟩
    · by_cases e : y = x
      · rw [← e]; exact y2
      · exact (k.free rfl y (hok y y1) y2 (h y y1 e)).elim
    · by_cases e : y = x
      · rw [h z z1 (fun q => yz (e.trans q.symm))] at kz; cases kz
      · rw [h y y1 e] at ky; cases ky
theorem Kinv.closed (hF : FOk n cs) (hk0 : ∀ x, k0 x → LitOk n x) (k : Kinv n cs k0 b false) (h0 : ∀ x, k0 x → kin b x = true) (hc : ∀ c ∈ cs, Closed b c) : (∀ x, LitOk n x → (kin b x = true ↔ Der cs k0 x)) ∧ (([] : List Int) ∉ cs → ¬ Clash cs k0) := by
  have key : ∀ x, Der cs k0 x → kin b x = true := fun x d => d.closed (S := fun x => kin b x = true) h0 fun c hcc x hx h => hc c hcc x hx h
  refine ⟨fun x hx => ⟨k.sound x hx, key x⟩, fun hne hcl => ?_⟩
  rcases hcl with ⟨x, d1, d2⟩ | q
  · exact k.free rfl x (d1.ok hF hk0) (key x d1) (key _ d2)
  · exact hne q
end
end Go.Proofs.Yteahhifkkjfhoaa

/- What is known, one clause, a round. Conditions: those typed ahead of each theorem. -/
namespace Go.Proofs.Yteahhifkkjfhoaa
open Go.Pt
set_option linter.unusedVariables false
set_option linter.unusedSimpArgs false
theorem LitOk.sm {n : Nat} {x : Int} (h : LitOk n x) (hn : n ≤ 1000000) : So.Sm x := by obtain ⟨_, a, b⟩ := h; exact ⟨by omega, by omega⟩
theorem lit_index_ok {n : Nat} {x : Int} (h : LitOk n x) (hn : n ≤ 1000000) {K : Ret} {h1 : Heap} (hk : K (Iv (ix x)) h1) : QCall Try.prog lit_Index.id [Iv x] K h1 := So.lit_index_q (h.sm hn) hk
theorem kin_at {n : Nat} {b : List Bool} {x : Int} (hb : b.length = 2 * n) (hx : LitOk n x) : At (b.map Value.bool) (ix x).toNat (.bool (kin b x)) := by
  have := ix_ok hx
  have hlt : (ix x).toNat < b.length := by omega
  unfold kin
  rw [List.getD_eq_getElem?_getD, List.getElem?_eq_getElem hlt]
  exact At.map (f := Value.bool) (List.getElem?_eq_getElem hlt)
theorem unitGo_nil (b : List Bool) (f : Int) : unitGo b f [] = (f, f != 0) := by rw [unitGo]
theorem unitGo_cons (b : List Bool) (f l : Int) (r : List Int) : unitGo b f (l :: r) = if kin b l then (0, true) else if kin b (-l) then unitGo b f r else if f ≠ 0 then (0, true) else unitGo b l r := by rw [unitGo]
/-- What is known, in memory. -/
structure Kn (h : Heap) (kb : Nat) (iv : Value) (ib : List Nat) (b : List Bool) (cl : Bool) : Prop where
  blk : Blk h kb [iv, .bool cl]
  own : Own h iv (b.map .bool) ib
  ne : kb ∉ ib
theorem Kn.fr {h h' : Heap} {kb : Nat} {iv : Value} {ib : List Nat} {b : List Bool} {cl : Bool} (k : Kn h kb iv ib b cl) (f : Fr [] h h') : Kn h' kb iv ib b cl := ⟨k.blk.fr f (by simp), k.own.fr f (by simp), k.ne⟩
theorem rup_known_add.spec {n kb : Nat} {iv : Value} {ib : List Nat} {b : List Bool} {cl : Bool} {l : Int} (hn : n ≤ 1000000) (hb : b.length = 2 * n) (hl : LitOk n l) {K : Ret} {h : Heap} (k : Kn h kb iv ib b cl)
    (hk : ∀ h', Kn h' kb iv ib (b.set (ix l).toNat true) (cl || kin (b.set (ix l).toNat true) (-l)) → Fr (kb :: ib) h h' → K (.tuple #[]) h') : CallH Try.prog rup_known_add.id #[ptr kb, Iv l] K h := by
  refine rup_known_add.ok ?_
  simp only [rup_known_add.pt]
  obtain ⟨kk, ko, kn⟩ := k
  have i1 := ix_ok hl
  have i2 := ix_ok hl.neg
  have i3 := hl.2
  have ivc := ko.rd.isCell
  try simp (disch := first | assumption | omega | (apply At.mk; with_unfolding_all rfl)) only [↓go_eq, ↓ent_eq, Mv, NilC_at, Fld_at, add_mk, Nat.zero_add, Nat.add_zero, Add64, Sub64, Mul64, Quo64, Rem64, Neg64, Cvt64, CvtU8, CvtU16, CvtU32, CvtU64, AddU64, SubU64, MulU64, Shr64, Shr_u8, Shr_u16, Shr_u32, Shr_u64, And1, And31, And32, Eql64, Neq64, Bin_lss, Bin_leq, Bin_gtr, Bin_geq, Bin_bool_eql, Bin_bool_neq, Bin_ptr_nil_eql, Bin_ptr_nil_neq, Not_dec, Un_not, Pick_t, Pick_f, Pick_pos, Pick_neg, Gd_tt, Gd_tf, Gd_ft, Gd_ff, Gd_pos_t, Gd_neg_t, Gd_pos_f, Gd_neg_f, Gd_undef, If_t, If_f, If_pos, If_neg, CallF_eq, Max_two, Min_two, Len_rd, Len_own, Ld_blkE, Idx_rdN, Idx_ownN, Idx_rdE, Idx_ownE, IdxAE, LdA_two, Idx_at0, Ext_atE, Len_at, Int.toNat_natCast, Int.toNat_zero, Int.toNat_one, List.length_map, List.length_append, List.length_cons, List.length_nil, List.length_take, List.length_set, List.length_replicate, Bool.not_true, Bool.not_false, decide_true, decide_false, BEq.rfl, bne_self_eq_false, tf_beq, ft_beq, tf_bne, ft_bne, not_true_eq_false, not_false_eq_true, app]
  refine lit_index_ok hl hn ?_
  try simp (disch := first | assumption | omega | (apply At.mk; with_unfolding_all rfl)) only [↓go_eq, ↓ent_eq, Mv, NilC_at, Fld_at, add_mk, Nat.zero_add, Nat.add_zero, Add64, Sub64, Mul64, Quo64, Rem64, Neg64, Cvt64, CvtU8, CvtU16, CvtU32, CvtU64, AddU64, SubU64, MulU64, Shr64, Shr_u8, Shr_u16, Shr_u32, Shr_u64, And1, And31, And32, Eql64, Neq64, Bin_lss, Bin_leq, Bin_gtr, Bin_geq, Bin_bool_eql, Bin_bool_neq, Bin_ptr_nil_eql, Bin_ptr_nil_neq, Not_dec, Un_not, Pick_t, Pick_f, Pick_pos, Pick_neg, Gd_tt, Gd_tf, Gd_ft, Gd_ff, Gd_pos_t, Gd_neg_t, Gd_pos_f, Gd_neg_f, Gd_undef, If_t, If_f, If_pos, If_neg, CallF_eq, Max_two, Min_two, Len_rd, Len_own, Ld_blkE, Idx_rdN, Idx_ownN, Idx_rdE, Idx_ownE, IdxAE, LdA_two, Idx_at0, Ext_atE, Len_at, Int.toNat_natCast, Int.toNat_zero, Int.toNat_one, List.length_map, List.length_append, List.length_cons, List.length_nil, List.length_take, List.length_set, List.length_replicate, Bool.not_true, Bool.not_false, decide_true, decide_false, BEq.rfl, bne_self_eq_false, tf_beq, ft_beq, tf_bne, ft_bne, not_true_eq_false, not_false_eq_true, app]
  refine ko.put (by omega) (by simp; omega) rfl fun h1 o1 f1 _ => ?_
  rw [← List.map_set] at o1
  have kk1 := kk.fr f1 kn
  have a1 := kin_at (b := b.set (ix l).toNat true) (by rw [List.length_set]; exact hb) hl.neg
  generalize b.set (ix l).toNat true = b' at *
  cases cl with
  | true =>
    try simp (disch := first | assumption | omega | (apply At.mk; with_unfolding_all rfl)) only [↓go_eq, ↓ent_eq, Mv, NilC_at, Fld_at, add_mk, Nat.zero_add, Nat.add_zero, Add64, Sub64, Mul64, Quo64, Rem64, Neg64, Cvt64, CvtU8, CvtU16, CvtU32, CvtU64, AddU64, SubU64, MulU64, Shr64, Shr_u8, Shr_u16, Shr_u32, Shr_u64, And1, And31, And32, Eql64, Neq64, Bin_lss, Bin_leq, Bin_gtr, Bin_geq, Bin_bool_eql, Bin_bool_neq, Bin_ptr_nil_eql, Bin_ptr_nil_neq, Not_dec, Un_not, Pick_t, Pick_f, Pick_pos, Pick_neg, Gd_tt, Gd_tf, Gd_ft, Gd_ff, Gd_pos_t, Gd_neg_t, Gd_pos_f, Gd_neg_f, Gd_undef, If_t, If_f, If_pos, If_neg, CallF_eq, Max_two, Min_two, Len_rd, Len_own, Ld_blkE, Idx_rdN, Idx_ownN, Idx_rdE, Idx_ownE, IdxAE, LdA_two, Idx_at0, Ext_atE, Len_at, Int.toNat_natCast, Int.toNat_zero, Int.toNat_one, List.length_map, List.length_append, List.length_cons, List.length_nil, List.length_take, List.length_set, List.length_replicate, Bool.not_true, Bool.not_false, decide_true, decide_false, BEq.rfl, bne_self_eq_false, tf_beq, ft_beq, tf_bne, ft_bne, not_true_eq_false, not_false_eq_true, app]
    refine St_blk kk1 (by simp) rfl fun h2 b2 f2 => ?_
    try simp (disch := first | assumption | omega | (apply At.mk; with_unfolding_all rfl)) only [↓go_eq, ↓ent_eq, Mv, NilC_at, Fld_at, add_mk, Nat.zero_add, Nat.add_zero, Add64, Sub64, Mul64, Quo64, Rem64, Neg64, Cvt64, CvtU8, CvtU16, CvtU32, CvtU64, AddU64, SubU64, MulU64, Shr64, Shr_u8, Shr_u16, Shr_u32, Shr_u64, And1, And31, And32, Eql64, Neq64, Bin_lss, Bin_leq, Bin_gtr, Bin_geq, Bin_bool_eql, Bin_bool_neq, Bin_ptr_nil_eql, Bin_ptr_nil_neq, Not_dec, Un_not, Pick_t, Pick_f, Pick_pos, Pick_neg, Gd_tt, Gd_tf, Gd_ft, Gd_ff, Gd_pos_t, Gd_neg_t, Gd_pos_f, Gd_neg_f, Gd_undef, If_t, If_f, If_pos, If_neg, CallF_eq, Max_two, Min_two, Len_rd, Len_own, Ld_blkE, Idx_rdN, Idx_ownN, Idx_rdE, Idx_ownE, IdxAE, LdA_two, Idx_at0, Ext_atE, Len_at, Int.toNat_natCast, Int.toNat_zero, Int.toNat_one, List.length_map, List.length_append, List.length_cons, List.length_nil, List.length_take, List.length_set, List.length_replicate, Bool.not_true, Bool.not_false, decide_true, decide_false, BEq.rfl, bne_self_eq_false, tf_beq, ft_beq, tf_bne, ft_bne, not_true_eq_false, not_false_eq_true, app]
    exact hk h2 ⟨b2, o1.fr f2 (fun x hx hm => by simp at hm; subst hm; exact kn hx), kn⟩ ((f1.mono (by simp; intro x hx; exact .inr hx)).trans (f2.mono (by simp)))
  | false =>
    try simp (disch := first | assumption | omega | (apply At.mk; with_unfolding_all rfl)) only [↓go_eq, ↓ent_eq, Mv, NilC_at, Fld_at, add_mk, Nat.zero_add, Nat.add_zero, Add64, Sub64, Mul64, Quo64, Rem64, Neg64, Cvt64, CvtU8, CvtU16, CvtU32, CvtU64, AddU64, SubU64, MulU64, Shr64, Shr_u8, Shr_u16, Shr_u32, Shr_u64, And1, And31, And32, Eql64, Neq64, Bin_lss, Bin_leq, Bin_gtr, Bin_geq, Bin_bool_eql, Bin_bool_neq, Bin_ptr_nil_eql, Bin_ptr_nil_neq, Not_dec, Un_not, Pick_t, Pick_f, Pick_pos, Pick_neg, Gd_tt, Gd_tf, Gd_ft, Gd_ff, Gd_pos_t, Gd_neg_t, Gd_pos_f, Gd_neg_f, Gd_undef, If_t, If_f, If_pos, If_neg, CallF_eq, Max_two, Min_two, Len_rd, Len_own, Ld_blkE, Idx_rdN, Idx_ownN, Idx_rdE, Idx_ownE, IdxAE, LdA_two, Idx_at0, Ext_atE, Len_at, Int.toNat_natCast, Int.toNat_zero, Int.toNat_one, List.length_map, List.length_append, List.length_cons, List.length_nil, List.length_take, List.length_set, List.length_replicate, Bool.not_true, Bool.not_false, decide_true, decide_false, BEq.rfl, bne_self_eq_false, tf_beq, ft_beq, tf_bne, ft_bne, not_true_eq_false, not_false_eq_true, app]
    refine lit_index_ok hl.neg hn ?_
    try simp (disch := first | assumption | omega | (apply At.mk; with_unfolding_all rfl)) only [↓go_eq, ↓ent_eq, Mv, NilC_at, Fld_at, add_mk, Nat.zero_add, Nat.add_zero, Add64, Sub64, Mul64, Quo64, Rem64, Neg64, Cvt64, CvtU8, CvtU16, CvtU32, CvtU64, AddU64, SubU64, MulU64, Shr64, Shr_u8, Shr_u16, Shr_u32, Shr_u64, And1, And31, And32, Eql64, Neq64, Bin_lss, Bin_leq, Bin_gtr, Bin_geq, Bin_bool_eql, Bin_bool_neq, Bin_ptr_nil_eql, Bin_ptr_nil_neq, Not_dec, Un_not, Pick_t, Pick_f, Pick_pos, Pick_neg, Gd_tt, Gd_tf, Gd_ft, Gd_ff, Gd_pos_t, Gd_neg_t, Gd_pos_f, Gd_neg_f, Gd_undef, If_t, If_f, If_pos, If_neg, CallF_eq, Max_two, Min_two, Len_rd, Len_own, Ld_blkE, Idx_rdN, Idx_ownN, Idx_rdE, Idx_ownE, IdxAE, LdA_two, Idx_at0, Ext_atE, Len_at, Int.toNat_natCast, Int.toNat_zero, Int.toNat_one, List.length_map, List.length_append, List.length_cons, List.length_nil, List.length_take, List.length_set, List.length_replicate, Bool.not_true, Bool.not_false, decide_true, decide_false, BEq.rfl, bne_self_eq_false, tf_beq, ft_beq, tf_bne, ft_bne, not_true_eq_false, not_false_eq_true, app]
    refine St_blk kk1 (by simp) rfl fun h2 b2 f2 => ?_
    try simp (disch := first | assumption | omega | (apply At.mk; with_unfolding_all rfl)) only [↓go_eq, ↓ent_eq, Mv, NilC_at, Fld_at, add_mk, Nat.zero_add, Nat.add_zero, Add64, Sub64, Mul64, Quo64, Rem64, Neg64, Cvt64, CvtU8, CvtU16, CvtU32, CvtU64, AddU64, SubU64, MulU64, Shr64, Shr_u8, Shr_u16, Shr_u32, Shr_u64, And1, And31, And32, Eql64, Neq64, Bin_lss, Bin_leq, Bin_gtr, Bin_geq, Bin_bool_eql, Bin_bool_neq, Bin_ptr_nil_eql, Bin_ptr_nil_neq, Not_dec, Un_not, Pick_t, Pick_f, Pick_pos, Pick_neg, Gd_tt, Gd_tf, Gd_ft, Gd_ff, Gd_pos_t, Gd_neg_t, Gd_pos_f, Gd_neg_f, Gd_undef, If_t, If_f, If_pos, If_neg, CallF_eq, Max_two, Min_two, Len_rd, Len_own, Ld_blkE, Idx_rdN, Idx_ownN, Idx_rdE, Idx_ownE, IdxAE, LdA_two, Idx_at0, Ext_atE, Len_at, Int.toNat_natCast, Int.toNat_zero, Int.toNat_one, List.length_map, List.length_append, List.length_cons, List.length_nil, List.length_take, List.length_set, List.length_replicate, Bool.not_true, Bool.not_false, decide_true, decide_false, BEq.rfl, bne_self_eq_false, tf_beq, ft_beq, tf_bne, ft_bne, not_true_eq_false, not_false_eq_true, app]
    refine hk h2 ⟨?_, o1.fr f2 (fun x hx hm => by simp at hm; subst hm; exact kn hx), kn⟩ ((f1.mono (by simp; intro x hx; exact .inr hx)).trans (f2.mono (by simp)))
    simpa using b2
theorem rup_known_unit.spec {n kb : Nat} {iv : Value} {ib : List Nat} {b : List Bool} {cl : Bool} {c : List Int} {v : Value} (hn : n ≤ 1000000) (hb : b.length = 2 * n) (hc : ClOk n c) (hl : c.length ≤ 1000000) {K : Ret} {h : Heap} (k : Kn h kb iv ib b cl) (hv : Rd h v (c.map Iv))
    (hk : K (.tuple #[Iv (unitGo b 0 c).1, .bool (unitGo b 0 c).2]) h) : CallH Try.prog rup_known_unit.id #[ptr kb, v] K h := by
  refine rup_known_unit.ok ?_
  simp only [rup_known_unit.pt]
  obtain ⟨kk, ko, kn⟩ := k
  have kr := ko.rd
  try simp (disch := first | assumption | omega | (apply At.mk; with_unfolding_all rfl)) only [↓go_eq, ↓ent_eq, Mv, NilC_at, Fld_at, add_mk, Nat.zero_add, Nat.add_zero, Add64, Sub64, Mul64, Quo64, Rem64, Neg64, Cvt64, CvtU8, CvtU16, CvtU32, CvtU64, AddU64, SubU64, MulU64, Shr64, Shr_u8, Shr_u16, Shr_u32, Shr_u64, And1, And31, And32, Eql64, Neq64, Bin_lss, Bin_leq, Bin_gtr, Bin_geq, Bin_bool_eql, Bin_bool_neq, Bin_ptr_nil_eql, Bin_ptr_nil_neq, Not_dec, Un_not, Pick_t, Pick_f, Pick_pos, Pick_neg, Gd_tt, Gd_tf, Gd_ft, Gd_ff, Gd_pos_t, Gd_neg_t, Gd_pos_f, Gd_neg_f, Gd_undef, If_t, If_f, If_pos, If_neg, CallF_eq, Max_two, Min_two, Len_rd, Len_own, Ld_blkE, Idx_rdN, Idx_ownN, Idx_rdE, Idx_ownE, IdxAE, LdA_two, Idx_at0, Ext_atE, Len_at, Int.toNat_natCast, Int.toNat_zero, Int.toNat_one, List.length_map, List.length_append, List.length_cons, List.length_nil, List.length_take, List.length_set, List.length_replicate, Bool.not_true, Bool.not_false, decide_true, decide_false, BEq.rfl, bne_self_eq_false, tf_beq, ft_beq, tf_bne, ft_bne, not_true_eq_false, not_false_eq_true, app]
  refine Lp_fn (σ := Int × Nat) (fun s => [ptr kb, Iv s.1, v, Iv (c.length : Nat), Iv (s.2 : Nat)]) (fun s h' => h = h' ∧ s.2 ≤ c.length ∧ unitGo b s.1 (c.drop s.2) = unitGo b 0 c) (fun s => c.length - s.2) (0, 0) rfl (fun _ => rfl) ⟨rfl, Nat.zero_le _, rfl⟩ ?_
  rintro ⟨free, i⟩ _ ⟨rfl, hi, he⟩ X hX
  simp only at hi he
  by_cases c1 : (i : Int) < (c.length : Nat)
  · have a1 := at_getD (show i < c.length by omega)
    have hlo := hc _ (getD_mem (show i < c.length by omega))
    have ed : c.drop i = c.getD i 0 :: c.drop (i + 1) := by
      rw [List.drop_eq_getElem_cons (show i < c.length by omega), List.getD_eq_getElem?_getD, List.getElem?_eq_getElem (show i < c.length by omega)]; rfl
    rw [ed, unitGo_cons] at he
    generalize c.getD i 0 = x at *
    have b1 := kin_at hb hlo
    have b2 := kin_at hb hlo.neg
    have x1 := ix_ok hlo
    have x2 := ix_ok hlo.neg
    have x3 := hlo.2
    try simp (disch := first | assumption | omega | (apply At.mk; with_unfolding_all rfl)) only [↓go_eq, ↓ent_eq, Mv, NilC_at, Fld_at, add_mk, Nat.zero_add, Nat.add_zero, Add64, Sub64, Mul64, Quo64, Rem64, Neg64, Cvt64, CvtU8, CvtU16, CvtU32, CvtU64, AddU64, SubU64, MulU64, Shr64, Shr_u8, Shr_u16, Shr_u32, Shr_u64, And1, And31, And32, Eql64, Neq64, Bin_lss, Bin_leq, Bin_gtr, Bin_geq, Bin_bool_eql, Bin_bool_neq, Bin_ptr_nil_eql, Bin_ptr_nil_neq, Not_dec, Un_not, Pick_t, Pick_f, Pick_pos, Pick_neg, Gd_tt, Gd_tf, Gd_ft, Gd_ff, Gd_pos_t, Gd_neg_t, Gd_pos_f, Gd_neg_f, Gd_undef, If_t, If_f, If_pos, If_neg, CallF_eq, Max_two, Min_two, Len_rd, Len_own, Ld_blkE, Idx_rdN, Idx_ownN, Idx_rdE, Idx_ownE, IdxAE, LdA_two, Idx_at0, Ext_atE, Len_at, Int.toNat_natCast, Int.toNat_zero, Int.toNat_one, List.length_map, List.length_append, List.length_cons, List.length_nil, List.length_take, List.length_set, List.length_replicate, Bool.not_true, Bool.not_false, decide_true, decide_false, BEq.rfl, bne_self_eq_false, tf_beq, ft_beq, tf_bne, ft_bne, not_true_eq_false, not_false_eq_true, app]
    refine Jn_fn (σ := Int) (fun s => [ptr kb, Iv s, v, Iv (c.length : Nat), Iv (i : Nat)]) (fun s h' => h = h' ∧ unitGo b s (c.drop (i + 1)) = unitGo b 0 c) ?_ ?_
    · intro J hJ
      try simp (disch := first | assumption | omega | (apply At.mk; with_unfolding_all rfl)) only [↓go_eq, ↓ent_eq, Mv, NilC_at, Fld_at, add_mk, Nat.zero_add, Nat.add_zero, Add64, Sub64, Mul64, Quo64, Rem64, Neg64, Cvt64, CvtU8, CvtU16, CvtU32, CvtU64, AddU64, SubU64, MulU64, Shr64, Shr_u8, Shr_u16, Shr_u32, Shr_u64, And1, And31, And32, Eql64, Neq64, Bin_lss, Bin_leq, Bin_gtr, Bin_geq, Bin_bool_eql, Bin_bool_neq, Bin_ptr_nil_eql, Bin_ptr_nil_neq, Not_dec, Un_not, Pick_t, Pick_f, Pick_pos, Pick_neg, Gd_tt, Gd_tf, Gd_ft, Gd_ff, Gd_pos_t, Gd_neg_t, Gd_pos_f, Gd_neg_f, Gd_undef, If_t, If_f, If_pos, If_neg, CallF_eq, Max_two, Min_two, Len_rd, Len_own, Ld_blkE, Idx_rdN, Idx_ownN, Idx_rdE, Idx_ownE, IdxAE, LdA_two, Idx_at0, Ext_atE, Len_at, Int.toNat_natCast, Int.toNat_zero, Int.toNat_one, List.length_map, List.length_append, List.length_cons, List.length_nil, List.length_take, List.length_set, List.length_replicate, Bool.not_true, Bool.not_false, decide_true, decide_false, BEq.rfl, bne_self_eq_false, tf_beq, ft_beq, tf_bne, ft_bne, not_true_eq_false, not_false_eq_true, app]
      refine lit_index_ok hlo hn ?_
      try simp (disch := first | assumption | omega | (apply At.mk; with_unfolding_all rfl)) only [↓go_eq, ↓ent_eq, Mv, NilC_at, Fld_at, add_mk, Nat.zero_add, Nat.add_zero, Add64, Sub64, Mul64, Quo64, Rem64, Neg64, Cvt64, CvtU8, CvtU16, CvtU32, CvtU64, AddU64, SubU64, MulU64, Shr64, Shr_u8, Shr_u16, Shr_u32, Shr_u64, And1, And31, And32, Eql64, Neq64, Bin_lss, Bin_leq, Bin_gtr, Bin_geq, Bin_bool_eql, Bin_bool_neq, Bin_ptr_nil_eql, Bin_ptr_nil_neq, Not_dec, Un_not, Pick_t, Pick_f, Pick_pos, Pick_neg, Gd_tt, Gd_tf, Gd_ft, Gd_ff, Gd_pos_t, Gd_neg_t, Gd_pos_f, Gd_neg_f, Gd_undef, If_t, If_f, If_pos, If_neg, CallF_eq, Max_two, Min_two, Len_rd, Len_own, Ld_blkE, Idx_rdN, Idx_ownN, Idx_rdE, Idx_ownE, IdxAE, LdA_two, Idx_at0, Ext_atE, Len_at, Int.toNat_natCast, Int.toNat_zero, Int.toNat_one, List.length_map, List.length_append, List.length_cons, List.length_nil, List.length_take, List.length_set, List.length_replicate, Bool.not_true, Bool.not_false, decide_true, decide_false, BEq.rfl, bne_self_eq_false, tf_beq, ft_beq, tf_bne, ft_bne, not_true_eq_false, not_false_eq_true, app]
      cases k1 : kin b x with
      | true =>
        rw [k1, if_pos rfl] at he
        try simp (disch := first | assumption | omega | (apply At.mk; with_unfolding_all rfl)) only [↓go_eq, ↓ent_eq, Mv, NilC_at, Fld_at, add_mk, Nat.zero_add, Nat.add_zero, Add64, Sub64, Mul64, Quo64, Rem64, Neg64, Cvt64, CvtU8, CvtU16, CvtU32, CvtU64, AddU64, SubU64, MulU64, Shr64, Shr_u8, Shr_u16, Shr_u32, Shr_u64, And1, And31, And32, Eql64, Neq64, Bin_lss, Bin_leq, Bin_gtr, Bin_geq, Bin_bool_eql, Bin_bool_neq, Bin_ptr_nil_eql, Bin_ptr_nil_neq, Not_dec, Un_not, Pick_t, Pick_f, Pick_pos, Pick_neg, Gd_tt, Gd_tf, Gd_ft, Gd_ff, Gd_pos_t, Gd_neg_t, Gd_pos_f, Gd_neg_f, Gd_undef, If_t, If_f, If_pos, If_neg, CallF_eq, Max_two, Min_two, Len_rd, Len_own, Ld_blkE, Idx_rdN, Idx_ownN, Idx_rdE, Idx_ownE, IdxAE, LdA_two, Idx_at0, Ext_atE, Len_at, Int.toNat_natCast, Int.toNat_zero, Int.toNat_one, List.length_map, List.length_append, List.length_cons, List.length_nil, List.length_take, List.length_set, List.length_replicate, Bool.not_true, Bool.not_false, decide_true, decide_false, BEq.rfl, bne_self_eq_false, tf_beq, ft_beq, tf_bne, ft_bne, not_true_eq_false, not_false_eq_true, app]
        rw [← he] at hk
        exact hk
      | false =>
        rw [k1, if_neg (by decide)] at he
        try simp (disch := first | assumption | omega | (apply At.mk; with_unfolding_all rfl)) only [↓go_eq, ↓ent_eq, Mv, NilC_at, Fld_at, add_mk, Nat.zero_add, Nat.add_zero, Add64, Sub64, Mul64, Quo64, Rem64, Neg64, Cvt64, CvtU8, CvtU16, CvtU32, CvtU64, AddU64, SubU64, MulU64, Shr64, Shr_u8, Shr_u16, Shr_u32, Shr_u64, And1, And31, And32, Eql64, Neq64, Bin_lss, Bin_leq, Bin_gtr, Bin_geq, Bin_bool_eql, Bin_bool_neq, Bin_ptr_nil_eql, Bin_ptr_nil_neq, Not_dec, Un_not, Pick_t, Pick_f, Pick_pos, Pick_neg, Gd_tt, Gd_tf, Gd_ft, Gd_ff, Gd_pos_t, Gd_neg_t, Gd_pos_f, Gd_neg_f, Gd_undef, If_t, If_f, If_pos, If_neg, CallF_eq, Max_two, Min_two, Len_rd, Len_own, Ld_blkE, Idx_rdN, Idx_ownN, Idx_rdE, Idx_ownE, IdxAE, LdA_two, Idx_at0, Ext_atE, Len_at, Int.toNat_natCast, Int.toNat_zero, Int.toNat_one, List.length_map, List.length_append, List.length_cons, List.length_nil, List.length_take, List.length_set, List.length_replicate, Bool.not_true, Bool.not_false, decide_true, decide_false, BEq.rfl, bne_self_eq_false, tf_beq, ft_beq, tf_bne, ft_bne, not_true_eq_false, not_false_eq_true, app]
        refine lit_index_ok hlo.neg hn ?_
        try simp (disch := first | assumption | omega | (apply At.mk; with_unfolding_all rfl)) only [↓go_eq, ↓ent_eq, Mv, NilC_at, Fld_at, add_mk, Nat.zero_add, Nat.add_zero, Add64, Sub64, Mul64, Quo64, Rem64, Neg64, Cvt64, CvtU8, CvtU16, CvtU32, CvtU64, AddU64, SubU64, MulU64, Shr64, Shr_u8, Shr_u16, Shr_u32, Shr_u64, And1, And31, And32, Eql64, Neq64, Bin_lss, Bin_leq, Bin_gtr, Bin_geq, Bin_bool_eql, Bin_bool_neq, Bin_ptr_nil_eql, Bin_ptr_nil_neq, Not_dec, Un_not, Pick_t, Pick_f, Pick_pos, Pick_neg, Gd_tt, Gd_tf, Gd_ft, Gd_ff, Gd_pos_t, Gd_neg_t, Gd_pos_f, Gd_neg_f, Gd_undef, If_t, If_f, If_pos, If_neg, CallF_eq, Max_two, Min_two, Len_rd, Len_own, Ld_blkE, Idx_rdN, Idx_ownN, Idx_rdE, Idx_ownE, IdxAE, LdA_two, Idx_at0, Ext_atE, Len_at, Int.toNat_natCast, Int.toNat_zero, Int.toNat_one, List.length_map, List.length_append, List.length_cons, List.length_nil, List.length_take, List.length_set, List.length_replicate, Bool.not_true, Bool.not_false, decide_true, decide_false, BEq.rfl, bne_self_eq_false, tf_beq, ft_beq, tf_bne, ft_bne, not_true_eq_false, not_false_eq_true, app]
        cases k2 : kin b (-x) with
        | true =>
          rw [k2, if_pos rfl] at he
          try simp (disch := first | assumption | omega | (apply At.mk; with_unfolding_all rfl)) only [↓go_eq, ↓ent_eq, Mv, NilC_at, Fld_at, add_mk, Nat.zero_add, Nat.add_zero, Add64, Sub64, Mul64, Quo64, Rem64, Neg64, Cvt64, CvtU8, CvtU16, CvtU32, CvtU64, AddU64, SubU64, MulU64, Shr64, Shr_u8, Shr_u16, Shr_u32, Shr_u64, And1, And31, And32, Eql64, Neq64, Bin_lss, Bin_leq, Bin_gtr, Bin_geq, Bin_bool_eql, Bin_bool_neq, Bin_ptr_nil_eql, Bin_ptr_nil_neq, Not_dec, Un_not, Pick_t, Pick_f, Pick_pos, Pick_neg, Gd_tt, Gd_tf, Gd_ft, Gd_ff, Gd_pos_t, Gd_neg_t, Gd_pos_f, Gd_neg_f, Gd_undef, If_t, If_f, If_pos, If_neg, CallF_eq, Max_two, Min_two, Len_rd, Len_own, Ld_blkE, Idx_rdN, Idx_ownN, Idx_rdE, Idx_ownE, IdxAE, LdA_two, Idx_at0, Ext_atE, Len_at, Int.toNat_natCast, Int.toNat_zero, Int.toNat_one, List.length_map, List.length_append, List.length_cons, List.length_nil, List.length_take, List.length_set, List.length_replicate, Bool.not_true, Bool.not_false, decide_true, decide_false, BEq.rfl, bne_self_eq_false, tf_beq, ft_beq, tf_bne, ft_bne, not_true_eq_false, not_false_eq_true, app]
          exact hJ free h ⟨rfl, he⟩
        | false =>
          rw [k2, if_neg (by decide)] at he
          by_cases c2 : free ≠ 0
          · rw [if_pos c2] at he
            try simp (disch := first | assumption | omega | (apply At.mk; with_unfolding_all rfl)) only [↓go_eq, ↓ent_eq, Mv, NilC_at, Fld_at, add_mk, Nat.zero_add, Nat.add_zero, Add64, Sub64, Mul64, Quo64, Rem64, Neg64, Cvt64, CvtU8, CvtU16, CvtU32, CvtU64, AddU64, SubU64, MulU64, Shr64, Shr_u8, Shr_u16, Shr_u32, Shr_u64, And1, And31, And32, Eql64, Neq64, Bin_lss, Bin_leq, Bin_gtr, Bin_geq, Bin_bool_eql, Bin_bool_neq, Bin_ptr_nil_eql, Bin_ptr_nil_neq, Not_dec, Un_not, Pick_t, Pick_f, Pick_pos, Pick_neg, Gd_tt, Gd_tf, Gd_ft, Gd_ff, Gd_pos_t, Gd_neg_t, Gd_pos_f, Gd_neg_f, Gd_undef, If_t, If_f, If_pos, If_neg, CallF_eq, Max_two, Min_two, Len_rd, Len_own, Ld_blkE, Idx_rdN, Idx_ownN, Idx_rdE, Idx_ownE, IdxAE, LdA_two, Idx_at0, Ext_atE, Len_at, Int.toNat_natCast, Int.toNat_zero, Int.toNat_one, List.length_map, List.length_append, List.length_cons, List.length_nil, List.length_take, List.length_set, List.length_replicate, Bool.not_true, Bool.not_false, decide_true, decide_false, BEq.rfl, bne_self_eq_false, tf_beq, ft_beq, tf_bne, ft_bne, not_true_eq_false, not_false_eq_true, app]
            rw [← he] at hk
            exact hk
          · rw [if_neg c2] at he
            try simp (disch := first | assumption | omega | (apply At.mk; with_unfolding_all rfl)) only [↓go_eq, ↓ent_eq, Mv, NilC_at, Fld_at, add_mk, Nat.zero_add, Nat.add_zero, Add64, Sub64, Mul64, Quo64, Rem64, Neg64, Cvt64, CvtU8, CvtU16, CvtU32, CvtU64, AddU64, SubU64, MulU64, Shr64, Shr_u8, Shr_u16, Shr_u32, Shr_u64, And1, And31, And32, Eql64, Neq64, Bin_lss, Bin_leq, Bin_gtr, Bin_geq, Bin_bool_eql, Bin_bool_neq, Bin_ptr_nil_eql, Bin_ptr_nil_neq, Not_dec, Un_not, Pick_t, Pick_f, Pick_pos, Pick_neg, Gd_tt, Gd_tf, Gd_ft, Gd_ff, Gd_pos_t, Gd_neg_t, Gd_pos_f, Gd_neg_f, Gd_undef, If_t, If_f, If_pos, If_neg, CallF_eq, Max_two, Min_two, Len_rd, Len_own, Ld_blkE, Idx_rdN, Idx_ownN, Idx_rdE, Idx_ownE, IdxAE, LdA_two, Idx_at0, Ext_atE, Len_at, Int.toNat_natCast, Int.toNat_zero, Int.toNat_one, List.length_map, List.length_append, List.length_cons, List.length_nil, List.length_take, List.length_set, List.length_replicate, Bool.not_true, Bool.not_false, decide_true, decide_false, BEq.rfl, bne_self_eq_false, tf_beq, ft_beq, tf_bne, ft_bne, not_true_eq_false, not_false_eq_true, app]
            exact hJ x h ⟨rfl, he⟩
    · rintro s _ ⟨rfl, hs⟩
      try simp (disch := first | assumption | omega | (apply At.mk; with_unfolding_all rfl)) only [↓go_eq, ↓ent_eq, Mv, NilC_at, Fld_at, add_mk, Nat.zero_add, Nat.add_zero, Add64, Sub64, Mul64, Quo64, Rem64, Neg64, Cvt64, CvtU8, CvtU16, CvtU32, CvtU64, AddU64, SubU64, MulU64, Shr64, Shr_u8, Shr_u16, Shr_u32, Shr_u64, And1, And31, And32, Eql64, Neq64, Bin_lss, Bin_leq, Bin_gtr, Bin_geq, Bin_bool_eql, Bin_bool_neq, Bin_ptr_nil_eql, Bin_ptr_nil_neq, Not_dec, Un_not, Pick_t, Pick_f, Pick_pos, Pick_neg, Gd_tt, Gd_tf, Gd_ft, Gd_ff, Gd_pos_t, Gd_neg_t, Gd_pos_f, Gd_neg_f, Gd_undef, If_t, If_f, If_pos, If_neg, CallF_eq, Max_two, Min_two, Len_rd, Len_own, Ld_blkE, Idx_rdN, Idx_ownN, Idx_rdE, Idx_ownE, IdxAE, LdA_two, Idx_at0, Ext_atE, Len_at, Int.toNat_natCast, Int.toNat_zero, Int.toNat_one, List.length_map, List.length_append, List.length_cons, List.length_nil, List.length_take, List.length_set, List.length_replicate, Bool.not_true, Bool.not_false, decide_true, decide_false, BEq.rfl, bne_self_eq_false, tf_beq, ft_beq, tf_bne, ft_bne, not_true_eq_false, not_false_eq_true, app]
      try simp only [show (i : Int) + 1 = ((i + 1 : Nat) : Int) from by omega]
      exact hX (s, i + 1) h ⟨rfl, by simp only; omega, hs⟩ (by simp only; omega)
  · rw [List.drop_of_length_le (by omega), unitGo_nil] at he
    rw [← he] at hk
    try simp (disch := first | assumption | omega | (apply At.mk; with_unfolding_all rfl)) only [↓go_eq, ↓ent_eq, Mv, NilC_at, Fld_at, add_mk, Nat.zero_add, Nat.add_zero, Add64, Sub64, Mul64, Quo64, Rem64, Neg64, Cvt64, CvtU8, CvtU16, CvtU32, CvtU64, AddU64, SubU64, MulU64, Shr64, Shr_u8, Shr_u16, Shr_u32, Shr_u64, And1, And31, And32, Eql64, Neq64, Bin_lss, Bin_leq, Bin_gtr, Bin_geq, Bin_bool_eql, Bin_bool_neq, Bin_ptr_nil_eql, Bin_ptr_nil_neq, Not_dec, Un_not, Pick_t, Pick_f, Pick_pos, Pick_neg, Gd_tt, Gd_tf, Gd_ft, Gd_ff, Gd_pos_t, Gd_neg_t, Gd_pos_f, Gd_neg_f, Gd_undef, If_t, If_f, If_pos, If_neg, CallF_eq, Max_two, Min_two, Len_rd, Len_own, Ld_blkE, Idx_rdN, Idx_ownN, Idx_rdE, Idx_ownE, IdxAE, LdA_two, Idx_at0, Ext_atE, Len_at, Int.toNat_natCast, Int.toNat_zero, Int.toNat_one, List.length_map, List.length_append, List.length_cons, List.length_nil, List.length_take, List.length_set, List.length_replicate, Bool.not_true, Bool.not_false, decide_true, decide_false, BEq.rfl, bne_self_eq_false, tf_beq, ft_beq, tf_bne, ft_bne, not_true_eq_false, not_false_eq_true, app]
    rw [← bne_dec]
    exact hk
theorem unit_q {n kb : Nat} {iv : Value} {ib : List Nat} {b : List Bool} {cl : Bool} {c : List Int} {v : Value} (hn : n ≤ 1000000) (hb : b.length = 2 * n) (hc : ClOk n c) (hl : c.length ≤ 1000000) {K : Ret} {h : Heap} (k : Kn h kb iv ib b cl) (hv : Rd h v (c.map Iv))
    (hk : K (.tuple #[Iv (unitGo b 0 c).1, .bool (unitGo b 0 c).2]) h) : QCall Try.prog rup_known_unit.id [ptr kb, v] K h := QCall_mk (rup_known_unit.spec hn hb hc hl k hv ⟨rfl, rfl⟩) hk
theorem RdX.frS {e : Int → Value} {h h' : Heap} {v : Value} {cs : List (List Int)} {ws : List Value} {N : Nat} {H : Heap} (r : RdX e H v cs ws) (f : Fr [] H h) (g : Fr [] H h') : RdX e h' v cs ws := r.fr g
set_option maxHeartbeats 4000000 in
/-- A round: what is older than H stays. -/
theorem rup_Store_round.spec {n sb kb : Nat} {iv w : Value} {ib : List Nat} {b : List Bool} {cs : List (List Int)} {ws : List Value} {k0 : Int → Prop} {H : Heap} (hn : n ≤ 1000000) (hF : FOk n cs) (hnd : ∀ c ∈ cs, c.Nodup) (hl : cs.length ≤ 1000000) (hll : ∀ c ∈ cs, c.length ≤ 1000000) {K : Ret} {h : Heap}
    (hs : Blk H sb [Iv n, w]) (hw : RdL H w cs ws) (hnew : ∀ x ∈ kb :: ib, H.size ≤ x) (f : Fr [] H h) (k : Kn h kb iv ib b false) (ki : Kinv n cs k0 b false)
    (hk : ∀ h' b' cl' (more : Bool), Kn h' kb iv ib b' cl' → Kinv n cs k0 b' cl' → (∀ x, LitOk n x → kin b x = true → kin b' x = true) → Fr [] H h' → (more = true → b.count true < b'.count true) → (more = false → cl' = false → ∀ c ∈ cs, Closed b' c) → ([] ∈ cs → more = false → cl' = true) → K (.bool more) h') : CallH Try.prog rup_Store_round.id #[ptr sb, ptr kb] K h := by
  refine rup_Store_round.ok ?_
  simp only [rup_Store_round.pt]
  have hs0 := hs.fr f (by simp)
  have hw0 := hw.fr f
  have hrd := hw0.rd
  have hwl := hw.len
  try simp (disch := first | assumption | omega | (apply At.mk; with_unfolding_all rfl)) only [hwl, ↓go_eq, ↓ent_eq, Mv, NilC_at, Fld_at, add_mk, Nat.zero_add, Nat.add_zero, Add64, Sub64, Mul64, Quo64, Rem64, Neg64, Cvt64, CvtU8, CvtU16, CvtU32, CvtU64, AddU64, SubU64, MulU64, Shr64, Shr_u8, Shr_u16, Shr_u32, Shr_u64, And1, And31, And32, Eql64, Neq64, Bin_lss, Bin_leq, Bin_gtr, Bin_geq, Bin_bool_eql, Bin_bool_neq, Bin_ptr_nil_eql, Bin_ptr_nil_neq, Not_dec, Un_not, Pick_t, Pick_f, Pick_pos, Pick_neg, Gd_tt, Gd_tf, Gd_ft, Gd_ff, Gd_pos_t, Gd_neg_t, Gd_pos_f, Gd_neg_f, Gd_undef, If_t, If_f, If_pos, If_neg, CallF_eq, Max_two, Min_two, Len_rd, Len_own, Ld_blkE, Idx_rdN, Idx_ownN, Idx_rdE, Idx_ownE, IdxAE, LdA_two, Idx_at0, Ext_atE, Len_at, Int.toNat_natCast, Int.toNat_zero, Int.toNat_one, List.length_map, List.length_append, List.length_cons, List.length_nil, List.length_take, List.length_set, List.length_replicate, Bool.not_true, Bool.not_false, decide_true, decide_false, BEq.rfl, bne_self_eq_false, tf_beq, ft_beq, tf_bne, ft_bne, not_true_eq_false, not_false_eq_true, app]
  refine Lp_fn (σ := Nat × Bool × List Bool × Bool) (fun s => [ptr kb, .bool s.2.1, w, Iv (cs.length : Nat), Iv (s.1 : Nat)])
    (fun s h' => s.1 ≤ cs.length ∧ Kn h' kb iv ib s.2.2.1 s.2.2.2 ∧ Kinv n cs k0 s.2.2.1 s.2.2.2 ∧ (∀ x, LitOk n x → kin b x = true → kin s.2.2.1 x = true) ∧ Fr [] H h' ∧ (b.count true ≤ s.2.2.1.count true ∧ (s.2.1 = true → b.count true < s.2.2.1.count true)) ∧ (s.2.1 = false → s.2.2.2 = false ∧ ∀ c ∈ cs.take s.1, Closed s.2.2.1 c ∧ c ≠ [])) (fun s => cs.length - s.1)
    (0, false, b, false) rfl (fun _ => rfl) ⟨Nat.zero_le _, k, ki, fun _ _ h => h, f, ⟨Nat.le_refl _, fun h => (by cases h)⟩, fun _ => ⟨rfl, by simp⟩⟩ ?_
  clear hrd hs0 hw0 k ki f
  rintro ⟨i, more, b1, cl⟩ h1 ⟨hi, k, ki, hmon, f, hm, hq⟩ X hX
  simp only at hi k ki hmon hm hq
  have hw1 := hw.fr f
  have hrd := hw1.rd
  by_cases c1 : (i : Int) < (cs.length : Nat)
  · have hg : cs[i]? = some cs[i] := List.getElem?_eq_getElem (by omega)
    obtain ⟨x, ax, rx⟩ := hw1.get i _ hg
    have hmem : cs[i] ∈ cs := List.getElem_mem _
    have hc5 := hll _ hmem
    have hcF := hF _ hmem
    have hcn := hnd _ hmem
    have htk := get_take hg
    generalize cs[i] = c at *
    have hu := unit_out (b := b1) hcn (fun x hx => (hcF x hx).1)
    try simp (disch := first | assumption | omega | (apply At.mk; with_unfolding_all rfl)) only [↓go_eq, ↓ent_eq, Mv, NilC_at, Fld_at, add_mk, Nat.zero_add, Nat.add_zero, Add64, Sub64, Mul64, Quo64, Rem64, Neg64, Cvt64, CvtU8, CvtU16, CvtU32, CvtU64, AddU64, SubU64, MulU64, Shr64, Shr_u8, Shr_u16, Shr_u32, Shr_u64, And1, And31, And32, Eql64, Neq64, Bin_lss, Bin_leq, Bin_gtr, Bin_geq, Bin_bool_eql, Bin_bool_neq, Bin_ptr_nil_eql, Bin_ptr_nil_neq, Not_dec, Un_not, Pick_t, Pick_f, Pick_pos, Pick_neg, Gd_tt, Gd_tf, Gd_ft, Gd_ff, Gd_pos_t, Gd_neg_t, Gd_pos_f, Gd_neg_f, Gd_undef, If_t, If_f, If_pos, If_neg, CallF_eq, Max_two, Min_two, Len_rd, Len_own, Ld_blkE, Idx_rdN, Idx_ownN, Idx_rdE, Idx_ownE, IdxAE, LdA_two, Idx_at0, Ext_atE, Len_at, Int.toNat_natCast, Int.toNat_zero, Int.toNat_one, List.length_map, List.length_append, List.length_cons, List.length_nil, List.length_take, List.length_set, List.length_replicate, Bool.not_true, Bool.not_false, decide_true, decide_false, BEq.rfl, bne_self_eq_false, tf_beq, ft_beq, tf_bne, ft_bne, not_true_eq_false, not_false_eq_true, app]
    refine Jn_fn (σ := Bool × List Bool × Bool) (fun s => [ptr kb, .bool s.1, w, Iv (cs.length : Nat), Iv (i : Nat)])
      (fun s h' => Kn h' kb iv ib s.2.1 s.2.2 ∧ Kinv n cs k0 s.2.1 s.2.2 ∧ (∀ x, LitOk n x → kin b x = true → kin s.2.1 x = true) ∧ Fr [] H h' ∧ (b.count true ≤ s.2.1.count true ∧ (s.1 = true → b.count true < s.2.1.count true)) ∧ (s.1 = false → s.2.2 = false ∧ ∀ c ∈ cs.take (i + 1), Closed s.2.1 c ∧ c ≠ [])) ?_ ?_
    · intro J hJ
      try simp (disch := first | assumption | omega | (apply At.mk; with_unfolding_all rfl)) only [↓go_eq, ↓ent_eq, Mv, NilC_at, Fld_at, add_mk, Nat.zero_add, Nat.add_zero, Add64, Sub64, Mul64, Quo64, Rem64, Neg64, Cvt64, CvtU8, CvtU16, CvtU32, CvtU64, AddU64, SubU64, MulU64, Shr64, Shr_u8, Shr_u16, Shr_u32, Shr_u64, And1, And31, And32, Eql64, Neq64, Bin_lss, Bin_leq, Bin_gtr, Bin_geq, Bin_bool_eql, Bin_bool_neq, Bin_ptr_nil_eql, Bin_ptr_nil_neq, Not_dec, Un_not, Pick_t, Pick_f, Pick_pos, Pick_neg, Gd_tt, Gd_tf, Gd_ft, Gd_ff, Gd_pos_t, Gd_neg_t, Gd_pos_f, Gd_neg_f, Gd_undef, If_t, If_f, If_pos, If_neg, CallF_eq, Max_two, Min_two, Len_rd, Len_own, Ld_blkE, Idx_rdN, Idx_ownN, Idx_rdE, Idx_ownE, IdxAE, LdA_two, Idx_at0, Ext_atE, Len_at, Int.toNat_natCast, Int.toNat_zero, Int.toNat_one, List.length_map, List.length_append, List.length_cons, List.length_nil, List.length_take, List.length_set, List.length_replicate, Bool.not_true, Bool.not_false, decide_true, decide_false, BEq.rfl, bne_self_eq_false, tf_beq, ft_beq, tf_bne, ft_bne, not_true_eq_false, not_false_eq_true, app]
      refine unit_q hn ki.len hcF hc5 k rx ?_
      generalize hr : unitGo b1 0 c = r at *
      obtain ⟨y, ok⟩ := r
      try simp (disch := first | assumption | omega | (apply At.mk; with_unfolding_all rfl)) only [↓go_eq, ↓ent_eq, Mv, NilC_at, Fld_at, add_mk, Nat.zero_add, Nat.add_zero, Add64, Sub64, Mul64, Quo64, Rem64, Neg64, Cvt64, CvtU8, CvtU16, CvtU32, CvtU64, AddU64, SubU64, MulU64, Shr64, Shr_u8, Shr_u16, Shr_u32, Shr_u64, And1, And31, And32, Eql64, Neq64, Bin_lss, Bin_leq, Bin_gtr, Bin_geq, Bin_bool_eql, Bin_bool_neq, Bin_ptr_nil_eql, Bin_ptr_nil_neq, Not_dec, Un_not, Pick_t, Pick_f, Pick_pos, Pick_neg, Gd_tt, Gd_tf, Gd_ft, Gd_ff, Gd_pos_t, Gd_neg_t, Gd_pos_f, Gd_neg_f, Gd_undef, If_t, If_f, If_pos, If_neg, CallF_eq, Max_two, Min_two, Len_rd, Len_own, Ld_blkE, Idx_rdN, Idx_ownN, Idx_rdE, Idx_ownE, IdxAE, LdA_two, Idx_at0, Ext_atE, Len_at, Int.toNat_natCast, Int.toNat_zero, Int.toNat_one, List.length_map, List.length_append, List.length_cons, List.length_nil, List.length_take, List.length_set, List.length_replicate, Bool.not_true, Bool.not_false, decide_true, decide_false, BEq.rfl, bne_self_eq_false, tf_beq, ft_beq, tf_bne, ft_bne, not_true_eq_false, not_false_eq_true, app]
      refine Jn_fn (σ := Bool) (fun s => [ptr kb, .bool more, Iv y, w, Iv (cs.length : Nat), Iv (i : Nat)]) (fun s h' => Kn h' kb iv ib b1 s ∧ Kinv n cs k0 b1 s ∧ Fr [] H h' ∧ (s = false → ok = true ∧ cl = false) ∧ (ok = false → s = true)) ?_ ?_
      · intro J3 hJ3
        cases ok with
        | true =>
          try simp (disch := first | assumption | omega | (apply At.mk; with_unfolding_all rfl)) only [↓go_eq, ↓ent_eq, Mv, NilC_at, Fld_at, add_mk, Nat.zero_add, Nat.add_zero, Add64, Sub64, Mul64, Quo64, Rem64, Neg64, Cvt64, CvtU8, CvtU16, CvtU32, CvtU64, AddU64, SubU64, MulU64, Shr64, Shr_u8, Shr_u16, Shr_u32, Shr_u64, And1, And31, And32, Eql64, Neq64, Bin_lss, Bin_leq, Bin_gtr, Bin_geq, Bin_bool_eql, Bin_bool_neq, Bin_ptr_nil_eql, Bin_ptr_nil_neq, Not_dec, Un_not, Pick_t, Pick_f, Pick_pos, Pick_neg, Gd_tt, Gd_tf, Gd_ft, Gd_ff, Gd_pos_t, Gd_neg_t, Gd_pos_f, Gd_neg_f, Gd_undef, If_t, If_f, If_pos, If_neg, CallF_eq, Max_two, Min_two, Len_rd, Len_own, Ld_blkE, Idx_rdN, Idx_ownN, Idx_rdE, Idx_ownE, IdxAE, LdA_two, Idx_at0, Ext_atE, Len_at, Int.toNat_natCast, Int.toNat_zero, Int.toNat_one, List.length_map, List.length_append, List.length_cons, List.length_nil, List.length_take, List.length_set, List.length_replicate, Bool.not_true, Bool.not_false, decide_true, decide_false, BEq.rfl, bne_self_eq_false, tf_beq, ft_beq, tf_bne, ft_bne, not_true_eq_false, not_false_eq_true, app]
          refine hJ3 cl h1 ⟨k, ki, f, fun e => ⟨rfl, e⟩, fun e => (by cases e)⟩
        | false =>
          have hcl : Clash cs k0 := by
            rcases hu with ⟨_, q⟩ | ⟨e, _⟩ | ⟨e, _⟩
            · exact unit_clash hmem fun y hy => ki.sound _ (hcF y hy).neg (q y hy)
            · cases e
            · cases e
          try simp (disch := first | assumption | omega | (apply At.mk; with_unfolding_all rfl)) only [↓go_eq, ↓ent_eq, Mv, NilC_at, Fld_at, add_mk, Nat.zero_add, Nat.add_zero, Add64, Sub64, Mul64, Quo64, Rem64, Neg64, Cvt64, CvtU8, CvtU16, CvtU32, CvtU64, AddU64, SubU64, MulU64, Shr64, Shr_u8, Shr_u16, Shr_u32, Shr_u64, And1, And31, And32, Eql64, Neq64, Bin_lss, Bin_leq, Bin_gtr, Bin_geq, Bin_bool_eql, Bin_bool_neq, Bin_ptr_nil_eql, Bin_ptr_nil_neq, Not_dec, Un_not, Pick_t, Pick_f, Pick_pos, Pick_neg, Gd_tt, Gd_tf, Gd_ft, Gd_ff, Gd_pos_t, Gd_neg_t, Gd_pos_f, Gd_neg_f, Gd_undef, If_t, If_f, If_pos, If_neg, CallF_eq, Max_two, Min_two, Len_rd, Len_own, Ld_blkE, Idx_rdN, Idx_ownN, Idx_rdE, Idx_ownE, IdxAE, LdA_two, Idx_at0, Ext_atE, Len_at, Int.toNat_natCast, Int.toNat_zero, Int.toNat_one, List.length_map, List.length_append, List.length_cons, List.length_nil, List.length_take, List.length_set, List.length_replicate, Bool.not_true, Bool.not_false, decide_true, decide_false, BEq.rfl, bne_self_eq_false, tf_beq, ft_beq, tf_bne, ft_bne, not_true_eq_false, not_false_eq_true, app]
          refine St_blk k.blk (by simp) rfl fun h2 b2 f2 => ?_
          try simp (disch := first | assumption | omega | (apply At.mk; with_unfolding_all rfl)) only [↓go_eq, ↓ent_eq, Mv, NilC_at, Fld_at, add_mk, Nat.zero_add, Nat.add_zero, Add64, Sub64, Mul64, Quo64, Rem64, Neg64, Cvt64, CvtU8, CvtU16, CvtU32, CvtU64, AddU64, SubU64, MulU64, Shr64, Shr_u8, Shr_u16, Shr_u32, Shr_u64, And1, And31, And32, Eql64, Neq64, Bin_lss, Bin_leq, Bin_gtr, Bin_geq, Bin_bool_eql, Bin_bool_neq, Bin_ptr_nil_eql, Bin_ptr_nil_neq, Not_dec, Un_not, Pick_t, Pick_f, Pick_pos, Pick_neg, Gd_tt, Gd_tf, Gd_ft, Gd_ff, Gd_pos_t, Gd_neg_t, Gd_pos_f, Gd_neg_f, Gd_undef, If_t, If_f, If_pos, If_neg, CallF_eq, Max_two, Min_two, Len_rd, Len_own, Ld_blkE, Idx_rdN, Idx_ownN, Idx_rdE, Idx_ownE, IdxAE, LdA_two, Idx_at0, Ext_atE, Len_at, Int.toNat_natCast, Int.toNat_zero, Int.toNat_one, List.length_map, List.length_append, List.length_cons, List.length_nil, List.length_take, List.length_set, List.length_replicate, Bool.not_true, Bool.not_false, decide_true, decide_false, BEq.rfl, bne_self_eq_false, tf_beq, ft_beq, tf_bne, ft_bne, not_true_eq_false, not_false_eq_true, app]
          refine hJ3 true h2 ⟨⟨b2, k.own.fr f2 (fun x hx hm => by simp at hm; subst hm; exact k.ne hx), k.ne⟩, ⟨ki.len, ki.sound, fun _ => hcl, fun e => (by cases e)⟩, f.trans' f2 (fun x hx => by simp at hx; subst hx; exact .inr (hnew _ List.mem_cons_self)), fun e => (by cases e), fun _ => rfl⟩
      · rintro s h2 ⟨k2, ki2, f2, hs2, hs3⟩
        try simp (disch := first | assumption | omega | (apply At.mk; with_unfolding_all rfl)) only [↓go_eq, ↓ent_eq, Mv, NilC_at, Fld_at, add_mk, Nat.zero_add, Nat.add_zero, Add64, Sub64, Mul64, Quo64, Rem64, Neg64, Cvt64, CvtU8, CvtU16, CvtU32, CvtU64, AddU64, SubU64, MulU64, Shr64, Shr_u8, Shr_u16, Shr_u32, Shr_u64, And1, And31, And32, Eql64, Neq64, Bin_lss, Bin_leq, Bin_gtr, Bin_geq, Bin_bool_eql, Bin_bool_neq, Bin_ptr_nil_eql, Bin_ptr_nil_neq, Not_dec, Un_not, Pick_t, Pick_f, Pick_pos, Pick_neg, Gd_tt, Gd_tf, Gd_ft, Gd_ff, Gd_pos_t, Gd_neg_t, Gd_pos_f, Gd_neg_f, Gd_undef, If_t, If_f, If_pos, If_neg, CallF_eq, Max_two, Min_two, Len_rd, Len_own, Ld_blkE, Idx_rdN, Idx_ownN, Idx_rdE, Idx_ownE, IdxAE, LdA_two, Idx_at0, Ext_atE, Len_at, Int.toNat_natCast, Int.toNat_zero, Int.toNat_one, List.length_map, List.length_append, List.length_cons, List.length_nil, List.length_take, List.length_set, List.length_replicate, Bool.not_true, Bool.not_false, decide_true, decide_false, BEq.rfl, bne_self_eq_false, tf_beq, ft_beq, tf_bne, ft_bne, not_true_eq_false, not_false_eq_true, app]
        refine Ld_blk k2.blk rfl ?_
        cases s with
        | true =>
          try simp (disch := first | assumption | omega | (apply At.mk; with_unfolding_all rfl)) only [↓go_eq, ↓ent_eq, Mv, NilC_at, Fld_at, add_mk, Nat.zero_add, Nat.add_zero, Add64, Sub64, Mul64, Quo64, Rem64, Neg64, Cvt64, CvtU8, CvtU16, CvtU32, CvtU64, AddU64, SubU64, MulU64, Shr64, Shr_u8, Shr_u16, Shr_u32, Shr_u64, And1, And31, And32, Eql64, Neq64, Bin_lss, Bin_leq, Bin_gtr, Bin_geq, Bin_bool_eql, Bin_bool_neq, Bin_ptr_nil_eql, Bin_ptr_nil_neq, Not_dec, Un_not, Pick_t, Pick_f, Pick_pos, Pick_neg, Gd_tt, Gd_tf, Gd_ft, Gd_ff, Gd_pos_t, Gd_neg_t, Gd_pos_f, Gd_neg_f, Gd_undef, If_t, If_f, If_pos, If_neg, CallF_eq, Max_two, Min_two, Len_rd, Len_own, Ld_blkE, Idx_rdN, Idx_ownN, Idx_rdE, Idx_ownE, IdxAE, LdA_two, Idx_at0, Ext_atE, Len_at, Int.toNat_natCast, Int.toNat_zero, Int.toNat_one, List.length_map, List.length_append, List.length_cons, List.length_nil, List.length_take, List.length_set, List.length_replicate, Bool.not_true, Bool.not_false, decide_true, decide_false, BEq.rfl, bne_self_eq_false, tf_beq, ft_beq, tf_bne, ft_bne, not_true_eq_false, not_false_eq_true, app]
          exact hk h2 b1 true false k2 ki2 hmon f2 (fun e => by cases e) (fun _ e => by cases e) (fun _ _ => rfl)
        | false =>
          obtain ⟨rfl, rfl⟩ := hs2 rfl
          by_cases c2 : y ≠ 0
          · have hout : y ∈ c ∧ kin b1 y = false ∧ ∀ z ∈ c, z ≠ y → kin b1 (-z) = true := by
              rcases hu with ⟨e, _⟩ | ⟨_, _, q⟩ | ⟨_, e, _⟩
              · cases e
              · exact q
              · exact absurd e c2
            obtain ⟨hy, hky, hys⟩ := hout
            have hyo := hcF y hy
            have hder : Der cs k0 y := .unit hmem hy fun z hz hne => ki2.sound _ (hcF z hz).neg (hys z hz hne)
            have hcnt : b1.count true < (b1.set (ix y).toNat true).count true := by
              have i1 := ix_ok hyo
              have hl2 := ki2.len
              rw [count_set (by omega) hky]; omega
            try simp (disch := first | assumption | omega | (apply At.mk; with_unfolding_all rfl)) only [↓go_eq, ↓ent_eq, Mv, NilC_at, Fld_at, add_mk, Nat.zero_add, Nat.add_zero, Add64, Sub64, Mul64, Quo64, Rem64, Neg64, Cvt64, CvtU8, CvtU16, CvtU32, CvtU64, AddU64, SubU64, MulU64, Shr64, Shr_u8, Shr_u16, Shr_u32, Shr_u64, And1, And31, And32, Eql64, Neq64, Bin_lss, Bin_leq, Bin_gtr, Bin_geq, Bin_bool_eql, Bin_bool_neq, Bin_ptr_nil_eql, Bin_ptr_nil_neq, Not_dec, Un_not, Pick_t, Pick_f, Pick_pos, Pick_neg, Gd_tt, Gd_tf, Gd_ft, Gd_ff, Gd_pos_t, Gd_neg_t, Gd_pos_f, Gd_neg_f, Gd_undef, If_t, If_f, If_pos, If_neg, CallF_eq, Max_two, Min_two, Len_rd, Len_own, Ld_blkE, Idx_rdN, Idx_ownN, Idx_rdE, Idx_ownE, IdxAE, LdA_two, Idx_at0, Ext_atE, Len_at, Int.toNat_natCast, Int.toNat_zero, Int.toNat_one, List.length_map, List.length_append, List.length_cons, List.length_nil, List.length_take, List.length_set, List.length_replicate, Bool.not_true, Bool.not_false, decide_true, decide_false, BEq.rfl, bne_self_eq_false, tf_beq, ft_beq, tf_bne, ft_bne, not_true_eq_false, not_false_eq_true, app]
            refine rup_known_add.spec hn ki2.len hyo k2 fun h3 k3 f3 => ?_
            try simp (disch := first | assumption | omega | (apply At.mk; with_unfolding_all rfl)) only [↓go_eq, ↓ent_eq, Mv, NilC_at, Fld_at, add_mk, Nat.zero_add, Nat.add_zero, Add64, Sub64, Mul64, Quo64, Rem64, Neg64, Cvt64, CvtU8, CvtU16, CvtU32, CvtU64, AddU64, SubU64, MulU64, Shr64, Shr_u8, Shr_u16, Shr_u32, Shr_u64, And1, And31, And32, Eql64, Neq64, Bin_lss, Bin_leq, Bin_gtr, Bin_geq, Bin_bool_eql, Bin_bool_neq, Bin_ptr_nil_eql, Bin_ptr_nil_neq, Not_dec, Un_not, Pick_t, Pick_f, Pick_pos, Pick_neg, Gd_tt, Gd_tf, Gd_ft, Gd_ff, Gd_pos_t, Gd_neg_t, Gd_pos_f, Gd_neg_f, Gd_undef, If_t, If_f, If_pos, If_neg, CallF_eq, Max_two, Min_two, Len_rd, Len_own, Ld_blkE, Idx_rdN, Idx_ownN, Idx_rdE, Idx_ownE, IdxAE, LdA_two, Idx_at0, Ext_atE, Len_at, Int.toNat_natCast, Int.toNat_zero, Int.toNat_one, List.length_map, List.length_append, List.length_cons, List.length_nil, List.length_take, List.length_set, List.length_replicate, Bool.not_true, Bool.not_false, decide_true, decide_false, BEq.rfl, bne_self_eq_false, tf_beq, ft_beq, tf_bne, ft_bne, not_true_eq_false, not_false_eq_true, app]
            refine hJ (true, _, _) h3 ⟨k3, ki2.add hyo hder, fun z hz hb => ?_, f2.trans' f3 (fun x hx => .inr (hnew x hx)), ⟨Nat.le_of_lt (Nat.lt_of_le_of_lt hm.1 hcnt), fun _ => Nat.lt_of_le_of_lt hm.1 hcnt⟩, fun e => (by cases e)⟩
            rw [kin_set ki2.len hyo hz, hmon z hz hb, Bool.or_true]
          · have hy0 : y = 0 := by omega
            subst hy0
            try simp (disch := first | assumption | omega | (apply At.mk; with_unfolding_all rfl)) only [↓go_eq, ↓ent_eq, Mv, NilC_at, Fld_at, add_mk, Nat.zero_add, Nat.add_zero, Add64, Sub64, Mul64, Quo64, Rem64, Neg64, Cvt64, CvtU8, CvtU16, CvtU32, CvtU64, AddU64, SubU64, MulU64, Shr64, Shr_u8, Shr_u16, Shr_u32, Shr_u64, And1, And31, And32, Eql64, Neq64, Bin_lss, Bin_leq, Bin_gtr, Bin_geq, Bin_bool_eql, Bin_bool_neq, Bin_ptr_nil_eql, Bin_ptr_nil_neq, Not_dec, Un_not, Pick_t, Pick_f, Pick_pos, Pick_neg, Gd_tt, Gd_tf, Gd_ft, Gd_ff, Gd_pos_t, Gd_neg_t, Gd_pos_f, Gd_neg_f, Gd_undef, If_t, If_f, If_pos, If_neg, CallF_eq, Max_two, Min_two, Len_rd, Len_own, Ld_blkE, Idx_rdN, Idx_ownN, Idx_rdE, Idx_ownE, IdxAE, LdA_two, Idx_at0, Ext_atE, Len_at, Int.toNat_natCast, Int.toNat_zero, Int.toNat_one, List.length_map, List.length_append, List.length_cons, List.length_nil, List.length_take, List.length_set, List.length_replicate, Bool.not_true, Bool.not_false, decide_true, decide_false, BEq.rfl, bne_self_eq_false, tf_beq, ft_beq, tf_bne, ft_bne, not_true_eq_false, not_false_eq_true, app]
            refine hJ (more, b1, false) h2 ⟨k2, ki2, hmon, f2, hm, fun e => ⟨rfl, fun d hd => ?_⟩⟩
            rw [htk] at hd
            rcases List.mem_append.1 hd with q | q
            · exact (hq e).2 d q
            · simp at q; subst q
              refine ⟨ki2.quiet hcF hu rfl rfl, fun e => ?_⟩
              subst e
              rcases hu with ⟨e, _⟩ | ⟨_, e, _⟩ | ⟨_, _, q⟩
              · cases e
              · exact e rfl
              · rcases q with ⟨y, y1, _⟩ | ⟨y, z, y1, _⟩
                · cases y1
                · cases y1
    · rintro ⟨more', b', cl'⟩ h3 ⟨q1, q2, q3, q4, q5, q6⟩
      try simp (disch := first | assumption | omega | (apply At.mk; with_unfolding_all rfl)) only [↓go_eq, ↓ent_eq, Mv, NilC_at, Fld_at, add_mk, Nat.zero_add, Nat.add_zero, Add64, Sub64, Mul64, Quo64, Rem64, Neg64, Cvt64, CvtU8, CvtU16, CvtU32, CvtU64, AddU64, SubU64, MulU64, Shr64, Shr_u8, Shr_u16, Shr_u32, Shr_u64, And1, And31, And32, Eql64, Neq64, Bin_lss, Bin_leq, Bin_gtr, Bin_geq, Bin_bool_eql, Bin_bool_neq, Bin_ptr_nil_eql, Bin_ptr_nil_neq, Not_dec, Un_not, Pick_t, Pick_f, Pick_pos, Pick_neg, Gd_tt, Gd_tf, Gd_ft, Gd_ff, Gd_pos_t, Gd_neg_t, Gd_pos_f, Gd_neg_f, Gd_undef, If_t, If_f, If_pos, If_neg, CallF_eq, Max_two, Min_two, Len_rd, Len_own, Ld_blkE, Idx_rdN, Idx_ownN, Idx_rdE, Idx_ownE, IdxAE, LdA_two, Idx_at0, Ext_atE, Len_at, Int.toNat_natCast, Int.toNat_zero, Int.toNat_one, List.length_map, List.length_append, List.length_cons, List.length_nil, List.length_take, List.length_set, List.length_replicate, Bool.not_true, Bool.not_false, decide_true, decide_false, BEq.rfl, bne_self_eq_false, tf_beq, ft_beq, tf_bne, ft_bne, not_true_eq_false, not_false_eq_true, app]
      try simp only [show (i : Int) + 1 = ((i + 1 : Nat) : Int) from by omega]
      exact hX (i + 1, more', b', cl') h3 ⟨by simp only; omega, q1, q2, q3, q4, q5, q6⟩ (by simp only; omega)
  · have ei : i = cs.length := by omega
    subst ei
    rw [List.take_length] at hq
    try simp (disch := first | assumption | omega | (apply At.mk; with_unfolding_all rfl)) only [↓go_eq, ↓ent_eq, Mv, NilC_at, Fld_at, add_mk, Nat.zero_add, Nat.add_zero, Add64, Sub64, Mul64, Quo64, Rem64, Neg64, Cvt64, CvtU8, CvtU16, CvtU32, CvtU64, AddU64, SubU64, MulU64, Shr64, Shr_u8, Shr_u16, Shr_u32, Shr_u64, And1, And31, And32, Eql64, Neq64, Bin_lss, Bin_leq, Bin_gtr, Bin_geq, Bin_bool_eql, Bin_bool_neq, Bin_ptr_nil_eql, Bin_ptr_nil_neq, Not_dec, Un_not, Pick_t, Pick_f, Pick_pos, Pick_neg, Gd_tt, Gd_tf, Gd_ft, Gd_ff, Gd_pos_t, Gd_neg_t, Gd_pos_f, Gd_neg_f, Gd_undef, If_t, If_f, If_pos, If_neg, CallF_eq, Max_two, Min_two, Len_rd, Len_own, Ld_blkE, Idx_rdN, Idx_ownN, Idx_rdE, Idx_ownE, IdxAE, LdA_two, Idx_at0, Ext_atE, Len_at, Int.toNat_natCast, Int.toNat_zero, Int.toNat_one, List.length_map, List.length_append, List.length_cons, List.length_nil, List.length_take, List.length_set, List.length_replicate, Bool.not_true, Bool.not_false, decide_true, decide_false, BEq.rfl, bne_self_eq_false, tf_beq, ft_beq, tf_bne, ft_bne, not_true_eq_false, not_false_eq_true, app]
    refine hk h1 b1 cl more k ki hmon f hm.2 (fun e _ c hc => ((hq e).2 c hc).1) fun he e => absurd rfl ((hq e).2 [] he).2
end Go.Proofs.Yteahhifkkjfhoaa

/- What follows from literals, by the store. Conditions: those typed ahead of each theorem. -/
namespace Go.Proofs.Yteahhifkkjfhoaa
open Go.Pt
set_option linter.unusedVariables false
set_option linter.unusedSimpArgs false
theorem lit_At.spec {i : Nat} (hi : i ≤ 10000000) {K : Ret} {h : Heap} (hk : K (Iv (litAt i)) h) : CallH Try.prog lit_At.id #[Iv (i : Nat)] K h := by
  refine lit_At.ok ?_
  simp only [lit_At.pt]
  unfold litAt at hk
  by_cases c : i % 2 = 1
  · rw [if_pos c] at hk
    have c2 : (i : Int) % 2 = 1 := by omega
    try simp (disch := first | assumption | omega | (apply At.mk; with_unfolding_all rfl)) only [↓go_eq, ↓ent_eq, Mv, NilC_at, Fld_at, add_mk, Nat.zero_add, Nat.add_zero, Add64, Sub64, Mul64, Quo64, Rem64, Neg64, Cvt64, CvtU8, CvtU16, CvtU32, CvtU64, AddU64, SubU64, MulU64, Shr64, Shr_u8, Shr_u16, Shr_u32, Shr_u64, And1, And31, And32, Eql64, Neq64, Bin_lss, Bin_leq, Bin_gtr, Bin_geq, Bin_bool_eql, Bin_bool_neq, Bin_ptr_nil_eql, Bin_ptr_nil_neq, Not_dec, Un_not, Pick_t, Pick_f, Pick_pos, Pick_neg, Gd_tt, Gd_tf, Gd_ft, Gd_ff, Gd_pos_t, Gd_neg_t, Gd_pos_f, Gd_neg_f, Gd_undef, If_t, If_f, If_pos, If_neg, CallF_eq, Max_two, Min_two, Len_rd, Len_own, Ld_blkE, Idx_rdN, Idx_ownN, Idx_rdE, Idx_ownE, IdxAE, LdA_two, Idx_at0, Ext_atE, Len_at, Int.toNat_natCast, Int.toNat_zero, Int.toNat_one, List.length_map, List.length_append, List.length_cons, List.length_nil, List.length_take, List.length_set, List.length_replicate, Bool.not_true, Bool.not_false, decide_true, decide_false, BEq.rfl, bne_self_eq_false, tf_beq, ft_beq, tf_bne, ft_bne, not_true_eq_false, not_false_eq_true, app]
    exact hk
  · rw [if_neg c] at hk
    have c2 : ¬ (i : Int) % 2 = 1 := by omega
    try simp (disch := first | assumption | omega | (apply At.mk; with_unfolding_all rfl)) only [↓go_eq, ↓ent_eq, Mv, NilC_at, Fld_at, add_mk, Nat.zero_add, Nat.add_zero, Add64, Sub64, Mul64, Quo64, Rem64, Neg64, Cvt64, CvtU8, CvtU16, CvtU32, CvtU64, AddU64, SubU64, MulU64, Shr64, Shr_u8, Shr_u16, Shr_u32, Shr_u64, And1, And31, And32, Eql64, Neq64, Bin_lss, Bin_leq, Bin_gtr, Bin_geq, Bin_bool_eql, Bin_bool_neq, Bin_ptr_nil_eql, Bin_ptr_nil_neq, Not_dec, Un_not, Pick_t, Pick_f, Pick_pos, Pick_neg, Gd_tt, Gd_tf, Gd_ft, Gd_ff, Gd_pos_t, Gd_neg_t, Gd_pos_f, Gd_neg_f, Gd_undef, If_t, If_f, If_pos, If_neg, CallF_eq, Max_two, Min_two, Len_rd, Len_own, Ld_blkE, Idx_rdN, Idx_ownN, Idx_rdE, Idx_ownE, IdxAE, LdA_two, Idx_at0, Ext_atE, Len_at, Int.toNat_natCast, Int.toNat_zero, Int.toNat_one, List.length_map, List.length_append, List.length_cons, List.length_nil, List.length_take, List.length_set, List.length_replicate, Bool.not_true, Bool.not_false, decide_true, decide_false, BEq.rfl, bne_self_eq_false, tf_beq, ft_beq, tf_bne, ft_bne, not_true_eq_false, not_false_eq_true, app]
    exact hk
theorem lit_at_q {i : Nat} (hi : i ≤ 10000000) {K : Ret} {h : Heap} (hk : K (Iv (litAt i)) h) : QCall Try.prog lit_At.id [Iv (i : Nat)] K h := QCall_mk (lit_At.spec hi ⟨rfl, rfl⟩) hk
/-- The literals that are in, by their indexes. -/
def outL (b : List Bool) (i : Nat) : List Int := ((List.range i).filter fun j => b.getD j false).map litAt
theorem outL_step (b : List Bool) (i : Nat) : outL b (i + 1) = outL b i ++ (if b.getD i false then [litAt i] else []) := by
  unfold outL
  rw [List.range_succ, List.filter_append, List.map_append, List.filter_cons, List.filter_nil]
  split <;> rfl
theorem outL_len (b : List Bool) (i : Nat) : (outL b i).length ≤ i := by
  unfold outL; rw [List.length_map]; exact Nat.le_trans (List.length_filter_le _ _) (by simp)
theorem outL_asc (b : List Bool) (i : Nat) : Asc (outL b i) := by
  unfold Asc outL
  rw [List.pairwise_map]
  have hr : (List.range i).Pairwise (· < ·) := List.pairwise_lt_range
  exact (hr.filter _).imp fun {x y} h => by rw [ix_at, ix_at]; omega
theorem outL_mem {n : Nat} {b : List Bool} {x : Int} : x ∈ outL b (2 * n) ↔ LitOk n x ∧ kin b x = true := by
  unfold outL
  rw [List.mem_map]
  constructor
  · rintro ⟨j, hj, rfl⟩
    obtain ⟨h1, h2⟩ := List.mem_filter.1 hj
    have h1 := List.mem_range.1 h1
    refine ⟨at_ok h1, ?_⟩
    unfold kin; rw [ix_at, Int.toNat_natCast]; exact h2
  · rintro ⟨h1, h2⟩
    have := ix_ok h1
    exact ⟨(ix x).toNat, List.mem_filter.2 ⟨List.mem_range.2 (by omega), h2⟩, at_ix h1⟩
/-- What the store tells. -/
def Flw (cs : List (List Int)) (k0 : Int → Prop) (xs : List Int) (ok : Bool) : Prop := (ok = true ∧ ¬ Clash cs k0 ∧ Asc xs ∧ ∀ x, x ∈ xs ↔ Der cs k0 x) ∨ (ok = false ∧ Clash cs k0 ∧ xs = [])
theorem Der.congr {cs : List (List Int)} {k0 k1 : Int → Prop} {x : Int} (h : ∀ x, k0 x ↔ k1 x) : Der cs k0 x ↔ Der cs k1 x := (Alik.refl cs).der h
set_option maxHeartbeats 4000000 in
theorem rup_Store_Follow.spec {n sb : Nat} {w v : Value} {cs : List (List Int)} {ws : List Value} {l : List Int} (hn : n ≤ 1000000) (hF : FOk n cs) (hnd : ∀ c ∈ cs, c.Nodup) (hl : cs.length ≤ 1000000) (hll : ∀ c ∈ cs, c.length ≤ 1000000) (hL : ∀ x ∈ l, LitOk n x) (hlen : l.length ≤ 1000000) {K : Ret} {h : Heap}
    (hs : Blk h sb [Iv n, w]) (hw : RdL h w cs ws) (hv : Rd h v (l.map Iv))
    (hk : ∀ v' bs xs ok h', Flw cs (· ∈ l) xs ok → Own h' v' (xs.map Iv) bs → (∀ b ∈ bs, h.size ≤ b) → Fr [] h h' → K (.tuple #[v', .bool ok]) h') : CallH Try.prog rup_Store_Follow.id #[ptr sb, v] K h := by
  refine rup_Store_Follow.ok ?_
  simp only [rup_Store_Follow.pt]
  try simp (disch := first | assumption | omega | (apply At.mk; with_unfolding_all rfl)) only [↓go_eq, ↓ent_eq, Mv, NilC_at, Fld_at, add_mk, Nat.zero_add, Nat.add_zero, Add64, Sub64, Mul64, Quo64, Rem64, Neg64, Cvt64, CvtU8, CvtU16, CvtU32, CvtU64, AddU64, SubU64, MulU64, Shr64, Shr_u8, Shr_u16, Shr_u32, Shr_u64, And1, And31, And32, Eql64, Neq64, Bin_lss, Bin_leq, Bin_gtr, Bin_geq, Bin_bool_eql, Bin_bool_neq, Bin_ptr_nil_eql, Bin_ptr_nil_neq, Not_dec, Un_not, Pick_t, Pick_f, Pick_pos, Pick_neg, Gd_tt, Gd_tf, Gd_ft, Gd_ff, Gd_pos_t, Gd_neg_t, Gd_pos_f, Gd_neg_f, Gd_undef, If_t, If_f, If_pos, If_neg, CallF_eq, Max_two, Min_two, Len_rd, Len_own, Ld_blkE, Idx_rdN, Idx_ownN, Idx_rdE, Idx_ownE, IdxAE, LdA_two, Idx_at0, Ext_atE, Len_at, Int.toNat_natCast, Int.toNat_zero, Int.toNat_one, List.length_map, List.length_append, List.length_cons, List.length_nil, List.length_take, List.length_set, List.length_replicate, Bool.not_true, Bool.not_false, decide_true, decide_false, BEq.rfl, bne_self_eq_false, tf_beq, ft_beq, tf_bne, ft_bne, not_true_eq_false, not_false_eq_true, app]
  simp only [show (2 : Int) * (n : Nat) = ((2 * n : Nat) : Int) from by omega]
  refine MkS_one (n := 2 * n) (by omega) (by omega) fun h1 o1 f1 s1 => ?_
  have o1 : Own h1 (.slice (some ⟨h.size, 0, none⟩) (2 * n) (2 * n)) ((List.replicate (2 * n) false).map .bool) [h.size] := by rw [List.map_replicate]; exact o1
  have ivc := o1.rd.isCell
  generalize (Value.slice (some ⟨h.size, 0, none⟩) (2 * n) (2 * n)) = iv at *
  try simp (disch := first | assumption | omega | (apply At.mk; with_unfolding_all rfl)) only [↓go_eq, ↓ent_eq, Mv, NilC_at, Fld_at, add_mk, Nat.zero_add, Nat.add_zero, Add64, Sub64, Mul64, Quo64, Rem64, Neg64, Cvt64, CvtU8, CvtU16, CvtU32, CvtU64, AddU64, SubU64, MulU64, Shr64, Shr_u8, Shr_u16, Shr_u32, Shr_u64, And1, And31, And32, Eql64, Neq64, Bin_lss, Bin_leq, Bin_gtr, Bin_geq, Bin_bool_eql, Bin_bool_neq, Bin_ptr_nil_eql, Bin_ptr_nil_neq, Not_dec, Un_not, Pick_t, Pick_f, Pick_pos, Pick_neg, Gd_tt, Gd_tf, Gd_ft, Gd_ff, Gd_pos_t, Gd_neg_t, Gd_pos_f, Gd_neg_f, Gd_undef, If_t, If_f, If_pos, If_neg, CallF_eq, Max_two, Min_two, Len_rd, Len_own, Ld_blkE, Idx_rdN, Idx_ownN, Idx_rdE, Idx_ownE, IdxAE, LdA_two, Idx_at0, Ext_atE, Len_at, Int.toNat_natCast, Int.toNat_zero, Int.toNat_one, List.length_map, List.length_append, List.length_cons, List.length_nil, List.length_take, List.length_set, List.length_replicate, Bool.not_true, Bool.not_false, decide_true, decide_false, BEq.rfl, bne_self_eq_false, tf_beq, ft_beq, tf_bne, ft_bne, not_true_eq_false, not_false_eq_true, app]
  rw [Bld_fst ivc]
  try simp (disch := first | assumption | omega | (apply At.mk; with_unfolding_all rfl)) only [↓go_eq, ↓ent_eq, Mv, NilC_at, Fld_at, add_mk, Nat.zero_add, Nat.add_zero, Add64, Sub64, Mul64, Quo64, Rem64, Neg64, Cvt64, CvtU8, CvtU16, CvtU32, CvtU64, AddU64, SubU64, MulU64, Shr64, Shr_u8, Shr_u16, Shr_u32, Shr_u64, And1, And31, And32, Eql64, Neq64, Bin_lss, Bin_leq, Bin_gtr, Bin_geq, Bin_bool_eql, Bin_bool_neq, Bin_ptr_nil_eql, Bin_ptr_nil_neq, Not_dec, Un_not, Pick_t, Pick_f, Pick_pos, Pick_neg, Gd_tt, Gd_tf, Gd_ft, Gd_ff, Gd_pos_t, Gd_neg_t, Gd_pos_f, Gd_neg_f, Gd_undef, If_t, If_f, If_pos, If_neg, CallF_eq, Max_two, Min_two, Len_rd, Len_own, Ld_blkE, Idx_rdN, Idx_ownN, Idx_rdE, Idx_ownE, IdxAE, LdA_two, Idx_at0, Ext_atE, Len_at, Int.toNat_natCast, Int.toNat_zero, Int.toNat_one, List.length_map, List.length_append, List.length_cons, List.length_nil, List.length_take, List.length_set, List.length_replicate, Bool.not_true, Bool.not_false, decide_true, decide_false, BEq.rfl, bne_self_eq_false, tf_beq, ft_beq, tf_bne, ft_bne, not_true_eq_false, not_false_eq_true, app]
  refine New_blk fun h2 b2 f2 s2 => ?_
  have b2 : Blk h2 h1.size [iv, .bool false] := b2
  have o2 := o1.fr f2 (by simp)
  have f02 := f1.trans f2
  obtain ⟨kb, hkb⟩ : ∃ kb, kb = h1.size := ⟨_, rfl⟩
  rw [← hkb] at b2 ⊢
  have k2 : Kn h2 kb iv [h.size] (List.replicate (2 * n) false) false := ⟨b2, o2, by simp; omega⟩
  have hnew : ∀ x ∈ kb :: [h.size], h.size ≤ x := by simp; omega
  generalize ([h.size] : List Nat) = ib at *
  have hv2 := hv.fr f02
  clear o1 o2 b2 f1 f2 s1 s2
  try simp (disch := first | assumption | omega | (apply At.mk; with_unfolding_all rfl)) only [↓go_eq, ↓ent_eq, Mv, NilC_at, Fld_at, add_mk, Nat.zero_add, Nat.add_zero, Add64, Sub64, Mul64, Quo64, Rem64, Neg64, Cvt64, CvtU8, CvtU16, CvtU32, CvtU64, AddU64, SubU64, MulU64, Shr64, Shr_u8, Shr_u16, Shr_u32, Shr_u64, And1, And31, And32, Eql64, Neq64, Bin_lss, Bin_leq, Bin_gtr, Bin_geq, Bin_bool_eql, Bin_bool_neq, Bin_ptr_nil_eql, Bin_ptr_nil_neq, Not_dec, Un_not, Pick_t, Pick_f, Pick_pos, Pick_neg, Gd_tt, Gd_tf, Gd_ft, Gd_ff, Gd_pos_t, Gd_neg_t, Gd_pos_f, Gd_neg_f, Gd_undef, If_t, If_f, If_pos, If_neg, CallF_eq, Max_two, Min_two, Len_rd, Len_own, Ld_blkE, Idx_rdN, Idx_ownN, Idx_rdE, Idx_ownE, IdxAE, LdA_two, Idx_at0, Ext_atE, Len_at, Int.toNat_natCast, Int.toNat_zero, Int.toNat_one, List.length_map, List.length_append, List.length_cons, List.length_nil, List.length_take, List.length_set, List.length_replicate, Bool.not_true, Bool.not_false, decide_true, decide_false, BEq.rfl, bne_self_eq_false, tf_beq, ft_beq, tf_bne, ft_bne, not_true_eq_false, not_false_eq_true, app]
  refine Lp_fn (σ := Nat × List Bool × Bool) (fun s => [ptr sb, ptr kb, v, Iv (l.length : Nat), Iv (s.1 : Nat)]) (fun s h' => s.1 ≤ l.length ∧ Kn h' kb iv ib s.2.1 s.2.2 ∧ Kinv n cs (· ∈ l) s.2.1 s.2.2 ∧ (∀ x ∈ l.take s.1, kin s.2.1 x = true) ∧ Fr [] h h') (fun s => l.length - s.1)
    (0, List.replicate (2 * n) false, false) rfl (fun _ => rfl) ⟨Nat.zero_le _, k2, Kinv.start, by simp, f02⟩ ?_
  clear k2 f02 hv2
  rintro ⟨i, b, cl⟩ h3 ⟨hi, k3, ki3, ht3, f3⟩ X hX
  simp only at hi k3 ki3 ht3
  have hv3 := hv.fr f3
  by_cases c1 : (i : Int) < (l.length : Nat)
  · have a1 := at_getD (show i < l.length by omega)
    have hm := getD_mem (show i < l.length by omega)
    have hok := hL _ hm
    have htk := getD_take (show i < l.length by omega)
    generalize l.getD i 0 = x at *
    try simp (disch := first | assumption | omega | (apply At.mk; with_unfolding_all rfl)) only [↓go_eq, ↓ent_eq, Mv, NilC_at, Fld_at, add_mk, Nat.zero_add, Nat.add_zero, Add64, Sub64, Mul64, Quo64, Rem64, Neg64, Cvt64, CvtU8, CvtU16, CvtU32, CvtU64, AddU64, SubU64, MulU64, Shr64, Shr_u8, Shr_u16, Shr_u32, Shr_u64, And1, And31, And32, Eql64, Neq64, Bin_lss, Bin_leq, Bin_gtr, Bin_geq, Bin_bool_eql, Bin_bool_neq, Bin_ptr_nil_eql, Bin_ptr_nil_neq, Not_dec, Un_not, Pick_t, Pick_f, Pick_pos, Pick_neg, Gd_tt, Gd_tf, Gd_ft, Gd_ff, Gd_pos_t, Gd_neg_t, Gd_pos_f, Gd_neg_f, Gd_undef, If_t, If_f, If_pos, If_neg, CallF_eq, Max_two, Min_two, Len_rd, Len_own, Ld_blkE, Idx_rdN, Idx_ownN, Idx_rdE, Idx_ownE, IdxAE, LdA_two, Idx_at0, Ext_atE, Len_at, Int.toNat_natCast, Int.toNat_zero, Int.toNat_one, List.length_map, List.length_append, List.length_cons, List.length_nil, List.length_take, List.length_set, List.length_replicate, Bool.not_true, Bool.not_false, decide_true, decide_false, BEq.rfl, bne_self_eq_false, tf_beq, ft_beq, tf_bne, ft_bne, not_true_eq_false, not_false_eq_true, app]
    refine rup_known_add.spec hn ki3.len hok k3 fun h4 k4 f4 => ?_
    try simp (disch := first | assumption | omega | (apply At.mk; with_unfolding_all rfl)) only [↓go_eq, ↓ent_eq, Mv, NilC_at, Fld_at, add_mk, Nat.zero_add, Nat.add_zero, Add64, Sub64, Mul64, Quo64, Rem64, Neg64, Cvt64, CvtU8, CvtU16, CvtU32, CvtU64, AddU64, SubU64, MulU64, Shr64, Shr_u8, Shr_u16, Shr_u32, Shr_u64, And1, And31, And32, Eql64, Neq64, Bin_lss, Bin_leq, Bin_gtr, Bin_geq, Bin_bool_eql, Bin_bool_neq, Bin_ptr_nil_eql, Bin_ptr_nil_neq, Not_dec, Un_not, Pick_t, Pick_f, Pick_pos, Pick_neg, Gd_tt, Gd_tf, Gd_ft, Gd_ff, Gd_pos_t, Gd_neg_t, Gd_pos_f, Gd_neg_f, Gd_undef, If_t, If_f, If_pos, If_neg, CallF_eq, Max_two, Min_two, Len_rd, Len_own, Ld_blkE, Idx_rdN, Idx_ownN, Idx_rdE, Idx_ownE, IdxAE, LdA_two, Idx_at0, Ext_atE, Len_at, Int.toNat_natCast, Int.toNat_zero, Int.toNat_one, List.length_map, List.length_append, List.length_cons, List.length_nil, List.length_take, List.length_set, List.length_replicate, Bool.not_true, Bool.not_false, decide_true, decide_false, BEq.rfl, bne_self_eq_false, tf_beq, ft_beq, tf_bne, ft_bne, not_true_eq_false, not_false_eq_true, app]
    try simp only [show (i : Int) + 1 = ((i + 1 : Nat) : Int) from by omega]
    refine hX (i + 1, _, _) h4 ⟨by simp only; omega, k4, ki3.add hok (.base hm), fun y hy => ?_, f3.trans' f4 fun b hb => .inr (hnew b hb)⟩ (by simp only; omega)
    simp only at hy ⊢
    rw [htk] at hy
    have hyo : LitOk n y := by
      rcases List.mem_append.1 hy with q | q
      · exact hL y (List.mem_of_mem_take q)
      · simp at q; rw [q]; exact hok
    rw [kin_set ki3.len hok hyo]
    rcases List.mem_append.1 hy with q | q
    · rw [ht3 y q, Bool.or_true]
    · simp at q; rw [q, decide_eq_true rfl, Bool.true_or]
  clear hX hv3
  have ei : i = l.length := by omega
  subst ei
  rw [List.take_length] at ht3
  try simp (disch := first | assumption | omega | (apply At.mk; with_unfolding_all rfl)) only [↓go_eq, ↓ent_eq, Mv, NilC_at, Fld_at, add_mk, Nat.zero_add, Nat.add_zero, Add64, Sub64, Mul64, Quo64, Rem64, Neg64, Cvt64, CvtU8, CvtU16, CvtU32, CvtU64, AddU64, SubU64, MulU64, Shr64, Shr_u8, Shr_u16, Shr_u32, Shr_u64, And1, And31, And32, Eql64, Neq64, Bin_lss, Bin_leq, Bin_gtr, Bin_geq, Bin_bool_eql, Bin_bool_neq, Bin_ptr_nil_eql, Bin_ptr_nil_neq, Not_dec, Un_not, Pick_t, Pick_f, Pick_pos, Pick_neg, Gd_tt, Gd_tf, Gd_ft, Gd_ff, Gd_pos_t, Gd_neg_t, Gd_pos_f, Gd_neg_f, Gd_undef, If_t, If_f, If_pos, If_neg, CallF_eq, Max_two, Min_two, Len_rd, Len_own, Ld_blkE, Idx_rdN, Idx_ownN, Idx_rdE, Idx_ownE, IdxAE, LdA_two, Idx_at0, Ext_atE, Len_at, Int.toNat_natCast, Int.toNat_zero, Int.toNat_one, List.length_map, List.length_append, List.length_cons, List.length_nil, List.length_take, List.length_set, List.length_replicate, Bool.not_true, Bool.not_false, decide_true, decide_false, BEq.rfl, bne_self_eq_false, tf_beq, ft_beq, tf_bne, ft_bne, not_true_eq_false, not_false_eq_true, app]
  refine Lp_fn (σ := List Bool × Bool) (fun s => [ptr sb, ptr kb]) (fun s h' => Kn h' kb iv ib s.1 s.2 ∧ Kinv n cs (· ∈ l) s.1 s.2 ∧ (∀ x ∈ l, kin s.1 x = true) ∧ Fr [] h h') (fun s => 2 * n - s.1.count true)
    (b, cl) rfl (fun _ => rfl) ⟨k3, ki3, ht3, f3⟩ ?_
  clear k3 ki3 ht3 f3 b cl c1 hi
  rintro ⟨b, cl⟩ h4 ⟨k4, ki4, ht4, f4⟩ X hX
  simp only at k4 ki4 ht4
  try simp (disch := first | assumption | omega | (apply At.mk; with_unfolding_all rfl)) only [↓go_eq, ↓ent_eq, Mv, NilC_at, Fld_at, add_mk, Nat.zero_add, Nat.add_zero, Add64, Sub64, Mul64, Quo64, Rem64, Neg64, Cvt64, CvtU8, CvtU16, CvtU32, CvtU64, AddU64, SubU64, MulU64, Shr64, Shr_u8, Shr_u16, Shr_u32, Shr_u64, And1, And31, And32, Eql64, Neq64, Bin_lss, Bin_leq, Bin_gtr, Bin_geq, Bin_bool_eql, Bin_bool_neq, Bin_ptr_nil_eql, Bin_ptr_nil_neq, Not_dec, Un_not, Pick_t, Pick_f, Pick_pos, Pick_neg, Gd_tt, Gd_tf, Gd_ft, Gd_ff, Gd_pos_t, Gd_neg_t, Gd_pos_f, Gd_neg_f, Gd_undef, If_t, If_f, If_pos, If_neg, CallF_eq, Max_two, Min_two, Len_rd, Len_own, Ld_blkE, Idx_rdN, Idx_ownN, Idx_rdE, Idx_ownE, IdxAE, LdA_two, Idx_at0, Ext_atE, Len_at, Int.toNat_natCast, Int.toNat_zero, Int.toNat_one, List.length_map, List.length_append, List.length_cons, List.length_nil, List.length_take, List.length_set, List.length_replicate, Bool.not_true, Bool.not_false, decide_true, decide_false, BEq.rfl, bne_self_eq_false, tf_beq, ft_beq, tf_bne, ft_bne, not_true_eq_false, not_false_eq_true, app]
  refine Ld_blk k4.blk rfl ?_
  cases cl with
  | true =>
    try simp (disch := first | assumption | omega | (apply At.mk; with_unfolding_all rfl)) only [↓go_eq, ↓ent_eq, Mv, NilC_at, Fld_at, add_mk, Nat.zero_add, Nat.add_zero, Add64, Sub64, Mul64, Quo64, Rem64, Neg64, Cvt64, CvtU8, CvtU16, CvtU32, CvtU64, AddU64, SubU64, MulU64, Shr64, Shr_u8, Shr_u16, Shr_u32, Shr_u64, And1, And31, And32, Eql64, Neq64, Bin_lss, Bin_leq, Bin_gtr, Bin_geq, Bin_bool_eql, Bin_bool_neq, Bin_ptr_nil_eql, Bin_ptr_nil_neq, Not_dec, Un_not, Pick_t, Pick_f, Pick_pos, Pick_neg, Gd_tt, Gd_tf, Gd_ft, Gd_ff, Gd_pos_t, Gd_neg_t, Gd_pos_f, Gd_neg_f, Gd_undef, If_t, If_f, If_pos, If_neg, CallF_eq, Max_two, Min_two, Len_rd, Len_own, Ld_blkE, Idx_rdN, Idx_ownN, Idx_rdE, Idx_ownE, IdxAE, LdA_two, Idx_at0, Ext_atE, Len_at, Int.toNat_natCast, Int.toNat_zero, Int.toNat_one, List.length_map, List.length_append, List.length_cons, List.length_nil, List.length_take, List.length_set, List.length_replicate, Bool.not_true, Bool.not_false, decide_true, decide_false, BEq.rfl, bne_self_eq_false, tf_beq, ft_beq, tf_bne, ft_bne, not_true_eq_false, not_false_eq_true, app]
    refine Ld_blk k4.blk rfl ?_
    try simp (disch := first | assumption | omega | (apply At.mk; with_unfolding_all rfl)) only [↓go_eq, ↓ent_eq, Mv, NilC_at, Fld_at, add_mk, Nat.zero_add, Nat.add_zero, Add64, Sub64, Mul64, Quo64, Rem64, Neg64, Cvt64, CvtU8, CvtU16, CvtU32, CvtU64, AddU64, SubU64, MulU64, Shr64, Shr_u8, Shr_u16, Shr_u32, Shr_u64, And1, And31, And32, Eql64, Neq64, Bin_lss, Bin_leq, Bin_gtr, Bin_geq, Bin_bool_eql, Bin_bool_neq, Bin_ptr_nil_eql, Bin_ptr_nil_neq, Not_dec, Un_not, Pick_t, Pick_f, Pick_pos, Pick_neg, Gd_tt, Gd_tf, Gd_ft, Gd_ff, Gd_pos_t, Gd_neg_t, Gd_pos_f, Gd_neg_f, Gd_undef, If_t, If_f, If_pos, If_neg, CallF_eq, Max_two, Min_two, Len_rd, Len_own, Ld_blkE, Idx_rdN, Idx_ownN, Idx_rdE, Idx_ownE, IdxAE, LdA_two, Idx_at0, Ext_atE, Len_at, Int.toNat_natCast, Int.toNat_zero, Int.toNat_one, List.length_map, List.length_append, List.length_cons, List.length_nil, List.length_take, List.length_set, List.length_replicate, Bool.not_true, Bool.not_false, decide_true, decide_false, BEq.rfl, bne_self_eq_false, tf_beq, ft_beq, tf_bne, ft_bne, not_true_eq_false, not_false_eq_true, app]
    exact hk _ [] [] false h4 (.inr ⟨rfl, ki4.clash rfl, rfl⟩) (Own.nil _) (by simp) f4
  | false =>
    try simp (disch := first | assumption | omega | (apply At.mk; with_unfolding_all rfl)) only [↓go_eq, ↓ent_eq, Mv, NilC_at, Fld_at, add_mk, Nat.zero_add, Nat.add_zero, Add64, Sub64, Mul64, Quo64, Rem64, Neg64, Cvt64, CvtU8, CvtU16, CvtU32, CvtU64, AddU64, SubU64, MulU64, Shr64, Shr_u8, Shr_u16, Shr_u32, Shr_u64, And1, And31, And32, Eql64, Neq64, Bin_lss, Bin_leq, Bin_gtr, Bin_geq, Bin_bool_eql, Bin_bool_neq, Bin_ptr_nil_eql, Bin_ptr_nil_neq, Not_dec, Un_not, Pick_t, Pick_f, Pick_pos, Pick_neg, Gd_tt, Gd_tf, Gd_ft, Gd_ff, Gd_pos_t, Gd_neg_t, Gd_pos_f, Gd_neg_f, Gd_undef, If_t, If_f, If_pos, If_neg, CallF_eq, Max_two, Min_two, Len_rd, Len_own, Ld_blkE, Idx_rdN, Idx_ownN, Idx_rdE, Idx_ownE, IdxAE, LdA_two, Idx_at0, Ext_atE, Len_at, Int.toNat_natCast, Int.toNat_zero, Int.toNat_one, List.length_map, List.length_append, List.length_cons, List.length_nil, List.length_take, List.length_set, List.length_replicate, Bool.not_true, Bool.not_false, decide_true, decide_false, BEq.rfl, bne_self_eq_false, tf_beq, ft_beq, tf_bne, ft_bne, not_true_eq_false, not_false_eq_true, app]
    refine rup_Store_round.spec hn hF hnd hl hll hs hw hnew f4 k4 ki4 fun h5 b' cl' more k5 ki5 hmon f5 hm1 hm2 hm3 => ?_
    have hcl : b.count true ≤ 2 * n := by rw [← ki4.len]; exact List.count_le_length
    have hcl' : b'.count true ≤ 2 * n := by rw [← ki5.len]; exact List.count_le_length
    cases more with
    | true =>
      try simp (disch := first | assumption | omega | (apply At.mk; with_unfolding_all rfl)) only [↓go_eq, ↓ent_eq, Mv, NilC_at, Fld_at, add_mk, Nat.zero_add, Nat.add_zero, Add64, Sub64, Mul64, Quo64, Rem64, Neg64, Cvt64, CvtU8, CvtU16, CvtU32, CvtU64, AddU64, SubU64, MulU64, Shr64, Shr_u8, Shr_u16, Shr_u32, Shr_u64, And1, And31, And32, Eql64, Neq64, Bin_lss, Bin_leq, Bin_gtr, Bin_geq, Bin_bool_eql, Bin_bool_neq, Bin_ptr_nil_eql, Bin_ptr_nil_neq, Not_dec, Un_not, Pick_t, Pick_f, Pick_pos, Pick_neg, Gd_tt, Gd_tf, Gd_ft, Gd_ff, Gd_pos_t, Gd_neg_t, Gd_pos_f, Gd_neg_f, Gd_undef, If_t, If_f, If_pos, If_neg, CallF_eq, Max_two, Min_two, Len_rd, Len_own, Ld_blkE, Idx_rdN, Idx_ownN, Idx_rdE, Idx_ownE, IdxAE, LdA_two, Idx_at0, Ext_atE, Len_at, Int.toNat_natCast, Int.toNat_zero, Int.toNat_one, List.length_map, List.length_append, List.length_cons, List.length_nil, List.length_take, List.length_set, List.length_replicate, Bool.not_true, Bool.not_false, decide_true, decide_false, BEq.rfl, bne_self_eq_false, tf_beq, ft_beq, tf_bne, ft_bne, not_true_eq_false, not_false_eq_true, app]
      have := hm1 rfl
      exact hX (b', cl') h5 ⟨k5, ki5, fun x hx => hmon x (hL x hx) (ht4 x hx), f5⟩ (by simp only; omega)
    | false =>
      clear hX
      try simp (disch := first | assumption | omega | (apply At.mk; with_unfolding_all rfl)) only [↓go_eq, ↓ent_eq, Mv, NilC_at, Fld_at, add_mk, Nat.zero_add, Nat.add_zero, Add64, Sub64, Mul64, Quo64, Rem64, Neg64, Cvt64, CvtU8, CvtU16, CvtU32, CvtU64, AddU64, SubU64, MulU64, Shr64, Shr_u8, Shr_u16, Shr_u32, Shr_u64, And1, And31, And32, Eql64, Neq64, Bin_lss, Bin_leq, Bin_gtr, Bin_geq, Bin_bool_eql, Bin_bool_neq, Bin_ptr_nil_eql, Bin_ptr_nil_neq, Not_dec, Un_not, Pick_t, Pick_f, Pick_pos, Pick_neg, Gd_tt, Gd_tf, Gd_ft, Gd_ff, Gd_pos_t, Gd_neg_t, Gd_pos_f, Gd_neg_f, Gd_undef, If_t, If_f, If_pos, If_neg, CallF_eq, Max_two, Min_two, Len_rd, Len_own, Ld_blkE, Idx_rdN, Idx_ownN, Idx_rdE, Idx_ownE, IdxAE, LdA_two, Idx_at0, Ext_atE, Len_at, Int.toNat_natCast, Int.toNat_zero, Int.toNat_one, List.length_map, List.length_append, List.length_cons, List.length_nil, List.length_take, List.length_set, List.length_replicate, Bool.not_true, Bool.not_false, decide_true, decide_false, BEq.rfl, bne_self_eq_false, tf_beq, ft_beq, tf_bne, ft_bne, not_true_eq_false, not_false_eq_true, app]
      refine Ld_blk k5.blk rfl ?_
      cases cl' with
      | true =>
        try simp (disch := first | assumption | omega | (apply At.mk; with_unfolding_all rfl)) only [↓go_eq, ↓ent_eq, Mv, NilC_at, Fld_at, add_mk, Nat.zero_add, Nat.add_zero, Add64, Sub64, Mul64, Quo64, Rem64, Neg64, Cvt64, CvtU8, CvtU16, CvtU32, CvtU64, AddU64, SubU64, MulU64, Shr64, Shr_u8, Shr_u16, Shr_u32, Shr_u64, And1, And31, And32, Eql64, Neq64, Bin_lss, Bin_leq, Bin_gtr, Bin_geq, Bin_bool_eql, Bin_bool_neq, Bin_ptr_nil_eql, Bin_ptr_nil_neq, Not_dec, Un_not, Pick_t, Pick_f, Pick_pos, Pick_neg, Gd_tt, Gd_tf, Gd_ft, Gd_ff, Gd_pos_t, Gd_neg_t, Gd_pos_f, Gd_neg_f, Gd_undef, If_t, If_f, If_pos, If_neg, CallF_eq, Max_two, Min_two, Len_rd, Len_own, Ld_blkE, Idx_rdN, Idx_ownN, Idx_rdE, Idx_ownE, IdxAE, LdA_two, Idx_at0, Ext_atE, Len_at, Int.toNat_natCast, Int.toNat_zero, Int.toNat_one, List.length_map, List.length_append, List.length_cons, List.length_nil, List.length_take, List.length_set, List.length_replicate, Bool.not_true, Bool.not_false, decide_true, decide_false, BEq.rfl, bne_self_eq_false, tf_beq, ft_beq, tf_bne, ft_bne, not_true_eq_false, not_false_eq_true, app]
        exact hk _ [] [] false h5 (.inr ⟨rfl, ki5.clash rfl, rfl⟩) (Own.nil _) (by simp) f5
      | false =>
        obtain ⟨q1, q2⟩ := ki5.closed hF hL (fun x hx => hmon x (hL x hx) (ht4 x hx)) (hm2 rfl rfl)
        have q3 := q2 fun he => by have := hm3 he rfl; cases this
        try simp (disch := first | assumption | omega | (apply At.mk; with_unfolding_all rfl)) only [↓go_eq, ↓ent_eq, Mv, NilC_at, Fld_at, add_mk, Nat.zero_add, Nat.add_zero, Add64, Sub64, Mul64, Quo64, Rem64, Neg64, Cvt64, CvtU8, CvtU16, CvtU32, CvtU64, AddU64, SubU64, MulU64, Shr64, Shr_u8, Shr_u16, Shr_u32, Shr_u64, And1, And31, And32, Eql64, Neq64, Bin_lss, Bin_leq, Bin_gtr, Bin_geq, Bin_bool_eql, Bin_bool_neq, Bin_ptr_nil_eql, Bin_ptr_nil_neq, Not_dec, Un_not, Pick_t, Pick_f, Pick_pos, Pick_neg, Gd_tt, Gd_tf, Gd_ft, Gd_ff, Gd_pos_t, Gd_neg_t, Gd_pos_f, Gd_neg_f, Gd_undef, If_t, If_f, If_pos, If_neg, CallF_eq, Max_two, Min_two, Len_rd, Len_own, Ld_blkE, Idx_rdN, Idx_ownN, Idx_rdE, Idx_ownE, IdxAE, LdA_two, Idx_at0, Ext_atE, Len_at, Int.toNat_natCast, Int.toNat_zero, Int.toNat_one, List.length_map, List.length_append, List.length_cons, List.length_nil, List.length_take, List.length_set, List.length_replicate, Bool.not_true, Bool.not_false, decide_true, decide_false, BEq.rfl, bne_self_eq_false, tf_beq, ft_beq, tf_bne, ft_bne, not_true_eq_false, not_false_eq_true, app]
        refine Ld_blk k5.blk rfl ?_
        have r5 := k5.own.rd
        have hbl := ki5.len
        try simp (disch := first | assumption | omega | (apply At.mk; with_unfolding_all rfl)) only [hbl, ↓go_eq, ↓ent_eq, Mv, NilC_at, Fld_at, add_mk, Nat.zero_add, Nat.add_zero, Add64, Sub64, Mul64, Quo64, Rem64, Neg64, Cvt64, CvtU8, CvtU16, CvtU32, CvtU64, AddU64, SubU64, MulU64, Shr64, Shr_u8, Shr_u16, Shr_u32, Shr_u64, And1, And31, And32, Eql64, Neq64, Bin_lss, Bin_leq, Bin_gtr, Bin_geq, Bin_bool_eql, Bin_bool_neq, Bin_ptr_nil_eql, Bin_ptr_nil_neq, Not_dec, Un_not, Pick_t, Pick_f, Pick_pos, Pick_neg, Gd_tt, Gd_tf, Gd_ft, Gd_ff, Gd_pos_t, Gd_neg_t, Gd_pos_f, Gd_neg_f, Gd_undef, If_t, If_f, If_pos, If_neg, CallF_eq, Max_two, Min_two, Len_rd, Len_own, Ld_blkE, Idx_rdN, Idx_ownN, Idx_rdE, Idx_ownE, IdxAE, LdA_two, Idx_at0, Ext_atE, Len_at, Int.toNat_natCast, Int.toNat_zero, Int.toNat_one, List.length_map, List.length_append, List.length_cons, List.length_nil, List.length_take, List.length_set, List.length_replicate, Bool.not_true, Bool.not_false, decide_true, decide_false, BEq.rfl, bne_self_eq_false, tf_beq, ft_beq, tf_bne, ft_bne, not_true_eq_false, not_false_eq_true, app]
        refine Lp_fn (σ := Nat × Value × List Nat) (fun s => [s.2.1, iv, Iv ((2 * n : Nat) : Int), Iv (s.1 : Nat)]) (fun s h' => s.1 ≤ 2 * n ∧ Own h' s.2.1 ((outL b' s.1).map Iv) s.2.2 ∧ (∀ x ∈ s.2.2, h5.size ≤ x) ∧ Fr [] h5 h') (fun s => 2 * n - s.1) (0, .slice none 0 0, []) rfl (fun _ => rfl) ⟨Nat.zero_le _, Own.nil _, by simp, Fr.refl _ _⟩ ?_
        rintro ⟨i, u, bs⟩ h6 ⟨hi, o6, hbs, f6⟩ Y hY
        simp only at hi o6 hbs
        have hol := outL_len b' i
        by_cases c2 : (i : Int) < ((2 * n : Nat) : Int)
        · have r6 := r5.fr f6
          have a1 : At (b'.map Value.bool) i (.bool (b'.getD i false)) := by
            rw [List.getD_eq_getElem?_getD, List.getElem?_eq_getElem (show i < b'.length by omega)]
            exact At.map (f := Value.bool) (List.getElem?_eq_getElem (by omega))
          have hst := outL_step b' i
          try simp (disch := first | assumption | omega | (apply At.mk; with_unfolding_all rfl)) only [↓go_eq, ↓ent_eq, Mv, NilC_at, Fld_at, add_mk, Nat.zero_add, Nat.add_zero, Add64, Sub64, Mul64, Quo64, Rem64, Neg64, Cvt64, CvtU8, CvtU16, CvtU32, CvtU64, AddU64, SubU64, MulU64, Shr64, Shr_u8, Shr_u16, Shr_u32, Shr_u64, And1, And31, And32, Eql64, Neq64, Bin_lss, Bin_leq, Bin_gtr, Bin_geq, Bin_bool_eql, Bin_bool_neq, Bin_ptr_nil_eql, Bin_ptr_nil_neq, Not_dec, Un_not, Pick_t, Pick_f, Pick_pos, Pick_neg, Gd_tt, Gd_tf, Gd_ft, Gd_ff, Gd_pos_t, Gd_neg_t, Gd_pos_f, Gd_neg_f, Gd_undef, If_t, If_f, If_pos, If_neg, CallF_eq, Max_two, Min_two, Len_rd, Len_own, Ld_blkE, Idx_rdN, Idx_ownN, Idx_rdE, Idx_ownE, IdxAE, LdA_two, Idx_at0, Ext_atE, Len_at, Int.toNat_natCast, Int.toNat_zero, Int.toNat_one, List.length_map, List.length_append, List.length_cons, List.length_nil, List.length_take, List.length_set, List.length_replicate, Bool.not_true, Bool.not_false, decide_true, decide_false, BEq.rfl, bne_self_eq_false, tf_beq, ft_beq, tf_bne, ft_bne, not_true_eq_false, not_false_eq_true, app]
          refine Jn_fn (σ := Value × List Nat) (fun s => [s.1, iv, Iv ((2 * n : Nat) : Int), Iv (i : Nat)]) (fun s h' => Own h' s.1 ((outL b' (i + 1)).map Iv) s.2 ∧ (∀ x ∈ s.2, h5.size ≤ x) ∧ Fr [] h5 h') ?_ ?_
          · intro J hJ
            try simp (disch := first | assumption | omega | (apply At.mk; with_unfolding_all rfl)) only [↓go_eq, ↓ent_eq, Mv, NilC_at, Fld_at, add_mk, Nat.zero_add, Nat.add_zero, Add64, Sub64, Mul64, Quo64, Rem64, Neg64, Cvt64, CvtU8, CvtU16, CvtU32, CvtU64, AddU64, SubU64, MulU64, Shr64, Shr_u8, Shr_u16, Shr_u32, Shr_u64, And1, And31, And32, Eql64, Neq64, Bin_lss, Bin_leq, Bin_gtr, Bin_geq, Bin_bool_eql, Bin_bool_neq, Bin_ptr_nil_eql, Bin_ptr_nil_neq, Not_dec, Un_not, Pick_t, Pick_f, Pick_pos, Pick_neg, Gd_tt, Gd_tf, Gd_ft, Gd_ff, Gd_pos_t, Gd_neg_t, Gd_pos_f, Gd_neg_f, Gd_undef, If_t, If_f, If_pos, If_neg, CallF_eq, Max_two, Min_two, Len_rd, Len_own, Ld_blkE, Idx_rdN, Idx_ownN, Idx_rdE, Idx_ownE, IdxAE, LdA_two, Idx_at0, Ext_atE, Len_at, Int.toNat_natCast, Int.toNat_zero, Int.toNat_one, List.length_map, List.length_append, List.length_cons, List.length_nil, List.length_take, List.length_set, List.length_replicate, Bool.not_true, Bool.not_false, decide_true, decide_false, BEq.rfl, bne_self_eq_false, tf_beq, ft_beq, tf_bne, ft_bne, not_true_eq_false, not_false_eq_true, app]
            cases hb : b'.getD i false with
            | true =>
              rw [hb, if_pos rfl] at hst
              try simp (disch := first | assumption | omega | (apply At.mk; with_unfolding_all rfl)) only [↓go_eq, ↓ent_eq, Mv, NilC_at, Fld_at, add_mk, Nat.zero_add, Nat.add_zero, Add64, Sub64, Mul64, Quo64, Rem64, Neg64, Cvt64, CvtU8, CvtU16, CvtU32, CvtU64, AddU64, SubU64, MulU64, Shr64, Shr_u8, Shr_u16, Shr_u32, Shr_u64, And1, And31, And32, Eql64, Neq64, Bin_lss, Bin_leq, Bin_gtr, Bin_geq, Bin_bool_eql, Bin_bool_neq, Bin_ptr_nil_eql, Bin_ptr_nil_neq, Not_dec, Un_not, Pick_t, Pick_f, Pick_pos, Pick_neg, Gd_tt, Gd_tf, Gd_ft, Gd_ff, Gd_pos_t, Gd_neg_t, Gd_pos_f, Gd_neg_f, Gd_undef, If_t, If_f, If_pos, If_neg, CallF_eq, Max_two, Min_two, Len_rd, Len_own, Ld_blkE, Idx_rdN, Idx_ownN, Idx_rdE, Idx_ownE, IdxAE, LdA_two, Idx_at0, Ext_atE, Len_at, Int.toNat_natCast, Int.toNat_zero, Int.toNat_one, List.length_map, List.length_append, List.length_cons, List.length_nil, List.length_take, List.length_set, List.length_replicate, Bool.not_true, Bool.not_false, decide_true, decide_false, BEq.rfl, bne_self_eq_false, tf_beq, ft_beq, tf_bne, ft_bne, not_true_eq_false, not_false_eq_true, app]
              refine lit_at_q (by omega) ?_
              try simp (disch := first | assumption | omega | (apply At.mk; with_unfolding_all rfl)) only [↓go_eq, ↓ent_eq, Mv, NilC_at, Fld_at, add_mk, Nat.zero_add, Nat.add_zero, Add64, Sub64, Mul64, Quo64, Rem64, Neg64, Cvt64, CvtU8, CvtU16, CvtU32, CvtU64, AddU64, SubU64, MulU64, Shr64, Shr_u8, Shr_u16, Shr_u32, Shr_u64, And1, And31, And32, Eql64, Neq64, Bin_lss, Bin_leq, Bin_gtr, Bin_geq, Bin_bool_eql, Bin_bool_neq, Bin_ptr_nil_eql, Bin_ptr_nil_neq, Not_dec, Un_not, Pick_t, Pick_f, Pick_pos, Pick_neg, Gd_tt, Gd_tf, Gd_ft, Gd_ff, Gd_pos_t, Gd_neg_t, Gd_pos_f, Gd_neg_f, Gd_undef, If_t, If_f, If_pos, If_neg, CallF_eq, Max_two, Min_two, Len_rd, Len_own, Ld_blkE, Idx_rdN, Idx_ownN, Idx_rdE, Idx_ownE, IdxAE, LdA_two, Idx_at0, Ext_atE, Len_at, Int.toNat_natCast, Int.toNat_zero, Int.toNat_one, List.length_map, List.length_append, List.length_cons, List.length_nil, List.length_take, List.length_set, List.length_replicate, Bool.not_true, Bool.not_false, decide_true, decide_false, BEq.rfl, bne_self_eq_false, tf_beq, ft_beq, tf_bne, ft_bne, not_true_eq_false, not_false_eq_true, app]
              refine BldS_one rfl rfl fun h7 o7 f7 s7 => ?_
              have o67 := o6.fr f7 (by simp)
              try simp (disch := first | assumption | omega | (apply At.mk; with_unfolding_all rfl)) only [↓go_eq, ↓ent_eq, Mv, NilC_at, Fld_at, add_mk, Nat.zero_add, Nat.add_zero, Add64, Sub64, Mul64, Quo64, Rem64, Neg64, Cvt64, CvtU8, CvtU16, CvtU32, CvtU64, AddU64, SubU64, MulU64, Shr64, Shr_u8, Shr_u16, Shr_u32, Shr_u64, And1, And31, And32, Eql64, Neq64, Bin_lss, Bin_leq, Bin_gtr, Bin_geq, Bin_bool_eql, Bin_bool_neq, Bin_ptr_nil_eql, Bin_ptr_nil_neq, Not_dec, Un_not, Pick_t, Pick_f, Pick_pos, Pick_neg, Gd_tt, Gd_tf, Gd_ft, Gd_ff, Gd_pos_t, Gd_neg_t, Gd_pos_f, Gd_neg_f, Gd_undef, If_t, If_f, If_pos, If_neg, CallF_eq, Max_two, Min_two, Len_rd, Len_own, Ld_blkE, Idx_rdN, Idx_ownN, Idx_rdE, Idx_ownE, IdxAE, LdA_two, Idx_at0, Ext_atE, Len_at, Int.toNat_natCast, Int.toNat_zero, Int.toNat_one, List.length_map, List.length_append, List.length_cons, List.length_nil, List.length_take, List.length_set, List.length_replicate, Bool.not_true, Bool.not_false, decide_true, decide_false, BEq.rfl, bne_self_eq_false, tf_beq, ft_beq, tf_bne, ft_bne, not_true_eq_false, not_false_eq_true, app]
              refine o67.app (ys := [Iv (litAt i)]) o7.rd rfl rfl (fun y hy => by simp at hy; rw [hy]; rfl) (by simp; omega) (by simp; omega) fun u' h8 bs' o8 f8 hb8 s8 => ?_
              try simp (disch := first | assumption | omega | (apply At.mk; with_unfolding_all rfl)) only [↓go_eq, ↓ent_eq, Mv, NilC_at, Fld_at, add_mk, Nat.zero_add, Nat.add_zero, Add64, Sub64, Mul64, Quo64, Rem64, Neg64, Cvt64, CvtU8, CvtU16, CvtU32, CvtU64, AddU64, SubU64, MulU64, Shr64, Shr_u8, Shr_u16, Shr_u32, Shr_u64, And1, And31, And32, Eql64, Neq64, Bin_lss, Bin_leq, Bin_gtr, Bin_geq, Bin_bool_eql, Bin_bool_neq, Bin_ptr_nil_eql, Bin_ptr_nil_neq, Not_dec, Un_not, Pick_t, Pick_f, Pick_pos, Pick_neg, Gd_tt, Gd_tf, Gd_ft, Gd_ff, Gd_pos_t, Gd_neg_t, Gd_pos_f, Gd_neg_f, Gd_undef, If_t, If_f, If_pos, If_neg, CallF_eq, Max_two, Min_two, Len_rd, Len_own, Ld_blkE, Idx_rdN, Idx_ownN, Idx_rdE, Idx_ownE, IdxAE, LdA_two, Idx_at0, Ext_atE, Len_at, Int.toNat_natCast, Int.toNat_zero, Int.toNat_one, List.length_map, List.length_append, List.length_cons, List.length_nil, List.length_take, List.length_set, List.length_replicate, Bool.not_true, Bool.not_false, decide_true, decide_false, BEq.rfl, bne_self_eq_false, tf_beq, ft_beq, tf_bne, ft_bne, not_true_eq_false, not_false_eq_true, app]
              refine hJ (u', bs') h8 ⟨by rw [hst, List.map_append]; exact o8, fun x hx => ?_, (f6.trans f7).trans' f8 fun x hx => .inr (hbs x hx)⟩
              rcases hb8 x hx with q | q
              · exact hbs x q
              · have := f6.size; omega
            | false =>
              rw [hb, if_neg (by decide), List.append_nil] at hst
              try simp (disch := first | assumption | omega | (apply At.mk; with_unfolding_all rfl)) only [↓go_eq, ↓ent_eq, Mv, NilC_at, Fld_at, add_mk, Nat.zero_add, Nat.add_zero, Add64, Sub64, Mul64, Quo64, Rem64, Neg64, Cvt64, CvtU8, CvtU16, CvtU32, CvtU64, AddU64, SubU64, MulU64, Shr64, Shr_u8, Shr_u16, Shr_u32, Shr_u64, And1, And31, And32, Eql64, Neq64, Bin_lss, Bin_leq, Bin_gtr, Bin_geq, Bin_bool_eql, Bin_bool_neq, Bin_ptr_nil_eql, Bin_ptr_nil_neq, Not_dec, Un_not, Pick_t, Pick_f, Pick_pos, Pick_neg, Gd_tt, Gd_tf, Gd_ft, Gd_ff, Gd_pos_t, Gd_neg_t, Gd_pos_f, Gd_neg_f, Gd_undef, If_t, If_f, If_pos, If_neg, CallF_eq, Max_two, Min_two, Len_rd, Len_own, Ld_blkE, Idx_rdN, Idx_ownN, Idx_rdE, Idx_ownE, IdxAE, LdA_two, Idx_at0, Ext_atE, Len_at, Int.toNat_natCast, Int.toNat_zero, Int.toNat_one, List.length_map, List.length_append, List.length_cons, List.length_nil, List.length_take, List.length_set, List.length_replicate, Bool.not_true, Bool.not_false, decide_true, decide_false, BEq.rfl, bne_self_eq_false, tf_beq, ft_beq, tf_bne, ft_bne, not_true_eq_false, not_false_eq_true, app]
              exact hJ (u, bs) h6 ⟨by rw [hst]; exact o6, hbs, f6⟩
          · rintro ⟨u', bs'⟩ h8 ⟨o8, hb8, f8⟩
            try simp (disch := first | assumption | omega | (apply At.mk; with_unfolding_all rfl)) only [↓go_eq, ↓ent_eq, Mv, NilC_at, Fld_at, add_mk, Nat.zero_add, Nat.add_zero, Add64, Sub64, Mul64, Quo64, Rem64, Neg64, Cvt64, CvtU8, CvtU16, CvtU32, CvtU64, AddU64, SubU64, MulU64, Shr64, Shr_u8, Shr_u16, Shr_u32, Shr_u64, And1, And31, And32, Eql64, Neq64, Bin_lss, Bin_leq, Bin_gtr, Bin_geq, Bin_bool_eql, Bin_bool_neq, Bin_ptr_nil_eql, Bin_ptr_nil_neq, Not_dec, Un_not, Pick_t, Pick_f, Pick_pos, Pick_neg, Gd_tt, Gd_tf, Gd_ft, Gd_ff, Gd_pos_t, Gd_neg_t, Gd_pos_f, Gd_neg_f, Gd_undef, If_t, If_f, If_pos, If_neg, CallF_eq, Max_two, Min_two, Len_rd, Len_own, Ld_blkE, Idx_rdN, Idx_ownN, Idx_rdE, Idx_ownE, IdxAE, LdA_two, Idx_at0, Ext_atE, Len_at, Int.toNat_natCast, Int.toNat_zero, Int.toNat_one, List.length_map, List.length_append, List.length_cons, List.length_nil, List.length_take, List.length_set, List.length_replicate, Bool.not_true, Bool.not_false, decide_true, decide_false, BEq.rfl, bne_self_eq_false, tf_beq, ft_beq, tf_bne, ft_bne, not_true_eq_false, not_false_eq_true, app]
            try simp only [show (i : Int) + 1 = ((i + 1 : Nat) : Int) from by omega]
            exact hY (i + 1, u', bs') h8 ⟨by simp only; omega, o8, hb8, f8⟩ (by simp only; omega)
        · have ei : i = 2 * n := by omega
          subst ei
          try simp (disch := first | assumption | omega | (apply At.mk; with_unfolding_all rfl)) only [↓go_eq, ↓ent_eq, Mv, NilC_at, Fld_at, add_mk, Nat.zero_add, Nat.add_zero, Add64, Sub64, Mul64, Quo64, Rem64, Neg64, Cvt64, CvtU8, CvtU16, CvtU32, CvtU64, AddU64, SubU64, MulU64, Shr64, Shr_u8, Shr_u16, Shr_u32, Shr_u64, And1, And31, And32, Eql64, Neq64, Bin_lss, Bin_leq, Bin_gtr, Bin_geq, Bin_bool_eql, Bin_bool_neq, Bin_ptr_nil_eql, Bin_ptr_nil_neq, Not_dec, Un_not, Pick_t, Pick_f, Pick_pos, Pick_neg, Gd_tt, Gd_tf, Gd_ft, Gd_ff, Gd_pos_t, Gd_neg_t, Gd_pos_f, Gd_neg_f, Gd_undef, If_t, If_f, If_pos, If_neg, CallF_eq, Max_two, Min_two, Len_rd, Len_own, Ld_blkE, Idx_rdN, Idx_ownN, Idx_rdE, Idx_ownE, IdxAE, LdA_two, Idx_at0, Ext_atE, Len_at, Int.toNat_natCast, Int.toNat_zero, Int.toNat_one, List.length_map, List.length_append, List.length_cons, List.length_nil, List.length_take, List.length_set, List.length_replicate, Bool.not_true, Bool.not_false, decide_true, decide_false, BEq.rfl, bne_self_eq_false, tf_beq, ft_beq, tf_bne, ft_bne, not_true_eq_false, not_false_eq_true, app]
          refine hk u bs _ true h6 (.inl ⟨rfl, q3, outL_asc b' _, fun x => ?_⟩) o6 (fun x hx => by have := hbs x hx; have := f5.size; omega) (f5.trans f6)
          rw [outL_mem]
          exact ⟨fun ⟨a, b⟩ => (q1 x a).1 b, fun d => ⟨d.ok hF hL, (q1 x (d.ok hF hL)).2 d⟩⟩
set_option maxHeartbeats 1000000 in
theorem rup_Store_Implied.spec {n sb : Nat} {w v : Value} {cs : List (List Int)} {ws : List Value} {c : List Int} (hn : n ≤ 1000000) (hF : FOk n cs) (hnd : ∀ c ∈ cs, c.Nodup) (hl : cs.length ≤ 1000000) (hll : ∀ c ∈ cs, c.length ≤ 1000000) (hL : ∀ x ∈ c, LitOk n x) (hlen : c.length ≤ 1000000) {K : Ret} {h : Heap}
    (hs : Blk h sb [Iv n, w]) (hw : RdL h w cs ws) (hv : Rd h v (c.map Iv))
    (hk : ∀ (r : Bool) h', (r = true ↔ Clash cs (· ∈ c.map fun x => -x)) → Fr [] h h' → K (.bool r) h') : CallH Try.prog rup_Store_Implied.id #[ptr sb, v] K h := by
  refine rup_Store_Implied.ok ?_
  simp only [rup_Store_Implied.pt]
  try simp (disch := first | assumption | omega | (apply At.mk; with_unfolding_all rfl)) only [↓go_eq, ↓ent_eq, Mv, NilC_at, Fld_at, add_mk, Nat.zero_add, Nat.add_zero, Add64, Sub64, Mul64, Quo64, Rem64, Neg64, Cvt64, CvtU8, CvtU16, CvtU32, CvtU64, AddU64, SubU64, MulU64, Shr64, Shr_u8, Shr_u16, Shr_u32, Shr_u64, And1, And31, And32, Eql64, Neq64, Bin_lss, Bin_leq, Bin_gtr, Bin_geq, Bin_bool_eql, Bin_bool_neq, Bin_ptr_nil_eql, Bin_ptr_nil_neq, Not_dec, Un_not, Pick_t, Pick_f, Pick_pos, Pick_neg, Gd_tt, Gd_tf, Gd_ft, Gd_ff, Gd_pos_t, Gd_neg_t, Gd_pos_f, Gd_neg_f, Gd_undef, If_t, If_f, If_pos, If_neg, CallF_eq, Max_two, Min_two, Len_rd, Len_own, Ld_blkE, Idx_rdN, Idx_ownN, Idx_rdE, Idx_ownE, IdxAE, LdA_two, Idx_at0, Ext_atE, Len_at, Int.toNat_natCast, Int.toNat_zero, Int.toNat_one, List.length_map, List.length_append, List.length_cons, List.length_nil, List.length_take, List.length_set, List.length_replicate, Bool.not_true, Bool.not_false, decide_true, decide_false, BEq.rfl, bne_self_eq_false, tf_beq, ft_beq, tf_bne, ft_bne, not_true_eq_false, not_false_eq_true, app]
  refine Lp_fn (σ := Nat × Value × List Nat) (fun s => [ptr sb, s.2.1, v, Iv (c.length : Nat), Iv (s.1 : Nat)]) (fun s h' => s.1 ≤ c.length ∧ Own h' s.2.1 (((c.take s.1).map fun x => -x).map Iv) s.2.2 ∧ (∀ x ∈ s.2.2, h.size ≤ x) ∧ Fr [] h h') (fun s => c.length - s.1) (0, .slice none 0 0, []) rfl (fun _ => rfl) ⟨Nat.zero_le _, Own.nil _, by simp, Fr.refl _ _⟩ ?_
  rintro ⟨i, u, bs⟩ h6 ⟨hi, o6, hbs, f6⟩ Y hY
  simp only at hi o6 hbs
  by_cases c2 : (i : Int) < (c.length : Nat)
  · have a1 := at_getD (show i < c.length by omega)
    have r6 := hv.fr f6
    have htk := getD_take (show i < c.length by omega)
    obtain ⟨_, q1, q2⟩ := hL _ (getD_mem (show i < c.length by omega))
    generalize c.getD i 0 = x at *
    try simp (disch := first | assumption | omega | (apply At.mk; with_unfolding_all rfl)) only [↓go_eq, ↓ent_eq, Mv, NilC_at, Fld_at, add_mk, Nat.zero_add, Nat.add_zero, Add64, Sub64, Mul64, Quo64, Rem64, Neg64, Cvt64, CvtU8, CvtU16, CvtU32, CvtU64, AddU64, SubU64, MulU64, Shr64, Shr_u8, Shr_u16, Shr_u32, Shr_u64, And1, And31, And32, Eql64, Neq64, Bin_lss, Bin_leq, Bin_gtr, Bin_geq, Bin_bool_eql, Bin_bool_neq, Bin_ptr_nil_eql, Bin_ptr_nil_neq, Not_dec, Un_not, Pick_t, Pick_f, Pick_pos, Pick_neg, Gd_tt, Gd_tf, Gd_ft, Gd_ff, Gd_pos_t, Gd_neg_t, Gd_pos_f, Gd_neg_f, Gd_undef, If_t, If_f, If_pos, If_neg, CallF_eq, Max_two, Min_two, Len_rd, Len_own, Ld_blkE, Idx_rdN, Idx_ownN, Idx_rdE, Idx_ownE, IdxAE, LdA_two, Idx_at0, Ext_atE, Len_at, Int.toNat_natCast, Int.toNat_zero, Int.toNat_one, List.length_map, List.length_append, List.length_cons, List.length_nil, List.length_take, List.length_set, List.length_replicate, Bool.not_true, Bool.not_false, decide_true, decide_false, BEq.rfl, bne_self_eq_false, tf_beq, ft_beq, tf_bne, ft_bne, not_true_eq_false, not_false_eq_true, app]
    refine BldS_one rfl rfl fun h7 o7 f7 s7 => ?_
    have o67 := o6.fr f7 (by simp)
    try simp (disch := first | assumption | omega | (apply At.mk; with_unfolding_all rfl)) only [↓go_eq, ↓ent_eq, Mv, NilC_at, Fld_at, add_mk, Nat.zero_add, Nat.add_zero, Add64, Sub64, Mul64, Quo64, Rem64, Neg64, Cvt64, CvtU8, CvtU16, CvtU32, CvtU64, AddU64, SubU64, MulU64, Shr64, Shr_u8, Shr_u16, Shr_u32, Shr_u64, And1, And31, And32, Eql64, Neq64, Bin_lss, Bin_leq, Bin_gtr, Bin_geq, Bin_bool_eql, Bin_bool_neq, Bin_ptr_nil_eql, Bin_ptr_nil_neq, Not_dec, Un_not, Pick_t, Pick_f, Pick_pos, Pick_neg, Gd_tt, Gd_tf, Gd_ft, Gd_ff, Gd_pos_t, Gd_neg_t, Gd_pos_f, Gd_neg_f, Gd_undef, If_t, If_f, If_pos, If_neg, CallF_eq, Max_two, Min_two, Len_rd, Len_own, Ld_blkE, Idx_rdN, Idx_ownN, Idx_rdE, Idx_ownE, IdxAE, LdA_two, Idx_at0, Ext_atE, Len_at, Int.toNat_natCast, Int.toNat_zero, Int.toNat_one, List.length_map, List.length_append, List.length_cons, List.length_nil, List.length_take, List.length_set, List.length_replicate, Bool.not_true, Bool.not_false, decide_true, decide_false, BEq.rfl, bne_self_eq_false, tf_beq, ft_beq, tf_bne, ft_bne, not_true_eq_false, not_false_eq_true, app]
    refine o67.app (ys := [Iv (-x)]) o7.rd rfl rfl (fun y hy => by simp at hy; rw [hy]; rfl) (by simp; omega) (by simp; omega) fun u' h8 bs' o8 f8 hb8 s8 => ?_
    try simp (disch := first | assumption | omega | (apply At.mk; with_unfolding_all rfl)) only [↓go_eq, ↓ent_eq, Mv, NilC_at, Fld_at, add_mk, Nat.zero_add, Nat.add_zero, Add64, Sub64, Mul64, Quo64, Rem64, Neg64, Cvt64, CvtU8, CvtU16, CvtU32, CvtU64, AddU64, SubU64, MulU64, Shr64, Shr_u8, Shr_u16, Shr_u32, Shr_u64, And1, And31, And32, Eql64, Neq64, Bin_lss, Bin_leq, Bin_gtr, Bin_geq, Bin_bool_eql, Bin_bool_neq, Bin_ptr_nil_eql, Bin_ptr_nil_neq, Not_dec, Un_not, Pick_t, Pick_f, Pick_pos, Pick_neg, Gd_tt, Gd_tf, Gd_ft, Gd_ff, Gd_pos_t, Gd_neg_t, Gd_pos_f, Gd_neg_f, Gd_undef, If_t, If_f, If_pos, If_neg, CallF_eq, Max_two, Min_two, Len_rd, Len_own, Ld_blkE, Idx_rdN, Idx_ownN, Idx_rdE, Idx_ownE, IdxAE, LdA_two, Idx_at0, Ext_atE, Len_at, Int.toNat_natCast, Int.toNat_zero, Int.toNat_one, List.length_map, List.length_append, List.length_cons, List.length_nil, List.length_take, List.length_set, List.length_replicate, Bool.not_true, Bool.not_false, decide_true, decide_false, BEq.rfl, bne_self_eq_false, tf_beq, ft_beq, tf_bne, ft_bne, not_true_eq_false, not_false_eq_true, app]
    try simp only [show (i : Int) + 1 = ((i + 1 : Nat) : Int) from by omega]
    refine hY (i + 1, u', bs') h8 ⟨by simp only; omega, by simp only; rw [htk, List.map_append, List.map_append]; exact o8, fun x hx => ?_, (f6.trans f7).trans' f8 fun x hx => .inr (hbs x hx)⟩ (by simp only; omega)
    rcases hb8 x hx with q | q
    · exact hbs x q
    · have := f6.size; omega
  · rw [List.take_of_length_le (by omega)] at o6
    try simp (disch := first | assumption | omega | (apply At.mk; with_unfolding_all rfl)) only [↓go_eq, ↓ent_eq, Mv, NilC_at, Fld_at, add_mk, Nat.zero_add, Nat.add_zero, Add64, Sub64, Mul64, Quo64, Rem64, Neg64, Cvt64, CvtU8, CvtU16, CvtU32, CvtU64, AddU64, SubU64, MulU64, Shr64, Shr_u8, Shr_u16, Shr_u32, Shr_u64, And1, And31, And32, Eql64, Neq64, Bin_lss, Bin_leq, Bin_gtr, Bin_geq, Bin_bool_eql, Bin_bool_neq, Bin_ptr_nil_eql, Bin_ptr_nil_neq, Not_dec, Un_not, Pick_t, Pick_f, Pick_pos, Pick_neg, Gd_tt, Gd_tf, Gd_ft, Gd_ff, Gd_pos_t, Gd_neg_t, Gd_pos_f, Gd_neg_f, Gd_undef, If_t, If_f, If_pos, If_neg, CallF_eq, Max_two, Min_two, Len_rd, Len_own, Ld_blkE, Idx_rdN, Idx_ownN, Idx_rdE, Idx_ownE, IdxAE, LdA_two, Idx_at0, Ext_atE, Len_at, Int.toNat_natCast, Int.toNat_zero, Int.toNat_one, List.length_map, List.length_append, List.length_cons, List.length_nil, List.length_take, List.length_set, List.length_replicate, Bool.not_true, Bool.not_false, decide_true, decide_false, BEq.rfl, bne_self_eq_false, tf_beq, ft_beq, tf_bne, ft_bne, not_true_eq_false, not_false_eq_true, app]
    refine rup_Store_Follow.spec hn hF hnd hl hll (fun x hx => ?_) (by simp; omega) (hs.fr f6 (by simp)) (hw.fr f6) o6.rd fun v' bs' xs ok h7 hfl o7 hb7 f7 => ?_
    · obtain ⟨y, hy, rfl⟩ := List.mem_map.1 hx
      exact (hL y hy).neg
    · try simp (disch := first | assumption | omega | (apply At.mk; with_unfolding_all rfl)) only [↓go_eq, ↓ent_eq, Mv, NilC_at, Fld_at, add_mk, Nat.zero_add, Nat.add_zero, Add64, Sub64, Mul64, Quo64, Rem64, Neg64, Cvt64, CvtU8, CvtU16, CvtU32, CvtU64, AddU64, SubU64, MulU64, Shr64, Shr_u8, Shr_u16, Shr_u32, Shr_u64, And1, And31, And32, Eql64, Neq64, Bin_lss, Bin_leq, Bin_gtr, Bin_geq, Bin_bool_eql, Bin_bool_neq, Bin_ptr_nil_eql, Bin_ptr_nil_neq, Not_dec, Un_not, Pick_t, Pick_f, Pick_pos, Pick_neg, Gd_tt, Gd_tf, Gd_ft, Gd_ff, Gd_pos_t, Gd_neg_t, Gd_pos_f, Gd_neg_f, Gd_undef, If_t, If_f, If_pos, If_neg, CallF_eq, Max_two, Min_two, Len_rd, Len_own, Ld_blkE, Idx_rdN, Idx_ownN, Idx_rdE, Idx_ownE, IdxAE, LdA_two, Idx_at0, Ext_atE, Len_at, Int.toNat_natCast, Int.toNat_zero, Int.toNat_one, List.length_map, List.length_append, List.length_cons, List.length_nil, List.length_take, List.length_set, List.length_replicate, Bool.not_true, Bool.not_false, decide_true, decide_false, BEq.rfl, bne_self_eq_false, tf_beq, ft_beq, tf_bne, ft_bne, not_true_eq_false, not_false_eq_true, app]
      refine hk _ h7 ?_ (f6.trans f7)
      rcases hfl with ⟨rfl, q, _⟩ | ⟨rfl, q, _⟩
      · exact ⟨fun e => (by cases e), fun e => absurd e q⟩
      · exact ⟨fun _ => q, fun _ => rfl⟩
end Go.Proofs.Yteahhifkkjfhoaa
