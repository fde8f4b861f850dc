/- A turn as the laws see it. Conditions: those typed ahead of each theorem. -/
import Derived.Test.YtonngdjfnnibaaaLo12
namespace Go.Proofs.Ytonngdjfnnibaaa
open Go.Pt
set_option linter.unusedVariables false
set_option linter.unusedSimpArgs false
/-- What a state knows that is not made by the assignment. -/
structure W where
  a : List Bool
  z : List Bool
  few : Int
  fl : Int
def W.flip (n : Nat) (F : List (List Int)) (w : W) (v : Int) : W := if inR n v then ⟨flp w.a v.toNat, bst (flp w.a v.toNat) w.z F w.few, fewT (flp w.a v.toNat) F w.few, w.fl + 1⟩ else w
theorem W.flip_fl {n : Nat} {F : List (List Int)} {w : W} {v : Int} : w.fl ≤ (w.flip n F v).fl ∧ (w.flip n F v).fl ≤ w.fl + 1 := by
  unfold W.flip; split
  · exact ⟨by show w.fl ≤ w.fl + 1; omega, Int.le_refl _⟩
  · exact ⟨Int.le_refl _, by omega⟩
/-- The clauses that don't hold, rising. -/
def row0 (a : List Bool) (F : List (List Int)) : List Nat := (List.range F.length).filter fun q => decide (hB (litT a) (F.getD q []) = 0)
theorem row0_eq {n : Nat} {m : LMod} {F : List (List Int)} {a z : List Bool} {few fl : Int} (r : Rt n m F a z few fl) (rs : m.row.Pairwise (· < ·)) : m.row = row0 a F := by
  refine srt_ext rs (List.pairwise_lt_range.filter _) fun i => ?_
  unfold row0
  rw [r.rowm, List.mem_filter, List.mem_range, decide_eq_true_iff]
  constructor
  · rintro ⟨c, hc, hl⟩
    exact ⟨(someF hc).1, by rw [List.getD_eq_getElem?_getD, hc]; exact hl⟩
  · rintro ⟨h1, h2⟩
    exact ⟨F[i], List.getElem?_eq_getElem h1, by rw [List.getD_eq_getElem?_getD, List.getElem?_eq_getElem h1] at h2; exact h2⟩
/-- A state of these clauses. -/
structure St4 (N : Nat) (h : Heap) (M : Nat) (R : Nat → Res) (o sb n : Nat) (F : List (List Int)) (w : W) (m : LMod) : Prop where
  s : LS N h M R o sb n F.length m
  r : Rt n m F w.a w.z w.few w.fl
section
variable {N M : Nat} {h h' : Heap} {R : Nat → Res} {o sb n : Nat} {m : LMod} {Q : Ret} {F : List (List Int)} {w : W}
theorem St4.fr (t : St4 N h M R o sb n F w m) (f : Fr [] h h') : St4 N h' M R o sb n F w m := ⟨t.s.fr f, t.r⟩
theorem St4.al (t : St4 N h M R o sb n F w m) : w.a.length = n := by rw [← t.r.ea]; exact t.s.al
/-- With the row. -/
theorem local_New.spec5 {cs : List (List Int)} {ws : List Value} {v t1 : Value} {a : List Bool} (hn : n ≤ 1000) (hl : cs.length ≤ 1000) (hll : ∀ c ∈ cs, c.length ≤ 1000) (hF : FOk n cs) (hw : RdL h v cs ws) (ha : Rd h t1 (a.map .bool)) (al : a.length = n)
    (hk : ∀ h' sb M R m, St4 h.size h' M R 0 sb n (fmT cs) ⟨a, a, (unT a (fmT cs) : Nat), 0⟩ m → m.row = row0 a (fmT cs) → Fr [] h h' → Q (.tuple #[ptr sb, Iv 0]) h') : CallH Try.prog local_New.id #[.agg #[Iv n, v], t1] Q h :=
  local_New.spec hn hl hll hF hw ha (by omega) (fun q => absurd al q) fun _ h' sb M R m s r f rs => hk h' sb M R m ⟨s, r⟩ (row0_eq r rs) f
def rowW (n : Nat) (F : List (List Int)) (a : List Bool) (v : Int) (row : List Nat) : List Nat := if inR n v then rowF F a v.toNat row else row
theorem local_State_Flip.spec5 {v : Int} (t : St4 N h M R o sb n F w m) (hF : GF n F) (hfl : 0 ≤ w.fl ∧ w.fl ≤ 1000000)
    (hk : ∀ h' R' m', St4 N h' M R' o sb n F (w.flip n F v) m' → (∀ q, q < o ∨ o + 8 + 2 * n + F.length ≤ q → R' q = R q) → FrN N h h' → m'.row = rowW n F w.a v m.row → Q (.bool (decide (inR n v))) h') : CallH Try.prog local_State_Flip.id #[ptr sb, Iv v] Q h := by
  refine local_State_Flip.spec t.s t.r hF hfl (fun c => ?_) fun c h' R' m' s' r' hR f er => ?_
  · have := hk h R m (by unfold W.flip; rw [if_neg c]; exact t) (fun _ _ => rfl) (FrN.refl _ _) (by unfold rowW; rw [if_neg c])
    rwa [decide_eq_false c] at this
  · have := hk h' R' m' ⟨s', by unfold W.flip; rw [if_pos c]; exact r'⟩ hR f (by unfold rowW; rw [if_pos c]; exact er)
    rwa [decide_eq_true c] at this
theorem break_w {v : Int} (t : St4 N h M R o sb n F w m) (hk : Q (Iv (if inR n v then brT w.a F v.toNat else 0)) h) : QCall Try.prog local_State_Break.id [ptr sb, Iv v] Q h := by
  refine break_q t.s ?_
  by_cases c : inR n v
  · rw [if_pos c] at hk ⊢
    rw [t.r.brv (by obtain ⟨_, _⟩ := c; omega)]; exact hk
  · rw [if_neg c] at hk ⊢; exact hk
theorem best_w (t : St4 N h M R o sb n F w m) (hk : ∀ v bs h', Own h' v (w.z.map .bool) bs → (∀ b ∈ bs, h.size ≤ b) → Fr [] h h' → Q (.tuple #[v, Iv w.few]) h') : CallH Try.prog local_State_Best.id #[ptr sb] Q h := by
  refine local_State_Best.spec t.s (by rw [t.r.ez, t.r.zl]; have := t.s.nb; omega) fun v bs h' o hb f => ?_
  rw [t.r.ez] at o
  rw [t.r.ew]
  exact hk v bs h' o hb f
end
end Go.Proofs.Ytonngdjfnnibaaa
