/- Two states side by side, and turns in another order. Conditions: those typed ahead of each theorem. -/
import Derived.Test.YtonihbbpfliihaaLo18
namespace Go.Proofs.Ytonihbbpfliihaa
open Go.Pt
set_option linter.unusedVariables false
set_option linter.unusedSimpArgs false
theorem LR.cong2 {R R' : Nat → Res} {o sb n K : Nat} {m : LMod} (l : LR R o sb n K m) (e : ∀ q, o ≤ q → q < o + 8 + 2 * n + K → R' q = R q) : LR R' o sb n K m :=
  ⟨(e _ (by omega) (by omega)).trans l.r0, (e _ (by omega) (by omega)).trans l.r1, (e _ (by omega) (by omega)).trans l.r2, (e _ (by omega) (by omega)).trans l.r3, (e _ (by omega) (by omega)).trans l.r4, (e _ (by omega) (by omega)).trans l.r5, (e _ (by omega) (by omega)).trans l.r6, (e _ (by omega) (by omega)).trans l.r7, fun j hj => (e _ (by omega) (by omega)).trans (l.ro j hj), fun i hi => (e _ (by omega) (by omega)).trans (l.rl i hi), l.kK⟩
theorem LR.shift {R R' : Nat → Res} {o sb n K : Nat} {m : LMod} (l : LR R 0 sb n K m) (e : ∀ q, q < 8 + 2 * n + K → R' (o + q) = R q) : LR R' o sb n K m :=
  ⟨(e 0 (by omega)).trans l.r0, (e 1 (by omega)).trans l.r1, (e 2 (by omega)).trans l.r2, (e 3 (by omega)).trans l.r3, (e 4 (by omega)).trans l.r4, (e 5 (by omega)).trans l.r5, (e 6 (by omega)).trans l.r6, (e 7 (by omega)).trans l.r7,
    fun j hj => by rw [show o + 8 + j = o + (8 + j) by omega, e _ (by omega), show 8 + j = 0 + 8 + j by omega]; exact l.ro j hj,
    fun i hi => by rw [show o + 8 + 2 * n + i = o + (8 + 2 * n + i) by omega, e _ (by omega), show 8 + 2 * n + i = 0 + 8 + 2 * n + i by omega]; exact l.rl i hi, l.kK⟩
/-- Two states. -/
structure Two (N : Nat) (h : Heap) (M : Nat) (R : Nat → Res) (sb o tb n : Nat) (F : List (List Int)) (w w' : W) (m m' : LMod) : Prop where
  s : St4 N h M R 0 sb n F w m
  t : St4 N h M R o tb n F w' m'
  le : 8 + 2 * n + F.length ≤ o
theorem Two.fr {N M : Nat} {h h' : Heap} {R : Nat → Res} {sb o tb n : Nat} {F : List (List Int)} {w w' : W} {m m' : LMod} (t : Two N h M R sb o tb n F w w' m m') (f : Fr [] h h') : Two N h' M R sb o tb n F w w' m m' := ⟨t.s.fr f, t.t.fr f, t.le⟩
theorem two_mk {N N' M M' : Nat} {h h' : Heap} {R R' : Nat → Res} {sb tb n : Nat} {F : List (List Int)} {w w' : W} {m m' : LMod} (s : St4 N h M R 0 sb n F w m) (t : St4 N' h' M' R' 0 tb n F w' m') (f : Fr [] h h') (hN : h.size ≤ N') : ∃ R2, Two N h' (M + M') R2 sb M tb n F w w' m m' := by
  have hM := s.s.hM
  have hM' := t.s.hM
  have sp := s.s.sep.append t.s.sep f hN s.s.nN
  have z := f.size
  have := s.s.nN
  refine ⟨_, ⟨⟨sp, s.s.lr.congr fun q hq => if_pos (by omega), s.s.st, by omega, by omega, s.s.al, s.s.nb, s.s.Kb⟩, s.r⟩, ⟨⟨sp, t.s.lr.shift fun q hq => ?_, t.s.st, by omega, by omega, t.s.al, t.s.nb, t.s.Kb⟩, t.r⟩, by omega⟩
  rw [if_neg (by omega), Nat.add_sub_cancel_left]
section
variable {N M : Nat} {h h' : Heap} {R : Nat → Res} {sb o tb n : Nat} {F : List (List Int)} {w w' : W} {m m' : LMod} {Q : Ret}
theorem flip_s {v : Int} (t : Two N h M R sb o tb n F w w' m m') (hF : GF n F) (hfl : 0 ≤ w.fl ∧ w.fl ≤ 1000000)
    (hk : ∀ h' R' m1, Two N h' M R' sb o tb n F (w.flip n F v) w' m1 m' → FrN N h h' → Q (.bool (decide (inR n v))) h') : CallH Try.prog local_State_Flip.id #[ptr sb, Iv v] Q h := by
  refine local_State_Flip.spec' t.s hF hfl fun h1 R1 m1 t1 hR f => hk h1 R1 m1 ⟨t1, ⟨⟨t1.s.sep, t.t.s.lr.cong2 fun q h1 h2 => hR q (.inr (by have := t.le; omega)), t.t.s.st, t.t.s.hM, t1.s.nN, t.t.s.al, t.t.s.nb, t.t.s.Kb⟩, t.t.r⟩, t.le⟩ f
theorem flip_t {v : Int} (t : Two N h M R sb o tb n F w w' m m') (hF : GF n F) (hfl : 0 ≤ w'.fl ∧ w'.fl ≤ 1000000)
    (hk : ∀ h' R' m1, Two N h' M R' sb o tb n F w (w'.flip n F v) m m1 → FrN N h h' → Q (.bool (decide (inR n v))) h') : CallH Try.prog local_State_Flip.id #[ptr tb, Iv v] Q h := by
  refine local_State_Flip.spec' t.t hF hfl fun h1 R1 m1 t1 hR f => hk h1 R1 m1 ⟨⟨⟨t1.s.sep, t.s.s.lr.cong2 fun q h1 h2 => hR q (.inl (by have := t.le; omega)), t.s.s.st, t.s.s.hM, t1.s.nN, t.s.s.al, t.s.s.nb, t.s.s.Kb⟩, t.s.r⟩, t1, t.le⟩ f
end
/-! ### Turns in another order -/
def fa (n : Nat) (a : List Bool) (v : Int) : List Bool := if inR n v then flp a v.toNat else a
theorem W.flip_a {n : Nat} {F : List (List Int)} {w : W} {v : Int} : (w.flip n F v).a = fa n w.a v := by
  unfold W.flip fa; split <;> rfl
theorem fa_len (n : Nat) (a : List Bool) (v : Int) : (fa n a v).length = a.length := by
  unfold fa; split
  · exact flp_len _ _
  · rfl
theorem flp_comm {a : List Bool} {x y : Nat} (hx : x - 1 < a.length) (hy : y - 1 < a.length) : flp (flp a x) y = flp (flp a y) x := by
  refine List.ext_getElem (by rw [flp_len, flp_len, flp_len, flp_len]) fun i h1 h2 => ?_
  have e1 := flp_get (a := flp a x) (v := y) (i := i) (by rw [flp_len]; exact hy)
  have e2 := flp_get (a := flp a y) (v := x) (i := i) (by rw [flp_len]; exact hx)
  rw [flp_get hx] at e1
  rw [flp_get hy] at e2
  rw [List.getD_eq_getElem?_getD, List.getElem?_eq_getElem h1] at e1
  rw [List.getD_eq_getElem?_getD, List.getElem?_eq_getElem h2] at e2
  simp only [Option.getD_some] at e1 e2
  rw [e1, e2]
  split <;> split <;> rfl
section
variable {n : Nat}
theorem fa_comm {a : List Bool} (ha : a.length = n) (x y : Int) : fa n (fa n a x) y = fa n (fa n a y) x := by
  unfold fa
  by_cases c1 : inR n x
  · by_cases c2 : inR n y
    · rw [if_pos c1, if_pos c2, if_pos c1, if_pos c2]
      obtain ⟨_, _⟩ := c1
      obtain ⟨_, _⟩ := c2
      exact flp_comm (by omega) (by omega)
    · rw [if_pos c1, if_neg c2, if_neg c2, if_pos c1]
  · by_cases c2 : inR n y
    · rw [if_neg c1, if_pos c2, if_neg c1]
    · rw [if_neg c1, if_neg c2, if_neg c1]
theorem fa_fa {a : List Bool} (ha : a.length = n) (x : Int) : fa n (fa n a x) x = a := by
  unfold fa
  by_cases c1 : inR n x
  · rw [if_pos c1, if_pos c1]
    obtain ⟨_, _⟩ := c1
    exact flp_flp (by omega)
  · rw [if_neg c1, if_neg c1]
theorem fold_len (l : List Int) : ∀ a : List Bool, (l.foldl (fa n) a).length = a.length := by
  induction l with
  | nil => intro a; rfl
  | cons x l ih => intro a; rw [List.foldl_cons, ih, fa_len]
theorem fold_comm (l : List Int) (x : Int) : ∀ a : List Bool, a.length = n → l.foldl (fa n) (fa n a x) = fa n (l.foldl (fa n) a) x := by
  induction l with
  | nil => intro a _; rfl
  | cons y l ih => intro a ha; rw [List.foldl_cons, List.foldl_cons, fa_comm ha, ih _ (by rw [fa_len]; exact ha)]
theorem fold_rev (l : List Int) : ∀ a : List Bool, a.length = n → l.reverse.foldl (fa n) a = l.foldl (fa n) a := by
  induction l with
  | nil => intro a _; rfl
  | cons x l ih => intro a ha; rw [List.reverse_cons, List.foldl_append, ih a ha, List.foldl_cons, List.foldl_nil, List.foldl_cons, fold_comm l x a ha]
theorem fold_twice (l : List Int) : ∀ a : List Bool, a.length = n → l.foldl (fa n) (l.foldl (fa n) a) = a := by
  induction l with
  | nil => intro a _; rfl
  | cons x l ih => intro a ha; rw [List.foldl_cons, List.foldl_cons, ← fold_comm l x _ (by rw [fa_len]; exact ha), fa_fa ha, ih a ha]
end
theorem st_with {N M : Nat} {h h' : Heap} {R : Nat → Res} {sb n : Nat} {F : List (List Int)} {w : W} {m : LMod} {u : Value} {bu : List Nat} {ps : List (Value × List Int × List Nat)} (t : St4 N h M R 0 sb n F w m) (f : Fr [] h h') (oF : OwnF h' u h.size bu ps) : ∃ R', St4 N h' (M + (ps.length + 1)) R' 0 sb n F w m ∧ ∀ i, i ≤ ps.length → R' (M + i) = psR u bu ps i := by
  have hM := t.s.hM
  have sp := t.s.sep.append oF.sep f (Nat.le_refl _) t.s.nN
  have z := f.size
  have := t.s.nN
  refine ⟨_, ⟨⟨sp, t.s.lr.congr fun q hq => if_pos (by omega), t.s.st, by omega, by omega, t.s.al, t.s.nb, t.s.Kb⟩, t.r⟩, fun i hi => ?_⟩
  rw [if_neg (by omega), Nat.add_sub_cancel_left]
theorem ps_rdl {N M q : Nat} {h : Heap} {R : Nat → Res} {u : Value} {bu : List Nat} {ps : List (Value × List Int × List Nat)} (s : Sep N h M R) (hM : q + ps.length < M) (e : ∀ i, i ≤ ps.length → R (q + i) = psR u bu ps i) : RdL h u (cls ps) (ps.map (·.1)) := by
  have o0 := s.is (by omega) (e ps.length (Nat.le_refl _))
  unfold psR at o0
  rw [List.getElem?_eq_none (Nat.le_refl _)] at o0
  have o0 : Own h u (ps.map (·.1)) bu := o0
  refine ⟨o0.rd, by simp [cls], fun i c hc => ?_⟩
  rw [cls, List.getElem?_map] at hc
  cases hp : ps[i]? with
  | none => rw [hp] at hc; cases hc
  | some p =>
    rw [hp] at hc
    have hi := (List.getElem?_eq_some_iff.1 hp).1
    have oi := s.is (by omega) (e i (by omega))
    unfold psR at oi
    rw [hp] at oi
    have oi : Own h p.1 (p.2.1.map Iv) p.2.2 := oi
    have ec : p.2.1 = c := Option.some.inj hc
    exact ⟨p.1, ⟨by rw [List.getElem?_map, hp]; rfl⟩, by rw [← ec]; exact oi.rd⟩
theorem fold_take {n : Nat} {l : List Int} {i : Nat} {x : Int} {a : List Bool} (h : l[i]? = some x) : (l.take (i + 1)).foldl (fa n) a = fa n ((l.take i).foldl (fa n) a) x := by
  rw [get_take h, List.foldl_append]; rfl
end Go.Proofs.Ytonihbbpfliihaa
