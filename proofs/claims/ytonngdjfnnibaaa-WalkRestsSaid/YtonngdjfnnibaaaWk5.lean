/- How the laws of the walk begin, and their arguments. Conditions: those typed ahead of each theorem. -/
import Derived.Test.YtonngdjfnnibaaaWk
import Derived.Test.YtonngdjfnnibaaaRa
namespace Go.Proofs.Ytonngdjfnnibaaa
open Go.Pt
set_option linter.unusedVariables false
set_option linter.unusedSimpArgs false
theorem triple_arg {k : IntKind} {h : Heap} {xs : List Int} {cs : Array Value} (r : (rArr 3 (rInt k) 1).is h xs cs.toList) : ∃ x y z : Int, cs = #[.int k x, .int k y, .int k z] ∧ (k.min ≤ x ∧ x ≤ k.max) ∧ (k.min ≤ y ∧ y ≤ k.max) ∧ (k.min ≤ z ∧ z ≤ k.max) := by
  obtain ⟨h1, h2, h3⟩ := r
  match xs, h1 with
  | [a, b, c], _ =>
    obtain ⟨l⟩ := cs
    match l, h2 with
    | [d, e, f], _ =>
      obtain ⟨e0, l0, u0⟩ := h3 0 a rfl
      obtain ⟨e1, l1, u1⟩ := h3 1 b rfl
      obtain ⟨e2, l2, u2⟩ := h3 2 c rfl
      have e0 : d = .int k a := by simpa using e0
      have e1 : e = .int k b := by simpa using e1
      have e2 : f = .int k c := by simpa using e2
      exact ⟨a, b, c, by rw [e0, e1, e2], ⟨l0, u0⟩, ⟨l1, u1⟩, ⟨l2, u2⟩⟩
section
variable {h : Heap} {K : Ret}
/-- The formula is made. -/
theorem wk_form {R : Value → Heap → Prop} {a : Int} {xss : List (List Int)} {ws : List Value} {v : Value} {rb : Nat} {vars : Nat} {ty : TypeId} (hvars : vars ≤ 12) (ha : 0 ≤ a ∧ a ≤ 255) (h1 : xss.length ≤ 40) (h2 : ∀ c ∈ xss, c.length ≤ 400) (b : Blk h rb [.int .u8 a, v]) (hv : RdX (.int .i16) h v xss ws)
    (hk : ∀ n cs fb u wf h', n ≤ 12 → FOk n cs → cs.length ≤ 40 → (∀ c ∈ cs, c.length ≤ 6) → Blk h' fb [Iv n, u] → h.size ≤ fb → RdL h' u cs wf → Fr [] h h' → R (ptr fb) h') :
    go (LdA 2 (ptr rb)) h fun t28 h => go (CallF Try.prog bradawllaw02_Raw_Formula.id [t28, Iv (vars : Nat), (.int .i64 6)]) h fun t29 h => go (New #[(.int .i64 0), (.slice none 0 0)] ty) h fun t8 h => go (StA 2 t8 t29) h fun _ h => R t8 h := by
  rw [go_eq, LdA_two b, go_eq, CallF_eq]
  refine bradawllaw02_Raw_Formula.spec (vars := vars) (w := 6) ha (by omega) (by omega) (by omega) (fun c hc => by have := h2 c hc; omega) hv fun u b0 ps h4 oF hcs f4 => ?_
  have hok := rawF_ok (a % ((vars : Int) + 1)).toNat 6 xss
  have hlen := rawF_len (a % ((vars : Int) + 1)).toNat 6 xss
  have hcl9 := rawF_cl (a % ((vars : Int) + 1)).toNat 6 xss
  have hn9 : (a % ((vars : Int) + 1)).toNat ≤ 12 := by have := Int.emod_lt_of_pos a (show 0 < (vars : Int) + 1 by omega); omega
  generalize rawF (a % ((vars : Int) + 1)).toNat 6 xss = cs at *
  generalize (a % ((vars : Int) + 1)).toNat = n at *
  have rd4 := oF.rdl
  rw [hcs] at rd4
  have z4 := f4.size
  rw [go_eq]
  refine New_blk fun h5 b5 f5 s5 => ?_
  have b5 : Blk h5 h4.size [Iv 0, nilS] := b5
  rw [go_eq]
  refine StA_two b5 rfl oF.own.rd.isCell fun h6 b6 f6 => ?_
  have f46 : Fr [] h4 h6 := f5.trans' f6 fun b hb => .inr (by simp at hb; omega)
  exact hk n cs h4.size u _ h6 hn9 hok (by omega) hcl9 b6 (by omega) (rd4.fr f46) (f4.trans f46)
end
end Go.Proofs.Ytonngdjfnnibaaa
