/- Two states side by side, and turns in another order. Conditions: those typed ahead of each theorem. -/
import Derived.Test.YtonngdjfnnibaaaLo18
namespace Go.Proofs.Ytonngdjfnnibaaa
open Go.Pt
set_option linter.unusedVariables false
set_option linter.unusedSimpArgs false
theorem LR.cong2 {R R' : Nat → Res} {o sb n K : Nat} {m : LMod} (l : LR R o sb n K m) (e : ∀ q, o ≤ q → q < o + 8 + 2 * n + K → R' q = R q) : LR R' o sb n K m :=
  ⟨(e _ (by omega) (by omega)).trans l.r0, (e _ (by omega) (by omega)).trans l.r1, (e _ (by omega) (by omega)).trans l.r2, (e _ (by omega) (by omega)).trans l.r3, (e _ (by omega) (by omega)).trans l.r4, (e _ (by omega) (by omega)).trans l.r5, (e _ (by omega) (by omega)).trans l.r6, (e _ (by omega) (by omega)).trans l.r7, fun j hj => (e _ (by omega) (by omega)).trans (l.ro j hj), fun i hi => (e _ (by omega) (by omega)).trans (l.rl i hi), l.kK⟩
theorem LR.shift {R R' : Nat → Res} {o sb n K : Nat} {m : LMod} (l : LR R 0 sb n K m) (e : ∀ q, q < 8 + 2 * n + K → R' (o + q) = R q) : LR R' o sb n K m :=
  ⟨(e 0 (by omega)).trans l.r0, (e 1 (by omega)).trans l.r1, (e 2 (by omega)).trans l.r2, (e 3 (by omega)).trans l.r3, (e 4 (by omega)).trans l.r4, (e 5 (by omega)).trans l.r5, (e 6 (by omega)).trans l.r6, (e 7 (by omega)).trans l.r7,
    fun j hj => by rw [show o + 8 + j = o + (8 + j) by omega, e _ (by omega), show 8 + j = 0 + 8 + j by omega]; exact l.ro j hj,
    fun i hi => by rw [show o + 8 + 2 * n + i = o + (8 + 2 * n + i) by omega, e _ (by omega), show 8 + 2 * n + i = 0 + 8 + 2 * n + i by omega]; exact l.rl i hi, l.kK⟩
/-- Two states. -/
structure Two (N : Nat) (h : Heap) (M : Nat) (R : Nat → Res) (sb o tb n : Nat) (F : List (List Int)) (w w' : W) (m m' : LMod) : Prop where
  s : St4 N h M R 0 sb n F w m
  t : St4 N h M R o tb n F w' m'
  le : 8 + 2 * n + F.length ≤ o
theorem Two.fr {N M : Nat} {h h' : Heap} {R : Nat → Res} {sb o tb n : Nat} {F : List (List Int)} {w w' : W} {m m' : LMod} (t : Two N h M R sb o tb n F w w' m m') (f : Fr [] h h') : Two N h' M R sb o tb n F w w' m m' := ⟨t.s.fr f, t.t.fr f, t.le⟩
theorem two_mk {N N' M M' : Nat} {h h' : Heap} {R R' : Nat → Res} {sb tb n : Nat} {F : List (List Int)} {w w' : W} {m m' : LMod} (s : St4 N h M R 0 sb n F w m) (t : St4 N' h' M' R' 0 tb n F w' m') (f : Fr [] h h') (hN : h.size ≤ N') : ∃ R2, Two N h' (M + M') R2 sb M tb n F w w' m m' := by
  have hM := s.s.hM
  have hM' := t.s.hM
  have sp := s.s.sep.append t.s.sep f hN s.s.nN
  have z := f.size
  have := s.s.nN
  refine ⟨_, ⟨⟨sp, s.s.lr.congr fun q hq => if_pos (by omega), s.s.st, by omega, by omega, s.s.al, s.s.nb, s.s.Kb⟩, s.r⟩, ⟨⟨sp, t.s.lr.shift fun q hq => ?_, t.s.st, by omega, by omega, t.s.al, t.s.nb, t.s.Kb⟩, t.r⟩, by omega⟩
  rw [if_neg (by omega), Nat.add_sub_cancel_left]
section
variable {N M : Nat} {h h' : Heap} {R : Nat → Res} {sb o tb n : Nat} {F : List (List Int)} {w w' : W} {m m' : LMod} {Q : Ret}
end
/-! ### Turns in another order -/
def fa (n : Nat) (a : List Bool) (v : Int) : List Bool := if inR n v then flp a v.toNat else a
section
variable {n : Nat}
end
end Go.Proofs.Ytonngdjfnnibaaa
