/- A row after many moves: plain facts. Conditions: those typed ahead of each theorem. -/
import Derived.Test.YtcmpdfjojeblmaaVm5
namespace Go.Proofs.Ytcmpdfjojeblmaa
open Go.Pt
set_option linter.unusedVariables false
set_option linter.unusedSimpArgs false
def bumps (n : Nat) (l : List Int) : Qm := l.foldl (fun m v => m.bump n v) (mNew n)
theorem bumps_snoc (n : Nat) (l : List Int) (v : Int) : bumps n (l ++ [v]) = (bumps n l).bump n v := by simp [bumps]
theorem bump_k (n : Nat) (m : Qm) (v : Int) : m.k ≤ (m.bump n v).k ∧ (m.bump n v).k ≤ m.k + 1 := by unfold Qm.bump; split <;> simp <;> omega
theorem bumps_k (n : Nat) : ∀ l : List Int, 0 ≤ (bumps n l).k ∧ (bumps n l).k ≤ l.length := by
  intro l
  have : ∀ (l : List Int) (m : Qm), m.k ≤ (l.foldl (fun m v => m.bump n v) m).k ∧ (l.foldl (fun m v => m.bump n v) m).k ≤ m.k + l.length := by
    intro l
    induction l with
    | nil => intro m; simp
    | cons v l ih =>
      intro m
      have h1 := ih (m.bump n v)
      have h2 := bump_k n m v
      simp only [List.foldl_cons, List.length_cons]; omega
  have := this l (mNew n)
  rw [bumps]; simp only [mNew] at this ⊢; omega
theorem take_snoc {xs : List Int} {i : Nat} {x : Int} (h : xs[i]? = some x) : xs.take (i + 1) = xs.take i ++ [x] := by rw [List.take_add_one, h]; rfl
/-- Later moved, further ahead; the unmoved behind, in order. -/
structure SI (m : Qm) : Prop where
  st : ∀ x, 0 ≤ m.st x ∧ m.st x ≤ m.k
  pw : m.row.Pairwise fun a b => m.st a > m.st b ∨ (m.st a = 0 ∧ m.st b = 0 ∧ a < b)
theorem SI.new (n : Nat) : SI (mNew n) := by
  refine ⟨fun x => by simp [mNew], ?_⟩
  have : (List.range' 1 n).Pairwise (· < ·) := List.pairwise_lt_range'
  exact this.imp fun h => .inr ⟨rfl, rfl, h⟩
theorem SI.bump {m : Qm} (n : Nat) (v : Int) (s : SI m) : SI (m.bump n v) := by
  unfold Qm.bump
  split
  · refine ⟨fun x => ?_, ?_⟩
    · have := s.st x
      have := s.st 0
      simp only [upd]
      split <;> omega
    · simp only [List.pairwise_cons]
      refine ⟨fun b hb => ?_, ?_⟩
      · left
        rw [List.mem_filter] at hb
        have h1 : b ≠ v.toNat := by simpa using hb.2
        have := s.st b
        rw [upd_same, upd_ne _ _ h1]; omega
      · refine (s.pw.sublist List.filter_sublist).imp_of_mem fun {a b} ha hb h => ?_
        rw [List.mem_filter] at ha hb
        have h1 : a ≠ v.toNat := by simpa using ha.2
        have h2 : b ≠ v.toNat := by simpa using hb.2
        rw [upd_ne _ _ h1, upd_ne _ _ h2]; exact h
  · exact s
theorem SI.bumps (n : Nat) (l : List Int) : SI (bumps n l) := by
  have : ∀ (l : List Int) (m : Qm), SI m → SI (l.foldl (fun m v => m.bump n v) m) := by
    intro l
    induction l with
    | nil => intro m h; exact h
    | cons v l ih => intro m h; exact ih _ (h.bump n v)
  exact this l _ (SI.new n)
theorem QS.k_lt {h : Heap} {g b n : Nat} {m : Qm} (q : QS h g b n m) : g < h.size ∧ b < h.size := by obtain ⟨f, q1, _⟩ := q.ex; exact ⟨q1.q.lt, q1.l.lt⟩
end Go.Proofs.Ytcmpdfjojeblmaa
