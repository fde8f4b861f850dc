/- Things in memory, each with its footprint, all apart. No condition. -/
import Derived.Test.YtonngdjfnnibaaaFn
import Derived.Test.YtonngdjfnnibaaaPtS
namespace Go.Proofs.Ytonngdjfnnibaaa
open Go.Pt
set_option linter.unusedVariables false
set_option linter.unusedSimpArgs false
/-- A thing in memory. -/
structure Res where
  own : Heap → Prop
  fp : List Nat
  fr : ∀ {S : List Nat} {h h' : Heap}, own h → Fr S h h' → (∀ b ∈ fp, b ∉ S) → own h'
  lt : ∀ {h : Heap}, own h → ∀ b ∈ fp, b < h.size
  one : ∀ {l : Nat} {h h' : Heap}, own h → One l h h' → own h'
def rBlk (b : Nat) (cs : List Value) : Res := ⟨fun h => Blk h b cs, [b], fun o f hS => o.fr f (hS b (by simp)), fun o b' hb => by simp at hb; rw [hb]; exact o.lt, fun o f => o.one f⟩
def rOwn (v : Value) (xs : List Value) (bs : List Nat) : Res := ⟨fun h => Own h v xs bs, bs, fun o f hS => Own.fr o f hS, fun o => Own.lt o, fun o f => Own.one o f⟩
/-- Things 0 to m, all from N on, all apart. -/
structure Sep (N : Nat) (h : Heap) (m : Nat) (R : Nat → Res) : Prop where
  own : ∀ i, i < m → (R i).own h
  lo : ∀ i, i < m → ∀ b ∈ (R i).fp, N ≤ b
  dj : ∀ i j, i < m → j < m → i ≠ j → ∀ b ∈ (R i).fp, b ∉ (R j).fp
def updR {α : Type} (R : Nat → α) (i : Nat) (r : α) : Nat → α := fun j => if j = i then r else R j
theorem updR_at {α : Type} (R : Nat → α) (i : Nat) (r : α) : updR R i r i = r := if_pos rfl
theorem updR_ne {α : Type} {R : Nat → α} {i j : Nat} {r : α} (h : j ≠ i) : updR R i r j = R j := if_neg h
section
variable {N m : Nat} {h h' : Heap} {R : Nat → Res}
theorem Sep.fr (s : Sep N h m R) (f : Fr [] h h') : Sep N h' m R := ⟨fun i hi => (R i).fr (s.own i hi) f (by simp), s.lo, s.dj⟩
theorem Sep.one {l : Nat} (s : Sep N h m R) (f : One l h h') : Sep N h' m R := ⟨fun i hi => (R i).one (s.own i hi) f, s.lo, s.dj⟩
theorem Sep.lt (s : Sep N h m R) : ∀ i, i < m → ∀ b ∈ (R i).fp, b < h.size := fun i hi => (R i).lt (s.own i hi)
/-- One thing takes another's place. -/
theorem Sep.set {i : Nat} {r : Res} (s : Sep N h m R) (hi : i < m) (f : Fr (R i).fp h h') (o : r.own h') (hb : ∀ b ∈ r.fp, b ∈ (R i).fp ∨ h.size ≤ b) (hN : N ≤ h.size) : Sep N h' m (updR R i r) := by
  refine ⟨fun j hj => ?_, fun j hj b hm => ?_, fun j k hj hk hjk b hm hm' => ?_⟩
  · by_cases e : j = i
    · subst e; rw [updR_at]; exact o
    · rw [updR_ne e]; exact (R j).fr (s.own j hj) f (s.dj j i hj hi e)
  · by_cases e : j = i
    · subst e; rw [updR_at] at hm
      rcases hb b hm with q | q
      · exact s.lo j hj b q
      · omega
    · rw [updR_ne e] at hm; exact s.lo j hj b hm
  · by_cases e : j = i
    · subst e
      rw [updR_at] at hm
      rw [updR_ne (fun q => hjk q.symm)] at hm'
      rcases hb b hm with q | q
      · exact s.dj j k hj hk hjk b q hm'
      · have := s.lt k hk b hm'; omega
    · rw [updR_ne e] at hm
      by_cases e' : k = i
      · subst e'
        rw [updR_at] at hm'
        rcases hb b hm' with q | q
        · exact s.dj j k hj hk hjk b hm q
        · have := s.lt j hj b hm; omega
      · rw [updR_ne e'] at hm'; exact s.dj j k hj hk hjk b hm hm'
/-- One thing more. -/
theorem Sep.add {r : Res} (s : Sep N h m R) (f : Fr [] h h') (o : r.own h') (hb : ∀ b ∈ r.fp, h.size ≤ b) (hN : N ≤ h.size) : Sep N h' (m + 1) (updR R m r) := by
  refine ⟨fun j hj => ?_, fun j hj b hm => ?_, fun j k hj hk hjk b hm hm' => ?_⟩
  · by_cases e : j = m
    · subst e; rw [updR_at]; exact o
    · rw [updR_ne e]; exact (R j).fr (s.own j (by omega)) f (by simp)
  · by_cases e : j = m
    · subst e; rw [updR_at] at hm
      have := hb b hm; omega
    · rw [updR_ne e] at hm; exact s.lo j (by omega) b hm
  · by_cases e : j = m
    · subst e
      rw [updR_at] at hm
      rw [updR_ne (fun q => hjk q.symm)] at hm'
      have := hb b hm; have := s.lt k (by omega) b hm'; omega
    · rw [updR_ne e] at hm
      by_cases e' : k = m
      · subst e'
        rw [updR_at] at hm'
        have := hb b hm'; have := s.lt j (by omega) b hm; omega
      · rw [updR_ne e'] at hm'; exact s.dj j k (by omega) (by omega) hjk b hm hm'
theorem Sep.nil (h : Heap) : Sep N h 0 R := ⟨fun i hi => by omega, fun i hi => by omega, fun i j hi => by omega⟩
theorem Sep.congr {R' : Nat → Res} (s : Sep N h m R) (e : ∀ i, i < m → R' i = R i) : Sep N h m R' :=
  ⟨fun i hi => by rw [e i hi]; exact s.own i hi, fun i hi => by rw [e i hi]; exact s.lo i hi, fun i j hi hj => by rw [e i hi, e j hj]; exact s.dj i j hi hj⟩
/-- Fewer, in another order. -/
theorem Sep.pick {m' : Nat} (s : Sep N h m R) (σ : Nat → Nat) (hσ : ∀ i, i < m' → σ i < m) (hinj : ∀ i j, i < m' → j < m' → i ≠ j → σ i ≠ σ j) : Sep N h m' (fun i => R (σ i)) :=
  ⟨fun i hi => s.own _ (hσ i hi), fun i hi => s.lo _ (hσ i hi), fun i j hi hj hij => s.dj _ _ (hσ i hi) (hσ j hj) (hinj i j hi hj hij)⟩
theorem Sep.mono {N' : Nat} (s : Sep N h m R) (hN : N' ≤ N) : Sep N' h m R := ⟨s.own, fun i hi b hb => by have := s.lo i hi b hb; omega, s.dj⟩
/-- Two heaps of things, one newer than the other. -/
theorem Sep.append {m' N' : Nat} {R' : Nat → Res} (s : Sep N h m R) (s' : Sep N' h' m' R') (f : Fr [] h h') (hN : h.size ≤ N') (hN' : N ≤ h.size) : Sep N h' (m + m') (fun i => if i < m then R i else R' (i - m)) := by
  refine ⟨fun j hj => ?_, fun j hj b hm => ?_, fun j k hj hk hjk b hm hm' => ?_⟩
  · by_cases e : j < m
    · simp only [if_pos e]; exact (R j).fr (s.own j e) f (by simp)
    · simp only [if_neg e]; exact s'.own _ (by omega)
  · by_cases e : j < m
    · simp only [if_pos e] at hm; exact s.lo j e b hm
    · simp only [if_neg e] at hm; have := s'.lo _ (by omega) b hm; omega
  · by_cases e : j < m
    · simp only [if_pos e] at hm
      by_cases e' : k < m
      · simp only [if_pos e'] at hm'; exact s.dj j k e e' hjk b hm hm'
      · simp only [if_neg e'] at hm'; have := s'.lo _ (by omega) b hm'; have := s.lt j e b hm; omega
    · simp only [if_neg e] at hm
      by_cases e' : k < m
      · simp only [if_pos e'] at hm'; have := s'.lo _ (by omega) b hm; have := s.lt k e' b hm'; omega
      · simp only [if_neg e'] at hm'; exact s'.dj _ _ (by omega) (by omega) (by omega) b hm hm'
end
/-! ### Sums over a range -/
def smI (k : Nat) (g : Nat → Int) : Int := ((List.range k).map g).sum
theorem smI_zero (g : Nat → Int) : smI 0 g = 0 := rfl
theorem smI_succ (k : Nat) (g : Nat → Int) : smI (k + 1) g = smI k g + g k := by
  unfold smI; rw [List.range_succ, List.map_append, List.sum_append]; simp
theorem smI_congr {k : Nat} {g g' : Nat → Int} (h : ∀ i, i < k → g i = g' i) : smI k g = smI k g' := by
  induction k with
  | zero => rfl
  | succ k ih => rw [smI_succ, smI_succ, ih fun i hi => h i (by omega), h k (by omega)]
theorem smI_upd {k i : Nat} {g g' : Nat → Int} (hi : i < k) (h : ∀ j, j < k → j ≠ i → g' j = g j) : smI k g' = smI k g + (g' i - g i) := by
  induction k with
  | zero => omega
  | succ k ih =>
    rw [smI_succ, smI_succ]
    by_cases e : i = k
    · subst e
      rw [smI_congr (g := g') (g' := g) fun j hj => h j (by omega) (by omega)]
      omega
    · rw [ih (by omega) fun j hj hne => h j (by omega) hne, h k (by omega) (fun q => e q.symm)]
      omega
theorem smI_nonneg {k : Nat} {g : Nat → Int} (h : ∀ i, i < k → 0 ≤ g i) : 0 ≤ smI k g := by
  induction k with
  | zero => rw [smI_zero]; exact Int.le_refl _
  | succ k ih => rw [smI_succ]; have := ih fun i hi => h i (by omega); have := h k (by omega); omega
theorem smI_le {k : Nat} {g : Nat → Int} {B : Int} (h : ∀ i, i < k → g i ≤ B) : smI k g ≤ k * B := by
  induction k with
  | zero => rw [smI_zero]; simp
  | succ k ih =>
    rw [smI_succ]; have := ih fun i hi => h i (by omega); have := h k (by omega)
    rw [show ((k + 1 : Nat) : Int) * B = (k : Int) * B + B by push_cast; rw [Int.add_mul, Int.one_mul]]
    omega
end Go.Proofs.Ytonngdjfnnibaaa
