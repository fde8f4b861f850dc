/- What a new state is made of. Conditions: those typed ahead of each theorem. -/
import Derived.Test.YtonngdjfnnibaaaLo8
namespace Go.Proofs.Ytonngdjfnnibaaa
open Go.Pt
set_option linter.unusedVariables false
set_option linter.unusedSimpArgs false
section
variable {N M M' : Nat} {h h' : Heap} {R R' : Nat → Res}
/-- The same things elsewhere, and others that take no place. -/
theorem Sep.spread (σ : Nat → Option Nat) (s : Sep N h M R) (h1 : ∀ q i, q < M' → σ q = some i → i < M ∧ R' q = R i) (h2 : ∀ q, q < M' → σ q = none → (R' q).fp = [] ∧ (R' q).own h)
    (h3 : ∀ q q' i, q < M' → q' < M' → σ q = some i → σ q' = some i → q = q') : Sep N h M' R' := by
  refine ⟨fun q hq => ?_, fun q hq b hb => ?_, fun q q' hq hq' hne b hb hb' => ?_⟩
  · cases e : σ q with
    | none => exact (h2 q hq e).2
    | some i => obtain ⟨hi, er⟩ := h1 q i hq e; rw [er]; exact s.own i hi
  · cases e : σ q with
    | none => rw [(h2 q hq e).1] at hb; cases hb
    | some i => obtain ⟨hi, er⟩ := h1 q i hq e; rw [er] at hb; exact s.lo i hi b hb
  · cases e : σ q with
    | none => rw [(h2 q hq e).1] at hb; cases hb
    | some i =>
      obtain ⟨hi, er⟩ := h1 q i hq e
      rw [er] at hb
      cases e' : σ q' with
      | none => rw [(h2 q' hq' e').1] at hb'; cases hb'
      | some i' =>
        obtain ⟨hi', er'⟩ := h1 q' i' hq' e'
        rw [er'] at hb'
        exact s.dj i i' hi hi' (fun q => by subst q; exact hne (h3 _ _ _ hq hq' e e')) b hb hb'
theorem Sep.less (s : Sep N h M R) (hM : M' ≤ M) : Sep N h M' R := ⟨fun i hi => s.own i (by omega), fun i hi => s.lo i (by omega), fun i j hi hj => s.dj i j (by omega) (by omega)⟩
end
/-- The clauses of a formula, each its own thing, and their row. -/
def psR (v : Value) (b0 : List Nat) (ps : List (Value × List Int × List Nat)) : Nat → Res := fun i => match ps[i]? with
  | some p => rOwn p.1 (p.2.1.map Iv) p.2.2
  | none => rOwn v (ps.map (·.1)) b0
theorem OwnF.sep {h : Heap} {v : Value} {N : Nat} {b0 : List Nat} {ps : List (Value × List Int × List Nat)} (o : OwnF h v N b0 ps) : Sep N h (ps.length + 1) (psR v b0 ps) := by
  have hp : ∀ i, i < ps.length → ∃ p, ps[i]? = some p ∧ psR v b0 ps i = rOwn p.1 (p.2.1.map Iv) p.2.2 ∧ p ∈ ps := fun i hi => ⟨ps[i], List.getElem?_eq_getElem hi, by unfold psR; rw [List.getElem?_eq_getElem hi], List.getElem_mem hi⟩
  have hn : psR v b0 ps ps.length = rOwn v (ps.map (·.1)) b0 := by unfold psR; rw [List.getElem?_eq_none (Nat.le_refl _)]
  have hlt : ∀ i, i < ps.length + 1 → i ≠ ps.length → i < ps.length := fun i _ _ => by omega
  have key : ∀ i j, i < j → j < ps.length + 1 → ∀ b ∈ (psR v b0 ps i).fp, b ∉ (psR v b0 ps j).fp := by
    intro i j hij hj b hb hb'
    obtain ⟨p, ep, rp, mp⟩ := hp i (by omega)
    rw [rp] at hb
    by_cases e : j = ps.length
    · subst e; rw [hn] at hb'; exact (o.los p mp b hb).2 hb'
    · obtain ⟨q, eq, rq, mq⟩ := hp j (by omega)
      rw [rq] at hb'
      have := List.pairwise_iff_getElem.1 o.dj i j (by omega) (by omega) hij
      rw [List.getElem?_eq_getElem (by omega)] at ep eq
      rw [Option.some.inj ep, Option.some.inj eq] at this
      exact this b hb hb'
  refine ⟨fun i hi => ?_, fun i hi b hb => ?_, fun i j hi hj hne b hb hb' => ?_⟩
  · by_cases e : i = ps.length
    · subst e; rw [hn]; exact o.own
    · obtain ⟨p, ep, rp, mp⟩ := hp i (by omega)
      rw [rp]; exact o.each p mp
  · by_cases e : i = ps.length
    · subst e; rw [hn] at hb; exact o.lo b hb
    · obtain ⟨p, ep, rp, mp⟩ := hp i (by omega)
      rw [rp] at hb; exact (o.los p mp b hb).1
  · rcases Nat.lt_or_ge i j with q | q
    · exact key i j q hj b hb hb'
    · exact key j i (by omega) hi b hb' hb
section
variable {N M : Nat} {h h' : Heap} {R : Nat → Res} {o sb n K : Nat} {m : LMod}
/-- One row of occurrences is put. -/
theorem LR.puto (l : LR R o sb n K m) (s : Sep N h M R) (hM : o + 8 + 2 * n + K ≤ M) {j : Nat} {v' : Value} {oc' : List Nat} {b' : List Nat} (hj : j < 2 * n) (hN : N ≤ h.size) (w : (rOwn v' (ints oc') b').own h') (f : Fr (m.ofp j) h h') (hb : ∀ b ∈ b', b ∈ m.ofp j ∨ h.size ≤ b) :
    Sep N h' M (updR R (o + 8 + j) (rOwn v' (ints oc') b')) ∧ LR (updR R (o + 8 + j) (rOwn v' (ints oc') b')) o sb n K { m with ow := updR m.ow j v', occ := updR m.occ j oc', ofp := updR m.ofp j b' } := by
  have e := l.ro j hj
  refine ⟨s.set (by omega) (by rw [e]; exact f) w (fun b hb' => by rw [e]; exact hb b hb') hN, ⟨(updR_ne (by omega)).trans l.r0, (updR_ne (by omega)).trans l.r1, (updR_ne (by omega)).trans l.r2, (updR_ne (by omega)).trans l.r3, (updR_ne (by omega)).trans l.r4, (updR_ne (by omega)).trans l.r5, (updR_ne (by omega)).trans l.r6, (updR_ne (by omega)).trans l.r7, fun q hq => ?_, fun i hi => (updR_ne (by omega)).trans (l.rl i hi), l.kK⟩⟩
  by_cases e : q = j
  · subst e; rw [updR_at]; simp only [updR_at]
  · rw [updR_ne (by omega)]; simp only [updR_ne e]; exact l.ro q hq
end
/-- A clause more, not yet counted. -/
theorem Cnt.grow {n k : Nat} {L : Nat → List Int} {H S P : Nat → Int} {row : List Nat} {br ma : Nat → Int} (c : Cnt n k (fun _ => true) L H S P row br ma) (x y : Int) : Cnt n (k + 1) (updR (fun _ => true) k false) L (updR H k x) (updR S k y) (updR P k (-1)) row br ma := by
  have hlt : ∀ i, i ∈ row → i ≠ k := fun i hi => by have := ((c.mem i).1 hi).1; omega
  refine ⟨fun v hv => ?_, fun v hv => ?_, c.nd, fun i => ?_, fun j i hj => ?_, fun i hi hn => ?_⟩
  · rw [c.br v hv, smI_succ]
    rw [if_neg (show ¬ (updR (fun _ => true) k false k = true ∧ _) from fun q => by rw [updR_at] at q; cases q.1), Int.add_zero]
    exact smI_congr fun i hi => by rw [updR_ne (by omega), updR_ne (by omega), updR_ne (by omega)]
  · rw [c.ma v hv, smI_succ]
    rw [if_neg (show ¬ (updR (fun _ => true) k false k = true ∧ _) from fun q => by rw [updR_at] at q; cases q.1), Int.add_zero]
    exact smI_congr fun i hi => by rw [updR_ne (by omega), updR_ne (by omega)]
  · rw [c.mem]
    by_cases e : i = k
    · subst e; rw [updR_at]; simp
    · rw [updR_ne e, updR_ne e]
      constructor
      · rintro ⟨h1, h2, h3⟩; exact ⟨by omega, h2, h3⟩
      · rintro ⟨h1, h2, h3⟩; exact ⟨by omega, h2, h3⟩
  · have := List.mem_of_getElem? hj
    rw [updR_ne (hlt i this)]; exact c.pl j i hj
  · by_cases e : i = k
    · subst e; rw [updR_at]
    · rw [updR_ne e]; exact c.pn i (by omega) hn
theorem nf_nodup (c : List Int) : (nf c).Nodup := (nf_asc c).imp fun h e => by subst e; omega
theorem GF_fmT {n : Nat} {cs : List (List Int)} (hF : FOk n cs) (hll : ∀ c ∈ cs, c.length ≤ 1000) : GF n (fmT cs) := fun d hd => by
  obtain ⟨c, hc, rfl⟩ := List.mem_map.1 hd
  have hm := (List.mem_filter.1 hc).1
  exact ⟨fun x hx => hF c hm x (nf_mem.1 hx), nf_nodup c, Nat.le_trans (nf_len c) (hll c hm)⟩
/-! ### The occurrences, as the clauses come -/
def OcT (n i : Nat) (F : List (List Int)) (D : List Int) (occ : Nat → List Nat) : Prop := ∀ j, j < 2 * n → (occ j).Pairwise (· < ·) ∧ ∀ q, q ∈ occ j ↔ (q < i ∧ ∃ c, F[q]? = some c ∧ lat j ∈ c) ∨ (q = i ∧ lat j ∈ D)
theorem OcT.step {n i : Nat} {F : List (List Int)} {D : List Int} {occ : Nat → List Nat} {x : Int} (t : OcT n i F D occ) (hx : LitOk n x) (hn : x ∉ D) : OcT n i F (D ++ [x]) (updR occ (ix x).toNat (occ (ix x).toNat ++ [i])) := by
  intro j hj
  obtain ⟨nd, hm⟩ := t j hj
  by_cases e : j = (ix x).toNat
  · subst e
    have hl := lat_ix hx
    rw [updR_at]
    have hni : i ∉ occ (ix x).toNat := fun q => by
      rcases (hm i).1 q with ⟨q, _⟩ | ⟨_, q⟩
      · omega
      · rw [hl] at q; exact hn q
    refine ⟨by
      rw [List.pairwise_append]
      refine ⟨nd, by simp, fun a ha b hb => ?_⟩
      simp at hb; subst hb
      rcases (hm a).1 ha with ⟨q, _⟩ | ⟨q, _⟩
      · exact q
      · subst q; exact absurd ha hni, fun q => ?_⟩
    rw [List.mem_append, hm, hl]
    constructor
    · rintro ((q1 | ⟨q1, q2⟩) | q1)
      · exact .inl q1
      · exact .inr ⟨q1, by simp⟩
      · simp at q1; exact .inr ⟨q1, by simp⟩
    · rintro (q1 | ⟨q1, q2⟩)
      · exact .inl (.inl q1)
      · exact .inr (by simp [q1])
  · rw [updR_ne e]
    have hl : lat j ≠ x := fun q => e ((lat_eq hx).1 q)
    refine ⟨nd, fun q => ?_⟩
    rw [hm]
    simp [hl]
theorem OcT.next {n i : Nat} {F : List (List Int)} {D : List Int} {occ : Nat → List Nat} (t : OcT n i F D occ) (hD : F[i]? = some D) : OcT n (i + 1) F [] occ := fun j hj => ⟨(t j hj).1, fun q => by
  rw [(t j hj).2]
  constructor
  · rintro (⟨q1, q2⟩ | ⟨q1, q2⟩)
    · exact .inl ⟨by omega, q2⟩
    · subst q1; exact .inl ⟨by omega, D, hD, q2⟩
  · rintro (⟨q1, c, q2, q3⟩ | ⟨_, q2⟩)
    · by_cases e : q = i
      · subst e; rw [hD] at q2; exact .inr ⟨rfl, by rw [Option.some.inj q2]; exact q3⟩
      · exact .inl ⟨by omega, c, q2, q3⟩
    · cases q2⟩
theorem OcT.len {n i : Nat} {F : List (List Int)} {D : List Int} {occ : Nat → List Nat} (t : OcT n i F D occ) {j : Nat} (hj : j < 2 * n) : (occ j).length ≤ i + 1 := by
  have := nd_le (s := List.range (i + 1)) ((t j hj).1.imp Nat.ne_of_lt) fun q hq => by
    rcases ((t j hj).2 q).1 hq with ⟨q1, _⟩ | ⟨q1, _⟩ <;> exact List.mem_range.2 (by omega)
  rwa [List.length_range] at this
/-- As far as i clauses are in. -/
structure Bt (n i : Nat) (m : LMod) (F : List (List Int)) (a : List Bool) : Prop where
  ek : m.k = i
  ea : m.a = a
  ew : m.few = 0
  ef : m.fl = 0
  L : ∀ (q : Nat) (c : List Int), F[q]? = some c → m.L q = c
  H : ∀ (q : Nat) (c : List Int), q < i → F[q]? = some c → m.H q = hB (litT a) c
  S : ∀ (q : Nat) (c : List Int), q < i → F[q]? = some c → m.S q = sB (litT a) c
  cnt : Cnt n m.k (fun _ => true) m.L m.H m.S m.P m.row m.br m.ma
  rs : m.row.Pairwise (· < ·)
end Go.Proofs.Ytonngdjfnnibaaa
