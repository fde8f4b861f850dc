/- What a turn breaks and makes, plain. No condition. -/
import Derived.Test.YtonihbbpfliihaaLo16
namespace Go.Proofs.Ytonihbbpfliihaa
open Go.Pt
set_option linter.unusedVariables false
set_option linter.unusedSimpArgs false
theorem flp_flp {a : List Bool} {v : Nat} (h : v - 1 < a.length) : flp (flp a v) v = a := by
  refine List.ext_getElem (by rw [flp_len, flp_len]) fun i h1 h2 => ?_
  have e1 := flp_get (a := flp a v) (v := v) (i := i) (by rw [flp_len]; exact h)
  rw [flp_get h] at e1
  rw [List.getD_eq_getElem?_getD, List.getElem?_eq_getElem h1, List.getD_eq_getElem?_getD, List.getElem?_eq_getElem h2] at e1
  simp only [Option.getD_some] at e1
  rw [e1]
  split <;> simp
theorem cmg_flp {a : List Bool} {v : Nat} (h1 : 1 ≤ v) (h : v - 1 < a.length) : cmg (flp a v) v = -cmg a v := by
  unfold cmg
  rw [flp_get h, if_pos rfl]
  cases a.getD (v - 1) false <;> simp
theorem cntV_wsm (c : List Int) (v : Nat) : cntV c v = wsm (fun y => y.natAbs == v) (fun _ => 1) c := by
  unfold cntV
  induction c with
  | nil => rfl
  | cons y c ih =>
    rw [wsm_cons, ← ih]
    by_cases e : (y.natAbs == v) = true
    · rw [List.countP_cons_of_pos (by simpa using e), if_pos e]; omega
    · rw [List.countP_cons_of_neg (by simpa using e), if_neg e]; omega
section
variable {a : List Bool} {v n : Nat} {c : List Int} (hc : ClOk n c) (nd : c.Nodup) (h1 : 1 ≤ v) (h2 : v - 1 < a.length)
def uC (a : List Bool) (c : List Int) : Int := if hB (litT a) c = 0 then 1 else 0
def bC (a : List Bool) (v : Nat) (c : List Int) : Int := if hB (litT a) c = 1 ∧ sB (litT a) c = (v : Nat) then 1 else 0
def kC (a : List Bool) (v : Nat) (c : List Int) : Int := if hB (litT a) c = 0 then cntV c v else 0
include hc nd h1 h2
theorem flip1 (hin : -cmg a v ∈ c) (hout : cmg a v ∉ c) : uC (flp a v) c = uC a c + bC a v c - kC a v c ∧ bC (flp a v) v c = kC a v c ∧ kC (flp a v) v c = bC a v c := by
  have ha := (cmg_ok (a := a) h1 (Nat.le_refl v)).2.2
  have hna : ((-cmg a v).natAbs : Int) = v := by rw [Int.natAbs_neg, ha]
  obtain ⟨q1, q2, q3, q4⟩ := litT_cmg (a := a) h1 h2
  have eH : hB (litT (flp a v)) c = hB (litT a) c - 1 := by
    unfold hB; rw [wsm_flp2 hc nd h1 h2, wsm_flp1 nd h1 h2, if_neg hout, if_pos hin]; omega
  have eS : sB (litT (flp a v)) c = sB (litT a) c - v := by
    unfold sB; rw [wsm_flp2 hc nd h1 h2, wsm_flp1 nd h1 h2, if_neg hout, if_pos hin]; omega
  have b1 := hB_le (litT (flp a v)) c
  have ev : ∀ y ∈ c, y.natAbs = v → y = -cmg a v := fun y hy e => by
    have : y = cmg a v ∨ y = -cmg a v := by omega
    rcases this with r | r
    · rw [r] at hy; exact absurd hy hout
    · exact r
  have ecv : cntV c v = 1 := by
    rw [cntV_wsm, wsm_congr (p := fun y => decide (y = -cmg a v)) fun y hy => ?_, wsm_at (p := fun _ => false) (l := -cmg a v) nd fun x hx => decide_eq_false hx, wsm_false fun _ _ => rfl, if_pos hin, decide_eq_true rfl]
    · rfl
    · rw [Bool.eq_iff_iff, beq_iff_eq, decide_eq_true_iff]
      exact ⟨ev y hy, fun e => by rw [e]; omega⟩
  have nb : ¬ (hB (litT (flp a v)) c = 1 ∧ sB (litT (flp a v)) c = (v : Nat)) := fun q => by
    obtain ⟨y, hy, hp, hs⟩ := hB_one q.1
    rw [q.2] at hs
    have := ev y hy (by omega)
    rw [this, q4] at hp
    cases hp
  have h0 : hB (litT a) c ≠ 0 := by omega
  unfold uC bC kC
  rw [if_neg h0, if_neg h0, if_neg nb, ecv]
  by_cases e : hB (litT a) c = 1
  · have e0 : hB (litT (flp a v)) c = 0 := by omega
    have := sB_zero e0
    rw [if_pos e0, if_pos ⟨e, by omega⟩]; exact ⟨rfl, rfl, rfl⟩
  · have e0 : ¬ hB (litT (flp a v)) c = 0 := by omega
    rw [if_neg e0, if_neg (fun q => e q.1)]; exact ⟨rfl, rfl, rfl⟩
theorem flip_c (ht : ¬ (cmg a v ∈ c ∧ -cmg a v ∈ c)) : uC (flp a v) c = uC a c + bC a v c - kC a v c ∧ bC (flp a v) v c = kC a v c ∧ kC (flp a v) v c = bC a v c := by
  by_cases hin : -cmg a v ∈ c
  · exact flip1 hc nd h1 h2 hin fun q => ht ⟨q, hin⟩
  by_cases hout : cmg a v ∈ c
  · obtain ⟨r1, r2, r3⟩ := flip1 (a := flp a v) hc nd h1 (by rw [flp_len]; exact h2) (by rw [cmg_flp h1 h2, Int.neg_neg]; exact hout) (by rw [cmg_flp h1 h2]; exact hin)
    rw [flp_flp h2] at r1 r2 r3
    exact ⟨by omega, r3.symm, r2.symm⟩
  · have ha := (cmg_ok (a := a) h1 (Nat.le_refl v)).2.2
    have ev : ∀ y ∈ c, y.natAbs ≠ v := fun y hy e => by
      have : y = cmg a v ∨ y = -cmg a v := by omega
      rcases this with r | r
      · rw [r] at hy; exact hout hy
      · rw [r] at hy; exact hin hy
    have eH : hB (litT (flp a v)) c = hB (litT a) c := by
      unfold hB; rw [wsm_flp2 hc nd h1 h2, wsm_flp1 nd h1 h2, if_neg hout, if_neg hin]; omega
    have nb : ∀ p : Int → Bool, ¬ (hB p c = 1 ∧ sB p c = (v : Nat)) := fun p q => by
      obtain ⟨y, hy, hp, hs⟩ := hB_one q.1
      rw [q.2] at hs
      exact ev y hy (by omega)
    have ecv : cntV c v = 0 := by
      rw [cntV_wsm]
      exact wsm_false fun y hy => by simpa using ev y hy
    unfold uC bC kC
    rw [if_neg (nb _), if_neg (nb _), ecv, ite_self, ite_self, eH]; exact ⟨by omega, rfl, rfl⟩
end
theorem unT_sum (a : List Bool) (F : List (List Int)) : ((unT a F : Nat) : Int) = (F.map (uC a)).sum := by
  unfold unT
  induction F with
  | nil => rfl
  | cons c F ih =>
    rw [List.map_cons, List.sum_cons, ← ih]
    unfold uC
    by_cases e : hB (litT a) c = 0
    · rw [List.countP_cons_of_pos (by simpa using e), if_pos e]; omega
    · rw [List.countP_cons_of_neg (by simpa using e), if_neg e]; omega
def NTaut (F : List (List Int)) : Prop := ∀ c ∈ F, ∀ x, ¬ (x ∈ c ∧ -x ∈ c)
theorem flip_T {n : Nat} {F : List (List Int)} {a : List Bool} {v : Nat} (hF : GF n F) (ht : NTaut F) (h1 : 1 ≤ v) (h2 : v - 1 < a.length) : ((unT (flp a v) F : Nat) : Int) = unT a F + brT a F v - mkT a F v ∧ brT (flp a v) F v = mkT a F v ∧ mkT (flp a v) F v = brT a F v := by
  rw [unT_sum, unT_sum]
  show (F.map (uC (flp a v))).sum = (F.map (uC a)).sum + (F.map (bC a v)).sum - (F.map (kC a v)).sum ∧ (F.map (bC (flp a v) v)).sum = (F.map (kC a v)).sum ∧ (F.map (kC (flp a v) v)).sum = (F.map (bC a v)).sum
  induction F with
  | nil => exact ⟨rfl, rfl, rfl⟩
  | cons c F ih =>
    obtain ⟨i1, i2, i3⟩ := ih (fun d hd => hF d (by simp [hd])) (fun d hd => ht d (by simp [hd]))
    obtain ⟨g1, g2, _⟩ := hF c (by simp)
    obtain ⟨c1, c2, c3⟩ := flip_c g1 g2 h1 h2 (ht c (by simp) _)
    simp only [List.map_cons, List.sum_cons]
    omega
theorem NTaut_fmT {n : Nat} {cs : List (List Int)} (hF : FOk n cs) : NTaut (fmT cs) := fun d hd x hx => by
  obtain ⟨c, hc, rfl⟩ := List.mem_map.1 hd
  have hm := List.mem_filter.1 hc
  have : taut c = true := taut_iff.2 ⟨x, nf_mem.1 hx.1, nf_mem.1 hx.2⟩
  rw [this] at hm
  exact absurd hm.2 (by simp)
end Go.Proofs.Ytonihbbpfliihaa
