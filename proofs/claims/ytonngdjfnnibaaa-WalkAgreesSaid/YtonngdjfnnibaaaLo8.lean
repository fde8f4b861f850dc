/- Clauses of four cells in memory. Conditions: those typed ahead of each theorem. -/
import Derived.Test.YtonngdjfnnibaaaLo7
namespace Go.Proofs.Ytonngdjfnnibaaa
open Go.Pt
set_option linter.unusedVariables false
set_option linter.unusedSimpArgs false
theorem cells4_succ (k : Nat) (F : Nat → Value) : cells4 (k + 1) F = cells4 k F ++ [F (k * 4), F (k * 4 + 1), F (k * 4 + 2), F (k * 4 + 3)] := by
  unfold cells4
  rw [show 4 * (k + 1) = 4 * k + 1 + 1 + 1 + 1 by omega, List.range_succ, List.range_succ, List.range_succ, List.range_succ, show k * 4 = 4 * k by omega]
  simp
theorem cells4_mk {k : Nat} {lw : Nat → Value} {H S P : Nat → Int} (x y z : Int) : cells4 (k + 1) (mkF lw (updR H k x) (updR S k y) (updR P k z)) = cells4 k (mkF lw H S P) ++ [lw k, Iv x, Iv y, Iv z] := by
  rw [cells4_succ, mkF0, mkF1, mkF2, mkF3, updR_at, updR_at, updR_at]
  congr 1
  unfold cells4
  refine List.map_congr_left fun j hj => ?_
  rw [List.mem_range] at hj
  have : j / 4 ≠ k := by omega
  unfold mkF
  rw [updR_ne this, updR_ne this, updR_ne this]
section
variable {h : Heap} {K : Ret}
theorem LdA_four {b : Nat} {x y z w : Value} (hb : Blk h b [x, y, z, w]) : LdA 4 (.pointer (some ⟨b, 0, none⟩)) K h = K (.agg #[x, y, z, w]) h := by
  rw [LdA_at, loads_blk hb 4 0 #[] (by simp)]; rfl
theorem StA_four {b : Nat} {x y z w x' y' z' w' : Value} (hb : Blk h b [x, y, z, w]) (hx : isCell x' = true) (hy : isCell y' = true) (hz : isCell z' = true) (hw : isCell w' = true) (hk : ∀ h', Blk h' b [x', y', z', w'] → Fr [b] h h' → K undef h') : StA 4 (.pointer (some ⟨b, 0, none⟩)) (.agg #[x', y', z', w']) K h := by
  rw [StA_at]
  refine ⟨rfl, ?_⟩
  obtain ⟨h', e, b', f⟩ := stores_blk (o := 0) [x', y', z', w'] h [x, y, z, w] 0 hb (by simp) (by intro v hv; simp at hv; rcases hv with rfl | rfl | rfl | rfl <;> assumption)
  have e' : stores h ⟨b, 0, none⟩ 0 (#[x', y', z', w'] : Array Value).toList = some h' := e
  rw [e']
  exact hk h' (by simpa using b') f
theorem fill_agg {places : Nat → Option (Nat × Nat)} {x y z w a b c d : Value} (hp : places 0 = some (0, 4)) :
    Instr.fill places #[a, b, c, d] [(0, .agg #[x, y, z, w])] = some #[x, y, z, w] := by
  simp [Instr.fill, hp, Value.cells]
theorem BldS_agg {el : Nat} {x y z w a b c d : Value} (hk : ∀ h', Blk h' h.size [x, y, z, w] → Fr [] h h' → h'.size = h.size + 1 → K (.slice (some ⟨h.size, 0, none⟩) 1 1) h') : BldS el 4 1 #[a, b, c, d] [(0, .agg #[x, y, z, w])] K h := by
  rw [BldS_eq]
  have e : (Array.range (1 * 4)).map ((#[a, b, c, d] : Array Value)[· % (#[a, b, c, d] : Array Value).size]!) = #[a, b, c, d] := by
    simp [Array.range, Array.ofFn_succ]
  rw [e, fill_agg rfl]
  exact hk _ (Blk.push h _ el) (Fr.push h _) (by simp)
theorem Own4.app1 {el c : Nat} {a0 a1 a2 a3 x0 x1 x2 x3 : Value} {v : Value} {k : Nat} {F F' : Nat → Value} {bs : List Nat} (o : Own4 h v k F bs) (hc : Blk h c [x0, x1, x2, x3]) (hcell : ∀ x ∈ [x0, x1, x2, x3], isCell x = true) (hF : cells4 (k + 1) F' = cells4 k F ++ [x0, x1, x2, x3]) (hk' : k ≤ 1000000)
    (hk : ∀ v' h' bs', Own4 h' v' (k + 1) F' bs' → Fr bs h h' → (∀ b ∈ bs', b ∈ bs ∨ h.size ≤ b) → K v' h') : App el 4 48 #[a0, a1, a2, a3] v (.slice (some ⟨c, 0, none⟩) 1 1) K h := by
  have hfirst : firstOf 4 1 h (.slice (some ⟨c, 0, none⟩) 1 1) = some #[x0, x1, x2, x3] := by
    simp only [firstOf]
    rw [loads_blk hc (1 * 4) 0 #[] (by simp)]; rfl
  have fin : ∀ (s : Option Addr) (sc : Nat), v = .slice s k sc → sc < k + 1 → firstOf 4 k h (.slice s k sc) = some (cells4 k F).toArray → App el 4 48 #[a0, a1, a2, a3] v (.slice (some ⟨c, 0, none⟩) 1 1) K h := by
    rintro s sc rfl hlt hold
    refine ⟨?_⟩
    simp only [hfirst]
    rw [if_neg (by omega)]
    simp only [hold]
    refine ⟨by rw [show IntKind.i64.max = 9223372036854775807 from rfl]; omega, ?_, fun newCap hn => ?_⟩
    · have := nextcap_le (k + 1) sc (by omega)
      exact Nat.le_trans (Nat.mul_le_mul_right _ this) (by omega)
    · refine hk _ _ [h.size] (.inr ⟨h.size, newCap, (Builtin.zeroCells #[a0, a1, a2, a3] (newCap - (k + 1))).toList, rfl, hn, ?_, ?_, rfl⟩) ((Fr.push h _).mono (by simp)) (by simp)
      · simp [Builtin.zeroCells]; omega
      · have := Blk.push h ((cells4 k F).toArray ++ #[x0, x1, x2, x3] ++ Builtin.zeroCells #[a0, a1, a2, a3] (newCap - (k + 1))) el
        rw [hF]
        simpa using this
  rcases o with ⟨rfl, rfl, rfl⟩ | ⟨b, cap, rest, rfl, hcap, hr, hb, rfl⟩
  · exact fin none 0 rfl (by omega) rfl
  · have hold : firstOf 4 k h (.slice (some ⟨b, 0, none⟩) k cap) = some (cells4 k F).toArray := by
      simp only [firstOf]
      rw [loads_blk hb (k * 4) 0 #[] (by rw [List.length_append, cells4_len]; omega), Nat.zero_add, List.drop_zero, List.take_append_of_le_length (by rw [cells4_len]; omega), List.take_of_length_le (by rw [cells4_len]; omega)]
      simp
    by_cases hle : k + 1 ≤ cap
    · refine ⟨?_⟩
      simp only [hfirst]
      rw [if_pos hle]
      simp only [add_mk, Nat.zero_add]
      obtain ⟨h', e1, e2, e3⟩ := stores_blk (o := k * 4) [x0, x1, x2, x3] h (cells4 k F ++ rest) 0 hb (by rw [List.length_append, cells4_len]; simp; omega) hcell
      have e1' : stores h ⟨b, k * 4, none⟩ 0 (#[x0, x1, x2, x3] : Array Value).toList = some h' := e1
      rw [e1']
      refine hk _ h' [b] (.inr ⟨b, cap, rest.drop 4, rfl, hle, ?_, ?_, rfl⟩) e3 (fun x hx => .inl hx)
      · rw [List.length_drop]; omega
      · rw [hF]
        simp only [Nat.add_zero] at e2
        rw [List.take_append_of_le_length (by rw [cells4_len]; omega), List.take_of_length_le (by rw [cells4_len]; omega), List.drop_append, List.drop_eq_nil_of_le (by rw [cells4_len]; simp; omega), cells4_len, List.nil_append, show k * 4 + [x0, x1, x2, x3].length - 4 * k = 4 by simp; omega] at e2
        exact e2
    · exact fin _ _ rfl (by omega) hold
end
end Go.Proofs.Ytonngdjfnnibaaa
