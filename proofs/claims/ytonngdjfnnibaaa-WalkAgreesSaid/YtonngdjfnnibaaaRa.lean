/- Raw formulas as arguments. Conditions: those typed ahead of each theorem. -/
import Derived.Test.YtonngdjfnnibaaaCf2
namespace Go.Proofs.Ytonngdjfnnibaaa
open Go.Pt
set_option linter.unusedVariables false
set_option linter.unusedSimpArgs false
abbrev rRaw : Rk (Int × List (List Int)) := rLen 2 (rAnd (rField 0 1 (rInt .u8)) (rField 1 1 (rSlice (rSlice (rInt .i16) 1) 1)))
theorem raw_arg {h : Heap} {x : Int × List (List Int)} {cs : Array Value} (r : rRaw.is h x cs.toList) :
    ∃ v ws, cs = #[.int .u8 x.1, v] ∧ (0 ≤ x.1 ∧ x.1 ≤ 255) ∧ (∀ c ∈ x.2, c.length ≤ 140737488351232) ∧ RdX (.int .i16) h v x.2 ws := by
  obtain ⟨hl, hA, hB⟩ := r
  obtain ⟨cl⟩ := cs
  match cl, hl, hA, hB with
  | [y, v], _, hA, hB =>
    obtain ⟨e, h1, h2⟩ := hA
    have e : y = .int .u8 x.1 := by simpa using e
    have hB : (rSlice (rSlice (rInt .i16) 1) 1).is h x.2 [v] := hB
    obtain ⟨⟨ws, hr⟩, hc⟩ := rdx_arg hB
    exact ⟨v, ws, by rw [e], ⟨h1, h2⟩, fun c hm => (hc c hm).1, hr⟩
end Go.Proofs.Ytonngdjfnnibaaa
