/- The row of the law ArenaAll: whatever is handed in, the call returns true and leaves all as it was. No condition. -/
import Derived.Test.YthekbpaekopmfaaRows
import Derived.Test.YthekbpaekopmfaaPtP
import Derived.Test.YthekbpaekopmfaaArenaAll
namespace Go.Proofs.Ythekbpaekopmfaa.arenaAll
open Go.ChangeShapes Go.WideShapes Go.ChangeAt Go.RowKit Go.Pt
open Go.ChangeMaps (open_string shut_string)
set_option linter.unusedVariables false
set_option linter.unusedSimpArgs false
theorem own : ownKnob Try.prog.godebug = none := by kernel_rfl
theorem laidOut : laidOutB Try.prog = true := by kernel_rfl
theorem opens0 : Opens Try.prog 38 (rSlice (rLen 5 (rAnd (rField 0 1 (rInt .u8)) (rAnd (rField 1 1 (rInt .i64)) (rAnd (rField 2 1 (rInt .i64)) (rAnd (rField 3 1 (rSlice (rInt .i8) 1)) (rField 4 1 (rInt .u8))))))) 5) := (opens_slice Try.underlying38 (by kernel_rfl) (opens_struct (A := (rAnd (rField 0 1 (rInt .u8)) (rAnd (rField 1 1 (rInt .i64)) (rAnd (rField 2 1 (rInt .i64)) (rAnd (rField 3 1 (rSlice (rInt .i8) 1)) (rField 4 1 (rInt .u8))))))) Try.underlying43 (by kernel_rfl) (fun h cs _ hf => by obtain ⟨a0, h0⟩ := hf 0 _ rfl _ _ (opens_int Try.underlying5); rw [show Try.prog.cellsOf _ = 1 from by kernel_rfl] at h0; obtain ⟨a1, h1⟩ := hf 1 _ rfl _ _ (opens_int Try.underlying3); rw [show Try.prog.cellsOf _ = 1 from by kernel_rfl] at h1; obtain ⟨a2, h2⟩ := hf 2 _ rfl _ _ (opens_int Try.underlying3); rw [show Try.prog.cellsOf _ = 1 from by kernel_rfl] at h2; obtain ⟨a3, h3⟩ := hf 3 _ rfl _ _ (opens_slice Try.underlying41 (by kernel_rfl) (opens_int Try.underlying52) (of_decide_eq_true (by kernel_rfl))); rw [show Try.prog.cellsOf _ = 1 from by kernel_rfl] at h3; obtain ⟨a4, h4⟩ := hf 4 _ rfl _ _ (opens_int Try.underlying5); rw [show Try.prog.cellsOf _ = 1 from by kernel_rfl] at h4; exact ⟨(a0, (a1, (a2, (a3, a4)))), ⟨h0, ⟨h1, ⟨h2, ⟨h3, h4⟩⟩⟩⟩⟩)) (of_decide_eq_true (by kernel_rfl)))
theorem opens1 : Opens Try.prog 5 (rInt .u8) := (opens_int Try.underlying5)
theorem opens2 : Opens Try.prog 5 (rInt .u8) := (opens_int Try.underlying5)
set_option maxRecDepth 100000 in
theorem lifted (os : Os) (started : os.Started) (H : Type) (enc : TypeId × Value → H) :
    ReturnsInHanded {} Try.checked os 5 .any (Rows.arenaAllSpec.pre6 enc Try.prog Try.f5 Rows.arenaAllRow.domain false) (Rows.arenaAllSpec.post enc Try.prog Try.f5 false true false false) := by
  refine returnsInHanded_of_change_sized (C := Try.checked) own started (by kernel_rfl) Try.func5
    (ChangeSpec.witness6 (enc := enc) (C := Try.checked) false ⟨#[], #[(.slice none 0 0), (.int .u8 0), (.int .u8 0)], []⟩ 8 (by kernel_rfl) (by kernel_rfl) (by kernel_rfl) (by kernel_rfl)) ?_
  intro W base args ds gs before hval0 hW hcnd hsz0 _
  have hval : ∀ (j : Nat) t v, Try.f5.params[j]? = some t → args[j]? = some v → Value.okWide Try.prog W .any base t v := hval0
  have hW' := hW
  obtain ⟨p, q, hA0, hV, rfl, hfz, hnd⟩ := hW
  have hA : DataW.TrodAll enc Try.prog W 0 (fun _ => true) true Try.f5.params.toList args.toList ds p := hA0
  rw [Try.params5] at hA hval
  obtain ⟨v0, vs0, d0, ds0, p0, q0, hargs, rfl, rfl, h0, r0⟩ := trodAll_cons hA
  obtain ⟨v1, vs1, d1, ds1, p1, q1, rfl, rfl, rfl, h1, r1⟩ := trodAll_cons r0
  obtain ⟨v2, vs2, d2, ds2, p2, q2, rfl, rfl, rfl, h2, r2⟩ := trodAll_cons r1
  obtain ⟨rfl, rfl, rfl⟩ := trodAll_nil r2
  obtain rfl : args = #[v0, v1, v2] := by cases args; simp_all
  obtain ⟨rfl, rfl⟩ := trodVars_none hV
  obtain ⟨ad0, len0, cap0, rfl⟩ := okWide_slice Try.underlying38 (hval 0 38 v0 rfl rfl)
  have k0 := h0
  have lt0 : ∀ x ∈ p0, x.block < W.heap.size := by obtain ⟨m, hm⟩ := k0; exact DataW.trod_lt m _ _ _ hm
  have hz0 : ∀ n ∈ d0.weights Try.prog 38, n ≤ reachBytes := fun n hn => of_decide_eq_true (List.all_eq_true.1 hsz0 n (DataW.weights_mem_each (j := 0) (t := 38) (d := d0) (by rw [Try.params5]; rfl) rfl n hn))
  obtain ⟨a0, w0⟩ := open1 opens0 rfl h0 hz0
  obtain ⟨n1, rfl⟩ := okWide_int Try.underlying5 (hval 1 5 v1 rfl rfl)
  have k1 := h1
  have lt1 : ∀ x ∈ p1, x.block < W.heap.size := by obtain ⟨m, hm⟩ := k1; exact DataW.trod_lt m _ _ _ hm
  have hz1 : ∀ n ∈ d1.weights Try.prog 5, n ≤ reachBytes := fun n hn => of_decide_eq_true (List.all_eq_true.1 hsz0 n (DataW.weights_mem_each (j := 1) (t := 5) (d := d1) (by rw [Try.params5]; rfl) rfl n hn))
  obtain ⟨a1, w1⟩ := open1 opens1 rfl h1 hz1
  obtain ⟨n2, rfl⟩ := okWide_int Try.underlying5 (hval 2 5 v2 rfl rfl)
  have k2 := h2
  have lt2 : ∀ x ∈ p2, x.block < W.heap.size := by obtain ⟨m, hm⟩ := k2; exact DataW.trod_lt m _ _ _ hm
  have hz2 : ∀ n ∈ d2.weights Try.prog 5, n ≤ reachBytes := fun n hn => of_decide_eq_true (List.all_eq_true.1 hsz0 n (DataW.weights_mem_each (j := 2) (t := 5) (d := d2) (by rw [Try.params5]; rfl) rfl n hn))
  obtain ⟨a2, w2⟩ := open1 opens2 rfl h2 hz2
  refine (law_calls (bradawllaw05_ArenaAll.law w0 w1 w2)).mono fun e W' ⟨he, bel⟩ => ?_
  subst he
  exact ⟨_, rfl, _, _, _, [], _, [], hW', trodAll_mk1 (shut_bool Try.underlying4 _), (trodAll_cons_mk (Below.trod laidOut (by kernel_rfl) (of_decide_eq_true (by kernel_rfl)) k0 bel lt0) (trodAll_cons_mk (Below.trod laidOut (by kernel_rfl) (of_decide_eq_true (by kernel_rfl)) k1 bel lt1) (trodAll_cons_mk (Below.trod laidOut (by kernel_rfl) (of_decide_eq_true (by kernel_rfl)) k2 bel lt2) trodAll_mk0))), rfl, bel.frame _, fun h => by cases h⟩
theorem over : Rows.arenaAllRow.holds Try.pinned (OpenSpec.ofChange Rows.arenaAllSpec) :=
  OpenClaim.holds_of_wide 5 Try.f5 rfl rfl rfl rfl rfl rfl rfl ⟨rfl, rfl, rfl, rfl, rfl⟩ rfl rfl rfl rfl rfl (by kernel_rfl) Try.func5 (by kernel_rfl)
    (of_decide_eq_true (by kernel_rfl)) (by unfold Func.isWrapper; first | (rw [if_pos (by decide +kernel)]; kernel_rfl) | (rw [if_neg (by decide +kernel)]; exact ⟨rfl, rfl⟩))
    (fun os started H enc _ => lifted os started H enc)
theorem proved : Rows.ArenaAllSaid := over
#print axioms proved
end Go.Proofs.Ythekbpaekopmfaa.arenaAll
namespace Go.Proofs.Ythekbpaekopmfaa
/-- The row, under a short name, for the claim. -/
theorem arenaAll_holds : Rows.ArenaAllSaid := arenaAll.proved
end Go.Proofs.Ythekbpaekopmfaa
