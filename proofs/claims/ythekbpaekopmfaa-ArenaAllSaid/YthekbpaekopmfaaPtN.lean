/- Loops with an invariant and a measure; slices that are owned or read. No condition. -/
import Derived.Test.YthekbpaekopmfaaPtM
namespace Go.Pt
set_option linter.unusedVariables false
set_option linter.unusedSimpArgs false

/-! ### Loops -/
theorem Lp_rule {σ : Type} (n : Nat) (I : σ → List Value → Heap → Prop) (μ : σ → Nat) {body : Cur n → Cur n} {vs : List Value} {h : Heap} (s : σ) (hlen : vs.length = n) (h0 : I s vs h)
    (step : ∀ s vs h, vs.length = n → I s vs h → ∀ X : Cur n, (∀ s' vs' h', vs'.length = n → I s' vs' h' → μ s' < μ s → app n X vs' h') → app n (body X) vs h) : Lp n body vs h := by
  refine ⟨fun X hX => ?_⟩
  have key : ∀ (m : Nat) (s : σ) (vs : List Value) (h : Heap), μ s = m → vs.length = n → I s vs h → app n X vs h := by
    intro m
    induction m using Nat.strongRecOn with
    | _ m ih =>
      intro s vs h hm hl hI
      exact hX vs h hl (step s vs h hl hI X fun s' vs' h' hl' hI' hlt => ih (μ s') (hm ▸ hlt) s' vs' h' rfl hl' hI')
  exact key _ s vs h rfl hlen h0

theorem Lp0 {σ : Type} (I : σ → Heap → Prop) (μ : σ → Nat) {body : (Heap → Prop) → Heap → Prop} {h : Heap} (s : σ) (h0 : I s h)
    (step : ∀ s h, I s h → ∀ X : Heap → Prop, (∀ s' h', I s' h' → μ s' < μ s → X h') → body X h) : Lp 0 body [] h := by
  refine Lp_rule 0 (fun s vs h => match vs with | [] => I s h | _ => False) μ s rfl h0 ?_
  intro s vs h hl hI X hX
  match vs, hl, hI with
  | [], _, hI => exact step s h hI X fun s' h' hI' hlt => hX s' [] h' rfl hI' hlt

theorem Lp1 {σ : Type} (I : σ → Value → Heap → Prop) (μ : σ → Nat) {body : (Value → Heap → Prop) → Value → Heap → Prop} {a0 : Value} {h : Heap} (s : σ) (h0 : I s a0 h)
    (step : ∀ s a0 h, I s a0 h → ∀ X : Value → Heap → Prop, (∀ s' a0' h', I s' a0' h' → μ s' < μ s → X a0' h') → body X a0 h) : Lp 1 body [a0] h := by
  refine Lp_rule 1 (fun s vs h => match vs with | [a0] => I s a0 h | _ => False) μ s rfl h0 ?_
  intro s vs h hl hI X hX
  match vs, hl, hI with
  | [a0], _, hI => exact step s a0 h hI X fun s' a0' h' hI' hlt => hX s' [a0'] h' rfl hI' hlt

theorem Lp2 {σ : Type} (I : σ → Value → Value → Heap → Prop) (μ : σ → Nat) {body : (Value → Value → Heap → Prop) → Value → Value → Heap → Prop} {a0 a1 : Value} {h : Heap} (s : σ) (h0 : I s a0 a1 h)
    (step : ∀ s a0 a1 h, I s a0 a1 h → ∀ X : Value → Value → Heap → Prop, (∀ s' a0' a1' h', I s' a0' a1' h' → μ s' < μ s → X a0' a1' h') → body X a0 a1 h) : Lp 2 body [a0, a1] h := by
  refine Lp_rule 2 (fun s vs h => match vs with | [a0, a1] => I s a0 a1 h | _ => False) μ s rfl h0 ?_
  intro s vs h hl hI X hX
  match vs, hl, hI with
  | [a0, a1], _, hI => exact step s a0 a1 h hI X fun s' a0' a1' h' hI' hlt => hX s' [a0', a1'] h' rfl hI' hlt

theorem Lp3 {σ : Type} (I : σ → Value → Value → Value → Heap → Prop) (μ : σ → Nat) {body : (Value → Value → Value → Heap → Prop) → Value → Value → Value → Heap → Prop} {a0 a1 a2 : Value} {h : Heap} (s : σ) (h0 : I s a0 a1 a2 h)
    (step : ∀ s a0 a1 a2 h, I s a0 a1 a2 h → ∀ X : Value → Value → Value → Heap → Prop, (∀ s' a0' a1' a2' h', I s' a0' a1' a2' h' → μ s' < μ s → X a0' a1' a2' h') → body X a0 a1 a2 h) : Lp 3 body [a0, a1, a2] h := by
  refine Lp_rule 3 (fun s vs h => match vs with | [a0, a1, a2] => I s a0 a1 a2 h | _ => False) μ s rfl h0 ?_
  intro s vs h hl hI X hX
  match vs, hl, hI with
  | [a0, a1, a2], _, hI => exact step s a0 a1 a2 h hI X fun s' a0' a1' a2' h' hI' hlt => hX s' [a0', a1', a2'] h' rfl hI' hlt

theorem Lp4 {σ : Type} (I : σ → Value → Value → Value → Value → Heap → Prop) (μ : σ → Nat) {body : (Value → Value → Value → Value → Heap → Prop) → Value → Value → Value → Value → Heap → Prop} {a0 a1 a2 a3 : Value} {h : Heap} (s : σ) (h0 : I s a0 a1 a2 a3 h)
    (step : ∀ s a0 a1 a2 a3 h, I s a0 a1 a2 a3 h → ∀ X : Value → Value → Value → Value → Heap → Prop, (∀ s' a0' a1' a2' a3' h', I s' a0' a1' a2' a3' h' → μ s' < μ s → X a0' a1' a2' a3' h') → body X a0 a1 a2 a3 h) : Lp 4 body [a0, a1, a2, a3] h := by
  refine Lp_rule 4 (fun s vs h => match vs with | [a0, a1, a2, a3] => I s a0 a1 a2 a3 h | _ => False) μ s rfl h0 ?_
  intro s vs h hl hI X hX
  match vs, hl, hI with
  | [a0, a1, a2, a3], _, hI => exact step s a0 a1 a2 a3 h hI X fun s' a0' a1' a2' a3' h' hI' hlt => hX s' [a0', a1', a2', a3'] h' rfl hI' hlt

theorem Lp5 {σ : Type} (I : σ → Value → Value → Value → Value → Value → Heap → Prop) (μ : σ → Nat) {body : (Value → Value → Value → Value → Value → Heap → Prop) → Value → Value → Value → Value → Value → Heap → Prop} {a0 a1 a2 a3 a4 : Value} {h : Heap} (s : σ) (h0 : I s a0 a1 a2 a3 a4 h)
    (step : ∀ s a0 a1 a2 a3 a4 h, I s a0 a1 a2 a3 a4 h → ∀ X : Value → Value → Value → Value → Value → Heap → Prop, (∀ s' a0' a1' a2' a3' a4' h', I s' a0' a1' a2' a3' a4' h' → μ s' < μ s → X a0' a1' a2' a3' a4' h') → body X a0 a1 a2 a3 a4 h) : Lp 5 body [a0, a1, a2, a3, a4] h := by
  refine Lp_rule 5 (fun s vs h => match vs with | [a0, a1, a2, a3, a4] => I s a0 a1 a2 a3 a4 h | _ => False) μ s rfl h0 ?_
  intro s vs h hl hI X hX
  match vs, hl, hI with
  | [a0, a1, a2, a3, a4], _, hI => exact step s a0 a1 a2 a3 a4 h hI X fun s' a0' a1' a2' a3' a4' h' hI' hlt => hX s' [a0', a1', a2', a3', a4'] h' rfl hI' hlt

theorem Lp6 {σ : Type} (I : σ → Value → Value → Value → Value → Value → Value → Heap → Prop) (μ : σ → Nat) {body : (Value → Value → Value → Value → Value → Value → Heap → Prop) → Value → Value → Value → Value → Value → Value → Heap → Prop} {a0 a1 a2 a3 a4 a5 : Value} {h : Heap} (s : σ) (h0 : I s a0 a1 a2 a3 a4 a5 h)
    (step : ∀ s a0 a1 a2 a3 a4 a5 h, I s a0 a1 a2 a3 a4 a5 h → ∀ X : Value → Value → Value → Value → Value → Value → Heap → Prop, (∀ s' a0' a1' a2' a3' a4' a5' h', I s' a0' a1' a2' a3' a4' a5' h' → μ s' < μ s → X a0' a1' a2' a3' a4' a5' h') → body X a0 a1 a2 a3 a4 a5 h) : Lp 6 body [a0, a1, a2, a3, a4, a5] h := by
  refine Lp_rule 6 (fun s vs h => match vs with | [a0, a1, a2, a3, a4, a5] => I s a0 a1 a2 a3 a4 a5 h | _ => False) μ s rfl h0 ?_
  intro s vs h hl hI X hX
  match vs, hl, hI with
  | [a0, a1, a2, a3, a4, a5], _, hI => exact step s a0 a1 a2 a3 a4 a5 h hI X fun s' a0' a1' a2' a3' a4' a5' h' hI' hlt => hX s' [a0', a1', a2', a3', a4', a5'] h' rfl hI' hlt

theorem Lp7 {σ : Type} (I : σ → Value → Value → Value → Value → Value → Value → Value → Heap → Prop) (μ : σ → Nat) {body : (Value → Value → Value → Value → Value → Value → Value → Heap → Prop) → Value → Value → Value → Value → Value → Value → Value → Heap → Prop} {a0 a1 a2 a3 a4 a5 a6 : Value} {h : Heap} (s : σ) (h0 : I s a0 a1 a2 a3 a4 a5 a6 h)
    (step : ∀ s a0 a1 a2 a3 a4 a5 a6 h, I s a0 a1 a2 a3 a4 a5 a6 h → ∀ X : Value → Value → Value → Value → Value → Value → Value → Heap → Prop, (∀ s' a0' a1' a2' a3' a4' a5' a6' h', I s' a0' a1' a2' a3' a4' a5' a6' h' → μ s' < μ s → X a0' a1' a2' a3' a4' a5' a6' h') → body X a0 a1 a2 a3 a4 a5 a6 h) : Lp 7 body [a0, a1, a2, a3, a4, a5, a6] h := by
  refine Lp_rule 7 (fun s vs h => match vs with | [a0, a1, a2, a3, a4, a5, a6] => I s a0 a1 a2 a3 a4 a5 a6 h | _ => False) μ s rfl h0 ?_
  intro s vs h hl hI X hX
  match vs, hl, hI with
  | [a0, a1, a2, a3, a4, a5, a6], _, hI => exact step s a0 a1 a2 a3 a4 a5 a6 h hI X fun s' a0' a1' a2' a3' a4' a5' a6' h' hI' hlt => hX s' [a0', a1', a2', a3', a4', a5', a6'] h' rfl hI' hlt

theorem Lp8 {σ : Type} (I : σ → Value → Value → Value → Value → Value → Value → Value → Value → Heap → Prop) (μ : σ → Nat) {body : (Value → Value → Value → Value → Value → Value → Value → Value → Heap → Prop) → Value → Value → Value → Value → Value → Value → Value → Value → Heap → Prop} {a0 a1 a2 a3 a4 a5 a6 a7 : Value} {h : Heap} (s : σ) (h0 : I s a0 a1 a2 a3 a4 a5 a6 a7 h)
    (step : ∀ s a0 a1 a2 a3 a4 a5 a6 a7 h, I s a0 a1 a2 a3 a4 a5 a6 a7 h → ∀ X : Value → Value → Value → Value → Value → Value → Value → Value → Heap → Prop, (∀ s' a0' a1' a2' a3' a4' a5' a6' a7' h', I s' a0' a1' a2' a3' a4' a5' a6' a7' h' → μ s' < μ s → X a0' a1' a2' a3' a4' a5' a6' a7' h') → body X a0 a1 a2 a3 a4 a5 a6 a7 h) : Lp 8 body [a0, a1, a2, a3, a4, a5, a6, a7] h := by
  refine Lp_rule 8 (fun s vs h => match vs with | [a0, a1, a2, a3, a4, a5, a6, a7] => I s a0 a1 a2 a3 a4 a5 a6 a7 h | _ => False) μ s rfl h0 ?_
  intro s vs h hl hI X hX
  match vs, hl, hI with
  | [a0, a1, a2, a3, a4, a5, a6, a7], _, hI => exact step s a0 a1 a2 a3 a4 a5 a6 a7 h hI X fun s' a0' a1' a2' a3' a4' a5' a6' a7' h' hI' hlt => hX s' [a0', a1', a2', a3', a4', a5', a6', a7'] h' rfl hI' hlt

theorem Lp9 {σ : Type} (I : σ → Value → Value → Value → Value → Value → Value → Value → Value → Value → Heap → Prop) (μ : σ → Nat) {body : (Value → Value → Value → Value → Value → Value → Value → Value → Value → Heap → Prop) → Value → Value → Value → Value → Value → Value → Value → Value → Value → Heap → Prop} {a0 a1 a2 a3 a4 a5 a6 a7 a8 : Value} {h : Heap} (s : σ) (h0 : I s a0 a1 a2 a3 a4 a5 a6 a7 a8 h)
    (step : ∀ s a0 a1 a2 a3 a4 a5 a6 a7 a8 h, I s a0 a1 a2 a3 a4 a5 a6 a7 a8 h → ∀ X : Value → Value → Value → Value → Value → Value → Value → Value → Value → Heap → Prop, (∀ s' a0' a1' a2' a3' a4' a5' a6' a7' a8' h', I s' a0' a1' a2' a3' a4' a5' a6' a7' a8' h' → μ s' < μ s → X a0' a1' a2' a3' a4' a5' a6' a7' a8' h') → body X a0 a1 a2 a3 a4 a5 a6 a7 a8 h) : Lp 9 body [a0, a1, a2, a3, a4, a5, a6, a7, a8] h := by
  refine Lp_rule 9 (fun s vs h => match vs with | [a0, a1, a2, a3, a4, a5, a6, a7, a8] => I s a0 a1 a2 a3 a4 a5 a6 a7 a8 h | _ => False) μ s rfl h0 ?_
  intro s vs h hl hI X hX
  match vs, hl, hI with
  | [a0, a1, a2, a3, a4, a5, a6, a7, a8], _, hI => exact step s a0 a1 a2 a3 a4 a5 a6 a7 a8 h hI X fun s' a0' a1' a2' a3' a4' a5' a6' a7' a8' h' hI' hlt => hX s' [a0', a1', a2', a3', a4', a5', a6', a7', a8'] h' rfl hI' hlt

theorem Lp10 {σ : Type} (I : σ → Value → Value → Value → Value → Value → Value → Value → Value → Value → Value → Heap → Prop) (μ : σ → Nat) {body : (Value → Value → Value → Value → Value → Value → Value → Value → Value → Value → Heap → Prop) → Value → Value → Value → Value → Value → Value → Value → Value → Value → Value → Heap → Prop} {a0 a1 a2 a3 a4 a5 a6 a7 a8 a9 : Value} {h : Heap} (s : σ) (h0 : I s a0 a1 a2 a3 a4 a5 a6 a7 a8 a9 h)
    (step : ∀ s a0 a1 a2 a3 a4 a5 a6 a7 a8 a9 h, I s a0 a1 a2 a3 a4 a5 a6 a7 a8 a9 h → ∀ X : Value → Value → Value → Value → Value → Value → Value → Value → Value → Value → Heap → Prop, (∀ s' a0' a1' a2' a3' a4' a5' a6' a7' a8' a9' h', I s' a0' a1' a2' a3' a4' a5' a6' a7' a8' a9' h' → μ s' < μ s → X a0' a1' a2' a3' a4' a5' a6' a7' a8' a9' h') → body X a0 a1 a2 a3 a4 a5 a6 a7 a8 a9 h) : Lp 10 body [a0, a1, a2, a3, a4, a5, a6, a7, a8, a9] h := by
  refine Lp_rule 10 (fun s vs h => match vs with | [a0, a1, a2, a3, a4, a5, a6, a7, a8, a9] => I s a0 a1 a2 a3 a4 a5 a6 a7 a8 a9 h | _ => False) μ s rfl h0 ?_
  intro s vs h hl hI X hX
  match vs, hl, hI with
  | [a0, a1, a2, a3, a4, a5, a6, a7, a8, a9], _, hI => exact step s a0 a1 a2 a3 a4 a5 a6 a7 a8 a9 h hI X fun s' a0' a1' a2' a3' a4' a5' a6' a7' a8' a9' h' hI' hlt => hX s' [a0', a1', a2', a3', a4', a5', a6', a7', a8', a9'] h' rfl hI' hlt

theorem Lp11 {σ : Type} (I : σ → Value → Value → Value → Value → Value → Value → Value → Value → Value → Value → Value → Heap → Prop) (μ : σ → Nat) {body : (Value → Value → Value → Value → Value → Value → Value → Value → Value → Value → Value → Heap → Prop) → Value → Value → Value → Value → Value → Value → Value → Value → Value → Value → Value → Heap → Prop} {a0 a1 a2 a3 a4 a5 a6 a7 a8 a9 a10 : Value} {h : Heap} (s : σ) (h0 : I s a0 a1 a2 a3 a4 a5 a6 a7 a8 a9 a10 h)
    (step : ∀ s a0 a1 a2 a3 a4 a5 a6 a7 a8 a9 a10 h, I s a0 a1 a2 a3 a4 a5 a6 a7 a8 a9 a10 h → ∀ X : Value → Value → Value → Value → Value → Value → Value → Value → Value → Value → Value → Heap → Prop, (∀ s' a0' a1' a2' a3' a4' a5' a6' a7' a8' a9' a10' h', I s' a0' a1' a2' a3' a4' a5' a6' a7' a8' a9' a10' h' → μ s' < μ s → X a0' a1' a2' a3' a4' a5' a6' a7' a8' a9' a10' h') → body X a0 a1 a2 a3 a4 a5 a6 a7 a8 a9 a10 h) : Lp 11 body [a0, a1, a2, a3, a4, a5, a6, a7, a8, a9, a10] h := by
  refine Lp_rule 11 (fun s vs h => match vs with | [a0, a1, a2, a3, a4, a5, a6, a7, a8, a9, a10] => I s a0 a1 a2 a3 a4 a5 a6 a7 a8 a9 a10 h | _ => False) μ s rfl h0 ?_
  intro s vs h hl hI X hX
  match vs, hl, hI with
  | [a0, a1, a2, a3, a4, a5, a6, a7, a8, a9, a10], _, hI => exact step s a0 a1 a2 a3 a4 a5 a6 a7 a8 a9 a10 h hI X fun s' a0' a1' a2' a3' a4' a5' a6' a7' a8' a9' a10' h' hI' hlt => hX s' [a0', a1', a2', a3', a4', a5', a6', a7', a8', a9', a10'] h' rfl hI' hlt

theorem Lp12 {σ : Type} (I : σ → Value → Value → Value → Value → Value → Value → Value → Value → Value → Value → Value → Value → Heap → Prop) (μ : σ → Nat) {body : (Value → Value → Value → Value → Value → Value → Value → Value → Value → Value → Value → Value → Heap → Prop) → Value → Value → Value → Value → Value → Value → Value → Value → Value → Value → Value → Value → Heap → Prop} {a0 a1 a2 a3 a4 a5 a6 a7 a8 a9 a10 a11 : Value} {h : Heap} (s : σ) (h0 : I s a0 a1 a2 a3 a4 a5 a6 a7 a8 a9 a10 a11 h)
    (step : ∀ s a0 a1 a2 a3 a4 a5 a6 a7 a8 a9 a10 a11 h, I s a0 a1 a2 a3 a4 a5 a6 a7 a8 a9 a10 a11 h → ∀ X : Value → Value → Value → Value → Value → Value → Value → Value → Value → Value → Value → Value → Heap → Prop, (∀ s' a0' a1' a2' a3' a4' a5' a6' a7' a8' a9' a10' a11' h', I s' a0' a1' a2' a3' a4' a5' a6' a7' a8' a9' a10' a11' h' → μ s' < μ s → X a0' a1' a2' a3' a4' a5' a6' a7' a8' a9' a10' a11' h') → body X a0 a1 a2 a3 a4 a5 a6 a7 a8 a9 a10 a11 h) : Lp 12 body [a0, a1, a2, a3, a4, a5, a6, a7, a8, a9, a10, a11] h := by
  refine Lp_rule 12 (fun s vs h => match vs with | [a0, a1, a2, a3, a4, a5, a6, a7, a8, a9, a10, a11] => I s a0 a1 a2 a3 a4 a5 a6 a7 a8 a9 a10 a11 h | _ => False) μ s rfl h0 ?_
  intro s vs h hl hI X hX
  match vs, hl, hI with
  | [a0, a1, a2, a3, a4, a5, a6, a7, a8, a9, a10, a11], _, hI => exact step s a0 a1 a2 a3 a4 a5 a6 a7 a8 a9 a10 a11 h hI X fun s' a0' a1' a2' a3' a4' a5' a6' a7' a8' a9' a10' a11' h' hI' hlt => hX s' [a0', a1', a2', a3', a4', a5', a6', a7', a8', a9', a10', a11'] h' rfl hI' hlt

theorem Lp13 {σ : Type} (I : σ → Value → Value → Value → Value → Value → Value → Value → Value → Value → Value → Value → Value → Value → Heap → Prop) (μ : σ → Nat) {body : (Value → Value → Value → Value → Value → Value → Value → Value → Value → Value → Value → Value → Value → Heap → Prop) → Value → Value → Value → Value → Value → Value → Value → Value → Value → Value → Value → Value → Value → Heap → Prop} {a0 a1 a2 a3 a4 a5 a6 a7 a8 a9 a10 a11 a12 : Value} {h : Heap} (s : σ) (h0 : I s a0 a1 a2 a3 a4 a5 a6 a7 a8 a9 a10 a11 a12 h)
    (step : ∀ s a0 a1 a2 a3 a4 a5 a6 a7 a8 a9 a10 a11 a12 h, I s a0 a1 a2 a3 a4 a5 a6 a7 a8 a9 a10 a11 a12 h → ∀ X : Value → Value → Value → Value → Value → Value → Value → Value → Value → Value → Value → Value → Value → Heap → Prop, (∀ s' a0' a1' a2' a3' a4' a5' a6' a7' a8' a9' a10' a11' a12' h', I s' a0' a1' a2' a3' a4' a5' a6' a7' a8' a9' a10' a11' a12' h' → μ s' < μ s → X a0' a1' a2' a3' a4' a5' a6' a7' a8' a9' a10' a11' a12' h') → body X a0 a1 a2 a3 a4 a5 a6 a7 a8 a9 a10 a11 a12 h) : Lp 13 body [a0, a1, a2, a3, a4, a5, a6, a7, a8, a9, a10, a11, a12] h := by
  refine Lp_rule 13 (fun s vs h => match vs with | [a0, a1, a2, a3, a4, a5, a6, a7, a8, a9, a10, a11, a12] => I s a0 a1 a2 a3 a4 a5 a6 a7 a8 a9 a10 a11 a12 h | _ => False) μ s rfl h0 ?_
  intro s vs h hl hI X hX
  match vs, hl, hI with
  | [a0, a1, a2, a3, a4, a5, a6, a7, a8, a9, a10, a11, a12], _, hI => exact step s a0 a1 a2 a3 a4 a5 a6 a7 a8 a9 a10 a11 a12 h hI X fun s' a0' a1' a2' a3' a4' a5' a6' a7' a8' a9' a10' a11' a12' h' hI' hlt => hX s' [a0', a1', a2', a3', a4', a5', a6', a7', a8', a9', a10', a11', a12'] h' rfl hI' hlt

theorem Lp14 {σ : Type} (I : σ → Value → Value → Value → Value → Value → Value → Value → Value → Value → Value → Value → Value → Value → Value → Heap → Prop) (μ : σ → Nat) {body : (Value → Value → Value → Value → Value → Value → Value → Value → Value → Value → Value → Value → Value → Value → Heap → Prop) → Value → Value → Value → Value → Value → Value → Value → Value → Value → Value → Value → Value → Value → Value → Heap → Prop} {a0 a1 a2 a3 a4 a5 a6 a7 a8 a9 a10 a11 a12 a13 : Value} {h : Heap} (s : σ) (h0 : I s a0 a1 a2 a3 a4 a5 a6 a7 a8 a9 a10 a11 a12 a13 h)
    (step : ∀ s a0 a1 a2 a3 a4 a5 a6 a7 a8 a9 a10 a11 a12 a13 h, I s a0 a1 a2 a3 a4 a5 a6 a7 a8 a9 a10 a11 a12 a13 h → ∀ X : Value → Value → Value → Value → Value → Value → Value → Value → Value → Value → Value → Value → Value → Value → Heap → Prop, (∀ s' a0' a1' a2' a3' a4' a5' a6' a7' a8' a9' a10' a11' a12' a13' h', I s' a0' a1' a2' a3' a4' a5' a6' a7' a8' a9' a10' a11' a12' a13' h' → μ s' < μ s → X a0' a1' a2' a3' a4' a5' a6' a7' a8' a9' a10' a11' a12' a13' h') → body X a0 a1 a2 a3 a4 a5 a6 a7 a8 a9 a10 a11 a12 a13 h) : Lp 14 body [a0, a1, a2, a3, a4, a5, a6, a7, a8, a9, a10, a11, a12, a13] h := by
  refine Lp_rule 14 (fun s vs h => match vs with | [a0, a1, a2, a3, a4, a5, a6, a7, a8, a9, a10, a11, a12, a13] => I s a0 a1 a2 a3 a4 a5 a6 a7 a8 a9 a10 a11 a12 a13 h | _ => False) μ s rfl h0 ?_
  intro s vs h hl hI X hX
  match vs, hl, hI with
  | [a0, a1, a2, a3, a4, a5, a6, a7, a8, a9, a10, a11, a12, a13], _, hI => exact step s a0 a1 a2 a3 a4 a5 a6 a7 a8 a9 a10 a11 a12 a13 h hI X fun s' a0' a1' a2' a3' a4' a5' a6' a7' a8' a9' a10' a11' a12' a13' h' hI' hlt => hX s' [a0', a1', a2', a3', a4', a5', a6', a7', a8', a9', a10', a11', a12', a13'] h' rfl hI' hlt

theorem Lp15 {σ : Type} (I : σ → Value → Value → Value → Value → Value → Value → Value → Value → Value → Value → Value → Value → Value → Value → Value → Heap → Prop) (μ : σ → Nat) {body : (Value → Value → Value → Value → Value → Value → Value → Value → Value → Value → Value → Value → Value → Value → Value → Heap → Prop) → Value → Value → Value → Value → Value → Value → Value → Value → Value → Value → Value → Value → Value → Value → Value → Heap → Prop} {a0 a1 a2 a3 a4 a5 a6 a7 a8 a9 a10 a11 a12 a13 a14 : Value} {h : Heap} (s : σ) (h0 : I s a0 a1 a2 a3 a4 a5 a6 a7 a8 a9 a10 a11 a12 a13 a14 h)
    (step : ∀ s a0 a1 a2 a3 a4 a5 a6 a7 a8 a9 a10 a11 a12 a13 a14 h, I s a0 a1 a2 a3 a4 a5 a6 a7 a8 a9 a10 a11 a12 a13 a14 h → ∀ X : Value → Value → Value → Value → Value → Value → Value → Value → Value → Value → Value → Value → Value → Value → Value → Heap → Prop, (∀ s' a0' a1' a2' a3' a4' a5' a6' a7' a8' a9' a10' a11' a12' a13' a14' h', I s' a0' a1' a2' a3' a4' a5' a6' a7' a8' a9' a10' a11' a12' a13' a14' h' → μ s' < μ s → X a0' a1' a2' a3' a4' a5' a6' a7' a8' a9' a10' a11' a12' a13' a14' h') → body X a0 a1 a2 a3 a4 a5 a6 a7 a8 a9 a10 a11 a12 a13 a14 h) : Lp 15 body [a0, a1, a2, a3, a4, a5, a6, a7, a8, a9, a10, a11, a12, a13, a14] h := by
  refine Lp_rule 15 (fun s vs h => match vs with | [a0, a1, a2, a3, a4, a5, a6, a7, a8, a9, a10, a11, a12, a13, a14] => I s a0 a1 a2 a3 a4 a5 a6 a7 a8 a9 a10 a11 a12 a13 a14 h | _ => False) μ s rfl h0 ?_
  intro s vs h hl hI X hX
  match vs, hl, hI with
  | [a0, a1, a2, a3, a4, a5, a6, a7, a8, a9, a10, a11, a12, a13, a14], _, hI => exact step s a0 a1 a2 a3 a4 a5 a6 a7 a8 a9 a10 a11 a12 a13 a14 h hI X fun s' a0' a1' a2' a3' a4' a5' a6' a7' a8' a9' a10' a11' a12' a13' a14' h' hI' hlt => hX s' [a0', a1', a2', a3', a4', a5', a6', a7', a8', a9', a10', a11', a12', a13', a14'] h' rfl hI' hlt

theorem Lp16 {σ : Type} (I : σ → Value → Value → Value → Value → Value → Value → Value → Value → Value → Value → Value → Value → Value → Value → Value → Value → Heap → Prop) (μ : σ → Nat) {body : (Value → Value → Value → Value → Value → Value → Value → Value → Value → Value → Value → Value → Value → Value → Value → Value → Heap → Prop) → Value → Value → Value → Value → Value → Value → Value → Value → Value → Value → Value → Value → Value → Value → Value → Value → Heap → Prop} {a0 a1 a2 a3 a4 a5 a6 a7 a8 a9 a10 a11 a12 a13 a14 a15 : Value} {h : Heap} (s : σ) (h0 : I s a0 a1 a2 a3 a4 a5 a6 a7 a8 a9 a10 a11 a12 a13 a14 a15 h)
    (step : ∀ s a0 a1 a2 a3 a4 a5 a6 a7 a8 a9 a10 a11 a12 a13 a14 a15 h, I s a0 a1 a2 a3 a4 a5 a6 a7 a8 a9 a10 a11 a12 a13 a14 a15 h → ∀ X : Value → Value → Value → Value → Value → Value → Value → Value → Value → Value → Value → Value → Value → Value → Value → Value → Heap → Prop, (∀ s' a0' a1' a2' a3' a4' a5' a6' a7' a8' a9' a10' a11' a12' a13' a14' a15' h', I s' a0' a1' a2' a3' a4' a5' a6' a7' a8' a9' a10' a11' a12' a13' a14' a15' h' → μ s' < μ s → X a0' a1' a2' a3' a4' a5' a6' a7' a8' a9' a10' a11' a12' a13' a14' a15' h') → body X a0 a1 a2 a3 a4 a5 a6 a7 a8 a9 a10 a11 a12 a13 a14 a15 h) : Lp 16 body [a0, a1, a2, a3, a4, a5, a6, a7, a8, a9, a10, a11, a12, a13, a14, a15] h := by
  refine Lp_rule 16 (fun s vs h => match vs with | [a0, a1, a2, a3, a4, a5, a6, a7, a8, a9, a10, a11, a12, a13, a14, a15] => I s a0 a1 a2 a3 a4 a5 a6 a7 a8 a9 a10 a11 a12 a13 a14 a15 h | _ => False) μ s rfl h0 ?_
  intro s vs h hl hI X hX
  match vs, hl, hI with
  | [a0, a1, a2, a3, a4, a5, a6, a7, a8, a9, a10, a11, a12, a13, a14, a15], _, hI => exact step s a0 a1 a2 a3 a4 a5 a6 a7 a8 a9 a10 a11 a12 a13 a14 a15 h hI X fun s' a0' a1' a2' a3' a4' a5' a6' a7' a8' a9' a10' a11' a12' a13' a14' a15' h' hI' hlt => hX s' [a0', a1', a2', a3', a4', a5', a6', a7', a8', a9', a10', a11', a12', a13', a14', a15'] h' rfl hI' hlt

theorem Lp17 {σ : Type} (I : σ → Value → Value → Value → Value → Value → Value → Value → Value → Value → Value → Value → Value → Value → Value → Value → Value → Value → Heap → Prop) (μ : σ → Nat) {body : (Value → Value → Value → Value → Value → Value → Value → Value → Value → Value → Value → Value → Value → Value → Value → Value → Value → Heap → Prop) → Value → Value → Value → Value → Value → Value → Value → Value → Value → Value → Value → Value → Value → Value → Value → Value → Value → Heap → Prop} {a0 a1 a2 a3 a4 a5 a6 a7 a8 a9 a10 a11 a12 a13 a14 a15 a16 : Value} {h : Heap} (s : σ) (h0 : I s a0 a1 a2 a3 a4 a5 a6 a7 a8 a9 a10 a11 a12 a13 a14 a15 a16 h)
    (step : ∀ s a0 a1 a2 a3 a4 a5 a6 a7 a8 a9 a10 a11 a12 a13 a14 a15 a16 h, I s a0 a1 a2 a3 a4 a5 a6 a7 a8 a9 a10 a11 a12 a13 a14 a15 a16 h → ∀ X : Value → Value → Value → Value → Value → Value → Value → Value → Value → Value → Value → Value → Value → Value → Value → Value → Value → Heap → Prop, (∀ s' a0' a1' a2' a3' a4' a5' a6' a7' a8' a9' a10' a11' a12' a13' a14' a15' a16' h', I s' a0' a1' a2' a3' a4' a5' a6' a7' a8' a9' a10' a11' a12' a13' a14' a15' a16' h' → μ s' < μ s → X a0' a1' a2' a3' a4' a5' a6' a7' a8' a9' a10' a11' a12' a13' a14' a15' a16' h') → body X a0 a1 a2 a3 a4 a5 a6 a7 a8 a9 a10 a11 a12 a13 a14 a15 a16 h) : Lp 17 body [a0, a1, a2, a3, a4, a5, a6, a7, a8, a9, a10, a11, a12, a13, a14, a15, a16] h := by
  refine Lp_rule 17 (fun s vs h => match vs with | [a0, a1, a2, a3, a4, a5, a6, a7, a8, a9, a10, a11, a12, a13, a14, a15, a16] => I s a0 a1 a2 a3 a4 a5 a6 a7 a8 a9 a10 a11 a12 a13 a14 a15 a16 h | _ => False) μ s rfl h0 ?_
  intro s vs h hl hI X hX
  match vs, hl, hI with
  | [a0, a1, a2, a3, a4, a5, a6, a7, a8, a9, a10, a11, a12, a13, a14, a15, a16], _, hI => exact step s a0 a1 a2 a3 a4 a5 a6 a7 a8 a9 a10 a11 a12 a13 a14 a15 a16 h hI X fun s' a0' a1' a2' a3' a4' a5' a6' a7' a8' a9' a10' a11' a12' a13' a14' a15' a16' h' hI' hlt => hX s' [a0', a1', a2', a3', a4', a5', a6', a7', a8', a9', a10', a11', a12', a13', a14', a15', a16'] h' rfl hI' hlt

theorem Lp18 {σ : Type} (I : σ → Value → Value → Value → Value → Value → Value → Value → Value → Value → Value → Value → Value → Value → Value → Value → Value → Value → Value → Heap → Prop) (μ : σ → Nat) {body : (Value → Value → Value → Value → Value → Value → Value → Value → Value → Value → Value → Value → Value → Value → Value → Value → Value → Value → Heap → Prop) → Value → Value → Value → Value → Value → Value → Value → Value → Value → Value → Value → Value → Value → Value → Value → Value → Value → Value → Heap → Prop} {a0 a1 a2 a3 a4 a5 a6 a7 a8 a9 a10 a11 a12 a13 a14 a15 a16 a17 : Value} {h : Heap} (s : σ) (h0 : I s a0 a1 a2 a3 a4 a5 a6 a7 a8 a9 a10 a11 a12 a13 a14 a15 a16 a17 h)
    (step : ∀ s a0 a1 a2 a3 a4 a5 a6 a7 a8 a9 a10 a11 a12 a13 a14 a15 a16 a17 h, I s a0 a1 a2 a3 a4 a5 a6 a7 a8 a9 a10 a11 a12 a13 a14 a15 a16 a17 h → ∀ X : Value → Value → Value → Value → Value → Value → Value → Value → Value → Value → Value → Value → Value → Value → Value → Value → Value → Value → Heap → Prop, (∀ s' a0' a1' a2' a3' a4' a5' a6' a7' a8' a9' a10' a11' a12' a13' a14' a15' a16' a17' h', I s' a0' a1' a2' a3' a4' a5' a6' a7' a8' a9' a10' a11' a12' a13' a14' a15' a16' a17' h' → μ s' < μ s → X a0' a1' a2' a3' a4' a5' a6' a7' a8' a9' a10' a11' a12' a13' a14' a15' a16' a17' h') → body X a0 a1 a2 a3 a4 a5 a6 a7 a8 a9 a10 a11 a12 a13 a14 a15 a16 a17 h) : Lp 18 body [a0, a1, a2, a3, a4, a5, a6, a7, a8, a9, a10, a11, a12, a13, a14, a15, a16, a17] h := by
  refine Lp_rule 18 (fun s vs h => match vs with | [a0, a1, a2, a3, a4, a5, a6, a7, a8, a9, a10, a11, a12, a13, a14, a15, a16, a17] => I s a0 a1 a2 a3 a4 a5 a6 a7 a8 a9 a10 a11 a12 a13 a14 a15 a16 a17 h | _ => False) μ s rfl h0 ?_
  intro s vs h hl hI X hX
  match vs, hl, hI with
  | [a0, a1, a2, a3, a4, a5, a6, a7, a8, a9, a10, a11, a12, a13, a14, a15, a16, a17], _, hI => exact step s a0 a1 a2 a3 a4 a5 a6 a7 a8 a9 a10 a11 a12 a13 a14 a15 a16 a17 h hI X fun s' a0' a1' a2' a3' a4' a5' a6' a7' a8' a9' a10' a11' a12' a13' a14' a15' a16' a17' h' hI' hlt => hX s' [a0', a1', a2', a3', a4', a5', a6', a7', a8', a9', a10', a11', a12', a13', a14', a15', a16', a17'] h' rfl hI' hlt

theorem Jn0 (I : Heap → Prop) {X : (Heap → Prop) → Prop} {J : Heap → Prop} (hX : ∀ J' : Heap → Prop, (∀ h, I h → J' h) → X J') (hJ : ∀ h, I h → J h) : Join 0 X J := ⟨hX J hJ⟩

theorem Jn1 (I : Value → Heap → Prop) {X : (Value → Heap → Prop) → Prop} {J : Value → Heap → Prop} (hX : ∀ J' : Value → Heap → Prop, (∀ a0 h, I a0 h → J' a0 h) → X J') (hJ : ∀ a0 h, I a0 h → J a0 h) : Join 1 X J := ⟨hX J hJ⟩

theorem Jn2 (I : Value → Value → Heap → Prop) {X : (Value → Value → Heap → Prop) → Prop} {J : Value → Value → Heap → Prop} (hX : ∀ J' : Value → Value → Heap → Prop, (∀ a0 a1 h, I a0 a1 h → J' a0 a1 h) → X J') (hJ : ∀ a0 a1 h, I a0 a1 h → J a0 a1 h) : Join 2 X J := ⟨hX J hJ⟩

theorem Jn3 (I : Value → Value → Value → Heap → Prop) {X : (Value → Value → Value → Heap → Prop) → Prop} {J : Value → Value → Value → Heap → Prop} (hX : ∀ J' : Value → Value → Value → Heap → Prop, (∀ a0 a1 a2 h, I a0 a1 a2 h → J' a0 a1 a2 h) → X J') (hJ : ∀ a0 a1 a2 h, I a0 a1 a2 h → J a0 a1 a2 h) : Join 3 X J := ⟨hX J hJ⟩

theorem Jn4 (I : Value → Value → Value → Value → Heap → Prop) {X : (Value → Value → Value → Value → Heap → Prop) → Prop} {J : Value → Value → Value → Value → Heap → Prop} (hX : ∀ J' : Value → Value → Value → Value → Heap → Prop, (∀ a0 a1 a2 a3 h, I a0 a1 a2 a3 h → J' a0 a1 a2 a3 h) → X J') (hJ : ∀ a0 a1 a2 a3 h, I a0 a1 a2 a3 h → J a0 a1 a2 a3 h) : Join 4 X J := ⟨hX J hJ⟩

theorem Jn5 (I : Value → Value → Value → Value → Value → Heap → Prop) {X : (Value → Value → Value → Value → Value → Heap → Prop) → Prop} {J : Value → Value → Value → Value → Value → Heap → Prop} (hX : ∀ J' : Value → Value → Value → Value → Value → Heap → Prop, (∀ a0 a1 a2 a3 a4 h, I a0 a1 a2 a3 a4 h → J' a0 a1 a2 a3 a4 h) → X J') (hJ : ∀ a0 a1 a2 a3 a4 h, I a0 a1 a2 a3 a4 h → J a0 a1 a2 a3 a4 h) : Join 5 X J := ⟨hX J hJ⟩

theorem Jn6 (I : Value → Value → Value → Value → Value → Value → Heap → Prop) {X : (Value → Value → Value → Value → Value → Value → Heap → Prop) → Prop} {J : Value → Value → Value → Value → Value → Value → Heap → Prop} (hX : ∀ J' : Value → Value → Value → Value → Value → Value → Heap → Prop, (∀ a0 a1 a2 a3 a4 a5 h, I a0 a1 a2 a3 a4 a5 h → J' a0 a1 a2 a3 a4 a5 h) → X J') (hJ : ∀ a0 a1 a2 a3 a4 a5 h, I a0 a1 a2 a3 a4 a5 h → J a0 a1 a2 a3 a4 a5 h) : Join 6 X J := ⟨hX J hJ⟩

theorem Jn7 (I : Value → Value → Value → Value → Value → Value → Value → Heap → Prop) {X : (Value → Value → Value → Value → Value → Value → Value → Heap → Prop) → Prop} {J : Value → Value → Value → Value → Value → Value → Value → Heap → Prop} (hX : ∀ J' : Value → Value → Value → Value → Value → Value → Value → Heap → Prop, (∀ a0 a1 a2 a3 a4 a5 a6 h, I a0 a1 a2 a3 a4 a5 a6 h → J' a0 a1 a2 a3 a4 a5 a6 h) → X J') (hJ : ∀ a0 a1 a2 a3 a4 a5 a6 h, I a0 a1 a2 a3 a4 a5 a6 h → J a0 a1 a2 a3 a4 a5 a6 h) : Join 7 X J := ⟨hX J hJ⟩

theorem Jn8 (I : Value → Value → Value → Value → Value → Value → Value → Value → Heap → Prop) {X : (Value → Value → Value → Value → Value → Value → Value → Value → Heap → Prop) → Prop} {J : Value → Value → Value → Value → Value → Value → Value → Value → Heap → Prop} (hX : ∀ J' : Value → Value → Value → Value → Value → Value → Value → Value → Heap → Prop, (∀ a0 a1 a2 a3 a4 a5 a6 a7 h, I a0 a1 a2 a3 a4 a5 a6 a7 h → J' a0 a1 a2 a3 a4 a5 a6 a7 h) → X J') (hJ : ∀ a0 a1 a2 a3 a4 a5 a6 a7 h, I a0 a1 a2 a3 a4 a5 a6 a7 h → J a0 a1 a2 a3 a4 a5 a6 a7 h) : Join 8 X J := ⟨hX J hJ⟩

theorem Jn9 (I : Value → Value → Value → Value → Value → Value → Value → Value → Value → Heap → Prop) {X : (Value → Value → Value → Value → Value → Value → Value → Value → Value → Heap → Prop) → Prop} {J : Value → Value → Value → Value → Value → Value → Value → Value → Value → Heap → Prop} (hX : ∀ J' : Value → Value → Value → Value → Value → Value → Value → Value → Value → Heap → Prop, (∀ a0 a1 a2 a3 a4 a5 a6 a7 a8 h, I a0 a1 a2 a3 a4 a5 a6 a7 a8 h → J' a0 a1 a2 a3 a4 a5 a6 a7 a8 h) → X J') (hJ : ∀ a0 a1 a2 a3 a4 a5 a6 a7 a8 h, I a0 a1 a2 a3 a4 a5 a6 a7 a8 h → J a0 a1 a2 a3 a4 a5 a6 a7 a8 h) : Join 9 X J := ⟨hX J hJ⟩

theorem Jn10 (I : Value → Value → Value → Value → Value → Value → Value → Value → Value → Value → Heap → Prop) {X : (Value → Value → Value → Value → Value → Value → Value → Value → Value → Value → Heap → Prop) → Prop} {J : Value → Value → Value → Value → Value → Value → Value → Value → Value → Value → Heap → Prop} (hX : ∀ J' : Value → Value → Value → Value → Value → Value → Value → Value → Value → Value → Heap → Prop, (∀ a0 a1 a2 a3 a4 a5 a6 a7 a8 a9 h, I a0 a1 a2 a3 a4 a5 a6 a7 a8 a9 h → J' a0 a1 a2 a3 a4 a5 a6 a7 a8 a9 h) → X J') (hJ : ∀ a0 a1 a2 a3 a4 a5 a6 a7 a8 a9 h, I a0 a1 a2 a3 a4 a5 a6 a7 a8 a9 h → J a0 a1 a2 a3 a4 a5 a6 a7 a8 a9 h) : Join 10 X J := ⟨hX J hJ⟩

theorem Jn11 (I : Value → Value → Value → Value → Value → Value → Value → Value → Value → Value → Value → Heap → Prop) {X : (Value → Value → Value → Value → Value → Value → Value → Value → Value → Value → Value → Heap → Prop) → Prop} {J : Value → Value → Value → Value → Value → Value → Value → Value → Value → Value → Value → Heap → Prop} (hX : ∀ J' : Value → Value → Value → Value → Value → Value → Value → Value → Value → Value → Value → Heap → Prop, (∀ a0 a1 a2 a3 a4 a5 a6 a7 a8 a9 a10 h, I a0 a1 a2 a3 a4 a5 a6 a7 a8 a9 a10 h → J' a0 a1 a2 a3 a4 a5 a6 a7 a8 a9 a10 h) → X J') (hJ : ∀ a0 a1 a2 a3 a4 a5 a6 a7 a8 a9 a10 h, I a0 a1 a2 a3 a4 a5 a6 a7 a8 a9 a10 h → J a0 a1 a2 a3 a4 a5 a6 a7 a8 a9 a10 h) : Join 11 X J := ⟨hX J hJ⟩

theorem Jn12 (I : Value → Value → Value → Value → Value → Value → Value → Value → Value → Value → Value → Value → Heap → Prop) {X : (Value → Value → Value → Value → Value → Value → Value → Value → Value → Value → Value → Value → Heap → Prop) → Prop} {J : Value → Value → Value → Value → Value → Value → Value → Value → Value → Value → Value → Value → Heap → Prop} (hX : ∀ J' : Value → Value → Value → Value → Value → Value → Value → Value → Value → Value → Value → Value → Heap → Prop, (∀ a0 a1 a2 a3 a4 a5 a6 a7 a8 a9 a10 a11 h, I a0 a1 a2 a3 a4 a5 a6 a7 a8 a9 a10 a11 h → J' a0 a1 a2 a3 a4 a5 a6 a7 a8 a9 a10 a11 h) → X J') (hJ : ∀ a0 a1 a2 a3 a4 a5 a6 a7 a8 a9 a10 a11 h, I a0 a1 a2 a3 a4 a5 a6 a7 a8 a9 a10 a11 h → J a0 a1 a2 a3 a4 a5 a6 a7 a8 a9 a10 a11 h) : Join 12 X J := ⟨hX J hJ⟩

theorem Jn13 (I : Value → Value → Value → Value → Value → Value → Value → Value → Value → Value → Value → Value → Value → Heap → Prop) {X : (Value → Value → Value → Value → Value → Value → Value → Value → Value → Value → Value → Value → Value → Heap → Prop) → Prop} {J : Value → Value → Value → Value → Value → Value → Value → Value → Value → Value → Value → Value → Value → Heap → Prop} (hX : ∀ J' : Value → Value → Value → Value → Value → Value → Value → Value → Value → Value → Value → Value → Value → Heap → Prop, (∀ a0 a1 a2 a3 a4 a5 a6 a7 a8 a9 a10 a11 a12 h, I a0 a1 a2 a3 a4 a5 a6 a7 a8 a9 a10 a11 a12 h → J' a0 a1 a2 a3 a4 a5 a6 a7 a8 a9 a10 a11 a12 h) → X J') (hJ : ∀ a0 a1 a2 a3 a4 a5 a6 a7 a8 a9 a10 a11 a12 h, I a0 a1 a2 a3 a4 a5 a6 a7 a8 a9 a10 a11 a12 h → J a0 a1 a2 a3 a4 a5 a6 a7 a8 a9 a10 a11 a12 h) : Join 13 X J := ⟨hX J hJ⟩

theorem Jn14 (I : Value → Value → Value → Value → Value → Value → Value → Value → Value → Value → Value → Value → Value → Value → Heap → Prop) {X : (Value → Value → Value → Value → Value → Value → Value → Value → Value → Value → Value → Value → Value → Value → Heap → Prop) → Prop} {J : Value → Value → Value → Value → Value → Value → Value → Value → Value → Value → Value → Value → Value → Value → Heap → Prop} (hX : ∀ J' : Value → Value → Value → Value → Value → Value → Value → Value → Value → Value → Value → Value → Value → Value → Heap → Prop, (∀ a0 a1 a2 a3 a4 a5 a6 a7 a8 a9 a10 a11 a12 a13 h, I a0 a1 a2 a3 a4 a5 a6 a7 a8 a9 a10 a11 a12 a13 h → J' a0 a1 a2 a3 a4 a5 a6 a7 a8 a9 a10 a11 a12 a13 h) → X J') (hJ : ∀ a0 a1 a2 a3 a4 a5 a6 a7 a8 a9 a10 a11 a12 a13 h, I a0 a1 a2 a3 a4 a5 a6 a7 a8 a9 a10 a11 a12 a13 h → J a0 a1 a2 a3 a4 a5 a6 a7 a8 a9 a10 a11 a12 a13 h) : Join 14 X J := ⟨hX J hJ⟩

theorem Jn15 (I : Value → Value → Value → Value → Value → Value → Value → Value → Value → Value → Value → Value → Value → Value → Value → Heap → Prop) {X : (Value → Value → Value → Value → Value → Value → Value → Value → Value → Value → Value → Value → Value → Value → Value → Heap → Prop) → Prop} {J : Value → Value → Value → Value → Value → Value → Value → Value → Value → Value → Value → Value → Value → Value → Value → Heap → Prop} (hX : ∀ J' : Value → Value → Value → Value → Value → Value → Value → Value → Value → Value → Value → Value → Value → Value → Value → Heap → Prop, (∀ a0 a1 a2 a3 a4 a5 a6 a7 a8 a9 a10 a11 a12 a13 a14 h, I a0 a1 a2 a3 a4 a5 a6 a7 a8 a9 a10 a11 a12 a13 a14 h → J' a0 a1 a2 a3 a4 a5 a6 a7 a8 a9 a10 a11 a12 a13 a14 h) → X J') (hJ : ∀ a0 a1 a2 a3 a4 a5 a6 a7 a8 a9 a10 a11 a12 a13 a14 h, I a0 a1 a2 a3 a4 a5 a6 a7 a8 a9 a10 a11 a12 a13 a14 h → J a0 a1 a2 a3 a4 a5 a6 a7 a8 a9 a10 a11 a12 a13 a14 h) : Join 15 X J := ⟨hX J hJ⟩

theorem Jn16 (I : Value → Value → Value → Value → Value → Value → Value → Value → Value → Value → Value → Value → Value → Value → Value → Value → Heap → Prop) {X : (Value → Value → Value → Value → Value → Value → Value → Value → Value → Value → Value → Value → Value → Value → Value → Value → Heap → Prop) → Prop} {J : Value → Value → Value → Value → Value → Value → Value → Value → Value → Value → Value → Value → Value → Value → Value → Value → Heap → Prop} (hX : ∀ J' : Value → Value → Value → Value → Value → Value → Value → Value → Value → Value → Value → Value → Value → Value → Value → Value → Heap → Prop, (∀ a0 a1 a2 a3 a4 a5 a6 a7 a8 a9 a10 a11 a12 a13 a14 a15 h, I a0 a1 a2 a3 a4 a5 a6 a7 a8 a9 a10 a11 a12 a13 a14 a15 h → J' a0 a1 a2 a3 a4 a5 a6 a7 a8 a9 a10 a11 a12 a13 a14 a15 h) → X J') (hJ : ∀ a0 a1 a2 a3 a4 a5 a6 a7 a8 a9 a10 a11 a12 a13 a14 a15 h, I a0 a1 a2 a3 a4 a5 a6 a7 a8 a9 a10 a11 a12 a13 a14 a15 h → J a0 a1 a2 a3 a4 a5 a6 a7 a8 a9 a10 a11 a12 a13 a14 a15 h) : Join 16 X J := ⟨hX J hJ⟩

theorem Jn17 (I : Value → Value → Value → Value → Value → Value → Value → Value → Value → Value → Value → Value → Value → Value → Value → Value → Value → Heap → Prop) {X : (Value → Value → Value → Value → Value → Value → Value → Value → Value → Value → Value → Value → Value → Value → Value → Value → Value → Heap → Prop) → Prop} {J : Value → Value → Value → Value → Value → Value → Value → Value → Value → Value → Value → Value → Value → Value → Value → Value → Value → Heap → Prop} (hX : ∀ J' : Value → Value → Value → Value → Value → Value → Value → Value → Value → Value → Value → Value → Value → Value → Value → Value → Value → Heap → Prop, (∀ a0 a1 a2 a3 a4 a5 a6 a7 a8 a9 a10 a11 a12 a13 a14 a15 a16 h, I a0 a1 a2 a3 a4 a5 a6 a7 a8 a9 a10 a11 a12 a13 a14 a15 a16 h → J' a0 a1 a2 a3 a4 a5 a6 a7 a8 a9 a10 a11 a12 a13 a14 a15 a16 h) → X J') (hJ : ∀ a0 a1 a2 a3 a4 a5 a6 a7 a8 a9 a10 a11 a12 a13 a14 a15 a16 h, I a0 a1 a2 a3 a4 a5 a6 a7 a8 a9 a10 a11 a12 a13 a14 a15 a16 h → J a0 a1 a2 a3 a4 a5 a6 a7 a8 a9 a10 a11 a12 a13 a14 a15 a16 h) : Join 17 X J := ⟨hX J hJ⟩

theorem Jn18 (I : Value → Value → Value → Value → Value → Value → Value → Value → Value → Value → Value → Value → Value → Value → Value → Value → Value → Value → Heap → Prop) {X : (Value → Value → Value → Value → Value → Value → Value → Value → Value → Value → Value → Value → Value → Value → Value → Value → Value → Value → Heap → Prop) → Prop} {J : Value → Value → Value → Value → Value → Value → Value → Value → Value → Value → Value → Value → Value → Value → Value → Value → Value → Value → Heap → Prop} (hX : ∀ J' : Value → Value → Value → Value → Value → Value → Value → Value → Value → Value → Value → Value → Value → Value → Value → Value → Value → Value → Heap → Prop, (∀ a0 a1 a2 a3 a4 a5 a6 a7 a8 a9 a10 a11 a12 a13 a14 a15 a16 a17 h, I a0 a1 a2 a3 a4 a5 a6 a7 a8 a9 a10 a11 a12 a13 a14 a15 a16 a17 h → J' a0 a1 a2 a3 a4 a5 a6 a7 a8 a9 a10 a11 a12 a13 a14 a15 a16 a17 h) → X J') (hJ : ∀ a0 a1 a2 a3 a4 a5 a6 a7 a8 a9 a10 a11 a12 a13 a14 a15 a16 a17 h, I a0 a1 a2 a3 a4 a5 a6 a7 a8 a9 a10 a11 a12 a13 a14 a15 a16 a17 h → J a0 a1 a2 a3 a4 a5 a6 a7 a8 a9 a10 a11 a12 a13 a14 a15 a16 a17 h) : Join 18 X J := ⟨hX J hJ⟩


/-- Where ways meet. -/
theorem Join_rule {n : Nat} {X : Cur n → Prop} {J : Cur n} (I : List Value → Heap → Prop) (hX : ∀ J' : Cur n, (∀ vs h, vs.length = n → I vs h → app n J' vs h) → X J') (hJ : ∀ vs h, vs.length = n → I vs h → app n J vs h) : Join n X J :=
  ⟨hX J hJ⟩
theorem Join_eq {n : Nat} {X : Cur n → Prop} {J : Cur n} : Join n X J = X J := propext ⟨fun x => x.out, fun x => ⟨x⟩⟩

/-! ### Slices -/
/-- A slice of one's own, from the head of a block (or nil). -/
def Own (h : Heap) (v : Value) (xs : List Value) (bs : List Nat) : Prop :=
  (v = .slice none 0 0 ∧ xs = [] ∧ bs = []) ∨ ∃ b rest, v = .slice (some ⟨b, 0, none⟩) xs.length (xs.length + rest.length) ∧ Blk h b (xs ++ rest) ∧ bs = [b]
/-- A slice that can be read. -/
def Rd (h : Heap) (v : Value) (xs : List Value) : Prop :=
  ∃ a cap, v = .slice a xs.length cap ∧ xs.length ≤ cap ∧ ∀ i x, xs[i]? = some x → ∃ ad, a = some ad ∧ cell h (ad.add i) = some x
section
variable {h h' : Heap} {v : Value} {xs ys : List Value} {bs S : List Nat} {K : Ret}
theorem Own.nil (h : Heap) : Own h (.slice none 0 0) [] [] := .inl ⟨rfl, rfl, rfl⟩
theorem Own.of_blk {b : Nat} (hb : Blk h b xs) : Own h (.slice (some ⟨b, 0, none⟩) xs.length xs.length) xs [b] := .inr ⟨b, [], by simp, by simpa using hb, rfl⟩
theorem Own.fr (ho : Own h v xs bs) (f : Fr S h h') (hd : ∀ b ∈ bs, b ∉ S) : Own h' v xs bs := by
  rcases ho with ho | ⟨b, rest, e1, e2, e3⟩
  · exact .inl ho
  · exact .inr ⟨b, rest, e1, e2.fr f (hd b (by simp [e3])), e3⟩
theorem Own.one {l : Nat} (ho : Own h v xs bs) (o : One l h h') : Own h' v xs bs := by
  rcases ho with ho | ⟨b, rest, e1, e2, e3⟩
  · exact .inl ho
  · exact .inr ⟨b, rest, e1, e2.one o, e3⟩
theorem Own.shut {N : Nat} (ho : Own h v xs bs) (s : Shut N h h') : Own h' v xs bs := by
  rcases ho with ho | ⟨b, rest, e1, e2, e3⟩
  · exact .inl ho
  · exact .inr ⟨b, rest, e1, e2.shut s, e3⟩
theorem Own.lt (ho : Own h v xs bs) : ∀ b ∈ bs, b < h.size := by
  rcases ho with ⟨_, _, rfl⟩ | ⟨b, rest, e1, e2, rfl⟩
  · intro b hb; cases hb
  · intro b' hb'; rw [List.mem_singleton] at hb'; rw [hb']; exact e2.lt
theorem Own.rd (ho : Own h v xs bs) : Rd h v xs := by
  rcases ho with ⟨rfl, rfl, _⟩ | ⟨b, rest, rfl, hb, _⟩
  · exact ⟨none, 0, rfl, Nat.le_refl _, fun i x hx => by simp at hx⟩
  · refine ⟨_, _, rfl, by omega, fun i x hx => ⟨_, rfl, ?_⟩⟩
    rw [add_mk, hb.cell, Nat.zero_add, List.getElem?_append_left]
    · exact hx
    · rcases Nat.lt_or_ge i xs.length with hl | hl
      · exact hl
      · rw [List.getElem?_eq_none hl] at hx; cases hx
theorem Rd.nil (h : Heap) : Rd h (.slice none 0 0) [] := (Own.nil h).rd
theorem cell_lt {a : Addr} (hc : cell h a = some v) : a.block < h.size := by
  unfold cell at hc
  rcases Nat.lt_or_ge a.block h.size with hx | hx
  · exact hx
  · rw [Array.getElem?_eq_none hx] at hc; cases hc
theorem cell_fr {a : Addr} (hc : cell h a = some v) (f : Fr S h h') (hS : a.block ∉ S) : cell h' a = some v := by
  have := f.keep a.block (cell_lt hc) hS
  unfold cell at *
  rw [this]; exact hc
theorem Addr.add_block (a : Addr) (n : Nat) : (a.add n).block = a.block := by unfold Addr.add; split <;> rfl
theorem cell_one {a : Addr} {l : Nat} (hc : cell h a = some v) (o : One l h h') : cell h' a = some v := by
  have hne : a.block ≠ l := by
    intro e
    obtain ⟨r, hr⟩ := o.loop
    unfold cell at hc
    rw [e, hr] at hc; cases hc
  unfold cell at *
  rw [o.keep _ hne]; exact hc
theorem cell_shut {a : Addr} {N : Nat} (hc : cell h a = some v) (s : Shut N h h') : cell h' a = some v := by
  have := s.keep a.block (.inr fun x e => by unfold cell at hc; rw [e] at hc; cases hc)
  unfold cell at *
  rw [this]; exact hc
theorem Rd.one {l : Nat} (hr : Rd h v xs) (o : One l h h') : Rd h' v xs := by
  obtain ⟨a, cap, e, hcap, hc⟩ := hr
  exact ⟨a, cap, e, hcap, fun i x hx => let ⟨ad, e1, e2⟩ := hc i x hx; ⟨ad, e1, cell_one e2 o⟩⟩
theorem Rd.shut {N : Nat} (hr : Rd h v xs) (s : Shut N h h') : Rd h' v xs := by
  obtain ⟨a, cap, e, hcap, hc⟩ := hr
  exact ⟨a, cap, e, hcap, fun i x hx => let ⟨ad, e1, e2⟩ := hc i x hx; ⟨ad, e1, cell_shut e2 s⟩⟩
theorem Rd.fr (hr : Rd h v xs) (f : Fr [] h h') : Rd h' v xs := by
  obtain ⟨a, cap, e, hcap, hc⟩ := hr
  exact ⟨a, cap, e, hcap, fun i x hx => let ⟨ad, e1, e2⟩ := hc i x hx; ⟨ad, e1, cell_fr e2 f (by simp)⟩⟩
/-- What was there before anything of S was made. -/
theorem Rd.frN {N : Nat} (hr : Rd h v xs) (hN : ∀ (i : Nat) (x : Value), xs[i]? = some x → ∀ a n c, v = .slice (some a) n c → a.block < N) (f : Fr S h h') (hS : ∀ b ∈ S, N ≤ b) : Rd h' v xs := by
  obtain ⟨a, cap, e, hcap, hc⟩ := hr
  refine ⟨a, cap, e, hcap, fun i x hx => ?_⟩
  obtain ⟨ad, e1, e2⟩ := hc i x hx
  refine ⟨ad, e1, cell_fr e2 f fun hm => ?_⟩
  have h1 := hS _ hm
  rw [Addr.add_block] at h1
  have h2 := hN i x hx ad xs.length cap (by rw [e, e1])
  omega
theorem Rd.len (hr : Rd h v xs) (hk : K (.int .i64 xs.length) h) : Len v K h := by
  obtain ⟨a, cap, rfl, _, _⟩ := hr
  rw [Len_at]; exact hk
theorem Own.len (ho : Own h v xs bs) (hk : K (.int .i64 xs.length) h) : Len v K h := ho.rd.len hk
/-- xs[i]. -/
theorem Rd.at {k : IntKind} {i : Int} {x : Value} (hr : Rd h v xs) (h0 : 0 ≤ i) (hx : xs[i.toNat]? = some x) (hk : K x h) : Idx 1 v (.int k i) (fun p h => Ld p K h) h := by
  obtain ⟨a, cap, rfl, hcap, hc⟩ := hr
  have hlt : i.toNat < xs.length := by
    rcases Nat.lt_or_ge i.toNat xs.length with hl | hl
    · exact hl
    · rw [List.getElem?_eq_none hl] at hx; cases hx
  obtain ⟨ad, rfl, e2⟩ := hc _ _ hx
  rw [Idx_at]
  refine ⟨⟨h0, by omega⟩, ?_⟩
  rw [Nat.mul_one, Ld_at, e2]; exact hk
theorem Own.at {k : IntKind} {i : Int} {x : Value} (ho : Own h v xs bs) (h0 : 0 ≤ i) (hx : xs[i.toNat]? = some x) (hk : K x h) : Idx 1 v (.int k i) (fun p h => Ld p K h) h := ho.rd.at h0 hx hk
/-- xs[i] = x. -/
theorem Own.put {k : IntKind} {i : Int} {x : Value} (ho : Own h v xs bs) (h0 : 0 ≤ i) (hi : i.toNat < xs.length) (hx : isCell x = true) (hk : ∀ h', Own h' v (xs.set i.toNat x) bs → Fr bs h h' → h'.size = h.size → K undef h') :
    Idx 1 v (.int k i) (fun p h => St p x K h) h := by
  rcases ho with ⟨rfl, rfl, rfl⟩ | ⟨b, rest, rfl, hb, rfl⟩
  · simp at hi
  · rw [Idx_at]
    refine ⟨⟨h0, by omega⟩, ?_⟩
    rw [Nat.mul_one, add_mk, Nat.zero_add, St_at, storeOne_blk hb (by simp; omega) hx]
    refine hk _ (.inr ⟨b, rest, by simp, ?_, rfl⟩) (Fr.setCell h b _ x) (setCell_size _ _ _)
    have := hb.setCell i.toNat x
    rwa [List.set_append_left _ _ hi] at this
theorem loads_rd {a : Addr} {n : Nat} : ∀ (ys : List Value) (i : Nat) (acc : Array Value), (∀ j x, ys[j]? = some x → cell h (a.add (i + j)) = some x) → loads h a i ys.length acc = some (acc ++ ys.toArray)
  | [], i, acc, _ => by simp [loads]
  | y :: ys, i, acc, hc => by
    have h0 := hc 0 y rfl
    rw [List.length_cons, loads]
    simp only [Nat.add_zero] at h0
    rw [h0]
    simp only
    rw [loads_rd (n := n) ys (i + 1) _ fun j x hx => by have := hc (j + 1) x (by simpa using hx); rwa [show i + 1 + j = i + (j + 1) from by omega]]
    congr 1
    apply Array.ext'
    simp
theorem Rd.first (hr : Rd h v xs) : firstOf 1 xs.length h v = some xs.toArray := by
  obtain ⟨a, cap, rfl, hcap, hc⟩ := hr
  cases a with
  | none =>
    cases xs with
    | nil => rfl
    | cons x xs => obtain ⟨ad, e, _⟩ := hc 0 x rfl; cases e
  | some ad =>
    simp only [firstOf, Nat.mul_one]
    rw [loads_rd (n := 0) xs 0 #[] fun j x hx => ?_]
    · simp
    · obtain ⟨ad', e1, e2⟩ := hc j x hx
      cases e1
      rw [Nat.zero_add]; exact e2
theorem growBy_le : ∀ (r c need : Nat), c < need → Builtin.growBy need r c ≤ 2 * need + 192
  | 0, c, need, h => by simp [Builtin.growBy]; omega
  | r + 1, c, need, h => by
    simp only [Builtin.growBy]
    rw [if_neg (by omega)]
    rcases Nat.lt_or_ge (c + (c + 768) / 4) need with hx | hx
    · exact growBy_le r _ need hx
    · cases r with
      | zero => simp only [Builtin.growBy]; omega
      | succ r => simp only [Builtin.growBy]; rw [if_pos (by omega)]; omega
theorem nextcap_le (need cap : Nat) (h : cap < need) : Builtin.nextslicecap need cap ≤ 2 * need + 512 := by
  unfold Builtin.nextslicecap
  split
  · omega
  · split
    · omega
    · have := growBy_le 4 cap need h; omega
/-- append(xs, ys...) -/
theorem Own.app {el bytes : Nat} {zero : Array Value} {y : Value} (ho : Own h v xs bs) (hy : Rd h y ys) (hz : zero.size = 1) (hzc : isCell zero[0]! = true) (hc : ∀ x ∈ ys, isCell x = true)
    (hb : (2 * (xs.length + ys.length) + 512) * bytes ≤ 281474976710656) (hbig : xs.length + ys.length ≤ 4611686018427387904)
    (hk : ∀ v' h' bs', Own h' v' (xs ++ ys) bs' → Fr bs h h' → (∀ b ∈ bs', b ∈ bs ∨ b = h.size) → h'.size ≤ h.size + 1 → K v' h') : App el 1 bytes zero v y K h := by
  have hfirst := hy.first
  obtain ⟨ya, ycap, rfl, hycap, hyc⟩ := hy
  have hoo := ho
  have fin : ∀ (s : Option Addr) (sl sc : Nat), v = .slice s sl sc → sl = xs.length → (sc < xs.length + ys.length) → App el 1 bytes zero v (.slice ya ys.length ycap) K h := by
    rintro s sl sc rfl rfl hlt
    refine ⟨?_⟩
    simp only [hfirst]
    rw [if_neg (by omega)]
    have ho1 := hoo.rd.first
    simp only [ho1]
    refine ⟨by rw [show IntKind.i64.max = 9223372036854775807 from rfl]; omega, ?_, fun newCap hn => ?_⟩
    · have := nextcap_le (xs.length + ys.length) sc (by omega)
      exact Nat.le_trans (Nat.mul_le_mul_right _ this) (by omega)
    · refine hk _ _ [h.size] (.inr ⟨h.size, List.replicate (newCap - (xs.length + ys.length)) zero[0]!, ?_, ?_, rfl⟩) ((Fr.push h _).mono (by simp)) (by simp) (by simp)
      · simp; omega
      · have := Blk.push h (xs.toArray ++ ys.toArray ++ Builtin.zeroCells zero (newCap - (xs.length + ys.length))) el
        have e : (xs.toArray ++ ys.toArray ++ Builtin.zeroCells zero (newCap - (xs.length + ys.length))).toList = xs ++ ys ++ List.replicate (newCap - (xs.length + ys.length)) zero[0]! := by
          simp only [Array.toList_append, Builtin.zeroCells, hz, Nat.mul_one, Array.toList_map, Array.toList_range, Nat.mod_one, List.map_const', List.length_range]
        rw [e] at this; exact this
  rcases ho with ⟨rfl, rfl, rfl⟩ | ⟨b, rest, rfl, hblk, rfl⟩
  · by_cases hys : ys.length = 0
    · have : ys = [] := List.length_eq_zero_iff.1 hys
      subst this
      refine ⟨?_⟩
      simp only [hfirst]
      simp only [List.length_nil, Nat.add_zero, Nat.le_refl, if_true]
      exact hk _ _ [] (Own.nil h) (Fr.refl _ _) (by simp) (by omega)
    · exact fin none 0 0 rfl rfl (by simp; omega)
  · by_cases hle : xs.length + ys.length ≤ xs.length + rest.length
    · refine ⟨?_⟩
      simp only [hfirst]
      rw [if_pos hle]
      simp only [Nat.mul_one, add_mk, Nat.zero_add]
      obtain ⟨h', e1, e2, e3⟩ := stores_blk (o := xs.length) ys h (xs ++ rest) 0 hblk (by simp; omega) hc
      have e1' : stores h ⟨b, xs.length, none⟩ 0 ys.toArray.toList = some h' := e1
      rw [e1']
      refine hk _ h' [b] (.inr ⟨b, rest.drop ys.length, ?_, ?_, rfl⟩) e3 (by simp) ?_
      · simp; omega
      · simp only [Nat.add_zero] at e2
        rw [List.take_append_of_le_length (Nat.le_refl _), List.take_length, show xs.length + ys.length = xs.length + ys.length from rfl, List.drop_append] at e2
        have e0 : List.drop (xs.length + ys.length) xs = [] := List.drop_eq_nil_of_le (by omega)
        simpa [e0] using e2
      · have : ∀ (vs : List Value) (h h' : Heap) (a : Addr) (i : Nat), stores h a i vs = some h' → h'.size = h.size := by
          intro vs
          induction vs with
          | nil => intro h h' a i e; simp [stores] at e; rw [e]
          | cons u us ih =>
            intro h h' a i e
            rw [stores] at e
            cases hs : storeOne h (a.add i) u with
            | none => rw [hs] at e; cases e
            | some h1 =>
              rw [hs] at e
              rw [ih _ _ _ _ e]
              unfold storeOne at hs
              split at hs
              · cases hs
              · cases hs
              · split at hs
                · split at hs
                  · cases hs
                  · cases hs; exact setCell_size _ _ _
                · cases hs
        have := this _ _ _ _ _ e1
        omega
    · exact fin _ _ _ rfl rfl (by omega)
/-- A literal of one element. -/
theorem BldS_one {el : Nat} {zero : Array Value} {x : Value} (hz : zero.size = 1) (hx : isCell x = true)
    (hk : ∀ h', Own h' (.slice (some ⟨h.size, 0, none⟩) 1 1) [x] [h.size] → Fr [] h h' → h'.size = h.size + 1 → K (.slice (some ⟨h.size, 0, none⟩) 1 1) h') : BldS el 1 1 zero [(0, x)] K h := by
  rw [BldS_eq]
  have hxc : x.cells = #[x] := by cases x <;> first | rfl | cases hx
  have hf : Instr.fill (fun i => some (i * 1, 1)) ((Array.range (1 * 1)).map (zero[· % zero.size]!)) [(0, x)] = some #[x] := by
    have e : (Array.range (1 * 1)).map (zero[· % zero.size]!) = #[zero[0 % zero.size]!] := by
      simp [Array.range, Array.ofFn_succ]
    rw [e]
    simp [Instr.fill, hxc]
  rw [hf]
  exact hk _ (by have := Own.of_blk (Blk.push h #[x] el); simpa using this) (Fr.push h _) (by simp)
theorem cells_one {x : Value} (hx : isCell x = true) : x.cells = #[x] := by cases x <;> first | rfl | cases hx
theorem fill_one {places : Nat → Option (Nat × Nat)} {zero : Array Value} {i off : Nat} {x : Value} {rest : List (Nat × Value)} (hp : places i = some (off, 1)) (hx : isCell x = true) (ho : off < zero.size) :
    Instr.fill places zero ((i, x) :: rest) = Instr.fill places (zero.setIfInBounds off x) rest := by
  have h2 : (decide ((#[x] : Array Value).size ≠ 1) || decide (off + (#[x] : Array Value).size > zero.size)) = false := by
    simp; omega
  have e : (#[x] : Array Value).zipIdx.foldl (fun cs (c, j) => cs.setIfInBounds (off + j) c) zero = zero.setIfInBounds off x := by simp
  conv => lhs; unfold Instr.fill
  simp only [hp, cells_one hx, h2, Bool.false_eq_true, if_false]
  exact congrArg (fun z => Instr.fill places z rest) e
theorem fill_nil {places : Nat → Option (Nat × Nat)} {zero : Array Value} : Instr.fill places zero [] = some zero := rfl
theorem Rd.isCell {h : Heap} {v : Value} {xs : List Value} (hr : Rd h v xs) : isCell v = true := by obtain ⟨a, c, rfl, _, _⟩ := hr; rfl
/-- append(xs, x) -/
theorem Own.app1 {el bytes : Nat} {zero : Array Value} {x : Value} (ho : Own h v xs bs) (hz : zero.size = 1) (hzc : isCell zero[0]! = true) (hx : isCell x = true)
    (hb : (2 * (xs.length + 1) + 512) * bytes ≤ 281474976710656) (hbig : xs.length + 1 ≤ 4611686018427387904)
    (hk : ∀ v' h' bs', Own h' v' (xs ++ [x]) bs' → Fr bs h h' → (∀ b ∈ bs', b ∈ bs ∨ h.size ≤ b) → K v' h') : BldS el 1 1 zero [(0, x)] (fun t h => App el 1 bytes zero v t K h) h := by
  refine BldS_one hz hx fun h1 hn f1 hsz => ?_
  have ho1 : Own h1 v xs bs := ho.fr f1 (by simp)
  refine ho1.app hn.rd hz hzc (by simpa using hx) hb hbig fun v' h' bs' ho' f2 hbs hs2 => hk v' h' bs' ho' ?_ ?_
  · exact (f1.mono (by simp)).trans f2
  · intro b hb
    rcases hbs b hb with hm | hm
    · exact .inl hm
    · right; omega
end
end Go.Pt
