/- Two formulas made in one assignment, in whatever order: a list of what has been made, each with its footprint. Conditions: those typed ahead of each theorem. -/
import Derived.Test.YtonihbbpfliihaaNf4
namespace Go.Proofs.Ytonihbbpfliihaa
open Go.Pt
set_option linter.unusedVariables false
set_option linter.unusedSimpArgs false
def ofp (b0 : List Nat) (ps : Ps) : List Nat := b0 ++ ps.flatMap (·.2.2)
theorem OwnF.frd {h h' : Heap} {v : Value} {N : Nat} {b0 S : List Nat} {ps : Ps} (o : OwnF h v N b0 ps) (f : Fr S h h') (hS : ∀ b ∈ ofp b0 ps, b ∉ S) : OwnF h' v N b0 ps :=
  ⟨o.own.fr f fun b hb => hS b (List.mem_append_left _ hb), fun p hp => (o.each p hp).fr f fun b hb => hS b (List.mem_append_right _ (List.mem_flatMap.2 ⟨p, hp, hb⟩)), o.lo, o.los, o.dj⟩
theorem OwnF.ofp_lo {h : Heap} {v : Value} {N : Nat} {b0 : List Nat} {ps : Ps} (o : OwnF h v N b0 ps) : ∀ b ∈ ofp b0 ps, N ≤ b := by
  intro b hb
  rcases List.mem_append.1 hb with x | x
  · exact o.lo b x
  · obtain ⟨p, hp, hb⟩ := List.mem_flatMap.1 x; exact (o.los p hp b hb).1
theorem OwnF.ofp_lt {h : Heap} {v : Value} {N : Nat} {b0 : List Nat} {ps : Ps} (o : OwnF h v N b0 ps) : ∀ b ∈ ofp b0 ps, b < h.size := by
  intro b hb
  rcases List.mem_append.1 hb with x | x
  · exact o.lt.1 b x
  · obtain ⟨p, hp, hb⟩ := List.mem_flatMap.1 x; exact o.lt.2 p hp b hb
inductive It where
  | n (b : Nat)
  | r (u : Value) (b0 : List Nat) (ps : Ps)
  | w (b : Nat) (u : Value)
def It.fp : It → List Nat
  | .n b => [b]
  | .r _ b0 ps => ofp b0 ps
  | .w b _ => [b]
def It.ok (k : Int) (cs : List (List Int)) (h : Heap) : It → Prop
  | .n b => Blk h b [Iv 0, .slice none 0 0]
  | .r u b0 ps => (∃ N, OwnF h u N b0 ps) ∧ cls ps = cs
  | .w b u => Blk h b [Iv k, u]
theorem It.ok_fr {k : Int} {cs : List (List Int)} {h h' : Heap} {S : List Nat} : ∀ {x : It}, x.ok k cs h → Fr S h h' → (∀ b ∈ x.fp, b ∉ S) → x.ok k cs h'
  | .n b, o, f, hS => Blk.fr o f (hS b (by simp [It.fp]))
  | .r u b0 ps, o, f, hS => ⟨let ⟨N, p⟩ := o.1; ⟨N, p.frd f hS⟩, o.2⟩
  | .w b u, o, f, hS => Blk.fr o f (hS b (by simp [It.fp]))
theorem It.ok_lt {k : Int} {cs : List (List Int)} {h : Heap} : ∀ {x : It}, x.ok k cs h → ∀ b ∈ x.fp, b < h.size
  | .n b, o, b', hb => by simp [It.fp] at hb; rw [hb]; exact Blk.lt o
  | .r u b0 ps, o, b', hb => let ⟨N, p⟩ := o.1; p.ofp_lt b' hb
  | .w b u, o, b', hb => by simp [It.fp] at hb; rw [hb]; exact Blk.lt o
structure MP where
  h0 : Heap
  rb : Nat
  a : Int
  v : Value
  xss : List (List Int)
  ws : List Value
  vars : Nat
  wd : Nat
def MP.k (m : MP) : Int := (((m.a % ((m.vars : Int) + 1)).toNat : Nat) : Int)
def MP.cs (m : MP) : List (List Int) := rawF (m.a % ((m.vars : Int) + 1)).toNat m.wd m.xss
structure Mem (m : MP) (L : List It) (h : Heap) : Prop where
  fr : Fr [] m.h0 h
  rb : Blk m.h0 m.rb [.int .u8 m.a, m.v]
  rx : RdX (.int .i16) m.h0 m.v m.xss m.ws
  lim : (0 ≤ m.a ∧ m.a ≤ 255) ∧ m.vars ≤ 1000 ∧ m.wd ≤ 1000 ∧ m.xss.length ≤ 1000000 ∧ ∀ c ∈ m.xss, c.length ≤ 1000000
  ok : ∀ (i : Nat) (x : It), L[i]? = some x → x.ok m.k m.cs h ∧ ∀ b ∈ x.fp, m.h0.size ≤ b
  dj : ∀ (i j : Nat) (x y : It), L[i]? = some x → L[j]? = some y → i ≠ j → ∀ b ∈ x.fp, b ∉ y.fp
section
variable {K : Ret} {h h' : Heap} {m : MP} {L : List It}
theorem Mem.add {x : It} (q : Mem m L h) (f : Fr [] h h') (hx : x.ok m.k m.cs h') (hl : ∀ b ∈ x.fp, h.size ≤ b) : Mem m (x :: L) h' := by
  have z := q.fr.size
  refine ⟨q.fr.trans f, q.rb, q.rx, q.lim, fun i y hy => ?_, fun i j y y' hy hy' hij => ?_⟩
  · cases i with
    | zero => cases hy; exact ⟨hx, fun b hb => by have := hl b hb; omega⟩
    | succ i => exact ⟨It.ok_fr (q.ok i y hy).1 f (by simp), (q.ok i y hy).2⟩
  · cases i with
    | zero =>
      cases j with
      | zero => exact absurd rfl hij
      | succ j => cases hy; exact fun b hb hm => by have := hl b hb; have := It.ok_lt (q.ok j y' hy').1 b hm; omega
    | succ i =>
      cases j with
      | zero => cases hy'; exact fun b hb hm => by have := hl b hm; have := It.ok_lt (q.ok i y hy).1 b hb; omega
      | succ j => exact q.dj i j y y' hy hy' (by omega)
theorem Mem.new {t : TypeId} (q : Mem m L h) (hk : ∀ b h', Mem m (.n b :: L) h' → K (ptr b) h') : go (New #[.int .i64 0, .slice none 0 0] t) h K := by
  rw [go_eq]
  refine New_blk fun h1 b1 f1 s1 => ?_
  exact hk h.size h1 (q.add (x := .n h.size) f1 b1 (by simp [It.fp]))
theorem Mem.call (q : Mem m L h) (hk : ∀ u b0 ps h', Mem m (.r u b0 ps :: L) h' → isCell u = true → K (.agg #[.int .i64 m.k, u]) h') : go (CallF Try.prog bradawllaw02_Raw_Formula.id [.agg #[.int .u8 m.a, m.v], .int .i64 m.vars, .int .i64 m.wd]) h K := by
  rw [go_eq, CallF_eq]
  obtain ⟨l1, l2, l3, l4, l5⟩ := q.lim
  refine bradawllaw02_Raw_Formula.spec l1 l2 l3 l4 l5 (q.rx.fr q.fr) fun u b0 ps h1 o1 hc f1 => ?_
  exact hk u b0 ps h1 (q.add (x := .r u b0 ps) f1 ⟨⟨_, o1⟩, hc⟩ o1.ofp_lo) o1.rdl.rd.isCell
theorem Mem.lda (q : Mem m L h) (hk : K (.agg #[.int .u8 m.a, m.v]) h) : go (LdA 2 (ptr m.rb)) h K := by
  rw [go_eq, LdA_two (q.rb.fr q.fr (by simp))]; exact hk
theorem Mem.sta {i : Nat} {b : Nat} {u : Value} {L' : List It} (q : Mem m L h) (hi : L[i]? = some (.n b)) (hu : isCell u = true) (hL : ∀ j, L'[j]? = if j = i then some (.w b u) else L[j]?) (hk : ∀ h', Mem m L' h' → K undef h') : go (StA 2 (ptr b) (.agg #[.int .i64 m.k, u])) h K := by
  rw [go_eq]
  obtain ⟨o, hlo⟩ := q.ok i _ hi
  have hlo := hlo b (by simp [It.fp])
  refine StA_two o rfl hu fun h1 b1 f1 => ?_
  have hdj : ∀ (j : Nat) (x : It), L[j]? = some x → j ≠ i → ∀ b' ∈ x.fp, b' ∉ [b] := fun j x hx hj b' hb' hm => by
    simp at hm; subst hm; exact q.dj j i x _ hx hi hj b' hb' (by simp [It.fp])
  refine hk h1 ⟨q.fr.trans' f1 (by simp; omega), q.rb, q.rx, q.lim, fun j x hx => ?_, fun j j' x y hx hy hij => ?_⟩
  · rw [hL] at hx
    by_cases e : j = i
    · rw [if_pos e] at hx; cases hx; exact ⟨b1, by simp [It.fp]; exact hlo⟩
    · rw [if_neg e] at hx
      obtain ⟨o2, l2⟩ := q.ok j x hx
      exact ⟨It.ok_fr o2 f1 (hdj j x hx e), l2⟩
  · rw [hL] at hx hy
    by_cases e : j = i
    · rw [if_pos e] at hx; cases hx
      rw [if_neg (by omega)] at hy
      intro b' hb' hm
      simp [It.fp] at hb'; subst hb'
      exact hdj j' y hy (by omega) b' hm (by simp)
    · rw [if_neg e] at hx
      by_cases e' : j' = i
      · rw [if_pos e'] at hy; cases hy
        exact hdj j x hx e
      · rw [if_neg e'] at hy
        exact q.dj j j' x y hx hy hij
theorem Mem.sta0 {b : Nat} {u : Value} {L : List It} (q : Mem m (.n b :: L) h) (hu : isCell u = true) (hk : ∀ h', Mem m (.w b u :: L) h' → K undef h') : go (StA 2 (ptr b) (.agg #[.int .i64 m.k, u])) h K :=
  q.sta (i := 0) rfl hu (fun j => by cases j with | zero => rfl | succ j => rw [if_neg (by omega)]; rfl) hk
theorem Mem.sta1 {b : Nat} {u : Value} {x : It} {L : List It} (q : Mem m (x :: .n b :: L) h) (hu : isCell u = true) (hk : ∀ h', Mem m (x :: .w b u :: L) h' → K undef h') : go (StA 2 (ptr b) (.agg #[.int .i64 m.k, u])) h K :=
  q.sta (i := 1) rfl hu (fun j => by match j with | 0 => rfl | 1 => rfl | j + 2 => rw [if_neg (by omega)]; rfl) hk
theorem Mem.sta2 {b : Nat} {u : Value} {x y : It} {L : List It} (q : Mem m (x :: y :: .n b :: L) h) (hu : isCell u = true) (hk : ∀ h', Mem m (x :: y :: .w b u :: L) h' → K undef h') : go (StA 2 (ptr b) (.agg #[.int .i64 m.k, u])) h K :=
  q.sta (i := 2) rfl hu (fun j => by match j with | 0 => rfl | 1 => rfl | 2 => rfl | j + 3 => rw [if_neg (by omega)]; rfl) hk
theorem Mem.sta3 {b : Nat} {u : Value} {x y z : It} {L : List It} (q : Mem m (x :: y :: z :: .n b :: L) h) (hu : isCell u = true) (hk : ∀ h', Mem m (x :: y :: z :: .w b u :: L) h' → K undef h') : go (StA 2 (ptr b) (.agg #[.int .i64 m.k, u])) h K :=
  q.sta (i := 3) rfl hu (fun j => by match j with | 0 => rfl | 1 => rfl | 2 => rfl | 3 => rfl | j + 4 => rw [if_neg (by omega)]; rfl) hk
structure PR where
  b1 : Nat
  b2 : Nat
  u1 : Value
  c1 : List Nat
  p1 : Ps
  u2 : Value
  c2 : List Nat
  p2 : Ps
structure Pair (m : MP) (x : PR) (h : Heap) : Prop where
  fr : Fr [] m.h0 h
  w1 : Blk h x.b1 [Iv m.k, x.u1]
  w2 : Blk h x.b2 [Iv m.k, x.u2]
  r1 : ∃ N, OwnF h x.u1 N x.c1 x.p1
  r2 : ∃ N, OwnF h x.u2 N x.c2 x.p2
  e1 : cls x.p1 = m.cs
  e2 : cls x.p2 = m.cs
  lo : m.h0.size ≤ x.b1 ∧ m.h0.size ≤ x.b2 ∧ (∀ b ∈ ofp x.c1 x.p1, m.h0.size ≤ b) ∧ ∀ b ∈ ofp x.c2 x.p2, m.h0.size ≤ b
  d : x.b1 ≠ x.b2 ∧ x.b1 ∉ ofp x.c1 x.p1 ∧ x.b1 ∉ ofp x.c2 x.p2 ∧ x.b2 ∉ ofp x.c1 x.p1 ∧ x.b2 ∉ ofp x.c2 x.p2
  dd : ∀ b ∈ ofp x.c1 x.p1, b ∉ ofp x.c2 x.p2
theorem Mem.pair {i1 i2 j1 j2 b1 b2 : Nat} {u1 u2 : Value} {c1 c2 : List Nat} {p1 p2 : Ps} (q : Mem m L h) (h1 : L[i1]? = some (.w b1 u1)) (h2 : L[i2]? = some (.w b2 u2)) (h3 : L[j1]? = some (.r u1 c1 p1)) (h4 : L[j2]? = some (.r u2 c2 p2)) (hi : i1 ≠ i2) (hj : j1 ≠ j2) : Pair m ⟨b1, b2, u1, c1, p1, u2, c2, p2⟩ h := by
  have ne : ∀ {i j : Nat} {b : Nat} {u v : Value} {c : List Nat} {p : Ps}, L[i]? = some (.w b u) → L[j]? = some (.r v c p) → i ≠ j := fun a b e => by rw [e, b] at a; cases a
  have in1 : ∀ (b : Nat) (u : Value), b ∈ (It.w b u).fp := fun b u => by simp [It.fp]
  exact ⟨q.fr, (q.ok _ _ h1).1, (q.ok _ _ h2).1, (q.ok _ _ h3).1.1, (q.ok _ _ h4).1.1, (q.ok _ _ h3).1.2, (q.ok _ _ h4).1.2, ⟨(q.ok _ _ h1).2 _ (in1 _ _), (q.ok _ _ h2).2 _ (in1 _ _), (q.ok _ _ h3).2, (q.ok _ _ h4).2⟩,
    ⟨fun e => q.dj _ _ _ _ h1 h2 hi b1 (in1 _ _) (by rw [show b1 = b2 from e]; exact in1 _ _), q.dj _ _ _ _ h1 h3 (ne h1 h3) _ (in1 _ _), q.dj _ _ _ _ h1 h4 (ne h1 h4) _ (in1 _ _), q.dj _ _ _ _ h2 h3 (ne h2 h3) _ (in1 _ _), q.dj _ _ _ _ h2 h4 (ne h2 h4) _ (in1 _ _)⟩,
    q.dj _ _ _ _ h3 h4 hj⟩
theorem it0 {x : It} {l : List It} : (x :: l)[0]? = some x := rfl
theorem it1 {x a : It} {l : List It} : (a :: x :: l)[1]? = some x := rfl
theorem it2 {x a b : It} {l : List It} : (a :: b :: x :: l)[2]? = some x := rfl
theorem it3 {x a b c : It} {l : List It} : (a :: b :: c :: x :: l)[3]? = some x := rfl
end
end Go.Proofs.Ytonihbbpfliihaa
