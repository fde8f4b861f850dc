/- A new state. Conditions: those typed ahead of each theorem. -/
import Derived.Test.YtonngdjfnnibaaaLo9
namespace Go.Proofs.Ytonngdjfnnibaaa
open Go.Pt
set_option linter.unusedVariables false
set_option linter.unusedSimpArgs false
abbrev nilS : Value := .slice none 0 0
/-- What is laid first. -/
def nR (sb n : Nat) (a : List Bool) (v0 : Value) (b0 : List Nat) (v1 : Value) (b1 : List Nat) (v2 : Value) (b2 : List Nat) (v3 : Value) (b3 : List Nat) : Nat → Res
  | 0 => rOwn v0 (a.map .bool) b0
  | 1 => rOwn v1 (List.replicate (2 * n) nilS) b1
  | 2 => rOwn v2 (List.replicate (n + 1) (Iv 0)) b2
  | 3 => rOwn v3 (List.replicate (n + 1) (Iv 0)) b3
  | _ => rBlk sb [v0, nilS, v1, nilS, v2, v3, nilS, Iv 0, Iv 0]
theorem Bld_nine {K : Ret} {h : Heap} {v0 v1 v2 v3 : Value} (c0 : isCell v0 = true) (c1 : isCell v1 = true) (c2 : isCell v2 = true) (c3 : isCell v3 = true) : Bld [(0, 1), (1, 1), (2, 1), (3, 1), (4, 1), (5, 1), (6, 1), (7, 1), (8, 1)] #[(.slice none 0 0), (.slice none 0 0), (.slice none 0 0), (.slice none 0 0), (.slice none 0 0), (.slice none 0 0), (.slice none 0 0), (.int .i64 0), (.int .i64 0)] [(0, v0), (2, v1), (4, v2), (5, v3)] K h = K (.agg #[v0, nilS, v1, nilS, v2, v3, nilS, Iv 0, Iv 0]) h := by
  rw [Bld_eq, fill_one (off := 0) rfl c0 (by simp), fill_one (off := 2) rfl c1 (by simp), fill_one (off := 4) rfl c2 (by simp), fill_one (off := 5) rfl c3 (by simp), fill_nil]; rfl
theorem Bld_four {K : Ret} {h : Heap} {v : Value} (c0 : isCell v = true) : Bld [(0, 1), (1, 1), (2, 1), (3, 1)] #[(.slice none 0 0), (.int .i64 0), (.int .i64 0), (.int .i64 0)] [(0, v), (3, (.int .i64 (-1)))] K h = K (.agg #[v, Iv 0, Iv 0, Iv (-1)]) h := by
  rw [Bld_eq, fill_one (off := 0) rfl c0 (by simp), fill_one (off := 3) rfl rfl (by simp), fill_nil]; rfl
theorem Sep.nine {N : Nat} {h h' : Heap} {R : Nat → Res} {n : Nat} {a : List Bool} {v0 v1 v2 v3 : Value} {b0 b1 b2 b3 : List Nat} (i0 i1 i2 i3 : Nat) (s : Sep N h 4 R) (e0 : R i0 = rOwn v0 (a.map .bool) b0) (e1 : R i1 = rOwn v1 (List.replicate (2 * n) nilS) b1) (e2 : R i2 = rOwn v2 (List.replicate (n + 1) (Iv 0)) b2) (e3 : R i3 = rOwn v3 (List.replicate (n + 1) (Iv 0)) b3)
    (hi : i0 < 4 ∧ i1 < 4 ∧ i2 < 4 ∧ i3 < 4) (hd : i0 ≠ i1 ∧ i0 ≠ i2 ∧ i0 ≠ i3 ∧ i1 ≠ i2 ∧ i1 ≠ i3 ∧ i2 ≠ i3) (b : Blk h' h.size [v0, nilS, v1, nilS, v2, v3, nilS, Iv 0, Iv 0]) (f : Fr [] h h') (hN : N ≤ h.size) : Sep N h' 5 (nR h.size n a v0 b0 v1 b1 v2 b2 v3 b3) := by
  have s1 := s.pick (m' := 4) (fun q => if q = 0 then i0 else if q = 1 then i1 else if q = 2 then i2 else i3) (fun q hq => by show (if _ then _ else _) < 4; split; exact hi.1; split; exact hi.2.1; split; exact hi.2.2.1; exact hi.2.2.2) (fun q q' hq hq' hne => by
    obtain ⟨d1, d2, d3, d4, d5, d6⟩ := hd
    show (if _ then _ else _) ≠ (if _ then _ else _)
    split <;> split <;> (try split) <;> (try split) <;> (try split) <;> (try split) <;> omega)
  have s2 := s1.add (r := rBlk h.size [v0, nilS, v1, nilS, v2, v3, nilS, Iv 0, Iv 0]) f b (fun x hx => by simp [rBlk] at hx; omega) hN
  refine s2.congr fun q hq => ?_
  match q, hq with
  | 0, _ => exact ((updR_ne (show 0 ≠ 4 by decide)).trans e0).symm
  | 1, _ => exact ((updR_ne (show 1 ≠ 4 by decide)).trans e1).symm
  | 2, _ => exact ((updR_ne (show 2 ≠ 4 by decide)).trans e2).symm
  | 3, _ => exact ((updR_ne (show 3 ≠ 4 by decide)).trans e3).symm
  | 4, _ => exact (updR_at _ _ _).symm
abbrev m0 (n : Nat) (a : List Bool) (v0 : Value) (b0 : List Nat) (v1 : Value) (b1 : List Nat) (v2 : Value) (b2 : List Nat) (v3 : Value) (b3 : List Nat) (ps : List (Value × List Int × List Nat)) : LMod :=
  { c0 := [v0, nilS, v1, nilS, v2, v3, nilS, Iv 0, Iv 0], ows := List.replicate (2 * n) nilS, av := v0, lv := nilS, ov := v1, rv := nilS, bv := v2, mv := v3, zv := nilS, ab := b0, lb := [], ob := b1, rb := [], bb := b2, mb := b3, zb := [], k := 0, a := a, H := fun _ => 0, S := fun _ => 0, P := fun _ => 0, row := [], br := fun _ => 0, ma := fun _ => 0, z := [], few := 0, fl := 0, ow := fun _ => nilS, occ := fun _ => [], ofp := fun _ => [], lw := fun i => (ps.getD i (nilS, [], [])).1, L := fun i => (ps.getD i (nilS, [], [])).2.1, lf := fun i => (ps.getD i (nilS, [], [])).2.2 }
def R0 (sb n : Nat) (u : Value) (bu : List Nat) (ps : List (Value × List Int × List Nat)) (m : LMod) : Nat → Res := fun q =>
  if q = 0 then rBlk sb m.c0 else if q = 1 then rOwn m.av (m.a.map .bool) m.ab else if q = 2 then rOwn4 m.lv m.k (mkF m.lw m.H m.S m.P) m.lb else if q = 3 then rOwn m.ov m.ows m.ob else if q = 4 then rOwn m.rv (ints m.row) m.rb
  else if q = 5 then rOwn m.bv (So.arr (n + 1) m.br) m.bb else if q = 6 then rOwn m.mv (So.arr (n + 1) m.ma) m.mb else if q = 7 then rOwn m.zv (m.z.map .bool) m.zb else if q < 8 + 2 * n then rOwn nilS (ints []) [] else psR u bu ps (q - (8 + 2 * n))
theorem arr_zero (k : Nat) : So.arr k (fun _ => 0) = List.replicate k (Iv 0) := by unfold So.arr; rw [List.map_const', List.length_range]
theorem new_state {N : Nat} {h2 h3 : Heap} {sb n : Nat} {a : List Bool} {v0 : Value} {b0 : List Nat} {v1 : Value} {b1 : List Nat} {v2 : Value} {b2 : List Nat} {v3 : Value} {b3 : List Nat} {u : Value} {bu : List Nat} {ps : List (Value × List Int × List Nat)} {F : List (List Int)}
    (s2 : Sep N h2 5 (nR sb n a v0 b0 v1 b1 v2 b2 v3 b3)) (oF : OwnF h3 u h2.size bu ps) (f3 : Fr [] h2 h3) (hN : N ≤ h2.size) (hps : cls ps = F) (al : a.length = n) (hn : n ≤ 1000) (hK : F.length ≤ 1000) :
    ∃ m R, LS N h3 (8 + 2 * n + F.length + 1) R 0 sb n F.length m ∧ Bt n 0 m F a ∧ OcT n 0 F [] m.occ ∧ R (8 + 2 * n + F.length) = rOwn u (ps.map (·.1)) bu ∧ (∀ i, i < F.length → At (ps.map (·.1)) i (m.lw i)) := by
  have hlen : F.length = ps.length := by rw [← hps]; simp [cls]
  have z3 := f3.size
  have hpg : ∀ i, i < ps.length → ps[i]? = some (ps.getD i (nilS, [], [])) := fun i hi => by rw [List.getD_eq_getElem?_getD, List.getElem?_eq_getElem hi]; rfl
  have hn0 : ∀ {xs : List Value}, xs = [] → (rOwn nilS xs []).own h3 := fun e => by rw [e]; exact Own.nil h3
  refine ⟨m0 n a v0 b0 v1 b1 v2 b2 v3 b3 ps, R0 sb n u bu ps (m0 n a v0 b0 v1 b1 v2 b2 v3 b3 ps), ⟨?_, ?_, ?_, by omega, by omega, al, hn, hK⟩, ?_, ?_, ?_, ?_⟩
  · refine (s2.append oF.sep f3 (Nat.le_refl _) hN).spread (fun q => if q = 0 then some 4 else if q = 1 then some 0 else if q = 3 then some 1 else if q = 5 then some 2 else if q = 6 then some 3 else if q < 8 + 2 * n then none else some (5 + (q - (8 + 2 * n)))) ?_ ?_ ?_
    · intro q i hq e
      split at e
      · cases e; rename_i c; subst c; exact ⟨by omega, rfl⟩
      split at e
      · cases e; rename_i c; subst c; exact ⟨by omega, rfl⟩
      split at e
      · cases e; rename_i c; subst c; exact ⟨by omega, rfl⟩
      split at e
      · cases e; rename_i c; subst c; refine ⟨by omega, ?_⟩; unfold R0; simp [nR, arr_zero]
      split at e
      · cases e; rename_i c; subst c; refine ⟨by omega, ?_⟩; unfold R0; simp [nR, arr_zero]
      split at e
      · cases e
      · cases e
        refine ⟨by omega, ?_⟩
        unfold R0
        rw [if_neg (by omega), if_neg (by omega), if_neg (by omega), if_neg (by omega), if_neg (by omega), if_neg (by omega), if_neg (by omega), if_neg (by omega), if_neg (by omega), if_neg (by omega), Nat.add_sub_cancel_left]
    · intro q hq e
      split at e
      · cases e
      split at e
      · cases e
      split at e
      · cases e
      split at e
      · cases e
      split at e
      · cases e
      split at e
      · unfold R0
        rw [if_neg (by omega), if_neg (by omega)]
        by_cases c2 : q = 2
        · rw [if_pos c2]; exact ⟨rfl, .inl ⟨rfl, rfl, rfl⟩⟩
        rw [if_neg c2, if_neg (by omega)]
        by_cases c4 : q = 4
        · rw [if_pos c4]; exact ⟨rfl, hn0 rfl⟩
        rw [if_neg c4, if_neg (by omega), if_neg (by omega)]
        by_cases c7 : q = 7
        · rw [if_pos c7]; exact ⟨rfl, hn0 rfl⟩
        rw [if_neg c7, if_pos (by omega)]; exact ⟨rfl, hn0 rfl⟩
      · cases e
    · intro q q' i hq hq' e e'
      repeat' split at e
      all_goals first | cases e; done | skip
      all_goals
        repeat' split at e'
        all_goals first | (cases e'; done) | (simp only [Option.some.injEq] at e e'; omega)
  · refine ⟨rfl, rfl, rfl, rfl, rfl, rfl, rfl, rfl, fun j hj => ?_, fun i hi => ?_, Nat.zero_le _⟩
    · unfold R0
      rw [if_neg (by omega), if_neg (by omega), if_neg (by omega), if_neg (by omega), if_neg (by omega), if_neg (by omega), if_neg (by omega), if_neg (by omega), if_pos (by omega)]
    · unfold R0
      rw [if_neg (by omega), if_neg (by omega), if_neg (by omega), if_neg (by omega), if_neg (by omega), if_neg (by omega), if_neg (by omega), if_neg (by omega), if_neg (by omega), show 0 + 8 + 2 * n + i - (8 + 2 * n) = i by omega]
      unfold psR
      rw [hpg i (by omega)]
  · refine ⟨rfl, ?_⟩
    show List.replicate (2 * n) nilS = (List.range (2 * n)).map fun _ => nilS
    rw [List.map_const', List.length_range]
  · refine ⟨rfl, rfl, rfl, rfl, fun q c hc => ?_, fun q c hq => by omega, fun q c hq => by omega, ⟨fun v _ => rfl, fun v _ => rfl, List.nodup_nil, fun i => ⟨fun q => (by cases q), fun q => (by have := q.1; exact absurd this (Nat.not_lt_zero _))⟩, fun j i hj => (by cases hj), fun i hi _ => absurd hi (Nat.not_lt_zero _)⟩, List.Pairwise.nil⟩
    rw [← hps, cls, List.getElem?_map] at hc
    show (ps.getD q (nilS, [], [])).2.1 = c
    cases e : ps[q]? with
    | none => rw [e] at hc; cases hc
    | some p =>
      rw [e] at hc
      rw [List.getD_eq_getElem?_getD, e]
      exact Option.some.inj hc
  · intro j hj
    exact ⟨List.Pairwise.nil, fun q => ⟨fun h => (by cases h), fun h => (by rcases h with ⟨h, _⟩ | ⟨_, h⟩; omega; cases h)⟩⟩
  · unfold R0
    rw [if_neg (by omega), if_neg (by omega), if_neg (by omega), if_neg (by omega), if_neg (by omega), if_neg (by omega), if_neg (by omega), if_neg (by omega), if_neg (by omega), show 8 + 2 * n + F.length - (8 + 2 * n) = ps.length by omega]
    unfold psR
    rw [List.getElem?_eq_none (Nat.le_refl _)]
  · intro i hi
    exact ⟨by rw [List.getElem?_map, hpg i (by omega)]; rfl⟩
section
variable {N M : Nat} {h h' : Heap} {R : Nat → Res} {o sb n K : Nat} {m : LMod}
theorem LR.congr {R' : Nat → Res} (l : LR R o sb n K m) (e : ∀ q, q < o + 8 + 2 * n + K → R' q = R q) : LR R' o sb n K m :=
  ⟨(e _ (by omega)).trans l.r0, (e _ (by omega)).trans l.r1, (e _ (by omega)).trans l.r2, (e _ (by omega)).trans l.r3, (e _ (by omega)).trans l.r4, (e _ (by omega)).trans l.r5, (e _ (by omega)).trans l.r6, (e _ (by omega)).trans l.r7, fun j hj => (e _ (by omega)).trans (l.ro j hj), fun i hi => (e _ (by omega)).trans (l.rl i hi), l.kK⟩
theorem LS.less {M' : Nat} (s : LS N h M R o sb n K m) (h1 : M' ≤ M) (h2 : o + 8 + 2 * n + K ≤ M') : LS N h M' R o sb n K m := ⟨s.sep.less h1, s.lr, s.st, h2, s.nN, s.al, s.nb, s.Kb⟩
theorem LS.more {r : Res} (s : LS N h M R o sb n K m) (f : Fr [] h h') (w : r.own h') (hb : ∀ b ∈ r.fp, h.size ≤ b) : LS N h' (M + 1) (updR R M r) o sb n K m := by
  have hM := s.hM
  have z := f.size
  have := s.nN
  exact ⟨s.sep.add f w hb s.nN, s.lr.congr fun q hq => updR_ne (by omega), s.st, by omega, by omega, s.al, s.nb, s.Kb⟩
end
theorem Own4.isCell {h : Heap} {v : Value} {k : Nat} {F : Nat → Value} {bs : List Nat} (o : Own4 h v k F bs) : isCell v = true := by
  rcases o with ⟨rfl, _⟩ | ⟨b, cap, rest, rfl, _⟩ <;> rfl
theorem lit_holds_q {l : Int} {n : Nat} {a : List Bool} {v : Value} (hl : LitOk n l) (hn : n ≤ 1000000000) (ha : n ≤ a.length) {K : Ret} {h : Heap} (hv : Rd h v (a.map .bool)) (hk : K (.bool (litT a l)) h) : QCall Try.prog lit_Holds.id [Iv l, v] K h := QCall_mk (lit_Holds.spec hl hn ha hv ⟨rfl, rfl⟩) hk
theorem LS.putx {N M : Nat} {h h' : Heap} {R : Nat → Res} {o sb n K q : Nat} {m : LMod} {r : Res} (s : LS N h M R o sb n K m) (h1 : o + 8 + 2 * n + K ≤ q) (h2 : q < M) (f : Fr (R q).fp h h') (w : r.own h') (hb : ∀ b ∈ r.fp, b ∈ (R q).fp ∨ h.size ≤ b) : LS N h' M (updR R q r) o sb n K m := by
  have z := f.size
  have := s.nN
  exact ⟨s.sep.set h2 f w hb s.nN, s.lr.congr fun q' hq => updR_ne (by omega), s.st, s.hM, by omega, s.al, s.nb, s.Kb⟩
theorem ow_set {k j : Nat} {f : Nat → Value} {x : Value} : ((List.range k).map f).set j x = (List.range k).map (updR f j x) := by
  refine List.ext_getElem (by simp) fun i h1 h2 => ?_
  rw [List.getElem_set]
  simp only [List.getElem_map, List.getElem_range, updR]
  by_cases e : j = i
  · rw [if_pos e, if_pos e.symm]
  · rw [if_neg e, if_neg (fun q => e q.symm)]
theorem ow_at {k j : Nat} {f : Nat → Value} (h : j < k) : At ((List.range k).map f) j (f j) := ⟨by rw [List.getElem?_map, List.getElem?_range h]; rfl⟩
theorem hB_snoc (p : Int → Bool) (c : List Int) (x : Int) : hB p (c ++ [x]) = hB p c + (if p x then 1 else 0) := wsm_snoc p _ x c
theorem sB_snoc (p : Int → Bool) (c : List Int) (x : Int) : sB p (c ++ [x]) = sB p c + (if p x then (((x.natAbs : Nat)) : Int) else 0) := wsm_snoc p _ x c
end Go.Proofs.Ytonngdjfnnibaaa
