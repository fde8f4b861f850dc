/- The state of the walk in memory. Conditions: those typed ahead of each theorem. -/
import Derived.Test.YtonngdjfnnibaaaNf4
import Derived.Test.YtonngdjfnnibaaaSe
namespace Go.Proofs.Ytonngdjfnnibaaa
open Go.Pt
set_option linter.unusedVariables false
set_option linter.unusedSimpArgs false
/-! ### What is below a bound stays -/
structure FrN (N : Nat) (h h' : Heap) : Prop where
  size : h.size ≤ h'.size
  keep : ∀ c, c < h.size → c < N → h'[c]? = h[c]?
theorem FrN.refl (N : Nat) (h : Heap) : FrN N h h := ⟨Nat.le_refl _, fun _ _ _ => rfl⟩
theorem FrN.trans {N : Nat} {h h1 h2 : Heap} (f : FrN N h h1) (g : FrN N h1 h2) : FrN N h h2 := ⟨Nat.le_trans f.size g.size, fun c hc hN => (g.keep c (Nat.lt_of_lt_of_le hc f.size) hN).trans (f.keep c hc hN)⟩
theorem Fr.toN {N : Nat} {S : List Nat} {h h' : Heap} (f : Fr S h h') (hS : ∀ b ∈ S, N ≤ b) : FrN N h h' := ⟨f.size, fun c hc hN => f.keep c hc fun hm => by have := hS c hm; omega⟩
theorem FrN.fr {N : Nat} {H h h' : Heap} (g : FrN N h h') (f : Fr [] H h) (hN : H.size ≤ N) : Fr [] H h' := ⟨Nat.le_trans f.size g.size, fun c hc _ => (g.keep c (Nat.lt_of_lt_of_le hc f.size) (by omega)).trans (f.keep c hc (by simp))⟩
/-! ### A slice of clauses, each of four cells -/
def mkF (lw : Nat → Value) (H S P : Nat → Int) : Nat → Value := fun j => if j % 4 = 0 then lw (j / 4) else if j % 4 = 1 then Iv (H (j / 4)) else if j % 4 = 2 then Iv (S (j / 4)) else Iv (P (j / 4))
theorem mkF0 (lw : Nat → Value) (H S P : Nat → Int) (i : Nat) : mkF lw H S P (i * 4) = lw i := by
  unfold mkF; rw [if_pos (by omega), show i * 4 / 4 = i by omega]
theorem mkF1 (lw : Nat → Value) (H S P : Nat → Int) (i : Nat) : mkF lw H S P (i * 4 + 1) = Iv (H i) := by
  unfold mkF; rw [if_neg (by omega), if_pos (by omega), show (i * 4 + 1) / 4 = i by omega]
theorem mkF2 (lw : Nat → Value) (H S P : Nat → Int) (i : Nat) : mkF lw H S P (i * 4 + 2) = Iv (S i) := by
  unfold mkF; rw [if_neg (by omega), if_neg (by omega), if_pos (by omega), show (i * 4 + 2) / 4 = i by omega]
theorem mkF3 (lw : Nat → Value) (H S P : Nat → Int) (i : Nat) : mkF lw H S P (i * 4 + 3) = Iv (P i) := by
  unfold mkF; rw [if_neg (by omega), if_neg (by omega), if_neg (by omega), show (i * 4 + 3) / 4 = i by omega]
theorem mkF_H (lw : Nat → Value) (H S P : Nat → Int) (i : Nat) (x : Int) : updR (mkF lw H S P) (i * 4 + 1) (Iv x) = mkF lw (updR H i x) S P := by
  funext j
  by_cases e : j = i * 4 + 1
  · subst e; rw [updR_at, mkF1, updR_at]
  · rw [updR_ne e]; unfold mkF
    by_cases q : j % 4 = 1
    · rw [if_neg (by omega), if_pos q, if_neg (by omega), if_pos q, updR_ne (by omega)]
    · by_cases q0 : j % 4 = 0
      · rw [if_pos q0, if_pos q0]
      · rw [if_neg q0, if_neg q, if_neg q0, if_neg q]
theorem mkF_S (lw : Nat → Value) (H S P : Nat → Int) (i : Nat) (x : Int) : updR (mkF lw H S P) (i * 4 + 2) (Iv x) = mkF lw H (updR S i x) P := by
  funext j
  by_cases e : j = i * 4 + 2
  · subst e; rw [updR_at, mkF2, updR_at]
  · rw [updR_ne e]; unfold mkF
    by_cases q : j % 4 = 2
    · rw [if_neg (by omega), if_neg (by omega), if_pos q, if_neg (by omega), if_neg (by omega), if_pos q, updR_ne (by omega)]
    · by_cases q0 : j % 4 = 0
      · rw [if_pos q0, if_pos q0]
      · by_cases q1 : j % 4 = 1
        · rw [if_neg q0, if_pos q1, if_neg q0, if_pos q1]
        · rw [if_neg q0, if_neg q1, if_neg q, if_neg q0, if_neg q1, if_neg q]
theorem mkF_P (lw : Nat → Value) (H S P : Nat → Int) (i : Nat) (x : Int) : updR (mkF lw H S P) (i * 4 + 3) (Iv x) = mkF lw H S (updR P i x) := by
  funext j
  by_cases e : j = i * 4 + 3
  · subst e; rw [updR_at, mkF3, updR_at]
  · rw [updR_ne e]; unfold mkF
    by_cases q0 : j % 4 = 0
    · rw [if_pos q0, if_pos q0]
    · by_cases q1 : j % 4 = 1
      · rw [if_neg q0, if_pos q1, if_neg q0, if_pos q1]
      · by_cases q2 : j % 4 = 2
        · rw [if_neg q0, if_neg q1, if_pos q2, if_neg q0, if_neg q1, if_pos q2]
        · rw [if_neg q0, if_neg q1, if_neg q2, if_neg q0, if_neg q1, if_neg q2, updR_ne (by omega)]
def cells4 (k : Nat) (F : Nat → Value) : List Value := (List.range (4 * k)).map F
theorem cells4_len (k : Nat) (F : Nat → Value) : (cells4 k F).length = 4 * k := by simp [cells4]
theorem cells4_set {k o : Nat} {F : Nat → Value} {x : Value} : (cells4 k F).set o x = cells4 k (updR F o x) := by
  refine List.ext_getElem (by simp [cells4]) fun j h1 h2 => ?_
  rw [List.getElem_set]
  simp only [cells4, List.getElem_map, List.getElem_range, updR]
  by_cases e : o = j
  · rw [if_pos e, if_pos e.symm]
  · rw [if_neg e, if_neg (fun q => e q.symm)]
theorem cells4_at {k o : Nat} {F : Nat → Value} {rest : List Value} (h : o < 4 * k) : At (cells4 k F ++ rest) o (F o) := ⟨by
  rw [List.getElem?_append_left (by rw [cells4_len]; exact h), cells4, List.getElem?_map, List.getElem?_range h]; rfl⟩
def Own4 (h : Heap) (v : Value) (k : Nat) (F : Nat → Value) (bs : List Nat) : Prop :=
  (v = .slice none 0 0 ∧ k = 0 ∧ bs = []) ∨ ∃ b cap rest, v = .slice (some ⟨b, 0, none⟩) k cap ∧ k ≤ cap ∧ rest.length = 4 * (cap - k) ∧ Blk h b (cells4 k F ++ rest) ∧ bs = [b]
def rOwn4 (v : Value) (k : Nat) (F : Nat → Value) (bs : List Nat) : Res := ⟨fun h => Own4 h v k F bs, bs, fun o f hS => by
  rcases o with o | ⟨b, cap, rest, e1, e2, e3, e4, e5⟩
  · exact .inl o
  · exact .inr ⟨b, cap, rest, e1, e2, e3, e4.fr f (hS b (by rw [e5]; simp)), e5⟩, fun o => by
  rcases o with ⟨_, _, rfl⟩ | ⟨b, cap, rest, e1, e2, e3, e4, rfl⟩
  · intro b hb; cases hb
  · intro b' hb; simp at hb; rw [hb]; exact e4.lt, fun o f => by
  rcases o with o | ⟨b, cap, rest, e1, e2, e3, e4, e5⟩
  · exact .inl o
  · exact .inr ⟨b, cap, rest, e1, e2, e3, e4.one f, e5⟩⟩
theorem Own4.pos {h : Heap} {v : Value} {k : Nat} {F : Nat → Value} {bs : List Nat} (o : Own4 h v k F bs) (hk : 0 < k) : ∃ b cap rest, v = .slice (some ⟨b, 0, none⟩) k cap ∧ k ≤ cap ∧ rest.length = 4 * (cap - k) ∧ Blk h b (cells4 k F ++ rest) ∧ bs = [b] := by
  rcases o with ⟨_, e, _⟩ | o
  · omega
  · exact o
theorem Own4.len {h : Heap} {v : Value} {k : Nat} {F : Nat → Value} {bs : List Nat} {K : Ret} (o : Own4 h v k F bs) : Len v K h = K (Iv (k : Nat)) h := by
  rcases o with ⟨rfl, rfl, rfl⟩ | ⟨b, cap, rest, rfl, _⟩
  · exact Len_at none 0 0
  · exact Len_at _ _ _
/-! ### The state -/
structure LMod where
  c0 : List Value
  ows : List Value
  av : Value
  lv : Value
  ov : Value
  rv : Value
  bv : Value
  mv : Value
  zv : Value
  ab : List Nat
  lb : List Nat
  ob : List Nat
  rb : List Nat
  bb : List Nat
  mb : List Nat
  zb : List Nat
  k : Nat
  a : List Bool
  H : Nat → Int
  S : Nat → Int
  P : Nat → Int
  row : List Nat
  br : Nat → Int
  ma : Nat → Int
  z : List Bool
  few : Int
  fl : Int
  ow : Nat → Value
  occ : Nat → List Nat
  ofp : Nat → List Nat
  lw : Nat → Value
  L : Nat → List Int
  lf : Nat → List Nat
def ints (l : List Nat) : List Value := l.map fun i : Nat => Iv (i : Nat)
/-- The state's own cells and the occurrences' are those of its parts. -/
def LMod.st (m : LMod) (n : Nat) : Prop := m.c0 = [m.av, m.lv, m.ov, m.rv, m.bv, m.mv, m.zv, Iv m.few, Iv m.fl] ∧ m.ows = (List.range (2 * n)).map m.ow
/-- Which thing is which. -/
structure LR (R : Nat → Res) (o sb n K : Nat) (m : LMod) : Prop where
  r0 : R o = rBlk sb m.c0
  r1 : R (o + 1) = rOwn m.av (m.a.map .bool) m.ab
  r2 : R (o + 2) = rOwn4 m.lv m.k (mkF m.lw m.H m.S m.P) m.lb
  r3 : R (o + 3) = rOwn m.ov m.ows m.ob
  r4 : R (o + 4) = rOwn m.rv (ints m.row) m.rb
  r5 : R (o + 5) = rOwn m.bv (So.arr (n + 1) m.br) m.bb
  r6 : R (o + 6) = rOwn m.mv (So.arr (n + 1) m.ma) m.mb
  r7 : R (o + 7) = rOwn m.zv (m.z.map .bool) m.zb
  ro : ∀ j, j < 2 * n → R (o + 8 + j) = rOwn (m.ow j) (ints (m.occ j)) (m.ofp j)
  rl : ∀ i, i < K → R (o + 8 + 2 * n + i) = rOwn (m.lw i) ((m.L i).map Iv) (m.lf i)
  kK : m.k ≤ K
section
variable {N M : Nat} {h h' : Heap} {R : Nat → Res} {o sb n K : Nat} {m : LMod}
theorem Sep.is {i : Nat} {r : Res} (s : Sep N h M R) (hi : i < M) (e : R i = r) : r.own h := by have := s.own i hi; rwa [e] at this
theorem Sep.los {i : Nat} {r : Res} (s : Sep N h M R) (hi : i < M) (e : R i = r) : ∀ b ∈ r.fp, N ≤ b := by have := s.lo i hi; rwa [e] at this
section
variable (l : LR R o sb n K m) (s : Sep N h M R) (hM : o + 8 + 2 * n + K ≤ M)
include l s hM
theorem LR.b0 : Blk h sb m.c0 := s.is (by omega) l.r0
theorem LR.o1 : Own h m.av (m.a.map .bool) m.ab := s.is (by omega) l.r1
theorem LR.o2 : Own4 h m.lv m.k (mkF m.lw m.H m.S m.P) m.lb := s.is (by omega) l.r2
theorem LR.o3 : Own h m.ov m.ows m.ob := s.is (by omega) l.r3
theorem LR.o4 : Own h m.rv (ints m.row) m.rb := s.is (by omega) l.r4
theorem LR.o5 : Own h m.bv (So.arr (n + 1) m.br) m.bb := s.is (by omega) l.r5
theorem LR.o6 : Own h m.mv (So.arr (n + 1) m.ma) m.mb := s.is (by omega) l.r6
theorem LR.o7 : Own h m.zv (m.z.map .bool) m.zb := s.is (by omega) l.r7
theorem LR.oo {j : Nat} (hj : j < 2 * n) : Own h (m.ow j) (ints (m.occ j)) (m.ofp j) := s.is (by omega) (l.ro j hj)
theorem LR.ol {i : Nat} (hi : i < K) : Own h (m.lw i) ((m.L i).map Iv) (m.lf i) := s.is (by omega) (l.rl i hi)
theorem LR.put0 {cs : List Value} (hN : N ≤ h.size) (w : (rBlk sb cs).own h') (f : Fr (rBlk sb m.c0).fp h h') :
    Sep N h' M (updR R (o) (rBlk sb cs)) ∧ LR (updR R (o) (rBlk sb cs)) o sb n K { m with c0 := cs } := by
  exact ⟨s.set (by omega) (by rw [l.r0]; exact f) w (fun b hb' => .inl (by rw [l.r0]; exact hb')) hN, ⟨updR_at _ _ _, (updR_ne (by omega)).trans l.r1, (updR_ne (by omega)).trans l.r2, (updR_ne (by omega)).trans l.r3, (updR_ne (by omega)).trans l.r4, (updR_ne (by omega)).trans l.r5, (updR_ne (by omega)).trans l.r6, (updR_ne (by omega)).trans l.r7, fun j hj => (updR_ne (by omega)).trans (l.ro j hj), fun i hi => (updR_ne (by omega)).trans (l.rl i hi), l.kK⟩⟩
theorem LR.put1 {a' : List Bool} (hN : N ≤ h.size) (w : (rOwn m.av (a'.map .bool) m.ab).own h') (f : Fr (rOwn m.av (m.a.map .bool) m.ab).fp h h') :
    Sep N h' M (updR R (o + 1) (rOwn m.av (a'.map .bool) m.ab)) ∧ LR (updR R (o + 1) (rOwn m.av (a'.map .bool) m.ab)) o sb n K { m with a := a' } := by
  exact ⟨s.set (by omega) (by rw [l.r1]; exact f) w (fun b hb' => .inl (by rw [l.r1]; exact hb')) hN, ⟨(updR_ne (by omega)).trans l.r0, updR_at _ _ _, (updR_ne (by omega)).trans l.r2, (updR_ne (by omega)).trans l.r3, (updR_ne (by omega)).trans l.r4, (updR_ne (by omega)).trans l.r5, (updR_ne (by omega)).trans l.r6, (updR_ne (by omega)).trans l.r7, fun j hj => (updR_ne (by omega)).trans (l.ro j hj), fun i hi => (updR_ne (by omega)).trans (l.rl i hi), l.kK⟩⟩
theorem LR.put2 {lv' : Value} {k' : Nat} {H' S' P' : Nat → Int} {lb' : List Nat} (hN : N ≤ h.size) (w : (rOwn4 lv' k' (mkF m.lw H' S' P') lb').own h') (f : Fr (rOwn4 m.lv m.k (mkF m.lw m.H m.S m.P) m.lb).fp h h') (hb : ∀ b ∈ lb', b ∈ m.lb ∨ h.size ≤ b) (hk : k' ≤ K) :
    Sep N h' M (updR R (o + 2) (rOwn4 lv' k' (mkF m.lw H' S' P') lb')) ∧ LR (updR R (o + 2) (rOwn4 lv' k' (mkF m.lw H' S' P') lb')) o sb n K { m with lv := lv', k := k', H := H', S := S', P := P', lb := lb' } := by
  exact ⟨s.set (by omega) (by rw [l.r2]; exact f) w (fun b hb' => by rw [l.r2]; exact hb b hb') hN, ⟨(updR_ne (by omega)).trans l.r0, (updR_ne (by omega)).trans l.r1, updR_at _ _ _, (updR_ne (by omega)).trans l.r3, (updR_ne (by omega)).trans l.r4, (updR_ne (by omega)).trans l.r5, (updR_ne (by omega)).trans l.r6, (updR_ne (by omega)).trans l.r7, fun j hj => (updR_ne (by omega)).trans (l.ro j hj), fun i hi => (updR_ne (by omega)).trans (l.rl i hi), hk⟩⟩
theorem LR.put3 {ws : List Value} (hN : N ≤ h.size) (w : (rOwn m.ov ws m.ob).own h') (f : Fr (rOwn m.ov m.ows m.ob).fp h h') :
    Sep N h' M (updR R (o + 3) (rOwn m.ov ws m.ob)) ∧ LR (updR R (o + 3) (rOwn m.ov ws m.ob)) o sb n K { m with ows := ws } := by
  exact ⟨s.set (by omega) (by rw [l.r3]; exact f) w (fun b hb' => .inl (by rw [l.r3]; exact hb')) hN, ⟨(updR_ne (by omega)).trans l.r0, (updR_ne (by omega)).trans l.r1, (updR_ne (by omega)).trans l.r2, updR_at _ _ _, (updR_ne (by omega)).trans l.r4, (updR_ne (by omega)).trans l.r5, (updR_ne (by omega)).trans l.r6, (updR_ne (by omega)).trans l.r7, fun j hj => (updR_ne (by omega)).trans (l.ro j hj), fun i hi => (updR_ne (by omega)).trans (l.rl i hi), l.kK⟩⟩
theorem LR.put4 {rv' : Value} {row' : List Nat} {rb' : List Nat} (hN : N ≤ h.size) (w : (rOwn rv' (ints row') rb').own h') (f : Fr (rOwn m.rv (ints m.row) m.rb).fp h h') (hb : ∀ b ∈ rb', b ∈ m.rb ∨ h.size ≤ b) :
    Sep N h' M (updR R (o + 4) (rOwn rv' (ints row') rb')) ∧ LR (updR R (o + 4) (rOwn rv' (ints row') rb')) o sb n K { m with rv := rv', row := row', rb := rb' } := by
  exact ⟨s.set (by omega) (by rw [l.r4]; exact f) w (fun b hb' => by rw [l.r4]; exact hb b hb') hN, ⟨(updR_ne (by omega)).trans l.r0, (updR_ne (by omega)).trans l.r1, (updR_ne (by omega)).trans l.r2, (updR_ne (by omega)).trans l.r3, updR_at _ _ _, (updR_ne (by omega)).trans l.r5, (updR_ne (by omega)).trans l.r6, (updR_ne (by omega)).trans l.r7, fun j hj => (updR_ne (by omega)).trans (l.ro j hj), fun i hi => (updR_ne (by omega)).trans (l.rl i hi), l.kK⟩⟩
theorem LR.put5 {br' : Nat → Int} (hN : N ≤ h.size) (w : (rOwn m.bv (So.arr (n + 1) br') m.bb).own h') (f : Fr (rOwn m.bv (So.arr (n + 1) m.br) m.bb).fp h h') :
    Sep N h' M (updR R (o + 5) (rOwn m.bv (So.arr (n + 1) br') m.bb)) ∧ LR (updR R (o + 5) (rOwn m.bv (So.arr (n + 1) br') m.bb)) o sb n K { m with br := br' } := by
  exact ⟨s.set (by omega) (by rw [l.r5]; exact f) w (fun b hb' => .inl (by rw [l.r5]; exact hb')) hN, ⟨(updR_ne (by omega)).trans l.r0, (updR_ne (by omega)).trans l.r1, (updR_ne (by omega)).trans l.r2, (updR_ne (by omega)).trans l.r3, (updR_ne (by omega)).trans l.r4, updR_at _ _ _, (updR_ne (by omega)).trans l.r6, (updR_ne (by omega)).trans l.r7, fun j hj => (updR_ne (by omega)).trans (l.ro j hj), fun i hi => (updR_ne (by omega)).trans (l.rl i hi), l.kK⟩⟩
theorem LR.put6 {ma' : Nat → Int} (hN : N ≤ h.size) (w : (rOwn m.mv (So.arr (n + 1) ma') m.mb).own h') (f : Fr (rOwn m.mv (So.arr (n + 1) m.ma) m.mb).fp h h') :
    Sep N h' M (updR R (o + 6) (rOwn m.mv (So.arr (n + 1) ma') m.mb)) ∧ LR (updR R (o + 6) (rOwn m.mv (So.arr (n + 1) ma') m.mb)) o sb n K { m with ma := ma' } := by
  exact ⟨s.set (by omega) (by rw [l.r6]; exact f) w (fun b hb' => .inl (by rw [l.r6]; exact hb')) hN, ⟨(updR_ne (by omega)).trans l.r0, (updR_ne (by omega)).trans l.r1, (updR_ne (by omega)).trans l.r2, (updR_ne (by omega)).trans l.r3, (updR_ne (by omega)).trans l.r4, (updR_ne (by omega)).trans l.r5, updR_at _ _ _, (updR_ne (by omega)).trans l.r7, fun j hj => (updR_ne (by omega)).trans (l.ro j hj), fun i hi => (updR_ne (by omega)).trans (l.rl i hi), l.kK⟩⟩
theorem LR.put7 {zv' : Value} {z' : List Bool} {zb' : List Nat} (hN : N ≤ h.size) (w : (rOwn zv' (z'.map .bool) zb').own h') (f : Fr (rOwn m.zv (m.z.map .bool) m.zb).fp h h') (hb : ∀ b ∈ zb', b ∈ m.zb ∨ h.size ≤ b) :
    Sep N h' M (updR R (o + 7) (rOwn zv' (z'.map .bool) zb')) ∧ LR (updR R (o + 7) (rOwn zv' (z'.map .bool) zb')) o sb n K { m with zv := zv', z := z', zb := zb' } := by
  exact ⟨s.set (by omega) (by rw [l.r7]; exact f) w (fun b hb' => by rw [l.r7]; exact hb b hb') hN, ⟨(updR_ne (by omega)).trans l.r0, (updR_ne (by omega)).trans l.r1, (updR_ne (by omega)).trans l.r2, (updR_ne (by omega)).trans l.r3, (updR_ne (by omega)).trans l.r4, (updR_ne (by omega)).trans l.r5, (updR_ne (by omega)).trans l.r6, updR_at _ _ _, fun j hj => (updR_ne (by omega)).trans (l.ro j hj), fun i hi => (updR_ne (by omega)).trans (l.rl i hi), l.kK⟩⟩
end
end
end Go.Proofs.Ytonngdjfnnibaaa
