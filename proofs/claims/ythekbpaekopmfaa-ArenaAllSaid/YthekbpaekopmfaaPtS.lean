/- Shorter rules: loops and meetings by a list of slots, steps that ask for bounds. No condition. -/
import Derived.Test.YthekbpaekopmfaaPtR
namespace Go.Pt
set_option linter.unusedVariables false
set_option linter.unusedSimpArgs false

/-! ### Loops and meetings by a list of slots -/
theorem Lp_fn {σ : Type} (f : σ → List Value) (J : σ → Heap → Prop) (μ : σ → Nat) {n : Nat} {body : Cur n → Cur n} {vs : List Value} {h : Heap} (s : σ) (hs : f s = vs) (hn : ∀ s, (f s).length = n) (h0 : J s h)
    (step : ∀ s h, J s h → ∀ X : Cur n, (∀ s' h', J s' h' → μ s' < μ s → app n X (f s') h') → app n (body X) (f s) h) : Lp n body vs h := by
  refine Lp_rule n (fun s vs h => f s = vs ∧ J s h) μ s (by rw [← hs]; exact hn s) ⟨hs, h0⟩ ?_
  rintro s vs h _ ⟨rfl, hJ⟩ X hX
  exact step s h hJ X fun s' h' hJ' hlt => hX s' _ h' (hn s') ⟨rfl, hJ'⟩ hlt
theorem Jn_fn {σ : Type} (f : σ → List Value) (I : σ → Heap → Prop) {n : Nat} {X : Cur n → Prop} {J : Cur n}
    (hX : ∀ J' : Cur n, (∀ s h, I s h → app n J' (f s) h) → X J') (hJ : ∀ s h, I s h → app n J (f s) h) : Join n X J := ⟨hX J hJ⟩

/-! ### Steps that ask for bounds -/
section
variable {K : Ret} {h : Heap} (c : Cls) {a b : Int}
theorem wrap64 {n : Int} (h1 : -9223372036854775808 ≤ n) (h2 : n ≤ 9223372036854775807) : IntKind.i64.wrap n = n := by rw [IntKind.wrap_i64]; omega
theorem Add64 (h1 : -9223372036854775808 ≤ a + b) (h2 : a + b ≤ 9223372036854775807) : Bin c .add (.int .i64 a) (.int .i64 b) K h = K (.int .i64 (a + b)) h := by rw [Bin_add, wrap64 h1 h2]
theorem Sub64 (h1 : -9223372036854775808 ≤ a - b) (h2 : a - b ≤ 9223372036854775807) : Bin c .sub (.int .i64 a) (.int .i64 b) K h = K (.int .i64 (a - b)) h := by rw [Bin_sub, wrap64 h1 h2]
theorem Mul64 (h1 : -9223372036854775808 ≤ a * b) (h2 : a * b ≤ 9223372036854775807) : Bin c .mul (.int .i64 a) (.int .i64 b) K h = K (.int .i64 (a * b)) h := by rw [Bin_mul, wrap64 h1 h2]
theorem Quo64 (h1 : 0 ≤ a) (h2 : a ≤ 9223372036854775807) (h3 : 0 < b) : Bin c .quo (.int .i64 a) (.int .i64 b) K h = K (.int .i64 (a / b)) h := by
  rw [Bin_quo _ _ _ _ (by omega), Int.tdiv_eq_ediv_of_nonneg h1]
  have := Int.ediv_le_self b h1
  have := Int.ediv_nonneg h1 (Int.le_of_lt h3)
  rw [wrap64 (by omega) (by omega)]
theorem Rem64 (k : IntKind) (h1 : 0 ≤ a) (h3 : 0 < b) : Bin c .rem (.int k a) (.int k b) K h = K (.int k (a % b)) h := by
  rw [Bin_rem _ _ _ _ (by omega), Int.tmod_eq_emod_of_nonneg h1]
theorem Neg64 (h1 : -9223372036854775807 ≤ a) (h2 : a ≤ 9223372036854775807) : Un .neg (.int .i64 a) K h = K (.int .i64 (-a)) h := by
  rw [Un_neg, wrap64 (by omega) (by omega), Int.zero_sub]
theorem Cvt64 (k : IntKind) (h1 : -9223372036854775808 ≤ a) (h2 : a ≤ 9223372036854775807) : Cvt .i64 (.int k a) K h = K (.int .i64 a) h := by rw [Cvt_int, wrap64 h1 h2]
theorem CvtU64 (k : IntKind) (h1 : 0 ≤ a) (h2 : a ≤ 18446744073709551615) : Cvt .u64 (.int k a) K h = K (.int .u64 a) h := by rw [Cvt_int, wrap_u64]; congr 2; omega
theorem CvtU8 (k : IntKind) : Cvt .u8 (.int k a) K h = K (.int .u8 (a % 256)) h := by rw [Cvt_int]; congr 2
theorem CvtU16 (k : IntKind) : Cvt .u16 (.int k a) K h = K (.int .u16 (a % 65536)) h := by rw [Cvt_int]; congr 2
theorem CvtU32 (k : IntKind) : Cvt .u32 (.int k a) K h = K (.int .u32 (a % 4294967296)) h := by rw [Cvt_int]; congr 2
theorem AddU64 (h1 : 0 ≤ a + b) (h2 : a + b ≤ 18446744073709551615) : Bin c .add (.int .u64 a) (.int .u64 b) K h = K (.int .u64 (a + b)) h := by rw [Bin_add, wrap_u64]; congr 2; omega
theorem SubU64 (h1 : 0 ≤ a - b) (h2 : a - b ≤ 18446744073709551615) : Bin c .sub (.int .u64 a) (.int .u64 b) K h = K (.int .u64 (a - b)) h := by rw [Bin_sub, wrap_u64]; congr 2; omega
theorem MulU64 (h1 : 0 ≤ a * b) (h2 : a * b ≤ 18446744073709551615) : Bin c .mul (.int .u64 a) (.int .u64 b) K h = K (.int .u64 (a * b)) h := by rw [Bin_mul, wrap_u64]; congr 2; omega
theorem Shr64 (k' : IntKind) (h1 : 0 ≤ b) (h2 : b ≤ 63) : Bin c .shr (.int .i64 a) (.int k' b) K h = K (.int .i64 (a / 2 ^ b.toNat)) h := by
  rw [Bin_shr _ _ _ _ _ h1, show min b.toNat IntKind.i64.bits = b.toNat from Nat.min_eq_left (by show b.toNat ≤ 64; omega), Int.fdiv_eq_ediv_of_nonneg]
  exact Int.le_of_lt (Int.pow_pos (by omega))
theorem If_pos {p : Prop} [Decidable p] {A B : Prop} (hp : p) : If (.bool (decide p)) A B = A := by rw [decide_eq_true hp]; exact propext ⟨fun x => x.out, fun x => ⟨x⟩⟩
theorem If_neg {p : Prop} [Decidable p] {A B : Prop} (hp : ¬ p) : If (.bool (decide p)) A B = B := by rw [decide_eq_false hp]; exact propext ⟨fun x => x.out, fun x => ⟨x⟩⟩
theorem Max_two (k k' : IntKind) (x y : Int) : MaxV [.int k x, .int k' y] K h = K (.int k (max x y)) h := by
  rw [MaxV_two, show (if y > x then y else x) = max x y by omega]
theorem Min_two (k k' : IntKind) (x y : Int) : MinV [.int k x, .int k' y] K h = K (.int k (min x y)) h := by
  rw [MinV_two, show (if y < x then y else x) = min x y by omega]
theorem Eql64 (k : IntKind) : Bin c .eql (.int k a) (.int k b) K h = K (.bool (decide (a = b))) h := by rw [Bin_eql]; congr 2
theorem Neq64 (k : IntKind) : Bin c .neq (.int k a) (.int k b) K h = K (.bool (decide (a ≠ b))) h := by rw [Bin_neq]; congr 2; rw [Bool.eq_iff_iff]; simp [bne_iff_ne]
theorem Pick_pos {p : Prop} [Decidable p] {x y : Value} (hp : p) : Pick (.bool (decide p)) x y K h = K x h := by rw [Pick_bool, decide_eq_true hp, if_pos rfl]
theorem Pick_neg {p : Prop} [Decidable p] {x y : Value} (hp : ¬ p) : Pick (.bool (decide p)) x y K h = K y h := by rw [Pick_bool, decide_eq_false hp, if_neg (by decide)]
theorem Gd_pos_t {p : Prop} [Decidable p] {op : Ret → Heap → Prop} (hp : p) : Gd (.bool (decide p)) true op K h = op K h := by rw [Gd_bool, decide_eq_true hp, if_pos rfl]
theorem Gd_neg_t {p : Prop} [Decidable p] {op : Ret → Heap → Prop} (hp : ¬ p) : Gd (.bool (decide p)) true op K h = K undef h := by rw [Gd_bool, decide_eq_false hp, if_neg (by decide)]
theorem Gd_pos_f {p : Prop} [Decidable p] {op : Ret → Heap → Prop} (hp : p) : Gd (.bool (decide p)) false op K h = K undef h := by rw [Gd_bool, decide_eq_true hp, if_neg (by decide)]
theorem Gd_neg_f {p : Prop} [Decidable p] {op : Ret → Heap → Prop} (hp : ¬ p) : Gd (.bool (decide p)) false op K h = op K h := by rw [Gd_bool, decide_eq_false hp, if_pos rfl]
theorem Not_dec {p : Prop} [Decidable p] : Un .not (.bool (decide p)) K h = K (.bool (decide (¬ p))) h := by rw [Un_not, decide_not]
theorem Gd_tt {op : Ret → Heap → Prop} : Gd (.bool true) true op K h = op K h := by rw [Gd_bool, if_pos rfl]
theorem Gd_tf {op : Ret → Heap → Prop} : Gd (.bool true) false op K h = K undef h := by rw [Gd_bool, if_neg (by decide)]
theorem Gd_ft {op : Ret → Heap → Prop} : Gd (.bool false) true op K h = K undef h := by rw [Gd_bool, if_neg (by decide)]
theorem Gd_ff {op : Ret → Heap → Prop} : Gd (.bool false) false op K h = op K h := by rw [Gd_bool, if_pos rfl]
theorem If_t {A B : Prop} : If (.bool true) A B = A := by rw [If_bool, if_pos rfl]
theorem If_f {A B : Prop} : If (.bool false) A B = B := by rw [If_bool, if_neg (by decide)]
theorem Pick_t {x y : Value} : Pick (.bool true) x y K h = K x h := by rw [Pick_bool, if_pos rfl]
theorem Pick_f {x y : Value} : Pick (.bool false) x y K h = K y h := by rw [Pick_bool, if_neg (by decide)]
theorem mask1_i8 (n : Int) : bits .and .i8 n 1 = n % 2 := by
  show IntKind.i8.wrap ((BitVec.ofInt 8 n &&& BitVec.ofInt 8 1).toNat : Int) = _
  rw [BitVec.toNat_and, show (BitVec.ofInt 8 1).toNat = 1 from rfl, Nat.and_one_is_mod, BitVec.toNat_ofInt]
  simp only [IntKind.wrap, IntKind.bits, IntKind.signed]
  simp
  try omega
theorem mask1_i16 (n : Int) : bits .and .i16 n 1 = n % 2 := by
  show IntKind.i16.wrap ((BitVec.ofInt 16 n &&& BitVec.ofInt 16 1).toNat : Int) = _
  rw [BitVec.toNat_and, show (BitVec.ofInt 16 1).toNat = 1 from rfl, Nat.and_one_is_mod, BitVec.toNat_ofInt]
  simp only [IntKind.wrap, IntKind.bits, IntKind.signed]
  simp
  try omega
theorem mask1_i32 (n : Int) : bits .and .i32 n 1 = n % 2 := by
  show IntKind.i32.wrap ((BitVec.ofInt 32 n &&& BitVec.ofInt 32 1).toNat : Int) = _
  rw [BitVec.toNat_and, show (BitVec.ofInt 32 1).toNat = 1 from rfl, Nat.and_one_is_mod, BitVec.toNat_ofInt]
  simp only [IntKind.wrap, IntKind.bits, IntKind.signed]
  simp
  try omega
theorem mask1_i64 (n : Int) : bits .and .i64 n 1 = n % 2 := by
  show IntKind.i64.wrap ((BitVec.ofInt 64 n &&& BitVec.ofInt 64 1).toNat : Int) = _
  rw [BitVec.toNat_and, show (BitVec.ofInt 64 1).toNat = 1 from rfl, Nat.and_one_is_mod, BitVec.toNat_ofInt]
  simp only [IntKind.wrap, IntKind.bits, IntKind.signed]
  simp
  try omega
theorem mask1_u8 (n : Int) : bits .and .u8 n 1 = n % 2 := by
  show IntKind.u8.wrap ((BitVec.ofInt 8 n &&& BitVec.ofInt 8 1).toNat : Int) = _
  rw [BitVec.toNat_and, show (BitVec.ofInt 8 1).toNat = 1 from rfl, Nat.and_one_is_mod, BitVec.toNat_ofInt]
  simp only [IntKind.wrap, IntKind.bits, IntKind.signed]
  simp
  try omega
theorem mask1_u16 (n : Int) : bits .and .u16 n 1 = n % 2 := by
  show IntKind.u16.wrap ((BitVec.ofInt 16 n &&& BitVec.ofInt 16 1).toNat : Int) = _
  rw [BitVec.toNat_and, show (BitVec.ofInt 16 1).toNat = 1 from rfl, Nat.and_one_is_mod, BitVec.toNat_ofInt]
  simp only [IntKind.wrap, IntKind.bits, IntKind.signed]
  simp
  try omega
theorem mask1_u32 (n : Int) : bits .and .u32 n 1 = n % 2 := by
  show IntKind.u32.wrap ((BitVec.ofInt 32 n &&& BitVec.ofInt 32 1).toNat : Int) = _
  rw [BitVec.toNat_and, show (BitVec.ofInt 32 1).toNat = 1 from rfl, Nat.and_one_is_mod, BitVec.toNat_ofInt]
  simp only [IntKind.wrap, IntKind.bits, IntKind.signed]
  simp
  try omega
theorem mask1_u64 (n : Int) : bits .and .u64 n 1 = n % 2 := by
  show IntKind.u64.wrap ((BitVec.ofInt 64 n &&& BitVec.ofInt 64 1).toNat : Int) = _
  rw [BitVec.toNat_and, show (BitVec.ofInt 64 1).toNat = 1 from rfl, Nat.and_one_is_mod, BitVec.toNat_ofInt]
  simp only [IntKind.wrap, IntKind.bits, IntKind.signed]
  simp
  try omega
theorem And1 (k : IntKind) : Bin c .and (.int k a) (.int k 1) K h = K (.int k (a % 2)) h := by
  rw [Bin_and]
  cases k
  · rw [mask1_i8]
  · rw [mask1_i16]
  · rw [mask1_i32]
  · rw [mask1_i64]
  · rw [mask1_u8]
  · rw [mask1_u16]
  · rw [mask1_u32]
  · rw [mask1_u64]
theorem And32 (h0 : 0 ≤ a) (h1 : a ≤ 18446744073709551615) : Bin c .and (.int .u64 a) (.int .u64 4294967295) K h = K (.int .u64 (a % 4294967296)) h := by
  rw [Bin_and]
  congr 2
  show IntKind.u64.wrap ((BitVec.ofInt 64 a &&& BitVec.ofInt 64 4294967295).toNat : Int) = _
  rw [BitVec.toNat_and, show (BitVec.ofInt 64 4294967295).toNat = 2 ^ 32 - 1 from rfl, Nat.and_two_pow_sub_one_eq_mod, BitVec.toNat_ofInt, wrap_u64]
  omega
theorem MulU (h1 : 0 ≤ a * b) : Bin c .mul (.int .u64 a) (.int .u64 b) K h = K (.int .u64 (a * b % 18446744073709551616)) h := by rw [Bin_mul, wrap_u64]
theorem And31 (h0 : 0 ≤ a) (h1 : a ≤ 9223372036854775807) : Bin c .and (.int .i64 a) (.int .i64 31) K h = K (.int .i64 (a % 32)) h := by
  rw [Bin_and, mask_i64 a 5 (by decide) 31 rfl]; rfl
theorem Shr_u8 (k' : IntKind) (h0 : 0 ≤ b) (h1 : b ≤ 8) : Bin c .shr (.int .u8 a) (.int k' b) K h = K (.int .u8 (a / 2 ^ b.toNat)) h := by
  rw [Bin_shr _ _ _ _ _ h0, show min b.toNat IntKind.u8.bits = b.toNat from Nat.min_eq_left (by show b.toNat ≤ 8; omega), Int.fdiv_eq_ediv_of_nonneg]
  exact Int.le_of_lt (Int.pow_pos (by omega))
theorem Shr_u16 (k' : IntKind) (h0 : 0 ≤ b) (h1 : b ≤ 16) : Bin c .shr (.int .u16 a) (.int k' b) K h = K (.int .u16 (a / 2 ^ b.toNat)) h := by
  rw [Bin_shr _ _ _ _ _ h0, show min b.toNat IntKind.u16.bits = b.toNat from Nat.min_eq_left (by show b.toNat ≤ 16; omega), Int.fdiv_eq_ediv_of_nonneg]
  exact Int.le_of_lt (Int.pow_pos (by omega))
theorem Shr_u32 (k' : IntKind) (h0 : 0 ≤ b) (h1 : b ≤ 32) : Bin c .shr (.int .u32 a) (.int k' b) K h = K (.int .u32 (a / 2 ^ b.toNat)) h := by
  rw [Bin_shr _ _ _ _ _ h0, show min b.toNat IntKind.u32.bits = b.toNat from Nat.min_eq_left (by show b.toNat ≤ 32; omega), Int.fdiv_eq_ediv_of_nonneg]
  exact Int.le_of_lt (Int.pow_pos (by omega))
theorem Shr_u64 (k' : IntKind) (h0 : 0 ≤ b) (h1 : b ≤ 64) : Bin c .shr (.int .u64 a) (.int k' b) K h = K (.int .u64 (a / 2 ^ b.toNat)) h := by
  rw [Bin_shr _ _ _ _ _ h0, show min b.toNat IntKind.u64.bits = b.toNat from Nat.min_eq_left (by show b.toNat ≤ 64; omega), Int.fdiv_eq_ediv_of_nonneg]
  exact Int.le_of_lt (Int.pow_pos (by omega))
theorem tf_beq : (true == false) = false := rfl
theorem ft_beq : (false == true) = false := rfl
theorem tf_bne : (true != false) = true := rfl
theorem ft_bne : (false != true) = true := rfl
theorem beq_dec (a b : Int) : (a == b) = decide (a = b) := by rw [Bool.eq_iff_iff]; simp
theorem bne_dec (a b : Int) : (a != b) = decide (a ≠ b) := by rw [Bool.eq_iff_iff]; simp
end

/-! ### Slices that are read, by rewriting -/
section
variable {K : Ret} {h : Heap} {v : Value} {xs : List Value} {cs : List Value} {b o : Nat} {x : Value} {bs : List Nat}
theorem Idx_at0 {sz len cap b : Nat} {k : IntKind} {i : Int} (h0 : 0 ≤ i) (h1 : i < (len : Int)) : Idx sz (.slice (some ⟨b, 0, none⟩) len cap) (.int k i) K h = K (.pointer (some ⟨b, i.toNat * sz, none⟩)) h := by
  rw [Idx_at, add_mk, Nat.zero_add]; exact propext ⟨fun q => q.2, fun q => ⟨⟨h0, h1⟩, q⟩⟩
theorem addr_add_add (a : Addr) (m n : Nat) : (a.add m).add n = a.add (m + n) := by
  rcases Nat.eq_zero_or_pos m with rfl | hm
  · rw [Nat.zero_add]; rfl
  · rcases Nat.eq_zero_or_pos n with rfl | hn
    · rfl
    · unfold Addr.add
      rw [if_neg (by omega), if_neg (by omega), if_neg (by omega)]
      simp [Nat.add_assoc]
theorem Len_rd (hr : Rd h v xs) : Len v K h = K (.int .i64 xs.length) h := by
  obtain ⟨a, cap, rfl, _, _⟩ := hr; exact Len_at a _ _
theorem Len_own (hr : Own h v xs bs) : Len v K h = K (.int .i64 xs.length) h := Len_rd hr.rd
/-- What stands at a place of a list. -/
structure At (xs : List Value) (i : Nat) (x : Value) : Prop where
  out : xs[i]? = some x
theorem At.lt {i : Nat} (a : At xs i x) : i < xs.length := by
  rcases Nat.lt_or_ge i xs.length with hl | hl
  · exact hl
  · have := a.out; rw [List.getElem?_eq_none hl] at this; cases this
theorem At.map {α : Type} {ys : List α} {f : α → Value} {i : Nat} {y : α} (e : ys[i]? = some y) : At (ys.map f) i (f y) := ⟨by rw [List.getElem?_map, e]; rfl⟩
theorem Ld_blkE (hb : Blk h b cs) (ho : At cs o x) : Ld (.pointer (some ⟨b, o, none⟩)) K h = K x h := by
  rw [Ld_at, hb.cell, ho.out]
theorem LdA_two {x y : Value} (hb : Blk h b [x, y]) : LdA 2 (.pointer (some ⟨b, 0, none⟩)) K h = K (.agg #[x, y]) h := by
  rw [LdA_at, loads_blk hb 2 0 #[] (by simp)]; rfl
theorem StA_two {x y x' y' : Value} (hb : Blk h b [x, y]) (hx : isCell x' = true) (hy : isCell y' = true) (hk : ∀ h', Blk h' b [x', y'] → Fr [b] h h' → K undef h') : StA 2 (.pointer (some ⟨b, 0, none⟩)) (.agg #[x', y']) K h := by
  rw [StA_at]
  refine ⟨rfl, ?_⟩
  obtain ⟨h', e, b', f⟩ := stores_blk (o := 0) [x', y'] h [x, y] 0 hb (by simp) (by intro v hv; simp at hv; rcases hv with rfl | rfl <;> assumption)
  have e' : stores h ⟨b, 0, none⟩ 0 (#[x', y'] : Array Value).toList = some h' := e
  rw [e']
  exact hk h' (by simpa using b') f
theorem Bld_two {x y z w : Value} (hx : isCell x = true) (hy : isCell y = true) : Bld [(0, 1), (1, 1)] #[z, w] [(0, x), (1, y)] K h = K (.agg #[x, y]) h := by
  rw [Bld_eq, fill_one (off := 0) rfl hx (by simp), fill_one (off := 1) rfl hy (by simp), fill_nil]; rfl
theorem Bld_fst {x z w : Value} (hx : isCell x = true) : Bld [(0, 1), (1, 1)] #[z, w] [(0, x)] K h = K (.agg #[x, w]) h := by
  rw [Bld_eq, fill_one (off := 0) rfl hx (by simp), fill_nil]; rfl
theorem Bld_snd {y z w : Value} (hy : isCell y = true) : Bld [(0, 1), (1, 1)] #[z, w] [(1, y)] K h = K (.agg #[z, y]) h := by
  rw [Bld_eq, fill_one (off := 1) rfl hy (by simp), fill_nil]; rfl
theorem Idx_rdE {k : IntKind} {i : Int} (hr : Rd h v xs) (h0 : 0 ≤ i) (hx : At xs i.toNat x) : Idx 1 v (.int k i) (fun p h => Ld p K h) h = K x h := by
  have hx := hx.out
  obtain ⟨a, cap, rfl, hcap, hc⟩ := hr
  have hlt : i.toNat < xs.length := by
    rcases Nat.lt_or_ge i.toNat xs.length with hl | hl
    · exact hl
    · rw [List.getElem?_eq_none hl] at hx; cases hx
  obtain ⟨ad, rfl, e2⟩ := hc _ _ hx
  rw [Idx_at, Nat.mul_one, Ld_at, e2]
  exact propext ⟨fun q => q.2, fun q => ⟨⟨h0, by omega⟩, q⟩⟩
theorem Idx_ownE {k : IntKind} {i : Int} (hr : Own h v xs bs) (h0 : 0 ≤ i) (hx : At xs i.toNat x) : Idx 1 v (.int k i) (fun p h => Ld p K h) h = K x h := Idx_rdE hr.rd h0 hx
theorem Idx_rdN {k : IntKind} {i : Nat} (hr : Rd h v xs) (hx : At xs i x) : Idx 1 v (.int k (i : Int)) (fun p h => Ld p K h) h = K x h := Idx_rdE hr (by omega) (by rw [Int.toNat_natCast]; exact hx)
theorem Idx_ownN {k : IntKind} {i : Nat} (hr : Own h v xs bs) (hx : At xs i x) : Idx 1 v (.int k (i : Int)) (fun p h => Ld p K h) h = K x h := Idx_rdN hr.rd hx
theorem IdxAE {len : Nat} {k : IntKind} {n : Int} (h0 : 0 ≤ n) (h1 : n < len) : IdxA len 1 (.pointer (some ⟨b, o, none⟩)) (.int k n) K h = K (.pointer (some ⟨b, o + n.toNat, none⟩)) h := by
  rw [IdxA_at, add_mk, Nat.mul_one]; exact propext ⟨fun q => q.2, fun q => ⟨⟨h0, h1⟩, q⟩⟩
theorem Ext_atE {i : Nat} {vs : Array Value} (hx : At vs.toList i x) : Ext i (.tuple vs) K h = K x h := by have := hx.out; rw [Array.getElem?_toList] at this; rw [Ext_at, this]
/-- xs[lo:hi] -/
theorem Rd.slc {lo hi : Int} {k k' : IntKind} (hr : Rd h v xs) (h0 : 0 ≤ lo) (h1 : lo ≤ hi) (h2 : hi ≤ xs.length) (hk : ∀ v', Rd h v' ((xs.take hi.toNat).drop lo.toNat) → K v' h) : Slc 1 v (some (.int k lo)) (some (.int k' hi)) none K h := by
  obtain ⟨a, cap, rfl, hcap, hc⟩ := hr
  have e : bounds3 xs.length cap (some (.int k lo)) (some (.int k' hi)) none = some (lo.toNat, hi.toNat, cap) := by
    have e1 : (0 : Int) ≤ hi := by omega
    have e2 : hi ≤ (cap : Int) := by omega
    have e3 : lo ≤ (hi.toNat : Int) := by omega
    simp [bounds3, bound, e1, e2, h0, show lo ≤ max hi 0 by omega]
  rw [Slc_eq, e]
  show K (Value.slice (if cap = lo.toNat then a else a.map (·.add (lo.toNat * 1))) (hi.toNat - lo.toNat) (cap - lo.toNat)) h
  have hlen : ((xs.take hi.toNat).drop lo.toNat).length = hi.toNat - lo.toNat := by rw [List.length_drop, List.length_take, Nat.min_eq_left (by omega)]
  refine hk _ ⟨(if cap = lo.toNat then a else a.map (·.add (lo.toNat * 1))), cap - lo.toNat, by rw [hlen], by omega, fun i x hx => ?_⟩
  rw [List.getElem?_drop, List.getElem?_take] at hx
  split at hx
  · rename_i hlt
    obtain ⟨ad, rfl, e2⟩ := hc _ _ hx
    rw [if_neg (by omega)]
    refine ⟨_, rfl, ?_⟩
    rw [Nat.mul_one, addr_add_add]; exact e2
  · cases hx
/-- xs[:hi] -/
theorem Rd.slc_hi {hi : Int} {k' : IntKind} (hr : Rd h v xs) (h1 : 0 ≤ hi) (h2 : hi ≤ xs.length) (hk : ∀ v', Rd h v' (xs.take hi.toNat) → K v' h) : Slc 1 v none (some (.int k' hi)) none K h := by
  have e : Slc 1 v none (some (.int k' hi)) none K h = Slc 1 v (some (.int k' 0)) (some (.int k' hi)) none K h := by
    obtain ⟨a, cap, rfl, hcap, hc⟩ := hr
    rw [Slc_eq, Slc_eq]
    have : bounds3 xs.length cap none (some (.int k' hi)) none = bounds3 xs.length cap (some (.int k' 0)) (some (.int k' hi)) none := by simp [bounds3, bound]
    rw [this]
  rw [e]
  exact hr.slc (Int.le_refl _) h1 h2 (by simpa using hk)
end

/-! ### Loops over functions -/
section
variable {P : Program} {K K' : Ret} {h : Heap}
theorem YieldH.mono {l : Nat} {args : List Value} (hy : YieldH P l args K h) (hk : ∀ v h', K v h' → K' v h') : YieldH P l args K' h := by
  unfold YieldH at *
  split
  · rename_i r hr; rw [hr] at hy; exact ⟨hy.1, hy.2.mono hk⟩
  · rename_i hr
    split at hy
    · rename_i r e; exact absurd e (hr r)
    · exact hy
theorem CallV.mono {fv : Value} {args : List Value} (hc : CallV P fv args K h) (hk : ∀ v h', K v h' → K' v h') : CallV P fv args K' h := by
  replace hc := hc.out
  refine ⟨?_⟩
  split at hc
  · exact ⟨hc.1, hc.2.mono hk⟩
  · exact ⟨hc.1, hc.2.1, hc.2.2.mono hk⟩
  · exact hc.elim
theorem CallV_func {f : FuncId} {captured : Array Value} {args : List Value} (hb : hasBody P f = true) (hc : CallH P f (args.toArray ++ captured) K h) : CallV P (.func (.func f) #[] captured) args K h :=
  ⟨⟨hb, by rw [Array.empty_append]; exact hc⟩⟩
/-- A function that hands these values to its yield, one by one, and does nothing else; A is what it leans on. -/
def SeqC (P : Program) (gf : FuncId) (captured : Array Value) (xs : List Value) (A : Heap → Prop) : Prop :=
  ∀ (y : Value) (h : Heap) (I : Nat → Heap → Prop) (E : Heap → Prop), I 0 h → (∀ i h, I i h → A h) →
    (∀ (i : Nat) (x : Value) (h : Heap), xs[i]? = some x → I i h → CallV P y [x] (fun v h' => (v = .bool true ∧ I (i + 1) h') ∨ (v = .bool false ∧ E h')) h) →
    CallH P gf (#[y] ++ captured) (fun _ h' => I xs.length h' ∨ E h') h
theorem Rng_rule {gf : FuncId} {captured : Array Value} {round : ((Heap → Prop) → Heap → Prop) → (Heap → Prop) → (Ex → Heap → Prop) → Cur 1} {after : Heap → Prop} {left : Ex → Heap → Prop}
    {xs : List Value} {A : Heap → Prop} (hb : hasBody P gf = true) (hseq : SeqC P gf captured xs A) (J : Nat → Heap → Prop) (EJ : Ex → Heap → Prop)
    (hA : ∀ i h, J i h → A h) (hJ1 : ∀ i l h1 h2, h.size ≤ l → One l h1 h2 → J i h1 → J i h2) (hE1 : ∀ ex l h1 h2, h.size ≤ l → One l h1 h2 → EJ ex h1 → EJ ex h2)
    (h0 : ∀ h1, Fr [] h h1 → J 0 h1)
    (hround : ∀ (i : Nat) (x : Value) (h1 : Heap) (B : (Heap → Prop) → Heap → Prop) (N : Heap → Prop) (L : Ex → Heap → Prop), xs[i]? = some x → J i h1 →
      (∀ X : Heap → Prop, (∀ h2, J i h2 → X h2) → B X h1) → (∀ h2, J (i + 1) h2 → N h2) → (∀ ex h2, EJ ex h2 → L ex h2) → round B N L x h1)
    (hafter : ∀ h1, J xs.length h1 → after h1) (hleft : ∀ ex h1, EJ ex h1 → left ex h1) : RngF P (.func (.func gf) #[] captured) 1 round after left h := by
  refine ⟨⟨hb, ?_⟩⟩
  intro y l h1 Rdy Dn hl hlt hfr hr hst hdn hcall
  have f1 : Fr [] h h1 := ⟨by omega, fun c hc _ => hfr c hc⟩
  have := hseq y h1 (fun i h => Rdy h ∧ J i h) (fun h => ∃ ex, Dn ex h ∧ EJ ex h) ⟨hr, h0 _ f1⟩ (fun i h hI => hA i h hI.2) ?_
  · rw [Array.empty_append]
    refine this.mono ?_
    rintro v h6 (⟨h2, h3⟩ | ⟨ex, h2, h3⟩)
    · exact .inl ⟨h2, fun h7 o => hafter _ (hJ1 _ _ _ _ hl o h3)⟩
    · exact .inr ⟨ex, h2, fun h7 o => hleft _ _ (hE1 _ _ _ _ hl o h3)⟩
  · rintro i x h2 hx ⟨hr2, hJ2⟩
    refine hcall [x] _ h2 rfl hr2 ?_
    refine hround i x h2 _ _ _ hx hJ2 (fun X hX => ⟨hr2, fun h3 o => hX _ (hJ1 _ _ _ _ hl o hJ2)⟩) ?_ ?_
    · intro h4 hJ4 h5 o hr5
      exact .inl ⟨rfl, hr5, hJ1 _ _ _ _ hl o hJ4⟩
    · intro ex h4 hE4 h5 o hd5
      exact .inr ⟨rfl, ex, hd5, hE1 _ _ _ _ hl o hE4⟩
theorem Lv_mk {N : Nat} {X : Heap → Prop} (hX : ∀ h', Shut N h h' → X h') : Lv N X h := ⟨hX⟩
theorem Fr.grows {h h' : Heap} (f : Fr [] h h') : Grows h h' := ⟨f.size, fun c hc => f.keep c hc (by simp)⟩
theorem Grows.fr {h h' : Heap} (x : Grows h h') : Fr [] h h' := ⟨x.size, fun c hc _ => x.keep c hc⟩
theorem ACall_mk {f : FuncId} {args : List Value} (hc : CallH P f args.toArray (fun v h' => Fr [] h h' ∧ K v h') h) : ACall P f args K h := ⟨hc.mono fun _ _ q => ⟨q.1.grows, q.2⟩⟩
theorem QCall_mk {f : FuncId} {args : List Value} {v : Value} (hc : CallH P f args.toArray (fun v' h' => v' = v ∧ h' = h) h) (hk : K v h) : QCall P f args K h := ⟨⟨v, hc, hk⟩⟩
/-- A result in memory is set, and handed over. -/
theorem fin1 {H : Heap} {r : Nat} {u v : Value} (hb : Blk h r [u]) (hv : isCell v = true) (f : Fr [] H h) (hr : H.size ≤ r) (hk : ∀ h', Fr [] H h' → K v h') :
    St (.pointer (some ⟨r, 0, none⟩)) v (fun _ h => Lv H.size (fun h => Ld (.pointer (some ⟨r, 0, none⟩)) (fun r0 h => K r0 h) h) h) h := by
  refine St_blk hb (by simp) hv fun h1 b1 f1 => ⟨fun h2 s2 => ?_⟩
  refine Ld_blk (b1.shut s2) rfl ?_
  exact hk _ ((f.trans' f1 (by simp; omega)).shut s2)
theorem end1 {H : Heap} {r : Nat} {v : Value} (hb : Blk h r [v]) (f : Fr [] H h) (hk : ∀ h', Fr [] H h' → K v h') :
    Lv H.size (fun h => Ld (.pointer (some ⟨r, 0, none⟩)) (fun r0 h => K r0 h) h) h :=
  ⟨fun h2 s2 => Ld_blk (hb.shut s2) rfl (hk _ (f.shut s2))⟩
theorem ent_eq (X : Heap → Prop) : ent h X = X h := rfl
end

/-! ### Where simp doesn't go: behind what stands first -/
section
variable {K : Ret} {h : Heap}
theorem go_eq (p : Ret → Heap → Prop) : go p h K = p K h := rfl
theorem Lp_congr {n : Nat} {b : Cur n → Cur n} {vs vs' : List Value} (e : vs = vs') : Lp n b vs h = Lp n b vs' h := by rw [e]
theorem Join_congr {n : Nat} {X : Cur n → Prop} {J : Cur n} : Join n X J = Join n X J := rfl
theorem If_congr {c c' : Value} {A B : Prop} (e : c = c') : If c A B = If c' A B := by rw [e]
theorem Pick_congr {c c' a a' b b' : Value} (e : c = c') (e1 : a = a') (e2 : b = b') : Pick c a b K h = Pick c' a' b' K h := by rw [e, e1, e2]
theorem Ld_congr {p p' : Value} (e : p = p') : Ld p K h = Ld p' K h := by rw [e]
theorem LdA_congr {n : Nat} {p p' : Value} (e : p = p') : LdA n p K h = LdA n p' K h := by rw [e]
theorem St_congr {p p' v v' : Value} (e : p = p') (e1 : v = v') : St p v K h = St p' v' K h := by rw [e, e1]
theorem StA_congr {n : Nat} {p p' v v' : Value} (e : p = p') (e1 : v = v') : StA n p v K h = StA n p' v' K h := by rw [e, e1]
theorem NilC_congr {p p' : Value} (e : p = p') : NilC p K h = NilC p' K h := by rw [e]
theorem Fld_congr {o : Nat} {p p' : Value} (e : p = p') : Fld o p K h = Fld o p' K h := by rw [e]
theorem Idx_congr {sz : Nat} {x x' i i' : Value} (e : x = x') (e1 : i = i') : Idx sz x i K h = Idx sz x' i' K h := by rw [e, e1]
theorem IdxA_congr {n sz : Nat} {x x' i i' : Value} (e : x = x') (e1 : i = i') : IdxA n sz x i K h = IdxA n sz x' i' K h := by rw [e, e1]
theorem Bin_congr {c : Cls} {op : BinOp} {x x' y y' : Value} (e : x = x') (e1 : y = y') : Bin c op x y K h = Bin c op x' y' K h := by rw [e, e1]
theorem Un_congr {op : UnOp} {x x' : Value} (e : x = x') : Un op x K h = Un op x' K h := by rw [e]
theorem Cvt_congr {k : IntKind} {x x' : Value} (e : x = x') : Cvt k x K h = Cvt k x' K h := by rw [e]
theorem Ext_congr {i : Nat} {x x' : Value} (e : x = x') : Ext i x K h = Ext i x' K h := by rw [e]
theorem New_congr {cs cs' : Array Value} {t : TypeId} (e : cs = cs') : New cs t K h = New cs' t K h := by rw [e]
theorem Bld_congr {pl : List (Nat × Nat)} {z : Array Value} {ps ps' : List (Nat × Value)} (e : ps = ps') : Bld pl z ps K h = Bld pl z ps' K h := by rw [e]
theorem BldA_congr {sz : Nat} {z : Array Value} {ps ps' : List (Nat × Value)} (e : ps = ps') : BldA sz z ps K h = BldA sz z ps' K h := by rw [e]
theorem BldS_congr {t : TypeId} {s l : Nat} {z : Array Value} {ps ps' : List (Nat × Value)} (e : ps = ps') : BldS t s l z ps K h = BldS t s l z ps' K h := by rw [e]
theorem MkS_congr {t : TypeId} {by_ s : Nat} {z : Array Value} {l l' c c' : Value} (e : l = l') (e1 : c = c') : MkS t by_ s z l c K h = MkS t by_ s z l' c' K h := by rw [e, e1]
theorem Slc_congr {sz : Nat} {x x' : Value} {lo lo' hi hi' mx mx' : Option Value} (e : x = x') (e1 : lo = lo') (e2 : hi = hi') (e3 : mx = mx') : Slc sz x lo hi mx K h = Slc sz x' lo' hi' mx' K h := by rw [e, e1, e2, e3]
theorem Len_congr {x x' : Value} (e : x = x') : Len x K h = Len x' K h := by rw [e]
theorem LenM_congr {x x' : Value} (e : x = x') : LenM x K h = LenM x' K h := by rw [e]
theorem MaxV_congr {x x' : List Value} (e : x = x') : MaxV x K h = MaxV x' K h := by rw [e]
theorem MinV_congr {x x' : List Value} (e : x = x') : MinV x K h = MinV x' K h := by rw [e]
theorem App_congr {t : TypeId} {s b : Nat} {z : Array Value} {x x' y y' : Value} (e : x = x') (e1 : y = y') : App t s b z x y K h = App t s b z x' y' K h := by rw [e, e1]
theorem FldV_congr {o : Nat} {x x' : Value} (e : x = x') : FldV o x K h = FldV o x' K h := by rw [e]
theorem FldVA_congr {o n : Nat} {x x' : Value} (e : x = x') : FldVA o n x K h = FldVA o n x' K h := by rw [e]
theorem IdxV_congr {l s : Nat} {x x' i i' : Value} (e : x = x') (e1 : i = i') : IdxV l s x i K h = IdxV l s x' i' K h := by rw [e, e1]
theorem CallH_congr {P : Program} {f : FuncId} {as as' : Array Value} (e : as = as') : CallH P f as K h = CallH P f as' K h := by rw [e]
theorem CallF_congr {P : Program} {f : FuncId} {as as' : List Value} (e : as = as') : CallF P f as K h = CallF P f as' K h := by rw [e]
theorem CallV_congr {P : Program} {f f' : Value} {as as' : List Value} (e : f = f') (e1 : as = as') : CallV P f as K h = CallV P f' as' K h := by rw [e, e1]
theorem Lk_congr {z x x' i i' : Value} {ok : Bool} (e : x = x') (e1 : i = i') : Lk z x i ok K h = Lk z x' i' ok K h := by rw [e, e1]
theorem MUpd_congr {x x' i i' v v' : Value} (e : x = x') (e1 : i = i') (e2 : v = v') : MUpd x i v K h = MUpd x' i' v' K h := by rw [e, e1, e2]
theorem MDel_congr {x x' i i' : Value} (e : x = x') (e1 : i = i') : MDel x i K h = MDel x' i' K h := by rw [e, e1]
theorem Gd_congr {v v' : Value} {b : Bool} {op : Ret → Heap → Prop} (e : v = v') : Gd v b op K h = Gd v' b op K h := by rw [e]
theorem QCall_congr {P : Program} {f : FuncId} {as as' : List Value} (e : as = as') : QCall P f as K h = QCall P f as' K h := by rw [e]
theorem ACall_congr {P : Program} {f : FuncId} {as as' : List Value} (e : as = as') : ACall P f as K h = ACall P f as' K h := by rw [e]
theorem RngF_congr {P : Program} {g g' : Value} {n : Nat} {r : ((Heap → Prop) → Heap → Prop) → (Heap → Prop) → (Ex → Heap → Prop) → Cur n} {af : Heap → Prop} {lf : Ex → Heap → Prop} (e : g = g') : RngF P g n r af lf h = RngF P g' n r af lf h := by rw [e]
theorem Lv_congr {N : Nat} {X : Heap → Prop} : Lv N X h = Lv N X h := rfl
theorem Clr_congr {z : Array Value} {x x' : Value} (e : x = x') : Clr z x K h = Clr z x' K h := by rw [e]
theorem MkM_congr : MkM K h = MkM K h := rfl
attribute [congr] ACall_congr Clr_congr QCall_congr RngF_congr Lv_congr Gd_congr Lp_congr Join_congr If_congr Pick_congr Ld_congr LdA_congr St_congr StA_congr NilC_congr Fld_congr Idx_congr IdxA_congr Bin_congr Un_congr Cvt_congr Ext_congr New_congr Bld_congr BldA_congr BldS_congr MkS_congr Slc_congr Len_congr LenM_congr MaxV_congr MinV_congr App_congr FldV_congr FldVA_congr IdxV_congr CallH_congr CallF_congr CallV_congr Lk_congr MUpd_congr MDel_congr MkM_congr
end
end Go.Pt
