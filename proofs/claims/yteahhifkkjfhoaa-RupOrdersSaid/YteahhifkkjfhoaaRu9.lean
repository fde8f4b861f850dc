/- A store of a formula: what is known of it. Conditions: those typed ahead of each theorem. -/
import Derived.Test.YteahhifkkjfhoaaRu8
namespace Go.Proofs.Yteahhifkkjfhoaa
open Go.Pt
set_option linter.unusedVariables false
set_option linter.unusedSimpArgs false
theorem nf_nodups (cs : List (List Int)) : ∀ c ∈ cs.map nf, c.Nodup := fun d hd => by
  obtain ⟨c, hc, rfl⟩ := List.mem_map.1 hd
  exact asc_nodup (nf_asc c)
theorem asc_len {m : Int} : ∀ {xs : List Int} {a : Int}, Asc xs → (∀ x ∈ xs, a ≤ ix x ∧ ix x < m) → a ≤ m → (xs.length : Int) ≤ m - a
  | [], a, _, _, h => by simp; omega
  | x :: xs, a, h, hb, hm => by
    unfold Asc at h
    rw [List.pairwise_cons] at h
    have h1 := hb x List.mem_cons_self
    have := asc_len (m := m) (xs := xs) (a := ix x + 1) h.2 (fun y hy => ⟨by have := h.1 y hy; omega, (hb y (List.mem_cons_of_mem _ hy)).2⟩) (by omega)
    rw [List.length_cons]; push_cast; omega
/-- A store of these clauses. -/
structure StF (h : Heap) (sb n N : Nat) (cs : List (List Int)) (u : Value) (b0 : List Nat) (ps : Ps) : Prop where
  st : StAt h sb n N u b0 ps
  eq : cls ps = cs.map nf
  len : cs.length ≤ 1000000
  each : ∀ c ∈ cs, c.length ≤ 1000000
  ok : FOk n cs
theorem StF.fr {h h' : Heap} {sb n N : Nat} {cs : List (List Int)} {u : Value} {b0 : List Nat} {ps : Ps} (s : StF h sb n N cs u b0 ps) (f : Fr [] h h') : StF h' sb n N cs u b0 ps := ⟨s.st.fr f, s.eq, s.len, s.each, s.ok⟩
section
variable {h : Heap} {sb n N : Nat} {cs : List (List Int)} {u : Value} {b0 : List Nat} {ps : Ps} (s : StF h sb n N cs u b0 ps)
include s
theorem StF.rdl : RdL h u (cs.map nf) (ps.map (·.1)) := by have := s.st.own.rdl; rwa [s.eq] at this
theorem StF.nok : FOk n (cs.map nf) := fun d hd x hx => by
  obtain ⟨c, hc, rfl⟩ := List.mem_map.1 hd
  exact s.ok c hc x (nf_mem.1 hx)
theorem StF.nlen : (cs.map nf).length ≤ 1000000 := by rw [List.length_map]; exact s.len
theorem StF.neach : ∀ c ∈ cs.map nf, c.length ≤ 1000000 := fun d hd => by
  obtain ⟨c, hc, rfl⟩ := List.mem_map.1 hd
  exact Nat.le_trans (nf_len c) (s.each c hc)
theorem StF.plen : ps.length = cs.length := by have := congrArg List.length s.eq; simpa [cls] using this
theorem StF.peach : ∀ p ∈ ps, p.2.1.length ≤ 1000000 := fun p hp => by
  have : p.2.1 ∈ cls ps := List.mem_map.2 ⟨p, hp, rfl⟩
  rw [s.eq] at this
  exact s.neach _ this
/-- Follow, told of the clauses as they came. -/
theorem StF.follow {v : Value} {l : List Int} (hn : n ≤ 100000) (hL : ∀ x ∈ l, LitOk n x) (hlen : l.length ≤ 1000000) {K : Ret} (hv : Rd h v (l.map Iv))
    (hk : ∀ v' bs xs ok h', Flw cs (· ∈ l) xs ok → Own h' v' (xs.map Iv) bs → (∀ b ∈ bs, h.size ≤ b) → Fr [] h h' → K (.tuple #[v', .bool ok]) h') : CallH Try.prog rup_Store_Follow.id #[ptr sb, v] K h := by
  refine rup_Store_Follow.spec (by omega) s.nok (nf_nodups cs) s.nlen s.neach hL hlen s.st.blk s.rdl hv fun v' bs xs ok h' hf => hk v' bs xs ok h' ?_
  have a := Alik.of_nf cs
  rcases hf with ⟨e, q, b, c⟩ | ⟨e, q, b⟩
  · exact .inl ⟨e, fun w => q ((a.clash fun _ => Iff.rfl).2 w), b, fun x => (c x).trans (a.der fun _ => Iff.rfl)⟩
  · exact .inr ⟨e, (a.clash fun _ => Iff.rfl).1 q, b⟩
theorem StF.implied {v : Value} {c : List Int} (hn : n ≤ 100000) (hL : ∀ x ∈ c, LitOk n x) (hlen : c.length ≤ 1000000) {K : Ret} (hv : Rd h v (c.map Iv))
    (hk : ∀ (r : Bool) h', (r = true ↔ Clash cs (· ∈ c.map fun x => -x)) → Fr [] h h' → K (.bool r) h') : CallH Try.prog rup_Store_Implied.id #[ptr sb, v] K h :=
  rup_Store_Implied.spec (by omega) s.nok (nf_nodups cs) s.nlen s.neach hL hlen s.st.blk s.rdl hv fun r h' hr => hk r h' (hr.trans ((Alik.of_nf cs).clash fun _ => Iff.rfl))
theorem StF.has {v : Value} {c : List Int} (hn : n ≤ 100000) (hl : c.length ≤ 1000000) (hD : ∀ x ∈ c, Sm x) {K : Ret} (hv : Rd h v (c.map Iv))
    (hk : ∀ h', Fr [] h h' → K (.bool (decide (HasT n (cs.map nf) c))) h') : CallH Try.prog rup_Store_Has.id #[ptr sb, v] K h :=
  rup_Store_Has.spec hn hl hD (by rw [s.plen]; exact s.len) s.peach s.st hv (by rw [s.eq]; exact hk)
end
theorem flw_len {n : Nat} {cs : List (List Int)} {k0 : Int → Prop} {xs : List Int} {ok : Bool} (hF : FOk n cs) (h0 : ∀ x, k0 x → LitOk n x) (h : Flw cs k0 xs ok) : xs.length ≤ 2 * n ∧ ∀ x ∈ xs, LitOk n x := by
  rcases h with ⟨_, _, a, b⟩ | ⟨_, _, rfl⟩
  · have hok : ∀ x ∈ xs, LitOk n x := fun x hx => ((b x).1 hx).ok hF h0
    refine ⟨?_, hok⟩
    have := asc_len (m := 2 * (n : Int)) (a := 0) a (fun x hx => ix_ok (hok x hx)) (by omega)
    omega
  · exact ⟨Nat.zero_le _, by simp⟩
set_option maxHeartbeats 2000000 in
/-- How the laws begin: a formula of raw numbers, and its store. -/
theorem prelude {a : Int} {xss : List (List Int)} {ws : List Value} {v : Value} {vars w : Nat} {ty : TypeId} {R : Value → Value → Heap → Prop} {h : Heap} (ha : 0 ≤ a ∧ a ≤ 255) (hvars : vars ≤ 100) (hw : w ≤ 100) (h1 : xss.length ≤ 40) (h2 : ∀ c ∈ xss, c.length ≤ 400) (hv : RdX (.int .i16) h v xss ws)
    (hk : ∀ n cs fb uf wf sb u b0 ps h' h0, n ≤ vars → cs.length = xss.length → (∀ c ∈ cs, c.length ≤ w) → Blk h0 fb [Iv n, uf] → h.size ≤ fb → RdL h0 uf cs wf → StF h' sb n h0.size cs u b0 ps → Fr [] h h0 → Fr [] h0 h' → R (ptr fb) (ptr sb) h') :
    go (CallF Try.prog bradawllaw02_Raw_Formula.id [.agg #[.int .u8 a, v], Iv vars, Iv w]) h fun t23 h => go (New #[(.int .i64 0), (.slice none 0 0)] ty) h fun t5 h => go (StA 2 t5 t23) h fun _ h => go (LdA 2 t5) h fun t24 h => go (CallF Try.prog bradawllaw07_Store.id [t24]) h fun t25 h => R t5 t25 h := by
  rw [go_eq, CallF_eq]
  refine bradawllaw02_Raw_Formula.spec (vars := vars) (w := w) ha (by omega) (by omega) (by omega) (fun c hc => by have := h2 c hc; omega) hv fun u b0 ps h4 oF hcs f4 => ?_
  have hok := rawF_ok (a % ((vars : Int) + 1)).toNat w xss
  have hlen := rawF_len (a % ((vars : Int) + 1)).toNat w xss
  have hcl9 := rawF_cl (a % ((vars : Int) + 1)).toNat w xss
  have hn9 : (a % ((vars : Int) + 1)).toNat ≤ vars := by
    have := Int.emod_lt_of_pos a (show (0 : Int) < (vars : Int) + 1 by omega)
    omega
  generalize rawF (a % ((vars : Int) + 1)).toNat w xss = cs at *
  generalize (a % ((vars : Int) + 1)).toNat = n at *
  have rF := oF.rdl
  rw [hcs] at rF
  generalize ps.map (·.1) = wf at *
  clear oF hcs
  have huc := rF.rd.isCell
  rw [go_eq]
  refine New_blk fun h5 b5 f5 s5 => ?_
  have b5 : Blk h5 h4.size [Iv 0, .slice none 0 0] := b5
  rw [go_eq]
  refine StA_two b5 rfl huc fun h6 b6 f6 => ?_
  have f46 : Fr [] h4 h6 := f5.trans' f6 (by simp)
  have rF6 := rF.fr f46
  obtain ⟨fb, hfb⟩ : ∃ fb, fb = h4.size := ⟨_, rfl⟩
  rw [← hfb] at b6 ⊢
  rw [go_eq, LdA_two b6, go_eq, CallF_eq]
  refine bradawllaw07_Store.spec (by omega) hok (by omega) (fun c hc => by have := hcl9 c hc; omega) rF6 fun sb u b0 ps h7 S7 hcs f7 => ?_
  have z4 := f4.size
  exact hk n cs fb _ wf sb u b0 ps h7 h6 hn9 hlen hcl9 b6 (by omega) rF6 ⟨S7, hcs, by omega, fun c hc => by have := hcl9 c hc; omega, hok⟩ (f4.trans f46) f7
end Go.Proofs.Yteahhifkkjfhoaa
