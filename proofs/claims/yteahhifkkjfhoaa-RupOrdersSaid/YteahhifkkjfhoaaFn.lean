/- What each Go function asks, in the primitives of Pt; written by a program of mine (ptgen.py) out of the translation; Lean checks that it is so. -/
import Derived.Test.YteahhifkkjfhoaaProg
import Derived.KernelRfl
import Derived.Test.YteahhifkkjfhoaaPtO
namespace Go.Proofs.Yteahhifkkjfhoaa
open Go.Pt
set_option linter.unusedVariables false
theorem follows_mixed : Try.prog.follows .mixedOrders = true := by kernel_rfl
/-! ### bradawl/bradawllaw07.RupOrders: function 5 -/
abbrev bradawllaw07_RupOrders.id : FuncId := 5
def bradawllaw07_RupOrders.ann : Ann := (.seq none .leaf (.seq none (.seq none .leaf (.cond (.seq none .leaf .leaf) .leaf)) (.seq none (.seq none .leaf (.cond (.seq none .leaf .leaf) .leaf)) (.seq (some [1, 2, 7, 8]) .leaf (.seq none (.seq none .leaf (.block (.loop [1, 2, 7, 8, 36, 37] (.seq none .leaf (.seq none (.cond .leaf .leaf) (.seq none (.block (.seq none .leaf .leaf)) .leaf)))))) (.seq (some [1, 7, 10, 11]) .leaf (.seq none (.seq none .leaf (.cond (.seq none .leaf .leaf) .leaf)) (.seq none .leaf (.seq none .leaf (.seq none (.seq none .leaf (.block (.loop [10, 11, 12, 13, 14] (.seq none (.seq none .leaf (.cond .leaf .leaf)) (.seq none (.block .leaf) .leaf))))) (.seq none .leaf (.seq none .leaf (.seq none (.seq none .leaf (.cond (.seq none .leaf .leaf) .leaf)) (.seq none (.seq none .leaf (.block (.loop [10, 11, 12, 13, 15, 17, 108, 109] (.seq none .leaf (.seq none (.cond .leaf .leaf) (.seq none (.block (.seq none .leaf (.seq none .leaf (.cond (.seq none .leaf .leaf) .leaf)))) .leaf)))))) (.seq none .leaf .leaf)))))))))))))))
set_option maxRecDepth 100000 in
def bradawllaw07_RupOrders.pt (t0 t1 t2 : Value) (K : Ret) (h : Heap) : Prop :=
 go (New (Value.cells t0) 24) h fun t3 h =>
 go (CallF Try.prog 9 []) h fun t20 h =>
 go (Un .not t20) h fun t21 h =>
 If t21 (
 K (.bool false) h) (
 go (LdA 2 t3) h fun t22 h =>
 go (CallF Try.prog 10 [t22, (.int .i64 40)]) h fun t23 h =>
 go (Un .not t23) h fun t24 h =>
 go (Gd t24 false (Mv t1)) h fun t26 h =>
 go (Gd t24 false (Len t26)) h fun t27 h =>
 go (Gd t24 false (Bin .int .gtr t27 (.int .i64 20))) h fun t28 h =>
 go (Pick t24 (.bool true) t28) h fun t29 h =>
 If t29 (
 K (.bool true) h) (
 Join 4 (fun J1 =>
 (go (LdA 2 t3) h fun t30 h =>
 (go (CallF Try.prog 11 [t30, (.int .i64 12), (.int .i64 6)]) h fun t31 h =>
 (go (LdA 2 t3) h fun t32 h =>
 (go (CallF Try.prog 11 [t32, (.int .i64 12), (.int .i64 6)]) h fun t33 h =>
 (go (New #[(.int .i64 0), (.slice none 0 0)] 30) h fun t7 h =>
 go (New #[(.int .i64 0), (.slice none 0 0)] 30) h fun t8 h =>
 go (StA 2 t7 t31) h fun _ h =>
 go (StA 2 t8 t33) h fun _ h =>
 J1 t1 t2 t7 t8 h) ∧
 (go (New #[(.int .i64 0), (.slice none 0 0)] 30) h fun t8_1 h =>
 go (New #[(.int .i64 0), (.slice none 0 0)] 30) h fun t7_1 h =>
 go (StA 2 t7_1 t31) h fun _ h =>
 go (StA 2 t8_1 t33) h fun _ h =>
 J1 t1 t2 t7_1 t8_1 h)) ∧
 (go (New #[(.int .i64 0), (.slice none 0 0)] 30) h fun t7_2 h =>
 (go (CallF Try.prog 11 [t32, (.int .i64 12), (.int .i64 6)]) h fun t33_1 h =>
 go (New #[(.int .i64 0), (.slice none 0 0)] 30) h fun t8_2 h =>
 go (StA 2 t7_2 t31) h fun _ h =>
 go (StA 2 t8_2 t33_1) h fun _ h =>
 J1 t1 t2 t7_2 t8_2 h) ∧
 (go (New #[(.int .i64 0), (.slice none 0 0)] 30) h fun t8_3 h =>
 go (CallF Try.prog 11 [t32, (.int .i64 12), (.int .i64 6)]) h fun t33_2 h =>
 go (StA 2 t7_2 t31) h fun _ h =>
 go (StA 2 t8_3 t33_2) h fun _ h =>
 J1 t1 t2 t7_2 t8_3 h)) ∧
 (go (New #[(.int .i64 0), (.slice none 0 0)] 30) h fun t8_4 h =>
 (go (CallF Try.prog 11 [t32, (.int .i64 12), (.int .i64 6)]) h fun t33_3 h =>
 go (New #[(.int .i64 0), (.slice none 0 0)] 30) h fun t7_3 h =>
 go (StA 2 t7_3 t31) h fun _ h =>
 go (StA 2 t8_4 t33_3) h fun _ h =>
 J1 t1 t2 t7_3 t8_4 h) ∧
 (go (New #[(.int .i64 0), (.slice none 0 0)] 30) h fun t7_4 h =>
 go (CallF Try.prog 11 [t32, (.int .i64 12), (.int .i64 6)]) h fun t33_4 h =>
 go (StA 2 t7_4 t31) h fun _ h =>
 go (StA 2 t8_4 t33_4) h fun _ h =>
 J1 t1 t2 t7_4 t8_4 h))) ∧
 (go (New #[(.int .i64 0), (.slice none 0 0)] 30) h fun t7_5 h =>
 (go (LdA 2 t3) h fun t32_1 h =>
 (go (CallF Try.prog 11 [t32_1, (.int .i64 12), (.int .i64 6)]) h fun t33_5 h =>
 go (New #[(.int .i64 0), (.slice none 0 0)] 30) h fun t8_5 h =>
 go (StA 2 t7_5 t31) h fun _ h =>
 go (StA 2 t8_5 t33_5) h fun _ h =>
 J1 t1 t2 t7_5 t8_5 h) ∧
 (go (New #[(.int .i64 0), (.slice none 0 0)] 30) h fun t8_6 h =>
 go (CallF Try.prog 11 [t32_1, (.int .i64 12), (.int .i64 6)]) h fun t33_6 h =>
 go (StA 2 t7_5 t31) h fun _ h =>
 go (StA 2 t8_6 t33_6) h fun _ h =>
 J1 t1 t2 t7_5 t8_6 h)) ∧
 (go (New #[(.int .i64 0), (.slice none 0 0)] 30) h fun t8_7 h =>
 go (LdA 2 t3) h fun t32_2 h =>
 go (CallF Try.prog 11 [t32_2, (.int .i64 12), (.int .i64 6)]) h fun t33_7 h =>
 go (StA 2 t7_5 t31) h fun _ h =>
 go (StA 2 t8_7 t33_7) h fun _ h =>
 J1 t1 t2 t7_5 t8_7 h)) ∧
 (go (New #[(.int .i64 0), (.slice none 0 0)] 30) h fun t8_8 h =>
 (go (LdA 2 t3) h fun t32_3 h =>
 (go (CallF Try.prog 11 [t32_3, (.int .i64 12), (.int .i64 6)]) h fun t33_8 h =>
 go (New #[(.int .i64 0), (.slice none 0 0)] 30) h fun t7_6 h =>
 go (StA 2 t7_6 t31) h fun _ h =>
 go (StA 2 t8_8 t33_8) h fun _ h =>
 J1 t1 t2 t7_6 t8_8 h) ∧
 (go (New #[(.int .i64 0), (.slice none 0 0)] 30) h fun t7_7 h =>
 go (CallF Try.prog 11 [t32_3, (.int .i64 12), (.int .i64 6)]) h fun t33_9 h =>
 go (StA 2 t7_7 t31) h fun _ h =>
 go (StA 2 t8_8 t33_9) h fun _ h =>
 J1 t1 t2 t7_7 t8_8 h)) ∧
 (go (New #[(.int .i64 0), (.slice none 0 0)] 30) h fun t7_8 h =>
 go (LdA 2 t3) h fun t32_4 h =>
 go (CallF Try.prog 11 [t32_4, (.int .i64 12), (.int .i64 6)]) h fun t33_10 h =>
 go (StA 2 t7_8 t31) h fun _ h =>
 go (StA 2 t8_8 t33_10) h fun _ h =>
 J1 t1 t2 t7_8 t8_8 h))) ∧
 (go (LdA 2 t3) h fun t32_5 h =>
 (go (CallF Try.prog 11 [t30, (.int .i64 12), (.int .i64 6)]) h fun t31_1 h =>
 (go (CallF Try.prog 11 [t32_5, (.int .i64 12), (.int .i64 6)]) h fun t33_11 h =>
 (go (New #[(.int .i64 0), (.slice none 0 0)] 30) h fun t7_9 h =>
 go (New #[(.int .i64 0), (.slice none 0 0)] 30) h fun t8_9 h =>
 go (StA 2 t7_9 t31_1) h fun _ h =>
 go (StA 2 t8_9 t33_11) h fun _ h =>
 J1 t1 t2 t7_9 t8_9 h) ∧
 (go (New #[(.int .i64 0), (.slice none 0 0)] 30) h fun t8_10 h =>
 go (New #[(.int .i64 0), (.slice none 0 0)] 30) h fun t7_10 h =>
 go (StA 2 t7_10 t31_1) h fun _ h =>
 go (StA 2 t8_10 t33_11) h fun _ h =>
 J1 t1 t2 t7_10 t8_10 h)) ∧
 (go (New #[(.int .i64 0), (.slice none 0 0)] 30) h fun t7_11 h =>
 (go (CallF Try.prog 11 [t32_5, (.int .i64 12), (.int .i64 6)]) h fun t33_12 h =>
 go (New #[(.int .i64 0), (.slice none 0 0)] 30) h fun t8_11 h =>
 go (StA 2 t7_11 t31_1) h fun _ h =>
 go (StA 2 t8_11 t33_12) h fun _ h =>
 J1 t1 t2 t7_11 t8_11 h) ∧
 (go (New #[(.int .i64 0), (.slice none 0 0)] 30) h fun t8_12 h =>
 go (CallF Try.prog 11 [t32_5, (.int .i64 12), (.int .i64 6)]) h fun t33_13 h =>
 go (StA 2 t7_11 t31_1) h fun _ h =>
 go (StA 2 t8_12 t33_13) h fun _ h =>
 J1 t1 t2 t7_11 t8_12 h)) ∧
 (go (New #[(.int .i64 0), (.slice none 0 0)] 30) h fun t8_13 h =>
 (go (CallF Try.prog 11 [t32_5, (.int .i64 12), (.int .i64 6)]) h fun t33_14 h =>
 go (New #[(.int .i64 0), (.slice none 0 0)] 30) h fun t7_12 h =>
 go (StA 2 t7_12 t31_1) h fun _ h =>
 go (StA 2 t8_13 t33_14) h fun _ h =>
 J1 t1 t2 t7_12 t8_13 h) ∧
 (go (New #[(.int .i64 0), (.slice none 0 0)] 30) h fun t7_13 h =>
 go (CallF Try.prog 11 [t32_5, (.int .i64 12), (.int .i64 6)]) h fun t33_15 h =>
 go (StA 2 t7_13 t31_1) h fun _ h =>
 go (StA 2 t8_13 t33_15) h fun _ h =>
 J1 t1 t2 t7_13 t8_13 h))) ∧
 (go (New #[(.int .i64 0), (.slice none 0 0)] 30) h fun t7_14 h =>
 (go (CallF Try.prog 11 [t30, (.int .i64 12), (.int .i64 6)]) h fun t31_2 h =>
 (go (CallF Try.prog 11 [t32_5, (.int .i64 12), (.int .i64 6)]) h fun t33_16 h =>
 go (New #[(.int .i64 0), (.slice none 0 0)] 30) h fun t8_14 h =>
 go (StA 2 t7_14 t31_2) h fun _ h =>
 go (StA 2 t8_14 t33_16) h fun _ h =>
 J1 t1 t2 t7_14 t8_14 h) ∧
 (go (New #[(.int .i64 0), (.slice none 0 0)] 30) h fun t8_15 h =>
 go (CallF Try.prog 11 [t32_5, (.int .i64 12), (.int .i64 6)]) h fun t33_17 h =>
 go (StA 2 t7_14 t31_2) h fun _ h =>
 go (StA 2 t8_15 t33_17) h fun _ h =>
 J1 t1 t2 t7_14 t8_15 h)) ∧
 (go (New #[(.int .i64 0), (.slice none 0 0)] 30) h fun t8_16 h =>
 go (CallF Try.prog 11 [t30, (.int .i64 12), (.int .i64 6)]) h fun t31_3 h =>
 go (CallF Try.prog 11 [t32_5, (.int .i64 12), (.int .i64 6)]) h fun t33_18 h =>
 go (StA 2 t7_14 t31_3) h fun _ h =>
 go (StA 2 t8_16 t33_18) h fun _ h =>
 J1 t1 t2 t7_14 t8_16 h)) ∧
 (go (New #[(.int .i64 0), (.slice none 0 0)] 30) h fun t8_17 h =>
 (go (CallF Try.prog 11 [t30, (.int .i64 12), (.int .i64 6)]) h fun t31_4 h =>
 (go (CallF Try.prog 11 [t32_5, (.int .i64 12), (.int .i64 6)]) h fun t33_19 h =>
 go (New #[(.int .i64 0), (.slice none 0 0)] 30) h fun t7_15 h =>
 go (StA 2 t7_15 t31_4) h fun _ h =>
 go (StA 2 t8_17 t33_19) h fun _ h =>
 J1 t1 t2 t7_15 t8_17 h) ∧
 (go (New #[(.int .i64 0), (.slice none 0 0)] 30) h fun t7_16 h =>
 go (CallF Try.prog 11 [t32_5, (.int .i64 12), (.int .i64 6)]) h fun t33_20 h =>
 go (StA 2 t7_16 t31_4) h fun _ h =>
 go (StA 2 t8_17 t33_20) h fun _ h =>
 J1 t1 t2 t7_16 t8_17 h)) ∧
 (go (New #[(.int .i64 0), (.slice none 0 0)] 30) h fun t7_17 h =>
 go (CallF Try.prog 11 [t30, (.int .i64 12), (.int .i64 6)]) h fun t31_5 h =>
 go (CallF Try.prog 11 [t32_5, (.int .i64 12), (.int .i64 6)]) h fun t33_21 h =>
 go (StA 2 t7_17 t31_5) h fun _ h =>
 go (StA 2 t8_17 t33_21) h fun _ h =>
 J1 t1 t2 t7_17 t8_17 h))) ∧
 (go (New #[(.int .i64 0), (.slice none 0 0)] 30) h fun t7_18 h =>
 (go (CallF Try.prog 11 [t30, (.int .i64 12), (.int .i64 6)]) h fun t31_6 h =>
 (go (LdA 2 t3) h fun t32_6 h =>
 (go (CallF Try.prog 11 [t32_6, (.int .i64 12), (.int .i64 6)]) h fun t33_22 h =>
 go (New #[(.int .i64 0), (.slice none 0 0)] 30) h fun t8_18 h =>
 go (StA 2 t7_18 t31_6) h fun _ h =>
 go (StA 2 t8_18 t33_22) h fun _ h =>
 J1 t1 t2 t7_18 t8_18 h) ∧
 (go (New #[(.int .i64 0), (.slice none 0 0)] 30) h fun t8_19 h =>
 go (CallF Try.prog 11 [t32_6, (.int .i64 12), (.int .i64 6)]) h fun t33_23 h =>
 go (StA 2 t7_18 t31_6) h fun _ h =>
 go (StA 2 t8_19 t33_23) h fun _ h =>
 J1 t1 t2 t7_18 t8_19 h)) ∧
 (go (New #[(.int .i64 0), (.slice none 0 0)] 30) h fun t8_20 h =>
 go (LdA 2 t3) h fun t32_7 h =>
 go (CallF Try.prog 11 [t32_7, (.int .i64 12), (.int .i64 6)]) h fun t33_24 h =>
 go (StA 2 t7_18 t31_6) h fun _ h =>
 go (StA 2 t8_20 t33_24) h fun _ h =>
 J1 t1 t2 t7_18 t8_20 h)) ∧
 (go (LdA 2 t3) h fun t32_8 h =>
 (go (CallF Try.prog 11 [t30, (.int .i64 12), (.int .i64 6)]) h fun t31_7 h =>
 (go (CallF Try.prog 11 [t32_8, (.int .i64 12), (.int .i64 6)]) h fun t33_25 h =>
 go (New #[(.int .i64 0), (.slice none 0 0)] 30) h fun t8_21 h =>
 go (StA 2 t7_18 t31_7) h fun _ h =>
 go (StA 2 t8_21 t33_25) h fun _ h =>
 J1 t1 t2 t7_18 t8_21 h) ∧
 (go (New #[(.int .i64 0), (.slice none 0 0)] 30) h fun t8_22 h =>
 go (CallF Try.prog 11 [t32_8, (.int .i64 12), (.int .i64 6)]) h fun t33_26 h =>
 go (StA 2 t7_18 t31_7) h fun _ h =>
 go (StA 2 t8_22 t33_26) h fun _ h =>
 J1 t1 t2 t7_18 t8_22 h)) ∧
 (go (New #[(.int .i64 0), (.slice none 0 0)] 30) h fun t8_23 h =>
 go (CallF Try.prog 11 [t30, (.int .i64 12), (.int .i64 6)]) h fun t31_8 h =>
 go (CallF Try.prog 11 [t32_8, (.int .i64 12), (.int .i64 6)]) h fun t33_27 h =>
 go (StA 2 t7_18 t31_8) h fun _ h =>
 go (StA 2 t8_23 t33_27) h fun _ h =>
 J1 t1 t2 t7_18 t8_23 h)) ∧
 (go (New #[(.int .i64 0), (.slice none 0 0)] 30) h fun t8_24 h =>
 (go (CallF Try.prog 11 [t30, (.int .i64 12), (.int .i64 6)]) h fun t31_9 h =>
 go (LdA 2 t3) h fun t32_9 h =>
 go (CallF Try.prog 11 [t32_9, (.int .i64 12), (.int .i64 6)]) h fun t33_28 h =>
 go (StA 2 t7_18 t31_9) h fun _ h =>
 go (StA 2 t8_24 t33_28) h fun _ h =>
 J1 t1 t2 t7_18 t8_24 h) ∧
 (go (LdA 2 t3) h fun t32_10 h =>
 go (CallF Try.prog 11 [t30, (.int .i64 12), (.int .i64 6)]) h fun t31_10 h =>
 go (CallF Try.prog 11 [t32_10, (.int .i64 12), (.int .i64 6)]) h fun t33_29 h =>
 go (StA 2 t7_18 t31_10) h fun _ h =>
 go (StA 2 t8_24 t33_29) h fun _ h =>
 J1 t1 t2 t7_18 t8_24 h))) ∧
 (go (New #[(.int .i64 0), (.slice none 0 0)] 30) h fun t8_25 h =>
 (go (CallF Try.prog 11 [t30, (.int .i64 12), (.int .i64 6)]) h fun t31_11 h =>
 (go (LdA 2 t3) h fun t32_11 h =>
 (go (CallF Try.prog 11 [t32_11, (.int .i64 12), (.int .i64 6)]) h fun t33_30 h =>
 go (New #[(.int .i64 0), (.slice none 0 0)] 30) h fun t7_19 h =>
 go (StA 2 t7_19 t31_11) h fun _ h =>
 go (StA 2 t8_25 t33_30) h fun _ h =>
 J1 t1 t2 t7_19 t8_25 h) ∧
 (go (New #[(.int .i64 0), (.slice none 0 0)] 30) h fun t7_20 h =>
 go (CallF Try.prog 11 [t32_11, (.int .i64 12), (.int .i64 6)]) h fun t33_31 h =>
 go (StA 2 t7_20 t31_11) h fun _ h =>
 go (StA 2 t8_25 t33_31) h fun _ h =>
 J1 t1 t2 t7_20 t8_25 h)) ∧
 (go (New #[(.int .i64 0), (.slice none 0 0)] 30) h fun t7_21 h =>
 go (LdA 2 t3) h fun t32_12 h =>
 go (CallF Try.prog 11 [t32_12, (.int .i64 12), (.int .i64 6)]) h fun t33_32 h =>
 go (StA 2 t7_21 t31_11) h fun _ h =>
 go (StA 2 t8_25 t33_32) h fun _ h =>
 J1 t1 t2 t7_21 t8_25 h)) ∧
 (go (LdA 2 t3) h fun t32_13 h =>
 (go (CallF Try.prog 11 [t30, (.int .i64 12), (.int .i64 6)]) h fun t31_12 h =>
 (go (CallF Try.prog 11 [t32_13, (.int .i64 12), (.int .i64 6)]) h fun t33_33 h =>
 go (New #[(.int .i64 0), (.slice none 0 0)] 30) h fun t7_22 h =>
 go (StA 2 t7_22 t31_12) h fun _ h =>
 go (StA 2 t8_25 t33_33) h fun _ h =>
 J1 t1 t2 t7_22 t8_25 h) ∧
 (go (New #[(.int .i64 0), (.slice none 0 0)] 30) h fun t7_23 h =>
 go (CallF Try.prog 11 [t32_13, (.int .i64 12), (.int .i64 6)]) h fun t33_34 h =>
 go (StA 2 t7_23 t31_12) h fun _ h =>
 go (StA 2 t8_25 t33_34) h fun _ h =>
 J1 t1 t2 t7_23 t8_25 h)) ∧
 (go (New #[(.int .i64 0), (.slice none 0 0)] 30) h fun t7_24 h =>
 go (CallF Try.prog 11 [t30, (.int .i64 12), (.int .i64 6)]) h fun t31_13 h =>
 go (CallF Try.prog 11 [t32_13, (.int .i64 12), (.int .i64 6)]) h fun t33_35 h =>
 go (StA 2 t7_24 t31_13) h fun _ h =>
 go (StA 2 t8_25 t33_35) h fun _ h =>
 J1 t1 t2 t7_24 t8_25 h)) ∧
 (go (New #[(.int .i64 0), (.slice none 0 0)] 30) h fun t7_25 h =>
 (go (CallF Try.prog 11 [t30, (.int .i64 12), (.int .i64 6)]) h fun t31_14 h =>
 go (LdA 2 t3) h fun t32_14 h =>
 go (CallF Try.prog 11 [t32_14, (.int .i64 12), (.int .i64 6)]) h fun t33_36 h =>
 go (StA 2 t7_25 t31_14) h fun _ h =>
 go (StA 2 t8_25 t33_36) h fun _ h =>
 J1 t1 t2 t7_25 t8_25 h) ∧
 (go (LdA 2 t3) h fun t32_15 h =>
 go (CallF Try.prog 11 [t30, (.int .i64 12), (.int .i64 6)]) h fun t31_15 h =>
 go (CallF Try.prog 11 [t32_15, (.int .i64 12), (.int .i64 6)]) h fun t33_37 h =>
 go (StA 2 t7_25 t31_15) h fun _ h =>
 go (StA 2 t8_25 t33_37) h fun _ h =>
 J1 t1 t2 t7_25 t8_25 h)))) ∧
 (go (LdA 2 t3) h fun t32_16 h =>
 (go (LdA 2 t3) h fun t30_1 h =>
 (go (CallF Try.prog 11 [t30_1, (.int .i64 12), (.int .i64 6)]) h fun t31_16 h =>
 (go (CallF Try.prog 11 [t32_16, (.int .i64 12), (.int .i64 6)]) h fun t33_38 h =>
 (go (New #[(.int .i64 0), (.slice none 0 0)] 30) h fun t7_26 h =>
 go (New #[(.int .i64 0), (.slice none 0 0)] 30) h fun t8_26 h =>
 go (StA 2 t7_26 t31_16) h fun _ h =>
 go (StA 2 t8_26 t33_38) h fun _ h =>
 J1 t1 t2 t7_26 t8_26 h) ∧
 (go (New #[(.int .i64 0), (.slice none 0 0)] 30) h fun t8_27 h =>
 go (New #[(.int .i64 0), (.slice none 0 0)] 30) h fun t7_27 h =>
 go (StA 2 t7_27 t31_16) h fun _ h =>
 go (StA 2 t8_27 t33_38) h fun _ h =>
 J1 t1 t2 t7_27 t8_27 h)) ∧
 (go (New #[(.int .i64 0), (.slice none 0 0)] 30) h fun t7_28 h =>
 (go (CallF Try.prog 11 [t32_16, (.int .i64 12), (.int .i64 6)]) h fun t33_39 h =>
 go (New #[(.int .i64 0), (.slice none 0 0)] 30) h fun t8_28 h =>
 go (StA 2 t7_28 t31_16) h fun _ h =>
 go (StA 2 t8_28 t33_39) h fun _ h =>
 J1 t1 t2 t7_28 t8_28 h) ∧
 (go (New #[(.int .i64 0), (.slice none 0 0)] 30) h fun t8_29 h =>
 go (CallF Try.prog 11 [t32_16, (.int .i64 12), (.int .i64 6)]) h fun t33_40 h =>
 go (StA 2 t7_28 t31_16) h fun _ h =>
 go (StA 2 t8_29 t33_40) h fun _ h =>
 J1 t1 t2 t7_28 t8_29 h)) ∧
 (go (New #[(.int .i64 0), (.slice none 0 0)] 30) h fun t8_30 h =>
 (go (CallF Try.prog 11 [t32_16, (.int .i64 12), (.int .i64 6)]) h fun t33_41 h =>
 go (New #[(.int .i64 0), (.slice none 0 0)] 30) h fun t7_29 h =>
 go (StA 2 t7_29 t31_16) h fun _ h =>
 go (StA 2 t8_30 t33_41) h fun _ h =>
 J1 t1 t2 t7_29 t8_30 h) ∧
 (go (New #[(.int .i64 0), (.slice none 0 0)] 30) h fun t7_30 h =>
 go (CallF Try.prog 11 [t32_16, (.int .i64 12), (.int .i64 6)]) h fun t33_42 h =>
 go (StA 2 t7_30 t31_16) h fun _ h =>
 go (StA 2 t8_30 t33_42) h fun _ h =>
 J1 t1 t2 t7_30 t8_30 h))) ∧
 (go (New #[(.int .i64 0), (.slice none 0 0)] 30) h fun t7_31 h =>
 (go (CallF Try.prog 11 [t30_1, (.int .i64 12), (.int .i64 6)]) h fun t31_17 h =>
 (go (CallF Try.prog 11 [t32_16, (.int .i64 12), (.int .i64 6)]) h fun t33_43 h =>
 go (New #[(.int .i64 0), (.slice none 0 0)] 30) h fun t8_31 h =>
 go (StA 2 t7_31 t31_17) h fun _ h =>
 go (StA 2 t8_31 t33_43) h fun _ h =>
 J1 t1 t2 t7_31 t8_31 h) ∧
 (go (New #[(.int .i64 0), (.slice none 0 0)] 30) h fun t8_32 h =>
 go (CallF Try.prog 11 [t32_16, (.int .i64 12), (.int .i64 6)]) h fun t33_44 h =>
 go (StA 2 t7_31 t31_17) h fun _ h =>
 go (StA 2 t8_32 t33_44) h fun _ h =>
 J1 t1 t2 t7_31 t8_32 h)) ∧
 (go (New #[(.int .i64 0), (.slice none 0 0)] 30) h fun t8_33 h =>
 go (CallF Try.prog 11 [t30_1, (.int .i64 12), (.int .i64 6)]) h fun t31_18 h =>
 go (CallF Try.prog 11 [t32_16, (.int .i64 12), (.int .i64 6)]) h fun t33_45 h =>
 go (StA 2 t7_31 t31_18) h fun _ h =>
 go (StA 2 t8_33 t33_45) h fun _ h =>
 J1 t1 t2 t7_31 t8_33 h)) ∧
 (go (New #[(.int .i64 0), (.slice none 0 0)] 30) h fun t8_34 h =>
 (go (CallF Try.prog 11 [t30_1, (.int .i64 12), (.int .i64 6)]) h fun t31_19 h =>
 (go (CallF Try.prog 11 [t32_16, (.int .i64 12), (.int .i64 6)]) h fun t33_46 h =>
 go (New #[(.int .i64 0), (.slice none 0 0)] 30) h fun t7_32 h =>
 go (StA 2 t7_32 t31_19) h fun _ h =>
 go (StA 2 t8_34 t33_46) h fun _ h =>
 J1 t1 t2 t7_32 t8_34 h) ∧
 (go (New #[(.int .i64 0), (.slice none 0 0)] 30) h fun t7_33 h =>
 go (CallF Try.prog 11 [t32_16, (.int .i64 12), (.int .i64 6)]) h fun t33_47 h =>
 go (StA 2 t7_33 t31_19) h fun _ h =>
 go (StA 2 t8_34 t33_47) h fun _ h =>
 J1 t1 t2 t7_33 t8_34 h)) ∧
 (go (New #[(.int .i64 0), (.slice none 0 0)] 30) h fun t7_34 h =>
 go (CallF Try.prog 11 [t30_1, (.int .i64 12), (.int .i64 6)]) h fun t31_20 h =>
 go (CallF Try.prog 11 [t32_16, (.int .i64 12), (.int .i64 6)]) h fun t33_48 h =>
 go (StA 2 t7_34 t31_20) h fun _ h =>
 go (StA 2 t8_34 t33_48) h fun _ h =>
 J1 t1 t2 t7_34 t8_34 h))) ∧
 (go (New #[(.int .i64 0), (.slice none 0 0)] 30) h fun t7_35 h =>
 (go (LdA 2 t3) h fun t30_2 h =>
 (go (CallF Try.prog 11 [t30_2, (.int .i64 12), (.int .i64 6)]) h fun t31_21 h =>
 (go (CallF Try.prog 11 [t32_16, (.int .i64 12), (.int .i64 6)]) h fun t33_49 h =>
 go (New #[(.int .i64 0), (.slice none 0 0)] 30) h fun t8_35 h =>
 go (StA 2 t7_35 t31_21) h fun _ h =>
 go (StA 2 t8_35 t33_49) h fun _ h =>
 J1 t1 t2 t7_35 t8_35 h) ∧
 (go (New #[(.int .i64 0), (.slice none 0 0)] 30) h fun t8_36 h =>
 go (CallF Try.prog 11 [t32_16, (.int .i64 12), (.int .i64 6)]) h fun t33_50 h =>
 go (StA 2 t7_35 t31_21) h fun _ h =>
 go (StA 2 t8_36 t33_50) h fun _ h =>
 J1 t1 t2 t7_35 t8_36 h)) ∧
 (go (New #[(.int .i64 0), (.slice none 0 0)] 30) h fun t8_37 h =>
 go (CallF Try.prog 11 [t30_2, (.int .i64 12), (.int .i64 6)]) h fun t31_22 h =>
 go (CallF Try.prog 11 [t32_16, (.int .i64 12), (.int .i64 6)]) h fun t33_51 h =>
 go (StA 2 t7_35 t31_22) h fun _ h =>
 go (StA 2 t8_37 t33_51) h fun _ h =>
 J1 t1 t2 t7_35 t8_37 h)) ∧
 (go (New #[(.int .i64 0), (.slice none 0 0)] 30) h fun t8_38 h =>
 go (LdA 2 t3) h fun t30_3 h =>
 go (CallF Try.prog 11 [t30_3, (.int .i64 12), (.int .i64 6)]) h fun t31_23 h =>
 go (CallF Try.prog 11 [t32_16, (.int .i64 12), (.int .i64 6)]) h fun t33_52 h =>
 go (StA 2 t7_35 t31_23) h fun _ h =>
 go (StA 2 t8_38 t33_52) h fun _ h =>
 J1 t1 t2 t7_35 t8_38 h)) ∧
 (go (New #[(.int .i64 0), (.slice none 0 0)] 30) h fun t8_39 h =>
 (go (LdA 2 t3) h fun t30_4 h =>
 (go (CallF Try.prog 11 [t30_4, (.int .i64 12), (.int .i64 6)]) h fun t31_24 h =>
 (go (CallF Try.prog 11 [t32_16, (.int .i64 12), (.int .i64 6)]) h fun t33_53 h =>
 go (New #[(.int .i64 0), (.slice none 0 0)] 30) h fun t7_36 h =>
 go (StA 2 t7_36 t31_24) h fun _ h =>
 go (StA 2 t8_39 t33_53) h fun _ h =>
 J1 t1 t2 t7_36 t8_39 h) ∧
 (go (New #[(.int .i64 0), (.slice none 0 0)] 30) h fun t7_37 h =>
 go (CallF Try.prog 11 [t32_16, (.int .i64 12), (.int .i64 6)]) h fun t33_54 h =>
 go (StA 2 t7_37 t31_24) h fun _ h =>
 go (StA 2 t8_39 t33_54) h fun _ h =>
 J1 t1 t2 t7_37 t8_39 h)) ∧
 (go (New #[(.int .i64 0), (.slice none 0 0)] 30) h fun t7_38 h =>
 go (CallF Try.prog 11 [t30_4, (.int .i64 12), (.int .i64 6)]) h fun t31_25 h =>
 go (CallF Try.prog 11 [t32_16, (.int .i64 12), (.int .i64 6)]) h fun t33_55 h =>
 go (StA 2 t7_38 t31_25) h fun _ h =>
 go (StA 2 t8_39 t33_55) h fun _ h =>
 J1 t1 t2 t7_38 t8_39 h)) ∧
 (go (New #[(.int .i64 0), (.slice none 0 0)] 30) h fun t7_39 h =>
 go (LdA 2 t3) h fun t30_5 h =>
 go (CallF Try.prog 11 [t30_5, (.int .i64 12), (.int .i64 6)]) h fun t31_26 h =>
 go (CallF Try.prog 11 [t32_16, (.int .i64 12), (.int .i64 6)]) h fun t33_56 h =>
 go (StA 2 t7_39 t31_26) h fun _ h =>
 go (StA 2 t8_39 t33_56) h fun _ h =>
 J1 t1 t2 t7_39 t8_39 h))) ∧
 (go (New #[(.int .i64 0), (.slice none 0 0)] 30) h fun t7_40 h =>
 (go (LdA 2 t3) h fun t30_6 h =>
 (go (CallF Try.prog 11 [t30_6, (.int .i64 12), (.int .i64 6)]) h fun t31_27 h =>
 (go (LdA 2 t3) h fun t32_17 h =>
 (go (CallF Try.prog 11 [t32_17, (.int .i64 12), (.int .i64 6)]) h fun t33_57 h =>
 go (New #[(.int .i64 0), (.slice none 0 0)] 30) h fun t8_40 h =>
 go (StA 2 t7_40 t31_27) h fun _ h =>
 go (StA 2 t8_40 t33_57) h fun _ h =>
 J1 t1 t2 t7_40 t8_40 h) ∧
 (go (New #[(.int .i64 0), (.slice none 0 0)] 30) h fun t8_41 h =>
 go (CallF Try.prog 11 [t32_17, (.int .i64 12), (.int .i64 6)]) h fun t33_58 h =>
 go (StA 2 t7_40 t31_27) h fun _ h =>
 go (StA 2 t8_41 t33_58) h fun _ h =>
 J1 t1 t2 t7_40 t8_41 h)) ∧
 (go (New #[(.int .i64 0), (.slice none 0 0)] 30) h fun t8_42 h =>
 go (LdA 2 t3) h fun t32_18 h =>
 go (CallF Try.prog 11 [t32_18, (.int .i64 12), (.int .i64 6)]) h fun t33_59 h =>
 go (StA 2 t7_40 t31_27) h fun _ h =>
 go (StA 2 t8_42 t33_59) h fun _ h =>
 J1 t1 t2 t7_40 t8_42 h)) ∧
 (go (LdA 2 t3) h fun t32_19 h =>
 (go (CallF Try.prog 11 [t30_6, (.int .i64 12), (.int .i64 6)]) h fun t31_28 h =>
 (go (CallF Try.prog 11 [t32_19, (.int .i64 12), (.int .i64 6)]) h fun t33_60 h =>
 go (New #[(.int .i64 0), (.slice none 0 0)] 30) h fun t8_43 h =>
 go (StA 2 t7_40 t31_28) h fun _ h =>
 go (StA 2 t8_43 t33_60) h fun _ h =>
 J1 t1 t2 t7_40 t8_43 h) ∧
 (go (New #[(.int .i64 0), (.slice none 0 0)] 30) h fun t8_44 h =>
 go (CallF Try.prog 11 [t32_19, (.int .i64 12), (.int .i64 6)]) h fun t33_61 h =>
 go (StA 2 t7_40 t31_28) h fun _ h =>
 go (StA 2 t8_44 t33_61) h fun _ h =>
 J1 t1 t2 t7_40 t8_44 h)) ∧
 (go (New #[(.int .i64 0), (.slice none 0 0)] 30) h fun t8_45 h =>
 go (CallF Try.prog 11 [t30_6, (.int .i64 12), (.int .i64 6)]) h fun t31_29 h =>
 go (CallF Try.prog 11 [t32_19, (.int .i64 12), (.int .i64 6)]) h fun t33_62 h =>
 go (StA 2 t7_40 t31_29) h fun _ h =>
 go (StA 2 t8_45 t33_62) h fun _ h =>
 J1 t1 t2 t7_40 t8_45 h)) ∧
 (go (New #[(.int .i64 0), (.slice none 0 0)] 30) h fun t8_46 h =>
 (go (CallF Try.prog 11 [t30_6, (.int .i64 12), (.int .i64 6)]) h fun t31_30 h =>
 go (LdA 2 t3) h fun t32_20 h =>
 go (CallF Try.prog 11 [t32_20, (.int .i64 12), (.int .i64 6)]) h fun t33_63 h =>
 go (StA 2 t7_40 t31_30) h fun _ h =>
 go (StA 2 t8_46 t33_63) h fun _ h =>
 J1 t1 t2 t7_40 t8_46 h) ∧
 (go (LdA 2 t3) h fun t32_21 h =>
 go (CallF Try.prog 11 [t30_6, (.int .i64 12), (.int .i64 6)]) h fun t31_31 h =>
 go (CallF Try.prog 11 [t32_21, (.int .i64 12), (.int .i64 6)]) h fun t33_64 h =>
 go (StA 2 t7_40 t31_31) h fun _ h =>
 go (StA 2 t8_46 t33_64) h fun _ h =>
 J1 t1 t2 t7_40 t8_46 h))) ∧
 (go (LdA 2 t3) h fun t32_22 h =>
 (go (LdA 2 t3) h fun t30_7 h =>
 (go (CallF Try.prog 11 [t30_7, (.int .i64 12), (.int .i64 6)]) h fun t31_32 h =>
 (go (CallF Try.prog 11 [t32_22, (.int .i64 12), (.int .i64 6)]) h fun t33_65 h =>
 go (New #[(.int .i64 0), (.slice none 0 0)] 30) h fun t8_47 h =>
 go (StA 2 t7_40 t31_32) h fun _ h =>
 go (StA 2 t8_47 t33_65) h fun _ h =>
 J1 t1 t2 t7_40 t8_47 h) ∧
 (go (New #[(.int .i64 0), (.slice none 0 0)] 30) h fun t8_48 h =>
 go (CallF Try.prog 11 [t32_22, (.int .i64 12), (.int .i64 6)]) h fun t33_66 h =>
 go (StA 2 t7_40 t31_32) h fun _ h =>
 go (StA 2 t8_48 t33_66) h fun _ h =>
 J1 t1 t2 t7_40 t8_48 h)) ∧
 (go (New #[(.int .i64 0), (.slice none 0 0)] 30) h fun t8_49 h =>
 go (CallF Try.prog 11 [t30_7, (.int .i64 12), (.int .i64 6)]) h fun t31_33 h =>
 go (CallF Try.prog 11 [t32_22, (.int .i64 12), (.int .i64 6)]) h fun t33_67 h =>
 go (StA 2 t7_40 t31_33) h fun _ h =>
 go (StA 2 t8_49 t33_67) h fun _ h =>
 J1 t1 t2 t7_40 t8_49 h)) ∧
 (go (New #[(.int .i64 0), (.slice none 0 0)] 30) h fun t8_50 h =>
 go (LdA 2 t3) h fun t30_8 h =>
 go (CallF Try.prog 11 [t30_8, (.int .i64 12), (.int .i64 6)]) h fun t31_34 h =>
 go (CallF Try.prog 11 [t32_22, (.int .i64 12), (.int .i64 6)]) h fun t33_68 h =>
 go (StA 2 t7_40 t31_34) h fun _ h =>
 go (StA 2 t8_50 t33_68) h fun _ h =>
 J1 t1 t2 t7_40 t8_50 h)) ∧
 (go (New #[(.int .i64 0), (.slice none 0 0)] 30) h fun t8_51 h =>
 go (LdA 2 t3) h fun t30_9 h =>
 (go (CallF Try.prog 11 [t30_9, (.int .i64 12), (.int .i64 6)]) h fun t31_35 h =>
 go (LdA 2 t3) h fun t32_23 h =>
 go (CallF Try.prog 11 [t32_23, (.int .i64 12), (.int .i64 6)]) h fun t33_69 h =>
 go (StA 2 t7_40 t31_35) h fun _ h =>
 go (StA 2 t8_51 t33_69) h fun _ h =>
 J1 t1 t2 t7_40 t8_51 h) ∧
 (go (LdA 2 t3) h fun t32_24 h =>
 go (CallF Try.prog 11 [t30_9, (.int .i64 12), (.int .i64 6)]) h fun t31_36 h =>
 go (CallF Try.prog 11 [t32_24, (.int .i64 12), (.int .i64 6)]) h fun t33_70 h =>
 go (StA 2 t7_40 t31_36) h fun _ h =>
 go (StA 2 t8_51 t33_70) h fun _ h =>
 J1 t1 t2 t7_40 t8_51 h))) ∧
 (go (New #[(.int .i64 0), (.slice none 0 0)] 30) h fun t8_52 h =>
 (go (LdA 2 t3) h fun t30_10 h =>
 (go (CallF Try.prog 11 [t30_10, (.int .i64 12), (.int .i64 6)]) h fun t31_37 h =>
 (go (LdA 2 t3) h fun t32_25 h =>
 (go (CallF Try.prog 11 [t32_25, (.int .i64 12), (.int .i64 6)]) h fun t33_71 h =>
 go (New #[(.int .i64 0), (.slice none 0 0)] 30) h fun t7_41 h =>
 go (StA 2 t7_41 t31_37) h fun _ h =>
 go (StA 2 t8_52 t33_71) h fun _ h =>
 J1 t1 t2 t7_41 t8_52 h) ∧
 (go (New #[(.int .i64 0), (.slice none 0 0)] 30) h fun t7_42 h =>
 go (CallF Try.prog 11 [t32_25, (.int .i64 12), (.int .i64 6)]) h fun t33_72 h =>
 go (StA 2 t7_42 t31_37) h fun _ h =>
 go (StA 2 t8_52 t33_72) h fun _ h =>
 J1 t1 t2 t7_42 t8_52 h)) ∧
 (go (New #[(.int .i64 0), (.slice none 0 0)] 30) h fun t7_43 h =>
 go (LdA 2 t3) h fun t32_26 h =>
 go (CallF Try.prog 11 [t32_26, (.int .i64 12), (.int .i64 6)]) h fun t33_73 h =>
 go (StA 2 t7_43 t31_37) h fun _ h =>
 go (StA 2 t8_52 t33_73) h fun _ h =>
 J1 t1 t2 t7_43 t8_52 h)) ∧
 (go (LdA 2 t3) h fun t32_27 h =>
 (go (CallF Try.prog 11 [t30_10, (.int .i64 12), (.int .i64 6)]) h fun t31_38 h =>
 (go (CallF Try.prog 11 [t32_27, (.int .i64 12), (.int .i64 6)]) h fun t33_74 h =>
 go (New #[(.int .i64 0), (.slice none 0 0)] 30) h fun t7_44 h =>
 go (StA 2 t7_44 t31_38) h fun _ h =>
 go (StA 2 t8_52 t33_74) h fun _ h =>
 J1 t1 t2 t7_44 t8_52 h) ∧
 (go (New #[(.int .i64 0), (.slice none 0 0)] 30) h fun t7_45 h =>
 go (CallF Try.prog 11 [t32_27, (.int .i64 12), (.int .i64 6)]) h fun t33_75 h =>
 go (StA 2 t7_45 t31_38) h fun _ h =>
 go (StA 2 t8_52 t33_75) h fun _ h =>
 J1 t1 t2 t7_45 t8_52 h)) ∧
 (go (New #[(.int .i64 0), (.slice none 0 0)] 30) h fun t7_46 h =>
 go (CallF Try.prog 11 [t30_10, (.int .i64 12), (.int .i64 6)]) h fun t31_39 h =>
 go (CallF Try.prog 11 [t32_27, (.int .i64 12), (.int .i64 6)]) h fun t33_76 h =>
 go (StA 2 t7_46 t31_39) h fun _ h =>
 go (StA 2 t8_52 t33_76) h fun _ h =>
 J1 t1 t2 t7_46 t8_52 h)) ∧
 (go (New #[(.int .i64 0), (.slice none 0 0)] 30) h fun t7_47 h =>
 (go (CallF Try.prog 11 [t30_10, (.int .i64 12), (.int .i64 6)]) h fun t31_40 h =>
 go (LdA 2 t3) h fun t32_28 h =>
 go (CallF Try.prog 11 [t32_28, (.int .i64 12), (.int .i64 6)]) h fun t33_77 h =>
 go (StA 2 t7_47 t31_40) h fun _ h =>
 go (StA 2 t8_52 t33_77) h fun _ h =>
 J1 t1 t2 t7_47 t8_52 h) ∧
 (go (LdA 2 t3) h fun t32_29 h =>
 go (CallF Try.prog 11 [t30_10, (.int .i64 12), (.int .i64 6)]) h fun t31_41 h =>
 go (CallF Try.prog 11 [t32_29, (.int .i64 12), (.int .i64 6)]) h fun t33_78 h =>
 go (StA 2 t7_47 t31_41) h fun _ h =>
 go (StA 2 t8_52 t33_78) h fun _ h =>
 J1 t1 t2 t7_47 t8_52 h))) ∧
 (go (LdA 2 t3) h fun t32_30 h =>
 (go (LdA 2 t3) h fun t30_11 h =>
 (go (CallF Try.prog 11 [t30_11, (.int .i64 12), (.int .i64 6)]) h fun t31_42 h =>
 (go (CallF Try.prog 11 [t32_30, (.int .i64 12), (.int .i64 6)]) h fun t33_79 h =>
 go (New #[(.int .i64 0), (.slice none 0 0)] 30) h fun t7_48 h =>
 go (StA 2 t7_48 t31_42) h fun _ h =>
 go (StA 2 t8_52 t33_79) h fun _ h =>
 J1 t1 t2 t7_48 t8_52 h) ∧
 (go (New #[(.int .i64 0), (.slice none 0 0)] 30) h fun t7_49 h =>
 go (CallF Try.prog 11 [t32_30, (.int .i64 12), (.int .i64 6)]) h fun t33_80 h =>
 go (StA 2 t7_49 t31_42) h fun _ h =>
 go (StA 2 t8_52 t33_80) h fun _ h =>
 J1 t1 t2 t7_49 t8_52 h)) ∧
 (go (New #[(.int .i64 0), (.slice none 0 0)] 30) h fun t7_50 h =>
 go (CallF Try.prog 11 [t30_11, (.int .i64 12), (.int .i64 6)]) h fun t31_43 h =>
 go (CallF Try.prog 11 [t32_30, (.int .i64 12), (.int .i64 6)]) h fun t33_81 h =>
 go (StA 2 t7_50 t31_43) h fun _ h =>
 go (StA 2 t8_52 t33_81) h fun _ h =>
 J1 t1 t2 t7_50 t8_52 h)) ∧
 (go (New #[(.int .i64 0), (.slice none 0 0)] 30) h fun t7_51 h =>
 go (LdA 2 t3) h fun t30_12 h =>
 go (CallF Try.prog 11 [t30_12, (.int .i64 12), (.int .i64 6)]) h fun t31_44 h =>
 go (CallF Try.prog 11 [t32_30, (.int .i64 12), (.int .i64 6)]) h fun t33_82 h =>
 go (StA 2 t7_51 t31_44) h fun _ h =>
 go (StA 2 t8_52 t33_82) h fun _ h =>
 J1 t1 t2 t7_51 t8_52 h)) ∧
 (go (New #[(.int .i64 0), (.slice none 0 0)] 30) h fun t7_52 h =>
 go (LdA 2 t3) h fun t30_13 h =>
 (go (CallF Try.prog 11 [t30_13, (.int .i64 12), (.int .i64 6)]) h fun t31_45 h =>
 go (LdA 2 t3) h fun t32_31 h =>
 go (CallF Try.prog 11 [t32_31, (.int .i64 12), (.int .i64 6)]) h fun t33_83 h =>
 go (StA 2 t7_52 t31_45) h fun _ h =>
 go (StA 2 t8_52 t33_83) h fun _ h =>
 J1 t1 t2 t7_52 t8_52 h) ∧
 (go (LdA 2 t3) h fun t32_32 h =>
 go (CallF Try.prog 11 [t30_13, (.int .i64 12), (.int .i64 6)]) h fun t31_46 h =>
 go (CallF Try.prog 11 [t32_32, (.int .i64 12), (.int .i64 6)]) h fun t33_84 h =>
 go (StA 2 t7_52 t31_46) h fun _ h =>
 go (StA 2 t8_52 t33_84) h fun _ h =>
 J1 t1 t2 t7_52 t8_52 h)))) (fun t1_1 t2_1 t7_53 t8_53 h =>
 go (Fld 1 t7_53) h fun t34 h =>
 go (Ld t34) h fun t35 h =>
 go (Len t35) h fun t36 h =>
 Lp 6 (fun X2 t1_2 t2_2 t7_54 t8_54 t36_1 t37 h =>
 go (Bin .int .lss t37 t36_1) h fun t38 h =>
 If t38 (
 go (Fld 1 t8_54) h fun t40 h =>
 go (Ld t40) h fun t41 h =>
 go (Fld 1 t7_54) h fun t43 h =>
 go (Ld t43) h fun t44 h =>
 go (Cvt .i64 t2_2) h fun t47 h =>
 go (Bin .int .add t37 t47) h fun t48 h =>
 go (Fld 1 t7_54) h fun t49 h =>
 go (Ld t49) h fun t50 h =>
 go (Len t50) h fun t51 h =>
 go (Bin .int .rem t48 t51) h fun t52 h =>
 go (Idx 1 t44 t52) h fun t53 h =>
 go (Ld t53) h fun t54 h =>
 go (Idx 1 t41 t37) h fun t55 h =>
 go (St t55 t54) h fun _ h =>
 go (Bin .int .add t37 (.int .i64 1)) h fun t56 h =>
 X2 t1_2 t2_2 t7_54 t8_54 t36_1 t56 h) (
 Join 4 (fun J3 =>
 go (LdA 2 t7_54) h fun t57 h =>
 (go (CallF Try.prog 12 [t57]) h fun t58 h =>
 go (LdA 2 t8_54) h fun t59 h =>
 go (CallF Try.prog 12 [t59]) h fun t60 h =>
 J3 t1_2 t7_54 t58 t60 h) ∧
 (go (LdA 2 t8_54) h fun t59_1 h =>
 go (CallF Try.prog 12 [t57]) h fun t58_1 h =>
 go (CallF Try.prog 12 [t59_1]) h fun t60_1 h =>
 J3 t1_2 t7_54 t58_1 t60_1 h)) (fun t1_3 t7_55 t10 t11 h =>
 go (Bin .pointer .eql t10 (.pointer none)) h fun t62 h =>
 go (Gd t62 false (Mv t11)) h fun t64 h =>
 go (Gd t62 false (Bin .pointer .eql t64 (.pointer none))) h fun t65 h =>
 go (Pick t62 (.bool true) t65) h fun t66 h =>
 If t66 (
 K (.bool false) h) (
 go (Fld 0 t7_55) h fun t68 h =>
 go (Ld t68) h fun t69 h =>
 go (CallF Try.prog 13 [t1_3, t69]) h fun t70 h =>
 go (Len t70) h fun t72 h =>
 go (Bin .int .sub t72 (.int .i64 1)) h fun t73 h =>
 Lp 5 (fun X4 t10_1 t11_1 t12 t13 t14 h =>
 go (Bin .int .geq t14 (.int .i64 0)) h fun t75 h =>
 If t75 (
 go (Idx 1 t12 t14) h fun t81 h =>
 go (Ld t81) h fun t82 h =>
 go (BldS 3 1 1 #[(.int .i64 0)] [(0, t82)]) h fun t83 h =>
 go (App 3 1 8 #[(.int .i64 0)] t13 t83) h fun t84 h =>
 go (Bin .int .sub t14 (.int .i64 1)) h fun t77 h =>
 X4 t10_1 t11_1 t12 t84 t77 h) (
 go (CallF Try.prog 15 [t10_1, t12]) h fun t88 h =>
 go (Ext 0 t88) h fun t89 h =>
 go (Ext 1 t88) h fun t90 h =>
 go (CallF Try.prog 15 [t11_1, t13]) h fun t94 h =>
 go (Ext 0 t94) h fun t95 h =>
 go (Ext 1 t94) h fun t96 h =>
 go (Bin .bool .neq t90 t96) h fun t99 h =>
 go (Gd t99 false (Mv t89)) h fun t101 h =>
 go (Gd t99 false (Len t101)) h fun t102 h =>
 go (Gd t99 false (Mv t95)) h fun t103 h =>
 go (Gd t99 false (Len t103)) h fun t104 h =>
 go (Gd t99 false (Bin .int .neq t102 t104)) h fun t105 h =>
 go (Pick t99 (.bool true) t105) h fun t106 h =>
 If t106 (
 K (.bool false) h) (
 go (Len t89) h fun t108 h =>
 Lp 8 (fun X5 t10_2 t11_2 t12_1 t13_1 t15 t17 t108_1 t109 h =>
 go (Bin .int .lss t109 t108_1) h fun t110 h =>
 If t110 (
 go (Idx 1 t15 t109) h fun t114 h =>
 go (Ld t114) h fun t115 h =>
 go (Idx 1 t17 t109) h fun t118 h =>
 go (Ld t118) h fun t119 h =>
 go (Bin .int .neq t115 t119) h fun t120 h =>
 If t120 (
 K (.bool false) h) (
 go (Bin .int .add t109 (.int .i64 1)) h fun t121 h =>
 X5 t10_2 t11_2 t12_1 t13_1 t15 t17 t108_1 t121 h)) (
 go (CallF Try.prog 20 [t10_2, t12_1]) h fun t124 h =>
 go (CallF Try.prog 20 [t11_2, t13_1]) h fun t127 h =>
 go (Bin .bool .eql t124 t127) h fun t128 h =>
 K t128 h)) [t10_1, t11_1, t12, t13, t89, t95, t108, (.int .i64 0)] h))) [t10, t11, t70, (.slice none 0 0), t73] h)))) [t1_1, t2_1, t7_53, t8_53, t36, (.int .i64 0)] h)))
set_option maxRecDepth 100000 in
theorem bradawllaw07_RupOrders.eq : (fun t0 t1 t2 K h => bradawllaw07_RupOrders.pt t0 t1 t2 K h : Value → Value → Value → Ret → Heap → Prop) = (fun t0 t1 t2 K h => fnPt Try.prog [16, 17, 19, 26, 31, 32, 35, 42, 43] Try.f5 bradawllaw07_RupOrders.ann [t0, t1, t2] K h) := by kernel_rfl
set_option maxRecDepth 100000 in
theorem bradawllaw07_RupOrders.ok {t0 t1 t2 : Value} {K : Ret} {h : Heap} (hp : bradawllaw07_RupOrders.pt t0 t1 t2 K h) : CallH Try.prog 5 #[t0, t1, t2] K h :=
  fn_sound (qs := [16, 17, 19, 26, 31, 32, 35, 42, 43]) (fn := Try.f5) (ann := bradawllaw07_RupOrders.ann) (args := [t0, t1, t2]) follows_mixed Try.func5 ((Eq.to_iff (congrFun (congrFun (congrFun (congrFun (congrFun (bradawllaw07_RupOrders.eq) t0) t1) t2) K) h)).mp hp)

/-! ### bradawl/bradawllaw07.fit: function 9 -/
abbrev bradawllaw07_fit.id : FuncId := 9
def bradawllaw07_fit.ann : Ann := (.seq none .leaf (.seq none .leaf (.seq none (.seq none .leaf (.cond (.seq none .leaf .leaf) .leaf)) (.seq none .leaf (.seq none .leaf (.seq none .leaf .leaf))))))
set_option maxRecDepth 100000 in
def bradawllaw07_fit.pt (K : Ret) (h : Heap) : Prop :=
 go (CallF Try.prog 28 [(.int .i64 2)]) h fun t6 h =>
 go (Bin .pointer .eql t6 (.pointer none)) h fun t8 h =>
 go (Gd t8 false (Mv t6)) h fun t10 h =>
 go (Gd t8 false (BldS 3 1 2 #[(.int .i64 0)] [(0, (.int .i64 1)), (1, (.int .i64 2))])) h fun t11 h =>
 go (Gd t8 false (CallF Try.prog 18 [t10, t11])) h fun t12 h =>
 go (Gd t8 false (Un .not t12)) h fun t13 h =>
 go (Pick t8 (.bool true) t13) h fun t14 h =>
 go (Gd t14 false (Mv t6)) h fun t16 h =>
 go (Gd t14 false (BldS 3 1 2 #[(.int .i64 0)] [(0, (.int .i64 (-1))), (1, (.int .i64 2))])) h fun t17 h =>
 go (Gd t14 false (CallF Try.prog 18 [t16, t17])) h fun t18 h =>
 go (Gd t14 false (Un .not t18)) h fun t19 h =>
 go (Pick t14 (.bool true) t19) h fun t20 h =>
 go (Gd t20 false (Mv t6)) h fun t22 h =>
 go (Gd t20 false (BldS 3 1 1 #[(.int .i64 0)] [(0, (.int .i64 3))])) h fun t23 h =>
 go (Gd t20 false (CallF Try.prog 18 [t22, t23])) h fun t24 h =>
 go (Pick t20 (.bool true) t24) h fun t25 h =>
 If t25 (
 K (.bool false) h) (
 go (BldS 3 1 1 #[(.int .i64 0)] [(0, (.int .i64 (-2)))]) h fun t28 h =>
 go (CallF Try.prog 15 [t6, t28]) h fun t29 h =>
 go (Ext 0 t29) h fun t30 h =>
 go (Ext 1 t29) h fun t31 h =>
 go (BldS 3 1 1 #[(.int .i64 0)] [(0, (.int .i64 1))]) h fun t34 h =>
 go (CallF Try.prog 15 [t6, t34]) h fun t35 h =>
 go (Ext 0 t35) h fun t36 h =>
 go (Ext 1 t35) h fun t37 h =>
 go (Un .not t31) h fun t39 h =>
 go (Gd t39 true (Mv t30)) h fun t41 h =>
 go (Gd t39 true (Len t41)) h fun t42 h =>
 go (Gd t39 true (Bin .int .eql t42 (.int .i64 0))) h fun t43 h =>
 go (Pick t39 t43 (.bool false)) h fun t44 h =>
 go (Gd t44 true (Mv t37)) h fun t46 h =>
 go (Pick t44 t46 (.bool false)) h fun t47 h =>
 go (Gd t47 true (Mv t36)) h fun t49 h =>
 go (Gd t47 true (Len t49)) h fun t50 h =>
 go (Gd t47 true (Bin .int .eql t50 (.int .i64 2))) h fun t51 h =>
 go (Pick t47 t51 (.bool false)) h fun t52 h =>
 go (Gd t52 true (Mv t36)) h fun t54 h =>
 go (Gd t52 true (Idx 1 t54 (.int .i64 0))) h fun t55 h =>
 go (Gd t52 true (Ld t55)) h fun t56 h =>
 go (Gd t52 true (Bin .int .eql t56 (.int .i64 1))) h fun t57 h =>
 go (Pick t52 t57 (.bool false)) h fun t58 h =>
 go (Gd t58 true (Mv t36)) h fun t60 h =>
 go (Gd t58 true (Idx 1 t60 (.int .i64 1))) h fun t61 h =>
 go (Gd t58 true (Ld t61)) h fun t62 h =>
 go (Gd t58 true (Bin .int .eql t62 (.int .i64 2))) h fun t63 h =>
 go (Pick t58 t63 (.bool false)) h fun t64 h =>
 go (Gd t64 true (Mv t6)) h fun t66 h =>
 go (Gd t64 true (BldS 3 1 1 #[(.int .i64 0)] [(0, (.int .i64 2))])) h fun t67 h =>
 go (Gd t64 true (CallF Try.prog 20 [t66, t67])) h fun t68 h =>
 go (Pick t64 t68 (.bool false)) h fun t69 h =>
 go (Gd t69 true (Mv t6)) h fun t71 h =>
 go (Gd t69 true (CallF Try.prog 20 [t71, (.slice none 0 0)])) h fun t72 h =>
 go (Gd t69 true (Un .not t72)) h fun t73 h =>
 go (Pick t69 t73 (.bool false)) h fun t74 h =>
 go (Gd t74 true (Mv t6)) h fun t76 h =>
 go (Gd t74 true (QCall Try.prog 26 [t76])) h fun t77 h =>
 go (Gd t74 true (Bin .int .eql t77 (.int .i64 2))) h fun t78 h =>
 go (Pick t74 t78 (.bool false)) h fun t79 h =>
 K t79 h)
set_option maxRecDepth 100000 in
theorem bradawllaw07_fit.eq : (fun K h => bradawllaw07_fit.pt K h : Ret → Heap → Prop) = (fun K h => fnPt Try.prog [16, 17, 19, 26, 31, 32, 35, 42, 43] Try.f9 bradawllaw07_fit.ann [] K h) := by kernel_rfl
set_option maxRecDepth 100000 in
theorem bradawllaw07_fit.ok {K : Ret} {h : Heap} (hp : bradawllaw07_fit.pt K h) : CallH Try.prog 9 #[] K h :=
  fn_sound (qs := [16, 17, 19, 26, 31, 32, 35, 42, 43]) (fn := Try.f9) (ann := bradawllaw07_fit.ann) (args := []) follows_mixed Try.func9 ((Eq.to_iff (congrFun (congrFun (bradawllaw07_fit.eq) K) h)).mp hp)

/-! ### (bradawl/bradawllaw02.Raw).Light: function 10 -/
abbrev bradawllaw02_Raw_Light.id : FuncId := 10
def bradawllaw02_Raw_Light.ann : Ann := (.seq none .leaf (.seq none .leaf (.seq none (.seq none .leaf (.block (.loop [1, 2, 5, 9, 10, 11] (.seq none .leaf (.seq none (.cond .leaf .leaf) (.seq none (.block (.seq none .leaf (.seq none .leaf (.seq none .leaf (.cond (.seq none .leaf .leaf) .leaf))))) .leaf)))))) (.seq none .leaf .leaf))))
set_option maxRecDepth 100000 in
def bradawllaw02_Raw_Light.pt (t0 t1 : Value) (K : Ret) (h : Heap) : Prop :=
 go (New (Value.cells t0) 24) h fun t2 h =>
 go (Fld 1 t2) h fun t8 h =>
 go (Ld t8) h fun t9 h =>
 go (Len t9) h fun t10 h =>
 Lp 6 (fun X1 t1_1 t2_1 t5 t9_1 t10_1 t11 h =>
 go (Bin .int .lss t11 t10_1) h fun t12 h =>
 If t12 (
 go (Idx 1 t9_1 t11) h fun t13 h =>
 go (Ld t13) h fun t14 h =>
 go (Len t14) h fun t17 h =>
 go (Bin .int .add (.int .i64 1) t17) h fun t18 h =>
 go (Bin .int .add t5 t18) h fun t19 h =>
 go (Bin .int .mul (.int .i64 10) t1_1) h fun t22 h =>
 go (Bin .int .gtr t19 t22) h fun t23 h =>
 If t23 (
 K (.bool false) h) (
 go (Bin .int .add t11 (.int .i64 1)) h fun t24 h =>
 X1 t1_1 t2_1 t19 t9_1 t10_1 t24 h)) (
 go (Fld 1 t2_1) h fun t25 h =>
 go (Ld t25) h fun t26 h =>
 go (Len t26) h fun t27 h =>
 go (Bin .int .leq t27 t1_1) h fun t29 h =>
 K t29 h)) [t1, t2, (.int .i64 0), t9, t10, (.int .i64 0)] h
set_option maxRecDepth 100000 in
theorem bradawllaw02_Raw_Light.eq : (fun t0 t1 K h => bradawllaw02_Raw_Light.pt t0 t1 K h : Value → Value → Ret → Heap → Prop) = (fun t0 t1 K h => fnPt Try.prog [16, 17, 19, 26, 31, 32, 35, 42, 43] Try.f10 bradawllaw02_Raw_Light.ann [t0, t1] K h) := by kernel_rfl
set_option maxRecDepth 100000 in
theorem bradawllaw02_Raw_Light.ok {t0 t1 : Value} {K : Ret} {h : Heap} (hp : bradawllaw02_Raw_Light.pt t0 t1 K h) : CallH Try.prog 10 #[t0, t1] K h :=
  fn_sound (qs := [16, 17, 19, 26, 31, 32, 35, 42, 43]) (fn := Try.f10) (ann := bradawllaw02_Raw_Light.ann) (args := [t0, t1]) follows_mixed Try.func10 ((Eq.to_iff (congrFun (congrFun (congrFun (congrFun (bradawllaw02_Raw_Light.eq) t0) t1) K) h)).mp hp)

/-! ### (bradawl/bradawllaw02.Raw).Formula: function 11 -/
abbrev bradawllaw02_Raw_Formula.id : FuncId := 11
def bradawllaw02_Raw_Formula.ann : Ann := (.seq none .leaf (.seq none .leaf (.seq none (.seq none .leaf (.block (.loop [2, 6, 7, 22, 23, 24] (.seq none .leaf (.seq none (.cond .leaf .leaf) (.seq none (.block (.seq none .leaf (.seq none .leaf (.seq (some [2, 6, 7, 10, 22, 23, 24]) (.seq none .leaf (.block (.loop [2, 6, 7, 10, 22, 23, 24, 28, 29, 30] (.seq none .leaf (.seq none (.cond .leaf .leaf) (.seq none (.block (.seq none .leaf (.seq none (.seq none .leaf (.cond .leaf .leaf)) (.seq none .leaf (.seq (some [2, 6, 7, 10, 13, 22, 23, 24, 28, 29, 30]) (.seq none .leaf (.cond .leaf .leaf)) .leaf))))) .leaf)))))) .leaf)))) .leaf)))))) (.seq none .leaf .leaf))))
set_option maxRecDepth 100000 in
def bradawllaw02_Raw_Formula.pt (t0 t1 t2 : Value) (K : Ret) (h : Heap) : Prop :=
 go (New (Value.cells t0) 24) h fun t3 h =>
 go (New #[(.int .i64 0), (.slice none 0 0)] 30) h fun t6 h =>
 go (Fld 0 t3) h fun t14 h =>
 go (Ld t14) h fun t15 h =>
 go (Cvt .i64 t15) h fun t16 h =>
 go (Bin .int .add t1 (.int .i64 1)) h fun t18 h =>
 go (Bin .int .rem t16 t18) h fun t19 h =>
 go (Bld [(0, 1), (1, 1)] #[(.int .i64 0), (.slice none 0 0)] [(0, t19)]) h fun t20 h =>
 go (New #[(.int .i64 0), (.slice none 0 0)] 30) h fun t7 h =>
 go (StA 2 t7 t20) h fun _ h =>
 go (Fld 1 t3) h fun t21 h =>
 go (Ld t21) h fun t22 h =>
 go (Len t22) h fun t23 h =>
 Lp 6 (fun X1 t2_1 t6_1 t7_1 t22_1 t23_1 t24 h =>
 go (Bin .int .lss t24 t23_1) h fun t25 h =>
 If t25 (
 go (Idx 1 t22_1 t24) h fun t26 h =>
 go (Ld t26) h fun t27 h =>
 Join 7 (fun J2 =>
 go (Len t27) h fun t29 h =>
 Lp 10 (fun X3 t2_2 t6_2 t7_2 t10 t22_2 t23_2 t24_1 t28 t29_1 t30 h =>
 go (Bin .int .lss t30 t29_1) h fun t31 h =>
 If t31 (
 go (Idx 1 t28 t30) h fun t32 h =>
 go (Ld t32) h fun t33 h =>
 go (Fld 0 t7_2) h fun t34 h =>
 go (Ld t34) h fun t35 h =>
 go (Bin .int .eql t35 (.int .i64 0)) h fun t36 h =>
 go (Gd t36 false (Mv t10)) h fun t38 h =>
 go (Gd t36 false (Len t38)) h fun t39 h =>
 go (Gd t36 false (Mv t2_2)) h fun t40 h =>
 go (Gd t36 false (Bin .int .eql t39 t40)) h fun t41 h =>
 go (Pick t36 (.bool true) t41) h fun t42 h =>
 If t42 (
 J2 t2_2 t6_2 t7_2 t10 t22_2 t23_2 t24_1 h) (
 go (Cvt .u16 t33) h fun t44 h =>
 go (Bin .int .shr t44 (.int .u64 1)) h fun t45 h =>
 go (Cvt .i64 t45) h fun t46 h =>
 go (Fld 0 t7_2) h fun t47 h =>
 go (Ld t47) h fun t48 h =>
 go (Bin .int .rem t46 t48) h fun t49 h =>
 go (Bin .int .add (.int .i64 1) t49) h fun t50 h =>
 Join 11 (fun J4 =>
 go (Bin .int .and t33 (.int .i16 1)) h fun t52 h =>
 go (Bin .int .eql t52 (.int .i16 1)) h fun t53 h =>
 If t53 (
 go (Un .neg t50) h fun t55 h =>
 J4 t2_2 t6_2 t7_2 t10 t55 t22_2 t23_2 t24_1 t28 t29_1 t30 h) (
 J4 t2_2 t6_2 t7_2 t10 t50 t22_2 t23_2 t24_1 t28 t29_1 t30 h)) (fun t2_3 t6_3 t7_3 t10_1 t13 t22_3 t23_3 t24_2 t28_1 t29_2 t30_1 h =>
 go (BldS 3 1 1 #[(.int .i64 0)] [(0, t13)]) h fun t58 h =>
 go (App 3 1 8 #[(.int .i64 0)] t10_1 t58) h fun t59 h =>
 go (Bin .int .add t30_1 (.int .i64 1)) h fun t60 h =>
 X3 t2_3 t6_3 t7_3 t59 t22_3 t23_3 t24_2 t28_1 t29_2 t60 h))) (
 J2 t2_2 t6_2 t7_2 t10 t22_2 t23_2 t24_1 h)) [t2_1, t6_1, t7_1, (.slice none 0 0), t22_1, t23_1, t24, t27, t29, (.int .i64 0)] h) (fun t2_4 t6_4 t7_4 t10_2 t22_4 t23_4 t24_3 h =>
 go (Fld 1 t7_4) h fun t61 h =>
 go (Ld t61) h fun t62 h =>
 go (BldS 34 1 1 #[(.slice none 0 0)] [(0, t10_2)]) h fun t64 h =>
 go (App 34 1 24 #[(.slice none 0 0)] t62 t64) h fun t65 h =>
 go (Fld 1 t7_4) h fun t66 h =>
 go (St t66 t65) h fun _ h =>
 go (Bin .int .add t24_3 (.int .i64 1)) h fun t67 h =>
 X1 t2_4 t6_4 t7_4 t22_4 t23_4 t67 h)) (
 go (LdA 2 t7_1) h fun t68 h =>
 go (StA 2 t6_1 t68) h fun _ h =>
 go (LdA 2 t6_1) h fun r0 h =>
 K r0 h)) [t2, t6, t7, t22, t23, (.int .i64 0)] h
set_option maxRecDepth 100000 in
theorem bradawllaw02_Raw_Formula.eq : (fun t0 t1 t2 K h => bradawllaw02_Raw_Formula.pt t0 t1 t2 K h : Value → Value → Value → Ret → Heap → Prop) = (fun t0 t1 t2 K h => fnPt Try.prog [16, 17, 19, 26, 31, 32, 35, 42, 43] Try.f11 bradawllaw02_Raw_Formula.ann [t0, t1, t2] K h) := by kernel_rfl
set_option maxRecDepth 100000 in
theorem bradawllaw02_Raw_Formula.ok {t0 t1 t2 : Value} {K : Ret} {h : Heap} (hp : bradawllaw02_Raw_Formula.pt t0 t1 t2 K h) : CallH Try.prog 11 #[t0, t1, t2] K h :=
  fn_sound (qs := [16, 17, 19, 26, 31, 32, 35, 42, 43]) (fn := Try.f11) (ann := bradawllaw02_Raw_Formula.ann) (args := [t0, t1, t2]) follows_mixed Try.func11 ((Eq.to_iff (congrFun (congrFun (congrFun (congrFun (congrFun (bradawllaw02_Raw_Formula.eq) t0) t1) t2) K) h)).mp hp)

/-! ### bradawl/bradawllaw07.Store: function 12 -/
abbrev bradawllaw07_Store.id : FuncId := 12
def bradawllaw07_Store.ann : Ann := (.seq none .leaf (.seq none .leaf (.seq none (.seq none .leaf (.block (.loop [3, 10, 11, 12] (.seq none .leaf (.seq none (.cond .leaf .leaf) (.seq none (.block (.seq none .leaf (.seq none .leaf (.cond (.seq none .leaf .leaf) .leaf)))) .leaf)))))) (.seq none .leaf .leaf))))
set_option maxRecDepth 100000 in
def bradawllaw07_Store.pt (t0 : Value) (K : Ret) (h : Heap) : Prop :=
 go (New (Value.cells t0) 30) h fun t1 h =>
 go (Fld 0 t1) h fun t6 h =>
 go (Ld t6) h fun t7 h =>
 go (CallF Try.prog 28 [t7]) h fun t8 h =>
 go (Fld 1 t1) h fun t9 h =>
 go (Ld t9) h fun t10 h =>
 go (Len t10) h fun t11 h =>
 Lp 4 (fun X1 t3 t10_1 t11_1 t12 h =>
 go (Bin .int .lss t12 t11_1) h fun t13 h =>
 If t13 (
 go (Idx 1 t10_1 t12) h fun t14 h =>
 go (Ld t14) h fun t15 h =>
 go (Bin .pointer .eql t3 (.pointer none)) h fun t17 h =>
 go (Gd t17 false (Mv t3)) h fun t19 h =>
 go (Gd t17 false (Mv t15)) h fun t20 h =>
 go (Gd t17 false (CallF Try.prog 18 [t19, t20])) h fun t21 h =>
 go (Gd t17 false (Un .not t21)) h fun t22 h =>
 go (Pick t17 (.bool true) t22) h fun t23 h =>
 If t23 (
 K (.pointer none) h) (
 go (Bin .int .add t12 (.int .i64 1)) h fun t24 h =>
 X1 t3 t10_1 t11_1 t24 h)) (
 K t3 h)) [t8, t10, t11, (.int .i64 0)] h
set_option maxRecDepth 100000 in
theorem bradawllaw07_Store.eq : (fun t0 K h => bradawllaw07_Store.pt t0 K h : Value → Ret → Heap → Prop) = (fun t0 K h => fnPt Try.prog [16, 17, 19, 26, 31, 32, 35, 42, 43] Try.f12 bradawllaw07_Store.ann [t0] K h) := by kernel_rfl
set_option maxRecDepth 100000 in
theorem bradawllaw07_Store.ok {t0 : Value} {K : Ret} {h : Heap} (hp : bradawllaw07_Store.pt t0 K h) : CallH Try.prog 12 #[t0] K h :=
  fn_sound (qs := [16, 17, 19, 26, 31, 32, 35, 42, 43]) (fn := Try.f12) (ann := bradawllaw07_Store.ann) (args := [t0]) follows_mixed Try.func12 ((Eq.to_iff (congrFun (congrFun (congrFun (bradawllaw07_Store.eq) t0) K) h)).mp hp)

/-! ### bradawl/bradawllaw07.Lits: function 13 -/
abbrev bradawllaw07_Lits.id : FuncId := 13
def bradawllaw07_Lits.ann : Ann := (.seq none .leaf (.seq none .leaf (.seq (some [5]) (.seq none .leaf (.block (.loop [1, 5, 9, 10, 11] (.seq none .leaf (.seq none (.cond .leaf .leaf) (.seq none (.block (.seq none .leaf (.seq none (.seq none .leaf (.cond .leaf .leaf)) (.seq none .leaf (.seq (some [1, 5, 8, 9, 10, 11]) (.seq none .leaf (.cond .leaf .leaf)) .leaf))))) .leaf)))))) (.seq none .leaf .leaf))))
set_option maxRecDepth 100000 in
def bradawllaw07_Lits.pt (t0 t1 : Value) (K : Ret) (h : Heap) : Prop :=
 Join 1 (fun J1 =>
 go (Len t0) h fun t10 h =>
 Lp 5 (fun X2 t1_1 t5 t9 t10_1 t11 h =>
 go (Bin .int .lss t11 t10_1) h fun t12 h =>
 If t12 (
 go (Idx 1 t9 t11) h fun t13 h =>
 go (Ld t13) h fun t14 h =>
 go (Bin .int .eql t1_1 (.int .i64 0)) h fun t16 h =>
 If t16 (
 J1 t5 h) (
 go (Cvt .u16 t14) h fun t18 h =>
 go (Bin .int .shr t18 (.int .u64 1)) h fun t19 h =>
 go (Cvt .i64 t19) h fun t20 h =>
 go (Bin .int .rem t20 t1_1) h fun t22 h =>
 go (Bin .int .add (.int .i64 1) t22) h fun t23 h =>
 Join 6 (fun J3 =>
 go (Bin .int .and t14 (.int .i16 1)) h fun t25 h =>
 go (Bin .int .eql t25 (.int .i16 1)) h fun t26 h =>
 If t26 (
 go (Un .neg t23) h fun t28 h =>
 J3 t1_1 t5 t28 t9 t10_1 t11 h) (
 J3 t1_1 t5 t23 t9 t10_1 t11 h)) (fun t1_2 t5_1 t8 t9_1 t10_2 t11_1 h =>
 go (BldS 3 1 1 #[(.int .i64 0)] [(0, t8)]) h fun t31 h =>
 go (App 3 1 8 #[(.int .i64 0)] t5_1 t31) h fun t32 h =>
 go (Bin .int .add t11_1 (.int .i64 1)) h fun t33 h =>
 X2 t1_2 t32 t9_1 t10_2 t33 h))) (
 J1 t5 h)) [t1, (.slice none 0 0), t0, t10, (.int .i64 0)] h) (fun t5_2 h =>
 K t5_2 h)
set_option maxRecDepth 100000 in
theorem bradawllaw07_Lits.eq : (fun t0 t1 K h => bradawllaw07_Lits.pt t0 t1 K h : Value → Value → Ret → Heap → Prop) = (fun t0 t1 K h => fnPt Try.prog [16, 17, 19, 26, 31, 32, 35, 42, 43] Try.f13 bradawllaw07_Lits.ann [t0, t1] K h) := by kernel_rfl
set_option maxRecDepth 100000 in
theorem bradawllaw07_Lits.ok {t0 t1 : Value} {K : Ret} {h : Heap} (hp : bradawllaw07_Lits.pt t0 t1 K h) : CallH Try.prog 13 #[t0, t1] K h :=
  fn_sound (qs := [16, 17, 19, 26, 31, 32, 35, 42, 43]) (fn := Try.f13) (ann := bradawllaw07_Lits.ann) (args := [t0, t1]) follows_mixed Try.func13 ((Eq.to_iff (congrFun (congrFun (congrFun (congrFun (bradawllaw07_Lits.eq) t0) t1) K) h)).mp hp)

/-! ### bradawl/bradawlref07.Follow: function 14 -/
abbrev bradawlref07_Follow.id : FuncId := 14
def bradawlref07_Follow.ann : Ann := (.seq none .leaf (.seq none .leaf (.block (.loop [0, 6] (.block (.seq none .leaf (.seq none (.seq none .leaf (.block (.loop [0, 6, 7, 8] (.seq none (.seq none .leaf (.cond .leaf .leaf)) (.seq none (.block (.seq none .leaf (.cond (.seq none .leaf .leaf) .leaf))) .leaf))))) (.seq none (.seq none .leaf (.block (.loop [0, 6, 7, 9] (.seq none (.seq none .leaf (.cond .leaf .leaf)) (.seq (some [0, 6, 7, 9]) (.block (.seq none .leaf (.seq none .leaf (.seq none (.seq none .leaf (.block (.loop [0, 6, 7, 9, 10, 11, 12] (.seq none (.seq none .leaf (.cond .leaf .leaf)) (.seq (some [0, 6, 7, 9, 10, 11, 12]) (.block (.seq none .leaf (.seq none .leaf (.cond (.seq none .leaf .leaf) .leaf)))) .leaf))))) (.seq none (.seq none .leaf (.cond (.seq none .leaf .leaf) .leaf)) (.seq none .leaf (.cond (.seq none .leaf .leaf) .leaf))))))) .leaf))))) (.seq none .leaf (.cond (.seq none .leaf .leaf) .leaf))))))))))
set_option maxRecDepth 100000 in
def bradawlref07_Follow.pt (t0 t1 : Value) (K : Ret) (h : Heap) : Prop :=
 go (App 3 1 8 #[(.int .i64 0)] (.slice none 0 0) t1) h fun t15 h =>
 Lp 2 (fun X1 t0_1 t6 h =>
 Lp 4 (fun X2 t0_2 t6_1 t7 t8 h =>
 go (Len t6_1) h fun t18 h =>
 go (Bin .int .lss t8 t18) h fun t19 h =>
 If t19 (
 go (Idx 1 t6_1 t8) h fun t25 h =>
 go (Ld t25) h fun t26 h =>
 go (Un .neg t26) h fun t27 h =>
 go (QCall Try.prog 19 [t6_1, t27]) h fun t28 h =>
 If t28 (
 K (.tuple #[(.slice none 0 0), (.bool false)]) h) (
 go (Bin .int .add t8 (.int .i64 1)) h fun t21 h =>
 X2 t0_2 t6_1 t7 t21 h)) (
 Lp 4 (fun X3 t0_3 t6_2 t7_1 t9 h =>
 go (Len t0_3) h fun t31 h =>
 go (Bin .int .lss t9 t31) h fun t32 h =>
 If t32 (
 Join 4 (fun J4 =>
 Lp 7 (fun X5 t0_4 t6_3 t7_2 t9_1 t10 t11 t12 h =>
 go (Idx 1 t0_4 t9_1) h fun t38 h =>
 go (Ld t38) h fun t39 h =>
 go (Len t39) h fun t40 h =>
 go (Bin .int .lss t12 t40) h fun t41 h =>
 If t41 (
 Join 7 (fun J6 =>
 go (Idx 1 t0_4 t9_1) h fun t46 h =>
 go (Ld t46) h fun t47 h =>
 go (Idx 1 t47 t12) h fun t49 h =>
 go (Ld t49) h fun t50 h =>
 go (Un .neg t50) h fun t53 h =>
 go (QCall Try.prog 19 [t6_3, t53]) h fun t54 h =>
 go (Un .not t54) h fun t55 h =>
 go (Gd t55 true (Mv t10)) h fun t57 h =>
 go (Gd t55 true (Bin .int .eql t57 (.int .i64 0))) h fun t58 h =>
 go (Gd t55 true (Mv t58)) h fun t59 h =>
 go (Gd t59 false (Mv t50)) h fun t60 h =>
 go (Gd t59 false (Mv t11)) h fun t61 h =>
 go (Gd t59 false (Bin .int .neq t60 t61)) h fun t62 h =>
 go (Gd t55 true (Pick t59 (.bool true) t62)) h fun t63 h =>
 go (Pick t55 t63 (.bool false)) h fun t64 h =>
 If t64 (
 go (Bin .int .add t10 (.int .i64 1)) h fun t66 h =>
 J6 t0_4 t6_3 t7_2 t9_1 t66 t50 t12 h) (
 J6 t0_4 t6_3 t7_2 t9_1 t10 t11 t12 h)) (fun t0_5 t6_4 t7_3 t9_2 t10_1 t11_1 t12_1 h =>
 go (Bin .int .add t12_1 (.int .i64 1)) h fun t43 h =>
 X5 t0_5 t6_4 t7_3 t9_2 t10_1 t11_1 t43 h)) (
 go (Bin .int .eql t10 (.int .i64 0)) h fun t69 h =>
 If t69 (
 K (.tuple #[(.slice none 0 0), (.bool false)]) h) (
 go (Bin .int .eql t10 (.int .i64 1)) h fun t71 h =>
 go (Gd t71 true (Mv t6_3)) h fun t73 h =>
 go (Gd t71 true (Mv t11)) h fun t74 h =>
 go (Gd t71 true (QCall Try.prog 19 [t73, t74])) h fun t75 h =>
 go (Gd t71 true (Un .not t75)) h fun t76 h =>
 go (Pick t71 t76 (.bool false)) h fun t77 h =>
 If t77 (
 go (BldS 3 1 1 #[(.int .i64 0)] [(0, t11)]) h fun t80 h =>
 go (App 3 1 8 #[(.int .i64 0)] t6_3 t80) h fun t81 h =>
 J4 t0_4 t81 (.bool true) t9_1 h) (
 J4 t0_4 t6_3 t7_2 t9_1 h)))) [t0_3, t6_2, t7_1, t9, (.int .i64 0), (.int .i64 0), (.int .i64 0)] h) (fun t0_6 t6_5 t7_4 t9_3 h =>
 go (Bin .int .add t9_3 (.int .i64 1)) h fun t34 h =>
 X3 t0_6 t6_5 t7_4 t34 h)) (
 go (Un .not t7_1) h fun t83 h =>
 If t83 (
 K (.tuple #[t6_2, (.bool true)]) h) (
 X1 t0_3 t6_2 h))) [t0_2, t6_1, t7, (.int .i64 0)] h)) [t0_1, t6, (.bool false), (.int .i64 0)] h) [t0, t15] h
set_option maxRecDepth 100000 in
theorem bradawlref07_Follow.eq : (fun t0 t1 K h => bradawlref07_Follow.pt t0 t1 K h : Value → Value → Ret → Heap → Prop) = (fun t0 t1 K h => fnPt Try.prog [16, 17, 19, 26, 31, 32, 35, 42, 43] Try.f14 bradawlref07_Follow.ann [t0, t1] K h) := by kernel_rfl
set_option maxRecDepth 100000 in
theorem bradawlref07_Follow.ok {t0 t1 : Value} {K : Ret} {h : Heap} (hp : bradawlref07_Follow.pt t0 t1 K h) : CallH Try.prog 14 #[t0, t1] K h :=
  fn_sound (qs := [16, 17, 19, 26, 31, 32, 35, 42, 43]) (fn := Try.f14) (ann := bradawlref07_Follow.ann) (args := [t0, t1]) follows_mixed Try.func14 ((Eq.to_iff (congrFun (congrFun (congrFun (congrFun (bradawlref07_Follow.eq) t0) t1) K) h)).mp hp)

/-! ### (*bradawl/rup.Store).Follow: function 15 -/
abbrev rup_Store_Follow.id : FuncId := 15
def rup_Store_Follow.ann : Ann := (.seq none .leaf (.seq none .leaf (.seq none (.seq none .leaf (.block (.loop [0, 6, 20, 21, 22] (.seq none .leaf (.seq none (.cond .leaf .leaf) (.seq none (.block (.seq none .leaf .leaf)) .leaf)))))) (.seq none (.block (.loop [0, 6] (.seq none (.seq none .leaf (.cond .leaf .leaf)) (.block .leaf)))) (.seq none (.seq none .leaf (.cond (.seq none .leaf .leaf) .leaf)) (.seq none .leaf (.seq none (.seq none .leaf (.block (.loop [9, 47, 48, 49] (.seq none .leaf (.seq none (.cond .leaf .leaf) (.seq (some [9, 47, 48, 49]) (.block (.seq none .leaf (.seq none .leaf (.cond .leaf .leaf)))) .leaf)))))) (.seq none .leaf .leaf))))))))
set_option maxRecDepth 100000 in
def rup_Store_Follow.pt (t0 t1 : Value) (K : Ret) (h : Heap) : Prop :=
 go (NilC t0) h fun t13 h =>
 go (Fld 0 t13) h fun t14 h =>
 go (Ld t14) h fun t15 h =>
 go (Bin .int .mul (.int .i64 2) t15) h fun t16 h =>
 go (MkS 4 1 1 #[(.bool false)] t16 t16) h fun t17 h =>
 go (Bld [(0, 1), (1, 1)] #[(.slice none 0 0), (.bool false)] [(0, t17)]) h fun t18 h =>
 go (New (Value.cells t18) 65) h fun t19 h =>
 go (Len t1) h fun t21 h =>
 Lp 5 (fun X1 t0_1 t6 t20 t21_1 t22 h =>
 go (Bin .int .lss t22 t21_1) h fun t23 h =>
 If t23 (
 go (Idx 1 t20 t22) h fun t24 h =>
 go (Ld t24) h fun t25 h =>
 go (CallF Try.prog 29 [t6, t25]) h fun t28 h =>
 go (Bin .int .add t22 (.int .i64 1)) h fun t29 h =>
 X1 t0_1 t6 t20 t21_1 t29 h) (
 Lp 2 (fun X2 t0_2 t6_1 h =>
 go (NilC t6_1) h fun t31 h =>
 go (Fld 1 t31) h fun t32 h =>
 go (Ld t32) h fun t33 h =>
 go (Un .not t33) h fun t34 h =>
 go (Gd t34 true (Mv t0_2)) h fun t36 h =>
 go (Gd t34 true (Mv t6_1)) h fun t37 h =>
 go (Gd t34 true (CallF Try.prog 30 [t36, t37])) h fun t38 h =>
 go (Pick t34 t38 (.bool false)) h fun t39 h =>
 If t39 (
 X2 t0_2 t6_1 h) (
 go (NilC t6_1) h fun t41 h =>
 go (Fld 1 t41) h fun t42 h =>
 go (Ld t42) h fun t43 h =>
 If t43 (
 K (.tuple #[(.slice none 0 0), (.bool false)]) h) (
 go (NilC t6_1) h fun t45 h =>
 go (Fld 0 t45) h fun t46 h =>
 go (Ld t46) h fun t47 h =>
 go (Len t47) h fun t48 h =>
 Lp 4 (fun X3 t9 t47_1 t48_1 t49 h =>
 go (Bin .int .lss t49 t48_1) h fun t50 h =>
 If t50 (
 Join 4 (fun J4 =>
 go (Idx 1 t47_1 t49) h fun t52 h =>
 go (Ld t52) h fun t53 h =>
 If t53 (
 go (QCall Try.prog 31 [t49]) h fun t57 h =>
 go (BldS 3 1 1 #[(.int .i64 0)] [(0, t57)]) h fun t58 h =>
 go (App 3 1 8 #[(.int .i64 0)] t9 t58) h fun t59 h =>
 J4 t59 t47_1 t48_1 t49 h) (
 J4 t9 t47_1 t48_1 t49 h)) (fun t9_1 t47_2 t48_2 t49_1 h =>
 go (Bin .int .add t49_1 (.int .i64 1)) h fun t60 h =>
 X3 t9_1 t47_2 t48_2 t60 h)) (
 K (.tuple #[t9, (.bool true)]) h)) [(.slice none 0 0), t47, t48, (.int .i64 0)] h))) [t0_1, t6] h)) [t0, t19, t1, t21, (.int .i64 0)] h
set_option maxRecDepth 100000 in
theorem rup_Store_Follow.eq : (fun t0 t1 K h => rup_Store_Follow.pt t0 t1 K h : Value → Value → Ret → Heap → Prop) = (fun t0 t1 K h => fnPt Try.prog [16, 17, 19, 26, 31, 32, 35, 42, 43] Try.f15 rup_Store_Follow.ann [t0, t1] K h) := by kernel_rfl
set_option maxRecDepth 100000 in
theorem rup_Store_Follow.ok {t0 t1 : Value} {K : Ret} {h : Heap} (hp : rup_Store_Follow.pt t0 t1 K h) : CallH Try.prog 15 #[t0, t1] K h :=
  fn_sound (qs := [16, 17, 19, 26, 31, 32, 35, 42, 43]) (fn := Try.f15) (ann := rup_Store_Follow.ann) (args := [t0, t1]) follows_mixed Try.func15 ((Eq.to_iff (congrFun (congrFun (congrFun (congrFun (rup_Store_Follow.eq) t0) t1) K) h)).mp hp)

/-! ### bradawl/bradawlref07.Same: function 16 -/
abbrev bradawlref07_Same.id : FuncId := 16
def bradawlref07_Same.ann : Ann := (.seq none .leaf (.seq none (.seq none .leaf (.block (.loop [0, 1, 5] (.seq none (.seq none .leaf (.cond .leaf .leaf)) (.seq none (.block (.seq none .leaf (.cond (.seq none .leaf .leaf) .leaf))) .leaf))))) (.seq none (.seq none .leaf (.block (.loop [0, 1, 6] (.seq none (.seq none .leaf (.cond .leaf .leaf)) (.seq none (.block (.seq none .leaf (.cond (.seq none .leaf .leaf) .leaf))) .leaf))))) (.seq none .leaf .leaf))))
set_option maxRecDepth 100000 in
def bradawlref07_Same.pt (t0 t1 : Value) (K : Ret) (h : Heap) : Prop :=
 Lp 3 (fun X1 t0_1 t1_1 t5 h =>
 go (Len t0_1) h fun t9 h =>
 go (Bin .int .lss t5 t9) h fun t10 h =>
 If t10 (
 go (Idx 1 t0_1 t5) h fun t16 h =>
 go (Ld t16) h fun t17 h =>
 go (QCall Try.prog 19 [t1_1, t17]) h fun t18 h =>
 go (Un .not t18) h fun t19 h =>
 If t19 (
 K (.bool false) h) (
 go (Bin .int .add t5 (.int .i64 1)) h fun t12 h =>
 X1 t0_1 t1_1 t12 h)) (
 Lp 3 (fun X2 t0_2 t1_2 t6 h =>
 go (Len t1_2) h fun t22 h =>
 go (Bin .int .lss t6 t22) h fun t23 h =>
 If t23 (
 go (Idx 1 t1_2 t6) h fun t29 h =>
 go (Ld t29) h fun t30 h =>
 go (QCall Try.prog 19 [t0_2, t30]) h fun t31 h =>
 go (Un .not t31) h fun t32 h =>
 If t32 (
 K (.bool false) h) (
 go (Bin .int .add t6 (.int .i64 1)) h fun t25 h =>
 X2 t0_2 t1_2 t25 h)) (
 K (.bool true) h)) [t0_1, t1_1, (.int .i64 0)] h)) [t0, t1, (.int .i64 0)] h
set_option maxRecDepth 100000 in
theorem bradawlref07_Same.eq : (fun t0 t1 K h => bradawlref07_Same.pt t0 t1 K h : Value → Value → Ret → Heap → Prop) = (fun t0 t1 K h => fnPt Try.prog [16, 17, 19, 26, 31, 32, 35, 42, 43] Try.f16 bradawlref07_Same.ann [t0, t1] K h) := by kernel_rfl
set_option maxRecDepth 100000 in
theorem bradawlref07_Same.ok {t0 t1 : Value} {K : Ret} {h : Heap} (hp : bradawlref07_Same.pt t0 t1 K h) : CallH Try.prog 16 #[t0, t1] K h :=
  fn_sound (qs := [16, 17, 19, 26, 31, 32, 35, 42, 43]) (fn := Try.f16) (ann := bradawlref07_Same.ann) (args := [t0, t1]) follows_mixed Try.func16 ((Eq.to_iff (congrFun (congrFun (congrFun (congrFun (bradawlref07_Same.eq) t0) t1) K) h)).mp hp)

/-! ### bradawl/bradawllaw07.rising: function 17 -/
abbrev bradawllaw07_rising.id : FuncId := 17
def bradawllaw07_rising.ann : Ann := (.seq none .leaf (.seq none (.seq none .leaf (.block (.loop [0, 3] (.seq none (.seq none .leaf (.cond .leaf .leaf)) (.seq none (.block (.seq none .leaf (.cond (.seq none .leaf .leaf) .leaf))) .leaf))))) (.seq none .leaf .leaf)))
set_option maxRecDepth 100000 in
def bradawllaw07_rising.pt (t0 : Value) (K : Ret) (h : Heap) : Prop :=
 Lp 2 (fun X1 t0_1 t3 h =>
 go (Len t0_1) h fun t6 h =>
 go (Bin .int .lss t3 t6) h fun t7 h =>
 If t7 (
 go (Bin .int .sub t3 (.int .i64 1)) h fun t12 h =>
 go (Idx 1 t0_1 t12) h fun t13 h =>
 go (Ld t13) h fun t14 h =>
 go (QCall Try.prog 32 [t14]) h fun t15 h =>
 go (Idx 1 t0_1 t3) h fun t18 h =>
 go (Ld t18) h fun t19 h =>
 go (QCall Try.prog 32 [t19]) h fun t20 h =>
 go (Bin .int .geq t15 t20) h fun t21 h =>
 If t21 (
 K (.bool false) h) (
 go (Bin .int .add t3 (.int .i64 1)) h fun t9 h =>
 X1 t0_1 t9 h)) (
 K (.bool true) h)) [t0, (.int .i64 1)] h
set_option maxRecDepth 100000 in
theorem bradawllaw07_rising.eq : (fun t0 K h => bradawllaw07_rising.pt t0 K h : Value → Ret → Heap → Prop) = (fun t0 K h => fnPt Try.prog [16, 17, 19, 26, 31, 32, 35, 42, 43] Try.f17 bradawllaw07_rising.ann [t0] K h) := by kernel_rfl
set_option maxRecDepth 100000 in
theorem bradawllaw07_rising.ok {t0 : Value} {K : Ret} {h : Heap} (hp : bradawllaw07_rising.pt t0 K h) : CallH Try.prog 17 #[t0] K h :=
  fn_sound (qs := [16, 17, 19, 26, 31, 32, 35, 42, 43]) (fn := Try.f17) (ann := bradawllaw07_rising.ann) (args := [t0]) follows_mixed Try.func17 ((Eq.to_iff (congrFun (congrFun (congrFun (bradawllaw07_rising.eq) t0) K) h)).mp hp)

/-! ### (*bradawl/rup.Store).Add: function 18 -/
abbrev rup_Store_Add.id : FuncId := 18
def rup_Store_Add.ann : Ann := (.seq none .leaf (.seq none (.seq none .leaf (.cond (.seq none .leaf .leaf) .leaf)) (.seq (some []) .leaf (.seq none .leaf .leaf))))
set_option maxRecDepth 100000 in
def rup_Store_Add.pt (t0 t1 : Value) (K : Ret) (h : Heap) : Prop :=
 go (New (Value.cells t0) 32) h fun t2 h =>
 go (CallF Try.prog 33 [t1, (.func (.func 34) #[] #[t2])]) h fun t7 h =>
 If t7 (
 K (.bool false) h) (
 Join 0 (fun J1 =>
 (go (Ld t2) h fun t8 h =>
 (go (Ld t2) h fun t9 h =>
 go (NilC t9) h fun t10 h =>
 go (Fld 1 t10) h fun t11 h =>
 (go (Ld t11) h fun t12 h =>
 go (CallF Try.prog 36 [t1]) h fun t14 h =>
 go (BldS 34 1 1 #[(.slice none 0 0)] [(0, t14)]) h fun t15 h =>
 go (App 34 1 24 #[(.slice none 0 0)] t12 t15) h fun t16 h =>
 go (NilC t8) h fun t17 h =>
 go (Fld 1 t17) h fun t18 h =>
 go (St t18 t16) h fun _ h =>
 J1 h) ∧
 (go (CallF Try.prog 36 [t1]) h fun t14_1 h =>
 (go (Ld t11) h fun t12_1 h =>
 go (BldS 34 1 1 #[(.slice none 0 0)] [(0, t14_1)]) h fun t15_1 h =>
 go (App 34 1 24 #[(.slice none 0 0)] t12_1 t15_1) h fun t16_1 h =>
 go (NilC t8) h fun t17_1 h =>
 go (Fld 1 t17_1) h fun t18_1 h =>
 go (St t18_1 t16_1) h fun _ h =>
 J1 h) ∧
 (go (BldS 34 1 1 #[(.slice none 0 0)] [(0, t14_1)]) h fun t15_2 h =>
 go (Ld t11) h fun t12_2 h =>
 go (App 34 1 24 #[(.slice none 0 0)] t12_2 t15_2) h fun t16_2 h =>
 go (NilC t8) h fun t17_2 h =>
 go (Fld 1 t17_2) h fun t18_2 h =>
 go (St t18_2 t16_2) h fun _ h =>
 J1 h))) ∧
 (go (CallF Try.prog 36 [t1]) h fun t14_2 h =>
 (go (Ld t2) h fun t9_1 h =>
 go (NilC t9_1) h fun t10_1 h =>
 go (Fld 1 t10_1) h fun t11_1 h =>
 (go (Ld t11_1) h fun t12_3 h =>
 go (BldS 34 1 1 #[(.slice none 0 0)] [(0, t14_2)]) h fun t15_3 h =>
 go (App 34 1 24 #[(.slice none 0 0)] t12_3 t15_3) h fun t16_3 h =>
 go (NilC t8) h fun t17_3 h =>
 go (Fld 1 t17_3) h fun t18_3 h =>
 go (St t18_3 t16_3) h fun _ h =>
 J1 h) ∧
 (go (BldS 34 1 1 #[(.slice none 0 0)] [(0, t14_2)]) h fun t15_4 h =>
 go (Ld t11_1) h fun t12_4 h =>
 go (App 34 1 24 #[(.slice none 0 0)] t12_4 t15_4) h fun t16_4 h =>
 go (NilC t8) h fun t17_4 h =>
 go (Fld 1 t17_4) h fun t18_4 h =>
 go (St t18_4 t16_4) h fun _ h =>
 J1 h)) ∧
 (go (BldS 34 1 1 #[(.slice none 0 0)] [(0, t14_2)]) h fun t15_5 h =>
 go (Ld t2) h fun t9_2 h =>
 go (NilC t9_2) h fun t10_2 h =>
 go (Fld 1 t10_2) h fun t11_2 h =>
 go (Ld t11_2) h fun t12_5 h =>
 go (App 34 1 24 #[(.slice none 0 0)] t12_5 t15_5) h fun t16_5 h =>
 go (NilC t8) h fun t17_5 h =>
 go (Fld 1 t17_5) h fun t18_5 h =>
 go (St t18_5 t16_5) h fun _ h =>
 J1 h))) ∧
 (go (Ld t2) h fun t9_3 h =>
 go (NilC t9_3) h fun t10_3 h =>
 go (Fld 1 t10_3) h fun t11_3 h =>
 (go (Ld t2) h fun t8_1 h =>
 (go (Ld t11_3) h fun t12_6 h =>
 go (CallF Try.prog 36 [t1]) h fun t14_3 h =>
 go (BldS 34 1 1 #[(.slice none 0 0)] [(0, t14_3)]) h fun t15_6 h =>
 go (App 34 1 24 #[(.slice none 0 0)] t12_6 t15_6) h fun t16_6 h =>
 go (NilC t8_1) h fun t17_6 h =>
 go (Fld 1 t17_6) h fun t18_6 h =>
 go (St t18_6 t16_6) h fun _ h =>
 J1 h) ∧
 (go (CallF Try.prog 36 [t1]) h fun t14_4 h =>
 (go (Ld t11_3) h fun t12_7 h =>
 go (BldS 34 1 1 #[(.slice none 0 0)] [(0, t14_4)]) h fun t15_7 h =>
 go (App 34 1 24 #[(.slice none 0 0)] t12_7 t15_7) h fun t16_7 h =>
 go (NilC t8_1) h fun t17_7 h =>
 go (Fld 1 t17_7) h fun t18_7 h =>
 go (St t18_7 t16_7) h fun _ h =>
 J1 h) ∧
 (go (BldS 34 1 1 #[(.slice none 0 0)] [(0, t14_4)]) h fun t15_8 h =>
 go (Ld t11_3) h fun t12_8 h =>
 go (App 34 1 24 #[(.slice none 0 0)] t12_8 t15_8) h fun t16_8 h =>
 go (NilC t8_1) h fun t17_8 h =>
 go (Fld 1 t17_8) h fun t18_8 h =>
 go (St t18_8 t16_8) h fun _ h =>
 J1 h))) ∧
 (go (Ld t11_3) h fun t12_9 h =>
 (go (Ld t2) h fun t8_2 h =>
 go (CallF Try.prog 36 [t1]) h fun t14_5 h =>
 go (BldS 34 1 1 #[(.slice none 0 0)] [(0, t14_5)]) h fun t15_9 h =>
 go (App 34 1 24 #[(.slice none 0 0)] t12_9 t15_9) h fun t16_9 h =>
 go (NilC t8_2) h fun t17_9 h =>
 go (Fld 1 t17_9) h fun t18_9 h =>
 go (St t18_9 t16_9) h fun _ h =>
 J1 h) ∧
 (go (CallF Try.prog 36 [t1]) h fun t14_6 h =>
 (go (Ld t2) h fun t8_3 h =>
 go (BldS 34 1 1 #[(.slice none 0 0)] [(0, t14_6)]) h fun t15_10 h =>
 go (App 34 1 24 #[(.slice none 0 0)] t12_9 t15_10) h fun t16_10 h =>
 go (NilC t8_3) h fun t17_10 h =>
 go (Fld 1 t17_10) h fun t18_10 h =>
 go (St t18_10 t16_10) h fun _ h =>
 J1 h) ∧
 (go (BldS 34 1 1 #[(.slice none 0 0)] [(0, t14_6)]) h fun t15_11 h =>
 (go (Ld t2) h fun t8_4 h =>
 go (App 34 1 24 #[(.slice none 0 0)] t12_9 t15_11) h fun t16_11 h =>
 go (NilC t8_4) h fun t17_11 h =>
 go (Fld 1 t17_11) h fun t18_11 h =>
 go (St t18_11 t16_11) h fun _ h =>
 J1 h) ∧
 (go (App 34 1 24 #[(.slice none 0 0)] t12_9 t15_11) h fun t16_12 h =>
 go (Ld t2) h fun t8_5 h =>
 go (NilC t8_5) h fun t17_12 h =>
 go (Fld 1 t17_12) h fun t18_12 h =>
 go (St t18_12 t16_12) h fun _ h =>
 J1 h)))) ∧
 (go (CallF Try.prog 36 [t1]) h fun t14_7 h =>
 (go (Ld t2) h fun t8_6 h =>
 (go (Ld t11_3) h fun t12_10 h =>
 go (BldS 34 1 1 #[(.slice none 0 0)] [(0, t14_7)]) h fun t15_12 h =>
 go (App 34 1 24 #[(.slice none 0 0)] t12_10 t15_12) h fun t16_13 h =>
 go (NilC t8_6) h fun t17_13 h =>
 go (Fld 1 t17_13) h fun t18_13 h =>
 go (St t18_13 t16_13) h fun _ h =>
 J1 h) ∧
 (go (BldS 34 1 1 #[(.slice none 0 0)] [(0, t14_7)]) h fun t15_13 h =>
 go (Ld t11_3) h fun t12_11 h =>
 go (App 34 1 24 #[(.slice none 0 0)] t12_11 t15_13) h fun t16_14 h =>
 go (NilC t8_6) h fun t17_14 h =>
 go (Fld 1 t17_14) h fun t18_14 h =>
 go (St t18_14 t16_14) h fun _ h =>
 J1 h)) ∧
 (go (Ld t11_3) h fun t12_12 h =>
 (go (Ld t2) h fun t8_7 h =>
 go (BldS 34 1 1 #[(.slice none 0 0)] [(0, t14_7)]) h fun t15_14 h =>
 go (App 34 1 24 #[(.slice none 0 0)] t12_12 t15_14) h fun t16_15 h =>
 go (NilC t8_7) h fun t17_15 h =>
 go (Fld 1 t17_15) h fun t18_15 h =>
 go (St t18_15 t16_15) h fun _ h =>
 J1 h) ∧
 (go (BldS 34 1 1 #[(.slice none 0 0)] [(0, t14_7)]) h fun t15_15 h =>
 (go (Ld t2) h fun t8_8 h =>
 go (App 34 1 24 #[(.slice none 0 0)] t12_12 t15_15) h fun t16_16 h =>
 go (NilC t8_8) h fun t17_16 h =>
 go (Fld 1 t17_16) h fun t18_16 h =>
 go (St t18_16 t16_16) h fun _ h =>
 J1 h) ∧
 (go (App 34 1 24 #[(.slice none 0 0)] t12_12 t15_15) h fun t16_17 h =>
 go (Ld t2) h fun t8_9 h =>
 go (NilC t8_9) h fun t17_17 h =>
 go (Fld 1 t17_17) h fun t18_17 h =>
 go (St t18_17 t16_17) h fun _ h =>
 J1 h))) ∧
 (go (BldS 34 1 1 #[(.slice none 0 0)] [(0, t14_7)]) h fun t15_16 h =>
 go (Ld t11_3) h fun t12_13 h =>
 (go (Ld t2) h fun t8_10 h =>
 go (App 34 1 24 #[(.slice none 0 0)] t12_13 t15_16) h fun t16_18 h =>
 go (NilC t8_10) h fun t17_18 h =>
 go (Fld 1 t17_18) h fun t18_18 h =>
 go (St t18_18 t16_18) h fun _ h =>
 J1 h) ∧
 (go (App 34 1 24 #[(.slice none 0 0)] t12_13 t15_16) h fun t16_19 h =>
 go (Ld t2) h fun t8_11 h =>
 go (NilC t8_11) h fun t17_19 h =>
 go (Fld 1 t17_19) h fun t18_19 h =>
 go (St t18_19 t16_19) h fun _ h =>
 J1 h)))) ∧
 (go (CallF Try.prog 36 [t1]) h fun t14_8 h =>
 (go (Ld t2) h fun t8_12 h =>
 (go (Ld t2) h fun t9_4 h =>
 go (NilC t9_4) h fun t10_4 h =>
 go (Fld 1 t10_4) h fun t11_4 h =>
 (go (Ld t11_4) h fun t12_14 h =>
 go (BldS 34 1 1 #[(.slice none 0 0)] [(0, t14_8)]) h fun t15_17 h =>
 go (App 34 1 24 #[(.slice none 0 0)] t12_14 t15_17) h fun t16_20 h =>
 go (NilC t8_12) h fun t17_20 h =>
 go (Fld 1 t17_20) h fun t18_20 h =>
 go (St t18_20 t16_20) h fun _ h =>
 J1 h) ∧
 (go (BldS 34 1 1 #[(.slice none 0 0)] [(0, t14_8)]) h fun t15_18 h =>
 go (Ld t11_4) h fun t12_15 h =>
 go (App 34 1 24 #[(.slice none 0 0)] t12_15 t15_18) h fun t16_21 h =>
 go (NilC t8_12) h fun t17_21 h =>
 go (Fld 1 t17_21) h fun t18_21 h =>
 go (St t18_21 t16_21) h fun _ h =>
 J1 h)) ∧
 (go (BldS 34 1 1 #[(.slice none 0 0)] [(0, t14_8)]) h fun t15_19 h =>
 go (Ld t2) h fun t9_5 h =>
 go (NilC t9_5) h fun t10_5 h =>
 go (Fld 1 t10_5) h fun t11_5 h =>
 go (Ld t11_5) h fun t12_16 h =>
 go (App 34 1 24 #[(.slice none 0 0)] t12_16 t15_19) h fun t16_22 h =>
 go (NilC t8_12) h fun t17_22 h =>
 go (Fld 1 t17_22) h fun t18_22 h =>
 go (St t18_22 t16_22) h fun _ h =>
 J1 h)) ∧
 (go (Ld t2) h fun t9_6 h =>
 go (NilC t9_6) h fun t10_6 h =>
 go (Fld 1 t10_6) h fun t11_6 h =>
 (go (Ld t2) h fun t8_13 h =>
 (go (Ld t11_6) h fun t12_17 h =>
 go (BldS 34 1 1 #[(.slice none 0 0)] [(0, t14_8)]) h fun t15_20 h =>
 go (App 34 1 24 #[(.slice none 0 0)] t12_17 t15_20) h fun t16_23 h =>
 go (NilC t8_13) h fun t17_23 h =>
 go (Fld 1 t17_23) h fun t18_23 h =>
 go (St t18_23 t16_23) h fun _ h =>
 J1 h) ∧
 (go (BldS 34 1 1 #[(.slice none 0 0)] [(0, t14_8)]) h fun t15_21 h =>
 go (Ld t11_6) h fun t12_18 h =>
 go (App 34 1 24 #[(.slice none 0 0)] t12_18 t15_21) h fun t16_24 h =>
 go (NilC t8_13) h fun t17_24 h =>
 go (Fld 1 t17_24) h fun t18_24 h =>
 go (St t18_24 t16_24) h fun _ h =>
 J1 h)) ∧
 (go (Ld t11_6) h fun t12_19 h =>
 (go (Ld t2) h fun t8_14 h =>
 go (BldS 34 1 1 #[(.slice none 0 0)] [(0, t14_8)]) h fun t15_22 h =>
 go (App 34 1 24 #[(.slice none 0 0)] t12_19 t15_22) h fun t16_25 h =>
 go (NilC t8_14) h fun t17_25 h =>
 go (Fld 1 t17_25) h fun t18_25 h =>
 go (St t18_25 t16_25) h fun _ h =>
 J1 h) ∧
 (go (BldS 34 1 1 #[(.slice none 0 0)] [(0, t14_8)]) h fun t15_23 h =>
 (go (Ld t2) h fun t8_15 h =>
 go (App 34 1 24 #[(.slice none 0 0)] t12_19 t15_23) h fun t16_26 h =>
 go (NilC t8_15) h fun t17_26 h =>
 go (Fld 1 t17_26) h fun t18_26 h =>
 go (St t18_26 t16_26) h fun _ h =>
 J1 h) ∧
 (go (App 34 1 24 #[(.slice none 0 0)] t12_19 t15_23) h fun t16_27 h =>
 go (Ld t2) h fun t8_16 h =>
 go (NilC t8_16) h fun t17_27 h =>
 go (Fld 1 t17_27) h fun t18_27 h =>
 go (St t18_27 t16_27) h fun _ h =>
 J1 h))) ∧
 (go (BldS 34 1 1 #[(.slice none 0 0)] [(0, t14_8)]) h fun t15_24 h =>
 go (Ld t11_6) h fun t12_20 h =>
 (go (Ld t2) h fun t8_17 h =>
 go (App 34 1 24 #[(.slice none 0 0)] t12_20 t15_24) h fun t16_28 h =>
 go (NilC t8_17) h fun t17_28 h =>
 go (Fld 1 t17_28) h fun t18_28 h =>
 go (St t18_28 t16_28) h fun _ h =>
 J1 h) ∧
 (go (App 34 1 24 #[(.slice none 0 0)] t12_20 t15_24) h fun t16_29 h =>
 go (Ld t2) h fun t8_18 h =>
 go (NilC t8_18) h fun t17_29 h =>
 go (Fld 1 t17_29) h fun t18_29 h =>
 go (St t18_29 t16_29) h fun _ h =>
 J1 h))) ∧
 (go (BldS 34 1 1 #[(.slice none 0 0)] [(0, t14_8)]) h fun t15_25 h =>
 go (Ld t2) h fun t9_7 h =>
 go (NilC t9_7) h fun t10_7 h =>
 go (Fld 1 t10_7) h fun t11_7 h =>
 go (Ld t11_7) h fun t12_21 h =>
 (go (Ld t2) h fun t8_19 h =>
 go (App 34 1 24 #[(.slice none 0 0)] t12_21 t15_25) h fun t16_30 h =>
 go (NilC t8_19) h fun t17_30 h =>
 go (Fld 1 t17_30) h fun t18_30 h =>
 go (St t18_30 t16_30) h fun _ h =>
 J1 h) ∧
 (go (App 34 1 24 #[(.slice none 0 0)] t12_21 t15_25) h fun t16_31 h =>
 go (Ld t2) h fun t8_20 h =>
 go (NilC t8_20) h fun t17_31 h =>
 go (Fld 1 t17_31) h fun t18_31 h =>
 go (St t18_31 t16_31) h fun _ h =>
 J1 h)))) (fun  h =>
 K (.bool true) h))
set_option maxRecDepth 100000 in
theorem rup_Store_Add.eq : (fun t0 t1 K h => rup_Store_Add.pt t0 t1 K h : Value → Value → Ret → Heap → Prop) = (fun t0 t1 K h => fnPt Try.prog [16, 17, 19, 26, 31, 32, 35, 42, 43] Try.f18 rup_Store_Add.ann [t0, t1] K h) := by kernel_rfl
set_option maxRecDepth 100000 in
theorem rup_Store_Add.ok {t0 t1 : Value} {K : Ret} {h : Heap} (hp : rup_Store_Add.pt t0 t1 K h) : CallH Try.prog 18 #[t0, t1] K h :=
  fn_sound (qs := [16, 17, 19, 26, 31, 32, 35, 42, 43]) (fn := Try.f18) (ann := rup_Store_Add.ann) (args := [t0, t1]) follows_mixed Try.func18 ((Eq.to_iff (congrFun (congrFun (congrFun (congrFun (rup_Store_Add.eq) t0) t1) K) h)).mp hp)

/-! ### bradawl/bradawlref07.In: function 19 -/
abbrev bradawlref07_In.id : FuncId := 19
def bradawlref07_In.ann : Ann := (.seq none .leaf (.seq none (.seq none .leaf (.block (.loop [0, 1, 5] (.seq none (.seq none .leaf (.cond .leaf .leaf)) (.seq none (.block (.seq none .leaf (.cond (.seq none .leaf .leaf) .leaf))) .leaf))))) (.seq none .leaf .leaf)))
set_option maxRecDepth 100000 in
def bradawlref07_In.pt (t0 t1 : Value) (K : Ret) (h : Heap) : Prop :=
 Lp 3 (fun X1 t0_1 t1_1 t5 h =>
 go (Len t0_1) h fun t8 h =>
 go (Bin .int .lss t5 t8) h fun t9 h =>
 If t9 (
 go (Idx 1 t0_1 t5) h fun t14 h =>
 go (Ld t14) h fun t15 h =>
 go (Bin .int .eql t15 t1_1) h fun t17 h =>
 If t17 (
 K (.bool true) h) (
 go (Bin .int .add t5 (.int .i64 1)) h fun t11 h =>
 X1 t0_1 t1_1 t11 h)) (
 K (.bool false) h)) [t0, t1, (.int .i64 0)] h
set_option maxRecDepth 100000 in
theorem bradawlref07_In.eq : (fun t0 t1 K h => bradawlref07_In.pt t0 t1 K h : Value → Value → Ret → Heap → Prop) = (fun t0 t1 K h => fnPt Try.prog [16, 17, 19, 26, 31, 32, 35, 42, 43] Try.f19 bradawlref07_In.ann [t0, t1] K h) := by kernel_rfl
set_option maxRecDepth 100000 in
theorem bradawlref07_In.ok {t0 t1 : Value} {K : Ret} {h : Heap} (hp : bradawlref07_In.pt t0 t1 K h) : CallH Try.prog 19 #[t0, t1] K h :=
  fn_sound (qs := [16, 17, 19, 26, 31, 32, 35, 42, 43]) (fn := Try.f19) (ann := bradawlref07_In.ann) (args := [t0, t1]) follows_mixed Try.func19 ((Eq.to_iff (congrFun (congrFun (congrFun (congrFun (bradawlref07_In.eq) t0) t1) K) h)).mp hp)

/-! ### (*bradawl/rup.Store).Implied: function 20 -/
abbrev rup_Store_Implied.id : FuncId := 20
def rup_Store_Implied.ann : Ann := (.seq none .leaf (.seq none .leaf (.seq none (.seq none .leaf (.block (.loop [0, 5, 10, 11, 12] (.seq none .leaf (.seq none (.cond .leaf .leaf) (.seq none (.block (.seq none .leaf .leaf)) .leaf)))))) (.seq none .leaf (.seq none .leaf .leaf)))))
set_option maxRecDepth 100000 in
def rup_Store_Implied.pt (t0 t1 : Value) (K : Ret) (h : Heap) : Prop :=
 go (Len t1) h fun t11 h =>
 Lp 5 (fun X1 t0_1 t5 t10 t11_1 t12 h =>
 go (Bin .int .lss t12 t11_1) h fun t13 h =>
 If t13 (
 go (Idx 1 t10 t12) h fun t14 h =>
 go (Ld t14) h fun t15 h =>
 go (Un .neg t15) h fun t18 h =>
 go (BldS 3 1 1 #[(.int .i64 0)] [(0, t18)]) h fun t19 h =>
 go (App 3 1 8 #[(.int .i64 0)] t5 t19) h fun t20 h =>
 go (Bin .int .add t12 (.int .i64 1)) h fun t21 h =>
 X1 t0_1 t20 t10 t11_1 t21 h) (
 go (CallF Try.prog 15 [t0_1, t5]) h fun t25 h =>
 go (Ext 0 t25) h fun t26 h =>
 go (Ext 1 t25) h fun t27 h =>
 go (Un .not t27) h fun t29 h =>
 K t29 h)) [t0, (.slice none 0 0), t1, t11, (.int .i64 0)] h
set_option maxRecDepth 100000 in
theorem rup_Store_Implied.eq : (fun t0 t1 K h => rup_Store_Implied.pt t0 t1 K h : Value → Value → Ret → Heap → Prop) = (fun t0 t1 K h => fnPt Try.prog [16, 17, 19, 26, 31, 32, 35, 42, 43] Try.f20 rup_Store_Implied.ann [t0, t1] K h) := by kernel_rfl
set_option maxRecDepth 100000 in
theorem rup_Store_Implied.ok {t0 t1 : Value} {K : Ret} {h : Heap} (hp : rup_Store_Implied.pt t0 t1 K h) : CallH Try.prog 20 #[t0, t1] K h :=
  fn_sound (qs := [16, 17, 19, 26, 31, 32, 35, 42, 43]) (fn := Try.f20) (ann := rup_Store_Implied.ann) (args := [t0, t1]) follows_mixed Try.func20 ((Eq.to_iff (congrFun (congrFun (congrFun (congrFun (rup_Store_Implied.eq) t0) t1) K) h)).mp hp)

/-! ### bradawl/bradawlref07.Implied: function 21 -/
abbrev bradawlref07_Implied.id : FuncId := 21
def bradawlref07_Implied.ann : Ann := (.seq none .leaf (.seq none .leaf (.seq none (.seq none .leaf (.block (.loop [0, 1, 5, 6] (.seq none (.seq none .leaf (.cond .leaf .leaf)) (.seq none (.block .leaf) .leaf))))) (.seq none .leaf (.seq none .leaf .leaf)))))
set_option maxRecDepth 100000 in
def bradawlref07_Implied.pt (t0 t1 : Value) (K : Ret) (h : Heap) : Prop :=
 Lp 4 (fun X1 t0_1 t1_1 t5 t6 h =>
 go (Len t1_1) h fun t11 h =>
 go (Bin .int .lss t6 t11) h fun t12 h =>
 If t12 (
 go (Idx 1 t1_1 t6) h fun t18 h =>
 go (Ld t18) h fun t19 h =>
 go (Un .neg t19) h fun t20 h =>
 go (BldS 3 1 1 #[(.int .i64 0)] [(0, t20)]) h fun t21 h =>
 go (App 3 1 8 #[(.int .i64 0)] t5 t21) h fun t22 h =>
 go (Bin .int .add t6 (.int .i64 1)) h fun t14 h =>
 X1 t0_1 t1_1 t22 t14 h) (
 go (CallF Try.prog 14 [t0_1, t5]) h fun t26 h =>
 go (Ext 0 t26) h fun t27 h =>
 go (Ext 1 t26) h fun t28 h =>
 go (Un .not t28) h fun t30 h =>
 K t30 h)) [t0, t1, (.slice none 0 0), (.int .i64 0)] h
set_option maxRecDepth 100000 in
theorem bradawlref07_Implied.eq : (fun t0 t1 K h => bradawlref07_Implied.pt t0 t1 K h : Value → Value → Ret → Heap → Prop) = (fun t0 t1 K h => fnPt Try.prog [16, 17, 19, 26, 31, 32, 35, 42, 43] Try.f21 bradawlref07_Implied.ann [t0, t1] K h) := by kernel_rfl
set_option maxRecDepth 100000 in
theorem bradawlref07_Implied.ok {t0 t1 : Value} {K : Ret} {h : Heap} (hp : bradawlref07_Implied.pt t0 t1 K h) : CallH Try.prog 21 #[t0, t1] K h :=
  fn_sound (qs := [16, 17, 19, 26, 31, 32, 35, 42, 43]) (fn := Try.f21) (ann := bradawlref07_Implied.ann) (args := [t0, t1]) follows_mixed Try.func21 ((Eq.to_iff (congrFun (congrFun (congrFun (congrFun (bradawlref07_Implied.eq) t0) t1) K) h)).mp hp)

/-! ### bradawl/bradawllaw02.Holds: function 22 -/
abbrev bradawllaw02_Holds.id : FuncId := 22
def bradawllaw02_Holds.ann : Ann := (.seq none .leaf (.seq none (.seq none .leaf (.block (.loop [1, 11, 12, 13] (.seq none .leaf (.seq none (.cond .leaf .leaf) (.seq none (.block (.seq none .leaf (.seq none .leaf (.seq none (.seq none .leaf (.block (.loop [1, 7, 11, 12, 13, 17, 18, 19] (.seq none .leaf (.seq none (.cond .leaf .leaf) (.seq none (.block (.seq none .leaf .leaf)) .leaf)))))) (.seq none .leaf (.cond (.seq none .leaf .leaf) .leaf)))))) .leaf)))))) (.seq none .leaf .leaf)))
set_option maxRecDepth 100000 in
def bradawllaw02_Holds.pt (t0 t1 : Value) (K : Ret) (h : Heap) : Prop :=
 go (New (Value.cells t0) 30) h fun t2 h =>
 go (Fld 1 t2) h fun t10 h =>
 go (Ld t10) h fun t11 h =>
 go (Len t11) h fun t12 h =>
 Lp 4 (fun X1 t1_1 t11_1 t12_1 t13 h =>
 go (Bin .int .lss t13 t12_1) h fun t14 h =>
 If t14 (
 go (Idx 1 t11_1 t13) h fun t15 h =>
 go (Ld t15) h fun t16 h =>
 go (Len t16) h fun t18 h =>
 Lp 8 (fun X2 t1_2 t7 t11_2 t12_2 t13_1 t17 t18_1 t19 h =>
 go (Bin .int .lss t19 t18_1) h fun t20 h =>
 If t20 (
 go (Idx 1 t17 t19) h fun t21 h =>
 go (Ld t21) h fun t22 h =>
 go (Gd t7 false (Mv t22)) h fun t25 h =>
 go (Gd t7 false (Bin .int .gtr t25 (.int .i64 0))) h fun t26 h =>
 go (Gd t7 false (Mv t26)) h fun t27 h =>
 go (Gd t27 true (Mv t1_2)) h fun t28 h =>
 go (Gd t27 true (Mv t22)) h fun t29 h =>
 go (Gd t27 true (Bin .int .sub t29 (.int .i64 1))) h fun t30 h =>
 go (Gd t27 true (Idx 1 t28 t30)) h fun t31 h =>
 go (Gd t27 true (Ld t31)) h fun t32 h =>
 go (Gd t7 false (Pick t27 t32 (.bool false))) h fun t33 h =>
 go (Pick t7 (.bool true) t33) h fun t34 h =>
 go (Gd t34 false (Mv t22)) h fun t36 h =>
 go (Gd t34 false (Bin .int .lss t36 (.int .i64 0))) h fun t37 h =>
 go (Gd t34 false (Mv t37)) h fun t38 h =>
 go (Gd t38 true (Mv t1_2)) h fun t39 h =>
 go (Gd t38 true (Mv t22)) h fun t40 h =>
 go (Gd t38 true (Un .neg t40)) h fun t41 h =>
 go (Gd t38 true (Bin .int .sub t41 (.int .i64 1))) h fun t42 h =>
 go (Gd t38 true (Idx 1 t39 t42)) h fun t43 h =>
 go (Gd t38 true (Ld t43)) h fun t44 h =>
 go (Gd t38 true (Un .not t44)) h fun t45 h =>
 go (Gd t34 false (Pick t38 t45 (.bool false))) h fun t46 h =>
 go (Pick t34 (.bool true) t46) h fun t47 h =>
 go (Bin .int .add t19 (.int .i64 1)) h fun t48 h =>
 X2 t1_2 t47 t11_2 t12_2 t13_1 t17 t18_1 t48 h) (
 go (Un .not t7) h fun t50 h =>
 If t50 (
 K (.bool false) h) (
 go (Bin .int .add t13_1 (.int .i64 1)) h fun t51 h =>
 X1 t1_2 t11_2 t12_2 t51 h))) [t1_1, (.bool false), t11_1, t12_1, t13, t16, t18, (.int .i64 0)] h) (
 K (.bool true) h)) [t1, t11, t12, (.int .i64 0)] h
set_option maxRecDepth 100000 in
theorem bradawllaw02_Holds.eq : (fun t0 t1 K h => bradawllaw02_Holds.pt t0 t1 K h : Value → Value → Ret → Heap → Prop) = (fun t0 t1 K h => fnPt Try.prog [16, 17, 19, 26, 31, 32, 35, 42, 43] Try.f22 bradawllaw02_Holds.ann [t0, t1] K h) := by kernel_rfl
set_option maxRecDepth 100000 in
theorem bradawllaw02_Holds.ok {t0 t1 : Value} {K : Ret} {h : Heap} (hp : bradawllaw02_Holds.pt t0 t1 K h) : CallH Try.prog 22 #[t0, t1] K h :=
  fn_sound (qs := [16, 17, 19, 26, 31, 32, 35, 42, 43]) (fn := Try.f22) (ann := bradawllaw02_Holds.ann) (args := [t0, t1]) follows_mixed Try.func22 ((Eq.to_iff (congrFun (congrFun (congrFun (congrFun (bradawllaw02_Holds.eq) t0) t1) K) h)).mp hp)

/-! ### (*bradawl/rup.Store).Has: function 23 -/
abbrev rup_Store_Has.id : FuncId := 23
def rup_Store_Has.ann : Ann := (.seq none .leaf (.seq none .leaf .leaf))
set_option maxRecDepth 100000 in
def rup_Store_Has.pt (t0 t1 : Value) (K : Ret) (h : Heap) : Prop :=
 go (CallF Try.prog 37 [t0, t1]) h fun t7 h =>
 go (Bin .int .geq t7 (.int .i64 0)) h fun t8 h =>
 K t8 h
set_option maxRecDepth 100000 in
theorem rup_Store_Has.eq : (fun t0 t1 K h => rup_Store_Has.pt t0 t1 K h : Value → Value → Ret → Heap → Prop) = (fun t0 t1 K h => fnPt Try.prog [16, 17, 19, 26, 31, 32, 35, 42, 43] Try.f23 rup_Store_Has.ann [t0, t1] K h) := by kernel_rfl
set_option maxRecDepth 100000 in
theorem rup_Store_Has.ok {t0 t1 : Value} {K : Ret} {h : Heap} (hp : rup_Store_Has.pt t0 t1 K h) : CallH Try.prog 23 #[t0, t1] K h :=
  fn_sound (qs := [16, 17, 19, 26, 31, 32, 35, 42, 43]) (fn := Try.f23) (ann := rup_Store_Has.ann) (args := [t0, t1]) follows_mixed Try.func23 ((Eq.to_iff (congrFun (congrFun (congrFun (congrFun (rup_Store_Has.eq) t0) t1) K) h)).mp hp)

/-! ### (*bradawl/rup.Store).Remove: function 25 -/
abbrev rup_Store_Remove.id : FuncId := 25
def rup_Store_Remove.ann : Ann := (.seq none .leaf (.seq none .leaf (.seq none (.seq none .leaf (.cond (.seq none .leaf .leaf) .leaf)) (.seq none .leaf (.seq none .leaf .leaf)))))
set_option maxRecDepth 100000 in
def rup_Store_Remove.pt (t0 t1 : Value) (K : Ret) (h : Heap) : Prop :=
 go (CallF Try.prog 37 [t0, t1]) h fun t8 h =>
 go (Bin .int .lss t8 (.int .i64 0)) h fun t10 h =>
 If t10 (
 K (.bool false) h) (
 go (NilC t0) h fun t13 h =>
 go (Fld 1 t13) h fun t14 h =>
 go (Ld t14) h fun t15 h =>
 go (Bin .int .add t8 (.int .i64 1)) h fun t18 h =>
 go (CallF Try.prog 38 [t15, t8, t18]) h fun t19 h =>
 go (NilC t0) h fun t20 h =>
 go (Fld 1 t20) h fun t21 h =>
 go (St t21 t19) h fun _ h =>
 K (.bool true) h)
set_option maxRecDepth 100000 in
theorem rup_Store_Remove.eq : (fun t0 t1 K h => rup_Store_Remove.pt t0 t1 K h : Value → Value → Ret → Heap → Prop) = (fun t0 t1 K h => fnPt Try.prog [16, 17, 19, 26, 31, 32, 35, 42, 43] Try.f25 rup_Store_Remove.ann [t0, t1] K h) := by kernel_rfl
set_option maxRecDepth 100000 in
theorem rup_Store_Remove.ok {t0 t1 : Value} {K : Ret} {h : Heap} (hp : rup_Store_Remove.pt t0 t1 K h) : CallH Try.prog 25 #[t0, t1] K h :=
  fn_sound (qs := [16, 17, 19, 26, 31, 32, 35, 42, 43]) (fn := Try.f25) (ann := rup_Store_Remove.ann) (args := [t0, t1]) follows_mixed Try.func25 ((Eq.to_iff (congrFun (congrFun (congrFun (congrFun (rup_Store_Remove.eq) t0) t1) K) h)).mp hp)

/-! ### (*bradawl/rup.Store).Len: function 26 -/
abbrev rup_Store_Len.id : FuncId := 26
def rup_Store_Len.ann : Ann := (.seq none .leaf (.seq none .leaf .leaf))
set_option maxRecDepth 100000 in
def rup_Store_Len.pt (t0 : Value) (K : Ret) (h : Heap) : Prop :=
 go (NilC t0) h fun t4 h =>
 go (Fld 1 t4) h fun t5 h =>
 go (Ld t5) h fun t6 h =>
 go (Len t6) h fun t7 h =>
 K t7 h
set_option maxRecDepth 100000 in
theorem rup_Store_Len.eq : (fun t0 K h => rup_Store_Len.pt t0 K h : Value → Ret → Heap → Prop) = (fun t0 K h => fnPt Try.prog [16, 17, 19, 26, 31, 32, 35, 42, 43] Try.f26 rup_Store_Len.ann [t0] K h) := by kernel_rfl
set_option maxRecDepth 100000 in
theorem rup_Store_Len.ok {t0 : Value} {K : Ret} {h : Heap} (hp : rup_Store_Len.pt t0 K h) : CallH Try.prog 26 #[t0] K h :=
  fn_sound (qs := [16, 17, 19, 26, 31, 32, 35, 42, 43]) (fn := Try.f26) (ann := rup_Store_Len.ann) (args := [t0]) follows_mixed Try.func26 ((Eq.to_iff (congrFun (congrFun (congrFun (rup_Store_Len.eq) t0) K) h)).mp hp)

/-! ### bradawl/rup.New: function 28 -/
abbrev rup_New.id : FuncId := 28
def rup_New.ann : Ann := (.seq none .leaf (.seq none .leaf .leaf))
set_option maxRecDepth 100000 in
def rup_New.pt (t0 : Value) (K : Ret) (h : Heap) : Prop :=
 go (Bld [(0, 1), (1, 1)] #[(.int .i64 0), (.slice none 0 0)] [(0, t0)]) h fun t4 h =>
 go (New (Value.cells t4) 63) h fun t5 h =>
 K t5 h
set_option maxRecDepth 100000 in
theorem rup_New.eq : (fun t0 K h => rup_New.pt t0 K h : Value → Ret → Heap → Prop) = (fun t0 K h => fnPt Try.prog [16, 17, 19, 26, 31, 32, 35, 42, 43] Try.f28 rup_New.ann [t0] K h) := by kernel_rfl
set_option maxRecDepth 100000 in
theorem rup_New.ok {t0 : Value} {K : Ret} {h : Heap} (hp : rup_New.pt t0 K h) : CallH Try.prog 28 #[t0] K h :=
  fn_sound (qs := [16, 17, 19, 26, 31, 32, 35, 42, 43]) (fn := Try.f28) (ann := rup_New.ann) (args := [t0]) follows_mixed Try.func28 ((Eq.to_iff (congrFun (congrFun (congrFun (rup_New.eq) t0) K) h)).mp hp)

/-! ### (*bradawl/rup.known).add: function 29 -/
abbrev rup_known_add.id : FuncId := 29
def rup_known_add.ann : Ann := (.seq none .leaf .leaf)
set_option maxRecDepth 100000 in
def rup_known_add.pt (t0 t1 : Value) (K : Ret) (h : Heap) : Prop :=
 go (NilC t0) h fun t5 h =>
 go (Fld 0 t5) h fun t6 h =>
 go (Ld t6) h fun t7 h =>
 go (QCall Try.prog 42 [t1]) h fun t9 h =>
 go (Idx 1 t7 t9) h fun t10 h =>
 go (St t10 (.bool true)) h fun _ h =>
 go (NilC t0) h fun t13 h =>
 go (Fld 1 t13) h fun t14 h =>
 go (Ld t14) h fun t15 h =>
 go (Gd t15 false (Mv t0)) h fun t17 h =>
 go (Gd t15 false (NilC t17)) h fun t18 h =>
 go (Gd t15 false (Fld 0 t18)) h fun t19 h =>
 go (Gd t15 false (Ld t19)) h fun t20 h =>
 go (Gd t15 false (Mv t1)) h fun t21 h =>
 go (Gd t15 false (Un .neg t21)) h fun t22 h =>
 go (Gd t15 false (QCall Try.prog 42 [t22])) h fun t23 h =>
 go (Gd t15 false (Idx 1 t20 t23)) h fun t24 h =>
 go (Gd t15 false (Ld t24)) h fun t25 h =>
 go (Pick t15 (.bool true) t25) h fun t26 h =>
 go (NilC t0) h fun t27 h =>
 go (Fld 1 t27) h fun t28 h =>
 go (St t28 t26) h fun _ h =>
 K (.tuple #[]) h
set_option maxRecDepth 100000 in
theorem rup_known_add.eq : (fun t0 t1 K h => rup_known_add.pt t0 t1 K h : Value → Value → Ret → Heap → Prop) = (fun t0 t1 K h => fnPt Try.prog [16, 17, 19, 26, 31, 32, 35, 42, 43] Try.f29 rup_known_add.ann [t0, t1] K h) := by kernel_rfl
set_option maxRecDepth 100000 in
theorem rup_known_add.ok {t0 t1 : Value} {K : Ret} {h : Heap} (hp : rup_known_add.pt t0 t1 K h) : CallH Try.prog 29 #[t0, t1] K h :=
  fn_sound (qs := [16, 17, 19, 26, 31, 32, 35, 42, 43]) (fn := Try.f29) (ann := rup_known_add.ann) (args := [t0, t1]) follows_mixed Try.func29 ((Eq.to_iff (congrFun (congrFun (congrFun (congrFun (rup_known_add.eq) t0) t1) K) h)).mp hp)

/-! ### (*bradawl/rup.Store).round: function 30 -/
abbrev rup_Store_round.id : FuncId := 30
def rup_Store_round.ann : Ann := (.seq none .leaf (.seq none .leaf (.seq none (.seq none .leaf (.block (.loop [1, 5, 13, 14, 15] (.seq none .leaf (.seq none (.cond .leaf .leaf) (.seq (some [1, 5, 13, 14, 15]) (.block (.seq none .leaf (.seq none .leaf (.seq (some [1, 5, 8, 13, 14, 15]) (.seq none .leaf (.cond .leaf .leaf)) (.seq none (.seq none .leaf (.cond (.seq none .leaf .leaf) .leaf)) (.seq none .leaf (.cond (.seq none .leaf .leaf) .leaf))))))) .leaf)))))) (.seq none .leaf .leaf))))
set_option maxRecDepth 100000 in
def rup_Store_round.pt (t0 t1 : Value) (K : Ret) (h : Heap) : Prop :=
 go (NilC t0) h fun t11 h =>
 go (Fld 1 t11) h fun t12 h =>
 go (Ld t12) h fun t13 h =>
 go (Len t13) h fun t14 h =>
 Lp 5 (fun X1 t1_1 t5 t13_1 t14_1 t15 h =>
 go (Bin .int .lss t15 t14_1) h fun t16 h =>
 If t16 (
 Join 5 (fun J2 =>
 go (Idx 1 t13_1 t15) h fun t17 h =>
 go (Ld t17) h fun t18 h =>
 go (QCall Try.prog 43 [t1_1, t18]) h fun t22 h =>
 go (Ext 0 t22) h fun t23 h =>
 go (Ext 1 t22) h fun t24 h =>
 Join 6 (fun J3 =>
 go (Un .not t24) h fun t26 h =>
 If t26 (
 go (NilC t1_1) h fun t28 h =>
 go (Fld 1 t28) h fun t29 h =>
 go (St t29 (.bool true)) h fun _ h =>
 J3 t1_1 t5 t23 t13_1 t14_1 t15 h) (
 J3 t1_1 t5 t23 t13_1 t14_1 t15 h)) (fun t1_2 t5_1 t8 t13_2 t14_2 t15_1 h =>
 go (NilC t1_2) h fun t31 h =>
 go (Fld 1 t31) h fun t32 h =>
 go (Ld t32) h fun t33 h =>
 If t33 (
 K (.bool false) h) (
 go (Bin .int .neq t8 (.int .i64 0)) h fun t35 h =>
 If t35 (
 go (CallF Try.prog 29 [t1_2, t8]) h fun t38 h =>
 J2 t1_2 (.bool true) t13_2 t14_2 t15_1 h) (
 J2 t1_2 t5_1 t13_2 t14_2 t15_1 h)))) (fun t1_3 t5_2 t13_3 t14_3 t15_2 h =>
 go (Bin .int .add t15_2 (.int .i64 1)) h fun t39 h =>
 X1 t1_3 t5_2 t13_3 t14_3 t39 h)) (
 K t5 h)) [t1, (.bool false), t13, t14, (.int .i64 0)] h
set_option maxRecDepth 100000 in
theorem rup_Store_round.eq : (fun t0 t1 K h => rup_Store_round.pt t0 t1 K h : Value → Value → Ret → Heap → Prop) = (fun t0 t1 K h => fnPt Try.prog [16, 17, 19, 26, 31, 32, 35, 42, 43] Try.f30 rup_Store_round.ann [t0, t1] K h) := by kernel_rfl
set_option maxRecDepth 100000 in
theorem rup_Store_round.ok {t0 t1 : Value} {K : Ret} {h : Heap} (hp : rup_Store_round.pt t0 t1 K h) : CallH Try.prog 30 #[t0, t1] K h :=
  fn_sound (qs := [16, 17, 19, 26, 31, 32, 35, 42, 43]) (fn := Try.f30) (ann := rup_Store_round.ann) (args := [t0, t1]) follows_mixed Try.func30 ((Eq.to_iff (congrFun (congrFun (congrFun (congrFun (rup_Store_round.eq) t0) t1) K) h)).mp hp)

/-! ### bradawl/lit.At: function 31 -/
abbrev lit_At.id : FuncId := 31
def lit_At.ann : Ann := (.seq none .leaf (.seq none (.seq none .leaf (.cond (.seq none .leaf .leaf) .leaf)) (.seq none .leaf .leaf)))
set_option maxRecDepth 100000 in
def lit_At.pt (t0 : Value) (K : Ret) (h : Heap) : Prop :=
 go (Bin .int .and t0 (.int .i64 1)) h fun t4 h =>
 go (Bin .int .eql t4 (.int .i64 1)) h fun t5 h =>
 If t5 (
 go (Bin .int .quo t0 (.int .i64 2)) h fun t7 h =>
 go (Bin .int .add t7 (.int .i64 1)) h fun t8 h =>
 go (Un .neg t8) h fun t9 h =>
 K t9 h) (
 go (Bin .int .quo t0 (.int .i64 2)) h fun t11 h =>
 go (Bin .int .add t11 (.int .i64 1)) h fun t12 h =>
 K t12 h)
set_option maxRecDepth 100000 in
theorem lit_At.eq : (fun t0 K h => lit_At.pt t0 K h : Value → Ret → Heap → Prop) = (fun t0 K h => fnPt Try.prog [16, 17, 19, 26, 31, 32, 35, 42, 43] Try.f31 lit_At.ann [t0] K h) := by kernel_rfl
set_option maxRecDepth 100000 in
theorem lit_At.ok {t0 : Value} {K : Ret} {h : Heap} (hp : lit_At.pt t0 K h) : CallH Try.prog 31 #[t0] K h :=
  fn_sound (qs := [16, 17, 19, 26, 31, 32, 35, 42, 43]) (fn := Try.f31) (ann := lit_At.ann) (args := [t0]) follows_mixed Try.func31 ((Eq.to_iff (congrFun (congrFun (congrFun (lit_At.eq) t0) K) h)).mp hp)

/-! ### bradawl/bradawllaw07.index: function 32 -/
abbrev bradawllaw07_index.id : FuncId := 32
def bradawllaw07_index.ann : Ann := (.seq none .leaf (.seq none (.seq none .leaf (.cond (.seq none .leaf .leaf) .leaf)) (.seq none .leaf .leaf)))
set_option maxRecDepth 100000 in
def bradawllaw07_index.pt (t0 : Value) (K : Ret) (h : Heap) : Prop :=
 go (Bin .int .lss t0 (.int .i64 0)) h fun t4 h =>
 If t4 (
 go (Bin .int .mul (.int .i64 (-2)) t0) h fun t6 h =>
 go (Bin .int .sub t6 (.int .i64 1)) h fun t7 h =>
 K t7 h) (
 go (Bin .int .mul (.int .i64 2) t0) h fun t9 h =>
 go (Bin .int .sub t9 (.int .i64 2)) h fun t10 h =>
 K t10 h)
set_option maxRecDepth 100000 in
theorem bradawllaw07_index.eq : (fun t0 K h => bradawllaw07_index.pt t0 K h : Value → Ret → Heap → Prop) = (fun t0 K h => fnPt Try.prog [16, 17, 19, 26, 31, 32, 35, 42, 43] Try.f32 bradawllaw07_index.ann [t0] K h) := by kernel_rfl
set_option maxRecDepth 100000 in
theorem bradawllaw07_index.ok {t0 : Value} {K : Ret} {h : Heap} (hp : bradawllaw07_index.pt t0 K h) : CallH Try.prog 32 #[t0] K h :=
  fn_sound (qs := [16, 17, 19, 26, 31, 32, 35, 42, 43]) (fn := Try.f32) (ann := bradawllaw07_index.ann) (args := [t0]) follows_mixed Try.func32 ((Eq.to_iff (congrFun (congrFun (congrFun (bradawllaw07_index.eq) t0) K) h)).mp hp)

/-! ### slices.ContainsFunc[[]int,int]: function 33 -/
abbrev slices_ContainsFunc_int_int.id : FuncId := 33
def slices_ContainsFunc_int_int.ann : Ann := (.seq none .leaf (.seq none .leaf .leaf))
set_option maxRecDepth 100000 in
def slices_ContainsFunc_int_int.pt (t0 t1 : Value) (K : Ret) (h : Heap) : Prop :=
 go (CallF Try.prog 44 [t0, t1]) h fun t7 h =>
 go (Bin .int .geq t7 (.int .i64 0)) h fun t8 h =>
 K t8 h
set_option maxRecDepth 100000 in
theorem slices_ContainsFunc_int_int.eq : (fun t0 t1 K h => slices_ContainsFunc_int_int.pt t0 t1 K h : Value → Value → Ret → Heap → Prop) = (fun t0 t1 K h => fnPt Try.prog [16, 17, 19, 26, 31, 32, 35, 42, 43] Try.f33 slices_ContainsFunc_int_int.ann [t0, t1] K h) := by kernel_rfl
set_option maxRecDepth 100000 in
theorem slices_ContainsFunc_int_int.ok {t0 t1 : Value} {K : Ret} {h : Heap} (hp : slices_ContainsFunc_int_int.pt t0 t1 K h) : CallH Try.prog 33 #[t0, t1] K h :=
  fn_sound (qs := [16, 17, 19, 26, 31, 32, 35, 42, 43]) (fn := Try.f33) (ann := slices_ContainsFunc_int_int.ann) (args := [t0, t1]) follows_mixed Try.func33 ((Eq.to_iff (congrFun (congrFun (congrFun (congrFun (slices_ContainsFunc_int_int.eq) t0) t1) K) h)).mp hp)

/-! ### (*bradawl/rup.Store).Add$1: function 34 -/
abbrev rup_Store_Add_1.id : FuncId := 34
def rup_Store_Add_1.ann : Ann := (.seq none .leaf (.seq none .leaf .leaf))
set_option maxRecDepth 100000 in
def rup_Store_Add_1.pt (t0 t1 : Value) (K : Ret) (h : Heap) : Prop :=
 go (Ld t1) h fun t5 h =>
 go (NilC t5) h fun t6 h =>
 go (Fld 0 t6) h fun t7 h =>
 go (Ld t7) h fun t8 h =>
 go (QCall Try.prog 35 [t0, t8]) h fun t9 h =>
 go (Un .not t9) h fun t10 h =>
 K t10 h
set_option maxRecDepth 100000 in
theorem rup_Store_Add_1.eq : (fun t0 t1 K h => rup_Store_Add_1.pt t0 t1 K h : Value → Value → Ret → Heap → Prop) = (fun t0 t1 K h => fnPt Try.prog [16, 17, 19, 26, 31, 32, 35, 42, 43] Try.f34 rup_Store_Add_1.ann [t0, t1] K h) := by kernel_rfl
set_option maxRecDepth 100000 in
theorem rup_Store_Add_1.ok {t0 t1 : Value} {K : Ret} {h : Heap} (hp : rup_Store_Add_1.pt t0 t1 K h) : CallH Try.prog 34 #[t0, t1] K h :=
  fn_sound (qs := [16, 17, 19, 26, 31, 32, 35, 42, 43]) (fn := Try.f34) (ann := rup_Store_Add_1.ann) (args := [t0, t1]) follows_mixed Try.func34 ((Eq.to_iff (congrFun (congrFun (congrFun (congrFun (rup_Store_Add_1.eq) t0) t1) K) h)).mp hp)

/-! ### bradawl/lit.Right: function 35 -/
abbrev lit_Right.id : FuncId := 35
def lit_Right.ann : Ann := (.seq none .leaf (.seq none .leaf (.seq none .leaf .leaf)))
set_option maxRecDepth 100000 in
def lit_Right.pt (t0 t1 : Value) (K : Ret) (h : Heap) : Prop :=
 go (MaxV [t1, (.int .i64 0)]) h fun t6 h =>
 go (MinV [t6, (.int .i64 100000)]) h fun t7 h =>
 go (Bin .int .neq t0 (.int .i64 0)) h fun t9 h =>
 go (Gd t9 true (Mv t0)) h fun t11 h =>
 go (Gd t9 true (Mv t7)) h fun t12 h =>
 go (Gd t9 true (Bin .int .leq t11 t12)) h fun t13 h =>
 go (Pick t9 t13 (.bool false)) h fun t14 h =>
 go (Gd t14 true (Mv t0)) h fun t16 h =>
 go (Gd t14 true (Mv t7)) h fun t17 h =>
 go (Gd t14 true (Un .neg t17)) h fun t18 h =>
 go (Gd t14 true (Bin .int .geq t16 t18)) h fun t19 h =>
 go (Pick t14 t19 (.bool false)) h fun t20 h =>
 K t20 h
set_option maxRecDepth 100000 in
theorem lit_Right.eq : (fun t0 t1 K h => lit_Right.pt t0 t1 K h : Value → Value → Ret → Heap → Prop) = (fun t0 t1 K h => fnPt Try.prog [16, 17, 19, 26, 31, 32, 35, 42, 43] Try.f35 lit_Right.ann [t0, t1] K h) := by kernel_rfl
set_option maxRecDepth 100000 in
theorem lit_Right.ok {t0 t1 : Value} {K : Ret} {h : Heap} (hp : lit_Right.pt t0 t1 K h) : CallH Try.prog 35 #[t0, t1] K h :=
  fn_sound (qs := [16, 17, 19, 26, 31, 32, 35, 42, 43]) (fn := Try.f35) (ann := lit_Right.ann) (args := [t0, t1]) follows_mixed Try.func35 ((Eq.to_iff (congrFun (congrFun (congrFun (congrFun (lit_Right.eq) t0) t1) K) h)).mp hp)

/-! ### bradawl/norm.Clause: function 36 -/
abbrev norm_Clause.id : FuncId := 36
def norm_Clause.ann : Ann := (.seq none .leaf (.seq none .leaf (.seq none .leaf (.seq none .leaf .leaf))))
set_option maxRecDepth 100000 in
def norm_Clause.pt (t0 : Value) (K : Ret) (h : Heap) : Prop :=
 go (CallF Try.prog 41 [t0]) h fun t5 h =>
 go (CallF Try.prog 45 [t5, (.func (.func 46) #[] #[])]) h fun t7 h =>
 go (CallF Try.prog 47 [t5]) h fun t9 h =>
 K t9 h
set_option maxRecDepth 100000 in
theorem norm_Clause.eq : (fun t0 K h => norm_Clause.pt t0 K h : Value → Ret → Heap → Prop) = (fun t0 K h => fnPt Try.prog [16, 17, 19, 26, 31, 32, 35, 42, 43] Try.f36 norm_Clause.ann [t0] K h) := by kernel_rfl
set_option maxRecDepth 100000 in
theorem norm_Clause.ok {t0 : Value} {K : Ret} {h : Heap} (hp : norm_Clause.pt t0 K h) : CallH Try.prog 36 #[t0] K h :=
  fn_sound (qs := [16, 17, 19, 26, 31, 32, 35, 42, 43]) (fn := Try.f36) (ann := norm_Clause.ann) (args := [t0]) follows_mixed Try.func36 ((Eq.to_iff (congrFun (congrFun (congrFun (norm_Clause.eq) t0) K) h)).mp hp)

/-! ### (*bradawl/rup.Store).find: function 37 -/
abbrev rup_Store_find.id : FuncId := 37
def rup_Store_find.ann : Ann := (.seq none .leaf (.seq none (.seq none .leaf (.cond (.seq none .leaf .leaf) .leaf)) (.seq none .leaf (.seq none .leaf .leaf))))
set_option maxRecDepth 100000 in
def rup_Store_find.pt (t0 t1 : Value) (K : Ret) (h : Heap) : Prop :=
 go (New (Value.cells t0) 32) h fun t2 h =>
 go (CallF Try.prog 33 [t1, (.func (.func 48) #[] #[t2])]) h fun t8 h =>
 If t8 (
 K (.int .i64 (-1)) h) (
 go (CallF Try.prog 36 [t1]) h fun t10 h =>
 go (New #[(.slice none 0 0)] 34) h fun t5 h =>
 go (St t5 t10) h fun _ h =>
 go (Ld t2) h fun t11 h =>
 go (NilC t11) h fun t12 h =>
 go (Fld 1 t12) h fun t13 h =>
 go (Ld t13) h fun t14 h =>
 go (CallF Try.prog 49 [t14, (.func (.func 50) #[] #[t5])]) h fun t16 h =>
 K t16 h)
set_option maxRecDepth 100000 in
theorem rup_Store_find.eq : (fun t0 t1 K h => rup_Store_find.pt t0 t1 K h : Value → Value → Ret → Heap → Prop) = (fun t0 t1 K h => fnPt Try.prog [16, 17, 19, 26, 31, 32, 35, 42, 43] Try.f37 rup_Store_find.ann [t0, t1] K h) := by kernel_rfl
set_option maxRecDepth 100000 in
theorem rup_Store_find.ok {t0 t1 : Value} {K : Ret} {h : Heap} (hp : rup_Store_find.pt t0 t1 K h) : CallH Try.prog 37 #[t0, t1] K h :=
  fn_sound (qs := [16, 17, 19, 26, 31, 32, 35, 42, 43]) (fn := Try.f37) (ann := rup_Store_find.ann) (args := [t0, t1]) follows_mixed Try.func37 ((Eq.to_iff (congrFun (congrFun (congrFun (congrFun (rup_Store_find.eq) t0) t1) K) h)).mp hp)

/-! ### slices.Delete[[][]int,[]int]: function 38 -/
abbrev slices_Delete_int_int.id : FuncId := 38
def slices_Delete_int_int.ann : Ann := (.seq none .leaf (.seq none .leaf (.seq none (.seq none .leaf (.cond (.seq none .leaf .leaf) .leaf)) (.seq none .leaf (.seq none .leaf (.seq none .leaf (.seq none .leaf .leaf)))))))
set_option maxRecDepth 100000 in
def slices_Delete_int_int.pt (t0 t1 t2 : Value) (K : Ret) (h : Heap) : Prop :=
 go (Len t0) h fun t12 h =>
 go (Slc 1 t0 (some t1) (some t2) (some t12)) h fun t13 h =>
 go (Bin .int .eql t1 t2) h fun t16 h =>
 If t16 (
 K t0 h) (
 go (Len t0) h fun t19 h =>
 go (Slc 1 t0 none (some t1) none) h fun t22 h =>
 go (Slc 1 t0 (some t2) none none) h fun t25 h =>
 go (App 34 1 24 #[(.slice none 0 0)] t22 t25) h fun t26 h =>
 go (Len t26) h fun t29 h =>
 go (Slc 1 t26 (some t29) (some t19) none) h fun t31 h =>
 go (Clr #[(.slice none 0 0)] t31) h fun _ h =>
 K t26 h)
set_option maxRecDepth 100000 in
theorem slices_Delete_int_int.eq : (fun t0 t1 t2 K h => slices_Delete_int_int.pt t0 t1 t2 K h : Value → Value → Value → Ret → Heap → Prop) = (fun t0 t1 t2 K h => fnPt Try.prog [16, 17, 19, 26, 31, 32, 35, 42, 43] Try.f38 slices_Delete_int_int.ann [t0, t1, t2] K h) := by kernel_rfl
set_option maxRecDepth 100000 in
theorem slices_Delete_int_int.ok {t0 t1 t2 : Value} {K : Ret} {h : Heap} (hp : slices_Delete_int_int.pt t0 t1 t2 K h) : CallH Try.prog 38 #[t0, t1, t2] K h :=
  fn_sound (qs := [16, 17, 19, 26, 31, 32, 35, 42, 43]) (fn := Try.f38) (ann := slices_Delete_int_int.ann) (args := [t0, t1, t2]) follows_mixed Try.func38 ((Eq.to_iff (congrFun (congrFun (congrFun (congrFun (congrFun (slices_Delete_int_int.eq) t0) t1) t2) K) h)).mp hp)

/-! ### slices.Clone[[]int,int]: function 41 -/
abbrev slices_Clone_int_int.id : FuncId := 41
def slices_Clone_int_int.ann : Ann := (.seq none .leaf (.seq none (.seq none .leaf (.cond (.seq none .leaf .leaf) .leaf)) (.seq none .leaf .leaf)))
set_option maxRecDepth 100000 in
def slices_Clone_int_int.pt (t0 : Value) (K : Ret) (h : Heap) : Prop :=
 go (Bin .slice .eql t0 (.slice none 0 0)) h fun t4 h =>
 If t4 (
 K (.slice none 0 0) h) (
 go (Bld0 3) h fun t5 h =>
 go (App 3 1 8 #[(.int .i64 0)] t5 t0) h fun t7 h =>
 K t7 h)
set_option maxRecDepth 100000 in
theorem slices_Clone_int_int.eq : (fun t0 K h => slices_Clone_int_int.pt t0 K h : Value → Ret → Heap → Prop) = (fun t0 K h => fnPt Try.prog [16, 17, 19, 26, 31, 32, 35, 42, 43] Try.f41 slices_Clone_int_int.ann [t0] K h) := by kernel_rfl
set_option maxRecDepth 100000 in
theorem slices_Clone_int_int.ok {t0 : Value} {K : Ret} {h : Heap} (hp : slices_Clone_int_int.pt t0 K h) : CallH Try.prog 41 #[t0] K h :=
  fn_sound (qs := [16, 17, 19, 26, 31, 32, 35, 42, 43]) (fn := Try.f41) (ann := slices_Clone_int_int.ann) (args := [t0]) follows_mixed Try.func41 ((Eq.to_iff (congrFun (congrFun (congrFun (slices_Clone_int_int.eq) t0) K) h)).mp hp)

/-! ### bradawl/lit.Index: function 42 -/
abbrev lit_Index.id : FuncId := 42
def lit_Index.ann : Ann := (.seq none .leaf (.seq none (.seq none .leaf (.cond (.seq none .leaf .leaf) .leaf)) (.seq none .leaf .leaf)))
set_option maxRecDepth 100000 in
def lit_Index.pt (t0 : Value) (K : Ret) (h : Heap) : Prop :=
 go (Bin .int .lss t0 (.int .i64 0)) h fun t4 h =>
 If t4 (
 go (Un .neg t0) h fun t6 h =>
 go (Bin .int .sub t6 (.int .i64 1)) h fun t7 h =>
 go (Bin .int .mul (.int .i64 2) t7) h fun t8 h =>
 go (Bin .int .add t8 (.int .i64 1)) h fun t9 h =>
 K t9 h) (
 go (Bin .int .sub t0 (.int .i64 1)) h fun t11 h =>
 go (Bin .int .mul (.int .i64 2) t11) h fun t12 h =>
 K t12 h)
set_option maxRecDepth 100000 in
theorem lit_Index.eq : (fun t0 K h => lit_Index.pt t0 K h : Value → Ret → Heap → Prop) = (fun t0 K h => fnPt Try.prog [16, 17, 19, 26, 31, 32, 35, 42, 43] Try.f42 lit_Index.ann [t0] K h) := by kernel_rfl
set_option maxRecDepth 100000 in
theorem lit_Index.ok {t0 : Value} {K : Ret} {h : Heap} (hp : lit_Index.pt t0 K h) : CallH Try.prog 42 #[t0] K h :=
  fn_sound (qs := [16, 17, 19, 26, 31, 32, 35, 42, 43]) (fn := Try.f42) (ann := lit_Index.ann) (args := [t0]) follows_mixed Try.func42 ((Eq.to_iff (congrFun (congrFun (congrFun (lit_Index.eq) t0) K) h)).mp hp)

/-! ### (*bradawl/rup.known).unit: function 43 -/
abbrev rup_known_unit.id : FuncId := 43
def rup_known_unit.ann : Ann := (.seq none .leaf (.seq none .leaf (.seq none (.seq none .leaf (.block (.loop [0, 6, 9, 10, 11] (.seq none .leaf (.seq none (.cond .leaf .leaf) (.seq (some [0, 6, 9, 10, 11]) (.block (.seq none .leaf (.block (.seq none .leaf (.cond (.seq none .leaf .leaf) (.seq none .leaf (.cond .leaf (.seq none .leaf (.cond (.seq none .leaf .leaf) .leaf))))))))) .leaf)))))) (.seq none .leaf .leaf))))
set_option maxRecDepth 100000 in
def rup_known_unit.pt (t0 t1 : Value) (K : Ret) (h : Heap) : Prop :=
 go (Len t1) h fun t10 h =>
 Lp 5 (fun X1 t0_1 t6 t9 t10_1 t11 h =>
 go (Bin .int .lss t11 t10_1) h fun t12 h =>
 If t12 (
 Join 5 (fun J2 =>
 go (Idx 1 t9 t11) h fun t13 h =>
 go (Ld t13) h fun t14 h =>
 go (NilC t0_1) h fun t18 h =>
 go (Fld 0 t18) h fun t19 h =>
 go (Ld t19) h fun t20 h =>
 go (QCall Try.prog 42 [t14]) h fun t22 h =>
 go (Idx 1 t20 t22) h fun t23 h =>
 go (Ld t23) h fun t24 h =>
 If t24 (
 K (.tuple #[(.int .i64 0), (.bool true)]) h) (
 go (NilC t0_1) h fun t27 h =>
 go (Fld 0 t27) h fun t28 h =>
 go (Ld t28) h fun t29 h =>
 go (Un .neg t14) h fun t31 h =>
 go (QCall Try.prog 42 [t31]) h fun t32 h =>
 go (Idx 1 t29 t32) h fun t33 h =>
 go (Ld t33) h fun t34 h =>
 If t34 (
 J2 t0_1 t6 t9 t10_1 t11 h) (
 go (Bin .int .neq t6 (.int .i64 0)) h fun t37 h =>
 If t37 (
 K (.tuple #[(.int .i64 0), (.bool true)]) h) (
 J2 t0_1 t14 t9 t10_1 t11 h)))) (fun t0_2 t6_1 t9_1 t10_2 t11_1 h =>
 go (Bin .int .add t11_1 (.int .i64 1)) h fun t38 h =>
 X1 t0_2 t6_1 t9_1 t10_2 t38 h)) (
 go (Bin .int .neq t6 (.int .i64 0)) h fun t41 h =>
 K (.tuple #[t6, t41]) h)) [t0, (.int .i64 0), t1, t10, (.int .i64 0)] h
set_option maxRecDepth 100000 in
theorem rup_known_unit.eq : (fun t0 t1 K h => rup_known_unit.pt t0 t1 K h : Value → Value → Ret → Heap → Prop) = (fun t0 t1 K h => fnPt Try.prog [16, 17, 19, 26, 31, 32, 35, 42, 43] Try.f43 rup_known_unit.ann [t0, t1] K h) := by kernel_rfl
set_option maxRecDepth 100000 in
theorem rup_known_unit.ok {t0 t1 : Value} {K : Ret} {h : Heap} (hp : rup_known_unit.pt t0 t1 K h) : CallH Try.prog 43 #[t0, t1] K h :=
  fn_sound (qs := [16, 17, 19, 26, 31, 32, 35, 42, 43]) (fn := Try.f43) (ann := rup_known_unit.ann) (args := [t0, t1]) follows_mixed Try.func43 ((Eq.to_iff (congrFun (congrFun (congrFun (congrFun (rup_known_unit.eq) t0) t1) K) h)).mp hp)

/-! ### slices.IndexFunc[[]int,int]: function 44 -/
abbrev slices_IndexFunc_int_int.id : FuncId := 44
def slices_IndexFunc_int_int.ann : Ann := (.seq none .leaf (.seq none (.seq none .leaf (.block (.loop [0, 1, 7, 8] (.seq none .leaf (.seq none (.cond .leaf .leaf) (.seq none (.block (.seq none .leaf (.seq none .leaf (.cond (.seq none .leaf .leaf) .leaf)))) .leaf)))))) (.seq none .leaf .leaf)))
set_option maxRecDepth 100000 in
def slices_IndexFunc_int_int.pt (t0 t1 : Value) (K : Ret) (h : Heap) : Prop :=
 go (Len t0) h fun t7 h =>
 Lp 4 (fun X1 t0_1 t1_1 t7_1 t8 h =>
 go (Bin .int .lss t8 t7_1) h fun t9 h =>
 If t9 (
 go (Idx 1 t0_1 t8) h fun t14 h =>
 go (Ld t14) h fun t15 h =>
 go (CallV Try.prog t1_1 [t15]) h fun t16 h =>
 If t16 (
 K t8 h) (
 go (Bin .int .add t8 (.int .i64 1)) h fun t18 h =>
 X1 t0_1 t1_1 t7_1 t18 h)) (
 K (.int .i64 (-1)) h)) [t0, t1, t7, (.int .i64 0)] h
set_option maxRecDepth 100000 in
theorem slices_IndexFunc_int_int.eq : (fun t0 t1 K h => slices_IndexFunc_int_int.pt t0 t1 K h : Value → Value → Ret → Heap → Prop) = (fun t0 t1 K h => fnPt Try.prog [16, 17, 19, 26, 31, 32, 35, 42, 43] Try.f44 slices_IndexFunc_int_int.ann [t0, t1] K h) := by kernel_rfl
set_option maxRecDepth 100000 in
theorem slices_IndexFunc_int_int.ok {t0 t1 : Value} {K : Ret} {h : Heap} (hp : slices_IndexFunc_int_int.pt t0 t1 K h) : CallH Try.prog 44 #[t0, t1] K h :=
  fn_sound (qs := [16, 17, 19, 26, 31, 32, 35, 42, 43]) (fn := Try.f44) (ann := slices_IndexFunc_int_int.ann) (args := [t0, t1]) follows_mixed Try.func44 ((Eq.to_iff (congrFun (congrFun (congrFun (congrFun (slices_IndexFunc_int_int.eq) t0) t1) K) h)).mp hp)

/-! ### slices.SortFunc[[]int,int]: function 45 -/
abbrev slices_SortFunc_int_int.id : FuncId := 45
def slices_SortFunc_int_int.ann : Ann := (.seq none .leaf .leaf)
set_option maxRecDepth 100000 in
def slices_SortFunc_int_int.pt (t0 t1 : Value) (K : Ret) (h : Heap) : Prop :=
 go (Len t0) h fun t6 h =>
 go (Cvt .u64 t6) h fun t10 h =>
 go (CallF Try.prog 54 [t10]) h fun t11 h =>
 go (CallF Try.prog 53 [t0, (.int .i64 0), t6, t11, t1]) h fun t13 h =>
 K (.tuple #[]) h
set_option maxRecDepth 100000 in
theorem slices_SortFunc_int_int.eq : (fun t0 t1 K h => slices_SortFunc_int_int.pt t0 t1 K h : Value → Value → Ret → Heap → Prop) = (fun t0 t1 K h => fnPt Try.prog [16, 17, 19, 26, 31, 32, 35, 42, 43] Try.f45 slices_SortFunc_int_int.ann [t0, t1] K h) := by kernel_rfl
set_option maxRecDepth 100000 in
theorem slices_SortFunc_int_int.ok {t0 t1 : Value} {K : Ret} {h : Heap} (hp : slices_SortFunc_int_int.pt t0 t1 K h) : CallH Try.prog 45 #[t0, t1] K h :=
  fn_sound (qs := [16, 17, 19, 26, 31, 32, 35, 42, 43]) (fn := Try.f45) (ann := slices_SortFunc_int_int.ann) (args := [t0, t1]) follows_mixed Try.func45 ((Eq.to_iff (congrFun (congrFun (congrFun (congrFun (slices_SortFunc_int_int.eq) t0) t1) K) h)).mp hp)

/-! ### bradawl/lit.Compare: function 46 -/
abbrev lit_Compare.id : FuncId := 46
def lit_Compare.ann : Ann := (.seq none .leaf (.seq none .leaf .leaf))
set_option maxRecDepth 100000 in
def lit_Compare.pt (t0 t1 : Value) (K : Ret) (h : Heap) : Prop :=
 go (QCall Try.prog 42 [t0]) h fun t6 h =>
 go (QCall Try.prog 42 [t1]) h fun t8 h =>
 go (CallF Try.prog 55 [t6, t8]) h fun t9 h =>
 K t9 h
set_option maxRecDepth 100000 in
theorem lit_Compare.eq : (fun t0 t1 K h => lit_Compare.pt t0 t1 K h : Value → Value → Ret → Heap → Prop) = (fun t0 t1 K h => fnPt Try.prog [16, 17, 19, 26, 31, 32, 35, 42, 43] Try.f46 lit_Compare.ann [t0, t1] K h) := by kernel_rfl
set_option maxRecDepth 100000 in
theorem lit_Compare.ok {t0 t1 : Value} {K : Ret} {h : Heap} (hp : lit_Compare.pt t0 t1 K h) : CallH Try.prog 46 #[t0, t1] K h :=
  fn_sound (qs := [16, 17, 19, 26, 31, 32, 35, 42, 43]) (fn := Try.f46) (ann := lit_Compare.ann) (args := [t0, t1]) follows_mixed Try.func46 ((Eq.to_iff (congrFun (congrFun (congrFun (congrFun (lit_Compare.eq) t0) t1) K) h)).mp hp)

/-! ### slices.Compact[[]int,int]: function 47 -/
abbrev slices_Compact_int_int.id : FuncId := 47
def slices_Compact_int_int.ann : Ann := (.seq none .leaf (.seq none (.seq none .leaf (.cond (.seq none .leaf .leaf) .leaf)) (.seq none (.seq none .leaf (.block (.loop [0, 3] (.seq none (.seq none .leaf (.cond .leaf .leaf)) (.seq none (.block (.seq none .leaf (.cond (.seq none .leaf (.seq none (.seq none .leaf (.block (.loop [0, 3, 4, 5] (.seq none (.seq none .leaf (.cond .leaf .leaf)) (.seq (some [0, 3, 4, 5]) (.block (.seq none .leaf (.cond (.seq none .leaf .leaf) .leaf))) .leaf))))) (.seq none .leaf (.seq none .leaf .leaf)))) .leaf))) .leaf))))) (.seq none .leaf .leaf))))
set_option maxRecDepth 100000 in
def slices_Compact_int_int.pt (t0 : Value) (K : Ret) (h : Heap) : Prop :=
 go (Len t0) h fun t7 h =>
 go (Bin .int .lss t7 (.int .i64 2)) h fun t8 h =>
 If t8 (
 K t0 h) (
 Lp 2 (fun X1 t0_1 t3 h =>
 go (Len t0_1) h fun t12 h =>
 go (Bin .int .lss t3 t12) h fun t13 h =>
 If t13 (
 go (Idx 1 t0_1 t3) h fun t18 h =>
 go (Ld t18) h fun t19 h =>
 go (Bin .int .sub t3 (.int .i64 1)) h fun t22 h =>
 go (Idx 1 t0_1 t22) h fun t23 h =>
 go (Ld t23) h fun t24 h =>
 go (Bin .int .eql t19 t24) h fun t25 h =>
 If t25 (
 go (Slc 1 t0_1 (some t3) none none) h fun t28 h =>
 Lp 4 (fun X2 t0_2 t3_1 t4 t5 h =>
 go (Len t4) h fun t31 h =>
 go (Bin .int .lss t5 t31) h fun t32 h =>
 If t32 (
 Join 4 (fun J3 =>
 go (Idx 1 t4 t5) h fun t37 h =>
 go (Ld t37) h fun t38 h =>
 go (Bin .int .sub t5 (.int .i64 1)) h fun t41 h =>
 go (Idx 1 t4 t41) h fun t42 h =>
 go (Ld t42) h fun t43 h =>
 go (Bin .int .neq t38 t43) h fun t44 h =>
 If t44 (
 go (Idx 1 t4 t5) h fun t49 h =>
 go (Ld t49) h fun t50 h =>
 go (Idx 1 t0_2 t3_1) h fun t51 h =>
 go (St t51 t50) h fun _ h =>
 go (Bin .int .add t3_1 (.int .i64 1)) h fun t53 h =>
 J3 t0_2 t53 t4 t5 h) (
 J3 t0_2 t3_1 t4 t5 h)) (fun t0_3 t3_2 t4_1 t5_1 h =>
 go (Bin .int .add t5_1 (.int .i64 1)) h fun t34 h =>
 X2 t0_3 t3_2 t4_1 t34 h)) (
 go (Slc 1 t0_2 (some t3_1) none none) h fun t56 h =>
 go (Clr #[(.int .i64 0)] t56) h fun _ h =>
 go (Slc 1 t0_2 none (some t3_1) none) h fun t59 h =>
 K t59 h)) [t0_1, t3, t28, (.int .i64 1)] h) (
 go (Bin .int .add t3 (.int .i64 1)) h fun t15 h =>
 X1 t0_1 t15 h)) (
 K t0_1 h)) [t0, (.int .i64 1)] h)
set_option maxRecDepth 100000 in
theorem slices_Compact_int_int.eq : (fun t0 K h => slices_Compact_int_int.pt t0 K h : Value → Ret → Heap → Prop) = (fun t0 K h => fnPt Try.prog [16, 17, 19, 26, 31, 32, 35, 42, 43] Try.f47 slices_Compact_int_int.ann [t0] K h) := by kernel_rfl
set_option maxRecDepth 100000 in
theorem slices_Compact_int_int.ok {t0 : Value} {K : Ret} {h : Heap} (hp : slices_Compact_int_int.pt t0 K h) : CallH Try.prog 47 #[t0] K h :=
  fn_sound (qs := [16, 17, 19, 26, 31, 32, 35, 42, 43]) (fn := Try.f47) (ann := slices_Compact_int_int.ann) (args := [t0]) follows_mixed Try.func47 ((Eq.to_iff (congrFun (congrFun (congrFun (slices_Compact_int_int.eq) t0) K) h)).mp hp)

/-! ### (*bradawl/rup.Store).find$1: function 48 -/
abbrev rup_Store_find_1.id : FuncId := 48
def rup_Store_find_1.ann : Ann := (.seq none .leaf (.seq none .leaf .leaf))
set_option maxRecDepth 100000 in
def rup_Store_find_1.pt (t0 t1 : Value) (K : Ret) (h : Heap) : Prop :=
 go (Ld t1) h fun t5 h =>
 go (NilC t5) h fun t6 h =>
 go (Fld 0 t6) h fun t7 h =>
 go (Ld t7) h fun t8 h =>
 go (QCall Try.prog 35 [t0, t8]) h fun t9 h =>
 go (Un .not t9) h fun t10 h =>
 K t10 h
set_option maxRecDepth 100000 in
theorem rup_Store_find_1.eq : (fun t0 t1 K h => rup_Store_find_1.pt t0 t1 K h : Value → Value → Ret → Heap → Prop) = (fun t0 t1 K h => fnPt Try.prog [16, 17, 19, 26, 31, 32, 35, 42, 43] Try.f48 rup_Store_find_1.ann [t0, t1] K h) := by kernel_rfl
set_option maxRecDepth 100000 in
theorem rup_Store_find_1.ok {t0 t1 : Value} {K : Ret} {h : Heap} (hp : rup_Store_find_1.pt t0 t1 K h) : CallH Try.prog 48 #[t0, t1] K h :=
  fn_sound (qs := [16, 17, 19, 26, 31, 32, 35, 42, 43]) (fn := Try.f48) (ann := rup_Store_find_1.ann) (args := [t0, t1]) follows_mixed Try.func48 ((Eq.to_iff (congrFun (congrFun (congrFun (congrFun (rup_Store_find_1.eq) t0) t1) K) h)).mp hp)

/-! ### slices.IndexFunc[[][]int,[]int]: function 49 -/
abbrev slices_IndexFunc_int_int_2.id : FuncId := 49
def slices_IndexFunc_int_int_2.ann : Ann := (.seq none .leaf (.seq none (.seq none .leaf (.block (.loop [0, 1, 7, 8] (.seq none .leaf (.seq none (.cond .leaf .leaf) (.seq none (.block (.seq none .leaf (.seq none .leaf (.cond (.seq none .leaf .leaf) .leaf)))) .leaf)))))) (.seq none .leaf .leaf)))
set_option maxRecDepth 100000 in
def slices_IndexFunc_int_int_2.pt (t0 t1 : Value) (K : Ret) (h : Heap) : Prop :=
 go (Len t0) h fun t7 h =>
 Lp 4 (fun X1 t0_1 t1_1 t7_1 t8 h =>
 go (Bin .int .lss t8 t7_1) h fun t9 h =>
 If t9 (
 go (Idx 1 t0_1 t8) h fun t14 h =>
 go (Ld t14) h fun t15 h =>
 go (CallV Try.prog t1_1 [t15]) h fun t16 h =>
 If t16 (
 K t8 h) (
 go (Bin .int .add t8 (.int .i64 1)) h fun t18 h =>
 X1 t0_1 t1_1 t7_1 t18 h)) (
 K (.int .i64 (-1)) h)) [t0, t1, t7, (.int .i64 0)] h
set_option maxRecDepth 100000 in
theorem slices_IndexFunc_int_int_2.eq : (fun t0 t1 K h => slices_IndexFunc_int_int_2.pt t0 t1 K h : Value → Value → Ret → Heap → Prop) = (fun t0 t1 K h => fnPt Try.prog [16, 17, 19, 26, 31, 32, 35, 42, 43] Try.f49 slices_IndexFunc_int_int_2.ann [t0, t1] K h) := by kernel_rfl
set_option maxRecDepth 100000 in
theorem slices_IndexFunc_int_int_2.ok {t0 t1 : Value} {K : Ret} {h : Heap} (hp : slices_IndexFunc_int_int_2.pt t0 t1 K h) : CallH Try.prog 49 #[t0, t1] K h :=
  fn_sound (qs := [16, 17, 19, 26, 31, 32, 35, 42, 43]) (fn := Try.f49) (ann := slices_IndexFunc_int_int_2.ann) (args := [t0, t1]) follows_mixed Try.func49 ((Eq.to_iff (congrFun (congrFun (congrFun (congrFun (slices_IndexFunc_int_int_2.eq) t0) t1) K) h)).mp hp)

/-! ### (*bradawl/rup.Store).find$2: function 50 -/
abbrev rup_Store_find_2.id : FuncId := 50
def rup_Store_find_2.ann : Ann := (.seq none .leaf (.seq none .leaf .leaf))
set_option maxRecDepth 100000 in
def rup_Store_find_2.pt (t0 t1 : Value) (K : Ret) (h : Heap) : Prop :=
 go (Ld t1) h fun t5 h =>
 go (CallF Try.prog 51 [t0, t5]) h fun t6 h =>
 K t6 h
set_option maxRecDepth 100000 in
theorem rup_Store_find_2.eq : (fun t0 t1 K h => rup_Store_find_2.pt t0 t1 K h : Value → Value → Ret → Heap → Prop) = (fun t0 t1 K h => fnPt Try.prog [16, 17, 19, 26, 31, 32, 35, 42, 43] Try.f50 rup_Store_find_2.ann [t0, t1] K h) := by kernel_rfl
set_option maxRecDepth 100000 in
theorem rup_Store_find_2.ok {t0 t1 : Value} {K : Ret} {h : Heap} (hp : rup_Store_find_2.pt t0 t1 K h) : CallH Try.prog 50 #[t0, t1] K h :=
  fn_sound (qs := [16, 17, 19, 26, 31, 32, 35, 42, 43]) (fn := Try.f50) (ann := rup_Store_find_2.ann) (args := [t0, t1]) follows_mixed Try.func50 ((Eq.to_iff (congrFun (congrFun (congrFun (congrFun (rup_Store_find_2.eq) t0) t1) K) h)).mp hp)

/-! ### slices.Equal[[]int,int]: function 51 -/
abbrev slices_Equal_int_int.id : FuncId := 51
def slices_Equal_int_int.ann : Ann := (.seq none .leaf (.seq none (.seq none .leaf (.cond (.seq none .leaf .leaf) .leaf)) (.seq none (.seq none .leaf (.block (.loop [0, 1, 12, 13] (.seq none .leaf (.seq none (.cond .leaf .leaf) (.seq none (.block (.seq none .leaf (.seq none .leaf (.cond (.seq none .leaf .leaf) .leaf)))) .leaf)))))) (.seq none .leaf .leaf))))
set_option maxRecDepth 100000 in
def slices_Equal_int_int.pt (t0 t1 : Value) (K : Ret) (h : Heap) : Prop :=
 go (Len t0) h fun t7 h =>
 go (Len t1) h fun t9 h =>
 go (Bin .int .neq t7 t9) h fun t10 h =>
 If t10 (
 K (.bool false) h) (
 go (Len t0) h fun t12 h =>
 Lp 4 (fun X1 t0_1 t1_1 t12_1 t13 h =>
 go (Bin .int .lss t13 t12_1) h fun t14 h =>
 If t14 (
 go (Idx 1 t0_1 t13) h fun t18 h =>
 go (Ld t18) h fun t19 h =>
 go (Idx 1 t1_1 t13) h fun t22 h =>
 go (Ld t22) h fun t23 h =>
 go (Bin .int .neq t19 t23) h fun t24 h =>
 If t24 (
 K (.bool false) h) (
 go (Bin .int .add t13 (.int .i64 1)) h fun t25 h =>
 X1 t0_1 t1_1 t12_1 t25 h)) (
 K (.bool true) h)) [t0, t1, t12, (.int .i64 0)] h)
set_option maxRecDepth 100000 in
theorem slices_Equal_int_int.eq : (fun t0 t1 K h => slices_Equal_int_int.pt t0 t1 K h : Value → Value → Ret → Heap → Prop) = (fun t0 t1 K h => fnPt Try.prog [16, 17, 19, 26, 31, 32, 35, 42, 43] Try.f51 slices_Equal_int_int.ann [t0, t1] K h) := by kernel_rfl
set_option maxRecDepth 100000 in
theorem slices_Equal_int_int.ok {t0 t1 : Value} {K : Ret} {h : Heap} (hp : slices_Equal_int_int.pt t0 t1 K h) : CallH Try.prog 51 #[t0, t1] K h :=
  fn_sound (qs := [16, 17, 19, 26, 31, 32, 35, 42, 43]) (fn := Try.f51) (ann := slices_Equal_int_int.ann) (args := [t0, t1]) follows_mixed Try.func51 ((Eq.to_iff (congrFun (congrFun (congrFun (congrFun (slices_Equal_int_int.eq) t0) t1) K) h)).mp hp)

/-! ### slices.pdqsortCmpFunc[int]: function 53 -/
abbrev slices_pdqsortCmpFunc_int.id : FuncId := 53
def slices_pdqsortCmpFunc_int.ann : Ann := (.seq none .leaf (.seq none .leaf (.block (.loop [0, 1, 2, 3, 4, 10, 11] (.block (.seq none .leaf (.seq none (.seq none .leaf (.cond (.seq none .leaf .leaf) .leaf)) (.seq none (.seq none .leaf (.cond (.seq none .leaf .leaf) .leaf)) (.seq (some [0, 1, 2, 3, 4, 10, 11, 12]) (.seq none .leaf (.cond (.seq none .leaf .leaf) .leaf)) (.seq none .leaf (.seq (some [0, 1, 2, 3, 4, 10, 11, 12, 13, 14]) (.seq none .leaf (.cond (.seq none .leaf (.seq none .leaf .leaf)) .leaf)) (.seq (some [0, 1, 2, 3, 4, 10, 11, 12, 13]) (.seq none .leaf (.cond (.seq none .leaf (.cond .leaf .leaf)) .leaf)) (.seq none (.seq none .leaf (.cond (.seq none .leaf (.seq none .leaf .leaf)) .leaf)) (.seq none .leaf (.seq none .leaf (.seq none .leaf (.seq none .leaf (.seq none .leaf (.cond (.seq none .leaf (.seq none .leaf .leaf)) (.seq none .leaf (.seq none .leaf .leaf)))))))))))))))))))))
set_option maxRecDepth 100000 in
def slices_pdqsortCmpFunc_int.pt (t0 t1 t2 t3 t4 : Value) (K : Ret) (h : Heap) : Prop :=
 Lp 7 (fun X1 t0_1 t1_1 t2_1 t3_1 t4_1 t10 t11 h =>
 go (Bin .int .sub t2_1 t1_1) h fun t23 h =>
 go (Bin .int .leq t23 (.int .i64 12)) h fun t25 h =>
 If t25 (
 go (CallF Try.prog 56 [t0_1, t1_1, t2_1, t4_1]) h fun t30 h =>
 K (.tuple #[]) h) (
 go (Bin .int .eql t3_1 (.int .i64 0)) h fun t32 h =>
 If t32 (
 go (CallF Try.prog 57 [t0_1, t1_1, t2_1, t4_1]) h fun t37 h =>
 K (.tuple #[]) h) (
 Join 8 (fun J2 =>
 go (Un .not t10) h fun t39 h =>
 If t39 (
 go (CallF Try.prog 58 [t0_1, t1_1, t2_1, t4_1]) h fun t44 h =>
 go (Bin .int .sub t3_1 (.int .i64 1)) h fun t46 h =>
 J2 t0_1 t1_1 t2_1 t46 t4_1 t10 t11 t23 h) (
 J2 t0_1 t1_1 t2_1 t3_1 t4_1 t10 t11 t23 h)) (fun t0_2 t1_2 t2_2 t3_2 t4_2 t10_1 t11_1 t12 h =>
 go (CallF Try.prog 59 [t0_2, t1_2, t2_2, t4_2]) h fun t52 h =>
 go (Ext 0 t52) h fun t53 h =>
 go (Ext 1 t52) h fun t54 h =>
 Join 10 (fun J3 =>
 go (Bin .int .eql t54 (.int .i64 2)) h fun t56 h =>
 If t56 (
 go (CallF Try.prog 60 [t0_2, t1_2, t2_2, t4_2]) h fun t61 h =>
 go (Bin .int .sub t2_2 (.int .i64 1)) h fun t63 h =>
 go (Bin .int .sub t53 t1_2) h fun t66 h =>
 go (Bin .int .sub t63 t66) h fun t67 h =>
 J3 t0_2 t1_2 t2_2 t3_2 t4_2 t10_1 t11_1 t12 t67 (.int .i64 1) h) (
 J3 t0_2 t1_2 t2_2 t3_2 t4_2 t10_1 t11_1 t12 t53 t54 h)) (fun t0_3 t1_3 t2_3 t3_3 t4_3 t10_2 t11_2 t12_1 t13 t14 h =>
 Join 9 (fun J4 =>
 go (Gd t10_2 true (Mv t11_2)) h fun t70 h =>
 go (Pick t10_2 t70 (.bool false)) h fun t71 h =>
 go (Gd t71 true (Mv t14)) h fun t73 h =>
 go (Gd t71 true (Bin .int .eql t73 (.int .i64 1))) h fun t74 h =>
 go (Pick t71 t74 (.bool false)) h fun t75 h =>
 If t75 (
 go (CallF Try.prog 61 [t0_3, t1_3, t2_3, t4_3]) h fun t80 h =>
 If t80 (
 K (.tuple #[]) h) (
 J4 t0_3 t1_3 t2_3 t3_3 t4_3 t10_2 t11_2 t12_1 t13 h)) (
 J4 t0_3 t1_3 t2_3 t3_3 t4_3 t10_2 t11_2 t12_1 t13 h)) (fun t0_4 t1_4 t2_4 t3_4 t4_4 t10_3 t11_3 t12_2 t13_1 h =>
 go (Bin .int .gtr t1_4 (.int .i64 0)) h fun t82 h =>
 go (Gd t82 true (Mv t4_4)) h fun t84 h =>
 go (Gd t82 true (Mv t0_4)) h fun t85 h =>
 go (Gd t82 true (Mv t1_4)) h fun t86 h =>
 go (Gd t82 true (Bin .int .sub t86 (.int .i64 1))) h fun t87 h =>
 go (Gd t82 true (Idx 1 t85 t87)) h fun t88 h =>
 go (Gd t82 true (Ld t88)) h fun t89 h =>
 go (Gd t82 true (Mv t0_4)) h fun t90 h =>
 go (Gd t82 true (Mv t13_1)) h fun t91 h =>
 go (Gd t82 true (Idx 1 t90 t91)) h fun t92 h =>
 go (Gd t82 true (Ld t92)) h fun t93 h =>
 go (Gd t82 true (CallV Try.prog t84 [t89, t93])) h fun t94 h =>
 go (Gd t82 true (Bin .int .lss t94 (.int .i64 0))) h fun t95 h =>
 go (Gd t82 true (Un .not t95)) h fun t96 h =>
 go (Pick t82 t96 (.bool false)) h fun t97 h =>
 If t97 (
 go (CallF Try.prog 62 [t0_4, t1_4, t2_4, t13_1, t4_4]) h fun t103 h =>
 X1 t0_4 t103 t2_4 t3_4 t4_4 t10_3 t11_3 h) (
 go (CallF Try.prog 63 [t0_4, t1_4, t2_4, t13_1, t4_4]) h fun t111 h =>
 go (Ext 0 t111) h fun t112 h =>
 go (Ext 1 t111) h fun t113 h =>
 go (Bin .int .sub t112 t1_4) h fun t117 h =>
 go (Bin .int .sub t2_4 t112) h fun t120 h =>
 go (Bin .int .quo t12_2 (.int .i64 8)) h fun t122 h =>
 go (Bin .int .lss t117 t120) h fun t125 h =>
 If t125 (
 go (Bin .int .geq t117 t122) h fun t128 h =>
 go (CallF Try.prog 53 [t0_4, t1_4, t112, t3_4, t4_4]) h fun t134 h =>
 go (Bin .int .add t112 (.int .i64 1)) h fun t136 h =>
 X1 t0_4 t136 t2_4 t3_4 t4_4 t128 t113 h) (
 go (Bin .int .geq t120 t122) h fun t139 h =>
 go (Bin .int .add t112 (.int .i64 1)) h fun t142 h =>
 go (CallF Try.prog 53 [t0_4, t142, t2_4, t3_4, t4_4]) h fun t146 h =>
 X1 t0_4 t1_4 t112 t3_4 t4_4 t139 t113 h)))))))) [t0, t1, t2, t3, t4, (.bool true), (.bool true)] h
set_option maxRecDepth 100000 in
theorem slices_pdqsortCmpFunc_int.eq : (fun t0 t1 t2 t3 t4 K h => slices_pdqsortCmpFunc_int.pt t0 t1 t2 t3 t4 K h : Value → Value → Value → Value → Value → Ret → Heap → Prop) = (fun t0 t1 t2 t3 t4 K h => fnPt Try.prog [16, 17, 19, 26, 31, 32, 35, 42, 43] Try.f53 slices_pdqsortCmpFunc_int.ann [t0, t1, t2, t3, t4] K h) := by kernel_rfl
set_option maxRecDepth 100000 in
theorem slices_pdqsortCmpFunc_int.ok {t0 t1 t2 t3 t4 : Value} {K : Ret} {h : Heap} (hp : slices_pdqsortCmpFunc_int.pt t0 t1 t2 t3 t4 K h) : CallH Try.prog 53 #[t0, t1, t2, t3, t4] K h :=
  fn_sound (qs := [16, 17, 19, 26, 31, 32, 35, 42, 43]) (fn := Try.f53) (ann := slices_pdqsortCmpFunc_int.ann) (args := [t0, t1, t2, t3, t4]) follows_mixed Try.func53 ((Eq.to_iff (congrFun (congrFun (congrFun (congrFun (congrFun (congrFun (congrFun (slices_pdqsortCmpFunc_int.eq) t0) t1) t2) t3) t4) K) h)).mp hp)

/-! ### math/bits.Len: function 54 -/
abbrev bits_Len.id : FuncId := 54
def bits_Len.ann : Ann := (.seq none .leaf (.seq none (.cond (.seq none .leaf .leaf) .leaf) (.seq none .leaf .leaf)))
set_option maxRecDepth 100000 in
def bits_Len.pt (t0 : Value) (K : Ret) (h : Heap) : Prop :=
 If (.bool false) (
 go (Cvt .u32 t0) h fun t4 h =>
 go (CallF Try.prog 64 [t4]) h fun t5 h =>
 K t5 h) (
 go (CallF Try.prog 65 [t0]) h fun t7 h =>
 K t7 h)
set_option maxRecDepth 100000 in
theorem bits_Len.eq : (fun t0 K h => bits_Len.pt t0 K h : Value → Ret → Heap → Prop) = (fun t0 K h => fnPt Try.prog [16, 17, 19, 26, 31, 32, 35, 42, 43] Try.f54 bits_Len.ann [t0] K h) := by kernel_rfl
set_option maxRecDepth 100000 in
theorem bits_Len.ok {t0 : Value} {K : Ret} {h : Heap} (hp : bits_Len.pt t0 K h) : CallH Try.prog 54 #[t0] K h :=
  fn_sound (qs := [16, 17, 19, 26, 31, 32, 35, 42, 43]) (fn := Try.f54) (ann := bits_Len.ann) (args := [t0]) follows_mixed Try.func54 ((Eq.to_iff (congrFun (congrFun (congrFun (bits_Len.eq) t0) K) h)).mp hp)

/-! ### cmp.Compare[int]: function 55 -/
abbrev cmp_Compare_int.id : FuncId := 55
def cmp_Compare_int.ann : Ann := (.seq none .leaf (.seq none .leaf (.seq none .leaf (.seq none (.seq none .leaf (.cond (.seq none (.seq none .leaf (.cond (.seq none .leaf .leaf) .leaf)) (.seq none .leaf .leaf)) .leaf)) (.seq none (.seq none .leaf (.cond (.seq none .leaf .leaf) .leaf)) (.seq none (.seq none .leaf (.cond (.seq none .leaf .leaf) .leaf)) (.seq none (.seq none .leaf (.cond (.seq none .leaf .leaf) .leaf)) (.seq none .leaf .leaf))))))))
set_option maxRecDepth 100000 in
def cmp_Compare_int.pt (t0 t1 : Value) (K : Ret) (h : Heap) : Prop :=
 go (CallF Try.prog 66 [t0]) h fun t8 h =>
 go (CallF Try.prog 66 [t1]) h fun t10 h =>
 If t8 (
 If t10 (
 K (.int .i64 0) h) (
 K (.int .i64 (-1)) h)) (
 If t10 (
 K (.int .i64 1) h) (
 go (Bin .int .lss t0 t1) h fun t16 h =>
 If t16 (
 K (.int .i64 (-1)) h) (
 go (Bin .int .gtr t0 t1) h fun t19 h =>
 If t19 (
 K (.int .i64 1) h) (
 K (.int .i64 0) h))))
set_option maxRecDepth 100000 in
theorem cmp_Compare_int.eq : (fun t0 t1 K h => cmp_Compare_int.pt t0 t1 K h : Value → Value → Ret → Heap → Prop) = (fun t0 t1 K h => fnPt Try.prog [16, 17, 19, 26, 31, 32, 35, 42, 43] Try.f55 cmp_Compare_int.ann [t0, t1] K h) := by kernel_rfl
set_option maxRecDepth 100000 in
theorem cmp_Compare_int.ok {t0 t1 : Value} {K : Ret} {h : Heap} (hp : cmp_Compare_int.pt t0 t1 K h) : CallH Try.prog 55 #[t0, t1] K h :=
  fn_sound (qs := [16, 17, 19, 26, 31, 32, 35, 42, 43]) (fn := Try.f55) (ann := cmp_Compare_int.ann) (args := [t0, t1]) follows_mixed Try.func55 ((Eq.to_iff (congrFun (congrFun (congrFun (congrFun (cmp_Compare_int.eq) t0) t1) K) h)).mp hp)

/-! ### slices.insertionSortCmpFunc[int]: function 56 -/
abbrev slices_insertionSortCmpFunc_int.id : FuncId := 56
def slices_insertionSortCmpFunc_int.ann : Ann := (.seq none .leaf (.block (.loop [0, 1, 2, 3, 8] (.seq none (.seq none .leaf (.cond .leaf .leaf)) (.seq none (.block (.seq none .leaf (.block (.loop [0, 1, 2, 3, 8, 9] (.seq none (.seq none .leaf (.cond .leaf .leaf)) (.seq none (.block .leaf) .leaf)))))) .leaf)))))
set_option maxRecDepth 100000 in
def slices_insertionSortCmpFunc_int.pt (t0 t1 t2 t3 : Value) (K : Ret) (h : Heap) : Prop :=
 go (Bin .int .add t1 (.int .i64 1)) h fun t11 h =>
 Lp 5 (fun X1 t0_1 t1_1 t2_1 t3_1 t8 h =>
 go (Bin .int .lss t8 t2_1) h fun t14 h =>
 If t14 (
 Lp 6 (fun X2 t0_2 t1_2 t2_2 t3_2 t8_1 t9 h =>
 go (Bin .int .gtr t9 t1_2) h fun t20 h =>
 go (Gd t20 true (Mv t3_2)) h fun t22 h =>
 go (Gd t20 true (Mv t0_2)) h fun t23 h =>
 go (Gd t20 true (Mv t9)) h fun t24 h =>
 go (Gd t20 true (Idx 1 t23 t24)) h fun t25 h =>
 go (Gd t20 true (Ld t25)) h fun t26 h =>
 go (Gd t20 true (Mv t0_2)) h fun t27 h =>
 go (Gd t20 true (Mv t9)) h fun t28 h =>
 go (Gd t20 true (Bin .int .sub t28 (.int .i64 1))) h fun t29 h =>
 go (Gd t20 true (Idx 1 t27 t29)) h fun t30 h =>
 go (Gd t20 true (Ld t30)) h fun t31 h =>
 go (Gd t20 true (CallV Try.prog t22 [t26, t31])) h fun t32 h =>
 go (Gd t20 true (Bin .int .lss t32 (.int .i64 0))) h fun t33 h =>
 go (Pick t20 t33 (.bool false)) h fun t34 h =>
 If t34 (
 go (Bin .int .sub t9 (.int .i64 1)) h fun t41 h =>
 go (Bin .int .sub t9 (.int .i64 1)) h fun t44 h =>
 go (Idx 1 t0_2 t44) h fun t45 h =>
 go (Ld t45) h fun t46 h =>
 go (Idx 1 t0_2 t9) h fun t49 h =>
 go (Ld t49) h fun t50 h =>
 go (Idx 1 t0_2 t9) h fun t51 h =>
 go (St t51 t46) h fun _ h =>
 go (Idx 1 t0_2 t41) h fun t52 h =>
 go (St t52 t50) h fun _ h =>
 go (Bin .int .sub t9 (.int .i64 1)) h fun t36 h =>
 X2 t0_2 t1_2 t2_2 t3_2 t8_1 t36 h) (
 go (Bin .int .add t8_1 (.int .i64 1)) h fun t16 h =>
 X1 t0_2 t1_2 t2_2 t3_2 t16 h)) [t0_1, t1_1, t2_1, t3_1, t8, t8] h) (
 K (.tuple #[]) h)) [t0, t1, t2, t3, t11] h
set_option maxRecDepth 100000 in
theorem slices_insertionSortCmpFunc_int.eq : (fun t0 t1 t2 t3 K h => slices_insertionSortCmpFunc_int.pt t0 t1 t2 t3 K h : Value → Value → Value → Value → Ret → Heap → Prop) = (fun t0 t1 t2 t3 K h => fnPt Try.prog [16, 17, 19, 26, 31, 32, 35, 42, 43] Try.f56 slices_insertionSortCmpFunc_int.ann [t0, t1, t2, t3] K h) := by kernel_rfl
set_option maxRecDepth 100000 in
theorem slices_insertionSortCmpFunc_int.ok {t0 t1 t2 t3 : Value} {K : Ret} {h : Heap} (hp : slices_insertionSortCmpFunc_int.pt t0 t1 t2 t3 K h) : CallH Try.prog 56 #[t0, t1, t2, t3] K h :=
  fn_sound (qs := [16, 17, 19, 26, 31, 32, 35, 42, 43]) (fn := Try.f56) (ann := slices_insertionSortCmpFunc_int.ann) (args := [t0, t1, t2, t3]) follows_mixed Try.func56 ((Eq.to_iff (congrFun (congrFun (congrFun (congrFun (congrFun (congrFun (slices_insertionSortCmpFunc_int.eq) t0) t1) t2) t3) K) h)).mp hp)

/-! ### slices.heapSortCmpFunc[int]: function 57 -/
abbrev slices_heapSortCmpFunc_int.id : FuncId := 57
def slices_heapSortCmpFunc_int.ann : Ann := (.seq none .leaf (.seq none .leaf (.seq none .leaf (.seq none (.seq none .leaf (.block (.loop [0, 3, 8, 9, 10, 11] (.seq none (.seq none .leaf (.cond .leaf .leaf)) (.seq none (.block .leaf) .leaf))))) (.seq none .leaf (.block (.loop [0, 3, 8, 9, 12] (.seq none (.seq none .leaf (.cond .leaf .leaf)) (.seq none (.block (.seq none .leaf .leaf)) .leaf)))))))))
set_option maxRecDepth 100000 in
def slices_heapSortCmpFunc_int.pt (t0 t1 t2 t3 : Value) (K : Ret) (h : Heap) : Prop :=
 go (Bin .int .sub t2 t1) h fun t16 h =>
 go (Bin .int .sub t16 (.int .i64 1)) h fun t18 h =>
 go (Bin .int .quo t18 (.int .i64 2)) h fun t19 h =>
 Lp 6 (fun X1 t0_1 t3_1 t8 t9 t10 t11 h =>
 go (Bin .int .geq t11 (.int .i64 0)) h fun t21 h =>
 If t21 (
 go (CallF Try.prog 67 [t0_1, t11, t10, t8, t3_1]) h fun t29 h =>
 go (Bin .int .sub t11 (.int .i64 1)) h fun t23 h =>
 X1 t0_1 t3_1 t8 t9 t10 t23 h) (
 go (Bin .int .sub t10 (.int .i64 1)) h fun t31 h =>
 Lp 5 (fun X2 t0_2 t3_2 t8_1 t9_1 t12 h =>
 go (Bin .int .geq t12 (.int .i64 0)) h fun t33 h =>
 If t33 (
 go (Bin .int .add t8_1 t12) h fun t41 h =>
 go (Bin .int .add t8_1 t12) h fun t45 h =>
 go (Idx 1 t0_2 t45) h fun t46 h =>
 go (Ld t46) h fun t47 h =>
 go (Idx 1 t0_2 t8_1) h fun t50 h =>
 go (Ld t50) h fun t51 h =>
 go (Idx 1 t0_2 t8_1) h fun t52 h =>
 go (St t52 t47) h fun _ h =>
 go (Idx 1 t0_2 t41) h fun t53 h =>
 go (St t53 t51) h fun _ h =>
 go (CallF Try.prog 67 [t0_2, t9_1, t12, t8_1, t3_2]) h fun t59 h =>
 go (Bin .int .sub t12 (.int .i64 1)) h fun t35 h =>
 X2 t0_2 t3_2 t8_1 t9_1 t35 h) (
 K (.tuple #[]) h)) [t0_1, t3_1, t8, t9, t31] h)) [t0, t3, t1, (.int .i64 0), t16, t19] h
set_option maxRecDepth 100000 in
theorem slices_heapSortCmpFunc_int.eq : (fun t0 t1 t2 t3 K h => slices_heapSortCmpFunc_int.pt t0 t1 t2 t3 K h : Value → Value → Value → Value → Ret → Heap → Prop) = (fun t0 t1 t2 t3 K h => fnPt Try.prog [16, 17, 19, 26, 31, 32, 35, 42, 43] Try.f57 slices_heapSortCmpFunc_int.ann [t0, t1, t2, t3] K h) := by kernel_rfl
set_option maxRecDepth 100000 in
theorem slices_heapSortCmpFunc_int.ok {t0 t1 t2 t3 : Value} {K : Ret} {h : Heap} (hp : slices_heapSortCmpFunc_int.pt t0 t1 t2 t3 K h) : CallH Try.prog 57 #[t0, t1, t2, t3] K h :=
  fn_sound (qs := [16, 17, 19, 26, 31, 32, 35, 42, 43]) (fn := Try.f57) (ann := slices_heapSortCmpFunc_int.ann) (args := [t0, t1, t2, t3]) follows_mixed Try.func57 ((Eq.to_iff (congrFun (congrFun (congrFun (congrFun (congrFun (congrFun (slices_heapSortCmpFunc_int.eq) t0) t1) t2) t3) K) h)).mp hp)

/-! ### slices.breakPatternsCmpFunc[int]: function 58 -/
abbrev slices_breakPatternsCmpFunc_int.id : FuncId := 58
def slices_breakPatternsCmpFunc_int.ann : Ann := (.seq none .leaf (.seq none .leaf (.cond (.seq none .leaf (.seq none .leaf (.seq none .leaf (.block (.loop [0, 1, 8, 9, 10, 11] (.seq none (.seq none .leaf (.cond .leaf .leaf)) (.seq none (.block (.seq none .leaf (.seq (some [0, 1, 8, 9, 10, 11, 12]) (.seq none .leaf (.cond .leaf .leaf)) .leaf))) .leaf))))))) .leaf)))
set_option maxRecDepth 100000 in
def slices_breakPatternsCmpFunc_int.pt (t0 t1 t2 t3 : Value) (K : Ret) (h : Heap) : Prop :=
 go (Bin .int .sub t2 t1) h fun t15 h =>
 go (Bin .int .geq t15 (.int .i64 8)) h fun t17 h =>
 If t17 (
 go (Cvt .u64 t15) h fun t19 h =>
 go (New #[(.int .u64 0)] 94) h fun t9 h =>
 go (St t9 t19) h fun _ h =>
 go (CallF Try.prog 68 [t15]) h fun t21 h =>
 go (Bin .int .quo t15 (.int .i64 4)) h fun t24 h =>
 go (Bin .int .mul t24 (.int .i64 2)) h fun t25 h =>
 go (Bin .int .add t1 t25) h fun t26 h =>
 go (Bin .int .sub t26 (.int .i64 1)) h fun t27 h =>
 Lp 6 (fun X1 t0_1 t1_1 t8 t9_1 t10 t11 h =>
 go (Bin .int .quo t8 (.int .i64 4)) h fun t31 h =>
 go (Bin .int .mul t31 (.int .i64 2)) h fun t32 h =>
 go (Bin .int .add t1_1 t32) h fun t33 h =>
 go (Bin .int .add t33 (.int .i64 1)) h fun t34 h =>
 go (Bin .int .leq t11 t34) h fun t35 h =>
 If t35 (
 go (CallF Try.prog 69 [t9_1]) h fun t38 h =>
 go (Bin .int .sub t10 (.int .u64 1)) h fun t40 h =>
 go (Bin .int .and t38 t40) h fun t41 h =>
 go (Cvt .i64 t41) h fun t42 h =>
 Join 7 (fun J2 =>
 go (Bin .int .geq t42 t8) h fun t45 h =>
 If t45 (
 go (Bin .int .sub t42 t8) h fun t48 h =>
 J2 t0_1 t1_1 t8 t9_1 t10 t11 t48 h) (
 J2 t0_1 t1_1 t8 t9_1 t10 t11 t42 h)) (fun t0_2 t1_2 t8_1 t9_2 t10_1 t11_1 t12 h =>
 go (Bin .int .add t1_2 t12) h fun t54 h =>
 go (Bin .int .add t1_2 t12) h fun t58 h =>
 go (Idx 1 t0_2 t58) h fun t59 h =>
 go (Ld t59) h fun t60 h =>
 go (Idx 1 t0_2 t11_1) h fun t63 h =>
 go (Ld t63) h fun t64 h =>
 go (Idx 1 t0_2 t11_1) h fun t65 h =>
 go (St t65 t60) h fun _ h =>
 go (Idx 1 t0_2 t54) h fun t66 h =>
 go (St t66 t64) h fun _ h =>
 go (Bin .int .add t11_1 (.int .i64 1)) h fun t37 h =>
 X1 t0_2 t1_2 t8_1 t9_2 t10_1 t37 h)) (
 K (.tuple #[]) h)) [t0, t1, t15, t9, t21, t27] h) (
 K (.tuple #[]) h)
set_option maxRecDepth 100000 in
theorem slices_breakPatternsCmpFunc_int.eq : (fun t0 t1 t2 t3 K h => slices_breakPatternsCmpFunc_int.pt t0 t1 t2 t3 K h : Value → Value → Value → Value → Ret → Heap → Prop) = (fun t0 t1 t2 t3 K h => fnPt Try.prog [16, 17, 19, 26, 31, 32, 35, 42, 43] Try.f58 slices_breakPatternsCmpFunc_int.ann [t0, t1, t2, t3] K h) := by kernel_rfl
set_option maxRecDepth 100000 in
theorem slices_breakPatternsCmpFunc_int.ok {t0 t1 t2 t3 : Value} {K : Ret} {h : Heap} (hp : slices_breakPatternsCmpFunc_int.pt t0 t1 t2 t3 K h) : CallH Try.prog 58 #[t0, t1, t2, t3] K h :=
  fn_sound (qs := [16, 17, 19, 26, 31, 32, 35, 42, 43]) (fn := Try.f58) (ann := slices_breakPatternsCmpFunc_int.ann) (args := [t0, t1, t2, t3]) follows_mixed Try.func58 ((Eq.to_iff (congrFun (congrFun (congrFun (congrFun (congrFun (congrFun (slices_breakPatternsCmpFunc_int.eq) t0) t1) t2) t3) K) h)).mp hp)

/-! ### slices.choosePivotCmpFunc[int]: function 59 -/
abbrev slices_choosePivotCmpFunc_int.id : FuncId := 59
def slices_choosePivotCmpFunc_int.ann : Ann := (.seq none .leaf (.seq none .leaf (.seq none .leaf (.seq none .leaf (.seq none .leaf (.seq none .leaf (.seq (some [11, 13]) (.seq none .leaf (.cond (.seq (some [0, 3, 11, 12, 13, 14]) (.seq none .leaf (.cond (.seq none .leaf (.seq none .leaf .leaf)) .leaf)) .leaf) .leaf)) (.seq none .leaf (.block (.seq none .leaf (.cond (.seq none .leaf .leaf) (.seq none .leaf (.cond (.seq none .leaf .leaf) (.seq none .leaf .leaf))))))))))))))
set_option maxRecDepth 100000 in
def slices_choosePivotCmpFunc_int.pt (t0 t1 t2 t3 : Value) (K : Ret) (h : Heap) : Prop :=
 go (Bin .int .sub t2 t1) h fun t17 h =>
 go (New #[(.int .i64 0)] 3) h fun t11 h =>
 go (Bin .int .quo t17 (.int .i64 4)) h fun t20 h =>
 go (Bin .int .mul t20 (.int .i64 1)) h fun t21 h =>
 go (Bin .int .add t1 t21) h fun t22 h =>
 go (Bin .int .quo t17 (.int .i64 4)) h fun t25 h =>
 go (Bin .int .mul t25 (.int .i64 2)) h fun t26 h =>
 go (Bin .int .add t1 t26) h fun t27 h =>
 go (Bin .int .quo t17 (.int .i64 4)) h fun t30 h =>
 go (Bin .int .mul t30 (.int .i64 3)) h fun t31 h =>
 go (Bin .int .add t1 t31) h fun t32 h =>
 Join 2 (fun J1 =>
 go (Bin .int .geq t17 (.int .i64 8)) h fun t34 h =>
 If t34 (
 Join 6 (fun J2 =>
 go (Bin .int .geq t17 (.int .i64 50)) h fun t36 h =>
 If t36 (
 go (CallF Try.prog 70 [t0, t22, t11, t3]) h fun t40 h =>
 go (CallF Try.prog 70 [t0, t27, t11, t3]) h fun t44 h =>
 go (CallF Try.prog 70 [t0, t32, t11, t3]) h fun t48 h =>
 J2 t0 t3 t11 t40 t44 t48 h) (
 J2 t0 t3 t11 t22 t27 t32 h)) (fun t0_1 t3_1 t11_1 t12 t13 t14 h =>
 go (CallF Try.prog 71 [t0_1, t12, t13, t14, t11_1, t3_1]) h fun t54 h =>
 J1 t11_1 t54 h)) (
 J1 t11 t27 h)) (fun t11_2 t13_1 h =>
 go (Ld t11_2) h fun t55 h =>
 go (Bin .int .eql t55 (.int .i64 0)) h fun t58 h =>
 If t58 (
 K (.tuple #[t13_1, (.int .i64 1)]) h) (
 go (Bin .int .eql t55 (.int .i64 12)) h fun t61 h =>
 If t61 (
 K (.tuple #[t13_1, (.int .i64 2)]) h) (
 K (.tuple #[t13_1, (.int .i64 0)]) h)))
set_option maxRecDepth 100000 in
theorem slices_choosePivotCmpFunc_int.eq : (fun t0 t1 t2 t3 K h => slices_choosePivotCmpFunc_int.pt t0 t1 t2 t3 K h : Value → Value → Value → Value → Ret → Heap → Prop) = (fun t0 t1 t2 t3 K h => fnPt Try.prog [16, 17, 19, 26, 31, 32, 35, 42, 43] Try.f59 slices_choosePivotCmpFunc_int.ann [t0, t1, t2, t3] K h) := by kernel_rfl
set_option maxRecDepth 100000 in
theorem slices_choosePivotCmpFunc_int.ok {t0 t1 t2 t3 : Value} {K : Ret} {h : Heap} (hp : slices_choosePivotCmpFunc_int.pt t0 t1 t2 t3 K h) : CallH Try.prog 59 #[t0, t1, t2, t3] K h :=
  fn_sound (qs := [16, 17, 19, 26, 31, 32, 35, 42, 43]) (fn := Try.f59) (ann := slices_choosePivotCmpFunc_int.ann) (args := [t0, t1, t2, t3]) follows_mixed Try.func59 ((Eq.to_iff (congrFun (congrFun (congrFun (congrFun (congrFun (congrFun (slices_choosePivotCmpFunc_int.eq) t0) t1) t2) t3) K) h)).mp hp)

/-! ### slices.reverseRangeCmpFunc[int]: function 60 -/
abbrev slices_reverseRangeCmpFunc_int.id : FuncId := 60
def slices_reverseRangeCmpFunc_int.ann : Ann := (.seq none .leaf (.seq none .leaf (.block (.loop [0, 8, 9] (.seq none (.seq none .leaf (.cond .leaf .leaf)) (.block (.seq none .leaf (.seq none .leaf .leaf))))))))
set_option maxRecDepth 100000 in
def slices_reverseRangeCmpFunc_int.pt (t0 t1 t2 t3 : Value) (K : Ret) (h : Heap) : Prop :=
 go (Bin .int .sub t2 (.int .i64 1)) h fun t12 h =>
 Lp 3 (fun X1 t0_1 t8 t9 h =>
 go (Bin .int .lss t8 t9) h fun t15 h =>
 If t15 (
 go (Idx 1 t0_1 t9) h fun t22 h =>
 go (Ld t22) h fun t23 h =>
 go (Idx 1 t0_1 t8) h fun t26 h =>
 go (Ld t26) h fun t27 h =>
 go (Idx 1 t0_1 t8) h fun t28 h =>
 go (St t28 t23) h fun _ h =>
 go (Idx 1 t0_1 t9) h fun t29 h =>
 go (St t29 t27) h fun _ h =>
 go (Bin .int .add t8 (.int .i64 1)) h fun t31 h =>
 go (Bin .int .sub t9 (.int .i64 1)) h fun t33 h =>
 X1 t0_1 t31 t33 h) (
 K (.tuple #[]) h)) [t0, t1, t12] h
set_option maxRecDepth 100000 in
theorem slices_reverseRangeCmpFunc_int.eq : (fun t0 t1 t2 t3 K h => slices_reverseRangeCmpFunc_int.pt t0 t1 t2 t3 K h : Value → Value → Value → Value → Ret → Heap → Prop) = (fun t0 t1 t2 t3 K h => fnPt Try.prog [16, 17, 19, 26, 31, 32, 35, 42, 43] Try.f60 slices_reverseRangeCmpFunc_int.ann [t0, t1, t2, t3] K h) := by kernel_rfl
set_option maxRecDepth 100000 in
theorem slices_reverseRangeCmpFunc_int.ok {t0 t1 t2 t3 : Value} {K : Ret} {h : Heap} (hp : slices_reverseRangeCmpFunc_int.pt t0 t1 t2 t3 K h) : CallH Try.prog 60 #[t0, t1, t2, t3] K h :=
  fn_sound (qs := [16, 17, 19, 26, 31, 32, 35, 42, 43]) (fn := Try.f60) (ann := slices_reverseRangeCmpFunc_int.ann) (args := [t0, t1, t2, t3]) follows_mixed Try.func60 ((Eq.to_iff (congrFun (congrFun (congrFun (congrFun (congrFun (congrFun (slices_reverseRangeCmpFunc_int.eq) t0) t1) t2) t3) K) h)).mp hp)

/-! ### slices.partialInsertionSortCmpFunc[int]: function 61 -/
abbrev slices_partialInsertionSortCmpFunc_int.id : FuncId := 61
def slices_partialInsertionSortCmpFunc_int.ann : Ann := (.seq none .leaf (.seq none .leaf (.seq none (.seq none .leaf (.block (.loop [0, 1, 2, 3, 9, 10] (.seq none (.seq none .leaf (.cond .leaf .leaf)) (.seq (some [0, 1, 2, 3, 9, 10]) (.block (.seq none (.block (.loop [0, 1, 2, 3, 9, 10] (.seq none (.seq none .leaf (.cond .leaf .leaf)) (.block .leaf)))) (.seq none (.seq none .leaf (.cond (.seq none .leaf .leaf) .leaf)) (.seq none (.seq none .leaf (.cond (.seq none .leaf .leaf) .leaf)) (.seq none .leaf (.seq (some [0, 1, 2, 3, 9, 10]) (.seq none .leaf (.cond (.seq none .leaf (.block (.loop [0, 1, 2, 3, 9, 10, 11] (.seq none (.seq none .leaf (.cond .leaf .leaf)) (.seq none (.block (.seq none (.seq none .leaf (.cond .leaf .leaf)) .leaf)) .leaf))))) .leaf)) (.seq none .leaf (.cond (.seq none .leaf (.block (.loop [0, 1, 2, 3, 9, 10, 12] (.seq none (.seq none .leaf (.cond .leaf .leaf)) (.seq none (.block (.seq none (.seq none .leaf (.cond .leaf .leaf)) .leaf)) .leaf))))) .leaf)))))))) .leaf))))) (.seq none .leaf .leaf))))
set_option maxRecDepth 100000 in
def slices_partialInsertionSortCmpFunc_int.pt (t0 t1 t2 t3 : Value) (K : Ret) (h : Heap) : Prop :=
 go (Bin .int .add t1 (.int .i64 1)) h fun t14 h =>
 Lp 6 (fun X1 t0_1 t1_1 t2_1 t3_1 t9 t10 h =>
 go (Bin .int .lss t10 (.int .i64 5)) h fun t16 h =>
 If t16 (
 Join 6 (fun J2 =>
 Lp 6 (fun X3 t0_2 t1_2 t2_2 t3_2 t9_1 t10_1 h =>
 go (Bin .int .lss t9_1 t2_2) h fun t21 h =>
 go (Gd t21 true (Mv t3_2)) h fun t23 h =>
 go (Gd t21 true (Mv t0_2)) h fun t24 h =>
 go (Gd t21 true (Mv t9_1)) h fun t25 h =>
 go (Gd t21 true (Idx 1 t24 t25)) h fun t26 h =>
 go (Gd t21 true (Ld t26)) h fun t27 h =>
 go (Gd t21 true (Mv t0_2)) h fun t28 h =>
 go (Gd t21 true (Mv t9_1)) h fun t29 h =>
 go (Gd t21 true (Bin .int .sub t29 (.int .i64 1))) h fun t30 h =>
 go (Gd t21 true (Idx 1 t28 t30)) h fun t31 h =>
 go (Gd t21 true (Ld t31)) h fun t32 h =>
 go (Gd t21 true (CallV Try.prog t23 [t27, t32])) h fun t33 h =>
 go (Gd t21 true (Bin .int .lss t33 (.int .i64 0))) h fun t34 h =>
 go (Gd t21 true (Un .not t34)) h fun t35 h =>
 go (Pick t21 t35 (.bool false)) h fun t36 h =>
 If t36 (
 go (Bin .int .add t9_1 (.int .i64 1)) h fun t38 h =>
 X3 t0_2 t1_2 t2_2 t3_2 t38 t10_1 h) (
 go (Bin .int .eql t9_1 t2_2) h fun t41 h =>
 If t41 (
 K (.bool true) h) (
 go (Bin .int .sub t2_2 t1_2) h fun t44 h =>
 go (Bin .int .lss t44 (.int .i64 50)) h fun t45 h =>
 If t45 (
 K (.bool false) h) (
 go (Bin .int .sub t9_1 (.int .i64 1)) h fun t50 h =>
 go (Bin .int .sub t9_1 (.int .i64 1)) h fun t53 h =>
 go (Idx 1 t0_2 t53) h fun t54 h =>
 go (Ld t54) h fun t55 h =>
 go (Idx 1 t0_2 t9_1) h fun t58 h =>
 go (Ld t58) h fun t59 h =>
 go (Idx 1 t0_2 t9_1) h fun t60 h =>
 go (St t60 t55) h fun _ h =>
 go (Idx 1 t0_2 t50) h fun t61 h =>
 go (St t61 t59) h fun _ h =>
 Join 6 (fun J4 =>
 go (Bin .int .sub t9_1 t1_2) h fun t64 h =>
 go (Bin .int .geq t64 (.int .i64 2)) h fun t65 h =>
 If t65 (
 go (Bin .int .sub t9_1 (.int .i64 1)) h fun t67 h =>
 Lp 7 (fun X5 t0_3 t1_3 t2_3 t3_3 t9_2 t10_2 t11 h =>
 go (Bin .int .geq t11 (.int .i64 1)) h fun t69 h =>
 If t69 (
 go (Idx 1 t0_3 t11) h fun t75 h =>
 go (Ld t75) h fun t76 h =>
 go (Bin .int .sub t11 (.int .i64 1)) h fun t79 h =>
 go (Idx 1 t0_3 t79) h fun t80 h =>
 go (Ld t80) h fun t81 h =>
 go (CallV Try.prog t3_3 [t76, t81]) h fun t82 h =>
 go (Bin .int .lss t82 (.int .i64 0)) h fun t83 h =>
 go (Un .not t83) h fun t84 h =>
 If t84 (
 J4 t0_3 t1_3 t2_3 t3_3 t9_2 t10_2 h) (
 go (Bin .int .sub t11 (.int .i64 1)) h fun t89 h =>
 go (Bin .int .sub t11 (.int .i64 1)) h fun t92 h =>
 go (Idx 1 t0_3 t92) h fun t93 h =>
 go (Ld t93) h fun t94 h =>
 go (Idx 1 t0_3 t11) h fun t97 h =>
 go (Ld t97) h fun t98 h =>
 go (Idx 1 t0_3 t11) h fun t99 h =>
 go (St t99 t94) h fun _ h =>
 go (Idx 1 t0_3 t89) h fun t100 h =>
 go (St t100 t98) h fun _ h =>
 go (Bin .int .sub t11 (.int .i64 1)) h fun t71 h =>
 X5 t0_3 t1_3 t2_3 t3_3 t9_2 t10_2 t71 h)) (
 J4 t0_3 t1_3 t2_3 t3_3 t9_2 t10_2 h)) [t0_2, t1_2, t2_2, t3_2, t9_1, t10_1, t67] h) (
 J4 t0_2 t1_2 t2_2 t3_2 t9_1 t10_1 h)) (fun t0_4 t1_4 t2_4 t3_4 t9_3 t10_3 h =>
 go (Bin .int .sub t2_4 t9_3) h fun t103 h =>
 go (Bin .int .geq t103 (.int .i64 2)) h fun t104 h =>
 If t104 (
 go (Bin .int .add t9_3 (.int .i64 1)) h fun t106 h =>
 Lp 7 (fun X6 t0_5 t1_5 t2_5 t3_5 t9_4 t10_4 t12 h =>
 go (Bin .int .lss t12 t2_5) h fun t109 h =>
 If t109 (
 go (Idx 1 t0_5 t12) h fun t115 h =>
 go (Ld t115) h fun t116 h =>
 go (Bin .int .sub t12 (.int .i64 1)) h fun t119 h =>
 go (Idx 1 t0_5 t119) h fun t120 h =>
 go (Ld t120) h fun t121 h =>
 go (CallV Try.prog t3_5 [t116, t121]) h fun t122 h =>
 go (Bin .int .lss t122 (.int .i64 0)) h fun t123 h =>
 go (Un .not t123) h fun t124 h =>
 If t124 (
 J2 t0_5 t1_5 t2_5 t3_5 t9_4 t10_4 h) (
 go (Bin .int .sub t12 (.int .i64 1)) h fun t129 h =>
 go (Bin .int .sub t12 (.int .i64 1)) h fun t132 h =>
 go (Idx 1 t0_5 t132) h fun t133 h =>
 go (Ld t133) h fun t134 h =>
 go (Idx 1 t0_5 t12) h fun t137 h =>
 go (Ld t137) h fun t138 h =>
 go (Idx 1 t0_5 t12) h fun t139 h =>
 go (St t139 t134) h fun _ h =>
 go (Idx 1 t0_5 t129) h fun t140 h =>
 go (St t140 t138) h fun _ h =>
 go (Bin .int .add t12 (.int .i64 1)) h fun t111 h =>
 X6 t0_5 t1_5 t2_5 t3_5 t9_4 t10_4 t111 h)) (
 J2 t0_5 t1_5 t2_5 t3_5 t9_4 t10_4 h)) [t0_4, t1_4, t2_4, t3_4, t9_3, t10_3, t106] h) (
 J2 t0_4 t1_4 t2_4 t3_4 t9_3 t10_3 h)))))) [t0_1, t1_1, t2_1, t3_1, t9, t10] h) (fun t0_6 t1_6 t2_6 t3_6 t9_5 t10_5 h =>
 go (Bin .int .add t10_5 (.int .i64 1)) h fun t18 h =>
 X1 t0_6 t1_6 t2_6 t3_6 t9_5 t18 h)) (
 K (.bool false) h)) [t0, t1, t2, t3, t14, (.int .i64 0)] h
set_option maxRecDepth 100000 in
theorem slices_partialInsertionSortCmpFunc_int.eq : (fun t0 t1 t2 t3 K h => slices_partialInsertionSortCmpFunc_int.pt t0 t1 t2 t3 K h : Value → Value → Value → Value → Ret → Heap → Prop) = (fun t0 t1 t2 t3 K h => fnPt Try.prog [16, 17, 19, 26, 31, 32, 35, 42, 43] Try.f61 slices_partialInsertionSortCmpFunc_int.ann [t0, t1, t2, t3] K h) := by kernel_rfl
set_option maxRecDepth 100000 in
theorem slices_partialInsertionSortCmpFunc_int.ok {t0 t1 t2 t3 : Value} {K : Ret} {h : Heap} (hp : slices_partialInsertionSortCmpFunc_int.pt t0 t1 t2 t3 K h) : CallH Try.prog 61 #[t0, t1, t2, t3] K h :=
  fn_sound (qs := [16, 17, 19, 26, 31, 32, 35, 42, 43]) (fn := Try.f61) (ann := slices_partialInsertionSortCmpFunc_int.ann) (args := [t0, t1, t2, t3]) follows_mixed Try.func61 ((Eq.to_iff (congrFun (congrFun (congrFun (congrFun (congrFun (congrFun (slices_partialInsertionSortCmpFunc_int.eq) t0) t1) t2) t3) K) h)).mp hp)

/-! ### slices.partitionEqualCmpFunc[int]: function 62 -/
abbrev slices_partitionEqualCmpFunc_int.id : FuncId := 62
def slices_partitionEqualCmpFunc_int.ann : Ann := (.seq none .leaf (.seq none .leaf (.seq none .leaf (.seq none (.block (.loop [0, 1, 4, 11, 12] (.block (.seq none (.block (.loop [0, 1, 4, 11, 12] (.seq none (.seq none .leaf (.cond .leaf .leaf)) (.block .leaf)))) (.seq none (.block (.loop [0, 1, 4, 11, 12] (.seq none (.seq none .leaf (.cond .leaf .leaf)) (.block .leaf)))) (.seq none (.seq none .leaf (.cond .leaf .leaf)) (.seq none .leaf (.seq none .leaf .leaf)))))))) (.seq none .leaf .leaf)))))
set_option maxRecDepth 100000 in
def slices_partitionEqualCmpFunc_int.pt (t0 t1 t2 t3 t4 : Value) (K : Ret) (h : Heap) : Prop :=
 go (Idx 1 t0 t3) h fun t19 h =>
 go (Ld t19) h fun t20 h =>
 go (Idx 1 t0 t1) h fun t23 h =>
 go (Ld t23) h fun t24 h =>
 go (Idx 1 t0 t1) h fun t25 h =>
 go (St t25 t20) h fun _ h =>
 go (Idx 1 t0 t3) h fun t26 h =>
 go (St t26 t24) h fun _ h =>
 go (Bin .int .add t1 (.int .i64 1)) h fun t28 h =>
 go (Bin .int .sub t2 (.int .i64 1)) h fun t30 h =>
 Lp 5 (fun X1 t0_1 t1_1 t4_1 t11 t12 h =>
 Lp 5 (fun X2 t0_2 t1_2 t4_2 t11_1 t12_1 h =>
 go (Bin .int .leq t11_1 t12_1) h fun t33 h =>
 go (Gd t33 true (Mv t4_2)) h fun t35 h =>
 go (Gd t33 true (Mv t0_2)) h fun t36 h =>
 go (Gd t33 true (Mv t1_2)) h fun t37 h =>
 go (Gd t33 true (Idx 1 t36 t37)) h fun t38 h =>
 go (Gd t33 true (Ld t38)) h fun t39 h =>
 go (Gd t33 true (Mv t0_2)) h fun t40 h =>
 go (Gd t33 true (Mv t11_1)) h fun t41 h =>
 go (Gd t33 true (Idx 1 t40 t41)) h fun t42 h =>
 go (Gd t33 true (Ld t42)) h fun t43 h =>
 go (Gd t33 true (CallV Try.prog t35 [t39, t43])) h fun t44 h =>
 go (Gd t33 true (Bin .int .lss t44 (.int .i64 0))) h fun t45 h =>
 go (Gd t33 true (Un .not t45)) h fun t46 h =>
 go (Pick t33 t46 (.bool false)) h fun t47 h =>
 If t47 (
 go (Bin .int .add t11_1 (.int .i64 1)) h fun t49 h =>
 X2 t0_2 t1_2 t4_2 t49 t12_1 h) (
 Lp 5 (fun X3 t0_3 t1_3 t4_3 t11_2 t12_2 h =>
 go (Bin .int .leq t11_2 t12_2) h fun t52 h =>
 go (Gd t52 true (Mv t4_3)) h fun t54 h =>
 go (Gd t52 true (Mv t0_3)) h fun t55 h =>
 go (Gd t52 true (Mv t1_3)) h fun t56 h =>
 go (Gd t52 true (Idx 1 t55 t56)) h fun t57 h =>
 go (Gd t52 true (Ld t57)) h fun t58 h =>
 go (Gd t52 true (Mv t0_3)) h fun t59 h =>
 go (Gd t52 true (Mv t12_2)) h fun t60 h =>
 go (Gd t52 true (Idx 1 t59 t60)) h fun t61 h =>
 go (Gd t52 true (Ld t61)) h fun t62 h =>
 go (Gd t52 true (CallV Try.prog t54 [t58, t62])) h fun t63 h =>
 go (Gd t52 true (Bin .int .lss t63 (.int .i64 0))) h fun t64 h =>
 go (Pick t52 t64 (.bool false)) h fun t65 h =>
 If t65 (
 go (Bin .int .sub t12_2 (.int .i64 1)) h fun t67 h =>
 X3 t0_3 t1_3 t4_3 t11_2 t67 h) (
 go (Bin .int .gtr t11_2 t12_2) h fun t70 h =>
 If t70 (
 K t11_2 h) (
 go (Idx 1 t0_3 t12_2) h fun t77 h =>
 go (Ld t77) h fun t78 h =>
 go (Idx 1 t0_3 t11_2) h fun t81 h =>
 go (Ld t81) h fun t82 h =>
 go (Idx 1 t0_3 t11_2) h fun t83 h =>
 go (St t83 t78) h fun _ h =>
 go (Idx 1 t0_3 t12_2) h fun t84 h =>
 go (St t84 t82) h fun _ h =>
 go (Bin .int .add t11_2 (.int .i64 1)) h fun t86 h =>
 go (Bin .int .sub t12_2 (.int .i64 1)) h fun t88 h =>
 X1 t0_3 t1_3 t4_3 t86 t88 h))) [t0_2, t1_2, t4_2, t11_1, t12_1] h)) [t0_1, t1_1, t4_1, t11, t12] h) [t0, t1, t4, t28, t30] h
set_option maxRecDepth 100000 in
theorem slices_partitionEqualCmpFunc_int.eq : (fun t0 t1 t2 t3 t4 K h => slices_partitionEqualCmpFunc_int.pt t0 t1 t2 t3 t4 K h : Value → Value → Value → Value → Value → Ret → Heap → Prop) = (fun t0 t1 t2 t3 t4 K h => fnPt Try.prog [16, 17, 19, 26, 31, 32, 35, 42, 43] Try.f62 slices_partitionEqualCmpFunc_int.ann [t0, t1, t2, t3, t4] K h) := by kernel_rfl
set_option maxRecDepth 100000 in
theorem slices_partitionEqualCmpFunc_int.ok {t0 t1 t2 t3 t4 : Value} {K : Ret} {h : Heap} (hp : slices_partitionEqualCmpFunc_int.pt t0 t1 t2 t3 t4 K h) : CallH Try.prog 62 #[t0, t1, t2, t3, t4] K h :=
  fn_sound (qs := [16, 17, 19, 26, 31, 32, 35, 42, 43]) (fn := Try.f62) (ann := slices_partitionEqualCmpFunc_int.ann) (args := [t0, t1, t2, t3, t4]) follows_mixed Try.func62 ((Eq.to_iff (congrFun (congrFun (congrFun (congrFun (congrFun (congrFun (congrFun (slices_partitionEqualCmpFunc_int.eq) t0) t1) t2) t3) t4) K) h)).mp hp)

/-! ### slices.partitionCmpFunc[int]: function 63 -/
abbrev slices_partitionCmpFunc_int.id : FuncId := 63
def slices_partitionCmpFunc_int.ann : Ann := (.seq none .leaf (.seq none .leaf (.seq none .leaf (.seq none (.block (.loop [0, 1, 4, 12, 13] (.seq none (.seq none .leaf (.cond .leaf .leaf)) (.block .leaf)))) (.seq none (.block (.loop [0, 1, 4, 12, 13] (.seq none (.seq none .leaf (.cond .leaf .leaf)) (.block .leaf)))) (.seq none (.seq none .leaf (.cond (.seq none .leaf (.seq none .leaf .leaf)) .leaf)) (.seq none .leaf (.seq none .leaf (.seq none .leaf (.seq none (.block (.loop [0, 1, 4, 12, 13] (.block (.seq none (.block (.loop [0, 1, 4, 12, 13] (.seq none (.seq none .leaf (.cond .leaf .leaf)) (.block .leaf)))) (.seq none (.block (.loop [0, 1, 4, 12, 13] (.seq none (.seq none .leaf (.cond .leaf .leaf)) (.block .leaf)))) (.seq none (.seq none .leaf (.cond .leaf .leaf)) (.seq none .leaf (.seq none .leaf .leaf)))))))) (.seq none .leaf (.seq none .leaf .leaf))))))))))))
set_option maxRecDepth 100000 in
def slices_partitionCmpFunc_int.pt (t0 t1 t2 t3 t4 : Value) (K : Ret) (h : Heap) : Prop :=
 go (Idx 1 t0 t3) h fun t20 h =>
 go (Ld t20) h fun t21 h =>
 go (Idx 1 t0 t1) h fun t24 h =>
 go (Ld t24) h fun t25 h =>
 go (Idx 1 t0 t1) h fun t26 h =>
 go (St t26 t21) h fun _ h =>
 go (Idx 1 t0 t3) h fun t27 h =>
 go (St t27 t25) h fun _ h =>
 go (Bin .int .add t1 (.int .i64 1)) h fun t29 h =>
 go (Bin .int .sub t2 (.int .i64 1)) h fun t31 h =>
 Lp 5 (fun X1 t0_1 t1_1 t4_1 t12 t13 h =>
 go (Bin .int .leq t12 t13) h fun t34 h =>
 go (Gd t34 true (Mv t4_1)) h fun t36 h =>
 go (Gd t34 true (Mv t0_1)) h fun t37 h =>
 go (Gd t34 true (Mv t12)) h fun t38 h =>
 go (Gd t34 true (Idx 1 t37 t38)) h fun t39 h =>
 go (Gd t34 true (Ld t39)) h fun t40 h =>
 go (Gd t34 true (Mv t0_1)) h fun t41 h =>
 go (Gd t34 true (Mv t1_1)) h fun t42 h =>
 go (Gd t34 true (Idx 1 t41 t42)) h fun t43 h =>
 go (Gd t34 true (Ld t43)) h fun t44 h =>
 go (Gd t34 true (CallV Try.prog t36 [t40, t44])) h fun t45 h =>
 go (Gd t34 true (Bin .int .lss t45 (.int .i64 0))) h fun t46 h =>
 go (Pick t34 t46 (.bool false)) h fun t47 h =>
 If t47 (
 go (Bin .int .add t12 (.int .i64 1)) h fun t49 h =>
 X1 t0_1 t1_1 t4_1 t49 t13 h) (
 Lp 5 (fun X2 t0_2 t1_2 t4_2 t12_1 t13_1 h =>
 go (Bin .int .leq t12_1 t13_1) h fun t52 h =>
 go (Gd t52 true (Mv t4_2)) h fun t54 h =>
 go (Gd t52 true (Mv t0_2)) h fun t55 h =>
 go (Gd t52 true (Mv t13_1)) h fun t56 h =>
 go (Gd t52 true (Idx 1 t55 t56)) h fun t57 h =>
 go (Gd t52 true (Ld t57)) h fun t58 h =>
 go (Gd t52 true (Mv t0_2)) h fun t59 h =>
 go (Gd t52 true (Mv t1_2)) h fun t60 h =>
 go (Gd t52 true (Idx 1 t59 t60)) h fun t61 h =>
 go (Gd t52 true (Ld t61)) h fun t62 h =>
 go (Gd t52 true (CallV Try.prog t54 [t58, t62])) h fun t63 h =>
 go (Gd t52 true (Bin .int .lss t63 (.int .i64 0))) h fun t64 h =>
 go (Gd t52 true (Un .not t64)) h fun t65 h =>
 go (Pick t52 t65 (.bool false)) h fun t66 h =>
 If t66 (
 go (Bin .int .sub t13_1 (.int .i64 1)) h fun t68 h =>
 X2 t0_2 t1_2 t4_2 t12_1 t68 h) (
 go (Bin .int .gtr t12_1 t13_1) h fun t71 h =>
 If t71 (
 go (Idx 1 t0_2 t1_2) h fun t78 h =>
 go (Ld t78) h fun t79 h =>
 go (Idx 1 t0_2 t13_1) h fun t82 h =>
 go (Ld t82) h fun t83 h =>
 go (Idx 1 t0_2 t13_1) h fun t84 h =>
 go (St t84 t79) h fun _ h =>
 go (Idx 1 t0_2 t1_2) h fun t85 h =>
 go (St t85 t83) h fun _ h =>
 K (.tuple #[t13_1, (.bool true)]) h) (
 go (Idx 1 t0_2 t13_1) h fun t93 h =>
 go (Ld t93) h fun t94 h =>
 go (Idx 1 t0_2 t12_1) h fun t97 h =>
 go (Ld t97) h fun t98 h =>
 go (Idx 1 t0_2 t12_1) h fun t99 h =>
 go (St t99 t94) h fun _ h =>
 go (Idx 1 t0_2 t13_1) h fun t100 h =>
 go (St t100 t98) h fun _ h =>
 go (Bin .int .add t12_1 (.int .i64 1)) h fun t102 h =>
 go (Bin .int .sub t13_1 (.int .i64 1)) h fun t104 h =>
 Lp 5 (fun X3 t0_3 t1_3 t4_3 t12_2 t13_2 h =>
 Lp 5 (fun X4 t0_4 t1_4 t4_4 t12_3 t13_3 h =>
 go (Bin .int .leq t12_3 t13_3) h fun t107 h =>
 go (Gd t107 true (Mv t4_4)) h fun t109 h =>
 go (Gd t107 true (Mv t0_4)) h fun t110 h =>
 go (Gd t107 true (Mv t12_3)) h fun t111 h =>
 go (Gd t107 true (Idx 1 t110 t111)) h fun t112 h =>
 go (Gd t107 true (Ld t112)) h fun t113 h =>
 go (Gd t107 true (Mv t0_4)) h fun t114 h =>
 go (Gd t107 true (Mv t1_4)) h fun t115 h =>
 go (Gd t107 true (Idx 1 t114 t115)) h fun t116 h =>
 go (Gd t107 true (Ld t116)) h fun t117 h =>
 go (Gd t107 true (CallV Try.prog t109 [t113, t117])) h fun t118 h =>
 go (Gd t107 true (Bin .int .lss t118 (.int .i64 0))) h fun t119 h =>
 go (Pick t107 t119 (.bool false)) h fun t120 h =>
 If t120 (
 go (Bin .int .add t12_3 (.int .i64 1)) h fun t122 h =>
 X4 t0_4 t1_4 t4_4 t122 t13_3 h) (
 Lp 5 (fun X5 t0_5 t1_5 t4_5 t12_4 t13_4 h =>
 go (Bin .int .leq t12_4 t13_4) h fun t125 h =>
 go (Gd t125 true (Mv t4_5)) h fun t127 h =>
 go (Gd t125 true (Mv t0_5)) h fun t128 h =>
 go (Gd t125 true (Mv t13_4)) h fun t129 h =>
 go (Gd t125 true (Idx 1 t128 t129)) h fun t130 h =>
 go (Gd t125 true (Ld t130)) h fun t131 h =>
 go (Gd t125 true (Mv t0_5)) h fun t132 h =>
 go (Gd t125 true (Mv t1_5)) h fun t133 h =>
 go (Gd t125 true (Idx 1 t132 t133)) h fun t134 h =>
 go (Gd t125 true (Ld t134)) h fun t135 h =>
 go (Gd t125 true (CallV Try.prog t127 [t131, t135])) h fun t136 h =>
 go (Gd t125 true (Bin .int .lss t136 (.int .i64 0))) h fun t137 h =>
 go (Gd t125 true (Un .not t137)) h fun t138 h =>
 go (Pick t125 t138 (.bool false)) h fun t139 h =>
 If t139 (
 go (Bin .int .sub t13_4 (.int .i64 1)) h fun t141 h =>
 X5 t0_5 t1_5 t4_5 t12_4 t141 h) (
 go (Bin .int .gtr t12_4 t13_4) h fun t144 h =>
 If t144 (
 go (Idx 1 t0_5 t1_5) h fun t169 h =>
 go (Ld t169) h fun t170 h =>
 go (Idx 1 t0_5 t13_4) h fun t173 h =>
 go (Ld t173) h fun t174 h =>
 go (Idx 1 t0_5 t13_4) h fun t175 h =>
 go (St t175 t170) h fun _ h =>
 go (Idx 1 t0_5 t1_5) h fun t176 h =>
 go (St t176 t174) h fun _ h =>
 K (.tuple #[t13_4, (.bool false)]) h) (
 go (Idx 1 t0_5 t13_4) h fun t151 h =>
 go (Ld t151) h fun t152 h =>
 go (Idx 1 t0_5 t12_4) h fun t155 h =>
 go (Ld t155) h fun t156 h =>
 go (Idx 1 t0_5 t12_4) h fun t157 h =>
 go (St t157 t152) h fun _ h =>
 go (Idx 1 t0_5 t13_4) h fun t158 h =>
 go (St t158 t156) h fun _ h =>
 go (Bin .int .add t12_4 (.int .i64 1)) h fun t160 h =>
 go (Bin .int .sub t13_4 (.int .i64 1)) h fun t162 h =>
 X3 t0_5 t1_5 t4_5 t160 t162 h))) [t0_4, t1_4, t4_4, t12_3, t13_3] h)) [t0_3, t1_3, t4_3, t12_2, t13_2] h) [t0_2, t1_2, t4_2, t102, t104] h))) [t0_1, t1_1, t4_1, t12, t13] h)) [t0, t1, t4, t29, t31] h
set_option maxRecDepth 100000 in
theorem slices_partitionCmpFunc_int.eq : (fun t0 t1 t2 t3 t4 K h => slices_partitionCmpFunc_int.pt t0 t1 t2 t3 t4 K h : Value → Value → Value → Value → Value → Ret → Heap → Prop) = (fun t0 t1 t2 t3 t4 K h => fnPt Try.prog [16, 17, 19, 26, 31, 32, 35, 42, 43] Try.f63 slices_partitionCmpFunc_int.ann [t0, t1, t2, t3, t4] K h) := by kernel_rfl
set_option maxRecDepth 100000 in
theorem slices_partitionCmpFunc_int.ok {t0 t1 t2 t3 t4 : Value} {K : Ret} {h : Heap} (hp : slices_partitionCmpFunc_int.pt t0 t1 t2 t3 t4 K h) : CallH Try.prog 63 #[t0, t1, t2, t3, t4] K h :=
  fn_sound (qs := [16, 17, 19, 26, 31, 32, 35, 42, 43]) (fn := Try.f63) (ann := slices_partitionCmpFunc_int.ann) (args := [t0, t1, t2, t3, t4]) follows_mixed Try.func63 ((Eq.to_iff (congrFun (congrFun (congrFun (congrFun (congrFun (congrFun (congrFun (slices_partitionCmpFunc_int.eq) t0) t1) t2) t3) t4) K) h)).mp hp)

/-! ### math/bits.Len64: function 65 -/
abbrev bits_Len64.id : FuncId := 65
def bits_Len64.ann : Ann := (.seq none .leaf (.seq (some [0, 2]) (.seq none .leaf (.cond (.seq none .leaf .leaf) .leaf)) (.seq (some [0, 2]) (.seq none .leaf (.cond (.seq none .leaf .leaf) .leaf)) (.seq (some [0, 2]) (.seq none .leaf (.cond (.seq none .leaf .leaf) .leaf)) (.seq none .leaf .leaf)))))
set_option maxRecDepth 100000 in
def bits_Len64.pt (t0 : Value) (K : Ret) (h : Heap) : Prop :=
 Join 2 (fun J1 =>
 go (Bin .int .geq t0 (.int .u64 4294967296)) h fun t4 h =>
 If t4 (
 go (Bin .int .shr t0 (.int .u64 32)) h fun t6 h =>
 J1 t6 (.int .i64 32) h) (
 J1 t0 (.int .i64 0) h)) (fun t0_1 t2 h =>
 Join 2 (fun J2 =>
 go (Bin .int .geq t0_1 (.int .u64 65536)) h fun t8 h =>
 If t8 (
 go (Bin .int .shr t0_1 (.int .u64 16)) h fun t10 h =>
 go (Bin .int .add t2 (.int .i64 16)) h fun t12 h =>
 J2 t10 t12 h) (
 J2 t0_1 t2 h)) (fun t0_2 t2_1 h =>
 Join 2 (fun J3 =>
 go (Bin .int .geq t0_2 (.int .u64 256)) h fun t14 h =>
 If t14 (
 go (Bin .int .shr t0_2 (.int .u64 8)) h fun t16 h =>
 go (Bin .int .add t2_1 (.int .i64 8)) h fun t18 h =>
 J3 t16 t18 h) (
 J3 t0_2 t2_1 h)) (fun t0_3 t2_2 h =>
 go (Cvt .u8 t0_3) h fun t21 h =>
 go (IdxS (.string ⟨#[0, 1, 2, 2, 3, 3, 3, 3, 4, 4, 4, 4, 4, 4, 4, 4, 5, 5, 5, 5, 5, 5, 5, 5, 5, 5, 5, 5, 5, 5, 5, 5, 6, 6, 6, 6, 6, 6, 6, 6, 6, 6, 6, 6, 6, 6, 6, 6, 6, 6, 6, 6, 6, 6, 6, 6, 6, 6, 6, 6, 6, 6, 6, 6, 7, 7, 7, 7, 7, 7, 7, 7, 7, 7, 7, 7, 7, 7, 7, 7, 7, 7, 7, 7, 7, 7, 7, 7, 7, 7, 7, 7, 7, 7, 7, 7, 7, 7, 7, 7, 7, 7, 7, 7, 7, 7, 7, 7, 7, 7, 7, 7, 7, 7, 7, 7, 7, 7, 7, 7, 7, 7, 7, 7, 7, 7, 7, 7, 8, 8, 8, 8, 8, 8, 8, 8, 8, 8, 8, 8, 8, 8, 8, 8, 8, 8, 8, 8, 8, 8, 8, 8, 8, 8, 8, 8, 8, 8, 8, 8, 8, 8, 8, 8, 8, 8, 8, 8, 8, 8, 8, 8, 8, 8, 8, 8, 8, 8, 8, 8, 8, 8, 8, 8, 8, 8, 8, 8, 8, 8, 8, 8, 8, 8, 8, 8, 8, 8, 8, 8, 8, 8, 8, 8, 8, 8, 8, 8, 8, 8, 8, 8, 8, 8, 8, 8, 8, 8, 8, 8, 8, 8, 8, 8, 8, 8, 8, 8, 8, 8, 8, 8, 8, 8, 8, 8, 8, 8, 8, 8, 8, 8, 8, 8, 8, 8, 8, 8, 8, 8, 8, 8, 8, 8, 8, 8]⟩) t21) h fun t22 h =>
 go (Cvt .i64 t22) h fun t23 h =>
 go (Bin .int .add t2_2 t23) h fun t24 h =>
 K t24 h)))
set_option maxRecDepth 100000 in
theorem bits_Len64.eq : (fun t0 K h => bits_Len64.pt t0 K h : Value → Ret → Heap → Prop) = (fun t0 K h => fnPt Try.prog [16, 17, 19, 26, 31, 32, 35, 42, 43] Try.f65 bits_Len64.ann [t0] K h) := by kernel_rfl
set_option maxRecDepth 100000 in
theorem bits_Len64.ok {t0 : Value} {K : Ret} {h : Heap} (hp : bits_Len64.pt t0 K h) : CallH Try.prog 65 #[t0] K h :=
  fn_sound (qs := [16, 17, 19, 26, 31, 32, 35, 42, 43]) (fn := Try.f65) (ann := bits_Len64.ann) (args := [t0]) follows_mixed Try.func65 ((Eq.to_iff (congrFun (congrFun (congrFun (bits_Len64.eq) t0) K) h)).mp hp)

/-! ### cmp.isNaN[int]: function 66 -/
abbrev cmp_isNaN_int.id : FuncId := 66
def cmp_isNaN_int.ann : Ann := (.seq none .leaf (.seq none .leaf .leaf))
set_option maxRecDepth 100000 in
def cmp_isNaN_int.pt (t0 : Value) (K : Ret) (h : Heap) : Prop :=
 go (Bin .int .neq t0 t0) h fun t5 h =>
 K t5 h
set_option maxRecDepth 100000 in
theorem cmp_isNaN_int.eq : (fun t0 K h => cmp_isNaN_int.pt t0 K h : Value → Ret → Heap → Prop) = (fun t0 K h => fnPt Try.prog [16, 17, 19, 26, 31, 32, 35, 42, 43] Try.f66 cmp_isNaN_int.ann [t0] K h) := by kernel_rfl
set_option maxRecDepth 100000 in
theorem cmp_isNaN_int.ok {t0 : Value} {K : Ret} {h : Heap} (hp : cmp_isNaN_int.pt t0 K h) : CallH Try.prog 66 #[t0] K h :=
  fn_sound (qs := [16, 17, 19, 26, 31, 32, 35, 42, 43]) (fn := Try.f66) (ann := cmp_isNaN_int.ann) (args := [t0]) follows_mixed Try.func66 ((Eq.to_iff (congrFun (congrFun (congrFun (cmp_isNaN_int.eq) t0) K) h)).mp hp)

/-! ### slices.siftDownCmpFunc[int]: function 67 -/
abbrev slices_siftDownCmpFunc_int.id : FuncId := 67
def slices_siftDownCmpFunc_int.ann : Ann := (.seq none .leaf (.block (.loop [0, 2, 3, 4, 10] (.block (.seq none .leaf (.seq none (.seq none .leaf (.cond .leaf .leaf)) (.seq (some [0, 2, 3, 4, 10, 11]) (.seq none .leaf (.cond .leaf .leaf)) (.seq none (.seq none .leaf (.cond .leaf .leaf)) (.seq none .leaf .leaf)))))))))
set_option maxRecDepth 100000 in
def slices_siftDownCmpFunc_int.pt (t0 t1 t2 t3 t4 : Value) (K : Ret) (h : Heap) : Prop :=
 Lp 5 (fun X1 t0_1 t2_1 t3_1 t4_1 t10 h =>
 go (Bin .int .mul (.int .i64 2) t10) h fun t14 h =>
 go (Bin .int .add t14 (.int .i64 1)) h fun t15 h =>
 go (Bin .int .geq t15 t2_1) h fun t18 h =>
 If t18 (
 K (.tuple #[]) h) (
 Join 6 (fun J2 =>
 go (Bin .int .add t15 (.int .i64 1)) h fun t20 h =>
 go (Bin .int .lss t20 t2_1) h fun t22 h =>
 go (Gd t22 true (Mv t4_1)) h fun t24 h =>
 go (Gd t22 true (Mv t0_1)) h fun t25 h =>
 go (Gd t22 true (Mv t3_1)) h fun t26 h =>
 go (Gd t22 true (Mv t15)) h fun t27 h =>
 go (Gd t22 true (Bin .int .add t26 t27)) h fun t28 h =>
 go (Gd t22 true (Idx 1 t25 t28)) h fun t29 h =>
 go (Gd t22 true (Ld t29)) h fun t30 h =>
 go (Gd t22 true (Mv t0_1)) h fun t31 h =>
 go (Gd t22 true (Mv t3_1)) h fun t32 h =>
 go (Gd t22 true (Mv t15)) h fun t33 h =>
 go (Gd t22 true (Bin .int .add t32 t33)) h fun t34 h =>
 go (Gd t22 true (Bin .int .add t34 (.int .i64 1))) h fun t35 h =>
 go (Gd t22 true (Idx 1 t31 t35)) h fun t36 h =>
 go (Gd t22 true (Ld t36)) h fun t37 h =>
 go (Gd t22 true (CallV Try.prog t24 [t30, t37])) h fun t38 h =>
 go (Gd t22 true (Bin .int .lss t38 (.int .i64 0))) h fun t39 h =>
 go (Pick t22 t39 (.bool false)) h fun t40 h =>
 If t40 (
 go (Bin .int .add t15 (.int .i64 1)) h fun t42 h =>
 J2 t0_1 t2_1 t3_1 t4_1 t10 t42 h) (
 J2 t0_1 t2_1 t3_1 t4_1 t10 t15 h)) (fun t0_2 t2_2 t3_2 t4_2 t10_1 t11 h =>
 go (Bin .int .add t3_2 t10_1) h fun t47 h =>
 go (Idx 1 t0_2 t47) h fun t48 h =>
 go (Ld t48) h fun t49 h =>
 go (Bin .int .add t3_2 t11) h fun t53 h =>
 go (Idx 1 t0_2 t53) h fun t54 h =>
 go (Ld t54) h fun t55 h =>
 go (CallV Try.prog t4_2 [t49, t55]) h fun t56 h =>
 go (Bin .int .lss t56 (.int .i64 0)) h fun t57 h =>
 go (Un .not t57) h fun t58 h =>
 If t58 (
 K (.tuple #[]) h) (
 go (Bin .int .add t3_2 t10_1) h fun t62 h =>
 go (Bin .int .add t3_2 t11) h fun t66 h =>
 go (Bin .int .add t3_2 t11) h fun t70 h =>
 go (Idx 1 t0_2 t70) h fun t71 h =>
 go (Ld t71) h fun t72 h =>
 go (Bin .int .add t3_2 t10_1) h fun t76 h =>
 go (Idx 1 t0_2 t76) h fun t77 h =>
 go (Ld t77) h fun t78 h =>
 go (Idx 1 t0_2 t62) h fun t79 h =>
 go (St t79 t72) h fun _ h =>
 go (Idx 1 t0_2 t66) h fun t80 h =>
 go (St t80 t78) h fun _ h =>
 X1 t0_2 t2_2 t3_2 t4_2 t11 h)))) [t0, t2, t3, t4, t1] h
set_option maxRecDepth 100000 in
theorem slices_siftDownCmpFunc_int.eq : (fun t0 t1 t2 t3 t4 K h => slices_siftDownCmpFunc_int.pt t0 t1 t2 t3 t4 K h : Value → Value → Value → Value → Value → Ret → Heap → Prop) = (fun t0 t1 t2 t3 t4 K h => fnPt Try.prog [16, 17, 19, 26, 31, 32, 35, 42, 43] Try.f67 slices_siftDownCmpFunc_int.ann [t0, t1, t2, t3, t4] K h) := by kernel_rfl
set_option maxRecDepth 100000 in
theorem slices_siftDownCmpFunc_int.ok {t0 t1 t2 t3 t4 : Value} {K : Ret} {h : Heap} (hp : slices_siftDownCmpFunc_int.pt t0 t1 t2 t3 t4 K h) : CallH Try.prog 67 #[t0, t1, t2, t3, t4] K h :=
  fn_sound (qs := [16, 17, 19, 26, 31, 32, 35, 42, 43]) (fn := Try.f67) (ann := slices_siftDownCmpFunc_int.ann) (args := [t0, t1, t2, t3, t4]) follows_mixed Try.func67 ((Eq.to_iff (congrFun (congrFun (congrFun (congrFun (congrFun (congrFun (congrFun (slices_siftDownCmpFunc_int.eq) t0) t1) t2) t3) t4) K) h)).mp hp)

/-! ### slices.nextPowerOfTwo: function 68 -/
abbrev slices_nextPowerOfTwo.id : FuncId := 68
def slices_nextPowerOfTwo.ann : Ann := (.seq none .leaf (.seq none .leaf .leaf))
set_option maxRecDepth 100000 in
def slices_nextPowerOfTwo.pt (t0 : Value) (K : Ret) (h : Heap) : Prop :=
 go (Cvt .u64 t0) h fun t4 h =>
 go (CallF Try.prog 54 [t4]) h fun t5 h =>
 go (Bin .int .shl (.int .u64 1) t5) h fun t6 h =>
 K t6 h
set_option maxRecDepth 100000 in
theorem slices_nextPowerOfTwo.eq : (fun t0 K h => slices_nextPowerOfTwo.pt t0 K h : Value → Ret → Heap → Prop) = (fun t0 K h => fnPt Try.prog [16, 17, 19, 26, 31, 32, 35, 42, 43] Try.f68 slices_nextPowerOfTwo.ann [t0] K h) := by kernel_rfl
set_option maxRecDepth 100000 in
theorem slices_nextPowerOfTwo.ok {t0 : Value} {K : Ret} {h : Heap} (hp : slices_nextPowerOfTwo.pt t0 K h) : CallH Try.prog 68 #[t0] K h :=
  fn_sound (qs := [16, 17, 19, 26, 31, 32, 35, 42, 43]) (fn := Try.f68) (ann := slices_nextPowerOfTwo.ann) (args := [t0]) follows_mixed Try.func68 ((Eq.to_iff (congrFun (congrFun (congrFun (slices_nextPowerOfTwo.eq) t0) K) h)).mp hp)

/-! ### (*slices.xorshift).Next: function 69 -/
abbrev slices_xorshift_Next.id : FuncId := 69
def slices_xorshift_Next.ann : Ann := (.seq none .leaf (.seq none .leaf (.seq none .leaf (.seq none .leaf (.seq none .leaf .leaf)))))
set_option maxRecDepth 100000 in
def slices_xorshift_Next.pt (t0 : Value) (K : Ret) (h : Heap) : Prop :=
 go (NilC t0) h fun t4 h =>
 go (Ld t4) h fun t5 h =>
 go (NilC t0) h fun t7 h =>
 go (Ld t7) h fun t8 h =>
 go (Bin .int .shl t8 (.int .u64 13)) h fun t9 h =>
 go (Bin .int .xor t5 t9) h fun t10 h =>
 go (NilC t0) h fun t11 h =>
 go (St t11 t10) h fun _ h =>
 go (NilC t0) h fun t13 h =>
 go (Ld t13) h fun t14 h =>
 go (NilC t0) h fun t16 h =>
 go (Ld t16) h fun t17 h =>
 go (Bin .int .shr t17 (.int .u64 7)) h fun t18 h =>
 go (Bin .int .xor t14 t18) h fun t19 h =>
 go (NilC t0) h fun t20 h =>
 go (St t20 t19) h fun _ h =>
 go (NilC t0) h fun t22 h =>
 go (Ld t22) h fun t23 h =>
 go (NilC t0) h fun t25 h =>
 go (Ld t25) h fun t26 h =>
 go (Bin .int .shl t26 (.int .u64 17)) h fun t27 h =>
 go (Bin .int .xor t23 t27) h fun t28 h =>
 go (NilC t0) h fun t29 h =>
 go (St t29 t28) h fun _ h =>
 go (NilC t0) h fun t31 h =>
 go (Ld t31) h fun t32 h =>
 K t32 h
set_option maxRecDepth 100000 in
theorem slices_xorshift_Next.eq : (fun t0 K h => slices_xorshift_Next.pt t0 K h : Value → Ret → Heap → Prop) = (fun t0 K h => fnPt Try.prog [16, 17, 19, 26, 31, 32, 35, 42, 43] Try.f69 slices_xorshift_Next.ann [t0] K h) := by kernel_rfl
set_option maxRecDepth 100000 in
theorem slices_xorshift_Next.ok {t0 : Value} {K : Ret} {h : Heap} (hp : slices_xorshift_Next.pt t0 K h) : CallH Try.prog 69 #[t0] K h :=
  fn_sound (qs := [16, 17, 19, 26, 31, 32, 35, 42, 43]) (fn := Try.f69) (ann := slices_xorshift_Next.ann) (args := [t0]) follows_mixed Try.func69 ((Eq.to_iff (congrFun (congrFun (congrFun (slices_xorshift_Next.eq) t0) K) h)).mp hp)

/-! ### slices.medianAdjacentCmpFunc[int]: function 70 -/
abbrev slices_medianAdjacentCmpFunc_int.id : FuncId := 70
def slices_medianAdjacentCmpFunc_int.ann : Ann := (.seq none .leaf (.seq none .leaf .leaf))
set_option maxRecDepth 100000 in
def slices_medianAdjacentCmpFunc_int.pt (t0 t1 t2 t3 : Value) (K : Ret) (h : Heap) : Prop :=
 go (Bin .int .sub t1 (.int .i64 1)) h fun t11 h =>
 go (Bin .int .add t1 (.int .i64 1)) h fun t14 h =>
 go (CallF Try.prog 71 [t0, t11, t1, t14, t2, t3]) h fun t17 h =>
 K t17 h
set_option maxRecDepth 100000 in
theorem slices_medianAdjacentCmpFunc_int.eq : (fun t0 t1 t2 t3 K h => slices_medianAdjacentCmpFunc_int.pt t0 t1 t2 t3 K h : Value → Value → Value → Value → Ret → Heap → Prop) = (fun t0 t1 t2 t3 K h => fnPt Try.prog [16, 17, 19, 26, 31, 32, 35, 42, 43] Try.f70 slices_medianAdjacentCmpFunc_int.ann [t0, t1, t2, t3] K h) := by kernel_rfl
set_option maxRecDepth 100000 in
theorem slices_medianAdjacentCmpFunc_int.ok {t0 t1 t2 t3 : Value} {K : Ret} {h : Heap} (hp : slices_medianAdjacentCmpFunc_int.pt t0 t1 t2 t3 K h) : CallH Try.prog 70 #[t0, t1, t2, t3] K h :=
  fn_sound (qs := [16, 17, 19, 26, 31, 32, 35, 42, 43]) (fn := Try.f70) (ann := slices_medianAdjacentCmpFunc_int.ann) (args := [t0, t1, t2, t3]) follows_mixed Try.func70 ((Eq.to_iff (congrFun (congrFun (congrFun (congrFun (congrFun (congrFun (slices_medianAdjacentCmpFunc_int.eq) t0) t1) t2) t3) K) h)).mp hp)

/-! ### slices.medianCmpFunc[int]: function 71 -/
abbrev slices_medianCmpFunc_int.id : FuncId := 71
def slices_medianCmpFunc_int.ann : Ann := (.seq none .leaf (.seq none .leaf (.seq none .leaf (.seq none .leaf (.seq none .leaf .leaf)))))
set_option maxRecDepth 100000 in
def slices_medianCmpFunc_int.pt (t0 t1 t2 t3 t4 t5 : Value) (K : Ret) (h : Heap) : Prop :=
 go (CallF Try.prog 72 [t0, t1, t2, t4, t5]) h fun t19 h =>
 go (Ext 0 t19) h fun t20 h =>
 go (Ext 1 t19) h fun t21 h =>
 go (CallF Try.prog 72 [t0, t21, t3, t4, t5]) h fun t28 h =>
 go (Ext 0 t28) h fun t29 h =>
 go (Ext 1 t28) h fun t30 h =>
 go (CallF Try.prog 72 [t0, t20, t29, t4, t5]) h fun t37 h =>
 go (Ext 0 t37) h fun t38 h =>
 go (Ext 1 t37) h fun t39 h =>
 K t39 h
set_option maxRecDepth 100000 in
theorem slices_medianCmpFunc_int.eq : (fun t0 t1 t2 t3 t4 t5 K h => slices_medianCmpFunc_int.pt t0 t1 t2 t3 t4 t5 K h : Value → Value → Value → Value → Value → Value → Ret → Heap → Prop) = (fun t0 t1 t2 t3 t4 t5 K h => fnPt Try.prog [16, 17, 19, 26, 31, 32, 35, 42, 43] Try.f71 slices_medianCmpFunc_int.ann [t0, t1, t2, t3, t4, t5] K h) := by kernel_rfl
set_option maxRecDepth 100000 in
theorem slices_medianCmpFunc_int.ok {t0 t1 t2 t3 t4 t5 : Value} {K : Ret} {h : Heap} (hp : slices_medianCmpFunc_int.pt t0 t1 t2 t3 t4 t5 K h) : CallH Try.prog 71 #[t0, t1, t2, t3, t4, t5] K h :=
  fn_sound (qs := [16, 17, 19, 26, 31, 32, 35, 42, 43]) (fn := Try.f71) (ann := slices_medianCmpFunc_int.ann) (args := [t0, t1, t2, t3, t4, t5]) follows_mixed Try.func71 ((Eq.to_iff (congrFun (congrFun (congrFun (congrFun (congrFun (congrFun (congrFun (congrFun (slices_medianCmpFunc_int.eq) t0) t1) t2) t3) t4) t5) K) h)).mp hp)

/-! ### slices.order2CmpFunc[int]: function 72 -/
abbrev slices_order2CmpFunc_int.id : FuncId := 72
def slices_order2CmpFunc_int.ann : Ann := (.seq none .leaf (.seq none (.seq none .leaf (.cond (.seq none .leaf (.seq none .leaf .leaf)) .leaf)) (.seq none .leaf .leaf)))
set_option maxRecDepth 100000 in
def slices_order2CmpFunc_int.pt (t0 t1 t2 t3 t4 : Value) (K : Ret) (h : Heap) : Prop :=
 go (Idx 1 t0 t2) h fun t15 h =>
 go (Ld t15) h fun t16 h =>
 go (Idx 1 t0 t1) h fun t19 h =>
 go (Ld t19) h fun t20 h =>
 go (CallV Try.prog t4 [t16, t20]) h fun t21 h =>
 go (Bin .int .lss t21 (.int .i64 0)) h fun t22 h =>
 If t22 (
 go (NilC t3) h fun t24 h =>
 go (Ld t24) h fun t25 h =>
 go (Bin .int .add t25 (.int .i64 1)) h fun t26 h =>
 go (NilC t3) h fun t27 h =>
 go (St t27 t26) h fun _ h =>
 K (.tuple #[t2, t1]) h) (
 K (.tuple #[t1, t2]) h)
set_option maxRecDepth 100000 in
theorem slices_order2CmpFunc_int.eq : (fun t0 t1 t2 t3 t4 K h => slices_order2CmpFunc_int.pt t0 t1 t2 t3 t4 K h : Value → Value → Value → Value → Value → Ret → Heap → Prop) = (fun t0 t1 t2 t3 t4 K h => fnPt Try.prog [16, 17, 19, 26, 31, 32, 35, 42, 43] Try.f72 slices_order2CmpFunc_int.ann [t0, t1, t2, t3, t4] K h) := by kernel_rfl
set_option maxRecDepth 100000 in
theorem slices_order2CmpFunc_int.ok {t0 t1 t2 t3 t4 : Value} {K : Ret} {h : Heap} (hp : slices_order2CmpFunc_int.pt t0 t1 t2 t3 t4 K h) : CallH Try.prog 72 #[t0, t1, t2, t3, t4] K h :=
  fn_sound (qs := [16, 17, 19, 26, 31, 32, 35, 42, 43]) (fn := Try.f72) (ann := slices_order2CmpFunc_int.ann) (args := [t0, t1, t2, t3, t4]) follows_mixed Try.func72 ((Eq.to_iff (congrFun (congrFun (congrFun (congrFun (congrFun (congrFun (congrFun (slices_order2CmpFunc_int.eq) t0) t1) t2) t3) t4) K) h)).mp hp)

end Go.Proofs.Yteahhifkkjfhoaa
