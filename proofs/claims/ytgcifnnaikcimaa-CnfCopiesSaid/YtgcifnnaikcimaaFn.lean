/- What each Go function asks, in the primitives of Pt; written by a program of mine (ptgen.py) out of the translation; Lean checks that it is so. -/
import Derived.Test.YtgcifnnaikcimaaProg
import Derived.KernelRfl
import Derived.Test.YtgcifnnaikcimaaPtO
namespace Go.Proofs.Ytgcifnnaikcimaa
open Go.Pt
set_option linter.unusedVariables false
theorem follows_mixed : Try.prog.follows .mixedOrders = true := by kernel_rfl
/-! ### bradawl/bradawllaw02.CnfCopies: function 7 -/
abbrev bradawllaw02_CnfCopies.id : FuncId := 7
def bradawllaw02_CnfCopies.ann : Ann := (.seq none .leaf (.seq none (.seq none .leaf (.cond (.seq none .leaf .leaf) .leaf)) (.seq none (.seq none .leaf (.cond (.seq none .leaf .leaf) .leaf)) (.seq (some [3, 4]) .leaf (.seq none .leaf (.seq none (.seq none .leaf (.cond (.seq none .leaf .leaf) .leaf)) (.seq none (.seq none .leaf (.block (.loop [3, 4, 5, 25, 26] (.seq none .leaf (.seq none (.cond .leaf .leaf) (.seq none (.block (.seq none .leaf (.seq none .leaf (.block (.loop [3, 4, 5, 6, 25, 26, 34, 35] (.seq none .leaf (.seq none (.cond .leaf .leaf) (.seq none (.block (.seq none .leaf .leaf)) .leaf)))))))) .leaf)))))) (.seq none .leaf .leaf))))))))
set_option maxRecDepth 100000 in
def bradawllaw02_CnfCopies.pt (t0 : Value) (K : Ret) (h : Heap) : Prop :=
 go (New (Value.cells t0) 24) h fun t1 h =>
 go (CallF Try.prog 8 []) h fun t8 h =>
 go (Un .not t8) h fun t9 h =>
 If t9 (
 K (.bool false) h) (
 go (LdA 2 t1) h fun t10 h =>
 go (CallF Try.prog 9 [t10, (.int .i64 40)]) h fun t11 h =>
 go (Un .not t11) h fun t12 h =>
 If t12 (
 K (.bool true) h) (
 Join 2 (fun J1 =>
 (go (LdA 2 t1) h fun t13 h =>
 (go (CallF Try.prog 10 [t13, (.int .i64 12), (.int .i64 9)]) h fun t14 h =>
 (go (LdA 2 t1) h fun t15 h =>
 (go (CallF Try.prog 10 [t15, (.int .i64 12), (.int .i64 9)]) h fun t16 h =>
 (go (New #[(.int .i64 0), (.slice none 0 0)] 29) h fun t3 h =>
 go (New #[(.int .i64 0), (.slice none 0 0)] 29) h fun t4 h =>
 go (StA 2 t3 t14) h fun _ h =>
 go (StA 2 t4 t16) h fun _ h =>
 J1 t3 t4 h) ∧
 (go (New #[(.int .i64 0), (.slice none 0 0)] 29) h fun t4_1 h =>
 go (New #[(.int .i64 0), (.slice none 0 0)] 29) h fun t3_1 h =>
 go (StA 2 t3_1 t14) h fun _ h =>
 go (StA 2 t4_1 t16) h fun _ h =>
 J1 t3_1 t4_1 h)) ∧
 (go (New #[(.int .i64 0), (.slice none 0 0)] 29) h fun t3_2 h =>
 (go (CallF Try.prog 10 [t15, (.int .i64 12), (.int .i64 9)]) h fun t16_1 h =>
 go (New #[(.int .i64 0), (.slice none 0 0)] 29) h fun t4_2 h =>
 go (StA 2 t3_2 t14) h fun _ h =>
 go (StA 2 t4_2 t16_1) h fun _ h =>
 J1 t3_2 t4_2 h) ∧
 (go (New #[(.int .i64 0), (.slice none 0 0)] 29) h fun t4_3 h =>
 go (CallF Try.prog 10 [t15, (.int .i64 12), (.int .i64 9)]) h fun t16_2 h =>
 go (StA 2 t3_2 t14) h fun _ h =>
 go (StA 2 t4_3 t16_2) h fun _ h =>
 J1 t3_2 t4_3 h)) ∧
 (go (New #[(.int .i64 0), (.slice none 0 0)] 29) h fun t4_4 h =>
 (go (CallF Try.prog 10 [t15, (.int .i64 12), (.int .i64 9)]) h fun t16_3 h =>
 go (New #[(.int .i64 0), (.slice none 0 0)] 29) h fun t3_3 h =>
 go (StA 2 t3_3 t14) h fun _ h =>
 go (StA 2 t4_4 t16_3) h fun _ h =>
 J1 t3_3 t4_4 h) ∧
 (go (New #[(.int .i64 0), (.slice none 0 0)] 29) h fun t3_4 h =>
 go (CallF Try.prog 10 [t15, (.int .i64 12), (.int .i64 9)]) h fun t16_4 h =>
 go (StA 2 t3_4 t14) h fun _ h =>
 go (StA 2 t4_4 t16_4) h fun _ h =>
 J1 t3_4 t4_4 h))) ∧
 (go (New #[(.int .i64 0), (.slice none 0 0)] 29) h fun t3_5 h =>
 (go (LdA 2 t1) h fun t15_1 h =>
 (go (CallF Try.prog 10 [t15_1, (.int .i64 12), (.int .i64 9)]) h fun t16_5 h =>
 go (New #[(.int .i64 0), (.slice none 0 0)] 29) h fun t4_5 h =>
 go (StA 2 t3_5 t14) h fun _ h =>
 go (StA 2 t4_5 t16_5) h fun _ h =>
 J1 t3_5 t4_5 h) ∧
 (go (New #[(.int .i64 0), (.slice none 0 0)] 29) h fun t4_6 h =>
 go (CallF Try.prog 10 [t15_1, (.int .i64 12), (.int .i64 9)]) h fun t16_6 h =>
 go (StA 2 t3_5 t14) h fun _ h =>
 go (StA 2 t4_6 t16_6) h fun _ h =>
 J1 t3_5 t4_6 h)) ∧
 (go (New #[(.int .i64 0), (.slice none 0 0)] 29) h fun t4_7 h =>
 go (LdA 2 t1) h fun t15_2 h =>
 go (CallF Try.prog 10 [t15_2, (.int .i64 12), (.int .i64 9)]) h fun t16_7 h =>
 go (StA 2 t3_5 t14) h fun _ h =>
 go (StA 2 t4_7 t16_7) h fun _ h =>
 J1 t3_5 t4_7 h)) ∧
 (go (New #[(.int .i64 0), (.slice none 0 0)] 29) h fun t4_8 h =>
 (go (LdA 2 t1) h fun t15_3 h =>
 (go (CallF Try.prog 10 [t15_3, (.int .i64 12), (.int .i64 9)]) h fun t16_8 h =>
 go (New #[(.int .i64 0), (.slice none 0 0)] 29) h fun t3_6 h =>
 go (StA 2 t3_6 t14) h fun _ h =>
 go (StA 2 t4_8 t16_8) h fun _ h =>
 J1 t3_6 t4_8 h) ∧
 (go (New #[(.int .i64 0), (.slice none 0 0)] 29) h fun t3_7 h =>
 go (CallF Try.prog 10 [t15_3, (.int .i64 12), (.int .i64 9)]) h fun t16_9 h =>
 go (StA 2 t3_7 t14) h fun _ h =>
 go (StA 2 t4_8 t16_9) h fun _ h =>
 J1 t3_7 t4_8 h)) ∧
 (go (New #[(.int .i64 0), (.slice none 0 0)] 29) h fun t3_8 h =>
 go (LdA 2 t1) h fun t15_4 h =>
 go (CallF Try.prog 10 [t15_4, (.int .i64 12), (.int .i64 9)]) h fun t16_10 h =>
 go (StA 2 t3_8 t14) h fun _ h =>
 go (StA 2 t4_8 t16_10) h fun _ h =>
 J1 t3_8 t4_8 h))) ∧
 (go (LdA 2 t1) h fun t15_5 h =>
 (go (CallF Try.prog 10 [t13, (.int .i64 12), (.int .i64 9)]) h fun t14_1 h =>
 (go (CallF Try.prog 10 [t15_5, (.int .i64 12), (.int .i64 9)]) h fun t16_11 h =>
 (go (New #[(.int .i64 0), (.slice none 0 0)] 29) h fun t3_9 h =>
 go (New #[(.int .i64 0), (.slice none 0 0)] 29) h fun t4_9 h =>
 go (StA 2 t3_9 t14_1) h fun _ h =>
 go (StA 2 t4_9 t16_11) h fun _ h =>
 J1 t3_9 t4_9 h) ∧
 (go (New #[(.int .i64 0), (.slice none 0 0)] 29) h fun t4_10 h =>
 go (New #[(.int .i64 0), (.slice none 0 0)] 29) h fun t3_10 h =>
 go (StA 2 t3_10 t14_1) h fun _ h =>
 go (StA 2 t4_10 t16_11) h fun _ h =>
 J1 t3_10 t4_10 h)) ∧
 (go (New #[(.int .i64 0), (.slice none 0 0)] 29) h fun t3_11 h =>
 (go (CallF Try.prog 10 [t15_5, (.int .i64 12), (.int .i64 9)]) h fun t16_12 h =>
 go (New #[(.int .i64 0), (.slice none 0 0)] 29) h fun t4_11 h =>
 go (StA 2 t3_11 t14_1) h fun _ h =>
 go (StA 2 t4_11 t16_12) h fun _ h =>
 J1 t3_11 t4_11 h) ∧
 (go (New #[(.int .i64 0), (.slice none 0 0)] 29) h fun t4_12 h =>
 go (CallF Try.prog 10 [t15_5, (.int .i64 12), (.int .i64 9)]) h fun t16_13 h =>
 go (StA 2 t3_11 t14_1) h fun _ h =>
 go (StA 2 t4_12 t16_13) h fun _ h =>
 J1 t3_11 t4_12 h)) ∧
 (go (New #[(.int .i64 0), (.slice none 0 0)] 29) h fun t4_13 h =>
 (go (CallF Try.prog 10 [t15_5, (.int .i64 12), (.int .i64 9)]) h fun t16_14 h =>
 go (New #[(.int .i64 0), (.slice none 0 0)] 29) h fun t3_12 h =>
 go (StA 2 t3_12 t14_1) h fun _ h =>
 go (StA 2 t4_13 t16_14) h fun _ h =>
 J1 t3_12 t4_13 h) ∧
 (go (New #[(.int .i64 0), (.slice none 0 0)] 29) h fun t3_13 h =>
 go (CallF Try.prog 10 [t15_5, (.int .i64 12), (.int .i64 9)]) h fun t16_15 h =>
 go (StA 2 t3_13 t14_1) h fun _ h =>
 go (StA 2 t4_13 t16_15) h fun _ h =>
 J1 t3_13 t4_13 h))) ∧
 (go (New #[(.int .i64 0), (.slice none 0 0)] 29) h fun t3_14 h =>
 (go (CallF Try.prog 10 [t13, (.int .i64 12), (.int .i64 9)]) h fun t14_2 h =>
 (go (CallF Try.prog 10 [t15_5, (.int .i64 12), (.int .i64 9)]) h fun t16_16 h =>
 go (New #[(.int .i64 0), (.slice none 0 0)] 29) h fun t4_14 h =>
 go (StA 2 t3_14 t14_2) h fun _ h =>
 go (StA 2 t4_14 t16_16) h fun _ h =>
 J1 t3_14 t4_14 h) ∧
 (go (New #[(.int .i64 0), (.slice none 0 0)] 29) h fun t4_15 h =>
 go (CallF Try.prog 10 [t15_5, (.int .i64 12), (.int .i64 9)]) h fun t16_17 h =>
 go (StA 2 t3_14 t14_2) h fun _ h =>
 go (StA 2 t4_15 t16_17) h fun _ h =>
 J1 t3_14 t4_15 h)) ∧
 (go (New #[(.int .i64 0), (.slice none 0 0)] 29) h fun t4_16 h =>
 go (CallF Try.prog 10 [t13, (.int .i64 12), (.int .i64 9)]) h fun t14_3 h =>
 go (CallF Try.prog 10 [t15_5, (.int .i64 12), (.int .i64 9)]) h fun t16_18 h =>
 go (StA 2 t3_14 t14_3) h fun _ h =>
 go (StA 2 t4_16 t16_18) h fun _ h =>
 J1 t3_14 t4_16 h)) ∧
 (go (New #[(.int .i64 0), (.slice none 0 0)] 29) h fun t4_17 h =>
 (go (CallF Try.prog 10 [t13, (.int .i64 12), (.int .i64 9)]) h fun t14_4 h =>
 (go (CallF Try.prog 10 [t15_5, (.int .i64 12), (.int .i64 9)]) h fun t16_19 h =>
 go (New #[(.int .i64 0), (.slice none 0 0)] 29) h fun t3_15 h =>
 go (StA 2 t3_15 t14_4) h fun _ h =>
 go (StA 2 t4_17 t16_19) h fun _ h =>
 J1 t3_15 t4_17 h) ∧
 (go (New #[(.int .i64 0), (.slice none 0 0)] 29) h fun t3_16 h =>
 go (CallF Try.prog 10 [t15_5, (.int .i64 12), (.int .i64 9)]) h fun t16_20 h =>
 go (StA 2 t3_16 t14_4) h fun _ h =>
 go (StA 2 t4_17 t16_20) h fun _ h =>
 J1 t3_16 t4_17 h)) ∧
 (go (New #[(.int .i64 0), (.slice none 0 0)] 29) h fun t3_17 h =>
 go (CallF Try.prog 10 [t13, (.int .i64 12), (.int .i64 9)]) h fun t14_5 h =>
 go (CallF Try.prog 10 [t15_5, (.int .i64 12), (.int .i64 9)]) h fun t16_21 h =>
 go (StA 2 t3_17 t14_5) h fun _ h =>
 go (StA 2 t4_17 t16_21) h fun _ h =>
 J1 t3_17 t4_17 h))) ∧
 (go (New #[(.int .i64 0), (.slice none 0 0)] 29) h fun t3_18 h =>
 (go (CallF Try.prog 10 [t13, (.int .i64 12), (.int .i64 9)]) h fun t14_6 h =>
 (go (LdA 2 t1) h fun t15_6 h =>
 (go (CallF Try.prog 10 [t15_6, (.int .i64 12), (.int .i64 9)]) h fun t16_22 h =>
 go (New #[(.int .i64 0), (.slice none 0 0)] 29) h fun t4_18 h =>
 go (StA 2 t3_18 t14_6) h fun _ h =>
 go (StA 2 t4_18 t16_22) h fun _ h =>
 J1 t3_18 t4_18 h) ∧
 (go (New #[(.int .i64 0), (.slice none 0 0)] 29) h fun t4_19 h =>
 go (CallF Try.prog 10 [t15_6, (.int .i64 12), (.int .i64 9)]) h fun t16_23 h =>
 go (StA 2 t3_18 t14_6) h fun _ h =>
 go (StA 2 t4_19 t16_23) h fun _ h =>
 J1 t3_18 t4_19 h)) ∧
 (go (New #[(.int .i64 0), (.slice none 0 0)] 29) h fun t4_20 h =>
 go (LdA 2 t1) h fun t15_7 h =>
 go (CallF Try.prog 10 [t15_7, (.int .i64 12), (.int .i64 9)]) h fun t16_24 h =>
 go (StA 2 t3_18 t14_6) h fun _ h =>
 go (StA 2 t4_20 t16_24) h fun _ h =>
 J1 t3_18 t4_20 h)) ∧
 (go (LdA 2 t1) h fun t15_8 h =>
 (go (CallF Try.prog 10 [t13, (.int .i64 12), (.int .i64 9)]) h fun t14_7 h =>
 (go (CallF Try.prog 10 [t15_8, (.int .i64 12), (.int .i64 9)]) h fun t16_25 h =>
 go (New #[(.int .i64 0), (.slice none 0 0)] 29) h fun t4_21 h =>
 go (StA 2 t3_18 t14_7) h fun _ h =>
 go (StA 2 t4_21 t16_25) h fun _ h =>
 J1 t3_18 t4_21 h) ∧
 (go (New #[(.int .i64 0), (.slice none 0 0)] 29) h fun t4_22 h =>
 go (CallF Try.prog 10 [t15_8, (.int .i64 12), (.int .i64 9)]) h fun t16_26 h =>
 go (StA 2 t3_18 t14_7) h fun _ h =>
 go (StA 2 t4_22 t16_26) h fun _ h =>
 J1 t3_18 t4_22 h)) ∧
 (go (New #[(.int .i64 0), (.slice none 0 0)] 29) h fun t4_23 h =>
 go (CallF Try.prog 10 [t13, (.int .i64 12), (.int .i64 9)]) h fun t14_8 h =>
 go (CallF Try.prog 10 [t15_8, (.int .i64 12), (.int .i64 9)]) h fun t16_27 h =>
 go (StA 2 t3_18 t14_8) h fun _ h =>
 go (StA 2 t4_23 t16_27) h fun _ h =>
 J1 t3_18 t4_23 h)) ∧
 (go (New #[(.int .i64 0), (.slice none 0 0)] 29) h fun t4_24 h =>
 (go (CallF Try.prog 10 [t13, (.int .i64 12), (.int .i64 9)]) h fun t14_9 h =>
 go (LdA 2 t1) h fun t15_9 h =>
 go (CallF Try.prog 10 [t15_9, (.int .i64 12), (.int .i64 9)]) h fun t16_28 h =>
 go (StA 2 t3_18 t14_9) h fun _ h =>
 go (StA 2 t4_24 t16_28) h fun _ h =>
 J1 t3_18 t4_24 h) ∧
 (go (LdA 2 t1) h fun t15_10 h =>
 go (CallF Try.prog 10 [t13, (.int .i64 12), (.int .i64 9)]) h fun t14_10 h =>
 go (CallF Try.prog 10 [t15_10, (.int .i64 12), (.int .i64 9)]) h fun t16_29 h =>
 go (StA 2 t3_18 t14_10) h fun _ h =>
 go (StA 2 t4_24 t16_29) h fun _ h =>
 J1 t3_18 t4_24 h))) ∧
 (go (New #[(.int .i64 0), (.slice none 0 0)] 29) h fun t4_25 h =>
 (go (CallF Try.prog 10 [t13, (.int .i64 12), (.int .i64 9)]) h fun t14_11 h =>
 (go (LdA 2 t1) h fun t15_11 h =>
 (go (CallF Try.prog 10 [t15_11, (.int .i64 12), (.int .i64 9)]) h fun t16_30 h =>
 go (New #[(.int .i64 0), (.slice none 0 0)] 29) h fun t3_19 h =>
 go (StA 2 t3_19 t14_11) h fun _ h =>
 go (StA 2 t4_25 t16_30) h fun _ h =>
 J1 t3_19 t4_25 h) ∧
 (go (New #[(.int .i64 0), (.slice none 0 0)] 29) h fun t3_20 h =>
 go (CallF Try.prog 10 [t15_11, (.int .i64 12), (.int .i64 9)]) h fun t16_31 h =>
 go (StA 2 t3_20 t14_11) h fun _ h =>
 go (StA 2 t4_25 t16_31) h fun _ h =>
 J1 t3_20 t4_25 h)) ∧
 (go (New #[(.int .i64 0), (.slice none 0 0)] 29) h fun t3_21 h =>
 go (LdA 2 t1) h fun t15_12 h =>
 go (CallF Try.prog 10 [t15_12, (.int .i64 12), (.int .i64 9)]) h fun t16_32 h =>
 go (StA 2 t3_21 t14_11) h fun _ h =>
 go (StA 2 t4_25 t16_32) h fun _ h =>
 J1 t3_21 t4_25 h)) ∧
 (go (LdA 2 t1) h fun t15_13 h =>
 (go (CallF Try.prog 10 [t13, (.int .i64 12), (.int .i64 9)]) h fun t14_12 h =>
 (go (CallF Try.prog 10 [t15_13, (.int .i64 12), (.int .i64 9)]) h fun t16_33 h =>
 go (New #[(.int .i64 0), (.slice none 0 0)] 29) h fun t3_22 h =>
 go (StA 2 t3_22 t14_12) h fun _ h =>
 go (StA 2 t4_25 t16_33) h fun _ h =>
 J1 t3_22 t4_25 h) ∧
 (go (New #[(.int .i64 0), (.slice none 0 0)] 29) h fun t3_23 h =>
 go (CallF Try.prog 10 [t15_13, (.int .i64 12), (.int .i64 9)]) h fun t16_34 h =>
 go (StA 2 t3_23 t14_12) h fun _ h =>
 go (StA 2 t4_25 t16_34) h fun _ h =>
 J1 t3_23 t4_25 h)) ∧
 (go (New #[(.int .i64 0), (.slice none 0 0)] 29) h fun t3_24 h =>
 go (CallF Try.prog 10 [t13, (.int .i64 12), (.int .i64 9)]) h fun t14_13 h =>
 go (CallF Try.prog 10 [t15_13, (.int .i64 12), (.int .i64 9)]) h fun t16_35 h =>
 go (StA 2 t3_24 t14_13) h fun _ h =>
 go (StA 2 t4_25 t16_35) h fun _ h =>
 J1 t3_24 t4_25 h)) ∧
 (go (New #[(.int .i64 0), (.slice none 0 0)] 29) h fun t3_25 h =>
 (go (CallF Try.prog 10 [t13, (.int .i64 12), (.int .i64 9)]) h fun t14_14 h =>
 go (LdA 2 t1) h fun t15_14 h =>
 go (CallF Try.prog 10 [t15_14, (.int .i64 12), (.int .i64 9)]) h fun t16_36 h =>
 go (StA 2 t3_25 t14_14) h fun _ h =>
 go (StA 2 t4_25 t16_36) h fun _ h =>
 J1 t3_25 t4_25 h) ∧
 (go (LdA 2 t1) h fun t15_15 h =>
 go (CallF Try.prog 10 [t13, (.int .i64 12), (.int .i64 9)]) h fun t14_15 h =>
 go (CallF Try.prog 10 [t15_15, (.int .i64 12), (.int .i64 9)]) h fun t16_37 h =>
 go (StA 2 t3_25 t14_15) h fun _ h =>
 go (StA 2 t4_25 t16_37) h fun _ h =>
 J1 t3_25 t4_25 h)))) ∧
 (go (LdA 2 t1) h fun t15_16 h =>
 (go (LdA 2 t1) h fun t13_1 h =>
 (go (CallF Try.prog 10 [t13_1, (.int .i64 12), (.int .i64 9)]) h fun t14_16 h =>
 (go (CallF Try.prog 10 [t15_16, (.int .i64 12), (.int .i64 9)]) h fun t16_38 h =>
 (go (New #[(.int .i64 0), (.slice none 0 0)] 29) h fun t3_26 h =>
 go (New #[(.int .i64 0), (.slice none 0 0)] 29) h fun t4_26 h =>
 go (StA 2 t3_26 t14_16) h fun _ h =>
 go (StA 2 t4_26 t16_38) h fun _ h =>
 J1 t3_26 t4_26 h) ∧
 (go (New #[(.int .i64 0), (.slice none 0 0)] 29) h fun t4_27 h =>
 go (New #[(.int .i64 0), (.slice none 0 0)] 29) h fun t3_27 h =>
 go (StA 2 t3_27 t14_16) h fun _ h =>
 go (StA 2 t4_27 t16_38) h fun _ h =>
 J1 t3_27 t4_27 h)) ∧
 (go (New #[(.int .i64 0), (.slice none 0 0)] 29) h fun t3_28 h =>
 (go (CallF Try.prog 10 [t15_16, (.int .i64 12), (.int .i64 9)]) h fun t16_39 h =>
 go (New #[(.int .i64 0), (.slice none 0 0)] 29) h fun t4_28 h =>
 go (StA 2 t3_28 t14_16) h fun _ h =>
 go (StA 2 t4_28 t16_39) h fun _ h =>
 J1 t3_28 t4_28 h) ∧
 (go (New #[(.int .i64 0), (.slice none 0 0)] 29) h fun t4_29 h =>
 go (CallF Try.prog 10 [t15_16, (.int .i64 12), (.int .i64 9)]) h fun t16_40 h =>
 go (StA 2 t3_28 t14_16) h fun _ h =>
 go (StA 2 t4_29 t16_40) h fun _ h =>
 J1 t3_28 t4_29 h)) ∧
 (go (New #[(.int .i64 0), (.slice none 0 0)] 29) h fun t4_30 h =>
 (go (CallF Try.prog 10 [t15_16, (.int .i64 12), (.int .i64 9)]) h fun t16_41 h =>
 go (New #[(.int .i64 0), (.slice none 0 0)] 29) h fun t3_29 h =>
 go (StA 2 t3_29 t14_16) h fun _ h =>
 go (StA 2 t4_30 t16_41) h fun _ h =>
 J1 t3_29 t4_30 h) ∧
 (go (New #[(.int .i64 0), (.slice none 0 0)] 29) h fun t3_30 h =>
 go (CallF Try.prog 10 [t15_16, (.int .i64 12), (.int .i64 9)]) h fun t16_42 h =>
 go (StA 2 t3_30 t14_16) h fun _ h =>
 go (StA 2 t4_30 t16_42) h fun _ h =>
 J1 t3_30 t4_30 h))) ∧
 (go (New #[(.int .i64 0), (.slice none 0 0)] 29) h fun t3_31 h =>
 (go (CallF Try.prog 10 [t13_1, (.int .i64 12), (.int .i64 9)]) h fun t14_17 h =>
 (go (CallF Try.prog 10 [t15_16, (.int .i64 12), (.int .i64 9)]) h fun t16_43 h =>
 go (New #[(.int .i64 0), (.slice none 0 0)] 29) h fun t4_31 h =>
 go (StA 2 t3_31 t14_17) h fun _ h =>
 go (StA 2 t4_31 t16_43) h fun _ h =>
 J1 t3_31 t4_31 h) ∧
 (go (New #[(.int .i64 0), (.slice none 0 0)] 29) h fun t4_32 h =>
 go (CallF Try.prog 10 [t15_16, (.int .i64 12), (.int .i64 9)]) h fun t16_44 h =>
 go (StA 2 t3_31 t14_17) h fun _ h =>
 go (StA 2 t4_32 t16_44) h fun _ h =>
 J1 t3_31 t4_32 h)) ∧
 (go (New #[(.int .i64 0), (.slice none 0 0)] 29) h fun t4_33 h =>
 go (CallF Try.prog 10 [t13_1, (.int .i64 12), (.int .i64 9)]) h fun t14_18 h =>
 go (CallF Try.prog 10 [t15_16, (.int .i64 12), (.int .i64 9)]) h fun t16_45 h =>
 go (StA 2 t3_31 t14_18) h fun _ h =>
 go (StA 2 t4_33 t16_45) h fun _ h =>
 J1 t3_31 t4_33 h)) ∧
 (go (New #[(.int .i64 0), (.slice none 0 0)] 29) h fun t4_34 h =>
 (go (CallF Try.prog 10 [t13_1, (.int .i64 12), (.int .i64 9)]) h fun t14_19 h =>
 (go (CallF Try.prog 10 [t15_16, (.int .i64 12), (.int .i64 9)]) h fun t16_46 h =>
 go (New #[(.int .i64 0), (.slice none 0 0)] 29) h fun t3_32 h =>
 go (StA 2 t3_32 t14_19) h fun _ h =>
 go (StA 2 t4_34 t16_46) h fun _ h =>
 J1 t3_32 t4_34 h) ∧
 (go (New #[(.int .i64 0), (.slice none 0 0)] 29) h fun t3_33 h =>
 go (CallF Try.prog 10 [t15_16, (.int .i64 12), (.int .i64 9)]) h fun t16_47 h =>
 go (StA 2 t3_33 t14_19) h fun _ h =>
 go (StA 2 t4_34 t16_47) h fun _ h =>
 J1 t3_33 t4_34 h)) ∧
 (go (New #[(.int .i64 0), (.slice none 0 0)] 29) h fun t3_34 h =>
 go (CallF Try.prog 10 [t13_1, (.int .i64 12), (.int .i64 9)]) h fun t14_20 h =>
 go (CallF Try.prog 10 [t15_16, (.int .i64 12), (.int .i64 9)]) h fun t16_48 h =>
 go (StA 2 t3_34 t14_20) h fun _ h =>
 go (StA 2 t4_34 t16_48) h fun _ h =>
 J1 t3_34 t4_34 h))) ∧
 (go (New #[(.int .i64 0), (.slice none 0 0)] 29) h fun t3_35 h =>
 (go (LdA 2 t1) h fun t13_2 h =>
 (go (CallF Try.prog 10 [t13_2, (.int .i64 12), (.int .i64 9)]) h fun t14_21 h =>
 (go (CallF Try.prog 10 [t15_16, (.int .i64 12), (.int .i64 9)]) h fun t16_49 h =>
 go (New #[(.int .i64 0), (.slice none 0 0)] 29) h fun t4_35 h =>
 go (StA 2 t3_35 t14_21) h fun _ h =>
 go (StA 2 t4_35 t16_49) h fun _ h =>
 J1 t3_35 t4_35 h) ∧
 (go (New #[(.int .i64 0), (.slice none 0 0)] 29) h fun t4_36 h =>
 go (CallF Try.prog 10 [t15_16, (.int .i64 12), (.int .i64 9)]) h fun t16_50 h =>
 go (StA 2 t3_35 t14_21) h fun _ h =>
 go (StA 2 t4_36 t16_50) h fun _ h =>
 J1 t3_35 t4_36 h)) ∧
 (go (New #[(.int .i64 0), (.slice none 0 0)] 29) h fun t4_37 h =>
 go (CallF Try.prog 10 [t13_2, (.int .i64 12), (.int .i64 9)]) h fun t14_22 h =>
 go (CallF Try.prog 10 [t15_16, (.int .i64 12), (.int .i64 9)]) h fun t16_51 h =>
 go (StA 2 t3_35 t14_22) h fun _ h =>
 go (StA 2 t4_37 t16_51) h fun _ h =>
 J1 t3_35 t4_37 h)) ∧
 (go (New #[(.int .i64 0), (.slice none 0 0)] 29) h fun t4_38 h =>
 go (LdA 2 t1) h fun t13_3 h =>
 go (CallF Try.prog 10 [t13_3, (.int .i64 12), (.int .i64 9)]) h fun t14_23 h =>
 go (CallF Try.prog 10 [t15_16, (.int .i64 12), (.int .i64 9)]) h fun t16_52 h =>
 go (StA 2 t3_35 t14_23) h fun _ h =>
 go (StA 2 t4_38 t16_52) h fun _ h =>
 J1 t3_35 t4_38 h)) ∧
 (go (New #[(.int .i64 0), (.slice none 0 0)] 29) h fun t4_39 h =>
 (go (LdA 2 t1) h fun t13_4 h =>
 (go (CallF Try.prog 10 [t13_4, (.int .i64 12), (.int .i64 9)]) h fun t14_24 h =>
 (go (CallF Try.prog 10 [t15_16, (.int .i64 12), (.int .i64 9)]) h fun t16_53 h =>
 go (New #[(.int .i64 0), (.slice none 0 0)] 29) h fun t3_36 h =>
 go (StA 2 t3_36 t14_24) h fun _ h =>
 go (StA 2 t4_39 t16_53) h fun _ h =>
 J1 t3_36 t4_39 h) ∧
 (go (New #[(.int .i64 0), (.slice none 0 0)] 29) h fun t3_37 h =>
 go (CallF Try.prog 10 [t15_16, (.int .i64 12), (.int .i64 9)]) h fun t16_54 h =>
 go (StA 2 t3_37 t14_24) h fun _ h =>
 go (StA 2 t4_39 t16_54) h fun _ h =>
 J1 t3_37 t4_39 h)) ∧
 (go (New #[(.int .i64 0), (.slice none 0 0)] 29) h fun t3_38 h =>
 go (CallF Try.prog 10 [t13_4, (.int .i64 12), (.int .i64 9)]) h fun t14_25 h =>
 go (CallF Try.prog 10 [t15_16, (.int .i64 12), (.int .i64 9)]) h fun t16_55 h =>
 go (StA 2 t3_38 t14_25) h fun _ h =>
 go (StA 2 t4_39 t16_55) h fun _ h =>
 J1 t3_38 t4_39 h)) ∧
 (go (New #[(.int .i64 0), (.slice none 0 0)] 29) h fun t3_39 h =>
 go (LdA 2 t1) h fun t13_5 h =>
 go (CallF Try.prog 10 [t13_5, (.int .i64 12), (.int .i64 9)]) h fun t14_26 h =>
 go (CallF Try.prog 10 [t15_16, (.int .i64 12), (.int .i64 9)]) h fun t16_56 h =>
 go (StA 2 t3_39 t14_26) h fun _ h =>
 go (StA 2 t4_39 t16_56) h fun _ h =>
 J1 t3_39 t4_39 h))) ∧
 (go (New #[(.int .i64 0), (.slice none 0 0)] 29) h fun t3_40 h =>
 (go (LdA 2 t1) h fun t13_6 h =>
 (go (CallF Try.prog 10 [t13_6, (.int .i64 12), (.int .i64 9)]) h fun t14_27 h =>
 (go (LdA 2 t1) h fun t15_17 h =>
 (go (CallF Try.prog 10 [t15_17, (.int .i64 12), (.int .i64 9)]) h fun t16_57 h =>
 go (New #[(.int .i64 0), (.slice none 0 0)] 29) h fun t4_40 h =>
 go (StA 2 t3_40 t14_27) h fun _ h =>
 go (StA 2 t4_40 t16_57) h fun _ h =>
 J1 t3_40 t4_40 h) ∧
 (go (New #[(.int .i64 0), (.slice none 0 0)] 29) h fun t4_41 h =>
 go (CallF Try.prog 10 [t15_17, (.int .i64 12), (.int .i64 9)]) h fun t16_58 h =>
 go (StA 2 t3_40 t14_27) h fun _ h =>
 go (StA 2 t4_41 t16_58) h fun _ h =>
 J1 t3_40 t4_41 h)) ∧
 (go (New #[(.int .i64 0), (.slice none 0 0)] 29) h fun t4_42 h =>
 go (LdA 2 t1) h fun t15_18 h =>
 go (CallF Try.prog 10 [t15_18, (.int .i64 12), (.int .i64 9)]) h fun t16_59 h =>
 go (StA 2 t3_40 t14_27) h fun _ h =>
 go (StA 2 t4_42 t16_59) h fun _ h =>
 J1 t3_40 t4_42 h)) ∧
 (go (LdA 2 t1) h fun t15_19 h =>
 (go (CallF Try.prog 10 [t13_6, (.int .i64 12), (.int .i64 9)]) h fun t14_28 h =>
 (go (CallF Try.prog 10 [t15_19, (.int .i64 12), (.int .i64 9)]) h fun t16_60 h =>
 go (New #[(.int .i64 0), (.slice none 0 0)] 29) h fun t4_43 h =>
 go (StA 2 t3_40 t14_28) h fun _ h =>
 go (StA 2 t4_43 t16_60) h fun _ h =>
 J1 t3_40 t4_43 h) ∧
 (go (New #[(.int .i64 0), (.slice none 0 0)] 29) h fun t4_44 h =>
 go (CallF Try.prog 10 [t15_19, (.int .i64 12), (.int .i64 9)]) h fun t16_61 h =>
 go (StA 2 t3_40 t14_28) h fun _ h =>
 go (StA 2 t4_44 t16_61) h fun _ h =>
 J1 t3_40 t4_44 h)) ∧
 (go (New #[(.int .i64 0), (.slice none 0 0)] 29) h fun t4_45 h =>
 go (CallF Try.prog 10 [t13_6, (.int .i64 12), (.int .i64 9)]) h fun t14_29 h =>
 go (CallF Try.prog 10 [t15_19, (.int .i64 12), (.int .i64 9)]) h fun t16_62 h =>
 go (StA 2 t3_40 t14_29) h fun _ h =>
 go (StA 2 t4_45 t16_62) h fun _ h =>
 J1 t3_40 t4_45 h)) ∧
 (go (New #[(.int .i64 0), (.slice none 0 0)] 29) h fun t4_46 h =>
 (go (CallF Try.prog 10 [t13_6, (.int .i64 12), (.int .i64 9)]) h fun t14_30 h =>
 go (LdA 2 t1) h fun t15_20 h =>
 go (CallF Try.prog 10 [t15_20, (.int .i64 12), (.int .i64 9)]) h fun t16_63 h =>
 go (StA 2 t3_40 t14_30) h fun _ h =>
 go (StA 2 t4_46 t16_63) h fun _ h =>
 J1 t3_40 t4_46 h) ∧
 (go (LdA 2 t1) h fun t15_21 h =>
 go (CallF Try.prog 10 [t13_6, (.int .i64 12), (.int .i64 9)]) h fun t14_31 h =>
 go (CallF Try.prog 10 [t15_21, (.int .i64 12), (.int .i64 9)]) h fun t16_64 h =>
 go (StA 2 t3_40 t14_31) h fun _ h =>
 go (StA 2 t4_46 t16_64) h fun _ h =>
 J1 t3_40 t4_46 h))) ∧
 (go (LdA 2 t1) h fun t15_22 h =>
 (go (LdA 2 t1) h fun t13_7 h =>
 (go (CallF Try.prog 10 [t13_7, (.int .i64 12), (.int .i64 9)]) h fun t14_32 h =>
 (go (CallF Try.prog 10 [t15_22, (.int .i64 12), (.int .i64 9)]) h fun t16_65 h =>
 go (New #[(.int .i64 0), (.slice none 0 0)] 29) h fun t4_47 h =>
 go (StA 2 t3_40 t14_32) h fun _ h =>
 go (StA 2 t4_47 t16_65) h fun _ h =>
 J1 t3_40 t4_47 h) ∧
 (go (New #[(.int .i64 0), (.slice none 0 0)] 29) h fun t4_48 h =>
 go (CallF Try.prog 10 [t15_22, (.int .i64 12), (.int .i64 9)]) h fun t16_66 h =>
 go (StA 2 t3_40 t14_32) h fun _ h =>
 go (StA 2 t4_48 t16_66) h fun _ h =>
 J1 t3_40 t4_48 h)) ∧
 (go (New #[(.int .i64 0), (.slice none 0 0)] 29) h fun t4_49 h =>
 go (CallF Try.prog 10 [t13_7, (.int .i64 12), (.int .i64 9)]) h fun t14_33 h =>
 go (CallF Try.prog 10 [t15_22, (.int .i64 12), (.int .i64 9)]) h fun t16_67 h =>
 go (StA 2 t3_40 t14_33) h fun _ h =>
 go (StA 2 t4_49 t16_67) h fun _ h =>
 J1 t3_40 t4_49 h)) ∧
 (go (New #[(.int .i64 0), (.slice none 0 0)] 29) h fun t4_50 h =>
 go (LdA 2 t1) h fun t13_8 h =>
 go (CallF Try.prog 10 [t13_8, (.int .i64 12), (.int .i64 9)]) h fun t14_34 h =>
 go (CallF Try.prog 10 [t15_22, (.int .i64 12), (.int .i64 9)]) h fun t16_68 h =>
 go (StA 2 t3_40 t14_34) h fun _ h =>
 go (StA 2 t4_50 t16_68) h fun _ h =>
 J1 t3_40 t4_50 h)) ∧
 (go (New #[(.int .i64 0), (.slice none 0 0)] 29) h fun t4_51 h =>
 go (LdA 2 t1) h fun t13_9 h =>
 (go (CallF Try.prog 10 [t13_9, (.int .i64 12), (.int .i64 9)]) h fun t14_35 h =>
 go (LdA 2 t1) h fun t15_23 h =>
 go (CallF Try.prog 10 [t15_23, (.int .i64 12), (.int .i64 9)]) h fun t16_69 h =>
 go (StA 2 t3_40 t14_35) h fun _ h =>
 go (StA 2 t4_51 t16_69) h fun _ h =>
 J1 t3_40 t4_51 h) ∧
 (go (LdA 2 t1) h fun t15_24 h =>
 go (CallF Try.prog 10 [t13_9, (.int .i64 12), (.int .i64 9)]) h fun t14_36 h =>
 go (CallF Try.prog 10 [t15_24, (.int .i64 12), (.int .i64 9)]) h fun t16_70 h =>
 go (StA 2 t3_40 t14_36) h fun _ h =>
 go (StA 2 t4_51 t16_70) h fun _ h =>
 J1 t3_40 t4_51 h))) ∧
 (go (New #[(.int .i64 0), (.slice none 0 0)] 29) h fun t4_52 h =>
 (go (LdA 2 t1) h fun t13_10 h =>
 (go (CallF Try.prog 10 [t13_10, (.int .i64 12), (.int .i64 9)]) h fun t14_37 h =>
 (go (LdA 2 t1) h fun t15_25 h =>
 (go (CallF Try.prog 10 [t15_25, (.int .i64 12), (.int .i64 9)]) h fun t16_71 h =>
 go (New #[(.int .i64 0), (.slice none 0 0)] 29) h fun t3_41 h =>
 go (StA 2 t3_41 t14_37) h fun _ h =>
 go (StA 2 t4_52 t16_71) h fun _ h =>
 J1 t3_41 t4_52 h) ∧
 (go (New #[(.int .i64 0), (.slice none 0 0)] 29) h fun t3_42 h =>
 go (CallF Try.prog 10 [t15_25, (.int .i64 12), (.int .i64 9)]) h fun t16_72 h =>
 go (StA 2 t3_42 t14_37) h fun _ h =>
 go (StA 2 t4_52 t16_72) h fun _ h =>
 J1 t3_42 t4_52 h)) ∧
 (go (New #[(.int .i64 0), (.slice none 0 0)] 29) h fun t3_43 h =>
 go (LdA 2 t1) h fun t15_26 h =>
 go (CallF Try.prog 10 [t15_26, (.int .i64 12), (.int .i64 9)]) h fun t16_73 h =>
 go (StA 2 t3_43 t14_37) h fun _ h =>
 go (StA 2 t4_52 t16_73) h fun _ h =>
 J1 t3_43 t4_52 h)) ∧
 (go (LdA 2 t1) h fun t15_27 h =>
 (go (CallF Try.prog 10 [t13_10, (.int .i64 12), (.int .i64 9)]) h fun t14_38 h =>
 (go (CallF Try.prog 10 [t15_27, (.int .i64 12), (.int .i64 9)]) h fun t16_74 h =>
 go (New #[(.int .i64 0), (.slice none 0 0)] 29) h fun t3_44 h =>
 go (StA 2 t3_44 t14_38) h fun _ h =>
 go (StA 2 t4_52 t16_74) h fun _ h =>
 J1 t3_44 t4_52 h) ∧
 (go (New #[(.int .i64 0), (.slice none 0 0)] 29) h fun t3_45 h =>
 go (CallF Try.prog 10 [t15_27, (.int .i64 12), (.int .i64 9)]) h fun t16_75 h =>
 go (StA 2 t3_45 t14_38) h fun _ h =>
 go (StA 2 t4_52 t16_75) h fun _ h =>
 J1 t3_45 t4_52 h)) ∧
 (go (New #[(.int .i64 0), (.slice none 0 0)] 29) h fun t3_46 h =>
 go (CallF Try.prog 10 [t13_10, (.int .i64 12), (.int .i64 9)]) h fun t14_39 h =>
 go (CallF Try.prog 10 [t15_27, (.int .i64 12), (.int .i64 9)]) h fun t16_76 h =>
 go (StA 2 t3_46 t14_39) h fun _ h =>
 go (StA 2 t4_52 t16_76) h fun _ h =>
 J1 t3_46 t4_52 h)) ∧
 (go (New #[(.int .i64 0), (.slice none 0 0)] 29) h fun t3_47 h =>
 (go (CallF Try.prog 10 [t13_10, (.int .i64 12), (.int .i64 9)]) h fun t14_40 h =>
 go (LdA 2 t1) h fun t15_28 h =>
 go (CallF Try.prog 10 [t15_28, (.int .i64 12), (.int .i64 9)]) h fun t16_77 h =>
 go (StA 2 t3_47 t14_40) h fun _ h =>
 go (StA 2 t4_52 t16_77) h fun _ h =>
 J1 t3_47 t4_52 h) ∧
 (go (LdA 2 t1) h fun t15_29 h =>
 go (CallF Try.prog 10 [t13_10, (.int .i64 12), (.int .i64 9)]) h fun t14_41 h =>
 go (CallF Try.prog 10 [t15_29, (.int .i64 12), (.int .i64 9)]) h fun t16_78 h =>
 go (StA 2 t3_47 t14_41) h fun _ h =>
 go (StA 2 t4_52 t16_78) h fun _ h =>
 J1 t3_47 t4_52 h))) ∧
 (go (LdA 2 t1) h fun t15_30 h =>
 (go (LdA 2 t1) h fun t13_11 h =>
 (go (CallF Try.prog 10 [t13_11, (.int .i64 12), (.int .i64 9)]) h fun t14_42 h =>
 (go (CallF Try.prog 10 [t15_30, (.int .i64 12), (.int .i64 9)]) h fun t16_79 h =>
 go (New #[(.int .i64 0), (.slice none 0 0)] 29) h fun t3_48 h =>
 go (StA 2 t3_48 t14_42) h fun _ h =>
 go (StA 2 t4_52 t16_79) h fun _ h =>
 J1 t3_48 t4_52 h) ∧
 (go (New #[(.int .i64 0), (.slice none 0 0)] 29) h fun t3_49 h =>
 go (CallF Try.prog 10 [t15_30, (.int .i64 12), (.int .i64 9)]) h fun t16_80 h =>
 go (StA 2 t3_49 t14_42) h fun _ h =>
 go (StA 2 t4_52 t16_80) h fun _ h =>
 J1 t3_49 t4_52 h)) ∧
 (go (New #[(.int .i64 0), (.slice none 0 0)] 29) h fun t3_50 h =>
 go (CallF Try.prog 10 [t13_11, (.int .i64 12), (.int .i64 9)]) h fun t14_43 h =>
 go (CallF Try.prog 10 [t15_30, (.int .i64 12), (.int .i64 9)]) h fun t16_81 h =>
 go (StA 2 t3_50 t14_43) h fun _ h =>
 go (StA 2 t4_52 t16_81) h fun _ h =>
 J1 t3_50 t4_52 h)) ∧
 (go (New #[(.int .i64 0), (.slice none 0 0)] 29) h fun t3_51 h =>
 go (LdA 2 t1) h fun t13_12 h =>
 go (CallF Try.prog 10 [t13_12, (.int .i64 12), (.int .i64 9)]) h fun t14_44 h =>
 go (CallF Try.prog 10 [t15_30, (.int .i64 12), (.int .i64 9)]) h fun t16_82 h =>
 go (StA 2 t3_51 t14_44) h fun _ h =>
 go (StA 2 t4_52 t16_82) h fun _ h =>
 J1 t3_51 t4_52 h)) ∧
 (go (New #[(.int .i64 0), (.slice none 0 0)] 29) h fun t3_52 h =>
 go (LdA 2 t1) h fun t13_13 h =>
 (go (CallF Try.prog 10 [t13_13, (.int .i64 12), (.int .i64 9)]) h fun t14_45 h =>
 go (LdA 2 t1) h fun t15_31 h =>
 go (CallF Try.prog 10 [t15_31, (.int .i64 12), (.int .i64 9)]) h fun t16_83 h =>
 go (StA 2 t3_52 t14_45) h fun _ h =>
 go (StA 2 t4_52 t16_83) h fun _ h =>
 J1 t3_52 t4_52 h) ∧
 (go (LdA 2 t1) h fun t15_32 h =>
 go (CallF Try.prog 10 [t13_13, (.int .i64 12), (.int .i64 9)]) h fun t14_46 h =>
 go (CallF Try.prog 10 [t15_32, (.int .i64 12), (.int .i64 9)]) h fun t16_84 h =>
 go (StA 2 t3_52 t14_46) h fun _ h =>
 go (StA 2 t4_52 t16_84) h fun _ h =>
 J1 t3_52 t4_52 h)))) (fun t3_53 t4_53 h =>
 go (LdA 2 t3_53) h fun t17 h =>
 go (CallF Try.prog 17 [t17]) h fun t18 h =>
 go (New #[(.int .i64 0), (.slice none 0 0)] 29) h fun t5 h =>
 go (StA 2 t5 t18) h fun _ h =>
 go (LdA 2 t5) h fun t19 h =>
 go (LdA 2 t3_53) h fun t20 h =>
 go (CallF Try.prog 18 [t19, t20]) h fun t21 h =>
 go (Un .not t21) h fun t22 h =>
 If t22 (
 K (.bool false) h) (
 go (Fld 1 t5) h fun t23 h =>
 go (Ld t23) h fun t24 h =>
 go (Len t24) h fun t25 h =>
 Lp 5 (fun X2 t3_54 t4_54 t5_1 t25_1 t26 h =>
 go (Bin .int .lss t26 t25_1) h fun t27 h =>
 If t27 (
 go (Fld 1 t5_1) h fun t29 h =>
 go (Ld t29) h fun t30 h =>
 go (Idx 1 t30 t26) h fun t32 h =>
 go (Ld t32) h fun t33 h =>
 go (Len t33) h fun t34 h =>
 Lp 8 (fun X3 t3_55 t4_55 t5_2 t6 t25_2 t26_1 t34_1 t35 h =>
 go (Bin .int .lss t35 t34_1) h fun t36 h =>
 If t36 (
 go (Fld 1 t5_2) h fun t38 h =>
 go (Ld t38) h fun t39 h =>
 go (Idx 1 t39 t6) h fun t41 h =>
 go (Ld t41) h fun t42 h =>
 go (Fld 1 t5_2) h fun t44 h =>
 go (Ld t44) h fun t45 h =>
 go (Idx 1 t45 t6) h fun t47 h =>
 go (Ld t47) h fun t48 h =>
 go (Idx 1 t48 t35) h fun t50 h =>
 go (Ld t50) h fun t51 h =>
 go (Un .neg t51) h fun t52 h =>
 go (Idx 1 t42 t35) h fun t53 h =>
 go (St t53 t52) h fun _ h =>
 go (Bin .int .add t35 (.int .i64 1)) h fun t54 h =>
 X3 t3_55 t4_55 t5_2 t6 t25_2 t26_1 t34_1 t54 h) (
 go (Bin .int .add t26_1 (.int .i64 1)) h fun t55 h =>
 X2 t3_55 t4_55 t5_2 t25_2 t55 h)) [t3_54, t4_54, t5_1, t26, t25_1, t26, t34, (.int .i64 0)] h) (
 go (LdA 2 t3_54) h fun t56 h =>
 go (LdA 2 t4_54) h fun t57 h =>
 go (CallF Try.prog 18 [t56, t57]) h fun t58 h =>
 K t58 h)) [t3_53, t4_53, t5, t25, (.int .i64 0)] h))))
set_option maxRecDepth 100000 in
theorem bradawllaw02_CnfCopies.eq : (fun t0 K h => bradawllaw02_CnfCopies.pt t0 K h : Value → Ret → Heap → Prop) = (fun t0 K h => fnPt Try.prog [] Try.f7 bradawllaw02_CnfCopies.ann [t0] K h) := by kernel_rfl
theorem bradawllaw02_CnfCopies.ok {t0 : Value} {K : Ret} {h : Heap} (hp : bradawllaw02_CnfCopies.pt t0 K h) : CallH Try.prog 7 #[t0] K h :=
  fn_sound (qs := []) (fn := Try.f7) (ann := bradawllaw02_CnfCopies.ann) (args := [t0]) follows_mixed Try.func7 ((Eq.to_iff (congrFun (congrFun (congrFun (bradawllaw02_CnfCopies.eq) t0) K) h)).mp hp)

/-! ### bradawl/bradawllaw02.fit: function 8 -/
abbrev bradawllaw02_fit.id : FuncId := 8
def bradawllaw02_fit.ann : Ann := (.seq none .leaf (.seq none .leaf (.seq none .leaf (.seq none .leaf .leaf))))
set_option maxRecDepth 100000 in
def bradawllaw02_fit.pt (K : Ret) (h : Heap) : Prop :=
 go (BldS 3 1 2 #[(.int .i64 0)] [(0, (.int .i64 1)), (1, (.int .i64 (-2)))]) h fun t4 h =>
 go (BldS 3 1 1 #[(.int .i64 0)] [(0, (.int .i64 2))]) h fun t5 h =>
 go (BldS 36 1 2 #[(.slice none 0 0)] [(0, t4), (1, t5)]) h fun t6 h =>
 go (Bld [(0, 1), (1, 1)] #[(.int .i64 0), (.slice none 0 0)] [(0, (.int .i64 2)), (1, t6)]) h fun t7 h =>
 go (New #[(.int .i64 0), (.slice none 0 0)] 29) h fun t1 h =>
 go (StA 2 t1 t7) h fun _ h =>
 go (LdA 2 t1) h fun t9 h =>
 go (CallF Try.prog 11 [t9]) h fun t10 h =>
 go (Ext 0 t10) h fun t11 h =>
 go (Ext 1 t10) h fun t12 h =>
 go (Gd t12 true (Mv t11)) h fun t15 h =>
 go (Gd t12 true (Len t15)) h fun t16 h =>
 go (Gd t12 true (Bin .int .eql t16 (.int .i64 2))) h fun t17 h =>
 go (Pick t12 t17 (.bool false)) h fun t18 h =>
 go (Gd t18 true (Mv t11)) h fun t20 h =>
 go (Gd t18 true (Idx 1 t20 (.int .i64 0))) h fun t21 h =>
 go (Gd t18 true (Ld t21)) h fun t22 h =>
 go (Pick t18 t22 (.bool false)) h fun t23 h =>
 go (Gd t23 true (Mv t11)) h fun t25 h =>
 go (Gd t23 true (Idx 1 t25 (.int .i64 1))) h fun t26 h =>
 go (Gd t23 true (Ld t26)) h fun t27 h =>
 go (Pick t23 t27 (.bool false)) h fun t28 h =>
 go (Gd t28 true (LdA 2 t1)) h fun t30 h =>
 go (Gd t28 true (CallF Try.prog 13 [t30])) h fun t31 h =>
 go (Pick t28 t31 (.bool false)) h fun t32 h =>
 go (Gd t32 true (BldS 3 1 1 #[(.int .i64 0)] [(0, (.int .i64 1))])) h fun t34 h =>
 go (Gd t32 true (BldS 36 1 1 #[(.slice none 0 0)] [(0, t34)])) h fun t35 h =>
 go (Gd t32 true (Bld [(0, 1), (1, 1)] #[(.int .i64 0), (.slice none 0 0)] [(1, t35)])) h fun t36 h =>
 go (Gd t32 true (CallF Try.prog 13 [t36])) h fun t37 h =>
 go (Gd t32 true (Un .not t37)) h fun t38 h =>
 go (Pick t32 t38 (.bool false)) h fun t39 h =>
 go (Gd t39 true (LdA 2 t1)) h fun t41 h =>
 go (Gd t39 true (CallF Try.prog 19 [t41])) h fun t42 h =>
 go (Gd t39 true (Bin .int .eql t42 (.int .i64 3))) h fun t43 h =>
 go (Pick t39 t43 (.bool false)) h fun t44 h =>
 go (Gd t44 true (LdA 2 t1)) h fun t46 h =>
 go (Gd t44 true (BldS 4 1 2 #[(.bool false)] [(0, (.bool false)), (1, (.bool true))])) h fun t47 h =>
 go (Gd t44 true (CallF Try.prog 15 [t46, t47])) h fun t48 h =>
 go (Gd t44 true (Len t48)) h fun t49 h =>
 go (Gd t44 true (Bin .int .eql t49 (.int .i64 1))) h fun t50 h =>
 go (Pick t44 t50 (.bool false)) h fun t51 h =>
 K t51 h
set_option maxRecDepth 100000 in
theorem bradawllaw02_fit.eq : (fun K h => bradawllaw02_fit.pt K h : Ret → Heap → Prop) = (fun K h => fnPt Try.prog [] Try.f8 bradawllaw02_fit.ann [] K h) := by kernel_rfl
theorem bradawllaw02_fit.ok {K : Ret} {h : Heap} (hp : bradawllaw02_fit.pt K h) : CallH Try.prog 8 #[] K h :=
  fn_sound (qs := []) (fn := Try.f8) (ann := bradawllaw02_fit.ann) (args := []) follows_mixed Try.func8 ((Eq.to_iff (congrFun (congrFun (bradawllaw02_fit.eq) K) h)).mp hp)

/-! ### (bradawl/bradawllaw02.Raw).Light: function 9 -/
abbrev bradawllaw02_Raw_Light.id : FuncId := 9
def bradawllaw02_Raw_Light.ann : Ann := (.seq none .leaf (.seq none .leaf (.seq none (.seq none .leaf (.block (.loop [1, 2, 5, 9, 10, 11] (.seq none .leaf (.seq none (.cond .leaf .leaf) (.seq none (.block (.seq none .leaf (.seq none .leaf (.seq none .leaf (.cond (.seq none .leaf .leaf) .leaf))))) .leaf)))))) (.seq none .leaf .leaf))))
set_option maxRecDepth 100000 in
def bradawllaw02_Raw_Light.pt (t0 t1 : Value) (K : Ret) (h : Heap) : Prop :=
 go (New (Value.cells t0) 24) h fun t2 h =>
 go (Fld 1 t2) h fun t8 h =>
 go (Ld t8) h fun t9 h =>
 go (Len t9) h fun t10 h =>
 Lp 6 (fun X1 t1_1 t2_1 t5 t9_1 t10_1 t11 h =>
 go (Bin .int .lss t11 t10_1) h fun t12 h =>
 If t12 (
 go (Idx 1 t9_1 t11) h fun t13 h =>
 go (Ld t13) h fun t14 h =>
 go (Len t14) h fun t17 h =>
 go (Bin .int .add (.int .i64 1) t17) h fun t18 h =>
 go (Bin .int .add t5 t18) h fun t19 h =>
 go (Bin .int .mul (.int .i64 10) t1_1) h fun t22 h =>
 go (Bin .int .gtr t19 t22) h fun t23 h =>
 If t23 (
 K (.bool false) h) (
 go (Bin .int .add t11 (.int .i64 1)) h fun t24 h =>
 X1 t1_1 t2_1 t19 t9_1 t10_1 t24 h)) (
 go (Fld 1 t2_1) h fun t25 h =>
 go (Ld t25) h fun t26 h =>
 go (Len t26) h fun t27 h =>
 go (Bin .int .leq t27 t1_1) h fun t29 h =>
 K t29 h)) [t1, t2, (.int .i64 0), t9, t10, (.int .i64 0)] h
set_option maxRecDepth 100000 in
theorem bradawllaw02_Raw_Light.eq : (fun t0 t1 K h => bradawllaw02_Raw_Light.pt t0 t1 K h : Value → Value → Ret → Heap → Prop) = (fun t0 t1 K h => fnPt Try.prog [] Try.f9 bradawllaw02_Raw_Light.ann [t0, t1] K h) := by kernel_rfl
theorem bradawllaw02_Raw_Light.ok {t0 t1 : Value} {K : Ret} {h : Heap} (hp : bradawllaw02_Raw_Light.pt t0 t1 K h) : CallH Try.prog 9 #[t0, t1] K h :=
  fn_sound (qs := []) (fn := Try.f9) (ann := bradawllaw02_Raw_Light.ann) (args := [t0, t1]) follows_mixed Try.func9 ((Eq.to_iff (congrFun (congrFun (congrFun (congrFun (bradawllaw02_Raw_Light.eq) t0) t1) K) h)).mp hp)

/-! ### (bradawl/bradawllaw02.Raw).Formula: function 10 -/
abbrev bradawllaw02_Raw_Formula.id : FuncId := 10
def bradawllaw02_Raw_Formula.ann : Ann := (.seq none .leaf (.seq none .leaf (.seq none (.seq none .leaf (.block (.loop [2, 6, 7, 22, 23, 24] (.seq none .leaf (.seq none (.cond .leaf .leaf) (.seq none (.block (.seq none .leaf (.seq none .leaf (.seq (some [2, 6, 7, 10, 22, 23, 24]) (.seq none .leaf (.block (.loop [2, 6, 7, 10, 22, 23, 24, 28, 29, 30] (.seq none .leaf (.seq none (.cond .leaf .leaf) (.seq none (.block (.seq none .leaf (.seq none (.seq none .leaf (.cond .leaf .leaf)) (.seq none .leaf (.seq (some [2, 6, 7, 10, 13, 22, 23, 24, 28, 29, 30]) (.seq none .leaf (.cond .leaf .leaf)) .leaf))))) .leaf)))))) .leaf)))) .leaf)))))) (.seq none .leaf .leaf))))
set_option maxRecDepth 100000 in
def bradawllaw02_Raw_Formula.pt (t0 t1 t2 : Value) (K : Ret) (h : Heap) : Prop :=
 go (New (Value.cells t0) 24) h fun t3 h =>
 go (New #[(.int .i64 0), (.slice none 0 0)] 29) h fun t6 h =>
 go (Fld 0 t3) h fun t14 h =>
 go (Ld t14) h fun t15 h =>
 go (Cvt .i64 t15) h fun t16 h =>
 go (Bin .int .add t1 (.int .i64 1)) h fun t18 h =>
 go (Bin .int .rem t16 t18) h fun t19 h =>
 go (Bld [(0, 1), (1, 1)] #[(.int .i64 0), (.slice none 0 0)] [(0, t19)]) h fun t20 h =>
 go (New #[(.int .i64 0), (.slice none 0 0)] 29) h fun t7 h =>
 go (StA 2 t7 t20) h fun _ h =>
 go (Fld 1 t3) h fun t21 h =>
 go (Ld t21) h fun t22 h =>
 go (Len t22) h fun t23 h =>
 Lp 6 (fun X1 t2_1 t6_1 t7_1 t22_1 t23_1 t24 h =>
 go (Bin .int .lss t24 t23_1) h fun t25 h =>
 If t25 (
 go (Idx 1 t22_1 t24) h fun t26 h =>
 go (Ld t26) h fun t27 h =>
 Join 7 (fun J2 =>
 go (Len t27) h fun t29 h =>
 Lp 10 (fun X3 t2_2 t6_2 t7_2 t10 t22_2 t23_2 t24_1 t28 t29_1 t30 h =>
 go (Bin .int .lss t30 t29_1) h fun t31 h =>
 If t31 (
 go (Idx 1 t28 t30) h fun t32 h =>
 go (Ld t32) h fun t33 h =>
 go (Fld 0 t7_2) h fun t34 h =>
 go (Ld t34) h fun t35 h =>
 go (Bin .int .eql t35 (.int .i64 0)) h fun t36 h =>
 go (Gd t36 false (Mv t10)) h fun t38 h =>
 go (Gd t36 false (Len t38)) h fun t39 h =>
 go (Gd t36 false (Mv t2_2)) h fun t40 h =>
 go (Gd t36 false (Bin .int .eql t39 t40)) h fun t41 h =>
 go (Pick t36 (.bool true) t41) h fun t42 h =>
 If t42 (
 J2 t2_2 t6_2 t7_2 t10 t22_2 t23_2 t24_1 h) (
 go (Cvt .u16 t33) h fun t44 h =>
 go (Bin .int .shr t44 (.int .u64 1)) h fun t45 h =>
 go (Cvt .i64 t45) h fun t46 h =>
 go (Fld 0 t7_2) h fun t47 h =>
 go (Ld t47) h fun t48 h =>
 go (Bin .int .rem t46 t48) h fun t49 h =>
 go (Bin .int .add (.int .i64 1) t49) h fun t50 h =>
 Join 11 (fun J4 =>
 go (Bin .int .and t33 (.int .i16 1)) h fun t52 h =>
 go (Bin .int .eql t52 (.int .i16 1)) h fun t53 h =>
 If t53 (
 go (Un .neg t50) h fun t55 h =>
 J4 t2_2 t6_2 t7_2 t10 t55 t22_2 t23_2 t24_1 t28 t29_1 t30 h) (
 J4 t2_2 t6_2 t7_2 t10 t50 t22_2 t23_2 t24_1 t28 t29_1 t30 h)) (fun t2_3 t6_3 t7_3 t10_1 t13 t22_3 t23_3 t24_2 t28_1 t29_2 t30_1 h =>
 go (BldS 3 1 1 #[(.int .i64 0)] [(0, t13)]) h fun t58 h =>
 go (App 3 1 8 #[(.int .i64 0)] t10_1 t58) h fun t59 h =>
 go (Bin .int .add t30_1 (.int .i64 1)) h fun t60 h =>
 X3 t2_3 t6_3 t7_3 t59 t22_3 t23_3 t24_2 t28_1 t29_2 t60 h))) (
 J2 t2_2 t6_2 t7_2 t10 t22_2 t23_2 t24_1 h)) [t2_1, t6_1, t7_1, (.slice none 0 0), t22_1, t23_1, t24, t27, t29, (.int .i64 0)] h) (fun t2_4 t6_4 t7_4 t10_2 t22_4 t23_4 t24_3 h =>
 go (Fld 1 t7_4) h fun t61 h =>
 go (Ld t61) h fun t62 h =>
 go (BldS 36 1 1 #[(.slice none 0 0)] [(0, t10_2)]) h fun t64 h =>
 go (App 36 1 24 #[(.slice none 0 0)] t62 t64) h fun t65 h =>
 go (Fld 1 t7_4) h fun t66 h =>
 go (St t66 t65) h fun _ h =>
 go (Bin .int .add t24_3 (.int .i64 1)) h fun t67 h =>
 X1 t2_4 t6_4 t7_4 t22_4 t23_4 t67 h)) (
 go (LdA 2 t7_1) h fun t68 h =>
 go (StA 2 t6_1 t68) h fun _ h =>
 go (LdA 2 t6_1) h fun r0 h =>
 K r0 h)) [t2, t6, t7, t22, t23, (.int .i64 0)] h
set_option maxRecDepth 100000 in
theorem bradawllaw02_Raw_Formula.eq : (fun t0 t1 t2 K h => bradawllaw02_Raw_Formula.pt t0 t1 t2 K h : Value → Value → Value → Ret → Heap → Prop) = (fun t0 t1 t2 K h => fnPt Try.prog [] Try.f10 bradawllaw02_Raw_Formula.ann [t0, t1, t2] K h) := by kernel_rfl
theorem bradawllaw02_Raw_Formula.ok {t0 t1 t2 : Value} {K : Ret} {h : Heap} (hp : bradawllaw02_Raw_Formula.pt t0 t1 t2 K h) : CallH Try.prog 10 #[t0, t1, t2] K h :=
  fn_sound (qs := []) (fn := Try.f10) (ann := bradawllaw02_Raw_Formula.ann) (args := [t0, t1, t2]) follows_mixed Try.func10 ((Eq.to_iff (congrFun (congrFun (congrFun (congrFun (congrFun (bradawllaw02_Raw_Formula.eq) t0) t1) t2) K) h)).mp hp)

/-! ### bradawl/cnf.Brute: function 11 -/
abbrev cnf_Brute.id : FuncId := 11
def cnf_Brute.ann : Ann := (.seq none .leaf (.seq none .leaf (.block (.loop [1, 4] (.block (.seq none (.seq none .leaf (.cond (.seq none .leaf .leaf) .leaf)) (.seq none .leaf (.cond (.seq none .leaf .leaf) .leaf))))))))
set_option maxRecDepth 100000 in
def cnf_Brute.pt (t0 : Value) (K : Ret) (h : Heap) : Prop :=
 go (New (Value.cells t0) 29) h fun t1 h =>
 go (Fld 0 t1) h fun t5 h =>
 go (Ld t5) h fun t6 h =>
 go (MkS 4 1 1 #[(.bool false)] t6 t6) h fun t7 h =>
 Lp 2 (fun X1 t1_1 t4 h =>
 go (LdA 2 t1_1) h fun t8 h =>
 go (CallF Try.prog 14 [t8, t4]) h fun t10 h =>
 If t10 (
 K (.tuple #[t4, (.bool true)]) h) (
 go (CallF Try.prog 20 [t4]) h fun t13 h =>
 go (Un .not t13) h fun t14 h =>
 If t14 (
 K (.tuple #[(.slice none 0 0), (.bool false)]) h) (
 X1 t1_1 t4 h))) [t1, t7] h
set_option maxRecDepth 100000 in
theorem cnf_Brute.eq : (fun t0 K h => cnf_Brute.pt t0 K h : Value → Ret → Heap → Prop) = (fun t0 K h => fnPt Try.prog [] Try.f11 cnf_Brute.ann [t0] K h) := by kernel_rfl
theorem cnf_Brute.ok {t0 : Value} {K : Ret} {h : Heap} (hp : cnf_Brute.pt t0 K h) : CallH Try.prog 11 #[t0] K h :=
  fn_sound (qs := []) (fn := Try.f11) (ann := cnf_Brute.ann) (args := [t0]) follows_mixed Try.func11 ((Eq.to_iff (congrFun (congrFun (congrFun (cnf_Brute.eq) t0) K) h)).mp hp)

/-! ### bradawl/bradawllaw02.Holds: function 12 -/
abbrev bradawllaw02_Holds.id : FuncId := 12
def bradawllaw02_Holds.ann : Ann := (.seq none .leaf (.seq none (.seq none .leaf (.block (.loop [1, 11, 12, 13] (.seq none .leaf (.seq none (.cond .leaf .leaf) (.seq none (.block (.seq none .leaf (.seq none .leaf (.seq none (.seq none .leaf (.block (.loop [1, 7, 11, 12, 13, 17, 18, 19] (.seq none .leaf (.seq none (.cond .leaf .leaf) (.seq none (.block (.seq none .leaf .leaf)) .leaf)))))) (.seq none .leaf (.cond (.seq none .leaf .leaf) .leaf)))))) .leaf)))))) (.seq none .leaf .leaf)))
set_option maxRecDepth 100000 in
def bradawllaw02_Holds.pt (t0 t1 : Value) (K : Ret) (h : Heap) : Prop :=
 go (New (Value.cells t0) 29) h fun t2 h =>
 go (Fld 1 t2) h fun t10 h =>
 go (Ld t10) h fun t11 h =>
 go (Len t11) h fun t12 h =>
 Lp 4 (fun X1 t1_1 t11_1 t12_1 t13 h =>
 go (Bin .int .lss t13 t12_1) h fun t14 h =>
 If t14 (
 go (Idx 1 t11_1 t13) h fun t15 h =>
 go (Ld t15) h fun t16 h =>
 go (Len t16) h fun t18 h =>
 Lp 8 (fun X2 t1_2 t7 t11_2 t12_2 t13_1 t17 t18_1 t19 h =>
 go (Bin .int .lss t19 t18_1) h fun t20 h =>
 If t20 (
 go (Idx 1 t17 t19) h fun t21 h =>
 go (Ld t21) h fun t22 h =>
 go (Gd t7 false (Mv t22)) h fun t25 h =>
 go (Gd t7 false (Bin .int .gtr t25 (.int .i64 0))) h fun t26 h =>
 go (Gd t7 false (Mv t26)) h fun t27 h =>
 go (Gd t27 true (Mv t1_2)) h fun t28 h =>
 go (Gd t27 true (Mv t22)) h fun t29 h =>
 go (Gd t27 true (Bin .int .sub t29 (.int .i64 1))) h fun t30 h =>
 go (Gd t27 true (Idx 1 t28 t30)) h fun t31 h =>
 go (Gd t27 true (Ld t31)) h fun t32 h =>
 go (Gd t7 false (Pick t27 t32 (.bool false))) h fun t33 h =>
 go (Pick t7 (.bool true) t33) h fun t34 h =>
 go (Gd t34 false (Mv t22)) h fun t36 h =>
 go (Gd t34 false (Bin .int .lss t36 (.int .i64 0))) h fun t37 h =>
 go (Gd t34 false (Mv t37)) h fun t38 h =>
 go (Gd t38 true (Mv t1_2)) h fun t39 h =>
 go (Gd t38 true (Mv t22)) h fun t40 h =>
 go (Gd t38 true (Un .neg t40)) h fun t41 h =>
 go (Gd t38 true (Bin .int .sub t41 (.int .i64 1))) h fun t42 h =>
 go (Gd t38 true (Idx 1 t39 t42)) h fun t43 h =>
 go (Gd t38 true (Ld t43)) h fun t44 h =>
 go (Gd t38 true (Un .not t44)) h fun t45 h =>
 go (Gd t34 false (Pick t38 t45 (.bool false))) h fun t46 h =>
 go (Pick t34 (.bool true) t46) h fun t47 h =>
 go (Bin .int .add t19 (.int .i64 1)) h fun t48 h =>
 X2 t1_2 t47 t11_2 t12_2 t13_1 t17 t18_1 t48 h) (
 go (Un .not t7) h fun t50 h =>
 If t50 (
 K (.bool false) h) (
 go (Bin .int .add t13_1 (.int .i64 1)) h fun t51 h =>
 X1 t1_2 t11_2 t12_2 t51 h))) [t1_1, (.bool false), t11_1, t12_1, t13, t16, t18, (.int .i64 0)] h) (
 K (.bool true) h)) [t1, t11, t12, (.int .i64 0)] h
set_option maxRecDepth 100000 in
theorem bradawllaw02_Holds.eq : (fun t0 t1 K h => bradawllaw02_Holds.pt t0 t1 K h : Value → Value → Ret → Heap → Prop) = (fun t0 t1 K h => fnPt Try.prog [] Try.f12 bradawllaw02_Holds.ann [t0, t1] K h) := by kernel_rfl
theorem bradawllaw02_Holds.ok {t0 t1 : Value} {K : Ret} {h : Heap} (hp : bradawllaw02_Holds.pt t0 t1 K h) : CallH Try.prog 12 #[t0, t1] K h :=
  fn_sound (qs := []) (fn := Try.f12) (ann := bradawllaw02_Holds.ann) (args := [t0, t1]) follows_mixed Try.func12 ((Eq.to_iff (congrFun (congrFun (congrFun (congrFun (bradawllaw02_Holds.eq) t0) t1) K) h)).mp hp)

/-! ### bradawl/cnf.Right: function 13 -/
abbrev cnf_Right.id : FuncId := 13
def cnf_Right.ann : Ann := (.seq none .leaf (.seq none (.seq none .leaf (.cond (.seq none .leaf .leaf) .leaf)) (.seq none .leaf (.seq none (.seq none .leaf (.block (.loop [1, 3, 23, 24, 25] (.seq none .leaf (.seq none (.cond .leaf .leaf) (.seq none (.block (.seq none .leaf (.seq none (.seq none .leaf (.seq none .leaf (.cond (.seq none .leaf .leaf) .leaf))) (.seq none .leaf (.block (.loop [1, 3, 23, 24, 25, 35, 36, 37] (.seq none .leaf (.seq none (.cond .leaf .leaf) (.seq none (.block (.seq none .leaf (.seq none .leaf (.cond (.seq none .leaf .leaf) .leaf)))) .leaf))))))))) .leaf)))))) (.seq none .leaf .leaf)))))
set_option maxRecDepth 100000 in
def cnf_Right.pt (t0 : Value) (K : Ret) (h : Heap) : Prop :=
 go (New (Value.cells t0) 29) h fun t1 h =>
 go (Fld 0 t1) h fun t8 h =>
 go (Ld t8) h fun t9 h =>
 go (Bin .int .lss t9 (.int .i64 0)) h fun t10 h =>
 go (Gd t10 false (Fld 0 t1)) h fun t12 h =>
 go (Gd t10 false (Ld t12)) h fun t13 h =>
 go (Gd t10 false (Bin .int .gtr t13 (.int .i64 100000))) h fun t14 h =>
 go (Pick t10 (.bool true) t14) h fun t15 h =>
 go (Gd t15 false (Fld 1 t1)) h fun t17 h =>
 go (Gd t15 false (Ld t17)) h fun t18 h =>
 go (Gd t15 false (Len t18)) h fun t19 h =>
 go (Gd t15 false (Bin .int .gtr t19 (.int .i64 200000))) h fun t20 h =>
 go (Pick t15 (.bool true) t20) h fun t21 h =>
 If t21 (
 K (.bool false) h) (
 go (Fld 1 t1) h fun t22 h =>
 go (Ld t22) h fun t23 h =>
 go (Len t23) h fun t24 h =>
 Lp 5 (fun X1 t1_1 t3 t23_1 t24_1 t25 h =>
 go (Bin .int .lss t25 t24_1) h fun t26 h =>
 If t26 (
 go (Idx 1 t23_1 t25) h fun t27 h =>
 go (Ld t27) h fun t28 h =>
 go (Len t28) h fun t31 h =>
 go (Bin .int .add t3 t31) h fun t32 h =>
 go (Bin .int .gtr t32 (.int .i64 1000000)) h fun t34 h =>
 If t34 (
 K (.bool false) h) (
 go (Len t28) h fun t36 h =>
 Lp 8 (fun X2 t1_2 t3_1 t23_2 t24_2 t25_1 t35 t36_1 t37 h =>
 go (Bin .int .lss t37 t36_1) h fun t38 h =>
 If t38 (
 go (Idx 1 t35 t37) h fun t39 h =>
 go (Ld t39) h fun t40 h =>
 go (Fld 0 t1_2) h fun t42 h =>
 go (Ld t42) h fun t43 h =>
 go (CallF Try.prog 21 [t40, t43]) h fun t44 h =>
 go (Un .not t44) h fun t45 h =>
 If t45 (
 K (.bool false) h) (
 go (Bin .int .add t37 (.int .i64 1)) h fun t46 h =>
 X2 t1_2 t3_1 t23_2 t24_2 t25_1 t35 t36_1 t46 h)) (
 go (Bin .int .add t25_1 (.int .i64 1)) h fun t47 h =>
 X1 t1_2 t3_1 t23_2 t24_2 t47 h)) [t1_1, t32, t23_1, t24_1, t25, t28, t36, (.int .i64 0)] h)) (
 K (.bool true) h)) [t1, (.int .i64 0), t23, t24, (.int .i64 0)] h)
set_option maxRecDepth 100000 in
theorem cnf_Right.eq : (fun t0 K h => cnf_Right.pt t0 K h : Value → Ret → Heap → Prop) = (fun t0 K h => fnPt Try.prog [] Try.f13 cnf_Right.ann [t0] K h) := by kernel_rfl
theorem cnf_Right.ok {t0 : Value} {K : Ret} {h : Heap} (hp : cnf_Right.pt t0 K h) : CallH Try.prog 13 #[t0] K h :=
  fn_sound (qs := []) (fn := Try.f13) (ann := cnf_Right.ann) (args := [t0]) follows_mixed Try.func13 ((Eq.to_iff (congrFun (congrFun (congrFun (cnf_Right.eq) t0) K) h)).mp hp)

/-! ### bradawl/cnf.Satisfies: function 14 -/
abbrev cnf_Satisfies.id : FuncId := 14
def cnf_Satisfies.ann : Ann := (.seq none .leaf (.seq none .leaf .leaf))
set_option maxRecDepth 100000 in
def cnf_Satisfies.pt (t0 t1 : Value) (K : Ret) (h : Heap) : Prop :=
 go (New (Value.cells t0) 29) h fun t2 h =>
 go (Len t1) h fun t6 h =>
 go (Fld 0 t2) h fun t7 h =>
 go (Ld t7) h fun t8 h =>
 go (Bin .int .eql t6 t8) h fun t9 h =>
 go (Gd t9 true (LdA 2 t2)) h fun t11 h =>
 go (Gd t9 true (Mv t1)) h fun t12 h =>
 go (Gd t9 true (CallF Try.prog 15 [t11, t12])) h fun t13 h =>
 go (Gd t9 true (Len t13)) h fun t14 h =>
 go (Gd t9 true (Bin .int .eql t14 (.int .i64 0))) h fun t15 h =>
 go (Pick t9 t15 (.bool false)) h fun t16 h =>
 K t16 h
set_option maxRecDepth 100000 in
theorem cnf_Satisfies.eq : (fun t0 t1 K h => cnf_Satisfies.pt t0 t1 K h : Value → Value → Ret → Heap → Prop) = (fun t0 t1 K h => fnPt Try.prog [] Try.f14 cnf_Satisfies.ann [t0, t1] K h) := by kernel_rfl
theorem cnf_Satisfies.ok {t0 t1 : Value} {K : Ret} {h : Heap} (hp : cnf_Satisfies.pt t0 t1 K h) : CallH Try.prog 14 #[t0, t1] K h :=
  fn_sound (qs := []) (fn := Try.f14) (ann := cnf_Satisfies.ann) (args := [t0, t1]) follows_mixed Try.func14 ((Eq.to_iff (congrFun (congrFun (congrFun (congrFun (cnf_Satisfies.eq) t0) t1) K) h)).mp hp)

/-! ### bradawl/cnf.Unsatisfied: function 15 -/
abbrev cnf_Unsatisfied.id : FuncId := 15
def cnf_Unsatisfied.ann : Ann := (.seq none .leaf (.block (.seq none .leaf (.seq none .leaf (.seq none (.seq none .leaf (.block (.loop [1, 5, 11, 12, 13] (.seq none .leaf (.seq none (.cond .leaf .leaf) (.seq (some [1, 5, 11, 12, 13]) (.block (.seq none .leaf (.seq none (.seq none .leaf (.block (.loop [1, 5, 6, 11, 12, 13, 18, 19, 20] (.seq none .leaf (.seq none (.cond .leaf .leaf) (.seq none (.block (.seq none .leaf (.seq none .leaf (.cond .leaf .leaf)))) .leaf)))))) .leaf))) .leaf)))))) (.seq none .leaf .leaf))))))
set_option maxRecDepth 100000 in
def cnf_Unsatisfied.pt (t0 t1 : Value) (K : Ret) (h : Heap) : Prop :=
 go (New (Value.cells t0) 29) h fun t2 h =>
 go (Fld 1 t2) h fun t10 h =>
 go (Ld t10) h fun t11 h =>
 go (Len t11) h fun t12 h =>
 Lp 5 (fun X1 t1_1 t5 t11_1 t12_1 t13 h =>
 go (Bin .int .lss t13 t12_1) h fun t14 h =>
 If t14 (
 Join 5 (fun J2 =>
 go (Idx 1 t11_1 t13) h fun t16 h =>
 go (Ld t16) h fun t17 h =>
 go (Len t17) h fun t19 h =>
 Lp 9 (fun X3 t1_2 t5_1 t6 t11_2 t12_2 t13_1 t18 t19_1 t20 h =>
 go (Bin .int .lss t20 t19_1) h fun t21 h =>
 If t21 (
 go (Idx 1 t18 t20) h fun t22 h =>
 go (Ld t22) h fun t23 h =>
 go (CallF Try.prog 22 [t23, t1_2]) h fun t26 h =>
 If t26 (
 J2 t1_2 t5_1 t11_2 t12_2 t13_1 h) (
 go (Bin .int .add t20 (.int .i64 1)) h fun t27 h =>
 X3 t1_2 t5_1 t6 t11_2 t12_2 t13_1 t18 t19_1 t27 h)) (
 go (BldS 3 1 1 #[(.int .i64 0)] [(0, t6)]) h fun t30 h =>
 go (App 3 1 8 #[(.int .i64 0)] t5_1 t30) h fun t31 h =>
 J2 t1_2 t31 t11_2 t12_2 t13_1 h)) [t1_1, t5, t13, t11_1, t12_1, t13, t17, t19, (.int .i64 0)] h) (fun t1_3 t5_2 t11_3 t12_3 t13_2 h =>
 go (Bin .int .add t13_2 (.int .i64 1)) h fun t32 h =>
 X1 t1_3 t5_2 t11_3 t12_3 t32 h)) (
 K t5 h)) [t1, (.slice none 0 0), t11, t12, (.int .i64 0)] h
set_option maxRecDepth 100000 in
theorem cnf_Unsatisfied.eq : (fun t0 t1 K h => cnf_Unsatisfied.pt t0 t1 K h : Value → Value → Ret → Heap → Prop) = (fun t0 t1 K h => fnPt Try.prog [] Try.f15 cnf_Unsatisfied.ann [t0, t1] K h) := by kernel_rfl
theorem cnf_Unsatisfied.ok {t0 t1 : Value} {K : Ret} {h : Heap} (hp : cnf_Unsatisfied.pt t0 t1 K h) : CallH Try.prog 15 #[t0, t1] K h :=
  fn_sound (qs := []) (fn := Try.f15) (ann := cnf_Unsatisfied.ann) (args := [t0, t1]) follows_mixed Try.func15 ((Eq.to_iff (congrFun (congrFun (congrFun (congrFun (cnf_Unsatisfied.eq) t0) t1) K) h)).mp hp)

/-! ### bradawl/cnf.Clause: function 16 -/
abbrev cnf_Clause.id : FuncId := 16
def cnf_Clause.ann : Ann := (.seq none .leaf (.seq none .leaf .leaf))
set_option maxRecDepth 100000 in
def cnf_Clause.pt (t0 t1 : Value) (K : Ret) (h : Heap) : Prop :=
 go (New (Value.cells t1) 31) h fun t3 h =>
 go (CallF Try.prog 23 [t0, (.func (.func 24) #[] #[t3])]) h fun t7 h =>
 K t7 h
set_option maxRecDepth 100000 in
theorem cnf_Clause.eq : (fun t0 t1 K h => cnf_Clause.pt t0 t1 K h : Value → Value → Ret → Heap → Prop) = (fun t0 t1 K h => fnPt Try.prog [] Try.f16 cnf_Clause.ann [t0, t1] K h) := by kernel_rfl
theorem cnf_Clause.ok {t0 t1 : Value} {K : Ret} {h : Heap} (hp : cnf_Clause.pt t0 t1 K h) : CallH Try.prog 16 #[t0, t1] K h :=
  fn_sound (qs := []) (fn := Try.f16) (ann := cnf_Clause.ann) (args := [t0, t1]) follows_mixed Try.func16 ((Eq.to_iff (congrFun (congrFun (congrFun (congrFun (cnf_Clause.eq) t0) t1) K) h)).mp hp)

/-! ### bradawl/cnf.Copy: function 17 -/
abbrev cnf_Copy.id : FuncId := 17
def cnf_Copy.ann : Ann := (.seq none .leaf (.seq none .leaf (.seq none (.seq none .leaf (.block (.loop [2, 3, 10, 11, 12] (.seq none .leaf (.seq none (.cond .leaf .leaf) (.seq (some [2, 3, 10, 11, 12]) (.block (.seq none .leaf .leaf)) .leaf)))))) (.seq none .leaf .leaf))))
set_option maxRecDepth 100000 in
def cnf_Copy.pt (t0 : Value) (K : Ret) (h : Heap) : Prop :=
 go (New (Value.cells t0) 29) h fun t1 h =>
 go (New #[(.int .i64 0), (.slice none 0 0)] 29) h fun t2 h =>
 go (Fld 0 t1) h fun t6 h =>
 go (Ld t6) h fun t7 h =>
 go (Bld [(0, 1), (1, 1)] #[(.int .i64 0), (.slice none 0 0)] [(0, t7)]) h fun t8 h =>
 go (New #[(.int .i64 0), (.slice none 0 0)] 29) h fun t3 h =>
 go (StA 2 t3 t8) h fun _ h =>
 go (Fld 1 t1) h fun t9 h =>
 go (Ld t9) h fun t10 h =>
 go (Len t10) h fun t11 h =>
 Lp 5 (fun X1 t2_1 t3_1 t10_1 t11_1 t12 h =>
 go (Bin .int .lss t12 t11_1) h fun t13 h =>
 If t13 (
 Join 5 (fun J2 =>
 go (Idx 1 t10_1 t12) h fun t14 h =>
 go (Ld t14) h fun t15 h =>
 go (Fld 1 t3_1) h fun t16 h =>
 (go (Ld t16) h fun t17 h =>
 go (CallF Try.prog 25 [t15]) h fun t19 h =>
 go (BldS 36 1 1 #[(.slice none 0 0)] [(0, t19)]) h fun t20 h =>
 go (App 36 1 24 #[(.slice none 0 0)] t17 t20) h fun t21 h =>
 go (Fld 1 t3_1) h fun t22 h =>
 go (St t22 t21) h fun _ h =>
 J2 t2_1 t3_1 t10_1 t11_1 t12 h) ∧
 (go (CallF Try.prog 25 [t15]) h fun t19_1 h =>
 (go (Ld t16) h fun t17_1 h =>
 go (BldS 36 1 1 #[(.slice none 0 0)] [(0, t19_1)]) h fun t20_1 h =>
 go (App 36 1 24 #[(.slice none 0 0)] t17_1 t20_1) h fun t21_1 h =>
 go (Fld 1 t3_1) h fun t22_1 h =>
 go (St t22_1 t21_1) h fun _ h =>
 J2 t2_1 t3_1 t10_1 t11_1 t12 h) ∧
 (go (BldS 36 1 1 #[(.slice none 0 0)] [(0, t19_1)]) h fun t20_2 h =>
 go (Ld t16) h fun t17_2 h =>
 go (App 36 1 24 #[(.slice none 0 0)] t17_2 t20_2) h fun t21_2 h =>
 go (Fld 1 t3_1) h fun t22_2 h =>
 go (St t22_2 t21_2) h fun _ h =>
 J2 t2_1 t3_1 t10_1 t11_1 t12 h))) (fun t2_2 t3_2 t10_2 t11_2 t12_1 h =>
 go (Bin .int .add t12_1 (.int .i64 1)) h fun t23 h =>
 X1 t2_2 t3_2 t10_2 t11_2 t23 h)) (
 go (LdA 2 t3_1) h fun t24 h =>
 go (StA 2 t2_1 t24) h fun _ h =>
 go (LdA 2 t2_1) h fun r0 h =>
 K r0 h)) [t2, t3, t10, t11, (.int .i64 0)] h
set_option maxRecDepth 100000 in
theorem cnf_Copy.eq : (fun t0 K h => cnf_Copy.pt t0 K h : Value → Ret → Heap → Prop) = (fun t0 K h => fnPt Try.prog [] Try.f17 cnf_Copy.ann [t0] K h) := by kernel_rfl
theorem cnf_Copy.ok {t0 : Value} {K : Ret} {h : Heap} (hp : cnf_Copy.pt t0 K h) : CallH Try.prog 17 #[t0] K h :=
  fn_sound (qs := []) (fn := Try.f17) (ann := cnf_Copy.ann) (args := [t0]) follows_mixed Try.func17 ((Eq.to_iff (congrFun (congrFun (congrFun (cnf_Copy.eq) t0) K) h)).mp hp)

/-! ### bradawl/bradawllaw02.Same: function 18 -/
abbrev bradawllaw02_Same.id : FuncId := 18
def bradawllaw02_Same.ann : Ann := (.seq none .leaf (.seq none (.seq none .leaf (.cond (.seq none .leaf .leaf) .leaf)) (.seq none (.seq none .leaf (.block (.loop [2, 3, 23, 24] (.seq none .leaf (.seq none (.cond .leaf .leaf) (.seq none (.block (.seq none .leaf (.seq none (.seq none .leaf (.cond (.seq none .leaf .leaf) .leaf)) (.seq none .leaf (.block (.loop [2, 3, 5, 23, 24, 45, 46] (.seq none .leaf (.seq none (.cond .leaf .leaf) (.seq none (.block (.seq none .leaf (.seq none .leaf (.cond (.seq none .leaf .leaf) .leaf)))) .leaf))))))))) .leaf)))))) (.seq none .leaf .leaf))))
set_option maxRecDepth 100000 in
def bradawllaw02_Same.pt (t0 t1 : Value) (K : Ret) (h : Heap) : Prop :=
 go (New (Value.cells t0) 29) h fun t2 h =>
 go (New (Value.cells t1) 29) h fun t3 h =>
 go (Fld 0 t2) h fun t7 h =>
 go (Ld t7) h fun t8 h =>
 go (Fld 0 t3) h fun t9 h =>
 go (Ld t9) h fun t10 h =>
 go (Bin .int .neq t8 t10) h fun t11 h =>
 go (Gd t11 false (Fld 1 t2)) h fun t13 h =>
 go (Gd t11 false (Ld t13)) h fun t14 h =>
 go (Gd t11 false (Len t14)) h fun t15 h =>
 go (Gd t11 false (Fld 1 t3)) h fun t16 h =>
 go (Gd t11 false (Ld t16)) h fun t17 h =>
 go (Gd t11 false (Len t17)) h fun t18 h =>
 go (Gd t11 false (Bin .int .neq t15 t18)) h fun t19 h =>
 go (Pick t11 (.bool true) t19) h fun t20 h =>
 If t20 (
 K (.bool false) h) (
 go (Fld 1 t2) h fun t21 h =>
 go (Ld t21) h fun t22 h =>
 go (Len t22) h fun t23 h =>
 Lp 4 (fun X1 t2_1 t3_1 t23_1 t24 h =>
 go (Bin .int .lss t24 t23_1) h fun t25 h =>
 If t25 (
 go (Fld 1 t2_1) h fun t27 h =>
 go (Ld t27) h fun t28 h =>
 go (Idx 1 t28 t24) h fun t30 h =>
 go (Ld t30) h fun t31 h =>
 go (Len t31) h fun t32 h =>
 go (Fld 1 t3_1) h fun t33 h =>
 go (Ld t33) h fun t34 h =>
 go (Idx 1 t34 t24) h fun t36 h =>
 go (Ld t36) h fun t37 h =>
 go (Len t37) h fun t38 h =>
 go (Bin .int .neq t32 t38) h fun t39 h =>
 If t39 (
 K (.bool false) h) (
 go (Fld 1 t2_1) h fun t40 h =>
 go (Ld t40) h fun t41 h =>
 go (Idx 1 t41 t24) h fun t43 h =>
 go (Ld t43) h fun t44 h =>
 go (Len t44) h fun t45 h =>
 Lp 7 (fun X2 t2_2 t3_2 t5 t23_2 t24_1 t45_1 t46 h =>
 go (Bin .int .lss t46 t45_1) h fun t47 h =>
 If t47 (
 go (Fld 1 t2_2) h fun t49 h =>
 go (Ld t49) h fun t50 h =>
 go (Idx 1 t50 t5) h fun t52 h =>
 go (Ld t52) h fun t53 h =>
 go (Idx 1 t53 t46) h fun t55 h =>
 go (Ld t55) h fun t56 h =>
 go (Fld 1 t3_2) h fun t57 h =>
 go (Ld t57) h fun t58 h =>
 go (Idx 1 t58 t5) h fun t60 h =>
 go (Ld t60) h fun t61 h =>
 go (Idx 1 t61 t46) h fun t63 h =>
 go (Ld t63) h fun t64 h =>
 go (Bin .int .neq t56 t64) h fun t65 h =>
 If t65 (
 K (.bool false) h) (
 go (Bin .int .add t46 (.int .i64 1)) h fun t66 h =>
 X2 t2_2 t3_2 t5 t23_2 t24_1 t45_1 t66 h)) (
 go (Bin .int .add t24_1 (.int .i64 1)) h fun t67 h =>
 X1 t2_2 t3_2 t23_2 t67 h)) [t2_1, t3_1, t24, t23_1, t24, t45, (.int .i64 0)] h)) (
 K (.bool true) h)) [t2, t3, t23, (.int .i64 0)] h)
set_option maxRecDepth 100000 in
theorem bradawllaw02_Same.eq : (fun t0 t1 K h => bradawllaw02_Same.pt t0 t1 K h : Value → Value → Ret → Heap → Prop) = (fun t0 t1 K h => fnPt Try.prog [] Try.f18 bradawllaw02_Same.ann [t0, t1] K h) := by kernel_rfl
theorem bradawllaw02_Same.ok {t0 t1 : Value} {K : Ret} {h : Heap} (hp : bradawllaw02_Same.pt t0 t1 K h) : CallH Try.prog 18 #[t0, t1] K h :=
  fn_sound (qs := []) (fn := Try.f18) (ann := bradawllaw02_Same.ann) (args := [t0, t1]) follows_mixed Try.func18 ((Eq.to_iff (congrFun (congrFun (congrFun (congrFun (bradawllaw02_Same.eq) t0) t1) K) h)).mp hp)

/-! ### bradawl/cnf.Lits: function 19 -/
abbrev cnf_Lits.id : FuncId := 19
def cnf_Lits.ann : Ann := (.seq none .leaf (.seq none .leaf (.seq none (.seq none .leaf (.block (.loop [3, 7, 8, 9] (.seq none .leaf (.seq none (.cond .leaf .leaf) (.seq none (.block (.seq none .leaf .leaf)) .leaf)))))) (.seq none .leaf .leaf))))
set_option maxRecDepth 100000 in
def cnf_Lits.pt (t0 : Value) (K : Ret) (h : Heap) : Prop :=
 go (New (Value.cells t0) 29) h fun t1 h =>
 go (Fld 1 t1) h fun t6 h =>
 go (Ld t6) h fun t7 h =>
 go (Len t7) h fun t8 h =>
 Lp 4 (fun X1 t3 t7_1 t8_1 t9 h =>
 go (Bin .int .lss t9 t8_1) h fun t10 h =>
 If t10 (
 go (Idx 1 t7_1 t9) h fun t11 h =>
 go (Ld t11) h fun t12 h =>
 go (Len t12) h fun t15 h =>
 go (Bin .int .add t3 t15) h fun t16 h =>
 go (Bin .int .add t9 (.int .i64 1)) h fun t17 h =>
 X1 t16 t7_1 t8_1 t17 h) (
 K t3 h)) [(.int .i64 0), t7, t8, (.int .i64 0)] h
set_option maxRecDepth 100000 in
theorem cnf_Lits.eq : (fun t0 K h => cnf_Lits.pt t0 K h : Value → Ret → Heap → Prop) = (fun t0 K h => fnPt Try.prog [] Try.f19 cnf_Lits.ann [t0] K h) := by kernel_rfl
theorem cnf_Lits.ok {t0 : Value} {K : Ret} {h : Heap} (hp : cnf_Lits.pt t0 K h) : CallH Try.prog 19 #[t0] K h :=
  fn_sound (qs := []) (fn := Try.f19) (ann := cnf_Lits.ann) (args := [t0]) follows_mixed Try.func19 ((Eq.to_iff (congrFun (congrFun (congrFun (cnf_Lits.eq) t0) K) h)).mp hp)

/-! ### bradawl/cnf.next: function 20 -/
abbrev cnf_next.id : FuncId := 20
def cnf_next.ann : Ann := (.seq none .leaf (.seq none (.seq none .leaf (.block (.loop [0, 3] (.seq none (.seq none .leaf (.cond .leaf .leaf)) (.seq none (.block (.seq none .leaf (.seq none .leaf (.cond (.seq none .leaf .leaf) .leaf)))) .leaf))))) (.seq none .leaf .leaf)))
set_option maxRecDepth 100000 in
def cnf_next.pt (t0 : Value) (K : Ret) (h : Heap) : Prop :=
 go (Len t0) h fun t5 h =>
 go (Bin .int .sub t5 (.int .i64 1)) h fun t6 h =>
 Lp 2 (fun X1 t0_1 t3 h =>
 go (Bin .int .geq t3 (.int .i64 0)) h fun t8 h =>
 If t8 (
 go (Idx 1 t0_1 t3) h fun t15 h =>
 go (Ld t15) h fun t16 h =>
 go (Un .not t16) h fun t17 h =>
 go (Idx 1 t0_1 t3) h fun t18 h =>
 go (St t18 t17) h fun _ h =>
 go (Idx 1 t0_1 t3) h fun t21 h =>
 go (Ld t21) h fun t22 h =>
 If t22 (
 K (.bool true) h) (
 go (Bin .int .sub t3 (.int .i64 1)) h fun t10 h =>
 X1 t0_1 t10 h)) (
 K (.bool false) h)) [t0, t6] h
set_option maxRecDepth 100000 in
theorem cnf_next.eq : (fun t0 K h => cnf_next.pt t0 K h : Value → Ret → Heap → Prop) = (fun t0 K h => fnPt Try.prog [] Try.f20 cnf_next.ann [t0] K h) := by kernel_rfl
theorem cnf_next.ok {t0 : Value} {K : Ret} {h : Heap} (hp : cnf_next.pt t0 K h) : CallH Try.prog 20 #[t0] K h :=
  fn_sound (qs := []) (fn := Try.f20) (ann := cnf_next.ann) (args := [t0]) follows_mixed Try.func20 ((Eq.to_iff (congrFun (congrFun (congrFun (cnf_next.eq) t0) K) h)).mp hp)

/-! ### bradawl/lit.Right: function 21 -/
abbrev lit_Right.id : FuncId := 21
def lit_Right.ann : Ann := (.seq none .leaf (.seq none .leaf (.seq none .leaf .leaf)))
set_option maxRecDepth 100000 in
def lit_Right.pt (t0 t1 : Value) (K : Ret) (h : Heap) : Prop :=
 go (MaxV [t1, (.int .i64 0)]) h fun t6 h =>
 go (MinV [t6, (.int .i64 100000)]) h fun t7 h =>
 go (Bin .int .neq t0 (.int .i64 0)) h fun t9 h =>
 go (Gd t9 true (Mv t0)) h fun t11 h =>
 go (Gd t9 true (Mv t7)) h fun t12 h =>
 go (Gd t9 true (Bin .int .leq t11 t12)) h fun t13 h =>
 go (Pick t9 t13 (.bool false)) h fun t14 h =>
 go (Gd t14 true (Mv t0)) h fun t16 h =>
 go (Gd t14 true (Mv t7)) h fun t17 h =>
 go (Gd t14 true (Un .neg t17)) h fun t18 h =>
 go (Gd t14 true (Bin .int .geq t16 t18)) h fun t19 h =>
 go (Pick t14 t19 (.bool false)) h fun t20 h =>
 K t20 h
set_option maxRecDepth 100000 in
theorem lit_Right.eq : (fun t0 t1 K h => lit_Right.pt t0 t1 K h : Value → Value → Ret → Heap → Prop) = (fun t0 t1 K h => fnPt Try.prog [] Try.f21 lit_Right.ann [t0, t1] K h) := by kernel_rfl
theorem lit_Right.ok {t0 t1 : Value} {K : Ret} {h : Heap} (hp : lit_Right.pt t0 t1 K h) : CallH Try.prog 21 #[t0, t1] K h :=
  fn_sound (qs := []) (fn := Try.f21) (ann := lit_Right.ann) (args := [t0, t1]) follows_mixed Try.func21 ((Eq.to_iff (congrFun (congrFun (congrFun (congrFun (lit_Right.eq) t0) t1) K) h)).mp hp)

/-! ### bradawl/lit.Holds: function 22 -/
abbrev lit_Holds.id : FuncId := 22
def lit_Holds.ann : Ann := (.seq none .leaf (.seq none .leaf .leaf))
set_option maxRecDepth 100000 in
def lit_Holds.pt (t0 t1 : Value) (K : Ret) (h : Heap) : Prop :=
 go (CallF Try.prog 26 [t0]) h fun t7 h =>
 go (Bin .int .sub t7 (.int .i64 1)) h fun t8 h =>
 go (Idx 1 t1 t8) h fun t9 h =>
 go (Ld t9) h fun t10 h =>
 go (Bin .int .gtr t0 (.int .i64 0)) h fun t12 h =>
 go (Bin .bool .eql t10 t12) h fun t13 h =>
 K t13 h
set_option maxRecDepth 100000 in
theorem lit_Holds.eq : (fun t0 t1 K h => lit_Holds.pt t0 t1 K h : Value → Value → Ret → Heap → Prop) = (fun t0 t1 K h => fnPt Try.prog [] Try.f22 lit_Holds.ann [t0, t1] K h) := by kernel_rfl
theorem lit_Holds.ok {t0 t1 : Value} {K : Ret} {h : Heap} (hp : lit_Holds.pt t0 t1 K h) : CallH Try.prog 22 #[t0, t1] K h :=
  fn_sound (qs := []) (fn := Try.f22) (ann := lit_Holds.ann) (args := [t0, t1]) follows_mixed Try.func22 ((Eq.to_iff (congrFun (congrFun (congrFun (congrFun (lit_Holds.eq) t0) t1) K) h)).mp hp)

/-! ### slices.ContainsFunc[[]int,int]: function 23 -/
abbrev slices_ContainsFunc_int_int.id : FuncId := 23
def slices_ContainsFunc_int_int.ann : Ann := (.seq none .leaf (.seq none .leaf .leaf))
set_option maxRecDepth 100000 in
def slices_ContainsFunc_int_int.pt (t0 t1 : Value) (K : Ret) (h : Heap) : Prop :=
 go (CallF Try.prog 27 [t0, t1]) h fun t7 h =>
 go (Bin .int .geq t7 (.int .i64 0)) h fun t8 h =>
 K t8 h
set_option maxRecDepth 100000 in
theorem slices_ContainsFunc_int_int.eq : (fun t0 t1 K h => slices_ContainsFunc_int_int.pt t0 t1 K h : Value → Value → Ret → Heap → Prop) = (fun t0 t1 K h => fnPt Try.prog [] Try.f23 slices_ContainsFunc_int_int.ann [t0, t1] K h) := by kernel_rfl
theorem slices_ContainsFunc_int_int.ok {t0 t1 : Value} {K : Ret} {h : Heap} (hp : slices_ContainsFunc_int_int.pt t0 t1 K h) : CallH Try.prog 23 #[t0, t1] K h :=
  fn_sound (qs := []) (fn := Try.f23) (ann := slices_ContainsFunc_int_int.ann) (args := [t0, t1]) follows_mixed Try.func23 ((Eq.to_iff (congrFun (congrFun (congrFun (congrFun (slices_ContainsFunc_int_int.eq) t0) t1) K) h)).mp hp)

/-! ### bradawl/cnf.Clause$1: function 24 -/
abbrev cnf_Clause_1.id : FuncId := 24
def cnf_Clause_1.ann : Ann := (.seq none .leaf (.seq none .leaf .leaf))
set_option maxRecDepth 100000 in
def cnf_Clause_1.pt (t0 t1 : Value) (K : Ret) (h : Heap) : Prop :=
 go (Ld t1) h fun t5 h =>
 go (CallF Try.prog 22 [t0, t5]) h fun t6 h =>
 K t6 h
set_option maxRecDepth 100000 in
theorem cnf_Clause_1.eq : (fun t0 t1 K h => cnf_Clause_1.pt t0 t1 K h : Value → Value → Ret → Heap → Prop) = (fun t0 t1 K h => fnPt Try.prog [] Try.f24 cnf_Clause_1.ann [t0, t1] K h) := by kernel_rfl
theorem cnf_Clause_1.ok {t0 t1 : Value} {K : Ret} {h : Heap} (hp : cnf_Clause_1.pt t0 t1 K h) : CallH Try.prog 24 #[t0, t1] K h :=
  fn_sound (qs := []) (fn := Try.f24) (ann := cnf_Clause_1.ann) (args := [t0, t1]) follows_mixed Try.func24 ((Eq.to_iff (congrFun (congrFun (congrFun (congrFun (cnf_Clause_1.eq) t0) t1) K) h)).mp hp)

/-! ### slices.Clone[[]int,int]: function 25 -/
abbrev slices_Clone_int_int.id : FuncId := 25
def slices_Clone_int_int.ann : Ann := (.seq none .leaf (.seq none (.seq none .leaf (.cond (.seq none .leaf .leaf) .leaf)) (.seq none .leaf .leaf)))
set_option maxRecDepth 100000 in
def slices_Clone_int_int.pt (t0 : Value) (K : Ret) (h : Heap) : Prop :=
 go (Bin .slice .eql t0 (.slice none 0 0)) h fun t4 h =>
 If t4 (
 K (.slice none 0 0) h) (
 go (Bld0 3) h fun t5 h =>
 go (App 3 1 8 #[(.int .i64 0)] t5 t0) h fun t7 h =>
 K t7 h)
set_option maxRecDepth 100000 in
theorem slices_Clone_int_int.eq : (fun t0 K h => slices_Clone_int_int.pt t0 K h : Value → Ret → Heap → Prop) = (fun t0 K h => fnPt Try.prog [] Try.f25 slices_Clone_int_int.ann [t0] K h) := by kernel_rfl
theorem slices_Clone_int_int.ok {t0 : Value} {K : Ret} {h : Heap} (hp : slices_Clone_int_int.pt t0 K h) : CallH Try.prog 25 #[t0] K h :=
  fn_sound (qs := []) (fn := Try.f25) (ann := slices_Clone_int_int.ann) (args := [t0]) follows_mixed Try.func25 ((Eq.to_iff (congrFun (congrFun (congrFun (slices_Clone_int_int.eq) t0) K) h)).mp hp)

/-! ### bradawl/lit.Var: function 26 -/
abbrev lit_Var.id : FuncId := 26
def lit_Var.ann : Ann := (.seq none .leaf (.seq none .leaf .leaf))
set_option maxRecDepth 100000 in
def lit_Var.pt (t0 : Value) (K : Ret) (h : Heap) : Prop :=
 go (Un .neg t0) h fun t5 h =>
 go (MaxV [t0, t5]) h fun t6 h =>
 K t6 h
set_option maxRecDepth 100000 in
theorem lit_Var.eq : (fun t0 K h => lit_Var.pt t0 K h : Value → Ret → Heap → Prop) = (fun t0 K h => fnPt Try.prog [] Try.f26 lit_Var.ann [t0] K h) := by kernel_rfl
theorem lit_Var.ok {t0 : Value} {K : Ret} {h : Heap} (hp : lit_Var.pt t0 K h) : CallH Try.prog 26 #[t0] K h :=
  fn_sound (qs := []) (fn := Try.f26) (ann := lit_Var.ann) (args := [t0]) follows_mixed Try.func26 ((Eq.to_iff (congrFun (congrFun (congrFun (lit_Var.eq) t0) K) h)).mp hp)

/-! ### slices.IndexFunc[[]int,int]: function 27 -/
abbrev slices_IndexFunc_int_int.id : FuncId := 27
def slices_IndexFunc_int_int.ann : Ann := (.seq none .leaf (.seq none (.seq none .leaf (.block (.loop [0, 1, 7, 8] (.seq none .leaf (.seq none (.cond .leaf .leaf) (.seq none (.block (.seq none .leaf (.seq none .leaf (.cond (.seq none .leaf .leaf) .leaf)))) .leaf)))))) (.seq none .leaf .leaf)))
set_option maxRecDepth 100000 in
def slices_IndexFunc_int_int.pt (t0 t1 : Value) (K : Ret) (h : Heap) : Prop :=
 go (Len t0) h fun t7 h =>
 Lp 4 (fun X1 t0_1 t1_1 t7_1 t8 h =>
 go (Bin .int .lss t8 t7_1) h fun t9 h =>
 If t9 (
 go (Idx 1 t0_1 t8) h fun t14 h =>
 go (Ld t14) h fun t15 h =>
 go (CallV Try.prog t1_1 [t15]) h fun t16 h =>
 If t16 (
 K t8 h) (
 go (Bin .int .add t8 (.int .i64 1)) h fun t18 h =>
 X1 t0_1 t1_1 t7_1 t18 h)) (
 K (.int .i64 (-1)) h)) [t0, t1, t7, (.int .i64 0)] h
set_option maxRecDepth 100000 in
theorem slices_IndexFunc_int_int.eq : (fun t0 t1 K h => slices_IndexFunc_int_int.pt t0 t1 K h : Value → Value → Ret → Heap → Prop) = (fun t0 t1 K h => fnPt Try.prog [] Try.f27 slices_IndexFunc_int_int.ann [t0, t1] K h) := by kernel_rfl
theorem slices_IndexFunc_int_int.ok {t0 t1 : Value} {K : Ret} {h : Heap} (hp : slices_IndexFunc_int_int.pt t0 t1 K h) : CallH Try.prog 27 #[t0, t1] K h :=
  fn_sound (qs := []) (fn := Try.f27) (ann := slices_IndexFunc_int_int.ann) (args := [t0, t1]) follows_mixed Try.func27 ((Eq.to_iff (congrFun (congrFun (congrFun (congrFun (slices_IndexFunc_int_int.eq) t0) t1) K) h)).mp hp)

end Go.Proofs.Ytgcifnnaikcimaa
