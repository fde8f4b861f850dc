/- What each Go function asks, in the primitives of Pt; written by a program of mine (ptgen.py) out of the translation; Lean checks that it is so. -/
import Derived.Test.YtonihbbpfliihaaProg
import Derived.KernelRfl
import Derived.Test.YtonihbbpfliihaaPtO
namespace Go.Proofs.Ytonihbbpfliihaa
open Go.Pt
set_option linter.unusedVariables false
theorem follows_mixed : Try.prog.follows .mixedOrders = true := by kernel_rfl
/-! ### bradawl/bradawllaw14.LocalOwn: function 3 -/
abbrev bradawllaw14_LocalOwn.id : FuncId := 3
def bradawllaw14_LocalOwn.ann : Ann := (.seq none .leaf (.seq none (.seq none .leaf (.cond (.seq none .leaf .leaf) .leaf)) (.seq none (.seq none .leaf (.cond (.seq none .leaf .leaf) .leaf)) (.seq (some [1, 2, 7, 8]) .leaf (.seq none .leaf (.seq none .leaf (.seq none (.seq none .leaf (.cond (.seq none .leaf .leaf) .leaf)) (.seq none (.seq none .leaf (.block (.loop [1, 2, 8, 9, 10, 48, 49, 50] (.seq none .leaf (.seq none (.cond .leaf .leaf) (.seq none (.block (.seq none .leaf (.seq none .leaf (.block (.loop [1, 2, 8, 9, 10, 13, 48, 49, 50, 55, 56] (.seq none .leaf (.seq none (.cond .leaf .leaf) (.seq none (.block (.seq none .leaf .leaf)) .leaf)))))))) .leaf)))))) (.seq none (.seq none .leaf (.block (.loop [1, 2, 8, 9, 10, 70, 71] (.seq none .leaf (.seq none (.cond .leaf .leaf) (.seq none (.block (.seq none .leaf .leaf)) .leaf)))))) (.seq none .leaf (.seq none (.seq none .leaf (.block (.loop [1, 2, 8, 9, 10, 16, 89, 90] (.seq none .leaf (.seq none (.cond .leaf .leaf) (.seq none (.block (.seq none .leaf (.seq none .leaf (.seq none (.seq none .leaf (.cond (.seq none .leaf .leaf) .leaf)) (.seq none .leaf (.block (.loop [1, 2, 8, 9, 10, 16, 19, 89, 90, 104, 105] (.seq none .leaf (.seq none (.cond .leaf .leaf) (.seq none (.block (.seq none .leaf .leaf)) .leaf)))))))))) .leaf)))))) (.seq none (.seq none .leaf (.block (.loop [1, 2, 8, 9, 10, 16, 115, 116] (.seq none .leaf (.seq none (.cond .leaf .leaf) (.seq (some [1, 2, 8, 9, 10, 16, 115, 116]) (.block (.seq none .leaf .leaf)) .leaf)))))) (.seq (some [1, 8, 10, 16]) (.seq none .leaf (.cond (.seq none .leaf (.cond (.seq none .leaf .leaf) .leaf)) .leaf)) (.seq none .leaf .leaf))))))))))))))
set_option maxRecDepth 100000 in
def bradawllaw14_LocalOwn.pt (t0 t1 t2 : Value) (K : Ret) (h : Heap) : Prop :=
 go (New (Value.cells t0) 24) h fun t3 h =>
 go (CallF Try.prog 9 []) h fun t22 h =>
 go (Un .not t22) h fun t23 h =>
 If t23 (
 K (.bool false) h) (
 go (LdA 2 t3) h fun t24 h =>
 go (CallF Try.prog 10 [t24, (.int .i64 40)]) h fun t25 h =>
 go (Un .not t25) h fun t26 h =>
 If t26 (
 K (.bool true) h) (
 Join 4 (fun J1 =>
 go (LdA 2 t3) h fun t27 h =>
 (go (CallF Try.prog 11 [t27, (.int .i64 12), (.int .i64 6)]) h fun t28 h =>
 go (LdA 2 t3) h fun t29 h =>
 (go (CallF Try.prog 11 [t29, (.int .i64 12), (.int .i64 6)]) h fun t30 h =>
 (go (New #[(.int .i64 0), (.slice none 0 0)] 30) h fun t7 h =>
 go (New #[(.int .i64 0), (.slice none 0 0)] 30) h fun t8 h =>
 go (StA 2 t7 t28) h fun _ h =>
 go (StA 2 t8 t30) h fun _ h =>
 J1 t1 t2 t7 t8 h) ∧
 (go (New #[(.int .i64 0), (.slice none 0 0)] 30) h fun t8_1 h =>
 go (New #[(.int .i64 0), (.slice none 0 0)] 30) h fun t7_1 h =>
 go (StA 2 t7_1 t28) h fun _ h =>
 go (StA 2 t8_1 t30) h fun _ h =>
 J1 t1 t2 t7_1 t8_1 h)) ∧
 (go (New #[(.int .i64 0), (.slice none 0 0)] 30) h fun t7_2 h =>
 (go (CallF Try.prog 11 [t29, (.int .i64 12), (.int .i64 6)]) h fun t30_1 h =>
 go (New #[(.int .i64 0), (.slice none 0 0)] 30) h fun t8_2 h =>
 go (StA 2 t7_2 t28) h fun _ h =>
 go (StA 2 t8_2 t30_1) h fun _ h =>
 J1 t1 t2 t7_2 t8_2 h) ∧
 (go (New #[(.int .i64 0), (.slice none 0 0)] 30) h fun t8_3 h =>
 go (CallF Try.prog 11 [t29, (.int .i64 12), (.int .i64 6)]) h fun t30_2 h =>
 go (StA 2 t7_2 t28) h fun _ h =>
 go (StA 2 t8_3 t30_2) h fun _ h =>
 J1 t1 t2 t7_2 t8_3 h)) ∧
 (go (New #[(.int .i64 0), (.slice none 0 0)] 30) h fun t8_4 h =>
 (go (CallF Try.prog 11 [t29, (.int .i64 12), (.int .i64 6)]) h fun t30_3 h =>
 go (New #[(.int .i64 0), (.slice none 0 0)] 30) h fun t7_3 h =>
 go (StA 2 t7_3 t28) h fun _ h =>
 go (StA 2 t8_4 t30_3) h fun _ h =>
 J1 t1 t2 t7_3 t8_4 h) ∧
 (go (New #[(.int .i64 0), (.slice none 0 0)] 30) h fun t7_4 h =>
 go (CallF Try.prog 11 [t29, (.int .i64 12), (.int .i64 6)]) h fun t30_4 h =>
 go (StA 2 t7_4 t28) h fun _ h =>
 go (StA 2 t8_4 t30_4) h fun _ h =>
 J1 t1 t2 t7_4 t8_4 h))) ∧
 (go (LdA 2 t3) h fun t29_1 h =>
 (go (CallF Try.prog 11 [t27, (.int .i64 12), (.int .i64 6)]) h fun t28_1 h =>
 (go (CallF Try.prog 11 [t29_1, (.int .i64 12), (.int .i64 6)]) h fun t30_5 h =>
 (go (New #[(.int .i64 0), (.slice none 0 0)] 30) h fun t7_5 h =>
 go (New #[(.int .i64 0), (.slice none 0 0)] 30) h fun t8_5 h =>
 go (StA 2 t7_5 t28_1) h fun _ h =>
 go (StA 2 t8_5 t30_5) h fun _ h =>
 J1 t1 t2 t7_5 t8_5 h) ∧
 (go (New #[(.int .i64 0), (.slice none 0 0)] 30) h fun t8_6 h =>
 go (New #[(.int .i64 0), (.slice none 0 0)] 30) h fun t7_6 h =>
 go (StA 2 t7_6 t28_1) h fun _ h =>
 go (StA 2 t8_6 t30_5) h fun _ h =>
 J1 t1 t2 t7_6 t8_6 h)) ∧
 (go (New #[(.int .i64 0), (.slice none 0 0)] 30) h fun t7_7 h =>
 (go (CallF Try.prog 11 [t29_1, (.int .i64 12), (.int .i64 6)]) h fun t30_6 h =>
 go (New #[(.int .i64 0), (.slice none 0 0)] 30) h fun t8_7 h =>
 go (StA 2 t7_7 t28_1) h fun _ h =>
 go (StA 2 t8_7 t30_6) h fun _ h =>
 J1 t1 t2 t7_7 t8_7 h) ∧
 (go (New #[(.int .i64 0), (.slice none 0 0)] 30) h fun t8_8 h =>
 go (CallF Try.prog 11 [t29_1, (.int .i64 12), (.int .i64 6)]) h fun t30_7 h =>
 go (StA 2 t7_7 t28_1) h fun _ h =>
 go (StA 2 t8_8 t30_7) h fun _ h =>
 J1 t1 t2 t7_7 t8_8 h)) ∧
 (go (New #[(.int .i64 0), (.slice none 0 0)] 30) h fun t8_9 h =>
 (go (CallF Try.prog 11 [t29_1, (.int .i64 12), (.int .i64 6)]) h fun t30_8 h =>
 go (New #[(.int .i64 0), (.slice none 0 0)] 30) h fun t7_8 h =>
 go (StA 2 t7_8 t28_1) h fun _ h =>
 go (StA 2 t8_9 t30_8) h fun _ h =>
 J1 t1 t2 t7_8 t8_9 h) ∧
 (go (New #[(.int .i64 0), (.slice none 0 0)] 30) h fun t7_9 h =>
 go (CallF Try.prog 11 [t29_1, (.int .i64 12), (.int .i64 6)]) h fun t30_9 h =>
 go (StA 2 t7_9 t28_1) h fun _ h =>
 go (StA 2 t8_9 t30_9) h fun _ h =>
 J1 t1 t2 t7_9 t8_9 h))) ∧
 (go (New #[(.int .i64 0), (.slice none 0 0)] 30) h fun t7_10 h =>
 (go (CallF Try.prog 11 [t27, (.int .i64 12), (.int .i64 6)]) h fun t28_2 h =>
 (go (CallF Try.prog 11 [t29_1, (.int .i64 12), (.int .i64 6)]) h fun t30_10 h =>
 go (New #[(.int .i64 0), (.slice none 0 0)] 30) h fun t8_10 h =>
 go (StA 2 t7_10 t28_2) h fun _ h =>
 go (StA 2 t8_10 t30_10) h fun _ h =>
 J1 t1 t2 t7_10 t8_10 h) ∧
 (go (New #[(.int .i64 0), (.slice none 0 0)] 30) h fun t8_11 h =>
 go (CallF Try.prog 11 [t29_1, (.int .i64 12), (.int .i64 6)]) h fun t30_11 h =>
 go (StA 2 t7_10 t28_2) h fun _ h =>
 go (StA 2 t8_11 t30_11) h fun _ h =>
 J1 t1 t2 t7_10 t8_11 h)) ∧
 (go (New #[(.int .i64 0), (.slice none 0 0)] 30) h fun t8_12 h =>
 go (CallF Try.prog 11 [t27, (.int .i64 12), (.int .i64 6)]) h fun t28_3 h =>
 go (CallF Try.prog 11 [t29_1, (.int .i64 12), (.int .i64 6)]) h fun t30_12 h =>
 go (StA 2 t7_10 t28_3) h fun _ h =>
 go (StA 2 t8_12 t30_12) h fun _ h =>
 J1 t1 t2 t7_10 t8_12 h)) ∧
 (go (New #[(.int .i64 0), (.slice none 0 0)] 30) h fun t8_13 h =>
 (go (CallF Try.prog 11 [t27, (.int .i64 12), (.int .i64 6)]) h fun t28_4 h =>
 (go (CallF Try.prog 11 [t29_1, (.int .i64 12), (.int .i64 6)]) h fun t30_13 h =>
 go (New #[(.int .i64 0), (.slice none 0 0)] 30) h fun t7_11 h =>
 go (StA 2 t7_11 t28_4) h fun _ h =>
 go (StA 2 t8_13 t30_13) h fun _ h =>
 J1 t1 t2 t7_11 t8_13 h) ∧
 (go (New #[(.int .i64 0), (.slice none 0 0)] 30) h fun t7_12 h =>
 go (CallF Try.prog 11 [t29_1, (.int .i64 12), (.int .i64 6)]) h fun t30_14 h =>
 go (StA 2 t7_12 t28_4) h fun _ h =>
 go (StA 2 t8_13 t30_14) h fun _ h =>
 J1 t1 t2 t7_12 t8_13 h)) ∧
 (go (New #[(.int .i64 0), (.slice none 0 0)] 30) h fun t7_13 h =>
 go (CallF Try.prog 11 [t27, (.int .i64 12), (.int .i64 6)]) h fun t28_5 h =>
 go (CallF Try.prog 11 [t29_1, (.int .i64 12), (.int .i64 6)]) h fun t30_15 h =>
 go (StA 2 t7_13 t28_5) h fun _ h =>
 go (StA 2 t8_13 t30_15) h fun _ h =>
 J1 t1 t2 t7_13 t8_13 h))) ∧
 (go (New #[(.int .i64 0), (.slice none 0 0)] 30) h fun t7_14 h =>
 (go (CallF Try.prog 11 [t27, (.int .i64 12), (.int .i64 6)]) h fun t28_6 h =>
 go (LdA 2 t3) h fun t29_2 h =>
 (go (CallF Try.prog 11 [t29_2, (.int .i64 12), (.int .i64 6)]) h fun t30_16 h =>
 go (New #[(.int .i64 0), (.slice none 0 0)] 30) h fun t8_14 h =>
 go (StA 2 t7_14 t28_6) h fun _ h =>
 go (StA 2 t8_14 t30_16) h fun _ h =>
 J1 t1 t2 t7_14 t8_14 h) ∧
 (go (New #[(.int .i64 0), (.slice none 0 0)] 30) h fun t8_15 h =>
 go (CallF Try.prog 11 [t29_2, (.int .i64 12), (.int .i64 6)]) h fun t30_17 h =>
 go (StA 2 t7_14 t28_6) h fun _ h =>
 go (StA 2 t8_15 t30_17) h fun _ h =>
 J1 t1 t2 t7_14 t8_15 h)) ∧
 (go (LdA 2 t3) h fun t29_3 h =>
 (go (CallF Try.prog 11 [t27, (.int .i64 12), (.int .i64 6)]) h fun t28_7 h =>
 (go (CallF Try.prog 11 [t29_3, (.int .i64 12), (.int .i64 6)]) h fun t30_18 h =>
 go (New #[(.int .i64 0), (.slice none 0 0)] 30) h fun t8_16 h =>
 go (StA 2 t7_14 t28_7) h fun _ h =>
 go (StA 2 t8_16 t30_18) h fun _ h =>
 J1 t1 t2 t7_14 t8_16 h) ∧
 (go (New #[(.int .i64 0), (.slice none 0 0)] 30) h fun t8_17 h =>
 go (CallF Try.prog 11 [t29_3, (.int .i64 12), (.int .i64 6)]) h fun t30_19 h =>
 go (StA 2 t7_14 t28_7) h fun _ h =>
 go (StA 2 t8_17 t30_19) h fun _ h =>
 J1 t1 t2 t7_14 t8_17 h)) ∧
 (go (New #[(.int .i64 0), (.slice none 0 0)] 30) h fun t8_18 h =>
 go (CallF Try.prog 11 [t27, (.int .i64 12), (.int .i64 6)]) h fun t28_8 h =>
 go (CallF Try.prog 11 [t29_3, (.int .i64 12), (.int .i64 6)]) h fun t30_20 h =>
 go (StA 2 t7_14 t28_8) h fun _ h =>
 go (StA 2 t8_18 t30_20) h fun _ h =>
 J1 t1 t2 t7_14 t8_18 h)) ∧
 (go (New #[(.int .i64 0), (.slice none 0 0)] 30) h fun t8_19 h =>
 (go (CallF Try.prog 11 [t27, (.int .i64 12), (.int .i64 6)]) h fun t28_9 h =>
 go (LdA 2 t3) h fun t29_4 h =>
 go (CallF Try.prog 11 [t29_4, (.int .i64 12), (.int .i64 6)]) h fun t30_21 h =>
 go (StA 2 t7_14 t28_9) h fun _ h =>
 go (StA 2 t8_19 t30_21) h fun _ h =>
 J1 t1 t2 t7_14 t8_19 h) ∧
 (go (LdA 2 t3) h fun t29_5 h =>
 go (CallF Try.prog 11 [t27, (.int .i64 12), (.int .i64 6)]) h fun t28_10 h =>
 go (CallF Try.prog 11 [t29_5, (.int .i64 12), (.int .i64 6)]) h fun t30_22 h =>
 go (StA 2 t7_14 t28_10) h fun _ h =>
 go (StA 2 t8_19 t30_22) h fun _ h =>
 J1 t1 t2 t7_14 t8_19 h))) ∧
 (go (New #[(.int .i64 0), (.slice none 0 0)] 30) h fun t8_20 h =>
 (go (CallF Try.prog 11 [t27, (.int .i64 12), (.int .i64 6)]) h fun t28_11 h =>
 go (LdA 2 t3) h fun t29_6 h =>
 (go (CallF Try.prog 11 [t29_6, (.int .i64 12), (.int .i64 6)]) h fun t30_23 h =>
 go (New #[(.int .i64 0), (.slice none 0 0)] 30) h fun t7_15 h =>
 go (StA 2 t7_15 t28_11) h fun _ h =>
 go (StA 2 t8_20 t30_23) h fun _ h =>
 J1 t1 t2 t7_15 t8_20 h) ∧
 (go (New #[(.int .i64 0), (.slice none 0 0)] 30) h fun t7_16 h =>
 go (CallF Try.prog 11 [t29_6, (.int .i64 12), (.int .i64 6)]) h fun t30_24 h =>
 go (StA 2 t7_16 t28_11) h fun _ h =>
 go (StA 2 t8_20 t30_24) h fun _ h =>
 J1 t1 t2 t7_16 t8_20 h)) ∧
 (go (LdA 2 t3) h fun t29_7 h =>
 (go (CallF Try.prog 11 [t27, (.int .i64 12), (.int .i64 6)]) h fun t28_12 h =>
 (go (CallF Try.prog 11 [t29_7, (.int .i64 12), (.int .i64 6)]) h fun t30_25 h =>
 go (New #[(.int .i64 0), (.slice none 0 0)] 30) h fun t7_17 h =>
 go (StA 2 t7_17 t28_12) h fun _ h =>
 go (StA 2 t8_20 t30_25) h fun _ h =>
 J1 t1 t2 t7_17 t8_20 h) ∧
 (go (New #[(.int .i64 0), (.slice none 0 0)] 30) h fun t7_18 h =>
 go (CallF Try.prog 11 [t29_7, (.int .i64 12), (.int .i64 6)]) h fun t30_26 h =>
 go (StA 2 t7_18 t28_12) h fun _ h =>
 go (StA 2 t8_20 t30_26) h fun _ h =>
 J1 t1 t2 t7_18 t8_20 h)) ∧
 (go (New #[(.int .i64 0), (.slice none 0 0)] 30) h fun t7_19 h =>
 go (CallF Try.prog 11 [t27, (.int .i64 12), (.int .i64 6)]) h fun t28_13 h =>
 go (CallF Try.prog 11 [t29_7, (.int .i64 12), (.int .i64 6)]) h fun t30_27 h =>
 go (StA 2 t7_19 t28_13) h fun _ h =>
 go (StA 2 t8_20 t30_27) h fun _ h =>
 J1 t1 t2 t7_19 t8_20 h)) ∧
 (go (New #[(.int .i64 0), (.slice none 0 0)] 30) h fun t7_20 h =>
 (go (CallF Try.prog 11 [t27, (.int .i64 12), (.int .i64 6)]) h fun t28_14 h =>
 go (LdA 2 t3) h fun t29_8 h =>
 go (CallF Try.prog 11 [t29_8, (.int .i64 12), (.int .i64 6)]) h fun t30_28 h =>
 go (StA 2 t7_20 t28_14) h fun _ h =>
 go (StA 2 t8_20 t30_28) h fun _ h =>
 J1 t1 t2 t7_20 t8_20 h) ∧
 (go (LdA 2 t3) h fun t29_9 h =>
 go (CallF Try.prog 11 [t27, (.int .i64 12), (.int .i64 6)]) h fun t28_15 h =>
 go (CallF Try.prog 11 [t29_9, (.int .i64 12), (.int .i64 6)]) h fun t30_29 h =>
 go (StA 2 t7_20 t28_15) h fun _ h =>
 go (StA 2 t8_20 t30_29) h fun _ h =>
 J1 t1 t2 t7_20 t8_20 h)))) (fun t1_1 t2_1 t7_21 t8_21 h =>
 go (Fld 0 t7_21) h fun t31 h =>
 go (Ld t31) h fun t32 h =>
 go (CallF Try.prog 12 [t32, t1_1]) h fun t34 h =>
 go (LdA 2 t7_21) h fun t36 h =>
 go (CallF Try.prog 13 [t36, t34]) h fun t38 h =>
 go (Ext 0 t38) h fun t39 h =>
 go (Ext 1 t38) h fun t40 h =>
 go (Bin .int .neq t40 (.int .i64 0)) h fun t42 h =>
 go (Gd t42 false (Mv t39)) h fun t44 h =>
 go (Gd t42 false (Bin .pointer .eql t44 (.pointer none))) h fun t45 h =>
 go (Pick t42 (.bool true) t45) h fun t46 h =>
 If t46 (
 K (.bool false) h) (
 go (Fld 1 t7_21) h fun t47 h =>
 go (Ld t47) h fun t48 h =>
 go (Len t48) h fun t49 h =>
 Lp 8 (fun X2 t1_2 t2_2 t8_22 t9 t10 t48_1 t49_1 t50 h =>
 go (Bin .int .lss t50 t49_1) h fun t51 h =>
 If t51 (
 go (Idx 1 t48_1 t50) h fun t52 h =>
 go (Ld t52) h fun t53 h =>
 go (Len t53) h fun t55 h =>
 Lp 11 (fun X3 t1_3 t2_3 t8_23 t9_1 t10_1 t13 t48_2 t49_2 t50_1 t55_1 t56 h =>
 go (Bin .int .lss t56 t55_1) h fun t57 h =>
 If t57 (
 go (Idx 1 t13 t56) h fun t63 h =>
 go (Ld t63) h fun t64 h =>
 go (Un .neg t64) h fun t65 h =>
 go (Idx 1 t13 t56) h fun t66 h =>
 go (St t66 t65) h fun _ h =>
 go (Bin .int .add t56 (.int .i64 1)) h fun t67 h =>
 X3 t1_3 t2_3 t8_23 t9_1 t10_1 t13 t48_2 t49_2 t50_1 t55_1 t67 h) (
 go (Bin .int .add t50_1 (.int .i64 1)) h fun t68 h =>
 X2 t1_3 t2_3 t8_23 t9_1 t10_1 t48_2 t49_2 t68 h)) [t1_2, t2_2, t8_22, t9, t10, t53, t48_1, t49_1, t50, t55, (.int .i64 0)] h) (
 go (Len t9) h fun t70 h =>
 Lp 7 (fun X4 t1_4 t2_4 t8_24 t9_2 t10_2 t70_1 t71 h =>
 go (Bin .int .lss t71 t70_1) h fun t72 h =>
 If t72 (
 go (Idx 1 t9_2 t71) h fun t78 h =>
 go (Ld t78) h fun t79 h =>
 go (Un .not t79) h fun t80 h =>
 go (Idx 1 t9_2 t71) h fun t81 h =>
 go (St t81 t80) h fun _ h =>
 go (Bin .int .add t71 (.int .i64 1)) h fun t82 h =>
 X4 t1_4 t2_4 t8_24 t9_2 t10_2 t70_1 t82 h) (
 go (LdA 2 t8_24) h fun t84 h =>
 go (CallF Try.prog 14 [t84]) h fun t85 h =>
 go (Ext 0 t85) h fun t86 h =>
 go (Ext 1 t85) h fun t87 h =>
 go (Len t86) h fun t89 h =>
 Lp 8 (fun X5 t1_5 t2_5 t8_25 t9_3 t10_3 t16 t89_1 t90 h =>
 go (Bin .int .lss t90 t89_1) h fun t91 h =>
 If t91 (
 go (CallF Try.prog 15 [t10_3, t90]) h fun t95 h =>
 go (Idx 1 t16 t90) h fun t99 h =>
 go (Ld t99) h fun t100 h =>
 go (CallF Try.prog 16 [t95, t100]) h fun t101 h =>
 go (Un .not t101) h fun t102 h =>
 If t102 (
 K (.bool false) h) (
 go (Len t95) h fun t104 h =>
 Lp 11 (fun X6 t1_6 t2_6 t8_26 t9_4 t10_4 t16_1 t19 t89_2 t90_1 t104_1 t105 h =>
 go (Bin .int .lss t105 t104_1) h fun t106 h =>
 If t106 (
 go (Idx 1 t19 t105) h fun t110 h =>
 go (St t110 (.int .i64 1)) h fun _ h =>
 go (Bin .int .add t105 (.int .i64 1)) h fun t111 h =>
 X6 t1_6 t2_6 t8_26 t9_4 t10_4 t16_1 t19 t89_2 t90_1 t104_1 t111 h) (
 go (Bin .int .add t90_1 (.int .i64 1)) h fun t112 h =>
 X5 t1_6 t2_6 t8_26 t9_4 t10_4 t16_1 t89_2 t112 h)) [t1_5, t2_5, t8_25, t9_3, t10_3, t16, t95, t89_1, t90, t104, (.int .i64 0)] h)) (
 go (CallF Try.prog 17 [t10_3]) h fun t114 h =>
 go (Len t114) h fun t115 h =>
 Lp 8 (fun X7 t1_7 t2_7 t8_27 t9_5 t10_5 t16_2 t115_1 t116 h =>
 go (Bin .int .lss t116 t115_1) h fun t117 h =>
 If t117 (
 Join 8 (fun J8 =>
 go (Idx 1 t9_5 t116) h fun t124 h =>
 (go (CallF Try.prog 17 [t10_5]) h fun t120 h =>
 go (Ld t124) h fun t125 h =>
 go (Idx 1 t120 t116) h fun t126 h =>
 go (St t126 t125) h fun _ h =>
 J8 t1_7 t2_7 t8_27 t9_5 t10_5 t16_2 t115_1 t116 h) ∧
 (go (Ld t124) h fun t125_1 h =>
 go (CallF Try.prog 17 [t10_5]) h fun t120_1 h =>
 go (Idx 1 t120_1 t116) h fun t126_1 h =>
 go (St t126_1 t125_1) h fun _ h =>
 J8 t1_7 t2_7 t8_27 t9_5 t10_5 t16_2 t115_1 t116 h)) (fun t1_8 t2_8 t8_28 t9_6 t10_6 t16_3 t115_2 t116_1 h =>
 go (Bin .int .add t116_1 (.int .i64 1)) h fun t127 h =>
 X7 t1_8 t2_8 t8_28 t9_6 t10_6 t16_3 t115_2 t127 h)) (
 Join 4 (fun J9 =>
 go (Bin .int .lss t2_7 (.int .i64 0)) h fun t129 h =>
 go (Gd t129 false (Mv t2_7)) h fun t131 h =>
 go (Gd t129 false (Mv t16_2)) h fun t132 h =>
 go (Gd t129 false (Len t132)) h fun t133 h =>
 go (Gd t129 false (Bin .int .geq t131 t133)) h fun t134 h =>
 go (Pick t129 (.bool true) t134) h fun t135 h =>
 If t135 (
 go (CallF Try.prog 15 [t10_5, t2_7]) h fun t138 h =>
 go (Len t138) h fun t139 h =>
 go (Bin .int .neq t139 (.int .i64 0)) h fun t140 h =>
 go (Gd t140 false (Mv t10_5)) h fun t142 h =>
 go (Gd t140 false (Mv t2_7)) h fun t143 h =>
 go (Gd t140 false (QCall Try.prog 18 [t142, t143])) h fun t144 h =>
 go (Gd t140 false (Bin .int .neq t144 (.int .i64 0))) h fun t145 h =>
 go (Pick t140 (.bool true) t145) h fun t146 h =>
 If t146 (
 K (.bool false) h) (
 J9 t1_7 t8_27 t10_5 t16_2 h)) (
 J9 t1_7 t8_27 t10_5 t16_2 h)) (fun t1_9 t8_29 t10_7 t16_4 h =>
 go (Fld 0 t8_29) h fun t149 h =>
 go (Ld t149) h fun t150 h =>
 go (CallF Try.prog 12 [t150, t1_9]) h fun t152 h =>
 go (CallF Try.prog 19 [t10_7, t16_4, t152]) h fun t153 h =>
 go (Gd t153 true (Mv t10_7)) h fun t155 h =>
 go (Gd t153 true (QCall Try.prog 20 [t155, (.int .i64 (-1))])) h fun t156 h =>
 go (Gd t153 true (Bin .int .eql t156 (.int .i64 0))) h fun t157 h =>
 go (Pick t153 t157 (.bool false)) h fun t158 h =>
 go (Gd t158 true (Mv t10_7)) h fun t160 h =>
 go (Gd t158 true (Fld 0 t8_29)) h fun t161 h =>
 go (Gd t158 true (Ld t161)) h fun t162 h =>
 go (Gd t158 true (Bin .int .add t162 (.int .i64 1))) h fun t163 h =>
 go (Gd t158 true (QCall Try.prog 21 [t160, t163])) h fun t164 h =>
 go (Gd t158 true (Bin .int .eql t164 (.int .i64 0))) h fun t165 h =>
 go (Pick t158 t165 (.bool false)) h fun t166 h =>
 go (Gd t166 true (Mv t10_7)) h fun t168 h =>
 go (Gd t166 true (QCall Try.prog 22 [t168, (.int .i64 (-3))])) h fun t169 h =>
 go (Gd t166 true (Un .not t169)) h fun t170 h =>
 go (Pick t166 t170 (.bool false)) h fun t171 h =>
 K t171 h))) [t1_5, t2_5, t8_25, t9_3, t10_3, t16, t115, (.int .i64 0)] h)) [t1_4, t2_4, t8_24, t9_2, t10_2, t86, t89, (.int .i64 0)] h)) [t1_2, t2_2, t8_22, t9, t10, t70, (.int .i64 0)] h)) [t1_1, t2_1, t8_21, t34, t39, t48, t49, (.int .i64 0)] h))))
set_option maxRecDepth 100000 in
theorem bradawllaw14_LocalOwn.eq : (fun t0 t1 t2 K h => bradawllaw14_LocalOwn.pt t0 t1 t2 K h : Value → Value → Value → Ret → Heap → Prop) = (fun t0 t1 t2 K h => fnPt Try.prog [18, 20, 21, 22, 23, 26, 27, 28, 30, 31, 32, 38, 39, 1000029] Try.f3 bradawllaw14_LocalOwn.ann [t0, t1, t2] K h) := by kernel_rfl
set_option maxRecDepth 100000 in
theorem bradawllaw14_LocalOwn.ok {t0 t1 t2 : Value} {K : Ret} {h : Heap} (hp : bradawllaw14_LocalOwn.pt t0 t1 t2 K h) : CallH Try.prog 3 #[t0, t1, t2] K h :=
  fn_sound (qs := [18, 20, 21, 22, 23, 26, 27, 28, 30, 31, 32, 38, 39, 1000029]) (fn := Try.f3) (ann := bradawllaw14_LocalOwn.ann) (args := [t0, t1, t2]) follows_mixed Try.func3 ((Eq.to_iff (congrFun (congrFun (congrFun (congrFun (congrFun (bradawllaw14_LocalOwn.eq) t0) t1) t2) K) h)).mp hp)

/-! ### bradawl/bradawllaw14.fit: function 9 -/
abbrev bradawllaw14_fit.id : FuncId := 9
def bradawllaw14_fit.ann : Ann := (.seq none .leaf (.seq none .leaf (.seq none .leaf (.seq none .leaf .leaf))))
set_option maxRecDepth 100000 in
def bradawllaw14_fit.pt (K : Ret) (h : Heap) : Prop :=
 go (BldS 3 1 2 #[(.int .i64 0)] [(0, (.int .i64 1)), (1, (.int .i64 2))]) h fun t6 h =>
 go (BldS 3 1 1 #[(.int .i64 0)] [(0, (.int .i64 (-1)))]) h fun t7 h =>
 go (BldS 38 1 2 #[(.slice none 0 0)] [(0, t6), (1, t7)]) h fun t8 h =>
 go (Bld [(0, 1), (1, 1)] #[(.int .i64 0), (.slice none 0 0)] [(0, (.int .i64 2)), (1, t8)]) h fun t9 h =>
 go (BldS 4 1 2 #[(.bool false)] [(0, (.bool false)), (1, (.bool false))]) h fun t10 h =>
 go (CallF Try.prog 13 [t9, t10]) h fun t11 h =>
 go (Ext 0 t11) h fun t12 h =>
 go (Ext 1 t11) h fun t13 h =>
 go (Bld [(0, 1), (1, 1)] #[(.int .i64 0), (.slice none 0 0)] [(0, (.int .i64 2))]) h fun t15 h =>
 go (CallF Try.prog 13 [t15, (.slice none 0 0)]) h fun t16 h =>
 go (Ext 0 t16) h fun t17 h =>
 go (Ext 1 t16) h fun t18 h =>
 go (Bin .int .eql t13 (.int .i64 0)) h fun t20 h =>
 go (Gd t20 true (Mv t18)) h fun t22 h =>
 go (Gd t20 true (Bin .int .eql t22 (.int .i64 1))) h fun t23 h =>
 go (Pick t20 t23 (.bool false)) h fun t24 h =>
 go (Gd t24 true (Mv t12)) h fun t26 h =>
 go (Gd t24 true (Bin .pointer .neq t26 (.pointer none))) h fun t27 h =>
 go (Pick t24 t27 (.bool false)) h fun t28 h =>
 go (Gd t28 true (Mv t12)) h fun t30 h =>
 go (Gd t28 true (QCall Try.prog 23 [t30])) h fun t31 h =>
 go (Gd t28 true (Bin .int .eql t31 (.int .i64 1))) h fun t32 h =>
 go (Pick t28 t32 (.bool false)) h fun t33 h =>
 go (Gd t33 true (Mv t12)) h fun t35 h =>
 go (Gd t33 true (QCall Try.prog 21 [t35, (.int .i64 1)])) h fun t36 h =>
 go (Gd t33 true (Bin .int .eql t36 (.int .i64 1))) h fun t37 h =>
 go (Pick t33 t37 (.bool false)) h fun t38 h =>
 go (Gd t38 true (Mv t12)) h fun t40 h =>
 go (Gd t38 true (QCall Try.prog 20 [t40, (.int .i64 1)])) h fun t41 h =>
 go (Gd t38 true (Bin .int .eql t41 (.int .i64 1))) h fun t42 h =>
 go (Pick t38 t42 (.bool false)) h fun t43 h =>
 go (Gd t43 true (Mv t12)) h fun t45 h =>
 go (Gd t43 true (QCall Try.prog 26 [t45])) h fun t46 h =>
 go (Gd t43 true (Bin .int .eql t46 (.int .i64 2))) h fun t47 h =>
 go (Pick t43 t47 (.bool false)) h fun t48 h =>
 go (Gd t48 true (Mv t12)) h fun t50 h =>
 go (Gd t48 true (QCall Try.prog 28 [t50, (.int .i64 0)])) h fun t51 h =>
 go (Gd t48 true (Bin .int .eql t51 (.int .i64 0))) h fun t52 h =>
 go (Pick t48 t52 (.bool false)) h fun t53 h =>
 K t53 h
set_option maxRecDepth 100000 in
theorem bradawllaw14_fit.eq : (fun K h => bradawllaw14_fit.pt K h : Ret → Heap → Prop) = (fun K h => fnPt Try.prog [18, 20, 21, 22, 23, 26, 27, 28, 30, 31, 32, 38, 39, 1000029] Try.f9 bradawllaw14_fit.ann [] K h) := by kernel_rfl
set_option maxRecDepth 100000 in
theorem bradawllaw14_fit.ok {K : Ret} {h : Heap} (hp : bradawllaw14_fit.pt K h) : CallH Try.prog 9 #[] K h :=
  fn_sound (qs := [18, 20, 21, 22, 23, 26, 27, 28, 30, 31, 32, 38, 39, 1000029]) (fn := Try.f9) (ann := bradawllaw14_fit.ann) (args := []) follows_mixed Try.func9 ((Eq.to_iff (congrFun (congrFun (bradawllaw14_fit.eq) K) h)).mp hp)

/-! ### (bradawl/bradawllaw02.Raw).Light: function 10 -/
abbrev bradawllaw02_Raw_Light.id : FuncId := 10
def bradawllaw02_Raw_Light.ann : Ann := (.seq none .leaf (.seq none .leaf (.seq none (.seq none .leaf (.block (.loop [1, 2, 5, 9, 10, 11] (.seq none .leaf (.seq none (.cond .leaf .leaf) (.seq none (.block (.seq none .leaf (.seq none .leaf (.seq none .leaf (.cond (.seq none .leaf .leaf) .leaf))))) .leaf)))))) (.seq none .leaf .leaf))))
set_option maxRecDepth 100000 in
def bradawllaw02_Raw_Light.pt (t0 t1 : Value) (K : Ret) (h : Heap) : Prop :=
 go (New (Value.cells t0) 24) h fun t2 h =>
 go (Fld 1 t2) h fun t8 h =>
 go (Ld t8) h fun t9 h =>
 go (Len t9) h fun t10 h =>
 Lp 6 (fun X1 t1_1 t2_1 t5 t9_1 t10_1 t11 h =>
 go (Bin .int .lss t11 t10_1) h fun t12 h =>
 If t12 (
 go (Idx 1 t9_1 t11) h fun t13 h =>
 go (Ld t13) h fun t14 h =>
 go (Len t14) h fun t17 h =>
 go (Bin .int .add (.int .i64 1) t17) h fun t18 h =>
 go (Bin .int .add t5 t18) h fun t19 h =>
 go (Bin .int .mul (.int .i64 10) t1_1) h fun t22 h =>
 go (Bin .int .gtr t19 t22) h fun t23 h =>
 If t23 (
 K (.bool false) h) (
 go (Bin .int .add t11 (.int .i64 1)) h fun t24 h =>
 X1 t1_1 t2_1 t19 t9_1 t10_1 t24 h)) (
 go (Fld 1 t2_1) h fun t25 h =>
 go (Ld t25) h fun t26 h =>
 go (Len t26) h fun t27 h =>
 go (Bin .int .leq t27 t1_1) h fun t29 h =>
 K t29 h)) [t1, t2, (.int .i64 0), t9, t10, (.int .i64 0)] h
set_option maxRecDepth 100000 in
theorem bradawllaw02_Raw_Light.eq : (fun t0 t1 K h => bradawllaw02_Raw_Light.pt t0 t1 K h : Value → Value → Ret → Heap → Prop) = (fun t0 t1 K h => fnPt Try.prog [18, 20, 21, 22, 23, 26, 27, 28, 30, 31, 32, 38, 39, 1000029] Try.f10 bradawllaw02_Raw_Light.ann [t0, t1] K h) := by kernel_rfl
set_option maxRecDepth 100000 in
theorem bradawllaw02_Raw_Light.ok {t0 t1 : Value} {K : Ret} {h : Heap} (hp : bradawllaw02_Raw_Light.pt t0 t1 K h) : CallH Try.prog 10 #[t0, t1] K h :=
  fn_sound (qs := [18, 20, 21, 22, 23, 26, 27, 28, 30, 31, 32, 38, 39, 1000029]) (fn := Try.f10) (ann := bradawllaw02_Raw_Light.ann) (args := [t0, t1]) follows_mixed Try.func10 ((Eq.to_iff (congrFun (congrFun (congrFun (congrFun (bradawllaw02_Raw_Light.eq) t0) t1) K) h)).mp hp)

/-! ### (bradawl/bradawllaw02.Raw).Formula: function 11 -/
abbrev bradawllaw02_Raw_Formula.id : FuncId := 11
def bradawllaw02_Raw_Formula.ann : Ann := (.seq none .leaf (.seq none .leaf (.seq none (.seq none .leaf (.block (.loop [2, 6, 7, 22, 23, 24] (.seq none .leaf (.seq none (.cond .leaf .leaf) (.seq none (.block (.seq none .leaf (.seq none .leaf (.seq (some [2, 6, 7, 10, 22, 23, 24]) (.seq none .leaf (.block (.loop [2, 6, 7, 10, 22, 23, 24, 28, 29, 30] (.seq none .leaf (.seq none (.cond .leaf .leaf) (.seq none (.block (.seq none .leaf (.seq none (.seq none .leaf (.cond .leaf .leaf)) (.seq none .leaf (.seq (some [2, 6, 7, 10, 13, 22, 23, 24, 28, 29, 30]) (.seq none .leaf (.cond .leaf .leaf)) .leaf))))) .leaf)))))) .leaf)))) .leaf)))))) (.seq none .leaf .leaf))))
set_option maxRecDepth 100000 in
def bradawllaw02_Raw_Formula.pt (t0 t1 t2 : Value) (K : Ret) (h : Heap) : Prop :=
 go (New (Value.cells t0) 24) h fun t3 h =>
 go (New #[(.int .i64 0), (.slice none 0 0)] 30) h fun t6 h =>
 go (Fld 0 t3) h fun t14 h =>
 go (Ld t14) h fun t15 h =>
 go (Cvt .i64 t15) h fun t16 h =>
 go (Bin .int .add t1 (.int .i64 1)) h fun t18 h =>
 go (Bin .int .rem t16 t18) h fun t19 h =>
 go (Bld [(0, 1), (1, 1)] #[(.int .i64 0), (.slice none 0 0)] [(0, t19)]) h fun t20 h =>
 go (New #[(.int .i64 0), (.slice none 0 0)] 30) h fun t7 h =>
 go (StA 2 t7 t20) h fun _ h =>
 go (Fld 1 t3) h fun t21 h =>
 go (Ld t21) h fun t22 h =>
 go (Len t22) h fun t23 h =>
 Lp 6 (fun X1 t2_1 t6_1 t7_1 t22_1 t23_1 t24 h =>
 go (Bin .int .lss t24 t23_1) h fun t25 h =>
 If t25 (
 go (Idx 1 t22_1 t24) h fun t26 h =>
 go (Ld t26) h fun t27 h =>
 Join 7 (fun J2 =>
 go (Len t27) h fun t29 h =>
 Lp 10 (fun X3 t2_2 t6_2 t7_2 t10 t22_2 t23_2 t24_1 t28 t29_1 t30 h =>
 go (Bin .int .lss t30 t29_1) h fun t31 h =>
 If t31 (
 go (Idx 1 t28 t30) h fun t32 h =>
 go (Ld t32) h fun t33 h =>
 go (Fld 0 t7_2) h fun t34 h =>
 go (Ld t34) h fun t35 h =>
 go (Bin .int .eql t35 (.int .i64 0)) h fun t36 h =>
 go (Gd t36 false (Mv t10)) h fun t38 h =>
 go (Gd t36 false (Len t38)) h fun t39 h =>
 go (Gd t36 false (Mv t2_2)) h fun t40 h =>
 go (Gd t36 false (Bin .int .eql t39 t40)) h fun t41 h =>
 go (Pick t36 (.bool true) t41) h fun t42 h =>
 If t42 (
 J2 t2_2 t6_2 t7_2 t10 t22_2 t23_2 t24_1 h) (
 go (Cvt .u16 t33) h fun t44 h =>
 go (Bin .int .shr t44 (.int .u64 1)) h fun t45 h =>
 go (Cvt .i64 t45) h fun t46 h =>
 go (Fld 0 t7_2) h fun t47 h =>
 go (Ld t47) h fun t48 h =>
 go (Bin .int .rem t46 t48) h fun t49 h =>
 go (Bin .int .add (.int .i64 1) t49) h fun t50 h =>
 Join 11 (fun J4 =>
 go (Bin .int .and t33 (.int .i16 1)) h fun t52 h =>
 go (Bin .int .eql t52 (.int .i16 1)) h fun t53 h =>
 If t53 (
 go (Un .neg t50) h fun t55 h =>
 J4 t2_2 t6_2 t7_2 t10 t55 t22_2 t23_2 t24_1 t28 t29_1 t30 h) (
 J4 t2_2 t6_2 t7_2 t10 t50 t22_2 t23_2 t24_1 t28 t29_1 t30 h)) (fun t2_3 t6_3 t7_3 t10_1 t13 t22_3 t23_3 t24_2 t28_1 t29_2 t30_1 h =>
 go (BldS 3 1 1 #[(.int .i64 0)] [(0, t13)]) h fun t58 h =>
 go (App 3 1 8 #[(.int .i64 0)] t10_1 t58) h fun t59 h =>
 go (Bin .int .add t30_1 (.int .i64 1)) h fun t60 h =>
 X3 t2_3 t6_3 t7_3 t59 t22_3 t23_3 t24_2 t28_1 t29_2 t60 h))) (
 J2 t2_2 t6_2 t7_2 t10 t22_2 t23_2 t24_1 h)) [t2_1, t6_1, t7_1, (.slice none 0 0), t22_1, t23_1, t24, t27, t29, (.int .i64 0)] h) (fun t2_4 t6_4 t7_4 t10_2 t22_4 t23_4 t24_3 h =>
 go (Fld 1 t7_4) h fun t61 h =>
 go (Ld t61) h fun t62 h =>
 go (BldS 38 1 1 #[(.slice none 0 0)] [(0, t10_2)]) h fun t64 h =>
 go (App 38 1 24 #[(.slice none 0 0)] t62 t64) h fun t65 h =>
 go (Fld 1 t7_4) h fun t66 h =>
 go (St t66 t65) h fun _ h =>
 go (Bin .int .add t24_3 (.int .i64 1)) h fun t67 h =>
 X1 t2_4 t6_4 t7_4 t22_4 t23_4 t67 h)) (
 go (LdA 2 t7_1) h fun t68 h =>
 go (StA 2 t6_1 t68) h fun _ h =>
 go (LdA 2 t6_1) h fun r0 h =>
 K r0 h)) [t2, t6, t7, t22, t23, (.int .i64 0)] h
set_option maxRecDepth 100000 in
theorem bradawllaw02_Raw_Formula.eq : (fun t0 t1 t2 K h => bradawllaw02_Raw_Formula.pt t0 t1 t2 K h : Value → Value → Value → Ret → Heap → Prop) = (fun t0 t1 t2 K h => fnPt Try.prog [18, 20, 21, 22, 23, 26, 27, 28, 30, 31, 32, 38, 39, 1000029] Try.f11 bradawllaw02_Raw_Formula.ann [t0, t1, t2] K h) := by kernel_rfl
set_option maxRecDepth 100000 in
theorem bradawllaw02_Raw_Formula.ok {t0 t1 t2 : Value} {K : Ret} {h : Heap} (hp : bradawllaw02_Raw_Formula.pt t0 t1 t2 K h) : CallH Try.prog 11 #[t0, t1, t2] K h :=
  fn_sound (qs := [18, 20, 21, 22, 23, 26, 27, 28, 30, 31, 32, 38, 39, 1000029]) (fn := Try.f11) (ann := bradawllaw02_Raw_Formula.ann) (args := [t0, t1, t2]) follows_mixed Try.func11 ((Eq.to_iff (congrFun (congrFun (congrFun (congrFun (congrFun (bradawllaw02_Raw_Formula.eq) t0) t1) t2) K) h)).mp hp)

/-! ### bradawl/bradawllaw14.Start: function 12 -/
abbrev bradawllaw14_Start.id : FuncId := 12
def bradawllaw14_Start.ann : Ann := (.seq none .leaf (.seq none .leaf (.seq none (.seq none .leaf (.block (.loop [1, 5, 10, 11] (.seq none .leaf (.seq none (.cond .leaf .leaf) (.seq none (.block (.seq none .leaf .leaf)) .leaf)))))) (.seq none .leaf .leaf))))
set_option maxRecDepth 100000 in
def bradawllaw14_Start.pt (t0 t1 : Value) (K : Ret) (h : Heap) : Prop :=
 go (MkS 4 1 1 #[(.bool false)] t0 t0) h fun t8 h =>
 go (Len t8) h fun t10 h =>
 Lp 4 (fun X1 t1_1 t5 t10_1 t11 h =>
 go (Bin .int .lss t11 t10_1) h fun t12 h =>
 If t12 (
 go (Bin .int .rem t11 (.int .i64 32)) h fun t18 h =>
 go (Bin .int .shr t1_1 t18) h fun t19 h =>
 go (Bin .int .and t19 (.int .u32 1)) h fun t20 h =>
 go (Bin .int .eql t20 (.int .u32 1)) h fun t21 h =>
 go (Idx 1 t5 t11) h fun t22 h =>
 go (St t22 t21) h fun _ h =>
 go (Bin .int .add t11 (.int .i64 1)) h fun t23 h =>
 X1 t1_1 t5 t10_1 t23 h) (
 K t5 h)) [t1, t8, t10, (.int .i64 0)] h
set_option maxRecDepth 100000 in
theorem bradawllaw14_Start.eq : (fun t0 t1 K h => bradawllaw14_Start.pt t0 t1 K h : Value → Value → Ret → Heap → Prop) = (fun t0 t1 K h => fnPt Try.prog [18, 20, 21, 22, 23, 26, 27, 28, 30, 31, 32, 38, 39, 1000029] Try.f12 bradawllaw14_Start.ann [t0, t1] K h) := by kernel_rfl
set_option maxRecDepth 100000 in
theorem bradawllaw14_Start.ok {t0 t1 : Value} {K : Ret} {h : Heap} (hp : bradawllaw14_Start.pt t0 t1 K h) : CallH Try.prog 12 #[t0, t1] K h :=
  fn_sound (qs := [18, 20, 21, 22, 23, 26, 27, 28, 30, 31, 32, 38, 39, 1000029]) (fn := Try.f12) (ann := bradawllaw14_Start.ann) (args := [t0, t1]) follows_mixed Try.func12 ((Eq.to_iff (congrFun (congrFun (congrFun (congrFun (bradawllaw14_Start.eq) t0) t1) K) h)).mp hp)

/-! ### bradawl/local.New: function 13 -/
abbrev local_New.id : FuncId := 13
def local_New.ann : Ann := (.seq none .leaf (.seq none (.seq none .leaf (.cond (.seq none .leaf .leaf) .leaf)) (.seq (some [2, 6]) .leaf (.seq none .leaf (.seq none (.seq none .leaf (.block (.loop [6, 40, 41, 42] (.seq none .leaf (.seq none (.cond .leaf .leaf) (.seq none (.block (.seq none .leaf (.seq none .leaf (.seq none (.seq none .leaf (.block (.loop [6, 9, 11, 40, 41, 42, 49, 50, 51] (.seq none .leaf (.seq none (.cond .leaf .leaf) (.seq (some [6, 9, 11, 40, 41, 42, 49, 50, 51]) (.block (.seq none .leaf (.seq (some [6, 9, 11, 13, 40, 41, 42, 49, 50, 51]) .leaf (.seq none .leaf (.cond (.seq none .leaf .leaf) .leaf))))) .leaf)))))) (.seq none .leaf .leaf))))) .leaf)))))) (.seq (some [6]) .leaf (.seq none .leaf .leaf)))))))
set_option maxRecDepth 100000 in
def local_New.pt (t0 t1 : Value) (K : Ret) (h : Heap) : Prop :=
 go (New (Value.cells t0) 30) h fun t2 h =>
 go (Len t1) h fun t15 h =>
 go (Fld 0 t2) h fun t16 h =>
 go (Ld t16) h fun t17 h =>
 go (Bin .int .neq t15 t17) h fun t18 h =>
 If t18 (
 K (.tuple #[(.pointer none), (.int .i64 1)]) h) (
 Join 2 (fun J1 =>
 go (Fld 0 t2) h fun t21 h =>
 go (Ld t21) h fun t22 h =>
 go (Bin .int .mul (.int .i64 2) t22) h fun t23 h =>
 go (Fld 0 t2) h fun t25 h =>
 go (Ld t25) h fun t26 h =>
 go (Bin .int .add t26 (.int .i64 1)) h fun t27 h =>
 go (Fld 0 t2) h fun t29 h =>
 go (Ld t29) h fun t30 h =>
 go (Bin .int .add t30 (.int .i64 1)) h fun t31 h =>
 (go (ACall Try.prog 29 [t1]) h fun t20 h =>
 (go (MkS 38 24 1 #[(.slice none 0 0)] t23 t23) h fun t24 h =>
 (go (MkS 3 8 1 #[(.int .i64 0)] t27 t27) h fun t28 h =>
 go (MkS 3 8 1 #[(.int .i64 0)] t31 t31) h fun t32 h =>
 go (Bld [(0, 1), (1, 1), (2, 1), (3, 1), (4, 1), (5, 1), (6, 1), (7, 1), (8, 1)] #[(.slice none 0 0), (.slice none 0 0), (.slice none 0 0), (.slice none 0 0), (.slice none 0 0), (.slice none 0 0), (.slice none 0 0), (.int .i64 0), (.int .i64 0)] [(0, t20), (2, t24), (4, t28), (5, t32)]) h fun t33 h =>
 go (New (Value.cells t33) 62) h fun t34 h =>
 J1 t2 t34 h) ∧
 (go (MkS 3 8 1 #[(.int .i64 0)] t31 t31) h fun t32_1 h =>
 go (MkS 3 8 1 #[(.int .i64 0)] t27 t27) h fun t28_1 h =>
 go (Bld [(0, 1), (1, 1), (2, 1), (3, 1), (4, 1), (5, 1), (6, 1), (7, 1), (8, 1)] #[(.slice none 0 0), (.slice none 0 0), (.slice none 0 0), (.slice none 0 0), (.slice none 0 0), (.slice none 0 0), (.slice none 0 0), (.int .i64 0), (.int .i64 0)] [(0, t20), (2, t24), (4, t28_1), (5, t32_1)]) h fun t33_1 h =>
 go (New (Value.cells t33_1) 62) h fun t34_1 h =>
 J1 t2 t34_1 h)) ∧
 (go (MkS 3 8 1 #[(.int .i64 0)] t27 t27) h fun t28_2 h =>
 (go (MkS 38 24 1 #[(.slice none 0 0)] t23 t23) h fun t24_1 h =>
 go (MkS 3 8 1 #[(.int .i64 0)] t31 t31) h fun t32_2 h =>
 go (Bld [(0, 1), (1, 1), (2, 1), (3, 1), (4, 1), (5, 1), (6, 1), (7, 1), (8, 1)] #[(.slice none 0 0), (.slice none 0 0), (.slice none 0 0), (.slice none 0 0), (.slice none 0 0), (.slice none 0 0), (.slice none 0 0), (.int .i64 0), (.int .i64 0)] [(0, t20), (2, t24_1), (4, t28_2), (5, t32_2)]) h fun t33_2 h =>
 go (New (Value.cells t33_2) 62) h fun t34_2 h =>
 J1 t2 t34_2 h) ∧
 (go (MkS 3 8 1 #[(.int .i64 0)] t31 t31) h fun t32_3 h =>
 go (MkS 38 24 1 #[(.slice none 0 0)] t23 t23) h fun t24_2 h =>
 go (Bld [(0, 1), (1, 1), (2, 1), (3, 1), (4, 1), (5, 1), (6, 1), (7, 1), (8, 1)] #[(.slice none 0 0), (.slice none 0 0), (.slice none 0 0), (.slice none 0 0), (.slice none 0 0), (.slice none 0 0), (.slice none 0 0), (.int .i64 0), (.int .i64 0)] [(0, t20), (2, t24_2), (4, t28_2), (5, t32_3)]) h fun t33_3 h =>
 go (New (Value.cells t33_3) 62) h fun t34_3 h =>
 J1 t2 t34_3 h)) ∧
 (go (MkS 3 8 1 #[(.int .i64 0)] t31 t31) h fun t32_4 h =>
 (go (MkS 38 24 1 #[(.slice none 0 0)] t23 t23) h fun t24_3 h =>
 go (MkS 3 8 1 #[(.int .i64 0)] t27 t27) h fun t28_3 h =>
 go (Bld [(0, 1), (1, 1), (2, 1), (3, 1), (4, 1), (5, 1), (6, 1), (7, 1), (8, 1)] #[(.slice none 0 0), (.slice none 0 0), (.slice none 0 0), (.slice none 0 0), (.slice none 0 0), (.slice none 0 0), (.slice none 0 0), (.int .i64 0), (.int .i64 0)] [(0, t20), (2, t24_3), (4, t28_3), (5, t32_4)]) h fun t33_4 h =>
 go (New (Value.cells t33_4) 62) h fun t34_4 h =>
 J1 t2 t34_4 h) ∧
 (go (MkS 3 8 1 #[(.int .i64 0)] t27 t27) h fun t28_4 h =>
 go (MkS 38 24 1 #[(.slice none 0 0)] t23 t23) h fun t24_4 h =>
 go (Bld [(0, 1), (1, 1), (2, 1), (3, 1), (4, 1), (5, 1), (6, 1), (7, 1), (8, 1)] #[(.slice none 0 0), (.slice none 0 0), (.slice none 0 0), (.slice none 0 0), (.slice none 0 0), (.slice none 0 0), (.slice none 0 0), (.int .i64 0), (.int .i64 0)] [(0, t20), (2, t24_4), (4, t28_4), (5, t32_4)]) h fun t33_5 h =>
 go (New (Value.cells t33_5) 62) h fun t34_5 h =>
 J1 t2 t34_5 h))) ∧
 (go (MkS 38 24 1 #[(.slice none 0 0)] t23 t23) h fun t24_5 h =>
 (go (ACall Try.prog 29 [t1]) h fun t20_1 h =>
 (go (MkS 3 8 1 #[(.int .i64 0)] t27 t27) h fun t28_5 h =>
 go (MkS 3 8 1 #[(.int .i64 0)] t31 t31) h fun t32_5 h =>
 go (Bld [(0, 1), (1, 1), (2, 1), (3, 1), (4, 1), (5, 1), (6, 1), (7, 1), (8, 1)] #[(.slice none 0 0), (.slice none 0 0), (.slice none 0 0), (.slice none 0 0), (.slice none 0 0), (.slice none 0 0), (.slice none 0 0), (.int .i64 0), (.int .i64 0)] [(0, t20_1), (2, t24_5), (4, t28_5), (5, t32_5)]) h fun t33_6 h =>
 go (New (Value.cells t33_6) 62) h fun t34_6 h =>
 J1 t2 t34_6 h) ∧
 (go (MkS 3 8 1 #[(.int .i64 0)] t31 t31) h fun t32_6 h =>
 go (MkS 3 8 1 #[(.int .i64 0)] t27 t27) h fun t28_6 h =>
 go (Bld [(0, 1), (1, 1), (2, 1), (3, 1), (4, 1), (5, 1), (6, 1), (7, 1), (8, 1)] #[(.slice none 0 0), (.slice none 0 0), (.slice none 0 0), (.slice none 0 0), (.slice none 0 0), (.slice none 0 0), (.slice none 0 0), (.int .i64 0), (.int .i64 0)] [(0, t20_1), (2, t24_5), (4, t28_6), (5, t32_6)]) h fun t33_7 h =>
 go (New (Value.cells t33_7) 62) h fun t34_7 h =>
 J1 t2 t34_7 h)) ∧
 (go (MkS 3 8 1 #[(.int .i64 0)] t27 t27) h fun t28_7 h =>
 (go (ACall Try.prog 29 [t1]) h fun t20_2 h =>
 go (MkS 3 8 1 #[(.int .i64 0)] t31 t31) h fun t32_7 h =>
 go (Bld [(0, 1), (1, 1), (2, 1), (3, 1), (4, 1), (5, 1), (6, 1), (7, 1), (8, 1)] #[(.slice none 0 0), (.slice none 0 0), (.slice none 0 0), (.slice none 0 0), (.slice none 0 0), (.slice none 0 0), (.slice none 0 0), (.int .i64 0), (.int .i64 0)] [(0, t20_2), (2, t24_5), (4, t28_7), (5, t32_7)]) h fun t33_8 h =>
 go (New (Value.cells t33_8) 62) h fun t34_8 h =>
 J1 t2 t34_8 h) ∧
 (go (MkS 3 8 1 #[(.int .i64 0)] t31 t31) h fun t32_8 h =>
 go (ACall Try.prog 29 [t1]) h fun t20_3 h =>
 go (Bld [(0, 1), (1, 1), (2, 1), (3, 1), (4, 1), (5, 1), (6, 1), (7, 1), (8, 1)] #[(.slice none 0 0), (.slice none 0 0), (.slice none 0 0), (.slice none 0 0), (.slice none 0 0), (.slice none 0 0), (.slice none 0 0), (.int .i64 0), (.int .i64 0)] [(0, t20_3), (2, t24_5), (4, t28_7), (5, t32_8)]) h fun t33_9 h =>
 go (New (Value.cells t33_9) 62) h fun t34_9 h =>
 J1 t2 t34_9 h)) ∧
 (go (MkS 3 8 1 #[(.int .i64 0)] t31 t31) h fun t32_9 h =>
 (go (ACall Try.prog 29 [t1]) h fun t20_4 h =>
 go (MkS 3 8 1 #[(.int .i64 0)] t27 t27) h fun t28_8 h =>
 go (Bld [(0, 1), (1, 1), (2, 1), (3, 1), (4, 1), (5, 1), (6, 1), (7, 1), (8, 1)] #[(.slice none 0 0), (.slice none 0 0), (.slice none 0 0), (.slice none 0 0), (.slice none 0 0), (.slice none 0 0), (.slice none 0 0), (.int .i64 0), (.int .i64 0)] [(0, t20_4), (2, t24_5), (4, t28_8), (5, t32_9)]) h fun t33_10 h =>
 go (New (Value.cells t33_10) 62) h fun t34_10 h =>
 J1 t2 t34_10 h) ∧
 (go (MkS 3 8 1 #[(.int .i64 0)] t27 t27) h fun t28_9 h =>
 go (ACall Try.prog 29 [t1]) h fun t20_5 h =>
 go (Bld [(0, 1), (1, 1), (2, 1), (3, 1), (4, 1), (5, 1), (6, 1), (7, 1), (8, 1)] #[(.slice none 0 0), (.slice none 0 0), (.slice none 0 0), (.slice none 0 0), (.slice none 0 0), (.slice none 0 0), (.slice none 0 0), (.int .i64 0), (.int .i64 0)] [(0, t20_5), (2, t24_5), (4, t28_9), (5, t32_9)]) h fun t33_11 h =>
 go (New (Value.cells t33_11) 62) h fun t34_11 h =>
 J1 t2 t34_11 h))) ∧
 (go (MkS 3 8 1 #[(.int .i64 0)] t27 t27) h fun t28_10 h =>
 (go (ACall Try.prog 29 [t1]) h fun t20_6 h =>
 (go (MkS 38 24 1 #[(.slice none 0 0)] t23 t23) h fun t24_6 h =>
 go (MkS 3 8 1 #[(.int .i64 0)] t31 t31) h fun t32_10 h =>
 go (Bld [(0, 1), (1, 1), (2, 1), (3, 1), (4, 1), (5, 1), (6, 1), (7, 1), (8, 1)] #[(.slice none 0 0), (.slice none 0 0), (.slice none 0 0), (.slice none 0 0), (.slice none 0 0), (.slice none 0 0), (.slice none 0 0), (.int .i64 0), (.int .i64 0)] [(0, t20_6), (2, t24_6), (4, t28_10), (5, t32_10)]) h fun t33_12 h =>
 go (New (Value.cells t33_12) 62) h fun t34_12 h =>
 J1 t2 t34_12 h) ∧
 (go (MkS 3 8 1 #[(.int .i64 0)] t31 t31) h fun t32_11 h =>
 go (MkS 38 24 1 #[(.slice none 0 0)] t23 t23) h fun t24_7 h =>
 go (Bld [(0, 1), (1, 1), (2, 1), (3, 1), (4, 1), (5, 1), (6, 1), (7, 1), (8, 1)] #[(.slice none 0 0), (.slice none 0 0), (.slice none 0 0), (.slice none 0 0), (.slice none 0 0), (.slice none 0 0), (.slice none 0 0), (.int .i64 0), (.int .i64 0)] [(0, t20_6), (2, t24_7), (4, t28_10), (5, t32_11)]) h fun t33_13 h =>
 go (New (Value.cells t33_13) 62) h fun t34_13 h =>
 J1 t2 t34_13 h)) ∧
 (go (MkS 38 24 1 #[(.slice none 0 0)] t23 t23) h fun t24_8 h =>
 (go (ACall Try.prog 29 [t1]) h fun t20_7 h =>
 go (MkS 3 8 1 #[(.int .i64 0)] t31 t31) h fun t32_12 h =>
 go (Bld [(0, 1), (1, 1), (2, 1), (3, 1), (4, 1), (5, 1), (6, 1), (7, 1), (8, 1)] #[(.slice none 0 0), (.slice none 0 0), (.slice none 0 0), (.slice none 0 0), (.slice none 0 0), (.slice none 0 0), (.slice none 0 0), (.int .i64 0), (.int .i64 0)] [(0, t20_7), (2, t24_8), (4, t28_10), (5, t32_12)]) h fun t33_14 h =>
 go (New (Value.cells t33_14) 62) h fun t34_14 h =>
 J1 t2 t34_14 h) ∧
 (go (MkS 3 8 1 #[(.int .i64 0)] t31 t31) h fun t32_13 h =>
 go (ACall Try.prog 29 [t1]) h fun t20_8 h =>
 go (Bld [(0, 1), (1, 1), (2, 1), (3, 1), (4, 1), (5, 1), (6, 1), (7, 1), (8, 1)] #[(.slice none 0 0), (.slice none 0 0), (.slice none 0 0), (.slice none 0 0), (.slice none 0 0), (.slice none 0 0), (.slice none 0 0), (.int .i64 0), (.int .i64 0)] [(0, t20_8), (2, t24_8), (4, t28_10), (5, t32_13)]) h fun t33_15 h =>
 go (New (Value.cells t33_15) 62) h fun t34_15 h =>
 J1 t2 t34_15 h)) ∧
 (go (MkS 3 8 1 #[(.int .i64 0)] t31 t31) h fun t32_14 h =>
 (go (ACall Try.prog 29 [t1]) h fun t20_9 h =>
 go (MkS 38 24 1 #[(.slice none 0 0)] t23 t23) h fun t24_9 h =>
 go (Bld [(0, 1), (1, 1), (2, 1), (3, 1), (4, 1), (5, 1), (6, 1), (7, 1), (8, 1)] #[(.slice none 0 0), (.slice none 0 0), (.slice none 0 0), (.slice none 0 0), (.slice none 0 0), (.slice none 0 0), (.slice none 0 0), (.int .i64 0), (.int .i64 0)] [(0, t20_9), (2, t24_9), (4, t28_10), (5, t32_14)]) h fun t33_16 h =>
 go (New (Value.cells t33_16) 62) h fun t34_16 h =>
 J1 t2 t34_16 h) ∧
 (go (MkS 38 24 1 #[(.slice none 0 0)] t23 t23) h fun t24_10 h =>
 go (ACall Try.prog 29 [t1]) h fun t20_10 h =>
 go (Bld [(0, 1), (1, 1), (2, 1), (3, 1), (4, 1), (5, 1), (6, 1), (7, 1), (8, 1)] #[(.slice none 0 0), (.slice none 0 0), (.slice none 0 0), (.slice none 0 0), (.slice none 0 0), (.slice none 0 0), (.slice none 0 0), (.int .i64 0), (.int .i64 0)] [(0, t20_10), (2, t24_10), (4, t28_10), (5, t32_14)]) h fun t33_17 h =>
 go (New (Value.cells t33_17) 62) h fun t34_17 h =>
 J1 t2 t34_17 h))) ∧
 (go (MkS 3 8 1 #[(.int .i64 0)] t31 t31) h fun t32_15 h =>
 (go (ACall Try.prog 29 [t1]) h fun t20_11 h =>
 (go (MkS 38 24 1 #[(.slice none 0 0)] t23 t23) h fun t24_11 h =>
 go (MkS 3 8 1 #[(.int .i64 0)] t27 t27) h fun t28_11 h =>
 go (Bld [(0, 1), (1, 1), (2, 1), (3, 1), (4, 1), (5, 1), (6, 1), (7, 1), (8, 1)] #[(.slice none 0 0), (.slice none 0 0), (.slice none 0 0), (.slice none 0 0), (.slice none 0 0), (.slice none 0 0), (.slice none 0 0), (.int .i64 0), (.int .i64 0)] [(0, t20_11), (2, t24_11), (4, t28_11), (5, t32_15)]) h fun t33_18 h =>
 go (New (Value.cells t33_18) 62) h fun t34_18 h =>
 J1 t2 t34_18 h) ∧
 (go (MkS 3 8 1 #[(.int .i64 0)] t27 t27) h fun t28_12 h =>
 go (MkS 38 24 1 #[(.slice none 0 0)] t23 t23) h fun t24_12 h =>
 go (Bld [(0, 1), (1, 1), (2, 1), (3, 1), (4, 1), (5, 1), (6, 1), (7, 1), (8, 1)] #[(.slice none 0 0), (.slice none 0 0), (.slice none 0 0), (.slice none 0 0), (.slice none 0 0), (.slice none 0 0), (.slice none 0 0), (.int .i64 0), (.int .i64 0)] [(0, t20_11), (2, t24_12), (4, t28_12), (5, t32_15)]) h fun t33_19 h =>
 go (New (Value.cells t33_19) 62) h fun t34_19 h =>
 J1 t2 t34_19 h)) ∧
 (go (MkS 38 24 1 #[(.slice none 0 0)] t23 t23) h fun t24_13 h =>
 (go (ACall Try.prog 29 [t1]) h fun t20_12 h =>
 go (MkS 3 8 1 #[(.int .i64 0)] t27 t27) h fun t28_13 h =>
 go (Bld [(0, 1), (1, 1), (2, 1), (3, 1), (4, 1), (5, 1), (6, 1), (7, 1), (8, 1)] #[(.slice none 0 0), (.slice none 0 0), (.slice none 0 0), (.slice none 0 0), (.slice none 0 0), (.slice none 0 0), (.slice none 0 0), (.int .i64 0), (.int .i64 0)] [(0, t20_12), (2, t24_13), (4, t28_13), (5, t32_15)]) h fun t33_20 h =>
 go (New (Value.cells t33_20) 62) h fun t34_20 h =>
 J1 t2 t34_20 h) ∧
 (go (MkS 3 8 1 #[(.int .i64 0)] t27 t27) h fun t28_14 h =>
 go (ACall Try.prog 29 [t1]) h fun t20_13 h =>
 go (Bld [(0, 1), (1, 1), (2, 1), (3, 1), (4, 1), (5, 1), (6, 1), (7, 1), (8, 1)] #[(.slice none 0 0), (.slice none 0 0), (.slice none 0 0), (.slice none 0 0), (.slice none 0 0), (.slice none 0 0), (.slice none 0 0), (.int .i64 0), (.int .i64 0)] [(0, t20_13), (2, t24_13), (4, t28_14), (5, t32_15)]) h fun t33_21 h =>
 go (New (Value.cells t33_21) 62) h fun t34_21 h =>
 J1 t2 t34_21 h)) ∧
 (go (MkS 3 8 1 #[(.int .i64 0)] t27 t27) h fun t28_15 h =>
 (go (ACall Try.prog 29 [t1]) h fun t20_14 h =>
 go (MkS 38 24 1 #[(.slice none 0 0)] t23 t23) h fun t24_14 h =>
 go (Bld [(0, 1), (1, 1), (2, 1), (3, 1), (4, 1), (5, 1), (6, 1), (7, 1), (8, 1)] #[(.slice none 0 0), (.slice none 0 0), (.slice none 0 0), (.slice none 0 0), (.slice none 0 0), (.slice none 0 0), (.slice none 0 0), (.int .i64 0), (.int .i64 0)] [(0, t20_14), (2, t24_14), (4, t28_15), (5, t32_15)]) h fun t33_22 h =>
 go (New (Value.cells t33_22) 62) h fun t34_22 h =>
 J1 t2 t34_22 h) ∧
 (go (MkS 38 24 1 #[(.slice none 0 0)] t23 t23) h fun t24_15 h =>
 go (ACall Try.prog 29 [t1]) h fun t20_15 h =>
 go (Bld [(0, 1), (1, 1), (2, 1), (3, 1), (4, 1), (5, 1), (6, 1), (7, 1), (8, 1)] #[(.slice none 0 0), (.slice none 0 0), (.slice none 0 0), (.slice none 0 0), (.slice none 0 0), (.slice none 0 0), (.slice none 0 0), (.int .i64 0), (.int .i64 0)] [(0, t20_15), (2, t24_15), (4, t28_15), (5, t32_15)]) h fun t33_23 h =>
 go (New (Value.cells t33_23) 62) h fun t34_23 h =>
 J1 t2 t34_23 h)))) (fun t2_1 t6 h =>
 go (LdA 2 t2_1) h fun t36 h =>
 go (CallF Try.prog 14 [t36]) h fun t37 h =>
 go (Ext 0 t37) h fun t38 h =>
 go (Ext 1 t37) h fun t39 h =>
 go (Len t38) h fun t41 h =>
 Lp 4 (fun X2 t6_1 t40 t41_1 t42 h =>
 go (Bin .int .lss t42 t41_1) h fun t43 h =>
 If t43 (
 go (Idx 1 t40 t42) h fun t45 h =>
 go (Ld t45) h fun t46 h =>
 go (Bld [(0, 1), (1, 1), (2, 1), (3, 1)] #[(.slice none 0 0), (.int .i64 0), (.int .i64 0), (.int .i64 0)] [(0, t46), (3, (.int .i64 (-1)))]) h fun t48 h =>
 go (New #[(.slice none 0 0), (.int .i64 0), (.int .i64 0), (.int .i64 0)] 64) h fun t11 h =>
 go (StA 4 t11 t48) h fun _ h =>
 go (Len t46) h fun t50 h =>
 Lp 9 (fun X3 t6_2 t9 t11_1 t40_1 t41_2 t42_1 t49 t50_1 t51 h =>
 go (Bin .int .lss t51 t50_1) h fun t52 h =>
 If t52 (
 Join 9 (fun J4 =>
 go (Idx 1 t49 t51) h fun t53 h =>
 go (Ld t53) h fun t54 h =>
 Join 10 (fun J5 =>
 go (NilC t6_2) h fun t56 h =>
 go (Fld 2 t56) h fun t57 h =>
 go (NilC t6_2) h fun t62 h =>
 go (Fld 2 t62) h fun t63 h =>
 go (Ld t63) h fun t64 h =>
 (go (Ld t57) h fun t58 h =>
 (go (QCall Try.prog 30 [t54]) h fun t60 h =>
 (go (QCall Try.prog 30 [t54]) h fun t66 h =>
 go (Idx 1 t64 t66) h fun t67 h =>
 go (Ld t67) h fun t68 h =>
 go (BldS 3 1 1 #[(.int .i64 0)] [(0, t9)]) h fun t70 h =>
 go (App 3 1 8 #[(.int .i64 0)] t68 t70) h fun t71 h =>
 go (Idx 1 t58 t60) h fun t72 h =>
 go (St t72 t71) h fun _ h =>
 J5 t6_2 t9 t11_1 t54 t40_1 t41_2 t42_1 t49 t50_1 t51 h) ∧
 (go (BldS 3 1 1 #[(.int .i64 0)] [(0, t9)]) h fun t70_1 h =>
 go (QCall Try.prog 30 [t54]) h fun t66_1 h =>
 go (Idx 1 t64 t66_1) h fun t67_1 h =>
 go (Ld t67_1) h fun t68_1 h =>
 go (App 3 1 8 #[(.int .i64 0)] t68_1 t70_1) h fun t71_1 h =>
 go (Idx 1 t58 t60) h fun t72_1 h =>
 go (St t72_1 t71_1) h fun _ h =>
 J5 t6_2 t9 t11_1 t54 t40_1 t41_2 t42_1 t49 t50_1 t51 h)) ∧
 (go (BldS 3 1 1 #[(.int .i64 0)] [(0, t9)]) h fun t70_2 h =>
 go (QCall Try.prog 30 [t54]) h fun t60_1 h =>
 go (QCall Try.prog 30 [t54]) h fun t66_2 h =>
 go (Idx 1 t64 t66_2) h fun t67_2 h =>
 go (Ld t67_2) h fun t68_2 h =>
 go (App 3 1 8 #[(.int .i64 0)] t68_2 t70_2) h fun t71_2 h =>
 go (Idx 1 t58 t60_1) h fun t72_2 h =>
 go (St t72_2 t71_2) h fun _ h =>
 J5 t6_2 t9 t11_1 t54 t40_1 t41_2 t42_1 t49 t50_1 t51 h)) ∧
 (go (QCall Try.prog 30 [t54]) h fun t60_2 h =>
 (go (Ld t57) h fun t58_1 h =>
 (go (QCall Try.prog 30 [t54]) h fun t66_3 h =>
 go (Idx 1 t64 t66_3) h fun t67_3 h =>
 go (Ld t67_3) h fun t68_3 h =>
 go (BldS 3 1 1 #[(.int .i64 0)] [(0, t9)]) h fun t70_3 h =>
 go (App 3 1 8 #[(.int .i64 0)] t68_3 t70_3) h fun t71_3 h =>
 go (Idx 1 t58_1 t60_2) h fun t72_3 h =>
 go (St t72_3 t71_3) h fun _ h =>
 J5 t6_2 t9 t11_1 t54 t40_1 t41_2 t42_1 t49 t50_1 t51 h) ∧
 (go (BldS 3 1 1 #[(.int .i64 0)] [(0, t9)]) h fun t70_4 h =>
 go (QCall Try.prog 30 [t54]) h fun t66_4 h =>
 go (Idx 1 t64 t66_4) h fun t67_4 h =>
 go (Ld t67_4) h fun t68_4 h =>
 go (App 3 1 8 #[(.int .i64 0)] t68_4 t70_4) h fun t71_4 h =>
 go (Idx 1 t58_1 t60_2) h fun t72_4 h =>
 go (St t72_4 t71_4) h fun _ h =>
 J5 t6_2 t9 t11_1 t54 t40_1 t41_2 t42_1 t49 t50_1 t51 h)) ∧
 (go (QCall Try.prog 30 [t54]) h fun t66_5 h =>
 go (Idx 1 t64 t66_5) h fun t67_5 h =>
 go (Ld t67_5) h fun t68_5 h =>
 (go (Ld t57) h fun t58_2 h =>
 go (BldS 3 1 1 #[(.int .i64 0)] [(0, t9)]) h fun t70_5 h =>
 go (App 3 1 8 #[(.int .i64 0)] t68_5 t70_5) h fun t71_5 h =>
 go (Idx 1 t58_2 t60_2) h fun t72_5 h =>
 go (St t72_5 t71_5) h fun _ h =>
 J5 t6_2 t9 t11_1 t54 t40_1 t41_2 t42_1 t49 t50_1 t51 h) ∧
 (go (BldS 3 1 1 #[(.int .i64 0)] [(0, t9)]) h fun t70_6 h =>
 (go (Ld t57) h fun t58_3 h =>
 go (App 3 1 8 #[(.int .i64 0)] t68_5 t70_6) h fun t71_6 h =>
 go (Idx 1 t58_3 t60_2) h fun t72_6 h =>
 go (St t72_6 t71_6) h fun _ h =>
 J5 t6_2 t9 t11_1 t54 t40_1 t41_2 t42_1 t49 t50_1 t51 h) ∧
 (go (App 3 1 8 #[(.int .i64 0)] t68_5 t70_6) h fun t71_7 h =>
 go (Ld t57) h fun t58_4 h =>
 go (Idx 1 t58_4 t60_2) h fun t72_7 h =>
 go (St t72_7 t71_7) h fun _ h =>
 J5 t6_2 t9 t11_1 t54 t40_1 t41_2 t42_1 t49 t50_1 t51 h))) ∧
 (go (BldS 3 1 1 #[(.int .i64 0)] [(0, t9)]) h fun t70_7 h =>
 go (QCall Try.prog 30 [t54]) h fun t66_6 h =>
 go (Idx 1 t64 t66_6) h fun t67_6 h =>
 go (Ld t67_6) h fun t68_6 h =>
 (go (Ld t57) h fun t58_5 h =>
 go (App 3 1 8 #[(.int .i64 0)] t68_6 t70_7) h fun t71_8 h =>
 go (Idx 1 t58_5 t60_2) h fun t72_8 h =>
 go (St t72_8 t71_8) h fun _ h =>
 J5 t6_2 t9 t11_1 t54 t40_1 t41_2 t42_1 t49 t50_1 t51 h) ∧
 (go (App 3 1 8 #[(.int .i64 0)] t68_6 t70_7) h fun t71_9 h =>
 go (Ld t57) h fun t58_6 h =>
 go (Idx 1 t58_6 t60_2) h fun t72_9 h =>
 go (St t72_9 t71_9) h fun _ h =>
 J5 t6_2 t9 t11_1 t54 t40_1 t41_2 t42_1 t49 t50_1 t51 h))) ∧
 (go (BldS 3 1 1 #[(.int .i64 0)] [(0, t9)]) h fun t70_8 h =>
 go (QCall Try.prog 30 [t54]) h fun t60_3 h =>
 go (QCall Try.prog 30 [t54]) h fun t66_7 h =>
 go (Idx 1 t64 t66_7) h fun t67_7 h =>
 go (Ld t67_7) h fun t68_7 h =>
 (go (Ld t57) h fun t58_7 h =>
 go (App 3 1 8 #[(.int .i64 0)] t68_7 t70_8) h fun t71_10 h =>
 go (Idx 1 t58_7 t60_3) h fun t72_10 h =>
 go (St t72_10 t71_10) h fun _ h =>
 J5 t6_2 t9 t11_1 t54 t40_1 t41_2 t42_1 t49 t50_1 t51 h) ∧
 (go (App 3 1 8 #[(.int .i64 0)] t68_7 t70_8) h fun t71_11 h =>
 go (Ld t57) h fun t58_8 h =>
 go (Idx 1 t58_8 t60_3) h fun t72_11 h =>
 go (St t72_11 t71_11) h fun _ h =>
 J5 t6_2 t9 t11_1 t54 t40_1 t41_2 t42_1 t49 t50_1 t51 h))) (fun t6_3 t9_1 t11_2 t13 t40_2 t41_3 t42_2 t49_1 t50_2 t51_1 h =>
 go (NilC t6_3) h fun t75 h =>
 go (Fld 0 t75) h fun t76 h =>
 go (Ld t76) h fun t77 h =>
 go (QCall Try.prog 31 [t13, t77]) h fun t78 h =>
 If t78 (
 go (Fld 1 t11_2) h fun t79 h =>
 go (Ld t79) h fun t80 h =>
 go (Bin .int .add t80 (.int .i64 1)) h fun t81 h =>
 go (Fld 1 t11_2) h fun t82 h =>
 go (St t82 t81) h fun _ h =>
 go (Fld 2 t11_2) h fun t83 h =>
 go (Ld t83) h fun t84 h =>
 go (QCall Try.prog 32 [t13]) h fun t86 h =>
 go (Bin .int .add t84 t86) h fun t87 h =>
 go (Fld 2 t11_2) h fun t88 h =>
 go (St t88 t87) h fun _ h =>
 J4 t6_3 t9_1 t11_2 t40_2 t41_3 t42_2 t49_1 t50_2 t51_1 h) (
 J4 t6_3 t9_1 t11_2 t40_2 t41_3 t42_2 t49_1 t50_2 t51_1 h))) (fun t6_4 t9_2 t11_3 t40_3 t41_4 t42_3 t49_2 t50_3 t51_2 h =>
 go (Bin .int .add t51_2 (.int .i64 1)) h fun t89 h =>
 X3 t6_4 t9_2 t11_3 t40_3 t41_4 t42_3 t49_2 t50_3 t89 h)) (
 go (NilC t6_2) h fun t92 h =>
 go (Fld 1 t92) h fun t93 h =>
 go (Ld t93) h fun t94 h =>
 go (LdA 4 t11_1) h fun t95 h =>
 go (BldS 64 4 1 #[(.slice none 0 0), (.int .i64 0), (.int .i64 0), (.int .i64 0)] [(0, t95)]) h fun t96 h =>
 go (App 64 4 48 #[(.slice none 0 0), (.int .i64 0), (.int .i64 0), (.int .i64 0)] t94 t96) h fun t97 h =>
 go (NilC t6_2) h fun t98 h =>
 go (Fld 1 t98) h fun t99 h =>
 go (St t99 t97) h fun _ h =>
 go (CallF Try.prog 33 [t6_2, t9, (.int .i64 1)]) h fun t102 h =>
 go (Bin .int .add t42_1 (.int .i64 1)) h fun t103 h =>
 X2 t6_2 t40_1 t41_2 t103 h)) [t6_1, t42, t11, t40, t41_1, t42, t46, t50, (.int .i64 0)] h) (
 Join 1 (fun J6 =>
 go (NilC t6_1) h fun t107 h =>
 go (Fld 0 t107) h fun t108 h =>
 go (Ld t108) h fun t109 h =>
 go (NilC t6_1) h fun t112 h =>
 go (Fld 3 t112) h fun t113 h =>
 go (Ld t113) h fun t114 h =>
 (go (ACall Try.prog 29 [t109]) h fun t110 h =>
 go (NilC t6_1) h fun t116 h =>
 go (Fld 6 t116) h fun t117 h =>
 (go (Len t114) h fun t115 h =>
 go (St t117 t110) h fun _ h =>
 go (NilC t6_1) h fun t118 h =>
 go (Fld 7 t118) h fun t119 h =>
 go (St t119 t115) h fun _ h =>
 J6 t6_1 h) ∧
 (go (St t117 t110) h fun _ h =>
 go (Len t114) h fun t115_1 h =>
 go (NilC t6_1) h fun t118_1 h =>
 go (Fld 7 t118_1) h fun t119_1 h =>
 go (St t119_1 t115_1) h fun _ h =>
 J6 t6_1 h)) ∧
 (go (Len t114) h fun t115_2 h =>
 go (ACall Try.prog 29 [t109]) h fun t110_1 h =>
 go (NilC t6_1) h fun t116_1 h =>
 go (Fld 6 t116_1) h fun t117_1 h =>
 go (St t117_1 t110_1) h fun _ h =>
 go (NilC t6_1) h fun t118_2 h =>
 go (Fld 7 t118_2) h fun t119_2 h =>
 go (St t119_2 t115_2) h fun _ h =>
 J6 t6_1 h)) (fun t6_5 h =>
 K (.tuple #[t6_5, (.int .i64 0)]) h))) [t6, t38, t41, (.int .i64 0)] h))
set_option maxRecDepth 100000 in
theorem local_New.eq : (fun t0 t1 K h => local_New.pt t0 t1 K h : Value → Value → Ret → Heap → Prop) = (fun t0 t1 K h => fnPt Try.prog [18, 20, 21, 22, 23, 26, 27, 28, 30, 31, 32, 38, 39, 1000029] Try.f13 local_New.ann [t0, t1] K h) := by kernel_rfl
set_option maxRecDepth 100000 in
theorem local_New.ok {t0 t1 : Value} {K : Ret} {h : Heap} (hp : local_New.pt t0 t1 K h) : CallH Try.prog 13 #[t0, t1] K h :=
  fn_sound (qs := [18, 20, 21, 22, 23, 26, 27, 28, 30, 31, 32, 38, 39, 1000029]) (fn := Try.f13) (ann := local_New.ann) (args := [t0, t1]) follows_mixed Try.func13 ((Eq.to_iff (congrFun (congrFun (congrFun (congrFun (local_New.eq) t0) t1) K) h)).mp hp)

/-! ### bradawl/norm.Formula: function 14 -/
abbrev norm_Formula.id : FuncId := 14
def norm_Formula.ann : Ann := (.seq none .leaf (.seq none .leaf (.seq none .leaf (.seq none (.seq none .leaf (.block (.loop [4, 5, 9, 10, 11] (.seq none .leaf (.seq none (.cond .leaf .leaf) (.seq (some [4, 5, 9, 10, 11]) (.block (.seq none .leaf (.seq none .leaf (.cond (.seq none .leaf .leaf) .leaf)))) .leaf)))))) (.seq none .leaf .leaf)))))
set_option maxRecDepth 100000 in
def norm_Formula.pt (t0 : Value) (K : Ret) (h : Heap) : Prop :=
 go (New (Value.cells t0) 30) h fun t1 h =>
 go (Fld 1 t1) h fun t8 h =>
 go (Ld t8) h fun t9 h =>
 go (Len t9) h fun t10 h =>
 Lp 5 (fun X1 t4 t5 t9_1 t10_1 t11 h =>
 go (Bin .int .lss t11 t10_1) h fun t12 h =>
 If t12 (
 Join 5 (fun J2 =>
 go (Idx 1 t9_1 t11) h fun t13 h =>
 go (Ld t13) h fun t14 h =>
 go (CallF Try.prog 34 [t14]) h fun t16 h =>
 go (Un .not t16) h fun t17 h =>
 If t17 (
 go (CallF Try.prog 35 [t14]) h fun t20 h =>
 go (BldS 38 1 1 #[(.slice none 0 0)] [(0, t20)]) h fun t21 h =>
 go (App 38 1 24 #[(.slice none 0 0)] t4 t21) h fun t22 h =>
 go (Gd t5 false (Mv t14)) h fun t25 h =>
 go (Gd t5 false (Len t25)) h fun t26 h =>
 go (Gd t5 false (Bin .int .eql t26 (.int .i64 0))) h fun t27 h =>
 go (Pick t5 (.bool true) t27) h fun t28 h =>
 J2 t22 t28 t9_1 t10_1 t11 h) (
 J2 t4 t5 t9_1 t10_1 t11 h)) (fun t4_1 t5_1 t9_2 t10_2 t11_1 h =>
 go (Bin .int .add t11_1 (.int .i64 1)) h fun t29 h =>
 X1 t4_1 t5_1 t9_2 t10_2 t29 h)) (
 K (.tuple #[t4, t5]) h)) [(.slice none 0 0), (.bool false), t9, t10, (.int .i64 0)] h
set_option maxRecDepth 100000 in
theorem norm_Formula.eq : (fun t0 K h => norm_Formula.pt t0 K h : Value → Ret → Heap → Prop) = (fun t0 K h => fnPt Try.prog [18, 20, 21, 22, 23, 26, 27, 28, 30, 31, 32, 38, 39, 1000029] Try.f14 norm_Formula.ann [t0] K h) := by kernel_rfl
set_option maxRecDepth 100000 in
theorem norm_Formula.ok {t0 : Value} {K : Ret} {h : Heap} (hp : norm_Formula.pt t0 K h) : CallH Try.prog 14 #[t0] K h :=
  fn_sound (qs := [18, 20, 21, 22, 23, 26, 27, 28, 30, 31, 32, 38, 39, 1000029]) (fn := Try.f14) (ann := norm_Formula.ann) (args := [t0]) follows_mixed Try.func14 ((Eq.to_iff (congrFun (congrFun (congrFun (norm_Formula.eq) t0) K) h)).mp hp)

/-! ### (*bradawl/local.State).Clause: function 15 -/
abbrev local_State_Clause.id : FuncId := 15
def local_State_Clause.ann : Ann := (.seq none .leaf (.seq none (.seq none .leaf (.cond (.seq none .leaf .leaf) .leaf)) (.seq none .leaf .leaf)))
set_option maxRecDepth 100000 in
def local_State_Clause.pt (t0 t1 : Value) (K : Ret) (h : Heap) : Prop :=
 go (Bin .int .lss t1 (.int .i64 0)) h fun t6 h =>
 go (Gd t6 false (Mv t1)) h fun t8 h =>
 go (Gd t6 false (Mv t0)) h fun t9 h =>
 go (Gd t6 false (NilC t9)) h fun t10 h =>
 go (Gd t6 false (Fld 1 t10)) h fun t11 h =>
 go (Gd t6 false (Ld t11)) h fun t12 h =>
 go (Gd t6 false (Len t12)) h fun t13 h =>
 go (Gd t6 false (Bin .int .geq t8 t13)) h fun t14 h =>
 go (Pick t6 (.bool true) t14) h fun t15 h =>
 If t15 (
 K (.slice none 0 0) h) (
 go (NilC t0) h fun t17 h =>
 go (Fld 1 t17) h fun t18 h =>
 go (Ld t18) h fun t19 h =>
 go (Idx 4 t19 t1) h fun t21 h =>
 go (Fld 0 t21) h fun t22 h =>
 go (Ld t22) h fun t23 h =>
 go (CallF Try.prog 36 [t23]) h fun t24 h =>
 K t24 h)
set_option maxRecDepth 100000 in
theorem local_State_Clause.eq : (fun t0 t1 K h => local_State_Clause.pt t0 t1 K h : Value → Value → Ret → Heap → Prop) = (fun t0 t1 K h => fnPt Try.prog [18, 20, 21, 22, 23, 26, 27, 28, 30, 31, 32, 38, 39, 1000029] Try.f15 local_State_Clause.ann [t0, t1] K h) := by kernel_rfl
set_option maxRecDepth 100000 in
theorem local_State_Clause.ok {t0 t1 : Value} {K : Ret} {h : Heap} (hp : local_State_Clause.pt t0 t1 K h) : CallH Try.prog 15 #[t0, t1] K h :=
  fn_sound (qs := [18, 20, 21, 22, 23, 26, 27, 28, 30, 31, 32, 38, 39, 1000029]) (fn := Try.f15) (ann := local_State_Clause.ann) (args := [t0, t1]) follows_mixed Try.func15 ((Eq.to_iff (congrFun (congrFun (congrFun (congrFun (local_State_Clause.eq) t0) t1) K) h)).mp hp)

/-! ### bradawl/norm.Same: function 16 -/
abbrev norm_Same.id : FuncId := 16
def norm_Same.ann : Ann := (.seq none .leaf (.seq none .leaf .leaf))
set_option maxRecDepth 100000 in
def norm_Same.pt (t0 t1 : Value) (K : Ret) (h : Heap) : Prop :=
 go (CallF Try.prog 35 [t0]) h fun t6 h =>
 go (CallF Try.prog 35 [t1]) h fun t8 h =>
 go (CallF Try.prog 37 [t6, t8]) h fun t9 h =>
 K t9 h
set_option maxRecDepth 100000 in
theorem norm_Same.eq : (fun t0 t1 K h => norm_Same.pt t0 t1 K h : Value → Value → Ret → Heap → Prop) = (fun t0 t1 K h => fnPt Try.prog [18, 20, 21, 22, 23, 26, 27, 28, 30, 31, 32, 38, 39, 1000029] Try.f16 norm_Same.ann [t0, t1] K h) := by kernel_rfl
set_option maxRecDepth 100000 in
theorem norm_Same.ok {t0 t1 : Value} {K : Ret} {h : Heap} (hp : norm_Same.pt t0 t1 K h) : CallH Try.prog 16 #[t0, t1] K h :=
  fn_sound (qs := [18, 20, 21, 22, 23, 26, 27, 28, 30, 31, 32, 38, 39, 1000029]) (fn := Try.f16) (ann := norm_Same.ann) (args := [t0, t1]) follows_mixed Try.func16 ((Eq.to_iff (congrFun (congrFun (congrFun (congrFun (norm_Same.eq) t0) t1) K) h)).mp hp)

/-! ### (*bradawl/local.State).Assignment: function 17 -/
abbrev local_State_Assignment.id : FuncId := 17
def local_State_Assignment.ann : Ann := (.seq none .leaf (.seq none .leaf .leaf))
set_option maxRecDepth 100000 in
def local_State_Assignment.pt (t0 : Value) (K : Ret) (h : Heap) : Prop :=
 go (NilC t0) h fun t4 h =>
 go (Fld 0 t4) h fun t5 h =>
 go (Ld t5) h fun t6 h =>
 go (ACall Try.prog 29 [t6]) h fun t7 h =>
 K t7 h
set_option maxRecDepth 100000 in
theorem local_State_Assignment.eq : (fun t0 K h => local_State_Assignment.pt t0 K h : Value → Ret → Heap → Prop) = (fun t0 K h => fnPt Try.prog [18, 20, 21, 22, 23, 26, 27, 28, 30, 31, 32, 38, 39, 1000029] Try.f17 local_State_Assignment.ann [t0] K h) := by kernel_rfl
set_option maxRecDepth 100000 in
theorem local_State_Assignment.ok {t0 : Value} {K : Ret} {h : Heap} (hp : local_State_Assignment.pt t0 K h) : CallH Try.prog 17 #[t0] K h :=
  fn_sound (qs := [18, 20, 21, 22, 23, 26, 27, 28, 30, 31, 32, 38, 39, 1000029]) (fn := Try.f17) (ann := local_State_Assignment.ann) (args := [t0]) follows_mixed Try.func17 ((Eq.to_iff (congrFun (congrFun (congrFun (local_State_Assignment.eq) t0) K) h)).mp hp)

/-! ### (*bradawl/local.State).Holding: function 18 -/
abbrev local_State_Holding.id : FuncId := 18
def local_State_Holding.ann : Ann := (.seq none .leaf (.seq none (.seq none .leaf (.cond (.seq none .leaf .leaf) .leaf)) (.seq none .leaf .leaf)))
set_option maxRecDepth 100000 in
def local_State_Holding.pt (t0 t1 : Value) (K : Ret) (h : Heap) : Prop :=
 go (Bin .int .lss t1 (.int .i64 0)) h fun t6 h =>
 go (Gd t6 false (Mv t1)) h fun t8 h =>
 go (Gd t6 false (Mv t0)) h fun t9 h =>
 go (Gd t6 false (NilC t9)) h fun t10 h =>
 go (Gd t6 false (Fld 1 t10)) h fun t11 h =>
 go (Gd t6 false (Ld t11)) h fun t12 h =>
 go (Gd t6 false (Len t12)) h fun t13 h =>
 go (Gd t6 false (Bin .int .geq t8 t13)) h fun t14 h =>
 go (Pick t6 (.bool true) t14) h fun t15 h =>
 If t15 (
 K (.int .i64 0) h) (
 go (NilC t0) h fun t17 h =>
 go (Fld 1 t17) h fun t18 h =>
 go (Ld t18) h fun t19 h =>
 go (Idx 4 t19 t1) h fun t21 h =>
 go (Fld 1 t21) h fun t22 h =>
 go (Ld t22) h fun t23 h =>
 K t23 h)
set_option maxRecDepth 100000 in
theorem local_State_Holding.eq : (fun t0 t1 K h => local_State_Holding.pt t0 t1 K h : Value → Value → Ret → Heap → Prop) = (fun t0 t1 K h => fnPt Try.prog [18, 20, 21, 22, 23, 26, 27, 28, 30, 31, 32, 38, 39, 1000029] Try.f18 local_State_Holding.ann [t0, t1] K h) := by kernel_rfl
set_option maxRecDepth 100000 in
theorem local_State_Holding.ok {t0 t1 : Value} {K : Ret} {h : Heap} (hp : local_State_Holding.pt t0 t1 K h) : CallH Try.prog 18 #[t0, t1] K h :=
  fn_sound (qs := [18, 20, 21, 22, 23, 26, 27, 28, 30, 31, 32, 38, 39, 1000029]) (fn := Try.f18) (ann := local_State_Holding.ann) (args := [t0, t1]) follows_mixed Try.func18 ((Eq.to_iff (congrFun (congrFun (congrFun (congrFun (local_State_Holding.eq) t0) t1) K) h)).mp hp)

/-! ### bradawl/bradawllaw14.right: function 19 -/
abbrev bradawllaw14_right.id : FuncId := 19
def bradawllaw14_right.ann : Ann := (.seq none .leaf (.seq none (.seq none .leaf (.cond (.seq none .leaf .leaf) .leaf)) (.seq (some [0, 1, 2, 7, 8]) .leaf (.seq none .leaf (.seq none (.seq none .leaf (.block (.loop [0, 2, 7, 8, 9, 33, 34, 35] (.seq none .leaf (.seq none (.cond .leaf .leaf) (.seq none (.block (.seq none .leaf (.seq none .leaf (.seq none (.seq none .leaf (.cond (.seq none .leaf .leaf) .leaf)) (.seq (some [0, 2, 7, 8, 9, 11, 12, 33, 34, 35]) (.seq none .leaf (.cond .leaf .leaf)) (.seq none .leaf (.block (.loop [0, 2, 7, 8, 9, 12, 33, 34, 35, 52, 53, 54] (.seq none .leaf (.seq none (.cond .leaf .leaf) (.seq (some [0, 2, 7, 8, 9, 12, 33, 34, 35, 52, 53, 54]) (.block (.seq none .leaf (.seq none .leaf (.seq (some [0, 2, 7, 8, 9, 12, 15, 33, 34, 35, 52, 53, 54]) (.seq none .leaf (.cond .leaf .leaf)) (.seq none .leaf (.cond .leaf .leaf)))))) .leaf))))))))))) .leaf)))))) (.seq none (.seq none .leaf (.block (.loop [0, 2, 7, 8, 9, 16] (.seq none (.seq none .leaf (.cond .leaf .leaf)) (.seq none (.block (.seq none .leaf (.cond (.seq none .leaf .leaf) .leaf))) .leaf))))) (.seq none (.seq none .leaf (.cond (.seq none .leaf .leaf) .leaf)) (.seq none (.seq none .leaf (.block (.loop [0, 9, 144, 145] (.seq none .leaf (.seq none (.cond .leaf .leaf) (.seq none (.block (.seq none .leaf (.seq none .leaf (.seq none (.seq none .leaf (.cond (.seq none .leaf .leaf) .leaf)) .leaf)))) .leaf)))))) (.seq none .leaf .leaf)))))))))
set_option maxRecDepth 100000 in
def bradawllaw14_right.pt (t0 t1 t2 : Value) (K : Ret) (h : Heap) : Prop :=
 go (QCall Try.prog 26 [t0]) h fun t20 h =>
 go (Len t1) h fun t22 h =>
 go (Bin .int .neq t20 t22) h fun t23 h =>
 If t23 (
 K (.bool false) h) (
 Join 5 (fun J1 =>
 go (Len t2) h fun t25 h =>
 go (Bin .int .add t25 (.int .i64 1)) h fun t26 h =>
 go (Len t2) h fun t29 h =>
 go (Bin .int .add t29 (.int .i64 1)) h fun t30 h =>
 (go (MkS 3 8 1 #[(.int .i64 0)] t26 t26) h fun t27 h =>
 go (MkS 3 8 1 #[(.int .i64 0)] t30 t30) h fun t31 h =>
 J1 t0 t1 t2 t27 t31 h) ∧
 (go (MkS 3 8 1 #[(.int .i64 0)] t30 t30) h fun t31_1 h =>
 go (MkS 3 8 1 #[(.int .i64 0)] t26 t26) h fun t27_1 h =>
 J1 t0 t1 t2 t27_1 t31_1 h)) (fun t0_1 t1_1 t2_1 t7 t8 h =>
 go (MkM) h fun t32 h =>
 go (Len t1_1) h fun t34 h =>
 Lp 8 (fun X2 t0_2 t2_2 t7_1 t8_1 t9 t33 t34_1 t35 h =>
 go (Bin .int .lss t35 t34_1) h fun t36 h =>
 If t36 (
 go (Idx 1 t33 t35) h fun t38 h =>
 go (Ld t38) h fun t39 h =>
 go (QCall Try.prog 38 [t39, t2_2]) h fun t42 h =>
 go (QCall Try.prog 18 [t0_2, t35]) h fun t45 h =>
 go (Bin .int .neq t45 t42) h fun t47 h =>
 If t47 (
 K (.bool false) h) (
 Join 10 (fun J3 =>
 go (Bin .int .eql t42 (.int .i64 0)) h fun t49 h =>
 If t49 (
 go (MUpd t9 t35 (.int .i64 1)) h fun _ h =>
 J3 t0_2 t2_2 t7_1 t8_1 t9 t39 t42 t33 t34_1 t35 h) (
 J3 t0_2 t2_2 t7_1 t8_1 t9 t39 t42 t33 t34_1 t35 h)) (fun t0_3 t2_3 t7_2 t8_2 t9_1 t11 t12 t33_1 t34_2 t35_1 h =>
 go (Len t11) h fun t53 h =>
 Lp 12 (fun X4 t0_4 t2_4 t7_3 t8_3 t9_2 t12_1 t33_2 t34_3 t35_2 t52 t53_1 t54 h =>
 go (Bin .int .lss t54 t53_1) h fun t55 h =>
 If t55 (
 Join 12 (fun J5 =>
 go (Idx 1 t52 t54) h fun t56 h =>
 go (Ld t56) h fun t57 h =>
 go (Un .neg t57) h fun t60 h =>
 go (MaxV [t57, t60]) h fun t61 h =>
 Join 13 (fun J6 =>
 go (Bin .int .eql t12_1 (.int .i64 1)) h fun t63 h =>
 go (Gd t63 true (Mv t57)) h fun t65 h =>
 go (Gd t63 true (BldS 3 1 1 #[(.int .i64 0)] [(0, t65)])) h fun t66 h =>
 go (Gd t63 true (Mv t2_4)) h fun t67 h =>
 go (Gd t63 true (QCall Try.prog 38 [t66, t67])) h fun t68 h =>
 go (Gd t63 true (Bin .int .eql t68 (.int .i64 1))) h fun t69 h =>
 go (Pick t63 t69 (.bool false)) h fun t70 h =>
 If t70 (
 go (Idx 1 t7_3 t61) h fun t73 h =>
 go (Ld t73) h fun t74 h =>
 go (Bin .int .add t74 (.int .i64 1)) h fun t75 h =>
 go (Idx 1 t7_3 t61) h fun t76 h =>
 go (St t76 t75) h fun _ h =>
 J6 t0_4 t2_4 t7_3 t8_3 t9_2 t12_1 t61 t33_2 t34_3 t35_2 t52 t53_1 t54 h) (
 J6 t0_4 t2_4 t7_3 t8_3 t9_2 t12_1 t61 t33_2 t34_3 t35_2 t52 t53_1 t54 h)) (fun t0_5 t2_5 t7_4 t8_4 t9_3 t12_2 t15 t33_3 t34_4 t35_3 t52_1 t53_2 t54_1 h =>
 go (Bin .int .eql t12_2 (.int .i64 0)) h fun t78 h =>
 If t78 (
 go (Idx 1 t8_4 t15) h fun t81 h =>
 go (Ld t81) h fun t82 h =>
 go (Bin .int .add t82 (.int .i64 1)) h fun t83 h =>
 go (Idx 1 t8_4 t15) h fun t84 h =>
 go (St t84 t83) h fun _ h =>
 J5 t0_5 t2_5 t7_4 t8_4 t9_3 t12_2 t33_3 t34_4 t35_3 t52_1 t53_2 t54_1 h) (
 J5 t0_5 t2_5 t7_4 t8_4 t9_3 t12_2 t33_3 t34_4 t35_3 t52_1 t53_2 t54_1 h))) (fun t0_6 t2_6 t7_5 t8_5 t9_4 t12_3 t33_4 t34_5 t35_4 t52_2 t53_3 t54_2 h =>
 go (Bin .int .add t54_2 (.int .i64 1)) h fun t85 h =>
 X4 t0_6 t2_6 t7_5 t8_5 t9_4 t12_3 t33_4 t34_5 t35_4 t52_2 t53_3 t85 h)) (
 go (Bin .int .add t35_2 (.int .i64 1)) h fun t86 h =>
 X2 t0_4 t2_4 t7_3 t8_3 t9_2 t33_2 t34_3 t86 h)) [t0_3, t2_3, t7_2, t8_2, t9_1, t12, t33_1, t34_2, t35_1, t11, t53, (.int .i64 0)] h))) (
 Lp 6 (fun X7 t0_7 t2_7 t7_6 t8_6 t9_5 t16 h =>
 go (Len t2_7) h fun t89 h =>
 go (Bin .int .leq t16 t89) h fun t90 h =>
 If t90 (
 go (QCall Try.prog 20 [t0_7, t16]) h fun t95 h =>
 go (Idx 1 t7_6 t16) h fun t98 h =>
 go (Ld t98) h fun t99 h =>
 go (Bin .int .neq t95 t99) h fun t100 h =>
 go (Gd t100 false (Mv t0_7)) h fun t102 h =>
 go (Gd t100 false (Mv t16)) h fun t103 h =>
 go (Gd t100 false (QCall Try.prog 21 [t102, t103])) h fun t104 h =>
 go (Gd t100 false (Mv t8_6)) h fun t105 h =>
 go (Gd t100 false (Mv t16)) h fun t106 h =>
 go (Gd t100 false (Idx 1 t105 t106)) h fun t107 h =>
 go (Gd t100 false (Ld t107)) h fun t108 h =>
 go (Gd t100 false (Bin .int .neq t104 t108)) h fun t109 h =>
 go (Pick t100 (.bool true) t109) h fun t110 h =>
 go (Gd t110 false (Mv t0_7)) h fun t112 h =>
 go (Gd t110 false (Mv t16)) h fun t113 h =>
 go (Gd t110 false (QCall Try.prog 22 [t112, t113])) h fun t114 h =>
 go (Gd t110 false (Mv t16)) h fun t115 h =>
 go (Gd t110 false (Bin .int .gtr t115 (.int .i64 0))) h fun t116 h =>
 go (Gd t110 false (Mv t116)) h fun t117 h =>
 go (Gd t117 true (Mv t2_7)) h fun t118 h =>
 go (Gd t117 true (Mv t16)) h fun t119 h =>
 go (Gd t117 true (Bin .int .sub t119 (.int .i64 1))) h fun t120 h =>
 go (Gd t117 true (Idx 1 t118 t120)) h fun t121 h =>
 go (Gd t117 true (Ld t121)) h fun t122 h =>
 go (Gd t110 false (Pick t117 t122 (.bool false))) h fun t123 h =>
 go (Gd t110 false (Bin .bool .neq t114 t123)) h fun t124 h =>
 go (Pick t110 (.bool true) t124) h fun t125 h =>
 If t125 (
 K (.bool false) h) (
 go (Bin .int .add t16 (.int .i64 1)) h fun t92 h =>
 X7 t0_7 t2_7 t7_6 t8_6 t9_5 t92 h)) (
 go (QCall Try.prog 23 [t0_7]) h fun t127 h =>
 go (LenM t9_5) h fun t129 h =>
 go (Bin .int .neq t127 t129) h fun t130 h =>
 go (Gd t130 false (Mv t0_7)) h fun t132 h =>
 go (Gd t130 false (Mv t9_5)) h fun t133 h =>
 go (Gd t130 false (LenM t133)) h fun t134 h =>
 go (Gd t130 false (QCall Try.prog 28 [t132, t134])) h fun t135 h =>
 go (Gd t130 false (Bin .int .neq t135 (.int .i64 (-1)))) h fun t136 h =>
 go (Pick t130 (.bool true) t136) h fun t137 h =>
 go (Gd t137 false (Mv t0_7)) h fun t139 h =>
 go (Gd t137 false (QCall Try.prog 28 [t139, (.int .i64 (-1))])) h fun t140 h =>
 go (Gd t137 false (Bin .int .neq t140 (.int .i64 (-1)))) h fun t141 h =>
 go (Pick t137 (.bool true) t141) h fun t142 h =>
 If t142 (
 K (.bool false) h) (
 go (QCall Try.prog 23 [t0_7]) h fun t144 h =>
 Lp 4 (fun X8 t0_8 t9_6 t144_1 t145 h =>
 go (Bin .int .lss t145 t144_1) h fun t146 h =>
 If t146 (
 go (QCall Try.prog 28 [t0_8, t145]) h fun t150 h =>
 go (Lk (.int .i64 0) t9_6 t150 false) h fun t153 h =>
 go (Bin .int .neq t153 (.int .i64 1)) h fun t154 h =>
 If t154 (
 K (.bool false) h) (
 go (MUpd t9_6 t150 (.int .i64 2)) h fun _ h =>
 go (Bin .int .add t145 (.int .i64 1)) h fun t157 h =>
 X8 t0_8 t9_6 t144_1 t157 h)) (
 K (.bool true) h)) [t0_7, t9_5, t144, (.int .i64 0)] h))) [t0_2, t2_2, t7_1, t8_1, t9, (.int .i64 0)] h)) [t0_1, t2_1, t7, t8, t32, t1_1, t34, (.int .i64 0)] h))
set_option maxRecDepth 100000 in
theorem bradawllaw14_right.eq : (fun t0 t1 t2 K h => bradawllaw14_right.pt t0 t1 t2 K h : Value → Value → Value → Ret → Heap → Prop) = (fun t0 t1 t2 K h => fnPt Try.prog [18, 20, 21, 22, 23, 26, 27, 28, 30, 31, 32, 38, 39, 1000029] Try.f19 bradawllaw14_right.ann [t0, t1, t2] K h) := by kernel_rfl
set_option maxRecDepth 100000 in
theorem bradawllaw14_right.ok {t0 t1 t2 : Value} {K : Ret} {h : Heap} (hp : bradawllaw14_right.pt t0 t1 t2 K h) : CallH Try.prog 19 #[t0, t1, t2] K h :=
  fn_sound (qs := [18, 20, 21, 22, 23, 26, 27, 28, 30, 31, 32, 38, 39, 1000029]) (fn := Try.f19) (ann := bradawllaw14_right.ann) (args := [t0, t1, t2]) follows_mixed Try.func19 ((Eq.to_iff (congrFun (congrFun (congrFun (congrFun (congrFun (bradawllaw14_right.eq) t0) t1) t2) K) h)).mp hp)

/-! ### (*bradawl/local.State).Break: function 20 -/
abbrev local_State_Break.id : FuncId := 20
def local_State_Break.ann : Ann := (.seq none .leaf (.seq none (.seq none .leaf (.cond (.seq none .leaf .leaf) .leaf)) (.seq none .leaf .leaf)))
set_option maxRecDepth 100000 in
def local_State_Break.pt (t0 t1 : Value) (K : Ret) (h : Heap) : Prop :=
 go (QCall Try.prog 39 [t0, t1]) h fun t7 h =>
 go (Un .not t7) h fun t8 h =>
 If t8 (
 K (.int .i64 0) h) (
 go (NilC t0) h fun t10 h =>
 go (Fld 4 t10) h fun t11 h =>
 go (Ld t11) h fun t12 h =>
 go (Idx 1 t12 t1) h fun t14 h =>
 go (Ld t14) h fun t15 h =>
 K t15 h)
set_option maxRecDepth 100000 in
theorem local_State_Break.eq : (fun t0 t1 K h => local_State_Break.pt t0 t1 K h : Value → Value → Ret → Heap → Prop) = (fun t0 t1 K h => fnPt Try.prog [18, 20, 21, 22, 23, 26, 27, 28, 30, 31, 32, 38, 39, 1000029] Try.f20 local_State_Break.ann [t0, t1] K h) := by kernel_rfl
set_option maxRecDepth 100000 in
theorem local_State_Break.ok {t0 t1 : Value} {K : Ret} {h : Heap} (hp : local_State_Break.pt t0 t1 K h) : CallH Try.prog 20 #[t0, t1] K h :=
  fn_sound (qs := [18, 20, 21, 22, 23, 26, 27, 28, 30, 31, 32, 38, 39, 1000029]) (fn := Try.f20) (ann := local_State_Break.ann) (args := [t0, t1]) follows_mixed Try.func20 ((Eq.to_iff (congrFun (congrFun (congrFun (congrFun (local_State_Break.eq) t0) t1) K) h)).mp hp)

/-! ### (*bradawl/local.State).Make: function 21 -/
abbrev local_State_Make.id : FuncId := 21
def local_State_Make.ann : Ann := (.seq none .leaf (.seq none (.seq none .leaf (.cond (.seq none .leaf .leaf) .leaf)) (.seq none .leaf .leaf)))
set_option maxRecDepth 100000 in
def local_State_Make.pt (t0 t1 : Value) (K : Ret) (h : Heap) : Prop :=
 go (QCall Try.prog 39 [t0, t1]) h fun t7 h =>
 go (Un .not t7) h fun t8 h =>
 If t8 (
 K (.int .i64 0) h) (
 go (NilC t0) h fun t10 h =>
 go (Fld 5 t10) h fun t11 h =>
 go (Ld t11) h fun t12 h =>
 go (Idx 1 t12 t1) h fun t14 h =>
 go (Ld t14) h fun t15 h =>
 K t15 h)
set_option maxRecDepth 100000 in
theorem local_State_Make.eq : (fun t0 t1 K h => local_State_Make.pt t0 t1 K h : Value → Value → Ret → Heap → Prop) = (fun t0 t1 K h => fnPt Try.prog [18, 20, 21, 22, 23, 26, 27, 28, 30, 31, 32, 38, 39, 1000029] Try.f21 local_State_Make.ann [t0, t1] K h) := by kernel_rfl
set_option maxRecDepth 100000 in
theorem local_State_Make.ok {t0 t1 : Value} {K : Ret} {h : Heap} (hp : local_State_Make.pt t0 t1 K h) : CallH Try.prog 21 #[t0, t1] K h :=
  fn_sound (qs := [18, 20, 21, 22, 23, 26, 27, 28, 30, 31, 32, 38, 39, 1000029]) (fn := Try.f21) (ann := local_State_Make.ann) (args := [t0, t1]) follows_mixed Try.func21 ((Eq.to_iff (congrFun (congrFun (congrFun (congrFun (local_State_Make.eq) t0) t1) K) h)).mp hp)

/-! ### (*bradawl/local.State).Value: function 22 -/
abbrev local_State_Value.id : FuncId := 22
def local_State_Value.ann : Ann := (.seq none .leaf (.seq none .leaf .leaf))
set_option maxRecDepth 100000 in
def local_State_Value.pt (t0 t1 : Value) (K : Ret) (h : Heap) : Prop :=
 go (QCall Try.prog 39 [t0, t1]) h fun t7 h =>
 go (Gd t7 true (Mv t0)) h fun t9 h =>
 go (Gd t7 true (NilC t9)) h fun t10 h =>
 go (Gd t7 true (Fld 0 t10)) h fun t11 h =>
 go (Gd t7 true (Ld t11)) h fun t12 h =>
 go (Gd t7 true (Mv t1)) h fun t13 h =>
 go (Gd t7 true (Bin .int .sub t13 (.int .i64 1))) h fun t14 h =>
 go (Gd t7 true (Idx 1 t12 t14)) h fun t15 h =>
 go (Gd t7 true (Ld t15)) h fun t16 h =>
 go (Pick t7 t16 (.bool false)) h fun t17 h =>
 K t17 h
set_option maxRecDepth 100000 in
theorem local_State_Value.eq : (fun t0 t1 K h => local_State_Value.pt t0 t1 K h : Value → Value → Ret → Heap → Prop) = (fun t0 t1 K h => fnPt Try.prog [18, 20, 21, 22, 23, 26, 27, 28, 30, 31, 32, 38, 39, 1000029] Try.f22 local_State_Value.ann [t0, t1] K h) := by kernel_rfl
set_option maxRecDepth 100000 in
theorem local_State_Value.ok {t0 t1 : Value} {K : Ret} {h : Heap} (hp : local_State_Value.pt t0 t1 K h) : CallH Try.prog 22 #[t0, t1] K h :=
  fn_sound (qs := [18, 20, 21, 22, 23, 26, 27, 28, 30, 31, 32, 38, 39, 1000029]) (fn := Try.f22) (ann := local_State_Value.ann) (args := [t0, t1]) follows_mixed Try.func22 ((Eq.to_iff (congrFun (congrFun (congrFun (congrFun (local_State_Value.eq) t0) t1) K) h)).mp hp)

/-! ### (*bradawl/local.State).Unsatisfied: function 23 -/
abbrev local_State_Unsatisfied.id : FuncId := 23
def local_State_Unsatisfied.ann : Ann := (.seq none .leaf (.seq none .leaf .leaf))
set_option maxRecDepth 100000 in
def local_State_Unsatisfied.pt (t0 : Value) (K : Ret) (h : Heap) : Prop :=
 go (NilC t0) h fun t4 h =>
 go (Fld 3 t4) h fun t5 h =>
 go (Ld t5) h fun t6 h =>
 go (Len t6) h fun t7 h =>
 K t7 h
set_option maxRecDepth 100000 in
theorem local_State_Unsatisfied.eq : (fun t0 K h => local_State_Unsatisfied.pt t0 K h : Value → Ret → Heap → Prop) = (fun t0 K h => fnPt Try.prog [18, 20, 21, 22, 23, 26, 27, 28, 30, 31, 32, 38, 39, 1000029] Try.f23 local_State_Unsatisfied.ann [t0] K h) := by kernel_rfl
set_option maxRecDepth 100000 in
theorem local_State_Unsatisfied.ok {t0 : Value} {K : Ret} {h : Heap} (hp : local_State_Unsatisfied.pt t0 K h) : CallH Try.prog 23 #[t0] K h :=
  fn_sound (qs := [18, 20, 21, 22, 23, 26, 27, 28, 30, 31, 32, 38, 39, 1000029]) (fn := Try.f23) (ann := local_State_Unsatisfied.ann) (args := [t0]) follows_mixed Try.func23 ((Eq.to_iff (congrFun (congrFun (congrFun (local_State_Unsatisfied.eq) t0) K) h)).mp hp)

/-! ### (*bradawl/local.State).Flip: function 24 -/
abbrev local_State_Flip.id : FuncId := 24
def local_State_Flip.ann : Ann := (.seq none .leaf (.seq none (.seq none .leaf (.cond (.seq none .leaf .leaf) .leaf)) (.seq none .leaf (.seq (some [0, 1, 5]) (.seq none .leaf (.cond .leaf .leaf)) (.seq none .leaf (.seq none .leaf (.seq none .leaf (.seq none .leaf (.seq (some []) (.seq none .leaf (.cond .leaf .leaf)) (.seq none .leaf .leaf))))))))))
set_option maxRecDepth 100000 in
def local_State_Flip.pt (t0 t1 : Value) (K : Ret) (h : Heap) : Prop :=
 go (QCall Try.prog 39 [t0, t1]) h fun t8 h =>
 go (Un .not t8) h fun t9 h =>
 If t9 (
 K (.bool false) h) (
 Join 3 (fun J1 =>
 go (NilC t0) h fun t12 h =>
 go (Fld 0 t12) h fun t13 h =>
 go (Ld t13) h fun t14 h =>
 go (Bin .int .sub t1 (.int .i64 1)) h fun t16 h =>
 go (Idx 1 t14 t16) h fun t17 h =>
 go (Ld t17) h fun t18 h =>
 If t18 (
 go (Un .neg t1) h fun t20 h =>
 J1 t0 t1 t20 h) (
 J1 t0 t1 t1 h)) (fun t0_1 t1_1 t5 h =>
 go (NilC t0_1) h fun t22 h =>
 go (Fld 0 t22) h fun t23 h =>
 go (Ld t23) h fun t24 h =>
 go (Bin .int .sub t1_1 (.int .i64 1)) h fun t26 h =>
 go (NilC t0_1) h fun t28 h =>
 go (Fld 0 t28) h fun t29 h =>
 go (Ld t29) h fun t30 h =>
 go (Bin .int .sub t1_1 (.int .i64 1)) h fun t32 h =>
 go (Idx 1 t30 t32) h fun t33 h =>
 go (Ld t33) h fun t34 h =>
 go (Un .not t34) h fun t35 h =>
 go (Idx 1 t24 t26) h fun t36 h =>
 go (St t36 t35) h fun _ h =>
 go (CallF Try.prog 40 [t0_1, t5, (.int .i64 1)]) h fun t39 h =>
 go (Un .neg t5) h fun t42 h =>
 go (CallF Try.prog 40 [t0_1, t42, (.int .i64 (-1))]) h fun t43 h =>
 go (NilC t0_1) h fun t45 h =>
 go (Fld 8 t45) h fun t46 h =>
 go (Ld t46) h fun t47 h =>
 go (Bin .int .add t47 (.int .i64 1)) h fun t48 h =>
 go (NilC t0_1) h fun t49 h =>
 go (Fld 8 t49) h fun t50 h =>
 go (St t50 t48) h fun _ h =>
 Join 0 (fun J2 =>
 go (NilC t0_1) h fun t52 h =>
 go (Fld 3 t52) h fun t53 h =>
 go (Ld t53) h fun t54 h =>
 go (Len t54) h fun t55 h =>
 go (NilC t0_1) h fun t57 h =>
 go (Fld 7 t57) h fun t58 h =>
 go (Ld t58) h fun t59 h =>
 go (Bin .int .lss t55 t59) h fun t60 h =>
 If t60 (
 go (NilC t0_1) h fun t64 h =>
 go (Fld 0 t64) h fun t65 h =>
 go (Ld t65) h fun t66 h =>
 go (NilC t0_1) h fun t69 h =>
 go (Fld 3 t69) h fun t70 h =>
 go (Ld t70) h fun t71 h =>
 (go (ACall Try.prog 29 [t66]) h fun t67 h =>
 go (NilC t0_1) h fun t73 h =>
 go (Fld 6 t73) h fun t74 h =>
 (go (Len t71) h fun t72 h =>
 go (St t74 t67) h fun _ h =>
 go (NilC t0_1) h fun t75 h =>
 go (Fld 7 t75) h fun t76 h =>
 go (St t76 t72) h fun _ h =>
 J2 h) ∧
 (go (St t74 t67) h fun _ h =>
 go (Len t71) h fun t72_1 h =>
 go (NilC t0_1) h fun t75_1 h =>
 go (Fld 7 t75_1) h fun t76_1 h =>
 go (St t76_1 t72_1) h fun _ h =>
 J2 h)) ∧
 (go (Len t71) h fun t72_2 h =>
 go (ACall Try.prog 29 [t66]) h fun t67_1 h =>
 go (NilC t0_1) h fun t73_1 h =>
 go (Fld 6 t73_1) h fun t74_1 h =>
 go (St t74_1 t67_1) h fun _ h =>
 go (NilC t0_1) h fun t75_2 h =>
 go (Fld 7 t75_2) h fun t76_2 h =>
 go (St t76_2 t72_2) h fun _ h =>
 J2 h)) (
 J2 h)) (fun  h =>
 K (.bool true) h)))
set_option maxRecDepth 100000 in
theorem local_State_Flip.eq : (fun t0 t1 K h => local_State_Flip.pt t0 t1 K h : Value → Value → Ret → Heap → Prop) = (fun t0 t1 K h => fnPt Try.prog [18, 20, 21, 22, 23, 26, 27, 28, 30, 31, 32, 38, 39, 1000029] Try.f24 local_State_Flip.ann [t0, t1] K h) := by kernel_rfl
set_option maxRecDepth 100000 in
theorem local_State_Flip.ok {t0 t1 : Value} {K : Ret} {h : Heap} (hp : local_State_Flip.pt t0 t1 K h) : CallH Try.prog 24 #[t0, t1] K h :=
  fn_sound (qs := [18, 20, 21, 22, 23, 26, 27, 28, 30, 31, 32, 38, 39, 1000029]) (fn := Try.f24) (ann := local_State_Flip.ann) (args := [t0, t1]) follows_mixed Try.func24 ((Eq.to_iff (congrFun (congrFun (congrFun (congrFun (local_State_Flip.eq) t0) t1) K) h)).mp hp)

/-! ### (*bradawl/local.State).Best: function 25 -/
abbrev local_State_Best.id : FuncId := 25
def local_State_Best.ann : Ann := (.seq none .leaf (.seq none .leaf .leaf))
set_option maxRecDepth 100000 in
def local_State_Best.pt (t0 : Value) (K : Ret) (h : Heap) : Prop :=
 go (NilC t0) h fun t5 h =>
 go (Fld 6 t5) h fun t6 h =>
 go (Ld t6) h fun t7 h =>
 go (NilC t0) h fun t10 h =>
 go (Fld 7 t10) h fun t11 h =>
 go (Ld t11) h fun t12 h =>
 go (ACall Try.prog 29 [t7]) h fun t8 h =>
 K (.tuple #[t8, t12]) h
set_option maxRecDepth 100000 in
theorem local_State_Best.eq : (fun t0 K h => local_State_Best.pt t0 K h : Value → Ret → Heap → Prop) = (fun t0 K h => fnPt Try.prog [18, 20, 21, 22, 23, 26, 27, 28, 30, 31, 32, 38, 39, 1000029] Try.f25 local_State_Best.ann [t0] K h) := by kernel_rfl
set_option maxRecDepth 100000 in
theorem local_State_Best.ok {t0 : Value} {K : Ret} {h : Heap} (hp : local_State_Best.pt t0 K h) : CallH Try.prog 25 #[t0] K h :=
  fn_sound (qs := [18, 20, 21, 22, 23, 26, 27, 28, 30, 31, 32, 38, 39, 1000029]) (fn := Try.f25) (ann := local_State_Best.ann) (args := [t0]) follows_mixed Try.func25 ((Eq.to_iff (congrFun (congrFun (congrFun (local_State_Best.eq) t0) K) h)).mp hp)

/-! ### (*bradawl/local.State).Clauses: function 26 -/
abbrev local_State_Clauses.id : FuncId := 26
def local_State_Clauses.ann : Ann := (.seq none .leaf (.seq none .leaf .leaf))
set_option maxRecDepth 100000 in
def local_State_Clauses.pt (t0 : Value) (K : Ret) (h : Heap) : Prop :=
 go (NilC t0) h fun t4 h =>
 go (Fld 1 t4) h fun t5 h =>
 go (Ld t5) h fun t6 h =>
 go (Len t6) h fun t7 h =>
 K t7 h
set_option maxRecDepth 100000 in
theorem local_State_Clauses.eq : (fun t0 K h => local_State_Clauses.pt t0 K h : Value → Ret → Heap → Prop) = (fun t0 K h => fnPt Try.prog [18, 20, 21, 22, 23, 26, 27, 28, 30, 31, 32, 38, 39, 1000029] Try.f26 local_State_Clauses.ann [t0] K h) := by kernel_rfl
set_option maxRecDepth 100000 in
theorem local_State_Clauses.ok {t0 : Value} {K : Ret} {h : Heap} (hp : local_State_Clauses.pt t0 K h) : CallH Try.prog 26 #[t0] K h :=
  fn_sound (qs := [18, 20, 21, 22, 23, 26, 27, 28, 30, 31, 32, 38, 39, 1000029]) (fn := Try.f26) (ann := local_State_Clauses.ann) (args := [t0]) follows_mixed Try.func26 ((Eq.to_iff (congrFun (congrFun (congrFun (local_State_Clauses.eq) t0) K) h)).mp hp)

/-! ### (*bradawl/local.State).Flips: function 27 -/
abbrev local_State_Flips.id : FuncId := 27
def local_State_Flips.ann : Ann := (.seq none .leaf (.seq none .leaf .leaf))
set_option maxRecDepth 100000 in
def local_State_Flips.pt (t0 : Value) (K : Ret) (h : Heap) : Prop :=
 go (NilC t0) h fun t4 h =>
 go (Fld 8 t4) h fun t5 h =>
 go (Ld t5) h fun t6 h =>
 K t6 h
set_option maxRecDepth 100000 in
theorem local_State_Flips.eq : (fun t0 K h => local_State_Flips.pt t0 K h : Value → Ret → Heap → Prop) = (fun t0 K h => fnPt Try.prog [18, 20, 21, 22, 23, 26, 27, 28, 30, 31, 32, 38, 39, 1000029] Try.f27 local_State_Flips.ann [t0] K h) := by kernel_rfl
set_option maxRecDepth 100000 in
theorem local_State_Flips.ok {t0 : Value} {K : Ret} {h : Heap} (hp : local_State_Flips.pt t0 K h) : CallH Try.prog 27 #[t0] K h :=
  fn_sound (qs := [18, 20, 21, 22, 23, 26, 27, 28, 30, 31, 32, 38, 39, 1000029]) (fn := Try.f27) (ann := local_State_Flips.ann) (args := [t0]) follows_mixed Try.func27 ((Eq.to_iff (congrFun (congrFun (congrFun (local_State_Flips.eq) t0) K) h)).mp hp)

/-! ### (*bradawl/local.State).Row: function 28 -/
abbrev local_State_Row.id : FuncId := 28
def local_State_Row.ann : Ann := (.seq none .leaf (.seq none (.seq none .leaf (.cond (.seq none .leaf .leaf) .leaf)) (.seq none .leaf .leaf)))
set_option maxRecDepth 100000 in
def local_State_Row.pt (t0 t1 : Value) (K : Ret) (h : Heap) : Prop :=
 go (Bin .int .lss t1 (.int .i64 0)) h fun t6 h =>
 go (Gd t6 false (Mv t1)) h fun t8 h =>
 go (Gd t6 false (Mv t0)) h fun t9 h =>
 go (Gd t6 false (NilC t9)) h fun t10 h =>
 go (Gd t6 false (Fld 3 t10)) h fun t11 h =>
 go (Gd t6 false (Ld t11)) h fun t12 h =>
 go (Gd t6 false (Len t12)) h fun t13 h =>
 go (Gd t6 false (Bin .int .geq t8 t13)) h fun t14 h =>
 go (Pick t6 (.bool true) t14) h fun t15 h =>
 If t15 (
 K (.int .i64 (-1)) h) (
 go (NilC t0) h fun t17 h =>
 go (Fld 3 t17) h fun t18 h =>
 go (Ld t18) h fun t19 h =>
 go (Idx 1 t19 t1) h fun t21 h =>
 go (Ld t21) h fun t22 h =>
 K t22 h)
set_option maxRecDepth 100000 in
theorem local_State_Row.eq : (fun t0 t1 K h => local_State_Row.pt t0 t1 K h : Value → Value → Ret → Heap → Prop) = (fun t0 t1 K h => fnPt Try.prog [18, 20, 21, 22, 23, 26, 27, 28, 30, 31, 32, 38, 39, 1000029] Try.f28 local_State_Row.ann [t0, t1] K h) := by kernel_rfl
set_option maxRecDepth 100000 in
theorem local_State_Row.ok {t0 t1 : Value} {K : Ret} {h : Heap} (hp : local_State_Row.pt t0 t1 K h) : CallH Try.prog 28 #[t0, t1] K h :=
  fn_sound (qs := [18, 20, 21, 22, 23, 26, 27, 28, 30, 31, 32, 38, 39, 1000029]) (fn := Try.f28) (ann := local_State_Row.ann) (args := [t0, t1]) follows_mixed Try.func28 ((Eq.to_iff (congrFun (congrFun (congrFun (congrFun (local_State_Row.eq) t0) t1) K) h)).mp hp)

/-! ### slices.Clone[[]bool,bool]: function 29 -/
abbrev slices_Clone_bool_bool.id : FuncId := 29
def slices_Clone_bool_bool.ann : Ann := (.seq none .leaf (.seq none (.seq none .leaf (.cond (.seq none .leaf .leaf) .leaf)) (.seq none .leaf .leaf)))
set_option maxRecDepth 100000 in
def slices_Clone_bool_bool.pt (t0 : Value) (K : Ret) (h : Heap) : Prop :=
 go (Bin .slice .eql t0 (.slice none 0 0)) h fun t4 h =>
 If t4 (
 K (.slice none 0 0) h) (
 go (Bld0 4) h fun t5 h =>
 go (App 4 1 1 #[(.bool false)] t5 t0) h fun t7 h =>
 K t7 h)
set_option maxRecDepth 100000 in
theorem slices_Clone_bool_bool.eq : (fun t0 K h => slices_Clone_bool_bool.pt t0 K h : Value → Ret → Heap → Prop) = (fun t0 K h => fnPt Try.prog [18, 20, 21, 22, 23, 26, 27, 28, 30, 31, 32, 38, 39, 1000029] Try.f29 slices_Clone_bool_bool.ann [t0] K h) := by kernel_rfl
set_option maxRecDepth 100000 in
theorem slices_Clone_bool_bool.ok {t0 : Value} {K : Ret} {h : Heap} (hp : slices_Clone_bool_bool.pt t0 K h) : CallH Try.prog 29 #[t0] K h :=
  fn_sound (qs := [18, 20, 21, 22, 23, 26, 27, 28, 30, 31, 32, 38, 39, 1000029]) (fn := Try.f29) (ann := slices_Clone_bool_bool.ann) (args := [t0]) follows_mixed Try.func29 ((Eq.to_iff (congrFun (congrFun (congrFun (slices_Clone_bool_bool.eq) t0) K) h)).mp hp)

/-! ### bradawl/lit.Index: function 30 -/
abbrev lit_Index.id : FuncId := 30
def lit_Index.ann : Ann := (.seq none .leaf (.seq none (.seq none .leaf (.cond (.seq none .leaf .leaf) .leaf)) (.seq none .leaf .leaf)))
set_option maxRecDepth 100000 in
def lit_Index.pt (t0 : Value) (K : Ret) (h : Heap) : Prop :=
 go (Bin .int .lss t0 (.int .i64 0)) h fun t4 h =>
 If t4 (
 go (Un .neg t0) h fun t6 h =>
 go (Bin .int .sub t6 (.int .i64 1)) h fun t7 h =>
 go (Bin .int .mul (.int .i64 2) t7) h fun t8 h =>
 go (Bin .int .add t8 (.int .i64 1)) h fun t9 h =>
 K t9 h) (
 go (Bin .int .sub t0 (.int .i64 1)) h fun t11 h =>
 go (Bin .int .mul (.int .i64 2) t11) h fun t12 h =>
 K t12 h)
set_option maxRecDepth 100000 in
theorem lit_Index.eq : (fun t0 K h => lit_Index.pt t0 K h : Value → Ret → Heap → Prop) = (fun t0 K h => fnPt Try.prog [18, 20, 21, 22, 23, 26, 27, 28, 30, 31, 32, 38, 39, 1000029] Try.f30 lit_Index.ann [t0] K h) := by kernel_rfl
set_option maxRecDepth 100000 in
theorem lit_Index.ok {t0 : Value} {K : Ret} {h : Heap} (hp : lit_Index.pt t0 K h) : CallH Try.prog 30 #[t0] K h :=
  fn_sound (qs := [18, 20, 21, 22, 23, 26, 27, 28, 30, 31, 32, 38, 39, 1000029]) (fn := Try.f30) (ann := lit_Index.ann) (args := [t0]) follows_mixed Try.func30 ((Eq.to_iff (congrFun (congrFun (congrFun (lit_Index.eq) t0) K) h)).mp hp)

/-! ### bradawl/lit.Holds: function 31 -/
abbrev lit_Holds.id : FuncId := 31
def lit_Holds.ann : Ann := (.seq none .leaf (.seq none .leaf .leaf))
set_option maxRecDepth 100000 in
def lit_Holds.pt (t0 t1 : Value) (K : Ret) (h : Heap) : Prop :=
 go (QCall Try.prog 32 [t0]) h fun t7 h =>
 go (Bin .int .sub t7 (.int .i64 1)) h fun t8 h =>
 go (Idx 1 t1 t8) h fun t9 h =>
 go (Ld t9) h fun t10 h =>
 go (Bin .int .gtr t0 (.int .i64 0)) h fun t12 h =>
 go (Bin .bool .eql t10 t12) h fun t13 h =>
 K t13 h
set_option maxRecDepth 100000 in
theorem lit_Holds.eq : (fun t0 t1 K h => lit_Holds.pt t0 t1 K h : Value → Value → Ret → Heap → Prop) = (fun t0 t1 K h => fnPt Try.prog [18, 20, 21, 22, 23, 26, 27, 28, 30, 31, 32, 38, 39, 1000029] Try.f31 lit_Holds.ann [t0, t1] K h) := by kernel_rfl
set_option maxRecDepth 100000 in
theorem lit_Holds.ok {t0 t1 : Value} {K : Ret} {h : Heap} (hp : lit_Holds.pt t0 t1 K h) : CallH Try.prog 31 #[t0, t1] K h :=
  fn_sound (qs := [18, 20, 21, 22, 23, 26, 27, 28, 30, 31, 32, 38, 39, 1000029]) (fn := Try.f31) (ann := lit_Holds.ann) (args := [t0, t1]) follows_mixed Try.func31 ((Eq.to_iff (congrFun (congrFun (congrFun (congrFun (lit_Holds.eq) t0) t1) K) h)).mp hp)

/-! ### bradawl/lit.Var: function 32 -/
abbrev lit_Var.id : FuncId := 32
def lit_Var.ann : Ann := (.seq none .leaf (.seq none .leaf .leaf))
set_option maxRecDepth 100000 in
def lit_Var.pt (t0 : Value) (K : Ret) (h : Heap) : Prop :=
 go (Un .neg t0) h fun t5 h =>
 go (MaxV [t0, t5]) h fun t6 h =>
 K t6 h
set_option maxRecDepth 100000 in
theorem lit_Var.eq : (fun t0 K h => lit_Var.pt t0 K h : Value → Ret → Heap → Prop) = (fun t0 K h => fnPt Try.prog [18, 20, 21, 22, 23, 26, 27, 28, 30, 31, 32, 38, 39, 1000029] Try.f32 lit_Var.ann [t0] K h) := by kernel_rfl
set_option maxRecDepth 100000 in
theorem lit_Var.ok {t0 : Value} {K : Ret} {h : Heap} (hp : lit_Var.pt t0 K h) : CallH Try.prog 32 #[t0] K h :=
  fn_sound (qs := [18, 20, 21, 22, 23, 26, 27, 28, 30, 31, 32, 38, 39, 1000029]) (fn := Try.f32) (ann := lit_Var.ann) (args := [t0]) follows_mixed Try.func32 ((Eq.to_iff (congrFun (congrFun (congrFun (lit_Var.eq) t0) K) h)).mp hp)

/-! ### (*bradawl/local.State).count: function 33 -/
abbrev local_State_count.id : FuncId := 33
def local_State_count.ann : Ann := (.seq none .leaf (.block (.seq none .leaf (.cond .leaf (.seq none .leaf (.cond (.seq none (.seq none .leaf (.block (.loop [0, 1, 2, 6, 44, 45, 46] (.seq none .leaf (.seq none (.cond .leaf .leaf) (.seq none (.block (.seq none .leaf .leaf)) .leaf)))))) (.seq none (.seq none .leaf (.cond (.seq none .leaf (.seq none .leaf .leaf)) .leaf)) (.seq none .leaf (.seq none .leaf (.seq none .leaf .leaf))))) .leaf))))))
set_option maxRecDepth 100000 in
def local_State_count.pt (t0 t1 t2 : Value) (K : Ret) (h : Heap) : Prop :=
 go (NilC t0) h fun t11 h =>
 go (Fld 1 t11) h fun t12 h =>
 go (Ld t12) h fun t13 h =>
 go (Idx 4 t13 t1) h fun t15 h =>
 go (NilC t15) h fun t18 h =>
 go (Fld 1 t18) h fun t19 h =>
 go (Ld t19) h fun t20 h =>
 go (Bin .int .eql t20 (.int .i64 1)) h fun t21 h =>
 If t21 (
 go (NilC t0) h fun t23 h =>
 go (Fld 4 t23) h fun t24 h =>
 go (Ld t24) h fun t25 h =>
 go (NilC t15) h fun t27 h =>
 go (Fld 2 t27) h fun t28 h =>
 go (Ld t28) h fun t29 h =>
 go (Idx 1 t25 t29) h fun t30 h =>
 go (Ld t30) h fun t31 h =>
 go (Bin .int .add t31 t2) h fun t33 h =>
 go (Idx 1 t25 t29) h fun t34 h =>
 go (St t34 t33) h fun _ h =>
 K (.tuple #[]) h) (
 go (NilC t15) h fun t37 h =>
 go (Fld 1 t37) h fun t38 h =>
 go (Ld t38) h fun t39 h =>
 go (Bin .int .eql t39 (.int .i64 0)) h fun t40 h =>
 If t40 (
 go (NilC t15) h fun t42 h =>
 go (Fld 0 t42) h fun t43 h =>
 go (Ld t43) h fun t44 h =>
 go (Len t44) h fun t45 h =>
 Lp 7 (fun X1 t0_1 t1_1 t2_1 t6 t44_1 t45_1 t46 h =>
 go (Bin .int .lss t46 t45_1) h fun t47 h =>
 If t47 (
 go (Idx 1 t44_1 t46) h fun t48 h =>
 go (Ld t48) h fun t49 h =>
 go (NilC t0_1) h fun t51 h =>
 go (Fld 5 t51) h fun t52 h =>
 go (Ld t52) h fun t53 h =>
 go (QCall Try.prog 32 [t49]) h fun t55 h =>
 go (Idx 1 t53 t55) h fun t56 h =>
 go (Ld t56) h fun t57 h =>
 go (Bin .int .add t57 t2_1) h fun t59 h =>
 go (Idx 1 t53 t55) h fun t60 h =>
 go (St t60 t59) h fun _ h =>
 go (Bin .int .add t46 (.int .i64 1)) h fun t61 h =>
 X1 t0_1 t1_1 t2_1 t6 t44_1 t45_1 t61 h) (
 go (Bin .int .gtr t2_1 (.int .i64 0)) h fun t63 h =>
 If t63 (
 go (NilC t0_1) h fun t66 h =>
 go (Fld 3 t66) h fun t67 h =>
 go (Ld t67) h fun t68 h =>
 go (Len t68) h fun t69 h =>
 go (NilC t6) h fun t70 h =>
 go (Fld 3 t70) h fun t71 h =>
 go (St t71 t69) h fun _ h =>
 go (NilC t0_1) h fun t74 h =>
 go (Fld 3 t74) h fun t75 h =>
 go (Ld t75) h fun t76 h =>
 go (BldS 3 1 1 #[(.int .i64 0)] [(0, t1_1)]) h fun t78 h =>
 go (App 3 1 8 #[(.int .i64 0)] t76 t78) h fun t79 h =>
 go (NilC t0_1) h fun t80 h =>
 go (Fld 3 t80) h fun t81 h =>
 go (St t81 t79) h fun _ h =>
 K (.tuple #[]) h) (
 go (NilC t0_1) h fun t83 h =>
 go (Fld 3 t83) h fun t84 h =>
 go (Ld t84) h fun t85 h =>
 go (NilC t0_1) h fun t87 h =>
 go (Fld 3 t87) h fun t88 h =>
 go (Ld t88) h fun t89 h =>
 go (Len t89) h fun t90 h =>
 go (Bin .int .sub t90 (.int .i64 1)) h fun t91 h =>
 go (Idx 1 t85 t91) h fun t92 h =>
 go (Ld t92) h fun t93 h =>
 go (NilC t0_1) h fun t95 h =>
 go (Fld 3 t95) h fun t96 h =>
 go (Ld t96) h fun t97 h =>
 go (NilC t6) h fun t99 h =>
 go (Fld 3 t99) h fun t100 h =>
 go (Ld t100) h fun t101 h =>
 go (NilC t0_1) h fun t103 h =>
 go (Fld 1 t103) h fun t104 h =>
 go (Ld t104) h fun t105 h =>
 go (NilC t6) h fun t109 h =>
 go (Fld 3 t109) h fun t110 h =>
 go (Ld t110) h fun t111 h =>
 go (Idx 1 t97 t101) h fun t112 h =>
 go (St t112 t93) h fun _ h =>
 go (Idx 4 t105 t93) h fun t113 h =>
 go (Fld 3 t113) h fun t114 h =>
 go (St t114 t111) h fun _ h =>
 go (NilC t0_1) h fun t117 h =>
 go (Fld 3 t117) h fun t118 h =>
 go (Ld t118) h fun t119 h =>
 go (NilC t0_1) h fun t121 h =>
 go (Fld 3 t121) h fun t122 h =>
 go (Ld t122) h fun t123 h =>
 go (Len t123) h fun t124 h =>
 go (Bin .int .sub t124 (.int .i64 1)) h fun t125 h =>
 go (Slc 1 t119 none (some t125) none) h fun t126 h =>
 go (NilC t0_1) h fun t127 h =>
 go (Fld 3 t127) h fun t128 h =>
 go (St t128 t126) h fun _ h =>
 go (NilC t6) h fun t130 h =>
 go (Fld 3 t130) h fun t131 h =>
 go (St t131 (.int .i64 (-1))) h fun _ h =>
 K (.tuple #[]) h))) [t0, t1, t2, t15, t44, t45, (.int .i64 0)] h) (
 K (.tuple #[]) h))
set_option maxRecDepth 100000 in
theorem local_State_count.eq : (fun t0 t1 t2 K h => local_State_count.pt t0 t1 t2 K h : Value → Value → Value → Ret → Heap → Prop) = (fun t0 t1 t2 K h => fnPt Try.prog [18, 20, 21, 22, 23, 26, 27, 28, 30, 31, 32, 38, 39, 1000029] Try.f33 local_State_count.ann [t0, t1, t2] K h) := by kernel_rfl
set_option maxRecDepth 100000 in
theorem local_State_count.ok {t0 t1 t2 : Value} {K : Ret} {h : Heap} (hp : local_State_count.pt t0 t1 t2 K h) : CallH Try.prog 33 #[t0, t1, t2] K h :=
  fn_sound (qs := [18, 20, 21, 22, 23, 26, 27, 28, 30, 31, 32, 38, 39, 1000029]) (fn := Try.f33) (ann := local_State_count.ann) (args := [t0, t1, t2]) follows_mixed Try.func33 ((Eq.to_iff (congrFun (congrFun (congrFun (congrFun (congrFun (local_State_count.eq) t0) t1) t2) K) h)).mp hp)

/-! ### bradawl/norm.Tautology: function 34 -/
abbrev norm_Tautology.id : FuncId := 34
def norm_Tautology.ann : Ann := (.seq none .leaf (.seq none .leaf (.seq none (.seq none .leaf (.block (.loop [3, 4] (.seq none (.seq none .leaf (.cond .leaf .leaf)) (.seq none (.block (.seq none .leaf (.cond (.seq none .leaf .leaf) .leaf))) .leaf))))) (.seq none .leaf .leaf))))
set_option maxRecDepth 100000 in
def norm_Tautology.pt (t0 : Value) (K : Ret) (h : Heap) : Prop :=
 go (CallF Try.prog 35 [t0]) h fun t6 h =>
 Lp 2 (fun X1 t3 t4 h =>
 go (Len t3) h fun t9 h =>
 go (Bin .int .lss t4 t9) h fun t10 h =>
 If t10 (
 go (Idx 1 t3 t4) h fun t15 h =>
 go (Ld t15) h fun t16 h =>
 go (Bin .int .sub t4 (.int .i64 1)) h fun t19 h =>
 go (Idx 1 t3 t19) h fun t20 h =>
 go (Ld t20) h fun t21 h =>
 go (Un .neg t21) h fun t22 h =>
 go (Bin .int .eql t16 t22) h fun t23 h =>
 If t23 (
 K (.bool true) h) (
 go (Bin .int .add t4 (.int .i64 1)) h fun t12 h =>
 X1 t3 t12 h)) (
 K (.bool false) h)) [t6, (.int .i64 1)] h
set_option maxRecDepth 100000 in
theorem norm_Tautology.eq : (fun t0 K h => norm_Tautology.pt t0 K h : Value → Ret → Heap → Prop) = (fun t0 K h => fnPt Try.prog [18, 20, 21, 22, 23, 26, 27, 28, 30, 31, 32, 38, 39, 1000029] Try.f34 norm_Tautology.ann [t0] K h) := by kernel_rfl
set_option maxRecDepth 100000 in
theorem norm_Tautology.ok {t0 : Value} {K : Ret} {h : Heap} (hp : norm_Tautology.pt t0 K h) : CallH Try.prog 34 #[t0] K h :=
  fn_sound (qs := [18, 20, 21, 22, 23, 26, 27, 28, 30, 31, 32, 38, 39, 1000029]) (fn := Try.f34) (ann := norm_Tautology.ann) (args := [t0]) follows_mixed Try.func34 ((Eq.to_iff (congrFun (congrFun (congrFun (norm_Tautology.eq) t0) K) h)).mp hp)

/-! ### bradawl/norm.Clause: function 35 -/
abbrev norm_Clause.id : FuncId := 35
def norm_Clause.ann : Ann := (.seq none .leaf (.seq none .leaf (.seq none .leaf (.seq none .leaf .leaf))))
set_option maxRecDepth 100000 in
def norm_Clause.pt (t0 : Value) (K : Ret) (h : Heap) : Prop :=
 go (CallF Try.prog 36 [t0]) h fun t5 h =>
 go (CallF Try.prog 41 [t5, (.func (.func 42) #[] #[])]) h fun t7 h =>
 go (CallF Try.prog 43 [t5]) h fun t9 h =>
 K t9 h
set_option maxRecDepth 100000 in
theorem norm_Clause.eq : (fun t0 K h => norm_Clause.pt t0 K h : Value → Ret → Heap → Prop) = (fun t0 K h => fnPt Try.prog [18, 20, 21, 22, 23, 26, 27, 28, 30, 31, 32, 38, 39, 1000029] Try.f35 norm_Clause.ann [t0] K h) := by kernel_rfl
set_option maxRecDepth 100000 in
theorem norm_Clause.ok {t0 : Value} {K : Ret} {h : Heap} (hp : norm_Clause.pt t0 K h) : CallH Try.prog 35 #[t0] K h :=
  fn_sound (qs := [18, 20, 21, 22, 23, 26, 27, 28, 30, 31, 32, 38, 39, 1000029]) (fn := Try.f35) (ann := norm_Clause.ann) (args := [t0]) follows_mixed Try.func35 ((Eq.to_iff (congrFun (congrFun (congrFun (norm_Clause.eq) t0) K) h)).mp hp)

/-! ### slices.Clone[[]int,int]: function 36 -/
abbrev slices_Clone_int_int.id : FuncId := 36
def slices_Clone_int_int.ann : Ann := (.seq none .leaf (.seq none (.seq none .leaf (.cond (.seq none .leaf .leaf) .leaf)) (.seq none .leaf .leaf)))
set_option maxRecDepth 100000 in
def slices_Clone_int_int.pt (t0 : Value) (K : Ret) (h : Heap) : Prop :=
 go (Bin .slice .eql t0 (.slice none 0 0)) h fun t4 h =>
 If t4 (
 K (.slice none 0 0) h) (
 go (Bld0 3) h fun t5 h =>
 go (App 3 1 8 #[(.int .i64 0)] t5 t0) h fun t7 h =>
 K t7 h)
set_option maxRecDepth 100000 in
theorem slices_Clone_int_int.eq : (fun t0 K h => slices_Clone_int_int.pt t0 K h : Value → Ret → Heap → Prop) = (fun t0 K h => fnPt Try.prog [18, 20, 21, 22, 23, 26, 27, 28, 30, 31, 32, 38, 39, 1000029] Try.f36 slices_Clone_int_int.ann [t0] K h) := by kernel_rfl
set_option maxRecDepth 100000 in
theorem slices_Clone_int_int.ok {t0 : Value} {K : Ret} {h : Heap} (hp : slices_Clone_int_int.pt t0 K h) : CallH Try.prog 36 #[t0] K h :=
  fn_sound (qs := [18, 20, 21, 22, 23, 26, 27, 28, 30, 31, 32, 38, 39, 1000029]) (fn := Try.f36) (ann := slices_Clone_int_int.ann) (args := [t0]) follows_mixed Try.func36 ((Eq.to_iff (congrFun (congrFun (congrFun (slices_Clone_int_int.eq) t0) K) h)).mp hp)

/-! ### slices.Equal[[]int,int]: function 37 -/
abbrev slices_Equal_int_int.id : FuncId := 37
def slices_Equal_int_int.ann : Ann := (.seq none .leaf (.seq none (.seq none .leaf (.cond (.seq none .leaf .leaf) .leaf)) (.seq none (.seq none .leaf (.block (.loop [0, 1, 12, 13] (.seq none .leaf (.seq none (.cond .leaf .leaf) (.seq none (.block (.seq none .leaf (.seq none .leaf (.cond (.seq none .leaf .leaf) .leaf)))) .leaf)))))) (.seq none .leaf .leaf))))
set_option maxRecDepth 100000 in
def slices_Equal_int_int.pt (t0 t1 : Value) (K : Ret) (h : Heap) : Prop :=
 go (Len t0) h fun t7 h =>
 go (Len t1) h fun t9 h =>
 go (Bin .int .neq t7 t9) h fun t10 h =>
 If t10 (
 K (.bool false) h) (
 go (Len t0) h fun t12 h =>
 Lp 4 (fun X1 t0_1 t1_1 t12_1 t13 h =>
 go (Bin .int .lss t13 t12_1) h fun t14 h =>
 If t14 (
 go (Idx 1 t0_1 t13) h fun t18 h =>
 go (Ld t18) h fun t19 h =>
 go (Idx 1 t1_1 t13) h fun t22 h =>
 go (Ld t22) h fun t23 h =>
 go (Bin .int .neq t19 t23) h fun t24 h =>
 If t24 (
 K (.bool false) h) (
 go (Bin .int .add t13 (.int .i64 1)) h fun t25 h =>
 X1 t0_1 t1_1 t12_1 t25 h)) (
 K (.bool true) h)) [t0, t1, t12, (.int .i64 0)] h)
set_option maxRecDepth 100000 in
theorem slices_Equal_int_int.eq : (fun t0 t1 K h => slices_Equal_int_int.pt t0 t1 K h : Value → Value → Ret → Heap → Prop) = (fun t0 t1 K h => fnPt Try.prog [18, 20, 21, 22, 23, 26, 27, 28, 30, 31, 32, 38, 39, 1000029] Try.f37 slices_Equal_int_int.ann [t0, t1] K h) := by kernel_rfl
set_option maxRecDepth 100000 in
theorem slices_Equal_int_int.ok {t0 t1 : Value} {K : Ret} {h : Heap} (hp : slices_Equal_int_int.pt t0 t1 K h) : CallH Try.prog 37 #[t0, t1] K h :=
  fn_sound (qs := [18, 20, 21, 22, 23, 26, 27, 28, 30, 31, 32, 38, 39, 1000029]) (fn := Try.f37) (ann := slices_Equal_int_int.ann) (args := [t0, t1]) follows_mixed Try.func37 ((Eq.to_iff (congrFun (congrFun (congrFun (congrFun (slices_Equal_int_int.eq) t0) t1) K) h)).mp hp)

/-! ### bradawl/bradawllaw14.holding: function 38 -/
abbrev bradawllaw14_holding.id : FuncId := 38
def bradawllaw14_holding.ann : Ann := (.seq none .leaf (.seq none .leaf (.seq none (.seq none .leaf (.block (.loop [1, 5, 8, 9, 10] (.seq none .leaf (.seq none (.cond .leaf .leaf) (.seq (some [1, 5, 8, 9, 10]) (.block (.seq none .leaf (.seq none .leaf (.cond .leaf .leaf)))) .leaf)))))) (.seq none .leaf .leaf))))
set_option maxRecDepth 100000 in
def bradawllaw14_holding.pt (t0 t1 : Value) (K : Ret) (h : Heap) : Prop :=
 go (Len t0) h fun t9 h =>
 Lp 5 (fun X1 t1_1 t5 t8 t9_1 t10 h =>
 go (Bin .int .lss t10 t9_1) h fun t11 h =>
 If t11 (
 Join 5 (fun J2 =>
 go (Idx 1 t8 t10) h fun t12 h =>
 go (Ld t12) h fun t13 h =>
 go (Bin .int .gtr t13 (.int .i64 0)) h fun t15 h =>
 go (Gd t15 true (Mv t1_1)) h fun t17 h =>
 go (Gd t15 true (Mv t13)) h fun t18 h =>
 go (Gd t15 true (Bin .int .sub t18 (.int .i64 1))) h fun t19 h =>
 go (Gd t15 true (Idx 1 t17 t19)) h fun t20 h =>
 go (Gd t15 true (Ld t20)) h fun t21 h =>
 go (Pick t15 t21 (.bool false)) h fun t22 h =>
 go (Gd t22 false (Mv t13)) h fun t24 h =>
 go (Gd t22 false (Bin .int .lss t24 (.int .i64 0))) h fun t25 h =>
 go (Gd t22 false (Mv t25)) h fun t26 h =>
 go (Gd t26 true (Mv t1_1)) h fun t27 h =>
 go (Gd t26 true (Mv t13)) h fun t28 h =>
 go (Gd t26 true (Un .neg t28)) h fun t29 h =>
 go (Gd t26 true (Bin .int .sub t29 (.int .i64 1))) h fun t30 h =>
 go (Gd t26 true (Idx 1 t27 t30)) h fun t31 h =>
 go (Gd t26 true (Ld t31)) h fun t32 h =>
 go (Gd t26 true (Un .not t32)) h fun t33 h =>
 go (Gd t22 false (Pick t26 t33 (.bool false))) h fun t34 h =>
 go (Pick t22 (.bool true) t34) h fun t35 h =>
 If t35 (
 go (Bin .int .add t5 (.int .i64 1)) h fun t37 h =>
 J2 t1_1 t37 t8 t9_1 t10 h) (
 J2 t1_1 t5 t8 t9_1 t10 h)) (fun t1_2 t5_1 t8_1 t9_2 t10_1 h =>
 go (Bin .int .add t10_1 (.int .i64 1)) h fun t38 h =>
 X1 t1_2 t5_1 t8_1 t9_2 t38 h)) (
 K t5 h)) [t1, (.int .i64 0), t0, t9, (.int .i64 0)] h
set_option maxRecDepth 100000 in
theorem bradawllaw14_holding.eq : (fun t0 t1 K h => bradawllaw14_holding.pt t0 t1 K h : Value → Value → Ret → Heap → Prop) = (fun t0 t1 K h => fnPt Try.prog [18, 20, 21, 22, 23, 26, 27, 28, 30, 31, 32, 38, 39, 1000029] Try.f38 bradawllaw14_holding.ann [t0, t1] K h) := by kernel_rfl
set_option maxRecDepth 100000 in
theorem bradawllaw14_holding.ok {t0 t1 : Value} {K : Ret} {h : Heap} (hp : bradawllaw14_holding.pt t0 t1 K h) : CallH Try.prog 38 #[t0, t1] K h :=
  fn_sound (qs := [18, 20, 21, 22, 23, 26, 27, 28, 30, 31, 32, 38, 39, 1000029]) (fn := Try.f38) (ann := bradawllaw14_holding.ann) (args := [t0, t1]) follows_mixed Try.func38 ((Eq.to_iff (congrFun (congrFun (congrFun (congrFun (bradawllaw14_holding.eq) t0) t1) K) h)).mp hp)

/-! ### (*bradawl/local.State).right: function 39 -/
abbrev local_State_right.id : FuncId := 39
def local_State_right.ann : Ann := (.seq none .leaf (.seq none .leaf .leaf))
set_option maxRecDepth 100000 in
def local_State_right.pt (t0 t1 : Value) (K : Ret) (h : Heap) : Prop :=
 go (Bin .int .geq t1 (.int .i64 1)) h fun t6 h =>
 go (Gd t6 true (Mv t1)) h fun t8 h =>
 go (Gd t6 true (Mv t0)) h fun t9 h =>
 go (Gd t6 true (NilC t9)) h fun t10 h =>
 go (Gd t6 true (Fld 0 t10)) h fun t11 h =>
 go (Gd t6 true (Ld t11)) h fun t12 h =>
 go (Gd t6 true (Len t12)) h fun t13 h =>
 go (Gd t6 true (Bin .int .leq t8 t13)) h fun t14 h =>
 go (Pick t6 t14 (.bool false)) h fun t15 h =>
 K t15 h
set_option maxRecDepth 100000 in
theorem local_State_right.eq : (fun t0 t1 K h => local_State_right.pt t0 t1 K h : Value → Value → Ret → Heap → Prop) = (fun t0 t1 K h => fnPt Try.prog [18, 20, 21, 22, 23, 26, 27, 28, 30, 31, 32, 38, 39, 1000029] Try.f39 local_State_right.ann [t0, t1] K h) := by kernel_rfl
set_option maxRecDepth 100000 in
theorem local_State_right.ok {t0 t1 : Value} {K : Ret} {h : Heap} (hp : local_State_right.pt t0 t1 K h) : CallH Try.prog 39 #[t0, t1] K h :=
  fn_sound (qs := [18, 20, 21, 22, 23, 26, 27, 28, 30, 31, 32, 38, 39, 1000029]) (fn := Try.f39) (ann := local_State_right.ann) (args := [t0, t1]) follows_mixed Try.func39 ((Eq.to_iff (congrFun (congrFun (congrFun (congrFun (local_State_right.eq) t0) t1) K) h)).mp hp)

/-! ### (*bradawl/local.State).turn: function 40 -/
abbrev local_State_turn.id : FuncId := 40
def local_State_turn.ann : Ann := (.seq none .leaf (.block (.loop [0, 1, 2, 15, 16, 17] (.seq none .leaf (.seq none (.cond .leaf .leaf) (.seq none (.block (.seq none .leaf (.seq none .leaf (.seq none .leaf (.seq none .leaf .leaf))))) .leaf))))))
set_option maxRecDepth 100000 in
def local_State_turn.pt (t0 t1 t2 : Value) (K : Ret) (h : Heap) : Prop :=
 go (NilC t0) h fun t9 h =>
 go (Fld 2 t9) h fun t10 h =>
 go (Ld t10) h fun t11 h =>
 go (QCall Try.prog 30 [t1]) h fun t13 h =>
 go (Idx 1 t11 t13) h fun t14 h =>
 go (Ld t14) h fun t15 h =>
 go (Len t15) h fun t16 h =>
 Lp 6 (fun X1 t0_1 t1_1 t2_1 t15_1 t16_1 t17 h =>
 go (Bin .int .lss t17 t16_1) h fun t18 h =>
 If t18 (
 go (Idx 1 t15_1 t17) h fun t19 h =>
 go (Ld t19) h fun t20 h =>
 go (CallF Try.prog 33 [t0_1, t20, (.int .i64 (-1))]) h fun t23 h =>
 go (NilC t0_1) h fun t25 h =>
 go (Fld 1 t25) h fun t26 h =>
 go (Ld t26) h fun t27 h =>
 go (Idx 4 t27 t20) h fun t29 h =>
 go (Fld 1 t29) h fun t30 h =>
 go (Ld t30) h fun t31 h =>
 go (Bin .int .add t31 t2_1) h fun t33 h =>
 go (Idx 4 t27 t20) h fun t34 h =>
 go (Fld 1 t34) h fun t35 h =>
 go (St t35 t33) h fun _ h =>
 go (NilC t0_1) h fun t37 h =>
 go (Fld 1 t37) h fun t38 h =>
 go (Ld t38) h fun t39 h =>
 go (Idx 4 t39 t20) h fun t41 h =>
 go (Fld 2 t41) h fun t42 h =>
 go (Ld t42) h fun t43 h =>
 go (QCall Try.prog 32 [t1_1]) h fun t46 h =>
 go (Bin .int .mul t2_1 t46) h fun t47 h =>
 go (Bin .int .add t43 t47) h fun t48 h =>
 go (Idx 4 t39 t20) h fun t49 h =>
 go (Fld 2 t49) h fun t50 h =>
 go (St t50 t48) h fun _ h =>
 go (CallF Try.prog 33 [t0_1, t20, (.int .i64 1)]) h fun t53 h =>
 go (Bin .int .add t17 (.int .i64 1)) h fun t54 h =>
 X1 t0_1 t1_1 t2_1 t15_1 t16_1 t54 h) (
 K (.tuple #[]) h)) [t0, t1, t2, t15, t16, (.int .i64 0)] h
set_option maxRecDepth 100000 in
theorem local_State_turn.eq : (fun t0 t1 t2 K h => local_State_turn.pt t0 t1 t2 K h : Value → Value → Value → Ret → Heap → Prop) = (fun t0 t1 t2 K h => fnPt Try.prog [18, 20, 21, 22, 23, 26, 27, 28, 30, 31, 32, 38, 39, 1000029] Try.f40 local_State_turn.ann [t0, t1, t2] K h) := by kernel_rfl
set_option maxRecDepth 100000 in
theorem local_State_turn.ok {t0 t1 t2 : Value} {K : Ret} {h : Heap} (hp : local_State_turn.pt t0 t1 t2 K h) : CallH Try.prog 40 #[t0, t1, t2] K h :=
  fn_sound (qs := [18, 20, 21, 22, 23, 26, 27, 28, 30, 31, 32, 38, 39, 1000029]) (fn := Try.f40) (ann := local_State_turn.ann) (args := [t0, t1, t2]) follows_mixed Try.func40 ((Eq.to_iff (congrFun (congrFun (congrFun (congrFun (congrFun (local_State_turn.eq) t0) t1) t2) K) h)).mp hp)

/-! ### slices.SortFunc[[]int,int]: function 41 -/
abbrev slices_SortFunc_int_int.id : FuncId := 41
def slices_SortFunc_int_int.ann : Ann := (.seq none .leaf .leaf)
set_option maxRecDepth 100000 in
def slices_SortFunc_int_int.pt (t0 t1 : Value) (K : Ret) (h : Heap) : Prop :=
 go (Len t0) h fun t6 h =>
 go (Cvt .u64 t6) h fun t10 h =>
 go (CallF Try.prog 45 [t10]) h fun t11 h =>
 go (CallF Try.prog 44 [t0, (.int .i64 0), t6, t11, t1]) h fun t13 h =>
 K (.tuple #[]) h
set_option maxRecDepth 100000 in
theorem slices_SortFunc_int_int.eq : (fun t0 t1 K h => slices_SortFunc_int_int.pt t0 t1 K h : Value → Value → Ret → Heap → Prop) = (fun t0 t1 K h => fnPt Try.prog [18, 20, 21, 22, 23, 26, 27, 28, 30, 31, 32, 38, 39, 1000029] Try.f41 slices_SortFunc_int_int.ann [t0, t1] K h) := by kernel_rfl
set_option maxRecDepth 100000 in
theorem slices_SortFunc_int_int.ok {t0 t1 : Value} {K : Ret} {h : Heap} (hp : slices_SortFunc_int_int.pt t0 t1 K h) : CallH Try.prog 41 #[t0, t1] K h :=
  fn_sound (qs := [18, 20, 21, 22, 23, 26, 27, 28, 30, 31, 32, 38, 39, 1000029]) (fn := Try.f41) (ann := slices_SortFunc_int_int.ann) (args := [t0, t1]) follows_mixed Try.func41 ((Eq.to_iff (congrFun (congrFun (congrFun (congrFun (slices_SortFunc_int_int.eq) t0) t1) K) h)).mp hp)

/-! ### bradawl/lit.Compare: function 42 -/
abbrev lit_Compare.id : FuncId := 42
def lit_Compare.ann : Ann := (.seq none .leaf (.seq none .leaf .leaf))
set_option maxRecDepth 100000 in
def lit_Compare.pt (t0 t1 : Value) (K : Ret) (h : Heap) : Prop :=
 go (QCall Try.prog 30 [t0]) h fun t6 h =>
 go (QCall Try.prog 30 [t1]) h fun t8 h =>
 go (CallF Try.prog 46 [t6, t8]) h fun t9 h =>
 K t9 h
set_option maxRecDepth 100000 in
theorem lit_Compare.eq : (fun t0 t1 K h => lit_Compare.pt t0 t1 K h : Value → Value → Ret → Heap → Prop) = (fun t0 t1 K h => fnPt Try.prog [18, 20, 21, 22, 23, 26, 27, 28, 30, 31, 32, 38, 39, 1000029] Try.f42 lit_Compare.ann [t0, t1] K h) := by kernel_rfl
set_option maxRecDepth 100000 in
theorem lit_Compare.ok {t0 t1 : Value} {K : Ret} {h : Heap} (hp : lit_Compare.pt t0 t1 K h) : CallH Try.prog 42 #[t0, t1] K h :=
  fn_sound (qs := [18, 20, 21, 22, 23, 26, 27, 28, 30, 31, 32, 38, 39, 1000029]) (fn := Try.f42) (ann := lit_Compare.ann) (args := [t0, t1]) follows_mixed Try.func42 ((Eq.to_iff (congrFun (congrFun (congrFun (congrFun (lit_Compare.eq) t0) t1) K) h)).mp hp)

/-! ### slices.Compact[[]int,int]: function 43 -/
abbrev slices_Compact_int_int.id : FuncId := 43
def slices_Compact_int_int.ann : Ann := (.seq none .leaf (.seq none (.seq none .leaf (.cond (.seq none .leaf .leaf) .leaf)) (.seq none (.seq none .leaf (.block (.loop [0, 3] (.seq none (.seq none .leaf (.cond .leaf .leaf)) (.seq none (.block (.seq none .leaf (.cond (.seq none .leaf (.seq none (.seq none .leaf (.block (.loop [0, 3, 4, 5] (.seq none (.seq none .leaf (.cond .leaf .leaf)) (.seq (some [0, 3, 4, 5]) (.block (.seq none .leaf (.cond (.seq none .leaf .leaf) .leaf))) .leaf))))) (.seq none .leaf (.seq none .leaf .leaf)))) .leaf))) .leaf))))) (.seq none .leaf .leaf))))
set_option maxRecDepth 100000 in
def slices_Compact_int_int.pt (t0 : Value) (K : Ret) (h : Heap) : Prop :=
 go (Len t0) h fun t7 h =>
 go (Bin .int .lss t7 (.int .i64 2)) h fun t8 h =>
 If t8 (
 K t0 h) (
 Lp 2 (fun X1 t0_1 t3 h =>
 go (Len t0_1) h fun t12 h =>
 go (Bin .int .lss t3 t12) h fun t13 h =>
 If t13 (
 go (Idx 1 t0_1 t3) h fun t18 h =>
 go (Ld t18) h fun t19 h =>
 go (Bin .int .sub t3 (.int .i64 1)) h fun t22 h =>
 go (Idx 1 t0_1 t22) h fun t23 h =>
 go (Ld t23) h fun t24 h =>
 go (Bin .int .eql t19 t24) h fun t25 h =>
 If t25 (
 go (Slc 1 t0_1 (some t3) none none) h fun t28 h =>
 Lp 4 (fun X2 t0_2 t3_1 t4 t5 h =>
 go (Len t4) h fun t31 h =>
 go (Bin .int .lss t5 t31) h fun t32 h =>
 If t32 (
 Join 4 (fun J3 =>
 go (Idx 1 t4 t5) h fun t37 h =>
 go (Ld t37) h fun t38 h =>
 go (Bin .int .sub t5 (.int .i64 1)) h fun t41 h =>
 go (Idx 1 t4 t41) h fun t42 h =>
 go (Ld t42) h fun t43 h =>
 go (Bin .int .neq t38 t43) h fun t44 h =>
 If t44 (
 go (Idx 1 t4 t5) h fun t49 h =>
 go (Ld t49) h fun t50 h =>
 go (Idx 1 t0_2 t3_1) h fun t51 h =>
 go (St t51 t50) h fun _ h =>
 go (Bin .int .add t3_1 (.int .i64 1)) h fun t53 h =>
 J3 t0_2 t53 t4 t5 h) (
 J3 t0_2 t3_1 t4 t5 h)) (fun t0_3 t3_2 t4_1 t5_1 h =>
 go (Bin .int .add t5_1 (.int .i64 1)) h fun t34 h =>
 X2 t0_3 t3_2 t4_1 t34 h)) (
 go (Slc 1 t0_2 (some t3_1) none none) h fun t56 h =>
 go (Clr #[(.int .i64 0)] t56) h fun _ h =>
 go (Slc 1 t0_2 none (some t3_1) none) h fun t59 h =>
 K t59 h)) [t0_1, t3, t28, (.int .i64 1)] h) (
 go (Bin .int .add t3 (.int .i64 1)) h fun t15 h =>
 X1 t0_1 t15 h)) (
 K t0_1 h)) [t0, (.int .i64 1)] h)
set_option maxRecDepth 100000 in
theorem slices_Compact_int_int.eq : (fun t0 K h => slices_Compact_int_int.pt t0 K h : Value → Ret → Heap → Prop) = (fun t0 K h => fnPt Try.prog [18, 20, 21, 22, 23, 26, 27, 28, 30, 31, 32, 38, 39, 1000029] Try.f43 slices_Compact_int_int.ann [t0] K h) := by kernel_rfl
set_option maxRecDepth 100000 in
theorem slices_Compact_int_int.ok {t0 : Value} {K : Ret} {h : Heap} (hp : slices_Compact_int_int.pt t0 K h) : CallH Try.prog 43 #[t0] K h :=
  fn_sound (qs := [18, 20, 21, 22, 23, 26, 27, 28, 30, 31, 32, 38, 39, 1000029]) (fn := Try.f43) (ann := slices_Compact_int_int.ann) (args := [t0]) follows_mixed Try.func43 ((Eq.to_iff (congrFun (congrFun (congrFun (slices_Compact_int_int.eq) t0) K) h)).mp hp)

/-! ### slices.pdqsortCmpFunc[int]: function 44 -/
abbrev slices_pdqsortCmpFunc_int.id : FuncId := 44
def slices_pdqsortCmpFunc_int.ann : Ann := (.seq none .leaf (.seq none .leaf (.block (.loop [0, 1, 2, 3, 4, 10, 11] (.block (.seq none .leaf (.seq none (.seq none .leaf (.cond (.seq none .leaf .leaf) .leaf)) (.seq none (.seq none .leaf (.cond (.seq none .leaf .leaf) .leaf)) (.seq (some [0, 1, 2, 3, 4, 10, 11, 12]) (.seq none .leaf (.cond (.seq none .leaf .leaf) .leaf)) (.seq none .leaf (.seq (some [0, 1, 2, 3, 4, 10, 11, 12, 13, 14]) (.seq none .leaf (.cond (.seq none .leaf (.seq none .leaf .leaf)) .leaf)) (.seq (some [0, 1, 2, 3, 4, 10, 11, 12, 13]) (.seq none .leaf (.cond (.seq none .leaf (.cond .leaf .leaf)) .leaf)) (.seq none (.seq none .leaf (.cond (.seq none .leaf (.seq none .leaf .leaf)) .leaf)) (.seq none .leaf (.seq none .leaf (.seq none .leaf (.seq none .leaf (.seq none .leaf (.cond (.seq none .leaf (.seq none .leaf .leaf)) (.seq none .leaf (.seq none .leaf .leaf)))))))))))))))))))))
set_option maxRecDepth 100000 in
def slices_pdqsortCmpFunc_int.pt (t0 t1 t2 t3 t4 : Value) (K : Ret) (h : Heap) : Prop :=
 Lp 7 (fun X1 t0_1 t1_1 t2_1 t3_1 t4_1 t10 t11 h =>
 go (Bin .int .sub t2_1 t1_1) h fun t23 h =>
 go (Bin .int .leq t23 (.int .i64 12)) h fun t25 h =>
 If t25 (
 go (CallF Try.prog 47 [t0_1, t1_1, t2_1, t4_1]) h fun t30 h =>
 K (.tuple #[]) h) (
 go (Bin .int .eql t3_1 (.int .i64 0)) h fun t32 h =>
 If t32 (
 go (CallF Try.prog 48 [t0_1, t1_1, t2_1, t4_1]) h fun t37 h =>
 K (.tuple #[]) h) (
 Join 8 (fun J2 =>
 go (Un .not t10) h fun t39 h =>
 If t39 (
 go (CallF Try.prog 49 [t0_1, t1_1, t2_1, t4_1]) h fun t44 h =>
 go (Bin .int .sub t3_1 (.int .i64 1)) h fun t46 h =>
 J2 t0_1 t1_1 t2_1 t46 t4_1 t10 t11 t23 h) (
 J2 t0_1 t1_1 t2_1 t3_1 t4_1 t10 t11 t23 h)) (fun t0_2 t1_2 t2_2 t3_2 t4_2 t10_1 t11_1 t12 h =>
 go (CallF Try.prog 50 [t0_2, t1_2, t2_2, t4_2]) h fun t52 h =>
 go (Ext 0 t52) h fun t53 h =>
 go (Ext 1 t52) h fun t54 h =>
 Join 10 (fun J3 =>
 go (Bin .int .eql t54 (.int .i64 2)) h fun t56 h =>
 If t56 (
 go (CallF Try.prog 51 [t0_2, t1_2, t2_2, t4_2]) h fun t61 h =>
 go (Bin .int .sub t2_2 (.int .i64 1)) h fun t63 h =>
 go (Bin .int .sub t53 t1_2) h fun t66 h =>
 go (Bin .int .sub t63 t66) h fun t67 h =>
 J3 t0_2 t1_2 t2_2 t3_2 t4_2 t10_1 t11_1 t12 t67 (.int .i64 1) h) (
 J3 t0_2 t1_2 t2_2 t3_2 t4_2 t10_1 t11_1 t12 t53 t54 h)) (fun t0_3 t1_3 t2_3 t3_3 t4_3 t10_2 t11_2 t12_1 t13 t14 h =>
 Join 9 (fun J4 =>
 go (Gd t10_2 true (Mv t11_2)) h fun t70 h =>
 go (Pick t10_2 t70 (.bool false)) h fun t71 h =>
 go (Gd t71 true (Mv t14)) h fun t73 h =>
 go (Gd t71 true (Bin .int .eql t73 (.int .i64 1))) h fun t74 h =>
 go (Pick t71 t74 (.bool false)) h fun t75 h =>
 If t75 (
 go (CallF Try.prog 52 [t0_3, t1_3, t2_3, t4_3]) h fun t80 h =>
 If t80 (
 K (.tuple #[]) h) (
 J4 t0_3 t1_3 t2_3 t3_3 t4_3 t10_2 t11_2 t12_1 t13 h)) (
 J4 t0_3 t1_3 t2_3 t3_3 t4_3 t10_2 t11_2 t12_1 t13 h)) (fun t0_4 t1_4 t2_4 t3_4 t4_4 t10_3 t11_3 t12_2 t13_1 h =>
 go (Bin .int .gtr t1_4 (.int .i64 0)) h fun t82 h =>
 go (Gd t82 true (Mv t4_4)) h fun t84 h =>
 go (Gd t82 true (Mv t0_4)) h fun t85 h =>
 go (Gd t82 true (Mv t1_4)) h fun t86 h =>
 go (Gd t82 true (Bin .int .sub t86 (.int .i64 1))) h fun t87 h =>
 go (Gd t82 true (Idx 1 t85 t87)) h fun t88 h =>
 go (Gd t82 true (Ld t88)) h fun t89 h =>
 go (Gd t82 true (Mv t0_4)) h fun t90 h =>
 go (Gd t82 true (Mv t13_1)) h fun t91 h =>
 go (Gd t82 true (Idx 1 t90 t91)) h fun t92 h =>
 go (Gd t82 true (Ld t92)) h fun t93 h =>
 go (Gd t82 true (CallV Try.prog t84 [t89, t93])) h fun t94 h =>
 go (Gd t82 true (Bin .int .lss t94 (.int .i64 0))) h fun t95 h =>
 go (Gd t82 true (Un .not t95)) h fun t96 h =>
 go (Pick t82 t96 (.bool false)) h fun t97 h =>
 If t97 (
 go (CallF Try.prog 53 [t0_4, t1_4, t2_4, t13_1, t4_4]) h fun t103 h =>
 X1 t0_4 t103 t2_4 t3_4 t4_4 t10_3 t11_3 h) (
 go (CallF Try.prog 54 [t0_4, t1_4, t2_4, t13_1, t4_4]) h fun t111 h =>
 go (Ext 0 t111) h fun t112 h =>
 go (Ext 1 t111) h fun t113 h =>
 go (Bin .int .sub t112 t1_4) h fun t117 h =>
 go (Bin .int .sub t2_4 t112) h fun t120 h =>
 go (Bin .int .quo t12_2 (.int .i64 8)) h fun t122 h =>
 go (Bin .int .lss t117 t120) h fun t125 h =>
 If t125 (
 go (Bin .int .geq t117 t122) h fun t128 h =>
 go (CallF Try.prog 44 [t0_4, t1_4, t112, t3_4, t4_4]) h fun t134 h =>
 go (Bin .int .add t112 (.int .i64 1)) h fun t136 h =>
 X1 t0_4 t136 t2_4 t3_4 t4_4 t128 t113 h) (
 go (Bin .int .geq t120 t122) h fun t139 h =>
 go (Bin .int .add t112 (.int .i64 1)) h fun t142 h =>
 go (CallF Try.prog 44 [t0_4, t142, t2_4, t3_4, t4_4]) h fun t146 h =>
 X1 t0_4 t1_4 t112 t3_4 t4_4 t139 t113 h)))))))) [t0, t1, t2, t3, t4, (.bool true), (.bool true)] h
set_option maxRecDepth 100000 in
theorem slices_pdqsortCmpFunc_int.eq : (fun t0 t1 t2 t3 t4 K h => slices_pdqsortCmpFunc_int.pt t0 t1 t2 t3 t4 K h : Value → Value → Value → Value → Value → Ret → Heap → Prop) = (fun t0 t1 t2 t3 t4 K h => fnPt Try.prog [18, 20, 21, 22, 23, 26, 27, 28, 30, 31, 32, 38, 39, 1000029] Try.f44 slices_pdqsortCmpFunc_int.ann [t0, t1, t2, t3, t4] K h) := by kernel_rfl
set_option maxRecDepth 100000 in
theorem slices_pdqsortCmpFunc_int.ok {t0 t1 t2 t3 t4 : Value} {K : Ret} {h : Heap} (hp : slices_pdqsortCmpFunc_int.pt t0 t1 t2 t3 t4 K h) : CallH Try.prog 44 #[t0, t1, t2, t3, t4] K h :=
  fn_sound (qs := [18, 20, 21, 22, 23, 26, 27, 28, 30, 31, 32, 38, 39, 1000029]) (fn := Try.f44) (ann := slices_pdqsortCmpFunc_int.ann) (args := [t0, t1, t2, t3, t4]) follows_mixed Try.func44 ((Eq.to_iff (congrFun (congrFun (congrFun (congrFun (congrFun (congrFun (congrFun (slices_pdqsortCmpFunc_int.eq) t0) t1) t2) t3) t4) K) h)).mp hp)

/-! ### math/bits.Len: function 45 -/
abbrev bits_Len.id : FuncId := 45
def bits_Len.ann : Ann := (.seq none .leaf (.seq none (.cond (.seq none .leaf .leaf) .leaf) (.seq none .leaf .leaf)))
set_option maxRecDepth 100000 in
def bits_Len.pt (t0 : Value) (K : Ret) (h : Heap) : Prop :=
 If (.bool false) (
 go (Cvt .u32 t0) h fun t4 h =>
 go (CallF Try.prog 55 [t4]) h fun t5 h =>
 K t5 h) (
 go (CallF Try.prog 56 [t0]) h fun t7 h =>
 K t7 h)
set_option maxRecDepth 100000 in
theorem bits_Len.eq : (fun t0 K h => bits_Len.pt t0 K h : Value → Ret → Heap → Prop) = (fun t0 K h => fnPt Try.prog [18, 20, 21, 22, 23, 26, 27, 28, 30, 31, 32, 38, 39, 1000029] Try.f45 bits_Len.ann [t0] K h) := by kernel_rfl
set_option maxRecDepth 100000 in
theorem bits_Len.ok {t0 : Value} {K : Ret} {h : Heap} (hp : bits_Len.pt t0 K h) : CallH Try.prog 45 #[t0] K h :=
  fn_sound (qs := [18, 20, 21, 22, 23, 26, 27, 28, 30, 31, 32, 38, 39, 1000029]) (fn := Try.f45) (ann := bits_Len.ann) (args := [t0]) follows_mixed Try.func45 ((Eq.to_iff (congrFun (congrFun (congrFun (bits_Len.eq) t0) K) h)).mp hp)

/-! ### cmp.Compare[int]: function 46 -/
abbrev cmp_Compare_int.id : FuncId := 46
def cmp_Compare_int.ann : Ann := (.seq none .leaf (.seq none .leaf (.seq none .leaf (.seq none (.seq none .leaf (.cond (.seq none (.seq none .leaf (.cond (.seq none .leaf .leaf) .leaf)) (.seq none .leaf .leaf)) .leaf)) (.seq none (.seq none .leaf (.cond (.seq none .leaf .leaf) .leaf)) (.seq none (.seq none .leaf (.cond (.seq none .leaf .leaf) .leaf)) (.seq none (.seq none .leaf (.cond (.seq none .leaf .leaf) .leaf)) (.seq none .leaf .leaf))))))))
set_option maxRecDepth 100000 in
def cmp_Compare_int.pt (t0 t1 : Value) (K : Ret) (h : Heap) : Prop :=
 go (CallF Try.prog 57 [t0]) h fun t8 h =>
 go (CallF Try.prog 57 [t1]) h fun t10 h =>
 If t8 (
 If t10 (
 K (.int .i64 0) h) (
 K (.int .i64 (-1)) h)) (
 If t10 (
 K (.int .i64 1) h) (
 go (Bin .int .lss t0 t1) h fun t16 h =>
 If t16 (
 K (.int .i64 (-1)) h) (
 go (Bin .int .gtr t0 t1) h fun t19 h =>
 If t19 (
 K (.int .i64 1) h) (
 K (.int .i64 0) h))))
set_option maxRecDepth 100000 in
theorem cmp_Compare_int.eq : (fun t0 t1 K h => cmp_Compare_int.pt t0 t1 K h : Value → Value → Ret → Heap → Prop) = (fun t0 t1 K h => fnPt Try.prog [18, 20, 21, 22, 23, 26, 27, 28, 30, 31, 32, 38, 39, 1000029] Try.f46 cmp_Compare_int.ann [t0, t1] K h) := by kernel_rfl
set_option maxRecDepth 100000 in
theorem cmp_Compare_int.ok {t0 t1 : Value} {K : Ret} {h : Heap} (hp : cmp_Compare_int.pt t0 t1 K h) : CallH Try.prog 46 #[t0, t1] K h :=
  fn_sound (qs := [18, 20, 21, 22, 23, 26, 27, 28, 30, 31, 32, 38, 39, 1000029]) (fn := Try.f46) (ann := cmp_Compare_int.ann) (args := [t0, t1]) follows_mixed Try.func46 ((Eq.to_iff (congrFun (congrFun (congrFun (congrFun (cmp_Compare_int.eq) t0) t1) K) h)).mp hp)

/-! ### slices.insertionSortCmpFunc[int]: function 47 -/
abbrev slices_insertionSortCmpFunc_int.id : FuncId := 47
def slices_insertionSortCmpFunc_int.ann : Ann := (.seq none .leaf (.block (.loop [0, 1, 2, 3, 8] (.seq none (.seq none .leaf (.cond .leaf .leaf)) (.seq none (.block (.seq none .leaf (.block (.loop [0, 1, 2, 3, 8, 9] (.seq none (.seq none .leaf (.cond .leaf .leaf)) (.seq none (.block .leaf) .leaf)))))) .leaf)))))
set_option maxRecDepth 100000 in
def slices_insertionSortCmpFunc_int.pt (t0 t1 t2 t3 : Value) (K : Ret) (h : Heap) : Prop :=
 go (Bin .int .add t1 (.int .i64 1)) h fun t11 h =>
 Lp 5 (fun X1 t0_1 t1_1 t2_1 t3_1 t8 h =>
 go (Bin .int .lss t8 t2_1) h fun t14 h =>
 If t14 (
 Lp 6 (fun X2 t0_2 t1_2 t2_2 t3_2 t8_1 t9 h =>
 go (Bin .int .gtr t9 t1_2) h fun t20 h =>
 go (Gd t20 true (Mv t3_2)) h fun t22 h =>
 go (Gd t20 true (Mv t0_2)) h fun t23 h =>
 go (Gd t20 true (Mv t9)) h fun t24 h =>
 go (Gd t20 true (Idx 1 t23 t24)) h fun t25 h =>
 go (Gd t20 true (Ld t25)) h fun t26 h =>
 go (Gd t20 true (Mv t0_2)) h fun t27 h =>
 go (Gd t20 true (Mv t9)) h fun t28 h =>
 go (Gd t20 true (Bin .int .sub t28 (.int .i64 1))) h fun t29 h =>
 go (Gd t20 true (Idx 1 t27 t29)) h fun t30 h =>
 go (Gd t20 true (Ld t30)) h fun t31 h =>
 go (Gd t20 true (CallV Try.prog t22 [t26, t31])) h fun t32 h =>
 go (Gd t20 true (Bin .int .lss t32 (.int .i64 0))) h fun t33 h =>
 go (Pick t20 t33 (.bool false)) h fun t34 h =>
 If t34 (
 go (Bin .int .sub t9 (.int .i64 1)) h fun t41 h =>
 go (Bin .int .sub t9 (.int .i64 1)) h fun t44 h =>
 go (Idx 1 t0_2 t44) h fun t45 h =>
 go (Ld t45) h fun t46 h =>
 go (Idx 1 t0_2 t9) h fun t49 h =>
 go (Ld t49) h fun t50 h =>
 go (Idx 1 t0_2 t9) h fun t51 h =>
 go (St t51 t46) h fun _ h =>
 go (Idx 1 t0_2 t41) h fun t52 h =>
 go (St t52 t50) h fun _ h =>
 go (Bin .int .sub t9 (.int .i64 1)) h fun t36 h =>
 X2 t0_2 t1_2 t2_2 t3_2 t8_1 t36 h) (
 go (Bin .int .add t8_1 (.int .i64 1)) h fun t16 h =>
 X1 t0_2 t1_2 t2_2 t3_2 t16 h)) [t0_1, t1_1, t2_1, t3_1, t8, t8] h) (
 K (.tuple #[]) h)) [t0, t1, t2, t3, t11] h
set_option maxRecDepth 100000 in
theorem slices_insertionSortCmpFunc_int.eq : (fun t0 t1 t2 t3 K h => slices_insertionSortCmpFunc_int.pt t0 t1 t2 t3 K h : Value → Value → Value → Value → Ret → Heap → Prop) = (fun t0 t1 t2 t3 K h => fnPt Try.prog [18, 20, 21, 22, 23, 26, 27, 28, 30, 31, 32, 38, 39, 1000029] Try.f47 slices_insertionSortCmpFunc_int.ann [t0, t1, t2, t3] K h) := by kernel_rfl
set_option maxRecDepth 100000 in
theorem slices_insertionSortCmpFunc_int.ok {t0 t1 t2 t3 : Value} {K : Ret} {h : Heap} (hp : slices_insertionSortCmpFunc_int.pt t0 t1 t2 t3 K h) : CallH Try.prog 47 #[t0, t1, t2, t3] K h :=
  fn_sound (qs := [18, 20, 21, 22, 23, 26, 27, 28, 30, 31, 32, 38, 39, 1000029]) (fn := Try.f47) (ann := slices_insertionSortCmpFunc_int.ann) (args := [t0, t1, t2, t3]) follows_mixed Try.func47 ((Eq.to_iff (congrFun (congrFun (congrFun (congrFun (congrFun (congrFun (slices_insertionSortCmpFunc_int.eq) t0) t1) t2) t3) K) h)).mp hp)

/-! ### slices.heapSortCmpFunc[int]: function 48 -/
abbrev slices_heapSortCmpFunc_int.id : FuncId := 48
def slices_heapSortCmpFunc_int.ann : Ann := (.seq none .leaf (.seq none .leaf (.seq none .leaf (.seq none (.seq none .leaf (.block (.loop [0, 3, 8, 9, 10, 11] (.seq none (.seq none .leaf (.cond .leaf .leaf)) (.seq none (.block .leaf) .leaf))))) (.seq none .leaf (.block (.loop [0, 3, 8, 9, 12] (.seq none (.seq none .leaf (.cond .leaf .leaf)) (.seq none (.block (.seq none .leaf .leaf)) .leaf)))))))))
set_option maxRecDepth 100000 in
def slices_heapSortCmpFunc_int.pt (t0 t1 t2 t3 : Value) (K : Ret) (h : Heap) : Prop :=
 go (Bin .int .sub t2 t1) h fun t16 h =>
 go (Bin .int .sub t16 (.int .i64 1)) h fun t18 h =>
 go (Bin .int .quo t18 (.int .i64 2)) h fun t19 h =>
 Lp 6 (fun X1 t0_1 t3_1 t8 t9 t10 t11 h =>
 go (Bin .int .geq t11 (.int .i64 0)) h fun t21 h =>
 If t21 (
 go (CallF Try.prog 58 [t0_1, t11, t10, t8, t3_1]) h fun t29 h =>
 go (Bin .int .sub t11 (.int .i64 1)) h fun t23 h =>
 X1 t0_1 t3_1 t8 t9 t10 t23 h) (
 go (Bin .int .sub t10 (.int .i64 1)) h fun t31 h =>
 Lp 5 (fun X2 t0_2 t3_2 t8_1 t9_1 t12 h =>
 go (Bin .int .geq t12 (.int .i64 0)) h fun t33 h =>
 If t33 (
 go (Bin .int .add t8_1 t12) h fun t41 h =>
 go (Bin .int .add t8_1 t12) h fun t45 h =>
 go (Idx 1 t0_2 t45) h fun t46 h =>
 go (Ld t46) h fun t47 h =>
 go (Idx 1 t0_2 t8_1) h fun t50 h =>
 go (Ld t50) h fun t51 h =>
 go (Idx 1 t0_2 t8_1) h fun t52 h =>
 go (St t52 t47) h fun _ h =>
 go (Idx 1 t0_2 t41) h fun t53 h =>
 go (St t53 t51) h fun _ h =>
 go (CallF Try.prog 58 [t0_2, t9_1, t12, t8_1, t3_2]) h fun t59 h =>
 go (Bin .int .sub t12 (.int .i64 1)) h fun t35 h =>
 X2 t0_2 t3_2 t8_1 t9_1 t35 h) (
 K (.tuple #[]) h)) [t0_1, t3_1, t8, t9, t31] h)) [t0, t3, t1, (.int .i64 0), t16, t19] h
set_option maxRecDepth 100000 in
theorem slices_heapSortCmpFunc_int.eq : (fun t0 t1 t2 t3 K h => slices_heapSortCmpFunc_int.pt t0 t1 t2 t3 K h : Value → Value → Value → Value → Ret → Heap → Prop) = (fun t0 t1 t2 t3 K h => fnPt Try.prog [18, 20, 21, 22, 23, 26, 27, 28, 30, 31, 32, 38, 39, 1000029] Try.f48 slices_heapSortCmpFunc_int.ann [t0, t1, t2, t3] K h) := by kernel_rfl
set_option maxRecDepth 100000 in
theorem slices_heapSortCmpFunc_int.ok {t0 t1 t2 t3 : Value} {K : Ret} {h : Heap} (hp : slices_heapSortCmpFunc_int.pt t0 t1 t2 t3 K h) : CallH Try.prog 48 #[t0, t1, t2, t3] K h :=
  fn_sound (qs := [18, 20, 21, 22, 23, 26, 27, 28, 30, 31, 32, 38, 39, 1000029]) (fn := Try.f48) (ann := slices_heapSortCmpFunc_int.ann) (args := [t0, t1, t2, t3]) follows_mixed Try.func48 ((Eq.to_iff (congrFun (congrFun (congrFun (congrFun (congrFun (congrFun (slices_heapSortCmpFunc_int.eq) t0) t1) t2) t3) K) h)).mp hp)

/-! ### slices.breakPatternsCmpFunc[int]: function 49 -/
abbrev slices_breakPatternsCmpFunc_int.id : FuncId := 49
def slices_breakPatternsCmpFunc_int.ann : Ann := (.seq none .leaf (.seq none .leaf (.cond (.seq none .leaf (.seq none .leaf (.seq none .leaf (.block (.loop [0, 1, 8, 9, 10, 11] (.seq none (.seq none .leaf (.cond .leaf .leaf)) (.seq none (.block (.seq none .leaf (.seq (some [0, 1, 8, 9, 10, 11, 12]) (.seq none .leaf (.cond .leaf .leaf)) .leaf))) .leaf))))))) .leaf)))
set_option maxRecDepth 100000 in
def slices_breakPatternsCmpFunc_int.pt (t0 t1 t2 t3 : Value) (K : Ret) (h : Heap) : Prop :=
 go (Bin .int .sub t2 t1) h fun t15 h =>
 go (Bin .int .geq t15 (.int .i64 8)) h fun t17 h =>
 If t17 (
 go (Cvt .u64 t15) h fun t19 h =>
 go (New #[(.int .u64 0)] 87) h fun t9 h =>
 go (St t9 t19) h fun _ h =>
 go (CallF Try.prog 59 [t15]) h fun t21 h =>
 go (Bin .int .quo t15 (.int .i64 4)) h fun t24 h =>
 go (Bin .int .mul t24 (.int .i64 2)) h fun t25 h =>
 go (Bin .int .add t1 t25) h fun t26 h =>
 go (Bin .int .sub t26 (.int .i64 1)) h fun t27 h =>
 Lp 6 (fun X1 t0_1 t1_1 t8 t9_1 t10 t11 h =>
 go (Bin .int .quo t8 (.int .i64 4)) h fun t31 h =>
 go (Bin .int .mul t31 (.int .i64 2)) h fun t32 h =>
 go (Bin .int .add t1_1 t32) h fun t33 h =>
 go (Bin .int .add t33 (.int .i64 1)) h fun t34 h =>
 go (Bin .int .leq t11 t34) h fun t35 h =>
 If t35 (
 go (CallF Try.prog 60 [t9_1]) h fun t38 h =>
 go (Bin .int .sub t10 (.int .u64 1)) h fun t40 h =>
 go (Bin .int .and t38 t40) h fun t41 h =>
 go (Cvt .i64 t41) h fun t42 h =>
 Join 7 (fun J2 =>
 go (Bin .int .geq t42 t8) h fun t45 h =>
 If t45 (
 go (Bin .int .sub t42 t8) h fun t48 h =>
 J2 t0_1 t1_1 t8 t9_1 t10 t11 t48 h) (
 J2 t0_1 t1_1 t8 t9_1 t10 t11 t42 h)) (fun t0_2 t1_2 t8_1 t9_2 t10_1 t11_1 t12 h =>
 go (Bin .int .add t1_2 t12) h fun t54 h =>
 go (Bin .int .add t1_2 t12) h fun t58 h =>
 go (Idx 1 t0_2 t58) h fun t59 h =>
 go (Ld t59) h fun t60 h =>
 go (Idx 1 t0_2 t11_1) h fun t63 h =>
 go (Ld t63) h fun t64 h =>
 go (Idx 1 t0_2 t11_1) h fun t65 h =>
 go (St t65 t60) h fun _ h =>
 go (Idx 1 t0_2 t54) h fun t66 h =>
 go (St t66 t64) h fun _ h =>
 go (Bin .int .add t11_1 (.int .i64 1)) h fun t37 h =>
 X1 t0_2 t1_2 t8_1 t9_2 t10_1 t37 h)) (
 K (.tuple #[]) h)) [t0, t1, t15, t9, t21, t27] h) (
 K (.tuple #[]) h)
set_option maxRecDepth 100000 in
theorem slices_breakPatternsCmpFunc_int.eq : (fun t0 t1 t2 t3 K h => slices_breakPatternsCmpFunc_int.pt t0 t1 t2 t3 K h : Value → Value → Value → Value → Ret → Heap → Prop) = (fun t0 t1 t2 t3 K h => fnPt Try.prog [18, 20, 21, 22, 23, 26, 27, 28, 30, 31, 32, 38, 39, 1000029] Try.f49 slices_breakPatternsCmpFunc_int.ann [t0, t1, t2, t3] K h) := by kernel_rfl
set_option maxRecDepth 100000 in
theorem slices_breakPatternsCmpFunc_int.ok {t0 t1 t2 t3 : Value} {K : Ret} {h : Heap} (hp : slices_breakPatternsCmpFunc_int.pt t0 t1 t2 t3 K h) : CallH Try.prog 49 #[t0, t1, t2, t3] K h :=
  fn_sound (qs := [18, 20, 21, 22, 23, 26, 27, 28, 30, 31, 32, 38, 39, 1000029]) (fn := Try.f49) (ann := slices_breakPatternsCmpFunc_int.ann) (args := [t0, t1, t2, t3]) follows_mixed Try.func49 ((Eq.to_iff (congrFun (congrFun (congrFun (congrFun (congrFun (congrFun (slices_breakPatternsCmpFunc_int.eq) t0) t1) t2) t3) K) h)).mp hp)

/-! ### slices.choosePivotCmpFunc[int]: function 50 -/
abbrev slices_choosePivotCmpFunc_int.id : FuncId := 50
def slices_choosePivotCmpFunc_int.ann : Ann := (.seq none .leaf (.seq none .leaf (.seq none .leaf (.seq none .leaf (.seq none .leaf (.seq none .leaf (.seq (some [11, 13]) (.seq none .leaf (.cond (.seq (some [0, 3, 11, 12, 13, 14]) (.seq none .leaf (.cond (.seq none .leaf (.seq none .leaf .leaf)) .leaf)) .leaf) .leaf)) (.seq none .leaf (.block (.seq none .leaf (.cond (.seq none .leaf .leaf) (.seq none .leaf (.cond (.seq none .leaf .leaf) (.seq none .leaf .leaf))))))))))))))
set_option maxRecDepth 100000 in
def slices_choosePivotCmpFunc_int.pt (t0 t1 t2 t3 : Value) (K : Ret) (h : Heap) : Prop :=
 go (Bin .int .sub t2 t1) h fun t17 h =>
 go (New #[(.int .i64 0)] 3) h fun t11 h =>
 go (Bin .int .quo t17 (.int .i64 4)) h fun t20 h =>
 go (Bin .int .mul t20 (.int .i64 1)) h fun t21 h =>
 go (Bin .int .add t1 t21) h fun t22 h =>
 go (Bin .int .quo t17 (.int .i64 4)) h fun t25 h =>
 go (Bin .int .mul t25 (.int .i64 2)) h fun t26 h =>
 go (Bin .int .add t1 t26) h fun t27 h =>
 go (Bin .int .quo t17 (.int .i64 4)) h fun t30 h =>
 go (Bin .int .mul t30 (.int .i64 3)) h fun t31 h =>
 go (Bin .int .add t1 t31) h fun t32 h =>
 Join 2 (fun J1 =>
 go (Bin .int .geq t17 (.int .i64 8)) h fun t34 h =>
 If t34 (
 Join 6 (fun J2 =>
 go (Bin .int .geq t17 (.int .i64 50)) h fun t36 h =>
 If t36 (
 go (CallF Try.prog 61 [t0, t22, t11, t3]) h fun t40 h =>
 go (CallF Try.prog 61 [t0, t27, t11, t3]) h fun t44 h =>
 go (CallF Try.prog 61 [t0, t32, t11, t3]) h fun t48 h =>
 J2 t0 t3 t11 t40 t44 t48 h) (
 J2 t0 t3 t11 t22 t27 t32 h)) (fun t0_1 t3_1 t11_1 t12 t13 t14 h =>
 go (CallF Try.prog 62 [t0_1, t12, t13, t14, t11_1, t3_1]) h fun t54 h =>
 J1 t11_1 t54 h)) (
 J1 t11 t27 h)) (fun t11_2 t13_1 h =>
 go (Ld t11_2) h fun t55 h =>
 go (Bin .int .eql t55 (.int .i64 0)) h fun t58 h =>
 If t58 (
 K (.tuple #[t13_1, (.int .i64 1)]) h) (
 go (Bin .int .eql t55 (.int .i64 12)) h fun t61 h =>
 If t61 (
 K (.tuple #[t13_1, (.int .i64 2)]) h) (
 K (.tuple #[t13_1, (.int .i64 0)]) h)))
set_option maxRecDepth 100000 in
theorem slices_choosePivotCmpFunc_int.eq : (fun t0 t1 t2 t3 K h => slices_choosePivotCmpFunc_int.pt t0 t1 t2 t3 K h : Value → Value → Value → Value → Ret → Heap → Prop) = (fun t0 t1 t2 t3 K h => fnPt Try.prog [18, 20, 21, 22, 23, 26, 27, 28, 30, 31, 32, 38, 39, 1000029] Try.f50 slices_choosePivotCmpFunc_int.ann [t0, t1, t2, t3] K h) := by kernel_rfl
set_option maxRecDepth 100000 in
theorem slices_choosePivotCmpFunc_int.ok {t0 t1 t2 t3 : Value} {K : Ret} {h : Heap} (hp : slices_choosePivotCmpFunc_int.pt t0 t1 t2 t3 K h) : CallH Try.prog 50 #[t0, t1, t2, t3] K h :=
  fn_sound (qs := [18, 20, 21, 22, 23, 26, 27, 28, 30, 31, 32, 38, 39, 1000029]) (fn := Try.f50) (ann := slices_choosePivotCmpFunc_int.ann) (args := [t0, t1, t2, t3]) follows_mixed Try.func50 ((Eq.to_iff (congrFun (congrFun (congrFun (congrFun (congrFun (congrFun (slices_choosePivotCmpFunc_int.eq) t0) t1) t2) t3) K) h)).mp hp)

/-! ### slices.reverseRangeCmpFunc[int]: function 51 -/
abbrev slices_reverseRangeCmpFunc_int.id : FuncId := 51
def slices_reverseRangeCmpFunc_int.ann : Ann := (.seq none .leaf (.seq none .leaf (.block (.loop [0, 8, 9] (.seq none (.seq none .leaf (.cond .leaf .leaf)) (.block (.seq none .leaf (.seq none .leaf .leaf))))))))
set_option maxRecDepth 100000 in
def slices_reverseRangeCmpFunc_int.pt (t0 t1 t2 t3 : Value) (K : Ret) (h : Heap) : Prop :=
 go (Bin .int .sub t2 (.int .i64 1)) h fun t12 h =>
 Lp 3 (fun X1 t0_1 t8 t9 h =>
 go (Bin .int .lss t8 t9) h fun t15 h =>
 If t15 (
 go (Idx 1 t0_1 t9) h fun t22 h =>
 go (Ld t22) h fun t23 h =>
 go (Idx 1 t0_1 t8) h fun t26 h =>
 go (Ld t26) h fun t27 h =>
 go (Idx 1 t0_1 t8) h fun t28 h =>
 go (St t28 t23) h fun _ h =>
 go (Idx 1 t0_1 t9) h fun t29 h =>
 go (St t29 t27) h fun _ h =>
 go (Bin .int .add t8 (.int .i64 1)) h fun t31 h =>
 go (Bin .int .sub t9 (.int .i64 1)) h fun t33 h =>
 X1 t0_1 t31 t33 h) (
 K (.tuple #[]) h)) [t0, t1, t12] h
set_option maxRecDepth 100000 in
theorem slices_reverseRangeCmpFunc_int.eq : (fun t0 t1 t2 t3 K h => slices_reverseRangeCmpFunc_int.pt t0 t1 t2 t3 K h : Value → Value → Value → Value → Ret → Heap → Prop) = (fun t0 t1 t2 t3 K h => fnPt Try.prog [18, 20, 21, 22, 23, 26, 27, 28, 30, 31, 32, 38, 39, 1000029] Try.f51 slices_reverseRangeCmpFunc_int.ann [t0, t1, t2, t3] K h) := by kernel_rfl
set_option maxRecDepth 100000 in
theorem slices_reverseRangeCmpFunc_int.ok {t0 t1 t2 t3 : Value} {K : Ret} {h : Heap} (hp : slices_reverseRangeCmpFunc_int.pt t0 t1 t2 t3 K h) : CallH Try.prog 51 #[t0, t1, t2, t3] K h :=
  fn_sound (qs := [18, 20, 21, 22, 23, 26, 27, 28, 30, 31, 32, 38, 39, 1000029]) (fn := Try.f51) (ann := slices_reverseRangeCmpFunc_int.ann) (args := [t0, t1, t2, t3]) follows_mixed Try.func51 ((Eq.to_iff (congrFun (congrFun (congrFun (congrFun (congrFun (congrFun (slices_reverseRangeCmpFunc_int.eq) t0) t1) t2) t3) K) h)).mp hp)

/-! ### slices.partialInsertionSortCmpFunc[int]: function 52 -/
abbrev slices_partialInsertionSortCmpFunc_int.id : FuncId := 52
def slices_partialInsertionSortCmpFunc_int.ann : Ann := (.seq none .leaf (.seq none .leaf (.seq none (.seq none .leaf (.block (.loop [0, 1, 2, 3, 9, 10] (.seq none (.seq none .leaf (.cond .leaf .leaf)) (.seq (some [0, 1, 2, 3, 9, 10]) (.block (.seq none (.block (.loop [0, 1, 2, 3, 9, 10] (.seq none (.seq none .leaf (.cond .leaf .leaf)) (.block .leaf)))) (.seq none (.seq none .leaf (.cond (.seq none .leaf .leaf) .leaf)) (.seq none (.seq none .leaf (.cond (.seq none .leaf .leaf) .leaf)) (.seq none .leaf (.seq (some [0, 1, 2, 3, 9, 10]) (.seq none .leaf (.cond (.seq none .leaf (.block (.loop [0, 1, 2, 3, 9, 10, 11] (.seq none (.seq none .leaf (.cond .leaf .leaf)) (.seq none (.block (.seq none (.seq none .leaf (.cond .leaf .leaf)) .leaf)) .leaf))))) .leaf)) (.seq none .leaf (.cond (.seq none .leaf (.block (.loop [0, 1, 2, 3, 9, 10, 12] (.seq none (.seq none .leaf (.cond .leaf .leaf)) (.seq none (.block (.seq none (.seq none .leaf (.cond .leaf .leaf)) .leaf)) .leaf))))) .leaf)))))))) .leaf))))) (.seq none .leaf .leaf))))
set_option maxRecDepth 100000 in
def slices_partialInsertionSortCmpFunc_int.pt (t0 t1 t2 t3 : Value) (K : Ret) (h : Heap) : Prop :=
 go (Bin .int .add t1 (.int .i64 1)) h fun t14 h =>
 Lp 6 (fun X1 t0_1 t1_1 t2_1 t3_1 t9 t10 h =>
 go (Bin .int .lss t10 (.int .i64 5)) h fun t16 h =>
 If t16 (
 Join 6 (fun J2 =>
 Lp 6 (fun X3 t0_2 t1_2 t2_2 t3_2 t9_1 t10_1 h =>
 go (Bin .int .lss t9_1 t2_2) h fun t21 h =>
 go (Gd t21 true (Mv t3_2)) h fun t23 h =>
 go (Gd t21 true (Mv t0_2)) h fun t24 h =>
 go (Gd t21 true (Mv t9_1)) h fun t25 h =>
 go (Gd t21 true (Idx 1 t24 t25)) h fun t26 h =>
 go (Gd t21 true (Ld t26)) h fun t27 h =>
 go (Gd t21 true (Mv t0_2)) h fun t28 h =>
 go (Gd t21 true (Mv t9_1)) h fun t29 h =>
 go (Gd t21 true (Bin .int .sub t29 (.int .i64 1))) h fun t30 h =>
 go (Gd t21 true (Idx 1 t28 t30)) h fun t31 h =>
 go (Gd t21 true (Ld t31)) h fun t32 h =>
 go (Gd t21 true (CallV Try.prog t23 [t27, t32])) h fun t33 h =>
 go (Gd t21 true (Bin .int .lss t33 (.int .i64 0))) h fun t34 h =>
 go (Gd t21 true (Un .not t34)) h fun t35 h =>
 go (Pick t21 t35 (.bool false)) h fun t36 h =>
 If t36 (
 go (Bin .int .add t9_1 (.int .i64 1)) h fun t38 h =>
 X3 t0_2 t1_2 t2_2 t3_2 t38 t10_1 h) (
 go (Bin .int .eql t9_1 t2_2) h fun t41 h =>
 If t41 (
 K (.bool true) h) (
 go (Bin .int .sub t2_2 t1_2) h fun t44 h =>
 go (Bin .int .lss t44 (.int .i64 50)) h fun t45 h =>
 If t45 (
 K (.bool false) h) (
 go (Bin .int .sub t9_1 (.int .i64 1)) h fun t50 h =>
 go (Bin .int .sub t9_1 (.int .i64 1)) h fun t53 h =>
 go (Idx 1 t0_2 t53) h fun t54 h =>
 go (Ld t54) h fun t55 h =>
 go (Idx 1 t0_2 t9_1) h fun t58 h =>
 go (Ld t58) h fun t59 h =>
 go (Idx 1 t0_2 t9_1) h fun t60 h =>
 go (St t60 t55) h fun _ h =>
 go (Idx 1 t0_2 t50) h fun t61 h =>
 go (St t61 t59) h fun _ h =>
 Join 6 (fun J4 =>
 go (Bin .int .sub t9_1 t1_2) h fun t64 h =>
 go (Bin .int .geq t64 (.int .i64 2)) h fun t65 h =>
 If t65 (
 go (Bin .int .sub t9_1 (.int .i64 1)) h fun t67 h =>
 Lp 7 (fun X5 t0_3 t1_3 t2_3 t3_3 t9_2 t10_2 t11 h =>
 go (Bin .int .geq t11 (.int .i64 1)) h fun t69 h =>
 If t69 (
 go (Idx 1 t0_3 t11) h fun t75 h =>
 go (Ld t75) h fun t76 h =>
 go (Bin .int .sub t11 (.int .i64 1)) h fun t79 h =>
 go (Idx 1 t0_3 t79) h fun t80 h =>
 go (Ld t80) h fun t81 h =>
 go (CallV Try.prog t3_3 [t76, t81]) h fun t82 h =>
 go (Bin .int .lss t82 (.int .i64 0)) h fun t83 h =>
 go (Un .not t83) h fun t84 h =>
 If t84 (
 J4 t0_3 t1_3 t2_3 t3_3 t9_2 t10_2 h) (
 go (Bin .int .sub t11 (.int .i64 1)) h fun t89 h =>
 go (Bin .int .sub t11 (.int .i64 1)) h fun t92 h =>
 go (Idx 1 t0_3 t92) h fun t93 h =>
 go (Ld t93) h fun t94 h =>
 go (Idx 1 t0_3 t11) h fun t97 h =>
 go (Ld t97) h fun t98 h =>
 go (Idx 1 t0_3 t11) h fun t99 h =>
 go (St t99 t94) h fun _ h =>
 go (Idx 1 t0_3 t89) h fun t100 h =>
 go (St t100 t98) h fun _ h =>
 go (Bin .int .sub t11 (.int .i64 1)) h fun t71 h =>
 X5 t0_3 t1_3 t2_3 t3_3 t9_2 t10_2 t71 h)) (
 J4 t0_3 t1_3 t2_3 t3_3 t9_2 t10_2 h)) [t0_2, t1_2, t2_2, t3_2, t9_1, t10_1, t67] h) (
 J4 t0_2 t1_2 t2_2 t3_2 t9_1 t10_1 h)) (fun t0_4 t1_4 t2_4 t3_4 t9_3 t10_3 h =>
 go (Bin .int .sub t2_4 t9_3) h fun t103 h =>
 go (Bin .int .geq t103 (.int .i64 2)) h fun t104 h =>
 If t104 (
 go (Bin .int .add t9_3 (.int .i64 1)) h fun t106 h =>
 Lp 7 (fun X6 t0_5 t1_5 t2_5 t3_5 t9_4 t10_4 t12 h =>
 go (Bin .int .lss t12 t2_5) h fun t109 h =>
 If t109 (
 go (Idx 1 t0_5 t12) h fun t115 h =>
 go (Ld t115) h fun t116 h =>
 go (Bin .int .sub t12 (.int .i64 1)) h fun t119 h =>
 go (Idx 1 t0_5 t119) h fun t120 h =>
 go (Ld t120) h fun t121 h =>
 go (CallV Try.prog t3_5 [t116, t121]) h fun t122 h =>
 go (Bin .int .lss t122 (.int .i64 0)) h fun t123 h =>
 go (Un .not t123) h fun t124 h =>
 If t124 (
 J2 t0_5 t1_5 t2_5 t3_5 t9_4 t10_4 h) (
 go (Bin .int .sub t12 (.int .i64 1)) h fun t129 h =>
 go (Bin .int .sub t12 (.int .i64 1)) h fun t132 h =>
 go (Idx 1 t0_5 t132) h fun t133 h =>
 go (Ld t133) h fun t134 h =>
 go (Idx 1 t0_5 t12) h fun t137 h =>
 go (Ld t137) h fun t138 h =>
 go (Idx 1 t0_5 t12) h fun t139 h =>
 go (St t139 t134) h fun _ h =>
 go (Idx 1 t0_5 t129) h fun t140 h =>
 go (St t140 t138) h fun _ h =>
 go (Bin .int .add t12 (.int .i64 1)) h fun t111 h =>
 X6 t0_5 t1_5 t2_5 t3_5 t9_4 t10_4 t111 h)) (
 J2 t0_5 t1_5 t2_5 t3_5 t9_4 t10_4 h)) [t0_4, t1_4, t2_4, t3_4, t9_3, t10_3, t106] h) (
 J2 t0_4 t1_4 t2_4 t3_4 t9_3 t10_3 h)))))) [t0_1, t1_1, t2_1, t3_1, t9, t10] h) (fun t0_6 t1_6 t2_6 t3_6 t9_5 t10_5 h =>
 go (Bin .int .add t10_5 (.int .i64 1)) h fun t18 h =>
 X1 t0_6 t1_6 t2_6 t3_6 t9_5 t18 h)) (
 K (.bool false) h)) [t0, t1, t2, t3, t14, (.int .i64 0)] h
set_option maxRecDepth 100000 in
theorem slices_partialInsertionSortCmpFunc_int.eq : (fun t0 t1 t2 t3 K h => slices_partialInsertionSortCmpFunc_int.pt t0 t1 t2 t3 K h : Value → Value → Value → Value → Ret → Heap → Prop) = (fun t0 t1 t2 t3 K h => fnPt Try.prog [18, 20, 21, 22, 23, 26, 27, 28, 30, 31, 32, 38, 39, 1000029] Try.f52 slices_partialInsertionSortCmpFunc_int.ann [t0, t1, t2, t3] K h) := by kernel_rfl
set_option maxRecDepth 100000 in
theorem slices_partialInsertionSortCmpFunc_int.ok {t0 t1 t2 t3 : Value} {K : Ret} {h : Heap} (hp : slices_partialInsertionSortCmpFunc_int.pt t0 t1 t2 t3 K h) : CallH Try.prog 52 #[t0, t1, t2, t3] K h :=
  fn_sound (qs := [18, 20, 21, 22, 23, 26, 27, 28, 30, 31, 32, 38, 39, 1000029]) (fn := Try.f52) (ann := slices_partialInsertionSortCmpFunc_int.ann) (args := [t0, t1, t2, t3]) follows_mixed Try.func52 ((Eq.to_iff (congrFun (congrFun (congrFun (congrFun (congrFun (congrFun (slices_partialInsertionSortCmpFunc_int.eq) t0) t1) t2) t3) K) h)).mp hp)

/-! ### slices.partitionEqualCmpFunc[int]: function 53 -/
abbrev slices_partitionEqualCmpFunc_int.id : FuncId := 53
def slices_partitionEqualCmpFunc_int.ann : Ann := (.seq none .leaf (.seq none .leaf (.seq none .leaf (.seq none (.block (.loop [0, 1, 4, 11, 12] (.block (.seq none (.block (.loop [0, 1, 4, 11, 12] (.seq none (.seq none .leaf (.cond .leaf .leaf)) (.block .leaf)))) (.seq none (.block (.loop [0, 1, 4, 11, 12] (.seq none (.seq none .leaf (.cond .leaf .leaf)) (.block .leaf)))) (.seq none (.seq none .leaf (.cond .leaf .leaf)) (.seq none .leaf (.seq none .leaf .leaf)))))))) (.seq none .leaf .leaf)))))
set_option maxRecDepth 100000 in
def slices_partitionEqualCmpFunc_int.pt (t0 t1 t2 t3 t4 : Value) (K : Ret) (h : Heap) : Prop :=
 go (Idx 1 t0 t3) h fun t19 h =>
 go (Ld t19) h fun t20 h =>
 go (Idx 1 t0 t1) h fun t23 h =>
 go (Ld t23) h fun t24 h =>
 go (Idx 1 t0 t1) h fun t25 h =>
 go (St t25 t20) h fun _ h =>
 go (Idx 1 t0 t3) h fun t26 h =>
 go (St t26 t24) h fun _ h =>
 go (Bin .int .add t1 (.int .i64 1)) h fun t28 h =>
 go (Bin .int .sub t2 (.int .i64 1)) h fun t30 h =>
 Lp 5 (fun X1 t0_1 t1_1 t4_1 t11 t12 h =>
 Lp 5 (fun X2 t0_2 t1_2 t4_2 t11_1 t12_1 h =>
 go (Bin .int .leq t11_1 t12_1) h fun t33 h =>
 go (Gd t33 true (Mv t4_2)) h fun t35 h =>
 go (Gd t33 true (Mv t0_2)) h fun t36 h =>
 go (Gd t33 true (Mv t1_2)) h fun t37 h =>
 go (Gd t33 true (Idx 1 t36 t37)) h fun t38 h =>
 go (Gd t33 true (Ld t38)) h fun t39 h =>
 go (Gd t33 true (Mv t0_2)) h fun t40 h =>
 go (Gd t33 true (Mv t11_1)) h fun t41 h =>
 go (Gd t33 true (Idx 1 t40 t41)) h fun t42 h =>
 go (Gd t33 true (Ld t42)) h fun t43 h =>
 go (Gd t33 true (CallV Try.prog t35 [t39, t43])) h fun t44 h =>
 go (Gd t33 true (Bin .int .lss t44 (.int .i64 0))) h fun t45 h =>
 go (Gd t33 true (Un .not t45)) h fun t46 h =>
 go (Pick t33 t46 (.bool false)) h fun t47 h =>
 If t47 (
 go (Bin .int .add t11_1 (.int .i64 1)) h fun t49 h =>
 X2 t0_2 t1_2 t4_2 t49 t12_1 h) (
 Lp 5 (fun X3 t0_3 t1_3 t4_3 t11_2 t12_2 h =>
 go (Bin .int .leq t11_2 t12_2) h fun t52 h =>
 go (Gd t52 true (Mv t4_3)) h fun t54 h =>
 go (Gd t52 true (Mv t0_3)) h fun t55 h =>
 go (Gd t52 true (Mv t1_3)) h fun t56 h =>
 go (Gd t52 true (Idx 1 t55 t56)) h fun t57 h =>
 go (Gd t52 true (Ld t57)) h fun t58 h =>
 go (Gd t52 true (Mv t0_3)) h fun t59 h =>
 go (Gd t52 true (Mv t12_2)) h fun t60 h =>
 go (Gd t52 true (Idx 1 t59 t60)) h fun t61 h =>
 go (Gd t52 true (Ld t61)) h fun t62 h =>
 go (Gd t52 true (CallV Try.prog t54 [t58, t62])) h fun t63 h =>
 go (Gd t52 true (Bin .int .lss t63 (.int .i64 0))) h fun t64 h =>
 go (Pick t52 t64 (.bool false)) h fun t65 h =>
 If t65 (
 go (Bin .int .sub t12_2 (.int .i64 1)) h fun t67 h =>
 X3 t0_3 t1_3 t4_3 t11_2 t67 h) (
 go (Bin .int .gtr t11_2 t12_2) h fun t70 h =>
 If t70 (
 K t11_2 h) (
 go (Idx 1 t0_3 t12_2) h fun t77 h =>
 go (Ld t77) h fun t78 h =>
 go (Idx 1 t0_3 t11_2) h fun t81 h =>
 go (Ld t81) h fun t82 h =>
 go (Idx 1 t0_3 t11_2) h fun t83 h =>
 go (St t83 t78) h fun _ h =>
 go (Idx 1 t0_3 t12_2) h fun t84 h =>
 go (St t84 t82) h fun _ h =>
 go (Bin .int .add t11_2 (.int .i64 1)) h fun t86 h =>
 go (Bin .int .sub t12_2 (.int .i64 1)) h fun t88 h =>
 X1 t0_3 t1_3 t4_3 t86 t88 h))) [t0_2, t1_2, t4_2, t11_1, t12_1] h)) [t0_1, t1_1, t4_1, t11, t12] h) [t0, t1, t4, t28, t30] h
set_option maxRecDepth 100000 in
theorem slices_partitionEqualCmpFunc_int.eq : (fun t0 t1 t2 t3 t4 K h => slices_partitionEqualCmpFunc_int.pt t0 t1 t2 t3 t4 K h : Value → Value → Value → Value → Value → Ret → Heap → Prop) = (fun t0 t1 t2 t3 t4 K h => fnPt Try.prog [18, 20, 21, 22, 23, 26, 27, 28, 30, 31, 32, 38, 39, 1000029] Try.f53 slices_partitionEqualCmpFunc_int.ann [t0, t1, t2, t3, t4] K h) := by kernel_rfl
set_option maxRecDepth 100000 in
theorem slices_partitionEqualCmpFunc_int.ok {t0 t1 t2 t3 t4 : Value} {K : Ret} {h : Heap} (hp : slices_partitionEqualCmpFunc_int.pt t0 t1 t2 t3 t4 K h) : CallH Try.prog 53 #[t0, t1, t2, t3, t4] K h :=
  fn_sound (qs := [18, 20, 21, 22, 23, 26, 27, 28, 30, 31, 32, 38, 39, 1000029]) (fn := Try.f53) (ann := slices_partitionEqualCmpFunc_int.ann) (args := [t0, t1, t2, t3, t4]) follows_mixed Try.func53 ((Eq.to_iff (congrFun (congrFun (congrFun (congrFun (congrFun (congrFun (congrFun (slices_partitionEqualCmpFunc_int.eq) t0) t1) t2) t3) t4) K) h)).mp hp)

/-! ### slices.partitionCmpFunc[int]: function 54 -/
abbrev slices_partitionCmpFunc_int.id : FuncId := 54
def slices_partitionCmpFunc_int.ann : Ann := (.seq none .leaf (.seq none .leaf (.seq none .leaf (.seq none (.block (.loop [0, 1, 4, 12, 13] (.seq none (.seq none .leaf (.cond .leaf .leaf)) (.block .leaf)))) (.seq none (.block (.loop [0, 1, 4, 12, 13] (.seq none (.seq none .leaf (.cond .leaf .leaf)) (.block .leaf)))) (.seq none (.seq none .leaf (.cond (.seq none .leaf (.seq none .leaf .leaf)) .leaf)) (.seq none .leaf (.seq none .leaf (.seq none .leaf (.seq none (.block (.loop [0, 1, 4, 12, 13] (.block (.seq none (.block (.loop [0, 1, 4, 12, 13] (.seq none (.seq none .leaf (.cond .leaf .leaf)) (.block .leaf)))) (.seq none (.block (.loop [0, 1, 4, 12, 13] (.seq none (.seq none .leaf (.cond .leaf .leaf)) (.block .leaf)))) (.seq none (.seq none .leaf (.cond .leaf .leaf)) (.seq none .leaf (.seq none .leaf .leaf)))))))) (.seq none .leaf (.seq none .leaf .leaf))))))))))))
set_option maxRecDepth 100000 in
def slices_partitionCmpFunc_int.pt (t0 t1 t2 t3 t4 : Value) (K : Ret) (h : Heap) : Prop :=
 go (Idx 1 t0 t3) h fun t20 h =>
 go (Ld t20) h fun t21 h =>
 go (Idx 1 t0 t1) h fun t24 h =>
 go (Ld t24) h fun t25 h =>
 go (Idx 1 t0 t1) h fun t26 h =>
 go (St t26 t21) h fun _ h =>
 go (Idx 1 t0 t3) h fun t27 h =>
 go (St t27 t25) h fun _ h =>
 go (Bin .int .add t1 (.int .i64 1)) h fun t29 h =>
 go (Bin .int .sub t2 (.int .i64 1)) h fun t31 h =>
 Lp 5 (fun X1 t0_1 t1_1 t4_1 t12 t13 h =>
 go (Bin .int .leq t12 t13) h fun t34 h =>
 go (Gd t34 true (Mv t4_1)) h fun t36 h =>
 go (Gd t34 true (Mv t0_1)) h fun t37 h =>
 go (Gd t34 true (Mv t12)) h fun t38 h =>
 go (Gd t34 true (Idx 1 t37 t38)) h fun t39 h =>
 go (Gd t34 true (Ld t39)) h fun t40 h =>
 go (Gd t34 true (Mv t0_1)) h fun t41 h =>
 go (Gd t34 true (Mv t1_1)) h fun t42 h =>
 go (Gd t34 true (Idx 1 t41 t42)) h fun t43 h =>
 go (Gd t34 true (Ld t43)) h fun t44 h =>
 go (Gd t34 true (CallV Try.prog t36 [t40, t44])) h fun t45 h =>
 go (Gd t34 true (Bin .int .lss t45 (.int .i64 0))) h fun t46 h =>
 go (Pick t34 t46 (.bool false)) h fun t47 h =>
 If t47 (
 go (Bin .int .add t12 (.int .i64 1)) h fun t49 h =>
 X1 t0_1 t1_1 t4_1 t49 t13 h) (
 Lp 5 (fun X2 t0_2 t1_2 t4_2 t12_1 t13_1 h =>
 go (Bin .int .leq t12_1 t13_1) h fun t52 h =>
 go (Gd t52 true (Mv t4_2)) h fun t54 h =>
 go (Gd t52 true (Mv t0_2)) h fun t55 h =>
 go (Gd t52 true (Mv t13_1)) h fun t56 h =>
 go (Gd t52 true (Idx 1 t55 t56)) h fun t57 h =>
 go (Gd t52 true (Ld t57)) h fun t58 h =>
 go (Gd t52 true (Mv t0_2)) h fun t59 h =>
 go (Gd t52 true (Mv t1_2)) h fun t60 h =>
 go (Gd t52 true (Idx 1 t59 t60)) h fun t61 h =>
 go (Gd t52 true (Ld t61)) h fun t62 h =>
 go (Gd t52 true (CallV Try.prog t54 [t58, t62])) h fun t63 h =>
 go (Gd t52 true (Bin .int .lss t63 (.int .i64 0))) h fun t64 h =>
 go (Gd t52 true (Un .not t64)) h fun t65 h =>
 go (Pick t52 t65 (.bool false)) h fun t66 h =>
 If t66 (
 go (Bin .int .sub t13_1 (.int .i64 1)) h fun t68 h =>
 X2 t0_2 t1_2 t4_2 t12_1 t68 h) (
 go (Bin .int .gtr t12_1 t13_1) h fun t71 h =>
 If t71 (
 go (Idx 1 t0_2 t1_2) h fun t78 h =>
 go (Ld t78) h fun t79 h =>
 go (Idx 1 t0_2 t13_1) h fun t82 h =>
 go (Ld t82) h fun t83 h =>
 go (Idx 1 t0_2 t13_1) h fun t84 h =>
 go (St t84 t79) h fun _ h =>
 go (Idx 1 t0_2 t1_2) h fun t85 h =>
 go (St t85 t83) h fun _ h =>
 K (.tuple #[t13_1, (.bool true)]) h) (
 go (Idx 1 t0_2 t13_1) h fun t93 h =>
 go (Ld t93) h fun t94 h =>
 go (Idx 1 t0_2 t12_1) h fun t97 h =>
 go (Ld t97) h fun t98 h =>
 go (Idx 1 t0_2 t12_1) h fun t99 h =>
 go (St t99 t94) h fun _ h =>
 go (Idx 1 t0_2 t13_1) h fun t100 h =>
 go (St t100 t98) h fun _ h =>
 go (Bin .int .add t12_1 (.int .i64 1)) h fun t102 h =>
 go (Bin .int .sub t13_1 (.int .i64 1)) h fun t104 h =>
 Lp 5 (fun X3 t0_3 t1_3 t4_3 t12_2 t13_2 h =>
 Lp 5 (fun X4 t0_4 t1_4 t4_4 t12_3 t13_3 h =>
 go (Bin .int .leq t12_3 t13_3) h fun t107 h =>
 go (Gd t107 true (Mv t4_4)) h fun t109 h =>
 go (Gd t107 true (Mv t0_4)) h fun t110 h =>
 go (Gd t107 true (Mv t12_3)) h fun t111 h =>
 go (Gd t107 true (Idx 1 t110 t111)) h fun t112 h =>
 go (Gd t107 true (Ld t112)) h fun t113 h =>
 go (Gd t107 true (Mv t0_4)) h fun t114 h =>
 go (Gd t107 true (Mv t1_4)) h fun t115 h =>
 go (Gd t107 true (Idx 1 t114 t115)) h fun t116 h =>
 go (Gd t107 true (Ld t116)) h fun t117 h =>
 go (Gd t107 true (CallV Try.prog t109 [t113, t117])) h fun t118 h =>
 go (Gd t107 true (Bin .int .lss t118 (.int .i64 0))) h fun t119 h =>
 go (Pick t107 t119 (.bool false)) h fun t120 h =>
 If t120 (
 go (Bin .int .add t12_3 (.int .i64 1)) h fun t122 h =>
 X4 t0_4 t1_4 t4_4 t122 t13_3 h) (
 Lp 5 (fun X5 t0_5 t1_5 t4_5 t12_4 t13_4 h =>
 go (Bin .int .leq t12_4 t13_4) h fun t125 h =>
 go (Gd t125 true (Mv t4_5)) h fun t127 h =>
 go (Gd t125 true (Mv t0_5)) h fun t128 h =>
 go (Gd t125 true (Mv t13_4)) h fun t129 h =>
 go (Gd t125 true (Idx 1 t128 t129)) h fun t130 h =>
 go (Gd t125 true (Ld t130)) h fun t131 h =>
 go (Gd t125 true (Mv t0_5)) h fun t132 h =>
 go (Gd t125 true (Mv t1_5)) h fun t133 h =>
 go (Gd t125 true (Idx 1 t132 t133)) h fun t134 h =>
 go (Gd t125 true (Ld t134)) h fun t135 h =>
 go (Gd t125 true (CallV Try.prog t127 [t131, t135])) h fun t136 h =>
 go (Gd t125 true (Bin .int .lss t136 (.int .i64 0))) h fun t137 h =>
 go (Gd t125 true (Un .not t137)) h fun t138 h =>
 go (Pick t125 t138 (.bool false)) h fun t139 h =>
 If t139 (
 go (Bin .int .sub t13_4 (.int .i64 1)) h fun t141 h =>
 X5 t0_5 t1_5 t4_5 t12_4 t141 h) (
 go (Bin .int .gtr t12_4 t13_4) h fun t144 h =>
 If t144 (
 go (Idx 1 t0_5 t1_5) h fun t169 h =>
 go (Ld t169) h fun t170 h =>
 go (Idx 1 t0_5 t13_4) h fun t173 h =>
 go (Ld t173) h fun t174 h =>
 go (Idx 1 t0_5 t13_4) h fun t175 h =>
 go (St t175 t170) h fun _ h =>
 go (Idx 1 t0_5 t1_5) h fun t176 h =>
 go (St t176 t174) h fun _ h =>
 K (.tuple #[t13_4, (.bool false)]) h) (
 go (Idx 1 t0_5 t13_4) h fun t151 h =>
 go (Ld t151) h fun t152 h =>
 go (Idx 1 t0_5 t12_4) h fun t155 h =>
 go (Ld t155) h fun t156 h =>
 go (Idx 1 t0_5 t12_4) h fun t157 h =>
 go (St t157 t152) h fun _ h =>
 go (Idx 1 t0_5 t13_4) h fun t158 h =>
 go (St t158 t156) h fun _ h =>
 go (Bin .int .add t12_4 (.int .i64 1)) h fun t160 h =>
 go (Bin .int .sub t13_4 (.int .i64 1)) h fun t162 h =>
 X3 t0_5 t1_5 t4_5 t160 t162 h))) [t0_4, t1_4, t4_4, t12_3, t13_3] h)) [t0_3, t1_3, t4_3, t12_2, t13_2] h) [t0_2, t1_2, t4_2, t102, t104] h))) [t0_1, t1_1, t4_1, t12, t13] h)) [t0, t1, t4, t29, t31] h
set_option maxRecDepth 100000 in
theorem slices_partitionCmpFunc_int.eq : (fun t0 t1 t2 t3 t4 K h => slices_partitionCmpFunc_int.pt t0 t1 t2 t3 t4 K h : Value → Value → Value → Value → Value → Ret → Heap → Prop) = (fun t0 t1 t2 t3 t4 K h => fnPt Try.prog [18, 20, 21, 22, 23, 26, 27, 28, 30, 31, 32, 38, 39, 1000029] Try.f54 slices_partitionCmpFunc_int.ann [t0, t1, t2, t3, t4] K h) := by kernel_rfl
set_option maxRecDepth 100000 in
theorem slices_partitionCmpFunc_int.ok {t0 t1 t2 t3 t4 : Value} {K : Ret} {h : Heap} (hp : slices_partitionCmpFunc_int.pt t0 t1 t2 t3 t4 K h) : CallH Try.prog 54 #[t0, t1, t2, t3, t4] K h :=
  fn_sound (qs := [18, 20, 21, 22, 23, 26, 27, 28, 30, 31, 32, 38, 39, 1000029]) (fn := Try.f54) (ann := slices_partitionCmpFunc_int.ann) (args := [t0, t1, t2, t3, t4]) follows_mixed Try.func54 ((Eq.to_iff (congrFun (congrFun (congrFun (congrFun (congrFun (congrFun (congrFun (slices_partitionCmpFunc_int.eq) t0) t1) t2) t3) t4) K) h)).mp hp)

/-! ### math/bits.Len64: function 56 -/
abbrev bits_Len64.id : FuncId := 56
def bits_Len64.ann : Ann := (.seq none .leaf (.seq (some [0, 2]) (.seq none .leaf (.cond (.seq none .leaf .leaf) .leaf)) (.seq (some [0, 2]) (.seq none .leaf (.cond (.seq none .leaf .leaf) .leaf)) (.seq (some [0, 2]) (.seq none .leaf (.cond (.seq none .leaf .leaf) .leaf)) (.seq none .leaf .leaf)))))
set_option maxRecDepth 100000 in
def bits_Len64.pt (t0 : Value) (K : Ret) (h : Heap) : Prop :=
 Join 2 (fun J1 =>
 go (Bin .int .geq t0 (.int .u64 4294967296)) h fun t4 h =>
 If t4 (
 go (Bin .int .shr t0 (.int .u64 32)) h fun t6 h =>
 J1 t6 (.int .i64 32) h) (
 J1 t0 (.int .i64 0) h)) (fun t0_1 t2 h =>
 Join 2 (fun J2 =>
 go (Bin .int .geq t0_1 (.int .u64 65536)) h fun t8 h =>
 If t8 (
 go (Bin .int .shr t0_1 (.int .u64 16)) h fun t10 h =>
 go (Bin .int .add t2 (.int .i64 16)) h fun t12 h =>
 J2 t10 t12 h) (
 J2 t0_1 t2 h)) (fun t0_2 t2_1 h =>
 Join 2 (fun J3 =>
 go (Bin .int .geq t0_2 (.int .u64 256)) h fun t14 h =>
 If t14 (
 go (Bin .int .shr t0_2 (.int .u64 8)) h fun t16 h =>
 go (Bin .int .add t2_1 (.int .i64 8)) h fun t18 h =>
 J3 t16 t18 h) (
 J3 t0_2 t2_1 h)) (fun t0_3 t2_2 h =>
 go (Cvt .u8 t0_3) h fun t21 h =>
 go (IdxS (.string ⟨#[0, 1, 2, 2, 3, 3, 3, 3, 4, 4, 4, 4, 4, 4, 4, 4, 5, 5, 5, 5, 5, 5, 5, 5, 5, 5, 5, 5, 5, 5, 5, 5, 6, 6, 6, 6, 6, 6, 6, 6, 6, 6, 6, 6, 6, 6, 6, 6, 6, 6, 6, 6, 6, 6, 6, 6, 6, 6, 6, 6, 6, 6, 6, 6, 7, 7, 7, 7, 7, 7, 7, 7, 7, 7, 7, 7, 7, 7, 7, 7, 7, 7, 7, 7, 7, 7, 7, 7, 7, 7, 7, 7, 7, 7, 7, 7, 7, 7, 7, 7, 7, 7, 7, 7, 7, 7, 7, 7, 7, 7, 7, 7, 7, 7, 7, 7, 7, 7, 7, 7, 7, 7, 7, 7, 7, 7, 7, 7, 8, 8, 8, 8, 8, 8, 8, 8, 8, 8, 8, 8, 8, 8, 8, 8, 8, 8, 8, 8, 8, 8, 8, 8, 8, 8, 8, 8, 8, 8, 8, 8, 8, 8, 8, 8, 8, 8, 8, 8, 8, 8, 8, 8, 8, 8, 8, 8, 8, 8, 8, 8, 8, 8, 8, 8, 8, 8, 8, 8, 8, 8, 8, 8, 8, 8, 8, 8, 8, 8, 8, 8, 8, 8, 8, 8, 8, 8, 8, 8, 8, 8, 8, 8, 8, 8, 8, 8, 8, 8, 8, 8, 8, 8, 8, 8, 8, 8, 8, 8, 8, 8, 8, 8, 8, 8, 8, 8, 8, 8, 8, 8, 8, 8, 8, 8, 8, 8, 8, 8, 8, 8, 8, 8, 8, 8, 8, 8]⟩) t21) h fun t22 h =>
 go (Cvt .i64 t22) h fun t23 h =>
 go (Bin .int .add t2_2 t23) h fun t24 h =>
 K t24 h)))
set_option maxRecDepth 100000 in
theorem bits_Len64.eq : (fun t0 K h => bits_Len64.pt t0 K h : Value → Ret → Heap → Prop) = (fun t0 K h => fnPt Try.prog [18, 20, 21, 22, 23, 26, 27, 28, 30, 31, 32, 38, 39, 1000029] Try.f56 bits_Len64.ann [t0] K h) := by kernel_rfl
set_option maxRecDepth 100000 in
theorem bits_Len64.ok {t0 : Value} {K : Ret} {h : Heap} (hp : bits_Len64.pt t0 K h) : CallH Try.prog 56 #[t0] K h :=
  fn_sound (qs := [18, 20, 21, 22, 23, 26, 27, 28, 30, 31, 32, 38, 39, 1000029]) (fn := Try.f56) (ann := bits_Len64.ann) (args := [t0]) follows_mixed Try.func56 ((Eq.to_iff (congrFun (congrFun (congrFun (bits_Len64.eq) t0) K) h)).mp hp)

/-! ### cmp.isNaN[int]: function 57 -/
abbrev cmp_isNaN_int.id : FuncId := 57
def cmp_isNaN_int.ann : Ann := (.seq none .leaf (.seq none .leaf .leaf))
set_option maxRecDepth 100000 in
def cmp_isNaN_int.pt (t0 : Value) (K : Ret) (h : Heap) : Prop :=
 go (Bin .int .neq t0 t0) h fun t5 h =>
 K t5 h
set_option maxRecDepth 100000 in
theorem cmp_isNaN_int.eq : (fun t0 K h => cmp_isNaN_int.pt t0 K h : Value → Ret → Heap → Prop) = (fun t0 K h => fnPt Try.prog [18, 20, 21, 22, 23, 26, 27, 28, 30, 31, 32, 38, 39, 1000029] Try.f57 cmp_isNaN_int.ann [t0] K h) := by kernel_rfl
set_option maxRecDepth 100000 in
theorem cmp_isNaN_int.ok {t0 : Value} {K : Ret} {h : Heap} (hp : cmp_isNaN_int.pt t0 K h) : CallH Try.prog 57 #[t0] K h :=
  fn_sound (qs := [18, 20, 21, 22, 23, 26, 27, 28, 30, 31, 32, 38, 39, 1000029]) (fn := Try.f57) (ann := cmp_isNaN_int.ann) (args := [t0]) follows_mixed Try.func57 ((Eq.to_iff (congrFun (congrFun (congrFun (cmp_isNaN_int.eq) t0) K) h)).mp hp)

/-! ### slices.siftDownCmpFunc[int]: function 58 -/
abbrev slices_siftDownCmpFunc_int.id : FuncId := 58
def slices_siftDownCmpFunc_int.ann : Ann := (.seq none .leaf (.block (.loop [0, 2, 3, 4, 10] (.block (.seq none .leaf (.seq none (.seq none .leaf (.cond .leaf .leaf)) (.seq (some [0, 2, 3, 4, 10, 11]) (.seq none .leaf (.cond .leaf .leaf)) (.seq none (.seq none .leaf (.cond .leaf .leaf)) (.seq none .leaf .leaf)))))))))
set_option maxRecDepth 100000 in
def slices_siftDownCmpFunc_int.pt (t0 t1 t2 t3 t4 : Value) (K : Ret) (h : Heap) : Prop :=
 Lp 5 (fun X1 t0_1 t2_1 t3_1 t4_1 t10 h =>
 go (Bin .int .mul (.int .i64 2) t10) h fun t14 h =>
 go (Bin .int .add t14 (.int .i64 1)) h fun t15 h =>
 go (Bin .int .geq t15 t2_1) h fun t18 h =>
 If t18 (
 K (.tuple #[]) h) (
 Join 6 (fun J2 =>
 go (Bin .int .add t15 (.int .i64 1)) h fun t20 h =>
 go (Bin .int .lss t20 t2_1) h fun t22 h =>
 go (Gd t22 true (Mv t4_1)) h fun t24 h =>
 go (Gd t22 true (Mv t0_1)) h fun t25 h =>
 go (Gd t22 true (Mv t3_1)) h fun t26 h =>
 go (Gd t22 true (Mv t15)) h fun t27 h =>
 go (Gd t22 true (Bin .int .add t26 t27)) h fun t28 h =>
 go (Gd t22 true (Idx 1 t25 t28)) h fun t29 h =>
 go (Gd t22 true (Ld t29)) h fun t30 h =>
 go (Gd t22 true (Mv t0_1)) h fun t31 h =>
 go (Gd t22 true (Mv t3_1)) h fun t32 h =>
 go (Gd t22 true (Mv t15)) h fun t33 h =>
 go (Gd t22 true (Bin .int .add t32 t33)) h fun t34 h =>
 go (Gd t22 true (Bin .int .add t34 (.int .i64 1))) h fun t35 h =>
 go (Gd t22 true (Idx 1 t31 t35)) h fun t36 h =>
 go (Gd t22 true (Ld t36)) h fun t37 h =>
 go (Gd t22 true (CallV Try.prog t24 [t30, t37])) h fun t38 h =>
 go (Gd t22 true (Bin .int .lss t38 (.int .i64 0))) h fun t39 h =>
 go (Pick t22 t39 (.bool false)) h fun t40 h =>
 If t40 (
 go (Bin .int .add t15 (.int .i64 1)) h fun t42 h =>
 J2 t0_1 t2_1 t3_1 t4_1 t10 t42 h) (
 J2 t0_1 t2_1 t3_1 t4_1 t10 t15 h)) (fun t0_2 t2_2 t3_2 t4_2 t10_1 t11 h =>
 go (Bin .int .add t3_2 t10_1) h fun t47 h =>
 go (Idx 1 t0_2 t47) h fun t48 h =>
 go (Ld t48) h fun t49 h =>
 go (Bin .int .add t3_2 t11) h fun t53 h =>
 go (Idx 1 t0_2 t53) h fun t54 h =>
 go (Ld t54) h fun t55 h =>
 go (CallV Try.prog t4_2 [t49, t55]) h fun t56 h =>
 go (Bin .int .lss t56 (.int .i64 0)) h fun t57 h =>
 go (Un .not t57) h fun t58 h =>
 If t58 (
 K (.tuple #[]) h) (
 go (Bin .int .add t3_2 t10_1) h fun t62 h =>
 go (Bin .int .add t3_2 t11) h fun t66 h =>
 go (Bin .int .add t3_2 t11) h fun t70 h =>
 go (Idx 1 t0_2 t70) h fun t71 h =>
 go (Ld t71) h fun t72 h =>
 go (Bin .int .add t3_2 t10_1) h fun t76 h =>
 go (Idx 1 t0_2 t76) h fun t77 h =>
 go (Ld t77) h fun t78 h =>
 go (Idx 1 t0_2 t62) h fun t79 h =>
 go (St t79 t72) h fun _ h =>
 go (Idx 1 t0_2 t66) h fun t80 h =>
 go (St t80 t78) h fun _ h =>
 X1 t0_2 t2_2 t3_2 t4_2 t11 h)))) [t0, t2, t3, t4, t1] h
set_option maxRecDepth 100000 in
theorem slices_siftDownCmpFunc_int.eq : (fun t0 t1 t2 t3 t4 K h => slices_siftDownCmpFunc_int.pt t0 t1 t2 t3 t4 K h : Value → Value → Value → Value → Value → Ret → Heap → Prop) = (fun t0 t1 t2 t3 t4 K h => fnPt Try.prog [18, 20, 21, 22, 23, 26, 27, 28, 30, 31, 32, 38, 39, 1000029] Try.f58 slices_siftDownCmpFunc_int.ann [t0, t1, t2, t3, t4] K h) := by kernel_rfl
set_option maxRecDepth 100000 in
theorem slices_siftDownCmpFunc_int.ok {t0 t1 t2 t3 t4 : Value} {K : Ret} {h : Heap} (hp : slices_siftDownCmpFunc_int.pt t0 t1 t2 t3 t4 K h) : CallH Try.prog 58 #[t0, t1, t2, t3, t4] K h :=
  fn_sound (qs := [18, 20, 21, 22, 23, 26, 27, 28, 30, 31, 32, 38, 39, 1000029]) (fn := Try.f58) (ann := slices_siftDownCmpFunc_int.ann) (args := [t0, t1, t2, t3, t4]) follows_mixed Try.func58 ((Eq.to_iff (congrFun (congrFun (congrFun (congrFun (congrFun (congrFun (congrFun (slices_siftDownCmpFunc_int.eq) t0) t1) t2) t3) t4) K) h)).mp hp)

/-! ### slices.nextPowerOfTwo: function 59 -/
abbrev slices_nextPowerOfTwo.id : FuncId := 59
def slices_nextPowerOfTwo.ann : Ann := (.seq none .leaf (.seq none .leaf .leaf))
set_option maxRecDepth 100000 in
def slices_nextPowerOfTwo.pt (t0 : Value) (K : Ret) (h : Heap) : Prop :=
 go (Cvt .u64 t0) h fun t4 h =>
 go (CallF Try.prog 45 [t4]) h fun t5 h =>
 go (Bin .int .shl (.int .u64 1) t5) h fun t6 h =>
 K t6 h
set_option maxRecDepth 100000 in
theorem slices_nextPowerOfTwo.eq : (fun t0 K h => slices_nextPowerOfTwo.pt t0 K h : Value → Ret → Heap → Prop) = (fun t0 K h => fnPt Try.prog [18, 20, 21, 22, 23, 26, 27, 28, 30, 31, 32, 38, 39, 1000029] Try.f59 slices_nextPowerOfTwo.ann [t0] K h) := by kernel_rfl
set_option maxRecDepth 100000 in
theorem slices_nextPowerOfTwo.ok {t0 : Value} {K : Ret} {h : Heap} (hp : slices_nextPowerOfTwo.pt t0 K h) : CallH Try.prog 59 #[t0] K h :=
  fn_sound (qs := [18, 20, 21, 22, 23, 26, 27, 28, 30, 31, 32, 38, 39, 1000029]) (fn := Try.f59) (ann := slices_nextPowerOfTwo.ann) (args := [t0]) follows_mixed Try.func59 ((Eq.to_iff (congrFun (congrFun (congrFun (slices_nextPowerOfTwo.eq) t0) K) h)).mp hp)

/-! ### (*slices.xorshift).Next: function 60 -/
abbrev slices_xorshift_Next.id : FuncId := 60
def slices_xorshift_Next.ann : Ann := (.seq none .leaf (.seq none .leaf (.seq none .leaf (.seq none .leaf (.seq none .leaf .leaf)))))
set_option maxRecDepth 100000 in
def slices_xorshift_Next.pt (t0 : Value) (K : Ret) (h : Heap) : Prop :=
 go (NilC t0) h fun t4 h =>
 go (Ld t4) h fun t5 h =>
 go (NilC t0) h fun t7 h =>
 go (Ld t7) h fun t8 h =>
 go (Bin .int .shl t8 (.int .u64 13)) h fun t9 h =>
 go (Bin .int .xor t5 t9) h fun t10 h =>
 go (NilC t0) h fun t11 h =>
 go (St t11 t10) h fun _ h =>
 go (NilC t0) h fun t13 h =>
 go (Ld t13) h fun t14 h =>
 go (NilC t0) h fun t16 h =>
 go (Ld t16) h fun t17 h =>
 go (Bin .int .shr t17 (.int .u64 7)) h fun t18 h =>
 go (Bin .int .xor t14 t18) h fun t19 h =>
 go (NilC t0) h fun t20 h =>
 go (St t20 t19) h fun _ h =>
 go (NilC t0) h fun t22 h =>
 go (Ld t22) h fun t23 h =>
 go (NilC t0) h fun t25 h =>
 go (Ld t25) h fun t26 h =>
 go (Bin .int .shl t26 (.int .u64 17)) h fun t27 h =>
 go (Bin .int .xor t23 t27) h fun t28 h =>
 go (NilC t0) h fun t29 h =>
 go (St t29 t28) h fun _ h =>
 go (NilC t0) h fun t31 h =>
 go (Ld t31) h fun t32 h =>
 K t32 h
set_option maxRecDepth 100000 in
theorem slices_xorshift_Next.eq : (fun t0 K h => slices_xorshift_Next.pt t0 K h : Value → Ret → Heap → Prop) = (fun t0 K h => fnPt Try.prog [18, 20, 21, 22, 23, 26, 27, 28, 30, 31, 32, 38, 39, 1000029] Try.f60 slices_xorshift_Next.ann [t0] K h) := by kernel_rfl
set_option maxRecDepth 100000 in
theorem slices_xorshift_Next.ok {t0 : Value} {K : Ret} {h : Heap} (hp : slices_xorshift_Next.pt t0 K h) : CallH Try.prog 60 #[t0] K h :=
  fn_sound (qs := [18, 20, 21, 22, 23, 26, 27, 28, 30, 31, 32, 38, 39, 1000029]) (fn := Try.f60) (ann := slices_xorshift_Next.ann) (args := [t0]) follows_mixed Try.func60 ((Eq.to_iff (congrFun (congrFun (congrFun (slices_xorshift_Next.eq) t0) K) h)).mp hp)

/-! ### slices.medianAdjacentCmpFunc[int]: function 61 -/
abbrev slices_medianAdjacentCmpFunc_int.id : FuncId := 61
def slices_medianAdjacentCmpFunc_int.ann : Ann := (.seq none .leaf (.seq none .leaf .leaf))
set_option maxRecDepth 100000 in
def slices_medianAdjacentCmpFunc_int.pt (t0 t1 t2 t3 : Value) (K : Ret) (h : Heap) : Prop :=
 go (Bin .int .sub t1 (.int .i64 1)) h fun t11 h =>
 go (Bin .int .add t1 (.int .i64 1)) h fun t14 h =>
 go (CallF Try.prog 62 [t0, t11, t1, t14, t2, t3]) h fun t17 h =>
 K t17 h
set_option maxRecDepth 100000 in
theorem slices_medianAdjacentCmpFunc_int.eq : (fun t0 t1 t2 t3 K h => slices_medianAdjacentCmpFunc_int.pt t0 t1 t2 t3 K h : Value → Value → Value → Value → Ret → Heap → Prop) = (fun t0 t1 t2 t3 K h => fnPt Try.prog [18, 20, 21, 22, 23, 26, 27, 28, 30, 31, 32, 38, 39, 1000029] Try.f61 slices_medianAdjacentCmpFunc_int.ann [t0, t1, t2, t3] K h) := by kernel_rfl
set_option maxRecDepth 100000 in
theorem slices_medianAdjacentCmpFunc_int.ok {t0 t1 t2 t3 : Value} {K : Ret} {h : Heap} (hp : slices_medianAdjacentCmpFunc_int.pt t0 t1 t2 t3 K h) : CallH Try.prog 61 #[t0, t1, t2, t3] K h :=
  fn_sound (qs := [18, 20, 21, 22, 23, 26, 27, 28, 30, 31, 32, 38, 39, 1000029]) (fn := Try.f61) (ann := slices_medianAdjacentCmpFunc_int.ann) (args := [t0, t1, t2, t3]) follows_mixed Try.func61 ((Eq.to_iff (congrFun (congrFun (congrFun (congrFun (congrFun (congrFun (slices_medianAdjacentCmpFunc_int.eq) t0) t1) t2) t3) K) h)).mp hp)

/-! ### slices.medianCmpFunc[int]: function 62 -/
abbrev slices_medianCmpFunc_int.id : FuncId := 62
def slices_medianCmpFunc_int.ann : Ann := (.seq none .leaf (.seq none .leaf (.seq none .leaf (.seq none .leaf (.seq none .leaf .leaf)))))
set_option maxRecDepth 100000 in
def slices_medianCmpFunc_int.pt (t0 t1 t2 t3 t4 t5 : Value) (K : Ret) (h : Heap) : Prop :=
 go (CallF Try.prog 63 [t0, t1, t2, t4, t5]) h fun t19 h =>
 go (Ext 0 t19) h fun t20 h =>
 go (Ext 1 t19) h fun t21 h =>
 go (CallF Try.prog 63 [t0, t21, t3, t4, t5]) h fun t28 h =>
 go (Ext 0 t28) h fun t29 h =>
 go (Ext 1 t28) h fun t30 h =>
 go (CallF Try.prog 63 [t0, t20, t29, t4, t5]) h fun t37 h =>
 go (Ext 0 t37) h fun t38 h =>
 go (Ext 1 t37) h fun t39 h =>
 K t39 h
set_option maxRecDepth 100000 in
theorem slices_medianCmpFunc_int.eq : (fun t0 t1 t2 t3 t4 t5 K h => slices_medianCmpFunc_int.pt t0 t1 t2 t3 t4 t5 K h : Value → Value → Value → Value → Value → Value → Ret → Heap → Prop) = (fun t0 t1 t2 t3 t4 t5 K h => fnPt Try.prog [18, 20, 21, 22, 23, 26, 27, 28, 30, 31, 32, 38, 39, 1000029] Try.f62 slices_medianCmpFunc_int.ann [t0, t1, t2, t3, t4, t5] K h) := by kernel_rfl
set_option maxRecDepth 100000 in
theorem slices_medianCmpFunc_int.ok {t0 t1 t2 t3 t4 t5 : Value} {K : Ret} {h : Heap} (hp : slices_medianCmpFunc_int.pt t0 t1 t2 t3 t4 t5 K h) : CallH Try.prog 62 #[t0, t1, t2, t3, t4, t5] K h :=
  fn_sound (qs := [18, 20, 21, 22, 23, 26, 27, 28, 30, 31, 32, 38, 39, 1000029]) (fn := Try.f62) (ann := slices_medianCmpFunc_int.ann) (args := [t0, t1, t2, t3, t4, t5]) follows_mixed Try.func62 ((Eq.to_iff (congrFun (congrFun (congrFun (congrFun (congrFun (congrFun (congrFun (congrFun (slices_medianCmpFunc_int.eq) t0) t1) t2) t3) t4) t5) K) h)).mp hp)

/-! ### slices.order2CmpFunc[int]: function 63 -/
abbrev slices_order2CmpFunc_int.id : FuncId := 63
def slices_order2CmpFunc_int.ann : Ann := (.seq none .leaf (.seq none (.seq none .leaf (.cond (.seq none .leaf (.seq none .leaf .leaf)) .leaf)) (.seq none .leaf .leaf)))
set_option maxRecDepth 100000 in
def slices_order2CmpFunc_int.pt (t0 t1 t2 t3 t4 : Value) (K : Ret) (h : Heap) : Prop :=
 go (Idx 1 t0 t2) h fun t15 h =>
 go (Ld t15) h fun t16 h =>
 go (Idx 1 t0 t1) h fun t19 h =>
 go (Ld t19) h fun t20 h =>
 go (CallV Try.prog t4 [t16, t20]) h fun t21 h =>
 go (Bin .int .lss t21 (.int .i64 0)) h fun t22 h =>
 If t22 (
 go (NilC t3) h fun t24 h =>
 go (Ld t24) h fun t25 h =>
 go (Bin .int .add t25 (.int .i64 1)) h fun t26 h =>
 go (NilC t3) h fun t27 h =>
 go (St t27 t26) h fun _ h =>
 K (.tuple #[t2, t1]) h) (
 K (.tuple #[t1, t2]) h)
set_option maxRecDepth 100000 in
theorem slices_order2CmpFunc_int.eq : (fun t0 t1 t2 t3 t4 K h => slices_order2CmpFunc_int.pt t0 t1 t2 t3 t4 K h : Value → Value → Value → Value → Value → Ret → Heap → Prop) = (fun t0 t1 t2 t3 t4 K h => fnPt Try.prog [18, 20, 21, 22, 23, 26, 27, 28, 30, 31, 32, 38, 39, 1000029] Try.f63 slices_order2CmpFunc_int.ann [t0, t1, t2, t3, t4] K h) := by kernel_rfl
set_option maxRecDepth 100000 in
theorem slices_order2CmpFunc_int.ok {t0 t1 t2 t3 t4 : Value} {K : Ret} {h : Heap} (hp : slices_order2CmpFunc_int.pt t0 t1 t2 t3 t4 K h) : CallH Try.prog 63 #[t0, t1, t2, t3, t4] K h :=
  fn_sound (qs := [18, 20, 21, 22, 23, 26, 27, 28, 30, 31, 32, 38, 39, 1000029]) (fn := Try.f63) (ann := slices_order2CmpFunc_int.ann) (args := [t0, t1, t2, t3, t4]) follows_mixed Try.func63 ((Eq.to_iff (congrFun (congrFun (congrFun (congrFun (congrFun (congrFun (congrFun (slices_order2CmpFunc_int.eq) t0) t1) t2) t3) t4) K) h)).mp hp)

end Go.Proofs.Ytonihbbpfliihaa
