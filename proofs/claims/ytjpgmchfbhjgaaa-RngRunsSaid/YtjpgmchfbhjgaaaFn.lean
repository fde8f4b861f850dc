/- What each Go function asks, in the primitives of Pt; written by a program of mine (ptgen.py) out of the translation; Lean checks that it is so. -/
import Derived.Test.YtjpgmchfbhjgaaaProg
import Derived.KernelRfl
import Derived.Test.YtjpgmchfbhjgaaaPtO
namespace Go.Proofs.Ytjpgmchfbhjgaaa
open Go.Pt
set_option linter.unusedVariables false
theorem follows_mixed : Try.prog.follows .mixedOrders = true := by kernel_rfl
/-! ### bradawl/bradawllaw09.RngAgrees: function 3 -/
abbrev bradawllaw09_RngAgrees.id : FuncId := 3
def bradawllaw09_RngAgrees.ann : Ann := (.seq none .leaf (.seq none (.seq none .leaf (.cond (.seq none .leaf .leaf) .leaf)) (.seq none (.seq none .leaf (.cond (.seq none .leaf .leaf) .leaf)) (.seq none .leaf (.seq none .leaf (.seq none (.seq none .leaf (.block (.loop [0, 1, 7, 8, 9] (.seq none (.seq none .leaf (.cond .leaf .leaf)) (.seq none (.block .leaf) .leaf))))) (.seq none .leaf (.seq none (.seq none .leaf (.block (.loop [0, 7, 8, 10, 11, 48, 49] (.seq none .leaf (.seq none (.cond .leaf .leaf) (.seq none (.block (.seq none .leaf .leaf)) .leaf)))))) (.seq none (.seq none .leaf (.block (.loop [0, 8, 10, 11, 56, 57] (.seq none .leaf (.seq none (.cond .leaf .leaf) (.seq none (.block (.seq none .leaf (.cond (.seq none .leaf .leaf) .leaf))) .leaf)))))) (.seq none .leaf .leaf))))))))))
def bradawllaw09_RngAgrees.pt (t0 t1 t2 : Value) (K : Ret) (h : Heap) : Prop :=
 go (CallF Try.prog 7 []) h fun t13 h =>
 go (Un .not t13) h fun t14 h =>
 If t14 (
 K (.bool false) h) (
 go (Len t0) h fun t16 h =>
 go (Bin .int .gtr t16 (.int .i64 60)) h fun t17 h =>
 If t17 (
 K (.bool true) h) (
 go (App 23 1 8 #[(.int .u64 0)] (.slice none 0 0) t0) h fun t19 h =>
 go (Cvt .i64 t2) h fun t21 h =>
 go (Len t0) h fun t23 h =>
 go (Bin .int .add t23 (.int .i64 1)) h fun t24 h =>
 go (Bin .int .rem t21 t24) h fun t25 h =>
 Lp 5 (fun X1 t0_1 t1_1 t7 t8 t9 h =>
 go (Len t7) h fun t29 h =>
 go (Bin .int .lss t9 t29) h fun t30 h =>
 If t30 (
 go (Idx 1 t7 t9) h fun t37 h =>
 go (Ld t37) h fun t38 h =>
 go (Un .xor t38) h fun t39 h =>
 go (Idx 1 t7 t9) h fun t40 h =>
 go (St t40 t39) h fun _ h =>
 go (Bin .int .add t9 (.int .i64 1)) h fun t32 h =>
 X1 t0_1 t1_1 t7 t8 t32 h) (
 go (CallF Try.prog 8 [t0_1, t1_1]) h fun t43 h =>
 go (CallF Try.prog 8 [t7, t1_1]) h fun t46 h =>
 go (Len t7) h fun t48 h =>
 Lp 7 (fun X2 t0_2 t7_1 t8_1 t10 t11 t48_1 t49 h =>
 go (Bin .int .lss t49 t48_1) h fun t50 h =>
 If t50 (
 go (Idx 1 t7_1 t49) h fun t54 h =>
 go (St t54 (.int .u64 5)) h fun _ h =>
 go (Bin .int .add t49 (.int .i64 1)) h fun t55 h =>
 X2 t0_2 t7_1 t8_1 t10 t11 t48_1 t55 h) (
 Lp 6 (fun X3 t0_3 t8_2 t10_1 t11_1 t56 t57 h =>
 go (Bin .int .lss t57 t56) h fun t58 h =>
 If t58 (
 go (CallF Try.prog 9 [t10_1]) h fun t60 h =>
 go (CallF Try.prog 9 [t11_1]) h fun t62 h =>
 go (Bin .int .neq t60 t62) h fun t63 h =>
 If t63 (
 K (.bool false) h) (
 go (Bin .int .add t57 (.int .i64 1)) h fun t64 h =>
 X3 t0_3 t8_2 t10_1 t11_1 t56 t64 h)) (
 go (Len t0_3) h fun t67 h =>
 go (Bin .int .eql t8_2 t67) h fun t68 h =>
 go (Gd t68 false (Mv t10_1)) h fun t70 h =>
 go (Gd t68 false (CallF Try.prog 9 [t70])) h fun t71 h =>
 go (Gd t68 false (Mv t11_1)) h fun t72 h =>
 go (Gd t68 false (CallF Try.prog 9 [t72])) h fun t73 h =>
 go (Gd t68 false (Bin .int .neq t71 t73)) h fun t74 h =>
 go (Pick t68 (.bool true) t74) h fun t75 h =>
 K t75 h)) [t0_2, t8_1, t10, t11, t8_1, (.int .i64 0)] h)) [t0_1, t7, t8, t43, t46, t48, (.int .i64 0)] h)) [t0, t1, t19, t25, t25] h))
set_option maxRecDepth 100000 in
theorem bradawllaw09_RngAgrees.eq : (fun t0 t1 t2 K h => bradawllaw09_RngAgrees.pt t0 t1 t2 K h : Value → Value → Value → Ret → Heap → Prop) = (fun t0 t1 t2 K h => fnPt Try.prog [] Try.f3 bradawllaw09_RngAgrees.ann [t0, t1, t2] K h) := by kernel_rfl
theorem bradawllaw09_RngAgrees.ok {t0 t1 t2 : Value} {K : Ret} {h : Heap} (hp : bradawllaw09_RngAgrees.pt t0 t1 t2 K h) : CallH Try.prog 3 #[t0, t1, t2] K h :=
  fn_sound (qs := []) (fn := Try.f3) (ann := bradawllaw09_RngAgrees.ann) (args := [t0, t1, t2]) follows_mixed Try.func3 ((Eq.to_iff (congrFun (congrFun (congrFun (congrFun (congrFun (bradawllaw09_RngAgrees.eq) t0) t1) t2) K) h)).mp hp)

/-! ### bradawl/bradawllaw09.RngSteps: function 4 -/
abbrev bradawllaw09_RngSteps.id : FuncId := 4
def bradawllaw09_RngSteps.ann : Ann := (.seq none .leaf (.seq none (.seq none .leaf (.cond (.seq none .leaf .leaf) .leaf)) (.seq none .leaf .leaf)))
def bradawllaw09_RngSteps.pt (t0 t1 : Value) (K : Ret) (h : Heap) : Prop :=
 go (CallF Try.prog 7 []) h fun t5 h =>
 go (Un .not t5) h fun t6 h =>
 If t6 (
 K (.bool false) h) (
 go (CallF Try.prog 10 [t0]) h fun t8 h =>
 go (CallF Try.prog 11 [t0]) h fun t10 h =>
 go (Bin .int .eql t8 t10) h fun t11 h =>
 go (Gd t11 true (Mv t0)) h fun t13 h =>
 go (Gd t11 true (CallF Try.prog 10 [t13])) h fun t14 h =>
 go (Gd t11 true (Bin .int .eql t14 (.int .u64 0))) h fun t15 h =>
 go (Gd t11 true (Mv t0)) h fun t16 h =>
 go (Gd t11 true (Bin .int .eql t16 (.int .u64 0))) h fun t17 h =>
 go (Gd t11 true (Bin .bool .eql t15 t17)) h fun t18 h =>
 go (Pick t11 t18 (.bool false)) h fun t19 h =>
 go (Gd t19 true (Mv t0)) h fun t21 h =>
 go (Gd t19 true (CallF Try.prog 10 [t21])) h fun t22 h =>
 go (Gd t19 true (Mv t1)) h fun t23 h =>
 go (Gd t19 true (CallF Try.prog 10 [t23])) h fun t24 h =>
 go (Gd t19 true (Bin .int .eql t22 t24)) h fun t25 h =>
 go (Gd t19 true (Mv t0)) h fun t26 h =>
 go (Gd t19 true (Mv t1)) h fun t27 h =>
 go (Gd t19 true (Bin .int .eql t26 t27)) h fun t28 h =>
 go (Gd t19 true (Bin .bool .eql t25 t28)) h fun t29 h =>
 go (Pick t19 t29 (.bool false)) h fun t30 h =>
 K t30 h)
set_option maxRecDepth 100000 in
theorem bradawllaw09_RngSteps.eq : (fun t0 t1 K h => bradawllaw09_RngSteps.pt t0 t1 K h : Value → Value → Ret → Heap → Prop) = (fun t0 t1 K h => fnPt Try.prog [] Try.f4 bradawllaw09_RngSteps.ann [t0, t1] K h) := by kernel_rfl
theorem bradawllaw09_RngSteps.ok {t0 t1 : Value} {K : Ret} {h : Heap} (hp : bradawllaw09_RngSteps.pt t0 t1 K h) : CallH Try.prog 4 #[t0, t1] K h :=
  fn_sound (qs := []) (fn := Try.f4) (ann := bradawllaw09_RngSteps.ann) (args := [t0, t1]) follows_mixed Try.func4 ((Eq.to_iff (congrFun (congrFun (congrFun (congrFun (bradawllaw09_RngSteps.eq) t0) t1) K) h)).mp hp)

/-! ### bradawl/bradawllaw09.RngRuns: function 5 -/
abbrev bradawllaw09_RngRuns.id : FuncId := 5
def bradawllaw09_RngRuns.ann : Ann := (.seq none .leaf (.seq none (.seq none .leaf (.cond (.seq none .leaf .leaf) .leaf)) (.seq none (.seq none .leaf (.cond (.seq none .leaf .leaf) .leaf)) (.seq none .leaf (.seq none .leaf (.seq (some [2, 3, 7, 8]) (.seq none .leaf (.cond .leaf .leaf)) (.seq none .leaf (.seq none .leaf (.seq none (.seq none .leaf (.block (.loop [7, 9, 10, 32, 33, 34] (.seq none .leaf (.seq none (.cond .leaf .leaf) (.seq none (.block (.seq none .leaf (.seq (some [7, 9, 10, 32, 33, 34]) (.block (.seq none .leaf (.cond (.seq none .leaf (.cond (.seq none .leaf .leaf) .leaf)) (.seq none .leaf (.cond (.seq none .leaf (.seq (some [7, 9, 10, 12, 13, 32, 33, 34]) (.seq none .leaf (.cond .leaf .leaf)) (.seq none .leaf (.cond (.seq none .leaf .leaf) .leaf)))) (.seq none .leaf (.seq (some [7, 9, 10, 11, 12, 14, 32, 33, 34]) (.seq none .leaf (.cond .leaf .leaf)) (.seq none .leaf (.cond (.seq none .leaf .leaf) .leaf))))))))) (.seq (some [7, 9, 10, 32, 33, 34, 84]) .leaf (.cond (.seq none .leaf .leaf) .leaf))))) .leaf)))))) (.seq none .leaf .leaf))))))))))
def bradawllaw09_RngRuns.pt (t0 t1 t2 : Value) (K : Ret) (h : Heap) : Prop :=
 go (New (Value.cells t0) 22) h fun t3 h =>
 go (CallF Try.prog 7 []) h fun t15 h =>
 go (Un .not t15) h fun t16 h =>
 If t16 (
 K (.bool false) h) (
 go (Ld t3) h fun t17 h =>
 go (Len t17) h fun t18 h =>
 go (Bin .int .gtr t18 (.int .i64 60)) h fun t19 h =>
 go (Gd t19 false (Mv t2)) h fun t21 h =>
 go (Gd t19 false (Len t21)) h fun t22 h =>
 go (Gd t19 false (Bin .int .gtr t22 (.int .i64 100))) h fun t23 h =>
 go (Pick t19 (.bool true) t23) h fun t24 h =>
 If t24 (
 K (.bool true) h) (
 go (Ld t3) h fun t25 h =>
 go (CallF Try.prog 8 [t25, t1]) h fun t27 h =>
 go (New #[(.int .u64 0)] 23) h fun t8 h =>
 go (St t8 t1) h fun _ h =>
 Join 4 (fun J1 =>
 go (Ld t8) h fun t29 h =>
 go (Bin .int .eql t29 (.int .u64 0)) h fun t30 h =>
 If t30 (
 go (St t8 (.int .u64 88172645463325252)) h fun _ h =>
 J1 t2 t3 t27 t8 h) (
 J1 t2 t3 t27 t8 h)) (fun t2_1 t3_1 t7 t8_1 h =>
 go (New #[(.int .i64 0)] 3) h fun t9 h =>
 go (St t9 (.int .i64 0)) h fun _ h =>
 go (Len t2_1) h fun t33 h =>
 Lp 6 (fun X2 t7_1 t9_1 t10 t32 t33_1 t34 h =>
 go (Bin .int .lss t34 t33_1) h fun t35 h =>
 If t35 (
 go (Idx 1 t32 t34) h fun t37 h =>
 go (Ld t37) h fun t38 h =>
 Join 6 (fun J3 =>
 go (Bin .int .rem t34 (.int .i64 3)) h fun t57 h =>
 go (Bin .int .eql t57 (.int .i64 0)) h fun t58 h =>
 If t58 (
 go (CallF Try.prog 9 [t7_1]) h fun t60 h =>
 go (CallV Try.prog t10 []) h fun t62 h =>
 go (Bin .int .neq t60 t62) h fun t63 h =>
 If t63 (
 K (.bool false) h) (
 J3 t7_1 t9_1 t10 t32 t33_1 t34 h)) (
 go (Bin .int .rem t34 (.int .i64 3)) h fun t66 h =>
 go (Bin .int .eql t66 (.int .i64 1)) h fun t67 h =>
 If t67 (
 Join 8 (fun J4 =>
 go (Bin .int .geq t38 (.int .i64 1)) h fun t69 h =>
 If t69 (
 go (CallV Try.prog t10 []) h fun t71 h =>
 go (Cvt .u64 t38) h fun t73 h =>
 go (Bin .int .rem t71 t73) h fun t74 h =>
 go (Cvt .i64 t74) h fun t75 h =>
 J4 t7_1 t9_1 t10 t38 t75 t32 t33_1 t34 h) (
 J4 t7_1 t9_1 t10 t38 (.int .i64 0) t32 t33_1 t34 h)) (fun t7_2 t9_2 t10_1 t12 t13 t32_1 t33_2 t34_1 h =>
 go (CallF Try.prog 13 [t7_2, t12]) h fun t78 h =>
 go (Bin .int .neq t78 t13) h fun t80 h =>
 If t80 (
 K (.bool false) h) (
 J3 t7_2 t9_2 t10_1 t32_1 t33_2 t34_1 h))) (
 Join 9 (fun J5 =>
 go (Bin .int .geq t38 (.int .i64 1)) h fun t40 h =>
 If t40 (
 go (CallV Try.prog t10 []) h fun t42 h =>
 go (Cvt .u64 t38) h fun t44 h =>
 go (Bin .int .rem t42 t44) h fun t45 h =>
 go (Cvt .i64 t45) h fun t46 h =>
 go (Bin .int .lss t46 t34) h fun t48 h =>
 J5 t7_1 t9_1 t10 t34 t38 t48 t32 t33_1 t34 h) (
 J5 t7_1 t9_1 t10 t34 t38 (.bool false) t32 t33_1 t34 h)) (fun t7_3 t9_3 t10_2 t11 t12_1 t14 t32_2 t33_3 t34_2 h =>
 go (CallF Try.prog 14 [t7_3, t11, t12_1]) h fun t52 h =>
 go (Bin .bool .neq t52 t14) h fun t54 h =>
 If t54 (
 K (.bool false) h) (
 J3 t7_3 t9_3 t10_2 t32_2 t33_3 t34_2 h))))) (fun t7_4 t9_4 t10_3 t32_3 t33_4 t34_3 h =>
 Join 7 (fun J6 =>
 (go (CallF Try.prog 15 [t7_4]) h fun t82 h =>
 go (Ld t9_4) h fun t83 h =>
 go (Bin .int .neq t82 t83) h fun t84 h =>
 J6 t7_4 t9_4 t10_3 t32_3 t33_4 t34_3 t84 h) ∧
 (go (Ld t9_4) h fun t83_1 h =>
 go (CallF Try.prog 15 [t7_4]) h fun t82_1 h =>
 go (Bin .int .neq t82_1 t83_1) h fun t84_1 h =>
 J6 t7_4 t9_4 t10_3 t32_3 t33_4 t34_3 t84_1 h)) (fun t7_5 t9_5 t10_4 t32_4 t33_5 t34_4 t84_2 h =>
 If t84_2 (
 K (.bool false) h) (
 go (Bin .int .add t34_4 (.int .i64 1)) h fun t85 h =>
 X2 t7_5 t9_5 t10_4 t32_4 t33_5 t85 h)))) (
 K (.bool true) h)) [t7, t9, (.func (.func 12) #[] #[t9, t3_1, t8_1]), t2_1, t33, (.int .i64 0)] h)))
set_option maxRecDepth 100000 in
theorem bradawllaw09_RngRuns.eq : (fun t0 t1 t2 K h => bradawllaw09_RngRuns.pt t0 t1 t2 K h : Value → Value → Value → Ret → Heap → Prop) = (fun t0 t1 t2 K h => fnPt Try.prog [] Try.f5 bradawllaw09_RngRuns.ann [t0, t1, t2] K h) := by kernel_rfl
theorem bradawllaw09_RngRuns.ok {t0 t1 t2 : Value} {K : Ret} {h : Heap} (hp : bradawllaw09_RngRuns.pt t0 t1 t2 K h) : CallH Try.prog 5 #[t0, t1, t2] K h :=
  fn_sound (qs := []) (fn := Try.f5) (ann := bradawllaw09_RngRuns.ann) (args := [t0, t1, t2]) follows_mixed Try.func5 ((Eq.to_iff (congrFun (congrFun (congrFun (congrFun (congrFun (bradawllaw09_RngRuns.eq) t0) t1) t2) K) h)).mp hp)

/-! ### bradawl/bradawllaw09.RngBelow: function 6 -/
abbrev bradawllaw09_RngBelow.id : FuncId := 6
def bradawllaw09_RngBelow.ann : Ann := (.seq none .leaf (.seq none (.seq none .leaf (.cond (.seq none .leaf .leaf) .leaf)) (.seq none (.seq none .leaf (.cond (.seq none .leaf .leaf) .leaf)) (.seq none .leaf (.seq none .leaf (.seq none (.seq none .leaf (.block (.loop [7, 8, 21] (.seq none .leaf (.seq none (.cond .leaf .leaf) (.seq none (.block (.seq none .leaf (.seq none .leaf (.cond (.seq none .leaf .leaf) .leaf)))) .leaf)))))) (.seq none .leaf .leaf)))))))
def bradawllaw09_RngBelow.pt (t0 t1 t2 : Value) (K : Ret) (h : Heap) : Prop :=
 go (CallF Try.prog 7 []) h fun t10 h =>
 go (Un .not t10) h fun t11 h =>
 If t11 (
 K (.bool false) h) (
 go (Len t0) h fun t13 h =>
 go (Bin .int .gtr t13 (.int .i64 60)) h fun t14 h =>
 If t14 (
 K (.bool true) h) (
 go (CallF Try.prog 8 [t0, t1]) h fun t17 h =>
 go (Bin .int .and t2 (.int .i64 1048575)) h fun t19 h =>
 go (Bin .int .add (.int .i64 1) t19) h fun t20 h =>
 Lp 3 (fun X1 t7 t8 t21 h =>
 go (Bin .int .lss t21 (.int .i64 20)) h fun t22 h =>
 If t22 (
 go (CallF Try.prog 13 [t7, t8]) h fun t25 h =>
 go (Bin .int .lss t25 (.int .i64 0)) h fun t27 h =>
 go (Gd t27 false (Mv t25)) h fun t29 h =>
 go (Gd t27 false (Mv t8)) h fun t30 h =>
 go (Gd t27 false (Bin .int .geq t29 t30)) h fun t31 h =>
 go (Pick t27 (.bool true) t31) h fun t32 h =>
 If t32 (
 K (.bool false) h) (
 go (Bin .int .add t21 (.int .i64 1)) h fun t33 h =>
 X1 t7 t8 t33 h)) (
 go (CallF Try.prog 14 [t7, (.int .i64 0), t8]) h fun t36 h =>
 go (Un .not t36) h fun t37 h =>
 go (Gd t37 true (Mv t7)) h fun t39 h =>
 go (Gd t37 true (Mv t8)) h fun t40 h =>
 go (Gd t37 true (Mv t8)) h fun t41 h =>
 go (Gd t37 true (CallF Try.prog 14 [t39, t40, t41])) h fun t42 h =>
 go (Pick t37 t42 (.bool false)) h fun t43 h =>
 go (Gd t43 true (Mv t7)) h fun t45 h =>
 go (Gd t43 true (CallF Try.prog 15 [t45])) h fun t46 h =>
 go (Gd t43 true (Bin .int .eql t46 (.int .i64 22))) h fun t47 h =>
 go (Pick t43 t47 (.bool false)) h fun t48 h =>
 go (Gd t48 true (Mv t7)) h fun t50 h =>
 go (Gd t48 true (Mv t8)) h fun t51 h =>
 go (Gd t48 true (Un .neg t51)) h fun t52 h =>
 go (Gd t48 true (CallF Try.prog 13 [t50, t52])) h fun t53 h =>
 go (Gd t48 true (Bin .int .eql t53 (.int .i64 0))) h fun t54 h =>
 go (Pick t48 t54 (.bool false)) h fun t55 h =>
 go (Gd t55 true (Mv t7)) h fun t57 h =>
 go (Gd t55 true (CallF Try.prog 15 [t57])) h fun t58 h =>
 go (Gd t55 true (Bin .int .eql t58 (.int .i64 22))) h fun t59 h =>
 go (Pick t55 t59 (.bool false)) h fun t60 h =>
 K t60 h)) [t17, t20, (.int .i64 0)] h))
set_option maxRecDepth 100000 in
theorem bradawllaw09_RngBelow.eq : (fun t0 t1 t2 K h => bradawllaw09_RngBelow.pt t0 t1 t2 K h : Value → Value → Value → Ret → Heap → Prop) = (fun t0 t1 t2 K h => fnPt Try.prog [] Try.f6 bradawllaw09_RngBelow.ann [t0, t1, t2] K h) := by kernel_rfl
theorem bradawllaw09_RngBelow.ok {t0 t1 t2 : Value} {K : Ret} {h : Heap} (hp : bradawllaw09_RngBelow.pt t0 t1 t2 K h) : CallH Try.prog 6 #[t0, t1, t2] K h :=
  fn_sound (qs := []) (fn := Try.f6) (ann := bradawllaw09_RngBelow.ann) (args := [t0, t1, t2]) follows_mixed Try.func6 ((Eq.to_iff (congrFun (congrFun (congrFun (congrFun (congrFun (bradawllaw09_RngBelow.eq) t0) t1) t2) K) h)).mp hp)

/-! ### bradawl/bradawllaw09.fit: function 7 -/
abbrev bradawllaw09_fit.id : FuncId := 7
def bradawllaw09_fit.ann : Ann := (.seq none .leaf (.seq none .leaf (.seq none .leaf .leaf)))
def bradawllaw09_fit.pt (K : Ret) (h : Heap) : Prop :=
 go (BldS 23 1 1 #[(.int .u64 0)] [(0, (.int .u64 7))]) h fun t2 h =>
 go (CallF Try.prog 8 [t2, (.int .u64 1)]) h fun t3 h =>
 go (Bin .pointer .neq t3 (.pointer none)) h fun t5 h =>
 go (Gd t5 true (Mv t3)) h fun t7 h =>
 go (Gd t5 true (CallF Try.prog 9 [t7])) h fun t8 h =>
 go (Gd t5 true (Bin .int .eql t8 (.int .u64 7))) h fun t9 h =>
 go (Pick t5 t9 (.bool false)) h fun t10 h =>
 go (Gd t10 true (Mv t3)) h fun t12 h =>
 go (Gd t10 true (CallF Try.prog 9 [t12])) h fun t13 h =>
 go (Gd t10 true (Bin .int .eql t13 (.int .u64 1082269761))) h fun t14 h =>
 go (Pick t10 t14 (.bool false)) h fun t15 h =>
 go (Gd t15 true (Mv t3)) h fun t17 h =>
 go (Gd t15 true (CallF Try.prog 15 [t17])) h fun t18 h =>
 go (Gd t15 true (Bin .int .eql t18 (.int .i64 2))) h fun t19 h =>
 go (Pick t15 t19 (.bool false)) h fun t20 h =>
 go (Gd t20 true (CallF Try.prog 10 [(.int .u64 1)])) h fun t22 h =>
 go (Gd t20 true (Bin .int .eql t22 (.int .u64 1082269761))) h fun t23 h =>
 go (Pick t20 t23 (.bool false)) h fun t24 h =>
 K t24 h
set_option maxRecDepth 100000 in
theorem bradawllaw09_fit.eq : (fun K h => bradawllaw09_fit.pt K h : Ret → Heap → Prop) = (fun K h => fnPt Try.prog [] Try.f7 bradawllaw09_fit.ann [] K h) := by kernel_rfl
theorem bradawllaw09_fit.ok {K : Ret} {h : Heap} (hp : bradawllaw09_fit.pt K h) : CallH Try.prog 7 #[] K h :=
  fn_sound (qs := []) (fn := Try.f7) (ann := bradawllaw09_fit.ann) (args := []) follows_mixed Try.func7 ((Eq.to_iff (congrFun (congrFun (bradawllaw09_fit.eq) K) h)).mp hp)

/-! ### bradawl/rng.New: function 8 -/
abbrev rng_New.id : FuncId := 8
def rng_New.ann : Ann := (.seq none .leaf (.seq (some [0, 1]) (.seq none .leaf (.cond .leaf .leaf)) (.seq none .leaf .leaf)))
def rng_New.pt (t0 t1 : Value) (K : Ret) (h : Heap) : Prop :=
 Join 2 (fun J1 =>
 go (Bin .int .eql t1 (.int .u64 0)) h fun t6 h =>
 If t6 (
 J1 t0 (.int .u64 88172645463325252) h) (
 J1 t0 t1 h)) (fun t0_1 t1_1 h =>
 go (App 23 1 8 #[(.int .u64 0)] (.slice none 0 0) t0_1) h fun t8 h =>
 go (Bld [(0, 1), (1, 1), (2, 1)] #[(.slice none 0 0), (.int .u64 0), (.int .i64 0)] [(0, t8), (1, t1_1)]) h fun t10 h =>
 go (New (Value.cells t10) 38) h fun t11 h =>
 K t11 h)
set_option maxRecDepth 100000 in
theorem rng_New.eq : (fun t0 t1 K h => rng_New.pt t0 t1 K h : Value → Value → Ret → Heap → Prop) = (fun t0 t1 K h => fnPt Try.prog [] Try.f8 rng_New.ann [t0, t1] K h) := by kernel_rfl
theorem rng_New.ok {t0 t1 : Value} {K : Ret} {h : Heap} (hp : rng_New.pt t0 t1 K h) : CallH Try.prog 8 #[t0, t1] K h :=
  fn_sound (qs := []) (fn := Try.f8) (ann := rng_New.ann) (args := [t0, t1]) follows_mixed Try.func8 ((Eq.to_iff (congrFun (congrFun (congrFun (congrFun (rng_New.eq) t0) t1) K) h)).mp hp)

/-! ### (*bradawl/rng.Stream).Next: function 9 -/
abbrev rng_Stream_Next.id : FuncId := 9
def rng_Stream_Next.ann : Ann := (.seq none .leaf (.seq none .leaf (.seq none (.seq none .leaf (.cond (.seq none .leaf .leaf) .leaf)) (.seq none .leaf (.seq none .leaf .leaf)))))
def rng_Stream_Next.pt (t0 : Value) (K : Ret) (h : Heap) : Prop :=
 go (NilC t0) h fun t4 h =>
 go (Fld 2 t4) h fun t5 h =>
 go (Ld t5) h fun t6 h =>
 go (Bin .int .add t6 (.int .i64 1)) h fun t7 h =>
 go (NilC t0) h fun t8 h =>
 go (Fld 2 t8) h fun t9 h =>
 go (St t9 t7) h fun _ h =>
 go (NilC t0) h fun t11 h =>
 go (Fld 2 t11) h fun t12 h =>
 go (Ld t12) h fun t13 h =>
 go (NilC t0) h fun t15 h =>
 go (Fld 0 t15) h fun t16 h =>
 go (Ld t16) h fun t17 h =>
 go (Len t17) h fun t18 h =>
 go (Bin .int .leq t13 t18) h fun t19 h =>
 If t19 (
 go (NilC t0) h fun t21 h =>
 go (Fld 0 t21) h fun t22 h =>
 go (Ld t22) h fun t23 h =>
 go (NilC t0) h fun t25 h =>
 go (Fld 2 t25) h fun t26 h =>
 go (Ld t26) h fun t27 h =>
 go (Bin .int .sub t27 (.int .i64 1)) h fun t28 h =>
 go (Idx 1 t23 t28) h fun t29 h =>
 go (Ld t29) h fun t30 h =>
 K t30 h) (
 go (NilC t0) h fun t33 h =>
 go (Fld 1 t33) h fun t34 h =>
 go (Ld t34) h fun t35 h =>
 go (CallF Try.prog 10 [t35]) h fun t36 h =>
 go (NilC t0) h fun t37 h =>
 go (Fld 1 t37) h fun t38 h =>
 go (St t38 t36) h fun _ h =>
 go (NilC t0) h fun t40 h =>
 go (Fld 1 t40) h fun t41 h =>
 go (Ld t41) h fun t42 h =>
 K t42 h)
set_option maxRecDepth 100000 in
theorem rng_Stream_Next.eq : (fun t0 K h => rng_Stream_Next.pt t0 K h : Value → Ret → Heap → Prop) = (fun t0 K h => fnPt Try.prog [] Try.f9 rng_Stream_Next.ann [t0] K h) := by kernel_rfl
theorem rng_Stream_Next.ok {t0 : Value} {K : Ret} {h : Heap} (hp : rng_Stream_Next.pt t0 K h) : CallH Try.prog 9 #[t0] K h :=
  fn_sound (qs := []) (fn := Try.f9) (ann := rng_Stream_Next.ann) (args := [t0]) follows_mixed Try.func9 ((Eq.to_iff (congrFun (congrFun (congrFun (rng_Stream_Next.eq) t0) K) h)).mp hp)

/-! ### bradawl/rng.Step: function 10 -/
abbrev rng_Step.id : FuncId := 10
def rng_Step.ann : Ann := (.seq none .leaf (.seq none .leaf (.seq none .leaf (.seq none .leaf .leaf))))
def rng_Step.pt (t0 : Value) (K : Ret) (h : Heap) : Prop :=
 go (Bin .int .shl t0 (.int .u64 13)) h fun t5 h =>
 go (Bin .int .xor t0 t5) h fun t6 h =>
 go (Bin .int .shr t6 (.int .u64 7)) h fun t9 h =>
 go (Bin .int .xor t6 t9) h fun t10 h =>
 go (Bin .int .shl t10 (.int .u64 17)) h fun t13 h =>
 go (Bin .int .xor t10 t13) h fun t14 h =>
 K t14 h
set_option maxRecDepth 100000 in
theorem rng_Step.eq : (fun t0 K h => rng_Step.pt t0 K h : Value → Ret → Heap → Prop) = (fun t0 K h => fnPt Try.prog [] Try.f10 rng_Step.ann [t0] K h) := by kernel_rfl
theorem rng_Step.ok {t0 : Value} {K : Ret} {h : Heap} (hp : rng_Step.pt t0 K h) : CallH Try.prog 10 #[t0] K h :=
  fn_sound (qs := []) (fn := Try.f10) (ann := rng_Step.ann) (args := [t0]) follows_mixed Try.func10 ((Eq.to_iff (congrFun (congrFun (congrFun (rng_Step.eq) t0) K) h)).mp hp)

/-! ### bradawl/bradawllaw09.step: function 11 -/
abbrev bradawllaw09_step.id : FuncId := 11
def bradawllaw09_step.ann : Ann := (.seq none .leaf (.seq none .leaf (.seq none .leaf (.seq none .leaf (.seq none .leaf .leaf)))))
def bradawllaw09_step.pt (t0 : Value) (K : Ret) (h : Heap) : Prop :=
 go (Bin .int .mul t0 (.int .u64 8192)) h fun t7 h =>
 go (CallV Try.prog (.func (.func 16) #[] #[]) [t0, t7]) h fun t8 h =>
 go (Bin .int .quo t8 (.int .u64 128)) h fun t12 h =>
 go (CallV Try.prog (.func (.func 16) #[] #[]) [t8, t12]) h fun t13 h =>
 go (Bin .int .mul t13 (.int .u64 131072)) h fun t17 h =>
 go (CallV Try.prog (.func (.func 16) #[] #[]) [t13, t17]) h fun t18 h =>
 K t18 h
set_option maxRecDepth 100000 in
theorem bradawllaw09_step.eq : (fun t0 K h => bradawllaw09_step.pt t0 K h : Value → Ret → Heap → Prop) = (fun t0 K h => fnPt Try.prog [] Try.f11 bradawllaw09_step.ann [t0] K h) := by kernel_rfl
theorem bradawllaw09_step.ok {t0 : Value} {K : Ret} {h : Heap} (hp : bradawllaw09_step.pt t0 K h) : CallH Try.prog 11 #[t0] K h :=
  fn_sound (qs := []) (fn := Try.f11) (ann := bradawllaw09_step.ann) (args := [t0]) follows_mixed Try.func11 ((Eq.to_iff (congrFun (congrFun (congrFun (bradawllaw09_step.eq) t0) K) h)).mp hp)

/-! ### bradawl/bradawllaw09.RngRuns$1: function 12 -/
abbrev bradawllaw09_RngRuns_1.id : FuncId := 12
def bradawllaw09_RngRuns_1.ann : Ann := (.seq none .leaf (.seq none .leaf (.seq none (.seq none .leaf (.cond (.seq none .leaf .leaf) .leaf)) (.seq none .leaf (.seq none .leaf .leaf)))))
def bradawllaw09_RngRuns_1.pt (t0 t1 t2 : Value) (K : Ret) (h : Heap) : Prop :=
 go (Ld t0) h fun t4 h =>
 go (Bin .int .add t4 (.int .i64 1)) h fun t5 h =>
 go (St t0 t5) h fun _ h =>
 go (Ld t0) h fun t6 h =>
 go (Ld t1) h fun t7 h =>
 go (Len t7) h fun t8 h =>
 go (Bin .int .leq t6 t8) h fun t9 h =>
 If t9 (
 go (Ld t1) h fun t10 h =>
 go (Ld t0) h fun t11 h =>
 go (Bin .int .sub t11 (.int .i64 1)) h fun t12 h =>
 go (Idx 1 t10 t12) h fun t13 h =>
 go (Ld t13) h fun t14 h =>
 K t14 h) (
 go (Ld t2) h fun t15 h =>
 go (CallF Try.prog 11 [t15]) h fun t16 h =>
 go (St t2 t16) h fun _ h =>
 go (Ld t2) h fun t17 h =>
 K t17 h)
set_option maxRecDepth 100000 in
theorem bradawllaw09_RngRuns_1.eq : (fun t0 t1 t2 K h => bradawllaw09_RngRuns_1.pt t0 t1 t2 K h : Value → Value → Value → Ret → Heap → Prop) = (fun t0 t1 t2 K h => fnPt Try.prog [] Try.f12 bradawllaw09_RngRuns_1.ann [t0, t1, t2] K h) := by kernel_rfl
theorem bradawllaw09_RngRuns_1.ok {t0 t1 t2 : Value} {K : Ret} {h : Heap} (hp : bradawllaw09_RngRuns_1.pt t0 t1 t2 K h) : CallH Try.prog 12 #[t0, t1, t2] K h :=
  fn_sound (qs := []) (fn := Try.f12) (ann := bradawllaw09_RngRuns_1.ann) (args := [t0, t1, t2]) follows_mixed Try.func12 ((Eq.to_iff (congrFun (congrFun (congrFun (congrFun (congrFun (bradawllaw09_RngRuns_1.eq) t0) t1) t2) K) h)).mp hp)

/-! ### (*bradawl/rng.Stream).Below: function 13 -/
abbrev rng_Stream_Below.id : FuncId := 13
def rng_Stream_Below.ann : Ann := (.seq none .leaf (.seq none (.seq none .leaf (.cond (.seq none .leaf .leaf) .leaf)) (.seq none .leaf .leaf)))
def rng_Stream_Below.pt (t0 t1 : Value) (K : Ret) (h : Heap) : Prop :=
 go (Bin .int .lss t1 (.int .i64 1)) h fun t6 h =>
 If t6 (
 K (.int .i64 0) h) (
 go (CallF Try.prog 9 [t0]) h fun t8 h =>
 go (Cvt .u64 t1) h fun t10 h =>
 go (Bin .int .rem t8 t10) h fun t11 h =>
 go (Cvt .i64 t11) h fun t12 h =>
 K t12 h)
set_option maxRecDepth 100000 in
theorem rng_Stream_Below.eq : (fun t0 t1 K h => rng_Stream_Below.pt t0 t1 K h : Value → Value → Ret → Heap → Prop) = (fun t0 t1 K h => fnPt Try.prog [] Try.f13 rng_Stream_Below.ann [t0, t1] K h) := by kernel_rfl
theorem rng_Stream_Below.ok {t0 t1 : Value} {K : Ret} {h : Heap} (hp : rng_Stream_Below.pt t0 t1 K h) : CallH Try.prog 13 #[t0, t1] K h :=
  fn_sound (qs := []) (fn := Try.f13) (ann := rng_Stream_Below.ann) (args := [t0, t1]) follows_mixed Try.func13 ((Eq.to_iff (congrFun (congrFun (congrFun (congrFun (rng_Stream_Below.eq) t0) t1) K) h)).mp hp)

/-! ### (*bradawl/rng.Stream).Chance: function 14 -/
abbrev rng_Stream_Chance.id : FuncId := 14
def rng_Stream_Chance.ann : Ann := (.seq none .leaf (.seq none .leaf .leaf))
def rng_Stream_Chance.pt (t0 t1 t2 : Value) (K : Ret) (h : Heap) : Prop :=
 go (Bin .int .geq t2 (.int .i64 1)) h fun t8 h =>
 go (Gd t8 true (Mv t0)) h fun t10 h =>
 go (Gd t8 true (Mv t2)) h fun t11 h =>
 go (Gd t8 true (CallF Try.prog 13 [t10, t11])) h fun t12 h =>
 go (Gd t8 true (Mv t1)) h fun t13 h =>
 go (Gd t8 true (Bin .int .lss t12 t13)) h fun t14 h =>
 go (Pick t8 t14 (.bool false)) h fun t15 h =>
 K t15 h
set_option maxRecDepth 100000 in
theorem rng_Stream_Chance.eq : (fun t0 t1 t2 K h => rng_Stream_Chance.pt t0 t1 t2 K h : Value → Value → Value → Ret → Heap → Prop) = (fun t0 t1 t2 K h => fnPt Try.prog [] Try.f14 rng_Stream_Chance.ann [t0, t1, t2] K h) := by kernel_rfl
theorem rng_Stream_Chance.ok {t0 t1 t2 : Value} {K : Ret} {h : Heap} (hp : rng_Stream_Chance.pt t0 t1 t2 K h) : CallH Try.prog 14 #[t0, t1, t2] K h :=
  fn_sound (qs := []) (fn := Try.f14) (ann := rng_Stream_Chance.ann) (args := [t0, t1, t2]) follows_mixed Try.func14 ((Eq.to_iff (congrFun (congrFun (congrFun (congrFun (congrFun (rng_Stream_Chance.eq) t0) t1) t2) K) h)).mp hp)

/-! ### (*bradawl/rng.Stream).Drawn: function 15 -/
abbrev rng_Stream_Drawn.id : FuncId := 15
def rng_Stream_Drawn.ann : Ann := (.seq none .leaf (.seq none .leaf .leaf))
def rng_Stream_Drawn.pt (t0 : Value) (K : Ret) (h : Heap) : Prop :=
 go (NilC t0) h fun t4 h =>
 go (Fld 2 t4) h fun t5 h =>
 go (Ld t5) h fun t6 h =>
 K t6 h
set_option maxRecDepth 100000 in
theorem rng_Stream_Drawn.eq : (fun t0 K h => rng_Stream_Drawn.pt t0 K h : Value → Ret → Heap → Prop) = (fun t0 K h => fnPt Try.prog [] Try.f15 rng_Stream_Drawn.ann [t0] K h) := by kernel_rfl
theorem rng_Stream_Drawn.ok {t0 : Value} {K : Ret} {h : Heap} (hp : rng_Stream_Drawn.pt t0 K h) : CallH Try.prog 15 #[t0] K h :=
  fn_sound (qs := []) (fn := Try.f15) (ann := rng_Stream_Drawn.ann) (args := [t0]) follows_mixed Try.func15 ((Eq.to_iff (congrFun (congrFun (congrFun (rng_Stream_Drawn.eq) t0) K) h)).mp hp)

/-! ### bradawl/bradawllaw09.step$1: function 16 -/
abbrev bradawllaw09_step_1.id : FuncId := 16
def bradawllaw09_step_1.ann : Ann := (.seq none .leaf (.seq none .leaf (.seq none (.seq none .leaf (.block (.loop [0, 1, 5, 7] (.seq none .leaf (.seq none (.cond .leaf .leaf) (.seq (some [0, 1, 5, 7]) (.block (.seq none .leaf (.seq none .leaf (.cond .leaf .leaf)))) .leaf)))))) (.seq none .leaf .leaf))))
def bradawllaw09_step_1.pt (t0 t1 : Value) (K : Ret) (h : Heap) : Prop :=
 Lp 4 (fun X1 t0_1 t1_1 t5 t7 h =>
 go (Bin .int .lss t7 (.int .i64 64)) h fun t8 h =>
 If t8 (
 Join 4 (fun J2 =>
 go (Bin .int .shr t0_1 t7) h fun t12 h =>
 go (Bin .int .and t12 (.int .u64 1)) h fun t13 h =>
 go (Bin .int .shr t1_1 t7) h fun t16 h =>
 go (Bin .int .and t16 (.int .u64 1)) h fun t17 h =>
 go (Bin .int .neq t13 t17) h fun t18 h =>
 If t18 (
 go (Bin .int .shl (.int .u64 1) t7) h fun t21 h =>
 go (Bin .int .or t5 t21) h fun t22 h =>
 J2 t0_1 t1_1 t22 t7 h) (
 J2 t0_1 t1_1 t5 t7 h)) (fun t0_2 t1_2 t5_1 t7_1 h =>
 go (Bin .int .add t7_1 (.int .i64 1)) h fun t23 h =>
 X1 t0_2 t1_2 t5_1 t23 h)) (
 K t5 h)) [t0, t1, (.int .u64 0), (.int .i64 0)] h
set_option maxRecDepth 100000 in
theorem bradawllaw09_step_1.eq : (fun t0 t1 K h => bradawllaw09_step_1.pt t0 t1 K h : Value → Value → Ret → Heap → Prop) = (fun t0 t1 K h => fnPt Try.prog [] Try.f16 bradawllaw09_step_1.ann [t0, t1] K h) := by kernel_rfl
theorem bradawllaw09_step_1.ok {t0 t1 : Value} {K : Ret} {h : Heap} (hp : bradawllaw09_step_1.pt t0 t1 K h) : CallH Try.prog 16 #[t0, t1] K h :=
  fn_sound (qs := []) (fn := Try.f16) (ann := bradawllaw09_step_1.ann) (args := [t0, t1]) follows_mixed Try.func16 ((Eq.to_iff (congrFun (congrFun (congrFun (congrFun (bradawllaw09_step_1.eq) t0) t1) K) h)).mp hp)

end Go.Proofs.Ytjpgmchfbhjgaaa
