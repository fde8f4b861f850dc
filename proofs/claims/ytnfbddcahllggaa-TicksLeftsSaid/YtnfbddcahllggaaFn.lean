/- What each Go function asks, in the primitives of Pt; written by a program of mine (ptgen.py) out of the translation; Lean checks that it is so. -/
import Derived.Test.YtnfbddcahllggaaProg
import Derived.KernelRfl
import Derived.Test.YtnfbddcahllggaaPtO
namespace Go.Proofs.Ytnfbddcahllggaa
open Go.Pt
set_option linter.unusedVariables false
theorem follows_mixed : Try.prog.follows .mixedOrders = true := by kernel_rfl
/-! ### bradawl/bradawllaw10.TicksCounts: function 6 -/
abbrev bradawllaw10_TicksCounts.id : FuncId := 6
def bradawllaw10_TicksCounts.ann : Ann := (.seq none .leaf (.seq none (.seq none .leaf (.cond (.seq none .leaf .leaf) .leaf)) (.seq none (.seq none .leaf (.cond (.seq none .leaf .leaf) .leaf)) (.seq none .leaf (.seq none .leaf (.seq (some [1, 2, 7, 8]) (.seq none .leaf (.cond .leaf .leaf)) (.seq none .leaf (.seq none (.seq none .leaf (.block (.loop [2, 7, 8, 9, 27, 28, 29] (.seq none .leaf (.seq none (.cond .leaf .leaf) (.seq none (.block (.seq none .leaf (.seq none .leaf (.seq none .leaf (.seq none .leaf (.cond (.seq none .leaf .leaf) .leaf)))))) .leaf)))))) (.seq none .leaf (.seq (some [2, 7]) (.seq none .leaf (.cond .leaf .leaf)) (.seq none .leaf .leaf)))))))))))
set_option maxRecDepth 100000 in
def bradawllaw10_TicksCounts.pt (t0 t1 t2 : Value) (K : Ret) (h : Heap) : Prop :=
 go (CallF Try.prog 8 []) h fun t13 h =>
 go (Un .not t13) h fun t14 h =>
 If t14 (
 K (.bool false) h) (
 go (Len t1) h fun t16 h =>
 go (Bin .int .gtr t16 (.int .i64 60)) h fun t17 h =>
 If t17 (
 K (.bool true) h) (
 go (CallF Try.prog 13 [t0]) h fun t19 h =>
 Join 4 (fun J1 =>
 go (Bin .int .lss t0 (.int .i64 0)) h fun t22 h =>
 go (Gd t22 false (Mv t0)) h fun t24 h =>
 go (Gd t22 false (Bin .int .gtr t24 (.int .i64 4611686018427387904))) h fun t25 h =>
 go (Pick t22 (.bool true) t25) h fun t26 h =>
 If t26 (
 J1 t1 t2 t19 (.int .i64 4611686018427387904) h) (
 J1 t1 t2 t19 t0 h)) (fun t1_1 t2_1 t7 t8 h =>
 go (Len t1_1) h fun t28 h =>
 Lp 7 (fun X2 t2_2 t7_1 t8_1 t9 t27 t28_1 t29 h =>
 go (Bin .int .lss t29 t28_1) h fun t30 h =>
 If t30 (
 go (Idx 1 t27 t29) h fun t31 h =>
 go (Ld t31) h fun t32 h =>
 go (CallF Try.prog 10 [t9, t32]) h fun t35 h =>
 go (Bin .int .geq t35 t8_1) h fun t38 h =>
 go (Gd t38 true (Mv t8_1)) h fun t40 h =>
 go (Gd t38 true (Bin .int .lss t40 (.int .i64 4611686018427387904))) h fun t41 h =>
 go (Pick t38 t41 (.bool false)) h fun t42 h =>
 go (CallF Try.prog 14 [t7_1, t32]) h fun t45 h =>
 go (Bin .bool .eql t45 t42) h fun t47 h =>
 go (Gd t47 false (Mv t7_1)) h fun t49 h =>
 go (Gd t47 false (CallF Try.prog 15 [t49])) h fun t50 h =>
 go (Gd t47 false (Mv t35)) h fun t51 h =>
 go (Gd t47 false (Bin .int .neq t50 t51)) h fun t52 h =>
 go (Pick t47 (.bool true) t52) h fun t53 h =>
 go (Gd t53 false (Mv t7_1)) h fun t55 h =>
 go (Gd t53 false (CallF Try.prog 16 [t55])) h fun t56 h =>
 go (Gd t53 false (Mv t42)) h fun t57 h =>
 go (Gd t53 false (Bin .bool .neq t56 t57)) h fun t58 h =>
 go (Pick t53 (.bool true) t58) h fun t59 h =>
 go (Gd t59 false (Mv t7_1)) h fun t61 h =>
 go (Gd t59 false (CallF Try.prog 17 [t61])) h fun t62 h =>
 go (Gd t59 false (Mv t8_1)) h fun t63 h =>
 go (Gd t59 false (Mv t35)) h fun t64 h =>
 go (Gd t59 false (Bin .int .sub t63 t64)) h fun t65 h =>
 go (Gd t59 false (MaxV [t65, (.int .i64 0)])) h fun t66 h =>
 go (Gd t59 false (Bin .int .neq t62 t66)) h fun t67 h =>
 go (Pick t59 (.bool true) t67) h fun t68 h =>
 If t68 (
 K (.bool false) h) (
 go (Bin .int .add t29 (.int .i64 1)) h fun t69 h =>
 X2 t2_2 t7_1 t8_1 t35 t27 t28_1 t69 h)) (
 go (CallF Try.prog 18 [t7_1, t2_2]) h fun t72 h =>
 Join 2 (fun J3 =>
 go (Bin .int .lss t2_2 (.int .i64 0)) h fun t74 h =>
 go (Gd t74 false (Mv t2_2)) h fun t76 h =>
 go (Gd t74 false (Bin .int .gtr t76 (.int .i64 4611686018427387904))) h fun t77 h =>
 go (Pick t74 (.bool true) t77) h fun t78 h =>
 If t78 (
 J3 (.int .i64 4611686018427387904) t7_1 h) (
 J3 t2_2 t7_1 h)) (fun t2_3 t7_2 h =>
 go (CallF Try.prog 15 [t7_2]) h fun t80 h =>
 go (Bin .int .eql t80 (.int .i64 0)) h fun t81 h =>
 go (Gd t81 true (Mv t7_2)) h fun t83 h =>
 go (Gd t81 true (CallF Try.prog 17 [t83])) h fun t84 h =>
 go (Gd t81 true (Mv t2_3)) h fun t85 h =>
 go (Gd t81 true (Bin .int .eql t84 t85)) h fun t86 h =>
 go (Pick t81 t86 (.bool false)) h fun t87 h =>
 go (Gd t87 true (Mv t7_2)) h fun t89 h =>
 go (Gd t87 true (CallF Try.prog 16 [t89])) h fun t90 h =>
 go (Gd t87 true (Mv t2_3)) h fun t91 h =>
 go (Gd t87 true (Bin .int .eql t91 (.int .i64 0))) h fun t92 h =>
 go (Gd t87 true (Bin .bool .eql t90 t92)) h fun t93 h =>
 go (Pick t87 t93 (.bool false)) h fun t94 h =>
 K t94 h))) [t2_1, t7, t8, (.int .i64 0), t1_1, t28, (.int .i64 0)] h)))
set_option maxRecDepth 100000 in
theorem bradawllaw10_TicksCounts.eq : (fun t0 t1 t2 K h => bradawllaw10_TicksCounts.pt t0 t1 t2 K h : Value → Value → Value → Ret → Heap → Prop) = (fun t0 t1 t2 K h => fnPt Try.prog [] Try.f6 bradawllaw10_TicksCounts.ann [t0, t1, t2] K h) := by kernel_rfl
theorem bradawllaw10_TicksCounts.ok {t0 t1 t2 : Value} {K : Ret} {h : Heap} (hp : bradawllaw10_TicksCounts.pt t0 t1 t2 K h) : CallH Try.prog 6 #[t0, t1, t2] K h :=
  fn_sound (qs := []) (fn := Try.f6) (ann := bradawllaw10_TicksCounts.ann) (args := [t0, t1, t2]) follows_mixed Try.func6 ((Eq.to_iff (congrFun (congrFun (congrFun (congrFun (congrFun (bradawllaw10_TicksCounts.eq) t0) t1) t2) K) h)).mp hp)

/-! ### bradawl/bradawllaw10.TicksLefts: function 7 -/
abbrev bradawllaw10_TicksLefts.id : FuncId := 7
def bradawllaw10_TicksLefts.ann : Ann := (.seq none .leaf (.seq none (.seq none .leaf (.cond (.seq none .leaf .leaf) .leaf)) (.seq none (.seq none .leaf (.cond (.seq none .leaf .leaf) .leaf)) (.seq none .leaf (.seq none .leaf (.seq none (.seq none .leaf (.block (.loop [0, 5, 6, 18, 19, 20] (.seq none .leaf (.seq none (.cond .leaf .leaf) (.seq none (.block (.seq none .leaf (.seq none .leaf (.seq none .leaf (.seq none .leaf (.cond (.seq none .leaf .leaf) .leaf)))))) .leaf)))))) (.seq none .leaf (.seq none .leaf .leaf))))))))
set_option maxRecDepth 100000 in
def bradawllaw10_TicksLefts.pt (t0 t1 : Value) (K : Ret) (h : Heap) : Prop :=
 go (CallF Try.prog 8 []) h fun t10 h =>
 go (Un .not t10) h fun t11 h =>
 If t11 (
 K (.bool false) h) (
 go (Len t1) h fun t13 h =>
 go (Bin .int .gtr t13 (.int .i64 100)) h fun t14 h =>
 If t14 (
 K (.bool true) h) (
 go (Cvt .i64 t0) h fun t16 h =>
 go (CallF Try.prog 13 [t16]) h fun t17 h =>
 go (Len t1) h fun t19 h =>
 Lp 6 (fun X1 t0_1 t5 t6 t18 t19_1 t20 h =>
 go (Bin .int .lss t20 t19_1) h fun t21 h =>
 If t21 (
 go (Idx 1 t18 t20) h fun t22 h =>
 go (Ld t22) h fun t23 h =>
 go (Cvt .i64 t23) h fun t26 h =>
 go (Bin .int .add t6 t26) h fun t27 h =>
 go (Cvt .i64 t23) h fun t30 h =>
 go (CallF Try.prog 14 [t5, t30]) h fun t31 h =>
 go (Cvt .i64 t0_1) h fun t35 h =>
 go (Bin .int .lss t27 t35) h fun t36 h =>
 go (Bin .bool .neq t31 t36) h fun t37 h =>
 go (Gd t37 false (Mv t31)) h fun t39 h =>
 go (Gd t37 false (Mv t39)) h fun t40 h =>
 go (Gd t40 true (Mv t5)) h fun t41 h =>
 go (Gd t40 true (CallF Try.prog 17 [t41])) h fun t42 h =>
 go (Gd t40 true (Mv t5)) h fun t43 h =>
 go (Gd t40 true (CallF Try.prog 15 [t43])) h fun t44 h =>
 go (Gd t40 true (Bin .int .add t42 t44)) h fun t45 h =>
 go (Gd t40 true (Mv t0_1)) h fun t46 h =>
 go (Gd t40 true (Cvt .i64 t46)) h fun t47 h =>
 go (Gd t40 true (Bin .int .neq t45 t47)) h fun t48 h =>
 go (Gd t37 false (Pick t40 t48 (.bool false))) h fun t49 h =>
 go (Pick t37 (.bool true) t49) h fun t50 h =>
 go (Gd t50 false (Mv t31)) h fun t52 h =>
 go (Gd t50 false (Un .not t52)) h fun t53 h =>
 go (Gd t50 false (Mv t53)) h fun t54 h =>
 go (Gd t54 true (Mv t5)) h fun t55 h =>
 go (Gd t54 true (CallF Try.prog 17 [t55])) h fun t56 h =>
 go (Gd t54 true (Bin .int .neq t56 (.int .i64 0))) h fun t57 h =>
 go (Gd t50 false (Pick t54 t57 (.bool false))) h fun t58 h =>
 go (Pick t50 (.bool true) t58) h fun t59 h =>
 go (Gd t59 false (Mv t5)) h fun t61 h =>
 go (Gd t59 false (CallF Try.prog 15 [t61])) h fun t62 h =>
 go (Gd t59 false (Mv t27)) h fun t63 h =>
 go (Gd t59 false (Bin .int .neq t62 t63)) h fun t64 h =>
 go (Pick t59 (.bool true) t64) h fun t65 h =>
 If t65 (
 K (.bool false) h) (
 go (Bin .int .add t20 (.int .i64 1)) h fun t66 h =>
 X1 t0_1 t5 t27 t18 t19_1 t66 h)) (
 go (Cvt .i64 t0_1) h fun t69 h =>
 go (CallF Try.prog 18 [t5, t69]) h fun t70 h =>
 go (CallF Try.prog 17 [t5]) h fun t72 h =>
 go (Cvt .i64 t0_1) h fun t74 h =>
 go (Bin .int .eql t72 t74) h fun t75 h =>
 go (Gd t75 true (Mv t5)) h fun t77 h =>
 go (Gd t75 true (CallF Try.prog 15 [t77])) h fun t78 h =>
 go (Gd t75 true (Bin .int .eql t78 (.int .i64 0))) h fun t79 h =>
 go (Pick t75 t79 (.bool false)) h fun t80 h =>
 K t80 h)) [t0, t17, (.int .i64 0), t1, t19, (.int .i64 0)] h))
set_option maxRecDepth 100000 in
theorem bradawllaw10_TicksLefts.eq : (fun t0 t1 K h => bradawllaw10_TicksLefts.pt t0 t1 K h : Value → Value → Ret → Heap → Prop) = (fun t0 t1 K h => fnPt Try.prog [] Try.f7 bradawllaw10_TicksLefts.ann [t0, t1] K h) := by kernel_rfl
theorem bradawllaw10_TicksLefts.ok {t0 t1 : Value} {K : Ret} {h : Heap} (hp : bradawllaw10_TicksLefts.pt t0 t1 K h) : CallH Try.prog 7 #[t0, t1] K h :=
  fn_sound (qs := []) (fn := Try.f7) (ann := bradawllaw10_TicksLefts.ann) (args := [t0, t1]) follows_mixed Try.func7 ((Eq.to_iff (congrFun (congrFun (congrFun (congrFun (bradawllaw10_TicksLefts.eq) t0) t1) K) h)).mp hp)

/-! ### bradawl/bradawllaw10.fit: function 8 -/
abbrev bradawllaw10_fit.id : FuncId := 8
def bradawllaw10_fit.ann : Ann := (.seq none .leaf (.seq none .leaf .leaf))
set_option maxRecDepth 100000 in
def bradawllaw10_fit.pt (K : Ret) (h : Heap) : Prop :=
 go (CallF Try.prog 10 [(.int .i64 4611686018427387904), (.int .i64 1)]) h fun t1 h =>
 go (Bin .int .eql t1 (.int .i64 4611686018427387904)) h fun t2 h =>
 go (Gd t2 true (CallF Try.prog 10 [(.int .i64 2), (.int .i64 (-3))])) h fun t4 h =>
 go (Gd t2 true (Bin .int .eql t4 (.int .i64 2))) h fun t5 h =>
 go (Pick t2 t5 (.bool false)) h fun t6 h =>
 go (Gd t6 true (CallF Try.prog 11 [(.int .i64 3), (.int .i64 4)])) h fun t8 h =>
 go (Gd t6 true (Bin .int .eql t8 (.int .i64 12))) h fun t9 h =>
 go (Pick t6 t9 (.bool false)) h fun t10 h =>
 go (Gd t10 true (CallF Try.prog 12 [(.int .i64 7)])) h fun t12 h =>
 go (Gd t10 true (Bin .int .eql t12 (.int .i64 4))) h fun t13 h =>
 go (Pick t10 t13 (.bool false)) h fun t14 h =>
 go (Gd t14 true (CallF Try.prog 13 [(.int .i64 5)])) h fun t16 h =>
 go (Gd t14 true (Bin .pointer .neq t16 (.pointer none))) h fun t17 h =>
 go (Pick t14 t17 (.bool false)) h fun t18 h =>
 K t18 h
set_option maxRecDepth 100000 in
theorem bradawllaw10_fit.eq : (fun K h => bradawllaw10_fit.pt K h : Ret → Heap → Prop) = (fun K h => fnPt Try.prog [] Try.f8 bradawllaw10_fit.ann [] K h) := by kernel_rfl
theorem bradawllaw10_fit.ok {K : Ret} {h : Heap} (hp : bradawllaw10_fit.pt K h) : CallH Try.prog 8 #[] K h :=
  fn_sound (qs := []) (fn := Try.f8) (ann := bradawllaw10_fit.ann) (args := []) follows_mixed Try.func8 ((Eq.to_iff (congrFun (congrFun (bradawllaw10_fit.eq) K) h)).mp hp)

/-! ### bradawl/bradawllaw10.whole: function 9 -/
abbrev bradawllaw10_whole.id : FuncId := 9
def bradawllaw10_whole.ann : Ann := (.seq none .leaf (.seq none .leaf .leaf))
set_option maxRecDepth 100000 in
def bradawllaw10_whole.pt (t0 : Value) (K : Ret) (h : Heap) : Prop :=
 go (MaxV [t0, (.int .i64 0)]) h fun t4 h =>
 go (MinV [t4, (.int .i64 4611686018427387904)]) h fun t5 h =>
 K t5 h
set_option maxRecDepth 100000 in
theorem bradawllaw10_whole.eq : (fun t0 K h => bradawllaw10_whole.pt t0 K h : Value → Ret → Heap → Prop) = (fun t0 K h => fnPt Try.prog [] Try.f9 bradawllaw10_whole.ann [t0] K h) := by kernel_rfl
theorem bradawllaw10_whole.ok {t0 : Value} {K : Ret} {h : Heap} (hp : bradawllaw10_whole.pt t0 K h) : CallH Try.prog 9 #[t0] K h :=
  fn_sound (qs := []) (fn := Try.f9) (ann := bradawllaw10_whole.ann) (args := [t0]) follows_mixed Try.func9 ((Eq.to_iff (congrFun (congrFun (congrFun (bradawllaw10_whole.eq) t0) K) h)).mp hp)

/-! ### bradawl/ticks.Sum: function 10 -/
abbrev ticks_Sum.id : FuncId := 10
def ticks_Sum.ann : Ann := (.seq none .leaf (.seq none .leaf .leaf))
set_option maxRecDepth 100000 in
def ticks_Sum.pt (t0 t1 : Value) (K : Ret) (h : Heap) : Prop :=
 go (CallF Try.prog 19 [t0]) h fun t6 h =>
 go (Cvt .u64 t6) h fun t7 h =>
 go (CallF Try.prog 19 [t1]) h fun t9 h =>
 go (Cvt .u64 t9) h fun t10 h =>
 go (Bin .int .add t7 t10) h fun t11 h =>
 go (MinV [t11, (.int .u64 4611686018427387904)]) h fun t12 h =>
 go (Cvt .i64 t12) h fun t13 h =>
 K t13 h
set_option maxRecDepth 100000 in
theorem ticks_Sum.eq : (fun t0 t1 K h => ticks_Sum.pt t0 t1 K h : Value → Value → Ret → Heap → Prop) = (fun t0 t1 K h => fnPt Try.prog [] Try.f10 ticks_Sum.ann [t0, t1] K h) := by kernel_rfl
theorem ticks_Sum.ok {t0 t1 : Value} {K : Ret} {h : Heap} (hp : ticks_Sum.pt t0 t1 K h) : CallH Try.prog 10 #[t0, t1] K h :=
  fn_sound (qs := []) (fn := Try.f10) (ann := ticks_Sum.ann) (args := [t0, t1]) follows_mixed Try.func10 ((Eq.to_iff (congrFun (congrFun (congrFun (congrFun (ticks_Sum.eq) t0) t1) K) h)).mp hp)

/-! ### bradawl/ticks.Times: function 11 -/
abbrev ticks_Times.id : FuncId := 11
def ticks_Times.ann : Ann := (.seq none .leaf (.seq none .leaf (.seq none (.seq none .leaf (.cond (.seq none .leaf .leaf) .leaf)) (.seq none .leaf .leaf))))
set_option maxRecDepth 100000 in
def ticks_Times.pt (t0 t1 : Value) (K : Ret) (h : Heap) : Prop :=
 go (CallF Try.prog 19 [t0]) h fun t9 h =>
 go (Cvt .u64 t9) h fun t10 h =>
 go (CallF Try.prog 19 [t1]) h fun t12 h =>
 go (Cvt .u64 t12) h fun t13 h =>
 go (CallF Try.prog 20 [t10, t13]) h fun t14 h =>
 go (Ext 0 t14) h fun t15 h =>
 go (Ext 1 t14) h fun t16 h =>
 go (Bin .int .gtr t15 (.int .u64 0)) h fun t18 h =>
 If t18 (
 K (.int .i64 4611686018427387904) h) (
 go (MinV [t16, (.int .u64 4611686018427387904)]) h fun t20 h =>
 go (Cvt .i64 t20) h fun t21 h =>
 K t21 h)
set_option maxRecDepth 100000 in
theorem ticks_Times.eq : (fun t0 t1 K h => ticks_Times.pt t0 t1 K h : Value → Value → Ret → Heap → Prop) = (fun t0 t1 K h => fnPt Try.prog [] Try.f11 ticks_Times.ann [t0, t1] K h) := by kernel_rfl
theorem ticks_Times.ok {t0 t1 : Value} {K : Ret} {h : Heap} (hp : ticks_Times.pt t0 t1 K h) : CallH Try.prog 11 #[t0, t1] K h :=
  fn_sound (qs := []) (fn := Try.f11) (ann := ticks_Times.ann) (args := [t0, t1]) follows_mixed Try.func11 ((Eq.to_iff (congrFun (congrFun (congrFun (congrFun (ticks_Times.eq) t0) t1) K) h)).mp hp)

/-! ### bradawl/ticks.Luby: function 12 -/
abbrev ticks_Luby.id : FuncId := 12
def ticks_Luby.ann : Ann := (.seq none .leaf (.seq none (.block (.loop [0] (.seq none (.seq none .leaf (.cond .leaf .leaf)) (.block (.seq none .leaf (.seq none (.seq none .leaf (.cond (.seq none .leaf .leaf) .leaf)) .leaf)))))) (.seq none .leaf .leaf)))
set_option maxRecDepth 100000 in
def ticks_Luby.pt (t0 : Value) (K : Ret) (h : Heap) : Prop :=
 Lp 1 (fun X1 t0_1 h =>
 go (Bin .int .geq t0_1 (.int .i64 1)) h fun t5 h =>
 If t5 (
 go (Cvt .u64 t0_1) h fun t7 h =>
 go (CallF Try.prog 21 [t7]) h fun t8 h =>
 go (Bin .int .shl (.int .i64 1) t8) h fun t11 h =>
 go (Bin .int .sub t11 (.int .i64 1)) h fun t12 h =>
 go (Bin .int .eql t0_1 t12) h fun t13 h =>
 If t13 (
 go (Bin .int .sub t8 (.int .i64 1)) h fun t15 h =>
 go (Bin .int .shl (.int .i64 1) t15) h fun t16 h =>
 K t16 h) (
 go (Bin .int .sub t8 (.int .i64 1)) h fun t19 h =>
 go (Bin .int .shl (.int .i64 1) t19) h fun t20 h =>
 go (Bin .int .sub t20 (.int .i64 1)) h fun t21 h =>
 go (Bin .int .sub t0_1 t21) h fun t22 h =>
 X1 t22 h)) (
 K (.int .i64 1) h)) [t0] h
set_option maxRecDepth 100000 in
theorem ticks_Luby.eq : (fun t0 K h => ticks_Luby.pt t0 K h : Value → Ret → Heap → Prop) = (fun t0 K h => fnPt Try.prog [] Try.f12 ticks_Luby.ann [t0] K h) := by kernel_rfl
theorem ticks_Luby.ok {t0 : Value} {K : Ret} {h : Heap} (hp : ticks_Luby.pt t0 K h) : CallH Try.prog 12 #[t0] K h :=
  fn_sound (qs := []) (fn := Try.f12) (ann := ticks_Luby.ann) (args := [t0]) follows_mixed Try.func12 ((Eq.to_iff (congrFun (congrFun (congrFun (ticks_Luby.eq) t0) K) h)).mp hp)

/-! ### bradawl/ticks.New: function 13 -/
abbrev ticks_New.id : FuncId := 13
def ticks_New.ann : Ann := (.seq none .leaf (.seq none .leaf (.seq none .leaf (.seq none .leaf .leaf))))
set_option maxRecDepth 100000 in
def ticks_New.pt (t0 : Value) (K : Ret) (h : Heap) : Prop :=
 go (Bld [(0, 1), (1, 1)] #[(.int .i64 0), (.int .i64 0)] []) h fun t4 h =>
 go (New (Value.cells t4) 45) h fun t5 h =>
 go (CallF Try.prog 18 [t5, t0]) h fun t8 h =>
 K t5 h
set_option maxRecDepth 100000 in
theorem ticks_New.eq : (fun t0 K h => ticks_New.pt t0 K h : Value → Ret → Heap → Prop) = (fun t0 K h => fnPt Try.prog [] Try.f13 ticks_New.ann [t0] K h) := by kernel_rfl
theorem ticks_New.ok {t0 : Value} {K : Ret} {h : Heap} (hp : ticks_New.pt t0 K h) : CallH Try.prog 13 #[t0] K h :=
  fn_sound (qs := []) (fn := Try.f13) (ann := ticks_New.ann) (args := [t0]) follows_mixed Try.func13 ((Eq.to_iff (congrFun (congrFun (congrFun (ticks_New.eq) t0) K) h)).mp hp)

/-! ### (*bradawl/ticks.Count).Add: function 14 -/
abbrev ticks_Count_Add.id : FuncId := 14
def ticks_Count_Add.ann : Ann := (.seq none .leaf (.seq none .leaf (.seq none .leaf .leaf)))
set_option maxRecDepth 100000 in
def ticks_Count_Add.pt (t0 t1 : Value) (K : Ret) (h : Heap) : Prop :=
 go (NilC t0) h fun t7 h =>
 go (Fld 0 t7) h fun t8 h =>
 go (Ld t8) h fun t9 h =>
 go (CallF Try.prog 10 [t9, t1]) h fun t11 h =>
 go (NilC t0) h fun t12 h =>
 go (Fld 0 t12) h fun t13 h =>
 go (St t13 t11) h fun _ h =>
 go (CallF Try.prog 16 [t0]) h fun t15 h =>
 go (Un .not t15) h fun t16 h =>
 K t16 h
set_option maxRecDepth 100000 in
theorem ticks_Count_Add.eq : (fun t0 t1 K h => ticks_Count_Add.pt t0 t1 K h : Value → Value → Ret → Heap → Prop) = (fun t0 t1 K h => fnPt Try.prog [] Try.f14 ticks_Count_Add.ann [t0, t1] K h) := by kernel_rfl
theorem ticks_Count_Add.ok {t0 t1 : Value} {K : Ret} {h : Heap} (hp : ticks_Count_Add.pt t0 t1 K h) : CallH Try.prog 14 #[t0, t1] K h :=
  fn_sound (qs := []) (fn := Try.f14) (ann := ticks_Count_Add.ann) (args := [t0, t1]) follows_mixed Try.func14 ((Eq.to_iff (congrFun (congrFun (congrFun (congrFun (ticks_Count_Add.eq) t0) t1) K) h)).mp hp)

/-! ### (*bradawl/ticks.Count).Value: function 15 -/
abbrev ticks_Count_Value.id : FuncId := 15
def ticks_Count_Value.ann : Ann := (.seq none .leaf (.seq none .leaf .leaf))
set_option maxRecDepth 100000 in
def ticks_Count_Value.pt (t0 : Value) (K : Ret) (h : Heap) : Prop :=
 go (NilC t0) h fun t4 h =>
 go (Fld 0 t4) h fun t5 h =>
 go (Ld t5) h fun t6 h =>
 K t6 h
set_option maxRecDepth 100000 in
theorem ticks_Count_Value.eq : (fun t0 K h => ticks_Count_Value.pt t0 K h : Value → Ret → Heap → Prop) = (fun t0 K h => fnPt Try.prog [] Try.f15 ticks_Count_Value.ann [t0] K h) := by kernel_rfl
theorem ticks_Count_Value.ok {t0 : Value} {K : Ret} {h : Heap} (hp : ticks_Count_Value.pt t0 K h) : CallH Try.prog 15 #[t0] K h :=
  fn_sound (qs := []) (fn := Try.f15) (ann := ticks_Count_Value.ann) (args := [t0]) follows_mixed Try.func15 ((Eq.to_iff (congrFun (congrFun (congrFun (ticks_Count_Value.eq) t0) K) h)).mp hp)

/-! ### (*bradawl/ticks.Count).Over: function 16 -/
abbrev ticks_Count_Over.id : FuncId := 16
def ticks_Count_Over.ann : Ann := (.seq none .leaf (.seq none .leaf .leaf))
set_option maxRecDepth 100000 in
def ticks_Count_Over.pt (t0 : Value) (K : Ret) (h : Heap) : Prop :=
 go (NilC t0) h fun t4 h =>
 go (Fld 0 t4) h fun t5 h =>
 go (Ld t5) h fun t6 h =>
 go (NilC t0) h fun t8 h =>
 go (Fld 1 t8) h fun t9 h =>
 go (Ld t9) h fun t10 h =>
 go (Bin .int .geq t6 t10) h fun t11 h =>
 go (Gd t11 true (Mv t0)) h fun t13 h =>
 go (Gd t11 true (NilC t13)) h fun t14 h =>
 go (Gd t11 true (Fld 1 t14)) h fun t15 h =>
 go (Gd t11 true (Ld t15)) h fun t16 h =>
 go (Gd t11 true (Bin .int .lss t16 (.int .i64 4611686018427387904))) h fun t17 h =>
 go (Pick t11 t17 (.bool false)) h fun t18 h =>
 K t18 h
set_option maxRecDepth 100000 in
theorem ticks_Count_Over.eq : (fun t0 K h => ticks_Count_Over.pt t0 K h : Value → Ret → Heap → Prop) = (fun t0 K h => fnPt Try.prog [] Try.f16 ticks_Count_Over.ann [t0] K h) := by kernel_rfl
theorem ticks_Count_Over.ok {t0 : Value} {K : Ret} {h : Heap} (hp : ticks_Count_Over.pt t0 K h) : CallH Try.prog 16 #[t0] K h :=
  fn_sound (qs := []) (fn := Try.f16) (ann := ticks_Count_Over.ann) (args := [t0]) follows_mixed Try.func16 ((Eq.to_iff (congrFun (congrFun (congrFun (ticks_Count_Over.eq) t0) K) h)).mp hp)

/-! ### (*bradawl/ticks.Count).Left: function 17 -/
abbrev ticks_Count_Left.id : FuncId := 17
def ticks_Count_Left.ann : Ann := (.seq none .leaf (.seq none .leaf .leaf))
set_option maxRecDepth 100000 in
def ticks_Count_Left.pt (t0 : Value) (K : Ret) (h : Heap) : Prop :=
 go (NilC t0) h fun t4 h =>
 go (Fld 1 t4) h fun t5 h =>
 go (Ld t5) h fun t6 h =>
 go (NilC t0) h fun t8 h =>
 go (Fld 0 t8) h fun t9 h =>
 go (Ld t9) h fun t10 h =>
 go (Bin .int .sub t6 t10) h fun t11 h =>
 go (MaxV [t11, (.int .i64 0)]) h fun t12 h =>
 K t12 h
set_option maxRecDepth 100000 in
theorem ticks_Count_Left.eq : (fun t0 K h => ticks_Count_Left.pt t0 K h : Value → Ret → Heap → Prop) = (fun t0 K h => fnPt Try.prog [] Try.f17 ticks_Count_Left.ann [t0] K h) := by kernel_rfl
theorem ticks_Count_Left.ok {t0 : Value} {K : Ret} {h : Heap} (hp : ticks_Count_Left.pt t0 K h) : CallH Try.prog 17 #[t0] K h :=
  fn_sound (qs := []) (fn := Try.f17) (ann := ticks_Count_Left.ann) (args := [t0]) follows_mixed Try.func17 ((Eq.to_iff (congrFun (congrFun (congrFun (ticks_Count_Left.eq) t0) K) h)).mp hp)

/-! ### (*bradawl/ticks.Count).Reset: function 18 -/
abbrev ticks_Count_Reset.id : FuncId := 18
def ticks_Count_Reset.ann : Ann := (.seq (some [0, 1]) (.seq none .leaf (.cond .leaf .leaf)) .leaf)
set_option maxRecDepth 100000 in
def ticks_Count_Reset.pt (t0 t1 : Value) (K : Ret) (h : Heap) : Prop :=
 Join 2 (fun J1 =>
 go (Bin .int .lss t1 (.int .i64 0)) h fun t5 h =>
 If t5 (
 J1 t0 (.int .i64 4611686018427387904) h) (
 J1 t0 t1 h)) (fun t0_1 t1_1 h =>
 go (CallF Try.prog 19 [t1_1]) h fun t9 h =>
 go (NilC t0_1) h fun t10 h =>
 go (Fld 0 t10) h fun t11 h =>
 go (St t11 (.int .i64 0)) h fun _ h =>
 go (NilC t0_1) h fun t12 h =>
 go (Fld 1 t12) h fun t13 h =>
 go (St t13 t9) h fun _ h =>
 K (.tuple #[]) h)
set_option maxRecDepth 100000 in
theorem ticks_Count_Reset.eq : (fun t0 t1 K h => ticks_Count_Reset.pt t0 t1 K h : Value → Value → Ret → Heap → Prop) = (fun t0 t1 K h => fnPt Try.prog [] Try.f18 ticks_Count_Reset.ann [t0, t1] K h) := by kernel_rfl
theorem ticks_Count_Reset.ok {t0 t1 : Value} {K : Ret} {h : Heap} (hp : ticks_Count_Reset.pt t0 t1 K h) : CallH Try.prog 18 #[t0, t1] K h :=
  fn_sound (qs := []) (fn := Try.f18) (ann := ticks_Count_Reset.ann) (args := [t0, t1]) follows_mixed Try.func18 ((Eq.to_iff (congrFun (congrFun (congrFun (congrFun (ticks_Count_Reset.eq) t0) t1) K) h)).mp hp)

/-! ### bradawl/ticks.fit: function 19 -/
abbrev ticks_fit.id : FuncId := 19
def ticks_fit.ann : Ann := (.seq none .leaf (.seq none .leaf .leaf))
set_option maxRecDepth 100000 in
def ticks_fit.pt (t0 : Value) (K : Ret) (h : Heap) : Prop :=
 go (MaxV [t0, (.int .i64 0)]) h fun t4 h =>
 go (MinV [t4, (.int .i64 4611686018427387904)]) h fun t5 h =>
 K t5 h
set_option maxRecDepth 100000 in
theorem ticks_fit.eq : (fun t0 K h => ticks_fit.pt t0 K h : Value → Ret → Heap → Prop) = (fun t0 K h => fnPt Try.prog [] Try.f19 ticks_fit.ann [t0] K h) := by kernel_rfl
theorem ticks_fit.ok {t0 : Value} {K : Ret} {h : Heap} (hp : ticks_fit.pt t0 K h) : CallH Try.prog 19 #[t0] K h :=
  fn_sound (qs := []) (fn := Try.f19) (ann := ticks_fit.ann) (args := [t0]) follows_mixed Try.func19 ((Eq.to_iff (congrFun (congrFun (congrFun (ticks_fit.eq) t0) K) h)).mp hp)

/-! ### math/bits.Mul64: function 20 -/
abbrev bits_Mul64.id : FuncId := 20
def bits_Mul64.ann : Ann := (.seq none .leaf (.seq none .leaf (.seq none .leaf (.seq none .leaf (.seq none .leaf (.seq none .leaf (.seq none .leaf (.seq none .leaf (.seq none .leaf (.seq none .leaf (.seq none .leaf (.seq none .leaf .leaf))))))))))))
set_option maxRecDepth 100000 in
def bits_Mul64.pt (t0 t1 : Value) (K : Ret) (h : Heap) : Prop :=
 go (Bin .int .and t0 (.int .u64 4294967295)) h fun t15 h =>
 go (Bin .int .shr t0 (.int .u64 32)) h fun t17 h =>
 go (Bin .int .and t1 (.int .u64 4294967295)) h fun t19 h =>
 go (Bin .int .shr t1 (.int .u64 32)) h fun t21 h =>
 go (Bin .int .mul t15 t19) h fun t24 h =>
 go (Bin .int .mul t17 t19) h fun t27 h =>
 go (Bin .int .shr t24 (.int .u64 32)) h fun t29 h =>
 go (Bin .int .add t27 t29) h fun t30 h =>
 go (Bin .int .and t30 (.int .u64 4294967295)) h fun t32 h =>
 go (Bin .int .shr t30 (.int .u64 32)) h fun t34 h =>
 go (Bin .int .mul t15 t21) h fun t38 h =>
 go (Bin .int .add t32 t38) h fun t39 h =>
 go (Bin .int .mul t17 t21) h fun t42 h =>
 go (Bin .int .add t42 t34) h fun t44 h =>
 go (Bin .int .shr t39 (.int .u64 32)) h fun t46 h =>
 go (Bin .int .add t44 t46) h fun t47 h =>
 go (Bin .int .mul t0 t1) h fun t50 h =>
 K (.tuple #[t47, t50]) h
set_option maxRecDepth 100000 in
theorem bits_Mul64.eq : (fun t0 t1 K h => bits_Mul64.pt t0 t1 K h : Value → Value → Ret → Heap → Prop) = (fun t0 t1 K h => fnPt Try.prog [] Try.f20 bits_Mul64.ann [t0, t1] K h) := by kernel_rfl
theorem bits_Mul64.ok {t0 t1 : Value} {K : Ret} {h : Heap} (hp : bits_Mul64.pt t0 t1 K h) : CallH Try.prog 20 #[t0, t1] K h :=
  fn_sound (qs := []) (fn := Try.f20) (ann := bits_Mul64.ann) (args := [t0, t1]) follows_mixed Try.func20 ((Eq.to_iff (congrFun (congrFun (congrFun (congrFun (bits_Mul64.eq) t0) t1) K) h)).mp hp)

/-! ### math/bits.Len: function 21 -/
abbrev bits_Len.id : FuncId := 21
def bits_Len.ann : Ann := (.seq none .leaf (.seq none (.cond (.seq none .leaf .leaf) .leaf) (.seq none .leaf .leaf)))
set_option maxRecDepth 100000 in
def bits_Len.pt (t0 : Value) (K : Ret) (h : Heap) : Prop :=
 If (.bool false) (
 go (Cvt .u32 t0) h fun t4 h =>
 go (CallF Try.prog 22 [t4]) h fun t5 h =>
 K t5 h) (
 go (CallF Try.prog 23 [t0]) h fun t7 h =>
 K t7 h)
set_option maxRecDepth 100000 in
theorem bits_Len.eq : (fun t0 K h => bits_Len.pt t0 K h : Value → Ret → Heap → Prop) = (fun t0 K h => fnPt Try.prog [] Try.f21 bits_Len.ann [t0] K h) := by kernel_rfl
theorem bits_Len.ok {t0 : Value} {K : Ret} {h : Heap} (hp : bits_Len.pt t0 K h) : CallH Try.prog 21 #[t0] K h :=
  fn_sound (qs := []) (fn := Try.f21) (ann := bits_Len.ann) (args := [t0]) follows_mixed Try.func21 ((Eq.to_iff (congrFun (congrFun (congrFun (bits_Len.eq) t0) K) h)).mp hp)

/-! ### math/bits.Len64: function 23 -/
abbrev bits_Len64.id : FuncId := 23
def bits_Len64.ann : Ann := (.seq none .leaf (.seq (some [0, 2]) (.seq none .leaf (.cond (.seq none .leaf .leaf) .leaf)) (.seq (some [0, 2]) (.seq none .leaf (.cond (.seq none .leaf .leaf) .leaf)) (.seq (some [0, 2]) (.seq none .leaf (.cond (.seq none .leaf .leaf) .leaf)) (.seq none .leaf .leaf)))))
set_option maxRecDepth 100000 in
def bits_Len64.pt (t0 : Value) (K : Ret) (h : Heap) : Prop :=
 Join 2 (fun J1 =>
 go (Bin .int .geq t0 (.int .u64 4294967296)) h fun t4 h =>
 If t4 (
 go (Bin .int .shr t0 (.int .u64 32)) h fun t6 h =>
 J1 t6 (.int .i64 32) h) (
 J1 t0 (.int .i64 0) h)) (fun t0_1 t2 h =>
 Join 2 (fun J2 =>
 go (Bin .int .geq t0_1 (.int .u64 65536)) h fun t8 h =>
 If t8 (
 go (Bin .int .shr t0_1 (.int .u64 16)) h fun t10 h =>
 go (Bin .int .add t2 (.int .i64 16)) h fun t12 h =>
 J2 t10 t12 h) (
 J2 t0_1 t2 h)) (fun t0_2 t2_1 h =>
 Join 2 (fun J3 =>
 go (Bin .int .geq t0_2 (.int .u64 256)) h fun t14 h =>
 If t14 (
 go (Bin .int .shr t0_2 (.int .u64 8)) h fun t16 h =>
 go (Bin .int .add t2_1 (.int .i64 8)) h fun t18 h =>
 J3 t16 t18 h) (
 J3 t0_2 t2_1 h)) (fun t0_3 t2_2 h =>
 go (Cvt .u8 t0_3) h fun t21 h =>
 go (IdxS (.string ⟨#[0, 1, 2, 2, 3, 3, 3, 3, 4, 4, 4, 4, 4, 4, 4, 4, 5, 5, 5, 5, 5, 5, 5, 5, 5, 5, 5, 5, 5, 5, 5, 5, 6, 6, 6, 6, 6, 6, 6, 6, 6, 6, 6, 6, 6, 6, 6, 6, 6, 6, 6, 6, 6, 6, 6, 6, 6, 6, 6, 6, 6, 6, 6, 6, 7, 7, 7, 7, 7, 7, 7, 7, 7, 7, 7, 7, 7, 7, 7, 7, 7, 7, 7, 7, 7, 7, 7, 7, 7, 7, 7, 7, 7, 7, 7, 7, 7, 7, 7, 7, 7, 7, 7, 7, 7, 7, 7, 7, 7, 7, 7, 7, 7, 7, 7, 7, 7, 7, 7, 7, 7, 7, 7, 7, 7, 7, 7, 7, 8, 8, 8, 8, 8, 8, 8, 8, 8, 8, 8, 8, 8, 8, 8, 8, 8, 8, 8, 8, 8, 8, 8, 8, 8, 8, 8, 8, 8, 8, 8, 8, 8, 8, 8, 8, 8, 8, 8, 8, 8, 8, 8, 8, 8, 8, 8, 8, 8, 8, 8, 8, 8, 8, 8, 8, 8, 8, 8, 8, 8, 8, 8, 8, 8, 8, 8, 8, 8, 8, 8, 8, 8, 8, 8, 8, 8, 8, 8, 8, 8, 8, 8, 8, 8, 8, 8, 8, 8, 8, 8, 8, 8, 8, 8, 8, 8, 8, 8, 8, 8, 8, 8, 8, 8, 8, 8, 8, 8, 8, 8, 8, 8, 8, 8, 8, 8, 8, 8, 8, 8, 8, 8, 8, 8, 8, 8, 8]⟩) t21) h fun t22 h =>
 go (Cvt .i64 t22) h fun t23 h =>
 go (Bin .int .add t2_2 t23) h fun t24 h =>
 K t24 h)))
set_option maxRecDepth 100000 in
theorem bits_Len64.eq : (fun t0 K h => bits_Len64.pt t0 K h : Value → Ret → Heap → Prop) = (fun t0 K h => fnPt Try.prog [] Try.f23 bits_Len64.ann [t0] K h) := by kernel_rfl
theorem bits_Len64.ok {t0 : Value} {K : Ret} {h : Heap} (hp : bits_Len64.pt t0 K h) : CallH Try.prog 23 #[t0] K h :=
  fn_sound (qs := []) (fn := Try.f23) (ann := bits_Len64.ann) (args := [t0]) follows_mixed Try.func23 ((Eq.to_iff (congrFun (congrFun (congrFun (bits_Len64.eq) t0) K) h)).mp hp)

end Go.Proofs.Ytnfbddcahllggaa
