/- What each Go function asks, in the primitives of Pt; written by a program of mine (ptgen.py) out of the translation; Lean checks that it is so. -/
import Derived.Test.YtcjglfomekpmgaaProg
import Derived.KernelRfl
import Derived.Test.YtcjglfomekpmgaaPtO
namespace Go.Proofs.Ytcjglfomekpmgaa
open Go.Pt
set_option linter.unusedVariables false
theorem follows_mixed : Try.prog.follows .mixedOrders = true := by kernel_rfl
/-! ### bradawl/bradawllaw16.ScoresPuts: function 4 -/
abbrev bradawllaw16_ScoresPuts.id : FuncId := 4
def bradawllaw16_ScoresPuts.ann : Ann := (.seq none .leaf (.seq none (.seq none .leaf (.cond (.seq none .leaf .leaf) .leaf)) (.seq none (.seq none .leaf (.cond (.seq none .leaf .leaf) .leaf)) (.seq none .leaf (.seq none .leaf (.seq none .leaf (.seq none .leaf (.seq none (.seq none .leaf (.block (.loop [1, 8, 9, 10, 12, 45, 46] (.seq none .leaf (.seq none (.cond .leaf .leaf) (.seq none (.block (.seq none .leaf .leaf)) .leaf)))))) (.seq none (.seq none .leaf (.block (.loop [8, 9, 10, 12, 58, 59, 60] (.seq none .leaf (.seq none (.cond .leaf .leaf) (.seq (some [8, 9, 10, 12, 58, 59, 60]) (.block (.seq none .leaf (.seq none (.seq none .leaf (.cond .leaf .leaf)) (.seq none (.seq none .leaf (.cond (.seq none .leaf .leaf) .leaf)) (.seq none .leaf (.cond .leaf (.seq none .leaf (.block (.loop [8, 9, 10, 12, 58, 59, 60, 83, 84] (.seq none .leaf (.seq none (.cond .leaf .leaf) (.seq none (.block .leaf) .leaf)))))))))))) .leaf)))))) (.seq none (.seq none .leaf (.block (.loop [8, 10, 90, 91, 92] (.seq none .leaf (.seq none (.cond .leaf .leaf) (.seq none (.block (.seq none .leaf (.seq none .leaf (.cond (.seq none .leaf .leaf) .leaf)))) .leaf)))))) (.seq none (.block (.loop [8, 10] (.seq none (.seq none .leaf (.cond .leaf .leaf)) (.block (.seq none .leaf (.seq none .leaf (.seq none .leaf (.cond (.seq none .leaf .leaf) .leaf)))))))) (.seq none .leaf .leaf))))))))))))
set_option maxRecDepth 100000 in
def bradawllaw16_ScoresPuts.pt (t0 t1 t2 : Value) (K : Ret) (h : Heap) : Prop :=
 go (CallF Try.prog 8 []) h fun t23 h =>
 go (Un .not t23) h fun t24 h =>
 If t24 (
 K (.bool false) h) (
 go (Len t1) h fun t26 h =>
 go (Bin .int .gtr t26 (.int .i64 60)) h fun t27 h =>
 If t27 (
 K (.bool true) h) (
 go (Bin .int .rem t0 (.int .u8 19)) h fun t29 h =>
 go (Cvt .i64 t29) h fun t30 h =>
 go (Bin .int .add (.int .i64 1) t30) h fun t31 h =>
 go (CallF Try.prog 9 [t31]) h fun t34 h =>
 go (Ext 0 t34) h fun t35 h =>
 go (Ext 1 t34) h fun t36 h =>
 go (CallF Try.prog 9 [t31]) h fun t39 h =>
 go (Ext 0 t39) h fun t40 h =>
 go (Ext 1 t39) h fun t41 h =>
 go (Cvt .i64 t2) h fun t43 h =>
 go (Bin .int .rem t43 t31) h fun t45 h =>
 Lp 7 (fun X1 t1_1 t8 t9 t10 t12 t45_1 t46 h =>
 go (Bin .int .lss t46 t45_1) h fun t47 h =>
 If t47 (
 go (CallF Try.prog 12 [t8]) h fun t50 h =>
 go (Ext 0 t50) h fun t51 h =>
 go (Ext 1 t50) h fun t52 h =>
 go (BldS 3 1 1 #[(.int .i64 0)] [(0, t51)]) h fun t55 h =>
 go (App 3 1 8 #[(.int .i64 0)] t12 t55) h fun t56 h =>
 go (Bin .int .add t46 (.int .i64 1)) h fun t57 h =>
 X1 t1_1 t8 t9 t10 t56 t45_1 t57 h) (
 go (Len t1_1) h fun t59 h =>
 Lp 7 (fun X2 t8_1 t9_1 t10_1 t12_1 t58 t59_1 t60 h =>
 go (Bin .int .lss t60 t59_1) h fun t61 h =>
 If t61 (
 Join 7 (fun J3 =>
 go (Idx 3 t58 t60) h fun t62 h =>
 go (LdA 3 t62) h fun t63 h =>
 go (New #[(.int .u8 0), (.int .i64 0), (.int .i64 0)] 29) h fun t16 h =>
 go (StA 3 t16 t63) h fun _ h =>
 go (Fld 0 t16) h fun t64 h =>
 go (Ld t64) h fun t65 h =>
 go (Bin .int .rem t65 (.int .u8 7)) h fun t66 h =>
 go (Bin .int .gtr t66 (.int .u8 4)) h fun t67 h =>
 If t67 (
 J3 t8_1 t9_1 t10_1 t12_1 t58 t59_1 t60 h) (
 go (LdA 3 t16) h fun t70 h =>
 go (CallF Try.prog 10 [t10_1, t9_1, t70]) h fun t71 h =>
 go (Un .not t71) h fun t72 h =>
 If t72 (
 K (.bool false) h) (
 go (Fld 0 t16) h fun t73 h =>
 go (Ld t73) h fun t74 h =>
 go (Bin .int .rem t74 (.int .u8 7)) h fun t75 h =>
 go (Bin .int .lss t75 (.int .u8 4)) h fun t76 h =>
 If t76 (
 go (Fld 1 t16) h fun t78 h =>
 go (Ld t78) h fun t79 h =>
 go (CallF Try.prog 15 [t8_1, t79]) h fun t80 h =>
 J3 t8_1 t9_1 t10_1 t12_1 t58 t59_1 t60 h) (
 go (Fld 2 t16) h fun t81 h =>
 go (Ld t81) h fun t82 h =>
 go (Bin .int .and t82 (.int .i64 255)) h fun t83 h =>
 Lp 9 (fun X4 t8_2 t9_2 t10_2 t12_2 t58_1 t59_2 t60_1 t83_1 t84 h =>
 go (Bin .int .lss t84 t83_1) h fun t85 h =>
 If t85 (
 go (CallF Try.prog 16 [t8_2]) h fun t87 h =>
 go (Bin .int .add t84 (.int .i64 1)) h fun t88 h =>
 X4 t8_2 t9_2 t10_2 t12_2 t58_1 t59_2 t60_1 t83_1 t88 h) (
 J3 t8_2 t9_2 t10_2 t12_2 t58_1 t59_2 t60_1 h)) [t8_1, t9_1, t10_1, t12_1, t58, t59_1, t60, t83, (.int .i64 0)] h)))) (fun t8_3 t9_3 t10_3 t12_3 t58_2 t59_3 t60_2 h =>
 go (Bin .int .add t60_2 (.int .i64 1)) h fun t89 h =>
 X2 t8_3 t9_3 t10_3 t12_3 t58_2 t59_3 t89 h)) (
 go (Len t12_1) h fun t91 h =>
 Lp 5 (fun X5 t8_4 t10_4 t90 t91_1 t92 h =>
 go (Bin .int .lss t92 t91_1) h fun t93 h =>
 If t93 (
 go (Idx 1 t90 t92) h fun t94 h =>
 go (Ld t94) h fun t95 h =>
 go (CallF Try.prog 17 [t8_4, t95]) h fun t98 h =>
 go (Un .not t98) h fun t99 h =>
 If t99 (
 K (.bool false) h) (
 go (Bin .int .add t92 (.int .i64 1)) h fun t100 h =>
 X5 t8_4 t10_4 t90 t91_1 t100 h)) (
 Lp 2 (fun X6 t8_5 t10_5 h =>
 go (QCall Try.prog 11 [t10_5]) h fun t102 h =>
 go (Bin .int .gtr t102 (.int .i64 0)) h fun t103 h =>
 If t103 (
 go (CallF Try.prog 12 [t10_5]) h fun t106 h =>
 go (Ext 0 t106) h fun t107 h =>
 go (Ext 1 t106) h fun t108 h =>
 go (CallF Try.prog 12 [t8_5]) h fun t111 h =>
 go (Ext 0 t111) h fun t112 h =>
 go (Ext 1 t111) h fun t113 h =>
 go (Un .not t113) h fun t115 h =>
 go (Gd t115 false (Mv t107)) h fun t117 h =>
 go (Gd t115 false (Mv t112)) h fun t118 h =>
 go (Gd t115 false (Bin .int .neq t117 t118)) h fun t119 h =>
 go (Pick t115 (.bool true) t119) h fun t120 h =>
 go (Gd t120 false (Mv t8_5)) h fun t122 h =>
 go (Gd t120 false (Mv t107)) h fun t123 h =>
 go (Gd t120 false (QCall Try.prog 13 [t122, t123])) h fun t124 h =>
 go (Gd t120 false (Mv t10_5)) h fun t125 h =>
 go (Gd t120 false (Mv t107)) h fun t126 h =>
 go (Gd t120 false (QCall Try.prog 13 [t125, t126])) h fun t127 h =>
 go (Gd t120 false (Bin .int .neq t124 t127)) h fun t128 h =>
 go (Pick t120 (.bool true) t128) h fun t129 h =>
 If t129 (
 K (.bool false) h) (
 X6 t8_5 t10_5 h)) (
 go (QCall Try.prog 11 [t8_5]) h fun t131 h =>
 go (Bin .int .eql t131 (.int .i64 0)) h fun t132 h =>
 K t132 h)) [t8_4, t10_4] h)) [t8_1, t10_1, t12_1, t91, (.int .i64 0)] h)) [t8, t9, t10, t12, t1_1, t59, (.int .i64 0)] h)) [t1, t35, t36, t40, (.slice none 0 0), t45, (.int .i64 0)] h))
set_option maxRecDepth 100000 in
theorem bradawllaw16_ScoresPuts.eq : (fun t0 t1 t2 K h => bradawllaw16_ScoresPuts.pt t0 t1 t2 K h : Value → Value → Value → Ret → Heap → Prop) = (fun t0 t1 t2 K h => fnPt Try.prog [11, 13, 18, 20] Try.f4 bradawllaw16_ScoresPuts.ann [t0, t1, t2] K h) := by kernel_rfl
theorem bradawllaw16_ScoresPuts.ok {t0 t1 t2 : Value} {K : Ret} {h : Heap} (hp : bradawllaw16_ScoresPuts.pt t0 t1 t2 K h) : CallH Try.prog 4 #[t0, t1, t2] K h :=
  fn_sound (qs := [11, 13, 18, 20]) (fn := Try.f4) (ann := bradawllaw16_ScoresPuts.ann) (args := [t0, t1, t2]) follows_mixed Try.func4 ((Eq.to_iff (congrFun (congrFun (congrFun (congrFun (congrFun (bradawllaw16_ScoresPuts.eq) t0) t1) t2) K) h)).mp hp)

/-! ### bradawl/bradawllaw16.fit: function 8 -/
abbrev bradawllaw16_fit.id : FuncId := 8
def bradawllaw16_fit.ann : Ann := (.seq none .leaf (.seq none .leaf (.seq none (.seq none .leaf (.cond (.seq none .leaf .leaf) .leaf)) (.seq none .leaf (.seq none .leaf (.seq none .leaf .leaf))))))
set_option maxRecDepth 100000 in
def bradawllaw16_fit.pt (K : Ret) (h : Heap) : Prop :=
 go (CallF Try.prog 21 [(.int .i64 5)]) h fun t6 h =>
 go (Bin .pointer .eql t6 (.pointer none)) h fun t8 h =>
 go (Gd t8 false (Mv t6)) h fun t10 h =>
 go (Gd t8 false (CallF Try.prog 15 [t10, (.int .i64 3)])) h fun t11 h =>
 go (Gd t8 false (Un .not t11)) h fun t12 h =>
 go (Pick t8 (.bool true) t12) h fun t13 h =>
 go (Gd t13 false (Mv t6)) h fun t15 h =>
 go (Gd t13 false (CallF Try.prog 15 [t15, (.int .i64 6)])) h fun t16 h =>
 go (Pick t13 (.bool true) t16) h fun t17 h =>
 go (Gd t17 false (Mv t6)) h fun t19 h =>
 go (Gd t17 false (QCall Try.prog 11 [t19])) h fun t20 h =>
 go (Gd t17 false (Bin .int .neq t20 (.int .i64 5))) h fun t21 h =>
 go (Pick t17 (.bool true) t21) h fun t22 h =>
 If t22 (
 K (.bool false) h) (
 go (CallF Try.prog 12 [t6]) h fun t25 h =>
 go (Ext 0 t25) h fun t26 h =>
 go (Ext 1 t25) h fun t27 h =>
 go (CallF Try.prog 19 [t6]) h fun t30 h =>
 go (Ext 0 t30) h fun t31 h =>
 go (Ext 1 t30) h fun t32 h =>
 go (Gd t27 true (Mv t26)) h fun t35 h =>
 go (Gd t27 true (Bin .int .eql t35 (.int .i64 3))) h fun t36 h =>
 go (Pick t27 t36 (.bool false)) h fun t37 h =>
 go (Gd t37 true (Mv t32)) h fun t39 h =>
 go (Pick t37 t39 (.bool false)) h fun t40 h =>
 go (Gd t40 true (Mv t31)) h fun t42 h =>
 go (Gd t40 true (Bin .int .eql t42 (.int .i64 1))) h fun t43 h =>
 go (Pick t40 t43 (.bool false)) h fun t44 h =>
 go (Gd t44 true (Mv t6)) h fun t46 h =>
 go (Gd t44 true (QCall Try.prog 20 [t46, (.int .i64 3)])) h fun t47 h =>
 go (Gd t44 true (Un .not t47)) h fun t48 h =>
 go (Pick t44 t48 (.bool false)) h fun t49 h =>
 go (Gd t49 true (Mv t6)) h fun t51 h =>
 go (Gd t49 true (QCall Try.prog 13 [t51, (.int .i64 3)])) h fun t52 h =>
 go (Gd t49 true (Bin .int .eql t52 (.int .i64 1048576))) h fun t53 h =>
 go (Pick t49 t53 (.bool false)) h fun t54 h =>
 go (Gd t54 true (Mv t6)) h fun t56 h =>
 go (Gd t54 true (CallF Try.prog 17 [t56, (.int .i64 3)])) h fun t57 h =>
 go (Pick t54 t57 (.bool false)) h fun t58 h =>
 go (Gd t58 true (Mv t6)) h fun t60 h =>
 go (Gd t58 true (CallF Try.prog 17 [t60, (.int .i64 3)])) h fun t61 h =>
 go (Gd t58 true (Un .not t61)) h fun t62 h =>
 go (Pick t58 t62 (.bool false)) h fun t63 h =>
 K t63 h)
set_option maxRecDepth 100000 in
theorem bradawllaw16_fit.eq : (fun K h => bradawllaw16_fit.pt K h : Ret → Heap → Prop) = (fun K h => fnPt Try.prog [11, 13, 18, 20] Try.f8 bradawllaw16_fit.ann [] K h) := by kernel_rfl
theorem bradawllaw16_fit.ok {K : Ret} {h : Heap} (hp : bradawllaw16_fit.pt K h) : CallH Try.prog 8 #[] K h :=
  fn_sound (qs := [11, 13, 18, 20]) (fn := Try.f8) (ann := bradawllaw16_fit.ann) (args := []) follows_mixed Try.func8 ((Eq.to_iff (congrFun (congrFun (bradawllaw16_fit.eq) K) h)).mp hp)

/-! ### bradawl/bradawllaw16.begin: function 9 -/
abbrev bradawllaw16_begin.id : FuncId := 9
def bradawllaw16_begin.ann : Ann := (.seq none .leaf (.seq (some [0, 4]) .leaf (.seq none (.seq none .leaf (.block (.loop [0, 4, 5] (.seq none (.seq none .leaf (.cond .leaf .leaf)) (.seq none (.block .leaf) .leaf))))) (.seq none .leaf .leaf))))
set_option maxRecDepth 100000 in
def bradawllaw16_begin.pt (t0 : Value) (K : Ret) (h : Heap) : Prop :=
 Join 2 (fun J1 =>
 go (Bin .int .add t0 (.int .i64 1)) h fun t7 h =>
 go (Bin .int .add t0 (.int .i64 1)) h fun t10 h =>
 (go (MkS 3 8 1 #[(.int .i64 0)] t7 t7) h fun t8 h =>
 go (MkS 4 1 1 #[(.bool false)] t10 t10) h fun t11 h =>
 go (Bld [(0, 1), (1, 1), (2, 1)] #[(.slice none 0 0), (.slice none 0 0), (.int .i64 0)] [(0, t8), (1, t11), (2, (.int .i64 1048576))]) h fun t12 h =>
 go (New (Value.cells t12) 37) h fun t13 h =>
 J1 t0 t13 h) ∧
 (go (MkS 4 1 1 #[(.bool false)] t10 t10) h fun t11_1 h =>
 go (MkS 3 8 1 #[(.int .i64 0)] t7 t7) h fun t8_1 h =>
 go (Bld [(0, 1), (1, 1), (2, 1)] #[(.slice none 0 0), (.slice none 0 0), (.int .i64 0)] [(0, t8_1), (1, t11_1), (2, (.int .i64 1048576))]) h fun t12_1 h =>
 go (New (Value.cells t12_1) 37) h fun t13_1 h =>
 J1 t0 t13_1 h)) (fun t0_1 t4 h =>
 Lp 3 (fun X2 t0_2 t4_1 t5 h =>
 go (Bin .int .leq t5 t0_2) h fun t16 h =>
 If t16 (
 go (NilC t4_1) h fun t20 h =>
 go (Fld 1 t20) h fun t21 h =>
 go (Ld t21) h fun t22 h =>
 go (Idx 1 t22 t5) h fun t24 h =>
 go (St t24 (.bool true)) h fun _ h =>
 go (Bin .int .add t5 (.int .i64 1)) h fun t18 h =>
 X2 t0_2 t4_1 t18 h) (
 go (CallF Try.prog 21 [t0_2]) h fun t26 h =>
 K (.tuple #[t26, t4_1]) h)) [t0_1, t4, (.int .i64 1)] h)
set_option maxRecDepth 100000 in
theorem bradawllaw16_begin.eq : (fun t0 K h => bradawllaw16_begin.pt t0 K h : Value → Ret → Heap → Prop) = (fun t0 K h => fnPt Try.prog [11, 13, 18, 20] Try.f9 bradawllaw16_begin.ann [t0] K h) := by kernel_rfl
theorem bradawllaw16_begin.ok {t0 : Value} {K : Ret} {h : Heap} (hp : bradawllaw16_begin.pt t0 K h) : CallH Try.prog 9 #[t0] K h :=
  fn_sound (qs := [11, 13, 18, 20]) (fn := Try.f9) (ann := bradawllaw16_begin.ann) (args := [t0]) follows_mixed Try.func9 ((Eq.to_iff (congrFun (congrFun (congrFun (bradawllaw16_begin.eq) t0) K) h)).mp hp)

/-! ### bradawl/bradawllaw16.do: function 10 -/
abbrev bradawllaw16_do.id : FuncId := 10
def bradawllaw16_do.ann : Ann := (.seq none .leaf (.seq none .leaf (.seq (some []) (.seq none .leaf (.block (.seq (some [0, 1, 5, 7, 26, 52]) (.seq none .leaf (.cond .leaf (.seq none .leaf (.cond .leaf (.seq none .leaf (.cond .leaf .leaf)))))) (.cond (.seq none (.seq none .leaf (.cond (.seq none .leaf .leaf) .leaf)) (.seq none .leaf (.cond (.seq none .leaf (.seq none .leaf (.cond .leaf .leaf))) .leaf))) (.seq none .leaf (.cond (.seq none .leaf (.block (.loop [0, 1, 93, 94] (.seq none .leaf (.seq none (.cond .leaf .leaf) (.seq (some [0, 1, 93, 94]) (.block (.seq none .leaf (.seq none .leaf (.seq none .leaf (.cond .leaf .leaf))))) .leaf)))))) (.seq none .leaf (.cond (.seq none .leaf (.seq none (.seq none .leaf (.seq none .leaf (.cond (.seq none .leaf .leaf) .leaf))) (.seq none .leaf (.cond .leaf .leaf)))) (.seq none (.seq none .leaf (.cond (.seq none .leaf .leaf) .leaf)) (.seq none .leaf (.cond .leaf .leaf))))))))))) (.seq none .leaf .leaf))))
set_option maxRecDepth 100000 in
def bradawllaw16_do.pt (t0 t1 t2 : Value) (K : Ret) (h : Heap) : Prop :=
 go (New (Value.cells t2) 29) h fun t5 h =>
 go (Fld 1 t5) h fun t11 h =>
 go (Ld t11) h fun t12 h =>
 go (Bin .int .geq t12 (.int .i64 1)) h fun t13 h =>
 go (Gd t13 true (Fld 1 t5)) h fun t15 h =>
 go (Gd t13 true (Ld t15)) h fun t16 h =>
 go (Gd t13 true (Mv t1)) h fun t17 h =>
 go (Gd t13 true (NilC t17)) h fun t18 h =>
 go (Gd t13 true (Fld 0 t18)) h fun t19 h =>
 go (Gd t13 true (Ld t19)) h fun t20 h =>
 go (Gd t13 true (Len t20)) h fun t21 h =>
 go (Gd t13 true (Bin .int .lss t16 t21)) h fun t22 h =>
 go (Pick t13 t22 (.bool false)) h fun t23 h =>
 Join 0 (fun J1 =>
 go (Fld 0 t5) h fun t24 h =>
 go (Ld t24) h fun t25 h =>
 go (Bin .int .rem t25 (.int .u8 7)) h fun t26 h =>
 Join 6 (fun J2 =>
 go (Bin .int .eql t26 (.int .u8 0)) h fun t53 h =>
 If t53 (
 J2 t0 t1 t5 t23 t26 t53 h) (
 go (Bin .int .eql t26 (.int .u8 1)) h fun t54 h =>
 If t54 (
 J2 t0 t1 t5 t23 t26 t54 h) (
 go (Bin .int .eql t26 (.int .u8 2)) h fun t55 h =>
 If t55 (
 J2 t0 t1 t5 t23 t26 t55 h) (
 go (Bin .int .eql t26 (.int .u8 3)) h fun t56 h =>
 J2 t0 t1 t5 t23 t26 t56 h)))) (fun t0_1 t1_1 t5_1 t7 t26_1 t52 h =>
 If t52 (
 go (Fld 1 t5_1) h fun t58 h =>
 go (Ld t58) h fun t59 h =>
 go (CallF Try.prog 15 [t0_1, t59]) h fun t60 h =>
 go (Bin .bool .neq t60 t7) h fun t62 h =>
 If t62 (
 K (.bool false) h) (
 If t7 (
 go (NilC t1_1) h fun t65 h =>
 go (Fld 0 t65) h fun t66 h =>
 go (Ld t66) h fun t67 h =>
 go (Fld 1 t5_1) h fun t68 h =>
 go (Ld t68) h fun t69 h =>
 go (Idx 1 t67 t69) h fun t70 h =>
 go (Ld t70) h fun t71 h =>
 go (NilC t1_1) h fun t73 h =>
 go (Fld 2 t73) h fun t74 h =>
 go (Ld t74) h fun t75 h =>
 go (Bin .int .add t71 t75) h fun t76 h =>
 go (Idx 1 t67 t69) h fun t77 h =>
 go (St t77 t76) h fun _ h =>
 go (NilC t1_1) h fun t79 h =>
 go (Fld 0 t79) h fun t80 h =>
 go (Ld t80) h fun t81 h =>
 go (Fld 1 t5_1) h fun t82 h =>
 go (Ld t82) h fun t83 h =>
 go (Idx 1 t81 t83) h fun t84 h =>
 go (Ld t84) h fun t85 h =>
 go (Bin .int .gtr t85 (.int .i64 1125899906842624)) h fun t86 h =>
 If t86 (
 go (CallF Try.prog 22 [t1_1]) h fun t88 h =>
 J1 h) (
 J1 h)) (
 J1 h))) (
 go (Bin .int .eql t26_1 (.int .u8 4)) h fun t90 h =>
 If t90 (
 go (Fld 2 t5_1) h fun t91 h =>
 go (Ld t91) h fun t92 h =>
 go (Bin .int .and t92 (.int .i64 255)) h fun t93 h =>
 Lp 4 (fun X3 t0_2 t1_2 t93_1 t94 h =>
 go (Bin .int .lss t94 t93_1) h fun t95 h =>
 If t95 (
 Join 4 (fun J4 =>
 go (CallF Try.prog 16 [t0_2]) h fun t97 h =>
 go (NilC t1_2) h fun t100 h =>
 go (Fld 2 t100) h fun t101 h =>
 go (Ld t101) h fun t102 h =>
 go (Bin .int .mul t102 (.int .i64 16)) h fun t103 h =>
 go (Bin .int .quo t103 (.int .i64 15)) h fun t104 h =>
 go (Bin .int .add t104 (.int .i64 1)) h fun t105 h =>
 go (NilC t1_2) h fun t106 h =>
 go (Fld 2 t106) h fun t107 h =>
 go (St t107 t105) h fun _ h =>
 go (NilC t1_2) h fun t109 h =>
 go (Fld 2 t109) h fun t110 h =>
 go (Ld t110) h fun t111 h =>
 go (Bin .int .gtr t111 (.int .i64 1125899906842624)) h fun t112 h =>
 If t112 (
 go (CallF Try.prog 22 [t1_2]) h fun t114 h =>
 J4 t0_2 t1_2 t93_1 t94 h) (
 J4 t0_2 t1_2 t93_1 t94 h)) (fun t0_3 t1_3 t93_2 t94_1 h =>
 go (Bin .int .add t94_1 (.int .i64 1)) h fun t115 h =>
 X3 t0_3 t1_3 t93_2 t115 h)) (
 J1 h)) [t0_1, t1_1, t93, (.int .i64 0)] h) (
 go (Bin .int .eql t26_1 (.int .u8 5)) h fun t117 h =>
 If t117 (
 go (CallF Try.prog 12 [t0_1]) h fun t120 h =>
 go (Ext 0 t120) h fun t121 h =>
 go (Ext 1 t120) h fun t122 h =>
 go (CallF Try.prog 14 [t1_1]) h fun t124 h =>
 go (Bin .int .neq t121 t124) h fun t127 h =>
 go (Gd t127 false (Mv t122)) h fun t129 h =>
 go (Gd t127 false (Mv t124)) h fun t130 h =>
 go (Gd t127 false (Bin .int .gtr t130 (.int .i64 0))) h fun t131 h =>
 go (Gd t127 false (Bin .bool .neq t129 t131)) h fun t132 h =>
 go (Pick t127 (.bool true) t132) h fun t133 h =>
 If t133 (
 K (.bool false) h) (
 If t122 (
 go (NilC t1_1) h fun t136 h =>
 go (Fld 1 t136) h fun t137 h =>
 go (Ld t137) h fun t138 h =>
 go (Idx 1 t138 t121) h fun t140 h =>
 go (St t140 (.bool false)) h fun _ h =>
 J1 h) (
 J1 h))) (
 go (Fld 1 t5_1) h fun t28 h =>
 go (Ld t28) h fun t29 h =>
 go (CallF Try.prog 17 [t0_1, t29]) h fun t30 h =>
 go (Gd t7 true (Mv t1_1)) h fun t33 h =>
 go (Gd t7 true (NilC t33)) h fun t34 h =>
 go (Gd t7 true (Fld 1 t34)) h fun t35 h =>
 go (Gd t7 true (Ld t35)) h fun t36 h =>
 go (Gd t7 true (Fld 1 t5_1)) h fun t37 h =>
 go (Gd t7 true (Ld t37)) h fun t38 h =>
 go (Gd t7 true (Idx 1 t36 t38)) h fun t39 h =>
 go (Gd t7 true (Ld t39)) h fun t40 h =>
 go (Gd t7 true (Un .not t40)) h fun t41 h =>
 go (Pick t7 t41 (.bool false)) h fun t42 h =>
 go (Bin .bool .neq t30 t42) h fun t43 h =>
 If t43 (
 K (.bool false) h) (
 If t7 (
 go (NilC t1_1) h fun t46 h =>
 go (Fld 1 t46) h fun t47 h =>
 go (Ld t47) h fun t48 h =>
 go (Fld 1 t5_1) h fun t49 h =>
 go (Ld t49) h fun t50 h =>
 go (Idx 1 t48 t50) h fun t51 h =>
 go (St t51 (.bool true)) h fun _ h =>
 J1 h) (
 J1 h))))))) (fun  h =>
 K (.bool true) h)
set_option maxRecDepth 100000 in
theorem bradawllaw16_do.eq : (fun t0 t1 t2 K h => bradawllaw16_do.pt t0 t1 t2 K h : Value → Value → Value → Ret → Heap → Prop) = (fun t0 t1 t2 K h => fnPt Try.prog [11, 13, 18, 20] Try.f10 bradawllaw16_do.ann [t0, t1, t2] K h) := by kernel_rfl
theorem bradawllaw16_do.ok {t0 t1 t2 : Value} {K : Ret} {h : Heap} (hp : bradawllaw16_do.pt t0 t1 t2 K h) : CallH Try.prog 10 #[t0, t1, t2] K h :=
  fn_sound (qs := [11, 13, 18, 20]) (fn := Try.f10) (ann := bradawllaw16_do.ann) (args := [t0, t1, t2]) follows_mixed Try.func10 ((Eq.to_iff (congrFun (congrFun (congrFun (congrFun (congrFun (bradawllaw16_do.eq) t0) t1) t2) K) h)).mp hp)

/-! ### (*bradawl/scores.Heap).Len: function 11 -/
abbrev scores_Heap_Len.id : FuncId := 11
def scores_Heap_Len.ann : Ann := (.seq none .leaf (.seq none .leaf .leaf))
set_option maxRecDepth 100000 in
def scores_Heap_Len.pt (t0 : Value) (K : Ret) (h : Heap) : Prop :=
 go (NilC t0) h fun t4 h =>
 go (Fld 2 t4) h fun t5 h =>
 go (Ld t5) h fun t6 h =>
 go (Len t6) h fun t7 h =>
 K t7 h
set_option maxRecDepth 100000 in
theorem scores_Heap_Len.eq : (fun t0 K h => scores_Heap_Len.pt t0 K h : Value → Ret → Heap → Prop) = (fun t0 K h => fnPt Try.prog [11, 13, 18, 20] Try.f11 scores_Heap_Len.ann [t0] K h) := by kernel_rfl
theorem scores_Heap_Len.ok {t0 : Value} {K : Ret} {h : Heap} (hp : scores_Heap_Len.pt t0 K h) : CallH Try.prog 11 #[t0] K h :=
  fn_sound (qs := [11, 13, 18, 20]) (fn := Try.f11) (ann := scores_Heap_Len.ann) (args := [t0]) follows_mixed Try.func11 ((Eq.to_iff (congrFun (congrFun (congrFun (scores_Heap_Len.eq) t0) K) h)).mp hp)

/-! ### (*bradawl/scores.Heap).Take: function 12 -/
abbrev scores_Heap_Take.id : FuncId := 12
def scores_Heap_Take.ann : Ann := (.seq none .leaf (.seq none .leaf (.seq none (.seq none .leaf (.cond (.seq none .leaf .leaf) .leaf)) (.seq none .leaf (.seq none .leaf (.seq (some [0, 4]) (.seq none .leaf (.cond (.seq none .leaf .leaf) .leaf)) (.seq none .leaf (.seq none .leaf .leaf))))))))
set_option maxRecDepth 100000 in
def scores_Heap_Take.pt (t0 : Value) (K : Ret) (h : Heap) : Prop :=
 go (CallF Try.prog 19 [t0]) h fun t9 h =>
 go (Ext 0 t9) h fun t10 h =>
 go (Ext 1 t9) h fun t11 h =>
 go (Un .not t11) h fun t13 h =>
 If t13 (
 K (.tuple #[(.int .i64 0), (.bool false)]) h) (
 go (NilC t0) h fun t15 h =>
 go (Fld 2 t15) h fun t16 h =>
 go (Ld t16) h fun t17 h =>
 go (NilC t0) h fun t19 h =>
 go (Fld 2 t19) h fun t20 h =>
 go (Ld t20) h fun t21 h =>
 go (Len t21) h fun t22 h =>
 go (Bin .int .sub t22 (.int .i64 1)) h fun t23 h =>
 go (Idx 1 t17 t23) h fun t24 h =>
 go (Ld t24) h fun t25 h =>
 go (NilC t0) h fun t28 h =>
 go (Fld 2 t28) h fun t29 h =>
 go (Ld t29) h fun t30 h =>
 go (NilC t0) h fun t32 h =>
 go (Fld 2 t32) h fun t33 h =>
 go (Ld t33) h fun t34 h =>
 go (Len t34) h fun t35 h =>
 go (Bin .int .sub t35 (.int .i64 1)) h fun t36 h =>
 go (Slc 1 t30 none (some t36) none) h fun t37 h =>
 go (NilC t0) h fun t38 h =>
 go (Fld 2 t38) h fun t39 h =>
 go (St t39 t37) h fun _ h =>
 Join 2 (fun J1 =>
 go (NilC t0) h fun t41 h =>
 go (Fld 2 t41) h fun t42 h =>
 go (Ld t42) h fun t43 h =>
 go (Len t43) h fun t44 h =>
 go (Bin .int .gtr t44 (.int .i64 0)) h fun t45 h =>
 If t45 (
 go (CallF Try.prog 23 [t0, (.int .i64 0), t25]) h fun t48 h =>
 go (CallF Try.prog 24 [t0, (.int .i64 0)]) h fun t50 h =>
 J1 t0 t10 h) (
 J1 t0 t10 h)) (fun t0_1 t4 h =>
 go (NilC t0_1) h fun t52 h =>
 go (Fld 1 t52) h fun t53 h =>
 go (Ld t53) h fun t54 h =>
 go (Idx 1 t54 t4) h fun t56 h =>
 go (St t56 (.int .i64 (-1))) h fun _ h =>
 K (.tuple #[t4, (.bool true)]) h))
set_option maxRecDepth 100000 in
theorem scores_Heap_Take.eq : (fun t0 K h => scores_Heap_Take.pt t0 K h : Value → Ret → Heap → Prop) = (fun t0 K h => fnPt Try.prog [11, 13, 18, 20] Try.f12 scores_Heap_Take.ann [t0] K h) := by kernel_rfl
theorem scores_Heap_Take.ok {t0 : Value} {K : Ret} {h : Heap} (hp : scores_Heap_Take.pt t0 K h) : CallH Try.prog 12 #[t0] K h :=
  fn_sound (qs := [11, 13, 18, 20]) (fn := Try.f12) (ann := scores_Heap_Take.ann) (args := [t0]) follows_mixed Try.func12 ((Eq.to_iff (congrFun (congrFun (congrFun (scores_Heap_Take.eq) t0) K) h)).mp hp)

/-! ### (*bradawl/scores.Heap).Score: function 13 -/
abbrev scores_Heap_Score.id : FuncId := 13
def scores_Heap_Score.ann : Ann := (.seq none .leaf (.seq none (.seq none .leaf (.cond (.seq none .leaf .leaf) .leaf)) (.seq none .leaf .leaf)))
set_option maxRecDepth 100000 in
def scores_Heap_Score.pt (t0 t1 : Value) (K : Ret) (h : Heap) : Prop :=
 go (CallF Try.prog 25 [t0, t1]) h fun t7 h =>
 go (Un .not t7) h fun t8 h =>
 If t8 (
 K (.int .i64 0) h) (
 go (NilC t0) h fun t10 h =>
 go (Fld 0 t10) h fun t11 h =>
 go (Ld t11) h fun t12 h =>
 go (Idx 1 t12 t1) h fun t14 h =>
 go (Ld t14) h fun t15 h =>
 K t15 h)
set_option maxRecDepth 100000 in
theorem scores_Heap_Score.eq : (fun t0 t1 K h => scores_Heap_Score.pt t0 t1 K h : Value → Value → Ret → Heap → Prop) = (fun t0 t1 K h => fnPt Try.prog [11, 13, 18, 20] Try.f13 scores_Heap_Score.ann [t0, t1] K h) := by kernel_rfl
theorem scores_Heap_Score.ok {t0 t1 : Value} {K : Ret} {h : Heap} (hp : scores_Heap_Score.pt t0 t1 K h) : CallH Try.prog 13 #[t0, t1] K h :=
  fn_sound (qs := [11, 13, 18, 20]) (fn := Try.f13) (ann := scores_Heap_Score.ann) (args := [t0, t1]) follows_mixed Try.func13 ((Eq.to_iff (congrFun (congrFun (congrFun (congrFun (scores_Heap_Score.eq) t0) t1) K) h)).mp hp)

/-! ### (*bradawl/bradawllaw16.model).first: function 14 -/
abbrev bradawllaw16_model_first.id : FuncId := 14
def bradawllaw16_model_first.ann : Ann := (.seq none .leaf (.seq none .leaf (.seq none (.seq none .leaf (.block (.loop [0, 3, 4] (.seq none (.seq none .leaf (.cond .leaf .leaf)) (.seq (some [0, 3, 4]) (.block (.seq none .leaf (.cond .leaf .leaf))) .leaf))))) (.seq none .leaf .leaf))))
set_option maxRecDepth 100000 in
def bradawllaw16_model_first.pt (t0 : Value) (K : Ret) (h : Heap) : Prop :=
 Lp 3 (fun X1 t0_1 t3 t4 h =>
 go (NilC t0_1) h fun t7 h =>
 go (Fld 0 t7) h fun t8 h =>
 go (Ld t8) h fun t9 h =>
 go (Len t9) h fun t10 h =>
 go (Bin .int .lss t4 t10) h fun t11 h =>
 If t11 (
 Join 3 (fun J2 =>
 go (NilC t0_1) h fun t15 h =>
 go (Fld 1 t15) h fun t16 h =>
 go (Ld t16) h fun t17 h =>
 go (Idx 1 t17 t4) h fun t19 h =>
 go (Ld t19) h fun t20 h =>
 go (Gd t20 true (Mv t3)) h fun t22 h =>
 go (Gd t20 true (Bin .int .eql t22 (.int .i64 0))) h fun t23 h =>
 go (Gd t20 true (Mv t23)) h fun t24 h =>
 go (Gd t24 false (Mv t0_1)) h fun t25 h =>
 go (Gd t24 false (NilC t25)) h fun t26 h =>
 go (Gd t24 false (Fld 0 t26)) h fun t27 h =>
 go (Gd t24 false (Ld t27)) h fun t28 h =>
 go (Gd t24 false (Mv t4)) h fun t29 h =>
 go (Gd t24 false (Idx 1 t28 t29)) h fun t30 h =>
 go (Gd t24 false (Ld t30)) h fun t31 h =>
 go (Gd t24 false (Mv t0_1)) h fun t32 h =>
 go (Gd t24 false (NilC t32)) h fun t33 h =>
 go (Gd t24 false (Fld 0 t33)) h fun t34 h =>
 go (Gd t24 false (Ld t34)) h fun t35 h =>
 go (Gd t24 false (Mv t3)) h fun t36 h =>
 go (Gd t24 false (Idx 1 t35 t36)) h fun t37 h =>
 go (Gd t24 false (Ld t37)) h fun t38 h =>
 go (Gd t24 false (Bin .int .gtr t31 t38)) h fun t39 h =>
 go (Gd t20 true (Pick t24 (.bool true) t39)) h fun t40 h =>
 go (Pick t20 t40 (.bool false)) h fun t41 h =>
 If t41 (
 J2 t0_1 t4 t4 h) (
 J2 t0_1 t3 t4 h)) (fun t0_2 t3_1 t4_1 h =>
 go (Bin .int .add t4_1 (.int .i64 1)) h fun t13 h =>
 X1 t0_2 t3_1 t13 h)) (
 K t3 h)) [t0, (.int .i64 0), (.int .i64 1)] h
set_option maxRecDepth 100000 in
theorem bradawllaw16_model_first.eq : (fun t0 K h => bradawllaw16_model_first.pt t0 K h : Value → Ret → Heap → Prop) = (fun t0 K h => fnPt Try.prog [11, 13, 18, 20] Try.f14 bradawllaw16_model_first.ann [t0] K h) := by kernel_rfl
theorem bradawllaw16_model_first.ok {t0 : Value} {K : Ret} {h : Heap} (hp : bradawllaw16_model_first.pt t0 K h) : CallH Try.prog 14 #[t0] K h :=
  fn_sound (qs := [11, 13, 18, 20]) (fn := Try.f14) (ann := bradawllaw16_model_first.ann) (args := [t0]) follows_mixed Try.func14 ((Eq.to_iff (congrFun (congrFun (congrFun (bradawllaw16_model_first.eq) t0) K) h)).mp hp)

/-! ### (*bradawl/scores.Heap).Bump: function 15 -/
abbrev scores_Heap_Bump.id : FuncId := 15
def scores_Heap_Bump.ann : Ann := (.seq none .leaf (.seq none (.seq none .leaf (.cond (.seq none .leaf .leaf) .leaf)) (.seq none .leaf (.seq (some [0, 1]) (.seq none .leaf (.cond .leaf .leaf)) (.seq (some []) (.seq none .leaf (.cond .leaf .leaf)) (.seq none .leaf .leaf))))))
set_option maxRecDepth 100000 in
def scores_Heap_Bump.pt (t0 t1 : Value) (K : Ret) (h : Heap) : Prop :=
 go (CallF Try.prog 25 [t0, t1]) h fun t7 h =>
 go (Un .not t7) h fun t8 h =>
 If t8 (
 K (.bool false) h) (
 go (NilC t0) h fun t10 h =>
 go (Fld 0 t10) h fun t11 h =>
 go (Ld t11) h fun t12 h =>
 go (Idx 1 t12 t1) h fun t14 h =>
 go (Ld t14) h fun t15 h =>
 go (NilC t0) h fun t17 h =>
 go (Fld 3 t17) h fun t18 h =>
 go (Ld t18) h fun t19 h =>
 go (Bin .int .add t15 t19) h fun t20 h =>
 go (Idx 1 t12 t1) h fun t21 h =>
 go (St t21 t20) h fun _ h =>
 Join 2 (fun J1 =>
 go (NilC t0) h fun t23 h =>
 go (Fld 1 t23) h fun t24 h =>
 go (Ld t24) h fun t25 h =>
 go (Idx 1 t25 t1) h fun t27 h =>
 go (Ld t27) h fun t28 h =>
 go (Bin .int .geq t28 (.int .i64 0)) h fun t29 h =>
 If t29 (
 go (NilC t0) h fun t32 h =>
 go (Fld 1 t32) h fun t33 h =>
 go (Ld t33) h fun t34 h =>
 go (Idx 1 t34 t1) h fun t36 h =>
 go (Ld t36) h fun t37 h =>
 go (CallF Try.prog 26 [t0, t37]) h fun t38 h =>
 J1 t0 t1 h) (
 J1 t0 t1 h)) (fun t0_1 t1_1 h =>
 Join 0 (fun J2 =>
 go (NilC t0_1) h fun t40 h =>
 go (Fld 0 t40) h fun t41 h =>
 go (Ld t41) h fun t42 h =>
 go (Idx 1 t42 t1_1) h fun t44 h =>
 go (Ld t44) h fun t45 h =>
 go (Bin .int .gtr t45 (.int .i64 1125899906842624)) h fun t46 h =>
 If t46 (
 go (CallF Try.prog 27 [t0_1]) h fun t48 h =>
 J2 h) (
 J2 h)) (fun  h =>
 K (.bool true) h)))
set_option maxRecDepth 100000 in
theorem scores_Heap_Bump.eq : (fun t0 t1 K h => scores_Heap_Bump.pt t0 t1 K h : Value → Value → Ret → Heap → Prop) = (fun t0 t1 K h => fnPt Try.prog [11, 13, 18, 20] Try.f15 scores_Heap_Bump.ann [t0, t1] K h) := by kernel_rfl
theorem scores_Heap_Bump.ok {t0 t1 : Value} {K : Ret} {h : Heap} (hp : scores_Heap_Bump.pt t0 t1 K h) : CallH Try.prog 15 #[t0, t1] K h :=
  fn_sound (qs := [11, 13, 18, 20]) (fn := Try.f15) (ann := scores_Heap_Bump.ann) (args := [t0, t1]) follows_mixed Try.func15 ((Eq.to_iff (congrFun (congrFun (congrFun (congrFun (scores_Heap_Bump.eq) t0) t1) K) h)).mp hp)

/-! ### (*bradawl/scores.Heap).Decay: function 16 -/
abbrev scores_Heap_Decay.id : FuncId := 16
def scores_Heap_Decay.ann : Ann := (.seq none .leaf (.seq none .leaf (.cond .leaf .leaf)))
set_option maxRecDepth 100000 in
def scores_Heap_Decay.pt (t0 : Value) (K : Ret) (h : Heap) : Prop :=
 go (NilC t0) h fun t3 h =>
 go (Fld 3 t3) h fun t4 h =>
 go (Ld t4) h fun t5 h =>
 go (NilC t0) h fun t7 h =>
 go (Fld 3 t7) h fun t8 h =>
 go (Ld t8) h fun t9 h =>
 go (Bin .int .quo t9 (.int .i64 15)) h fun t10 h =>
 go (Bin .int .add t10 (.int .i64 1)) h fun t11 h =>
 go (Bin .int .add t5 t11) h fun t12 h =>
 go (NilC t0) h fun t13 h =>
 go (Fld 3 t13) h fun t14 h =>
 go (St t14 t12) h fun _ h =>
 go (NilC t0) h fun t16 h =>
 go (Fld 3 t16) h fun t17 h =>
 go (Ld t17) h fun t18 h =>
 go (Bin .int .gtr t18 (.int .i64 1125899906842624)) h fun t19 h =>
 If t19 (
 go (CallF Try.prog 27 [t0]) h fun t21 h =>
 K (.tuple #[]) h) (
 K (.tuple #[]) h)
set_option maxRecDepth 100000 in
theorem scores_Heap_Decay.eq : (fun t0 K h => scores_Heap_Decay.pt t0 K h : Value → Ret → Heap → Prop) = (fun t0 K h => fnPt Try.prog [11, 13, 18, 20] Try.f16 scores_Heap_Decay.ann [t0] K h) := by kernel_rfl
theorem scores_Heap_Decay.ok {t0 : Value} {K : Ret} {h : Heap} (hp : scores_Heap_Decay.pt t0 K h) : CallH Try.prog 16 #[t0] K h :=
  fn_sound (qs := [11, 13, 18, 20]) (fn := Try.f16) (ann := scores_Heap_Decay.ann) (args := [t0]) follows_mixed Try.func16 ((Eq.to_iff (congrFun (congrFun (congrFun (scores_Heap_Decay.eq) t0) K) h)).mp hp)

/-! ### (*bradawl/scores.Heap).Put: function 17 -/
abbrev scores_Heap_Put.id : FuncId := 17
def scores_Heap_Put.ann : Ann := (.seq none .leaf (.seq none (.seq none .leaf (.cond (.seq none .leaf .leaf) .leaf)) (.seq none .leaf (.seq none .leaf (.seq none .leaf (.seq none .leaf .leaf))))))
set_option maxRecDepth 100000 in
def scores_Heap_Put.pt (t0 t1 : Value) (K : Ret) (h : Heap) : Prop :=
 go (CallF Try.prog 25 [t0, t1]) h fun t7 h =>
 go (Un .not t7) h fun t8 h =>
 go (Gd t8 false (Mv t0)) h fun t10 h =>
 go (Gd t8 false (NilC t10)) h fun t11 h =>
 go (Gd t8 false (Fld 1 t11)) h fun t12 h =>
 go (Gd t8 false (Ld t12)) h fun t13 h =>
 go (Gd t8 false (Mv t1)) h fun t14 h =>
 go (Gd t8 false (Idx 1 t13 t14)) h fun t15 h =>
 go (Gd t8 false (Ld t15)) h fun t16 h =>
 go (Gd t8 false (Bin .int .geq t16 (.int .i64 0))) h fun t17 h =>
 go (Pick t8 (.bool true) t17) h fun t18 h =>
 If t18 (
 K (.bool false) h) (
 go (NilC t0) h fun t21 h =>
 go (Fld 2 t21) h fun t22 h =>
 go (Ld t22) h fun t23 h =>
 go (BldS 3 1 1 #[(.int .i64 0)] [(0, t1)]) h fun t25 h =>
 go (App 3 1 8 #[(.int .i64 0)] t23 t25) h fun t26 h =>
 go (NilC t0) h fun t27 h =>
 go (Fld 2 t27) h fun t28 h =>
 go (St t28 t26) h fun _ h =>
 go (NilC t0) h fun t30 h =>
 go (Fld 1 t30) h fun t31 h =>
 go (Ld t31) h fun t32 h =>
 go (NilC t0) h fun t35 h =>
 go (Fld 2 t35) h fun t36 h =>
 go (Ld t36) h fun t37 h =>
 go (Len t37) h fun t38 h =>
 go (Bin .int .sub t38 (.int .i64 1)) h fun t39 h =>
 go (Idx 1 t32 t1) h fun t40 h =>
 go (St t40 t39) h fun _ h =>
 go (NilC t0) h fun t43 h =>
 go (Fld 2 t43) h fun t44 h =>
 go (Ld t44) h fun t45 h =>
 go (Len t45) h fun t46 h =>
 go (Bin .int .sub t46 (.int .i64 1)) h fun t47 h =>
 go (CallF Try.prog 26 [t0, t47]) h fun t48 h =>
 K (.bool true) h)
set_option maxRecDepth 100000 in
theorem scores_Heap_Put.eq : (fun t0 t1 K h => scores_Heap_Put.pt t0 t1 K h : Value → Value → Ret → Heap → Prop) = (fun t0 t1 K h => fnPt Try.prog [11, 13, 18, 20] Try.f17 scores_Heap_Put.ann [t0, t1] K h) := by kernel_rfl
theorem scores_Heap_Put.ok {t0 t1 : Value} {K : Ret} {h : Heap} (hp : scores_Heap_Put.pt t0 t1 K h) : CallH Try.prog 17 #[t0, t1] K h :=
  fn_sound (qs := [11, 13, 18, 20]) (fn := Try.f17) (ann := scores_Heap_Put.ann) (args := [t0, t1]) follows_mixed Try.func17 ((Eq.to_iff (congrFun (congrFun (congrFun (congrFun (scores_Heap_Put.eq) t0) t1) K) h)).mp hp)

/-! ### (*bradawl/scores.Heap).Rise: function 18 -/
abbrev scores_Heap_Rise.id : FuncId := 18
def scores_Heap_Rise.ann : Ann := (.seq none .leaf (.seq none .leaf .leaf))
set_option maxRecDepth 100000 in
def scores_Heap_Rise.pt (t0 : Value) (K : Ret) (h : Heap) : Prop :=
 go (NilC t0) h fun t4 h =>
 go (Fld 3 t4) h fun t5 h =>
 go (Ld t5) h fun t6 h =>
 K t6 h
set_option maxRecDepth 100000 in
theorem scores_Heap_Rise.eq : (fun t0 K h => scores_Heap_Rise.pt t0 K h : Value → Ret → Heap → Prop) = (fun t0 K h => fnPt Try.prog [11, 13, 18, 20] Try.f18 scores_Heap_Rise.ann [t0] K h) := by kernel_rfl
theorem scores_Heap_Rise.ok {t0 : Value} {K : Ret} {h : Heap} (hp : scores_Heap_Rise.pt t0 K h) : CallH Try.prog 18 #[t0] K h :=
  fn_sound (qs := [11, 13, 18, 20]) (fn := Try.f18) (ann := scores_Heap_Rise.ann) (args := [t0]) follows_mixed Try.func18 ((Eq.to_iff (congrFun (congrFun (congrFun (scores_Heap_Rise.eq) t0) K) h)).mp hp)

/-! ### (*bradawl/scores.Heap).First: function 19 -/
abbrev scores_Heap_First.id : FuncId := 19
def scores_Heap_First.ann : Ann := (.seq none .leaf (.seq none (.seq none .leaf (.cond (.seq none .leaf .leaf) .leaf)) (.seq none .leaf .leaf)))
set_option maxRecDepth 100000 in
def scores_Heap_First.pt (t0 : Value) (K : Ret) (h : Heap) : Prop :=
 go (NilC t0) h fun t5 h =>
 go (Fld 2 t5) h fun t6 h =>
 go (Ld t6) h fun t7 h =>
 go (Len t7) h fun t8 h =>
 go (Bin .int .eql t8 (.int .i64 0)) h fun t9 h =>
 If t9 (
 K (.tuple #[(.int .i64 0), (.bool false)]) h) (
 go (NilC t0) h fun t11 h =>
 go (Fld 2 t11) h fun t12 h =>
 go (Ld t12) h fun t13 h =>
 go (Idx 1 t13 (.int .i64 0)) h fun t14 h =>
 go (Ld t14) h fun t15 h =>
 K (.tuple #[t15, (.bool true)]) h)
set_option maxRecDepth 100000 in
theorem scores_Heap_First.eq : (fun t0 K h => scores_Heap_First.pt t0 K h : Value → Ret → Heap → Prop) = (fun t0 K h => fnPt Try.prog [11, 13, 18, 20] Try.f19 scores_Heap_First.ann [t0] K h) := by kernel_rfl
theorem scores_Heap_First.ok {t0 : Value} {K : Ret} {h : Heap} (hp : scores_Heap_First.pt t0 K h) : CallH Try.prog 19 #[t0] K h :=
  fn_sound (qs := [11, 13, 18, 20]) (fn := Try.f19) (ann := scores_Heap_First.ann) (args := [t0]) follows_mixed Try.func19 ((Eq.to_iff (congrFun (congrFun (congrFun (scores_Heap_First.eq) t0) K) h)).mp hp)

/-! ### (*bradawl/scores.Heap).In: function 20 -/
abbrev scores_Heap_In.id : FuncId := 20
def scores_Heap_In.ann : Ann := (.seq none .leaf (.seq none .leaf .leaf))
set_option maxRecDepth 100000 in
def scores_Heap_In.pt (t0 t1 : Value) (K : Ret) (h : Heap) : Prop :=
 go (CallF Try.prog 25 [t0, t1]) h fun t7 h =>
 go (Gd t7 true (Mv t0)) h fun t9 h =>
 go (Gd t7 true (NilC t9)) h fun t10 h =>
 go (Gd t7 true (Fld 1 t10)) h fun t11 h =>
 go (Gd t7 true (Ld t11)) h fun t12 h =>
 go (Gd t7 true (Mv t1)) h fun t13 h =>
 go (Gd t7 true (Idx 1 t12 t13)) h fun t14 h =>
 go (Gd t7 true (Ld t14)) h fun t15 h =>
 go (Gd t7 true (Bin .int .geq t15 (.int .i64 0))) h fun t16 h =>
 go (Pick t7 t16 (.bool false)) h fun t17 h =>
 K t17 h
set_option maxRecDepth 100000 in
theorem scores_Heap_In.eq : (fun t0 t1 K h => scores_Heap_In.pt t0 t1 K h : Value → Value → Ret → Heap → Prop) = (fun t0 t1 K h => fnPt Try.prog [11, 13, 18, 20] Try.f20 scores_Heap_In.ann [t0, t1] K h) := by kernel_rfl
theorem scores_Heap_In.ok {t0 t1 : Value} {K : Ret} {h : Heap} (hp : scores_Heap_In.pt t0 t1 K h) : CallH Try.prog 20 #[t0, t1] K h :=
  fn_sound (qs := [11, 13, 18, 20]) (fn := Try.f20) (ann := scores_Heap_In.ann) (args := [t0, t1]) follows_mixed Try.func20 ((Eq.to_iff (congrFun (congrFun (congrFun (congrFun (scores_Heap_In.eq) t0) t1) K) h)).mp hp)

/-! ### bradawl/scores.New: function 21 -/
abbrev scores_New.id : FuncId := 21
def scores_New.ann : Ann := (.seq none .leaf (.seq (some [0, 3]) .leaf (.seq none (.seq none .leaf (.block (.loop [0, 3, 4] (.seq none (.seq none .leaf (.cond .leaf .leaf)) (.seq none (.block (.seq none .leaf .leaf)) .leaf))))) (.seq none .leaf .leaf))))
set_option maxRecDepth 100000 in
def scores_New.pt (t0 : Value) (K : Ret) (h : Heap) : Prop :=
 Join 2 (fun J1 =>
 go (Bin .int .add t0 (.int .i64 1)) h fun t6 h =>
 go (Bin .int .add t0 (.int .i64 1)) h fun t9 h =>
 (go (MkS 3 8 1 #[(.int .i64 0)] t6 t6) h fun t7 h =>
 go (MkS 3 8 1 #[(.int .i64 0)] t9 t9) h fun t10 h =>
 go (Bld [(0, 1), (1, 1), (2, 1), (3, 1)] #[(.slice none 0 0), (.slice none 0 0), (.slice none 0 0), (.int .i64 0)] [(0, t7), (1, t10), (3, (.int .i64 1048576))]) h fun t11 h =>
 go (New (Value.cells t11) 46) h fun t12 h =>
 J1 t0 t12 h) ∧
 (go (MkS 3 8 1 #[(.int .i64 0)] t9 t9) h fun t10_1 h =>
 go (MkS 3 8 1 #[(.int .i64 0)] t6 t6) h fun t7_1 h =>
 go (Bld [(0, 1), (1, 1), (2, 1), (3, 1)] #[(.slice none 0 0), (.slice none 0 0), (.slice none 0 0), (.int .i64 0)] [(0, t7_1), (1, t10_1), (3, (.int .i64 1048576))]) h fun t11_1 h =>
 go (New (Value.cells t11_1) 46) h fun t12_1 h =>
 J1 t0 t12_1 h)) (fun t0_1 t3 h =>
 Lp 3 (fun X2 t0_2 t3_1 t4 h =>
 go (Bin .int .leq t4 t0_2) h fun t15 h =>
 If t15 (
 go (NilC t3_1) h fun t19 h =>
 go (Fld 1 t19) h fun t20 h =>
 go (Ld t20) h fun t21 h =>
 go (NilC t3_1) h fun t24 h =>
 go (Fld 2 t24) h fun t25 h =>
 go (Ld t25) h fun t26 h =>
 go (Len t26) h fun t27 h =>
 go (Idx 1 t21 t4) h fun t28 h =>
 go (St t28 t27) h fun _ h =>
 go (NilC t3_1) h fun t31 h =>
 go (Fld 2 t31) h fun t32 h =>
 go (Ld t32) h fun t33 h =>
 go (BldS 3 1 1 #[(.int .i64 0)] [(0, t4)]) h fun t35 h =>
 go (App 3 1 8 #[(.int .i64 0)] t33 t35) h fun t36 h =>
 go (NilC t3_1) h fun t37 h =>
 go (Fld 2 t37) h fun t38 h =>
 go (St t38 t36) h fun _ h =>
 go (Bin .int .add t4 (.int .i64 1)) h fun t17 h =>
 X2 t0_2 t3_1 t17 h) (
 K t3_1 h)) [t0_1, t3, (.int .i64 1)] h)
set_option maxRecDepth 100000 in
theorem scores_New.eq : (fun t0 K h => scores_New.pt t0 K h : Value → Ret → Heap → Prop) = (fun t0 K h => fnPt Try.prog [11, 13, 18, 20] Try.f21 scores_New.ann [t0] K h) := by kernel_rfl
theorem scores_New.ok {t0 : Value} {K : Ret} {h : Heap} (hp : scores_New.pt t0 K h) : CallH Try.prog 21 #[t0] K h :=
  fn_sound (qs := [11, 13, 18, 20]) (fn := Try.f21) (ann := scores_New.ann) (args := [t0]) follows_mixed Try.func21 ((Eq.to_iff (congrFun (congrFun (congrFun (scores_New.eq) t0) K) h)).mp hp)

/-! ### (*bradawl/bradawllaw16.model).low: function 22 -/
abbrev bradawllaw16_model_low.id : FuncId := 22
def bradawllaw16_model_low.ann : Ann := (.seq none (.seq none .leaf (.block (.loop [0, 7, 8] (.seq none .leaf (.seq none (.cond .leaf .leaf) (.seq none (.block (.seq none .leaf .leaf)) .leaf)))))) .leaf)
set_option maxRecDepth 100000 in
def bradawllaw16_model_low.pt (t0 : Value) (K : Ret) (h : Heap) : Prop :=
 go (NilC t0) h fun t4 h =>
 go (Fld 0 t4) h fun t5 h =>
 go (Ld t5) h fun t6 h =>
 go (Len t6) h fun t7 h =>
 Lp 3 (fun X1 t0_1 t7_1 t8 h =>
 go (Bin .int .lss t8 t7_1) h fun t9 h =>
 If t9 (
 go (NilC t0_1) h fun t12 h =>
 go (Fld 0 t12) h fun t13 h =>
 go (Ld t13) h fun t14 h =>
 go (Idx 1 t14 t8) h fun t16 h =>
 go (Ld t16) h fun t17 h =>
 go (Bin .int .quo t17 (.int .i64 1073741824)) h fun t18 h =>
 go (Idx 1 t14 t8) h fun t19 h =>
 go (St t19 t18) h fun _ h =>
 go (Bin .int .add t8 (.int .i64 1)) h fun t20 h =>
 X1 t0_1 t7_1 t20 h) (
 go (NilC t0_1) h fun t23 h =>
 go (Fld 2 t23) h fun t24 h =>
 go (Ld t24) h fun t25 h =>
 go (Bin .int .quo t25 (.int .i64 1073741824)) h fun t26 h =>
 go (MaxV [t26, (.int .i64 1)]) h fun t27 h =>
 go (NilC t0_1) h fun t28 h =>
 go (Fld 2 t28) h fun t29 h =>
 go (St t29 t27) h fun _ h =>
 K (.tuple #[]) h)) [t0, t7, (.int .i64 0)] h
set_option maxRecDepth 100000 in
theorem bradawllaw16_model_low.eq : (fun t0 K h => bradawllaw16_model_low.pt t0 K h : Value → Ret → Heap → Prop) = (fun t0 K h => fnPt Try.prog [11, 13, 18, 20] Try.f22 bradawllaw16_model_low.ann [t0] K h) := by kernel_rfl
theorem bradawllaw16_model_low.ok {t0 : Value} {K : Ret} {h : Heap} (hp : bradawllaw16_model_low.pt t0 K h) : CallH Try.prog 22 #[t0] K h :=
  fn_sound (qs := [11, 13, 18, 20]) (fn := Try.f22) (ann := bradawllaw16_model_low.ann) (args := [t0]) follows_mixed Try.func22 ((Eq.to_iff (congrFun (congrFun (congrFun (bradawllaw16_model_low.eq) t0) K) h)).mp hp)

/-! ### (*bradawl/scores.Heap).set: function 23 -/
abbrev scores_Heap_set.id : FuncId := 23
def scores_Heap_set.ann : Ann := .leaf
set_option maxRecDepth 100000 in
def scores_Heap_set.pt (t0 t1 t2 : Value) (K : Ret) (h : Heap) : Prop :=
 go (NilC t0) h fun t7 h =>
 go (Fld 2 t7) h fun t8 h =>
 go (Ld t8) h fun t9 h =>
 go (NilC t0) h fun t12 h =>
 go (Fld 1 t12) h fun t13 h =>
 go (Ld t13) h fun t14 h =>
 go (Idx 1 t9 t1) h fun t18 h =>
 go (St t18 t2) h fun _ h =>
 go (Idx 1 t14 t2) h fun t19 h =>
 go (St t19 t1) h fun _ h =>
 K (.tuple #[]) h
set_option maxRecDepth 100000 in
theorem scores_Heap_set.eq : (fun t0 t1 t2 K h => scores_Heap_set.pt t0 t1 t2 K h : Value → Value → Value → Ret → Heap → Prop) = (fun t0 t1 t2 K h => fnPt Try.prog [11, 13, 18, 20] Try.f23 scores_Heap_set.ann [t0, t1, t2] K h) := by kernel_rfl
theorem scores_Heap_set.ok {t0 t1 t2 : Value} {K : Ret} {h : Heap} (hp : scores_Heap_set.pt t0 t1 t2 K h) : CallH Try.prog 23 #[t0, t1, t2] K h :=
  fn_sound (qs := [11, 13, 18, 20]) (fn := Try.f23) (ann := scores_Heap_set.ann) (args := [t0, t1, t2]) follows_mixed Try.func23 ((Eq.to_iff (congrFun (congrFun (congrFun (congrFun (congrFun (scores_Heap_set.eq) t0) t1) t2) K) h)).mp hp)

/-! ### (*bradawl/scores.Heap).sink: function 24 -/
abbrev scores_Heap_sink.id : FuncId := 24
def scores_Heap_sink.ann : Ann := (.seq none .leaf (.seq none (.block (.loop [0, 1, 4] (.block (.seq none .leaf (.seq (some [0, 1, 4, 5]) (.seq none .leaf (.cond .leaf .leaf)) (.seq none (.seq none .leaf (.cond .leaf .leaf)) (.seq none .leaf .leaf))))))) .leaf))
set_option maxRecDepth 100000 in
def scores_Heap_sink.pt (t0 t1 : Value) (K : Ret) (h : Heap) : Prop :=
 go (NilC t0) h fun t7 h =>
 go (Fld 2 t7) h fun t8 h =>
 go (Ld t8) h fun t9 h =>
 go (Idx 1 t9 t1) h fun t11 h =>
 go (Ld t11) h fun t12 h =>
 Lp 3 (fun X1 t0_1 t1_1 t4 h =>
 go (Bin .int .mul (.int .i64 2) t1_1) h fun t14 h =>
 go (Bin .int .add t14 (.int .i64 1)) h fun t15 h =>
 Join 4 (fun J2 =>
 go (Bin .int .add t15 (.int .i64 1)) h fun t17 h =>
 go (NilC t0_1) h fun t19 h =>
 go (Fld 2 t19) h fun t20 h =>
 go (Ld t20) h fun t21 h =>
 go (Len t21) h fun t22 h =>
 go (Bin .int .lss t17 t22) h fun t23 h =>
 go (Gd t23 true (Mv t0_1)) h fun t25 h =>
 go (Gd t23 true (Mv t0_1)) h fun t26 h =>
 go (Gd t23 true (NilC t26)) h fun t27 h =>
 go (Gd t23 true (Fld 2 t27)) h fun t28 h =>
 go (Gd t23 true (Ld t28)) h fun t29 h =>
 go (Gd t23 true (Mv t15)) h fun t30 h =>
 go (Gd t23 true (Bin .int .add t30 (.int .i64 1))) h fun t31 h =>
 go (Gd t23 true (Idx 1 t29 t31)) h fun t32 h =>
 go (Gd t23 true (Ld t32)) h fun t33 h =>
 go (Gd t23 true (Mv t0_1)) h fun t34 h =>
 go (Gd t23 true (NilC t34)) h fun t35 h =>
 go (Gd t23 true (Fld 2 t35)) h fun t36 h =>
 go (Gd t23 true (Ld t36)) h fun t37 h =>
 go (Gd t23 true (Mv t15)) h fun t38 h =>
 go (Gd t23 true (Idx 1 t37 t38)) h fun t39 h =>
 go (Gd t23 true (Ld t39)) h fun t40 h =>
 go (Gd t23 true (CallF Try.prog 28 [t25, t33, t40])) h fun t41 h =>
 go (Pick t23 t41 (.bool false)) h fun t42 h =>
 If t42 (
 go (Bin .int .add t15 (.int .i64 1)) h fun t44 h =>
 J2 t0_1 t1_1 t4 t44 h) (
 J2 t0_1 t1_1 t4 t15 h)) (fun t0_2 t1_2 t4_1 t5 h =>
 go (NilC t0_2) h fun t47 h =>
 go (Fld 2 t47) h fun t48 h =>
 go (Ld t48) h fun t49 h =>
 go (Len t49) h fun t50 h =>
 go (Bin .int .geq t5 t50) h fun t51 h =>
 go (Gd t51 false (Mv t0_2)) h fun t53 h =>
 go (Gd t51 false (Mv t4_1)) h fun t54 h =>
 go (Gd t51 false (Mv t0_2)) h fun t55 h =>
 go (Gd t51 false (NilC t55)) h fun t56 h =>
 go (Gd t51 false (Fld 2 t56)) h fun t57 h =>
 go (Gd t51 false (Ld t57)) h fun t58 h =>
 go (Gd t51 false (Mv t5)) h fun t59 h =>
 go (Gd t51 false (Idx 1 t58 t59)) h fun t60 h =>
 go (Gd t51 false (Ld t60)) h fun t61 h =>
 go (Gd t51 false (CallF Try.prog 28 [t53, t54, t61])) h fun t62 h =>
 go (Pick t51 (.bool true) t62) h fun t63 h =>
 If t63 (
 go (CallF Try.prog 23 [t0_2, t1_2, t4_1]) h fun t78 h =>
 K (.tuple #[]) h) (
 go (NilC t0_2) h fun t67 h =>
 go (Fld 2 t67) h fun t68 h =>
 go (Ld t68) h fun t69 h =>
 go (Idx 1 t69 t5) h fun t71 h =>
 go (Ld t71) h fun t72 h =>
 go (CallF Try.prog 23 [t0_2, t1_2, t72]) h fun t73 h =>
 X1 t0_2 t5 t4_1 h))) [t0, t1, t12] h
set_option maxRecDepth 100000 in
theorem scores_Heap_sink.eq : (fun t0 t1 K h => scores_Heap_sink.pt t0 t1 K h : Value → Value → Ret → Heap → Prop) = (fun t0 t1 K h => fnPt Try.prog [11, 13, 18, 20] Try.f24 scores_Heap_sink.ann [t0, t1] K h) := by kernel_rfl
theorem scores_Heap_sink.ok {t0 t1 : Value} {K : Ret} {h : Heap} (hp : scores_Heap_sink.pt t0 t1 K h) : CallH Try.prog 24 #[t0, t1] K h :=
  fn_sound (qs := [11, 13, 18, 20]) (fn := Try.f24) (ann := scores_Heap_sink.ann) (args := [t0, t1]) follows_mixed Try.func24 ((Eq.to_iff (congrFun (congrFun (congrFun (congrFun (scores_Heap_sink.eq) t0) t1) K) h)).mp hp)

/-! ### (*bradawl/scores.Heap).right: function 25 -/
abbrev scores_Heap_right.id : FuncId := 25
def scores_Heap_right.ann : Ann := (.seq none .leaf (.seq none .leaf .leaf))
set_option maxRecDepth 100000 in
def scores_Heap_right.pt (t0 t1 : Value) (K : Ret) (h : Heap) : Prop :=
 go (Bin .int .geq t1 (.int .i64 1)) h fun t6 h =>
 go (Gd t6 true (Mv t1)) h fun t8 h =>
 go (Gd t6 true (Mv t0)) h fun t9 h =>
 go (Gd t6 true (NilC t9)) h fun t10 h =>
 go (Gd t6 true (Fld 0 t10)) h fun t11 h =>
 go (Gd t6 true (Ld t11)) h fun t12 h =>
 go (Gd t6 true (Len t12)) h fun t13 h =>
 go (Gd t6 true (Bin .int .lss t8 t13)) h fun t14 h =>
 go (Pick t6 t14 (.bool false)) h fun t15 h =>
 K t15 h
set_option maxRecDepth 100000 in
theorem scores_Heap_right.eq : (fun t0 t1 K h => scores_Heap_right.pt t0 t1 K h : Value → Value → Ret → Heap → Prop) = (fun t0 t1 K h => fnPt Try.prog [11, 13, 18, 20] Try.f25 scores_Heap_right.ann [t0, t1] K h) := by kernel_rfl
theorem scores_Heap_right.ok {t0 t1 : Value} {K : Ret} {h : Heap} (hp : scores_Heap_right.pt t0 t1 K h) : CallH Try.prog 25 #[t0, t1] K h :=
  fn_sound (qs := [11, 13, 18, 20]) (fn := Try.f25) (ann := scores_Heap_right.ann) (args := [t0, t1]) follows_mixed Try.func25 ((Eq.to_iff (congrFun (congrFun (congrFun (congrFun (scores_Heap_right.eq) t0) t1) K) h)).mp hp)

/-! ### (*bradawl/scores.Heap).up: function 26 -/
abbrev scores_Heap_up.id : FuncId := 26
def scores_Heap_up.ann : Ann := (.seq none .leaf (.seq none (.block (.loop [0, 1, 4] (.seq none (.seq none .leaf (.cond .leaf .leaf)) (.block (.seq none .leaf .leaf))))) .leaf))
set_option maxRecDepth 100000 in
def scores_Heap_up.pt (t0 t1 : Value) (K : Ret) (h : Heap) : Prop :=
 go (NilC t0) h fun t6 h =>
 go (Fld 2 t6) h fun t7 h =>
 go (Ld t7) h fun t8 h =>
 go (Idx 1 t8 t1) h fun t10 h =>
 go (Ld t10) h fun t11 h =>
 Lp 3 (fun X1 t0_1 t1_1 t4 h =>
 go (Bin .int .gtr t1_1 (.int .i64 0)) h fun t13 h =>
 go (Gd t13 true (Mv t0_1)) h fun t15 h =>
 go (Gd t13 true (Mv t4)) h fun t16 h =>
 go (Gd t13 true (Mv t0_1)) h fun t17 h =>
 go (Gd t13 true (NilC t17)) h fun t18 h =>
 go (Gd t13 true (Fld 2 t18)) h fun t19 h =>
 go (Gd t13 true (Ld t19)) h fun t20 h =>
 go (Gd t13 true (Mv t1_1)) h fun t21 h =>
 go (Gd t13 true (Bin .int .sub t21 (.int .i64 1))) h fun t22 h =>
 go (Gd t13 true (Bin .int .quo t22 (.int .i64 2))) h fun t23 h =>
 go (Gd t13 true (Idx 1 t20 t23)) h fun t24 h =>
 go (Gd t13 true (Ld t24)) h fun t25 h =>
 go (Gd t13 true (CallF Try.prog 28 [t15, t16, t25])) h fun t26 h =>
 go (Pick t13 t26 (.bool false)) h fun t27 h =>
 If t27 (
 go (NilC t0_1) h fun t31 h =>
 go (Fld 2 t31) h fun t32 h =>
 go (Ld t32) h fun t33 h =>
 go (Bin .int .sub t1_1 (.int .i64 1)) h fun t35 h =>
 go (Bin .int .quo t35 (.int .i64 2)) h fun t36 h =>
 go (Idx 1 t33 t36) h fun t37 h =>
 go (Ld t37) h fun t38 h =>
 go (CallF Try.prog 23 [t0_1, t1_1, t38]) h fun t39 h =>
 go (Bin .int .sub t1_1 (.int .i64 1)) h fun t41 h =>
 go (Bin .int .quo t41 (.int .i64 2)) h fun t42 h =>
 X1 t0_1 t42 t4 h) (
 go (CallF Try.prog 23 [t0_1, t1_1, t4]) h fun t46 h =>
 K (.tuple #[]) h)) [t0, t1, t11] h
set_option maxRecDepth 100000 in
theorem scores_Heap_up.eq : (fun t0 t1 K h => scores_Heap_up.pt t0 t1 K h : Value → Value → Ret → Heap → Prop) = (fun t0 t1 K h => fnPt Try.prog [11, 13, 18, 20] Try.f26 scores_Heap_up.ann [t0, t1] K h) := by kernel_rfl
theorem scores_Heap_up.ok {t0 t1 : Value} {K : Ret} {h : Heap} (hp : scores_Heap_up.pt t0 t1 K h) : CallH Try.prog 26 #[t0, t1] K h :=
  fn_sound (qs := [11, 13, 18, 20]) (fn := Try.f26) (ann := scores_Heap_up.ann) (args := [t0, t1]) follows_mixed Try.func26 ((Eq.to_iff (congrFun (congrFun (congrFun (congrFun (scores_Heap_up.eq) t0) t1) K) h)).mp hp)

/-! ### (*bradawl/scores.Heap).lower: function 27 -/
abbrev scores_Heap_lower.id : FuncId := 27
def scores_Heap_lower.ann : Ann := (.seq none (.seq none .leaf (.block (.loop [0, 8, 9] (.seq none .leaf (.seq none (.cond .leaf .leaf) (.seq none (.block (.seq none .leaf .leaf)) .leaf)))))) (.seq none .leaf (.seq none .leaf (.block (.loop [0, 3] (.seq none (.seq none .leaf (.cond .leaf .leaf)) (.seq none (.block .leaf) .leaf)))))))
set_option maxRecDepth 100000 in
def scores_Heap_lower.pt (t0 : Value) (K : Ret) (h : Heap) : Prop :=
 go (NilC t0) h fun t5 h =>
 go (Fld 0 t5) h fun t6 h =>
 go (Ld t6) h fun t7 h =>
 go (Len t7) h fun t8 h =>
 Lp 3 (fun X1 t0_1 t8_1 t9 h =>
 go (Bin .int .lss t9 t8_1) h fun t10 h =>
 If t10 (
 go (NilC t0_1) h fun t13 h =>
 go (Fld 0 t13) h fun t14 h =>
 go (Ld t14) h fun t15 h =>
 go (Idx 1 t15 t9) h fun t17 h =>
 go (Ld t17) h fun t18 h =>
 go (Bin .int .shr t18 (.int .u64 30)) h fun t19 h =>
 go (Idx 1 t15 t9) h fun t20 h =>
 go (St t20 t19) h fun _ h =>
 go (Bin .int .add t9 (.int .i64 1)) h fun t21 h =>
 X1 t0_1 t8_1 t21 h) (
 go (NilC t0_1) h fun t24 h =>
 go (Fld 3 t24) h fun t25 h =>
 go (Ld t25) h fun t26 h =>
 go (Bin .int .shr t26 (.int .u64 30)) h fun t27 h =>
 go (MaxV [t27, (.int .i64 1)]) h fun t28 h =>
 go (NilC t0_1) h fun t29 h =>
 go (Fld 3 t29) h fun t30 h =>
 go (St t30 t28) h fun _ h =>
 go (NilC t0_1) h fun t32 h =>
 go (Fld 2 t32) h fun t33 h =>
 go (Ld t33) h fun t34 h =>
 go (Len t34) h fun t35 h =>
 go (Bin .int .sub t35 (.int .i64 1)) h fun t36 h =>
 Lp 2 (fun X2 t0_2 t3 h =>
 go (Bin .int .geq t3 (.int .i64 0)) h fun t38 h =>
 If t38 (
 go (CallF Try.prog 24 [t0_2, t3]) h fun t43 h =>
 go (Bin .int .sub t3 (.int .i64 1)) h fun t40 h =>
 X2 t0_2 t40 h) (
 K (.tuple #[]) h)) [t0_1, t36] h)) [t0, t8, (.int .i64 0)] h
set_option maxRecDepth 100000 in
theorem scores_Heap_lower.eq : (fun t0 K h => scores_Heap_lower.pt t0 K h : Value → Ret → Heap → Prop) = (fun t0 K h => fnPt Try.prog [11, 13, 18, 20] Try.f27 scores_Heap_lower.ann [t0] K h) := by kernel_rfl
theorem scores_Heap_lower.ok {t0 : Value} {K : Ret} {h : Heap} (hp : scores_Heap_lower.pt t0 K h) : CallH Try.prog 27 #[t0] K h :=
  fn_sound (qs := [11, 13, 18, 20]) (fn := Try.f27) (ann := scores_Heap_lower.ann) (args := [t0]) follows_mixed Try.func27 ((Eq.to_iff (congrFun (congrFun (congrFun (scores_Heap_lower.eq) t0) K) h)).mp hp)

/-! ### (*bradawl/scores.Heap).ahead: function 28 -/
abbrev scores_Heap_ahead.id : FuncId := 28
def scores_Heap_ahead.ann : Ann := (.seq none .leaf (.seq none .leaf .leaf))
set_option maxRecDepth 100000 in
def scores_Heap_ahead.pt (t0 t1 t2 : Value) (K : Ret) (h : Heap) : Prop :=
 go (NilC t0) h fun t8 h =>
 go (Fld 0 t8) h fun t9 h =>
 go (Ld t9) h fun t10 h =>
 go (Idx 1 t10 t1) h fun t12 h =>
 go (Ld t12) h fun t13 h =>
 go (NilC t0) h fun t15 h =>
 go (Fld 0 t15) h fun t16 h =>
 go (Ld t16) h fun t17 h =>
 go (Idx 1 t17 t2) h fun t19 h =>
 go (Ld t19) h fun t20 h =>
 go (Bin .int .gtr t13 t20) h fun t21 h =>
 go (Gd t21 false (Mv t0)) h fun t23 h =>
 go (Gd t21 false (NilC t23)) h fun t24 h =>
 go (Gd t21 false (Fld 0 t24)) h fun t25 h =>
 go (Gd t21 false (Ld t25)) h fun t26 h =>
 go (Gd t21 false (Mv t1)) h fun t27 h =>
 go (Gd t21 false (Idx 1 t26 t27)) h fun t28 h =>
 go (Gd t21 false (Ld t28)) h fun t29 h =>
 go (Gd t21 false (Mv t0)) h fun t30 h =>
 go (Gd t21 false (NilC t30)) h fun t31 h =>
 go (Gd t21 false (Fld 0 t31)) h fun t32 h =>
 go (Gd t21 false (Ld t32)) h fun t33 h =>
 go (Gd t21 false (Mv t2)) h fun t34 h =>
 go (Gd t21 false (Idx 1 t33 t34)) h fun t35 h =>
 go (Gd t21 false (Ld t35)) h fun t36 h =>
 go (Gd t21 false (Bin .int .eql t29 t36)) h fun t37 h =>
 go (Gd t21 false (Mv t37)) h fun t38 h =>
 go (Gd t38 true (Mv t1)) h fun t39 h =>
 go (Gd t38 true (Mv t2)) h fun t40 h =>
 go (Gd t38 true (Bin .int .lss t39 t40)) h fun t41 h =>
 go (Gd t21 false (Pick t38 t41 (.bool false))) h fun t42 h =>
 go (Pick t21 (.bool true) t42) h fun t43 h =>
 K t43 h
set_option maxRecDepth 100000 in
theorem scores_Heap_ahead.eq : (fun t0 t1 t2 K h => scores_Heap_ahead.pt t0 t1 t2 K h : Value → Value → Value → Ret → Heap → Prop) = (fun t0 t1 t2 K h => fnPt Try.prog [11, 13, 18, 20] Try.f28 scores_Heap_ahead.ann [t0, t1, t2] K h) := by kernel_rfl
theorem scores_Heap_ahead.ok {t0 t1 t2 : Value} {K : Ret} {h : Heap} (hp : scores_Heap_ahead.pt t0 t1 t2 K h) : CallH Try.prog 28 #[t0, t1, t2] K h :=
  fn_sound (qs := [11, 13, 18, 20]) (fn := Try.f28) (ann := scores_Heap_ahead.ann) (args := [t0, t1, t2]) follows_mixed Try.func28 ((Eq.to_iff (congrFun (congrFun (congrFun (congrFun (congrFun (scores_Heap_ahead.eq) t0) t1) t2) K) h)).mp hp)

end Go.Proofs.Ytcjglfomekpmgaa
