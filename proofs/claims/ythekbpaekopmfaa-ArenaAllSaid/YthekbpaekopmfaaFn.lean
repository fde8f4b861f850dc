/- What each Go function asks, in the primitives of Pt; written by a program of mine (ptgen.py) out of the translation; Lean checks that it is so. -/
import Derived.Test.YthekbpaekopmfaaProg
import Derived.KernelRfl
import Derived.Test.YthekbpaekopmfaaPtO
namespace Go.Proofs.Ythekbpaekopmfaa
open Go.Pt
set_option linter.unusedVariables false
theorem follows_mixed : Try.prog.follows .mixedOrders = true := by kernel_rfl
/-! ### bradawl/bradawllaw05.ArenaAll: function 5 -/
abbrev bradawllaw05_ArenaAll.id : FuncId := 5
def bradawllaw05_ArenaAll.ann : Ann := (.seq none .leaf (.seq none (.seq none .leaf (.cond (.seq none .leaf .leaf) .leaf)) (.seq none (.seq none .leaf (.cond (.seq none .leaf .leaf) .leaf)) (.seq none .leaf (.seq none .leaf (.seq none (.seq none .leaf (.block (.loop [4, 5, 6, 7, 8, 23, 24, 25] (.seq none .leaf (.seq none (.cond .leaf .leaf) (.seq (some [4, 5, 6, 7, 8, 23, 24, 25]) (.block (.seq none .leaf (.seq none .leaf (.cond (.seq none .leaf (.seq none (.seq none .leaf (.block (.loop [4, 5, 6, 7, 8, 11, 23, 24, 25, 38, 39] (.seq none .leaf (.seq none (.cond .leaf .leaf) (.seq none (.block (.seq none .leaf .leaf)) .leaf)))))) (.seq none .leaf .leaf))) (.seq none .leaf (.cond (.seq none .leaf .leaf) .leaf)))))) .leaf)))))) (.seq none .leaf (.seq (some [6, 8, 15]) (.seq none .leaf (.block (.range .leaf (.block (.seq none (.block (.loop [4, 5, 6, 7, 8, 15, 16] (.seq none (.seq none .leaf (.cond .leaf .leaf)) (.block .leaf)))) (.seq none (.seq none .leaf (.cond (.seq none .leaf .leaf) .leaf)) (.seq (some [4, 6, 15]) (.seq none .leaf (.cond (.seq none .leaf .leaf) .leaf)) (.seq none .leaf (.seq none .leaf (.cond (.seq none .leaf .leaf) .leaf)))))))))) (.seq none (.block (.loop [6, 8, 15] (.seq none (.seq none .leaf (.cond .leaf .leaf)) (.block .leaf)))) (.seq none .leaf .leaf))))))))))
set_option maxRecDepth 100000 in
def bradawllaw05_ArenaAll.pt (t0 t1 t2 : Value) (K : Ret) (h0 : Heap) : Prop :=
 ent h0 fun h =>
 go (New (Value.cells t1) 5) h fun t4 h =>
 go (New (Value.cells t2) 5) h fun t5 h =>
 go (New #[(.bool false)] 4) h fun t6 h =>
 go (CallF Try.prog 7 []) h fun t17 h =>
 go (Un .not t17) h fun t18 h =>
 If t18 (
 go (St t6 (.bool false)) h fun _ h =>
 Lv h0.size (fun h =>
 go (Ld t6) h fun r0 h =>
 K r0 h) h) (
 go (CallF Try.prog 18 [t0]) h fun t20 h =>
 go (Un .not t20) h fun t21 h =>
 If t21 (
 go (St t6 (.bool true)) h fun _ h =>
 Lv h0.size (fun h =>
 go (Ld t6) h fun r0 h =>
 K r0 h) h) (
 go (CallF Try.prog 8 [(.int .i64 0)]) h fun t22 h =>
 go (New #[(.pointer none)] 24) h fun t7 h =>
 go (St t7 t22) h fun _ h =>
 go (New #[(.slice none 0 0)] 40) h fun t8 h =>
 go (Len t0) h fun t24 h =>
 Lp 8 (fun X1 t4_1 t5_1 t6_1 t7_1 t8_1 t23 t24_1 t25 h =>
 go (Bin .int .lss t25 t24_1) h fun t26 h =>
 If t26 (
 Join 8 (fun J2 =>
 go (Idx 5 t23 t25) h fun t27 h =>
 go (LdA 5 t27) h fun t28 h =>
 go (New #[(.int .u8 0), (.int .i64 0), (.int .i64 0), (.slice none 0 0), (.int .u8 0)] 43) h fun t10 h =>
 go (StA 5 t10 t28) h fun _ h =>
 go (Fld 0 t10) h fun t29 h =>
 go (Ld t29) h fun t30 h =>
 go (Bin .int .and t30 (.int .u8 7)) h fun t31 h =>
 go (Bin .int .lss t31 (.int .u8 2)) h fun t32 h =>
 If t32 (
 go (Fld 3 t10) h fun t33 h =>
 go (Ld t33) h fun t34 h =>
 go (Len t34) h fun t35 h =>
 go (MkS 3 8 1 #[(.int .i64 0)] t35 t35) h fun t36 h =>
 go (Len t36) h fun t38 h =>
 Lp 11 (fun X3 t4_2 t5_2 t6_2 t7_2 t8_2 t11 t23_1 t24_2 t25_1 t38_1 t39 h =>
 go (Bin .int .lss t39 t38_1) h fun t40 h =>
 If t40 (
 go (Bin .int .add (.int .i64 1) t39) h fun t45 h =>
 go (Idx 1 t11 t39) h fun t46 h =>
 go (St t46 t45) h fun _ h =>
 go (Bin .int .add t39 (.int .i64 1)) h fun t47 h =>
 X3 t4_2 t5_2 t6_2 t7_2 t8_2 t11 t23_1 t24_2 t25_1 t38_1 t47 h) (
 go (Ld t7_2) h fun t49 h =>
 go (CallF Try.prog 9 [t49, t11, (.bool false), (.int .i64 0)]) h fun t51 h =>
 go (Ext 0 t51) h fun t52 h =>
 go (Ext 1 t51) h fun t53 h =>
 go (Ld t8_2) h fun t54 h =>
 go (Bld [(0, 1), (1, 1), (2, 1), (3, 1), (4, 1), (5, 1)] #[(.int .i64 0), (.int .i64 0), (.int .i64 0), (.slice none 0 0), (.bool false), (.bool false)] [(0, t52), (3, t11)]) h fun t57 h =>
 go (New (Value.cells t57) 46) h fun t58 h =>
 go (BldS 44 1 1 #[(.pointer none)] [(0, t58)]) h fun t59 h =>
 go (App 44 1 8 #[(.pointer none)] t54 t59) h fun t60 h =>
 go (St t8_2 t60) h fun _ h =>
 J2 t4_2 t5_2 t6_2 t7_2 t8_2 t23_1 t24_2 t25_1 h)) [t4_1, t5_1, t6_1, t7_1, t8_1, t36, t23, t24_1, t25, t38, (.int .i64 0)] h) (
 go (Ld t7_1) h fun t61 h =>
 go (Ld t8_1) h fun t62 h =>
 go (LdA 5 t10) h fun t63 h =>
 go (CallF Try.prog 19 [t61, t62, t63]) h fun t64 h =>
 go (Un .not t64) h fun t65 h =>
 If t65 (
 go (St t6_1 (.bool false)) h fun _ h =>
 Lv h0.size (fun h =>
 go (Ld t6_1) h fun r0 h =>
 K r0 h) h) (
 J2 t4_1 t5_1 t6_1 t7_1 t8_1 t23 t24_1 t25 h))) (fun t4_3 t5_3 t6_3 t7_3 t8_3 t23_2 t24_3 t25_2 h =>
 go (Bin .int .add t25_2 (.int .i64 1)) h fun t66 h =>
 X1 t4_3 t5_3 t6_3 t7_3 t8_3 t23_2 t24_3 t66 h)) (
 go (New #[(.int .i64 0)] 3) h fun t15 h =>
 go (St t15 (.int .i64 0)) h fun _ h =>
 Join 3 (fun J4 =>
 go (Ld t7_1) h fun t67 h =>
 go (CallF Try.prog 20 [t67]) h fun t68 h =>
 RngF Try.prog t68 1 (fun B5 N5 L5 => fun t69 h =>
 B5 (fun h =>
 Lp 7 (fun X6 t4_4 t5_4 t6_4 t7_4 t8_4 t15_1 t16 h =>
 go (Ld t15_1) h fun t70 h =>
 go (Ld t8_4) h fun t71 h =>
 go (Len t71) h fun t72 h =>
 go (Bin .int .lss t70 t72) h fun t73 h =>
 go (Gd t73 true (Ld t8_4)) h fun t75 h =>
 go (Gd t73 true (Ld t15_1)) h fun t76 h =>
 go (Gd t73 true (Idx 1 t75 t76)) h fun t77 h =>
 go (Gd t73 true (Ld t77)) h fun t78 h =>
 go (Gd t73 true (NilC t78)) h fun t79 h =>
 go (Gd t73 true (Fld 5 t79)) h fun t80 h =>
 go (Gd t73 true (Ld t80)) h fun t81 h =>
 go (Pick t73 t81 (.bool false)) h fun t82 h =>
 If t82 (
 go (Ld t15_1) h fun t83 h =>
 go (Bin .int .add t83 (.int .i64 1)) h fun t84 h =>
 go (St t15_1 t84) h fun _ h =>
 X6 t4_4 t5_4 t6_4 t7_4 t8_4 t15_1 t16 h) (
 go (Ld t15_1) h fun t85 h =>
 go (Ld t8_4) h fun t86 h =>
 go (Len t86) h fun t87 h =>
 go (Bin .int .geq t85 t87) h fun t88 h =>
 go (Gd t88 false (Ld t8_4)) h fun t90 h =>
 go (Gd t88 false (Ld t15_1)) h fun t91 h =>
 go (Gd t88 false (Idx 1 t90 t91)) h fun t92 h =>
 go (Gd t88 false (Ld t92)) h fun t93 h =>
 go (Gd t88 false (NilC t93)) h fun t94 h =>
 go (Gd t88 false (Fld 0 t94)) h fun t95 h =>
 go (Gd t88 false (Ld t95)) h fun t96 h =>
 go (Gd t88 false (Mv t16)) h fun t97 h =>
 go (Gd t88 false (Bin .int .neq t96 t97)) h fun t98 h =>
 go (Pick t88 (.bool true) t98) h fun t99 h =>
 If t99 (
 go (St t6_4 (.bool false)) h fun _ h =>
 L5 .ret h) (
 Join 3 (fun J7 =>
 go (Ld t15_1) h fun t100 h =>
 go (Ld t5_4) h fun t101 h =>
 go (Cvt .i64 t101) h fun t102 h =>
 go (Bin .int .rem t102 (.int .i64 9)) h fun t103 h =>
 go (Bin .int .eql t100 t103) h fun t104 h =>
 go (Gd t104 true (Ld t15_1)) h fun t106 h =>
 go (Gd t104 true (Bin .int .add t106 (.int .i64 1))) h fun t107 h =>
 go (Gd t104 true (Ld t8_4)) h fun t108 h =>
 go (Gd t104 true (Len t108)) h fun t109 h =>
 go (Gd t104 true (Bin .int .lss t107 t109)) h fun t110 h =>
 go (Pick t104 t110 (.bool false)) h fun t111 h =>
 If t111 (
 go (Ld t7_4) h fun t112 h =>
 go (Ld t8_4) h fun t113 h =>
 go (Ld t15_1) h fun t114 h =>
 go (Bin .int .add t114 (.int .i64 1)) h fun t115 h =>
 go (Idx 1 t113 t115) h fun t116 h =>
 go (Ld t116) h fun t117 h =>
 go (NilC t117) h fun t118 h =>
 go (Fld 0 t118) h fun t119 h =>
 go (Ld t119) h fun t120 h =>
 go (CallF Try.prog 11 [t112, t120]) h fun t121 h =>
 go (Ld t8_4) h fun t122 h =>
 go (Ld t15_1) h fun t123 h =>
 go (Bin .int .add t123 (.int .i64 1)) h fun t124 h =>
 go (Idx 1 t122 t124) h fun t125 h =>
 go (Ld t125) h fun t126 h =>
 go (NilC t126) h fun t127 h =>
 go (Fld 5 t127) h fun t128 h =>
 go (St t128 (.bool true)) h fun _ h =>
 J7 t4_4 t6_4 t15_1 h) (
 J7 t4_4 t6_4 t15_1 h)) (fun t4_5 t6_5 t15_2 h =>
 go (Ld t15_2) h fun t129 h =>
 go (Bin .int .add t129 (.int .i64 1)) h fun t130 h =>
 go (St t15_2 t130) h fun _ h =>
 go (Ld t15_2) h fun t131 h =>
 go (Ld t4_5) h fun t132 h =>
 go (Cvt .i64 t132) h fun t133 h =>
 go (Bin .int .eql t131 t133) h fun t134 h =>
 If t134 (
 go (St t6_5 (.bool true)) h fun _ h =>
 L5 .ret h) (
 N5 h))))) [t4_1, t5_1, t6_1, t7_1, t8_1, t15, t69] h) h) (fun h =>
 J4 t6_1 t8_1 t15 h) (fun ex h => Ex.casesOn (motive := fun _ => Prop) ex False (fun id =>
 bif Nat.beq id 4 then (
 J4 t6_1 t8_1 t15 h) else (
 False)) (
 Lv h0.size (fun h =>
 go (Ld t6_1) h fun r0 h =>
 K r0 h) h)) h) (fun t6_6 t8_5 t15_3 h =>
 Lp 3 (fun X8 t6_7 t8_6 t15_4 h =>
 go (Ld t15_4) h fun t135 h =>
 go (Ld t8_6) h fun t136 h =>
 go (Len t136) h fun t137 h =>
 go (Bin .int .lss t135 t137) h fun t138 h =>
 go (Gd t138 true (Ld t8_6)) h fun t140 h =>
 go (Gd t138 true (Ld t15_4)) h fun t141 h =>
 go (Gd t138 true (Idx 1 t140 t141)) h fun t142 h =>
 go (Gd t138 true (Ld t142)) h fun t143 h =>
 go (Gd t138 true (NilC t143)) h fun t144 h =>
 go (Gd t138 true (Fld 5 t144)) h fun t145 h =>
 go (Gd t138 true (Ld t145)) h fun t146 h =>
 go (Pick t138 t146 (.bool false)) h fun t147 h =>
 If t147 (
 go (Ld t15_4) h fun t148 h =>
 go (Bin .int .add t148 (.int .i64 1)) h fun t149 h =>
 go (St t15_4 t149) h fun _ h =>
 X8 t6_7 t8_6 t15_4 h) (
 go (Ld t15_4) h fun t150 h =>
 go (Ld t8_6) h fun t151 h =>
 go (Len t151) h fun t152 h =>
 go (Bin .int .eql t150 t152) h fun t153 h =>
 go (St t6_7 t153) h fun _ h =>
 Lv h0.size (fun h =>
 go (Ld t6_7) h fun r0 h =>
 K r0 h) h)) [t6_6, t8_5, t15_3] h))) [t4, t5, t6, t7, t8, t0, t24, (.int .i64 0)] h))
set_option maxRecDepth 100000 in
theorem bradawllaw05_ArenaAll.eq : (fun t0 t1 t2 K h => bradawllaw05_ArenaAll.pt t0 t1 t2 K h : Value → Value → Value → Ret → Heap → Prop) = (fun t0 t1 t2 K h => fnPt Try.prog [10, 13, 14, 15, 16, 17, 21, 25, 27, 28, 30] Try.f5 bradawllaw05_ArenaAll.ann [t0, t1, t2] K h) := by kernel_rfl
set_option maxRecDepth 100000 in
theorem bradawllaw05_ArenaAll.ok {t0 t1 t2 : Value} {K : Ret} {h : Heap} (hp : bradawllaw05_ArenaAll.pt t0 t1 t2 K h) : CallH Try.prog 5 #[t0, t1, t2] K h :=
  fn_sound (qs := [10, 13, 14, 15, 16, 17, 21, 25, 27, 28, 30]) (fn := Try.f5) (ann := bradawllaw05_ArenaAll.ann) (args := [t0, t1, t2]) follows_mixed Try.func5 ((Eq.to_iff (congrFun (congrFun (congrFun (congrFun (congrFun (bradawllaw05_ArenaAll.eq) t0) t1) t2) K) h)).mp hp)

/-! ### bradawl/bradawllaw05.fit: function 7 -/
abbrev bradawllaw05_fit.id : FuncId := 7
def bradawllaw05_fit.ann : Ann := (.seq none .leaf (.seq none .leaf (.seq none (.seq none .leaf (.cond (.seq none .leaf .leaf) .leaf)) (.seq none .leaf (.seq none .leaf (.seq none .leaf (.seq none .leaf .leaf)))))))
set_option maxRecDepth 100000 in
def bradawllaw05_fit.pt (K : Ret) (h : Heap) : Prop :=
 go (CallF Try.prog 8 [(.int .i64 10)]) h fun t8 h =>
 go (Bin .pointer .eql t8 (.pointer none)) h fun t10 h =>
 If t10 (
 K (.bool false) h) (
 go (BldS 3 1 2 #[(.int .i64 0)] [(0, (.int .i64 1)), (1, (.int .i64 (-2)))]) h fun t13 h =>
 go (CallF Try.prog 9 [t8, t13, (.bool false), (.int .i64 0)]) h fun t14 h =>
 go (Ext 0 t14) h fun t15 h =>
 go (Ext 1 t14) h fun t16 h =>
 go (BldS 3 1 2 #[(.int .i64 0)] [(0, (.int .i64 3)), (1, (.int .i64 4))]) h fun t19 h =>
 go (CallF Try.prog 9 [t8, t19, (.bool true), (.int .i64 2)]) h fun t20 h =>
 go (Ext 0 t20) h fun t21 h =>
 go (Ext 1 t20) h fun t22 h =>
 go (CallF Try.prog 9 [t8, (.slice none 0 0), (.bool false), (.int .i64 0)]) h fun t25 h =>
 go (Ext 0 t25) h fun t26 h =>
 go (Ext 1 t25) h fun t27 h =>
 go (Gd t16 true (Mv t22)) h fun t30 h =>
 go (Pick t16 t30 (.bool false)) h fun t31 h =>
 go (Gd t31 true (Mv t27)) h fun t33 h =>
 go (Gd t31 true (Un .not t33)) h fun t34 h =>
 go (Pick t31 t34 (.bool false)) h fun t35 h =>
 go (Gd t35 true (Mv t15)) h fun t37 h =>
 go (Gd t35 true (Bin .int .eql t37 (.int .i64 0))) h fun t38 h =>
 go (Pick t35 t38 (.bool false)) h fun t39 h =>
 go (Gd t39 true (Mv t21)) h fun t41 h =>
 go (Gd t39 true (Bin .int .eql t41 (.int .i64 5))) h fun t42 h =>
 go (Pick t39 t42 (.bool false)) h fun t43 h =>
 go (Gd t43 true (Mv t8)) h fun t45 h =>
 go (Gd t43 true (QCall Try.prog 10 [t45])) h fun t46 h =>
 go (Gd t43 true (Bin .int .eql t46 (.int .i64 10))) h fun t47 h =>
 go (Pick t43 t47 (.bool false)) h fun t48 h =>
 go (Gd t48 true (Mv t8)) h fun t50 h =>
 go (Gd t48 true (QCall Try.prog 13 [t50])) h fun t51 h =>
 go (Gd t48 true (Bin .int .eql t51 (.int .i64 2))) h fun t52 h =>
 go (Pick t48 t52 (.bool false)) h fun t53 h =>
 go (Gd t53 true (Mv t8)) h fun t55 h =>
 go (Gd t53 true (QCall Try.prog 17 [t55, (.int .i64 5), (.int .i64 1)])) h fun t56 h =>
 go (Gd t53 true (Bin .int .eql t56 (.int .i64 4))) h fun t57 h =>
 go (Pick t53 t57 (.bool false)) h fun t58 h =>
 go (Gd t58 true (Mv t8)) h fun t60 h =>
 go (Gd t58 true (QCall Try.prog 16 [t60, (.int .i64 5)])) h fun t61 h =>
 go (Pick t58 t61 (.bool false)) h fun t62 h =>
 go (Gd t62 true (Mv t8)) h fun t64 h =>
 go (Gd t62 true (QCall Try.prog 14 [t64, (.int .i64 5)])) h fun t65 h =>
 go (Gd t62 true (Bin .int .eql t65 (.int .i64 2))) h fun t66 h =>
 go (Pick t62 t66 (.bool false)) h fun t67 h =>
 K t67 h)
set_option maxRecDepth 100000 in
theorem bradawllaw05_fit.eq : (fun K h => bradawllaw05_fit.pt K h : Ret → Heap → Prop) = (fun K h => fnPt Try.prog [10, 13, 14, 15, 16, 17, 21, 25, 27, 28, 30] Try.f7 bradawllaw05_fit.ann [] K h) := by kernel_rfl
set_option maxRecDepth 100000 in
theorem bradawllaw05_fit.ok {K : Ret} {h : Heap} (hp : bradawllaw05_fit.pt K h) : CallH Try.prog 7 #[] K h :=
  fn_sound (qs := [10, 13, 14, 15, 16, 17, 21, 25, 27, 28, 30]) (fn := Try.f7) (ann := bradawllaw05_fit.ann) (args := []) follows_mixed Try.func7 ((Eq.to_iff (congrFun (congrFun (bradawllaw05_fit.eq) K) h)).mp hp)

/-! ### bradawl/arena.New: function 8 -/
abbrev arena_New.id : FuncId := 8
def arena_New.ann : Ann := (.seq none .leaf (.seq none .leaf .leaf))
set_option maxRecDepth 100000 in
def arena_New.pt (t0 : Value) (K : Ret) (h : Heap) : Prop :=
 go (MkM) h fun t4 h =>
 go (Bld [(0, 1), (1, 1), (2, 1), (3, 1)] #[(.slice none 0 0), (.int .i64 0), (.int .i64 0), (.map none)] [(1, t0), (3, t4)]) h fun t5 h =>
 go (New (Value.cells t5) 59) h fun t6 h =>
 K t6 h
set_option maxRecDepth 100000 in
theorem arena_New.eq : (fun t0 K h => arena_New.pt t0 K h : Value → Ret → Heap → Prop) = (fun t0 K h => fnPt Try.prog [10, 13, 14, 15, 16, 17, 21, 25, 27, 28, 30] Try.f8 arena_New.ann [t0] K h) := by kernel_rfl
set_option maxRecDepth 100000 in
theorem arena_New.ok {t0 : Value} {K : Ret} {h : Heap} (hp : arena_New.pt t0 K h) : CallH Try.prog 8 #[t0] K h :=
  fn_sound (qs := [10, 13, 14, 15, 16, 17, 21, 25, 27, 28, 30]) (fn := Try.f8) (ann := arena_New.ann) (args := [t0]) follows_mixed Try.func8 ((Eq.to_iff (congrFun (congrFun (congrFun (arena_New.eq) t0) K) h)).mp hp)

/-! ### (*bradawl/arena.Arena).Add: function 9 -/
abbrev arena_Arena_Add.id : FuncId := 9
def arena_Arena_Add.ann : Ann := (.seq none .leaf (.seq none .leaf (.seq none (.seq none .leaf (.cond (.seq none .leaf .leaf) .leaf)) (.seq none .leaf (.seq (some [0, 1, 3, 10, 11]) (.seq none .leaf (.cond .leaf .leaf)) (.seq none .leaf (.seq none .leaf (.seq none .leaf (.seq none .leaf .leaf)))))))))
set_option maxRecDepth 100000 in
def arena_Arena_Add.pt (t0 t1 t2 t3 : Value) (K : Ret) (h : Heap) : Prop :=
 go (NilC t0) h fun t13 h =>
 go (Fld 0 t13) h fun t14 h =>
 go (Ld t14) h fun t15 h =>
 go (Len t15) h fun t16 h =>
 go (NilC t0) h fun t18 h =>
 go (Fld 1 t18) h fun t19 h =>
 go (Ld t19) h fun t20 h =>
 go (Bin .int .gtr t20 (.int .i64 0)) h fun t21 h =>
 go (Gd t21 true (Mv t16)) h fun t23 h =>
 go (Gd t21 true (Bin .int .add t23 (.int .i64 3))) h fun t24 h =>
 go (Gd t21 true (Mv t1)) h fun t25 h =>
 go (Gd t21 true (Len t25)) h fun t26 h =>
 go (Gd t21 true (Bin .int .add t24 t26)) h fun t27 h =>
 go (Gd t21 true (Mv t0)) h fun t28 h =>
 go (Gd t21 true (NilC t28)) h fun t29 h =>
 go (Gd t21 true (Fld 1 t29)) h fun t30 h =>
 go (Gd t21 true (Ld t30)) h fun t31 h =>
 go (Gd t21 true (Bin .int .gtr t27 t31)) h fun t32 h =>
 go (Pick t21 t32 (.bool false)) h fun t33 h =>
 If t33 (
 K (.tuple #[(.int .i64 0), (.bool false)]) h) (
 go (Len t1) h fun t35 h =>
 Join 5 (fun J1 =>
 If t2 (
 go (Bin .int .or t35 (.int .i64 1099511627776)) h fun t38 h =>
 J1 t0 t1 t3 t16 t38 h) (
 J1 t0 t1 t3 t16 t35 h)) (fun t0_1 t1_1 t3_1 t10 t11 h =>
 go (NilC t0_1) h fun t41 h =>
 go (Fld 0 t41) h fun t42 h =>
 go (Ld t42) h fun t43 h =>
 go (QCall Try.prog 27 [t3_1]) h fun t46 h =>
 go (BldS 3 1 3 #[(.int .i64 0)] [(0, t11), (1, t46), (2, (.int .i64 0))]) h fun t47 h =>
 go (App 3 1 8 #[(.int .i64 0)] t43 t47) h fun t48 h =>
 go (App 3 1 8 #[(.int .i64 0)] t48 t1_1) h fun t50 h =>
 go (NilC t0_1) h fun t51 h =>
 go (Fld 0 t51) h fun t52 h =>
 go (St t52 t50) h fun _ h =>
 go (NilC t0_1) h fun t54 h =>
 go (Fld 2 t54) h fun t55 h =>
 go (Ld t55) h fun t56 h =>
 go (Bin .int .add t56 (.int .i64 1)) h fun t57 h =>
 go (NilC t0_1) h fun t58 h =>
 go (Fld 2 t58) h fun t59 h =>
 go (St t59 t57) h fun _ h =>
 go (NilC t0_1) h fun t61 h =>
 go (Fld 3 t61) h fun t62 h =>
 go (Ld t62) h fun t63 h =>
 go (MUpd t63 t10 (.bool true)) h fun _ h =>
 K (.tuple #[t10, (.bool true)]) h))
set_option maxRecDepth 100000 in
theorem arena_Arena_Add.eq : (fun t0 t1 t2 t3 K h => arena_Arena_Add.pt t0 t1 t2 t3 K h : Value → Value → Value → Value → Ret → Heap → Prop) = (fun t0 t1 t2 t3 K h => fnPt Try.prog [10, 13, 14, 15, 16, 17, 21, 25, 27, 28, 30] Try.f9 arena_Arena_Add.ann [t0, t1, t2, t3] K h) := by kernel_rfl
set_option maxRecDepth 100000 in
theorem arena_Arena_Add.ok {t0 t1 t2 t3 : Value} {K : Ret} {h : Heap} (hp : arena_Arena_Add.pt t0 t1 t2 t3 K h) : CallH Try.prog 9 #[t0, t1, t2, t3] K h :=
  fn_sound (qs := [10, 13, 14, 15, 16, 17, 21, 25, 27, 28, 30]) (fn := Try.f9) (ann := arena_Arena_Add.ann) (args := [t0, t1, t2, t3]) follows_mixed Try.func9 ((Eq.to_iff (congrFun (congrFun (congrFun (congrFun (congrFun (congrFun (arena_Arena_Add.eq) t0) t1) t2) t3) K) h)).mp hp)

/-! ### (*bradawl/arena.Arena).Words: function 10 -/
abbrev arena_Arena_Words.id : FuncId := 10
def arena_Arena_Words.ann : Ann := (.seq none .leaf (.seq none .leaf .leaf))
set_option maxRecDepth 100000 in
def arena_Arena_Words.pt (t0 : Value) (K : Ret) (h : Heap) : Prop :=
 go (NilC t0) h fun t4 h =>
 go (Fld 0 t4) h fun t5 h =>
 go (Ld t5) h fun t6 h =>
 go (Len t6) h fun t7 h =>
 K t7 h
set_option maxRecDepth 100000 in
theorem arena_Arena_Words.eq : (fun t0 K h => arena_Arena_Words.pt t0 K h : Value → Ret → Heap → Prop) = (fun t0 K h => fnPt Try.prog [10, 13, 14, 15, 16, 17, 21, 25, 27, 28, 30] Try.f10 arena_Arena_Words.ann [t0] K h) := by kernel_rfl
set_option maxRecDepth 100000 in
theorem arena_Arena_Words.ok {t0 : Value} {K : Ret} {h : Heap} (hp : arena_Arena_Words.pt t0 K h) : CallH Try.prog 10 #[t0] K h :=
  fn_sound (qs := [10, 13, 14, 15, 16, 17, 21, 25, 27, 28, 30]) (fn := Try.f10) (ann := arena_Arena_Words.ann) (args := [t0]) follows_mixed Try.func10 ((Eq.to_iff (congrFun (congrFun (congrFun (arena_Arena_Words.eq) t0) K) h)).mp hp)

/-! ### (*bradawl/arena.Arena).Drop: function 11 -/
abbrev arena_Arena_Drop.id : FuncId := 11
def arena_Arena_Drop.ann : Ann := (.seq none .leaf (.seq none (.seq none .leaf (.cond (.seq none .leaf .leaf) .leaf)) (.seq none .leaf (.seq none .leaf (.seq none .leaf (.seq none .leaf .leaf))))))
set_option maxRecDepth 100000 in
def arena_Arena_Drop.pt (t0 t1 : Value) (K : Ret) (h : Heap) : Prop :=
 go (QCall Try.prog 21 [t0, t1]) h fun t7 h =>
 go (Un .not t7) h fun t8 h =>
 If t8 (
 K (.bool false) h) (
 go (NilC t0) h fun t10 h =>
 go (Fld 3 t10) h fun t11 h =>
 go (Ld t11) h fun t12 h =>
 go (MDel t12 t1) h fun _ h =>
 go (NilC t0) h fun t15 h =>
 go (Fld 0 t15) h fun t16 h =>
 go (Ld t16) h fun t17 h =>
 go (Bin .int .add t1 (.int .i64 0)) h fun t19 h =>
 go (Idx 1 t17 t19) h fun t20 h =>
 go (Ld t20) h fun t21 h =>
 go (Bin .int .or t21 (.int .i64 2199023255552)) h fun t22 h =>
 go (Idx 1 t17 t19) h fun t23 h =>
 go (St t23 t22) h fun _ h =>
 go (NilC t0) h fun t25 h =>
 go (Fld 2 t25) h fun t26 h =>
 go (Ld t26) h fun t27 h =>
 go (Bin .int .sub t27 (.int .i64 1)) h fun t28 h =>
 go (NilC t0) h fun t29 h =>
 go (Fld 2 t29) h fun t30 h =>
 go (St t30 t28) h fun _ h =>
 K (.bool true) h)
set_option maxRecDepth 100000 in
theorem arena_Arena_Drop.eq : (fun t0 t1 K h => arena_Arena_Drop.pt t0 t1 K h : Value → Value → Ret → Heap → Prop) = (fun t0 t1 K h => fnPt Try.prog [10, 13, 14, 15, 16, 17, 21, 25, 27, 28, 30] Try.f11 arena_Arena_Drop.ann [t0, t1] K h) := by kernel_rfl
set_option maxRecDepth 100000 in
theorem arena_Arena_Drop.ok {t0 t1 : Value} {K : Ret} {h : Heap} (hp : arena_Arena_Drop.pt t0 t1 K h) : CallH Try.prog 11 #[t0, t1] K h :=
  fn_sound (qs := [10, 13, 14, 15, 16, 17, 21, 25, 27, 28, 30]) (fn := Try.f11) (ann := arena_Arena_Drop.ann) (args := [t0, t1]) follows_mixed Try.func11 ((Eq.to_iff (congrFun (congrFun (congrFun (congrFun (arena_Arena_Drop.eq) t0) t1) K) h)).mp hp)

/-! ### (*bradawl/arena.Arena).Compact: function 12 -/
abbrev arena_Arena_Compact.id : FuncId := 12
def arena_Arena_Compact.ann : Ann := (.seq none .leaf (.seq none .leaf (.seq none .leaf (.seq none .leaf (.seq (some [1, 3, 4, 5]) (.seq none .leaf (.block (.range .leaf (.block (.seq none .leaf (.seq none .leaf .leaf)))))) (.seq (some [3]) .leaf (.seq none .leaf .leaf)))))))
set_option maxRecDepth 100000 in
def arena_Arena_Compact.pt (t0 : Value) (K : Ret) (h0 : Heap) : Prop :=
 ent h0 fun h =>
 go (New (Value.cells t0) 24) h fun t1 h =>
 go (MkM) h fun t7 h =>
 go (New #[(.map none)] 33) h fun t3 h =>
 go (St t3 t7) h fun _ h =>
 go (MkM) h fun t8 h =>
 go (New #[(.map none)] 57) h fun t4 h =>
 go (St t4 t8) h fun _ h =>
 go (New #[(.slice none 0 0)] 28) h fun t5 h =>
 Join 4 (fun J1 =>
 go (Ld t1) h fun t9 h =>
 go (CallF Try.prog 20 [t9]) h fun t10 h =>
 RngF Try.prog t10 1 (fun B2 N2 L2 => fun t11 h =>
 B2 (fun h =>
 go (Ld t3) h fun t12 h =>
 go (Ld t5) h fun t14 h =>
 go (Len t14) h fun t15 h =>
 go (MUpd t12 t11 t15) h fun _ h =>
 go (Ld t4) h fun t16 h =>
 go (Ld t5) h fun t17 h =>
 go (Len t17) h fun t18 h =>
 go (MUpd t16 t18 (.bool true)) h fun _ h =>
 go (Ld t5) h fun t19 h =>
 go (Ld t1) h fun t20 h =>
 go (NilC t20) h fun t21 h =>
 go (Fld 0 t21) h fun t22 h =>
 go (Ld t22) h fun t23 h =>
 go (Bin .int .add t11 (.int .i64 3)) h fun t26 h =>
 go (Ld t1) h fun t27 h =>
 go (QCall Try.prog 15 [t27, t11]) h fun t29 h =>
 go (Bin .int .add t26 t29) h fun t30 h =>
 go (Slc 1 t23 (some t11) (some t30) none) h fun t31 h =>
 go (App 3 1 8 #[(.int .i64 0)] t19 t31) h fun t32 h =>
 go (St t5 t32) h fun _ h =>
 N2 h) h) (fun h =>
 J1 t1 t3 t4 t5 h) (fun ex h => Ex.casesOn (motive := fun _ => Prop) ex False (fun id =>
 bif Nat.beq id 0 then (
 J1 t1 t3 t4 t5 h) else (
 False)) (
 Lv h0.size (fun h =>
 K (.map none) h) h)) h) (fun t1_1 t3_1 t4_1 t5_1 h =>
 Join 1 (fun J3 =>
 go (Ld t1_1) h fun t33 h =>
 go (Ld t5_1) h fun t35 h =>
 go (NilC t33) h fun t37 h =>
 go (Fld 0 t37) h fun t38 h =>
 (go (Ld t1_1) h fun t34 h =>
 (go (Ld t4_1) h fun t36 h =>
 go (St t38 t35) h fun _ h =>
 go (NilC t34) h fun t39 h =>
 go (Fld 3 t39) h fun t40 h =>
 go (St t40 t36) h fun _ h =>
 J3 t3_1 h) ∧
 (go (St t38 t35) h fun _ h =>
 go (Ld t4_1) h fun t36_1 h =>
 go (NilC t34) h fun t39_1 h =>
 go (Fld 3 t39_1) h fun t40_1 h =>
 go (St t40_1 t36_1) h fun _ h =>
 J3 t3_1 h)) ∧
 (go (Ld t4_1) h fun t36_2 h =>
 (go (Ld t1_1) h fun t34_1 h =>
 go (St t38 t35) h fun _ h =>
 go (NilC t34_1) h fun t39_2 h =>
 go (Fld 3 t39_2) h fun t40_2 h =>
 go (St t40_2 t36_2) h fun _ h =>
 J3 t3_1 h) ∧
 (go (St t38 t35) h fun _ h =>
 go (Ld t1_1) h fun t34_2 h =>
 go (NilC t34_2) h fun t39_3 h =>
 go (Fld 3 t39_3) h fun t40_3 h =>
 go (St t40_3 t36_2) h fun _ h =>
 J3 t3_1 h)) ∧
 (go (St t38 t35) h fun _ h =>
 go (Ld t1_1) h fun t34_3 h =>
 go (Ld t4_1) h fun t36_3 h =>
 go (NilC t34_3) h fun t39_4 h =>
 go (Fld 3 t39_4) h fun t40_4 h =>
 go (St t40_4 t36_3) h fun _ h =>
 J3 t3_1 h)) (fun t3_2 h =>
 go (Ld t3_2) h fun t41 h =>
 Lv h0.size (fun h =>
 K t41 h) h))
set_option maxRecDepth 100000 in
theorem arena_Arena_Compact.eq : (fun t0 K h => arena_Arena_Compact.pt t0 K h : Value → Ret → Heap → Prop) = (fun t0 K h => fnPt Try.prog [10, 13, 14, 15, 16, 17, 21, 25, 27, 28, 30] Try.f12 arena_Arena_Compact.ann [t0] K h) := by kernel_rfl
set_option maxRecDepth 100000 in
theorem arena_Arena_Compact.ok {t0 : Value} {K : Ret} {h : Heap} (hp : arena_Arena_Compact.pt t0 K h) : CallH Try.prog 12 #[t0] K h :=
  fn_sound (qs := [10, 13, 14, 15, 16, 17, 21, 25, 27, 28, 30]) (fn := Try.f12) (ann := arena_Arena_Compact.ann) (args := [t0]) follows_mixed Try.func12 ((Eq.to_iff (congrFun (congrFun (congrFun (arena_Arena_Compact.eq) t0) K) h)).mp hp)

/-! ### (*bradawl/arena.Arena).Count: function 13 -/
abbrev arena_Arena_Count.id : FuncId := 13
def arena_Arena_Count.ann : Ann := (.seq none .leaf (.seq none .leaf .leaf))
set_option maxRecDepth 100000 in
def arena_Arena_Count.pt (t0 : Value) (K : Ret) (h : Heap) : Prop :=
 go (NilC t0) h fun t4 h =>
 go (Fld 2 t4) h fun t5 h =>
 go (Ld t5) h fun t6 h =>
 K t6 h
set_option maxRecDepth 100000 in
theorem arena_Arena_Count.eq : (fun t0 K h => arena_Arena_Count.pt t0 K h : Value → Ret → Heap → Prop) = (fun t0 K h => fnPt Try.prog [10, 13, 14, 15, 16, 17, 21, 25, 27, 28, 30] Try.f13 arena_Arena_Count.ann [t0] K h) := by kernel_rfl
set_option maxRecDepth 100000 in
theorem arena_Arena_Count.ok {t0 : Value} {K : Ret} {h : Heap} (hp : arena_Arena_Count.pt t0 K h) : CallH Try.prog 13 #[t0] K h :=
  fn_sound (qs := [10, 13, 14, 15, 16, 17, 21, 25, 27, 28, 30]) (fn := Try.f13) (ann := arena_Arena_Count.ann) (args := [t0]) follows_mixed Try.func13 ((Eq.to_iff (congrFun (congrFun (congrFun (arena_Arena_Count.eq) t0) K) h)).mp hp)

/-! ### (*bradawl/arena.Arena).Glue: function 14 -/
abbrev arena_Arena_Glue.id : FuncId := 14
def arena_Arena_Glue.ann : Ann := (.seq none .leaf (.seq none .leaf .leaf))
set_option maxRecDepth 100000 in
def arena_Arena_Glue.pt (t0 t1 : Value) (K : Ret) (h : Heap) : Prop :=
 go (QCall Try.prog 28 [t0, t1, (.int .i64 1)]) h fun t7 h =>
 K t7 h
set_option maxRecDepth 100000 in
theorem arena_Arena_Glue.eq : (fun t0 t1 K h => arena_Arena_Glue.pt t0 t1 K h : Value → Value → Ret → Heap → Prop) = (fun t0 t1 K h => fnPt Try.prog [10, 13, 14, 15, 16, 17, 21, 25, 27, 28, 30] Try.f14 arena_Arena_Glue.ann [t0, t1] K h) := by kernel_rfl
set_option maxRecDepth 100000 in
theorem arena_Arena_Glue.ok {t0 t1 : Value} {K : Ret} {h : Heap} (hp : arena_Arena_Glue.pt t0 t1 K h) : CallH Try.prog 14 #[t0, t1] K h :=
  fn_sound (qs := [10, 13, 14, 15, 16, 17, 21, 25, 27, 28, 30]) (fn := Try.f14) (ann := arena_Arena_Glue.ann) (args := [t0, t1]) follows_mixed Try.func14 ((Eq.to_iff (congrFun (congrFun (congrFun (congrFun (arena_Arena_Glue.eq) t0) t1) K) h)).mp hp)

/-! ### (*bradawl/arena.Arena).Len: function 15 -/
abbrev arena_Arena_Len.id : FuncId := 15
def arena_Arena_Len.ann : Ann := (.seq none .leaf (.seq none (.seq none .leaf (.cond (.seq none .leaf .leaf) .leaf)) (.seq none .leaf .leaf)))
set_option maxRecDepth 100000 in
def arena_Arena_Len.pt (t0 t1 : Value) (K : Ret) (h : Heap) : Prop :=
 go (QCall Try.prog 21 [t0, t1]) h fun t7 h =>
 go (Un .not t7) h fun t8 h =>
 If t8 (
 K (.int .i64 0) h) (
 go (NilC t0) h fun t10 h =>
 go (Fld 0 t10) h fun t11 h =>
 go (Ld t11) h fun t12 h =>
 go (Bin .int .add t1 (.int .i64 0)) h fun t14 h =>
 go (Idx 1 t12 t14) h fun t15 h =>
 go (Ld t15) h fun t16 h =>
 go (Bin .int .and t16 (.int .i64 1099511627775)) h fun t17 h =>
 K t17 h)
set_option maxRecDepth 100000 in
theorem arena_Arena_Len.eq : (fun t0 t1 K h => arena_Arena_Len.pt t0 t1 K h : Value → Value → Ret → Heap → Prop) = (fun t0 t1 K h => fnPt Try.prog [10, 13, 14, 15, 16, 17, 21, 25, 27, 28, 30] Try.f15 arena_Arena_Len.ann [t0, t1] K h) := by kernel_rfl
set_option maxRecDepth 100000 in
theorem arena_Arena_Len.ok {t0 t1 : Value} {K : Ret} {h : Heap} (hp : arena_Arena_Len.pt t0 t1 K h) : CallH Try.prog 15 #[t0, t1] K h :=
  fn_sound (qs := [10, 13, 14, 15, 16, 17, 21, 25, 27, 28, 30]) (fn := Try.f15) (ann := arena_Arena_Len.ann) (args := [t0, t1]) follows_mixed Try.func15 ((Eq.to_iff (congrFun (congrFun (congrFun (congrFun (arena_Arena_Len.eq) t0) t1) K) h)).mp hp)

/-! ### (*bradawl/arena.Arena).Learned: function 16 -/
abbrev arena_Arena_Learned.id : FuncId := 16
def arena_Arena_Learned.ann : Ann := (.seq none .leaf (.seq none .leaf .leaf))
set_option maxRecDepth 100000 in
def arena_Arena_Learned.pt (t0 t1 : Value) (K : Ret) (h : Heap) : Prop :=
 go (QCall Try.prog 21 [t0, t1]) h fun t7 h =>
 go (Gd t7 true (Mv t0)) h fun t9 h =>
 go (Gd t7 true (NilC t9)) h fun t10 h =>
 go (Gd t7 true (Fld 0 t10)) h fun t11 h =>
 go (Gd t7 true (Ld t11)) h fun t12 h =>
 go (Gd t7 true (Mv t1)) h fun t13 h =>
 go (Gd t7 true (Bin .int .add t13 (.int .i64 0))) h fun t14 h =>
 go (Gd t7 true (Idx 1 t12 t14)) h fun t15 h =>
 go (Gd t7 true (Ld t15)) h fun t16 h =>
 go (Gd t7 true (Bin .int .and t16 (.int .i64 1099511627776))) h fun t17 h =>
 go (Gd t7 true (Bin .int .neq t17 (.int .i64 0))) h fun t18 h =>
 go (Pick t7 t18 (.bool false)) h fun t19 h =>
 K t19 h
set_option maxRecDepth 100000 in
theorem arena_Arena_Learned.eq : (fun t0 t1 K h => arena_Arena_Learned.pt t0 t1 K h : Value → Value → Ret → Heap → Prop) = (fun t0 t1 K h => fnPt Try.prog [10, 13, 14, 15, 16, 17, 21, 25, 27, 28, 30] Try.f16 arena_Arena_Learned.ann [t0, t1] K h) := by kernel_rfl
set_option maxRecDepth 100000 in
theorem arena_Arena_Learned.ok {t0 t1 : Value} {K : Ret} {h : Heap} (hp : arena_Arena_Learned.pt t0 t1 K h) : CallH Try.prog 16 #[t0, t1] K h :=
  fn_sound (qs := [10, 13, 14, 15, 16, 17, 21, 25, 27, 28, 30]) (fn := Try.f16) (ann := arena_Arena_Learned.ann) (args := [t0, t1]) follows_mixed Try.func16 ((Eq.to_iff (congrFun (congrFun (congrFun (congrFun (arena_Arena_Learned.eq) t0) t1) K) h)).mp hp)

/-! ### (*bradawl/arena.Arena).Lit: function 17 -/
abbrev arena_Arena_Lit.id : FuncId := 17
def arena_Arena_Lit.ann : Ann := (.seq none .leaf (.seq none (.seq none .leaf (.cond (.seq none .leaf .leaf) .leaf)) (.seq none .leaf .leaf)))
set_option maxRecDepth 100000 in
def arena_Arena_Lit.pt (t0 t1 t2 : Value) (K : Ret) (h : Heap) : Prop :=
 go (Bin .int .lss t2 (.int .i64 0)) h fun t8 h =>
 go (Gd t8 false (Mv t2)) h fun t10 h =>
 go (Gd t8 false (Mv t0)) h fun t11 h =>
 go (Gd t8 false (Mv t1)) h fun t12 h =>
 go (Gd t8 false (QCall Try.prog 15 [t11, t12])) h fun t13 h =>
 go (Gd t8 false (Bin .int .geq t10 t13)) h fun t14 h =>
 go (Pick t8 (.bool true) t14) h fun t15 h =>
 If t15 (
 K (.int .i64 0) h) (
 go (NilC t0) h fun t17 h =>
 go (Fld 0 t17) h fun t18 h =>
 go (Ld t18) h fun t19 h =>
 go (Bin .int .add t1 (.int .i64 3)) h fun t21 h =>
 go (Bin .int .add t21 t2) h fun t23 h =>
 go (Idx 1 t19 t23) h fun t24 h =>
 go (Ld t24) h fun t25 h =>
 K t25 h)
set_option maxRecDepth 100000 in
theorem arena_Arena_Lit.eq : (fun t0 t1 t2 K h => arena_Arena_Lit.pt t0 t1 t2 K h : Value → Value → Value → Ret → Heap → Prop) = (fun t0 t1 t2 K h => fnPt Try.prog [10, 13, 14, 15, 16, 17, 21, 25, 27, 28, 30] Try.f17 arena_Arena_Lit.ann [t0, t1, t2] K h) := by kernel_rfl
set_option maxRecDepth 100000 in
theorem arena_Arena_Lit.ok {t0 t1 t2 : Value} {K : Ret} {h : Heap} (hp : arena_Arena_Lit.pt t0 t1 t2 K h) : CallH Try.prog 17 #[t0, t1, t2] K h :=
  fn_sound (qs := [10, 13, 14, 15, 16, 17, 21, 25, 27, 28, 30]) (fn := Try.f17) (ann := arena_Arena_Lit.ann) (args := [t0, t1, t2]) follows_mixed Try.func17 ((Eq.to_iff (congrFun (congrFun (congrFun (congrFun (congrFun (arena_Arena_Lit.eq) t0) t1) t2) K) h)).mp hp)

/-! ### bradawl/bradawllaw05.light: function 18 -/
abbrev bradawllaw05_light.id : FuncId := 18
def bradawllaw05_light.ann : Ann := (.seq none .leaf (.seq none .leaf (.seq none (.seq none .leaf (.block (.loop [3, 6, 7, 8] (.seq none .leaf (.seq none (.cond .leaf .leaf) (.seq none (.block (.seq none .leaf (.seq none .leaf (.seq none .leaf (.cond (.seq none .leaf .leaf) .leaf))))) .leaf)))))) (.seq none .leaf .leaf))))
set_option maxRecDepth 100000 in
def bradawllaw05_light.pt (t0 : Value) (K : Ret) (h : Heap) : Prop :=
 go (Len t0) h fun t7 h =>
 Lp 4 (fun X1 t3 t6 t7_1 t8 h =>
 go (Bin .int .lss t8 t7_1) h fun t9 h =>
 If t9 (
 go (Idx 5 t6 t8) h fun t10 h =>
 go (LdA 5 t10) h fun t11 h =>
 go (New #[(.int .u8 0), (.int .i64 0), (.int .i64 0), (.slice none 0 0), (.int .u8 0)] 43) h fun t5 h =>
 go (StA 5 t5 t11) h fun _ h =>
 go (Fld 3 t5) h fun t13 h =>
 go (Ld t13) h fun t14 h =>
 go (Len t14) h fun t15 h =>
 go (Bin .int .add (.int .i64 1) t15) h fun t16 h =>
 go (Bin .int .add t3 t16) h fun t17 h =>
 go (Bin .int .gtr t17 (.int .i64 500)) h fun t19 h =>
 If t19 (
 K (.bool false) h) (
 go (Bin .int .add t8 (.int .i64 1)) h fun t20 h =>
 X1 t17 t6 t7_1 t20 h)) (
 K (.bool true) h)) [(.int .i64 0), t0, t7, (.int .i64 0)] h
set_option maxRecDepth 100000 in
theorem bradawllaw05_light.eq : (fun t0 K h => bradawllaw05_light.pt t0 K h : Value → Ret → Heap → Prop) = (fun t0 K h => fnPt Try.prog [10, 13, 14, 15, 16, 17, 21, 25, 27, 28, 30] Try.f18 bradawllaw05_light.ann [t0] K h) := by kernel_rfl
set_option maxRecDepth 100000 in
theorem bradawllaw05_light.ok {t0 : Value} {K : Ret} {h : Heap} (hp : bradawllaw05_light.pt t0 K h) : CallH Try.prog 18 #[t0] K h :=
  fn_sound (qs := [10, 13, 14, 15, 16, 17, 21, 25, 27, 28, 30]) (fn := Try.f18) (ann := bradawllaw05_light.ann) (args := [t0]) follows_mixed Try.func18 ((Eq.to_iff (congrFun (congrFun (congrFun (bradawllaw05_light.eq) t0) K) h)).mp hp)

/-! ### bradawl/bradawllaw05.do: function 19 -/
abbrev bradawllaw05_do.id : FuncId := 19
def bradawllaw05_do.ann : Ann := (.seq none .leaf (.seq none (.seq none .leaf (.cond (.seq none .leaf .leaf) .leaf)) (.seq none .leaf (.seq none .leaf (.seq (some []) (.seq none .leaf (.block (.seq none .leaf (.cond (.seq none .leaf (.seq none (.seq none .leaf (.cond (.seq none .leaf .leaf) .leaf)) (.seq none .leaf (.cond .leaf .leaf)))) (.seq none .leaf (.cond (.seq none (.seq (some [5, 7, 95]) .leaf (.cond (.seq none .leaf .leaf) .leaf)) (.seq none .leaf (.cond .leaf .leaf))) (.seq none .leaf (.cond (.seq none (.seq (some [5, 7, 121]) .leaf (.cond (.seq none .leaf .leaf) .leaf)) (.seq none .leaf (.cond .leaf .leaf))) (.seq none .leaf (.cond (.seq none (.seq (some [7, 145]) .leaf (.cond (.seq none .leaf .leaf) .leaf)) .leaf) .leaf)))))))))) (.seq none .leaf .leaf))))))
set_option maxRecDepth 100000 in
def bradawllaw05_do.pt (t0 t1 t2 : Value) (K : Ret) (h : Heap) : Prop :=
 go (New (Value.cells t2) 43) h fun t5 h =>
 go (Len t1) h fun t11 h =>
 go (Bin .int .eql t11 (.int .i64 0)) h fun t12 h =>
 If t12 (
 K (.bool true) h) (
 go (Fld 4 t5) h fun t14 h =>
 go (Ld t14) h fun t15 h =>
 go (Cvt .i64 t15) h fun t16 h =>
 go (Len t1) h fun t18 h =>
 go (Bin .int .rem t16 t18) h fun t19 h =>
 go (Idx 1 t1 t19) h fun t20 h =>
 go (Ld t20) h fun t21 h =>
 go (New #[(.pointer none)] 44) h fun t7 h =>
 go (St t7 t21) h fun _ h =>
 Join 0 (fun J1 =>
 go (Fld 0 t5) h fun t23 h =>
 go (Ld t23) h fun t24 h =>
 go (Bin .int .and t24 (.int .u8 7)) h fun t25 h =>
 go (Bin .int .eql t25 (.int .u8 2)) h fun t27 h =>
 If t27 (
 go (Fld 1 t5) h fun t29 h =>
 go (Ld t29) h fun t30 h =>
 go (CallV Try.prog (.func (.func 29) #[] #[t7]) [t30]) h fun t31 h =>
 go (Gd t31 true (Mv (.func (.func 29) #[] #[t7]))) h fun t33 h =>
 go (Gd t31 true (Fld 2 t5)) h fun t34 h =>
 go (Gd t31 true (Ld t34)) h fun t35 h =>
 go (Gd t31 true (CallV Try.prog t33 [t35])) h fun t36 h =>
 go (Pick t31 t36 (.bool false)) h fun t37 h =>
 go (Ld t7) h fun t39 h =>
 go (NilC t39) h fun t40 h =>
 go (Fld 0 t40) h fun t41 h =>
 go (Ld t41) h fun t42 h =>
 go (Fld 1 t5) h fun t43 h =>
 go (Ld t43) h fun t44 h =>
 go (Fld 2 t5) h fun t45 h =>
 go (Ld t45) h fun t46 h =>
 go (CallF Try.prog 23 [t0, t42, t44, t46]) h fun t47 h =>
 go (Bin .bool .neq t47 t37) h fun t49 h =>
 If t49 (
 K (.bool false) h) (
 If t37 (
 go (Ld t7) h fun t51 h =>
 go (NilC t51) h fun t52 h =>
 go (Fld 3 t52) h fun t53 h =>
 go (Ld t53) h fun t54 h =>
 go (Fld 1 t5) h fun t55 h =>
 go (Ld t55) h fun t56 h =>
 go (Ld t7) h fun t57 h =>
 go (NilC t57) h fun t58 h =>
 go (Fld 3 t58) h fun t59 h =>
 go (Ld t59) h fun t60 h =>
 go (Fld 2 t5) h fun t61 h =>
 go (Ld t7) h fun t63 h =>
 go (NilC t63) h fun t64 h =>
 go (Fld 3 t64) h fun t65 h =>
 go (Ld t65) h fun t66 h =>
 go (Fld 2 t5) h fun t67 h =>
 go (Ld t67) h fun t68 h =>
 go (Idx 1 t66 t68) h fun t69 h =>
 go (Ld t69) h fun t70 h =>
 go (Ld t7) h fun t71 h =>
 go (NilC t71) h fun t72 h =>
 go (Fld 3 t72) h fun t73 h =>
 go (Ld t73) h fun t74 h =>
 go (Fld 1 t5) h fun t75 h =>
 go (Ld t75) h fun t76 h =>
 go (Idx 1 t74 t76) h fun t77 h =>
 go (Ld t77) h fun t78 h =>
 go (Idx 1 t54 t56) h fun t79 h =>
 (go (Ld t61) h fun t62 h =>
 go (St t79 t70) h fun _ h =>
 go (Idx 1 t60 t62) h fun t80 h =>
 go (St t80 t78) h fun _ h =>
 J1 h) ∧
 (go (St t79 t70) h fun _ h =>
 go (Ld t61) h fun t62_1 h =>
 go (Idx 1 t60 t62_1) h fun t80_1 h =>
 go (St t80_1 t78) h fun _ h =>
 J1 h)) (
 J1 h))) (
 go (Bin .int .eql t25 (.int .u8 3)) h fun t82 h =>
 If t82 (
 Join 3 (fun J2 =>
 go (Ld t7) h fun t84 h =>
 go (NilC t84) h fun t85 h =>
 go (Fld 0 t85) h fun t86 h =>
 go (Ld t86) h fun t87 h =>
 go (Fld 1 t5) h fun t88 h =>
 go (Ld t88) h fun t89 h =>
 (go (CallF Try.prog 24 [t0, t87, t89]) h fun t90 h =>
 go (Ld t7) h fun t91 h =>
 go (NilC t91) h fun t92 h =>
 go (Fld 5 t92) h fun t93 h =>
 go (Ld t93) h fun t94 h =>
 go (Bin .bool .eql t90 t94) h fun t95 h =>
 J2 t5 t7 t95 h) ∧
 (go (Ld t7) h fun t91_1 h =>
 go (NilC t91_1) h fun t92_1 h =>
 go (Fld 5 t92_1) h fun t93_1 h =>
 (go (CallF Try.prog 24 [t0, t87, t89]) h fun t90_1 h =>
 go (Ld t93_1) h fun t94_1 h =>
 go (Bin .bool .eql t90_1 t94_1) h fun t95_1 h =>
 J2 t5 t7 t95_1 h) ∧
 (go (Ld t93_1) h fun t94_2 h =>
 go (CallF Try.prog 24 [t0, t87, t89]) h fun t90_2 h =>
 go (Bin .bool .eql t90_2 t94_2) h fun t95_2 h =>
 J2 t5 t7 t95_2 h))) (fun t5_1 t7_1 t95_3 h =>
 If t95_3 (
 K (.bool false) h) (
 go (Ld t7_1) h fun t96 h =>
 go (NilC t96) h fun t97 h =>
 go (Fld 5 t97) h fun t98 h =>
 go (Ld t98) h fun t99 h =>
 go (Un .not t99) h fun t100 h =>
 If t100 (
 go (Ld t7_1) h fun t101 h =>
 go (Fld 1 t5_1) h fun t102 h =>
 go (Ld t102) h fun t103 h =>
 go (QCall Try.prog 30 [t103]) h fun t104 h =>
 go (NilC t101) h fun t105 h =>
 go (Fld 1 t105) h fun t106 h =>
 go (St t106 t104) h fun _ h =>
 J1 h) (
 J1 h)))) (
 go (Bin .int .eql t25 (.int .u8 4)) h fun t108 h =>
 If t108 (
 Join 3 (fun J3 =>
 go (Ld t7) h fun t110 h =>
 go (NilC t110) h fun t111 h =>
 go (Fld 0 t111) h fun t112 h =>
 go (Ld t112) h fun t113 h =>
 go (Fld 1 t5) h fun t114 h =>
 go (Ld t114) h fun t115 h =>
 (go (CallF Try.prog 26 [t0, t113, t115]) h fun t116 h =>
 go (Ld t7) h fun t117 h =>
 go (NilC t117) h fun t118 h =>
 go (Fld 5 t118) h fun t119 h =>
 go (Ld t119) h fun t120 h =>
 go (Bin .bool .eql t116 t120) h fun t121 h =>
 J3 t5 t7 t121 h) ∧
 (go (Ld t7) h fun t117_1 h =>
 go (NilC t117_1) h fun t118_1 h =>
 go (Fld 5 t118_1) h fun t119_1 h =>
 (go (CallF Try.prog 26 [t0, t113, t115]) h fun t116_1 h =>
 go (Ld t119_1) h fun t120_1 h =>
 go (Bin .bool .eql t116_1 t120_1) h fun t121_1 h =>
 J3 t5 t7 t121_1 h) ∧
 (go (Ld t119_1) h fun t120_2 h =>
 go (CallF Try.prog 26 [t0, t113, t115]) h fun t116_2 h =>
 go (Bin .bool .eql t116_2 t120_2) h fun t121_2 h =>
 J3 t5 t7 t121_2 h))) (fun t5_2 t7_2 t121_3 h =>
 If t121_3 (
 K (.bool false) h) (
 go (Ld t7_2) h fun t122 h =>
 go (NilC t122) h fun t123 h =>
 go (Fld 5 t123) h fun t124 h =>
 go (Ld t124) h fun t125 h =>
 go (Un .not t125) h fun t126 h =>
 If t126 (
 go (Ld t7_2) h fun t127 h =>
 go (Fld 1 t5_2) h fun t128 h =>
 go (Ld t128) h fun t129 h =>
 go (QCall Try.prog 30 [t129]) h fun t130 h =>
 go (NilC t127) h fun t131 h =>
 go (Fld 2 t131) h fun t132 h =>
 go (St t132 t130) h fun _ h =>
 J1 h) (
 J1 h)))) (
 go (Bin .int .eql t25 (.int .u8 5)) h fun t134 h =>
 If t134 (
 Join 2 (fun J4 =>
 go (Ld t7) h fun t136 h =>
 go (NilC t136) h fun t137 h =>
 go (Fld 0 t137) h fun t138 h =>
 go (Ld t138) h fun t139 h =>
 (go (CallF Try.prog 11 [t0, t139]) h fun t140 h =>
 go (Ld t7) h fun t141 h =>
 go (NilC t141) h fun t142 h =>
 go (Fld 5 t142) h fun t143 h =>
 go (Ld t143) h fun t144 h =>
 go (Bin .bool .eql t140 t144) h fun t145 h =>
 J4 t7 t145 h) ∧
 (go (Ld t7) h fun t141_1 h =>
 go (NilC t141_1) h fun t142_1 h =>
 go (Fld 5 t142_1) h fun t143_1 h =>
 (go (CallF Try.prog 11 [t0, t139]) h fun t140_1 h =>
 go (Ld t143_1) h fun t144_1 h =>
 go (Bin .bool .eql t140_1 t144_1) h fun t145_1 h =>
 J4 t7 t145_1 h) ∧
 (go (Ld t143_1) h fun t144_2 h =>
 go (CallF Try.prog 11 [t0, t139]) h fun t140_2 h =>
 go (Bin .bool .eql t140_2 t144_2) h fun t145_2 h =>
 J4 t7 t145_2 h))) (fun t7_3 t145_3 h =>
 If t145_3 (
 K (.bool false) h) (
 go (Ld t7_3) h fun t146 h =>
 go (NilC t146) h fun t147 h =>
 go (Fld 5 t147) h fun t148 h =>
 go (St t148 (.bool true)) h fun _ h =>
 J1 h))) (
 J1 h))))) (fun  h =>
 K (.bool true) h))
set_option maxRecDepth 100000 in
theorem bradawllaw05_do.eq : (fun t0 t1 t2 K h => bradawllaw05_do.pt t0 t1 t2 K h : Value → Value → Value → Ret → Heap → Prop) = (fun t0 t1 t2 K h => fnPt Try.prog [10, 13, 14, 15, 16, 17, 21, 25, 27, 28, 30] Try.f19 bradawllaw05_do.ann [t0, t1, t2] K h) := by kernel_rfl
set_option maxRecDepth 100000 in
theorem bradawllaw05_do.ok {t0 t1 t2 : Value} {K : Ret} {h : Heap} (hp : bradawllaw05_do.pt t0 t1 t2 K h) : CallH Try.prog 19 #[t0, t1, t2] K h :=
  fn_sound (qs := [10, 13, 14, 15, 16, 17, 21, 25, 27, 28, 30]) (fn := Try.f19) (ann := bradawllaw05_do.ann) (args := [t0, t1, t2]) follows_mixed Try.func19 ((Eq.to_iff (congrFun (congrFun (congrFun (congrFun (congrFun (bradawllaw05_do.eq) t0) t1) t2) K) h)).mp hp)

/-! ### (*bradawl/arena.Arena).All: function 20 -/
abbrev arena_Arena_All.id : FuncId := 20
def arena_Arena_All.ann : Ann := (.seq none .leaf (.seq none .leaf .leaf))
set_option maxRecDepth 100000 in
def arena_Arena_All.pt (t0 : Value) (K : Ret) (h : Heap) : Prop :=
 go (New (Value.cells t0) 24) h fun t1 h =>
 K (.func (.func 31) #[] #[t1]) h
set_option maxRecDepth 100000 in
theorem arena_Arena_All.eq : (fun t0 K h => arena_Arena_All.pt t0 K h : Value → Ret → Heap → Prop) = (fun t0 K h => fnPt Try.prog [10, 13, 14, 15, 16, 17, 21, 25, 27, 28, 30] Try.f20 arena_Arena_All.ann [t0] K h) := by kernel_rfl
set_option maxRecDepth 100000 in
theorem arena_Arena_All.ok {t0 : Value} {K : Ret} {h : Heap} (hp : arena_Arena_All.pt t0 K h) : CallH Try.prog 20 #[t0] K h :=
  fn_sound (qs := [10, 13, 14, 15, 16, 17, 21, 25, 27, 28, 30]) (fn := Try.f20) (ann := arena_Arena_All.ann) (args := [t0]) follows_mixed Try.func20 ((Eq.to_iff (congrFun (congrFun (congrFun (arena_Arena_All.eq) t0) K) h)).mp hp)

/-! ### (*bradawl/arena.Arena).Has: function 21 -/
abbrev arena_Arena_Has.id : FuncId := 21
def arena_Arena_Has.ann : Ann := (.seq none .leaf (.seq none .leaf .leaf))
set_option maxRecDepth 100000 in
def arena_Arena_Has.pt (t0 t1 : Value) (K : Ret) (h : Heap) : Prop :=
 go (NilC t0) h fun t6 h =>
 go (Fld 3 t6) h fun t7 h =>
 go (Ld t7) h fun t8 h =>
 go (Lk (.bool false) t8 t1 false) h fun t10 h =>
 K t10 h
set_option maxRecDepth 100000 in
theorem arena_Arena_Has.eq : (fun t0 t1 K h => arena_Arena_Has.pt t0 t1 K h : Value → Value → Ret → Heap → Prop) = (fun t0 t1 K h => fnPt Try.prog [10, 13, 14, 15, 16, 17, 21, 25, 27, 28, 30] Try.f21 arena_Arena_Has.ann [t0, t1] K h) := by kernel_rfl
set_option maxRecDepth 100000 in
theorem arena_Arena_Has.ok {t0 t1 : Value} {K : Ret} {h : Heap} (hp : arena_Arena_Has.pt t0 t1 K h) : CallH Try.prog 21 #[t0, t1] K h :=
  fn_sound (qs := [10, 13, 14, 15, 16, 17, 21, 25, 27, 28, 30]) (fn := Try.f21) (ann := arena_Arena_Has.ann) (args := [t0, t1]) follows_mixed Try.func21 ((Eq.to_iff (congrFun (congrFun (congrFun (congrFun (arena_Arena_Has.eq) t0) t1) K) h)).mp hp)

/-! ### (*bradawl/arena.Arena).Lits: function 22 -/
abbrev arena_Arena_Lits.id : FuncId := 22
def arena_Arena_Lits.ann : Ann := (.seq none .leaf (.seq none .leaf (.seq none (.seq none .leaf (.cond (.seq none .leaf .leaf) .leaf)) (.seq none .leaf (.seq none .leaf .leaf)))))
set_option maxRecDepth 100000 in
def arena_Arena_Lits.pt (t0 t1 : Value) (K : Ret) (h : Heap) : Prop :=
 go (QCall Try.prog 15 [t0, t1]) h fun t9 h =>
 go (Bin .int .eql t9 (.int .i64 0)) h fun t11 h =>
 If t11 (
 K (.slice none 0 0) h) (
 go (Bin .int .add t1 (.int .i64 3)) h fun t13 h =>
 go (NilC t0) h fun t15 h =>
 go (Fld 0 t15) h fun t16 h =>
 go (Ld t16) h fun t17 h =>
 go (Bin .int .add t13 t9) h fun t21 h =>
 go (Bin .int .add t13 t9) h fun t24 h =>
 go (Slc 1 t17 (some t13) (some t21) (some t24)) h fun t25 h =>
 go (App 3 1 8 #[(.int .i64 0)] (.slice none 0 0) t25) h fun t26 h =>
 K t26 h)
set_option maxRecDepth 100000 in
theorem arena_Arena_Lits.eq : (fun t0 t1 K h => arena_Arena_Lits.pt t0 t1 K h : Value → Value → Ret → Heap → Prop) = (fun t0 t1 K h => fnPt Try.prog [10, 13, 14, 15, 16, 17, 21, 25, 27, 28, 30] Try.f22 arena_Arena_Lits.ann [t0, t1] K h) := by kernel_rfl
set_option maxRecDepth 100000 in
theorem arena_Arena_Lits.ok {t0 t1 : Value} {K : Ret} {h : Heap} (hp : arena_Arena_Lits.pt t0 t1 K h) : CallH Try.prog 22 #[t0, t1] K h :=
  fn_sound (qs := [10, 13, 14, 15, 16, 17, 21, 25, 27, 28, 30]) (fn := Try.f22) (ann := arena_Arena_Lits.ann) (args := [t0, t1]) follows_mixed Try.func22 ((Eq.to_iff (congrFun (congrFun (congrFun (congrFun (arena_Arena_Lits.eq) t0) t1) K) h)).mp hp)

/-! ### (*bradawl/arena.Arena).Swap: function 23 -/
abbrev arena_Arena_Swap.id : FuncId := 23
def arena_Arena_Swap.ann : Ann := (.seq none .leaf (.seq none (.seq none .leaf (.cond (.seq none .leaf .leaf) .leaf)) (.seq none .leaf (.seq none .leaf (.seq none .leaf .leaf)))))
set_option maxRecDepth 100000 in
def arena_Arena_Swap.pt (t0 t1 t2 t3 : Value) (K : Ret) (h : Heap) : Prop :=
 go (QCall Try.prog 17 [t0, t1, t2]) h fun t13 h =>
 go (Bin .int .eql t13 (.int .i64 0)) h fun t14 h =>
 go (Gd t14 false (Mv t0)) h fun t16 h =>
 go (Gd t14 false (Mv t1)) h fun t17 h =>
 go (Gd t14 false (Mv t3)) h fun t18 h =>
 go (Gd t14 false (QCall Try.prog 17 [t16, t17, t18])) h fun t19 h =>
 go (Gd t14 false (Bin .int .eql t19 (.int .i64 0))) h fun t20 h =>
 go (Pick t14 (.bool true) t20) h fun t21 h =>
 If t21 (
 K (.bool false) h) (
 go (NilC t0) h fun t23 h =>
 go (Fld 0 t23) h fun t24 h =>
 go (Ld t24) h fun t25 h =>
 go (Bin .int .add t1 (.int .i64 3)) h fun t27 h =>
 go (Slc 1 t25 (some t27) none none) h fun t28 h =>
 go (Idx 1 t28 t3) h fun t35 h =>
 go (Ld t35) h fun t36 h =>
 go (Idx 1 t28 t2) h fun t39 h =>
 go (Ld t39) h fun t40 h =>
 go (Idx 1 t28 t2) h fun t41 h =>
 go (St t41 t36) h fun _ h =>
 go (Idx 1 t28 t3) h fun t42 h =>
 go (St t42 t40) h fun _ h =>
 K (.bool true) h)
set_option maxRecDepth 100000 in
theorem arena_Arena_Swap.eq : (fun t0 t1 t2 t3 K h => arena_Arena_Swap.pt t0 t1 t2 t3 K h : Value → Value → Value → Value → Ret → Heap → Prop) = (fun t0 t1 t2 t3 K h => fnPt Try.prog [10, 13, 14, 15, 16, 17, 21, 25, 27, 28, 30] Try.f23 arena_Arena_Swap.ann [t0, t1, t2, t3] K h) := by kernel_rfl
set_option maxRecDepth 100000 in
theorem arena_Arena_Swap.ok {t0 t1 t2 t3 : Value} {K : Ret} {h : Heap} (hp : arena_Arena_Swap.pt t0 t1 t2 t3 K h) : CallH Try.prog 23 #[t0, t1, t2, t3] K h :=
  fn_sound (qs := [10, 13, 14, 15, 16, 17, 21, 25, 27, 28, 30]) (fn := Try.f23) (ann := arena_Arena_Swap.ann) (args := [t0, t1, t2, t3]) follows_mixed Try.func23 ((Eq.to_iff (congrFun (congrFun (congrFun (congrFun (congrFun (congrFun (arena_Arena_Swap.eq) t0) t1) t2) t3) K) h)).mp hp)

/-! ### (*bradawl/arena.Arena).SetGlue: function 24 -/
abbrev arena_Arena_SetGlue.id : FuncId := 24
def arena_Arena_SetGlue.ann : Ann := (.seq none .leaf (.seq none .leaf .leaf))
set_option maxRecDepth 100000 in
def arena_Arena_SetGlue.pt (t0 t1 t2 : Value) (K : Ret) (h : Heap) : Prop :=
 go (CallF Try.prog 32 [t0, t1, (.int .i64 1), t2]) h fun t10 h =>
 K t10 h
set_option maxRecDepth 100000 in
theorem arena_Arena_SetGlue.eq : (fun t0 t1 t2 K h => arena_Arena_SetGlue.pt t0 t1 t2 K h : Value → Value → Value → Ret → Heap → Prop) = (fun t0 t1 t2 K h => fnPt Try.prog [10, 13, 14, 15, 16, 17, 21, 25, 27, 28, 30] Try.f24 arena_Arena_SetGlue.ann [t0, t1, t2] K h) := by kernel_rfl
set_option maxRecDepth 100000 in
theorem arena_Arena_SetGlue.ok {t0 t1 t2 : Value} {K : Ret} {h : Heap} (hp : arena_Arena_SetGlue.pt t0 t1 t2 K h) : CallH Try.prog 24 #[t0, t1, t2] K h :=
  fn_sound (qs := [10, 13, 14, 15, 16, 17, 21, 25, 27, 28, 30]) (fn := Try.f24) (ann := arena_Arena_SetGlue.ann) (args := [t0, t1, t2]) follows_mixed Try.func24 ((Eq.to_iff (congrFun (congrFun (congrFun (congrFun (congrFun (arena_Arena_SetGlue.eq) t0) t1) t2) K) h)).mp hp)

/-! ### (*bradawl/arena.Arena).Uses: function 25 -/
abbrev arena_Arena_Uses.id : FuncId := 25
def arena_Arena_Uses.ann : Ann := (.seq none .leaf (.seq none .leaf .leaf))
set_option maxRecDepth 100000 in
def arena_Arena_Uses.pt (t0 t1 : Value) (K : Ret) (h : Heap) : Prop :=
 go (QCall Try.prog 28 [t0, t1, (.int .i64 2)]) h fun t7 h =>
 K t7 h
set_option maxRecDepth 100000 in
theorem arena_Arena_Uses.eq : (fun t0 t1 K h => arena_Arena_Uses.pt t0 t1 K h : Value → Value → Ret → Heap → Prop) = (fun t0 t1 K h => fnPt Try.prog [10, 13, 14, 15, 16, 17, 21, 25, 27, 28, 30] Try.f25 arena_Arena_Uses.ann [t0, t1] K h) := by kernel_rfl
set_option maxRecDepth 100000 in
theorem arena_Arena_Uses.ok {t0 t1 : Value} {K : Ret} {h : Heap} (hp : arena_Arena_Uses.pt t0 t1 K h) : CallH Try.prog 25 #[t0, t1] K h :=
  fn_sound (qs := [10, 13, 14, 15, 16, 17, 21, 25, 27, 28, 30]) (fn := Try.f25) (ann := arena_Arena_Uses.ann) (args := [t0, t1]) follows_mixed Try.func25 ((Eq.to_iff (congrFun (congrFun (congrFun (congrFun (arena_Arena_Uses.eq) t0) t1) K) h)).mp hp)

/-! ### (*bradawl/arena.Arena).SetUses: function 26 -/
abbrev arena_Arena_SetUses.id : FuncId := 26
def arena_Arena_SetUses.ann : Ann := (.seq none .leaf (.seq none .leaf .leaf))
set_option maxRecDepth 100000 in
def arena_Arena_SetUses.pt (t0 t1 t2 : Value) (K : Ret) (h : Heap) : Prop :=
 go (CallF Try.prog 32 [t0, t1, (.int .i64 2), t2]) h fun t10 h =>
 K t10 h
set_option maxRecDepth 100000 in
theorem arena_Arena_SetUses.eq : (fun t0 t1 t2 K h => arena_Arena_SetUses.pt t0 t1 t2 K h : Value → Value → Value → Ret → Heap → Prop) = (fun t0 t1 t2 K h => fnPt Try.prog [10, 13, 14, 15, 16, 17, 21, 25, 27, 28, 30] Try.f26 arena_Arena_SetUses.ann [t0, t1, t2] K h) := by kernel_rfl
set_option maxRecDepth 100000 in
theorem arena_Arena_SetUses.ok {t0 t1 t2 : Value} {K : Ret} {h : Heap} (hp : arena_Arena_SetUses.pt t0 t1 t2 K h) : CallH Try.prog 26 #[t0, t1, t2] K h :=
  fn_sound (qs := [10, 13, 14, 15, 16, 17, 21, 25, 27, 28, 30]) (fn := Try.f26) (ann := arena_Arena_SetUses.ann) (args := [t0, t1, t2]) follows_mixed Try.func26 ((Eq.to_iff (congrFun (congrFun (congrFun (congrFun (congrFun (arena_Arena_SetUses.eq) t0) t1) t2) K) h)).mp hp)

/-! ### bradawl/arena.fit: function 27 -/
abbrev arena_fit.id : FuncId := 27
def arena_fit.ann : Ann := (.seq none .leaf (.seq none .leaf .leaf))
set_option maxRecDepth 100000 in
def arena_fit.pt (t0 : Value) (K : Ret) (h : Heap) : Prop :=
 go (MaxV [t0, (.int .i64 0)]) h fun t4 h =>
 go (MinV [t4, (.int .i64 2147483647)]) h fun t5 h =>
 K t5 h
set_option maxRecDepth 100000 in
theorem arena_fit.eq : (fun t0 K h => arena_fit.pt t0 K h : Value → Ret → Heap → Prop) = (fun t0 K h => fnPt Try.prog [10, 13, 14, 15, 16, 17, 21, 25, 27, 28, 30] Try.f27 arena_fit.ann [t0] K h) := by kernel_rfl
set_option maxRecDepth 100000 in
theorem arena_fit.ok {t0 : Value} {K : Ret} {h : Heap} (hp : arena_fit.pt t0 K h) : CallH Try.prog 27 #[t0] K h :=
  fn_sound (qs := [10, 13, 14, 15, 16, 17, 21, 25, 27, 28, 30]) (fn := Try.f27) (ann := arena_fit.ann) (args := [t0]) follows_mixed Try.func27 ((Eq.to_iff (congrFun (congrFun (congrFun (arena_fit.eq) t0) K) h)).mp hp)

/-! ### (*bradawl/arena.Arena).get: function 28 -/
abbrev arena_Arena_get.id : FuncId := 28
def arena_Arena_get.ann : Ann := (.seq none .leaf (.seq none (.seq none .leaf (.cond (.seq none .leaf .leaf) .leaf)) (.seq none .leaf .leaf)))
set_option maxRecDepth 100000 in
def arena_Arena_get.pt (t0 t1 t2 : Value) (K : Ret) (h : Heap) : Prop :=
 go (QCall Try.prog 21 [t0, t1]) h fun t9 h =>
 go (Un .not t9) h fun t10 h =>
 If t10 (
 K (.int .i64 0) h) (
 go (NilC t0) h fun t12 h =>
 go (Fld 0 t12) h fun t13 h =>
 go (Ld t13) h fun t14 h =>
 go (Bin .int .add t1 t2) h fun t17 h =>
 go (Idx 1 t14 t17) h fun t18 h =>
 go (Ld t18) h fun t19 h =>
 K t19 h)
set_option maxRecDepth 100000 in
theorem arena_Arena_get.eq : (fun t0 t1 t2 K h => arena_Arena_get.pt t0 t1 t2 K h : Value → Value → Value → Ret → Heap → Prop) = (fun t0 t1 t2 K h => fnPt Try.prog [10, 13, 14, 15, 16, 17, 21, 25, 27, 28, 30] Try.f28 arena_Arena_get.ann [t0, t1, t2] K h) := by kernel_rfl
set_option maxRecDepth 100000 in
theorem arena_Arena_get.ok {t0 t1 t2 : Value} {K : Ret} {h : Heap} (hp : arena_Arena_get.pt t0 t1 t2 K h) : CallH Try.prog 28 #[t0, t1, t2] K h :=
  fn_sound (qs := [10, 13, 14, 15, 16, 17, 21, 25, 27, 28, 30]) (fn := Try.f28) (ann := arena_Arena_get.ann) (args := [t0, t1, t2]) follows_mixed Try.func28 ((Eq.to_iff (congrFun (congrFun (congrFun (congrFun (congrFun (arena_Arena_get.eq) t0) t1) t2) K) h)).mp hp)

/-! ### bradawl/bradawllaw05.do$1: function 29 -/
abbrev bradawllaw05_do_1.id : FuncId := 29
def bradawllaw05_do_1.ann : Ann := (.seq none .leaf (.seq none .leaf .leaf))
set_option maxRecDepth 100000 in
def bradawllaw05_do_1.pt (t0 t1 : Value) (K : Ret) (h : Heap) : Prop :=
 go (Ld t1) h fun t4 h =>
 go (NilC t4) h fun t5 h =>
 go (Fld 5 t5) h fun t6 h =>
 go (Ld t6) h fun t7 h =>
 go (Un .not t7) h fun t8 h =>
 go (Gd t8 true (Mv t0)) h fun t10 h =>
 go (Gd t8 true (Bin .int .geq t10 (.int .i64 0))) h fun t11 h =>
 go (Pick t8 t11 (.bool false)) h fun t12 h =>
 go (Gd t12 true (Mv t0)) h fun t14 h =>
 go (Gd t12 true (Ld t1)) h fun t15 h =>
 go (Gd t12 true (NilC t15)) h fun t16 h =>
 go (Gd t12 true (Fld 3 t16)) h fun t17 h =>
 go (Gd t12 true (Ld t17)) h fun t18 h =>
 go (Gd t12 true (Len t18)) h fun t19 h =>
 go (Gd t12 true (Bin .int .lss t14 t19)) h fun t20 h =>
 go (Pick t12 t20 (.bool false)) h fun t21 h =>
 K t21 h
set_option maxRecDepth 100000 in
theorem bradawllaw05_do_1.eq : (fun t0 t1 K h => bradawllaw05_do_1.pt t0 t1 K h : Value → Value → Ret → Heap → Prop) = (fun t0 t1 K h => fnPt Try.prog [10, 13, 14, 15, 16, 17, 21, 25, 27, 28, 30] Try.f29 bradawllaw05_do_1.ann [t0, t1] K h) := by kernel_rfl
set_option maxRecDepth 100000 in
theorem bradawllaw05_do_1.ok {t0 t1 : Value} {K : Ret} {h : Heap} (hp : bradawllaw05_do_1.pt t0 t1 K h) : CallH Try.prog 29 #[t0, t1] K h :=
  fn_sound (qs := [10, 13, 14, 15, 16, 17, 21, 25, 27, 28, 30]) (fn := Try.f29) (ann := bradawllaw05_do_1.ann) (args := [t0, t1]) follows_mixed Try.func29 ((Eq.to_iff (congrFun (congrFun (congrFun (congrFun (bradawllaw05_do_1.eq) t0) t1) K) h)).mp hp)

/-! ### bradawl/bradawllaw05.least: function 30 -/
abbrev bradawllaw05_least.id : FuncId := 30
def bradawllaw05_least.ann : Ann := (.seq none .leaf (.seq none .leaf .leaf))
set_option maxRecDepth 100000 in
def bradawllaw05_least.pt (t0 : Value) (K : Ret) (h : Heap) : Prop :=
 go (MaxV [t0, (.int .i64 0)]) h fun t4 h =>
 go (MinV [t4, (.int .i64 2147483647)]) h fun t5 h =>
 K t5 h
set_option maxRecDepth 100000 in
theorem bradawllaw05_least.eq : (fun t0 K h => bradawllaw05_least.pt t0 K h : Value → Ret → Heap → Prop) = (fun t0 K h => fnPt Try.prog [10, 13, 14, 15, 16, 17, 21, 25, 27, 28, 30] Try.f30 bradawllaw05_least.ann [t0] K h) := by kernel_rfl
set_option maxRecDepth 100000 in
theorem bradawllaw05_least.ok {t0 : Value} {K : Ret} {h : Heap} (hp : bradawllaw05_least.pt t0 K h) : CallH Try.prog 30 #[t0] K h :=
  fn_sound (qs := [10, 13, 14, 15, 16, 17, 21, 25, 27, 28, 30]) (fn := Try.f30) (ann := bradawllaw05_least.ann) (args := [t0]) follows_mixed Try.func30 ((Eq.to_iff (congrFun (congrFun (congrFun (bradawllaw05_least.eq) t0) K) h)).mp hp)

/-! ### (*bradawl/arena.Arena).All$1: function 31 -/
abbrev arena_Arena_All_1.id : FuncId := 31
def arena_Arena_All_1.ann : Ann := (.seq none .leaf (.block (.loop [0, 1, 3] (.seq none (.seq none .leaf (.cond .leaf .leaf)) (.seq none (.block (.seq none .leaf (.cond .leaf .leaf))) .leaf)))))
set_option maxRecDepth 100000 in
def arena_Arena_All_1.pt (t0 t1 : Value) (K : Ret) (h : Heap) : Prop :=
 Lp 3 (fun X1 t0_1 t1_1 t3 h =>
 go (Ld t1_1) h fun t5 h =>
 go (NilC t5) h fun t6 h =>
 go (Fld 0 t6) h fun t7 h =>
 go (Ld t7) h fun t8 h =>
 go (Len t8) h fun t9 h =>
 go (Bin .int .lss t3 t9) h fun t10 h =>
 If t10 (
 go (Ld t1_1) h fun t23 h =>
 go (NilC t23) h fun t24 h =>
 go (Fld 0 t24) h fun t25 h =>
 go (Ld t25) h fun t26 h =>
 go (Bin .int .add t3 (.int .i64 0)) h fun t28 h =>
 go (Idx 1 t26 t28) h fun t29 h =>
 go (Ld t29) h fun t30 h =>
 go (Bin .int .and t30 (.int .i64 2199023255552)) h fun t31 h =>
 go (Bin .int .eql t31 (.int .i64 0)) h fun t32 h =>
 go (Gd t32 true (Mv t0_1)) h fun t34 h =>
 go (Gd t32 true (Mv t3)) h fun t35 h =>
 go (Gd t32 true (CallV Try.prog t34 [t35])) h fun t36 h =>
 go (Gd t32 true (Un .not t36)) h fun t37 h =>
 go (Pick t32 t37 (.bool false)) h fun t38 h =>
 If t38 (
 K (.tuple #[]) h) (
 go (Ld t1_1) h fun t12 h =>
 go (NilC t12) h fun t13 h =>
 go (Fld 0 t13) h fun t14 h =>
 go (Ld t14) h fun t15 h =>
 go (Bin .int .add t3 (.int .i64 0)) h fun t17 h =>
 go (Idx 1 t15 t17) h fun t18 h =>
 go (Ld t18) h fun t19 h =>
 go (Bin .int .and t19 (.int .i64 1099511627775)) h fun t20 h =>
 go (Bin .int .add (.int .i64 3) t20) h fun t21 h =>
 go (Bin .int .add t3 t21) h fun t22 h =>
 X1 t0_1 t1_1 t22 h)) (
 K (.tuple #[]) h)) [t0, t1, (.int .i64 0)] h
set_option maxRecDepth 100000 in
theorem arena_Arena_All_1.eq : (fun t0 t1 K h => arena_Arena_All_1.pt t0 t1 K h : Value → Value → Ret → Heap → Prop) = (fun t0 t1 K h => fnPt Try.prog [10, 13, 14, 15, 16, 17, 21, 25, 27, 28, 30] Try.f31 arena_Arena_All_1.ann [t0, t1] K h) := by kernel_rfl
set_option maxRecDepth 100000 in
theorem arena_Arena_All_1.ok {t0 t1 : Value} {K : Ret} {h : Heap} (hp : arena_Arena_All_1.pt t0 t1 K h) : CallH Try.prog 31 #[t0, t1] K h :=
  fn_sound (qs := [10, 13, 14, 15, 16, 17, 21, 25, 27, 28, 30]) (fn := Try.f31) (ann := arena_Arena_All_1.ann) (args := [t0, t1]) follows_mixed Try.func31 ((Eq.to_iff (congrFun (congrFun (congrFun (congrFun (arena_Arena_All_1.eq) t0) t1) K) h)).mp hp)

/-! ### (*bradawl/arena.Arena).set: function 32 -/
abbrev arena_Arena_set.id : FuncId := 32
def arena_Arena_set.ann : Ann := (.seq none .leaf (.seq none (.seq none .leaf (.cond (.seq none .leaf .leaf) .leaf)) (.seq none .leaf (.seq none .leaf .leaf))))
set_option maxRecDepth 100000 in
def arena_Arena_set.pt (t0 t1 t2 t3 : Value) (K : Ret) (h : Heap) : Prop :=
 go (QCall Try.prog 21 [t0, t1]) h fun t11 h =>
 go (Un .not t11) h fun t12 h =>
 If t12 (
 K (.bool false) h) (
 go (NilC t0) h fun t14 h =>
 go (Fld 0 t14) h fun t15 h =>
 go (Ld t15) h fun t16 h =>
 go (Bin .int .add t1 t2) h fun t19 h =>
 go (QCall Try.prog 27 [t3]) h fun t21 h =>
 go (Idx 1 t16 t19) h fun t22 h =>
 go (St t22 t21) h fun _ h =>
 K (.bool true) h)
set_option maxRecDepth 100000 in
theorem arena_Arena_set.eq : (fun t0 t1 t2 t3 K h => arena_Arena_set.pt t0 t1 t2 t3 K h : Value → Value → Value → Value → Ret → Heap → Prop) = (fun t0 t1 t2 t3 K h => fnPt Try.prog [10, 13, 14, 15, 16, 17, 21, 25, 27, 28, 30] Try.f32 arena_Arena_set.ann [t0, t1, t2, t3] K h) := by kernel_rfl
set_option maxRecDepth 100000 in
theorem arena_Arena_set.ok {t0 t1 t2 t3 : Value} {K : Ret} {h : Heap} (hp : arena_Arena_set.pt t0 t1 t2 t3 K h) : CallH Try.prog 32 #[t0, t1, t2, t3] K h :=
  fn_sound (qs := [10, 13, 14, 15, 16, 17, 21, 25, 27, 28, 30]) (fn := Try.f32) (ann := arena_Arena_set.ann) (args := [t0, t1, t2, t3]) follows_mixed Try.func32 ((Eq.to_iff (congrFun (congrFun (congrFun (congrFun (congrFun (congrFun (arena_Arena_set.eq) t0) t1) t2) t3) K) h)).mp hp)

end Go.Proofs.Ythekbpaekopmfaa
