/- What each Go function asks, in the primitives of Pt; written by a program of mine (ptgen.py) out of the translation; Lean checks that it is so. -/
import Derived.Test.YthekbpaekopmfaaProg
import Derived.KernelRfl
import Derived.Test.YthekbpaekopmfaaPtO
namespace Go.Proofs.Ythekbpaekopmfaa
open Go.Pt
set_option linter.unusedVariables false
theorem follows_mixed : Try.prog.follows .mixedOrders = true := by kernel_rfl
/-! ### bradawl/bradawllaw05.ArenaCompacts: function 4 -/
abbrev bradawllaw05_ArenaCompacts.id : FuncId := 4
def bradawllaw05_ArenaCompacts.ann : Ann := (.seq none .leaf (.seq none (.seq none .leaf (.cond (.seq none .leaf .leaf) .leaf)) (.seq none (.seq none .leaf (.cond (.seq none .leaf .leaf) .leaf)) (.seq none .leaf (.seq none .leaf (.seq none (.seq none .leaf (.block (.loop [0, 1, 5, 6, 31, 32, 33] (.seq none .leaf (.seq none (.cond .leaf .leaf) (.seq none (.block (.seq none .leaf (.seq none .leaf (.seq none (.seq none .leaf (.block (.loop [0, 1, 5, 6, 7, 9, 31, 32, 33, 43, 44] (.seq none .leaf (.seq none (.cond .leaf .leaf) (.seq none (.block (.seq none .leaf .leaf)) .leaf)))))) (.seq none .leaf .leaf))))) .leaf)))))) (.seq none .leaf (.seq none (.seq none .leaf (.block (.loop [0, 1, 5, 6, 13, 14, 71, 72, 73] (.seq none .leaf (.seq none (.cond .leaf .leaf) (.seq (some [0, 1, 5, 6, 13, 14, 71, 72, 73]) (.block (.seq none .leaf (.seq none .leaf (.cond .leaf (.seq none .leaf .leaf))))) .leaf)))))) (.seq none .leaf (.seq none (.seq none .leaf (.cond (.seq none .leaf .leaf) .leaf)) (.seq none (.seq none .leaf (.block (.loop [0, 1, 5, 13, 14, 17, 116, 117, 118] (.seq none .leaf (.seq none (.cond .leaf .leaf) (.seq none (.block (.seq none .leaf (.seq none .leaf (.seq none (.seq none .leaf (.cond (.seq none .leaf .leaf) .leaf)) (.seq none .leaf (.cond (.seq none .leaf .leaf) .leaf)))))) .leaf)))))) (.seq none .leaf (.seq none .leaf (.seq none .leaf .leaf))))))))))))))
set_option maxRecDepth 100000 in
def bradawllaw05_ArenaCompacts.pt (t0 t1 : Value) (K : Ret) (h : Heap) : Prop :=
 go (CallF Try.prog 7 []) h fun t25 h =>
 go (Un .not t25) h fun t26 h =>
 If t26 (
 K (.bool false) h) (
 go (Len t0) h fun t28 h =>
 go (Bin .int .gtr t28 (.int .i64 60)) h fun t29 h =>
 If t29 (
 K (.bool true) h) (
 go (CallF Try.prog 8 [(.int .i64 0)]) h fun t30 h =>
 go (Len t0) h fun t32 h =>
 Lp 7 (fun X1 t0_1 t1_1 t5 t6 t31 t32_1 t33 h =>
 go (Bin .int .lss t33 t32_1) h fun t34 h =>
 If t34 (
 go (Idx 1 t31 t33) h fun t36 h =>
 go (Ld t36) h fun t37 h =>
 go (Bin .int .rem t37 (.int .u8 7)) h fun t39 h =>
 go (Cvt .i64 t39) h fun t40 h =>
 go (MkS 3 8 1 #[(.int .i64 0)] t40 t40) h fun t41 h =>
 go (Len t41) h fun t43 h =>
 Lp 11 (fun X2 t0_2 t1_2 t5_1 t6_1 t7 t9 t31_1 t32_2 t33_1 t43_1 t44 h =>
 go (Bin .int .lss t44 t43_1) h fun t45 h =>
 If t45 (
 go (Bin .int .mul (.int .i64 10) t7) h fun t50 h =>
 go (Bin .int .add t50 t44) h fun t52 h =>
 go (Bin .int .add t52 (.int .i64 1)) h fun t53 h =>
 go (Idx 1 t9 t44) h fun t54 h =>
 go (St t54 t53) h fun _ h =>
 go (Bin .int .add t44 (.int .i64 1)) h fun t55 h =>
 X2 t0_2 t1_2 t5_1 t6_1 t7 t9 t31_1 t32_2 t33_1 t43_1 t55 h) (
 go (Bin .int .rem t7 (.int .i64 2)) h fun t60 h =>
 go (Bin .int .eql t60 (.int .i64 0)) h fun t61 h =>
 go (CallF Try.prog 9 [t5_1, t9, t61, t7]) h fun t63 h =>
 go (Ext 0 t63) h fun t64 h =>
 go (Ext 1 t63) h fun t65 h =>
 go (BldS 3 1 1 #[(.int .i64 0)] [(0, t64)]) h fun t68 h =>
 go (App 3 1 8 #[(.int .i64 0)] t6_1 t68) h fun t69 h =>
 go (Bin .int .add t33_1 (.int .i64 1)) h fun t70 h =>
 X1 t0_2 t1_2 t5_1 t69 t31_1 t32_2 t70 h)) [t0_1, t1_1, t5, t6, t33, t41, t31, t32_1, t33, t43, (.int .i64 0)] h) (
 go (Len t6) h fun t72 h =>
 Lp 9 (fun X3 t0_3 t1_3 t5_2 t6_2 t13 t14 t71 t72_1 t73 h =>
 go (Bin .int .lss t73 t72_1) h fun t74 h =>
 If t74 (
 Join 9 (fun J4 =>
 go (Idx 1 t71 t73) h fun t76 h =>
 go (Ld t76) h fun t77 h =>
 go (Bin .int .shr t1_3 t73) h fun t80 h =>
 go (Bin .int .and t80 (.int .u64 1)) h fun t81 h =>
 go (Bin .int .eql t81 (.int .u64 1)) h fun t82 h =>
 If t82 (
 go (CallF Try.prog 11 [t5_2, t77]) h fun t85 h =>
 J4 t0_3 t1_3 t5_2 t6_2 t13 t14 t71 t72_1 t73 h) (
 go (Idx 1 t0_3 t73) h fun t89 h =>
 go (Ld t89) h fun t90 h =>
 go (Bin .int .rem t90 (.int .u8 7)) h fun t91 h =>
 go (Cvt .i64 t91) h fun t92 h =>
 go (Bin .int .add (.int .i64 3) t92) h fun t93 h =>
 go (Bin .int .add t13 t93) h fun t94 h =>
 go (Bin .int .add t14 (.int .i64 1)) h fun t96 h =>
 J4 t0_3 t1_3 t5_2 t6_2 t94 t96 t71 t72_1 t73 h)) (fun t0_4 t1_4 t5_3 t6_3 t13_1 t14_1 t71_1 t72_2 t73_1 h =>
 go (Bin .int .add t73_1 (.int .i64 1)) h fun t97 h =>
 X3 t0_4 t1_4 t5_3 t6_3 t13_1 t14_1 t71_1 t72_2 t97 h)) (
 go (CallF Try.prog 12 [t5_2]) h fun t99 h =>
 go (LenM t99) h fun t101 h =>
 go (Bin .int .neq t101 t14) h fun t103 h =>
 go (Gd t103 false (Mv t5_2)) h fun t105 h =>
 go (Gd t103 false (QCall Try.prog 10 [t105])) h fun t106 h =>
 go (Gd t103 false (Mv t13)) h fun t107 h =>
 go (Gd t103 false (Bin .int .neq t106 t107)) h fun t108 h =>
 go (Pick t103 (.bool true) t108) h fun t109 h =>
 go (Gd t109 false (Mv t5_2)) h fun t111 h =>
 go (Gd t109 false (QCall Try.prog 13 [t111])) h fun t112 h =>
 go (Gd t109 false (Mv t14)) h fun t113 h =>
 go (Gd t109 false (Bin .int .neq t112 t113)) h fun t114 h =>
 go (Pick t109 (.bool true) t114) h fun t115 h =>
 If t115 (
 K (.bool false) h) (
 go (Len t6_2) h fun t117 h =>
 Lp 9 (fun X5 t0_5 t1_5 t5_4 t13_2 t14_2 t17 t116 t117_1 t118 h =>
 go (Bin .int .lss t118 t117_1) h fun t119 h =>
 If t119 (
 go (Idx 1 t116 t118) h fun t121 h =>
 go (Ld t121) h fun t122 h =>
 go (Lk (.int .i64 0) t17 t122 true) h fun t126 h =>
 go (Ext 0 t126) h fun t127 h =>
 go (Ext 1 t126) h fun t128 h =>
 go (Bin .int .shr t1_5 t118) h fun t132 h =>
 go (Bin .int .and t132 (.int .u64 1)) h fun t133 h =>
 go (Bin .int .eql t133 (.int .u64 1)) h fun t134 h =>
 go (Bin .bool .eql t128 t134) h fun t135 h =>
 If t135 (
 K (.bool false) h) (
 go (Gd t128 true (Mv t5_4)) h fun t138 h =>
 go (Gd t128 true (Mv t127)) h fun t139 h =>
 go (Gd t128 true (QCall Try.prog 14 [t138, t139])) h fun t140 h =>
 go (Gd t128 true (Mv t118)) h fun t141 h =>
 go (Gd t128 true (Bin .int .neq t140 t141)) h fun t142 h =>
 go (Gd t128 true (Mv t142)) h fun t143 h =>
 go (Gd t143 false (Mv t5_4)) h fun t144 h =>
 go (Gd t143 false (Mv t127)) h fun t145 h =>
 go (Gd t143 false (QCall Try.prog 15 [t144, t145])) h fun t146 h =>
 go (Gd t143 false (Mv t0_5)) h fun t147 h =>
 go (Gd t143 false (Mv t118)) h fun t148 h =>
 go (Gd t143 false (Idx 1 t147 t148)) h fun t149 h =>
 go (Gd t143 false (Ld t149)) h fun t150 h =>
 go (Gd t143 false (Bin .int .rem t150 (.int .u8 7))) h fun t151 h =>
 go (Gd t143 false (Cvt .i64 t151)) h fun t152 h =>
 go (Gd t143 false (Bin .int .neq t146 t152)) h fun t153 h =>
 go (Gd t128 true (Pick t143 (.bool true) t153)) h fun t154 h =>
 go (Gd t128 true (Mv t154)) h fun t155 h =>
 go (Gd t155 false (Mv t5_4)) h fun t156 h =>
 go (Gd t155 false (Mv t127)) h fun t157 h =>
 go (Gd t155 false (QCall Try.prog 16 [t156, t157])) h fun t158 h =>
 go (Gd t155 false (Mv t118)) h fun t159 h =>
 go (Gd t155 false (Bin .int .rem t159 (.int .i64 2))) h fun t160 h =>
 go (Gd t155 false (Bin .int .eql t160 (.int .i64 0))) h fun t161 h =>
 go (Gd t155 false (Bin .bool .neq t158 t161)) h fun t162 h =>
 go (Gd t128 true (Pick t155 (.bool true) t162)) h fun t163 h =>
 go (Gd t128 true (Mv t163)) h fun t164 h =>
 go (Gd t164 false (Mv t5_4)) h fun t165 h =>
 go (Gd t164 false (Mv t127)) h fun t166 h =>
 go (Gd t164 false (QCall Try.prog 15 [t165, t166])) h fun t167 h =>
 go (Gd t164 false (Bin .int .gtr t167 (.int .i64 0))) h fun t168 h =>
 go (Gd t164 false (Mv t168)) h fun t169 h =>
 go (Gd t169 true (Mv t5_4)) h fun t170 h =>
 go (Gd t169 true (Mv t127)) h fun t171 h =>
 go (Gd t169 true (QCall Try.prog 17 [t170, t171, (.int .i64 0)])) h fun t172 h =>
 go (Gd t169 true (Mv t118)) h fun t173 h =>
 go (Gd t169 true (Bin .int .mul (.int .i64 10) t173)) h fun t174 h =>
 go (Gd t169 true (Bin .int .add t174 (.int .i64 1))) h fun t175 h =>
 go (Gd t169 true (Bin .int .neq t172 t175)) h fun t176 h =>
 go (Gd t164 false (Pick t169 t176 (.bool false))) h fun t177 h =>
 go (Gd t128 true (Pick t164 (.bool true) t177)) h fun t178 h =>
 go (Pick t128 t178 (.bool false)) h fun t179 h =>
 If t179 (
 K (.bool false) h) (
 go (Bin .int .add t118 (.int .i64 1)) h fun t180 h =>
 X5 t0_5 t1_5 t5_4 t13_2 t14_2 t17 t116 t117_1 t180 h))) (
 go (BldS 3 1 1 #[(.int .i64 0)] [(0, (.int .i64 5))]) h fun t183 h =>
 go (CallF Try.prog 9 [t5_4, t183, (.bool false), (.int .i64 0)]) h fun t184 h =>
 go (Ext 0 t184) h fun t185 h =>
 go (Ext 1 t184) h fun t186 h =>
 go (CallF Try.prog 12 [t5_4]) h fun t188 h =>
 go (Gd t186 true (Mv t185)) h fun t191 h =>
 go (Gd t186 true (Mv t13_2)) h fun t192 h =>
 go (Gd t186 true (Bin .int .eql t191 t192)) h fun t193 h =>
 go (Pick t186 t193 (.bool false)) h fun t194 h =>
 go (Gd t194 true (Mv t188)) h fun t196 h =>
 go (Gd t194 true (LenM t196)) h fun t197 h =>
 go (Gd t194 true (Mv t14_2)) h fun t198 h =>
 go (Gd t194 true (Bin .int .add t198 (.int .i64 1))) h fun t199 h =>
 go (Gd t194 true (Bin .int .eql t197 t199)) h fun t200 h =>
 go (Pick t194 t200 (.bool false)) h fun t201 h =>
 go (Gd t201 true (Mv t188)) h fun t203 h =>
 go (Gd t201 true (Mv t185)) h fun t204 h =>
 go (Gd t201 true (Lk (.int .i64 0) t203 t204 false)) h fun t205 h =>
 go (Gd t201 true (Mv t185)) h fun t206 h =>
 go (Gd t201 true (Bin .int .eql t205 t206)) h fun t207 h =>
 go (Pick t201 t207 (.bool false)) h fun t208 h =>
 K t208 h)) [t0_3, t1_3, t5_2, t13, t14, t99, t6_2, t117, (.int .i64 0)] h))) [t0_1, t1_1, t5, t6, (.int .i64 0), (.int .i64 0), t6, t72, (.int .i64 0)] h)) [t0, t1, t30, (.slice none 0 0), t0, t32, (.int .i64 0)] h))
set_option maxRecDepth 100000 in
theorem bradawllaw05_ArenaCompacts.eq : (fun t0 t1 K h => bradawllaw05_ArenaCompacts.pt t0 t1 K h : Value → Value → Ret → Heap → Prop) = (fun t0 t1 K h => fnPt Try.prog [10, 13, 14, 15, 16, 17, 21, 25, 27, 28, 30] Try.f4 bradawllaw05_ArenaCompacts.ann [t0, t1] K h) := by kernel_rfl
set_option maxRecDepth 100000 in
theorem bradawllaw05_ArenaCompacts.ok {t0 t1 : Value} {K : Ret} {h : Heap} (hp : bradawllaw05_ArenaCompacts.pt t0 t1 K h) : CallH Try.prog 4 #[t0, t1] K h :=
  fn_sound (qs := [10, 13, 14, 15, 16, 17, 21, 25, 27, 28, 30]) (fn := Try.f4) (ann := bradawllaw05_ArenaCompacts.ann) (args := [t0, t1]) follows_mixed Try.func4 ((Eq.to_iff (congrFun (congrFun (congrFun (congrFun (bradawllaw05_ArenaCompacts.eq) t0) t1) K) h)).mp hp)

/-! ### bradawl/bradawllaw05.fit: function 7 -/
abbrev bradawllaw05_fit.id : FuncId := 7
def bradawllaw05_fit.ann : Ann := (.seq none .leaf (.seq none .leaf (.seq none (.seq none .leaf (.cond (.seq none .leaf .leaf) .leaf)) (.seq none .leaf (.seq none .leaf (.seq none .leaf (.seq none .leaf .leaf)))))))
set_option maxRecDepth 100000 in
def bradawllaw05_fit.pt (K : Ret) (h : Heap) : Prop :=
 go (CallF Try.prog 8 [(.int .i64 10)]) h fun t8 h =>
 go (Bin .pointer .eql t8 (.pointer none)) h fun t10 h =>
 If t10 (
 K (.bool false) h) (
 go (BldS 3 1 2 #[(.int .i64 0)] [(0, (.int .i64 1)), (1, (.int .i64 (-2)))]) h fun t13 h =>
 go (CallF Try.prog 9 [t8, t13, (.bool false), (.int .i64 0)]) h fun t14 h =>
 go (Ext 0 t14) h fun t15 h =>
 go (Ext 1 t14) h fun t16 h =>
 go (BldS 3 1 2 #[(.int .i64 0)] [(0, (.int .i64 3)), (1, (.int .i64 4))]) h fun t19 h =>
 go (CallF Try.prog 9 [t8, t19, (.bool true), (.int .i64 2)]) h fun t20 h =>
 go (Ext 0 t20) h fun t21 h =>
 go (Ext 1 t20) h fun t22 h =>
 go (CallF Try.prog 9 [t8, (.slice none 0 0), (.bool false), (.int .i64 0)]) h fun t25 h =>
 go (Ext 0 t25) h fun t26 h =>
 go (Ext 1 t25) h fun t27 h =>
 go (Gd t16 true (Mv t22)) h fun t30 h =>
 go (Pick t16 t30 (.bool false)) h fun t31 h =>
 go (Gd t31 true (Mv t27)) h fun t33 h =>
 go (Gd t31 true (Un .not t33)) h fun t34 h =>
 go (Pick t31 t34 (.bool false)) h fun t35 h =>
 go (Gd t35 true (Mv t15)) h fun t37 h =>
 go (Gd t35 true (Bin .int .eql t37 (.int .i64 0))) h fun t38 h =>
 go (Pick t35 t38 (.bool false)) h fun t39 h =>
 go (Gd t39 true (Mv t21)) h fun t41 h =>
 go (Gd t39 true (Bin .int .eql t41 (.int .i64 5))) h fun t42 h =>
 go (Pick t39 t42 (.bool false)) h fun t43 h =>
 go (Gd t43 true (Mv t8)) h fun t45 h =>
 go (Gd t43 true (QCall Try.prog 10 [t45])) h fun t46 h =>
 go (Gd t43 true (Bin .int .eql t46 (.int .i64 10))) h fun t47 h =>
 go (Pick t43 t47 (.bool false)) h fun t48 h =>
 go (Gd t48 true (Mv t8)) h fun t50 h =>
 go (Gd t48 true (QCall Try.prog 13 [t50])) h fun t51 h =>
 go (Gd t48 true (Bin .int .eql t51 (.int .i64 2))) h fun t52 h =>
 go (Pick t48 t52 (.bool false)) h fun t53 h =>
 go (Gd t53 true (Mv t8)) h fun t55 h =>
 go (Gd t53 true (QCall Try.prog 17 [t55, (.int .i64 5), (.int .i64 1)])) h fun t56 h =>
 go (Gd t53 true (Bin .int .eql t56 (.int .i64 4))) h fun t57 h =>
 go (Pick t53 t57 (.bool false)) h fun t58 h =>
 go (Gd t58 true (Mv t8)) h fun t60 h =>
 go (Gd t58 true (QCall Try.prog 16 [t60, (.int .i64 5)])) h fun t61 h =>
 go (Pick t58 t61 (.bool false)) h fun t62 h =>
 go (Gd t62 true (Mv t8)) h fun t64 h =>
 go (Gd t62 true (QCall Try.prog 14 [t64, (.int .i64 5)])) h fun t65 h =>
 go (Gd t62 true (Bin .int .eql t65 (.int .i64 2))) h fun t66 h =>
 go (Pick t62 t66 (.bool false)) h fun t67 h =>
 K t67 h)
set_option maxRecDepth 100000 in
theorem bradawllaw05_fit.eq : (fun K h => bradawllaw05_fit.pt K h : Ret → Heap → Prop) = (fun K h => fnPt Try.prog [10, 13, 14, 15, 16, 17, 21, 25, 27, 28, 30] Try.f7 bradawllaw05_fit.ann [] K h) := by kernel_rfl
set_option maxRecDepth 100000 in
theorem bradawllaw05_fit.ok {K : Ret} {h : Heap} (hp : bradawllaw05_fit.pt K h) : CallH Try.prog 7 #[] K h :=
  fn_sound (qs := [10, 13, 14, 15, 16, 17, 21, 25, 27, 28, 30]) (fn := Try.f7) (ann := bradawllaw05_fit.ann) (args := []) follows_mixed Try.func7 ((Eq.to_iff (congrFun (congrFun (bradawllaw05_fit.eq) K) h)).mp hp)

/-! ### bradawl/arena.New: function 8 -/
abbrev arena_New.id : FuncId := 8
def arena_New.ann : Ann := (.seq none .leaf (.seq none .leaf .leaf))
set_option maxRecDepth 100000 in
def arena_New.pt (t0 : Value) (K : Ret) (h : Heap) : Prop :=
 go (MkM) h fun t4 h =>
 go (Bld [(0, 1), (1, 1), (2, 1), (3, 1)] #[(.slice none 0 0), (.int .i64 0), (.int .i64 0), (.map none)] [(1, t0), (3, t4)]) h fun t5 h =>
 go (New (Value.cells t5) 59) h fun t6 h =>
 K t6 h
set_option maxRecDepth 100000 in
theorem arena_New.eq : (fun t0 K h => arena_New.pt t0 K h : Value → Ret → Heap → Prop) = (fun t0 K h => fnPt Try.prog [10, 13, 14, 15, 16, 17, 21, 25, 27, 28, 30] Try.f8 arena_New.ann [t0] K h) := by kernel_rfl
set_option maxRecDepth 100000 in
theorem arena_New.ok {t0 : Value} {K : Ret} {h : Heap} (hp : arena_New.pt t0 K h) : CallH Try.prog 8 #[t0] K h :=
  fn_sound (qs := [10, 13, 14, 15, 16, 17, 21, 25, 27, 28, 30]) (fn := Try.f8) (ann := arena_New.ann) (args := [t0]) follows_mixed Try.func8 ((Eq.to_iff (congrFun (congrFun (congrFun (arena_New.eq) t0) K) h)).mp hp)

/-! ### (*bradawl/arena.Arena).Add: function 9 -/
abbrev arena_Arena_Add.id : FuncId := 9
def arena_Arena_Add.ann : Ann := (.seq none .leaf (.seq none .leaf (.seq none (.seq none .leaf (.cond (.seq none .leaf .leaf) .leaf)) (.seq none .leaf (.seq (some [0, 1, 3, 10, 11]) (.seq none .leaf (.cond .leaf .leaf)) (.seq none .leaf (.seq none .leaf (.seq none .leaf (.seq none .leaf .leaf)))))))))
set_option maxRecDepth 100000 in
def arena_Arena_Add.pt (t0 t1 t2 t3 : Value) (K : Ret) (h : Heap) : Prop :=
 go (NilC t0) h fun t13 h =>
 go (Fld 0 t13) h fun t14 h =>
 go (Ld t14) h fun t15 h =>
 go (Len t15) h fun t16 h =>
 go (NilC t0) h fun t18 h =>
 go (Fld 1 t18) h fun t19 h =>
 go (Ld t19) h fun t20 h =>
 go (Bin .int .gtr t20 (.int .i64 0)) h fun t21 h =>
 go (Gd t21 true (Mv t16)) h fun t23 h =>
 go (Gd t21 true (Bin .int .add t23 (.int .i64 3))) h fun t24 h =>
 go (Gd t21 true (Mv t1)) h fun t25 h =>
 go (Gd t21 true (Len t25)) h fun t26 h =>
 go (Gd t21 true (Bin .int .add t24 t26)) h fun t27 h =>
 go (Gd t21 true (Mv t0)) h fun t28 h =>
 go (Gd t21 true (NilC t28)) h fun t29 h =>
 go (Gd t21 true (Fld 1 t29)) h fun t30 h =>
 go (Gd t21 true (Ld t30)) h fun t31 h =>
 go (Gd t21 true (Bin .int .gtr t27 t31)) h fun t32 h =>
 go (Pick t21 t32 (.bool false)) h fun t33 h =>
 If t33 (
 K (.tuple #[(.int .i64 0), (.bool false)]) h) (
 go (Len t1) h fun t35 h =>
 Join 5 (fun J1 =>
 If t2 (
 go (Bin .int .or t35 (.int .i64 1099511627776)) h fun t38 h =>
 J1 t0 t1 t3 t16 t38 h) (
 J1 t0 t1 t3 t16 t35 h)) (fun t0_1 t1_1 t3_1 t10 t11 h =>
 go (NilC t0_1) h fun t41 h =>
 go (Fld 0 t41) h fun t42 h =>
 go (Ld t42) h fun t43 h =>
 go (QCall Try.prog 27 [t3_1]) h fun t46 h =>
 go (BldS 3 1 3 #[(.int .i64 0)] [(0, t11), (1, t46), (2, (.int .i64 0))]) h fun t47 h =>
 go (App 3 1 8 #[(.int .i64 0)] t43 t47) h fun t48 h =>
 go (App 3 1 8 #[(.int .i64 0)] t48 t1_1) h fun t50 h =>
 go (NilC t0_1) h fun t51 h =>
 go (Fld 0 t51) h fun t52 h =>
 go (St t52 t50) h fun _ h =>
 go (NilC t0_1) h fun t54 h =>
 go (Fld 2 t54) h fun t55 h =>
 go (Ld t55) h fun t56 h =>
 go (Bin .int .add t56 (.int .i64 1)) h fun t57 h =>
 go (NilC t0_1) h fun t58 h =>
 go (Fld 2 t58) h fun t59 h =>
 go (St t59 t57) h fun _ h =>
 go (NilC t0_1) h fun t61 h =>
 go (Fld 3 t61) h fun t62 h =>
 go (Ld t62) h fun t63 h =>
 go (MUpd t63 t10 (.bool true)) h fun _ h =>
 K (.tuple #[t10, (.bool true)]) h))
set_option maxRecDepth 100000 in
theorem arena_Arena_Add.eq : (fun t0 t1 t2 t3 K h => arena_Arena_Add.pt t0 t1 t2 t3 K h : Value → Value → Value → Value → Ret → Heap → Prop) = (fun t0 t1 t2 t3 K h => fnPt Try.prog [10, 13, 14, 15, 16, 17, 21, 25, 27, 28, 30] Try.f9 arena_Arena_Add.ann [t0, t1, t2, t3] K h) := by kernel_rfl
set_option maxRecDepth 100000 in
theorem arena_Arena_Add.ok {t0 t1 t2 t3 : Value} {K : Ret} {h : Heap} (hp : arena_Arena_Add.pt t0 t1 t2 t3 K h) : CallH Try.prog 9 #[t0, t1, t2, t3] K h :=
  fn_sound (qs := [10, 13, 14, 15, 16, 17, 21, 25, 27, 28, 30]) (fn := Try.f9) (ann := arena_Arena_Add.ann) (args := [t0, t1, t2, t3]) follows_mixed Try.func9 ((Eq.to_iff (congrFun (congrFun (congrFun (congrFun (congrFun (congrFun (arena_Arena_Add.eq) t0) t1) t2) t3) K) h)).mp hp)

/-! ### (*bradawl/arena.Arena).Words: function 10 -/
abbrev arena_Arena_Words.id : FuncId := 10
def arena_Arena_Words.ann : Ann := (.seq none .leaf (.seq none .leaf .leaf))
set_option maxRecDepth 100000 in
def arena_Arena_Words.pt (t0 : Value) (K : Ret) (h : Heap) : Prop :=
 go (NilC t0) h fun t4 h =>
 go (Fld 0 t4) h fun t5 h =>
 go (Ld t5) h fun t6 h =>
 go (Len t6) h fun t7 h =>
 K t7 h
set_option maxRecDepth 100000 in
theorem arena_Arena_Words.eq : (fun t0 K h => arena_Arena_Words.pt t0 K h : Value → Ret → Heap → Prop) = (fun t0 K h => fnPt Try.prog [10, 13, 14, 15, 16, 17, 21, 25, 27, 28, 30] Try.f10 arena_Arena_Words.ann [t0] K h) := by kernel_rfl
set_option maxRecDepth 100000 in
theorem arena_Arena_Words.ok {t0 : Value} {K : Ret} {h : Heap} (hp : arena_Arena_Words.pt t0 K h) : CallH Try.prog 10 #[t0] K h :=
  fn_sound (qs := [10, 13, 14, 15, 16, 17, 21, 25, 27, 28, 30]) (fn := Try.f10) (ann := arena_Arena_Words.ann) (args := [t0]) follows_mixed Try.func10 ((Eq.to_iff (congrFun (congrFun (congrFun (arena_Arena_Words.eq) t0) K) h)).mp hp)

/-! ### (*bradawl/arena.Arena).Drop: function 11 -/
abbrev arena_Arena_Drop.id : FuncId := 11
def arena_Arena_Drop.ann : Ann := (.seq none .leaf (.seq none (.seq none .leaf (.cond (.seq none .leaf .leaf) .leaf)) (.seq none .leaf (.seq none .leaf (.seq none .leaf (.seq none .leaf .leaf))))))
set_option maxRecDepth 100000 in
def arena_Arena_Drop.pt (t0 t1 : Value) (K : Ret) (h : Heap) : Prop :=
 go (QCall Try.prog 21 [t0, t1]) h fun t7 h =>
 go (Un .not t7) h fun t8 h =>
 If t8 (
 K (.bool false) h) (
 go (NilC t0) h fun t10 h =>
 go (Fld 3 t10) h fun t11 h =>
 go (Ld t11) h fun t12 h =>
 go (MDel t12 t1) h fun _ h =>
 go (NilC t0) h fun t15 h =>
 go (Fld 0 t15) h fun t16 h =>
 go (Ld t16) h fun t17 h =>
 go (Bin .int .add t1 (.int .i64 0)) h fun t19 h =>
 go (Idx 1 t17 t19) h fun t20 h =>
 go (Ld t20) h fun t21 h =>
 go (Bin .int .or t21 (.int .i64 2199023255552)) h fun t22 h =>
 go (Idx 1 t17 t19) h fun t23 h =>
 go (St t23 t22) h fun _ h =>
 go (NilC t0) h fun t25 h =>
 go (Fld 2 t25) h fun t26 h =>
 go (Ld t26) h fun t27 h =>
 go (Bin .int .sub t27 (.int .i64 1)) h fun t28 h =>
 go (NilC t0) h fun t29 h =>
 go (Fld 2 t29) h fun t30 h =>
 go (St t30 t28) h fun _ h =>
 K (.bool true) h)
set_option maxRecDepth 100000 in
theorem arena_Arena_Drop.eq : (fun t0 t1 K h => arena_Arena_Drop.pt t0 t1 K h : Value → Value → Ret → Heap → Prop) = (fun t0 t1 K h => fnPt Try.prog [10, 13, 14, 15, 16, 17, 21, 25, 27, 28, 30] Try.f11 arena_Arena_Drop.ann [t0, t1] K h) := by kernel_rfl
set_option maxRecDepth 100000 in
theorem arena_Arena_Drop.ok {t0 t1 : Value} {K : Ret} {h : Heap} (hp : arena_Arena_Drop.pt t0 t1 K h) : CallH Try.prog 11 #[t0, t1] K h :=
  fn_sound (qs := [10, 13, 14, 15, 16, 17, 21, 25, 27, 28, 30]) (fn := Try.f11) (ann := arena_Arena_Drop.ann) (args := [t0, t1]) follows_mixed Try.func11 ((Eq.to_iff (congrFun (congrFun (congrFun (congrFun (arena_Arena_Drop.eq) t0) t1) K) h)).mp hp)

/-! ### (*bradawl/arena.Arena).Compact: function 12 -/
abbrev arena_Arena_Compact.id : FuncId := 12
def arena_Arena_Compact.ann : Ann := (.seq none .leaf (.seq none .leaf (.seq none .leaf (.seq none .leaf (.seq (some [1, 3, 4, 5]) (.seq none .leaf (.block (.range .leaf (.block (.seq none .leaf (.seq none .leaf .leaf)))))) (.seq (some [3]) .leaf (.seq none .leaf .leaf)))))))
set_option maxRecDepth 100000 in
def arena_Arena_Compact.pt (t0 : Value) (K : Ret) (h0 : Heap) : Prop :=
 ent h0 fun h =>
 go (New (Value.cells t0) 24) h fun t1 h =>
 go (MkM) h fun t7 h =>
 go (New #[(.map none)] 33) h fun t3 h =>
 go (St t3 t7) h fun _ h =>
 go (MkM) h fun t8 h =>
 go (New #[(.map none)] 57) h fun t4 h =>
 go (St t4 t8) h fun _ h =>
 go (New #[(.slice none 0 0)] 28) h fun t5 h =>
 Join 4 (fun J1 =>
 go (Ld t1) h fun t9 h =>
 go (CallF Try.prog 20 [t9]) h fun t10 h =>
 RngF Try.prog t10 1 (fun B2 N2 L2 => fun t11 h =>
 B2 (fun h =>
 go (Ld t3) h fun t12 h =>
 go (Ld t5) h fun t14 h =>
 go (Len t14) h fun t15 h =>
 go (MUpd t12 t11 t15) h fun _ h =>
 go (Ld t4) h fun t16 h =>
 go (Ld t5) h fun t17 h =>
 go (Len t17) h fun t18 h =>
 go (MUpd t16 t18 (.bool true)) h fun _ h =>
 go (Ld t5) h fun t19 h =>
 go (Ld t1) h fun t20 h =>
 go (NilC t20) h fun t21 h =>
 go (Fld 0 t21) h fun t22 h =>
 go (Ld t22) h fun t23 h =>
 go (Bin .int .add t11 (.int .i64 3)) h fun t26 h =>
 go (Ld t1) h fun t27 h =>
 go (QCall Try.prog 15 [t27, t11]) h fun t29 h =>
 go (Bin .int .add t26 t29) h fun t30 h =>
 go (Slc 1 t23 (some t11) (some t30) none) h fun t31 h =>
 go (App 3 1 8 #[(.int .i64 0)] t19 t31) h fun t32 h =>
 go (St t5 t32) h fun _ h =>
 N2 h) h) (fun h =>
 J1 t1 t3 t4 t5 h) (fun ex h => Ex.casesOn (motive := fun _ => Prop) ex False (fun id =>
 bif Nat.beq id 0 then (
 J1 t1 t3 t4 t5 h) else (
 False)) (
 Lv h0.size (fun h =>
 K (.map none) h) h)) h) (fun t1_1 t3_1 t4_1 t5_1 h =>
 Join 1 (fun J3 =>
 go (Ld t1_1) h fun t33 h =>
 go (Ld t5_1) h fun t35 h =>
 go (NilC t33) h fun t37 h =>
 go (Fld 0 t37) h fun t38 h =>
 (go (Ld t1_1) h fun t34 h =>
 (go (Ld t4_1) h fun t36 h =>
 go (St t38 t35) h fun _ h =>
 go (NilC t34) h fun t39 h =>
 go (Fld 3 t39) h fun t40 h =>
 go (St t40 t36) h fun _ h =>
 J3 t3_1 h) ∧
 (go (St t38 t35) h fun _ h =>
 go (Ld t4_1) h fun t36_1 h =>
 go (NilC t34) h fun t39_1 h =>
 go (Fld 3 t39_1) h fun t40_1 h =>
 go (St t40_1 t36_1) h fun _ h =>
 J3 t3_1 h)) ∧
 (go (Ld t4_1) h fun t36_2 h =>
 (go (Ld t1_1) h fun t34_1 h =>
 go (St t38 t35) h fun _ h =>
 go (NilC t34_1) h fun t39_2 h =>
 go (Fld 3 t39_2) h fun t40_2 h =>
 go (St t40_2 t36_2) h fun _ h =>
 J3 t3_1 h) ∧
 (go (St t38 t35) h fun _ h =>
 go (Ld t1_1) h fun t34_2 h =>
 go (NilC t34_2) h fun t39_3 h =>
 go (Fld 3 t39_3) h fun t40_3 h =>
 go (St t40_3 t36_2) h fun _ h =>
 J3 t3_1 h)) ∧
 (go (St t38 t35) h fun _ h =>
 go (Ld t1_1) h fun t34_3 h =>
 go (Ld t4_1) h fun t36_3 h =>
 go (NilC t34_3) h fun t39_4 h =>
 go (Fld 3 t39_4) h fun t40_4 h =>
 go (St t40_4 t36_3) h fun _ h =>
 J3 t3_1 h)) (fun t3_2 h =>
 go (Ld t3_2) h fun t41 h =>
 Lv h0.size (fun h =>
 K t41 h) h))
set_option maxRecDepth 100000 in
theorem arena_Arena_Compact.eq : (fun t0 K h => arena_Arena_Compact.pt t0 K h : Value → Ret → Heap → Prop) = (fun t0 K h => fnPt Try.prog [10, 13, 14, 15, 16, 17, 21, 25, 27, 28, 30] Try.f12 arena_Arena_Compact.ann [t0] K h) := by kernel_rfl
set_option maxRecDepth 100000 in
theorem arena_Arena_Compact.ok {t0 : Value} {K : Ret} {h : Heap} (hp : arena_Arena_Compact.pt t0 K h) : CallH Try.prog 12 #[t0] K h :=
  fn_sound (qs := [10, 13, 14, 15, 16, 17, 21, 25, 27, 28, 30]) (fn := Try.f12) (ann := arena_Arena_Compact.ann) (args := [t0]) follows_mixed Try.func12 ((Eq.to_iff (congrFun (congrFun (congrFun (arena_Arena_Compact.eq) t0) K) h)).mp hp)

/-! ### (*bradawl/arena.Arena).Count: function 13 -/
abbrev arena_Arena_Count.id : FuncId := 13
def arena_Arena_Count.ann : Ann := (.seq none .leaf (.seq none .leaf .leaf))
set_option maxRecDepth 100000 in
def arena_Arena_Count.pt (t0 : Value) (K : Ret) (h : Heap) : Prop :=
 go (NilC t0) h fun t4 h =>
 go (Fld 2 t4) h fun t5 h =>
 go (Ld t5) h fun t6 h =>
 K t6 h
set_option maxRecDepth 100000 in
theorem arena_Arena_Count.eq : (fun t0 K h => arena_Arena_Count.pt t0 K h : Value → Ret → Heap → Prop) = (fun t0 K h => fnPt Try.prog [10, 13, 14, 15, 16, 17, 21, 25, 27, 28, 30] Try.f13 arena_Arena_Count.ann [t0] K h) := by kernel_rfl
set_option maxRecDepth 100000 in
theorem arena_Arena_Count.ok {t0 : Value} {K : Ret} {h : Heap} (hp : arena_Arena_Count.pt t0 K h) : CallH Try.prog 13 #[t0] K h :=
  fn_sound (qs := [10, 13, 14, 15, 16, 17, 21, 25, 27, 28, 30]) (fn := Try.f13) (ann := arena_Arena_Count.ann) (args := [t0]) follows_mixed Try.func13 ((Eq.to_iff (congrFun (congrFun (congrFun (arena_Arena_Count.eq) t0) K) h)).mp hp)

/-! ### (*bradawl/arena.Arena).Glue: function 14 -/
abbrev arena_Arena_Glue.id : FuncId := 14
def arena_Arena_Glue.ann : Ann := (.seq none .leaf (.seq none .leaf .leaf))
set_option maxRecDepth 100000 in
def arena_Arena_Glue.pt (t0 t1 : Value) (K : Ret) (h : Heap) : Prop :=
 go (QCall Try.prog 28 [t0, t1, (.int .i64 1)]) h fun t7 h =>
 K t7 h
set_option maxRecDepth 100000 in
theorem arena_Arena_Glue.eq : (fun t0 t1 K h => arena_Arena_Glue.pt t0 t1 K h : Value → Value → Ret → Heap → Prop) = (fun t0 t1 K h => fnPt Try.prog [10, 13, 14, 15, 16, 17, 21, 25, 27, 28, 30] Try.f14 arena_Arena_Glue.ann [t0, t1] K h) := by kernel_rfl
set_option maxRecDepth 100000 in
theorem arena_Arena_Glue.ok {t0 t1 : Value} {K : Ret} {h : Heap} (hp : arena_Arena_Glue.pt t0 t1 K h) : CallH Try.prog 14 #[t0, t1] K h :=
  fn_sound (qs := [10, 13, 14, 15, 16, 17, 21, 25, 27, 28, 30]) (fn := Try.f14) (ann := arena_Arena_Glue.ann) (args := [t0, t1]) follows_mixed Try.func14 ((Eq.to_iff (congrFun (congrFun (congrFun (congrFun (arena_Arena_Glue.eq) t0) t1) K) h)).mp hp)

/-! ### (*bradawl/arena.Arena).Len: function 15 -/
abbrev arena_Arena_Len.id : FuncId := 15
def arena_Arena_Len.ann : Ann := (.seq none .leaf (.seq none (.seq none .leaf (.cond (.seq none .leaf .leaf) .leaf)) (.seq none .leaf .leaf)))
set_option maxRecDepth 100000 in
def arena_Arena_Len.pt (t0 t1 : Value) (K : Ret) (h : Heap) : Prop :=
 go (QCall Try.prog 21 [t0, t1]) h fun t7 h =>
 go (Un .not t7) h fun t8 h =>
 If t8 (
 K (.int .i64 0) h) (
 go (NilC t0) h fun t10 h =>
 go (Fld 0 t10) h fun t11 h =>
 go (Ld t11) h fun t12 h =>
 go (Bin .int .add t1 (.int .i64 0)) h fun t14 h =>
 go (Idx 1 t12 t14) h fun t15 h =>
 go (Ld t15) h fun t16 h =>
 go (Bin .int .and t16 (.int .i64 1099511627775)) h fun t17 h =>
 K t17 h)
set_option maxRecDepth 100000 in
theorem arena_Arena_Len.eq : (fun t0 t1 K h => arena_Arena_Len.pt t0 t1 K h : Value → Value → Ret → Heap → Prop) = (fun t0 t1 K h => fnPt Try.prog [10, 13, 14, 15, 16, 17, 21, 25, 27, 28, 30] Try.f15 arena_Arena_Len.ann [t0, t1] K h) := by kernel_rfl
set_option maxRecDepth 100000 in
theorem arena_Arena_Len.ok {t0 t1 : Value} {K : Ret} {h : Heap} (hp : arena_Arena_Len.pt t0 t1 K h) : CallH Try.prog 15 #[t0, t1] K h :=
  fn_sound (qs := [10, 13, 14, 15, 16, 17, 21, 25, 27, 28, 30]) (fn := Try.f15) (ann := arena_Arena_Len.ann) (args := [t0, t1]) follows_mixed Try.func15 ((Eq.to_iff (congrFun (congrFun (congrFun (congrFun (arena_Arena_Len.eq) t0) t1) K) h)).mp hp)

/-! ### (*bradawl/arena.Arena).Learned: function 16 -/
abbrev arena_Arena_Learned.id : FuncId := 16
def arena_Arena_Learned.ann : Ann := (.seq none .leaf (.seq none .leaf .leaf))
set_option maxRecDepth 100000 in
def arena_Arena_Learned.pt (t0 t1 : Value) (K : Ret) (h : Heap) : Prop :=
 go (QCall Try.prog 21 [t0, t1]) h fun t7 h =>
 go (Gd t7 true (Mv t0)) h fun t9 h =>
 go (Gd t7 true (NilC t9)) h fun t10 h =>
 go (Gd t7 true (Fld 0 t10)) h fun t11 h =>
 go (Gd t7 true (Ld t11)) h fun t12 h =>
 go (Gd t7 true (Mv t1)) h fun t13 h =>
 go (Gd t7 true (Bin .int .add t13 (.int .i64 0))) h fun t14 h =>
 go (Gd t7 true (Idx 1 t12 t14)) h fun t15 h =>
 go (Gd t7 true (Ld t15)) h fun t16 h =>
 go (Gd t7 true (Bin .int .and t16 (.int .i64 1099511627776))) h fun t17 h =>
 go (Gd t7 true (Bin .int .neq t17 (.int .i64 0))) h fun t18 h =>
 go (Pick t7 t18 (.bool false)) h fun t19 h =>
 K t19 h
set_option maxRecDepth 100000 in
theorem arena_Arena_Learned.eq : (fun t0 t1 K h => arena_Arena_Learned.pt t0 t1 K h : Value → Value → Ret → Heap → Prop) = (fun t0 t1 K h => fnPt Try.prog [10, 13, 14, 15, 16, 17, 21, 25, 27, 28, 30] Try.f16 arena_Arena_Learned.ann [t0, t1] K h) := by kernel_rfl
set_option maxRecDepth 100000 in
theorem arena_Arena_Learned.ok {t0 t1 : Value} {K : Ret} {h : Heap} (hp : arena_Arena_Learned.pt t0 t1 K h) : CallH Try.prog 16 #[t0, t1] K h :=
  fn_sound (qs := [10, 13, 14, 15, 16, 17, 21, 25, 27, 28, 30]) (fn := Try.f16) (ann := arena_Arena_Learned.ann) (args := [t0, t1]) follows_mixed Try.func16 ((Eq.to_iff (congrFun (congrFun (congrFun (congrFun (arena_Arena_Learned.eq) t0) t1) K) h)).mp hp)

/-! ### (*bradawl/arena.Arena).Lit: function 17 -/
abbrev arena_Arena_Lit.id : FuncId := 17
def arena_Arena_Lit.ann : Ann := (.seq none .leaf (.seq none (.seq none .leaf (.cond (.seq none .leaf .leaf) .leaf)) (.seq none .leaf .leaf)))
set_option maxRecDepth 100000 in
def arena_Arena_Lit.pt (t0 t1 t2 : Value) (K : Ret) (h : Heap) : Prop :=
 go (Bin .int .lss t2 (.int .i64 0)) h fun t8 h =>
 go (Gd t8 false (Mv t2)) h fun t10 h =>
 go (Gd t8 false (Mv t0)) h fun t11 h =>
 go (Gd t8 false (Mv t1)) h fun t12 h =>
 go (Gd t8 false (QCall Try.prog 15 [t11, t12])) h fun t13 h =>
 go (Gd t8 false (Bin .int .geq t10 t13)) h fun t14 h =>
 go (Pick t8 (.bool true) t14) h fun t15 h =>
 If t15 (
 K (.int .i64 0) h) (
 go (NilC t0) h fun t17 h =>
 go (Fld 0 t17) h fun t18 h =>
 go (Ld t18) h fun t19 h =>
 go (Bin .int .add t1 (.int .i64 3)) h fun t21 h =>
 go (Bin .int .add t21 t2) h fun t23 h =>
 go (Idx 1 t19 t23) h fun t24 h =>
 go (Ld t24) h fun t25 h =>
 K t25 h)
set_option maxRecDepth 100000 in
theorem arena_Arena_Lit.eq : (fun t0 t1 t2 K h => arena_Arena_Lit.pt t0 t1 t2 K h : Value → Value → Value → Ret → Heap → Prop) = (fun t0 t1 t2 K h => fnPt Try.prog [10, 13, 14, 15, 16, 17, 21, 25, 27, 28, 30] Try.f17 arena_Arena_Lit.ann [t0, t1, t2] K h) := by kernel_rfl
set_option maxRecDepth 100000 in
theorem arena_Arena_Lit.ok {t0 t1 t2 : Value} {K : Ret} {h : Heap} (hp : arena_Arena_Lit.pt t0 t1 t2 K h) : CallH Try.prog 17 #[t0, t1, t2] K h :=
  fn_sound (qs := [10, 13, 14, 15, 16, 17, 21, 25, 27, 28, 30]) (fn := Try.f17) (ann := arena_Arena_Lit.ann) (args := [t0, t1, t2]) follows_mixed Try.func17 ((Eq.to_iff (congrFun (congrFun (congrFun (congrFun (congrFun (arena_Arena_Lit.eq) t0) t1) t2) K) h)).mp hp)

/-! ### (*bradawl/arena.Arena).All: function 20 -/
abbrev arena_Arena_All.id : FuncId := 20
def arena_Arena_All.ann : Ann := (.seq none .leaf (.seq none .leaf .leaf))
set_option maxRecDepth 100000 in
def arena_Arena_All.pt (t0 : Value) (K : Ret) (h : Heap) : Prop :=
 go (New (Value.cells t0) 24) h fun t1 h =>
 K (.func (.func 31) #[] #[t1]) h
set_option maxRecDepth 100000 in
theorem arena_Arena_All.eq : (fun t0 K h => arena_Arena_All.pt t0 K h : Value → Ret → Heap → Prop) = (fun t0 K h => fnPt Try.prog [10, 13, 14, 15, 16, 17, 21, 25, 27, 28, 30] Try.f20 arena_Arena_All.ann [t0] K h) := by kernel_rfl
set_option maxRecDepth 100000 in
theorem arena_Arena_All.ok {t0 : Value} {K : Ret} {h : Heap} (hp : arena_Arena_All.pt t0 K h) : CallH Try.prog 20 #[t0] K h :=
  fn_sound (qs := [10, 13, 14, 15, 16, 17, 21, 25, 27, 28, 30]) (fn := Try.f20) (ann := arena_Arena_All.ann) (args := [t0]) follows_mixed Try.func20 ((Eq.to_iff (congrFun (congrFun (congrFun (arena_Arena_All.eq) t0) K) h)).mp hp)

/-! ### (*bradawl/arena.Arena).Has: function 21 -/
abbrev arena_Arena_Has.id : FuncId := 21
def arena_Arena_Has.ann : Ann := (.seq none .leaf (.seq none .leaf .leaf))
set_option maxRecDepth 100000 in
def arena_Arena_Has.pt (t0 t1 : Value) (K : Ret) (h : Heap) : Prop :=
 go (NilC t0) h fun t6 h =>
 go (Fld 3 t6) h fun t7 h =>
 go (Ld t7) h fun t8 h =>
 go (Lk (.bool false) t8 t1 false) h fun t10 h =>
 K t10 h
set_option maxRecDepth 100000 in
theorem arena_Arena_Has.eq : (fun t0 t1 K h => arena_Arena_Has.pt t0 t1 K h : Value → Value → Ret → Heap → Prop) = (fun t0 t1 K h => fnPt Try.prog [10, 13, 14, 15, 16, 17, 21, 25, 27, 28, 30] Try.f21 arena_Arena_Has.ann [t0, t1] K h) := by kernel_rfl
set_option maxRecDepth 100000 in
theorem arena_Arena_Has.ok {t0 t1 : Value} {K : Ret} {h : Heap} (hp : arena_Arena_Has.pt t0 t1 K h) : CallH Try.prog 21 #[t0, t1] K h :=
  fn_sound (qs := [10, 13, 14, 15, 16, 17, 21, 25, 27, 28, 30]) (fn := Try.f21) (ann := arena_Arena_Has.ann) (args := [t0, t1]) follows_mixed Try.func21 ((Eq.to_iff (congrFun (congrFun (congrFun (congrFun (arena_Arena_Has.eq) t0) t1) K) h)).mp hp)

/-! ### (*bradawl/arena.Arena).Lits: function 22 -/
abbrev arena_Arena_Lits.id : FuncId := 22
def arena_Arena_Lits.ann : Ann := (.seq none .leaf (.seq none .leaf (.seq none (.seq none .leaf (.cond (.seq none .leaf .leaf) .leaf)) (.seq none .leaf (.seq none .leaf .leaf)))))
set_option maxRecDepth 100000 in
def arena_Arena_Lits.pt (t0 t1 : Value) (K : Ret) (h : Heap) : Prop :=
 go (QCall Try.prog 15 [t0, t1]) h fun t9 h =>
 go (Bin .int .eql t9 (.int .i64 0)) h fun t11 h =>
 If t11 (
 K (.slice none 0 0) h) (
 go (Bin .int .add t1 (.int .i64 3)) h fun t13 h =>
 go (NilC t0) h fun t15 h =>
 go (Fld 0 t15) h fun t16 h =>
 go (Ld t16) h fun t17 h =>
 go (Bin .int .add t13 t9) h fun t21 h =>
 go (Bin .int .add t13 t9) h fun t24 h =>
 go (Slc 1 t17 (some t13) (some t21) (some t24)) h fun t25 h =>
 go (App 3 1 8 #[(.int .i64 0)] (.slice none 0 0) t25) h fun t26 h =>
 K t26 h)
set_option maxRecDepth 100000 in
theorem arena_Arena_Lits.eq : (fun t0 t1 K h => arena_Arena_Lits.pt t0 t1 K h : Value → Value → Ret → Heap → Prop) = (fun t0 t1 K h => fnPt Try.prog [10, 13, 14, 15, 16, 17, 21, 25, 27, 28, 30] Try.f22 arena_Arena_Lits.ann [t0, t1] K h) := by kernel_rfl
set_option maxRecDepth 100000 in
theorem arena_Arena_Lits.ok {t0 t1 : Value} {K : Ret} {h : Heap} (hp : arena_Arena_Lits.pt t0 t1 K h) : CallH Try.prog 22 #[t0, t1] K h :=
  fn_sound (qs := [10, 13, 14, 15, 16, 17, 21, 25, 27, 28, 30]) (fn := Try.f22) (ann := arena_Arena_Lits.ann) (args := [t0, t1]) follows_mixed Try.func22 ((Eq.to_iff (congrFun (congrFun (congrFun (congrFun (arena_Arena_Lits.eq) t0) t1) K) h)).mp hp)

/-! ### (*bradawl/arena.Arena).SetGlue: function 24 -/
abbrev arena_Arena_SetGlue.id : FuncId := 24
def arena_Arena_SetGlue.ann : Ann := (.seq none .leaf (.seq none .leaf .leaf))
set_option maxRecDepth 100000 in
def arena_Arena_SetGlue.pt (t0 t1 t2 : Value) (K : Ret) (h : Heap) : Prop :=
 go (CallF Try.prog 32 [t0, t1, (.int .i64 1), t2]) h fun t10 h =>
 K t10 h
set_option maxRecDepth 100000 in
theorem arena_Arena_SetGlue.eq : (fun t0 t1 t2 K h => arena_Arena_SetGlue.pt t0 t1 t2 K h : Value → Value → Value → Ret → Heap → Prop) = (fun t0 t1 t2 K h => fnPt Try.prog [10, 13, 14, 15, 16, 17, 21, 25, 27, 28, 30] Try.f24 arena_Arena_SetGlue.ann [t0, t1, t2] K h) := by kernel_rfl
set_option maxRecDepth 100000 in
theorem arena_Arena_SetGlue.ok {t0 t1 t2 : Value} {K : Ret} {h : Heap} (hp : arena_Arena_SetGlue.pt t0 t1 t2 K h) : CallH Try.prog 24 #[t0, t1, t2] K h :=
  fn_sound (qs := [10, 13, 14, 15, 16, 17, 21, 25, 27, 28, 30]) (fn := Try.f24) (ann := arena_Arena_SetGlue.ann) (args := [t0, t1, t2]) follows_mixed Try.func24 ((Eq.to_iff (congrFun (congrFun (congrFun (congrFun (congrFun (arena_Arena_SetGlue.eq) t0) t1) t2) K) h)).mp hp)

/-! ### (*bradawl/arena.Arena).Uses: function 25 -/
abbrev arena_Arena_Uses.id : FuncId := 25
def arena_Arena_Uses.ann : Ann := (.seq none .leaf (.seq none .leaf .leaf))
set_option maxRecDepth 100000 in
def arena_Arena_Uses.pt (t0 t1 : Value) (K : Ret) (h : Heap) : Prop :=
 go (QCall Try.prog 28 [t0, t1, (.int .i64 2)]) h fun t7 h =>
 K t7 h
set_option maxRecDepth 100000 in
theorem arena_Arena_Uses.eq : (fun t0 t1 K h => arena_Arena_Uses.pt t0 t1 K h : Value → Value → Ret → Heap → Prop) = (fun t0 t1 K h => fnPt Try.prog [10, 13, 14, 15, 16, 17, 21, 25, 27, 28, 30] Try.f25 arena_Arena_Uses.ann [t0, t1] K h) := by kernel_rfl
set_option maxRecDepth 100000 in
theorem arena_Arena_Uses.ok {t0 t1 : Value} {K : Ret} {h : Heap} (hp : arena_Arena_Uses.pt t0 t1 K h) : CallH Try.prog 25 #[t0, t1] K h :=
  fn_sound (qs := [10, 13, 14, 15, 16, 17, 21, 25, 27, 28, 30]) (fn := Try.f25) (ann := arena_Arena_Uses.ann) (args := [t0, t1]) follows_mixed Try.func25 ((Eq.to_iff (congrFun (congrFun (congrFun (congrFun (arena_Arena_Uses.eq) t0) t1) K) h)).mp hp)

/-! ### (*bradawl/arena.Arena).SetUses: function 26 -/
abbrev arena_Arena_SetUses.id : FuncId := 26
def arena_Arena_SetUses.ann : Ann := (.seq none .leaf (.seq none .leaf .leaf))
set_option maxRecDepth 100000 in
def arena_Arena_SetUses.pt (t0 t1 t2 : Value) (K : Ret) (h : Heap) : Prop :=
 go (CallF Try.prog 32 [t0, t1, (.int .i64 2), t2]) h fun t10 h =>
 K t10 h
set_option maxRecDepth 100000 in
theorem arena_Arena_SetUses.eq : (fun t0 t1 t2 K h => arena_Arena_SetUses.pt t0 t1 t2 K h : Value → Value → Value → Ret → Heap → Prop) = (fun t0 t1 t2 K h => fnPt Try.prog [10, 13, 14, 15, 16, 17, 21, 25, 27, 28, 30] Try.f26 arena_Arena_SetUses.ann [t0, t1, t2] K h) := by kernel_rfl
set_option maxRecDepth 100000 in
theorem arena_Arena_SetUses.ok {t0 t1 t2 : Value} {K : Ret} {h : Heap} (hp : arena_Arena_SetUses.pt t0 t1 t2 K h) : CallH Try.prog 26 #[t0, t1, t2] K h :=
  fn_sound (qs := [10, 13, 14, 15, 16, 17, 21, 25, 27, 28, 30]) (fn := Try.f26) (ann := arena_Arena_SetUses.ann) (args := [t0, t1, t2]) follows_mixed Try.func26 ((Eq.to_iff (congrFun (congrFun (congrFun (congrFun (congrFun (arena_Arena_SetUses.eq) t0) t1) t2) K) h)).mp hp)

/-! ### bradawl/arena.fit: function 27 -/
abbrev arena_fit.id : FuncId := 27
def arena_fit.ann : Ann := (.seq none .leaf (.seq none .leaf .leaf))
set_option maxRecDepth 100000 in
def arena_fit.pt (t0 : Value) (K : Ret) (h : Heap) : Prop :=
 go (MaxV [t0, (.int .i64 0)]) h fun t4 h =>
 go (MinV [t4, (.int .i64 2147483647)]) h fun t5 h =>
 K t5 h
set_option maxRecDepth 100000 in
theorem arena_fit.eq : (fun t0 K h => arena_fit.pt t0 K h : Value → Ret → Heap → Prop) = (fun t0 K h => fnPt Try.prog [10, 13, 14, 15, 16, 17, 21, 25, 27, 28, 30] Try.f27 arena_fit.ann [t0] K h) := by kernel_rfl
set_option maxRecDepth 100000 in
theorem arena_fit.ok {t0 : Value} {K : Ret} {h : Heap} (hp : arena_fit.pt t0 K h) : CallH Try.prog 27 #[t0] K h :=
  fn_sound (qs := [10, 13, 14, 15, 16, 17, 21, 25, 27, 28, 30]) (fn := Try.f27) (ann := arena_fit.ann) (args := [t0]) follows_mixed Try.func27 ((Eq.to_iff (congrFun (congrFun (congrFun (arena_fit.eq) t0) K) h)).mp hp)

/-! ### (*bradawl/arena.Arena).get: function 28 -/
abbrev arena_Arena_get.id : FuncId := 28
def arena_Arena_get.ann : Ann := (.seq none .leaf (.seq none (.seq none .leaf (.cond (.seq none .leaf .leaf) .leaf)) (.seq none .leaf .leaf)))
set_option maxRecDepth 100000 in
def arena_Arena_get.pt (t0 t1 t2 : Value) (K : Ret) (h : Heap) : Prop :=
 go (QCall Try.prog 21 [t0, t1]) h fun t9 h =>
 go (Un .not t9) h fun t10 h =>
 If t10 (
 K (.int .i64 0) h) (
 go (NilC t0) h fun t12 h =>
 go (Fld 0 t12) h fun t13 h =>
 go (Ld t13) h fun t14 h =>
 go (Bin .int .add t1 t2) h fun t17 h =>
 go (Idx 1 t14 t17) h fun t18 h =>
 go (Ld t18) h fun t19 h =>
 K t19 h)
set_option maxRecDepth 100000 in
theorem arena_Arena_get.eq : (fun t0 t1 t2 K h => arena_Arena_get.pt t0 t1 t2 K h : Value → Value → Value → Ret → Heap → Prop) = (fun t0 t1 t2 K h => fnPt Try.prog [10, 13, 14, 15, 16, 17, 21, 25, 27, 28, 30] Try.f28 arena_Arena_get.ann [t0, t1, t2] K h) := by kernel_rfl
set_option maxRecDepth 100000 in
theorem arena_Arena_get.ok {t0 t1 t2 : Value} {K : Ret} {h : Heap} (hp : arena_Arena_get.pt t0 t1 t2 K h) : CallH Try.prog 28 #[t0, t1, t2] K h :=
  fn_sound (qs := [10, 13, 14, 15, 16, 17, 21, 25, 27, 28, 30]) (fn := Try.f28) (ann := arena_Arena_get.ann) (args := [t0, t1, t2]) follows_mixed Try.func28 ((Eq.to_iff (congrFun (congrFun (congrFun (congrFun (congrFun (arena_Arena_get.eq) t0) t1) t2) K) h)).mp hp)

/-! ### (*bradawl/arena.Arena).All$1: function 31 -/
abbrev arena_Arena_All_1.id : FuncId := 31
def arena_Arena_All_1.ann : Ann := (.seq none .leaf (.block (.loop [0, 1, 3] (.seq none (.seq none .leaf (.cond .leaf .leaf)) (.seq none (.block (.seq none .leaf (.cond .leaf .leaf))) .leaf)))))
set_option maxRecDepth 100000 in
def arena_Arena_All_1.pt (t0 t1 : Value) (K : Ret) (h : Heap) : Prop :=
 Lp 3 (fun X1 t0_1 t1_1 t3 h =>
 go (Ld t1_1) h fun t5 h =>
 go (NilC t5) h fun t6 h =>
 go (Fld 0 t6) h fun t7 h =>
 go (Ld t7) h fun t8 h =>
 go (Len t8) h fun t9 h =>
 go (Bin .int .lss t3 t9) h fun t10 h =>
 If t10 (
 go (Ld t1_1) h fun t23 h =>
 go (NilC t23) h fun t24 h =>
 go (Fld 0 t24) h fun t25 h =>
 go (Ld t25) h fun t26 h =>
 go (Bin .int .add t3 (.int .i64 0)) h fun t28 h =>
 go (Idx 1 t26 t28) h fun t29 h =>
 go (Ld t29) h fun t30 h =>
 go (Bin .int .and t30 (.int .i64 2199023255552)) h fun t31 h =>
 go (Bin .int .eql t31 (.int .i64 0)) h fun t32 h =>
 go (Gd t32 true (Mv t0_1)) h fun t34 h =>
 go (Gd t32 true (Mv t3)) h fun t35 h =>
 go (Gd t32 true (CallV Try.prog t34 [t35])) h fun t36 h =>
 go (Gd t32 true (Un .not t36)) h fun t37 h =>
 go (Pick t32 t37 (.bool false)) h fun t38 h =>
 If t38 (
 K (.tuple #[]) h) (
 go (Ld t1_1) h fun t12 h =>
 go (NilC t12) h fun t13 h =>
 go (Fld 0 t13) h fun t14 h =>
 go (Ld t14) h fun t15 h =>
 go (Bin .int .add t3 (.int .i64 0)) h fun t17 h =>
 go (Idx 1 t15 t17) h fun t18 h =>
 go (Ld t18) h fun t19 h =>
 go (Bin .int .and t19 (.int .i64 1099511627775)) h fun t20 h =>
 go (Bin .int .add (.int .i64 3) t20) h fun t21 h =>
 go (Bin .int .add t3 t21) h fun t22 h =>
 X1 t0_1 t1_1 t22 h)) (
 K (.tuple #[]) h)) [t0, t1, (.int .i64 0)] h
set_option maxRecDepth 100000 in
theorem arena_Arena_All_1.eq : (fun t0 t1 K h => arena_Arena_All_1.pt t0 t1 K h : Value → Value → Ret → Heap → Prop) = (fun t0 t1 K h => fnPt Try.prog [10, 13, 14, 15, 16, 17, 21, 25, 27, 28, 30] Try.f31 arena_Arena_All_1.ann [t0, t1] K h) := by kernel_rfl
set_option maxRecDepth 100000 in
theorem arena_Arena_All_1.ok {t0 t1 : Value} {K : Ret} {h : Heap} (hp : arena_Arena_All_1.pt t0 t1 K h) : CallH Try.prog 31 #[t0, t1] K h :=
  fn_sound (qs := [10, 13, 14, 15, 16, 17, 21, 25, 27, 28, 30]) (fn := Try.f31) (ann := arena_Arena_All_1.ann) (args := [t0, t1]) follows_mixed Try.func31 ((Eq.to_iff (congrFun (congrFun (congrFun (congrFun (arena_Arena_All_1.eq) t0) t1) K) h)).mp hp)

/-! ### (*bradawl/arena.Arena).set: function 32 -/
abbrev arena_Arena_set.id : FuncId := 32
def arena_Arena_set.ann : Ann := (.seq none .leaf (.seq none (.seq none .leaf (.cond (.seq none .leaf .leaf) .leaf)) (.seq none .leaf (.seq none .leaf .leaf))))
set_option maxRecDepth 100000 in
def arena_Arena_set.pt (t0 t1 t2 t3 : Value) (K : Ret) (h : Heap) : Prop :=
 go (QCall Try.prog 21 [t0, t1]) h fun t11 h =>
 go (Un .not t11) h fun t12 h =>
 If t12 (
 K (.bool false) h) (
 go (NilC t0) h fun t14 h =>
 go (Fld 0 t14) h fun t15 h =>
 go (Ld t15) h fun t16 h =>
 go (Bin .int .add t1 t2) h fun t19 h =>
 go (QCall Try.prog 27 [t3]) h fun t21 h =>
 go (Idx 1 t16 t19) h fun t22 h =>
 go (St t22 t21) h fun _ h =>
 K (.bool true) h)
set_option maxRecDepth 100000 in
theorem arena_Arena_set.eq : (fun t0 t1 t2 t3 K h => arena_Arena_set.pt t0 t1 t2 t3 K h : Value → Value → Value → Value → Ret → Heap → Prop) = (fun t0 t1 t2 t3 K h => fnPt Try.prog [10, 13, 14, 15, 16, 17, 21, 25, 27, 28, 30] Try.f32 arena_Arena_set.ann [t0, t1, t2, t3] K h) := by kernel_rfl
set_option maxRecDepth 100000 in
theorem arena_Arena_set.ok {t0 t1 t2 t3 : Value} {K : Ret} {h : Heap} (hp : arena_Arena_set.pt t0 t1 t2 t3 K h) : CallH Try.prog 32 #[t0, t1, t2, t3] K h :=
  fn_sound (qs := [10, 13, 14, 15, 16, 17, 21, 25, 27, 28, 30]) (fn := Try.f32) (ann := arena_Arena_set.ann) (args := [t0, t1, t2, t3]) follows_mixed Try.func32 ((Eq.to_iff (congrFun (congrFun (congrFun (congrFun (congrFun (congrFun (arena_Arena_set.eq) t0) t1) t2) t3) K) h)).mp hp)

end Go.Proofs.Ythekbpaekopmfaa
