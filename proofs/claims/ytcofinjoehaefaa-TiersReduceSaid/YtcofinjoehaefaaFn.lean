/- What each Go function asks, in the primitives of Pt; written by a program of mine (ptgen.py) out of the translation; Lean checks that it is so. -/
import Derived.Test.YtcofinjoehaefaaProg
import Derived.KernelRfl
import Derived.Test.YtcofinjoehaefaaPtO
namespace Go.Proofs.Ytcofinjoehaefaa
open Go.Pt
set_option linter.unusedVariables false
theorem follows_mixed : Try.prog.follows .mixedOrders = true := by kernel_rfl
/-! ### bradawl/bradawllaw20.TiersReduce: function 3 -/
abbrev bradawllaw20_TiersReduce.id : FuncId := 3
def bradawllaw20_TiersReduce.ann : Ann := (.seq none .leaf (.seq none (.seq none .leaf (.cond (.seq none .leaf .leaf) .leaf)) (.seq none (.seq none .leaf (.cond (.seq none .leaf .leaf) .leaf)) (.seq none .leaf (.seq none .leaf (.seq none .leaf (.seq none (.seq none .leaf (.block (.loop [3, 7, 8, 9, 10, 11, 55, 56, 57] (.seq none .leaf (.seq none (.cond .leaf .leaf) (.seq none (.block (.seq none .leaf .leaf)) .leaf)))))) (.seq none .leaf (.seq none .leaf (.seq none (.seq none .leaf (.block (.loop [3, 7, 8, 9, 10, 11, 14, 15, 67, 68, 69] (.seq none .leaf (.seq none (.cond .leaf .leaf) (.seq (some [3, 7, 8, 9, 10, 11, 14, 15, 67, 68, 69]) (.block (.seq none .leaf (.seq none .leaf (.seq none .leaf (.seq none .leaf (.block (.seq none .leaf (.cond .leaf (.seq none .leaf (.cond .leaf (.seq none .leaf (.cond .leaf (.seq none .leaf (.cond .leaf .leaf)))))))))))))) .leaf)))))) (.seq none .leaf (.seq none (.seq none .leaf (.cond (.seq none .leaf .leaf) .leaf)) (.seq none .leaf (.seq none (.seq none .leaf (.block (.loop [3, 9, 10, 11, 14, 15, 21, 125, 126, 127] (.seq none .leaf (.seq none (.cond .leaf .leaf) (.seq none (.block (.seq none .leaf (.seq none .leaf (.seq none (.seq none .leaf (.cond (.seq none .leaf .leaf) .leaf)) (.seq none (.seq none .leaf (.block (.loop [3, 9, 10, 11, 14, 15, 21, 24, 125, 126, 127, 145, 146, 147] (.seq none .leaf (.seq none (.cond .leaf .leaf) (.seq none (.block (.seq none .leaf (.seq none .leaf (.cond (.seq none .leaf .leaf) .leaf)))) .leaf)))))) .leaf))))) .leaf)))))) (.seq none (.seq none .leaf (.block (.loop [9, 14, 15, 21, 170, 171, 172] (.seq none .leaf (.seq none (.cond .leaf .leaf) (.seq none (.block (.seq none .leaf (.seq none .leaf (.cond (.seq none .leaf .leaf) .leaf)))) .leaf)))))) (.seq none (.seq none .leaf (.block (.loop [14, 202] (.seq none .leaf (.seq none (.cond .leaf .leaf) (.block (.seq none .leaf (.seq none .leaf (.seq none (.seq none .leaf (.block (.loop [14, 30, 31, 202, 207, 208, 209] (.seq none .leaf (.seq none (.cond .leaf .leaf) (.seq none (.block (.seq none .leaf .leaf)) .leaf)))))) (.seq none .leaf (.cond (.seq none .leaf .leaf) .leaf))))))))))) (.seq none .leaf .leaf)))))))))))))))))
set_option maxRecDepth 100000 in
def bradawllaw20_TiersReduce.pt (t0 t1 t2 : Value) (K : Ret) (h : Heap) : Prop :=
 go (New (Value.cells t0) 22) h fun t3 h =>
 go (CallF Try.prog 8 []) h fun t34 h =>
 go (Un .not t34) h fun t35 h =>
 If t35 (
 K (.bool false) h) (
 go (Ld t3) h fun t36 h =>
 go (Len t36) h fun t37 h =>
 go (Bin .int .gtr t37 (.int .i64 60)) h fun t38 h =>
 If t38 (
 K (.bool true) h) (
 go (Bin .int .rem t1 (.int .u8 10)) h fun t40 h =>
 go (Cvt .i64 t40) h fun t41 h =>
 go (Bin .int .rem t1 (.int .u8 10)) h fun t43 h =>
 go (Cvt .i64 t43) h fun t44 h =>
 go (Bin .int .rem t2 (.int .u8 10)) h fun t46 h =>
 go (Cvt .i64 t46) h fun t47 h =>
 go (Bin .int .add t44 t47) h fun t48 h =>
 go (Ld t3) h fun t50 h =>
 go (CallF Try.prog 9 [t50]) h fun t51 h =>
 go (Ext 0 t51) h fun t52 h =>
 go (Ext 1 t51) h fun t53 h =>
 go (MkM) h fun t54 h =>
 go (New #[(.map none)] 28) h fun t11 h =>
 go (St t11 t54) h fun _ h =>
 go (Len t53) h fun t56 h =>
 Lp 9 (fun X1 t3_1 t7 t8 t9 t10 t11_1 t55 t56_1 t57 h =>
 go (Bin .int .lss t57 t56_1) h fun t58 h =>
 If t58 (
 go (Idx 1 t55 t57) h fun t60 h =>
 go (Ld t60) h fun t61 h =>
 go (Ld t11_1) h fun t62 h =>
 go (MUpd t62 t61 t57) h fun _ h =>
 go (Bin .int .add t57 (.int .i64 1)) h fun t65 h =>
 X1 t3_1 t7 t8 t9 t10 t11_1 t55 t56_1 t65 h) (
 go (MkM) h fun t66 h =>
 go (Ld t3_1) h fun t67 h =>
 go (Len t67) h fun t68 h =>
 Lp 11 (fun X2 t3_2 t7_1 t8_1 t9_1 t10_1 t11_2 t14 t15 t67_1 t68_1 t69 h =>
 go (Bin .int .lss t69 t68_1) h fun t70 h =>
 If t70 (
 Join 11 (fun J3 =>
 go (Idx 5 t67_1 t69) h fun t72 h =>
 go (LdA 5 t72) h fun t73 h =>
 go (New #[(.bool false), (.int .u8 0), (.int .u8 0), (.int .u8 0), (.bool false)] 30) h fun t17 h =>
 go (StA 5 t17 t73) h fun _ h =>
 go (Fld 2 t17) h fun t74 h =>
 go (Ld t74) h fun t75 h =>
 go (Bin .int .rem t75 (.int .u8 4)) h fun t76 h =>
 go (Cvt .i64 t76) h fun t77 h =>
 go (LdA 5 t17) h fun t78 h =>
 go (CallF Try.prog 10 [t78, t7_1, t8_1]) h fun t81 h =>
 go (MUpd t15 t69 t77) h fun _ h =>
 go (Bin .int .lss t81 (.int .i64 1)) h fun t87 h =>
 If t87 (
 J3 t3_2 t7_1 t8_1 t9_1 t10_1 t11_2 t14 t15 t67_1 t68_1 t69 h) (
 go (Bin .int .gtr t77 (.int .i64 0)) h fun t90 h =>
 go (Gd t90 true (Mv t81)) h fun t92 h =>
 go (Gd t90 true (Bin .int .eql t92 (.int .i64 1))) h fun t93 h =>
 go (Pick t90 t93 (.bool false)) h fun t94 h =>
 If t94 (
 go (Bin .int .sub t77 (.int .i64 1)) h fun t98 h =>
 go (MUpd t15 t69 t98) h fun _ h =>
 J3 t3_2 t7_1 t8_1 t9_1 t10_1 t11_2 t14 t15 t67_1 t68_1 t69 h) (
 go (Bin .int .gtr t77 (.int .i64 0)) h fun t101 h =>
 If t101 (
 go (MUpd t15 t69 (.int .i64 0)) h fun _ h =>
 J3 t3_2 t7_1 t8_1 t9_1 t10_1 t11_2 t14 t15 t67_1 t68_1 t69 h) (
 go (Fld 4 t17) h fun t105 h =>
 go (Ld t105) h fun t106 h =>
 go (Un .not t106) h fun t107 h =>
 If t107 (
 go (BldS 3 1 1 #[(.int .i64 0)] [(0, t69)]) h fun t110 h =>
 go (App 3 1 8 #[(.int .i64 0)] t14 t110) h fun t111 h =>
 J3 t3_2 t7_1 t8_1 t9_1 t10_1 t11_2 t111 t15 t67_1 t68_1 t69 h) (
 J3 t3_2 t7_1 t8_1 t9_1 t10_1 t11_2 t14 t15 t67_1 t68_1 t69 h))))) (fun t3_3 t7_2 t8_2 t9_2 t10_2 t11_3 t14_1 t15_1 t67_2 t68_2 t69_1 h =>
 go (Bin .int .add t69_1 (.int .i64 1)) h fun t112 h =>
 X2 t3_3 t7_2 t8_2 t9_2 t10_2 t11_3 t14_1 t15_1 t67_2 t68_2 t112 h)) (
 go (CallF Try.prog 11 [t9_1, (.func (.func 12) #[] #[t3_2, t11_2]), t7_1, t8_1]) h fun t117 h =>
 go (Len t117) h fun t119 h =>
 go (Len t14) h fun t121 h =>
 go (Bin .int .quo t121 (.int .i64 2)) h fun t122 h =>
 go (Bin .int .neq t119 t122) h fun t123 h =>
 If t123 (
 K (.bool false) h) (
 go (MkM) h fun t124 h =>
 go (Len t117) h fun t126 h =>
 Lp 10 (fun X4 t3_4 t9_3 t10_3 t11_4 t14_2 t15_2 t21 t125 t126_1 t127 h =>
 go (Bin .int .lss t127 t126_1) h fun t128 h =>
 If t128 (
 go (Idx 1 t125 t127) h fun t129 h =>
 go (Ld t129) h fun t130 h =>
 go (Ld t11_4) h fun t132 h =>
 go (Lk (.int .i64 0) t132 t130 true) h fun t134 h =>
 go (Ext 0 t134) h fun t135 h =>
 go (Ext 1 t134) h fun t136 h =>
 go (Un .not t136) h fun t138 h =>
 go (Gd t138 false (Mv t21)) h fun t140 h =>
 go (Gd t138 false (Mv t135)) h fun t141 h =>
 go (Gd t138 false (Lk (.int .i64 0) t140 t141 false)) h fun t142 h =>
 go (Gd t138 false (Bin .int .gtr t142 (.int .i64 0))) h fun t143 h =>
 go (Pick t138 (.bool true) t143) h fun t144 h =>
 If t144 (
 K (.bool false) h) (
 go (Len t14_2) h fun t146 h =>
 Lp 14 (fun X5 t3_5 t9_4 t10_4 t11_5 t14_3 t15_3 t21_1 t24 t125_1 t126_2 t127_1 t145 t146_1 t147 h =>
 go (Bin .int .lss t147 t146_1) h fun t148 h =>
 If t148 (
 go (Idx 1 t145 t147) h fun t149 h =>
 go (Ld t149) h fun t150 h =>
 go (Lk (.int .i64 0) t21_1 t150 false) h fun t153 h =>
 go (Bin .int .eql t153 (.int .i64 0)) h fun t154 h =>
 go (Gd t154 true (Mv t150)) h fun t156 h =>
 go (Gd t154 true (Mv t24)) h fun t157 h =>
 go (Gd t154 true (Bin .int .neq t156 t157)) h fun t158 h =>
 go (Pick t154 t158 (.bool false)) h fun t159 h =>
 go (Gd t159 true (Ld t3_5)) h fun t161 h =>
 go (Gd t159 true (Mv t150)) h fun t162 h =>
 go (Gd t159 true (Mv t24)) h fun t163 h =>
 go (Gd t159 true (QCall Try.prog 13 [t161, t162, t163])) h fun t164 h =>
 go (Pick t159 t164 (.bool false)) h fun t165 h =>
 If t165 (
 K (.bool false) h) (
 go (Bin .int .add t147 (.int .i64 1)) h fun t166 h =>
 X5 t3_5 t9_4 t10_4 t11_5 t14_3 t15_3 t21_1 t24 t125_1 t126_2 t127_1 t145 t146_1 t166 h)) (
 go (MUpd t21_1 t24 (.int .i64 1)) h fun _ h =>
 go (Bin .int .add t127_1 (.int .i64 1)) h fun t169 h =>
 X4 t3_5 t9_4 t10_4 t11_5 t14_3 t15_3 t21_1 t125_1 t126_2 t169 h)) [t3_4, t9_3, t10_3, t11_4, t14_2, t15_2, t21, t135, t125, t126_1, t127, t14_2, t146, (.int .i64 0)] h)) (
 go (Len t10_3) h fun t171 h =>
 Lp 7 (fun X6 t9_5 t14_4 t15_4 t21_2 t170 t171_1 t172 h =>
 go (Bin .int .lss t172 t171_1) h fun t173 h =>
 If t173 (
 go (Idx 1 t170 t172) h fun t175 h =>
 go (Ld t175) h fun t176 h =>
 go (QCall Try.prog 14 [t9_5, t176]) h fun t179 h =>
 go (Lk (.int .i64 0) t21_2 t172 false) h fun t182 h =>
 go (Bin .int .gtr t182 (.int .i64 0)) h fun t183 h =>
 go (Bin .bool .eql t179 t183) h fun t184 h =>
 go (Gd t184 false (Mv t21_2)) h fun t186 h =>
 go (Gd t184 false (Mv t172)) h fun t187 h =>
 go (Gd t184 false (Lk (.int .i64 0) t186 t187 false)) h fun t188 h =>
 go (Gd t184 false (Bin .int .eql t188 (.int .i64 0))) h fun t189 h =>
 go (Gd t184 false (Mv t189)) h fun t190 h =>
 go (Gd t190 true (Mv t9_5)) h fun t191 h =>
 go (Gd t190 true (Mv t176)) h fun t192 h =>
 go (Gd t190 true (QCall Try.prog 15 [t191, t192])) h fun t193 h =>
 go (Gd t190 true (Mv t15_4)) h fun t194 h =>
 go (Gd t190 true (Mv t172)) h fun t195 h =>
 go (Gd t190 true (Lk (.int .i64 0) t194 t195 false)) h fun t196 h =>
 go (Gd t190 true (Bin .int .neq t193 t196)) h fun t197 h =>
 go (Gd t184 false (Pick t190 t197 (.bool false))) h fun t198 h =>
 go (Pick t184 (.bool true) t198) h fun t199 h =>
 If t199 (
 K (.bool false) h) (
 go (Bin .int .add t172 (.int .i64 1)) h fun t200 h =>
 X6 t9_5 t14_4 t15_4 t21_2 t170 t171_1 t200 h)) (
 go (RngM t21_2) h fun t202 h =>
 Lp 2 (fun X7 t14_5 t202_1 h =>
 go (NxtM t202_1) h fun t203 h =>
 go (Ext 0 t203) h fun t204 h =>
 If t204 (
 go (EntM t202_1) h fun t205 h =>
 go (Ext 0 t205) h fun t206 h =>
 go (Len t14_5) h fun t208 h =>
 Lp 7 (fun X8 t14_6 t30 t31 t202_2 t207 t208_1 t209 h =>
 go (Bin .int .lss t209 t208_1) h fun t210 h =>
 If t210 (
 go (Idx 1 t207 t209) h fun t211 h =>
 go (Ld t211) h fun t212 h =>
 go (Gd t31 false (Mv t212)) h fun t215 h =>
 go (Gd t31 false (Mv t30)) h fun t216 h =>
 go (Gd t31 false (Bin .int .eql t215 t216)) h fun t217 h =>
 go (Pick t31 (.bool true) t217) h fun t218 h =>
 go (Bin .int .add t209 (.int .i64 1)) h fun t219 h =>
 X8 t14_6 t30 t218 t202_2 t207 t208_1 t219 h) (
 go (Un .not t31) h fun t221 h =>
 If t221 (
 K (.bool false) h) (
 X7 t14_6 t202_2 h))) [t14_5, t206, (.bool false), t202_1, t14_5, t208, (.int .i64 0)] h) (
 K (.bool true) h)) [t14_4, t202] h)) [t9_3, t14_2, t15_2, t21, t10_3, t171, (.int .i64 0)] h)) [t3_2, t9_1, t10_1, t11_2, t14, t15, t124, t117, t126, (.int .i64 0)] h))) [t3_1, t7, t8, t9, t10, t11_1, (.slice none 0 0), t66, t67, t68, (.int .i64 0)] h)) [t3, t41, t48, t52, t53, t11, t53, t56, (.int .i64 0)] h))
set_option maxRecDepth 100000 in
theorem bradawllaw20_TiersReduce.eq : (fun t0 t1 t2 K h => bradawllaw20_TiersReduce.pt t0 t1 t2 K h : Value → Value → Value → Ret → Heap → Prop) = (fun t0 t1 t2 K h => fnPt Try.prog [14, 15, 16, 20, 24, 35, 38, 39, 40, 13, 33, 34] Try.f3 bradawllaw20_TiersReduce.ann [t0, t1, t2] K h) := by kernel_rfl
set_option maxRecDepth 100000 in
theorem bradawllaw20_TiersReduce.ok {t0 t1 t2 : Value} {K : Ret} {h : Heap} (hp : bradawllaw20_TiersReduce.pt t0 t1 t2 K h) : CallH Try.prog 3 #[t0, t1, t2] K h :=
  fn_sound (qs := [14, 15, 16, 20, 24, 35, 38, 39, 40, 13, 33, 34]) (fn := Try.f3) (ann := bradawllaw20_TiersReduce.ann) (args := [t0, t1, t2]) follows_mixed Try.func3 ((Eq.to_iff (congrFun (congrFun (congrFun (congrFun (congrFun (bradawllaw20_TiersReduce.eq) t0) t1) t2) K) h)).mp hp)

/-! ### bradawl/bradawllaw20.fit: function 8 -/
abbrev bradawllaw20_fit.id : FuncId := 8
def bradawllaw20_fit.ann : Ann := (.seq none .leaf (.seq none .leaf (.seq none (.seq none .leaf (.cond (.seq none .leaf .leaf) .leaf)) (.seq none (.seq none .leaf (.block (.loop [1, 7] (.seq none .leaf (.seq none (.cond .leaf .leaf) (.seq none (.block (.seq none .leaf .leaf)) .leaf)))))) (.seq none .leaf (.seq none .leaf .leaf))))))
set_option maxRecDepth 100000 in
def bradawllaw20_fit.pt (K : Ret) (h : Heap) : Prop :=
 go (CallF Try.prog 18 [(.int .i64 0)]) h fun t4 h =>
 go (Bin .pointer .eql t4 (.pointer none)) h fun t6 h =>
 If t6 (
 K (.bool false) h) (
 Lp 2 (fun X1 t1 t7 h =>
 go (Bin .int .lss t7 (.int .i64 4)) h fun t8 h =>
 If t8 (
 go (BldS 3 1 3 #[(.int .i64 0)] [(0, (.int .i64 1)), (1, (.int .i64 2)), (2, (.int .i64 3))]) h fun t11 h =>
 go (Bin .int .add (.int .i64 10) t7) h fun t13 h =>
 go (CallF Try.prog 19 [t1, t11, (.bool true), t13]) h fun t14 h =>
 go (Bin .int .add t7 (.int .i64 1)) h fun t15 h =>
 X1 t1 t15 h) (
 go (CallF Try.prog 11 [t1, (.func (.func 27) #[] #[]), (.int .i64 2), (.int .i64 6)]) h fun t17 h =>
 go (Len t17) h fun t19 h =>
 go (Bin .int .eql t19 (.int .i64 2)) h fun t20 h =>
 go (Gd t20 true (Mv t17)) h fun t22 h =>
 go (Gd t20 true (Idx 1 t22 (.int .i64 0))) h fun t23 h =>
 go (Gd t20 true (Ld t23)) h fun t24 h =>
 go (Gd t20 true (Bin .int .eql t24 (.int .i64 18))) h fun t25 h =>
 go (Pick t20 t25 (.bool false)) h fun t26 h =>
 go (Gd t26 true (Mv t17)) h fun t28 h =>
 go (Gd t26 true (Idx 1 t28 (.int .i64 1))) h fun t29 h =>
 go (Gd t26 true (Ld t29)) h fun t30 h =>
 go (Gd t26 true (Bin .int .eql t30 (.int .i64 12))) h fun t31 h =>
 go (Pick t26 t31 (.bool false)) h fun t32 h =>
 go (Gd t32 true (Mv t1)) h fun t34 h =>
 go (Gd t32 true (QCall Try.prog 24 [t34])) h fun t35 h =>
 go (Gd t32 true (Bin .int .eql t35 (.int .i64 2))) h fun t36 h =>
 go (Pick t32 t36 (.bool false)) h fun t37 h =>
 go (Gd t37 true (Mv t1)) h fun t39 h =>
 go (Gd t37 true (QCall Try.prog 16 [t39, (.int .i64 0), (.int .i64 2), (.int .i64 6)])) h fun t40 h =>
 go (Gd t37 true (Bin .int .eql t40 (.int .i64 2))) h fun t41 h =>
 go (Pick t37 t41 (.bool false)) h fun t42 h =>
 go (Gd t42 true (Mv t1)) h fun t44 h =>
 go (Gd t42 true (QCall Try.prog 16 [t44, (.int .i64 18), (.int .i64 2), (.int .i64 6)])) h fun t45 h =>
 go (Gd t42 true (Bin .int .eql t45 (.int .i64 (-1)))) h fun t46 h =>
 go (Pick t42 t46 (.bool false)) h fun t47 h =>
 go (Gd t47 true (Mv t1)) h fun t49 h =>
 go (Gd t47 true (CallF Try.prog 17 [t49, (.int .i64 0), (.int .i64 4)])) h fun t50 h =>
 go (Pick t47 t50 (.bool false)) h fun t51 h =>
 go (Gd t51 true (Mv t1)) h fun t53 h =>
 go (Gd t51 true (QCall Try.prog 20 [t53, (.int .i64 0)])) h fun t54 h =>
 go (Gd t51 true (Bin .int .eql t54 (.int .i64 4))) h fun t55 h =>
 go (Pick t51 t55 (.bool false)) h fun t56 h =>
 K t56 h)) [t4, (.int .i64 0)] h)
set_option maxRecDepth 100000 in
theorem bradawllaw20_fit.eq : (fun K h => bradawllaw20_fit.pt K h : Ret → Heap → Prop) = (fun K h => fnPt Try.prog [14, 15, 16, 20, 24, 35, 38, 39, 40, 13, 33, 34] Try.f8 bradawllaw20_fit.ann [] K h) := by kernel_rfl
set_option maxRecDepth 100000 in
theorem bradawllaw20_fit.ok {K : Ret} {h : Heap} (hp : bradawllaw20_fit.pt K h) : CallH Try.prog 8 #[] K h :=
  fn_sound (qs := [14, 15, 16, 20, 24, 35, 38, 39, 40, 13, 33, 34]) (fn := Try.f8) (ann := bradawllaw20_fit.ann) (args := []) follows_mixed Try.func8 ((Eq.to_iff (congrFun (congrFun (bradawllaw20_fit.eq) K) h)).mp hp)

/-! ### bradawl/bradawllaw20.begin: function 9 -/
abbrev bradawllaw20_begin.id : FuncId := 9
def bradawllaw20_begin.ann : Ann := (.seq none .leaf (.seq none .leaf (.seq none .leaf (.seq none (.seq none .leaf (.block (.loop [4, 5, 13, 14, 15] (.seq none .leaf (.seq none (.cond .leaf .leaf) (.seq none (.block (.seq none .leaf (.seq none .leaf (.seq none (.seq none .leaf (.block (.loop [4, 5, 7, 8, 13, 14, 15, 22, 23] (.seq none .leaf (.seq none (.cond .leaf .leaf) (.seq none (.block (.seq none .leaf .leaf)) .leaf)))))) (.seq none .leaf (.seq none .leaf .leaf)))))) .leaf)))))) (.seq none .leaf .leaf)))))
set_option maxRecDepth 100000 in
def bradawllaw20_begin.pt (t0 : Value) (K : Ret) (h : Heap) : Prop :=
 go (CallF Try.prog 18 [(.int .i64 0)]) h fun t12 h =>
 go (Len t0) h fun t14 h =>
 Lp 5 (fun X1 t4 t5 t13 t14_1 t15 h =>
 go (Bin .int .lss t15 t14_1) h fun t16 h =>
 If t16 (
 go (Idx 5 t13 t15) h fun t17 h =>
 go (LdA 5 t17) h fun t18 h =>
 go (New #[(.bool false), (.int .u8 0), (.int .u8 0), (.int .u8 0), (.bool false)] 30) h fun t7 h =>
 go (StA 5 t7 t18) h fun _ h =>
 go (Fld 3 t7) h fun t19 h =>
 go (Ld t19) h fun t20 h =>
 go (Bin .int .rem t20 (.int .u8 6)) h fun t21 h =>
 go (Cvt .i64 t21) h fun t22 h =>
 Lp 9 (fun X2 t4_1 t5_1 t7_1 t8 t13_1 t14_2 t15_1 t22_1 t23 h =>
 go (Bin .int .lss t23 t22_1) h fun t24 h =>
 If t24 (
 go (Bin .int .add t23 (.int .i64 1)) h fun t28 h =>
 go (BldS 3 1 1 #[(.int .i64 0)] [(0, t28)]) h fun t29 h =>
 go (App 3 1 8 #[(.int .i64 0)] t8 t29) h fun t30 h =>
 go (Bin .int .add t23 (.int .i64 1)) h fun t31 h =>
 X2 t4_1 t5_1 t7_1 t30 t13_1 t14_2 t15_1 t22_1 t31 h) (
 go (Fld 0 t7_1) h fun t35 h =>
 go (Ld t35) h fun t36 h =>
 go (Fld 1 t7_1) h fun t37 h =>
 go (Ld t37) h fun t38 h =>
 go (Bin .int .rem t38 (.int .u8 20)) h fun t39 h =>
 go (Cvt .i64 t39) h fun t40 h =>
 go (CallF Try.prog 19 [t4_1, t8, t36, t40]) h fun t41 h =>
 go (Ext 0 t41) h fun t42 h =>
 go (Ext 1 t41) h fun t43 h =>
 go (Fld 2 t7_1) h fun t46 h =>
 go (Ld t46) h fun t47 h =>
 go (Bin .int .rem t47 (.int .u8 4)) h fun t48 h =>
 go (Cvt .i64 t48) h fun t49 h =>
 go (CallF Try.prog 28 [t4_1, t42, t49]) h fun t50 h =>
 go (BldS 3 1 1 #[(.int .i64 0)] [(0, t42)]) h fun t53 h =>
 go (App 3 1 8 #[(.int .i64 0)] t5_1 t53) h fun t54 h =>
 go (Bin .int .add t15_1 (.int .i64 1)) h fun t55 h =>
 X1 t4_1 t54 t13_1 t14_2 t55 h)) [t4, t5, t7, (.slice none 0 0), t13, t14_1, t15, t22, (.int .i64 0)] h) (
 K (.tuple #[t4, t5]) h)) [t12, (.slice none 0 0), t0, t14, (.int .i64 0)] h
set_option maxRecDepth 100000 in
theorem bradawllaw20_begin.eq : (fun t0 K h => bradawllaw20_begin.pt t0 K h : Value → Ret → Heap → Prop) = (fun t0 K h => fnPt Try.prog [14, 15, 16, 20, 24, 35, 38, 39, 40, 13, 33, 34] Try.f9 bradawllaw20_begin.ann [t0] K h) := by kernel_rfl
set_option maxRecDepth 100000 in
theorem bradawllaw20_begin.ok {t0 : Value} {K : Ret} {h : Heap} (hp : bradawllaw20_begin.pt t0 K h) : CallH Try.prog 9 #[t0] K h :=
  fn_sound (qs := [14, 15, 16, 20, 24, 35, 38, 39, 40, 13, 33, 34]) (fn := Try.f9) (ann := bradawllaw20_begin.ann) (args := [t0]) follows_mixed Try.func9 ((Eq.to_iff (congrFun (congrFun (congrFun (bradawllaw20_begin.eq) t0) K) h)).mp hp)

/-! ### bradawl/bradawllaw20.tier: function 10 -/
abbrev bradawllaw20_tier.id : FuncId := 10
def bradawllaw20_tier.ann : Ann := (.seq none .leaf (.seq none .leaf (.seq none (.block (.seq none .leaf (.cond (.seq none .leaf .leaf) (.seq none .leaf (.cond (.seq none .leaf .leaf) (.seq none .leaf (.cond (.seq none .leaf .leaf) .leaf))))))) (.seq none .leaf .leaf))))
set_option maxRecDepth 100000 in
def bradawllaw20_tier.pt (t0 t1 t2 : Value) (K : Ret) (h : Heap) : Prop :=
 go (New (Value.cells t0) 30) h fun t3 h =>
 go (Fld 1 t3) h fun t8 h =>
 go (Ld t8) h fun t9 h =>
 go (Bin .int .rem t9 (.int .u8 20)) h fun t10 h =>
 go (Cvt .i64 t10) h fun t11 h =>
 go (Fld 0 t3) h fun t13 h =>
 go (Ld t13) h fun t14 h =>
 go (Un .not t14) h fun t15 h =>
 If t15 (
 K (.int .i64 (-1)) h) (
 go (Bin .int .leq t11 t1) h fun t19 h =>
 go (Gd t19 false (Fld 3 t3)) h fun t21 h =>
 go (Gd t19 false (Ld t21)) h fun t22 h =>
 go (Gd t19 false (Bin .int .rem t22 (.int .u8 6))) h fun t23 h =>
 go (Gd t19 false (Bin .int .leq t23 (.int .u8 2))) h fun t24 h =>
 go (Pick t19 (.bool true) t24) h fun t25 h =>
 If t25 (
 K (.int .i64 0) h) (
 go (Bin .int .leq t11 t2) h fun t29 h =>
 If t29 (
 K (.int .i64 1) h) (
 K (.int .i64 2) h)))
set_option maxRecDepth 100000 in
theorem bradawllaw20_tier.eq : (fun t0 t1 t2 K h => bradawllaw20_tier.pt t0 t1 t2 K h : Value → Value → Value → Ret → Heap → Prop) = (fun t0 t1 t2 K h => fnPt Try.prog [14, 15, 16, 20, 24, 35, 38, 39, 40, 13, 33, 34] Try.f10 bradawllaw20_tier.ann [t0, t1, t2] K h) := by kernel_rfl
set_option maxRecDepth 100000 in
theorem bradawllaw20_tier.ok {t0 t1 t2 : Value} {K : Ret} {h : Heap} (hp : bradawllaw20_tier.pt t0 t1 t2 K h) : CallH Try.prog 10 #[t0, t1, t2] K h :=
  fn_sound (qs := [14, 15, 16, 20, 24, 35, 38, 39, 40, 13, 33, 34]) (fn := Try.f10) (ann := bradawllaw20_tier.ann) (args := [t0, t1, t2]) follows_mixed Try.func10 ((Eq.to_iff (congrFun (congrFun (congrFun (congrFun (congrFun (bradawllaw20_tier.eq) t0) t1) t2) K) h)).mp hp)

/-! ### bradawl/tiers.Reduce: function 11 -/
abbrev tiers_Reduce.id : FuncId := 11
def tiers_Reduce.ann : Ann := (.seq none .leaf (.seq none .leaf (.seq (some [4, 9]) (.seq none .leaf (.block (.range .leaf (.block (.seq none .leaf (.seq none .leaf (.cond .leaf .leaf))))))) (.seq none .leaf (.seq none .leaf (.seq none (.seq none .leaf (.block (.loop [4, 12, 50, 51, 52] (.seq none .leaf (.seq none (.cond .leaf .leaf) (.seq none (.block (.seq none .leaf .leaf)) .leaf)))))) (.seq none .leaf .leaf)))))))
set_option maxRecDepth 100000 in
def tiers_Reduce.pt (t0 t1 t2 t3 : Value) (K : Ret) (h0 : Heap) : Prop :=
 ent h0 fun h =>
 go (New (Value.cells t0) 24) h fun t4 h =>
 go (New (Value.cells t1) 33) h fun t5 h =>
 go (New (Value.cells t2) 3) h fun t6 h =>
 go (New (Value.cells t3) 3) h fun t7 h =>
 go (New #[(.slice none 0 0)] 25) h fun t9 h =>
 Join 2 (fun J1 =>
 go (Ld t4) h fun t15 h =>
 go (CallF Try.prog 29 [t15]) h fun t16 h =>
 RngF Try.prog t16 1 (fun B2 N2 L2 => fun t17 h =>
 B2 (fun h =>
 go (Ld t4) h fun t18 h =>
 go (Ld t6) h fun t20 h =>
 go (Ld t7) h fun t21 h =>
 go (QCall Try.prog 16 [t18, t17, t20, t21]) h fun t22 h =>
 go (Bin .int .geq t22 (.int .i64 0)) h fun t24 h =>
 go (Gd t24 true (Ld t4)) h fun t26 h =>
 go (Gd t24 true (Mv t17)) h fun t27 h =>
 go (Gd t24 true (Mv t22)) h fun t28 h =>
 go (Gd t24 true (CallF Try.prog 30 [t26, t27, t28])) h fun t29 h =>
 go (Gd t24 true (Un .not t29)) h fun t30 h =>
 go (Pick t24 t30 (.bool false)) h fun t31 h =>
 go (Gd t31 true (Ld t5)) h fun t33 h =>
 go (Gd t31 true (Mv t17)) h fun t34 h =>
 go (Gd t31 true (CallV Try.prog t33 [t34])) h fun t35 h =>
 go (Gd t31 true (Un .not t35)) h fun t36 h =>
 go (Pick t31 t36 (.bool false)) h fun t37 h =>
 If t37 (
 go (Ld t9) h fun t38 h =>
 go (BldS 3 1 1 #[(.int .i64 0)] [(0, t17)]) h fun t40 h =>
 go (App 3 1 8 #[(.int .i64 0)] t38 t40) h fun t41 h =>
 go (St t9 t41) h fun _ h =>
 N2 h) (
 N2 h)) h) (fun h =>
 J1 t4 t9 h) (fun ex h => Ex.casesOn (motive := fun _ => Prop) ex False (fun id =>
 bif Nat.beq id 0 then (
 J1 t4 t9 h) else (
 False)) (
 Lv h0.size (fun h =>
 K (.slice none 0 0) h) h)) h) (fun t4_1 t9_1 h =>
 go (Ld t9_1) h fun t42 h =>
 go (CallF Try.prog 31 [t42, (.func (.func 32) #[] #[t4_1])]) h fun t44 h =>
 go (Ld t9_1) h fun t45 h =>
 go (Ld t9_1) h fun t46 h =>
 go (Len t46) h fun t47 h =>
 go (Bin .int .quo t47 (.int .i64 2)) h fun t48 h =>
 go (Slc 1 t45 none (some t48) none) h fun t49 h =>
 go (Len t49) h fun t51 h =>
 Lp 5 (fun X3 t4_2 t12 t50 t51_1 t52 h =>
 go (Bin .int .lss t52 t51_1) h fun t53 h =>
 If t53 (
 go (Idx 1 t50 t52) h fun t54 h =>
 go (Ld t54) h fun t55 h =>
 go (Ld t4_2) h fun t56 h =>
 go (CallF Try.prog 36 [t56, t55]) h fun t58 h =>
 go (Bin .int .add t52 (.int .i64 1)) h fun t59 h =>
 X3 t4_2 t12 t50 t51_1 t59 h) (
 go (CallF Try.prog 37 [t12]) h fun t61 h =>
 Lv h0.size (fun h =>
 K t61 h) h)) [t4_1, t49, t49, t51, (.int .i64 0)] h)
set_option maxRecDepth 100000 in
theorem tiers_Reduce.eq : (fun t0 t1 t2 t3 K h => tiers_Reduce.pt t0 t1 t2 t3 K h : Value → Value → Value → Value → Ret → Heap → Prop) = (fun t0 t1 t2 t3 K h => fnPt Try.prog [14, 15, 16, 20, 24, 35, 38, 39, 40, 13, 33, 34] Try.f11 tiers_Reduce.ann [t0, t1, t2, t3] K h) := by kernel_rfl
set_option maxRecDepth 100000 in
theorem tiers_Reduce.ok {t0 t1 t2 t3 : Value} {K : Ret} {h : Heap} (hp : tiers_Reduce.pt t0 t1 t2 t3 K h) : CallH Try.prog 11 #[t0, t1, t2, t3] K h :=
  fn_sound (qs := [14, 15, 16, 20, 24, 35, 38, 39, 40, 13, 33, 34]) (fn := Try.f11) (ann := tiers_Reduce.ann) (args := [t0, t1, t2, t3]) follows_mixed Try.func11 ((Eq.to_iff (congrFun (congrFun (congrFun (congrFun (congrFun (congrFun (tiers_Reduce.eq) t0) t1) t2) t3) K) h)).mp hp)

/-! ### bradawl/bradawllaw20.TiersReduce$1: function 12 -/
abbrev bradawllaw20_TiersReduce_1.id : FuncId := 12
def bradawllaw20_TiersReduce_1.ann : Ann := (.seq none .leaf (.seq none .leaf .leaf))
set_option maxRecDepth 100000 in
def bradawllaw20_TiersReduce_1.pt (t0 t1 t2 : Value) (K : Ret) (h : Heap) : Prop :=
 go (Ld t1) h fun t5 h =>
 go (Ld t2) h fun t6 h =>
 go (Lk (.int .i64 0) t6 t0 false) h fun t8 h =>
 go (Idx 5 t5 t8) h fun t9 h =>
 go (Fld 4 t9) h fun t10 h =>
 go (Ld t10) h fun t11 h =>
 K t11 h
set_option maxRecDepth 100000 in
theorem bradawllaw20_TiersReduce_1.eq : (fun t0 t1 t2 K h => bradawllaw20_TiersReduce_1.pt t0 t1 t2 K h : Value → Value → Value → Ret → Heap → Prop) = (fun t0 t1 t2 K h => fnPt Try.prog [14, 15, 16, 20, 24, 35, 38, 39, 40, 13, 33, 34] Try.f12 bradawllaw20_TiersReduce_1.ann [t0, t1, t2] K h) := by kernel_rfl
set_option maxRecDepth 100000 in
theorem bradawllaw20_TiersReduce_1.ok {t0 t1 t2 : Value} {K : Ret} {h : Heap} (hp : bradawllaw20_TiersReduce_1.pt t0 t1 t2 K h) : CallH Try.prog 12 #[t0, t1, t2] K h :=
  fn_sound (qs := [14, 15, 16, 20, 24, 35, 38, 39, 40, 13, 33, 34]) (fn := Try.f12) (ann := bradawllaw20_TiersReduce_1.ann) (args := [t0, t1, t2]) follows_mixed Try.func12 ((Eq.to_iff (congrFun (congrFun (congrFun (congrFun (congrFun (bradawllaw20_TiersReduce_1.eq) t0) t1) t2) K) h)).mp hp)

/-! ### bradawl/bradawllaw20.worse: function 13 -/
abbrev bradawllaw20_worse.id : FuncId := 13
def bradawllaw20_worse.ann : Ann := (.seq none .leaf (.seq none (.seq none .leaf (.seq none .leaf (.cond (.seq none .leaf .leaf) .leaf))) (.seq none (.seq none .leaf (.seq none .leaf (.cond (.seq none .leaf .leaf) .leaf))) (.seq none .leaf .leaf))))
set_option maxRecDepth 100000 in
def bradawllaw20_worse.pt (t0 t1 t2 : Value) (K : Ret) (h : Heap) : Prop :=
 go (Idx 5 t0 t1) h fun t13 h =>
 go (Fld 1 t13) h fun t14 h =>
 go (Ld t14) h fun t15 h =>
 go (Bin .int .rem t15 (.int .u8 20)) h fun t16 h =>
 go (Idx 5 t0 t2) h fun t19 h =>
 go (Fld 1 t19) h fun t20 h =>
 go (Ld t20) h fun t21 h =>
 go (Bin .int .rem t21 (.int .u8 20)) h fun t22 h =>
 go (Bin .int .neq t16 t22) h fun t25 h =>
 If t25 (
 go (Bin .int .gtr t16 t22) h fun t28 h =>
 K t28 h) (
 go (Idx 5 t0 t1) h fun t31 h =>
 go (Fld 3 t31) h fun t32 h =>
 go (Ld t32) h fun t33 h =>
 go (Bin .int .rem t33 (.int .u8 6)) h fun t34 h =>
 go (Idx 5 t0 t2) h fun t37 h =>
 go (Fld 3 t37) h fun t38 h =>
 go (Ld t38) h fun t39 h =>
 go (Bin .int .rem t39 (.int .u8 6)) h fun t40 h =>
 go (Bin .int .neq t34 t40) h fun t43 h =>
 If t43 (
 go (Bin .int .gtr t34 t40) h fun t46 h =>
 K t46 h) (
 go (Bin .int .lss t1 t2) h fun t49 h =>
 K t49 h))
set_option maxRecDepth 100000 in
theorem bradawllaw20_worse.eq : (fun t0 t1 t2 K h => bradawllaw20_worse.pt t0 t1 t2 K h : Value → Value → Value → Ret → Heap → Prop) = (fun t0 t1 t2 K h => fnPt Try.prog [14, 15, 16, 20, 24, 35, 38, 39, 40, 13, 33, 34] Try.f13 bradawllaw20_worse.ann [t0, t1, t2] K h) := by kernel_rfl
set_option maxRecDepth 100000 in
theorem bradawllaw20_worse.ok {t0 t1 t2 : Value} {K : Ret} {h : Heap} (hp : bradawllaw20_worse.pt t0 t1 t2 K h) : CallH Try.prog 13 #[t0, t1, t2] K h :=
  fn_sound (qs := [14, 15, 16, 20, 24, 35, 38, 39, 40, 13, 33, 34]) (fn := Try.f13) (ann := bradawllaw20_worse.ann) (args := [t0, t1, t2]) follows_mixed Try.func13 ((Eq.to_iff (congrFun (congrFun (congrFun (congrFun (congrFun (bradawllaw20_worse.eq) t0) t1) t2) K) h)).mp hp)

/-! ### (*bradawl/arena.Arena).Has: function 14 -/
abbrev arena_Arena_Has.id : FuncId := 14
def arena_Arena_Has.ann : Ann := (.seq none .leaf (.seq none .leaf .leaf))
set_option maxRecDepth 100000 in
def arena_Arena_Has.pt (t0 t1 : Value) (K : Ret) (h : Heap) : Prop :=
 go (NilC t0) h fun t6 h =>
 go (Fld 3 t6) h fun t7 h =>
 go (Ld t7) h fun t8 h =>
 go (Lk (.bool false) t8 t1 false) h fun t10 h =>
 K t10 h
set_option maxRecDepth 100000 in
theorem arena_Arena_Has.eq : (fun t0 t1 K h => arena_Arena_Has.pt t0 t1 K h : Value → Value → Ret → Heap → Prop) = (fun t0 t1 K h => fnPt Try.prog [14, 15, 16, 20, 24, 35, 38, 39, 40, 13, 33, 34] Try.f14 arena_Arena_Has.ann [t0, t1] K h) := by kernel_rfl
set_option maxRecDepth 100000 in
theorem arena_Arena_Has.ok {t0 t1 : Value} {K : Ret} {h : Heap} (hp : arena_Arena_Has.pt t0 t1 K h) : CallH Try.prog 14 #[t0, t1] K h :=
  fn_sound (qs := [14, 15, 16, 20, 24, 35, 38, 39, 40, 13, 33, 34]) (fn := Try.f14) (ann := arena_Arena_Has.ann) (args := [t0, t1]) follows_mixed Try.func14 ((Eq.to_iff (congrFun (congrFun (congrFun (congrFun (arena_Arena_Has.eq) t0) t1) K) h)).mp hp)

/-! ### (*bradawl/arena.Arena).Uses: function 15 -/
abbrev arena_Arena_Uses.id : FuncId := 15
def arena_Arena_Uses.ann : Ann := (.seq none .leaf (.seq none .leaf .leaf))
set_option maxRecDepth 100000 in
def arena_Arena_Uses.pt (t0 t1 : Value) (K : Ret) (h : Heap) : Prop :=
 go (QCall Try.prog 38 [t0, t1, (.int .i64 2)]) h fun t7 h =>
 K t7 h
set_option maxRecDepth 100000 in
theorem arena_Arena_Uses.eq : (fun t0 t1 K h => arena_Arena_Uses.pt t0 t1 K h : Value → Value → Ret → Heap → Prop) = (fun t0 t1 K h => fnPt Try.prog [14, 15, 16, 20, 24, 35, 38, 39, 40, 13, 33, 34] Try.f15 arena_Arena_Uses.ann [t0, t1] K h) := by kernel_rfl
set_option maxRecDepth 100000 in
theorem arena_Arena_Uses.ok {t0 t1 : Value} {K : Ret} {h : Heap} (hp : arena_Arena_Uses.pt t0 t1 K h) : CallH Try.prog 15 #[t0, t1] K h :=
  fn_sound (qs := [14, 15, 16, 20, 24, 35, 38, 39, 40, 13, 33, 34]) (fn := Try.f15) (ann := arena_Arena_Uses.ann) (args := [t0, t1]) follows_mixed Try.func15 ((Eq.to_iff (congrFun (congrFun (congrFun (congrFun (arena_Arena_Uses.eq) t0) t1) K) h)).mp hp)

/-! ### bradawl/tiers.Tier: function 16 -/
abbrev tiers_Tier.id : FuncId := 16
def tiers_Tier.ann : Ann := (.seq none .leaf (.seq none (.block (.seq none .leaf (.cond (.seq none .leaf .leaf) (.seq none .leaf (.cond (.seq none .leaf .leaf) (.seq none .leaf (.cond (.seq none .leaf .leaf) .leaf))))))) (.seq none .leaf .leaf)))
set_option maxRecDepth 100000 in
def tiers_Tier.pt (t0 t1 t2 t3 : Value) (K : Ret) (h : Heap) : Prop :=
 go (QCall Try.prog 39 [t0, t1]) h fun t12 h =>
 go (Un .not t12) h fun t13 h =>
 If t13 (
 K (.int .i64 (-1)) h) (
 go (QCall Try.prog 20 [t0, t1]) h fun t17 h =>
 go (Bin .int .leq t17 t2) h fun t19 h =>
 go (Gd t19 false (Mv t0)) h fun t21 h =>
 go (Gd t19 false (Mv t1)) h fun t22 h =>
 go (Gd t19 false (QCall Try.prog 35 [t21, t22])) h fun t23 h =>
 go (Gd t19 false (Bin .int .leq t23 (.int .i64 2))) h fun t24 h =>
 go (Pick t19 (.bool true) t24) h fun t25 h =>
 If t25 (
 K (.int .i64 0) h) (
 go (QCall Try.prog 20 [t0, t1]) h fun t29 h =>
 go (Bin .int .leq t29 t3) h fun t31 h =>
 If t31 (
 K (.int .i64 1) h) (
 K (.int .i64 2) h)))
set_option maxRecDepth 100000 in
theorem tiers_Tier.eq : (fun t0 t1 t2 t3 K h => tiers_Tier.pt t0 t1 t2 t3 K h : Value → Value → Value → Value → Ret → Heap → Prop) = (fun t0 t1 t2 t3 K h => fnPt Try.prog [14, 15, 16, 20, 24, 35, 38, 39, 40, 13, 33, 34] Try.f16 tiers_Tier.ann [t0, t1, t2, t3] K h) := by kernel_rfl
set_option maxRecDepth 100000 in
theorem tiers_Tier.ok {t0 t1 t2 t3 : Value} {K : Ret} {h : Heap} (hp : tiers_Tier.pt t0 t1 t2 t3 K h) : CallH Try.prog 16 #[t0, t1, t2, t3] K h :=
  fn_sound (qs := [14, 15, 16, 20, 24, 35, 38, 39, 40, 13, 33, 34]) (fn := Try.f16) (ann := tiers_Tier.ann) (args := [t0, t1, t2, t3]) follows_mixed Try.func16 ((Eq.to_iff (congrFun (congrFun (congrFun (congrFun (congrFun (congrFun (tiers_Tier.eq) t0) t1) t2) t3) K) h)).mp hp)

/-! ### bradawl/tiers.Used: function 17 -/
abbrev tiers_Used.id : FuncId := 17
def tiers_Used.ann : Ann := (.seq none .leaf (.seq none (.seq none .leaf (.cond (.seq none .leaf .leaf) .leaf)) (.seq none .leaf (.seq none .leaf .leaf))))
set_option maxRecDepth 100000 in
def tiers_Used.pt (t0 t1 t2 : Value) (K : Ret) (h : Heap) : Prop :=
 go (QCall Try.prog 39 [t0, t1]) h fun t9 h =>
 go (Un .not t9) h fun t10 h =>
 If t10 (
 K (.bool false) h) (
 go (CallF Try.prog 28 [t0, t1, (.int .i64 2)]) h fun t13 h =>
 go (QCall Try.prog 20 [t0, t1]) h fun t18 h =>
 go (MaxV [t2, (.int .i64 0)]) h fun t20 h =>
 go (MinV [t18, t20]) h fun t21 h =>
 go (CallF Try.prog 21 [t0, t1, t21]) h fun t22 h =>
 K t22 h)
set_option maxRecDepth 100000 in
theorem tiers_Used.eq : (fun t0 t1 t2 K h => tiers_Used.pt t0 t1 t2 K h : Value → Value → Value → Ret → Heap → Prop) = (fun t0 t1 t2 K h => fnPt Try.prog [14, 15, 16, 20, 24, 35, 38, 39, 40, 13, 33, 34] Try.f17 tiers_Used.ann [t0, t1, t2] K h) := by kernel_rfl
set_option maxRecDepth 100000 in
theorem tiers_Used.ok {t0 t1 t2 : Value} {K : Ret} {h : Heap} (hp : tiers_Used.pt t0 t1 t2 K h) : CallH Try.prog 17 #[t0, t1, t2] K h :=
  fn_sound (qs := [14, 15, 16, 20, 24, 35, 38, 39, 40, 13, 33, 34]) (fn := Try.f17) (ann := tiers_Used.ann) (args := [t0, t1, t2]) follows_mixed Try.func17 ((Eq.to_iff (congrFun (congrFun (congrFun (congrFun (congrFun (tiers_Used.eq) t0) t1) t2) K) h)).mp hp)

/-! ### bradawl/arena.New: function 18 -/
abbrev arena_New.id : FuncId := 18
def arena_New.ann : Ann := (.seq none .leaf (.seq none .leaf .leaf))
set_option maxRecDepth 100000 in
def arena_New.pt (t0 : Value) (K : Ret) (h : Heap) : Prop :=
 go (MkM) h fun t4 h =>
 go (Bld [(0, 1), (1, 1), (2, 1), (3, 1)] #[(.slice none 0 0), (.int .i64 0), (.int .i64 0), (.map none)] [(1, t0), (3, t4)]) h fun t5 h =>
 go (New (Value.cells t5) 59) h fun t6 h =>
 K t6 h
set_option maxRecDepth 100000 in
theorem arena_New.eq : (fun t0 K h => arena_New.pt t0 K h : Value → Ret → Heap → Prop) = (fun t0 K h => fnPt Try.prog [14, 15, 16, 20, 24, 35, 38, 39, 40, 13, 33, 34] Try.f18 arena_New.ann [t0] K h) := by kernel_rfl
set_option maxRecDepth 100000 in
theorem arena_New.ok {t0 : Value} {K : Ret} {h : Heap} (hp : arena_New.pt t0 K h) : CallH Try.prog 18 #[t0] K h :=
  fn_sound (qs := [14, 15, 16, 20, 24, 35, 38, 39, 40, 13, 33, 34]) (fn := Try.f18) (ann := arena_New.ann) (args := [t0]) follows_mixed Try.func18 ((Eq.to_iff (congrFun (congrFun (congrFun (arena_New.eq) t0) K) h)).mp hp)

/-! ### (*bradawl/arena.Arena).Add: function 19 -/
abbrev arena_Arena_Add.id : FuncId := 19
def arena_Arena_Add.ann : Ann := (.seq none .leaf (.seq none .leaf (.seq none (.seq none .leaf (.cond (.seq none .leaf .leaf) .leaf)) (.seq none .leaf (.seq (some [0, 1, 3, 10, 11]) (.seq none .leaf (.cond .leaf .leaf)) (.seq none .leaf (.seq none .leaf (.seq none .leaf (.seq none .leaf .leaf)))))))))
set_option maxRecDepth 100000 in
def arena_Arena_Add.pt (t0 t1 t2 t3 : Value) (K : Ret) (h : Heap) : Prop :=
 go (NilC t0) h fun t13 h =>
 go (Fld 0 t13) h fun t14 h =>
 go (Ld t14) h fun t15 h =>
 go (Len t15) h fun t16 h =>
 go (NilC t0) h fun t18 h =>
 go (Fld 1 t18) h fun t19 h =>
 go (Ld t19) h fun t20 h =>
 go (Bin .int .gtr t20 (.int .i64 0)) h fun t21 h =>
 go (Gd t21 true (Mv t16)) h fun t23 h =>
 go (Gd t21 true (Bin .int .add t23 (.int .i64 3))) h fun t24 h =>
 go (Gd t21 true (Mv t1)) h fun t25 h =>
 go (Gd t21 true (Len t25)) h fun t26 h =>
 go (Gd t21 true (Bin .int .add t24 t26)) h fun t27 h =>
 go (Gd t21 true (Mv t0)) h fun t28 h =>
 go (Gd t21 true (NilC t28)) h fun t29 h =>
 go (Gd t21 true (Fld 1 t29)) h fun t30 h =>
 go (Gd t21 true (Ld t30)) h fun t31 h =>
 go (Gd t21 true (Bin .int .gtr t27 t31)) h fun t32 h =>
 go (Pick t21 t32 (.bool false)) h fun t33 h =>
 If t33 (
 K (.tuple #[(.int .i64 0), (.bool false)]) h) (
 go (Len t1) h fun t35 h =>
 Join 5 (fun J1 =>
 If t2 (
 go (Bin .int .or t35 (.int .i64 1099511627776)) h fun t38 h =>
 J1 t0 t1 t3 t16 t38 h) (
 J1 t0 t1 t3 t16 t35 h)) (fun t0_1 t1_1 t3_1 t10 t11 h =>
 go (NilC t0_1) h fun t41 h =>
 go (Fld 0 t41) h fun t42 h =>
 go (Ld t42) h fun t43 h =>
 go (QCall Try.prog 40 [t3_1]) h fun t46 h =>
 go (BldS 3 1 3 #[(.int .i64 0)] [(0, t11), (1, t46), (2, (.int .i64 0))]) h fun t47 h =>
 go (App 3 1 8 #[(.int .i64 0)] t43 t47) h fun t48 h =>
 go (App 3 1 8 #[(.int .i64 0)] t48 t1_1) h fun t50 h =>
 go (NilC t0_1) h fun t51 h =>
 go (Fld 0 t51) h fun t52 h =>
 go (St t52 t50) h fun _ h =>
 go (NilC t0_1) h fun t54 h =>
 go (Fld 2 t54) h fun t55 h =>
 go (Ld t55) h fun t56 h =>
 go (Bin .int .add t56 (.int .i64 1)) h fun t57 h =>
 go (NilC t0_1) h fun t58 h =>
 go (Fld 2 t58) h fun t59 h =>
 go (St t59 t57) h fun _ h =>
 go (NilC t0_1) h fun t61 h =>
 go (Fld 3 t61) h fun t62 h =>
 go (Ld t62) h fun t63 h =>
 go (MUpd t63 t10 (.bool true)) h fun _ h =>
 K (.tuple #[t10, (.bool true)]) h))
set_option maxRecDepth 100000 in
theorem arena_Arena_Add.eq : (fun t0 t1 t2 t3 K h => arena_Arena_Add.pt t0 t1 t2 t3 K h : Value → Value → Value → Value → Ret → Heap → Prop) = (fun t0 t1 t2 t3 K h => fnPt Try.prog [14, 15, 16, 20, 24, 35, 38, 39, 40, 13, 33, 34] Try.f19 arena_Arena_Add.ann [t0, t1, t2, t3] K h) := by kernel_rfl
set_option maxRecDepth 100000 in
theorem arena_Arena_Add.ok {t0 t1 t2 t3 : Value} {K : Ret} {h : Heap} (hp : arena_Arena_Add.pt t0 t1 t2 t3 K h) : CallH Try.prog 19 #[t0, t1, t2, t3] K h :=
  fn_sound (qs := [14, 15, 16, 20, 24, 35, 38, 39, 40, 13, 33, 34]) (fn := Try.f19) (ann := arena_Arena_Add.ann) (args := [t0, t1, t2, t3]) follows_mixed Try.func19 ((Eq.to_iff (congrFun (congrFun (congrFun (congrFun (congrFun (congrFun (arena_Arena_Add.eq) t0) t1) t2) t3) K) h)).mp hp)

/-! ### (*bradawl/arena.Arena).Glue: function 20 -/
abbrev arena_Arena_Glue.id : FuncId := 20
def arena_Arena_Glue.ann : Ann := (.seq none .leaf (.seq none .leaf .leaf))
set_option maxRecDepth 100000 in
def arena_Arena_Glue.pt (t0 t1 : Value) (K : Ret) (h : Heap) : Prop :=
 go (QCall Try.prog 38 [t0, t1, (.int .i64 1)]) h fun t7 h =>
 K t7 h
set_option maxRecDepth 100000 in
theorem arena_Arena_Glue.eq : (fun t0 t1 K h => arena_Arena_Glue.pt t0 t1 K h : Value → Value → Ret → Heap → Prop) = (fun t0 t1 K h => fnPt Try.prog [14, 15, 16, 20, 24, 35, 38, 39, 40, 13, 33, 34] Try.f20 arena_Arena_Glue.ann [t0, t1] K h) := by kernel_rfl
set_option maxRecDepth 100000 in
theorem arena_Arena_Glue.ok {t0 t1 : Value} {K : Ret} {h : Heap} (hp : arena_Arena_Glue.pt t0 t1 K h) : CallH Try.prog 20 #[t0, t1] K h :=
  fn_sound (qs := [14, 15, 16, 20, 24, 35, 38, 39, 40, 13, 33, 34]) (fn := Try.f20) (ann := arena_Arena_Glue.ann) (args := [t0, t1]) follows_mixed Try.func20 ((Eq.to_iff (congrFun (congrFun (congrFun (congrFun (arena_Arena_Glue.eq) t0) t1) K) h)).mp hp)

/-! ### (*bradawl/arena.Arena).SetGlue: function 21 -/
abbrev arena_Arena_SetGlue.id : FuncId := 21
def arena_Arena_SetGlue.ann : Ann := (.seq none .leaf (.seq none .leaf .leaf))
set_option maxRecDepth 100000 in
def arena_Arena_SetGlue.pt (t0 t1 t2 : Value) (K : Ret) (h : Heap) : Prop :=
 go (CallF Try.prog 41 [t0, t1, (.int .i64 1), t2]) h fun t10 h =>
 K t10 h
set_option maxRecDepth 100000 in
theorem arena_Arena_SetGlue.eq : (fun t0 t1 t2 K h => arena_Arena_SetGlue.pt t0 t1 t2 K h : Value → Value → Value → Ret → Heap → Prop) = (fun t0 t1 t2 K h => fnPt Try.prog [14, 15, 16, 20, 24, 35, 38, 39, 40, 13, 33, 34] Try.f21 arena_Arena_SetGlue.ann [t0, t1, t2] K h) := by kernel_rfl
set_option maxRecDepth 100000 in
theorem arena_Arena_SetGlue.ok {t0 t1 t2 : Value} {K : Ret} {h : Heap} (hp : arena_Arena_SetGlue.pt t0 t1 t2 K h) : CallH Try.prog 21 #[t0, t1, t2] K h :=
  fn_sound (qs := [14, 15, 16, 20, 24, 35, 38, 39, 40, 13, 33, 34]) (fn := Try.f21) (ann := arena_Arena_SetGlue.ann) (args := [t0, t1, t2]) follows_mixed Try.func21 ((Eq.to_iff (congrFun (congrFun (congrFun (congrFun (congrFun (arena_Arena_SetGlue.eq) t0) t1) t2) K) h)).mp hp)

/-! ### (*bradawl/arena.Arena).Count: function 24 -/
abbrev arena_Arena_Count.id : FuncId := 24
def arena_Arena_Count.ann : Ann := (.seq none .leaf (.seq none .leaf .leaf))
set_option maxRecDepth 100000 in
def arena_Arena_Count.pt (t0 : Value) (K : Ret) (h : Heap) : Prop :=
 go (NilC t0) h fun t4 h =>
 go (Fld 2 t4) h fun t5 h =>
 go (Ld t5) h fun t6 h =>
 K t6 h
set_option maxRecDepth 100000 in
theorem arena_Arena_Count.eq : (fun t0 K h => arena_Arena_Count.pt t0 K h : Value → Ret → Heap → Prop) = (fun t0 K h => fnPt Try.prog [14, 15, 16, 20, 24, 35, 38, 39, 40, 13, 33, 34] Try.f24 arena_Arena_Count.ann [t0] K h) := by kernel_rfl
set_option maxRecDepth 100000 in
theorem arena_Arena_Count.ok {t0 : Value} {K : Ret} {h : Heap} (hp : arena_Arena_Count.pt t0 K h) : CallH Try.prog 24 #[t0] K h :=
  fn_sound (qs := [14, 15, 16, 20, 24, 35, 38, 39, 40, 13, 33, 34]) (fn := Try.f24) (ann := arena_Arena_Count.ann) (args := [t0]) follows_mixed Try.func24 ((Eq.to_iff (congrFun (congrFun (congrFun (arena_Arena_Count.eq) t0) K) h)).mp hp)

/-! ### bradawl/bradawllaw20.fit$1: function 27 -/
abbrev bradawllaw20_fit_1.id : FuncId := 27
def bradawllaw20_fit_1.ann : Ann := (.seq none .leaf (.seq none .leaf .leaf))
set_option maxRecDepth 100000 in
def bradawllaw20_fit_1.pt (t0 : Value) (K : Ret) (h : Heap) : Prop :=
 K (.bool false) h
set_option maxRecDepth 100000 in
theorem bradawllaw20_fit_1.eq : (fun t0 K h => bradawllaw20_fit_1.pt t0 K h : Value → Ret → Heap → Prop) = (fun t0 K h => fnPt Try.prog [14, 15, 16, 20, 24, 35, 38, 39, 40, 13, 33, 34] Try.f27 bradawllaw20_fit_1.ann [t0] K h) := by kernel_rfl
set_option maxRecDepth 100000 in
theorem bradawllaw20_fit_1.ok {t0 : Value} {K : Ret} {h : Heap} (hp : bradawllaw20_fit_1.pt t0 K h) : CallH Try.prog 27 #[t0] K h :=
  fn_sound (qs := [14, 15, 16, 20, 24, 35, 38, 39, 40, 13, 33, 34]) (fn := Try.f27) (ann := bradawllaw20_fit_1.ann) (args := [t0]) follows_mixed Try.func27 ((Eq.to_iff (congrFun (congrFun (congrFun (bradawllaw20_fit_1.eq) t0) K) h)).mp hp)

/-! ### (*bradawl/arena.Arena).SetUses: function 28 -/
abbrev arena_Arena_SetUses.id : FuncId := 28
def arena_Arena_SetUses.ann : Ann := (.seq none .leaf (.seq none .leaf .leaf))
set_option maxRecDepth 100000 in
def arena_Arena_SetUses.pt (t0 t1 t2 : Value) (K : Ret) (h : Heap) : Prop :=
 go (CallF Try.prog 41 [t0, t1, (.int .i64 2), t2]) h fun t10 h =>
 K t10 h
set_option maxRecDepth 100000 in
theorem arena_Arena_SetUses.eq : (fun t0 t1 t2 K h => arena_Arena_SetUses.pt t0 t1 t2 K h : Value → Value → Value → Ret → Heap → Prop) = (fun t0 t1 t2 K h => fnPt Try.prog [14, 15, 16, 20, 24, 35, 38, 39, 40, 13, 33, 34] Try.f28 arena_Arena_SetUses.ann [t0, t1, t2] K h) := by kernel_rfl
set_option maxRecDepth 100000 in
theorem arena_Arena_SetUses.ok {t0 t1 t2 : Value} {K : Ret} {h : Heap} (hp : arena_Arena_SetUses.pt t0 t1 t2 K h) : CallH Try.prog 28 #[t0, t1, t2] K h :=
  fn_sound (qs := [14, 15, 16, 20, 24, 35, 38, 39, 40, 13, 33, 34]) (fn := Try.f28) (ann := arena_Arena_SetUses.ann) (args := [t0, t1, t2]) follows_mixed Try.func28 ((Eq.to_iff (congrFun (congrFun (congrFun (congrFun (congrFun (arena_Arena_SetUses.eq) t0) t1) t2) K) h)).mp hp)

/-! ### (*bradawl/arena.Arena).All: function 29 -/
abbrev arena_Arena_All.id : FuncId := 29
def arena_Arena_All.ann : Ann := (.seq none .leaf (.seq none .leaf .leaf))
set_option maxRecDepth 100000 in
def arena_Arena_All.pt (t0 : Value) (K : Ret) (h : Heap) : Prop :=
 go (New (Value.cells t0) 24) h fun t1 h =>
 K (.func (.func 42) #[] #[t1]) h
set_option maxRecDepth 100000 in
theorem arena_Arena_All.eq : (fun t0 K h => arena_Arena_All.pt t0 K h : Value → Ret → Heap → Prop) = (fun t0 K h => fnPt Try.prog [14, 15, 16, 20, 24, 35, 38, 39, 40, 13, 33, 34] Try.f29 arena_Arena_All.ann [t0] K h) := by kernel_rfl
set_option maxRecDepth 100000 in
theorem arena_Arena_All.ok {t0 : Value} {K : Ret} {h : Heap} (hp : arena_Arena_All.pt t0 K h) : CallH Try.prog 29 #[t0] K h :=
  fn_sound (qs := [14, 15, 16, 20, 24, 35, 38, 39, 40, 13, 33, 34]) (fn := Try.f29) (ann := arena_Arena_All.ann) (args := [t0]) follows_mixed Try.func29 ((Eq.to_iff (congrFun (congrFun (congrFun (arena_Arena_All.eq) t0) K) h)).mp hp)

/-! ### bradawl/tiers.spared: function 30 -/
abbrev tiers_spared.id : FuncId := 30
def tiers_spared.ann : Ann := (.seq none .leaf (.seq none (.seq none .leaf (.cond (.seq none .leaf .leaf) .leaf)) (.seq none .leaf (.seq none (.seq none .leaf (.cond (.seq none .leaf .leaf) .leaf)) (.seq (some [0, 1, 7]) (.seq none .leaf (.cond .leaf .leaf)) (.seq none .leaf (.seq none .leaf .leaf)))))))
set_option maxRecDepth 100000 in
def tiers_spared.pt (t0 t1 t2 : Value) (K : Ret) (h : Heap) : Prop :=
 go (Bin .int .eql t2 (.int .i64 0)) h fun t9 h =>
 If t9 (
 K (.bool true) h) (
 go (QCall Try.prog 15 [t0, t1]) h fun t12 h =>
 go (Bin .int .eql t12 (.int .i64 0)) h fun t14 h =>
 If t14 (
 K (.bool false) h) (
 Join 3 (fun J1 =>
 go (Bin .int .eql t2 (.int .i64 2)) h fun t16 h =>
 If t16 (
 J1 t0 t1 (.int .i64 1) h) (
 J1 t0 t1 t12 h)) (fun t0_1 t1_1 t7 h =>
 go (Bin .int .sub t7 (.int .i64 1)) h fun t20 h =>
 go (CallF Try.prog 28 [t0_1, t1_1, t20]) h fun t21 h =>
 K (.bool true) h)))
set_option maxRecDepth 100000 in
theorem tiers_spared.eq : (fun t0 t1 t2 K h => tiers_spared.pt t0 t1 t2 K h : Value → Value → Value → Ret → Heap → Prop) = (fun t0 t1 t2 K h => fnPt Try.prog [14, 15, 16, 20, 24, 35, 38, 39, 40, 13, 33, 34] Try.f30 tiers_spared.ann [t0, t1, t2] K h) := by kernel_rfl
set_option maxRecDepth 100000 in
theorem tiers_spared.ok {t0 t1 t2 : Value} {K : Ret} {h : Heap} (hp : tiers_spared.pt t0 t1 t2 K h) : CallH Try.prog 30 #[t0, t1, t2] K h :=
  fn_sound (qs := [14, 15, 16, 20, 24, 35, 38, 39, 40, 13, 33, 34]) (fn := Try.f30) (ann := tiers_spared.ann) (args := [t0, t1, t2]) follows_mixed Try.func30 ((Eq.to_iff (congrFun (congrFun (congrFun (congrFun (congrFun (tiers_spared.eq) t0) t1) t2) K) h)).mp hp)

/-! ### slices.SortFunc[[]int,int]: function 31 -/
abbrev slices_SortFunc_int_int.id : FuncId := 31
def slices_SortFunc_int_int.ann : Ann := (.seq none .leaf .leaf)
set_option maxRecDepth 100000 in
def slices_SortFunc_int_int.pt (t0 t1 : Value) (K : Ret) (h : Heap) : Prop :=
 go (Len t0) h fun t6 h =>
 go (Cvt .u64 t6) h fun t10 h =>
 go (CallF Try.prog 44 [t10]) h fun t11 h =>
 go (CallF Try.prog 43 [t0, (.int .i64 0), t6, t11, t1]) h fun t13 h =>
 K (.tuple #[]) h
set_option maxRecDepth 100000 in
theorem slices_SortFunc_int_int.eq : (fun t0 t1 K h => slices_SortFunc_int_int.pt t0 t1 K h : Value → Value → Ret → Heap → Prop) = (fun t0 t1 K h => fnPt Try.prog [14, 15, 16, 20, 24, 35, 38, 39, 40, 13, 33, 34] Try.f31 slices_SortFunc_int_int.ann [t0, t1] K h) := by kernel_rfl
set_option maxRecDepth 100000 in
theorem slices_SortFunc_int_int.ok {t0 t1 : Value} {K : Ret} {h : Heap} (hp : slices_SortFunc_int_int.pt t0 t1 K h) : CallH Try.prog 31 #[t0, t1] K h :=
  fn_sound (qs := [14, 15, 16, 20, 24, 35, 38, 39, 40, 13, 33, 34]) (fn := Try.f31) (ann := slices_SortFunc_int_int.ann) (args := [t0, t1]) follows_mixed Try.func31 ((Eq.to_iff (congrFun (congrFun (congrFun (congrFun (slices_SortFunc_int_int.eq) t0) t1) K) h)).mp hp)

/-! ### bradawl/tiers.Reduce$1: function 32 -/
abbrev tiers_Reduce_1.id : FuncId := 32
def tiers_Reduce_1.ann : Ann := (.seq none .leaf (.seq none .leaf .leaf))
set_option maxRecDepth 100000 in
def tiers_Reduce_1.pt (t0 t1 t2 : Value) (K : Ret) (h : Heap) : Prop :=
 go (Ld t2) h fun t6 h =>
 go (QCall Try.prog 20 [t6, t1]) h fun t8 h =>
 go (Ld t2) h fun t9 h =>
 go (QCall Try.prog 20 [t9, t0]) h fun t11 h =>
 go (QCall Try.prog 34 [t8, t11]) h fun t12 h =>
 go (Ld t2) h fun t13 h =>
 go (QCall Try.prog 35 [t13, t1]) h fun t15 h =>
 go (Ld t2) h fun t16 h =>
 go (QCall Try.prog 35 [t16, t0]) h fun t18 h =>
 go (QCall Try.prog 34 [t15, t18]) h fun t19 h =>
 go (QCall Try.prog 34 [t0, t1]) h fun t22 h =>
 go (BldS 3 1 3 #[(.int .i64 0)] [(0, t12), (1, t19), (2, t22)]) h fun t23 h =>
 go (QCall Try.prog 33 [t23]) h fun t24 h =>
 K t24 h
set_option maxRecDepth 100000 in
theorem tiers_Reduce_1.eq : (fun t0 t1 t2 K h => tiers_Reduce_1.pt t0 t1 t2 K h : Value → Value → Value → Ret → Heap → Prop) = (fun t0 t1 t2 K h => fnPt Try.prog [14, 15, 16, 20, 24, 35, 38, 39, 40, 13, 33, 34] Try.f32 tiers_Reduce_1.ann [t0, t1, t2] K h) := by kernel_rfl
set_option maxRecDepth 100000 in
theorem tiers_Reduce_1.ok {t0 t1 t2 : Value} {K : Ret} {h : Heap} (hp : tiers_Reduce_1.pt t0 t1 t2 K h) : CallH Try.prog 32 #[t0, t1, t2] K h :=
  fn_sound (qs := [14, 15, 16, 20, 24, 35, 38, 39, 40, 13, 33, 34]) (fn := Try.f32) (ann := tiers_Reduce_1.ann) (args := [t0, t1, t2]) follows_mixed Try.func32 ((Eq.to_iff (congrFun (congrFun (congrFun (congrFun (congrFun (tiers_Reduce_1.eq) t0) t1) t2) K) h)).mp hp)

/-! ### cmp.Or[int]: function 33 -/
abbrev cmp_Or_int.id : FuncId := 33
def cmp_Or_int.ann : Ann := (.seq none .leaf (.seq none .leaf (.seq none (.seq none .leaf (.block (.loop [3, 6, 7, 8] (.seq none .leaf (.seq none (.cond .leaf .leaf) (.seq none (.block (.seq none .leaf (.seq none .leaf (.cond (.seq none .leaf .leaf) .leaf)))) .leaf)))))) (.seq none .leaf .leaf))))
set_option maxRecDepth 100000 in
def cmp_Or_int.pt (t0 : Value) (K : Ret) (h : Heap) : Prop :=
 go (Len t0) h fun t7 h =>
 Lp 4 (fun X1 t3 t6 t7_1 t8 h =>
 go (Bin .int .lss t8 t7_1) h fun t9 h =>
 If t9 (
 go (Idx 1 t6 t8) h fun t10 h =>
 go (Ld t10) h fun t11 h =>
 go (Bin .int .neq t11 t3) h fun t14 h =>
 If t14 (
 K t11 h) (
 go (Bin .int .add t8 (.int .i64 1)) h fun t16 h =>
 X1 t3 t6 t7_1 t16 h)) (
 K t3 h)) [(.int .i64 0), t0, t7, (.int .i64 0)] h
set_option maxRecDepth 100000 in
theorem cmp_Or_int.eq : (fun t0 K h => cmp_Or_int.pt t0 K h : Value → Ret → Heap → Prop) = (fun t0 K h => fnPt Try.prog [14, 15, 16, 20, 24, 35, 38, 39, 40, 13, 33, 34] Try.f33 cmp_Or_int.ann [t0] K h) := by kernel_rfl
set_option maxRecDepth 100000 in
theorem cmp_Or_int.ok {t0 : Value} {K : Ret} {h : Heap} (hp : cmp_Or_int.pt t0 K h) : CallH Try.prog 33 #[t0] K h :=
  fn_sound (qs := [14, 15, 16, 20, 24, 35, 38, 39, 40, 13, 33, 34]) (fn := Try.f33) (ann := cmp_Or_int.ann) (args := [t0]) follows_mixed Try.func33 ((Eq.to_iff (congrFun (congrFun (congrFun (cmp_Or_int.eq) t0) K) h)).mp hp)

/-! ### cmp.Compare[int]: function 34 -/
abbrev cmp_Compare_int.id : FuncId := 34
def cmp_Compare_int.ann : Ann := (.seq none .leaf (.seq none .leaf (.seq none .leaf (.seq none (.seq none .leaf (.cond (.seq none (.seq none .leaf (.cond (.seq none .leaf .leaf) .leaf)) (.seq none .leaf .leaf)) .leaf)) (.seq none (.seq none .leaf (.cond (.seq none .leaf .leaf) .leaf)) (.seq none (.seq none .leaf (.cond (.seq none .leaf .leaf) .leaf)) (.seq none (.seq none .leaf (.cond (.seq none .leaf .leaf) .leaf)) (.seq none .leaf .leaf))))))))
set_option maxRecDepth 100000 in
def cmp_Compare_int.pt (t0 t1 : Value) (K : Ret) (h : Heap) : Prop :=
 go (CallF Try.prog 45 [t0]) h fun t8 h =>
 go (CallF Try.prog 45 [t1]) h fun t10 h =>
 If t8 (
 If t10 (
 K (.int .i64 0) h) (
 K (.int .i64 (-1)) h)) (
 If t10 (
 K (.int .i64 1) h) (
 go (Bin .int .lss t0 t1) h fun t16 h =>
 If t16 (
 K (.int .i64 (-1)) h) (
 go (Bin .int .gtr t0 t1) h fun t19 h =>
 If t19 (
 K (.int .i64 1) h) (
 K (.int .i64 0) h))))
set_option maxRecDepth 100000 in
theorem cmp_Compare_int.eq : (fun t0 t1 K h => cmp_Compare_int.pt t0 t1 K h : Value → Value → Ret → Heap → Prop) = (fun t0 t1 K h => fnPt Try.prog [14, 15, 16, 20, 24, 35, 38, 39, 40, 13, 33, 34] Try.f34 cmp_Compare_int.ann [t0, t1] K h) := by kernel_rfl
set_option maxRecDepth 100000 in
theorem cmp_Compare_int.ok {t0 t1 : Value} {K : Ret} {h : Heap} (hp : cmp_Compare_int.pt t0 t1 K h) : CallH Try.prog 34 #[t0, t1] K h :=
  fn_sound (qs := [14, 15, 16, 20, 24, 35, 38, 39, 40, 13, 33, 34]) (fn := Try.f34) (ann := cmp_Compare_int.ann) (args := [t0, t1]) follows_mixed Try.func34 ((Eq.to_iff (congrFun (congrFun (congrFun (congrFun (cmp_Compare_int.eq) t0) t1) K) h)).mp hp)

/-! ### (*bradawl/arena.Arena).Len: function 35 -/
abbrev arena_Arena_Len.id : FuncId := 35
def arena_Arena_Len.ann : Ann := (.seq none .leaf (.seq none (.seq none .leaf (.cond (.seq none .leaf .leaf) .leaf)) (.seq none .leaf .leaf)))
set_option maxRecDepth 100000 in
def arena_Arena_Len.pt (t0 t1 : Value) (K : Ret) (h : Heap) : Prop :=
 go (QCall Try.prog 14 [t0, t1]) h fun t7 h =>
 go (Un .not t7) h fun t8 h =>
 If t8 (
 K (.int .i64 0) h) (
 go (NilC t0) h fun t10 h =>
 go (Fld 0 t10) h fun t11 h =>
 go (Ld t11) h fun t12 h =>
 go (Bin .int .add t1 (.int .i64 0)) h fun t14 h =>
 go (Idx 1 t12 t14) h fun t15 h =>
 go (Ld t15) h fun t16 h =>
 go (Bin .int .and t16 (.int .i64 1099511627775)) h fun t17 h =>
 K t17 h)
set_option maxRecDepth 100000 in
theorem arena_Arena_Len.eq : (fun t0 t1 K h => arena_Arena_Len.pt t0 t1 K h : Value → Value → Ret → Heap → Prop) = (fun t0 t1 K h => fnPt Try.prog [14, 15, 16, 20, 24, 35, 38, 39, 40, 13, 33, 34] Try.f35 arena_Arena_Len.ann [t0, t1] K h) := by kernel_rfl
set_option maxRecDepth 100000 in
theorem arena_Arena_Len.ok {t0 t1 : Value} {K : Ret} {h : Heap} (hp : arena_Arena_Len.pt t0 t1 K h) : CallH Try.prog 35 #[t0, t1] K h :=
  fn_sound (qs := [14, 15, 16, 20, 24, 35, 38, 39, 40, 13, 33, 34]) (fn := Try.f35) (ann := arena_Arena_Len.ann) (args := [t0, t1]) follows_mixed Try.func35 ((Eq.to_iff (congrFun (congrFun (congrFun (congrFun (arena_Arena_Len.eq) t0) t1) K) h)).mp hp)

/-! ### (*bradawl/arena.Arena).Drop: function 36 -/
abbrev arena_Arena_Drop.id : FuncId := 36
def arena_Arena_Drop.ann : Ann := (.seq none .leaf (.seq none (.seq none .leaf (.cond (.seq none .leaf .leaf) .leaf)) (.seq none .leaf (.seq none .leaf (.seq none .leaf (.seq none .leaf .leaf))))))
set_option maxRecDepth 100000 in
def arena_Arena_Drop.pt (t0 t1 : Value) (K : Ret) (h : Heap) : Prop :=
 go (QCall Try.prog 14 [t0, t1]) h fun t7 h =>
 go (Un .not t7) h fun t8 h =>
 If t8 (
 K (.bool false) h) (
 go (NilC t0) h fun t10 h =>
 go (Fld 3 t10) h fun t11 h =>
 go (Ld t11) h fun t12 h =>
 go (MDel t12 t1) h fun _ h =>
 go (NilC t0) h fun t15 h =>
 go (Fld 0 t15) h fun t16 h =>
 go (Ld t16) h fun t17 h =>
 go (Bin .int .add t1 (.int .i64 0)) h fun t19 h =>
 go (Idx 1 t17 t19) h fun t20 h =>
 go (Ld t20) h fun t21 h =>
 go (Bin .int .or t21 (.int .i64 2199023255552)) h fun t22 h =>
 go (Idx 1 t17 t19) h fun t23 h =>
 go (St t23 t22) h fun _ h =>
 go (NilC t0) h fun t25 h =>
 go (Fld 2 t25) h fun t26 h =>
 go (Ld t26) h fun t27 h =>
 go (Bin .int .sub t27 (.int .i64 1)) h fun t28 h =>
 go (NilC t0) h fun t29 h =>
 go (Fld 2 t29) h fun t30 h =>
 go (St t30 t28) h fun _ h =>
 K (.bool true) h)
set_option maxRecDepth 100000 in
theorem arena_Arena_Drop.eq : (fun t0 t1 K h => arena_Arena_Drop.pt t0 t1 K h : Value → Value → Ret → Heap → Prop) = (fun t0 t1 K h => fnPt Try.prog [14, 15, 16, 20, 24, 35, 38, 39, 40, 13, 33, 34] Try.f36 arena_Arena_Drop.ann [t0, t1] K h) := by kernel_rfl
set_option maxRecDepth 100000 in
theorem arena_Arena_Drop.ok {t0 t1 : Value} {K : Ret} {h : Heap} (hp : arena_Arena_Drop.pt t0 t1 K h) : CallH Try.prog 36 #[t0, t1] K h :=
  fn_sound (qs := [14, 15, 16, 20, 24, 35, 38, 39, 40, 13, 33, 34]) (fn := Try.f36) (ann := arena_Arena_Drop.ann) (args := [t0, t1]) follows_mixed Try.func36 ((Eq.to_iff (congrFun (congrFun (congrFun (congrFun (arena_Arena_Drop.eq) t0) t1) K) h)).mp hp)

/-! ### slices.Clone[[]int,int]: function 37 -/
abbrev slices_Clone_int_int.id : FuncId := 37
def slices_Clone_int_int.ann : Ann := (.seq none .leaf (.seq none (.seq none .leaf (.cond (.seq none .leaf .leaf) .leaf)) (.seq none .leaf .leaf)))
set_option maxRecDepth 100000 in
def slices_Clone_int_int.pt (t0 : Value) (K : Ret) (h : Heap) : Prop :=
 go (Bin .slice .eql t0 (.slice none 0 0)) h fun t4 h =>
 If t4 (
 K (.slice none 0 0) h) (
 go (Bld0 3) h fun t5 h =>
 go (App 3 1 8 #[(.int .i64 0)] t5 t0) h fun t7 h =>
 K t7 h)
set_option maxRecDepth 100000 in
theorem slices_Clone_int_int.eq : (fun t0 K h => slices_Clone_int_int.pt t0 K h : Value → Ret → Heap → Prop) = (fun t0 K h => fnPt Try.prog [14, 15, 16, 20, 24, 35, 38, 39, 40, 13, 33, 34] Try.f37 slices_Clone_int_int.ann [t0] K h) := by kernel_rfl
set_option maxRecDepth 100000 in
theorem slices_Clone_int_int.ok {t0 : Value} {K : Ret} {h : Heap} (hp : slices_Clone_int_int.pt t0 K h) : CallH Try.prog 37 #[t0] K h :=
  fn_sound (qs := [14, 15, 16, 20, 24, 35, 38, 39, 40, 13, 33, 34]) (fn := Try.f37) (ann := slices_Clone_int_int.ann) (args := [t0]) follows_mixed Try.func37 ((Eq.to_iff (congrFun (congrFun (congrFun (slices_Clone_int_int.eq) t0) K) h)).mp hp)

/-! ### (*bradawl/arena.Arena).get: function 38 -/
abbrev arena_Arena_get.id : FuncId := 38
def arena_Arena_get.ann : Ann := (.seq none .leaf (.seq none (.seq none .leaf (.cond (.seq none .leaf .leaf) .leaf)) (.seq none .leaf .leaf)))
set_option maxRecDepth 100000 in
def arena_Arena_get.pt (t0 t1 t2 : Value) (K : Ret) (h : Heap) : Prop :=
 go (QCall Try.prog 14 [t0, t1]) h fun t9 h =>
 go (Un .not t9) h fun t10 h =>
 If t10 (
 K (.int .i64 0) h) (
 go (NilC t0) h fun t12 h =>
 go (Fld 0 t12) h fun t13 h =>
 go (Ld t13) h fun t14 h =>
 go (Bin .int .add t1 t2) h fun t17 h =>
 go (Idx 1 t14 t17) h fun t18 h =>
 go (Ld t18) h fun t19 h =>
 K t19 h)
set_option maxRecDepth 100000 in
theorem arena_Arena_get.eq : (fun t0 t1 t2 K h => arena_Arena_get.pt t0 t1 t2 K h : Value → Value → Value → Ret → Heap → Prop) = (fun t0 t1 t2 K h => fnPt Try.prog [14, 15, 16, 20, 24, 35, 38, 39, 40, 13, 33, 34] Try.f38 arena_Arena_get.ann [t0, t1, t2] K h) := by kernel_rfl
set_option maxRecDepth 100000 in
theorem arena_Arena_get.ok {t0 t1 t2 : Value} {K : Ret} {h : Heap} (hp : arena_Arena_get.pt t0 t1 t2 K h) : CallH Try.prog 38 #[t0, t1, t2] K h :=
  fn_sound (qs := [14, 15, 16, 20, 24, 35, 38, 39, 40, 13, 33, 34]) (fn := Try.f38) (ann := arena_Arena_get.ann) (args := [t0, t1, t2]) follows_mixed Try.func38 ((Eq.to_iff (congrFun (congrFun (congrFun (congrFun (congrFun (arena_Arena_get.eq) t0) t1) t2) K) h)).mp hp)

/-! ### (*bradawl/arena.Arena).Learned: function 39 -/
abbrev arena_Arena_Learned.id : FuncId := 39
def arena_Arena_Learned.ann : Ann := (.seq none .leaf (.seq none .leaf .leaf))
set_option maxRecDepth 100000 in
def arena_Arena_Learned.pt (t0 t1 : Value) (K : Ret) (h : Heap) : Prop :=
 go (QCall Try.prog 14 [t0, t1]) h fun t7 h =>
 go (Gd t7 true (Mv t0)) h fun t9 h =>
 go (Gd t7 true (NilC t9)) h fun t10 h =>
 go (Gd t7 true (Fld 0 t10)) h fun t11 h =>
 go (Gd t7 true (Ld t11)) h fun t12 h =>
 go (Gd t7 true (Mv t1)) h fun t13 h =>
 go (Gd t7 true (Bin .int .add t13 (.int .i64 0))) h fun t14 h =>
 go (Gd t7 true (Idx 1 t12 t14)) h fun t15 h =>
 go (Gd t7 true (Ld t15)) h fun t16 h =>
 go (Gd t7 true (Bin .int .and t16 (.int .i64 1099511627776))) h fun t17 h =>
 go (Gd t7 true (Bin .int .neq t17 (.int .i64 0))) h fun t18 h =>
 go (Pick t7 t18 (.bool false)) h fun t19 h =>
 K t19 h
set_option maxRecDepth 100000 in
theorem arena_Arena_Learned.eq : (fun t0 t1 K h => arena_Arena_Learned.pt t0 t1 K h : Value → Value → Ret → Heap → Prop) = (fun t0 t1 K h => fnPt Try.prog [14, 15, 16, 20, 24, 35, 38, 39, 40, 13, 33, 34] Try.f39 arena_Arena_Learned.ann [t0, t1] K h) := by kernel_rfl
set_option maxRecDepth 100000 in
theorem arena_Arena_Learned.ok {t0 t1 : Value} {K : Ret} {h : Heap} (hp : arena_Arena_Learned.pt t0 t1 K h) : CallH Try.prog 39 #[t0, t1] K h :=
  fn_sound (qs := [14, 15, 16, 20, 24, 35, 38, 39, 40, 13, 33, 34]) (fn := Try.f39) (ann := arena_Arena_Learned.ann) (args := [t0, t1]) follows_mixed Try.func39 ((Eq.to_iff (congrFun (congrFun (congrFun (congrFun (arena_Arena_Learned.eq) t0) t1) K) h)).mp hp)

/-! ### bradawl/arena.fit: function 40 -/
abbrev arena_fit.id : FuncId := 40
def arena_fit.ann : Ann := (.seq none .leaf (.seq none .leaf .leaf))
set_option maxRecDepth 100000 in
def arena_fit.pt (t0 : Value) (K : Ret) (h : Heap) : Prop :=
 go (MaxV [t0, (.int .i64 0)]) h fun t4 h =>
 go (MinV [t4, (.int .i64 2147483647)]) h fun t5 h =>
 K t5 h
set_option maxRecDepth 100000 in
theorem arena_fit.eq : (fun t0 K h => arena_fit.pt t0 K h : Value → Ret → Heap → Prop) = (fun t0 K h => fnPt Try.prog [14, 15, 16, 20, 24, 35, 38, 39, 40, 13, 33, 34] Try.f40 arena_fit.ann [t0] K h) := by kernel_rfl
set_option maxRecDepth 100000 in
theorem arena_fit.ok {t0 : Value} {K : Ret} {h : Heap} (hp : arena_fit.pt t0 K h) : CallH Try.prog 40 #[t0] K h :=
  fn_sound (qs := [14, 15, 16, 20, 24, 35, 38, 39, 40, 13, 33, 34]) (fn := Try.f40) (ann := arena_fit.ann) (args := [t0]) follows_mixed Try.func40 ((Eq.to_iff (congrFun (congrFun (congrFun (arena_fit.eq) t0) K) h)).mp hp)

/-! ### (*bradawl/arena.Arena).set: function 41 -/
abbrev arena_Arena_set.id : FuncId := 41
def arena_Arena_set.ann : Ann := (.seq none .leaf (.seq none (.seq none .leaf (.cond (.seq none .leaf .leaf) .leaf)) (.seq none .leaf (.seq none .leaf .leaf))))
set_option maxRecDepth 100000 in
def arena_Arena_set.pt (t0 t1 t2 t3 : Value) (K : Ret) (h : Heap) : Prop :=
 go (QCall Try.prog 14 [t0, t1]) h fun t11 h =>
 go (Un .not t11) h fun t12 h =>
 If t12 (
 K (.bool false) h) (
 go (NilC t0) h fun t14 h =>
 go (Fld 0 t14) h fun t15 h =>
 go (Ld t15) h fun t16 h =>
 go (Bin .int .add t1 t2) h fun t19 h =>
 go (QCall Try.prog 40 [t3]) h fun t21 h =>
 go (Idx 1 t16 t19) h fun t22 h =>
 go (St t22 t21) h fun _ h =>
 K (.bool true) h)
set_option maxRecDepth 100000 in
theorem arena_Arena_set.eq : (fun t0 t1 t2 t3 K h => arena_Arena_set.pt t0 t1 t2 t3 K h : Value → Value → Value → Value → Ret → Heap → Prop) = (fun t0 t1 t2 t3 K h => fnPt Try.prog [14, 15, 16, 20, 24, 35, 38, 39, 40, 13, 33, 34] Try.f41 arena_Arena_set.ann [t0, t1, t2, t3] K h) := by kernel_rfl
set_option maxRecDepth 100000 in
theorem arena_Arena_set.ok {t0 t1 t2 t3 : Value} {K : Ret} {h : Heap} (hp : arena_Arena_set.pt t0 t1 t2 t3 K h) : CallH Try.prog 41 #[t0, t1, t2, t3] K h :=
  fn_sound (qs := [14, 15, 16, 20, 24, 35, 38, 39, 40, 13, 33, 34]) (fn := Try.f41) (ann := arena_Arena_set.ann) (args := [t0, t1, t2, t3]) follows_mixed Try.func41 ((Eq.to_iff (congrFun (congrFun (congrFun (congrFun (congrFun (congrFun (arena_Arena_set.eq) t0) t1) t2) t3) K) h)).mp hp)

/-! ### (*bradawl/arena.Arena).All$1: function 42 -/
abbrev arena_Arena_All_1.id : FuncId := 42
def arena_Arena_All_1.ann : Ann := (.seq none .leaf (.block (.loop [0, 1, 3] (.seq none (.seq none .leaf (.cond .leaf .leaf)) (.seq none (.block (.seq none .leaf (.cond .leaf .leaf))) .leaf)))))
set_option maxRecDepth 100000 in
def arena_Arena_All_1.pt (t0 t1 : Value) (K : Ret) (h : Heap) : Prop :=
 Lp 3 (fun X1 t0_1 t1_1 t3 h =>
 go (Ld t1_1) h fun t5 h =>
 go (NilC t5) h fun t6 h =>
 go (Fld 0 t6) h fun t7 h =>
 go (Ld t7) h fun t8 h =>
 go (Len t8) h fun t9 h =>
 go (Bin .int .lss t3 t9) h fun t10 h =>
 If t10 (
 go (Ld t1_1) h fun t23 h =>
 go (NilC t23) h fun t24 h =>
 go (Fld 0 t24) h fun t25 h =>
 go (Ld t25) h fun t26 h =>
 go (Bin .int .add t3 (.int .i64 0)) h fun t28 h =>
 go (Idx 1 t26 t28) h fun t29 h =>
 go (Ld t29) h fun t30 h =>
 go (Bin .int .and t30 (.int .i64 2199023255552)) h fun t31 h =>
 go (Bin .int .eql t31 (.int .i64 0)) h fun t32 h =>
 go (Gd t32 true (Mv t0_1)) h fun t34 h =>
 go (Gd t32 true (Mv t3)) h fun t35 h =>
 go (Gd t32 true (CallV Try.prog t34 [t35])) h fun t36 h =>
 go (Gd t32 true (Un .not t36)) h fun t37 h =>
 go (Pick t32 t37 (.bool false)) h fun t38 h =>
 If t38 (
 K (.tuple #[]) h) (
 go (Ld t1_1) h fun t12 h =>
 go (NilC t12) h fun t13 h =>
 go (Fld 0 t13) h fun t14 h =>
 go (Ld t14) h fun t15 h =>
 go (Bin .int .add t3 (.int .i64 0)) h fun t17 h =>
 go (Idx 1 t15 t17) h fun t18 h =>
 go (Ld t18) h fun t19 h =>
 go (Bin .int .and t19 (.int .i64 1099511627775)) h fun t20 h =>
 go (Bin .int .add (.int .i64 3) t20) h fun t21 h =>
 go (Bin .int .add t3 t21) h fun t22 h =>
 X1 t0_1 t1_1 t22 h)) (
 K (.tuple #[]) h)) [t0, t1, (.int .i64 0)] h
set_option maxRecDepth 100000 in
theorem arena_Arena_All_1.eq : (fun t0 t1 K h => arena_Arena_All_1.pt t0 t1 K h : Value → Value → Ret → Heap → Prop) = (fun t0 t1 K h => fnPt Try.prog [14, 15, 16, 20, 24, 35, 38, 39, 40, 13, 33, 34] Try.f42 arena_Arena_All_1.ann [t0, t1] K h) := by kernel_rfl
set_option maxRecDepth 100000 in
theorem arena_Arena_All_1.ok {t0 t1 : Value} {K : Ret} {h : Heap} (hp : arena_Arena_All_1.pt t0 t1 K h) : CallH Try.prog 42 #[t0, t1] K h :=
  fn_sound (qs := [14, 15, 16, 20, 24, 35, 38, 39, 40, 13, 33, 34]) (fn := Try.f42) (ann := arena_Arena_All_1.ann) (args := [t0, t1]) follows_mixed Try.func42 ((Eq.to_iff (congrFun (congrFun (congrFun (congrFun (arena_Arena_All_1.eq) t0) t1) K) h)).mp hp)

/-! ### slices.pdqsortCmpFunc[int]: function 43 -/
abbrev slices_pdqsortCmpFunc_int.id : FuncId := 43
def slices_pdqsortCmpFunc_int.ann : Ann := (.seq none .leaf (.seq none .leaf (.block (.loop [0, 1, 2, 3, 4, 10, 11] (.block (.seq none .leaf (.seq none (.seq none .leaf (.cond (.seq none .leaf .leaf) .leaf)) (.seq none (.seq none .leaf (.cond (.seq none .leaf .leaf) .leaf)) (.seq (some [0, 1, 2, 3, 4, 10, 11, 12]) (.seq none .leaf (.cond (.seq none .leaf .leaf) .leaf)) (.seq none .leaf (.seq (some [0, 1, 2, 3, 4, 10, 11, 12, 13, 14]) (.seq none .leaf (.cond (.seq none .leaf (.seq none .leaf .leaf)) .leaf)) (.seq (some [0, 1, 2, 3, 4, 10, 11, 12, 13]) (.seq none .leaf (.cond (.seq none .leaf (.cond .leaf .leaf)) .leaf)) (.seq none (.seq none .leaf (.cond (.seq none .leaf (.seq none .leaf .leaf)) .leaf)) (.seq none .leaf (.seq none .leaf (.seq none .leaf (.seq none .leaf (.seq none .leaf (.cond (.seq none .leaf (.seq none .leaf .leaf)) (.seq none .leaf (.seq none .leaf .leaf)))))))))))))))))))))
set_option maxRecDepth 100000 in
def slices_pdqsortCmpFunc_int.pt (t0 t1 t2 t3 t4 : Value) (K : Ret) (h : Heap) : Prop :=
 Lp 7 (fun X1 t0_1 t1_1 t2_1 t3_1 t4_1 t10 t11 h =>
 go (Bin .int .sub t2_1 t1_1) h fun t23 h =>
 go (Bin .int .leq t23 (.int .i64 12)) h fun t25 h =>
 If t25 (
 go (CallF Try.prog 46 [t0_1, t1_1, t2_1, t4_1]) h fun t30 h =>
 K (.tuple #[]) h) (
 go (Bin .int .eql t3_1 (.int .i64 0)) h fun t32 h =>
 If t32 (
 go (CallF Try.prog 47 [t0_1, t1_1, t2_1, t4_1]) h fun t37 h =>
 K (.tuple #[]) h) (
 Join 8 (fun J2 =>
 go (Un .not t10) h fun t39 h =>
 If t39 (
 go (CallF Try.prog 48 [t0_1, t1_1, t2_1, t4_1]) h fun t44 h =>
 go (Bin .int .sub t3_1 (.int .i64 1)) h fun t46 h =>
 J2 t0_1 t1_1 t2_1 t46 t4_1 t10 t11 t23 h) (
 J2 t0_1 t1_1 t2_1 t3_1 t4_1 t10 t11 t23 h)) (fun t0_2 t1_2 t2_2 t3_2 t4_2 t10_1 t11_1 t12 h =>
 go (CallF Try.prog 49 [t0_2, t1_2, t2_2, t4_2]) h fun t52 h =>
 go (Ext 0 t52) h fun t53 h =>
 go (Ext 1 t52) h fun t54 h =>
 Join 10 (fun J3 =>
 go (Bin .int .eql t54 (.int .i64 2)) h fun t56 h =>
 If t56 (
 go (CallF Try.prog 50 [t0_2, t1_2, t2_2, t4_2]) h fun t61 h =>
 go (Bin .int .sub t2_2 (.int .i64 1)) h fun t63 h =>
 go (Bin .int .sub t53 t1_2) h fun t66 h =>
 go (Bin .int .sub t63 t66) h fun t67 h =>
 J3 t0_2 t1_2 t2_2 t3_2 t4_2 t10_1 t11_1 t12 t67 (.int .i64 1) h) (
 J3 t0_2 t1_2 t2_2 t3_2 t4_2 t10_1 t11_1 t12 t53 t54 h)) (fun t0_3 t1_3 t2_3 t3_3 t4_3 t10_2 t11_2 t12_1 t13 t14 h =>
 Join 9 (fun J4 =>
 go (Gd t10_2 true (Mv t11_2)) h fun t70 h =>
 go (Pick t10_2 t70 (.bool false)) h fun t71 h =>
 go (Gd t71 true (Mv t14)) h fun t73 h =>
 go (Gd t71 true (Bin .int .eql t73 (.int .i64 1))) h fun t74 h =>
 go (Pick t71 t74 (.bool false)) h fun t75 h =>
 If t75 (
 go (CallF Try.prog 51 [t0_3, t1_3, t2_3, t4_3]) h fun t80 h =>
 If t80 (
 K (.tuple #[]) h) (
 J4 t0_3 t1_3 t2_3 t3_3 t4_3 t10_2 t11_2 t12_1 t13 h)) (
 J4 t0_3 t1_3 t2_3 t3_3 t4_3 t10_2 t11_2 t12_1 t13 h)) (fun t0_4 t1_4 t2_4 t3_4 t4_4 t10_3 t11_3 t12_2 t13_1 h =>
 go (Bin .int .gtr t1_4 (.int .i64 0)) h fun t82 h =>
 go (Gd t82 true (Mv t4_4)) h fun t84 h =>
 go (Gd t82 true (Mv t0_4)) h fun t85 h =>
 go (Gd t82 true (Mv t1_4)) h fun t86 h =>
 go (Gd t82 true (Bin .int .sub t86 (.int .i64 1))) h fun t87 h =>
 go (Gd t82 true (Idx 1 t85 t87)) h fun t88 h =>
 go (Gd t82 true (Ld t88)) h fun t89 h =>
 go (Gd t82 true (Mv t0_4)) h fun t90 h =>
 go (Gd t82 true (Mv t13_1)) h fun t91 h =>
 go (Gd t82 true (Idx 1 t90 t91)) h fun t92 h =>
 go (Gd t82 true (Ld t92)) h fun t93 h =>
 go (Gd t82 true (CallV Try.prog t84 [t89, t93])) h fun t94 h =>
 go (Gd t82 true (Bin .int .lss t94 (.int .i64 0))) h fun t95 h =>
 go (Gd t82 true (Un .not t95)) h fun t96 h =>
 go (Pick t82 t96 (.bool false)) h fun t97 h =>
 If t97 (
 go (CallF Try.prog 52 [t0_4, t1_4, t2_4, t13_1, t4_4]) h fun t103 h =>
 X1 t0_4 t103 t2_4 t3_4 t4_4 t10_3 t11_3 h) (
 go (CallF Try.prog 53 [t0_4, t1_4, t2_4, t13_1, t4_4]) h fun t111 h =>
 go (Ext 0 t111) h fun t112 h =>
 go (Ext 1 t111) h fun t113 h =>
 go (Bin .int .sub t112 t1_4) h fun t117 h =>
 go (Bin .int .sub t2_4 t112) h fun t120 h =>
 go (Bin .int .quo t12_2 (.int .i64 8)) h fun t122 h =>
 go (Bin .int .lss t117 t120) h fun t125 h =>
 If t125 (
 go (Bin .int .geq t117 t122) h fun t128 h =>
 go (CallF Try.prog 43 [t0_4, t1_4, t112, t3_4, t4_4]) h fun t134 h =>
 go (Bin .int .add t112 (.int .i64 1)) h fun t136 h =>
 X1 t0_4 t136 t2_4 t3_4 t4_4 t128 t113 h) (
 go (Bin .int .geq t120 t122) h fun t139 h =>
 go (Bin .int .add t112 (.int .i64 1)) h fun t142 h =>
 go (CallF Try.prog 43 [t0_4, t142, t2_4, t3_4, t4_4]) h fun t146 h =>
 X1 t0_4 t1_4 t112 t3_4 t4_4 t139 t113 h)))))))) [t0, t1, t2, t3, t4, (.bool true), (.bool true)] h
set_option maxRecDepth 100000 in
theorem slices_pdqsortCmpFunc_int.eq : (fun t0 t1 t2 t3 t4 K h => slices_pdqsortCmpFunc_int.pt t0 t1 t2 t3 t4 K h : Value → Value → Value → Value → Value → Ret → Heap → Prop) = (fun t0 t1 t2 t3 t4 K h => fnPt Try.prog [14, 15, 16, 20, 24, 35, 38, 39, 40, 13, 33, 34] Try.f43 slices_pdqsortCmpFunc_int.ann [t0, t1, t2, t3, t4] K h) := by kernel_rfl
set_option maxRecDepth 100000 in
theorem slices_pdqsortCmpFunc_int.ok {t0 t1 t2 t3 t4 : Value} {K : Ret} {h : Heap} (hp : slices_pdqsortCmpFunc_int.pt t0 t1 t2 t3 t4 K h) : CallH Try.prog 43 #[t0, t1, t2, t3, t4] K h :=
  fn_sound (qs := [14, 15, 16, 20, 24, 35, 38, 39, 40, 13, 33, 34]) (fn := Try.f43) (ann := slices_pdqsortCmpFunc_int.ann) (args := [t0, t1, t2, t3, t4]) follows_mixed Try.func43 ((Eq.to_iff (congrFun (congrFun (congrFun (congrFun (congrFun (congrFun (congrFun (slices_pdqsortCmpFunc_int.eq) t0) t1) t2) t3) t4) K) h)).mp hp)

/-! ### math/bits.Len: function 44 -/
abbrev bits_Len.id : FuncId := 44
def bits_Len.ann : Ann := (.seq none .leaf (.seq none (.cond (.seq none .leaf .leaf) .leaf) (.seq none .leaf .leaf)))
set_option maxRecDepth 100000 in
def bits_Len.pt (t0 : Value) (K : Ret) (h : Heap) : Prop :=
 If (.bool false) (
 go (Cvt .u32 t0) h fun t4 h =>
 go (CallF Try.prog 54 [t4]) h fun t5 h =>
 K t5 h) (
 go (CallF Try.prog 55 [t0]) h fun t7 h =>
 K t7 h)
set_option maxRecDepth 100000 in
theorem bits_Len.eq : (fun t0 K h => bits_Len.pt t0 K h : Value → Ret → Heap → Prop) = (fun t0 K h => fnPt Try.prog [14, 15, 16, 20, 24, 35, 38, 39, 40, 13, 33, 34] Try.f44 bits_Len.ann [t0] K h) := by kernel_rfl
set_option maxRecDepth 100000 in
theorem bits_Len.ok {t0 : Value} {K : Ret} {h : Heap} (hp : bits_Len.pt t0 K h) : CallH Try.prog 44 #[t0] K h :=
  fn_sound (qs := [14, 15, 16, 20, 24, 35, 38, 39, 40, 13, 33, 34]) (fn := Try.f44) (ann := bits_Len.ann) (args := [t0]) follows_mixed Try.func44 ((Eq.to_iff (congrFun (congrFun (congrFun (bits_Len.eq) t0) K) h)).mp hp)

/-! ### cmp.isNaN[int]: function 45 -/
abbrev cmp_isNaN_int.id : FuncId := 45
def cmp_isNaN_int.ann : Ann := (.seq none .leaf (.seq none .leaf .leaf))
set_option maxRecDepth 100000 in
def cmp_isNaN_int.pt (t0 : Value) (K : Ret) (h : Heap) : Prop :=
 go (Bin .int .neq t0 t0) h fun t5 h =>
 K t5 h
set_option maxRecDepth 100000 in
theorem cmp_isNaN_int.eq : (fun t0 K h => cmp_isNaN_int.pt t0 K h : Value → Ret → Heap → Prop) = (fun t0 K h => fnPt Try.prog [14, 15, 16, 20, 24, 35, 38, 39, 40, 13, 33, 34] Try.f45 cmp_isNaN_int.ann [t0] K h) := by kernel_rfl
set_option maxRecDepth 100000 in
theorem cmp_isNaN_int.ok {t0 : Value} {K : Ret} {h : Heap} (hp : cmp_isNaN_int.pt t0 K h) : CallH Try.prog 45 #[t0] K h :=
  fn_sound (qs := [14, 15, 16, 20, 24, 35, 38, 39, 40, 13, 33, 34]) (fn := Try.f45) (ann := cmp_isNaN_int.ann) (args := [t0]) follows_mixed Try.func45 ((Eq.to_iff (congrFun (congrFun (congrFun (cmp_isNaN_int.eq) t0) K) h)).mp hp)

/-! ### slices.insertionSortCmpFunc[int]: function 46 -/
abbrev slices_insertionSortCmpFunc_int.id : FuncId := 46
def slices_insertionSortCmpFunc_int.ann : Ann := (.seq none .leaf (.block (.loop [0, 1, 2, 3, 8] (.seq none (.seq none .leaf (.cond .leaf .leaf)) (.seq none (.block (.seq none .leaf (.block (.loop [0, 1, 2, 3, 8, 9] (.seq none (.seq none .leaf (.cond .leaf .leaf)) (.seq none (.block .leaf) .leaf)))))) .leaf)))))
set_option maxRecDepth 100000 in
def slices_insertionSortCmpFunc_int.pt (t0 t1 t2 t3 : Value) (K : Ret) (h : Heap) : Prop :=
 go (Bin .int .add t1 (.int .i64 1)) h fun t11 h =>
 Lp 5 (fun X1 t0_1 t1_1 t2_1 t3_1 t8 h =>
 go (Bin .int .lss t8 t2_1) h fun t14 h =>
 If t14 (
 Lp 6 (fun X2 t0_2 t1_2 t2_2 t3_2 t8_1 t9 h =>
 go (Bin .int .gtr t9 t1_2) h fun t20 h =>
 go (Gd t20 true (Mv t3_2)) h fun t22 h =>
 go (Gd t20 true (Mv t0_2)) h fun t23 h =>
 go (Gd t20 true (Mv t9)) h fun t24 h =>
 go (Gd t20 true (Idx 1 t23 t24)) h fun t25 h =>
 go (Gd t20 true (Ld t25)) h fun t26 h =>
 go (Gd t20 true (Mv t0_2)) h fun t27 h =>
 go (Gd t20 true (Mv t9)) h fun t28 h =>
 go (Gd t20 true (Bin .int .sub t28 (.int .i64 1))) h fun t29 h =>
 go (Gd t20 true (Idx 1 t27 t29)) h fun t30 h =>
 go (Gd t20 true (Ld t30)) h fun t31 h =>
 go (Gd t20 true (CallV Try.prog t22 [t26, t31])) h fun t32 h =>
 go (Gd t20 true (Bin .int .lss t32 (.int .i64 0))) h fun t33 h =>
 go (Pick t20 t33 (.bool false)) h fun t34 h =>
 If t34 (
 go (Bin .int .sub t9 (.int .i64 1)) h fun t41 h =>
 go (Bin .int .sub t9 (.int .i64 1)) h fun t44 h =>
 go (Idx 1 t0_2 t44) h fun t45 h =>
 go (Ld t45) h fun t46 h =>
 go (Idx 1 t0_2 t9) h fun t49 h =>
 go (Ld t49) h fun t50 h =>
 go (Idx 1 t0_2 t9) h fun t51 h =>
 go (St t51 t46) h fun _ h =>
 go (Idx 1 t0_2 t41) h fun t52 h =>
 go (St t52 t50) h fun _ h =>
 go (Bin .int .sub t9 (.int .i64 1)) h fun t36 h =>
 X2 t0_2 t1_2 t2_2 t3_2 t8_1 t36 h) (
 go (Bin .int .add t8_1 (.int .i64 1)) h fun t16 h =>
 X1 t0_2 t1_2 t2_2 t3_2 t16 h)) [t0_1, t1_1, t2_1, t3_1, t8, t8] h) (
 K (.tuple #[]) h)) [t0, t1, t2, t3, t11] h
set_option maxRecDepth 100000 in
theorem slices_insertionSortCmpFunc_int.eq : (fun t0 t1 t2 t3 K h => slices_insertionSortCmpFunc_int.pt t0 t1 t2 t3 K h : Value → Value → Value → Value → Ret → Heap → Prop) = (fun t0 t1 t2 t3 K h => fnPt Try.prog [14, 15, 16, 20, 24, 35, 38, 39, 40, 13, 33, 34] Try.f46 slices_insertionSortCmpFunc_int.ann [t0, t1, t2, t3] K h) := by kernel_rfl
set_option maxRecDepth 100000 in
theorem slices_insertionSortCmpFunc_int.ok {t0 t1 t2 t3 : Value} {K : Ret} {h : Heap} (hp : slices_insertionSortCmpFunc_int.pt t0 t1 t2 t3 K h) : CallH Try.prog 46 #[t0, t1, t2, t3] K h :=
  fn_sound (qs := [14, 15, 16, 20, 24, 35, 38, 39, 40, 13, 33, 34]) (fn := Try.f46) (ann := slices_insertionSortCmpFunc_int.ann) (args := [t0, t1, t2, t3]) follows_mixed Try.func46 ((Eq.to_iff (congrFun (congrFun (congrFun (congrFun (congrFun (congrFun (slices_insertionSortCmpFunc_int.eq) t0) t1) t2) t3) K) h)).mp hp)

/-! ### slices.heapSortCmpFunc[int]: function 47 -/
abbrev slices_heapSortCmpFunc_int.id : FuncId := 47
def slices_heapSortCmpFunc_int.ann : Ann := (.seq none .leaf (.seq none .leaf (.seq none .leaf (.seq none (.seq none .leaf (.block (.loop [0, 3, 8, 9, 10, 11] (.seq none (.seq none .leaf (.cond .leaf .leaf)) (.seq none (.block .leaf) .leaf))))) (.seq none .leaf (.block (.loop [0, 3, 8, 9, 12] (.seq none (.seq none .leaf (.cond .leaf .leaf)) (.seq none (.block (.seq none .leaf .leaf)) .leaf)))))))))
set_option maxRecDepth 100000 in
def slices_heapSortCmpFunc_int.pt (t0 t1 t2 t3 : Value) (K : Ret) (h : Heap) : Prop :=
 go (Bin .int .sub t2 t1) h fun t16 h =>
 go (Bin .int .sub t16 (.int .i64 1)) h fun t18 h =>
 go (Bin .int .quo t18 (.int .i64 2)) h fun t19 h =>
 Lp 6 (fun X1 t0_1 t3_1 t8 t9 t10 t11 h =>
 go (Bin .int .geq t11 (.int .i64 0)) h fun t21 h =>
 If t21 (
 go (CallF Try.prog 56 [t0_1, t11, t10, t8, t3_1]) h fun t29 h =>
 go (Bin .int .sub t11 (.int .i64 1)) h fun t23 h =>
 X1 t0_1 t3_1 t8 t9 t10 t23 h) (
 go (Bin .int .sub t10 (.int .i64 1)) h fun t31 h =>
 Lp 5 (fun X2 t0_2 t3_2 t8_1 t9_1 t12 h =>
 go (Bin .int .geq t12 (.int .i64 0)) h fun t33 h =>
 If t33 (
 go (Bin .int .add t8_1 t12) h fun t41 h =>
 go (Bin .int .add t8_1 t12) h fun t45 h =>
 go (Idx 1 t0_2 t45) h fun t46 h =>
 go (Ld t46) h fun t47 h =>
 go (Idx 1 t0_2 t8_1) h fun t50 h =>
 go (Ld t50) h fun t51 h =>
 go (Idx 1 t0_2 t8_1) h fun t52 h =>
 go (St t52 t47) h fun _ h =>
 go (Idx 1 t0_2 t41) h fun t53 h =>
 go (St t53 t51) h fun _ h =>
 go (CallF Try.prog 56 [t0_2, t9_1, t12, t8_1, t3_2]) h fun t59 h =>
 go (Bin .int .sub t12 (.int .i64 1)) h fun t35 h =>
 X2 t0_2 t3_2 t8_1 t9_1 t35 h) (
 K (.tuple #[]) h)) [t0_1, t3_1, t8, t9, t31] h)) [t0, t3, t1, (.int .i64 0), t16, t19] h
set_option maxRecDepth 100000 in
theorem slices_heapSortCmpFunc_int.eq : (fun t0 t1 t2 t3 K h => slices_heapSortCmpFunc_int.pt t0 t1 t2 t3 K h : Value → Value → Value → Value → Ret → Heap → Prop) = (fun t0 t1 t2 t3 K h => fnPt Try.prog [14, 15, 16, 20, 24, 35, 38, 39, 40, 13, 33, 34] Try.f47 slices_heapSortCmpFunc_int.ann [t0, t1, t2, t3] K h) := by kernel_rfl
set_option maxRecDepth 100000 in
theorem slices_heapSortCmpFunc_int.ok {t0 t1 t2 t3 : Value} {K : Ret} {h : Heap} (hp : slices_heapSortCmpFunc_int.pt t0 t1 t2 t3 K h) : CallH Try.prog 47 #[t0, t1, t2, t3] K h :=
  fn_sound (qs := [14, 15, 16, 20, 24, 35, 38, 39, 40, 13, 33, 34]) (fn := Try.f47) (ann := slices_heapSortCmpFunc_int.ann) (args := [t0, t1, t2, t3]) follows_mixed Try.func47 ((Eq.to_iff (congrFun (congrFun (congrFun (congrFun (congrFun (congrFun (slices_heapSortCmpFunc_int.eq) t0) t1) t2) t3) K) h)).mp hp)

/-! ### slices.breakPatternsCmpFunc[int]: function 48 -/
abbrev slices_breakPatternsCmpFunc_int.id : FuncId := 48
def slices_breakPatternsCmpFunc_int.ann : Ann := (.seq none .leaf (.seq none .leaf (.cond (.seq none .leaf (.seq none .leaf (.seq none .leaf (.block (.loop [0, 1, 8, 9, 10, 11] (.seq none (.seq none .leaf (.cond .leaf .leaf)) (.seq none (.block (.seq none .leaf (.seq (some [0, 1, 8, 9, 10, 11, 12]) (.seq none .leaf (.cond .leaf .leaf)) .leaf))) .leaf))))))) .leaf)))
set_option maxRecDepth 100000 in
def slices_breakPatternsCmpFunc_int.pt (t0 t1 t2 t3 : Value) (K : Ret) (h : Heap) : Prop :=
 go (Bin .int .sub t2 t1) h fun t15 h =>
 go (Bin .int .geq t15 (.int .i64 8)) h fun t17 h =>
 If t17 (
 go (Cvt .u64 t15) h fun t19 h =>
 go (New #[(.int .u64 0)] 75) h fun t9 h =>
 go (St t9 t19) h fun _ h =>
 go (CallF Try.prog 57 [t15]) h fun t21 h =>
 go (Bin .int .quo t15 (.int .i64 4)) h fun t24 h =>
 go (Bin .int .mul t24 (.int .i64 2)) h fun t25 h =>
 go (Bin .int .add t1 t25) h fun t26 h =>
 go (Bin .int .sub t26 (.int .i64 1)) h fun t27 h =>
 Lp 6 (fun X1 t0_1 t1_1 t8 t9_1 t10 t11 h =>
 go (Bin .int .quo t8 (.int .i64 4)) h fun t31 h =>
 go (Bin .int .mul t31 (.int .i64 2)) h fun t32 h =>
 go (Bin .int .add t1_1 t32) h fun t33 h =>
 go (Bin .int .add t33 (.int .i64 1)) h fun t34 h =>
 go (Bin .int .leq t11 t34) h fun t35 h =>
 If t35 (
 go (CallF Try.prog 58 [t9_1]) h fun t38 h =>
 go (Bin .int .sub t10 (.int .u64 1)) h fun t40 h =>
 go (Bin .int .and t38 t40) h fun t41 h =>
 go (Cvt .i64 t41) h fun t42 h =>
 Join 7 (fun J2 =>
 go (Bin .int .geq t42 t8) h fun t45 h =>
 If t45 (
 go (Bin .int .sub t42 t8) h fun t48 h =>
 J2 t0_1 t1_1 t8 t9_1 t10 t11 t48 h) (
 J2 t0_1 t1_1 t8 t9_1 t10 t11 t42 h)) (fun t0_2 t1_2 t8_1 t9_2 t10_1 t11_1 t12 h =>
 go (Bin .int .add t1_2 t12) h fun t54 h =>
 go (Bin .int .add t1_2 t12) h fun t58 h =>
 go (Idx 1 t0_2 t58) h fun t59 h =>
 go (Ld t59) h fun t60 h =>
 go (Idx 1 t0_2 t11_1) h fun t63 h =>
 go (Ld t63) h fun t64 h =>
 go (Idx 1 t0_2 t11_1) h fun t65 h =>
 go (St t65 t60) h fun _ h =>
 go (Idx 1 t0_2 t54) h fun t66 h =>
 go (St t66 t64) h fun _ h =>
 go (Bin .int .add t11_1 (.int .i64 1)) h fun t37 h =>
 X1 t0_2 t1_2 t8_1 t9_2 t10_1 t37 h)) (
 K (.tuple #[]) h)) [t0, t1, t15, t9, t21, t27] h) (
 K (.tuple #[]) h)
set_option maxRecDepth 100000 in
theorem slices_breakPatternsCmpFunc_int.eq : (fun t0 t1 t2 t3 K h => slices_breakPatternsCmpFunc_int.pt t0 t1 t2 t3 K h : Value → Value → Value → Value → Ret → Heap → Prop) = (fun t0 t1 t2 t3 K h => fnPt Try.prog [14, 15, 16, 20, 24, 35, 38, 39, 40, 13, 33, 34] Try.f48 slices_breakPatternsCmpFunc_int.ann [t0, t1, t2, t3] K h) := by kernel_rfl
set_option maxRecDepth 100000 in
theorem slices_breakPatternsCmpFunc_int.ok {t0 t1 t2 t3 : Value} {K : Ret} {h : Heap} (hp : slices_breakPatternsCmpFunc_int.pt t0 t1 t2 t3 K h) : CallH Try.prog 48 #[t0, t1, t2, t3] K h :=
  fn_sound (qs := [14, 15, 16, 20, 24, 35, 38, 39, 40, 13, 33, 34]) (fn := Try.f48) (ann := slices_breakPatternsCmpFunc_int.ann) (args := [t0, t1, t2, t3]) follows_mixed Try.func48 ((Eq.to_iff (congrFun (congrFun (congrFun (congrFun (congrFun (congrFun (slices_breakPatternsCmpFunc_int.eq) t0) t1) t2) t3) K) h)).mp hp)

/-! ### slices.choosePivotCmpFunc[int]: function 49 -/
abbrev slices_choosePivotCmpFunc_int.id : FuncId := 49
def slices_choosePivotCmpFunc_int.ann : Ann := (.seq none .leaf (.seq none .leaf (.seq none .leaf (.seq none .leaf (.seq none .leaf (.seq none .leaf (.seq (some [11, 13]) (.seq none .leaf (.cond (.seq (some [0, 3, 11, 12, 13, 14]) (.seq none .leaf (.cond (.seq none .leaf (.seq none .leaf .leaf)) .leaf)) .leaf) .leaf)) (.seq none .leaf (.block (.seq none .leaf (.cond (.seq none .leaf .leaf) (.seq none .leaf (.cond (.seq none .leaf .leaf) (.seq none .leaf .leaf))))))))))))))
set_option maxRecDepth 100000 in
def slices_choosePivotCmpFunc_int.pt (t0 t1 t2 t3 : Value) (K : Ret) (h : Heap) : Prop :=
 go (Bin .int .sub t2 t1) h fun t17 h =>
 go (New #[(.int .i64 0)] 3) h fun t11 h =>
 go (Bin .int .quo t17 (.int .i64 4)) h fun t20 h =>
 go (Bin .int .mul t20 (.int .i64 1)) h fun t21 h =>
 go (Bin .int .add t1 t21) h fun t22 h =>
 go (Bin .int .quo t17 (.int .i64 4)) h fun t25 h =>
 go (Bin .int .mul t25 (.int .i64 2)) h fun t26 h =>
 go (Bin .int .add t1 t26) h fun t27 h =>
 go (Bin .int .quo t17 (.int .i64 4)) h fun t30 h =>
 go (Bin .int .mul t30 (.int .i64 3)) h fun t31 h =>
 go (Bin .int .add t1 t31) h fun t32 h =>
 Join 2 (fun J1 =>
 go (Bin .int .geq t17 (.int .i64 8)) h fun t34 h =>
 If t34 (
 Join 6 (fun J2 =>
 go (Bin .int .geq t17 (.int .i64 50)) h fun t36 h =>
 If t36 (
 go (CallF Try.prog 59 [t0, t22, t11, t3]) h fun t40 h =>
 go (CallF Try.prog 59 [t0, t27, t11, t3]) h fun t44 h =>
 go (CallF Try.prog 59 [t0, t32, t11, t3]) h fun t48 h =>
 J2 t0 t3 t11 t40 t44 t48 h) (
 J2 t0 t3 t11 t22 t27 t32 h)) (fun t0_1 t3_1 t11_1 t12 t13 t14 h =>
 go (CallF Try.prog 60 [t0_1, t12, t13, t14, t11_1, t3_1]) h fun t54 h =>
 J1 t11_1 t54 h)) (
 J1 t11 t27 h)) (fun t11_2 t13_1 h =>
 go (Ld t11_2) h fun t55 h =>
 go (Bin .int .eql t55 (.int .i64 0)) h fun t58 h =>
 If t58 (
 K (.tuple #[t13_1, (.int .i64 1)]) h) (
 go (Bin .int .eql t55 (.int .i64 12)) h fun t61 h =>
 If t61 (
 K (.tuple #[t13_1, (.int .i64 2)]) h) (
 K (.tuple #[t13_1, (.int .i64 0)]) h)))
set_option maxRecDepth 100000 in
theorem slices_choosePivotCmpFunc_int.eq : (fun t0 t1 t2 t3 K h => slices_choosePivotCmpFunc_int.pt t0 t1 t2 t3 K h : Value → Value → Value → Value → Ret → Heap → Prop) = (fun t0 t1 t2 t3 K h => fnPt Try.prog [14, 15, 16, 20, 24, 35, 38, 39, 40, 13, 33, 34] Try.f49 slices_choosePivotCmpFunc_int.ann [t0, t1, t2, t3] K h) := by kernel_rfl
set_option maxRecDepth 100000 in
theorem slices_choosePivotCmpFunc_int.ok {t0 t1 t2 t3 : Value} {K : Ret} {h : Heap} (hp : slices_choosePivotCmpFunc_int.pt t0 t1 t2 t3 K h) : CallH Try.prog 49 #[t0, t1, t2, t3] K h :=
  fn_sound (qs := [14, 15, 16, 20, 24, 35, 38, 39, 40, 13, 33, 34]) (fn := Try.f49) (ann := slices_choosePivotCmpFunc_int.ann) (args := [t0, t1, t2, t3]) follows_mixed Try.func49 ((Eq.to_iff (congrFun (congrFun (congrFun (congrFun (congrFun (congrFun (slices_choosePivotCmpFunc_int.eq) t0) t1) t2) t3) K) h)).mp hp)

/-! ### slices.reverseRangeCmpFunc[int]: function 50 -/
abbrev slices_reverseRangeCmpFunc_int.id : FuncId := 50
def slices_reverseRangeCmpFunc_int.ann : Ann := (.seq none .leaf (.seq none .leaf (.block (.loop [0, 8, 9] (.seq none (.seq none .leaf (.cond .leaf .leaf)) (.block (.seq none .leaf (.seq none .leaf .leaf))))))))
set_option maxRecDepth 100000 in
def slices_reverseRangeCmpFunc_int.pt (t0 t1 t2 t3 : Value) (K : Ret) (h : Heap) : Prop :=
 go (Bin .int .sub t2 (.int .i64 1)) h fun t12 h =>
 Lp 3 (fun X1 t0_1 t8 t9 h =>
 go (Bin .int .lss t8 t9) h fun t15 h =>
 If t15 (
 go (Idx 1 t0_1 t9) h fun t22 h =>
 go (Ld t22) h fun t23 h =>
 go (Idx 1 t0_1 t8) h fun t26 h =>
 go (Ld t26) h fun t27 h =>
 go (Idx 1 t0_1 t8) h fun t28 h =>
 go (St t28 t23) h fun _ h =>
 go (Idx 1 t0_1 t9) h fun t29 h =>
 go (St t29 t27) h fun _ h =>
 go (Bin .int .add t8 (.int .i64 1)) h fun t31 h =>
 go (Bin .int .sub t9 (.int .i64 1)) h fun t33 h =>
 X1 t0_1 t31 t33 h) (
 K (.tuple #[]) h)) [t0, t1, t12] h
set_option maxRecDepth 100000 in
theorem slices_reverseRangeCmpFunc_int.eq : (fun t0 t1 t2 t3 K h => slices_reverseRangeCmpFunc_int.pt t0 t1 t2 t3 K h : Value → Value → Value → Value → Ret → Heap → Prop) = (fun t0 t1 t2 t3 K h => fnPt Try.prog [14, 15, 16, 20, 24, 35, 38, 39, 40, 13, 33, 34] Try.f50 slices_reverseRangeCmpFunc_int.ann [t0, t1, t2, t3] K h) := by kernel_rfl
set_option maxRecDepth 100000 in
theorem slices_reverseRangeCmpFunc_int.ok {t0 t1 t2 t3 : Value} {K : Ret} {h : Heap} (hp : slices_reverseRangeCmpFunc_int.pt t0 t1 t2 t3 K h) : CallH Try.prog 50 #[t0, t1, t2, t3] K h :=
  fn_sound (qs := [14, 15, 16, 20, 24, 35, 38, 39, 40, 13, 33, 34]) (fn := Try.f50) (ann := slices_reverseRangeCmpFunc_int.ann) (args := [t0, t1, t2, t3]) follows_mixed Try.func50 ((Eq.to_iff (congrFun (congrFun (congrFun (congrFun (congrFun (congrFun (slices_reverseRangeCmpFunc_int.eq) t0) t1) t2) t3) K) h)).mp hp)

/-! ### slices.partialInsertionSortCmpFunc[int]: function 51 -/
abbrev slices_partialInsertionSortCmpFunc_int.id : FuncId := 51
def slices_partialInsertionSortCmpFunc_int.ann : Ann := (.seq none .leaf (.seq none .leaf (.seq none (.seq none .leaf (.block (.loop [0, 1, 2, 3, 9, 10] (.seq none (.seq none .leaf (.cond .leaf .leaf)) (.seq (some [0, 1, 2, 3, 9, 10]) (.block (.seq none (.block (.loop [0, 1, 2, 3, 9, 10] (.seq none (.seq none .leaf (.cond .leaf .leaf)) (.block .leaf)))) (.seq none (.seq none .leaf (.cond (.seq none .leaf .leaf) .leaf)) (.seq none (.seq none .leaf (.cond (.seq none .leaf .leaf) .leaf)) (.seq none .leaf (.seq (some [0, 1, 2, 3, 9, 10]) (.seq none .leaf (.cond (.seq none .leaf (.block (.loop [0, 1, 2, 3, 9, 10, 11] (.seq none (.seq none .leaf (.cond .leaf .leaf)) (.seq none (.block (.seq none (.seq none .leaf (.cond .leaf .leaf)) .leaf)) .leaf))))) .leaf)) (.seq none .leaf (.cond (.seq none .leaf (.block (.loop [0, 1, 2, 3, 9, 10, 12] (.seq none (.seq none .leaf (.cond .leaf .leaf)) (.seq none (.block (.seq none (.seq none .leaf (.cond .leaf .leaf)) .leaf)) .leaf))))) .leaf)))))))) .leaf))))) (.seq none .leaf .leaf))))
set_option maxRecDepth 100000 in
def slices_partialInsertionSortCmpFunc_int.pt (t0 t1 t2 t3 : Value) (K : Ret) (h : Heap) : Prop :=
 go (Bin .int .add t1 (.int .i64 1)) h fun t14 h =>
 Lp 6 (fun X1 t0_1 t1_1 t2_1 t3_1 t9 t10 h =>
 go (Bin .int .lss t10 (.int .i64 5)) h fun t16 h =>
 If t16 (
 Join 6 (fun J2 =>
 Lp 6 (fun X3 t0_2 t1_2 t2_2 t3_2 t9_1 t10_1 h =>
 go (Bin .int .lss t9_1 t2_2) h fun t21 h =>
 go (Gd t21 true (Mv t3_2)) h fun t23 h =>
 go (Gd t21 true (Mv t0_2)) h fun t24 h =>
 go (Gd t21 true (Mv t9_1)) h fun t25 h =>
 go (Gd t21 true (Idx 1 t24 t25)) h fun t26 h =>
 go (Gd t21 true (Ld t26)) h fun t27 h =>
 go (Gd t21 true (Mv t0_2)) h fun t28 h =>
 go (Gd t21 true (Mv t9_1)) h fun t29 h =>
 go (Gd t21 true (Bin .int .sub t29 (.int .i64 1))) h fun t30 h =>
 go (Gd t21 true (Idx 1 t28 t30)) h fun t31 h =>
 go (Gd t21 true (Ld t31)) h fun t32 h =>
 go (Gd t21 true (CallV Try.prog t23 [t27, t32])) h fun t33 h =>
 go (Gd t21 true (Bin .int .lss t33 (.int .i64 0))) h fun t34 h =>
 go (Gd t21 true (Un .not t34)) h fun t35 h =>
 go (Pick t21 t35 (.bool false)) h fun t36 h =>
 If t36 (
 go (Bin .int .add t9_1 (.int .i64 1)) h fun t38 h =>
 X3 t0_2 t1_2 t2_2 t3_2 t38 t10_1 h) (
 go (Bin .int .eql t9_1 t2_2) h fun t41 h =>
 If t41 (
 K (.bool true) h) (
 go (Bin .int .sub t2_2 t1_2) h fun t44 h =>
 go (Bin .int .lss t44 (.int .i64 50)) h fun t45 h =>
 If t45 (
 K (.bool false) h) (
 go (Bin .int .sub t9_1 (.int .i64 1)) h fun t50 h =>
 go (Bin .int .sub t9_1 (.int .i64 1)) h fun t53 h =>
 go (Idx 1 t0_2 t53) h fun t54 h =>
 go (Ld t54) h fun t55 h =>
 go (Idx 1 t0_2 t9_1) h fun t58 h =>
 go (Ld t58) h fun t59 h =>
 go (Idx 1 t0_2 t9_1) h fun t60 h =>
 go (St t60 t55) h fun _ h =>
 go (Idx 1 t0_2 t50) h fun t61 h =>
 go (St t61 t59) h fun _ h =>
 Join 6 (fun J4 =>
 go (Bin .int .sub t9_1 t1_2) h fun t64 h =>
 go (Bin .int .geq t64 (.int .i64 2)) h fun t65 h =>
 If t65 (
 go (Bin .int .sub t9_1 (.int .i64 1)) h fun t67 h =>
 Lp 7 (fun X5 t0_3 t1_3 t2_3 t3_3 t9_2 t10_2 t11 h =>
 go (Bin .int .geq t11 (.int .i64 1)) h fun t69 h =>
 If t69 (
 go (Idx 1 t0_3 t11) h fun t75 h =>
 go (Ld t75) h fun t76 h =>
 go (Bin .int .sub t11 (.int .i64 1)) h fun t79 h =>
 go (Idx 1 t0_3 t79) h fun t80 h =>
 go (Ld t80) h fun t81 h =>
 go (CallV Try.prog t3_3 [t76, t81]) h fun t82 h =>
 go (Bin .int .lss t82 (.int .i64 0)) h fun t83 h =>
 go (Un .not t83) h fun t84 h =>
 If t84 (
 J4 t0_3 t1_3 t2_3 t3_3 t9_2 t10_2 h) (
 go (Bin .int .sub t11 (.int .i64 1)) h fun t89 h =>
 go (Bin .int .sub t11 (.int .i64 1)) h fun t92 h =>
 go (Idx 1 t0_3 t92) h fun t93 h =>
 go (Ld t93) h fun t94 h =>
 go (Idx 1 t0_3 t11) h fun t97 h =>
 go (Ld t97) h fun t98 h =>
 go (Idx 1 t0_3 t11) h fun t99 h =>
 go (St t99 t94) h fun _ h =>
 go (Idx 1 t0_3 t89) h fun t100 h =>
 go (St t100 t98) h fun _ h =>
 go (Bin .int .sub t11 (.int .i64 1)) h fun t71 h =>
 X5 t0_3 t1_3 t2_3 t3_3 t9_2 t10_2 t71 h)) (
 J4 t0_3 t1_3 t2_3 t3_3 t9_2 t10_2 h)) [t0_2, t1_2, t2_2, t3_2, t9_1, t10_1, t67] h) (
 J4 t0_2 t1_2 t2_2 t3_2 t9_1 t10_1 h)) (fun t0_4 t1_4 t2_4 t3_4 t9_3 t10_3 h =>
 go (Bin .int .sub t2_4 t9_3) h fun t103 h =>
 go (Bin .int .geq t103 (.int .i64 2)) h fun t104 h =>
 If t104 (
 go (Bin .int .add t9_3 (.int .i64 1)) h fun t106 h =>
 Lp 7 (fun X6 t0_5 t1_5 t2_5 t3_5 t9_4 t10_4 t12 h =>
 go (Bin .int .lss t12 t2_5) h fun t109 h =>
 If t109 (
 go (Idx 1 t0_5 t12) h fun t115 h =>
 go (Ld t115) h fun t116 h =>
 go (Bin .int .sub t12 (.int .i64 1)) h fun t119 h =>
 go (Idx 1 t0_5 t119) h fun t120 h =>
 go (Ld t120) h fun t121 h =>
 go (CallV Try.prog t3_5 [t116, t121]) h fun t122 h =>
 go (Bin .int .lss t122 (.int .i64 0)) h fun t123 h =>
 go (Un .not t123) h fun t124 h =>
 If t124 (
 J2 t0_5 t1_5 t2_5 t3_5 t9_4 t10_4 h) (
 go (Bin .int .sub t12 (.int .i64 1)) h fun t129 h =>
 go (Bin .int .sub t12 (.int .i64 1)) h fun t132 h =>
 go (Idx 1 t0_5 t132) h fun t133 h =>
 go (Ld t133) h fun t134 h =>
 go (Idx 1 t0_5 t12) h fun t137 h =>
 go (Ld t137) h fun t138 h =>
 go (Idx 1 t0_5 t12) h fun t139 h =>
 go (St t139 t134) h fun _ h =>
 go (Idx 1 t0_5 t129) h fun t140 h =>
 go (St t140 t138) h fun _ h =>
 go (Bin .int .add t12 (.int .i64 1)) h fun t111 h =>
 X6 t0_5 t1_5 t2_5 t3_5 t9_4 t10_4 t111 h)) (
 J2 t0_5 t1_5 t2_5 t3_5 t9_4 t10_4 h)) [t0_4, t1_4, t2_4, t3_4, t9_3, t10_3, t106] h) (
 J2 t0_4 t1_4 t2_4 t3_4 t9_3 t10_3 h)))))) [t0_1, t1_1, t2_1, t3_1, t9, t10] h) (fun t0_6 t1_6 t2_6 t3_6 t9_5 t10_5 h =>
 go (Bin .int .add t10_5 (.int .i64 1)) h fun t18 h =>
 X1 t0_6 t1_6 t2_6 t3_6 t9_5 t18 h)) (
 K (.bool false) h)) [t0, t1, t2, t3, t14, (.int .i64 0)] h
set_option maxRecDepth 100000 in
theorem slices_partialInsertionSortCmpFunc_int.eq : (fun t0 t1 t2 t3 K h => slices_partialInsertionSortCmpFunc_int.pt t0 t1 t2 t3 K h : Value → Value → Value → Value → Ret → Heap → Prop) = (fun t0 t1 t2 t3 K h => fnPt Try.prog [14, 15, 16, 20, 24, 35, 38, 39, 40, 13, 33, 34] Try.f51 slices_partialInsertionSortCmpFunc_int.ann [t0, t1, t2, t3] K h) := by kernel_rfl
set_option maxRecDepth 100000 in
theorem slices_partialInsertionSortCmpFunc_int.ok {t0 t1 t2 t3 : Value} {K : Ret} {h : Heap} (hp : slices_partialInsertionSortCmpFunc_int.pt t0 t1 t2 t3 K h) : CallH Try.prog 51 #[t0, t1, t2, t3] K h :=
  fn_sound (qs := [14, 15, 16, 20, 24, 35, 38, 39, 40, 13, 33, 34]) (fn := Try.f51) (ann := slices_partialInsertionSortCmpFunc_int.ann) (args := [t0, t1, t2, t3]) follows_mixed Try.func51 ((Eq.to_iff (congrFun (congrFun (congrFun (congrFun (congrFun (congrFun (slices_partialInsertionSortCmpFunc_int.eq) t0) t1) t2) t3) K) h)).mp hp)

/-! ### slices.partitionEqualCmpFunc[int]: function 52 -/
abbrev slices_partitionEqualCmpFunc_int.id : FuncId := 52
def slices_partitionEqualCmpFunc_int.ann : Ann := (.seq none .leaf (.seq none .leaf (.seq none .leaf (.seq none (.block (.loop [0, 1, 4, 11, 12] (.block (.seq none (.block (.loop [0, 1, 4, 11, 12] (.seq none (.seq none .leaf (.cond .leaf .leaf)) (.block .leaf)))) (.seq none (.block (.loop [0, 1, 4, 11, 12] (.seq none (.seq none .leaf (.cond .leaf .leaf)) (.block .leaf)))) (.seq none (.seq none .leaf (.cond .leaf .leaf)) (.seq none .leaf (.seq none .leaf .leaf)))))))) (.seq none .leaf .leaf)))))
set_option maxRecDepth 100000 in
def slices_partitionEqualCmpFunc_int.pt (t0 t1 t2 t3 t4 : Value) (K : Ret) (h : Heap) : Prop :=
 go (Idx 1 t0 t3) h fun t19 h =>
 go (Ld t19) h fun t20 h =>
 go (Idx 1 t0 t1) h fun t23 h =>
 go (Ld t23) h fun t24 h =>
 go (Idx 1 t0 t1) h fun t25 h =>
 go (St t25 t20) h fun _ h =>
 go (Idx 1 t0 t3) h fun t26 h =>
 go (St t26 t24) h fun _ h =>
 go (Bin .int .add t1 (.int .i64 1)) h fun t28 h =>
 go (Bin .int .sub t2 (.int .i64 1)) h fun t30 h =>
 Lp 5 (fun X1 t0_1 t1_1 t4_1 t11 t12 h =>
 Lp 5 (fun X2 t0_2 t1_2 t4_2 t11_1 t12_1 h =>
 go (Bin .int .leq t11_1 t12_1) h fun t33 h =>
 go (Gd t33 true (Mv t4_2)) h fun t35 h =>
 go (Gd t33 true (Mv t0_2)) h fun t36 h =>
 go (Gd t33 true (Mv t1_2)) h fun t37 h =>
 go (Gd t33 true (Idx 1 t36 t37)) h fun t38 h =>
 go (Gd t33 true (Ld t38)) h fun t39 h =>
 go (Gd t33 true (Mv t0_2)) h fun t40 h =>
 go (Gd t33 true (Mv t11_1)) h fun t41 h =>
 go (Gd t33 true (Idx 1 t40 t41)) h fun t42 h =>
 go (Gd t33 true (Ld t42)) h fun t43 h =>
 go (Gd t33 true (CallV Try.prog t35 [t39, t43])) h fun t44 h =>
 go (Gd t33 true (Bin .int .lss t44 (.int .i64 0))) h fun t45 h =>
 go (Gd t33 true (Un .not t45)) h fun t46 h =>
 go (Pick t33 t46 (.bool false)) h fun t47 h =>
 If t47 (
 go (Bin .int .add t11_1 (.int .i64 1)) h fun t49 h =>
 X2 t0_2 t1_2 t4_2 t49 t12_1 h) (
 Lp 5 (fun X3 t0_3 t1_3 t4_3 t11_2 t12_2 h =>
 go (Bin .int .leq t11_2 t12_2) h fun t52 h =>
 go (Gd t52 true (Mv t4_3)) h fun t54 h =>
 go (Gd t52 true (Mv t0_3)) h fun t55 h =>
 go (Gd t52 true (Mv t1_3)) h fun t56 h =>
 go (Gd t52 true (Idx 1 t55 t56)) h fun t57 h =>
 go (Gd t52 true (Ld t57)) h fun t58 h =>
 go (Gd t52 true (Mv t0_3)) h fun t59 h =>
 go (Gd t52 true (Mv t12_2)) h fun t60 h =>
 go (Gd t52 true (Idx 1 t59 t60)) h fun t61 h =>
 go (Gd t52 true (Ld t61)) h fun t62 h =>
 go (Gd t52 true (CallV Try.prog t54 [t58, t62])) h fun t63 h =>
 go (Gd t52 true (Bin .int .lss t63 (.int .i64 0))) h fun t64 h =>
 go (Pick t52 t64 (.bool false)) h fun t65 h =>
 If t65 (
 go (Bin .int .sub t12_2 (.int .i64 1)) h fun t67 h =>
 X3 t0_3 t1_3 t4_3 t11_2 t67 h) (
 go (Bin .int .gtr t11_2 t12_2) h fun t70 h =>
 If t70 (
 K t11_2 h) (
 go (Idx 1 t0_3 t12_2) h fun t77 h =>
 go (Ld t77) h fun t78 h =>
 go (Idx 1 t0_3 t11_2) h fun t81 h =>
 go (Ld t81) h fun t82 h =>
 go (Idx 1 t0_3 t11_2) h fun t83 h =>
 go (St t83 t78) h fun _ h =>
 go (Idx 1 t0_3 t12_2) h fun t84 h =>
 go (St t84 t82) h fun _ h =>
 go (Bin .int .add t11_2 (.int .i64 1)) h fun t86 h =>
 go (Bin .int .sub t12_2 (.int .i64 1)) h fun t88 h =>
 X1 t0_3 t1_3 t4_3 t86 t88 h))) [t0_2, t1_2, t4_2, t11_1, t12_1] h)) [t0_1, t1_1, t4_1, t11, t12] h) [t0, t1, t4, t28, t30] h
set_option maxRecDepth 100000 in
theorem slices_partitionEqualCmpFunc_int.eq : (fun t0 t1 t2 t3 t4 K h => slices_partitionEqualCmpFunc_int.pt t0 t1 t2 t3 t4 K h : Value → Value → Value → Value → Value → Ret → Heap → Prop) = (fun t0 t1 t2 t3 t4 K h => fnPt Try.prog [14, 15, 16, 20, 24, 35, 38, 39, 40, 13, 33, 34] Try.f52 slices_partitionEqualCmpFunc_int.ann [t0, t1, t2, t3, t4] K h) := by kernel_rfl
set_option maxRecDepth 100000 in
theorem slices_partitionEqualCmpFunc_int.ok {t0 t1 t2 t3 t4 : Value} {K : Ret} {h : Heap} (hp : slices_partitionEqualCmpFunc_int.pt t0 t1 t2 t3 t4 K h) : CallH Try.prog 52 #[t0, t1, t2, t3, t4] K h :=
  fn_sound (qs := [14, 15, 16, 20, 24, 35, 38, 39, 40, 13, 33, 34]) (fn := Try.f52) (ann := slices_partitionEqualCmpFunc_int.ann) (args := [t0, t1, t2, t3, t4]) follows_mixed Try.func52 ((Eq.to_iff (congrFun (congrFun (congrFun (congrFun (congrFun (congrFun (congrFun (slices_partitionEqualCmpFunc_int.eq) t0) t1) t2) t3) t4) K) h)).mp hp)

/-! ### slices.partitionCmpFunc[int]: function 53 -/
abbrev slices_partitionCmpFunc_int.id : FuncId := 53
def slices_partitionCmpFunc_int.ann : Ann := (.seq none .leaf (.seq none .leaf (.seq none .leaf (.seq none (.block (.loop [0, 1, 4, 12, 13] (.seq none (.seq none .leaf (.cond .leaf .leaf)) (.block .leaf)))) (.seq none (.block (.loop [0, 1, 4, 12, 13] (.seq none (.seq none .leaf (.cond .leaf .leaf)) (.block .leaf)))) (.seq none (.seq none .leaf (.cond (.seq none .leaf (.seq none .leaf .leaf)) .leaf)) (.seq none .leaf (.seq none .leaf (.seq none .leaf (.seq none (.block (.loop [0, 1, 4, 12, 13] (.block (.seq none (.block (.loop [0, 1, 4, 12, 13] (.seq none (.seq none .leaf (.cond .leaf .leaf)) (.block .leaf)))) (.seq none (.block (.loop [0, 1, 4, 12, 13] (.seq none (.seq none .leaf (.cond .leaf .leaf)) (.block .leaf)))) (.seq none (.seq none .leaf (.cond .leaf .leaf)) (.seq none .leaf (.seq none .leaf .leaf)))))))) (.seq none .leaf (.seq none .leaf .leaf))))))))))))
set_option maxRecDepth 100000 in
def slices_partitionCmpFunc_int.pt (t0 t1 t2 t3 t4 : Value) (K : Ret) (h : Heap) : Prop :=
 go (Idx 1 t0 t3) h fun t20 h =>
 go (Ld t20) h fun t21 h =>
 go (Idx 1 t0 t1) h fun t24 h =>
 go (Ld t24) h fun t25 h =>
 go (Idx 1 t0 t1) h fun t26 h =>
 go (St t26 t21) h fun _ h =>
 go (Idx 1 t0 t3) h fun t27 h =>
 go (St t27 t25) h fun _ h =>
 go (Bin .int .add t1 (.int .i64 1)) h fun t29 h =>
 go (Bin .int .sub t2 (.int .i64 1)) h fun t31 h =>
 Lp 5 (fun X1 t0_1 t1_1 t4_1 t12 t13 h =>
 go (Bin .int .leq t12 t13) h fun t34 h =>
 go (Gd t34 true (Mv t4_1)) h fun t36 h =>
 go (Gd t34 true (Mv t0_1)) h fun t37 h =>
 go (Gd t34 true (Mv t12)) h fun t38 h =>
 go (Gd t34 true (Idx 1 t37 t38)) h fun t39 h =>
 go (Gd t34 true (Ld t39)) h fun t40 h =>
 go (Gd t34 true (Mv t0_1)) h fun t41 h =>
 go (Gd t34 true (Mv t1_1)) h fun t42 h =>
 go (Gd t34 true (Idx 1 t41 t42)) h fun t43 h =>
 go (Gd t34 true (Ld t43)) h fun t44 h =>
 go (Gd t34 true (CallV Try.prog t36 [t40, t44])) h fun t45 h =>
 go (Gd t34 true (Bin .int .lss t45 (.int .i64 0))) h fun t46 h =>
 go (Pick t34 t46 (.bool false)) h fun t47 h =>
 If t47 (
 go (Bin .int .add t12 (.int .i64 1)) h fun t49 h =>
 X1 t0_1 t1_1 t4_1 t49 t13 h) (
 Lp 5 (fun X2 t0_2 t1_2 t4_2 t12_1 t13_1 h =>
 go (Bin .int .leq t12_1 t13_1) h fun t52 h =>
 go (Gd t52 true (Mv t4_2)) h fun t54 h =>
 go (Gd t52 true (Mv t0_2)) h fun t55 h =>
 go (Gd t52 true (Mv t13_1)) h fun t56 h =>
 go (Gd t52 true (Idx 1 t55 t56)) h fun t57 h =>
 go (Gd t52 true (Ld t57)) h fun t58 h =>
 go (Gd t52 true (Mv t0_2)) h fun t59 h =>
 go (Gd t52 true (Mv t1_2)) h fun t60 h =>
 go (Gd t52 true (Idx 1 t59 t60)) h fun t61 h =>
 go (Gd t52 true (Ld t61)) h fun t62 h =>
 go (Gd t52 true (CallV Try.prog t54 [t58, t62])) h fun t63 h =>
 go (Gd t52 true (Bin .int .lss t63 (.int .i64 0))) h fun t64 h =>
 go (Gd t52 true (Un .not t64)) h fun t65 h =>
 go (Pick t52 t65 (.bool false)) h fun t66 h =>
 If t66 (
 go (Bin .int .sub t13_1 (.int .i64 1)) h fun t68 h =>
 X2 t0_2 t1_2 t4_2 t12_1 t68 h) (
 go (Bin .int .gtr t12_1 t13_1) h fun t71 h =>
 If t71 (
 go (Idx 1 t0_2 t1_2) h fun t78 h =>
 go (Ld t78) h fun t79 h =>
 go (Idx 1 t0_2 t13_1) h fun t82 h =>
 go (Ld t82) h fun t83 h =>
 go (Idx 1 t0_2 t13_1) h fun t84 h =>
 go (St t84 t79) h fun _ h =>
 go (Idx 1 t0_2 t1_2) h fun t85 h =>
 go (St t85 t83) h fun _ h =>
 K (.tuple #[t13_1, (.bool true)]) h) (
 go (Idx 1 t0_2 t13_1) h fun t93 h =>
 go (Ld t93) h fun t94 h =>
 go (Idx 1 t0_2 t12_1) h fun t97 h =>
 go (Ld t97) h fun t98 h =>
 go (Idx 1 t0_2 t12_1) h fun t99 h =>
 go (St t99 t94) h fun _ h =>
 go (Idx 1 t0_2 t13_1) h fun t100 h =>
 go (St t100 t98) h fun _ h =>
 go (Bin .int .add t12_1 (.int .i64 1)) h fun t102 h =>
 go (Bin .int .sub t13_1 (.int .i64 1)) h fun t104 h =>
 Lp 5 (fun X3 t0_3 t1_3 t4_3 t12_2 t13_2 h =>
 Lp 5 (fun X4 t0_4 t1_4 t4_4 t12_3 t13_3 h =>
 go (Bin .int .leq t12_3 t13_3) h fun t107 h =>
 go (Gd t107 true (Mv t4_4)) h fun t109 h =>
 go (Gd t107 true (Mv t0_4)) h fun t110 h =>
 go (Gd t107 true (Mv t12_3)) h fun t111 h =>
 go (Gd t107 true (Idx 1 t110 t111)) h fun t112 h =>
 go (Gd t107 true (Ld t112)) h fun t113 h =>
 go (Gd t107 true (Mv t0_4)) h fun t114 h =>
 go (Gd t107 true (Mv t1_4)) h fun t115 h =>
 go (Gd t107 true (Idx 1 t114 t115)) h fun t116 h =>
 go (Gd t107 true (Ld t116)) h fun t117 h =>
 go (Gd t107 true (CallV Try.prog t109 [t113, t117])) h fun t118 h =>
 go (Gd t107 true (Bin .int .lss t118 (.int .i64 0))) h fun t119 h =>
 go (Pick t107 t119 (.bool false)) h fun t120 h =>
 If t120 (
 go (Bin .int .add t12_3 (.int .i64 1)) h fun t122 h =>
 X4 t0_4 t1_4 t4_4 t122 t13_3 h) (
 Lp 5 (fun X5 t0_5 t1_5 t4_5 t12_4 t13_4 h =>
 go (Bin .int .leq t12_4 t13_4) h fun t125 h =>
 go (Gd t125 true (Mv t4_5)) h fun t127 h =>
 go (Gd t125 true (Mv t0_5)) h fun t128 h =>
 go (Gd t125 true (Mv t13_4)) h fun t129 h =>
 go (Gd t125 true (Idx 1 t128 t129)) h fun t130 h =>
 go (Gd t125 true (Ld t130)) h fun t131 h =>
 go (Gd t125 true (Mv t0_5)) h fun t132 h =>
 go (Gd t125 true (Mv t1_5)) h fun t133 h =>
 go (Gd t125 true (Idx 1 t132 t133)) h fun t134 h =>
 go (Gd t125 true (Ld t134)) h fun t135 h =>
 go (Gd t125 true (CallV Try.prog t127 [t131, t135])) h fun t136 h =>
 go (Gd t125 true (Bin .int .lss t136 (.int .i64 0))) h fun t137 h =>
 go (Gd t125 true (Un .not t137)) h fun t138 h =>
 go (Pick t125 t138 (.bool false)) h fun t139 h =>
 If t139 (
 go (Bin .int .sub t13_4 (.int .i64 1)) h fun t141 h =>
 X5 t0_5 t1_5 t4_5 t12_4 t141 h) (
 go (Bin .int .gtr t12_4 t13_4) h fun t144 h =>
 If t144 (
 go (Idx 1 t0_5 t1_5) h fun t169 h =>
 go (Ld t169) h fun t170 h =>
 go (Idx 1 t0_5 t13_4) h fun t173 h =>
 go (Ld t173) h fun t174 h =>
 go (Idx 1 t0_5 t13_4) h fun t175 h =>
 go (St t175 t170) h fun _ h =>
 go (Idx 1 t0_5 t1_5) h fun t176 h =>
 go (St t176 t174) h fun _ h =>
 K (.tuple #[t13_4, (.bool false)]) h) (
 go (Idx 1 t0_5 t13_4) h fun t151 h =>
 go (Ld t151) h fun t152 h =>
 go (Idx 1 t0_5 t12_4) h fun t155 h =>
 go (Ld t155) h fun t156 h =>
 go (Idx 1 t0_5 t12_4) h fun t157 h =>
 go (St t157 t152) h fun _ h =>
 go (Idx 1 t0_5 t13_4) h fun t158 h =>
 go (St t158 t156) h fun _ h =>
 go (Bin .int .add t12_4 (.int .i64 1)) h fun t160 h =>
 go (Bin .int .sub t13_4 (.int .i64 1)) h fun t162 h =>
 X3 t0_5 t1_5 t4_5 t160 t162 h))) [t0_4, t1_4, t4_4, t12_3, t13_3] h)) [t0_3, t1_3, t4_3, t12_2, t13_2] h) [t0_2, t1_2, t4_2, t102, t104] h))) [t0_1, t1_1, t4_1, t12, t13] h)) [t0, t1, t4, t29, t31] h
set_option maxRecDepth 100000 in
theorem slices_partitionCmpFunc_int.eq : (fun t0 t1 t2 t3 t4 K h => slices_partitionCmpFunc_int.pt t0 t1 t2 t3 t4 K h : Value → Value → Value → Value → Value → Ret → Heap → Prop) = (fun t0 t1 t2 t3 t4 K h => fnPt Try.prog [14, 15, 16, 20, 24, 35, 38, 39, 40, 13, 33, 34] Try.f53 slices_partitionCmpFunc_int.ann [t0, t1, t2, t3, t4] K h) := by kernel_rfl
set_option maxRecDepth 100000 in
theorem slices_partitionCmpFunc_int.ok {t0 t1 t2 t3 t4 : Value} {K : Ret} {h : Heap} (hp : slices_partitionCmpFunc_int.pt t0 t1 t2 t3 t4 K h) : CallH Try.prog 53 #[t0, t1, t2, t3, t4] K h :=
  fn_sound (qs := [14, 15, 16, 20, 24, 35, 38, 39, 40, 13, 33, 34]) (fn := Try.f53) (ann := slices_partitionCmpFunc_int.ann) (args := [t0, t1, t2, t3, t4]) follows_mixed Try.func53 ((Eq.to_iff (congrFun (congrFun (congrFun (congrFun (congrFun (congrFun (congrFun (slices_partitionCmpFunc_int.eq) t0) t1) t2) t3) t4) K) h)).mp hp)

/-! ### math/bits.Len64: function 55 -/
abbrev bits_Len64.id : FuncId := 55
def bits_Len64.ann : Ann := (.seq none .leaf (.seq (some [0, 2]) (.seq none .leaf (.cond (.seq none .leaf .leaf) .leaf)) (.seq (some [0, 2]) (.seq none .leaf (.cond (.seq none .leaf .leaf) .leaf)) (.seq (some [0, 2]) (.seq none .leaf (.cond (.seq none .leaf .leaf) .leaf)) (.seq none .leaf .leaf)))))
set_option maxRecDepth 100000 in
def bits_Len64.pt (t0 : Value) (K : Ret) (h : Heap) : Prop :=
 Join 2 (fun J1 =>
 go (Bin .int .geq t0 (.int .u64 4294967296)) h fun t4 h =>
 If t4 (
 go (Bin .int .shr t0 (.int .u64 32)) h fun t6 h =>
 J1 t6 (.int .i64 32) h) (
 J1 t0 (.int .i64 0) h)) (fun t0_1 t2 h =>
 Join 2 (fun J2 =>
 go (Bin .int .geq t0_1 (.int .u64 65536)) h fun t8 h =>
 If t8 (
 go (Bin .int .shr t0_1 (.int .u64 16)) h fun t10 h =>
 go (Bin .int .add t2 (.int .i64 16)) h fun t12 h =>
 J2 t10 t12 h) (
 J2 t0_1 t2 h)) (fun t0_2 t2_1 h =>
 Join 2 (fun J3 =>
 go (Bin .int .geq t0_2 (.int .u64 256)) h fun t14 h =>
 If t14 (
 go (Bin .int .shr t0_2 (.int .u64 8)) h fun t16 h =>
 go (Bin .int .add t2_1 (.int .i64 8)) h fun t18 h =>
 J3 t16 t18 h) (
 J3 t0_2 t2_1 h)) (fun t0_3 t2_2 h =>
 go (Cvt .u8 t0_3) h fun t21 h =>
 go (IdxS (.string ⟨#[0, 1, 2, 2, 3, 3, 3, 3, 4, 4, 4, 4, 4, 4, 4, 4, 5, 5, 5, 5, 5, 5, 5, 5, 5, 5, 5, 5, 5, 5, 5, 5, 6, 6, 6, 6, 6, 6, 6, 6, 6, 6, 6, 6, 6, 6, 6, 6, 6, 6, 6, 6, 6, 6, 6, 6, 6, 6, 6, 6, 6, 6, 6, 6, 7, 7, 7, 7, 7, 7, 7, 7, 7, 7, 7, 7, 7, 7, 7, 7, 7, 7, 7, 7, 7, 7, 7, 7, 7, 7, 7, 7, 7, 7, 7, 7, 7, 7, 7, 7, 7, 7, 7, 7, 7, 7, 7, 7, 7, 7, 7, 7, 7, 7, 7, 7, 7, 7, 7, 7, 7, 7, 7, 7, 7, 7, 7, 7, 8, 8, 8, 8, 8, 8, 8, 8, 8, 8, 8, 8, 8, 8, 8, 8, 8, 8, 8, 8, 8, 8, 8, 8, 8, 8, 8, 8, 8, 8, 8, 8, 8, 8, 8, 8, 8, 8, 8, 8, 8, 8, 8, 8, 8, 8, 8, 8, 8, 8, 8, 8, 8, 8, 8, 8, 8, 8, 8, 8, 8, 8, 8, 8, 8, 8, 8, 8, 8, 8, 8, 8, 8, 8, 8, 8, 8, 8, 8, 8, 8, 8, 8, 8, 8, 8, 8, 8, 8, 8, 8, 8, 8, 8, 8, 8, 8, 8, 8, 8, 8, 8, 8, 8, 8, 8, 8, 8, 8, 8, 8, 8, 8, 8, 8, 8, 8, 8, 8, 8, 8, 8, 8, 8, 8, 8, 8, 8]⟩) t21) h fun t22 h =>
 go (Cvt .i64 t22) h fun t23 h =>
 go (Bin .int .add t2_2 t23) h fun t24 h =>
 K t24 h)))
set_option maxRecDepth 100000 in
theorem bits_Len64.eq : (fun t0 K h => bits_Len64.pt t0 K h : Value → Ret → Heap → Prop) = (fun t0 K h => fnPt Try.prog [14, 15, 16, 20, 24, 35, 38, 39, 40, 13, 33, 34] Try.f55 bits_Len64.ann [t0] K h) := by kernel_rfl
set_option maxRecDepth 100000 in
theorem bits_Len64.ok {t0 : Value} {K : Ret} {h : Heap} (hp : bits_Len64.pt t0 K h) : CallH Try.prog 55 #[t0] K h :=
  fn_sound (qs := [14, 15, 16, 20, 24, 35, 38, 39, 40, 13, 33, 34]) (fn := Try.f55) (ann := bits_Len64.ann) (args := [t0]) follows_mixed Try.func55 ((Eq.to_iff (congrFun (congrFun (congrFun (bits_Len64.eq) t0) K) h)).mp hp)

/-! ### slices.siftDownCmpFunc[int]: function 56 -/
abbrev slices_siftDownCmpFunc_int.id : FuncId := 56
def slices_siftDownCmpFunc_int.ann : Ann := (.seq none .leaf (.block (.loop [0, 2, 3, 4, 10] (.block (.seq none .leaf (.seq none (.seq none .leaf (.cond .leaf .leaf)) (.seq (some [0, 2, 3, 4, 10, 11]) (.seq none .leaf (.cond .leaf .leaf)) (.seq none (.seq none .leaf (.cond .leaf .leaf)) (.seq none .leaf .leaf)))))))))
set_option maxRecDepth 100000 in
def slices_siftDownCmpFunc_int.pt (t0 t1 t2 t3 t4 : Value) (K : Ret) (h : Heap) : Prop :=
 Lp 5 (fun X1 t0_1 t2_1 t3_1 t4_1 t10 h =>
 go (Bin .int .mul (.int .i64 2) t10) h fun t14 h =>
 go (Bin .int .add t14 (.int .i64 1)) h fun t15 h =>
 go (Bin .int .geq t15 t2_1) h fun t18 h =>
 If t18 (
 K (.tuple #[]) h) (
 Join 6 (fun J2 =>
 go (Bin .int .add t15 (.int .i64 1)) h fun t20 h =>
 go (Bin .int .lss t20 t2_1) h fun t22 h =>
 go (Gd t22 true (Mv t4_1)) h fun t24 h =>
 go (Gd t22 true (Mv t0_1)) h fun t25 h =>
 go (Gd t22 true (Mv t3_1)) h fun t26 h =>
 go (Gd t22 true (Mv t15)) h fun t27 h =>
 go (Gd t22 true (Bin .int .add t26 t27)) h fun t28 h =>
 go (Gd t22 true (Idx 1 t25 t28)) h fun t29 h =>
 go (Gd t22 true (Ld t29)) h fun t30 h =>
 go (Gd t22 true (Mv t0_1)) h fun t31 h =>
 go (Gd t22 true (Mv t3_1)) h fun t32 h =>
 go (Gd t22 true (Mv t15)) h fun t33 h =>
 go (Gd t22 true (Bin .int .add t32 t33)) h fun t34 h =>
 go (Gd t22 true (Bin .int .add t34 (.int .i64 1))) h fun t35 h =>
 go (Gd t22 true (Idx 1 t31 t35)) h fun t36 h =>
 go (Gd t22 true (Ld t36)) h fun t37 h =>
 go (Gd t22 true (CallV Try.prog t24 [t30, t37])) h fun t38 h =>
 go (Gd t22 true (Bin .int .lss t38 (.int .i64 0))) h fun t39 h =>
 go (Pick t22 t39 (.bool false)) h fun t40 h =>
 If t40 (
 go (Bin .int .add t15 (.int .i64 1)) h fun t42 h =>
 J2 t0_1 t2_1 t3_1 t4_1 t10 t42 h) (
 J2 t0_1 t2_1 t3_1 t4_1 t10 t15 h)) (fun t0_2 t2_2 t3_2 t4_2 t10_1 t11 h =>
 go (Bin .int .add t3_2 t10_1) h fun t47 h =>
 go (Idx 1 t0_2 t47) h fun t48 h =>
 go (Ld t48) h fun t49 h =>
 go (Bin .int .add t3_2 t11) h fun t53 h =>
 go (Idx 1 t0_2 t53) h fun t54 h =>
 go (Ld t54) h fun t55 h =>
 go (CallV Try.prog t4_2 [t49, t55]) h fun t56 h =>
 go (Bin .int .lss t56 (.int .i64 0)) h fun t57 h =>
 go (Un .not t57) h fun t58 h =>
 If t58 (
 K (.tuple #[]) h) (
 go (Bin .int .add t3_2 t10_1) h fun t62 h =>
 go (Bin .int .add t3_2 t11) h fun t66 h =>
 go (Bin .int .add t3_2 t11) h fun t70 h =>
 go (Idx 1 t0_2 t70) h fun t71 h =>
 go (Ld t71) h fun t72 h =>
 go (Bin .int .add t3_2 t10_1) h fun t76 h =>
 go (Idx 1 t0_2 t76) h fun t77 h =>
 go (Ld t77) h fun t78 h =>
 go (Idx 1 t0_2 t62) h fun t79 h =>
 go (St t79 t72) h fun _ h =>
 go (Idx 1 t0_2 t66) h fun t80 h =>
 go (St t80 t78) h fun _ h =>
 X1 t0_2 t2_2 t3_2 t4_2 t11 h)))) [t0, t2, t3, t4, t1] h
set_option maxRecDepth 100000 in
theorem slices_siftDownCmpFunc_int.eq : (fun t0 t1 t2 t3 t4 K h => slices_siftDownCmpFunc_int.pt t0 t1 t2 t3 t4 K h : Value → Value → Value → Value → Value → Ret → Heap → Prop) = (fun t0 t1 t2 t3 t4 K h => fnPt Try.prog [14, 15, 16, 20, 24, 35, 38, 39, 40, 13, 33, 34] Try.f56 slices_siftDownCmpFunc_int.ann [t0, t1, t2, t3, t4] K h) := by kernel_rfl
set_option maxRecDepth 100000 in
theorem slices_siftDownCmpFunc_int.ok {t0 t1 t2 t3 t4 : Value} {K : Ret} {h : Heap} (hp : slices_siftDownCmpFunc_int.pt t0 t1 t2 t3 t4 K h) : CallH Try.prog 56 #[t0, t1, t2, t3, t4] K h :=
  fn_sound (qs := [14, 15, 16, 20, 24, 35, 38, 39, 40, 13, 33, 34]) (fn := Try.f56) (ann := slices_siftDownCmpFunc_int.ann) (args := [t0, t1, t2, t3, t4]) follows_mixed Try.func56 ((Eq.to_iff (congrFun (congrFun (congrFun (congrFun (congrFun (congrFun (congrFun (slices_siftDownCmpFunc_int.eq) t0) t1) t2) t3) t4) K) h)).mp hp)

/-! ### slices.nextPowerOfTwo: function 57 -/
abbrev slices_nextPowerOfTwo.id : FuncId := 57
def slices_nextPowerOfTwo.ann : Ann := (.seq none .leaf (.seq none .leaf .leaf))
set_option maxRecDepth 100000 in
def slices_nextPowerOfTwo.pt (t0 : Value) (K : Ret) (h : Heap) : Prop :=
 go (Cvt .u64 t0) h fun t4 h =>
 go (CallF Try.prog 44 [t4]) h fun t5 h =>
 go (Bin .int .shl (.int .u64 1) t5) h fun t6 h =>
 K t6 h
set_option maxRecDepth 100000 in
theorem slices_nextPowerOfTwo.eq : (fun t0 K h => slices_nextPowerOfTwo.pt t0 K h : Value → Ret → Heap → Prop) = (fun t0 K h => fnPt Try.prog [14, 15, 16, 20, 24, 35, 38, 39, 40, 13, 33, 34] Try.f57 slices_nextPowerOfTwo.ann [t0] K h) := by kernel_rfl
set_option maxRecDepth 100000 in
theorem slices_nextPowerOfTwo.ok {t0 : Value} {K : Ret} {h : Heap} (hp : slices_nextPowerOfTwo.pt t0 K h) : CallH Try.prog 57 #[t0] K h :=
  fn_sound (qs := [14, 15, 16, 20, 24, 35, 38, 39, 40, 13, 33, 34]) (fn := Try.f57) (ann := slices_nextPowerOfTwo.ann) (args := [t0]) follows_mixed Try.func57 ((Eq.to_iff (congrFun (congrFun (congrFun (slices_nextPowerOfTwo.eq) t0) K) h)).mp hp)

/-! ### (*slices.xorshift).Next: function 58 -/
abbrev slices_xorshift_Next.id : FuncId := 58
def slices_xorshift_Next.ann : Ann := (.seq none .leaf (.seq none .leaf (.seq none .leaf (.seq none .leaf (.seq none .leaf .leaf)))))
set_option maxRecDepth 100000 in
def slices_xorshift_Next.pt (t0 : Value) (K : Ret) (h : Heap) : Prop :=
 go (NilC t0) h fun t4 h =>
 go (Ld t4) h fun t5 h =>
 go (NilC t0) h fun t7 h =>
 go (Ld t7) h fun t8 h =>
 go (Bin .int .shl t8 (.int .u64 13)) h fun t9 h =>
 go (Bin .int .xor t5 t9) h fun t10 h =>
 go (NilC t0) h fun t11 h =>
 go (St t11 t10) h fun _ h =>
 go (NilC t0) h fun t13 h =>
 go (Ld t13) h fun t14 h =>
 go (NilC t0) h fun t16 h =>
 go (Ld t16) h fun t17 h =>
 go (Bin .int .shr t17 (.int .u64 7)) h fun t18 h =>
 go (Bin .int .xor t14 t18) h fun t19 h =>
 go (NilC t0) h fun t20 h =>
 go (St t20 t19) h fun _ h =>
 go (NilC t0) h fun t22 h =>
 go (Ld t22) h fun t23 h =>
 go (NilC t0) h fun t25 h =>
 go (Ld t25) h fun t26 h =>
 go (Bin .int .shl t26 (.int .u64 17)) h fun t27 h =>
 go (Bin .int .xor t23 t27) h fun t28 h =>
 go (NilC t0) h fun t29 h =>
 go (St t29 t28) h fun _ h =>
 go (NilC t0) h fun t31 h =>
 go (Ld t31) h fun t32 h =>
 K t32 h
set_option maxRecDepth 100000 in
theorem slices_xorshift_Next.eq : (fun t0 K h => slices_xorshift_Next.pt t0 K h : Value → Ret → Heap → Prop) = (fun t0 K h => fnPt Try.prog [14, 15, 16, 20, 24, 35, 38, 39, 40, 13, 33, 34] Try.f58 slices_xorshift_Next.ann [t0] K h) := by kernel_rfl
set_option maxRecDepth 100000 in
theorem slices_xorshift_Next.ok {t0 : Value} {K : Ret} {h : Heap} (hp : slices_xorshift_Next.pt t0 K h) : CallH Try.prog 58 #[t0] K h :=
  fn_sound (qs := [14, 15, 16, 20, 24, 35, 38, 39, 40, 13, 33, 34]) (fn := Try.f58) (ann := slices_xorshift_Next.ann) (args := [t0]) follows_mixed Try.func58 ((Eq.to_iff (congrFun (congrFun (congrFun (slices_xorshift_Next.eq) t0) K) h)).mp hp)

/-! ### slices.medianAdjacentCmpFunc[int]: function 59 -/
abbrev slices_medianAdjacentCmpFunc_int.id : FuncId := 59
def slices_medianAdjacentCmpFunc_int.ann : Ann := (.seq none .leaf (.seq none .leaf .leaf))
set_option maxRecDepth 100000 in
def slices_medianAdjacentCmpFunc_int.pt (t0 t1 t2 t3 : Value) (K : Ret) (h : Heap) : Prop :=
 go (Bin .int .sub t1 (.int .i64 1)) h fun t11 h =>
 go (Bin .int .add t1 (.int .i64 1)) h fun t14 h =>
 go (CallF Try.prog 60 [t0, t11, t1, t14, t2, t3]) h fun t17 h =>
 K t17 h
set_option maxRecDepth 100000 in
theorem slices_medianAdjacentCmpFunc_int.eq : (fun t0 t1 t2 t3 K h => slices_medianAdjacentCmpFunc_int.pt t0 t1 t2 t3 K h : Value → Value → Value → Value → Ret → Heap → Prop) = (fun t0 t1 t2 t3 K h => fnPt Try.prog [14, 15, 16, 20, 24, 35, 38, 39, 40, 13, 33, 34] Try.f59 slices_medianAdjacentCmpFunc_int.ann [t0, t1, t2, t3] K h) := by kernel_rfl
set_option maxRecDepth 100000 in
theorem slices_medianAdjacentCmpFunc_int.ok {t0 t1 t2 t3 : Value} {K : Ret} {h : Heap} (hp : slices_medianAdjacentCmpFunc_int.pt t0 t1 t2 t3 K h) : CallH Try.prog 59 #[t0, t1, t2, t3] K h :=
  fn_sound (qs := [14, 15, 16, 20, 24, 35, 38, 39, 40, 13, 33, 34]) (fn := Try.f59) (ann := slices_medianAdjacentCmpFunc_int.ann) (args := [t0, t1, t2, t3]) follows_mixed Try.func59 ((Eq.to_iff (congrFun (congrFun (congrFun (congrFun (congrFun (congrFun (slices_medianAdjacentCmpFunc_int.eq) t0) t1) t2) t3) K) h)).mp hp)

/-! ### slices.medianCmpFunc[int]: function 60 -/
abbrev slices_medianCmpFunc_int.id : FuncId := 60
def slices_medianCmpFunc_int.ann : Ann := (.seq none .leaf (.seq none .leaf (.seq none .leaf (.seq none .leaf (.seq none .leaf .leaf)))))
set_option maxRecDepth 100000 in
def slices_medianCmpFunc_int.pt (t0 t1 t2 t3 t4 t5 : Value) (K : Ret) (h : Heap) : Prop :=
 go (CallF Try.prog 61 [t0, t1, t2, t4, t5]) h fun t19 h =>
 go (Ext 0 t19) h fun t20 h =>
 go (Ext 1 t19) h fun t21 h =>
 go (CallF Try.prog 61 [t0, t21, t3, t4, t5]) h fun t28 h =>
 go (Ext 0 t28) h fun t29 h =>
 go (Ext 1 t28) h fun t30 h =>
 go (CallF Try.prog 61 [t0, t20, t29, t4, t5]) h fun t37 h =>
 go (Ext 0 t37) h fun t38 h =>
 go (Ext 1 t37) h fun t39 h =>
 K t39 h
set_option maxRecDepth 100000 in
theorem slices_medianCmpFunc_int.eq : (fun t0 t1 t2 t3 t4 t5 K h => slices_medianCmpFunc_int.pt t0 t1 t2 t3 t4 t5 K h : Value → Value → Value → Value → Value → Value → Ret → Heap → Prop) = (fun t0 t1 t2 t3 t4 t5 K h => fnPt Try.prog [14, 15, 16, 20, 24, 35, 38, 39, 40, 13, 33, 34] Try.f60 slices_medianCmpFunc_int.ann [t0, t1, t2, t3, t4, t5] K h) := by kernel_rfl
set_option maxRecDepth 100000 in
theorem slices_medianCmpFunc_int.ok {t0 t1 t2 t3 t4 t5 : Value} {K : Ret} {h : Heap} (hp : slices_medianCmpFunc_int.pt t0 t1 t2 t3 t4 t5 K h) : CallH Try.prog 60 #[t0, t1, t2, t3, t4, t5] K h :=
  fn_sound (qs := [14, 15, 16, 20, 24, 35, 38, 39, 40, 13, 33, 34]) (fn := Try.f60) (ann := slices_medianCmpFunc_int.ann) (args := [t0, t1, t2, t3, t4, t5]) follows_mixed Try.func60 ((Eq.to_iff (congrFun (congrFun (congrFun (congrFun (congrFun (congrFun (congrFun (congrFun (slices_medianCmpFunc_int.eq) t0) t1) t2) t3) t4) t5) K) h)).mp hp)

/-! ### slices.order2CmpFunc[int]: function 61 -/
abbrev slices_order2CmpFunc_int.id : FuncId := 61
def slices_order2CmpFunc_int.ann : Ann := (.seq none .leaf (.seq none (.seq none .leaf (.cond (.seq none .leaf (.seq none .leaf .leaf)) .leaf)) (.seq none .leaf .leaf)))
set_option maxRecDepth 100000 in
def slices_order2CmpFunc_int.pt (t0 t1 t2 t3 t4 : Value) (K : Ret) (h : Heap) : Prop :=
 go (Idx 1 t0 t2) h fun t15 h =>
 go (Ld t15) h fun t16 h =>
 go (Idx 1 t0 t1) h fun t19 h =>
 go (Ld t19) h fun t20 h =>
 go (CallV Try.prog t4 [t16, t20]) h fun t21 h =>
 go (Bin .int .lss t21 (.int .i64 0)) h fun t22 h =>
 If t22 (
 go (NilC t3) h fun t24 h =>
 go (Ld t24) h fun t25 h =>
 go (Bin .int .add t25 (.int .i64 1)) h fun t26 h =>
 go (NilC t3) h fun t27 h =>
 go (St t27 t26) h fun _ h =>
 K (.tuple #[t2, t1]) h) (
 K (.tuple #[t1, t2]) h)
set_option maxRecDepth 100000 in
theorem slices_order2CmpFunc_int.eq : (fun t0 t1 t2 t3 t4 K h => slices_order2CmpFunc_int.pt t0 t1 t2 t3 t4 K h : Value → Value → Value → Value → Value → Ret → Heap → Prop) = (fun t0 t1 t2 t3 t4 K h => fnPt Try.prog [14, 15, 16, 20, 24, 35, 38, 39, 40, 13, 33, 34] Try.f61 slices_order2CmpFunc_int.ann [t0, t1, t2, t3, t4] K h) := by kernel_rfl
set_option maxRecDepth 100000 in
theorem slices_order2CmpFunc_int.ok {t0 t1 t2 t3 t4 : Value} {K : Ret} {h : Heap} (hp : slices_order2CmpFunc_int.pt t0 t1 t2 t3 t4 K h) : CallH Try.prog 61 #[t0, t1, t2, t3, t4] K h :=
  fn_sound (qs := [14, 15, 16, 20, 24, 35, 38, 39, 40, 13, 33, 34]) (fn := Try.f61) (ann := slices_order2CmpFunc_int.ann) (args := [t0, t1, t2, t3, t4]) follows_mixed Try.func61 ((Eq.to_iff (congrFun (congrFun (congrFun (congrFun (congrFun (congrFun (congrFun (slices_order2CmpFunc_int.eq) t0) t1) t2) t3) t4) K) h)).mp hp)

end Go.Proofs.Ytcofinjoehaefaa
