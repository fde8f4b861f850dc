/- What each Go function asks, in the primitives of Pt; written by a program of mine (ptgen.py) out of the translation; Lean checks that it is so. -/
import Derived.Test.YtonngdjfnnibaaaProg
import Derived.KernelRfl
import Derived.Test.YtonngdjfnnibaaaPtO
namespace Go.Proofs.Ytonngdjfnnibaaa
open Go.Pt
set_option linter.unusedVariables false
theorem follows_mixed : Try.prog.follows .mixedOrders = true := by kernel_rfl
/-! ### bradawl/bradawllaw15.WalkAgrees: function 6 -/
abbrev bradawllaw15_WalkAgrees.id : FuncId := 6
def bradawllaw15_WalkAgrees.ann : Ann := (.seq none .leaf (.seq none (.seq none .leaf (.cond (.seq none .leaf .leaf) .leaf)) (.seq none (.seq none .leaf (.cond (.seq none .leaf .leaf) .leaf)) (.seq none .leaf (.seq none .leaf (.seq none .leaf (.seq none .leaf (.seq none .leaf (.seq none (.seq none .leaf (.cond (.seq none .leaf .leaf) .leaf)) (.seq none .leaf (.seq none .leaf (.seq none .leaf (.seq none .leaf (.seq none .leaf (.seq none (.seq none .leaf (.block (.loop [9, 10, 12, 14, 15, 16, 17, 18, 19, 94, 95] (.seq none .leaf (.seq none (.cond .leaf .leaf) (.seq none (.block (.seq none .leaf (.seq none .leaf (.cond (.seq none .leaf .leaf) .leaf)))) .leaf)))))) (.seq none .leaf .leaf))))))))))))))))
set_option maxRecDepth 100000 in
def bradawllaw15_WalkAgrees.pt (t0 t1 t2 : Value) (K : Ret) (h : Heap) : Prop :=
 go (New (Value.cells t0) 25) h fun t3 h =>
 go (New (Value.cells t1) 54) h fun t4 h =>
 go (CallF Try.prog 9 []) h fun t21 h =>
 go (Un .not t21) h fun t22 h =>
 If t22 (
 K (.bool false) h) (
 go (LdA 2 t3) h fun t23 h =>
 go (CallF Try.prog 10 [t23, (.int .i64 40)]) h fun t24 h =>
 go (Un .not t24) h fun t25 h =>
 go (Gd t25 false (Mv t2)) h fun t27 h =>
 go (Gd t25 false (Len t27)) h fun t28 h =>
 go (Gd t25 false (Bin .int .gtr t28 (.int .i64 60))) h fun t29 h =>
 go (Pick t25 (.bool true) t29) h fun t30 h =>
 If t30 (
 K (.bool true) h) (
 go (LdA 2 t3) h fun t31 h =>
 go (CallF Try.prog 11 [t31, (.int .i64 12), (.int .i64 6)]) h fun t32 h =>
 go (New #[(.int .i64 0), (.slice none 0 0)] 30) h fun t7 h =>
 go (StA 2 t7 t32) h fun _ h =>
 go (Fld 0 t7) h fun t33 h =>
 go (Ld t33) h fun t34 h =>
 go (IdxA 3 1 t4 (.int .i64 0)) h fun t35 h =>
 go (Ld t35) h fun t36 h =>
 go (CallF Try.prog 15 [t34, t36]) h fun t37 h =>
 go (IdxA 3 1 t4 (.int .i64 1)) h fun t38 h =>
 go (Ld t38) h fun t39 h =>
 go (Cvt .u8 t39) h fun t40 h =>
 go (IdxA 3 1 t4 (.int .i64 2)) h fun t41 h =>
 go (Ld t41) h fun t42 h =>
 go (Cvt .u16 t42) h fun t43 h =>
 go (ACall Try.prog 16 [t40, t43]) h fun t44 h =>
 go (New #[(.int .i64 0), (.int .i64 0), (.int .i64 0)] 39) h fun t9 h =>
 go (StA 3 t9 t44) h fun _ h =>
 go (LdA 2 t7) h fun t46 h =>
 go (CallF Try.prog 19 [t46, t37]) h fun t48 h =>
 go (Ext 0 t48) h fun t49 h =>
 go (Ext 1 t48) h fun t50 h =>
 go (LdA 2 t7) h fun t52 h =>
 go (CallF Try.prog 19 [t52, t37]) h fun t54 h =>
 go (Ext 0 t54) h fun t55 h =>
 go (Ext 1 t54) h fun t56 h =>
 go (Bin .int .neq t50 (.int .i64 0)) h fun t58 h =>
 go (Gd t58 false (Mv t56)) h fun t60 h =>
 go (Gd t58 false (Bin .int .neq t60 (.int .i64 0))) h fun t61 h =>
 go (Pick t58 (.bool true) t61) h fun t62 h =>
 go (Gd t62 false (Mv t49)) h fun t64 h =>
 go (Gd t62 false (Bin .pointer .eql t64 (.pointer none))) h fun t65 h =>
 go (Pick t62 (.bool true) t65) h fun t66 h =>
 go (Gd t66 false (Mv t55)) h fun t68 h =>
 go (Gd t66 false (Bin .pointer .eql t68 (.pointer none))) h fun t69 h =>
 go (Pick t66 (.bool true) t69) h fun t70 h =>
 If t70 (
 K (.bool false) h) (
 go (ACall Try.prog 13 [t2, (.int .u64 9)]) h fun t72 h =>
 go (ACall Try.prog 13 [t2, (.int .u64 9)]) h fun t74 h =>
 go (LdA 3 t9) h fun t76 h =>
 go (CallF Try.prog 27 [t49, t76, t72, (.int .i64 30)]) h fun t78 h =>
 go (LdA 3 t9) h fun t80 h =>
 go (CallF Try.prog 27 [t55, t80, t74, (.int .i64 11)]) h fun t82 h =>
 go (LdA 3 t9) h fun t85 h =>
 go (CallF Try.prog 27 [t55, t85, t74, (.int .i64 19)]) h fun t87 h =>
 go (Bin .int .add t82 t87) h fun t88 h =>
 go (ACall Try.prog 28 [t49]) h fun t90 h =>
 go (ACall Try.prog 28 [t55]) h fun t92 h =>
 go (Len t90) h fun t94 h =>
 Lp 11 (fun X1 t9_1 t10 t12 t14 t15 t16 t17 t18 t19 t94_1 t95 h =>
 go (Bin .int .lss t95 t94_1) h fun t96 h =>
 If t96 (
 go (Len t19) h fun t100 h =>
 go (Bin .int .geq t95 t100) h fun t101 h =>
 go (Gd t101 false (Mv t18)) h fun t103 h =>
 go (Gd t101 false (Mv t95)) h fun t104 h =>
 go (Gd t101 false (Idx 1 t103 t104)) h fun t105 h =>
 go (Gd t101 false (Ld t105)) h fun t106 h =>
 go (Gd t101 false (Mv t19)) h fun t107 h =>
 go (Gd t101 false (Mv t95)) h fun t108 h =>
 go (Gd t101 false (Idx 1 t107 t108)) h fun t109 h =>
 go (Gd t101 false (Ld t109)) h fun t110 h =>
 go (Gd t101 false (Bin .bool .neq t106 t110)) h fun t111 h =>
 go (Pick t101 (.bool true) t111) h fun t112 h =>
 If t112 (
 K (.bool false) h) (
 go (Bin .int .add t95 (.int .i64 1)) h fun t113 h =>
 X1 t9_1 t10 t12 t14 t15 t16 t17 t18 t19 t94_1 t113 h)) (
 go (Bin .int .eql t16 t17) h fun t116 h =>
 go (Gd t116 true (Mv t14)) h fun t118 h =>
 go (Gd t116 true (QCall Try.prog 18 [t118])) h fun t119 h =>
 go (Gd t116 true (Mv t15)) h fun t120 h =>
 go (Gd t116 true (QCall Try.prog 18 [t120])) h fun t121 h =>
 go (Gd t116 true (Bin .int .eql t119 t121)) h fun t122 h =>
 go (Pick t116 t122 (.bool false)) h fun t123 h =>
 go (Gd t123 true (Mv t10)) h fun t125 h =>
 go (Gd t123 true (QCall Try.prog 20 [t125])) h fun t126 h =>
 go (Gd t123 true (Mv t12)) h fun t127 h =>
 go (Gd t123 true (QCall Try.prog 20 [t127])) h fun t128 h =>
 go (Gd t123 true (Bin .int .eql t126 t128)) h fun t129 h =>
 go (Pick t123 t129 (.bool false)) h fun t130 h =>
 go (Gd t130 true (Mv t16)) h fun t132 h =>
 go (Gd t130 true (Bin .int .eql t132 (.int .i64 30))) h fun t133 h =>
 go (Gd t130 true (Mv t133)) h fun t134 h =>
 go (Gd t134 false (Mv t10)) h fun t135 h =>
 go (Gd t134 false (QCall Try.prog 20 [t135])) h fun t136 h =>
 go (Gd t134 false (Bin .int .eql t136 (.int .i64 0))) h fun t137 h =>
 go (Gd t130 true (Pick t134 (.bool true) t137)) h fun t138 h =>
 go (Pick t130 t138 (.bool false)) h fun t139 h =>
 go (Gd t139 true (Mv t10)) h fun t141 h =>
 go (Gd t139 true (LdA 3 t9_1)) h fun t142 h =>
 go (Gd t139 true (Mv t14)) h fun t143 h =>
 go (Gd t139 true (CallF Try.prog 27 [t141, t142, t143, (.int .i64 (-5))])) h fun t144 h =>
 go (Gd t139 true (Bin .int .eql t144 (.int .i64 0))) h fun t145 h =>
 go (Pick t139 t145 (.bool false)) h fun t146 h =>
 K t146 h)) [t9, t49, t55, t72, t74, t78, t88, t90, t92, t94, (.int .i64 0)] h)))
set_option maxRecDepth 100000 in
theorem bradawllaw15_WalkAgrees.eq : (fun t0 t1 t2 K h => bradawllaw15_WalkAgrees.pt t0 t1 t2 K h : Value → Value → Value → Ret → Heap → Prop) = (fun t0 t1 t2 K h => fnPt Try.prog [18, 20, 22, 24, 34, 35, 36, 40, 1000014, 1000016, 1000017, 1000033, 1000028, 1000013] Try.f6 bradawllaw15_WalkAgrees.ann [t0, t1, t2] K h) := by kernel_rfl
set_option maxRecDepth 100000 in
theorem bradawllaw15_WalkAgrees.ok {t0 t1 t2 : Value} {K : Ret} {h : Heap} (hp : bradawllaw15_WalkAgrees.pt t0 t1 t2 K h) : CallH Try.prog 6 #[t0, t1, t2] K h :=
  fn_sound (qs := [18, 20, 22, 24, 34, 35, 36, 40, 1000014, 1000016, 1000017, 1000033, 1000028, 1000013]) (fn := Try.f6) (ann := bradawllaw15_WalkAgrees.ann) (args := [t0, t1, t2]) follows_mixed Try.func6 ((Eq.to_iff (congrFun (congrFun (congrFun (congrFun (congrFun (bradawllaw15_WalkAgrees.eq) t0) t1) t2) K) h)).mp hp)

/-! ### bradawl/bradawllaw15.fit: function 9 -/
abbrev bradawllaw15_fit.id : FuncId := 9
def bradawllaw15_fit.ann : Ann := (.seq none .leaf (.seq none .leaf (.seq none .leaf .leaf)))
set_option maxRecDepth 100000 in
def bradawllaw15_fit.pt (K : Ret) (h : Heap) : Prop :=
 go (BldS 3 1 1 #[(.int .i64 0)] [(0, (.int .i64 1))]) h fun t4 h =>
 go (BldS 58 1 1 #[(.slice none 0 0)] [(0, t4)]) h fun t5 h =>
 go (Bld [(0, 1), (1, 1)] #[(.int .i64 0), (.slice none 0 0)] [(0, (.int .i64 1)), (1, t5)]) h fun t6 h =>
 go (BldS 4 1 1 #[(.bool false)] [(0, (.bool false))]) h fun t7 h =>
 go (Bld [(0, 1), (1, 1), (2, 1)] #[(.int .i64 0), (.int .i64 0), (.int .i64 0)] [(0, (.int .i64 2))]) h fun t8 h =>
 go (ACall Try.prog 13 [(.slice none 0 0), (.int .u64 1)]) h fun t9 h =>
 go (CallF Try.prog 12 [t6, t7, t8, t9, (.int .i64 5)]) h fun t10 h =>
 go (Ext 0 t10) h fun t11 h =>
 go (Ext 1 t10) h fun t12 h =>
 go (New #[(.slice none 0 0), (.int .i64 0), (.int .i64 0)] 34) h fun t1 h =>
 go (StA 3 t1 t11) h fun _ h =>
 go (Bin .int .eql t12 (.int .i64 0)) h fun t14 h =>
 go (Gd t14 true (Fld 2 t1)) h fun t16 h =>
 go (Gd t14 true (Ld t16)) h fun t17 h =>
 go (Gd t14 true (Bin .int .eql t17 (.int .i64 1))) h fun t18 h =>
 go (Pick t14 t18 (.bool false)) h fun t19 h =>
 go (Gd t19 true (Fld 1 t1)) h fun t21 h =>
 go (Gd t19 true (Ld t21)) h fun t22 h =>
 go (Gd t19 true (Bin .int .eql t22 (.int .i64 0))) h fun t23 h =>
 go (Pick t19 t23 (.bool false)) h fun t24 h =>
 go (Gd t24 true (Fld 0 t1)) h fun t26 h =>
 go (Gd t24 true (Ld t26)) h fun t27 h =>
 go (Gd t24 true (Len t27)) h fun t28 h =>
 go (Gd t24 true (Bin .int .eql t28 (.int .i64 1))) h fun t29 h =>
 go (Pick t24 t29 (.bool false)) h fun t30 h =>
 go (Gd t30 true (Fld 0 t1)) h fun t32 h =>
 go (Gd t30 true (Ld t32)) h fun t33 h =>
 go (Gd t30 true (Idx 1 t33 (.int .i64 0))) h fun t34 h =>
 go (Gd t30 true (Ld t34)) h fun t35 h =>
 go (Pick t30 t35 (.bool false)) h fun t36 h =>
 go (Gd t36 true (Bld [(0, 1), (1, 1), (2, 1)] #[(.int .i64 0), (.int .i64 0), (.int .i64 0)] [(0, (.int .i64 2))])) h fun t38 h =>
 go (Gd t36 true (ACall Try.prog 14 [t38])) h fun t39 h =>
 go (Pick t36 t39 (.bool false)) h fun t40 h =>
 go (Gd t40 true (Bld [(0, 1), (1, 1), (2, 1)] #[(.int .i64 0), (.int .i64 0), (.int .i64 0)] [(0, (.int .i64 3))])) h fun t42 h =>
 go (Gd t40 true (ACall Try.prog 14 [t42])) h fun t43 h =>
 go (Gd t40 true (Un .not t43)) h fun t44 h =>
 go (Pick t40 t44 (.bool false)) h fun t45 h =>
 K t45 h
set_option maxRecDepth 100000 in
theorem bradawllaw15_fit.eq : (fun K h => bradawllaw15_fit.pt K h : Ret → Heap → Prop) = (fun K h => fnPt Try.prog [18, 20, 22, 24, 34, 35, 36, 40, 1000014, 1000016, 1000017, 1000033, 1000028, 1000013] Try.f9 bradawllaw15_fit.ann [] K h) := by kernel_rfl
set_option maxRecDepth 100000 in
theorem bradawllaw15_fit.ok {K : Ret} {h : Heap} (hp : bradawllaw15_fit.pt K h) : CallH Try.prog 9 #[] K h :=
  fn_sound (qs := [18, 20, 22, 24, 34, 35, 36, 40, 1000014, 1000016, 1000017, 1000033, 1000028, 1000013]) (fn := Try.f9) (ann := bradawllaw15_fit.ann) (args := []) follows_mixed Try.func9 ((Eq.to_iff (congrFun (congrFun (bradawllaw15_fit.eq) K) h)).mp hp)

/-! ### (bradawl/bradawllaw02.Raw).Light: function 10 -/
abbrev bradawllaw02_Raw_Light.id : FuncId := 10
def bradawllaw02_Raw_Light.ann : Ann := (.seq none .leaf (.seq none .leaf (.seq none (.seq none .leaf (.block (.loop [1, 2, 5, 9, 10, 11] (.seq none .leaf (.seq none (.cond .leaf .leaf) (.seq none (.block (.seq none .leaf (.seq none .leaf (.seq none .leaf (.cond (.seq none .leaf .leaf) .leaf))))) .leaf)))))) (.seq none .leaf .leaf))))
set_option maxRecDepth 100000 in
def bradawllaw02_Raw_Light.pt (t0 t1 : Value) (K : Ret) (h : Heap) : Prop :=
 go (New (Value.cells t0) 25) h fun t2 h =>
 go (Fld 1 t2) h fun t8 h =>
 go (Ld t8) h fun t9 h =>
 go (Len t9) h fun t10 h =>
 Lp 6 (fun X1 t1_1 t2_1 t5 t9_1 t10_1 t11 h =>
 go (Bin .int .lss t11 t10_1) h fun t12 h =>
 If t12 (
 go (Idx 1 t9_1 t11) h fun t13 h =>
 go (Ld t13) h fun t14 h =>
 go (Len t14) h fun t17 h =>
 go (Bin .int .add (.int .i64 1) t17) h fun t18 h =>
 go (Bin .int .add t5 t18) h fun t19 h =>
 go (Bin .int .mul (.int .i64 10) t1_1) h fun t22 h =>
 go (Bin .int .gtr t19 t22) h fun t23 h =>
 If t23 (
 K (.bool false) h) (
 go (Bin .int .add t11 (.int .i64 1)) h fun t24 h =>
 X1 t1_1 t2_1 t19 t9_1 t10_1 t24 h)) (
 go (Fld 1 t2_1) h fun t25 h =>
 go (Ld t25) h fun t26 h =>
 go (Len t26) h fun t27 h =>
 go (Bin .int .leq t27 t1_1) h fun t29 h =>
 K t29 h)) [t1, t2, (.int .i64 0), t9, t10, (.int .i64 0)] h
set_option maxRecDepth 100000 in
theorem bradawllaw02_Raw_Light.eq : (fun t0 t1 K h => bradawllaw02_Raw_Light.pt t0 t1 K h : Value → Value → Ret → Heap → Prop) = (fun t0 t1 K h => fnPt Try.prog [18, 20, 22, 24, 34, 35, 36, 40, 1000014, 1000016, 1000017, 1000033, 1000028, 1000013] Try.f10 bradawllaw02_Raw_Light.ann [t0, t1] K h) := by kernel_rfl
set_option maxRecDepth 100000 in
theorem bradawllaw02_Raw_Light.ok {t0 t1 : Value} {K : Ret} {h : Heap} (hp : bradawllaw02_Raw_Light.pt t0 t1 K h) : CallH Try.prog 10 #[t0, t1] K h :=
  fn_sound (qs := [18, 20, 22, 24, 34, 35, 36, 40, 1000014, 1000016, 1000017, 1000033, 1000028, 1000013]) (fn := Try.f10) (ann := bradawllaw02_Raw_Light.ann) (args := [t0, t1]) follows_mixed Try.func10 ((Eq.to_iff (congrFun (congrFun (congrFun (congrFun (bradawllaw02_Raw_Light.eq) t0) t1) K) h)).mp hp)

/-! ### (bradawl/bradawllaw02.Raw).Formula: function 11 -/
abbrev bradawllaw02_Raw_Formula.id : FuncId := 11
def bradawllaw02_Raw_Formula.ann : Ann := (.seq none .leaf (.seq none .leaf (.seq none (.seq none .leaf (.block (.loop [2, 6, 7, 22, 23, 24] (.seq none .leaf (.seq none (.cond .leaf .leaf) (.seq none (.block (.seq none .leaf (.seq none .leaf (.seq (some [2, 6, 7, 10, 22, 23, 24]) (.seq none .leaf (.block (.loop [2, 6, 7, 10, 22, 23, 24, 28, 29, 30] (.seq none .leaf (.seq none (.cond .leaf .leaf) (.seq none (.block (.seq none .leaf (.seq none (.seq none .leaf (.cond .leaf .leaf)) (.seq none .leaf (.seq (some [2, 6, 7, 10, 13, 22, 23, 24, 28, 29, 30]) (.seq none .leaf (.cond .leaf .leaf)) .leaf))))) .leaf)))))) .leaf)))) .leaf)))))) (.seq none .leaf .leaf))))
set_option maxRecDepth 100000 in
def bradawllaw02_Raw_Formula.pt (t0 t1 t2 : Value) (K : Ret) (h : Heap) : Prop :=
 go (New (Value.cells t0) 25) h fun t3 h =>
 go (New #[(.int .i64 0), (.slice none 0 0)] 30) h fun t6 h =>
 go (Fld 0 t3) h fun t14 h =>
 go (Ld t14) h fun t15 h =>
 go (Cvt .i64 t15) h fun t16 h =>
 go (Bin .int .add t1 (.int .i64 1)) h fun t18 h =>
 go (Bin .int .rem t16 t18) h fun t19 h =>
 go (Bld [(0, 1), (1, 1)] #[(.int .i64 0), (.slice none 0 0)] [(0, t19)]) h fun t20 h =>
 go (New #[(.int .i64 0), (.slice none 0 0)] 30) h fun t7 h =>
 go (StA 2 t7 t20) h fun _ h =>
 go (Fld 1 t3) h fun t21 h =>
 go (Ld t21) h fun t22 h =>
 go (Len t22) h fun t23 h =>
 Lp 6 (fun X1 t2_1 t6_1 t7_1 t22_1 t23_1 t24 h =>
 go (Bin .int .lss t24 t23_1) h fun t25 h =>
 If t25 (
 go (Idx 1 t22_1 t24) h fun t26 h =>
 go (Ld t26) h fun t27 h =>
 Join 7 (fun J2 =>
 go (Len t27) h fun t29 h =>
 Lp 10 (fun X3 t2_2 t6_2 t7_2 t10 t22_2 t23_2 t24_1 t28 t29_1 t30 h =>
 go (Bin .int .lss t30 t29_1) h fun t31 h =>
 If t31 (
 go (Idx 1 t28 t30) h fun t32 h =>
 go (Ld t32) h fun t33 h =>
 go (Fld 0 t7_2) h fun t34 h =>
 go (Ld t34) h fun t35 h =>
 go (Bin .int .eql t35 (.int .i64 0)) h fun t36 h =>
 go (Gd t36 false (Mv t10)) h fun t38 h =>
 go (Gd t36 false (Len t38)) h fun t39 h =>
 go (Gd t36 false (Mv t2_2)) h fun t40 h =>
 go (Gd t36 false (Bin .int .eql t39 t40)) h fun t41 h =>
 go (Pick t36 (.bool true) t41) h fun t42 h =>
 If t42 (
 J2 t2_2 t6_2 t7_2 t10 t22_2 t23_2 t24_1 h) (
 go (Cvt .u16 t33) h fun t44 h =>
 go (Bin .int .shr t44 (.int .u64 1)) h fun t45 h =>
 go (Cvt .i64 t45) h fun t46 h =>
 go (Fld 0 t7_2) h fun t47 h =>
 go (Ld t47) h fun t48 h =>
 go (Bin .int .rem t46 t48) h fun t49 h =>
 go (Bin .int .add (.int .i64 1) t49) h fun t50 h =>
 Join 11 (fun J4 =>
 go (Bin .int .and t33 (.int .i16 1)) h fun t52 h =>
 go (Bin .int .eql t52 (.int .i16 1)) h fun t53 h =>
 If t53 (
 go (Un .neg t50) h fun t55 h =>
 J4 t2_2 t6_2 t7_2 t10 t55 t22_2 t23_2 t24_1 t28 t29_1 t30 h) (
 J4 t2_2 t6_2 t7_2 t10 t50 t22_2 t23_2 t24_1 t28 t29_1 t30 h)) (fun t2_3 t6_3 t7_3 t10_1 t13 t22_3 t23_3 t24_2 t28_1 t29_2 t30_1 h =>
 go (BldS 3 1 1 #[(.int .i64 0)] [(0, t13)]) h fun t58 h =>
 go (App 3 1 8 #[(.int .i64 0)] t10_1 t58) h fun t59 h =>
 go (Bin .int .add t30_1 (.int .i64 1)) h fun t60 h =>
 X3 t2_3 t6_3 t7_3 t59 t22_3 t23_3 t24_2 t28_1 t29_2 t60 h))) (
 J2 t2_2 t6_2 t7_2 t10 t22_2 t23_2 t24_1 h)) [t2_1, t6_1, t7_1, (.slice none 0 0), t22_1, t23_1, t24, t27, t29, (.int .i64 0)] h) (fun t2_4 t6_4 t7_4 t10_2 t22_4 t23_4 t24_3 h =>
 go (Fld 1 t7_4) h fun t61 h =>
 go (Ld t61) h fun t62 h =>
 go (BldS 58 1 1 #[(.slice none 0 0)] [(0, t10_2)]) h fun t64 h =>
 go (App 58 1 24 #[(.slice none 0 0)] t62 t64) h fun t65 h =>
 go (Fld 1 t7_4) h fun t66 h =>
 go (St t66 t65) h fun _ h =>
 go (Bin .int .add t24_3 (.int .i64 1)) h fun t67 h =>
 X1 t2_4 t6_4 t7_4 t22_4 t23_4 t67 h)) (
 go (LdA 2 t7_1) h fun t68 h =>
 go (StA 2 t6_1 t68) h fun _ h =>
 go (LdA 2 t6_1) h fun r0 h =>
 K r0 h)) [t2, t6, t7, t22, t23, (.int .i64 0)] h
set_option maxRecDepth 100000 in
theorem bradawllaw02_Raw_Formula.eq : (fun t0 t1 t2 K h => bradawllaw02_Raw_Formula.pt t0 t1 t2 K h : Value → Value → Value → Ret → Heap → Prop) = (fun t0 t1 t2 K h => fnPt Try.prog [18, 20, 22, 24, 34, 35, 36, 40, 1000014, 1000016, 1000017, 1000033, 1000028, 1000013] Try.f11 bradawllaw02_Raw_Formula.ann [t0, t1, t2] K h) := by kernel_rfl
set_option maxRecDepth 100000 in
theorem bradawllaw02_Raw_Formula.ok {t0 t1 t2 : Value} {K : Ret} {h : Heap} (hp : bradawllaw02_Raw_Formula.pt t0 t1 t2 K h) : CallH Try.prog 11 #[t0, t1, t2] K h :=
  fn_sound (qs := [18, 20, 22, 24, 34, 35, 36, 40, 1000014, 1000016, 1000017, 1000033, 1000028, 1000013]) (fn := Try.f11) (ann := bradawllaw02_Raw_Formula.ann) (args := [t0, t1, t2]) follows_mixed Try.func11 ((Eq.to_iff (congrFun (congrFun (congrFun (congrFun (congrFun (bradawllaw02_Raw_Formula.eq) t0) t1) t2) K) h)).mp hp)

/-! ### bradawl/walk.Walk: function 12 -/
abbrev walk_Walk.id : FuncId := 12
def walk_Walk.ann : Ann := (.seq none .leaf (.seq none .leaf (.seq none (.seq none .leaf (.cond (.seq none .leaf .leaf) .leaf)) (.seq none .leaf (.seq none .leaf (.seq none .leaf .leaf))))))
set_option maxRecDepth 100000 in
def walk_Walk.pt (t0 t1 t2 t3 t4 : Value) (K : Ret) (h : Heap) : Prop :=
 go (New (Value.cells t0) 30) h fun t5 h =>
 go (New (Value.cells t2) 39) h fun t7 h =>
 go (New #[(.slice none 0 0), (.int .i64 0), (.int .i64 0)] 34) h fun t10 h =>
 go (LdA 2 t5) h fun t18 h =>
 go (CallF Try.prog 19 [t18, t1]) h fun t20 h =>
 go (Ext 0 t20) h fun t21 h =>
 go (Ext 1 t20) h fun t22 h =>
 go (Bin .int .neq t22 (.int .i64 0)) h fun t24 h =>
 If t24 (
 go (Bld [(0, 1), (1, 1), (2, 1)] #[(.slice none 0 0), (.int .i64 0), (.int .i64 0)] []) h fun t25 h =>
 go (StA 3 t10 t25) h fun _ h =>
 go (LdA 3 t10) h fun r0 h =>
 K (.tuple #[r0, t22]) h) (
 go (LdA 3 t7) h fun t28 h =>
 go (CallF Try.prog 27 [t21, t28, t3, t4]) h fun t31 h =>
 go (CallF Try.prog 30 [t21]) h fun t34 h =>
 go (Ext 0 t34) h fun t35 h =>
 go (Ext 1 t34) h fun t36 h =>
 go (Bld [(0, 1), (1, 1), (2, 1)] #[(.slice none 0 0), (.int .i64 0), (.int .i64 0)] [(0, t35), (1, t36), (2, t31)]) h fun t40 h =>
 go (StA 3 t10 t40) h fun _ h =>
 go (LdA 3 t10) h fun r0 h =>
 K (.tuple #[r0, (.int .i64 0)]) h)
set_option maxRecDepth 100000 in
theorem walk_Walk.eq : (fun t0 t1 t2 t3 t4 K h => walk_Walk.pt t0 t1 t2 t3 t4 K h : Value → Value → Value → Value → Value → Ret → Heap → Prop) = (fun t0 t1 t2 t3 t4 K h => fnPt Try.prog [18, 20, 22, 24, 34, 35, 36, 40, 1000014, 1000016, 1000017, 1000033, 1000028, 1000013] Try.f12 walk_Walk.ann [t0, t1, t2, t3, t4] K h) := by kernel_rfl
set_option maxRecDepth 100000 in
theorem walk_Walk.ok {t0 t1 t2 t3 t4 : Value} {K : Ret} {h : Heap} (hp : walk_Walk.pt t0 t1 t2 t3 t4 K h) : CallH Try.prog 12 #[t0, t1, t2, t3, t4] K h :=
  fn_sound (qs := [18, 20, 22, 24, 34, 35, 36, 40, 1000014, 1000016, 1000017, 1000033, 1000028, 1000013]) (fn := Try.f12) (ann := walk_Walk.ann) (args := [t0, t1, t2, t3, t4]) follows_mixed Try.func12 ((Eq.to_iff (congrFun (congrFun (congrFun (congrFun (congrFun (congrFun (congrFun (walk_Walk.eq) t0) t1) t2) t3) t4) K) h)).mp hp)

/-! ### bradawl/rng.New: function 13 -/
abbrev rng_New.id : FuncId := 13
def rng_New.ann : Ann := (.seq none .leaf (.seq (some [0, 1]) (.seq none .leaf (.cond .leaf .leaf)) (.seq none .leaf .leaf)))
set_option maxRecDepth 100000 in
def rng_New.pt (t0 t1 : Value) (K : Ret) (h : Heap) : Prop :=
 Join 2 (fun J1 =>
 go (Bin .int .eql t1 (.int .u64 0)) h fun t6 h =>
 If t6 (
 J1 t0 (.int .u64 88172645463325252) h) (
 J1 t0 t1 h)) (fun t0_1 t1_1 h =>
 go (App 42 1 8 #[(.int .u64 0)] (.slice none 0 0) t0_1) h fun t8 h =>
 go (Bld [(0, 1), (1, 1), (2, 1)] #[(.slice none 0 0), (.int .u64 0), (.int .i64 0)] [(0, t8), (1, t1_1)]) h fun t10 h =>
 go (New (Value.cells t10) 75) h fun t11 h =>
 K t11 h)
set_option maxRecDepth 100000 in
theorem rng_New.eq : (fun t0 t1 K h => rng_New.pt t0 t1 K h : Value → Value → Ret → Heap → Prop) = (fun t0 t1 K h => fnPt Try.prog [18, 20, 22, 24, 34, 35, 36, 40, 1000014, 1000016, 1000017, 1000033, 1000028, 1000013] Try.f13 rng_New.ann [t0, t1] K h) := by kernel_rfl
set_option maxRecDepth 100000 in
theorem rng_New.ok {t0 t1 : Value} {K : Ret} {h : Heap} (hp : rng_New.pt t0 t1 K h) : CallH Try.prog 13 #[t0, t1] K h :=
  fn_sound (qs := [18, 20, 22, 24, 34, 35, 36, 40, 1000014, 1000016, 1000017, 1000033, 1000028, 1000013]) (fn := Try.f13) (ann := rng_New.ann) (args := [t0, t1]) follows_mixed Try.func13 ((Eq.to_iff (congrFun (congrFun (congrFun (congrFun (rng_New.eq) t0) t1) K) h)).mp hp)

/-! ### bradawl/walk.Right: function 14 -/
abbrev walk_Right.id : FuncId := 14
def walk_Right.ann : Ann := (.seq none .leaf (.seq none (.seq none .leaf (.cond (.seq none .leaf .leaf) .leaf)) (.seq none .leaf .leaf)))
set_option maxRecDepth 100000 in
def walk_Right.pt (t0 : Value) (K : Ret) (h : Heap) : Prop :=
 go (New (Value.cells t0) 39) h fun t1 h =>
 go (Fld 0 t1) h fun t3 h =>
 go (Ld t3) h fun t4 h =>
 go (Bin .int .eql t4 (.int .i64 2)) h fun t5 h =>
 If t5 (
 go (Fld 1 t1) h fun t6 h =>
 go (Ld t6) h fun t7 h =>
 go (Bin .int .eql t7 (.int .i64 0)) h fun t8 h =>
 go (Gd t8 true (Fld 2 t1)) h fun t10 h =>
 go (Gd t8 true (Ld t10)) h fun t11 h =>
 go (Gd t8 true (Bin .int .geq t11 (.int .i64 0))) h fun t12 h =>
 go (Pick t8 t12 (.bool false)) h fun t13 h =>
 go (Gd t13 true (Fld 2 t1)) h fun t15 h =>
 go (Gd t13 true (Ld t15)) h fun t16 h =>
 go (Gd t13 true (Bin .int .leq t16 (.int .i64 1000))) h fun t17 h =>
 go (Pick t13 t17 (.bool false)) h fun t18 h =>
 K t18 h) (
 go (Fld 0 t1) h fun t19 h =>
 go (Ld t19) h fun t20 h =>
 go (Fld 1 t1) h fun t21 h =>
 go (Ld t21) h fun t22 h =>
 go (CallF Try.prog 31 [t20, t22]) h fun t23 h =>
 go (Gd t23 true (Fld 2 t1)) h fun t25 h =>
 go (Gd t23 true (Ld t25)) h fun t26 h =>
 go (Gd t23 true (Bin .int .eql t26 (.int .i64 0))) h fun t27 h =>
 go (Pick t23 t27 (.bool false)) h fun t28 h =>
 K t28 h)
set_option maxRecDepth 100000 in
theorem walk_Right.eq : (fun t0 K h => walk_Right.pt t0 K h : Value → Ret → Heap → Prop) = (fun t0 K h => fnPt Try.prog [18, 20, 22, 24, 34, 35, 36, 40, 1000014, 1000016, 1000017, 1000033, 1000028, 1000013] Try.f14 walk_Right.ann [t0] K h) := by kernel_rfl
set_option maxRecDepth 100000 in
theorem walk_Right.ok {t0 : Value} {K : Ret} {h : Heap} (hp : walk_Right.pt t0 K h) : CallH Try.prog 14 #[t0] K h :=
  fn_sound (qs := [18, 20, 22, 24, 34, 35, 36, 40, 1000014, 1000016, 1000017, 1000033, 1000028, 1000013]) (fn := Try.f14) (ann := walk_Right.ann) (args := [t0]) follows_mixed Try.func14 ((Eq.to_iff (congrFun (congrFun (congrFun (walk_Right.eq) t0) K) h)).mp hp)

/-! ### bradawl/bradawllaw14.Start: function 15 -/
abbrev bradawllaw14_Start.id : FuncId := 15
def bradawllaw14_Start.ann : Ann := (.seq none .leaf (.seq none .leaf (.seq none (.seq none .leaf (.block (.loop [1, 5, 10, 11] (.seq none .leaf (.seq none (.cond .leaf .leaf) (.seq none (.block (.seq none .leaf .leaf)) .leaf)))))) (.seq none .leaf .leaf))))
set_option maxRecDepth 100000 in
def bradawllaw14_Start.pt (t0 t1 : Value) (K : Ret) (h : Heap) : Prop :=
 go (MkS 4 1 1 #[(.bool false)] t0 t0) h fun t8 h =>
 go (Len t8) h fun t10 h =>
 Lp 4 (fun X1 t1_1 t5 t10_1 t11 h =>
 go (Bin .int .lss t11 t10_1) h fun t12 h =>
 If t12 (
 go (Bin .int .rem t11 (.int .i64 32)) h fun t18 h =>
 go (Bin .int .shr t1_1 t18) h fun t19 h =>
 go (Bin .int .and t19 (.int .u32 1)) h fun t20 h =>
 go (Bin .int .eql t20 (.int .u32 1)) h fun t21 h =>
 go (Idx 1 t5 t11) h fun t22 h =>
 go (St t22 t21) h fun _ h =>
 go (Bin .int .add t11 (.int .i64 1)) h fun t23 h =>
 X1 t1_1 t5 t10_1 t23 h) (
 K t5 h)) [t1, t8, t10, (.int .i64 0)] h
set_option maxRecDepth 100000 in
theorem bradawllaw14_Start.eq : (fun t0 t1 K h => bradawllaw14_Start.pt t0 t1 K h : Value → Value → Ret → Heap → Prop) = (fun t0 t1 K h => fnPt Try.prog [18, 20, 22, 24, 34, 35, 36, 40, 1000014, 1000016, 1000017, 1000033, 1000028, 1000013] Try.f15 bradawllaw14_Start.ann [t0, t1] K h) := by kernel_rfl
set_option maxRecDepth 100000 in
theorem bradawllaw14_Start.ok {t0 t1 : Value} {K : Ret} {h : Heap} (hp : bradawllaw14_Start.pt t0 t1 K h) : CallH Try.prog 15 #[t0, t1] K h :=
  fn_sound (qs := [18, 20, 22, 24, 34, 35, 36, 40, 1000014, 1000016, 1000017, 1000033, 1000028, 1000013]) (fn := Try.f15) (ann := bradawllaw14_Start.ann) (args := [t0, t1]) follows_mixed Try.func15 ((Eq.to_iff (congrFun (congrFun (congrFun (congrFun (bradawllaw14_Start.eq) t0) t1) K) h)).mp hp)

/-! ### bradawl/bradawllaw15.Way: function 16 -/
abbrev bradawllaw15_Way.id : FuncId := 16
def bradawllaw15_Way.ann : Ann := (.seq none .leaf (.seq none (.seq none .leaf (.block (.seq none .leaf (.cond (.seq none .leaf .leaf) (.seq none .leaf (.cond (.seq none .leaf .leaf) .leaf)))))) (.seq none .leaf .leaf)))
set_option maxRecDepth 100000 in
def bradawllaw15_Way.pt (t0 t1 : Value) (K : Ret) (h : Heap) : Prop :=
 go (New #[(.int .i64 0), (.int .i64 0), (.int .i64 0)] 39) h fun t4 h =>
 go (Bin .int .rem t0 (.int .u8 3)) h fun t6 h =>
 go (Bin .int .eql t6 (.int .u8 0)) h fun t8 h =>
 If t8 (
 go (Cvt .i64 t1) h fun t10 h =>
 go (Bin .int .rem t10 (.int .i64 64)) h fun t11 h =>
 go (Bin .int .add (.int .i64 1) t11) h fun t12 h =>
 go (Bld [(0, 1), (1, 1), (2, 1)] #[(.int .i64 0), (.int .i64 0), (.int .i64 0)] [(0, (.int .i64 0)), (1, t12)]) h fun t13 h =>
 go (StA 3 t4 t13) h fun _ h =>
 go (LdA 3 t4) h fun r0 h =>
 K r0 h) (
 go (Bin .int .eql t6 (.int .u8 1)) h fun t15 h =>
 If t15 (
 go (Cvt .i64 t1) h fun t17 h =>
 go (Bin .int .rem t17 (.int .i64 240)) h fun t18 h =>
 go (Bin .int .add (.int .i64 17) t18) h fun t19 h =>
 go (Bld [(0, 1), (1, 1), (2, 1)] #[(.int .i64 0), (.int .i64 0), (.int .i64 0)] [(0, (.int .i64 1)), (1, t19)]) h fun t20 h =>
 go (StA 3 t4 t20) h fun _ h =>
 go (LdA 3 t4) h fun r0 h =>
 K r0 h) (
 go (Cvt .i64 t1) h fun t22 h =>
 go (Bin .int .rem t22 (.int .i64 1001)) h fun t23 h =>
 go (Bld [(0, 1), (1, 1), (2, 1)] #[(.int .i64 0), (.int .i64 0), (.int .i64 0)] [(0, (.int .i64 2)), (2, t23)]) h fun t24 h =>
 go (StA 3 t4 t24) h fun _ h =>
 go (LdA 3 t4) h fun r0 h =>
 K r0 h))
set_option maxRecDepth 100000 in
theorem bradawllaw15_Way.eq : (fun t0 t1 K h => bradawllaw15_Way.pt t0 t1 K h : Value → Value → Ret → Heap → Prop) = (fun t0 t1 K h => fnPt Try.prog [18, 20, 22, 24, 34, 35, 36, 40, 1000014, 1000016, 1000017, 1000033, 1000028, 1000013] Try.f16 bradawllaw15_Way.ann [t0, t1] K h) := by kernel_rfl
set_option maxRecDepth 100000 in
theorem bradawllaw15_Way.ok {t0 t1 : Value} {K : Ret} {h : Heap} (hp : bradawllaw15_Way.pt t0 t1 K h) : CallH Try.prog 16 #[t0, t1] K h :=
  fn_sound (qs := [18, 20, 22, 24, 34, 35, 36, 40, 1000014, 1000016, 1000017, 1000033, 1000028, 1000013]) (fn := Try.f16) (ann := bradawllaw15_Way.ann) (args := [t0, t1]) follows_mixed Try.func16 ((Eq.to_iff (congrFun (congrFun (congrFun (congrFun (bradawllaw15_Way.eq) t0) t1) K) h)).mp hp)

/-! ### bradawl/bradawllaw15.unsatisfied: function 17 -/
abbrev bradawllaw15_unsatisfied.id : FuncId := 17
def bradawllaw15_unsatisfied.ann : Ann := (.seq none .leaf (.seq none .leaf (.seq none .leaf (.seq none (.seq none .leaf (.block (.loop [1, 2, 7, 15, 16, 17] (.seq none .leaf (.seq none (.cond .leaf .leaf) (.seq (some [1, 2, 7, 15, 16, 17]) (.block (.seq none .leaf (.seq none .leaf (.cond .leaf .leaf)))) .leaf)))))) (.seq none .leaf .leaf)))))
set_option maxRecDepth 100000 in
def bradawllaw15_unsatisfied.pt (t0 t1 : Value) (K : Ret) (h : Heap) : Prop :=
 go (New (Value.cells t0) 30) h fun t2 h =>
 go (LdA 2 t2) h fun t11 h =>
 go (CallF Try.prog 32 [t11]) h fun t12 h =>
 go (Ext 0 t12) h fun t13 h =>
 go (Ext 1 t12) h fun t14 h =>
 go (Len t13) h fun t16 h =>
 Lp 6 (fun X1 t1_1 t2_1 t7 t15 t16_1 t17 h =>
 go (Bin .int .lss t17 t16_1) h fun t18 h =>
 If t18 (
 Join 6 (fun J2 =>
 go (Idx 1 t15 t17) h fun t19 h =>
 go (Ld t19) h fun t20 h =>
 go (Fld 0 t2_1) h fun t21 h =>
 go (Ld t21) h fun t22 h =>
 go (BldS 58 1 1 #[(.slice none 0 0)] [(0, t20)]) h fun t24 h =>
 go (Bld [(0, 1), (1, 1)] #[(.int .i64 0), (.slice none 0 0)] [(0, t22), (1, t24)]) h fun t25 h =>
 go (CallF Try.prog 29 [t25, t1_1]) h fun t27 h =>
 go (Un .not t27) h fun t28 h =>
 If t28 (
 go (Bin .int .add t7 (.int .i64 1)) h fun t30 h =>
 J2 t1_1 t2_1 t30 t15 t16_1 t17 h) (
 J2 t1_1 t2_1 t7 t15 t16_1 t17 h)) (fun t1_2 t2_2 t7_1 t15_1 t16_2 t17_1 h =>
 go (Bin .int .add t17_1 (.int .i64 1)) h fun t31 h =>
 X1 t1_2 t2_2 t7_1 t15_1 t16_2 t31 h)) (
 K t7 h)) [t1, t2, (.int .i64 0), t13, t16, (.int .i64 0)] h
set_option maxRecDepth 100000 in
theorem bradawllaw15_unsatisfied.eq : (fun t0 t1 K h => bradawllaw15_unsatisfied.pt t0 t1 K h : Value → Value → Ret → Heap → Prop) = (fun t0 t1 K h => fnPt Try.prog [18, 20, 22, 24, 34, 35, 36, 40, 1000014, 1000016, 1000017, 1000033, 1000028, 1000013] Try.f17 bradawllaw15_unsatisfied.ann [t0, t1] K h) := by kernel_rfl
set_option maxRecDepth 100000 in
theorem bradawllaw15_unsatisfied.ok {t0 t1 : Value} {K : Ret} {h : Heap} (hp : bradawllaw15_unsatisfied.pt t0 t1 K h) : CallH Try.prog 17 #[t0, t1] K h :=
  fn_sound (qs := [18, 20, 22, 24, 34, 35, 36, 40, 1000014, 1000016, 1000017, 1000033, 1000028, 1000013]) (fn := Try.f17) (ann := bradawllaw15_unsatisfied.ann) (args := [t0, t1]) follows_mixed Try.func17 ((Eq.to_iff (congrFun (congrFun (congrFun (congrFun (bradawllaw15_unsatisfied.eq) t0) t1) K) h)).mp hp)

/-! ### (*bradawl/rng.Stream).Drawn: function 18 -/
abbrev rng_Stream_Drawn.id : FuncId := 18
def rng_Stream_Drawn.ann : Ann := (.seq none .leaf (.seq none .leaf .leaf))
set_option maxRecDepth 100000 in
def rng_Stream_Drawn.pt (t0 : Value) (K : Ret) (h : Heap) : Prop :=
 go (NilC t0) h fun t4 h =>
 go (Fld 2 t4) h fun t5 h =>
 go (Ld t5) h fun t6 h =>
 K t6 h
set_option maxRecDepth 100000 in
theorem rng_Stream_Drawn.eq : (fun t0 K h => rng_Stream_Drawn.pt t0 K h : Value → Ret → Heap → Prop) = (fun t0 K h => fnPt Try.prog [18, 20, 22, 24, 34, 35, 36, 40, 1000014, 1000016, 1000017, 1000033, 1000028, 1000013] Try.f18 rng_Stream_Drawn.ann [t0] K h) := by kernel_rfl
set_option maxRecDepth 100000 in
theorem rng_Stream_Drawn.ok {t0 : Value} {K : Ret} {h : Heap} (hp : rng_Stream_Drawn.pt t0 K h) : CallH Try.prog 18 #[t0] K h :=
  fn_sound (qs := [18, 20, 22, 24, 34, 35, 36, 40, 1000014, 1000016, 1000017, 1000033, 1000028, 1000013]) (fn := Try.f18) (ann := rng_Stream_Drawn.ann) (args := [t0]) follows_mixed Try.func18 ((Eq.to_iff (congrFun (congrFun (congrFun (rng_Stream_Drawn.eq) t0) K) h)).mp hp)

/-! ### bradawl/local.New: function 19 -/
abbrev local_New.id : FuncId := 19
def local_New.ann : Ann := (.seq none .leaf (.seq none (.seq none .leaf (.cond (.seq none .leaf .leaf) .leaf)) (.seq (some [2, 6]) .leaf (.seq none .leaf (.seq none (.seq none .leaf (.block (.loop [6, 40, 41, 42] (.seq none .leaf (.seq none (.cond .leaf .leaf) (.seq none (.block (.seq none .leaf (.seq none .leaf (.seq none (.seq none .leaf (.block (.loop [6, 9, 11, 40, 41, 42, 49, 50, 51] (.seq none .leaf (.seq none (.cond .leaf .leaf) (.seq (some [6, 9, 11, 40, 41, 42, 49, 50, 51]) (.block (.seq none .leaf (.seq (some [6, 9, 11, 13, 40, 41, 42, 49, 50, 51]) .leaf (.seq none .leaf (.cond (.seq none .leaf .leaf) .leaf))))) .leaf)))))) (.seq none .leaf .leaf))))) .leaf)))))) (.seq (some [6]) .leaf (.seq none .leaf .leaf)))))))
set_option maxRecDepth 100000 in
def local_New.pt (t0 t1 : Value) (K : Ret) (h : Heap) : Prop :=
 go (New (Value.cells t0) 30) h fun t2 h =>
 go (Len t1) h fun t15 h =>
 go (Fld 0 t2) h fun t16 h =>
 go (Ld t16) h fun t17 h =>
 go (Bin .int .neq t15 t17) h fun t18 h =>
 If t18 (
 K (.tuple #[(.pointer none), (.int .i64 1)]) h) (
 Join 2 (fun J1 =>
 go (Fld 0 t2) h fun t21 h =>
 go (Ld t21) h fun t22 h =>
 go (Bin .int .mul (.int .i64 2) t22) h fun t23 h =>
 go (Fld 0 t2) h fun t25 h =>
 go (Ld t25) h fun t26 h =>
 go (Bin .int .add t26 (.int .i64 1)) h fun t27 h =>
 go (Fld 0 t2) h fun t29 h =>
 go (Ld t29) h fun t30 h =>
 go (Bin .int .add t30 (.int .i64 1)) h fun t31 h =>
 (go (ACall Try.prog 33 [t1]) h fun t20 h =>
 (go (MkS 58 24 1 #[(.slice none 0 0)] t23 t23) h fun t24 h =>
 (go (MkS 3 8 1 #[(.int .i64 0)] t27 t27) h fun t28 h =>
 go (MkS 3 8 1 #[(.int .i64 0)] t31 t31) h fun t32 h =>
 go (Bld [(0, 1), (1, 1), (2, 1), (3, 1), (4, 1), (5, 1), (6, 1), (7, 1), (8, 1)] #[(.slice none 0 0), (.slice none 0 0), (.slice none 0 0), (.slice none 0 0), (.slice none 0 0), (.slice none 0 0), (.slice none 0 0), (.int .i64 0), (.int .i64 0)] [(0, t20), (2, t24), (4, t28), (5, t32)]) h fun t33 h =>
 go (New (Value.cells t33) 82) h fun t34 h =>
 J1 t2 t34 h) ∧
 (go (MkS 3 8 1 #[(.int .i64 0)] t31 t31) h fun t32_1 h =>
 go (MkS 3 8 1 #[(.int .i64 0)] t27 t27) h fun t28_1 h =>
 go (Bld [(0, 1), (1, 1), (2, 1), (3, 1), (4, 1), (5, 1), (6, 1), (7, 1), (8, 1)] #[(.slice none 0 0), (.slice none 0 0), (.slice none 0 0), (.slice none 0 0), (.slice none 0 0), (.slice none 0 0), (.slice none 0 0), (.int .i64 0), (.int .i64 0)] [(0, t20), (2, t24), (4, t28_1), (5, t32_1)]) h fun t33_1 h =>
 go (New (Value.cells t33_1) 82) h fun t34_1 h =>
 J1 t2 t34_1 h)) ∧
 (go (MkS 3 8 1 #[(.int .i64 0)] t27 t27) h fun t28_2 h =>
 (go (MkS 58 24 1 #[(.slice none 0 0)] t23 t23) h fun t24_1 h =>
 go (MkS 3 8 1 #[(.int .i64 0)] t31 t31) h fun t32_2 h =>
 go (Bld [(0, 1), (1, 1), (2, 1), (3, 1), (4, 1), (5, 1), (6, 1), (7, 1), (8, 1)] #[(.slice none 0 0), (.slice none 0 0), (.slice none 0 0), (.slice none 0 0), (.slice none 0 0), (.slice none 0 0), (.slice none 0 0), (.int .i64 0), (.int .i64 0)] [(0, t20), (2, t24_1), (4, t28_2), (5, t32_2)]) h fun t33_2 h =>
 go (New (Value.cells t33_2) 82) h fun t34_2 h =>
 J1 t2 t34_2 h) ∧
 (go (MkS 3 8 1 #[(.int .i64 0)] t31 t31) h fun t32_3 h =>
 go (MkS 58 24 1 #[(.slice none 0 0)] t23 t23) h fun t24_2 h =>
 go (Bld [(0, 1), (1, 1), (2, 1), (3, 1), (4, 1), (5, 1), (6, 1), (7, 1), (8, 1)] #[(.slice none 0 0), (.slice none 0 0), (.slice none 0 0), (.slice none 0 0), (.slice none 0 0), (.slice none 0 0), (.slice none 0 0), (.int .i64 0), (.int .i64 0)] [(0, t20), (2, t24_2), (4, t28_2), (5, t32_3)]) h fun t33_3 h =>
 go (New (Value.cells t33_3) 82) h fun t34_3 h =>
 J1 t2 t34_3 h)) ∧
 (go (MkS 3 8 1 #[(.int .i64 0)] t31 t31) h fun t32_4 h =>
 (go (MkS 58 24 1 #[(.slice none 0 0)] t23 t23) h fun t24_3 h =>
 go (MkS 3 8 1 #[(.int .i64 0)] t27 t27) h fun t28_3 h =>
 go (Bld [(0, 1), (1, 1), (2, 1), (3, 1), (4, 1), (5, 1), (6, 1), (7, 1), (8, 1)] #[(.slice none 0 0), (.slice none 0 0), (.slice none 0 0), (.slice none 0 0), (.slice none 0 0), (.slice none 0 0), (.slice none 0 0), (.int .i64 0), (.int .i64 0)] [(0, t20), (2, t24_3), (4, t28_3), (5, t32_4)]) h fun t33_4 h =>
 go (New (Value.cells t33_4) 82) h fun t34_4 h =>
 J1 t2 t34_4 h) ∧
 (go (MkS 3 8 1 #[(.int .i64 0)] t27 t27) h fun t28_4 h =>
 go (MkS 58 24 1 #[(.slice none 0 0)] t23 t23) h fun t24_4 h =>
 go (Bld [(0, 1), (1, 1), (2, 1), (3, 1), (4, 1), (5, 1), (6, 1), (7, 1), (8, 1)] #[(.slice none 0 0), (.slice none 0 0), (.slice none 0 0), (.slice none 0 0), (.slice none 0 0), (.slice none 0 0), (.slice none 0 0), (.int .i64 0), (.int .i64 0)] [(0, t20), (2, t24_4), (4, t28_4), (5, t32_4)]) h fun t33_5 h =>
 go (New (Value.cells t33_5) 82) h fun t34_5 h =>
 J1 t2 t34_5 h))) ∧
 (go (MkS 58 24 1 #[(.slice none 0 0)] t23 t23) h fun t24_5 h =>
 (go (ACall Try.prog 33 [t1]) h fun t20_1 h =>
 (go (MkS 3 8 1 #[(.int .i64 0)] t27 t27) h fun t28_5 h =>
 go (MkS 3 8 1 #[(.int .i64 0)] t31 t31) h fun t32_5 h =>
 go (Bld [(0, 1), (1, 1), (2, 1), (3, 1), (4, 1), (5, 1), (6, 1), (7, 1), (8, 1)] #[(.slice none 0 0), (.slice none 0 0), (.slice none 0 0), (.slice none 0 0), (.slice none 0 0), (.slice none 0 0), (.slice none 0 0), (.int .i64 0), (.int .i64 0)] [(0, t20_1), (2, t24_5), (4, t28_5), (5, t32_5)]) h fun t33_6 h =>
 go (New (Value.cells t33_6) 82) h fun t34_6 h =>
 J1 t2 t34_6 h) ∧
 (go (MkS 3 8 1 #[(.int .i64 0)] t31 t31) h fun t32_6 h =>
 go (MkS 3 8 1 #[(.int .i64 0)] t27 t27) h fun t28_6 h =>
 go (Bld [(0, 1), (1, 1), (2, 1), (3, 1), (4, 1), (5, 1), (6, 1), (7, 1), (8, 1)] #[(.slice none 0 0), (.slice none 0 0), (.slice none 0 0), (.slice none 0 0), (.slice none 0 0), (.slice none 0 0), (.slice none 0 0), (.int .i64 0), (.int .i64 0)] [(0, t20_1), (2, t24_5), (4, t28_6), (5, t32_6)]) h fun t33_7 h =>
 go (New (Value.cells t33_7) 82) h fun t34_7 h =>
 J1 t2 t34_7 h)) ∧
 (go (MkS 3 8 1 #[(.int .i64 0)] t27 t27) h fun t28_7 h =>
 (go (ACall Try.prog 33 [t1]) h fun t20_2 h =>
 go (MkS 3 8 1 #[(.int .i64 0)] t31 t31) h fun t32_7 h =>
 go (Bld [(0, 1), (1, 1), (2, 1), (3, 1), (4, 1), (5, 1), (6, 1), (7, 1), (8, 1)] #[(.slice none 0 0), (.slice none 0 0), (.slice none 0 0), (.slice none 0 0), (.slice none 0 0), (.slice none 0 0), (.slice none 0 0), (.int .i64 0), (.int .i64 0)] [(0, t20_2), (2, t24_5), (4, t28_7), (5, t32_7)]) h fun t33_8 h =>
 go (New (Value.cells t33_8) 82) h fun t34_8 h =>
 J1 t2 t34_8 h) ∧
 (go (MkS 3 8 1 #[(.int .i64 0)] t31 t31) h fun t32_8 h =>
 go (ACall Try.prog 33 [t1]) h fun t20_3 h =>
 go (Bld [(0, 1), (1, 1), (2, 1), (3, 1), (4, 1), (5, 1), (6, 1), (7, 1), (8, 1)] #[(.slice none 0 0), (.slice none 0 0), (.slice none 0 0), (.slice none 0 0), (.slice none 0 0), (.slice none 0 0), (.slice none 0 0), (.int .i64 0), (.int .i64 0)] [(0, t20_3), (2, t24_5), (4, t28_7), (5, t32_8)]) h fun t33_9 h =>
 go (New (Value.cells t33_9) 82) h fun t34_9 h =>
 J1 t2 t34_9 h)) ∧
 (go (MkS 3 8 1 #[(.int .i64 0)] t31 t31) h fun t32_9 h =>
 (go (ACall Try.prog 33 [t1]) h fun t20_4 h =>
 go (MkS 3 8 1 #[(.int .i64 0)] t27 t27) h fun t28_8 h =>
 go (Bld [(0, 1), (1, 1), (2, 1), (3, 1), (4, 1), (5, 1), (6, 1), (7, 1), (8, 1)] #[(.slice none 0 0), (.slice none 0 0), (.slice none 0 0), (.slice none 0 0), (.slice none 0 0), (.slice none 0 0), (.slice none 0 0), (.int .i64 0), (.int .i64 0)] [(0, t20_4), (2, t24_5), (4, t28_8), (5, t32_9)]) h fun t33_10 h =>
 go (New (Value.cells t33_10) 82) h fun t34_10 h =>
 J1 t2 t34_10 h) ∧
 (go (MkS 3 8 1 #[(.int .i64 0)] t27 t27) h fun t28_9 h =>
 go (ACall Try.prog 33 [t1]) h fun t20_5 h =>
 go (Bld [(0, 1), (1, 1), (2, 1), (3, 1), (4, 1), (5, 1), (6, 1), (7, 1), (8, 1)] #[(.slice none 0 0), (.slice none 0 0), (.slice none 0 0), (.slice none 0 0), (.slice none 0 0), (.slice none 0 0), (.slice none 0 0), (.int .i64 0), (.int .i64 0)] [(0, t20_5), (2, t24_5), (4, t28_9), (5, t32_9)]) h fun t33_11 h =>
 go (New (Value.cells t33_11) 82) h fun t34_11 h =>
 J1 t2 t34_11 h))) ∧
 (go (MkS 3 8 1 #[(.int .i64 0)] t27 t27) h fun t28_10 h =>
 (go (ACall Try.prog 33 [t1]) h fun t20_6 h =>
 (go (MkS 58 24 1 #[(.slice none 0 0)] t23 t23) h fun t24_6 h =>
 go (MkS 3 8 1 #[(.int .i64 0)] t31 t31) h fun t32_10 h =>
 go (Bld [(0, 1), (1, 1), (2, 1), (3, 1), (4, 1), (5, 1), (6, 1), (7, 1), (8, 1)] #[(.slice none 0 0), (.slice none 0 0), (.slice none 0 0), (.slice none 0 0), (.slice none 0 0), (.slice none 0 0), (.slice none 0 0), (.int .i64 0), (.int .i64 0)] [(0, t20_6), (2, t24_6), (4, t28_10), (5, t32_10)]) h fun t33_12 h =>
 go (New (Value.cells t33_12) 82) h fun t34_12 h =>
 J1 t2 t34_12 h) ∧
 (go (MkS 3 8 1 #[(.int .i64 0)] t31 t31) h fun t32_11 h =>
 go (MkS 58 24 1 #[(.slice none 0 0)] t23 t23) h fun t24_7 h =>
 go (Bld [(0, 1), (1, 1), (2, 1), (3, 1), (4, 1), (5, 1), (6, 1), (7, 1), (8, 1)] #[(.slice none 0 0), (.slice none 0 0), (.slice none 0 0), (.slice none 0 0), (.slice none 0 0), (.slice none 0 0), (.slice none 0 0), (.int .i64 0), (.int .i64 0)] [(0, t20_6), (2, t24_7), (4, t28_10), (5, t32_11)]) h fun t33_13 h =>
 go (New (Value.cells t33_13) 82) h fun t34_13 h =>
 J1 t2 t34_13 h)) ∧
 (go (MkS 58 24 1 #[(.slice none 0 0)] t23 t23) h fun t24_8 h =>
 (go (ACall Try.prog 33 [t1]) h fun t20_7 h =>
 go (MkS 3 8 1 #[(.int .i64 0)] t31 t31) h fun t32_12 h =>
 go (Bld [(0, 1), (1, 1), (2, 1), (3, 1), (4, 1), (5, 1), (6, 1), (7, 1), (8, 1)] #[(.slice none 0 0), (.slice none 0 0), (.slice none 0 0), (.slice none 0 0), (.slice none 0 0), (.slice none 0 0), (.slice none 0 0), (.int .i64 0), (.int .i64 0)] [(0, t20_7), (2, t24_8), (4, t28_10), (5, t32_12)]) h fun t33_14 h =>
 go (New (Value.cells t33_14) 82) h fun t34_14 h =>
 J1 t2 t34_14 h) ∧
 (go (MkS 3 8 1 #[(.int .i64 0)] t31 t31) h fun t32_13 h =>
 go (ACall Try.prog 33 [t1]) h fun t20_8 h =>
 go (Bld [(0, 1), (1, 1), (2, 1), (3, 1), (4, 1), (5, 1), (6, 1), (7, 1), (8, 1)] #[(.slice none 0 0), (.slice none 0 0), (.slice none 0 0), (.slice none 0 0), (.slice none 0 0), (.slice none 0 0), (.slice none 0 0), (.int .i64 0), (.int .i64 0)] [(0, t20_8), (2, t24_8), (4, t28_10), (5, t32_13)]) h fun t33_15 h =>
 go (New (Value.cells t33_15) 82) h fun t34_15 h =>
 J1 t2 t34_15 h)) ∧
 (go (MkS 3 8 1 #[(.int .i64 0)] t31 t31) h fun t32_14 h =>
 (go (ACall Try.prog 33 [t1]) h fun t20_9 h =>
 go (MkS 58 24 1 #[(.slice none 0 0)] t23 t23) h fun t24_9 h =>
 go (Bld [(0, 1), (1, 1), (2, 1), (3, 1), (4, 1), (5, 1), (6, 1), (7, 1), (8, 1)] #[(.slice none 0 0), (.slice none 0 0), (.slice none 0 0), (.slice none 0 0), (.slice none 0 0), (.slice none 0 0), (.slice none 0 0), (.int .i64 0), (.int .i64 0)] [(0, t20_9), (2, t24_9), (4, t28_10), (5, t32_14)]) h fun t33_16 h =>
 go (New (Value.cells t33_16) 82) h fun t34_16 h =>
 J1 t2 t34_16 h) ∧
 (go (MkS 58 24 1 #[(.slice none 0 0)] t23 t23) h fun t24_10 h =>
 go (ACall Try.prog 33 [t1]) h fun t20_10 h =>
 go (Bld [(0, 1), (1, 1), (2, 1), (3, 1), (4, 1), (5, 1), (6, 1), (7, 1), (8, 1)] #[(.slice none 0 0), (.slice none 0 0), (.slice none 0 0), (.slice none 0 0), (.slice none 0 0), (.slice none 0 0), (.slice none 0 0), (.int .i64 0), (.int .i64 0)] [(0, t20_10), (2, t24_10), (4, t28_10), (5, t32_14)]) h fun t33_17 h =>
 go (New (Value.cells t33_17) 82) h fun t34_17 h =>
 J1 t2 t34_17 h))) ∧
 (go (MkS 3 8 1 #[(.int .i64 0)] t31 t31) h fun t32_15 h =>
 (go (ACall Try.prog 33 [t1]) h fun t20_11 h =>
 (go (MkS 58 24 1 #[(.slice none 0 0)] t23 t23) h fun t24_11 h =>
 go (MkS 3 8 1 #[(.int .i64 0)] t27 t27) h fun t28_11 h =>
 go (Bld [(0, 1), (1, 1), (2, 1), (3, 1), (4, 1), (5, 1), (6, 1), (7, 1), (8, 1)] #[(.slice none 0 0), (.slice none 0 0), (.slice none 0 0), (.slice none 0 0), (.slice none 0 0), (.slice none 0 0), (.slice none 0 0), (.int .i64 0), (.int .i64 0)] [(0, t20_11), (2, t24_11), (4, t28_11), (5, t32_15)]) h fun t33_18 h =>
 go (New (Value.cells t33_18) 82) h fun t34_18 h =>
 J1 t2 t34_18 h) ∧
 (go (MkS 3 8 1 #[(.int .i64 0)] t27 t27) h fun t28_12 h =>
 go (MkS 58 24 1 #[(.slice none 0 0)] t23 t23) h fun t24_12 h =>
 go (Bld [(0, 1), (1, 1), (2, 1), (3, 1), (4, 1), (5, 1), (6, 1), (7, 1), (8, 1)] #[(.slice none 0 0), (.slice none 0 0), (.slice none 0 0), (.slice none 0 0), (.slice none 0 0), (.slice none 0 0), (.slice none 0 0), (.int .i64 0), (.int .i64 0)] [(0, t20_11), (2, t24_12), (4, t28_12), (5, t32_15)]) h fun t33_19 h =>
 go (New (Value.cells t33_19) 82) h fun t34_19 h =>
 J1 t2 t34_19 h)) ∧
 (go (MkS 58 24 1 #[(.slice none 0 0)] t23 t23) h fun t24_13 h =>
 (go (ACall Try.prog 33 [t1]) h fun t20_12 h =>
 go (MkS 3 8 1 #[(.int .i64 0)] t27 t27) h fun t28_13 h =>
 go (Bld [(0, 1), (1, 1), (2, 1), (3, 1), (4, 1), (5, 1), (6, 1), (7, 1), (8, 1)] #[(.slice none 0 0), (.slice none 0 0), (.slice none 0 0), (.slice none 0 0), (.slice none 0 0), (.slice none 0 0), (.slice none 0 0), (.int .i64 0), (.int .i64 0)] [(0, t20_12), (2, t24_13), (4, t28_13), (5, t32_15)]) h fun t33_20 h =>
 go (New (Value.cells t33_20) 82) h fun t34_20 h =>
 J1 t2 t34_20 h) ∧
 (go (MkS 3 8 1 #[(.int .i64 0)] t27 t27) h fun t28_14 h =>
 go (ACall Try.prog 33 [t1]) h fun t20_13 h =>
 go (Bld [(0, 1), (1, 1), (2, 1), (3, 1), (4, 1), (5, 1), (6, 1), (7, 1), (8, 1)] #[(.slice none 0 0), (.slice none 0 0), (.slice none 0 0), (.slice none 0 0), (.slice none 0 0), (.slice none 0 0), (.slice none 0 0), (.int .i64 0), (.int .i64 0)] [(0, t20_13), (2, t24_13), (4, t28_14), (5, t32_15)]) h fun t33_21 h =>
 go (New (Value.cells t33_21) 82) h fun t34_21 h =>
 J1 t2 t34_21 h)) ∧
 (go (MkS 3 8 1 #[(.int .i64 0)] t27 t27) h fun t28_15 h =>
 (go (ACall Try.prog 33 [t1]) h fun t20_14 h =>
 go (MkS 58 24 1 #[(.slice none 0 0)] t23 t23) h fun t24_14 h =>
 go (Bld [(0, 1), (1, 1), (2, 1), (3, 1), (4, 1), (5, 1), (6, 1), (7, 1), (8, 1)] #[(.slice none 0 0), (.slice none 0 0), (.slice none 0 0), (.slice none 0 0), (.slice none 0 0), (.slice none 0 0), (.slice none 0 0), (.int .i64 0), (.int .i64 0)] [(0, t20_14), (2, t24_14), (4, t28_15), (5, t32_15)]) h fun t33_22 h =>
 go (New (Value.cells t33_22) 82) h fun t34_22 h =>
 J1 t2 t34_22 h) ∧
 (go (MkS 58 24 1 #[(.slice none 0 0)] t23 t23) h fun t24_15 h =>
 go (ACall Try.prog 33 [t1]) h fun t20_15 h =>
 go (Bld [(0, 1), (1, 1), (2, 1), (3, 1), (4, 1), (5, 1), (6, 1), (7, 1), (8, 1)] #[(.slice none 0 0), (.slice none 0 0), (.slice none 0 0), (.slice none 0 0), (.slice none 0 0), (.slice none 0 0), (.slice none 0 0), (.int .i64 0), (.int .i64 0)] [(0, t20_15), (2, t24_15), (4, t28_15), (5, t32_15)]) h fun t33_23 h =>
 go (New (Value.cells t33_23) 82) h fun t34_23 h =>
 J1 t2 t34_23 h)))) (fun t2_1 t6 h =>
 go (LdA 2 t2_1) h fun t36 h =>
 go (CallF Try.prog 32 [t36]) h fun t37 h =>
 go (Ext 0 t37) h fun t38 h =>
 go (Ext 1 t37) h fun t39 h =>
 go (Len t38) h fun t41 h =>
 Lp 4 (fun X2 t6_1 t40 t41_1 t42 h =>
 go (Bin .int .lss t42 t41_1) h fun t43 h =>
 If t43 (
 go (Idx 1 t40 t42) h fun t45 h =>
 go (Ld t45) h fun t46 h =>
 go (Bld [(0, 1), (1, 1), (2, 1), (3, 1)] #[(.slice none 0 0), (.int .i64 0), (.int .i64 0), (.int .i64 0)] [(0, t46), (3, (.int .i64 (-1)))]) h fun t48 h =>
 go (New #[(.slice none 0 0), (.int .i64 0), (.int .i64 0), (.int .i64 0)] 84) h fun t11 h =>
 go (StA 4 t11 t48) h fun _ h =>
 go (Len t46) h fun t50 h =>
 Lp 9 (fun X3 t6_2 t9 t11_1 t40_1 t41_2 t42_1 t49 t50_1 t51 h =>
 go (Bin .int .lss t51 t50_1) h fun t52 h =>
 If t52 (
 Join 9 (fun J4 =>
 go (Idx 1 t49 t51) h fun t53 h =>
 go (Ld t53) h fun t54 h =>
 Join 10 (fun J5 =>
 go (NilC t6_2) h fun t56 h =>
 go (Fld 2 t56) h fun t57 h =>
 go (NilC t6_2) h fun t62 h =>
 go (Fld 2 t62) h fun t63 h =>
 go (Ld t63) h fun t64 h =>
 (go (Ld t57) h fun t58 h =>
 (go (QCall Try.prog 34 [t54]) h fun t60 h =>
 (go (QCall Try.prog 34 [t54]) h fun t66 h =>
 go (Idx 1 t64 t66) h fun t67 h =>
 go (Ld t67) h fun t68 h =>
 go (BldS 3 1 1 #[(.int .i64 0)] [(0, t9)]) h fun t70 h =>
 go (App 3 1 8 #[(.int .i64 0)] t68 t70) h fun t71 h =>
 go (Idx 1 t58 t60) h fun t72 h =>
 go (St t72 t71) h fun _ h =>
 J5 t6_2 t9 t11_1 t54 t40_1 t41_2 t42_1 t49 t50_1 t51 h) ∧
 (go (BldS 3 1 1 #[(.int .i64 0)] [(0, t9)]) h fun t70_1 h =>
 go (QCall Try.prog 34 [t54]) h fun t66_1 h =>
 go (Idx 1 t64 t66_1) h fun t67_1 h =>
 go (Ld t67_1) h fun t68_1 h =>
 go (App 3 1 8 #[(.int .i64 0)] t68_1 t70_1) h fun t71_1 h =>
 go (Idx 1 t58 t60) h fun t72_1 h =>
 go (St t72_1 t71_1) h fun _ h =>
 J5 t6_2 t9 t11_1 t54 t40_1 t41_2 t42_1 t49 t50_1 t51 h)) ∧
 (go (BldS 3 1 1 #[(.int .i64 0)] [(0, t9)]) h fun t70_2 h =>
 go (QCall Try.prog 34 [t54]) h fun t60_1 h =>
 go (QCall Try.prog 34 [t54]) h fun t66_2 h =>
 go (Idx 1 t64 t66_2) h fun t67_2 h =>
 go (Ld t67_2) h fun t68_2 h =>
 go (App 3 1 8 #[(.int .i64 0)] t68_2 t70_2) h fun t71_2 h =>
 go (Idx 1 t58 t60_1) h fun t72_2 h =>
 go (St t72_2 t71_2) h fun _ h =>
 J5 t6_2 t9 t11_1 t54 t40_1 t41_2 t42_1 t49 t50_1 t51 h)) ∧
 (go (QCall Try.prog 34 [t54]) h fun t60_2 h =>
 (go (Ld t57) h fun t58_1 h =>
 (go (QCall Try.prog 34 [t54]) h fun t66_3 h =>
 go (Idx 1 t64 t66_3) h fun t67_3 h =>
 go (Ld t67_3) h fun t68_3 h =>
 go (BldS 3 1 1 #[(.int .i64 0)] [(0, t9)]) h fun t70_3 h =>
 go (App 3 1 8 #[(.int .i64 0)] t68_3 t70_3) h fun t71_3 h =>
 go (Idx 1 t58_1 t60_2) h fun t72_3 h =>
 go (St t72_3 t71_3) h fun _ h =>
 J5 t6_2 t9 t11_1 t54 t40_1 t41_2 t42_1 t49 t50_1 t51 h) ∧
 (go (BldS 3 1 1 #[(.int .i64 0)] [(0, t9)]) h fun t70_4 h =>
 go (QCall Try.prog 34 [t54]) h fun t66_4 h =>
 go (Idx 1 t64 t66_4) h fun t67_4 h =>
 go (Ld t67_4) h fun t68_4 h =>
 go (App 3 1 8 #[(.int .i64 0)] t68_4 t70_4) h fun t71_4 h =>
 go (Idx 1 t58_1 t60_2) h fun t72_4 h =>
 go (St t72_4 t71_4) h fun _ h =>
 J5 t6_2 t9 t11_1 t54 t40_1 t41_2 t42_1 t49 t50_1 t51 h)) ∧
 (go (QCall Try.prog 34 [t54]) h fun t66_5 h =>
 go (Idx 1 t64 t66_5) h fun t67_5 h =>
 go (Ld t67_5) h fun t68_5 h =>
 (go (Ld t57) h fun t58_2 h =>
 go (BldS 3 1 1 #[(.int .i64 0)] [(0, t9)]) h fun t70_5 h =>
 go (App 3 1 8 #[(.int .i64 0)] t68_5 t70_5) h fun t71_5 h =>
 go (Idx 1 t58_2 t60_2) h fun t72_5 h =>
 go (St t72_5 t71_5) h fun _ h =>
 J5 t6_2 t9 t11_1 t54 t40_1 t41_2 t42_1 t49 t50_1 t51 h) ∧
 (go (BldS 3 1 1 #[(.int .i64 0)] [(0, t9)]) h fun t70_6 h =>
 (go (Ld t57) h fun t58_3 h =>
 go (App 3 1 8 #[(.int .i64 0)] t68_5 t70_6) h fun t71_6 h =>
 go (Idx 1 t58_3 t60_2) h fun t72_6 h =>
 go (St t72_6 t71_6) h fun _ h =>
 J5 t6_2 t9 t11_1 t54 t40_1 t41_2 t42_1 t49 t50_1 t51 h) ∧
 (go (App 3 1 8 #[(.int .i64 0)] t68_5 t70_6) h fun t71_7 h =>
 go (Ld t57) h fun t58_4 h =>
 go (Idx 1 t58_4 t60_2) h fun t72_7 h =>
 go (St t72_7 t71_7) h fun _ h =>
 J5 t6_2 t9 t11_1 t54 t40_1 t41_2 t42_1 t49 t50_1 t51 h))) ∧
 (go (BldS 3 1 1 #[(.int .i64 0)] [(0, t9)]) h fun t70_7 h =>
 go (QCall Try.prog 34 [t54]) h fun t66_6 h =>
 go (Idx 1 t64 t66_6) h fun t67_6 h =>
 go (Ld t67_6) h fun t68_6 h =>
 (go (Ld t57) h fun t58_5 h =>
 go (App 3 1 8 #[(.int .i64 0)] t68_6 t70_7) h fun t71_8 h =>
 go (Idx 1 t58_5 t60_2) h fun t72_8 h =>
 go (St t72_8 t71_8) h fun _ h =>
 J5 t6_2 t9 t11_1 t54 t40_1 t41_2 t42_1 t49 t50_1 t51 h) ∧
 (go (App 3 1 8 #[(.int .i64 0)] t68_6 t70_7) h fun t71_9 h =>
 go (Ld t57) h fun t58_6 h =>
 go (Idx 1 t58_6 t60_2) h fun t72_9 h =>
 go (St t72_9 t71_9) h fun _ h =>
 J5 t6_2 t9 t11_1 t54 t40_1 t41_2 t42_1 t49 t50_1 t51 h))) ∧
 (go (BldS 3 1 1 #[(.int .i64 0)] [(0, t9)]) h fun t70_8 h =>
 go (QCall Try.prog 34 [t54]) h fun t60_3 h =>
 go (QCall Try.prog 34 [t54]) h fun t66_7 h =>
 go (Idx 1 t64 t66_7) h fun t67_7 h =>
 go (Ld t67_7) h fun t68_7 h =>
 (go (Ld t57) h fun t58_7 h =>
 go (App 3 1 8 #[(.int .i64 0)] t68_7 t70_8) h fun t71_10 h =>
 go (Idx 1 t58_7 t60_3) h fun t72_10 h =>
 go (St t72_10 t71_10) h fun _ h =>
 J5 t6_2 t9 t11_1 t54 t40_1 t41_2 t42_1 t49 t50_1 t51 h) ∧
 (go (App 3 1 8 #[(.int .i64 0)] t68_7 t70_8) h fun t71_11 h =>
 go (Ld t57) h fun t58_8 h =>
 go (Idx 1 t58_8 t60_3) h fun t72_11 h =>
 go (St t72_11 t71_11) h fun _ h =>
 J5 t6_2 t9 t11_1 t54 t40_1 t41_2 t42_1 t49 t50_1 t51 h))) (fun t6_3 t9_1 t11_2 t13 t40_2 t41_3 t42_2 t49_1 t50_2 t51_1 h =>
 go (NilC t6_3) h fun t75 h =>
 go (Fld 0 t75) h fun t76 h =>
 go (Ld t76) h fun t77 h =>
 go (QCall Try.prog 35 [t13, t77]) h fun t78 h =>
 If t78 (
 go (Fld 1 t11_2) h fun t79 h =>
 go (Ld t79) h fun t80 h =>
 go (Bin .int .add t80 (.int .i64 1)) h fun t81 h =>
 go (Fld 1 t11_2) h fun t82 h =>
 go (St t82 t81) h fun _ h =>
 go (Fld 2 t11_2) h fun t83 h =>
 go (Ld t83) h fun t84 h =>
 go (QCall Try.prog 36 [t13]) h fun t86 h =>
 go (Bin .int .add t84 t86) h fun t87 h =>
 go (Fld 2 t11_2) h fun t88 h =>
 go (St t88 t87) h fun _ h =>
 J4 t6_3 t9_1 t11_2 t40_2 t41_3 t42_2 t49_1 t50_2 t51_1 h) (
 J4 t6_3 t9_1 t11_2 t40_2 t41_3 t42_2 t49_1 t50_2 t51_1 h))) (fun t6_4 t9_2 t11_3 t40_3 t41_4 t42_3 t49_2 t50_3 t51_2 h =>
 go (Bin .int .add t51_2 (.int .i64 1)) h fun t89 h =>
 X3 t6_4 t9_2 t11_3 t40_3 t41_4 t42_3 t49_2 t50_3 t89 h)) (
 go (NilC t6_2) h fun t92 h =>
 go (Fld 1 t92) h fun t93 h =>
 go (Ld t93) h fun t94 h =>
 go (LdA 4 t11_1) h fun t95 h =>
 go (BldS 84 4 1 #[(.slice none 0 0), (.int .i64 0), (.int .i64 0), (.int .i64 0)] [(0, t95)]) h fun t96 h =>
 go (App 84 4 48 #[(.slice none 0 0), (.int .i64 0), (.int .i64 0), (.int .i64 0)] t94 t96) h fun t97 h =>
 go (NilC t6_2) h fun t98 h =>
 go (Fld 1 t98) h fun t99 h =>
 go (St t99 t97) h fun _ h =>
 go (CallF Try.prog 37 [t6_2, t9, (.int .i64 1)]) h fun t102 h =>
 go (Bin .int .add t42_1 (.int .i64 1)) h fun t103 h =>
 X2 t6_2 t40_1 t41_2 t103 h)) [t6_1, t42, t11, t40, t41_1, t42, t46, t50, (.int .i64 0)] h) (
 Join 1 (fun J6 =>
 go (NilC t6_1) h fun t107 h =>
 go (Fld 0 t107) h fun t108 h =>
 go (Ld t108) h fun t109 h =>
 go (NilC t6_1) h fun t112 h =>
 go (Fld 3 t112) h fun t113 h =>
 go (Ld t113) h fun t114 h =>
 (go (ACall Try.prog 33 [t109]) h fun t110 h =>
 go (NilC t6_1) h fun t116 h =>
 go (Fld 6 t116) h fun t117 h =>
 (go (Len t114) h fun t115 h =>
 go (St t117 t110) h fun _ h =>
 go (NilC t6_1) h fun t118 h =>
 go (Fld 7 t118) h fun t119 h =>
 go (St t119 t115) h fun _ h =>
 J6 t6_1 h) ∧
 (go (St t117 t110) h fun _ h =>
 go (Len t114) h fun t115_1 h =>
 go (NilC t6_1) h fun t118_1 h =>
 go (Fld 7 t118_1) h fun t119_1 h =>
 go (St t119_1 t115_1) h fun _ h =>
 J6 t6_1 h)) ∧
 (go (Len t114) h fun t115_2 h =>
 go (ACall Try.prog 33 [t109]) h fun t110_1 h =>
 go (NilC t6_1) h fun t116_1 h =>
 go (Fld 6 t116_1) h fun t117_1 h =>
 go (St t117_1 t110_1) h fun _ h =>
 go (NilC t6_1) h fun t118_2 h =>
 go (Fld 7 t118_2) h fun t119_2 h =>
 go (St t119_2 t115_2) h fun _ h =>
 J6 t6_1 h)) (fun t6_5 h =>
 K (.tuple #[t6_5, (.int .i64 0)]) h))) [t6, t38, t41, (.int .i64 0)] h))
set_option maxRecDepth 100000 in
theorem local_New.eq : (fun t0 t1 K h => local_New.pt t0 t1 K h : Value → Value → Ret → Heap → Prop) = (fun t0 t1 K h => fnPt Try.prog [18, 20, 22, 24, 34, 35, 36, 40, 1000014, 1000016, 1000017, 1000033, 1000028, 1000013] Try.f19 local_New.ann [t0, t1] K h) := by kernel_rfl
set_option maxRecDepth 100000 in
theorem local_New.ok {t0 t1 : Value} {K : Ret} {h : Heap} (hp : local_New.pt t0 t1 K h) : CallH Try.prog 19 #[t0, t1] K h :=
  fn_sound (qs := [18, 20, 22, 24, 34, 35, 36, 40, 1000014, 1000016, 1000017, 1000033, 1000028, 1000013]) (fn := Try.f19) (ann := local_New.ann) (args := [t0, t1]) follows_mixed Try.func19 ((Eq.to_iff (congrFun (congrFun (congrFun (congrFun (local_New.eq) t0) t1) K) h)).mp hp)

/-! ### (*bradawl/local.State).Unsatisfied: function 20 -/
abbrev local_State_Unsatisfied.id : FuncId := 20
def local_State_Unsatisfied.ann : Ann := (.seq none .leaf (.seq none .leaf .leaf))
set_option maxRecDepth 100000 in
def local_State_Unsatisfied.pt (t0 : Value) (K : Ret) (h : Heap) : Prop :=
 go (NilC t0) h fun t4 h =>
 go (Fld 3 t4) h fun t5 h =>
 go (Ld t5) h fun t6 h =>
 go (Len t6) h fun t7 h =>
 K t7 h
set_option maxRecDepth 100000 in
theorem local_State_Unsatisfied.eq : (fun t0 K h => local_State_Unsatisfied.pt t0 K h : Value → Ret → Heap → Prop) = (fun t0 K h => fnPt Try.prog [18, 20, 22, 24, 34, 35, 36, 40, 1000014, 1000016, 1000017, 1000033, 1000028, 1000013] Try.f20 local_State_Unsatisfied.ann [t0] K h) := by kernel_rfl
set_option maxRecDepth 100000 in
theorem local_State_Unsatisfied.ok {t0 : Value} {K : Ret} {h : Heap} (hp : local_State_Unsatisfied.pt t0 K h) : CallH Try.prog 20 #[t0] K h :=
  fn_sound (qs := [18, 20, 22, 24, 34, 35, 36, 40, 1000014, 1000016, 1000017, 1000033, 1000028, 1000013]) (fn := Try.f20) (ann := local_State_Unsatisfied.ann) (args := [t0]) follows_mixed Try.func20 ((Eq.to_iff (congrFun (congrFun (congrFun (local_State_Unsatisfied.eq) t0) K) h)).mp hp)

/-! ### (*bradawl/local.State).Clause: function 21 -/
abbrev local_State_Clause.id : FuncId := 21
def local_State_Clause.ann : Ann := (.seq none .leaf (.seq none (.seq none .leaf (.cond (.seq none .leaf .leaf) .leaf)) (.seq none .leaf .leaf)))
set_option maxRecDepth 100000 in
def local_State_Clause.pt (t0 t1 : Value) (K : Ret) (h : Heap) : Prop :=
 go (Bin .int .lss t1 (.int .i64 0)) h fun t6 h =>
 go (Gd t6 false (Mv t1)) h fun t8 h =>
 go (Gd t6 false (Mv t0)) h fun t9 h =>
 go (Gd t6 false (NilC t9)) h fun t10 h =>
 go (Gd t6 false (Fld 1 t10)) h fun t11 h =>
 go (Gd t6 false (Ld t11)) h fun t12 h =>
 go (Gd t6 false (Len t12)) h fun t13 h =>
 go (Gd t6 false (Bin .int .geq t8 t13)) h fun t14 h =>
 go (Pick t6 (.bool true) t14) h fun t15 h =>
 If t15 (
 K (.slice none 0 0) h) (
 go (NilC t0) h fun t17 h =>
 go (Fld 1 t17) h fun t18 h =>
 go (Ld t18) h fun t19 h =>
 go (Idx 4 t19 t1) h fun t21 h =>
 go (Fld 0 t21) h fun t22 h =>
 go (Ld t22) h fun t23 h =>
 go (CallF Try.prog 38 [t23]) h fun t24 h =>
 K t24 h)
set_option maxRecDepth 100000 in
theorem local_State_Clause.eq : (fun t0 t1 K h => local_State_Clause.pt t0 t1 K h : Value → Value → Ret → Heap → Prop) = (fun t0 t1 K h => fnPt Try.prog [18, 20, 22, 24, 34, 35, 36, 40, 1000014, 1000016, 1000017, 1000033, 1000028, 1000013] Try.f21 local_State_Clause.ann [t0, t1] K h) := by kernel_rfl
set_option maxRecDepth 100000 in
theorem local_State_Clause.ok {t0 t1 : Value} {K : Ret} {h : Heap} (hp : local_State_Clause.pt t0 t1 K h) : CallH Try.prog 21 #[t0, t1] K h :=
  fn_sound (qs := [18, 20, 22, 24, 34, 35, 36, 40, 1000014, 1000016, 1000017, 1000033, 1000028, 1000013]) (fn := Try.f21) (ann := local_State_Clause.ann) (args := [t0, t1]) follows_mixed Try.func21 ((Eq.to_iff (congrFun (congrFun (congrFun (congrFun (local_State_Clause.eq) t0) t1) K) h)).mp hp)

/-! ### (*bradawl/local.State).Row: function 22 -/
abbrev local_State_Row.id : FuncId := 22
def local_State_Row.ann : Ann := (.seq none .leaf (.seq none (.seq none .leaf (.cond (.seq none .leaf .leaf) .leaf)) (.seq none .leaf .leaf)))
set_option maxRecDepth 100000 in
def local_State_Row.pt (t0 t1 : Value) (K : Ret) (h : Heap) : Prop :=
 go (Bin .int .lss t1 (.int .i64 0)) h fun t6 h =>
 go (Gd t6 false (Mv t1)) h fun t8 h =>
 go (Gd t6 false (Mv t0)) h fun t9 h =>
 go (Gd t6 false (NilC t9)) h fun t10 h =>
 go (Gd t6 false (Fld 3 t10)) h fun t11 h =>
 go (Gd t6 false (Ld t11)) h fun t12 h =>
 go (Gd t6 false (Len t12)) h fun t13 h =>
 go (Gd t6 false (Bin .int .geq t8 t13)) h fun t14 h =>
 go (Pick t6 (.bool true) t14) h fun t15 h =>
 If t15 (
 K (.int .i64 (-1)) h) (
 go (NilC t0) h fun t17 h =>
 go (Fld 3 t17) h fun t18 h =>
 go (Ld t18) h fun t19 h =>
 go (Idx 1 t19 t1) h fun t21 h =>
 go (Ld t21) h fun t22 h =>
 K t22 h)
set_option maxRecDepth 100000 in
theorem local_State_Row.eq : (fun t0 t1 K h => local_State_Row.pt t0 t1 K h : Value → Value → Ret → Heap → Prop) = (fun t0 t1 K h => fnPt Try.prog [18, 20, 22, 24, 34, 35, 36, 40, 1000014, 1000016, 1000017, 1000033, 1000028, 1000013] Try.f22 local_State_Row.ann [t0, t1] K h) := by kernel_rfl
set_option maxRecDepth 100000 in
theorem local_State_Row.ok {t0 t1 : Value} {K : Ret} {h : Heap} (hp : local_State_Row.pt t0 t1 K h) : CallH Try.prog 22 #[t0, t1] K h :=
  fn_sound (qs := [18, 20, 22, 24, 34, 35, 36, 40, 1000014, 1000016, 1000017, 1000033, 1000028, 1000013]) (fn := Try.f22) (ann := local_State_Row.ann) (args := [t0, t1]) follows_mixed Try.func22 ((Eq.to_iff (congrFun (congrFun (congrFun (congrFun (local_State_Row.eq) t0) t1) K) h)).mp hp)

/-! ### (*bradawl/rng.Stream).Below: function 23 -/
abbrev rng_Stream_Below.id : FuncId := 23
def rng_Stream_Below.ann : Ann := (.seq none .leaf (.seq none (.seq none .leaf (.cond (.seq none .leaf .leaf) .leaf)) (.seq none .leaf .leaf)))
set_option maxRecDepth 100000 in
def rng_Stream_Below.pt (t0 t1 : Value) (K : Ret) (h : Heap) : Prop :=
 go (Bin .int .lss t1 (.int .i64 1)) h fun t6 h =>
 If t6 (
 K (.int .i64 0) h) (
 go (CallF Try.prog 39 [t0]) h fun t8 h =>
 go (Cvt .u64 t1) h fun t10 h =>
 go (Bin .int .rem t8 t10) h fun t11 h =>
 go (Cvt .i64 t11) h fun t12 h =>
 K t12 h)
set_option maxRecDepth 100000 in
theorem rng_Stream_Below.eq : (fun t0 t1 K h => rng_Stream_Below.pt t0 t1 K h : Value → Value → Ret → Heap → Prop) = (fun t0 t1 K h => fnPt Try.prog [18, 20, 22, 24, 34, 35, 36, 40, 1000014, 1000016, 1000017, 1000033, 1000028, 1000013] Try.f23 rng_Stream_Below.ann [t0, t1] K h) := by kernel_rfl
set_option maxRecDepth 100000 in
theorem rng_Stream_Below.ok {t0 t1 : Value} {K : Ret} {h : Heap} (hp : rng_Stream_Below.pt t0 t1 K h) : CallH Try.prog 23 #[t0, t1] K h :=
  fn_sound (qs := [18, 20, 22, 24, 34, 35, 36, 40, 1000014, 1000016, 1000017, 1000033, 1000028, 1000013]) (fn := Try.f23) (ann := rng_Stream_Below.ann) (args := [t0, t1]) follows_mixed Try.func23 ((Eq.to_iff (congrFun (congrFun (congrFun (congrFun (rng_Stream_Below.eq) t0) t1) K) h)).mp hp)

/-! ### (*bradawl/local.State).Break: function 24 -/
abbrev local_State_Break.id : FuncId := 24
def local_State_Break.ann : Ann := (.seq none .leaf (.seq none (.seq none .leaf (.cond (.seq none .leaf .leaf) .leaf)) (.seq none .leaf .leaf)))
set_option maxRecDepth 100000 in
def local_State_Break.pt (t0 t1 : Value) (K : Ret) (h : Heap) : Prop :=
 go (QCall Try.prog 40 [t0, t1]) h fun t7 h =>
 go (Un .not t7) h fun t8 h =>
 If t8 (
 K (.int .i64 0) h) (
 go (NilC t0) h fun t10 h =>
 go (Fld 4 t10) h fun t11 h =>
 go (Ld t11) h fun t12 h =>
 go (Idx 1 t12 t1) h fun t14 h =>
 go (Ld t14) h fun t15 h =>
 K t15 h)
set_option maxRecDepth 100000 in
theorem local_State_Break.eq : (fun t0 t1 K h => local_State_Break.pt t0 t1 K h : Value → Value → Ret → Heap → Prop) = (fun t0 t1 K h => fnPt Try.prog [18, 20, 22, 24, 34, 35, 36, 40, 1000014, 1000016, 1000017, 1000033, 1000028, 1000013] Try.f24 local_State_Break.ann [t0, t1] K h) := by kernel_rfl
set_option maxRecDepth 100000 in
theorem local_State_Break.ok {t0 t1 : Value} {K : Ret} {h : Heap} (hp : local_State_Break.pt t0 t1 K h) : CallH Try.prog 24 #[t0, t1] K h :=
  fn_sound (qs := [18, 20, 22, 24, 34, 35, 36, 40, 1000014, 1000016, 1000017, 1000033, 1000028, 1000013]) (fn := Try.f24) (ann := local_State_Break.ann) (args := [t0, t1]) follows_mixed Try.func24 ((Eq.to_iff (congrFun (congrFun (congrFun (congrFun (local_State_Break.eq) t0) t1) K) h)).mp hp)

/-! ### bradawl/bradawllaw15.chosen: function 25 -/
abbrev bradawllaw15_chosen.id : FuncId := 25
def bradawllaw15_chosen.ann : Ann := (.seq none .leaf (.seq none (.seq none .leaf (.cond (.seq none .leaf .leaf) .leaf)) (.seq none .leaf (.seq none (.seq none .leaf (.block (.loop [0, 2, 4, 7, 22, 23] (.seq none .leaf (.seq none (.cond .leaf .leaf) (.seq (some [0, 2, 4, 7, 22, 23]) (.block (.seq none .leaf (.seq none .leaf (.cond .leaf .leaf)))) .leaf)))))) (.seq none (.seq none .leaf (.cond (.seq none .leaf .leaf) .leaf)) (.seq none (.seq (some [0, 2, 7, 47]) .leaf (.cond (.seq none .leaf .leaf) .leaf)) (.seq none .leaf .leaf)))))))
set_option maxRecDepth 100000 in
def bradawllaw15_chosen.pt (t0 t1 t2 : Value) (K : Ret) (h : Heap) : Prop :=
 go (New (Value.cells t1) 39) h fun t4 h =>
 go (Fld 0 t4) h fun t9 h =>
 go (Ld t9) h fun t10 h =>
 go (Bin .int .lss t10 (.int .i64 2)) h fun t11 h =>
 If t11 (
 go (Fld 0 t4) h fun t12 h =>
 go (Ld t12) h fun t13 h =>
 go (Fld 1 t4) h fun t14 h =>
 go (Ld t14) h fun t15 h =>
 go (CallF Try.prog 41 [t13, t15]) h fun t16 h =>
 go (CallF Try.prog 39 [t2]) h fun t19 h =>
 go (CallF Try.prog 42 [t16, t0, t19]) h fun t20 h =>
 K t20 h) (
 go (Len t0) h fun t22 h =>
 Lp 6 (fun X1 t0_1 t2_1 t4_1 t7 t22_1 t23 h =>
 go (Bin .int .lss t23 t22_1) h fun t24 h =>
 If t24 (
 Join 6 (fun J2 =>
 go (Idx 1 t0_1 t23) h fun t28 h =>
 go (Ld t28) h fun t29 h =>
 go (Idx 1 t0_1 t7) h fun t32 h =>
 go (Ld t32) h fun t33 h =>
 go (Bin .int .lss t29 t33) h fun t34 h =>
 If t34 (
 J2 t0_1 t2_1 t4_1 t23 t22_1 t23 h) (
 J2 t0_1 t2_1 t4_1 t7 t22_1 t23 h)) (fun t0_2 t2_2 t4_2 t7_1 t22_2 t23_1 h =>
 go (Bin .int .add t23_1 (.int .i64 1)) h fun t36 h =>
 X1 t0_2 t2_2 t4_2 t7_1 t22_2 t36 h)) (
 go (Idx 1 t0_1 t7) h fun t39 h =>
 go (Ld t39) h fun t40 h =>
 go (Bin .int .eql t40 (.int .i64 0)) h fun t41 h =>
 If t41 (
 K t7 h) (
 Join 4 (fun J3 =>
 go (Fld 2 t4_1) h fun t45 h =>
 (go (CallF Try.prog 23 [t2_1, (.int .i64 1000)]) h fun t44 h =>
 go (Ld t45) h fun t46 h =>
 go (Bin .int .lss t44 t46) h fun t47 h =>
 J3 t0_1 t2_1 t7 t47 h) ∧
 (go (Ld t45) h fun t46_1 h =>
 go (CallF Try.prog 23 [t2_1, (.int .i64 1000)]) h fun t44_1 h =>
 go (Bin .int .lss t44_1 t46_1) h fun t47_1 h =>
 J3 t0_1 t2_1 t7 t47_1 h)) (fun t0_3 t2_3 t7_2 t47_2 h =>
 If t47_2 (
 go (Len t0_3) h fun t50 h =>
 go (CallF Try.prog 23 [t2_3, t50]) h fun t51 h =>
 K t51 h) (
 K t7_2 h))))) [t0, t2, t4, (.int .i64 0), t22, (.int .i64 0)] h)
set_option maxRecDepth 100000 in
theorem bradawllaw15_chosen.eq : (fun t0 t1 t2 K h => bradawllaw15_chosen.pt t0 t1 t2 K h : Value → Value → Value → Ret → Heap → Prop) = (fun t0 t1 t2 K h => fnPt Try.prog [18, 20, 22, 24, 34, 35, 36, 40, 1000014, 1000016, 1000017, 1000033, 1000028, 1000013] Try.f25 bradawllaw15_chosen.ann [t0, t1, t2] K h) := by kernel_rfl
set_option maxRecDepth 100000 in
theorem bradawllaw15_chosen.ok {t0 t1 t2 : Value} {K : Ret} {h : Heap} (hp : bradawllaw15_chosen.pt t0 t1 t2 K h) : CallH Try.prog 25 #[t0, t1, t2] K h :=
  fn_sound (qs := [18, 20, 22, 24, 34, 35, 36, 40, 1000014, 1000016, 1000017, 1000033, 1000028, 1000013]) (fn := Try.f25) (ann := bradawllaw15_chosen.ann) (args := [t0, t1, t2]) follows_mixed Try.func25 ((Eq.to_iff (congrFun (congrFun (congrFun (congrFun (congrFun (bradawllaw15_chosen.eq) t0) t1) t2) K) h)).mp hp)

/-! ### bradawl/walk.Step: function 26 -/
abbrev walk_Step.id : FuncId := 26
def walk_Step.ann : Ann := (.seq none .leaf (.seq none .leaf .leaf))
set_option maxRecDepth 100000 in
def walk_Step.pt (t0 t1 t2 : Value) (K : Ret) (h : Heap) : Prop :=
 go (New (Value.cells t1) 39) h fun t4 h =>
 go (LdA 3 t4) h fun t9 h =>
 (go (LdA 3 t4) h fun t8 h =>
 go (CallF Try.prog 44 [t9]) h fun t10 h =>
 go (CallF Try.prog 43 [t0, t8, t10, t2]) h fun t12 h =>
 K t12 h) ∧
 (go (CallF Try.prog 44 [t9]) h fun t10_1 h =>
 go (LdA 3 t4) h fun t8_1 h =>
 go (CallF Try.prog 43 [t0, t8_1, t10_1, t2]) h fun t12_1 h =>
 K t12_1 h)
set_option maxRecDepth 100000 in
theorem walk_Step.eq : (fun t0 t1 t2 K h => walk_Step.pt t0 t1 t2 K h : Value → Value → Value → Ret → Heap → Prop) = (fun t0 t1 t2 K h => fnPt Try.prog [18, 20, 22, 24, 34, 35, 36, 40, 1000014, 1000016, 1000017, 1000033, 1000028, 1000013] Try.f26 walk_Step.ann [t0, t1, t2] K h) := by kernel_rfl
set_option maxRecDepth 100000 in
theorem walk_Step.ok {t0 t1 t2 : Value} {K : Ret} {h : Heap} (hp : walk_Step.pt t0 t1 t2 K h) : CallH Try.prog 26 #[t0, t1, t2] K h :=
  fn_sound (qs := [18, 20, 22, 24, 34, 35, 36, 40, 1000014, 1000016, 1000017, 1000033, 1000028, 1000013]) (fn := Try.f26) (ann := walk_Step.ann) (args := [t0, t1, t2]) follows_mixed Try.func26 ((Eq.to_iff (congrFun (congrFun (congrFun (congrFun (congrFun (walk_Step.eq) t0) t1) t2) K) h)).mp hp)

/-! ### bradawl/walk.Run: function 27 -/
abbrev walk_Run.id : FuncId := 27
def walk_Run.ann : Ann := (.seq none .leaf (.seq none .leaf (.seq none .leaf (.seq none (.block (.loop [0, 2, 3, 5, 9, 10] (.seq none (.seq none .leaf (.cond .leaf .leaf)) (.seq none (.block .leaf) .leaf)))) (.seq none .leaf .leaf)))))
set_option maxRecDepth 100000 in
def walk_Run.pt (t0 t1 t2 t3 : Value) (K : Ret) (h : Heap) : Prop :=
 go (New (Value.cells t1) 39) h fun t5 h =>
 go (LdA 3 t5) h fun t11 h =>
 go (CallF Try.prog 44 [t11]) h fun t12 h =>
 Lp 6 (fun X1 t0_1 t2_1 t3_1 t5_1 t9 t10 h =>
 go (Bin .int .lss t10 t3_1) h fun t15 h =>
 go (Gd t15 true (Mv t0_1)) h fun t17 h =>
 go (Gd t15 true (QCall Try.prog 20 [t17])) h fun t18 h =>
 go (Gd t15 true (Bin .int .gtr t18 (.int .i64 0))) h fun t19 h =>
 go (Pick t15 t19 (.bool false)) h fun t20 h =>
 If t20 (
 go (LdA 3 t5_1) h fun t24 h =>
 go (CallF Try.prog 43 [t0_1, t24, t9, t2_1]) h fun t27 h =>
 go (Bin .int .add t10 (.int .i64 1)) h fun t22 h =>
 X1 t0_1 t2_1 t3_1 t5_1 t9 t22 h) (
 K t10 h)) [t0, t2, t3, t5, t12, (.int .i64 0)] h
set_option maxRecDepth 100000 in
theorem walk_Run.eq : (fun t0 t1 t2 t3 K h => walk_Run.pt t0 t1 t2 t3 K h : Value → Value → Value → Value → Ret → Heap → Prop) = (fun t0 t1 t2 t3 K h => fnPt Try.prog [18, 20, 22, 24, 34, 35, 36, 40, 1000014, 1000016, 1000017, 1000033, 1000028, 1000013] Try.f27 walk_Run.ann [t0, t1, t2, t3] K h) := by kernel_rfl
set_option maxRecDepth 100000 in
theorem walk_Run.ok {t0 t1 t2 t3 : Value} {K : Ret} {h : Heap} (hp : walk_Run.pt t0 t1 t2 t3 K h) : CallH Try.prog 27 #[t0, t1, t2, t3] K h :=
  fn_sound (qs := [18, 20, 22, 24, 34, 35, 36, 40, 1000014, 1000016, 1000017, 1000033, 1000028, 1000013]) (fn := Try.f27) (ann := walk_Run.ann) (args := [t0, t1, t2, t3]) follows_mixed Try.func27 ((Eq.to_iff (congrFun (congrFun (congrFun (congrFun (congrFun (congrFun (walk_Run.eq) t0) t1) t2) t3) K) h)).mp hp)

/-! ### (*bradawl/local.State).Assignment: function 28 -/
abbrev local_State_Assignment.id : FuncId := 28
def local_State_Assignment.ann : Ann := (.seq none .leaf (.seq none .leaf .leaf))
set_option maxRecDepth 100000 in
def local_State_Assignment.pt (t0 : Value) (K : Ret) (h : Heap) : Prop :=
 go (NilC t0) h fun t4 h =>
 go (Fld 0 t4) h fun t5 h =>
 go (Ld t5) h fun t6 h =>
 go (ACall Try.prog 33 [t6]) h fun t7 h =>
 K t7 h
set_option maxRecDepth 100000 in
theorem local_State_Assignment.eq : (fun t0 K h => local_State_Assignment.pt t0 K h : Value → Ret → Heap → Prop) = (fun t0 K h => fnPt Try.prog [18, 20, 22, 24, 34, 35, 36, 40, 1000014, 1000016, 1000017, 1000033, 1000028, 1000013] Try.f28 local_State_Assignment.ann [t0] K h) := by kernel_rfl
set_option maxRecDepth 100000 in
theorem local_State_Assignment.ok {t0 : Value} {K : Ret} {h : Heap} (hp : local_State_Assignment.pt t0 K h) : CallH Try.prog 28 #[t0] K h :=
  fn_sound (qs := [18, 20, 22, 24, 34, 35, 36, 40, 1000014, 1000016, 1000017, 1000033, 1000028, 1000013]) (fn := Try.f28) (ann := local_State_Assignment.ann) (args := [t0]) follows_mixed Try.func28 ((Eq.to_iff (congrFun (congrFun (congrFun (local_State_Assignment.eq) t0) K) h)).mp hp)

/-! ### bradawl/bradawllaw02.Holds: function 29 -/
abbrev bradawllaw02_Holds.id : FuncId := 29
def bradawllaw02_Holds.ann : Ann := (.seq none .leaf (.seq none (.seq none .leaf (.block (.loop [1, 11, 12, 13] (.seq none .leaf (.seq none (.cond .leaf .leaf) (.seq none (.block (.seq none .leaf (.seq none .leaf (.seq none (.seq none .leaf (.block (.loop [1, 7, 11, 12, 13, 17, 18, 19] (.seq none .leaf (.seq none (.cond .leaf .leaf) (.seq none (.block (.seq none .leaf .leaf)) .leaf)))))) (.seq none .leaf (.cond (.seq none .leaf .leaf) .leaf)))))) .leaf)))))) (.seq none .leaf .leaf)))
set_option maxRecDepth 100000 in
def bradawllaw02_Holds.pt (t0 t1 : Value) (K : Ret) (h : Heap) : Prop :=
 go (New (Value.cells t0) 30) h fun t2 h =>
 go (Fld 1 t2) h fun t10 h =>
 go (Ld t10) h fun t11 h =>
 go (Len t11) h fun t12 h =>
 Lp 4 (fun X1 t1_1 t11_1 t12_1 t13 h =>
 go (Bin .int .lss t13 t12_1) h fun t14 h =>
 If t14 (
 go (Idx 1 t11_1 t13) h fun t15 h =>
 go (Ld t15) h fun t16 h =>
 go (Len t16) h fun t18 h =>
 Lp 8 (fun X2 t1_2 t7 t11_2 t12_2 t13_1 t17 t18_1 t19 h =>
 go (Bin .int .lss t19 t18_1) h fun t20 h =>
 If t20 (
 go (Idx 1 t17 t19) h fun t21 h =>
 go (Ld t21) h fun t22 h =>
 go (Gd t7 false (Mv t22)) h fun t25 h =>
 go (Gd t7 false (Bin .int .gtr t25 (.int .i64 0))) h fun t26 h =>
 go (Gd t7 false (Mv t26)) h fun t27 h =>
 go (Gd t27 true (Mv t1_2)) h fun t28 h =>
 go (Gd t27 true (Mv t22)) h fun t29 h =>
 go (Gd t27 true (Bin .int .sub t29 (.int .i64 1))) h fun t30 h =>
 go (Gd t27 true (Idx 1 t28 t30)) h fun t31 h =>
 go (Gd t27 true (Ld t31)) h fun t32 h =>
 go (Gd t7 false (Pick t27 t32 (.bool false))) h fun t33 h =>
 go (Pick t7 (.bool true) t33) h fun t34 h =>
 go (Gd t34 false (Mv t22)) h fun t36 h =>
 go (Gd t34 false (Bin .int .lss t36 (.int .i64 0))) h fun t37 h =>
 go (Gd t34 false (Mv t37)) h fun t38 h =>
 go (Gd t38 true (Mv t1_2)) h fun t39 h =>
 go (Gd t38 true (Mv t22)) h fun t40 h =>
 go (Gd t38 true (Un .neg t40)) h fun t41 h =>
 go (Gd t38 true (Bin .int .sub t41 (.int .i64 1))) h fun t42 h =>
 go (Gd t38 true (Idx 1 t39 t42)) h fun t43 h =>
 go (Gd t38 true (Ld t43)) h fun t44 h =>
 go (Gd t38 true (Un .not t44)) h fun t45 h =>
 go (Gd t34 false (Pick t38 t45 (.bool false))) h fun t46 h =>
 go (Pick t34 (.bool true) t46) h fun t47 h =>
 go (Bin .int .add t19 (.int .i64 1)) h fun t48 h =>
 X2 t1_2 t47 t11_2 t12_2 t13_1 t17 t18_1 t48 h) (
 go (Un .not t7) h fun t50 h =>
 If t50 (
 K (.bool false) h) (
 go (Bin .int .add t13_1 (.int .i64 1)) h fun t51 h =>
 X1 t1_2 t11_2 t12_2 t51 h))) [t1_1, (.bool false), t11_1, t12_1, t13, t16, t18, (.int .i64 0)] h) (
 K (.bool true) h)) [t1, t11, t12, (.int .i64 0)] h
set_option maxRecDepth 100000 in
theorem bradawllaw02_Holds.eq : (fun t0 t1 K h => bradawllaw02_Holds.pt t0 t1 K h : Value → Value → Ret → Heap → Prop) = (fun t0 t1 K h => fnPt Try.prog [18, 20, 22, 24, 34, 35, 36, 40, 1000014, 1000016, 1000017, 1000033, 1000028, 1000013] Try.f29 bradawllaw02_Holds.ann [t0, t1] K h) := by kernel_rfl
set_option maxRecDepth 100000 in
theorem bradawllaw02_Holds.ok {t0 t1 : Value} {K : Ret} {h : Heap} (hp : bradawllaw02_Holds.pt t0 t1 K h) : CallH Try.prog 29 #[t0, t1] K h :=
  fn_sound (qs := [18, 20, 22, 24, 34, 35, 36, 40, 1000014, 1000016, 1000017, 1000033, 1000028, 1000013]) (fn := Try.f29) (ann := bradawllaw02_Holds.ann) (args := [t0, t1]) follows_mixed Try.func29 ((Eq.to_iff (congrFun (congrFun (congrFun (congrFun (bradawllaw02_Holds.eq) t0) t1) K) h)).mp hp)

/-! ### (*bradawl/local.State).Best: function 30 -/
abbrev local_State_Best.id : FuncId := 30
def local_State_Best.ann : Ann := (.seq none .leaf (.seq none .leaf .leaf))
set_option maxRecDepth 100000 in
def local_State_Best.pt (t0 : Value) (K : Ret) (h : Heap) : Prop :=
 go (NilC t0) h fun t5 h =>
 go (Fld 6 t5) h fun t6 h =>
 go (Ld t6) h fun t7 h =>
 go (NilC t0) h fun t10 h =>
 go (Fld 7 t10) h fun t11 h =>
 go (Ld t11) h fun t12 h =>
 go (ACall Try.prog 33 [t7]) h fun t8 h =>
 K (.tuple #[t8, t12]) h
set_option maxRecDepth 100000 in
theorem local_State_Best.eq : (fun t0 K h => local_State_Best.pt t0 K h : Value → Ret → Heap → Prop) = (fun t0 K h => fnPt Try.prog [18, 20, 22, 24, 34, 35, 36, 40, 1000014, 1000016, 1000017, 1000033, 1000028, 1000013] Try.f30 local_State_Best.ann [t0] K h) := by kernel_rfl
set_option maxRecDepth 100000 in
theorem local_State_Best.ok {t0 : Value} {K : Ret} {h : Heap} (hp : local_State_Best.pt t0 K h) : CallH Try.prog 30 #[t0] K h :=
  fn_sound (qs := [18, 20, 22, 24, 34, 35, 36, 40, 1000014, 1000016, 1000017, 1000033, 1000028, 1000013]) (fn := Try.f30) (ann := local_State_Best.ann) (args := [t0]) follows_mixed Try.func30 ((Eq.to_iff (congrFun (congrFun (congrFun (local_State_Best.eq) t0) K) h)).mp hp)

/-! ### bradawl/table.Right: function 31 -/
abbrev table_Right.id : FuncId := 31
def table_Right.ann : Ann := (.seq none .leaf (.seq none (.seq none .leaf (.block (.seq none .leaf (.cond (.seq none .leaf .leaf) (.seq none .leaf (.cond (.seq none .leaf .leaf) .leaf)))))) (.seq none .leaf .leaf)))
set_option maxRecDepth 100000 in
def table_Right.pt (t0 t1 : Value) (K : Ret) (h : Heap) : Prop :=
 go (Bin .int .eql t0 (.int .i64 0)) h fun t7 h =>
 If t7 (
 go (Bin .int .geq t1 (.int .i64 1)) h fun t9 h =>
 go (Gd t9 true (Mv t1)) h fun t11 h =>
 go (Gd t9 true (Bin .int .leq t11 (.int .i64 64))) h fun t12 h =>
 go (Pick t9 t12 (.bool false)) h fun t13 h =>
 K t13 h) (
 go (Bin .int .eql t0 (.int .i64 1)) h fun t15 h =>
 If t15 (
 go (Bin .int .geq t1 (.int .i64 17)) h fun t17 h =>
 go (Gd t17 true (Mv t1)) h fun t19 h =>
 go (Gd t17 true (Bin .int .leq t19 (.int .i64 256))) h fun t20 h =>
 go (Pick t17 t20 (.bool false)) h fun t21 h =>
 K t21 h) (
 K (.bool false) h))
set_option maxRecDepth 100000 in
theorem table_Right.eq : (fun t0 t1 K h => table_Right.pt t0 t1 K h : Value → Value → Ret → Heap → Prop) = (fun t0 t1 K h => fnPt Try.prog [18, 20, 22, 24, 34, 35, 36, 40, 1000014, 1000016, 1000017, 1000033, 1000028, 1000013] Try.f31 table_Right.ann [t0, t1] K h) := by kernel_rfl
set_option maxRecDepth 100000 in
theorem table_Right.ok {t0 t1 : Value} {K : Ret} {h : Heap} (hp : table_Right.pt t0 t1 K h) : CallH Try.prog 31 #[t0, t1] K h :=
  fn_sound (qs := [18, 20, 22, 24, 34, 35, 36, 40, 1000014, 1000016, 1000017, 1000033, 1000028, 1000013]) (fn := Try.f31) (ann := table_Right.ann) (args := [t0, t1]) follows_mixed Try.func31 ((Eq.to_iff (congrFun (congrFun (congrFun (congrFun (table_Right.eq) t0) t1) K) h)).mp hp)

/-! ### bradawl/norm.Formula: function 32 -/
abbrev norm_Formula.id : FuncId := 32
def norm_Formula.ann : Ann := (.seq none .leaf (.seq none .leaf (.seq none .leaf (.seq none (.seq none .leaf (.block (.loop [4, 5, 9, 10, 11] (.seq none .leaf (.seq none (.cond .leaf .leaf) (.seq (some [4, 5, 9, 10, 11]) (.block (.seq none .leaf (.seq none .leaf (.cond (.seq none .leaf .leaf) .leaf)))) .leaf)))))) (.seq none .leaf .leaf)))))
set_option maxRecDepth 100000 in
def norm_Formula.pt (t0 : Value) (K : Ret) (h : Heap) : Prop :=
 go (New (Value.cells t0) 30) h fun t1 h =>
 go (Fld 1 t1) h fun t8 h =>
 go (Ld t8) h fun t9 h =>
 go (Len t9) h fun t10 h =>
 Lp 5 (fun X1 t4 t5 t9_1 t10_1 t11 h =>
 go (Bin .int .lss t11 t10_1) h fun t12 h =>
 If t12 (
 Join 5 (fun J2 =>
 go (Idx 1 t9_1 t11) h fun t13 h =>
 go (Ld t13) h fun t14 h =>
 go (CallF Try.prog 45 [t14]) h fun t16 h =>
 go (Un .not t16) h fun t17 h =>
 If t17 (
 go (CallF Try.prog 46 [t14]) h fun t20 h =>
 go (BldS 58 1 1 #[(.slice none 0 0)] [(0, t20)]) h fun t21 h =>
 go (App 58 1 24 #[(.slice none 0 0)] t4 t21) h fun t22 h =>
 go (Gd t5 false (Mv t14)) h fun t25 h =>
 go (Gd t5 false (Len t25)) h fun t26 h =>
 go (Gd t5 false (Bin .int .eql t26 (.int .i64 0))) h fun t27 h =>
 go (Pick t5 (.bool true) t27) h fun t28 h =>
 J2 t22 t28 t9_1 t10_1 t11 h) (
 J2 t4 t5 t9_1 t10_1 t11 h)) (fun t4_1 t5_1 t9_2 t10_2 t11_1 h =>
 go (Bin .int .add t11_1 (.int .i64 1)) h fun t29 h =>
 X1 t4_1 t5_1 t9_2 t10_2 t29 h)) (
 K (.tuple #[t4, t5]) h)) [(.slice none 0 0), (.bool false), t9, t10, (.int .i64 0)] h
set_option maxRecDepth 100000 in
theorem norm_Formula.eq : (fun t0 K h => norm_Formula.pt t0 K h : Value → Ret → Heap → Prop) = (fun t0 K h => fnPt Try.prog [18, 20, 22, 24, 34, 35, 36, 40, 1000014, 1000016, 1000017, 1000033, 1000028, 1000013] Try.f32 norm_Formula.ann [t0] K h) := by kernel_rfl
set_option maxRecDepth 100000 in
theorem norm_Formula.ok {t0 : Value} {K : Ret} {h : Heap} (hp : norm_Formula.pt t0 K h) : CallH Try.prog 32 #[t0] K h :=
  fn_sound (qs := [18, 20, 22, 24, 34, 35, 36, 40, 1000014, 1000016, 1000017, 1000033, 1000028, 1000013]) (fn := Try.f32) (ann := norm_Formula.ann) (args := [t0]) follows_mixed Try.func32 ((Eq.to_iff (congrFun (congrFun (congrFun (norm_Formula.eq) t0) K) h)).mp hp)

/-! ### slices.Clone[[]bool,bool]: function 33 -/
abbrev slices_Clone_bool_bool.id : FuncId := 33
def slices_Clone_bool_bool.ann : Ann := (.seq none .leaf (.seq none (.seq none .leaf (.cond (.seq none .leaf .leaf) .leaf)) (.seq none .leaf .leaf)))
set_option maxRecDepth 100000 in
def slices_Clone_bool_bool.pt (t0 : Value) (K : Ret) (h : Heap) : Prop :=
 go (Bin .slice .eql t0 (.slice none 0 0)) h fun t4 h =>
 If t4 (
 K (.slice none 0 0) h) (
 go (Bld0 4) h fun t5 h =>
 go (App 4 1 1 #[(.bool false)] t5 t0) h fun t7 h =>
 K t7 h)
set_option maxRecDepth 100000 in
theorem slices_Clone_bool_bool.eq : (fun t0 K h => slices_Clone_bool_bool.pt t0 K h : Value → Ret → Heap → Prop) = (fun t0 K h => fnPt Try.prog [18, 20, 22, 24, 34, 35, 36, 40, 1000014, 1000016, 1000017, 1000033, 1000028, 1000013] Try.f33 slices_Clone_bool_bool.ann [t0] K h) := by kernel_rfl
set_option maxRecDepth 100000 in
theorem slices_Clone_bool_bool.ok {t0 : Value} {K : Ret} {h : Heap} (hp : slices_Clone_bool_bool.pt t0 K h) : CallH Try.prog 33 #[t0] K h :=
  fn_sound (qs := [18, 20, 22, 24, 34, 35, 36, 40, 1000014, 1000016, 1000017, 1000033, 1000028, 1000013]) (fn := Try.f33) (ann := slices_Clone_bool_bool.ann) (args := [t0]) follows_mixed Try.func33 ((Eq.to_iff (congrFun (congrFun (congrFun (slices_Clone_bool_bool.eq) t0) K) h)).mp hp)

/-! ### bradawl/lit.Index: function 34 -/
abbrev lit_Index.id : FuncId := 34
def lit_Index.ann : Ann := (.seq none .leaf (.seq none (.seq none .leaf (.cond (.seq none .leaf .leaf) .leaf)) (.seq none .leaf .leaf)))
set_option maxRecDepth 100000 in
def lit_Index.pt (t0 : Value) (K : Ret) (h : Heap) : Prop :=
 go (Bin .int .lss t0 (.int .i64 0)) h fun t4 h =>
 If t4 (
 go (Un .neg t0) h fun t6 h =>
 go (Bin .int .sub t6 (.int .i64 1)) h fun t7 h =>
 go (Bin .int .mul (.int .i64 2) t7) h fun t8 h =>
 go (Bin .int .add t8 (.int .i64 1)) h fun t9 h =>
 K t9 h) (
 go (Bin .int .sub t0 (.int .i64 1)) h fun t11 h =>
 go (Bin .int .mul (.int .i64 2) t11) h fun t12 h =>
 K t12 h)
set_option maxRecDepth 100000 in
theorem lit_Index.eq : (fun t0 K h => lit_Index.pt t0 K h : Value → Ret → Heap → Prop) = (fun t0 K h => fnPt Try.prog [18, 20, 22, 24, 34, 35, 36, 40, 1000014, 1000016, 1000017, 1000033, 1000028, 1000013] Try.f34 lit_Index.ann [t0] K h) := by kernel_rfl
set_option maxRecDepth 100000 in
theorem lit_Index.ok {t0 : Value} {K : Ret} {h : Heap} (hp : lit_Index.pt t0 K h) : CallH Try.prog 34 #[t0] K h :=
  fn_sound (qs := [18, 20, 22, 24, 34, 35, 36, 40, 1000014, 1000016, 1000017, 1000033, 1000028, 1000013]) (fn := Try.f34) (ann := lit_Index.ann) (args := [t0]) follows_mixed Try.func34 ((Eq.to_iff (congrFun (congrFun (congrFun (lit_Index.eq) t0) K) h)).mp hp)

/-! ### bradawl/lit.Holds: function 35 -/
abbrev lit_Holds.id : FuncId := 35
def lit_Holds.ann : Ann := (.seq none .leaf (.seq none .leaf .leaf))
set_option maxRecDepth 100000 in
def lit_Holds.pt (t0 t1 : Value) (K : Ret) (h : Heap) : Prop :=
 go (QCall Try.prog 36 [t0]) h fun t7 h =>
 go (Bin .int .sub t7 (.int .i64 1)) h fun t8 h =>
 go (Idx 1 t1 t8) h fun t9 h =>
 go (Ld t9) h fun t10 h =>
 go (Bin .int .gtr t0 (.int .i64 0)) h fun t12 h =>
 go (Bin .bool .eql t10 t12) h fun t13 h =>
 K t13 h
set_option maxRecDepth 100000 in
theorem lit_Holds.eq : (fun t0 t1 K h => lit_Holds.pt t0 t1 K h : Value → Value → Ret → Heap → Prop) = (fun t0 t1 K h => fnPt Try.prog [18, 20, 22, 24, 34, 35, 36, 40, 1000014, 1000016, 1000017, 1000033, 1000028, 1000013] Try.f35 lit_Holds.ann [t0, t1] K h) := by kernel_rfl
set_option maxRecDepth 100000 in
theorem lit_Holds.ok {t0 t1 : Value} {K : Ret} {h : Heap} (hp : lit_Holds.pt t0 t1 K h) : CallH Try.prog 35 #[t0, t1] K h :=
  fn_sound (qs := [18, 20, 22, 24, 34, 35, 36, 40, 1000014, 1000016, 1000017, 1000033, 1000028, 1000013]) (fn := Try.f35) (ann := lit_Holds.ann) (args := [t0, t1]) follows_mixed Try.func35 ((Eq.to_iff (congrFun (congrFun (congrFun (congrFun (lit_Holds.eq) t0) t1) K) h)).mp hp)

/-! ### bradawl/lit.Var: function 36 -/
abbrev lit_Var.id : FuncId := 36
def lit_Var.ann : Ann := (.seq none .leaf (.seq none .leaf .leaf))
set_option maxRecDepth 100000 in
def lit_Var.pt (t0 : Value) (K : Ret) (h : Heap) : Prop :=
 go (Un .neg t0) h fun t5 h =>
 go (MaxV [t0, t5]) h fun t6 h =>
 K t6 h
set_option maxRecDepth 100000 in
theorem lit_Var.eq : (fun t0 K h => lit_Var.pt t0 K h : Value → Ret → Heap → Prop) = (fun t0 K h => fnPt Try.prog [18, 20, 22, 24, 34, 35, 36, 40, 1000014, 1000016, 1000017, 1000033, 1000028, 1000013] Try.f36 lit_Var.ann [t0] K h) := by kernel_rfl
set_option maxRecDepth 100000 in
theorem lit_Var.ok {t0 : Value} {K : Ret} {h : Heap} (hp : lit_Var.pt t0 K h) : CallH Try.prog 36 #[t0] K h :=
  fn_sound (qs := [18, 20, 22, 24, 34, 35, 36, 40, 1000014, 1000016, 1000017, 1000033, 1000028, 1000013]) (fn := Try.f36) (ann := lit_Var.ann) (args := [t0]) follows_mixed Try.func36 ((Eq.to_iff (congrFun (congrFun (congrFun (lit_Var.eq) t0) K) h)).mp hp)

/-! ### (*bradawl/local.State).count: function 37 -/
abbrev local_State_count.id : FuncId := 37
def local_State_count.ann : Ann := (.seq none .leaf (.block (.seq none .leaf (.cond .leaf (.seq none .leaf (.cond (.seq none (.seq none .leaf (.block (.loop [0, 1, 2, 6, 44, 45, 46] (.seq none .leaf (.seq none (.cond .leaf .leaf) (.seq none (.block (.seq none .leaf .leaf)) .leaf)))))) (.seq none (.seq none .leaf (.cond (.seq none .leaf (.seq none .leaf .leaf)) .leaf)) (.seq none .leaf (.seq none .leaf (.seq none .leaf .leaf))))) .leaf))))))
set_option maxRecDepth 100000 in
def local_State_count.pt (t0 t1 t2 : Value) (K : Ret) (h : Heap) : Prop :=
 go (NilC t0) h fun t11 h =>
 go (Fld 1 t11) h fun t12 h =>
 go (Ld t12) h fun t13 h =>
 go (Idx 4 t13 t1) h fun t15 h =>
 go (NilC t15) h fun t18 h =>
 go (Fld 1 t18) h fun t19 h =>
 go (Ld t19) h fun t20 h =>
 go (Bin .int .eql t20 (.int .i64 1)) h fun t21 h =>
 If t21 (
 go (NilC t0) h fun t23 h =>
 go (Fld 4 t23) h fun t24 h =>
 go (Ld t24) h fun t25 h =>
 go (NilC t15) h fun t27 h =>
 go (Fld 2 t27) h fun t28 h =>
 go (Ld t28) h fun t29 h =>
 go (Idx 1 t25 t29) h fun t30 h =>
 go (Ld t30) h fun t31 h =>
 go (Bin .int .add t31 t2) h fun t33 h =>
 go (Idx 1 t25 t29) h fun t34 h =>
 go (St t34 t33) h fun _ h =>
 K (.tuple #[]) h) (
 go (NilC t15) h fun t37 h =>
 go (Fld 1 t37) h fun t38 h =>
 go (Ld t38) h fun t39 h =>
 go (Bin .int .eql t39 (.int .i64 0)) h fun t40 h =>
 If t40 (
 go (NilC t15) h fun t42 h =>
 go (Fld 0 t42) h fun t43 h =>
 go (Ld t43) h fun t44 h =>
 go (Len t44) h fun t45 h =>
 Lp 7 (fun X1 t0_1 t1_1 t2_1 t6 t44_1 t45_1 t46 h =>
 go (Bin .int .lss t46 t45_1) h fun t47 h =>
 If t47 (
 go (Idx 1 t44_1 t46) h fun t48 h =>
 go (Ld t48) h fun t49 h =>
 go (NilC t0_1) h fun t51 h =>
 go (Fld 5 t51) h fun t52 h =>
 go (Ld t52) h fun t53 h =>
 go (QCall Try.prog 36 [t49]) h fun t55 h =>
 go (Idx 1 t53 t55) h fun t56 h =>
 go (Ld t56) h fun t57 h =>
 go (Bin .int .add t57 t2_1) h fun t59 h =>
 go (Idx 1 t53 t55) h fun t60 h =>
 go (St t60 t59) h fun _ h =>
 go (Bin .int .add t46 (.int .i64 1)) h fun t61 h =>
 X1 t0_1 t1_1 t2_1 t6 t44_1 t45_1 t61 h) (
 go (Bin .int .gtr t2_1 (.int .i64 0)) h fun t63 h =>
 If t63 (
 go (NilC t0_1) h fun t66 h =>
 go (Fld 3 t66) h fun t67 h =>
 go (Ld t67) h fun t68 h =>
 go (Len t68) h fun t69 h =>
 go (NilC t6) h fun t70 h =>
 go (Fld 3 t70) h fun t71 h =>
 go (St t71 t69) h fun _ h =>
 go (NilC t0_1) h fun t74 h =>
 go (Fld 3 t74) h fun t75 h =>
 go (Ld t75) h fun t76 h =>
 go (BldS 3 1 1 #[(.int .i64 0)] [(0, t1_1)]) h fun t78 h =>
 go (App 3 1 8 #[(.int .i64 0)] t76 t78) h fun t79 h =>
 go (NilC t0_1) h fun t80 h =>
 go (Fld 3 t80) h fun t81 h =>
 go (St t81 t79) h fun _ h =>
 K (.tuple #[]) h) (
 go (NilC t0_1) h fun t83 h =>
 go (Fld 3 t83) h fun t84 h =>
 go (Ld t84) h fun t85 h =>
 go (NilC t0_1) h fun t87 h =>
 go (Fld 3 t87) h fun t88 h =>
 go (Ld t88) h fun t89 h =>
 go (Len t89) h fun t90 h =>
 go (Bin .int .sub t90 (.int .i64 1)) h fun t91 h =>
 go (Idx 1 t85 t91) h fun t92 h =>
 go (Ld t92) h fun t93 h =>
 go (NilC t0_1) h fun t95 h =>
 go (Fld 3 t95) h fun t96 h =>
 go (Ld t96) h fun t97 h =>
 go (NilC t6) h fun t99 h =>
 go (Fld 3 t99) h fun t100 h =>
 go (Ld t100) h fun t101 h =>
 go (NilC t0_1) h fun t103 h =>
 go (Fld 1 t103) h fun t104 h =>
 go (Ld t104) h fun t105 h =>
 go (NilC t6) h fun t109 h =>
 go (Fld 3 t109) h fun t110 h =>
 go (Ld t110) h fun t111 h =>
 go (Idx 1 t97 t101) h fun t112 h =>
 go (St t112 t93) h fun _ h =>
 go (Idx 4 t105 t93) h fun t113 h =>
 go (Fld 3 t113) h fun t114 h =>
 go (St t114 t111) h fun _ h =>
 go (NilC t0_1) h fun t117 h =>
 go (Fld 3 t117) h fun t118 h =>
 go (Ld t118) h fun t119 h =>
 go (NilC t0_1) h fun t121 h =>
 go (Fld 3 t121) h fun t122 h =>
 go (Ld t122) h fun t123 h =>
 go (Len t123) h fun t124 h =>
 go (Bin .int .sub t124 (.int .i64 1)) h fun t125 h =>
 go (Slc 1 t119 none (some t125) none) h fun t126 h =>
 go (NilC t0_1) h fun t127 h =>
 go (Fld 3 t127) h fun t128 h =>
 go (St t128 t126) h fun _ h =>
 go (NilC t6) h fun t130 h =>
 go (Fld 3 t130) h fun t131 h =>
 go (St t131 (.int .i64 (-1))) h fun _ h =>
 K (.tuple #[]) h))) [t0, t1, t2, t15, t44, t45, (.int .i64 0)] h) (
 K (.tuple #[]) h))
set_option maxRecDepth 100000 in
theorem local_State_count.eq : (fun t0 t1 t2 K h => local_State_count.pt t0 t1 t2 K h : Value → Value → Value → Ret → Heap → Prop) = (fun t0 t1 t2 K h => fnPt Try.prog [18, 20, 22, 24, 34, 35, 36, 40, 1000014, 1000016, 1000017, 1000033, 1000028, 1000013] Try.f37 local_State_count.ann [t0, t1, t2] K h) := by kernel_rfl
set_option maxRecDepth 100000 in
theorem local_State_count.ok {t0 t1 t2 : Value} {K : Ret} {h : Heap} (hp : local_State_count.pt t0 t1 t2 K h) : CallH Try.prog 37 #[t0, t1, t2] K h :=
  fn_sound (qs := [18, 20, 22, 24, 34, 35, 36, 40, 1000014, 1000016, 1000017, 1000033, 1000028, 1000013]) (fn := Try.f37) (ann := local_State_count.ann) (args := [t0, t1, t2]) follows_mixed Try.func37 ((Eq.to_iff (congrFun (congrFun (congrFun (congrFun (congrFun (local_State_count.eq) t0) t1) t2) K) h)).mp hp)

/-! ### slices.Clone[[]int,int]: function 38 -/
abbrev slices_Clone_int_int.id : FuncId := 38
def slices_Clone_int_int.ann : Ann := (.seq none .leaf (.seq none (.seq none .leaf (.cond (.seq none .leaf .leaf) .leaf)) (.seq none .leaf .leaf)))
set_option maxRecDepth 100000 in
def slices_Clone_int_int.pt (t0 : Value) (K : Ret) (h : Heap) : Prop :=
 go (Bin .slice .eql t0 (.slice none 0 0)) h fun t4 h =>
 If t4 (
 K (.slice none 0 0) h) (
 go (Bld0 3) h fun t5 h =>
 go (App 3 1 8 #[(.int .i64 0)] t5 t0) h fun t7 h =>
 K t7 h)
set_option maxRecDepth 100000 in
theorem slices_Clone_int_int.eq : (fun t0 K h => slices_Clone_int_int.pt t0 K h : Value → Ret → Heap → Prop) = (fun t0 K h => fnPt Try.prog [18, 20, 22, 24, 34, 35, 36, 40, 1000014, 1000016, 1000017, 1000033, 1000028, 1000013] Try.f38 slices_Clone_int_int.ann [t0] K h) := by kernel_rfl
set_option maxRecDepth 100000 in
theorem slices_Clone_int_int.ok {t0 : Value} {K : Ret} {h : Heap} (hp : slices_Clone_int_int.pt t0 K h) : CallH Try.prog 38 #[t0] K h :=
  fn_sound (qs := [18, 20, 22, 24, 34, 35, 36, 40, 1000014, 1000016, 1000017, 1000033, 1000028, 1000013]) (fn := Try.f38) (ann := slices_Clone_int_int.ann) (args := [t0]) follows_mixed Try.func38 ((Eq.to_iff (congrFun (congrFun (congrFun (slices_Clone_int_int.eq) t0) K) h)).mp hp)

/-! ### (*bradawl/rng.Stream).Next: function 39 -/
abbrev rng_Stream_Next.id : FuncId := 39
def rng_Stream_Next.ann : Ann := (.seq none .leaf (.seq none .leaf (.seq none (.seq none .leaf (.cond (.seq none .leaf .leaf) .leaf)) (.seq none .leaf (.seq none .leaf .leaf)))))
set_option maxRecDepth 100000 in
def rng_Stream_Next.pt (t0 : Value) (K : Ret) (h : Heap) : Prop :=
 go (NilC t0) h fun t4 h =>
 go (Fld 2 t4) h fun t5 h =>
 go (Ld t5) h fun t6 h =>
 go (Bin .int .add t6 (.int .i64 1)) h fun t7 h =>
 go (NilC t0) h fun t8 h =>
 go (Fld 2 t8) h fun t9 h =>
 go (St t9 t7) h fun _ h =>
 go (NilC t0) h fun t11 h =>
 go (Fld 2 t11) h fun t12 h =>
 go (Ld t12) h fun t13 h =>
 go (NilC t0) h fun t15 h =>
 go (Fld 0 t15) h fun t16 h =>
 go (Ld t16) h fun t17 h =>
 go (Len t17) h fun t18 h =>
 go (Bin .int .leq t13 t18) h fun t19 h =>
 If t19 (
 go (NilC t0) h fun t21 h =>
 go (Fld 0 t21) h fun t22 h =>
 go (Ld t22) h fun t23 h =>
 go (NilC t0) h fun t25 h =>
 go (Fld 2 t25) h fun t26 h =>
 go (Ld t26) h fun t27 h =>
 go (Bin .int .sub t27 (.int .i64 1)) h fun t28 h =>
 go (Idx 1 t23 t28) h fun t29 h =>
 go (Ld t29) h fun t30 h =>
 K t30 h) (
 go (NilC t0) h fun t33 h =>
 go (Fld 1 t33) h fun t34 h =>
 go (Ld t34) h fun t35 h =>
 go (CallF Try.prog 47 [t35]) h fun t36 h =>
 go (NilC t0) h fun t37 h =>
 go (Fld 1 t37) h fun t38 h =>
 go (St t38 t36) h fun _ h =>
 go (NilC t0) h fun t40 h =>
 go (Fld 1 t40) h fun t41 h =>
 go (Ld t41) h fun t42 h =>
 K t42 h)
set_option maxRecDepth 100000 in
theorem rng_Stream_Next.eq : (fun t0 K h => rng_Stream_Next.pt t0 K h : Value → Ret → Heap → Prop) = (fun t0 K h => fnPt Try.prog [18, 20, 22, 24, 34, 35, 36, 40, 1000014, 1000016, 1000017, 1000033, 1000028, 1000013] Try.f39 rng_Stream_Next.ann [t0] K h) := by kernel_rfl
set_option maxRecDepth 100000 in
theorem rng_Stream_Next.ok {t0 : Value} {K : Ret} {h : Heap} (hp : rng_Stream_Next.pt t0 K h) : CallH Try.prog 39 #[t0] K h :=
  fn_sound (qs := [18, 20, 22, 24, 34, 35, 36, 40, 1000014, 1000016, 1000017, 1000033, 1000028, 1000013]) (fn := Try.f39) (ann := rng_Stream_Next.ann) (args := [t0]) follows_mixed Try.func39 ((Eq.to_iff (congrFun (congrFun (congrFun (rng_Stream_Next.eq) t0) K) h)).mp hp)

/-! ### (*bradawl/local.State).right: function 40 -/
abbrev local_State_right.id : FuncId := 40
def local_State_right.ann : Ann := (.seq none .leaf (.seq none .leaf .leaf))
set_option maxRecDepth 100000 in
def local_State_right.pt (t0 t1 : Value) (K : Ret) (h : Heap) : Prop :=
 go (Bin .int .geq t1 (.int .i64 1)) h fun t6 h =>
 go (Gd t6 true (Mv t1)) h fun t8 h =>
 go (Gd t6 true (Mv t0)) h fun t9 h =>
 go (Gd t6 true (NilC t9)) h fun t10 h =>
 go (Gd t6 true (Fld 0 t10)) h fun t11 h =>
 go (Gd t6 true (Ld t11)) h fun t12 h =>
 go (Gd t6 true (Len t12)) h fun t13 h =>
 go (Gd t6 true (Bin .int .leq t8 t13)) h fun t14 h =>
 go (Pick t6 t14 (.bool false)) h fun t15 h =>
 K t15 h
set_option maxRecDepth 100000 in
theorem local_State_right.eq : (fun t0 t1 K h => local_State_right.pt t0 t1 K h : Value → Value → Ret → Heap → Prop) = (fun t0 t1 K h => fnPt Try.prog [18, 20, 22, 24, 34, 35, 36, 40, 1000014, 1000016, 1000017, 1000033, 1000028, 1000013] Try.f40 local_State_right.ann [t0, t1] K h) := by kernel_rfl
set_option maxRecDepth 100000 in
theorem local_State_right.ok {t0 t1 : Value} {K : Ret} {h : Heap} (hp : local_State_right.pt t0 t1 K h) : CallH Try.prog 40 #[t0, t1] K h :=
  fn_sound (qs := [18, 20, 22, 24, 34, 35, 36, 40, 1000014, 1000016, 1000017, 1000033, 1000028, 1000013]) (fn := Try.f40) (ann := local_State_right.ann) (args := [t0, t1]) follows_mixed Try.func40 ((Eq.to_iff (congrFun (congrFun (congrFun (congrFun (local_State_right.eq) t0) t1) K) h)).mp hp)

/-! ### bradawl/table.New: function 41 -/
abbrev table_New.id : FuncId := 41
def table_New.ann : Ann := (.seq none .leaf (.seq none .leaf (.seq none .leaf (.seq none (.seq none .leaf (.block (.loop [0, 1, 5, 6, 11] (.seq none .leaf (.seq none (.cond .leaf .leaf) (.seq (some [0, 1, 5, 6, 11]) (.block (.seq none .leaf (.seq none (.seq none .leaf (.cond (.seq none .leaf (.seq none .leaf .leaf)) .leaf)) (.seq (some [0, 1, 5, 7, 11]) (.seq none .leaf (.cond .leaf .leaf)) .leaf)))) .leaf)))))) (.seq none .leaf .leaf)))))
set_option maxRecDepth 100000 in
def table_New.pt (t0 t1 : Value) (K : Ret) (h : Heap) : Prop :=
 go (Bld [(0, 64)] #[(.int .i64 0), (.int .i64 0), (.int .i64 0), (.int .i64 0), (.int .i64 0), (.int .i64 0), (.int .i64 0), (.int .i64 0), (.int .i64 0), (.int .i64 0), (.int .i64 0), (.int .i64 0), (.int .i64 0), (.int .i64 0), (.int .i64 0), (.int .i64 0), (.int .i64 0), (.int .i64 0), (.int .i64 0), (.int .i64 0), (.int .i64 0), (.int .i64 0), (.int .i64 0), (.int .i64 0), (.int .i64 0), (.int .i64 0), (.int .i64 0), (.int .i64 0), (.int .i64 0), (.int .i64 0), (.int .i64 0), (.int .i64 0), (.int .i64 0), (.int .i64 0), (.int .i64 0), (.int .i64 0), (.int .i64 0), (.int .i64 0), (.int .i64 0), (.int .i64 0), (.int .i64 0), (.int .i64 0), (.int .i64 0), (.int .i64 0), (.int .i64 0), (.int .i64 0), (.int .i64 0), (.int .i64 0), (.int .i64 0), (.int .i64 0), (.int .i64 0), (.int .i64 0), (.int .i64 0), (.int .i64 0), (.int .i64 0), (.int .i64 0), (.int .i64 0), (.int .i64 0), (.int .i64 0), (.int .i64 0), (.int .i64 0), (.int .i64 0), (.int .i64 0), (.int .i64 0)] []) h fun t9 h =>
 go (New (Value.cells t9) 99) h fun t10 h =>
 Lp 5 (fun X1 t0_1 t1_1 t5 t6 t11 h =>
 go (Bin .int .lss t11 (.int .i64 64)) h fun t12 h =>
 If t12 (
 Join 5 (fun J2 =>
 go (Bin .int .eql t0_1 (.int .i64 0)) h fun t15 h =>
 If t15 (
 go (Bin .int .add t1_1 t11) h fun t18 h =>
 go (Bin .int .mul t18 t18) h fun t23 h =>
 go (Bin .int .mul t23 t18) h fun t25 h =>
 go (Bin .int .quo (.int .i64 1099511627776) t25) h fun t26 h =>
 go (MaxV [t26, (.int .i64 1)]) h fun t27 h =>
 go (NilC t5) h fun t28 h =>
 go (Fld 0 t28) h fun t29 h =>
 go (IdxA 64 1 t29 t11) h fun t30 h =>
 go (St t30 t27) h fun _ h =>
 J2 t0_1 t1_1 t5 t6 t11 h) (
 Join 5 (fun J3 =>
 go (Bin .int .eql t11 (.int .i64 0)) h fun t32 h =>
 If t32 (
 go (NilC t5) h fun t35 h =>
 go (Fld 0 t35) h fun t36 h =>
 go (IdxA 64 1 t36 t11) h fun t37 h =>
 go (St t37 (.int .i64 1099511627776)) h fun _ h =>
 J3 t0_1 t1_1 t5 t11 t11 h) (
 go (Bin .int .mul t6 (.int .i64 16)) h fun t41 h =>
 go (Bin .int .quo t41 t1_1) h fun t43 h =>
 go (MaxV [t43, (.int .i64 1)]) h fun t44 h =>
 go (NilC t5) h fun t45 h =>
 go (Fld 0 t45) h fun t46 h =>
 go (IdxA 64 1 t46 t11) h fun t47 h =>
 go (St t47 t44) h fun _ h =>
 J3 t0_1 t1_1 t5 t11 t11 h)) (fun t0_2 t1_2 t5_1 t7 t11_1 h =>
 go (NilC t5_1) h fun t50 h =>
 go (Fld 0 t50) h fun t51 h =>
 go (IdxA 64 1 t51 t7) h fun t52 h =>
 go (Ld t52) h fun t53 h =>
 J2 t0_2 t1_2 t5_1 t53 t11_1 h))) (fun t0_3 t1_3 t5_2 t6_1 t11_2 h =>
 go (Bin .int .add t11_2 (.int .i64 1)) h fun t54 h =>
 X1 t0_3 t1_3 t5_2 t6_1 t54 h)) (
 K t5 h)) [t0, t1, t10, (.int .i64 0), (.int .i64 0)] h
set_option maxRecDepth 100000 in
theorem table_New.eq : (fun t0 t1 K h => table_New.pt t0 t1 K h : Value → Value → Ret → Heap → Prop) = (fun t0 t1 K h => fnPt Try.prog [18, 20, 22, 24, 34, 35, 36, 40, 1000014, 1000016, 1000017, 1000033, 1000028, 1000013] Try.f41 table_New.ann [t0, t1] K h) := by kernel_rfl
set_option maxRecDepth 100000 in
theorem table_New.ok {t0 t1 : Value} {K : Ret} {h : Heap} (hp : table_New.pt t0 t1 K h) : CallH Try.prog 41 #[t0, t1] K h :=
  fn_sound (qs := [18, 20, 22, 24, 34, 35, 36, 40, 1000014, 1000016, 1000017, 1000033, 1000028, 1000013]) (fn := Try.f41) (ann := table_New.ann) (args := [t0, t1]) follows_mixed Try.func41 ((Eq.to_iff (congrFun (congrFun (congrFun (congrFun (table_New.eq) t0) t1) K) h)).mp hp)

/-! ### (*bradawl/table.Table).Pick: function 42 -/
abbrev table_Table_Pick.id : FuncId := 42
def table_Table_Pick.ann : Ann := (.seq none .leaf (.seq none (.seq none .leaf (.cond (.seq none .leaf .leaf) .leaf)) (.seq none .leaf (.seq none (.seq none .leaf (.block (.loop [0, 7, 20, 21, 22] (.seq none .leaf (.seq none (.cond .leaf .leaf) (.seq none (.block (.seq none .leaf (.seq none .leaf (.seq none .leaf (.cond (.seq none .leaf .leaf) .leaf))))) .leaf)))))) (.seq none .leaf .leaf)))))
set_option maxRecDepth 100000 in
def table_Table_Pick.pt (t0 t1 t2 : Value) (K : Ret) (h : Heap) : Prop :=
 go (Len t1) h fun t11 h =>
 go (Bin .int .eql t11 (.int .i64 0)) h fun t12 h =>
 If t12 (
 K (.int .i64 (-1)) h) (
 go (CallF Try.prog 48 [t0, t1]) h fun t16 h =>
 go (Cvt .u64 t16) h fun t17 h =>
 go (Bin .int .rem t2 t17) h fun t18 h =>
 go (Cvt .i64 t18) h fun t19 h =>
 go (Len t1) h fun t21 h =>
 Lp 5 (fun X1 t0_1 t7 t20 t21_1 t22 h =>
 go (Bin .int .lss t22 t21_1) h fun t23 h =>
 If t23 (
 go (Idx 1 t20 t22) h fun t25 h =>
 go (Ld t25) h fun t26 h =>
 go (CallF Try.prog 49 [t0_1, t26]) h fun t30 h =>
 go (Bin .int .sub t7 t30) h fun t31 h =>
 go (Bin .int .lss t31 (.int .i64 0)) h fun t33 h =>
 If t33 (
 K t22 h) (
 go (Bin .int .add t22 (.int .i64 1)) h fun t35 h =>
 X1 t0_1 t31 t20 t21_1 t35 h)) (
 K (.int .i64 (-1)) h)) [t0, t19, t1, t21, (.int .i64 0)] h)
set_option maxRecDepth 100000 in
theorem table_Table_Pick.eq : (fun t0 t1 t2 K h => table_Table_Pick.pt t0 t1 t2 K h : Value → Value → Value → Ret → Heap → Prop) = (fun t0 t1 t2 K h => fnPt Try.prog [18, 20, 22, 24, 34, 35, 36, 40, 1000014, 1000016, 1000017, 1000033, 1000028, 1000013] Try.f42 table_Table_Pick.ann [t0, t1, t2] K h) := by kernel_rfl
set_option maxRecDepth 100000 in
theorem table_Table_Pick.ok {t0 t1 t2 : Value} {K : Ret} {h : Heap} (hp : table_Table_Pick.pt t0 t1 t2 K h) : CallH Try.prog 42 #[t0, t1, t2] K h :=
  fn_sound (qs := [18, 20, 22, 24, 34, 35, 36, 40, 1000014, 1000016, 1000017, 1000033, 1000028, 1000013]) (fn := Try.f42) (ann := table_Table_Pick.ann) (args := [t0, t1, t2]) follows_mixed Try.func42 ((Eq.to_iff (congrFun (congrFun (congrFun (congrFun (congrFun (table_Table_Pick.eq) t0) t1) t2) K) h)).mp hp)

/-! ### bradawl/walk.step: function 43 -/
abbrev walk_step.id : FuncId := 43
def walk_step.ann : Ann := (.seq none .leaf (.seq none (.seq none .leaf (.cond (.seq none .leaf .leaf) .leaf)) (.seq none .leaf (.seq none (.seq none .leaf (.cond (.seq none .leaf .leaf) .leaf)) (.seq none .leaf (.seq none .leaf (.seq (some [0, 9, 11]) (.seq none .leaf (.cond .leaf .leaf)) (.seq none .leaf (.seq none .leaf (.seq none .leaf .leaf))))))))))
set_option maxRecDepth 100000 in
def walk_step.pt (t0 t1 t2 t3 : Value) (K : Ret) (h : Heap) : Prop :=
 go (New (Value.cells t1) 39) h fun t5 h =>
 go (QCall Try.prog 20 [t0]) h fun t14 h =>
 go (Bin .int .eql t14 (.int .i64 0)) h fun t15 h =>
 If t15 (
 K (.int .i64 0) h) (
 go (QCall Try.prog 20 [t0]) h fun t20 h =>
 go (CallF Try.prog 23 [t3, t20]) h fun t21 h =>
 go (QCall Try.prog 22 [t0, t21]) h fun t22 h =>
 go (CallF Try.prog 21 [t0, t22]) h fun t23 h =>
 go (Len t23) h fun t25 h =>
 go (Bin .int .eql t25 (.int .i64 0)) h fun t26 h =>
 If t26 (
 K (.int .i64 0) h) (
 go (CallF Try.prog 50 [t0, t23]) h fun t29 h =>
 Join 3 (fun J1 =>
 go (Fld 0 t5) h fun t30 h =>
 go (Ld t30) h fun t31 h =>
 go (Bin .int .eql t31 (.int .i64 2)) h fun t32 h =>
 If t32 (
 go (Fld 2 t5) h fun t34 h =>
 go (Ld t34) h fun t35 h =>
 go (CallF Try.prog 51 [t29, t35, t3]) h fun t37 h =>
 J1 t0 t23 t37 h) (
 go (CallF Try.prog 39 [t3]) h fun t41 h =>
 go (CallF Try.prog 42 [t2, t29, t41]) h fun t42 h =>
 J1 t0 t23 t42 h)) (fun t0_1 t9 t11 h =>
 go (Idx 1 t9 t11) h fun t45 h =>
 go (Ld t45) h fun t46 h =>
 go (QCall Try.prog 36 [t46]) h fun t47 h =>
 go (CallF Try.prog 52 [t0_1, t47]) h fun t50 h =>
 K t47 h)))
set_option maxRecDepth 100000 in
theorem walk_step.eq : (fun t0 t1 t2 t3 K h => walk_step.pt t0 t1 t2 t3 K h : Value → Value → Value → Value → Ret → Heap → Prop) = (fun t0 t1 t2 t3 K h => fnPt Try.prog [18, 20, 22, 24, 34, 35, 36, 40, 1000014, 1000016, 1000017, 1000033, 1000028, 1000013] Try.f43 walk_step.ann [t0, t1, t2, t3] K h) := by kernel_rfl
set_option maxRecDepth 100000 in
theorem walk_step.ok {t0 t1 t2 t3 : Value} {K : Ret} {h : Heap} (hp : walk_step.pt t0 t1 t2 t3 K h) : CallH Try.prog 43 #[t0, t1, t2, t3] K h :=
  fn_sound (qs := [18, 20, 22, 24, 34, 35, 36, 40, 1000014, 1000016, 1000017, 1000033, 1000028, 1000013]) (fn := Try.f43) (ann := walk_step.ann) (args := [t0, t1, t2, t3]) follows_mixed Try.func43 ((Eq.to_iff (congrFun (congrFun (congrFun (congrFun (congrFun (congrFun (walk_step.eq) t0) t1) t2) t3) K) h)).mp hp)

/-! ### (bradawl/walk.Way).rows: function 44 -/
abbrev walk_Way_rows.id : FuncId := 44
def walk_Way_rows.ann : Ann := (.seq none .leaf (.seq none (.seq none .leaf (.cond (.seq none .leaf .leaf) .leaf)) (.seq none .leaf .leaf)))
set_option maxRecDepth 100000 in
def walk_Way_rows.pt (t0 : Value) (K : Ret) (h : Heap) : Prop :=
 go (New (Value.cells t0) 39) h fun t1 h =>
 go (Fld 0 t1) h fun t3 h =>
 go (Ld t3) h fun t4 h =>
 go (Bin .int .eql t4 (.int .i64 2)) h fun t5 h =>
 If t5 (
 K (.pointer none) h) (
 go (Fld 0 t1) h fun t6 h =>
 go (Ld t6) h fun t7 h =>
 go (Fld 1 t1) h fun t8 h =>
 go (Ld t8) h fun t9 h =>
 go (CallF Try.prog 41 [t7, t9]) h fun t10 h =>
 K t10 h)
set_option maxRecDepth 100000 in
theorem walk_Way_rows.eq : (fun t0 K h => walk_Way_rows.pt t0 K h : Value → Ret → Heap → Prop) = (fun t0 K h => fnPt Try.prog [18, 20, 22, 24, 34, 35, 36, 40, 1000014, 1000016, 1000017, 1000033, 1000028, 1000013] Try.f44 walk_Way_rows.ann [t0] K h) := by kernel_rfl
set_option maxRecDepth 100000 in
theorem walk_Way_rows.ok {t0 : Value} {K : Ret} {h : Heap} (hp : walk_Way_rows.pt t0 K h) : CallH Try.prog 44 #[t0] K h :=
  fn_sound (qs := [18, 20, 22, 24, 34, 35, 36, 40, 1000014, 1000016, 1000017, 1000033, 1000028, 1000013]) (fn := Try.f44) (ann := walk_Way_rows.ann) (args := [t0]) follows_mixed Try.func44 ((Eq.to_iff (congrFun (congrFun (congrFun (walk_Way_rows.eq) t0) K) h)).mp hp)

/-! ### bradawl/norm.Tautology: function 45 -/
abbrev norm_Tautology.id : FuncId := 45
def norm_Tautology.ann : Ann := (.seq none .leaf (.seq none .leaf (.seq none (.seq none .leaf (.block (.loop [3, 4] (.seq none (.seq none .leaf (.cond .leaf .leaf)) (.seq none (.block (.seq none .leaf (.cond (.seq none .leaf .leaf) .leaf))) .leaf))))) (.seq none .leaf .leaf))))
set_option maxRecDepth 100000 in
def norm_Tautology.pt (t0 : Value) (K : Ret) (h : Heap) : Prop :=
 go (CallF Try.prog 46 [t0]) h fun t6 h =>
 Lp 2 (fun X1 t3 t4 h =>
 go (Len t3) h fun t9 h =>
 go (Bin .int .lss t4 t9) h fun t10 h =>
 If t10 (
 go (Idx 1 t3 t4) h fun t15 h =>
 go (Ld t15) h fun t16 h =>
 go (Bin .int .sub t4 (.int .i64 1)) h fun t19 h =>
 go (Idx 1 t3 t19) h fun t20 h =>
 go (Ld t20) h fun t21 h =>
 go (Un .neg t21) h fun t22 h =>
 go (Bin .int .eql t16 t22) h fun t23 h =>
 If t23 (
 K (.bool true) h) (
 go (Bin .int .add t4 (.int .i64 1)) h fun t12 h =>
 X1 t3 t12 h)) (
 K (.bool false) h)) [t6, (.int .i64 1)] h
set_option maxRecDepth 100000 in
theorem norm_Tautology.eq : (fun t0 K h => norm_Tautology.pt t0 K h : Value → Ret → Heap → Prop) = (fun t0 K h => fnPt Try.prog [18, 20, 22, 24, 34, 35, 36, 40, 1000014, 1000016, 1000017, 1000033, 1000028, 1000013] Try.f45 norm_Tautology.ann [t0] K h) := by kernel_rfl
set_option maxRecDepth 100000 in
theorem norm_Tautology.ok {t0 : Value} {K : Ret} {h : Heap} (hp : norm_Tautology.pt t0 K h) : CallH Try.prog 45 #[t0] K h :=
  fn_sound (qs := [18, 20, 22, 24, 34, 35, 36, 40, 1000014, 1000016, 1000017, 1000033, 1000028, 1000013]) (fn := Try.f45) (ann := norm_Tautology.ann) (args := [t0]) follows_mixed Try.func45 ((Eq.to_iff (congrFun (congrFun (congrFun (norm_Tautology.eq) t0) K) h)).mp hp)

/-! ### bradawl/norm.Clause: function 46 -/
abbrev norm_Clause.id : FuncId := 46
def norm_Clause.ann : Ann := (.seq none .leaf (.seq none .leaf (.seq none .leaf (.seq none .leaf .leaf))))
set_option maxRecDepth 100000 in
def norm_Clause.pt (t0 : Value) (K : Ret) (h : Heap) : Prop :=
 go (CallF Try.prog 38 [t0]) h fun t5 h =>
 go (CallF Try.prog 53 [t5, (.func (.func 54) #[] #[])]) h fun t7 h =>
 go (CallF Try.prog 55 [t5]) h fun t9 h =>
 K t9 h
set_option maxRecDepth 100000 in
theorem norm_Clause.eq : (fun t0 K h => norm_Clause.pt t0 K h : Value → Ret → Heap → Prop) = (fun t0 K h => fnPt Try.prog [18, 20, 22, 24, 34, 35, 36, 40, 1000014, 1000016, 1000017, 1000033, 1000028, 1000013] Try.f46 norm_Clause.ann [t0] K h) := by kernel_rfl
set_option maxRecDepth 100000 in
theorem norm_Clause.ok {t0 : Value} {K : Ret} {h : Heap} (hp : norm_Clause.pt t0 K h) : CallH Try.prog 46 #[t0] K h :=
  fn_sound (qs := [18, 20, 22, 24, 34, 35, 36, 40, 1000014, 1000016, 1000017, 1000033, 1000028, 1000013]) (fn := Try.f46) (ann := norm_Clause.ann) (args := [t0]) follows_mixed Try.func46 ((Eq.to_iff (congrFun (congrFun (congrFun (norm_Clause.eq) t0) K) h)).mp hp)

/-! ### bradawl/rng.Step: function 47 -/
abbrev rng_Step.id : FuncId := 47
def rng_Step.ann : Ann := (.seq none .leaf (.seq none .leaf (.seq none .leaf (.seq none .leaf .leaf))))
set_option maxRecDepth 100000 in
def rng_Step.pt (t0 : Value) (K : Ret) (h : Heap) : Prop :=
 go (Bin .int .shl t0 (.int .u64 13)) h fun t5 h =>
 go (Bin .int .xor t0 t5) h fun t6 h =>
 go (Bin .int .shr t6 (.int .u64 7)) h fun t9 h =>
 go (Bin .int .xor t6 t9) h fun t10 h =>
 go (Bin .int .shl t10 (.int .u64 17)) h fun t13 h =>
 go (Bin .int .xor t10 t13) h fun t14 h =>
 K t14 h
set_option maxRecDepth 100000 in
theorem rng_Step.eq : (fun t0 K h => rng_Step.pt t0 K h : Value → Ret → Heap → Prop) = (fun t0 K h => fnPt Try.prog [18, 20, 22, 24, 34, 35, 36, 40, 1000014, 1000016, 1000017, 1000033, 1000028, 1000013] Try.f47 rng_Step.ann [t0] K h) := by kernel_rfl
set_option maxRecDepth 100000 in
theorem rng_Step.ok {t0 : Value} {K : Ret} {h : Heap} (hp : rng_Step.pt t0 K h) : CallH Try.prog 47 #[t0] K h :=
  fn_sound (qs := [18, 20, 22, 24, 34, 35, 36, 40, 1000014, 1000016, 1000017, 1000033, 1000028, 1000013]) (fn := Try.f47) (ann := rng_Step.ann) (args := [t0]) follows_mixed Try.func47 ((Eq.to_iff (congrFun (congrFun (congrFun (rng_Step.eq) t0) K) h)).mp hp)

/-! ### (*bradawl/table.Table).Total: function 48 -/
abbrev table_Table_Total.id : FuncId := 48
def table_Table_Total.ann : Ann := (.seq none .leaf (.seq none .leaf (.seq none (.seq none .leaf (.block (.loop [0, 5, 8, 9, 10] (.seq none .leaf (.seq none (.cond .leaf .leaf) (.seq none (.block (.seq none .leaf .leaf)) .leaf)))))) (.seq none .leaf .leaf))))
set_option maxRecDepth 100000 in
def table_Table_Total.pt (t0 t1 : Value) (K : Ret) (h : Heap) : Prop :=
 go (Len t1) h fun t9 h =>
 Lp 5 (fun X1 t0_1 t5 t8 t9_1 t10 h =>
 go (Bin .int .lss t10 t9_1) h fun t11 h =>
 If t11 (
 go (Idx 1 t8 t10) h fun t12 h =>
 go (Ld t12) h fun t13 h =>
 go (CallF Try.prog 49 [t0_1, t13]) h fun t17 h =>
 go (Bin .int .add t5 t17) h fun t18 h =>
 go (Bin .int .add t10 (.int .i64 1)) h fun t19 h =>
 X1 t0_1 t18 t8 t9_1 t19 h) (
 K t5 h)) [t0, (.int .i64 0), t1, t9, (.int .i64 0)] h
set_option maxRecDepth 100000 in
theorem table_Table_Total.eq : (fun t0 t1 K h => table_Table_Total.pt t0 t1 K h : Value → Value → Ret → Heap → Prop) = (fun t0 t1 K h => fnPt Try.prog [18, 20, 22, 24, 34, 35, 36, 40, 1000014, 1000016, 1000017, 1000033, 1000028, 1000013] Try.f48 table_Table_Total.ann [t0, t1] K h) := by kernel_rfl
set_option maxRecDepth 100000 in
theorem table_Table_Total.ok {t0 t1 : Value} {K : Ret} {h : Heap} (hp : table_Table_Total.pt t0 t1 K h) : CallH Try.prog 48 #[t0, t1] K h :=
  fn_sound (qs := [18, 20, 22, 24, 34, 35, 36, 40, 1000014, 1000016, 1000017, 1000033, 1000028, 1000013]) (fn := Try.f48) (ann := table_Table_Total.ann) (args := [t0, t1]) follows_mixed Try.func48 ((Eq.to_iff (congrFun (congrFun (congrFun (congrFun (table_Table_Total.eq) t0) t1) K) h)).mp hp)

/-! ### (*bradawl/table.Table).Weight: function 49 -/
abbrev table_Table_Weight.id : FuncId := 49
def table_Table_Weight.ann : Ann := (.seq none .leaf (.seq none .leaf .leaf))
set_option maxRecDepth 100000 in
def table_Table_Weight.pt (t0 t1 : Value) (K : Ret) (h : Heap) : Prop :=
 go (MaxV [t1, (.int .i64 0)]) h fun t7 h =>
 go (MinV [t7, (.int .i64 63)]) h fun t8 h =>
 go (NilC t0) h fun t9 h =>
 go (Fld 0 t9) h fun t10 h =>
 go (IdxA 64 1 t10 t8) h fun t11 h =>
 go (Ld t11) h fun t12 h =>
 K t12 h
set_option maxRecDepth 100000 in
theorem table_Table_Weight.eq : (fun t0 t1 K h => table_Table_Weight.pt t0 t1 K h : Value → Value → Ret → Heap → Prop) = (fun t0 t1 K h => fnPt Try.prog [18, 20, 22, 24, 34, 35, 36, 40, 1000014, 1000016, 1000017, 1000033, 1000028, 1000013] Try.f49 table_Table_Weight.ann [t0, t1] K h) := by kernel_rfl
set_option maxRecDepth 100000 in
theorem table_Table_Weight.ok {t0 t1 : Value} {K : Ret} {h : Heap} (hp : table_Table_Weight.pt t0 t1 K h) : CallH Try.prog 49 #[t0, t1] K h :=
  fn_sound (qs := [18, 20, 22, 24, 34, 35, 36, 40, 1000014, 1000016, 1000017, 1000033, 1000028, 1000013]) (fn := Try.f49) (ann := table_Table_Weight.ann) (args := [t0, t1]) follows_mixed Try.func49 ((Eq.to_iff (congrFun (congrFun (congrFun (congrFun (table_Table_Weight.eq) t0) t1) K) h)).mp hp)

/-! ### bradawl/walk.breaks: function 50 -/
abbrev walk_breaks.id : FuncId := 50
def walk_breaks.ann : Ann := (.seq none .leaf (.seq none .leaf (.seq none (.seq none .leaf (.block (.loop [0, 5, 8, 9, 10] (.seq none .leaf (.seq none (.cond .leaf .leaf) (.seq none (.block (.seq none .leaf .leaf)) .leaf)))))) (.seq none .leaf .leaf))))
set_option maxRecDepth 100000 in
def walk_breaks.pt (t0 t1 : Value) (K : Ret) (h : Heap) : Prop :=
 go (Len t1) h fun t9 h =>
 Lp 5 (fun X1 t0_1 t5 t8 t9_1 t10 h =>
 go (Bin .int .lss t10 t9_1) h fun t11 h =>
 If t11 (
 go (Idx 1 t8 t10) h fun t12 h =>
 go (Ld t12) h fun t13 h =>
 go (QCall Try.prog 36 [t13]) h fun t17 h =>
 go (QCall Try.prog 24 [t0_1, t17]) h fun t18 h =>
 go (BldS 3 1 1 #[(.int .i64 0)] [(0, t18)]) h fun t19 h =>
 go (App 3 1 8 #[(.int .i64 0)] t5 t19) h fun t20 h =>
 go (Bin .int .add t10 (.int .i64 1)) h fun t21 h =>
 X1 t0_1 t20 t8 t9_1 t21 h) (
 K t5 h)) [t0, (.slice none 0 0), t1, t9, (.int .i64 0)] h
set_option maxRecDepth 100000 in
theorem walk_breaks.eq : (fun t0 t1 K h => walk_breaks.pt t0 t1 K h : Value → Value → Ret → Heap → Prop) = (fun t0 t1 K h => fnPt Try.prog [18, 20, 22, 24, 34, 35, 36, 40, 1000014, 1000016, 1000017, 1000033, 1000028, 1000013] Try.f50 walk_breaks.ann [t0, t1] K h) := by kernel_rfl
set_option maxRecDepth 100000 in
theorem walk_breaks.ok {t0 t1 : Value} {K : Ret} {h : Heap} (hp : walk_breaks.pt t0 t1 K h) : CallH Try.prog 50 #[t0, t1] K h :=
  fn_sound (qs := [18, 20, 22, 24, 34, 35, 36, 40, 1000014, 1000016, 1000017, 1000033, 1000028, 1000013]) (fn := Try.f50) (ann := walk_breaks.ann) (args := [t0, t1]) follows_mixed Try.func50 ((Eq.to_iff (congrFun (congrFun (congrFun (congrFun (walk_breaks.eq) t0) t1) K) h)).mp hp)

/-! ### bradawl/walk.noisy: function 51 -/
abbrev walk_noisy.id : FuncId := 51
def walk_noisy.ann : Ann := (.seq none .leaf (.seq none .leaf (.seq none (.seq none .leaf (.block (.loop [0, 1, 2, 7, 10, 11, 12] (.seq none .leaf (.seq none (.cond .leaf .leaf) (.seq (some [0, 1, 2, 7, 10, 11, 12]) (.block (.seq none .leaf (.seq none .leaf (.cond .leaf .leaf)))) .leaf)))))) (.seq none (.seq none .leaf (.cond (.seq none .leaf .leaf) .leaf)) (.seq none .leaf .leaf)))))
set_option maxRecDepth 100000 in
def walk_noisy.pt (t0 t1 t2 : Value) (K : Ret) (h : Heap) : Prop :=
 go (Len t0) h fun t11 h =>
 Lp 7 (fun X1 t0_1 t1_1 t2_1 t7 t10 t11_1 t12 h =>
 go (Bin .int .lss t12 t11_1) h fun t13 h =>
 If t13 (
 Join 7 (fun J2 =>
 go (Idx 1 t10 t12) h fun t15 h =>
 go (Ld t15) h fun t16 h =>
 go (Idx 1 t0_1 t7) h fun t20 h =>
 go (Ld t20) h fun t21 h =>
 go (Bin .int .lss t16 t21) h fun t22 h =>
 If t22 (
 J2 t0_1 t1_1 t2_1 t12 t10 t11_1 t12 h) (
 J2 t0_1 t1_1 t2_1 t7 t10 t11_1 t12 h)) (fun t0_2 t1_2 t2_2 t7_1 t10_1 t11_2 t12_1 h =>
 go (Bin .int .add t12_1 (.int .i64 1)) h fun t24 h =>
 X1 t0_2 t1_2 t2_2 t7_1 t10_1 t11_2 t24 h)) (
 go (Idx 1 t0_1 t7) h fun t27 h =>
 go (Ld t27) h fun t28 h =>
 go (Bin .int .gtr t28 (.int .i64 0)) h fun t29 h =>
 go (Gd t29 true (Mv t2_1)) h fun t31 h =>
 go (Gd t29 true (Mv t1_1)) h fun t32 h =>
 go (Gd t29 true (CallF Try.prog 56 [t31, t32, (.int .i64 1000)])) h fun t33 h =>
 go (Pick t29 t33 (.bool false)) h fun t34 h =>
 If t34 (
 go (Len t0_1) h fun t37 h =>
 go (CallF Try.prog 23 [t2_1, t37]) h fun t38 h =>
 K t38 h) (
 K t7 h))) [t0, t1, t2, (.int .i64 0), t0, t11, (.int .i64 0)] h
set_option maxRecDepth 100000 in
theorem walk_noisy.eq : (fun t0 t1 t2 K h => walk_noisy.pt t0 t1 t2 K h : Value → Value → Value → Ret → Heap → Prop) = (fun t0 t1 t2 K h => fnPt Try.prog [18, 20, 22, 24, 34, 35, 36, 40, 1000014, 1000016, 1000017, 1000033, 1000028, 1000013] Try.f51 walk_noisy.ann [t0, t1, t2] K h) := by kernel_rfl
set_option maxRecDepth 100000 in
theorem walk_noisy.ok {t0 t1 t2 : Value} {K : Ret} {h : Heap} (hp : walk_noisy.pt t0 t1 t2 K h) : CallH Try.prog 51 #[t0, t1, t2] K h :=
  fn_sound (qs := [18, 20, 22, 24, 34, 35, 36, 40, 1000014, 1000016, 1000017, 1000033, 1000028, 1000013]) (fn := Try.f51) (ann := walk_noisy.ann) (args := [t0, t1, t2]) follows_mixed Try.func51 ((Eq.to_iff (congrFun (congrFun (congrFun (congrFun (congrFun (walk_noisy.eq) t0) t1) t2) K) h)).mp hp)

/-! ### (*bradawl/local.State).Flip: function 52 -/
abbrev local_State_Flip.id : FuncId := 52
def local_State_Flip.ann : Ann := (.seq none .leaf (.seq none (.seq none .leaf (.cond (.seq none .leaf .leaf) .leaf)) (.seq none .leaf (.seq (some [0, 1, 5]) (.seq none .leaf (.cond .leaf .leaf)) (.seq none .leaf (.seq none .leaf (.seq none .leaf (.seq none .leaf (.seq (some []) (.seq none .leaf (.cond .leaf .leaf)) (.seq none .leaf .leaf))))))))))
set_option maxRecDepth 100000 in
def local_State_Flip.pt (t0 t1 : Value) (K : Ret) (h : Heap) : Prop :=
 go (QCall Try.prog 40 [t0, t1]) h fun t8 h =>
 go (Un .not t8) h fun t9 h =>
 If t9 (
 K (.bool false) h) (
 Join 3 (fun J1 =>
 go (NilC t0) h fun t12 h =>
 go (Fld 0 t12) h fun t13 h =>
 go (Ld t13) h fun t14 h =>
 go (Bin .int .sub t1 (.int .i64 1)) h fun t16 h =>
 go (Idx 1 t14 t16) h fun t17 h =>
 go (Ld t17) h fun t18 h =>
 If t18 (
 go (Un .neg t1) h fun t20 h =>
 J1 t0 t1 t20 h) (
 J1 t0 t1 t1 h)) (fun t0_1 t1_1 t5 h =>
 go (NilC t0_1) h fun t22 h =>
 go (Fld 0 t22) h fun t23 h =>
 go (Ld t23) h fun t24 h =>
 go (Bin .int .sub t1_1 (.int .i64 1)) h fun t26 h =>
 go (NilC t0_1) h fun t28 h =>
 go (Fld 0 t28) h fun t29 h =>
 go (Ld t29) h fun t30 h =>
 go (Bin .int .sub t1_1 (.int .i64 1)) h fun t32 h =>
 go (Idx 1 t30 t32) h fun t33 h =>
 go (Ld t33) h fun t34 h =>
 go (Un .not t34) h fun t35 h =>
 go (Idx 1 t24 t26) h fun t36 h =>
 go (St t36 t35) h fun _ h =>
 go (CallF Try.prog 57 [t0_1, t5, (.int .i64 1)]) h fun t39 h =>
 go (Un .neg t5) h fun t42 h =>
 go (CallF Try.prog 57 [t0_1, t42, (.int .i64 (-1))]) h fun t43 h =>
 go (NilC t0_1) h fun t45 h =>
 go (Fld 8 t45) h fun t46 h =>
 go (Ld t46) h fun t47 h =>
 go (Bin .int .add t47 (.int .i64 1)) h fun t48 h =>
 go (NilC t0_1) h fun t49 h =>
 go (Fld 8 t49) h fun t50 h =>
 go (St t50 t48) h fun _ h =>
 Join 0 (fun J2 =>
 go (NilC t0_1) h fun t52 h =>
 go (Fld 3 t52) h fun t53 h =>
 go (Ld t53) h fun t54 h =>
 go (Len t54) h fun t55 h =>
 go (NilC t0_1) h fun t57 h =>
 go (Fld 7 t57) h fun t58 h =>
 go (Ld t58) h fun t59 h =>
 go (Bin .int .lss t55 t59) h fun t60 h =>
 If t60 (
 go (NilC t0_1) h fun t64 h =>
 go (Fld 0 t64) h fun t65 h =>
 go (Ld t65) h fun t66 h =>
 go (NilC t0_1) h fun t69 h =>
 go (Fld 3 t69) h fun t70 h =>
 go (Ld t70) h fun t71 h =>
 (go (ACall Try.prog 33 [t66]) h fun t67 h =>
 go (NilC t0_1) h fun t73 h =>
 go (Fld 6 t73) h fun t74 h =>
 (go (Len t71) h fun t72 h =>
 go (St t74 t67) h fun _ h =>
 go (NilC t0_1) h fun t75 h =>
 go (Fld 7 t75) h fun t76 h =>
 go (St t76 t72) h fun _ h =>
 J2 h) ∧
 (go (St t74 t67) h fun _ h =>
 go (Len t71) h fun t72_1 h =>
 go (NilC t0_1) h fun t75_1 h =>
 go (Fld 7 t75_1) h fun t76_1 h =>
 go (St t76_1 t72_1) h fun _ h =>
 J2 h)) ∧
 (go (Len t71) h fun t72_2 h =>
 go (ACall Try.prog 33 [t66]) h fun t67_1 h =>
 go (NilC t0_1) h fun t73_1 h =>
 go (Fld 6 t73_1) h fun t74_1 h =>
 go (St t74_1 t67_1) h fun _ h =>
 go (NilC t0_1) h fun t75_2 h =>
 go (Fld 7 t75_2) h fun t76_2 h =>
 go (St t76_2 t72_2) h fun _ h =>
 J2 h)) (
 J2 h)) (fun  h =>
 K (.bool true) h)))
set_option maxRecDepth 100000 in
theorem local_State_Flip.eq : (fun t0 t1 K h => local_State_Flip.pt t0 t1 K h : Value → Value → Ret → Heap → Prop) = (fun t0 t1 K h => fnPt Try.prog [18, 20, 22, 24, 34, 35, 36, 40, 1000014, 1000016, 1000017, 1000033, 1000028, 1000013] Try.f52 local_State_Flip.ann [t0, t1] K h) := by kernel_rfl
set_option maxRecDepth 100000 in
theorem local_State_Flip.ok {t0 t1 : Value} {K : Ret} {h : Heap} (hp : local_State_Flip.pt t0 t1 K h) : CallH Try.prog 52 #[t0, t1] K h :=
  fn_sound (qs := [18, 20, 22, 24, 34, 35, 36, 40, 1000014, 1000016, 1000017, 1000033, 1000028, 1000013]) (fn := Try.f52) (ann := local_State_Flip.ann) (args := [t0, t1]) follows_mixed Try.func52 ((Eq.to_iff (congrFun (congrFun (congrFun (congrFun (local_State_Flip.eq) t0) t1) K) h)).mp hp)

/-! ### slices.SortFunc[[]int,int]: function 53 -/
abbrev slices_SortFunc_int_int.id : FuncId := 53
def slices_SortFunc_int_int.ann : Ann := (.seq none .leaf .leaf)
set_option maxRecDepth 100000 in
def slices_SortFunc_int_int.pt (t0 t1 : Value) (K : Ret) (h : Heap) : Prop :=
 go (Len t0) h fun t6 h =>
 go (Cvt .u64 t6) h fun t10 h =>
 go (CallF Try.prog 59 [t10]) h fun t11 h =>
 go (CallF Try.prog 58 [t0, (.int .i64 0), t6, t11, t1]) h fun t13 h =>
 K (.tuple #[]) h
set_option maxRecDepth 100000 in
theorem slices_SortFunc_int_int.eq : (fun t0 t1 K h => slices_SortFunc_int_int.pt t0 t1 K h : Value → Value → Ret → Heap → Prop) = (fun t0 t1 K h => fnPt Try.prog [18, 20, 22, 24, 34, 35, 36, 40, 1000014, 1000016, 1000017, 1000033, 1000028, 1000013] Try.f53 slices_SortFunc_int_int.ann [t0, t1] K h) := by kernel_rfl
set_option maxRecDepth 100000 in
theorem slices_SortFunc_int_int.ok {t0 t1 : Value} {K : Ret} {h : Heap} (hp : slices_SortFunc_int_int.pt t0 t1 K h) : CallH Try.prog 53 #[t0, t1] K h :=
  fn_sound (qs := [18, 20, 22, 24, 34, 35, 36, 40, 1000014, 1000016, 1000017, 1000033, 1000028, 1000013]) (fn := Try.f53) (ann := slices_SortFunc_int_int.ann) (args := [t0, t1]) follows_mixed Try.func53 ((Eq.to_iff (congrFun (congrFun (congrFun (congrFun (slices_SortFunc_int_int.eq) t0) t1) K) h)).mp hp)

/-! ### bradawl/lit.Compare: function 54 -/
abbrev lit_Compare.id : FuncId := 54
def lit_Compare.ann : Ann := (.seq none .leaf (.seq none .leaf .leaf))
set_option maxRecDepth 100000 in
def lit_Compare.pt (t0 t1 : Value) (K : Ret) (h : Heap) : Prop :=
 go (QCall Try.prog 34 [t0]) h fun t6 h =>
 go (QCall Try.prog 34 [t1]) h fun t8 h =>
 go (CallF Try.prog 60 [t6, t8]) h fun t9 h =>
 K t9 h
set_option maxRecDepth 100000 in
theorem lit_Compare.eq : (fun t0 t1 K h => lit_Compare.pt t0 t1 K h : Value → Value → Ret → Heap → Prop) = (fun t0 t1 K h => fnPt Try.prog [18, 20, 22, 24, 34, 35, 36, 40, 1000014, 1000016, 1000017, 1000033, 1000028, 1000013] Try.f54 lit_Compare.ann [t0, t1] K h) := by kernel_rfl
set_option maxRecDepth 100000 in
theorem lit_Compare.ok {t0 t1 : Value} {K : Ret} {h : Heap} (hp : lit_Compare.pt t0 t1 K h) : CallH Try.prog 54 #[t0, t1] K h :=
  fn_sound (qs := [18, 20, 22, 24, 34, 35, 36, 40, 1000014, 1000016, 1000017, 1000033, 1000028, 1000013]) (fn := Try.f54) (ann := lit_Compare.ann) (args := [t0, t1]) follows_mixed Try.func54 ((Eq.to_iff (congrFun (congrFun (congrFun (congrFun (lit_Compare.eq) t0) t1) K) h)).mp hp)

/-! ### slices.Compact[[]int,int]: function 55 -/
abbrev slices_Compact_int_int.id : FuncId := 55
def slices_Compact_int_int.ann : Ann := (.seq none .leaf (.seq none (.seq none .leaf (.cond (.seq none .leaf .leaf) .leaf)) (.seq none (.seq none .leaf (.block (.loop [0, 3] (.seq none (.seq none .leaf (.cond .leaf .leaf)) (.seq none (.block (.seq none .leaf (.cond (.seq none .leaf (.seq none (.seq none .leaf (.block (.loop [0, 3, 4, 5] (.seq none (.seq none .leaf (.cond .leaf .leaf)) (.seq (some [0, 3, 4, 5]) (.block (.seq none .leaf (.cond (.seq none .leaf .leaf) .leaf))) .leaf))))) (.seq none .leaf (.seq none .leaf .leaf)))) .leaf))) .leaf))))) (.seq none .leaf .leaf))))
set_option maxRecDepth 100000 in
def slices_Compact_int_int.pt (t0 : Value) (K : Ret) (h : Heap) : Prop :=
 go (Len t0) h fun t7 h =>
 go (Bin .int .lss t7 (.int .i64 2)) h fun t8 h =>
 If t8 (
 K t0 h) (
 Lp 2 (fun X1 t0_1 t3 h =>
 go (Len t0_1) h fun t12 h =>
 go (Bin .int .lss t3 t12) h fun t13 h =>
 If t13 (
 go (Idx 1 t0_1 t3) h fun t18 h =>
 go (Ld t18) h fun t19 h =>
 go (Bin .int .sub t3 (.int .i64 1)) h fun t22 h =>
 go (Idx 1 t0_1 t22) h fun t23 h =>
 go (Ld t23) h fun t24 h =>
 go (Bin .int .eql t19 t24) h fun t25 h =>
 If t25 (
 go (Slc 1 t0_1 (some t3) none none) h fun t28 h =>
 Lp 4 (fun X2 t0_2 t3_1 t4 t5 h =>
 go (Len t4) h fun t31 h =>
 go (Bin .int .lss t5 t31) h fun t32 h =>
 If t32 (
 Join 4 (fun J3 =>
 go (Idx 1 t4 t5) h fun t37 h =>
 go (Ld t37) h fun t38 h =>
 go (Bin .int .sub t5 (.int .i64 1)) h fun t41 h =>
 go (Idx 1 t4 t41) h fun t42 h =>
 go (Ld t42) h fun t43 h =>
 go (Bin .int .neq t38 t43) h fun t44 h =>
 If t44 (
 go (Idx 1 t4 t5) h fun t49 h =>
 go (Ld t49) h fun t50 h =>
 go (Idx 1 t0_2 t3_1) h fun t51 h =>
 go (St t51 t50) h fun _ h =>
 go (Bin .int .add t3_1 (.int .i64 1)) h fun t53 h =>
 J3 t0_2 t53 t4 t5 h) (
 J3 t0_2 t3_1 t4 t5 h)) (fun t0_3 t3_2 t4_1 t5_1 h =>
 go (Bin .int .add t5_1 (.int .i64 1)) h fun t34 h =>
 X2 t0_3 t3_2 t4_1 t34 h)) (
 go (Slc 1 t0_2 (some t3_1) none none) h fun t56 h =>
 go (Clr #[(.int .i64 0)] t56) h fun _ h =>
 go (Slc 1 t0_2 none (some t3_1) none) h fun t59 h =>
 K t59 h)) [t0_1, t3, t28, (.int .i64 1)] h) (
 go (Bin .int .add t3 (.int .i64 1)) h fun t15 h =>
 X1 t0_1 t15 h)) (
 K t0_1 h)) [t0, (.int .i64 1)] h)
set_option maxRecDepth 100000 in
theorem slices_Compact_int_int.eq : (fun t0 K h => slices_Compact_int_int.pt t0 K h : Value → Ret → Heap → Prop) = (fun t0 K h => fnPt Try.prog [18, 20, 22, 24, 34, 35, 36, 40, 1000014, 1000016, 1000017, 1000033, 1000028, 1000013] Try.f55 slices_Compact_int_int.ann [t0] K h) := by kernel_rfl
set_option maxRecDepth 100000 in
theorem slices_Compact_int_int.ok {t0 : Value} {K : Ret} {h : Heap} (hp : slices_Compact_int_int.pt t0 K h) : CallH Try.prog 55 #[t0] K h :=
  fn_sound (qs := [18, 20, 22, 24, 34, 35, 36, 40, 1000014, 1000016, 1000017, 1000033, 1000028, 1000013]) (fn := Try.f55) (ann := slices_Compact_int_int.ann) (args := [t0]) follows_mixed Try.func55 ((Eq.to_iff (congrFun (congrFun (congrFun (slices_Compact_int_int.eq) t0) K) h)).mp hp)

/-! ### (*bradawl/rng.Stream).Chance: function 56 -/
abbrev rng_Stream_Chance.id : FuncId := 56
def rng_Stream_Chance.ann : Ann := (.seq none .leaf (.seq none .leaf .leaf))
set_option maxRecDepth 100000 in
def rng_Stream_Chance.pt (t0 t1 t2 : Value) (K : Ret) (h : Heap) : Prop :=
 go (Bin .int .geq t2 (.int .i64 1)) h fun t8 h =>
 go (Gd t8 true (Mv t0)) h fun t10 h =>
 go (Gd t8 true (Mv t2)) h fun t11 h =>
 go (Gd t8 true (CallF Try.prog 23 [t10, t11])) h fun t12 h =>
 go (Gd t8 true (Mv t1)) h fun t13 h =>
 go (Gd t8 true (Bin .int .lss t12 t13)) h fun t14 h =>
 go (Pick t8 t14 (.bool false)) h fun t15 h =>
 K t15 h
set_option maxRecDepth 100000 in
theorem rng_Stream_Chance.eq : (fun t0 t1 t2 K h => rng_Stream_Chance.pt t0 t1 t2 K h : Value → Value → Value → Ret → Heap → Prop) = (fun t0 t1 t2 K h => fnPt Try.prog [18, 20, 22, 24, 34, 35, 36, 40, 1000014, 1000016, 1000017, 1000033, 1000028, 1000013] Try.f56 rng_Stream_Chance.ann [t0, t1, t2] K h) := by kernel_rfl
set_option maxRecDepth 100000 in
theorem rng_Stream_Chance.ok {t0 t1 t2 : Value} {K : Ret} {h : Heap} (hp : rng_Stream_Chance.pt t0 t1 t2 K h) : CallH Try.prog 56 #[t0, t1, t2] K h :=
  fn_sound (qs := [18, 20, 22, 24, 34, 35, 36, 40, 1000014, 1000016, 1000017, 1000033, 1000028, 1000013]) (fn := Try.f56) (ann := rng_Stream_Chance.ann) (args := [t0, t1, t2]) follows_mixed Try.func56 ((Eq.to_iff (congrFun (congrFun (congrFun (congrFun (congrFun (rng_Stream_Chance.eq) t0) t1) t2) K) h)).mp hp)

/-! ### (*bradawl/local.State).turn: function 57 -/
abbrev local_State_turn.id : FuncId := 57
def local_State_turn.ann : Ann := (.seq none .leaf (.block (.loop [0, 1, 2, 15, 16, 17] (.seq none .leaf (.seq none (.cond .leaf .leaf) (.seq none (.block (.seq none .leaf (.seq none .leaf (.seq none .leaf (.seq none .leaf .leaf))))) .leaf))))))
set_option maxRecDepth 100000 in
def local_State_turn.pt (t0 t1 t2 : Value) (K : Ret) (h : Heap) : Prop :=
 go (NilC t0) h fun t9 h =>
 go (Fld 2 t9) h fun t10 h =>
 go (Ld t10) h fun t11 h =>
 go (QCall Try.prog 34 [t1]) h fun t13 h =>
 go (Idx 1 t11 t13) h fun t14 h =>
 go (Ld t14) h fun t15 h =>
 go (Len t15) h fun t16 h =>
 Lp 6 (fun X1 t0_1 t1_1 t2_1 t15_1 t16_1 t17 h =>
 go (Bin .int .lss t17 t16_1) h fun t18 h =>
 If t18 (
 go (Idx 1 t15_1 t17) h fun t19 h =>
 go (Ld t19) h fun t20 h =>
 go (CallF Try.prog 37 [t0_1, t20, (.int .i64 (-1))]) h fun t23 h =>
 go (NilC t0_1) h fun t25 h =>
 go (Fld 1 t25) h fun t26 h =>
 go (Ld t26) h fun t27 h =>
 go (Idx 4 t27 t20) h fun t29 h =>
 go (Fld 1 t29) h fun t30 h =>
 go (Ld t30) h fun t31 h =>
 go (Bin .int .add t31 t2_1) h fun t33 h =>
 go (Idx 4 t27 t20) h fun t34 h =>
 go (Fld 1 t34) h fun t35 h =>
 go (St t35 t33) h fun _ h =>
 go (NilC t0_1) h fun t37 h =>
 go (Fld 1 t37) h fun t38 h =>
 go (Ld t38) h fun t39 h =>
 go (Idx 4 t39 t20) h fun t41 h =>
 go (Fld 2 t41) h fun t42 h =>
 go (Ld t42) h fun t43 h =>
 go (QCall Try.prog 36 [t1_1]) h fun t46 h =>
 go (Bin .int .mul t2_1 t46) h fun t47 h =>
 go (Bin .int .add t43 t47) h fun t48 h =>
 go (Idx 4 t39 t20) h fun t49 h =>
 go (Fld 2 t49) h fun t50 h =>
 go (St t50 t48) h fun _ h =>
 go (CallF Try.prog 37 [t0_1, t20, (.int .i64 1)]) h fun t53 h =>
 go (Bin .int .add t17 (.int .i64 1)) h fun t54 h =>
 X1 t0_1 t1_1 t2_1 t15_1 t16_1 t54 h) (
 K (.tuple #[]) h)) [t0, t1, t2, t15, t16, (.int .i64 0)] h
set_option maxRecDepth 100000 in
theorem local_State_turn.eq : (fun t0 t1 t2 K h => local_State_turn.pt t0 t1 t2 K h : Value → Value → Value → Ret → Heap → Prop) = (fun t0 t1 t2 K h => fnPt Try.prog [18, 20, 22, 24, 34, 35, 36, 40, 1000014, 1000016, 1000017, 1000033, 1000028, 1000013] Try.f57 local_State_turn.ann [t0, t1, t2] K h) := by kernel_rfl
set_option maxRecDepth 100000 in
theorem local_State_turn.ok {t0 t1 t2 : Value} {K : Ret} {h : Heap} (hp : local_State_turn.pt t0 t1 t2 K h) : CallH Try.prog 57 #[t0, t1, t2] K h :=
  fn_sound (qs := [18, 20, 22, 24, 34, 35, 36, 40, 1000014, 1000016, 1000017, 1000033, 1000028, 1000013]) (fn := Try.f57) (ann := local_State_turn.ann) (args := [t0, t1, t2]) follows_mixed Try.func57 ((Eq.to_iff (congrFun (congrFun (congrFun (congrFun (congrFun (local_State_turn.eq) t0) t1) t2) K) h)).mp hp)

/-! ### slices.pdqsortCmpFunc[int]: function 58 -/
abbrev slices_pdqsortCmpFunc_int.id : FuncId := 58
def slices_pdqsortCmpFunc_int.ann : Ann := (.seq none .leaf (.seq none .leaf (.block (.loop [0, 1, 2, 3, 4, 10, 11] (.block (.seq none .leaf (.seq none (.seq none .leaf (.cond (.seq none .leaf .leaf) .leaf)) (.seq none (.seq none .leaf (.cond (.seq none .leaf .leaf) .leaf)) (.seq (some [0, 1, 2, 3, 4, 10, 11, 12]) (.seq none .leaf (.cond (.seq none .leaf .leaf) .leaf)) (.seq none .leaf (.seq (some [0, 1, 2, 3, 4, 10, 11, 12, 13, 14]) (.seq none .leaf (.cond (.seq none .leaf (.seq none .leaf .leaf)) .leaf)) (.seq (some [0, 1, 2, 3, 4, 10, 11, 12, 13]) (.seq none .leaf (.cond (.seq none .leaf (.cond .leaf .leaf)) .leaf)) (.seq none (.seq none .leaf (.cond (.seq none .leaf (.seq none .leaf .leaf)) .leaf)) (.seq none .leaf (.seq none .leaf (.seq none .leaf (.seq none .leaf (.seq none .leaf (.cond (.seq none .leaf (.seq none .leaf .leaf)) (.seq none .leaf (.seq none .leaf .leaf)))))))))))))))))))))
set_option maxRecDepth 100000 in
def slices_pdqsortCmpFunc_int.pt (t0 t1 t2 t3 t4 : Value) (K : Ret) (h : Heap) : Prop :=
 Lp 7 (fun X1 t0_1 t1_1 t2_1 t3_1 t4_1 t10 t11 h =>
 go (Bin .int .sub t2_1 t1_1) h fun t23 h =>
 go (Bin .int .leq t23 (.int .i64 12)) h fun t25 h =>
 If t25 (
 go (CallF Try.prog 61 [t0_1, t1_1, t2_1, t4_1]) h fun t30 h =>
 K (.tuple #[]) h) (
 go (Bin .int .eql t3_1 (.int .i64 0)) h fun t32 h =>
 If t32 (
 go (CallF Try.prog 62 [t0_1, t1_1, t2_1, t4_1]) h fun t37 h =>
 K (.tuple #[]) h) (
 Join 8 (fun J2 =>
 go (Un .not t10) h fun t39 h =>
 If t39 (
 go (CallF Try.prog 63 [t0_1, t1_1, t2_1, t4_1]) h fun t44 h =>
 go (Bin .int .sub t3_1 (.int .i64 1)) h fun t46 h =>
 J2 t0_1 t1_1 t2_1 t46 t4_1 t10 t11 t23 h) (
 J2 t0_1 t1_1 t2_1 t3_1 t4_1 t10 t11 t23 h)) (fun t0_2 t1_2 t2_2 t3_2 t4_2 t10_1 t11_1 t12 h =>
 go (CallF Try.prog 64 [t0_2, t1_2, t2_2, t4_2]) h fun t52 h =>
 go (Ext 0 t52) h fun t53 h =>
 go (Ext 1 t52) h fun t54 h =>
 Join 10 (fun J3 =>
 go (Bin .int .eql t54 (.int .i64 2)) h fun t56 h =>
 If t56 (
 go (CallF Try.prog 65 [t0_2, t1_2, t2_2, t4_2]) h fun t61 h =>
 go (Bin .int .sub t2_2 (.int .i64 1)) h fun t63 h =>
 go (Bin .int .sub t53 t1_2) h fun t66 h =>
 go (Bin .int .sub t63 t66) h fun t67 h =>
 J3 t0_2 t1_2 t2_2 t3_2 t4_2 t10_1 t11_1 t12 t67 (.int .i64 1) h) (
 J3 t0_2 t1_2 t2_2 t3_2 t4_2 t10_1 t11_1 t12 t53 t54 h)) (fun t0_3 t1_3 t2_3 t3_3 t4_3 t10_2 t11_2 t12_1 t13 t14 h =>
 Join 9 (fun J4 =>
 go (Gd t10_2 true (Mv t11_2)) h fun t70 h =>
 go (Pick t10_2 t70 (.bool false)) h fun t71 h =>
 go (Gd t71 true (Mv t14)) h fun t73 h =>
 go (Gd t71 true (Bin .int .eql t73 (.int .i64 1))) h fun t74 h =>
 go (Pick t71 t74 (.bool false)) h fun t75 h =>
 If t75 (
 go (CallF Try.prog 66 [t0_3, t1_3, t2_3, t4_3]) h fun t80 h =>
 If t80 (
 K (.tuple #[]) h) (
 J4 t0_3 t1_3 t2_3 t3_3 t4_3 t10_2 t11_2 t12_1 t13 h)) (
 J4 t0_3 t1_3 t2_3 t3_3 t4_3 t10_2 t11_2 t12_1 t13 h)) (fun t0_4 t1_4 t2_4 t3_4 t4_4 t10_3 t11_3 t12_2 t13_1 h =>
 go (Bin .int .gtr t1_4 (.int .i64 0)) h fun t82 h =>
 go (Gd t82 true (Mv t4_4)) h fun t84 h =>
 go (Gd t82 true (Mv t0_4)) h fun t85 h =>
 go (Gd t82 true (Mv t1_4)) h fun t86 h =>
 go (Gd t82 true (Bin .int .sub t86 (.int .i64 1))) h fun t87 h =>
 go (Gd t82 true (Idx 1 t85 t87)) h fun t88 h =>
 go (Gd t82 true (Ld t88)) h fun t89 h =>
 go (Gd t82 true (Mv t0_4)) h fun t90 h =>
 go (Gd t82 true (Mv t13_1)) h fun t91 h =>
 go (Gd t82 true (Idx 1 t90 t91)) h fun t92 h =>
 go (Gd t82 true (Ld t92)) h fun t93 h =>
 go (Gd t82 true (CallV Try.prog t84 [t89, t93])) h fun t94 h =>
 go (Gd t82 true (Bin .int .lss t94 (.int .i64 0))) h fun t95 h =>
 go (Gd t82 true (Un .not t95)) h fun t96 h =>
 go (Pick t82 t96 (.bool false)) h fun t97 h =>
 If t97 (
 go (CallF Try.prog 67 [t0_4, t1_4, t2_4, t13_1, t4_4]) h fun t103 h =>
 X1 t0_4 t103 t2_4 t3_4 t4_4 t10_3 t11_3 h) (
 go (CallF Try.prog 68 [t0_4, t1_4, t2_4, t13_1, t4_4]) h fun t111 h =>
 go (Ext 0 t111) h fun t112 h =>
 go (Ext 1 t111) h fun t113 h =>
 go (Bin .int .sub t112 t1_4) h fun t117 h =>
 go (Bin .int .sub t2_4 t112) h fun t120 h =>
 go (Bin .int .quo t12_2 (.int .i64 8)) h fun t122 h =>
 go (Bin .int .lss t117 t120) h fun t125 h =>
 If t125 (
 go (Bin .int .geq t117 t122) h fun t128 h =>
 go (CallF Try.prog 58 [t0_4, t1_4, t112, t3_4, t4_4]) h fun t134 h =>
 go (Bin .int .add t112 (.int .i64 1)) h fun t136 h =>
 X1 t0_4 t136 t2_4 t3_4 t4_4 t128 t113 h) (
 go (Bin .int .geq t120 t122) h fun t139 h =>
 go (Bin .int .add t112 (.int .i64 1)) h fun t142 h =>
 go (CallF Try.prog 58 [t0_4, t142, t2_4, t3_4, t4_4]) h fun t146 h =>
 X1 t0_4 t1_4 t112 t3_4 t4_4 t139 t113 h)))))))) [t0, t1, t2, t3, t4, (.bool true), (.bool true)] h
set_option maxRecDepth 100000 in
theorem slices_pdqsortCmpFunc_int.eq : (fun t0 t1 t2 t3 t4 K h => slices_pdqsortCmpFunc_int.pt t0 t1 t2 t3 t4 K h : Value → Value → Value → Value → Value → Ret → Heap → Prop) = (fun t0 t1 t2 t3 t4 K h => fnPt Try.prog [18, 20, 22, 24, 34, 35, 36, 40, 1000014, 1000016, 1000017, 1000033, 1000028, 1000013] Try.f58 slices_pdqsortCmpFunc_int.ann [t0, t1, t2, t3, t4] K h) := by kernel_rfl
set_option maxRecDepth 100000 in
theorem slices_pdqsortCmpFunc_int.ok {t0 t1 t2 t3 t4 : Value} {K : Ret} {h : Heap} (hp : slices_pdqsortCmpFunc_int.pt t0 t1 t2 t3 t4 K h) : CallH Try.prog 58 #[t0, t1, t2, t3, t4] K h :=
  fn_sound (qs := [18, 20, 22, 24, 34, 35, 36, 40, 1000014, 1000016, 1000017, 1000033, 1000028, 1000013]) (fn := Try.f58) (ann := slices_pdqsortCmpFunc_int.ann) (args := [t0, t1, t2, t3, t4]) follows_mixed Try.func58 ((Eq.to_iff (congrFun (congrFun (congrFun (congrFun (congrFun (congrFun (congrFun (slices_pdqsortCmpFunc_int.eq) t0) t1) t2) t3) t4) K) h)).mp hp)

/-! ### math/bits.Len: function 59 -/
abbrev bits_Len.id : FuncId := 59
def bits_Len.ann : Ann := (.seq none .leaf (.seq none (.cond (.seq none .leaf .leaf) .leaf) (.seq none .leaf .leaf)))
set_option maxRecDepth 100000 in
def bits_Len.pt (t0 : Value) (K : Ret) (h : Heap) : Prop :=
 If (.bool false) (
 go (Cvt .u32 t0) h fun t4 h =>
 go (CallF Try.prog 69 [t4]) h fun t5 h =>
 K t5 h) (
 go (CallF Try.prog 70 [t0]) h fun t7 h =>
 K t7 h)
set_option maxRecDepth 100000 in
theorem bits_Len.eq : (fun t0 K h => bits_Len.pt t0 K h : Value → Ret → Heap → Prop) = (fun t0 K h => fnPt Try.prog [18, 20, 22, 24, 34, 35, 36, 40, 1000014, 1000016, 1000017, 1000033, 1000028, 1000013] Try.f59 bits_Len.ann [t0] K h) := by kernel_rfl
set_option maxRecDepth 100000 in
theorem bits_Len.ok {t0 : Value} {K : Ret} {h : Heap} (hp : bits_Len.pt t0 K h) : CallH Try.prog 59 #[t0] K h :=
  fn_sound (qs := [18, 20, 22, 24, 34, 35, 36, 40, 1000014, 1000016, 1000017, 1000033, 1000028, 1000013]) (fn := Try.f59) (ann := bits_Len.ann) (args := [t0]) follows_mixed Try.func59 ((Eq.to_iff (congrFun (congrFun (congrFun (bits_Len.eq) t0) K) h)).mp hp)

/-! ### cmp.Compare[int]: function 60 -/
abbrev cmp_Compare_int.id : FuncId := 60
def cmp_Compare_int.ann : Ann := (.seq none .leaf (.seq none .leaf (.seq none .leaf (.seq none (.seq none .leaf (.cond (.seq none (.seq none .leaf (.cond (.seq none .leaf .leaf) .leaf)) (.seq none .leaf .leaf)) .leaf)) (.seq none (.seq none .leaf (.cond (.seq none .leaf .leaf) .leaf)) (.seq none (.seq none .leaf (.cond (.seq none .leaf .leaf) .leaf)) (.seq none (.seq none .leaf (.cond (.seq none .leaf .leaf) .leaf)) (.seq none .leaf .leaf))))))))
set_option maxRecDepth 100000 in
def cmp_Compare_int.pt (t0 t1 : Value) (K : Ret) (h : Heap) : Prop :=
 go (CallF Try.prog 71 [t0]) h fun t8 h =>
 go (CallF Try.prog 71 [t1]) h fun t10 h =>
 If t8 (
 If t10 (
 K (.int .i64 0) h) (
 K (.int .i64 (-1)) h)) (
 If t10 (
 K (.int .i64 1) h) (
 go (Bin .int .lss t0 t1) h fun t16 h =>
 If t16 (
 K (.int .i64 (-1)) h) (
 go (Bin .int .gtr t0 t1) h fun t19 h =>
 If t19 (
 K (.int .i64 1) h) (
 K (.int .i64 0) h))))
set_option maxRecDepth 100000 in
theorem cmp_Compare_int.eq : (fun t0 t1 K h => cmp_Compare_int.pt t0 t1 K h : Value → Value → Ret → Heap → Prop) = (fun t0 t1 K h => fnPt Try.prog [18, 20, 22, 24, 34, 35, 36, 40, 1000014, 1000016, 1000017, 1000033, 1000028, 1000013] Try.f60 cmp_Compare_int.ann [t0, t1] K h) := by kernel_rfl
set_option maxRecDepth 100000 in
theorem cmp_Compare_int.ok {t0 t1 : Value} {K : Ret} {h : Heap} (hp : cmp_Compare_int.pt t0 t1 K h) : CallH Try.prog 60 #[t0, t1] K h :=
  fn_sound (qs := [18, 20, 22, 24, 34, 35, 36, 40, 1000014, 1000016, 1000017, 1000033, 1000028, 1000013]) (fn := Try.f60) (ann := cmp_Compare_int.ann) (args := [t0, t1]) follows_mixed Try.func60 ((Eq.to_iff (congrFun (congrFun (congrFun (congrFun (cmp_Compare_int.eq) t0) t1) K) h)).mp hp)

/-! ### slices.insertionSortCmpFunc[int]: function 61 -/
abbrev slices_insertionSortCmpFunc_int.id : FuncId := 61
def slices_insertionSortCmpFunc_int.ann : Ann := (.seq none .leaf (.block (.loop [0, 1, 2, 3, 8] (.seq none (.seq none .leaf (.cond .leaf .leaf)) (.seq none (.block (.seq none .leaf (.block (.loop [0, 1, 2, 3, 8, 9] (.seq none (.seq none .leaf (.cond .leaf .leaf)) (.seq none (.block .leaf) .leaf)))))) .leaf)))))
set_option maxRecDepth 100000 in
def slices_insertionSortCmpFunc_int.pt (t0 t1 t2 t3 : Value) (K : Ret) (h : Heap) : Prop :=
 go (Bin .int .add t1 (.int .i64 1)) h fun t11 h =>
 Lp 5 (fun X1 t0_1 t1_1 t2_1 t3_1 t8 h =>
 go (Bin .int .lss t8 t2_1) h fun t14 h =>
 If t14 (
 Lp 6 (fun X2 t0_2 t1_2 t2_2 t3_2 t8_1 t9 h =>
 go (Bin .int .gtr t9 t1_2) h fun t20 h =>
 go (Gd t20 true (Mv t3_2)) h fun t22 h =>
 go (Gd t20 true (Mv t0_2)) h fun t23 h =>
 go (Gd t20 true (Mv t9)) h fun t24 h =>
 go (Gd t20 true (Idx 1 t23 t24)) h fun t25 h =>
 go (Gd t20 true (Ld t25)) h fun t26 h =>
 go (Gd t20 true (Mv t0_2)) h fun t27 h =>
 go (Gd t20 true (Mv t9)) h fun t28 h =>
 go (Gd t20 true (Bin .int .sub t28 (.int .i64 1))) h fun t29 h =>
 go (Gd t20 true (Idx 1 t27 t29)) h fun t30 h =>
 go (Gd t20 true (Ld t30)) h fun t31 h =>
 go (Gd t20 true (CallV Try.prog t22 [t26, t31])) h fun t32 h =>
 go (Gd t20 true (Bin .int .lss t32 (.int .i64 0))) h fun t33 h =>
 go (Pick t20 t33 (.bool false)) h fun t34 h =>
 If t34 (
 go (Bin .int .sub t9 (.int .i64 1)) h fun t41 h =>
 go (Bin .int .sub t9 (.int .i64 1)) h fun t44 h =>
 go (Idx 1 t0_2 t44) h fun t45 h =>
 go (Ld t45) h fun t46 h =>
 go (Idx 1 t0_2 t9) h fun t49 h =>
 go (Ld t49) h fun t50 h =>
 go (Idx 1 t0_2 t9) h fun t51 h =>
 go (St t51 t46) h fun _ h =>
 go (Idx 1 t0_2 t41) h fun t52 h =>
 go (St t52 t50) h fun _ h =>
 go (Bin .int .sub t9 (.int .i64 1)) h fun t36 h =>
 X2 t0_2 t1_2 t2_2 t3_2 t8_1 t36 h) (
 go (Bin .int .add t8_1 (.int .i64 1)) h fun t16 h =>
 X1 t0_2 t1_2 t2_2 t3_2 t16 h)) [t0_1, t1_1, t2_1, t3_1, t8, t8] h) (
 K (.tuple #[]) h)) [t0, t1, t2, t3, t11] h
set_option maxRecDepth 100000 in
theorem slices_insertionSortCmpFunc_int.eq : (fun t0 t1 t2 t3 K h => slices_insertionSortCmpFunc_int.pt t0 t1 t2 t3 K h : Value → Value → Value → Value → Ret → Heap → Prop) = (fun t0 t1 t2 t3 K h => fnPt Try.prog [18, 20, 22, 24, 34, 35, 36, 40, 1000014, 1000016, 1000017, 1000033, 1000028, 1000013] Try.f61 slices_insertionSortCmpFunc_int.ann [t0, t1, t2, t3] K h) := by kernel_rfl
set_option maxRecDepth 100000 in
theorem slices_insertionSortCmpFunc_int.ok {t0 t1 t2 t3 : Value} {K : Ret} {h : Heap} (hp : slices_insertionSortCmpFunc_int.pt t0 t1 t2 t3 K h) : CallH Try.prog 61 #[t0, t1, t2, t3] K h :=
  fn_sound (qs := [18, 20, 22, 24, 34, 35, 36, 40, 1000014, 1000016, 1000017, 1000033, 1000028, 1000013]) (fn := Try.f61) (ann := slices_insertionSortCmpFunc_int.ann) (args := [t0, t1, t2, t3]) follows_mixed Try.func61 ((Eq.to_iff (congrFun (congrFun (congrFun (congrFun (congrFun (congrFun (slices_insertionSortCmpFunc_int.eq) t0) t1) t2) t3) K) h)).mp hp)

/-! ### slices.heapSortCmpFunc[int]: function 62 -/
abbrev slices_heapSortCmpFunc_int.id : FuncId := 62
def slices_heapSortCmpFunc_int.ann : Ann := (.seq none .leaf (.seq none .leaf (.seq none .leaf (.seq none (.seq none .leaf (.block (.loop [0, 3, 8, 9, 10, 11] (.seq none (.seq none .leaf (.cond .leaf .leaf)) (.seq none (.block .leaf) .leaf))))) (.seq none .leaf (.block (.loop [0, 3, 8, 9, 12] (.seq none (.seq none .leaf (.cond .leaf .leaf)) (.seq none (.block (.seq none .leaf .leaf)) .leaf)))))))))
set_option maxRecDepth 100000 in
def slices_heapSortCmpFunc_int.pt (t0 t1 t2 t3 : Value) (K : Ret) (h : Heap) : Prop :=
 go (Bin .int .sub t2 t1) h fun t16 h =>
 go (Bin .int .sub t16 (.int .i64 1)) h fun t18 h =>
 go (Bin .int .quo t18 (.int .i64 2)) h fun t19 h =>
 Lp 6 (fun X1 t0_1 t3_1 t8 t9 t10 t11 h =>
 go (Bin .int .geq t11 (.int .i64 0)) h fun t21 h =>
 If t21 (
 go (CallF Try.prog 72 [t0_1, t11, t10, t8, t3_1]) h fun t29 h =>
 go (Bin .int .sub t11 (.int .i64 1)) h fun t23 h =>
 X1 t0_1 t3_1 t8 t9 t10 t23 h) (
 go (Bin .int .sub t10 (.int .i64 1)) h fun t31 h =>
 Lp 5 (fun X2 t0_2 t3_2 t8_1 t9_1 t12 h =>
 go (Bin .int .geq t12 (.int .i64 0)) h fun t33 h =>
 If t33 (
 go (Bin .int .add t8_1 t12) h fun t41 h =>
 go (Bin .int .add t8_1 t12) h fun t45 h =>
 go (Idx 1 t0_2 t45) h fun t46 h =>
 go (Ld t46) h fun t47 h =>
 go (Idx 1 t0_2 t8_1) h fun t50 h =>
 go (Ld t50) h fun t51 h =>
 go (Idx 1 t0_2 t8_1) h fun t52 h =>
 go (St t52 t47) h fun _ h =>
 go (Idx 1 t0_2 t41) h fun t53 h =>
 go (St t53 t51) h fun _ h =>
 go (CallF Try.prog 72 [t0_2, t9_1, t12, t8_1, t3_2]) h fun t59 h =>
 go (Bin .int .sub t12 (.int .i64 1)) h fun t35 h =>
 X2 t0_2 t3_2 t8_1 t9_1 t35 h) (
 K (.tuple #[]) h)) [t0_1, t3_1, t8, t9, t31] h)) [t0, t3, t1, (.int .i64 0), t16, t19] h
set_option maxRecDepth 100000 in
theorem slices_heapSortCmpFunc_int.eq : (fun t0 t1 t2 t3 K h => slices_heapSortCmpFunc_int.pt t0 t1 t2 t3 K h : Value → Value → Value → Value → Ret → Heap → Prop) = (fun t0 t1 t2 t3 K h => fnPt Try.prog [18, 20, 22, 24, 34, 35, 36, 40, 1000014, 1000016, 1000017, 1000033, 1000028, 1000013] Try.f62 slices_heapSortCmpFunc_int.ann [t0, t1, t2, t3] K h) := by kernel_rfl
set_option maxRecDepth 100000 in
theorem slices_heapSortCmpFunc_int.ok {t0 t1 t2 t3 : Value} {K : Ret} {h : Heap} (hp : slices_heapSortCmpFunc_int.pt t0 t1 t2 t3 K h) : CallH Try.prog 62 #[t0, t1, t2, t3] K h :=
  fn_sound (qs := [18, 20, 22, 24, 34, 35, 36, 40, 1000014, 1000016, 1000017, 1000033, 1000028, 1000013]) (fn := Try.f62) (ann := slices_heapSortCmpFunc_int.ann) (args := [t0, t1, t2, t3]) follows_mixed Try.func62 ((Eq.to_iff (congrFun (congrFun (congrFun (congrFun (congrFun (congrFun (slices_heapSortCmpFunc_int.eq) t0) t1) t2) t3) K) h)).mp hp)

/-! ### slices.breakPatternsCmpFunc[int]: function 63 -/
abbrev slices_breakPatternsCmpFunc_int.id : FuncId := 63
def slices_breakPatternsCmpFunc_int.ann : Ann := (.seq none .leaf (.seq none .leaf (.cond (.seq none .leaf (.seq none .leaf (.seq none .leaf (.block (.loop [0, 1, 8, 9, 10, 11] (.seq none (.seq none .leaf (.cond .leaf .leaf)) (.seq none (.block (.seq none .leaf (.seq (some [0, 1, 8, 9, 10, 11, 12]) (.seq none .leaf (.cond .leaf .leaf)) .leaf))) .leaf))))))) .leaf)))
set_option maxRecDepth 100000 in
def slices_breakPatternsCmpFunc_int.pt (t0 t1 t2 t3 : Value) (K : Ret) (h : Heap) : Prop :=
 go (Bin .int .sub t2 t1) h fun t15 h =>
 go (Bin .int .geq t15 (.int .i64 8)) h fun t17 h =>
 If t17 (
 go (Cvt .u64 t15) h fun t19 h =>
 go (New #[(.int .u64 0)] 117) h fun t9 h =>
 go (St t9 t19) h fun _ h =>
 go (CallF Try.prog 73 [t15]) h fun t21 h =>
 go (Bin .int .quo t15 (.int .i64 4)) h fun t24 h =>
 go (Bin .int .mul t24 (.int .i64 2)) h fun t25 h =>
 go (Bin .int .add t1 t25) h fun t26 h =>
 go (Bin .int .sub t26 (.int .i64 1)) h fun t27 h =>
 Lp 6 (fun X1 t0_1 t1_1 t8 t9_1 t10 t11 h =>
 go (Bin .int .quo t8 (.int .i64 4)) h fun t31 h =>
 go (Bin .int .mul t31 (.int .i64 2)) h fun t32 h =>
 go (Bin .int .add t1_1 t32) h fun t33 h =>
 go (Bin .int .add t33 (.int .i64 1)) h fun t34 h =>
 go (Bin .int .leq t11 t34) h fun t35 h =>
 If t35 (
 go (CallF Try.prog 74 [t9_1]) h fun t38 h =>
 go (Bin .int .sub t10 (.int .u64 1)) h fun t40 h =>
 go (Bin .int .and t38 t40) h fun t41 h =>
 go (Cvt .i64 t41) h fun t42 h =>
 Join 7 (fun J2 =>
 go (Bin .int .geq t42 t8) h fun t45 h =>
 If t45 (
 go (Bin .int .sub t42 t8) h fun t48 h =>
 J2 t0_1 t1_1 t8 t9_1 t10 t11 t48 h) (
 J2 t0_1 t1_1 t8 t9_1 t10 t11 t42 h)) (fun t0_2 t1_2 t8_1 t9_2 t10_1 t11_1 t12 h =>
 go (Bin .int .add t1_2 t12) h fun t54 h =>
 go (Bin .int .add t1_2 t12) h fun t58 h =>
 go (Idx 1 t0_2 t58) h fun t59 h =>
 go (Ld t59) h fun t60 h =>
 go (Idx 1 t0_2 t11_1) h fun t63 h =>
 go (Ld t63) h fun t64 h =>
 go (Idx 1 t0_2 t11_1) h fun t65 h =>
 go (St t65 t60) h fun _ h =>
 go (Idx 1 t0_2 t54) h fun t66 h =>
 go (St t66 t64) h fun _ h =>
 go (Bin .int .add t11_1 (.int .i64 1)) h fun t37 h =>
 X1 t0_2 t1_2 t8_1 t9_2 t10_1 t37 h)) (
 K (.tuple #[]) h)) [t0, t1, t15, t9, t21, t27] h) (
 K (.tuple #[]) h)
set_option maxRecDepth 100000 in
theorem slices_breakPatternsCmpFunc_int.eq : (fun t0 t1 t2 t3 K h => slices_breakPatternsCmpFunc_int.pt t0 t1 t2 t3 K h : Value → Value → Value → Value → Ret → Heap → Prop) = (fun t0 t1 t2 t3 K h => fnPt Try.prog [18, 20, 22, 24, 34, 35, 36, 40, 1000014, 1000016, 1000017, 1000033, 1000028, 1000013] Try.f63 slices_breakPatternsCmpFunc_int.ann [t0, t1, t2, t3] K h) := by kernel_rfl
set_option maxRecDepth 100000 in
theorem slices_breakPatternsCmpFunc_int.ok {t0 t1 t2 t3 : Value} {K : Ret} {h : Heap} (hp : slices_breakPatternsCmpFunc_int.pt t0 t1 t2 t3 K h) : CallH Try.prog 63 #[t0, t1, t2, t3] K h :=
  fn_sound (qs := [18, 20, 22, 24, 34, 35, 36, 40, 1000014, 1000016, 1000017, 1000033, 1000028, 1000013]) (fn := Try.f63) (ann := slices_breakPatternsCmpFunc_int.ann) (args := [t0, t1, t2, t3]) follows_mixed Try.func63 ((Eq.to_iff (congrFun (congrFun (congrFun (congrFun (congrFun (congrFun (slices_breakPatternsCmpFunc_int.eq) t0) t1) t2) t3) K) h)).mp hp)

/-! ### slices.choosePivotCmpFunc[int]: function 64 -/
abbrev slices_choosePivotCmpFunc_int.id : FuncId := 64
def slices_choosePivotCmpFunc_int.ann : Ann := (.seq none .leaf (.seq none .leaf (.seq none .leaf (.seq none .leaf (.seq none .leaf (.seq none .leaf (.seq (some [11, 13]) (.seq none .leaf (.cond (.seq (some [0, 3, 11, 12, 13, 14]) (.seq none .leaf (.cond (.seq none .leaf (.seq none .leaf .leaf)) .leaf)) .leaf) .leaf)) (.seq none .leaf (.block (.seq none .leaf (.cond (.seq none .leaf .leaf) (.seq none .leaf (.cond (.seq none .leaf .leaf) (.seq none .leaf .leaf))))))))))))))
set_option maxRecDepth 100000 in
def slices_choosePivotCmpFunc_int.pt (t0 t1 t2 t3 : Value) (K : Ret) (h : Heap) : Prop :=
 go (Bin .int .sub t2 t1) h fun t17 h =>
 go (New #[(.int .i64 0)] 3) h fun t11 h =>
 go (Bin .int .quo t17 (.int .i64 4)) h fun t20 h =>
 go (Bin .int .mul t20 (.int .i64 1)) h fun t21 h =>
 go (Bin .int .add t1 t21) h fun t22 h =>
 go (Bin .int .quo t17 (.int .i64 4)) h fun t25 h =>
 go (Bin .int .mul t25 (.int .i64 2)) h fun t26 h =>
 go (Bin .int .add t1 t26) h fun t27 h =>
 go (Bin .int .quo t17 (.int .i64 4)) h fun t30 h =>
 go (Bin .int .mul t30 (.int .i64 3)) h fun t31 h =>
 go (Bin .int .add t1 t31) h fun t32 h =>
 Join 2 (fun J1 =>
 go (Bin .int .geq t17 (.int .i64 8)) h fun t34 h =>
 If t34 (
 Join 6 (fun J2 =>
 go (Bin .int .geq t17 (.int .i64 50)) h fun t36 h =>
 If t36 (
 go (CallF Try.prog 75 [t0, t22, t11, t3]) h fun t40 h =>
 go (CallF Try.prog 75 [t0, t27, t11, t3]) h fun t44 h =>
 go (CallF Try.prog 75 [t0, t32, t11, t3]) h fun t48 h =>
 J2 t0 t3 t11 t40 t44 t48 h) (
 J2 t0 t3 t11 t22 t27 t32 h)) (fun t0_1 t3_1 t11_1 t12 t13 t14 h =>
 go (CallF Try.prog 76 [t0_1, t12, t13, t14, t11_1, t3_1]) h fun t54 h =>
 J1 t11_1 t54 h)) (
 J1 t11 t27 h)) (fun t11_2 t13_1 h =>
 go (Ld t11_2) h fun t55 h =>
 go (Bin .int .eql t55 (.int .i64 0)) h fun t58 h =>
 If t58 (
 K (.tuple #[t13_1, (.int .i64 1)]) h) (
 go (Bin .int .eql t55 (.int .i64 12)) h fun t61 h =>
 If t61 (
 K (.tuple #[t13_1, (.int .i64 2)]) h) (
 K (.tuple #[t13_1, (.int .i64 0)]) h)))
set_option maxRecDepth 100000 in
theorem slices_choosePivotCmpFunc_int.eq : (fun t0 t1 t2 t3 K h => slices_choosePivotCmpFunc_int.pt t0 t1 t2 t3 K h : Value → Value → Value → Value → Ret → Heap → Prop) = (fun t0 t1 t2 t3 K h => fnPt Try.prog [18, 20, 22, 24, 34, 35, 36, 40, 1000014, 1000016, 1000017, 1000033, 1000028, 1000013] Try.f64 slices_choosePivotCmpFunc_int.ann [t0, t1, t2, t3] K h) := by kernel_rfl
set_option maxRecDepth 100000 in
theorem slices_choosePivotCmpFunc_int.ok {t0 t1 t2 t3 : Value} {K : Ret} {h : Heap} (hp : slices_choosePivotCmpFunc_int.pt t0 t1 t2 t3 K h) : CallH Try.prog 64 #[t0, t1, t2, t3] K h :=
  fn_sound (qs := [18, 20, 22, 24, 34, 35, 36, 40, 1000014, 1000016, 1000017, 1000033, 1000028, 1000013]) (fn := Try.f64) (ann := slices_choosePivotCmpFunc_int.ann) (args := [t0, t1, t2, t3]) follows_mixed Try.func64 ((Eq.to_iff (congrFun (congrFun (congrFun (congrFun (congrFun (congrFun (slices_choosePivotCmpFunc_int.eq) t0) t1) t2) t3) K) h)).mp hp)

/-! ### slices.reverseRangeCmpFunc[int]: function 65 -/
abbrev slices_reverseRangeCmpFunc_int.id : FuncId := 65
def slices_reverseRangeCmpFunc_int.ann : Ann := (.seq none .leaf (.seq none .leaf (.block (.loop [0, 8, 9] (.seq none (.seq none .leaf (.cond .leaf .leaf)) (.block (.seq none .leaf (.seq none .leaf .leaf))))))))
set_option maxRecDepth 100000 in
def slices_reverseRangeCmpFunc_int.pt (t0 t1 t2 t3 : Value) (K : Ret) (h : Heap) : Prop :=
 go (Bin .int .sub t2 (.int .i64 1)) h fun t12 h =>
 Lp 3 (fun X1 t0_1 t8 t9 h =>
 go (Bin .int .lss t8 t9) h fun t15 h =>
 If t15 (
 go (Idx 1 t0_1 t9) h fun t22 h =>
 go (Ld t22) h fun t23 h =>
 go (Idx 1 t0_1 t8) h fun t26 h =>
 go (Ld t26) h fun t27 h =>
 go (Idx 1 t0_1 t8) h fun t28 h =>
 go (St t28 t23) h fun _ h =>
 go (Idx 1 t0_1 t9) h fun t29 h =>
 go (St t29 t27) h fun _ h =>
 go (Bin .int .add t8 (.int .i64 1)) h fun t31 h =>
 go (Bin .int .sub t9 (.int .i64 1)) h fun t33 h =>
 X1 t0_1 t31 t33 h) (
 K (.tuple #[]) h)) [t0, t1, t12] h
set_option maxRecDepth 100000 in
theorem slices_reverseRangeCmpFunc_int.eq : (fun t0 t1 t2 t3 K h => slices_reverseRangeCmpFunc_int.pt t0 t1 t2 t3 K h : Value → Value → Value → Value → Ret → Heap → Prop) = (fun t0 t1 t2 t3 K h => fnPt Try.prog [18, 20, 22, 24, 34, 35, 36, 40, 1000014, 1000016, 1000017, 1000033, 1000028, 1000013] Try.f65 slices_reverseRangeCmpFunc_int.ann [t0, t1, t2, t3] K h) := by kernel_rfl
set_option maxRecDepth 100000 in
theorem slices_reverseRangeCmpFunc_int.ok {t0 t1 t2 t3 : Value} {K : Ret} {h : Heap} (hp : slices_reverseRangeCmpFunc_int.pt t0 t1 t2 t3 K h) : CallH Try.prog 65 #[t0, t1, t2, t3] K h :=
  fn_sound (qs := [18, 20, 22, 24, 34, 35, 36, 40, 1000014, 1000016, 1000017, 1000033, 1000028, 1000013]) (fn := Try.f65) (ann := slices_reverseRangeCmpFunc_int.ann) (args := [t0, t1, t2, t3]) follows_mixed Try.func65 ((Eq.to_iff (congrFun (congrFun (congrFun (congrFun (congrFun (congrFun (slices_reverseRangeCmpFunc_int.eq) t0) t1) t2) t3) K) h)).mp hp)

/-! ### slices.partialInsertionSortCmpFunc[int]: function 66 -/
abbrev slices_partialInsertionSortCmpFunc_int.id : FuncId := 66
def slices_partialInsertionSortCmpFunc_int.ann : Ann := (.seq none .leaf (.seq none .leaf (.seq none (.seq none .leaf (.block (.loop [0, 1, 2, 3, 9, 10] (.seq none (.seq none .leaf (.cond .leaf .leaf)) (.seq (some [0, 1, 2, 3, 9, 10]) (.block (.seq none (.block (.loop [0, 1, 2, 3, 9, 10] (.seq none (.seq none .leaf (.cond .leaf .leaf)) (.block .leaf)))) (.seq none (.seq none .leaf (.cond (.seq none .leaf .leaf) .leaf)) (.seq none (.seq none .leaf (.cond (.seq none .leaf .leaf) .leaf)) (.seq none .leaf (.seq (some [0, 1, 2, 3, 9, 10]) (.seq none .leaf (.cond (.seq none .leaf (.block (.loop [0, 1, 2, 3, 9, 10, 11] (.seq none (.seq none .leaf (.cond .leaf .leaf)) (.seq none (.block (.seq none (.seq none .leaf (.cond .leaf .leaf)) .leaf)) .leaf))))) .leaf)) (.seq none .leaf (.cond (.seq none .leaf (.block (.loop [0, 1, 2, 3, 9, 10, 12] (.seq none (.seq none .leaf (.cond .leaf .leaf)) (.seq none (.block (.seq none (.seq none .leaf (.cond .leaf .leaf)) .leaf)) .leaf))))) .leaf)))))))) .leaf))))) (.seq none .leaf .leaf))))
set_option maxRecDepth 100000 in
def slices_partialInsertionSortCmpFunc_int.pt (t0 t1 t2 t3 : Value) (K : Ret) (h : Heap) : Prop :=
 go (Bin .int .add t1 (.int .i64 1)) h fun t14 h =>
 Lp 6 (fun X1 t0_1 t1_1 t2_1 t3_1 t9 t10 h =>
 go (Bin .int .lss t10 (.int .i64 5)) h fun t16 h =>
 If t16 (
 Join 6 (fun J2 =>
 Lp 6 (fun X3 t0_2 t1_2 t2_2 t3_2 t9_1 t10_1 h =>
 go (Bin .int .lss t9_1 t2_2) h fun t21 h =>
 go (Gd t21 true (Mv t3_2)) h fun t23 h =>
 go (Gd t21 true (Mv t0_2)) h fun t24 h =>
 go (Gd t21 true (Mv t9_1)) h fun t25 h =>
 go (Gd t21 true (Idx 1 t24 t25)) h fun t26 h =>
 go (Gd t21 true (Ld t26)) h fun t27 h =>
 go (Gd t21 true (Mv t0_2)) h fun t28 h =>
 go (Gd t21 true (Mv t9_1)) h fun t29 h =>
 go (Gd t21 true (Bin .int .sub t29 (.int .i64 1))) h fun t30 h =>
 go (Gd t21 true (Idx 1 t28 t30)) h fun t31 h =>
 go (Gd t21 true (Ld t31)) h fun t32 h =>
 go (Gd t21 true (CallV Try.prog t23 [t27, t32])) h fun t33 h =>
 go (Gd t21 true (Bin .int .lss t33 (.int .i64 0))) h fun t34 h =>
 go (Gd t21 true (Un .not t34)) h fun t35 h =>
 go (Pick t21 t35 (.bool false)) h fun t36 h =>
 If t36 (
 go (Bin .int .add t9_1 (.int .i64 1)) h fun t38 h =>
 X3 t0_2 t1_2 t2_2 t3_2 t38 t10_1 h) (
 go (Bin .int .eql t9_1 t2_2) h fun t41 h =>
 If t41 (
 K (.bool true) h) (
 go (Bin .int .sub t2_2 t1_2) h fun t44 h =>
 go (Bin .int .lss t44 (.int .i64 50)) h fun t45 h =>
 If t45 (
 K (.bool false) h) (
 go (Bin .int .sub t9_1 (.int .i64 1)) h fun t50 h =>
 go (Bin .int .sub t9_1 (.int .i64 1)) h fun t53 h =>
 go (Idx 1 t0_2 t53) h fun t54 h =>
 go (Ld t54) h fun t55 h =>
 go (Idx 1 t0_2 t9_1) h fun t58 h =>
 go (Ld t58) h fun t59 h =>
 go (Idx 1 t0_2 t9_1) h fun t60 h =>
 go (St t60 t55) h fun _ h =>
 go (Idx 1 t0_2 t50) h fun t61 h =>
 go (St t61 t59) h fun _ h =>
 Join 6 (fun J4 =>
 go (Bin .int .sub t9_1 t1_2) h fun t64 h =>
 go (Bin .int .geq t64 (.int .i64 2)) h fun t65 h =>
 If t65 (
 go (Bin .int .sub t9_1 (.int .i64 1)) h fun t67 h =>
 Lp 7 (fun X5 t0_3 t1_3 t2_3 t3_3 t9_2 t10_2 t11 h =>
 go (Bin .int .geq t11 (.int .i64 1)) h fun t69 h =>
 If t69 (
 go (Idx 1 t0_3 t11) h fun t75 h =>
 go (Ld t75) h fun t76 h =>
 go (Bin .int .sub t11 (.int .i64 1)) h fun t79 h =>
 go (Idx 1 t0_3 t79) h fun t80 h =>
 go (Ld t80) h fun t81 h =>
 go (CallV Try.prog t3_3 [t76, t81]) h fun t82 h =>
 go (Bin .int .lss t82 (.int .i64 0)) h fun t83 h =>
 go (Un .not t83) h fun t84 h =>
 If t84 (
 J4 t0_3 t1_3 t2_3 t3_3 t9_2 t10_2 h) (
 go (Bin .int .sub t11 (.int .i64 1)) h fun t89 h =>
 go (Bin .int .sub t11 (.int .i64 1)) h fun t92 h =>
 go (Idx 1 t0_3 t92) h fun t93 h =>
 go (Ld t93) h fun t94 h =>
 go (Idx 1 t0_3 t11) h fun t97 h =>
 go (Ld t97) h fun t98 h =>
 go (Idx 1 t0_3 t11) h fun t99 h =>
 go (St t99 t94) h fun _ h =>
 go (Idx 1 t0_3 t89) h fun t100 h =>
 go (St t100 t98) h fun _ h =>
 go (Bin .int .sub t11 (.int .i64 1)) h fun t71 h =>
 X5 t0_3 t1_3 t2_3 t3_3 t9_2 t10_2 t71 h)) (
 J4 t0_3 t1_3 t2_3 t3_3 t9_2 t10_2 h)) [t0_2, t1_2, t2_2, t3_2, t9_1, t10_1, t67] h) (
 J4 t0_2 t1_2 t2_2 t3_2 t9_1 t10_1 h)) (fun t0_4 t1_4 t2_4 t3_4 t9_3 t10_3 h =>
 go (Bin .int .sub t2_4 t9_3) h fun t103 h =>
 go (Bin .int .geq t103 (.int .i64 2)) h fun t104 h =>
 If t104 (
 go (Bin .int .add t9_3 (.int .i64 1)) h fun t106 h =>
 Lp 7 (fun X6 t0_5 t1_5 t2_5 t3_5 t9_4 t10_4 t12 h =>
 go (Bin .int .lss t12 t2_5) h fun t109 h =>
 If t109 (
 go (Idx 1 t0_5 t12) h fun t115 h =>
 go (Ld t115) h fun t116 h =>
 go (Bin .int .sub t12 (.int .i64 1)) h fun t119 h =>
 go (Idx 1 t0_5 t119) h fun t120 h =>
 go (Ld t120) h fun t121 h =>
 go (CallV Try.prog t3_5 [t116, t121]) h fun t122 h =>
 go (Bin .int .lss t122 (.int .i64 0)) h fun t123 h =>
 go (Un .not t123) h fun t124 h =>
 If t124 (
 J2 t0_5 t1_5 t2_5 t3_5 t9_4 t10_4 h) (
 go (Bin .int .sub t12 (.int .i64 1)) h fun t129 h =>
 go (Bin .int .sub t12 (.int .i64 1)) h fun t132 h =>
 go (Idx 1 t0_5 t132) h fun t133 h =>
 go (Ld t133) h fun t134 h =>
 go (Idx 1 t0_5 t12) h fun t137 h =>
 go (Ld t137) h fun t138 h =>
 go (Idx 1 t0_5 t12) h fun t139 h =>
 go (St t139 t134) h fun _ h =>
 go (Idx 1 t0_5 t129) h fun t140 h =>
 go (St t140 t138) h fun _ h =>
 go (Bin .int .add t12 (.int .i64 1)) h fun t111 h =>
 X6 t0_5 t1_5 t2_5 t3_5 t9_4 t10_4 t111 h)) (
 J2 t0_5 t1_5 t2_5 t3_5 t9_4 t10_4 h)) [t0_4, t1_4, t2_4, t3_4, t9_3, t10_3, t106] h) (
 J2 t0_4 t1_4 t2_4 t3_4 t9_3 t10_3 h)))))) [t0_1, t1_1, t2_1, t3_1, t9, t10] h) (fun t0_6 t1_6 t2_6 t3_6 t9_5 t10_5 h =>
 go (Bin .int .add t10_5 (.int .i64 1)) h fun t18 h =>
 X1 t0_6 t1_6 t2_6 t3_6 t9_5 t18 h)) (
 K (.bool false) h)) [t0, t1, t2, t3, t14, (.int .i64 0)] h
set_option maxRecDepth 100000 in
theorem slices_partialInsertionSortCmpFunc_int.eq : (fun t0 t1 t2 t3 K h => slices_partialInsertionSortCmpFunc_int.pt t0 t1 t2 t3 K h : Value → Value → Value → Value → Ret → Heap → Prop) = (fun t0 t1 t2 t3 K h => fnPt Try.prog [18, 20, 22, 24, 34, 35, 36, 40, 1000014, 1000016, 1000017, 1000033, 1000028, 1000013] Try.f66 slices_partialInsertionSortCmpFunc_int.ann [t0, t1, t2, t3] K h) := by kernel_rfl
set_option maxRecDepth 100000 in
theorem slices_partialInsertionSortCmpFunc_int.ok {t0 t1 t2 t3 : Value} {K : Ret} {h : Heap} (hp : slices_partialInsertionSortCmpFunc_int.pt t0 t1 t2 t3 K h) : CallH Try.prog 66 #[t0, t1, t2, t3] K h :=
  fn_sound (qs := [18, 20, 22, 24, 34, 35, 36, 40, 1000014, 1000016, 1000017, 1000033, 1000028, 1000013]) (fn := Try.f66) (ann := slices_partialInsertionSortCmpFunc_int.ann) (args := [t0, t1, t2, t3]) follows_mixed Try.func66 ((Eq.to_iff (congrFun (congrFun (congrFun (congrFun (congrFun (congrFun (slices_partialInsertionSortCmpFunc_int.eq) t0) t1) t2) t3) K) h)).mp hp)

/-! ### slices.partitionEqualCmpFunc[int]: function 67 -/
abbrev slices_partitionEqualCmpFunc_int.id : FuncId := 67
def slices_partitionEqualCmpFunc_int.ann : Ann := (.seq none .leaf (.seq none .leaf (.seq none .leaf (.seq none (.block (.loop [0, 1, 4, 11, 12] (.block (.seq none (.block (.loop [0, 1, 4, 11, 12] (.seq none (.seq none .leaf (.cond .leaf .leaf)) (.block .leaf)))) (.seq none (.block (.loop [0, 1, 4, 11, 12] (.seq none (.seq none .leaf (.cond .leaf .leaf)) (.block .leaf)))) (.seq none (.seq none .leaf (.cond .leaf .leaf)) (.seq none .leaf (.seq none .leaf .leaf)))))))) (.seq none .leaf .leaf)))))
set_option maxRecDepth 100000 in
def slices_partitionEqualCmpFunc_int.pt (t0 t1 t2 t3 t4 : Value) (K : Ret) (h : Heap) : Prop :=
 go (Idx 1 t0 t3) h fun t19 h =>
 go (Ld t19) h fun t20 h =>
 go (Idx 1 t0 t1) h fun t23 h =>
 go (Ld t23) h fun t24 h =>
 go (Idx 1 t0 t1) h fun t25 h =>
 go (St t25 t20) h fun _ h =>
 go (Idx 1 t0 t3) h fun t26 h =>
 go (St t26 t24) h fun _ h =>
 go (Bin .int .add t1 (.int .i64 1)) h fun t28 h =>
 go (Bin .int .sub t2 (.int .i64 1)) h fun t30 h =>
 Lp 5 (fun X1 t0_1 t1_1 t4_1 t11 t12 h =>
 Lp 5 (fun X2 t0_2 t1_2 t4_2 t11_1 t12_1 h =>
 go (Bin .int .leq t11_1 t12_1) h fun t33 h =>
 go (Gd t33 true (Mv t4_2)) h fun t35 h =>
 go (Gd t33 true (Mv t0_2)) h fun t36 h =>
 go (Gd t33 true (Mv t1_2)) h fun t37 h =>
 go (Gd t33 true (Idx 1 t36 t37)) h fun t38 h =>
 go (Gd t33 true (Ld t38)) h fun t39 h =>
 go (Gd t33 true (Mv t0_2)) h fun t40 h =>
 go (Gd t33 true (Mv t11_1)) h fun t41 h =>
 go (Gd t33 true (Idx 1 t40 t41)) h fun t42 h =>
 go (Gd t33 true (Ld t42)) h fun t43 h =>
 go (Gd t33 true (CallV Try.prog t35 [t39, t43])) h fun t44 h =>
 go (Gd t33 true (Bin .int .lss t44 (.int .i64 0))) h fun t45 h =>
 go (Gd t33 true (Un .not t45)) h fun t46 h =>
 go (Pick t33 t46 (.bool false)) h fun t47 h =>
 If t47 (
 go (Bin .int .add t11_1 (.int .i64 1)) h fun t49 h =>
 X2 t0_2 t1_2 t4_2 t49 t12_1 h) (
 Lp 5 (fun X3 t0_3 t1_3 t4_3 t11_2 t12_2 h =>
 go (Bin .int .leq t11_2 t12_2) h fun t52 h =>
 go (Gd t52 true (Mv t4_3)) h fun t54 h =>
 go (Gd t52 true (Mv t0_3)) h fun t55 h =>
 go (Gd t52 true (Mv t1_3)) h fun t56 h =>
 go (Gd t52 true (Idx 1 t55 t56)) h fun t57 h =>
 go (Gd t52 true (Ld t57)) h fun t58 h =>
 go (Gd t52 true (Mv t0_3)) h fun t59 h =>
 go (Gd t52 true (Mv t12_2)) h fun t60 h =>
 go (Gd t52 true (Idx 1 t59 t60)) h fun t61 h =>
 go (Gd t52 true (Ld t61)) h fun t62 h =>
 go (Gd t52 true (CallV Try.prog t54 [t58, t62])) h fun t63 h =>
 go (Gd t52 true (Bin .int .lss t63 (.int .i64 0))) h fun t64 h =>
 go (Pick t52 t64 (.bool false)) h fun t65 h =>
 If t65 (
 go (Bin .int .sub t12_2 (.int .i64 1)) h fun t67 h =>
 X3 t0_3 t1_3 t4_3 t11_2 t67 h) (
 go (Bin .int .gtr t11_2 t12_2) h fun t70 h =>
 If t70 (
 K t11_2 h) (
 go (Idx 1 t0_3 t12_2) h fun t77 h =>
 go (Ld t77) h fun t78 h =>
 go (Idx 1 t0_3 t11_2) h fun t81 h =>
 go (Ld t81) h fun t82 h =>
 go (Idx 1 t0_3 t11_2) h fun t83 h =>
 go (St t83 t78) h fun _ h =>
 go (Idx 1 t0_3 t12_2) h fun t84 h =>
 go (St t84 t82) h fun _ h =>
 go (Bin .int .add t11_2 (.int .i64 1)) h fun t86 h =>
 go (Bin .int .sub t12_2 (.int .i64 1)) h fun t88 h =>
 X1 t0_3 t1_3 t4_3 t86 t88 h))) [t0_2, t1_2, t4_2, t11_1, t12_1] h)) [t0_1, t1_1, t4_1, t11, t12] h) [t0, t1, t4, t28, t30] h
set_option maxRecDepth 100000 in
theorem slices_partitionEqualCmpFunc_int.eq : (fun t0 t1 t2 t3 t4 K h => slices_partitionEqualCmpFunc_int.pt t0 t1 t2 t3 t4 K h : Value → Value → Value → Value → Value → Ret → Heap → Prop) = (fun t0 t1 t2 t3 t4 K h => fnPt Try.prog [18, 20, 22, 24, 34, 35, 36, 40, 1000014, 1000016, 1000017, 1000033, 1000028, 1000013] Try.f67 slices_partitionEqualCmpFunc_int.ann [t0, t1, t2, t3, t4] K h) := by kernel_rfl
set_option maxRecDepth 100000 in
theorem slices_partitionEqualCmpFunc_int.ok {t0 t1 t2 t3 t4 : Value} {K : Ret} {h : Heap} (hp : slices_partitionEqualCmpFunc_int.pt t0 t1 t2 t3 t4 K h) : CallH Try.prog 67 #[t0, t1, t2, t3, t4] K h :=
  fn_sound (qs := [18, 20, 22, 24, 34, 35, 36, 40, 1000014, 1000016, 1000017, 1000033, 1000028, 1000013]) (fn := Try.f67) (ann := slices_partitionEqualCmpFunc_int.ann) (args := [t0, t1, t2, t3, t4]) follows_mixed Try.func67 ((Eq.to_iff (congrFun (congrFun (congrFun (congrFun (congrFun (congrFun (congrFun (slices_partitionEqualCmpFunc_int.eq) t0) t1) t2) t3) t4) K) h)).mp hp)

/-! ### slices.partitionCmpFunc[int]: function 68 -/
abbrev slices_partitionCmpFunc_int.id : FuncId := 68
def slices_partitionCmpFunc_int.ann : Ann := (.seq none .leaf (.seq none .leaf (.seq none .leaf (.seq none (.block (.loop [0, 1, 4, 12, 13] (.seq none (.seq none .leaf (.cond .leaf .leaf)) (.block .leaf)))) (.seq none (.block (.loop [0, 1, 4, 12, 13] (.seq none (.seq none .leaf (.cond .leaf .leaf)) (.block .leaf)))) (.seq none (.seq none .leaf (.cond (.seq none .leaf (.seq none .leaf .leaf)) .leaf)) (.seq none .leaf (.seq none .leaf (.seq none .leaf (.seq none (.block (.loop [0, 1, 4, 12, 13] (.block (.seq none (.block (.loop [0, 1, 4, 12, 13] (.seq none (.seq none .leaf (.cond .leaf .leaf)) (.block .leaf)))) (.seq none (.block (.loop [0, 1, 4, 12, 13] (.seq none (.seq none .leaf (.cond .leaf .leaf)) (.block .leaf)))) (.seq none (.seq none .leaf (.cond .leaf .leaf)) (.seq none .leaf (.seq none .leaf .leaf)))))))) (.seq none .leaf (.seq none .leaf .leaf))))))))))))
set_option maxRecDepth 100000 in
def slices_partitionCmpFunc_int.pt (t0 t1 t2 t3 t4 : Value) (K : Ret) (h : Heap) : Prop :=
 go (Idx 1 t0 t3) h fun t20 h =>
 go (Ld t20) h fun t21 h =>
 go (Idx 1 t0 t1) h fun t24 h =>
 go (Ld t24) h fun t25 h =>
 go (Idx 1 t0 t1) h fun t26 h =>
 go (St t26 t21) h fun _ h =>
 go (Idx 1 t0 t3) h fun t27 h =>
 go (St t27 t25) h fun _ h =>
 go (Bin .int .add t1 (.int .i64 1)) h fun t29 h =>
 go (Bin .int .sub t2 (.int .i64 1)) h fun t31 h =>
 Lp 5 (fun X1 t0_1 t1_1 t4_1 t12 t13 h =>
 go (Bin .int .leq t12 t13) h fun t34 h =>
 go (Gd t34 true (Mv t4_1)) h fun t36 h =>
 go (Gd t34 true (Mv t0_1)) h fun t37 h =>
 go (Gd t34 true (Mv t12)) h fun t38 h =>
 go (Gd t34 true (Idx 1 t37 t38)) h fun t39 h =>
 go (Gd t34 true (Ld t39)) h fun t40 h =>
 go (Gd t34 true (Mv t0_1)) h fun t41 h =>
 go (Gd t34 true (Mv t1_1)) h fun t42 h =>
 go (Gd t34 true (Idx 1 t41 t42)) h fun t43 h =>
 go (Gd t34 true (Ld t43)) h fun t44 h =>
 go (Gd t34 true (CallV Try.prog t36 [t40, t44])) h fun t45 h =>
 go (Gd t34 true (Bin .int .lss t45 (.int .i64 0))) h fun t46 h =>
 go (Pick t34 t46 (.bool false)) h fun t47 h =>
 If t47 (
 go (Bin .int .add t12 (.int .i64 1)) h fun t49 h =>
 X1 t0_1 t1_1 t4_1 t49 t13 h) (
 Lp 5 (fun X2 t0_2 t1_2 t4_2 t12_1 t13_1 h =>
 go (Bin .int .leq t12_1 t13_1) h fun t52 h =>
 go (Gd t52 true (Mv t4_2)) h fun t54 h =>
 go (Gd t52 true (Mv t0_2)) h fun t55 h =>
 go (Gd t52 true (Mv t13_1)) h fun t56 h =>
 go (Gd t52 true (Idx 1 t55 t56)) h fun t57 h =>
 go (Gd t52 true (Ld t57)) h fun t58 h =>
 go (Gd t52 true (Mv t0_2)) h fun t59 h =>
 go (Gd t52 true (Mv t1_2)) h fun t60 h =>
 go (Gd t52 true (Idx 1 t59 t60)) h fun t61 h =>
 go (Gd t52 true (Ld t61)) h fun t62 h =>
 go (Gd t52 true (CallV Try.prog t54 [t58, t62])) h fun t63 h =>
 go (Gd t52 true (Bin .int .lss t63 (.int .i64 0))) h fun t64 h =>
 go (Gd t52 true (Un .not t64)) h fun t65 h =>
 go (Pick t52 t65 (.bool false)) h fun t66 h =>
 If t66 (
 go (Bin .int .sub t13_1 (.int .i64 1)) h fun t68 h =>
 X2 t0_2 t1_2 t4_2 t12_1 t68 h) (
 go (Bin .int .gtr t12_1 t13_1) h fun t71 h =>
 If t71 (
 go (Idx 1 t0_2 t1_2) h fun t78 h =>
 go (Ld t78) h fun t79 h =>
 go (Idx 1 t0_2 t13_1) h fun t82 h =>
 go (Ld t82) h fun t83 h =>
 go (Idx 1 t0_2 t13_1) h fun t84 h =>
 go (St t84 t79) h fun _ h =>
 go (Idx 1 t0_2 t1_2) h fun t85 h =>
 go (St t85 t83) h fun _ h =>
 K (.tuple #[t13_1, (.bool true)]) h) (
 go (Idx 1 t0_2 t13_1) h fun t93 h =>
 go (Ld t93) h fun t94 h =>
 go (Idx 1 t0_2 t12_1) h fun t97 h =>
 go (Ld t97) h fun t98 h =>
 go (Idx 1 t0_2 t12_1) h fun t99 h =>
 go (St t99 t94) h fun _ h =>
 go (Idx 1 t0_2 t13_1) h fun t100 h =>
 go (St t100 t98) h fun _ h =>
 go (Bin .int .add t12_1 (.int .i64 1)) h fun t102 h =>
 go (Bin .int .sub t13_1 (.int .i64 1)) h fun t104 h =>
 Lp 5 (fun X3 t0_3 t1_3 t4_3 t12_2 t13_2 h =>
 Lp 5 (fun X4 t0_4 t1_4 t4_4 t12_3 t13_3 h =>
 go (Bin .int .leq t12_3 t13_3) h fun t107 h =>
 go (Gd t107 true (Mv t4_4)) h fun t109 h =>
 go (Gd t107 true (Mv t0_4)) h fun t110 h =>
 go (Gd t107 true (Mv t12_3)) h fun t111 h =>
 go (Gd t107 true (Idx 1 t110 t111)) h fun t112 h =>
 go (Gd t107 true (Ld t112)) h fun t113 h =>
 go (Gd t107 true (Mv t0_4)) h fun t114 h =>
 go (Gd t107 true (Mv t1_4)) h fun t115 h =>
 go (Gd t107 true (Idx 1 t114 t115)) h fun t116 h =>
 go (Gd t107 true (Ld t116)) h fun t117 h =>
 go (Gd t107 true (CallV Try.prog t109 [t113, t117])) h fun t118 h =>
 go (Gd t107 true (Bin .int .lss t118 (.int .i64 0))) h fun t119 h =>
 go (Pick t107 t119 (.bool false)) h fun t120 h =>
 If t120 (
 go (Bin .int .add t12_3 (.int .i64 1)) h fun t122 h =>
 X4 t0_4 t1_4 t4_4 t122 t13_3 h) (
 Lp 5 (fun X5 t0_5 t1_5 t4_5 t12_4 t13_4 h =>
 go (Bin .int .leq t12_4 t13_4) h fun t125 h =>
 go (Gd t125 true (Mv t4_5)) h fun t127 h =>
 go (Gd t125 true (Mv t0_5)) h fun t128 h =>
 go (Gd t125 true (Mv t13_4)) h fun t129 h =>
 go (Gd t125 true (Idx 1 t128 t129)) h fun t130 h =>
 go (Gd t125 true (Ld t130)) h fun t131 h =>
 go (Gd t125 true (Mv t0_5)) h fun t132 h =>
 go (Gd t125 true (Mv t1_5)) h fun t133 h =>
 go (Gd t125 true (Idx 1 t132 t133)) h fun t134 h =>
 go (Gd t125 true (Ld t134)) h fun t135 h =>
 go (Gd t125 true (CallV Try.prog t127 [t131, t135])) h fun t136 h =>
 go (Gd t125 true (Bin .int .lss t136 (.int .i64 0))) h fun t137 h =>
 go (Gd t125 true (Un .not t137)) h fun t138 h =>
 go (Pick t125 t138 (.bool false)) h fun t139 h =>
 If t139 (
 go (Bin .int .sub t13_4 (.int .i64 1)) h fun t141 h =>
 X5 t0_5 t1_5 t4_5 t12_4 t141 h) (
 go (Bin .int .gtr t12_4 t13_4) h fun t144 h =>
 If t144 (
 go (Idx 1 t0_5 t1_5) h fun t169 h =>
 go (Ld t169) h fun t170 h =>
 go (Idx 1 t0_5 t13_4) h fun t173 h =>
 go (Ld t173) h fun t174 h =>
 go (Idx 1 t0_5 t13_4) h fun t175 h =>
 go (St t175 t170) h fun _ h =>
 go (Idx 1 t0_5 t1_5) h fun t176 h =>
 go (St t176 t174) h fun _ h =>
 K (.tuple #[t13_4, (.bool false)]) h) (
 go (Idx 1 t0_5 t13_4) h fun t151 h =>
 go (Ld t151) h fun t152 h =>
 go (Idx 1 t0_5 t12_4) h fun t155 h =>
 go (Ld t155) h fun t156 h =>
 go (Idx 1 t0_5 t12_4) h fun t157 h =>
 go (St t157 t152) h fun _ h =>
 go (Idx 1 t0_5 t13_4) h fun t158 h =>
 go (St t158 t156) h fun _ h =>
 go (Bin .int .add t12_4 (.int .i64 1)) h fun t160 h =>
 go (Bin .int .sub t13_4 (.int .i64 1)) h fun t162 h =>
 X3 t0_5 t1_5 t4_5 t160 t162 h))) [t0_4, t1_4, t4_4, t12_3, t13_3] h)) [t0_3, t1_3, t4_3, t12_2, t13_2] h) [t0_2, t1_2, t4_2, t102, t104] h))) [t0_1, t1_1, t4_1, t12, t13] h)) [t0, t1, t4, t29, t31] h
set_option maxRecDepth 100000 in
theorem slices_partitionCmpFunc_int.eq : (fun t0 t1 t2 t3 t4 K h => slices_partitionCmpFunc_int.pt t0 t1 t2 t3 t4 K h : Value → Value → Value → Value → Value → Ret → Heap → Prop) = (fun t0 t1 t2 t3 t4 K h => fnPt Try.prog [18, 20, 22, 24, 34, 35, 36, 40, 1000014, 1000016, 1000017, 1000033, 1000028, 1000013] Try.f68 slices_partitionCmpFunc_int.ann [t0, t1, t2, t3, t4] K h) := by kernel_rfl
set_option maxRecDepth 100000 in
theorem slices_partitionCmpFunc_int.ok {t0 t1 t2 t3 t4 : Value} {K : Ret} {h : Heap} (hp : slices_partitionCmpFunc_int.pt t0 t1 t2 t3 t4 K h) : CallH Try.prog 68 #[t0, t1, t2, t3, t4] K h :=
  fn_sound (qs := [18, 20, 22, 24, 34, 35, 36, 40, 1000014, 1000016, 1000017, 1000033, 1000028, 1000013]) (fn := Try.f68) (ann := slices_partitionCmpFunc_int.ann) (args := [t0, t1, t2, t3, t4]) follows_mixed Try.func68 ((Eq.to_iff (congrFun (congrFun (congrFun (congrFun (congrFun (congrFun (congrFun (slices_partitionCmpFunc_int.eq) t0) t1) t2) t3) t4) K) h)).mp hp)

/-! ### math/bits.Len64: function 70 -/
abbrev bits_Len64.id : FuncId := 70
def bits_Len64.ann : Ann := (.seq none .leaf (.seq (some [0, 2]) (.seq none .leaf (.cond (.seq none .leaf .leaf) .leaf)) (.seq (some [0, 2]) (.seq none .leaf (.cond (.seq none .leaf .leaf) .leaf)) (.seq (some [0, 2]) (.seq none .leaf (.cond (.seq none .leaf .leaf) .leaf)) (.seq none .leaf .leaf)))))
set_option maxRecDepth 100000 in
def bits_Len64.pt (t0 : Value) (K : Ret) (h : Heap) : Prop :=
 Join 2 (fun J1 =>
 go (Bin .int .geq t0 (.int .u64 4294967296)) h fun t4 h =>
 If t4 (
 go (Bin .int .shr t0 (.int .u64 32)) h fun t6 h =>
 J1 t6 (.int .i64 32) h) (
 J1 t0 (.int .i64 0) h)) (fun t0_1 t2 h =>
 Join 2 (fun J2 =>
 go (Bin .int .geq t0_1 (.int .u64 65536)) h fun t8 h =>
 If t8 (
 go (Bin .int .shr t0_1 (.int .u64 16)) h fun t10 h =>
 go (Bin .int .add t2 (.int .i64 16)) h fun t12 h =>
 J2 t10 t12 h) (
 J2 t0_1 t2 h)) (fun t0_2 t2_1 h =>
 Join 2 (fun J3 =>
 go (Bin .int .geq t0_2 (.int .u64 256)) h fun t14 h =>
 If t14 (
 go (Bin .int .shr t0_2 (.int .u64 8)) h fun t16 h =>
 go (Bin .int .add t2_1 (.int .i64 8)) h fun t18 h =>
 J3 t16 t18 h) (
 J3 t0_2 t2_1 h)) (fun t0_3 t2_2 h =>
 go (Cvt .u8 t0_3) h fun t21 h =>
 go (IdxS (.string ⟨#[0, 1, 2, 2, 3, 3, 3, 3, 4, 4, 4, 4, 4, 4, 4, 4, 5, 5, 5, 5, 5, 5, 5, 5, 5, 5, 5, 5, 5, 5, 5, 5, 6, 6, 6, 6, 6, 6, 6, 6, 6, 6, 6, 6, 6, 6, 6, 6, 6, 6, 6, 6, 6, 6, 6, 6, 6, 6, 6, 6, 6, 6, 6, 6, 7, 7, 7, 7, 7, 7, 7, 7, 7, 7, 7, 7, 7, 7, 7, 7, 7, 7, 7, 7, 7, 7, 7, 7, 7, 7, 7, 7, 7, 7, 7, 7, 7, 7, 7, 7, 7, 7, 7, 7, 7, 7, 7, 7, 7, 7, 7, 7, 7, 7, 7, 7, 7, 7, 7, 7, 7, 7, 7, 7, 7, 7, 7, 7, 8, 8, 8, 8, 8, 8, 8, 8, 8, 8, 8, 8, 8, 8, 8, 8, 8, 8, 8, 8, 8, 8, 8, 8, 8, 8, 8, 8, 8, 8, 8, 8, 8, 8, 8, 8, 8, 8, 8, 8, 8, 8, 8, 8, 8, 8, 8, 8, 8, 8, 8, 8, 8, 8, 8, 8, 8, 8, 8, 8, 8, 8, 8, 8, 8, 8, 8, 8, 8, 8, 8, 8, 8, 8, 8, 8, 8, 8, 8, 8, 8, 8, 8, 8, 8, 8, 8, 8, 8, 8, 8, 8, 8, 8, 8, 8, 8, 8, 8, 8, 8, 8, 8, 8, 8, 8, 8, 8, 8, 8, 8, 8, 8, 8, 8, 8, 8, 8, 8, 8, 8, 8, 8, 8, 8, 8, 8, 8]⟩) t21) h fun t22 h =>
 go (Cvt .i64 t22) h fun t23 h =>
 go (Bin .int .add t2_2 t23) h fun t24 h =>
 K t24 h)))
set_option maxRecDepth 100000 in
theorem bits_Len64.eq : (fun t0 K h => bits_Len64.pt t0 K h : Value → Ret → Heap → Prop) = (fun t0 K h => fnPt Try.prog [18, 20, 22, 24, 34, 35, 36, 40, 1000014, 1000016, 1000017, 1000033, 1000028, 1000013] Try.f70 bits_Len64.ann [t0] K h) := by kernel_rfl
set_option maxRecDepth 100000 in
theorem bits_Len64.ok {t0 : Value} {K : Ret} {h : Heap} (hp : bits_Len64.pt t0 K h) : CallH Try.prog 70 #[t0] K h :=
  fn_sound (qs := [18, 20, 22, 24, 34, 35, 36, 40, 1000014, 1000016, 1000017, 1000033, 1000028, 1000013]) (fn := Try.f70) (ann := bits_Len64.ann) (args := [t0]) follows_mixed Try.func70 ((Eq.to_iff (congrFun (congrFun (congrFun (bits_Len64.eq) t0) K) h)).mp hp)

/-! ### cmp.isNaN[int]: function 71 -/
abbrev cmp_isNaN_int.id : FuncId := 71
def cmp_isNaN_int.ann : Ann := (.seq none .leaf (.seq none .leaf .leaf))
set_option maxRecDepth 100000 in
def cmp_isNaN_int.pt (t0 : Value) (K : Ret) (h : Heap) : Prop :=
 go (Bin .int .neq t0 t0) h fun t5 h =>
 K t5 h
set_option maxRecDepth 100000 in
theorem cmp_isNaN_int.eq : (fun t0 K h => cmp_isNaN_int.pt t0 K h : Value → Ret → Heap → Prop) = (fun t0 K h => fnPt Try.prog [18, 20, 22, 24, 34, 35, 36, 40, 1000014, 1000016, 1000017, 1000033, 1000028, 1000013] Try.f71 cmp_isNaN_int.ann [t0] K h) := by kernel_rfl
set_option maxRecDepth 100000 in
theorem cmp_isNaN_int.ok {t0 : Value} {K : Ret} {h : Heap} (hp : cmp_isNaN_int.pt t0 K h) : CallH Try.prog 71 #[t0] K h :=
  fn_sound (qs := [18, 20, 22, 24, 34, 35, 36, 40, 1000014, 1000016, 1000017, 1000033, 1000028, 1000013]) (fn := Try.f71) (ann := cmp_isNaN_int.ann) (args := [t0]) follows_mixed Try.func71 ((Eq.to_iff (congrFun (congrFun (congrFun (cmp_isNaN_int.eq) t0) K) h)).mp hp)

/-! ### slices.siftDownCmpFunc[int]: function 72 -/
abbrev slices_siftDownCmpFunc_int.id : FuncId := 72
def slices_siftDownCmpFunc_int.ann : Ann := (.seq none .leaf (.block (.loop [0, 2, 3, 4, 10] (.block (.seq none .leaf (.seq none (.seq none .leaf (.cond .leaf .leaf)) (.seq (some [0, 2, 3, 4, 10, 11]) (.seq none .leaf (.cond .leaf .leaf)) (.seq none (.seq none .leaf (.cond .leaf .leaf)) (.seq none .leaf .leaf)))))))))
set_option maxRecDepth 100000 in
def slices_siftDownCmpFunc_int.pt (t0 t1 t2 t3 t4 : Value) (K : Ret) (h : Heap) : Prop :=
 Lp 5 (fun X1 t0_1 t2_1 t3_1 t4_1 t10 h =>
 go (Bin .int .mul (.int .i64 2) t10) h fun t14 h =>
 go (Bin .int .add t14 (.int .i64 1)) h fun t15 h =>
 go (Bin .int .geq t15 t2_1) h fun t18 h =>
 If t18 (
 K (.tuple #[]) h) (
 Join 6 (fun J2 =>
 go (Bin .int .add t15 (.int .i64 1)) h fun t20 h =>
 go (Bin .int .lss t20 t2_1) h fun t22 h =>
 go (Gd t22 true (Mv t4_1)) h fun t24 h =>
 go (Gd t22 true (Mv t0_1)) h fun t25 h =>
 go (Gd t22 true (Mv t3_1)) h fun t26 h =>
 go (Gd t22 true (Mv t15)) h fun t27 h =>
 go (Gd t22 true (Bin .int .add t26 t27)) h fun t28 h =>
 go (Gd t22 true (Idx 1 t25 t28)) h fun t29 h =>
 go (Gd t22 true (Ld t29)) h fun t30 h =>
 go (Gd t22 true (Mv t0_1)) h fun t31 h =>
 go (Gd t22 true (Mv t3_1)) h fun t32 h =>
 go (Gd t22 true (Mv t15)) h fun t33 h =>
 go (Gd t22 true (Bin .int .add t32 t33)) h fun t34 h =>
 go (Gd t22 true (Bin .int .add t34 (.int .i64 1))) h fun t35 h =>
 go (Gd t22 true (Idx 1 t31 t35)) h fun t36 h =>
 go (Gd t22 true (Ld t36)) h fun t37 h =>
 go (Gd t22 true (CallV Try.prog t24 [t30, t37])) h fun t38 h =>
 go (Gd t22 true (Bin .int .lss t38 (.int .i64 0))) h fun t39 h =>
 go (Pick t22 t39 (.bool false)) h fun t40 h =>
 If t40 (
 go (Bin .int .add t15 (.int .i64 1)) h fun t42 h =>
 J2 t0_1 t2_1 t3_1 t4_1 t10 t42 h) (
 J2 t0_1 t2_1 t3_1 t4_1 t10 t15 h)) (fun t0_2 t2_2 t3_2 t4_2 t10_1 t11 h =>
 go (Bin .int .add t3_2 t10_1) h fun t47 h =>
 go (Idx 1 t0_2 t47) h fun t48 h =>
 go (Ld t48) h fun t49 h =>
 go (Bin .int .add t3_2 t11) h fun t53 h =>
 go (Idx 1 t0_2 t53) h fun t54 h =>
 go (Ld t54) h fun t55 h =>
 go (CallV Try.prog t4_2 [t49, t55]) h fun t56 h =>
 go (Bin .int .lss t56 (.int .i64 0)) h fun t57 h =>
 go (Un .not t57) h fun t58 h =>
 If t58 (
 K (.tuple #[]) h) (
 go (Bin .int .add t3_2 t10_1) h fun t62 h =>
 go (Bin .int .add t3_2 t11) h fun t66 h =>
 go (Bin .int .add t3_2 t11) h fun t70 h =>
 go (Idx 1 t0_2 t70) h fun t71 h =>
 go (Ld t71) h fun t72 h =>
 go (Bin .int .add t3_2 t10_1) h fun t76 h =>
 go (Idx 1 t0_2 t76) h fun t77 h =>
 go (Ld t77) h fun t78 h =>
 go (Idx 1 t0_2 t62) h fun t79 h =>
 go (St t79 t72) h fun _ h =>
 go (Idx 1 t0_2 t66) h fun t80 h =>
 go (St t80 t78) h fun _ h =>
 X1 t0_2 t2_2 t3_2 t4_2 t11 h)))) [t0, t2, t3, t4, t1] h
set_option maxRecDepth 100000 in
theorem slices_siftDownCmpFunc_int.eq : (fun t0 t1 t2 t3 t4 K h => slices_siftDownCmpFunc_int.pt t0 t1 t2 t3 t4 K h : Value → Value → Value → Value → Value → Ret → Heap → Prop) = (fun t0 t1 t2 t3 t4 K h => fnPt Try.prog [18, 20, 22, 24, 34, 35, 36, 40, 1000014, 1000016, 1000017, 1000033, 1000028, 1000013] Try.f72 slices_siftDownCmpFunc_int.ann [t0, t1, t2, t3, t4] K h) := by kernel_rfl
set_option maxRecDepth 100000 in
theorem slices_siftDownCmpFunc_int.ok {t0 t1 t2 t3 t4 : Value} {K : Ret} {h : Heap} (hp : slices_siftDownCmpFunc_int.pt t0 t1 t2 t3 t4 K h) : CallH Try.prog 72 #[t0, t1, t2, t3, t4] K h :=
  fn_sound (qs := [18, 20, 22, 24, 34, 35, 36, 40, 1000014, 1000016, 1000017, 1000033, 1000028, 1000013]) (fn := Try.f72) (ann := slices_siftDownCmpFunc_int.ann) (args := [t0, t1, t2, t3, t4]) follows_mixed Try.func72 ((Eq.to_iff (congrFun (congrFun (congrFun (congrFun (congrFun (congrFun (congrFun (slices_siftDownCmpFunc_int.eq) t0) t1) t2) t3) t4) K) h)).mp hp)

/-! ### slices.nextPowerOfTwo: function 73 -/
abbrev slices_nextPowerOfTwo.id : FuncId := 73
def slices_nextPowerOfTwo.ann : Ann := (.seq none .leaf (.seq none .leaf .leaf))
set_option maxRecDepth 100000 in
def slices_nextPowerOfTwo.pt (t0 : Value) (K : Ret) (h : Heap) : Prop :=
 go (Cvt .u64 t0) h fun t4 h =>
 go (CallF Try.prog 59 [t4]) h fun t5 h =>
 go (Bin .int .shl (.int .u64 1) t5) h fun t6 h =>
 K t6 h
set_option maxRecDepth 100000 in
theorem slices_nextPowerOfTwo.eq : (fun t0 K h => slices_nextPowerOfTwo.pt t0 K h : Value → Ret → Heap → Prop) = (fun t0 K h => fnPt Try.prog [18, 20, 22, 24, 34, 35, 36, 40, 1000014, 1000016, 1000017, 1000033, 1000028, 1000013] Try.f73 slices_nextPowerOfTwo.ann [t0] K h) := by kernel_rfl
set_option maxRecDepth 100000 in
theorem slices_nextPowerOfTwo.ok {t0 : Value} {K : Ret} {h : Heap} (hp : slices_nextPowerOfTwo.pt t0 K h) : CallH Try.prog 73 #[t0] K h :=
  fn_sound (qs := [18, 20, 22, 24, 34, 35, 36, 40, 1000014, 1000016, 1000017, 1000033, 1000028, 1000013]) (fn := Try.f73) (ann := slices_nextPowerOfTwo.ann) (args := [t0]) follows_mixed Try.func73 ((Eq.to_iff (congrFun (congrFun (congrFun (slices_nextPowerOfTwo.eq) t0) K) h)).mp hp)

/-! ### (*slices.xorshift).Next: function 74 -/
abbrev slices_xorshift_Next.id : FuncId := 74
def slices_xorshift_Next.ann : Ann := (.seq none .leaf (.seq none .leaf (.seq none .leaf (.seq none .leaf (.seq none .leaf .leaf)))))
set_option maxRecDepth 100000 in
def slices_xorshift_Next.pt (t0 : Value) (K : Ret) (h : Heap) : Prop :=
 go (NilC t0) h fun t4 h =>
 go (Ld t4) h fun t5 h =>
 go (NilC t0) h fun t7 h =>
 go (Ld t7) h fun t8 h =>
 go (Bin .int .shl t8 (.int .u64 13)) h fun t9 h =>
 go (Bin .int .xor t5 t9) h fun t10 h =>
 go (NilC t0) h fun t11 h =>
 go (St t11 t10) h fun _ h =>
 go (NilC t0) h fun t13 h =>
 go (Ld t13) h fun t14 h =>
 go (NilC t0) h fun t16 h =>
 go (Ld t16) h fun t17 h =>
 go (Bin .int .shr t17 (.int .u64 7)) h fun t18 h =>
 go (Bin .int .xor t14 t18) h fun t19 h =>
 go (NilC t0) h fun t20 h =>
 go (St t20 t19) h fun _ h =>
 go (NilC t0) h fun t22 h =>
 go (Ld t22) h fun t23 h =>
 go (NilC t0) h fun t25 h =>
 go (Ld t25) h fun t26 h =>
 go (Bin .int .shl t26 (.int .u64 17)) h fun t27 h =>
 go (Bin .int .xor t23 t27) h fun t28 h =>
 go (NilC t0) h fun t29 h =>
 go (St t29 t28) h fun _ h =>
 go (NilC t0) h fun t31 h =>
 go (Ld t31) h fun t32 h =>
 K t32 h
set_option maxRecDepth 100000 in
theorem slices_xorshift_Next.eq : (fun t0 K h => slices_xorshift_Next.pt t0 K h : Value → Ret → Heap → Prop) = (fun t0 K h => fnPt Try.prog [18, 20, 22, 24, 34, 35, 36, 40, 1000014, 1000016, 1000017, 1000033, 1000028, 1000013] Try.f74 slices_xorshift_Next.ann [t0] K h) := by kernel_rfl
set_option maxRecDepth 100000 in
theorem slices_xorshift_Next.ok {t0 : Value} {K : Ret} {h : Heap} (hp : slices_xorshift_Next.pt t0 K h) : CallH Try.prog 74 #[t0] K h :=
  fn_sound (qs := [18, 20, 22, 24, 34, 35, 36, 40, 1000014, 1000016, 1000017, 1000033, 1000028, 1000013]) (fn := Try.f74) (ann := slices_xorshift_Next.ann) (args := [t0]) follows_mixed Try.func74 ((Eq.to_iff (congrFun (congrFun (congrFun (slices_xorshift_Next.eq) t0) K) h)).mp hp)

/-! ### slices.medianAdjacentCmpFunc[int]: function 75 -/
abbrev slices_medianAdjacentCmpFunc_int.id : FuncId := 75
def slices_medianAdjacentCmpFunc_int.ann : Ann := (.seq none .leaf (.seq none .leaf .leaf))
set_option maxRecDepth 100000 in
def slices_medianAdjacentCmpFunc_int.pt (t0 t1 t2 t3 : Value) (K : Ret) (h : Heap) : Prop :=
 go (Bin .int .sub t1 (.int .i64 1)) h fun t11 h =>
 go (Bin .int .add t1 (.int .i64 1)) h fun t14 h =>
 go (CallF Try.prog 76 [t0, t11, t1, t14, t2, t3]) h fun t17 h =>
 K t17 h
set_option maxRecDepth 100000 in
theorem slices_medianAdjacentCmpFunc_int.eq : (fun t0 t1 t2 t3 K h => slices_medianAdjacentCmpFunc_int.pt t0 t1 t2 t3 K h : Value → Value → Value → Value → Ret → Heap → Prop) = (fun t0 t1 t2 t3 K h => fnPt Try.prog [18, 20, 22, 24, 34, 35, 36, 40, 1000014, 1000016, 1000017, 1000033, 1000028, 1000013] Try.f75 slices_medianAdjacentCmpFunc_int.ann [t0, t1, t2, t3] K h) := by kernel_rfl
set_option maxRecDepth 100000 in
theorem slices_medianAdjacentCmpFunc_int.ok {t0 t1 t2 t3 : Value} {K : Ret} {h : Heap} (hp : slices_medianAdjacentCmpFunc_int.pt t0 t1 t2 t3 K h) : CallH Try.prog 75 #[t0, t1, t2, t3] K h :=
  fn_sound (qs := [18, 20, 22, 24, 34, 35, 36, 40, 1000014, 1000016, 1000017, 1000033, 1000028, 1000013]) (fn := Try.f75) (ann := slices_medianAdjacentCmpFunc_int.ann) (args := [t0, t1, t2, t3]) follows_mixed Try.func75 ((Eq.to_iff (congrFun (congrFun (congrFun (congrFun (congrFun (congrFun (slices_medianAdjacentCmpFunc_int.eq) t0) t1) t2) t3) K) h)).mp hp)

/-! ### slices.medianCmpFunc[int]: function 76 -/
abbrev slices_medianCmpFunc_int.id : FuncId := 76
def slices_medianCmpFunc_int.ann : Ann := (.seq none .leaf (.seq none .leaf (.seq none .leaf (.seq none .leaf (.seq none .leaf .leaf)))))
set_option maxRecDepth 100000 in
def slices_medianCmpFunc_int.pt (t0 t1 t2 t3 t4 t5 : Value) (K : Ret) (h : Heap) : Prop :=
 go (CallF Try.prog 77 [t0, t1, t2, t4, t5]) h fun t19 h =>
 go (Ext 0 t19) h fun t20 h =>
 go (Ext 1 t19) h fun t21 h =>
 go (CallF Try.prog 77 [t0, t21, t3, t4, t5]) h fun t28 h =>
 go (Ext 0 t28) h fun t29 h =>
 go (Ext 1 t28) h fun t30 h =>
 go (CallF Try.prog 77 [t0, t20, t29, t4, t5]) h fun t37 h =>
 go (Ext 0 t37) h fun t38 h =>
 go (Ext 1 t37) h fun t39 h =>
 K t39 h
set_option maxRecDepth 100000 in
theorem slices_medianCmpFunc_int.eq : (fun t0 t1 t2 t3 t4 t5 K h => slices_medianCmpFunc_int.pt t0 t1 t2 t3 t4 t5 K h : Value → Value → Value → Value → Value → Value → Ret → Heap → Prop) = (fun t0 t1 t2 t3 t4 t5 K h => fnPt Try.prog [18, 20, 22, 24, 34, 35, 36, 40, 1000014, 1000016, 1000017, 1000033, 1000028, 1000013] Try.f76 slices_medianCmpFunc_int.ann [t0, t1, t2, t3, t4, t5] K h) := by kernel_rfl
set_option maxRecDepth 100000 in
theorem slices_medianCmpFunc_int.ok {t0 t1 t2 t3 t4 t5 : Value} {K : Ret} {h : Heap} (hp : slices_medianCmpFunc_int.pt t0 t1 t2 t3 t4 t5 K h) : CallH Try.prog 76 #[t0, t1, t2, t3, t4, t5] K h :=
  fn_sound (qs := [18, 20, 22, 24, 34, 35, 36, 40, 1000014, 1000016, 1000017, 1000033, 1000028, 1000013]) (fn := Try.f76) (ann := slices_medianCmpFunc_int.ann) (args := [t0, t1, t2, t3, t4, t5]) follows_mixed Try.func76 ((Eq.to_iff (congrFun (congrFun (congrFun (congrFun (congrFun (congrFun (congrFun (congrFun (slices_medianCmpFunc_int.eq) t0) t1) t2) t3) t4) t5) K) h)).mp hp)

/-! ### slices.order2CmpFunc[int]: function 77 -/
abbrev slices_order2CmpFunc_int.id : FuncId := 77
def slices_order2CmpFunc_int.ann : Ann := (.seq none .leaf (.seq none (.seq none .leaf (.cond (.seq none .leaf (.seq none .leaf .leaf)) .leaf)) (.seq none .leaf .leaf)))
set_option maxRecDepth 100000 in
def slices_order2CmpFunc_int.pt (t0 t1 t2 t3 t4 : Value) (K : Ret) (h : Heap) : Prop :=
 go (Idx 1 t0 t2) h fun t15 h =>
 go (Ld t15) h fun t16 h =>
 go (Idx 1 t0 t1) h fun t19 h =>
 go (Ld t19) h fun t20 h =>
 go (CallV Try.prog t4 [t16, t20]) h fun t21 h =>
 go (Bin .int .lss t21 (.int .i64 0)) h fun t22 h =>
 If t22 (
 go (NilC t3) h fun t24 h =>
 go (Ld t24) h fun t25 h =>
 go (Bin .int .add t25 (.int .i64 1)) h fun t26 h =>
 go (NilC t3) h fun t27 h =>
 go (St t27 t26) h fun _ h =>
 K (.tuple #[t2, t1]) h) (
 K (.tuple #[t1, t2]) h)
set_option maxRecDepth 100000 in
theorem slices_order2CmpFunc_int.eq : (fun t0 t1 t2 t3 t4 K h => slices_order2CmpFunc_int.pt t0 t1 t2 t3 t4 K h : Value → Value → Value → Value → Value → Ret → Heap → Prop) = (fun t0 t1 t2 t3 t4 K h => fnPt Try.prog [18, 20, 22, 24, 34, 35, 36, 40, 1000014, 1000016, 1000017, 1000033, 1000028, 1000013] Try.f77 slices_order2CmpFunc_int.ann [t0, t1, t2, t3, t4] K h) := by kernel_rfl
set_option maxRecDepth 100000 in
theorem slices_order2CmpFunc_int.ok {t0 t1 t2 t3 t4 : Value} {K : Ret} {h : Heap} (hp : slices_order2CmpFunc_int.pt t0 t1 t2 t3 t4 K h) : CallH Try.prog 77 #[t0, t1, t2, t3, t4] K h :=
  fn_sound (qs := [18, 20, 22, 24, 34, 35, 36, 40, 1000014, 1000016, 1000017, 1000033, 1000028, 1000013]) (fn := Try.f77) (ann := slices_order2CmpFunc_int.ann) (args := [t0, t1, t2, t3, t4]) follows_mixed Try.func77 ((Eq.to_iff (congrFun (congrFun (congrFun (congrFun (congrFun (congrFun (congrFun (slices_order2CmpFunc_int.eq) t0) t1) t2) t3) t4) K) h)).mp hp)

-- NOT: 94 (*bradawl/local.State).Clauses: no body
end Go.Proofs.Ytonngdjfnnibaaa
