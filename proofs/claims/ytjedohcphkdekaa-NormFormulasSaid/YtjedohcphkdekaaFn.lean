/- What each Go function asks, in the primitives of Pt; written by a program of mine (ptgen.py) out of the translation; Lean checks that it is so. -/
import Derived.Test.YtjedohcphkdekaaProg
import Derived.KernelRfl
import Derived.Test.YtjedohcphkdekaaPtO
namespace Go.Proofs.Ytjedohcphkdekaa
open Go.Pt
set_option linter.unusedVariables false
theorem follows_mixed : Try.prog.follows .mixedOrders = true := by kernel_rfl
/-! ### bradawl/bradawllaw04.NormFormulas: function 5 -/
abbrev bradawllaw04_NormFormulas.id : FuncId := 5
def bradawllaw04_NormFormulas.ann : Ann := (.seq none .leaf (.seq none (.seq none .leaf (.cond (.seq none .leaf .leaf) .leaf)) (.seq none (.seq none .leaf (.cond (.seq none .leaf .leaf) .leaf)) (.seq none .leaf (.seq none .leaf (.seq none .leaf (.seq none (.seq none .leaf (.block (.loop [1, 5, 6, 7, 8, 33, 34] (.seq none .leaf (.seq none (.cond .leaf .leaf) (.seq none (.block (.seq none .leaf .leaf)) .leaf)))))) (.seq none .leaf (.seq none (.seq none .leaf (.block (.loop [5, 6, 7, 8, 10, 11, 47, 48, 49] (.seq none .leaf (.seq none (.cond .leaf .leaf) (.seq (some [5, 6, 7, 8, 10, 11, 47, 48, 49]) (.block (.seq none .leaf (.seq none .leaf (.seq none (.seq none .leaf (.block (.loop [5, 6, 7, 8, 10, 11, 13, 14, 47, 48, 49, 53, 54, 55] (.seq none .leaf (.seq none (.cond .leaf .leaf) (.seq none (.block (.seq none .leaf .leaf)) .leaf)))))) (.seq none (.seq none .leaf (.cond .leaf .leaf)) (.seq none .leaf (.seq none (.seq none .leaf (.cond (.seq none .leaf .leaf) .leaf)) .leaf))))))) .leaf)))))) (.seq none .leaf .leaf))))))))))
set_option maxRecDepth 100000 in
def bradawllaw04_NormFormulas.pt (t0 t1 : Value) (K : Ret) (h : Heap) : Prop :=
 go (New (Value.cells t0) 34) h fun t2 h =>
 go (CallF Try.prog 8 []) h fun t17 h =>
 go (Un .not t17) h fun t18 h =>
 If t18 (
 K (.bool false) h) (
 go (LdA 2 t2) h fun t19 h =>
 go (CallF Try.prog 15 [t19, (.int .i64 40)]) h fun t20 h =>
 go (Un .not t20) h fun t21 h =>
 If t21 (
 K (.bool true) h) (
 go (LdA 2 t2) h fun t22 h =>
 go (CallF Try.prog 16 [t22, (.int .i64 12), (.int .i64 9)]) h fun t23 h =>
 go (New #[(.int .i64 0), (.slice none 0 0)] 39) h fun t5 h =>
 go (StA 2 t5 t23) h fun _ h =>
 go (LdA 2 t5) h fun t25 h =>
 go (CallF Try.prog 17 [t25]) h fun t26 h =>
 go (Ext 0 t26) h fun t27 h =>
 go (Ext 1 t26) h fun t28 h =>
 go (Fld 0 t5) h fun t29 h =>
 go (Ld t29) h fun t30 h =>
 go (MkS 4 1 1 #[(.bool false)] t30 t30) h fun t31 h =>
 go (Len t31) h fun t33 h =>
 Lp 7 (fun X1 t1_1 t5_1 t6 t7 t8 t33_1 t34 h =>
 go (Bin .int .lss t34 t33_1) h fun t35 h =>
 If t35 (
 go (Bin .int .shr t1_1 t34) h fun t41 h =>
 go (Bin .int .and t41 (.int .u16 1)) h fun t42 h =>
 go (Bin .int .eql t42 (.int .u16 1)) h fun t43 h =>
 go (Idx 1 t8 t34) h fun t44 h =>
 go (St t44 t43) h fun _ h =>
 go (Bin .int .add t34 (.int .i64 1)) h fun t45 h =>
 X1 t1_1 t5_1 t6 t7 t8 t33_1 t45 h) (
 go (Fld 1 t5_1) h fun t46 h =>
 go (Ld t46) h fun t47 h =>
 go (Len t47) h fun t48 h =>
 Lp 9 (fun X2 t5_2 t6_1 t7_1 t8_1 t10 t11 t47_1 t48_1 t49 h =>
 go (Bin .int .lss t49 t48_1) h fun t50 h =>
 If t50 (
 Join 9 (fun J3 =>
 go (Idx 1 t47_1 t49) h fun t51 h =>
 go (Ld t51) h fun t52 h =>
 go (Len t52) h fun t54 h =>
 Lp 14 (fun X4 t5_3 t6_2 t7_2 t8_2 t10_1 t11_1 t13 t14 t47_2 t48_2 t49_1 t53 t54_1 t55 h =>
 go (Bin .int .lss t55 t54_1) h fun t56 h =>
 If t56 (
 go (Idx 1 t53 t55) h fun t57 h =>
 go (Ld t57) h fun t58 h =>
 go (Gd t14 false (Mv t13)) h fun t61 h =>
 go (Gd t14 false (Mv t58)) h fun t62 h =>
 go (Gd t14 false (Un .neg t62)) h fun t63 h =>
 go (Gd t14 false (QCall Try.prog 11 [t61, t63])) h fun t64 h =>
 go (Pick t14 (.bool true) t64) h fun t65 h =>
 go (Bin .int .add t55 (.int .i64 1)) h fun t66 h =>
 X4 t5_3 t6_2 t7_2 t8_2 t10_1 t11_1 t13 t65 t47_2 t48_2 t49_1 t53 t54_1 t66 h) (
 If t14 (
 J3 t5_3 t6_2 t7_2 t8_2 t10_1 t11_1 t47_2 t48_2 t49_1 h) (
 go (Gd t11_1 false (Mv t13)) h fun t70 h =>
 go (Gd t11_1 false (Len t70)) h fun t71 h =>
 go (Gd t11_1 false (Bin .int .eql t71 (.int .i64 0))) h fun t72 h =>
 go (Pick t11_1 (.bool true) t72) h fun t73 h =>
 go (Len t6_2) h fun t76 h =>
 go (Bin .int .geq t10_1 t76) h fun t77 h =>
 go (Gd t77 false (Mv t6_2)) h fun t79 h =>
 go (Gd t77 false (Mv t10_1)) h fun t80 h =>
 go (Gd t77 false (Idx 1 t79 t80)) h fun t81 h =>
 go (Gd t77 false (Ld t81)) h fun t82 h =>
 go (Gd t77 false (QCall Try.prog 12 [t82])) h fun t83 h =>
 go (Gd t77 false (Un .not t83)) h fun t84 h =>
 go (Pick t77 (.bool true) t84) h fun t85 h =>
 go (Gd t85 false (Mv t6_2)) h fun t87 h =>
 go (Gd t85 false (Mv t10_1)) h fun t88 h =>
 go (Gd t85 false (Idx 1 t87 t88)) h fun t89 h =>
 go (Gd t85 false (Ld t89)) h fun t90 h =>
 go (Gd t85 false (Mv t13)) h fun t91 h =>
 go (Gd t85 false (CallF Try.prog 14 [t90, t91])) h fun t92 h =>
 go (Gd t85 false (Un .not t92)) h fun t93 h =>
 go (Pick t85 (.bool true) t93) h fun t94 h =>
 If t94 (
 K (.bool false) h) (
 go (Bin .int .add t10_1 (.int .i64 1)) h fun t96 h =>
 J3 t5_3 t6_2 t7_2 t8_2 t96 t73 t47_2 t48_2 t49_1 h)))) [t5_2, t6_1, t7_1, t8_1, t10, t11, t52, (.bool false), t47_1, t48_1, t49, t52, t54, (.int .i64 0)] h) (fun t5_4 t6_3 t7_3 t8_3 t10_2 t11_2 t47_3 t48_3 t49_2 h =>
 go (Bin .int .add t49_2 (.int .i64 1)) h fun t97 h =>
 X2 t5_4 t6_3 t7_3 t8_3 t10_2 t11_2 t47_3 t48_3 t97 h)) (
 go (Len t6_1) h fun t100 h =>
 go (Bin .int .eql t10 t100) h fun t101 h =>
 go (Gd t101 true (Mv t7_1)) h fun t103 h =>
 go (Gd t101 true (Mv t11)) h fun t104 h =>
 go (Gd t101 true (Bin .bool .eql t103 t104)) h fun t105 h =>
 go (Pick t101 t105 (.bool false)) h fun t106 h =>
 go (Gd t106 true (LdA 2 t5_2)) h fun t108 h =>
 go (Gd t106 true (Mv t8_1)) h fun t109 h =>
 go (Gd t106 true (Fld 0 t5_2)) h fun t111 h =>
 go (Gd t106 true (Mv t6_1)) h fun t113 h =>
 go (Gd t106 true (Mv t8_1)) h fun t115 h =>
 (go (Gd t106 true (CallF Try.prog 18 [t108, t109])) h fun t110 h =>
 go (Gd t106 true (Ld t111)) h fun t112 h =>
 go (Gd t106 true (Bld [(0, 1), (1, 1)] #[(.int .i64 0), (.slice none 0 0)] [(0, t112), (1, t113)])) h fun t114 h =>
 go (Gd t106 true (CallF Try.prog 18 [t114, t115])) h fun t116 h =>
 go (Gd t106 true (Bin .bool .eql t110 t116)) h fun t117 h =>
 go (Pick t106 t117 (.bool false)) h fun t118 h =>
 K t118 h) ∧
 (go (Gd t106 true (Ld t111)) h fun t112_1 h =>
 go (Gd t106 true (CallF Try.prog 18 [t108, t109])) h fun t110_1 h =>
 go (Gd t106 true (Bld [(0, 1), (1, 1)] #[(.int .i64 0), (.slice none 0 0)] [(0, t112_1), (1, t113)])) h fun t114_1 h =>
 go (Gd t106 true (CallF Try.prog 18 [t114_1, t115])) h fun t116_1 h =>
 go (Gd t106 true (Bin .bool .eql t110_1 t116_1)) h fun t117_1 h =>
 go (Pick t106 t117_1 (.bool false)) h fun t118_1 h =>
 K t118_1 h))) [t5_1, t6, t7, t8, (.int .i64 0), (.bool false), t47, t48, (.int .i64 0)] h)) [t1, t5, t27, t28, t31, t33, (.int .i64 0)] h))
set_option maxRecDepth 100000 in
theorem bradawllaw04_NormFormulas.eq : (fun t0 t1 K h => bradawllaw04_NormFormulas.pt t0 t1 K h : Value → Value → Ret → Heap → Prop) = (fun t0 t1 K h => fnPt Try.prog [11, 12, 25] Try.f5 bradawllaw04_NormFormulas.ann [t0, t1] K h) := by kernel_rfl
set_option maxRecDepth 100000 in
theorem bradawllaw04_NormFormulas.ok {t0 t1 : Value} {K : Ret} {h : Heap} (hp : bradawllaw04_NormFormulas.pt t0 t1 K h) : CallH Try.prog 5 #[t0, t1] K h :=
  fn_sound (qs := [11, 12, 25]) (fn := Try.f5) (ann := bradawllaw04_NormFormulas.ann) (args := [t0, t1]) follows_mixed Try.func5 ((Eq.to_iff (congrFun (congrFun (congrFun (congrFun (bradawllaw04_NormFormulas.eq) t0) t1) K) h)).mp hp)

/-! ### bradawl/bradawllaw04.fit: function 8 -/
abbrev bradawllaw04_fit.id : FuncId := 8
def bradawllaw04_fit.ann : Ann := (.seq none .leaf (.seq none .leaf (.seq none .leaf .leaf)))
set_option maxRecDepth 100000 in
def bradawllaw04_fit.pt (K : Ret) (h : Heap) : Prop :=
 go (BldS 3 1 3 #[(.int .i64 0)] [(0, (.int .i64 2)), (1, (.int .i64 (-1))), (2, (.int .i64 2))]) h fun t2 h =>
 go (CallF Try.prog 10 [t2]) h fun t3 h =>
 go (Len t3) h fun t5 h =>
 go (Bin .int .eql t5 (.int .i64 2)) h fun t6 h =>
 go (Gd t6 true (Mv t3)) h fun t8 h =>
 go (Gd t6 true (Idx 1 t8 (.int .i64 0))) h fun t9 h =>
 go (Gd t6 true (Ld t9)) h fun t10 h =>
 go (Gd t6 true (Bin .int .eql t10 (.int .i64 (-1)))) h fun t11 h =>
 go (Pick t6 t11 (.bool false)) h fun t12 h =>
 go (Gd t12 true (Mv t3)) h fun t14 h =>
 go (Gd t12 true (Idx 1 t14 (.int .i64 1))) h fun t15 h =>
 go (Gd t12 true (Ld t15)) h fun t16 h =>
 go (Gd t12 true (Bin .int .eql t16 (.int .i64 2))) h fun t17 h =>
 go (Pick t12 t17 (.bool false)) h fun t18 h =>
 go (Gd t18 true (BldS 3 1 3 #[(.int .i64 0)] [(0, (.int .i64 1)), (1, (.int .i64 2)), (2, (.int .i64 (-1)))])) h fun t20 h =>
 go (Gd t18 true (CallF Try.prog 13 [t20])) h fun t21 h =>
 go (Pick t18 t21 (.bool false)) h fun t22 h =>
 go (Gd t22 true (Mv t3)) h fun t24 h =>
 go (Gd t22 true (CallF Try.prog 13 [t24])) h fun t25 h =>
 go (Gd t22 true (Un .not t25)) h fun t26 h =>
 go (Pick t22 t26 (.bool false)) h fun t27 h =>
 go (Gd t27 true (Mv t3)) h fun t29 h =>
 go (Gd t27 true (BldS 3 1 2 #[(.int .i64 0)] [(0, (.int .i64 2)), (1, (.int .i64 (-1)))])) h fun t30 h =>
 go (Gd t27 true (CallF Try.prog 14 [t29, t30])) h fun t31 h =>
 go (Pick t27 t31 (.bool false)) h fun t32 h =>
 K t32 h
set_option maxRecDepth 100000 in
theorem bradawllaw04_fit.eq : (fun K h => bradawllaw04_fit.pt K h : Ret → Heap → Prop) = (fun K h => fnPt Try.prog [11, 12, 25] Try.f8 bradawllaw04_fit.ann [] K h) := by kernel_rfl
set_option maxRecDepth 100000 in
theorem bradawllaw04_fit.ok {K : Ret} {h : Heap} (hp : bradawllaw04_fit.pt K h) : CallH Try.prog 8 #[] K h :=
  fn_sound (qs := [11, 12, 25]) (fn := Try.f8) (ann := bradawllaw04_fit.ann) (args := []) follows_mixed Try.func8 ((Eq.to_iff (congrFun (congrFun (bradawllaw04_fit.eq) K) h)).mp hp)

/-! ### bradawl/bradawllaw04.clause: function 9 -/
abbrev bradawllaw04_clause.id : FuncId := 9
def bradawllaw04_clause.ann : Ann := (.seq none .leaf (.seq none .leaf (.seq none (.seq none .leaf (.block (.loop [3, 6, 7, 8] (.seq none .leaf (.seq none (.cond .leaf .leaf) (.seq (some [3, 6, 7, 8]) (.block (.seq none .leaf (.seq none .leaf (.cond .leaf .leaf)))) .leaf)))))) (.seq none .leaf .leaf))))
set_option maxRecDepth 100000 in
def bradawllaw04_clause.pt (t0 : Value) (K : Ret) (h : Heap) : Prop :=
 go (Len t0) h fun t7 h =>
 Lp 4 (fun X1 t3 t6 t7_1 t8 h =>
 go (Bin .int .lss t8 t7_1) h fun t9 h =>
 If t9 (
 Join 4 (fun J2 =>
 go (Idx 1 t6 t8) h fun t10 h =>
 go (Ld t10) h fun t11 h =>
 go (Bin .int .neq t11 (.int .i8 0)) h fun t13 h =>
 If t13 (
 go (Cvt .i64 t11) h fun t16 h =>
 go (BldS 3 1 1 #[(.int .i64 0)] [(0, t16)]) h fun t17 h =>
 go (App 3 1 8 #[(.int .i64 0)] t3 t17) h fun t18 h =>
 J2 t18 t6 t7_1 t8 h) (
 J2 t3 t6 t7_1 t8 h)) (fun t3_1 t6_1 t7_2 t8_1 h =>
 go (Bin .int .add t8_1 (.int .i64 1)) h fun t19 h =>
 X1 t3_1 t6_1 t7_2 t19 h)) (
 K t3 h)) [(.slice none 0 0), t0, t7, (.int .i64 0)] h
set_option maxRecDepth 100000 in
theorem bradawllaw04_clause.eq : (fun t0 K h => bradawllaw04_clause.pt t0 K h : Value → Ret → Heap → Prop) = (fun t0 K h => fnPt Try.prog [11, 12, 25] Try.f9 bradawllaw04_clause.ann [t0] K h) := by kernel_rfl
set_option maxRecDepth 100000 in
theorem bradawllaw04_clause.ok {t0 : Value} {K : Ret} {h : Heap} (hp : bradawllaw04_clause.pt t0 K h) : CallH Try.prog 9 #[t0] K h :=
  fn_sound (qs := [11, 12, 25]) (fn := Try.f9) (ann := bradawllaw04_clause.ann) (args := [t0]) follows_mixed Try.func9 ((Eq.to_iff (congrFun (congrFun (congrFun (bradawllaw04_clause.eq) t0) K) h)).mp hp)

/-! ### bradawl/norm.Clause: function 10 -/
abbrev norm_Clause.id : FuncId := 10
def norm_Clause.ann : Ann := (.seq none .leaf (.seq none .leaf (.seq none .leaf (.seq none .leaf .leaf))))
set_option maxRecDepth 100000 in
def norm_Clause.pt (t0 : Value) (K : Ret) (h : Heap) : Prop :=
 go (CallF Try.prog 21 [t0]) h fun t5 h =>
 go (CallF Try.prog 22 [t5, (.func (.func 23) #[] #[])]) h fun t7 h =>
 go (CallF Try.prog 24 [t5]) h fun t9 h =>
 K t9 h
set_option maxRecDepth 100000 in
theorem norm_Clause.eq : (fun t0 K h => norm_Clause.pt t0 K h : Value → Ret → Heap → Prop) = (fun t0 K h => fnPt Try.prog [11, 12, 25] Try.f10 norm_Clause.ann [t0] K h) := by kernel_rfl
set_option maxRecDepth 100000 in
theorem norm_Clause.ok {t0 : Value} {K : Ret} {h : Heap} (hp : norm_Clause.pt t0 K h) : CallH Try.prog 10 #[t0] K h :=
  fn_sound (qs := [11, 12, 25]) (fn := Try.f10) (ann := norm_Clause.ann) (args := [t0]) follows_mixed Try.func10 ((Eq.to_iff (congrFun (congrFun (congrFun (norm_Clause.eq) t0) K) h)).mp hp)

/-! ### bradawl/bradawllaw04.in: function 11 -/
abbrev bradawllaw04_in.id : FuncId := 11
def bradawllaw04_in.ann : Ann := (.seq none .leaf (.seq none (.seq none .leaf (.block (.loop [1, 7, 8, 9] (.seq none .leaf (.seq none (.cond .leaf .leaf) (.seq none (.block (.seq none .leaf (.seq none .leaf (.cond (.seq none .leaf .leaf) .leaf)))) .leaf)))))) (.seq none .leaf .leaf)))
set_option maxRecDepth 100000 in
def bradawllaw04_in.pt (t0 t1 : Value) (K : Ret) (h : Heap) : Prop :=
 go (Len t0) h fun t8 h =>
 Lp 4 (fun X1 t1_1 t7 t8_1 t9 h =>
 go (Bin .int .lss t9 t8_1) h fun t10 h =>
 If t10 (
 go (Idx 1 t7 t9) h fun t11 h =>
 go (Ld t11) h fun t12 h =>
 go (Bin .int .eql t12 t1_1) h fun t15 h =>
 If t15 (
 K (.bool true) h) (
 go (Bin .int .add t9 (.int .i64 1)) h fun t16 h =>
 X1 t1_1 t7 t8_1 t16 h)) (
 K (.bool false) h)) [t1, t0, t8, (.int .i64 0)] h
set_option maxRecDepth 100000 in
theorem bradawllaw04_in.eq : (fun t0 t1 K h => bradawllaw04_in.pt t0 t1 K h : Value → Value → Ret → Heap → Prop) = (fun t0 t1 K h => fnPt Try.prog [11, 12, 25] Try.f11 bradawllaw04_in.ann [t0, t1] K h) := by kernel_rfl
set_option maxRecDepth 100000 in
theorem bradawllaw04_in.ok {t0 t1 : Value} {K : Ret} {h : Heap} (hp : bradawllaw04_in.pt t0 t1 K h) : CallH Try.prog 11 #[t0, t1] K h :=
  fn_sound (qs := [11, 12, 25]) (fn := Try.f11) (ann := bradawllaw04_in.ann) (args := [t0, t1]) follows_mixed Try.func11 ((Eq.to_iff (congrFun (congrFun (congrFun (congrFun (bradawllaw04_in.eq) t0) t1) K) h)).mp hp)

/-! ### bradawl/bradawllaw04.form: function 12 -/
abbrev bradawllaw04_form.id : FuncId := 12
def bradawllaw04_form.ann : Ann := (.seq none .leaf (.seq none (.seq none .leaf (.block (.loop [0, 3] (.seq none (.seq none .leaf (.cond .leaf .leaf)) (.seq none (.block (.seq none .leaf (.cond (.seq none .leaf .leaf) .leaf))) .leaf))))) (.seq none .leaf .leaf)))
set_option maxRecDepth 100000 in
def bradawllaw04_form.pt (t0 : Value) (K : Ret) (h : Heap) : Prop :=
 Lp 2 (fun X1 t0_1 t3 h =>
 go (Len t0_1) h fun t6 h =>
 go (Bin .int .lss t3 t6) h fun t7 h =>
 If t7 (
 go (Bin .int .sub t3 (.int .i64 1)) h fun t12 h =>
 go (Idx 1 t0_1 t12) h fun t13 h =>
 go (Ld t13) h fun t14 h =>
 go (QCall Try.prog 25 [t14]) h fun t15 h =>
 go (Idx 1 t0_1 t3) h fun t18 h =>
 go (Ld t18) h fun t19 h =>
 go (QCall Try.prog 25 [t19]) h fun t20 h =>
 go (Bin .int .geq t15 t20) h fun t21 h =>
 If t21 (
 K (.bool false) h) (
 go (Bin .int .add t3 (.int .i64 1)) h fun t9 h =>
 X1 t0_1 t9 h)) (
 K (.bool true) h)) [t0, (.int .i64 1)] h
set_option maxRecDepth 100000 in
theorem bradawllaw04_form.eq : (fun t0 K h => bradawllaw04_form.pt t0 K h : Value → Ret → Heap → Prop) = (fun t0 K h => fnPt Try.prog [11, 12, 25] Try.f12 bradawllaw04_form.ann [t0] K h) := by kernel_rfl
set_option maxRecDepth 100000 in
theorem bradawllaw04_form.ok {t0 : Value} {K : Ret} {h : Heap} (hp : bradawllaw04_form.pt t0 K h) : CallH Try.prog 12 #[t0] K h :=
  fn_sound (qs := [11, 12, 25]) (fn := Try.f12) (ann := bradawllaw04_form.ann) (args := [t0]) follows_mixed Try.func12 ((Eq.to_iff (congrFun (congrFun (congrFun (bradawllaw04_form.eq) t0) K) h)).mp hp)

/-! ### bradawl/norm.Tautology: function 13 -/
abbrev norm_Tautology.id : FuncId := 13
def norm_Tautology.ann : Ann := (.seq none .leaf (.seq none .leaf (.seq none (.seq none .leaf (.block (.loop [3, 4] (.seq none (.seq none .leaf (.cond .leaf .leaf)) (.seq none (.block (.seq none .leaf (.cond (.seq none .leaf .leaf) .leaf))) .leaf))))) (.seq none .leaf .leaf))))
set_option maxRecDepth 100000 in
def norm_Tautology.pt (t0 : Value) (K : Ret) (h : Heap) : Prop :=
 go (CallF Try.prog 10 [t0]) h fun t6 h =>
 Lp 2 (fun X1 t3 t4 h =>
 go (Len t3) h fun t9 h =>
 go (Bin .int .lss t4 t9) h fun t10 h =>
 If t10 (
 go (Idx 1 t3 t4) h fun t15 h =>
 go (Ld t15) h fun t16 h =>
 go (Bin .int .sub t4 (.int .i64 1)) h fun t19 h =>
 go (Idx 1 t3 t19) h fun t20 h =>
 go (Ld t20) h fun t21 h =>
 go (Un .neg t21) h fun t22 h =>
 go (Bin .int .eql t16 t22) h fun t23 h =>
 If t23 (
 K (.bool true) h) (
 go (Bin .int .add t4 (.int .i64 1)) h fun t12 h =>
 X1 t3 t12 h)) (
 K (.bool false) h)) [t6, (.int .i64 1)] h
set_option maxRecDepth 100000 in
theorem norm_Tautology.eq : (fun t0 K h => norm_Tautology.pt t0 K h : Value → Ret → Heap → Prop) = (fun t0 K h => fnPt Try.prog [11, 12, 25] Try.f13 norm_Tautology.ann [t0] K h) := by kernel_rfl
set_option maxRecDepth 100000 in
theorem norm_Tautology.ok {t0 : Value} {K : Ret} {h : Heap} (hp : norm_Tautology.pt t0 K h) : CallH Try.prog 13 #[t0] K h :=
  fn_sound (qs := [11, 12, 25]) (fn := Try.f13) (ann := norm_Tautology.ann) (args := [t0]) follows_mixed Try.func13 ((Eq.to_iff (congrFun (congrFun (congrFun (norm_Tautology.eq) t0) K) h)).mp hp)

/-! ### bradawl/norm.Same: function 14 -/
abbrev norm_Same.id : FuncId := 14
def norm_Same.ann : Ann := (.seq none .leaf (.seq none .leaf .leaf))
set_option maxRecDepth 100000 in
def norm_Same.pt (t0 t1 : Value) (K : Ret) (h : Heap) : Prop :=
 go (CallF Try.prog 10 [t0]) h fun t6 h =>
 go (CallF Try.prog 10 [t1]) h fun t8 h =>
 go (CallF Try.prog 26 [t6, t8]) h fun t9 h =>
 K t9 h
set_option maxRecDepth 100000 in
theorem norm_Same.eq : (fun t0 t1 K h => norm_Same.pt t0 t1 K h : Value → Value → Ret → Heap → Prop) = (fun t0 t1 K h => fnPt Try.prog [11, 12, 25] Try.f14 norm_Same.ann [t0, t1] K h) := by kernel_rfl
set_option maxRecDepth 100000 in
theorem norm_Same.ok {t0 t1 : Value} {K : Ret} {h : Heap} (hp : norm_Same.pt t0 t1 K h) : CallH Try.prog 14 #[t0, t1] K h :=
  fn_sound (qs := [11, 12, 25]) (fn := Try.f14) (ann := norm_Same.ann) (args := [t0, t1]) follows_mixed Try.func14 ((Eq.to_iff (congrFun (congrFun (congrFun (congrFun (norm_Same.eq) t0) t1) K) h)).mp hp)

/-! ### (bradawl/bradawllaw02.Raw).Light: function 15 -/
abbrev bradawllaw02_Raw_Light.id : FuncId := 15
def bradawllaw02_Raw_Light.ann : Ann := (.seq none .leaf (.seq none .leaf (.seq none (.seq none .leaf (.block (.loop [1, 2, 5, 9, 10, 11] (.seq none .leaf (.seq none (.cond .leaf .leaf) (.seq none (.block (.seq none .leaf (.seq none .leaf (.seq none .leaf (.cond (.seq none .leaf .leaf) .leaf))))) .leaf)))))) (.seq none .leaf .leaf))))
set_option maxRecDepth 100000 in
def bradawllaw02_Raw_Light.pt (t0 t1 : Value) (K : Ret) (h : Heap) : Prop :=
 go (New (Value.cells t0) 34) h fun t2 h =>
 go (Fld 1 t2) h fun t8 h =>
 go (Ld t8) h fun t9 h =>
 go (Len t9) h fun t10 h =>
 Lp 6 (fun X1 t1_1 t2_1 t5 t9_1 t10_1 t11 h =>
 go (Bin .int .lss t11 t10_1) h fun t12 h =>
 If t12 (
 go (Idx 1 t9_1 t11) h fun t13 h =>
 go (Ld t13) h fun t14 h =>
 go (Len t14) h fun t17 h =>
 go (Bin .int .add (.int .i64 1) t17) h fun t18 h =>
 go (Bin .int .add t5 t18) h fun t19 h =>
 go (Bin .int .mul (.int .i64 10) t1_1) h fun t22 h =>
 go (Bin .int .gtr t19 t22) h fun t23 h =>
 If t23 (
 K (.bool false) h) (
 go (Bin .int .add t11 (.int .i64 1)) h fun t24 h =>
 X1 t1_1 t2_1 t19 t9_1 t10_1 t24 h)) (
 go (Fld 1 t2_1) h fun t25 h =>
 go (Ld t25) h fun t26 h =>
 go (Len t26) h fun t27 h =>
 go (Bin .int .leq t27 t1_1) h fun t29 h =>
 K t29 h)) [t1, t2, (.int .i64 0), t9, t10, (.int .i64 0)] h
set_option maxRecDepth 100000 in
theorem bradawllaw02_Raw_Light.eq : (fun t0 t1 K h => bradawllaw02_Raw_Light.pt t0 t1 K h : Value → Value → Ret → Heap → Prop) = (fun t0 t1 K h => fnPt Try.prog [11, 12, 25] Try.f15 bradawllaw02_Raw_Light.ann [t0, t1] K h) := by kernel_rfl
set_option maxRecDepth 100000 in
theorem bradawllaw02_Raw_Light.ok {t0 t1 : Value} {K : Ret} {h : Heap} (hp : bradawllaw02_Raw_Light.pt t0 t1 K h) : CallH Try.prog 15 #[t0, t1] K h :=
  fn_sound (qs := [11, 12, 25]) (fn := Try.f15) (ann := bradawllaw02_Raw_Light.ann) (args := [t0, t1]) follows_mixed Try.func15 ((Eq.to_iff (congrFun (congrFun (congrFun (congrFun (bradawllaw02_Raw_Light.eq) t0) t1) K) h)).mp hp)

/-! ### (bradawl/bradawllaw02.Raw).Formula: function 16 -/
abbrev bradawllaw02_Raw_Formula.id : FuncId := 16
def bradawllaw02_Raw_Formula.ann : Ann := (.seq none .leaf (.seq none .leaf (.seq none (.seq none .leaf (.block (.loop [2, 6, 7, 22, 23, 24] (.seq none .leaf (.seq none (.cond .leaf .leaf) (.seq none (.block (.seq none .leaf (.seq none .leaf (.seq (some [2, 6, 7, 10, 22, 23, 24]) (.seq none .leaf (.block (.loop [2, 6, 7, 10, 22, 23, 24, 28, 29, 30] (.seq none .leaf (.seq none (.cond .leaf .leaf) (.seq none (.block (.seq none .leaf (.seq none (.seq none .leaf (.cond .leaf .leaf)) (.seq none .leaf (.seq (some [2, 6, 7, 10, 13, 22, 23, 24, 28, 29, 30]) (.seq none .leaf (.cond .leaf .leaf)) .leaf))))) .leaf)))))) .leaf)))) .leaf)))))) (.seq none .leaf .leaf))))
set_option maxRecDepth 100000 in
def bradawllaw02_Raw_Formula.pt (t0 t1 t2 : Value) (K : Ret) (h : Heap) : Prop :=
 go (New (Value.cells t0) 34) h fun t3 h =>
 go (New #[(.int .i64 0), (.slice none 0 0)] 39) h fun t6 h =>
 go (Fld 0 t3) h fun t14 h =>
 go (Ld t14) h fun t15 h =>
 go (Cvt .i64 t15) h fun t16 h =>
 go (Bin .int .add t1 (.int .i64 1)) h fun t18 h =>
 go (Bin .int .rem t16 t18) h fun t19 h =>
 go (Bld [(0, 1), (1, 1)] #[(.int .i64 0), (.slice none 0 0)] [(0, t19)]) h fun t20 h =>
 go (New #[(.int .i64 0), (.slice none 0 0)] 39) h fun t7 h =>
 go (StA 2 t7 t20) h fun _ h =>
 go (Fld 1 t3) h fun t21 h =>
 go (Ld t21) h fun t22 h =>
 go (Len t22) h fun t23 h =>
 Lp 6 (fun X1 t2_1 t6_1 t7_1 t22_1 t23_1 t24 h =>
 go (Bin .int .lss t24 t23_1) h fun t25 h =>
 If t25 (
 go (Idx 1 t22_1 t24) h fun t26 h =>
 go (Ld t26) h fun t27 h =>
 Join 7 (fun J2 =>
 go (Len t27) h fun t29 h =>
 Lp 10 (fun X3 t2_2 t6_2 t7_2 t10 t22_2 t23_2 t24_1 t28 t29_1 t30 h =>
 go (Bin .int .lss t30 t29_1) h fun t31 h =>
 If t31 (
 go (Idx 1 t28 t30) h fun t32 h =>
 go (Ld t32) h fun t33 h =>
 go (Fld 0 t7_2) h fun t34 h =>
 go (Ld t34) h fun t35 h =>
 go (Bin .int .eql t35 (.int .i64 0)) h fun t36 h =>
 go (Gd t36 false (Mv t10)) h fun t38 h =>
 go (Gd t36 false (Len t38)) h fun t39 h =>
 go (Gd t36 false (Mv t2_2)) h fun t40 h =>
 go (Gd t36 false (Bin .int .eql t39 t40)) h fun t41 h =>
 go (Pick t36 (.bool true) t41) h fun t42 h =>
 If t42 (
 J2 t2_2 t6_2 t7_2 t10 t22_2 t23_2 t24_1 h) (
 go (Cvt .u16 t33) h fun t44 h =>
 go (Bin .int .shr t44 (.int .u64 1)) h fun t45 h =>
 go (Cvt .i64 t45) h fun t46 h =>
 go (Fld 0 t7_2) h fun t47 h =>
 go (Ld t47) h fun t48 h =>
 go (Bin .int .rem t46 t48) h fun t49 h =>
 go (Bin .int .add (.int .i64 1) t49) h fun t50 h =>
 Join 11 (fun J4 =>
 go (Bin .int .and t33 (.int .i16 1)) h fun t52 h =>
 go (Bin .int .eql t52 (.int .i16 1)) h fun t53 h =>
 If t53 (
 go (Un .neg t50) h fun t55 h =>
 J4 t2_2 t6_2 t7_2 t10 t55 t22_2 t23_2 t24_1 t28 t29_1 t30 h) (
 J4 t2_2 t6_2 t7_2 t10 t50 t22_2 t23_2 t24_1 t28 t29_1 t30 h)) (fun t2_3 t6_3 t7_3 t10_1 t13 t22_3 t23_3 t24_2 t28_1 t29_2 t30_1 h =>
 go (BldS 3 1 1 #[(.int .i64 0)] [(0, t13)]) h fun t58 h =>
 go (App 3 1 8 #[(.int .i64 0)] t10_1 t58) h fun t59 h =>
 go (Bin .int .add t30_1 (.int .i64 1)) h fun t60 h =>
 X3 t2_3 t6_3 t7_3 t59 t22_3 t23_3 t24_2 t28_1 t29_2 t60 h))) (
 J2 t2_2 t6_2 t7_2 t10 t22_2 t23_2 t24_1 h)) [t2_1, t6_1, t7_1, (.slice none 0 0), t22_1, t23_1, t24, t27, t29, (.int .i64 0)] h) (fun t2_4 t6_4 t7_4 t10_2 t22_4 t23_4 t24_3 h =>
 go (Fld 1 t7_4) h fun t61 h =>
 go (Ld t61) h fun t62 h =>
 go (BldS 24 1 1 #[(.slice none 0 0)] [(0, t10_2)]) h fun t64 h =>
 go (App 24 1 24 #[(.slice none 0 0)] t62 t64) h fun t65 h =>
 go (Fld 1 t7_4) h fun t66 h =>
 go (St t66 t65) h fun _ h =>
 go (Bin .int .add t24_3 (.int .i64 1)) h fun t67 h =>
 X1 t2_4 t6_4 t7_4 t22_4 t23_4 t67 h)) (
 go (LdA 2 t7_1) h fun t68 h =>
 go (StA 2 t6_1 t68) h fun _ h =>
 go (LdA 2 t6_1) h fun r0 h =>
 K r0 h)) [t2, t6, t7, t22, t23, (.int .i64 0)] h
set_option maxRecDepth 100000 in
theorem bradawllaw02_Raw_Formula.eq : (fun t0 t1 t2 K h => bradawllaw02_Raw_Formula.pt t0 t1 t2 K h : Value → Value → Value → Ret → Heap → Prop) = (fun t0 t1 t2 K h => fnPt Try.prog [11, 12, 25] Try.f16 bradawllaw02_Raw_Formula.ann [t0, t1, t2] K h) := by kernel_rfl
set_option maxRecDepth 100000 in
theorem bradawllaw02_Raw_Formula.ok {t0 t1 t2 : Value} {K : Ret} {h : Heap} (hp : bradawllaw02_Raw_Formula.pt t0 t1 t2 K h) : CallH Try.prog 16 #[t0, t1, t2] K h :=
  fn_sound (qs := [11, 12, 25]) (fn := Try.f16) (ann := bradawllaw02_Raw_Formula.ann) (args := [t0, t1, t2]) follows_mixed Try.func16 ((Eq.to_iff (congrFun (congrFun (congrFun (congrFun (congrFun (bradawllaw02_Raw_Formula.eq) t0) t1) t2) K) h)).mp hp)

/-! ### bradawl/norm.Formula: function 17 -/
abbrev norm_Formula.id : FuncId := 17
def norm_Formula.ann : Ann := (.seq none .leaf (.seq none .leaf (.seq none .leaf (.seq none (.seq none .leaf (.block (.loop [4, 5, 9, 10, 11] (.seq none .leaf (.seq none (.cond .leaf .leaf) (.seq (some [4, 5, 9, 10, 11]) (.block (.seq none .leaf (.seq none .leaf (.cond (.seq none .leaf .leaf) .leaf)))) .leaf)))))) (.seq none .leaf .leaf)))))
set_option maxRecDepth 100000 in
def norm_Formula.pt (t0 : Value) (K : Ret) (h : Heap) : Prop :=
 go (New (Value.cells t0) 39) h fun t1 h =>
 go (Fld 1 t1) h fun t8 h =>
 go (Ld t8) h fun t9 h =>
 go (Len t9) h fun t10 h =>
 Lp 5 (fun X1 t4 t5 t9_1 t10_1 t11 h =>
 go (Bin .int .lss t11 t10_1) h fun t12 h =>
 If t12 (
 Join 5 (fun J2 =>
 go (Idx 1 t9_1 t11) h fun t13 h =>
 go (Ld t13) h fun t14 h =>
 go (CallF Try.prog 13 [t14]) h fun t16 h =>
 go (Un .not t16) h fun t17 h =>
 If t17 (
 go (CallF Try.prog 10 [t14]) h fun t20 h =>
 go (BldS 24 1 1 #[(.slice none 0 0)] [(0, t20)]) h fun t21 h =>
 go (App 24 1 24 #[(.slice none 0 0)] t4 t21) h fun t22 h =>
 go (Gd t5 false (Mv t14)) h fun t25 h =>
 go (Gd t5 false (Len t25)) h fun t26 h =>
 go (Gd t5 false (Bin .int .eql t26 (.int .i64 0))) h fun t27 h =>
 go (Pick t5 (.bool true) t27) h fun t28 h =>
 J2 t22 t28 t9_1 t10_1 t11 h) (
 J2 t4 t5 t9_1 t10_1 t11 h)) (fun t4_1 t5_1 t9_2 t10_2 t11_1 h =>
 go (Bin .int .add t11_1 (.int .i64 1)) h fun t29 h =>
 X1 t4_1 t5_1 t9_2 t10_2 t29 h)) (
 K (.tuple #[t4, t5]) h)) [(.slice none 0 0), (.bool false), t9, t10, (.int .i64 0)] h
set_option maxRecDepth 100000 in
theorem norm_Formula.eq : (fun t0 K h => norm_Formula.pt t0 K h : Value → Ret → Heap → Prop) = (fun t0 K h => fnPt Try.prog [11, 12, 25] Try.f17 norm_Formula.ann [t0] K h) := by kernel_rfl
set_option maxRecDepth 100000 in
theorem norm_Formula.ok {t0 : Value} {K : Ret} {h : Heap} (hp : norm_Formula.pt t0 K h) : CallH Try.prog 17 #[t0] K h :=
  fn_sound (qs := [11, 12, 25]) (fn := Try.f17) (ann := norm_Formula.ann) (args := [t0]) follows_mixed Try.func17 ((Eq.to_iff (congrFun (congrFun (congrFun (norm_Formula.eq) t0) K) h)).mp hp)

/-! ### bradawl/bradawllaw02.Holds: function 18 -/
abbrev bradawllaw02_Holds.id : FuncId := 18
def bradawllaw02_Holds.ann : Ann := (.seq none .leaf (.seq none (.seq none .leaf (.block (.loop [1, 11, 12, 13] (.seq none .leaf (.seq none (.cond .leaf .leaf) (.seq none (.block (.seq none .leaf (.seq none .leaf (.seq none (.seq none .leaf (.block (.loop [1, 7, 11, 12, 13, 17, 18, 19] (.seq none .leaf (.seq none (.cond .leaf .leaf) (.seq none (.block (.seq none .leaf .leaf)) .leaf)))))) (.seq none .leaf (.cond (.seq none .leaf .leaf) .leaf)))))) .leaf)))))) (.seq none .leaf .leaf)))
set_option maxRecDepth 100000 in
def bradawllaw02_Holds.pt (t0 t1 : Value) (K : Ret) (h : Heap) : Prop :=
 go (New (Value.cells t0) 39) h fun t2 h =>
 go (Fld 1 t2) h fun t10 h =>
 go (Ld t10) h fun t11 h =>
 go (Len t11) h fun t12 h =>
 Lp 4 (fun X1 t1_1 t11_1 t12_1 t13 h =>
 go (Bin .int .lss t13 t12_1) h fun t14 h =>
 If t14 (
 go (Idx 1 t11_1 t13) h fun t15 h =>
 go (Ld t15) h fun t16 h =>
 go (Len t16) h fun t18 h =>
 Lp 8 (fun X2 t1_2 t7 t11_2 t12_2 t13_1 t17 t18_1 t19 h =>
 go (Bin .int .lss t19 t18_1) h fun t20 h =>
 If t20 (
 go (Idx 1 t17 t19) h fun t21 h =>
 go (Ld t21) h fun t22 h =>
 go (Gd t7 false (Mv t22)) h fun t25 h =>
 go (Gd t7 false (Bin .int .gtr t25 (.int .i64 0))) h fun t26 h =>
 go (Gd t7 false (Mv t26)) h fun t27 h =>
 go (Gd t27 true (Mv t1_2)) h fun t28 h =>
 go (Gd t27 true (Mv t22)) h fun t29 h =>
 go (Gd t27 true (Bin .int .sub t29 (.int .i64 1))) h fun t30 h =>
 go (Gd t27 true (Idx 1 t28 t30)) h fun t31 h =>
 go (Gd t27 true (Ld t31)) h fun t32 h =>
 go (Gd t7 false (Pick t27 t32 (.bool false))) h fun t33 h =>
 go (Pick t7 (.bool true) t33) h fun t34 h =>
 go (Gd t34 false (Mv t22)) h fun t36 h =>
 go (Gd t34 false (Bin .int .lss t36 (.int .i64 0))) h fun t37 h =>
 go (Gd t34 false (Mv t37)) h fun t38 h =>
 go (Gd t38 true (Mv t1_2)) h fun t39 h =>
 go (Gd t38 true (Mv t22)) h fun t40 h =>
 go (Gd t38 true (Un .neg t40)) h fun t41 h =>
 go (Gd t38 true (Bin .int .sub t41 (.int .i64 1))) h fun t42 h =>
 go (Gd t38 true (Idx 1 t39 t42)) h fun t43 h =>
 go (Gd t38 true (Ld t43)) h fun t44 h =>
 go (Gd t38 true (Un .not t44)) h fun t45 h =>
 go (Gd t34 false (Pick t38 t45 (.bool false))) h fun t46 h =>
 go (Pick t34 (.bool true) t46) h fun t47 h =>
 go (Bin .int .add t19 (.int .i64 1)) h fun t48 h =>
 X2 t1_2 t47 t11_2 t12_2 t13_1 t17 t18_1 t48 h) (
 go (Un .not t7) h fun t50 h =>
 If t50 (
 K (.bool false) h) (
 go (Bin .int .add t13_1 (.int .i64 1)) h fun t51 h =>
 X1 t1_2 t11_2 t12_2 t51 h))) [t1_1, (.bool false), t11_1, t12_1, t13, t16, t18, (.int .i64 0)] h) (
 K (.bool true) h)) [t1, t11, t12, (.int .i64 0)] h
set_option maxRecDepth 100000 in
theorem bradawllaw02_Holds.eq : (fun t0 t1 K h => bradawllaw02_Holds.pt t0 t1 K h : Value → Value → Ret → Heap → Prop) = (fun t0 t1 K h => fnPt Try.prog [11, 12, 25] Try.f18 bradawllaw02_Holds.ann [t0, t1] K h) := by kernel_rfl
set_option maxRecDepth 100000 in
theorem bradawllaw02_Holds.ok {t0 t1 : Value} {K : Ret} {h : Heap} (hp : bradawllaw02_Holds.pt t0 t1 K h) : CallH Try.prog 18 #[t0, t1] K h :=
  fn_sound (qs := [11, 12, 25]) (fn := Try.f18) (ann := bradawllaw02_Holds.ann) (args := [t0, t1]) follows_mixed Try.func18 ((Eq.to_iff (congrFun (congrFun (congrFun (congrFun (bradawllaw02_Holds.eq) t0) t1) K) h)).mp hp)

/-! ### bradawl/norm.Resolve: function 19 -/
abbrev norm_Resolve.id : FuncId := 19
def norm_Resolve.ann : Ann := (.seq none .leaf (.seq none .leaf .leaf))
set_option maxRecDepth 100000 in
def norm_Resolve.pt (t0 t1 t2 : Value) (K : Ret) (h : Heap) : Prop :=
 go (CallF Try.prog 20 [t0, t2]) h fun t9 h =>
 go (Un .neg t2) h fun t12 h =>
 go (CallF Try.prog 20 [t1, t12]) h fun t13 h =>
 go (App 3 1 8 #[(.int .i64 0)] t9 t13) h fun t14 h =>
 go (CallF Try.prog 10 [t14]) h fun t15 h =>
 K t15 h
set_option maxRecDepth 100000 in
theorem norm_Resolve.eq : (fun t0 t1 t2 K h => norm_Resolve.pt t0 t1 t2 K h : Value → Value → Value → Ret → Heap → Prop) = (fun t0 t1 t2 K h => fnPt Try.prog [11, 12, 25] Try.f19 norm_Resolve.ann [t0, t1, t2] K h) := by kernel_rfl
set_option maxRecDepth 100000 in
theorem norm_Resolve.ok {t0 t1 t2 : Value} {K : Ret} {h : Heap} (hp : norm_Resolve.pt t0 t1 t2 K h) : CallH Try.prog 19 #[t0, t1, t2] K h :=
  fn_sound (qs := [11, 12, 25]) (fn := Try.f19) (ann := norm_Resolve.ann) (args := [t0, t1, t2]) follows_mixed Try.func19 ((Eq.to_iff (congrFun (congrFun (congrFun (congrFun (congrFun (norm_Resolve.eq) t0) t1) t2) K) h)).mp hp)

/-! ### bradawl/norm.Without: function 20 -/
abbrev norm_Without.id : FuncId := 20
def norm_Without.ann : Ann := (.seq none .leaf (.seq none .leaf .leaf))
set_option maxRecDepth 100000 in
def norm_Without.pt (t0 t1 : Value) (K : Ret) (h : Heap) : Prop :=
 go (New (Value.cells t1) 3) h fun t3 h =>
 go (CallF Try.prog 10 [t0]) h fun t6 h =>
 go (CallF Try.prog 27 [t6, (.func (.func 28) #[] #[t3])]) h fun t8 h =>
 K t8 h
set_option maxRecDepth 100000 in
theorem norm_Without.eq : (fun t0 t1 K h => norm_Without.pt t0 t1 K h : Value → Value → Ret → Heap → Prop) = (fun t0 t1 K h => fnPt Try.prog [11, 12, 25] Try.f20 norm_Without.ann [t0, t1] K h) := by kernel_rfl
set_option maxRecDepth 100000 in
theorem norm_Without.ok {t0 t1 : Value} {K : Ret} {h : Heap} (hp : norm_Without.pt t0 t1 K h) : CallH Try.prog 20 #[t0, t1] K h :=
  fn_sound (qs := [11, 12, 25]) (fn := Try.f20) (ann := norm_Without.ann) (args := [t0, t1]) follows_mixed Try.func20 ((Eq.to_iff (congrFun (congrFun (congrFun (congrFun (norm_Without.eq) t0) t1) K) h)).mp hp)

/-! ### slices.Clone[[]int,int]: function 21 -/
abbrev slices_Clone_int_int.id : FuncId := 21
def slices_Clone_int_int.ann : Ann := (.seq none .leaf (.seq none (.seq none .leaf (.cond (.seq none .leaf .leaf) .leaf)) (.seq none .leaf .leaf)))
set_option maxRecDepth 100000 in
def slices_Clone_int_int.pt (t0 : Value) (K : Ret) (h : Heap) : Prop :=
 go (Bin .slice .eql t0 (.slice none 0 0)) h fun t4 h =>
 If t4 (
 K (.slice none 0 0) h) (
 go (Bld0 3) h fun t5 h =>
 go (App 3 1 8 #[(.int .i64 0)] t5 t0) h fun t7 h =>
 K t7 h)
set_option maxRecDepth 100000 in
theorem slices_Clone_int_int.eq : (fun t0 K h => slices_Clone_int_int.pt t0 K h : Value → Ret → Heap → Prop) = (fun t0 K h => fnPt Try.prog [11, 12, 25] Try.f21 slices_Clone_int_int.ann [t0] K h) := by kernel_rfl
set_option maxRecDepth 100000 in
theorem slices_Clone_int_int.ok {t0 : Value} {K : Ret} {h : Heap} (hp : slices_Clone_int_int.pt t0 K h) : CallH Try.prog 21 #[t0] K h :=
  fn_sound (qs := [11, 12, 25]) (fn := Try.f21) (ann := slices_Clone_int_int.ann) (args := [t0]) follows_mixed Try.func21 ((Eq.to_iff (congrFun (congrFun (congrFun (slices_Clone_int_int.eq) t0) K) h)).mp hp)

/-! ### slices.SortFunc[[]int,int]: function 22 -/
abbrev slices_SortFunc_int_int.id : FuncId := 22
def slices_SortFunc_int_int.ann : Ann := (.seq none .leaf .leaf)
set_option maxRecDepth 100000 in
def slices_SortFunc_int_int.pt (t0 t1 : Value) (K : Ret) (h : Heap) : Prop :=
 go (Len t0) h fun t6 h =>
 go (Cvt .u64 t6) h fun t10 h =>
 go (CallF Try.prog 30 [t10]) h fun t11 h =>
 go (CallF Try.prog 29 [t0, (.int .i64 0), t6, t11, t1]) h fun t13 h =>
 K (.tuple #[]) h
set_option maxRecDepth 100000 in
theorem slices_SortFunc_int_int.eq : (fun t0 t1 K h => slices_SortFunc_int_int.pt t0 t1 K h : Value → Value → Ret → Heap → Prop) = (fun t0 t1 K h => fnPt Try.prog [11, 12, 25] Try.f22 slices_SortFunc_int_int.ann [t0, t1] K h) := by kernel_rfl
set_option maxRecDepth 100000 in
theorem slices_SortFunc_int_int.ok {t0 t1 : Value} {K : Ret} {h : Heap} (hp : slices_SortFunc_int_int.pt t0 t1 K h) : CallH Try.prog 22 #[t0, t1] K h :=
  fn_sound (qs := [11, 12, 25]) (fn := Try.f22) (ann := slices_SortFunc_int_int.ann) (args := [t0, t1]) follows_mixed Try.func22 ((Eq.to_iff (congrFun (congrFun (congrFun (congrFun (slices_SortFunc_int_int.eq) t0) t1) K) h)).mp hp)

/-! ### bradawl/lit.Compare: function 23 -/
abbrev lit_Compare.id : FuncId := 23
def lit_Compare.ann : Ann := (.seq none .leaf (.seq none .leaf .leaf))
set_option maxRecDepth 100000 in
def lit_Compare.pt (t0 t1 : Value) (K : Ret) (h : Heap) : Prop :=
 go (CallF Try.prog 32 [t0]) h fun t6 h =>
 go (CallF Try.prog 32 [t1]) h fun t8 h =>
 go (CallF Try.prog 31 [t6, t8]) h fun t9 h =>
 K t9 h
set_option maxRecDepth 100000 in
theorem lit_Compare.eq : (fun t0 t1 K h => lit_Compare.pt t0 t1 K h : Value → Value → Ret → Heap → Prop) = (fun t0 t1 K h => fnPt Try.prog [11, 12, 25] Try.f23 lit_Compare.ann [t0, t1] K h) := by kernel_rfl
set_option maxRecDepth 100000 in
theorem lit_Compare.ok {t0 t1 : Value} {K : Ret} {h : Heap} (hp : lit_Compare.pt t0 t1 K h) : CallH Try.prog 23 #[t0, t1] K h :=
  fn_sound (qs := [11, 12, 25]) (fn := Try.f23) (ann := lit_Compare.ann) (args := [t0, t1]) follows_mixed Try.func23 ((Eq.to_iff (congrFun (congrFun (congrFun (congrFun (lit_Compare.eq) t0) t1) K) h)).mp hp)

/-! ### slices.Compact[[]int,int]: function 24 -/
abbrev slices_Compact_int_int.id : FuncId := 24
def slices_Compact_int_int.ann : Ann := (.seq none .leaf (.seq none (.seq none .leaf (.cond (.seq none .leaf .leaf) .leaf)) (.seq none (.seq none .leaf (.block (.loop [0, 3] (.seq none (.seq none .leaf (.cond .leaf .leaf)) (.seq none (.block (.seq none .leaf (.cond (.seq none .leaf (.seq none (.seq none .leaf (.block (.loop [0, 3, 4, 5] (.seq none (.seq none .leaf (.cond .leaf .leaf)) (.seq (some [0, 3, 4, 5]) (.block (.seq none .leaf (.cond (.seq none .leaf .leaf) .leaf))) .leaf))))) (.seq none .leaf (.seq none .leaf .leaf)))) .leaf))) .leaf))))) (.seq none .leaf .leaf))))
set_option maxRecDepth 100000 in
def slices_Compact_int_int.pt (t0 : Value) (K : Ret) (h : Heap) : Prop :=
 go (Len t0) h fun t7 h =>
 go (Bin .int .lss t7 (.int .i64 2)) h fun t8 h =>
 If t8 (
 K t0 h) (
 Lp 2 (fun X1 t0_1 t3 h =>
 go (Len t0_1) h fun t12 h =>
 go (Bin .int .lss t3 t12) h fun t13 h =>
 If t13 (
 go (Idx 1 t0_1 t3) h fun t18 h =>
 go (Ld t18) h fun t19 h =>
 go (Bin .int .sub t3 (.int .i64 1)) h fun t22 h =>
 go (Idx 1 t0_1 t22) h fun t23 h =>
 go (Ld t23) h fun t24 h =>
 go (Bin .int .eql t19 t24) h fun t25 h =>
 If t25 (
 go (Slc 1 t0_1 (some t3) none none) h fun t28 h =>
 Lp 4 (fun X2 t0_2 t3_1 t4 t5 h =>
 go (Len t4) h fun t31 h =>
 go (Bin .int .lss t5 t31) h fun t32 h =>
 If t32 (
 Join 4 (fun J3 =>
 go (Idx 1 t4 t5) h fun t37 h =>
 go (Ld t37) h fun t38 h =>
 go (Bin .int .sub t5 (.int .i64 1)) h fun t41 h =>
 go (Idx 1 t4 t41) h fun t42 h =>
 go (Ld t42) h fun t43 h =>
 go (Bin .int .neq t38 t43) h fun t44 h =>
 If t44 (
 go (Idx 1 t4 t5) h fun t49 h =>
 go (Ld t49) h fun t50 h =>
 go (Idx 1 t0_2 t3_1) h fun t51 h =>
 go (St t51 t50) h fun _ h =>
 go (Bin .int .add t3_1 (.int .i64 1)) h fun t53 h =>
 J3 t0_2 t53 t4 t5 h) (
 J3 t0_2 t3_1 t4 t5 h)) (fun t0_3 t3_2 t4_1 t5_1 h =>
 go (Bin .int .add t5_1 (.int .i64 1)) h fun t34 h =>
 X2 t0_3 t3_2 t4_1 t34 h)) (
 go (Slc 1 t0_2 (some t3_1) none none) h fun t56 h =>
 go (Clr #[(.int .i64 0)] t56) h fun _ h =>
 go (Slc 1 t0_2 none (some t3_1) none) h fun t59 h =>
 K t59 h)) [t0_1, t3, t28, (.int .i64 1)] h) (
 go (Bin .int .add t3 (.int .i64 1)) h fun t15 h =>
 X1 t0_1 t15 h)) (
 K t0_1 h)) [t0, (.int .i64 1)] h)
set_option maxRecDepth 100000 in
theorem slices_Compact_int_int.eq : (fun t0 K h => slices_Compact_int_int.pt t0 K h : Value → Ret → Heap → Prop) = (fun t0 K h => fnPt Try.prog [11, 12, 25] Try.f24 slices_Compact_int_int.ann [t0] K h) := by kernel_rfl
set_option maxRecDepth 100000 in
theorem slices_Compact_int_int.ok {t0 : Value} {K : Ret} {h : Heap} (hp : slices_Compact_int_int.pt t0 K h) : CallH Try.prog 24 #[t0] K h :=
  fn_sound (qs := [11, 12, 25]) (fn := Try.f24) (ann := slices_Compact_int_int.ann) (args := [t0]) follows_mixed Try.func24 ((Eq.to_iff (congrFun (congrFun (congrFun (slices_Compact_int_int.eq) t0) K) h)).mp hp)

/-! ### bradawl/bradawllaw04.index: function 25 -/
abbrev bradawllaw04_index.id : FuncId := 25
def bradawllaw04_index.ann : Ann := (.seq none .leaf (.seq none (.seq none .leaf (.cond (.seq none .leaf .leaf) .leaf)) (.seq none .leaf .leaf)))
set_option maxRecDepth 100000 in
def bradawllaw04_index.pt (t0 : Value) (K : Ret) (h : Heap) : Prop :=
 go (Bin .int .lss t0 (.int .i64 0)) h fun t4 h =>
 If t4 (
 go (Bin .int .mul (.int .i64 (-2)) t0) h fun t6 h =>
 go (Bin .int .sub t6 (.int .i64 1)) h fun t7 h =>
 K t7 h) (
 go (Bin .int .mul (.int .i64 2) t0) h fun t9 h =>
 go (Bin .int .sub t9 (.int .i64 2)) h fun t10 h =>
 K t10 h)
set_option maxRecDepth 100000 in
theorem bradawllaw04_index.eq : (fun t0 K h => bradawllaw04_index.pt t0 K h : Value → Ret → Heap → Prop) = (fun t0 K h => fnPt Try.prog [11, 12, 25] Try.f25 bradawllaw04_index.ann [t0] K h) := by kernel_rfl
set_option maxRecDepth 100000 in
theorem bradawllaw04_index.ok {t0 : Value} {K : Ret} {h : Heap} (hp : bradawllaw04_index.pt t0 K h) : CallH Try.prog 25 #[t0] K h :=
  fn_sound (qs := [11, 12, 25]) (fn := Try.f25) (ann := bradawllaw04_index.ann) (args := [t0]) follows_mixed Try.func25 ((Eq.to_iff (congrFun (congrFun (congrFun (bradawllaw04_index.eq) t0) K) h)).mp hp)

/-! ### slices.Equal[[]int,int]: function 26 -/
abbrev slices_Equal_int_int.id : FuncId := 26
def slices_Equal_int_int.ann : Ann := (.seq none .leaf (.seq none (.seq none .leaf (.cond (.seq none .leaf .leaf) .leaf)) (.seq none (.seq none .leaf (.block (.loop [0, 1, 12, 13] (.seq none .leaf (.seq none (.cond .leaf .leaf) (.seq none (.block (.seq none .leaf (.seq none .leaf (.cond (.seq none .leaf .leaf) .leaf)))) .leaf)))))) (.seq none .leaf .leaf))))
set_option maxRecDepth 100000 in
def slices_Equal_int_int.pt (t0 t1 : Value) (K : Ret) (h : Heap) : Prop :=
 go (Len t0) h fun t7 h =>
 go (Len t1) h fun t9 h =>
 go (Bin .int .neq t7 t9) h fun t10 h =>
 If t10 (
 K (.bool false) h) (
 go (Len t0) h fun t12 h =>
 Lp 4 (fun X1 t0_1 t1_1 t12_1 t13 h =>
 go (Bin .int .lss t13 t12_1) h fun t14 h =>
 If t14 (
 go (Idx 1 t0_1 t13) h fun t18 h =>
 go (Ld t18) h fun t19 h =>
 go (Idx 1 t1_1 t13) h fun t22 h =>
 go (Ld t22) h fun t23 h =>
 go (Bin .int .neq t19 t23) h fun t24 h =>
 If t24 (
 K (.bool false) h) (
 go (Bin .int .add t13 (.int .i64 1)) h fun t25 h =>
 X1 t0_1 t1_1 t12_1 t25 h)) (
 K (.bool true) h)) [t0, t1, t12, (.int .i64 0)] h)
set_option maxRecDepth 100000 in
theorem slices_Equal_int_int.eq : (fun t0 t1 K h => slices_Equal_int_int.pt t0 t1 K h : Value → Value → Ret → Heap → Prop) = (fun t0 t1 K h => fnPt Try.prog [11, 12, 25] Try.f26 slices_Equal_int_int.ann [t0, t1] K h) := by kernel_rfl
set_option maxRecDepth 100000 in
theorem slices_Equal_int_int.ok {t0 t1 : Value} {K : Ret} {h : Heap} (hp : slices_Equal_int_int.pt t0 t1 K h) : CallH Try.prog 26 #[t0, t1] K h :=
  fn_sound (qs := [11, 12, 25]) (fn := Try.f26) (ann := slices_Equal_int_int.ann) (args := [t0, t1]) follows_mixed Try.func26 ((Eq.to_iff (congrFun (congrFun (congrFun (congrFun (slices_Equal_int_int.eq) t0) t1) K) h)).mp hp)

/-! ### slices.DeleteFunc[[]int,int]: function 27 -/
abbrev slices_DeleteFunc_int_int.id : FuncId := 27
def slices_DeleteFunc_int_int.ann : Ann := (.seq none .leaf (.seq none .leaf (.seq none (.seq none .leaf (.cond (.seq none .leaf .leaf) .leaf)) (.seq none (.seq none .leaf (.block (.loop [0, 1, 5, 6] (.seq none (.seq none .leaf (.cond .leaf .leaf)) (.seq (some [0, 1, 5, 6]) (.block (.seq none .leaf (.seq none .leaf (.cond (.seq none .leaf .leaf) .leaf)))) .leaf))))) (.seq none .leaf (.seq none .leaf .leaf))))))
set_option maxRecDepth 100000 in
def slices_DeleteFunc_int_int.pt (t0 t1 : Value) (K : Ret) (h : Heap) : Prop :=
 go (CallF Try.prog 33 [t0, t1]) h fun t10 h =>
 go (Bin .int .eql t10 (.int .i64 (-1))) h fun t12 h =>
 If t12 (
 K t0 h) (
 go (Bin .int .add t10 (.int .i64 1)) h fun t15 h =>
 Lp 4 (fun X1 t0_1 t1_1 t5 t6 h =>
 go (Len t0_1) h fun t18 h =>
 go (Bin .int .lss t6 t18) h fun t19 h =>
 If t19 (
 Join 4 (fun J2 =>
 go (Idx 1 t0_1 t6) h fun t24 h =>
 go (Ld t24) h fun t25 h =>
 go (CallV Try.prog t1_1 [t25]) h fun t28 h =>
 go (Un .not t28) h fun t29 h =>
 If t29 (
 go (Idx 1 t0_1 t5) h fun t33 h =>
 go (St t33 t25) h fun _ h =>
 go (Bin .int .add t5 (.int .i64 1)) h fun t35 h =>
 J2 t0_1 t1_1 t35 t6 h) (
 J2 t0_1 t1_1 t5 t6 h)) (fun t0_2 t1_2 t5_1 t6_1 h =>
 go (Bin .int .add t6_1 (.int .i64 1)) h fun t21 h =>
 X1 t0_2 t1_2 t5_1 t21 h)) (
 go (Slc 1 t0_1 (some t5) none none) h fun t38 h =>
 go (Clr #[(.int .i64 0)] t38) h fun _ h =>
 go (Slc 1 t0_1 none (some t5) none) h fun t41 h =>
 K t41 h)) [t0, t1, t10, t15] h)
set_option maxRecDepth 100000 in
theorem slices_DeleteFunc_int_int.eq : (fun t0 t1 K h => slices_DeleteFunc_int_int.pt t0 t1 K h : Value → Value → Ret → Heap → Prop) = (fun t0 t1 K h => fnPt Try.prog [11, 12, 25] Try.f27 slices_DeleteFunc_int_int.ann [t0, t1] K h) := by kernel_rfl
set_option maxRecDepth 100000 in
theorem slices_DeleteFunc_int_int.ok {t0 t1 : Value} {K : Ret} {h : Heap} (hp : slices_DeleteFunc_int_int.pt t0 t1 K h) : CallH Try.prog 27 #[t0, t1] K h :=
  fn_sound (qs := [11, 12, 25]) (fn := Try.f27) (ann := slices_DeleteFunc_int_int.ann) (args := [t0, t1]) follows_mixed Try.func27 ((Eq.to_iff (congrFun (congrFun (congrFun (congrFun (slices_DeleteFunc_int_int.eq) t0) t1) K) h)).mp hp)

/-! ### bradawl/norm.Without$1: function 28 -/
abbrev norm_Without_1.id : FuncId := 28
def norm_Without_1.ann : Ann := (.seq none .leaf (.seq none .leaf .leaf))
set_option maxRecDepth 100000 in
def norm_Without_1.pt (t0 t1 : Value) (K : Ret) (h : Heap) : Prop :=
 go (Ld t1) h fun t5 h =>
 go (Bin .int .eql t0 t5) h fun t6 h =>
 K t6 h
set_option maxRecDepth 100000 in
theorem norm_Without_1.eq : (fun t0 t1 K h => norm_Without_1.pt t0 t1 K h : Value → Value → Ret → Heap → Prop) = (fun t0 t1 K h => fnPt Try.prog [11, 12, 25] Try.f28 norm_Without_1.ann [t0, t1] K h) := by kernel_rfl
set_option maxRecDepth 100000 in
theorem norm_Without_1.ok {t0 t1 : Value} {K : Ret} {h : Heap} (hp : norm_Without_1.pt t0 t1 K h) : CallH Try.prog 28 #[t0, t1] K h :=
  fn_sound (qs := [11, 12, 25]) (fn := Try.f28) (ann := norm_Without_1.ann) (args := [t0, t1]) follows_mixed Try.func28 ((Eq.to_iff (congrFun (congrFun (congrFun (congrFun (norm_Without_1.eq) t0) t1) K) h)).mp hp)

/-! ### slices.pdqsortCmpFunc[int]: function 29 -/
abbrev slices_pdqsortCmpFunc_int.id : FuncId := 29
def slices_pdqsortCmpFunc_int.ann : Ann := (.seq none .leaf (.seq none .leaf (.block (.loop [0, 1, 2, 3, 4, 10, 11] (.block (.seq none .leaf (.seq none (.seq none .leaf (.cond (.seq none .leaf .leaf) .leaf)) (.seq none (.seq none .leaf (.cond (.seq none .leaf .leaf) .leaf)) (.seq (some [0, 1, 2, 3, 4, 10, 11, 12]) (.seq none .leaf (.cond (.seq none .leaf .leaf) .leaf)) (.seq none .leaf (.seq (some [0, 1, 2, 3, 4, 10, 11, 12, 13, 14]) (.seq none .leaf (.cond (.seq none .leaf (.seq none .leaf .leaf)) .leaf)) (.seq (some [0, 1, 2, 3, 4, 10, 11, 12, 13]) (.seq none .leaf (.cond (.seq none .leaf (.cond .leaf .leaf)) .leaf)) (.seq none (.seq none .leaf (.cond (.seq none .leaf (.seq none .leaf .leaf)) .leaf)) (.seq none .leaf (.seq none .leaf (.seq none .leaf (.seq none .leaf (.seq none .leaf (.cond (.seq none .leaf (.seq none .leaf .leaf)) (.seq none .leaf (.seq none .leaf .leaf)))))))))))))))))))))
set_option maxRecDepth 100000 in
def slices_pdqsortCmpFunc_int.pt (t0 t1 t2 t3 t4 : Value) (K : Ret) (h : Heap) : Prop :=
 Lp 7 (fun X1 t0_1 t1_1 t2_1 t3_1 t4_1 t10 t11 h =>
 go (Bin .int .sub t2_1 t1_1) h fun t23 h =>
 go (Bin .int .leq t23 (.int .i64 12)) h fun t25 h =>
 If t25 (
 go (CallF Try.prog 34 [t0_1, t1_1, t2_1, t4_1]) h fun t30 h =>
 K (.tuple #[]) h) (
 go (Bin .int .eql t3_1 (.int .i64 0)) h fun t32 h =>
 If t32 (
 go (CallF Try.prog 35 [t0_1, t1_1, t2_1, t4_1]) h fun t37 h =>
 K (.tuple #[]) h) (
 Join 8 (fun J2 =>
 go (Un .not t10) h fun t39 h =>
 If t39 (
 go (CallF Try.prog 36 [t0_1, t1_1, t2_1, t4_1]) h fun t44 h =>
 go (Bin .int .sub t3_1 (.int .i64 1)) h fun t46 h =>
 J2 t0_1 t1_1 t2_1 t46 t4_1 t10 t11 t23 h) (
 J2 t0_1 t1_1 t2_1 t3_1 t4_1 t10 t11 t23 h)) (fun t0_2 t1_2 t2_2 t3_2 t4_2 t10_1 t11_1 t12 h =>
 go (CallF Try.prog 37 [t0_2, t1_2, t2_2, t4_2]) h fun t52 h =>
 go (Ext 0 t52) h fun t53 h =>
 go (Ext 1 t52) h fun t54 h =>
 Join 10 (fun J3 =>
 go (Bin .int .eql t54 (.int .i64 2)) h fun t56 h =>
 If t56 (
 go (CallF Try.prog 38 [t0_2, t1_2, t2_2, t4_2]) h fun t61 h =>
 go (Bin .int .sub t2_2 (.int .i64 1)) h fun t63 h =>
 go (Bin .int .sub t53 t1_2) h fun t66 h =>
 go (Bin .int .sub t63 t66) h fun t67 h =>
 J3 t0_2 t1_2 t2_2 t3_2 t4_2 t10_1 t11_1 t12 t67 (.int .i64 1) h) (
 J3 t0_2 t1_2 t2_2 t3_2 t4_2 t10_1 t11_1 t12 t53 t54 h)) (fun t0_3 t1_3 t2_3 t3_3 t4_3 t10_2 t11_2 t12_1 t13 t14 h =>
 Join 9 (fun J4 =>
 go (Gd t10_2 true (Mv t11_2)) h fun t70 h =>
 go (Pick t10_2 t70 (.bool false)) h fun t71 h =>
 go (Gd t71 true (Mv t14)) h fun t73 h =>
 go (Gd t71 true (Bin .int .eql t73 (.int .i64 1))) h fun t74 h =>
 go (Pick t71 t74 (.bool false)) h fun t75 h =>
 If t75 (
 go (CallF Try.prog 39 [t0_3, t1_3, t2_3, t4_3]) h fun t80 h =>
 If t80 (
 K (.tuple #[]) h) (
 J4 t0_3 t1_3 t2_3 t3_3 t4_3 t10_2 t11_2 t12_1 t13 h)) (
 J4 t0_3 t1_3 t2_3 t3_3 t4_3 t10_2 t11_2 t12_1 t13 h)) (fun t0_4 t1_4 t2_4 t3_4 t4_4 t10_3 t11_3 t12_2 t13_1 h =>
 go (Bin .int .gtr t1_4 (.int .i64 0)) h fun t82 h =>
 go (Gd t82 true (Mv t4_4)) h fun t84 h =>
 go (Gd t82 true (Mv t0_4)) h fun t85 h =>
 go (Gd t82 true (Mv t1_4)) h fun t86 h =>
 go (Gd t82 true (Bin .int .sub t86 (.int .i64 1))) h fun t87 h =>
 go (Gd t82 true (Idx 1 t85 t87)) h fun t88 h =>
 go (Gd t82 true (Ld t88)) h fun t89 h =>
 go (Gd t82 true (Mv t0_4)) h fun t90 h =>
 go (Gd t82 true (Mv t13_1)) h fun t91 h =>
 go (Gd t82 true (Idx 1 t90 t91)) h fun t92 h =>
 go (Gd t82 true (Ld t92)) h fun t93 h =>
 go (Gd t82 true (CallV Try.prog t84 [t89, t93])) h fun t94 h =>
 go (Gd t82 true (Bin .int .lss t94 (.int .i64 0))) h fun t95 h =>
 go (Gd t82 true (Un .not t95)) h fun t96 h =>
 go (Pick t82 t96 (.bool false)) h fun t97 h =>
 If t97 (
 go (CallF Try.prog 40 [t0_4, t1_4, t2_4, t13_1, t4_4]) h fun t103 h =>
 X1 t0_4 t103 t2_4 t3_4 t4_4 t10_3 t11_3 h) (
 go (CallF Try.prog 41 [t0_4, t1_4, t2_4, t13_1, t4_4]) h fun t111 h =>
 go (Ext 0 t111) h fun t112 h =>
 go (Ext 1 t111) h fun t113 h =>
 go (Bin .int .sub t112 t1_4) h fun t117 h =>
 go (Bin .int .sub t2_4 t112) h fun t120 h =>
 go (Bin .int .quo t12_2 (.int .i64 8)) h fun t122 h =>
 go (Bin .int .lss t117 t120) h fun t125 h =>
 If t125 (
 go (Bin .int .geq t117 t122) h fun t128 h =>
 go (CallF Try.prog 29 [t0_4, t1_4, t112, t3_4, t4_4]) h fun t134 h =>
 go (Bin .int .add t112 (.int .i64 1)) h fun t136 h =>
 X1 t0_4 t136 t2_4 t3_4 t4_4 t128 t113 h) (
 go (Bin .int .geq t120 t122) h fun t139 h =>
 go (Bin .int .add t112 (.int .i64 1)) h fun t142 h =>
 go (CallF Try.prog 29 [t0_4, t142, t2_4, t3_4, t4_4]) h fun t146 h =>
 X1 t0_4 t1_4 t112 t3_4 t4_4 t139 t113 h)))))))) [t0, t1, t2, t3, t4, (.bool true), (.bool true)] h
set_option maxRecDepth 100000 in
theorem slices_pdqsortCmpFunc_int.eq : (fun t0 t1 t2 t3 t4 K h => slices_pdqsortCmpFunc_int.pt t0 t1 t2 t3 t4 K h : Value → Value → Value → Value → Value → Ret → Heap → Prop) = (fun t0 t1 t2 t3 t4 K h => fnPt Try.prog [11, 12, 25] Try.f29 slices_pdqsortCmpFunc_int.ann [t0, t1, t2, t3, t4] K h) := by kernel_rfl
set_option maxRecDepth 100000 in
theorem slices_pdqsortCmpFunc_int.ok {t0 t1 t2 t3 t4 : Value} {K : Ret} {h : Heap} (hp : slices_pdqsortCmpFunc_int.pt t0 t1 t2 t3 t4 K h) : CallH Try.prog 29 #[t0, t1, t2, t3, t4] K h :=
  fn_sound (qs := [11, 12, 25]) (fn := Try.f29) (ann := slices_pdqsortCmpFunc_int.ann) (args := [t0, t1, t2, t3, t4]) follows_mixed Try.func29 ((Eq.to_iff (congrFun (congrFun (congrFun (congrFun (congrFun (congrFun (congrFun (slices_pdqsortCmpFunc_int.eq) t0) t1) t2) t3) t4) K) h)).mp hp)

/-! ### math/bits.Len: function 30 -/
abbrev bits_Len.id : FuncId := 30
def bits_Len.ann : Ann := (.seq none .leaf (.seq none (.cond (.seq none .leaf .leaf) .leaf) (.seq none .leaf .leaf)))
set_option maxRecDepth 100000 in
def bits_Len.pt (t0 : Value) (K : Ret) (h : Heap) : Prop :=
 If (.bool false) (
 go (Cvt .u32 t0) h fun t4 h =>
 go (CallF Try.prog 42 [t4]) h fun t5 h =>
 K t5 h) (
 go (CallF Try.prog 43 [t0]) h fun t7 h =>
 K t7 h)
set_option maxRecDepth 100000 in
theorem bits_Len.eq : (fun t0 K h => bits_Len.pt t0 K h : Value → Ret → Heap → Prop) = (fun t0 K h => fnPt Try.prog [11, 12, 25] Try.f30 bits_Len.ann [t0] K h) := by kernel_rfl
set_option maxRecDepth 100000 in
theorem bits_Len.ok {t0 : Value} {K : Ret} {h : Heap} (hp : bits_Len.pt t0 K h) : CallH Try.prog 30 #[t0] K h :=
  fn_sound (qs := [11, 12, 25]) (fn := Try.f30) (ann := bits_Len.ann) (args := [t0]) follows_mixed Try.func30 ((Eq.to_iff (congrFun (congrFun (congrFun (bits_Len.eq) t0) K) h)).mp hp)

/-! ### cmp.Compare[int]: function 31 -/
abbrev cmp_Compare_int.id : FuncId := 31
def cmp_Compare_int.ann : Ann := (.seq none .leaf (.seq none .leaf (.seq none .leaf (.seq none (.seq none .leaf (.cond (.seq none (.seq none .leaf (.cond (.seq none .leaf .leaf) .leaf)) (.seq none .leaf .leaf)) .leaf)) (.seq none (.seq none .leaf (.cond (.seq none .leaf .leaf) .leaf)) (.seq none (.seq none .leaf (.cond (.seq none .leaf .leaf) .leaf)) (.seq none (.seq none .leaf (.cond (.seq none .leaf .leaf) .leaf)) (.seq none .leaf .leaf))))))))
set_option maxRecDepth 100000 in
def cmp_Compare_int.pt (t0 t1 : Value) (K : Ret) (h : Heap) : Prop :=
 go (CallF Try.prog 44 [t0]) h fun t8 h =>
 go (CallF Try.prog 44 [t1]) h fun t10 h =>
 If t8 (
 If t10 (
 K (.int .i64 0) h) (
 K (.int .i64 (-1)) h)) (
 If t10 (
 K (.int .i64 1) h) (
 go (Bin .int .lss t0 t1) h fun t16 h =>
 If t16 (
 K (.int .i64 (-1)) h) (
 go (Bin .int .gtr t0 t1) h fun t19 h =>
 If t19 (
 K (.int .i64 1) h) (
 K (.int .i64 0) h))))
set_option maxRecDepth 100000 in
theorem cmp_Compare_int.eq : (fun t0 t1 K h => cmp_Compare_int.pt t0 t1 K h : Value → Value → Ret → Heap → Prop) = (fun t0 t1 K h => fnPt Try.prog [11, 12, 25] Try.f31 cmp_Compare_int.ann [t0, t1] K h) := by kernel_rfl
set_option maxRecDepth 100000 in
theorem cmp_Compare_int.ok {t0 t1 : Value} {K : Ret} {h : Heap} (hp : cmp_Compare_int.pt t0 t1 K h) : CallH Try.prog 31 #[t0, t1] K h :=
  fn_sound (qs := [11, 12, 25]) (fn := Try.f31) (ann := cmp_Compare_int.ann) (args := [t0, t1]) follows_mixed Try.func31 ((Eq.to_iff (congrFun (congrFun (congrFun (congrFun (cmp_Compare_int.eq) t0) t1) K) h)).mp hp)

/-! ### bradawl/lit.Index: function 32 -/
abbrev lit_Index.id : FuncId := 32
def lit_Index.ann : Ann := (.seq none .leaf (.seq none (.seq none .leaf (.cond (.seq none .leaf .leaf) .leaf)) (.seq none .leaf .leaf)))
set_option maxRecDepth 100000 in
def lit_Index.pt (t0 : Value) (K : Ret) (h : Heap) : Prop :=
 go (Bin .int .lss t0 (.int .i64 0)) h fun t4 h =>
 If t4 (
 go (Un .neg t0) h fun t6 h =>
 go (Bin .int .sub t6 (.int .i64 1)) h fun t7 h =>
 go (Bin .int .mul (.int .i64 2) t7) h fun t8 h =>
 go (Bin .int .add t8 (.int .i64 1)) h fun t9 h =>
 K t9 h) (
 go (Bin .int .sub t0 (.int .i64 1)) h fun t11 h =>
 go (Bin .int .mul (.int .i64 2) t11) h fun t12 h =>
 K t12 h)
set_option maxRecDepth 100000 in
theorem lit_Index.eq : (fun t0 K h => lit_Index.pt t0 K h : Value → Ret → Heap → Prop) = (fun t0 K h => fnPt Try.prog [11, 12, 25] Try.f32 lit_Index.ann [t0] K h) := by kernel_rfl
set_option maxRecDepth 100000 in
theorem lit_Index.ok {t0 : Value} {K : Ret} {h : Heap} (hp : lit_Index.pt t0 K h) : CallH Try.prog 32 #[t0] K h :=
  fn_sound (qs := [11, 12, 25]) (fn := Try.f32) (ann := lit_Index.ann) (args := [t0]) follows_mixed Try.func32 ((Eq.to_iff (congrFun (congrFun (congrFun (lit_Index.eq) t0) K) h)).mp hp)

/-! ### slices.IndexFunc[[]int,int]: function 33 -/
abbrev slices_IndexFunc_int_int.id : FuncId := 33
def slices_IndexFunc_int_int.ann : Ann := (.seq none .leaf (.seq none (.seq none .leaf (.block (.loop [0, 1, 7, 8] (.seq none .leaf (.seq none (.cond .leaf .leaf) (.seq none (.block (.seq none .leaf (.seq none .leaf (.cond (.seq none .leaf .leaf) .leaf)))) .leaf)))))) (.seq none .leaf .leaf)))
set_option maxRecDepth 100000 in
def slices_IndexFunc_int_int.pt (t0 t1 : Value) (K : Ret) (h : Heap) : Prop :=
 go (Len t0) h fun t7 h =>
 Lp 4 (fun X1 t0_1 t1_1 t7_1 t8 h =>
 go (Bin .int .lss t8 t7_1) h fun t9 h =>
 If t9 (
 go (Idx 1 t0_1 t8) h fun t14 h =>
 go (Ld t14) h fun t15 h =>
 go (CallV Try.prog t1_1 [t15]) h fun t16 h =>
 If t16 (
 K t8 h) (
 go (Bin .int .add t8 (.int .i64 1)) h fun t18 h =>
 X1 t0_1 t1_1 t7_1 t18 h)) (
 K (.int .i64 (-1)) h)) [t0, t1, t7, (.int .i64 0)] h
set_option maxRecDepth 100000 in
theorem slices_IndexFunc_int_int.eq : (fun t0 t1 K h => slices_IndexFunc_int_int.pt t0 t1 K h : Value → Value → Ret → Heap → Prop) = (fun t0 t1 K h => fnPt Try.prog [11, 12, 25] Try.f33 slices_IndexFunc_int_int.ann [t0, t1] K h) := by kernel_rfl
set_option maxRecDepth 100000 in
theorem slices_IndexFunc_int_int.ok {t0 t1 : Value} {K : Ret} {h : Heap} (hp : slices_IndexFunc_int_int.pt t0 t1 K h) : CallH Try.prog 33 #[t0, t1] K h :=
  fn_sound (qs := [11, 12, 25]) (fn := Try.f33) (ann := slices_IndexFunc_int_int.ann) (args := [t0, t1]) follows_mixed Try.func33 ((Eq.to_iff (congrFun (congrFun (congrFun (congrFun (slices_IndexFunc_int_int.eq) t0) t1) K) h)).mp hp)

/-! ### slices.insertionSortCmpFunc[int]: function 34 -/
abbrev slices_insertionSortCmpFunc_int.id : FuncId := 34
def slices_insertionSortCmpFunc_int.ann : Ann := (.seq none .leaf (.block (.loop [0, 1, 2, 3, 8] (.seq none (.seq none .leaf (.cond .leaf .leaf)) (.seq none (.block (.seq none .leaf (.block (.loop [0, 1, 2, 3, 8, 9] (.seq none (.seq none .leaf (.cond .leaf .leaf)) (.seq none (.block .leaf) .leaf)))))) .leaf)))))
set_option maxRecDepth 100000 in
def slices_insertionSortCmpFunc_int.pt (t0 t1 t2 t3 : Value) (K : Ret) (h : Heap) : Prop :=
 go (Bin .int .add t1 (.int .i64 1)) h fun t11 h =>
 Lp 5 (fun X1 t0_1 t1_1 t2_1 t3_1 t8 h =>
 go (Bin .int .lss t8 t2_1) h fun t14 h =>
 If t14 (
 Lp 6 (fun X2 t0_2 t1_2 t2_2 t3_2 t8_1 t9 h =>
 go (Bin .int .gtr t9 t1_2) h fun t20 h =>
 go (Gd t20 true (Mv t3_2)) h fun t22 h =>
 go (Gd t20 true (Mv t0_2)) h fun t23 h =>
 go (Gd t20 true (Mv t9)) h fun t24 h =>
 go (Gd t20 true (Idx 1 t23 t24)) h fun t25 h =>
 go (Gd t20 true (Ld t25)) h fun t26 h =>
 go (Gd t20 true (Mv t0_2)) h fun t27 h =>
 go (Gd t20 true (Mv t9)) h fun t28 h =>
 go (Gd t20 true (Bin .int .sub t28 (.int .i64 1))) h fun t29 h =>
 go (Gd t20 true (Idx 1 t27 t29)) h fun t30 h =>
 go (Gd t20 true (Ld t30)) h fun t31 h =>
 go (Gd t20 true (CallV Try.prog t22 [t26, t31])) h fun t32 h =>
 go (Gd t20 true (Bin .int .lss t32 (.int .i64 0))) h fun t33 h =>
 go (Pick t20 t33 (.bool false)) h fun t34 h =>
 If t34 (
 go (Bin .int .sub t9 (.int .i64 1)) h fun t41 h =>
 go (Bin .int .sub t9 (.int .i64 1)) h fun t44 h =>
 go (Idx 1 t0_2 t44) h fun t45 h =>
 go (Ld t45) h fun t46 h =>
 go (Idx 1 t0_2 t9) h fun t49 h =>
 go (Ld t49) h fun t50 h =>
 go (Idx 1 t0_2 t9) h fun t51 h =>
 go (St t51 t46) h fun _ h =>
 go (Idx 1 t0_2 t41) h fun t52 h =>
 go (St t52 t50) h fun _ h =>
 go (Bin .int .sub t9 (.int .i64 1)) h fun t36 h =>
 X2 t0_2 t1_2 t2_2 t3_2 t8_1 t36 h) (
 go (Bin .int .add t8_1 (.int .i64 1)) h fun t16 h =>
 X1 t0_2 t1_2 t2_2 t3_2 t16 h)) [t0_1, t1_1, t2_1, t3_1, t8, t8] h) (
 K (.tuple #[]) h)) [t0, t1, t2, t3, t11] h
set_option maxRecDepth 100000 in
theorem slices_insertionSortCmpFunc_int.eq : (fun t0 t1 t2 t3 K h => slices_insertionSortCmpFunc_int.pt t0 t1 t2 t3 K h : Value → Value → Value → Value → Ret → Heap → Prop) = (fun t0 t1 t2 t3 K h => fnPt Try.prog [11, 12, 25] Try.f34 slices_insertionSortCmpFunc_int.ann [t0, t1, t2, t3] K h) := by kernel_rfl
set_option maxRecDepth 100000 in
theorem slices_insertionSortCmpFunc_int.ok {t0 t1 t2 t3 : Value} {K : Ret} {h : Heap} (hp : slices_insertionSortCmpFunc_int.pt t0 t1 t2 t3 K h) : CallH Try.prog 34 #[t0, t1, t2, t3] K h :=
  fn_sound (qs := [11, 12, 25]) (fn := Try.f34) (ann := slices_insertionSortCmpFunc_int.ann) (args := [t0, t1, t2, t3]) follows_mixed Try.func34 ((Eq.to_iff (congrFun (congrFun (congrFun (congrFun (congrFun (congrFun (slices_insertionSortCmpFunc_int.eq) t0) t1) t2) t3) K) h)).mp hp)

/-! ### slices.heapSortCmpFunc[int]: function 35 -/
abbrev slices_heapSortCmpFunc_int.id : FuncId := 35
def slices_heapSortCmpFunc_int.ann : Ann := (.seq none .leaf (.seq none .leaf (.seq none .leaf (.seq none (.seq none .leaf (.block (.loop [0, 3, 8, 9, 10, 11] (.seq none (.seq none .leaf (.cond .leaf .leaf)) (.seq none (.block .leaf) .leaf))))) (.seq none .leaf (.block (.loop [0, 3, 8, 9, 12] (.seq none (.seq none .leaf (.cond .leaf .leaf)) (.seq none (.block (.seq none .leaf .leaf)) .leaf)))))))))
set_option maxRecDepth 100000 in
def slices_heapSortCmpFunc_int.pt (t0 t1 t2 t3 : Value) (K : Ret) (h : Heap) : Prop :=
 go (Bin .int .sub t2 t1) h fun t16 h =>
 go (Bin .int .sub t16 (.int .i64 1)) h fun t18 h =>
 go (Bin .int .quo t18 (.int .i64 2)) h fun t19 h =>
 Lp 6 (fun X1 t0_1 t3_1 t8 t9 t10 t11 h =>
 go (Bin .int .geq t11 (.int .i64 0)) h fun t21 h =>
 If t21 (
 go (CallF Try.prog 45 [t0_1, t11, t10, t8, t3_1]) h fun t29 h =>
 go (Bin .int .sub t11 (.int .i64 1)) h fun t23 h =>
 X1 t0_1 t3_1 t8 t9 t10 t23 h) (
 go (Bin .int .sub t10 (.int .i64 1)) h fun t31 h =>
 Lp 5 (fun X2 t0_2 t3_2 t8_1 t9_1 t12 h =>
 go (Bin .int .geq t12 (.int .i64 0)) h fun t33 h =>
 If t33 (
 go (Bin .int .add t8_1 t12) h fun t41 h =>
 go (Bin .int .add t8_1 t12) h fun t45 h =>
 go (Idx 1 t0_2 t45) h fun t46 h =>
 go (Ld t46) h fun t47 h =>
 go (Idx 1 t0_2 t8_1) h fun t50 h =>
 go (Ld t50) h fun t51 h =>
 go (Idx 1 t0_2 t8_1) h fun t52 h =>
 go (St t52 t47) h fun _ h =>
 go (Idx 1 t0_2 t41) h fun t53 h =>
 go (St t53 t51) h fun _ h =>
 go (CallF Try.prog 45 [t0_2, t9_1, t12, t8_1, t3_2]) h fun t59 h =>
 go (Bin .int .sub t12 (.int .i64 1)) h fun t35 h =>
 X2 t0_2 t3_2 t8_1 t9_1 t35 h) (
 K (.tuple #[]) h)) [t0_1, t3_1, t8, t9, t31] h)) [t0, t3, t1, (.int .i64 0), t16, t19] h
set_option maxRecDepth 100000 in
theorem slices_heapSortCmpFunc_int.eq : (fun t0 t1 t2 t3 K h => slices_heapSortCmpFunc_int.pt t0 t1 t2 t3 K h : Value → Value → Value → Value → Ret → Heap → Prop) = (fun t0 t1 t2 t3 K h => fnPt Try.prog [11, 12, 25] Try.f35 slices_heapSortCmpFunc_int.ann [t0, t1, t2, t3] K h) := by kernel_rfl
set_option maxRecDepth 100000 in
theorem slices_heapSortCmpFunc_int.ok {t0 t1 t2 t3 : Value} {K : Ret} {h : Heap} (hp : slices_heapSortCmpFunc_int.pt t0 t1 t2 t3 K h) : CallH Try.prog 35 #[t0, t1, t2, t3] K h :=
  fn_sound (qs := [11, 12, 25]) (fn := Try.f35) (ann := slices_heapSortCmpFunc_int.ann) (args := [t0, t1, t2, t3]) follows_mixed Try.func35 ((Eq.to_iff (congrFun (congrFun (congrFun (congrFun (congrFun (congrFun (slices_heapSortCmpFunc_int.eq) t0) t1) t2) t3) K) h)).mp hp)

/-! ### slices.breakPatternsCmpFunc[int]: function 36 -/
abbrev slices_breakPatternsCmpFunc_int.id : FuncId := 36
def slices_breakPatternsCmpFunc_int.ann : Ann := (.seq none .leaf (.seq none .leaf (.cond (.seq none .leaf (.seq none .leaf (.seq none .leaf (.block (.loop [0, 1, 8, 9, 10, 11] (.seq none (.seq none .leaf (.cond .leaf .leaf)) (.seq none (.block (.seq none .leaf (.seq (some [0, 1, 8, 9, 10, 11, 12]) (.seq none .leaf (.cond .leaf .leaf)) .leaf))) .leaf))))))) .leaf)))
set_option maxRecDepth 100000 in
def slices_breakPatternsCmpFunc_int.pt (t0 t1 t2 t3 : Value) (K : Ret) (h : Heap) : Prop :=
 go (Bin .int .sub t2 t1) h fun t15 h =>
 go (Bin .int .geq t15 (.int .i64 8)) h fun t17 h =>
 If t17 (
 go (Cvt .u64 t15) h fun t19 h =>
 go (New #[(.int .u64 0)] 72) h fun t9 h =>
 go (St t9 t19) h fun _ h =>
 go (CallF Try.prog 46 [t15]) h fun t21 h =>
 go (Bin .int .quo t15 (.int .i64 4)) h fun t24 h =>
 go (Bin .int .mul t24 (.int .i64 2)) h fun t25 h =>
 go (Bin .int .add t1 t25) h fun t26 h =>
 go (Bin .int .sub t26 (.int .i64 1)) h fun t27 h =>
 Lp 6 (fun X1 t0_1 t1_1 t8 t9_1 t10 t11 h =>
 go (Bin .int .quo t8 (.int .i64 4)) h fun t31 h =>
 go (Bin .int .mul t31 (.int .i64 2)) h fun t32 h =>
 go (Bin .int .add t1_1 t32) h fun t33 h =>
 go (Bin .int .add t33 (.int .i64 1)) h fun t34 h =>
 go (Bin .int .leq t11 t34) h fun t35 h =>
 If t35 (
 go (CallF Try.prog 47 [t9_1]) h fun t38 h =>
 go (Bin .int .sub t10 (.int .u64 1)) h fun t40 h =>
 go (Bin .int .and t38 t40) h fun t41 h =>
 go (Cvt .i64 t41) h fun t42 h =>
 Join 7 (fun J2 =>
 go (Bin .int .geq t42 t8) h fun t45 h =>
 If t45 (
 go (Bin .int .sub t42 t8) h fun t48 h =>
 J2 t0_1 t1_1 t8 t9_1 t10 t11 t48 h) (
 J2 t0_1 t1_1 t8 t9_1 t10 t11 t42 h)) (fun t0_2 t1_2 t8_1 t9_2 t10_1 t11_1 t12 h =>
 go (Bin .int .add t1_2 t12) h fun t54 h =>
 go (Bin .int .add t1_2 t12) h fun t58 h =>
 go (Idx 1 t0_2 t58) h fun t59 h =>
 go (Ld t59) h fun t60 h =>
 go (Idx 1 t0_2 t11_1) h fun t63 h =>
 go (Ld t63) h fun t64 h =>
 go (Idx 1 t0_2 t11_1) h fun t65 h =>
 go (St t65 t60) h fun _ h =>
 go (Idx 1 t0_2 t54) h fun t66 h =>
 go (St t66 t64) h fun _ h =>
 go (Bin .int .add t11_1 (.int .i64 1)) h fun t37 h =>
 X1 t0_2 t1_2 t8_1 t9_2 t10_1 t37 h)) (
 K (.tuple #[]) h)) [t0, t1, t15, t9, t21, t27] h) (
 K (.tuple #[]) h)
set_option maxRecDepth 100000 in
theorem slices_breakPatternsCmpFunc_int.eq : (fun t0 t1 t2 t3 K h => slices_breakPatternsCmpFunc_int.pt t0 t1 t2 t3 K h : Value → Value → Value → Value → Ret → Heap → Prop) = (fun t0 t1 t2 t3 K h => fnPt Try.prog [11, 12, 25] Try.f36 slices_breakPatternsCmpFunc_int.ann [t0, t1, t2, t3] K h) := by kernel_rfl
set_option maxRecDepth 100000 in
theorem slices_breakPatternsCmpFunc_int.ok {t0 t1 t2 t3 : Value} {K : Ret} {h : Heap} (hp : slices_breakPatternsCmpFunc_int.pt t0 t1 t2 t3 K h) : CallH Try.prog 36 #[t0, t1, t2, t3] K h :=
  fn_sound (qs := [11, 12, 25]) (fn := Try.f36) (ann := slices_breakPatternsCmpFunc_int.ann) (args := [t0, t1, t2, t3]) follows_mixed Try.func36 ((Eq.to_iff (congrFun (congrFun (congrFun (congrFun (congrFun (congrFun (slices_breakPatternsCmpFunc_int.eq) t0) t1) t2) t3) K) h)).mp hp)

/-! ### slices.choosePivotCmpFunc[int]: function 37 -/
abbrev slices_choosePivotCmpFunc_int.id : FuncId := 37
def slices_choosePivotCmpFunc_int.ann : Ann := (.seq none .leaf (.seq none .leaf (.seq none .leaf (.seq none .leaf (.seq none .leaf (.seq none .leaf (.seq (some [11, 13]) (.seq none .leaf (.cond (.seq (some [0, 3, 11, 12, 13, 14]) (.seq none .leaf (.cond (.seq none .leaf (.seq none .leaf .leaf)) .leaf)) .leaf) .leaf)) (.seq none .leaf (.block (.seq none .leaf (.cond (.seq none .leaf .leaf) (.seq none .leaf (.cond (.seq none .leaf .leaf) (.seq none .leaf .leaf))))))))))))))
set_option maxRecDepth 100000 in
def slices_choosePivotCmpFunc_int.pt (t0 t1 t2 t3 : Value) (K : Ret) (h : Heap) : Prop :=
 go (Bin .int .sub t2 t1) h fun t17 h =>
 go (New #[(.int .i64 0)] 3) h fun t11 h =>
 go (Bin .int .quo t17 (.int .i64 4)) h fun t20 h =>
 go (Bin .int .mul t20 (.int .i64 1)) h fun t21 h =>
 go (Bin .int .add t1 t21) h fun t22 h =>
 go (Bin .int .quo t17 (.int .i64 4)) h fun t25 h =>
 go (Bin .int .mul t25 (.int .i64 2)) h fun t26 h =>
 go (Bin .int .add t1 t26) h fun t27 h =>
 go (Bin .int .quo t17 (.int .i64 4)) h fun t30 h =>
 go (Bin .int .mul t30 (.int .i64 3)) h fun t31 h =>
 go (Bin .int .add t1 t31) h fun t32 h =>
 Join 2 (fun J1 =>
 go (Bin .int .geq t17 (.int .i64 8)) h fun t34 h =>
 If t34 (
 Join 6 (fun J2 =>
 go (Bin .int .geq t17 (.int .i64 50)) h fun t36 h =>
 If t36 (
 go (CallF Try.prog 48 [t0, t22, t11, t3]) h fun t40 h =>
 go (CallF Try.prog 48 [t0, t27, t11, t3]) h fun t44 h =>
 go (CallF Try.prog 48 [t0, t32, t11, t3]) h fun t48 h =>
 J2 t0 t3 t11 t40 t44 t48 h) (
 J2 t0 t3 t11 t22 t27 t32 h)) (fun t0_1 t3_1 t11_1 t12 t13 t14 h =>
 go (CallF Try.prog 49 [t0_1, t12, t13, t14, t11_1, t3_1]) h fun t54 h =>
 J1 t11_1 t54 h)) (
 J1 t11 t27 h)) (fun t11_2 t13_1 h =>
 go (Ld t11_2) h fun t55 h =>
 go (Bin .int .eql t55 (.int .i64 0)) h fun t58 h =>
 If t58 (
 K (.tuple #[t13_1, (.int .i64 1)]) h) (
 go (Bin .int .eql t55 (.int .i64 12)) h fun t61 h =>
 If t61 (
 K (.tuple #[t13_1, (.int .i64 2)]) h) (
 K (.tuple #[t13_1, (.int .i64 0)]) h)))
set_option maxRecDepth 100000 in
theorem slices_choosePivotCmpFunc_int.eq : (fun t0 t1 t2 t3 K h => slices_choosePivotCmpFunc_int.pt t0 t1 t2 t3 K h : Value → Value → Value → Value → Ret → Heap → Prop) = (fun t0 t1 t2 t3 K h => fnPt Try.prog [11, 12, 25] Try.f37 slices_choosePivotCmpFunc_int.ann [t0, t1, t2, t3] K h) := by kernel_rfl
set_option maxRecDepth 100000 in
theorem slices_choosePivotCmpFunc_int.ok {t0 t1 t2 t3 : Value} {K : Ret} {h : Heap} (hp : slices_choosePivotCmpFunc_int.pt t0 t1 t2 t3 K h) : CallH Try.prog 37 #[t0, t1, t2, t3] K h :=
  fn_sound (qs := [11, 12, 25]) (fn := Try.f37) (ann := slices_choosePivotCmpFunc_int.ann) (args := [t0, t1, t2, t3]) follows_mixed Try.func37 ((Eq.to_iff (congrFun (congrFun (congrFun (congrFun (congrFun (congrFun (slices_choosePivotCmpFunc_int.eq) t0) t1) t2) t3) K) h)).mp hp)

/-! ### slices.reverseRangeCmpFunc[int]: function 38 -/
abbrev slices_reverseRangeCmpFunc_int.id : FuncId := 38
def slices_reverseRangeCmpFunc_int.ann : Ann := (.seq none .leaf (.seq none .leaf (.block (.loop [0, 8, 9] (.seq none (.seq none .leaf (.cond .leaf .leaf)) (.block (.seq none .leaf (.seq none .leaf .leaf))))))))
set_option maxRecDepth 100000 in
def slices_reverseRangeCmpFunc_int.pt (t0 t1 t2 t3 : Value) (K : Ret) (h : Heap) : Prop :=
 go (Bin .int .sub t2 (.int .i64 1)) h fun t12 h =>
 Lp 3 (fun X1 t0_1 t8 t9 h =>
 go (Bin .int .lss t8 t9) h fun t15 h =>
 If t15 (
 go (Idx 1 t0_1 t9) h fun t22 h =>
 go (Ld t22) h fun t23 h =>
 go (Idx 1 t0_1 t8) h fun t26 h =>
 go (Ld t26) h fun t27 h =>
 go (Idx 1 t0_1 t8) h fun t28 h =>
 go (St t28 t23) h fun _ h =>
 go (Idx 1 t0_1 t9) h fun t29 h =>
 go (St t29 t27) h fun _ h =>
 go (Bin .int .add t8 (.int .i64 1)) h fun t31 h =>
 go (Bin .int .sub t9 (.int .i64 1)) h fun t33 h =>
 X1 t0_1 t31 t33 h) (
 K (.tuple #[]) h)) [t0, t1, t12] h
set_option maxRecDepth 100000 in
theorem slices_reverseRangeCmpFunc_int.eq : (fun t0 t1 t2 t3 K h => slices_reverseRangeCmpFunc_int.pt t0 t1 t2 t3 K h : Value → Value → Value → Value → Ret → Heap → Prop) = (fun t0 t1 t2 t3 K h => fnPt Try.prog [11, 12, 25] Try.f38 slices_reverseRangeCmpFunc_int.ann [t0, t1, t2, t3] K h) := by kernel_rfl
set_option maxRecDepth 100000 in
theorem slices_reverseRangeCmpFunc_int.ok {t0 t1 t2 t3 : Value} {K : Ret} {h : Heap} (hp : slices_reverseRangeCmpFunc_int.pt t0 t1 t2 t3 K h) : CallH Try.prog 38 #[t0, t1, t2, t3] K h :=
  fn_sound (qs := [11, 12, 25]) (fn := Try.f38) (ann := slices_reverseRangeCmpFunc_int.ann) (args := [t0, t1, t2, t3]) follows_mixed Try.func38 ((Eq.to_iff (congrFun (congrFun (congrFun (congrFun (congrFun (congrFun (slices_reverseRangeCmpFunc_int.eq) t0) t1) t2) t3) K) h)).mp hp)

/-! ### slices.partialInsertionSortCmpFunc[int]: function 39 -/
abbrev slices_partialInsertionSortCmpFunc_int.id : FuncId := 39
def slices_partialInsertionSortCmpFunc_int.ann : Ann := (.seq none .leaf (.seq none .leaf (.seq none (.seq none .leaf (.block (.loop [0, 1, 2, 3, 9, 10] (.seq none (.seq none .leaf (.cond .leaf .leaf)) (.seq (some [0, 1, 2, 3, 9, 10]) (.block (.seq none (.block (.loop [0, 1, 2, 3, 9, 10] (.seq none (.seq none .leaf (.cond .leaf .leaf)) (.block .leaf)))) (.seq none (.seq none .leaf (.cond (.seq none .leaf .leaf) .leaf)) (.seq none (.seq none .leaf (.cond (.seq none .leaf .leaf) .leaf)) (.seq none .leaf (.seq (some [0, 1, 2, 3, 9, 10]) (.seq none .leaf (.cond (.seq none .leaf (.block (.loop [0, 1, 2, 3, 9, 10, 11] (.seq none (.seq none .leaf (.cond .leaf .leaf)) (.seq none (.block (.seq none (.seq none .leaf (.cond .leaf .leaf)) .leaf)) .leaf))))) .leaf)) (.seq none .leaf (.cond (.seq none .leaf (.block (.loop [0, 1, 2, 3, 9, 10, 12] (.seq none (.seq none .leaf (.cond .leaf .leaf)) (.seq none (.block (.seq none (.seq none .leaf (.cond .leaf .leaf)) .leaf)) .leaf))))) .leaf)))))))) .leaf))))) (.seq none .leaf .leaf))))
set_option maxRecDepth 100000 in
def slices_partialInsertionSortCmpFunc_int.pt (t0 t1 t2 t3 : Value) (K : Ret) (h : Heap) : Prop :=
 go (Bin .int .add t1 (.int .i64 1)) h fun t14 h =>
 Lp 6 (fun X1 t0_1 t1_1 t2_1 t3_1 t9 t10 h =>
 go (Bin .int .lss t10 (.int .i64 5)) h fun t16 h =>
 If t16 (
 Join 6 (fun J2 =>
 Lp 6 (fun X3 t0_2 t1_2 t2_2 t3_2 t9_1 t10_1 h =>
 go (Bin .int .lss t9_1 t2_2) h fun t21 h =>
 go (Gd t21 true (Mv t3_2)) h fun t23 h =>
 go (Gd t21 true (Mv t0_2)) h fun t24 h =>
 go (Gd t21 true (Mv t9_1)) h fun t25 h =>
 go (Gd t21 true (Idx 1 t24 t25)) h fun t26 h =>
 go (Gd t21 true (Ld t26)) h fun t27 h =>
 go (Gd t21 true (Mv t0_2)) h fun t28 h =>
 go (Gd t21 true (Mv t9_1)) h fun t29 h =>
 go (Gd t21 true (Bin .int .sub t29 (.int .i64 1))) h fun t30 h =>
 go (Gd t21 true (Idx 1 t28 t30)) h fun t31 h =>
 go (Gd t21 true (Ld t31)) h fun t32 h =>
 go (Gd t21 true (CallV Try.prog t23 [t27, t32])) h fun t33 h =>
 go (Gd t21 true (Bin .int .lss t33 (.int .i64 0))) h fun t34 h =>
 go (Gd t21 true (Un .not t34)) h fun t35 h =>
 go (Pick t21 t35 (.bool false)) h fun t36 h =>
 If t36 (
 go (Bin .int .add t9_1 (.int .i64 1)) h fun t38 h =>
 X3 t0_2 t1_2 t2_2 t3_2 t38 t10_1 h) (
 go (Bin .int .eql t9_1 t2_2) h fun t41 h =>
 If t41 (
 K (.bool true) h) (
 go (Bin .int .sub t2_2 t1_2) h fun t44 h =>
 go (Bin .int .lss t44 (.int .i64 50)) h fun t45 h =>
 If t45 (
 K (.bool false) h) (
 go (Bin .int .sub t9_1 (.int .i64 1)) h fun t50 h =>
 go (Bin .int .sub t9_1 (.int .i64 1)) h fun t53 h =>
 go (Idx 1 t0_2 t53) h fun t54 h =>
 go (Ld t54) h fun t55 h =>
 go (Idx 1 t0_2 t9_1) h fun t58 h =>
 go (Ld t58) h fun t59 h =>
 go (Idx 1 t0_2 t9_1) h fun t60 h =>
 go (St t60 t55) h fun _ h =>
 go (Idx 1 t0_2 t50) h fun t61 h =>
 go (St t61 t59) h fun _ h =>
 Join 6 (fun J4 =>
 go (Bin .int .sub t9_1 t1_2) h fun t64 h =>
 go (Bin .int .geq t64 (.int .i64 2)) h fun t65 h =>
 If t65 (
 go (Bin .int .sub t9_1 (.int .i64 1)) h fun t67 h =>
 Lp 7 (fun X5 t0_3 t1_3 t2_3 t3_3 t9_2 t10_2 t11 h =>
 go (Bin .int .geq t11 (.int .i64 1)) h fun t69 h =>
 If t69 (
 go (Idx 1 t0_3 t11) h fun t75 h =>
 go (Ld t75) h fun t76 h =>
 go (Bin .int .sub t11 (.int .i64 1)) h fun t79 h =>
 go (Idx 1 t0_3 t79) h fun t80 h =>
 go (Ld t80) h fun t81 h =>
 go (CallV Try.prog t3_3 [t76, t81]) h fun t82 h =>
 go (Bin .int .lss t82 (.int .i64 0)) h fun t83 h =>
 go (Un .not t83) h fun t84 h =>
 If t84 (
 J4 t0_3 t1_3 t2_3 t3_3 t9_2 t10_2 h) (
 go (Bin .int .sub t11 (.int .i64 1)) h fun t89 h =>
 go (Bin .int .sub t11 (.int .i64 1)) h fun t92 h =>
 go (Idx 1 t0_3 t92) h fun t93 h =>
 go (Ld t93) h fun t94 h =>
 go (Idx 1 t0_3 t11) h fun t97 h =>
 go (Ld t97) h fun t98 h =>
 go (Idx 1 t0_3 t11) h fun t99 h =>
 go (St t99 t94) h fun _ h =>
 go (Idx 1 t0_3 t89) h fun t100 h =>
 go (St t100 t98) h fun _ h =>
 go (Bin .int .sub t11 (.int .i64 1)) h fun t71 h =>
 X5 t0_3 t1_3 t2_3 t3_3 t9_2 t10_2 t71 h)) (
 J4 t0_3 t1_3 t2_3 t3_3 t9_2 t10_2 h)) [t0_2, t1_2, t2_2, t3_2, t9_1, t10_1, t67] h) (
 J4 t0_2 t1_2 t2_2 t3_2 t9_1 t10_1 h)) (fun t0_4 t1_4 t2_4 t3_4 t9_3 t10_3 h =>
 go (Bin .int .sub t2_4 t9_3) h fun t103 h =>
 go (Bin .int .geq t103 (.int .i64 2)) h fun t104 h =>
 If t104 (
 go (Bin .int .add t9_3 (.int .i64 1)) h fun t106 h =>
 Lp 7 (fun X6 t0_5 t1_5 t2_5 t3_5 t9_4 t10_4 t12 h =>
 go (Bin .int .lss t12 t2_5) h fun t109 h =>
 If t109 (
 go (Idx 1 t0_5 t12) h fun t115 h =>
 go (Ld t115) h fun t116 h =>
 go (Bin .int .sub t12 (.int .i64 1)) h fun t119 h =>
 go (Idx 1 t0_5 t119) h fun t120 h =>
 go (Ld t120) h fun t121 h =>
 go (CallV Try.prog t3_5 [t116, t121]) h fun t122 h =>
 go (Bin .int .lss t122 (.int .i64 0)) h fun t123 h =>
 go (Un .not t123) h fun t124 h =>
 If t124 (
 J2 t0_5 t1_5 t2_5 t3_5 t9_4 t10_4 h) (
 go (Bin .int .sub t12 (.int .i64 1)) h fun t129 h =>
 go (Bin .int .sub t12 (.int .i64 1)) h fun t132 h =>
 go (Idx 1 t0_5 t132) h fun t133 h =>
 go (Ld t133) h fun t134 h =>
 go (Idx 1 t0_5 t12) h fun t137 h =>
 go (Ld t137) h fun t138 h =>
 go (Idx 1 t0_5 t12) h fun t139 h =>
 go (St t139 t134) h fun _ h =>
 go (Idx 1 t0_5 t129) h fun t140 h =>
 go (St t140 t138) h fun _ h =>
 go (Bin .int .add t12 (.int .i64 1)) h fun t111 h =>
 X6 t0_5 t1_5 t2_5 t3_5 t9_4 t10_4 t111 h)) (
 J2 t0_5 t1_5 t2_5 t3_5 t9_4 t10_4 h)) [t0_4, t1_4, t2_4, t3_4, t9_3, t10_3, t106] h) (
 J2 t0_4 t1_4 t2_4 t3_4 t9_3 t10_3 h)))))) [t0_1, t1_1, t2_1, t3_1, t9, t10] h) (fun t0_6 t1_6 t2_6 t3_6 t9_5 t10_5 h =>
 go (Bin .int .add t10_5 (.int .i64 1)) h fun t18 h =>
 X1 t0_6 t1_6 t2_6 t3_6 t9_5 t18 h)) (
 K (.bool false) h)) [t0, t1, t2, t3, t14, (.int .i64 0)] h
set_option maxRecDepth 100000 in
theorem slices_partialInsertionSortCmpFunc_int.eq : (fun t0 t1 t2 t3 K h => slices_partialInsertionSortCmpFunc_int.pt t0 t1 t2 t3 K h : Value → Value → Value → Value → Ret → Heap → Prop) = (fun t0 t1 t2 t3 K h => fnPt Try.prog [11, 12, 25] Try.f39 slices_partialInsertionSortCmpFunc_int.ann [t0, t1, t2, t3] K h) := by kernel_rfl
set_option maxRecDepth 100000 in
theorem slices_partialInsertionSortCmpFunc_int.ok {t0 t1 t2 t3 : Value} {K : Ret} {h : Heap} (hp : slices_partialInsertionSortCmpFunc_int.pt t0 t1 t2 t3 K h) : CallH Try.prog 39 #[t0, t1, t2, t3] K h :=
  fn_sound (qs := [11, 12, 25]) (fn := Try.f39) (ann := slices_partialInsertionSortCmpFunc_int.ann) (args := [t0, t1, t2, t3]) follows_mixed Try.func39 ((Eq.to_iff (congrFun (congrFun (congrFun (congrFun (congrFun (congrFun (slices_partialInsertionSortCmpFunc_int.eq) t0) t1) t2) t3) K) h)).mp hp)

/-! ### slices.partitionEqualCmpFunc[int]: function 40 -/
abbrev slices_partitionEqualCmpFunc_int.id : FuncId := 40
def slices_partitionEqualCmpFunc_int.ann : Ann := (.seq none .leaf (.seq none .leaf (.seq none .leaf (.seq none (.block (.loop [0, 1, 4, 11, 12] (.block (.seq none (.block (.loop [0, 1, 4, 11, 12] (.seq none (.seq none .leaf (.cond .leaf .leaf)) (.block .leaf)))) (.seq none (.block (.loop [0, 1, 4, 11, 12] (.seq none (.seq none .leaf (.cond .leaf .leaf)) (.block .leaf)))) (.seq none (.seq none .leaf (.cond .leaf .leaf)) (.seq none .leaf (.seq none .leaf .leaf)))))))) (.seq none .leaf .leaf)))))
set_option maxRecDepth 100000 in
def slices_partitionEqualCmpFunc_int.pt (t0 t1 t2 t3 t4 : Value) (K : Ret) (h : Heap) : Prop :=
 go (Idx 1 t0 t3) h fun t19 h =>
 go (Ld t19) h fun t20 h =>
 go (Idx 1 t0 t1) h fun t23 h =>
 go (Ld t23) h fun t24 h =>
 go (Idx 1 t0 t1) h fun t25 h =>
 go (St t25 t20) h fun _ h =>
 go (Idx 1 t0 t3) h fun t26 h =>
 go (St t26 t24) h fun _ h =>
 go (Bin .int .add t1 (.int .i64 1)) h fun t28 h =>
 go (Bin .int .sub t2 (.int .i64 1)) h fun t30 h =>
 Lp 5 (fun X1 t0_1 t1_1 t4_1 t11 t12 h =>
 Lp 5 (fun X2 t0_2 t1_2 t4_2 t11_1 t12_1 h =>
 go (Bin .int .leq t11_1 t12_1) h fun t33 h =>
 go (Gd t33 true (Mv t4_2)) h fun t35 h =>
 go (Gd t33 true (Mv t0_2)) h fun t36 h =>
 go (Gd t33 true (Mv t1_2)) h fun t37 h =>
 go (Gd t33 true (Idx 1 t36 t37)) h fun t38 h =>
 go (Gd t33 true (Ld t38)) h fun t39 h =>
 go (Gd t33 true (Mv t0_2)) h fun t40 h =>
 go (Gd t33 true (Mv t11_1)) h fun t41 h =>
 go (Gd t33 true (Idx 1 t40 t41)) h fun t42 h =>
 go (Gd t33 true (Ld t42)) h fun t43 h =>
 go (Gd t33 true (CallV Try.prog t35 [t39, t43])) h fun t44 h =>
 go (Gd t33 true (Bin .int .lss t44 (.int .i64 0))) h fun t45 h =>
 go (Gd t33 true (Un .not t45)) h fun t46 h =>
 go (Pick t33 t46 (.bool false)) h fun t47 h =>
 If t47 (
 go (Bin .int .add t11_1 (.int .i64 1)) h fun t49 h =>
 X2 t0_2 t1_2 t4_2 t49 t12_1 h) (
 Lp 5 (fun X3 t0_3 t1_3 t4_3 t11_2 t12_2 h =>
 go (Bin .int .leq t11_2 t12_2) h fun t52 h =>
 go (Gd t52 true (Mv t4_3)) h fun t54 h =>
 go (Gd t52 true (Mv t0_3)) h fun t55 h =>
 go (Gd t52 true (Mv t1_3)) h fun t56 h =>
 go (Gd t52 true (Idx 1 t55 t56)) h fun t57 h =>
 go (Gd t52 true (Ld t57)) h fun t58 h =>
 go (Gd t52 true (Mv t0_3)) h fun t59 h =>
 go (Gd t52 true (Mv t12_2)) h fun t60 h =>
 go (Gd t52 true (Idx 1 t59 t60)) h fun t61 h =>
 go (Gd t52 true (Ld t61)) h fun t62 h =>
 go (Gd t52 true (CallV Try.prog t54 [t58, t62])) h fun t63 h =>
 go (Gd t52 true (Bin .int .lss t63 (.int .i64 0))) h fun t64 h =>
 go (Pick t52 t64 (.bool false)) h fun t65 h =>
 If t65 (
 go (Bin .int .sub t12_2 (.int .i64 1)) h fun t67 h =>
 X3 t0_3 t1_3 t4_3 t11_2 t67 h) (
 go (Bin .int .gtr t11_2 t12_2) h fun t70 h =>
 If t70 (
 K t11_2 h) (
 go (Idx 1 t0_3 t12_2) h fun t77 h =>
 go (Ld t77) h fun t78 h =>
 go (Idx 1 t0_3 t11_2) h fun t81 h =>
 go (Ld t81) h fun t82 h =>
 go (Idx 1 t0_3 t11_2) h fun t83 h =>
 go (St t83 t78) h fun _ h =>
 go (Idx 1 t0_3 t12_2) h fun t84 h =>
 go (St t84 t82) h fun _ h =>
 go (Bin .int .add t11_2 (.int .i64 1)) h fun t86 h =>
 go (Bin .int .sub t12_2 (.int .i64 1)) h fun t88 h =>
 X1 t0_3 t1_3 t4_3 t86 t88 h))) [t0_2, t1_2, t4_2, t11_1, t12_1] h)) [t0_1, t1_1, t4_1, t11, t12] h) [t0, t1, t4, t28, t30] h
set_option maxRecDepth 100000 in
theorem slices_partitionEqualCmpFunc_int.eq : (fun t0 t1 t2 t3 t4 K h => slices_partitionEqualCmpFunc_int.pt t0 t1 t2 t3 t4 K h : Value → Value → Value → Value → Value → Ret → Heap → Prop) = (fun t0 t1 t2 t3 t4 K h => fnPt Try.prog [11, 12, 25] Try.f40 slices_partitionEqualCmpFunc_int.ann [t0, t1, t2, t3, t4] K h) := by kernel_rfl
set_option maxRecDepth 100000 in
theorem slices_partitionEqualCmpFunc_int.ok {t0 t1 t2 t3 t4 : Value} {K : Ret} {h : Heap} (hp : slices_partitionEqualCmpFunc_int.pt t0 t1 t2 t3 t4 K h) : CallH Try.prog 40 #[t0, t1, t2, t3, t4] K h :=
  fn_sound (qs := [11, 12, 25]) (fn := Try.f40) (ann := slices_partitionEqualCmpFunc_int.ann) (args := [t0, t1, t2, t3, t4]) follows_mixed Try.func40 ((Eq.to_iff (congrFun (congrFun (congrFun (congrFun (congrFun (congrFun (congrFun (slices_partitionEqualCmpFunc_int.eq) t0) t1) t2) t3) t4) K) h)).mp hp)

/-! ### slices.partitionCmpFunc[int]: function 41 -/
abbrev slices_partitionCmpFunc_int.id : FuncId := 41
def slices_partitionCmpFunc_int.ann : Ann := (.seq none .leaf (.seq none .leaf (.seq none .leaf (.seq none (.block (.loop [0, 1, 4, 12, 13] (.seq none (.seq none .leaf (.cond .leaf .leaf)) (.block .leaf)))) (.seq none (.block (.loop [0, 1, 4, 12, 13] (.seq none (.seq none .leaf (.cond .leaf .leaf)) (.block .leaf)))) (.seq none (.seq none .leaf (.cond (.seq none .leaf (.seq none .leaf .leaf)) .leaf)) (.seq none .leaf (.seq none .leaf (.seq none .leaf (.seq none (.block (.loop [0, 1, 4, 12, 13] (.block (.seq none (.block (.loop [0, 1, 4, 12, 13] (.seq none (.seq none .leaf (.cond .leaf .leaf)) (.block .leaf)))) (.seq none (.block (.loop [0, 1, 4, 12, 13] (.seq none (.seq none .leaf (.cond .leaf .leaf)) (.block .leaf)))) (.seq none (.seq none .leaf (.cond .leaf .leaf)) (.seq none .leaf (.seq none .leaf .leaf)))))))) (.seq none .leaf (.seq none .leaf .leaf))))))))))))
set_option maxRecDepth 100000 in
def slices_partitionCmpFunc_int.pt (t0 t1 t2 t3 t4 : Value) (K : Ret) (h : Heap) : Prop :=
 go (Idx 1 t0 t3) h fun t20 h =>
 go (Ld t20) h fun t21 h =>
 go (Idx 1 t0 t1) h fun t24 h =>
 go (Ld t24) h fun t25 h =>
 go (Idx 1 t0 t1) h fun t26 h =>
 go (St t26 t21) h fun _ h =>
 go (Idx 1 t0 t3) h fun t27 h =>
 go (St t27 t25) h fun _ h =>
 go (Bin .int .add t1 (.int .i64 1)) h fun t29 h =>
 go (Bin .int .sub t2 (.int .i64 1)) h fun t31 h =>
 Lp 5 (fun X1 t0_1 t1_1 t4_1 t12 t13 h =>
 go (Bin .int .leq t12 t13) h fun t34 h =>
 go (Gd t34 true (Mv t4_1)) h fun t36 h =>
 go (Gd t34 true (Mv t0_1)) h fun t37 h =>
 go (Gd t34 true (Mv t12)) h fun t38 h =>
 go (Gd t34 true (Idx 1 t37 t38)) h fun t39 h =>
 go (Gd t34 true (Ld t39)) h fun t40 h =>
 go (Gd t34 true (Mv t0_1)) h fun t41 h =>
 go (Gd t34 true (Mv t1_1)) h fun t42 h =>
 go (Gd t34 true (Idx 1 t41 t42)) h fun t43 h =>
 go (Gd t34 true (Ld t43)) h fun t44 h =>
 go (Gd t34 true (CallV Try.prog t36 [t40, t44])) h fun t45 h =>
 go (Gd t34 true (Bin .int .lss t45 (.int .i64 0))) h fun t46 h =>
 go (Pick t34 t46 (.bool false)) h fun t47 h =>
 If t47 (
 go (Bin .int .add t12 (.int .i64 1)) h fun t49 h =>
 X1 t0_1 t1_1 t4_1 t49 t13 h) (
 Lp 5 (fun X2 t0_2 t1_2 t4_2 t12_1 t13_1 h =>
 go (Bin .int .leq t12_1 t13_1) h fun t52 h =>
 go (Gd t52 true (Mv t4_2)) h fun t54 h =>
 go (Gd t52 true (Mv t0_2)) h fun t55 h =>
 go (Gd t52 true (Mv t13_1)) h fun t56 h =>
 go (Gd t52 true (Idx 1 t55 t56)) h fun t57 h =>
 go (Gd t52 true (Ld t57)) h fun t58 h =>
 go (Gd t52 true (Mv t0_2)) h fun t59 h =>
 go (Gd t52 true (Mv t1_2)) h fun t60 h =>
 go (Gd t52 true (Idx 1 t59 t60)) h fun t61 h =>
 go (Gd t52 true (Ld t61)) h fun t62 h =>
 go (Gd t52 true (CallV Try.prog t54 [t58, t62])) h fun t63 h =>
 go (Gd t52 true (Bin .int .lss t63 (.int .i64 0))) h fun t64 h =>
 go (Gd t52 true (Un .not t64)) h fun t65 h =>
 go (Pick t52 t65 (.bool false)) h fun t66 h =>
 If t66 (
 go (Bin .int .sub t13_1 (.int .i64 1)) h fun t68 h =>
 X2 t0_2 t1_2 t4_2 t12_1 t68 h) (
 go (Bin .int .gtr t12_1 t13_1) h fun t71 h =>
 If t71 (
 go (Idx 1 t0_2 t1_2) h fun t78 h =>
 go (Ld t78) h fun t79 h =>
 go (Idx 1 t0_2 t13_1) h fun t82 h =>
 go (Ld t82) h fun t83 h =>
 go (Idx 1 t0_2 t13_1) h fun t84 h =>
 go (St t84 t79) h fun _ h =>
 go (Idx 1 t0_2 t1_2) h fun t85 h =>
 go (St t85 t83) h fun _ h =>
 K (.tuple #[t13_1, (.bool true)]) h) (
 go (Idx 1 t0_2 t13_1) h fun t93 h =>
 go (Ld t93) h fun t94 h =>
 go (Idx 1 t0_2 t12_1) h fun t97 h =>
 go (Ld t97) h fun t98 h =>
 go (Idx 1 t0_2 t12_1) h fun t99 h =>
 go (St t99 t94) h fun _ h =>
 go (Idx 1 t0_2 t13_1) h fun t100 h =>
 go (St t100 t98) h fun _ h =>
 go (Bin .int .add t12_1 (.int .i64 1)) h fun t102 h =>
 go (Bin .int .sub t13_1 (.int .i64 1)) h fun t104 h =>
 Lp 5 (fun X3 t0_3 t1_3 t4_3 t12_2 t13_2 h =>
 Lp 5 (fun X4 t0_4 t1_4 t4_4 t12_3 t13_3 h =>
 go (Bin .int .leq t12_3 t13_3) h fun t107 h =>
 go (Gd t107 true (Mv t4_4)) h fun t109 h =>
 go (Gd t107 true (Mv t0_4)) h fun t110 h =>
 go (Gd t107 true (Mv t12_3)) h fun t111 h =>
 go (Gd t107 true (Idx 1 t110 t111)) h fun t112 h =>
 go (Gd t107 true (Ld t112)) h fun t113 h =>
 go (Gd t107 true (Mv t0_4)) h fun t114 h =>
 go (Gd t107 true (Mv t1_4)) h fun t115 h =>
 go (Gd t107 true (Idx 1 t114 t115)) h fun t116 h =>
 go (Gd t107 true (Ld t116)) h fun t117 h =>
 go (Gd t107 true (CallV Try.prog t109 [t113, t117])) h fun t118 h =>
 go (Gd t107 true (Bin .int .lss t118 (.int .i64 0))) h fun t119 h =>
 go (Pick t107 t119 (.bool false)) h fun t120 h =>
 If t120 (
 go (Bin .int .add t12_3 (.int .i64 1)) h fun t122 h =>
 X4 t0_4 t1_4 t4_4 t122 t13_3 h) (
 Lp 5 (fun X5 t0_5 t1_5 t4_5 t12_4 t13_4 h =>
 go (Bin .int .leq t12_4 t13_4) h fun t125 h =>
 go (Gd t125 true (Mv t4_5)) h fun t127 h =>
 go (Gd t125 true (Mv t0_5)) h fun t128 h =>
 go (Gd t125 true (Mv t13_4)) h fun t129 h =>
 go (Gd t125 true (Idx 1 t128 t129)) h fun t130 h =>
 go (Gd t125 true (Ld t130)) h fun t131 h =>
 go (Gd t125 true (Mv t0_5)) h fun t132 h =>
 go (Gd t125 true (Mv t1_5)) h fun t133 h =>
 go (Gd t125 true (Idx 1 t132 t133)) h fun t134 h =>
 go (Gd t125 true (Ld t134)) h fun t135 h =>
 go (Gd t125 true (CallV Try.prog t127 [t131, t135])) h fun t136 h =>
 go (Gd t125 true (Bin .int .lss t136 (.int .i64 0))) h fun t137 h =>
 go (Gd t125 true (Un .not t137)) h fun t138 h =>
 go (Pick t125 t138 (.bool false)) h fun t139 h =>
 If t139 (
 go (Bin .int .sub t13_4 (.int .i64 1)) h fun t141 h =>
 X5 t0_5 t1_5 t4_5 t12_4 t141 h) (
 go (Bin .int .gtr t12_4 t13_4) h fun t144 h =>
 If t144 (
 go (Idx 1 t0_5 t1_5) h fun t169 h =>
 go (Ld t169) h fun t170 h =>
 go (Idx 1 t0_5 t13_4) h fun t173 h =>
 go (Ld t173) h fun t174 h =>
 go (Idx 1 t0_5 t13_4) h fun t175 h =>
 go (St t175 t170) h fun _ h =>
 go (Idx 1 t0_5 t1_5) h fun t176 h =>
 go (St t176 t174) h fun _ h =>
 K (.tuple #[t13_4, (.bool false)]) h) (
 go (Idx 1 t0_5 t13_4) h fun t151 h =>
 go (Ld t151) h fun t152 h =>
 go (Idx 1 t0_5 t12_4) h fun t155 h =>
 go (Ld t155) h fun t156 h =>
 go (Idx 1 t0_5 t12_4) h fun t157 h =>
 go (St t157 t152) h fun _ h =>
 go (Idx 1 t0_5 t13_4) h fun t158 h =>
 go (St t158 t156) h fun _ h =>
 go (Bin .int .add t12_4 (.int .i64 1)) h fun t160 h =>
 go (Bin .int .sub t13_4 (.int .i64 1)) h fun t162 h =>
 X3 t0_5 t1_5 t4_5 t160 t162 h))) [t0_4, t1_4, t4_4, t12_3, t13_3] h)) [t0_3, t1_3, t4_3, t12_2, t13_2] h) [t0_2, t1_2, t4_2, t102, t104] h))) [t0_1, t1_1, t4_1, t12, t13] h)) [t0, t1, t4, t29, t31] h
set_option maxRecDepth 100000 in
theorem slices_partitionCmpFunc_int.eq : (fun t0 t1 t2 t3 t4 K h => slices_partitionCmpFunc_int.pt t0 t1 t2 t3 t4 K h : Value → Value → Value → Value → Value → Ret → Heap → Prop) = (fun t0 t1 t2 t3 t4 K h => fnPt Try.prog [11, 12, 25] Try.f41 slices_partitionCmpFunc_int.ann [t0, t1, t2, t3, t4] K h) := by kernel_rfl
set_option maxRecDepth 100000 in
theorem slices_partitionCmpFunc_int.ok {t0 t1 t2 t3 t4 : Value} {K : Ret} {h : Heap} (hp : slices_partitionCmpFunc_int.pt t0 t1 t2 t3 t4 K h) : CallH Try.prog 41 #[t0, t1, t2, t3, t4] K h :=
  fn_sound (qs := [11, 12, 25]) (fn := Try.f41) (ann := slices_partitionCmpFunc_int.ann) (args := [t0, t1, t2, t3, t4]) follows_mixed Try.func41 ((Eq.to_iff (congrFun (congrFun (congrFun (congrFun (congrFun (congrFun (congrFun (slices_partitionCmpFunc_int.eq) t0) t1) t2) t3) t4) K) h)).mp hp)

/-! ### math/bits.Len64: function 43 -/
abbrev bits_Len64.id : FuncId := 43
def bits_Len64.ann : Ann := (.seq none .leaf (.seq (some [0, 2]) (.seq none .leaf (.cond (.seq none .leaf .leaf) .leaf)) (.seq (some [0, 2]) (.seq none .leaf (.cond (.seq none .leaf .leaf) .leaf)) (.seq (some [0, 2]) (.seq none .leaf (.cond (.seq none .leaf .leaf) .leaf)) (.seq none .leaf .leaf)))))
set_option maxRecDepth 100000 in
def bits_Len64.pt (t0 : Value) (K : Ret) (h : Heap) : Prop :=
 Join 2 (fun J1 =>
 go (Bin .int .geq t0 (.int .u64 4294967296)) h fun t4 h =>
 If t4 (
 go (Bin .int .shr t0 (.int .u64 32)) h fun t6 h =>
 J1 t6 (.int .i64 32) h) (
 J1 t0 (.int .i64 0) h)) (fun t0_1 t2 h =>
 Join 2 (fun J2 =>
 go (Bin .int .geq t0_1 (.int .u64 65536)) h fun t8 h =>
 If t8 (
 go (Bin .int .shr t0_1 (.int .u64 16)) h fun t10 h =>
 go (Bin .int .add t2 (.int .i64 16)) h fun t12 h =>
 J2 t10 t12 h) (
 J2 t0_1 t2 h)) (fun t0_2 t2_1 h =>
 Join 2 (fun J3 =>
 go (Bin .int .geq t0_2 (.int .u64 256)) h fun t14 h =>
 If t14 (
 go (Bin .int .shr t0_2 (.int .u64 8)) h fun t16 h =>
 go (Bin .int .add t2_1 (.int .i64 8)) h fun t18 h =>
 J3 t16 t18 h) (
 J3 t0_2 t2_1 h)) (fun t0_3 t2_2 h =>
 go (Cvt .u8 t0_3) h fun t21 h =>
 go (IdxS (.string ⟨#[0, 1, 2, 2, 3, 3, 3, 3, 4, 4, 4, 4, 4, 4, 4, 4, 5, 5, 5, 5, 5, 5, 5, 5, 5, 5, 5, 5, 5, 5, 5, 5, 6, 6, 6, 6, 6, 6, 6, 6, 6, 6, 6, 6, 6, 6, 6, 6, 6, 6, 6, 6, 6, 6, 6, 6, 6, 6, 6, 6, 6, 6, 6, 6, 7, 7, 7, 7, 7, 7, 7, 7, 7, 7, 7, 7, 7, 7, 7, 7, 7, 7, 7, 7, 7, 7, 7, 7, 7, 7, 7, 7, 7, 7, 7, 7, 7, 7, 7, 7, 7, 7, 7, 7, 7, 7, 7, 7, 7, 7, 7, 7, 7, 7, 7, 7, 7, 7, 7, 7, 7, 7, 7, 7, 7, 7, 7, 7, 8, 8, 8, 8, 8, 8, 8, 8, 8, 8, 8, 8, 8, 8, 8, 8, 8, 8, 8, 8, 8, 8, 8, 8, 8, 8, 8, 8, 8, 8, 8, 8, 8, 8, 8, 8, 8, 8, 8, 8, 8, 8, 8, 8, 8, 8, 8, 8, 8, 8, 8, 8, 8, 8, 8, 8, 8, 8, 8, 8, 8, 8, 8, 8, 8, 8, 8, 8, 8, 8, 8, 8, 8, 8, 8, 8, 8, 8, 8, 8, 8, 8, 8, 8, 8, 8, 8, 8, 8, 8, 8, 8, 8, 8, 8, 8, 8, 8, 8, 8, 8, 8, 8, 8, 8, 8, 8, 8, 8, 8, 8, 8, 8, 8, 8, 8, 8, 8, 8, 8, 8, 8, 8, 8, 8, 8, 8, 8]⟩) t21) h fun t22 h =>
 go (Cvt .i64 t22) h fun t23 h =>
 go (Bin .int .add t2_2 t23) h fun t24 h =>
 K t24 h)))
set_option maxRecDepth 100000 in
theorem bits_Len64.eq : (fun t0 K h => bits_Len64.pt t0 K h : Value → Ret → Heap → Prop) = (fun t0 K h => fnPt Try.prog [11, 12, 25] Try.f43 bits_Len64.ann [t0] K h) := by kernel_rfl
set_option maxRecDepth 100000 in
theorem bits_Len64.ok {t0 : Value} {K : Ret} {h : Heap} (hp : bits_Len64.pt t0 K h) : CallH Try.prog 43 #[t0] K h :=
  fn_sound (qs := [11, 12, 25]) (fn := Try.f43) (ann := bits_Len64.ann) (args := [t0]) follows_mixed Try.func43 ((Eq.to_iff (congrFun (congrFun (congrFun (bits_Len64.eq) t0) K) h)).mp hp)

/-! ### cmp.isNaN[int]: function 44 -/
abbrev cmp_isNaN_int.id : FuncId := 44
def cmp_isNaN_int.ann : Ann := (.seq none .leaf (.seq none .leaf .leaf))
set_option maxRecDepth 100000 in
def cmp_isNaN_int.pt (t0 : Value) (K : Ret) (h : Heap) : Prop :=
 go (Bin .int .neq t0 t0) h fun t5 h =>
 K t5 h
set_option maxRecDepth 100000 in
theorem cmp_isNaN_int.eq : (fun t0 K h => cmp_isNaN_int.pt t0 K h : Value → Ret → Heap → Prop) = (fun t0 K h => fnPt Try.prog [11, 12, 25] Try.f44 cmp_isNaN_int.ann [t0] K h) := by kernel_rfl
set_option maxRecDepth 100000 in
theorem cmp_isNaN_int.ok {t0 : Value} {K : Ret} {h : Heap} (hp : cmp_isNaN_int.pt t0 K h) : CallH Try.prog 44 #[t0] K h :=
  fn_sound (qs := [11, 12, 25]) (fn := Try.f44) (ann := cmp_isNaN_int.ann) (args := [t0]) follows_mixed Try.func44 ((Eq.to_iff (congrFun (congrFun (congrFun (cmp_isNaN_int.eq) t0) K) h)).mp hp)

/-! ### slices.siftDownCmpFunc[int]: function 45 -/
abbrev slices_siftDownCmpFunc_int.id : FuncId := 45
def slices_siftDownCmpFunc_int.ann : Ann := (.seq none .leaf (.block (.loop [0, 2, 3, 4, 10] (.block (.seq none .leaf (.seq none (.seq none .leaf (.cond .leaf .leaf)) (.seq (some [0, 2, 3, 4, 10, 11]) (.seq none .leaf (.cond .leaf .leaf)) (.seq none (.seq none .leaf (.cond .leaf .leaf)) (.seq none .leaf .leaf)))))))))
set_option maxRecDepth 100000 in
def slices_siftDownCmpFunc_int.pt (t0 t1 t2 t3 t4 : Value) (K : Ret) (h : Heap) : Prop :=
 Lp 5 (fun X1 t0_1 t2_1 t3_1 t4_1 t10 h =>
 go (Bin .int .mul (.int .i64 2) t10) h fun t14 h =>
 go (Bin .int .add t14 (.int .i64 1)) h fun t15 h =>
 go (Bin .int .geq t15 t2_1) h fun t18 h =>
 If t18 (
 K (.tuple #[]) h) (
 Join 6 (fun J2 =>
 go (Bin .int .add t15 (.int .i64 1)) h fun t20 h =>
 go (Bin .int .lss t20 t2_1) h fun t22 h =>
 go (Gd t22 true (Mv t4_1)) h fun t24 h =>
 go (Gd t22 true (Mv t0_1)) h fun t25 h =>
 go (Gd t22 true (Mv t3_1)) h fun t26 h =>
 go (Gd t22 true (Mv t15)) h fun t27 h =>
 go (Gd t22 true (Bin .int .add t26 t27)) h fun t28 h =>
 go (Gd t22 true (Idx 1 t25 t28)) h fun t29 h =>
 go (Gd t22 true (Ld t29)) h fun t30 h =>
 go (Gd t22 true (Mv t0_1)) h fun t31 h =>
 go (Gd t22 true (Mv t3_1)) h fun t32 h =>
 go (Gd t22 true (Mv t15)) h fun t33 h =>
 go (Gd t22 true (Bin .int .add t32 t33)) h fun t34 h =>
 go (Gd t22 true (Bin .int .add t34 (.int .i64 1))) h fun t35 h =>
 go (Gd t22 true (Idx 1 t31 t35)) h fun t36 h =>
 go (Gd t22 true (Ld t36)) h fun t37 h =>
 go (Gd t22 true (CallV Try.prog t24 [t30, t37])) h fun t38 h =>
 go (Gd t22 true (Bin .int .lss t38 (.int .i64 0))) h fun t39 h =>
 go (Pick t22 t39 (.bool false)) h fun t40 h =>
 If t40 (
 go (Bin .int .add t15 (.int .i64 1)) h fun t42 h =>
 J2 t0_1 t2_1 t3_1 t4_1 t10 t42 h) (
 J2 t0_1 t2_1 t3_1 t4_1 t10 t15 h)) (fun t0_2 t2_2 t3_2 t4_2 t10_1 t11 h =>
 go (Bin .int .add t3_2 t10_1) h fun t47 h =>
 go (Idx 1 t0_2 t47) h fun t48 h =>
 go (Ld t48) h fun t49 h =>
 go (Bin .int .add t3_2 t11) h fun t53 h =>
 go (Idx 1 t0_2 t53) h fun t54 h =>
 go (Ld t54) h fun t55 h =>
 go (CallV Try.prog t4_2 [t49, t55]) h fun t56 h =>
 go (Bin .int .lss t56 (.int .i64 0)) h fun t57 h =>
 go (Un .not t57) h fun t58 h =>
 If t58 (
 K (.tuple #[]) h) (
 go (Bin .int .add t3_2 t10_1) h fun t62 h =>
 go (Bin .int .add t3_2 t11) h fun t66 h =>
 go (Bin .int .add t3_2 t11) h fun t70 h =>
 go (Idx 1 t0_2 t70) h fun t71 h =>
 go (Ld t71) h fun t72 h =>
 go (Bin .int .add t3_2 t10_1) h fun t76 h =>
 go (Idx 1 t0_2 t76) h fun t77 h =>
 go (Ld t77) h fun t78 h =>
 go (Idx 1 t0_2 t62) h fun t79 h =>
 go (St t79 t72) h fun _ h =>
 go (Idx 1 t0_2 t66) h fun t80 h =>
 go (St t80 t78) h fun _ h =>
 X1 t0_2 t2_2 t3_2 t4_2 t11 h)))) [t0, t2, t3, t4, t1] h
set_option maxRecDepth 100000 in
theorem slices_siftDownCmpFunc_int.eq : (fun t0 t1 t2 t3 t4 K h => slices_siftDownCmpFunc_int.pt t0 t1 t2 t3 t4 K h : Value → Value → Value → Value → Value → Ret → Heap → Prop) = (fun t0 t1 t2 t3 t4 K h => fnPt Try.prog [11, 12, 25] Try.f45 slices_siftDownCmpFunc_int.ann [t0, t1, t2, t3, t4] K h) := by kernel_rfl
set_option maxRecDepth 100000 in
theorem slices_siftDownCmpFunc_int.ok {t0 t1 t2 t3 t4 : Value} {K : Ret} {h : Heap} (hp : slices_siftDownCmpFunc_int.pt t0 t1 t2 t3 t4 K h) : CallH Try.prog 45 #[t0, t1, t2, t3, t4] K h :=
  fn_sound (qs := [11, 12, 25]) (fn := Try.f45) (ann := slices_siftDownCmpFunc_int.ann) (args := [t0, t1, t2, t3, t4]) follows_mixed Try.func45 ((Eq.to_iff (congrFun (congrFun (congrFun (congrFun (congrFun (congrFun (congrFun (slices_siftDownCmpFunc_int.eq) t0) t1) t2) t3) t4) K) h)).mp hp)

/-! ### slices.nextPowerOfTwo: function 46 -/
abbrev slices_nextPowerOfTwo.id : FuncId := 46
def slices_nextPowerOfTwo.ann : Ann := (.seq none .leaf (.seq none .leaf .leaf))
set_option maxRecDepth 100000 in
def slices_nextPowerOfTwo.pt (t0 : Value) (K : Ret) (h : Heap) : Prop :=
 go (Cvt .u64 t0) h fun t4 h =>
 go (CallF Try.prog 30 [t4]) h fun t5 h =>
 go (Bin .int .shl (.int .u64 1) t5) h fun t6 h =>
 K t6 h
set_option maxRecDepth 100000 in
theorem slices_nextPowerOfTwo.eq : (fun t0 K h => slices_nextPowerOfTwo.pt t0 K h : Value → Ret → Heap → Prop) = (fun t0 K h => fnPt Try.prog [11, 12, 25] Try.f46 slices_nextPowerOfTwo.ann [t0] K h) := by kernel_rfl
set_option maxRecDepth 100000 in
theorem slices_nextPowerOfTwo.ok {t0 : Value} {K : Ret} {h : Heap} (hp : slices_nextPowerOfTwo.pt t0 K h) : CallH Try.prog 46 #[t0] K h :=
  fn_sound (qs := [11, 12, 25]) (fn := Try.f46) (ann := slices_nextPowerOfTwo.ann) (args := [t0]) follows_mixed Try.func46 ((Eq.to_iff (congrFun (congrFun (congrFun (slices_nextPowerOfTwo.eq) t0) K) h)).mp hp)

/-! ### (*slices.xorshift).Next: function 47 -/
abbrev slices_xorshift_Next.id : FuncId := 47
def slices_xorshift_Next.ann : Ann := (.seq none .leaf (.seq none .leaf (.seq none .leaf (.seq none .leaf (.seq none .leaf .leaf)))))
set_option maxRecDepth 100000 in
def slices_xorshift_Next.pt (t0 : Value) (K : Ret) (h : Heap) : Prop :=
 go (NilC t0) h fun t4 h =>
 go (Ld t4) h fun t5 h =>
 go (NilC t0) h fun t7 h =>
 go (Ld t7) h fun t8 h =>
 go (Bin .int .shl t8 (.int .u64 13)) h fun t9 h =>
 go (Bin .int .xor t5 t9) h fun t10 h =>
 go (NilC t0) h fun t11 h =>
 go (St t11 t10) h fun _ h =>
 go (NilC t0) h fun t13 h =>
 go (Ld t13) h fun t14 h =>
 go (NilC t0) h fun t16 h =>
 go (Ld t16) h fun t17 h =>
 go (Bin .int .shr t17 (.int .u64 7)) h fun t18 h =>
 go (Bin .int .xor t14 t18) h fun t19 h =>
 go (NilC t0) h fun t20 h =>
 go (St t20 t19) h fun _ h =>
 go (NilC t0) h fun t22 h =>
 go (Ld t22) h fun t23 h =>
 go (NilC t0) h fun t25 h =>
 go (Ld t25) h fun t26 h =>
 go (Bin .int .shl t26 (.int .u64 17)) h fun t27 h =>
 go (Bin .int .xor t23 t27) h fun t28 h =>
 go (NilC t0) h fun t29 h =>
 go (St t29 t28) h fun _ h =>
 go (NilC t0) h fun t31 h =>
 go (Ld t31) h fun t32 h =>
 K t32 h
set_option maxRecDepth 100000 in
theorem slices_xorshift_Next.eq : (fun t0 K h => slices_xorshift_Next.pt t0 K h : Value → Ret → Heap → Prop) = (fun t0 K h => fnPt Try.prog [11, 12, 25] Try.f47 slices_xorshift_Next.ann [t0] K h) := by kernel_rfl
set_option maxRecDepth 100000 in
theorem slices_xorshift_Next.ok {t0 : Value} {K : Ret} {h : Heap} (hp : slices_xorshift_Next.pt t0 K h) : CallH Try.prog 47 #[t0] K h :=
  fn_sound (qs := [11, 12, 25]) (fn := Try.f47) (ann := slices_xorshift_Next.ann) (args := [t0]) follows_mixed Try.func47 ((Eq.to_iff (congrFun (congrFun (congrFun (slices_xorshift_Next.eq) t0) K) h)).mp hp)

/-! ### slices.medianAdjacentCmpFunc[int]: function 48 -/
abbrev slices_medianAdjacentCmpFunc_int.id : FuncId := 48
def slices_medianAdjacentCmpFunc_int.ann : Ann := (.seq none .leaf (.seq none .leaf .leaf))
set_option maxRecDepth 100000 in
def slices_medianAdjacentCmpFunc_int.pt (t0 t1 t2 t3 : Value) (K : Ret) (h : Heap) : Prop :=
 go (Bin .int .sub t1 (.int .i64 1)) h fun t11 h =>
 go (Bin .int .add t1 (.int .i64 1)) h fun t14 h =>
 go (CallF Try.prog 49 [t0, t11, t1, t14, t2, t3]) h fun t17 h =>
 K t17 h
set_option maxRecDepth 100000 in
theorem slices_medianAdjacentCmpFunc_int.eq : (fun t0 t1 t2 t3 K h => slices_medianAdjacentCmpFunc_int.pt t0 t1 t2 t3 K h : Value → Value → Value → Value → Ret → Heap → Prop) = (fun t0 t1 t2 t3 K h => fnPt Try.prog [11, 12, 25] Try.f48 slices_medianAdjacentCmpFunc_int.ann [t0, t1, t2, t3] K h) := by kernel_rfl
set_option maxRecDepth 100000 in
theorem slices_medianAdjacentCmpFunc_int.ok {t0 t1 t2 t3 : Value} {K : Ret} {h : Heap} (hp : slices_medianAdjacentCmpFunc_int.pt t0 t1 t2 t3 K h) : CallH Try.prog 48 #[t0, t1, t2, t3] K h :=
  fn_sound (qs := [11, 12, 25]) (fn := Try.f48) (ann := slices_medianAdjacentCmpFunc_int.ann) (args := [t0, t1, t2, t3]) follows_mixed Try.func48 ((Eq.to_iff (congrFun (congrFun (congrFun (congrFun (congrFun (congrFun (slices_medianAdjacentCmpFunc_int.eq) t0) t1) t2) t3) K) h)).mp hp)

/-! ### slices.medianCmpFunc[int]: function 49 -/
abbrev slices_medianCmpFunc_int.id : FuncId := 49
def slices_medianCmpFunc_int.ann : Ann := (.seq none .leaf (.seq none .leaf (.seq none .leaf (.seq none .leaf (.seq none .leaf .leaf)))))
set_option maxRecDepth 100000 in
def slices_medianCmpFunc_int.pt (t0 t1 t2 t3 t4 t5 : Value) (K : Ret) (h : Heap) : Prop :=
 go (CallF Try.prog 50 [t0, t1, t2, t4, t5]) h fun t19 h =>
 go (Ext 0 t19) h fun t20 h =>
 go (Ext 1 t19) h fun t21 h =>
 go (CallF Try.prog 50 [t0, t21, t3, t4, t5]) h fun t28 h =>
 go (Ext 0 t28) h fun t29 h =>
 go (Ext 1 t28) h fun t30 h =>
 go (CallF Try.prog 50 [t0, t20, t29, t4, t5]) h fun t37 h =>
 go (Ext 0 t37) h fun t38 h =>
 go (Ext 1 t37) h fun t39 h =>
 K t39 h
set_option maxRecDepth 100000 in
theorem slices_medianCmpFunc_int.eq : (fun t0 t1 t2 t3 t4 t5 K h => slices_medianCmpFunc_int.pt t0 t1 t2 t3 t4 t5 K h : Value → Value → Value → Value → Value → Value → Ret → Heap → Prop) = (fun t0 t1 t2 t3 t4 t5 K h => fnPt Try.prog [11, 12, 25] Try.f49 slices_medianCmpFunc_int.ann [t0, t1, t2, t3, t4, t5] K h) := by kernel_rfl
set_option maxRecDepth 100000 in
theorem slices_medianCmpFunc_int.ok {t0 t1 t2 t3 t4 t5 : Value} {K : Ret} {h : Heap} (hp : slices_medianCmpFunc_int.pt t0 t1 t2 t3 t4 t5 K h) : CallH Try.prog 49 #[t0, t1, t2, t3, t4, t5] K h :=
  fn_sound (qs := [11, 12, 25]) (fn := Try.f49) (ann := slices_medianCmpFunc_int.ann) (args := [t0, t1, t2, t3, t4, t5]) follows_mixed Try.func49 ((Eq.to_iff (congrFun (congrFun (congrFun (congrFun (congrFun (congrFun (congrFun (congrFun (slices_medianCmpFunc_int.eq) t0) t1) t2) t3) t4) t5) K) h)).mp hp)

/-! ### slices.order2CmpFunc[int]: function 50 -/
abbrev slices_order2CmpFunc_int.id : FuncId := 50
def slices_order2CmpFunc_int.ann : Ann := (.seq none .leaf (.seq none (.seq none .leaf (.cond (.seq none .leaf (.seq none .leaf .leaf)) .leaf)) (.seq none .leaf .leaf)))
set_option maxRecDepth 100000 in
def slices_order2CmpFunc_int.pt (t0 t1 t2 t3 t4 : Value) (K : Ret) (h : Heap) : Prop :=
 go (Idx 1 t0 t2) h fun t15 h =>
 go (Ld t15) h fun t16 h =>
 go (Idx 1 t0 t1) h fun t19 h =>
 go (Ld t19) h fun t20 h =>
 go (CallV Try.prog t4 [t16, t20]) h fun t21 h =>
 go (Bin .int .lss t21 (.int .i64 0)) h fun t22 h =>
 If t22 (
 go (NilC t3) h fun t24 h =>
 go (Ld t24) h fun t25 h =>
 go (Bin .int .add t25 (.int .i64 1)) h fun t26 h =>
 go (NilC t3) h fun t27 h =>
 go (St t27 t26) h fun _ h =>
 K (.tuple #[t2, t1]) h) (
 K (.tuple #[t1, t2]) h)
set_option maxRecDepth 100000 in
theorem slices_order2CmpFunc_int.eq : (fun t0 t1 t2 t3 t4 K h => slices_order2CmpFunc_int.pt t0 t1 t2 t3 t4 K h : Value → Value → Value → Value → Value → Ret → Heap → Prop) = (fun t0 t1 t2 t3 t4 K h => fnPt Try.prog [11, 12, 25] Try.f50 slices_order2CmpFunc_int.ann [t0, t1, t2, t3, t4] K h) := by kernel_rfl
set_option maxRecDepth 100000 in
theorem slices_order2CmpFunc_int.ok {t0 t1 t2 t3 t4 : Value} {K : Ret} {h : Heap} (hp : slices_order2CmpFunc_int.pt t0 t1 t2 t3 t4 K h) : CallH Try.prog 50 #[t0, t1, t2, t3, t4] K h :=
  fn_sound (qs := [11, 12, 25]) (fn := Try.f50) (ann := slices_order2CmpFunc_int.ann) (args := [t0, t1, t2, t3, t4]) follows_mixed Try.func50 ((Eq.to_iff (congrFun (congrFun (congrFun (congrFun (congrFun (congrFun (congrFun (slices_order2CmpFunc_int.eq) t0) t1) t2) t3) t4) K) h)).mp hp)

end Go.Proofs.Ytjedohcphkdekaa
