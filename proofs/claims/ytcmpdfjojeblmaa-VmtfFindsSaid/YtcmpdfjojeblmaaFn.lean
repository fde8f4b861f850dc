/- What each Go function asks, in the primitives of Pt; written by a program of mine (ptgen.py) out of the translation; Lean checks that it is so. -/
import Derived.Test.YtcmpdfjojeblmaaProg
import Derived.KernelRfl
import Derived.Test.YtcmpdfjojeblmaaPtO
namespace Go.Proofs.Ytcmpdfjojeblmaa
open Go.Pt
set_option linter.unusedVariables false
theorem follows_mixed : Try.prog.follows .mixedOrders = true := by kernel_rfl
/-! ### bradawl/bradawllaw17.VmtfRuns: function 6 -/
abbrev bradawllaw17_VmtfRuns.id : FuncId := 6
def bradawllaw17_VmtfRuns.ann : Ann := (.seq none .leaf (.seq none (.seq none .leaf (.cond (.seq none .leaf .leaf) .leaf)) (.seq none (.seq none .leaf (.cond (.seq none .leaf .leaf) .leaf)) (.seq none .leaf (.seq none .leaf (.seq none .leaf (.seq none .leaf (.seq none (.seq none .leaf (.block (.loop [5, 7, 8, 9, 10, 11, 40, 41, 42] (.seq none .leaf (.seq none (.cond .leaf .leaf) (.seq none (.block (.seq none .leaf (.seq none .leaf (.seq none (.seq none .leaf (.cond (.seq none .leaf .leaf) .leaf)) (.seq (some [5, 7, 8, 9, 10, 11, 40, 41, 42]) (.seq none .leaf (.cond (.seq none .leaf (.seq none .leaf .leaf)) .leaf)) (.seq none (.seq none .leaf (.cond (.seq none .leaf .leaf) .leaf)) (.seq none .leaf (.block (.loop [5, 7, 8, 9, 10, 11, 15, 40, 41, 42] (.seq none (.seq none .leaf (.cond .leaf .leaf)) (.seq none (.block (.seq none .leaf (.cond (.seq none .leaf .leaf) .leaf))) .leaf))))))))))) .leaf)))))) (.seq none .leaf (.seq (some [5, 7, 8, 9, 16, 17]) (.seq none .leaf (.block (.loop [5, 7, 8, 9, 16, 17, 87, 88, 89] (.seq none .leaf (.seq none (.cond .leaf .leaf) (.seq none (.block (.seq none .leaf (.seq none .leaf (.seq none .leaf (.cond (.seq none .leaf .leaf) .leaf))))) .leaf)))))) (.seq none .leaf (.seq none .leaf (.seq none (.seq none .leaf (.cond (.seq none .leaf .leaf) .leaf)) (.seq none .leaf .leaf))))))))))))))
set_option maxRecDepth 100000 in
def bradawllaw17_VmtfRuns.pt (t0 t1 t2 : Value) (K : Ret) (h : Heap) : Prop :=
 go (New (Value.cells t2) 38) h fun t5 h =>
 go (CallF Try.prog 8 []) h fun t24 h =>
 go (Un .not t24) h fun t25 h =>
 If t25 (
 K (.bool false) h) (
 go (Len t1) h fun t27 h =>
 go (Bin .int .gtr t27 (.int .i64 100)) h fun t28 h =>
 If t28 (
 K (.bool true) h) (
 go (Bin .int .rem t0 (.int .u8 20)) h fun t30 h =>
 go (Cvt .i64 t30) h fun t31 h =>
 go (CallF Try.prog 9 [t31]) h fun t34 h =>
 go (Ext 0 t34) h fun t35 h =>
 go (Ext 1 t34) h fun t36 h =>
 go (Bin .int .add t31 (.int .i64 2)) h fun t38 h =>
 go (MkS 3 8 1 #[(.int .i64 0)] t38 t38) h fun t39 h =>
 go (Len t1) h fun t41 h =>
 Lp 9 (fun X1 t5_1 t7 t8 t9 t10 t11 t40 t41_1 t42 h =>
 go (Bin .int .lss t42 t41_1) h fun t43 h =>
 If t43 (
 go (Idx 1 t40 t42) h fun t44 h =>
 go (Ld t44) h fun t45 h =>
 go (Bin .int .geq t45 (.int .i64 1)) h fun t47 h =>
 go (Gd t47 true (Mv t45)) h fun t49 h =>
 go (Gd t47 true (Mv t7)) h fun t50 h =>
 go (Gd t47 true (Bin .int .leq t49 t50)) h fun t51 h =>
 go (Pick t47 t51 (.bool false)) h fun t52 h =>
 go (CallF Try.prog 10 [t8, t45]) h fun t55 h =>
 go (Bin .bool .neq t55 t52) h fun t57 h =>
 If t57 (
 K (.bool false) h) (
 Join 9 (fun J2 =>
 If t52 (
 go (CallF Try.prog 13 [t9, t45]) h fun t61 h =>
 go (Bin .int .add t11 (.int .i64 1)) h fun t63 h =>
 go (Idx 1 t10 t45) h fun t67 h =>
 go (St t67 t63) h fun _ h =>
 J2 t5_1 t7 t8 t61 t10 t63 t40 t41_1 t42 h) (
 J2 t5_1 t7 t8 t9 t10 t11 t40 t41_1 t42 h)) (fun t5_2 t7_1 t8_1 t9_1 t10_1 t11_1 t40_1 t41_2 t42_1 h =>
 go (CallF Try.prog 14 [t8_1, t9_1]) h fun t70 h =>
 go (Un .not t70) h fun t71 h =>
 If t71 (
 K (.bool false) h) (
 Lp 10 (fun X3 t5_3 t7_2 t8_2 t9_2 t10_2 t11_2 t15 t40_2 t41_3 t42_2 h =>
 go (Bin .int .add t7_2 (.int .i64 1)) h fun t74 h =>
 go (Bin .int .leq t15 t74) h fun t75 h =>
 If t75 (
 go (QCall Try.prog 12 [t8_2, t15]) h fun t80 h =>
 go (Idx 1 t10_2 t15) h fun t83 h =>
 go (Ld t83) h fun t84 h =>
 go (Bin .int .neq t80 t84) h fun t85 h =>
 If t85 (
 K (.bool false) h) (
 go (Bin .int .add t15 (.int .i64 1)) h fun t77 h =>
 X3 t5_3 t7_2 t8_2 t9_2 t10_2 t11_2 t77 t40_2 t41_3 t42_2 h)) (
 go (Bin .int .add t42_2 (.int .i64 1)) h fun t86 h =>
 X1 t5_3 t7_2 t8_2 t9_2 t10_2 t11_2 t40_2 t41_3 t86 h)) [t5_2, t7_1, t8_1, t9_1, t10_1, t11_1, (.int .i64 0), t40_1, t41_2, t42_1] h)))) (
 go (New #[(.int .i64 0)] 3) h fun t17 h =>
 go (St t17 (.int .i64 0)) h fun _ h =>
 Join 6 (fun J4 =>
 go (Len t9) h fun t88 h =>
 Lp 9 (fun X5 t5_4 t7_3 t8_3 t9_3 t16 t17_1 t87 t88_1 t89 h =>
 go (Bin .int .lss t89 t88_1) h fun t90 h =>
 If t90 (
 go (Idx 1 t87 t89) h fun t91 h =>
 go (Ld t91) h fun t92 h =>
 go (Ld t17_1) h fun t93 h =>
 go (Bin .int .add t93 (.int .i64 1)) h fun t94 h =>
 go (St t17_1 t94) h fun _ h =>
 go (Ld t5_4) h fun t95 h =>
 go (Bin .int .shr t95 t92) h fun t97 h =>
 go (Bin .int .and t97 (.int .u32 1)) h fun t98 h =>
 go (Bin .int .eql t98 (.int .u32 0)) h fun t99 h =>
 If t99 (
 J4 t5_4 t7_3 t8_3 t9_3 t92 t17_1 h) (
 go (Bin .int .add t89 (.int .i64 1)) h fun t101 h =>
 X5 t5_4 t7_3 t8_3 t9_3 t16 t17_1 t87 t88_1 t101 h)) (
 J4 t5_4 t7_3 t8_3 t9_3 t16 t17_1 h)) [t5_1, t7, t8, t9, (.int .i64 0), t17, t9, t88, (.int .i64 0)] h) (fun t5_5 t7_4 t8_4 t9_4 t16_1 t17_2 h =>
 go (CallF Try.prog 15 [t8_4, (.func (.func 16) #[] #[t17_2, t5_5])]) h fun t105 h =>
 go (Ext 0 t105) h fun t106 h =>
 go (Ext 1 t105) h fun t107 h =>
 go (CallF Try.prog 17 [t8_4]) h fun t110 h =>
 go (Ext 0 t110) h fun t111 h =>
 go (Ext 1 t110) h fun t112 h =>
 go (Bin .int .gtr t7_4 (.int .i64 0)) h fun t115 h =>
 go (Bin .bool .neq t112 t115) h fun t116 h =>
 go (Gd t116 false (Mv t112)) h fun t118 h =>
 go (Gd t116 false (Mv t118)) h fun t119 h =>
 go (Gd t119 true (Mv t111)) h fun t120 h =>
 go (Gd t119 true (Mv t9_4)) h fun t121 h =>
 go (Gd t119 true (Idx 1 t121 (.int .i64 0))) h fun t122 h =>
 go (Gd t119 true (Ld t122)) h fun t123 h =>
 go (Gd t119 true (Bin .int .neq t120 t123)) h fun t124 h =>
 go (Gd t116 false (Pick t119 t124 (.bool false))) h fun t125 h =>
 go (Pick t116 (.bool true) t125) h fun t126 h =>
 go (Gd t126 false (Mv t112)) h fun t128 h =>
 go (Gd t126 false (Un .not t128)) h fun t129 h =>
 go (Gd t126 false (Mv t129)) h fun t130 h =>
 go (Gd t130 true (Mv t111)) h fun t131 h =>
 go (Gd t130 true (Bin .int .neq t131 (.int .i64 0))) h fun t132 h =>
 go (Gd t126 false (Pick t130 t132 (.bool false))) h fun t133 h =>
 go (Pick t126 (.bool true) t133) h fun t134 h =>
 If t134 (
 K (.bool false) h) (
 go (Bin .int .eql t106 t16_1) h fun t137 h =>
 go (Gd t137 true (Mv t107)) h fun t139 h =>
 go (Gd t137 true (Mv t16_1)) h fun t140 h =>
 go (Gd t137 true (Bin .int .gtr t140 (.int .i64 0))) h fun t141 h =>
 go (Gd t137 true (Bin .bool .eql t139 t141)) h fun t142 h =>
 go (Pick t137 t142 (.bool false)) h fun t143 h =>
 go (Gd t143 true (Ld t17_2)) h fun t145 h =>
 go (Gd t143 true (Bin .int .eql t145 (.int .i64 0))) h fun t146 h =>
 go (Pick t143 t146 (.bool false)) h fun t147 h =>
 K t147 h)))) [t5, t31, t35, t36, t39, (.int .i64 0), t1, t41, (.int .i64 0)] h))
set_option maxRecDepth 100000 in
theorem bradawllaw17_VmtfRuns.eq : (fun t0 t1 t2 K h => bradawllaw17_VmtfRuns.pt t0 t1 t2 K h : Value → Value → Value → Ret → Heap → Prop) = (fun t0 t1 t2 K h => fnPt Try.prog [12] Try.f6 bradawllaw17_VmtfRuns.ann [t0, t1, t2] K h) := by kernel_rfl
theorem bradawllaw17_VmtfRuns.ok {t0 t1 t2 : Value} {K : Ret} {h : Heap} (hp : bradawllaw17_VmtfRuns.pt t0 t1 t2 K h) : CallH Try.prog 6 #[t0, t1, t2] K h :=
  fn_sound (qs := [12]) (fn := Try.f6) (ann := bradawllaw17_VmtfRuns.ann) (args := [t0, t1, t2]) follows_mixed Try.func6 ((Eq.to_iff (congrFun (congrFun (congrFun (congrFun (congrFun (bradawllaw17_VmtfRuns.eq) t0) t1) t2) K) h)).mp hp)

/-! ### bradawl/bradawllaw17.VmtfFinds: function 7 -/
abbrev bradawllaw17_VmtfFinds.id : FuncId := 7
def bradawllaw17_VmtfFinds.ann : Ann := (.seq none .leaf (.seq none (.seq none .leaf (.cond (.seq none .leaf .leaf) .leaf)) (.seq none (.seq none .leaf (.cond (.seq none .leaf .leaf) .leaf)) (.seq none .leaf (.seq none .leaf (.seq none (.seq none .leaf (.block (.loop [5, 6, 7, 8, 33, 34, 35] (.seq none .leaf (.seq none (.cond .leaf .leaf) (.seq none (.block (.seq none .leaf .leaf)) .leaf)))))) (.seq none .leaf (.seq none .leaf (.seq (some [6, 7, 8, 12, 13, 14]) (.seq none .leaf (.block (.range .leaf (.block (.seq none (.seq none .leaf (.cond .leaf .leaf)) (.seq none .leaf (.cond (.seq none .leaf .leaf) .leaf))))))) (.seq none (.seq none .leaf (.cond (.seq none .leaf .leaf) .leaf)) (.seq none (.seq none .leaf (.block (.loop [6, 7, 8, 12, 16] (.seq none (.seq none .leaf (.cond .leaf .leaf)) (.seq (some [6, 7, 8, 12, 16]) (.block (.seq none (.seq none .leaf (.cond .leaf .leaf)) (.seq none .leaf (.seq none .leaf (.seq none .leaf (.cond (.seq none .leaf .leaf) .leaf)))))) .leaf))))) (.seq none .leaf .leaf))))))))))))
set_option maxRecDepth 100000 in
def bradawllaw17_VmtfFinds.pt (t0 t1 t2 : Value) (K : Ret) (h0 : Heap) : Prop :=
 ent h0 fun h =>
 go (New (Value.cells t2) 38) h fun t5 h =>
 go (New #[(.bool false)] 4) h fun t6 h =>
 go (CallF Try.prog 8 []) h fun t19 h =>
 go (Un .not t19) h fun t20 h =>
 If t20 (
 go (St t6 (.bool false)) h fun _ h =>
 Lv h0.size (fun h =>
 go (Ld t6) h fun r0 h =>
 K r0 h) h) (
 go (Len t1) h fun t22 h =>
 go (Bin .int .gtr t22 (.int .i64 100)) h fun t23 h =>
 If t23 (
 go (St t6 (.bool true)) h fun _ h =>
 Lv h0.size (fun h =>
 go (Ld t6) h fun r0 h =>
 K r0 h) h) (
 go (Bin .int .rem t0 (.int .u8 20)) h fun t25 h =>
 go (Cvt .i64 t25) h fun t26 h =>
 go (Bin .int .add (.int .i64 1) t26) h fun t27 h =>
 go (CallF Try.prog 9 [t27]) h fun t30 h =>
 go (Ext 0 t30) h fun t31 h =>
 go (Ext 1 t30) h fun t32 h =>
 go (Len t1) h fun t34 h =>
 Lp 7 (fun X1 t5_1 t6_1 t7 t8 t33 t34_1 t35 h =>
 go (Bin .int .lss t35 t34_1) h fun t36 h =>
 If t36 (
 go (Idx 1 t33 t35) h fun t37 h =>
 go (Ld t37) h fun t38 h =>
 go (Cvt .i64 t38) h fun t41 h =>
 go (CallF Try.prog 10 [t8, t41]) h fun t42 h =>
 go (Bin .int .add t35 (.int .i64 1)) h fun t43 h =>
 X1 t5_1 t6_1 t7 t8 t33 t34_1 t43 h) (
 go (New #[(.nilFunc)] 28) h fun t12 h =>
 go (St t12 (.func (.func 18) #[] #[t5_1])) h fun _ h =>
 go (Ld t12) h fun t47 h =>
 go (CallF Try.prog 15 [t8, t47]) h fun t48 h =>
 go (Ext 0 t48) h fun t49 h =>
 go (Ext 1 t48) h fun t50 h =>
 go (New #[(.int .i64 0)] 3) h fun t13 h =>
 go (St t13 t49) h fun _ h =>
 Join 6 (fun J2 =>
 go (CallF Try.prog 11 [t8]) h fun t52 h =>
 RngF Try.prog t52 1 (fun B3 N3 L3 => fun t53 h =>
 B3 (fun h =>
 go (Ld t13) h fun t55 h =>
 go (Bin .int .eql t53 t55) h fun t56 h =>
 If t56 (
 L3 (.exit 2) h) (
 go (Ld t12) h fun t57 h =>
 go (CallV Try.prog t57 [t53]) h fun t59 h =>
 go (Un .not t59) h fun t60 h =>
 If t60 (
 go (St t6_1 (.bool false)) h fun _ h =>
 L3 .ret h) (
 N3 h))) h) (fun h =>
 J2 t6_1 t7 t8 t12 t13 t50 h) (fun ex h => Ex.casesOn (motive := fun _ => Prop) ex False (fun id =>
 bif Nat.beq id 2 then (
 J2 t6_1 t7 t8 t12 t13 t50 h) else (
 False)) (
 Lv h0.size (fun h =>
 go (Ld t6_1) h fun r0 h =>
 K r0 h) h)) h) (fun t6_2 t7_1 t8_1 t12_1 t13_1 t14 h =>
 go (Ld t12_1) h fun t62 h =>
 go (Ld t13_1) h fun t63 h =>
 go (CallV Try.prog t62 [t63]) h fun t64 h =>
 go (Bin .bool .eql t14 t64) h fun t65 h =>
 go (Gd t65 true (Mv t14)) h fun t67 h =>
 go (Pick t65 t67 (.bool false)) h fun t68 h =>
 go (Gd t68 false (Mv t14)) h fun t70 h =>
 go (Gd t68 false (Un .not t70)) h fun t71 h =>
 go (Gd t68 false (Mv t71)) h fun t72 h =>
 go (Gd t72 true (Ld t13_1)) h fun t73 h =>
 go (Gd t72 true (Bin .int .neq t73 (.int .i64 0))) h fun t74 h =>
 go (Gd t68 false (Pick t72 t74 (.bool false))) h fun t75 h =>
 go (Pick t68 (.bool true) t75) h fun t76 h =>
 If t76 (
 go (St t6_2 (.bool false)) h fun _ h =>
 Lv h0.size (fun h =>
 go (Ld t6_2) h fun r0 h =>
 K r0 h) h) (
 Lp 5 (fun X4 t6_3 t7_2 t8_2 t12_2 t16 h =>
 go (Bin .int .leq t16 t7_2) h fun t79 h =>
 If t79 (
 Join 5 (fun J5 =>
 go (Ld t12_2) h fun t82 h =>
 go (CallV Try.prog t82 [t16]) h fun t84 h =>
 If t84 (
 J5 t6_3 t7_2 t8_2 t12_2 t16 h) (
 go (CallF Try.prog 10 [t8_2, t16]) h fun t87 h =>
 go (Ld t12_2) h fun t90 h =>
 go (CallF Try.prog 15 [t8_2, t90]) h fun t91 h =>
 go (Ext 0 t91) h fun t92 h =>
 go (Ext 1 t91) h fun t93 h =>
 go (Un .not t93) h fun t95 h =>
 go (Gd t95 false (Mv t92)) h fun t97 h =>
 go (Gd t95 false (Mv t16)) h fun t98 h =>
 go (Gd t95 false (Bin .int .neq t97 t98)) h fun t99 h =>
 go (Pick t95 (.bool true) t99) h fun t100 h =>
 If t100 (
 go (St t6_3 (.bool false)) h fun _ h =>
 Lv h0.size (fun h =>
 go (Ld t6_3) h fun r0 h =>
 K r0 h) h) (
 J5 t6_3 t7_2 t8_2 t12_2 t16 h))) (fun t6_4 t7_3 t8_3 t12_3 t16_1 h =>
 go (Bin .int .add t16_1 (.int .i64 1)) h fun t81 h =>
 X4 t6_4 t7_3 t8_3 t12_3 t81 h)) (
 go (St t6_3 (.bool true)) h fun _ h =>
 Lv h0.size (fun h =>
 go (Ld t6_3) h fun r0 h =>
 K r0 h) h)) [t6_2, t7_1, t8_1, t12_1, (.int .i64 1)] h)))) [t5, t6, t27, t31, t1, t34, (.int .i64 0)] h))
set_option maxRecDepth 100000 in
theorem bradawllaw17_VmtfFinds.eq : (fun t0 t1 t2 K h => bradawllaw17_VmtfFinds.pt t0 t1 t2 K h : Value → Value → Value → Ret → Heap → Prop) = (fun t0 t1 t2 K h => fnPt Try.prog [12] Try.f7 bradawllaw17_VmtfFinds.ann [t0, t1, t2] K h) := by kernel_rfl
theorem bradawllaw17_VmtfFinds.ok {t0 t1 t2 : Value} {K : Ret} {h : Heap} (hp : bradawllaw17_VmtfFinds.pt t0 t1 t2 K h) : CallH Try.prog 7 #[t0, t1, t2] K h :=
  fn_sound (qs := [12]) (fn := Try.f7) (ann := bradawllaw17_VmtfFinds.ann) (args := [t0, t1, t2]) follows_mixed Try.func7 ((Eq.to_iff (congrFun (congrFun (congrFun (congrFun (congrFun (bradawllaw17_VmtfFinds.eq) t0) t1) t2) K) h)).mp hp)

/-! ### bradawl/bradawllaw17.fit: function 8 -/
abbrev bradawllaw17_fit.id : FuncId := 8
def bradawllaw17_fit.ann : Ann := (.seq none .leaf (.seq none .leaf (.seq none (.seq none .leaf (.cond (.seq none .leaf .leaf) .leaf)) (.seq none .leaf (.seq (some [1, 2]) (.seq none .leaf (.block (.range .leaf (.block .leaf)))) (.seq none .leaf (.seq none .leaf .leaf)))))))
set_option maxRecDepth 100000 in
def bradawllaw17_fit.pt (K : Ret) (h0 : Heap) : Prop :=
 ent h0 fun h =>
 go (CallF Try.prog 19 [(.int .i64 3)]) h fun t6 h =>
 go (Bin .pointer .eql t6 (.pointer none)) h fun t8 h =>
 go (Gd t8 false (Mv t6)) h fun t10 h =>
 go (Gd t8 false (CallF Try.prog 10 [t10, (.int .i64 2)])) h fun t11 h =>
 go (Gd t8 false (Un .not t11)) h fun t12 h =>
 go (Pick t8 (.bool true) t12) h fun t13 h =>
 go (Gd t13 false (Mv t6)) h fun t15 h =>
 go (Gd t13 false (CallF Try.prog 10 [t15, (.int .i64 4)])) h fun t16 h =>
 go (Pick t13 (.bool true) t16) h fun t17 h =>
 go (Gd t17 false (Mv t6)) h fun t19 h =>
 go (Gd t17 false (QCall Try.prog 12 [t19, (.int .i64 2)])) h fun t20 h =>
 go (Gd t17 false (Bin .int .neq t20 (.int .i64 1))) h fun t21 h =>
 go (Pick t17 (.bool true) t21) h fun t22 h =>
 go (Gd t22 false (Mv t6)) h fun t24 h =>
 go (Gd t22 false (QCall Try.prog 12 [t24, (.int .i64 1)])) h fun t25 h =>
 go (Gd t22 false (Bin .int .neq t25 (.int .i64 0))) h fun t26 h =>
 go (Pick t22 (.bool true) t26) h fun t27 h =>
 If t27 (
 Lv h0.size (fun h =>
 K (.bool false) h) h) (
 go (New #[(.int .i64 0)] 3) h fun t2 h =>
 go (St t2 (.int .i64 0)) h fun _ h =>
 Join 2 (fun J1 =>
 go (CallF Try.prog 11 [t6]) h fun t29 h =>
 RngF Try.prog t29 1 (fun B2 N2 L2 => fun t30 h =>
 B2 (fun h =>
 go (Ld t2) h fun t31 h =>
 go (Bin .int .mul (.int .i64 10) t31) h fun t32 h =>
 go (Bin .int .add t32 t30) h fun t34 h =>
 go (St t2 t34) h fun _ h =>
 N2 h) h) (fun h =>
 J1 t6 t2 h) (fun ex h => Ex.casesOn (motive := fun _ => Prop) ex False (fun id =>
 bif Nat.beq id 0 then (
 J1 t6 t2 h) else (
 False)) (
 Lv h0.size (fun h =>
 K (.bool false) h) h)) h) (fun t1 t2_1 h =>
 go (CallF Try.prog 17 [t1]) h fun t37 h =>
 go (Ext 0 t37) h fun t38 h =>
 go (Ext 1 t37) h fun t39 h =>
 go (Ld t2_1) h fun t40 h =>
 go (Bin .int .eql t40 (.int .i64 213)) h fun t41 h =>
 go (Gd t41 true (Mv t39)) h fun t43 h =>
 go (Pick t41 t43 (.bool false)) h fun t44 h =>
 go (Gd t44 true (Mv t38)) h fun t46 h =>
 go (Gd t44 true (Bin .int .eql t46 (.int .i64 2))) h fun t47 h =>
 go (Pick t44 t47 (.bool false)) h fun t48 h =>
 Lv h0.size (fun h =>
 K t48 h) h))
set_option maxRecDepth 100000 in
theorem bradawllaw17_fit.eq : (fun K h => bradawllaw17_fit.pt K h : Ret → Heap → Prop) = (fun K h => fnPt Try.prog [12] Try.f8 bradawllaw17_fit.ann [] K h) := by kernel_rfl
theorem bradawllaw17_fit.ok {K : Ret} {h : Heap} (hp : bradawllaw17_fit.pt K h) : CallH Try.prog 8 #[] K h :=
  fn_sound (qs := [12]) (fn := Try.f8) (ann := bradawllaw17_fit.ann) (args := []) follows_mixed Try.func8 ((Eq.to_iff (congrFun (congrFun (bradawllaw17_fit.eq) K) h)).mp hp)

/-! ### bradawl/bradawllaw17.begin: function 9 -/
abbrev bradawllaw17_begin.id : FuncId := 9
def bradawllaw17_begin.ann : Ann := (.seq none .leaf (.seq none .leaf (.seq none (.seq none .leaf (.block (.loop [0, 4, 5] (.seq none (.seq none .leaf (.cond .leaf .leaf)) (.seq none (.block .leaf) .leaf))))) (.seq none .leaf .leaf))))
set_option maxRecDepth 100000 in
def bradawllaw17_begin.pt (t0 : Value) (K : Ret) (h : Heap) : Prop :=
 Lp 3 (fun X1 t0_1 t4 t5 h =>
 go (Bin .int .leq t5 t0_1) h fun t8 h =>
 If t8 (
 go (BldS 3 1 1 #[(.int .i64 0)] [(0, t5)]) h fun t13 h =>
 go (App 3 1 8 #[(.int .i64 0)] t4 t13) h fun t14 h =>
 go (Bin .int .add t5 (.int .i64 1)) h fun t10 h =>
 X1 t0_1 t14 t10 h) (
 go (CallF Try.prog 19 [t0_1]) h fun t16 h =>
 K (.tuple #[t16, t4]) h)) [t0, (.slice none 0 0), (.int .i64 1)] h
set_option maxRecDepth 100000 in
theorem bradawllaw17_begin.eq : (fun t0 K h => bradawllaw17_begin.pt t0 K h : Value → Ret → Heap → Prop) = (fun t0 K h => fnPt Try.prog [12] Try.f9 bradawllaw17_begin.ann [t0] K h) := by kernel_rfl
theorem bradawllaw17_begin.ok {t0 : Value} {K : Ret} {h : Heap} (hp : bradawllaw17_begin.pt t0 K h) : CallH Try.prog 9 #[t0] K h :=
  fn_sound (qs := [12]) (fn := Try.f9) (ann := bradawllaw17_begin.ann) (args := [t0]) follows_mixed Try.func9 ((Eq.to_iff (congrFun (congrFun (congrFun (bradawllaw17_begin.eq) t0) K) h)).mp hp)

/-! ### (*bradawl/vmtf.Queue).Bump: function 10 -/
abbrev vmtf_Queue_Bump.id : FuncId := 10
def vmtf_Queue_Bump.ann : Ann := (.seq none .leaf (.seq none (.seq none .leaf (.cond (.seq none .leaf .leaf) .leaf)) (.seq none .leaf (.seq none .leaf (.seq none .leaf (.seq none .leaf (.seq none .leaf (.seq none .leaf .leaf))))))))
set_option maxRecDepth 100000 in
def vmtf_Queue_Bump.pt (t0 t1 : Value) (K : Ret) (h : Heap) : Prop :=
 go (CallF Try.prog 20 [t0, t1]) h fun t7 h =>
 go (Un .not t7) h fun t8 h =>
 If t8 (
 K (.bool false) h) (
 go (NilC t0) h fun t10 h =>
 go (Fld 1 t10) h fun t11 h =>
 go (Ld t11) h fun t12 h =>
 go (Bin .int .add t12 (.int .i64 1)) h fun t13 h =>
 go (NilC t0) h fun t14 h =>
 go (Fld 1 t14) h fun t15 h =>
 go (St t15 t13) h fun _ h =>
 go (NilC t0) h fun t17 h =>
 go (Fld 0 t17) h fun t18 h =>
 go (Ld t18) h fun t19 h =>
 go (NilC t0) h fun t22 h =>
 go (Fld 1 t22) h fun t23 h =>
 go (Ld t23) h fun t24 h =>
 go (Idx 3 t19 t1) h fun t25 h =>
 go (Fld 2 t25) h fun t26 h =>
 go (St t26 t24) h fun _ h =>
 go (NilC t0) h fun t29 h =>
 go (Fld 0 t29) h fun t30 h =>
 go (Ld t30) h fun t31 h =>
 go (Idx 3 t31 t1) h fun t33 h =>
 go (Fld 0 t33) h fun t34 h =>
 go (Ld t34) h fun t35 h =>
 go (NilC t0) h fun t37 h =>
 go (Fld 0 t37) h fun t38 h =>
 go (Ld t38) h fun t39 h =>
 go (Idx 3 t39 t1) h fun t41 h =>
 go (Fld 1 t41) h fun t42 h =>
 go (Ld t42) h fun t43 h =>
 go (CallF Try.prog 21 [t0, t35, t43]) h fun t44 h =>
 go (NilC t0) h fun t48 h =>
 go (Fld 0 t48) h fun t49 h =>
 go (Ld t49) h fun t50 h =>
 go (Idx 3 t50 (.int .i64 0)) h fun t51 h =>
 go (Fld 1 t51) h fun t52 h =>
 go (Ld t52) h fun t53 h =>
 go (CallF Try.prog 21 [t0, t1, t53]) h fun t54 h =>
 go (CallF Try.prog 21 [t0, (.int .i64 0), t1]) h fun t57 h =>
 K (.bool true) h)
set_option maxRecDepth 100000 in
theorem vmtf_Queue_Bump.eq : (fun t0 t1 K h => vmtf_Queue_Bump.pt t0 t1 K h : Value → Value → Ret → Heap → Prop) = (fun t0 t1 K h => fnPt Try.prog [12] Try.f10 vmtf_Queue_Bump.ann [t0, t1] K h) := by kernel_rfl
theorem vmtf_Queue_Bump.ok {t0 t1 : Value} {K : Ret} {h : Heap} (hp : vmtf_Queue_Bump.pt t0 t1 K h) : CallH Try.prog 10 #[t0, t1] K h :=
  fn_sound (qs := [12]) (fn := Try.f10) (ann := vmtf_Queue_Bump.ann) (args := [t0, t1]) follows_mixed Try.func10 ((Eq.to_iff (congrFun (congrFun (congrFun (congrFun (vmtf_Queue_Bump.eq) t0) t1) K) h)).mp hp)

/-! ### (*bradawl/vmtf.Queue).All: function 11 -/
abbrev vmtf_Queue_All.id : FuncId := 11
def vmtf_Queue_All.ann : Ann := (.seq none .leaf (.seq none .leaf .leaf))
set_option maxRecDepth 100000 in
def vmtf_Queue_All.pt (t0 : Value) (K : Ret) (h : Heap) : Prop :=
 go (New (Value.cells t0) 24) h fun t1 h =>
 K (.func (.func 22) #[] #[t1]) h
set_option maxRecDepth 100000 in
theorem vmtf_Queue_All.eq : (fun t0 K h => vmtf_Queue_All.pt t0 K h : Value → Ret → Heap → Prop) = (fun t0 K h => fnPt Try.prog [12] Try.f11 vmtf_Queue_All.ann [t0] K h) := by kernel_rfl
theorem vmtf_Queue_All.ok {t0 : Value} {K : Ret} {h : Heap} (hp : vmtf_Queue_All.pt t0 K h) : CallH Try.prog 11 #[t0] K h :=
  fn_sound (qs := [12]) (fn := Try.f11) (ann := vmtf_Queue_All.ann) (args := [t0]) follows_mixed Try.func11 ((Eq.to_iff (congrFun (congrFun (congrFun (vmtf_Queue_All.eq) t0) K) h)).mp hp)

/-! ### (*bradawl/vmtf.Queue).Stamp: function 12 -/
abbrev vmtf_Queue_Stamp.id : FuncId := 12
def vmtf_Queue_Stamp.ann : Ann := (.seq none .leaf (.seq none (.seq none .leaf (.cond (.seq none .leaf .leaf) .leaf)) (.seq none .leaf .leaf)))
set_option maxRecDepth 100000 in
def vmtf_Queue_Stamp.pt (t0 t1 : Value) (K : Ret) (h : Heap) : Prop :=
 go (CallF Try.prog 20 [t0, t1]) h fun t7 h =>
 go (Un .not t7) h fun t8 h =>
 If t8 (
 K (.int .i64 0) h) (
 go (NilC t0) h fun t10 h =>
 go (Fld 0 t10) h fun t11 h =>
 go (Ld t11) h fun t12 h =>
 go (Idx 3 t12 t1) h fun t14 h =>
 go (Fld 2 t14) h fun t15 h =>
 go (Ld t15) h fun t16 h =>
 K t16 h)
set_option maxRecDepth 100000 in
theorem vmtf_Queue_Stamp.eq : (fun t0 t1 K h => vmtf_Queue_Stamp.pt t0 t1 K h : Value → Value → Ret → Heap → Prop) = (fun t0 t1 K h => fnPt Try.prog [12] Try.f12 vmtf_Queue_Stamp.ann [t0, t1] K h) := by kernel_rfl
theorem vmtf_Queue_Stamp.ok {t0 t1 : Value} {K : Ret} {h : Heap} (hp : vmtf_Queue_Stamp.pt t0 t1 K h) : CallH Try.prog 12 #[t0, t1] K h :=
  fn_sound (qs := [12]) (fn := Try.f12) (ann := vmtf_Queue_Stamp.ann) (args := [t0, t1]) follows_mixed Try.func12 ((Eq.to_iff (congrFun (congrFun (congrFun (congrFun (vmtf_Queue_Stamp.eq) t0) t1) K) h)).mp hp)

/-! ### bradawl/bradawllaw17.bumped: function 13 -/
abbrev bradawllaw17_bumped.id : FuncId := 13
def bradawllaw17_bumped.ann : Ann := (.seq none .leaf (.seq none .leaf (.seq none (.seq none .leaf (.block (.loop [1, 5, 10, 11, 12] (.seq none .leaf (.seq none (.cond .leaf .leaf) (.seq (some [1, 5, 10, 11, 12]) (.block (.seq none .leaf (.seq none .leaf (.cond .leaf .leaf)))) .leaf)))))) (.seq none .leaf .leaf))))
set_option maxRecDepth 100000 in
def bradawllaw17_bumped.pt (t0 t1 : Value) (K : Ret) (h : Heap) : Prop :=
 go (BldS 3 1 1 #[(.int .i64 0)] [(0, t1)]) h fun t9 h =>
 go (Len t0) h fun t11 h =>
 Lp 5 (fun X1 t1_1 t5 t10 t11_1 t12 h =>
 go (Bin .int .lss t12 t11_1) h fun t13 h =>
 If t13 (
 Join 5 (fun J2 =>
 go (Idx 1 t10 t12) h fun t14 h =>
 go (Ld t14) h fun t15 h =>
 go (Bin .int .neq t15 t1_1) h fun t18 h =>
 If t18 (
 go (BldS 3 1 1 #[(.int .i64 0)] [(0, t15)]) h fun t21 h =>
 go (App 3 1 8 #[(.int .i64 0)] t5 t21) h fun t22 h =>
 J2 t1_1 t22 t10 t11_1 t12 h) (
 J2 t1_1 t5 t10 t11_1 t12 h)) (fun t1_2 t5_1 t10_1 t11_2 t12_1 h =>
 go (Bin .int .add t12_1 (.int .i64 1)) h fun t23 h =>
 X1 t1_2 t5_1 t10_1 t11_2 t23 h)) (
 K t5 h)) [t1, t9, t0, t11, (.int .i64 0)] h
set_option maxRecDepth 100000 in
theorem bradawllaw17_bumped.eq : (fun t0 t1 K h => bradawllaw17_bumped.pt t0 t1 K h : Value → Value → Ret → Heap → Prop) = (fun t0 t1 K h => fnPt Try.prog [12] Try.f13 bradawllaw17_bumped.ann [t0, t1] K h) := by kernel_rfl
theorem bradawllaw17_bumped.ok {t0 t1 : Value} {K : Ret} {h : Heap} (hp : bradawllaw17_bumped.pt t0 t1 K h) : CallH Try.prog 13 #[t0, t1] K h :=
  fn_sound (qs := [12]) (fn := Try.f13) (ann := bradawllaw17_bumped.ann) (args := [t0, t1]) follows_mixed Try.func13 ((Eq.to_iff (congrFun (congrFun (congrFun (congrFun (bradawllaw17_bumped.eq) t0) t1) K) h)).mp hp)

/-! ### bradawl/bradawllaw17.same: function 14 -/
abbrev bradawllaw17_same.id : FuncId := 14
def bradawllaw17_same.ann : Ann := (.seq none .leaf (.seq none .leaf (.seq (some [3, 4, 5]) (.seq none .leaf (.block (.range .leaf (.block (.seq none (.seq none .leaf (.cond (.seq none .leaf .leaf) .leaf)) .leaf))))) (.seq none .leaf .leaf))))
set_option maxRecDepth 100000 in
def bradawllaw17_same.pt (t0 t1 : Value) (K : Ret) (h0 : Heap) : Prop :=
 ent h0 fun h =>
 go (New (Value.cells t1) 25) h fun t3 h =>
 go (New #[(.bool false)] 4) h fun t4 h =>
 go (New #[(.int .i64 0)] 3) h fun t5 h =>
 go (St t5 (.int .i64 0)) h fun _ h =>
 Join 3 (fun J1 =>
 go (CallF Try.prog 11 [t0]) h fun t8 h =>
 RngF Try.prog t8 1 (fun B2 N2 L2 => fun t9 h =>
 B2 (fun h =>
 go (Ld t5) h fun t10 h =>
 go (Ld t3) h fun t11 h =>
 go (Len t11) h fun t12 h =>
 go (Bin .int .geq t10 t12) h fun t13 h =>
 go (Gd t13 false (Ld t3)) h fun t15 h =>
 go (Gd t13 false (Ld t5)) h fun t16 h =>
 go (Gd t13 false (Idx 1 t15 t16)) h fun t17 h =>
 go (Gd t13 false (Ld t17)) h fun t18 h =>
 go (Gd t13 false (Mv t9)) h fun t19 h =>
 go (Gd t13 false (Bin .int .neq t18 t19)) h fun t20 h =>
 go (Pick t13 (.bool true) t20) h fun t21 h =>
 If t21 (
 go (St t4 (.bool false)) h fun _ h =>
 L2 .ret h) (
 go (Ld t5) h fun t22 h =>
 go (Bin .int .add t22 (.int .i64 1)) h fun t23 h =>
 go (St t5 t23) h fun _ h =>
 N2 h)) h) (fun h =>
 J1 t3 t4 t5 h) (fun ex h => Ex.casesOn (motive := fun _ => Prop) ex False (fun id =>
 bif Nat.beq id 0 then (
 J1 t3 t4 t5 h) else (
 False)) (
 Lv h0.size (fun h =>
 go (Ld t4) h fun r0 h =>
 K r0 h) h)) h) (fun t3_1 t4_1 t5_1 h =>
 go (Ld t5_1) h fun t24 h =>
 go (Ld t3_1) h fun t25 h =>
 go (Len t25) h fun t26 h =>
 go (Bin .int .eql t24 t26) h fun t27 h =>
 go (St t4_1 t27) h fun _ h =>
 Lv h0.size (fun h =>
 go (Ld t4_1) h fun r0 h =>
 K r0 h) h)
set_option maxRecDepth 100000 in
theorem bradawllaw17_same.eq : (fun t0 t1 K h => bradawllaw17_same.pt t0 t1 K h : Value → Value → Ret → Heap → Prop) = (fun t0 t1 K h => fnPt Try.prog [12] Try.f14 bradawllaw17_same.ann [t0, t1] K h) := by kernel_rfl
theorem bradawllaw17_same.ok {t0 t1 : Value} {K : Ret} {h : Heap} (hp : bradawllaw17_same.pt t0 t1 K h) : CallH Try.prog 14 #[t0, t1] K h :=
  fn_sound (qs := [12]) (fn := Try.f14) (ann := bradawllaw17_same.ann) (args := [t0, t1]) follows_mixed Try.func14 ((Eq.to_iff (congrFun (congrFun (congrFun (congrFun (bradawllaw17_same.eq) t0) t1) K) h)).mp hp)

/-! ### (*bradawl/vmtf.Queue).Find: function 15 -/
abbrev vmtf_Queue_Find.id : FuncId := 15
def vmtf_Queue_Find.ann : Ann := (.seq none .leaf (.seq (some [4, 5]) (.seq none .leaf (.block (.range .leaf (.block (.seq none .leaf (.cond (.seq none .leaf .leaf) .leaf)))))) (.seq none .leaf .leaf)))
set_option maxRecDepth 100000 in
def vmtf_Queue_Find.pt (t0 t1 : Value) (K : Ret) (h0 : Heap) : Prop :=
 ent h0 fun h =>
 go (New (Value.cells t1) 28) h fun t3 h =>
 go (New #[(.int .i64 0)] 3) h fun t4 h =>
 go (New #[(.bool false)] 4) h fun t5 h =>
 Join 2 (fun J1 =>
 go (CallF Try.prog 11 [t0]) h fun t8 h =>
 RngF Try.prog t8 1 (fun B2 N2 L2 => fun t9 h =>
 B2 (fun h =>
 go (Ld t3) h fun t10 h =>
 go (CallV Try.prog t10 [t9]) h fun t12 h =>
 go (Un .not t12) h fun t13 h =>
 If t13 (
 go (St t4 t9) h fun _ h =>
 go (St t5 (.bool true)) h fun _ h =>
 L2 .ret h) (
 N2 h)) h) (fun h =>
 J1 t4 t5 h) (fun ex h => Ex.casesOn (motive := fun _ => Prop) ex False (fun id =>
 bif Nat.beq id 0 then (
 J1 t4 t5 h) else (
 False)) (
 Lv h0.size (fun h =>
 go (Ld t4) h fun r0 h =>
 go (Ld t5) h fun r1 h =>
 K (.tuple #[r0, r1]) h) h)) h) (fun t4_1 t5_1 h =>
 go (St t4_1 (.int .i64 0)) h fun _ h =>
 go (St t5_1 (.bool false)) h fun _ h =>
 Lv h0.size (fun h =>
 go (Ld t4_1) h fun r0 h =>
 go (Ld t5_1) h fun r1 h =>
 K (.tuple #[r0, r1]) h) h)
set_option maxRecDepth 100000 in
theorem vmtf_Queue_Find.eq : (fun t0 t1 K h => vmtf_Queue_Find.pt t0 t1 K h : Value → Value → Ret → Heap → Prop) = (fun t0 t1 K h => fnPt Try.prog [12] Try.f15 vmtf_Queue_Find.ann [t0, t1] K h) := by kernel_rfl
theorem vmtf_Queue_Find.ok {t0 t1 : Value} {K : Ret} {h : Heap} (hp : vmtf_Queue_Find.pt t0 t1 K h) : CallH Try.prog 15 #[t0, t1] K h :=
  fn_sound (qs := [12]) (fn := Try.f15) (ann := vmtf_Queue_Find.ann) (args := [t0, t1]) follows_mixed Try.func15 ((Eq.to_iff (congrFun (congrFun (congrFun (congrFun (vmtf_Queue_Find.eq) t0) t1) K) h)).mp hp)

/-! ### bradawl/bradawllaw17.VmtfRuns$1: function 16 -/
abbrev bradawllaw17_VmtfRuns_1.id : FuncId := 16
def bradawllaw17_VmtfRuns_1.ann : Ann := (.seq none .leaf (.seq none .leaf (.seq none .leaf .leaf)))
set_option maxRecDepth 100000 in
def bradawllaw17_VmtfRuns_1.pt (t0 t1 t2 : Value) (K : Ret) (h : Heap) : Prop :=
 go (Ld t1) h fun t5 h =>
 go (Bin .int .sub t5 (.int .i64 1)) h fun t6 h =>
 go (St t1 t6) h fun _ h =>
 go (Ld t2) h fun t7 h =>
 go (Bin .int .and t0 (.int .i64 31)) h fun t9 h =>
 go (Bin .int .shr t7 t9) h fun t10 h =>
 go (Bin .int .and t10 (.int .u32 1)) h fun t11 h =>
 go (Bin .int .eql t11 (.int .u32 1)) h fun t12 h =>
 K t12 h
set_option maxRecDepth 100000 in
theorem bradawllaw17_VmtfRuns_1.eq : (fun t0 t1 t2 K h => bradawllaw17_VmtfRuns_1.pt t0 t1 t2 K h : Value → Value → Value → Ret → Heap → Prop) = (fun t0 t1 t2 K h => fnPt Try.prog [12] Try.f16 bradawllaw17_VmtfRuns_1.ann [t0, t1, t2] K h) := by kernel_rfl
theorem bradawllaw17_VmtfRuns_1.ok {t0 t1 t2 : Value} {K : Ret} {h : Heap} (hp : bradawllaw17_VmtfRuns_1.pt t0 t1 t2 K h) : CallH Try.prog 16 #[t0, t1, t2] K h :=
  fn_sound (qs := [12]) (fn := Try.f16) (ann := bradawllaw17_VmtfRuns_1.ann) (args := [t0, t1, t2]) follows_mixed Try.func16 ((Eq.to_iff (congrFun (congrFun (congrFun (congrFun (congrFun (bradawllaw17_VmtfRuns_1.eq) t0) t1) t2) K) h)).mp hp)

/-! ### (*bradawl/vmtf.Queue).Front: function 17 -/
abbrev vmtf_Queue_Front.id : FuncId := 17
def vmtf_Queue_Front.ann : Ann := (.seq none .leaf (.seq none .leaf (.seq none .leaf .leaf)))
set_option maxRecDepth 100000 in
def vmtf_Queue_Front.pt (t0 : Value) (K : Ret) (h : Heap) : Prop :=
 go (NilC t0) h fun t6 h =>
 go (Fld 0 t6) h fun t7 h =>
 go (Ld t7) h fun t8 h =>
 go (Idx 3 t8 (.int .i64 0)) h fun t9 h =>
 go (Fld 1 t9) h fun t10 h =>
 go (Ld t10) h fun t11 h =>
 go (Bin .int .neq t11 (.int .i64 0)) h fun t14 h =>
 K (.tuple #[t11, t14]) h
set_option maxRecDepth 100000 in
theorem vmtf_Queue_Front.eq : (fun t0 K h => vmtf_Queue_Front.pt t0 K h : Value → Ret → Heap → Prop) = (fun t0 K h => fnPt Try.prog [12] Try.f17 vmtf_Queue_Front.ann [t0] K h) := by kernel_rfl
theorem vmtf_Queue_Front.ok {t0 : Value} {K : Ret} {h : Heap} (hp : vmtf_Queue_Front.pt t0 K h) : CallH Try.prog 17 #[t0] K h :=
  fn_sound (qs := [12]) (fn := Try.f17) (ann := vmtf_Queue_Front.ann) (args := [t0]) follows_mixed Try.func17 ((Eq.to_iff (congrFun (congrFun (congrFun (vmtf_Queue_Front.eq) t0) K) h)).mp hp)

/-! ### bradawl/bradawllaw17.VmtfFinds$1: function 18 -/
abbrev bradawllaw17_VmtfFinds_1.id : FuncId := 18
def bradawllaw17_VmtfFinds_1.ann : Ann := (.seq none .leaf (.seq none .leaf .leaf))
set_option maxRecDepth 100000 in
def bradawllaw17_VmtfFinds_1.pt (t0 t1 : Value) (K : Ret) (h : Heap) : Prop :=
 go (Ld t1) h fun t4 h =>
 go (Bin .int .and t0 (.int .i64 31)) h fun t6 h =>
 go (Bin .int .shr t4 t6) h fun t7 h =>
 go (Bin .int .and t7 (.int .u32 1)) h fun t8 h =>
 go (Bin .int .eql t8 (.int .u32 1)) h fun t9 h =>
 K t9 h
set_option maxRecDepth 100000 in
theorem bradawllaw17_VmtfFinds_1.eq : (fun t0 t1 K h => bradawllaw17_VmtfFinds_1.pt t0 t1 K h : Value → Value → Ret → Heap → Prop) = (fun t0 t1 K h => fnPt Try.prog [12] Try.f18 bradawllaw17_VmtfFinds_1.ann [t0, t1] K h) := by kernel_rfl
theorem bradawllaw17_VmtfFinds_1.ok {t0 t1 : Value} {K : Ret} {h : Heap} (hp : bradawllaw17_VmtfFinds_1.pt t0 t1 K h) : CallH Try.prog 18 #[t0, t1] K h :=
  fn_sound (qs := [12]) (fn := Try.f18) (ann := bradawllaw17_VmtfFinds_1.ann) (args := [t0, t1]) follows_mixed Try.func18 ((Eq.to_iff (congrFun (congrFun (congrFun (congrFun (bradawllaw17_VmtfFinds_1.eq) t0) t1) K) h)).mp hp)

/-! ### bradawl/vmtf.New: function 19 -/
abbrev vmtf_New.id : FuncId := 19
def vmtf_New.ann : Ann := (.seq none .leaf (.seq none .leaf (.seq none (.seq none .leaf (.block (.loop [0, 3, 14, 15] (.seq none .leaf (.seq none (.cond .leaf .leaf) (.seq none (.block (.seq none .leaf .leaf)) .leaf)))))) (.seq none .leaf (.seq none .leaf .leaf)))))
set_option maxRecDepth 100000 in
def vmtf_New.pt (t0 : Value) (K : Ret) (h : Heap) : Prop :=
 go (Bin .int .add t0 (.int .i64 1)) h fun t6 h =>
 go (MkS 49 24 3 #[(.int .i64 0), (.int .i64 0), (.int .i64 0)] t6 t6) h fun t7 h =>
 go (Bld [(0, 1), (1, 1)] #[(.slice none 0 0), (.int .i64 0)] [(0, t7)]) h fun t8 h =>
 go (New (Value.cells t8) 47) h fun t9 h =>
 go (NilC t9) h fun t11 h =>
 go (Fld 0 t11) h fun t12 h =>
 go (Ld t12) h fun t13 h =>
 go (Len t13) h fun t14 h =>
 Lp 4 (fun X1 t0_1 t3 t14_1 t15 h =>
 go (Bin .int .lss t15 t14_1) h fun t16 h =>
 If t16 (
 go (NilC t3) h fun t19 h =>
 go (Fld 0 t19) h fun t20 h =>
 go (Ld t20) h fun t21 h =>
 go (NilC t3) h fun t24 h =>
 go (Fld 0 t24) h fun t25 h =>
 go (Ld t25) h fun t26 h =>
 go (Bin .int .sub t15 (.int .i64 1)) h fun t29 h =>
 go (Bin .int .add t15 (.int .i64 1)) h fun t31 h =>
 go (Idx 3 t21 t15) h fun t32 h =>
 go (Fld 0 t32) h fun t33 h =>
 go (St t33 t29) h fun _ h =>
 go (Idx 3 t26 t15) h fun t34 h =>
 go (Fld 1 t34) h fun t35 h =>
 go (St t35 t31) h fun _ h =>
 go (Bin .int .add t15 (.int .i64 1)) h fun t36 h =>
 X1 t0_1 t3 t14_1 t36 h) (
 go (NilC t3) h fun t38 h =>
 go (Fld 0 t38) h fun t39 h =>
 go (Ld t39) h fun t40 h =>
 go (NilC t3) h fun t42 h =>
 go (Fld 0 t42) h fun t43 h =>
 go (Ld t43) h fun t44 h =>
 go (Idx 3 t40 (.int .i64 0)) h fun t47 h =>
 go (Fld 0 t47) h fun t48 h =>
 go (St t48 t0_1) h fun _ h =>
 go (Idx 3 t44 t0_1) h fun t49 h =>
 go (Fld 1 t49) h fun t50 h =>
 go (St t50 (.int .i64 0)) h fun _ h =>
 K t3 h)) [t0, t9, t14, (.int .i64 0)] h
set_option maxRecDepth 100000 in
theorem vmtf_New.eq : (fun t0 K h => vmtf_New.pt t0 K h : Value → Ret → Heap → Prop) = (fun t0 K h => fnPt Try.prog [12] Try.f19 vmtf_New.ann [t0] K h) := by kernel_rfl
theorem vmtf_New.ok {t0 : Value} {K : Ret} {h : Heap} (hp : vmtf_New.pt t0 K h) : CallH Try.prog 19 #[t0] K h :=
  fn_sound (qs := [12]) (fn := Try.f19) (ann := vmtf_New.ann) (args := [t0]) follows_mixed Try.func19 ((Eq.to_iff (congrFun (congrFun (congrFun (vmtf_New.eq) t0) K) h)).mp hp)

/-! ### (*bradawl/vmtf.Queue).right: function 20 -/
abbrev vmtf_Queue_right.id : FuncId := 20
def vmtf_Queue_right.ann : Ann := (.seq none .leaf (.seq none .leaf .leaf))
set_option maxRecDepth 100000 in
def vmtf_Queue_right.pt (t0 t1 : Value) (K : Ret) (h : Heap) : Prop :=
 go (Bin .int .geq t1 (.int .i64 1)) h fun t6 h =>
 go (Gd t6 true (Mv t1)) h fun t8 h =>
 go (Gd t6 true (Mv t0)) h fun t9 h =>
 go (Gd t6 true (NilC t9)) h fun t10 h =>
 go (Gd t6 true (Fld 0 t10)) h fun t11 h =>
 go (Gd t6 true (Ld t11)) h fun t12 h =>
 go (Gd t6 true (Len t12)) h fun t13 h =>
 go (Gd t6 true (Bin .int .lss t8 t13)) h fun t14 h =>
 go (Pick t6 t14 (.bool false)) h fun t15 h =>
 K t15 h
set_option maxRecDepth 100000 in
theorem vmtf_Queue_right.eq : (fun t0 t1 K h => vmtf_Queue_right.pt t0 t1 K h : Value → Value → Ret → Heap → Prop) = (fun t0 t1 K h => fnPt Try.prog [12] Try.f20 vmtf_Queue_right.ann [t0, t1] K h) := by kernel_rfl
theorem vmtf_Queue_right.ok {t0 t1 : Value} {K : Ret} {h : Heap} (hp : vmtf_Queue_right.pt t0 t1 K h) : CallH Try.prog 20 #[t0, t1] K h :=
  fn_sound (qs := [12]) (fn := Try.f20) (ann := vmtf_Queue_right.ann) (args := [t0, t1]) follows_mixed Try.func20 ((Eq.to_iff (congrFun (congrFun (congrFun (congrFun (vmtf_Queue_right.eq) t0) t1) K) h)).mp hp)

/-! ### (*bradawl/vmtf.Queue).join: function 21 -/
abbrev vmtf_Queue_join.id : FuncId := 21
def vmtf_Queue_join.ann : Ann := .leaf
set_option maxRecDepth 100000 in
def vmtf_Queue_join.pt (t0 t1 t2 : Value) (K : Ret) (h : Heap) : Prop :=
 go (NilC t0) h fun t7 h =>
 go (Fld 0 t7) h fun t8 h =>
 go (Ld t8) h fun t9 h =>
 go (NilC t0) h fun t12 h =>
 go (Fld 0 t12) h fun t13 h =>
 go (Ld t13) h fun t14 h =>
 go (Idx 3 t9 t1) h fun t18 h =>
 go (Fld 1 t18) h fun t19 h =>
 go (St t19 t2) h fun _ h =>
 go (Idx 3 t14 t2) h fun t20 h =>
 go (Fld 0 t20) h fun t21 h =>
 go (St t21 t1) h fun _ h =>
 K (.tuple #[]) h
set_option maxRecDepth 100000 in
theorem vmtf_Queue_join.eq : (fun t0 t1 t2 K h => vmtf_Queue_join.pt t0 t1 t2 K h : Value → Value → Value → Ret → Heap → Prop) = (fun t0 t1 t2 K h => fnPt Try.prog [12] Try.f21 vmtf_Queue_join.ann [t0, t1, t2] K h) := by kernel_rfl
theorem vmtf_Queue_join.ok {t0 t1 t2 : Value} {K : Ret} {h : Heap} (hp : vmtf_Queue_join.pt t0 t1 t2 K h) : CallH Try.prog 21 #[t0, t1, t2] K h :=
  fn_sound (qs := [12]) (fn := Try.f21) (ann := vmtf_Queue_join.ann) (args := [t0, t1, t2]) follows_mixed Try.func21 ((Eq.to_iff (congrFun (congrFun (congrFun (congrFun (congrFun (vmtf_Queue_join.eq) t0) t1) t2) K) h)).mp hp)

/-! ### (*bradawl/vmtf.Queue).All$1: function 22 -/
abbrev vmtf_Queue_All_1.id : FuncId := 22
def vmtf_Queue_All_1.ann : Ann := (.seq none .leaf (.block (.loop [0, 1, 3] (.seq none (.seq none .leaf (.cond .leaf .leaf)) (.seq none (.block (.seq none .leaf (.cond .leaf .leaf))) .leaf)))))
set_option maxRecDepth 100000 in
def vmtf_Queue_All_1.pt (t0 t1 : Value) (K : Ret) (h : Heap) : Prop :=
 go (Ld t1) h fun t4 h =>
 go (NilC t4) h fun t5 h =>
 go (Fld 0 t5) h fun t6 h =>
 go (Ld t6) h fun t7 h =>
 go (Idx 3 t7 (.int .i64 0)) h fun t8 h =>
 go (Fld 1 t8) h fun t9 h =>
 go (Ld t9) h fun t10 h =>
 Lp 3 (fun X1 t0_1 t1_1 t3 h =>
 go (Bin .int .neq t3 (.int .i64 0)) h fun t12 h =>
 If t12 (
 go (CallV Try.prog t0_1 [t3]) h fun t23 h =>
 go (Un .not t23) h fun t24 h =>
 If t24 (
 K (.tuple #[]) h) (
 go (Ld t1_1) h fun t13 h =>
 go (NilC t13) h fun t14 h =>
 go (Fld 0 t14) h fun t15 h =>
 go (Ld t15) h fun t16 h =>
 go (Idx 3 t16 t3) h fun t18 h =>
 go (Fld 1 t18) h fun t19 h =>
 go (Ld t19) h fun t20 h =>
 X1 t0_1 t1_1 t20 h)) (
 K (.tuple #[]) h)) [t0, t1, t10] h
set_option maxRecDepth 100000 in
theorem vmtf_Queue_All_1.eq : (fun t0 t1 K h => vmtf_Queue_All_1.pt t0 t1 K h : Value → Value → Ret → Heap → Prop) = (fun t0 t1 K h => fnPt Try.prog [12] Try.f22 vmtf_Queue_All_1.ann [t0, t1] K h) := by kernel_rfl
theorem vmtf_Queue_All_1.ok {t0 t1 : Value} {K : Ret} {h : Heap} (hp : vmtf_Queue_All_1.pt t0 t1 K h) : CallH Try.prog 22 #[t0, t1] K h :=
  fn_sound (qs := [12]) (fn := Try.f22) (ann := vmtf_Queue_All_1.ann) (args := [t0, t1]) follows_mixed Try.func22 ((Eq.to_iff (congrFun (congrFun (congrFun (congrFun (vmtf_Queue_All_1.eq) t0) t1) K) h)).mp hp)

end Go.Proofs.Ytcmpdfjojeblmaa
