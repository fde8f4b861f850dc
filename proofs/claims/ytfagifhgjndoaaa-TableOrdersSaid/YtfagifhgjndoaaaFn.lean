/- What each Go function asks, in the primitives of Pt; written by a program of mine (ptgen.py) out of the translation; Lean checks that it is so. -/
import Derived.Test.YtfagifhgjndoaaaProg
import Derived.KernelRfl
import Derived.Test.YtfagifhgjndoaaaPtO
namespace Go.Proofs.Ytfagifhgjndoaaa
open Go.Pt
set_option linter.unusedVariables false
theorem follows_mixed : Try.prog.follows .mixedOrders = true := by kernel_rfl
/-! ### bradawl/bradawllaw11.TableWeights: function 3 -/
abbrev bradawllaw11_TableWeights.id : FuncId := 3
def bradawllaw11_TableWeights.ann : Ann := (.seq none .leaf (.seq none (.seq none .leaf (.cond (.seq none .leaf .leaf) .leaf)) (.seq none .leaf (.seq none .leaf (.seq none (.seq none .leaf (.cond (.seq none .leaf .leaf) .leaf)) (.seq none (.seq none .leaf (.block (.loop [7, 8, 9, 36] (.seq none .leaf (.seq none (.cond .leaf .leaf) (.seq none (.block (.seq none .leaf (.seq none .leaf (.cond (.seq none .leaf .leaf) .leaf)))) .leaf)))))) (.seq none .leaf .leaf)))))))
def bradawllaw11_TableWeights.pt (t0 t1 t2 : Value) (K : Ret) (h : Heap) : Prop :=
 go (CallF Try.prog 8 []) h fun t11 h =>
 go (Un .not t11) h fun t12 h =>
 If t12 (
 K (.bool false) h) (
 go (CallF Try.prog 9 [t0, t1]) h fun t16 h =>
 go (Ext 0 t16) h fun t17 h =>
 go (Ext 1 t16) h fun t18 h =>
 go (CallF Try.prog 10 [t17, t18]) h fun t21 h =>
 go (CallF Try.prog 11 [t21, t2]) h fun t24 h =>
 go (CallF Try.prog 12 [t17, t18, t2]) h fun t28 h =>
 go (Bin .int .neq t24 t28) h fun t29 h =>
 go (Gd t29 false (Mv t17)) h fun t31 h =>
 go (Gd t29 false (Mv t18)) h fun t32 h =>
 go (Gd t29 false (CallF Try.prog 13 [t31, t32])) h fun t33 h =>
 go (Gd t29 false (Un .not t33)) h fun t34 h =>
 go (Pick t29 (.bool true) t34) h fun t35 h =>
 If t35 (
 K (.bool false) h) (
 Lp 4 (fun X1 t7 t8 t9 t36 h =>
 go (Bin .int .lss t36 (.int .i64 70)) h fun t37 h =>
 If t37 (
 go (CallF Try.prog 11 [t9, t36]) h fun t41 h =>
 go (CallF Try.prog 12 [t7, t8, t36]) h fun t45 h =>
 go (Bin .int .neq t41 t45) h fun t46 h =>
 go (Gd t46 false (Mv t9)) h fun t48 h =>
 go (Gd t46 false (Mv t36)) h fun t49 h =>
 go (Gd t46 false (Bin .int .add t49 (.int .i64 1))) h fun t50 h =>
 go (Gd t46 false (CallF Try.prog 11 [t48, t50])) h fun t51 h =>
 go (Gd t46 false (Mv t9)) h fun t52 h =>
 go (Gd t46 false (Mv t36)) h fun t53 h =>
 go (Gd t46 false (CallF Try.prog 11 [t52, t53])) h fun t54 h =>
 go (Gd t46 false (Bin .int .gtr t51 t54)) h fun t55 h =>
 go (Pick t46 (.bool true) t55) h fun t56 h =>
 go (Gd t56 false (Mv t9)) h fun t58 h =>
 go (Gd t56 false (Mv t36)) h fun t59 h =>
 go (Gd t56 false (CallF Try.prog 11 [t58, t59])) h fun t60 h =>
 go (Gd t56 false (Bin .int .lss t60 (.int .i64 1))) h fun t61 h =>
 go (Pick t56 (.bool true) t61) h fun t62 h =>
 If t62 (
 K (.bool false) h) (
 go (Bin .int .add t36 (.int .i64 1)) h fun t63 h =>
 X1 t7 t8 t9 t63 h)) (
 K (.bool true) h)) [t17, t18, t21, (.int .i64 0)] h))
set_option maxRecDepth 100000 in
theorem bradawllaw11_TableWeights.eq : (fun t0 t1 t2 K h => bradawllaw11_TableWeights.pt t0 t1 t2 K h : Value → Value → Value → Ret → Heap → Prop) = (fun t0 t1 t2 K h => fnPt Try.prog [] Try.f3 bradawllaw11_TableWeights.ann [t0, t1, t2] K h) := by kernel_rfl
theorem bradawllaw11_TableWeights.ok {t0 t1 t2 : Value} {K : Ret} {h : Heap} (hp : bradawllaw11_TableWeights.pt t0 t1 t2 K h) : CallH Try.prog 3 #[t0, t1, t2] K h :=
  fn_sound (qs := []) (fn := Try.f3) (ann := bradawllaw11_TableWeights.ann) (args := [t0, t1, t2]) follows_mixed Try.func3 ((Eq.to_iff (congrFun (congrFun (congrFun (congrFun (congrFun (bradawllaw11_TableWeights.eq) t0) t1) t2) K) h)).mp hp)

/-! ### bradawl/bradawllaw11.TablePicks: function 4 -/
abbrev bradawllaw11_TablePicks.id : FuncId := 4
def bradawllaw11_TablePicks.ann : Ann := (.seq none .leaf (.seq none (.seq none .leaf (.cond (.seq none .leaf .leaf) .leaf)) (.seq none (.seq none .leaf (.cond (.seq none .leaf .leaf) .leaf)) (.seq none .leaf (.seq none .leaf (.seq none .leaf (.seq none (.seq none .leaf (.block (.loop [1, 5, 7, 8, 9, 10, 31, 32, 33] (.seq none .leaf (.seq none (.cond .leaf .leaf) (.seq none (.block (.seq none .leaf .leaf)) .leaf)))))) (.seq none (.seq none .leaf (.cond (.seq none .leaf .leaf) .leaf)) (.seq none (.seq none .leaf (.cond (.seq none .leaf .leaf) .leaf)) (.seq none .leaf (.seq none .leaf (.seq none (.block (.loop [1, 5, 7, 8, 9, 13, 14] (.seq none (.seq none .leaf (.cond .leaf .leaf)) (.block (.seq none .leaf .leaf))))) (.seq none .leaf .leaf)))))))))))))
def bradawllaw11_TablePicks.pt (t0 t1 t2 : Value) (K : Ret) (h : Heap) : Prop :=
 go (New (Value.cells t2) 33) h fun t5 h =>
 go (CallF Try.prog 8 []) h fun t15 h =>
 go (Un .not t15) h fun t16 h =>
 If t16 (
 K (.bool false) h) (
 go (Len t1) h fun t18 h =>
 go (Bin .int .gtr t18 (.int .i64 100)) h fun t19 h =>
 If t19 (
 K (.bool true) h) (
 go (IdxA 2 1 t5 (.int .i64 1)) h fun t22 h =>
 go (Ld t22) h fun t23 h =>
 go (Cvt .u8 t23) h fun t24 h =>
 go (CallF Try.prog 9 [t0, t24]) h fun t25 h =>
 go (Ext 0 t25) h fun t26 h =>
 go (Ext 1 t25) h fun t27 h =>
 go (CallF Try.prog 10 [t26, t27]) h fun t30 h =>
 go (Len t1) h fun t32 h =>
 Lp 9 (fun X1 t1_1 t5_1 t7 t8 t9 t10 t31 t32_1 t33 h =>
 go (Bin .int .lss t33 t32_1) h fun t34 h =>
 If t34 (
 go (Idx 1 t31 t33) h fun t35 h =>
 go (Ld t35) h fun t36 h =>
 go (CallF Try.prog 12 [t7, t8, t36]) h fun t41 h =>
 go (Bin .int .add t10 t41) h fun t42 h =>
 go (Bin .int .add t33 (.int .i64 1)) h fun t43 h =>
 X1 t1_1 t5_1 t7 t8 t9 t42 t31 t32_1 t43 h) (
 go (CallF Try.prog 14 [t9, t1_1]) h fun t46 h =>
 go (Bin .int .neq t46 t10) h fun t48 h =>
 If t48 (
 K (.bool false) h) (
 go (Bin .int .eql t10 (.int .i64 0)) h fun t50 h =>
 If t50 (
 go (IdxA 2 1 t5_1 (.int .i64 0)) h fun t53 h =>
 go (Ld t53) h fun t54 h =>
 go (CallF Try.prog 15 [t9, t1_1, t54]) h fun t55 h =>
 go (Bin .int .eql t55 (.int .i64 (-1))) h fun t56 h =>
 K t56 h) (
 go (IdxA 2 1 t5_1 (.int .i64 0)) h fun t57 h =>
 go (Ld t57) h fun t58 h =>
 go (Cvt .u64 t10) h fun t60 h =>
 go (Bin .int .rem t58 t60) h fun t61 h =>
 go (Cvt .i64 t61) h fun t62 h =>
 Lp 7 (fun X2 t1_2 t5_2 t7_1 t8_1 t9_1 t13 t14 h =>
 go (Idx 1 t1_2 t14) h fun t68 h =>
 go (Ld t68) h fun t69 h =>
 go (CallF Try.prog 12 [t7_1, t8_1, t69]) h fun t70 h =>
 go (Bin .int .geq t13 t70) h fun t71 h =>
 If t71 (
 go (Idx 1 t1_2 t14) h fun t77 h =>
 go (Ld t77) h fun t78 h =>
 go (CallF Try.prog 12 [t7_1, t8_1, t78]) h fun t79 h =>
 go (Bin .int .sub t13 t79) h fun t80 h =>
 go (Bin .int .add t14 (.int .i64 1)) h fun t82 h =>
 X2 t1_2 t5_2 t7_1 t8_1 t9_1 t80 t82 h) (
 go (IdxA 2 1 t5_2 (.int .i64 0)) h fun t85 h =>
 go (Ld t85) h fun t86 h =>
 go (CallF Try.prog 15 [t9_1, t1_2, t86]) h fun t87 h =>
 go (Bin .int .eql t87 t14) h fun t89 h =>
 K t89 h)) [t1_1, t5_1, t7, t8, t9, t62, (.int .i64 0)] h)))) [t1, t5, t26, t27, t30, (.int .i64 0), t1, t32, (.int .i64 0)] h))
set_option maxRecDepth 100000 in
theorem bradawllaw11_TablePicks.eq : (fun t0 t1 t2 K h => bradawllaw11_TablePicks.pt t0 t1 t2 K h : Value → Value → Value → Ret → Heap → Prop) = (fun t0 t1 t2 K h => fnPt Try.prog [] Try.f4 bradawllaw11_TablePicks.ann [t0, t1, t2] K h) := by kernel_rfl
theorem bradawllaw11_TablePicks.ok {t0 t1 t2 : Value} {K : Ret} {h : Heap} (hp : bradawllaw11_TablePicks.pt t0 t1 t2 K h) : CallH Try.prog 4 #[t0, t1, t2] K h :=
  fn_sound (qs := []) (fn := Try.f4) (ann := bradawllaw11_TablePicks.ann) (args := [t0, t1, t2]) follows_mixed Try.func4 ((Eq.to_iff (congrFun (congrFun (congrFun (congrFun (congrFun (bradawllaw11_TablePicks.eq) t0) t1) t2) K) h)).mp hp)

/-! ### bradawl/bradawllaw11.TableRights: function 5 -/
abbrev bradawllaw11_TableRights.id : FuncId := 5
def bradawllaw11_TableRights.ann : Ann := (.seq none .leaf (.seq none (.seq none .leaf (.cond (.seq none .leaf .leaf) .leaf)) (.seq none .leaf .leaf)))
def bradawllaw11_TableRights.pt (t0 t1 : Value) (K : Ret) (h : Heap) : Prop :=
 go (CallF Try.prog 8 []) h fun t5 h =>
 go (Un .not t5) h fun t6 h =>
 If t6 (
 K (.bool false) h) (
 go (CallF Try.prog 13 [t0, t1]) h fun t9 h =>
 go (Bin .int .eql t0 (.int .i64 0)) h fun t11 h =>
 go (Gd t11 true (Mv t1)) h fun t13 h =>
 go (Gd t11 true (Bin .int .geq t13 (.int .i64 1))) h fun t14 h =>
 go (Pick t11 t14 (.bool false)) h fun t15 h =>
 go (Gd t15 true (Mv t1)) h fun t17 h =>
 go (Gd t15 true (Bin .int .leq t17 (.int .i64 64))) h fun t18 h =>
 go (Pick t15 t18 (.bool false)) h fun t19 h =>
 go (Gd t19 false (Mv t0)) h fun t21 h =>
 go (Gd t19 false (Bin .int .eql t21 (.int .i64 1))) h fun t22 h =>
 go (Gd t19 false (Mv t22)) h fun t23 h =>
 go (Gd t23 true (Mv t1)) h fun t24 h =>
 go (Gd t23 true (Bin .int .geq t24 (.int .i64 17))) h fun t25 h =>
 go (Gd t19 false (Pick t23 t25 (.bool false))) h fun t26 h =>
 go (Gd t19 false (Mv t26)) h fun t27 h =>
 go (Gd t27 true (Mv t1)) h fun t28 h =>
 go (Gd t27 true (Bin .int .leq t28 (.int .i64 256))) h fun t29 h =>
 go (Gd t19 false (Pick t27 t29 (.bool false))) h fun t30 h =>
 go (Pick t19 (.bool true) t30) h fun t31 h =>
 go (Bin .bool .eql t9 t31) h fun t32 h =>
 K t32 h)
set_option maxRecDepth 100000 in
theorem bradawllaw11_TableRights.eq : (fun t0 t1 K h => bradawllaw11_TableRights.pt t0 t1 K h : Value → Value → Ret → Heap → Prop) = (fun t0 t1 K h => fnPt Try.prog [] Try.f5 bradawllaw11_TableRights.ann [t0, t1] K h) := by kernel_rfl
theorem bradawllaw11_TableRights.ok {t0 t1 : Value} {K : Ret} {h : Heap} (hp : bradawllaw11_TableRights.pt t0 t1 K h) : CallH Try.prog 5 #[t0, t1] K h :=
  fn_sound (qs := []) (fn := Try.f5) (ann := bradawllaw11_TableRights.ann) (args := [t0, t1]) follows_mixed Try.func5 ((Eq.to_iff (congrFun (congrFun (congrFun (congrFun (bradawllaw11_TableRights.eq) t0) t1) K) h)).mp hp)

/-! ### bradawl/bradawllaw11.TableWhole: function 6 -/
abbrev bradawllaw11_TableWhole.id : FuncId := 6
def bradawllaw11_TableWhole.ann : Ann := (.seq none .leaf (.seq none (.seq none .leaf (.cond (.seq none .leaf .leaf) .leaf)) (.seq none (.seq none .leaf (.cond (.seq none .leaf .leaf) .leaf)) (.seq none .leaf (.seq none .leaf (.seq none .leaf (.seq none (.seq none .leaf (.cond (.seq none .leaf .leaf) .leaf)) (.seq none .leaf (.seq none .leaf .leaf)))))))))
def bradawllaw11_TableWhole.pt (t0 t1 t2 : Value) (K : Ret) (h : Heap) : Prop :=
 go (New (Value.cells t2) 33) h fun t5 h =>
 go (CallF Try.prog 8 []) h fun t12 h =>
 go (Un .not t12) h fun t13 h =>
 If t13 (
 K (.bool false) h) (
 go (Len t1) h fun t15 h =>
 go (Bin .int .eql t15 (.int .i64 0)) h fun t16 h =>
 go (Gd t16 false (Mv t1)) h fun t18 h =>
 go (Gd t16 false (Len t18)) h fun t19 h =>
 go (Gd t16 false (Bin .int .gtr t19 (.int .i64 100))) h fun t20 h =>
 go (Pick t16 (.bool true) t20) h fun t21 h =>
 If t21 (
 K (.bool true) h) (
 go (IdxA 2 1 t5 (.int .i64 1)) h fun t24 h =>
 go (Ld t24) h fun t25 h =>
 go (Cvt .u8 t25) h fun t26 h =>
 go (CallF Try.prog 9 [t0, t26]) h fun t27 h =>
 go (Ext 0 t27) h fun t28 h =>
 go (Ext 1 t27) h fun t29 h =>
 go (CallF Try.prog 10 [t28, t29]) h fun t32 h =>
 go (CallF Try.prog 14 [t32, t1]) h fun t35 h =>
 go (Cvt .u64 t35) h fun t36 h =>
 go (Bin .int .eql t36 (.int .u64 0)) h fun t38 h =>
 go (Gd t38 false (Mv t32)) h fun t40 h =>
 go (Gd t38 false (Mv t1)) h fun t41 h =>
 go (Gd t38 false (Slc 1 t41 none (some (.int .i64 1)) none)) h fun t42 h =>
 go (Gd t38 false (IdxA 2 1 t5 (.int .i64 0))) h fun t43 h =>
 go (Gd t38 false (Ld t43)) h fun t44 h =>
 go (Gd t38 false (CallF Try.prog 15 [t40, t42, t44])) h fun t45 h =>
 go (Gd t38 false (Bin .int .neq t45 (.int .i64 0))) h fun t46 h =>
 go (Pick t38 (.bool true) t46) h fun t47 h =>
 If t47 (
 K (.bool false) h) (
 go (IdxA 2 1 t5 (.int .i64 0)) h fun t48 h =>
 go (Ld t48) h fun t49 h =>
 go (Bin .int .rem t49 t36) h fun t51 h =>
 go (CallF Try.prog 15 [t32, t1, t51]) h fun t55 h =>
 go (Bin .int .add t51 t36) h fun t60 h =>
 go (CallF Try.prog 15 [t32, t1, t60]) h fun t61 h =>
 go (Bin .int .eql t55 t61) h fun t62 h =>
 go (Gd t62 true (Mv t32)) h fun t64 h =>
 go (Gd t62 true (Mv t1)) h fun t65 h =>
 go (Gd t62 true (CallF Try.prog 15 [t64, t65, (.int .u64 0)])) h fun t66 h =>
 go (Gd t62 true (Bin .int .eql t66 (.int .i64 0))) h fun t67 h =>
 go (Pick t62 t67 (.bool false)) h fun t68 h =>
 go (Gd t68 true (Mv t32)) h fun t70 h =>
 go (Gd t68 true (Mv t1)) h fun t71 h =>
 go (Gd t68 true (Mv t36)) h fun t72 h =>
 go (Gd t68 true (Bin .int .sub t72 (.int .u64 1))) h fun t73 h =>
 go (Gd t68 true (CallF Try.prog 15 [t70, t71, t73])) h fun t74 h =>
 go (Gd t68 true (Mv t1)) h fun t75 h =>
 go (Gd t68 true (Len t75)) h fun t76 h =>
 go (Gd t68 true (Bin .int .sub t76 (.int .i64 1))) h fun t77 h =>
 go (Gd t68 true (Bin .int .eql t74 t77)) h fun t78 h =>
 go (Pick t68 t78 (.bool false)) h fun t79 h =>
 K t79 h)))
set_option maxRecDepth 100000 in
theorem bradawllaw11_TableWhole.eq : (fun t0 t1 t2 K h => bradawllaw11_TableWhole.pt t0 t1 t2 K h : Value → Value → Value → Ret → Heap → Prop) = (fun t0 t1 t2 K h => fnPt Try.prog [] Try.f6 bradawllaw11_TableWhole.ann [t0, t1, t2] K h) := by kernel_rfl
theorem bradawllaw11_TableWhole.ok {t0 t1 t2 : Value} {K : Ret} {h : Heap} (hp : bradawllaw11_TableWhole.pt t0 t1 t2 K h) : CallH Try.prog 6 #[t0, t1, t2] K h :=
  fn_sound (qs := []) (fn := Try.f6) (ann := bradawllaw11_TableWhole.ann) (args := [t0, t1, t2]) follows_mixed Try.func6 ((Eq.to_iff (congrFun (congrFun (congrFun (congrFun (congrFun (bradawllaw11_TableWhole.eq) t0) t1) t2) K) h)).mp hp)

/-! ### bradawl/bradawllaw11.TableOrders: function 7 -/
abbrev bradawllaw11_TableOrders.id : FuncId := 7
def bradawllaw11_TableOrders.ann : Ann := (.seq none .leaf (.seq none (.seq none .leaf (.cond (.seq none .leaf .leaf) .leaf)) (.seq none (.seq none .leaf (.cond (.seq none .leaf .leaf) .leaf)) (.seq none .leaf (.seq none .leaf (.seq none .leaf (.seq none (.seq none .leaf (.block (.loop [1, 5, 9, 10, 11, 36, 37] (.seq none .leaf (.seq none (.cond .leaf .leaf) (.seq none (.block (.seq none .leaf (.seq none .leaf .leaf))) .leaf)))))) (.seq none (.seq none .leaf (.cond (.seq none .leaf .leaf) .leaf)) (.seq (some [9, 10, 11, 13]) .leaf (.seq none .leaf .leaf))))))))))
def bradawllaw11_TableOrders.pt (t0 t1 t2 : Value) (K : Ret) (h : Heap) : Prop :=
 go (New (Value.cells t2) 33) h fun t5 h =>
 go (CallF Try.prog 8 []) h fun t14 h =>
 go (Un .not t14) h fun t15 h =>
 If t15 (
 K (.bool false) h) (
 go (Len t1) h fun t17 h =>
 go (Bin .int .eql t17 (.int .i64 0)) h fun t18 h =>
 go (Gd t18 false (Mv t1)) h fun t20 h =>
 go (Gd t18 false (Len t20)) h fun t21 h =>
 go (Gd t18 false (Bin .int .gtr t21 (.int .i64 60))) h fun t22 h =>
 go (Pick t18 (.bool true) t22) h fun t23 h =>
 If t23 (
 K (.bool true) h) (
 go (IdxA 2 1 t5 (.int .i64 1)) h fun t26 h =>
 go (Ld t26) h fun t27 h =>
 go (Cvt .u8 t27) h fun t28 h =>
 go (CallF Try.prog 9 [t0, t28]) h fun t29 h =>
 go (Ext 0 t29) h fun t30 h =>
 go (Ext 1 t29) h fun t31 h =>
 go (CallF Try.prog 10 [t30, t31]) h fun t34 h =>
 go (Len t1) h fun t36 h =>
 Lp 7 (fun X1 t1_1 t5_1 t9 t10 t11 t36_1 t37 h =>
 go (Bin .int .lss t37 t36_1) h fun t38 h =>
 If t38 (
 go (Idx 1 t1_1 t37) h fun t43 h =>
 go (Ld t43) h fun t44 h =>
 go (Cvt .i64 t44) h fun t45 h =>
 go (BldS 3 1 1 #[(.int .i64 0)] [(0, t45)]) h fun t46 h =>
 go (App 3 1 8 #[(.int .i64 0)] t10 t46) h fun t47 h =>
 go (Len t1_1) h fun t51 h =>
 go (Bin .int .sub t51 (.int .i64 1)) h fun t52 h =>
 go (Bin .int .sub t52 t37) h fun t54 h =>
 go (Idx 1 t1_1 t54) h fun t55 h =>
 go (Ld t55) h fun t56 h =>
 go (Cvt .i64 t56) h fun t57 h =>
 go (BldS 3 1 1 #[(.int .i64 0)] [(0, t57)]) h fun t58 h =>
 go (App 3 1 8 #[(.int .i64 0)] t11 t58) h fun t59 h =>
 go (Bin .int .add t37 (.int .i64 1)) h fun t60 h =>
 X1 t1_1 t5_1 t9 t47 t59 t36_1 t60 h) (
 go (CallF Try.prog 14 [t9, t10]) h fun t63 h =>
 go (CallF Try.prog 14 [t9, t11]) h fun t66 h =>
 go (Bin .int .neq t63 t66) h fun t67 h =>
 go (Gd t67 false (Mv t9)) h fun t69 h =>
 go (Gd t67 false (Mv t10)) h fun t70 h =>
 go (Gd t67 false (CallF Try.prog 14 [t69, t70])) h fun t71 h =>
 go (Gd t67 false (Mv t10)) h fun t72 h =>
 go (Gd t67 false (Len t72)) h fun t73 h =>
 go (Gd t67 false (Bin .int .lss t71 t73)) h fun t74 h =>
 go (Pick t67 (.bool true) t74) h fun t75 h =>
 If t75 (
 K (.bool false) h) (
 Join 4 (fun J2 =>
 go (IdxA 2 1 t5_1 (.int .i64 0)) h fun t76 h =>
 (go (Ld t76) h fun t77 h =>
 go (CallF Try.prog 14 [t9, t10]) h fun t80 h =>
 go (Cvt .u64 t80) h fun t81 h =>
 go (Bin .int .rem t77 t81) h fun t82 h =>
 J2 t9 t10 t11 t82 h) ∧
 (go (CallF Try.prog 14 [t9, t10]) h fun t80_1 h =>
 go (Ld t76) h fun t77_1 h =>
 go (Cvt .u64 t80_1) h fun t81_1 h =>
 go (Bin .int .rem t77_1 t81_1) h fun t82_1 h =>
 J2 t9 t10 t11 t82_1 h)) (fun t9_1 t10_1 t11_1 t13 h =>
 go (CallF Try.prog 15 [t9_1, t10_1, t13]) h fun t86 h =>
 go (App 3 1 8 #[(.int .i64 0)] (.slice none 0 0) t10_1) h fun t89 h =>
 go (BldS 3 1 1 #[(.int .i64 0)] [(0, (.int .i64 3))]) h fun t90 h =>
 go (App 3 1 8 #[(.int .i64 0)] t89 t90) h fun t91 h =>
 go (CallF Try.prog 15 [t9_1, t91, t13]) h fun t93 h =>
 go (Bin .int .eql t86 t93) h fun t94 h =>
 go (Gd t94 true (Mv t9_1)) h fun t96 h =>
 go (Gd t94 true (Mv t10_1)) h fun t97 h =>
 go (Gd t94 true (Mv t13)) h fun t98 h =>
 go (Gd t94 true (CallF Try.prog 15 [t96, t97, t98])) h fun t99 h =>
 go (Gd t94 true (Mv t10_1)) h fun t100 h =>
 go (Gd t94 true (Len t100)) h fun t101 h =>
 go (Gd t94 true (Bin .int .sub t101 (.int .i64 1))) h fun t102 h =>
 go (Gd t94 true (Mv t9_1)) h fun t103 h =>
 go (Gd t94 true (Mv t11_1)) h fun t104 h =>
 go (Gd t94 true (Mv t9_1)) h fun t105 h =>
 go (Gd t94 true (Mv t10_1)) h fun t106 h =>
 go (Gd t94 true (CallF Try.prog 14 [t105, t106])) h fun t107 h =>
 go (Gd t94 true (Cvt .u64 t107)) h fun t108 h =>
 go (Gd t94 true (Bin .int .sub t108 (.int .u64 1))) h fun t109 h =>
 go (Gd t94 true (Mv t13)) h fun t110 h =>
 go (Gd t94 true (Bin .int .sub t109 t110)) h fun t111 h =>
 go (Gd t94 true (CallF Try.prog 15 [t103, t104, t111])) h fun t112 h =>
 go (Gd t94 true (Bin .int .sub t102 t112)) h fun t113 h =>
 go (Gd t94 true (Bin .int .eql t99 t113)) h fun t114 h =>
 go (Pick t94 t114 (.bool false)) h fun t115 h =>
 K t115 h)))) [t1, t5, t34, (.slice none 0 0), (.slice none 0 0), t36, (.int .i64 0)] h))
set_option maxRecDepth 100000 in
theorem bradawllaw11_TableOrders.eq : (fun t0 t1 t2 K h => bradawllaw11_TableOrders.pt t0 t1 t2 K h : Value → Value → Value → Ret → Heap → Prop) = (fun t0 t1 t2 K h => fnPt Try.prog [] Try.f7 bradawllaw11_TableOrders.ann [t0, t1, t2] K h) := by kernel_rfl
theorem bradawllaw11_TableOrders.ok {t0 t1 t2 : Value} {K : Ret} {h : Heap} (hp : bradawllaw11_TableOrders.pt t0 t1 t2 K h) : CallH Try.prog 7 #[t0, t1, t2] K h :=
  fn_sound (qs := []) (fn := Try.f7) (ann := bradawllaw11_TableOrders.ann) (args := [t0, t1, t2]) follows_mixed Try.func7 ((Eq.to_iff (congrFun (congrFun (congrFun (congrFun (congrFun (bradawllaw11_TableOrders.eq) t0) t1) t2) K) h)).mp hp)

/-! ### bradawl/bradawllaw11.fit: function 8 -/
abbrev bradawllaw11_fit.id : FuncId := 8
def bradawllaw11_fit.ann : Ann := (.seq none .leaf (.seq none .leaf (.seq none .leaf .leaf)))
def bradawllaw11_fit.pt (K : Ret) (h : Heap) : Prop :=
 go (CallF Try.prog 10 [(.int .i64 0), (.int .i64 1)]) h fun t2 h =>
 go (Bin .pointer .neq t2 (.pointer none)) h fun t4 h =>
 go (Gd t4 true (Mv t2)) h fun t6 h =>
 go (Gd t4 true (CallF Try.prog 11 [t6, (.int .i64 0)])) h fun t7 h =>
 go (Gd t4 true (Bin .int .eql t7 (.int .i64 1099511627776))) h fun t8 h =>
 go (Pick t4 t8 (.bool false)) h fun t9 h =>
 go (Gd t9 true (Mv t2)) h fun t11 h =>
 go (Gd t9 true (CallF Try.prog 11 [t11, (.int .i64 1)])) h fun t12 h =>
 go (Gd t9 true (Bin .int .eql t12 (.int .i64 137438953472))) h fun t13 h =>
 go (Pick t9 t13 (.bool false)) h fun t14 h =>
 go (Gd t14 true (CallF Try.prog 13 [(.int .i64 0), (.int .i64 1)])) h fun t16 h =>
 go (Pick t14 t16 (.bool false)) h fun t17 h =>
 go (Gd t17 true (CallF Try.prog 13 [(.int .i64 2), (.int .i64 1)])) h fun t19 h =>
 go (Gd t17 true (Un .not t19)) h fun t20 h =>
 go (Pick t17 t20 (.bool false)) h fun t21 h =>
 go (Gd t21 true (Mv t2)) h fun t23 h =>
 go (Gd t21 true (CallF Try.prog 15 [t23, (.slice none 0 0), (.int .u64 5)])) h fun t24 h =>
 go (Gd t21 true (Bin .int .eql t24 (.int .i64 (-1)))) h fun t25 h =>
 go (Pick t21 t25 (.bool false)) h fun t26 h =>
 K t26 h
set_option maxRecDepth 100000 in
theorem bradawllaw11_fit.eq : (fun K h => bradawllaw11_fit.pt K h : Ret → Heap → Prop) = (fun K h => fnPt Try.prog [] Try.f8 bradawllaw11_fit.ann [] K h) := by kernel_rfl
theorem bradawllaw11_fit.ok {K : Ret} {h : Heap} (hp : bradawllaw11_fit.pt K h) : CallH Try.prog 8 #[] K h :=
  fn_sound (qs := []) (fn := Try.f8) (ann := bradawllaw11_fit.ann) (args := []) follows_mixed Try.func8 ((Eq.to_iff (congrFun (congrFun (bradawllaw11_fit.eq) K) h)).mp hp)

/-! ### bradawl/bradawllaw11.made: function 9 -/
abbrev bradawllaw11_made.id : FuncId := 9
def bradawllaw11_made.ann : Ann := (.seq none .leaf (.seq none (.seq none .leaf (.cond (.seq none .leaf .leaf) .leaf)) (.seq none .leaf .leaf)))
def bradawllaw11_made.pt (t0 t1 : Value) (K : Ret) (h : Heap) : Prop :=
 If t0 (
 go (Cvt .i64 t1) h fun t8 h =>
 go (Bin .int .rem t8 (.int .i64 240)) h fun t9 h =>
 go (Bin .int .add (.int .i64 17) t9) h fun t10 h =>
 K (.tuple #[(.int .i64 1), t10]) h) (
 go (Cvt .i64 t1) h fun t12 h =>
 go (Bin .int .rem t12 (.int .i64 64)) h fun t13 h =>
 go (Bin .int .add (.int .i64 1) t13) h fun t14 h =>
 K (.tuple #[(.int .i64 0), t14]) h)
set_option maxRecDepth 100000 in
theorem bradawllaw11_made.eq : (fun t0 t1 K h => bradawllaw11_made.pt t0 t1 K h : Value → Value → Ret → Heap → Prop) = (fun t0 t1 K h => fnPt Try.prog [] Try.f9 bradawllaw11_made.ann [t0, t1] K h) := by kernel_rfl
theorem bradawllaw11_made.ok {t0 t1 : Value} {K : Ret} {h : Heap} (hp : bradawllaw11_made.pt t0 t1 K h) : CallH Try.prog 9 #[t0, t1] K h :=
  fn_sound (qs := []) (fn := Try.f9) (ann := bradawllaw11_made.ann) (args := [t0, t1]) follows_mixed Try.func9 ((Eq.to_iff (congrFun (congrFun (congrFun (congrFun (bradawllaw11_made.eq) t0) t1) K) h)).mp hp)

/-! ### bradawl/table.New: function 10 -/
abbrev table_New.id : FuncId := 10
def table_New.ann : Ann := (.seq none .leaf (.seq none .leaf (.seq none .leaf (.seq none (.seq none .leaf (.block (.loop [0, 1, 5, 6, 11] (.seq none .leaf (.seq none (.cond .leaf .leaf) (.seq (some [0, 1, 5, 6, 11]) (.block (.seq none .leaf (.seq none (.seq none .leaf (.cond (.seq none .leaf (.seq none .leaf .leaf)) .leaf)) (.seq (some [0, 1, 5, 7, 11]) (.seq none .leaf (.cond .leaf .leaf)) .leaf)))) .leaf)))))) (.seq none .leaf .leaf)))))
def table_New.pt (t0 t1 : Value) (K : Ret) (h : Heap) : Prop :=
 go (Bld [(0, 64)] #[(.int .i64 0), (.int .i64 0), (.int .i64 0), (.int .i64 0), (.int .i64 0), (.int .i64 0), (.int .i64 0), (.int .i64 0), (.int .i64 0), (.int .i64 0), (.int .i64 0), (.int .i64 0), (.int .i64 0), (.int .i64 0), (.int .i64 0), (.int .i64 0), (.int .i64 0), (.int .i64 0), (.int .i64 0), (.int .i64 0), (.int .i64 0), (.int .i64 0), (.int .i64 0), (.int .i64 0), (.int .i64 0), (.int .i64 0), (.int .i64 0), (.int .i64 0), (.int .i64 0), (.int .i64 0), (.int .i64 0), (.int .i64 0), (.int .i64 0), (.int .i64 0), (.int .i64 0), (.int .i64 0), (.int .i64 0), (.int .i64 0), (.int .i64 0), (.int .i64 0), (.int .i64 0), (.int .i64 0), (.int .i64 0), (.int .i64 0), (.int .i64 0), (.int .i64 0), (.int .i64 0), (.int .i64 0), (.int .i64 0), (.int .i64 0), (.int .i64 0), (.int .i64 0), (.int .i64 0), (.int .i64 0), (.int .i64 0), (.int .i64 0), (.int .i64 0), (.int .i64 0), (.int .i64 0), (.int .i64 0), (.int .i64 0), (.int .i64 0), (.int .i64 0), (.int .i64 0)] []) h fun t9 h =>
 go (New (Value.cells t9) 41) h fun t10 h =>
 Lp 5 (fun X1 t0_1 t1_1 t5 t6 t11 h =>
 go (Bin .int .lss t11 (.int .i64 64)) h fun t12 h =>
 If t12 (
 Join 5 (fun J2 =>
 go (Bin .int .eql t0_1 (.int .i64 0)) h fun t15 h =>
 If t15 (
 go (Bin .int .add t1_1 t11) h fun t18 h =>
 go (Bin .int .mul t18 t18) h fun t23 h =>
 go (Bin .int .mul t23 t18) h fun t25 h =>
 go (Bin .int .quo (.int .i64 1099511627776) t25) h fun t26 h =>
 go (MaxV [t26, (.int .i64 1)]) h fun t27 h =>
 go (NilC t5) h fun t28 h =>
 go (Fld 0 t28) h fun t29 h =>
 go (IdxA 64 1 t29 t11) h fun t30 h =>
 go (St t30 t27) h fun _ h =>
 J2 t0_1 t1_1 t5 t6 t11 h) (
 Join 5 (fun J3 =>
 go (Bin .int .eql t11 (.int .i64 0)) h fun t32 h =>
 If t32 (
 go (NilC t5) h fun t35 h =>
 go (Fld 0 t35) h fun t36 h =>
 go (IdxA 64 1 t36 t11) h fun t37 h =>
 go (St t37 (.int .i64 1099511627776)) h fun _ h =>
 J3 t0_1 t1_1 t5 t11 t11 h) (
 go (Bin .int .mul t6 (.int .i64 16)) h fun t41 h =>
 go (Bin .int .quo t41 t1_1) h fun t43 h =>
 go (MaxV [t43, (.int .i64 1)]) h fun t44 h =>
 go (NilC t5) h fun t45 h =>
 go (Fld 0 t45) h fun t46 h =>
 go (IdxA 64 1 t46 t11) h fun t47 h =>
 go (St t47 t44) h fun _ h =>
 J3 t0_1 t1_1 t5 t11 t11 h)) (fun t0_2 t1_2 t5_1 t7 t11_1 h =>
 go (NilC t5_1) h fun t50 h =>
 go (Fld 0 t50) h fun t51 h =>
 go (IdxA 64 1 t51 t7) h fun t52 h =>
 go (Ld t52) h fun t53 h =>
 J2 t0_2 t1_2 t5_1 t53 t11_1 h))) (fun t0_3 t1_3 t5_2 t6_1 t11_2 h =>
 go (Bin .int .add t11_2 (.int .i64 1)) h fun t54 h =>
 X1 t0_3 t1_3 t5_2 t6_1 t54 h)) (
 K t5 h)) [t0, t1, t10, (.int .i64 0), (.int .i64 0)] h
set_option maxRecDepth 100000 in
theorem table_New.eq : (fun t0 t1 K h => table_New.pt t0 t1 K h : Value → Value → Ret → Heap → Prop) = (fun t0 t1 K h => fnPt Try.prog [] Try.f10 table_New.ann [t0, t1] K h) := by kernel_rfl
theorem table_New.ok {t0 t1 : Value} {K : Ret} {h : Heap} (hp : table_New.pt t0 t1 K h) : CallH Try.prog 10 #[t0, t1] K h :=
  fn_sound (qs := []) (fn := Try.f10) (ann := table_New.ann) (args := [t0, t1]) follows_mixed Try.func10 ((Eq.to_iff (congrFun (congrFun (congrFun (congrFun (table_New.eq) t0) t1) K) h)).mp hp)

/-! ### (*bradawl/table.Table).Weight: function 11 -/
abbrev table_Table_Weight.id : FuncId := 11
def table_Table_Weight.ann : Ann := (.seq none .leaf (.seq none .leaf .leaf))
def table_Table_Weight.pt (t0 t1 : Value) (K : Ret) (h : Heap) : Prop :=
 go (MaxV [t1, (.int .i64 0)]) h fun t7 h =>
 go (MinV [t7, (.int .i64 63)]) h fun t8 h =>
 go (NilC t0) h fun t9 h =>
 go (Fld 0 t9) h fun t10 h =>
 go (IdxA 64 1 t10 t8) h fun t11 h =>
 go (Ld t11) h fun t12 h =>
 K t12 h
set_option maxRecDepth 100000 in
theorem table_Table_Weight.eq : (fun t0 t1 K h => table_Table_Weight.pt t0 t1 K h : Value → Value → Ret → Heap → Prop) = (fun t0 t1 K h => fnPt Try.prog [] Try.f11 table_Table_Weight.ann [t0, t1] K h) := by kernel_rfl
theorem table_Table_Weight.ok {t0 t1 : Value} {K : Ret} {h : Heap} (hp : table_Table_Weight.pt t0 t1 K h) : CallH Try.prog 11 #[t0, t1] K h :=
  fn_sound (qs := []) (fn := Try.f11) (ann := table_Table_Weight.ann) (args := [t0, t1]) follows_mixed Try.func11 ((Eq.to_iff (congrFun (congrFun (congrFun (congrFun (table_Table_Weight.eq) t0) t1) K) h)).mp hp)

/-! ### bradawl/bradawllaw11.weight: function 12 -/
abbrev bradawllaw11_weight.id : FuncId := 12
def bradawllaw11_weight.ann : Ann := (.seq none .leaf (.seq none .leaf (.seq none (.seq none .leaf (.cond (.seq none .leaf (.seq none .leaf .leaf)) .leaf)) (.seq none .leaf (.seq none (.seq none .leaf (.block (.loop [1, 8, 28, 29] (.seq none .leaf (.seq none (.cond .leaf .leaf) (.seq none (.block .leaf) .leaf)))))) (.seq none .leaf .leaf))))))
def bradawllaw11_weight.pt (t0 t1 t2 : Value) (K : Ret) (h : Heap) : Prop :=
 go (MaxV [t2, (.int .i64 0)]) h fun t10 h =>
 go (MinV [t10, (.int .i64 63)]) h fun t11 h =>
 go (Bin .int .eql t0 (.int .i64 0)) h fun t13 h =>
 If t13 (
 go (Bin .int .add t1 t11) h fun t16 h =>
 go (Bin .int .add t1 t11) h fun t19 h =>
 go (Bin .int .mul t16 t19) h fun t20 h =>
 go (Bin .int .add t1 t11) h fun t23 h =>
 go (Bin .int .mul t20 t23) h fun t24 h =>
 go (Bin .int .quo (.int .i64 1099511627776) t24) h fun t25 h =>
 go (MaxV [t25, (.int .i64 1)]) h fun t27 h =>
 K t27 h) (
 Lp 4 (fun X1 t1_1 t8 t28 t29 h =>
 go (Bin .int .lss t29 t28) h fun t30 h =>
 If t30 (
 go (Bin .int .mul t8 (.int .i64 16)) h fun t32 h =>
 go (Bin .int .quo t32 t1_1) h fun t34 h =>
 go (MaxV [t34, (.int .i64 1)]) h fun t35 h =>
 go (Bin .int .add t29 (.int .i64 1)) h fun t36 h =>
 X1 t1_1 t35 t28 t36 h) (
 K t8 h)) [t1, (.int .i64 1099511627776), t11, (.int .i64 0)] h)
set_option maxRecDepth 100000 in
theorem bradawllaw11_weight.eq : (fun t0 t1 t2 K h => bradawllaw11_weight.pt t0 t1 t2 K h : Value → Value → Value → Ret → Heap → Prop) = (fun t0 t1 t2 K h => fnPt Try.prog [] Try.f12 bradawllaw11_weight.ann [t0, t1, t2] K h) := by kernel_rfl
theorem bradawllaw11_weight.ok {t0 t1 t2 : Value} {K : Ret} {h : Heap} (hp : bradawllaw11_weight.pt t0 t1 t2 K h) : CallH Try.prog 12 #[t0, t1, t2] K h :=
  fn_sound (qs := []) (fn := Try.f12) (ann := bradawllaw11_weight.ann) (args := [t0, t1, t2]) follows_mixed Try.func12 ((Eq.to_iff (congrFun (congrFun (congrFun (congrFun (congrFun (bradawllaw11_weight.eq) t0) t1) t2) K) h)).mp hp)

/-! ### bradawl/table.Right: function 13 -/
abbrev table_Right.id : FuncId := 13
def table_Right.ann : Ann := (.seq none .leaf (.seq none (.seq none .leaf (.block (.seq none .leaf (.cond (.seq none .leaf .leaf) (.seq none .leaf (.cond (.seq none .leaf .leaf) .leaf)))))) (.seq none .leaf .leaf)))
def table_Right.pt (t0 t1 : Value) (K : Ret) (h : Heap) : Prop :=
 go (Bin .int .eql t0 (.int .i64 0)) h fun t7 h =>
 If t7 (
 go (Bin .int .geq t1 (.int .i64 1)) h fun t9 h =>
 go (Gd t9 true (Mv t1)) h fun t11 h =>
 go (Gd t9 true (Bin .int .leq t11 (.int .i64 64))) h fun t12 h =>
 go (Pick t9 t12 (.bool false)) h fun t13 h =>
 K t13 h) (
 go (Bin .int .eql t0 (.int .i64 1)) h fun t15 h =>
 If t15 (
 go (Bin .int .geq t1 (.int .i64 17)) h fun t17 h =>
 go (Gd t17 true (Mv t1)) h fun t19 h =>
 go (Gd t17 true (Bin .int .leq t19 (.int .i64 256))) h fun t20 h =>
 go (Pick t17 t20 (.bool false)) h fun t21 h =>
 K t21 h) (
 K (.bool false) h))
set_option maxRecDepth 100000 in
theorem table_Right.eq : (fun t0 t1 K h => table_Right.pt t0 t1 K h : Value → Value → Ret → Heap → Prop) = (fun t0 t1 K h => fnPt Try.prog [] Try.f13 table_Right.ann [t0, t1] K h) := by kernel_rfl
theorem table_Right.ok {t0 t1 : Value} {K : Ret} {h : Heap} (hp : table_Right.pt t0 t1 K h) : CallH Try.prog 13 #[t0, t1] K h :=
  fn_sound (qs := []) (fn := Try.f13) (ann := table_Right.ann) (args := [t0, t1]) follows_mixed Try.func13 ((Eq.to_iff (congrFun (congrFun (congrFun (congrFun (table_Right.eq) t0) t1) K) h)).mp hp)

/-! ### (*bradawl/table.Table).Total: function 14 -/
abbrev table_Table_Total.id : FuncId := 14
def table_Table_Total.ann : Ann := (.seq none .leaf (.seq none .leaf (.seq none (.seq none .leaf (.block (.loop [0, 5, 8, 9, 10] (.seq none .leaf (.seq none (.cond .leaf .leaf) (.seq none (.block (.seq none .leaf .leaf)) .leaf)))))) (.seq none .leaf .leaf))))
def table_Table_Total.pt (t0 t1 : Value) (K : Ret) (h : Heap) : Prop :=
 go (Len t1) h fun t9 h =>
 Lp 5 (fun X1 t0_1 t5 t8 t9_1 t10 h =>
 go (Bin .int .lss t10 t9_1) h fun t11 h =>
 If t11 (
 go (Idx 1 t8 t10) h fun t12 h =>
 go (Ld t12) h fun t13 h =>
 go (CallF Try.prog 11 [t0_1, t13]) h fun t17 h =>
 go (Bin .int .add t5 t17) h fun t18 h =>
 go (Bin .int .add t10 (.int .i64 1)) h fun t19 h =>
 X1 t0_1 t18 t8 t9_1 t19 h) (
 K t5 h)) [t0, (.int .i64 0), t1, t9, (.int .i64 0)] h
set_option maxRecDepth 100000 in
theorem table_Table_Total.eq : (fun t0 t1 K h => table_Table_Total.pt t0 t1 K h : Value → Value → Ret → Heap → Prop) = (fun t0 t1 K h => fnPt Try.prog [] Try.f14 table_Table_Total.ann [t0, t1] K h) := by kernel_rfl
theorem table_Table_Total.ok {t0 t1 : Value} {K : Ret} {h : Heap} (hp : table_Table_Total.pt t0 t1 K h) : CallH Try.prog 14 #[t0, t1] K h :=
  fn_sound (qs := []) (fn := Try.f14) (ann := table_Table_Total.ann) (args := [t0, t1]) follows_mixed Try.func14 ((Eq.to_iff (congrFun (congrFun (congrFun (congrFun (table_Table_Total.eq) t0) t1) K) h)).mp hp)

/-! ### (*bradawl/table.Table).Pick: function 15 -/
abbrev table_Table_Pick.id : FuncId := 15
def table_Table_Pick.ann : Ann := (.seq none .leaf (.seq none (.seq none .leaf (.cond (.seq none .leaf .leaf) .leaf)) (.seq none .leaf (.seq none (.seq none .leaf (.block (.loop [0, 7, 20, 21, 22] (.seq none .leaf (.seq none (.cond .leaf .leaf) (.seq none (.block (.seq none .leaf (.seq none .leaf (.seq none .leaf (.cond (.seq none .leaf .leaf) .leaf))))) .leaf)))))) (.seq none .leaf .leaf)))))
def table_Table_Pick.pt (t0 t1 t2 : Value) (K : Ret) (h : Heap) : Prop :=
 go (Len t1) h fun t11 h =>
 go (Bin .int .eql t11 (.int .i64 0)) h fun t12 h =>
 If t12 (
 K (.int .i64 (-1)) h) (
 go (CallF Try.prog 14 [t0, t1]) h fun t16 h =>
 go (Cvt .u64 t16) h fun t17 h =>
 go (Bin .int .rem t2 t17) h fun t18 h =>
 go (Cvt .i64 t18) h fun t19 h =>
 go (Len t1) h fun t21 h =>
 Lp 5 (fun X1 t0_1 t7 t20 t21_1 t22 h =>
 go (Bin .int .lss t22 t21_1) h fun t23 h =>
 If t23 (
 go (Idx 1 t20 t22) h fun t25 h =>
 go (Ld t25) h fun t26 h =>
 go (CallF Try.prog 11 [t0_1, t26]) h fun t30 h =>
 go (Bin .int .sub t7 t30) h fun t31 h =>
 go (Bin .int .lss t31 (.int .i64 0)) h fun t33 h =>
 If t33 (
 K t22 h) (
 go (Bin .int .add t22 (.int .i64 1)) h fun t35 h =>
 X1 t0_1 t31 t20 t21_1 t35 h)) (
 K (.int .i64 (-1)) h)) [t0, t19, t1, t21, (.int .i64 0)] h)
set_option maxRecDepth 100000 in
theorem table_Table_Pick.eq : (fun t0 t1 t2 K h => table_Table_Pick.pt t0 t1 t2 K h : Value → Value → Value → Ret → Heap → Prop) = (fun t0 t1 t2 K h => fnPt Try.prog [] Try.f15 table_Table_Pick.ann [t0, t1, t2] K h) := by kernel_rfl
theorem table_Table_Pick.ok {t0 t1 t2 : Value} {K : Ret} {h : Heap} (hp : table_Table_Pick.pt t0 t1 t2 K h) : CallH Try.prog 15 #[t0, t1, t2] K h :=
  fn_sound (qs := []) (fn := Try.f15) (ann := table_Table_Pick.ann) (args := [t0, t1, t2]) follows_mixed Try.func15 ((Eq.to_iff (congrFun (congrFun (congrFun (congrFun (congrFun (table_Table_Pick.eq) t0) t1) t2) K) h)).mp hp)

end Go.Proofs.Ytfagifhgjndoaaa
