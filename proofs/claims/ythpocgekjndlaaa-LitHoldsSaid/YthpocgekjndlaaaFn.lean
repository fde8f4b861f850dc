/- What each Go function asks, in the primitives of Pt; written by a program of mine (ptgen.py) out of the translation; Lean checks that it is so. -/
import Derived.Test.YthpocgekjndlaaaProg
import Derived.KernelRfl
import Derived.Test.YthpocgekjndlaaaPtO
namespace Go.Proofs.Ythpocgekjndlaaa
open Go.Pt
set_option linter.unusedVariables false
theorem follows_mixed : Try.prog.follows .mixedOrders = true := by kernel_rfl
/-! ### bradawl/bradawllaw01.LitHolds: function 4 -/
abbrev bradawllaw01_LitHolds.id : FuncId := 4
def bradawllaw01_LitHolds.ann : Ann := (.seq none .leaf (.seq none (.seq none .leaf (.cond (.seq none .leaf .leaf) .leaf)) (.seq none (.seq none .leaf (.cond (.seq none .leaf .leaf) .leaf)) (.seq none .leaf (.seq none .leaf .leaf)))))
def bradawllaw01_LitHolds.pt (t0 t1 : Value) (K : Ret) (h : Heap) : Prop :=
 go (CallF Try.prog 7 []) h fun t6 h =>
 go (Un .not t6) h fun t7 h =>
 If t7 (
 K (.bool false) h) (
 go (Len t0) h fun t9 h =>
 go (Bin .int .eql t9 (.int .i64 0)) h fun t10 h =>
 go (Gd t10 false (Mv t0)) h fun t12 h =>
 go (Gd t10 false (Len t12)) h fun t13 h =>
 go (Gd t10 false (Bin .int .gtr t13 (.int .i64 200))) h fun t14 h =>
 go (Pick t10 (.bool true) t14) h fun t15 h =>
 If t15 (
 K (.bool true) h) (
 go (Bin .int .and t1 (.int .i64 65535)) h fun t17 h =>
 go (Len t0) h fun t19 h =>
 go (Bin .int .rem t17 t19) h fun t20 h =>
 go (Bin .int .add (.int .i64 1) t20) h fun t21 h =>
 go (Bin .int .sub t21 (.int .i64 1)) h fun t27 h =>
 go (Idx 1 t0 t27) h fun t28 h =>
 (go (CallF Try.prog 9 [t21, t0]) h fun t24 h =>
 go (Ld t28) h fun t29 h =>
 go (Bin .bool .eql t24 t29) h fun t30 h =>
 go (Gd t30 true (Mv t21)) h fun t32 h =>
 go (Gd t30 true (Un .neg t32)) h fun t33 h =>
 go (Gd t30 true (Mv t0)) h fun t34 h =>
 go (Gd t30 true (Mv t0)) h fun t36 h =>
 go (Gd t30 true (Mv t21)) h fun t37 h =>
 go (Gd t30 true (Bin .int .sub t37 (.int .i64 1))) h fun t38 h =>
 go (Gd t30 true (Idx 1 t36 t38)) h fun t39 h =>
 (go (Gd t30 true (CallF Try.prog 9 [t33, t34])) h fun t35 h =>
 go (Gd t30 true (Ld t39)) h fun t40 h =>
 go (Gd t30 true (Un .not t40)) h fun t41 h =>
 go (Gd t30 true (Bin .bool .eql t35 t41)) h fun t42 h =>
 go (Pick t30 t42 (.bool false)) h fun t43 h =>
 K t43 h) ∧
 (go (Gd t30 true (Ld t39)) h fun t40_1 h =>
 go (Gd t30 true (CallF Try.prog 9 [t33, t34])) h fun t35_1 h =>
 go (Gd t30 true (Un .not t40_1)) h fun t41_1 h =>
 go (Gd t30 true (Bin .bool .eql t35_1 t41_1)) h fun t42_1 h =>
 go (Pick t30 t42_1 (.bool false)) h fun t43_1 h =>
 K t43_1 h)) ∧
 (go (Ld t28) h fun t29_1 h =>
 go (CallF Try.prog 9 [t21, t0]) h fun t24_1 h =>
 go (Bin .bool .eql t24_1 t29_1) h fun t30_1 h =>
 go (Gd t30_1 true (Mv t21)) h fun t32_1 h =>
 go (Gd t30_1 true (Un .neg t32_1)) h fun t33_1 h =>
 go (Gd t30_1 true (Mv t0)) h fun t34_1 h =>
 go (Gd t30_1 true (Mv t0)) h fun t36_1 h =>
 go (Gd t30_1 true (Mv t21)) h fun t37_1 h =>
 go (Gd t30_1 true (Bin .int .sub t37_1 (.int .i64 1))) h fun t38_1 h =>
 go (Gd t30_1 true (Idx 1 t36_1 t38_1)) h fun t39_1 h =>
 (go (Gd t30_1 true (CallF Try.prog 9 [t33_1, t34_1])) h fun t35_2 h =>
 go (Gd t30_1 true (Ld t39_1)) h fun t40_2 h =>
 go (Gd t30_1 true (Un .not t40_2)) h fun t41_2 h =>
 go (Gd t30_1 true (Bin .bool .eql t35_2 t41_2)) h fun t42_2 h =>
 go (Pick t30_1 t42_2 (.bool false)) h fun t43_2 h =>
 K t43_2 h) ∧
 (go (Gd t30_1 true (Ld t39_1)) h fun t40_3 h =>
 go (Gd t30_1 true (CallF Try.prog 9 [t33_1, t34_1])) h fun t35_3 h =>
 go (Gd t30_1 true (Un .not t40_3)) h fun t41_3 h =>
 go (Gd t30_1 true (Bin .bool .eql t35_3 t41_3)) h fun t42_3 h =>
 go (Pick t30_1 t42_3 (.bool false)) h fun t43_3 h =>
 K t43_3 h))))
set_option maxRecDepth 100000 in
theorem bradawllaw01_LitHolds.eq : (fun t0 t1 K h => bradawllaw01_LitHolds.pt t0 t1 K h : Value → Value → Ret → Heap → Prop) = (fun t0 t1 K h => fnPt Try.prog [] Try.f4 bradawllaw01_LitHolds.ann [t0, t1] K h) := by kernel_rfl
theorem bradawllaw01_LitHolds.ok {t0 t1 : Value} {K : Ret} {h : Heap} (hp : bradawllaw01_LitHolds.pt t0 t1 K h) : CallH Try.prog 4 #[t0, t1] K h :=
  fn_sound (qs := []) (fn := Try.f4) (ann := bradawllaw01_LitHolds.ann) (args := [t0, t1]) follows_mixed Try.func4 ((Eq.to_iff (congrFun (congrFun (congrFun (congrFun (bradawllaw01_LitHolds.eq) t0) t1) K) h)).mp hp)

/-! ### bradawl/bradawllaw01.fit: function 7 -/
abbrev bradawllaw01_fit.id : FuncId := 7
def bradawllaw01_fit.ann : Ann := (.seq none .leaf (.seq none .leaf .leaf))
def bradawllaw01_fit.pt (K : Ret) (h : Heap) : Prop :=
 go (CallF Try.prog 11 [(.int .i64 (-3))]) h fun t1 h =>
 go (Bin .int .eql t1 (.int .i64 5)) h fun t2 h =>
 go (Gd t2 true (CallF Try.prog 12 [(.int .i64 5)])) h fun t4 h =>
 go (Gd t2 true (Bin .int .eql t4 (.int .i64 (-3)))) h fun t5 h =>
 go (Pick t2 t5 (.bool false)) h fun t6 h =>
 go (Gd t6 true (CallF Try.prog 8 [(.int .i64 (-3)), (.int .i64 3)])) h fun t8 h =>
 go (Pick t6 t8 (.bool false)) h fun t9 h =>
 go (Gd t9 true (CallF Try.prog 8 [(.int .i64 4), (.int .i64 3)])) h fun t11 h =>
 go (Gd t9 true (Un .not t11)) h fun t12 h =>
 go (Pick t9 t12 (.bool false)) h fun t13 h =>
 go (Gd t13 true (BldS 4 1 1 #[(.bool false)] [(0, (.bool false))])) h fun t15 h =>
 go (Gd t13 true (CallF Try.prog 9 [(.int .i64 (-1)), t15])) h fun t16 h =>
 go (Pick t13 t16 (.bool false)) h fun t17 h =>
 K t17 h
set_option maxRecDepth 100000 in
theorem bradawllaw01_fit.eq : (fun K h => bradawllaw01_fit.pt K h : Ret → Heap → Prop) = (fun K h => fnPt Try.prog [] Try.f7 bradawllaw01_fit.ann [] K h) := by kernel_rfl
theorem bradawllaw01_fit.ok {K : Ret} {h : Heap} (hp : bradawllaw01_fit.pt K h) : CallH Try.prog 7 #[] K h :=
  fn_sound (qs := []) (fn := Try.f7) (ann := bradawllaw01_fit.ann) (args := []) follows_mixed Try.func7 ((Eq.to_iff (congrFun (congrFun (bradawllaw01_fit.eq) K) h)).mp hp)

/-! ### bradawl/lit.Right: function 8 -/
abbrev lit_Right.id : FuncId := 8
def lit_Right.ann : Ann := (.seq none .leaf (.seq none .leaf (.seq none .leaf .leaf)))
def lit_Right.pt (t0 t1 : Value) (K : Ret) (h : Heap) : Prop :=
 go (MaxV [t1, (.int .i64 0)]) h fun t6 h =>
 go (MinV [t6, (.int .i64 100000)]) h fun t7 h =>
 go (Bin .int .neq t0 (.int .i64 0)) h fun t9 h =>
 go (Gd t9 true (Mv t0)) h fun t11 h =>
 go (Gd t9 true (Mv t7)) h fun t12 h =>
 go (Gd t9 true (Bin .int .leq t11 t12)) h fun t13 h =>
 go (Pick t9 t13 (.bool false)) h fun t14 h =>
 go (Gd t14 true (Mv t0)) h fun t16 h =>
 go (Gd t14 true (Mv t7)) h fun t17 h =>
 go (Gd t14 true (Un .neg t17)) h fun t18 h =>
 go (Gd t14 true (Bin .int .geq t16 t18)) h fun t19 h =>
 go (Pick t14 t19 (.bool false)) h fun t20 h =>
 K t20 h
set_option maxRecDepth 100000 in
theorem lit_Right.eq : (fun t0 t1 K h => lit_Right.pt t0 t1 K h : Value → Value → Ret → Heap → Prop) = (fun t0 t1 K h => fnPt Try.prog [] Try.f8 lit_Right.ann [t0, t1] K h) := by kernel_rfl
theorem lit_Right.ok {t0 t1 : Value} {K : Ret} {h : Heap} (hp : lit_Right.pt t0 t1 K h) : CallH Try.prog 8 #[t0, t1] K h :=
  fn_sound (qs := []) (fn := Try.f8) (ann := lit_Right.ann) (args := [t0, t1]) follows_mixed Try.func8 ((Eq.to_iff (congrFun (congrFun (congrFun (congrFun (lit_Right.eq) t0) t1) K) h)).mp hp)

/-! ### bradawl/lit.Holds: function 9 -/
abbrev lit_Holds.id : FuncId := 9
def lit_Holds.ann : Ann := (.seq none .leaf (.seq none .leaf .leaf))
def lit_Holds.pt (t0 t1 : Value) (K : Ret) (h : Heap) : Prop :=
 go (CallF Try.prog 13 [t0]) h fun t7 h =>
 go (Bin .int .sub t7 (.int .i64 1)) h fun t8 h =>
 go (Idx 1 t1 t8) h fun t9 h =>
 go (Ld t9) h fun t10 h =>
 go (Bin .int .gtr t0 (.int .i64 0)) h fun t12 h =>
 go (Bin .bool .eql t10 t12) h fun t13 h =>
 K t13 h
set_option maxRecDepth 100000 in
theorem lit_Holds.eq : (fun t0 t1 K h => lit_Holds.pt t0 t1 K h : Value → Value → Ret → Heap → Prop) = (fun t0 t1 K h => fnPt Try.prog [] Try.f9 lit_Holds.ann [t0, t1] K h) := by kernel_rfl
theorem lit_Holds.ok {t0 t1 : Value} {K : Ret} {h : Heap} (hp : lit_Holds.pt t0 t1 K h) : CallH Try.prog 9 #[t0, t1] K h :=
  fn_sound (qs := []) (fn := Try.f9) (ann := lit_Holds.ann) (args := [t0, t1]) follows_mixed Try.func9 ((Eq.to_iff (congrFun (congrFun (congrFun (congrFun (lit_Holds.eq) t0) t1) K) h)).mp hp)

/-! ### bradawl/lit.Index: function 11 -/
abbrev lit_Index.id : FuncId := 11
def lit_Index.ann : Ann := (.seq none .leaf (.seq none (.seq none .leaf (.cond (.seq none .leaf .leaf) .leaf)) (.seq none .leaf .leaf)))
def lit_Index.pt (t0 : Value) (K : Ret) (h : Heap) : Prop :=
 go (Bin .int .lss t0 (.int .i64 0)) h fun t4 h =>
 If t4 (
 go (Un .neg t0) h fun t6 h =>
 go (Bin .int .sub t6 (.int .i64 1)) h fun t7 h =>
 go (Bin .int .mul (.int .i64 2) t7) h fun t8 h =>
 go (Bin .int .add t8 (.int .i64 1)) h fun t9 h =>
 K t9 h) (
 go (Bin .int .sub t0 (.int .i64 1)) h fun t11 h =>
 go (Bin .int .mul (.int .i64 2) t11) h fun t12 h =>
 K t12 h)
set_option maxRecDepth 100000 in
theorem lit_Index.eq : (fun t0 K h => lit_Index.pt t0 K h : Value → Ret → Heap → Prop) = (fun t0 K h => fnPt Try.prog [] Try.f11 lit_Index.ann [t0] K h) := by kernel_rfl
theorem lit_Index.ok {t0 : Value} {K : Ret} {h : Heap} (hp : lit_Index.pt t0 K h) : CallH Try.prog 11 #[t0] K h :=
  fn_sound (qs := []) (fn := Try.f11) (ann := lit_Index.ann) (args := [t0]) follows_mixed Try.func11 ((Eq.to_iff (congrFun (congrFun (congrFun (lit_Index.eq) t0) K) h)).mp hp)

/-! ### bradawl/lit.At: function 12 -/
abbrev lit_At.id : FuncId := 12
def lit_At.ann : Ann := (.seq none .leaf (.seq none (.seq none .leaf (.cond (.seq none .leaf .leaf) .leaf)) (.seq none .leaf .leaf)))
def lit_At.pt (t0 : Value) (K : Ret) (h : Heap) : Prop :=
 go (Bin .int .and t0 (.int .i64 1)) h fun t4 h =>
 go (Bin .int .eql t4 (.int .i64 1)) h fun t5 h =>
 If t5 (
 go (Bin .int .quo t0 (.int .i64 2)) h fun t7 h =>
 go (Bin .int .add t7 (.int .i64 1)) h fun t8 h =>
 go (Un .neg t8) h fun t9 h =>
 K t9 h) (
 go (Bin .int .quo t0 (.int .i64 2)) h fun t11 h =>
 go (Bin .int .add t11 (.int .i64 1)) h fun t12 h =>
 K t12 h)
set_option maxRecDepth 100000 in
theorem lit_At.eq : (fun t0 K h => lit_At.pt t0 K h : Value → Ret → Heap → Prop) = (fun t0 K h => fnPt Try.prog [] Try.f12 lit_At.ann [t0] K h) := by kernel_rfl
theorem lit_At.ok {t0 : Value} {K : Ret} {h : Heap} (hp : lit_At.pt t0 K h) : CallH Try.prog 12 #[t0] K h :=
  fn_sound (qs := []) (fn := Try.f12) (ann := lit_At.ann) (args := [t0]) follows_mixed Try.func12 ((Eq.to_iff (congrFun (congrFun (congrFun (lit_At.eq) t0) K) h)).mp hp)

/-! ### bradawl/lit.Var: function 13 -/
abbrev lit_Var.id : FuncId := 13
def lit_Var.ann : Ann := (.seq none .leaf (.seq none .leaf .leaf))
def lit_Var.pt (t0 : Value) (K : Ret) (h : Heap) : Prop :=
 go (Un .neg t0) h fun t5 h =>
 go (MaxV [t0, t5]) h fun t6 h =>
 K t6 h
set_option maxRecDepth 100000 in
theorem lit_Var.eq : (fun t0 K h => lit_Var.pt t0 K h : Value → Ret → Heap → Prop) = (fun t0 K h => fnPt Try.prog [] Try.f13 lit_Var.ann [t0] K h) := by kernel_rfl
theorem lit_Var.ok {t0 : Value} {K : Ret} {h : Heap} (hp : lit_Var.pt t0 K h) : CallH Try.prog 13 #[t0] K h :=
  fn_sound (qs := []) (fn := Try.f13) (ann := lit_Var.ann) (args := [t0]) follows_mixed Try.func13 ((Eq.to_iff (congrFun (congrFun (congrFun (lit_Var.eq) t0) K) h)).mp hp)

end Go.Proofs.Ythpocgekjndlaaa
