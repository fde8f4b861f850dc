/- What each Go function asks, in the primitives of Pt; written by a program of mine (ptgen.py) out of the translation; Lean checks that it is so. -/
import Derived.Test.YthekbpaekopmfaaProg
import Derived.KernelRfl
import Derived.Test.YthekbpaekopmfaaPtO
namespace Go.Proofs.Ythekbpaekopmfaa
open Go.Pt
set_option linter.unusedVariables false
theorem follows_mixed : Try.prog.follows .mixedOrders = true := by kernel_rfl
/-! ### bradawl/bradawllaw05.ArenaRooms: function 3 -/
abbrev bradawllaw05_ArenaRooms.id : FuncId := 3
def bradawllaw05_ArenaRooms.ann : Ann := (.seq none .leaf (.seq none (.seq none .leaf (.cond (.seq none .leaf .leaf) .leaf)) (.seq none (.seq none .leaf (.cond (.seq none .leaf .leaf) .leaf)) (.seq none .leaf (.seq none .leaf (.seq none .leaf (.seq none (.seq none .leaf (.block (.loop [0, 5, 6, 7, 26, 27, 28] (.seq none .leaf (.seq none (.cond .leaf .leaf) (.seq none (.block (.seq none .leaf (.seq none .leaf (.seq none (.seq none .leaf (.seq none .leaf (.cond (.seq none .leaf .leaf) .leaf))) (.seq (some [0, 5, 6, 7, 26, 27, 28]) (.seq none .leaf (.cond .leaf .leaf)) (.seq none .leaf (.cond (.seq none .leaf .leaf) .leaf))))))) .leaf)))))) (.seq none .leaf (.seq none .leaf (.seq none .leaf .leaf))))))))))
def bradawllaw05_ArenaRooms.pt (t0 t1 : Value) (K : Ret) (h : Heap) : Prop :=
 go (CallF Try.prog 7 []) h fun t16 h =>
 go (Un .not t16) h fun t17 h =>
 If t17 (
 K (.bool false) h) (
 go (Len t1) h fun t19 h =>
 go (Bin .int .gtr t19 (.int .i64 60)) h fun t20 h =>
 If t20 (
 K (.bool true) h) (
 go (Cvt .i64 t0) h fun t22 h =>
 go (Bin .int .add (.int .i64 1) t22) h fun t23 h =>
 go (CallF Try.prog 8 [t23]) h fun t25 h =>
 go (Len t1) h fun t27 h =>
 Lp 7 (fun X1 t0_1 t5 t6 t7 t26 t27_1 t28 h =>
 go (Bin .int .lss t28 t27_1) h fun t29 h =>
 If t29 (
 go (Idx 1 t26 t28) h fun t30 h =>
 go (Ld t30) h fun t31 h =>
 go (Bin .int .rem t31 (.int .u8 9)) h fun t35 h =>
 go (Cvt .i64 t35) h fun t36 h =>
 go (MkS 3 8 1 #[(.int .i64 0)] t36 t36) h fun t37 h =>
 go (CallF Try.prog 9 [t6, t37, (.bool false), (.int .i64 0)]) h fun t38 h =>
 go (Ext 0 t38) h fun t39 h =>
 go (Ext 1 t38) h fun t40 h =>
 go (Bin .int .add t7 (.int .i64 3)) h fun t42 h =>
 go (Bin .int .rem t31 (.int .u8 9)) h fun t44 h =>
 go (Cvt .i64 t44) h fun t45 h =>
 go (Bin .int .add t42 t45) h fun t46 h =>
 go (Bin .int .leq t46 t5) h fun t48 h =>
 go (Bin .bool .neq t40 t48) h fun t51 h =>
 If t51 (
 K (.bool false) h) (
 Join 7 (fun J2 =>
 If t40 (
 go (Bin .int .rem t31 (.int .u8 9)) h fun t55 h =>
 go (Cvt .i64 t55) h fun t56 h =>
 go (Bin .int .add (.int .i64 3) t56) h fun t57 h =>
 go (Bin .int .add t7 t57) h fun t58 h =>
 J2 t0_1 t5 t6 t58 t26 t27_1 t28 h) (
 J2 t0_1 t5 t6 t7 t26 t27_1 t28 h)) (fun t0_2 t5_1 t6_1 t7_1 t26_1 t27_2 t28_1 h =>
 go (CallF Try.prog 10 [t6_1]) h fun t60 h =>
 go (Bin .int .neq t60 t7_1) h fun t62 h =>
 go (Gd t62 false (Mv t6_1)) h fun t64 h =>
 go (Gd t62 false (CallF Try.prog 10 [t64])) h fun t65 h =>
 go (Gd t62 false (Mv t5_1)) h fun t66 h =>
 go (Gd t62 false (Bin .int .gtr t65 t66)) h fun t67 h =>
 go (Pick t62 (.bool true) t67) h fun t68 h =>
 If t68 (
 K (.bool false) h) (
 go (Bin .int .add t28_1 (.int .i64 1)) h fun t69 h =>
 X1 t0_2 t5_1 t6_1 t7_1 t26_1 t27_2 t69 h)))) (
 go (Cvt .i64 t0_1) h fun t71 h =>
 go (Un .neg t71) h fun t72 h =>
 go (CallF Try.prog 8 [t72]) h fun t73 h =>
 go (MkS 3 8 1 #[(.int .i64 0)] (.int .i64 300) (.int .i64 300)) h fun t76 h =>
 go (CallF Try.prog 9 [t73, t76, (.bool true), (.int .i64 1)]) h fun t77 h =>
 go (Ext 0 t77) h fun t78 h =>
 go (Ext 1 t77) h fun t79 h =>
 go (Gd t79 true (Mv t73)) h fun t82 h =>
 go (Gd t79 true (CallF Try.prog 10 [t82])) h fun t83 h =>
 go (Gd t79 true (Bin .int .eql t83 (.int .i64 303))) h fun t84 h =>
 go (Pick t79 t84 (.bool false)) h fun t85 h =>
 K t85 h)) [t0, t23, t25, (.int .i64 0), t1, t27, (.int .i64 0)] h))
set_option maxRecDepth 100000 in
theorem bradawllaw05_ArenaRooms.eq : (fun t0 t1 K h => bradawllaw05_ArenaRooms.pt t0 t1 K h : Value → Value → Ret → Heap → Prop) = (fun t0 t1 K h => fnPt Try.prog [] Try.f3 bradawllaw05_ArenaRooms.ann [t0, t1] K h) := by kernel_rfl
theorem bradawllaw05_ArenaRooms.ok {t0 t1 : Value} {K : Ret} {h : Heap} (hp : bradawllaw05_ArenaRooms.pt t0 t1 K h) : CallH Try.prog 3 #[t0, t1] K h :=
  fn_sound (qs := []) (fn := Try.f3) (ann := bradawllaw05_ArenaRooms.ann) (args := [t0, t1]) follows_mixed Try.func3 ((Eq.to_iff (congrFun (congrFun (congrFun (congrFun (bradawllaw05_ArenaRooms.eq) t0) t1) K) h)).mp hp)

/-! ### bradawl/bradawllaw05.fit: function 7 -/
abbrev bradawllaw05_fit.id : FuncId := 7
def bradawllaw05_fit.ann : Ann := (.seq none .leaf (.seq none .leaf (.seq none (.seq none .leaf (.cond (.seq none .leaf .leaf) .leaf)) (.seq none .leaf (.seq none .leaf (.seq none .leaf (.seq none .leaf .leaf)))))))
def bradawllaw05_fit.pt (K : Ret) (h : Heap) : Prop :=
 go (CallF Try.prog 8 [(.int .i64 10)]) h fun t8 h =>
 go (Bin .pointer .eql t8 (.pointer none)) h fun t10 h =>
 If t10 (
 K (.bool false) h) (
 go (BldS 3 1 2 #[(.int .i64 0)] [(0, (.int .i64 1)), (1, (.int .i64 (-2)))]) h fun t13 h =>
 go (CallF Try.prog 9 [t8, t13, (.bool false), (.int .i64 0)]) h fun t14 h =>
 go (Ext 0 t14) h fun t15 h =>
 go (Ext 1 t14) h fun t16 h =>
 go (BldS 3 1 2 #[(.int .i64 0)] [(0, (.int .i64 3)), (1, (.int .i64 4))]) h fun t19 h =>
 go (CallF Try.prog 9 [t8, t19, (.bool true), (.int .i64 2)]) h fun t20 h =>
 go (Ext 0 t20) h fun t21 h =>
 go (Ext 1 t20) h fun t22 h =>
 go (CallF Try.prog 9 [t8, (.slice none 0 0), (.bool false), (.int .i64 0)]) h fun t25 h =>
 go (Ext 0 t25) h fun t26 h =>
 go (Ext 1 t25) h fun t27 h =>
 go (Gd t16 true (Mv t22)) h fun t30 h =>
 go (Pick t16 t30 (.bool false)) h fun t31 h =>
 go (Gd t31 true (Mv t27)) h fun t33 h =>
 go (Gd t31 true (Un .not t33)) h fun t34 h =>
 go (Pick t31 t34 (.bool false)) h fun t35 h =>
 go (Gd t35 true (Mv t15)) h fun t37 h =>
 go (Gd t35 true (Bin .int .eql t37 (.int .i64 0))) h fun t38 h =>
 go (Pick t35 t38 (.bool false)) h fun t39 h =>
 go (Gd t39 true (Mv t21)) h fun t41 h =>
 go (Gd t39 true (Bin .int .eql t41 (.int .i64 5))) h fun t42 h =>
 go (Pick t39 t42 (.bool false)) h fun t43 h =>
 go (Gd t43 true (Mv t8)) h fun t45 h =>
 go (Gd t43 true (CallF Try.prog 10 [t45])) h fun t46 h =>
 go (Gd t43 true (Bin .int .eql t46 (.int .i64 10))) h fun t47 h =>
 go (Pick t43 t47 (.bool false)) h fun t48 h =>
 go (Gd t48 true (Mv t8)) h fun t50 h =>
 go (Gd t48 true (CallF Try.prog 13 [t50])) h fun t51 h =>
 go (Gd t48 true (Bin .int .eql t51 (.int .i64 2))) h fun t52 h =>
 go (Pick t48 t52 (.bool false)) h fun t53 h =>
 go (Gd t53 true (Mv t8)) h fun t55 h =>
 go (Gd t53 true (CallF Try.prog 17 [t55, (.int .i64 5), (.int .i64 1)])) h fun t56 h =>
 go (Gd t53 true (Bin .int .eql t56 (.int .i64 4))) h fun t57 h =>
 go (Pick t53 t57 (.bool false)) h fun t58 h =>
 go (Gd t58 true (Mv t8)) h fun t60 h =>
 go (Gd t58 true (CallF Try.prog 16 [t60, (.int .i64 5)])) h fun t61 h =>
 go (Pick t58 t61 (.bool false)) h fun t62 h =>
 go (Gd t62 true (Mv t8)) h fun t64 h =>
 go (Gd t62 true (CallF Try.prog 14 [t64, (.int .i64 5)])) h fun t65 h =>
 go (Gd t62 true (Bin .int .eql t65 (.int .i64 2))) h fun t66 h =>
 go (Pick t62 t66 (.bool false)) h fun t67 h =>
 K t67 h)
set_option maxRecDepth 100000 in
theorem bradawllaw05_fit.eq : (fun K h => bradawllaw05_fit.pt K h : Ret → Heap → Prop) = (fun K h => fnPt Try.prog [] Try.f7 bradawllaw05_fit.ann [] K h) := by kernel_rfl
theorem bradawllaw05_fit.ok {K : Ret} {h : Heap} (hp : bradawllaw05_fit.pt K h) : CallH Try.prog 7 #[] K h :=
  fn_sound (qs := []) (fn := Try.f7) (ann := bradawllaw05_fit.ann) (args := []) follows_mixed Try.func7 ((Eq.to_iff (congrFun (congrFun (bradawllaw05_fit.eq) K) h)).mp hp)

/-! ### bradawl/arena.New: function 8 -/
abbrev arena_New.id : FuncId := 8
def arena_New.ann : Ann := (.seq none .leaf (.seq none .leaf .leaf))
def arena_New.pt (t0 : Value) (K : Ret) (h : Heap) : Prop :=
 go (MkM) h fun t4 h =>
 go (Bld [(0, 1), (1, 1), (2, 1), (3, 1)] #[(.slice none 0 0), (.int .i64 0), (.int .i64 0), (.map none)] [(1, t0), (3, t4)]) h fun t5 h =>
 go (New (Value.cells t5) 59) h fun t6 h =>
 K t6 h
set_option maxRecDepth 100000 in
theorem arena_New.eq : (fun t0 K h => arena_New.pt t0 K h : Value → Ret → Heap → Prop) = (fun t0 K h => fnPt Try.prog [] Try.f8 arena_New.ann [t0] K h) := by kernel_rfl
theorem arena_New.ok {t0 : Value} {K : Ret} {h : Heap} (hp : arena_New.pt t0 K h) : CallH Try.prog 8 #[t0] K h :=
  fn_sound (qs := []) (fn := Try.f8) (ann := arena_New.ann) (args := [t0]) follows_mixed Try.func8 ((Eq.to_iff (congrFun (congrFun (congrFun (arena_New.eq) t0) K) h)).mp hp)

/-! ### (*bradawl/arena.Arena).Add: function 9 -/
abbrev arena_Arena_Add.id : FuncId := 9
def arena_Arena_Add.ann : Ann := (.seq none .leaf (.seq none .leaf (.seq none (.seq none .leaf (.cond (.seq none .leaf .leaf) .leaf)) (.seq none .leaf (.seq (some [0, 1, 3, 10, 11]) (.seq none .leaf (.cond .leaf .leaf)) (.seq (some [0, 10]) .leaf (.seq none .leaf (.seq none .leaf (.seq none .leaf .leaf)))))))))
def arena_Arena_Add.pt (t0 t1 t2 t3 : Value) (K : Ret) (h : Heap) : Prop :=
 go (NilC t0) h fun t13 h =>
 go (Fld 0 t13) h fun t14 h =>
 go (Ld t14) h fun t15 h =>
 go (Len t15) h fun t16 h =>
 go (NilC t0) h fun t18 h =>
 go (Fld 1 t18) h fun t19 h =>
 go (Ld t19) h fun t20 h =>
 go (Bin .int .gtr t20 (.int .i64 0)) h fun t21 h =>
 go (Gd t21 true (Mv t16)) h fun t23 h =>
 go (Gd t21 true (Bin .int .add t23 (.int .i64 3))) h fun t24 h =>
 go (Gd t21 true (Mv t1)) h fun t25 h =>
 go (Gd t21 true (Len t25)) h fun t26 h =>
 go (Gd t21 true (Bin .int .add t24 t26)) h fun t27 h =>
 go (Gd t21 true (Mv t0)) h fun t28 h =>
 go (Gd t21 true (NilC t28)) h fun t29 h =>
 go (Gd t21 true (Fld 1 t29)) h fun t30 h =>
 go (Gd t21 true (Ld t30)) h fun t31 h =>
 go (Gd t21 true (Bin .int .gtr t27 t31)) h fun t32 h =>
 go (Pick t21 t32 (.bool false)) h fun t33 h =>
 If t33 (
 K (.tuple #[(.int .i64 0), (.bool false)]) h) (
 go (Len t1) h fun t35 h =>
 Join 5 (fun J1 =>
 If t2 (
 go (Bin .int .or t35 (.int .i64 1099511627776)) h fun t38 h =>
 J1 t0 t1 t3 t16 t38 h) (
 J1 t0 t1 t3 t16 t35 h)) (fun t0_1 t1_1 t3_1 t10 t11 h =>
 Join 2 (fun J2 =>
 go (NilC t0_1) h fun t41 h =>
 go (Fld 0 t41) h fun t42 h =>
 (go (Ld t42) h fun t43 h =>
 go (CallF Try.prog 27 [t3_1]) h fun t46 h =>
 go (BldS 3 1 3 #[(.int .i64 0)] [(0, t11), (1, t46), (2, (.int .i64 0))]) h fun t47 h =>
 go (App 3 1 8 #[(.int .i64 0)] t43 t47) h fun t48 h =>
 go (App 3 1 8 #[(.int .i64 0)] t48 t1_1) h fun t50 h =>
 go (NilC t0_1) h fun t51 h =>
 go (Fld 0 t51) h fun t52 h =>
 go (St t52 t50) h fun _ h =>
 J2 t0_1 t10 h) ∧
 (go (CallF Try.prog 27 [t3_1]) h fun t46_1 h =>
 (go (Ld t42) h fun t43_1 h =>
 go (BldS 3 1 3 #[(.int .i64 0)] [(0, t11), (1, t46_1), (2, (.int .i64 0))]) h fun t47_1 h =>
 go (App 3 1 8 #[(.int .i64 0)] t43_1 t47_1) h fun t48_1 h =>
 go (App 3 1 8 #[(.int .i64 0)] t48_1 t1_1) h fun t50_1 h =>
 go (NilC t0_1) h fun t51_1 h =>
 go (Fld 0 t51_1) h fun t52_1 h =>
 go (St t52_1 t50_1) h fun _ h =>
 J2 t0_1 t10 h) ∧
 (go (BldS 3 1 3 #[(.int .i64 0)] [(0, t11), (1, t46_1), (2, (.int .i64 0))]) h fun t47_2 h =>
 go (Ld t42) h fun t43_2 h =>
 go (App 3 1 8 #[(.int .i64 0)] t43_2 t47_2) h fun t48_2 h =>
 go (App 3 1 8 #[(.int .i64 0)] t48_2 t1_1) h fun t50_2 h =>
 go (NilC t0_1) h fun t51_2 h =>
 go (Fld 0 t51_2) h fun t52_2 h =>
 go (St t52_2 t50_2) h fun _ h =>
 J2 t0_1 t10 h))) (fun t0_2 t10_1 h =>
 go (NilC t0_2) h fun t54 h =>
 go (Fld 2 t54) h fun t55 h =>
 go (Ld t55) h fun t56 h =>
 go (Bin .int .add t56 (.int .i64 1)) h fun t57 h =>
 go (NilC t0_2) h fun t58 h =>
 go (Fld 2 t58) h fun t59 h =>
 go (St t59 t57) h fun _ h =>
 go (NilC t0_2) h fun t61 h =>
 go (Fld 3 t61) h fun t62 h =>
 go (Ld t62) h fun t63 h =>
 go (MUpd t63 t10_1 (.bool true)) h fun _ h =>
 K (.tuple #[t10_1, (.bool true)]) h)))
set_option maxRecDepth 100000 in
theorem arena_Arena_Add.eq : (fun t0 t1 t2 t3 K h => arena_Arena_Add.pt t0 t1 t2 t3 K h : Value → Value → Value → Value → Ret → Heap → Prop) = (fun t0 t1 t2 t3 K h => fnPt Try.prog [] Try.f9 arena_Arena_Add.ann [t0, t1, t2, t3] K h) := by kernel_rfl
theorem arena_Arena_Add.ok {t0 t1 t2 t3 : Value} {K : Ret} {h : Heap} (hp : arena_Arena_Add.pt t0 t1 t2 t3 K h) : CallH Try.prog 9 #[t0, t1, t2, t3] K h :=
  fn_sound (qs := []) (fn := Try.f9) (ann := arena_Arena_Add.ann) (args := [t0, t1, t2, t3]) follows_mixed Try.func9 ((Eq.to_iff (congrFun (congrFun (congrFun (congrFun (congrFun (congrFun (arena_Arena_Add.eq) t0) t1) t2) t3) K) h)).mp hp)

/-! ### (*bradawl/arena.Arena).Words: function 10 -/
abbrev arena_Arena_Words.id : FuncId := 10
def arena_Arena_Words.ann : Ann := (.seq none .leaf (.seq none .leaf .leaf))
def arena_Arena_Words.pt (t0 : Value) (K : Ret) (h : Heap) : Prop :=
 go (NilC t0) h fun t4 h =>
 go (Fld 0 t4) h fun t5 h =>
 go (Ld t5) h fun t6 h =>
 go (Len t6) h fun t7 h =>
 K t7 h
set_option maxRecDepth 100000 in
theorem arena_Arena_Words.eq : (fun t0 K h => arena_Arena_Words.pt t0 K h : Value → Ret → Heap → Prop) = (fun t0 K h => fnPt Try.prog [] Try.f10 arena_Arena_Words.ann [t0] K h) := by kernel_rfl
theorem arena_Arena_Words.ok {t0 : Value} {K : Ret} {h : Heap} (hp : arena_Arena_Words.pt t0 K h) : CallH Try.prog 10 #[t0] K h :=
  fn_sound (qs := []) (fn := Try.f10) (ann := arena_Arena_Words.ann) (args := [t0]) follows_mixed Try.func10 ((Eq.to_iff (congrFun (congrFun (congrFun (arena_Arena_Words.eq) t0) K) h)).mp hp)

/-! ### (*bradawl/arena.Arena).Drop: function 11 -/
abbrev arena_Arena_Drop.id : FuncId := 11
def arena_Arena_Drop.ann : Ann := (.seq none .leaf (.seq none (.seq none .leaf (.cond (.seq none .leaf .leaf) .leaf)) (.seq none .leaf (.seq none .leaf (.seq none .leaf (.seq none .leaf .leaf))))))
def arena_Arena_Drop.pt (t0 t1 : Value) (K : Ret) (h : Heap) : Prop :=
 go (CallF Try.prog 21 [t0, t1]) h fun t7 h =>
 go (Un .not t7) h fun t8 h =>
 If t8 (
 K (.bool false) h) (
 go (NilC t0) h fun t10 h =>
 go (Fld 3 t10) h fun t11 h =>
 go (Ld t11) h fun t12 h =>
 go (MDel t12 t1) h fun _ h =>
 go (NilC t0) h fun t15 h =>
 go (Fld 0 t15) h fun t16 h =>
 go (Ld t16) h fun t17 h =>
 go (Bin .int .add t1 (.int .i64 0)) h fun t19 h =>
 go (Idx 1 t17 t19) h fun t20 h =>
 go (Ld t20) h fun t21 h =>
 go (Bin .int .or t21 (.int .i64 2199023255552)) h fun t22 h =>
 go (Idx 1 t17 t19) h fun t23 h =>
 go (St t23 t22) h fun _ h =>
 go (NilC t0) h fun t25 h =>
 go (Fld 2 t25) h fun t26 h =>
 go (Ld t26) h fun t27 h =>
 go (Bin .int .sub t27 (.int .i64 1)) h fun t28 h =>
 go (NilC t0) h fun t29 h =>
 go (Fld 2 t29) h fun t30 h =>
 go (St t30 t28) h fun _ h =>
 K (.bool true) h)
set_option maxRecDepth 100000 in
theorem arena_Arena_Drop.eq : (fun t0 t1 K h => arena_Arena_Drop.pt t0 t1 K h : Value → Value → Ret → Heap → Prop) = (fun t0 t1 K h => fnPt Try.prog [] Try.f11 arena_Arena_Drop.ann [t0, t1] K h) := by kernel_rfl
theorem arena_Arena_Drop.ok {t0 t1 : Value} {K : Ret} {h : Heap} (hp : arena_Arena_Drop.pt t0 t1 K h) : CallH Try.prog 11 #[t0, t1] K h :=
  fn_sound (qs := []) (fn := Try.f11) (ann := arena_Arena_Drop.ann) (args := [t0, t1]) follows_mixed Try.func11 ((Eq.to_iff (congrFun (congrFun (congrFun (congrFun (arena_Arena_Drop.eq) t0) t1) K) h)).mp hp)

/-! ### (*bradawl/arena.Arena).Count: function 13 -/
abbrev arena_Arena_Count.id : FuncId := 13
def arena_Arena_Count.ann : Ann := (.seq none .leaf (.seq none .leaf .leaf))
def arena_Arena_Count.pt (t0 : Value) (K : Ret) (h : Heap) : Prop :=
 go (NilC t0) h fun t4 h =>
 go (Fld 2 t4) h fun t5 h =>
 go (Ld t5) h fun t6 h =>
 K t6 h
set_option maxRecDepth 100000 in
theorem arena_Arena_Count.eq : (fun t0 K h => arena_Arena_Count.pt t0 K h : Value → Ret → Heap → Prop) = (fun t0 K h => fnPt Try.prog [] Try.f13 arena_Arena_Count.ann [t0] K h) := by kernel_rfl
theorem arena_Arena_Count.ok {t0 : Value} {K : Ret} {h : Heap} (hp : arena_Arena_Count.pt t0 K h) : CallH Try.prog 13 #[t0] K h :=
  fn_sound (qs := []) (fn := Try.f13) (ann := arena_Arena_Count.ann) (args := [t0]) follows_mixed Try.func13 ((Eq.to_iff (congrFun (congrFun (congrFun (arena_Arena_Count.eq) t0) K) h)).mp hp)

/-! ### (*bradawl/arena.Arena).Glue: function 14 -/
abbrev arena_Arena_Glue.id : FuncId := 14
def arena_Arena_Glue.ann : Ann := (.seq none .leaf (.seq none .leaf .leaf))
def arena_Arena_Glue.pt (t0 t1 : Value) (K : Ret) (h : Heap) : Prop :=
 go (CallF Try.prog 28 [t0, t1, (.int .i64 1)]) h fun t7 h =>
 K t7 h
set_option maxRecDepth 100000 in
theorem arena_Arena_Glue.eq : (fun t0 t1 K h => arena_Arena_Glue.pt t0 t1 K h : Value → Value → Ret → Heap → Prop) = (fun t0 t1 K h => fnPt Try.prog [] Try.f14 arena_Arena_Glue.ann [t0, t1] K h) := by kernel_rfl
theorem arena_Arena_Glue.ok {t0 t1 : Value} {K : Ret} {h : Heap} (hp : arena_Arena_Glue.pt t0 t1 K h) : CallH Try.prog 14 #[t0, t1] K h :=
  fn_sound (qs := []) (fn := Try.f14) (ann := arena_Arena_Glue.ann) (args := [t0, t1]) follows_mixed Try.func14 ((Eq.to_iff (congrFun (congrFun (congrFun (congrFun (arena_Arena_Glue.eq) t0) t1) K) h)).mp hp)

/-! ### (*bradawl/arena.Arena).Len: function 15 -/
abbrev arena_Arena_Len.id : FuncId := 15
def arena_Arena_Len.ann : Ann := (.seq none .leaf (.seq none (.seq none .leaf (.cond (.seq none .leaf .leaf) .leaf)) (.seq none .leaf .leaf)))
def arena_Arena_Len.pt (t0 t1 : Value) (K : Ret) (h : Heap) : Prop :=
 go (CallF Try.prog 21 [t0, t1]) h fun t7 h =>
 go (Un .not t7) h fun t8 h =>
 If t8 (
 K (.int .i64 0) h) (
 go (NilC t0) h fun t10 h =>
 go (Fld 0 t10) h fun t11 h =>
 go (Ld t11) h fun t12 h =>
 go (Bin .int .add t1 (.int .i64 0)) h fun t14 h =>
 go (Idx 1 t12 t14) h fun t15 h =>
 go (Ld t15) h fun t16 h =>
 go (Bin .int .and t16 (.int .i64 1099511627775)) h fun t17 h =>
 K t17 h)
set_option maxRecDepth 100000 in
theorem arena_Arena_Len.eq : (fun t0 t1 K h => arena_Arena_Len.pt t0 t1 K h : Value → Value → Ret → Heap → Prop) = (fun t0 t1 K h => fnPt Try.prog [] Try.f15 arena_Arena_Len.ann [t0, t1] K h) := by kernel_rfl
theorem arena_Arena_Len.ok {t0 t1 : Value} {K : Ret} {h : Heap} (hp : arena_Arena_Len.pt t0 t1 K h) : CallH Try.prog 15 #[t0, t1] K h :=
  fn_sound (qs := []) (fn := Try.f15) (ann := arena_Arena_Len.ann) (args := [t0, t1]) follows_mixed Try.func15 ((Eq.to_iff (congrFun (congrFun (congrFun (congrFun (arena_Arena_Len.eq) t0) t1) K) h)).mp hp)

/-! ### (*bradawl/arena.Arena).Learned: function 16 -/
abbrev arena_Arena_Learned.id : FuncId := 16
def arena_Arena_Learned.ann : Ann := (.seq none .leaf (.seq none .leaf .leaf))
def arena_Arena_Learned.pt (t0 t1 : Value) (K : Ret) (h : Heap) : Prop :=
 go (CallF Try.prog 21 [t0, t1]) h fun t7 h =>
 go (Gd t7 true (Mv t0)) h fun t9 h =>
 go (Gd t7 true (NilC t9)) h fun t10 h =>
 go (Gd t7 true (Fld 0 t10)) h fun t11 h =>
 go (Gd t7 true (Ld t11)) h fun t12 h =>
 go (Gd t7 true (Mv t1)) h fun t13 h =>
 go (Gd t7 true (Bin .int .add t13 (.int .i64 0))) h fun t14 h =>
 go (Gd t7 true (Idx 1 t12 t14)) h fun t15 h =>
 go (Gd t7 true (Ld t15)) h fun t16 h =>
 go (Gd t7 true (Bin .int .and t16 (.int .i64 1099511627776))) h fun t17 h =>
 go (Gd t7 true (Bin .int .neq t17 (.int .i64 0))) h fun t18 h =>
 go (Pick t7 t18 (.bool false)) h fun t19 h =>
 K t19 h
set_option maxRecDepth 100000 in
theorem arena_Arena_Learned.eq : (fun t0 t1 K h => arena_Arena_Learned.pt t0 t1 K h : Value → Value → Ret → Heap → Prop) = (fun t0 t1 K h => fnPt Try.prog [] Try.f16 arena_Arena_Learned.ann [t0, t1] K h) := by kernel_rfl
theorem arena_Arena_Learned.ok {t0 t1 : Value} {K : Ret} {h : Heap} (hp : arena_Arena_Learned.pt t0 t1 K h) : CallH Try.prog 16 #[t0, t1] K h :=
  fn_sound (qs := []) (fn := Try.f16) (ann := arena_Arena_Learned.ann) (args := [t0, t1]) follows_mixed Try.func16 ((Eq.to_iff (congrFun (congrFun (congrFun (congrFun (arena_Arena_Learned.eq) t0) t1) K) h)).mp hp)

/-! ### (*bradawl/arena.Arena).Lit: function 17 -/
abbrev arena_Arena_Lit.id : FuncId := 17
def arena_Arena_Lit.ann : Ann := (.seq none .leaf (.seq none (.seq none .leaf (.cond (.seq none .leaf .leaf) .leaf)) (.seq none .leaf .leaf)))
def arena_Arena_Lit.pt (t0 t1 t2 : Value) (K : Ret) (h : Heap) : Prop :=
 go (Bin .int .lss t2 (.int .i64 0)) h fun t8 h =>
 go (Gd t8 false (Mv t2)) h fun t10 h =>
 go (Gd t8 false (Mv t0)) h fun t11 h =>
 go (Gd t8 false (Mv t1)) h fun t12 h =>
 go (Gd t8 false (CallF Try.prog 15 [t11, t12])) h fun t13 h =>
 go (Gd t8 false (Bin .int .geq t10 t13)) h fun t14 h =>
 go (Pick t8 (.bool true) t14) h fun t15 h =>
 If t15 (
 K (.int .i64 0) h) (
 go (NilC t0) h fun t17 h =>
 go (Fld 0 t17) h fun t18 h =>
 go (Ld t18) h fun t19 h =>
 go (Bin .int .add t1 (.int .i64 3)) h fun t21 h =>
 go (Bin .int .add t21 t2) h fun t23 h =>
 go (Idx 1 t19 t23) h fun t24 h =>
 go (Ld t24) h fun t25 h =>
 K t25 h)
set_option maxRecDepth 100000 in
theorem arena_Arena_Lit.eq : (fun t0 t1 t2 K h => arena_Arena_Lit.pt t0 t1 t2 K h : Value → Value → Value → Ret → Heap → Prop) = (fun t0 t1 t2 K h => fnPt Try.prog [] Try.f17 arena_Arena_Lit.ann [t0, t1, t2] K h) := by kernel_rfl
theorem arena_Arena_Lit.ok {t0 t1 t2 : Value} {K : Ret} {h : Heap} (hp : arena_Arena_Lit.pt t0 t1 t2 K h) : CallH Try.prog 17 #[t0, t1, t2] K h :=
  fn_sound (qs := []) (fn := Try.f17) (ann := arena_Arena_Lit.ann) (args := [t0, t1, t2]) follows_mixed Try.func17 ((Eq.to_iff (congrFun (congrFun (congrFun (congrFun (congrFun (arena_Arena_Lit.eq) t0) t1) t2) K) h)).mp hp)

/-! ### (*bradawl/arena.Arena).Has: function 21 -/
abbrev arena_Arena_Has.id : FuncId := 21
def arena_Arena_Has.ann : Ann := (.seq none .leaf (.seq none .leaf .leaf))
def arena_Arena_Has.pt (t0 t1 : Value) (K : Ret) (h : Heap) : Prop :=
 go (NilC t0) h fun t6 h =>
 go (Fld 3 t6) h fun t7 h =>
 go (Ld t7) h fun t8 h =>
 go (Lk (.bool false) t8 t1 false) h fun t10 h =>
 K t10 h
set_option maxRecDepth 100000 in
theorem arena_Arena_Has.eq : (fun t0 t1 K h => arena_Arena_Has.pt t0 t1 K h : Value → Value → Ret → Heap → Prop) = (fun t0 t1 K h => fnPt Try.prog [] Try.f21 arena_Arena_Has.ann [t0, t1] K h) := by kernel_rfl
theorem arena_Arena_Has.ok {t0 t1 : Value} {K : Ret} {h : Heap} (hp : arena_Arena_Has.pt t0 t1 K h) : CallH Try.prog 21 #[t0, t1] K h :=
  fn_sound (qs := []) (fn := Try.f21) (ann := arena_Arena_Has.ann) (args := [t0, t1]) follows_mixed Try.func21 ((Eq.to_iff (congrFun (congrFun (congrFun (congrFun (arena_Arena_Has.eq) t0) t1) K) h)).mp hp)

/-! ### (*bradawl/arena.Arena).Lits: function 22 -/
abbrev arena_Arena_Lits.id : FuncId := 22
def arena_Arena_Lits.ann : Ann := (.seq none .leaf (.seq none .leaf (.seq none (.seq none .leaf (.cond (.seq none .leaf .leaf) .leaf)) (.seq none .leaf (.seq none .leaf .leaf)))))
def arena_Arena_Lits.pt (t0 t1 : Value) (K : Ret) (h : Heap) : Prop :=
 go (CallF Try.prog 15 [t0, t1]) h fun t9 h =>
 go (Bin .int .eql t9 (.int .i64 0)) h fun t11 h =>
 If t11 (
 K (.slice none 0 0) h) (
 go (Bin .int .add t1 (.int .i64 3)) h fun t13 h =>
 go (NilC t0) h fun t15 h =>
 go (Fld 0 t15) h fun t16 h =>
 go (Ld t16) h fun t17 h =>
 go (Bin .int .add t13 t9) h fun t21 h =>
 go (Bin .int .add t13 t9) h fun t24 h =>
 go (Slc 1 t17 (some t13) (some t21) (some t24)) h fun t25 h =>
 go (App 3 1 8 #[(.int .i64 0)] (.slice none 0 0) t25) h fun t26 h =>
 K t26 h)
set_option maxRecDepth 100000 in
theorem arena_Arena_Lits.eq : (fun t0 t1 K h => arena_Arena_Lits.pt t0 t1 K h : Value → Value → Ret → Heap → Prop) = (fun t0 t1 K h => fnPt Try.prog [] Try.f22 arena_Arena_Lits.ann [t0, t1] K h) := by kernel_rfl
theorem arena_Arena_Lits.ok {t0 t1 : Value} {K : Ret} {h : Heap} (hp : arena_Arena_Lits.pt t0 t1 K h) : CallH Try.prog 22 #[t0, t1] K h :=
  fn_sound (qs := []) (fn := Try.f22) (ann := arena_Arena_Lits.ann) (args := [t0, t1]) follows_mixed Try.func22 ((Eq.to_iff (congrFun (congrFun (congrFun (congrFun (arena_Arena_Lits.eq) t0) t1) K) h)).mp hp)

/-! ### (*bradawl/arena.Arena).Swap: function 23 -/
abbrev arena_Arena_Swap.id : FuncId := 23
def arena_Arena_Swap.ann : Ann := (.seq none .leaf (.seq none (.seq none .leaf (.cond (.seq none .leaf .leaf) .leaf)) (.seq none .leaf (.seq none .leaf (.seq none .leaf .leaf)))))
def arena_Arena_Swap.pt (t0 t1 t2 t3 : Value) (K : Ret) (h : Heap) : Prop :=
 go (CallF Try.prog 17 [t0, t1, t2]) h fun t13 h =>
 go (Bin .int .eql t13 (.int .i64 0)) h fun t14 h =>
 go (Gd t14 false (Mv t0)) h fun t16 h =>
 go (Gd t14 false (Mv t1)) h fun t17 h =>
 go (Gd t14 false (Mv t3)) h fun t18 h =>
 go (Gd t14 false (CallF Try.prog 17 [t16, t17, t18])) h fun t19 h =>
 go (Gd t14 false (Bin .int .eql t19 (.int .i64 0))) h fun t20 h =>
 go (Pick t14 (.bool true) t20) h fun t21 h =>
 If t21 (
 K (.bool false) h) (
 go (NilC t0) h fun t23 h =>
 go (Fld 0 t23) h fun t24 h =>
 go (Ld t24) h fun t25 h =>
 go (Bin .int .add t1 (.int .i64 3)) h fun t27 h =>
 go (Slc 1 t25 (some t27) none none) h fun t28 h =>
 go (Idx 1 t28 t3) h fun t35 h =>
 go (Ld t35) h fun t36 h =>
 go (Idx 1 t28 t2) h fun t39 h =>
 go (Ld t39) h fun t40 h =>
 go (Idx 1 t28 t2) h fun t41 h =>
 go (St t41 t36) h fun _ h =>
 go (Idx 1 t28 t3) h fun t42 h =>
 go (St t42 t40) h fun _ h =>
 K (.bool true) h)
set_option maxRecDepth 100000 in
theorem arena_Arena_Swap.eq : (fun t0 t1 t2 t3 K h => arena_Arena_Swap.pt t0 t1 t2 t3 K h : Value → Value → Value → Value → Ret → Heap → Prop) = (fun t0 t1 t2 t3 K h => fnPt Try.prog [] Try.f23 arena_Arena_Swap.ann [t0, t1, t2, t3] K h) := by kernel_rfl
theorem arena_Arena_Swap.ok {t0 t1 t2 t3 : Value} {K : Ret} {h : Heap} (hp : arena_Arena_Swap.pt t0 t1 t2 t3 K h) : CallH Try.prog 23 #[t0, t1, t2, t3] K h :=
  fn_sound (qs := []) (fn := Try.f23) (ann := arena_Arena_Swap.ann) (args := [t0, t1, t2, t3]) follows_mixed Try.func23 ((Eq.to_iff (congrFun (congrFun (congrFun (congrFun (congrFun (congrFun (arena_Arena_Swap.eq) t0) t1) t2) t3) K) h)).mp hp)

/-! ### (*bradawl/arena.Arena).SetGlue: function 24 -/
abbrev arena_Arena_SetGlue.id : FuncId := 24
def arena_Arena_SetGlue.ann : Ann := (.seq none .leaf (.seq none .leaf .leaf))
def arena_Arena_SetGlue.pt (t0 t1 t2 : Value) (K : Ret) (h : Heap) : Prop :=
 go (CallF Try.prog 32 [t0, t1, (.int .i64 1), t2]) h fun t10 h =>
 K t10 h
set_option maxRecDepth 100000 in
theorem arena_Arena_SetGlue.eq : (fun t0 t1 t2 K h => arena_Arena_SetGlue.pt t0 t1 t2 K h : Value → Value → Value → Ret → Heap → Prop) = (fun t0 t1 t2 K h => fnPt Try.prog [] Try.f24 arena_Arena_SetGlue.ann [t0, t1, t2] K h) := by kernel_rfl
theorem arena_Arena_SetGlue.ok {t0 t1 t2 : Value} {K : Ret} {h : Heap} (hp : arena_Arena_SetGlue.pt t0 t1 t2 K h) : CallH Try.prog 24 #[t0, t1, t2] K h :=
  fn_sound (qs := []) (fn := Try.f24) (ann := arena_Arena_SetGlue.ann) (args := [t0, t1, t2]) follows_mixed Try.func24 ((Eq.to_iff (congrFun (congrFun (congrFun (congrFun (congrFun (arena_Arena_SetGlue.eq) t0) t1) t2) K) h)).mp hp)

/-! ### (*bradawl/arena.Arena).Uses: function 25 -/
abbrev arena_Arena_Uses.id : FuncId := 25
def arena_Arena_Uses.ann : Ann := (.seq none .leaf (.seq none .leaf .leaf))
def arena_Arena_Uses.pt (t0 t1 : Value) (K : Ret) (h : Heap) : Prop :=
 go (CallF Try.prog 28 [t0, t1, (.int .i64 2)]) h fun t7 h =>
 K t7 h
set_option maxRecDepth 100000 in
theorem arena_Arena_Uses.eq : (fun t0 t1 K h => arena_Arena_Uses.pt t0 t1 K h : Value → Value → Ret → Heap → Prop) = (fun t0 t1 K h => fnPt Try.prog [] Try.f25 arena_Arena_Uses.ann [t0, t1] K h) := by kernel_rfl
theorem arena_Arena_Uses.ok {t0 t1 : Value} {K : Ret} {h : Heap} (hp : arena_Arena_Uses.pt t0 t1 K h) : CallH Try.prog 25 #[t0, t1] K h :=
  fn_sound (qs := []) (fn := Try.f25) (ann := arena_Arena_Uses.ann) (args := [t0, t1]) follows_mixed Try.func25 ((Eq.to_iff (congrFun (congrFun (congrFun (congrFun (arena_Arena_Uses.eq) t0) t1) K) h)).mp hp)

/-! ### (*bradawl/arena.Arena).SetUses: function 26 -/
abbrev arena_Arena_SetUses.id : FuncId := 26
def arena_Arena_SetUses.ann : Ann := (.seq none .leaf (.seq none .leaf .leaf))
def arena_Arena_SetUses.pt (t0 t1 t2 : Value) (K : Ret) (h : Heap) : Prop :=
 go (CallF Try.prog 32 [t0, t1, (.int .i64 2), t2]) h fun t10 h =>
 K t10 h
set_option maxRecDepth 100000 in
theorem arena_Arena_SetUses.eq : (fun t0 t1 t2 K h => arena_Arena_SetUses.pt t0 t1 t2 K h : Value → Value → Value → Ret → Heap → Prop) = (fun t0 t1 t2 K h => fnPt Try.prog [] Try.f26 arena_Arena_SetUses.ann [t0, t1, t2] K h) := by kernel_rfl
theorem arena_Arena_SetUses.ok {t0 t1 t2 : Value} {K : Ret} {h : Heap} (hp : arena_Arena_SetUses.pt t0 t1 t2 K h) : CallH Try.prog 26 #[t0, t1, t2] K h :=
  fn_sound (qs := []) (fn := Try.f26) (ann := arena_Arena_SetUses.ann) (args := [t0, t1, t2]) follows_mixed Try.func26 ((Eq.to_iff (congrFun (congrFun (congrFun (congrFun (congrFun (arena_Arena_SetUses.eq) t0) t1) t2) K) h)).mp hp)

/-! ### bradawl/arena.fit: function 27 -/
abbrev arena_fit.id : FuncId := 27
def arena_fit.ann : Ann := (.seq none .leaf (.seq none .leaf .leaf))
def arena_fit.pt (t0 : Value) (K : Ret) (h : Heap) : Prop :=
 go (MaxV [t0, (.int .i64 0)]) h fun t4 h =>
 go (MinV [t4, (.int .i64 2147483647)]) h fun t5 h =>
 K t5 h
set_option maxRecDepth 100000 in
theorem arena_fit.eq : (fun t0 K h => arena_fit.pt t0 K h : Value → Ret → Heap → Prop) = (fun t0 K h => fnPt Try.prog [] Try.f27 arena_fit.ann [t0] K h) := by kernel_rfl
theorem arena_fit.ok {t0 : Value} {K : Ret} {h : Heap} (hp : arena_fit.pt t0 K h) : CallH Try.prog 27 #[t0] K h :=
  fn_sound (qs := []) (fn := Try.f27) (ann := arena_fit.ann) (args := [t0]) follows_mixed Try.func27 ((Eq.to_iff (congrFun (congrFun (congrFun (arena_fit.eq) t0) K) h)).mp hp)

/-! ### (*bradawl/arena.Arena).get: function 28 -/
abbrev arena_Arena_get.id : FuncId := 28
def arena_Arena_get.ann : Ann := (.seq none .leaf (.seq none (.seq none .leaf (.cond (.seq none .leaf .leaf) .leaf)) (.seq none .leaf .leaf)))
def arena_Arena_get.pt (t0 t1 t2 : Value) (K : Ret) (h : Heap) : Prop :=
 go (CallF Try.prog 21 [t0, t1]) h fun t9 h =>
 go (Un .not t9) h fun t10 h =>
 If t10 (
 K (.int .i64 0) h) (
 go (NilC t0) h fun t12 h =>
 go (Fld 0 t12) h fun t13 h =>
 go (Ld t13) h fun t14 h =>
 go (Bin .int .add t1 t2) h fun t17 h =>
 go (Idx 1 t14 t17) h fun t18 h =>
 go (Ld t18) h fun t19 h =>
 K t19 h)
set_option maxRecDepth 100000 in
theorem arena_Arena_get.eq : (fun t0 t1 t2 K h => arena_Arena_get.pt t0 t1 t2 K h : Value → Value → Value → Ret → Heap → Prop) = (fun t0 t1 t2 K h => fnPt Try.prog [] Try.f28 arena_Arena_get.ann [t0, t1, t2] K h) := by kernel_rfl
theorem arena_Arena_get.ok {t0 t1 t2 : Value} {K : Ret} {h : Heap} (hp : arena_Arena_get.pt t0 t1 t2 K h) : CallH Try.prog 28 #[t0, t1, t2] K h :=
  fn_sound (qs := []) (fn := Try.f28) (ann := arena_Arena_get.ann) (args := [t0, t1, t2]) follows_mixed Try.func28 ((Eq.to_iff (congrFun (congrFun (congrFun (congrFun (congrFun (arena_Arena_get.eq) t0) t1) t2) K) h)).mp hp)

/-! ### (*bradawl/arena.Arena).set: function 32 -/
abbrev arena_Arena_set.id : FuncId := 32
def arena_Arena_set.ann : Ann := (.seq none .leaf (.seq none (.seq none .leaf (.cond (.seq none .leaf .leaf) .leaf)) (.seq (some []) .leaf (.seq none .leaf .leaf))))
def arena_Arena_set.pt (t0 t1 t2 t3 : Value) (K : Ret) (h : Heap) : Prop :=
 go (CallF Try.prog 21 [t0, t1]) h fun t11 h =>
 go (Un .not t11) h fun t12 h =>
 If t12 (
 K (.bool false) h) (
 Join 0 (fun J1 =>
 go (NilC t0) h fun t14 h =>
 go (Fld 0 t14) h fun t15 h =>
 go (Bin .int .add t1 t2) h fun t19 h =>
 (go (Ld t15) h fun t16 h =>
 go (CallF Try.prog 27 [t3]) h fun t21 h =>
 go (Idx 1 t16 t19) h fun t22 h =>
 go (St t22 t21) h fun _ h =>
 J1 h) ∧
 (go (CallF Try.prog 27 [t3]) h fun t21_1 h =>
 go (Ld t15) h fun t16_1 h =>
 go (Idx 1 t16_1 t19) h fun t22_1 h =>
 go (St t22_1 t21_1) h fun _ h =>
 J1 h)) (fun  h =>
 K (.bool true) h))
set_option maxRecDepth 100000 in
theorem arena_Arena_set.eq : (fun t0 t1 t2 t3 K h => arena_Arena_set.pt t0 t1 t2 t3 K h : Value → Value → Value → Value → Ret → Heap → Prop) = (fun t0 t1 t2 t3 K h => fnPt Try.prog [] Try.f32 arena_Arena_set.ann [t0, t1, t2, t3] K h) := by kernel_rfl
theorem arena_Arena_set.ok {t0 t1 t2 t3 : Value} {K : Ret} {h : Heap} (hp : arena_Arena_set.pt t0 t1 t2 t3 K h) : CallH Try.prog 32 #[t0, t1, t2, t3] K h :=
  fn_sound (qs := []) (fn := Try.f32) (ann := arena_Arena_set.ann) (args := [t0, t1, t2, t3]) follows_mixed Try.func32 ((Eq.to_iff (congrFun (congrFun (congrFun (congrFun (congrFun (congrFun (arena_Arena_set.eq) t0) t1) t2) t3) K) h)).mp hp)

end Go.Proofs.Ythekbpaekopmfaa
