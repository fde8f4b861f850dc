/- Short names for writing primitives down. No condition. -/
import Derived.Test.YthekbpaekopmfaaPtJ
namespace Go.Pt
set_option linter.unusedVariables false
set_option linter.unusedSimpArgs false
def go (p : Ret → Heap → Prop) (h : Heap) (K : Ret) : Prop := p K h
abbrev Mv (v : Value) (K : Ret) (h : Heap) : Prop := K v h
def ent (h : Heap) (X : Heap → Prop) : Prop := X h
end Go.Pt
