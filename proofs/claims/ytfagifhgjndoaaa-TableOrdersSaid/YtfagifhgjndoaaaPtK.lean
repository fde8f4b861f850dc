/- Short names for writing primitives down. No condition. -/
import Derived.Test.YtfagifhgjndoaaaPtJ
namespace Go.Pt
set_option linter.unusedVariables false
set_option linter.unusedSimpArgs false
abbrev go (p : Ret → Heap → Prop) (h : Heap) (K : Ret) : Prop := p K h
abbrev Mv (v : Value) (K : Ret) (h : Heap) : Prop := K v h
end Go.Pt
