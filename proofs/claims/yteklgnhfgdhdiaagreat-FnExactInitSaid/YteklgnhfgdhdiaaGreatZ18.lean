/- Lemmas for walks: frames known by slots, heaps known by chunks. No conditions of its own. -/
import Derived.Test.YteklgnhfgdhdiaaGreatZ17
import Derived.Lib.Bytealg
namespace Go.Z
set_option linter.unusedVariables false
set_option linter.unusedSimpArgs false
open Go Go.RowKit
section
variable {M:List Nat} {w0 w:World} {Δ Γ:List (Nat×Chunk)}
end
section steps
variable {P:Program} {ops:List Oper} {Q:Exit→Act→World→Prop} {o:Oper} {rest:List Oper} {a:Act} {w:World} {σ:List (Nat×Value)} {n d:Nat} {v:Value}
end steps
end Go.Z
