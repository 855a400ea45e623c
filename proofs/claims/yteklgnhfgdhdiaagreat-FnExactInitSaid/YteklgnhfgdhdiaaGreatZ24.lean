/- Lemmas for walks: frames known by slots, heaps known by chunks. No conditions of its own. -/
import Derived.Test.YteklgnhfgdhdiaaGreatZ23
namespace Go.Z
set_option linter.unusedVariables false
set_option linter.unusedSimpArgs false
open Go Go.RowKit
section
variable {P:Program} {ops:List Oper} {Q:Exit→Act→World→Prop} {C:World→Prop} {o:Oper} {p:List (Nat×Bool)} {a:Act} {w:World} {σ:List (Nat×Value)} {n d i:Nat}
end
end Go.Z
