/- Lemmas for walks: frames known by slots, heaps known by chunks. No conditions of its own. -/
import Derived.Test.YteklgnhfgdhdiaaGreatZ16
namespace Go.Z
set_option linter.unusedVariables false
set_option linter.unusedSimpArgs false
open Go Go.RowKit
section steps
variable {P:Program} {ops:List Oper} {Q:Exit→Act→World→Prop} {o:Oper} {rest:List Oper} {a:Act} {w w':World} {σ:List (Nat×Value)} {n d:Nat} {M:List Nat} {w0:World} {Δ Γ:List (Nat×Chunk)}
/-- A LOOK WHETHER A POINTER IS NONE. -/
theorem snk {x:Operand} {ad:Addr} (ho:o.op = .nilCheck x) (hk:Kn σ n a) (hd:o.dst=some d) (hx:rho? σ x=some (.pointer (some ad))) (hc:chk ops n σ o d=true)
    (next:∀ a,Kn ((d,.pointer (some ad)) :: σ) n a→wpList P ops.toArray Q rest a w):wpList P ops.toArray Q (o :: rest) a w :=
  sv _ hk hd hc (by simp [execOp,ho,rho?_eq hx]) next
end steps
end Go.Z
