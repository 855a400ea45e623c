/- Lemmas for walks: frames known by slots, heaps known by chunks. No conditions of its own. -/
import Derived.Test.YteklgnhfgdhdiaaGreatZ25
namespace Go.Z
set_option linter.unusedVariables false
set_option linter.unusedSimpArgs false
open Go Go.RowKit
/-- A row of one's own without what its element i holds. -/
def OwnH {α:Type} (L:Lay α) (E:TypeId) (A:Option Addr) (cap:Nat) (xs:List α) (i:Nat) (c:Chunk):Prop :=
  ∃ (b:Nat) (cs:Array Value) (ess:List (List Value)) (c1 c2:Chunk) (es:List Value),A=some ⟨b,0,none⟩∧c=(b,.cells cs E (0,0)) :: (c1++c2)∧ess[i]? = some es∧(∀ e∈ess,e.length=L.size)∧(∀ y es' d',L.own y es' d'→AllOwn L (xs.set i y) (ess.set i es') (c1++d'++c2)) ∧
    cs.toList.take (xs.length*L.size)=ess.flatten∧cs.size=cap*L.size∧xs.length≤cap∧cap≤maxLen
theorem OwnH.some_ {α:Type} {L:Lay α} {E:TypeId} {A:Option Addr} {cap i:Nat} {xs:List α} {c:Chunk} (h:OwnH L E A cap xs i c):∃ b off,A=some ⟨b,off,none⟩:=by
  obtain ⟨b,_,_,_,_,_,rfl,_⟩:=h;exact ⟨b,0,rfl⟩
section
variable {M:List Nat} {w0 w:World} {Δ Γ:List (Nat×Chunk)}
end
section steps
variable {P:Program} {ops:List Oper} {Q:Exit→Act→World→Prop} {o:Oper} {rest:List Oper} {a:Act} {w w':World} {σ:List (Nat×Value)} {n d:Nat} {v:Value} {M:List Nat} {w0:World} {Δ Γ:List (Nat×Chunk)}
end steps
end Go.Z
