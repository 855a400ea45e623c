/- Lemmas for walks: frames known by slots, heaps known by chunks. No conditions of its own. -/
import Derived.Test.YteklgnhfgdhdiaaGreatZ24
import Derived.RangeFuncRecord
import Derived.RangeFuncSeq
import Derived.RangeFuncLeaves
import Derived.Sort.LoopGhostIn
import Derived.OrdersIn
namespace Go.Z
set_option linter.unusedVariables false
set_option linter.unusedSimpArgs false
open Go Go.RowKit
def _root_.Go.Obj.isCellsZ:Obj→Bool
  | .cells ..=>true
  | _=>false
/-! Code in a round of a range over a function, under the fence that lets all in. -/
section
variable {P:Program} {r m:Nat} {Q:Exit→Act→World→Prop} {ops:Array Oper}
end
section
variable {P:Program} {r m:Nat} {ops:List Oper} {Q:Exit→Act→World→Prop} {M:List Nat} {w0:World} {Δ Γc:List (Nat×Chunk)}
end
section
variable {P:Program} {F:Fence} {m:Nat} {Q:Exit→Act→World→Prop} {a:Act} {w:World} {σ:List (Nat×Value)} {n:Nat}
theorem Kn.frame (h:Kn σ n a):Kn σ n { tmps:=a.tmps,defers:=[] }:=⟨rfl,h.size,h.slot⟩
end
/-! Behind the loop: a mark among the deferred calls. -/
section
variable {P:Program} {ops:Array Oper} {Q:Exit→Act→World→Prop} {ds:List Deferred}
end
/-! Chunks that what is no cells leaves alone. -/
def Stay (w0:World) (c:Chunk):Prop:=∀ x∈c,x.1<w0.heap.size∨x.2.isCellsZ=true
def StayL (w0:World) (Γ:List (Nat×Chunk)):Prop:=∀ x∈Γ,Stay w0 x.2
theorem StayL.nil (w0:World):StayL w0 []:=fun _ h=>by simp at h
theorem StayL.cons {w0:World} {k:Nat} {c:Chunk} {Γ:List (Nat×Chunk)} (h:Stay w0 c) (r:StayL w0 Γ):StayL w0 ((k,c) :: Γ):=fun x hx=>by
  rcases List.mem_cons.1 hx with rfl | hx
  · exact h
  · exact r x hx
theorem Stay.nil (w0:World):Stay w0 []:=fun _ h=>by simp at h
theorem Stay.box {w0:World} {b:Nat} {cs:Array Value} {t:TypeId} {fr:Nat×Nat}:Stay w0 [(b,.cells cs t fr)]:=fun x hx=>by rw [List.mem_singleton.1 hx];exact .inr rfl
theorem Stay.has {w0:World} {c:Chunk} (h:Has w0 c):Stay w0 c:=fun x hx=>.inl (Array.getElem?_eq_some_iff.1 (h x hx)).1
theorem Stay.app {w0:World} {c d:Chunk} (h:Stay w0 c) (k:Stay w0 d):Stay w0 (c++d):=fun x hx=>by
  rcases List.mem_append.1 hx with hx | hx
  · exact h x hx
  · exact k x hx
/-- What is one's own is in cells alone. -/
def LC {α:Type} (L:Lay α):Prop:=∀ x es c,L.own x es c→∀ y∈c,y.2.isCellsZ=true
theorem LC.flat {α:Type} {n:Nat} {enc:α→List Value} {h1:∀ x,(enc x).length=n} {h2:∀ x,∀ u∈enc x,u.oneCell'=true}:LC (Lay.flat n enc h1 h2):=fun x es c h y hy=>by
  rw [h.2] at hy;simp at hy
theorem AllOwn.lc {α:Type} {L:Lay α} (hL:LC L) {xs:List α} {ess:List (List Value)} {c:Chunk} (h:AllOwn L xs ess c):∀ y∈c,y.2.isCellsZ=true:=by
  induction h with
  | nil=>simp
  | cons h1 _ ih =>
    intro y hy
    rcases List.mem_append.1 hy with hy | hy
    · exact hL _ _ _ h1 y hy
    · exact ih y hy
theorem Row.lc {α:Type} {L:Lay α} (hL:LC L) {E:TypeId} {b cap:Nat} {xs:List α} {c:Chunk} (h:Row L E b cap xs c):∀ y∈c,y.2.isCellsZ=true:=by
  obtain ⟨cs,ess,d,rfl,ha,_⟩:=h
  intro y hy
  rcases List.mem_cons.1 hy with rfl | hy
  · rfl
  · exact ha.lc hL y hy
theorem LC.sl {α:Type} {L:Lay α} (hL:LC L) {E:TypeId}:LC (Lay.sl L E):=fun xs es c h y hy=>by
  obtain ⟨v,_,h | ⟨b,cap,_,h⟩⟩:=h
  · rw [h.2.2] at hy;simp at hy
  · exact h.lc hL y hy
theorem LC.pair {α β:Type} {L:Lay α} {K:Lay β} (hL:LC L) (hK:LC K):LC (Lay.pair L K):=fun x es c h y hy=>by
  obtain ⟨a,b,d,e,_,rfl,h1,h2⟩:=h
  rcases List.mem_append.1 hy with hy | hy
  · exact hL _ _ _ h1 y hy
  · exact hK _ _ _ h2 y hy
theorem LC.map {α β:Type} {L:Lay α} {f:β→α} (hL:LC L):LC (Lay.map L f):=fun x es c h y hy=>hL _ _ _ h y hy
section
variable {M:List Nat} {w0 w:World} {Δ Γ:List (Nat×Chunk)}
/-- All is handed over. -/
theorem Sat.whole (h:Sat M w0 w Δ Γ):Sat (blks Γ) w w Δ Γ:=Sat.init w Δ Γ h.ro h.has h.nodup h.apart
end
/-! Functions that hold such a loop. -/
section
variable {P:Program} {w:World} {σ:List (Nat×Value)} {n m:Nat} {a:Act} {fn:Func} {R:Value→World→Prop}
end
/-! An iterator's own walk. -/
section
variable {P:Program} {ops:List Oper} {Q:Exit→Act→World→Prop} {a:Act} {w:World} {σ:List (Nat×Value)} {n m:Nat}
end
end Go.Z
