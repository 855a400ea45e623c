/- Lemmas for walks: frames known by slots, heaps known by chunks. No conditions of its own. -/
import Derived.Test.YteklgnhfgdhdiaaGreatZ30
namespace Go.Z
set_option linter.unusedVariables false
set_option linter.unusedSimpArgs false
open Go Go.RowKit
/-! Short forms of the commonest steps. -/
theorem ite_no {α:Type} {c:Prop} [Decidable c] {x:Option α} {r:α} (h:(if c then x else none)=some r):c∧x=some r:=by
  rcases ite_some h with h | ⟨_,h⟩
  · exact h
  · cases h
theorem nm {α:Type} (X:α):∃ R,R=X:=⟨_,rfl⟩
theorem osi {α:Type} {x y:α} (h:some x=some y):x=y:=Option.some.inj h
theorem sat0 (w:World) (Δ:List (Nat×Chunk)) (hd:∀ x∈Δ,Has w x.2):Sat [] w w Δ []:=Sat.init w Δ [] hd (by simp) List.nodup_nil (by simp [blks])
def mvC (ops:List Oper) (n:Nat) (σ:List (Nat×Value)) (o:Oper):Option (Nat×Value) :=
  match o.dst with
  | some d =>
    match o.op with
    | .move x | .assign x=>(match chk ops n σ o d,rho? σ x with | true,some v=>some (d,v) | _,_=>none)
    | _=>none
  | none=>none
def tqC (ops:List Oper) (n:Nat) (σ:List (Nat×Value)) (i:Nat):Option (Oper×Nat) :=
  match onth ops i with
  | some o =>
    match o.dst with
    | some d=>(match wnt ops σ o,Nat.blt d n with | some true,true=>some (o,d) | _,_=>none)
    | none=>none
  | none=>none
theorem tqC_some {ops:List Oper} {n:Nat} {σ:List (Nat×Value)} {i d:Nat} {o:Oper} (h:tqC ops n σ i=some (o,d)):onth ops i=some o∧o.dst=some d∧Nat.blt d n=true∧wnt ops σ o=some true:=by
  unfold tqC at h
  split at h
  · rename_i o' ho
    split at h
    · rename_i d' hd
      split at h
      · rename_i h1 h2
        obtain ⟨rfl,rfl⟩:=Prod.mk.inj (Option.some.inj h)
        exact ⟨ho,hd,h2,h1⟩
      · cases h
    · cases h
  · cases h
abbrev bix1 (x y:Int):Int:=IntKind.wrap .u8 ((BitVec.ofInt 8 x ^^^ BitVec.ofInt 8 y).toNat:Int)
abbrev bia1 (x y:Int):Int:=IntKind.wrap .u8 ((BitVec.ofInt 8 x &&& BitVec.ofInt 8 y).toNat:Int)
abbrev bix3 (x y:Int):Int:=IntKind.wrap .u32 ((BitVec.ofInt 32 x ^^^ BitVec.ofInt 32 y).toNat:Int)
abbrev bia3 (x y:Int):Int:=IntKind.wrap .u32 ((BitVec.ofInt 32 x &&& BitVec.ofInt 32 y).toNat:Int)
abbrev bio3 (x y:Int):Int:=IntKind.wrap .u32 ((BitVec.ofInt 32 x ||| BitVec.ofInt 32 y).toNat:Int)
abbrev bix6 (x y:Int):Int:=IntKind.wrap .i64 ((BitVec.ofInt 64 x ^^^ BitVec.ofInt 64 y).toNat:Int)
abbrev bia6 (x y:Int):Int:=IntKind.wrap .i64 ((BitVec.ofInt 64 x &&& BitVec.ofInt 64 y).toNat:Int)
abbrev bio6 (x y:Int):Int:=IntKind.wrap .i64 ((BitVec.ofInt 64 x ||| BitVec.ofInt 64 y).toNat:Int)
abbrev bia7 (x y:Int):Int:=IntKind.wrap .u64 ((BitVec.ofInt 64 x &&& BitVec.ofInt 64 y).toNat:Int)
abbrev bio7 (x y:Int):Int:=IntKind.wrap .u64 ((BitVec.ofInt 64 x ||| BitVec.ofInt 64 y).toNat:Int)
theorem Kn.al {σ:List (Nat×Value)} {n:Nat} {a:Act} (hk:Kn σ n a):∀ {τ:List (Nat×Value)},τ.map (fun x=>look σ x.1)=τ.map (fun x=>some x.2)→Kn τ n a
  | [],_=>hk.k
  | (t,v) :: r,h=>by
    simp only [List.map_cons,List.cons.injEq] at h
    exact hk.c t h.1 (Kn.al hk h.2)
section steps
variable {P:Program} {ops:List Oper} {Q:Exit→Act→World→Prop} {o:Oper} {rest:List Oper} {a:Act} {w w':World} {σ:List (Nat×Value)} {n d:Nat} {v:Value} {M:List Nat} {w0:World} {Δ Γ:List (Nat×Chunk)}
theorem mv (hk:Kn σ n a) (h:mvC ops n σ o=some (d,v)) (next:∀ a,Kn ((d,v) :: σ) n a→wpList P ops.toArray Q rest a w):wpList P ops.toArray Q (o :: rest) a w:=by
  unfold mvC at h
  split at h
  · rename_i d' hd
    split at h
    · rename_i x hx
      split at h
      · rename_i u hc hv
        obtain ⟨rfl,rfl⟩:=Prod.mk.inj (Option.some.inj h)
        exact sm x hx hk hd hv hc next
      · cases h
    · rename_i x hx
      split at h
      · rename_i u hc hv
        obtain ⟨rfl,rfl⟩:=Prod.mk.inj (Option.some.inj h)
        exact sa x hx hk hd hv hc next
      · cases h
    · cases h
  · cases h
theorem nx {X:Act→World→Prop} {ops:Array Oper} (hK:∀ a w,X a w→Q .normal a w) (h:X a w):wpList P ops Q [] a w:=wpList_nil (hK _ _ h)
theorem sr {id:Nat} {l:List Oper} {y:Code} (h:∀ K:Act→World→Prop,(∀ a w,y.wp P Q a w→K a w)→wpList P l.toArray (Exit.then K Q) l a w):(Code.seq (Code.region id l.toArray false) y).wp P Q a w :=
  wp_seq_k fun K hK=>wp_region_lit (h K hK)
theorem sq {x y:Code} (h:∀ K:Act→World→Prop,(∀ a w,y.wp P Q a w→K a w)→x.wp P (Exit.then K Q) a w):(Code.seq x y).wp P Q a w:=wp_seq_k h
end steps
section trees
variable {P:Program} {ops:List Oper} {Q:Exit→Act→World→Prop} {M:List Nat} {w0:World} {Δ Γ:List (Nat×Chunk)} {C:World→Prop} {o:Oper} {p:Plan} {a:Act} {w:World} {σ:List (Nat×Value)} {n d i:Nat} {v:Value}
def tmC (ops:List Oper) (n:Nat) (σ:List (Nat×Value)) (i:Nat):Option (Nat×Value) :=
  match tqC ops n σ i with
  | some (o,d)=>(match mvC ops n σ o with | some (_,v)=>some (d,v) | none=>none)
  | none=>none
theorem tqm (hk:Kn σ n a) (h:tmC ops n σ i=some (d,v)) (next:∀ a,Kn ((d,v) :: σ) n a→WT P ops C Q p a w):WT P ops C Q (.q i p) a w:=by
  unfold tmC at h
  split at h
  · rename_i o' d' ho
    split at h
    · rename_i d2 v2 hm
      obtain ⟨rfl,rfl⟩:=Prod.mk.inj (Option.some.inj h)
      obtain ⟨h1,h2,h3,h4⟩:=tqC_some ho
      have e:d2=d':=by
        unfold mvC at hm
        rw [h2] at hm
        simp only at hm
        split at hm
        · split at hm
          · exact (Prod.mk.inj (Option.some.inj hm)).1.symm
          · cases hm
        · split at hm
          · exact (Prod.mk.inj (Option.some.inj hm)).1.symm
          · cases hm
        · cases hm
      subst e
      exact tqst v2 hk h1 h2 h3 h4 (fun w _=>mv hk hm fun a hk=>qe hk) next
    · cases h
  · cases h
theorem tqv (v:Value) (hk:Kn σ n a) (h:tqC ops n σ i=some (o,d)) (hc:chk ops n σ o d=true) (hr:∀ w,(execOp (rho σ) o).run P w = .ok (.value v) w) (next:∀ a,Kn ((d,v) :: σ) n a→WT P ops C Q p a w):WT P ops C Q (.q i p) a w:=by
  obtain ⟨h1,h2,h3,h4⟩:=tqC_some h
  exact tqst v hk h1 h2 h3 h4 (fun w _=>sv v hk h2 hc (hr w) fun a hk=>qe hk) next
theorem tss (hs:Sat M w0 w Δ Γ) (hk:Kn σ n a) (hi:onth ops i=some o) (hw:wnt ops σ o=some true)
    (h:∀ K:Act→World→Prop,(∀ a w,WT P ops C Q p a w→K a w)→∀ w',Sat M w0 w' Δ Γ→wpList P ops.toArray (SE C K) [o] a w'):WT P ops C Q (.alt i p .stop) a w :=
  tsst hk hi hw (fun K hK w' hF=>h K hK w' (hs.f hF)) wt_stop
end trees
end Go.Z
