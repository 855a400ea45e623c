/- Lemmas for walks: frames known by slots, heaps known by chunks. No conditions of its own. -/
import Derived.Test.YteklgnhfgdhdiaaGreatZ6
import Derived.ProofKit
import Derived.OpenShut
import Derived.ChangeOld
import Derived.SizedLaws
namespace Go.Z
set_option linter.unusedVariables false
set_option linter.unusedSimpArgs false
open Go Go.RowKit Go.ChangeShapes Go.WideShapes
/-- All that lies in the heap, as a chunk that is read. -/
def heapC (w:World):Chunk:=(List.range w.heap.size).filterMap fun b=>(w.heap[b]?).map fun o=>(b,o)
theorem heapC_has (w:World):Has w (heapC w):=by
  intro x hx
  simp only [heapC,List.mem_filterMap,List.mem_range,Option.map_eq_some_iff] at hx
  obtain ⟨b,_,o,ho,rfl⟩:=hx
  exact ho
theorem heapC_cell {w:World} {b off:Nat} {u:Value} (h:w.cell? ⟨b,off,none⟩=some u):CellIn (heapC w) b off u:=by
  have hlt:=World.block_lt_of_cell? w _ h
  simp only [World.cell?] at h
  split at h
  · rename_i c t fr hb
    refine ⟨c,t,fr,?_,by simpa using h⟩
    simp only [heapC,List.mem_filterMap,List.mem_range,Option.map_eq_some_iff]
    exact ⟨b,hlt,_,hb,rfl⟩
  · cases h

variable {P:Program} {w:World}
/-- What is read at type t reads by the layout L. -/
def Opens {α:Type} (P:Program) (w:World) (t:TypeId) (L:Lay α) (good:α→Prop):Prop :=
  ∀ (H:Type) (enc:TypeId×Value→H) (fuel:Nat) (cs:List Value) (x:DataW H×List MemPlace),DataW.trod enc P w 0 (fun _=>true) true fuel t cs=some x→∃ y,L.view y cs (heapC w)∧good y
theorem World.cells?_all {base:Nat} {a:Addr} {n:Nat} {es:List Value} (h:w.cells? base a n=some es):es.length=n∧∀ (j:Nat) (u:Value),es[j]? = some u→w.cell? (a.add j)=some u:=by
  obtain ⟨_,h1,h2⟩:=World.cells?_some h
  refine ⟨h1,fun j u hu=>?_⟩
  have hj:=(List.getElem?_eq_some_iff.1 hu).1
  rw [h2 j (by omega)];exact hu
theorem View.nil' {α:Type} (L:Lay α) (c:Chunk):View L none 0 [] c:=⟨Nat.le_refl _,Nat.zero_le _,fun i x hx=>by simp at hx⟩
theorem opens_int {t:TypeId} {k:IntKind} (ht:P.underlying t=some (.int k)):Opens P w t (Lay.int k) (fun n=>(Lit.int k n).wf=true):=by
  intro H enc fuel cs x h
  obtain ⟨n,h1,_,h2⟩:=DataW.trod_int ht h
  exact ⟨n,h1,h2⟩
theorem opens_str {t:TypeId} (ht:P.underlying t=some .string):Opens P w t Lay.str (fun s=>s.size≤maxLen):=by
  intro H enc fuel cs x h
  cases fuel with
  | zero=>simp [DataW.trod] at h
  | succ n =>
    unfold DataW.trod at h
    rw [ht] at h
    split at h <;> simp_all
    exact ⟨_,rfl,h.1⟩
theorem pick_list {α:Type} {Q:Nat→α→Prop}:∀ (n:Nat),(∀ i,i<n→∃ y,Q i y)→∃ ys:List α,ys.length=n∧∀ i y,ys[i]? = some y→Q i y
  | 0,_=>⟨[],rfl,by simp⟩
  | n + 1,h=>by
    obtain ⟨ys,h1,h2⟩:=pick_list n (fun i hi=>h i (by omega))
    obtain ⟨y,hy⟩:=h n (by omega)
    refine ⟨ys++[y],by simp [h1],fun i z hz=>?_⟩
    by_cases e:i<n
    · exact h2 i z (by rwa [List.getElem?_append_left (by omega)] at hz)
    · have:i=n:=by
        have:=(List.getElem?_eq_some_iff.1 hz).1
        simp at this;omega
      subst this
      rw [List.getElem?_append_right (by omega)] at hz
      simp [h1] at hz
      subst hz;exact hy
/-- A slice's elements, one by one. -/
theorem opens_sl {α:Type} {L:Lay α} {good:α→Prop} {t e:TypeId} (ht:P.underlying t=some (.slice e)) (hs:P.cellsOf e=L.size) (hz:0<L.size) (he:Opens P w e L good) :
    Opens P w t (Lay.sl L e) (fun xs=>xs.length≤maxLen∧∀ x∈xs,good x):=by
  intro H enc fuel cs x h
  rcases DataW.trod_slice ht h with ⟨rfl,_⟩ | ⟨a,len,cap,elems,rest,n,rfl,rfl,_,hb,hl,hm,hlen,hel,_,_⟩
  · exact ⟨[],⟨_,rfl,none,0,rfl,View.nil' L _⟩,Nat.zero_le _,fun _ h=>by simp at h⟩
  · have key:∀ i,i<len→∃ y,good y∧∃ es,w.cells? 0 (a.add (i*L.size)) L.size=some es∧L.view y es (heapC w):=by
      intro i hi
      have h1:=hel i hi
      rw [List.getElem?_eq_getElem (by omega)] at h1
      rw [hs] at h1
      obtain ⟨es,h2,h3⟩:=Option.bind_eq_some_iff.1 h1
      obtain ⟨y,h4,h5⟩:=he H enc n es _ h3
      exact ⟨y,h5,es,h2,h4⟩
    obtain ⟨ys,hy,hq⟩:=pick_list len key
    refine ⟨ys,⟨_,rfl,some a,cap,by rw [hy],?_⟩,by show ys.length≤maxLen;omega,fun y hy'=>?_⟩
    · refine ⟨by rw [hy];exact hl,hm,fun i y hi=>?_⟩
      obtain ⟨_,es,h1,h2⟩:=hq i y hi
      obtain ⟨hn,hc⟩:=World.cells?_all h1
      have hpos:0<ys.length:=by have:=(List.getElem?_eq_some_iff.1 hi).1;omega
      have hsp:a.spot=none:=by
        obtain ⟨_,es0,h3,h4⟩:=hq 0 ys[0] (by simp [List.getElem?_eq_getElem (show 0<ys.length by omega)])
        obtain ⟨hn0,hc0⟩:=World.cells?_all h3
        have:=hc0 0 (es0[0]'(by omega)) (by simp [List.getElem?_eq_getElem (show 0<es0.length by omega)])
        simp only [Nat.zero_mul,Addr.add,if_true] at this
        cases hsp:a.spot with
        | none=>rfl
        | some s =>
          simp only [World.cell?] at this
          split at this
          · simp [hsp] at this
          · cases this
      have ha:a=⟨a.block,a.off,none⟩:=by cases a;simp_all
      refine ⟨⟨a.block,a.off,by rw [← ha]⟩,es,h2,fun j u hu=>?_⟩
      have:=hc j u hu
      have hadd:(a.add (i*L.size)).add j=⟨a.block,a.off+(i*L.size+j),none⟩:=by
        rw [ha]
        have:=padd_add (some ⟨a.block,a.off,none⟩) (i*L.size) j
        simp only [padd,Option.getD_some] at this
        have h0:=padd_add (some ⟨a.block,a.off,none⟩) 0 (i*L.size)
        simp only [padd,Option.getD_some,Nat.add_zero,Nat.zero_add] at h0
        rw [h0,this]
      rw [hadd] at this
      simpa [padd] using heapC_cell this
    · obtain ⟨i,hi⟩:=List.getElem?_of_mem hy'
      exact (hq i y hi).1

theorem Opens.conv {α β:Type} {L:Lay α} {K:Lay β} {g1:α→Prop} {g2:β→Prop} {t:TypeId} (h:Opens P w t L g1) (hc:∀ x cs c,L.view x cs c→g1 x→∃ y,K.view y cs c∧g2 y):Opens P w t K g2:=by
  intro H enc fuel cs x hx
  obtain ⟨y,h1,h2⟩:=h H enc fuel cs x hx
  exact hc y cs _ h1 h2
theorem Sat.below {w w':World} {Δ Γ:List (Nat×Chunk)} (h:Sat [] w w' Δ Γ):Below w.heap.size w w':=⟨h.os,h.tape,h.output,h.size,fun k hk=>h.keep k hk (by simp)⟩
theorem shutB {H:Type} {enc:TypeId×Value→H} {W:World} {base:Nat} {sp:Nat→Bool} {held:Bool} {t:TypeId} (ht:P.underlying t=some .bool) (b:Bool):DataW.Trod enc P W base sp held t (.bool b) (.lit (.bool b)) []:=⟨1,by simp [DataW.trod,Value.cells,ht]⟩
end Go.Z
