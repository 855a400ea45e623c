/- Lemmas for walks: frames known by slots, heaps known by chunks. No conditions of its own. -/
import Derived.Test.YteklgnhfgdhdiaaGreatZ2
namespace Go.Z
set_option linter.unusedVariables false
set_option linter.unusedSimpArgs false
open Go Go.RowKit
/-- How a kind of data lies in cells: `own`: with rows that are its own (in the chunk); `view`: as read. -/
structure Lay (α:Type) where
  size:Nat
  own:α→List Value→Chunk→Prop
  view:α→List Value→Chunk→Prop
  len:∀ x cs c,view x cs c→cs.length=size
  ov:∀ x cs c,own x cs c→view x cs c
  mono:∀ x cs c c',view x cs c→(∀ y∈c,y∈c')→view x cs c'
  one:∀ x cs c,view x cs c→∀ u∈cs,u.oneCell'=true

def CellIn (c:Chunk) (b off:Nat) (u:Value):Prop:=∃ cs t fr,(b,.cells cs t fr)∈c∧cs[off]? = some u
theorem CellIn.mono {c c':Chunk} {b off:Nat} {u:Value} (h:CellIn c b off u) (hc:∀ y∈c,y∈c'):CellIn c' b off u:=by
  obtain ⟨cs,t,fr,h1,h2⟩:=h;exact ⟨cs,t,fr,hc _ h1,h2⟩
theorem CellIn.cell {c:Chunk} {b off:Nat} {u:Value} (h:CellIn c b off u) {w:World} (hw:Has w c):w.cell? ⟨b,off,none⟩=some u:=by
  obtain ⟨cs,t,fr,h1,h2⟩:=h
  rw [cell_of_row w b off cs t fr (hw _ h1)];exact h2

def padd (A:Option Addr) (k:Nat):Addr:=⟨(A.getD ⟨0,0,none⟩).block,(A.getD ⟨0,0,none⟩).off+k,none⟩
theorem padd_add (A:Option Addr) (k j:Nat):(padd A k).add j=padd A (k+j):=by
  unfold Addr.add padd
  split
  · rename_i h;subst h;rfl
  · simp only [Nat.add_assoc]
theorem padd_some (b off k:Nat):padd (some ⟨b,off,none⟩) k=⟨b,off+k,none⟩:=rfl

/-- A row of cells from A on, as read. -/
def VRow {α:Type} (L:Lay α) (A:Option Addr) (xs:List α) (c:Chunk):Prop :=
  ∀ i x,xs[i]? = some x→(∃ b off,A=some ⟨b,off,none⟩)∧∃ es,L.view x es c∧∀ j u,es[j]? = some u→CellIn c (padd A 0).block ((padd A 0).off+(i*L.size+j)) u
structure View {α:Type} (L:Lay α) (A:Option Addr) (cap:Nat) (xs:List α) (c:Chunk):Prop where
  le:xs.length≤cap
  top:cap≤maxLen
  row:VRow L A xs c
def ViewV {α:Type} (L:Lay α) (v:Value) (xs:List α) (c:Chunk):Prop:=∃ A cap,v = .slice A xs.length cap∧View L A cap xs c

theorem VRow.mono {α:Type} {L:Lay α} {A:Option Addr} {xs:List α} {c c':Chunk} (h:VRow L A xs c) (hc:∀ y∈c,y∈c'):VRow L A xs c':=fun i x hx=>by
  obtain ⟨h1,es,h2,h3⟩:=h i x hx
  exact ⟨h1,es,L.mono _ _ _ _ h2 hc,fun j u hu=>(h3 j u hu).mono hc⟩
theorem View.mono {α:Type} {L:Lay α} {A:Option Addr} {cap:Nat} {xs:List α} {c c':Chunk} (h:View L A cap xs c) (hc:∀ y∈c,y∈c'):View L A cap xs c':=⟨h.le,h.top,h.row.mono hc⟩
theorem View.at_ {α:Type} {L:Lay α} {A:Option Addr} {cap:Nat} {xs:List α} {c:Chunk} (h:View L A cap xs c) (d:α) (i:Int) (h0:0≤i) (h1:i<xs.length) :
    ∃ es,L.view (xs.getD i.toNat d) es c∧∀ j u,es[j]? = some u→CellIn c (padd A (i.toNat*L.size+j)).block (padd A (i.toNat*L.size+j)).off u:=by
  have hlt:i.toNat<xs.length:=by omega
  have hx:xs[i.toNat]? = some (xs.getD i.toNat d):=by simp [List.getD_eq_getElem?_getD,List.getElem?_eq_getElem hlt]
  obtain ⟨_,es,h2,h3⟩:=h.row i.toNat _ hx
  refine ⟨es,h2,fun j u hu=>?_⟩
  have:=h3 j u hu
  simpa [padd,Nat.add_assoc] using this
theorem View.some_ {α:Type} {L:Lay α} {A:Option Addr} {cap:Nat} {xs:List α} {c:Chunk} (h:View L A cap xs c) (i:Int) (h0:0≤i) (h1:i<xs.length):∃ b off,A=some ⟨b,off,none⟩:=by
  have hlt:i.toNat<xs.length:=by omega
  exact (h.row i.toNat xs[i.toNat] (List.getElem?_eq_getElem hlt)).1

/-! Kinds. -/
/-- What lies in its cells alone. -/
def Lay.flat {α:Type} (size:Nat) (enc:α→List Value) (hl:∀ x,(enc x).length=size) (h1:∀ x,∀ u∈enc x,u.oneCell'=true):Lay α where
  size:=size
  own x cs c:=cs=enc x∧c=[]
  view x cs _:=cs=enc x
  len x cs c h:=by rw [h];exact hl x
  ov x cs c h:=h.1
  mono x cs c c' h _:=h
  one x cs c h:=by rw [h];exact h1 x
def Lay.int (k:IntKind):Lay Int:=.flat 1 (fun x=>[.int k x]) (fun _=>rfl) (fun _ u hu=>by simp only [List.mem_singleton] at hu;subst hu;rfl)
def Lay.bool:Lay Bool:=.flat 1 (fun x=>[.bool x]) (fun _=>rfl) (fun _ u hu=>by simp only [List.mem_singleton] at hu;subst hu;rfl)
def Lay.str:Lay ByteArray:=.flat 1 (fun x=>[.string x]) (fun _=>rfl) (fun _ u hu=>by simp only [List.mem_singleton] at hu;subst hu;rfl)

/-- The elements of a row with their cells and chunks. -/
inductive AllOwn {α:Type} (L:Lay α):List α→List (List Value)→Chunk→Prop
  | nil:AllOwn L [] [] []
  | cons {x es d xs ess c}:L.own x es d→AllOwn L xs ess c→AllOwn L (x :: xs) (es :: ess) (d++c)
/-- A row of the call's own: the whole block b. -/
def Row {α:Type} (L:Lay α) (E:TypeId) (b cap:Nat) (xs:List α) (c:Chunk):Prop :=
  ∃ cs ess d,c=(b,.cells cs E (0,0)) :: d∧AllOwn L xs ess d∧cs.toList.take (xs.length*L.size)=ess.flatten∧cs.size=cap*L.size∧xs.length≤cap∧cap≤maxLen
def OwnV {α:Type} (L:Lay α) (E:TypeId) (v:Value) (xs:List α) (c:Chunk):Prop :=
  (v = .slice none 0 0∧xs=[]∧c=[])∨∃ b cap,v = .slice (some ⟨b,0,none⟩) xs.length cap∧Row L E b cap xs c

theorem AllOwn.views {α:Type} {L:Lay α} {xs:List α} {ess:List (List Value)} {c:Chunk} (h:AllOwn L xs ess c) :
    ess.length=xs.length∧(∀ es∈ess,es.length=L.size)∧∀ (i:Nat) (x:α),xs[i]? = some x→∃ es,ess[i]? = some es∧L.view x es c:=by
  induction h with
  | nil=>simp
  | cons h1 _ ih =>
    rename_i x es d xs ess c _
    refine ⟨by simp [ih.1],?_,?_⟩
    · intro e he
      rcases List.mem_cons.1 he with rfl | he
      · exact L.len _ _ _ (L.ov _ _ _ h1)
      · exact ih.2.1 e he
    · intro i y hy
      cases i with
      | zero =>
        simp only [List.getElem?_cons_zero,Option.some.injEq] at hy
        subst hy
        exact ⟨es,by simp,L.mono _ _ _ _ (L.ov _ _ _ h1) (fun z hz=>List.mem_append_left _ hz)⟩
      | succ i =>
        simp only [List.getElem?_cons_succ] at hy
        obtain ⟨es',h2,h3⟩:=ih.2.2 i y hy
        exact ⟨es',by simpa using h2,L.mono _ _ _ _ h3 (fun z hz=>List.mem_append_right _ hz)⟩
theorem flatten_at {n:Nat}:∀ (ess:List (List Value)) (i j:Nat) (es:List Value) (u:Value),(∀ e∈ess,e.length=n)→ess[i]? = some es→es[j]? = some u→ess.flatten[i*n+j]? = some u
  | [],i,j,es,u,_,h,_=>by simp at h
  | e :: r,0,j,es,u,hn,h,hu=>by
    simp only [List.getElem?_cons_zero,Option.some.injEq] at h
    subst h
    simp only [List.flatten_cons,Nat.zero_mul,Nat.zero_add]
    rw [List.getElem?_append_left]
    · exact hu
    · exact (List.getElem?_eq_some_iff.1 hu).1
  | e :: r,i+1,j,es,u,hn,h,hu=>by
    simp only [List.getElem?_cons_succ] at h
    have ih:=flatten_at r i j es u (fun x hx=>hn x (by simp [hx])) h hu
    simp only [List.flatten_cons]
    rw [List.getElem?_append_right (by rw [hn e (by simp),Nat.add_mul];omega),hn e (by simp)]
    have:(i+1)*n+j-n=i*n+j:=by rw [Nat.add_mul];omega
    rw [this];exact ih
theorem Row.view {α:Type} {L:Lay α} {E:TypeId} {b cap:Nat} {xs:List α} {c:Chunk} (h:Row L E b cap xs c):View L (some ⟨b,0,none⟩) cap xs c:=by
  obtain ⟨cs,ess,d,rfl,ha,ht,hs,hn,hm⟩:=h
  refine ⟨hn,hm,fun i x hx=>⟨⟨b,0,rfl⟩,?_⟩⟩
  obtain ⟨es,h1,h2⟩:=ha.views.2.2 i x hx
  refine ⟨es,L.mono _ _ _ _ h2 (fun z hz=>List.mem_cons_of_mem _ hz),fun j u hu=>⟨cs,E,(0,0),by simp [padd],?_⟩⟩
  have:=flatten_at ess i j es u ha.views.2.1 h1 hu
  rw [← ht,List.getElem?_take] at this
  split at this
  · simpa [padd] using this
  · cases this
theorem OwnV.view {α:Type} {L:Lay α} {E:TypeId} {v:Value} {xs:List α} {c:Chunk} (h:OwnV L E v xs c):ViewV L v xs c:=by
  rcases h with ⟨rfl,rfl,rfl⟩ | ⟨b,cap,rfl,h⟩
  · exact ⟨none,0,rfl,Nat.le_refl _,Nat.zero_le _,fun i x hx=>by simp at hx⟩
  · exact ⟨_,cap,rfl,h.view⟩
/-- A slice as a kind. -/
def Lay.sl {α:Type} (L:Lay α) (E:TypeId):Lay (List α) where
  size:=1
  own xs cs c:=∃ v,cs=[v]∧OwnV L E v xs c
  view xs cs c:=∃ v,cs=[v]∧ViewV L v xs c
  len x cs c h:=by obtain ⟨v,rfl,_⟩:=h;rfl
  ov x cs c h:=by obtain ⟨v,rfl,h⟩:=h;exact ⟨v,rfl,h.view⟩
  mono x cs c c' h hc:=by obtain ⟨v,rfl,A,cap,rfl,h⟩:=h;exact ⟨_,rfl,A,cap,rfl,h.mono hc⟩
  one x cs c h:=by obtain ⟨v,rfl,A,cap,rfl,h⟩:=h;intro u hu;simp only [List.mem_singleton] at hu;subst hu;rfl
/-- Two kinds, one behind the other. -/
def Lay.pair {α β:Type} (L:Lay α) (K:Lay β):Lay (α×β) where
  size:=L.size+K.size
  own x cs c:=∃ a b d e,cs=a++b∧c=d++e∧L.own x.1 a d∧K.own x.2 b e
  view x cs c:=∃ a b,cs=a++b∧L.view x.1 a c∧K.view x.2 b c
  len x cs c h:=by obtain ⟨a,b,rfl,h1,h2⟩:=h;simp [L.len _ _ _ h1,K.len _ _ _ h2]
  ov x cs c h:=by
    obtain ⟨a,b,d,e,rfl,rfl,h1,h2⟩:=h
    exact ⟨a,b,rfl,L.mono _ _ _ _ (L.ov _ _ _ h1) (fun z hz=>List.mem_append_left _ hz),K.mono _ _ _ _ (K.ov _ _ _ h2) (fun z hz=>List.mem_append_right _ hz)⟩
  mono x cs c c' h hc:=by obtain ⟨a,b,rfl,h1,h2⟩:=h;exact ⟨a,b,rfl,L.mono _ _ _ _ h1 hc,K.mono _ _ _ _ h2 hc⟩
  one x cs c h:=by
    obtain ⟨a,b,rfl,h1,h2⟩:=h
    intro u hu
    rcases List.mem_append.1 hu with hu | hu
    · exact L.one _ _ _ h1 u hu
    · exact K.one _ _ _ h2 u hu
def Lay.map {α β:Type} (L:Lay α) (f:β→α):Lay β where
  size:=L.size
  own x:=L.own (f x)
  view x:=L.view (f x)
  len x:=L.len (f x)
  ov x:=L.ov (f x)
  mono x:=L.mono (f x)
  one x:=L.one (f x)
end Go.Z
