/- Lemmas for walks: frames known by slots, heaps known by chunks. No conditions of its own. -/
import Derived.Test.YteklgnhfgdhdiaaGreatZ14
namespace Go.Z
set_option linter.unusedVariables false
set_option linter.unusedSimpArgs false
open Go Go.RowKit
/-! Chunks within chunks. -/
def Sub (a b:Chunk):Prop:=∀ y∈a,y∈b
theorem Sub.refl (a:Chunk):Sub a a:=fun _ h=>h
theorem Sub.nil (a:Chunk):Sub [] a:=fun _ h=>by simp at h
theorem Sub.l {a b:Chunk} (c:Chunk) (h:Sub a b):Sub a (b++c):=fun y hy=>List.mem_append_left _ (h y hy)
theorem Sub.r {a b:Chunk} (c:Chunk) (h:Sub a b):Sub a (c++b):=fun y hy=>List.mem_append_right _ (h y hy)
theorem Sub.a {a b c:Chunk} (h:Sub a c) (k:Sub b c):Sub (a++b) c:=fun y hy=>by
  rcases List.mem_append.1 hy with hy | hy
  · exact h y hy
  · exact k y hy
theorem View.sub {α:Type} {L:Lay α} {A:Option Addr} {cap:Nat} {xs:List α} {c c':Chunk} (h:View L A cap xs c) (hc:Sub c c'):View L A cap xs c':=h.mono hc

/-! Bytes of a text, in a row that bears a mark behind its cells. -/
def OwnM {α:Type} (L:Lay α) (E:TypeId) (A:Option Addr) (cap:Nat) (xs:List α) (c:Chunk):Prop :=
  ∃ b cs ess fr,A=some ⟨b,0,none⟩∧c=[(b,.cells cs E fr)]∧cs.size≤fr.1∧AllOwn L xs ess []∧cs.toList.take (xs.length*L.size)=ess.flatten∧cs.size=cap*L.size∧xs.length≤cap∧cap≤maxLen
theorem OwnM.view {α:Type} {L:Lay α} {E:TypeId} {A:Option Addr} {cap:Nat} {xs:List α} {c:Chunk} (h:OwnM L E A cap xs c):View L A cap xs c:=by
  obtain ⟨b,cs,ess,fr,rfl,rfl,_,ha,ht,hs,hn,hm⟩:=h
  refine ⟨hn,hm,fun i x hx=>⟨⟨b,0,rfl⟩,?_⟩⟩
  obtain ⟨es,h1,h2⟩:=ha.views.2.2 i x hx
  refine ⟨es,L.mono _ _ _ _ h2 (fun z hz=>by simp at hz),fun j u hu=>⟨cs,E,fr,by simp [padd],?_⟩⟩
  have:=flatten_at ess i j es u ha.views.2.1 h1 hu
  rw [← ht,List.getElem?_take] at this
  split at this
  · simpa [padd] using this
  · cases this
/-- The bytes of a text. -/
def bytesOf (s:ByteArray):List Int:=s.data.toList.map (fun b=>(b.toNat:Int))
theorem bytesOf_len (s:ByteArray):(bytesOf s).length=s.size:=by simp [bytesOf]
theorem allown_int {k:IntKind}:∀ xs:List Int,AllOwn (Lay.int k) xs (xs.map fun x=>[.int k x]) []
  | []=>.nil
  | x :: r=>AllOwn.cons0 ⟨rfl,rfl⟩ (allown_int r)
theorem flatten_single {α β:Type} (f:α→β):∀ l:List α,(l.map fun x=>[f x]).flatten=l.map f
  | []=>rfl
  | x :: r=>by simp [flatten_single f r]
section
variable {P:Program} {w:World}
theorem run_storeM {t T:TypeId} {b off:Nat} {cs:Array Value} {fr:Nat×Nat} {v:Value} (hs:szB P t=some 1) (hv:v.cells = #[v]) (hb:w.heap[b]? = some (.cells cs T fr)) (hfr:cs.size≤fr.1) (hf:off<cs.size) (h1:v.oneCell'=true) :
    (storeVar t ⟨b,off,none⟩ v).run P w = .ok () (w.setRow b (cs.setIfInBounds off v)):=by
  have hcell:w.cell? ⟨b,off,none⟩=some cs[off]:=by simp [World.cell?,hb,hf]
  have hfro:w.frozen? ⟨b,off,none⟩=false:=by
    obtain ⟨lo,hi'⟩:=fr
    simp only [World.frozen?,hb,Bool.and_eq_false_iff,decide_eq_false_iff_not]
    left
    simp only at hfr
    omega
  have hst:(store (⟨b,off,none⟩:Addr) v).run P w = .ok () (w.setRow b (cs.setIfInBounds off v)):=by
    rw [run_store P w _ v _ h1,hcell]
    simp [hfro,setCell_eq_setRow w b off cs T fr v hb]
  have hadd:(⟨b,off,none⟩:Addr).add 0=⟨b,off,none⟩:=by unfold Addr.add;simp
  unfold storeVar
  simp only [Sem.run_bind,run_sizeOf hs,Result.andThen_ok,ne_eq,hv,List.size_toArray,List.length_singleton,not_true_eq_false,if_false,storeCells,hadd,hst,Sem.run_pure]
end
section steps
variable {P:Program} {ops:List Oper} {Q:Exit→Act→World→Prop} {o:Oper} {rest:List Oper} {a:Act} {w w':World} {σ:List (Nat×Value)} {n d:Nat} {v:Value} {M:List Nat} {w0:World} {Δ Γ:List (Nat×Chunk)}
/-- THE BYTES OF A TEXT, IN A NEW ROW. -/
theorem scb (k:Nat) {st dt E:TypeId} {x:Operand} {s:ByteArray} (hs:Sat M w0 w Δ Γ) (ho:o.op = .convert st dt x) (hk:Kn σ n a) (hd:o.dst=some d) (hx:rho? σ x=some (.string s)) (hc:chk ops n σ o d=true)
    (hst:P.underlying st=some .string) (hdt:P.underlying dt=some (.slice E)) (he:P.underlying E=some (.int .u8)) (hsz:s.size≤1073741824)
    (next:∀ b cap c' w' a,Kn ((d,.slice (some ⟨b,0,none⟩) (bytesOf s).length cap) :: σ) n a→OwnM (Lay.int .u8) E (some ⟨b,0,none⟩) cap (bytesOf s) c'→Sat M w0 w' Δ ((k,c') :: Γ)→wpList P ops.toArray Q rest a w'):wpList P ops.toArray Q (o :: rest) a w:=by
  have hr:=run_bytes_of_string (P:=P) w st dt E s hst hdt he
  have hge:=grownCap_ge w s.size 0 E
  have hm:maxLen=9223372036854775807:=rfl
  have hcm:=grownCap_le_maxLen w s.size 0 E (by omega)
  have hbs:(bytesRow s (grownCap w s.size 0 E)).size=grownCap w s.size 0 E:=by
    simp [bytesRow]
    have:s.data.size=s.size:=rfl
    omega
  refine sv (.slice (some ⟨w.heap.size,0,none⟩) (bytesOf s).length (grownCap w s.size 0 E)) (w':=w.drew.alloc _) hk hd hc (by
    simp only [execOp,ho,rho?_eq hx,Sem.run_bind,hr,Result.andThen_ok,Sem.run_pure]
    rw [bytesOf_len]) fun a hk=>?_
  refine next w.heap.size _ _ _ a hk ⟨_,_,(bytesOf s).map fun x=>[.int .u8 x],_,rfl,rfl,Nat.le_refl _,allown_int _,?_,?_,?_,hcm⟩ (hs.drew.alloc k _)
  · rw [flatten_single,bytesOf_len]
    simp only [bytesRow,Array.toList_append,Array.toList_map,Lay.int,Lay.flat,Nat.mul_one]
    have e:s.size=(s.data.toList.map fun b=>Value.int .u8 (b.toNat:Int)).length:=by simp
    rw [e,List.take_left' rfl]
    simp [bytesOf,Function.comp_def]
  · rw [hbs];simp [Lay.int,Lay.flat]
  · rw [bytesOf_len];exact hge
/-- A STORE OF ONE CELL INTO SUCH A ROW. -/
theorem sob (k:Nat) {α:Type} {L:Lay α} {E:TypeId} {A:Option Addr} {cap:Nat} {xs:List α} {c:Chunk} (y:α) {i:Int} {t:TypeId} {x u:Operand} {ad:Addr}
    (hs:Sat M w0 w Δ Γ) (hg:kget Γ k=some c) (hown:OwnM L E A cap xs c) (h0:0≤i) (h1:i<xs.length)
    (ho:o.op = .store t x u) (hk:Kn σ n a) (hd:o.dst=none) (hx:rho? σ x=some (.pointer (some ad))) (had:ad=padd A (i.toNat*1)) (hu:rho? σ u=some v) (hc:chk0 ops σ o=true)
    (hz:szB P t=some 1) (hL:L.size=1) (hone:v.oneCell'=true) (hvc:v.cells = #[v]) (hnew:L.own y [v] [])
    (next:∀ c' w' a,Kn σ n a→OwnM L E A cap (xs.set i.toNat y) c'→Sat M w0 w' Δ (kset Γ k c')→wpList P ops.toArray Q rest a w'):wpList P ops.toArray Q (o :: rest) a w:=by
  obtain ⟨b,cs,ess,fr,rfl,rfl,hfr,ha,ht,hsz,hle,htop⟩:=hown
  have hlt:i.toNat<xs.length:=by omega
  rw [hL,Nat.mul_one] at hsz ht
  have hb:w.heap[b]? = some (.cells cs E fr):=hs.hasG hg _ (List.mem_singleton.2 rfl)
  have had':ad=⟨b,i.toNat,none⟩:=by rw [had];simp [padd]
  subst had'
  obtain ⟨c1,d1,c2,es,hcc,hes,hoe,hput⟩:=ha.take i.toNat (xs[i.toNat]) (List.getElem?_eq_getElem hlt)
  have hcn:c1=[]∧d1=[]∧c2=[]:=by
    have:=hcc.symm
    simp only [List.append_eq_nil_iff] at this
    exact ⟨this.1.1,this.1.2,this.2⟩
  obtain ⟨rfl,rfl,rfl⟩:=hcn
  have hall:=hput y [v] [] hnew
  refine su (w':=w.setRow b (cs.setIfInBounds i.toNat v)) hk hd hc (by
    simp only [execOp,ho,rho?_eq hx,rho?_eq hu,Instr.storeAt,Instr.sureAddr,Sem.run_bind,Sem.run_pure,Result.andThen_ok]
    rw [run_storeM hz hvc hb hfr (by omega) hone]
    rfl) fun a hk=>?_
  refine next _ _ a hk ⟨b,cs.setIfInBounds i.toNat v,ess.set i.toNat [v],fr,rfl,rfl,by simpa using hfr,hall,?_,by rw [hL];simpa using hsz,by simpa using hle,htop⟩ (hs.write1 _ hg)
  rw [List.length_set,hL,Nat.mul_one]
  have hseg:=flatten_seg ess i.toNat 0 1 [v] es ha.each hes rfl (by omega)
  rw [hL] at hseg
  have e1:es.take 0++[v]++es.drop (0+1)=[v]:=by
    have hl:es.length=1:=by rw [ha.each es (List.mem_of_getElem? hes),hL]
    rw [List.take_zero,List.nil_append,List.drop_eq_nil_of_le (by omega),List.append_nil]
  rw [e1] at hseg
  rw [hseg,← ht]
  have hl:xs.length≤cs.toList.length:=by
    have:cs.toList.length=cs.size:=by simp
    omega
  have h3:=take_seg cs.toList xs.length i.toNat 1 [v] rfl (by omega) hl
  rw [Array.toList_setIfInBounds,List.set_eq_take_append_cons_drop,if_pos (by omega)]
  simpa using h3
end steps
end Go.Z
