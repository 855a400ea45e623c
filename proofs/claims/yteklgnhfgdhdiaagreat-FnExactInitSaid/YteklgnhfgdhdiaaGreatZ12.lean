/- Lemmas for walks: frames known by slots, heaps known by chunks. No conditions of its own. -/
import Derived.Test.YteklgnhfgdhdiaaGreatZ11
import Derived.Great.BuildSlice
import Derived.Laws.StructEq
namespace Go.Z
set_option linter.unusedVariables false
set_option linter.unusedSimpArgs false
open Go Go.RowKit
theorem addr_add0 (b j:Nat):(⟨b,0,none⟩:Addr).add j=⟨b,j,none⟩:=by unfold Addr.add;split <;> simp_all
theorem addr_add1 (b i j:Nat):(⟨b,i,none⟩:Addr).add j=⟨b,i+j,none⟩:=by unfold Addr.add;split <;> simp_all
section
variable {α:Type} {L:Lay α}
theorem AllOwn.flatten_len {xs:List α} {ess:List (List Value)} {c:Chunk} (h:AllOwn L xs ess c):ess.flatten.length=xs.length*L.size:=by
  rw [len_flatten ess h.each,h.len]
/-- What a source of elements is: none, or cells that stand in the heap. -/
def Src (w:World) (v:Value) (n:Nat) (cells:List Value):Prop :=
  (n=0∧∃ m,v = .slice none 0 m)∨∃ a m,v = .slice (some a) n m∧∀ j u,cells[j]? = some u→w.cell? (a.add j)=some u
theorem Lay.ones {L:Lay α} {xs:List α} {ess:List (List Value)} {c:Chunk} (h:AllOwn L xs ess c):∀ u∈ess.flatten,u.oneCell'=true:=by
  induction h with
  | nil=>simp
  | cons h1 _ ih =>
    intro u hu
    simp only [List.flatten_cons,List.mem_append] at hu
    rcases hu with hu | hu
    · exact L.one _ _ _ (L.ov _ _ _ h1) u hu
    · exact ih u hu
end
section
variable {P:Program} {w:World}
theorem run_append_none {t ty e:TypeId} {i:TypeInfo} (ht:P.underlying t=some (.slice e)) (hi:P.info? e=some i) {base:Option Addr} {n cap m:Nat} (hc:n≤cap) :
    (Builtin.append_ #[t,t] ty #[.slice base n cap,.slice none 0 m]).run P w = .ok (.slice base n cap) w:=by
  cases base with
  | none=>simp [Builtin.append_,run_underlying ht,sizeOf,typeInfo,hi,Builtin.lenOf,Builtin.firstCells,hc]
  | some a=>simp [Builtin.append_,run_underlying ht,sizeOf,typeInfo,hi,Builtin.lenOf,Builtin.firstCells,hc,storeCells]
end
section
variable {P:Program} {w:World} {M:List Nat} {w0:World} {Δ Γ:List (Nat×Chunk)}
theorem Sat.top (h:Sat M w0 w Δ Γ) {k:Nat} {c:Chunk} (hk:kget Γ k=some c):Sat M w0 w Δ ((k,c) :: kdel Γ k):=h.less c [] hk (by simp)
/-- APPEND: the chunk e of the row holds the chunk of what is put behind it too. -/
theorem run_ap (k:Nat) {α:Type} {L:Lay α} {E t ty:TypeId} {A:Option Addr} {cap:Nat} {xs ys:List α} {c dn e:Chunk} {fss:List (List Value)} {sv zv:Value} {sz:Nat}
    (hs:Sat M w0 w Δ Γ) (hg:kget Γ k=some e) (he:e=c++dn) (hown:Own L E A cap xs c) (hys:AllOwn L ys fss dn) (hsrc:Src w sv ys.length fss.flatten)
    (ht:P.underlying t=some (.slice E)) (hmk:mkB P E=some (zv,sz)) (hLs:L.size=sz) (hpos:0<sz) (hzc:zv.cells.size=sz) (hn:xs.length+ys.length≤1073741824) :
    ∃ A1 cap1 c1 w',(Builtin.append_ #[t,t] ty #[.slice A xs.length cap,sv]).run P w = .ok (.slice A1 (xs++ys).length cap1) w'∧Own L E A1 cap1 (xs++ys) c1∧Sat M w0 w' Δ ((k,c1) :: kdel Γ k):=by
  obtain ⟨inf,hi,hb,hzv,hsz⟩:=mkB_spec hmk
  have hLi:L.size=inf.size:=by omega
  have hm:maxLen=9223372036854775807:=rfl
  have hfl:=hys.flatten_len
  have h1:=Lay.ones hys
  rcases hsrc with ⟨hn0,m,rfl⟩ | ⟨a,m,rfl,hnews⟩
  · have hy:ys=[]:=List.eq_nil_of_length_eq_zero hn0
    subst hy
    cases hys
    have he':e=c:=by simpa using he
    subst he'
    refine ⟨A,cap,_,w,?_,by simpa using hown,hs.top hg⟩
    rw [run_append_none ht hi hown.view.le];simp
  · have hbytes:(xs.length+ys.length)*inf.bytes≤140737488355328:=by
      have:=Nat.mul_le_mul hn hb
      omega
    rcases hown with ⟨rfl,rfl,rfl,rfl⟩ | ⟨b,rfl,cs,ess,cd,rfl,hall,htake,hcs,hle,htop⟩
    · by_cases hm0:ys.length=0
      · have hy:ys=[]:=List.eq_nil_of_length_eq_zero hm0
        subst hy
        cases hys
        have he':e=[]:=by simpa using he
        subst he'
        refine ⟨none,0,[],w,?_,Own.nil _ _,hs.top hg⟩
        simp [Builtin.append_,run_underlying ht,sizeOf,typeInfo,hi,Builtin.lenOf,Builtin.firstCells,loadCells,loadCellsFrom]
      · have hr:=run_append_nil (P:=P) w t ty E inf zv ht hi hzv a ys.length m fss.flatten (by rw [hfl,hLi]) hnews (by omega) (by simp at hn;omega) (by simp at hbytes;omega)
        have hge:=grownCap_ge w ys.length 0 E
        have hcm:=grownCap_le_maxLen w ys.length 0 E (by simp at hn;omega)
        let nr:Array Value:=fss.flatten.toArray++Builtin.zeroCells zv.cells (grownCap w ys.length 0 E-ys.length)
        refine ⟨_,_,(w.heap.size,.cells nr E (0,0)) :: dn,w.drew.alloc (.cells nr E),by simpa [nr] using hr,.inr ⟨_,rfl,_,fss,dn,rfl,by simpa using hys,?_,?_,by simpa using hge,hcm⟩,?_⟩
        · simp only [nr,List.nil_append,Array.toList_append,List.toList_toArray]
          rw [← hfl];exact List.take_left' rfl
        · simp only [nr,Array.size_append,List.size_toArray,size_zeroCells,hzc,hfl,hLs,← Nat.add_mul]
          congr 1;omega
        · have h2:=hs.drew.alloc k (.cells nr E)
          have h3:=h2.join k (kget_cons _ _ _) (by simp only [kdel,Nat.beq_refl,if_true];exact hg)
          have h4:=h3.top (kget_cons _ _ _)
          simp only [kdel,Nat.beq_refl,if_true] at h4
          have he':e=dn:=by simpa using he
          rw [he'] at h4
          exact h4
    · have he':e=(b,.cells cs E (0,0)) :: (cd++dn):=by rw [he];rfl
      subst he'
      have hbw:w.heap[b]? = some (.cells cs E (0,0)):=hs.hasG hg (b,.cells cs E (0,0)) (List.mem_cons_self ..)
      have hxl:=hall.flatten_len
      by_cases hroom:xs.length+ys.length≤cap
      · have hfit:xs.length*inf.size+fss.flatten.length≤cs.size:=by
          rw [hfl,hcs,← hLi,← Nat.add_mul];exact Nat.mul_le_mul_right _ hroom
        have hr:=run_append_room (P:=P) w t ty E inf ht hi b xs.length cap cs hbw a ys.length m fss.flatten (by rw [hfl,hLi]) hnews h1 hroom hfit
        let cs':Array Value:=(cs.toList.take (xs.length*inf.size)++fss.flatten++cs.toList.drop (xs.length*inf.size+fss.flatten.length)).toArray
        refine ⟨some ⟨b,0,none⟩,cap,(b,.cells cs' E (0,0)) :: (cd++dn),w.setRow b cs',by rw [hr,List.length_append],.inr ⟨b,rfl,cs',ess++fss,cd++dn,rfl,hall.app hys,?_,?_,by simpa using hroom,htop⟩,?_⟩
        · simp only [cs',List.toList_toArray,List.flatten_append]
          rw [← hLi,htake]
          apply List.take_left'
          rw [List.length_append,List.length_append,hxl,hfl,Nat.add_mul]
        · simp only [cs',List.size_toArray,List.length_append,List.length_take,List.length_drop,Array.length_toList]
          omega
        · have h2:=hs.write (d:=(b,.cells cs' E (0,0)) :: (cd++dn)) (cs':=cs') hg (List.mem_cons_self ..) (by simp [cblk]) (by
            intro q hq
            have hnd:=hs.nodupk hg
            simp only [cblk,List.map_cons,List.nodup_cons] at hnd
            rcases List.mem_cons.1 hq with rfl | hq
            · exact .inl rfl
            · exact .inr ⟨List.mem_cons_of_mem _ hq,fun e=>hnd.1 (e ▸ List.mem_map.2 ⟨q,hq,rfl⟩)⟩)
          have h3:=h2.top (kget_kset hg)
          rwa [kdel_kset] at h3
      · have holds:∀ j u,ess.flatten[j]? = some u→w.cell? ((⟨b,0,none⟩:Addr).add j)=some u:=by
          intro j u hu
          rw [addr_add0,cell_of_row w b j cs E (0,0) hbw]
          rw [← htake,List.getElem?_take] at hu
          split at hu
          · simpa using hu
          · cases hu
        have hr:=run_append_grow (P:=P) w t ty E inf zv ht hi hzv ⟨b,0,none⟩ xs.length cap ess.flatten (by rw [hxl,hLi]) holds a ys.length m fss.flatten (by rw [hfl,hLi]) hnews (by omega) (by omega) (growslice_fits (by omega) hbytes)
        have hge:=grownCap_ge w (xs.length+ys.length) cap E
        have hcm:=grownCap_le_maxLen w (xs.length+ys.length) cap E (by omega)
        let nr:Array Value:=ess.flatten.toArray++fss.flatten.toArray++Builtin.zeroCells zv.cells (grownCap w (xs.length+ys.length) cap E-(xs.length+ys.length))
        refine ⟨_,_,(w.heap.size,.cells nr E (0,0)) :: (cd++dn),w.drew.alloc (.cells nr E),by rw [hr,List.length_append],.inr ⟨_,rfl,_,ess++fss,cd++dn,rfl,hall.app hys,?_,?_,by simpa using hge,hcm⟩,?_⟩
        · simp only [nr,Array.toList_append,List.toList_toArray,List.flatten_append]
          apply List.take_left'
          rw [List.length_append,List.length_append,hxl,hfl,Nat.add_mul]
        · simp only [nr,Array.size_append,List.size_toArray,size_zeroCells,hzc,hfl,hxl,hLs,← Nat.add_mul]
          congr 1;omega
        · have h2:=hs.drew.alloc k (.cells nr E)
          have h3:=h2.join k (kget_cons _ _ _) (by simp only [kdel,Nat.beq_refl,if_true];exact hg)
          have h4:=h3.less (k:=k) ((w.heap.size,.cells nr E) :: (cd++dn)) [(b,.cells cs E (0,0))] (kget_cons _ _ _) (by
            simp only [List.cons_append,List.nil_append]
            refine List.Perm.cons _ ?_
            exact List.perm_append_comm)
          simp only [kdel,Nat.beq_refl,if_true] at h4
          exact h4
end

section
variable {α:Type} {L:Lay α}
/-- Elements that are cells alone. -/
def Lay.Flat (L:Lay α):Prop:=∀ x es c,L.view x es c→L.own x es []
theorem flat_flat {size:Nat} {enc:α→List Value} {hl h1}:(Lay.flat size enc hl h1).Flat:=fun _ _ _ h=>⟨h,rfl⟩
theorem view_cells (hf:L.Flat) {c:Chunk} {b:Nat}:∀ (ys:List α) (off:Nat),(∀ i x,ys[i]? = some x→∃ es,L.view x es c∧∀ j u,es[j]? = some u→CellIn c b (off+(i*L.size+j)) u) →
    ∃ fss,AllOwn L ys fss []∧∀ j u,fss.flatten[j]? = some u→CellIn c b (off+j) u
  | [],off,_=>⟨[],.nil,by simp⟩
  | y :: r,off,h=>by
    obtain ⟨es,h1,h2⟩:=h 0 y (by simp)
    obtain ⟨fss,h3,h4⟩:=view_cells hf r (off+L.size) (fun i x hx=>by
      obtain ⟨es,h5,h6⟩:=h (i+1) x (by simpa using hx)
      refine ⟨es,h5,fun j u hu=>?_⟩
      have:=h6 j u hu
      have e:off+((i+1)*L.size+j)=off+L.size+(i*L.size+j):=by rw [Nat.add_mul];omega
      rwa [e] at this)
    have hl:=L.len _ _ _ h1
    refine ⟨es :: fss,AllOwn.cons (hf _ _ _ h1) h3,fun j u hu=>?_⟩
    simp only [List.flatten_cons] at hu
    rcases Nat.lt_or_ge j es.length with hj | hj
    · rw [List.getElem?_append_left hj] at hu
      have:=h2 j u hu
      simpa using this
    · rw [List.getElem?_append_right hj] at hu
      have:=h4 _ u hu
      have e:off+L.size+(j-es.length)=off+j:=by omega
      rwa [e] at this
theorem view_src (hf:L.Flat) {A:Option Addr} {cap:Nat} {ys:List α} {c:Chunk} {w:World} (hv:View L A cap ys c) (hw:Has w c):∃ fss,AllOwn L ys fss []∧Src w (.slice A ys.length cap) ys.length fss.flatten:=by
  cases ys with
  | nil =>
    refine ⟨[],.nil,?_⟩
    cases A with
    | none=>exact .inl ⟨rfl,cap,rfl⟩
    | some a=>exact .inr ⟨a,cap,rfl,by simp⟩
  | cons y r =>
    obtain ⟨⟨b,off,rfl⟩,_⟩:=hv.row 0 y (by simp)
    obtain ⟨fss,h1,h2⟩:=view_cells hf (c:=c) (b:=b) (y :: r) off (fun i x hx=>by
      obtain ⟨_,es,h3,h4⟩:=hv.row i x hx
      exact ⟨es,h3,fun j u hu=>by simpa [padd] using h4 j u hu⟩)
    refine ⟨fss,h1,.inr ⟨_,cap,rfl,fun j u hu=>?_⟩⟩
    rw [addr_add1]
    exact (h2 j u hu).cell hw
end
def sliceB (P:Program) (E:TypeId) (len:Nat) (pv:List (Nat×Value)):Option (Array Value) :=
  match P.info? E with
  | some i =>
    if Nat.blt 0 (len*i.size) && Nat.ble (len*i.size) 16777216 then
      match i.zero with
      | some z=>Instr.fill (fun j=>some (j*i.size,i.size)) ((Array.range (len*i.size)).map (z.cells[· % z.cells.size]!)) pv
      | none=>none
    else none
  | none=>none
theorem run_sliceB {P:Program} {w:World} {t E:TypeId} {len:Nat} {parts:Array (Nat×Value)} {cells:Array Value} (ht:P.underlying t=some (.slice E)) (h:sliceB P E len parts.toList=some cells) :
    (Instr.buildSlice t len parts).run P w = .ok (.slice (some ⟨w.heap.size,0,none⟩) len len) (w.alloc (.cells cells E)):=by
  unfold sliceB at h
  split at h
  · rename_i i hi
    split at h
    · rename_i hc
      simp only [Bool.and_eq_true] at hc
      obtain ⟨h1,h2⟩:=hc
      have h1':0<len*i.size:=by simpa using h1
      have h2':len*i.size≤16777216:=Nat.le_of_ble_eq_true h2
      split at h
      · rename_i z hz
        exact run_buildSlice w t E len parts cells i z ht hi hz (by omega) (by omega) h
      · cases h
    · cases h
  · cases h
theorem run_sliceB0 {P:Program} {w:World} {t E:TypeId} {n:Nat} (ht:P.underlying t=some (.slice E)) (hs:szB P E=some n) :
    (Instr.buildSlice t 0 #[]).run P w = .ok (.slice (some ⟨w.heap.size,0,none⟩) 0 0) (w.alloc (.cells #[] E)):=by
  simp [Instr.buildSlice,run_underlying ht,run_sizeOf hs,Instr.fill,newRow,Array.range_zero']

section steps
variable {P:Program} {ops:List Oper} {Q:Exit→Act→World→Prop} {o:Oper} {rest:List Oper} {a:Act} {w w':World} {σ:List (Nat×Value)} {n d:Nat} {v:Value} {M:List Nat} {w0:World} {Δ Γ:List (Nat×Chunk)}
theorem run_appendOp {x y:Operand} {t:TypeId} {u v r:Value} {w':World} (ho:o.op = .call ⟨.builtin .append,#[x,y],#[t,t]⟩) (hx:rho? σ x=some u) (hy:rho? σ y=some v) (h:(Builtin.append_ #[t,t] o.type #[u,v]).run P w = .ok r w') :
    (execOp (rho σ) o).run P w = .ok (.value r) w':=by
  simp only [execOp,ho,resolve,invoke,builtin,List.map_toArray,List.map_cons,List.map_nil,rho?_eq hx,rho?_eq hy,Sem.run_bind,Sem.run_pure,Result.andThen_ok,h]
/-- APPEND OF ELEMENTS THAT ARE CELLS ALONE. -/
theorem sap (k:Nat) {α:Type} {L:Lay α} {E t:TypeId} {A A':Option Addr} {cap cap' lx ly:Nat} {xs ys:List α} {c c2:Chunk} {x y:Operand} {zv:Value} {sz:Nat} (hf:L.Flat)
    (hs:Sat M w0 w Δ Γ) (hg:kget Γ k=some c) (hown:Own L E A cap xs c) (hv:View L A' cap' ys c2) (hw:Has w c2)
    (ho:o.op = .call ⟨.builtin .append,#[x,y],#[t,t]⟩) (hk:Kn σ n a) (hd:o.dst=some d) (hx:rho? σ x=some (.slice A lx cap)) (hlx:lx=xs.length) (hy:rho? σ y=some (.slice A' ly cap')) (hly:ly=ys.length) (hc:chk ops n σ o d=true)
    (ht:P.underlying t=some (.slice E)) (hmk:mkB P E=some (zv,sz)) (hLs:L.size=sz) (hpos:Nat.blt 0 sz=true) (hzc:zv.cells.size=sz) (hn:xs.length+ys.length≤1073741824)
    (next:∀ A1 cap1 c1 w' a,Kn ((d,.slice A1 (xs++ys).length cap1) :: σ) n a→Own L E A1 cap1 (xs++ys) c1→Sat M w0 w' Δ ((k,c1) :: kdel Γ k)→wpList P ops.toArray Q rest a w'):wpList P ops.toArray Q (o :: rest) a w:=by
  subst hlx;subst hly
  obtain ⟨fss,h1,h2⟩:=view_src hf hv hw
  obtain ⟨A1,cap1,c1,w',h3,h4,h5⟩:=run_ap (P:=P) (ty:=o.type) k hs hg (List.append_nil c).symm hown h1 h2 ht hmk hLs (by simpa using hpos) hzc hn
  exact sv _ hk hd hc (run_appendOp ho hx hy h3) fun a hk=>next A1 cap1 c1 w' a hk h4 h5
/-- A SLICE WRITTEN OUT. -/
theorem sbs (k:Nat) {α:Type} {L:Lay α} {E t:TypeId} {len:Nat} {parts:Array (Nat×Operand)} {pv:List (Nat×Value)} {cells:Array Value} {xs:List α} {ess:List (List Value)}
    (hs:Sat M w0 w Δ Γ) (ho:o.op = .buildSlice t len parts) (hk:Kn σ n a) (hd:o.dst=some d) (hp:parts.toList.map (fun x=>(x.1,rho σ x.2))=pv) (hc:chk ops n σ o d=true)
    (ht:P.underlying t=some (.slice E)) (hb:sliceB P E len pv=some cells) (hall:AllOwn L xs ess []) (hcs:cells.toList=ess.flatten) (hlen:len=xs.length) (htop:Nat.ble len 16777216=true)
    (next:∀ b c' w' a,Kn ((d,.slice (some ⟨b,0,none⟩) len len) :: σ) n a→Own L E (some ⟨b,0,none⟩) len xs c'→Sat M w0 w' Δ ((k,c') :: Γ)→wpList P ops.toArray Q rest a w'):wpList P ops.toArray Q (o :: rest) a w:=by
  have h2:(parts.map (fun x=>(x.1,rho σ x.2))).toList=pv:=by rw [← hp];simp
  have hr:=run_sliceB (P:=P) (w:=w) (t:=t) (len:=len) (parts:=parts.map (fun x=>(x.1,rho σ x.2))) ht (by rw [h2];exact hb)
  have hfl:=hall.flatten_len
  have htop':len≤16777216:=Nat.le_of_ble_eq_true htop
  refine sv _ hk hd hc (by simp only [execOp,ho,Sem.run_bind];rw [hr];simp) fun a hk=>next w.heap.size _ _ a hk (.inr ⟨_,rfl,cells,ess,[],rfl,hall,?_,?_,by omega,by simp only [maxLen];omega⟩) (hs.alloc k _)
  · rw [hcs];apply List.take_of_length_le;omega
  · have:cells.size=cells.toList.length:=by simp
    rw [this,hcs,hfl,hlen]
theorem sbs0 (k:Nat) {α:Type} (L:Lay α) {E t:TypeId} {m:Nat} (hs:Sat M w0 w Δ Γ) (ho:o.op = .buildSlice t 0 #[]) (hk:Kn σ n a) (hd:o.dst=some d) (hc:chk ops n σ o d=true)
    (ht:P.underlying t=some (.slice E)) (hz:szB P E=some m)
    (next:∀ b c' w' a,Kn ((d,.slice (some ⟨b,0,none⟩) 0 0) :: σ) n a→Own L E (some ⟨b,0,none⟩) 0 [] c'→Sat M w0 w' Δ ((k,c') :: Γ)→wpList P ops.toArray Q rest a w'):wpList P ops.toArray Q (o :: rest) a w:=by
  have hr:=run_sliceB0 (P:=P) (w:=w) (t:=t) ht hz
  refine sv _ hk hd hc (by simp only [execOp,ho,Sem.run_bind,List.map_toArray,List.map_nil];rw [hr];simp) fun a hk=>next w.heap.size _ _ a hk (.inr ⟨_,rfl,#[],[],[],rfl,.nil,?_,?_,Nat.le_refl _,Nat.zero_le _⟩) (hs.alloc k _)
  · simp
  · simp
/-- A STRUCT WRITTEN OUT. -/
theorem sbd {t:TypeId} {parts:Array (Nat×Operand)} {pv:List (Nat×Value)} {cells:Array Value} (ho:o.op = .build t parts) (hk:Kn σ n a) (hd:o.dst=some d) (hp:parts.toList.map (fun x=>(x.1,rho σ x.2))=pv) (hc:chk ops n σ o d=true)
    (hb:P.built t pv=some cells) (next:∀ a,Kn ((d,.agg cells) :: σ) n a→wpList P ops.toArray Q rest a w):wpList P ops.toArray Q (o :: rest) a w:=by
  have h2:(parts.map (fun x=>(x.1,rho σ x.2))).toList=pv:=by rw [← hp];simp
  have hr:=run_build (P:=P) w t (parts.map (fun x=>(x.1,rho σ x.2))) cells (by rw [h2];exact hb)
  exact sv _ hk hd hc (by simp only [execOp,ho,Sem.run_bind];rw [hr];simp) next
/-- A PART OF A VARIABLE. -/
theorem box_part {k b off:Nat} {vs sub:List Value} {t:TypeId} {fr:Nat×Nat} (h:Sat M w0 w Δ Γ) (hk:kget Γ k=some [(b,.cells vs.toArray t fr)]) (hp:(vs.drop off).take sub.length=sub):∀ j u,sub[j]? = some u→w.cell? ((⟨b,off,none⟩:Addr).add j)=some u:=fun j u hu=>by
  rw [addr_add1]
  refine box_cell h hk ?_
  have hj:=(List.getElem?_eq_some_iff.1 hu).1
  rw [← hp,List.getElem?_take,if_pos hj,List.getElem?_drop] at hu
  simpa using hu
theorem ssp (k:Nat) {t T:TypeId} {x y:Operand} {b off:Nat} {cs us cs':Array Value} (hs:Sat M w0 w Δ Γ) (hg:kget Γ k=some [(b,.cells cs T (0,0))]) (ho:o.op = .store t x y) (hk:Kn σ n a) (hd:o.dst=none)
    (hx:rho? σ x=some (.pointer (some ⟨b,off,none⟩))) (hy:rho? σ y=some (.agg us)) (hc:chk0 ops σ o=true) (hz:szB P t=some us.size) (h1:∀ u∈us.toList,u.oneCell'=true) (hf:Nat.ble (off+us.size) cs.size=true)
    (he:(cs.toList.take off++us.toList++cs.toList.drop (off+us.size)).toArray=cs')
    (next:∀ w' a,Kn σ n a→Sat M w0 w' Δ (kset Γ k [(b,.cells cs' T (0,0))])→wpList P ops.toArray Q rest a w'):wpList P ops.toArray Q (o :: rest) a w :=
  ssn ho hk hd hx hy hc hz h1 (box_row hs hg) (Nat.le_of_ble_eq_true hf) fun a hk=>next _ a hk (by rw [he];exact hs.write1 _ hg)
end steps
/-! == of structs. -/
section
variable {P:Program} {d:Nat} {xs ys:Array Value} {f:Field} {fs:List Field} {a b:Value} {r s:Bool} {w:World}
theorem run_part1 {t:TypeId} {off:Nat} (ht:aggB P t=some false) (h:xs[off]? = some a):(part t xs off).run P w = .ok a w:=by
  have h2:xs[off]! = a:=by simp [getElem!_def,h]
  simp [part,run_isAgg ht,h]
end
section steps
variable {P:Program} {ops:List Oper} {Q:Exit→Act→World→Prop} {o:Oper} {rest:List Oper} {a:Act} {w w':World} {σ:List (Nat×Value)} {n d:Nat}
end steps
end Go.Z
