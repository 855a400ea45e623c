/- Lemmas for walks: frames known by slots, heaps known by chunks. No conditions of its own. -/
import Derived.Test.YteklgnhfgdhdiaaGreatZ29
namespace Go.Z
set_option linter.unusedVariables false
set_option linter.unusedSimpArgs false
open Go Go.RowKit
/-! Rows that are lent: what is moved into another row is still read where it is. -/
section
variable {P:Program} {w:World} {M:List Nat} {w0:World} {Δ Γ:List (Nat×Chunk)}
theorem run_apL (k:Nat) {α:Type} {L:Lay α} {E t ty:TypeId} {A:Option Addr} {cap:Nat} {xs ys:List α} {c dn e:Chunk} {fss:List (List Value)} {sv zv:Value} {sz:Nat}
    (hs:Sat M w0 w Δ Γ) (hg:kget Γ k=some e) (he:e=c++dn) (hown:Own L E A cap xs c) (hys:AllOwn L ys fss dn) (hsrc:Src w sv ys.length fss.flatten)
    (ht:P.underlying t=some (.slice E)) (hmk:mkB P E=some (zv,sz)) (hLs:L.size=sz) (hpos:0<sz) (hzc:zv.cells.size=sz) (hn:xs.length+ys.length≤1073741824) :
    ∃ A1 cap1 c1 w',(Builtin.append_ #[t,t] ty #[.slice A xs.length cap,sv]).run P w = .ok (.slice A1 (xs++ys).length cap1) w'∧Own L E A1 cap1 (xs++ys) c1∧Sat M w0 w' Δ ((k,c1) :: kdel Γ k)∧∀ z∈dn,z∈c1:=by
  obtain ⟨inf,hi,hb,hzv,hsz⟩:=mkB_spec hmk
  have hLi:L.size=inf.size:=by omega
  have hm:maxLen=9223372036854775807:=rfl
  have hfl:=hys.flatten_len
  have h1:=Lay.ones hys
  rcases hsrc with ⟨hn0,m,rfl⟩ | ⟨a,m,rfl,hnews⟩
  · have hy:ys=[]:=List.eq_nil_of_length_eq_zero hn0
    subst hy
    cases hys
    have he':e=c:=by simpa using he
    subst he'
    refine ⟨A,cap,_,w,?_,by simpa using hown,hs.top hg,fun z hz=>by simp at hz⟩
    rw [run_append_none ht hi hown.view.le];simp
  · have hbytes:(xs.length+ys.length)*inf.bytes≤140737488355328:=by
      have:=Nat.mul_le_mul hn hb
      omega
    rcases hown with ⟨rfl,rfl,rfl,rfl⟩ | ⟨b,rfl,cs,ess,cd,rfl,hall,htake,hcs,hle,htop⟩
    · by_cases hm0:ys.length=0
      · have hy:ys=[]:=List.eq_nil_of_length_eq_zero hm0
        subst hy
        cases hys
        have he':e=[]:=by simpa using he
        subst he'
        refine ⟨none,0,[],w,?_,Own.nil _ _,hs.top hg,fun z hz=>by simp at hz⟩
        simp [Builtin.append_,run_underlying ht,sizeOf,typeInfo,hi,Builtin.lenOf,Builtin.firstCells,loadCells,loadCellsFrom]
      · have hr:=run_append_nil (P:=P) w t ty E inf zv ht hi hzv a ys.length m fss.flatten (by rw [hfl,hLi]) hnews (by omega) (by simp at hn;omega) (by simp at hbytes;omega)
        have hge:=grownCap_ge w ys.length 0 E
        have hcm:=grownCap_le_maxLen w ys.length 0 E (by simp at hn;omega)
        let nr:Array Value:=fss.flatten.toArray++Builtin.zeroCells zv.cells (grownCap w ys.length 0 E-ys.length)
        refine ⟨_,_,(w.heap.size,.cells nr E (0,0)) :: dn,w.drew.alloc (.cells nr E),by simpa [nr] using hr,.inr ⟨_,rfl,_,fss,dn,rfl,by simpa using hys,?_,?_,by simpa using hge,hcm⟩,?_,fun z hz=>List.mem_cons_of_mem _ hz⟩
        · simp only [nr,List.nil_append,Array.toList_append,List.toList_toArray]
          rw [← hfl];exact List.take_left' rfl
        · simp only [nr,Array.size_append,List.size_toArray,size_zeroCells,hzc,hfl,hLs,← Nat.add_mul]
          congr 1;omega
        · have h2:=hs.drew.alloc k (.cells nr E)
          have h3:=h2.join k (kget_cons _ _ _) (by simp only [kdel,Nat.beq_refl,if_true];exact hg)
          have h4:=h3.top (kget_cons _ _ _)
          simp only [kdel,Nat.beq_refl,if_true] at h4
          have he':e=dn:=by simpa using he
          rw [he'] at h4
          exact h4
    · have he':e=(b,.cells cs E (0,0)) :: (cd++dn):=by rw [he];rfl
      subst he'
      have hbw:w.heap[b]? = some (.cells cs E (0,0)):=hs.hasG hg (b,.cells cs E (0,0)) (List.mem_cons_self ..)
      have hxl:=hall.flatten_len
      by_cases hroom:xs.length+ys.length≤cap
      · have hfit:xs.length*inf.size+fss.flatten.length≤cs.size:=by
          rw [hfl,hcs,← hLi,← Nat.add_mul];exact Nat.mul_le_mul_right _ hroom
        have hr:=run_append_room (P:=P) w t ty E inf ht hi b xs.length cap cs hbw a ys.length m fss.flatten (by rw [hfl,hLi]) hnews h1 hroom hfit
        let cs':Array Value:=(cs.toList.take (xs.length*inf.size)++fss.flatten++cs.toList.drop (xs.length*inf.size+fss.flatten.length)).toArray
        refine ⟨some ⟨b,0,none⟩,cap,(b,.cells cs' E (0,0)) :: (cd++dn),w.setRow b cs',by rw [hr,List.length_append],.inr ⟨b,rfl,cs',ess++fss,cd++dn,rfl,hall.app hys,?_,?_,by simpa using hroom,htop⟩,?_,fun z hz=>List.mem_cons_of_mem _ (List.mem_append_right _ hz)⟩
        · simp only [cs',List.toList_toArray,List.flatten_append]
          rw [← hLi,htake]
          apply List.take_left'
          rw [List.length_append,List.length_append,hxl,hfl,Nat.add_mul]
        · simp only [cs',List.size_toArray,List.length_append,List.length_take,List.length_drop,Array.length_toList]
          omega
        · have h2:=hs.write (d:=(b,.cells cs' E (0,0)) :: (cd++dn)) (cs':=cs') hg (List.mem_cons_self ..) (by simp [cblk]) (by
            intro q hq
            have hnd:=hs.nodupk hg
            simp only [cblk,List.map_cons,List.nodup_cons] at hnd
            rcases List.mem_cons.1 hq with rfl | hq
            · exact .inl rfl
            · exact .inr ⟨List.mem_cons_of_mem _ hq,fun e=>hnd.1 (e ▸ List.mem_map.2 ⟨q,hq,rfl⟩)⟩)
          have h3:=h2.top (kget_kset hg)
          rwa [kdel_kset] at h3
      · have holds:∀ j u,ess.flatten[j]? = some u→w.cell? ((⟨b,0,none⟩:Addr).add j)=some u:=by
          intro j u hu
          rw [addr_add0,cell_of_row w b j cs E (0,0) hbw]
          rw [← htake,List.getElem?_take] at hu
          split at hu
          · simpa using hu
          · cases hu
        have hr:=run_append_grow (P:=P) w t ty E inf zv ht hi hzv ⟨b,0,none⟩ xs.length cap ess.flatten (by rw [hxl,hLi]) holds a ys.length m fss.flatten (by rw [hfl,hLi]) hnews (by omega) (by omega) (growslice_fits (by omega) hbytes)
        have hge:=grownCap_ge w (xs.length+ys.length) cap E
        have hcm:=grownCap_le_maxLen w (xs.length+ys.length) cap E (by omega)
        let nr:Array Value:=ess.flatten.toArray++fss.flatten.toArray++Builtin.zeroCells zv.cells (grownCap w (xs.length+ys.length) cap E-(xs.length+ys.length))
        refine ⟨_,_,(w.heap.size,.cells nr E (0,0)) :: (cd++dn),w.drew.alloc (.cells nr E),by rw [hr,List.length_append],.inr ⟨_,rfl,_,ess++fss,cd++dn,rfl,hall.app hys,?_,?_,by simpa using hge,hcm⟩,?_,fun z hz=>List.mem_cons_of_mem _ (List.mem_append_right _ hz)⟩
        · simp only [nr,Array.toList_append,List.toList_toArray,List.flatten_append]
          apply List.take_left'
          rw [List.length_append,List.length_append,hxl,hfl,Nat.add_mul]
        · simp only [nr,Array.size_append,List.size_toArray,size_zeroCells,hzc,hfl,hxl,hLs,← Nat.add_mul]
          congr 1;omega
        · have h2:=hs.drew.alloc k (.cells nr E)
          have h3:=h2.join k (kget_cons _ _ _) (by simp only [kdel,Nat.beq_refl,if_true];exact hg)
          have h4:=h3.less (k:=k) ((w.heap.size,.cells nr E) :: (cd++dn)) [(b,.cells cs E (0,0))] (kget_cons _ _ _) (by
            simp only [List.cons_append,List.nil_append]
            refine List.Perm.cons _ ?_
            exact List.perm_append_comm)
          simp only [kdel,Nat.beq_refl,if_true] at h4
          exact h4
end
section
variable {α:Type} {L:Lay α}
theorem own_srcL {E:TypeId} {A:Option Addr} {cap:Nat} {ys:List α} {c:Chunk} {w:World} (ho:Own L E A cap ys c) (hw:Has w c) :
    ∃ fss dn hd,c=hd++dn∧AllOwn L ys fss dn∧Src w (.slice A ys.length cap) ys.length fss.flatten∧∀ b o q,c=(b,o) :: q→∀ z∈q,z∈dn:=by
  rcases ho with ⟨rfl,rfl,rfl,rfl⟩ | ⟨b,rfl,cs,ess,d,rfl,hall,htake,hcs,hle,htop⟩
  · exact ⟨[],[],[],rfl,.nil,.inl ⟨rfl,0,rfl⟩,fun _ _ _ h=>by cases h⟩
  · refine ⟨ess,d,[(b,.cells cs E (0,0))],rfl,hall,.inr ⟨_,cap,rfl,fun j u hu=>?_⟩,fun _ _ q h z hz=>by
      injection h with _ h;rw [h];exact hz⟩
    rw [addr_add0,cell_of_row w b j cs E (0,0) (hw _ (List.mem_cons_self ..))]
    rw [← htake,List.getElem?_take] at hu
    split at hu
    · simpa using hu
    · cases hu
end
section steps
variable {P:Program} {ops:List Oper} {Q:Exit→Act→World→Prop} {o:Oper} {rest:List Oper} {a:Act} {w w':World} {σ:List (Nat×Value)} {n d:Nat} {M:List Nat} {w0:World} {Δ Γ:List (Nat×Chunk)}
theorem sapmL (k kd:Nat) {α:Type} {L:Lay α} {E t:TypeId} {A A':Option Addr} {cap cap' lx ly:Nat} {xs ys:List α} {c c2:Chunk} {x y:Operand} {zv:Value} {sz:Nat}
    (hs:Sat M w0 w Δ Γ) (hg:kget Γ k=some c) (hgd:kget (kdel Γ k) kd=some c2) (hown:Own L E A cap xs c) (hv:Own L E A' cap' ys c2)
    (ho:o.op = .call ⟨.builtin .append,#[x,y],#[t,t]⟩) (hk:Kn σ n a) (hd:o.dst=some d) (hx:rho? σ x=some (.slice A lx cap)) (hlx:lx=xs.length) (hy:rho? σ y=some (.slice A' ly cap')) (hly:ly=ys.length) (hc:chk ops n σ o d=true)
    (ht:P.underlying t=some (.slice E)) (hmk:mkB P E=some (zv,sz)) (hLs:L.size=sz) (hpos:Nat.blt 0 sz=true) (hzc:zv.cells.size=sz) (hn:xs.length+ys.length≤1073741824)
    (next:∀ A1 cap1 c1 w' a,Kn ((d,.slice A1 (xs++ys).length cap1) :: σ) n a→Own L E A1 cap1 (xs++ys) c1→Sat M w0 w' Δ ((k,c1) :: kdel (kdel Γ k) kd)→(∀ b o q,c2=(b,o) :: q→∀ z∈q,z∈c1)→wpList P ops.toArray Q rest a w'):wpList P ops.toArray Q (o :: rest) a w:=by
  subst hlx;subst hly
  have hw:Has w c2:=hs.drop k |>.hasG hgd
  obtain ⟨fss,dn,hdr,he,h1,h2,hq⟩:=own_srcL hv hw
  have hs1:=hs.join k hg hgd
  have hs2:=hs1.less (k:=k) (c++dn) hdr (kget_cons _ _ _) (by
    rw [he,List.append_assoc]
    exact List.Perm.append_left _ List.perm_append_comm)
  simp only [kdel,Nat.beq_refl,if_true] at hs2
  obtain ⟨A1,cap1,c1,w',h3,h4,h5,h6⟩:=run_apL (P:=P) (ty:=o.type) k hs2 (kget_cons _ _ _) rfl hown h1 h2 ht hmk hLs (by simpa using hpos) hzc hn
  simp only [kdel,Nat.beq_refl,if_true] at h5
  exact sv _ hk hd hc (run_appendOp ho hx hy h3) fun a hk=>next A1 cap1 c1 w' a hk h4 h5 fun b o q e z hz=>h6 z (hq b o q e z hz)
theorem sbs1L (k kd:Nat) {α:Type} {L:Lay α} {E t:TypeId} {len:Nat} {parts:Array (Nat×Operand)} {pv:List (Nat×Value)} {cells:Array Value} {xs:List α} {ess:List (List Value)} {dn:Chunk}
    (hs:Sat M w0 w Δ Γ) (hgd:kget Γ kd=some dn) (ho:o.op = .buildSlice t len parts) (hk:Kn σ n a) (hd:o.dst=some d) (hp:parts.toList.map (fun x=>(x.1,rho σ x.2))=pv) (hc:chk ops n σ o d=true)
    (ht:P.underlying t=some (.slice E)) (hb:sliceB P E len pv=some cells) (hall:AllOwn L xs ess dn) (hcs:cells.toList=ess.flatten) (hlen:len=xs.length) (htop:Nat.ble len 16777216=true)
    (next:∀ b c' w' a,Kn ((d,.slice (some ⟨b,0,none⟩) len len) :: σ) n a→Own L E (some ⟨b,0,none⟩) len xs c'→Sat M w0 w' Δ ((k,c') :: kdel Γ kd)→(∃ b o,c'=(b,o) :: dn)→wpList P ops.toArray Q rest a w'):wpList P ops.toArray Q (o :: rest) a w:=by
  have h2:(parts.map (fun x=>(x.1,rho σ x.2))).toList=pv:=by rw [← hp];simp
  have hr:=run_sliceB (P:=P) (w:=w) (t:=t) (len:=len) (parts:=parts.map (fun x=>(x.1,rho σ x.2))) ht (by rw [h2];exact hb)
  have hfl:=hall.flatten_len
  have htop':len≤16777216:=Nat.le_of_ble_eq_true htop
  have hs1:=(hs.alloc k (.cells cells E)).join k (kget_cons _ _ _) (by simp only [kdel,Nat.beq_refl,if_true];exact hgd)
  simp only [kdel,Nat.beq_refl,if_true] at hs1
  refine sv _ hk hd hc (by simp only [execOp,ho,Sem.run_bind];rw [hr];simp) fun a hk=>next w.heap.size _ _ a hk (.inr ⟨_,rfl,cells,ess,dn,rfl,hall,?_,?_,by omega,by simp only [maxLen];omega⟩) hs1 ⟨_,_,rfl⟩
  · rw [hcs];apply List.take_of_length_le;omega
  · have:cells.size=cells.toList.length:=by simp
    rw [this,hcs,hfl,hlen]
/-! Copy of texts. -/
theorem allown_strs {xs:List ByteArray} {ess:List (List Value)} {d:Chunk} (h:AllOwn Lay.str xs ess d):ess.flatten=xs.map Value.string∧d=[]:=by
  induction h with
  | nil=>exact ⟨rfl,rfl⟩
  | cons h1 _ ih =>
    obtain ⟨rfl,rfl⟩:=h1
    exact ⟨by simp [ih.1],by simp [ih.2]⟩
theorem allown_sk:∀ xs:List ByteArray,AllOwn Lay.str xs (xs.map fun x=>[Value.string x]) []
  | []=>.nil
  | x :: r=>AllOwn.cons0 ⟨rfl,rfl⟩ (allown_sk r)
theorem flat_strs:∀ xs:List ByteArray,(xs.map fun x=>[Value.string x]).flatten=xs.map Value.string
  | []=>rfl
  | x :: r=>by simp [flat_strs r]
/-- Texts are copied over the first of one's own. -/
theorem scpS (k:Nat) {t t2 E:TypeId} {x y:Operand} {A A':Option Addr} {cap cap' lx ly:Nat} {xs ys:List ByteArray} {c c2:Chunk} (hs:Sat M w0 w Δ Γ) (hg:kget Γ k=some c) (hown:Own Lay.str E A cap xs c) (hv:View Lay.str A' cap' ys c2) (hw:Has w c2)
    (ho:o.op = .call ⟨.builtin .copy,#[x,y],#[t,t2]⟩) (hk:Kn σ n a) (hd:o.dst=some d) (hx:rho? σ x=some (.slice A lx cap)) (hlx:lx=xs.length) (hy:rho? σ y=some (.slice A' ly cap')) (hly:ly=ys.length) (hc:chk ops n σ o d=true)
    (ht:P.underlying t=some (.slice E)) (hz:szB P E=some 1) (h0:0<ys.length) (h1:ys.length≤xs.length)
    (next:∀ c' w' a,Kn ((d,.int .i64 ys.length) :: σ) n a→Own Lay.str E A cap (ys++xs.drop ys.length) c'→Sat M w0 w' Δ (kset Γ k c')→wpList P ops.toArray Q rest a w'):wpList P ops.toArray Q (o :: rest) a w:=by
  subst hlx hly
  rcases hown with ⟨rfl,rfl,rfl,rfl⟩ | ⟨b,rfl,cs,ess,dd,rfl,hall,htake,hcs,hle,htop⟩
  · have h1:ys.length≤0:=h1
    omega
  obtain ⟨e1,rfl⟩:=allown_strs hall
  have hsz:Lay.str.size=1:=rfl
  rw [hsz,Nat.mul_one] at htake hcs
  obtain ⟨⟨b2,o2,rfl⟩,_⟩:=hv.row 0 ys[0] (List.getElem?_eq_getElem h0)
  have hmin:Nat.min ys.length xs.length=ys.length:=Nat.min_eq_left h1
  have hl:(ys.map Value.string).length=ys.length:=List.length_map _
  refine scp k (cs.toList.take 0++ys.map Value.string++cs.toList.drop (0+(ys.map Value.string).length)).toArray (ys.map Value.string) (sz:=1) hs hg (ad:=⟨b2,o2,none⟩) (fun j u hu=>?_) (fun u hu=>?_) (by rw [hl,hmin,Nat.mul_one]) (by rw [hl];omega) ho hk hd hx hy hc ht hz rfl fun w' a hk hs=>?_
  · rw [List.getElem?_map] at hu
    obtain ⟨s,hs1,rfl⟩:=Option.map_eq_some_iff.1 hu
    obtain ⟨_,es,h2,h3⟩:=hv.row j s hs1
    have h2:es=[Value.string s]:=h2
    subst h2
    have:=(h3 0 _ rfl).cell hw
    rw [addr_add1]
    have e:(⟨(padd (some ⟨b2,o2,none⟩) 0).block,(padd (some ⟨b2,o2,none⟩) 0).off+(j*Lay.str.size+0),none⟩:Addr)=⟨b2,o2+j,none⟩:=by simp [padd,hsz]
    rw [e] at this;exact this
  · obtain ⟨s,_,rfl⟩:=List.mem_map.1 hu
    rfl
  · rw [hmin] at hk
    refine next _ w' a hk (.inr ⟨b,rfl,_,(ys++xs.drop ys.length).map fun x=>[Value.string x],[],rfl,allown_sk _,?_,?_,by rw [List.length_append,List.length_drop];omega,htop⟩) hs
    · rw [flat_strs,hsz,Nat.mul_one,List.toList_toArray,List.take_zero,List.nil_append,hl,Nat.zero_add,List.map_append,List.length_append,List.length_drop,List.take_append,hl,List.take_of_length_le (l:=ys.map Value.string) (by rw [hl];omega),List.map_drop,← e1,← htake,List.take_drop,show ys.length+(ys.length+(xs.length-ys.length)-ys.length)=xs.length by omega]
    · simp only [List.size_toArray,List.length_append,List.length_take,List.length_drop,Array.length_toList,hl,hsz]
      omega
end steps
end Go.Z
