/- Lemmas for walks: frames known by slots, heaps known by chunks. No conditions of its own. -/
import Derived.Test.YteklgnhfgdhdiaaGreatZ20
import Derived.Shelf.Strings.Builder1
namespace Go.Z
set_option linter.unusedVariables false
set_option linter.unusedSimpArgs false
open Go Go.RowKit
section steps
variable {P:Program} {ops:List Oper} {Q:Exit→Act→World→Prop} {o:Oper} {rest:List Oper} {a:Act} {w w':World} {σ:List (Nat×Value)} {n d:Nat}
/-- A SHIFT BY WHAT IS NOT NEGATIVE. -/
theorem ssr {t t':TypeId} {x y:Operand} {k k':IntKind} {p q:Int} (ho:o.op = .binOp .shr t x y t') (hk:Kn σ n a) (hd:o.dst=some d) (hx:rho? σ x=some (.int k p)) (hy:rho? σ y=some (.int k' q)) (hc:chk ops n σ o d=true) (hq:0≤q)
    (next:∀ a,Kn ((d,.int k (p.fdiv (2 ^ min q.toNat k.bits))) :: σ) n a→wpList P ops.toArray Q rest a w):wpList P ops.toArray Q (o :: rest) a w :=
  sv _ hk hd hc (by simp [execOp,ho,rho?_eq hx,rho?_eq hy,eqGuard,binOp,Op.shift,(show ¬ q<0 by omega)]) next
theorem ssh {t t':TypeId} {x y:Operand} {k k':IntKind} {p q:Int} (ho:o.op = .binOp .shl t x y t') (hk:Kn σ n a) (hd:o.dst=some d) (hx:rho? σ x=some (.int k p)) (hy:rho? σ y=some (.int k' q)) (hc:chk ops n σ o d=true) (hq:0≤q)
    (next:∀ a,Kn ((d,.int k (k.wrap (p*2 ^ min q.toNat k.bits))) :: σ) n a→wpList P ops.toArray Q rest a w):wpList P ops.toArray Q (o :: rest) a w :=
  sv _ hk hd hc (by simp [execOp,ho,rho?_eq hx,rho?_eq hy,eqGuard,binOp,Op.shift,(show ¬ q<0 by omega)]) next
end steps
theorem Sat.ofBelow {w w':World} (h:Below w.heap.size w w'):Sat [] w w' [] []:=⟨h.os,h.tape,h.output,h.size,fun k hk _=>h.block k hk,by simp,by simp,by simp [blks],by simp [blks],by simp [blks]⟩
theorem has_bel {w w':World} {c:Chunk} (h:Has w c) (hb:Below w.heap.size w w'):Has w' c:=fun x hx=>by
  have h1:=h x hx
  have hlt:x.1<w.heap.size:=by
    rcases Nat.lt_or_ge x.1 w.heap.size with h' | h'
    · exact h'
    · simp [Array.getElem?_eq_none h'] at h1
  rw [hb.block _ hlt];exact h1
theorem ba_len (u:ByteArray):u.data.toList.length=u.size:=by rw [Array.length_toList];rfl
theorem bc_app (u v:ByteArray):Lib.byteCells (u++v).data.toList=Lib.byteCells u.data.toList++Lib.strCells v:=by
  rw [Lib.strCells_eq];simp [Lib.byteCells]
theorem bld_F {T e:TypeId} {B b:Nat} {p:Value} {bs:List Value} {w w':World} (h:Lib.BuilderAt T e B b p bs w) (hf:Below w.heap.size w w'):Lib.BuilderAt T e B b p bs w':=by
  obtain ⟨hB,v,hb,hown,hne⟩:=h
  have lt:∀ {g:Nat} {o:Obj},w.heap[g]? = some o→w'.heap[g]? = some o:=fun {g o} hg=>by
    have hlt:g<w.heap.size:=by
      rcases Nat.lt_or_ge g w.heap.size with h' | h'
      · exact h'
      · simp [Array.getElem?_eq_none h'] at hg
    rw [hf.block _ hlt];exact hg
  refine ⟨hB,v,lt hb,⟨hown.1,?_⟩,hne⟩
  rcases hown.2 with h1 | ⟨g,cap,cur,h1,h2,h3,h4⟩
  · exact .inl h1
  · exact .inr ⟨g,cap,cur,h1,h2,lt h3,h4⟩
theorem zeroCells_flat (zc:Array Value) (n:Nat):(Builtin.zeroCells zc n).toList=(List.replicate n zc.toList).flatten:=by
  have h:=madeCells_eq zc.toList n
  simp only [Array.toArray_toList,Array.length_toList] at h
  rw [← h];rfl
section
variable {P:Program} {w:World} {M:List Nat} {w0:World} {Δ Γ:List (Nat×Chunk)}
/-- APPEND OF MADE ELEMENTS: append(xs, make([]T, n)...). -/
theorem run_apz (k:Nat) {α:Type} {L:Lay α} {E t tn ty:TypeId} {A:Option Addr} {cap:Nat} {xs:List α} {c:Chunk} {z:α} {zv:Value} {sz n:Nat} {kn kq:IntKind}
    (hs:Sat M w0 w Δ Γ) (hg:kget Γ k=some c) (hown:Own L E A cap xs c) (hz:L.own z zv.cells.toList [])
    (ht:P.underlying t=some (.slice E)) (htn:P.underlying tn=some (.int kn)) (hmk:mkB P E=some (zv,sz)) (hLs:L.size=sz) (hpos:0<sz) (hzc:zv.cells.size=sz) (hn:xs.length+n≤1073741824) :
    ∃ A1 cap1 c1 w',(Builtin.append_ #[t,tn] ty #[.slice A xs.length cap,.int kq n]).run P w = .ok (.slice A1 (xs++List.replicate n z).length cap1) w'∧Own L E A1 cap1 (xs++List.replicate n z) c1∧Sat M w0 w' Δ ((k,c1) :: kdel Γ k):=by
  obtain ⟨inf,hi,hb,hzv,hsz⟩:=mkB_spec hmk
  have hLi:L.size=inf.size:=by omega
  have hm:maxLen=9223372036854775807:=rfl
  have hcap:=hown.view.le
  have hbytes:(xs.length+n)*inf.bytes≤140737488355328:=by
    have:=Nat.mul_le_mul hn hb
    omega
  have hnb:n*inf.bytes≤281474976710656:=by
    have:=Nat.mul_le_mul_right inf.bytes (show n≤xs.length+n by omega)
    omega
  have hrep:=AllOwn.rep hz n
  have hzl:((List.replicate n zv.cells.toList).flatten).length=n*sz:=by simp [hzc]
  have h1z:=Lay.ones hrep
  have hw:IntKind.i64.wrap (n:Int)=n:=by rw [IntKind.wrap_i64];omega
  have h48i:¬ (281474976710656<(n:Int)*(inf.bytes:Int)):=by
    rw [← Int.natCast_mul];omega
  have hneg:¬ ((n:Int)<0):=by omega
  by_cases hn0:n=0
  · subst hn0
    refine ⟨A,cap,c,w,?_,by simpa using hown,hs.top hg⟩
    cases A with
    | none=>simp [Builtin.append_,run_underlying ht,run_underlying htn,sizeOf,typeInfo,hi,asInt,asIntOf,hcap,IntKind.wrap_i64]
    | some a=>simp [Builtin.append_,run_underlying ht,run_underlying htn,sizeOf,typeInfo,hi,asInt,asIntOf,hcap,storeCells,IntKind.wrap_i64]
  · have hns:¬ (n*inf.size=0):=Nat.mul_ne_zero hn0 (by omega)
    rcases hown with ⟨rfl,rfl,rfl,rfl⟩ | ⟨b,rfl,cs,ess,cd,rfl,hall,htake,hcs,hle,htop⟩
    · have hr:=Lib.run_append_grow_zeros (P:=P) w t tn ty E inf zv kq kn ht htn hi hzv none 0 0 [] (by simp [Builtin.firstCells]) n (by omega) (by omega) (by omega) (by omega) hnb (growslice_fits (by omega) (by simpa using hbytes))
      have hge:=grownCap_ge w n 0 E
      have hcm:=grownCap_le_maxLen w n 0 E (by simp at hn;omega)
      rw [Nat.zero_add] at hr
      let nr:Array Value:=(List.toArray ([]:List Value))++Builtin.zeroCells zv.cells n++Builtin.zeroCells zv.cells (grownCap w n 0 E-n)
      refine ⟨_,_,[(w.heap.size,.cells nr E (0,0))],w.drew.alloc (.cells nr E),by rw [List.nil_append,List.length_replicate];exact hr,.inr ⟨_,rfl,nr,List.replicate n zv.cells.toList,[],rfl,by simpa using hrep,?_,?_,by simpa using hge,hcm⟩,?_⟩
      · simp only [nr,List.nil_append,List.length_replicate,Array.toList_append,zeroCells_flat,hLs,List.append_assoc]
        exact List.take_left' hzl
      · simp only [nr,Array.size_append,size_zeroCells,hzc,hLs,List.size_toArray,List.length_nil]
        rw [Nat.zero_add,← Nat.add_mul]
        congr 1;omega
      · have h2:=hs.drew.alloc k (.cells nr E)
        have h3:=h2.join k (kget_cons _ _ _) (by simp only [kdel,Nat.beq_refl,if_true];exact hg)
        have h4:=h3.top (kget_cons _ _ _)
        simp only [kdel,Nat.beq_refl,if_true] at h4
        exact h4
    · have hbw:w.heap[b]? = some (.cells cs E (0,0)):=hs.hasG hg (b,.cells cs E (0,0)) (List.mem_cons_self ..)
      have hxl:=hall.flatten_len
      have hall2:=hall.app hrep
      rw [List.append_nil] at hall2
      by_cases hroom:xs.length+n≤cap
      · have hfit:xs.length*inf.size+(List.replicate n zv.cells.toList).flatten.length≤cs.size:=by
          rw [hzl,hcs,hLi,← hLs,hLi,← Nat.add_mul];exact Nat.mul_le_mul_right _ hroom
        have hst:=run_storeCells_at P b (xs.length*inf.size) E (List.replicate n zv.cells.toList).flatten 0 cs w hbw (by simpa using hfit) h1z
        simp only [Nat.add_zero] at hst
        have hr:(Builtin.append_ #[t,tn] ty #[.slice (some ⟨b,0,none⟩) xs.length cap,.int kq n]).run P w = .ok (.slice (some ⟨b,0,none⟩) (xs.length+n) cap) (w.setRow b (cs.toList.take (xs.length*inf.size)++(List.replicate n zv.cells.toList).flatten++cs.toList.drop (xs.length*inf.size+(List.replicate n zv.cells.toList).flatten.length)).toArray):=by
          simp [Builtin.append_,run_underlying ht,run_underlying htn,sizeOf,typeInfo,zeroValue,hi,hzv,asInt,asIntOf,hw,hneg,h48i,hns,hroom,zeroCells_flat,Addr.add_lit]
          simp at hst
          rw [hst]
          simp
        let cs':Array Value:=(cs.toList.take (xs.length*inf.size)++(List.replicate n zv.cells.toList).flatten++cs.toList.drop (xs.length*inf.size+(List.replicate n zv.cells.toList).flatten.length)).toArray
        refine ⟨some ⟨b,0,none⟩,cap,(b,.cells cs' E (0,0)) :: cd,w.setRow b cs',by rw [hr,List.length_append,List.length_replicate],.inr ⟨b,rfl,cs',_,cd,rfl,hall2,?_,?_,by simpa using hroom,htop⟩,?_⟩
        · simp only [cs',List.toList_toArray,List.flatten_append]
          rw [← hLi,htake]
          apply List.take_left'
          rw [List.length_append,List.length_append,hxl,hzl,Nat.add_mul,List.length_replicate,hLs]
        · simp only [cs',List.size_toArray,List.length_append,List.length_take,List.length_drop,Array.length_toList]
          omega
        · have h2:=hs.write (d:=(b,.cells cs' E (0,0)) :: cd) (cs':=cs') hg (List.mem_cons_self ..) (by simp [cblk]) (by
            intro q hq
            have hnd:=hs.nodupk hg
            simp only [cblk,List.map_cons,List.nodup_cons] at hnd
            rcases List.mem_cons.1 hq with rfl | hq
            · exact .inl rfl
            · exact .inr ⟨List.mem_cons_of_mem _ hq,fun e=>hnd.1 (e ▸ List.mem_map.2 ⟨q,hq,rfl⟩)⟩)
          have h3:=h2.top (kget_kset hg)
          rwa [kdel_kset] at h3
      · have hfo:=run_firstCells_some (P:=P) w.drew inf.size xs.length ⟨b,0,none⟩ xs.length cap ess.flatten (by rw [hxl,hLi]) (fun j u hu=>by
          rw [addr_add0]
          have:w.cell? ⟨b,j,none⟩=some u:=by
            rw [cell_of_row w b j cs E (0,0) hbw]
            rw [← htake,List.getElem?_take] at hu
            split at hu
            · simpa using hu
            · cases hu
          simpa using this)
        have hr:=Lib.run_append_grow_zeros (P:=P) w t tn ty E inf zv kq kn ht htn hi hzv (some ⟨b,0,none⟩) xs.length cap _ hfo n (by omega) (by omega) (by omega) (by omega) hnb (growslice_fits (by omega) hbytes)
        have hge:=grownCap_ge w (xs.length+n) cap E
        have hcm:=grownCap_le_maxLen w (xs.length+n) cap E (by omega)
        let nr:Array Value:=ess.flatten.toArray++Builtin.zeroCells zv.cells n++Builtin.zeroCells zv.cells (grownCap w (xs.length+n) cap E-(xs.length+n))
        refine ⟨_,_,(w.heap.size,.cells nr E (0,0)) :: cd,w.drew.alloc (.cells nr E),by rw [hr,List.length_append,List.length_replicate],.inr ⟨_,rfl,_,_,cd,rfl,hall2,?_,?_,by simpa using hge,hcm⟩,?_⟩
        · simp only [nr,Array.toList_append,List.toList_toArray,List.flatten_append,zeroCells_flat]
          apply List.take_left'
          rw [List.length_append,List.length_append,hxl,hzl,Nat.add_mul,List.length_replicate,hLs]
        · simp only [nr,Array.size_append,List.size_toArray,size_zeroCells,hzc,hxl,hLs,← Nat.add_mul]
          congr 1;omega
        · have h2:=hs.drew.alloc k (.cells nr E)
          have h3:=h2.join k (kget_cons _ _ _) (by simp only [kdel,Nat.beq_refl,if_true];exact hg)
          have h4:=h3.less (k:=k) ((w.heap.size,.cells nr E) :: cd) [(b,.cells cs E (0,0))] (kget_cons _ _ _) (by
            simp only [List.cons_append,List.nil_append]
            refine List.Perm.cons _ ?_
            exact List.perm_append_comm)
          simp only [kdel,Nat.beq_refl,if_true] at h4
          exact h4
end
section steps
variable {P:Program} {ops:List Oper} {Q:Exit→Act→World→Prop} {o:Oper} {rest:List Oper} {a:Act} {w w':World} {σ:List (Nat×Value)} {n d:Nat} {M:List Nat} {w0:World} {Δ Γ:List (Nat×Chunk)}
theorem sapn (k:Nat) {α:Type} {L:Lay α} {E t tn:TypeId} {A:Option Addr} {cap lx:Nat} {xs:List α} {c:Chunk} {x y:Operand} {z:α} {zv:Value} {sz:Nat} {i:Int} {kn kq:IntKind}
    (hs:Sat M w0 w Δ Γ) (hg:kget Γ k=some c) (hown:Own L E A cap xs c) (hz:L.own z zv.cells.toList [])
    (ho:o.op = .call ⟨.builtin .append,#[x,y],#[t,tn]⟩) (hk:Kn σ n a) (hd:o.dst=some d) (hx:rho? σ x=some (.slice A lx cap)) (hlx:lx=xs.length) (hy:rho? σ y=some (.int kq i)) (hc:chk ops n σ o d=true)
    (ht:P.underlying t=some (.slice E)) (htn:P.underlying tn=some (.int kn)) (hmk:mkB P E=some (zv,sz)) (hLs:L.size=sz) (hpos:Nat.blt 0 sz=true) (hzc:zv.cells.size=sz) (hn:0≤i∧xs.length+i.toNat≤1073741824)
    (next:∀ A1 cap1 c1 w' a,Kn ((d,.slice A1 (xs++List.replicate i.toNat z).length cap1) :: σ) n a→Own L E A1 cap1 (xs++List.replicate i.toNat z) c1→Sat M w0 w' Δ ((k,c1) :: kdel Γ k)→wpList P ops.toArray Q rest a w'):wpList P ops.toArray Q (o :: rest) a w:=by
  subst hlx
  obtain ⟨m,rfl⟩:=Int.eq_ofNat_of_zero_le hn.1
  obtain ⟨A1,cap1,c1,w',h3,h4,h5⟩:=run_apz (P:=P) (ty:=o.type) (kn:=kn) (kq:=kq) (n:=m) k hs hg hown hz ht htn hmk hLs (by simpa using hpos) hzc (by simpa using hn.2)
  exact sv _ hk hd hc (by simp only [execOp,ho,resolve,invoke,builtin,List.map_toArray,List.map_cons,List.map_nil,rho?_eq hx,rho?_eq hy,Sem.run_bind,Sem.run_pure,Result.andThen_ok,h3];rfl) fun a hk=>next A1 cap1 c1 w' a hk h4 h5
end steps
end Go.Z
