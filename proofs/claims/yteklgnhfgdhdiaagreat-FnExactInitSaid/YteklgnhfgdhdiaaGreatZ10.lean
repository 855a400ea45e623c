/- Lemmas for walks: frames known by slots, heaps known by chunks. No conditions of its own. -/
import Derived.Test.YteklgnhfgdhdiaaGreatZ9
namespace Go.Z
set_option linter.unusedVariables false
set_option linter.unusedSimpArgs false
open Go Go.RowKit
section
variable {α:Type} {L:Lay α}
theorem AllOwn.len {xs:List α} {ess:List (List Value)} {c:Chunk} (h:AllOwn L xs ess c):ess.length=xs.length:=h.views.1
theorem AllOwn.each {xs:List α} {ess:List (List Value)} {c:Chunk} (h:AllOwn L xs ess c):∀ e∈ess,e.length=L.size:=h.views.2.1
theorem AllOwn.app {xs ys:List α} {ess fss:List (List Value)} {c d:Chunk} (h:AllOwn L xs ess c) (k:AllOwn L ys fss d):AllOwn L (xs++ys) (ess++fss) (c++d):=by
  induction h with
  | nil=>exact k
  | cons h1 _ ih=>rw [List.append_assoc];exact .cons h1 ih
theorem AllOwn.take {xs:List α} {ess:List (List Value)} {c:Chunk} (h:AllOwn L xs ess c):∀ (i:Nat) (x:α),xs[i]? = some x →
    ∃ c1 d c2 es,c=c1++d++c2∧ess[i]? = some es∧L.own x es d∧∀ y es' d',L.own y es' d'→AllOwn L (xs.set i y) (ess.set i es') (c1++d'++c2):=by
  induction h with
  | nil=>intro i x hx;simp at hx
  | cons h1 h2 ih =>
    rename_i x0 es0 d0 xs0 ess0 c0
    intro i x hx
    cases i with
    | zero =>
      simp only [List.getElem?_cons_zero,Option.some.injEq] at hx
      subst hx
      exact ⟨[],d0,c0,es0,rfl,rfl,h1,fun y es' d' hy=>.cons hy h2⟩
    | succ i =>
      simp only [List.getElem?_cons_succ] at hx
      obtain ⟨c1,d,c2,es,rfl,he,ho,hs⟩:=ih i x hx
      refine ⟨d0++c1,d,c2,es,by simp only [List.append_assoc],by simpa using he,ho,fun y es' d' hy=>?_⟩
      have:=AllOwn.cons h1 (hs y es' d' hy)
      simpa only [List.append_assoc,List.set_cons_succ] using this
theorem AllOwn.rep {z:α} {zc:List Value} (hz:L.own z zc []):∀ n,AllOwn L (List.replicate n z) (List.replicate n zc) []
  | 0=>.nil
  | n+1=>by have:=AllOwn.cons hz (AllOwn.rep hz n);simpa [List.replicate_succ] using this
theorem AllOwn.one {x:α} {es:List Value} {d:Chunk} (h:L.own x es d):AllOwn L [x] [es] d:=by
  have:=AllOwn.cons h (AllOwn.nil (L:=L));simpa using this

theorem flatten_seg {n:Nat}:∀ (ess:List (List Value)) (i o m:Nat) (vc es:List Value),(∀ e∈ess,e.length=n)→ess[i]? = some es→vc.length=m→o+m≤n →
    (ess.set i (es.take o++vc++es.drop (o+m))).flatten=ess.flatten.take (i*n+o)++vc++ess.flatten.drop (i*n+o+m)
  | [],i,o,m,vc,es,_,h,_,_=>by simp at h
  | e :: r,0,o,m,vc,es,hn,h,hv,hom=>by
    simp only [List.getElem?_cons_zero,Option.some.injEq] at h
    subst h
    have he:=hn e (by simp)
    simp only [List.set_cons_zero,List.flatten_cons,Nat.zero_mul,Nat.zero_add]
    rw [List.take_append_of_le_length (by omega),List.drop_append_of_le_length (by omega)]
    simp only [List.append_assoc]
  | e :: r,i+1,o,m,vc,es,hn,h,hv,hom=>by
    simp only [List.getElem?_cons_succ] at h
    have ih:=flatten_seg r i o m vc es (fun x hx=>hn x (by simp [hx])) h hv hom
    have he:=hn e (by simp)
    simp only [List.set_cons_succ,List.flatten_cons,ih]
    have e1:(i+1)*n+o=e.length+(i*n+o):=by rw [Nat.add_mul,he];omega
    rw [e1,Nat.add_assoc e.length,List.take_length_add_append,List.drop_length_add_append]
    simp only [List.append_assoc]
theorem len_flatten {n:Nat}:∀ (ess:List (List Value)),(∀ e∈ess,e.length=n)→ess.flatten.length=ess.length*n
  | [],_=>by simp
  | e :: r,h=>by
    simp only [List.flatten_cons,List.length_append,List.length_cons,h e (by simp),len_flatten r (fun x hx=>h x (by simp [hx])),Nat.add_mul]
    omega
theorem flatten_rep (n:Nat) (zc:List Value):∀ j u,(List.replicate n zc).flatten[j]? = some u→zc[j % zc.length]? = some u:=by
  induction n with
  | zero=>simp
  | succ n ih =>
    intro j u h
    simp only [List.replicate_succ,List.flatten_cons] at h
    rcases Nat.lt_or_ge j zc.length with hj | hj
    · rw [List.getElem?_append_left hj] at h
      rw [Nat.mod_eq_of_lt hj];exact h
    · rw [List.getElem?_append_right hj] at h
      have:=ih _ _ h
      rw [Nat.mod_eq_sub_mod hj];exact this
theorem madeCells_eq (zc:List Value) (n:Nat):(madeCells zc.toArray (n*zc.length)).toList=(List.replicate n zc).flatten:=by
  have hl:(List.replicate n zc).flatten.length=n*zc.length:=by simp
  apply List.ext_getElem
  · simp [madeCells]
  · intro j h1 h2
    have:=flatten_rep n zc j _ (List.getElem?_eq_getElem h2)
    simp only [madeCells,Array.getElem_toList,Array.getElem_map,Array.getElem_range]
    obtain ⟨h3,h4⟩:=List.getElem?_eq_some_iff.1 this
    rw [getElem!_pos _ _ (by simpa using h3)]
    simpa using h4
end

theorem take_seg {α:Type} (cs:List α) (N p m:Nat) (vc:List α) (hm:vc.length=m) (h:p+m≤N) (hN:N≤cs.length):(cs.take p++vc++cs.drop (p+m)).take N=(cs.take N).take p++vc++(cs.take N).drop (p+m):=by
  obtain ⟨f,g,rfl,hf⟩:∃ f g,cs=f++g∧f.length=N:=⟨cs.take N,cs.drop N,(List.take_append_drop _ _).symm,by simp [hN]⟩
  subst hf
  have h1:(f++g).take p=f.take p:=List.take_append_of_le_length (by omega)
  have h2:(f++g).drop (p+m)=f.drop (p+m)++g:=List.drop_append_of_le_length (by omega)
  have h3:(f++g).take f.length=f:=List.take_left' rfl
  rw [h1,h2,h3,← List.append_assoc]
  apply List.take_left'
  simp only [List.length_append,List.length_take,List.length_drop];omega

theorem cond_some {α:Type} {c:Bool} {x y:Option α} {r:α} (h:(bif c then x else y)=some r):(c=true∧x=some r)∨(c=false∧y=some r):=by
  cases c
  · exact .inr ⟨rfl,h⟩
  · exact .inl ⟨rfl,h⟩
theorem Has.app {w:World} {c d:Chunk} (h:Has w c) (k:Has w d):Has w (c++d):=fun x hx=>by
  rcases List.mem_append.1 hx with hx | hx
  · exact h x hx
  · exact k x hx
theorem Has.left {w:World} {c d:Chunk} (h:Has w (c++d)):Has w c:=fun x hx=>h x (List.mem_append_left _ hx)
theorem Has.right {w:World} {c d:Chunk} (h:Has w (c++d)):Has w d:=fun x hx=>h x (List.mem_append_right _ hx)
section
variable {M:List Nat} {w0 w:World} {Δ Γ:List (Nat×Chunk)}
theorem box_cellD {k b off:Nat} {cs:Array Value} {t:TypeId} {fr:Nat×Nat} {v:Value} (h:Sat M w0 w Δ Γ) (hk:kget Δ k=some [(b,.cells cs t fr)]) (hc:cs[off]? = some v):w.cell? ⟨b,off,none⟩=some v:=by
  rw [cell_of_row w b off cs t fr (h.hasD hk _ (List.mem_singleton.2 rfl))];exact hc
end
theorem Kn.re {σ n a} {v v':Value} (h:Kn σ n a) (t:Nat) (ht:look σ t=some v) (e:v=v'):Kn ((t,v') :: σ) n a :=
  ⟨h.defers,h.size,fun s u hs=>by
    simp only [look] at hs
    by_cases q:t=s
    · subst q;rw [if_pos (by simp)] at hs;cases hs;subst e;exact h.slot t _ ht
    · rw [if_neg (fun h=>q (Nat.eq_of_beq_eq_true h))] at hs;exact h.slot s u hs⟩
theorem Kn.cl {σ τ n a} {v v':Value} (h:Kn σ n a) (t:Nat) (ht:look σ t=some v) (e:v=v') (k:Kn τ n a):Kn ((t,v') :: τ) n a:=by
  subst e;exact h.c t ht k

/-- What a row of one's own is, opened. -/
theorem Own.opened {α:Type} {L:Lay α} {E:TypeId} {A:Option Addr} {cap:Nat} {xs:List α} {c:Chunk} (h:Own L E A cap xs c) (hne:xs≠[]):∃ b,A=some ⟨b,0,none⟩∧Row L E b cap xs c:=by
  rcases h with ⟨_,_,rfl,_⟩ | h
  · exact absurd rfl hne
  · exact h

section
variable {M:List Nat} {w0 w:World} {Δ Γ:List (Nat×Chunk)}
theorem Sat.nodupk (h:Sat M w0 w Δ Γ) {k:Nat} {c:Chunk} (hk:kget Γ k=some c):(cblk c).Nodup :=
  (List.nodup_append.1 ((kget_perm hk).nodup_iff.1 h.nodup)).1
end

def mkB (P:Program) (E:TypeId):Option (Value×Nat) :=
  match P.info? E with
  | some i=>if Nat.ble i.bytes 131072 then (match i.zero with | some z=>some (z,i.size) | none=>none) else none
  | none=>none
theorem mkB_spec {P:Program} {E:TypeId} {z:Value} {n:Nat} (h:mkB P E=some (z,n)):∃ i,P.info? E=some i∧i.bytes≤131072∧i.zero=some z∧i.size=n:=by
  unfold mkB at h
  split at h
  · rename_i i hi
    split at h
    · rename_i hb
      split at h
      · rename_i z' hz;cases h;exact ⟨i,hi,Nat.le_of_ble_eq_true hb,hz,rfl⟩
      · cases h
    · cases h
  · cases h
section steps
variable {P:Program} {ops:List Oper} {Q:Exit→Act→World→Prop} {o:Oper} {rest:List Oper} {a:Act} {w w':World} {σ:List (Nat×Value)} {n d:Nat} {v:Value} {M:List Nat} {w0:World} {Δ Γ:List (Nat×Chunk)}

/-- A STORE INTO A ROW OF ONE'S OWN: into element i, from its cell j on; y: the element behind it. -/
theorem so (k:Nat) {α:Type} {L:Lay α} {E:TypeId} {A:Option Addr} {cap:Nat} {xs:List α} {c:Chunk} (z y:α) {i:Int} {j:Nat} {t:TypeId} {x u:Operand} {ad:Addr}
    (hs:Sat M w0 w Δ Γ) (hg:kget Γ k=some c) (hown:Own L E A cap xs c) (h0:0≤i) (h1:i<xs.length)
    (ho:o.op = .store t x u) (hk:Kn σ n a) (hd:o.dst=none) (hx:rho? σ x=some (.pointer (some ad))) (had:ad=padd A (i.toNat*L.size+j)) (hu:rho? σ u=some v) (hc:chk0 ops σ o=true)
    (hz:szB P t=some v.cells.size) (hone:∀ q∈v.cells.toList,q.oneCell'=true) (hjn:j+v.cells.size≤L.size)
    (hnew:∀ es d,L.own (xs.getD i.toNat z) es d→L.own y (es.take j++v.cells.toList++es.drop (j+v.cells.toList.length)) d)
    (next:∀ c' w' a,Kn σ n a→Own L E A cap (xs.set i.toNat y) c'→Sat M w0 w' Δ (kset Γ k c')→wpList P ops.toArray Q rest a w'):wpList P ops.toArray Q (o :: rest) a w:=by
  have hlt:i.toNat<xs.length:=by omega
  obtain ⟨b,rfl,cs,ess,dd,rfl,hall,htake,hsz,hle,htop⟩:=hown.opened (by rintro rfl;simp at hlt)
  have hx0:xs[i.toNat]? = some (xs.getD i.toNat z):=by simp [List.getD_eq_getElem?_getD,List.getElem?_eq_getElem hlt]
  obtain ⟨c1,d1,c2,es,rfl,hes,hoe,hput⟩:=hall.take i.toNat _ hx0
  have hvl:v.cells.toList.length=v.cells.size:=by simp
  have hb:w.heap[b]? = some (.cells cs E (0,0)):=hs.hasG hg (b,.cells cs E (0,0)) (List.mem_cons_self ..)
  have hfit:i.toNat*L.size+j+v.cells.size≤xs.length*L.size:=by
    have:(i.toNat+1)*L.size≤xs.length*L.size:=Nat.mul_le_mul_right _ (by omega)
    rw [Nat.add_mul] at this;omega
  have hcap:xs.length*L.size≤cap*L.size:=Nat.mul_le_mul_right _ hle
  have had':ad=⟨b,i.toNat*L.size+j,none⟩:=by rw [had];simp [padd]
  subst had'
  refine su (w':=w.setRow b (cs.toList.take (i.toNat*L.size+j)++v.cells.toList++cs.toList.drop (i.toNat*L.size+j+v.cells.size)).toArray) hk hd hc (by
    simp only [execOp,ho,rho?_eq hx,rho?_eq hu,Instr.storeAt,Instr.sureAddr,Sem.run_bind,Sem.run_pure,Result.andThen_ok]
    rw [run_storeV (off:=i.toNat*L.size+j) hz hb (by omega) hone]
    rfl) fun a hk=>?_
  refine next ((b,.cells (cs.toList.take (i.toNat*L.size+j)++v.cells.toList++cs.toList.drop (i.toNat*L.size+j+v.cells.size)).toArray E (0,0)) :: (c1++d1++c2)) _ a hk (.inr ⟨b,rfl,_,ess.set i.toNat (es.take j++v.cells.toList++es.drop (j+v.cells.toList.length)),_,rfl,hput _ _ _ (hnew _ _ hoe),?_,?_,by simpa using hle,htop⟩)
    (hs.write hg (List.mem_cons_self ..) (by simp [cblk]) ?_)
  · rw [List.length_set,flatten_seg ess i.toNat j v.cells.toList.length v.cells.toList es hall.each hes rfl (by omega)]
    have hcl:xs.length*L.size≤cs.toList.length:=by
      have:cs.toList.length=cs.size:=by simp
      omega
    rw [← htake]
    have:=take_seg cs.toList (xs.length*L.size) (i.toNat*L.size+j) v.cells.toList.length v.cells.toList rfl (by omega) hcl
    rw [hvl] at this
    simpa [hvl] using this
  · simp only [List.size_toArray,List.length_append,List.length_take,List.length_drop,Array.length_toList]
    omega
  · intro q hq
    have hnd:=hs.nodupk hg
    simp only [cblk,List.map_cons,List.nodup_cons] at hnd
    rcases List.mem_cons.1 hq with rfl | hq
    · exact .inl rfl
    · exact .inr ⟨List.mem_cons_of_mem _ hq,fun e=>hnd.1 (e ▸ List.mem_map.2 ⟨q,hq,rfl⟩)⟩

/-- A NEW ROW OF ZEROS. -/
theorem smk (k:Nat) {α:Type} (L:Lay α) {E t:TypeId} {m:Int} {kl kc:IntKind} {x y:Operand} {z:α} {zv:Value} {zc:List Value} (hs:Sat M w0 w Δ Γ)
    (ho:o.op = .makeSlice t x y) (hk:Kn σ n a) (hd:o.dst=some d) (hx:rho? σ x=some (.int kl m)) (hy:rho? σ y=some (.int kc m)) (hc:chk ops n σ o d=true)
    (ht:P.underlying t=some (.slice E)) (hmk:mkB P E=some (zv,zc.length)) (hz:L.own z zc []) (hzc:zv.cells=zc.toArray) (hLs:L.size=zc.length) (h0:0≤m) (h1:m≤1073741824)
    (next:∀ b c' w' a,Kn ((d,.slice (some ⟨b,0,none⟩) m.toNat m.toNat) :: σ) n a→Own L E (some ⟨b,0,none⟩) m.toNat (List.replicate m.toNat z) c'→Sat M w0 w' Δ ((k,c') :: Γ)→wpList P ops.toArray Q rest a w'):wpList P ops.toArray Q (o :: rest) a w:=by
  obtain ⟨inf,hi,hb,hzv,hsz⟩:=mkB_spec hmk
  have hb':inf.bytes≤131072:=hb
  have hbytes:(inf.bytes:Int)*m≤281474976710656:=by
    have h2:(inf.bytes:Int)≤131072:=by omega
    have h3:(inf.bytes:Int)*m≤131072*1073741824:=Int.mul_le_mul h2 h1 h0 (by omega)
    omega
  have hr:=run_make (P:=P) w t E inf zv ht hi hzv kl kc m m h0 (Int.le_refl _) hbytes (by omega)
  refine sv (.slice (some ⟨w.heap.size,0,none⟩) m.toNat m.toNat) (w':=w.alloc (.cells (madeCells zv.cells (m.toNat*inf.size)) E)) hk hd hc (by simp only [execOp,ho,rho?_eq hx,rho?_eq hy,Sem.run_bind,hr,Result.andThen_ok,Sem.run_pure]) fun a hk=>?_
  refine next w.heap.size _ _ a hk (.inr ⟨_,rfl,_,List.replicate m.toNat zc,[],rfl,AllOwn.rep hz _,?_,?_,by simp,by simp only [maxLen];omega⟩) (hs.alloc k _)
  · rw [hzc,hsz,madeCells_eq,List.length_replicate,hLs]
    apply List.take_of_length_le
    simp
  · rw [size_madeCells,hsz,hLs]
end steps
end Go.Z
