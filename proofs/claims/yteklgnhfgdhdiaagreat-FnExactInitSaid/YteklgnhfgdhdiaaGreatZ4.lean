/- Lemmas for walks: frames known by slots, heaps known by chunks. No conditions of its own. -/
import Derived.Test.YteklgnhfgdhdiaaGreatZ3
import Derived.Laws.CopyRow
import Derived.Laws.Append
namespace Go.Z
set_option linter.unusedVariables false
set_option linter.unusedSimpArgs false
open Go Go.RowKit
def aggB (P:Program) (t:TypeId):Option Bool :=
  match P.underlying t with
  | some (.struct _) | some (.array _ _)=>some true
  | some _=>some false
  | none=>none
def szB (P:Program) (t:TypeId):Option Nat:=(P.info? t).map (·.size)

section
variable {P:Program} {w:World}
theorem run_isAgg {t:TypeId} {b:Bool} (h:aggB P t=some b):(isAgg t).run P w = .ok b w:=by
  unfold aggB at h
  unfold isAgg
  rw [Sem.run_bind]
  split at h
  · rename_i f hu;rw [run_underlying hu];cases h;rfl
  · rename_i n e hu;rw [run_underlying hu];cases h;rfl
  · rename_i d h1 h2 hu
    cases h
    rw [run_underlying hu]
    cases d <;> first | rfl | exact absurd rfl (h1 _) | exact absurd rfl (h2 _ _)
  · cases h
theorem run_sizeOf {t:TypeId} {n:Nat} (h:szB P t=some n):(sizeOf t).run P w = .ok n w:=by
  unfold szB at h
  cases hi:P.info? t with
  | none=>rw [hi] at h;cases h
  | some i=>rw [hi] at h;cases h;simp [sizeOf,typeInfo,hi]
theorem run_load1 {t:TypeId} {ad:Addr} {v:Value} (ht:aggB P t=some false) (hc:w.cell? ad=some v):(loadVar t ad).run P w = .ok v w:=by
  simp [loadVar,run_isAgg ht,hc]
theorem run_loadN {t:TypeId} {ad:Addr} {vs:List Value} (ht:aggB P t=some true) (hs:szB P t=some vs.length) (hc:∀ j u,vs[j]? = some u→w.cell? (ad.add j)=some u):(loadVar t ad).run P w = .ok (.agg vs.toArray) w:=by
  simp [loadVar,run_isAgg ht,run_sizeOf hs,run_loadCells_list w ad vs hc]
theorem run_storeV {t T:TypeId} {b off:Nat} {cs:Array Value} {v:Value} (hs:szB P t=some v.cells.size) (hb:w.heap[b]? = some (.cells cs T (0,0))) (hf:off+v.cells.size≤cs.size) (h1:∀ u∈v.cells.toList,u.oneCell'=true) :
    (storeVar t ⟨b,off,none⟩ v).run P w = .ok () (w.setRow b (cs.toList.take off++v.cells.toList++cs.toList.drop (off+v.cells.size)).toArray):=by
  have:=run_storeCells_at P b off T v.cells.toList 0 cs w hb (by simpa using hf) h1
  simp only [Nat.add_zero,Array.length_toList] at this
  unfold storeVar
  simp only [Sem.run_bind,run_sizeOf hs,Result.andThen_ok,ne_eq,not_true_eq_false,if_false,this,Sem.run_pure]
theorem run_store1 {t T:TypeId} {b off:Nat} {cs:Array Value} {v:Value} (hs:szB P t=some 1) (hv:v.cells = #[v]) (hb:w.heap[b]? = some (.cells cs T (0,0))) (hf:off<cs.size) (h1:v.oneCell'=true) :
    (storeVar t ⟨b,off,none⟩ v).run P w = .ok () (w.setRow b (cs.setIfInBounds off v)):=by
  have:=run_storeV (P:=P) (t:=t) (off:=off) (v:=v) (by rw [hv];exact hs) hb (by rw [hv];simp;omega) (by rw [hv];intro u hu;simp only [List.mem_singleton] at hu;subst hu;exact h1)
  rw [this,hv]
  congr 2
  apply Array.ext'
  simp only [Array.toList_setIfInBounds]
  have hl:off<cs.toList.length:=by simpa using hf
  rw [List.set_eq_take_append_cons_drop,if_pos hl]
  simp
theorem run_indexSl {t e:TypeId} {A:Option Addr} {b off n cap:Nat} {k:IntKind} {i:Int} {sz:Nat} (ht:P.underlying t=some (.slice e)) (hs:szB P e=some sz) (hA:A=some ⟨b,off,none⟩) (h0:0≤i) (h1:i<n) :
    (Instr.indexAt t (.slice A n cap) (.int k i)).run P w = .ok (.pointer (some (padd A (i.toNat*sz)))) w:=by
  subst hA
  have hadd:(⟨b,off,none⟩:Addr).add (i.toNat*sz)=padd (some ⟨b,off,none⟩) (i.toNat*sz):=by
    have:=padd_add (some ⟨b,off,none⟩) 0 (i.toNat*sz)
    simpa [padd] using this
  simp only [Instr.indexAt,asIntOf,Sem.run_bind,Sem.run_pure,Result.andThen_ok,run_underlying ht,h0,h1,and_self,if_true,run_sizeOf hs,hadd]
end

section steps
variable {P:Program} {ops:List Oper} {Q:Exit→Act→World→Prop} {o:Oper} {rest:List Oper} {a:Act} {w w':World} {σ:List (Nat×Value)} {n d:Nat} {v:Value}
/-- A LOAD OF ONE CELL. -/
theorem sl {t:TypeId} {x:Operand} {ad:Addr} (ho:o.op = .load t x) (hk:Kn σ n a) (hd:o.dst=some d) (hx:rho? σ x=some (.pointer (some ad))) (hc:chk ops n σ o d=true)
    (ht:aggB P t=some false) (hcell:w.cell? ad=some v)
    (next:∀ a,Kn ((d,v) :: σ) n a→wpList P ops.toArray Q rest a w):wpList P ops.toArray Q (o :: rest) a w :=
  sv v hk hd hc (by simp only [execOp,ho,rho?_eq hx,Instr.loadAt,Instr.sureAddr,Sem.run_bind,Sem.run_pure,Result.andThen_ok,run_load1 ht hcell]) next
/-- A LOAD OF A STRUCT OR AN ARRAY. -/
theorem sln (vs:List Value) {t:TypeId} {x:Operand} {ad:Addr} (ho:o.op = .load t x) (hk:Kn σ n a) (hd:o.dst=some d) (hx:rho? σ x=some (.pointer (some ad))) (hc:chk ops n σ o d=true)
    (ht:aggB P t=some true) (hs:szB P t=some vs.length) (hcell:∀ j u,vs[j]? = some u→w.cell? (ad.add j)=some u)
    (next:∀ a,Kn ((d,.agg vs.toArray) :: σ) n a→wpList P ops.toArray Q rest a w):wpList P ops.toArray Q (o :: rest) a w :=
  sv _ hk hd hc (by simp only [execOp,ho,rho?_eq hx,Instr.loadAt,Instr.sureAddr,Sem.run_bind,Sem.run_pure,Result.andThen_ok,run_loadN ht hs hcell]) next
/-- A STORE OF ONE CELL INTO A BLOCK THAT IS KNOWN WHOLE. -/
theorem ss {t T:TypeId} {x y:Operand} {b off:Nat} {cs:Array Value} (ho:o.op = .store t x y) (hk:Kn σ n a) (hd:o.dst=none) (hx:rho? σ x=some (.pointer (some ⟨b,off,none⟩))) (hy:rho? σ y=some v)
    (hc:chk0 ops σ o=true) (hs:szB P t=some 1) (hv:v.cells = #[v]) (h1:v.oneCell'=true) (hb:w.heap[b]? = some (.cells cs T (0,0))) (hf:off<cs.size)
    (next:∀ a,Kn σ n a→wpList P ops.toArray Q rest a (w.setRow b (cs.setIfInBounds off v))):wpList P ops.toArray Q (o :: rest) a w :=
  su hk hd hc (by simp only [execOp,ho,rho?_eq hx,rho?_eq hy,Instr.storeAt,Instr.sureAddr,Sem.run_bind,Sem.run_pure,Result.andThen_ok,run_store1 hs hv hb hf h1]) next
theorem ssn {t T:TypeId} {x y:Operand} {b off:Nat} {cs us:Array Value} (ho:o.op = .store t x y) (hk:Kn σ n a) (hd:o.dst=none) (hx:rho? σ x=some (.pointer (some ⟨b,off,none⟩))) (hy:rho? σ y=some (.agg us))
    (hc:chk0 ops σ o=true) (hs:szB P t=some us.size) (h1:∀ u∈us.toList,u.oneCell'=true) (hb:w.heap[b]? = some (.cells cs T (0,0))) (hf:off+us.size≤cs.size)
    (next:∀ a,Kn σ n a→wpList P ops.toArray Q rest a (w.setRow b (cs.toList.take off++us.toList++cs.toList.drop (off+us.size)).toArray)):wpList P ops.toArray Q (o :: rest) a w :=
  su hk hd hc (by simp only [execOp,ho,rho?_eq hx,rho?_eq hy,Instr.storeAt,Instr.sureAddr,Sem.run_bind,Sem.run_pure,Result.andThen_ok,run_storeV (v:=.agg us) hs hb hf h1];rfl) next
/-- THE PLACE OF A SLICE's ELEMENT. -/
theorem si {t e:TypeId} {x y:Operand} {A:Option Addr} {b off m cap:Nat} {k:IntKind} {i:Int} {sz:Nat} (ho:o.op = .indexAddr t x y) (hk:Kn σ n a) (hd:o.dst=some d) (hx:rho? σ x=some (.slice A m cap)) (hy:rho? σ y=some (.int k i))
    (hc:chk ops n σ o d=true) (ht:P.underlying t=some (.slice e)) (hs:szB P e=some sz) (h0:0≤i) (h1:i<m) (hA:A=some ⟨b,off,none⟩)
    (next:∀ a,Kn ((d,.pointer (some (padd A (i.toNat*sz)))) :: σ) n a→wpList P ops.toArray Q rest a w):wpList P ops.toArray Q (o :: rest) a w :=
  sv _ hk hd hc (by simp only [execOp,ho,rho?_eq hx,rho?_eq hy,Sem.run_bind,Sem.run_pure,Result.andThen_ok,run_indexSl ht hs hA h0 h1]) next
/-- A FIELD's PLACE. -/
def fldB (P:Program) (s:TypeId) (f:Nat):Option Nat :=
  match P.underlying s with
  | some (.struct fs)=>match fs[f]? with | some g=>(match szB P g.type with | some 0=>none | some _=>some g.offset | none=>none) | none=>none
  | _=>none
theorem run_fieldAt {s:TypeId} {f j:Nat} {ad:Addr} (h:fldB P s f=some j):(Instr.fieldAt s (.pointer (some ad)) f).run P w = .ok (.pointer (some (ad.add j))) w:=by
  unfold fldB at h
  split at h
  · rename_i fs hu
    split at h
    · rename_i g hg
      split at h
      · cases h
      · rename_i m hne hm
        cases h
        have hm':m≠0:=hne
        simp only [Instr.fieldAt,Sem.run_bind,run_underlying hu,Result.andThen_ok,hg,Instr.sureAddr,Sem.run_pure,fieldPlace,run_sizeOf hm,hm',if_false]
      · cases h
    · cases h
  · cases h
theorem sf (ad':Addr) {s:TypeId} {x:Operand} {f j:Nat} {ad:Addr} (ho:o.op = .fieldAddr s x f) (hk:Kn σ n a) (hd:o.dst=some d) (hx:rho? σ x=some (.pointer (some ad))) (hc:chk ops n σ o d=true) (hf:fldB P s f=some j)
    (he:ad.add j=ad') (next:∀ a,Kn ((d,.pointer (some ad')) :: σ) n a→wpList P ops.toArray Q rest a w):wpList P ops.toArray Q (o :: rest) a w :=
  sv _ hk hd hc (by simp only [execOp,ho,rho?_eq hx,Sem.run_bind,Sem.run_pure,Result.andThen_ok,run_fieldAt hf,he]) next
/-- A NEW VARIABLE WITH A VALUE. -/
theorem sb {t:TypeId} {x:Operand} (ho:o.op = .box t x) (hk:Kn σ n a) (hd:o.dst=some d) (hx:rho? σ x=some v) (hc:chk ops n σ o d=true)
    (next:∀ a,Kn ((d,.pointer (some ⟨w.heap.size,0,none⟩)) :: σ) n a→wpList P ops.toArray Q rest a (w.alloc (.cells v.cells t))):wpList P ops.toArray Q (o :: rest) a w :=
  sv _ hk hd hc (by simp only [execOp,ho,rho?_eq hx,Instr.box,newVar,newRow,Sem.run_bind,run_newObj,Sem.run_pure,Result.andThen_ok];rfl) next
def zeroB (P:Program) (t:TypeId):Option Value:=(P.info? t).bind (·.zero)
theorem run_zero {t:TypeId} {z:Value} (h:zeroB P t=some z):(zeroValue t).run P w = .ok z w:=by
  unfold zeroB at h
  cases hi:P.info? t with
  | none=>rw [hi] at h;cases h
  | some i=>rw [hi] at h;simp only [Option.bind_some] at h;simp [zeroValue,typeInfo,hi,h]
theorem sal {t:TypeId} {z:Value} (ho:o.op = .alloc t) (hk:Kn σ n a) (hd:o.dst=some d) (hc:chk ops n σ o d=true) (hz:zeroB P t=some z)
    (next:∀ a,Kn ((d,.pointer (some ⟨w.heap.size,0,none⟩)) :: σ) n a→wpList P ops.toArray Q rest a (w.alloc (.cells z.cells t))):wpList P ops.toArray Q (o :: rest) a w :=
  sv _ hk hd hc (by simp only [execOp,ho,Instr.alloc,run_zero hz,newVar,newRow,Sem.run_bind,run_newObj,Sem.run_pure,Result.andThen_ok];rfl) next
end steps
end Go.Z
