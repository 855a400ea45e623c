/- Lemmas for walks: frames known by slots, heaps known by chunks. No conditions of its own. -/
import Derived.Calls
import Derived.Tactics
import Derived.WalkKit
import Derived.Deep.LoopGhost
import Derived.Laws.Tables
import Derived.Laws.Rows
import Derived.Laws.MakeOwn
import Derived.Laws.Slices
import Derived.Laws.AppendOwn
import Derived.Below
import Derived.KernelRfl
namespace Go.Z
set_option linter.unusedVariables false
set_option linter.unusedSimpArgs false
open Go

/-- What is known of a frame: some slots' values. -/
def look:List (Nat×Value)→Nat→Option Value
  | [],_=>none
  | (s,v) :: r,t=>if Nat.beq s t then some v else look r t
structure Kn (σ:List (Nat×Value)) (n:Nat) (a:Act):Prop where
  defers:a.defers=[]
  size:a.tmps.size=n
  slot:∀ t v,look σ t=some v→a.tmps.getD t undef=v

def rho (σ:List (Nat×Value)):Operand→Value
  | .tmp t=>(look σ t).getD undef
  | .const v=>v
  | .global g=>.pointer (some ⟨g,0,none⟩)
  | .func f=>.func (.func f) #[] #[]
def okn (σ:List (Nat×Value)):Operand→Bool
  | .tmp t=>(look σ t).isSome
  | _=>true

theorem Kn.eval {σ n a} (h:Kn σ n a) (x:Operand) (hx:okn σ x=true):a.eval x=rho σ x:=by
  cases x with
  | tmp t =>
    simp only [okn,Option.isSome_iff_exists] at hx
    obtain ⟨v,hv⟩:=hx
    simp only [Act.eval,rho,hv,Option.getD_some]
    exact h.slot t v hv
  | const v=>rfl
  | global g=>rfl
  | func f=>rfl

theorem Kn.put {σ n a} (h:Kn σ n a) (d:Nat) (v:Value) (hd:d<n):Kn ((d,v) :: σ) n (a.put (some d) v):=by
  refine ⟨h.defers,by simp [Act.put,h.size],fun t u ht=>?_⟩
  simp only [look] at ht
  simp only [Act.put]
  by_cases e:d=t
  · subst e
    have:Nat.beq d d=true:=by simp
    rw [if_pos this] at ht
    cases ht
    rw [Array.getD_eq_getD_getElem?,Array.getElem?_setIfInBounds_self_of_lt (by rw [h.size];exact hd)];rfl
  · rw [if_neg (fun h=>e (Nat.eq_of_beq_eq_true h))] at ht
    have:=h.slot t u ht
    rw [Array.getD_eq_getD_getElem?] at this ⊢
    rw [Array.getElem?_setIfInBounds_ne e]
    exact this

def nosel:Op→Bool | .select ..=>false | _=>true
theorem execOp_congr (o:Oper) (ρ ρ':Operand→Value) (hn:nosel o.op=true) (h:∀ x∈o.op.operands,ρ x=ρ' x):execOp ρ o=execOp ρ' o:=by
  obtain ⟨dst,op,ty,pos,after,guard⟩:=o
  cases op
  case call c =>
    obtain ⟨cal,args,tys⟩:=c
    simp only [Op.operands,Call.operands] at h
    have ha:args.map ρ=args.map ρ':=by
      apply Array.map_congr_left
      intro x hx
      exact h x (by simp [hx])
    simp only [execOp,resolve,ha]
    cases cal with
    | value f=>have:=h f (by simp);simp only [this]
    | invoke r m=>have:=h r (by simp);simp only [this]
    | builtin b=>rfl
  case go c =>
    obtain ⟨cal,args,tys⟩:=c
    simp only [Op.operands,Call.operands] at h
    have ha:args.map ρ=args.map ρ':=by
      apply Array.map_congr_left
      intro x hx
      exact h x (by simp [hx])
    simp only [execOp,resolve,ha]
    cases cal with
    | value f=>have:=h f (by simp);simp only [this]
    | invoke r m=>have:=h r (by simp);simp only [this]
    | builtin b=>rfl
  case defer c =>
    obtain ⟨cal,args,tys⟩:=c
    simp only [Op.operands,Call.operands] at h
    have ha:args.map ρ=args.map ρ':=by
      apply Array.map_congr_left
      intro x hx
      exact h x (by simp [hx])
    simp only [execOp,resolve,ha]
    cases cal with
    | value f=>have:=h f (by simp);simp only [this]
    | invoke r m=>have:=h r (by simp);simp only [this]
    | builtin b=>rfl
  case build t ps =>
    have:ps.map (fun (i,x)=>(i,ρ x))=ps.map (fun (i,x)=>(i,ρ' x)):=by
      apply Array.map_congr_left
      intro x hx
      have:=h x.2 (by simp [Op.operands];exact ⟨x.1,hx⟩)
      simp only [this]
    simp only [execOp,this]
  case buildSlice t n ps =>
    have:ps.map (fun (i,x)=>(i,ρ x))=ps.map (fun (i,x)=>(i,ρ' x)):=by
      apply Array.map_congr_left
      intro x hx
      have:=h x.2 (by simp [Op.operands];exact ⟨x.1,hx⟩)
      simp only [this]
    simp only [execOp,this]
  case makeFunc f fs cs =>
    have h1:fs.map ρ=fs.map ρ':=Array.map_congr_left fun x hx=>h x (by simp [Op.operands,hx])
    have h2:cs.map ρ=cs.map ρ':=Array.map_congr_left fun x hx=>h x (by simp [Op.operands,hx])
    simp only [execOp,h1,h2]
  case makeMap t r =>
    cases r with
    | none=>rfl
    | some x=>have:=h x (by simp [Op.operands]);simp only [execOp,Option.map_some,this]
  case slice t x l hi m =>
    have hx:=h x (by simp [Op.operands])
    have hl:l.map ρ=l.map ρ':=by cases l with | none=>rfl | some y=>have:=h y (by simp [Op.operands]);simp [this]
    have hh:hi.map ρ=hi.map ρ':=by cases hi with | none=>rfl | some y=>have:=h y (by simp [Op.operands]);simp [this]
    have hm:m.map ρ=m.map ρ':=by cases m with | none=>rfl | some y=>have:=h y (by simp [Op.operands]);simp [this]
    simp only [execOp,hx,hl,hh,hm]
  case select cs b=>cases hn
  all_goals
    simp only [Op.operands,List.mem_toArray,List.mem_cons,List.not_mem_nil,or_false,forall_eq_or_imp,forall_eq] at h
    try (obtain ⟨h1,h2,h3⟩:=h;simp only [execOp,h1,h2,h3];done)
    try (obtain ⟨h1,h2⟩:=h;simp only [execOp,h1,h2];done)
    try (simp only [execOp,h];done)
    try rfl

def opnds:Op→List Operand
  | .move x | .assign x | .box _ x | .load _ x | .nilCheck x | .unOp _ _ x | .convert _ _ x | .makeInterface _ x | .fieldAddr _ x _ | .field _ x _ | .extract x _ | .panic x=>[x]
  | .pick c a b=>[c,a,b]
  | .store _ a v | .binOp _ _ a v _ | .makeSlice _ a v | .indexAddr _ a v | .index _ a v=>[a,v]
  | .alloc _=>[]
  | o=>o.operands.toList
theorem opnds_mem (o:Op):∀ x∈o.operands,x∈opnds o:=by
  intro x hx
  cases o <;> simp only [opnds] <;> first | exact (Array.mem_toList_iff.2 hx) | simpa [Op.operands] using hx


theorem Kn.k {σ n a} (h:Kn σ n a):Kn [] n a:=⟨h.defers,h.size,fun t v ht=>by simp [look] at ht⟩
theorem Kn.c {σ τ n a} {v:Value} (h:Kn σ n a) (t:Nat) (ht:look σ t=some v) (k:Kn τ n a):Kn ((t,v) :: τ) n a :=
  ⟨h.defers,h.size,fun s u hs=>by
    simp only [look] at hs
    by_cases e:t=s
    · subst e
      rw [if_pos (by simp)] at hs
      cases hs
      exact h.slot t v ht
    · rw [if_neg (fun h=>e (Nat.eq_of_beq_eq_true h))] at hs
      exact k.slot s u hs⟩

def onth:List Oper→Nat→Option Oper
  | [],_=>none
  | o :: _,0=>some o
  | _ :: r,k+1=>onth r k
theorem onth_eq:∀ (l:List Oper) (k:Nat),onth l k=l[k]?
  | [],k=>by simp [onth]
  | o :: r,0=>by simp [onth]
  | o :: r,k+1=>by simp [onth,onth_eq r k]
/-- Is the operation wanted, as far as the known slots tell? -/
def wnt (ops:List Oper) (σ:List (Nat×Value)) (o:Oper):Option Bool :=
  match o.guard with
  | none=>some true
  | some (j,b) =>
    match onth ops j with
    | some oj =>
      match oj.dst with
      | some d =>
        match look σ d with
        | some (.bool true)=>some b
        | some (.bool false)=>some (!b)
        | some (.tuple _)=>some false
        | _=>none
      | none=>none
    | none=>none
theorem wnt_wanted {ops:List Oper} {σ n a} (h:Kn σ n a) (o:Oper) (b:Bool) (hw:wnt ops σ o=some b):Region.wanted o (yielded ops.toArray a.tmps)=b:=by
  unfold wnt at hw
  unfold Region.wanted
  split at hw
  · rename_i hg;rw [hg];cases hw;rfl
  · rename_i j c hg
    rw [hg]
    split at hw
    · rename_i oj hoj
      rw [onth_eq] at hoj
      split at hw
      · rename_i d hd
        have key:∀ v,look σ d=some v→(v = .bool true∨v = .bool false∨∃ t,v = .tuple t)→a.tmps[d]?.getD undef=v:=fun v hv _=>by
          have:=h.slot d v hv
          rwa [Array.getD_eq_getD_getElem?] at this
        split at hw
        · rename_i hl
          have:=key _ hl (.inl rfl)
          have h2:a.tmps[d]? = some (.bool true):=by
            cases hc:a.tmps[d]? with
            | none=>rw [hc] at this;cases this
            | some x=>rw [hc] at this;exact congrArg some this
          cases hw
          simp [yielded,hoj,hd,h2]
        · rename_i hl
          have:=key _ hl (.inr (.inl rfl))
          have h2:a.tmps[d]? = some (.bool false):=by
            cases hc:a.tmps[d]? with
            | none=>rw [hc] at this;cases this
            | some x=>rw [hc] at this;exact congrArg some this
          cases hw
          cases c <;> simp [yielded,hoj,hd,h2]
        · rename_i t hl
          have:=key _ hl (.inr (.inr ⟨t,rfl⟩))
          cases hw
          have h2:yielded ops.toArray a.tmps j=none:=by
            cases hc:a.tmps[d]? with
            | none=>simp [yielded,hoj,hd,hc]
            | some x =>
              rw [hc] at this
              simp only [Option.getD_some] at this
              subst this
              simp [yielded,hoj,hd,hc]
          simp [h2]
        · cases hw
      · cases hw
    · cases hw

def chk (ops:List Oper) (n:Nat) (σ:List (Nat×Value)) (o:Oper) (d:Nat):Bool :=
  (match wnt ops σ o with | some b=>b | none=>false) && nosel o.op && (opnds o.op).all (okn σ) && Nat.blt d n
def chk0 (ops:List Oper) (σ:List (Nat×Value)) (o:Oper):Bool :=
  (match wnt ops σ o with | some b=>b | none=>false) && nosel o.op && (opnds o.op).all (okn σ)

section steps
variable {P:Program} {ops:List Oper} {Q:Exit→Act→World→Prop} {o:Oper} {rest:List Oper} {a:Act} {w w':World} {σ:List (Nat×Value)} {n d:Nat} {v:Value}

theorem run_eq (hk:Kn σ n a) (hc:chk0 ops σ o=true):execOp a.eval o=execOp (rho σ) o:=by
  simp only [chk0,Bool.and_eq_true] at hc
  exact execOp_congr o a.eval (rho σ) hc.1.2 (fun x hx=>hk.eval x (List.all_eq_true.1 hc.2 x (opnds_mem _ x hx)))
theorem chk_chk0 (hc:chk ops n σ o d=true):chk0 ops σ o=true∧d<n:=by
  simp only [chk,Bool.and_eq_true] at hc
  exact ⟨by simp only [chk0,Bool.and_eq_true];exact hc.1,by simpa using hc.2⟩
theorem wanted_of (hk:Kn σ n a) (hc:chk0 ops σ o=true):Region.wanted o (yielded ops.toArray a.tmps)=true:=by
  simp only [chk0,Bool.and_eq_true] at hc
  refine wnt_wanted hk o true ?_
  revert hc
  cases wnt ops σ o with
  | none=>simp
  | some b=>cases b <;> simp

/-- ANY OPERATION, by its own wp. -/
theorem st_op (hk:Kn σ n a) (hc:chk0 ops σ o=true) (h:o.upon P a (wpList P ops.toArray Q rest) Q ((execOp (rho σ) o).run P w)):wpList P ops.toArray Q (o :: rest) a w:=by
  unfold wpList
  rw [if_pos (wanted_of hk hc)]
  refine .inl ?_
  unfold Oper.wp
  rw [run_eq hk hc]
  exact h

/-- AN OPERATION THAT YIELDS A VALUE. -/
theorem sv (v:Value) (hk:Kn σ n a) (hd:o.dst=some d) (hc:chk ops n σ o d=true) (hr:(execOp (rho σ) o).run P w = .ok (.value v) w')
    (next:∀ a,Kn ((d,v) :: σ) n a→wpList P ops.toArray Q rest a w'):wpList P ops.toArray Q (o :: rest) a w:=by
  obtain ⟨h0,hdn⟩:=chk_chk0 hc
  refine st_op hk h0 ?_
  rw [hr]
  simp only [Oper.upon,hd]
  exact next _ (hk.put d v hdn)
/-- ONE THAT ONLY ACTS. -/
theorem su (hk:Kn σ n a) (hd:o.dst=none) (hc:chk0 ops σ o=true) (hr:(execOp (rho σ) o).run P w = .ok .skip w')
    (next:∀ a,Kn σ n a→wpList P ops.toArray Q rest a w'):wpList P ops.toArray Q (o :: rest) a w:=by
  refine st_op hk hc ?_
  rw [hr]
  simp only [Oper.upon,hd,Act.put]
  exact next _ hk
/-- ONE THAT ITS GUARD SHUTS OUT. -/
theorem sk (hk:Kn σ n a) (hd:o.dst=some d) (hdn:Nat.blt d n=true) (hw:wnt ops σ o=some false)
    (next:∀ a,Kn ((d,undef) :: σ) n a→wpList P ops.toArray Q rest a w):wpList P ops.toArray Q (o :: rest) a w:=by
  unfold wpList
  rw [if_neg (by rw [wnt_wanted hk o false hw];simp)]
  rw [hd]
  exact next _ (hk.put d undef (by simpa using hdn))
def rho? (σ:List (Nat×Value)):Operand→Option Value
  | .tmp t=>look σ t
  | .const v=>some v
  | .global g=>some (.pointer (some ⟨g,0,none⟩))
  | .func f=>some (.func (.func f) #[] #[])
theorem rho?_eq {x:Operand} (h:rho? σ x=some v):rho σ x=v:=by
  cases x with
  | tmp t=>simp only [rho?] at h;simp [rho,h]
  | const u=>simpa [rho?,rho] using h
  | global g=>simpa [rho?,rho] using h
  | func f=>simpa [rho?,rho] using h

/-- A MOVE. -/
theorem sm (x:Operand) (ho:o.op = .move x) (hk:Kn σ n a) (hd:o.dst=some d) (hv:rho? σ x=some v) (hc:chk ops n σ o d=true)
    (next:∀ a,Kn ((d,v) :: σ) n a→wpList P ops.toArray Q rest a w):wpList P ops.toArray Q (o :: rest) a w :=
  sv v hk hd hc (by simp only [execOp,ho,rho?_eq hv,Sem.run_pure]) next
theorem sa (x:Operand) (ho:o.op = .assign x) (hk:Kn σ n a) (hd:o.dst=some d) (hv:rho? σ x=some v) (hc:chk ops n σ o d=true)
    (next:∀ a,Kn ((d,v) :: σ) n a→wpList P ops.toArray Q rest a w):wpList P ops.toArray Q (o :: rest) a w :=
  sv v hk hd hc (by simp only [execOp,ho,rho?_eq hv,Sem.run_pure]) next

/-- What a call comes to. -/
def Ret (R:Value→World→Prop) (e:Ending) (w:World):Prop:=∃ v,e = .returned v∧R v w
def Enters (P:Program) (f:FuncId):Prop:=∀ args w,(callFunc f args).run P w = .ok (.enter f args) w

theorem run_call {f:FuncId} {args:Array Operand} {tys:Array TypeId} {vs:List Value} (ho:o.op = .call ⟨.value (.func f),args,tys⟩) (he:Enters P f) (hvs:args.toList.map (rho σ)=vs) :
    (execOp (rho σ) o).run P w = .ok (.enter f vs.toArray) w:=by
  have h2:Array.map (rho σ) args=vs.toArray:=by rw [← hvs];apply Array.ext';simp
  simp only [execOp,ho,resolve,h2,Deferred.ofValue,rho,Sem.run_bind,Sem.run_pure,Result.andThen_ok,invoke]
  simp only [Array.empty_append,Array.append_empty,he vs.toArray w]
/-- A CALL BY NAME. -/
theorem sc {f:FuncId} {args:Array Operand} {tys:Array TypeId} {vs:List Value} {R:Value→World→Prop} (ho:o.op = .call ⟨.value (.func f),args,tys⟩) (he:Enters P f)
    (hk:Kn σ n a) (hd:o.dst=some d) (hc:chk ops n σ o d=true) (hvs:args.toList.map (rho σ)=vs) (hcall:Calls P f vs.toArray w (Ret R))
    (next:∀ v w',R v w'→∀ a,Kn ((d,v) :: σ) n a→wpList P ops.toArray Q rest a w'):wpList P ops.toArray Q (o :: rest) a w:=by
  obtain ⟨h0,hdn⟩:=chk_chk0 hc
  refine st_op hk h0 ?_
  rw [run_call ho he hvs]
  simp only [Oper.upon]
  refine hcall.mono ?_
  rintro e w' ⟨v,rfl,hR⟩
  simp only [hd]
  exact next v w' hR _ (hk.put d v hdn)
/-- A CALL OF A FUNCTION VALUE. -/
theorem run_callv {x:Operand} {f:FuncId} {first capt:Array Value} {args:Array Operand} {tys:Array TypeId} {vs:List Value} (ho:o.op = .call ⟨.value x,args,tys⟩) (hx:rho σ x = .func (.func f) first capt) (he:Enters P f)
    (hvs:first.toList++args.toList.map (rho σ)++capt.toList=vs) :
    (execOp (rho σ) o).run P w = .ok (.enter f vs.toArray) w:=by
  have h2:first++Array.map (rho σ) args++capt=vs.toArray:=by rw [← hvs];apply Array.ext';simp
  simp only [execOp,ho,resolve,hx,Deferred.ofValue,Sem.run_bind,Sem.run_pure,Result.andThen_ok,invoke]
  simp only [h2,he vs.toArray w]
theorem scv {x:Operand} {f:FuncId} {first capt:Array Value} {args:Array Operand} {tys:Array TypeId} {vs:List Value} {R:Value→World→Prop} (ho:o.op = .call ⟨.value x,args,tys⟩) (hx:rho σ x = .func (.func f) first capt) (he:Enters P f)
    (hk:Kn σ n a) (hd:o.dst=some d) (hc:chk ops n σ o d=true) (hvs:first.toList++args.toList.map (rho σ)++capt.toList=vs) (hcall:Calls P f vs.toArray w (Ret R))
    (next:∀ v w',R v w'→∀ a,Kn ((d,v) :: σ) n a→wpList P ops.toArray Q rest a w'):wpList P ops.toArray Q (o :: rest) a w:=by
  obtain ⟨h0,hdn⟩:=chk_chk0 hc
  refine st_op hk h0 ?_
  rw [run_callv ho hx he hvs]
  simp only [Oper.upon]
  refine hcall.mono ?_
  rintro e w' ⟨v,rfl,hR⟩
  simp only [hd]
  exact next v w' hR _ (hk.put d v hdn)

end steps

section code
variable {P:Program} {Q:Exit→Act→World→Prop} {a:Act} {w:World} {σ:List (Nat×Value)} {n:Nat}
theorem cnd_true {c:Operand} {x y:Code} (hk:Kn σ n a) (hc:rho? σ c=some (.bool true)) (hn:okn σ c=true) (h:x.wp P Q a w):(Code.cond c x y).wp P Q a w :=
  wp_cond_true (by rw [hk.eval c hn,rho?_eq hc]) h
theorem cnd_false {c:Operand} {x y:Code} (hk:Kn σ n a) (hc:rho? σ c=some (.bool false)) (hn:okn σ c=true) (h:y.wp P Q a w):(Code.cond c x y).wp P Q a w :=
  wp_cond_false (by rw [hk.eval c hn,rho?_eq hc]) h
/-- The frame at a call. -/
theorem kn_enter (args:List Value) (n:Nat) (hn:args.length≤n):Kn (args.zipIdx.map fun x=>(x.2,x.1)) n { tmps:=args.toArray++Array.replicate (n-args.toArray.size) undef,defers:=[] }:=by
  refine ⟨rfl,by simp;omega,fun t v ht=>?_⟩
  have key:∀ (l:List Value) (k:Nat),look ((l.zipIdx k).map fun x=>(x.2,x.1)) t=some v→k≤t∧l[t-k]? = some v:=by
    intro l
    induction l with
    | nil=>intro k h;simp [look] at h
    | cons x r ih =>
      intro k h
      simp only [List.zipIdx_cons,List.map_cons,look] at h
      by_cases e:k=t
      · subst e;rw [if_pos (by simp)] at h;cases h;simp
      · rw [if_neg (fun h=>e (Nat.eq_of_beq_eq_true h))] at h
        obtain ⟨h1,h2⟩:=ih (k+1) h
        refine ⟨by omega,?_⟩
        have:t-k=(t-(k+1))+1:=by omega
        rw [this];simpa using h2
  have h:=(key args 0 ht).2
  simp only [Nat.sub_zero] at h
  have hlt:t<args.length:=by
    rcases Nat.lt_or_ge t args.length with h' | h'
    · exact h'
    · rw [List.getElem?_eq_none h'] at h;cases h
  rw [Array.getD_eq_getD_getElem?,Array.getElem?_append_left (by simpa using hlt)]
  simp [h]
theorem enter {f:FuncId} {fn:Func} {c:Code} {args:List Value} {R:Ending→World→Prop} (hf:P.funcs[f]? = some fn) (hb:fn.body=some c) (hn:fn.ntmps=n) (hl:Nat.ble args.length n=true)
    (h:∀ a,Kn (args.zipIdx.map fun x=>(x.2,x.1)) n a→c.wp P (bodyPost P fn R) a w):Calls P f args.toArray w R:=by
  refine calls_of_wp hf hb ?_
  rw [hn]
  exact h _ (kn_enter args n (by simpa using hl))
def outv:List Value→Value
  | [v]=>v
  | vs=>.tuple vs.toArray
end code
def OutsR (P:Program) (w:World) (σ:List (Nat×Value)):List ResultVar→List Value→Prop
  | [],[]=>True
  | .tmp t :: r,v :: vs=>look σ t=some v∧OutsR P w σ r vs
  | .cell p ty :: r,v :: vs=>(∃ ad,look σ p=some (.pointer (some ad))∧(loadVar ty ad).run P w = .ok v w)∧OutsR P w σ r vs
  | _,_=>False
def resOf (tmps:Array Value):ResultVar→Sem Value
  | .tmp t=>pure (tmps.getD t undef)
  | .cell p t=>do loadVar t (← asAddr (tmps.getD p undef))
theorem outsR_run {P:Program} {w:World} {σ n a} (hk:Kn σ n a):∀ (rs:List ResultVar) (vs:List Value),OutsR P w σ rs vs →
    (rs.mapM (resOf a.tmps)).run P w = .ok vs w
  | [],[],_=>rfl
  | [],v :: vs,h=>h.elim
  | .tmp t :: r,[],h=>h.elim
  | .cell p ty :: r,[],h=>h.elim
  | .tmp t :: r,v :: vs,h=>by
    simp only [List.mapM_cons,resOf,Sem.run_bind,Sem.run_pure,Result.andThen_ok,outsR_run hk r vs h.2,hk.slot t v h.1]
  | .cell p ty :: r,v :: vs,h=>by
    obtain ⟨⟨ad,h1,h2⟩,h3⟩:=h
    simp only [List.mapM_cons,resOf,Sem.run_bind,Sem.run_pure,Result.andThen_ok,outsR_run hk r vs h3,hk.slot p _ h1,asAddr,h2]
theorem results_run {P:Program} {w:World} {σ n a} {fn:Func} (hk:Kn σ n a) (rs:List ResultVar) (vs:List Value) (hr:fn.results=rs.toArray) (h:OutsR P w σ rs vs) :
    (results fn a.tmps).run P w = .ok (outv vs) w:=by
  have e:results fn a.tmps=(do let vs ← fn.results.mapM (resOf a.tmps);pure (if h:vs.size=1 then vs[0] else .tuple vs)):=by
    unfold results
    congr 1
  rw [e,hr,List.mapM_toArray]
  simp only [Sem.run_bind,Sem.run_map,outsR_run hk rs vs h,Result.andThen_ok]
  match vs with
  | []=>simp [outv]
  | [v]=>simp [outv]
  | v :: u :: r=>simp [outv]
theorem fin {P:Program} {w:World} {σ n a} {fn:Func} {R:Value→World→Prop} (hk:Kn σ n a) (rs:List ResultVar) (vs:List Value) (hr:fn.results=rs.toArray) (h:OutsR P w σ rs vs) (hR:R (outv vs) w) :
    bodyPost P fn (Ret R) .ret a w:=⟨hk.defers,_,results_run hk rs vs hr h,_,rfl,hR⟩
theorem fin0 {P:Program} {w:World} {σ n a} {fn:Func} {R:Value→World→Prop} (hk:Kn σ n a) (rs:List ResultVar) (vs:List Value) (hr:fn.results=rs.toArray) (h:OutsR P w σ rs vs) (hR:R (outv vs) w) :
    bodyPost P fn (Ret R) .normal a w:=⟨hk.defers,_,results_run hk rs vs hr h,_,rfl,hR⟩
end Go.Z
