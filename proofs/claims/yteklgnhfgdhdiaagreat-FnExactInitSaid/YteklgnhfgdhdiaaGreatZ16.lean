/- Lemmas for walks: frames known by slots, heaps known by chunks. No conditions of its own. -/
import Derived.Test.YteklgnhfgdhdiaaGreatZ15
namespace Go.Z
set_option linter.unusedVariables false
set_option linter.unusedSimpArgs false
open Go Go.RowKit
/-! A region whose order is drawn: a tree of what may come next. -/
inductive Plan where
  | done:Plan
  | stop:Plan
  | q:Nat→Plan→Plan
  | alt:Nat→Plan→Plan→Plan
  | last:Nat→Plan
def Plan.alts:Plan→List Nat
  | .alt i _ r=>i :: r.alts
  | _=>[]
def Plan.get (j:Nat):Plan→Option Plan
  | .alt i p r=>if Nat.beq i j then some p else r.get j
  | _=>none
/-- An operation that comes behind all others. -/
def lastB (md:Region.Mode) (ops:Array Oper) (j:Nat):Bool :=
  match ops[j]? with
  | none=>false
  | some o=>(List.range ops.size).all (fun i=>Nat.beq i j || o.after.any (fun e=>Region.binds md e && Nat.beq e.on i))
section
variable {P:Program} {ops:Array Oper} {md:Region.Mode} {Q:Exit→Act→World→Prop} {C:World→Prop}
def WG (P:Program) (md:Region.Mode) (ops:Array Oper) (C:World→Prop) (Q:Exit→Act→World→Prop):Nat→Array Bool→Act→World→Prop
  | 0,l,a,w=>∀ w',F w w'→Region.ready md ops l=[]∧Q .normal a w'
  | n+1,l,a,w=>∀ w',F w w'→C w'∧(Region.ready md ops l=[]→Q .normal a w')∧∀ i∈Region.ready md ops l,sOp P ops i (fun a w1=>(lastB md ops i=false→C w1)∧WG P md ops C Q n (l.setIfInBounds i true) a w1) a w'
theorem WG.f {n:Nat} {l:Array Bool} {a:Act} {w w':World} (h:WG P md ops C Q n l a w) (k:F w w'):WG P md ops C Q n l a w':=by
  cases n with
  | zero=>exact fun w2 h2=>h w2 (k.trans h2)
  | succ n=>exact fun w2 h2=>h w2 (k.trans h2)
theorem WG.any:∀ {n:Nat} {l:Array Bool} {a:Act} {w:World},WG P md ops C Q n l a w→wpAny P md ops Q n l a w
  | 0,l,a,w,h=>h w (F.refl w)
  | n + 1,l,a,w,h=>⟨(h w (F.refl w)).2.1,fun i hi=>by
    have:=(h w (F.refl w)).2.2 i hi
    unfold sOp at this
    unfold wpOp
    split
    · rename_i ho;simp only [ho] at this;exact WG.any this.2
    · rename_i o ho
      simp only [ho] at this
      split
      · rename_i hw;simp only [hw,if_true] at this;exact .inl (this.up (fun _ _ h=>WG.any h.2))
      · rename_i hw;simp only [hw] at this;exact WG.any this.2⟩
theorem WG_first {i:Nat} {oi:Oper} {v:Value} (hi:ops[i]? = some oi) (hsel:∀ (j:Nat) (o:Oper) cs b,ops[j]? = some o→o.op ≠ .select cs b) (hCl:∀ w w',F w w'→C w→C w') :
    ∀ (n:Nat) (l:Array Bool) (a:Act) (w:World),
      (∀ j oj,ops[j]? = some oj→j≠i→l.getD j true=false→(∀ e∈oj.after,Region.binds md e=true→e.on≠i)→oi.apart ops oj=true) →
      i∈Region.ready md ops l→QY P ops C oi v a→C w →
      WG P md ops C Q n (l.setIfInBounds i true) (a.put oi.dst v) w→WG P md ops C Q (n+1) l a w:=by
  intro n
  induction n with
  | zero =>
    intro l a w _ hr hy hCw H w' hw'
    have h0:=H w' hw'
    have hC':=hCl _ _ hw' hCw
    refine ⟨hC',fun h=>(by rw [h] at hr;cases hr),fun j hj=>?_⟩
    by_cases hji:j=i
    · subst hji;exact hy.op hi hC' fun w2 h2=>⟨fun _=>hCl _ _ h2 hC',H.f (hw'.trans h2)⟩
    · have:=ready_mono hj hji
      rw [h0.1] at this
      cases this
  | succ n ih =>
    intro l a w hfree hr hy hCw H w' hw'
    have h0:=H w' hw'
    refine ⟨h0.1,fun h=>(by rw [h] at hr;cases hr),fun j hj=>?_⟩
    by_cases hji:j=i
    · subst hji;exact hy.op hi h0.1 fun w2 h2=>⟨fun _=>hCl _ _ h2 h0.1,H.f (hw'.trans h2)⟩
    · have h1:=h0.2.2 j (ready_mono hj hji)
      obtain ⟨hjun,oj,hoj,hall⟩:=mem_ready.1 hj
      have hnot:∀ e∈oj.after,Region.binds md e=true→e.on≠i:=fun e he hb heq=>by
        have h1:=hall e he hb
        have h0:=(mem_ready.1 hr).1
        rw [heq] at h1
        rcases Nat.lt_or_ge i l.size with h' | h'
        · simp [h'] at h0 h1;rw [h0] at h1;cases h1
        · simp [Array.getElem?_eq_none h'] at h1
      have hlast:lastB md ops j=false:=by
        cases hl:lastB md ops j with
        | false=>rfl
        | true =>
          exfalso
          unfold lastB at hl
          rw [hoj] at hl
          have hisz:=(Array.getElem?_eq_some_iff.1 hi).1
          have:=List.all_eq_true.1 hl i (List.mem_range.2 hisz)
          simp only [Bool.or_eq_true] at this
          rcases this with h | h
          · exact hji (Nat.eq_of_beq_eq_true h).symm
          · obtain ⟨e,he,h2⟩:=Array.any_eq_true'.1 h
            simp only [Bool.and_eq_true] at h2
            exact hnot e he h2.1 (Nat.eq_of_beq_eq_true h2.2)
      have h2:=sOp_put hoj (hfree j oj hoj hji hjun hnot) (fun cs b=>hsel i oi cs b hi) (fun cs b=>hsel j oj cs b hoj) hy h1
      have hfree':∀ k ok,ops[k]? = some ok→k≠i→(l.setIfInBounds j true).getD k true=false →
          (∀ e∈ok.after,Region.binds md e=true→e.on≠i)→oi.apart ops ok=true:=fun k ok hk hki hun hno=>by
        refine hfree k ok hk hki ?_ hno
        by_cases hjk:j=k
        · subst hjk;exact hjun
        · rw [getD_set_ne true hjk] at hun;exact hun
      refine sOp.mono (fun a' w2 h3=>⟨fun _=>h3.2.1 hlast,ih (l.setIfInBounds j true) a' w2 hfree' (ready_mono hr (Ne.symm hji)) h3.1 (h3.2.1 hlast) ?_⟩) h2
      rw [Array.setIfInBounds_comm _ _ hji]
      exact h3.2.2
end
section
variable {P:Program} {ops:List Oper} {Q:Exit→Act→World→Prop} {M:List Nat} {w0:World} {Δ Γc:List (Nat×Chunk)}
def WT (P:Program) (ops:List Oper) (C:World→Prop) (Q:Exit→Act→World→Prop):Plan→Act→World→Prop
  | .done,a,w=>∀ w',F w w'→C w'→Q .normal a w'
  | .stop,_,_=>True
  | .q i r,a,w=>∃ o v,ops.toArray[i]? = some o∧QY P ops.toArray C o v a∧WT P ops C Q r (a.put o.dst v) w
  | .alt i p r,a,w=>(∀ w',F w w'→sOp P ops.toArray i (fun a w1=>C w1∧WT P ops C Q p a w1) a w')∧WT P ops C Q r a w
  | .last i,a,w=>∀ w',F w w'→sOp P ops.toArray i (fun a w1=>∀ w',F w1 w'→Q .normal a w') a w'
def planB (md:Region.Mode) (ops:Array Oper):Plan→Bool→Nat→Array Bool→Bool
  | .done,_,n,l=>Nat.beq n 0 && (Region.ready md ops l).isEmpty
  | .stop,t,_,_=>!t
  | .q i r,_,n,l=>(match n with | 0=>false | m+1=>(Region.ready md ops l).contains i && Region.free md ops l i && planB md ops r true m (l.setIfInBounds i true))
  | .alt i p r,top,n,l=>(match n with | 0=>false | m+1=>(!top || ((Region.ready md ops l).all (fun j=>(i :: r.alts).contains j) && !(Region.ready md ops l).isEmpty)) && planB md ops p true m (l.setIfInBounds i true) && planB md ops r false n l)
  | .last i,_,n,l=>Nat.beq n 1 && (match Region.ready md ops l with | [j]=>Nat.beq i j | _=>false) && lastB md ops i && (Region.ready md ops (l.setIfInBounds i true)).isEmpty
theorem WT_get {C:World→Prop} {md:Region.Mode} {n:Nat} {l:Array Bool} {a:Act} {w:World} (j:Nat):∀ (p:Plan) (t:Bool),j∈p.alts→planB md ops.toArray p t (n+1) l=true→WT P ops C Q p a w →
    ∃ p',p.get j=some p'∧planB md ops.toArray p' true n (l.setIfInBounds j true)=true∧∀ w',F w w'→sOp P ops.toArray j (fun a w1=>C w1∧WT P ops C Q p' a w1) a w'
  | .alt i p r,t,hj,hB,h=>by
    simp only [planB,Bool.and_eq_true] at hB
    by_cases e:i=j
    · subst e
      exact ⟨p,by simp [Plan.get],hB.1.2,h.1⟩
    · have hj':j∈r.alts:=by
        simp only [Plan.alts,List.mem_cons] at hj
        rcases hj with rfl | hj
        · exact absurd rfl e
        · exact hj
      obtain ⟨p',h1,h2,h3⟩:=WT_get j r false hj' hB.2 h.2
      refine ⟨p',?_,h2,h3⟩
      simp only [Plan.get]
      rw [if_neg (fun hh=>e (Nat.eq_of_beq_eq_true hh))];exact h1
  | .done,_,hj,_,_=>by simp [Plan.alts] at hj
  | .stop,_,hj,_,_=>by simp [Plan.alts] at hj
  | .q _ _,_,hj,_,_=>by simp [Plan.alts] at hj
  | .last _,_,hj,_,_=>by simp [Plan.alts] at hj
theorem WT_WG {C:World→Prop} (hC:∀ w w',F w w'→C w→C w') (hs:Region.noSelect ops.toArray=true) {md:Region.Mode} (n:Nat):∀ (p:Plan) (l:Array Bool) (a:Act) (w:World),
    planB md ops.toArray p true n l=true→C w→WT P ops C Q p a w→WG P md ops.toArray C Q n l a w:=by
  induction n with
  | zero =>
    intro p l a w hB hw h
    cases p with
    | done =>
      simp only [planB,Bool.and_eq_true] at hB
      exact fun w' hw'=>⟨by simpa using hB.2,h w' hw' (hC _ _ hw' hw)⟩
    | stop=>simp [planB] at hB
    | q i r=>simp [planB] at hB
    | alt i p r=>simp [planB] at hB
    | last i=>simp [planB] at hB
  | succ n ih =>
    intro p l a w hB hw h
    cases p with
    | done=>simp [planB] at hB
    | stop=>simp [planB] at hB
    | q i r =>
      simp only [planB,Bool.and_eq_true] at hB
      obtain ⟨⟨hr,hf⟩,hB⟩:=hB
      obtain ⟨o,v,hi,hy,h⟩:=h
      exact WG_first hi (Region.noSelect_spec hs) hC n l a w (Region.free_spec hi hf) (by simpa using hr) hy hw (ih r _ _ _ hB hw h)
    | last i =>
      simp only [planB,Bool.and_eq_true] at hB
      obtain ⟨⟨⟨hn,hr⟩,hl⟩,he⟩:=hB
      have hn0:n+1=1:=Nat.eq_of_beq_eq_true hn
      have hn1:n=0:=by omega
      subst hn1
      split at hr
      · rename_i j hj
        have:i=j:=Nat.eq_of_beq_eq_true hr
        subst this
        intro w' hw'
        refine ⟨hC _ _ hw' hw,fun h0=>(by rw [hj] at h0;cases h0),fun k hk=>?_⟩
        rw [hj] at hk
        simp only [List.mem_singleton] at hk
        subst hk
        exact sOp.mono (fun a w1 h1=>⟨fun hf=>(by rw [hl] at hf;cases hf),fun w2 h2=>⟨by simpa using he,h1 w2 h2⟩⟩) (h w' hw')
      · cases hr
    | alt i p r =>
      have hB':=hB
      simp only [planB,Bool.and_eq_true,Bool.not_true,Bool.false_or] at hB
      intro w' hw'
      refine ⟨hC _ _ hw' hw,fun h0=>?_,fun k hk=>?_⟩
      · have:=hB.1.1.2
        rw [h0] at this
        simp at this
      · have hk':k∈(Plan.alt i p r).alts:=by
          have:=List.all_eq_true.1 hB.1.1.1 k hk
          simpa [Plan.alts] using this
        obtain ⟨p',h1,h2,h3⟩:=WT_get k _ _ hk' hB' h
        exact sOp.mono (fun a w1 h4=>⟨fun _=>h4.1,ih p' _ _ _ h2 h4.1 h4.2⟩) (h3 w' hw')
/-- **A REGION WHOSE ORDER IS DRAWN, all its orders.** -/
theorem wp_region_tree {id:Nat} {a:Act} {w:World} (p:Plan) (hm:P.follows .mixedOrders=true)
    (hB:(Region.noSelect ops.toArray && planB .any ops.toArray p true ops.length (Array.replicate ops.length false))=true)
    (hs:Sat M w0 w Δ Γc) (h:Sat M w0 w.drew Δ Γc→WT P ops (fun w=>Sat M w0 w Δ Γc) Q p a w.drew):(Code.region id ops.toArray true).wp P Q a w:=by
  simp only [Bool.and_eq_true] at hB
  obtain ⟨h1,h3⟩:=hB
  refine wp_region_any hm ?_
  have:=(WT_WG (md:=.any) (fun w w' h k=>k.f h) h1 ops.length p _ a w.drew h3 hs.drew (h hs.drew)).any
  simpa using this
variable {C:World→Prop} {o:Oper} {p p':Plan} {a:Act} {w w':World} {σ:List (Nat×Value)} {n d i:Nat} {v:Value}
theorem wtl_nil (h:∀ w',F w w'→C w'→Q .normal a w'):WT P ops C Q .done a w:=h
theorem wt_stop:WT P ops C Q .stop a w:=trivial
theorem tqst (v:Value) (hk:Kn σ n a) (hi:onth ops i=some o) (hd:o.dst=some d) (hdn:Nat.blt d n=true) (hw:wnt ops σ o=some true)
    (h:∀ w,C w→wpList P ops.toArray (QE w ((d,v) :: σ) n) [o] a w)
    (next:∀ a,Kn ((d,v) :: σ) n a→WT P ops C Q p a w):WT P ops C Q (.q i p) a w:=by
  have hwt:=wnt_wanted hk o true hw
  have hdl:d<n:=by simpa using hdn
  refine ⟨o,v,by simp [← onth_eq,hi],.inl ⟨hwt,fun w hC=>?_⟩,by rw [hd];exact next _ (hk.put d v hdl)⟩
  have:=h w hC
  unfold wpList at this
  rw [if_pos hwt] at this
  rcases this with this | ⟨_,h2⟩
  · unfold Oper.wp at this
    generalize (execOp a.eval o).run P w=r at *
    cases r with
    | ok m w' =>
      cases m <;> simp only [Oper.upon,wpList,QE] at this <;> simp only [qUpon]
      case value u=>rw [hd] at this;exact ⟨this.1,put_inj this.2 hdl hk.size⟩
      case skip=>rw [hd] at this;exact ⟨this.1,(put_inj this.2 hdl hk.size).symm⟩
      case enter =>
        refine this.mono fun e w2 h'=>?_
        cases e <;> simp only at h'
        case returned u=>rw [hd] at h';exact ⟨by rw [put_inj h'.2 hdl hk.size],h'.1⟩
        case outgrown=>exact (QE.lets h').elim
      case row =>
        refine this.mono fun u w2 h'=>?_
        rw [hd] at h';exact ⟨put_inj h'.2 hdl hk.size,h'.1⟩
      case defer=>have:=this.2.defers;rw [hd] at this;simp [Act.put] at this
      all_goals exact this
    | halt x w'=>cases x <;> simp only [Oper.upon,QE] at this
  · exact (QE.lets h2).elim
theorem tsst (hk:Kn σ n a) (hi:onth ops i=some o) (hw:wnt ops σ o=some true)
    (h:∀ K:Act→World→Prop,(∀ a w,WT P ops C Q p a w→K a w)→∀ w',F w w'→wpList P ops.toArray (SE C K) [o] a w') (hr:WT P ops C Q p' a w):WT P ops C Q (.alt i p p') a w:=by
  have hwt:=wnt_wanted hk o true hw
  refine ⟨?_,hr⟩
  intro w' hw'
  have:=h _ (fun _ _ h=>h) w' hw'
  unfold wpList at this
  rw [if_pos hwt] at this
  have hi':ops.toArray[i]? = some o:=by simp [← onth_eq,hi]
  unfold sOp
  simp only [hi',if_pos hwt]
  rcases this with this | ⟨_,h2⟩
  · unfold Oper.wp at this
    generalize hr:(execOp a.eval o).run P w'=r at *
    cases r with
    | ok m w' =>
      cases m <;> simp only [Oper.upon,wpList,SE] at this <;> simp only [sUpon]
      case value u=>exact ⟨this.1,this.2.2⟩
      case skip=>exact ⟨this.1,this.2.2⟩
      case enter =>
        refine this.mono fun e w2 h'=>?_
        cases e <;> simp only at h' ⊢
        case returned u=>exact ⟨h'.1,h'.2.2⟩
        case outgrown=>exact (SE.lets h').elim
      case row=>exact this.mono fun _ _ h'=>⟨h'.1,h'.2.2⟩
      case defer =>
        have h1:=this.2.1
        cases hd:o.dst <;> rw [hd] at h1 <;> simp [Act.put] at h1
      all_goals exact this
    | halt x w'=>cases x <;> simp only [Oper.upon,SE] at this
  · exact (SE.lets h2).elim
/-- ONE THAT COMES BEHIND ALL OTHERS. -/
theorem tlst (hk:Kn σ n a) (hi:onth ops i=some o) (hw:wnt ops σ o=some true)
    (h:∀ K:Act→World→Prop,(∀ a w,(∀ w',F w w'→Q .normal a w')→K a w)→∀ w',F w w'→wpList P ops.toArray (SE (fun _=>True) K) [o] a w'):WT P ops C Q (.last i) a w:=by
  have hwt:=wnt_wanted hk o true hw
  intro w' hw'
  have:=h _ (fun _ _ h=>h) w' hw'
  unfold wpList at this
  rw [if_pos hwt] at this
  have hi':ops.toArray[i]? = some o:=by simp [← onth_eq,hi]
  unfold sOp
  simp only [hi',if_pos hwt]
  rcases this with this | ⟨_,h2⟩
  · unfold Oper.wp at this
    generalize hr:(execOp a.eval o).run P w'=r at *
    cases r with
    | ok m w' =>
      cases m <;> simp only [Oper.upon,wpList,SE] at this <;> simp only [sUpon]
      case value u=>exact this.2.2
      case skip=>exact this.2.2
      case enter =>
        refine this.mono fun e w2 h'=>?_
        cases e <;> simp only at h' ⊢
        case returned u=>exact h'.2.2
        case outgrown=>exact (SE.lets h').elim
      case row=>exact this.mono fun _ _ h'=>h'.2.2
      case defer =>
        have h1:=this.2.1
        cases hd:o.dst <;> rw [hd] at h1 <;> simp [Act.put] at h1
      all_goals exact this
    | halt x w'=>cases x <;> simp only [Oper.upon,SE] at this
  · exact (SE.lets h2).elim
end
end Go.Z
