/- Lemmas for walks: frames known by slots, heaps known by chunks. No conditions of its own. -/
import Derived.Test.YteklgnhfgdhdiaaGreatZ27
namespace Go.Z
set_option linter.unusedVariables false
set_option linter.unusedSimpArgs false
open Go Go.RowKit
/-! A region whose order is drawn, in two phases: what only reads may look at what is changed later. -/
def cl2 (m:Nat) (C1 C2:World→Prop) (l:Array Bool):World→Prop:=fun w=>if l.getD m true=true then C2 w else C1 w
section
variable {P:Program} {ops:Array Oper} {md:Region.Mode} {Q:Exit→Act→World→Prop} {cl:Array Bool→World→Prop}
def WG2 (P:Program) (md:Region.Mode) (ops:Array Oper) (cl:Array Bool→World→Prop) (Q:Exit→Act→World→Prop):Nat→Array Bool→Act→World→Prop
  | 0,l,a,w=>∀ w',F w w'→Region.ready md ops l=[]∧Q .normal a w'
  | n+1,l,a,w=>∀ w',F w w'→cl l w'∧(Region.ready md ops l=[]→Q .normal a w')∧∀ i∈Region.ready md ops l,sOp P ops i (fun a w1=>(lastB md ops i=false→cl (l.setIfInBounds i true) w1)∧WG2 P md ops cl Q n (l.setIfInBounds i true) a w1) a w'
theorem WG2.f {n:Nat} {l:Array Bool} {a:Act} {w w':World} (h:WG2 P md ops cl Q n l a w) (k:F w w'):WG2 P md ops cl Q n l a w':=by
  cases n with
  | zero=>exact fun w2 h2=>h w2 (k.trans h2)
  | succ n=>exact fun w2 h2=>h w2 (k.trans h2)
theorem WG2.any:∀ {n:Nat} {l:Array Bool} {a:Act} {w:World},WG2 P md ops cl Q n l a w→wpAny P md ops Q n l a w
  | 0,l,a,w,h=>h w (F.refl w)
  | n + 1,l,a,w,h=>⟨(h w (F.refl w)).2.1,fun i hi=>by
    have:=(h w (F.refl w)).2.2 i hi
    unfold sOp at this
    unfold wpOp
    split
    · rename_i ho;simp only [ho] at this;exact WG2.any this.2
    · rename_i o ho
      simp only [ho] at this
      split
      · rename_i hw;simp only [hw,if_true] at this;exact .inl (this.up (fun _ _ h=>WG2.any h.2))
      · rename_i hw;simp only [hw] at this;exact WG2.any this.2⟩
theorem WG2_first {i:Nat} {oi:Oper} {v:Value} {D:World→Prop} (I:Array Bool→Prop) (hi:ops[i]? = some oi) (hsel:∀ (j:Nat) (o:Oper) cs b,ops[j]? = some o→o.op ≠ .select cs b) (hCl:∀ l w w',F w w'→cl l w→cl l w')
    (hI:∀ l w,I l→cl l w→D w) (hset:∀ l w,cl l w ↔ cl (l.setIfInBounds i true) w)
    (hstep:∀ l j,I l→j∈Region.ready md ops l→l.getD i true=false→j≠i→(∀ oj,ops[j]? = some oj→∀ e∈oj.after,Region.binds md e=true→e.on≠i)→I (l.setIfInBounds j true)) :
    ∀ (n:Nat) (l:Array Bool) (a:Act) (w:World),I l →
      (∀ j oj,ops[j]? = some oj→j≠i→l.getD j true=false→(∀ e∈oj.after,Region.binds md e=true→e.on≠i)→oi.apart ops oj=true) →
      i∈Region.ready md ops l→QY P ops D oi v a→cl l w →
      WG2 P md ops cl Q n (l.setIfInBounds i true) (a.put oi.dst v) w→WG2 P md ops cl Q (n+1) l a w:=by
  intro n
  induction n with
  | zero =>
    intro l a w hIl _ hr hy hCw H w' hw'
    have h0:=H w' hw'
    have hC':=hCl _ _ _ hw' hCw
    refine ⟨hC',fun h=>(by rw [h] at hr;cases hr),fun j hj=>?_⟩
    by_cases hji:j=i
    · subst hji;exact hy.op hi (hI _ _ hIl hC') fun w2 h2=>⟨fun _=>(hset _ _).1 (hCl _ _ _ h2 hC'),H.f (hw'.trans h2)⟩
    · have:=ready_mono hj hji
      rw [h0.1] at this
      cases this
  | succ n ih =>
    intro l a w hIl hfree hr hy hCw H w' hw'
    have h0:=H w' hw'
    have hC':=hCl _ _ _ hw' hCw
    refine ⟨hC',fun h=>(by rw [h] at hr;cases hr),fun j hj=>?_⟩
    by_cases hji:j=i
    · subst hji;exact hy.op hi (hI _ _ hIl hC') fun w2 h2=>⟨fun _=>(hset _ _).1 (hCl _ _ _ h2 hC'),H.f (hw'.trans h2)⟩
    · have h1:=h0.2.2 j (ready_mono hj hji)
      obtain ⟨hjun,oj,hoj,hall⟩:=mem_ready.1 hj
      have hun:l.getD i true=false:=(mem_ready.1 hr).1
      have hnot:∀ e∈oj.after,Region.binds md e=true→e.on≠i:=fun e he hb heq=>by
        have h1:=hall e he hb
        have h0:=hun
        rw [heq] at h1
        rcases Nat.lt_or_ge i l.size with h' | h'
        · simp [h'] at h0 h1;rw [h0] at h1;cases h1
        · simp [Array.getElem?_eq_none h'] at h1
      have hlast:lastB md ops j=false:=by
        cases hl:lastB md ops j with
        | false=>rfl
        | true =>
          exfalso
          unfold lastB at hl
          rw [hoj] at hl
          have hisz:=(Array.getElem?_eq_some_iff.1 hi).1
          have:=List.all_eq_true.1 hl i (List.mem_range.2 hisz)
          simp only [Bool.or_eq_true] at this
          rcases this with h | h
          · exact hji (Nat.eq_of_beq_eq_true h).symm
          · obtain ⟨e,he,h2⟩:=Array.any_eq_true'.1 h
            simp only [Bool.and_eq_true] at h2
            exact hnot e he h2.1 (Nat.eq_of_beq_eq_true h2.2)
      have h2:=sOp_put hoj (hfree j oj hoj hji hjun hnot) (fun cs b=>hsel i oi cs b hi) (fun cs b=>hsel j oj cs b hoj) hy h1
      have hI':=hstep l j hIl hj hun hji (fun o ho=>by rw [hoj] at ho;cases ho;exact hnot)
      have hfree':∀ k ok,ops[k]? = some ok→k≠i→(l.setIfInBounds j true).getD k true=false →
          (∀ e∈ok.after,Region.binds md e=true→e.on≠i)→oi.apart ops ok=true:=fun k ok hk hki hun hno=>by
        refine hfree k ok hk hki ?_ hno
        by_cases hjk:j=k
        · subst hjk;exact hjun
        · rw [getD_set_ne true hjk] at hun;exact hun
      have hcm:∀ w2,cl ((l.setIfInBounds i true).setIfInBounds j true) w2→cl (l.setIfInBounds j true) w2:=fun w2 h=>by
        rw [← Array.setIfInBounds_comm _ _ hji] at h
        exact (hset _ _).2 h
      refine sOp.mono (fun a' w2 h3=>⟨fun _=>hcm _ (h3.2.1 hlast),ih (l.setIfInBounds j true) a' w2 hI' hfree' (ready_mono hr (Ne.symm hji)) h3.1 (hcm _ (h3.2.1 hlast)) ?_⟩) h2
      rw [Array.setIfInBounds_comm _ _ hji]
      exact h3.2.2
end
/-- Does operation m come behind operation i? -/
def depB (md:Region.Mode) (ops:Array Oper) (m i:Nat):Bool:=match ops[m]? with | none=>false | some o=>o.after.any (fun e=>Region.binds md e && Nat.beq e.on i)
section
variable {P:Program} {ops:List Oper} {Q:Exit→Act→World→Prop} {M:List Nat} {w0:World} {Δ Γ1 Γ2:List (Nat×Chunk)}
def cph (C1 C2:World→Prop):Bool→World→Prop
  | true=>C2
  | false=>C1
def WT2 (P:Program) (ops:List Oper) (m:Nat) (C1 C2:World→Prop) (Q:Exit→Act→World→Prop):Bool→Plan→Act→World→Prop
  | _,.done,a,w=>∀ w',F w w'→Q .normal a w'
  | _,.stop,_,_=>True
  | ph,.q i r,a,w=>∃ o v,ops.toArray[i]? = some o∧((ph=false∧depB .any ops.toArray m i=true∧QY P ops.toArray C1 o v a)∨QY P ops.toArray C2 o v a)∧WT2 P ops m C1 C2 Q ph r (a.put o.dst v) w
  | ph,.alt i p r,a,w=>(∀ w',F w w'→sOp P ops.toArray i (fun a w1=>cph C1 C2 (ph || Nat.beq i m) w1∧WT2 P ops m C1 C2 Q (ph || Nat.beq i m) p a w1) a w')∧WT2 P ops m C1 C2 Q ph r a w
  | _,.last i,a,w=>∀ w',F w w'→sOp P ops.toArray i (fun a w1=>∀ w',F w1 w'→Q .normal a w') a w'
def planB2 (m:Nat) (md:Region.Mode) (ops:Array Oper):Plan→Bool→Nat→Array Bool→Bool
  | .done,_,n,l=>Nat.beq n 0 && (Region.ready md ops l).isEmpty
  | .stop,t,_,_=>!t
  | .q i r,_,n,l=>(match n with | 0=>false | k+1=>!Nat.beq i m && (Region.ready md ops l).contains i && Region.free md ops l i && planB2 m md ops r true k (l.setIfInBounds i true))
  | .alt i p r,top,n,l=>(match n with | 0=>false | k+1=>(!top || ((Region.ready md ops l).all (fun j=>(i :: r.alts).contains j) && !(Region.ready md ops l).isEmpty)) && planB2 m md ops p true k (l.setIfInBounds i true) && planB2 m md ops r false n l)
  | .last i,_,n,l=>Nat.beq n 1 && (match Region.ready md ops l with | [j]=>Nat.beq i j | _=>false) && lastB md ops i && (Region.ready md ops (l.setIfInBounds i true)).isEmpty
theorem WT2_get {m:Nat} {C1 C2:World→Prop} {md:Region.Mode} {n:Nat} {l:Array Bool} {ph:Bool} {a:Act} {w:World} (j:Nat):∀ (p:Plan) (t:Bool),j∈p.alts→planB2 m md ops.toArray p t (n+1) l=true→WT2 P ops m C1 C2 Q ph p a w →
    ∃ p',p.get j=some p'∧planB2 m md ops.toArray p' true n (l.setIfInBounds j true)=true∧∀ w',F w w'→sOp P ops.toArray j (fun a w1=>cph C1 C2 (ph || Nat.beq j m) w1∧WT2 P ops m C1 C2 Q (ph || Nat.beq j m) p' a w1) a w'
  | .alt i p r,t,hj,hB,h=>by
    simp only [planB2,Bool.and_eq_true] at hB
    by_cases e:i=j
    · subst e
      exact ⟨p,by simp [Plan.get],hB.1.2,h.1⟩
    · have hj':j∈r.alts:=by
        simp only [Plan.alts,List.mem_cons] at hj
        rcases hj with rfl | hj
        · exact absurd rfl e
        · exact hj
      obtain ⟨p',h1,h2,h3⟩:=WT2_get j r false hj' hB.2 h.2
      refine ⟨p',?_,h2,h3⟩
      simp only [Plan.get]
      rw [if_neg (fun hh=>e (Nat.eq_of_beq_eq_true hh))];exact h1
  | .done,_,hj,_,_=>by simp [Plan.alts] at hj
  | .stop,_,hj,_,_=>by simp [Plan.alts] at hj
  | .q _ _,_,hj,_,_=>by simp [Plan.alts] at hj
  | .last _,_,hj,_,_=>by simp [Plan.alts] at hj
theorem getD_set_m (l:Array Bool) (i m:Nat):(l.setIfInBounds i true).getD m true=(l.getD m true || Nat.beq i m):=by
  by_cases h:i=m
  · subst h
    rw [show Nat.beq i i=true by simp,Bool.or_true]
    rcases Nat.lt_or_ge i l.size with h' | h'
    · simp [Array.getD,h']
    · simp [Array.getD,Nat.not_lt.2 h']
  · rw [getD_set_ne true h,show Nat.beq i m=false by
      cases e:Nat.beq i m
      · rfl
      · exact absurd (Nat.eq_of_beq_eq_true e) h,Bool.or_false]
theorem cl2_eq {m:Nat} {C1 C2:World→Prop} {l:Array Bool} {ph:Bool} (h:l.getD m true=ph) (w:World):cl2 m C1 C2 l w ↔ cph C1 C2 ph w:=by
  unfold cl2
  rw [h]
  cases ph
  · simp [cph]
  · simp [cph]
theorem WT2_WG2 {m:Nat} {C1 C2:World→Prop} (hC1:∀ w w',F w w'→C1 w→C1 w') (hC2:∀ w w',F w w'→C2 w→C2 w') (h12:∀ w,C1 w→C2 w) (hs:Region.noSelect ops.toArray=true) {md:Region.Mode} (hmd:md = .any) (n:Nat):∀ (p:Plan) (l:Array Bool) (ph:Bool) (a:Act) (w:World),
    l.getD m true=ph→planB2 m md ops.toArray p true n l=true→cph C1 C2 ph w→WT2 P ops m C1 C2 Q ph p a w→WG2 P md ops.toArray (cl2 m C1 C2) Q n l a w:=by
  have hCl:∀ l w w',F w w'→cl2 m C1 C2 l w→cl2 m C1 C2 l w':=fun l w w' k h=>by
    cases e:l.getD m true
    · exact (cl2_eq e w').2 (hC1 _ _ k ((cl2_eq e w).1 h))
    · exact (cl2_eq e w').2 (hC2 _ _ k ((cl2_eq e w).1 h))
  have hto2:∀ l w,cl2 m C1 C2 l w→C2 w:=fun l w h=>by
    cases e:l.getD m true
    · exact h12 _ ((cl2_eq e w).1 h)
    · exact (cl2_eq e w).1 h
  induction n with
  | zero =>
    intro p l ph a w hph hB hw h
    cases p with
    | done =>
      simp only [planB2,Bool.and_eq_true] at hB
      exact fun w' hw'=>⟨by simpa using hB.2,h w' hw'⟩
    | stop=>simp [planB2] at hB
    | q i r=>simp [planB2] at hB
    | alt i p r=>simp [planB2] at hB
    | last i=>simp [planB2] at hB
  | succ n ih =>
    intro p l ph a w hph hB hw h
    have hcw:cl2 m C1 C2 l w:=(cl2_eq hph w).2 hw
    cases p with
    | done=>simp [planB2] at hB
    | stop=>simp [planB2] at hB
    | q i r =>
      simp only [planB2,Bool.and_eq_true] at hB
      obtain ⟨⟨⟨hm,hr⟩,hf⟩,hB⟩:=hB
      obtain ⟨o,v,hi,hy,h⟩:=h
      have hne:Nat.beq i m=false:=by simpa using hm
      have hset:∀ (l:Array Bool) w,cl2 m C1 C2 l w ↔ cl2 m C1 C2 (l.setIfInBounds i true) w:=fun l w=>by
        unfold cl2;rw [getD_set_m,hne,Bool.or_false]
      have hph':(l.setIfInBounds i true).getD m true=ph:=by rw [getD_set_m,hne,Bool.or_false];exact hph
      rcases hy with ⟨rfl,hdep,hy⟩ | hy
      · refine WG2_first (D:=C1) (fun l=>l.getD m true=false) hi (Region.noSelect_spec hs) hCl (fun l w hl h=>(cl2_eq hl w).1 h) hset (fun l j hl hj hun hji hno=>?_) n l a w hph (Region.free_spec hi hf) (by simpa using hr) hy hcw (ih r _ _ _ _ hph' hB hw h)
        rw [getD_set_m,hl,Bool.false_or]
        cases e:Nat.beq j m with
        | false=>rfl
        | true =>
          exfalso
          have:=Nat.eq_of_beq_eq_true e
          subst this
          subst hmd
          unfold depB at hdep
          split at hdep
          · cases hdep
          · rename_i oj hoj
            obtain ⟨e2,he2,h2⟩:=Array.any_eq_true'.1 hdep
            simp only [Bool.and_eq_true] at h2
            exact hno oj hoj e2 he2 h2.1 (Nat.eq_of_beq_eq_true h2.2)
      · exact WG2_first (D:=C2) (fun _=>True) hi (Region.noSelect_spec hs) hCl (fun l w _ h=>hto2 l w h) hset (fun _ _ _ _ _ _ _=>trivial) n l a w trivial (Region.free_spec hi hf) (by simpa using hr) hy hcw (ih r _ _ _ _ hph' hB hw h)
    | last i =>
      simp only [planB2,Bool.and_eq_true] at hB
      obtain ⟨⟨⟨hn,hr⟩,hl⟩,he⟩:=hB
      have hn0:n+1=1:=Nat.eq_of_beq_eq_true hn
      have hn1:n=0:=by omega
      subst hn1
      split at hr
      · rename_i j hj
        have:i=j:=Nat.eq_of_beq_eq_true hr
        subst this
        intro w' hw'
        refine ⟨hCl _ _ _ hw' hcw,fun h0=>(by rw [hj] at h0;cases h0),fun k hk=>?_⟩
        rw [hj] at hk
        simp only [List.mem_singleton] at hk
        subst hk
        exact sOp.mono (fun a w1 h1=>⟨fun hf=>(by rw [hl] at hf;cases hf),fun w2 h2=>⟨by simpa using he,h1 w2 h2⟩⟩) (h w' hw')
      · cases hr
    | alt i p r =>
      have hB':=hB
      simp only [planB2,Bool.and_eq_true,Bool.not_true,Bool.false_or] at hB
      intro w' hw'
      refine ⟨hCl _ _ _ hw' hcw,fun h0=>?_,fun k hk=>?_⟩
      · have:=hB.1.1.2
        rw [h0] at this
        simp at this
      · have hk':k∈(Plan.alt i p r).alts:=by
          have:=List.all_eq_true.1 hB.1.1.1 k hk
          simpa [Plan.alts] using this
        obtain ⟨p',h1,h2,h3⟩:=WT2_get k _ _ hk' hB' h
        have hp2:(l.setIfInBounds k true).getD m true=(ph || Nat.beq k m):=by rw [getD_set_m,hph]
        exact sOp.mono (fun a w1 h4=>⟨fun _=>(cl2_eq hp2 w1).2 h4.1,ih p' _ _ _ _ hp2 h2 h4.1 h4.2⟩) (h3 w' hw')
/-- **A REGION WHOSE ORDER IS DRAWN, all its orders, in two phases.** -/
theorem wp_region_tree2 {id:Nat} {a:Act} {w:World} (m:Nat) (p:Plan) (hm:P.follows .mixedOrders=true)
    (hB:(Region.noSelect ops.toArray && Nat.blt m ops.length && planB2 m .any ops.toArray p true ops.length (Array.replicate ops.length false))=true)
    (hs:Sat M w0 w Δ Γ1) (h12:∀ w,Sat M w0 w Δ Γ1→Sat M w0 w Δ Γ2) (h:Sat M w0 w.drew Δ Γ1→WT2 P ops m (fun w=>Sat M w0 w Δ Γ1) (fun w=>Sat M w0 w Δ Γ2) Q false p a w.drew):(Code.region id ops.toArray true).wp P Q a w:=by
  simp only [Bool.and_eq_true] at hB
  obtain ⟨⟨h1,h2⟩,h3⟩:=hB
  have h2':m<ops.length:=by simpa using h2
  refine wp_region_any hm ?_
  have:=(WT2_WG2 (md:=.any) (fun w w' h k=>k.f h) (fun w w' h k=>k.f h) h12 h1 rfl ops.length p _ false a w.drew (by simp [h2']) h3 hs.drew (h hs.drew)).any
  simpa using this
variable {C1 C2:World→Prop} {m:Nat} {o:Oper} {p p':Plan} {a:Act} {w w':World} {σ:List (Nat×Value)} {n d i:Nat} {v:Value} {ph:Bool}
theorem wt2_stop:WT2 P ops m C1 C2 Q ph .stop a w:=trivial
theorem qy_of {C:World→Prop} (v:Value) (hk:Kn σ n a) (hd:o.dst=some d) (hdn:Nat.blt d n=true) (hw:wnt ops σ o=some true)
    (h:∀ w,C w→wpList P ops.toArray (QE w ((d,v) :: σ) n) [o] a w):QY P ops.toArray C o v a:=by
  have hwt:=wnt_wanted hk o true hw
  have hdl:d<n:=by simpa using hdn
  refine .inl ⟨hwt,fun w hC=>?_⟩
  have:=h w hC
  unfold wpList at this
  rw [if_pos hwt] at this
  rcases this with this | ⟨_,h2⟩
  · unfold Oper.wp at this
    generalize (execOp a.eval o).run P w=r at *
    cases r with
    | ok m w' =>
      cases m <;> simp only [Oper.upon,wpList,QE] at this <;> simp only [qUpon]
      case value u=>rw [hd] at this;exact ⟨this.1,put_inj this.2 hdl hk.size⟩
      case skip=>rw [hd] at this;exact ⟨this.1,(put_inj this.2 hdl hk.size).symm⟩
      case enter =>
        refine this.mono fun e w2 h'=>?_
        cases e <;> simp only at h'
        case returned u=>rw [hd] at h';exact ⟨by rw [put_inj h'.2 hdl hk.size],h'.1⟩
        case outgrown=>exact (QE.lets h').elim
      case row =>
        refine this.mono fun u w2 h'=>?_
        rw [hd] at h';exact ⟨put_inj h'.2 hdl hk.size,h'.1⟩
      case defer=>have:=this.2.defers;rw [hd] at this;simp [Act.put] at this
      all_goals exact this
    | halt x w'=>cases x <;> simp only [Oper.upon,QE] at this
  · exact (QE.lets h2).elim
theorem tq1 (v:Value) (hk:Kn σ n a) (hi:onth ops i=some o) (hd:o.dst=some d) (hdn:Nat.blt d n=true) (hw:wnt ops σ o=some true) (hdep:depB .any ops.toArray m i=true)
    (h:∀ w,C1 w→wpList P ops.toArray (QE w ((d,v) :: σ) n) [o] a w)
    (next:∀ a,Kn ((d,v) :: σ) n a→WT2 P ops m C1 C2 Q false p a w):WT2 P ops m C1 C2 Q false (.q i p) a w :=
  ⟨o,v,by simp [← onth_eq,hi],.inl ⟨rfl,hdep,qy_of v hk hd hdn hw h⟩,by rw [hd];exact next _ (hk.put d v (by simpa using hdn))⟩
theorem tq2 (v:Value) (hk:Kn σ n a) (hi:onth ops i=some o) (hd:o.dst=some d) (hdn:Nat.blt d n=true) (hw:wnt ops σ o=some true)
    (h:∀ w,C2 w→wpList P ops.toArray (QE w ((d,v) :: σ) n) [o] a w)
    (next:∀ a,Kn ((d,v) :: σ) n a→WT2 P ops m C1 C2 Q ph p a w):WT2 P ops m C1 C2 Q ph (.q i p) a w :=
  ⟨o,v,by simp [← onth_eq,hi],.inr (qy_of v hk hd hdn hw h),by rw [hd];exact next _ (hk.put d v (by simpa using hdn))⟩
theorem sop_of {C:World→Prop} {X:Act→World→Prop} (hk:Kn σ n a) (hi:onth ops i=some o) (hw:wnt ops σ o=some true)
    (h:∀ K:Act→World→Prop,(∀ a w,X a w→K a w)→∀ w',F w w'→wpList P ops.toArray (SE C K) [o] a w'):∀ w',F w w'→sOp P ops.toArray i (fun a w1=>C w1∧X a w1) a w':=by
  have hwt:=wnt_wanted hk o true hw
  intro w' hw'
  have:=h _ (fun _ _ h=>h) w' hw'
  unfold wpList at this
  rw [if_pos hwt] at this
  have hi':ops.toArray[i]? = some o:=by simp [← onth_eq,hi]
  unfold sOp
  simp only [hi',if_pos hwt]
  rcases this with this | ⟨_,h2⟩
  · unfold Oper.wp at this
    generalize hr:(execOp a.eval o).run P w'=r at *
    cases r with
    | ok m w' =>
      cases m <;> simp only [Oper.upon,wpList,SE] at this <;> simp only [sUpon]
      case value u=>exact ⟨this.1,this.2.2⟩
      case skip=>exact ⟨this.1,this.2.2⟩
      case enter =>
        refine this.mono fun e w2 h'=>?_
        cases e <;> simp only at h' ⊢
        case returned u=>exact ⟨h'.1,h'.2.2⟩
        case outgrown=>exact (SE.lets h').elim
      case row=>exact this.mono fun _ _ h'=>⟨h'.1,h'.2.2⟩
      case defer =>
        have h1:=this.2.1
        cases hd:o.dst <;> rw [hd] at h1 <;> simp [Act.put] at h1
      all_goals exact this
    | halt x w'=>cases x <;> simp only [Oper.upon,SE] at this
  · exact (SE.lets h2).elim
theorem ta1 (hk:Kn σ n a) (hi:onth ops i=some o) (hw:wnt ops σ o=some true) (hne:Nat.beq i m=false)
    (h:∀ K:Act→World→Prop,(∀ a w,WT2 P ops m C1 C2 Q false p a w→K a w)→∀ w',F w w'→wpList P ops.toArray (SE C1 K) [o] a w') (hr:WT2 P ops m C1 C2 Q false p' a w):WT2 P ops m C1 C2 Q false (.alt i p p') a w:=by
  have:=sop_of hk hi hw h
  refine ⟨?_,hr⟩
  simp only [hne,Bool.or_false]
  exact this
theorem tam (hk:Kn σ n a) (hi:onth ops i=some o) (hw:wnt ops σ o=some true) (he:Nat.beq i m=true)
    (h:∀ K:Act→World→Prop,(∀ a w,WT2 P ops m C1 C2 Q true p a w→K a w)→∀ w',F w w'→wpList P ops.toArray (SE C2 K) [o] a w') (hr:WT2 P ops m C1 C2 Q false p' a w):WT2 P ops m C1 C2 Q false (.alt i p p') a w:=by
  have:=sop_of hk hi hw h
  refine ⟨?_,hr⟩
  simp only [he,Bool.or_true]
  exact this
theorem ta2 (hk:Kn σ n a) (hi:onth ops i=some o) (hw:wnt ops σ o=some true)
    (h:∀ K:Act→World→Prop,(∀ a w,WT2 P ops m C1 C2 Q true p a w→K a w)→∀ w',F w w'→wpList P ops.toArray (SE C2 K) [o] a w') (hr:WT2 P ops m C1 C2 Q true p' a w):WT2 P ops m C1 C2 Q true (.alt i p p') a w:=by
  have:=sop_of hk hi hw h
  exact ⟨this,hr⟩
theorem tl2 (hk:Kn σ n a) (hi:onth ops i=some o) (hw:wnt ops σ o=some true)
    (h:∀ K:Act→World→Prop,(∀ a w,(∀ w',F w w'→Q .normal a w')→K a w)→∀ w',F w w'→wpList P ops.toArray (SE (fun _=>True) K) [o] a w'):WT2 P ops m C1 C2 Q ph (.last i) a w:=by
  have hwt:=wnt_wanted hk o true hw
  intro w' hw'
  have:=h _ (fun _ _ h=>h) w' hw'
  unfold wpList at this
  rw [if_pos hwt] at this
  have hi':ops.toArray[i]? = some o:=by simp [← onth_eq,hi]
  unfold sOp
  simp only [hi',if_pos hwt]
  rcases this with this | ⟨_,h2⟩
  · unfold Oper.wp at this
    generalize hr:(execOp a.eval o).run P w'=r at *
    cases r with
    | ok m w' =>
      cases m <;> simp only [Oper.upon,wpList,SE] at this <;> simp only [sUpon]
      case value u=>exact this.2.2
      case skip=>exact this.2.2
      case enter =>
        refine this.mono fun e w2 h'=>?_
        cases e <;> simp only at h' ⊢
        case returned u=>exact h'.2.2
        case outgrown=>exact (SE.lets h').elim
      case row=>exact this.mono fun _ _ h'=>h'.2.2
      case defer =>
        have h1:=this.2.1
        cases hd:o.dst <;> rw [hd] at h1 <;> simp [Act.put] at h1
      all_goals exact this
    | halt x w'=>cases x <;> simp only [Oper.upon,SE] at this
  · exact (SE.lets h2).elim
end
end Go.Z
