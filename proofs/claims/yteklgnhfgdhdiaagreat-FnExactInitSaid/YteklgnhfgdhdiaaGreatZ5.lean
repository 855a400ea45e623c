/- Lemmas for walks: frames known by slots, heaps known by chunks. No conditions of its own. -/
import Derived.Test.YteklgnhfgdhdiaaGreatZ4
namespace Go.Z
set_option linter.unusedVariables false
set_option linter.unusedSimpArgs false
open Go Go.RowKit
/-! Loops of the models. -/
inductive Ex (τ ρ:Type) where
  | out (s:τ)
  | ret (r:ρ)
def loopN {σ ρ:Type} (step:σ→Option (σ ⊕ ρ)):Nat→σ→Option ρ
  | 0,_=>none
  | n+1,s=>match step s with
    | none=>none
    | some (.inl s')=>loopN step n s'
    | some (.inr r)=>some r
theorem loopN_mono {σ ρ:Type} {step:σ→Option (σ ⊕ ρ)}:∀ (n m:Nat) (s:σ) (r:ρ),loopN step n s=some r→n≤m→loopN step m s=some r
  | 0,_,_,_,h,_=>by simp [loopN] at h
  | n+1,0,_,_,_,h=>by omega
  | n+1,m+1,s,r,h,hm=>by
    unfold loopN at h ⊢
    split <;> simp_all
    exact loopN_mono n m _ _ h (by omega)
open Classical in
noncomputable def loopO {σ ρ:Type} (step:σ→Option (σ ⊕ ρ)) (s:σ):Option ρ :=
  if h:∃ n r,loopN step n s=some r then some (Classical.choose (Classical.choose_spec h)) else none
theorem loopO_of {σ ρ:Type} {step:σ→Option (σ ⊕ ρ)} {n:Nat} {s:σ} {r:ρ} (h:loopN step n s=some r):loopO step s=some r:=by
  have he:∃ n r,loopN step n s=some r:=⟨n,r,h⟩
  unfold loopO
  rw [dif_pos he]
  have h2:=Classical.choose_spec (Classical.choose_spec he)
  have h3:=loopN_mono _ (max n (Classical.choose he)) _ _ h2 (Nat.le_max_right _ _)
  have h4:=loopN_mono _ (max n (Classical.choose he)) _ _ h (Nat.le_max_left _ _)
  rw [h3] at h4
  exact h4
theorem loopO_some {σ ρ:Type} {step:σ→Option (σ ⊕ ρ)} {s:σ} {r:ρ} (h:loopO step s=some r):∃ n,loopN step n s=some r:=by
  unfold loopO at h
  split at h
  · rename_i he
    exact ⟨Classical.choose he,by rw [← h];exact Classical.choose_spec (Classical.choose_spec he)⟩
  · cases h
/-- One round. -/
theorem loopO_eq {σ ρ:Type} (step:σ→Option (σ ⊕ ρ)) (s:σ):loopO step s=match step s with | none=>none | some (.inl s')=>loopO step s' | some (.inr r)=>some r:=by
  cases hs:step s with
  | none =>
    cases h:loopO step s with
    | none=>rfl
    | some r =>
      obtain ⟨n,hn⟩:=loopO_some h
      cases n with
      | zero=>simp [loopN] at hn
      | succ n=>simp [loopN,hs] at hn
  | some x =>
    cases x with
    | inr r=>exact loopO_of (n:=1) (by simp [loopN,hs])
    | inl s' =>
      simp only
      cases h:loopO step s' with
      | some r =>
        obtain ⟨n,hn⟩:=loopO_some h
        exact loopO_of (n:=n+1) (by simp [loopN,hs,hn])
      | none =>
        cases h2:loopO step s with
        | none=>rfl
        | some r =>
          obtain ⟨n,hn⟩:=loopO_some h2
          cases n with
          | zero=>simp [loopN] at hn
          | succ n =>
            simp [loopN,hs] at hn
            rw [loopO_of hn] at h
            cases h
theorem loop_round {σ ρ:Type} {step:σ→Option (σ ⊕ ρ)} {n:Nat} {s:σ} {r:ρ} (h:loopN step n s=some r):∃ x,step s=some x∧match x with | .inl s'=>∃ m,m<n∧loopN step m s'=some r | .inr r'=>r'=r:=by
  cases n with
  | zero=>simp [loopN] at h
  | succ n =>
    unfold loopN at h
    split at h
    · cases h
    · rename_i s' hs;exact ⟨_,hs,n,by omega,h⟩
    · rename_i r' hs;exact ⟨_,hs,Option.some.inj h⟩
theorem ite_some {α:Type} {c:Prop} [Decidable c] {x y:Option α} {r:α} (h:(if c then x else y)=some r):(c∧x=some r)∨(¬ c∧y=some r):=by
  split at h
  · exact .inl ⟨‹_›,h⟩
  · exact .inr ⟨‹_›,h⟩
theorem bind_some {α β:Type} {x:Option α} {f:α→Option β} {r:β} (h:x.bind f=some r):∃ y,x=some y∧f y=some r:=by
  cases x with
  | none=>cases h
  | some y=>exact ⟨y,rfl,h⟩
theorem not_true {b:Bool} (h:¬ b=true):b=false:=by simpa using h

abbrev w64 (x:Int):Int:=IntKind.wrap .i64 x

section
variable {M:List Nat} {w0 w:World} {Δ Γ:List (Nat×Chunk)}
/-- Some of the chunks, in another order. -/
def kmem (k:Nat):List (Nat×Nat)→Bool
  | []=>false
  | (_,o) :: r=>bif Nat.beq k o then true else kmem k r
def kdist:List (Nat×Nat)→Bool
  | []=>true
  | (_,o) :: r=>bif kmem o r then false else kdist r
def kpk (Γ:List (Nat×Chunk)):List (Nat×Nat)→Option (List (Nat×Chunk))
  | []=>some []
  | (new,old) :: r=>match kget Γ old,kpk Γ r with | some c,some q=>some ((new,c) :: q) | _,_=>none
def kpick (Γ:List (Nat×Chunk)) (ks:List (Nat×Nat)):Option (List (Nat×Chunk)):=bif kdist ks then kpk Γ ks else none
theorem kget_kdel_ne {k o:Nat} (h:Nat.beq k o=false):∀ Γ:List (Nat×Chunk),kget (kdel Γ o) k=kget Γ k
  | []=>rfl
  | (s, c) :: r=>by
    simp only [kdel]
    by_cases e:Nat.beq s o=true
    · rw [if_pos e]
      have e1:s=o:=Nat.eq_of_beq_eq_true e
      have e2:Nat.beq s k=false:=by
        rw [e1]
        cases hh:Nat.beq o k with
        | false=>rfl
        | true =>
          have:=Nat.eq_of_beq_eq_true hh
          subst this
          simp at h
      simp only [kget,e2,Bool.false_eq_true,if_false]
    · rw [if_neg e]
      simp only [kget,kget_kdel_ne h r]
theorem kpk_kdel {Γ:List (Nat×Chunk)} {o:Nat}:∀ (r:List (Nat×Nat)),kmem o r=false→kpk (kdel Γ o) r=kpk Γ r
  | [],_=>rfl
  | (new, old) :: r,h=>by
    simp only [kmem] at h
    cases hb:Nat.beq o old with
    | true=>rw [hb] at h;cases h
    | false =>
      rw [hb] at h
      have hb2:Nat.beq old o=false:=by
        cases hh:Nat.beq old o with
        | false=>rfl
        | true =>
          have:=Nat.eq_of_beq_eq_true hh
          subst this
          simp at hb
      simp only [kpk,kget_kdel_ne hb2,kpk_kdel r h]
theorem kpk_spec:∀ (ks:List (Nat×Nat)) (Γ Γ':List (Nat×Chunk)),kdist ks=true→kpk Γ ks=some Γ'→(∃ rest,(blks Γ).Perm (blks Γ'++rest))∧∀ x∈Γ',∃ s,(s,x.2)∈Γ
  | [],Γ,Γ',_,h=>by cases h;exact ⟨⟨blks Γ,List.Perm.refl _⟩,by simp⟩
  | (new, old) :: r,Γ,Γ',hd,h=>by
    simp only [kdist] at hd
    cases hm:kmem old r with
    | true=>rw [hm] at hd;cases hd
    | false =>
      rw [hm] at hd
      unfold kpk at h
      split at h
      · rename_i c q hc hq
        cases h
        rw [← kpk_kdel r hm] at hq
        obtain ⟨⟨rest,hp⟩,hmm⟩:=kpk_spec r _ _ hd hq
        refine ⟨⟨rest,?_⟩,?_⟩
        · simp only [blks,List.append_assoc]
          exact (kget_perm hc).trans (List.Perm.append_left _ hp)
        · intro x hx
          rcases List.mem_cons.1 hx with rfl | hx
          · exact kget_mem hc
          · obtain ⟨s,hs⟩:=hmm x hx;exact ⟨s,kdel_mem hs⟩
      · cases h
theorem kpick_spec (ks:List (Nat×Nat)) (Γ Γ':List (Nat×Chunk)) (h:kpick Γ ks=some Γ'):(∃ rest,(blks Γ).Perm (blks Γ'++rest))∧∀ x∈Γ',∃ s,(s,x.2)∈Γ:=by
  unfold kpick at h
  cases hd:kdist ks with
  | false=>rw [hd] at h;cases h
  | true=>rw [hd] at h;exact kpk_spec ks Γ Γ' hd h
theorem Sat.pick (h:Sat M w0 w Δ Γ) (ks:List (Nat×Nat)) {Γ':List (Nat×Chunk)} (hk:kpick Γ ks=some Γ'):Sat M w0 w Δ Γ':=by
  obtain ⟨⟨rest,hp⟩,hm⟩:=kpick_spec ks Γ Γ' hk
  have hsub:∀ b∈blks Γ',b∈blks Γ:=fun b hb=>hp.symm.subset (List.mem_append_left _ hb)
  refine ⟨h.os,h.tape,h.output,h.size,h.keep,fun x hx=>?_,h.ro,(List.nodup_append.1 (hp.nodup_iff.1 h.nodup)).1,fun b hb=>h.mine b (hsub b hb),fun b hb hb'=>h.apart b hb (hsub b hb')⟩
  obtain ⟨s,hs⟩:=hm x hx
  exact h.has (s,x.2) hs
def dpick (Δ:List (Nat×Chunk)):List (Nat×Nat)→Option (List (Nat×Chunk))
  | []=>some []
  | (new,old) :: r=>match kget Δ old,dpick Δ r with | some c,some q=>some ((new,c) :: q) | _,_=>none
theorem dpick_spec:∀ (ks:List (Nat×Nat)) (Δ Δ':List (Nat×Chunk)),dpick Δ ks=some Δ'→∀ x∈Δ',∃ s,(s,x.2)∈Δ
  | [],Δ,Δ',h=>by cases h;simp
  | (new,old) :: r,Δ,Δ',h=>by
    unfold dpick at h
    split at h
    · rename_i c q hc hq
      cases h
      intro x hx
      rcases List.mem_cons.1 hx with rfl | hx
      · exact kget_mem hc
      · exact dpick_spec r _ _ hq x hx
    · cases h
theorem Sat.dpick (h:Sat M w0 w Δ Γ) (ks:List (Nat×Nat)) {Δ':List (Nat×Chunk)} (hk:dpick Δ ks=some Δ'):Sat M w0 w Δ' Γ:=by
  have hm:=dpick_spec ks Δ Δ' hk
  refine ⟨h.os,h.tape,h.output,h.size,h.keep,h.has,fun x hx=>?_,h.nodup,h.mine,fun b hb=>?_⟩
  · obtain ⟨s,hs⟩:=hm x hx;exact h.ro (s,x.2) hs
  · obtain ⟨x,hx,o,ho⟩:=blks_mem.1 hb
    obtain ⟨s,hs⟩:=hm x hx
    exact h.apart b (blks_mem.2 ⟨_,hs,o,ho⟩)
theorem cells_at {A:Option Addr} {k:Nat} {es:List Value} {c:Chunk} (h:∀ j u,es[j]? = some u→CellIn c (padd A (k+j)).block (padd A (k+j)).off u) (hw:Has w c) :
    ∀ j u,es[j]? = some u→w.cell? ((padd A k).add j)=some u:=fun j u hu=>by
  rw [padd_add]
  exact (h j u hu).cell hw
theorem box_cell {k b off:Nat} {cs:Array Value} {t:TypeId} {fr:Nat×Nat} {v:Value} (h:Sat M w0 w Δ Γ) (hk:kget Γ k=some [(b,.cells cs t fr)]) (hc:cs[off]? = some v):w.cell? ⟨b,off,none⟩=some v:=by
  rw [cell_of_row w b off cs t fr (h.hasG hk _ (List.mem_singleton.2 rfl))];exact hc
theorem box_row {k b:Nat} {o:Obj} (h:Sat M w0 w Δ Γ) (hk:kget Γ k=some [(b,o)]):w.heap[b]? = some o:=h.hasG hk _ (List.mem_singleton.2 rfl)
theorem box_cells {k b:Nat} {vs:List Value} {t:TypeId} {fr:Nat×Nat} (h:Sat M w0 w Δ Γ) (hk:kget Γ k=some [(b,.cells vs.toArray t fr)]):∀ j u,vs[j]? = some u→w.cell? ((⟨b,0,none⟩:Addr).add j)=some u:=fun j u hu=>by
  have:(⟨b,0,none⟩:Addr).add j=⟨b,j,none⟩:=by unfold Addr.add;split <;> simp_all
  rw [this]
  exact box_cell h hk (by simpa using hu)
end

section steps
variable {P:Program} {ops:List Oper} {Q:Exit→Act→World→Prop} {o:Oper} {rest:List Oper} {a:Act} {w w':World} {σ:List (Nat×Value)} {n d:Nat} {v:Value} {M:List Nat} {w0:World} {Δ Γ:List (Nat×Chunk)}
/-- A NEW VARIABLE. -/
theorem sbx (k:Nat) {t:TypeId} {x:Operand} {cs:Array Value} (hs:Sat M w0 w Δ Γ) (ho:o.op = .box t x) (hk:Kn σ n a) (hd:o.dst=some d) (hx:rho? σ x=some v) (hcs:v.cells=cs) (hc:chk ops n σ o d=true)
    (next:∀ b w' a,Kn ((d,.pointer (some ⟨b,0,none⟩)) :: σ) n a→Sat M w0 w' Δ ((k,[(b,.cells cs t (0,0))]) :: Γ)→wpList P ops.toArray Q rest a w'):wpList P ops.toArray Q (o :: rest) a w :=
  sb ho hk hd hx hc fun a hk=>next _ _ a hk (by rw [hcs];exact hs.alloc k _)
theorem salx (k:Nat) {t:TypeId} {z:Value} {cs:Array Value} (hs:Sat M w0 w Δ Γ) (ho:o.op = .alloc t) (hk:Kn σ n a) (hd:o.dst=some d) (hc:chk ops n σ o d=true) (hz:zeroB P t=some z) (hcs:z.cells=cs)
    (next:∀ b w' a,Kn ((d,.pointer (some ⟨b,0,none⟩)) :: σ) n a→Sat M w0 w' Δ ((k,[(b,.cells cs t (0,0))]) :: Γ)→wpList P ops.toArray Q rest a w'):wpList P ops.toArray Q (o :: rest) a w :=
  sal ho hk hd hc hz fun a hk=>next _ _ a hk (by rw [hcs];exact hs.alloc k _)
/-- A STORE INTO A VARIABLE. -/
theorem ssx (k:Nat) {t T:TypeId} {x y:Operand} {b off:Nat} {cs cs':Array Value} (hs:Sat M w0 w Δ Γ) (hg:kget Γ k=some [(b,.cells cs T (0,0))]) (ho:o.op = .store t x y) (hk:Kn σ n a) (hd:o.dst=none)
    (hx:rho? σ x=some (.pointer (some ⟨b,off,none⟩))) (hy:rho? σ y=some v) (hc:chk0 ops σ o=true) (hz:szB P t=some 1) (hv:v.cells = #[v]) (h1:v.oneCell'=true) (hf:Nat.blt off cs.size=true) (hcs:cs.setIfInBounds off v=cs')
    (next:∀ w' a,Kn σ n a→Sat M w0 w' Δ (kset Γ k [(b,.cells cs' T (0,0))])→wpList P ops.toArray Q rest a w'):wpList P ops.toArray Q (o :: rest) a w :=
  ss ho hk hd hx hy hc hz hv h1 (box_row hs hg) (by simpa using hf) fun a hk=>next _ a hk (by rw [hcs];exact hs.write1 _ hg)
/-- A STORE OF A STRUCT OVER THE WHOLE OF A VARIABLE. -/
theorem ssw (k:Nat) {t T:TypeId} {x y:Operand} {b:Nat} {cs us:Array Value} (hs:Sat M w0 w Δ Γ) (hg:kget Γ k=some [(b,.cells cs T (0,0))]) (ho:o.op = .store t x y) (hk:Kn σ n a) (hd:o.dst=none)
    (hx:rho? σ x=some (.pointer (some ⟨b,0,none⟩))) (hy:rho? σ y=some (.agg us)) (hc:chk0 ops σ o=true) (hz:szB P t=some us.size) (h1:∀ u∈us.toList,u.oneCell'=true) (hf:us.size=cs.size)
    (next:∀ w' a,Kn σ n a→Sat M w0 w' Δ (kset Γ k [(b,.cells us T (0,0))])→wpList P ops.toArray Q rest a w'):wpList P ops.toArray Q (o :: rest) a w :=
  ssn ho hk hd hx hy hc hz h1 (box_row hs hg) (by omega) fun a hk=>next _ a hk (by
    have e:(cs.toList.take 0++us.toList++cs.toList.drop (0+us.size)).toArray=us:=by
      apply Array.ext'
      simp [hf,List.drop_eq_nil_of_le]
    rw [e];exact hs.write1 _ hg)
end steps
end Go.Z
