/- Lemmas for walks: frames known by slots, heaps known by chunks. No conditions of its own. -/
import Derived.Test.YteklgnhfgdhdiaaGreatZ12
namespace Go.Z
set_option linter.unusedVariables false
set_option linter.unusedSimpArgs false
open Go Go.RowKit
def ktake:List (Nat×Chunk)→List (Nat×Nat)→Option (List (Nat×Chunk)×List (Nat×Chunk))
  | Γ,[]=>some ([],Γ)
  | Γ,(new,old) :: r=>match kget Γ old with
    | some c=>match ktake (kdel Γ old) r with
      | some (H,R)=>some ((new,c) :: H,R)
      | none=>none
    | none=>none
theorem ktake_spec:∀ (ks:List (Nat×Nat)) (Γ H R:List (Nat×Chunk)),ktake Γ ks=some (H,R)→(blks Γ).Perm (blks H++blks R)∧(∀ x∈R,x∈Γ)∧∀ x∈H,∃ s,(s,x.2)∈Γ
  | [],Γ,H,R,h=>by cases h;exact ⟨List.Perm.refl _,fun _ h=>h,fun _ h=>by simp at h⟩
  | (new, old) :: r,Γ,H,R,h=>by
    unfold ktake at h
    split at h
    · rename_i c hc
      split at h
      · rename_i H' R' hr
        cases h
        obtain ⟨h1,h2,h3⟩:=ktake_spec r _ _ _ hr
        refine ⟨?_,fun x hx=>kdel_mem (h2 x hx),fun x hx=>?_⟩
        · refine (kget_perm hc).trans ?_
          simp only [blks,List.append_assoc]
          exact List.Perm.append_left _ h1
        · rcases List.mem_cons.1 hx with rfl | hx
          · exact kget_mem hc
          · obtain ⟨s,hs⟩:=h3 x hx;exact ⟨s,kdel_mem hs⟩
      · cases h
    · cases h
theorem blks_app (A B:List (Nat×Chunk)):blks (A++B)=blks A++blks B:=by
  induction A with
  | nil=>rfl
  | cons x r ih=>obtain ⟨s,c⟩:=x;simp only [List.cons_append,blks,ih,List.append_assoc]
section
variable {M:List Nat} {w0 w:World} {Δ Γ:List (Nat×Chunk)}
/-- Chunks are handed to a call that may write them; all else is read. -/
theorem Sat.hand (h:Sat M w0 w Δ Γ) (ks:List (Nat×Nat)) {H R:List (Nat×Chunk)} (hk:ktake Γ ks=some (H,R)):Sat (blks H) w w (R++Δ) H:=by
  obtain ⟨h1,h2,h3⟩:=ktake_spec ks Γ H R hk
  have hn:=h1.nodup_iff.1 h.nodup
  refine ⟨rfl,rfl,rfl,Nat.le_refl _,fun _ _ _=>rfl,fun x hx=>?_,fun x hx=>?_,(List.nodup_append.1 hn).1,fun b hb=>.inr hb,fun b hb hb'=>?_⟩
  · obtain ⟨s,hs⟩:=h3 x hx;exact h.has (s,x.2) hs
  · rcases List.mem_append.1 hx with hx | hx
    · exact h.has x (h2 x hx)
    · exact h.ro x hx
  · rw [blks_app] at hb
    rcases List.mem_append.1 hb with hb | hb
    · exact (List.nodup_append.1 hn).2.2 b hb' b hb rfl
    · exact h.apart b hb (h1.symm.subset (List.mem_append_left _ hb'))
/-- Behind the call. -/
theorem Sat.back (h:Sat M w0 w Δ Γ) (ks:List (Nat×Nat)) {H R:List (Nat×Chunk)} (hk:ktake Γ ks=some (H,R)) {w':World} {Δ' Γ' Γ2:List (Nat×Chunk)} (h':Sat (blks H) w w' Δ' Γ') (kn:List Nat) (hr:rek Γ' kn=some Γ2):Sat M w0 w' Δ (Γ2++R):=by
  obtain ⟨h1,h2,h3⟩:=ktake_spec ks Γ H R hk
  have hn:=List.nodup_append.1 (h1.nodup_iff.1 h.nodup)
  have hb2:blks Γ2=blks Γ':=by
    have e:=rek_snd _ _ _ hr
    have key:∀ A B:List (Nat×Chunk),A.map Prod.snd=B.map Prod.snd→blks A=blks B:=by
      intro A
      induction A with
      | nil=>intro B h;cases B with | nil=>rfl | cons _ _=>simp at h
      | cons x r ih =>
        intro B h
        cases B with
        | nil=>simp at h
        | cons y q =>
          obtain ⟨s,c⟩:=x;obtain ⟨t,d⟩:=y
          simp only [List.map_cons,List.cons.injEq] at h
          simp only [blks];rw [ih q h.2,h.1]
    exact key _ _ e
  have hcm:∀ b∈blks H,w0.heap.size≤b∨b∈M:=fun b hb=>h.mine b (h1.symm.subset (List.mem_append_left _ hb))
  have hkeep:∀ d:Chunk,Has w d→(∀ y∈d,y.1 ∉ blks H)→Has w' d:=fun d hd hn y hy=>by
    have:=hd y hy
    rw [h'.keep y.1 (Array.getElem?_eq_some_iff.1 this).1 (hn y hy)];exact this
  refine ⟨h'.os.trans h.os,h'.tape.trans h.tape,h'.output.trans h.output,Nat.le_trans h.size h'.size,?_,?_,?_,?_,?_,?_⟩
  · intro j hj hm
    rw [h'.keep j (Nat.lt_of_lt_of_le hj h.size) (fun hc=>?_)]
    · exact h.keep j hj hm
    · rcases hcm j hc with h1 | h1
      · omega
      · exact hm h1
  · intro x hx
    rcases List.mem_append.1 hx with hx | hx
    · have:x.2∈Γ'.map Prod.snd:=by rw [← rek_snd _ _ _ hr];exact List.mem_map.2 ⟨x,hx,rfl⟩
      obtain ⟨y,hy,e⟩:=List.mem_map.1 this
      exact e ▸ h'.has y hy
    · exact hkeep x.2 (h.has x (h2 x hx)) (fun y hy hc=>hn.2.2 y.1 hc y.1 (blks_mem.2 ⟨x,hx,y.2,hy⟩) rfl)
  · intro x hx
    exact hkeep x.2 (h.ro x hx) (fun y hy hc=>h.apart y.1 (blks_mem.2 ⟨x,hx,y.2,hy⟩) (h1.symm.subset (List.mem_append_left _ hc)))
  · rw [blks_app,hb2,List.nodup_append]
    refine ⟨h'.nodup,hn.2.1,fun a ha b hb e=>?_⟩
    subst e
    rcases h'.mine a ha with h3 | h3
    · have:=h.lt a (.inl (h1.symm.subset (List.mem_append_right _ hb)))
      omega
    · exact hn.2.2 a h3 a hb rfl
  · intro b hbb
    rw [blks_app,hb2] at hbb
    rcases List.mem_append.1 hbb with hbb | hbb
    · rcases h'.mine b hbb with h3 | h3
      · exact .inl (Nat.le_trans h.size h3)
      · exact hcm b h3
    · exact h.mine b (h1.symm.subset (List.mem_append_right _ hbb))
  · intro b hd hbb
    rw [blks_app,hb2] at hbb
    rcases List.mem_append.1 hbb with hbb | hbb
    · rcases h'.mine b hbb with h3 | h3
      · have:=h.lt b (.inr hd)
        omega
      · exact h.apart b hd (h1.symm.subset (List.mem_append_left _ h3))
    · exact h.apart b hd (h1.symm.subset (List.mem_append_right _ hbb))
end
/-- An element of an own row, taken out and put back. -/
theorem Own.elem {α:Type} {L:Lay α} {E:TypeId} {A:Option Addr} {cap:Nat} {xs:List α} {c:Chunk} (h:Own L E A cap xs c) (z:α) (i:Int) (h0:0≤i) (h1:i<xs.length) :
    ∃ es d cr,(d++cr).Perm c∧L.own (xs.getD i.toNat z) es d∧(∀ j u,es[j]? = some u→CellIn c (padd A (i.toNat*L.size+j)).block (padd A (i.toNat*L.size+j)).off u) ∧
      ∀ y d',L.own y es d'→∃ c',(d'++cr).Perm c'∧Own L E A cap (xs.set i.toNat y) c':=by
  have hlt:i.toNat<xs.length:=by omega
  obtain ⟨b,rfl,cs,ess,dd,rfl,hall,htake,hsz,hle,htop⟩:=h.opened (by rintro rfl;simp at hlt)
  have hx0:xs[i.toNat]? = some (xs.getD i.toNat z):=by simp [List.getD_eq_getElem?_getD,List.getElem?_eq_getElem hlt]
  obtain ⟨c1,d,c2,es,rfl,hes,hoe,hput⟩:=hall.take i.toNat _ hx0
  refine ⟨es,d,(b,.cells cs E (0,0)) :: (c1++c2),?_,hoe,fun j u hu=>?_,fun y d' hy=>⟨(b,.cells cs E (0,0)) :: (c1++d'++c2),?_,.inr ⟨b,rfl,cs,ess.set i.toNat es,_,rfl,hput y es d' hy,?_,hsz,by simpa using hle,htop⟩⟩⟩
  · refine (List.perm_middle (l₁:=d)).trans (List.Perm.cons _ ?_)
    rw [List.append_assoc]
    have:=(List.perm_append_comm (l₁:=d) (l₂:=c1)).append_right c2
    simpa [List.append_assoc] using this
  · refine ⟨cs,E,(0,0),by simp [padd],?_⟩
    have:=flatten_at ess i.toNat j es u hall.each hes hu
    rw [← htake,List.getElem?_take] at this
    split at this
    · simpa [padd] using this
    · cases this
  · refine (List.perm_middle (l₁:=d')).trans (List.Perm.cons _ ?_)
    rw [List.append_assoc]
    have:=(List.perm_append_comm (l₁:=d') (l₂:=c1)).append_right c2
    simpa [List.append_assoc] using this
  · have e:ess.set i.toNat es=ess:=by
      apply List.ext_getElem?
      intro j
      rw [List.getElem?_set]
      split
      · rename_i q;subst q;rw [hes];simp [(List.getElem?_eq_some_iff.1 hes).1]
      · rfl
    rw [List.length_set,e];exact htake
section steps
variable {P:Program} {ops:List Oper} {Q:Exit→Act→World→Prop} {o:Oper} {rest:List Oper} {a:Act} {w w':World} {σ:List (Nat×Value)} {n d:Nat}
end steps
end Go.Z
