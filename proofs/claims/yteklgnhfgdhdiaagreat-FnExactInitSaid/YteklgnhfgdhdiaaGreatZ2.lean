/- Lemmas for walks: frames known by slots, heaps known by chunks. No conditions of its own. -/
import Derived.Test.YteklgnhfgdhdiaaGreatZ1
namespace Go.Z
set_option linter.unusedVariables false
set_option linter.unusedSimpArgs false
open Go Go.RowKit
abbrev Chunk:=List (Nat×Obj)
def cblk (c:Chunk):List Nat:=c.map Prod.fst
def Has (w:World) (c:Chunk):Prop:=∀ x∈c,w.heap[x.1]? = some x.2
def blks:List (Nat×Chunk)→List Nat
  | []=>[]
  | (_,c) :: r=>cblk c++blks r
def kget:List (Nat×Chunk)→Nat→Option Chunk
  | [],_=>none
  | (s,c) :: r,k=>if Nat.beq s k then some c else kget r k
def kset:List (Nat×Chunk)→Nat→Chunk→List (Nat×Chunk)
  | [],_,_=>[]
  | (s,c) :: r,k,d=>if Nat.beq s k then (s,d) :: r else (s,c) :: kset r k d
def kdel:List (Nat×Chunk)→Nat→List (Nat×Chunk)
  | [],_=>[]
  | (s,c) :: r,k=>if Nat.beq s k then r else (s,c) :: kdel r k

/-- What is known of the heap: since the world w0 nothing old has turned but the blocks M; the chunks Γ are the call's own (apart from each other), those of Δ are read. -/
structure Sat (M:List Nat) (w0 w:World) (Δ Γ:List (Nat×Chunk)):Prop where
  os:w.os=w0.os
  tape:w.tape=w0.tape
  output:w.output=w0.output
  size:w0.heap.size≤w.heap.size
  keep:∀ k,k<w0.heap.size→k ∉ M→w.heap[k]? = w0.heap[k]?
  has:∀ x∈Γ,Has w x.2
  ro:∀ x∈Δ,Has w x.2
  nodup:(blks Γ).Nodup
  mine:∀ b∈blks Γ,w0.heap.size≤b∨b∈M
  apart:∀ b∈blks Δ,b ∉ blks Γ

theorem kget_mem {Γ:List (Nat×Chunk)} {k:Nat} {c:Chunk} (h:kget Γ k=some c):∃ s,(s,c)∈Γ:=by
  induction Γ with
  | nil=>simp [kget] at h
  | cons x r ih =>
    obtain ⟨s,d⟩:=x
    simp only [kget] at h
    split at h
    · cases h;exact ⟨s,by simp⟩
    · obtain ⟨s',h'⟩:=ih h;exact ⟨s',by simp [h']⟩
theorem kget_perm {Γ:List (Nat×Chunk)} {k:Nat} {c:Chunk} (h:kget Γ k=some c):(blks Γ).Perm (cblk c++blks (kdel Γ k)):=by
  induction Γ with
  | nil=>simp [kget] at h
  | cons x r ih =>
    obtain ⟨s,d⟩:=x
    simp only [kget,kdel] at h ⊢
    split at h
    · rename_i e;cases h;rw [if_pos e];exact List.Perm.refl _
    · rename_i e;rw [if_neg e]
      simp only [blks]
      have:=ih h
      calc cblk d++blks r |>.Perm (cblk d++(cblk c++blks (kdel r k))):=List.Perm.append_left _ this
        _ |>.Perm (cblk c++(cblk d++blks (kdel r k))):=by
          rw [← List.append_assoc,← List.append_assoc]
          exact List.Perm.append_right _ List.perm_append_comm
theorem kset_perm {Γ:List (Nat×Chunk)} {k:Nat} {c d:Chunk} (h:kget Γ k=some c):(blks (kset Γ k d)).Perm (cblk d++blks (kdel Γ k)):=by
  induction Γ with
  | nil=>simp [kget] at h
  | cons x r ih =>
    obtain ⟨s,e⟩:=x
    simp only [kget,kdel,kset] at h ⊢
    split at h
    · rename_i e;rw [if_pos e,if_pos e];exact List.Perm.refl _
    · rename_i ne;rw [if_neg ne,if_neg ne]
      simp only [blks]
      have:=ih h
      calc cblk e++blks (kset r k d) |>.Perm (cblk e++(cblk d++blks (kdel r k))):=List.Perm.append_left _ this
        _ |>.Perm (cblk d++(cblk e++blks (kdel r k))):=by
          rw [← List.append_assoc,← List.append_assoc]
          exact List.Perm.append_right _ List.perm_append_comm
theorem kdel_mem {Γ:List (Nat×Chunk)} {k:Nat} {x:Nat×Chunk} (h:x∈kdel Γ k):x∈Γ:=by
  induction Γ with
  | nil=>simp [kdel] at h
  | cons y r ih =>
    obtain ⟨s,d⟩:=y
    simp only [kdel] at h
    split at h
    · simp [h]
    · rcases List.mem_cons.1 h with h | h
      · simp [h]
      · simp [ih h]
theorem kset_mem {Γ:List (Nat×Chunk)} {k:Nat} {d:Chunk} {x:Nat×Chunk} (h:x∈kset Γ k d):x.2=d∨x∈kdel Γ k:=by
  induction Γ with
  | nil=>simp [kset] at h
  | cons y r ih =>
    obtain ⟨s,e⟩:=y
    simp only [kset,kdel] at h ⊢
    split at h
    · rename_i c;rw [if_pos c]
      rcases List.mem_cons.1 h with h | h
      · left;rw [h]
      · right;exact h
    · rename_i c;rw [if_neg c]
      rcases List.mem_cons.1 h with h | h
      · right;simp [h]
      · rcases ih h with h | h
        · exact .inl h
        · right;simp [h]
theorem blks_mem {Γ:List (Nat×Chunk)} {b:Nat}:b∈blks Γ ↔ ∃ x∈Γ,∃ o,(b,o)∈x.2:=by
  induction Γ with
  | nil=>simp [blks]
  | cons y r ih =>
    obtain ⟨s,e⟩:=y
    simp only [blks,List.mem_append,ih,List.mem_cons,exists_eq_or_imp,cblk,List.mem_map]
    constructor
    · rintro (⟨⟨a,b⟩,h,rfl⟩ | h)
      · exact .inl ⟨b,h⟩
      · exact .inr h
    · rintro (⟨o,h⟩ | h)
      · exact .inl ⟨(b,o),h,rfl⟩
      · exact .inr h

section
variable {M:List Nat} {w0 w:World} {Δ Γ:List (Nat×Chunk)}
theorem Sat.init (w:World) (Δ Γ:List (Nat×Chunk)) (hd:∀ x∈Δ,Has w x.2) (hg:∀ x∈Γ,Has w x.2) (hn:(blks Γ).Nodup) (ha:∀ b∈blks Δ,b ∉ blks Γ):Sat (blks Γ) w w Δ Γ :=
  ⟨rfl,rfl,rfl,Nat.le_refl _,fun _ _ _=>rfl,hg,hd,hn,fun _ hb=>.inr hb,ha⟩
theorem Sat.hasG (h:Sat M w0 w Δ Γ) {k:Nat} {c:Chunk} (hk:kget Γ k=some c):Has w c:=by
  obtain ⟨s,hs⟩:=kget_mem hk;exact h.has _ hs
theorem Sat.hasD (h:Sat M w0 w Δ Γ) {k:Nat} {c:Chunk} (hk:kget Δ k=some c):Has w c:=by
  obtain ⟨s,hs⟩:=kget_mem hk;exact h.ro _ hs
theorem Sat.lt (h:Sat M w0 w Δ Γ):∀ b,(b∈blks Γ∨b∈blks Δ)→b<w.heap.size:=by
  intro b hb
  have:∃ o,w.heap[b]? = some o:=by
    rcases hb with hb | hb
    · obtain ⟨x,hx,o,ho⟩:=blks_mem.1 hb;exact ⟨o,h.has x hx _ ho⟩
    · obtain ⟨x,hx,o,ho⟩:=blks_mem.1 hb;exact ⟨o,h.ro x hx _ ho⟩
  obtain ⟨o,ho⟩:=this
  exact (Array.getElem?_eq_some_iff.1 ho).1
/-- The world moves on by a step that leaves all old blocks: a draw, a new block. -/
theorem Sat.step (h:Sat M w0 w Δ Γ) {w':World} (ho:w'.os=w.os) (ht:w'.tape=w.tape) (hp:w'.output=w.output) (hs:w.heap.size≤w'.heap.size)
    (hb:∀ k,k<w.heap.size→w'.heap[k]? = w.heap[k]?):Sat M w0 w' Δ Γ:=by
  have key:∀ c:Chunk,Has w c→Has w' c:=fun c hc x hx=>by
    have:=hc x hx
    rw [hb x.1 (Array.getElem?_eq_some_iff.1 this).1];exact this
  exact ⟨ho.trans h.os,ht.trans h.tape,hp.trans h.output,Nat.le_trans h.size hs,fun k hk hm=>(hb k (Nat.lt_of_lt_of_le hk h.size)).trans (h.keep k hk hm),
    fun x hx=>key _ (h.has x hx),fun x hx=>key _ (h.ro x hx),h.nodup,h.mine,h.apart⟩
theorem Sat.drew (h:Sat M w0 w Δ Γ):Sat M w0 w.drew Δ Γ:=h.step rfl rfl rfl (Nat.le_refl _) (fun _ _=>rfl)
theorem Sat.alloc (h:Sat M w0 w Δ Γ) (k:Nat) (o:Obj):Sat M w0 (w.alloc o) Δ ((k,[(w.heap.size,o)]) :: Γ):=by
  have hs:=h.step (w':=w.alloc o) rfl rfl rfl (by simp) (fun k hk=>by rw [_root_.Go.heap_alloc_old w o hk])
  refine ⟨hs.os,hs.tape,hs.output,hs.size,hs.keep,?_,hs.ro,?_,?_,?_⟩
  · intro x hx
    rcases List.mem_cons.1 hx with rfl | hx
    · intro y hy
      simp only [List.mem_singleton] at hy
      subst hy
      exact heap_alloc_new w o
    · exact hs.has x hx
  · simp only [blks,cblk,List.map_cons,List.map_nil,List.singleton_append,List.nodup_cons]
    exact ⟨fun hb=>Nat.lt_irrefl _ (h.lt _ (.inl hb)),h.nodup⟩
  · intro b hb
    simp only [blks,cblk,List.map_cons,List.map_nil,List.singleton_append,List.mem_cons] at hb
    rcases hb with rfl | hb
    · exact .inl h.size
    · exact h.mine b hb
  · intro b hb hb'
    simp only [blks,cblk,List.map_cons,List.map_nil,List.singleton_append,List.mem_cons] at hb'
    rcases hb' with rfl | hb'
    · exact Nat.lt_irrefl _ (h.lt _ (.inr hb))
    · exact h.apart b hb hb'
/-- A write into one of the call's own blocks. -/
theorem Sat.write (h:Sat M w0 w Δ Γ) {k b:Nat} {c d:Chunk} {cs cs':Array Value} {t:TypeId} {fr:Nat×Nat} (hk:kget Γ k=some c) (hb:(b,.cells cs t fr)∈c)
    (hd:cblk d=cblk c) (hdc:∀ x∈d,x=(b,.cells cs' t fr)∨(x∈c∧x.1≠b)):Sat M w0 (w.setRow b cs') Δ (kset Γ k d):=by
  have hbw:w.heap[b]? = some (.cells cs t fr):=h.hasG hk _ hb
  have hp:=kget_perm hk
  have hp':=kset_perm (d:=d) hk
  rw [hd] at hp'
  have hpp:(blks (kset Γ k d)).Perm (blks Γ):=hp'.trans hp.symm
  have hmem:b∈cblk c:=List.mem_map.2 ⟨_,hb,rfl⟩
  have hnd:=(hp.nodup_iff.1 h.nodup)
  have hother:∀ x∈kdel Γ k,∀ y∈x.2,y.1≠b:=by
    intro x hx y hy e
    have h1:y.1∈blks (kdel Γ k):=blks_mem.2 ⟨x,hx,y.2,hy⟩
    have:=(List.nodup_append.1 hnd).2.2
    exact this b hmem y.1 h1 e.symm
  refine ⟨h.os,h.tape,h.output,by simpa using h.size,?_,?_,?_,hpp.symm.nodup_iff.1 h.nodup,?_,?_⟩
  · intro j hj hm
    rw [setRow_other w b j cs' (fun e=>?_)]
    · exact h.keep j hj hm
    · subst e
      rcases h.mine j (hp.symm.subset (List.mem_append_left _ hmem)) with h1 | h1
      · omega
      · exact hm h1
  · intro x hx y hy
    rcases kset_mem hx with e | hx
    · rw [e] at hy
      rcases hdc y hy with rfl | ⟨h1,h2⟩
      · exact setRow_heap w b cs cs' t fr hbw
      · rw [setRow_other w b y.1 cs' h2];exact h.hasG hk y h1
    · rw [setRow_other w b y.1 cs' (hother x hx y hy)]
      exact h.has x (kdel_mem hx) y hy
  · intro x hx y hy
    rw [setRow_other w b y.1 cs' (fun e=>?_)]
    · exact h.ro x hx y hy
    · exact h.apart y.1 (blks_mem.2 ⟨x,hx,y.2,hy⟩) (e ▸ hp.symm.subset (List.mem_append_left _ hmem))
  · intro j hj
    exact h.mine j (hpp.subset hj)
  · intro j hj hj'
    exact h.apart j hj (hpp.subset hj')
theorem Sat.write1 (h:Sat M w0 w Δ Γ) {k b:Nat} {cs:Array Value} (cs':Array Value) {t:TypeId} {fr:Nat×Nat} (hk:kget Γ k=some [(b,.cells cs t fr)]) :
    Sat M w0 (w.setRow b cs') Δ (kset Γ k [(b,.cells cs' t fr)]) :=
  h.write hk (List.mem_singleton.2 rfl) rfl (fun x hx=>.inl (List.mem_singleton.1 hx))
theorem Sat.drop (h:Sat M w0 w Δ Γ) (k:Nat):Sat M w0 w Δ (kdel Γ k):=by
  have hsub:∀ b,b∈blks (kdel Γ k)→b∈blks Γ:=fun b hb=>by
    obtain ⟨x,hx,o,ho⟩:=blks_mem.1 hb
    exact blks_mem.2 ⟨x,kdel_mem hx,o,ho⟩
  refine ⟨h.os,h.tape,h.output,h.size,h.keep,fun x hx=>h.has x (kdel_mem hx),h.ro,?_,fun b hb=>h.mine b (hsub b hb),fun b hb hb'=>h.apart b hb (hsub b hb')⟩
  have:∀ (Γ:List (Nat×Chunk)),(blks Γ).Nodup→(blks (kdel Γ k)).Nodup:=by
    intro Γ
    induction Γ with
    | nil=>simp [kdel]
    | cons x r ih =>
      obtain ⟨s,d⟩:=x
      intro hn
      simp only [kdel]
      split
      · exact (List.nodup_append.1 hn).2.1
      · simp only [blks] at hn ⊢
        rw [List.nodup_append] at hn ⊢
        refine ⟨hn.1,ih hn.2.1,fun a ha b hb=>hn.2.2 a ha b ?_⟩
        obtain ⟨x,hx,o,ho⟩:=blks_mem.1 hb
        exact blks_mem.2 ⟨x,kdel_mem hx,o,ho⟩
  exact this Γ h.nodup

theorem Sat.rekey (h:Sat M w0 w Δ Γ) {Δ' Γ':List (Nat×Chunk)} (hd:Δ'.map Prod.snd=Δ.map Prod.snd) (hg:Γ'.map Prod.snd=Γ.map Prod.snd):Sat M w0 w Δ' Γ':=by
  have key:∀ A B:List (Nat×Chunk),A.map Prod.snd=B.map Prod.snd→blks A=blks B:=by
    intro A
    induction A with
    | nil=>intro B h;cases B with | nil=>rfl | cons _ _=>simp at h
    | cons x r ih =>
      intro B h
      cases B with
      | nil=>simp at h
      | cons y q =>
        simp only [List.map_cons,List.cons.injEq] at h
        obtain ⟨s,c⟩:=x
        obtain ⟨t,d⟩:=y
        simp only [blks]
        rw [ih q h.2]
        simp only at h
        rw [h.1]
  have mem:∀ A B:List (Nat×Chunk),A.map Prod.snd=B.map Prod.snd→(∀ x∈B,Has w x.2)→∀ x∈A,Has w x.2:=by
    intro A B h hB x hx
    have:x.2∈B.map Prod.snd:=h ▸ List.mem_map.2 ⟨x,hx,rfl⟩
    obtain ⟨y,hy,e⟩:=List.mem_map.1 this
    exact e ▸ hB y hy
  exact ⟨h.os,h.tape,h.output,h.size,h.keep,mem _ _ hg h.has,mem _ _ hd h.ro,key _ _ hg ▸ h.nodup,key _ _ hg ▸ h.mine,key _ _ hg ▸ key _ _ hd ▸ h.apart⟩
theorem Sat.join (h:Sat M w0 w Δ Γ) {k j:Nat} (i:Nat) {c d:Chunk} (hk:kget Γ k=some c) (hj:kget (kdel Γ k) j=some d):Sat M w0 w Δ ((i,c++d) :: kdel (kdel Γ k) j):=by
  have h1:=kget_perm hk
  have h2:=kget_perm hj
  have hpp:(blks ((i,c++d) :: kdel (kdel Γ k) j)).Perm (blks Γ):=by
    simp only [blks,cblk,List.map_append,List.append_assoc]
    exact (List.Perm.append_left _ h2.symm).trans h1.symm
  refine ⟨h.os,h.tape,h.output,h.size,h.keep,?_,h.ro,hpp.symm.nodup_iff.1 h.nodup,fun b hb=>h.mine b (hpp.subset hb),fun b hb hb'=>h.apart b hb (hpp.subset hb')⟩
  intro x hx
  rcases List.mem_cons.1 hx with rfl | hx
  · intro y hy
    rcases List.mem_append.1 hy with hy | hy
    · exact h.hasG hk y hy
    · obtain ⟨s,hs⟩:=kget_mem hj;exact h.has _ (kdel_mem hs) y hy
  · exact h.has x (kdel_mem (kdel_mem hx))
theorem Sat.split (h:Sat M w0 w Δ Γ) {k:Nat} (i j:Nat) {e c d:Chunk} (hk:kget Γ k=some e) (hp:(c++d).Perm e):Sat M w0 w Δ ((i,c) :: (j,d) :: kdel Γ k):=by
  have h1:=kget_perm hk
  have hpp:(blks ((i,c) :: (j,d) :: kdel Γ k)).Perm (blks Γ):=by
    simp only [blks]
    rw [← List.append_assoc]
    refine (List.Perm.append_right _ ?_).trans h1.symm
    have:=hp.map Prod.fst
    simpa [cblk] using this
  refine ⟨h.os,h.tape,h.output,h.size,h.keep,?_,h.ro,hpp.symm.nodup_iff.1 h.nodup,fun b hb=>h.mine b (hpp.subset hb),fun b hb hb'=>h.apart b hb (hpp.subset hb')⟩
  intro x hx
  rcases List.mem_cons.1 hx with rfl | hx
  · exact fun y hy=>h.hasG hk y (hp.subset (List.mem_append_left _ hy))
  · rcases List.mem_cons.1 hx with rfl | hx
    · exact fun y hy=>h.hasG hk y (hp.subset (List.mem_append_right _ hy))
    · exact h.has x (kdel_mem hx)
/-- Behind a call that was handed no chunk to write: what it made is ours. -/
theorem Sat.call0 (h:Sat M w0 w Δ Γ) {w':World} {Δ' Γ':List (Nat×Chunk)} (h':Sat [] w w' Δ' Γ'):Sat M w0 w' Δ (Γ'++Γ):=by
  have hs:=h.step h'.os h'.tape h'.output h'.size (fun k hk=>h'.keep k hk (by simp))
  have hb:blks (Γ'++Γ)=blks Γ'++blks Γ:=by
    have:∀ A:List (Nat×Chunk),blks (A++Γ)=blks A++blks Γ:=by
      intro A;induction A with
      | nil=>rfl
      | cons x r ih=>obtain ⟨s,c⟩:=x;simp only [List.cons_append,blks,ih,List.append_assoc]
    exact this Γ'
  have hnew:∀ b∈blks Γ',w.heap.size≤b:=fun b hb=>by rcases h'.mine b hb with h1 | h1;exact h1;simp at h1
  refine ⟨hs.os,hs.tape,hs.output,hs.size,hs.keep,?_,hs.ro,?_,?_,?_⟩
  · intro x hx
    rcases List.mem_append.1 hx with hx | hx
    · exact h'.has x hx
    · exact hs.has x hx
  · rw [hb,List.nodup_append]
    refine ⟨h'.nodup,h.nodup,fun a ha b hb e=>?_⟩
    subst e
    have:=hnew a ha
    have:=h.lt a (.inl hb)
    omega
  · intro b hbb
    rw [hb] at hbb
    rcases List.mem_append.1 hbb with hbb | hbb
    · exact .inl (Nat.le_trans h.size (hnew b hbb))
    · exact h.mine b hbb
  · intro b hd hbb
    rw [hb] at hbb
    rcases List.mem_append.1 hbb with hbb | hbb
    · have:=hnew b hbb
      have:=h.lt b (.inr hd)
      omega
    · exact h.apart b hd hbb
end
end Go.Z
