/- Lemmas for walks: frames known by slots, heaps known by chunks. No conditions of its own. -/
import Derived.Test.YteklgnhfgdhdiaaGreatZ8
import Derived.Still
namespace Go.Z
set_option linter.unusedVariables false
set_option linter.unusedSimpArgs false
open Go Go.RowKit

def F (w w':World):Prop:=Sat [] w w' [] []
theorem F.refl (w:World):F w w:=Sat.init w [] [] (by simp) (by simp) (by simp [blks]) (by simp [blks])
theorem F.trans {w w1 w2:World} (h:F w w1) (k:F w1 w2):F w w2:=Sat.call0 h k
theorem Sat.f {M:List Nat} {w0 w w':World} {Δ Γ:List (Nat×Chunk)} (h:Sat M w0 w Δ Γ) (k:F w w'):Sat M w0 w' Δ Γ:=Sat.call0 h k

section
variable {P:Program} {ops:Array Oper} {md:Region.Mode} {Q:Exit→Act→World→Prop} {C:World→Prop}

def sUpon (P:Program) (o:Oper) (a:Act) (K:Act→World→Prop):Result Next→Prop
  | .ok (.value v) w'=>K (a.put o.dst v) w'
  | .ok .skip w'=>K (a.put o.dst undef) w'
  | .ok (.enter f args) w'=>Calls P f args w' fun
      | .returned v,w''=>K (a.put o.dst v) w''
      | _,_=>False
  | .ok (.row row args) w'=>Rows P row args w' fun v w''=>K (a.put o.dst v) w''
  | _=>False
theorem sUpon.up {o:Oper} {a:Act} {K K':Act→World→Prop} {r:Result Next} (h:∀ a w,K a w→K' a w) (hh:sUpon P o a K r):o.upon P a K' Q r:=by
  cases r with
  | ok n w' =>
    cases n <;> simp only [sUpon] at hh <;> simp only [Oper.upon]
    case value=>exact h _ _ hh
    case skip=>exact h _ _ hh
    case enter=>exact hh.mono fun e w h'=>by cases e <;> simp only at h' ⊢ <;> first | exact h _ _ h' | exact h'.elim
    case row=>exact hh.mono fun _ _ h'=>h _ _ h'
  | halt x w'=>simp only [sUpon] at hh
theorem sUpon.mono {o:Oper} {a:Act} {K K':Act→World→Prop} {r:Result Next} (h:∀ a w,K a w→K' a w) (hh:sUpon P o a K r):sUpon P o a K' r:=by
  cases r with
  | ok n w' =>
    cases n <;> simp only [sUpon] at hh ⊢
    case value=>exact h _ _ hh
    case skip=>exact h _ _ hh
    case enter=>exact hh.mono fun e w h'=>by cases e <;> simp only at h' ⊢;exact h _ _ h'
    case row=>exact hh.mono fun _ _ h'=>h _ _ h'
  | halt x w'=>simp only [sUpon] at hh
def sOp (P:Program) (ops:Array Oper) (i:Nat) (K:Act→World→Prop) (a:Act) (w:World):Prop :=
  match ops[i]? with
  | none=>K a w
  | some o=>if Region.wanted o (yielded ops a.tmps) then sUpon P o a K ((execOp a.eval o).run P w) else K (a.put o.dst undef) w
theorem sOp.mono {i:Nat} {a:Act} {w:World} {K K':Act→World→Prop} (h:∀ a w,K a w→K' a w) (hh:sOp P ops i K a w):sOp P ops i K' a w:=by
  unfold sOp at *
  split
  · rename_i ho;simp only [ho] at hh;exact h _ _ hh
  · rename_i o ho
    simp only [ho] at hh
    split
    · rename_i hw;simp only [hw,if_true] at hh;exact hh.mono h
    · rename_i hw;simp only [hw] at hh;exact h _ _ hh

def WF (P:Program) (md:Region.Mode) (ops:Array Oper) (C:World→Prop) (Q:Exit→Act→World→Prop):Nat→Array Bool→Act→World→Prop
  | 0,l,a,w=>∀ w',F w w'→C w'∧Region.ready md ops l=[]∧Q .normal a w'
  | n+1,l,a,w=>∀ w',F w w'→C w'∧(Region.ready md ops l=[]→Q .normal a w')∧∀ i∈Region.ready md ops l,sOp P ops i (WF P md ops C Q n (l.setIfInBounds i true)) a w'
theorem WF.f {n:Nat} {l:Array Bool} {a:Act} {w w':World} (h:WF P md ops C Q n l a w) (k:F w w'):WF P md ops C Q n l a w':=by
  cases n with
  | zero=>exact fun w2 h2=>h w2 (k.trans h2)
  | succ n=>exact fun w2 h2=>h w2 (k.trans h2)
theorem WF.any:∀ {n:Nat} {l:Array Bool} {a:Act} {w:World},WF P md ops C Q n l a w→wpAny P md ops Q n l a w
  | 0,l,a,w,h=>(h w (F.refl w)).2
  | n + 1,l,a,w,h=>⟨(h w (F.refl w)).2.1,fun i hi=>by
    have:=(h w (F.refl w)).2.2 i hi
    unfold sOp at this
    unfold wpOp
    split
    · rename_i ho;simp only [ho] at this;exact WF.any this
    · rename_i o ho
      simp only [ho] at this
      split
      · rename_i hw;simp only [hw,if_true] at this;exact .inl (this.up (fun _ _=>WF.any))
      · rename_i hw;simp only [hw] at this;exact WF.any this⟩

def qUpon (P:Program) (w:World) (v:Value):Result Next→Prop
  | .ok (.value u) w'=>F w w'∧u=v
  | .ok .skip w'=>F w w'∧v=undef
  | .ok (.enter f args) w'=>Calls P f args w' fun e w''=>e = .returned v∧F w w''
  | .ok (.row row args) w'=>Rows P row args w' fun u w''=>u=v∧F w w''
  | _=>False
def QY (P:Program) (ops:Array Oper) (C:World→Prop) (o:Oper) (v:Value) (a:Act):Prop :=
  (Region.wanted o (yielded ops a.tmps)=true∧∀ w,C w→qUpon P w v ((execOp a.eval o).run P w))∨(Region.wanted o (yielded ops a.tmps)=false∧v=undef)
theorem QY.of_same {o:Oper} {v:Value} {a a':Act} (hy:QY P ops C o v a) (he:execOp a'.eval o=execOp a.eval o)
    (hw:Region.wanted o (yielded ops a'.tmps)=Region.wanted o (yielded ops a.tmps)):QY P ops C o v a':=by
  unfold QY at *
  rw [he,hw];exact hy
theorem QY.op {i:Nat} {o:Oper} {v:Value} {a:Act} {w:World} (hi:ops[i]? = some o) (hy:QY P ops C o v a) (hC:C w) {K:Act→World→Prop} (h:∀ w',F w w'→K (a.put o.dst v) w'):sOp P ops i K a w:=by
  unfold sOp
  simp only [hi]
  rcases hy with ⟨hw,hv⟩ | ⟨hw,rfl⟩
  · simp only [hw,if_true]
    have:=hv w hC
    generalize (execOp a.eval o).run P w=r at *
    cases r with
    | ok n w' =>
      cases n <;> simp only [qUpon] at this <;> simp only [sUpon]
      case value=>obtain ⟨h1,rfl⟩:=this;exact h _ h1
      case skip=>obtain ⟨h1,rfl⟩:=this;exact h _ h1
      case enter=>exact this.mono fun e w2 h'=>by obtain ⟨rfl,h2⟩:=h';exact h _ h2
      case row=>exact this.mono fun e w2 h'=>by obtain ⟨rfl,h2⟩:=h';exact h _ h2
    | halt x w'=>simp only [qUpon] at this
  · simp only [hw,Bool.false_eq_true,if_false];exact h w (F.refl w)
theorem sOp_put {j:Nat} {oi oj:Oper} {v:Value} (hj:ops[j]? = some oj) (hap:oi.apart ops oj=true)
    (hsi:∀ cs b,oi.op ≠ .select cs b) (hsj:∀ cs b,oj.op ≠ .select cs b) {K:Act→World→Prop} {a:Act} {w:World}
    (hy:QY P ops C oi v a) (h:sOp P ops j K (a.put oi.dst v) w) :
    sOp P ops j (fun a' w'=>QY P ops C oi v a'∧K (a'.put oi.dst v) w') a w:=by
  obtain ⟨h1,h2,h3⟩:=Oper.apart_spec hap
  have keep:∀ u,QY P ops C oi v (a.put oj.dst u):=fun u=>hy.of_same (execOp_put oi hsi a oj.dst u h3) (wanted_put oi a oj.dst u h3)
  unfold sOp at *
  simp only [hj] at *
  rw [wanted_put oj a oi.dst v h1] at h
  split
  · rename_i hw
    simp only [hw,if_true] at h
    rw [execOp_put oj hsj a oi.dst v h1] at h
    generalize (execOp a.eval oj).run P w=r at *
    cases r with
    | ok n w' =>
      cases n <;> simp only [sUpon] at h ⊢
      case value=>exact ⟨keep _,by rw [← Act.put_comm a v _ h2];exact h⟩
      case skip=>exact ⟨keep _,by rw [← Act.put_comm a v _ h2];exact h⟩
      case enter =>
        refine h.mono fun e w2 h'=>?_
        cases e <;> simp only at h' ⊢
        exact ⟨keep _,by rw [← Act.put_comm a v _ h2];exact h'⟩
      case row =>
        refine h.mono fun u w2 h'=>?_
        exact ⟨keep _,by rw [← Act.put_comm a v _ h2];exact h'⟩
    | halt x w'=>simp only [sUpon] at h
  · rename_i hw
    simp only [hw] at h
    exact ⟨keep _,by rw [← Act.put_comm a v undef h2];exact h⟩

end

section
variable {P:Program} {ops:List Oper} {Q:Exit→Act→World→Prop} {M:List Nat} {w0:World} {Δ Γc:List (Nat×Chunk)}
variable {C:World→Prop} {o:Oper} {p:List (Nat×Bool)} {a:Act} {w w':World} {σ:List (Nat×Value)} {n d i:Nat} {v:Value}
/-- What one operation's walk must end with. -/
def QE (w:World) (τ:List (Nat×Value)) (n:Nat):Exit→Act→World→Prop
  | .normal,a',w'=>F w w'∧Kn τ n a'
  | _,_,_=>False
theorem QE.lets {τ:List (Nat×Value)}:¬ LetsOut (QE w τ n):=fun ⟨_,_,h⟩=>h
theorem put_inj {d:Nat} {u v:Value} (h:(Kn ((d,v) :: σ) n (a.put (some d) u))) (hd:d<n) (ha:a.tmps.size=n):u=v:=by
  have:=h.slot d v (by simp [look])
  simp only [Act.put] at this
  rw [Array.getD_eq_getD_getElem?,Array.getElem?_setIfInBounds_self_of_lt (by omega)] at this
  exact this
/-- ONE THAT NOTHING ELSE MAY COME BEFORE. -/
def SE (C:World→Prop) (K:Act→World→Prop):Exit→Act→World→Prop
  | .normal,a',w'=>C w'∧a'.defers=[]∧K a' w'
  | _,_,_=>False
theorem SE.lets {K:Act→World→Prop}:¬ LetsOut (SE C K):=fun ⟨_,_,h⟩=>h
theorem qe (hk:Kn σ n a):wpList P ops.toArray (QE w σ n) [] a w:=⟨F.refl w,hk⟩
theorem qc {u:Value} (hR:u=v∧Sat [] w w' [] []) (hk:Kn ((d,u) :: σ) n a):wpList P ops.toArray (QE w ((d,v) :: σ) n) [] a w':=by
  obtain ⟨rfl,h⟩:=hR
  exact ⟨h,hk⟩
theorem se {K:Act→World→Prop} (hC:C w) (hk:Kn σ n a) (h:K a w):wpList P ops.toArray (SE C K) [] a w:=⟨hC,hk.defers,h⟩
end
section
variable {M:List Nat} {w0 w:World} {Δ Γ:List (Nat×Chunk)}
theorem Sat.addNil (h:Sat M w0 w Δ Γ) (k:Nat):Sat M w0 w Δ ((k,[]) :: Γ) :=
  ⟨h.os,h.tape,h.output,h.size,h.keep,fun x hx=>by rcases List.mem_cons.1 hx with rfl | hx;exact Has.nil w;exact h.has x hx,h.ro,by simpa [blks,cblk] using h.nodup,
    by simpa [blks,cblk] using h.mine,by simpa [blks,cblk] using h.apart⟩
end
end Go.Z
