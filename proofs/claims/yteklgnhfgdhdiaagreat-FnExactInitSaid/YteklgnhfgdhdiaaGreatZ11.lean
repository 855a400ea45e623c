/- Lemmas for walks: frames known by slots, heaps known by chunks. No conditions of its own. -/
import Derived.Test.YteklgnhfgdhdiaaGreatZ10
namespace Go.Z
set_option linter.unusedVariables false
set_option linter.unusedSimpArgs false
open Go Go.RowKit
theorem kget_cons (k:Nat) (c:Chunk) (Γ:List (Nat×Chunk)):kget ((k,c) :: Γ) k=some c:=by simp [kget]
theorem kget_kset {Γ:List (Nat×Chunk)} {k:Nat} {c d:Chunk} (h:kget Γ k=some c):kget (kset Γ k d) k=some d:=by
  induction Γ with
  | nil=>simp [kget] at h
  | cons x r ih =>
    obtain ⟨s,e⟩:=x
    simp only [kget,kset] at h ⊢
    split
    · rename_i q;simp [kget,q]
    · rename_i q;rw [if_neg q] at h;simp only [kget,if_neg q];exact ih h
theorem kdel_kset {k:Nat} {d:Chunk}:∀ (Γ:List (Nat×Chunk)),kdel (kset Γ k d) k=kdel Γ k
  | []=>rfl
  | (s,e) :: r=>by
    simp only [kset,kdel]
    split
    · rename_i q;simp [kdel,q]
    · rename_i q;simp only [kdel,if_neg q,kdel_kset r]
theorem Own.toV {α:Type} {L:Lay α} {E:TypeId} {A:Option Addr} {cap:Nat} {xs:List α} {c:Chunk} (h:Own L E A cap xs c):OwnV L E (.slice A xs.length cap) xs c:=by
  rcases h with ⟨rfl,rfl,rfl,rfl⟩ | ⟨b,rfl,h⟩
  · exact .inl ⟨rfl,rfl,rfl⟩
  · exact .inr ⟨b,cap,rfl,h⟩
section
variable {M:List Nat} {w0 w:World} {Δ Γ:List (Nat×Chunk)}
/-- A part of a chunk is let go. -/
theorem Sat.less (h:Sat M w0 w Δ Γ) {k:Nat} {e:Chunk} (c d:Chunk) (hk:kget Γ k=some e) (hp:(c++d).Perm e):Sat M w0 w Δ ((k,c) :: kdel Γ k):=by
  have h1:=h.split k (k+1) hk hp
  have h2:=h1.drop (k+1)
  have e:kdel ((k,c) :: (k+1,d) :: kdel Γ k) (k+1)=(k,c) :: kdel Γ k:=by
    simp [kdel]
  rwa [e] at h2
end
section steps
variable {P:Program} {ops:List Oper} {Q:Exit→Act→World→Prop} {o:Oper} {rest:List Oper} {a:Act} {w w':World} {σ:List (Nat×Value)} {n d:Nat} {v:Value} {M:List Nat} {w0:World} {Δ Γ:List (Nat×Chunk)}
/-- A FUNCTION WITH CAPTURED VARIABLES. -/
theorem smf {fn:Fn} {capt:Array Operand} {cs:List Value} (ho:o.op = .makeFunc fn #[] capt) (hk:Kn σ n a) (hd:o.dst=some d) (hcs:capt.toList.map (rho σ)=cs) (hc:chk ops n σ o d=true)
    (next:∀ a,Kn ((d,.func fn #[] cs.toArray) :: σ) n a→wpList P ops.toArray Q rest a w):wpList P ops.toArray Q (o :: rest) a w:=by
  have h2:Array.map (rho σ) capt=cs.toArray:=by rw [← hcs];apply Array.ext';simp
  exact sv _ hk hd hc (by simp [execOp,ho,Instr.makeFunc,h2]) next
end steps
end Go.Z
