/- Lemmas for walks: frames known by slots, heaps known by chunks. No conditions of its own. -/
import Derived.Test.YteklgnhfgdhdiaaGreatZ21
namespace Go.Z
set_option linter.unusedVariables false
set_option linter.unusedSimpArgs false
open Go Go.RowKit
section
variable {P:Program} {w:World}
theorem run_indexAr {t e:TypeId} {A:Option Addr} {b off m:Nat} {k:IntKind} {i:Int} {sz:Nat} (ht:P.underlying t=some (.array m e)) (hs:szB P e=some sz) (hA:A=some ⟨b,off,none⟩) (h0:0≤i) (h1:i<m) :
    (Instr.indexAt t (.pointer A) (.int k i)).run P w = .ok (.pointer (some (padd A (i.toNat*sz)))) w:=by
  subst hA
  have hadd:(⟨b,off,none⟩:Addr).add (i.toNat*sz)=padd (some ⟨b,off,none⟩) (i.toNat*sz):=by
    have:=padd_add (some ⟨b,off,none⟩) 0 (i.toNat*sz)
    simpa [padd] using this
  simp [Instr.indexAt,asIntOf,run_underlying ht,h0,h1,run_sizeOf hs,hadd,Instr.sureAddr]
end
section steps
variable {P:Program} {ops:List Oper} {Q:Exit→Act→World→Prop} {o:Oper} {rest:List Oper} {a:Act} {w w':World} {σ:List (Nat×Value)} {n d:Nat} {M:List Nat} {w0:World} {Δ Γ:List (Nat×Chunk)}
/-- A PLACE IN AN ARRAY. -/
theorem sia {t e:TypeId} {x y:Operand} {A:Option Addr} {b off m:Nat} {k:IntKind} {i:Int} {sz:Nat} (ho:o.op = .indexAddr t x y) (hk:Kn σ n a) (hd:o.dst=some d) (hx:rho? σ x=some (.pointer A)) (hy:rho? σ y=some (.int k i))
    (hc:chk ops n σ o d=true) (ht:P.underlying t=some (.array m e)) (hs:szB P e=some sz) (h0:0≤i) (h1:i<m) (hA:A=some ⟨b,off,none⟩)
    (next:∀ a,Kn ((d,.pointer (some (padd A (i.toNat*sz)))) :: σ) n a→wpList P ops.toArray Q rest a w):wpList P ops.toArray Q (o :: rest) a w :=
  sv _ hk hd hc (by simp only [execOp,ho,rho?_eq hx,rho?_eq hy,Sem.run_bind,Sem.run_pure,Result.andThen_ok,run_indexAr ht hs hA h0 h1]) next
/-- A NEW ARRAY: a row of the call's own. -/
theorem sala (k:Nat) {α:Type} (L:Lay α) {t:TypeId} {m:Nat} {z:α} {zc:List Value} {zv:Value} (hs:Sat M w0 w Δ Γ) (ho:o.op = .alloc t) (hk:Kn σ n a) (hd:o.dst=some d) (hc:chk ops n σ o d=true)
    (hz:zeroB P t=some zv) (hzo:L.own z zc []) (hcs:zv.cells=(List.replicate m zc).flatten.toArray) (hLs:L.size=zc.length) (hm:Nat.ble m 16777216=true)
    (next:∀ b c w' a,Kn ((d,.pointer (some ⟨b,0,none⟩)) :: σ) n a→Own L t (some ⟨b,0,none⟩) m (List.replicate m z) c→Sat M w0 w' Δ ((k,c) :: Γ)→wpList P ops.toArray Q rest a w'):wpList P ops.toArray Q (o :: rest) a w :=
  sal ho hk hd hc hz fun a hk=>next _ _ _ a hk (.inr ⟨_,rfl,zv.cells,List.replicate m zc,[],rfl,AllOwn.rep hzo m,(by
    rw [hcs,List.length_replicate,hLs]
    apply List.take_of_length_le
    simp),(by rw [hcs,hLs];simp),(by simp),(by have:=Nat.le_of_ble_eq_true hm;simp only [maxLen];omega)⟩) (hs.alloc k _)
end steps
end Go.Z
