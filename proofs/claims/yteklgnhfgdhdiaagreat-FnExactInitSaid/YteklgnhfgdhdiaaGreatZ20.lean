/- Lemmas for walks: frames known by slots, heaps known by chunks. No conditions of its own. -/
import Derived.Test.YteklgnhfgdhdiaaGreatZ19
import Derived.Laws.CopyRow
import Derived.Lib.Overlaps
import Derived.Lib.AppendZerosOnto
namespace Go.Z
set_option linter.unusedVariables false
set_option linter.unusedSimpArgs false
open Go Go.RowKit
section
variable {α:Type} {L:Lay α}
theorem AllOwn.flat (hf:L.Flat) {xs:List α} {ess:List (List Value)} {c:Chunk} (h:AllOwn L xs ess c):AllOwn L xs ess []:=by
  induction h with
  | nil=>exact .nil
  | cons h1 _ ih=>exact AllOwn.cons0 (hf _ _ _ (L.ov _ _ _ h1)) ih
end
section
variable {P:Program} {w:World}
theorem run_copyN {dT sT ty elem:TypeId} {g o dLen dCap:Nat} {a:Addr} {sLen sCap sz:Nat} {cur:Array Value} {t:TypeId} {cs:List Value}
    (hu:P.underlying dT=some (.slice elem)) (hs:szB P elem=some sz)
    (hg:w.heap[g]? = some (.cells cur t (0,0))) (hn:cs.length=Nat.min sLen dLen*sz)
    (hsrc:∀ j v,cs[j]? = some v→w.cell? (a.add j)=some v) (hfit:o+cs.length≤cur.size) (h1:∀ v∈cs,v.oneCell'=true) :
    (Builtin.copy_ #[dT,sT] ty #[.slice (some ⟨g,o,none⟩) dLen dCap,.slice (some a) sLen sCap]).run P w =
      .ok (goInt (Nat.min sLen dLen)) (w.setRow g (cur.toList.take o++cs++cur.toList.drop (o+cs.length)).toArray):=by
  have hl:=run_loadCells_list (P:=P) w a cs hsrc
  have hst:=run_storeCells_at P g o t cs 0 cur w hg (by simpa using hfit) h1
  have hz:=run_sizeOf (w:=w) hs
  rw [hn] at hl
  simp only [Nat.add_zero] at hst
  simp [Builtin.copy_,run_underlying hu,Builtin.lenOf,Builtin.firstCells,hz,hl,hst]
end
section
variable {α:Type} {L:Lay α}
end
section steps
variable {P:Program} {ops:List Oper} {Q:Exit→Act→World→Prop} {o:Oper} {rest:List Oper} {a:Act} {w:World} {σ:List (Nat×Value)} {n d:Nat} {v:Value} {M:List Nat} {w0:World} {Δ Γ:List (Nat×Chunk)}
/-- COPY INTO A ROW OF THE CALL'S OWN. -/
theorem scp (k:Nat) {t t2 E:TypeId} {x y:Operand} {b off dl dc sl sc sz:Nat} {ad:Addr} {cs:Array Value} {T:TypeId} (cs':Array Value) (news:List Value) (hs:Sat M w0 w Δ Γ) (hg:kget Γ k=some [(b,.cells cs T (0,0))])
    (hsrc:∀ j u,news[j]? = some u→w.cell? (ad.add j)=some u) (h1:∀ u∈news,u.oneCell'=true) (hn:news.length=Nat.min sl dl*sz) (hfit:off+news.length≤cs.size)
    (ho:o.op = .call ⟨.builtin .copy,#[x,y],#[t,t2]⟩) (hk:Kn σ n a) (hd:o.dst=some d) (hx:rho? σ x=some (.slice (some ⟨b,off,none⟩) dl dc)) (hy:rho? σ y=some (.slice (some ad) sl sc)) (hc:chk ops n σ o d=true)
    (ht:P.underlying t=some (.slice E)) (hsz:szB P E=some sz) (hcs:cs'=(cs.toList.take off++news++cs.toList.drop (off+news.length)).toArray)
    (next:∀ w' a,Kn ((d,goInt (Nat.min sl dl)) :: σ) n a→Sat M w0 w' Δ (kset Γ k [(b,.cells cs' T (0,0))])→wpList P ops.toArray Q rest a w'):wpList P ops.toArray Q (o :: rest) a w:=by
  subst hcs
  refine sv (goInt (Nat.min sl dl)) (w':=w.setRow b (cs.toList.take off++news++cs.toList.drop (off+news.length)).toArray) hk hd hc ?_ fun a hk=>next _ a hk (hs.write1 _ hg)
  have:=run_copyN (P:=P) (sT:=t2) (ty:=o.type) ht hsz (box_row hs hg) hn hsrc hfit h1 (dLen:=dl) (dCap:=dc) (sLen:=sl) (sCap:=sc)
  simp only [execOp,ho,resolve,invoke,builtin,List.map_toArray,List.map_cons,List.map_nil,rho?_eq hx,rho?_eq hy,Sem.run_bind,Sem.run_pure,Result.andThen_ok,this]
end steps
end Go.Z
