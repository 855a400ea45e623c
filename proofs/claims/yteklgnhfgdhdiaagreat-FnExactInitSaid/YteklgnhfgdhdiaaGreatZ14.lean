/- Lemmas for walks: frames known by slots, heaps known by chunks. No conditions of its own. -/
import Derived.Test.YteklgnhfgdhdiaaGreatZ13
import Derived.Laws.IdiomStrings
import Derived.Laws.BytesArg
import Derived.Laws.Slices
namespace Go.Z
set_option linter.unusedVariables false
set_option linter.unusedSimpArgs false
open Go Go.RowKit
/-- The byte at a place of a text. -/
def byteAt (s:ByteArray) (i:Int):Int:=if h:i.toNat<s.size then ((s[i.toNat]'h).toNat:Int) else 0
theorem AllOwn.cons0 {α:Type} {L:Lay α} {x:α} {es:List Value} {xs:List α} {ess:List (List Value)} (h:L.own x es []) (k:AllOwn L xs ess []):AllOwn L (x :: xs) (es :: ess) []:=AllOwn.cons h k
/-- A part of a row, as read. -/
theorem View.part {α:Type} {L:Lay α} {A:Option Addr} {cap:Nat} {xs:List α} {c:Chunk} (h:View L A cap xs c) (l m:Nat) (hl:l≤m) (hm:m≤xs.length) :
    View L (if cap=l then A else A.map (·.add (l*L.size))) (cap-l) ((xs.drop l).take (m-l)) c:=by
  refine ⟨by simp only [List.length_take,List.length_drop];have:=h.le;omega,by have:=h.top;omega,fun i x hx=>?_⟩
  rw [List.getElem?_take] at hx
  split at hx
  · rename_i hi
    rw [List.getElem?_drop] at hx
    obtain ⟨⟨b,off,rfl⟩,es,h1,h2⟩:=h.row (l+i) x hx
    have hlen:=(List.getElem?_eq_some_iff.1 hx).1
    have hle:=h.le
    by_cases e:cap=l
    · omega
    · rw [if_neg e]
      have ha:(⟨b,off,none⟩:Addr).add (l*L.size)=⟨b,off+l*L.size,none⟩:=addr_add1 b off _
      refine ⟨⟨b,off+l*L.size,by simp [ha]⟩,es,h1,fun j u hu=>?_⟩
      have:=h2 j u hu
      simp only [Option.map_some,ha,padd,Option.getD_some,Nat.add_zero] at this ⊢
      have e2:off+l*L.size+(i*L.size+j)=off+((l+i)*L.size+j):=by rw [Nat.add_mul];omega
      rw [e2];exact this
  · cases hx
section steps
variable {P:Program} {ops:List Oper} {Q:Exit→Act→World→Prop} {o:Oper} {rest:List Oper} {a:Act} {w w':World} {σ:List (Nat×Value)} {n d:Nat} {M:List Nat} {w0:World} {Δ Γ:List (Nat×Chunk)}
/-- A BYTE OF A TEXT. -/
theorem six {t:TypeId} {x y:Operand} {s:ByteArray} {k:IntKind} {i:Int} (ho:o.op = .index t x y) (hk:Kn σ n a) (hd:o.dst=some d) (hx:rho? σ x=some (.string s)) (hy:rho? σ y=some (.int k i)) (hc:chk ops n σ o d=true)
    (ht:P.underlying t=some .string) (h0:0≤i) (h1:i<s.size)
    (next:∀ a,Kn ((d,.int .u8 (byteAt s i)) :: σ) n a→wpList P ops.toArray Q rest a w):wpList P ops.toArray Q (o :: rest) a w :=
  sv _ hk hd hc (by
    have h2:i.toNat<s.size:=by omega
    have hr:=run_index_string (P:=P) w t s k i ht
    rw [dif_pos ⟨h0,h1⟩] at hr
    simp only [execOp,ho,rho?_eq hx,rho?_eq hy,Sem.run_bind,hr,Result.andThen_ok,Sem.run_pure]
    simp [byteAt,h2]) next
/-- A PART OF A TEXT. -/
theorem ssl_lh {t:TypeId} {x y z:Operand} {s:ByteArray} {k k':IntKind} {i j:Int} (ho:o.op = .slice t x (some y) (some z) none) (hk:Kn σ n a) (hd:o.dst=some d) (hx:rho? σ x=some (.string s)) (hy:rho? σ y=some (.int k i)) (hz:rho? σ z=some (.int k' j)) (hc:chk ops n σ o d=true)
    (ht:P.underlying t=some .string) (h0:0≤i) (h1:i≤j) (h2:j≤s.size)
    (next:∀ a,Kn ((d,.string (s.extract i.toNat j.toNat)) :: σ) n a→wpList P ops.toArray Q rest a w):wpList P ops.toArray Q (o :: rest) a w :=
  sv _ hk hd hc (by
    have eh:(j.toNat:Int)=j:=Int.toNat_of_nonneg (by omega)
    simp [execOp,ho,rho?_eq hx,rho?_eq hy,rho?_eq hz,Instr.sliceAt,Instr.slice,run_underlying ht,Instr.sliceBounds,run_sliceBound,h0,h1,h2,eh,(by omega:0≤j)]) next
theorem ssl_l {t:TypeId} {x y:Operand} {s:ByteArray} {k:IntKind} {i:Int} (ho:o.op = .slice t x (some y) none none) (hk:Kn σ n a) (hd:o.dst=some d) (hx:rho? σ x=some (.string s)) (hy:rho? σ y=some (.int k i)) (hc:chk ops n σ o d=true)
    (ht:P.underlying t=some .string) (h0:0≤i) (h1:i≤s.size)
    (next:∀ a,Kn ((d,.string (s.extract i.toNat s.size)) :: σ) n a→wpList P ops.toArray Q rest a w):wpList P ops.toArray Q (o :: rest) a w :=
  sv _ hk hd hc (by simp only [execOp,ho,rho?_eq hx,rho?_eq hy,Option.map_some,Option.map_none,run_sliceAt_string (P:=P) w t _ _ _ _ ht,run_slice_string_l (P:=P) w t s ht k i h0 h1,Sem.run_bind,Result.andThen_ok,Sem.run_pure]) next
theorem ssl_h {t:TypeId} {x y:Operand} {s:ByteArray} {k:IntKind} {i:Int} (ho:o.op = .slice t x none (some y) none) (hk:Kn σ n a) (hd:o.dst=some d) (hx:rho? σ x=some (.string s)) (hy:rho? σ y=some (.int k i)) (hc:chk ops n σ o d=true)
    (ht:P.underlying t=some .string) (h0:0≤i) (h1:i≤s.size)
    (next:∀ a,Kn ((d,.string (s.extract 0 i.toNat)) :: σ) n a→wpList P ops.toArray Q rest a w):wpList P ops.toArray Q (o :: rest) a w :=
  sv _ hk hd hc (by simp only [execOp,ho,rho?_eq hx,rho?_eq hy,Option.map_some,Option.map_none,run_sliceAt_string (P:=P) w t _ _ _ _ ht,run_slice_string_h (P:=P) w t s ht k i h0 h1,Sem.run_bind,Result.andThen_ok,Sem.run_pure]) next
/-- A TEXT OF BYTES. -/
theorem sbt {st dt E:TypeId} {x:Operand} {A:Option Addr} {l cap:Nat} {xs:List Int} {c:Chunk} (ho:o.op = .convert st dt x) (hk:Kn σ n a) (hd:o.dst=some d) (hx:rho? σ x=some (.slice A l cap)) (hl:l=xs.length) (hc:chk ops n σ o d=true)
    (hs:P.underlying st=some (.slice E)) (he:P.underlying E=some (.int .u8)) (ht:P.underlying dt=some .string) (hv:View (Lay.int .u8) A cap xs c) (hw:Has w c)
    (next:∀ a,Kn ((d,.string (strOfNums xs)) :: σ) n a→wpList P ops.toArray Q rest a w):wpList P ops.toArray Q (o :: rest) a w:=by
  subst hl
  have hr : (convert st dt (.slice A xs.length cap)).run P w = .ok (.string (strOfNums xs)) w:=by
    cases A with
    | none =>
      have hx0:xs=[]:=by
        cases xs with
        | nil=>rfl
        | cons y r=>obtain ⟨⟨b,off,e⟩,_⟩:=hv.row 0 y (by simp);cases e
      subst hx0
      rw [run_convert_bytes_nil (P:=P) w st E hs he _ _ dt ht];rfl
    | some ad =>
      cases xs with
      | nil =>
        simp only [List.length_nil]
        rw [run_convert_bytes_string w st dt E (some ad) 0 cap hs he ht,run_bytesToString w ad 0 cap [] (by simp [loadCells,loadCellsFrom])]
        rfl
      | cons y r =>
        obtain ⟨⟨b,off,e⟩,_⟩:=hv.row 0 y (by simp)
        cases e
        exact run_convert_bytes_arg (P:=P) w st E hs he b off _ cap (y :: r) rfl (fun i hi=>by
          obtain ⟨_,es,h1,h2⟩:=hv.row i ((y :: r).getD i 0) (by simp [List.getD_eq_getElem?_getD,List.getElem?_eq_getElem hi])
          have he:es=[.int .u8 ((y :: r).getD i 0)]:=h1
          subst he
          have:=(h2 0 _ rfl).cell hw
          simpa [padd,Lay.int,Lay.flat] using this) dt ht
  exact sv _ hk hd hc (by simp only [execOp,ho,rho?_eq hx,Sem.run_bind,hr,Result.andThen_ok,Sem.run_pure]) next
/-- == OF A SLICE AND nil. -/
theorem snl {t t':TypeId} {x:Operand} {A:Option Addr} {l cap:Nat} {E:TypeId} (ho:o.op = .binOp .eql t x (.const (.slice none 0 0)) t') (hk:Kn σ n a) (hd:o.dst=some d) (hx:rho? σ x=some (.slice A l cap)) (hc:chk ops n σ o d=true) (ht:P.underlying t=some (.slice E))
    (next:∀ a,Kn ((d,.bool A.isNone) :: σ) n a→wpList P ops.toArray Q rest a w):wpList P ops.toArray Q (o :: rest) a w :=
  sv _ hk hd hc (by
    have h:(Op.equal t (.slice A l cap) (.slice none 0 0)).run P w = .ok A.isNone w:=by
      show (Op.equalIn (9999+1) t _ _).run P w=_
      unfold Op.equalIn
      cases A <;> simp [run_underlying ht]
    have hc':rho σ (.const (.slice none 0 0)) = .slice none 0 0:=rfl
    simp only [execOp,ho,rho?_eq hx,hc',Sem.run_bind,eqGuard,binOp,Bool.not_true,Bool.false_eq_true,if_false,Result.andThen_ok,h,Sem.run_pure]) next
theorem View.none_nil {α:Type} {L:Lay α} {cap:Nat} {xs:List α} {c:Chunk} (h:View L none cap xs c):xs=[]:=by
  cases xs with
  | nil=>rfl
  | cons y r=>obtain ⟨⟨b,off,e⟩,_⟩:=h.row 0 y (by simp);cases e
end steps
end Go.Z
