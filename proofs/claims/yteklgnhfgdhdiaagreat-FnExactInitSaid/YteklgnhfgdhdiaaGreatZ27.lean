/- Lemmas for walks: frames known by slots, heaps known by chunks. No conditions of its own. -/
import Derived.Test.YteklgnhfgdhdiaaGreatZ26
import Derived.ChangeKeysEq
namespace Go.Z
set_option linter.unusedVariables false
set_option linter.unusedSimpArgs false
open Go Go.RowKit
/-! Arrays of integers as values. -/
abbrev aggI (k:IntKind) (xs:List Int):Value:=.agg (xs.map (Value.int k)).toArray
theorem allown_ik (k:IntKind):∀ xs:List Int,AllOwn (Lay.int k) xs (xs.map fun x=>[Value.int k x]) []
  | []=>.nil
  | x :: r=>AllOwn.cons0 ⟨rfl,rfl⟩ (allown_ik k r)
theorem flat_ints (k:IntKind):∀ xs:List Int,(xs.map fun x=>[Value.int k x]).flatten=xs.map (Value.int k)
  | []=>rfl
  | x :: r=>by simp [flat_ints k r]
theorem own_ints {k:IntKind} {E:TypeId} {b m:Nat} (xs:List Int) (hl:xs.length=m) (h:Nat.ble m 16777216=true):Own (Lay.int k) E (some ⟨b,0,none⟩) m xs [(b,.cells (xs.map (Value.int k)).toArray E (0,0))]:=by
  subst hl
  refine .inr ⟨b,rfl,_,xs.map fun x=>[Value.int k x],[],rfl,allown_ik k xs,?_,?_,Nat.le_refl _,by have:=Nat.le_of_ble_eq_true h;simp only [maxLen];omega⟩
  · rw [flat_ints,List.toList_toArray]
    apply List.take_of_length_le
    rw [List.length_map];show _≤xs.length*1;omega
  · rw [List.size_toArray,List.length_map];show _=xs.length*1;omega
theorem allown_ints {k:IntKind} {xs:List Int} {ess:List (List Value)} {d:Chunk} (h:AllOwn (Lay.int k) xs ess d):ess.flatten=xs.map (Value.int k)∧d=[]:=by
  induction h with
  | nil=>exact ⟨rfl,rfl⟩
  | cons h1 _ ih =>
    obtain ⟨rfl,rfl⟩:=h1
    exact ⟨by simp [ih.1],by simp [ih.2]⟩
/-- The whole of an own row of integers is its one block. -/
theorem Own.ints {k:IntKind} {E:TypeId} {b m:Nat} {xs:List Int} {c:Chunk} (h:Own (Lay.int k) E (some ⟨b,0,none⟩) m xs c) (hl:xs.length=m):c=[(b,.cells (xs.map (Value.int k)).toArray E (0,0))]:=by
  rcases h with ⟨h,_⟩ | ⟨b',h,cs,ess,d,rfl,ha,ht,hs,_,_⟩
  · cases h
  injection h with h;injection h with h;subst h
  obtain ⟨e1,rfl⟩:=allown_ints ha
  have hsz:cs.size=xs.length:=by rw [hs,← hl];show _*1=_;omega
  have:cs.toList.take (xs.length*(Lay.int k).size)=cs.toList:=List.take_of_length_le (by
    show _≤xs.length*1
    rw [Array.length_toList];omega)
  rw [this,e1] at ht
  have:cs=(xs.map (Value.int k)).toArray:=by apply Array.ext';rw [ht]
  rw [this]
section
variable {P:Program} {w:World} {M:List Nat} {w0:World} {Δ Γ:List (Nat×Chunk)}
theorem run_loadA {k:IntKind} {E t:TypeId} {b m q:Nat} {xs:List Int} {c:Chunk} (ht:aggB P t=some true) (hz:szB P t=some m) (hown:Own (Lay.int k) E (some ⟨b,0,none⟩) m xs c) (hl:xs.length=m) (hs:Sat M w0 w Δ Γ) (hg:kget Γ q=some c) :
    (loadVar t ⟨b,0,none⟩).run P w = .ok (aggI k xs) w:=by
  have e:=hown.ints hl;subst e
  exact run_loadN ht (by rw [List.length_map,hl];exact hz) (box_cells hs hg)
theorem run_indexI {t e:TypeId} {k k':IntKind} {m:Nat} {i:Int} (xs:List Int) (hu:P.underlying t=some (.array m e)) (hz:szB P e=some 1) (ha:aggB P e=some false) (hl:xs.length=m) (h0:0≤i) (h1:i<m) :
    (Instr.index t (aggI k xs) (.int k' i)).run P w = .ok (.int k (xs.getD i.toNat 0)) w:=by
  have h2:i.toNat<xs.length:=by omega
  have p:(part e (xs.map (Value.int k)).toArray (i.toNat*1)).run P w = .ok (.int k (xs.getD i.toNat 0)) w:=run_part1 ha (by simp [h2])
  simp [Instr.index,asIntOf,run_underlying hu,h0,h1,run_sizeOf hz,p]
  simpa using p
end
section steps
variable {P:Program} {ops:List Oper} {Q:Exit→Act→World→Prop} {o:Oper} {rest:List Oper} {a:Act} {w w':World} {σ:List (Nat×Value)} {n d:Nat} {M:List Nat} {w0:World} {Δ Γ:List (Nat×Chunk)}
/-- An array that is a parameter gets its variable. -/
theorem sbxa (k:Nat) {ik:IntKind} {t:TypeId} {x:Operand} {xs:List Int} {m:Nat} (hs:Sat M w0 w Δ Γ) (ho:o.op = .box t x) (hk:Kn σ n a) (hd:o.dst=some d) (hx:rho? σ x=some (aggI ik xs)) (hc:chk ops n σ o d=true) (hl:xs.length=m) (hm:Nat.ble m 16777216=true)
    (next:∀ b c w' a,Kn ((d,.pointer (some ⟨b,0,none⟩)) :: σ) n a→Own (Lay.int ik) t (some ⟨b,0,none⟩) m xs c→Sat M w0 w' Δ ((k,c) :: Γ)→wpList P ops.toArray Q rest a w'):wpList P ops.toArray Q (o :: rest) a w :=
  sbx k hs ho hk hd hx (show (aggI ik xs).cells=_ from rfl) hc fun b w' a hk hs=>next b _ w' a hk (own_ints xs hl hm) hs
/-- An array is loaded whole. -/
theorem slna (k:Nat) {ik:IntKind} {t E:TypeId} {x:Operand} {b m:Nat} {xs:List Int} {c:Chunk} (hs:Sat M w0 w Δ Γ) (hg:kget Γ k=some c) (hown:Own (Lay.int ik) E (some ⟨b,0,none⟩) m xs c) (hl:xs.length=m)
    (ho:o.op = .load t x) (hk:Kn σ n a) (hd:o.dst=some d) (hx:rho? σ x=some (.pointer (some ⟨b,0,none⟩))) (hc:chk ops n σ o d=true) (ht:aggB P t=some true) (hz:szB P t=some m)
    (next:∀ a,Kn ((d,aggI ik xs) :: σ) n a→wpList P ops.toArray Q rest a w):wpList P ops.toArray Q (o :: rest) a w :=
  sv _ hk hd hc (by simp only [execOp,ho,rho?_eq hx,Instr.loadAt,Instr.sureAddr,Sem.run_bind,Sem.run_pure,Result.andThen_ok,run_loadA ht hz hown hl hs hg]) next
/-- An array is stored whole. -/
theorem sswa (k:Nat) {ik:IntKind} {t E:TypeId} {x y:Operand} {b m:Nat} {xs:List Int} (ys:List Int) {c:Chunk} (hs:Sat M w0 w Δ Γ) (hg:kget Γ k=some c) (hown:Own (Lay.int ik) E (some ⟨b,0,none⟩) m xs c) (hl:xs.length=m) (hly:ys.length=m) (hm:Nat.ble m 16777216=true)
    (ho:o.op = .store t x y) (hk:Kn σ n a) (hd:o.dst=none) (hx:rho? σ x=some (.pointer (some ⟨b,0,none⟩))) (hy:rho? σ y=some (aggI ik ys)) (hc:chk0 ops σ o=true) (hz:szB P t=some m)
    (next:∀ c' w' a,Kn σ n a→Own (Lay.int ik) E (some ⟨b,0,none⟩) m ys c'→Sat M w0 w' Δ (kset Γ k c')→wpList P ops.toArray Q rest a w'):wpList P ops.toArray Q (o :: rest) a w:=by
  have e:=hown.ints hl;subst e
  refine ssw k hs hg ho hk hd hx hy hc (by simp [hly,hz]) (fun u hu=>?_) (by simp [hl,hly]) fun w' a hk hs=>next _ w' a hk (own_ints ys hly hm) hs
  simp only [List.mem_map] at hu
  obtain ⟨x,_,rfl⟩:=hu
  rfl
/-- An element of an array that is a value. -/
theorem sixa {t e:TypeId} {x y:Operand} {ik k:IntKind} {i:Int} {m:Nat} {xs:List Int} (ho:o.op = .index t x y) (hk:Kn σ n a) (hd:o.dst=some d) (hx:rho? σ x=some (aggI ik xs)) (hy:rho? σ y=some (.int k i)) (hc:chk ops n σ o d=true)
    (ht:P.underlying t=some (.array m e)) (hz:szB P e=some 1) (ha:aggB P e=some false) (hl:xs.length=m) (h0:0≤i) (h1:i<m)
    (next:∀ a,Kn ((d,.int ik (xs.getD i.toNat 0)) :: σ) n a→wpList P ops.toArray Q rest a w):wpList P ops.toArray Q (o :: rest) a w :=
  sv _ hk hd hc (by simp only [execOp,ho,rho?_eq hx,rho?_eq hy,Sem.run_bind,run_indexI xs ht hz ha hl h0 h1,Result.andThen_ok,Sem.run_pure]) next
end steps
/-! Arrays of arrays, as values. -/
theorem flat_part {q:Nat}:∀ (xss:List (List Int)) (i:Nat),(∀ r∈xss,r.length=q)→i<xss.length→(xss.flatten.drop (i*q)).take q=xss.getD i []
  | [],i,_,h=>by simp at h
  | r :: t,0,hq,_=>by
    have:=hq r (List.mem_cons_self ..)
    simp [← this]
  | r :: t,i+1,hq,h=>by
    have hr:=hq r (List.mem_cons_self ..)
    have ih:=flat_part t i (fun x hx=>hq x (List.mem_cons_of_mem _ hx)) (by simpa using h)
    have e:(i+1)*q=r.length+i*q:=by rw [hr,Nat.add_mul];omega
    rw [List.flatten_cons,e,List.drop_append]
    simp only [List.getD_cons_succ]
    rw [show r.length+i*q-r.length=i*q by omega,List.drop_eq_nil_of_le (by omega),List.nil_append]
    exact ih
theorem row_len {q m:Nat} {xss:List (List Int)} {i:Int} (hall:∀ r∈xss,r.length=q) (hl:xss.length=m) (h0:0≤i) (h1:i<m):(xss.getD i.toNat []).length=q:=by
  have h2:i.toNat<xss.length:=by omega
  rw [List.getD_eq_getElem?_getD,List.getElem?_eq_getElem h2]
  exact hall _ (List.getElem_mem h2)
section
variable {P:Program} {ops:List Oper} {Q:Exit→Act→World→Prop} {o:Oper} {rest:List Oper} {a:Act} {w w':World} {σ:List (Nat×Value)} {n d:Nat}
theorem six2 {t e:TypeId} {x y:Operand} {ik k:IntKind} {i:Int} {m q:Nat} {xss:List (List Int)} {cs:Array Value} (ho:o.op = .index t x y) (hk:Kn σ n a) (hd:o.dst=some d) (hx:rho? σ x=some (.agg cs)) (hy:rho? σ y=some (.int k i)) (hc:chk ops n σ o d=true)
    (hcs:cs=(xss.flatten.map (Value.int ik)).toArray) (ht:P.underlying t=some (.array m e)) (hz:szB P e=some q) (ha:aggB P e=some true) (hall:∀ r∈xss,r.length=q) (hl:xss.length=m) (h0:0≤i) (h1:i<m)
    (next:∀ a,Kn ((d,aggI ik (xss.getD i.toNat [])) :: σ) n a→wpList P ops.toArray Q rest a w):wpList P ops.toArray Q (o :: rest) a w:=by
  have h2:i.toNat<xss.length:=by omega
  have p:(part e cs (i.toNat*q)).run P w = .ok (aggI ik (xss.getD i.toNat [])) w:=by
    have e1:cs.extract (i.toNat*q) (i.toNat*q+q)=((xss.getD i.toNat []).map (Value.int ik)).toArray:=by
      subst hcs
      apply Array.ext'
      rw [← flat_part xss i.toNat hall h2]
      simp [List.extract_eq_take_drop,List.map_drop,List.map_take]
    simp [part,run_isAgg ha,run_sizeOf hz,e1]
  exact sv _ hk hd hc (by
    have:(Instr.index t (.agg cs) (.int k i)).run P w = .ok (aggI ik (xss.getD i.toNat [])) w:=by
      simp only [Instr.index,asIntOf,Sem.run_bind,Sem.run_pure,Result.andThen_ok,run_underlying ht,if_pos (show 0≤i∧i<(m:Int) from ⟨h0,h1⟩),run_sizeOf hz,p]
    simp only [execOp,ho,rho?_eq hx,rho?_eq hy,Sem.run_bind,this,Result.andThen_ok,Sem.run_pure]) next
end
section
variable {P:Program} {ops:List Oper} {C:World→Prop} {Q:Exit→Act→World→Prop}
end
end Go.Z
