/- Lemmas for walks: frames known by slots, heaps known by chunks. No conditions of its own. -/
import Derived.Test.YteklgnhfgdhdiaaGreatZ28
namespace Go.Z
set_option linter.unusedVariables false
set_option linter.unusedSimpArgs false
open Go Go.RowKit
/-! Arrays of integers that are a part of a variable (a field of a struct). -/
theorem ints_range {ik:IntKind}:∀ (xs:List Int) {m:Nat},xs.length=m→xs.map (Value.int ik)=(List.range m).map fun i=>Value.int ik (xs.getD i 0):=by
  intro xs m hl
  apply List.ext_getElem (by simp [hl])
  intro i h1 h2
  have hi:i<xs.length:=by simpa using h1
  simp [List.getD_eq_getElem?_getD,List.getElem?_eq_getElem hi]
theorem aggI_lits {ik:IntKind} {xs:List Int} {m:Nat} (hl:xs.length=m):aggI ik xs = .agg ((List.range m).map fun i=>Value.int ik (xs.getD i 0)).toArray:=by
  rw [← ints_range xs hl]
theorem box_ints {vs:List Value} {xs:List Int} {ik:IntKind} {off m i:Nat} (hp:(vs.drop off).take m=xs.map (Value.int ik)) (hl:xs.length=m) (hi:i<m):vs[off+i]? = some (.int ik (xs.getD i 0)):=by
  have h:((vs.drop off).take m)[i]? = some (.int ik (xs.getD i 0)):=by
    rw [hp,List.getElem?_map,List.getElem?_eq_getElem (by omega)]
    simp [List.getD_eq_getElem?_getD,List.getElem?_eq_getElem (show i<xs.length by omega)]
  rw [List.getElem?_take,if_pos hi,List.getElem?_drop] at h
  exact h
/-- A field's place and type. -/
def fdtB (P:Program) (s:TypeId) (f:Nat):Option (Nat×TypeId) :=
  match P.underlying s with
  | some (.struct fs)=>(fs[f]?).map fun g=>(g.offset,g.type)
  | _=>none
section steps
variable {P:Program} {ops:List Oper} {Q:Exit→Act→World→Prop} {o:Oper} {rest:List Oper} {a:Act} {w w':World} {σ:List (Nat×Value)} {n d:Nat} {M:List Nat} {w0:World} {Δ Γ:List (Nat×Chunk)}
/-- The array is loaded whole. -/
theorem slnB (k:Nat) {ik:IntKind} {t T:TypeId} {x:Operand} {b off m:Nat} (xs:List Int) {vs:List Value} {fr:Nat×Nat} (hs:Sat M w0 w Δ Γ) (hg:kget Γ k=some [(b,.cells vs.toArray T fr)]) (hp:(vs.drop off).take m=xs.map (Value.int ik)) (hl:xs.length=m)
    (ho:o.op = .load t x) (hk:Kn σ n a) (hd:o.dst=some d) (hx:rho? σ x=some (.pointer (some ⟨b,off,none⟩))) (hc:chk ops n σ o d=true) (ht:aggB P t=some true) (hz:szB P t=some m)
    (next:∀ a,Kn ((d,aggI ik xs) :: σ) n a→wpList P ops.toArray Q rest a w):wpList P ops.toArray Q (o :: rest) a w :=
  sln (xs.map (Value.int ik)) ho hk hd hx hc ht (by rw [List.length_map,hl];exact hz) (box_part hs hg (by rw [List.length_map,hl];exact hp)) next
/-- The array is stored whole. -/
theorem ssB (k:Nat) {ik:IntKind} {t T:TypeId} {x y:Operand} {b off m:Nat} (xs:List Int) {vs vs':List Value} (hs:Sat M w0 w Δ Γ) (hg:kget Γ k=some [(b,.cells vs.toArray T (0,0))])
    (ho:o.op = .store t x y) (hk:Kn σ n a) (hd:o.dst=none) (hx:rho? σ x=some (.pointer (some ⟨b,off,none⟩))) (hy:rho? σ y=some (aggI ik xs)) (hc:chk0 ops σ o=true) (hz:szB P t=some m) (hl:xs.length=m) (hf:Nat.ble (off+m) vs.length=true)
    (he:vs.take off++(List.range m).map (fun i=>Value.int ik (xs.getD i 0))++vs.drop (off+m)=vs')
    (next:∀ w' a,Kn σ n a→Sat M w0 w' Δ (kset Γ k [(b,.cells vs'.toArray T (0,0))])→wpList P ops.toArray Q rest a w'):wpList P ops.toArray Q (o :: rest) a w :=
  ssp k hs hg ho hk hd hx hy hc (by simp [hl,hz]) (fun u hu=>by
    simp only [List.mem_map] at hu
    obtain ⟨x,_,rfl⟩:=hu
    rfl) (by simpa [hl] using hf) (by
      rw [← he,ints_range xs hl]
      simp) next
/-- An element is loaded. -/
theorem slBE (k:Nat) {ik:IntKind} {t T:TypeId} {x:Operand} {b off m:Nat} {i:Int} (xs:List Int) {vs:List Value} {fr:Nat×Nat} (hs:Sat M w0 w Δ Γ) (hg:kget Γ k=some [(b,.cells vs.toArray T fr)]) (hp:(vs.drop off).take m=xs.map (Value.int ik)) (hl:xs.length=m)
    (ho:o.op = .load t x) (hk:Kn σ n a) (hd:o.dst=some d) (hx:rho? σ x=some (.pointer (some (padd (some ⟨b,off,none⟩) (i.toNat*1))))) (hc:chk ops n σ o d=true) (ht:aggB P t=some false) (h0:0≤i) (h1:i<(m:Int))
    (next:∀ a,Kn ((d,.int ik (xs.getD i.toNat 0)) :: σ) n a→wpList P ops.toArray Q rest a w):wpList P ops.toArray Q (o :: rest) a w :=
  sl ho hk hd hx hc ht (by
    rw [padd_some,Nat.mul_one]
    refine box_cell hs hg ?_
    rw [List.getElem?_toArray]
    exact box_ints hp hl (by omega)) next
theorem set_ints {vs vs':List Value} {xs:List Int} {ik:IntKind} {off m i:Nat} {v:Int} (hp:(vs.drop off).take m=xs.map (Value.int ik)) (hl:xs.length=m) (hi:i<m) (hf:off+m≤vs.length)
    (he:vs.take off++(List.range m).map (fun j=>Value.int ik ((xs.set i v).getD j 0))++vs.drop (off+m)=vs'):vs.set (off+i) (.int ik v)=vs':=by
  rw [← he,← ints_range (xs.set i v) (by rw [List.length_set,hl]),List.map_set,← hp]
  apply List.ext_getElem?
  intro j
  have hlen:((vs.drop off).take m).length=m:=by rw [List.length_take,List.length_drop];omega
  rw [List.getElem?_set]
  by_cases h1:j<off
  · rw [if_neg (by omega),List.append_assoc,List.getElem?_append_left (by rw [List.length_take];omega),List.getElem?_take,if_pos h1]
  by_cases h2:j<off+m
  · rw [List.append_assoc,List.getElem?_append_right (by rw [List.length_take];omega),List.length_take,Nat.min_eq_left (by omega),List.getElem?_append_left (by rw [List.length_set,hlen];omega),List.getElem?_set]
    by_cases h3:off+i=j
    · rw [if_pos h3,if_pos (by omega),if_pos (by omega),if_pos (by rw [hlen];omega)]
    · rw [if_neg h3,if_neg (by omega),List.getElem?_take,if_pos (by omega),List.getElem?_drop,show off+(j-off)=j by omega]
  · rw [if_neg (by omega),List.getElem?_append_right (by rw [List.length_append,List.length_take,List.length_set,hlen];omega),List.length_append,List.length_take,List.length_set,hlen,List.getElem?_drop]
    congr 1;omega
/-- An element is stored. -/
theorem ssBE (k:Nat) {ik:IntKind} {t T:TypeId} {x y:Operand} {b off m:Nat} {i v:Int} (xs:List Int) {vs vs':List Value} (hs:Sat M w0 w Δ Γ) (hg:kget Γ k=some [(b,.cells vs.toArray T (0,0))]) (hp:(vs.drop off).take m=xs.map (Value.int ik)) (hl:xs.length=m)
    (ho:o.op = .store t x y) (hk:Kn σ n a) (hd:o.dst=none) (hx:rho? σ x=some (.pointer (some (padd (some ⟨b,off,none⟩) (i.toNat*1))))) (hy:rho? σ y=some (.int ik v)) (hc:chk0 ops σ o=true) (hz:szB P t=some 1) (h0:0≤i) (h1:i<(m:Int)) (hf:Nat.ble (off+m) vs.length=true)
    (he:vs.take off++(List.range m).map (fun j=>Value.int ik ((xs.set i.toNat v).getD j 0))++vs.drop (off+m)=vs')
    (next:∀ w' a,Kn σ n a→Sat M w0 w' Δ (kset Γ k [(b,.cells vs'.toArray T (0,0))])→wpList P ops.toArray Q rest a w'):wpList P ops.toArray Q (o :: rest) a w :=
  have hf2:=Nat.le_of_ble_eq_true hf
  ss ho hk hd (by rw [padd_some,Nat.mul_one] at hx;exact hx) hy hc hz rfl rfl (box_row hs hg) (by rw [List.size_toArray];omega) fun a hk=>next _ a hk (by
    rw [List.setIfInBounds_toArray,set_ints hp hl (by omega) hf2 he];exact hs.write1 _ hg)
theorem run_fieldA {s t:TypeId} {f off m:Nat} {vs:List Value} (hf:fdtB P s f=some (off,t)) (ht:aggB P t=some true) (hz:szB P t=some m):(Instr.field s (.agg vs.toArray) f).run P w = .ok (.agg ((vs.drop off).take m).toArray) w:=by
  unfold fdtB at hf
  split at hf
  · rename_i fs hu
    obtain ⟨g,hg,e⟩:=Option.map_eq_some_iff.1 hf
    obtain ⟨rfl,rfl⟩:=Prod.mk.inj e
    simp [Instr.field,run_underlying hu,hg,part,run_isAgg ht,run_sizeOf hz,asAgg]
  · cases hf
/-- The array that is a field of a struct that is a value. -/
theorem sfdA {ik:IntKind} {s t:TypeId} {x:Operand} {f off m:Nat} (xs:List Int) {vs:List Value} (ho:o.op = .field s x f) (hk:Kn σ n a) (hd:o.dst=some d) (hx:rho? σ x=some (.agg vs.toArray)) (hc:chk ops n σ o d=true)
    (hf:fdtB P s f=some (off,t)) (ht:aggB P t=some true) (hz:szB P t=some m) (hp:(vs.drop off).take m=xs.map (Value.int ik))
    (next:∀ a,Kn ((d,aggI ik xs) :: σ) n a→wpList P ops.toArray Q rest a w):wpList P ops.toArray Q (o :: rest) a w :=
  sv _ hk hd hc (by simp only [execOp,ho,rho?_eq hx,Sem.run_bind,run_fieldA hf ht hz,Result.andThen_ok,Sem.run_pure,hp]) next
end steps
end Go.Z
