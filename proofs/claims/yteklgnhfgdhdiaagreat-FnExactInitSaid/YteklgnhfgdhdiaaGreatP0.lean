/- Plain lemmas. -/
import Derived.Test.YteklgnhfgdhdiaaGreatY1
namespace Go.Proofs.YteklgnhfgdhdiaaGreat
open Go Go.Z Go.Proofs Go.MuLone Go.ChangeShapes Go.WideShapes Go.ChangeAt Go.RowKit
set_option linter.unusedVariables false
set_option linter.unusedSimpArgs false
def inB (x lo hi:Int):Bool:=decide (lo≤x) && decide (x≤hi)
theorem inB_iff {x lo hi:Int}:inB x lo hi=true ↔ lo≤x∧x≤hi:=by simp [inB]
theorem w64_id {x:Int} (h0 : -9223372036854775808≤x) (h1:x≤9223372036854775807):w64 x=x:=by
  show IntKind.wrap .i64 x=x
  rw [IntKind.wrap_i64];omega
/-- A loop that counts: after k rounds the state is g k. -/
theorem loopO_from {σ ρ:Type} {step:σ→Option (σ ⊕ ρ)} (g:Nat→σ) (n:Nat) {r:ρ} (he:step (g n)=some (.inr r)):∀ (m k:Nat),k+m=n→(∀ j,k≤j→j<n→step (g j)=some (.inl (g (j+1))))→loopO step (g k)=some r
  | 0,k,hk,_=>by
    have:k=n:=by omega
    rw [this,loopO_eq,he]
  | m+1,k,hk,h=>by
    rw [loopO_eq,h k (Nat.le_refl _) (by omega)]
    exact loopO_from g n he m (k+1) (by omega) (fun j h1 h2=>h j (by omega) h2)
theorem loopO_run {σ ρ:Type} {step:σ→Option (σ ⊕ ρ)} (g:Nat→σ) (n:Nat) {r:ρ} (h:∀ k,k<n→step (g k)=some (.inl (g (k+1)))) (he:step (g n)=some (.inr r)):loopO step (g 0)=some r :=
  loopO_from g n he n 0 (by omega) (fun j _ h2=>h j h2)
/-- A loop that looks for what is not as told. -/
theorem loopO_scan {σ β τ:Type} {step:σ→Option (σ ⊕ Ex τ β)} (g:Nat→σ) (n:Nat) (p:Nat→Bool) {b:β} {t:τ} (h:∀ k,k<n→step (g k)=some (bif p k then .inl (g (k+1)) else .inr (.ret b))) (he:step (g n)=some (.inr (.out t))) :
    loopO step (g 0)=some (bif (List.range n).all p then .out t else .ret b):=by
  have key:∀ (m k:Nat),k+m=n→loopO step (g k)=some (bif (List.range' k m).all p then .out t else .ret b):=by
    intro m
    induction m with
    | zero => intro k hk;have:k=n:=by omega
              rw [this,loopO_eq,he];simp
    | succ m ih =>
      intro k hk
      rw [loopO_eq,h k (by omega),List.range'_succ,List.all_cons]
      cases hp:p k
      · simp
      · simp only [cond_true,Bool.true_and]
        exact ih (k+1) (by omega)
  have:=key n 0 (by omega)
  rwa [← List.range_eq_range'] at this
theorem all_range {α:Type} (l:List α) (z:α) (q:α→Bool):(List.range l.length).all (fun k=>q (l.getD k z))=l.all q:=by
  induction l with
  | nil=>rfl
  | cons x r ih =>
    rw [List.length_cons,List.range_succ_eq_map,List.all_cons,List.all_map,List.all_cons,← ih]
    rfl
theorem getD_lt {α:Type} {l:List α} {k:Nat} (h:k<l.length) (z:α):l.getD k z=l[k]:=by
  simp [List.getD_eq_getElem?_getD,List.getElem?_eq_getElem h]
/-- Lists that are copied element by element. -/
def filled {α:Type} (l:List α) (z:α) (k:Nat):List α:=l.take k++List.replicate (l.length-k) z
theorem filled_zero {α:Type} (l:List α) (z:α):filled l z 0=List.replicate l.length z:=by simp [filled]
theorem filled_all {α:Type} (l:List α) (z:α):filled l z l.length=l:=by simp [filled]
theorem filled_len {α:Type} (l:List α) (z:α) (k:Nat) (h:k≤l.length):(filled l z k).length=l.length:=by simp [filled];omega
theorem filled_set {α:Type} (l:List α) (z:α) (k:Nat) (h:k<l.length) (d:α):(filled l z k).set k (l.getD k d)=filled l z (k+1):=by
  apply List.ext_getElem?
  intro j
  have hl:=filled_len l z k (by omega)
  have hl':=filled_len l z (k+1) (by omega)
  rw [List.getElem?_set,hl,getD_lt h]
  unfold filled
  by_cases e:k=j
  · subst e
    rw [if_pos rfl,if_pos h,List.getElem?_append_left (by simp;omega),List.getElem?_take,if_pos (by omega),List.getElem?_eq_getElem h]
  · rw [if_neg e]
    by_cases h1:j<k
    · rw [List.getElem?_append_left (by simp;omega),List.getElem?_append_left (by simp;omega),List.getElem?_take,List.getElem?_take,if_pos h1,if_pos (by omega)]
    · rw [List.getElem?_append_right (by simp;omega),List.getElem?_append_right (by simp;omega)]
      have a1:(l.take k).length=k:=by simp;omega
      have a2:(l.take (k+1)).length=k+1:=by simp;omega
      rw [a1,a2]
      simp only [List.getElem?_replicate]
      by_cases h2:j<l.length
      · rw [if_pos (by omega),if_pos (by omega)]
      · rw [if_neg (by omega),if_neg (by omega)]
/-- A loop whose state goes down. -/
theorem loopO_wf {σ ρ:Type} {step:σ→Option (σ ⊕ ρ)} (I:σ→Prop) (R:ρ→Prop) (μ:σ→Nat) (h:∀ s,I s→(∃ s',step s=some (.inl s')∧I s'∧μ s'<μ s)∨(∃ r,step s=some (.inr r)∧R r)) :
    ∀ (n:Nat) (s:σ),μ s≤n→I s→∃ r,loopO step s=some r∧R r
  | 0,s,hn,hs=>by
    rcases h s hs with ⟨s',_,_,h3⟩ | ⟨r,h1,h2⟩
    · omega
    · exact ⟨r,by rw [loopO_eq,h1],h2⟩
  | n + 1,s,hn,hs=>by
    rcases h s hs with ⟨s',h1,h2,h3⟩ | ⟨r,h1,h2⟩
    · obtain ⟨r,h4,h5⟩:=loopO_wf I R μ h n s' (by omega) h2
      exact ⟨r,by rw [loopO_eq,h1];exact h4,h5⟩
    · exact ⟨r,by rw [loopO_eq,h1],h2⟩
/-- A loop that looks for what is as told. -/
theorem loopO_find {σ β τ:Type} {step:σ→Option (σ ⊕ Ex τ β)} (g:Nat→σ) (n:Nat) (p:Nat→Bool) (b:Nat→β) {t:τ} (h:∀ k,k<n→step (g k)=some (bif p k then .inr (.ret (b k)) else .inl (g (k+1)))) (he:step (g n)=some (.inr (.out t))) :
    loopO step (g 0)=some (match (List.range n).find? p with | some k=>.ret (b k) | none=>.out t):=by
  have key:∀ (m k:Nat),k+m=n→loopO step (g k)=some (match (List.range' k m).find? p with | some k=>.ret (b k) | none=>.out t):=by
    intro m
    induction m with
    | zero => intro k hk;have:k=n:=by omega
              rw [this,loopO_eq,he];simp
    | succ m ih =>
      intro k hk
      rw [loopO_eq,h k (by omega),List.range'_succ,List.find?_cons]
      cases hp:p k
      · simp only [cond_false]
        exact ih (k+1) (by omega)
      · simp
  have:=key n 0 (by omega)
  rwa [← List.range_eq_range'] at this
theorem any_range {α:Type} (l:List α) (z:α) (q:α→Bool):(List.range l.length).any (fun k=>q (l.getD k z))=l.any q:=by
  have:=all_range l z (fun x=>!q x)
  rw [List.any_eq_not_all_not,List.any_eq_not_all_not,this]
def idxOf {α:Type} (l:List α) (z:α) (p:α→Bool):Int:=match (List.range l.length).find? (fun k=>p (l.getD k z)) with | some k=>(k:Int) | none=>-1
theorem idxOf_any {α:Type} (l:List α) (z:α) (p:α→Bool):decide (idxOf l z p ≥ 0)=l.any p:=by
  rw [← any_range l z p]
  unfold idxOf
  cases h:(List.range l.length).find? (fun k=>p (l.getD k z)) with
  | none =>
    rw [List.find?_eq_none] at h
    have:(List.range l.length).any (fun k=>p (l.getD k z))=false:=by
      rw [List.any_eq_false];exact h
    rw [this];rfl
  | some k =>
    have h1:=List.find?_some h
    have h2:=List.mem_of_find?_eq_some h
    have:(List.range l.length).any (fun k=>p (l.getD k z))=true:=List.any_eq_true.2 ⟨k,h2,h1⟩
    rw [this];simp
theorem getD_mem {α:Type} {l:List α} {k:Nat} (h:k<l.length) (z:α):l.getD k z∈l:=by rw [getD_lt h];exact List.getElem_mem h
/-! Lists whose elements are marked one by one. -/
def mkL {α:Type} (x:List α) (z:α) (F:Int→α→α) (c k:Int):List α:=(List.range x.length).map (fun j:Nat=>F (k+c*(j:Int)) (x.getD j z))
theorem mkL_len {α:Type} (x:List α) (z:α) (F:Int→α→α) (c k:Int):(mkL x z F c k).length=x.length:=by simp [mkL]
theorem mkL_getD {α:Type} (x:List α) (z:α) (F:Int→α→α) (c k:Int) {i:Nat} (h:i<x.length):(mkL x z F c k).getD i z=F (k+c*i) (x.getD i z):=by
  rw [getD_lt (by rw [mkL_len];exact h)];simp only [mkL,List.getElem_map,List.getElem_range]
def mkU {α:Type} (x:List α) (z:α) (F:Int→α→α) (c k:Int) (i:Nat):List α:=(List.range x.length).map (fun j:Nat=>if j<i then F (k+c*(j:Int)) (x.getD j z) else x.getD j z)
theorem mkU_zero {α:Type} (x:List α) (z:α) (F:Int→α→α) (c k:Int):mkU x z F c k 0=x:=by
  apply List.ext_getElem (by simp [mkU])
  intro i h1 h2
  simp only [mkU,List.getElem_map,List.getElem_range]
  rw [if_neg (by omega),getD_lt h2]
theorem mkU_all {α:Type} (x:List α) (z:α) (F:Int→α→α) (c k:Int):mkU x z F c k x.length=mkL x z F c k:=by
  apply List.ext_getElem (by simp [mkU,mkL])
  intro i h1 h2
  have:i<x.length:=by simpa [mkL] using h2
  simp only [mkU,mkL,List.getElem_map,List.getElem_range]
  rw [if_pos this]
theorem mkU_len {α:Type} (x:List α) (z:α) (F:Int→α→α) (c k:Int) (i:Nat):(mkU x z F c k i).length=x.length:=by simp [mkU]
theorem mkU_getD {α:Type} (x:List α) (z:α) (F:Int→α→α) (c k:Int) {i:Nat} (h:i<x.length):(mkU x z F c k i).getD i z=x.getD i z:=by
  rw [getD_lt (by rw [mkU_len];exact h)];simp only [mkU,List.getElem_map,List.getElem_range];rw [if_neg (by omega)]
theorem mkU_set {α:Type} (x:List α) (z:α) (F:Int→α→α) (c k:Int) {i:Nat} (h:i<x.length):(mkU x z F c k i).set i (F (k+c*i) (x.getD i z))=mkU x z F c k (i+1):=by
  apply List.ext_getElem (by simp [mkU])
  intro j h1 h2
  have hj:j<x.length:=by simpa [mkU] using h2
  rw [List.getElem_set]
  simp only [mkU,List.getElem_map,List.getElem_range]
  by_cases e:i=j
  · subst e;rw [if_pos rfl,if_pos (by omega)]
  · rw [if_neg e]
    by_cases h3:j<i
    · rw [if_pos h3,if_pos (by omega)]
    · rw [if_neg h3,if_neg (by omega)]
theorem mark_gen {α ρ:Type} (x:List α) (z:α) (F:Int→α→α) (c k:Int) (step:List α×Int×Int→Option ((List α×Int×Int) ⊕ Ex (List α×Int) ρ)) (hc:0≤c)
    (hstep:∀ (i:Nat) (u:List α) (q:Int),i<x.length→u.length=x.length→u.getD i z=x.getD i z→k≤q→q≤k+c*x.length→step (u,q,(i:Int))=some (.inl (u.set i (F q (x.getD i z)),q+c,((i+1:Nat):Int))))
    (hend:∀ u q,step (u,q,(x.length:Int))=some (.inr (.out (u,q)))):loopO step (x,k,0)=some (.out (mkL x z F c k,k+c*x.length)):=by
  have:=loopO_run (step:=step) (fun i=>(mkU x z F c k i,k+c*i,(i:Int))) x.length (r:=.out (mkL x z F c k,k+c*x.length)) (fun i hi=>by
    have hb:c*(i:Int)≤c*(x.length:Int):=Int.mul_le_mul_of_nonneg_left (by omega) hc
    have hb0:0≤c*(i:Int):=Int.mul_nonneg hc (by omega)
    rw [hstep i _ _ hi (mkU_len ..) (mkU_getD x z F c k hi) (by omega) (by omega),mkU_set x z F c k hi]
    have:k+c*((i+1:Nat):Int)=k+c*(i:Int)+c:=by rw [Int.natCast_add,Int.mul_add];omega
    rw [this]) (by rw [mkU_all,hend])
  rw [mkU_zero] at this
  simpa using this
theorem held_gen {α ρ:Type} (y:List α) (c k:Int) (step:Int×Int→Option ((Int×Int) ⊕ Ex Int ρ)) (hc:0≤c)
    (hstep:∀ (i:Nat),i<y.length→k+c*i≤k+c*y.length→k≤k+c*i→step (k+c*i,(i:Int))=some (.inl (k+c*i+c,((i+1:Nat):Int))))
    (hend:∀ q,step (q,(y.length:Int))=some (.inr (.out q))):loopO step (k,0)=some (.out (k+c*y.length)):=by
  have:=loopO_run (step:=step) (fun i=>(k+c*i,(i:Int))) y.length (r:=.out (k+c*y.length)) (fun i hi=>by
    have hb:c*(i:Int)≤c*(y.length:Int):=Int.mul_le_mul_of_nonneg_left (by omega) hc
    have hb0:0≤c*(i:Int):=Int.mul_nonneg hc (by omega)
    rw [hstep i hi (by omega) (by omega)]
    have:k+c*((i+1:Nat):Int)=k+c*(i:Int)+c:=by rw [Int.natCast_add,Int.mul_add];omega
    rw [this]) (by rw [hend])
  simpa using this
theorem getD_set_self {α:Type} (u:List α) (z a:α) {i:Nat} (h:i<u.length):(u.set i a).getD i z=a:=by
  rw [getD_lt (by simpa using h)];simp
theorem bs_self (a:ByteArray):(a.toList==a.toList)=true:=by simp
/-! Lists of lists that are marked. -/
/-! Bytes. -/
def isB (l:List Int):Prop:=∀ b,b∈l→0≤b∧b≤255
theorem bytesOf_isB (s:ByteArray):isB (bytesOf s):=by
  intro b hb
  simp only [bytesOf,List.mem_map] at hb
  obtain ⟨x,_,rfl⟩:=hb
  have:=x.toNat_lt
  omega
theorem bytes_str {l:List Int} (h:isB l):bytesOf (strOfNums l)=l:=by
  unfold bytesOf
  rw [strOfNums_data,List.map_map]
  conv=>rhs;rw [← List.map_id l]
  apply List.map_congr_left
  intro x hx
  obtain ⟨h1,h2⟩:=h x hx
  have:(UInt8.ofNat x.toNat).toNat=x.toNat:=by rw [UInt8.toNat_ofNat'];omega
  show ((UInt8.ofNat x.toNat).toNat:Int)=x
  rw [this];omega
theorem ba_ext {a b:ByteArray} (h:bytesOf a=bytesOf b):a=b:=by
  have:a.data.toList=b.data.toList:=by
    unfold bytesOf at h
    have hinj:∀ (l m:List UInt8),l.map (fun b=>(b.toNat:Int))=m.map (fun b=>(b.toNat:Int))→l=m:=by
      intro l
      induction l with
      | nil=>intro m h;cases m with | nil=>rfl | cons _ _=>simp at h
      | cons x r ih =>
        intro m h
        cases m with
        | nil=>simp at h
        | cons y q =>
          simp only [List.map_cons,List.cons.injEq] at h
          have e1:x.toNat=y.toNat:=by omega
          rw [ih q h.2,UInt8.toNat_inj.1 e1]
    exact hinj _ _ h
  cases a;cases b
  congr 1
  exact Array.ext' this
theorem str_bytes (s:ByteArray):strOfNums (bytesOf s)=s:=ba_ext (bytes_str (bytesOf_isB s))
theorem byteAt_eq (s:ByteArray) (i:Int) (h0:0≤i) (h1:i<(s.size:Int)):byteAt s i=(bytesOf s).getD i.toNat 0:=by
  have hl:i.toNat<(bytesOf s).length:=by rw [bytesOf_len];omega
  rw [getD_lt hl]
  have:i.toNat<s.size:=by omega
  simp [byteAt,this,bytesOf]
  rfl
theorem bytesOf_append (a b:ByteArray):bytesOf (a++b)=bytesOf a++bytesOf b:=by
  simp [bytesOf]
theorem getD_isB {l:List Int} (h:isB l) (i:Nat):0≤l.getD i 0∧l.getD i 0≤255:=by
  by_cases hi:i<l.length
  · rw [getD_lt hi];exact h _ (List.getElem_mem hi)
  · rw [List.getD_eq_getElem?_getD,List.getElem?_eq_none (by omega)];simp
def SrcB (code:List Int) (a s B:Int):Prop:=code.length≤1048576∧isB code∧0≤a∧a≤B∧0≤s∧s<2147483648
theorem SrcB.up {code:List Int} {a s B C:Int} (h:SrcB code a s B) (hc:B≤C):SrcB code a s C:=⟨h.1,h.2.1,h.2.2.1,by have:=h.2.2.2.1;omega,h.2.2.2.2⟩
/-! Words of bytes. -/
theorem nat_or_add (a c k:Nat) (h:a<2 ^ k):a ||| (c*2 ^ k)=a+c*2 ^ k:=by
  have:=Nat.two_pow_add_eq_or_of_lt h c
  rw [Nat.or_comm,Nat.mul_comm c,← this,Nat.add_comm]
theorem or_nat (w a c K k:Nat) (hK:K=2 ^ k) (h:a<K) (hw:a+c*K<2 ^ w):(BitVec.ofInt w (a:Int) ||| BitVec.ofInt w ((c*K:Nat):Int)).toNat=a+c*K:=by
  subst hK
  rw [BitVec.toNat_or,BitVec.ofInt_natCast,BitVec.ofInt_natCast,BitVec.toNat_ofNat,BitVec.toNat_ofNat,Nat.mod_eq_of_lt (by omega),Nat.mod_eq_of_lt (by omega),nat_or_add a c k h]
theorem or32 (K k:Nat) (hK:K=2 ^ k) {x y:Int} (z:Int) (hx:0≤x) (hx2:x<(K:Int)) (hz:0≤z) (hy:y=z*(K:Int)) (hb:x+y<4294967296):IntKind.wrap .u32 ((BitVec.ofInt 32 x ||| BitVec.ofInt 32 y).toNat:Int)=x+y:=by
  obtain ⟨a,rfl⟩:=Int.eq_ofNat_of_zero_le hx
  obtain ⟨c,rfl⟩:=Int.eq_ofNat_of_zero_le hz
  have e1:y=((c*K:Nat):Int):=by rw [hy,Int.natCast_mul]
  subst e1
  have h32:(2:Nat) ^ 32=4294967296:=by decide
  have:=or_nat 32 a c K k hK (by omega) (by rw [h32];omega)
  rw [this]
  show ((a+c*K:Nat):Int) % 4294967296=_
  omega
theorem or64 (K k:Nat) (hK:K=2 ^ k) {x y:Int} (z:Int) (hx:0≤x) (hx2:x<(K:Int)) (hz:0≤z) (hy:y=z*(K:Int)) (hb:x+y<4294967296):IntKind.wrap .i64 ((BitVec.ofInt 64 x ||| BitVec.ofInt 64 y).toNat:Int)=x+y:=by
  obtain ⟨a,rfl⟩:=Int.eq_ofNat_of_zero_le hx
  obtain ⟨c,rfl⟩:=Int.eq_ofNat_of_zero_le hz
  have e1:y=((c*K:Nat):Int):=by rw [hy,Int.natCast_mul]
  subst e1
  have h64:(2:Nat) ^ 64=18446744073709551616:=by decide
  have:=or_nat 64 a c K k hK (by omega) (by rw [h64];omega)
  rw [this]
  have:IntKind.wrap .i64 ((a+c*K:Nat):Int)=((a+c*K:Nat):Int):=w64_id (by omega) (by omega)
  rw [this];omega
theorem bytesOf_extract (s:ByteArray) (a b:Nat):bytesOf (s.extract a b)=((bytesOf s).drop a).take (b-a):=by
  unfold bytesOf
  rw [ByteArray.data_extract,Array.toList_extract]
  simp [List.extract,List.map_drop,List.map_take]
/-- The word of four bytes from place 4 j on, the lowest first. -/
def wd (l:List Int) (j:Nat):Int:=l.getD (4*j) 0+l.getD (4*j+1) 0*256+l.getD (4*j+2) 0*65536+l.getD (4*j+3) 0*16777216
/-! Two readers of one list of words: one turns bad, the other one reads on. -/
def nI (L:List Int) (lo hi:Int) (s:Nat×Bool):Int×(Nat×Bool):=if s.2=true then (0,s) else if s.1<L.length∧inB (L.getD s.1 0) lo hi=true then (L.getD s.1 0,(s.1+1,false)) else (0,(s.1,true))
def nS (L:List Int) (q:Nat):Int×Nat:=if q<L.length then (L.getD q 0,q+1) else (-1,q)
def rep {σ α:Type} (f:σ→α×σ):Nat→σ→List α×σ
  | 0,s=>([],s)
  | n+1,s=>((rep f n s).1++[(f (rep f n s).2).1],(f (rep f n s).2).2)
structure RPair {α:Type} (L:List Int) (fI:Nat×Bool→α×(Nat×Bool)) (fS:Nat→α×Nat) (ok:α→Bool):Prop where
  le:∀ s:Nat×Bool,s.1≤L.length→(fI s).2.1≤L.length
  bad:∀ p:Nat,(fI (p,true)).2.2=true
  good:∀ p:Nat,p≤L.length→((fI (p,false)).2.2=false∧(fI (p,false)).1=(fS p).1∧(fI (p,false)).2.1=(fS p).2∧ok (fS p).1=true)∨((fI (p,false)).2.2=true∧ok (fS p).1=false)
theorem RPair.base (L:List Int) (lo hi:Int) (h0:0≤lo):RPair L (nI L lo hi) (nS L) (fun x=>inB x lo hi):=by
  refine ⟨fun s hs=>?_,fun p=>rfl,fun p hp=>?_⟩
  · unfold nI
    split
    · exact hs
    · split
      · rename_i h;simp only;omega
      · exact hs
  · unfold nI nS
    rw [if_neg (by simp)]
    by_cases h:p<L.length
    · rw [if_pos h]
      by_cases h2:inB (L.getD p 0) lo hi=true
      · rw [if_pos ⟨h,h2⟩];exact .inl ⟨rfl,rfl,rfl,h2⟩
      · rw [if_neg (fun q=>h2 q.2)];exact .inr ⟨rfl,by simpa using h2⟩
    · rw [if_neg h,if_neg (fun q=>h q.1)]
      refine .inr ⟨rfl,?_⟩
      cases hh:inB (-1) lo hi with
      | false=>rfl
      | true=>have:=inB_iff.1 hh;omega
theorem RPair.seq {α β γ:Type} {L:List Int} {fI:Nat×Bool→α×(Nat×Bool)} {fS:Nat→α×Nat} {okA:α→Bool} {gI:Nat×Bool→β×(Nat×Bool)} {gS:Nat→β×Nat} {okB:β→Bool} (h:RPair L fI fS okA) (k:RPair L gI gS okB) (mk:α→β→γ) (ok:γ→Bool) (ho:∀ a b,ok (mk a b)=(okA a && okB b)) :
    RPair L (fun s=>(mk (fI s).1 (gI (fI s).2).1,(gI (fI s).2).2)) (fun q=>(mk (fS q).1 (gS (fS q).2).1,(gS (fS q).2).2)) ok:=by
  refine ⟨fun s hs=>k.le _ (h.le s hs),fun p=>?_,fun p hp=>?_⟩
  · have:=h.bad p
    show (gI (fI (p,true)).2).2.2=true
    generalize (fI (p,true)).2=s at this ⊢
    obtain ⟨a,b⟩:=s
    simp only at this
    subst this
    exact k.bad a
  · simp only [ho]
    have hle:=h.le (p,false) hp
    rcases h.good p hp with ⟨g1,g2,g3,g4⟩ | ⟨g1,g2⟩
    · generalize (fI (p,false))=r at g1 g2 g3 hle ⊢
      obtain ⟨u,a,b⟩:=r
      simp only at g1 g2 g3 hle
      subst g1 g2 g3
      rcases k.good _ hle with ⟨k1,k2,k3,k4⟩ | ⟨k1,k2⟩
      · exact .inl ⟨k1,by rw [k2],k3,by simp [g4,k4]⟩
      · exact .inr ⟨k1,by simp [k2]⟩
    · refine .inr ⟨?_,by simp [g2]⟩
      generalize (fI (p,false)).2=s at g1 ⊢
      obtain ⟨a,b⟩:=s
      simp only at g1
      subst g1
      exact k.bad a
/-! Texts as lists. -/
theorem str_append (a b:List Int):strOfNums (a++b)=strOfNums a++strOfNums b:=by
  unfold strOfNums
  rw [List.map_append]
  cases h:(List.map (fun n:Int=>UInt8.ofNat n.toNat) a).toArray
  apply ByteArray.ext
  simp [← h]
/-! Words as bytes. -/
def by4 (x:Int) (k:Nat):Int:=IntKind.wrap .u8 (Int.fdiv x (2 ^ (8*k)))
def bytes4 (x:Int):List Int:=(List.range 4).map (by4 x)
def textL (l:List Int):List Int:=l.flatMap bytes4
theorem bytes4_len (x:Int):(bytes4 x).length=4:=by simp [bytes4]
theorem bytes4_eq (x:Int):bytes4 x=[IntKind.wrap .u8 x,IntKind.wrap .u8 (Int.fdiv x (2 ^ 8)),IntKind.wrap .u8 (Int.fdiv x (2 ^ 16)),IntKind.wrap .u8 (Int.fdiv x (2 ^ 24))]:=by
  have h:Int.fdiv x 1=x:=by rw [Int.fdiv_eq_ediv_of_nonneg _ (by decide)];omega
  show [IntKind.wrap .u8 (Int.fdiv x 1),IntKind.wrap .u8 (Int.fdiv x (2 ^ 8)),IntKind.wrap .u8 (Int.fdiv x (2 ^ 16)),IntKind.wrap .u8 (Int.fdiv x (2 ^ 24))]=_
  rw [h]
theorem textL_snoc (l:List Int) (x:Int):textL (l++[x])=textL l++bytes4 x:=by simp [textL]
theorem textL_len (l:List Int):(textL l).length=4*l.length:=by
  induction l with
  | nil=>rfl
  | cons a l ih =>
    show (bytes4 a++textL l).length=_
    rw [List.length_append,bytes4_len,ih,List.length_cons];omega
theorem take_snoc {α:Type} (l:List α) (k:Nat) (hk:k<l.length) (z:α):l.take (k+1)=l.take k++[l.getD k z]:=by
  rw [List.take_add_one,List.getD_eq_getElem?_getD,List.getElem?_eq_getElem hk];rfl
theorem loopO_next {σ ρ:Type} {step:σ→Option (σ ⊕ ρ)} {s s':σ} (h:step s=some (.inl s')):loopO step s=loopO step s':=by rw [loopO_eq,h]
theorem loopO_stop {σ ρ:Type} {step:σ→Option (σ ⊕ ρ)} {s:σ} {r:ρ} (h:step s=some (.inr r)):loopO step s=some r:=by rw [loopO_eq,h]
/-! The way to a leaf. -/
end Go.Proofs.YteklgnhfgdhdiaaGreat
