/- Lemmas for walks: frames known by slots, heaps known by chunks. No conditions of its own. -/
import Derived.Test.YteklgnhfgdhdiaaGreatZ5
import Derived.Conc.MuLone
namespace Go.Z
set_option linter.unusedVariables false
set_option linter.unusedSimpArgs false
open Go Go.RowKit
theorem Kn.lit {σ n a} {b l:Bool} (h:Kn σ n a) (t:Nat) (hb:b=l) (ht:look σ t=some (.bool b)):Kn ((t,.bool l) :: σ) n a :=
  ⟨h.defers,h.size,fun s u hs=>by
    simp only [look] at hs
    by_cases e:t=s
    · subst e;rw [if_pos (by simp)] at hs;cases hs;subst hb;exact h.slot t _ ht
    · rw [if_neg (fun h=>e (Nat.eq_of_beq_eq_true h))] at hs;exact h.slot s u hs⟩
/-- A slice of the call's own. -/
def Own {α:Type} (L:Lay α) (E:TypeId) (A:Option Addr) (cap:Nat) (xs:List α) (c:Chunk):Prop :=
  (A=none∧cap=0∧xs=[]∧c=[])∨∃ b,A=some ⟨b,0,none⟩∧Row L E b cap xs c
theorem Own.view {α:Type} {L:Lay α} {E:TypeId} {A:Option Addr} {cap:Nat} {xs:List α} {c:Chunk} (h:Own L E A cap xs c):View L A cap xs c:=by
  rcases h with ⟨rfl,rfl,rfl,rfl⟩ | ⟨b,rfl,h⟩
  · exact ⟨Nat.le_refl _,Nat.zero_le _,fun i x hx=>by simp at hx⟩
  · exact h.view
theorem Own.nil {α:Type} (L:Lay α) (E:TypeId):Own L E none 0 [] []:=.inl ⟨rfl,rfl,rfl,rfl⟩
theorem View.nil {α:Type} (L:Lay α):View L none 0 [] []:=(Own.nil L 0).view
theorem Has.nil (w:World):Has w []:=fun _ h=>by simp at h

section
variable {P:Program} {w:World}
theorem run_cvi {o:Oper} {σ:List (Nat×Value)} {st dt:TypeId} {x:Operand} {k k':IntKind} {n:Int} {ds:TypeDesc} (ht:P.underlying dt=some (.int k)) (hs:P.underlying st=some ds) (hx:rho? σ x=some (.int k' n)) (ho:o.op = .convert st dt x) :
    (execOp (rho σ) o).run P w = .ok (.value (.int k (k.wrap n))) w:=by
  simp only [execOp,ho,rho?_eq hx,convert,Sem.run_bind,run_underlying ht,run_underlying hs,Result.andThen_ok]
  cases ds <;> rfl
theorem run_len {t ty e:TypeId} {A:Option Addr} {n c:Nat} (ht:P.underlying t=some (.slice e)):(Builtin.len_ #[t] ty #[.slice A n c]).run P w = .ok (.int .i64 n) w:=by
  simp [Builtin.len_,run_underlying ht,goInt]
theorem run_lens {t ty:TypeId} {s:ByteArray} (ht:P.underlying t=some .string):(Builtin.len_ #[t] ty #[.string s]).run P w = .ok (.int .i64 s.size) w:=by
  simp [Builtin.len_,run_underlying ht,goInt]
end
section steps
variable {P:Program} {ops:List Oper} {Q:Exit→Act→World→Prop} {o:Oper} {rest:List Oper} {a:Act} {w w':World} {σ:List (Nat×Value)} {n d:Nat} {v:Value} {M:List Nat} {w0:World} {Δ Γ:List (Nat×Chunk)}
/-- len OF A SLICE; OF A STRING. -/
theorem sle {t e:TypeId} {x:Operand} {A:Option Addr} {m c:Nat} (ho:o.op = .call ⟨.builtin .len,#[x],#[t]⟩) (hk:Kn σ n a) (hd:o.dst=some d) (hx:rho? σ x=some (.slice A m c)) (hc:chk ops n σ o d=true) (ht:P.underlying t=some (.slice e))
    (next:∀ a,Kn ((d,.int .i64 m) :: σ) n a→wpList P ops.toArray Q rest a w):wpList P ops.toArray Q (o :: rest) a w :=
  sv _ hk hd hc (by simp only [execOp,ho,resolve,invoke,builtin,List.map_toArray,List.map_cons,List.map_nil,rho?_eq hx,Sem.run_bind,Sem.run_pure,Result.andThen_ok,run_len ht]) next
theorem sles {t:TypeId} {x:Operand} {s:ByteArray} (ho:o.op = .call ⟨.builtin .len,#[x],#[t]⟩) (hk:Kn σ n a) (hd:o.dst=some d) (hx:rho? σ x=some (.string s)) (hc:chk ops n σ o d=true) (ht:P.underlying t=some .string)
    (next:∀ a,Kn ((d,.int .i64 s.size) :: σ) n a→wpList P ops.toArray Q rest a w):wpList P ops.toArray Q (o :: rest) a w :=
  sv _ hk hd hc (by simp only [execOp,ho,resolve,invoke,builtin,List.map_toArray,List.map_cons,List.map_nil,rho?_eq hx,Sem.run_bind,Sem.run_pure,Result.andThen_ok,run_lens ht]) next
/-- A CONVERSION BETWEEN INTEGERS. -/
theorem scn {st dt:TypeId} {x:Operand} {k k':IntKind} {i:Int} {ds:TypeDesc} (ho:o.op = .convert st dt x) (hk:Kn σ n a) (hd:o.dst=some d) (hx:rho? σ x=some (.int k' i)) (hc:chk ops n σ o d=true) (ht:P.underlying dt=some (.int k)) (hs:P.underlying st=some ds)
    (next:∀ a,Kn ((d,.int k (k.wrap i)) :: σ) n a→wpList P ops.toArray Q rest a w):wpList P ops.toArray Q (o :: rest) a w :=
  sv _ hk hd hc (run_cvi ht hs hx ho) next
/-- + OF STRINGS. -/
theorem ssa {ty ty':TypeId} {x y:Operand} {s u:ByteArray} (ho:o.op = .binOp .add ty x y ty') (hk:Kn σ n a) (hd:o.dst=some d) (hx:rho? σ x=some (.string s)) (hy:rho? σ y=some (.string u)) (hc:chk ops n σ o d=true) (hl:s.size+u.size≤1152921504606846976)
    (next:∀ a,Kn ((d,.string (s++u)) :: σ) n a→wpList P ops.toArray Q rest a w):wpList P ops.toArray Q (o :: rest) a w :=
  sv _ hk hd hc (by
    have h1:¬ (((s.size+u.size:Nat):Int)>IntKind.i64.max):=by simp only [IntKind.max,IntKind.signed,IntKind.bits];omega
    simp only [execOp,ho,rho?_eq hx,rho?_eq hy,Sem.run_bind,eqGuard,binOp,Op.stringOp,if_neg h1,Sem.run_pure,Result.andThen_ok]
    rfl) next
theorem run_eqb {t:TypeId} {x y:Bool} (ht:P.underlying t=some .bool):(Op.equal t (.bool x) (.bool y)).run P w = .ok (x==y) w:=by
  show (Op.equalIn (9999+1) t (.bool x) (.bool y)).run P w=_
  unfold Op.equalIn
  simp only [Sem.run_bind,run_underlying ht,Result.andThen_ok,Sem.run_pure]
theorem sbn {t t':TypeId} {x y:Operand} {p q:Bool} (ho:o.op = .binOp .neq t x y t') (hk:Kn σ n a) (hd:o.dst=some d) (hx:rho? σ x=some (.bool p)) (hy:rho? σ y=some (.bool q)) (hc:chk ops n σ o d=true) (ht:P.underlying t=some .bool)
    (next:∀ a,Kn ((d,.bool (!(p==q))) :: σ) n a→wpList P ops.toArray Q rest a w):wpList P ops.toArray Q (o :: rest) a w :=
  sv _ hk hd hc (by
    simp only [execOp,ho,rho?_eq hx,rho?_eq hy,Sem.run_bind,eqGuard,binOp,Bool.not_true,Bool.false_eq_true,if_false,Result.andThen_ok,run_eqb ht,Sem.run_pure]) next
/-- min AND max OF TWO. -/
theorem smn {ts:Array TypeId} {x y:Operand} {k k':IntKind} {p q:Int} (ho:o.op = .call ⟨.builtin .min,#[x,y],ts⟩) (hk:Kn σ n a) (hd:o.dst=some d) (hx:rho? σ x=some (.int k p)) (hy:rho? σ y=some (.int k' q)) (hc:chk ops n σ o d=true)
    (next:∀ a,Kn ((d,.int k (if q<p then q else p)) :: σ) n a→wpList P ops.toArray Q rest a w):wpList P ops.toArray Q (o :: rest) a w :=
  sv _ hk hd hc (by simp only [execOp,ho,resolve,invoke,builtin,List.map_toArray,List.map_cons,List.map_nil,rho?_eq hx,rho?_eq hy,Sem.run_bind,Sem.run_pure,Result.andThen_ok,Builtin.min_,List.foldlM,Builtin.min2]) next
end steps
section
variable {M:List Nat} {w0 w:World} {Δ Γ:List (Nat×Chunk)}
theorem Sat.dnil (h:Sat M w0 w Δ Γ):Sat M w0 w [] Γ:=h.dpick [] rfl
def rek:List (Nat×Chunk)→List Nat→Option (List (Nat×Chunk))
  | [],[]=>some []
  | (_,c) :: r,k :: ks=>match rek r ks with | some q=>some ((k,c) :: q) | none=>none
  | _,_=>none
theorem rek_snd:∀ (A:List (Nat×Chunk)) (ks:List Nat) (B:List (Nat×Chunk)),rek A ks=some B→B.map Prod.snd=A.map Prod.snd
  | [],[],B,h=>by cases h;rfl
  | [],k :: ks,B,h=>by simp [rek] at h
  | (_,c) :: r,[],B,h=>by simp [rek] at h
  | (_,c) :: r,k :: ks,B,h=>by
    unfold rek at h
    split at h
    · rename_i q hq;cases h;simp [rek_snd r ks q hq]
    · cases h
theorem Sat.call0k (h:Sat M w0 w Δ Γ) {w':World} {Δ' Γ' Γ2:List (Nat×Chunk)} (h':Sat [] w w' Δ' Γ') (ks:List Nat) (hr:rek Γ' ks=some Γ2):Sat M w0 w' Δ (Γ2++Γ) :=
  (h.call0 h').rekey rfl (by simp [rek_snd _ _ _ hr])
end
end Go.Z
