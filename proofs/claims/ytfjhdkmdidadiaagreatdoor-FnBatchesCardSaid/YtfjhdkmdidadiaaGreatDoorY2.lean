/- What strconv and strings look into, as a chunk. No conditions of its own. -/
import Derived.Test.YtfjhdkmdidadiaaGreatDoorY1
import Derived.WideLaws
import Derived.Shelf.LaysC
import Derived.Shelf.Strconv.ErrVarAll
import Derived.Shelf.Strings.Split
import Derived.Lib.AtoiErrMem
import Derived.Lib.SplitLaws
import Derived.Shelf.Vars
import Derived.Deep.DeepWitnessRowRef
import Derived.LaidMore
namespace Go.Z
open Go Go.RowKit Go.Sort
/-- A package variable that holds what is right lies in this chunk. -/
def VarK (P : Program) (n : String) (ok : Array Value → Prop) (c : Chunk) : Prop := ∀ w, Has w c → ∃ v, w.var? P n = some v ∧ ok v
structure TabR (P : Program) (c : Chunk) : Prop where
  pow : TabK P c
  mx : VarK P "internal/bytealg.MaxLen" (fun v => ∃ m, v[0]? = some (.int .i64 m)) c
  es : VarK P "strconv.ErrSyntax" (fun v => ∃ tp p, v = #[.iface tp p]) c
  er : VarK P "strconv.ErrRange" (fun v => ∃ tp p, v = #[.iface tp p]) c
theorem varK_heap {P : Program} {W : World} {n : String} {ok : Array Value → Prop} {v : Array Value} (h : W.var? P n = some v) (hv : ok v) : VarK P n ok (heapC W) := by
  intro w hw
  refine ⟨v, ?_, hv⟩
  unfold World.var? at h ⊢
  cases hg : P.globalNamed n with
  | none => rw [hg] at h; cases h
  | some g =>
    rw [hg] at h
    simp only [Option.bind_some] at h ⊢
    cases ho : W.heap[g]? with
    | none => rw [ho] at h; cases h
    | some o =>
      have := hw _ (heapC_mem ho)
      simp only at this
      rw [this]; rw [ho] at h; exact h
theorem var_of_cell {P : Program} {W : World} {n : String} {g : Nat} {u : Value} (hg : P.globalNamed n = some g) (h : W.cell? ⟨g, 0, none⟩ = some u) : ∃ v, W.var? P n = some v ∧ v[0]? = some u := by
  unfold World.var?
  rw [hg]
  simp only [Option.bind_some]
  unfold World.cell? at h
  cases ho : W.heap[g]? with
  | none => simp [ho] at h
  | some o =>
    cases o <;> simp [ho] at h
    exact ⟨_, rfl, h⟩
/-- An error value, and whether it is none. -/
def IfB (e : Value) (b : Bool) : Prop := (b = true ∧ e = .nilIface) ∨ (b = false ∧ ∃ t p, e = .iface t p)
section steps
variable {P : Program} {ops : List Oper} {Q : Exit → Act → World → Prop} {o : Oper} {rest : List Oper} {a : Act} {w w' : World} {σ : List (Nat × Value)} {n d : Nat} {v : Value}
/-- A LOOK WHETHER AN ERROR IS NONE. -/
theorem sifn {ty ty' : TypeId} {x : Operand} {e : Value} {b : Bool} (hI : IfB e b) (ho : o.op = .binOp .eql ty x (.const .nilIface) ty') (hk : Kn σ n a) (hd : o.dst = some d) (hx : rho? σ x = some e) (hc : chk ops n σ o d = true) (ht : P.underlying ty = some (.interface (P.methodsAt ty)))
    (next : ∀ a, Kn ((d, .bool b) :: σ) n a → wpList P ops.toArray Q rest a w) : wpList P ops.toArray Q (o :: rest) a w := by
  refine sv (.bool b) hk hd hc ?_ next
  have hy : rho σ (.const .nilIface) = .nilIface := rfl
  rcases hI with ⟨rfl, rfl⟩ | ⟨rfl, t, p, rfl⟩
  · have h : (Op.equal ty .nilIface .nilIface).run P w = .ok true w := run_equalIn_nil_nil w 9999 ty ht
    simp only [execOp, ho, rho?_eq hx, hy, Sem.run_bind, eqGuard, binOp, Bool.not_true, Bool.false_eq_true, if_false, Sem.run_pure]
    simp [h]
  · have h := run_equal_held_nil (P := P) w ty t p ht
    simp only [execOp, ho, rho?_eq hx, hy, Sem.run_bind, eqGuard, binOp, Bool.not_true, Bool.false_eq_true, if_false, Result.andThen_ok, h, Sem.run_pure]
end steps
theorem allown_str : ∀ xs : List ByteArray, AllOwn Lay.str xs (xs.map fun x => [.string x]) []
  | [] => .nil
  | _ :: r => AllOwn.cons0 ⟨rfl, rfl⟩ (allown_str r)
theorem own_strs {E : TypeId} {b : Nat} (xs : List ByteArray) (h : xs.length ≤ maxLen) : Own Lay.str E (some ⟨b, 0, none⟩) xs.length xs [(b, .cells (xs.map Value.string).toArray E (0, 0))] := by
  refine .inr ⟨b, rfl, _, xs.map fun x => [.string x], [], rfl, allown_str xs, ?_, ?_, Nat.le_refl _, h⟩
  · rw [flatten_single, List.toList_toArray]
    apply List.take_of_length_le
    rw [List.length_map]; show _ ≤ xs.length * 1; omega
  · rw [List.size_toArray, List.length_map]; show _ = xs.length * 1; omega
theorem bytesWorld_sat (w : World) (e : TypeId) (t : ByteArray) : Sat [] w (Lib.bytesWorld w e t) [] [] := Sat.ofBelow (Lib.bytesWorld_below w e t)
end Go.Z
