/- Lemmas for walks: frames known by slots, heaps known by chunks. No conditions of its own. -/
import Derived.Test.YteklgnhfgdhdiaaZ17
import Derived.Lib.Bytealg
namespace Go.Z
set_option linter.unusedVariables false
set_option linter.unusedSimpArgs false
open Go Go.RowKit
section
variable {M : List Nat} {w0 w : World} {Δ Γ : List (Nat × Chunk)}
/-- The slice within an element of an own row is taken out: to be handed to a call that writes it. -/
theorem Own.elemS {α β : Type} {L : Lay α} {Lb : Lay β} {E Eb : TypeId} {A A' : Option Addr} {cap p' n k : Nat} {xs : List α} {c : Chunk} {i : Int} {ys : List β} (kd off : Nat) (z : α) (upd : List β → α)
    (hs : Sat M w0 w Δ Γ) (hk : kget Γ k = some c) (h : Own L E A cap xs c) (h0 : 0 ≤ i) (h1 : i < xs.length)
    (hcell : CellIn c (padd A (i.toNat * L.size + off)).block (padd A (i.toNat * L.size + off)).off (.slice A' n p'))
    (hel : ∀ es d, L.own (xs.getD i.toNat z) es d → ∃ A1 p1, es[off]? = some (.slice A1 ys.length p1) ∧ Own Lb Eb A1 p1 ys d ∧ ∀ ys' d', ys'.length = ys.length → Own Lb Eb A1 p1 ys' d' → L.own (upd ys') es d') :
    ∃ d cr, Own Lb Eb A' p' ys d ∧ Sat M w0 w Δ ((k, cr) :: (kd, d) :: kdel Γ k) ∧ ∀ (ys' : List β) (d' : Chunk), ys'.length = ys.length → Own Lb Eb A' p' ys' d' → ∃ c', (d' ++ cr).Perm c' ∧ Own L E A cap (xs.set i.toNat (upd ys')) c' := by
  obtain ⟨es, d, cr, hp, hown, hc, hput⟩ := h.elem z i h0 h1
  obtain ⟨A1, p1, h2, h3, h4⟩ := hel es d hown
  have e1 := (hc off _ h2).cell (hs.hasG hk)
  have e2 := hcell.cell (hs.hasG hk)
  rw [e1] at e2
  simp only [Option.some.injEq, Value.slice.injEq] at e2
  obtain ⟨rfl, _, rfl⟩ := e2
  refine ⟨d, cr, h3, ?_, fun ys' d' hl ho => hput _ d' (h4 ys' d' hl ho)⟩
  have := hs.split k kd (c := cr) (d := d) hk (List.perm_append_comm.trans hp)
  exact this
theorem Sat.putb (hs : Sat M w0 w Δ Γ) (k kd : Nat) {cr d c' : Chunk} (hk : kget Γ k = some cr) (hd : kget (kdel Γ k) kd = some d) (hp : (d ++ cr).Perm c') : Sat M w0 w Δ ((k, c') :: kdel (kdel Γ k) kd) := by
  have h1 := hs.join k hk hd
  have h2 := h1.reorder (k := k) (d := c') (kget_cons _ _ _) (hp.symm.trans List.perm_append_comm)
  simpa [kset] using h2
end
theorem el_sl {β : Type} {Lb : Lay β} {Eb : TypeId} {ys : List β} {es : List Value} {d : Chunk} (h : (Lay.sl Lb Eb).own ys es d) : ∃ A1 p1, es[0]? = some (.slice A1 ys.length p1) ∧ Own Lb Eb A1 p1 ys d ∧ ∀ ys' d', ys'.length = ys.length → Own Lb Eb A1 p1 ys' d' → (Lay.sl Lb Eb).own ys' es d' := by
  obtain ⟨v, rfl, h⟩ := h
  obtain ⟨A, p, rfl, h2⟩ := h.toOwn
  exact ⟨A, p, rfl, h2, fun ys' d' hl h' => ⟨_, rfl, by have := h'.toV; rwa [hl] at this⟩⟩
/-- A slice behind a flat part. -/
theorem el_pair {α β : Type} {K : Lay α} {Lb : Lay β} {Eb : TypeId} {x : α} {ys : List β} {es : List Value} {d : Chunk} (n : Nat) (hn : K.size = n) (hf : ∀ x es d, K.own x es d → d = []) (h : (Lay.pair K (Lay.sl Lb Eb)).own (x, ys) es d) :
    ∃ A1 p1, es[n]? = some (.slice A1 ys.length p1) ∧ Own Lb Eb A1 p1 ys d ∧ ∀ ys' d', ys'.length = ys.length → Own Lb Eb A1 p1 ys' d' → (Lay.pair K (Lay.sl Lb Eb)).own (x, ys') es d' := by
  obtain ⟨a, b, d1, e1, rfl, rfl, h1, h2⟩ := h
  have hd := hf _ _ _ h1
  subst hd
  have hl := K.len _ _ _ (K.ov _ _ _ h1)
  obtain ⟨A, p, h3, h4, h5⟩ := el_sl h2
  refine ⟨A, p, ?_, by simpa using h4, fun ys' d' hq ho => ⟨a, b, [], d', rfl, rfl, h1, h5 ys' d' hq ho⟩⟩
  rw [List.getElem?_append_right (by omega), hl, hn, Nat.sub_self]; exact h3
section steps
variable {P : Program} {ops : List Oper} {Q : Exit → Act → World → Prop} {o : Oper} {rest : List Oper} {a : Act} {w : World} {σ : List (Nat × Value)} {n d : Nat} {v : Value}
/-- A CALL OF WHAT THE MODEL KNOWS BY ITSELF. -/
theorem sce {f : FuncId} {args : Array Operand} {tys : Array TypeId} {vs : List Value} (ho : o.op = .call ⟨.value (.func f), args, tys⟩) (hr : ∀ w, (callFunc f vs.toArray).run P w = .ok (.value v) w)
    (hk : Kn σ n a) (hd : o.dst = some d) (hvs : args.toList.map (rho σ) = vs) (hc : chk ops n σ o d = true) (next : ∀ a, Kn ((d, v) :: σ) n a → wpList P ops.toArray Q rest a w) : wpList P ops.toArray Q (o :: rest) a w := by
  refine sv v hk hd hc ?_ next
  have h2 : Array.map (rho σ) args = vs.toArray := by rw [← hvs]; apply Array.ext'; simp
  simp only [execOp, ho, resolve, h2, Deferred.ofValue, rho, Sem.run_bind, Sem.run_pure, Result.andThen_ok, invoke]
  simp only [Array.empty_append, Array.append_empty, hr w]
end steps
def idxB (s : ByteArray) (c : Int) : Int := Lib.indexByte s.data.toList c.toNat.toUInt8
end Go.Z
