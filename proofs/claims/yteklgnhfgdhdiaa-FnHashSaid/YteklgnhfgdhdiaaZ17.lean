/- Lemmas for walks: frames known by slots, heaps known by chunks. No conditions of its own. -/
import Derived.Test.YteklgnhfgdhdiaaZ16
namespace Go.Z
set_option linter.unusedVariables false
set_option linter.unusedSimpArgs false
open Go Go.RowKit
section steps
variable {P : Program} {ops : List Oper} {Q : Exit → Act → World → Prop} {o : Oper} {rest : List Oper} {a : Act} {w w' : World} {σ : List (Nat × Value)} {n d : Nat} {M : List Nat} {w0 : World} {Δ Γ : List (Nat × Chunk)}
/-- A PART OF A SLICE. -/
theorem sll_lh {t E : TypeId} {x y z : Operand} {A : Option Addr} {len cap : Nat} {k k' : IntKind} {i j : Int} {sz : Nat} (ho : o.op = .slice t x (some y) (some z) none) (hk : Kn σ n a) (hd : o.dst = some d) (hx : rho? σ x = some (.slice A len cap)) (hy : rho? σ y = some (.int k i)) (hz : rho? σ z = some (.int k' j)) (hc : chk ops n σ o d = true)
    (ht : P.underlying t = some (.slice E)) (hs : szB P E = some sz) (h0 : 0 ≤ i) (h1 : i ≤ j) (h2 : j ≤ cap)
    (next : ∀ a, Kn ((d, .slice (if cap = i.toNat then A else A.map (·.add (i.toNat * sz))) (j.toNat - i.toNat) (cap - i.toNat)) :: σ) n a → wpList P ops.toArray Q rest a w) : wpList P ops.toArray Q (o :: rest) a w :=
  sv _ hk hd hc (by
    have eh : (j.toNat : Int) = j := Int.toNat_of_nonneg (by omega)
    simp [execOp, ho, rho?_eq hx, rho?_eq hy, rho?_eq hz, Instr.sliceAt, Instr.slice, run_underlying ht, Instr.sliceBounds, run_sliceBound, run_sizeOf hs, h0, h1, h2, eh, (by omega : 0 ≤ j)]) next
theorem sll_h {t E : TypeId} {x z : Operand} {A : Option Addr} {len cap : Nat} {k' : IntKind} {j : Int} {sz : Nat} (ho : o.op = .slice t x none (some z) none) (hk : Kn σ n a) (hd : o.dst = some d) (hx : rho? σ x = some (.slice A len cap)) (hz : rho? σ z = some (.int k' j)) (hc : chk ops n σ o d = true)
    (ht : P.underlying t = some (.slice E)) (hs : szB P E = some sz) (h0 : 0 ≤ j) (h2 : j ≤ cap)
    (next : ∀ a, Kn ((d, .slice (if cap = 0 then A else A.map (·.add (0 * sz))) (j.toNat - 0) (cap - 0)) :: σ) n a → wpList P ops.toArray Q rest a w) : wpList P ops.toArray Q (o :: rest) a w :=
  sv _ hk hd hc (by
    have eh : (j.toNat : Int) = j := Int.toNat_of_nonneg (by omega)
    simp [execOp, ho, rho?_eq hx, rho?_eq hz, Instr.sliceAt, Instr.slice, run_underlying ht, Instr.sliceBounds, run_sliceBound, run_sizeOf hs, h0, h2, eh]) next
theorem sll_l {t E : TypeId} {x y : Operand} {A : Option Addr} {len cap : Nat} {k : IntKind} {i : Int} {sz : Nat} (ho : o.op = .slice t x (some y) none none) (hk : Kn σ n a) (hd : o.dst = some d) (hx : rho? σ x = some (.slice A len cap)) (hy : rho? σ y = some (.int k i)) (hc : chk ops n σ o d = true)
    (ht : P.underlying t = some (.slice E)) (hs : szB P E = some sz) (h0 : 0 ≤ i) (h1 : i ≤ len)
    (next : ∀ a, Kn ((d, .slice (if cap = i.toNat then A else A.map (·.add (i.toNat * sz))) (len - i.toNat) (cap - i.toNat)) :: σ) n a → wpList P ops.toArray Q rest a w) : wpList P ops.toArray Q (o :: rest) a w :=
  sv _ hk hd hc (by
    simp [execOp, ho, rho?_eq hx, rho?_eq hy, Instr.sliceAt, Instr.slice, run_underlying ht, Instr.sliceBounds, run_sliceBound, run_sizeOf hs, h0, h1]) next
/-- A LOOK WHETHER A POINTER IS NONE. -/
theorem snk {x : Operand} {ad : Addr} (ho : o.op = .nilCheck x) (hk : Kn σ n a) (hd : o.dst = some d) (hx : rho? σ x = some (.pointer (some ad))) (hc : chk ops n σ o d = true)
    (next : ∀ a, Kn ((d, .pointer (some ad)) :: σ) n a → wpList P ops.toArray Q rest a w) : wpList P ops.toArray Q (o :: rest) a w :=
  sv _ hk hd hc (by simp [execOp, ho, rho?_eq hx]) next
end steps
theorem part_len {α : Type} (xs : List α) (l m : Nat) (hl : l ≤ m) (hm : m ≤ xs.length) : ((xs.drop l).take (m - l)).length = m - l := by
  simp only [List.length_take, List.length_drop]; omega
theorem View.dropv {α : Type} {L : Lay α} {A : Option Addr} {cap : Nat} {xs : List α} {c : Chunk} (h : View L A cap xs c) (l : Nat) (hl : l ≤ xs.length) : View L (if cap = l then A else A.map (·.add (l * L.size))) (cap - l) (xs.drop l) c := by
  have := h.part l xs.length hl (Nat.le_refl _)
  rwa [List.take_of_length_le (by simp)] at this
theorem View.takev {α : Type} {L : Lay α} {A : Option Addr} {cap : Nat} {xs : List α} {c : Chunk} (h : View L A cap xs c) (m : Nat) (hm : m ≤ xs.length) : View L (if cap = 0 then A else A.map (·.add (0 * L.size))) (cap - 0) (xs.take m) c := by
  have := h.part 0 m (Nat.zero_le _) hm
  simpa using this
theorem View.le_cap {α : Type} {L : Lay α} {A : Option Addr} {cap : Nat} {xs : List α} {c : Chunk} (h : View L A cap xs c) : xs.length ≤ cap := h.le
end Go.Z
