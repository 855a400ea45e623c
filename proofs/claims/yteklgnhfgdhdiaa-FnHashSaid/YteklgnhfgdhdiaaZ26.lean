/- Lemmas for walks: frames known by slots, heaps known by chunks. No conditions of its own. -/
import Derived.Test.YteklgnhfgdhdiaaZ25
namespace Go.Z
set_option linter.unusedVariables false
set_option linter.unusedSimpArgs false
open Go Go.RowKit
/-- A row of one's own without what its element i holds. -/
def OwnH {α : Type} (L : Lay α) (E : TypeId) (A : Option Addr) (cap : Nat) (xs : List α) (i : Nat) (c : Chunk) : Prop :=
  ∃ (b : Nat) (cs : Array Value) (ess : List (List Value)) (c1 c2 : Chunk) (es : List Value), A = some ⟨b, 0, none⟩ ∧ c = (b, .cells cs E (0, 0)) :: (c1 ++ c2) ∧ ess[i]? = some es ∧ (∀ e ∈ ess, e.length = L.size) ∧ (∀ y es' d', L.own y es' d' → AllOwn L (xs.set i y) (ess.set i es') (c1 ++ d' ++ c2)) ∧
    cs.toList.take (xs.length * L.size) = ess.flatten ∧ cs.size = cap * L.size ∧ xs.length ≤ cap ∧ cap ≤ maxLen
theorem OwnH.some_ {α : Type} {L : Lay α} {E : TypeId} {A : Option Addr} {cap i : Nat} {xs : List α} {c : Chunk} (h : OwnH L E A cap xs i c) : ∃ b off, A = some ⟨b, off, none⟩ := by
  obtain ⟨b, _, _, _, _, _, rfl, _⟩ := h; exact ⟨b, 0, rfl⟩
section
variable {M : List Nat} {w0 w : World} {Δ Γ : List (Nat × Chunk)}
/-- The slice that is an element of an own row is taken out, to be appended to. -/
theorem Own.holeS {α β : Type} {L : Lay α} {Lb : Lay β} {E Eb : TypeId} {A A' : Option Addr} {cap p' n k : Nat} {xs : List α} {c : Chunk} {i : Int} {ys : List β} (kd off : Nat) (z : α)
    (hs : Sat M w0 w Δ Γ) (hk : kget Γ k = some c) (h : Own L E A cap xs c) (h0 : 0 ≤ i) (h1 : i < xs.length)
    (hcell : CellIn c (padd A (i.toNat * L.size + off)).block (padd A (i.toNat * L.size + off)).off (.slice A' n p'))
    (hel : ∀ es d, L.own (xs.getD i.toNat z) es d → ∃ A1 p1, es[off]? = some (.slice A1 ys.length p1) ∧ Own Lb Eb A1 p1 ys d) :
    ∃ d ch, Own Lb Eb A' p' ys d ∧ OwnH L E A cap xs i.toNat ch ∧ Sat M w0 w Δ ((k, ch) :: (kd, d) :: kdel Γ k) := by
  have hlt : i.toNat < xs.length := by omega
  obtain ⟨b, rfl, cs, ess, dd, rfl, hall, htake, hsz, hle, htop⟩ := h.opened (by rintro rfl; simp at hlt)
  have hx0 : xs[i.toNat]? = some (xs.getD i.toNat z) := by simp [List.getD_eq_getElem?_getD, List.getElem?_eq_getElem hlt]
  obtain ⟨c1, d, c2, es, rfl, hes, hoe, hput⟩ := hall.take i.toNat _ hx0
  obtain ⟨A1, p1, h2, h3⟩ := hel es d hoe
  have hb : w.heap[b]? = some (.cells cs E (0, 0)) := hs.hasG hk (b, .cells cs E (0, 0)) (List.mem_cons_self ..)
  have e1 := flatten_at ess i.toNat off es _ hall.each hes h2
  rw [← htake, List.getElem?_take] at e1
  split at e1
  case isFalse => cases e1
  have e2 := hcell.cell (hs.hasG hk)
  have e3 : (⟨(padd (some ⟨b, 0, none⟩) (i.toNat * L.size + off)).block, (padd (some ⟨b, 0, none⟩) (i.toNat * L.size + off)).off, none⟩ : Addr) = ⟨b, i.toNat * L.size + off, none⟩ := by simp [padd]
  have e2' : w.cell? ⟨b, i.toNat * L.size + off, none⟩ = some (.slice A' n p') := by simpa [padd] using e2
  rw [cell_of_row w b _ cs E (0, 0) hb] at e2'
  have e4 : cs[i.toNat * L.size + off]? = some (.slice A1 ys.length p1) := by simpa using e1
  rw [e4] at e2'
  simp only [Option.some.injEq, Value.slice.injEq] at e2'
  obtain ⟨rfl, _, rfl⟩ := e2'
  refine ⟨d, (b, .cells cs E (0, 0)) :: (c1 ++ c2), h3, ⟨b, cs, ess, c1, c2, es, rfl, rfl, hes, hall.each, hput, htake, hsz, hle, htop⟩, ?_⟩
  refine hs.split k kd hk ?_
  simp only [List.cons_append, List.append_assoc]
  exact List.Perm.cons _ (List.Perm.append_left _ List.perm_append_comm)
end
section steps
variable {P : Program} {ops : List Oper} {Q : Exit → Act → World → Prop} {o : Oper} {rest : List Oper} {a : Act} {w w' : World} {σ : List (Nat × Value)} {n d : Nat} {v : Value} {M : List Nat} {w0 : World} {Δ Γ : List (Nat × Chunk)}
/-- A STORE OF AN ELEMENT WHERE ONE WAS TAKEN OUT. -/
theorem soh (k kd : Nat) {α : Type} {L : Lay α} {E : TypeId} {A : Option Addr} {cap : Nat} {xs : List α} {c dn : Chunk} (y : α) {i : Int} {t : TypeId} {x u : Operand} {ad : Addr}
    (hs : Sat M w0 w Δ Γ) (hg : kget Γ k = some c) (hgd : kget (kdel Γ k) kd = some dn) (hown : OwnH L E A cap xs i.toNat c) (h0 : 0 ≤ i) (h1 : i < xs.length)
    (ho : o.op = .store t x u) (hk : Kn σ n a) (hd : o.dst = none) (hx : rho? σ x = some (.pointer (some ad))) (had : ad = padd A (i.toNat * L.size)) (hu : rho? σ u = some v) (hc : chk0 ops σ o = true)
    (hz : szB P t = some v.cells.size) (hone : ∀ q ∈ v.cells.toList, q.oneCell' = true) (hLs : v.cells.size = L.size) (hy : L.own y v.cells.toList dn)
    (next : ∀ c' w' a, Kn σ n a → Own L E A cap (xs.set i.toNat y) c' → Sat M w0 w' Δ ((k, c') :: kdel (kdel Γ k) kd) → wpList P ops.toArray Q rest a w') : wpList P ops.toArray Q (o :: rest) a w := by
  have hlt : i.toNat < xs.length := by omega
  obtain ⟨b, cs, ess, c1, c2, es, rfl, rfl, hes, heach, hput, htake, hsz, hle, htop⟩ := hown
  have hvl : v.cells.toList.length = v.cells.size := by simp
  have hel : es.length = L.size := heach es (List.mem_of_getElem? hes)
  have hb : w.heap[b]? = some (.cells cs E (0, 0)) := hs.hasG hg (b, .cells cs E (0, 0)) (List.mem_cons_self ..)
  have hfit : i.toNat * L.size + v.cells.size ≤ xs.length * L.size := by
    have : (i.toNat + 1) * L.size ≤ xs.length * L.size := Nat.mul_le_mul_right _ (by omega)
    rw [Nat.add_mul] at this; omega
  have hcap : xs.length * L.size ≤ cap * L.size := Nat.mul_le_mul_right _ hle
  have had' : ad = ⟨b, i.toNat * L.size, none⟩ := by rw [had]; simp [padd]
  subst had'
  let cs' : Array Value := (cs.toList.take (i.toNat * L.size) ++ v.cells.toList ++ cs.toList.drop (i.toNat * L.size + v.cells.size)).toArray
  have hrow : Own L E (some ⟨b, 0, none⟩) cap (xs.set i.toNat y) ((b, .cells cs' E (0, 0)) :: (c1 ++ dn ++ c2)) := by
    refine .inr ⟨b, rfl, cs', ess.set i.toNat v.cells.toList, _, rfl, hput _ _ _ hy, ?_, ?_, by simpa using hle, htop⟩
    · have hseg := flatten_seg ess i.toNat 0 v.cells.toList.length v.cells.toList es heach hes rfl (by omega)
      have e1 : es.take 0 ++ v.cells.toList ++ es.drop (0 + v.cells.toList.length) = v.cells.toList := by
        rw [List.take_zero, List.nil_append, List.drop_eq_nil_of_le (by omega), List.append_nil]
      rw [e1] at hseg
      rw [List.length_set, hseg]
      have hcl : xs.length * L.size ≤ cs.toList.length := by
        have : cs.toList.length = cs.size := by simp
        omega
      rw [← htake]
      have := take_seg cs.toList (xs.length * L.size) (i.toNat * L.size) v.cells.toList.length v.cells.toList rfl (by omega) hcl
      rw [hvl] at this
      simpa [cs', hvl] using this
    · simp only [cs', List.size_toArray, List.length_append, List.length_take, List.length_drop, Array.length_toList]
      omega
  refine su (w' := w.setRow b cs') hk hd hc (by
    simp only [execOp, ho, rho?_eq hx, rho?_eq hu, Instr.storeAt, Instr.sureAddr, Sem.run_bind, Sem.run_pure, Result.andThen_ok]
    rw [run_storeV (off := i.toNat * L.size) hz hb (by omega) hone]
    rfl) fun a hk => ?_
  have hs1 := hs.write (d := (b, .cells cs' E (0, 0)) :: (c1 ++ c2)) (cs' := cs') hg (List.mem_cons_self ..) (by simp [cblk]) (by
    intro q hq
    have hnd := hs.nodupk hg
    simp only [cblk, List.map_cons, List.nodup_cons] at hnd
    rcases List.mem_cons.1 hq with rfl | hq
    · exact .inl rfl
    · exact .inr ⟨List.mem_cons_of_mem _ hq, fun e => hnd.1 (e ▸ List.mem_map.2 ⟨q, hq, rfl⟩)⟩)
  have hk1 : kget (kset Γ k ((b, Obj.cells cs' E (0, 0)) :: (c1 ++ c2))) k = some ((b, Obj.cells cs' E (0, 0)) :: (c1 ++ c2)) := kget_kset hg
  have hk2 : kget (kdel (kset Γ k ((b, Obj.cells cs' E (0, 0)) :: (c1 ++ c2))) k) kd = some dn := by rw [kdel_kset]; exact hgd
  have hs2 := hs1.join k hk1 hk2
  have hs3 := hs2.reorder (k := k) (d := (b, Obj.cells cs' E (0, 0)) :: (c1 ++ dn ++ c2)) (kget_cons _ _ _) (by
    simp only [List.cons_append, List.append_assoc]
    exact List.Perm.cons _ (List.Perm.append_left _ List.perm_append_comm))
  refine next _ _ a hk hrow ?_
  have e : kset ((k, ((b, Obj.cells cs' E (0, 0)) :: (c1 ++ c2)) ++ dn) :: kdel (kdel (kset Γ k ((b, Obj.cells cs' E (0, 0)) :: (c1 ++ c2))) k) kd) k ((b, Obj.cells cs' E (0, 0)) :: (c1 ++ dn ++ c2)) = (k, (b, Obj.cells cs' E (0, 0)) :: (c1 ++ dn ++ c2)) :: kdel (kdel Γ k) kd := by
    rw [kdel_kset]; simp [kset]
  rw [e] at hs3
  exact hs3
end steps
theorem el_slH {β : Type} {Lb : Lay β} {Eb : TypeId} {ys : List β} {es : List Value} {d : Chunk} (h : (Lay.sl Lb Eb).own ys es d) : ∃ A1 p1, es[0]? = some (.slice A1 ys.length p1) ∧ Own Lb Eb A1 p1 ys d := by
  obtain ⟨A, p, h1, h2, _⟩ := el_sl h; exact ⟨A, p, h1, h2⟩
end Go.Z
