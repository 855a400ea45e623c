/- Lemmas for walks: frames known by slots, heaps known by chunks. No conditions of its own. -/
import Derived.Test.YteklgnhfgdhdiaaZ10
namespace Go.Z
set_option linter.unusedVariables false
set_option linter.unusedSimpArgs false
open Go Go.RowKit
theorem kget_cons (k : Nat) (c : Chunk) (Γ : List (Nat × Chunk)) : kget ((k, c) :: Γ) k = some c := by simp [kget]
theorem kget_kset {Γ : List (Nat × Chunk)} {k : Nat} {c d : Chunk} (h : kget Γ k = some c) : kget (kset Γ k d) k = some d := by
  induction Γ with
  | nil => simp [kget] at h
  | cons x r ih =>
    obtain ⟨s, e⟩ := x
    simp only [kget, kset] at h ⊢
    split
    · rename_i q; simp [kget, q]
    · rename_i q; rw [if_neg q] at h; simp only [kget, if_neg q]; exact ih h
theorem kdel_kset {k : Nat} {d : Chunk} : ∀ (Γ : List (Nat × Chunk)), kdel (kset Γ k d) k = kdel Γ k
  | [] => rfl
  | (s, e) :: r => by
    simp only [kset, kdel]
    split
    · rename_i q; simp [kdel, q]
    · rename_i q; simp only [kdel, if_neg q, kdel_kset r]
theorem Own.toV {α : Type} {L : Lay α} {E : TypeId} {A : Option Addr} {cap : Nat} {xs : List α} {c : Chunk} (h : Own L E A cap xs c) : OwnV L E (.slice A xs.length cap) xs c := by
  rcases h with ⟨rfl, rfl, rfl, rfl⟩ | ⟨b, rfl, h⟩
  · exact .inl ⟨rfl, rfl, rfl⟩
  · exact .inr ⟨b, cap, rfl, h⟩
section
variable {M : List Nat} {w0 w : World} {Δ Γ : List (Nat × Chunk)}
/-- A part of a chunk is let go. -/
theorem Sat.less (h : Sat M w0 w Δ Γ) {k : Nat} {e : Chunk} (c d : Chunk) (hk : kget Γ k = some e) (hp : (c ++ d).Perm e) : Sat M w0 w Δ ((k, c) :: kdel Γ k) := by
  have h1 := h.split k (k + 1) hk hp
  have h2 := h1.drop (k + 1)
  have e : kdel ((k, c) :: (k + 1, d) :: kdel Γ k) (k + 1) = (k, c) :: kdel Γ k := by
    simp [kdel]
  rwa [e] at h2
end
section steps
variable {P : Program} {ops : List Oper} {Q : Exit → Act → World → Prop} {o : Oper} {rest : List Oper} {a : Act} {w w' : World} {σ : List (Nat × Value)} {n d : Nat} {v : Value} {M : List Nat} {w0 : World} {Δ Γ : List (Nat × Chunk)}
/-- A FUNCTION WITH CAPTURED VARIABLES. -/
theorem smf {fn : Fn} {capt : Array Operand} {cs : List Value} (ho : o.op = .makeFunc fn #[] capt) (hk : Kn σ n a) (hd : o.dst = some d) (hcs : capt.toList.map (rho σ) = cs) (hc : chk ops n σ o d = true)
    (next : ∀ a, Kn ((d, .func fn #[] cs.toArray) :: σ) n a → wpList P ops.toArray Q rest a w) : wpList P ops.toArray Q (o :: rest) a w := by
  have h2 : Array.map (rho σ) capt = cs.toArray := by rw [← hcs]; apply Array.ext'; simp
  exact sv _ hk hd hc (by simp [execOp, ho, Instr.makeFunc, h2]) next
/-- A STORE OF AN ELEMENT WITH ROWS OF ITS OWN INTO A ROW OF ONE'S OWN. -/
theorem som (k kd : Nat) {α : Type} {L : Lay α} {E : TypeId} {A : Option Addr} {cap : Nat} {xs : List α} {c dn : Chunk} (z y : α) {i : Int} {t : TypeId} {x u : Operand} {ad : Addr}
    (hs : Sat M w0 w Δ Γ) (hg : kget Γ k = some c) (hgd : kget (kdel Γ k) kd = some dn) (hown : Own L E A cap xs c) (h0 : 0 ≤ i) (h1 : i < xs.length)
    (ho : o.op = .store t x u) (hk : Kn σ n a) (hd : o.dst = none) (hx : rho? σ x = some (.pointer (some ad))) (had : ad = padd A (i.toNat * L.size)) (hu : rho? σ u = some v) (hc : chk0 ops σ o = true)
    (hz : szB P t = some v.cells.size) (hone : ∀ q ∈ v.cells.toList, q.oneCell' = true) (hLs : v.cells.size = L.size) (hy : L.own y v.cells.toList dn)
    (next : ∀ c' w' a, Kn σ n a → Own L E A cap (xs.set i.toNat y) c' → Sat M w0 w' Δ ((k, c') :: kdel (kdel Γ k) kd) → wpList P ops.toArray Q rest a w') : wpList P ops.toArray Q (o :: rest) a w := by
  have hlt : i.toNat < xs.length := by omega
  obtain ⟨b, rfl, cs, ess, dd, rfl, hall, htake, hsz, hle, htop⟩ := hown.opened (by rintro rfl; simp at hlt)
  have hx0 : xs[i.toNat]? = some (xs.getD i.toNat z) := by simp [List.getD_eq_getElem?_getD, List.getElem?_eq_getElem hlt]
  obtain ⟨c1, d1, c2, es, rfl, hes, hoe, hput⟩ := hall.take i.toNat _ hx0
  have hvl : v.cells.toList.length = v.cells.size := by simp
  have hel : es.length = L.size := hall.each es (List.mem_of_getElem? hes)
  have hb : w.heap[b]? = some (.cells cs E (0, 0)) := hs.hasG hg (b, .cells cs E (0, 0)) (List.mem_cons_self ..)
  have hfit : i.toNat * L.size + v.cells.size ≤ xs.length * L.size := by
    have : (i.toNat + 1) * L.size ≤ xs.length * L.size := Nat.mul_le_mul_right _ (by omega)
    rw [Nat.add_mul] at this; omega
  have hcap : xs.length * L.size ≤ cap * L.size := Nat.mul_le_mul_right _ hle
  have had' : ad = ⟨b, i.toNat * L.size, none⟩ := by rw [had]; simp [padd]
  subst had'
  let cs' : Array Value := (cs.toList.take (i.toNat * L.size) ++ v.cells.toList ++ cs.toList.drop (i.toNat * L.size + v.cells.size)).toArray
  have hrow : Own L E (some ⟨b, 0, none⟩) cap (xs.set i.toNat y) ((b, .cells cs' E (0, 0)) :: (c1 ++ dn ++ c2)) := by
    refine .inr ⟨b, rfl, cs', ess.set i.toNat v.cells.toList, _, rfl, hput _ _ _ hy, ?_, ?_, by simpa using hle, htop⟩
    · have hseg := flatten_seg ess i.toNat 0 v.cells.toList.length v.cells.toList es hall.each hes rfl (by omega)
      have e1 : es.take 0 ++ v.cells.toList ++ es.drop (0 + v.cells.toList.length) = v.cells.toList := by
        rw [List.take_zero, List.nil_append, List.drop_eq_nil_of_le (by omega), List.append_nil]
      rw [e1] at hseg
      rw [List.length_set, hseg]
      have hcl : xs.length * L.size ≤ cs.toList.length := by
        have : cs.toList.length = cs.size := by simp
        omega
      rw [← htake]
      have := take_seg cs.toList (xs.length * L.size) (i.toNat * L.size) v.cells.toList.length v.cells.toList rfl (by omega) hcl
      rw [hvl] at this
      simpa [cs', hvl] using this
    · simp only [cs', List.size_toArray, List.length_append, List.length_take, List.length_drop, Array.length_toList]
      omega
  refine su (w' := w.setRow b cs') hk hd hc (by
    simp only [execOp, ho, rho?_eq hx, rho?_eq hu, Instr.storeAt, Instr.sureAddr, Sem.run_bind, Sem.run_pure, Result.andThen_ok]
    rw [run_storeV (off := i.toNat * L.size) hz hb (by omega) hone]
    rfl) fun a hk => ?_
  have hs1 := hs.write (d := (b, .cells cs' E (0, 0)) :: (c1 ++ d1 ++ c2)) (cs' := cs') hg (List.mem_cons_self ..) (by simp [cblk]) (by
    intro q hq
    have hnd := hs.nodupk hg
    simp only [cblk, List.map_cons, List.nodup_cons] at hnd
    rcases List.mem_cons.1 hq with rfl | hq
    · exact .inl rfl
    · exact .inr ⟨List.mem_cons_of_mem _ hq, fun e => hnd.1 (e ▸ List.mem_map.2 ⟨q, hq, rfl⟩)⟩)
  have hk1 : kget (kset Γ k ((b, Obj.cells cs' E (0, 0)) :: (c1 ++ d1 ++ c2))) k = some ((b, Obj.cells cs' E (0, 0)) :: (c1 ++ d1 ++ c2)) := kget_kset hg
  have hk2 : kget (kdel (kset Γ k ((b, Obj.cells cs' E (0, 0)) :: (c1 ++ d1 ++ c2))) k) kd = some dn := by rw [kdel_kset]; exact hgd
  have hs2 := hs1.join k hk1 hk2
  have hs3 := hs2.less (k := k) ((b, Obj.cells cs' E (0, 0)) :: (c1 ++ dn ++ c2)) d1 (kget_cons _ _ _) (by
    simp only [List.cons_append, List.append_assoc]
    refine List.Perm.cons _ (List.Perm.append_left _ ?_)
    -- dn ++ (c2 ++ d1) ~ d1 ++ (c2 ++ dn)
    have p1 : (dn ++ (c2 ++ d1)).Perm ((c2 ++ d1) ++ dn) := List.perm_append_comm
    have p2 : ((c2 ++ d1) ++ dn).Perm ((d1 ++ c2) ++ dn) := List.Perm.append_right _ List.perm_append_comm
    have := p1.trans p2
    simpa only [List.append_assoc] using this)
  refine next _ _ a hk hrow ?_
  have e : kdel ((k, ((b, Obj.cells cs' E (0, 0)) :: (c1 ++ d1 ++ c2)) ++ dn) :: kdel (kdel (kset Γ k ((b, Obj.cells cs' E (0, 0)) :: (c1 ++ d1 ++ c2))) k) kd) k = kdel (kdel Γ k) kd := by
    rw [kdel_kset]; simp [kdel]
  rw [e] at hs3
  exact hs3
end steps
end Go.Z
