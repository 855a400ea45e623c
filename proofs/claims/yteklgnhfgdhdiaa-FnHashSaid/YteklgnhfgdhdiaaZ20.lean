/- Lemmas for walks: frames known by slots, heaps known by chunks. No conditions of its own. -/
import Derived.Test.YteklgnhfgdhdiaaZ19
import Derived.Laws.CopyRow
import Derived.Lib.Overlaps
import Derived.Lib.AppendZerosOnto
namespace Go.Z
set_option linter.unusedVariables false
set_option linter.unusedSimpArgs false
open Go Go.RowKit
def insL {α : Type} (xs : List α) (i : Nat) (ys : List α) : List α := xs.take i ++ ys ++ xs.drop i
def delL {α : Type} (xs : List α) (i j : Nat) : List α := xs.take i ++ xs.drop j
theorem len_insL {α : Type} (xs : List α) (i : Nat) (ys : List α) (h : i ≤ xs.length) : (insL xs i ys).length = xs.length + ys.length := by
  simp only [insL, List.length_append, List.length_take, List.length_drop]; omega
theorem len_delL {α : Type} (xs : List α) (i j : Nat) (h : i ≤ j) (h2 : j ≤ xs.length) : (delL xs i j).length = xs.length - (j - i) := by
  simp only [delL, List.length_append, List.length_take, List.length_drop]; omega
theorem w64id {x : Int} (h : -9223372036854775808 ≤ x) (h2 : x ≤ 9223372036854775807) : w64 x = x := by
  show IntKind.wrap .i64 x = x
  rw [IntKind.wrap_i64]; omega
section
variable {α : Type} {L : Lay α}
theorem AllOwn.flat (hf : L.Flat) {xs : List α} {ess : List (List Value)} {c : Chunk} (h : AllOwn L xs ess c) : AllOwn L xs ess [] := by
  induction h with
  | nil => exact .nil
  | cons h1 _ ih => exact AllOwn.cons0 (hf _ _ _ (L.ov _ _ _ h1)) ih
theorem AllOwn.takeF {xs : List α} {ess : List (List Value)} : ∀ {c : Chunk}, AllOwn L xs ess c → c = [] → ∀ i, AllOwn L (xs.take i) (ess.take i) [] ∧ AllOwn L (xs.drop i) (ess.drop i) [] := by
  intro c h
  induction h with
  | nil => intro _ i; simp only [List.take_nil, List.drop_nil]; exact ⟨.nil, .nil⟩
  | @cons x es d xs ess c h1 h2 ih =>
    intro e i
    obtain ⟨rfl, rfl⟩ := List.append_eq_nil_iff.1 e
    cases i with
    | zero => exact ⟨.nil, AllOwn.cons h1 h2⟩
    | succ i =>
      obtain ⟨h3, h4⟩ := ih rfl i
      exact ⟨AllOwn.cons0 h1 h3, h4⟩
theorem flatten_take {n : Nat} : ∀ (ess : List (List Value)) (i : Nat), (∀ e ∈ ess, e.length = n) → (ess.take i).flatten = ess.flatten.take (i * n) ∧ (ess.drop i).flatten = ess.flatten.drop (i * n)
  | [], i, _ => by simp
  | e :: r, 0, _ => by simp
  | e :: r, i + 1, h => by
    obtain ⟨h1, h2⟩ := flatten_take r i (fun x hx => h x (List.mem_cons_of_mem _ hx))
    have he := h e (List.mem_cons_self ..)
    have e1 : (i + 1) * n = e.length + i * n := by rw [he, Nat.add_mul]; omega
    constructor
    · rw [List.take_succ_cons, List.flatten_cons, List.flatten_cons, h1, e1, List.take_append, List.take_of_length_le (show e.length ≤ e.length + i * n by omega), show e.length + i * n - e.length = i * n by omega]
    · rw [List.drop_succ_cons, List.flatten_cons, h2, e1, List.drop_append, List.drop_eq_nil_of_le (show e.length ≤ e.length + i * n by omega), List.nil_append, show e.length + i * n - e.length = i * n by omega]
end
section
variable {P : Program} {w : World}
theorem run_copyN {dT sT ty elem : TypeId} {g o dLen dCap : Nat} {a : Addr} {sLen sCap sz : Nat} {cur : Array Value} {t : TypeId} {cs : List Value}
    (hu : P.underlying dT = some (.slice elem)) (hs : szB P elem = some sz)
    (hg : w.heap[g]? = some (.cells cur t (0, 0))) (hn : cs.length = Nat.min sLen dLen * sz)
    (hsrc : ∀ j v, cs[j]? = some v → w.cell? (a.add j) = some v) (hfit : o + cs.length ≤ cur.size) (h1 : ∀ v ∈ cs, v.oneCell' = true) :
    (Builtin.copy_ #[dT, sT] ty #[.slice (some ⟨g, o, none⟩) dLen dCap, .slice (some a) sLen sCap]).run P w =
      .ok (goInt (Nat.min sLen dLen)) (w.setRow g (cur.toList.take o ++ cs ++ cur.toList.drop (o + cs.length)).toArray) := by
  have hl := run_loadCells_list (P := P) w a cs hsrc
  have hst := run_storeCells_at P g o t cs 0 cur w hg (by simpa using hfit) h1
  have hz := run_sizeOf (w := w) hs
  rw [hn] at hl
  simp only [Nat.add_zero] at hst
  simp [Builtin.copy_, run_underlying hu, Builtin.lenOf, Builtin.firstCells, hz, hl, hst]
theorem zc_mem {zc : Array Value} {n : Nat} (h0 : 0 < zc.size) : ∀ u ∈ (Builtin.zeroCells zc n).toList, u ∈ zc.toList := by
  intro u hu
  simp only [Builtin.zeroCells, Array.toList_map, List.mem_map] at hu
  obtain ⟨i, _, rfl⟩ := hu
  have : i % zc.size < zc.size := Nat.mod_lt _ h0
  rw [getElem!_pos zc _ this]
  exact Array.getElem_mem_toList this
theorem run_clearN {t e ty : TypeId} {z : Value} {b o n c : Nat} {cur : Array Value} {T : TypeId} (ht : P.underlying t = some (.slice e)) (hz : zeroB P e = some z) (h0 : 0 < z.cells.size) (h1 : ∀ u ∈ z.cells.toList, u.oneCell' = true) (hn : 0 < n)
    (hg : w.heap[b]? = some (.cells cur T (0, 0))) (hfit : o + n * z.cells.size ≤ cur.size) :
    (Builtin.clear_ #[t] ty #[.slice (some ⟨b, o, none⟩) n c]).run P w = .ok (.tuple #[]) (w.setRow b (cur.toList.take o ++ (Builtin.zeroCells z.cells n).toList ++ cur.toList.drop (o + n * z.cells.size)).toArray) := by
  have hl : (Builtin.zeroCells z.cells n).toList.length = n * z.cells.size := by simp [size_zeroCells]
  have hst := run_storeCells_at P b o T (Builtin.zeroCells z.cells n).toList 0 cur w hg (by rw [hl]; simpa using hfit) (fun u hu => h1 u (zc_mem h0 u hu))
  simp only [Nat.add_zero, hl] at hst
  obtain ⟨m, rfl⟩ : ∃ m, n = m + 1 := ⟨n - 1, by omega⟩
  have hv := run_zero (w := w) hz
  simp [Builtin.clear_, run_underlying ht, hv, hst]
end
section
variable {α : Type} {L : Lay α}
theorem own_ins {E : TypeId} {b cap i : Nat} {xs ys : List α} {ess fss : List (List Value)} {cs : Array Value} (hall : AllOwn L xs ess []) (hy : AllOwn L ys fss []) (hi : i ≤ xs.length)
    (h : cs.toList.take ((xs.length + ys.length) * L.size) = ess.flatten.take (i * L.size) ++ fss.flatten ++ ess.flatten.drop (i * L.size)) (hsz : cs.size = cap * L.size) (hle : xs.length + ys.length ≤ cap) (htop : cap ≤ maxLen) :
    Own L E (some ⟨b, 0, none⟩) cap (insL xs i ys) [(b, .cells cs E (0, 0))] := by
  obtain ⟨h1, h2⟩ := hall.takeF rfl i
  obtain ⟨h3, h4⟩ := flatten_take ess i hall.each
  refine .inr ⟨b, rfl, cs, ess.take i ++ fss ++ ess.drop i, [], rfl, (h1.app hy).app h2, ?_, hsz, by rw [len_insL _ _ _ hi]; exact hle, htop⟩
  rw [len_insL _ _ _ hi, h, List.flatten_append, List.flatten_append, h3, h4]
theorem own_del {E : TypeId} {b cap i j : Nat} {xs : List α} {ess : List (List Value)} {cs : Array Value} (hall : AllOwn L xs ess []) (hij : i ≤ j) (hj : j ≤ xs.length)
    (h : cs.toList.take ((xs.length - (j - i)) * L.size) = ess.flatten.take (i * L.size) ++ ess.flatten.drop (j * L.size)) (hsz : cs.size = cap * L.size) (hle : xs.length ≤ cap) (htop : cap ≤ maxLen) :
    Own L E (some ⟨b, 0, none⟩) cap (delL xs i j) [(b, .cells cs E (0, 0))] := by
  obtain ⟨h1, _⟩ := hall.takeF rfl i
  obtain ⟨_, h2⟩ := hall.takeF rfl j
  obtain ⟨h3, _⟩ := flatten_take ess i hall.each
  obtain ⟨_, h4⟩ := flatten_take ess j hall.each
  refine .inr ⟨b, rfl, cs, ess.take i ++ ess.drop j, [], rfl, h1.app h2, ?_, hsz, by rw [len_delL _ _ _ hij hj]; omega, htop⟩
  rw [len_delL _ _ _ hij hj, h, List.flatten_append, h3, h4]
end
theorem put_len {α : Type} {cs V : List α} {o : Nat} (h : o + V.length ≤ cs.length) : (cs.take o ++ V ++ cs.drop (o + V.length)).length = cs.length := by
  simp only [List.length_append, List.length_take, List.length_drop]; omega
theorem put_take {α : Type} {cs V : List α} {o m : Nat} (h : o + V.length ≤ cs.length) (hm : m ≤ o) : (cs.take o ++ V ++ cs.drop (o + V.length)).take m = cs.take m := by
  rw [List.append_assoc, List.take_append_of_le_length (by rw [List.length_take]; omega), List.take_take, Nat.min_eq_left hm]
theorem put_mid {α : Type} {cs V : List α} {o m : Nat} (h : o + V.length ≤ cs.length) (hm : m = o + V.length) : (cs.take o ++ V ++ cs.drop (o + V.length)).take m = cs.take o ++ V := by
  subst hm
  apply List.take_left'
  simp only [List.length_append, List.length_take]; omega
theorem put_drop {α : Type} {cs V : List α} {o m : Nat} (h : o + V.length ≤ cs.length) (hm : m = o + V.length) : (cs.take o ++ V ++ cs.drop (o + V.length)).drop m = cs.drop m := by
  subst hm
  apply List.drop_left'
  simp only [List.length_append, List.length_take]; omega
/-- The two copies of an insertion, either way round. -/
theorem ins_new {α : Type} {cs0 E0 V : List α} {p q N : Nat} (h0 : cs0.take p = E0.take p) (hE : E0.length = N) (hV : V.length = q) (hp : p ≤ N) (hr : N + q ≤ cs0.length) :
    (((cs0.take p ++ V ++ cs0.drop (p + V.length)).take (p + q) ++ E0.drop p ++ (cs0.take p ++ V ++ cs0.drop (p + V.length)).drop (p + q + (E0.drop p).length))).take (N + q) = E0.take p ++ V ++ E0.drop p := by
  have h1 : (E0.drop p).length = N - p := by rw [List.length_drop, hE]
  rw [put_mid (by rw [put_len (by omega)]; omega) (by omega), put_mid (by omega) (by omega), h0]
theorem ins_old {α : Type} {cs E0 V : List α} {p q N : Nat} (h0 : cs.take N = E0) (hE : E0.length = N) (hV : V.length = q) (hp : p ≤ N) (hr : N + q ≤ cs.length) :
    (((cs.take (p + q) ++ E0.drop p ++ cs.drop (p + q + (E0.drop p).length)).take p ++ V ++ (cs.take (p + q) ++ E0.drop p ++ cs.drop (p + q + (E0.drop p).length)).drop (p + V.length))).take (N + q) = E0.take p ++ V ++ E0.drop p := by
  have h1 : (E0.drop p).length = N - p := by rw [List.length_drop, hE]
  have h2 : p + q + (E0.drop p).length ≤ cs.length := by omega
  rw [put_take h2 (by omega), hV]
  have h3 : (cs.take (p + q) ++ E0.drop p ++ cs.drop (p + q + (E0.drop p).length)).drop (p + q) = E0.drop p ++ cs.drop (p + q + (E0.drop p).length) := by
    rw [List.append_assoc]
    apply List.drop_left'
    rw [List.length_take]; omega
  rw [h3, ← List.append_assoc]
  have h4 : cs.take p = E0.take p := by rw [← h0, List.take_take, Nat.min_eq_left hp]
  rw [h4]
  apply List.take_left'
  simp only [List.length_append, List.length_take, List.length_drop]; omega
theorem del_new {α : Type} {cs E0 D Z X : List α} {p o m N : Nat} (h0 : cs.take N = E0) (hp : p ≤ N) (ho : o = p + D.length) (hl : o ≤ cs.length) (hm : m = o) :
    ((cs.take p ++ D ++ cs.drop (p + D.length)).take o ++ Z ++ X).take m = E0.take p ++ D := by
  subst hm
  rw [put_mid (by omega) ho, ← h0, List.take_take, Nat.min_eq_left hp, List.append_assoc]
  apply List.take_left'
  simp only [List.length_append, List.length_take]; omega
theorem Sat.drop2 {M : List Nat} {w0 w : World} {Δ Γ : List (Nat × Chunk)} (k : Nat) {c d : Chunk} (h : Sat M w0 w Δ ((k, c) :: (k, d) :: Γ)) : Sat M w0 w Δ ((k, c) :: Γ) := by
  have h3 := h.join k (kget_cons _ _ _) (by simp only [kdel, Nat.beq_refl, if_true]; exact kget_cons _ _ _)
  have h4 := h3.less (k := k) c d (kget_cons _ _ _) (List.Perm.refl _)
  simpa only [kdel, Nat.beq_refl, if_true] using h4
section steps
variable {P : Program} {ops : List Oper} {Q : Exit → Act → World → Prop} {o : Oper} {rest : List Oper} {a : Act} {w : World} {σ : List (Nat × Value)} {n d : Nat} {v : Value} {M : List Nat} {w0 : World} {Δ Γ : List (Nat × Chunk)}
theorem sce1 {f : FuncId} {args : Array Operand} {tys : Array TypeId} {vs : List Value} (ho : o.op = .call ⟨.value (.func f), args, tys⟩) (hr : (callFunc f vs.toArray).run P w = .ok (.value v) w)
    (hk : Kn σ n a) (hd : o.dst = some d) (hvs : args.toList.map (rho σ) = vs) (hc : chk ops n σ o d = true) (next : ∀ a, Kn ((d, v) :: σ) n a → wpList P ops.toArray Q rest a w) : wpList P ops.toArray Q (o :: rest) a w := by
  refine sv v hk hd hc ?_ next
  have h2 : Array.map (rho σ) args = vs.toArray := by rw [← hvs]; apply Array.ext'; simp
  simp only [execOp, ho, resolve, h2, Deferred.ofValue, rho, Sem.run_bind, Sem.run_pure, Result.andThen_ok, invoke]
  simp only [Array.empty_append, Array.append_empty, hr]
theorem scap {t e : TypeId} {x : Operand} {A : Option Addr} {m c : Nat} (ho : o.op = .call ⟨.builtin .cap, #[x], #[t]⟩) (hk : Kn σ n a) (hd : o.dst = some d) (hx : rho? σ x = some (.slice A m c)) (hc : chk ops n σ o d = true) (ht : P.underlying t = some (.slice e))
    (next : ∀ a, Kn ((d, .int .i64 c) :: σ) n a → wpList P ops.toArray Q rest a w) : wpList P ops.toArray Q (o :: rest) a w :=
  sv _ hk hd hc (by simp [execOp, ho, resolve, invoke, builtin, rho?_eq hx, Builtin.cap_, run_underlying ht, goInt]) next
/-- COPY INTO A ROW OF THE CALL'S OWN. -/
theorem scp (k : Nat) {t t2 E : TypeId} {x y : Operand} {b off dl dc sl sc sz : Nat} {ad : Addr} {cs : Array Value} {T : TypeId} (cs' : Array Value) (news : List Value) (hs : Sat M w0 w Δ Γ) (hg : kget Γ k = some [(b, .cells cs T (0, 0))])
    (hsrc : ∀ j u, news[j]? = some u → w.cell? (ad.add j) = some u) (h1 : ∀ u ∈ news, u.oneCell' = true) (hn : news.length = Nat.min sl dl * sz) (hfit : off + news.length ≤ cs.size)
    (ho : o.op = .call ⟨.builtin .copy, #[x, y], #[t, t2]⟩) (hk : Kn σ n a) (hd : o.dst = some d) (hx : rho? σ x = some (.slice (some ⟨b, off, none⟩) dl dc)) (hy : rho? σ y = some (.slice (some ad) sl sc)) (hc : chk ops n σ o d = true)
    (ht : P.underlying t = some (.slice E)) (hsz : szB P E = some sz) (hcs : cs' = (cs.toList.take off ++ news ++ cs.toList.drop (off + news.length)).toArray)
    (next : ∀ w' a, Kn ((d, goInt (Nat.min sl dl)) :: σ) n a → Sat M w0 w' Δ (kset Γ k [(b, .cells cs' T (0, 0))]) → wpList P ops.toArray Q rest a w') : wpList P ops.toArray Q (o :: rest) a w := by
  subst hcs
  refine sv (goInt (Nat.min sl dl)) (w' := w.setRow b (cs.toList.take off ++ news ++ cs.toList.drop (off + news.length)).toArray) hk hd hc ?_ fun a hk => next _ a hk (hs.write1 _ hg)
  have := run_copyN (P := P) (sT := t2) (ty := o.type) ht hsz (box_row hs hg) hn hsrc hfit h1 (dLen := dl) (dCap := dc) (sLen := sl) (sCap := sc)
  simp only [execOp, ho, resolve, invoke, builtin, List.map_toArray, List.map_cons, List.map_nil, rho?_eq hx, rho?_eq hy, Sem.run_bind, Sem.run_pure, Result.andThen_ok, this]
/-- CLEAR OF A PART OF A ROW. -/
theorem scl (k : Nat) {t E : TypeId} {x : Operand} {b off m c : Nat} {cs : Array Value} {T : TypeId} {z : Value} (hs : Sat M w0 w Δ Γ) (hg : kget Γ k = some [(b, .cells cs T (0, 0))])
    (ho : o.op = .call ⟨.builtin .clear, #[x], #[t]⟩) (hk : Kn σ n a) (hd : o.dst = none) (hx : rho? σ x = some (.slice (some ⟨b, off, none⟩) m c)) (hc : chk0 ops σ o = true)
    (ht : P.underlying t = some (.slice E)) (hz : zeroB P E = some z) (h0 : 0 < z.cells.size) (h1 : ∀ u ∈ z.cells.toList, u.oneCell' = true) (hn : 0 < m) (hfit : off + m * z.cells.size ≤ cs.size)
    (next : ∀ w' a, Kn σ n a → Sat M w0 w' Δ (kset Γ k [(b, .cells (cs.toList.take off ++ (Builtin.zeroCells z.cells m).toList ++ cs.toList.drop (off + m * z.cells.size)).toArray T (0, 0))]) → wpList P ops.toArray Q rest a w') : wpList P ops.toArray Q (o :: rest) a w := by
  refine st_op hk hc ?_
  have := run_clearN (P := P) (ty := o.type) (c := c) ht hz h0 h1 hn (box_row hs hg) hfit
  simp only [execOp, ho, resolve, invoke, builtin, List.map_toArray, List.map_cons, List.map_nil, rho?_eq hx, Sem.run_bind, Sem.run_pure, Result.andThen_ok, this]
  simp only [Oper.upon, hd, Act.put]
  exact next _ a hk (hs.write1 _ hg)
/-- APPEND OF WHAT THE RUN IS KNOWN OF. -/
theorem sapz {t tn : TypeId} {x y : Operand} {u v r : Value} {w' : World} (ho : o.op = .call ⟨.builtin .append, #[x, y], #[t, tn]⟩) (hk : Kn σ n a) (hd : o.dst = some d) (hx : rho? σ x = some u) (hy : rho? σ y = some v) (hc : chk ops n σ o d = true)
    (hr : ∀ ty, (Builtin.append_ #[t, tn] ty #[u, v]).run P w = .ok r w')
    (next : ∀ a, Kn ((d, r) :: σ) n a → wpList P ops.toArray Q rest a w') : wpList P ops.toArray Q (o :: rest) a w :=
  sv _ hk hd hc (by simp only [execOp, ho, resolve, invoke, builtin, List.map_toArray, List.map_cons, List.map_nil, rho?_eq hx, rho?_eq hy, Sem.run_bind, Sem.run_pure, Result.andThen_ok, hr]) next
theorem sll_lhm {t E : TypeId} {x y z u : Operand} {A : Option Addr} {len cap : Nat} {k k' k'' : IntKind} {i j m : Int} {sz : Nat} (ho : o.op = .slice t x (some y) (some z) (some u)) (hk : Kn σ n a) (hd : o.dst = some d) (hx : rho? σ x = some (.slice A len cap)) (hy : rho? σ y = some (.int k i)) (hz : rho? σ z = some (.int k' j)) (hu : rho? σ u = some (.int k'' m)) (hc : chk ops n σ o d = true)
    (ht : P.underlying t = some (.slice E)) (hs : szB P E = some sz) (h0 : 0 ≤ i) (h1 : i ≤ j) (h2 : j ≤ m) (h3 : m ≤ cap)
    (next : ∀ v a, Kn ((d, v) :: σ) n a → wpList P ops.toArray Q rest a w) : wpList P ops.toArray Q (o :: rest) a w := by
  refine sv (.slice (if m.toNat = i.toNat then A else A.map (·.add (i.toNat * sz))) (j.toNat - i.toNat) (m.toNat - i.toNat)) hk hd hc ?_ (fun a hk => next _ a hk)
  have eh : (j.toNat : Int) = j := Int.toNat_of_nonneg (by omega)
  have em : (m.toNat : Int) = m := Int.toNat_of_nonneg (by omega)
  simp [execOp, ho, rho?_eq hx, rho?_eq hy, rho?_eq hz, rho?_eq hu, Instr.sliceAt, Instr.slice, run_underlying ht, Instr.sliceBounds, run_sliceBound, run_sizeOf hs, h0, h1, h2, h3, eh, em, (by omega : 0 ≤ j), (by omega : 0 ≤ m)]
end steps
theorem sl_off {b i cap sz x y : Nat} (h : cap ≠ i) : Value.slice (if cap = i then (some ⟨b, 0, none⟩ : Option Addr) else (some ⟨b, 0, none⟩ : Option Addr).map (·.add (i * sz))) x y = .slice (some ⟨b, i * sz, none⟩) x y := by
  rw [if_neg h]; simp only [Option.map_some, addr_add0]
theorem sl_head {b cap sz x y : Nat} : Value.slice (if cap = 0 then (some ⟨b, 0, none⟩ : Option Addr) else (some ⟨b, 0, none⟩ : Option Addr).map (·.add (0 * sz))) x (y - 0) = .slice (some ⟨b, 0, none⟩) x y := by
  split
  · rfl
  · simp only [Option.map_some, addr_add0, Nat.zero_mul, Nat.sub_zero]
end Go.Z
