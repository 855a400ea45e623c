/- Lemmas for walks: frames known by slots, heaps known by chunks. No conditions of its own. -/
import Derived.Test.YteklgnhfgdhdiaaZ22
import Derived.MapKept
namespace Go.Z
set_option linter.unusedVariables false
set_option linter.unusedSimpArgs false
open Go Go.RowKit
def mref (A : Option Addr) : Option Nat := A.map (·.block)
/-- A map of the call's own, from integers, whose values are all true: its keys, in the order in which they came. -/
def OwnK (L : Lay Int) (E : TypeId) (A : Option Addr) (cap : Nat) (xs : List Int) (c : Chunk) : Prop :=
  ∃ b es ck, A = some ⟨b, 0, none⟩ ∧ c = [(b, .map es ck)] ∧ es.toList.map (·.key) = xs.map (fun x => Value.int .i64 x) ∧ ∀ e ∈ es.toList, e.val = .bool true
theorem findNow_int (kd : IntKind) : ∀ (es : List MapEntry) (xs : List Int) (i : Nat) (a : Int), es.map (·.key) = xs.map (fun x => Value.int .i64 x) → (∀ e ∈ es, e.val = .bool true) →
    (xs.contains a = false ∧ Instr.findNow (.int kd) (.int .i64 a) es i = some none) ∨ (xs.contains a = true ∧ ∃ j e, es[j]? = some e ∧ e.key = .int .i64 a ∧ Instr.findNow (.int kd) (.int .i64 a) es i = some (some (i + j, .bool true)))
  | [], xs, i, a, h, _ => by
    cases xs with
    | nil => exact .inl ⟨rfl, rfl⟩
    | cons x r => simp at h
  | e :: es, xs, i, a, h, hv => by
    cases xs with
    | nil => simp at h
    | cons x r =>
      simp only [List.map_cons, List.cons.injEq] at h
      have h1 := hv e (List.mem_cons_self ..)
      by_cases hx : a = x
      · subst hx
        refine .inr ⟨by simp, 0, e, rfl, h.1, ?_⟩
        simp [Instr.findNow, Instr.sameNow, h.1, h1]
      · have ih := findNow_int kd es r (i + 1) a h.2 (fun e he => hv e (List.mem_cons_of_mem _ he))
        have hc : (x :: r).contains a = r.contains a := by simp [List.contains_cons, hx]
        have hf : Instr.findNow (.int kd) (.int .i64 a) (e :: es) i = Instr.findNow (.int kd) (.int .i64 a) es (i + 1) := by
          have hxb : (a == x) = false := by simpa using hx
          simp [Instr.findNow, Instr.sameNow, h.1, hxb]
        rw [hc, hf]
        rcases ih with ih | ⟨h2, j, e2, h3, h4, h5⟩
        · exact .inl ih
        · exact .inr ⟨h2, j + 1, e2, by simpa using h3, h4, by rw [h5]; congr 3; omega⟩
section
variable {P : Program} {w : World}
theorem run_checkKeyI {e : Bool} {n : Nat} {kt : TypeId} {k k' : IntKind} {a : Int} (hk : P.underlying kt = some (.int k')) : (Instr.checkKey e (n + 1) kt (.int k a)).run P w = .ok () w := by
  simp [Instr.checkKey, run_underlying hk]
theorem run_lookupK {t kt et : TypeId} {b ck : Nat} {es : Array MapEntry} {xs : List Int} {a : Int} (ht : P.underlying t = some (.map kt et)) (hk : P.underlying kt = some (.int .i64)) (hz : zeroB P et = some (.bool false))
    (hb : w.heap[b]? = some (.map es ck)) (h : es.toList.map (·.key) = xs.map (fun x => Value.int .i64 x)) (hv : ∀ e ∈ es.toList, e.val = .bool true) :
    (Instr.lookup t (.map (some b)) (.int .i64 a) false).run P w = .ok (.bool (xs.contains a)) w := by
  have hf := findNow_int .i64 es.toList xs 0 a h hv
  have hzz := run_zero (w := w) hz
  have hck : ∀ e, (Instr.checkKey e 10000 kt (.int .i64 a)).run P w = .ok () w := fun e => run_checkKeyI (n := 9999) hk
  have hg : (getObj b).run P w = .ok (.map es ck) w := Go.MapKept.run_getObj_map hb
  rcases hf with ⟨h1, h2⟩ | ⟨h1, j, e, h3, h4, h2⟩
  · simp only [Instr.lookup, Sem.run_bind, run_underlying ht, Result.andThen_ok, hg, Sem.run_pure, hck, Instr.findKey, run_underlying hk, h2, hzz, h1]
    rfl
  · simp only [Instr.lookup, Sem.run_bind, run_underlying ht, Result.andThen_ok, hg, Sem.run_pure, hck, Instr.findKey, run_underlying hk, h2, h1]
    rfl
theorem run_updateK {t kt et : TypeId} {b ck : Nat} {es : Array MapEntry} {xs : List Int} {a : Int} (ht : P.underlying t = some (.map kt et)) (hk : P.underlying kt = some (.int .i64))
    (hb : w.heap[b]? = some (.map es ck)) (h : es.toList.map (·.key) = xs.map (fun x => Value.int .i64 x)) (hv : ∀ e ∈ es.toList, e.val = .bool true) :
    ∃ es' ck', (Instr.mapUpdate t (.map (some b)) (.int .i64 a) (.bool true)).run P w = (setObj b (.map es' ck')).run P w ∧ es'.toList.map (·.key) = (if xs.contains a then xs else xs ++ [a]).map (fun x => Value.int .i64 x) ∧ ∀ e ∈ es'.toList, e.val = .bool true := by
  have hf := findNow_int .i64 es.toList xs 0 a h hv
  have hck : ∀ e, (Instr.checkKey e 10000 kt (.int .i64 a)).run P w = .ok () w := fun e => run_checkKeyI (n := 9999) hk
  have hg : (getObj b).run P w = .ok (.map es ck) w := Go.MapKept.run_getObj_map hb
  rcases hf with ⟨h1, h2⟩ | ⟨h1, j, e, h3, h4, h2⟩
  · refine ⟨es.push { key := .int .i64 a, val := .bool true, born := ck }, ck + 1, ?_, ?_, ?_⟩
    · simp only [Instr.mapUpdate, Sem.run_bind, run_underlying ht, Result.andThen_ok, hg, hck, Instr.findKey, run_underlying hk, h2, Sem.run_pure]
    · rw [h1]; simp [h]
    · intro e he
      simp only [Array.toList_push, List.mem_append, List.mem_singleton] at he
      rcases he with he | rfl
      · exact hv e he
      · rfl
  · have h3' : es[0 + j]? = some e := by simpa using h3
    refine ⟨es.modify (0 + j) fun e => { e with key := .int .i64 a, val := .bool true }, ck, ?_, ?_, ?_⟩
    · simp only [Instr.mapUpdate, Sem.run_bind, run_underlying ht, Result.andThen_ok, hg, hck, Instr.findKey, run_underlying hk, h2, Sem.run_pure, h3', Option.map_some, Option.getD_some, h4, Instr.keyThatStays, Instr.sameBits]
      simp
    · rw [h1, if_pos rfl, ← h]
      apply List.ext_getElem?
      intro q
      simp only [List.getElem?_map, Array.toList_modify, List.getElem?_modify]
      by_cases hq : 0 + j = q
      · subst hq; simp at h3; simp [h3, h4]
      · cases es.toList[q]? with
        | none => rfl
        | some y => simp only [Option.map_some, Option.map_eq_map, if_neg hq]
    · intro x hx
      rw [Array.toList_modify] at hx
      obtain ⟨q, hq⟩ := List.mem_iff_getElem?.1 hx
      rw [List.getElem?_modify] at hq
      cases hh : es.toList[q]? with
      | none => rw [hh] at hq; simp at hq
      | some y =>
        rw [hh] at hq
        have hq := Option.some.inj hq
        subst hq
        split
        · rfl
        · exact hv y (List.mem_iff_getElem?.2 ⟨q, hh⟩)
end
/-- Another object in a block of the call's own. -/
theorem Sat.obj1 {M : List Nat} {w0 w : World} {Δ Γ : List (Nat × Chunk)} (h : Sat M w0 w Δ Γ) {k b : Nat} {o : Obj} (o' : Obj) (hk : kget Γ k = some [(b, o)]) : Sat M w0 { w with heap := w.heap.setIfInBounds b o' } Δ (kset Γ k [(b, o')]) := by
  have hbw : w.heap[b]? = some o := h.hasG hk _ (List.mem_singleton.2 rfl)
  have hlt : b < w.heap.size := by
    rcases Nat.lt_or_ge b w.heap.size with h' | h'
    · exact h'
    · simp [Array.getElem?_eq_none h'] at hbw
  have same : (w.heap.setIfInBounds b o')[b]? = some o' := by simp [hlt]
  have other : ∀ j, j ≠ b → (w.heap.setIfInBounds b o')[j]? = w.heap[j]? := fun j hj => by simp [Array.getElem?_setIfInBounds_ne (Ne.symm hj)]
  have hp := kget_perm hk
  have hp' := kset_perm (d := [(b, o')]) hk
  have hpp : (blks (kset Γ k [(b, o')])).Perm (blks Γ) := hp'.trans hp.symm
  have hmem : b ∈ cblk [(b, o)] := List.mem_singleton.2 rfl
  have hnd := (hp.nodup_iff.1 h.nodup)
  have hother : ∀ x ∈ kdel Γ k, ∀ y ∈ x.2, y.1 ≠ b := by
    intro x hx y hy e
    have h1 : y.1 ∈ blks (kdel Γ k) := blks_mem.2 ⟨x, hx, y.2, hy⟩
    have := (List.nodup_append.1 hnd).2.2
    exact this b hmem y.1 h1 e.symm
  refine ⟨h.os, h.tape, h.output, by simpa using h.size, ?_, ?_, ?_, hpp.symm.nodup_iff.1 h.nodup, ?_, ?_⟩
  · intro j hj hm
    show (w.heap.setIfInBounds b o')[j]? = _
    rw [other j (fun e => ?_)]
    · exact h.keep j hj hm
    · subst e
      rcases h.mine j (hp.symm.subset (List.mem_append_left _ hmem)) with h1 | h1
      · omega
      · exact hm h1
  · intro x hx y hy
    show (w.heap.setIfInBounds b o')[y.1]? = _
    rcases kset_mem hx with e | hx
    · rw [e] at hy
      rw [List.mem_singleton.1 hy]; exact same
    · rw [other y.1 (hother x hx y hy)]
      exact h.has x (kdel_mem hx) y hy
  · intro x hx y hy
    show (w.heap.setIfInBounds b o')[y.1]? = _
    rw [other y.1 (fun e => ?_)]
    · exact h.ro x hx y hy
    · exact h.apart y.1 (blks_mem.2 ⟨x, hx, y.2, hy⟩) (e ▸ hp.symm.subset (List.mem_append_left _ hmem))
  · intro j hj
    exact h.mine j (hpp.subset hj)
  · intro j hj hj'
    exact h.apart j hj (hpp.subset hj')
section steps
variable {P : Program} {ops : List Oper} {Q : Exit → Act → World → Prop} {o : Oper} {rest : List Oper} {a : Act} {w w' : World} {σ : List (Nat × Value)} {n d : Nat} {M : List Nat} {w0 : World} {Δ Γ : List (Nat × Chunk)}
/-- A NEW MAP. -/
theorem smm (k : Nat) {t : TypeId} {L : Lay Int} {E : TypeId} (hs : Sat M w0 w Δ Γ) (ho : o.op = .makeMap t none) (hk : Kn σ n a) (hd : o.dst = some d) (hc : chk ops n σ o d = true)
    (next : ∀ b c w' a, Kn ((d, .map (mref (some ⟨b, 0, none⟩))) :: σ) n a → OwnK L E (some ⟨b, 0, none⟩) 0 [] c → Sat M w0 w' Δ ((k, c) :: Γ) → wpList P ops.toArray Q rest a w') : wpList P ops.toArray Q (o :: rest) a w :=
  sv (.map (some w.heap.size)) (w' := w.alloc (.map #[] 0)) hk hd hc (by simp only [execOp, ho]; rfl) fun a hk => next w.heap.size _ _ a hk ⟨_, #[], 0, rfl, rfl, rfl, by simp⟩ (hs.alloc k _)
/-- A LOOK INTO A MAP. -/
theorem slk (k : Nat) {t kt et E : TypeId} {L : Lay Int} {A : Option Addr} {cap : Nat} {xs : List Int} {c : Chunk} {x y : Operand} {i : Int} (hs : Sat M w0 w Δ Γ) (hg : kget Γ k = some c) (hown : OwnK L E A cap xs c)
    (ho : o.op = .lookup t x y false) (hk : Kn σ n a) (hd : o.dst = some d) (hx : rho? σ x = some (.map (mref A))) (hy : rho? σ y = some (.int .i64 i)) (hc : chk ops n σ o d = true)
    (ht : P.underlying t = some (.map kt et)) (hkt : P.underlying kt = some (.int .i64)) (hz : zeroB P et = some (.bool false))
    (next : ∀ a, Kn ((d, .bool (xs.contains i)) :: σ) n a → wpList P ops.toArray Q rest a w) : wpList P ops.toArray Q (o :: rest) a w := by
  obtain ⟨b, es, ck, rfl, rfl, h1, h2⟩ := hown
  have hr := run_lookupK (P := P) (a := i) ht hkt hz (hs.hasG hg _ (List.mem_singleton.2 rfl)) h1 h2
  exact sv _ hk hd hc (by
    have hx' : rho σ x = .map (some b) := rho?_eq hx
    simp only [execOp, ho, hx', rho?_eq hy, Sem.run_bind, hr, Result.andThen_ok, Sem.run_pure]) next
/-- A STORE OF true INTO A MAP. -/
theorem smu (k : Nat) {t kt et E : TypeId} {L : Lay Int} {A : Option Addr} {cap : Nat} {xs : List Int} {c : Chunk} {x y z : Operand} {i : Int} (hs : Sat M w0 w Δ Γ) (hg : kget Γ k = some c) (hown : OwnK L E A cap xs c)
    (ho : o.op = .mapUpdate t x y z) (hk : Kn σ n a) (hd : o.dst = none) (hx : rho? σ x = some (.map (mref A))) (hy : rho? σ y = some (.int .i64 i)) (hz : rho? σ z = some (.bool true)) (hc : chk0 ops σ o = true)
    (ht : P.underlying t = some (.map kt et)) (hkt : P.underlying kt = some (.int .i64))
    (next : ∀ c' w' a, Kn σ n a → OwnK L E A cap (if xs.contains i then xs else xs ++ [i]) c' → Sat M w0 w' Δ (kset Γ k c') → wpList P ops.toArray Q rest a w') : wpList P ops.toArray Q (o :: rest) a w := by
  obtain ⟨b, es, ck, rfl, rfl, h1, h2⟩ := hown
  have hb := hs.hasG hg _ (List.mem_singleton.2 rfl)
  obtain ⟨es', ck', hr, h3, h4⟩ := run_updateK (P := P) (a := i) ht hkt hb h1 h2
  rw [Go.MapKept.run_setObj_map _ hb] at hr
  exact su hk hd hc (by
    have hx' : rho σ x = .map (some b) := rho?_eq hx
    simp only [execOp, ho, hx', rho?_eq hy, rho?_eq hz, Sem.run_bind, hr, Result.andThen_ok, Sem.run_pure]) fun a hk => next _ _ a hk ⟨b, es', ck', rfl, rfl, h3, h4⟩ (hs.obj1 _ hg)
end steps
end Go.Z
