/- Lemmas for walks: frames known by slots, heaps known by chunks. No conditions of its own. -/
import Derived.Test.YtmafglodgnbajaaZ15
namespace Go.Z
set_option linter.unusedVariables false
set_option linter.unusedSimpArgs false
open Go Go.RowKit
/-! A region of many orders: a tree of what may come next. -/
inductive Plan where
  | done : Plan
  | stop : Plan
  | q : Nat → Plan → Plan
  | alt : Nat → Plan → Plan → Plan
def Plan.alts : Plan → List Nat
  | .alt i _ r => i :: r.alts
  | _ => []
def Plan.get (j : Nat) : Plan → Option Plan
  | .alt i p r => if Nat.beq i j then some p else r.get j
  | _ => none
section
variable {P : Program} {ops : List Oper} {Q : Exit → Act → World → Prop} {M : List Nat} {w0 : World} {Δ Γc : List (Nat × Chunk)}
def WT (P : Program) (ops : List Oper) (C : World → Prop) (Q : Exit → Act → World → Prop) : Plan → Act → World → Prop
  | .done, a, w => ∀ w', F w w' → C w' → Q .normal a w'
  | .stop, _, _ => True
  | .q i r, a, w => ∃ o v, ops.toArray[i]? = some o ∧ QY P ops.toArray C o v a ∧ WT P ops C Q r (a.put o.dst v) w
  | .alt i p r, a, w => (∀ w', F w w' → sOp P ops.toArray i (fun a w1 => C w1 ∧ WT P ops C Q p a w1) a w') ∧ WT P ops C Q r a w
def planB (md : Region.Mode) (ops : Array Oper) : Plan → Bool → Nat → Array Bool → Bool
  | .done, _, n, l => Nat.beq n 0 && (Region.ready md ops l).isEmpty
  | .stop, t, _, _ => !t
  | .q i r, _, n, l => (match n with | 0 => false | m + 1 => (Region.ready md ops l).contains i && Region.free md ops l i && planB md ops r true m (l.setIfInBounds i true))
  | .alt i p r, top, n, l => (match n with | 0 => false | m + 1 => (!top || ((Region.ready md ops l).all (fun j => (i :: r.alts).contains j) && !(Region.ready md ops l).isEmpty)) && planB md ops p true m (l.setIfInBounds i true) && planB md ops r false n l)
theorem WT_get {C : World → Prop} {md : Region.Mode} {n : Nat} {l : Array Bool} {a : Act} {w : World} (j : Nat) : ∀ (p : Plan) (t : Bool), j ∈ p.alts → planB md ops.toArray p t (n + 1) l = true → WT P ops C Q p a w →
    ∃ p', p.get j = some p' ∧ planB md ops.toArray p' true n (l.setIfInBounds j true) = true ∧ ∀ w', F w w' → sOp P ops.toArray j (fun a w1 => C w1 ∧ WT P ops C Q p' a w1) a w'
  | .alt i p r, t, hj, hB, h => by
    simp only [planB, Bool.and_eq_true] at hB
    by_cases e : i = j
    · subst e
      exact ⟨p, by simp [Plan.get], hB.1.2, h.1⟩
    · have hj' : j ∈ r.alts := by
        simp only [Plan.alts, List.mem_cons] at hj
        rcases hj with rfl | hj
        · exact absurd rfl e
        · exact hj
      obtain ⟨p', h1, h2, h3⟩ := WT_get j r false hj' hB.2 h.2
      refine ⟨p', ?_, h2, h3⟩
      simp only [Plan.get]
      rw [if_neg (fun hh => e (Nat.eq_of_beq_eq_true hh))]; exact h1
  | .done, _, hj, _, _ => by simp [Plan.alts] at hj
  | .stop, _, hj, _, _ => by simp [Plan.alts] at hj
  | .q _ _, _, hj, _, _ => by simp [Plan.alts] at hj
theorem WT_WF {C : World → Prop} (hC : ∀ w w', F w w' → C w → C w') (hs : Region.noSelect ops.toArray = true) {md : Region.Mode} (n : Nat) : ∀ (p : Plan) (l : Array Bool) (a : Act) (w : World),
    planB md ops.toArray p true n l = true → C w → WT P ops C Q p a w → WF P md ops.toArray C Q n l a w := by
  induction n with
  | zero =>
    intro p l a w hB hw h
    cases p with
    | done =>
      simp only [planB, Bool.and_eq_true] at hB
      exact fun w' hw' => ⟨hC _ _ hw' hw, by simpa using hB.2, h w' hw' (hC _ _ hw' hw)⟩
    | stop => simp [planB] at hB
    | q i r => simp [planB] at hB
    | alt i p r => simp [planB] at hB
  | succ n ih =>
    intro p l a w hB hw h
    cases p with
    | done => simp [planB] at hB
    | stop => simp [planB] at hB
    | q i r =>
      simp only [planB, Bool.and_eq_true] at hB
      obtain ⟨⟨hr, hf⟩, hB⟩ := hB
      obtain ⟨o, v, hi, hy, h⟩ := h
      exact WF_first hi (Region.noSelect_spec hs) n l a w (Region.free_spec hi hf) (by simpa using hr) hy (ih r _ _ _ hB hw h)
    | alt i p r =>
      have hB' := hB
      simp only [planB, Bool.and_eq_true, Bool.not_true, Bool.false_or] at hB
      intro w' hw'
      refine ⟨hC _ _ hw' hw, fun h0 => ?_, fun k hk => ?_⟩
      · have := hB.1.1.2
        rw [h0] at this
        simp at this
      · have hk' : k ∈ (Plan.alt i p r).alts := by
          have := List.all_eq_true.1 hB.1.1.1 k hk
          simpa [Plan.alts] using this
        obtain ⟨p', h1, h2, h3⟩ := WT_get k _ _ hk' hB' h
        exact sOp.mono (fun a w1 h4 => ih p' _ _ _ h2 h4.1 h4.2) (h3 w' hw')
/-- **A REGION WHOSE ORDER IS DRAWN, all its orders.** -/
theorem wp_region_tree {id : Nat} {a : Act} {w : World} (p : Plan) (hm : P.follows .mixedOrders = true)
    (hB : (Region.noSelect ops.toArray && planB .any ops.toArray p true ops.length (Array.replicate ops.length false)) = true)
    (hs : Sat M w0 w Δ Γc) (h : Sat M w0 w.drew Δ Γc → WT P ops (fun w => Sat M w0 w Δ Γc) Q p a w.drew) : (Code.region id ops.toArray true).wp P Q a w := by
  simp only [Bool.and_eq_true] at hB
  obtain ⟨h1, h3⟩ := hB
  refine wp_region_any hm ?_
  have := (WT_WF (md := .any) (fun w w' h k => k.f h) h1 ops.length p _ a w.drew h3 hs.drew (h hs.drew)).any
  simpa using this
variable {C : World → Prop} {o : Oper} {p p' : Plan} {a : Act} {w w' : World} {σ : List (Nat × Value)} {n d i : Nat} {v : Value}
theorem wtl_nil (h : ∀ w', F w w' → C w' → Q .normal a w') : WT P ops C Q .done a w := h
theorem wt_stop : WT P ops C Q .stop a w := trivial
theorem tqst (v : Value) (hk : Kn σ n a) (hi : onth ops i = some o) (hd : o.dst = some d) (hdn : Nat.blt d n = true) (hw : wnt ops σ o = some true)
    (h : ∀ w, C w → wpList P ops.toArray (QE w ((d, v) :: σ) n) [o] a w)
    (next : ∀ a, Kn ((d, v) :: σ) n a → WT P ops C Q p a w) : WT P ops C Q (.q i p) a w := by
  have hwt := wnt_wanted hk o true hw
  have hdl : d < n := by simpa using hdn
  refine ⟨o, v, by simp [← onth_eq, hi], .inl ⟨hwt, fun w hC => ?_⟩, by rw [hd]; exact next _ (hk.put d v hdl)⟩
  have := h w hC
  unfold wpList at this
  rw [if_pos hwt] at this
  rcases this with this | ⟨_, h2⟩
  · unfold Oper.wp at this
    generalize (execOp a.eval o).run P w = r at *
    cases r with
    | ok m w' =>
      cases m <;> simp only [Oper.upon, wpList, QE] at this <;> simp only [qUpon]
      case value u => rw [hd] at this; exact ⟨this.1, put_inj this.2 hdl hk.size⟩
      case skip => rw [hd] at this; exact ⟨this.1, (put_inj this.2 hdl hk.size).symm⟩
      case enter =>
        refine this.mono fun e w2 h' => ?_
        cases e <;> simp only at h'
        case returned u => rw [hd] at h'; exact ⟨by rw [put_inj h'.2 hdl hk.size], h'.1⟩
        case outgrown => exact (QE.lets h').elim
      case row =>
        refine this.mono fun u w2 h' => ?_
        rw [hd] at h'; exact ⟨put_inj h'.2 hdl hk.size, h'.1⟩
      case defer => have := this.2.defers; rw [hd] at this; simp [Act.put] at this
      all_goals exact this
    | halt x w' => cases x <;> simp only [Oper.upon, QE] at this
  · exact (QE.lets h2).elim
theorem tqsk (hk : Kn σ n a) (hi : onth ops i = some o) (hd : o.dst = some d) (hdn : Nat.blt d n = true) (hw : wnt ops σ o = some false)
    (next : ∀ a, Kn ((d, undef) :: σ) n a → WT P ops C Q p a w) : WT P ops C Q (.q i p) a w :=
  ⟨o, undef, by simp [← onth_eq, hi], .inr ⟨wnt_wanted hk o false hw, rfl⟩, by rw [hd]; exact next _ (hk.put d undef (by simpa using hdn))⟩
theorem tsst (hk : Kn σ n a) (hi : onth ops i = some o) (hw : wnt ops σ o = some true)
    (h : ∀ K : Act → World → Prop, (∀ a w, WT P ops C Q p a w → K a w) → ∀ w', F w w' → wpList P ops.toArray (SE C K) [o] a w') (hr : WT P ops C Q p' a w) : WT P ops C Q (.alt i p p') a w := by
  have hwt := wnt_wanted hk o true hw
  refine ⟨?_, hr⟩
  intro w' hw'
  have := h _ (fun _ _ h => h) w' hw'
  unfold wpList at this
  rw [if_pos hwt] at this
  have hi' : ops.toArray[i]? = some o := by simp [← onth_eq, hi]
  unfold sOp
  simp only [hi', if_pos hwt]
  rcases this with this | ⟨_, h2⟩
  · unfold Oper.wp at this
    generalize hr : (execOp a.eval o).run P w' = r at *
    cases r with
    | ok m w' =>
      cases m <;> simp only [Oper.upon, wpList, SE] at this <;> simp only [sUpon]
      case value u => exact ⟨this.1, this.2.2⟩
      case skip => exact ⟨this.1, this.2.2⟩
      case enter =>
        refine this.mono fun e w2 h' => ?_
        cases e <;> simp only at h' ⊢
        case returned u => exact ⟨h'.1, h'.2.2⟩
        case outgrown => exact (SE.lets h').elim
      case row => exact this.mono fun _ _ h' => ⟨h'.1, h'.2.2⟩
      case defer =>
        have h1 := this.2.1
        cases hd : o.dst <;> rw [hd] at h1 <;> simp [Act.put] at h1
      all_goals exact this
    | halt x w' => cases x <;> simp only [Oper.upon, SE] at this
  · exact (SE.lets h2).elim
end
end Go.Z
