/- Lemmas for walks: frames known by slots, heaps known by chunks. No conditions of its own. -/
import Derived.Test.YteklgnhfgdhdiaaZ24
import Derived.RangeFuncRecord
import Derived.RangeFuncSeq
import Derived.RangeFuncLeaves
import Derived.Sort.LoopGhostIn
import Derived.OrdersIn
namespace Go.Z
set_option linter.unusedVariables false
set_option linter.unusedSimpArgs false
open Go Go.RowKit
def _root_.Go.Obj.isCellsZ : Obj → Bool
  | .cells .. => true
  | _ => false
/-! Code in a round of a range over a function, under the fence that lets all in. -/
abbrev RF (r : Nat) : Fence := Fence.wide.inRound r
def nodef (l : List Oper) : Bool := l.all fun o => match o.op with | .defer _ => false | _ => true
theorem nodef_spec {l : List Oper} (h : nodef l = true) {o : Oper} (ho : o ∈ l) : ∀ c, o.op ≠ .defer c := fun c e => by
  have := List.all_eq_true.1 h o ho
  rw [e] at this; cases this
section
variable {P : Program} {r m : Nat} {Q : Exit → Act → World → Prop} {ops : Array Oper}
theorem upon_in {o : Oper} {a : Act} {K K' : Act → World → Prop} {res : Result Next} (hk : ∀ a w, K a w → K' a w) (h : o.upon P a K Q res) : o.uponIn (RF r) m P a K' Q res := by
  cases res with
  | ok x w' =>
    cases x <;> simp only [Oper.upon] at h <;> simp only [Oper.uponIn]
    case value => exact hk _ _ h
    case skip => exact hk _ _ h
    case defer => exact hk _ _ h
    case enter =>
      refine ⟨fun hh => by simp [RF, Fence.wide] at hh, ?_⟩
      have h2 : CallsIn Fence.wide (m - 1) P _ _ _ _ := callsIn_wide.2 h
      exact CallsIn.mono (F := RF r) h2 fun e w' he => by
        cases e with
        | returned v => exact hk _ _ he
        | panicked c => exact he
        | outgrown => exact he
    case row =>
      exact ⟨fun hh => by simp [RF, Fence.wide] at hh, fun c cs _ => let ⟨v, w', q, s⟩ := h c cs; ⟨v, w', hk _ _ q, stepsIn_wide.2 s⟩⟩
  | halt x w' => cases x <;> simp only [Oper.upon] at h <;> simp only [Oper.uponIn] <;> exact h
theorem oper_in {o : Oper} {a : Act} {w : World} {K K' : Act → World → Prop} (hd : ∀ c, o.op ≠ .defer c) (hk : ∀ a w, K a w → K' a w) (h : o.wp P a w K Q) : o.wpIn (RF r) m P a w K' Q :=
  ⟨fun _ _ => trivial, by rw [show (RF r).round = some r from rfl, Oper.semAt_some r _ _ hd]; exact upon_in hk h⟩
theorem wpl_round (hQ : ¬ LetsOut Q) : ∀ (l : List Oper) (a : Act) (w : World), nodef l = true → wpList P ops Q l a w → wpListIn (RF r) m P ops Q l a w
  | [], _, _, _, h => h
  | o :: l, a, w, hn, h => by
    have hn2 : nodef l = true := by
      simp only [nodef, List.all_cons, Bool.and_eq_true] at hn; exact hn.2
    unfold wpList at h
    unfold wpListIn
    split
    · rename_i hw
      rw [if_pos hw] at h
      rcases h with h | ⟨_, h⟩
      · exact oper_in (nodef_spec hn (List.mem_cons_self ..)) (fun a w h => wpl_round hQ l a w hn2 h) h
      · exact absurd h hQ
    · rename_i hw
      rw [if_neg hw] at h
      exact ⟨fun _ _ => trivial, wpl_round hQ l _ w hn2 h⟩
theorem rin_lit {id : Nat} {l : List Oper} {a : Act} {w : World} (hn : nodef l = true) (hQ : ¬ LetsOut Q) (h : wpList P l.toArray Q l a w) : (Code.region id l.toArray false).wpIn (RF r) m P Q a w :=
  wpIn_region_lit (wpl_round hQ l a w hn h)
theorem wpAny_round {md : Region.Mode} (hQ : ¬ LetsOut Q) (hn : nodef ops.toList = true) : ∀ (n : Nat) (l : Array Bool) (a : Act) (w : World), wpAny P md ops Q n l a w → wpAnyIn (RF r) m P md ops Q n l a w
  | 0, _, _, _, h => h
  | n + 1, l, a, w, h => ⟨h.1, fun i hi => by
    have := h.2 i hi
    unfold wpOp at this
    unfold wpOpIn
    split
    · rename_i ho; simp only [ho] at this; exact wpAny_round hQ hn n _ a w this
    · rename_i o ho
      simp only [ho] at this
      split
      · rename_i hw
        simp only [hw, if_true] at this
        rcases this with this | ⟨_, h2⟩
        · exact oper_in (nodef_spec hn (by simpa using Array.mem_of_getElem? ho)) (fun a w h => wpAny_round hQ hn n _ a w h) this
        · exact absurd h2 hQ
      · rename_i hw
        simp only [hw] at this
        exact ⟨fun _ _ => trivial, wpAny_round hQ hn n _ _ w this⟩⟩
end
section
variable {P : Program} {r m : Nat} {ops : List Oper} {Q : Exit → Act → World → Prop} {M : List Nat} {w0 : World} {Δ Γc : List (Nat × Chunk)}
theorem rin_mix {id : Nat} {a : Act} {w : World} (p : List (Nat × Bool)) (hm : P.follows .mixedOrders = true)
    (hB : (nodef ops && (Region.noSelect ops.toArray && Nat.beq p.length ops.length && mixB .any ops.toArray p (Array.replicate ops.length false))) = true) (hQ : ¬ LetsOut Q)
    (hs : Sat M w0 w Δ Γc) (h : Sat M w0 w.drew Δ Γc → WM P ops (fun w => Sat M w0 w Δ Γc) Q p a w.drew) : (Code.region id ops.toArray true).wpIn (RF r) m P Q a w := by
  simp only [Bool.and_eq_true] at hB
  obtain ⟨hn, ⟨h1, h2⟩, h3⟩ := hB
  refine wpIn_region_any hm (wpAny_round hQ (by simpa using hn) _ _ _ _ ?_)
  have := (WM_WF (md := .any) (fun w w' h k => k.f h) h1 p _ a w.drew h3 hs.drew (h hs.drew)).any
  have e : p.length = ops.length := Nat.eq_of_beq_eq_true h2
  rw [e] at this
  simpa using this
theorem rin_tree {id : Nat} {a : Act} {w : World} (p : Plan) (hm : P.follows .mixedOrders = true)
    (hB : (nodef ops && (Region.noSelect ops.toArray && planB .any ops.toArray p true ops.length (Array.replicate ops.length false))) = true) (hQ : ¬ LetsOut Q)
    (hs : Sat M w0 w Δ Γc) (h : Sat M w0 w.drew Δ Γc → WT P ops (fun w => Sat M w0 w Δ Γc) Q p a w.drew) : (Code.region id ops.toArray true).wpIn (RF r) m P Q a w := by
  simp only [Bool.and_eq_true] at hB
  obtain ⟨hn, h1, h3⟩ := hB
  refine wpIn_region_any hm (wpAny_round hQ (by simpa using hn) _ _ _ _ ?_)
  have := (WT_WG (md := .any) (fun w w' h k => k.f h) h1 ops.length p _ a w.drew h3 hs.drew (h hs.drew)).any
  simpa using this
end
section
variable {P : Program} {F : Fence} {m : Nat} {Q : Exit → Act → World → Prop} {a : Act} {w : World} {σ : List (Nat × Value)} {n : Nat}
theorem cndI_true {c : Operand} {x y : Code} (hk : Kn σ n a) (hc : rho? σ c = some (.bool true)) (hn : okn σ c = true) (h : x.wpIn F m P Q a w) : (Code.cond c x y).wpIn F m P Q a w :=
  wpIn_cond_true (by rw [hk.eval c hn, rho?_eq hc]) h
theorem cndI_false {c : Operand} {x y : Code} (hk : Kn σ n a) (hc : rho? σ c = some (.bool false)) (hn : okn σ c = true) (h : y.wpIn F m P Q a w) : (Code.cond c x y).wpIn F m P Q a w :=
  wpIn_cond_false (by rw [hk.eval c hn, rho?_eq hc]) h
theorem wpI_cutq {c : Code} (R : Act → World → Prop) (h : c.wpIn F m P (Exit.then R Q) a w) (k : ∀ a w, R a w → Q .normal a w) : c.wpIn F m P Q a w :=
  wpIn_mono h fun e a w q => by cases e <;> first | exact k _ _ q | exact q
theorem Kn.frame (h : Kn σ n a) : Kn σ n { tmps := a.tmps, defers := [] } := ⟨rfl, h.size, h.slot⟩
end
/-! Behind the loop: a mark among the deferred calls. -/
def addD (ds : List Deferred) (a : Act) : Act := { a with defers := a.defers ++ ds }
def mkD (D : Nat) : Deferred := { target := .collected D, args := #[] }
section
variable {P : Program} {ops : Array Oper} {Q : Exit → Act → World → Prop} {ds : List Deferred}
theorem wpl_mark : ∀ (l : List Oper) (a : Act) (w : World), wpList P ops (fun e a w => Q e (addD ds a) w) l a w → wpList P ops Q l (addD ds a) w
  | [], _, _, h => h
  | o :: l, a, w, h => by
    have hput : ∀ (a : Act) (d : Option Nat) (v : Value), (addD ds a).put d v = addD ds (a.put d v) := fun a d v => by cases d <;> rfl
    have hl : LetsOut (fun e a w => Q e (addD ds a) w) → LetsOut Q := fun ⟨a, w, h⟩ => ⟨_, w, h⟩
    unfold wpList at h ⊢
    show if Region.wanted o (yielded ops a.tmps) = true then _ else _
    split
    · rename_i hw
      rw [if_pos hw] at h
      rcases h with h | ⟨h1, h2⟩
      · left
        unfold Oper.wp at h ⊢
        have he : (addD ds a).eval = a.eval := rfl
        rw [he]
        generalize (execOp a.eval o).run P w = res at *
        cases res with
        | ok x w' =>
          cases x <;> simp only [Oper.upon] at h ⊢
          case value => rw [hput]; exact wpl_mark l _ _ h
          case skip => rw [hput]; exact wpl_mark l _ _ h
          case defer d =>
            have : ({ addD ds a with defers := d :: (addD ds a).defers } : Act) = addD ds { a with defers := d :: a.defers } := rfl
            rw [this, hput]; exact wpl_mark l _ _ h
          case enter =>
            refine h.mono fun e w' he => ?_
            cases e <;> simp only at he ⊢
            · rw [hput]; exact wpl_mark l _ _ he
            · exact he
            · exact hl he
          case row => exact h.mono fun v w' he => by rw [hput]; exact wpl_mark l _ _ he
          all_goals exact h
        | halt x w' => cases x <;> simp only [Oper.upon] at h ⊢ <;> exact h
      · exact .inr ⟨h1, hl h2⟩
    · rename_i hw
      rw [if_neg hw] at h
      rw [hput]; exact wpl_mark l _ w h
theorem rmark_lit {id : Nat} {l : List Oper} {a : Act} {w : World} (h : wpList P l.toArray (fun e a w => Q e (addD ds a) w) l a w) : (Code.region id l.toArray false).wp P Q (addD ds a) w :=
  wp_region_lit (wpl_mark l a w h)
end
/-! Chunks that what is no cells leaves alone. -/
def Stay (w0 : World) (c : Chunk) : Prop := ∀ x ∈ c, x.1 < w0.heap.size ∨ x.2.isCellsZ = true
def StayL (w0 : World) (Γ : List (Nat × Chunk)) : Prop := ∀ x ∈ Γ, Stay w0 x.2
theorem StayL.nil (w0 : World) : StayL w0 [] := fun _ h => by simp at h
theorem StayL.cons {w0 : World} {k : Nat} {c : Chunk} {Γ : List (Nat × Chunk)} (h : Stay w0 c) (r : StayL w0 Γ) : StayL w0 ((k, c) :: Γ) := fun x hx => by
  rcases List.mem_cons.1 hx with rfl | hx
  · exact h
  · exact r x hx
theorem Stay.nil (w0 : World) : Stay w0 [] := fun _ h => by simp at h
theorem Stay.box {w0 : World} {b : Nat} {cs : Array Value} {t : TypeId} {fr : Nat × Nat} : Stay w0 [(b, .cells cs t fr)] := fun x hx => by rw [List.mem_singleton.1 hx]; exact .inr rfl
theorem Stay.has {w0 : World} {c : Chunk} (h : Has w0 c) : Stay w0 c := fun x hx => .inl (Array.getElem?_eq_some_iff.1 (h x hx)).1
theorem Stay.app {w0 : World} {c d : Chunk} (h : Stay w0 c) (k : Stay w0 d) : Stay w0 (c ++ d) := fun x hx => by
  rcases List.mem_append.1 hx with hx | hx
  · exact h x hx
  · exact k x hx
/-- What is one's own is in cells alone. -/
def LC {α : Type} (L : Lay α) : Prop := ∀ x es c, L.own x es c → ∀ y ∈ c, y.2.isCellsZ = true
theorem LC.flat {α : Type} {n : Nat} {enc : α → List Value} {h1 : ∀ x, (enc x).length = n} {h2 : ∀ x, ∀ u ∈ enc x, u.oneCell' = true} : LC (Lay.flat n enc h1 h2) := fun x es c h y hy => by
  rw [h.2] at hy; simp at hy
theorem AllOwn.lc {α : Type} {L : Lay α} (hL : LC L) {xs : List α} {ess : List (List Value)} {c : Chunk} (h : AllOwn L xs ess c) : ∀ y ∈ c, y.2.isCellsZ = true := by
  induction h with
  | nil => simp
  | cons h1 _ ih =>
    intro y hy
    rcases List.mem_append.1 hy with hy | hy
    · exact hL _ _ _ h1 y hy
    · exact ih y hy
theorem Row.lc {α : Type} {L : Lay α} (hL : LC L) {E : TypeId} {b cap : Nat} {xs : List α} {c : Chunk} (h : Row L E b cap xs c) : ∀ y ∈ c, y.2.isCellsZ = true := by
  obtain ⟨cs, ess, d, rfl, ha, _⟩ := h
  intro y hy
  rcases List.mem_cons.1 hy with rfl | hy
  · rfl
  · exact ha.lc hL y hy
theorem LC.sl {α : Type} {L : Lay α} (hL : LC L) {E : TypeId} : LC (Lay.sl L E) := fun xs es c h y hy => by
  obtain ⟨v, _, h | ⟨b, cap, _, h⟩⟩ := h
  · rw [h.2.2] at hy; simp at hy
  · exact h.lc hL y hy
theorem LC.pair {α β : Type} {L : Lay α} {K : Lay β} (hL : LC L) (hK : LC K) : LC (Lay.pair L K) := fun x es c h y hy => by
  obtain ⟨a, b, d, e, _, rfl, h1, h2⟩ := h
  rcases List.mem_append.1 hy with hy | hy
  · exact hL _ _ _ h1 y hy
  · exact hK _ _ _ h2 y hy
theorem LC.map {α β : Type} {L : Lay α} {f : β → α} (hL : LC L) : LC (Lay.map L f) := fun x es c h y hy => hL _ _ _ h y hy
theorem Own.stay {α : Type} {L : Lay α} (hL : LC L) {w0 : World} {E : TypeId} {A : Option Addr} {cap : Nat} {xs : List α} {c : Chunk} (h : Own L E A cap xs c) : Stay w0 c := fun y hy => by
  rcases h with ⟨_, _, _, rfl⟩ | ⟨b, _, h⟩
  · simp at hy
  · exact .inr (h.lc hL y hy)
theorem OwnM.stay {α : Type} {L : Lay α} {w0 : World} {E : TypeId} {A : Option Addr} {cap : Nat} {xs : List α} {c : Chunk} (h : OwnM L E A cap xs c) : Stay w0 c := by
  obtain ⟨b, cs, ess, fr, _, rfl, _⟩ := h
  exact Stay.box
section
variable {M : List Nat} {w0 w : World} {Δ Γ : List (Nat × Chunk)}
theorem stay_ne {wb : World} {A : List (Nat × Chunk)} (hA : StayL wb A) (hh : ∀ x ∈ A, Has w x.2) {l : Nat} {o : Obj} (hl : w.heap[l]? = some o) (ho : o.isCellsZ = false) (h0 : wb.heap.size ≤ l) : l ∉ blks A := fun hb => by
  obtain ⟨x, hx, o2, ho2⟩ := blks_mem.1 hb
  have h1 := hh x hx _ ho2
  simp only at h1
  rw [hl] at h1
  cases h1
  rcases hA x hx _ ho2 with h | h
  · simp only at h; omega
  · simp only at h; rw [ho] at h; cases h
theorem Sat.putObj (h : Sat M w0 w Δ Γ) {wb : World} {l : Nat} {o : Obj} (o' : Obj) (hl : w.heap[l]? = some o) (ho : o.isCellsZ = false) (h0 : w0.heap.size ≤ l) (hb : wb.heap.size ≤ l) (hΔ : StayL wb Δ) (hΓ : StayL wb Γ) : Sat M w0 (w.putObj l o') Δ Γ := by
  have n1 := stay_ne hΓ h.has hl ho hb
  have n2 := stay_ne hΔ h.ro hl ho hb
  have key : ∀ (A : List (Nat × Chunk)), l ∉ blks A → (∀ x ∈ A, Has w x.2) → ∀ x ∈ A, Has (w.putObj l o') x.2 := fun A hA hh x hx y hy => by
    have hm : y.1 ∈ blks A := blks_mem.2 ⟨x, hx, y.2, hy⟩
    rw [World.putObj_heap_other (fun e => hA (by rw [← e]; exact hm))]
    exact hh x hx y hy
  exact ⟨h.os, h.tape, h.output, by simpa using h.size, fun k hk hm => by rw [World.putObj_heap_other (by omega)]; exact h.keep k hk hm, key Γ n1 h.has, key Δ n2 h.ro, h.nodup, h.mine, h.apart⟩
theorem Sat.allocO (h : Sat M w0 w Δ Γ) (o : Obj) : Sat M w0 (w.alloc o) Δ Γ := h.step rfl rfl rfl (by simp) (fun k hk => by rw [_root_.Go.heap_alloc_old w o hk])
/-- All is handed over. -/
theorem Sat.whole (h : Sat M w0 w Δ Γ) : Sat (blks Γ) w w Δ Γ := Sat.init w Δ Γ h.ro h.has h.nodup h.apart
theorem Sat.backAll (h : Sat M w0 w Δ Γ) {w' : World} {Δ' Γ' : List (Nat × Chunk)} (h' : Sat (blks Γ) w w' Δ' Γ') : Sat M w0 w' Δ Γ' := by
  have hcm : ∀ b ∈ blks Γ, w0.heap.size ≤ b ∨ b ∈ M := h.mine
  refine ⟨h'.os.trans h.os, h'.tape.trans h.tape, h'.output.trans h.output, Nat.le_trans h.size h'.size, ?_, h'.has, ?_, h'.nodup, ?_, ?_⟩
  · intro j hj hm
    rw [h'.keep j (Nat.lt_of_lt_of_le hj h.size) (fun hc => ?_)]
    · exact h.keep j hj hm
    · rcases hcm j hc with h1 | h1
      · omega
      · exact hm h1
  · intro x hx y hy
    have := h.ro x hx y hy
    rw [h'.keep y.1 (Array.getElem?_eq_some_iff.1 this).1 (h.apart y.1 (blks_mem.2 ⟨x, hx, y.2, hy⟩))]; exact this
  · intro b hb
    rcases h'.mine b hb with h1 | h1
    · exact .inl (Nat.le_trans h.size h1)
    · exact hcm b h1
  · intro b hd hb
    rcases h'.mine b hb with h1 | h1
    · have := h.lt b (.inr hd); omega
    · exact h.apart b hd h1
end
/-- An iterator that hands out encs 0, encs 1, .., encs (N - 1), as long as yield says yes, reads C0 alone, and writes nothing. -/
def SeqCnt (P : Program) (gf b : Nat) (C0 : Chunk) (encs : Nat → Array Value) (N : Nat) : Prop :=
  ∀ (l : Nat) (J : Nat → World → Prop) (Jx : World → Prop) (W : World), (∀ k W, J k W → Has W C0) →
    (∀ k W, J k W → k < N → YieldAt Fence.wide 0 P l (encs k) W fun e W' => (e = .returned (.bool true) ∧ J (k + 1) W') ∨ (e = .returned (.bool false) ∧ Jx W')) →
    J 0 W → CallsIn Fence.wide 0 P gf #[.func (.yield l) #[] #[], .pointer (some ⟨b, 0, none⟩)] W fun e W' => (∃ v, e = .returned v) ∧ (J N W' ∨ Jx W')
/-- How a round may end. -/
def PostR (InvK InvX : List (Nat × Chunk) → Prop) (w0 : World) (M : List Nat) (W : World) (Δ : List (Nat × Chunk)) : Exit → Act → World → Prop
  | .normal, _, W' => ∃ Γ', InvK Γ' ∧ StayL w0 Γ' ∧ Sat M W W' Δ Γ'
  | .ret, _, W' => ∃ Γ', InvX Γ' ∧ StayL w0 Γ' ∧ Sat M W W' Δ Γ'
  | _, _, _ => False
/-- **A RANGE OVER SUCH AN ITERATOR.** -/
theorem rf_law {P : Program} {M : List Nat} {w0 w : World} {Δ : List (Nat × Chunk)} {Q : Exit → Act → World → Prop} {a : Act} {g : Operand} {ps : Array Tmp} {assign body : Code} {gf b N : Nat} {C0 : Chunk} {encs : Nat → Array Value}
    (Inv : Nat → List (Nat × Chunk) → Prop) (InvX : List (Nat × Chunk) → Prop) (Γ0 : List (Nat × Chunk))
    (ha : a.defers = []) (hg : a.eval g = .func (.func gf) #[] #[.pointer (some ⟨b, 0, none⟩)]) (eg : Enters P gf) (hseq : SeqCnt P gf b C0 encs N) (hps : ∀ k, (encs k).size = ps.size)
    (hC : ∀ k W Γ, Inv k Γ → Sat M w0 W Δ Γ → Has W C0) (hΔ : StayL w0 Δ) (h0 : Inv 0 Γ0) (hst : StayL w0 Γ0) (hs : Sat M w0 w Δ Γ0)
    (hround : ∀ r k W Γ, Inv k Γ → StayL w0 Γ → Sat M w0 W Δ Γ → k < N →
      assign.wpIn (RF r) 0 P (Exit.then (fun a1 W1 => ∃ Γ1, StayL w0 Γ1 ∧ Sat (blks Γ) W W1 Δ Γ1 ∧ ∀ W2, Sat M w0 W2 Δ Γ1 → body.wpIn (RF r) 0 P (PostR (Inv (k + 1)) InvX w0 (blks Γ1) W2 Δ) a1 W2) (fun _ _ _ => False))
        { tmps := (ps.zip (encs k)).foldl (fun t (p, v) => t.setIfInBounds p v) a.tmps, defers := [] } W)
    (hdone : ∀ D W Γ, Inv N Γ → StayL w0 Γ → Sat M w0 W Δ Γ → w0.heap.size ≤ D → W.heap[D]? = some (.deferred (some [])) → Q .normal (addD [mkD D] a) W)
    (hstop : ∀ D W Γ, InvX Γ → StayL w0 Γ → Sat M w0 W Δ Γ → w0.heap.size ≤ D → W.heap[D]? = some (.deferred (some [])) → Q .ret (addD [mkD D] a) W) :
    (Code.rangeFunc g ps assign body).wp P Q a w := by
  refine (wpIn_wide (n := 0)).1 (wpIn_rangeFunc (F := Fence.wide) fun fn _ => ?_)
  obtain ⟨rec, hrec⟩ : ∃ rec : LoopState → Option Code → Loop, rec = fun st pe => { state := st, pending := pe, fn, tmps := a.tmps, params := ps, assign, body, defers := w.heap.size } := ⟨_, rfl⟩
  obtain ⟨W1, hW1⟩ : ∃ W1, (w.alloc (.deferred (some []))).alloc (.loop (rec .ready none)) = W1 := ⟨_, rfl⟩
  have hws : w0.heap.size ≤ w.heap.size := hs.size
  have hL1 : W1.heap[w.heap.size + 1]? = some (.loop (rec .ready none)) := by
    rw [← hW1]; have := World.alloc_heap_new (w.alloc (.deferred (some []))) (.loop (rec .ready none)); rwa [World.size_alloc] at this
  have hD1 : W1.heap[w.heap.size]? = some (.deferred (some [])) := by
    rw [← hW1, _root_.Go.heap_alloc_old _ _ (by simp)]; exact World.alloc_heap_new w _
  have hs1 : Sat M w0 W1 Δ Γ0 := by rw [← hW1]; exact (hs.allocO _).allocO _
  have hmk : ({ a with defers := [mkD w.heap.size] ++ a.defers } : Act) = addD [mkD w.heap.size] a := by
    cases a; simp only at ha; subst ha; rfl
  refine ⟨w.heap.size + 1, [mkD w.heap.size], W1, { target := .fn (.func gf) #[.pointer (some ⟨b, 0, none⟩)], args := #[.func (.yield (w.heap.size + 1)) #[] #[]] }, W1, gf,
    #[.func (.yield (w.heap.size + 1)) #[] #[]] ++ #[.pointer (some ⟨b, 0, none⟩)], W1, ?_, ?_, ?_, ?_, fun hh => by simp [Fence.wide] at hh, ?_⟩
  · rw [← hW1, hrec]; exact run_enterLoop_outer _ _ _ _ _
  · simp only [rangeCall, resolve, hg]
    simp [Deferred.ofValue, Act.eval]
  · intro f' _; trivial
  · simp only [invoke]; exact eg _ _
  rw [hmk]
  let J : Nat → World → Prop := fun k W => ∃ Γ, Inv k Γ ∧ StayL w0 Γ ∧ Sat M w0 W Δ Γ ∧ W.heap[w.heap.size + 1]? = some (.loop (rec .ready none)) ∧ W.heap[w.heap.size]? = some (.deferred (some []))
  let Jx : World → Prop := fun W => ∃ Γ, InvX Γ ∧ StayL w0 Γ ∧ Sat M w0 W Δ Γ ∧ W.heap[w.heap.size + 1]? = some (.loop (rec .done (some .ret))) ∧ W.heap[w.heap.size]? = some (.deferred (some []))
  have hcall := hseq (w.heap.size + 1) J Jx W1 (fun k W ⟨Γ, hi, _, hS, _⟩ => hC k W Γ hi hS) (fun k W hJ hk => ?_) ⟨Γ0, h0, hst, hs1, hL1, hD1⟩
  · refine (callsIn_wide.2 (callsIn_wide.1 hcall)).mono ?_
    rintro e W2 ⟨⟨v, rfl⟩, ⟨Γ, hi, hSt, hS, hl, hd⟩ | ⟨Γ, hi, hSt, hS, hl, hd⟩⟩
    · have he := run_endLoop (P := P) hl (by rw [hrec]; simp)
      rw [hrec] at he
      refine ⟨none, _, he, hdone w.heap.size _ Γ hi hSt (hS.putObj _ hl rfl (by omega) (by omega) hΔ hSt) hws ((World.putObj_heap_other (by omega)).trans hd)⟩
    · have he := run_endLoop (P := P) hl (by rw [hrec]; simp)
      rw [hrec] at he
      refine ⟨some .ret, _, he, wpIn_ret (hstop w.heap.size _ Γ hi hSt (hS.putObj _ hl rfl (by omega) (by omega) hΔ hSt) hws ((World.putObj_heap_other (by omega)).trans hd))⟩
  · obtain ⟨Γ, hi, hSt, hS, hl, hd⟩ := hJ
    have hy := run_yield (P := P) (args := encs k) hl (by rw [hrec]; exact hps k)
    rw [hrec] at hy
    refine ⟨fn, _, assign, body, hy, roundIn_of_wpIn trivial (wpIn_mono (hround (w.heap.size + 1) k W Γ hi hSt hS hk) ?_)⟩
    have stays : ∀ {X Y : World} {A B : List (Nat × Chunk)} {l : Nat} {o : Obj}, StayL w0 A → Sat (blks A) X Y Δ B → (∀ x ∈ A, Has X x.2) → X.heap[l]? = some o → o.isCellsZ = false → w0.heap.size ≤ l → Y.heap[l]? = some o := fun hA hXY hh hl ho h0 => by
      rw [hXY.keep _ (Array.getElem?_eq_some_iff.1 hl).1 (stay_ne hA hh hl ho h0)]; exact hl
    intro e a1 W2 hq
    cases e with
    | normal =>
      obtain ⟨Γ1, hSt1, hS1, hb⟩ := hq
      have hl1 := stays hSt hS1 hS.has hl rfl (by omega)
      have hd1 := stays hSt hS1 hS.has hd rfl hws
      refine ⟨_, run_beginRound hl1 (by rw [hrec]), ?_⟩
      have hl2 := World.putObj_heap_same (w := W2) (o := .loop { rec .ready none with state := .busy }) (Array.getElem?_eq_some_iff.1 hl1).1
      have hd2 : (W2.putObj (w.heap.size + 1) (.loop { rec .ready none with state := .busy })).heap[w.heap.size]? = some (.deferred (some [])) := (World.putObj_heap_other (by omega)).trans hd1
      have hS2 := (hS.backAll hS1).putObj (.loop { rec .ready none with state := .busy }) hl1 rfl (by omega) (by omega) hΔ hSt1
      refine wpIn_mono (hb _ hS2) ?_
      intro e a3 W3 hp
      cases e with
      | normal =>
        obtain ⟨Γ', hi', hSt', hS'⟩ := hp
        have hl3 := stays hSt1 hS' hS2.has hl2 rfl (by omega)
        have hd3 := stays hSt1 hS' hS2.has hd2 rfl hws
        have he := run_endRound (P := P) none hl3
        rw [hrec] at he hl3
        refine ⟨_, _, he, .inl ⟨rfl, Γ', hi', hSt', (hS2.backAll hS').putObj _ hl3 rfl (by omega) (by omega) hΔ hSt', ?_, (World.putObj_heap_other (by omega)).trans hd3⟩⟩
        rw [hrec]; exact World.putObj_heap_same (Array.getElem?_eq_some_iff.1 hl3).1
      | ret =>
        obtain ⟨Γ', hi', hSt', hS'⟩ := hp
        have hl3 := stays hSt1 hS' hS2.has hl2 rfl (by omega)
        have hd3 := stays hSt1 hS' hS2.has hd2 rfl hws
        have he := run_endRound (P := P) (some .ret) hl3
        rw [hrec] at he hl3
        refine ⟨_, _, he, .inr ⟨rfl, Γ', hi', hSt', (hS2.backAll hS').putObj _ hl3 rfl (by omega) (by omega) hΔ hSt', ?_, (World.putObj_heap_other (by omega)).trans hd3⟩⟩
        rw [hrec]; exact World.putObj_heap_same (Array.getElem?_eq_some_iff.1 hl3).1
      | exit id => exact hp.elim
      | goto t => exact hp.elim
      | panic ch => exact hp.elim
      | outgrown => exact hp.elim
    | ret => exact hq.elim
    | exit id => exact hq.elim
    | goto t => exact hq.elim
    | panic ch => exact hq.elim
    | outgrown => exact hq.elim
/-! Functions that hold such a loop. -/
section
variable {P : Program} {w : World} {σ : List (Nat × Value)} {n m : Nat} {a : Act} {fn : Func} {R : Value → World → Prop}
theorem enterM {f : FuncId} {c : Code} {args : List Value} {R : Ending → World → Prop} (hf : P.funcs[f]? = some fn) (hb : fn.body = some c) (hn : fn.ntmps = n) (hl : Nat.ble args.length n = true)
    (h : ∀ a, Kn (args.zipIdx.map fun x => (x.2, x.1)) n a → c.wp P (bodyPostM Fence.wide 0 P fn R) a w) : Calls P f args.toArray w R := by
  refine (callsIn_wide (n := 0)).1 (callsIn_of_wp_marks hf hb trivial (wpIn_wide.2 ?_))
  rw [hn]
  exact h _ (kn_enter args n (by simpa using hl))
theorem finM (hk : Kn σ n a) (rs : List ResultVar) (vs : List Value) (hr : fn.results = rs.toArray) (h : OutsR P w σ rs vs) (hR : R (outv vs) w) : bodyPostM Fence.wide 0 P fn (Ret R) .ret a w := by
  show LeavesInM Fence.wide 0 P fn a.tmps (Ret R) a.defers .returning w
  rw [hk.defers]
  exact ⟨_, results_run hk rs vs hr h, _, rfl, hR⟩
theorem finD {D : Nat} (hk : Kn σ n a) (hD : w.heap[D]? = some (.deferred (some []))) (rs : List ResultVar) (vs : List Value) (hr : fn.results = rs.toArray) (h : OutsR P (w.putObj D (.deferred none)) σ rs vs) (hR : R (outv vs) (w.putObj D (.deferred none))) : bodyPostM Fence.wide 0 P fn (Ret R) .ret (addD [mkD D] a) w := by
  show LeavesInM Fence.wide 0 P fn a.tmps (Ret R) (a.defers ++ [mkD D]) .returning w
  rw [hk.defers]
  exact ⟨by simp, .inl ⟨D, _, rfl, run_takeDeferred hD, ⟨_, results_run hk rs vs hr h, _, rfl, hR⟩⟩⟩
end
theorem Sat.keepD {M : List Nat} {w0 wT w : World} {Δ Δ' Γ Γ' : List (Nat × Chunk)} (hT : Sat M w0 wT Δ Γ) (hs : Sat (blks Γ) wT w Δ' Γ') (hSt : StayL w0 Γ) {D : Nat} {o : Obj} (hD : wT.heap[D]? = some o) (ho : o.isCellsZ = false) (h0 : w0.heap.size ≤ D) : w.heap[D]? = some o := by
  rw [hs.keep D (Array.getElem?_eq_some_iff.1 hD).1 (stay_ne hSt hT.has hD ho h0)]; exact hD
/-- Two loop variables. -/
theorem rf_law2 {P : Program} {M : List Nat} {w0 w : World} {Δ : List (Nat × Chunk)} {Q : Exit → Act → World → Prop} {a : Act} {g : Operand} {p q : Tmp} {assign body : Code} {gf b N : Nat} {C0 : Chunk} {e1 e2 : Nat → Value} {σ : List (Nat × Value)} {n : Nat}
    (Inv : Nat → List (Nat × Chunk) → Prop) (InvX : List (Nat × Chunk) → Prop) (Γ0 : List (Nat × Chunk))
    (hk : Kn σ n a) (hg : rho? σ g = some (.func (.func gf) #[] #[.pointer (some ⟨b, 0, none⟩)])) (hgo : okn σ g = true) (hpq : (Nat.blt p n && Nat.blt q n) = true) (eg : Enters P gf) (hseq : SeqCnt P gf b C0 (fun k => #[e1 k, e2 k]) N)
    (hC : ∀ k W Γ, Inv k Γ → Sat M w0 W Δ Γ → Has W C0) (hΔ : StayL w0 Δ) (h0 : Inv 0 Γ0) (hst : StayL w0 Γ0) (hs : Sat M w0 w Δ Γ0)
    (hround : ∀ r k W Γ a1, Kn ((q, e2 k) :: (p, e1 k) :: σ) n a1 → Inv k Γ → StayL w0 Γ → Sat M w0 W Δ Γ → k < N →
      assign.wpIn (RF r) 0 P (Exit.then (fun a1 W1 => ∃ Γ1, StayL w0 Γ1 ∧ Sat (blks Γ) W W1 Δ Γ1 ∧ ∀ W2, Sat M w0 W2 Δ Γ1 → body.wpIn (RF r) 0 P (PostR (Inv (k + 1)) InvX w0 (blks Γ1) W2 Δ) a1 W2) (fun _ _ _ => False)) a1 W)
    (hdone : ∀ D W Γ, Inv N Γ → StayL w0 Γ → Sat M w0 W Δ Γ → w0.heap.size ≤ D → W.heap[D]? = some (.deferred (some [])) → Q .normal (addD [mkD D] a) W)
    (hstop : ∀ D W Γ, InvX Γ → StayL w0 Γ → Sat M w0 W Δ Γ → w0.heap.size ≤ D → W.heap[D]? = some (.deferred (some [])) → Q .ret (addD [mkD D] a) W) :
    (Code.rangeFunc g #[p, q] assign body).wp P Q a w := by
  refine rf_law Inv InvX Γ0 hk.defers ((hk.eval g hgo).trans (rho?_eq hg)) eg hseq (fun _ => rfl) hC hΔ h0 hst hs (fun r k W Γ hi hSt hS hkN => ?_) hdone hstop
  simp only [Bool.and_eq_true, Nat.blt_eq] at hpq
  have e : (#[p, q].zip #[e1 k, e2 k]).foldl (fun t (x : Tmp × Value) => t.setIfInBounds x.1 x.2) a.tmps = (a.tmps.setIfInBounds p (e1 k)).setIfInBounds q (e2 k) := by simp
  have h2 := hround r k W Γ _ ((hk.frame.put p (e1 k) hpq.1).put q (e2 k) hpq.2) hi hSt hS hkN
  show Code.wpIn (RF r) 0 P assign _ { tmps := (#[p, q].zip #[e1 k, e2 k]).foldl (fun t (x : Tmp × Value) => t.setIfInBounds x.1 x.2) a.tmps, defers := [] } W
  rw [e]
  exact h2
/-! An iterator's own walk. -/
section
variable {P : Program} {ops : List Oper} {Q : Exit → Act → World → Prop} {a : Act} {w : World} {σ : List (Nat × Value)} {n m : Nat}
theorem enterI {f : FuncId} {fn : Func} {c : Code} {args : List Value} {R : Ending → World → Prop} (hf : P.funcs[f]? = some fn) (hb : fn.body = some c) (hn : fn.ntmps = n) (hl : Nat.ble args.length n = true)
    (h : ∀ a, Kn (args.zipIdx.map fun x => (x.2, x.1)) n a → c.wpIn Fence.wide 0 P (bodyPost P fn R) a w) : CallsIn Fence.wide 0 P f args.toArray w R := by
  refine callsIn_of_wp hf hb trivial ?_ rfl
  rw [hn]
  exact h _ (kn_enter args n (by simpa using hl))
theorem upon_wide {o : Oper} {a : Act} {K K' : Act → World → Prop} {res : Result Next} (hk : ∀ a w, K a w → K' a w) (h : o.upon P a K (fun _ _ _ => False) res) : o.uponIn Fence.wide m P a K' Q res := by
  cases res with
  | ok x w' =>
    cases x <;> simp only [Oper.upon] at h <;> simp only [Oper.uponIn]
    case value => exact hk _ _ h
    case skip => exact hk _ _ h
    case defer => exact hk _ _ h
    case enter =>
      refine ⟨fun hh => by simp [Fence.wide] at hh, ?_⟩
      have h2 : CallsIn Fence.wide (m - 1) P _ _ _ _ := callsIn_wide.2 h
      exact CallsIn.mono h2 fun e w' he => by
        cases e with
        | returned v => exact hk _ _ he
        | panicked c => exact he.elim
        | outgrown => obtain ⟨_, _, h⟩ := he; exact h.elim
    case row =>
      exact ⟨fun hh => by simp [Fence.wide] at hh, fun c cs _ => let ⟨v, w', q, s⟩ := h c cs; ⟨v, w', hk _ _ q, stepsIn_wide.2 s⟩⟩
  | halt x w' => cases x <;> simp only [Oper.upon] at h
theorem wplI_cut (R : Act → World → Prop) : ∀ (l1 l2 : List Oper) (a : Act) (w : World), wpList P ops.toArray (fun e a w => match e with | .normal => R a w | _ => False) l1 a w → (∀ a w, R a w → wpListIn Fence.wide m P ops.toArray Q l2 a w) → wpListIn Fence.wide m P ops.toArray Q (l1 ++ l2) a w
  | [], _, a, w, h, k => k a w h
  | o :: l1, l2, a, w, h, k => by
    show wpListIn Fence.wide m P ops.toArray Q (o :: (l1 ++ l2)) a w
    have hl : ¬ LetsOut (fun e a w => match e with | .normal => R a w | _ => False) := fun ⟨_, _, h⟩ => h
    unfold wpList at h
    unfold wpListIn
    split
    · rename_i hw
      rw [if_pos hw] at h
      rcases h with h | ⟨_, h⟩
      · refine ⟨fun _ _ => trivial, ?_⟩
        rw [show Fence.wide.round = none from rfl, Oper.semAt_none]
        unfold Oper.wp at h
        refine upon_wide (K := fun a w => wpList P ops.toArray (fun e a w => match e with | .normal => R a w | _ => False) l1 a w) (fun a w h => wplI_cut R l1 l2 a w h k) ?_
        revert h
        generalize (execOp a.eval o).run P w = res
        intro h
        cases res with
        | ok x w' =>
          cases x <;> simp only [Oper.upon] at h ⊢ <;> exact h
        | halt x w' => cases x <;> simp only [Oper.upon] at h ⊢ <;> exact h.elim
      · exact absurd h hl
    · rename_i hw
      rw [if_neg hw] at h
      exact ⟨fun _ _ => trivial, wplI_cut R l1 l2 _ w h k⟩
theorem scutI (j : Nat) (R : Act → World → Prop) {l : List Oper} (h : wpList P ops.toArray (fun e a w => match e with | .normal => R a w | _ => False) (l.take j) a w) (k : ∀ a w, R a w → wpListIn Fence.wide m P ops.toArray Q (l.drop j) a w) : wpListIn Fence.wide m P ops.toArray Q l a w := by
  have := wplI_cut (P := P) (ops := ops) (Q := Q) (m := m) R (l.take j) (l.drop j) a w h k
  rwa [List.take_append_drop] at this
/-- A CALL OF yield. -/
theorem syield {o : Oper} {rest : List Oper} {d y : Nat} {x : Operand} {args : Array Operand} {tys : Array TypeId} {vs : List Value} {R : Ending → World → Prop} (ho : o.op = .call ⟨.value x, args, tys⟩) (hx : rho σ x = .func (.yield y) #[] #[])
    (hk : Kn σ n a) (hd : o.dst = some d) (hc : chk ops n σ o d = true) (hvs : args.toList.map (rho σ) = vs) (hy : YieldAt Fence.wide 0 P y vs.toArray w R) (hR : ∀ e w', R e w' → ∃ v, e = .returned v)
    (next : ∀ v w', R (.returned v) w' → ∀ a, Kn ((d, v) :: σ) n a → wpListIn Fence.wide m P ops.toArray Q rest a w') : wpListIn Fence.wide m P ops.toArray Q (o :: rest) a w := by
  obtain ⟨h0, hdn⟩ := chk_chk0 hc
  obtain ⟨fn, tmps, assign, body, hy1, hy2⟩ := hy
  have h2 : Array.map (rho σ) args = vs.toArray := by rw [← hvs]; apply Array.ext'; simp
  unfold wpListIn
  rw [if_pos (wanted_of hk h0)]
  refine ⟨fun _ _ => trivial, ?_⟩
  rw [show Fence.wide.round = none from rfl, Oper.semAt_none, run_eq hk h0]
  have hr : (execOp (rho σ) o).run P w = .ok (.round y fn tmps assign body) w := by
    simp only [execOp, ho, resolve, hx, Deferred.ofValue, Sem.run_bind, Sem.run_pure, Result.andThen_ok, invoke, h2]
    simp only [Array.empty_append, Array.append_empty, hy1]
  rw [hr]
  refine ⟨fun hh => by simp [Fence.wide] at hh, RoundIn.mono (n := m - 1) (F := Fence.wide) ?_ (R := R) fun e w' he => ?_⟩
  · exact ⟨hy2.1, fun c cs _ => hy2.2 c cs (room_wide _)⟩
  · obtain ⟨v, rfl⟩ := hR e w' he
    simp only [hd]
    exact next v w' he _ (hk.put d v hdn)
end
theorem box_has {W : World} {b : Nat} {v : Value} {T : TypeId} {c : Chunk} (h : Has W ([(b, .cells #[v] T (0, 0))] ++ c)) : W.cell? ⟨b, 0, none⟩ = some v := by
  rw [cell_of_row W b 0 _ _ _ (h _ (List.mem_append_left _ (List.mem_singleton.2 rfl)))]; rfl
end Go.Z
