/- What the models of these functions come to. -/
import Derived.Test.YtmgfkpfacdlfbaaP0
import Derived.Test.YtmgfkpfacdlfbaaGXReadStaten4
namespace Go.Proofs.Ytmgfkpfacdlfbaa
open Go Go.Z Go.Proofs Go.MuLone Go.ChangeShapes Go.WideShapes Go.ChangeAt Go.RowKit
set_option linter.unusedVariables false
set_option linter.unusedSimpArgs false
def blkI (L : List Int) (s : Nat × Bool) : S_Block × (Nat × Bool) := (⟨(nI L 0 11 s).1, (nI L 0 7 (nI L 0 11 s).2).1, (nI L 0 999999 (nI L 0 7 (nI L 0 11 s).2).2).1⟩, (nI L 0 999999 (nI L 0 7 (nI L 0 11 s).2).2).2)
def blkS (L : List Int) (q : Nat) : S_Block × Nat := (⟨(nS L q).1, (nS L (nS L q).2).1, (nS L (nS L (nS L q).2).2).1⟩, (nS L (nS L (nS L q).2).2).2)
def rngB (b : S_Block) : Bool := inB b.Id 0 11 && inB b.Leaf 0 7 && inB b.Value 0 999999
theorem blk_pair (L : List Int) : RPair L (blkI L) (blkS L) rngB :=
  RPair.seq (α := Int × Int) (RPair.seq (RPair.base L 0 11 (by decide)) (RPair.base L 0 7 (by decide)) Prod.mk (fun ab => inB ab.1 0 11 && inB ab.2 0 7) (fun _ _ => rfl)) (RPair.base L 0 999999 (by decide)) (fun ab c => ⟨ab.1, ab.2, c⟩) rngB (fun _ _ => rfl)
theorem blkS_le {L : List Int} {q : Nat} (h : q ≤ L.length + 1) : (blkS L q).2 ≤ L.length + 1 := nS_le (nS_le (nS_le h))

def blkInts (l : List S_Block) : List Int := l.flatMap (fun b => [b.Id, b.Leaf, b.Value])
theorem blkInts_snoc (l : List S_Block) (b : S_Block) : blkInts (l ++ [b]) = blkInts l ++ [b.Id, b.Leaf, b.Value] := by simp [blkInts]
theorem blkInts_len (l : List S_Block) : (blkInts l).length = 3 * l.length := by
  induction l with
  | nil => rfl
  | cons a l ih =>
    show ([a.Id, a.Leaf, a.Value] ++ blkInts l).length = _
    rw [List.length_append, ih]; simp only [List.length_cons, List.length_nil]; omega

theorem nodup_le : ∀ (n : Nat) (l : List Int), l.Nodup → (∀ x ∈ l, 0 ≤ x ∧ x < (n : Int)) → l.length ≤ n
  | 0, l, _, h => by
    cases l with
    | nil => exact Nat.le_refl _
    | cons a r => have := h a (List.mem_cons_self ..); omega
  | n + 1, l, hn, h => by
    by_cases hm : (n : Int) ∈ l
    · have h1 := nodup_le n (l.erase (n : Int)) (hn.erase _) (fun x hx => by
        have h2 := (hn.mem_erase_iff).1 hx
        have := h x h2.2
        omega)
      rw [List.length_erase_of_mem hm] at h1
      omega
    · have h1 := nodup_le n l hn (fun x hx => by
        have := h x hx
        have : x ≠ (n : Int) := fun e => hm (e ▸ hx)
        omega)
      omega
/-- A block that is right, but for others of its id. -/
def okB (pos : List Int) (b : S_Block) : Bool := inB b.Id 0 11 && ((pos.getD b.Id.toNat 0 == b.Leaf) && inB b.Value 0 999999)
/-- Blocks one after the other, each right, their ids apart. -/
def goB (pos : List Int) : List S_Block → List Int → Option (List Int)
  | [], ids => some ids
  | b :: r, ids => bif okB pos b && !ids.contains b.Id then goB pos r (ids ++ [b.Id]) else none
theorem goB_app (pos : List Int) : ∀ (a b : List S_Block) (ids : List Int), goB pos (a ++ b) ids = (goB pos a ids).bind (goB pos b)
  | [], b, ids => rfl
  | x :: a, b, ids => by
    simp only [List.cons_append, goB]
    cases okB pos x && !ids.contains x.Id
    · rfl
    · exact goB_app pos a b _
theorem goB_len (pos : List Int) : ∀ (l : List S_Block) (ids r : List Int), goB pos l ids = some r → ids.Nodup → (∀ x ∈ ids, 0 ≤ x ∧ x < 12) → r.length = ids.length + l.length ∧ r.Nodup ∧ ∀ x ∈ r, 0 ≤ x ∧ x < 12
  | [], ids, r, h, h1, h2 => by
    have := Option.some.inj h; subst this; exact ⟨by simp, h1, h2⟩
  | b :: l, ids, r, h, h1, h2 => by
    simp only [goB] at h
    cases hc : okB pos b && !ids.contains b.Id
    · rw [hc] at h; cases h
    · rw [hc] at h
      simp only [Bool.and_eq_true, Bool.not_eq_true', okB, inB_iff] at hc
      have hni : b.Id ∉ ids := by
        intro hm
        have := List.contains_iff_mem.2 hm
        rw [hc.2] at this; cases this
      obtain ⟨h3, h4, h5⟩ := goB_len pos l (ids ++ [b.Id]) r h (by
        rw [List.nodup_append]
        refine ⟨h1, by simp, fun x hx y hy => ?_⟩
        rw [List.mem_singleton.1 hy]
        intro e; exact hni (e ▸ hx)) (fun x hx => by
        rcases List.mem_append.1 hx with hx | hx
        · exact h2 x hx
        · rw [List.mem_singleton.1 hx]; omega)
      refine ⟨?_, h4, h5⟩
      rw [h3, List.length_append, List.length_cons, List.length_cons, List.length_nil]; omega
theorem goB_le (pos : List Int) (l : List S_Block) (r : List Int) (h : goB pos l [] = some r) : l.length ≤ 12 := by
  obtain ⟨h1, h2, h3⟩ := goB_len pos l [] r h List.nodup_nil (by simp)
  have := nodup_le 12 r h2 h3
  simp only [List.length_nil] at h1
  omega
def onB (i : Int) (b : S_Block) : Bool := inB b.Leaf 0 7 && (pathL b.Leaf).contains i
def leavesOK (pos : List Int) : Prop := pos.length = 12 ∧ ∀ y ∈ pos, 0 ≤ y ∧ y ≤ 7
theorem okB_leaf {pos : List Int} {b : S_Block} (hp : leavesOK pos) (h : okB pos b = true) : 0 ≤ b.Leaf ∧ b.Leaf ≤ 7 := by
  unfold okB at h
  simp only [Bool.and_eq_true, inB_iff, beq_iff_eq] at h
  have hl := hp.1
  rw [← h.2.1]
  exact hp.2 _ (getD_mem (by omega) 0)
/-- What both look at. -/
def oramB (o : S_Oram) : Bool := ((o.Pos.length : Int) == 12) && o.Pos.all (fun x => inB x 0 7) && ((o.Buckets.length : Int) == 15) && (List.range o.Buckets.length).all (fun i => decide ((o.Buckets.getD i []).length ≤ 2) && (o.Buckets.getD i []).all (onB i)) && (goB o.Pos (o.Stash ++ o.Buckets.flatten) []).isSome
theorem take_flat {α : Type} (l : List (List α)) (k : Nat) (hk : k < l.length) : (l.take (k + 1)).flatten = (l.take k).flatten ++ l.getD k [] := by
  rw [take_snoc l k hk []]; simp
theorem goB_len' (pos : List Int) : ∀ (l : List S_Block) (ids r : List Int), goB pos l ids = some r → r.length = ids.length + l.length
  | [], ids, r, h => by have := Option.some.inj h; subst this; simp
  | b :: l, ids, r, h => by
    simp only [goB] at h
    cases hc : okB pos b && !ids.contains b.Id
    · rw [hc] at h; cases h
    · rw [hc] at h
      have := goB_len' pos l (ids ++ [b.Id]) r h
      rw [this, List.length_append, List.length_cons, List.length_cons, List.length_nil]; omega
/-- A key at its place: right, and apart from those ahead, but for 0. -/
def keyP (l : List Int) (k : Nat) : Bool := inB (l.getD k 0) 0 9999 && (l.getD k 0 == 0 || !(l.take k).contains (l.getD k 0))
def keysB (l : List Int) : Bool := (List.range l.length).all (keyP l)
/-- The value of the first block of an id. -/
def valueL (l : List S_Block) (id : Int) : Int := match l.find? (fun b => b.Id == id) with | some b => b.Value | none => 0
theorem goB_ok (pos : List Int) : ∀ (l : List S_Block) (ids r : List Int), goB pos l ids = some r → ∀ b ∈ l, okB pos b = true
  | [], _, _, _, b, hb => by simp at hb
  | x :: l, ids, r, h, b, hb => by
    simp only [goB] at h
    cases hc : okB pos x && !ids.contains x.Id
    · rw [hc] at h; cases h
    · rw [hc] at h
      simp only [Bool.and_eq_true] at hc
      rcases List.mem_cons.1 hb with rfl | hb
      · exact hc.1
      · exact goB_ok pos l _ r h b hb
theorem valueL_rng (pos : List Int) (l : List S_Block) (r : List Int) (h : goB pos l [] = some r) (id : Int) : 0 ≤ valueL l id ∧ valueL l id ≤ 999999 := by
  unfold valueL
  cases hf : l.find? (fun b => b.Id == id) with
  | none => simp
  | some b =>
    have := goB_ok pos l [] r h b (List.mem_of_find?_eq_some hf)
    unfold okB at this
    simp only [Bool.and_eq_true, inB_iff] at this
    exact this.2.2

def resOK (x : S_Result) : Bool := inB x.Code 0 19 && (decide ((x.Values.length : Int) ≤ 32) && (x.Values.all (fun v => inB v 0 999999) && (x.Code == 0 || ((x.Values.length : Int) == 0))))
def resInts (l : List S_Result) : List Int := l.flatMap (fun r => [r.Code, (r.Values.length : Int)] ++ r.Values)
theorem resInts_snoc (l : List S_Result) (b : S_Result) : resInts (l ++ [b]) = resInts l ++ [b.Code, (b.Values.length : Int)] ++ b.Values := by simp [resInts]
theorem resInts_len : ∀ (l : List S_Result), (∀ t ∈ l, t.Values.length ≤ 32) → (resInts l).length ≤ 34 * l.length
  | [], _ => Nat.le_refl _
  | a :: l, h => by
    have ih := resInts_len l (fun t ht => h t (List.mem_cons_of_mem _ ht))
    have h1 := h a (List.mem_cons_self ..)
    show (([a.Code, (a.Values.length : Int)] ++ a.Values) ++ resInts l).length ≤ _
    simp only [List.length_append, List.length_cons, List.length_nil]; omega

/-! Two readers, one of which is at its end where it finds a count that is not as told. -/
structure RQ {α : Type} (L : List Int) (fI : Nat × Bool → α × (Nat × Bool)) (fS : Nat → α × Nat) (ok : α → Bool) : Prop where
  le : ∀ s : Nat × Bool, s.1 ≤ L.length → (fI s).2.1 ≤ L.length
  bad : ∀ p : Nat, (fI (p, true)).2.2 = true
  les : ∀ q, q ≤ L.length + 1 → (fS q).2 ≤ L.length + 1
  stuck : (fS (L.length + 1)).2 = L.length + 1
  good : ∀ p : Nat, p ≤ L.length → ((fI (p, false)).2.2 = false ∧ (fI (p, false)).1 = (fS p).1 ∧ (fI (p, false)).2.1 = (fS p).2 ∧ ok (fS p).1 = true) ∨ ((fI (p, false)).2.2 = true ∧ (ok (fS p).1 = false ∨ (fS p).2 = L.length + 1))
theorem RQ.base (L : List Int) (lo hi : Int) (h0 : 0 ≤ lo) : RQ L (nI L lo hi) (nS L) (fun x => inB x lo hi) := by
  have h := RPair.base L lo hi h0
  refine ⟨h.le, h.bad, fun q hq => nS_le hq, ?_, fun p hp => ?_⟩
  · unfold nS; rw [if_neg (by omega)]
  · rcases h.good p hp with g | ⟨g1, g2⟩
    · exact .inl g
    · exact .inr ⟨g1, .inl g2⟩
theorem RQ.seq {α β γ : Type} {L : List Int} {fI : Nat × Bool → α × (Nat × Bool)} {fS : Nat → α × Nat} {okA : α → Bool} {gI : Nat × Bool → β × (Nat × Bool)} {gS : Nat → β × Nat} {okB : β → Bool} (h : RQ L fI fS okA) (k : RQ L gI gS okB) (mk : α → β → γ) (ok : γ → Bool) (ho : ∀ a b, ok (mk a b) = (okA a && okB b)) :
    RQ L (fun s => (mk (fI s).1 (gI (fI s).2).1, (gI (fI s).2).2)) (fun q => (mk (fS q).1 (gS (fS q).2).1, (gS (fS q).2).2)) ok := by
  refine ⟨fun s hs => k.le _ (h.le s hs), fun p => ?_, fun q hq => k.les _ (h.les q hq), ?_, fun p hp => ?_⟩
  · have := h.bad p
    show (gI (fI (p, true)).2).2.2 = true
    generalize (fI (p, true)).2 = s at this ⊢
    obtain ⟨a, b⟩ := s
    simp only at this
    subst this
    exact k.bad a
  · show (gS (fS (L.length + 1)).2).2 = _
    rw [h.stuck, k.stuck]
  · simp only [ho]
    have hle := h.le (p, false) hp
    rcases h.good p hp with ⟨g1, g2, g3, g4⟩ | ⟨g1, g2⟩
    · generalize (fI (p, false)) = r at g1 g2 g3 hle ⊢
      obtain ⟨u, a, b⟩ := r
      simp only at g1 g2 g3 hle
      subst g1 g2 g3
      rcases k.good _ hle with ⟨k1, k2, k3, k4⟩ | ⟨k1, k2⟩
      · exact .inl ⟨k1, by rw [k2], k3, by simp [g4, k4]⟩
      · refine .inr ⟨k1, ?_⟩
        rcases k2 with k2 | k2
        · exact .inl (by simp [k2])
        · exact .inr k2
    · refine .inr ⟨?_, ?_⟩
      · generalize (fI (p, false)).2 = s at g1 ⊢
        obtain ⟨a, b⟩ := s
        simp only at g1
        subst g1
        exact k.bad a
      · rcases g2 with g2 | g2
        · exact .inl (by simp [g2])
        · refine .inr ?_
          show (gS (fS p).2).2 = _
          rw [g2, k.stuck]
theorem RQ.nil {α : Type} (L : List Int) (fI : Nat × Bool → α × (Nat × Bool)) (fS : Nat → α × Nat) (ok : α → Bool) : RQ L (rep fI 0) (rep fS 0) (fun l => l.all ok) :=
  ⟨fun s hs => hs, fun p => rfl, fun q hq => hq, rfl, fun p hp => .inl ⟨rfl, rfl, rfl, rfl⟩⟩
theorem RQ.reps {α : Type} {L : List Int} {fI : Nat × Bool → α × (Nat × Bool)} {fS : Nat → α × Nat} {ok : α → Bool} (h : RQ L fI fS ok) : ∀ n, RQ L (rep fI n) (rep fS n) (fun l => l.all ok)
  | 0 => RQ.nil L fI fS ok
  | n + 1 => (RQ.reps h n).seq h (fun l x => l ++ [x]) (fun l => l.all ok) (fun a b => by simp [List.all_append])
theorem RQ.count {α : Type} {L : List Int} {fI : Nat × Bool → α × (Nat × Bool)} {fS : Nat → α × Nat} {okA : α → Bool} (h : RQ L fI fS okA) (hi : Int) (hh : 0 ≤ hi) :
    RQ L (fun s => rep fI (nI L 0 hi s).1.toNat (nI L 0 hi s).2) (fun q => rep fS (cS L hi q).1.toNat (cS L hi q).2) (fun l => l.all okA) := by
  have hb := RPair.base L 0 hi (by omega)
  refine ⟨fun s hs => (h.reps _).le _ (hb.le s hs), fun p => (h.reps _).bad p, fun q hq => (h.reps _).les _ (cS_le hq), ?_, fun p hp => ?_⟩
  · have hc : cS L hi (L.length + 1) = (0, L.length + 1) := by
      unfold cS nS
      rw [if_neg (show ¬ L.length + 1 < L.length by omega)]
      have : inB (-1) 0 hi = false := by
        cases hq : inB (-1) 0 hi with
        | false => rfl
        | true => have := inB_iff.1 hq; omega
      simp only [this]; rfl
    rw [hc]; rfl
  · have hle := hb.le (p, false) hp
    rcases hb.good p hp with ⟨g1, g2, g3, g4⟩ | ⟨g1, g2⟩
    · have hc : cS L hi p = nS L p := by unfold cS; rw [if_pos g4]
      generalize (nI L 0 hi (p, false)) = r at g1 g2 g3 hle ⊢
      obtain ⟨u, a, b⟩ := r
      simp only at g1 g2 g3 hle
      subst g1
      rw [hc, ← g2, ← g3]
      exact (h.reps u.toNat).good a hle
    · have hc : cS L hi p = (0, L.length + 1) := by unfold cS; rw [if_neg (by rw [g2]; decide)]
      refine .inr ⟨?_, .inr ?_⟩
      · generalize (nI L 0 hi (p, false)) = r at g1 ⊢
        obtain ⟨u, a, b⟩ := r
        simp only at g1
        subst g1
        exact (h.reps _).bad a
      · rw [hc]; rfl
theorem blk_pairQ (L : List Int) : RQ L (blkI L) (blkS L) rngB :=
  RQ.seq (α := Int × Int) (RQ.seq (RQ.base L 0 11 (by decide)) (RQ.base L 0 7 (by decide)) Prod.mk (fun ab => inB ab.1 0 11 && inB ab.2 0 7) (fun _ _ => rfl)) (RQ.base L 0 999999 (by decide)) (fun ab c => ⟨ab.1, ab.2, c⟩) rngB (fun _ _ => rfl)
def resI (L : List Int) (s : Nat × Bool) : S_Result × (Nat × Bool) := (⟨(nI L 0 19 s).1, (rep (nI L 0 999999) (nI L 0 32 (nI L 0 19 s).2).1.toNat (nI L 0 32 (nI L 0 19 s).2).2).1⟩, (rep (nI L 0 999999) (nI L 0 32 (nI L 0 19 s).2).1.toNat (nI L 0 32 (nI L 0 19 s).2).2).2)
def resS (L : List Int) (q : Nat) : S_Result × Nat := (⟨(nS L q).1, (rep (nS L) (cS L 32 (nS L q).2).1.toNat (cS L 32 (nS L q).2).2).1⟩, (rep (nS L) (cS L 32 (nS L q).2).1.toNat (cS L 32 (nS L q).2).2).2)
def rngR (r : S_Result) : Bool := inB r.Code 0 19 && r.Values.all (fun v => inB v 0 999999)
theorem res_pair (L : List Int) : RQ L (resI L) (resS L) rngR :=
  RQ.seq (RQ.base L 0 19 (by decide)) ((RQ.base L 0 999999 (by decide)).count 32 (by decide)) (fun c l => (⟨c, l⟩ : S_Result)) rngR (fun _ _ => rfl)
def blksI (L : List Int) (s : Nat × Bool) : List S_Block × (Nat × Bool) := rep (blkI L) (nI L 0 12 s).1.toNat (nI L 0 12 s).2
def blksS (L : List Int) (q : Nat) : List S_Block × Nat := rep (blkS L) (cS L 12 q).1.toNat (cS L 12 q).2
def ressI (L : List Int) (s : Nat × Bool) : List S_Result × (Nat × Bool) := rep (resI L) (nI L 0 2 s).1.toNat (nI L 0 2 s).2
def ressS (L : List Int) (q : Nat) : List S_Result × Nat := rep (resS L) (cS L 2 q).1.toNat (cS L 2 q).2
structure StV where
  pos : List Int
  stash : List S_Block
  keys : List Int
  res : List S_Result
def stI (L : List Int) (s : Nat × Bool) : StV × (Nat × Bool) :=
  (⟨(rep (nI L 0 7) 12 s).1, (blksI L (rep (nI L 0 7) 12 s).2).1, (rep (nI L 0 9999) 11 (blksI L (rep (nI L 0 7) 12 s).2).2).1, (ressI L (rep (nI L 0 9999) 11 (blksI L (rep (nI L 0 7) 12 s).2).2).2).1⟩, (ressI L (rep (nI L 0 9999) 11 (blksI L (rep (nI L 0 7) 12 s).2).2).2).2)
def stS (L : List Int) (q : Nat) : StV × Nat :=
  (⟨(rep (nS L) 12 q).1, (blksS L (rep (nS L) 12 q).2).1, (rep (nS L) 11 (blksS L (rep (nS L) 12 q).2).2).1, (ressS L (rep (nS L) 11 (blksS L (rep (nS L) 12 q).2).2).2).1⟩, (ressS L (rep (nS L) 11 (blksS L (rep (nS L) 12 q).2).2).2).2)
def rngV (v : StV) : Bool := (v.pos.all (fun y => inB y 0 7) && v.stash.all rngB) && (v.keys.all (fun y => inB y 0 9999) && v.res.all rngR)
theorem st_pair (L : List Int) : RQ L (stI L) (stS L) rngV :=
  RQ.seq (α := List Int × List S_Block) (β := List Int × List S_Result)
    (RQ.seq ((RQ.base L 0 7 (by decide)).reps 12) ((blk_pairQ L).count 12 (by decide)) Prod.mk (fun ab => ab.1.all (fun y => inB y 0 7) && ab.2.all rngB) (fun _ _ => rfl))
    (RQ.seq ((RQ.base L 0 9999 (by decide)).reps 11) ((res_pair L).count 2 (by decide)) Prod.mk (fun ab => ab.1.all (fun y => inB y 0 9999) && ab.2.all rngR) (fun _ _ => rfl))
    (fun a b => (⟨a.1, a.2, b.1, b.2⟩ : StV)) rngV (fun _ _ => rfl)
def encV (v : StV) : S_Oram := ⟨v.pos, v.stash, List.replicate 15 []⟩
def okV (v : StV) : Bool := (keysB v.keys && (((v.keys.length : Int) == 11) && oramB (encV v))) && (v.res.all resOK && decide ((v.res.length : Int) ≤ 2))
theorem resI_len (L : List Int) (s : Nat × Bool) : (resI L s).1.Values.length ≤ 32 := by
  have := nI_cnt L 32 (by decide) (nI L 0 19 s).2 0 (by decide)
  unfold resI; simp only [rep_len]; omega
theorem resS_len (L : List Int) (q : Nat) : (resS L q).1.Values.length ≤ 32 := by
  have := cS_cnt L 32 (by decide) (nS L q).2
  unfold resS; simp only [rep_len]; omega
theorem stI_len (L : List Int) (s : Nat × Bool) : (stI L s).1.pos.length = 12 ∧ (stI L s).1.stash.length ≤ 12 ∧ (stI L s).1.keys.length = 11 ∧ (stI L s).1.res.length ≤ 2 ∧ ∀ y ∈ (stI L s).1.res, y.Values.length ≤ 32 := by
  refine ⟨rep_len _ _ _, ?_, rep_len _ _ _, ?_, fun y hy => rep_all (resI L) (fun y => y.Values.length ≤ 32) (resI_len L) _ _ y hy⟩
  · have := nI_cnt L 12 (by decide) (rep (nI L 0 7) 12 s).2 0 (by decide)
    show (rep _ _ _).1.length ≤ 12
    rw [rep_len]; omega
  · have := nI_cnt L 2 (by decide) (rep (nI L 0 9999) 11 (blksI L (rep (nI L 0 7) 12 s).2).2).2 0 (by decide)
    show (rep _ _ _).1.length ≤ 2
    rw [rep_len]; omega
theorem stS_len (L : List Int) (q : Nat) : (stS L q).1.pos.length = 12 ∧ (stS L q).1.stash.length ≤ 12 ∧ (stS L q).1.keys.length = 11 ∧ (stS L q).1.res.length ≤ 2 ∧ ∀ y ∈ (stS L q).1.res, y.Values.length ≤ 32 := by
  refine ⟨rep_len _ _ _, ?_, rep_len _ _ _, ?_, fun y hy => rep_all (resS L) (fun y => y.Values.length ≤ 32) (resS_len L) _ _ y hy⟩
  · have := cS_cnt L 12 (by decide) (rep (nS L) 12 q).2
    show (rep _ _ _).1.length ≤ 12
    rw [rep_len]; omega
  · have := cS_cnt L 2 (by decide) (rep (nS L) 11 (blksS L (rep (nS L) 12 q).2).2).2
    show (rep _ _ _).1.length ≤ 2
    rw [rep_len]; omega

theorem refl_laws_eqIntS (x : List Int) (h : x.length ≤ 1048576) : laws_eqIntS.f x x = some true := by
  have hlen : x.length ≤ 1048576 := h
  unfold laws_eqIntS.f
  rw [show ((x.length : Int) != (x.length : Int)) = false from by simp]
  have := loopO_run (step := fun s => laws_eqIntS.s0 x x s) (fun k => (k : Int)) x.length (r := .out ()) (fun k hk => by
    simp only [laws_eqIntS.s0, decide_eq_true (show (k : Int) < (x.length : Int) by omega), cond_true, if_pos (show (0 : Int) ≤ (k : Int) ∧ (k : Int) < (x.length : Int) by omega), Int.toNat_natCast, bne_self_eq_false, beq_self_eq_true, Bool.not_true, cond_false, Option.bind_some]
    rw [w64_id (by omega) (by omega)]
    rfl) (by
    simp only [laws_eqIntS.s0]
    rw [decide_eq_false (by omega)]; rfl)
  rw [show ((0 : Int)) = ((0 : Nat) : Int) from rfl, this]
  rfl

theorem reflL_laws_eqIntS (x : List Int) (h : x.length ≤ 1048576) : laws_eqIntS.f x x = some true := by
  have hlen : x.length ≤ 1048576 := h
  unfold laws_eqIntS.f
  rw [show ((x.length : Int) != (x.length : Int)) = false from by simp]
  have := loopO_run (step := fun s => laws_eqIntS.s0 x x s) (fun k => (k : Int)) x.length (r := .out ()) (fun k hk => by
    simp only [laws_eqIntS.s0, decide_eq_true (show (k : Int) < (x.length : Int) by omega), cond_true, if_pos (show (0 : Int) ≤ (k : Int) ∧ (k : Int) < (x.length : Int) by omega), Int.toNat_natCast, bne_self_eq_false, beq_self_eq_true, bs_self, Bool.not_true, cond_false, Option.bind_some]
    rw [w64_id (by omega) (by omega)]
    rfl) (by
    simp only [laws_eqIntS.s0]
    rw [decide_eq_false (by omega)]; rfl)
  rw [show ((0 : Int)) = ((0 : Nat) : Int) from rfl, this]
  rfl

theorem refl_laws_eqBlock (x : S_Block) : laws_eqBlock.f x x = some true := by
  unfold laws_eqBlock.f
  simp only [bne_self_eq_false, beq_self_eq_true, Bool.not_true, cond_false, Option.bind_some]

theorem reflF_laws_eqBlock (x : S_Block) : laws_eqBlock.f x x = some true := by
  unfold laws_eqBlock.f
  simp only [bne_self_eq_false, beq_self_eq_true, bs_self, Bool.not_true, cond_false, Option.bind_some]

theorem refl_laws_eqBlockS (x : List S_Block) (h : x.length ≤ 1048576) : laws_eqBlockS.f x x = some true := by
  have hlen : x.length ≤ 1048576 := h
  unfold laws_eqBlockS.f
  rw [show ((x.length : Int) != (x.length : Int)) = false from by simp]
  have := loopO_run (step := fun s => laws_eqBlockS.s0 x x s) (fun k => (k : Int)) x.length (r := .out ()) (fun k hk => by
    simp only [laws_eqBlockS.s0, decide_eq_true (show (k : Int) < (x.length : Int) by omega), cond_true, if_pos (show (0 : Int) ≤ (k : Int) ∧ (k : Int) < (x.length : Int) by omega), Int.toNat_natCast, refl_laws_eqBlock (x.getD k z_Block), bne_self_eq_false, beq_self_eq_true, Bool.not_true, cond_false, Option.bind_some]
    rw [w64_id (by omega) (by omega)]
    rfl) (by
    simp only [laws_eqBlockS.s0]
    rw [decide_eq_false (by omega)]; rfl)
  rw [show ((0 : Int)) = ((0 : Nat) : Int) from rfl, this]
  rfl

theorem reflL_laws_eqBlockS (x : List S_Block) (h : x.length ≤ 1048576) : laws_eqBlockS.f x x = some true := by
  have hlen : x.length ≤ 1048576 := h
  unfold laws_eqBlockS.f
  rw [show ((x.length : Int) != (x.length : Int)) = false from by simp]
  have := loopO_run (step := fun s => laws_eqBlockS.s0 x x s) (fun k => (k : Int)) x.length (r := .out ()) (fun k hk => by
    simp only [laws_eqBlockS.s0, decide_eq_true (show (k : Int) < (x.length : Int) by omega), cond_true, if_pos (show (0 : Int) ≤ (k : Int) ∧ (k : Int) < (x.length : Int) by omega), Int.toNat_natCast, reflF_laws_eqBlock (x.getD k z_Block), bne_self_eq_false, beq_self_eq_true, bs_self, Bool.not_true, cond_false, Option.bind_some]
    rw [w64_id (by omega) (by omega)]
    rfl) (by
    simp only [laws_eqBlockS.s0]
    rw [decide_eq_false (by omega)]; rfl)
  rw [show ((0 : Int)) = ((0 : Nat) : Int) from rfl, this]
  rfl

theorem refl_laws_eqBlockSS (x : List (List S_Block)) (h : x.length ≤ 1048576 ∧ ∀ z0 : List S_Block, z0 ∈ x → (z0.length ≤ 1048576)) : laws_eqBlockSS.f x x = some true := by
  have hlen : x.length ≤ 1048576 := h.1
  unfold laws_eqBlockSS.f
  rw [show ((x.length : Int) != (x.length : Int)) = false from by simp]
  have := loopO_run (step := fun s => laws_eqBlockSS.s0 x x s) (fun k => (k : Int)) x.length (r := .out ()) (fun k hk => by
    simp only [laws_eqBlockSS.s0, decide_eq_true (show (k : Int) < (x.length : Int) by omega), cond_true, if_pos (show (0 : Int) ≤ (k : Int) ∧ (k : Int) < (x.length : Int) by omega), Int.toNat_natCast, refl_laws_eqBlockS (x.getD k []) (h.2 _ (getD_mem hk _)), bne_self_eq_false, beq_self_eq_true, Bool.not_true, cond_false, Option.bind_some]
    rw [w64_id (by omega) (by omega)]
    rfl) (by
    simp only [laws_eqBlockSS.s0]
    rw [decide_eq_false (by omega)]; rfl)
  rw [show ((0 : Int)) = ((0 : Nat) : Int) from rfl, this]
  rfl

theorem reflL_laws_eqBlockSS (x : List (List S_Block)) (h : x.length ≤ 1048576 ∧ ∀ z0 : List S_Block, z0 ∈ x → (z0.length ≤ 1048576)) : laws_eqBlockSS.f x x = some true := by
  have hlen : x.length ≤ 1048576 := h.1
  unfold laws_eqBlockSS.f
  rw [show ((x.length : Int) != (x.length : Int)) = false from by simp]
  have := loopO_run (step := fun s => laws_eqBlockSS.s0 x x s) (fun k => (k : Int)) x.length (r := .out ()) (fun k hk => by
    simp only [laws_eqBlockSS.s0, decide_eq_true (show (k : Int) < (x.length : Int) by omega), cond_true, if_pos (show (0 : Int) ≤ (k : Int) ∧ (k : Int) < (x.length : Int) by omega), Int.toNat_natCast, reflL_laws_eqBlockS (x.getD k []) (h.2 _ (getD_mem hk _)), bne_self_eq_false, beq_self_eq_true, bs_self, Bool.not_true, cond_false, Option.bind_some]
    rw [w64_id (by omega) (by omega)]
    rfl) (by
    simp only [laws_eqBlockSS.s0]
    rw [decide_eq_false (by omega)]; rfl)
  rw [show ((0 : Int)) = ((0 : Nat) : Int) from rfl, this]
  rfl

theorem refl_laws_eqOram (x : S_Oram) (h : (x.Pos.length ≤ 1048576) ∧ (x.Stash.length ≤ 1048576) ∧ (x.Buckets.length ≤ 1048576 ∧ ∀ z0 : List S_Block, z0 ∈ x.Buckets → (z0.length ≤ 1048576))) : laws_eqOram.f x x = some true := by
  unfold laws_eqOram.f
  simp only [refl_laws_eqIntS x.Pos h.1, refl_laws_eqBlockS x.Stash h.2.1, refl_laws_eqBlockSS x.Buckets h.2.2, bne_self_eq_false, beq_self_eq_true, Bool.not_true, cond_false, Option.bind_some]

theorem reflL_laws_eqOram (x : S_Oram) (h : (x.Pos.length ≤ 1048576) ∧ (x.Stash.length ≤ 1048576) ∧ (x.Buckets.length ≤ 1048576 ∧ ∀ z0 : List S_Block, z0 ∈ x.Buckets → (z0.length ≤ 1048576))) : laws_eqOram.f x x = some true := by
  unfold laws_eqOram.f
  simp only [reflL_laws_eqIntS x.Pos h.1, reflL_laws_eqBlockS x.Stash h.2.1, reflL_laws_eqBlockSS x.Buckets h.2.2, bne_self_eq_false, beq_self_eq_true, bs_self, Bool.not_true, cond_false, Option.bind_some]

theorem refl_laws_eqEnc (x : S_Enc) (h : (x.Keys.length ≤ 1048576) ∧ ((x.Oram.Pos.length ≤ 1048576) ∧ (x.Oram.Stash.length ≤ 1048576) ∧ (x.Oram.Buckets.length ≤ 1048576 ∧ ∀ z0 : List S_Block, z0 ∈ x.Oram.Buckets → (z0.length ≤ 1048576)))) : laws_eqEnc.f x x = some true := by
  unfold laws_eqEnc.f
  simp only [refl_laws_eqIntS x.Keys h.1, refl_laws_eqOram x.Oram h.2, bne_self_eq_false, beq_self_eq_true, Bool.not_true, cond_false, Option.bind_some]

theorem reflL_laws_eqEnc (x : S_Enc) (h : (x.Keys.length ≤ 1048576) ∧ ((x.Oram.Pos.length ≤ 1048576) ∧ (x.Oram.Stash.length ≤ 1048576) ∧ (x.Oram.Buckets.length ≤ 1048576 ∧ ∀ z0 : List S_Block, z0 ∈ x.Oram.Buckets → (z0.length ≤ 1048576)))) : laws_eqEnc.f x x = some true := by
  unfold laws_eqEnc.f
  simp only [reflL_laws_eqIntS x.Keys h.1, reflL_laws_eqOram x.Oram h.2, bne_self_eq_false, beq_self_eq_true, bs_self, Bool.not_true, cond_false, Option.bind_some]

theorem refl_laws_eqResult (x : S_Result) (h : (x.Values.length ≤ 1048576)) : laws_eqResult.f x x = some true := by
  unfold laws_eqResult.f
  simp only [refl_laws_eqIntS x.Values h, bne_self_eq_false, beq_self_eq_true, Bool.not_true, cond_false, Option.bind_some]

theorem reflL_laws_eqResult (x : S_Result) (h : (x.Values.length ≤ 1048576)) : laws_eqResult.f x x = some true := by
  unfold laws_eqResult.f
  simp only [reflL_laws_eqIntS x.Values h, bne_self_eq_false, beq_self_eq_true, bs_self, Bool.not_true, cond_false, Option.bind_some]

theorem refl_laws_eqResultS (x : List S_Result) (h : x.length ≤ 1048576 ∧ ∀ z0 : S_Result, z0 ∈ x → ((z0.Values.length ≤ 1048576))) : laws_eqResultS.f x x = some true := by
  have hlen : x.length ≤ 1048576 := h.1
  unfold laws_eqResultS.f
  rw [show ((x.length : Int) != (x.length : Int)) = false from by simp]
  have := loopO_run (step := fun s => laws_eqResultS.s0 x x s) (fun k => (k : Int)) x.length (r := .out ()) (fun k hk => by
    simp only [laws_eqResultS.s0, decide_eq_true (show (k : Int) < (x.length : Int) by omega), cond_true, if_pos (show (0 : Int) ≤ (k : Int) ∧ (k : Int) < (x.length : Int) by omega), Int.toNat_natCast, refl_laws_eqResult (x.getD k z_Result) (h.2 _ (getD_mem hk _)), bne_self_eq_false, beq_self_eq_true, Bool.not_true, cond_false, Option.bind_some]
    rw [w64_id (by omega) (by omega)]
    rfl) (by
    simp only [laws_eqResultS.s0]
    rw [decide_eq_false (by omega)]; rfl)
  rw [show ((0 : Int)) = ((0 : Nat) : Int) from rfl, this]
  rfl

theorem reflL_laws_eqResultS (x : List S_Result) (h : x.length ≤ 1048576 ∧ ∀ z0 : S_Result, z0 ∈ x → ((z0.Values.length ≤ 1048576))) : laws_eqResultS.f x x = some true := by
  have hlen : x.length ≤ 1048576 := h.1
  unfold laws_eqResultS.f
  rw [show ((x.length : Int) != (x.length : Int)) = false from by simp]
  have := loopO_run (step := fun s => laws_eqResultS.s0 x x s) (fun k => (k : Int)) x.length (r := .out ()) (fun k hk => by
    simp only [laws_eqResultS.s0, decide_eq_true (show (k : Int) < (x.length : Int) by omega), cond_true, if_pos (show (0 : Int) ≤ (k : Int) ∧ (k : Int) < (x.length : Int) by omega), Int.toNat_natCast, reflL_laws_eqResult (x.getD k z_Result) (h.2 _ (getD_mem hk _)), bne_self_eq_false, beq_self_eq_true, bs_self, Bool.not_true, cond_false, Option.bind_some]
    rw [w64_id (by omega) (by omega)]
    rfl) (by
    simp only [laws_eqResultS.s0]
    rw [decide_eq_false (by omega)]; rfl)
  rw [show ((0 : Int)) = ((0 : Nat) : Int) from rfl, this]
  rfl

theorem l01In_eq (x lo hi : Int) : spec_l01In.f x lo hi = some (inB x lo hi) := by
  unfold spec_l01In.f inB; cases decide (lo ≤ x) <;> rfl

theorem l08Leaves_eq (l : List Int) (h : l.length ≤ 1073741824) : spec_l08Leaves.f l = some (l.all (fun x => inB x 0 7)) := by
  unfold spec_l08Leaves.f
  have := loopO_scan (step := fun s => spec_l08Leaves.s0 l s) (fun k => (k : Int)) l.length (fun k => inB (l.getD k 0) 0 7) (b := false) (t := ()) (fun k hk => by
    simp only [spec_l08Leaves.s0, l01In_eq, Option.bind_some, Int.toNat_natCast, decide_eq_true (show (k : Int) < (l.length : Int) by omega), cond_true, if_pos (show (0 : Int) ≤ (k : Int) ∧ (k : Int) < (l.length : Int) by omega)]
    rw [w64_id (by omega) (by omega)]
    cases inB (l.getD k 0) 0 7 <;> rfl) (by
    simp only [spec_l08Leaves.s0]
    rw [decide_eq_false (by omega)]; rfl)
  have t2 : loopO (fun s => spec_l08Leaves.s0 l s) 0 = _ := this
  rw [t2, all_range l 0 (fun x => inB x 0 7)]
  cases l.all (fun x => inB x 0 7) <;> rfl

theorem l08In_eq (l : List Int) (x : Int) (h : l.length ≤ 1073741824) : spec_l08In.f l x = some (l.contains x) := by
  unfold spec_l08In.f
  obtain ⟨r, h1, h2⟩ := loopO_wf (step := fun s => spec_l08In.s0 l x s) (fun s => ∃ i : Nat, s = (i : Int) ∧ i ≤ l.length ∧ (l.take i).contains x = false) (fun r => match r with | .out _ => l.contains x = false | .ret r => r = true ∧ l.contains x = true) (fun s => (l.length - s).toNat) (fun s hI => by
    obtain ⟨i, rfl, hi, ha⟩ := hI
    by_cases hlt : i < l.length
    · simp only [spec_l08In.s0, decide_eq_true (show (i : Int) < (l.length : Int) by omega), cond_true, if_pos (show (0 : Int) ≤ (i : Int) ∧ (i : Int) < (l.length : Int) by omega), Int.toNat_natCast]
      cases hc : (l.getD i 0 == x)
      · rw [w64_id (by omega) (by omega)]
        refine .inl ⟨_, rfl, ⟨i + 1, by omega, by omega, ?_⟩, by omega⟩
        rw [take_snoc l i hlt 0]
        have hne : ¬ x = l.getD i 0 := fun e => by rw [← e] at hc; simp at hc
        have hmem : x ∉ l.take i := fun hm => by rw [List.contains_iff_mem.2 hm] at ha; cases ha
        rw [← Bool.not_eq_true, List.contains_iff_mem, List.mem_append, List.mem_singleton]
        exact fun hq => hq.elim hmem hne
      · refine .inr ⟨_, rfl, rfl, ?_⟩
        have : l.getD i 0 = x := by simpa using hc
        rw [List.contains_iff_mem, ← this]
        exact getD_mem hlt 0
    · have e : i = l.length := by omega
      subst e
      rw [List.take_length] at ha
      simp only [spec_l08In.s0]
      rw [decide_eq_false (by omega)]
      exact .inr ⟨_, rfl, ha⟩) _ 0 (Nat.le_refl _) ⟨0, rfl, Nat.zero_le _, rfl⟩
  rw [h1]
  cases r with
  | out u => simp only [Option.bind_some, h2]
  | ret r => simp only [Option.bind_some, h2.1, h2.2]

theorem l08Block_eq (o : S_Oram) (b : S_Block) (ids : List Int) (hp : o.Pos.length = 12) (hi : ids.length ≤ 1073741824) : spec_l08Block.f o b ids = some (okB o.Pos b && !ids.contains b.Id) := by
  unfold spec_l08Block.f okB
  simp only [l01In_eq, l08In_eq ids b.Id hi, Option.bind_some]
  cases h1 : inB b.Id 0 11
  · rfl
  · have := inB_iff.1 h1
    simp only [cond_true]
    rw [if_pos (by omega)]
    cases (o.Pos.getD b.Id.toNat 0 == b.Leaf)
    · rfl
    · cases inB b.Value 0 999999 <;> rfl

theorem l08Path_step (l : List Int) (a : Int) (ha : 1 ≤ a ∧ a ≤ 100) (hl : l.length ≤ 100) : spec_l08Path.s0 l a = some (.inl ([a] ++ l, (a - 1) / 2)) := by
  have ht : Int.tdiv (a - 1) 2 = (a - 1) / 2 := Int.tdiv_eq_ediv_of_nonneg (by omega)
  have hw : IntKind.wrap .i64 (Int.tdiv (a - 1) 2) = (a - 1) / 2 := by rw [ht]; exact w64_id (by omega) (by omega)
  simp only [spec_l08Path.s0]
  rw [if_pos (by simp only [List.length_cons, List.length_nil]; omega), show (a == 0) = false by simp only [beq_eq_false_iff_ne]; omega, w64_id (x := a - 1) (by omega) (by omega), hw]
  rfl
theorem l08Path_eq (x : Int) (hx : 0 ≤ x ∧ x ≤ 7) : spec_l08Path.f x = some (pathL x) := by
  unfold spec_l08Path.f
  have e1 : (7 + x - 1) / 2 = up1 x := by unfold up1; congr 1; omega
  have u1 : 3 ≤ up1 x ∧ up1 x ≤ 6 := by unfold up1; omega
  have u2 : 1 ≤ up2 x ∧ up2 x ≤ 2 := by unfold up2; omega
  have e3 : (up2 x - 1) / 2 = 0 := by omega
  have h1 := l08Path_step [] (7 + x) (by omega) (by simp)
  have h2 := l08Path_step [7 + x] (up1 x) (by omega) (by simp)
  have h3 := l08Path_step [up1 x, 7 + x] (up2 x) (by omega) (by simp)
  rw [e1] at h1
  rw [show (up1 x - 1) / 2 = up2 x from rfl] at h2
  rw [e3] at h3
  have h4 : spec_l08Path.s0 [up2 x, up1 x, 7 + x] 0 = some (.inr (.ret (pathL x))) := by
    simp only [spec_l08Path.s0]
    rw [if_pos (by simp)]
    rfl
  rw [w64_id (by omega) (by omega)]
  rw [loopO_next (step := fun s : List Int × Int => spec_l08Path.s0 s.1 s.2) (s := ([], 7 + x)) h1, loopO_next (step := fun s : List Int × Int => spec_l08Path.s0 s.1 s.2) (s := ([7 + x] ++ [], up1 x)) h2, loopO_next (step := fun s : List Int × Int => spec_l08Path.s0 s.1 s.2) (s := ([up1 x] ++ [7 + x], up2 x)) h3, loopO_stop (step := fun s : List Int × Int => spec_l08Path.s0 s.1 s.2) (s := ([up2 x] ++ [up1 x, 7 + x], 0)) h4]
  rfl

theorem l08On_loop (l : List Int) (x : Int) (h : l.length ≤ 1073741824) : ((loopO (fun s => spec_l08On.s0 x l s) 0).bind fun o => match o with | .out _ => (some false) | .ret r => (some r)) = some (l.contains x) := by

  obtain ⟨r, h1, h2⟩ := loopO_wf (step := fun s => spec_l08On.s0 x l s) (fun s => ∃ i : Nat, s = (i : Int) ∧ i ≤ l.length ∧ (l.take i).contains x = false) (fun r => match r with | .out _ => l.contains x = false | .ret r => r = true ∧ l.contains x = true) (fun s => (l.length - s).toNat) (fun s hI => by
    obtain ⟨i, rfl, hi, ha⟩ := hI
    by_cases hlt : i < l.length
    · simp only [spec_l08On.s0, decide_eq_true (show (i : Int) < (l.length : Int) by omega), cond_true, if_pos (show (0 : Int) ≤ (i : Int) ∧ (i : Int) < (l.length : Int) by omega), Int.toNat_natCast]
      cases hc : (l.getD i 0 == x)
      · rw [w64_id (by omega) (by omega)]
        refine .inl ⟨_, rfl, ⟨i + 1, by omega, by omega, ?_⟩, by omega⟩
        rw [take_snoc l i hlt 0]
        have hne : ¬ x = l.getD i 0 := fun e => by rw [← e] at hc; simp at hc
        have hmem : x ∉ l.take i := fun hm => by rw [List.contains_iff_mem.2 hm] at ha; cases ha
        rw [← Bool.not_eq_true, List.contains_iff_mem, List.mem_append, List.mem_singleton]
        exact fun hq => hq.elim hmem hne
      · refine .inr ⟨_, rfl, rfl, ?_⟩
        have : l.getD i 0 = x := by simpa using hc
        rw [List.contains_iff_mem, ← this]
        exact getD_mem hlt 0
    · have e : i = l.length := by omega
      subst e
      rw [List.take_length] at ha
      simp only [spec_l08On.s0]
      rw [decide_eq_false (by omega)]
      exact .inr ⟨_, rfl, ha⟩) _ 0 (Nat.le_refl _) ⟨0, rfl, Nat.zero_le _, rfl⟩
  rw [h1]
  cases r with
  | out u => simp only [Option.bind_some, h2]
  | ret r => simp only [Option.bind_some, h2.1, h2.2]
theorem l08On_eq (i x : Int) (hx : 0 ≤ x ∧ x ≤ 7) : spec_l08On.f i x = some ((pathL x).contains i) := by
  unfold spec_l08On.f
  rw [l08Path_eq x hx]
  exact l08On_loop (pathL x) i (by simp [pathL])

theorem spec_stash (o : S_Oram) (hp : leavesOK o.Pos) (hl : o.Stash.length ≤ 12) : loopO (fun s : List Int × Int => spec_OramOK.s0 o s.1 s.2) (([] : List Int), 0) = some (match goB o.Pos o.Stash [] with | some r => .out r | none => .ret false) := by
  have hpl := hp.1
  obtain ⟨r, e1, e2⟩ := loopO_wf (step := fun s : List Int × Int => spec_OramOK.s0 o s.1 s.2) (fun s => ∃ i : Nat, s.2 = (i : Int) ∧ i ≤ o.Stash.length ∧ s.1.length = i ∧ goB o.Pos (o.Stash.drop i) s.1 = goB o.Pos o.Stash []) (fun r => r = match goB o.Pos o.Stash [] with | some r => Ex.out r | none => Ex.ret false) (fun s => (o.Stash.length - s.2).toNat) (fun s hI => by
    obtain ⟨ids, k⟩ := s
    obtain ⟨i, hk, hi, hlen, hg⟩ := hI
    simp only at hk hlen hg
    subst hk
    by_cases hlt : i < o.Stash.length
    · have hd : o.Stash.drop i = o.Stash.getD i z_Block :: o.Stash.drop (i + 1) := by rw [getD_lt hlt]; exact List.drop_eq_getElem_cons hlt
      rw [hd] at hg
      simp only [goB] at hg
      simp only [spec_OramOK.s0, decide_eq_true (show (i : Int) < (o.Stash.length : Int) by omega), cond_true, if_pos (show (0 : Int) ≤ (i : Int) ∧ (i : Int) < (o.Stash.length : Int) by omega), Int.toNat_natCast, l08Block_eq o (o.Stash.getD i z_Block) ids hpl (by omega), Option.bind_some]
      cases hc : (okB o.Pos (o.Stash.getD i z_Block) && !ids.contains (o.Stash.getD i z_Block).Id)
      · rw [hc] at hg
        exact .inr ⟨_, rfl, by rw [← hg]; rfl⟩
      · rw [hc] at hg
        simp only [Bool.not_true, cond_false]
        rw [if_pos (by simp only [List.length_cons, List.length_nil]; omega), w64_id (by omega) (by omega)]
        exact .inl ⟨_, rfl, ⟨i + 1, by simp only; omega, by omega, by simp only [List.length_append, List.length_cons, List.length_nil]; omega, hg⟩, by simp only; omega⟩
    · have e : i = o.Stash.length := by omega
      subst e
      rw [List.drop_length] at hg
      simp only [spec_OramOK.s0]
      rw [decide_eq_false (by omega)]
      exact .inr ⟨_, rfl, by rw [← hg]; rfl⟩) _ (([] : List Int), 0) (Nat.le_refl _) ⟨0, rfl, Nat.zero_le _, rfl, rfl⟩
  rw [e1, e2]
theorem spec_bucket (o : S_Oram) (hp : leavesOK o.Pos) (q : Nat) (hq : q < o.Buckets.length) (hq2 : o.Buckets.length ≤ 1048576) (ids : List Int) (hi : ids.length ≤ 1048576) (hl : (o.Buckets.getD q []).length ≤ 2) : loopO (fun s : List Int × Int => spec_OramOK.s2 o (q : Int) s.1 s.2) (ids, 0) = some (match goB o.Pos (o.Buckets.getD q []) ids with | some r => bif (o.Buckets.getD q []).all (onB q) then .out r else .ret false | none => .ret false) := by
  have hpl := hp.1
  obtain ⟨r, e1, e2⟩ := loopO_wf (step := fun s : List Int × Int => spec_OramOK.s2 o (q : Int) s.1 s.2) (fun s => ∃ i : Nat, s.2 = (i : Int) ∧ i ≤ (o.Buckets.getD q []).length ∧ s.1.length ≤ 1048576 + i ∧ goB o.Pos ((o.Buckets.getD q []).drop i) s.1 = goB o.Pos (o.Buckets.getD q []) ids ∧ ((o.Buckets.getD q []).take i).all (onB q) = true) (fun r => r = match goB o.Pos (o.Buckets.getD q []) ids with | some r => bif (o.Buckets.getD q []).all (onB q) then Ex.out r else Ex.ret false | none => Ex.ret false) (fun s => ((o.Buckets.getD q []).length - s.2).toNat) (fun s hI => by
    obtain ⟨idn, k⟩ := s
    obtain ⟨i, hk, hi2, hlen, hg, ha⟩ := hI
    simp only at hk hlen hg
    subst hk
    by_cases hlt : i < (o.Buckets.getD q []).length
    · have hd : (o.Buckets.getD q []).drop i = (o.Buckets.getD q []).getD i z_Block :: (o.Buckets.getD q []).drop (i + 1) := by rw [getD_lt hlt]; exact List.drop_eq_getElem_cons hlt
      rw [hd] at hg
      simp only [goB] at hg
      simp only [spec_OramOK.s2, if_pos (show (0 : Int) ≤ (q : Int) ∧ (q : Int) < (o.Buckets.length : Int) by omega), Int.toNat_natCast, decide_eq_true (show (i : Int) < ((o.Buckets.getD q []).length : Int) by omega), cond_true, if_pos (show (0 : Int) ≤ (i : Int) ∧ (i : Int) < ((o.Buckets.getD q []).length : Int) by omega), l08Block_eq o ((o.Buckets.getD q []).getD i z_Block) idn hpl (by omega), Option.bind_some]
      cases hc : (okB o.Pos ((o.Buckets.getD q []).getD i z_Block) && !idn.contains ((o.Buckets.getD q []).getD i z_Block).Id)
      · rw [hc] at hg
        exact .inr ⟨_, rfl, by rw [← hg]; rfl⟩
      · rw [hc] at hg
        simp only [Bool.and_eq_true] at hc
        have hlf := okB_leaf hp hc.1
        simp only [Bool.not_true, cond_false, l08On_eq (q : Int) _ hlf, Option.bind_some]
        have hon : onB q ((o.Buckets.getD q []).getD i z_Block) = (pathL ((o.Buckets.getD q []).getD i z_Block).Leaf).contains (q : Int) := by
          unfold onB; rw [inB_iff.2 hlf, Bool.true_and]
        cases hcc : (pathL ((o.Buckets.getD q []).getD i z_Block).Leaf).contains (q : Int)
        · refine .inr ⟨_, rfl, ?_⟩
          have hf : (o.Buckets.getD q []).all (onB q) = false := by
            rw [← Bool.not_eq_true, List.all_eq_true]
            intro h
            have := h _ (getD_mem hlt z_Block)
            rw [hon, hcc] at this; cases this
          rw [hf]
          cases goB o.Pos (o.Buckets.getD q []) ids <;> rfl
        · simp only [Bool.not_true, cond_false]
          rw [if_pos (by simp only [List.length_cons, List.length_nil]; omega), w64_id (by omega) (by omega)]
          refine .inl ⟨_, rfl, ⟨i + 1, by simp only; omega, by omega, by simp only [List.length_append, List.length_cons, List.length_nil]; omega, hg, ?_⟩, by simp only; omega⟩
          rw [take_snoc _ i hlt z_Block, List.all_append, ha]
          simp only [List.all_cons, List.all_nil, hon, hcc, Bool.and_self]
    · have e : i = (o.Buckets.getD q []).length := by omega
      rw [e, List.drop_length] at hg
      rw [e, List.take_length] at ha
      simp only [spec_OramOK.s2, if_pos (show (0 : Int) ≤ (q : Int) ∧ (q : Int) < (o.Buckets.length : Int) by omega), Int.toNat_natCast]
      rw [decide_eq_false (by omega)]
      exact .inr ⟨_, rfl, by rw [← hg, ha]; rfl⟩) _ (ids, 0) (Nat.le_refl _) ⟨0, rfl, Nat.zero_le _, by simp only; omega, rfl, rfl⟩
  rw [e1, e2]
theorem spec_OramOK_eq (o : S_Oram) (h1 : o.Pos.length ≤ 1073741824) (h3 : o.Buckets.length ≤ 1048576) : spec_OramOK.f o = some (oramB o) := by
  unfold spec_OramOK.f
  simp only [bne, l08Leaves_eq o.Pos h1, Option.bind_some]
  cases hp : ((o.Pos.length : Int) == 12)
  · unfold oramB; rw [hp]; rfl
  cases hl : o.Pos.all (fun x => inB x 0 7)
  · unfold oramB; rw [hl]; simp
  have hp' : o.Pos.length = 12 := by
    have : (o.Pos.length : Int) = 12 := by simpa using hp
    omega
  have hlv : leavesOK o.Pos := ⟨hp', fun y hy => inB_iff.1 (List.all_eq_true.1 hl y hy)⟩
  simp only [Bool.not_true, cond_false]
  by_cases hst : (o.Stash.length : Int) > 12
  · rw [decide_eq_true hst]
    have hn : (goB o.Pos (o.Stash ++ o.Buckets.flatten) []).isSome = false := by
      rw [goB_app]
      cases hg : goB o.Pos o.Stash [] with
      | none => rfl
      | some r => have := goB_le o.Pos o.Stash r hg; omega
    unfold oramB
    rw [hn, Bool.and_false]; rfl
  rw [decide_eq_false hst]
  simp only [cond_false]
  cases hb : ((o.Buckets.length : Int) == 15)
  · unfold oramB; rw [hb]; simp
  have hb' : o.Buckets.length = 15 := by
    have : (o.Buckets.length : Int) = 15 := by simpa using hb
    omega
  simp only [Bool.not_true, Option.bind_some, cond_false, spec_stash o hlv (by omega)]
  unfold oramB
  rw [hp, hl, hb, goB_app]
  simp only [Bool.true_and]
  cases hg : goB o.Pos o.Stash [] with
  | none => simp
  | some r0 =>
    obtain ⟨g1, g2, g3⟩ := goB_len o.Pos o.Stash [] r0 hg List.nodup_nil (by simp)
    simp only [List.length_nil] at g1
    simp only [Option.bind_some]
    obtain ⟨r, e1, e2⟩ := loopO_wf (step := fun s : List Int × Int => spec_OramOK.s1 o s.1 s.2) (fun s => ∃ i : Nat, s.2 = (i : Int) ∧ i ≤ 15 ∧ s.1.length ≤ 12 + 2 * i ∧ goB o.Pos (o.Buckets.drop i).flatten s.1 = goB o.Pos o.Buckets.flatten r0 ∧ (∀ k, k < i → (decide ((o.Buckets.getD k []).length ≤ 2) && (o.Buckets.getD k []).all (onB k)) = true))
      (fun r => match r with | .out _ => ((List.range o.Buckets.length).all (fun i => decide ((o.Buckets.getD i []).length ≤ 2) && (o.Buckets.getD i []).all (onB i)) && (goB o.Pos o.Buckets.flatten r0).isSome) = true | .ret b => b = false ∧ ((List.range o.Buckets.length).all (fun i => decide ((o.Buckets.getD i []).length ≤ 2) && (o.Buckets.getD i []).all (onB i)) && (goB o.Pos o.Buckets.flatten r0).isSome) = false) (fun s => (15 - s.2).toNat) (fun s hI => by
      obtain ⟨ids, k⟩ := s
      obtain ⟨i, hk, hi, hlen, hgo, hal⟩ := hI
      simp only at hk hlen hgo
      subst hk
      by_cases hlt : i < 15
      · have hib : i < o.Buckets.length := by omega
        have hd : o.Buckets.drop i = o.Buckets.getD i [] :: o.Buckets.drop (i + 1) := by rw [getD_lt hib]; exact List.drop_eq_getElem_cons hib
        rw [hd, List.flatten_cons, goB_app] at hgo
        have bad : (decide ((o.Buckets.getD i []).length ≤ 2) && (o.Buckets.getD i []).all (onB i)) = false → (List.range o.Buckets.length).all (fun i => decide ((o.Buckets.getD i []).length ≤ 2) && (o.Buckets.getD i []).all (onB i)) = false := fun hf => by
          rw [← Bool.not_eq_true, List.all_eq_true]
          intro h
          have := h i (List.mem_range.2 hib)
          rw [hf] at this; cases this
        simp only [spec_OramOK.s1, decide_eq_true (show (i : Int) < 15 by omega), cond_true, if_pos (show (0 : Int) ≤ (i : Int) ∧ (i : Int) < (o.Buckets.length : Int) by omega), Int.toNat_natCast]
        by_cases h2 : ((o.Buckets.getD i []).length : Int) > 2
        · rw [decide_eq_true h2]
          refine .inr ⟨_, rfl, rfl, ?_⟩
          rw [bad (by rw [decide_eq_false (show ¬ (o.Buckets.getD i []).length ≤ 2 by omega)]; rfl)]; rfl
        · rw [decide_eq_false h2]
          simp only [cond_false, spec_bucket o hlv i hib (by omega) ids (by omega) (by omega)]
          cases hgb : goB o.Pos (o.Buckets.getD i []) ids with
          | none =>
            rw [hgb] at hgo
            refine .inr ⟨_, rfl, rfl, ?_⟩
            rw [← hgo]; simp
          | some r1 =>
            rw [hgb] at hgo
            simp only [Option.bind_some] at hgo
            have hlr : r1.length = ids.length + (o.Buckets.getD i []).length := goB_len' o.Pos _ _ _ hgb
            cases ha : (o.Buckets.getD i []).all (onB i)
            · refine .inr ⟨_, rfl, rfl, ?_⟩
              rw [bad (by rw [ha, Bool.and_false])]; rfl
            · simp only [cond_true, Option.bind_some]
              rw [w64_id (by omega) (by omega)]
              refine .inl ⟨_, rfl, ⟨i + 1, by simp only; omega, by omega, by simp only; omega, hgo, fun k hk => ?_⟩, by simp only; omega⟩
              by_cases e : k = i
              · rw [e, ha, decide_eq_true (show (o.Buckets.getD i []).length ≤ 2 by omega)]; rfl
              · exact hal k (by omega)
      · have e : i = o.Buckets.length := by omega
        rw [e, List.drop_length] at hgo
        simp only [spec_OramOK.s1]
        rw [decide_eq_false (by omega)]
        refine .inr ⟨_, rfl, ?_⟩
        simp only [Bool.and_eq_true]
        refine ⟨List.all_eq_true.2 (fun k hk => hal k (by have := List.mem_range.1 hk; omega)), ?_⟩
        rw [← hgo]; rfl) _ (r0, 0) (Nat.le_refl _) ⟨0, rfl, Nat.zero_le _, by simp only; omega, rfl, fun k hk => by omega⟩
    rw [e1]
    cases r with
    | out u => simp only at e2; rw [e2]; rfl
    | ret b => simp only at e2; rw [e2.2, e2.1]; rfl

theorem spec_EncOK_eq (e : S_Enc) (hk : e.Keys.length ≤ 1048576) (h1 : e.Oram.Pos.length ≤ 1073741824) (h3 : e.Oram.Buckets.length ≤ 1048576) : spec_EncOK.f e = some (keysB e.Keys && (((e.Keys.length : Int) == 11) && oramB e.Oram)) := by
  unfold spec_EncOK.f
  have := loopO_scan (step := fun s => spec_EncOK.s0 e s) (fun k => (k : Int)) e.Keys.length (keyP e.Keys) (b := false) (t := ()) (fun k hkk => by
    simp only [spec_EncOK.s0, decide_eq_true (show (k : Int) < (e.Keys.length : Int) by omega), cond_true, if_pos (show (0 : Int) ≤ (k : Int) ∧ (k : Int) < (e.Keys.length : Int) by omega), if_pos (show (0 : Int) ≤ (k : Int) ∧ (k : Int) ≤ (e.Keys.length : Int) by omega), Int.toNat_natCast, l01In_eq, l08In_eq (e.Keys.take k) (e.Keys.getD k 0) (by rw [List.length_take]; omega), Option.bind_some]
    rw [w64_id (by omega) (by omega)]
    unfold keyP
    cases h9 : inB (e.Keys.getD k 0) 0 9999
    · rfl
    · have h9' := inB_iff.1 h9
      by_cases h0 : e.Keys.getD k 0 > 0
      · rw [decide_eq_true h0, show (e.Keys.getD k 0 == 0) = false by simp only [beq_eq_false_iff_ne]; omega]
        cases (e.Keys.take k).contains (e.Keys.getD k 0) <;> rfl
      · rw [decide_eq_false h0, show (e.Keys.getD k 0 == 0) = true by simp only [beq_iff_eq]; omega]
        rfl) (by
    simp only [spec_EncOK.s0]
    rw [decide_eq_false (by omega)]; rfl)
  have this : loopO (fun s => spec_EncOK.s0 e s) 0 = _ := this
  simp only [bne, spec_OramOK_eq e.Oram h1 h3, this, Option.bind_some]
  unfold keysB
  cases ((e.Keys.length : Int) == 11) <;> cases oramB e.Oram <;> cases (List.range e.Keys.length).all (keyP e.Keys) <;> rfl

theorem l10ResultOK_eq (x : S_Result) (h : x.Values.length ≤ 1073741824) : spec_l10ResultOK.f x = some (resOK x) := by
  unfold spec_l10ResultOK.f resOK
  have := loopO_scan (step := fun s => spec_l10ResultOK.s0 x s) (fun k => (k : Int)) x.Values.length (fun k => inB (x.Values.getD k 0) 0 999999) (b := false) (t := ()) (fun k hk => by
    simp only [spec_l10ResultOK.s0, decide_eq_true (show (k : Int) < (x.Values.length : Int) by omega), cond_true, if_pos (show (0 : Int) ≤ (k : Int) ∧ (k : Int) < (x.Values.length : Int) by omega), Int.toNat_natCast, l01In_eq, Option.bind_some]
    rw [w64_id (by omega) (by omega)]
    cases inB (x.Values.getD k 0) 0 999999 <;> rfl) (by
    simp only [spec_l10ResultOK.s0]
    rw [decide_eq_false (by omega)]; rfl)
  have this : loopO (fun s => spec_l10ResultOK.s0 x s) 0 = _ := this
  rw [all_range x.Values 0 (fun v => inB v 0 999999)] at this
  simp only [l01In_eq, this, Option.bind_some, bne]
  cases inB x.Code 0 19
  · rfl
  by_cases c : (x.Values.length : Int) > 32
  · rw [decide_eq_true c, decide_eq_false (show ¬ (x.Values.length : Int) ≤ 32 by omega)]; rfl
  rw [decide_eq_false c, decide_eq_true (show (x.Values.length : Int) ≤ 32 by omega)]
  cases x.Code == 0
  · by_cases z : (x.Values.length : Int) > 0
    · rw [decide_eq_true z, show ((x.Values.length : Int) == 0) = false by simp only [beq_eq_false_iff_ne]; omega]
      cases x.Values.all (fun v => inB v 0 999999) <;> rfl
    · rw [decide_eq_false z, show ((x.Values.length : Int) == 0) = true by simp only [beq_iff_eq]; omega]
      cases x.Values.all (fun v => inB v 0 999999) <;> rfl
  · cases x.Values.all (fun v => inB v 0 999999) <;> rfl

theorem l12Results_eq (l : List S_Result) (h : l.length ≤ 1048576) (h2 : ∀ y, y ∈ l → y.Values.length ≤ 1073741824) : spec_l12Results.f l = some (l.all resOK && decide ((l.length : Int) ≤ 2)) := by
  unfold spec_l12Results.f
  have := loopO_scan (step := fun s => spec_l12Results.s0 l s) (fun k => (k : Int)) l.length (fun k => resOK (l.getD k z_Result)) (b := false) (t := ()) (fun k hk => by
    simp only [spec_l12Results.s0, decide_eq_true (show (k : Int) < (l.length : Int) by omega), cond_true, if_pos (show (0 : Int) ≤ (k : Int) ∧ (k : Int) < (l.length : Int) by omega), Int.toNat_natCast, l10ResultOK_eq _ (h2 _ (getD_mem hk z_Result)), Option.bind_some]
    rw [w64_id (by omega) (by omega)]
    cases resOK (l.getD k z_Result) <;> rfl) (by
    simp only [spec_l12Results.s0]
    rw [decide_eq_false (by omega)]; rfl)
  have t2 : loopO (fun s => spec_l12Results.s0 l s) 0 = _ := this
  rw [t2, all_range l z_Result resOK]
  cases l.all resOK <;> rfl

theorem l02Word_eq (t : ByteArray) (j : Nat) (h : 4 * j + 4 ≤ t.size) (hs : t.size ≤ 1048576) : spec_l02Word.f t ((4 * j : Nat) : Int) = some (wd (bytesOf t) j) := by
  have hB := bytesOf_isB t
  have hl := bytesOf_len t
  unfold spec_l02Word.f
  have w1 : w64 (((4 * j : Nat) : Int) + 1) = ((4 * j + 1 : Nat) : Int) := by rw [w64_id (by omega) (by omega)]; omega
  have w2 : w64 (((4 * j : Nat) : Int) + 2) = ((4 * j + 2 : Nat) : Int) := by rw [w64_id (by omega) (by omega)]; omega
  have w3 : w64 (((4 * j : Nat) : Int) + 3) = ((4 * j + 3 : Nat) : Int) := by rw [w64_id (by omega) (by omega)]; omega
  rw [w1, w2, w3, if_pos (by omega), if_pos (by omega), if_pos (by omega), if_pos (by omega)]
  rw [byteAt_eq t _ (by omega) (by omega), byteAt_eq t _ (by omega) (by omega), byteAt_eq t _ (by omega) (by omega), byteAt_eq t _ (by omega) (by omega)]
  simp only [Int.toNat_natCast]
  obtain ⟨a0, a1⟩ := getD_isB hB (4 * j)
  obtain ⟨b0, b1⟩ := getD_isB hB (4 * j + 1)
  obtain ⟨c0, c1⟩ := getD_isB hB (4 * j + 2)
  obtain ⟨d0, d1⟩ := getD_isB hB (4 * j + 3)
  unfold wd
  generalize (bytesOf t).getD (4 * j) 0 = a at a0 a1 ⊢
  generalize (bytesOf t).getD (4 * j + 1) 0 = b at b0 b1 ⊢
  generalize (bytesOf t).getD (4 * j + 2) 0 = c at c0 c1 ⊢
  generalize (bytesOf t).getD (4 * j + 3) 0 = d at d0 d1 ⊢
  have w (x : Int) (h0 : 0 ≤ x) (h1 : x < 4294967296) : IntKind.wrap .i64 x = x := w64_id (by omega) (by omega)
  have e8 : ((2 : Int) ^ 8) = 256 := by decide
  have e16 : ((2 : Int) ^ 16) = 65536 := by decide
  have e24 : ((2 : Int) ^ 24) = 16777216 := by decide
  rw [w a (by omega) (by omega), w b (by omega) (by omega), w c (by omega) (by omega), w d (by omega) (by omega), e8, e16, e24, w (b * 256) (by omega) (by omega), w (c * 65536) (by omega) (by omega), w (d * 16777216) (by omega) (by omega)]
  rw [or64 256 8 (by decide) (y := b * 256) b a0 (by omega) b0 rfl (by omega)]
  rw [or64 65536 16 (by decide) (y := c * 65536) c (by omega) (by omega) c0 rfl (by omega)]
  rw [or64 16777216 24 (by decide) (y := d * 16777216) d (by omega) (by omega) d0 rfl (by omega)]

theorem l06ToInts_eq (t : ByteArray) (h : t.size ≤ 1048576) : spec_l06ToInts.f t = some (wdsN (bytesOf t) (t.size / 4), (t.size % 4 == 0)) := by
  unfold spec_l06ToInts.f
  have := loopO_run (step := fun s : List Int × Int => spec_l06ToInts.s0 t s.1 s.2) (fun k => (wdsN (bytesOf t) k, ((4 * k : Nat) : Int))) (t.size / 4) (r := .out (wdsN (bytesOf t) (t.size / 4))) (fun k hk => by
    have w4 : w64 (((4 * k : Nat) : Int) + 4) = ((4 * (k + 1) : Nat) : Int) := by rw [w64_id (by omega) (by omega)]; omega
    simp only [spec_l06ToInts.s0, w4, decide_eq_true (show ((4 * (k + 1) : Nat) : Int) ≤ (t.size : Int) by omega), cond_true, l02Word_eq t k (by omega) h, Option.bind_some]
    rw [if_pos (by rw [wdsN_len]; simp; omega), wdsN_succ]) (by
    have w4 : w64 (((4 * (t.size / 4) : Nat) : Int) + 4) = ((4 * (t.size / 4 + 1) : Nat) : Int) := by rw [w64_id (by omega) (by omega)]; omega
    simp only [spec_l06ToInts.s0, w4]
    rw [decide_eq_false (by omega)]; rfl)
  have this2 : loopO (fun s : List Int × Int => spec_l06ToInts.s0 t s.1 s.2) (([] : List Int), 0) = _ := this
  rw [this2]
  simp only [Option.bind_some]
  congr 2
  rw [Int.tmod_eq_emod_of_nonneg (by omega)]
  rw [Bool.eq_iff_iff]
  simp only [beq_iff_eq]
  omega

/-- The words of a text, or none where it has not so many. -/
def wordsOrS (t : ByteArray) (n : Nat) : List Int × Nat := if t.size = 4 * n then (wdsN (bytesOf t) n, 0) else ([], 1)
theorem l12Read_eq (t : ByteArray) (n : Nat) (h : t.size ≤ 1048576) : spec_l12Read.f t (n : Int) = some ⟨(wordsOrS t n).1, ((wordsOrS t n).2 : Int)⟩ := by
  unfold spec_l12Read.f wordsOrS
  rw [l06ToInts_eq t h]
  simp only [Option.bind_some, wdsN_len, bne]
  by_cases hs : t.size = 4 * n
  · rw [if_pos hs, show (t.size % 4 == 0) = true from by simp; omega]
    have : t.size / 4 = n := by omega
    rw [this]
    simp
  · rw [if_neg hs]
    by_cases h4 : t.size % 4 = 0
    · rw [show (t.size % 4 == 0) = true from by simpa using h4, show ((((t.size / 4 : Nat) : Int)) == (n : Int)) = false from by simp; omega]
      rfl
    · rw [show (t.size % 4 == 0) = false from by simpa using h4]
      rfl

theorem s_next (L : List Int) (q : Nat) (hq : q ≤ L.length + 1) (hL : L.length ≤ 1048576) : spec_l12Reader_next.f ⟨L, (q : Int)⟩ = some ((nS L q).1, ((nS L q).2 : Int)) := by
  unfold spec_l12Reader_next.f nS
  by_cases h : q < L.length
  · have w1 : w64 ((q : Int) + 1) = ((q + 1 : Nat) : Int) := by rw [w64_id (by omega) (by omega)]; omega
    have w2 : w64 (((q + 1 : Nat) : Int) - 1) = (q : Int) := by rw [w64_id (by omega) (by omega)]; omega
    simp only [decide_eq_false (show ¬ (q : Int) ≥ (L.length : Int) by omega), cond_false, w1, w2, if_pos (show (0 : Int) ≤ (q : Int) ∧ (q : Int) < (L.length : Int) by omega), Int.toNat_natCast, if_pos h]
  · simp only [decide_eq_true (show (q : Int) ≥ (L.length : Int) by omega), cond_true, if_neg h]

theorem s_count (L : List Int) (q : Nat) (most : Int) (hq : q ≤ L.length + 1) (hL : L.length ≤ 1048576) : spec_l12Reader_count.f ⟨L, (q : Int)⟩ most = some ((cS L most q).1, ((cS L most q).2 : Int)) := by
  unfold spec_l12Reader_count.f cS
  simp only [s_next L q hq hL, l01In_eq, Option.bind_some]
  cases inB (nS L q).1 0 most
  · simp only [Bool.not_false, cond_true, Bool.false_eq_true, if_false]
    rw [w64_id (by omega) (by omega)]; rfl
  · simp

def restS (L : List Int) (q : Nat) : Bool := (L.drop q).all (fun n => n == 0) && decide (q ≤ L.length)
theorem s_rest (L : List Int) (q : Nat) (hq : q ≤ L.length + 1) (hL : L.length ≤ 1048576) : spec_l12Reader_rest.f ⟨L, (q : Int)⟩ = some (restS L q, (q : Int)) := by
  unfold spec_l12Reader_rest.f restS
  have key : ∀ (m q : Nat), q + m = L.length → loopO (fun s => spec_l12Reader_rest.s0 ⟨L, (q : Int)⟩ s) (q : Int) = loopO (fun s => spec_l12Reader_rest.s0 ⟨L, (q : Int)⟩ s) (q : Int) := fun _ _ _ => rfl
  have run : ∀ (a : Int) (m k : Nat), k + m = L.length → loopO (fun s => spec_l12Reader_rest.s0 ⟨L, a⟩ s) (k : Int) = some (bif (L.drop k).all (fun n => n == 0) then .out () else .ret (false, a)) := by
    intro a m
    induction m with
    | zero =>
      intro k hk
      rw [loopO_eq, List.drop_of_length_le (by omega)]
      simp only [spec_l12Reader_rest.s0]
      rw [decide_eq_false (by omega)]; rfl
    | succ m ih =>
      intro k hk
      rw [loopO_eq]
      have hk2 : k < L.length := by omega
      simp only [spec_l12Reader_rest.s0, decide_eq_true (show (k : Int) < (L.length : Int) by omega), cond_true, if_pos (show (0 : Int) ≤ (k : Int) ∧ (k : Int) < (L.length : Int) by omega), Int.toNat_natCast, bne]
      have w1 : w64 ((k : Int) + 1) = ((k + 1 : Nat) : Int) := by rw [w64_id (by omega) (by omega)]; omega
      have hd : L.drop k = L.getD k 0 :: L.drop (k + 1) := by rw [getD_lt hk2]; exact List.drop_eq_getElem_cons hk2
      rw [w1, hd, List.all_cons]
      cases hz : (L.getD k 0 == 0)
      · rfl
      · simp only [Bool.not_true, cond_false, Bool.true_and]
        exact ih (k + 1) (by omega)
  by_cases h : q ≤ L.length
  · rw [run (q : Int) (L.length - q) q (by omega), decide_eq_true (show (q : Int) ≤ (L.length : Int) by omega), decide_eq_true h]
    cases (L.drop q).all (fun n => n == 0) <;> rfl
  · rw [loopO_eq]
    simp only [spec_l12Reader_rest.s0]
    rw [decide_eq_false (show ¬ (q : Int) < (L.length : Int) by omega), decide_eq_false (show ¬ (q : Int) ≤ (L.length : Int) by omega), decide_eq_false h]
    simp

theorem st_s0 (y4 : S_l12Reader) (L : List Int) (hy : y4.list = L) (q : Nat) (hq : q ≤ L.length + 1) (hL : L.length ≤ 1048576) : loopO (fun s : Int × Int × List Int => spec_l12ToState.s0 y4 s.1 s.2.1 s.2.2) (0, (q : Int), ([] : List Int)) = some (.out (((rep (nS L) 12 q).2 : Int), (rep (nS L) 12 q).1)) := by
  have := loopO_run (step := fun s : Int × Int × List Int => spec_l12ToState.s0 y4 s.1 s.2.1 s.2.2) (fun k => ((k : Int), ((rep (nS L) k q).2 : Int), (rep (nS L) k q).1)) 12
    (r := .out (((rep (nS L) 12 q).2 : Int), (rep (nS L) 12 q).1)) (fun k hk => by
    have h1 := rep_le (f := nS L) (fun q hq => nS_le hq) k q hq
    have hl := rep_len (nS L) k q
    generalize hr : rep (nS L) k q = r at h1 hl
    obtain ⟨u, a⟩ := r
    simp only at h1 hl
    simp only [spec_l12ToState.s0, decide_eq_true (show (k : Int) < 12 by omega), cond_true, hy, s_next L a h1 hL, Option.bind_some]
    rw [if_pos (by simp; omega), w64_id (by omega) (by omega)]
    simp only [rep, hr]
    rfl) (by
    simp only [spec_l12ToState.s0]
    rw [decide_eq_false (by omega)]; rfl)
  exact this
theorem st_s2 (y4 : S_l12Reader) (L : List Int) (hy : y4.list = L) (q : Nat) (hq : q ≤ L.length + 1) (hL : L.length ≤ 1048576) : loopO (fun s : Int × Int × List Int => spec_l12ToState.s2 y4 s.1 s.2.1 s.2.2) (0, (q : Int), ([] : List Int)) = some (.out (((rep (nS L) 11 q).2 : Int), (rep (nS L) 11 q).1)) := by
  have := loopO_run (step := fun s : Int × Int × List Int => spec_l12ToState.s2 y4 s.1 s.2.1 s.2.2) (fun k => ((k : Int), ((rep (nS L) k q).2 : Int), (rep (nS L) k q).1)) 11
    (r := .out (((rep (nS L) 11 q).2 : Int), (rep (nS L) 11 q).1)) (fun k hk => by
    have h1 := rep_le (f := nS L) (fun q hq => nS_le hq) k q hq
    have hl := rep_len (nS L) k q
    generalize hr : rep (nS L) k q = r at h1 hl
    obtain ⟨u, a⟩ := r
    simp only at h1 hl
    simp only [spec_l12ToState.s2, decide_eq_true (show (k : Int) < 11 by omega), cond_true, hy, s_next L a h1 hL, Option.bind_some]
    rw [if_pos (by simp; omega), w64_id (by omega) (by omega)]
    simp only [rep, hr]
    rfl) (by
    simp only [spec_l12ToState.s2]
    rw [decide_eq_false (by omega)]; rfl)
  exact this
theorem st_s4 (y4 : S_l12Reader) (L : List Int) (hy : y4.list = L) (n : Int) (q : Nat) (hn : 0 ≤ n ∧ n ≤ 1000) (hq : q ≤ L.length + 1) (hL : L.length ≤ 1048576) : loopO (fun s : Int × Int × List Int => spec_l12ToState.s4 y4 s.1 s.2.1 s.2.2) (n, (q : Int), ([] : List Int)) = some (.out (((rep (nS L) n.toNat q).2 : Int), (rep (nS L) n.toNat q).1)) := by
  have := loopO_run (step := fun s : Int × Int × List Int => spec_l12ToState.s4 y4 s.1 s.2.1 s.2.2) (fun k => (n - (k : Int), ((rep (nS L) k q).2 : Int), (rep (nS L) k q).1)) n.toNat
    (r := .out (((rep (nS L) n.toNat q).2 : Int), (rep (nS L) n.toNat q).1)) (fun k hk => by
    have h1 := rep_le (f := nS L) (fun q hq => nS_le hq) k q hq
    have hl := rep_len (nS L) k q
    generalize hr : rep (nS L) k q = r at h1 hl
    obtain ⟨u, a⟩ := r
    simp only at h1 hl
    simp only [spec_l12ToState.s4, decide_eq_true (show n - (k : Int) > 0 by omega), cond_true, hy, s_next L a h1 hL, Option.bind_some]
    rw [if_pos (by simp; omega), w64_id (by omega) (by omega)]
    simp only [rep, hr]
    congr 3
    omega) (by
    simp only [spec_l12ToState.s4]
    rw [decide_eq_false (by omega)]; rfl)
  have e0 : n - ((0 : Nat) : Int) = n := by omega
  have h3 := this
  simp only [rep, e0] at h3
  exact h3
theorem st_s1 (y4 : S_l12Reader) (L : List Int) (hy : y4.list = L) (n : Int) (q : Nat) (hn : 0 ≤ n ∧ n ≤ 1000) (hq : q ≤ L.length + 1) (hL : L.length ≤ 1048576) : loopO (fun s : Int × Int × List S_Block => spec_l12ToState.s1 y4 s.1 s.2.1 s.2.2) (n, (q : Int), ([] : List S_Block)) = some (.out (((rep (blkS L) n.toNat q).2 : Int), (rep (blkS L) n.toNat q).1)) := by
  have := loopO_run (step := fun s : Int × Int × List S_Block => spec_l12ToState.s1 y4 s.1 s.2.1 s.2.2) (fun k => (n - (k : Int), ((rep (blkS L) k q).2 : Int), (rep (blkS L) k q).1)) n.toNat
    (r := .out (((rep (blkS L) n.toNat q).2 : Int), (rep (blkS L) n.toNat q).1)) (fun k hk => by
    have h1 := rep_le (f := blkS L) (fun q hq => blkS_le hq) k q hq
    have hl := rep_len (blkS L) k q
    generalize hr : rep (blkS L) k q = r at h1 hl
    obtain ⟨u, a⟩ := r
    simp only at h1 hl
    have h2 := nS_le h1
    have h3 := nS_le h2
    simp only [spec_l12ToState.s1, decide_eq_true (show n - (k : Int) > 0 by omega), cond_true, hy, s_next L a h1 hL, s_next L _ h2 hL, s_next L _ h3 hL, Option.bind_some]
    rw [if_pos (by simp; omega), w64_id (by omega) (by omega)]
    simp only [rep, hr]
    congr 3
    first | omega | exact ⟨by omega, rfl⟩ | (simp only [Prod.mk.injEq]; exact ⟨by omega, rfl⟩)) (by
    simp only [spec_l12ToState.s1]
    rw [decide_eq_false (by omega)]; rfl)
  have e0 : n - ((0 : Nat) : Int) = n := by omega
  have h3 := this
  simp only [rep, e0] at h3
  exact h3
theorem st_s3 (y4 : S_l12Reader) (L : List Int) (hy : y4.list = L) (n : Int) (q : Nat) (hn : 0 ≤ n ∧ n ≤ 1000) (hq : q ≤ L.length + 1) (hL : L.length ≤ 1048576) : loopO (fun s : List S_Result × Int × Int => spec_l12ToState.s3 y4 s.1 s.2.1 s.2.2) (([] : List S_Result), n, (q : Int)) = some (.out ((rep (resS L) n.toNat q).1, ((rep (resS L) n.toNat q).2 : Int))) := by
  have := loopO_run (step := fun s : List S_Result × Int × Int => spec_l12ToState.s3 y4 s.1 s.2.1 s.2.2) (fun k => ((rep (resS L) k q).1, n - (k : Int), ((rep (resS L) k q).2 : Int))) n.toNat
    (r := .out ((rep (resS L) n.toNat q).1, ((rep (resS L) n.toNat q).2 : Int))) (fun k hk => by
    have h1 := rep_le (f := resS L) (fun q hq => (res_pair L).les q hq) k q hq
    have hl := rep_len (resS L) k q
    generalize hr : rep (resS L) k q = r at h1 hl
    obtain ⟨u, a⟩ := r
    simp only at h1 hl
    have h2 := nS_le h1
    have hcc := cS_cnt L 32 (by decide) (nS L a).2
    simp only [spec_l12ToState.s3, decide_eq_true (show n - (k : Int) > 0 by omega), cond_true, hy, s_next L a h1 hL, s_count L _ 32 h2 hL, Option.bind_some, st_s4 y4 L hy (cS L 32 (nS L a).2).1 (cS L 32 (nS L a).2).2 (by omega) (cS_le h2) hL]
    rw [if_pos (by simp; omega), w64_id (by omega) (by omega)]
    simp only [rep, hr]
    congr 3
    first | omega | exact ⟨by omega, rfl⟩ | (simp only [Prod.mk.injEq]; exact ⟨by omega, rfl⟩)) (by
    simp only [spec_l12ToState.s3]
    rw [decide_eq_false (by omega)]; rfl)
  have e0 : n - ((0 : Nat) : Int) = n := by omega
  have h3 := this
  simp only [rep, e0] at h3
  exact h3
theorem s_state (t : ByteArray) (h : t.size ≤ 1048576) (L : List Int) (q : Nat) (hw : wordsOrS t 140 = (L, q)) (hL : L.length ≤ 1048576) (hq : q ≤ L.length + 1) : spec_l12ToState.f t = some ((⟨(stS L q).1.keys, encV (stS L q).1⟩ : S_Enc), (stS L q).1.res, restS L (stS L q).2 && okV (stS L q).1) := by
  have hR := l12Read_eq t 140 h
  rw [hw] at hR
  unfold spec_l12ToState.f
  have hR' : spec_l12Read.f t 140 = _ := hR
  have hN : spec_l08New.f ([] : List Int) = some ⟨[], [], List.replicate 15 []⟩ := rfl
  rw [hR', hN]
  have h1 := rep_le (f := nS L) (fun q hq => nS_le hq) 12 q hq
  have hc1 := cS_cnt L 12 (by decide) (rep (nS L) 12 q).2
  have h2 : (blksS L (rep (nS L) 12 q).2).2 ≤ L.length + 1 := ((blk_pairQ L).count 12 (by decide)).les _ h1
  have h3 := rep_le (f := nS L) (fun q hq => nS_le hq) 11 _ h2
  have hc2 := cS_cnt L 2 (by decide) (rep (nS L) 11 (blksS L (rep (nS L) 12 q).2).2).2
  simp only [Option.bind_some, st_s0 ⟨L, (q : Int)⟩ L rfl q hq hL, s_count L _ 12 h1 hL, st_s1 ⟨L, (q : Int)⟩ L rfl _ _ (show 0 ≤ (cS L 12 (rep (nS L) 12 q).2).1 ∧ (cS L 12 (rep (nS L) 12 q).2).1 ≤ 1000 by omega) (cS_le h1) hL]
  have e2 := st_s2 ⟨L, (q : Int)⟩ L rfl (blksS L (rep (nS L) 12 q).2).2 h2 hL
  unfold blksS at e2
  simp only [e2, Option.bind_some]
  have e3 := s_count L (rep (nS L) 11 (blksS L (rep (nS L) 12 q).2).2).2 2 h3 hL
  unfold blksS at e3
  simp only [e3, Option.bind_some]
  have e4 := st_s3 ⟨L, (q : Int)⟩ L rfl (cS L 2 (rep (nS L) 11 (blksS L (rep (nS L) 12 q).2).2).2).1 (cS L 2 (rep (nS L) 11 (blksS L (rep (nS L) 12 q).2).2).2).2 (by omega) (cS_le h3) hL
  unfold blksS at e4
  simp only [e4, Option.bind_some]
  obtain ⟨l1, l2, l3, l4, l5⟩ := stS_len L q
  have h5 := (st_pair L).les q hq
  have e5 := s_rest L (stS L q).2 h5 hL
  have e6 := spec_EncOK_eq ⟨(stS L q).1.keys, encV (stS L q).1⟩ (by simp only; omega) (by simp only [encV]; omega) (by simp [encV])
  have e7 := l12Results_eq (stS L q).1.res (by omega) (fun y hy => by have := l5 y hy; omega)
  show ((Option.bind (spec_l12Reader_rest.f ⟨L, ((stS L q).2 : Int)⟩) _).bind _) = _
  rw [e5]
  simp only [Option.bind_some]
  show ((bif _ then Option.bind (spec_EncOK.f ⟨(stS L q).1.keys, encV (stS L q).1⟩) _ else _).bind _) = _
  rw [e6]
  simp only [Option.bind_some]
  show ((bif _ then bif _ then Option.bind (spec_l12Results.f (stS L q).1.res) _ else _ else _).bind _) = _
  rw [e7]
  unfold okV
  cases restS L (stS L q).2 <;> cases (keysB (stS L q).1.keys && (((stS L q).1.keys.length : Int) == 11 && oramB (encV (stS L q).1))) <;> rfl

theorem l08Own_eq (o : S_Oram) (h1 : o.Pos.length ≤ 1073741824) (h2 : o.Stash.length ≤ 1073741824) (h3 : o.Buckets.length ≤ 1048576) (h4 : ∀ y ∈ o.Buckets, y.length ≤ 1073741824) : spec_l08Own.f o = some o := by
  unfold spec_l08Own.f
  have := loopO_run (step := fun s : Int × List (List S_Block) => spec_l08Own.s0 o s.1 s.2) (fun k => ((k : Int), o.Buckets.take k)) o.Buckets.length (r := .out o.Buckets) (fun k hk => by
    have hy := h4 _ (getD_mem hk [])
    simp only [spec_l08Own.s0, decide_eq_true (show (k : Int) < (o.Buckets.length : Int) by omega), cond_true, if_pos (show (0 : Int) ≤ (k : Int) ∧ (k : Int) < (o.Buckets.length : Int) by omega), Int.toNat_natCast]
    rw [if_pos (by simp only [List.length_nil]; omega), if_pos (by simp only [List.length_take, List.length_cons, List.length_nil]; omega), w64_id (by omega) (by omega), take_snoc _ k hk [], List.nil_append]
    rfl) (by
    simp only [spec_l08Own.s0]
    rw [decide_eq_false (by omega), List.take_length]; rfl)
  have t : loopO (fun s : Int × List (List S_Block) => spec_l08Own.s0 o s.1 s.2) (0, ([] : List (List S_Block))) = _ := this
  rw [if_pos (by simp only [List.length_nil]; omega), if_pos (by simp only [List.length_nil]; omega), t]
  rfl

theorem l11Own_eq (e : S_Enc) (h : e.Keys.length ≤ 1073741824) (h1 : e.Oram.Pos.length ≤ 1073741824) (h2 : e.Oram.Stash.length ≤ 1073741824) (h3 : e.Oram.Buckets.length ≤ 1048576) (h4 : ∀ y ∈ e.Oram.Buckets, y.length ≤ 1073741824) : spec_l11Own.f e = some e := by
  unfold spec_l11Own.f
  rw [if_pos (by simp only [List.length_nil]; omega), l08Own_eq e.Oram h1 h2 h3 h4]
  rfl

theorem idx_slices_IndexFunc_string_string (l : List ByteArray) (q : ByteArray → Option Bool) (p : ByteArray → Bool) (h : l.length ≤ 1073741824) (hq : ∀ x, x ∈ l → q x = some (p x)) : slices_IndexFunc_string_string.f l q = some (idxOf l ByteArray.empty p) := by
  unfold slices_IndexFunc_string_string.f idxOf
  have := loopO_find (step := fun s => slices_IndexFunc_string_string.s0 l q s) (fun k => (k : Int)) l.length (fun k => p (l.getD k ByteArray.empty)) (fun k => (k : Int)) (t := ()) (fun k hk => by
    simp only [slices_IndexFunc_string_string.s0, decide_eq_true (show (k : Int) < (l.length : Int) by omega), cond_true, if_pos (show (0 : Int) ≤ (k : Int) ∧ (k : Int) < (l.length : Int) by omega), Int.toNat_natCast, hq _ (getD_mem hk _), Option.bind_some]
    rw [w64_id (by omega) (by omega)]
    cases p (l.getD k ByteArray.empty) <;> rfl) (by
    simp only [slices_IndexFunc_string_string.s0]
    rw [decide_eq_false (by omega)]; rfl)
  rw [show ((0 : Int)) = ((0 : Nat) : Int) from rfl, this]
  cases (List.range l.length).find? (fun k => p (l.getD k ByteArray.empty)) <;> rfl

theorem any_slices_ContainsFunc_string_string (l : List ByteArray) (q : ByteArray → Option Bool) (p : ByteArray → Bool) (h : l.length ≤ 1073741824) (hq : ∀ x, x ∈ l → q x = some (p x)) : slices_ContainsFunc_string_string.f l q = some (l.any p) := by
  unfold slices_ContainsFunc_string_string.f
  rw [idx_slices_IndexFunc_string_string l q p h hq, ← idxOf_any l ByteArray.empty p]
  rfl

theorem all_impl_areAll_string (l : List ByteArray) (q : ByteArray → Option Bool) (p : ByteArray → Bool) (h : l.length ≤ 1073741824) (hq : ∀ x, x ∈ l → q x = some (p x)) : impl_areAll_string.f l q = some (l.all p) := by
  unfold impl_areAll_string.f
  rw [any_slices_ContainsFunc_string_string l _ (fun x => !p x) h (fun x hx => by unfold impl_areAll_string__c1.f; rw [hq x hx]; rfl)]
  simp only [Option.bind_some, List.any_eq_not_all_not, Bool.not_not]

def shortT (t : ByteArray) : Bool := decide ((t.size : Int) ≤ 65536)
theorem areShort_eq (l : List ByteArray) (h : l.length ≤ 1073741824) : impl_areShort.f l = some (l.all shortT) := by
  unfold impl_areShort.f
  rw [all_impl_areAll_string l impl_areShort_c1.f shortT h (fun x _ => rfl)]; rfl
theorem areShort1 (t : ByteArray) : impl_areShort.f [t] = some (shortT t) := by
  rw [areShort_eq _ (by simp)]; simp

theorem within_eq (x lo hi : Int) : impl_within.f x lo hi = some (inB x lo hi) := by
  unfold impl_within.f inB; cases decide (lo ≤ x) <;> rfl

theorem isKey_eq (x : Int) : impl_isKey.f x = some (inB x 1 9999) := by unfold impl_isKey.f; rw [within_eq]; rfl

theorem idx_slices_IndexFunc_impl_Block_impl_Block (l : List S_Block) (q : S_Block → Option Bool) (p : S_Block → Bool) (h : l.length ≤ 1073741824) (hq : ∀ x, x ∈ l → q x = some (p x)) : slices_IndexFunc_impl_Block_impl_Block.f l q = some (idxOf l z_Block p) := by
  unfold slices_IndexFunc_impl_Block_impl_Block.f idxOf
  have := loopO_find (step := fun s => slices_IndexFunc_impl_Block_impl_Block.s0 l q s) (fun k => (k : Int)) l.length (fun k => p (l.getD k z_Block)) (fun k => (k : Int)) (t := ()) (fun k hk => by
    simp only [slices_IndexFunc_impl_Block_impl_Block.s0, decide_eq_true (show (k : Int) < (l.length : Int) by omega), cond_true, if_pos (show (0 : Int) ≤ (k : Int) ∧ (k : Int) < (l.length : Int) by omega), Int.toNat_natCast, hq _ (getD_mem hk _), Option.bind_some]
    rw [w64_id (by omega) (by omega)]
    cases p (l.getD k z_Block) <;> rfl) (by
    simp only [slices_IndexFunc_impl_Block_impl_Block.s0]
    rw [decide_eq_false (by omega)]; rfl)
  rw [show ((0 : Int)) = ((0 : Nat) : Int) from rfl, this]
  cases (List.range l.length).find? (fun k => p (l.getD k z_Block)) <;> rfl

theorem any_slices_ContainsFunc_impl_Block_impl_Block (l : List S_Block) (q : S_Block → Option Bool) (p : S_Block → Bool) (h : l.length ≤ 1073741824) (hq : ∀ x, x ∈ l → q x = some (p x)) : slices_ContainsFunc_impl_Block_impl_Block.f l q = some (l.any p) := by
  unfold slices_ContainsFunc_impl_Block_impl_Block.f
  rw [idx_slices_IndexFunc_impl_Block_impl_Block l q p h hq, ← idxOf_any l z_Block p]
  rfl

theorem all_impl_areAll_impl_Block (l : List S_Block) (q : S_Block → Option Bool) (p : S_Block → Bool) (h : l.length ≤ 1073741824) (hq : ∀ x, x ∈ l → q x = some (p x)) : impl_areAll_impl_Block.f l q = some (l.all p) := by
  unfold impl_areAll_impl_Block.f
  rw [any_slices_ContainsFunc_impl_Block_impl_Block l _ (fun x => !p x) h (fun x hx => by unfold impl_areAll_impl_Block__c1.f; rw [hq x hx]; rfl)]
  simp only [Option.bind_some, List.any_eq_not_all_not, Bool.not_not]

theorem isLeaf_eq (x : Int) : impl_isLeaf.f x = some (inB x 0 7) := by unfold impl_isLeaf.f; rw [within_eq]; rfl

theorem isValue_eq (x : Int) : impl_isValue.f x = some (inB x 0 999999) := by unfold impl_isValue.f; rw [within_eq]; rfl

theorem isBlock_eq (b : S_Block) : impl_isBlock.f b = some (rngB b) := by
  unfold impl_isBlock.f impl_isId.f impl_isLeaf.f rngB
  simp only [within_eq, isValue_eq, Option.bind_some]
  cases inB b.Id 0 11 <;> cases inB b.Leaf 0 7 <;> cases inB b.Value 0 999999 <;> rfl

theorem idx_slices_IndexFunc_int_int (l : List Int) (q : Int → Option Bool) (p : Int → Bool) (h : l.length ≤ 1073741824) (hq : ∀ x, x ∈ l → q x = some (p x)) : slices_IndexFunc_int_int.f l q = some (idxOf l 0 p) := by
  unfold slices_IndexFunc_int_int.f idxOf
  have := loopO_find (step := fun s => slices_IndexFunc_int_int.s0 l q s) (fun k => (k : Int)) l.length (fun k => p (l.getD k 0)) (fun k => (k : Int)) (t := ()) (fun k hk => by
    simp only [slices_IndexFunc_int_int.s0, decide_eq_true (show (k : Int) < (l.length : Int) by omega), cond_true, if_pos (show (0 : Int) ≤ (k : Int) ∧ (k : Int) < (l.length : Int) by omega), Int.toNat_natCast, hq _ (getD_mem hk _), Option.bind_some]
    rw [w64_id (by omega) (by omega)]
    cases p (l.getD k 0) <;> rfl) (by
    simp only [slices_IndexFunc_int_int.s0]
    rw [decide_eq_false (by omega)]; rfl)
  rw [show ((0 : Int)) = ((0 : Nat) : Int) from rfl, this]
  cases (List.range l.length).find? (fun k => p (l.getD k 0)) <;> rfl

theorem any_slices_ContainsFunc_int_int (l : List Int) (q : Int → Option Bool) (p : Int → Bool) (h : l.length ≤ 1073741824) (hq : ∀ x, x ∈ l → q x = some (p x)) : slices_ContainsFunc_int_int.f l q = some (l.any p) := by
  unfold slices_ContainsFunc_int_int.f
  rw [idx_slices_IndexFunc_int_int l q p h hq, ← idxOf_any l 0 p]
  rfl

theorem all_impl_areAll_int (l : List Int) (q : Int → Option Bool) (p : Int → Bool) (h : l.length ≤ 1073741824) (hq : ∀ x, x ∈ l → q x = some (p x)) : impl_areAll_int.f l q = some (l.all p) := by
  unfold impl_areAll_int.f
  rw [any_slices_ContainsFunc_int_int l _ (fun x => !p x) h (fun x hx => by unfold impl_areAll_int__c1.f; rw [hq x hx]; rfl)]
  simp only [Option.bind_some, List.any_eq_not_all_not, Bool.not_not]

theorem index_eq (l : List Int) (x : Int) (h : l.length ≤ 1073741824) : ∃ r, slices_Index_int_int.f l x = some r ∧ (decide (r ≥ 0)) = l.any (fun y => x == y) := by
  unfold slices_Index_int_int.f
  obtain ⟨r, h1, h2⟩ := loopO_wf (step := fun s => slices_Index_int_int.s0 l x s) (fun s => ∃ i : Nat, s = (i : Int) ∧ i ≤ l.length ∧ (l.take i).any (fun y => x == y) = false) (fun r => match r with | .out _ => l.any (fun y => x == y) = false | .ret r => 0 ≤ r ∧ l.any (fun y => x == y) = true) (fun s => (l.length - s).toNat) (fun s hI => by
    obtain ⟨i, rfl, hi, ha⟩ := hI
    by_cases hlt : i < l.length
    · simp only [slices_Index_int_int.s0, decide_eq_true (show (i : Int) < (l.length : Int) by omega), cond_true, if_pos (show (0 : Int) ≤ (i : Int) ∧ (i : Int) < (l.length : Int) by omega), Int.toNat_natCast]
      cases hc : (x == l.getD i 0)
      · rw [w64_id (by omega) (by omega)]
        refine .inl ⟨_, rfl, ⟨i + 1, by omega, by omega, ?_⟩, by omega⟩
        rw [take_snoc l i hlt 0, List.any_append, ha]
        simp only [List.any_cons, List.any_nil, hc, Bool.or_false]
      · refine .inr ⟨_, rfl, by omega, ?_⟩
        rw [List.any_eq_true]
        exact ⟨_, getD_mem hlt 0, hc⟩
    · have e : i = l.length := by omega
      subst e
      rw [List.take_length] at ha
      simp only [slices_Index_int_int.s0]
      rw [decide_eq_false (by omega)]
      exact .inr ⟨_, rfl, ha⟩) _ 0 (Nat.le_refl _) ⟨0, rfl, Nat.zero_le _, rfl⟩
  rw [h1]
  cases r with
  | out u => exact ⟨_, rfl, by rw [h2]; rfl⟩
  | ret r => exact ⟨_, rfl, by rw [h2.2]; exact decide_eq_true h2.1⟩
theorem contains_eq (l : List Int) (x : Int) (h : l.length ≤ 1073741824) : slices_Contains_int_int.f l x = some (l.any (fun y => x == y)) := by
  obtain ⟨r, h1, h2⟩ := index_eq l x h
  unfold slices_Contains_int_int.f
  rw [h1]
  simp only [Option.bind_some, h2]

theorem rev4 (a b c d : Int) : slices_Reverse_int_int.f [a, b, c, d] = some [d, c, b, a] := by
  unfold slices_Reverse_int_int.f
  have h1 : slices_Reverse_int_int.s0 [a, b, c, d] [a, b, c, d] 0 3 = some (.inl ([d, b, c, a], 1, 2)) := rfl
  have h2 : slices_Reverse_int_int.s0 [a, b, c, d] [d, b, c, a] 1 2 = some (.inl ([d, c, b, a], 2, 1)) := rfl
  have h3 : slices_Reverse_int_int.s0 [a, b, c, d] [d, c, b, a] 2 1 = some (.inr (.out [d, c, b, a])) := rfl
  have hi : w64 ((([a, b, c, d] : List Int).length : Int) - 1) = 3 := rfl
  rw [hi, loopO_next (s := ([a, b, c, d], 0, 3)) h1, loopO_next (s := ([d, b, c, a], 1, 2)) h2, loopO_stop (s := ([d, c, b, a], 2, 1)) h3]
  rfl

theorem pathOf_step (l : List Int) (a : Int) (ha : 1 ≤ a ∧ a ≤ 100) (hl : l.length ≤ 100) : impl_pathOf.s0 l a = some (.inl (l ++ [a], (a - 1) / 2)) := by
  have ht : Int.tdiv (a - 1) 2 = (a - 1) / 2 := Int.tdiv_eq_ediv_of_nonneg (by omega)
  have hw : IntKind.wrap .i64 (Int.tdiv (a - 1) 2) = (a - 1) / 2 := by rw [ht]; exact w64_id (by omega) (by omega)
  simp only [impl_pathOf.s0]
  rw [if_pos (by simp only [List.length_cons, List.length_nil]; omega), show (a == 0) = false by simp only [beq_eq_false_iff_ne]; omega, w64_id (x := a - 1) (by omega) (by omega), hw]
  rfl
theorem pathOf_eq (x : Int) (hx : 0 ≤ x ∧ x ≤ 7) : impl_pathOf.f x = some (pathL x) := by
  unfold impl_pathOf.f
  have e1 : (7 + x - 1) / 2 = up1 x := by unfold up1; congr 1; omega
  have u1 : 3 ≤ up1 x ∧ up1 x ≤ 6 := by unfold up1; omega
  have u2 : 1 ≤ up2 x ∧ up2 x ≤ 2 := by unfold up2; omega
  have e3 : (up2 x - 1) / 2 = 0 := by omega
  have h1 := pathOf_step [] (7 + x) (by omega) (by simp)
  have h2 := pathOf_step [7 + x] (up1 x) (by omega) (by simp)
  have h3 := pathOf_step [7 + x, up1 x] (up2 x) (by omega) (by simp)
  rw [e1] at h1
  rw [show (up1 x - 1) / 2 = up2 x from rfl] at h2
  rw [e3] at h3
  have h4 : impl_pathOf.s0 [7 + x, up1 x, up2 x] 0 = some (.inr (.ret (pathL x))) := by
    simp only [impl_pathOf.s0]
    rw [if_pos (by simp)]
    have := rev4 (7 + x) (up1 x) (up2 x) 0
    simp only [List.cons_append, List.nil_append, BEq.rfl, cond_true, this, Option.bind_some]
    rfl
  rw [w64_id (by omega) (by omega)]
  rw [loopO_next (step := fun s : List Int × Int => impl_pathOf.s0 s.1 s.2) (s := ([], 7 + x)) h1, loopO_next (step := fun s : List Int × Int => impl_pathOf.s0 s.1 s.2) (s := ([] ++ [7 + x], up1 x)) h2, loopO_next (step := fun s : List Int × Int => impl_pathOf.s0 s.1 s.2) (s := ([7 + x] ++ [up1 x], up2 x)) h3, loopO_stop (step := fun s : List Int × Int => impl_pathOf.s0 s.1 s.2) (s := ([7 + x, up1 x] ++ [up2 x], 0)) h4]
  rfl

theorem oramC1_eq (b : S_Block) (i : Int) : impl_OramOK_c1.f b i = some (onB i b) := by
  unfold impl_OramOK_c1.f onB
  simp only [isLeaf_eq, Option.bind_some]
  cases h : inB b.Leaf 0 7
  · rfl
  · have hx := inB_iff.1 h
    unfold impl_isOnPath.f
    simp only [cond_true, pathOf_eq b.Leaf hx, contains_eq (pathL b.Leaf) i (by simp [pathL]), Option.bind_some, Bool.true_and]
    congr 1

theorem concat_eq (l : List (List S_Block)) (hl : l.length ≤ 1048576) (h2 : ∀ k, k < l.length → (l.getD k []).length ≤ 2) : slices_Concat_impl_Block_impl_Block.f l = some l.flatten := by
  unfold slices_Concat_impl_Block_impl_Block.f
  have hb : ∀ k, k ≤ l.length → (l.take k).flatten.length ≤ 2 * k := by
    intro k
    induction k with
    | zero => intro _; simp
    | succ k ih =>
      intro hk
      rw [take_flat l k (by omega), List.length_append]
      have := ih (by omega); have := h2 k (by omega); omega
  have r0 := loopO_run (step := fun s : Int × Int => slices_Concat_impl_Block_impl_Block.s0 l s.1 s.2) (fun k => (((l.take k).flatten.length : Int), (k : Int))) l.length (r := .out (l.flatten.length : Int)) (fun k hk => by
    have h3 := hb k (by omega); have h4 := h2 k hk
    simp only [slices_Concat_impl_Block_impl_Block.s0, decide_eq_true (show (k : Int) < (l.length : Int) by omega), cond_true, if_pos (show (0 : Int) ≤ (k : Int) ∧ (k : Int) < (l.length : Int) by omega), Int.toNat_natCast]
    have e5 : w64 (((l.take k).flatten.length : Int) + ((l.getD k []).length : Int)) = ((l.take k).flatten.length : Int) + ((l.getD k []).length : Int) := w64_id (by omega) (by omega)
    rw [decide_eq_false (show ¬ w64 (((l.take k).flatten.length : Int) + ((l.getD k []).length : Int)) < 0 by rw [e5]; omega), e5, w64_id (by omega) (by omega), take_flat l k hk, List.length_append]
    simp) (by
    simp only [slices_Concat_impl_Block_impl_Block.s0]
    rw [decide_eq_false (by omega), List.take_length]; rfl)
  have r1 := loopO_run (step := fun s : List S_Block × Int => slices_Concat_impl_Block_impl_Block.s1 l s.1 s.2) (fun k => ((l.take k).flatten, (k : Int))) l.length (r := .out l.flatten) (fun k hk => by
    have h3 := hb k (by omega); have h4 := h2 k hk
    simp only [slices_Concat_impl_Block_impl_Block.s1, decide_eq_true (show (k : Int) < (l.length : Int) by omega), cond_true, if_pos (show (0 : Int) ≤ (k : Int) ∧ (k : Int) < (l.length : Int) by omega), Int.toNat_natCast]
    rw [if_pos (by omega), w64_id (by omega) (by omega), take_flat l k hk]
    rfl) (by
    simp only [slices_Concat_impl_Block_impl_Block.s1]
    rw [decide_eq_false (by omega), List.take_length]; rfl)
  have r0' : loopO (fun s : Int × Int => slices_Concat_impl_Block_impl_Block.s0 l s.1 s.2) (0, 0) = _ := r0
  have r1' : loopO (fun s : List S_Block × Int => slices_Concat_impl_Block_impl_Block.s1 l s.1 s.2) (([] : List S_Block), 0) = _ := r1
  have h5 := hb l.length (Nat.le_refl _)
  rw [List.take_length] at h5
  rw [r0']
  simp only [Option.bind_some]
  rw [if_pos (by omega), r1']; rfl

theorem okB_split {pos : List Int} {b : S_Block} (hp : leavesOK pos) : okB pos b = (rngB b && (b.Leaf == pos.getD b.Id.toNat 0)) := by
  cases h : inB b.Id 0 11
  · simp [okB, rngB, h]
  · have hi := inB_iff.1 h
    have hl := hp.1
    have := hp.2 _ (getD_mem (show b.Id.toNat < pos.length by omega) 0)
    cases he : (b.Leaf == pos.getD b.Id.toNat 0)
    · have : (pos.getD b.Id.toNat 0 == b.Leaf) = false := by
        simp only [beq_eq_false_iff_ne] at he ⊢; exact fun e => he e.symm
      simp only [okB, this, Bool.false_and, Bool.and_false]
    · have e : b.Leaf = pos.getD b.Id.toNat 0 := by simpa using he
      have h7 : inB b.Leaf 0 7 = true := inB_iff.2 (by omega)
      simp only [okB, rngB, h, h7, ← e, BEq.rfl, Bool.true_and, Bool.and_true]
theorem oram_seen (o : S_Oram) (hp : leavesOK o.Pos) (all : List S_Block) (hl : all.length ≤ 2097152) : ∃ r, loopO (fun s : List Bool × Int => impl_OramOK.s1 o all s.1 s.2) (List.replicate 12 (false : Bool), 0) = some r ∧ (match r with | .out _ => (goB o.Pos all []).isSome = true | .ret b => b = false ∧ (goB o.Pos all []).isSome = false) := by
  have hpl := hp.1
  refine loopO_wf (step := fun s : List Bool × Int => impl_OramOK.s1 o all s.1 s.2) (fun s => ∃ (i : Nat) (ids : List Int), s.2 = (i : Int) ∧ i ≤ all.length ∧ s.1.length = 12 ∧ (∀ j : Nat, j < 12 → s.1.getD j false = ids.contains (j : Int)) ∧ goB o.Pos (all.drop i) ids = goB o.Pos all []) _ (fun s => (all.length - s.2).toNat) (fun s hI => ?_) _ _ (Nat.le_refl _) ⟨0, [], rfl, Nat.zero_le _, rfl, fun j hj => by
      rw [List.getD_eq_getElem?_getD, List.getElem?_replicate, if_pos hj]; rfl, rfl⟩
  obtain ⟨seen, k⟩ := s
  obtain ⟨i, ids, hk, hi, hs, hj, hg⟩ := hI
  simp only at hk hs hj hg
  subst hk
  by_cases hlt : i < all.length
  · have hd : all.drop i = all.getD i z_Block :: all.drop (i + 1) := by rw [getD_lt hlt]; exact List.drop_eq_getElem_cons hlt
    rw [hd] at hg
    simp only [goB, okB_split hp] at hg
    generalize hb : all.getD i z_Block = b at hg
    simp only [impl_OramOK.s1, hb, decide_eq_true (show (i : Int) < (all.length : Int) by omega), cond_true, if_pos (show (0 : Int) ≤ (i : Int) ∧ (i : Int) < (all.length : Int) by omega), Int.toNat_natCast, isBlock_eq, Option.bind_some]
    cases hr : rngB b
    · rw [hr] at hg
      simp only [Bool.false_and, cond_false] at hg
      exact .inr ⟨_, rfl, rfl, by rw [← hg]; rfl⟩
    · have hr' := hr
      unfold rngB at hr'
      simp only [Bool.and_eq_true, inB_iff] at hr'
      rw [hr] at hg
      simp only [Bool.not_true, cond_false]
      rw [if_pos (by omega)]
      cases he : (b.Leaf == o.Pos.getD b.Id.toNat 0)
      · rw [he] at hg
        simp only [Bool.and_false, Bool.false_and, cond_false] at hg
        simp only [bne, he, Bool.not_false, cond_true, Option.bind_some]
        exact .inr ⟨_, rfl, rfl, by rw [← hg]; rfl⟩
      · rw [he] at hg
        simp only [bne, he, Bool.not_true, cond_false]
        rw [if_pos (by omega)]
        have hc := hj b.Id.toNat (by omega)
        rw [show ((b.Id.toNat : Nat) : Int) = b.Id by omega] at hc
        simp only [hc, Option.bind_some]
        cases hcc : ids.contains b.Id
        · rw [hcc] at hg
          simp only [Bool.not_false, Bool.and_true, cond_true] at hg
          simp only [cond_false]
          rw [if_pos (by omega), w64_id (by omega) (by omega)]
          refine .inl ⟨_, rfl, ⟨i + 1, ids ++ [b.Id], by simp only; omega, by omega, by simp only [List.length_set]; exact hs, fun j hj2 => ?_, hg⟩, by simp only; omega⟩
          simp only [List.getD_eq_getElem?_getD, List.getElem?_set]
          have hja := hj j hj2
          rw [List.getD_eq_getElem?_getD] at hja
          rw [Bool.eq_iff_iff]
          by_cases ej : b.Id.toNat = j
          · rw [if_pos ej, if_pos (by omega)]
            simp only [Option.getD_some, List.contains_iff_mem, List.mem_append, List.mem_singleton, true_iff]
            exact .inr (by omega)
          · rw [if_neg ej, hja]
            simp only [List.contains_iff_mem, List.mem_append, List.mem_singleton]
            exact ⟨.inl, fun h => h.elim id (fun e => by omega)⟩
        · rw [hcc] at hg
          simp only [Bool.not_true, Bool.and_false, cond_false] at hg
          simp only [cond_true]
          exact .inr ⟨_, rfl, rfl, by rw [← hg]; rfl⟩
  · have e : i = all.length := by omega
    subst e
    rw [List.drop_length] at hg
    simp only [impl_OramOK.s1]
    rw [decide_eq_false (by omega)]
    exact .inr ⟨_, rfl, by rw [← hg]; rfl⟩
theorem impl_OramOK_eq (o : S_Oram) (h1 : o.Pos.length ≤ 1073741824) (h2 : o.Stash.length ≤ 1048576) (h3 : ∀ y, y ∈ o.Buckets → y.length ≤ 1048576) : impl_OramOK.f o = some (oramB o) := by
  unfold impl_OramOK.f oramB
  simp only [bne, all_impl_areAll_int o.Pos impl_isLeaf.f (fun x => inB x 0 7) h1 (fun x _ => isLeaf_eq x), Option.bind_some]
  cases hp : ((o.Pos.length : Int) == 12)
  · rfl
  cases hl : o.Pos.all (fun x => inB x 0 7)
  · rfl
  cases hb : ((o.Buckets.length : Int) == 15)
  · rfl
  have hp' : o.Pos.length = 12 := by have : (o.Pos.length : Int) = 12 := by simpa using hp
                                     omega
  have hb' : o.Buckets.length = 15 := by have : (o.Buckets.length : Int) = 15 := by simpa using hb
                                         omega
  have hlv : leavesOK o.Pos := ⟨hp', fun y hy => inB_iff.1 (List.all_eq_true.1 hl y hy)⟩
  simp only [Bool.not_true, cond_false, Bool.true_and, Option.bind_some]
  have := loopO_scan (step := fun s => impl_OramOK.s0 o s) (fun k => (k : Int)) o.Buckets.length (fun i => decide ((o.Buckets.getD i []).length ≤ 2) && (o.Buckets.getD i []).all (onB i)) (b := false) (t := ()) (fun k hk => by
    have hy := h3 _ (getD_mem hk [])
    simp only [impl_OramOK.s0, decide_eq_true (show (k : Int) < (o.Buckets.length : Int) by omega), cond_true, if_pos (show (0 : Int) ≤ (k : Int) ∧ (k : Int) < (o.Buckets.length : Int) by omega), Int.toNat_natCast, all_impl_areAll_impl_Block (o.Buckets.getD k []) (fun z0 => impl_OramOK_c1.f z0 (k : Int)) (onB k) (by omega) (fun x _ => oramC1_eq x k), Option.bind_some]
    rw [w64_id (by omega) (by omega)]
    by_cases c : ((o.Buckets.getD k []).length : Int) > 2
    · rw [decide_eq_true c, decide_eq_false (show ¬ (o.Buckets.getD k []).length ≤ 2 by omega)]; rfl
    · rw [decide_eq_false c, decide_eq_true (show (o.Buckets.getD k []).length ≤ 2 by omega)]
      cases (o.Buckets.getD k []).all (onB k) <;> rfl) (by
    simp only [impl_OramOK.s0]
    rw [decide_eq_false (by omega)]; rfl)
  have this : loopO (fun s => impl_OramOK.s0 o s) 0 = _ := this
  rw [this]
  cases hall : (List.range o.Buckets.length).all (fun i => decide ((o.Buckets.getD i []).length ≤ 2) && (o.Buckets.getD i []).all (onB i))
  · rfl
  have h22 : ∀ k, k < o.Buckets.length → (o.Buckets.getD k []).length ≤ 2 := fun k hk => by
    have := List.all_eq_true.1 hall k (List.mem_range.2 hk)
    simp only [Bool.and_eq_true, decide_eq_true_eq] at this
    exact this.1
  have hfl : o.Buckets.flatten.length ≤ 30 := by
    have hb2 : ∀ k, k ≤ o.Buckets.length → (o.Buckets.take k).flatten.length ≤ 2 * k := by
      intro k
      induction k with
      | zero => intro _; simp
      | succ k ih =>
        intro hk
        rw [take_flat o.Buckets k (by omega), List.length_append]
        have := ih (by omega); have := h22 k (by omega); omega
    have := hb2 o.Buckets.length (Nat.le_refl _)
    rw [List.take_length] at this; omega
  have ea : impl_Oram_all.f o = some (o.Stash ++ o.Buckets.flatten) := by
    unfold impl_Oram_all.f
    rw [concat_eq o.Buckets (by omega) h22, show slices_Clone_impl_Block_impl_Block.f o.Stash = some o.Stash by unfold slices_Clone_impl_Block_impl_Block.f; rw [if_pos (by omega)]]
    simp only [Option.bind_some]
    rw [if_pos (by omega)]
  obtain ⟨r, e1, e2⟩ := oram_seen o hlv (o.Stash ++ o.Buckets.flatten) (by rw [List.length_append]; omega)
  simp only [cond_true, Option.bind_some, ea, e1]
  cases r with
  | out u => simp only at e2; simp [e2]
  | ret b => simp only at e2; obtain ⟨rfl, e3⟩ := e2; simp [e3]

theorem isIn_key {x : Int} (h : (x == 0) = false) : inB x 1 9999 = inB x 0 9999 := by
  have hx : x ≠ 0 := by simpa using h
  rw [Bool.eq_iff_iff, inB_iff, inB_iff]; omega
theorem impl_EncOK_eq (e : S_Enc) (hk : e.Keys.length ≤ 1048576) (h1 : e.Oram.Pos.length ≤ 1073741824) (h2 : e.Oram.Stash.length ≤ 1048576) (h3 : ∀ y, y ∈ e.Oram.Buckets → y.length ≤ 1048576) : impl_EncOK.f e = some (keysB e.Keys && (((e.Keys.length : Int) == 11) && oramB e.Oram)) := by
  unfold impl_EncOK.f
  obtain ⟨r, e1, e2⟩ := loopO_wf (step := fun s : Int × List Int => impl_EncOK.s0 e s.1 s.2) (fun s => ∃ i : Nat, s.1 = (i : Int) ∧ i ≤ e.Keys.length ∧ (∀ x : Int, x ≠ 0 → s.2.contains x = (e.Keys.take i).contains x) ∧ (∀ k, k < i → keyP e.Keys k = true)) (fun r => match r with | .out _ => keysB e.Keys = true | .ret b => b = false ∧ keysB e.Keys = false) (fun s => (e.Keys.length - s.1).toNat) (fun s hI => by
    obtain ⟨k, seen⟩ := s
    obtain ⟨i, hki, hi, hs, hp⟩ := hI
    simp only at hki hs
    subst hki
    by_cases hlt : i < e.Keys.length
    · have hkp : ∀ b, keyP e.Keys i = b → b = false → keysB e.Keys = false := fun b hb hf => by
        unfold keysB
        rw [← Bool.not_eq_true, List.all_eq_true]
        intro h
        have := h i (List.mem_range.2 hlt)
        rw [hb, hf] at this; cases this
      simp only [impl_EncOK.s0, decide_eq_true (show (i : Int) < (e.Keys.length : Int) by omega), cond_true, if_pos (show (0 : Int) ≤ (i : Int) ∧ (i : Int) < (e.Keys.length : Int) by omega), Int.toNat_natCast, isKey_eq, Option.bind_some]
      rw [w64_id (by omega) (by omega)]
      cases h0 : (e.Keys.getD i 0 == 0)
      · have hne : e.Keys.getD i 0 ≠ 0 := by simpa using h0
        have hc := hs _ hne
        have hkey : keyP e.Keys i = (inB (e.Keys.getD i 0) 0 9999 && !(e.Keys.take i).contains (e.Keys.getD i 0)) := by
          unfold keyP; rw [h0, Bool.false_or]
        rw [isIn_key h0, hc]
        cases h9 : inB (e.Keys.getD i 0) 0 9999
        · exact .inr ⟨_, rfl, rfl, hkp _ hkey (by rw [h9]; rfl)⟩
        · cases hcc : (e.Keys.take i).contains (e.Keys.getD i 0)
          · simp only [Bool.not_true, cond_false, Option.bind_some]
            refine .inl ⟨_, rfl, ⟨i + 1, by simp only; omega, by omega, fun x hx => ?_, fun k hk => ?_⟩, by simp only; omega⟩
            · simp only [Bool.false_eq_true, if_false]
              rw [take_snoc _ i hlt 0, Bool.eq_iff_iff]
              have := hs x hx
              rw [Bool.eq_iff_iff] at this
              simp only [List.contains_iff_mem, List.mem_append, List.mem_singleton] at this ⊢
              exact or_congr this Iff.rfl
            · by_cases ek : k = i
              · rw [ek, hkey, h9, hcc]; rfl
              · exact hp k (by omega)
          · exact .inr ⟨_, rfl, rfl, hkp _ hkey (by rw [h9, hcc]; rfl)⟩
      · have hz : e.Keys.getD i 0 = 0 := by simpa using h0
        simp only [cond_true]
        refine .inl ⟨_, rfl, ⟨i + 1, by simp only; omega, by omega, fun x hx => ?_, fun k hk => ?_⟩, by simp only; omega⟩
        · rw [hs x hx, take_snoc _ i hlt 0, hz, Bool.eq_iff_iff]
          simp only [List.contains_iff_mem, List.mem_append, List.mem_singleton]
          exact ⟨.inl, fun h => h.elim id (fun q => absurd q hx)⟩
        · by_cases ek : k = i
          · rw [ek]; unfold keyP; rw [hz]; simp [inB]
          · exact hp k (by omega)
    · have e0 : i = e.Keys.length := by omega
      simp only [impl_EncOK.s0]
      rw [decide_eq_false (by omega)]
      refine .inr ⟨_, rfl, ?_⟩
      unfold keysB
      exact List.all_eq_true.2 (fun k hk => hp k (by have := List.mem_range.1 hk; omega))) _ (0, ([] : List Int)) (Nat.le_refl _) ⟨0, rfl, Nat.zero_le _, fun x _ => rfl, fun k hk => by omega⟩
  rw [e1]
  cases r with
  | out u =>
    simp only at e2
    simp only [Option.bind_some, impl_OramOK_eq e.Oram h1 h2 h3, e2]
    cases ((e.Keys.length : Int) == 11) <;> rfl
  | ret b => simp only at e2; rw [e2.2, e2.1]; rfl

theorem idx_slices_IndexFunc_impl_Result_impl_Result (l : List S_Result) (q : S_Result → Option Bool) (p : S_Result → Bool) (h : l.length ≤ 1073741824) (hq : ∀ x, x ∈ l → q x = some (p x)) : slices_IndexFunc_impl_Result_impl_Result.f l q = some (idxOf l z_Result p) := by
  unfold slices_IndexFunc_impl_Result_impl_Result.f idxOf
  have := loopO_find (step := fun s => slices_IndexFunc_impl_Result_impl_Result.s0 l q s) (fun k => (k : Int)) l.length (fun k => p (l.getD k z_Result)) (fun k => (k : Int)) (t := ()) (fun k hk => by
    simp only [slices_IndexFunc_impl_Result_impl_Result.s0, decide_eq_true (show (k : Int) < (l.length : Int) by omega), cond_true, if_pos (show (0 : Int) ≤ (k : Int) ∧ (k : Int) < (l.length : Int) by omega), Int.toNat_natCast, hq _ (getD_mem hk _), Option.bind_some]
    rw [w64_id (by omega) (by omega)]
    cases p (l.getD k z_Result) <;> rfl) (by
    simp only [slices_IndexFunc_impl_Result_impl_Result.s0]
    rw [decide_eq_false (by omega)]; rfl)
  rw [show ((0 : Int)) = ((0 : Nat) : Int) from rfl, this]
  cases (List.range l.length).find? (fun k => p (l.getD k z_Result)) <;> rfl

theorem any_slices_ContainsFunc_impl_Result_impl_Result (l : List S_Result) (q : S_Result → Option Bool) (p : S_Result → Bool) (h : l.length ≤ 1073741824) (hq : ∀ x, x ∈ l → q x = some (p x)) : slices_ContainsFunc_impl_Result_impl_Result.f l q = some (l.any p) := by
  unfold slices_ContainsFunc_impl_Result_impl_Result.f
  rw [idx_slices_IndexFunc_impl_Result_impl_Result l q p h hq, ← idxOf_any l z_Result p]
  rfl

theorem all_impl_areAll_impl_Result (l : List S_Result) (q : S_Result → Option Bool) (p : S_Result → Bool) (h : l.length ≤ 1073741824) (hq : ∀ x, x ∈ l → q x = some (p x)) : impl_areAll_impl_Result.f l q = some (l.all p) := by
  unfold impl_areAll_impl_Result.f
  rw [any_slices_ContainsFunc_impl_Result_impl_Result l _ (fun x => !p x) h (fun x hx => by unfold impl_areAll_impl_Result__c1.f; rw [hq x hx]; rfl)]
  simp only [Option.bind_some, List.any_eq_not_all_not, Bool.not_not]

theorem isResult_eq (x : S_Result) (h : x.Values.length ≤ 1073741824) : impl_isResult.f x = some (resOK x) := by
  unfold impl_isResult.f impl_isCode.f resOK
  simp only [within_eq, all_impl_areAll_int x.Values impl_isValue.f (fun v => inB v 0 999999) h (fun v _ => isValue_eq v), Option.bind_some]
  cases inB x.Code 0 19 <;> cases decide ((x.Values.length : Int) ≤ 32) <;> cases x.Values.all (fun v => inB v 0 999999) <;> cases x.Code == 0 <;> rfl

theorem areResults_eq (l : List S_Result) (h : l.length ≤ 1073741824) (h2 : ∀ y, y ∈ l → y.Values.length ≤ 1073741824) : impl_areResults.f l = some (l.all resOK && decide ((l.length : Int) ≤ 2)) := by
  unfold impl_areResults.f
  rw [all_impl_areAll_impl_Result l _ resOK h (fun x hx => isResult_eq x (h2 x hx))]
  simp only [Option.bind_some]
  cases decide ((l.length : Int) ≤ 2) <;> cases l.all resOK <;> rfl

theorem littleWord_eq (t : ByteArray) (h : 4 ≤ t.size) : impl_littleWord.f t = some (wd (bytesOf t) 0) := by
  have hB := bytesOf_isB t
  have hl := bytesOf_len t
  unfold impl_littleWord.f
  rw [if_pos (by omega), if_pos (by omega), if_pos (by omega), if_pos (by omega)]
  rw [byteAt_eq t 0 (by omega) (by omega), byteAt_eq t 1 (by omega) (by omega), byteAt_eq t 2 (by omega) (by omega), byteAt_eq t 3 (by omega) (by omega)]
  obtain ⟨a0, a1⟩ := getD_isB hB (Int.toNat 0)
  obtain ⟨b0, b1⟩ := getD_isB hB (Int.toNat 1)
  obtain ⟨c0, c1⟩ := getD_isB hB (Int.toNat 2)
  obtain ⟨d0, d1⟩ := getD_isB hB (Int.toNat 3)
  unfold wd
  simp only [Nat.mul_zero, Nat.zero_add]
  show some _ = some ((bytesOf t).getD (Int.toNat 0) 0 + (bytesOf t).getD (Int.toNat 1) 0 * 256 + (bytesOf t).getD (Int.toNat 2) 0 * 65536 + (bytesOf t).getD (Int.toNat 3) 0 * 16777216)
  generalize (bytesOf t).getD (Int.toNat 0) 0 = a at a0 a1 ⊢
  generalize (bytesOf t).getD (Int.toNat 1) 0 = b at b0 b1 ⊢
  generalize (bytesOf t).getD (Int.toNat 2) 0 = c at c0 c1 ⊢
  generalize (bytesOf t).getD (Int.toNat 3) 0 = d at d0 d1 ⊢
  have w (x : Int) (h0 : 0 ≤ x) (h1 : x < 4294967296) : IntKind.wrap .u32 x = x := by
    show x % 4294967296 = x; omega
  have e8 : ((2 : Int) ^ 8) = 256 := by decide
  have e16 : ((2 : Int) ^ 16) = 65536 := by decide
  have e24 : ((2 : Int) ^ 24) = 16777216 := by decide
  rw [w a (by omega) (by omega), w b (by omega) (by omega), w c (by omega) (by omega), w d (by omega) (by omega), e8, e16, e24, w (b * 256) (by omega) (by omega), w (c * 65536) (by omega) (by omega), w (d * 16777216) (by omega) (by omega)]
  rw [or32 256 8 (by decide) (y := b * 256) b a0 (by omega) b0 rfl (by omega)]
  rw [or32 65536 16 (by decide) (y := c * 65536) c (by omega) (by omega) c0 rfl (by omega)]
  rw [or32 16777216 24 (by decide) (y := d * 16777216) d (by omega) (by omega) d0 rfl (by omega)]

theorem textInts_eq (t : ByteArray) (n : Nat) (h : t.size = 4 * n) (hn : n ≤ 262144) : impl_textInts.f t = some (wdsN (bytesOf t) n) := by
  have hl := bytesOf_len t
  have hB := bytesOf_isB t
  unfold impl_textInts.f
  have := loopO_run (step := fun s : List Int × Int => impl_textInts.s0 t s.1 s.2) (fun k => (wdsN (bytesOf t) k, ((4 * k : Nat) : Int))) n (r := .out (wdsN (bytesOf t) n)) (fun k hk => by
    have hx : (t.extract (4 * k) t.size).size = t.size - 4 * k := by simp
    have hw := littleWord_eq (t.extract (4 * k) t.size) (by omega)
    have hwd : wd (bytesOf (t.extract (4 * k) t.size)) 0 = wd (bytesOf t) k := by
      rw [bytesOf_extract, List.take_of_length_le (by rw [List.length_drop, hl]; omega)]
      unfold wd
      simp only [List.getD_eq_getElem?_getD, List.getElem?_drop, Nat.mul_zero, Nat.zero_add, Nat.add_zero]
    rw [hwd] at hw
    have hr : IntKind.wrap .i64 (wd (bytesOf t) k) = wd (bytesOf t) k := by
      obtain ⟨a0, a1⟩ := getD_isB hB (4 * k)
      obtain ⟨b0, b1⟩ := getD_isB hB (4 * k + 1)
      obtain ⟨c0, c1⟩ := getD_isB hB (4 * k + 2)
      obtain ⟨d0, d1⟩ := getD_isB hB (4 * k + 3)
      unfold wd
      exact w64_id (by omega) (by omega)
    simp only [impl_textInts.s0, decide_eq_true (show ((4 * k : Nat) : Int) < (t.size : Int) by omega), cond_true, if_pos (show (0 : Int) ≤ ((4 * k : Nat) : Int) ∧ ((4 * k : Nat) : Int) ≤ (t.size : Int) by omega), Int.toNat_natCast, hw, Option.bind_some, hr]
    rw [if_pos (by rw [wdsN_len]; simp; omega), w64_id (by omega) (by omega), wdsN_succ]
    congr 3) (by
    simp only [impl_textInts.s0]
    rw [decide_eq_false (by omega)]; rfl)
  have this2 : loopO (fun s : List Int × Int => impl_textInts.s0 t s.1 s.2) (([] : List Int), 0) = _ := this
  rw [this2]; rfl

theorem i_next (L : List Int) (p : Nat) (b : Bool) (lo hi : Int) (hp : p ≤ L.length) (hL : L.length ≤ 1048576) : impl_reader_next.f ⟨L, (p : Int), b⟩ lo hi = some ((nI L lo hi (p, b)).1, ((nI L lo hi (p, b)).2.1 : Int), (nI L lo hi (p, b)).2.2) := by
  unfold impl_reader_next.f nI
  cases b
  · simp only [cond_false, Bool.false_eq_true, if_false]
    by_cases h : p < L.length
    · have e1 : ((p : Int) == (L.length : Int)) = false := by simp; omega
      have w1 : w64 ((p : Int) + 1) = ((p + 1 : Nat) : Int) := by rw [w64_id (by omega) (by omega)]; omega
      have w2 : w64 (((p + 1 : Nat) : Int) - 1) = (p : Int) := by rw [w64_id (by omega) (by omega)]; omega
      simp only [e1, cond_false, if_pos (show (0 : Int) ≤ (p : Int) ∧ (p : Int) < (L.length : Int) by omega), Int.toNat_natCast, within_eq, Option.bind_some, w1, w2]
      cases hi' : inB (L.getD p 0) lo hi
      · simp
      · simp [h]
    · have e1 : ((p : Int) == (L.length : Int)) = true := by simp; omega
      have hn : ¬ (p < L.length ∧ inB (L.getD p 0) lo hi = true) := fun q => h q.1
      simp only [e1, cond_true, Option.bind_some, if_neg hn]
  · simp only [cond_true, Option.bind_some, if_true]

theorem i_blocks (L : List Int) (p : Nat) (b : Bool) (most : Int) (hp : p ≤ L.length) (hL : L.length ≤ 1048576) (hm : most ≤ 1000000) : impl_reader_blocks.f ⟨L, (p : Int), b⟩ most = some ((rep (blkI L) (nI L 0 most (p, b)).1.toNat (nI L 0 most (p, b)).2).1, ((rep (blkI L) (nI L 0 most (p, b)).1.toNat (nI L 0 most (p, b)).2).2.1 : Int), (rep (blkI L) (nI L 0 most (p, b)).1.toNat (nI L 0 most (p, b)).2).2.2) := by
  unfold impl_reader_blocks.f
  rw [i_next L p b 0 most hp hL]
  have hc : 0 ≤ (nI L 0 most (p, b)).1 ∧ (nI L 0 most (p, b)).1 ≤ 1000000 := by
    unfold nI
    split
    · simp
    · split
      · rename_i h; have h2 := inB_iff.1 h.2; simp only at h2 ⊢; omega
      · simp
  have hle := (RPair.base L 0 most (by omega)).le (p, b) hp
  generalize nI L 0 most (p, b) = c at hc hle ⊢
  obtain ⟨n, p1, b1⟩ := c
  simp only at hc hle ⊢
  simp only [Option.bind_some]
  have := loopO_run (step := fun s : List S_Block × Int × Int × Bool => impl_reader_blocks.s0 ⟨L, (p : Int), b⟩ (n, (p1 : Int), b1) s.1 s.2.1 s.2.2.1 s.2.2.2) (fun k => ((rep (blkI L) k (p1, b1)).1, (k : Int), ((rep (blkI L) k (p1, b1)).2.1 : Int), (rep (blkI L) k (p1, b1)).2.2)) n.toNat
    (r := .out ((rep (blkI L) n.toNat (p1, b1)).1, ((rep (blkI L) n.toNat (p1, b1)).2.1 : Int), (rep (blkI L) n.toNat (p1, b1)).2.2)) (fun k hk => by
    have h1 := ((blk_pair L).reps k).le (p1, b1) hle
    have hl := rep_len (blkI L) k (p1, b1)
    generalize hr : rep (blkI L) k (p1, b1) = r at h1 hl
    obtain ⟨u, a, bb⟩ := r
    simp only at h1 hl
    have h2 := (RPair.base L 0 11 (by decide)).le (a, bb) h1
    have h3 := (RPair.base L 0 7 (by decide)).le _ h2
    have e1 := i_next L a bb 0 11 h1 hL
    have e2 := i_next L (nI L 0 11 (a, bb)).2.1 (nI L 0 11 (a, bb)).2.2 0 7 h2 hL
    have e3 := i_next L (nI L 0 7 (nI L 0 11 (a, bb)).2).2.1 (nI L 0 7 (nI L 0 11 (a, bb)).2).2.2 0 999999 h3 hL
    simp only [impl_reader_blocks.s0, decide_eq_true (show (k : Int) < n by omega), cond_true, e1, e2, e3, Option.bind_some]
    rw [if_pos (by simp; omega), w64_id (by omega) (by omega)]
    simp only [rep, hr]
    rfl) (by
    simp only [impl_reader_blocks.s0]
    rw [decide_eq_false (by omega)]; rfl)
  have this2 : loopO (fun s : List S_Block × Int × Int × Bool => impl_reader_blocks.s0 ⟨L, (p : Int), b⟩ (n, (p1 : Int), b1) s.1 s.2.1 s.2.2.1 s.2.2.2) (([] : List S_Block), 0, (p1 : Int), b1) = _ := this
  rw [this2]; rfl

theorem i_ends (L : List Int) (p : Nat) (b : Bool) (hp : p ≤ L.length) (hL : L.length ≤ 1048576) : impl_reader_ends.f ⟨L, (p : Int), b⟩ = some (!b && (L.drop p).all (fun n => n == 0), (p : Int), b) := by
  unfold impl_reader_ends.f
  cases b
  · simp only [Bool.not_false, cond_true, if_pos (show (0 : Int) ≤ (p : Int) ∧ (p : Int) ≤ (L.length : Int) by omega), Int.toNat_natCast]
    rw [all_impl_areAll_int (L.drop p) impl_reader_ends_c1.f (fun n => n == 0) (by simp; omega) (fun x _ => rfl)]
    simp
  · simp

theorem i_several (L : List Int) (p : Nat) (b : Bool) (n : Nat) (lo hi : Int) (hlo : 0 ≤ lo) (hp : p ≤ L.length) (hL : L.length ≤ 1048576) (hn : n ≤ 1000000) : impl_reader_several.f ⟨L, (p : Int), b⟩ (n : Int) lo hi = some ((rep (nI L lo hi) n (p, b)).1, ((rep (nI L lo hi) n (p, b)).2.1 : Int), (rep (nI L lo hi) n (p, b)).2.2) := by
  unfold impl_reader_several.f
  have := loopO_run (step := fun s : List Int × Int × Int × Bool => impl_reader_several.s0 ⟨L, (p : Int), b⟩ (n : Int) lo hi s.1 s.2.1 s.2.2.1 s.2.2.2) (fun k => ((rep (nI L lo hi) k (p, b)).1, (k : Int), ((rep (nI L lo hi) k (p, b)).2.1 : Int), (rep (nI L lo hi) k (p, b)).2.2)) n
    (r := .out ((rep (nI L lo hi) n (p, b)).1, ((rep (nI L lo hi) n (p, b)).2.1 : Int), (rep (nI L lo hi) n (p, b)).2.2)) (fun k hk => by
    have h1 := ((RPair.base L lo hi hlo).reps k).le (p, b) hp
    have hl := rep_len (nI L lo hi) k (p, b)
    generalize hr : rep (nI L lo hi) k (p, b) = r at h1 hl
    obtain ⟨u, a, bb⟩ := r
    simp only at h1 hl
    simp only [impl_reader_several.s0, decide_eq_true (show (k : Int) < (n : Int) by omega), cond_true, i_next L a bb lo hi h1 hL, Option.bind_some]
    rw [if_pos (by simp; omega), w64_id (by omega) (by omega)]
    simp only [rep, hr]
    rfl) (by
    simp only [impl_reader_several.s0]
    rw [decide_eq_false (by omega)]; rfl)
  have this2 : loopO (fun s : List Int × Int × Int × Bool => impl_reader_several.s0 ⟨L, (p : Int), b⟩ (n : Int) lo hi s.1 s.2.1 s.2.2.1 s.2.2.2) (([] : List Int), 0, (p : Int), b) = _ := this
  rw [this2]; rfl

theorem okV_rng {v : StV} (h : okV v = true) : rngV v = true := by
  unfold okV at h
  simp only [Bool.and_eq_true] at h
  obtain ⟨⟨h1, h2, h3⟩, h4, h5⟩ := h
  unfold oramB at h3
  simp only [Bool.and_eq_true] at h3
  obtain ⟨⟨⟨⟨o1, o2⟩, o3⟩, o4⟩, o5⟩ := h3
  have hp : leavesOK v.pos := ⟨by have : (v.pos.length : Int) = 12 := by simpa [encV] using o1
                                  omega, fun y hy => inB_iff.1 (List.all_eq_true.1 o2 y hy)⟩
  unfold rngV
  simp only [Bool.and_eq_true]
  refine ⟨⟨o2, ?_⟩, ?_, ?_⟩
  · obtain ⟨r, hr⟩ := Option.isSome_iff_exists.1 o5
    refine List.all_eq_true.2 fun b hb => ?_
    have := goB_ok v.pos _ [] r hr b (List.mem_append_left _ hb)
    rw [okB_split hp] at this
    simp only [Bool.and_eq_true] at this
    exact this.1
  · refine List.all_eq_true.2 fun y hy => ?_
    obtain ⟨j, hj, rfl⟩ := List.getElem_of_mem hy
    have := List.all_eq_true.1 h1 j (List.mem_range.2 hj)
    unfold keyP at this
    simp only [Bool.and_eq_true] at this
    have h6 := this.1
    rwa [getD_lt hj] at h6
  · refine List.all_eq_true.2 fun y hy => ?_
    have := List.all_eq_true.1 h4 y hy
    unfold resOK at this
    unfold rngR
    simp only [Bool.and_eq_true] at this ⊢
    exact ⟨this.1, this.2.2.1⟩
theorem i_ress (y4 : S_reader) (L : List Int) (hy : y4.list = L) (c : Int × Int × Bool) (p : Nat) (b : Bool) (hc : 0 ≤ c.1 ∧ c.1 ≤ 1000) (hp : p ≤ L.length) (hL : L.length ≤ 1048576) : loopO (fun s : List S_Result × Int × Int × Bool => impl_readState.s0 y4 c s.1 s.2.1 s.2.2.1 s.2.2.2) (([] : List S_Result), 0, (p : Int), b) = some (.out ((rep (resI L) c.1.toNat (p, b)).1, ((rep (resI L) c.1.toNat (p, b)).2.1 : Int), (rep (resI L) c.1.toNat (p, b)).2.2)) := by
  have := loopO_run (step := fun s : List S_Result × Int × Int × Bool => impl_readState.s0 y4 c s.1 s.2.1 s.2.2.1 s.2.2.2) (fun k => ((rep (resI L) k (p, b)).1, (k : Int), ((rep (resI L) k (p, b)).2.1 : Int), (rep (resI L) k (p, b)).2.2)) c.1.toNat
    (r := .out ((rep (resI L) c.1.toNat (p, b)).1, ((rep (resI L) c.1.toNat (p, b)).2.1 : Int), (rep (resI L) c.1.toNat (p, b)).2.2)) (fun k hk => by
    have h1 := ((res_pair L).reps k).le (p, b) hp
    have hl := rep_len (resI L) k (p, b)
    generalize hr : rep (resI L) k (p, b) = r at h1 hl
    obtain ⟨u, a, bb⟩ := r
    simp only at h1 hl
    have h2 := (RPair.base L 0 19 (by decide)).le (a, bb) h1
    have h3 := (RPair.base L 0 32 (by decide)).le _ h2
    have hcc := nI_cnt L 32 (by decide) (nI L 0 19 (a, bb)).2 0 (by decide)
    have e1 := i_next L a bb 0 19 h1 hL
    have e2 := i_next L (nI L 0 19 (a, bb)).2.1 (nI L 0 19 (a, bb)).2.2 0 32 h2 hL
    have e3 := i_several L (nI L 0 32 (nI L 0 19 (a, bb)).2).2.1 (nI L 0 32 (nI L 0 19 (a, bb)).2).2.2 (nI L 0 32 (nI L 0 19 (a, bb)).2).1.toNat 0 999999 (by decide) h3 hL (by omega)
    rw [Int.toNat_of_nonneg hcc.1] at e3
    simp only [impl_readState.s0, hy, decide_eq_true (show (k : Int) < c.1 by omega), cond_true, e1, e2, e3, Option.bind_some]
    rw [if_pos (by simp; omega), w64_id (by omega) (by omega)]
    simp only [rep, hr]
    rfl) (by
    simp only [impl_readState.s0]
    rw [decide_eq_false (by omega)]; rfl)
  exact this
theorem i_state (x0 : ByteArray) (L : List Int) (p : Nat) (b : Bool) (hp : p ≤ L.length) (hL : L.length ≤ 1048576) (hR : impl_readerOf.f x0 140 = some ⟨L, (p : Int), b⟩) :
    impl_readState.f x0 = some (bif (!(stI L (p, b)).2.2 && (L.drop (stI L (p, b)).2.1).all (fun n => n == 0)) && okV (stI L (p, b)).1 then ((⟨(stI L (p, b)).1.keys, encV (stI L (p, b)).1⟩ : S_Enc), (stI L (p, b)).1.res, true) else ((⟨[], ⟨[], [], []⟩⟩ : S_Enc), [], false)) := by
  unfold impl_readState.f
  rw [hR]
  have e1 := i_several L p b 12 0 7 (by decide) hp hL (by decide)
  have h1 := ((RPair.base L 0 7 (by decide)).reps 12).le (p, b) hp
  have e1' : impl_reader_several.f ⟨L, (p : Int), b⟩ 12 0 7 = _ := e1
  have e2 := i_blocks L (rep (nI L 0 7) 12 (p, b)).2.1 (rep (nI L 0 7) 12 (p, b)).2.2 12 h1 hL (by decide)
  have h2 := ((blk_pairQ L).count 12 (by decide)).le (rep (nI L 0 7) 12 (p, b)).2 h1
  have e2' : impl_reader_blocks.f ⟨L, ((rep (nI L 0 7) 12 (p, b)).2.1 : Int), (rep (nI L 0 7) 12 (p, b)).2.2⟩ 12 = some ((blksI L (rep (nI L 0 7) 12 (p, b)).2).1, ((blksI L (rep (nI L 0 7) 12 (p, b)).2).2.1 : Int), (blksI L (rep (nI L 0 7) 12 (p, b)).2).2.2) := e2
  have h2' : (blksI L (rep (nI L 0 7) 12 (p, b)).2).2.1 ≤ L.length := h2
  have e3 := i_several L (blksI L (rep (nI L 0 7) 12 (p, b)).2).2.1 (blksI L (rep (nI L 0 7) 12 (p, b)).2).2.2 11 0 9999 (by decide) h2' hL (by decide)
  have h3 := ((RPair.base L 0 9999 (by decide)).reps 11).le (blksI L (rep (nI L 0 7) 12 (p, b)).2).2 h2'
  have e3' : impl_reader_several.f ⟨L, ((blksI L (rep (nI L 0 7) 12 (p, b)).2).2.1 : Int), (blksI L (rep (nI L 0 7) 12 (p, b)).2).2.2⟩ 11 0 9999 = _ := e3
  have e4 := i_next L (rep (nI L 0 9999) 11 (blksI L (rep (nI L 0 7) 12 (p, b)).2).2).2.1 (rep (nI L 0 9999) 11 (blksI L (rep (nI L 0 7) 12 (p, b)).2).2).2.2 0 2 h3 hL
  have h4 := (RPair.base L 0 2 (by decide)).le (rep (nI L 0 9999) 11 (blksI L (rep (nI L 0 7) 12 (p, b)).2).2).2 h3
  have hcc := nI_cnt L 2 (by decide) (rep (nI L 0 9999) 11 (blksI L (rep (nI L 0 7) 12 (p, b)).2).2).2 0 (by decide)
  simp only [Option.bind_some, e1', e2', e3', e4, if_pos (show (0 : Int) ≤ 15 ∧ (15 : Int) ≤ 1073741824 by decide)]
  have e5 := i_ress ⟨L, (p : Int), b⟩ L rfl ((nI L 0 2 (rep (nI L 0 9999) 11 (blksI L (rep (nI L 0 7) 12 (p, b)).2).2).2).1, ((nI L 0 2 (rep (nI L 0 9999) 11 (blksI L (rep (nI L 0 7) 12 (p, b)).2).2).2).2.1 : Int), (nI L 0 2 (rep (nI L 0 9999) 11 (blksI L (rep (nI L 0 7) 12 (p, b)).2).2).2).2.2) _ (nI L 0 2 (rep (nI L 0 9999) 11 (blksI L (rep (nI L 0 7) 12 (p, b)).2).2).2).2.2 (by simp only; omega) h4 hL
  simp only at e5
  simp only [e5, Option.bind_some]
  have h5 := (st_pair L).le (p, b) hp
  have e6 := i_ends L (stI L (p, b)).2.1 (stI L (p, b)).2.2 h5 hL
  obtain ⟨l1, l2, l3, l4, l5⟩ := stI_len L (p, b)
  have e7 := impl_EncOK_eq ⟨(stI L (p, b)).1.keys, encV (stI L (p, b)).1⟩ (by simp only; omega) (by simp only [encV]; omega) (by simp only [encV]; omega) (fun y hy => by
    have := List.eq_of_mem_replicate hy; subst this; simp)
  have e8 := areResults_eq (stI L (p, b)).1.res (by omega) (fun y hy => by have := l5 y hy; omega)
  show ((Option.bind (impl_reader_ends.f ⟨L, ((stI L (p, b)).2.1 : Int), (stI L (p, b)).2.2⟩) _).bind _) = _
  rw [e6]
  simp only [Option.bind_some]
  show ((bif _ then _ else Option.bind (impl_EncOK.f ⟨(stI L (p, b)).1.keys, encV (stI L (p, b)).1⟩) _).bind _) = _
  rw [e7]
  simp only [Option.bind_some]
  show ((bif _ then _ else bif _ then _ else Option.bind (impl_areResults.f (stI L (p, b)).1.res) _).bind _) = _
  rw [e8]
  unfold okV
  cases (!(stI L (p, b)).2.2 && (L.drop (stI L (p, b)).2.1).all (fun n => n == 0)) <;> cases (keysB (stI L (p, b)).1.keys && (((stI L (p, b)).1.keys.length : Int) == 11 && oramB (encV (stI L (p, b)).1))) <;> cases ((stI L (p, b)).1.res.all resOK && decide (((stI L (p, b)).1.res.length : Int) ≤ 2)) <;> rfl

def F_laws_markIntS (q : Int) (x : Int) : Int := q
theorem mk_laws_markIntS (x : List Int) (k : Int) (h0 : 0 ≤ k) (h1 : k ≤ 144115188075855872) (hl : x.length ≤ 1048576) : ∃ m a, laws_markIntS.f x k = some (m, a) ∧ k ≤ m ∧ m ≤ k + 1048576 ∧ a.length = x.length ∧ laws_heldIntS.f a k = some m := by
  have hm := mark_gen (ρ := Int × List Int) x 0 F_laws_markIntS 1 k (fun s => laws_markIntS.s0 x s.1 s.2.1 s.2.2) (by decide) (fun i u q hi hu hg hq1 hq2 => by
    have w1 : w64 (q + 1) = q + 1 := by rw [w64_id (by omega) (by omega)]
    have wi : w64 ((i : Int) + 1) = ((i + 1 : Nat) : Int) := by rw [w64_id (by omega) (by omega)]; omega
    simp only [laws_markIntS.s0, decide_eq_true (show (i : Int) < (x.length : Int) by omega), cond_true, if_pos (show (0 : Int) ≤ (i : Int) ∧ (i : Int) < (x.length : Int) by omega), Int.toNat_natCast, Option.bind_some, w1, wi, List.set_set, getD_set_self _ 0 _ (show i < u.length by omega), getD_set_self _ 0 _ (show i < (u.set i _).length by simp; omega), F_laws_markIntS]) (fun u q => by simp only [laws_markIntS.s0]; rw [decide_eq_false (by omega)]; rfl)
  refine ⟨k + 1 * x.length, mkL x 0 F_laws_markIntS 1 k, ?_, by omega, by omega, mkL_len .., ?_⟩
  · unfold laws_markIntS.f; rw [hm]; rfl
  · have hy := mkL_len x 0 F_laws_markIntS 1 k
    have hh := held_gen (ρ := Int) (mkL x 0 F_laws_markIntS 1 k) 1 k (fun s => laws_heldIntS.s0 (mkL x 0 F_laws_markIntS 1 k) s.1 s.2) (by decide) (fun i hi hq2 hq1 => by
    have hg := mkL_getD x 0 F_laws_markIntS 1 k (show i < x.length by omega)
    generalize hqq : k + 1 * (i : Int) = q at hg hq1 hq2 ⊢
    rw [hy] at hi hq2
    have w1 : w64 (q + 1) = q + 1 := by rw [w64_id (by omega) (by omega)]
    have wi : w64 ((i : Int) + 1) = ((i + 1 : Nat) : Int) := by rw [w64_id (by omega) (by omega)]; omega
    simp only [laws_heldIntS.s0, hy, decide_eq_true (show (i : Int) < (x.length : Int) by omega), cond_true, if_pos (show (0 : Int) ≤ (i : Int) ∧ (i : Int) < (x.length : Int) by omega), Int.toNat_natCast, Option.bind_some, w1, wi, hg, F_laws_markIntS, bne_self_eq_false, beq_self_eq_true, bs_self, Bool.not_true, cond_false]) (fun q => by simp only [laws_heldIntS.s0]; rw [decide_eq_false (by omega)]; rfl)
    rw [hy] at hh
    unfold laws_heldIntS.f; rw [hh]; rfl

def F_laws_markBlockS (q : Int) (x : S_Block) : S_Block := ⟨q, (q + 1), (q + 2)⟩
theorem mk_laws_markBlockS (x : List S_Block) (k : Int) (h0 : 0 ≤ k) (h1 : k ≤ 144115188075855872) (hl : x.length ≤ 1048576) : ∃ m a, laws_markBlockS.f x k = some (m, a) ∧ k ≤ m ∧ m ≤ k + 3145728 ∧ a.length = x.length ∧ laws_heldBlockS.f a k = some m := by
  have hm := mark_gen (ρ := Int × List S_Block) x z_Block F_laws_markBlockS 3 k (fun s => laws_markBlockS.s0 x s.1 s.2.1 s.2.2) (by decide) (fun i u q hi hu hg hq1 hq2 => by
    have w1 : w64 (q + 1) = q + 1 := by rw [w64_id (by omega) (by omega)]
    have w2 : w64 (q + 1 + 1) = q + 2 := by rw [w64_id (by omega) (by omega)]; omega
    have w3 : w64 (q + 2 + 1) = q + 3 := by rw [w64_id (by omega) (by omega)]; omega
    have wi : w64 ((i : Int) + 1) = ((i + 1 : Nat) : Int) := by rw [w64_id (by omega) (by omega)]; omega
    simp only [laws_markBlockS.s0, decide_eq_true (show (i : Int) < (x.length : Int) by omega), cond_true, if_pos (show (0 : Int) ≤ (i : Int) ∧ (i : Int) < (x.length : Int) by omega), Int.toNat_natCast, Option.bind_some, w1, w2, w3, wi, List.set_set, getD_set_self _ z_Block _ (show i < u.length by omega), getD_set_self _ z_Block _ (show i < (u.set i _).length by simp; omega), F_laws_markBlockS]) (fun u q => by simp only [laws_markBlockS.s0]; rw [decide_eq_false (by omega)]; rfl)
  refine ⟨k + 3 * x.length, mkL x z_Block F_laws_markBlockS 3 k, ?_, by omega, by omega, mkL_len .., ?_⟩
  · unfold laws_markBlockS.f; rw [hm]; rfl
  · have hy := mkL_len x z_Block F_laws_markBlockS 3 k
    have hh := held_gen (ρ := Int) (mkL x z_Block F_laws_markBlockS 3 k) 3 k (fun s => laws_heldBlockS.s0 (mkL x z_Block F_laws_markBlockS 3 k) s.1 s.2) (by decide) (fun i hi hq2 hq1 => by
    have hg := mkL_getD x z_Block F_laws_markBlockS 3 k (show i < x.length by omega)
    generalize hqq : k + 3 * (i : Int) = q at hg hq1 hq2 ⊢
    rw [hy] at hi hq2
    have w1 : w64 (q + 1) = q + 1 := by rw [w64_id (by omega) (by omega)]
    have w2 : w64 (q + 1 + 1) = q + 2 := by rw [w64_id (by omega) (by omega)]; omega
    have w3 : w64 (q + 2 + 1) = q + 3 := by rw [w64_id (by omega) (by omega)]; omega
    have wi : w64 ((i : Int) + 1) = ((i + 1 : Nat) : Int) := by rw [w64_id (by omega) (by omega)]; omega
    simp only [laws_heldBlockS.s0, hy, decide_eq_true (show (i : Int) < (x.length : Int) by omega), cond_true, if_pos (show (0 : Int) ≤ (i : Int) ∧ (i : Int) < (x.length : Int) by omega), Int.toNat_natCast, Option.bind_some, w1, w2, w3, wi, hg, F_laws_markBlockS, bne_self_eq_false, beq_self_eq_true, bs_self, Bool.not_true, cond_false]) (fun q => by simp only [laws_heldBlockS.s0]; rw [decide_eq_false (by omega)]; rfl)
    rw [hy] at hh
    unfold laws_heldBlockS.f; rw [hh]; rfl

theorem mk_laws_markBlockSS (x : List (List S_Block)) (k : Int) (h0 : 0 ≤ k) (h1 : k ≤ 144111889540972544) (hl : x.length ≤ 1048576 ∧ ∀ z0 : List S_Block, z0 ∈ x → (z0.length ≤ 1048576)) : ∃ m a, laws_markBlockSS.f x k = some (m, a) ∧ k ≤ m ∧ m ≤ k + 3298534883328 ∧ a.length = x.length ∧ laws_heldBlockSS.f a k = some m := by
  obtain ⟨hl1, hl2⟩ := hl
  obtain ⟨a, m, e1, e2, e3, e4, qs, e5, e6, e7⟩ := mark_gen2 (ρ := Int × (List (List S_Block))) x [] 3145728 k (fun e q q2 => laws_heldBlockS.f e q = some q2) (fun s => laws_markBlockSS.s0 x s.1 s.2.1 s.2.2) (by decide) (fun i u q hi hu hg hq1 hq2 => by
    have wi : w64 ((i : Int) + 1) = ((i + 1 : Nat) : Int) := by rw [w64_id (by omega) (by omega)]; omega
    obtain ⟨m2, b, f1, f2, f3, f4, f5⟩ := mk_laws_markBlockS (x.getD i []) q (by omega) (by omega) (hl2 _ (getD_mem hi _))
    refine ⟨b, m2, ?_, by omega, by omega, f5⟩
    simp only [laws_markBlockSS.s0, decide_eq_true (show (i : Int) < (x.length : Int) by omega), cond_true, if_pos (show (0 : Int) ≤ (i : Int) ∧ (i : Int) < (x.length : Int) by omega), Int.toNat_natCast, wi, List.set_set, getD_set_self _ [] _ (show i < u.length by omega), hg, f1, Option.bind_some]) (fun u q => by simp only [laws_markBlockSS.s0]; rw [decide_eq_false (by omega)]; rfl)
  refine ⟨m, a, ?_, e3, by omega, e2, ?_⟩
  · unfold laws_markBlockSS.f; rw [e1]; rfl
  · have hh := held_gen2 (ρ := Int) x.length qs (fun s => laws_heldBlockSS.s0 a s.1 s.2) (fun i hi => by
      obtain ⟨g1, g2, g3⟩ := e7 i hi
      generalize qs i = q at g1 g2 g3 ⊢
      have wi : w64 ((i : Int) + 1) = ((i + 1 : Nat) : Int) := by rw [w64_id (by omega) (by omega)]; omega
      have g5 := g3
      have g6 : ¬ qs (i + 1) < 0 := by
        by_cases hj : i + 1 < x.length
        · have := (e7 (i + 1) hj).1; omega
        · have : i + 1 = x.length := by omega
          rw [this, e6]; omega
      simp only [laws_heldBlockSS.s0, e2, decide_eq_true (show (i : Int) < (x.length : Int) by omega), cond_true, if_pos (show (0 : Int) ≤ (i : Int) ∧ (i : Int) < (x.length : Int) by omega), Int.toNat_natCast, wi, bne_self_eq_false, cond_false, g5, Option.bind_some, decide_eq_false g6]) (fun q => by simp only [laws_heldBlockSS.s0]; rw [decide_eq_false (by omega)]; rfl)
    rw [e5, e6] at hh
    unfold laws_heldBlockSS.f; rw [hh]; rfl

theorem mk_laws_markOram (x : S_Oram) (k : Int) (h0 : 0 ≤ k) (h1 : k ≤ 144111889536778240) (hl : (x.Pos.length ≤ 1048576) ∧ (x.Stash.length ≤ 1048576) ∧ (x.Buckets.length ≤ 1048576 ∧ ∀ z0 : List S_Block, z0 ∈ x.Buckets → (z0.length ≤ 1048576))) : ∃ m a0 a1 a2, laws_markOram.f x k = some (m, a0, a1, a2) ∧ k ≤ m ∧ m ≤ k + 3298539077632 ∧ ∀ y : S_Oram, y.Pos = a0 → y.Stash = a1 → y.Buckets = a2 → laws_heldOram.f y k = some m := by
  obtain ⟨m0, b0, e0, p0, q0, _, r0⟩ := mk_laws_markIntS x.Pos k (by omega) (by omega) hl.1
  obtain ⟨m1, b1, e1, p1, q1, _, r1⟩ := mk_laws_markBlockS x.Stash m0 (by omega) (by omega) hl.2.1
  obtain ⟨m2, b2, e2, p2, q2, _, r2⟩ := mk_laws_markBlockSS x.Buckets m1 (by omega) (by omega) hl.2.2
  refine ⟨m2, b0, b1, b2, ?_, by omega, by omega, ?_⟩
  · unfold laws_markOram.f; simp only [e0, e1, e2, Option.bind_some]
  · intro y y0 y1 y2
    have s0 : laws_heldIntS.f y.Pos k = some m0 := by rw [y0]; exact r0
    have s1 : laws_heldBlockS.f y.Stash m0 = some m1 := by rw [y1]; exact r1
    have s2 : laws_heldBlockSS.f y.Buckets m1 = some m2 := by rw [y2]; exact r2
    unfold laws_heldOram.f; simp only [s0, decide_eq_false (show ¬ m0 < 0 by omega), s1, decide_eq_false (show ¬ m1 < 0 by omega), s2, decide_eq_false (show ¬ m2 < 0 by omega), Option.bind_some, cond_false]

theorem mk_laws_markEnc (x : S_Enc) (k : Int) (h0 : 0 ≤ k) (h1 : k ≤ 144111889535729664) (hl : (x.Keys.length ≤ 1048576) ∧ ((x.Oram.Pos.length ≤ 1048576) ∧ (x.Oram.Stash.length ≤ 1048576) ∧ (x.Oram.Buckets.length ≤ 1048576 ∧ ∀ z0 : List S_Block, z0 ∈ x.Oram.Buckets → (z0.length ≤ 1048576)))) : ∃ m a0 a1 a2 a3, laws_markEnc.f x k = some (m, a0, a1, a2, a3) ∧ k ≤ m ∧ m ≤ k + 3298540126208 ∧ ∀ y : S_Enc, y.Keys = a0 → y.Oram.Pos = a1 → y.Oram.Stash = a2 → y.Oram.Buckets = a3 → laws_heldEnc.f y k = some m := by
  obtain ⟨m0, b0, e0, p0, q0, _, r0⟩ := mk_laws_markIntS x.Keys k (by omega) (by omega) hl.1
  obtain ⟨m1, b1, b2, b3, e1, p1, q1, r1⟩ := mk_laws_markOram x.Oram m0 (by omega) (by omega) hl.2
  refine ⟨m1, b0, b1, b2, b3, ?_, by omega, by omega, ?_⟩
  · unfold laws_markEnc.f; simp only [e0, e1, Option.bind_some]
  · intro y y0 y1 y2 y3
    have s0 : laws_heldIntS.f y.Keys k = some m0 := by rw [y0]; exact r0
    have s1 : laws_heldOram.f y.Oram m0 = some m1 := r1 _ y1 y2 y3
    unfold laws_heldEnc.f; simp only [s0, decide_eq_false (show ¬ m0 < 0 by omega), s1, decide_eq_false (show ¬ m1 < 0 by omega), Option.bind_some, cond_false]

theorem mk_laws_markResultS (x : List S_Result) (k : Int) (h0 : 0 ≤ k) (h1 : k ≤ 144114088563179504) (hl : x.length ≤ 1048576 ∧ ∀ z0 : S_Result, z0 ∈ x → ((z0.Values.length ≤ 1048576))) : ∃ m a, laws_markResultS.f x k = some (m, a) ∧ k ≤ m ∧ m ≤ k + 1099512676352 ∧ a.length = x.length ∧ laws_heldResultS.f a k = some m := by
  obtain ⟨hl1, hl2⟩ := hl
  obtain ⟨a, m, e1, e2, e3, e4, qs, e5, e6, e7⟩ := mark_gen2 (ρ := Int × (List S_Result)) x z_Result 1048577 k (fun e q q2 => e.Code = q ∧ laws_heldIntS.f e.Values (q + 1) = some q2) (fun s => laws_markResultS.s0 x s.1 s.2.1 s.2.2) (by decide) (fun i u q hi hu hg hq1 hq2 => by
    have w1 : w64 (q + 1) = q + 1 := by rw [w64_id (by omega) (by omega)]
    have wi : w64 ((i : Int) + 1) = ((i + 1 : Nat) : Int) := by rw [w64_id (by omega) (by omega)]; omega
    obtain ⟨m2, b, f1, f2, f3, f4, f5⟩ := mk_laws_markIntS (x.getD i z_Result).Values (q + 1) (by omega) (by omega) (hl2 _ (getD_mem hi _))
    refine ⟨⟨q, b⟩, m2, ?_, by omega, by omega, rfl, f5⟩
    simp only [laws_markResultS.s0, decide_eq_true (show (i : Int) < (x.length : Int) by omega), cond_true, if_pos (show (0 : Int) ≤ (i : Int) ∧ (i : Int) < (x.length : Int) by omega), Int.toNat_natCast, w1, wi, List.set_set, getD_set_self _ z_Result _ (show i < u.length by omega), hg, f1, Option.bind_some]) (fun u q => by simp only [laws_markResultS.s0]; rw [decide_eq_false (by omega)]; rfl)
  refine ⟨m, a, ?_, e3, by omega, e2, ?_⟩
  · unfold laws_markResultS.f; rw [e1]; rfl
  · have hh := held_gen2 (ρ := Int) x.length qs (fun s => laws_heldResultS.s0 a s.1 s.2) (fun i hi => by
      obtain ⟨g1, g2, g3⟩ := e7 i hi
      generalize qs i = q at g1 g2 g3 ⊢
      have w1 : w64 (q + 1) = q + 1 := by rw [w64_id (by omega) (by omega)]
      have wi : w64 ((i : Int) + 1) = ((i + 1 : Nat) : Int) := by rw [w64_id (by omega) (by omega)]; omega
      obtain ⟨g4_0, g5⟩ := g3
      have g6 : ¬ qs (i + 1) < 0 := by
        by_cases hj : i + 1 < x.length
        · have := (e7 (i + 1) hj).1; omega
        · have : i + 1 = x.length := by omega
          rw [this, e6]; omega
      simp only [laws_heldResultS.s0, e2, decide_eq_true (show (i : Int) < (x.length : Int) by omega), cond_true, if_pos (show (0 : Int) ≤ (i : Int) ∧ (i : Int) < (x.length : Int) by omega), Int.toNat_natCast, w1, wi, g4_0, bne_self_eq_false, cond_false, g5, Option.bind_some, decide_eq_false g6]) (fun q => by simp only [laws_heldResultS.s0]; rw [decide_eq_false (by omega)]; rfl)
    rw [e5, e6] at hh
    unfold laws_heldResultS.f; rw [hh]; rfl

end Go.Proofs.Ytmgfkpfacdlfbaa
