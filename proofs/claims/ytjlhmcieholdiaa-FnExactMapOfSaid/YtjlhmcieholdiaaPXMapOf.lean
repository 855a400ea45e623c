/- What the models of these functions come to. -/
import Derived.Test.YtjlhmcieholdiaaP0
import Derived.Test.YtjlhmcieholdiaaGXMapOfn2
namespace Go.Proofs.Ytjlhmcieholdiaa
open Go Go.Z Go.Proofs Go.MuLone Go.ChangeShapes Go.WideShapes Go.ChangeAt Go.RowKit
set_option linter.unusedVariables false
set_option linter.unusedSimpArgs false
def blkI (L : List Int) (s : Nat × Bool) : S_Block × (Nat × Bool) := (⟨(nI L 0 11 s).1, (nI L 0 7 (nI L 0 11 s).2).1, (nI L 0 999999 (nI L 0 7 (nI L 0 11 s).2).2).1⟩, (nI L 0 999999 (nI L 0 7 (nI L 0 11 s).2).2).2)
def blkS (L : List Int) (q : Nat) : S_Block × Nat := (⟨(nS L q).1, (nS L (nS L q).2).1, (nS L (nS L (nS L q).2).2).1⟩, (nS L (nS L (nS L q).2).2).2)
def rngB (b : S_Block) : Bool := inB b.Id 0 11 && inB b.Leaf 0 7 && inB b.Value 0 999999
theorem blk_pair (L : List Int) : RPair L (blkI L) (blkS L) rngB :=
  RPair.seq (α := Int × Int) (RPair.seq (RPair.base L 0 11 (by decide)) (RPair.base L 0 7 (by decide)) Prod.mk (fun ab => inB ab.1 0 11 && inB ab.2 0 7) (fun _ _ => rfl)) (RPair.base L 0 999999 (by decide)) (fun ab c => ⟨ab.1, ab.2, c⟩) rngB (fun _ _ => rfl)
theorem blkS_le {L : List Int} {q : Nat} (h : q ≤ L.length + 1) : (blkS L q).2 ≤ L.length + 1 := nS_le (nS_le (nS_le h))

def blkInts (l : List S_Block) : List Int := l.flatMap (fun b => [b.Id, b.Leaf, b.Value])
theorem blkInts_snoc (l : List S_Block) (b : S_Block) : blkInts (l ++ [b]) = blkInts l ++ [b.Id, b.Leaf, b.Value] := by simp [blkInts]
theorem blkInts_len (l : List S_Block) : (blkInts l).length = 3 * l.length := by
  induction l with
  | nil => rfl
  | cons a l ih =>
    show ([a.Id, a.Leaf, a.Value] ++ blkInts l).length = _
    rw [List.length_append, ih]; simp only [List.length_cons, List.length_nil]; omega

def mapP (l : List S_Entry) (k : Nat) : Bool :=
  inB (l.getD k z_Entry).Key 1 9999 && inB (l.getD k z_Entry).Value 0 999999 && (k == 0 || decide ((l.getD (k - 1) z_Entry).Key < (l.getD k z_Entry).Key))
def mapOK (l : List S_Entry) : Bool := (List.range l.length).all (mapP l) && decide (l.length ≤ 11)
structure Sorted (l : List S_Entry) : Prop where
  short : l.length ≤ 11
  key : ∀ k, k < l.length → 1 ≤ (l.getD k z_Entry).Key ∧ (l.getD k z_Entry).Key ≤ 9999
  val : ∀ k, k < l.length → 0 ≤ (l.getD k z_Entry).Value ∧ (l.getD k z_Entry).Value ≤ 999999
  up : ∀ i j, i < j → j < l.length → (l.getD i z_Entry).Key < (l.getD j z_Entry).Key
theorem mapOK_sorted {l : List S_Entry} (h : mapOK l = true) : Sorted l := by
  unfold mapOK at h
  simp only [Bool.and_eq_true, decide_eq_true_eq, List.all_eq_true, List.mem_range] at h
  obtain ⟨h1, h2⟩ := h
  have h3 : ∀ k, k < l.length → (1 ≤ (l.getD k z_Entry).Key ∧ (l.getD k z_Entry).Key ≤ 9999) ∧ (0 ≤ (l.getD k z_Entry).Value ∧ (l.getD k z_Entry).Value ≤ 999999) ∧ (k = 0 ∨ (l.getD (k - 1) z_Entry).Key < (l.getD k z_Entry).Key) := fun k hk => by
    have := h1 k hk
    unfold mapP at this
    simp only [Bool.and_eq_true, inB_iff, Bool.or_eq_true, beq_iff_eq, decide_eq_true_eq] at this
    exact ⟨this.1.1, this.1.2, this.2⟩
  refine ⟨h2, fun k hk => (h3 k hk).1, fun k hk => (h3 k hk).2.1, fun i j hij hj => ?_⟩
  obtain ⟨m, rfl⟩ : ∃ m, j = i + 1 + m := ⟨j - i - 1, by omega⟩
  induction m with
  | zero =>
    rcases (h3 (i + 1) hj).2.2 with h | h
    · omega
    · simpa using h
  | succ m ih =>
    have h4 := ih (by omega) (by omega)
    rcases (h3 (i + 1 + (m + 1)) hj).2.2 with h | h
    · omega
    · have e : i + 1 + (m + 1) - 1 = i + 1 + m := by omega
      rw [e] at h; omega
/-- Where a key stands, or would. -/
def place (l : List S_Entry) (x : Int) : Nat := l.findIdx (fun e => decide (x ≤ e.Key))
def found (l : List S_Entry) (x : Int) : Bool := decide (place l x < l.length) && ((l.getD (place l x) z_Entry).Key == x)
theorem place_le (l : List S_Entry) (x : Int) : place l x ≤ l.length := List.findIdx_le_length
theorem place_lt {l : List S_Entry} {x : Int} {t : Nat} (h : t < place l x) : (l.getD t z_Entry).Key < x := by
  have ht : t < l.length := Nat.lt_of_lt_of_le h (place_le l x)
  rw [getD_lt ht]
  have := List.not_of_lt_findIdx h
  simp only [decide_eq_false_iff_not, Bool.not_eq_true, decide_eq_true_eq] at this
  omega
theorem place_ge {l : List S_Entry} {x : Int} (h : place l x < l.length) : x ≤ (l.getD (place l x) z_Entry).Key := by
  rw [getD_lt h]
  exact of_decide_eq_true (List.findIdx_getElem (w := h))
theorem place_ge' {l : List S_Entry} (hs : Sorted l) {x : Int} {t : Nat} (h : place l x ≤ t) (ht : t < l.length) : x ≤ (l.getD t z_Entry).Key := by
  have h1 := place_ge (l := l) (x := x) (by omega)
  rcases Nat.lt_or_ge (place l x) t with h2 | h2
  · have := hs.up _ _ h2 ht; omega
  · have : t = place l x := by omega
    rw [this]; exact h1
theorem place_eq {l : List S_Entry} {x : Int} {i : Nat} (hi : i ≤ l.length) (h1 : ∀ t, t < i → (l.getD t z_Entry).Key < x) (h2 : i < l.length → x ≤ (l.getD i z_Entry).Key) : i = place l x := by
  rcases Nat.lt_trichotomy i (place l x) with h | h | h
  · have a := place_lt h
    have b := h2 (by have := place_le l x; omega)
    omega
  · exact h
  · have a := h1 _ h
    have b := place_ge (l := l) (x := x) (by omega)
    omega
def foundV (l : List S_Entry) (k : Int) : Int := bif found l k then (l.getD (place l k) z_Entry).Value else 0
theorem found_lt {l : List S_Entry} {k : Int} (h : found l k = true) : place l k < l.length ∧ (l.getD (place l k) z_Entry).Key = k := by
  unfold found at h
  simpa only [Bool.and_eq_true, decide_eq_true_eq, beq_iff_eq] using h
theorem foundV_rng {l : List S_Entry} (hs : Sorted l) (k : Int) : 0 ≤ foundV l k ∧ foundV l k ≤ 999999 := by
  unfold foundV
  cases h : found l k
  · simp
  · exact hs.val _ (found_lt h).1
theorem sorted_mapOK {l : List S_Entry} (hs : Sorted l) : mapOK l = true := by
  unfold mapOK
  simp only [Bool.and_eq_true, decide_eq_true_eq, List.all_eq_true, List.mem_range]
  refine ⟨fun k hk => ?_, hs.short⟩
  unfold mapP
  simp only [Bool.and_eq_true, inB_iff, Bool.or_eq_true, beq_iff_eq, decide_eq_true_eq]
  refine ⟨⟨hs.key k hk, hs.val k hk⟩, ?_⟩
  cases k with
  | zero => exact .inl rfl
  | succ k => exact .inr (hs.up _ _ (by omega) hk)
theorem found_at {l : List S_Entry} (hs : Sorted l) {k : Int} {i : Nat} (hi : i < l.length) (h : (l.getD i z_Entry).Key = k) : place l k = i ∧ found l k = true ∧ foundV l k = (l.getD i z_Entry).Value := by
  have hp : i = place l k := place_eq (by omega) (fun t ht => by have := hs.up _ _ ht hi; omega) (fun _ => by omega)
  have hf : found l k = true := by
    unfold found
    rw [← hp, decide_eq_true hi, h]; simp
  refine ⟨hp.symm, hf, ?_⟩
  unfold foundV
  rw [hf, ← hp]; rfl
theorem found_not {l : List S_Entry} {k : Int} (h : ∀ i, i < l.length → (l.getD i z_Entry).Key ≠ k) : found l k = false := by
  cases hf : found l k
  · rfl
  · obtain ⟨h1, h2⟩ := found_lt hf
    exact absurd h2 (h _ h1)
def putL (l : List S_Entry) (k v : Int) : List S_Entry := l.take (place l k) ++ [(⟨k, v⟩ : S_Entry)] ++ l.drop (bif found l k then place l k + 1 else place l k)
theorem putL_len (l : List S_Entry) (k v : Int) : (putL l k v).length ≤ l.length + 1 := by
  unfold putL
  have := place_le l k
  cases found l k <;> simp only [cond_true, cond_false, List.length_append, List.length_take, List.length_drop, List.length_cons, List.length_nil] <;> omega
theorem putL_get (l : List S_Entry) (k v : Int) (i : Nat) : (putL l k v).getD i z_Entry = if i < place l k then l.getD i z_Entry else if i = place l k then ⟨k, v⟩ else l.getD (bif found l k then i else i - 1) z_Entry := by
  have hp := place_le l k
  have ht : (l.take (place l k)).length = place l k := by rw [List.length_take]; omega
  unfold putL
  simp only [List.getD_eq_getElem?_getD]
  rw [List.append_assoc, List.getElem?_append, ht]
  by_cases h1 : i < place l k
  · rw [if_pos h1, if_pos h1, List.getElem?_take, if_pos h1]
  · rw [if_neg h1, if_neg h1]
    by_cases h2 : i = place l k
    · rw [if_pos h2, h2]; simp
    · rw [if_neg h2]
      obtain ⟨m, rfl⟩ : ∃ m, i = place l k + (m + 1) := ⟨i - place l k - 1, by omega⟩
      rw [show place l k + (m + 1) - place l k = m + 1 by omega]
      simp only [List.singleton_append, List.getElem?_cons_succ, List.getElem?_drop]
      cases found l k
      · simp only [cond_false]; rw [show place l k + (m + 1) - 1 = place l k + m by omega]
      · simp only [cond_true]; rw [show place l k + 1 + m = place l k + (m + 1) by omega]
theorem putL_len' (l : List S_Entry) (k v : Int) : (putL l k v).length = bif found l k then l.length else l.length + 1 := by
  unfold putL
  have := place_le l k
  cases hf : found l k
  · simp only [cond_false, List.length_append, List.length_take, List.length_drop, List.length_cons, List.length_nil]; omega
  · have := (found_lt hf).1
    simp only [cond_true, List.length_append, List.length_take, List.length_drop, List.length_cons, List.length_nil]; omega
theorem place_gt {l : List S_Entry} {k : Int} (hs : Sorted l) {t : Nat} (h : place l k < t ∨ (found l k = false ∧ place l k ≤ t)) (ht : t < l.length) : k < (l.getD t z_Entry).Key := by
  rcases h with h | ⟨h1, h2⟩
  · have a := place_ge (l := l) (x := k) (by omega)
    have b := hs.up _ _ h ht
    omega
  · have a := place_ge (l := l) (x := k) (by omega)
    have c : (l.getD (place l k) z_Entry).Key ≠ k := by
      unfold found at h1
      rw [decide_eq_true (show place l k < l.length by omega), Bool.true_and, beq_eq_false_iff_ne] at h1
      exact h1
    rcases Nat.lt_or_ge (place l k) t with h3 | h3
    · have b := hs.up _ _ h3 ht; omega
    · rw [show t = place l k by omega]; omega
theorem sorted_put {l : List S_Entry} {k v : Int} (hs : Sorted l) (hk : 1 ≤ k ∧ k ≤ 9999) (hv : 0 ≤ v ∧ v ≤ 999999) (hr : ((!found l k) && ((l.length : Int) == 11)) = false) : Sorted (putL l k v) := by
  have hsh := hs.short
  have hp := place_le l k
  have hlen := putL_len' l k v
  have hf1 : found l k = true → place l k < l.length := fun h => (found_lt h).1
  refine ⟨?_, fun i hi => ?_, fun i hi => ?_, fun i j hij hj => ?_⟩
  · rw [hlen]
    cases hf : found l k
    · rw [hf] at hr
      simp only [Bool.not_false, Bool.true_and, beq_eq_false_iff_ne, ne_eq] at hr
      simp only [cond_false]; omega
    · exact hsh
  · rw [hlen] at hi
    rw [putL_get]
    split
    · exact hs.key _ (by omega)
    · split
      · exact hk
      · refine hs.key _ ?_
        cases hf : found l k <;> rw [hf] at hi <;> simp only [cond_true, cond_false] at hi ⊢ <;> omega
  · rw [hlen] at hi
    rw [putL_get]
    split
    · exact hs.val _ (by omega)
    · split
      · exact hv
      · refine hs.val _ ?_
        cases hf : found l k <;> rw [hf] at hi <;> simp only [cond_true, cond_false] at hi ⊢ <;> omega
  · rw [hlen] at hj
    rw [putL_get, putL_get]
    by_cases a1 : i < place l k
    · rw [if_pos a1]
      by_cases b1 : j < place l k
      · rw [if_pos b1]; exact hs.up _ _ hij (by omega)
      · rw [if_neg b1]
        have a2 := place_lt a1
        by_cases b2 : j = place l k
        · rw [if_pos b2]; exact a2
        · rw [if_neg b2]
          have : k < (l.getD (bif found l k then j else j - 1) z_Entry).Key := by
            cases hf : found l k <;> rw [hf] at hj <;> simp only [cond_true, cond_false] at hj ⊢
            · exact place_gt hs (.inr ⟨hf, by omega⟩) (by omega)
            · exact place_gt hs (.inl (by omega)) (by omega)
          omega
    · rw [if_neg a1, if_neg (show ¬ j < place l k by omega), if_neg (show ¬ j = place l k by omega)]
      by_cases a2 : i = place l k
      · rw [if_pos a2]
        cases hf : found l k <;> rw [hf] at hj <;> simp only [cond_true, cond_false] at hj ⊢
        · exact place_gt hs (.inr ⟨hf, by omega⟩) (by omega)
        · exact place_gt hs (.inl (by omega)) (by omega)
      · rw [if_neg a2]
        cases hf : found l k <;> rw [hf] at hj <;> simp only [cond_true, cond_false] at hj ⊢
        · exact hs.up _ _ (by omega) (by omega)
        · exact hs.up _ _ (by omega) (by omega)
/-- What was put stands in its place. -/
theorem put_at (l : List S_Entry) (k v : Int) : place l k < (putL l k v).length ∧ (putL l k v).getD (place l k) z_Entry = ⟨k, v⟩ := by
  constructor
  · rw [putL_len']
    have := place_le l k
    cases hf : found l k
    · simp only [cond_false]; omega
    · exact (found_lt hf).1
  · rw [putL_get, if_neg (by omega), if_pos rfl]

theorem nodup_le : ∀ (n : Nat) (l : List Int), l.Nodup → (∀ x ∈ l, 0 ≤ x ∧ x < (n : Int)) → l.length ≤ n
  | 0, l, _, h => by
    cases l with
    | nil => exact Nat.le_refl _
    | cons a r => have := h a (List.mem_cons_self ..); omega
  | n + 1, l, hn, h => by
    by_cases hm : (n : Int) ∈ l
    · have h1 := nodup_le n (l.erase (n : Int)) (hn.erase _) (fun x hx => by
        have h2 := (hn.mem_erase_iff).1 hx
        have := h x h2.2
        omega)
      rw [List.length_erase_of_mem hm] at h1
      omega
    · have h1 := nodup_le n l hn (fun x hx => by
        have := h x hx
        have : x ≠ (n : Int) := fun e => hm (e ▸ hx)
        omega)
      omega
/-- A block that is right, but for others of its id. -/
def okB (pos : List Int) (b : S_Block) : Bool := inB b.Id 0 11 && ((pos.getD b.Id.toNat 0 == b.Leaf) && inB b.Value 0 999999)
/-- Blocks one after the other, each right, their ids apart. -/
def goB (pos : List Int) : List S_Block → List Int → Option (List Int)
  | [], ids => some ids
  | b :: r, ids => bif okB pos b && !ids.contains b.Id then goB pos r (ids ++ [b.Id]) else none
theorem goB_app (pos : List Int) : ∀ (a b : List S_Block) (ids : List Int), goB pos (a ++ b) ids = (goB pos a ids).bind (goB pos b)
  | [], b, ids => rfl
  | x :: a, b, ids => by
    simp only [List.cons_append, goB]
    cases okB pos x && !ids.contains x.Id
    · rfl
    · exact goB_app pos a b _
theorem goB_len (pos : List Int) : ∀ (l : List S_Block) (ids r : List Int), goB pos l ids = some r → ids.Nodup → (∀ x ∈ ids, 0 ≤ x ∧ x < 12) → r.length = ids.length + l.length ∧ r.Nodup ∧ ∀ x ∈ r, 0 ≤ x ∧ x < 12
  | [], ids, r, h, h1, h2 => by
    have := Option.some.inj h; subst this; exact ⟨by simp, h1, h2⟩
  | b :: l, ids, r, h, h1, h2 => by
    simp only [goB] at h
    cases hc : okB pos b && !ids.contains b.Id
    · rw [hc] at h; cases h
    · rw [hc] at h
      simp only [Bool.and_eq_true, Bool.not_eq_true', okB, inB_iff] at hc
      have hni : b.Id ∉ ids := by
        intro hm
        have := List.contains_iff_mem.2 hm
        rw [hc.2] at this; cases this
      obtain ⟨h3, h4, h5⟩ := goB_len pos l (ids ++ [b.Id]) r h (by
        rw [List.nodup_append]
        refine ⟨h1, by simp, fun x hx y hy => ?_⟩
        rw [List.mem_singleton.1 hy]
        intro e; exact hni (e ▸ hx)) (fun x hx => by
        rcases List.mem_append.1 hx with hx | hx
        · exact h2 x hx
        · rw [List.mem_singleton.1 hx]; omega)
      refine ⟨?_, h4, h5⟩
      rw [h3, List.length_append, List.length_cons, List.length_cons, List.length_nil]; omega
theorem goB_le (pos : List Int) (l : List S_Block) (r : List Int) (h : goB pos l [] = some r) : l.length ≤ 12 := by
  obtain ⟨h1, h2, h3⟩ := goB_len pos l [] r h List.nodup_nil (by simp)
  have := nodup_le 12 r h2 h3
  simp only [List.length_nil] at h1
  omega
def onB (i : Int) (b : S_Block) : Bool := inB b.Leaf 0 7 && (pathL b.Leaf).contains i
def leavesOK (pos : List Int) : Prop := pos.length = 12 ∧ ∀ y ∈ pos, 0 ≤ y ∧ y ≤ 7
theorem okB_leaf {pos : List Int} {b : S_Block} (hp : leavesOK pos) (h : okB pos b = true) : 0 ≤ b.Leaf ∧ b.Leaf ≤ 7 := by
  unfold okB at h
  simp only [Bool.and_eq_true, inB_iff, beq_iff_eq] at h
  have hl := hp.1
  rw [← h.2.1]
  exact hp.2 _ (getD_mem (by omega) 0)
/-- What both look at. -/
def oramB (o : S_Oram) : Bool := ((o.Pos.length : Int) == 12) && o.Pos.all (fun x => inB x 0 7) && ((o.Buckets.length : Int) == 15) && (List.range o.Buckets.length).all (fun i => decide ((o.Buckets.getD i []).length ≤ 2) && (o.Buckets.getD i []).all (onB i)) && (goB o.Pos (o.Stash ++ o.Buckets.flatten) []).isSome
theorem take_flat {α : Type} (l : List (List α)) (k : Nat) (hk : k < l.length) : (l.take (k + 1)).flatten = (l.take k).flatten ++ l.getD k [] := by
  rw [take_snoc l k hk []]; simp
theorem goB_len' (pos : List Int) : ∀ (l : List S_Block) (ids r : List Int), goB pos l ids = some r → r.length = ids.length + l.length
  | [], ids, r, h => by have := Option.some.inj h; subst this; simp
  | b :: l, ids, r, h => by
    simp only [goB] at h
    cases hc : okB pos b && !ids.contains b.Id
    · rw [hc] at h; cases h
    · rw [hc] at h
      have := goB_len' pos l (ids ++ [b.Id]) r h
      rw [this, List.length_append, List.length_cons, List.length_cons, List.length_nil]; omega
/-- A key at its place: right, and apart from those ahead, but for 0. -/
def keyP (l : List Int) (k : Nat) : Bool := inB (l.getD k 0) 0 9999 && (l.getD k 0 == 0 || !(l.take k).contains (l.getD k 0))
def keysB (l : List Int) : Bool := (List.range l.length).all (keyP l)
/-- The value of the first block of an id. -/
def valueL (l : List S_Block) (id : Int) : Int := match l.find? (fun b => b.Id == id) with | some b => b.Value | none => 0
theorem goB_ok (pos : List Int) : ∀ (l : List S_Block) (ids r : List Int), goB pos l ids = some r → ∀ b ∈ l, okB pos b = true
  | [], _, _, _, b, hb => by simp at hb
  | x :: l, ids, r, h, b, hb => by
    simp only [goB] at h
    cases hc : okB pos x && !ids.contains x.Id
    · rw [hc] at h; cases h
    · rw [hc] at h
      simp only [Bool.and_eq_true] at hc
      rcases List.mem_cons.1 hb with rfl | hb
      · exact hc.1
      · exact goB_ok pos l _ r h b hb
theorem valueL_rng (pos : List Int) (l : List S_Block) (r : List Int) (h : goB pos l [] = some r) (id : Int) : 0 ≤ valueL l id ∧ valueL l id ≤ 999999 := by
  unfold valueL
  cases hf : l.find? (fun b => b.Id == id) with
  | none => simp
  | some b =>
    have := goB_ok pos l [] r h b (List.mem_of_find?_eq_some hf)
    unfold okB at this
    simp only [Bool.and_eq_true, inB_iff] at this
    exact this.2.2

def entL (keys : List Int) (bs : List S_Block) : Nat → List S_Entry
  | 0 => []
  | i + 1 => if keys.getD i 0 > 0 then putL (entL keys bs i) (keys.getD i 0) (valueL bs (i : Int)) else entL keys bs i
theorem keyP_at {l : List Int} (h : keysB l = true) {i : Nat} (hi : i < l.length) (hp : l.getD i 0 > 0) : l.getD i 0 ≤ 9999 ∧ l.getD i 0 ∉ l.take i := by
  have := List.all_eq_true.1 h i (List.mem_range.2 hi)
  unfold keyP at this
  simp only [Bool.and_eq_true, inB_iff, Bool.or_eq_true, beq_iff_eq, Bool.not_eq_true'] at this
  refine ⟨this.1.2, fun hm => ?_⟩
  rcases this.2 with h0 | h0
  · omega
  · rw [List.contains_iff_mem.2 hm] at h0; cases h0
theorem ent_inv (keys : List Int) (bs : List S_Block) (hk : keysB keys = true) (hl : keys.length ≤ 11) (hv : ∀ id, 0 ≤ valueL bs id ∧ valueL bs id ≤ 999999) : ∀ i, i ≤ keys.length → Sorted (entL keys bs i) ∧ (entL keys bs i).length ≤ i ∧ ∀ j, j < (entL keys bs i).length → ((entL keys bs i).getD j z_Entry).Key ∈ keys.take i
  | 0, _ => ⟨⟨by simp [entL], fun k hk => by simp [entL] at hk, fun k hk => by simp [entL] at hk, fun i j _ hj => by simp [entL] at hj⟩, Nat.le_refl _, fun j hj => by simp [entL] at hj⟩
  | i + 1, hi => by
    obtain ⟨h1, h2, h3⟩ := ent_inv keys bs hk hl hv i (by omega)
    have ht := take_snoc keys i (by omega) 0
    unfold entL
    by_cases hp : keys.getD i 0 > 0
    · obtain ⟨k1, k2⟩ := keyP_at hk (show i < keys.length by omega) hp
      have hf : found (entL keys bs i) (keys.getD i 0) = false := found_not (fun j hj e => k2 (e ▸ h3 j hj))
      rw [if_pos hp]
      have hlen := putL_len' (entL keys bs i) (keys.getD i 0) (valueL bs (i : Int))
      rw [hf] at hlen
      simp only [cond_false] at hlen
      refine ⟨sorted_put h1 ⟨by omega, k1⟩ (hv _) (by rw [hf]; simp only [Bool.not_false, Bool.true_and, beq_eq_false_iff_ne]; omega), by omega, fun j hj => ?_⟩
      rw [putL_get, ht]
      split
      · exact List.mem_append_left _ (h3 j (by have := place_le (entL keys bs i) (keys.getD i 0); omega))
      · split
        · exact List.mem_append_right _ (List.mem_singleton.2 rfl)
        · rw [hf]; exact List.mem_append_left _ (h3 _ (by simp only [cond_false]; omega))
    · rw [if_neg hp]
      exact ⟨h1, by omega, fun j hj => by rw [ht]; exact List.mem_append_left _ (h3 j hj)⟩
theorem ent_found (keys : List Int) (bs : List S_Block) (hk : keysB keys = true) (hl : keys.length ≤ 11) (hv : ∀ id, 0 ≤ valueL bs id ∧ valueL bs id ≤ 999999) (i : Nat) (hi : i < keys.length) (hp : keys.getD i 0 > 0) : found (entL keys bs i) (keys.getD i 0) = false := by
  obtain ⟨h1, h2, h3⟩ := ent_inv keys bs hk hl hv i (by omega)
  exact found_not (fun j hj e => (keyP_at hk hi hp).2 (e ▸ h3 j hj))

theorem ok_laws_szIntS (x : List Int) (n : Int) (h0 : 0 ≤ n) (h1 : n ≤ 1048576) (g : (x.length ≤ maxLen ∧ ∀ y : Int, y ∈ x → ((Lit.int .i64 y).wf = true))) : ∃ m, laws_szIntS.f x n = some m ∧ (m < 0 ∨ (0 ≤ m ∧ m ≤ n ∧ (x.length ≤ 1048576))) := by
  have hM : maxLen = 9223372036854775807 := rfl
  have g1 := g.1
  unfold laws_szIntS.f
  rw [w64_id (x := n - (x.length : Int)) (by omega) (by omega)]
  by_cases h : n - (x.length : Int) < 0
  · rw [decide_eq_true h]; exact ⟨_, rfl, .inl (by decide)⟩
  rw [decide_eq_false h]; simp only [cond_false]
  exact ⟨_, rfl, .inr ⟨by omega, by omega, by omega⟩⟩

theorem ok_laws_szBlockS (x : List S_Block) (n : Int) (h0 : 0 ≤ n) (h1 : n ≤ 1048576) (g : (x.length ≤ maxLen ∧ ∀ y : S_Block, y ∈ x → (((Lit.int .i64 y.Id).wf = true) ∧ ((Lit.int .i64 y.Leaf).wf = true) ∧ ((Lit.int .i64 y.Value).wf = true)))) : ∃ m, laws_szBlockS.f x n = some m ∧ (m < 0 ∨ (0 ≤ m ∧ m ≤ n ∧ (x.length ≤ 1048576))) := by
  have hM : maxLen = 9223372036854775807 := rfl
  have g1 := g.1
  unfold laws_szBlockS.f
  rw [w64_id (x := n - (x.length : Int)) (by omega) (by omega)]
  by_cases h : n - (x.length : Int) < 0
  · rw [decide_eq_true h]; exact ⟨_, rfl, .inl (by decide)⟩
  rw [decide_eq_false h]; simp only [cond_false]
  exact ⟨_, rfl, .inr ⟨by omega, by omega, by omega⟩⟩

theorem ok_laws_szBlockSS (x : List (List S_Block)) (n : Int) (h0 : 0 ≤ n) (h1 : n ≤ 1048576) (g : (x.length ≤ maxLen ∧ ∀ y : List S_Block, y ∈ x → (y.length ≤ maxLen ∧ ∀ y1 : S_Block, y1 ∈ y → (((Lit.int .i64 y1.Id).wf = true) ∧ ((Lit.int .i64 y1.Leaf).wf = true) ∧ ((Lit.int .i64 y1.Value).wf = true))))) : ∃ m, laws_szBlockSS.f x n = some m ∧ (m < 0 ∨ (0 ≤ m ∧ m ≤ n ∧ (x.length ≤ 1048576 ∧ ∀ z0 : List S_Block, z0 ∈ x → (z0.length ≤ 1048576)))) := by
  have hM : maxLen = 9223372036854775807 := rfl
  have g1 := g.1
  unfold laws_szBlockSS.f
  rw [w64_id (x := n - (x.length : Int)) (by omega) (by omega)]
  by_cases h : n - (x.length : Int) < 0
  · rw [decide_eq_true h]; exact ⟨_, rfl, .inl (by decide)⟩
  rw [decide_eq_false h]; simp only [cond_false]
  obtain ⟨r, e1, e2⟩ := loopO_wf (step := fun s : Int × Int => laws_szBlockSS.s0 x s.1 s.2) (fun s => ∃ k : Nat, ∃ m : Int, s = (m, (k : Int)) ∧ k ≤ x.length ∧ 0 ≤ m ∧ m ≤ n ∧ ∀ j, j < k → ((x.getD j []).length ≤ 1048576))
    (fun r : Ex Int Int => match r with | .out m => 0 ≤ m ∧ m ≤ n ∧ ∀ j, j < x.length → ((x.getD j []).length ≤ 1048576) | .ret m => m < 0) (fun s => x.length - s.2.toNat) (fun s hI => by
      obtain ⟨k, m, rfl, hk, m0, m1, hj⟩ := hI
      by_cases hlt : k < x.length
      · have gk := g.2 (x.getD k []) (getD_mem hlt _)
        simp only [laws_szBlockSS.s0, decide_eq_true (show (k : Int) < (x.length : Int) by omega), cond_true, if_pos (show (0 : Int) ≤ (k : Int) ∧ (k : Int) < (x.length : Int) by omega), Int.toNat_natCast]
        obtain ⟨m2, e3, h3⟩ := ok_laws_szBlockS (x.getD k []) m m0 (by omega) gk
        rw [e3]; simp only [Option.bind_some]
        rcases h3 with h3 | ⟨h3, h4, h5⟩
        · rw [decide_eq_true h3]; exact .inr ⟨.ret (-1), rfl, (by decide : (-1 : Int) < 0)⟩
        · rw [decide_eq_false (show ¬ m2 < 0 by omega), w64_id (x := (k : Int) + 1) (by omega) (by omega)]
          refine .inl ⟨(m2, ((k + 1 : Nat) : Int)), rfl, ⟨k + 1, _, rfl, by omega, h3, by omega, fun j hj2 => ?_⟩, by simp only [Int.toNat_natCast]; omega⟩
          rcases Nat.lt_or_ge j k with h | h
          · exact hj j h
          · have : j = k := by omega
            rw [this]; exact h5
      · refine .inr ⟨.out m, ?_, m0, m1, fun j hj2 => hj j (by omega)⟩
        simp only [laws_szBlockSS.s0]; rw [decide_eq_false (by omega)]; rfl) _ (n - (x.length : Int), 0) (Nat.le_refl _) ⟨0, _, rfl, Nat.zero_le _, by omega, by omega, fun j hj => by omega⟩
  rw [e1]
  cases r with
  | out m => exact ⟨m, rfl, .inr ⟨e2.1, e2.2.1, by omega, all_get e2.2.2⟩⟩
  | ret m => exact ⟨m, rfl, .inl e2⟩

theorem ok_laws_szOram (x : S_Oram) (n : Int) (h0 : 0 ≤ n) (h1 : n ≤ 1048576) (g : ((x.Pos.length ≤ maxLen ∧ ∀ y : Int, y ∈ x.Pos → ((Lit.int .i64 y).wf = true)) ∧ (x.Stash.length ≤ maxLen ∧ ∀ y : S_Block, y ∈ x.Stash → (((Lit.int .i64 y.Id).wf = true) ∧ ((Lit.int .i64 y.Leaf).wf = true) ∧ ((Lit.int .i64 y.Value).wf = true))) ∧ (x.Buckets.length ≤ maxLen ∧ ∀ y : List S_Block, y ∈ x.Buckets → (y.length ≤ maxLen ∧ ∀ y1 : S_Block, y1 ∈ y → (((Lit.int .i64 y1.Id).wf = true) ∧ ((Lit.int .i64 y1.Leaf).wf = true) ∧ ((Lit.int .i64 y1.Value).wf = true)))))) : ∃ m, laws_szOram.f x n = some m ∧ (m < 0 ∨ (0 ≤ m ∧ m ≤ n ∧ ((x.Pos.length ≤ 1048576) ∧ (x.Stash.length ≤ 1048576) ∧ (x.Buckets.length ≤ 1048576 ∧ ∀ z0 : List S_Block, z0 ∈ x.Buckets → (z0.length ≤ 1048576))))) := by
  have hM : maxLen = 9223372036854775807 := rfl
  unfold laws_szOram.f
  obtain ⟨m1, e1, c1⟩ := ok_laws_szIntS x.Pos n (by omega) (by omega) g.1
  rw [e1]; simp only [Option.bind_some]
  rcases c1 with c1 | ⟨p1, q1, r1⟩
  · rw [decide_eq_true c1]; exact ⟨_, rfl, .inl (by decide)⟩
  rw [decide_eq_false (show ¬ m1 < 0 by omega)]; simp only [cond_false]
  obtain ⟨m2, e2, c2⟩ := ok_laws_szBlockS x.Stash m1 (by omega) (by omega) g.2.1
  rw [e2]; simp only [Option.bind_some]
  rcases c2 with c2 | ⟨p2, q2, r2⟩
  · rw [decide_eq_true c2]; exact ⟨_, rfl, .inl (by decide)⟩
  rw [decide_eq_false (show ¬ m2 < 0 by omega)]; simp only [cond_false]
  obtain ⟨m3, e3, c3⟩ := ok_laws_szBlockSS x.Buckets m2 (by omega) (by omega) g.2.2
  rw [e3]; simp only [Option.bind_some]
  rcases c3 with c3 | ⟨p3, q3, r3⟩
  · rw [decide_eq_true c3]; exact ⟨_, rfl, .inl (by decide)⟩
  rw [decide_eq_false (show ¬ m3 < 0 by omega)]; simp only [cond_false]
  exact ⟨_, rfl, .inr ⟨by omega, by omega, r1, r2, r3⟩⟩

theorem ok_laws_szEnc (x : S_Enc) (n : Int) (h0 : 0 ≤ n) (h1 : n ≤ 1048576) (g : ((x.Keys.length ≤ maxLen ∧ ∀ y1 : Int, y1 ∈ x.Keys → ((Lit.int .i64 y1).wf = true)) ∧ ((x.Oram.Pos.length ≤ maxLen ∧ ∀ y : Int, y ∈ x.Oram.Pos → ((Lit.int .i64 y).wf = true)) ∧ (x.Oram.Stash.length ≤ maxLen ∧ ∀ y : S_Block, y ∈ x.Oram.Stash → (((Lit.int .i64 y.Id).wf = true) ∧ ((Lit.int .i64 y.Leaf).wf = true) ∧ ((Lit.int .i64 y.Value).wf = true))) ∧ (x.Oram.Buckets.length ≤ maxLen ∧ ∀ y : List S_Block, y ∈ x.Oram.Buckets → (y.length ≤ maxLen ∧ ∀ y1 : S_Block, y1 ∈ y → (((Lit.int .i64 y1.Id).wf = true) ∧ ((Lit.int .i64 y1.Leaf).wf = true) ∧ ((Lit.int .i64 y1.Value).wf = true))))))) : ∃ m, laws_szEnc.f x n = some m ∧ (m < 0 ∨ (0 ≤ m ∧ m ≤ n ∧ ((x.Keys.length ≤ 1048576) ∧ ((x.Oram.Pos.length ≤ 1048576) ∧ (x.Oram.Stash.length ≤ 1048576) ∧ (x.Oram.Buckets.length ≤ 1048576 ∧ ∀ z0 : List S_Block, z0 ∈ x.Oram.Buckets → (z0.length ≤ 1048576)))))) := by
  have hM : maxLen = 9223372036854775807 := rfl
  unfold laws_szEnc.f
  obtain ⟨m1, e1, c1⟩ := ok_laws_szIntS x.Keys n (by omega) (by omega) g.1
  rw [e1]; simp only [Option.bind_some]
  rcases c1 with c1 | ⟨p1, q1, r1⟩
  · rw [decide_eq_true c1]; exact ⟨_, rfl, .inl (by decide)⟩
  rw [decide_eq_false (show ¬ m1 < 0 by omega)]; simp only [cond_false]
  obtain ⟨m2, e2, c2⟩ := ok_laws_szOram x.Oram m1 (by omega) (by omega) g.2
  rw [e2]; simp only [Option.bind_some]
  rcases c2 with c2 | ⟨p2, q2, r2⟩
  · rw [decide_eq_true c2]; exact ⟨_, rfl, .inl (by decide)⟩
  rw [decide_eq_false (show ¬ m2 < 0 by omega)]; simp only [cond_false]
  exact ⟨_, rfl, .inr ⟨by omega, by omega, r1, r2⟩⟩

theorem l01In_eq (x lo hi : Int) : spec_l01In.f x lo hi = some (inB x lo hi) := by
  unfold spec_l01In.f inB; cases decide (lo ≤ x) <;> rfl

theorem l08Leaves_eq (l : List Int) (h : l.length ≤ 1073741824) : spec_l08Leaves.f l = some (l.all (fun x => inB x 0 7)) := by
  unfold spec_l08Leaves.f
  have := loopO_scan (step := fun s => spec_l08Leaves.s0 l s) (fun k => (k : Int)) l.length (fun k => inB (l.getD k 0) 0 7) (b := false) (t := ()) (fun k hk => by
    simp only [spec_l08Leaves.s0, l01In_eq, Option.bind_some, Int.toNat_natCast, decide_eq_true (show (k : Int) < (l.length : Int) by omega), cond_true, if_pos (show (0 : Int) ≤ (k : Int) ∧ (k : Int) < (l.length : Int) by omega)]
    rw [w64_id (by omega) (by omega)]
    cases inB (l.getD k 0) 0 7 <;> rfl) (by
    simp only [spec_l08Leaves.s0]
    rw [decide_eq_false (by omega)]; rfl)
  have t2 : loopO (fun s => spec_l08Leaves.s0 l s) 0 = _ := this
  rw [t2, all_range l 0 (fun x => inB x 0 7)]
  cases l.all (fun x => inB x 0 7) <;> rfl

theorem l08In_eq (l : List Int) (x : Int) (h : l.length ≤ 1073741824) : spec_l08In.f l x = some (l.contains x) := by
  unfold spec_l08In.f
  obtain ⟨r, h1, h2⟩ := loopO_wf (step := fun s => spec_l08In.s0 l x s) (fun s => ∃ i : Nat, s = (i : Int) ∧ i ≤ l.length ∧ (l.take i).contains x = false) (fun r => match r with | .out _ => l.contains x = false | .ret r => r = true ∧ l.contains x = true) (fun s => (l.length - s).toNat) (fun s hI => by
    obtain ⟨i, rfl, hi, ha⟩ := hI
    by_cases hlt : i < l.length
    · simp only [spec_l08In.s0, decide_eq_true (show (i : Int) < (l.length : Int) by omega), cond_true, if_pos (show (0 : Int) ≤ (i : Int) ∧ (i : Int) < (l.length : Int) by omega), Int.toNat_natCast]
      cases hc : (l.getD i 0 == x)
      · rw [w64_id (by omega) (by omega)]
        refine .inl ⟨_, rfl, ⟨i + 1, by omega, by omega, ?_⟩, by omega⟩
        rw [take_snoc l i hlt 0]
        have hne : ¬ x = l.getD i 0 := fun e => by rw [← e] at hc; simp at hc
        have hmem : x ∉ l.take i := fun hm => by rw [List.contains_iff_mem.2 hm] at ha; cases ha
        rw [← Bool.not_eq_true, List.contains_iff_mem, List.mem_append, List.mem_singleton]
        exact fun hq => hq.elim hmem hne
      · refine .inr ⟨_, rfl, rfl, ?_⟩
        have : l.getD i 0 = x := by simpa using hc
        rw [List.contains_iff_mem, ← this]
        exact getD_mem hlt 0
    · have e : i = l.length := by omega
      subst e
      rw [List.take_length] at ha
      simp only [spec_l08In.s0]
      rw [decide_eq_false (by omega)]
      exact .inr ⟨_, rfl, ha⟩) _ 0 (Nat.le_refl _) ⟨0, rfl, Nat.zero_le _, rfl⟩
  rw [h1]
  cases r with
  | out u => simp only [Option.bind_some, h2]
  | ret r => simp only [Option.bind_some, h2.1, h2.2]

theorem l08Block_eq (o : S_Oram) (b : S_Block) (ids : List Int) (hp : o.Pos.length = 12) (hi : ids.length ≤ 1073741824) : spec_l08Block.f o b ids = some (okB o.Pos b && !ids.contains b.Id) := by
  unfold spec_l08Block.f okB
  simp only [l01In_eq, l08In_eq ids b.Id hi, Option.bind_some]
  cases h1 : inB b.Id 0 11
  · rfl
  · have := inB_iff.1 h1
    simp only [cond_true]
    rw [if_pos (by omega)]
    cases (o.Pos.getD b.Id.toNat 0 == b.Leaf)
    · rfl
    · cases inB b.Value 0 999999 <;> rfl

theorem l08Path_step (l : List Int) (a : Int) (ha : 1 ≤ a ∧ a ≤ 100) (hl : l.length ≤ 100) : spec_l08Path.s0 l a = some (.inl ([a] ++ l, (a - 1) / 2)) := by
  have ht : Int.tdiv (a - 1) 2 = (a - 1) / 2 := Int.tdiv_eq_ediv_of_nonneg (by omega)
  have hw : IntKind.wrap .i64 (Int.tdiv (a - 1) 2) = (a - 1) / 2 := by rw [ht]; exact w64_id (by omega) (by omega)
  simp only [spec_l08Path.s0]
  rw [if_pos (by simp only [List.length_cons, List.length_nil]; omega), show (a == 0) = false by simp only [beq_eq_false_iff_ne]; omega, w64_id (x := a - 1) (by omega) (by omega), hw]
  rfl
theorem l08Path_eq (x : Int) (hx : 0 ≤ x ∧ x ≤ 7) : spec_l08Path.f x = some (pathL x) := by
  unfold spec_l08Path.f
  have e1 : (7 + x - 1) / 2 = up1 x := by unfold up1; congr 1; omega
  have u1 : 3 ≤ up1 x ∧ up1 x ≤ 6 := by unfold up1; omega
  have u2 : 1 ≤ up2 x ∧ up2 x ≤ 2 := by unfold up2; omega
  have e3 : (up2 x - 1) / 2 = 0 := by omega
  have h1 := l08Path_step [] (7 + x) (by omega) (by simp)
  have h2 := l08Path_step [7 + x] (up1 x) (by omega) (by simp)
  have h3 := l08Path_step [up1 x, 7 + x] (up2 x) (by omega) (by simp)
  rw [e1] at h1
  rw [show (up1 x - 1) / 2 = up2 x from rfl] at h2
  rw [e3] at h3
  have h4 : spec_l08Path.s0 [up2 x, up1 x, 7 + x] 0 = some (.inr (.ret (pathL x))) := by
    simp only [spec_l08Path.s0]
    rw [if_pos (by simp)]
    rfl
  rw [w64_id (by omega) (by omega)]
  rw [loopO_next (step := fun s : List Int × Int => spec_l08Path.s0 s.1 s.2) (s := ([], 7 + x)) h1, loopO_next (step := fun s : List Int × Int => spec_l08Path.s0 s.1 s.2) (s := ([7 + x] ++ [], up1 x)) h2, loopO_next (step := fun s : List Int × Int => spec_l08Path.s0 s.1 s.2) (s := ([up1 x] ++ [7 + x], up2 x)) h3, loopO_stop (step := fun s : List Int × Int => spec_l08Path.s0 s.1 s.2) (s := ([up2 x] ++ [up1 x, 7 + x], 0)) h4]
  rfl

theorem l08On_loop (l : List Int) (x : Int) (h : l.length ≤ 1073741824) : ((loopO (fun s => spec_l08On.s0 x l s) 0).bind fun o => match o with | .out _ => (some false) | .ret r => (some r)) = some (l.contains x) := by

  obtain ⟨r, h1, h2⟩ := loopO_wf (step := fun s => spec_l08On.s0 x l s) (fun s => ∃ i : Nat, s = (i : Int) ∧ i ≤ l.length ∧ (l.take i).contains x = false) (fun r => match r with | .out _ => l.contains x = false | .ret r => r = true ∧ l.contains x = true) (fun s => (l.length - s).toNat) (fun s hI => by
    obtain ⟨i, rfl, hi, ha⟩ := hI
    by_cases hlt : i < l.length
    · simp only [spec_l08On.s0, decide_eq_true (show (i : Int) < (l.length : Int) by omega), cond_true, if_pos (show (0 : Int) ≤ (i : Int) ∧ (i : Int) < (l.length : Int) by omega), Int.toNat_natCast]
      cases hc : (l.getD i 0 == x)
      · rw [w64_id (by omega) (by omega)]
        refine .inl ⟨_, rfl, ⟨i + 1, by omega, by omega, ?_⟩, by omega⟩
        rw [take_snoc l i hlt 0]
        have hne : ¬ x = l.getD i 0 := fun e => by rw [← e] at hc; simp at hc
        have hmem : x ∉ l.take i := fun hm => by rw [List.contains_iff_mem.2 hm] at ha; cases ha
        rw [← Bool.not_eq_true, List.contains_iff_mem, List.mem_append, List.mem_singleton]
        exact fun hq => hq.elim hmem hne
      · refine .inr ⟨_, rfl, rfl, ?_⟩
        have : l.getD i 0 = x := by simpa using hc
        rw [List.contains_iff_mem, ← this]
        exact getD_mem hlt 0
    · have e : i = l.length := by omega
      subst e
      rw [List.take_length] at ha
      simp only [spec_l08On.s0]
      rw [decide_eq_false (by omega)]
      exact .inr ⟨_, rfl, ha⟩) _ 0 (Nat.le_refl _) ⟨0, rfl, Nat.zero_le _, rfl⟩
  rw [h1]
  cases r with
  | out u => simp only [Option.bind_some, h2]
  | ret r => simp only [Option.bind_some, h2.1, h2.2]
theorem l08On_eq (i x : Int) (hx : 0 ≤ x ∧ x ≤ 7) : spec_l08On.f i x = some ((pathL x).contains i) := by
  unfold spec_l08On.f
  rw [l08Path_eq x hx]
  exact l08On_loop (pathL x) i (by simp [pathL])

theorem spec_stash (o : S_Oram) (hp : leavesOK o.Pos) (hl : o.Stash.length ≤ 12) : loopO (fun s : List Int × Int => spec_OramOK.s0 o s.1 s.2) (([] : List Int), 0) = some (match goB o.Pos o.Stash [] with | some r => .out r | none => .ret false) := by
  have hpl := hp.1
  obtain ⟨r, e1, e2⟩ := loopO_wf (step := fun s : List Int × Int => spec_OramOK.s0 o s.1 s.2) (fun s => ∃ i : Nat, s.2 = (i : Int) ∧ i ≤ o.Stash.length ∧ s.1.length = i ∧ goB o.Pos (o.Stash.drop i) s.1 = goB o.Pos o.Stash []) (fun r => r = match goB o.Pos o.Stash [] with | some r => Ex.out r | none => Ex.ret false) (fun s => (o.Stash.length - s.2).toNat) (fun s hI => by
    obtain ⟨ids, k⟩ := s
    obtain ⟨i, hk, hi, hlen, hg⟩ := hI
    simp only at hk hlen hg
    subst hk
    by_cases hlt : i < o.Stash.length
    · have hd : o.Stash.drop i = o.Stash.getD i z_Block :: o.Stash.drop (i + 1) := by rw [getD_lt hlt]; exact List.drop_eq_getElem_cons hlt
      rw [hd] at hg
      simp only [goB] at hg
      simp only [spec_OramOK.s0, decide_eq_true (show (i : Int) < (o.Stash.length : Int) by omega), cond_true, if_pos (show (0 : Int) ≤ (i : Int) ∧ (i : Int) < (o.Stash.length : Int) by omega), Int.toNat_natCast, l08Block_eq o (o.Stash.getD i z_Block) ids hpl (by omega), Option.bind_some]
      cases hc : (okB o.Pos (o.Stash.getD i z_Block) && !ids.contains (o.Stash.getD i z_Block).Id)
      · rw [hc] at hg
        exact .inr ⟨_, rfl, by rw [← hg]; rfl⟩
      · rw [hc] at hg
        simp only [Bool.not_true, cond_false]
        rw [if_pos (by simp only [List.length_cons, List.length_nil]; omega), w64_id (by omega) (by omega)]
        exact .inl ⟨_, rfl, ⟨i + 1, by simp only; omega, by omega, by simp only [List.length_append, List.length_cons, List.length_nil]; omega, hg⟩, by simp only; omega⟩
    · have e : i = o.Stash.length := by omega
      subst e
      rw [List.drop_length] at hg
      simp only [spec_OramOK.s0]
      rw [decide_eq_false (by omega)]
      exact .inr ⟨_, rfl, by rw [← hg]; rfl⟩) _ (([] : List Int), 0) (Nat.le_refl _) ⟨0, rfl, Nat.zero_le _, rfl, rfl⟩
  rw [e1, e2]
theorem spec_bucket (o : S_Oram) (hp : leavesOK o.Pos) (q : Nat) (hq : q < o.Buckets.length) (hq2 : o.Buckets.length ≤ 1048576) (ids : List Int) (hi : ids.length ≤ 1048576) (hl : (o.Buckets.getD q []).length ≤ 2) : loopO (fun s : List Int × Int => spec_OramOK.s2 o (q : Int) s.1 s.2) (ids, 0) = some (match goB o.Pos (o.Buckets.getD q []) ids with | some r => bif (o.Buckets.getD q []).all (onB q) then .out r else .ret false | none => .ret false) := by
  have hpl := hp.1
  obtain ⟨r, e1, e2⟩ := loopO_wf (step := fun s : List Int × Int => spec_OramOK.s2 o (q : Int) s.1 s.2) (fun s => ∃ i : Nat, s.2 = (i : Int) ∧ i ≤ (o.Buckets.getD q []).length ∧ s.1.length ≤ 1048576 + i ∧ goB o.Pos ((o.Buckets.getD q []).drop i) s.1 = goB o.Pos (o.Buckets.getD q []) ids ∧ ((o.Buckets.getD q []).take i).all (onB q) = true) (fun r => r = match goB o.Pos (o.Buckets.getD q []) ids with | some r => bif (o.Buckets.getD q []).all (onB q) then Ex.out r else Ex.ret false | none => Ex.ret false) (fun s => ((o.Buckets.getD q []).length - s.2).toNat) (fun s hI => by
    obtain ⟨idn, k⟩ := s
    obtain ⟨i, hk, hi2, hlen, hg, ha⟩ := hI
    simp only at hk hlen hg
    subst hk
    by_cases hlt : i < (o.Buckets.getD q []).length
    · have hd : (o.Buckets.getD q []).drop i = (o.Buckets.getD q []).getD i z_Block :: (o.Buckets.getD q []).drop (i + 1) := by rw [getD_lt hlt]; exact List.drop_eq_getElem_cons hlt
      rw [hd] at hg
      simp only [goB] at hg
      simp only [spec_OramOK.s2, if_pos (show (0 : Int) ≤ (q : Int) ∧ (q : Int) < (o.Buckets.length : Int) by omega), Int.toNat_natCast, decide_eq_true (show (i : Int) < ((o.Buckets.getD q []).length : Int) by omega), cond_true, if_pos (show (0 : Int) ≤ (i : Int) ∧ (i : Int) < ((o.Buckets.getD q []).length : Int) by omega), l08Block_eq o ((o.Buckets.getD q []).getD i z_Block) idn hpl (by omega), Option.bind_some]
      cases hc : (okB o.Pos ((o.Buckets.getD q []).getD i z_Block) && !idn.contains ((o.Buckets.getD q []).getD i z_Block).Id)
      · rw [hc] at hg
        exact .inr ⟨_, rfl, by rw [← hg]; rfl⟩
      · rw [hc] at hg
        simp only [Bool.and_eq_true] at hc
        have hlf := okB_leaf hp hc.1
        simp only [Bool.not_true, cond_false, l08On_eq (q : Int) _ hlf, Option.bind_some]
        have hon : onB q ((o.Buckets.getD q []).getD i z_Block) = (pathL ((o.Buckets.getD q []).getD i z_Block).Leaf).contains (q : Int) := by
          unfold onB; rw [inB_iff.2 hlf, Bool.true_and]
        cases hcc : (pathL ((o.Buckets.getD q []).getD i z_Block).Leaf).contains (q : Int)
        · refine .inr ⟨_, rfl, ?_⟩
          have hf : (o.Buckets.getD q []).all (onB q) = false := by
            rw [← Bool.not_eq_true, List.all_eq_true]
            intro h
            have := h _ (getD_mem hlt z_Block)
            rw [hon, hcc] at this; cases this
          rw [hf]
          cases goB o.Pos (o.Buckets.getD q []) ids <;> rfl
        · simp only [Bool.not_true, cond_false]
          rw [if_pos (by simp only [List.length_cons, List.length_nil]; omega), w64_id (by omega) (by omega)]
          refine .inl ⟨_, rfl, ⟨i + 1, by simp only; omega, by omega, by simp only [List.length_append, List.length_cons, List.length_nil]; omega, hg, ?_⟩, by simp only; omega⟩
          rw [take_snoc _ i hlt z_Block, List.all_append, ha]
          simp only [List.all_cons, List.all_nil, hon, hcc, Bool.and_self]
    · have e : i = (o.Buckets.getD q []).length := by omega
      rw [e, List.drop_length] at hg
      rw [e, List.take_length] at ha
      simp only [spec_OramOK.s2, if_pos (show (0 : Int) ≤ (q : Int) ∧ (q : Int) < (o.Buckets.length : Int) by omega), Int.toNat_natCast]
      rw [decide_eq_false (by omega)]
      exact .inr ⟨_, rfl, by rw [← hg, ha]; rfl⟩) _ (ids, 0) (Nat.le_refl _) ⟨0, rfl, Nat.zero_le _, by simp only; omega, rfl, rfl⟩
  rw [e1, e2]
theorem spec_OramOK_eq (o : S_Oram) (h1 : o.Pos.length ≤ 1073741824) (h3 : o.Buckets.length ≤ 1048576) : spec_OramOK.f o = some (oramB o) := by
  unfold spec_OramOK.f
  simp only [bne, l08Leaves_eq o.Pos h1, Option.bind_some]
  cases hp : ((o.Pos.length : Int) == 12)
  · unfold oramB; rw [hp]; rfl
  cases hl : o.Pos.all (fun x => inB x 0 7)
  · unfold oramB; rw [hl]; simp
  have hp' : o.Pos.length = 12 := by
    have : (o.Pos.length : Int) = 12 := by simpa using hp
    omega
  have hlv : leavesOK o.Pos := ⟨hp', fun y hy => inB_iff.1 (List.all_eq_true.1 hl y hy)⟩
  simp only [Bool.not_true, cond_false]
  by_cases hst : (o.Stash.length : Int) > 12
  · rw [decide_eq_true hst]
    have hn : (goB o.Pos (o.Stash ++ o.Buckets.flatten) []).isSome = false := by
      rw [goB_app]
      cases hg : goB o.Pos o.Stash [] with
      | none => rfl
      | some r => have := goB_le o.Pos o.Stash r hg; omega
    unfold oramB
    rw [hn, Bool.and_false]; rfl
  rw [decide_eq_false hst]
  simp only [cond_false]
  cases hb : ((o.Buckets.length : Int) == 15)
  · unfold oramB; rw [hb]; simp
  have hb' : o.Buckets.length = 15 := by
    have : (o.Buckets.length : Int) = 15 := by simpa using hb
    omega
  simp only [Bool.not_true, Option.bind_some, cond_false, spec_stash o hlv (by omega)]
  unfold oramB
  rw [hp, hl, hb, goB_app]
  simp only [Bool.true_and]
  cases hg : goB o.Pos o.Stash [] with
  | none => simp
  | some r0 =>
    obtain ⟨g1, g2, g3⟩ := goB_len o.Pos o.Stash [] r0 hg List.nodup_nil (by simp)
    simp only [List.length_nil] at g1
    simp only [Option.bind_some]
    obtain ⟨r, e1, e2⟩ := loopO_wf (step := fun s : List Int × Int => spec_OramOK.s1 o s.1 s.2) (fun s => ∃ i : Nat, s.2 = (i : Int) ∧ i ≤ 15 ∧ s.1.length ≤ 12 + 2 * i ∧ goB o.Pos (o.Buckets.drop i).flatten s.1 = goB o.Pos o.Buckets.flatten r0 ∧ (∀ k, k < i → (decide ((o.Buckets.getD k []).length ≤ 2) && (o.Buckets.getD k []).all (onB k)) = true))
      (fun r => match r with | .out _ => ((List.range o.Buckets.length).all (fun i => decide ((o.Buckets.getD i []).length ≤ 2) && (o.Buckets.getD i []).all (onB i)) && (goB o.Pos o.Buckets.flatten r0).isSome) = true | .ret b => b = false ∧ ((List.range o.Buckets.length).all (fun i => decide ((o.Buckets.getD i []).length ≤ 2) && (o.Buckets.getD i []).all (onB i)) && (goB o.Pos o.Buckets.flatten r0).isSome) = false) (fun s => (15 - s.2).toNat) (fun s hI => by
      obtain ⟨ids, k⟩ := s
      obtain ⟨i, hk, hi, hlen, hgo, hal⟩ := hI
      simp only at hk hlen hgo
      subst hk
      by_cases hlt : i < 15
      · have hib : i < o.Buckets.length := by omega
        have hd : o.Buckets.drop i = o.Buckets.getD i [] :: o.Buckets.drop (i + 1) := by rw [getD_lt hib]; exact List.drop_eq_getElem_cons hib
        rw [hd, List.flatten_cons, goB_app] at hgo
        have bad : (decide ((o.Buckets.getD i []).length ≤ 2) && (o.Buckets.getD i []).all (onB i)) = false → (List.range o.Buckets.length).all (fun i => decide ((o.Buckets.getD i []).length ≤ 2) && (o.Buckets.getD i []).all (onB i)) = false := fun hf => by
          rw [← Bool.not_eq_true, List.all_eq_true]
          intro h
          have := h i (List.mem_range.2 hib)
          rw [hf] at this; cases this
        simp only [spec_OramOK.s1, decide_eq_true (show (i : Int) < 15 by omega), cond_true, if_pos (show (0 : Int) ≤ (i : Int) ∧ (i : Int) < (o.Buckets.length : Int) by omega), Int.toNat_natCast]
        by_cases h2 : ((o.Buckets.getD i []).length : Int) > 2
        · rw [decide_eq_true h2]
          refine .inr ⟨_, rfl, rfl, ?_⟩
          rw [bad (by rw [decide_eq_false (show ¬ (o.Buckets.getD i []).length ≤ 2 by omega)]; rfl)]; rfl
        · rw [decide_eq_false h2]
          simp only [cond_false, spec_bucket o hlv i hib (by omega) ids (by omega) (by omega)]
          cases hgb : goB o.Pos (o.Buckets.getD i []) ids with
          | none =>
            rw [hgb] at hgo
            refine .inr ⟨_, rfl, rfl, ?_⟩
            rw [← hgo]; simp
          | some r1 =>
            rw [hgb] at hgo
            simp only [Option.bind_some] at hgo
            have hlr : r1.length = ids.length + (o.Buckets.getD i []).length := goB_len' o.Pos _ _ _ hgb
            cases ha : (o.Buckets.getD i []).all (onB i)
            · refine .inr ⟨_, rfl, rfl, ?_⟩
              rw [bad (by rw [ha, Bool.and_false])]; rfl
            · simp only [cond_true, Option.bind_some]
              rw [w64_id (by omega) (by omega)]
              refine .inl ⟨_, rfl, ⟨i + 1, by simp only; omega, by omega, by simp only; omega, hgo, fun k hk => ?_⟩, by simp only; omega⟩
              by_cases e : k = i
              · rw [e, ha, decide_eq_true (show (o.Buckets.getD i []).length ≤ 2 by omega)]; rfl
              · exact hal k (by omega)
      · have e : i = o.Buckets.length := by omega
        rw [e, List.drop_length] at hgo
        simp only [spec_OramOK.s1]
        rw [decide_eq_false (by omega)]
        refine .inr ⟨_, rfl, ?_⟩
        simp only [Bool.and_eq_true]
        refine ⟨List.all_eq_true.2 (fun k hk => hal k (by have := List.mem_range.1 hk; omega)), ?_⟩
        rw [← hgo]; rfl) _ (r0, 0) (Nat.le_refl _) ⟨0, rfl, Nat.zero_le _, by simp only; omega, rfl, fun k hk => by omega⟩
    rw [e1]
    cases r with
    | out u => simp only at e2; rw [e2]; rfl
    | ret b => simp only at e2; rw [e2.2, e2.1]; rfl

theorem spec_EncOK_eq (e : S_Enc) (hk : e.Keys.length ≤ 1048576) (h1 : e.Oram.Pos.length ≤ 1073741824) (h3 : e.Oram.Buckets.length ≤ 1048576) : spec_EncOK.f e = some (keysB e.Keys && (((e.Keys.length : Int) == 11) && oramB e.Oram)) := by
  unfold spec_EncOK.f
  have := loopO_scan (step := fun s => spec_EncOK.s0 e s) (fun k => (k : Int)) e.Keys.length (keyP e.Keys) (b := false) (t := ()) (fun k hkk => by
    simp only [spec_EncOK.s0, decide_eq_true (show (k : Int) < (e.Keys.length : Int) by omega), cond_true, if_pos (show (0 : Int) ≤ (k : Int) ∧ (k : Int) < (e.Keys.length : Int) by omega), if_pos (show (0 : Int) ≤ (k : Int) ∧ (k : Int) ≤ (e.Keys.length : Int) by omega), Int.toNat_natCast, l01In_eq, l08In_eq (e.Keys.take k) (e.Keys.getD k 0) (by rw [List.length_take]; omega), Option.bind_some]
    rw [w64_id (by omega) (by omega)]
    unfold keyP
    cases h9 : inB (e.Keys.getD k 0) 0 9999
    · rfl
    · have h9' := inB_iff.1 h9
      by_cases h0 : e.Keys.getD k 0 > 0
      · rw [decide_eq_true h0, show (e.Keys.getD k 0 == 0) = false by simp only [beq_eq_false_iff_ne]; omega]
        cases (e.Keys.take k).contains (e.Keys.getD k 0) <;> rfl
      · rw [decide_eq_false h0, show (e.Keys.getD k 0 == 0) = true by simp only [beq_iff_eq]; omega]
        rfl) (by
    simp only [spec_EncOK.s0]
    rw [decide_eq_false (by omega)]; rfl)
  have this : loopO (fun s => spec_EncOK.s0 e s) 0 = _ := this
  simp only [bne, spec_OramOK_eq e.Oram h1 h3, this, Option.bind_some]
  unfold keysB
  cases ((e.Keys.length : Int) == 11) <;> cases oramB e.Oram <;> cases (List.range e.Keys.length).all (keyP e.Keys) <;> rfl

theorem l10Put_eq (l : List S_Entry) (k v : Int) (hs : Sorted l) : spec_l10Put.f l k v = some (putL l k v) := by
  have hp := place_le l k
  have hsh := hs.short
  unfold spec_l10Put.f
  have := loopO_run (step := fun s => spec_l10Put.s0 l k s) (fun t => (t : Int)) (place l k) (r := .out ((place l k : Nat) : Int)) (fun t ht => by
    have h3 := place_lt ht
    simp only [spec_l10Put.s0, decide_eq_true (show (t : Int) < (l.length : Int) by omega), cond_true, if_pos (show (0 : Int) ≤ (t : Int) ∧ (t : Int) < (l.length : Int) by omega), Int.toNat_natCast, Option.bind_some, decide_eq_true h3]
    rw [w64_id (by omega) (by omega)]; rfl) (by
    by_cases h : place l k < l.length
    · have h4 := place_ge h
      simp only [spec_l10Put.s0, decide_eq_true (show ((place l k : Nat) : Int) < (l.length : Int) by omega), cond_true, if_pos (show (0 : Int) ≤ ((place l k : Nat) : Int) ∧ ((place l k : Nat) : Int) < (l.length : Int) by omega), Int.toNat_natCast, Option.bind_some]
      rw [decide_eq_false (by omega)]; rfl
    · simp only [spec_l10Put.s0]
      rw [decide_eq_false (by omega)]; rfl)
  rw [show ((0 : Int)) = ((0 : Nat) : Int) from rfl, this]
  have e1 : (bif decide (((place l k : Nat) : Int) < (l.length : Int)) then (if (0 : Int) ≤ ((place l k : Nat) : Int) ∧ ((place l k : Nat) : Int) < (l.length : Int) then (some (((l.getD (((place l k : Nat) : Int)).toNat z_Entry).Key) == k)) else none) else (some false)) = some (found l k) := by
    unfold found
    by_cases h : place l k < l.length
    · rw [decide_eq_true h, decide_eq_true (show ((place l k : Nat) : Int) < (l.length : Int) by omega)]
      simp only [cond_true, if_pos (show (0 : Int) ≤ ((place l k : Nat) : Int) ∧ ((place l k : Nat) : Int) < (l.length : Int) by omega), Int.toNat_natCast, Bool.true_and]
    · rw [decide_eq_false h, decide_eq_false (show ¬ ((place l k : Nat) : Int) < (l.length : Int) by omega)]; rfl
  simp only [Option.bind_some, if_pos (show ((0 : Nat) : Int) ≤ ((place l k : Nat) : Int) ∧ ((place l k : Nat) : Int) ≤ (l.length : Int) by omega)]
  have e1' := e1
  simp only [show (0 : Int) = ((0 : Nat) : Int) from rfl] at e1'
  first
    | rw [e1]
    | rw [e1']
  simp only [Option.bind_some]
  unfold putL
  cases hf : found l k
  · simp only [cond_false, Option.bind_some, Int.toNat_natCast]
    rw [if_pos (by simp only [List.length_take, List.length_nil]; omega), if_pos (by simp only [List.length_append, List.length_take, List.length_nil, List.length_cons]; omega), if_pos (by simp only [List.length_append, List.length_take, List.length_nil, List.length_cons, List.length_drop]; omega), List.nil_append]
  · obtain ⟨h1, h2⟩ := found_lt hf
    simp only [cond_true]
    rw [w64_id (by omega) (by omega), if_pos (by omega), show ((place l k : Nat) : Int) + 1 = ((place l k + 1 : Nat) : Int) by omega]
    simp only [Option.bind_some, Int.toNat_natCast]
    rw [if_pos (by simp only [List.length_take, List.length_nil]; omega), if_pos (by simp only [List.length_append, List.length_take, List.length_nil, List.length_cons]; omega), if_pos (by simp only [List.length_append, List.length_take, List.length_nil, List.length_cons, List.length_drop]; omega), List.nil_append]

theorem value_stash (o : S_Oram) (id : Int) (h : o.Stash.length ≤ 1073741824) : ∃ r, loopO (fun s => spec_l08Value.s0 o id s) 0 = some r ∧ (match r with | .out _ => o.Stash.find? (fun b => b.Id == id) = none | .ret v => ∃ b, o.Stash.find? (fun b => b.Id == id) = some b ∧ v = b.Value) := by
  refine loopO_wf (step := fun s => spec_l08Value.s0 o id s) (fun s => ∃ i : Nat, s = (i : Int) ∧ i ≤ o.Stash.length ∧ (o.Stash.drop i).find? (fun b => b.Id == id) = o.Stash.find? (fun b => b.Id == id)) _ (fun s => (o.Stash.length - s).toNat) (fun s hI => ?_) _ 0 (Nat.le_refl _) ⟨0, rfl, Nat.zero_le _, rfl⟩
  obtain ⟨i, rfl, hi, hv⟩ := hI
  by_cases hlt : i < o.Stash.length
  · have hd : o.Stash.drop i = o.Stash.getD i z_Block :: o.Stash.drop (i + 1) := by rw [getD_lt hlt]; exact List.drop_eq_getElem_cons hlt
    rw [hd] at hv
    simp only [spec_l08Value.s0, decide_eq_true (show (i : Int) < (o.Stash.length : Int) by omega), cond_true, if_pos (show (0 : Int) ≤ (i : Int) ∧ (i : Int) < (o.Stash.length : Int) by omega), Int.toNat_natCast]
    cases hc : ((o.Stash.getD i z_Block).Id == id)
    · rw [w64_id (by omega) (by omega)]
      refine .inl ⟨_, rfl, ⟨i + 1, by omega, by omega, ?_⟩, by omega⟩
      rw [← hv, List.find?_cons, hc]
    · refine .inr ⟨_, rfl, _, ?_, rfl⟩
      rw [← hv, List.find?_cons, hc]
  · have e : i = o.Stash.length := by omega
    subst e
    rw [List.drop_length] at hv
    simp only [spec_l08Value.s0]
    rw [decide_eq_false (by omega)]
    exact .inr ⟨_, rfl, by rw [← hv]; rfl⟩
theorem value_bucket (o : S_Oram) (id : Int) (q : Nat) (hq : q < o.Buckets.length) (h : (o.Buckets.getD q []).length ≤ 1073741824) : ∃ r, loopO (fun s => spec_l08Value.s2 o id (q : Int) s) 0 = some r ∧ (match r with | .out _ => (o.Buckets.getD q []).find? (fun b => b.Id == id) = none | .ret v => ∃ b, (o.Buckets.getD q []).find? (fun b => b.Id == id) = some b ∧ v = b.Value) := by
  refine loopO_wf (step := fun s => spec_l08Value.s2 o id (q : Int) s) (fun s => ∃ i : Nat, s = (i : Int) ∧ i ≤ (o.Buckets.getD q []).length ∧ ((o.Buckets.getD q []).drop i).find? (fun b => b.Id == id) = (o.Buckets.getD q []).find? (fun b => b.Id == id)) _ (fun s => ((o.Buckets.getD q []).length - s).toNat) (fun s hI => ?_) _ 0 (Nat.le_refl _) ⟨0, rfl, Nat.zero_le _, rfl⟩
  obtain ⟨i, rfl, hi, hv⟩ := hI
  by_cases hlt : i < (o.Buckets.getD q []).length
  · have hd : (o.Buckets.getD q []).drop i = (o.Buckets.getD q []).getD i z_Block :: (o.Buckets.getD q []).drop (i + 1) := by rw [getD_lt hlt]; exact List.drop_eq_getElem_cons hlt
    rw [hd] at hv
    simp only [spec_l08Value.s2, if_pos (show (0 : Int) ≤ (q : Int) ∧ (q : Int) < (o.Buckets.length : Int) by omega), Int.toNat_natCast, decide_eq_true (show (i : Int) < ((o.Buckets.getD q []).length : Int) by omega), cond_true, if_pos (show (0 : Int) ≤ (i : Int) ∧ (i : Int) < ((o.Buckets.getD q []).length : Int) by omega)]
    cases hc : (((o.Buckets.getD q []).getD i z_Block).Id == id)
    · rw [w64_id (by omega) (by omega)]
      refine .inl ⟨_, rfl, ⟨i + 1, by omega, by omega, ?_⟩, by omega⟩
      rw [← hv, List.find?_cons, hc]
    · refine .inr ⟨_, rfl, _, ?_, rfl⟩
      rw [← hv, List.find?_cons, hc]
  · have e : i = (o.Buckets.getD q []).length := by omega
    rw [e, List.drop_length] at hv
    simp only [spec_l08Value.s2, if_pos (show (0 : Int) ≤ (q : Int) ∧ (q : Int) < (o.Buckets.length : Int) by omega), Int.toNat_natCast]
    rw [decide_eq_false (by omega)]
    exact .inr ⟨_, rfl, by rw [← hv]; rfl⟩
theorem l08Value_eq (o : S_Oram) (id : Int) (h : o.Stash.length ≤ 1073741824) (hb : o.Buckets.length ≤ 1048576) (hb2 : ∀ y, y ∈ o.Buckets → y.length ≤ 1073741824) : spec_l08Value.f o id = some (valueL (o.Stash ++ o.Buckets.flatten) id) := by
  unfold spec_l08Value.f
  obtain ⟨r, e1, e2⟩ := value_stash o id h
  rw [e1]
  cases r with
  | ret v =>
    obtain ⟨b, hf, rfl⟩ := e2
    simp only [Option.bind_some]
    unfold valueL
    rw [List.find?_append, hf]; rfl
  | out u =>
    simp only at e2
    have hval : ∀ l : List S_Block, valueL (o.Stash ++ l) id = valueL l id := fun l => by
      unfold valueL; rw [List.find?_append, e2]; rfl
    rw [hval]
    obtain ⟨r, f1, f2⟩ := loopO_wf (step := fun s => spec_l08Value.s1 o id s) (fun s => ∃ i : Nat, s = (i : Int) ∧ i ≤ o.Buckets.length ∧ valueL (o.Buckets.drop i).flatten id = valueL o.Buckets.flatten id) (fun r => match r with | .out _ => valueL o.Buckets.flatten id = 0 | .ret v => valueL o.Buckets.flatten id = v) (fun s => (o.Buckets.length - s).toNat) (fun s hI => by
      obtain ⟨i, rfl, hi, hv⟩ := hI
      by_cases hlt : i < o.Buckets.length
      · have hd : o.Buckets.drop i = o.Buckets.getD i [] :: o.Buckets.drop (i + 1) := by rw [getD_lt hlt]; exact List.drop_eq_getElem_cons hlt
        rw [hd, List.flatten_cons] at hv
        obtain ⟨r, g1, g2⟩ := value_bucket o id i hlt (hb2 _ (getD_mem hlt []))
        simp only [spec_l08Value.s1, decide_eq_true (show (i : Int) < (o.Buckets.length : Int) by omega), cond_true, g1, Option.bind_some]
        cases r with
        | out u =>
          simp only at g2
          rw [w64_id (by omega) (by omega)]
          refine .inl ⟨_, rfl, ⟨i + 1, by omega, by omega, ?_⟩, by omega⟩
          rw [← hv]; unfold valueL; rw [List.find?_append, g2]; rfl
        | ret v =>
          obtain ⟨b, g3, rfl⟩ := g2
          refine .inr ⟨_, rfl, ?_⟩
          rw [← hv]; unfold valueL; rw [List.find?_append, g3]; rfl
      · have e : i = o.Buckets.length := by omega
        subst e
        rw [List.drop_length] at hv
        simp only [spec_l08Value.s1]
        rw [decide_eq_false (by omega)]
        exact .inr ⟨_, rfl, by rw [← hv]; rfl⟩) _ 0 (Nat.le_refl _) ⟨0, rfl, Nat.zero_le _, rfl⟩
    simp only [Option.bind_some]
    rw [f1]
    cases r with
    | out u => simp only at f2; simp only [Option.bind_some, f2]
    | ret v => simp only at f2; simp only [Option.bind_some, f2]

theorem l11Map_eq (x : S_Enc) (bs : List S_Block) (hbs : bs = x.Oram.Stash ++ x.Oram.Buckets.flatten) (hk : keysB x.Keys = true) (hl : x.Keys.length ≤ 11) (hv : ∀ id, 0 ≤ valueL bs id ∧ valueL bs id ≤ 999999) (h : x.Oram.Stash.length ≤ 1073741824) (hb : x.Oram.Buckets.length ≤ 1048576) (hb2 : ∀ y, y ∈ x.Oram.Buckets → y.length ≤ 1073741824) : spec_l11Map.f x = some (entL x.Keys bs x.Keys.length) := by
  unfold spec_l11Map.f
  have := loopO_run (step := fun s : List S_Entry × Int => spec_l11Map.s0 x s.1 s.2) (fun i => (entL x.Keys bs i, (i : Int))) x.Keys.length (r := .out (entL x.Keys bs x.Keys.length)) (fun i hi => by
    have hs := (ent_inv x.Keys bs hk hl hv i (by omega)).1
    simp only [spec_l11Map.s0, decide_eq_true (show (i : Int) < (x.Keys.length : Int) by omega), cond_true, if_pos (show (0 : Int) ≤ (i : Int) ∧ (i : Int) < (x.Keys.length : Int) by omega), Int.toNat_natCast, l08Value_eq x.Oram (i : Int) h hb hb2, ← hbs, Option.bind_some, l10Put_eq _ _ _ hs]
    rw [w64_id (by omega) (by omega)]
    by_cases hp : x.Keys.getD i 0 > 0
    · rw [decide_eq_true hp]; simp only [entL, if_pos hp, cond_true, Option.bind_some]; rfl
    · rw [decide_eq_false hp]; simp only [entL, if_neg hp, cond_false, Option.bind_some]; rfl) (by
    simp only [spec_l11Map.s0]
    rw [decide_eq_false (by omega)]; rfl)
  have t : loopO (fun s : List S_Entry × Int => spec_l11Map.s0 x s.1 s.2) (([] : List S_Entry), 0) = _ := this
  rw [t]; rfl

theorem id_laws_toIntS (x : List Int) (h : x.length ≤ 1048576) : laws_toIntS.f x = some x := by
  have hlen : x.length ≤ 1048576 := h
  unfold laws_toIntS.f
  rw [if_pos (by omega)]
  have h0 : ((x.length : Int)).toNat = x.length := by simp
  rw [h0, ← filled_zero x 0]
  have := loopO_run (step := fun s => laws_toIntS.s0 x s.1 s.2) (fun k => (filled x 0 k, (k : Int))) x.length (r := .out x) (fun k hk => by
    have hl := filled_len x 0 k (by omega)
    simp only [laws_toIntS.s0, decide_eq_true (show (k : Int) < (x.length : Int) by omega), cond_true, if_pos (show (0 : Int) ≤ (k : Int) ∧ (k : Int) < (x.length : Int) by omega), Option.bind_some, if_pos (show (0 : Int) ≤ (k : Int) ∧ (k : Int) < ((filled x 0 k).length : Int) by omega), Int.toNat_natCast]
    rw [w64_id (by omega) (by omega), filled_set x 0 k hk]
    rfl) (by
    simp only [laws_toIntS.s0, filled_all]
    rw [decide_eq_false (by omega)]; rfl)
  have this2 : loopO (fun s => laws_toIntS.s0 x s.1 s.2) (filled x 0 0, 0) = some (.out x) := this
  rw [this2]
  rfl

theorem id_laws_toBlock (x : S_Block) : laws_toBlock.f x = some x := by
  unfold laws_toBlock.f
  rfl

theorem id_laws_toBlockS (x : List S_Block) (h : x.length ≤ 1048576) : laws_toBlockS.f x = some x := by
  have hlen : x.length ≤ 1048576 := h
  unfold laws_toBlockS.f
  rw [if_pos (by omega)]
  have h0 : ((x.length : Int)).toNat = x.length := by simp
  rw [h0, ← filled_zero x z_Block]
  have := loopO_run (step := fun s => laws_toBlockS.s0 x s.1 s.2) (fun k => (filled x z_Block k, (k : Int))) x.length (r := .out x) (fun k hk => by
    have hl := filled_len x z_Block k (by omega)
    simp only [laws_toBlockS.s0, id_laws_toBlock (x.getD k z_Block), decide_eq_true (show (k : Int) < (x.length : Int) by omega), cond_true, if_pos (show (0 : Int) ≤ (k : Int) ∧ (k : Int) < (x.length : Int) by omega), Option.bind_some, if_pos (show (0 : Int) ≤ (k : Int) ∧ (k : Int) < ((filled x z_Block k).length : Int) by omega), Int.toNat_natCast]
    rw [w64_id (by omega) (by omega), filled_set x z_Block k hk]
    rfl) (by
    simp only [laws_toBlockS.s0, filled_all]
    rw [decide_eq_false (by omega)]; rfl)
  have this2 : loopO (fun s => laws_toBlockS.s0 x s.1 s.2) (filled x z_Block 0, 0) = some (.out x) := this
  rw [this2]
  rfl

theorem id_laws_toBlockSS (x : List (List S_Block)) (h : x.length ≤ 1048576 ∧ ∀ z0 : List S_Block, z0 ∈ x → (z0.length ≤ 1048576)) : laws_toBlockSS.f x = some x := by
  have hlen : x.length ≤ 1048576 := h.1
  unfold laws_toBlockSS.f
  rw [if_pos (by omega)]
  have h0 : ((x.length : Int)).toNat = x.length := by simp
  rw [h0, ← filled_zero x []]
  have := loopO_run (step := fun s => laws_toBlockSS.s0 x s.1 s.2) (fun k => (filled x [] k, (k : Int))) x.length (r := .out x) (fun k hk => by
    have hl := filled_len x [] k (by omega)
    simp only [laws_toBlockSS.s0, id_laws_toBlockS (x.getD k []) (h.2 _ (getD_mem hk _)), decide_eq_true (show (k : Int) < (x.length : Int) by omega), cond_true, if_pos (show (0 : Int) ≤ (k : Int) ∧ (k : Int) < (x.length : Int) by omega), Option.bind_some, if_pos (show (0 : Int) ≤ (k : Int) ∧ (k : Int) < ((filled x [] k).length : Int) by omega), Int.toNat_natCast]
    rw [w64_id (by omega) (by omega), filled_set x [] k hk]
    rfl) (by
    simp only [laws_toBlockSS.s0, filled_all]
    rw [decide_eq_false (by omega)]; rfl)
  have this2 : loopO (fun s => laws_toBlockSS.s0 x s.1 s.2) (filled x [] 0, 0) = some (.out x) := this
  rw [this2]
  rfl

theorem id_laws_toOram (x : S_Oram) (h : (x.Pos.length ≤ 1048576) ∧ (x.Stash.length ≤ 1048576) ∧ (x.Buckets.length ≤ 1048576 ∧ ∀ z0 : List S_Block, z0 ∈ x.Buckets → (z0.length ≤ 1048576))) : laws_toOram.f x = some x := by
  unfold laws_toOram.f
  simp only [id_laws_toIntS x.Pos h.1, id_laws_toBlockS x.Stash h.2.1, id_laws_toBlockSS x.Buckets h.2.2, Option.bind_some]

theorem id_laws_toEnc (x : S_Enc) (h : (x.Keys.length ≤ 1048576) ∧ ((x.Oram.Pos.length ≤ 1048576) ∧ (x.Oram.Stash.length ≤ 1048576) ∧ (x.Oram.Buckets.length ≤ 1048576 ∧ ∀ z0 : List S_Block, z0 ∈ x.Oram.Buckets → (z0.length ≤ 1048576)))) : laws_toEnc.f x = some x := by
  unfold laws_toEnc.f
  simp only [id_laws_toIntS x.Keys h.1, id_laws_toOram x.Oram h.2, Option.bind_some]

theorem within_eq (x lo hi : Int) : impl_within.f x lo hi = some (inB x lo hi) := by
  unfold impl_within.f inB; cases decide (lo ≤ x) <;> rfl

theorem isLeaf_eq (x : Int) : impl_isLeaf.f x = some (inB x 0 7) := by unfold impl_isLeaf.f; rw [within_eq]; rfl

theorem idx_slices_IndexFunc_int_int (l : List Int) (q : Int → Option Bool) (p : Int → Bool) (h : l.length ≤ 1073741824) (hq : ∀ x, x ∈ l → q x = some (p x)) : slices_IndexFunc_int_int.f l q = some (idxOf l 0 p) := by
  unfold slices_IndexFunc_int_int.f idxOf
  have := loopO_find (step := fun s => slices_IndexFunc_int_int.s0 l q s) (fun k => (k : Int)) l.length (fun k => p (l.getD k 0)) (fun k => (k : Int)) (t := ()) (fun k hk => by
    simp only [slices_IndexFunc_int_int.s0, decide_eq_true (show (k : Int) < (l.length : Int) by omega), cond_true, if_pos (show (0 : Int) ≤ (k : Int) ∧ (k : Int) < (l.length : Int) by omega), Int.toNat_natCast, hq _ (getD_mem hk _), Option.bind_some]
    rw [w64_id (by omega) (by omega)]
    cases p (l.getD k 0) <;> rfl) (by
    simp only [slices_IndexFunc_int_int.s0]
    rw [decide_eq_false (by omega)]; rfl)
  rw [show ((0 : Int)) = ((0 : Nat) : Int) from rfl, this]
  cases (List.range l.length).find? (fun k => p (l.getD k 0)) <;> rfl

theorem any_slices_ContainsFunc_int_int (l : List Int) (q : Int → Option Bool) (p : Int → Bool) (h : l.length ≤ 1073741824) (hq : ∀ x, x ∈ l → q x = some (p x)) : slices_ContainsFunc_int_int.f l q = some (l.any p) := by
  unfold slices_ContainsFunc_int_int.f
  rw [idx_slices_IndexFunc_int_int l q p h hq, ← idxOf_any l 0 p]
  rfl

theorem all_impl_areAll_int (l : List Int) (q : Int → Option Bool) (p : Int → Bool) (h : l.length ≤ 1073741824) (hq : ∀ x, x ∈ l → q x = some (p x)) : impl_areAll_int.f l q = some (l.all p) := by
  unfold impl_areAll_int.f
  rw [any_slices_ContainsFunc_int_int l _ (fun x => !p x) h (fun x hx => by unfold impl_areAll_int__c1.f; rw [hq x hx]; rfl)]
  simp only [Option.bind_some, List.any_eq_not_all_not, Bool.not_not]

theorem idx_slices_IndexFunc_impl_Block_impl_Block (l : List S_Block) (q : S_Block → Option Bool) (p : S_Block → Bool) (h : l.length ≤ 1073741824) (hq : ∀ x, x ∈ l → q x = some (p x)) : slices_IndexFunc_impl_Block_impl_Block.f l q = some (idxOf l z_Block p) := by
  unfold slices_IndexFunc_impl_Block_impl_Block.f idxOf
  have := loopO_find (step := fun s => slices_IndexFunc_impl_Block_impl_Block.s0 l q s) (fun k => (k : Int)) l.length (fun k => p (l.getD k z_Block)) (fun k => (k : Int)) (t := ()) (fun k hk => by
    simp only [slices_IndexFunc_impl_Block_impl_Block.s0, decide_eq_true (show (k : Int) < (l.length : Int) by omega), cond_true, if_pos (show (0 : Int) ≤ (k : Int) ∧ (k : Int) < (l.length : Int) by omega), Int.toNat_natCast, hq _ (getD_mem hk _), Option.bind_some]
    rw [w64_id (by omega) (by omega)]
    cases p (l.getD k z_Block) <;> rfl) (by
    simp only [slices_IndexFunc_impl_Block_impl_Block.s0]
    rw [decide_eq_false (by omega)]; rfl)
  rw [show ((0 : Int)) = ((0 : Nat) : Int) from rfl, this]
  cases (List.range l.length).find? (fun k => p (l.getD k z_Block)) <;> rfl

theorem any_slices_ContainsFunc_impl_Block_impl_Block (l : List S_Block) (q : S_Block → Option Bool) (p : S_Block → Bool) (h : l.length ≤ 1073741824) (hq : ∀ x, x ∈ l → q x = some (p x)) : slices_ContainsFunc_impl_Block_impl_Block.f l q = some (l.any p) := by
  unfold slices_ContainsFunc_impl_Block_impl_Block.f
  rw [idx_slices_IndexFunc_impl_Block_impl_Block l q p h hq, ← idxOf_any l z_Block p]
  rfl

theorem all_impl_areAll_impl_Block (l : List S_Block) (q : S_Block → Option Bool) (p : S_Block → Bool) (h : l.length ≤ 1073741824) (hq : ∀ x, x ∈ l → q x = some (p x)) : impl_areAll_impl_Block.f l q = some (l.all p) := by
  unfold impl_areAll_impl_Block.f
  rw [any_slices_ContainsFunc_impl_Block_impl_Block l _ (fun x => !p x) h (fun x hx => by unfold impl_areAll_impl_Block__c1.f; rw [hq x hx]; rfl)]
  simp only [Option.bind_some, List.any_eq_not_all_not, Bool.not_not]

theorem rev4 (a b c d : Int) : slices_Reverse_int_int.f [a, b, c, d] = some [d, c, b, a] := by
  unfold slices_Reverse_int_int.f
  have h1 : slices_Reverse_int_int.s0 [a, b, c, d] [a, b, c, d] 0 3 = some (.inl ([d, b, c, a], 1, 2)) := rfl
  have h2 : slices_Reverse_int_int.s0 [a, b, c, d] [d, b, c, a] 1 2 = some (.inl ([d, c, b, a], 2, 1)) := rfl
  have h3 : slices_Reverse_int_int.s0 [a, b, c, d] [d, c, b, a] 2 1 = some (.inr (.out [d, c, b, a])) := rfl
  have hi : w64 ((([a, b, c, d] : List Int).length : Int) - 1) = 3 := rfl
  rw [hi, loopO_next (s := ([a, b, c, d], 0, 3)) h1, loopO_next (s := ([d, b, c, a], 1, 2)) h2, loopO_stop (s := ([d, c, b, a], 2, 1)) h3]
  rfl

theorem pathOf_step (l : List Int) (a : Int) (ha : 1 ≤ a ∧ a ≤ 100) (hl : l.length ≤ 100) : impl_pathOf.s0 l a = some (.inl (l ++ [a], (a - 1) / 2)) := by
  have ht : Int.tdiv (a - 1) 2 = (a - 1) / 2 := Int.tdiv_eq_ediv_of_nonneg (by omega)
  have hw : IntKind.wrap .i64 (Int.tdiv (a - 1) 2) = (a - 1) / 2 := by rw [ht]; exact w64_id (by omega) (by omega)
  simp only [impl_pathOf.s0]
  rw [if_pos (by simp only [List.length_cons, List.length_nil]; omega), show (a == 0) = false by simp only [beq_eq_false_iff_ne]; omega, w64_id (x := a - 1) (by omega) (by omega), hw]
  rfl
theorem pathOf_eq (x : Int) (hx : 0 ≤ x ∧ x ≤ 7) : impl_pathOf.f x = some (pathL x) := by
  unfold impl_pathOf.f
  have e1 : (7 + x - 1) / 2 = up1 x := by unfold up1; congr 1; omega
  have u1 : 3 ≤ up1 x ∧ up1 x ≤ 6 := by unfold up1; omega
  have u2 : 1 ≤ up2 x ∧ up2 x ≤ 2 := by unfold up2; omega
  have e3 : (up2 x - 1) / 2 = 0 := by omega
  have h1 := pathOf_step [] (7 + x) (by omega) (by simp)
  have h2 := pathOf_step [7 + x] (up1 x) (by omega) (by simp)
  have h3 := pathOf_step [7 + x, up1 x] (up2 x) (by omega) (by simp)
  rw [e1] at h1
  rw [show (up1 x - 1) / 2 = up2 x from rfl] at h2
  rw [e3] at h3
  have h4 : impl_pathOf.s0 [7 + x, up1 x, up2 x] 0 = some (.inr (.ret (pathL x))) := by
    simp only [impl_pathOf.s0]
    rw [if_pos (by simp)]
    have := rev4 (7 + x) (up1 x) (up2 x) 0
    simp only [List.cons_append, List.nil_append, BEq.rfl, cond_true, this, Option.bind_some]
    rfl
  rw [w64_id (by omega) (by omega)]
  rw [loopO_next (step := fun s : List Int × Int => impl_pathOf.s0 s.1 s.2) (s := ([], 7 + x)) h1, loopO_next (step := fun s : List Int × Int => impl_pathOf.s0 s.1 s.2) (s := ([] ++ [7 + x], up1 x)) h2, loopO_next (step := fun s : List Int × Int => impl_pathOf.s0 s.1 s.2) (s := ([7 + x] ++ [up1 x], up2 x)) h3, loopO_stop (step := fun s : List Int × Int => impl_pathOf.s0 s.1 s.2) (s := ([7 + x, up1 x] ++ [up2 x], 0)) h4]
  rfl

theorem index_eq (l : List Int) (x : Int) (h : l.length ≤ 1073741824) : ∃ r, slices_Index_int_int.f l x = some r ∧ (decide (r ≥ 0)) = l.any (fun y => x == y) := by
  unfold slices_Index_int_int.f
  obtain ⟨r, h1, h2⟩ := loopO_wf (step := fun s => slices_Index_int_int.s0 l x s) (fun s => ∃ i : Nat, s = (i : Int) ∧ i ≤ l.length ∧ (l.take i).any (fun y => x == y) = false) (fun r => match r with | .out _ => l.any (fun y => x == y) = false | .ret r => 0 ≤ r ∧ l.any (fun y => x == y) = true) (fun s => (l.length - s).toNat) (fun s hI => by
    obtain ⟨i, rfl, hi, ha⟩ := hI
    by_cases hlt : i < l.length
    · simp only [slices_Index_int_int.s0, decide_eq_true (show (i : Int) < (l.length : Int) by omega), cond_true, if_pos (show (0 : Int) ≤ (i : Int) ∧ (i : Int) < (l.length : Int) by omega), Int.toNat_natCast]
      cases hc : (x == l.getD i 0)
      · rw [w64_id (by omega) (by omega)]
        refine .inl ⟨_, rfl, ⟨i + 1, by omega, by omega, ?_⟩, by omega⟩
        rw [take_snoc l i hlt 0, List.any_append, ha]
        simp only [List.any_cons, List.any_nil, hc, Bool.or_false]
      · refine .inr ⟨_, rfl, by omega, ?_⟩
        rw [List.any_eq_true]
        exact ⟨_, getD_mem hlt 0, hc⟩
    · have e : i = l.length := by omega
      subst e
      rw [List.take_length] at ha
      simp only [slices_Index_int_int.s0]
      rw [decide_eq_false (by omega)]
      exact .inr ⟨_, rfl, ha⟩) _ 0 (Nat.le_refl _) ⟨0, rfl, Nat.zero_le _, rfl⟩
  rw [h1]
  cases r with
  | out u => exact ⟨_, rfl, by rw [h2]; rfl⟩
  | ret r => exact ⟨_, rfl, by rw [h2.2]; exact decide_eq_true h2.1⟩
theorem contains_eq (l : List Int) (x : Int) (h : l.length ≤ 1073741824) : slices_Contains_int_int.f l x = some (l.any (fun y => x == y)) := by
  obtain ⟨r, h1, h2⟩ := index_eq l x h
  unfold slices_Contains_int_int.f
  rw [h1]
  simp only [Option.bind_some, h2]

theorem oramC1_eq (b : S_Block) (i : Int) : impl_OramOK_c1.f b i = some (onB i b) := by
  unfold impl_OramOK_c1.f onB
  simp only [isLeaf_eq, Option.bind_some]
  cases h : inB b.Leaf 0 7
  · rfl
  · have hx := inB_iff.1 h
    unfold impl_isOnPath.f
    simp only [cond_true, pathOf_eq b.Leaf hx, contains_eq (pathL b.Leaf) i (by simp [pathL]), Option.bind_some, Bool.true_and]
    congr 1

theorem concat_eq (l : List (List S_Block)) (hl : l.length ≤ 1048576) (h2 : ∀ k, k < l.length → (l.getD k []).length ≤ 2) : slices_Concat_impl_Block_impl_Block.f l = some l.flatten := by
  unfold slices_Concat_impl_Block_impl_Block.f
  have hb : ∀ k, k ≤ l.length → (l.take k).flatten.length ≤ 2 * k := by
    intro k
    induction k with
    | zero => intro _; simp
    | succ k ih =>
      intro hk
      rw [take_flat l k (by omega), List.length_append]
      have := ih (by omega); have := h2 k (by omega); omega
  have r0 := loopO_run (step := fun s : Int × Int => slices_Concat_impl_Block_impl_Block.s0 l s.1 s.2) (fun k => (((l.take k).flatten.length : Int), (k : Int))) l.length (r := .out (l.flatten.length : Int)) (fun k hk => by
    have h3 := hb k (by omega); have h4 := h2 k hk
    simp only [slices_Concat_impl_Block_impl_Block.s0, decide_eq_true (show (k : Int) < (l.length : Int) by omega), cond_true, if_pos (show (0 : Int) ≤ (k : Int) ∧ (k : Int) < (l.length : Int) by omega), Int.toNat_natCast]
    have e5 : w64 (((l.take k).flatten.length : Int) + ((l.getD k []).length : Int)) = ((l.take k).flatten.length : Int) + ((l.getD k []).length : Int) := w64_id (by omega) (by omega)
    rw [decide_eq_false (show ¬ w64 (((l.take k).flatten.length : Int) + ((l.getD k []).length : Int)) < 0 by rw [e5]; omega), e5, w64_id (by omega) (by omega), take_flat l k hk, List.length_append]
    simp) (by
    simp only [slices_Concat_impl_Block_impl_Block.s0]
    rw [decide_eq_false (by omega), List.take_length]; rfl)
  have r1 := loopO_run (step := fun s : List S_Block × Int => slices_Concat_impl_Block_impl_Block.s1 l s.1 s.2) (fun k => ((l.take k).flatten, (k : Int))) l.length (r := .out l.flatten) (fun k hk => by
    have h3 := hb k (by omega); have h4 := h2 k hk
    simp only [slices_Concat_impl_Block_impl_Block.s1, decide_eq_true (show (k : Int) < (l.length : Int) by omega), cond_true, if_pos (show (0 : Int) ≤ (k : Int) ∧ (k : Int) < (l.length : Int) by omega), Int.toNat_natCast]
    rw [if_pos (by omega), w64_id (by omega) (by omega), take_flat l k hk]
    rfl) (by
    simp only [slices_Concat_impl_Block_impl_Block.s1]
    rw [decide_eq_false (by omega), List.take_length]; rfl)
  have r0' : loopO (fun s : Int × Int => slices_Concat_impl_Block_impl_Block.s0 l s.1 s.2) (0, 0) = _ := r0
  have r1' : loopO (fun s : List S_Block × Int => slices_Concat_impl_Block_impl_Block.s1 l s.1 s.2) (([] : List S_Block), 0) = _ := r1
  have h5 := hb l.length (Nat.le_refl _)
  rw [List.take_length] at h5
  rw [r0']
  simp only [Option.bind_some]
  rw [if_pos (by omega), r1']; rfl

theorem isValue_eq (x : Int) : impl_isValue.f x = some (inB x 0 999999) := by unfold impl_isValue.f; rw [within_eq]; rfl

theorem isBlock_eq (b : S_Block) : impl_isBlock.f b = some (rngB b) := by
  unfold impl_isBlock.f impl_isId.f impl_isLeaf.f rngB
  simp only [within_eq, isValue_eq, Option.bind_some]
  cases inB b.Id 0 11 <;> cases inB b.Leaf 0 7 <;> cases inB b.Value 0 999999 <;> rfl

theorem okB_split {pos : List Int} {b : S_Block} (hp : leavesOK pos) : okB pos b = (rngB b && (b.Leaf == pos.getD b.Id.toNat 0)) := by
  cases h : inB b.Id 0 11
  · simp [okB, rngB, h]
  · have hi := inB_iff.1 h
    have hl := hp.1
    have := hp.2 _ (getD_mem (show b.Id.toNat < pos.length by omega) 0)
    cases he : (b.Leaf == pos.getD b.Id.toNat 0)
    · have : (pos.getD b.Id.toNat 0 == b.Leaf) = false := by
        simp only [beq_eq_false_iff_ne] at he ⊢; exact fun e => he e.symm
      simp only [okB, this, Bool.false_and, Bool.and_false]
    · have e : b.Leaf = pos.getD b.Id.toNat 0 := by simpa using he
      have h7 : inB b.Leaf 0 7 = true := inB_iff.2 (by omega)
      simp only [okB, rngB, h, h7, ← e, BEq.rfl, Bool.true_and, Bool.and_true]
theorem oram_seen (o : S_Oram) (hp : leavesOK o.Pos) (all : List S_Block) (hl : all.length ≤ 2097152) : ∃ r, loopO (fun s : List Bool × Int => impl_OramOK.s1 o all s.1 s.2) (List.replicate 12 (false : Bool), 0) = some r ∧ (match r with | .out _ => (goB o.Pos all []).isSome = true | .ret b => b = false ∧ (goB o.Pos all []).isSome = false) := by
  have hpl := hp.1
  refine loopO_wf (step := fun s : List Bool × Int => impl_OramOK.s1 o all s.1 s.2) (fun s => ∃ (i : Nat) (ids : List Int), s.2 = (i : Int) ∧ i ≤ all.length ∧ s.1.length = 12 ∧ (∀ j : Nat, j < 12 → s.1.getD j false = ids.contains (j : Int)) ∧ goB o.Pos (all.drop i) ids = goB o.Pos all []) _ (fun s => (all.length - s.2).toNat) (fun s hI => ?_) _ _ (Nat.le_refl _) ⟨0, [], rfl, Nat.zero_le _, rfl, fun j hj => by
      rw [List.getD_eq_getElem?_getD, List.getElem?_replicate, if_pos hj]; rfl, rfl⟩
  obtain ⟨seen, k⟩ := s
  obtain ⟨i, ids, hk, hi, hs, hj, hg⟩ := hI
  simp only at hk hs hj hg
  subst hk
  by_cases hlt : i < all.length
  · have hd : all.drop i = all.getD i z_Block :: all.drop (i + 1) := by rw [getD_lt hlt]; exact List.drop_eq_getElem_cons hlt
    rw [hd] at hg
    simp only [goB, okB_split hp] at hg
    generalize hb : all.getD i z_Block = b at hg
    simp only [impl_OramOK.s1, hb, decide_eq_true (show (i : Int) < (all.length : Int) by omega), cond_true, if_pos (show (0 : Int) ≤ (i : Int) ∧ (i : Int) < (all.length : Int) by omega), Int.toNat_natCast, isBlock_eq, Option.bind_some]
    cases hr : rngB b
    · rw [hr] at hg
      simp only [Bool.false_and, cond_false] at hg
      exact .inr ⟨_, rfl, rfl, by rw [← hg]; rfl⟩
    · have hr' := hr
      unfold rngB at hr'
      simp only [Bool.and_eq_true, inB_iff] at hr'
      rw [hr] at hg
      simp only [Bool.not_true, cond_false]
      rw [if_pos (by omega)]
      cases he : (b.Leaf == o.Pos.getD b.Id.toNat 0)
      · rw [he] at hg
        simp only [Bool.and_false, Bool.false_and, cond_false] at hg
        simp only [bne, he, Bool.not_false, cond_true, Option.bind_some]
        exact .inr ⟨_, rfl, rfl, by rw [← hg]; rfl⟩
      · rw [he] at hg
        simp only [bne, he, Bool.not_true, cond_false]
        rw [if_pos (by omega)]
        have hc := hj b.Id.toNat (by omega)
        rw [show ((b.Id.toNat : Nat) : Int) = b.Id by omega] at hc
        simp only [hc, Option.bind_some]
        cases hcc : ids.contains b.Id
        · rw [hcc] at hg
          simp only [Bool.not_false, Bool.and_true, cond_true] at hg
          simp only [cond_false]
          rw [if_pos (by omega), w64_id (by omega) (by omega)]
          refine .inl ⟨_, rfl, ⟨i + 1, ids ++ [b.Id], by simp only; omega, by omega, by simp only [List.length_set]; exact hs, fun j hj2 => ?_, hg⟩, by simp only; omega⟩
          simp only [List.getD_eq_getElem?_getD, List.getElem?_set]
          have hja := hj j hj2
          rw [List.getD_eq_getElem?_getD] at hja
          rw [Bool.eq_iff_iff]
          by_cases ej : b.Id.toNat = j
          · rw [if_pos ej, if_pos (by omega)]
            simp only [Option.getD_some, List.contains_iff_mem, List.mem_append, List.mem_singleton, true_iff]
            exact .inr (by omega)
          · rw [if_neg ej, hja]
            simp only [List.contains_iff_mem, List.mem_append, List.mem_singleton]
            exact ⟨.inl, fun h => h.elim id (fun e => by omega)⟩
        · rw [hcc] at hg
          simp only [Bool.not_true, Bool.and_false, cond_false] at hg
          simp only [cond_true]
          exact .inr ⟨_, rfl, rfl, by rw [← hg]; rfl⟩
  · have e : i = all.length := by omega
    subst e
    rw [List.drop_length] at hg
    simp only [impl_OramOK.s1]
    rw [decide_eq_false (by omega)]
    exact .inr ⟨_, rfl, by rw [← hg]; rfl⟩
theorem impl_OramOK_eq (o : S_Oram) (h1 : o.Pos.length ≤ 1073741824) (h2 : o.Stash.length ≤ 1048576) (h3 : ∀ y, y ∈ o.Buckets → y.length ≤ 1048576) : impl_OramOK.f o = some (oramB o) := by
  unfold impl_OramOK.f oramB
  simp only [bne, all_impl_areAll_int o.Pos impl_isLeaf.f (fun x => inB x 0 7) h1 (fun x _ => isLeaf_eq x), Option.bind_some]
  cases hp : ((o.Pos.length : Int) == 12)
  · rfl
  cases hl : o.Pos.all (fun x => inB x 0 7)
  · rfl
  cases hb : ((o.Buckets.length : Int) == 15)
  · rfl
  have hp' : o.Pos.length = 12 := by have : (o.Pos.length : Int) = 12 := by simpa using hp
                                     omega
  have hb' : o.Buckets.length = 15 := by have : (o.Buckets.length : Int) = 15 := by simpa using hb
                                         omega
  have hlv : leavesOK o.Pos := ⟨hp', fun y hy => inB_iff.1 (List.all_eq_true.1 hl y hy)⟩
  simp only [Bool.not_true, cond_false, Bool.true_and, Option.bind_some]
  have := loopO_scan (step := fun s => impl_OramOK.s0 o s) (fun k => (k : Int)) o.Buckets.length (fun i => decide ((o.Buckets.getD i []).length ≤ 2) && (o.Buckets.getD i []).all (onB i)) (b := false) (t := ()) (fun k hk => by
    have hy := h3 _ (getD_mem hk [])
    simp only [impl_OramOK.s0, decide_eq_true (show (k : Int) < (o.Buckets.length : Int) by omega), cond_true, if_pos (show (0 : Int) ≤ (k : Int) ∧ (k : Int) < (o.Buckets.length : Int) by omega), Int.toNat_natCast, all_impl_areAll_impl_Block (o.Buckets.getD k []) (fun z0 => impl_OramOK_c1.f z0 (k : Int)) (onB k) (by omega) (fun x _ => oramC1_eq x k), Option.bind_some]
    rw [w64_id (by omega) (by omega)]
    by_cases c : ((o.Buckets.getD k []).length : Int) > 2
    · rw [decide_eq_true c, decide_eq_false (show ¬ (o.Buckets.getD k []).length ≤ 2 by omega)]; rfl
    · rw [decide_eq_false c, decide_eq_true (show (o.Buckets.getD k []).length ≤ 2 by omega)]
      cases (o.Buckets.getD k []).all (onB k) <;> rfl) (by
    simp only [impl_OramOK.s0]
    rw [decide_eq_false (by omega)]; rfl)
  have this : loopO (fun s => impl_OramOK.s0 o s) 0 = _ := this
  rw [this]
  cases hall : (List.range o.Buckets.length).all (fun i => decide ((o.Buckets.getD i []).length ≤ 2) && (o.Buckets.getD i []).all (onB i))
  · rfl
  have h22 : ∀ k, k < o.Buckets.length → (o.Buckets.getD k []).length ≤ 2 := fun k hk => by
    have := List.all_eq_true.1 hall k (List.mem_range.2 hk)
    simp only [Bool.and_eq_true, decide_eq_true_eq] at this
    exact this.1
  have hfl : o.Buckets.flatten.length ≤ 30 := by
    have hb2 : ∀ k, k ≤ o.Buckets.length → (o.Buckets.take k).flatten.length ≤ 2 * k := by
      intro k
      induction k with
      | zero => intro _; simp
      | succ k ih =>
        intro hk
        rw [take_flat o.Buckets k (by omega), List.length_append]
        have := ih (by omega); have := h22 k (by omega); omega
    have := hb2 o.Buckets.length (Nat.le_refl _)
    rw [List.take_length] at this; omega
  have ea : impl_Oram_all.f o = some (o.Stash ++ o.Buckets.flatten) := by
    unfold impl_Oram_all.f
    rw [concat_eq o.Buckets (by omega) h22, show slices_Clone_impl_Block_impl_Block.f o.Stash = some o.Stash by unfold slices_Clone_impl_Block_impl_Block.f; rw [if_pos (by omega)]]
    simp only [Option.bind_some]
    rw [if_pos (by omega)]
  obtain ⟨r, e1, e2⟩ := oram_seen o hlv (o.Stash ++ o.Buckets.flatten) (by rw [List.length_append]; omega)
  simp only [cond_true, Option.bind_some, ea, e1]
  cases r with
  | out u => simp only at e2; simp [e2]
  | ret b => simp only at e2; obtain ⟨rfl, e3⟩ := e2; simp [e3]

theorem isKey_eq (x : Int) : impl_isKey.f x = some (inB x 1 9999) := by unfold impl_isKey.f; rw [within_eq]; rfl

theorem isIn_key {x : Int} (h : (x == 0) = false) : inB x 1 9999 = inB x 0 9999 := by
  have hx : x ≠ 0 := by simpa using h
  rw [Bool.eq_iff_iff, inB_iff, inB_iff]; omega
theorem impl_EncOK_eq (e : S_Enc) (hk : e.Keys.length ≤ 1048576) (h1 : e.Oram.Pos.length ≤ 1073741824) (h2 : e.Oram.Stash.length ≤ 1048576) (h3 : ∀ y, y ∈ e.Oram.Buckets → y.length ≤ 1048576) : impl_EncOK.f e = some (keysB e.Keys && (((e.Keys.length : Int) == 11) && oramB e.Oram)) := by
  unfold impl_EncOK.f
  obtain ⟨r, e1, e2⟩ := loopO_wf (step := fun s : Int × List Int => impl_EncOK.s0 e s.1 s.2) (fun s => ∃ i : Nat, s.1 = (i : Int) ∧ i ≤ e.Keys.length ∧ (∀ x : Int, x ≠ 0 → s.2.contains x = (e.Keys.take i).contains x) ∧ (∀ k, k < i → keyP e.Keys k = true)) (fun r => match r with | .out _ => keysB e.Keys = true | .ret b => b = false ∧ keysB e.Keys = false) (fun s => (e.Keys.length - s.1).toNat) (fun s hI => by
    obtain ⟨k, seen⟩ := s
    obtain ⟨i, hki, hi, hs, hp⟩ := hI
    simp only at hki hs
    subst hki
    by_cases hlt : i < e.Keys.length
    · have hkp : ∀ b, keyP e.Keys i = b → b = false → keysB e.Keys = false := fun b hb hf => by
        unfold keysB
        rw [← Bool.not_eq_true, List.all_eq_true]
        intro h
        have := h i (List.mem_range.2 hlt)
        rw [hb, hf] at this; cases this
      simp only [impl_EncOK.s0, decide_eq_true (show (i : Int) < (e.Keys.length : Int) by omega), cond_true, if_pos (show (0 : Int) ≤ (i : Int) ∧ (i : Int) < (e.Keys.length : Int) by omega), Int.toNat_natCast, isKey_eq, Option.bind_some]
      rw [w64_id (by omega) (by omega)]
      cases h0 : (e.Keys.getD i 0 == 0)
      · have hne : e.Keys.getD i 0 ≠ 0 := by simpa using h0
        have hc := hs _ hne
        have hkey : keyP e.Keys i = (inB (e.Keys.getD i 0) 0 9999 && !(e.Keys.take i).contains (e.Keys.getD i 0)) := by
          unfold keyP; rw [h0, Bool.false_or]
        rw [isIn_key h0, hc]
        cases h9 : inB (e.Keys.getD i 0) 0 9999
        · exact .inr ⟨_, rfl, rfl, hkp _ hkey (by rw [h9]; rfl)⟩
        · cases hcc : (e.Keys.take i).contains (e.Keys.getD i 0)
          · simp only [Bool.not_true, cond_false, Option.bind_some]
            refine .inl ⟨_, rfl, ⟨i + 1, by simp only; omega, by omega, fun x hx => ?_, fun k hk => ?_⟩, by simp only; omega⟩
            · simp only [Bool.false_eq_true, if_false]
              rw [take_snoc _ i hlt 0, Bool.eq_iff_iff]
              have := hs x hx
              rw [Bool.eq_iff_iff] at this
              simp only [List.contains_iff_mem, List.mem_append, List.mem_singleton] at this ⊢
              exact or_congr this Iff.rfl
            · by_cases ek : k = i
              · rw [ek, hkey, h9, hcc]; rfl
              · exact hp k (by omega)
          · exact .inr ⟨_, rfl, rfl, hkp _ hkey (by rw [h9, hcc]; rfl)⟩
      · have hz : e.Keys.getD i 0 = 0 := by simpa using h0
        simp only [cond_true]
        refine .inl ⟨_, rfl, ⟨i + 1, by simp only; omega, by omega, fun x hx => ?_, fun k hk => ?_⟩, by simp only; omega⟩
        · rw [hs x hx, take_snoc _ i hlt 0, hz, Bool.eq_iff_iff]
          simp only [List.contains_iff_mem, List.mem_append, List.mem_singleton]
          exact ⟨.inl, fun h => h.elim id (fun q => absurd q hx)⟩
        · by_cases ek : k = i
          · rw [ek]; unfold keyP; rw [hz]; simp [inB]
          · exact hp k (by omega)
    · have e0 : i = e.Keys.length := by omega
      simp only [impl_EncOK.s0]
      rw [decide_eq_false (by omega)]
      refine .inr ⟨_, rfl, ?_⟩
      unfold keysB
      exact List.all_eq_true.2 (fun k hk => hp k (by have := List.mem_range.1 hk; omega))) _ (0, ([] : List Int)) (Nat.le_refl _) ⟨0, rfl, Nat.zero_le _, fun x _ => rfl, fun k hk => by omega⟩
  rw [e1]
  cases r with
  | out u =>
    simp only at e2
    simp only [Option.bind_some, impl_OramOK_eq e.Oram h1 h2 h3, e2]
    cases ((e.Keys.length : Int) == 11) <;> rfl
  | ret b => simp only at e2; rw [e2.2, e2.1]; rfl

theorem valueAt_loop (l : List S_Block) (id : Int) (h : l.length ≤ 1073741824) : ((loopO (fun s => impl_Oram_valueAt.s0 id l s) 0).bind fun o => match o with | .out _ => (some 0) | .ret r => (some r)) = some (valueL l id) := by
  obtain ⟨r, h1, h2⟩ := loopO_wf (step := fun s => impl_Oram_valueAt.s0 id l s) (fun s => ∃ i : Nat, s = (i : Int) ∧ i ≤ l.length ∧ valueL (l.drop i) id = valueL l id) (fun r => match r with | .out _ => valueL l id = 0 | .ret v => valueL l id = v) (fun s => (l.length - s).toNat) (fun s hI => by
    obtain ⟨i, rfl, hi, hv⟩ := hI
    by_cases hlt : i < l.length
    · have hd : l.drop i = l.getD i z_Block :: l.drop (i + 1) := by rw [getD_lt hlt]; exact List.drop_eq_getElem_cons hlt
      rw [hd] at hv
      simp only [impl_Oram_valueAt.s0, decide_eq_true (show (i : Int) < (l.length : Int) by omega), cond_true, if_pos (show (0 : Int) ≤ (i : Int) ∧ (i : Int) < (l.length : Int) by omega), Int.toNat_natCast]
      cases hc : ((l.getD i z_Block).Id == id)
      · rw [w64_id (by omega) (by omega)]
        refine .inl ⟨_, rfl, ⟨i + 1, by omega, by omega, ?_⟩, by omega⟩
        rw [← hv]; unfold valueL; rw [List.find?_cons, hc]
      · refine .inr ⟨_, rfl, ?_⟩
        rw [← hv]; unfold valueL; rw [List.find?_cons, hc]
    · have e : i = l.length := by omega
      subst e
      rw [List.drop_length] at hv
      simp only [impl_Oram_valueAt.s0]
      rw [decide_eq_false (by omega)]
      exact .inr ⟨_, rfl, by rw [← hv]; rfl⟩) _ 0 (Nat.le_refl _) ⟨0, rfl, Nat.zero_le _, rfl⟩
  rw [h1]
  cases r with
  | out u => simp only at h2; simp only [Option.bind_some, h2]
  | ret v => simp only at h2; simp only [Option.bind_some, h2]

theorem mid_eq (i j : Nat) (h : i ≤ j) (hj : j ≤ 1073741824) : IntKind.wrap .i64 (Int.fdiv (IntKind.wrap .u64 (w64 ((i : Int) + j))) (2 ^ 1)) = (((i + j) / 2 : Nat) : Int) := by
  rw [w64_id (by omega) (by omega)]
  have h1 : IntKind.wrap .u64 ((i : Int) + j) = (i : Int) + j := by
    rw [wrap_u64]; omega
  rw [h1]
  have h2 : Int.fdiv ((i : Int) + j) (2 ^ 1) = (((i + j) / 2 : Nat) : Int) := by
    rw [Int.fdiv_eq_ediv_of_nonneg _ (by decide)]
    omega
  rw [h2]
  exact w64_id (by omega) (by omega)
theorem find_eq (l : List S_Entry) (x : Int) (hs : Sorted l) (hx : 1 ≤ x ∧ x ≤ 9999) : impl_find.f l x = some ((place l x : Int), found l x) := by
  unfold impl_find.f slices_BinarySearchFunc_impl_Entry_impl_Entry_int.f
  have hn := hs.short
  obtain ⟨r, h1, h2⟩ := loopO_wf (step := fun s : Int × Int => slices_BinarySearchFunc_impl_Entry_impl_Entry_int.s0 l x impl_find_c1.f s.1 s.2)
    (fun s => ∃ i j : Nat, s = ((i : Int), (j : Int)) ∧ i ≤ j ∧ j ≤ l.length ∧ (∀ t, t < i → (l.getD t z_Entry).Key < x) ∧ (∀ t, j ≤ t → t < l.length → x ≤ (l.getD t z_Entry).Key))
    (fun r => r = .out (place l x : Int)) (fun s => (s.2 - s.1).toNat) (fun s hI => by
      obtain ⟨i, j, rfl, hij, hj, hlo, hhi⟩ := hI
      by_cases hlt : i < j
      · have hm := mid_eq i j hij (by omega)
        have hmlt : (i + j) / 2 < l.length := by omega
        have hk := hs.key _ hmlt
        simp only [slices_BinarySearchFunc_impl_Entry_impl_Entry_int.s0, decide_eq_true (show (i : Int) < (j : Int) by omega), cond_true, hm, if_pos (show (0 : Int) ≤ (((i + j) / 2 : Nat) : Int) ∧ (((i + j) / 2 : Nat) : Int) < (l.length : Int) by omega), Int.toNat_natCast, impl_find_c1.f, Option.bind_some]
        rw [w64_id (x := (l.getD ((i + j) / 2) z_Entry).Key - x) (by omega) (by omega)]
        by_cases hc : (l.getD ((i + j) / 2) z_Entry).Key < x
        · rw [decide_eq_true (by omega), w64_id (by omega) (by omega)]
          refine .inl ⟨_, rfl, ⟨(i + j) / 2 + 1, j, by simp, by omega, hj, fun t ht => ?_, hhi⟩, by simp only []; omega⟩
          rcases Nat.lt_or_ge t ((i + j) / 2) with h | h
          · have := hs.up _ _ h hmlt; omega
          · have : t = (i + j) / 2 := by omega
            rw [this]; exact hc
        · rw [decide_eq_false (by omega)]
          refine .inl ⟨_, rfl, ⟨i, (i + j) / 2, rfl, by omega, by omega, hlo, fun t ht ht2 => ?_⟩, by simp only []; omega⟩
          rcases Nat.lt_or_ge ((i + j) / 2) t with h | h
          · have := hs.up _ _ h ht2; omega
          · have : t = (i + j) / 2 := by omega
            rw [this]; omega
      · have e : i = j := by omega
        subst e
        refine .inr ⟨.out (i : Int), ?_, ?_⟩
        · simp only [slices_BinarySearchFunc_impl_Entry_impl_Entry_int.s0]
          rw [decide_eq_false (by omega)]; rfl
        · rw [place_eq (l := l) (x := x) hj hlo (fun h => hhi i (Nat.le_refl _) h)]) _ (0, (l.length : Int)) (Nat.le_refl _) ⟨0, l.length, rfl, Nat.zero_le _, Nat.le_refl _, fun t ht => by omega, fun t h1 h2 => by omega⟩
  rw [h1, h2]
  have hp := place_le l x
  simp only [Option.bind_some]
  unfold found
  by_cases hlt : place l x < l.length
  · have hk := hs.key _ hlt
    rw [decide_eq_true (show (place l x : Int) < (l.length : Int) by omega), decide_eq_true hlt]
    simp only [cond_true, if_pos (show (0 : Int) ≤ (place l x : Int) ∧ (place l x : Int) < (l.length : Int) by omega), Int.toNat_natCast, impl_find_c1.f, Option.bind_some, Bool.true_and]
    rw [w64_id (by omega) (by omega)]
    congr 2
    generalize (l.getD (place l x) z_Entry).Key = y
    rw [Bool.eq_iff_iff, beq_iff_eq, beq_iff_eq]
    omega
  · rw [decide_eq_false (show ¬ (place l x : Int) < (l.length : Int) by omega), decide_eq_false hlt]
    rfl

theorem entries_eq (x : S_Enc) (bs : List S_Block) (ha : impl_Oram_all.f x.Oram = some bs) (hbl : bs.length ≤ 1073741824) (hk : keysB x.Keys = true) (hl : x.Keys.length ≤ 11) (hv : ∀ id, 0 ≤ valueL bs id ∧ valueL bs id ≤ 999999) : impl_Enc_entries.f x = some (entL x.Keys bs x.Keys.length) := by
  unfold impl_Enc_entries.f
  have hval : ∀ id, impl_Oram_valueAt.f x.Oram id = some (valueL bs id) := fun id => by
    unfold impl_Oram_valueAt.f
    rw [ha]
    exact valueAt_loop bs id hbl
  have := loopO_run (step := fun s : List S_Entry × Int => impl_Enc_entries.s0 x s.1 s.2) (fun i => (entL x.Keys bs i, (i : Int))) x.Keys.length (r := .out (entL x.Keys bs x.Keys.length)) (fun i hi => by
    obtain ⟨hs, hln, _⟩ := ent_inv x.Keys bs hk hl hv i (by omega)
    simp only [impl_Enc_entries.s0, decide_eq_true (show (i : Int) < (x.Keys.length : Int) by omega), cond_true, if_pos (show (0 : Int) ≤ (i : Int) ∧ (i : Int) < (x.Keys.length : Int) by omega), Int.toNat_natCast, hval, Option.bind_some]
    rw [w64_id (by omega) (by omega)]
    by_cases hp : x.Keys.getD i 0 > 0
    · have hf := ent_found x.Keys bs hk hl hv i hi hp
      have hpl := place_le (entL x.Keys bs i) (x.Keys.getD i 0)
      rw [decide_eq_true hp, find_eq _ _ hs ⟨by omega, (keyP_at hk hi hp).1⟩]
      simp only [cond_true, Option.bind_some]
      rw [if_pos (by simp only [List.length_cons, List.length_nil]; omega)]
      simp only [entL, if_pos hp, Option.bind_some, Int.toNat_natCast, insL, putL, hf, cond_false]
      rfl
    · rw [decide_eq_false hp]; simp only [entL, if_neg hp, cond_false, Option.bind_some]; rfl) (by
    simp only [impl_Enc_entries.s0]
    rw [decide_eq_false (by omega)]; rfl)
  have t : loopO (fun s : List S_Entry × Int => impl_Enc_entries.s0 x s.1 s.2) (([] : List S_Entry), 0) = _ := this
  rw [t]; rfl

theorem refl_laws_eqEntry (x : S_Entry) : laws_eqEntry.f x x = some true := by
  unfold laws_eqEntry.f
  simp only [bne_self_eq_false, beq_self_eq_true, Bool.not_true, cond_false, Option.bind_some]

theorem reflF_laws_eqEntry (x : S_Entry) : laws_eqEntry.f x x = some true := by
  unfold laws_eqEntry.f
  simp only [bne_self_eq_false, beq_self_eq_true, bs_self, Bool.not_true, cond_false, Option.bind_some]

theorem refl_laws_eqEntryS (x : List S_Entry) (h : x.length ≤ 1048576) : laws_eqEntryS.f x x = some true := by
  have hlen : x.length ≤ 1048576 := h
  unfold laws_eqEntryS.f
  rw [show ((x.length : Int) != (x.length : Int)) = false from by simp]
  have := loopO_run (step := fun s => laws_eqEntryS.s0 x x s) (fun k => (k : Int)) x.length (r := .out ()) (fun k hk => by
    simp only [laws_eqEntryS.s0, decide_eq_true (show (k : Int) < (x.length : Int) by omega), cond_true, if_pos (show (0 : Int) ≤ (k : Int) ∧ (k : Int) < (x.length : Int) by omega), Int.toNat_natCast, refl_laws_eqEntry (x.getD k z_Entry), bne_self_eq_false, beq_self_eq_true, Bool.not_true, cond_false, Option.bind_some]
    rw [w64_id (by omega) (by omega)]
    rfl) (by
    simp only [laws_eqEntryS.s0]
    rw [decide_eq_false (by omega)]; rfl)
  rw [show ((0 : Int)) = ((0 : Nat) : Int) from rfl, this]
  rfl

theorem reflL_laws_eqEntryS (x : List S_Entry) (h : x.length ≤ 1048576) : laws_eqEntryS.f x x = some true := by
  have hlen : x.length ≤ 1048576 := h
  unfold laws_eqEntryS.f
  rw [show ((x.length : Int) != (x.length : Int)) = false from by simp]
  have := loopO_run (step := fun s => laws_eqEntryS.s0 x x s) (fun k => (k : Int)) x.length (r := .out ()) (fun k hk => by
    simp only [laws_eqEntryS.s0, decide_eq_true (show (k : Int) < (x.length : Int) by omega), cond_true, if_pos (show (0 : Int) ≤ (k : Int) ∧ (k : Int) < (x.length : Int) by omega), Int.toNat_natCast, reflF_laws_eqEntry (x.getD k z_Entry), bne_self_eq_false, beq_self_eq_true, bs_self, Bool.not_true, cond_false, Option.bind_some]
    rw [w64_id (by omega) (by omega)]
    rfl) (by
    simp only [laws_eqEntryS.s0]
    rw [decide_eq_false (by omega)]; rfl)
  rw [show ((0 : Int)) = ((0 : Nat) : Int) from rfl, this]
  rfl

theorem refl_laws_eqIntS (x : List Int) (h : x.length ≤ 1048576) : laws_eqIntS.f x x = some true := by
  have hlen : x.length ≤ 1048576 := h
  unfold laws_eqIntS.f
  rw [show ((x.length : Int) != (x.length : Int)) = false from by simp]
  have := loopO_run (step := fun s => laws_eqIntS.s0 x x s) (fun k => (k : Int)) x.length (r := .out ()) (fun k hk => by
    simp only [laws_eqIntS.s0, decide_eq_true (show (k : Int) < (x.length : Int) by omega), cond_true, if_pos (show (0 : Int) ≤ (k : Int) ∧ (k : Int) < (x.length : Int) by omega), Int.toNat_natCast, bne_self_eq_false, beq_self_eq_true, Bool.not_true, cond_false, Option.bind_some]
    rw [w64_id (by omega) (by omega)]
    rfl) (by
    simp only [laws_eqIntS.s0]
    rw [decide_eq_false (by omega)]; rfl)
  rw [show ((0 : Int)) = ((0 : Nat) : Int) from rfl, this]
  rfl

theorem reflL_laws_eqIntS (x : List Int) (h : x.length ≤ 1048576) : laws_eqIntS.f x x = some true := by
  have hlen : x.length ≤ 1048576 := h
  unfold laws_eqIntS.f
  rw [show ((x.length : Int) != (x.length : Int)) = false from by simp]
  have := loopO_run (step := fun s => laws_eqIntS.s0 x x s) (fun k => (k : Int)) x.length (r := .out ()) (fun k hk => by
    simp only [laws_eqIntS.s0, decide_eq_true (show (k : Int) < (x.length : Int) by omega), cond_true, if_pos (show (0 : Int) ≤ (k : Int) ∧ (k : Int) < (x.length : Int) by omega), Int.toNat_natCast, bne_self_eq_false, beq_self_eq_true, bs_self, Bool.not_true, cond_false, Option.bind_some]
    rw [w64_id (by omega) (by omega)]
    rfl) (by
    simp only [laws_eqIntS.s0]
    rw [decide_eq_false (by omega)]; rfl)
  rw [show ((0 : Int)) = ((0 : Nat) : Int) from rfl, this]
  rfl

theorem refl_laws_eqBlock (x : S_Block) : laws_eqBlock.f x x = some true := by
  unfold laws_eqBlock.f
  simp only [bne_self_eq_false, beq_self_eq_true, Bool.not_true, cond_false, Option.bind_some]

theorem reflF_laws_eqBlock (x : S_Block) : laws_eqBlock.f x x = some true := by
  unfold laws_eqBlock.f
  simp only [bne_self_eq_false, beq_self_eq_true, bs_self, Bool.not_true, cond_false, Option.bind_some]

theorem refl_laws_eqBlockS (x : List S_Block) (h : x.length ≤ 1048576) : laws_eqBlockS.f x x = some true := by
  have hlen : x.length ≤ 1048576 := h
  unfold laws_eqBlockS.f
  rw [show ((x.length : Int) != (x.length : Int)) = false from by simp]
  have := loopO_run (step := fun s => laws_eqBlockS.s0 x x s) (fun k => (k : Int)) x.length (r := .out ()) (fun k hk => by
    simp only [laws_eqBlockS.s0, decide_eq_true (show (k : Int) < (x.length : Int) by omega), cond_true, if_pos (show (0 : Int) ≤ (k : Int) ∧ (k : Int) < (x.length : Int) by omega), Int.toNat_natCast, refl_laws_eqBlock (x.getD k z_Block), bne_self_eq_false, beq_self_eq_true, Bool.not_true, cond_false, Option.bind_some]
    rw [w64_id (by omega) (by omega)]
    rfl) (by
    simp only [laws_eqBlockS.s0]
    rw [decide_eq_false (by omega)]; rfl)
  rw [show ((0 : Int)) = ((0 : Nat) : Int) from rfl, this]
  rfl

theorem reflL_laws_eqBlockS (x : List S_Block) (h : x.length ≤ 1048576) : laws_eqBlockS.f x x = some true := by
  have hlen : x.length ≤ 1048576 := h
  unfold laws_eqBlockS.f
  rw [show ((x.length : Int) != (x.length : Int)) = false from by simp]
  have := loopO_run (step := fun s => laws_eqBlockS.s0 x x s) (fun k => (k : Int)) x.length (r := .out ()) (fun k hk => by
    simp only [laws_eqBlockS.s0, decide_eq_true (show (k : Int) < (x.length : Int) by omega), cond_true, if_pos (show (0 : Int) ≤ (k : Int) ∧ (k : Int) < (x.length : Int) by omega), Int.toNat_natCast, reflF_laws_eqBlock (x.getD k z_Block), bne_self_eq_false, beq_self_eq_true, bs_self, Bool.not_true, cond_false, Option.bind_some]
    rw [w64_id (by omega) (by omega)]
    rfl) (by
    simp only [laws_eqBlockS.s0]
    rw [decide_eq_false (by omega)]; rfl)
  rw [show ((0 : Int)) = ((0 : Nat) : Int) from rfl, this]
  rfl

theorem refl_laws_eqBlockSS (x : List (List S_Block)) (h : x.length ≤ 1048576 ∧ ∀ z0 : List S_Block, z0 ∈ x → (z0.length ≤ 1048576)) : laws_eqBlockSS.f x x = some true := by
  have hlen : x.length ≤ 1048576 := h.1
  unfold laws_eqBlockSS.f
  rw [show ((x.length : Int) != (x.length : Int)) = false from by simp]
  have := loopO_run (step := fun s => laws_eqBlockSS.s0 x x s) (fun k => (k : Int)) x.length (r := .out ()) (fun k hk => by
    simp only [laws_eqBlockSS.s0, decide_eq_true (show (k : Int) < (x.length : Int) by omega), cond_true, if_pos (show (0 : Int) ≤ (k : Int) ∧ (k : Int) < (x.length : Int) by omega), Int.toNat_natCast, refl_laws_eqBlockS (x.getD k []) (h.2 _ (getD_mem hk _)), bne_self_eq_false, beq_self_eq_true, Bool.not_true, cond_false, Option.bind_some]
    rw [w64_id (by omega) (by omega)]
    rfl) (by
    simp only [laws_eqBlockSS.s0]
    rw [decide_eq_false (by omega)]; rfl)
  rw [show ((0 : Int)) = ((0 : Nat) : Int) from rfl, this]
  rfl

theorem reflL_laws_eqBlockSS (x : List (List S_Block)) (h : x.length ≤ 1048576 ∧ ∀ z0 : List S_Block, z0 ∈ x → (z0.length ≤ 1048576)) : laws_eqBlockSS.f x x = some true := by
  have hlen : x.length ≤ 1048576 := h.1
  unfold laws_eqBlockSS.f
  rw [show ((x.length : Int) != (x.length : Int)) = false from by simp]
  have := loopO_run (step := fun s => laws_eqBlockSS.s0 x x s) (fun k => (k : Int)) x.length (r := .out ()) (fun k hk => by
    simp only [laws_eqBlockSS.s0, decide_eq_true (show (k : Int) < (x.length : Int) by omega), cond_true, if_pos (show (0 : Int) ≤ (k : Int) ∧ (k : Int) < (x.length : Int) by omega), Int.toNat_natCast, reflL_laws_eqBlockS (x.getD k []) (h.2 _ (getD_mem hk _)), bne_self_eq_false, beq_self_eq_true, bs_self, Bool.not_true, cond_false, Option.bind_some]
    rw [w64_id (by omega) (by omega)]
    rfl) (by
    simp only [laws_eqBlockSS.s0]
    rw [decide_eq_false (by omega)]; rfl)
  rw [show ((0 : Int)) = ((0 : Nat) : Int) from rfl, this]
  rfl

theorem refl_laws_eqOram (x : S_Oram) (h : (x.Pos.length ≤ 1048576) ∧ (x.Stash.length ≤ 1048576) ∧ (x.Buckets.length ≤ 1048576 ∧ ∀ z0 : List S_Block, z0 ∈ x.Buckets → (z0.length ≤ 1048576))) : laws_eqOram.f x x = some true := by
  unfold laws_eqOram.f
  simp only [refl_laws_eqIntS x.Pos h.1, refl_laws_eqBlockS x.Stash h.2.1, refl_laws_eqBlockSS x.Buckets h.2.2, bne_self_eq_false, beq_self_eq_true, Bool.not_true, cond_false, Option.bind_some]

theorem reflL_laws_eqOram (x : S_Oram) (h : (x.Pos.length ≤ 1048576) ∧ (x.Stash.length ≤ 1048576) ∧ (x.Buckets.length ≤ 1048576 ∧ ∀ z0 : List S_Block, z0 ∈ x.Buckets → (z0.length ≤ 1048576))) : laws_eqOram.f x x = some true := by
  unfold laws_eqOram.f
  simp only [reflL_laws_eqIntS x.Pos h.1, reflL_laws_eqBlockS x.Stash h.2.1, reflL_laws_eqBlockSS x.Buckets h.2.2, bne_self_eq_false, beq_self_eq_true, bs_self, Bool.not_true, cond_false, Option.bind_some]

theorem refl_laws_eqEnc (x : S_Enc) (h : (x.Keys.length ≤ 1048576) ∧ ((x.Oram.Pos.length ≤ 1048576) ∧ (x.Oram.Stash.length ≤ 1048576) ∧ (x.Oram.Buckets.length ≤ 1048576 ∧ ∀ z0 : List S_Block, z0 ∈ x.Oram.Buckets → (z0.length ≤ 1048576)))) : laws_eqEnc.f x x = some true := by
  unfold laws_eqEnc.f
  simp only [refl_laws_eqIntS x.Keys h.1, refl_laws_eqOram x.Oram h.2, bne_self_eq_false, beq_self_eq_true, Bool.not_true, cond_false, Option.bind_some]

theorem reflL_laws_eqEnc (x : S_Enc) (h : (x.Keys.length ≤ 1048576) ∧ ((x.Oram.Pos.length ≤ 1048576) ∧ (x.Oram.Stash.length ≤ 1048576) ∧ (x.Oram.Buckets.length ≤ 1048576 ∧ ∀ z0 : List S_Block, z0 ∈ x.Oram.Buckets → (z0.length ≤ 1048576)))) : laws_eqEnc.f x x = some true := by
  unfold laws_eqEnc.f
  simp only [reflL_laws_eqIntS x.Keys h.1, reflL_laws_eqOram x.Oram h.2, bne_self_eq_false, beq_self_eq_true, bs_self, Bool.not_true, cond_false, Option.bind_some]

def F_laws_markIntS (q : Int) (x : Int) : Int := q
theorem mk_laws_markIntS (x : List Int) (k : Int) (h0 : 0 ≤ k) (h1 : k ≤ 144115188075855872) (hl : x.length ≤ 1048576) : ∃ m a, laws_markIntS.f x k = some (m, a) ∧ k ≤ m ∧ m ≤ k + 1048576 ∧ a.length = x.length ∧ True := by
  have hm := mark_gen (ρ := Int × List Int) x 0 F_laws_markIntS 1 k (fun s => laws_markIntS.s0 x s.1 s.2.1 s.2.2) (by decide) (fun i u q hi hu hg hq1 hq2 => by
    have w1 : w64 (q + 1) = q + 1 := by rw [w64_id (by omega) (by omega)]
    have wi : w64 ((i : Int) + 1) = ((i + 1 : Nat) : Int) := by rw [w64_id (by omega) (by omega)]; omega
    simp only [laws_markIntS.s0, decide_eq_true (show (i : Int) < (x.length : Int) by omega), cond_true, if_pos (show (0 : Int) ≤ (i : Int) ∧ (i : Int) < (x.length : Int) by omega), Int.toNat_natCast, Option.bind_some, w1, wi, List.set_set, getD_set_self _ 0 _ (show i < u.length by omega), getD_set_self _ 0 _ (show i < (u.set i _).length by simp; omega), F_laws_markIntS]) (fun u q => by simp only [laws_markIntS.s0]; rw [decide_eq_false (by omega)]; rfl)
  refine ⟨k + 1 * x.length, mkL x 0 F_laws_markIntS 1 k, ?_, by omega, by omega, mkL_len .., ?_⟩
  · unfold laws_markIntS.f; rw [hm]; rfl
  · trivial

def F_laws_markBlockS (q : Int) (x : S_Block) : S_Block := ⟨q, (q + 1), (q + 2)⟩
theorem mk_laws_markBlockS (x : List S_Block) (k : Int) (h0 : 0 ≤ k) (h1 : k ≤ 144115188075855872) (hl : x.length ≤ 1048576) : ∃ m a, laws_markBlockS.f x k = some (m, a) ∧ k ≤ m ∧ m ≤ k + 3145728 ∧ a.length = x.length ∧ True := by
  have hm := mark_gen (ρ := Int × List S_Block) x z_Block F_laws_markBlockS 3 k (fun s => laws_markBlockS.s0 x s.1 s.2.1 s.2.2) (by decide) (fun i u q hi hu hg hq1 hq2 => by
    have w1 : w64 (q + 1) = q + 1 := by rw [w64_id (by omega) (by omega)]
    have w2 : w64 (q + 1 + 1) = q + 2 := by rw [w64_id (by omega) (by omega)]; omega
    have w3 : w64 (q + 2 + 1) = q + 3 := by rw [w64_id (by omega) (by omega)]; omega
    have wi : w64 ((i : Int) + 1) = ((i + 1 : Nat) : Int) := by rw [w64_id (by omega) (by omega)]; omega
    simp only [laws_markBlockS.s0, decide_eq_true (show (i : Int) < (x.length : Int) by omega), cond_true, if_pos (show (0 : Int) ≤ (i : Int) ∧ (i : Int) < (x.length : Int) by omega), Int.toNat_natCast, Option.bind_some, w1, w2, w3, wi, List.set_set, getD_set_self _ z_Block _ (show i < u.length by omega), getD_set_self _ z_Block _ (show i < (u.set i _).length by simp; omega), F_laws_markBlockS]) (fun u q => by simp only [laws_markBlockS.s0]; rw [decide_eq_false (by omega)]; rfl)
  refine ⟨k + 3 * x.length, mkL x z_Block F_laws_markBlockS 3 k, ?_, by omega, by omega, mkL_len .., ?_⟩
  · unfold laws_markBlockS.f; rw [hm]; rfl
  · trivial

theorem mk_laws_markBlockSS (x : List (List S_Block)) (k : Int) (h0 : 0 ≤ k) (h1 : k ≤ 144111889540972544) (hl : x.length ≤ 1048576 ∧ ∀ z0 : List S_Block, z0 ∈ x → (z0.length ≤ 1048576)) : ∃ m a, laws_markBlockSS.f x k = some (m, a) ∧ k ≤ m ∧ m ≤ k + 3298534883328 ∧ a.length = x.length ∧ True := by
  obtain ⟨hl1, hl2⟩ := hl
  obtain ⟨a, m, e1, e2, e3, e4, qs, e5, e6, e7⟩ := mark_gen2 (ρ := Int × (List (List S_Block))) x [] 3145728 k (fun _ _ _ => True) (fun s => laws_markBlockSS.s0 x s.1 s.2.1 s.2.2) (by decide) (fun i u q hi hu hg hq1 hq2 => by
    have wi : w64 ((i : Int) + 1) = ((i + 1 : Nat) : Int) := by rw [w64_id (by omega) (by omega)]; omega
    obtain ⟨m2, b, f1, f2, f3, f4, f5⟩ := mk_laws_markBlockS (x.getD i []) q (by omega) (by omega) (hl2 _ (getD_mem hi _))
    refine ⟨b, m2, ?_, by omega, by omega, trivial⟩
    simp only [laws_markBlockSS.s0, decide_eq_true (show (i : Int) < (x.length : Int) by omega), cond_true, if_pos (show (0 : Int) ≤ (i : Int) ∧ (i : Int) < (x.length : Int) by omega), Int.toNat_natCast, wi, List.set_set, getD_set_self _ [] _ (show i < u.length by omega), hg, f1, Option.bind_some]) (fun u q => by simp only [laws_markBlockSS.s0]; rw [decide_eq_false (by omega)]; rfl)
  refine ⟨m, a, ?_, e3, by omega, e2, ?_⟩
  · unfold laws_markBlockSS.f; rw [e1]; rfl
  · trivial

theorem mk_laws_markOram (x : S_Oram) (k : Int) (h0 : 0 ≤ k) (h1 : k ≤ 144111889536778240) (hl : (x.Pos.length ≤ 1048576) ∧ (x.Stash.length ≤ 1048576) ∧ (x.Buckets.length ≤ 1048576 ∧ ∀ z0 : List S_Block, z0 ∈ x.Buckets → (z0.length ≤ 1048576))) : ∃ m a0 a1 a2, laws_markOram.f x k = some (m, a0, a1, a2) ∧ k ≤ m ∧ m ≤ k + 3298539077632 ∧ True := by
  obtain ⟨m0, b0, e0, p0, q0, _, r0⟩ := mk_laws_markIntS x.Pos k (by omega) (by omega) hl.1
  obtain ⟨m1, b1, e1, p1, q1, _, r1⟩ := mk_laws_markBlockS x.Stash m0 (by omega) (by omega) hl.2.1
  obtain ⟨m2, b2, e2, p2, q2, _, r2⟩ := mk_laws_markBlockSS x.Buckets m1 (by omega) (by omega) hl.2.2
  refine ⟨m2, b0, b1, b2, ?_, by omega, by omega, ?_⟩
  · unfold laws_markOram.f; simp only [e0, e1, e2, Option.bind_some]
  · trivial

theorem mk_laws_markEnc (x : S_Enc) (k : Int) (h0 : 0 ≤ k) (h1 : k ≤ 144111889535729664) (hl : (x.Keys.length ≤ 1048576) ∧ ((x.Oram.Pos.length ≤ 1048576) ∧ (x.Oram.Stash.length ≤ 1048576) ∧ (x.Oram.Buckets.length ≤ 1048576 ∧ ∀ z0 : List S_Block, z0 ∈ x.Oram.Buckets → (z0.length ≤ 1048576)))) : ∃ m a0 a1 a2 a3, laws_markEnc.f x k = some (m, a0, a1, a2, a3) ∧ k ≤ m ∧ m ≤ k + 3298540126208 ∧ True := by
  obtain ⟨m0, b0, e0, p0, q0, _, r0⟩ := mk_laws_markIntS x.Keys k (by omega) (by omega) hl.1
  obtain ⟨m1, b1, b2, b3, e1, p1, q1, r1⟩ := mk_laws_markOram x.Oram m0 (by omega) (by omega) hl.2
  refine ⟨m1, b0, b1, b2, b3, ?_, by omega, by omega, ?_⟩
  · unfold laws_markEnc.f; simp only [e0, e1, Option.bind_some]
  · trivial

def F_laws_markEntryS (q : Int) (x : S_Entry) : S_Entry := ⟨q, (q + 1)⟩
theorem mk_laws_markEntryS (x : List S_Entry) (k : Int) (h0 : 0 ≤ k) (h1 : k ≤ 144115188075855872) (hl : x.length ≤ 1048576) : ∃ m a, laws_markEntryS.f x k = some (m, a) ∧ k ≤ m ∧ m ≤ k + 2097152 ∧ a.length = x.length ∧ laws_heldEntryS.f a k = some m := by
  have hm := mark_gen (ρ := Int × List S_Entry) x z_Entry F_laws_markEntryS 2 k (fun s => laws_markEntryS.s0 x s.1 s.2.1 s.2.2) (by decide) (fun i u q hi hu hg hq1 hq2 => by
    have w1 : w64 (q + 1) = q + 1 := by rw [w64_id (by omega) (by omega)]
    have w2 : w64 (q + 1 + 1) = q + 2 := by rw [w64_id (by omega) (by omega)]; omega
    have wi : w64 ((i : Int) + 1) = ((i + 1 : Nat) : Int) := by rw [w64_id (by omega) (by omega)]; omega
    simp only [laws_markEntryS.s0, decide_eq_true (show (i : Int) < (x.length : Int) by omega), cond_true, if_pos (show (0 : Int) ≤ (i : Int) ∧ (i : Int) < (x.length : Int) by omega), Int.toNat_natCast, Option.bind_some, w1, w2, wi, List.set_set, getD_set_self _ z_Entry _ (show i < u.length by omega), getD_set_self _ z_Entry _ (show i < (u.set i _).length by simp; omega), F_laws_markEntryS]) (fun u q => by simp only [laws_markEntryS.s0]; rw [decide_eq_false (by omega)]; rfl)
  refine ⟨k + 2 * x.length, mkL x z_Entry F_laws_markEntryS 2 k, ?_, by omega, by omega, mkL_len .., ?_⟩
  · unfold laws_markEntryS.f; rw [hm]; rfl
  · have hy := mkL_len x z_Entry F_laws_markEntryS 2 k
    have hh := held_gen (ρ := Int) (mkL x z_Entry F_laws_markEntryS 2 k) 2 k (fun s => laws_heldEntryS.s0 (mkL x z_Entry F_laws_markEntryS 2 k) s.1 s.2) (by decide) (fun i hi hq2 hq1 => by
    have hg := mkL_getD x z_Entry F_laws_markEntryS 2 k (show i < x.length by omega)
    generalize hqq : k + 2 * (i : Int) = q at hg hq1 hq2 ⊢
    rw [hy] at hi hq2
    have w1 : w64 (q + 1) = q + 1 := by rw [w64_id (by omega) (by omega)]
    have w2 : w64 (q + 1 + 1) = q + 2 := by rw [w64_id (by omega) (by omega)]; omega
    have wi : w64 ((i : Int) + 1) = ((i + 1 : Nat) : Int) := by rw [w64_id (by omega) (by omega)]; omega
    simp only [laws_heldEntryS.s0, hy, decide_eq_true (show (i : Int) < (x.length : Int) by omega), cond_true, if_pos (show (0 : Int) ≤ (i : Int) ∧ (i : Int) < (x.length : Int) by omega), Int.toNat_natCast, Option.bind_some, w1, w2, wi, hg, F_laws_markEntryS, bne_self_eq_false, beq_self_eq_true, bs_self, Bool.not_true, cond_false]) (fun q => by simp only [laws_heldEntryS.s0]; rw [decide_eq_false (by omega)]; rfl)
    rw [hy] at hh
    unfold laws_heldEntryS.f; rw [hh]; rfl

end Go.Proofs.Ytjlhmcieholdiaa
