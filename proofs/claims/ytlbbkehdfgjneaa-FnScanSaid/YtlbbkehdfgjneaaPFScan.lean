/- What the models of these functions come to. -/
import Derived.Test.YtlbbkehdfgjneaaP0
import Derived.Test.YtlbbkehdfgjneaaGFScann2
namespace Go.Proofs.Ytlbbkehdfgjneaa
open Go Go.Z Go.Proofs Go.MuLone Go.ChangeShapes Go.WideShapes Go.ChangeAt Go.RowKit
set_option linter.unusedVariables false
set_option linter.unusedSimpArgs false
def mapP (l : List S_Entry) (k : Nat) : Bool :=
  inB (l.getD k z_Entry).Key 1 9999 && inB (l.getD k z_Entry).Value 0 999999 && (k == 0 || decide ((l.getD (k - 1) z_Entry).Key < (l.getD k z_Entry).Key))
def mapOK (l : List S_Entry) : Bool := (List.range l.length).all (mapP l) && decide (l.length ≤ 11)
structure Sorted (l : List S_Entry) : Prop where
  short : l.length ≤ 11
  key : ∀ k, k < l.length → 1 ≤ (l.getD k z_Entry).Key ∧ (l.getD k z_Entry).Key ≤ 9999
  val : ∀ k, k < l.length → 0 ≤ (l.getD k z_Entry).Value ∧ (l.getD k z_Entry).Value ≤ 999999
  up : ∀ i j, i < j → j < l.length → (l.getD i z_Entry).Key < (l.getD j z_Entry).Key
theorem mapOK_sorted {l : List S_Entry} (h : mapOK l = true) : Sorted l := by
  unfold mapOK at h
  simp only [Bool.and_eq_true, decide_eq_true_eq, List.all_eq_true, List.mem_range] at h
  obtain ⟨h1, h2⟩ := h
  have h3 : ∀ k, k < l.length → (1 ≤ (l.getD k z_Entry).Key ∧ (l.getD k z_Entry).Key ≤ 9999) ∧ (0 ≤ (l.getD k z_Entry).Value ∧ (l.getD k z_Entry).Value ≤ 999999) ∧ (k = 0 ∨ (l.getD (k - 1) z_Entry).Key < (l.getD k z_Entry).Key) := fun k hk => by
    have := h1 k hk
    unfold mapP at this
    simp only [Bool.and_eq_true, inB_iff, Bool.or_eq_true, beq_iff_eq, decide_eq_true_eq] at this
    exact ⟨this.1.1, this.1.2, this.2⟩
  refine ⟨h2, fun k hk => (h3 k hk).1, fun k hk => (h3 k hk).2.1, fun i j hij hj => ?_⟩
  obtain ⟨m, rfl⟩ : ∃ m, j = i + 1 + m := ⟨j - i - 1, by omega⟩
  induction m with
  | zero =>
    rcases (h3 (i + 1) hj).2.2 with h | h
    · omega
    · simpa using h
  | succ m ih =>
    have h4 := ih (by omega) (by omega)
    rcases (h3 (i + 1 + (m + 1)) hj).2.2 with h | h
    · omega
    · have e : i + 1 + (m + 1) - 1 = i + 1 + m := by omega
      rw [e] at h; omega
/-- Where a key stands, or would. -/
def place (l : List S_Entry) (x : Int) : Nat := l.findIdx (fun e => decide (x ≤ e.Key))
def found (l : List S_Entry) (x : Int) : Bool := decide (place l x < l.length) && ((l.getD (place l x) z_Entry).Key == x)
theorem place_le (l : List S_Entry) (x : Int) : place l x ≤ l.length := List.findIdx_le_length
theorem place_lt {l : List S_Entry} {x : Int} {t : Nat} (h : t < place l x) : (l.getD t z_Entry).Key < x := by
  have ht : t < l.length := Nat.lt_of_lt_of_le h (place_le l x)
  rw [getD_lt ht]
  have := List.not_of_lt_findIdx h
  simp only [decide_eq_false_iff_not, Bool.not_eq_true, decide_eq_true_eq] at this
  omega
theorem place_ge {l : List S_Entry} {x : Int} (h : place l x < l.length) : x ≤ (l.getD (place l x) z_Entry).Key := by
  rw [getD_lt h]
  exact of_decide_eq_true (List.findIdx_getElem (w := h))
theorem place_ge' {l : List S_Entry} (hs : Sorted l) {x : Int} {t : Nat} (h : place l x ≤ t) (ht : t < l.length) : x ≤ (l.getD t z_Entry).Key := by
  have h1 := place_ge (l := l) (x := x) (by omega)
  rcases Nat.lt_or_ge (place l x) t with h2 | h2
  · have := hs.up _ _ h2 ht; omega
  · have : t = place l x := by omega
    rw [this]; exact h1
theorem place_eq {l : List S_Entry} {x : Int} {i : Nat} (hi : i ≤ l.length) (h1 : ∀ t, t < i → (l.getD t z_Entry).Key < x) (h2 : i < l.length → x ≤ (l.getD i z_Entry).Key) : i = place l x := by
  rcases Nat.lt_trichotomy i (place l x) with h | h | h
  · have a := place_lt h
    have b := h2 (by have := place_le l x; omega)
    omega
  · exact h
  · have a := h1 _ h
    have b := place_ge (l := l) (x := x) (by omega)
    omega
def foundV (l : List S_Entry) (k : Int) : Int := bif found l k then (l.getD (place l k) z_Entry).Value else 0
theorem found_lt {l : List S_Entry} {k : Int} (h : found l k = true) : place l k < l.length ∧ (l.getD (place l k) z_Entry).Key = k := by
  unfold found at h
  simpa only [Bool.and_eq_true, decide_eq_true_eq, beq_iff_eq] using h
theorem foundV_rng {l : List S_Entry} (hs : Sorted l) (k : Int) : 0 ≤ foundV l k ∧ foundV l k ≤ 999999 := by
  unfold foundV
  cases h : found l k
  · simp
  · exact hs.val _ (found_lt h).1
theorem sorted_mapOK {l : List S_Entry} (hs : Sorted l) : mapOK l = true := by
  unfold mapOK
  simp only [Bool.and_eq_true, decide_eq_true_eq, List.all_eq_true, List.mem_range]
  refine ⟨fun k hk => ?_, hs.short⟩
  unfold mapP
  simp only [Bool.and_eq_true, inB_iff, Bool.or_eq_true, beq_iff_eq, decide_eq_true_eq]
  refine ⟨⟨hs.key k hk, hs.val k hk⟩, ?_⟩
  cases k with
  | zero => exact .inl rfl
  | succ k => exact .inr (hs.up _ _ (by omega) hk)
theorem found_at {l : List S_Entry} (hs : Sorted l) {k : Int} {i : Nat} (hi : i < l.length) (h : (l.getD i z_Entry).Key = k) : place l k = i ∧ found l k = true ∧ foundV l k = (l.getD i z_Entry).Value := by
  have hp : i = place l k := place_eq (by omega) (fun t ht => by have := hs.up _ _ ht hi; omega) (fun _ => by omega)
  have hf : found l k = true := by
    unfold found
    rw [← hp, decide_eq_true hi, h]; simp
  refine ⟨hp.symm, hf, ?_⟩
  unfold foundV
  rw [hf, ← hp]; rfl
theorem found_not {l : List S_Entry} {k : Int} (h : ∀ i, i < l.length → (l.getD i z_Entry).Key ≠ k) : found l k = false := by
  cases hf : found l k
  · rfl
  · obtain ⟨h1, h2⟩ := found_lt hf
    exact absurd h2 (h _ h1)

def opOK (o : S_Op) : Bool :=
  inB o.Kind 1 6 && inB o.Key 1 9999 && (bif o.Kind == 1 || o.Kind == 3 then o.Value == 0 else bif o.Kind == 6 then inB o.Value 1 4 else inB o.Value 0 999999)

def putL (l : List S_Entry) (k v : Int) : List S_Entry := l.take (place l k) ++ [(⟨k, v⟩ : S_Entry)] ++ l.drop (bif found l k then place l k + 1 else place l k)
def cellL (l : List S_Entry) (i : Nat) : List Int := if i < l.length then [(l.getD i z_Entry).Key, (l.getD i z_Entry).Value] else [0, 0]
/-- What a scan tells of n places from the place p on. -/
def scanL (l : List S_Entry) (p : Nat) : Nat → List Int
  | 0 => []
  | n + 1 => scanL l p n ++ cellL l (p + n)
theorem cellL_len (l : List S_Entry) (i : Nat) : (cellL l i).length = 2 := by unfold cellL; split <;> rfl
theorem scanL_len (l : List S_Entry) (p : Nat) : ∀ n, (scanL l p n).length = 2 * n
  | 0 => rfl
  | n + 1 => by simp only [scanL, List.length_append, scanL_len l p n, cellL_len]; omega
theorem scanL_pad (l : List S_Entry) (p a : Nat) (h : l.length ≤ p + a) : ∀ b, scanL l p (a + b) = scanL l p a ++ List.replicate (2 * b) 0
  | 0 => by simp
  | b + 1 => by
    rw [show a + (b + 1) = (a + b) + 1 by omega]
    show scanL l p (a + b) ++ cellL l (p + (a + b)) = _
    rw [scanL_pad l p a h b, List.append_assoc, show 2 * (b + 1) = 2 * b + 2 by omega, ← List.replicate_append_replicate]
    unfold cellL
    rw [if_neg (by omega)]; rfl
/-- One operation upon a map. -/
def doL (l : List S_Entry) (o : S_Op) : List S_Entry × List Int × Int :=
  bif o.Kind == 1 then (l, [bif found l o.Key then 1 else 0, foundV l o.Key], 0)
  else bif o.Kind == 3 then (bif found l o.Key then delL l (place l o.Key) (place l o.Key + 1) else l, [bif found l o.Key then 1 else 0], 0)
  else bif o.Kind == 4 then (l, [], bif (!found l o.Key) || (foundV l o.Key != o.Value) then 14 else 0)
  else bif o.Kind == 6 then (l, scanL l (place l o.Key) o.Value.toNat, 0)
  else bif (!found l o.Key) && ((l.length : Int) == 11) then (l, [], 7)
  else bif o.Kind == 2 then (putL l o.Key o.Value, [], 0)
  else bif decide (foundV l o.Key + o.Value > 999999) then (l, [], 4) else (putL l o.Key (foundV l o.Key + o.Value), [foundV l o.Key + o.Value], 0)
theorem putL_len (l : List S_Entry) (k v : Int) : (putL l k v).length ≤ l.length + 1 := by
  unfold putL
  have := place_le l k
  cases found l k <;> simp only [cond_true, cond_false, List.length_append, List.length_take, List.length_drop, List.length_cons, List.length_nil] <;> omega
theorem opOK_scan {o : S_Op} (h : opOK o = true) : (o.Kind == 6) = true → o.Value ≤ 4 := by
  intro h6
  have e : o.Kind = 6 := by simpa using h6
  unfold opOK at h
  simp only [e, Bool.and_eq_true] at h
  have := h.2
  simp only [show ((6 : Int) == 1) = false from rfl, show ((6 : Int) == 3) = false from rfl, Bool.or_self, cond_false, BEq.rfl, cond_true, inB_iff] at this
  exact this.2
theorem doL_len (l : List S_Entry) (o : S_Op) (h : (o.Kind == 6) = true → o.Value ≤ 4) : (doL l o).1.length ≤ l.length + 1 ∧ (doL l o).2.1.length ≤ 8 := by
  have h1 := putL_len l o.Key o.Value
  have h2 := putL_len l o.Key (foundV l o.Key + o.Value)
  unfold doL
  cases o.Kind == 1
  case true => exact ⟨Nat.le_succ _, by simp only [cond_true, List.length_cons, List.length_nil]; omega⟩
  cases o.Kind == 3
  case true =>
    cases hf : found l o.Key
    · exact ⟨Nat.le_succ _, by simp only [cond_true, cond_false, List.length_cons, List.length_nil]; omega⟩
    · have := (found_lt hf).1
      refine ⟨?_, by simp only [cond_true, cond_false, List.length_cons, List.length_nil]; omega⟩
      simp only [cond_true, cond_false]
      rw [len_delL _ _ _ (by omega) (by omega)]; omega
  cases o.Kind == 4
  case true => exact ⟨Nat.le_succ _, by simp only [cond_true, cond_false, List.length_nil]; omega⟩
  cases h6 : o.Kind == 6
  case true =>
    have := h h6
    exact ⟨Nat.le_succ _, by simp only [cond_true, cond_false, scanL_len]; omega⟩
  simp only [cond_false]
  cases (!found l o.Key) && ((l.length : Int) == 11)
  case true => exact ⟨Nat.le_succ _, by simp only [cond_true, List.length_nil]; omega⟩
  cases o.Kind == 2
  case true => exact ⟨h1, by simp only [cond_true, cond_false, List.length_nil]; omega⟩
  cases decide (foundV l o.Key + o.Value > 999999)
  · exact ⟨h2, by simp only [cond_false, List.length_cons, List.length_nil]; omega⟩
  · exact ⟨Nat.le_succ _, by simp only [cond_true, cond_false, List.length_nil]; omega⟩
theorem putL_get (l : List S_Entry) (k v : Int) (i : Nat) : (putL l k v).getD i z_Entry = if i < place l k then l.getD i z_Entry else if i = place l k then ⟨k, v⟩ else l.getD (bif found l k then i else i - 1) z_Entry := by
  have hp := place_le l k
  have ht : (l.take (place l k)).length = place l k := by rw [List.length_take]; omega
  unfold putL
  simp only [List.getD_eq_getElem?_getD]
  rw [List.append_assoc, List.getElem?_append, ht]
  by_cases h1 : i < place l k
  · rw [if_pos h1, if_pos h1, List.getElem?_take, if_pos h1]
  · rw [if_neg h1, if_neg h1]
    by_cases h2 : i = place l k
    · rw [if_pos h2, h2]; simp
    · rw [if_neg h2]
      obtain ⟨m, rfl⟩ : ∃ m, i = place l k + (m + 1) := ⟨i - place l k - 1, by omega⟩
      rw [show place l k + (m + 1) - place l k = m + 1 by omega]
      simp only [List.singleton_append, List.getElem?_cons_succ, List.getElem?_drop]
      cases found l k
      · simp only [cond_false]; rw [show place l k + (m + 1) - 1 = place l k + m by omega]
      · simp only [cond_true]; rw [show place l k + 1 + m = place l k + (m + 1) by omega]
theorem putL_len' (l : List S_Entry) (k v : Int) : (putL l k v).length = bif found l k then l.length else l.length + 1 := by
  unfold putL
  have := place_le l k
  cases hf : found l k
  · simp only [cond_false, List.length_append, List.length_take, List.length_drop, List.length_cons, List.length_nil]; omega
  · have := (found_lt hf).1
    simp only [cond_true, List.length_append, List.length_take, List.length_drop, List.length_cons, List.length_nil]; omega
theorem place_gt {l : List S_Entry} {k : Int} (hs : Sorted l) {t : Nat} (h : place l k < t ∨ (found l k = false ∧ place l k ≤ t)) (ht : t < l.length) : k < (l.getD t z_Entry).Key := by
  rcases h with h | ⟨h1, h2⟩
  · have a := place_ge (l := l) (x := k) (by omega)
    have b := hs.up _ _ h ht
    omega
  · have a := place_ge (l := l) (x := k) (by omega)
    have c : (l.getD (place l k) z_Entry).Key ≠ k := by
      unfold found at h1
      rw [decide_eq_true (show place l k < l.length by omega), Bool.true_and, beq_eq_false_iff_ne] at h1
      exact h1
    rcases Nat.lt_or_ge (place l k) t with h3 | h3
    · have b := hs.up _ _ h3 ht; omega
    · rw [show t = place l k by omega]; omega
theorem sorted_put {l : List S_Entry} {k v : Int} (hs : Sorted l) (hk : 1 ≤ k ∧ k ≤ 9999) (hv : 0 ≤ v ∧ v ≤ 999999) (hr : ((!found l k) && ((l.length : Int) == 11)) = false) : Sorted (putL l k v) := by
  have hsh := hs.short
  have hp := place_le l k
  have hlen := putL_len' l k v
  have hf1 : found l k = true → place l k < l.length := fun h => (found_lt h).1
  refine ⟨?_, fun i hi => ?_, fun i hi => ?_, fun i j hij hj => ?_⟩
  · rw [hlen]
    cases hf : found l k
    · rw [hf] at hr
      simp only [Bool.not_false, Bool.true_and, beq_eq_false_iff_ne, ne_eq] at hr
      simp only [cond_false]; omega
    · exact hsh
  · rw [hlen] at hi
    rw [putL_get]
    split
    · exact hs.key _ (by omega)
    · split
      · exact hk
      · refine hs.key _ ?_
        cases hf : found l k <;> rw [hf] at hi <;> simp only [cond_true, cond_false] at hi ⊢ <;> omega
  · rw [hlen] at hi
    rw [putL_get]
    split
    · exact hs.val _ (by omega)
    · split
      · exact hv
      · refine hs.val _ ?_
        cases hf : found l k <;> rw [hf] at hi <;> simp only [cond_true, cond_false] at hi ⊢ <;> omega
  · rw [hlen] at hj
    rw [putL_get, putL_get]
    by_cases a1 : i < place l k
    · rw [if_pos a1]
      by_cases b1 : j < place l k
      · rw [if_pos b1]; exact hs.up _ _ hij (by omega)
      · rw [if_neg b1]
        have a2 := place_lt a1
        by_cases b2 : j = place l k
        · rw [if_pos b2]; exact a2
        · rw [if_neg b2]
          have : k < (l.getD (bif found l k then j else j - 1) z_Entry).Key := by
            cases hf : found l k <;> rw [hf] at hj <;> simp only [cond_true, cond_false] at hj ⊢
            · exact place_gt hs (.inr ⟨hf, by omega⟩) (by omega)
            · exact place_gt hs (.inl (by omega)) (by omega)
          omega
    · rw [if_neg a1, if_neg (show ¬ j < place l k by omega), if_neg (show ¬ j = place l k by omega)]
      by_cases a2 : i = place l k
      · rw [if_pos a2]
        cases hf : found l k <;> rw [hf] at hj <;> simp only [cond_true, cond_false] at hj ⊢
        · exact place_gt hs (.inr ⟨hf, by omega⟩) (by omega)
        · exact place_gt hs (.inl (by omega)) (by omega)
      · rw [if_neg a2]
        cases hf : found l k <;> rw [hf] at hj <;> simp only [cond_true, cond_false] at hj ⊢
        · exact hs.up _ _ (by omega) (by omega)
        · exact hs.up _ _ (by omega) (by omega)
theorem delL_get (l : List S_Entry) (p i : Nat) (hp : p < l.length) : (delL l p (p + 1)).getD i z_Entry = if i < p then l.getD i z_Entry else l.getD (i + 1) z_Entry := by
  have ht : (l.take p).length = p := by rw [List.length_take]; omega
  unfold delL
  simp only [List.getD_eq_getElem?_getD]
  rw [List.getElem?_append, ht]
  by_cases h1 : i < p
  · rw [if_pos h1, if_pos h1, List.getElem?_take, if_pos h1]
  · rw [if_neg h1, if_neg h1, List.getElem?_drop, show p + 1 + (i - p) = i + 1 by omega]
theorem sorted_del {l : List S_Entry} {p : Nat} (hs : Sorted l) (hp : p < l.length) : Sorted (delL l p (p + 1)) := by
  have hsh := hs.short
  have hlen := len_delL l p (p + 1) (by omega) (by omega)
  refine ⟨by omega, fun i hi => ?_, fun i hi => ?_, fun i j hij hj => ?_⟩
  · rw [delL_get l p i hp]; split <;> exact hs.key _ (by omega)
  · rw [delL_get l p i hp]; split <;> exact hs.val _ (by omega)
  · rw [delL_get l p i hp, delL_get l p j hp]
    split
    · split <;> exact hs.up _ _ (by omega) (by omega)
    · rw [if_neg (by omega)]; exact hs.up _ _ (by omega) (by omega)
theorem sorted_do {l : List S_Entry} {o : S_Op} (hs : Sorted l) (ho : opOK o = true) : Sorted (doL l o).1 := by
  unfold opOK at ho
  simp only [Bool.and_eq_true, inB_iff] at ho
  obtain ⟨⟨hkd, hk⟩, hv⟩ := ho
  have hfv := foundV_rng hs o.Key
  unfold doL
  cases h1 : o.Kind == 1
  case true => exact hs
  rw [h1] at hv
  cases h3 : o.Kind == 3
  case true =>
    cases hf : found l o.Key
    · exact hs
    · exact sorted_del hs (found_lt hf).1
  rw [h3] at hv
  cases h4 : o.Kind == 4
  case true => exact hs
  cases h6 : o.Kind == 6
  case true => exact hs
  rw [h6] at hv
  simp only [Bool.or_self, cond_false, inB_iff] at hv ⊢
  cases hr : (!found l o.Key) && ((l.length : Int) == 11)
  case true => exact hs
  cases h2 : o.Kind == 2
  case true => exact sorted_put hs hk hv hr
  cases hb : decide (foundV l o.Key + o.Value > 999999)
  · have := of_decide_eq_false hb
    exact sorted_put hs hk ⟨by omega, by omega⟩ hr
  · exact hs
/-- What was put stands in its place. -/
theorem put_at (l : List S_Entry) (k v : Int) : place l k < (putL l k v).length ∧ (putL l k v).getD (place l k) z_Entry = ⟨k, v⟩ := by
  constructor
  · rw [putL_len']
    have := place_le l k
    cases hf : found l k
    · simp only [cond_false]; omega
    · exact (found_lt hf).1
  · rw [putL_get, if_neg (by omega), if_pos rfl]
/-- Other keys stay when one is put and dropped. -/
theorem put_del {l : List S_Entry} (hs : Sorted l) (k v : Int) {i : Nat} (hi : i < l.length) (hne : (l.getD i z_Entry).Key ≠ k) : ∃ j, j < (delL (putL l k v) (place l k) (place l k + 1)).length ∧ (delL (putL l k v) (place l k) (place l k + 1)).getD j z_Entry = l.getD i z_Entry := by
  have hp := (put_at l k v).1
  have hlen := putL_len' l k v
  have hd := len_delL (putL l k v) (place l k) (place l k + 1) (by omega) (by omega)
  by_cases h1 : i < place l k
  · refine ⟨i, by omega, ?_⟩
    rw [delL_get _ _ _ hp, if_pos h1, putL_get, if_pos h1]
  · cases hf : found l k
    · rw [hf] at hlen
      simp only [cond_false] at hlen
      refine ⟨i, by omega, ?_⟩
      rw [delL_get _ _ _ hp, if_neg h1, putL_get, if_neg (by omega), if_neg (by omega), hf]
      simp
    · obtain ⟨h2, h3⟩ := found_lt hf
      rw [hf] at hlen
      simp only [cond_true] at hlen
      have : i ≠ place l k := fun e => hne (by rw [e]; exact h3)
      refine ⟨i - 1, by omega, ?_⟩
      rw [delL_get _ _ _ hp, if_neg (by omega), show i - 1 + 1 = i by omega, putL_get, if_neg (by omega), if_neg (by omega), hf]
      simp
/-- What is dropped is not there. -/
theorem del_not {l : List S_Entry} (hs : Sorted l) {k : Int} (hf : found l k = true) : found (delL l (place l k) (place l k + 1)) k = false := by
  obtain ⟨h1, h2⟩ := found_lt hf
  have hd := len_delL l (place l k) (place l k + 1) (by omega) (by omega)
  refine found_not fun i hi => ?_
  rw [delL_get _ _ _ h1]
  split
  · have := place_lt (l := l) (x := k) (t := i) (by assumption); omega
  · have := hs.up (place l k) (i + 1) (by omega) (by omega); omega

def wordL (k : Int) : List Int := if k = 1 then [103, 101, 116] else if k = 2 then [112, 117, 116] else if k = 3 then [100, 114, 111, 112] else if k = 4 then [99, 104, 101, 99, 107] else if k = 5 then [97, 100, 100] else [115, 99, 97, 110]
def encOp (o : S_Op) (r : List Int) : List Int := wordL o.Kind ++ (32 :: (digL o.Key.toNat ++ (if o.Kind = 1 ∨ o.Kind = 3 then r else 32 :: (digL o.Value.toNat ++ r))))
theorem encOp_app (o : S_Op) (r : List Int) : encOp o r = encOp o [] ++ r := by
  unfold encOp
  split <;> simp
def encOps : List S_Op → List Int → List Int
  | [], r => r
  | [o], r => encOp o r
  | o :: p :: l, r => encOp o (59 :: 32 :: encOps (p :: l) r)
def encB : List S_Txn → List Int
  | [] => []
  | [t] => encOps t.Ops []
  | t :: u :: l => encOps t.Ops (32 :: 124 :: 32 :: encB (u :: l))
theorem encOps_app : ∀ (l : List S_Op) (r : List Int), encOps l r = encOps l [] ++ r
  | [], r => by simp [encOps]
  | [o], r => encOp_app o r
  | o :: p :: l, r => by
    have ih := encOps_app (p :: l) r
    simp only [encOps]
    rw [encOp_app o (59 :: 32 :: encOps (p :: l) r), encOp_app o (59 :: 32 :: encOps (p :: l) []), ih]
    simp
theorem encOps_join : ∀ l : List S_Op, encOps l [] = joinL [59, 32] (l.map fun o => encOp o [])
  | [] => rfl
  | [o] => rfl
  | o :: p :: l => by
    have ih := encOps_join (p :: l)
    simp only [encOps, List.map_cons, joinL] at ih ⊢
    rw [encOp_app, ih]
    simp
theorem encB_join : ∀ l : List S_Txn, encB l = joinL [32, 124, 32] (l.map fun t => encOps t.Ops [])
  | [] => rfl
  | [t] => rfl
  | t :: u :: l => by
    have ih := encB_join (u :: l)
    simp only [encB, List.map_cons, joinL] at ih ⊢
    rw [encOps_app, ih]
    simp
theorem ND_nil : ND [] := fun x r h => by cases h
theorem ND_cons {x : Int} {r : List Int} (h : ¬ isDg x) : ND (x :: r) := fun y s e => by cases e; exact h

def opI (L : List Int) (s : Nat × Bool) : S_Op × (Nat × Bool) := (⟨(nI L 1 6 s).1, (nI L 1 9999 (nI L 1 6 s).2).1, (nI L 0 999999 (nI L 1 9999 (nI L 1 6 s).2).2).1⟩, (nI L 0 999999 (nI L 1 9999 (nI L 1 6 s).2).2).2)
def opS (L : List Int) (q : Nat) : S_Op × Nat := (⟨(nS L q).1, (nS L (nS L q).2).1, (nS L (nS L (nS L q).2).2).1⟩, (nS L (nS L (nS L q).2).2).2)
def rngO (b : S_Op) : Bool := inB b.Kind 1 6 && inB b.Key 1 9999 && inB b.Value 0 999999
theorem op_pair (L : List Int) : RPair L (opI L) (opS L) rngO :=
  RPair.seq (α := Int × Int) (RPair.seq (RPair.base L 1 6 (by decide)) (RPair.base L 1 9999 (by decide)) Prod.mk (fun ab => inB ab.1 1 6 && inB ab.2 1 9999) (fun _ _ => rfl)) (RPair.base L 0 999999 (by decide)) (fun ab c => ⟨ab.1, ab.2, c⟩) rngO (fun _ _ => rfl)
theorem opS_le {L : List Int} {q : Nat} (h : q ≤ L.length + 1) : (opS L q).2 ≤ L.length + 1 := nS_le (nS_le (nS_le h))
def txI (L : List Int) (s : Nat × Bool) : S_Txn × (Nat × Bool) := (⟨(rep (opI L) (nI L 1 4 s).1.toNat (nI L 1 4 s).2).1⟩, (rep (opI L) (nI L 1 4 s).1.toNat (nI L 1 4 s).2).2)
def txS (L : List Int) (q : Nat) : S_Txn × Nat := (⟨(rep (opS L) (cS L 4 q).1.toNat (cS L 4 q).2).1⟩, (rep (opS L) (cS L 4 q).1.toNat (cS L 4 q).2).2)
def rngT (t : S_Txn) : Bool := inB (t.Ops.length : Int) 1 4 && t.Ops.all rngO
theorem tx_pair (L : List Int) : RPair L (txI L) (txS L) rngT := RPair.count (op_pair L) 4 (fun l => (⟨l⟩ : S_Txn)) rngT (by decide) (fun _ => rfl)
theorem txS_le {L : List Int} {q : Nat} (h : q ≤ L.length + 1) : (txS L q).2 ≤ L.length + 1 := rep_le (f := opS L) (fun q hq => opS_le hq) _ _ (cS_le h)
def enI (L : List Int) (s : Nat × Bool) : (List Int × List S_Txn) × (Nat × Bool) :=
  (((rep (nI L 0 7) 40 s).1, (rep (txI L) (nI L 1 2 (rep (nI L 0 7) 40 s).2).1.toNat (nI L 1 2 (rep (nI L 0 7) 40 s).2).2).1), (rep (txI L) (nI L 1 2 (rep (nI L 0 7) 40 s).2).1.toNat (nI L 1 2 (rep (nI L 0 7) 40 s).2).2).2)
def enS (L : List Int) (q : Nat) : (List Int × List S_Txn) × Nat :=
  (((rep (nS L) 40 q).1, (rep (txS L) (cS L 2 (rep (nS L) 40 q).2).1.toNat (cS L 2 (rep (nS L) 40 q).2).2).1), (rep (txS L) (cS L 2 (rep (nS L) 40 q).2).1.toNat (cS L 2 (rep (nS L) 40 q).2).2).2)
def rngE (x : List Int × List S_Txn) : Bool := x.1.all (fun y => inB y 0 7) && (inB (x.2.length : Int) 1 2 && x.2.all rngT)
theorem en_pair (L : List Int) : RPair L (enI L) (enS L) rngE :=
  RPair.seq ((RPair.base L 0 7 (by decide)).reps 40) (RPair.count (tx_pair L) 2 (fun l => l) (fun l => inB (l.length : Int) 1 2 && l.all rngT) (by decide) (fun _ => rfl)) Prod.mk rngE (fun _ _ => rfl)
theorem nI_cnt (L : List Int) (hi : Int) (h : 0 ≤ hi) (s : Nat × Bool) (lo : Int) (hlo : 0 ≤ lo) : 0 ≤ (nI L lo hi s).1 ∧ (nI L lo hi s).1 ≤ hi := by
  unfold nI
  split
  · exact ⟨Int.le_refl _, h⟩
  · split
    · rename_i q; have h2 := inB_iff.1 q.2; exact ⟨by omega, h2.2⟩
    · exact ⟨Int.le_refl _, h⟩
theorem cS_cnt (L : List Int) (most : Int) (h : 0 ≤ most) (q : Nat) : 0 ≤ (cS L most q).1 ∧ (cS L most q).1 ≤ most := by
  unfold cS; split
  · rename_i hq; exact inB_iff.1 hq
  · exact ⟨Int.le_refl _, h⟩
theorem txI_len (L : List Int) (s : Nat × Bool) : (txI L s).1.Ops.length ≤ 4 := by
  have := nI_cnt L 4 (by decide) s 1 (by decide)
  unfold txI; simp only [rep_len]; omega
theorem txS_len (L : List Int) (q : Nat) : (txS L q).1.Ops.length ≤ 4 := by
  have := cS_cnt L 4 (by decide) q
  unfold txS; simp only [rep_len]; omega
theorem rep_all {σ α : Type} (f : σ → α × σ) (P : α → Prop) (h : ∀ s, P (f s).1) : ∀ (n : Nat) (s : σ), ∀ x ∈ (rep f n s).1, P x
  | 0, s, x, hx => by simp [rep] at hx
  | n + 1, s, x, hx => by
    simp only [rep, List.mem_append, List.mem_singleton] at hx
    rcases hx with hx | rfl
    · exact rep_all f P h n s x hx
    · exact h _

def txnGo (l0 : List S_Entry) : List S_Op → List S_Entry → List Int → Ex (List S_Entry × List Int) (List S_Entry × S_Result)
  | [], m, out => .out (m, out)
  | o :: r, m, out => bif (doL m o).2.2 != 0 then .ret (l0, ⟨(doL m o).2.2, []⟩) else txnGo l0 r (doL m o).1 (out ++ (doL m o).2.1)
theorem txn_loop {l0 : List S_Entry} {ops : List S_Op} (hl : ops.length ≤ 4) (ho : ∀ o ∈ ops, opOK o = true) (hs0 : Sorted l0)
    (step : List S_Entry × Int × List Int → Option ((List S_Entry × Int × List Int) ⊕ Ex (List S_Entry × List Int) (List S_Entry × S_Result)))
    (hend : ∀ m out, step (m, (ops.length : Int), out) = some (.inr (.out (m, out))))
    (hstep : ∀ m (k : Nat) out, Sorted m → k < ops.length → out.length ≤ 32 → step (m, (k : Int), out) = bif (doL m (ops.getD k z_Op)).2.2 != 0 then some (.inr (.ret (l0, ⟨(doL m (ops.getD k z_Op)).2.2, []⟩))) else some (.inl ((doL m (ops.getD k z_Op)).1, ((k + 1 : Nat) : Int), out ++ (doL m (ops.getD k z_Op)).2.1))) :
    loopO step (l0, 0, []) = some (txnGo l0 ops l0 []) := by
  obtain ⟨r, h1, h2⟩ := loopO_wf (step := step)
    (fun s => ∃ i : Nat, s.2.1 = (i : Int) ∧ i ≤ ops.length ∧ Sorted s.1 ∧ s.2.2.length ≤ 8 * i ∧ txnGo l0 (ops.drop i) s.1 s.2.2 = txnGo l0 ops l0 [])
    (fun r => r = txnGo l0 ops l0 []) (fun s => (ops.length - s.2.1).toNat) (fun s hI => by
      obtain ⟨m, k, out⟩ := s
      obtain ⟨i, hk, hi, hs, hout, hgo⟩ := hI
      simp only at hk hs hout hgo
      subst hk
      rcases Nat.lt_or_ge i ops.length with h | h
      · have hd : ops.drop i = ops.getD i z_Op :: ops.drop (i + 1) := by
          rw [getD_lt h]; exact List.drop_eq_getElem_cons h
        have hoi := ho _ (getD_mem h z_Op)
        rw [hd] at hgo
        simp only [txnGo] at hgo
        rw [hstep m i out hs h (by omega)]
        cases hb : (doL m (ops.getD i z_Op)).2.2 != 0
        · rw [hb] at hgo
          have hdl := doL_len m (ops.getD i z_Op) (opOK_scan hoi)
          refine .inl ⟨_, rfl, ⟨i + 1, rfl, by omega, sorted_do hs hoi, ?_, hgo⟩, ?_⟩
          · simp only [List.length_append]; omega
          · simp only []; omega
        · rw [hb] at hgo
          exact .inr ⟨_, rfl, hgo⟩
      · have e : i = ops.length := by omega
        subst e
        rw [List.drop_length] at hgo
        exact .inr ⟨_, hend m out, hgo⟩) _ (l0, 0, []) (Nat.le_refl _) ⟨0, rfl, Nat.zero_le _, hs0, Nat.zero_le _, rfl⟩
  rw [h1, h2]
theorem txnGo_len (l0 : List S_Entry) (h0 : l0.length ≤ 11) : ∀ (ops : List S_Op) (m : List S_Entry) (out : List Int), (∀ o ∈ ops, opOK o = true) → Sorted m → match txnGo l0 ops m out with | .out (a, b) => a.length ≤ 11 ∧ b.length ≤ out.length + 8 * ops.length ∧ Sorted a | .ret r => r.1.length ≤ 11 ∧ r.2.Values.length = 0
  | [], m, out, _, hs => ⟨hs.short, by simp, hs⟩
  | o :: r, m, out, ho, hs => by
    have hoi := ho o (List.mem_cons_self ..)
    have hdl := doL_len m o (opOK_scan hoi)
    simp only [txnGo]
    cases (doL m o).2.2 != 0
    · have := txnGo_len l0 h0 r (doL m o).1 (out ++ (doL m o).2.1) (fun q hq => ho q (List.mem_cons_of_mem _ hq)) (sorted_do hs hoi)
      simp only [cond_false]
      revert this
      cases txnGo l0 r (doL m o).1 (out ++ (doL m o).2.1) with
      | out x => intro h; refine ⟨h.1, ?_, h.2.2⟩; have := h.2.1; simp only [List.length_append, List.length_cons] at this ⊢; omega
      | ret x => exact id
    · exact ⟨h0, rfl⟩
theorem txnGo_sorted (l0 : List S_Entry) (h0 : Sorted l0) : ∀ (ops : List S_Op) (m : List S_Entry) (out : List Int), (∀ o ∈ ops, opOK o = true) → Sorted m → match txnGo l0 ops m out with | .out a => Sorted a.1 | .ret r => Sorted r.1
  | [], m, out, _, hs => hs
  | o :: r, m, out, ho, hs => by
    have hoi := ho o (List.mem_cons_self ..)
    simp only [txnGo]
    cases (doL m o).2.2 != 0
    · exact txnGo_sorted l0 h0 r (doL m o).1 (out ++ (doL m o).2.1) (fun q hq => ho q (List.mem_cons_of_mem _ hq)) (sorted_do hs hoi)
    · exact h0
def TxnR (t : S_Txn) : Prop := t.Ops.length ≤ 4 ∧ ∀ o ∈ t.Ops, opOK o = true

theorem within_eq (x lo hi : Int) : impl_within.f x lo hi = some (inB x lo hi) := by
  unfold impl_within.f inB; cases decide (lo ≤ x) <;> rfl

theorem isKey_eq (x : Int) : impl_isKey.f x = some (inB x 1 9999) := by unfold impl_isKey.f; rw [within_eq]; rfl

theorem isValue_eq (x : Int) : impl_isValue.f x = some (inB x 0 999999) := by unfold impl_isValue.f; rw [within_eq]; rfl

theorem impl_MapOK_eq (l : List S_Entry) (h : l.length ≤ 1073741824) : impl_MapOK.f l = some (mapOK l) := by
  unfold impl_MapOK.f
  have := loopO_scan (step := fun s => impl_MapOK.s0 l s) (fun k => (k : Int)) l.length (mapP l) (b := false) (t := ()) (fun k hk => by
    simp only [impl_MapOK.s0, isKey_eq, isValue_eq, Option.bind_some, Int.toNat_natCast, decide_eq_true (show (k : Int) < (l.length : Int) by omega), cond_true, if_pos (show 0 ≤ (k : Int) ∧ (k : Int) < (l.length : Int) by omega), mapP]
    rw [w64_id (x := (k : Int) + 1) (by omega) (by omega)]
    cases inB (l.getD k z_Entry).Key 1 9999
    · rfl
    cases inB (l.getD k z_Entry).Value 0 999999
    · rfl
    cases k with
    | zero => rfl
    | succ k =>
      rw [w64_id (x := ((k + 1 : Nat) : Int) - 1) (by omega) (by omega)]
      have e : (((k + 1 : Nat) : Int) - 1).toNat = k := by omega
      have e2 : ((k + 1 : Nat) : Int) > 0 := by omega
      simp only [decide_eq_true e2, if_pos (show 0 ≤ ((k + 1 : Nat) : Int) - 1 ∧ ((k + 1 : Nat) : Int) - 1 < (l.length : Int) by omega), e, Nat.add_sub_cancel]
      by_cases hC : (l.getD k z_Entry).Key < (l.getD (k + 1) z_Entry).Key
      · rw [decide_eq_true hC, decide_eq_false (by omega)]; rfl
      · rw [decide_eq_false hC, decide_eq_true (by omega)]; rfl) (by
    simp only [impl_MapOK.s0]
    rw [decide_eq_false (by omega)]; rfl)
  rw [show ((0 : Int)) = ((0 : Nat) : Int) from rfl, this]
  unfold mapOK
  have e : decide ((l.length : Int) ≤ 11) = decide (l.length ≤ 11) := by
    by_cases h : l.length ≤ 11
    · rw [decide_eq_true h, decide_eq_true (by omega)]
    · rw [decide_eq_false h, decide_eq_false (by omega)]
  cases (List.range l.length).all (mapP l)
  · rfl
  · simp [e]

theorem impl_OpOK_eq (o : S_Op) : impl_OpOK.f o = some (opOK o) := by
  unfold impl_OpOK.f impl_isBare.f opOK
  simp only [within_eq, isKey_eq, isValue_eq, Option.bind_some]
  cases inB o.Kind 1 6 <;> cases inB o.Key 1 9999 <;> cases o.Kind == 1 <;> cases o.Kind == 3 <;> cases o.Kind == 6 <;> rfl

theorem mid_eq (i j : Nat) (h : i ≤ j) (hj : j ≤ 1073741824) : IntKind.wrap .i64 (Int.fdiv (IntKind.wrap .u64 (w64 ((i : Int) + j))) (2 ^ 1)) = (((i + j) / 2 : Nat) : Int) := by
  rw [w64_id (by omega) (by omega)]
  have h1 : IntKind.wrap .u64 ((i : Int) + j) = (i : Int) + j := by
    rw [wrap_u64]; omega
  rw [h1]
  have h2 : Int.fdiv ((i : Int) + j) (2 ^ 1) = (((i + j) / 2 : Nat) : Int) := by
    rw [Int.fdiv_eq_ediv_of_nonneg _ (by decide)]
    omega
  rw [h2]
  exact w64_id (by omega) (by omega)
theorem find_eq (l : List S_Entry) (x : Int) (hs : Sorted l) (hx : 1 ≤ x ∧ x ≤ 9999) : impl_find.f l x = some ((place l x : Int), found l x) := by
  unfold impl_find.f slices_BinarySearchFunc_impl_Entry_impl_Entry_int.f
  have hn := hs.short
  obtain ⟨r, h1, h2⟩ := loopO_wf (step := fun s : Int × Int => slices_BinarySearchFunc_impl_Entry_impl_Entry_int.s0 l x impl_find_c1.f s.1 s.2)
    (fun s => ∃ i j : Nat, s = ((i : Int), (j : Int)) ∧ i ≤ j ∧ j ≤ l.length ∧ (∀ t, t < i → (l.getD t z_Entry).Key < x) ∧ (∀ t, j ≤ t → t < l.length → x ≤ (l.getD t z_Entry).Key))
    (fun r => r = .out (place l x : Int)) (fun s => (s.2 - s.1).toNat) (fun s hI => by
      obtain ⟨i, j, rfl, hij, hj, hlo, hhi⟩ := hI
      by_cases hlt : i < j
      · have hm := mid_eq i j hij (by omega)
        have hmlt : (i + j) / 2 < l.length := by omega
        have hk := hs.key _ hmlt
        simp only [slices_BinarySearchFunc_impl_Entry_impl_Entry_int.s0, decide_eq_true (show (i : Int) < (j : Int) by omega), cond_true, hm, if_pos (show (0 : Int) ≤ (((i + j) / 2 : Nat) : Int) ∧ (((i + j) / 2 : Nat) : Int) < (l.length : Int) by omega), Int.toNat_natCast, impl_find_c1.f, Option.bind_some]
        rw [w64_id (x := (l.getD ((i + j) / 2) z_Entry).Key - x) (by omega) (by omega)]
        by_cases hc : (l.getD ((i + j) / 2) z_Entry).Key < x
        · rw [decide_eq_true (by omega), w64_id (by omega) (by omega)]
          refine .inl ⟨_, rfl, ⟨(i + j) / 2 + 1, j, by simp, by omega, hj, fun t ht => ?_, hhi⟩, by simp only []; omega⟩
          rcases Nat.lt_or_ge t ((i + j) / 2) with h | h
          · have := hs.up _ _ h hmlt; omega
          · have : t = (i + j) / 2 := by omega
            rw [this]; exact hc
        · rw [decide_eq_false (by omega)]
          refine .inl ⟨_, rfl, ⟨i, (i + j) / 2, rfl, by omega, by omega, hlo, fun t ht ht2 => ?_⟩, by simp only []; omega⟩
          rcases Nat.lt_or_ge ((i + j) / 2) t with h | h
          · have := hs.up _ _ h ht2; omega
          · have : t = (i + j) / 2 := by omega
            rw [this]; omega
      · have e : i = j := by omega
        subst e
        refine .inr ⟨.out (i : Int), ?_, ?_⟩
        · simp only [slices_BinarySearchFunc_impl_Entry_impl_Entry_int.s0]
          rw [decide_eq_false (by omega)]; rfl
        · rw [place_eq (l := l) (x := x) hj hlo (fun h => hhi i (Nat.le_refl _) h)]) _ (0, (l.length : Int)) (Nat.le_refl _) ⟨0, l.length, rfl, Nat.zero_le _, Nat.le_refl _, fun t ht => by omega, fun t h1 h2 => by omega⟩
  rw [h1, h2]
  have hp := place_le l x
  simp only [Option.bind_some]
  unfold found
  by_cases hlt : place l x < l.length
  · have hk := hs.key _ hlt
    rw [decide_eq_true (show (place l x : Int) < (l.length : Int) by omega), decide_eq_true hlt]
    simp only [cond_true, if_pos (show (0 : Int) ≤ (place l x : Int) ∧ (place l x : Int) < (l.length : Int) by omega), Int.toNat_natCast, impl_find_c1.f, Option.bind_some, Bool.true_and]
    rw [w64_id (by omega) (by omega)]
    congr 2
    generalize (l.getD (place l x) z_Entry).Key = y
    rw [Bool.eq_iff_iff, beq_iff_eq, beq_iff_eq]
    omega
  · rw [decide_eq_false (show ¬ (place l x : Int) < (l.length : Int) by omega), decide_eq_false hlt]
    rfl

theorem impl_scan_eq (l : List S_Entry) (k : Int) (n : Nat) (hs : Sorted l) (hk : 1 ≤ k ∧ k ≤ 9999) (hn : n ≤ 4) : impl_scan.f l k n = some (scanL l (place l k) n) := by
  unfold impl_scan.f
  rw [find_eq l k hs hk]
  simp only [Option.bind_some]
  have hp := place_le l k
  have hsh := hs.short
  have := loopO_run (step := fun s : Int × Int × List Int => impl_scan.s0 l s.1 s.2.1 s.2.2) (fun t => ((n : Int) - t, ((place l k + t : Nat) : Int), scanL l (place l k) t)) n (r := .out (scanL l (place l k) n)) (fun t ht => by
    have hl := scanL_len l (place l k) t
    simp only [impl_scan.s0, decide_eq_true (show (n : Int) - t > 0 by omega), cond_true]
    rw [w64_id (x := (n : Int) - t - 1) (by omega) (by omega), w64_id (x := ((place l k + t : Nat) : Int) + 1) (by omega) (by omega), show (n : Int) - t - 1 = (n : Int) - ((t + 1 : Nat) : Int) by omega, show ((place l k + t : Nat) : Int) + 1 = ((place l k + (t + 1) : Nat) : Int) by omega]
    by_cases h : place l k + t < l.length
    · simp only [decide_eq_true (show ((place l k + t : Nat) : Int) < (l.length : Int) by omega), cond_true, if_pos (show (0 : Int) ≤ ((place l k + t : Nat) : Int) ∧ ((place l k + t : Nat) : Int) < (l.length : Int) by omega), Int.toNat_natCast]
      rw [if_pos (by rw [hl]; simp only [List.length_cons, List.length_nil]; omega)]
      simp only [Option.bind_some, scanL, cellL, if_pos h]
    · simp only [decide_eq_false (show ¬ ((place l k + t : Nat) : Int) < (l.length : Int) by omega), cond_false]
      rw [if_pos (by rw [hl]; simp only [List.length_cons, List.length_nil]; omega)]
      simp only [Option.bind_some, scanL, cellL, if_neg h]) (by
    simp only [impl_scan.s0, decide_eq_false (show ¬ ((n : Int) - n > 0) by omega), cond_false])
  have h0 : ((n : Int), ((place l k : Nat) : Int), ([] : List Int)) = (fun t : Nat => ((n : Int) - t, ((place l k + t : Nat) : Int), scanL l (place l k) t)) 0 := by simp [scanL]
  rw [h0, this]
  rfl

theorem clone_eq (l : List S_Entry) (h : l.length ≤ 1073741824) : slices_Clone_impl_Entry_impl_Entry.f l = some l := by unfold slices_Clone_impl_Entry_impl_Entry.f; rw [if_pos h]
theorem set_put {α : Type} (l : List α) (i : Nat) (x : α) (h : i < l.length) : l.set i x = l.take i ++ [x] ++ l.drop (i + 1) := by
  rw [List.set_eq_take_append_cons_drop, if_pos h]; simp
theorem impl_put_eq (l : List S_Entry) (k v : Int) (hs : Sorted l) (hk : 1 ≤ k ∧ k ≤ 9999) : impl_put.f l k v = some (bif (!found l k) && ((l.length : Int) == 11) then (l, false) else (putL l k v, true)) := by
  have hp := place_le l k
  have hsh := hs.short
  unfold impl_put.f
  rw [find_eq l k hs hk, clone_eq l (by omega)]
  simp only [Option.bind_some]
  cases hf : found l k
  · cases h11 : ((l.length : Int) == 11)
    · simp only [cond_false, cond_true, Bool.not_false, Bool.and_false]
      rw [if_pos (by simp only [List.length_cons, List.length_nil]; omega)]
      simp only [Option.bind_some, Int.toNat_natCast, insL, putL, hf, cond_false]
    · simp only [cond_false, cond_true, Bool.not_false, Bool.and_true, Option.bind_some]
  · obtain ⟨h1, h2⟩ := found_lt hf
    simp only [cond_true, Bool.not_true, Bool.false_and, cond_false, if_pos (show (0 : Int) ≤ ((place l k : Nat) : Int) ∧ ((place l k : Nat) : Int) < (l.length : Int) by omega), Option.bind_some, Int.toNat_natCast, h2]
    rw [set_put l _ _ h1]
    simp only [putL, hf, cond_true]

theorem impl_do_eq (l : List S_Entry) (o : S_Op) (hs : Sorted l) (ho : opOK o = true) : impl_do.f l o = some (doL l o) := by
  have hsh := hs.short
  unfold opOK at ho
  simp only [Bool.and_eq_true, inB_iff] at ho
  obtain ⟨⟨hkd, hk⟩, hv⟩ := ho
  have hp := place_le l o.Key
  have hfv := foundV_rng hs o.Key
  have e10 : (bif found l o.Key then (if (0 : Int) ≤ ((place l o.Key : Nat) : Int) ∧ ((place l o.Key : Nat) : Int) < (l.length : Int) then (some ((l.getD (((place l o.Key : Nat) : Int)).toNat z_Entry).Value)) else none) else (some 0)) = some (foundV l o.Key) := by
    unfold foundV
    cases hf : found l o.Key
    · rfl
    · obtain ⟨h1, h2⟩ := found_lt hf
      simp only [cond_true, if_pos (show (0 : Int) ≤ ((place l o.Key : Nat) : Int) ∧ ((place l o.Key : Nat) : Int) < (l.length : Int) by omega), Int.toNat_natCast]
  unfold impl_do.f
  rw [find_eq l o.Key hs hk]
  simp only [Option.bind_some, e10]
  unfold doL
  cases h1 : o.Kind == 1
  case true => simp only [cond_true]; cases hf : found l o.Key <;> simp [foundV, hf]
  simp only [cond_false, h1, Bool.false_or] at hv ⊢
  cases h3 : o.Kind == 3
  case true =>
    simp only [cond_true]
    cases hf : found l o.Key
    · rfl
    · obtain ⟨h4, h5⟩ := found_lt hf
      rw [clone_eq l (by omega)]
      simp only [Option.bind_some, cond_true]
      rw [w64_id (by omega) (by omega), if_pos (by omega), show ((place l o.Key : Nat) : Int) + 1 = ((place l o.Key + 1 : Nat) : Int) by omega, Int.toNat_natCast, Int.toNat_natCast]
  simp only [cond_false, h3] at hv ⊢
  cases h4 : o.Kind == 4
  case true =>
    simp only [cond_true]
    cases found l o.Key
    · rfl
    · simp only [Bool.not_true, Bool.false_or, cond_false, Option.bind_some]
      cases foundV l o.Key != o.Value <;> rfl
  simp only [cond_false]
  cases h6 : o.Kind == 6
  case true =>
    simp only [h6, cond_true, inB_iff] at hv
    simp only [cond_true]
    have e : o.Value = ((o.Value.toNat : Nat) : Int) := by omega
    have := impl_scan_eq l o.Key o.Value.toNat hs hk (by omega)
    rw [← e] at this
    rw [this]; rfl
  simp only [h6, cond_false, inB_iff] at hv
  simp only [cond_false]
  unfold impl_do2.f
  cases h5 : o.Kind == 5
  case true =>
    have h2 : (o.Kind == 2) = false := by
      simp only [beq_iff_eq] at h5
      rw [h5]; rfl
    simp only [cond_true, Option.bind_some, h2, cond_false]
    rw [w64_id (by omega) (by omega), impl_put_eq l o.Key _ hs hk]
    rw [show o.Value + foundV l o.Key = foundV l o.Key + o.Value by omega]
    cases (!found l o.Key) && ((l.length : Int) == 11)
    · simp only [cond_false, Option.bind_some, Bool.not_true, isValue_eq]
      by_cases hb : foundV l o.Key + o.Value > 999999
      · rw [decide_eq_true hb, show inB (foundV l o.Key + o.Value) 0 999999 = false by rw [← Bool.not_eq_true, inB_iff]; omega]; rfl
      · rw [decide_eq_false hb, show inB (foundV l o.Key + o.Value) 0 999999 = true by rw [inB_iff]; omega]; rfl
    · rfl
  case false =>
    have h2 : (o.Kind == 2) = true := by
      simp only [beq_eq_false_iff_ne, ne_eq] at h1 h3 h4 h5 h6
      rw [beq_iff_eq]; omega
    simp only [cond_false, Option.bind_some, h2, cond_true]
    rw [impl_put_eq l o.Key _ hs hk]
    cases (!found l o.Key) && ((l.length : Int) == 11)
    · simp only [cond_false, Option.bind_some, Bool.not_true, isValue_eq]
      rw [show inB o.Value 0 999999 = true by rw [inB_iff]; omega]; rfl
    · rfl

theorem mapDo_eq (m : List S_Entry) (o : S_Op) (hs : Sorted m) (ho : opOK o = true) : impl_MapDo.f m o = some (doL m o) := by
  have hsh := hs.short
  obtain ⟨q1, q2⟩ := doL_len m o (opOK_scan ho)
  unfold impl_MapDo.f
  rw [decide_eq_false (by omega)]
  simp only [cond_false, impl_MapOK_eq m (by omega), sorted_mapOK hs, impl_OpOK_eq, ho, Bool.not_true, Option.bind_some, impl_do_eq m o hs ho]
  rw [clone_eq _ (by omega)]
  rfl

theorem wf_u8 {y : Int} (h : (Lit.int .u8 y).wf = true) : 0 ≤ y ∧ y ≤ 255 := by
  have h2 := h
  simp [Lit.wf, IntKind.min, IntKind.max, IntKind.signed, IntKind.bits] at h2
  omega
theorem src_new (l : List Int) (hl : l.length ≤ 1048576) (hb : isB l) : ∃ s, spec_l00Source.f l = some ⟨l, 0, s⟩ ∧ SrcB l 0 s 0 := by
  refine ⟨_, rfl, hl, hb, by omega, by omega, ?_⟩
  have := tmod_lt (show (0 : Int) ≤ (l.length : Int) by omega) (show (0 : Int) < 1000 by omega)
  omega

theorem src_byte (x0 : S_l00Src) (B : Int) (h : SrcB x0.code x0.at_ x0.seed B) (hB : B ≤ 2305843009213693952) : ∃ v a s, spec_l00Src_byte.f x0 = some (v, a, s) ∧ 0 ≤ v ∧ v ≤ 255 ∧ SrcB x0.code a s (B + 1) := by
  obtain ⟨code, at', seed⟩ := x0
  obtain ⟨hl, hb, h0, h1, h2, h3⟩ := h
  simp only at hl hb h0 h1 h2 h3
  unfold spec_l00Src_byte.f
  simp only [w64_id (x := at' + 1) (by omega) (by omega)]
  by_cases c : at' + 1 ≤ (code.length : Int)
  · rw [decide_eq_true c]
    have e1 : w64 (at' + 1 - 1) = at' := by rw [w64_id (by omega) (by omega)]; omega
    simp only [cond_true, e1]
    rw [if_pos (by omega), if_pos (by omega)]
    obtain ⟨q1, q2⟩ := getD_isB hb at'.toNat
    generalize code.getD at'.toNat 0 = v at q1 q2 ⊢
    have e2 : IntKind.wrap .i64 v = v := w64_id (by omega) (by omega)
    rw [e2, w64_id (x := seed * 31) (by omega) (by omega), w64_id (x := seed * 31 + v) (by omega) (by omega), w64_id (by omega) (by omega)]
    refine ⟨_, _, _, rfl, by omega, by omega, hl, hb, by omega, by omega, ?_, ?_⟩
    · rw [Int.tmod_eq_emod_of_nonneg (by omega)]; omega
    · rw [Int.tmod_eq_emod_of_nonneg (by omega)]; omega
  · rw [decide_eq_false c]
    simp only [cond_false]
    by_cases c2 : at' + 1 > 3000
    · rw [decide_eq_true c2]
      exact ⟨_, _, _, rfl, by omega, by omega, hl, hb, by omega, by omega, h2, h3⟩
    · rw [decide_eq_false c2]
      simp only [cond_false]
      rw [w64_id (x := seed * 1103515245) (by omega) (by omega), w64_id (by omega) (by omega)]
      have e3 : Int.tmod (seed * 1103515245 + 12345) 2147483648 = (seed * 1103515245 + 12345) % 2147483648 := Int.tmod_eq_emod_of_nonneg (by omega)
      rw [e3]
      have e4 : Int.tdiv ((seed * 1103515245 + 12345) % 2147483648) 65536 = (seed * 1103515245 + 12345) % 2147483648 / 65536 := Int.tdiv_eq_ediv_of_nonneg (by omega)
      rw [e4]
      have e5 : IntKind.wrap .i64 ((seed * 1103515245 + 12345) % 2147483648 / 65536) = (seed * 1103515245 + 12345) % 2147483648 / 65536 := w64_id (by omega) (by omega)
      rw [e5]
      have e6 : Int.tmod ((seed * 1103515245 + 12345) % 2147483648 / 65536) 256 = ((seed * 1103515245 + 12345) % 2147483648 / 65536) % 256 := Int.tmod_eq_emod_of_nonneg (by omega)
      rw [e6]
      exact ⟨_, _, _, rfl, by omega, by omega, hl, hb, by omega, by omega, by omega, by omega⟩

theorem src_next (x0 : S_l00Src) (n B : Int) (h : SrcB x0.code x0.at_ x0.seed B) (hB : B ≤ 1152921504606846976) : ∃ v a s, spec_l00Src_next.f x0 n = some (v, a, s) ∧ 0 ≤ v ∧ (v < n ∨ v = 0) ∧ SrcB x0.code a s (B + 3) := by
  unfold spec_l00Src_next.f
  by_cases c : n ≤ 1
  · rw [decide_eq_true c]; exact ⟨_, _, _, rfl, by omega, .inr rfl, h.up (by omega)⟩
  rw [decide_eq_false c]
  simp only [cond_false]
  by_cases c2 : n ≤ 256
  · obtain ⟨v, a, s, e, h0, h1, h2⟩ := src_byte x0 B h (by omega)
    rw [decide_eq_true c2, e]
    simp only [cond_true, Option.bind_some]
    rw [if_neg (by omega)]
    obtain ⟨q1, q2⟩ := tmod_lt h0 (show 0 < n by omega)
    exact ⟨_, _, _, rfl, q1, .inl q2, h2.up (by omega)⟩
  · rw [decide_eq_false c2]
    obtain ⟨v1, a1, s1, e1, h01, h11, h21⟩ := src_byte x0 B h (by omega)
    obtain ⟨v2, a2, s2, e2, h02, h12, h22⟩ := src_byte ⟨x0.code, a1, s1⟩ (B + 1) h21 (by omega)
    obtain ⟨v3, a3, s3, e3, h03, h13, h23⟩ := src_byte ⟨x0.code, a2, s2⟩ (B + 2) (h22.up (by omega)) (by omega)
    simp only [cond_false, e1, e2, e3, Option.bind_some]
    rw [if_neg (by omega)]
    rw [w64_id (x := v1 * 65536) (by omega) (by omega), w64_id (x := v2 * 256) (by omega) (by omega), w64_id (x := v1 * 65536 + v2 * 256) (by omega) (by omega), w64_id (by omega) (by omega)]
    obtain ⟨q1, q2⟩ := tmod_lt (show 0 ≤ v1 * 65536 + v2 * 256 + v3 by omega) (show 0 < n by omega)
    exact ⟨_, _, _, rfl, q1, .inl q2, h23.up (by omega)⟩

theorem l10Find_eq (l : List S_Entry) (x : Int) (hs : Sorted l) : spec_l10Find.f l x = some (bif found l x then (place l x : Int) else -1) := by
  have hn := hs.short
  have hp := place_le l x
  unfold spec_l10Find.f
  by_cases hf : found l x = true
  · have hf' := hf
    unfold found at hf'
    simp only [Bool.and_eq_true, decide_eq_true_eq, beq_iff_eq] at hf'
    obtain ⟨h1, h2⟩ := hf'
    have := loopO_run (step := fun s => spec_l10Find.s0 l x s) (fun k => (k : Int)) (place l x) (r := .ret (place l x : Int)) (fun k hk => by
      have h3 := place_lt hk
      simp only [spec_l10Find.s0, decide_eq_true (show (k : Int) < (l.length : Int) by omega), cond_true, if_pos (show (0 : Int) ≤ (k : Int) ∧ (k : Int) < (l.length : Int) by omega), Int.toNat_natCast]
      rw [show ((l.getD k z_Entry).Key == x) = false from by simp only [beq_eq_false_iff_ne]; omega, w64_id (by omega) (by omega)]
      rfl) (by
      simp only [spec_l10Find.s0, decide_eq_true (show (place l x : Int) < (l.length : Int) by omega), cond_true, if_pos (show (0 : Int) ≤ (place l x : Int) ∧ (place l x : Int) < (l.length : Int) by omega), Int.toNat_natCast]
      rw [show ((l.getD (place l x) z_Entry).Key == x) = true from by simp only [beq_iff_eq]; exact h2]
      rfl)
    rw [show ((0 : Int)) = ((0 : Nat) : Int) from rfl, this, hf]
    rfl
  · have hf' : found l x = false := by simpa using hf
    have := loopO_run (step := fun s => spec_l10Find.s0 l x s) (fun k => (k : Int)) l.length (r := .out ()) (fun k hk => by
      have hne : (l.getD k z_Entry).Key ≠ x := fun e => by
        apply hf
        rcases Nat.lt_or_ge k (place l x) with h | h
        · have := place_lt h; omega
        · have h1 := place_ge (l := l) (x := x) (by omega)
          rcases Nat.lt_or_ge (place l x) k with h2 | h2
          · have := hs.up _ _ h2 hk; omega
          · have : k = place l x := by omega
            unfold found
            rw [← this, decide_eq_true hk, e]; simp
      simp only [spec_l10Find.s0, decide_eq_true (show (k : Int) < (l.length : Int) by omega), cond_true, if_pos (show (0 : Int) ≤ (k : Int) ∧ (k : Int) < (l.length : Int) by omega), Int.toNat_natCast]
      rw [show ((l.getD k z_Entry).Key == x) = false from by simp only [beq_eq_false_iff_ne]; exact hne, w64_id (by omega) (by omega)]
      rfl) (by
      simp only [spec_l10Find.s0]
      rw [decide_eq_false (by omega)]; rfl)
    rw [show ((0 : Int)) = ((0 : Nat) : Int) from rfl, this, hf']
    rfl

theorem l10Put_eq (l : List S_Entry) (k v : Int) (hs : Sorted l) : spec_l10Put.f l k v = some (putL l k v) := by
  have hp := place_le l k
  have hsh := hs.short
  unfold spec_l10Put.f
  have := loopO_run (step := fun s => spec_l10Put.s0 l k s) (fun t => (t : Int)) (place l k) (r := .out ((place l k : Nat) : Int)) (fun t ht => by
    have h3 := place_lt ht
    simp only [spec_l10Put.s0, decide_eq_true (show (t : Int) < (l.length : Int) by omega), cond_true, if_pos (show (0 : Int) ≤ (t : Int) ∧ (t : Int) < (l.length : Int) by omega), Int.toNat_natCast, Option.bind_some, decide_eq_true h3]
    rw [w64_id (by omega) (by omega)]; rfl) (by
    by_cases h : place l k < l.length
    · have h4 := place_ge h
      simp only [spec_l10Put.s0, decide_eq_true (show ((place l k : Nat) : Int) < (l.length : Int) by omega), cond_true, if_pos (show (0 : Int) ≤ ((place l k : Nat) : Int) ∧ ((place l k : Nat) : Int) < (l.length : Int) by omega), Int.toNat_natCast, Option.bind_some]
      rw [decide_eq_false (by omega)]; rfl
    · simp only [spec_l10Put.s0]
      rw [decide_eq_false (by omega)]; rfl)
  rw [show ((0 : Int)) = ((0 : Nat) : Int) from rfl, this]
  have e1 : (bif decide (((place l k : Nat) : Int) < (l.length : Int)) then (if (0 : Int) ≤ ((place l k : Nat) : Int) ∧ ((place l k : Nat) : Int) < (l.length : Int) then (some (((l.getD (((place l k : Nat) : Int)).toNat z_Entry).Key) == k)) else none) else (some false)) = some (found l k) := by
    unfold found
    by_cases h : place l k < l.length
    · rw [decide_eq_true h, decide_eq_true (show ((place l k : Nat) : Int) < (l.length : Int) by omega)]
      simp only [cond_true, if_pos (show (0 : Int) ≤ ((place l k : Nat) : Int) ∧ ((place l k : Nat) : Int) < (l.length : Int) by omega), Int.toNat_natCast, Bool.true_and]
    · rw [decide_eq_false h, decide_eq_false (show ¬ ((place l k : Nat) : Int) < (l.length : Int) by omega)]; rfl
  simp only [Option.bind_some, if_pos (show ((0 : Nat) : Int) ≤ ((place l k : Nat) : Int) ∧ ((place l k : Nat) : Int) ≤ (l.length : Int) by omega)]
  have e1' := e1
  simp only [show (0 : Int) = ((0 : Nat) : Int) from rfl] at e1'
  first
    | rw [e1]
    | rw [e1']
  simp only [Option.bind_some]
  unfold putL
  cases hf : found l k
  · simp only [cond_false, Option.bind_some, Int.toNat_natCast]
    rw [if_pos (by simp only [List.length_take, List.length_nil]; omega), if_pos (by simp only [List.length_append, List.length_take, List.length_nil, List.length_cons]; omega), if_pos (by simp only [List.length_append, List.length_take, List.length_nil, List.length_cons, List.length_drop]; omega), List.nil_append]
  · obtain ⟨h1, h2⟩ := found_lt hf
    simp only [cond_true]
    rw [w64_id (by omega) (by omega), if_pos (by omega), show ((place l k : Nat) : Int) + 1 = ((place l k + 1 : Nat) : Int) by omega]
    simp only [Option.bind_some, Int.toNat_natCast]
    rw [if_pos (by simp only [List.length_take, List.length_nil]; omega), if_pos (by simp only [List.length_append, List.length_take, List.length_nil, List.length_cons]; omega), if_pos (by simp only [List.length_append, List.length_take, List.length_nil, List.length_cons, List.length_drop]; omega), List.nil_append]

theorem l10Do_eq (l : List S_Entry) (o : S_Op) (hs : Sorted l) (ho : opOK o = true) : spec_l10Do.f l o = some (doL l o) := by
  have hsh := hs.short
  unfold opOK at ho
  simp only [Bool.and_eq_true, inB_iff] at ho
  obtain ⟨⟨hkd, hk⟩, hv⟩ := ho
  have hp := place_le l o.Key
  have hfv := foundV_rng hs o.Key
  obtain ⟨y, hy⟩ : ∃ y : Int, y = (bif found l o.Key then ((place l o.Key : Nat) : Int) else -1) := ⟨_, rfl⟩
  have hge : decide (y ≥ 0) = found l o.Key := by
    rw [hy]
    cases found l o.Key
    · rfl
    · exact decide_eq_true (by simp only [cond_true]; omega)
  have hlt : decide (y < 0) = !found l o.Key := by
    rw [hy]
    cases found l o.Key
    · rfl
    · exact decide_eq_false (by simp only [cond_true]; omega)
  have e10 : (bif decide (y ≥ 0) then (if (0 : Int) ≤ y ∧ y < (l.length : Int) then (some ((l.getD y.toNat z_Entry).Value)) else none) else (some 0)) = some (foundV l o.Key) := by
    unfold foundV
    rw [hge, hy]
    cases hf : found l o.Key
    · rfl
    · obtain ⟨h1, h2⟩ := found_lt hf
      simp only [cond_true, if_pos (show (0 : Int) ≤ ((place l o.Key : Nat) : Int) ∧ ((place l o.Key : Nat) : Int) < (l.length : Int) by omega), Int.toNat_natCast]
  rw [hge] at e10
  unfold spec_l10Do.f
  rw [l10Find_eq l o.Key hs, ← hy]
  simp only [Option.bind_some, hge, e10, hlt, spec_l01Bit.f]
  unfold doL
  cases h1 : o.Kind == 1
  case true => simp only [cond_true]; cases hf : found l o.Key <;> simp [foundV, hf]
  simp only [cond_false, h1, Bool.false_or] at hv ⊢
  cases h3 : o.Kind == 3
  case true =>
    simp only [cond_true]
    cases hf : found l o.Key
    · rfl
    · obtain ⟨h4, h5⟩ := found_lt hf
      have hy' : y = ((place l o.Key : Nat) : Int) := by rw [hy, hf]; rfl
      rw [hy']
      simp only [cond_true]
      rw [w64_id (by omega) (by omega), if_pos (by omega), if_pos (by omega), show ((place l o.Key : Nat) : Int) + 1 = ((place l o.Key + 1 : Nat) : Int) by omega, Int.toNat_natCast, Int.toNat_natCast, if_pos (by simp only [List.length_take, List.length_nil]; omega), List.nil_append, if_pos (by simp only [List.length_take, List.length_drop]; omega)]
      rfl
  simp only [cond_false, h3] at hv ⊢
  cases h4 : o.Kind == 4
  case true =>
    simp only [cond_true]
    cases found l o.Key
    · rfl
    · simp only [Bool.not_true, Bool.false_or, cond_false, Option.bind_some]
      cases foundV l o.Key != o.Value <;> rfl
  simp only [cond_false]
  cases h6 : o.Kind == 6
  case true =>
    simp only [h6, cond_true, inB_iff] at hv
    simp only [cond_true]
    obtain ⟨n, hn⟩ : ∃ n : Nat, o.Value = (n : Int) := ⟨o.Value.toNat, by omega⟩
    have hn4 : 1 ≤ n ∧ n ≤ 4 := by omega
    obtain ⟨E, hE⟩ : ∃ E, E = min l.length (place l o.Key + n) := ⟨_, rfl⟩
    have hEl : E ≤ l.length := by omega
    have hEn : E ≤ place l o.Key + n := by omega
    have hpE : place l o.Key ≤ E := by omega
    have w2 : w64 (2 * o.Value) = 2 * o.Value := w64_id (by omega) (by omega)
    have r1 := loopO_run (step := fun s : List Int × Int => spec_l10Do.s0 l o s.1 s.2) (fun i => (scanL l (place l o.Key) (i - place l o.Key), (i : Int))) E (r := .out (scanL l (place l o.Key) (E - place l o.Key))) (fun i hi => by
      have hl := scanL_len l (place l o.Key) (i - place l o.Key)
      simp only [spec_l10Do.s0, w2, decide_eq_true (show (i : Int) < (l.length : Int) by omega), cond_true, Option.bind_some, if_pos (show (0 : Int) ≤ (i : Int) ∧ (i : Int) < (l.length : Int) by omega), Int.toNat_natCast, hl]
      rw [decide_eq_true (show ((2 * (i - place l o.Key) : Nat) : Int) < 2 * o.Value by omega), w64_id (by omega) (by omega), show (i : Int) + 1 = ((i + 1 : Nat) : Int) by omega]
      rcases Nat.lt_or_ge i (place l o.Key) with h | h
      · have h7 := place_lt h
        rw [decide_eq_false (by omega)]
        simp only [cond_true, cond_false, Option.bind_some]
        rw [show i - place l o.Key = 0 by omega, show i + 1 - place l o.Key = 0 by omega]
      · have h7 := place_ge' hs h (show i < l.length by omega)
        rw [decide_eq_true (by omega), if_pos (by simp only [List.length_cons, List.length_nil]; omega)]
        simp only [cond_true, Option.bind_some]
        rw [show i + 1 - place l o.Key = (i - place l o.Key) + 1 by omega]
        simp only [scanL, cellL]
        rw [show place l o.Key + (i - place l o.Key) = i by omega, if_pos (show i < l.length by omega)]) (by
      have hl := scanL_len l (place l o.Key) (E - place l o.Key)
      simp only [spec_l10Do.s0, w2]
      by_cases h : E < l.length
      · rw [decide_eq_true (show (E : Int) < (l.length : Int) by omega)]
        simp only [cond_true, Option.bind_some, hl]
        rw [decide_eq_false (by omega)]; rfl
      · rw [decide_eq_false (show ¬ (E : Int) < (l.length : Int) by omega)]; rfl)
    have i0 : (([] : List Int), (0 : Int)) = (fun i : Nat => (scanL l (place l o.Key) (i - place l o.Key), (i : Int))) 0 := by simp [scanL]
    have r2 := loopO_run (step := fun s : List Int => spec_l10Do.s1 o s) (fun j => scanL l (place l o.Key) (E - place l o.Key) ++ List.replicate j 0) (2 * (n - (E - place l o.Key))) (r := .out (scanL l (place l o.Key) n)) (fun j hj => by
      have hl := scanL_len l (place l o.Key) (E - place l o.Key)
      simp only [spec_l10Do.s1, w2, List.length_append, hl, List.length_replicate, List.length_cons, List.length_nil]
      rw [decide_eq_true (by omega), cond_true, if_pos (by omega), List.append_assoc, show ([0] : List Int) = List.replicate 1 0 from rfl, List.replicate_append_replicate]) (by
      have hl := scanL_len l (place l o.Key) (E - place l o.Key)
      simp only [spec_l10Do.s1, w2, List.length_append, hl, List.length_replicate]
      rw [decide_eq_false (by omega), cond_false]
      congr 3
      by_cases h : E < l.length
      · rw [show E - place l o.Key = n by omega]; simp
      · rw [← scanL_pad l _ _ (by omega), show E - place l o.Key + (n - (E - place l o.Key)) = n by omega])
    have i1 : scanL l (place l o.Key) (E - place l o.Key) = (fun j : Nat => scanL l (place l o.Key) (E - place l o.Key) ++ List.replicate j 0) 0 := by simp
    rw [i0, r1]
    simp only [Option.bind_some]
    rw [i1, r2]
    simp only [Option.bind_some]
    rw [hn, Int.toNat_natCast]
  simp only [h6, cond_false, inB_iff] at hv
  simp only [cond_false]
  have e11 : (bif !found l o.Key then (some ((l.length : Int) == 11)) else (some false)) = some ((!found l o.Key) && ((l.length : Int) == 11)) := by cases found l o.Key <;> rfl
  simp only [e11, Option.bind_some]
  cases (!found l o.Key) && ((l.length : Int) == 11)
  case true => rfl
  simp only [cond_false]
  cases h2 : o.Kind == 2
  case true => simp only [cond_true, l10Put_eq l o.Key _ hs, Option.bind_some]
  simp only [cond_false]
  rw [w64_id (by omega) (by omega)]
  cases decide (foundV l o.Key + o.Value > 999999)
  · simp only [cond_false, l10Put_eq l o.Key _ hs, Option.bind_some]
  · rfl

theorem l10Txn_loop (l : List S_Entry) (t : S_Txn) (hl : t.Ops.length ≤ 4) (ho : ∀ o ∈ t.Ops, opOK o = true) (hs : Sorted l) : loopO (fun s => spec_l10Txn.s0 l t s.1 s.2.1 s.2.2) (l, 0, ([] : List Int)) = some (txnGo l t.Ops l []) :=
  txn_loop hl ho hs _ (fun m out => by
    simp only [spec_l10Txn.s0]
    rw [decide_eq_false (by omega)]; rfl) (fun m k out hm hk hout => by
    have hoi := ho _ (getD_mem hk z_Op)
    have hdl := doL_len m (t.Ops.getD k z_Op) (opOK_scan hoi)
    simp only [spec_l10Txn.s0, decide_eq_true (show (k : Int) < (t.Ops.length : Int) by omega), cond_true, if_pos (show (0 : Int) ≤ (k : Int) ∧ (k : Int) < (t.Ops.length : Int) by omega), Int.toNat_natCast, l10Do_eq m _ hm hoi, Option.bind_some]
    rw [if_pos (by omega), w64_id (by omega) (by omega), show (k : Int) + 1 = ((k + 1 : Nat) : Int) by omega])
theorem l10Txn_some (l : List S_Entry) (t : S_Txn) (ht : TxnR t) (hs : Sorted l) : ∃ r, spec_l10Txn.f l t = some r ∧ Sorted r.1 := by
  have h := txnGo_sorted l hs t.Ops l [] ht.2 hs
  unfold spec_l10Txn.f
  rw [l10Txn_loop l t ht.1 ht.2 hs]
  revert h
  cases txnGo l t.Ops l [] with
  | out x => intro h; exact ⟨_, rfl, h⟩
  | ret x => intro h; exact ⟨_, rfl, h⟩

theorem l10Batch_some (l : List S_Entry) (b : List S_Txn) (hb : ∀ t ∈ b, TxnR t) (hl : b.length ≤ 1048576) (hs : Sorted l) : ∃ r, spec_l10Batch.f l b = some r ∧ Sorted r.1 := by
  unfold spec_l10Batch.f
  obtain ⟨r, h1, h2⟩ := loopO_wf (step := fun s : List S_Entry × List S_Result × Int => spec_l10Batch.s0 b s.1 s.2.1 s.2.2)
    (fun s => ∃ i : Nat, s.2.2 = (i : Int) ∧ i ≤ b.length ∧ Sorted s.1 ∧ s.2.1.length = i) (fun r => ∃ m q, r = .out (m, q) ∧ Sorted m) (fun s => (b.length - s.2.2).toNat) (fun s hI => by
      obtain ⟨m, q, k⟩ := s
      obtain ⟨i, hk, hi, hm, hq⟩ := hI
      simp only at hk hm hq
      subst hk
      by_cases h : i < b.length
      · obtain ⟨r, e, hr⟩ := l10Txn_some m (b.getD i z_Txn) (hb _ (getD_mem h z_Txn)) hm
        simp only [spec_l10Batch.s0, decide_eq_true (show (i : Int) < (b.length : Int) by omega), cond_true, if_pos (show (0 : Int) ≤ (i : Int) ∧ (i : Int) < (b.length : Int) by omega), Int.toNat_natCast, e, Option.bind_some]
        rw [if_pos (by simp only [List.length_cons, List.length_nil]; omega), w64_id (by omega) (by omega)]
        refine .inl ⟨_, rfl, ⟨i + 1, by simp only; omega, by omega, hr, by simp only [List.length_append, List.length_cons, List.length_nil]; omega⟩, by simp only; omega⟩
      · simp only [spec_l10Batch.s0]
        rw [decide_eq_false (by omega)]
        exact .inr ⟨_, rfl, m, q, rfl, hm⟩) _ (l, ([] : List S_Result), 0) (Nat.le_refl _) ⟨0, rfl, Nat.zero_le _, hs, rfl⟩
  obtain ⟨m, q, rfl, hm⟩ := h2
  rw [h1]
  exact ⟨_, rfl, hm⟩

theorem src_op (x0 : S_l00Src) (B : Int) (h : SrcB x0.code x0.at_ x0.seed B) (hB : B ≤ 144115188075855872) : ∃ o a s, spec_l00Src_op.f x0 = some (o, a, s) ∧ opOK o = true ∧ SrcB x0.code a s (B + 15) := by
  unfold spec_l00Src_op.f
  obtain ⟨v1, a1, s1, e1, p1, q1, h1⟩ := src_next x0 6 B h (by omega)
  obtain ⟨v2, a2, s2, e2, p2, q2, h2⟩ := src_next ⟨x0.code, a1, s1⟩ 3 _ h1 (by omega)
  obtain ⟨v3, a3, s3, e3, p3, q3, h3⟩ := src_next ⟨x0.code, a2, s2⟩ 14 _ h2 (by omega)
  simp only [e1, e2, e3, Option.bind_some]
  rw [if_pos (by omega), w64_id (x := 1 + v3) (by omega) (by omega), w64_id (x := 1 + v1) (by omega) (by omega)]
  have hK : 1 ≤ ([2, 2, 1 + v1] : List Int).getD v2.toNat 0 ∧ ([2, 2, 1 + v1] : List Int).getD v2.toNat 0 ≤ 6 := by
    have : v2.toNat = 0 ∨ v2.toNat = 1 ∨ v2.toNat = 2 := by omega
    rcases this with e | e | e <;> rw [e] <;> simp <;> omega
  generalize ([2, 2, 1 + v1] : List Int).getD v2.toNat 0 = K at hK ⊢
  have hok : ∀ V : Int, (K = 1 ∨ K = 3 → V = 0) → (K = 6 → 1 ≤ V ∧ V ≤ 4) → (0 ≤ V ∧ V ≤ 999999) → opOK ⟨K, 1 + v3, V⟩ = true := by
    intro V c1 c2 c3
    unfold opOK
    simp only [Bool.and_eq_true, inB_iff]
    refine ⟨⟨hK, by omega, by omega⟩, ?_⟩
    cases k1 : K == 1
    · cases k3 : K == 3
      · cases k6 : K == 6
        · simp only [Bool.or_self, cond_false, inB_iff]; exact c3
        · simp only [Bool.or_self, cond_false, cond_true, inB_iff]; exact c2 (by simpa using k6)
      · simp only [Bool.or_true, cond_true, beq_iff_eq]; exact c1 (.inr (by simpa using k3))
    · simp only [Bool.true_or, cond_true, beq_iff_eq]; exact c1 (.inl (by simpa using k1))
  cases k1 : K == 1
  case true => exact ⟨_, _, _, rfl, hok 0 (fun _ => rfl) (fun e => by rw [e] at k1; cases k1) (by omega), h3.up (by omega)⟩
  cases k3 : K == 3
  case true => exact ⟨_, _, _, rfl, hok 0 (fun _ => rfl) (fun e => by rw [e] at k3; cases k3) (by omega), h3.up (by omega)⟩
  have n1 : K ≠ 1 := by simpa using k1
  have n3 : K ≠ 3 := by simpa using k3
  simp only [cond_false, Option.bind_some]
  cases k6 : K == 6
  case true =>
    obtain ⟨v4, a4, s4, e4, p4, q4, h4⟩ := src_next ⟨x0.code, a3, s3⟩ 4 _ h3 (by omega)
    simp only [cond_true, e4, Option.bind_some]
    rw [w64_id (by omega) (by omega)]
    exact ⟨_, _, _, rfl, hok _ (fun e => by omega) (fun _ => by omega) (by omega), h4.up (by omega)⟩
  have n6 : K ≠ 6 := by simpa using k6
  simp only [cond_false]
  cases k5 : K == 5
  case true =>
    obtain ⟨v4, a4, s4, e4, p4, q4, h4⟩ := src_next ⟨x0.code, a3, s3⟩ 5 _ h3 (by omega)
    obtain ⟨v5, a5, s5, e5, p5, q5, h5⟩ := src_next ⟨x0.code, a4, s4⟩ 9 _ h4 (by omega)
    have ht : Int.tdiv v5 8 = v5 / 8 := Int.tdiv_eq_ediv_of_nonneg p5
    have hw : IntKind.wrap .i64 (Int.tdiv v5 8) = v5 / 8 := by rw [ht]; exact w64_id (by omega) (by omega)
    simp only [cond_true, e4, e5, hw, Option.bind_some]
    rw [if_pos (by omega)]
    simp only [Option.bind_some]
    have hV : 0 ≤ ([v4, 999999] : List Int).getD (v5 / 8).toNat 0 ∧ ([v4, 999999] : List Int).getD (v5 / 8).toNat 0 ≤ 999999 := by
      have : (v5 / 8).toNat = 0 ∨ (v5 / 8).toNat = 1 := by omega
      rcases this with e | e <;> rw [e] <;> simp <;> omega
    exact ⟨_, _, _, rfl, hok _ (fun e => by omega) (fun e => by omega) hV, h5.up (by omega)⟩
  obtain ⟨v4, a4, s4, e4, p4, q4, h4⟩ := src_next ⟨x0.code, a3, s3⟩ 4 _ h3 (by omega)
  simp only [cond_false, e4, Option.bind_some]
  exact ⟨_, _, _, rfl, hok _ (fun e => by omega) (fun e => by omega) (by omega), h4.up (by omega)⟩

theorem src_batch (x0 : S_l00Src) (B : Int) (h : SrcB x0.code x0.at_ x0.seed B) (hB : B ≤ 72057594037927936) : ∃ b a s, spec_l00Src_batch.f x0 = some (b, a, s) ∧ (b.length ≤ 2 ∧ ∀ t ∈ b, TxnR t) ∧ SrcB x0.code a s (B + 200) := by
  unfold spec_l00Src_batch.f
  obtain ⟨v, a1, s1, e1, p1, q1, h1⟩ := src_next x0 2 B h (by omega)
  simp only [e1, Option.bind_some]
  rw [w64_id (by omega) (by omega)]
  obtain ⟨r, l1, l2⟩ := loopO_wf (step := fun s : List S_Txn × Int × Int × Int => spec_l00Src_batch.s0 x0 s.1 s.2.1 s.2.2.1 s.2.2.2)
    (fun s => 0 ≤ s.2.1 ∧ s.2.1 ≤ 2 ∧ s.1.length + s.2.1.toNat ≤ 2 ∧ (∀ t ∈ s.1, TxnR t) ∧ SrcB x0.code s.2.2.1 s.2.2.2 (B + 3 + (2 - s.2.1) * 63))
    (fun r => ∃ b a s, r = .out (b, a, s) ∧ (b.length ≤ 2 ∧ ∀ t ∈ b, TxnR t) ∧ SrcB x0.code a s (B + 200)) (fun s => s.2.1.toNat) (fun s hI => by
      obtain ⟨b, i, a, sd⟩ := s
      obtain ⟨i0, i2, hb, hT, hS⟩ := hI
      simp only at i0 i2 hb hT hS
      by_cases c : i > 0
      · obtain ⟨v1, a1, s1, e1, p1, q1, h1⟩ := src_next ⟨x0.code, a, sd⟩ 4 _ hS (by omega)
        obtain ⟨r, m1, m2⟩ := loopO_wf (step := fun s : Int × Int × Int × List S_Op => spec_l00Src_batch.s1 x0 s.1 s.2.1 s.2.2.1 s.2.2.2)
          (fun s => 0 ≤ s.1 ∧ s.1 ≤ 4 ∧ s.2.2.2.length + s.1.toNat ≤ 4 ∧ (∀ o ∈ s.2.2.2, opOK o = true) ∧ SrcB x0.code s.2.1 s.2.2.1 (B + 3 + (2 - i) * 63 + 3 + (4 - s.1) * 15))
          (fun r => ∃ a s o, r = .out (a, s, o) ∧ TxnR ⟨o⟩ ∧ SrcB x0.code a s (B + 3 + (2 - i) * 63 + 63)) (fun s => s.1.toNat) (fun s hJ => by
            obtain ⟨j, a, sd, o⟩ := s
            obtain ⟨j0, j4, ho, hO, hS⟩ := hJ
            simp only at j0 j4 ho hO hS
            by_cases c : j > 0
            · obtain ⟨o1, a2, s2, e2, p2, h2⟩ := src_op ⟨x0.code, a, sd⟩ _ hS (by omega)
              simp only [spec_l00Src_batch.s1, decide_eq_true c, cond_true, e2, Option.bind_some]
              rw [if_pos (by simp only [List.length_cons, List.length_nil]; omega), w64_id (by omega) (by omega)]
              refine .inl ⟨_, rfl, ⟨by simp only; omega, by simp only; omega, by simp only [List.length_append, List.length_cons, List.length_nil]; omega, fun q hq => ?_, h2.up (by simp only; omega)⟩, by simp only; omega⟩
              rcases List.mem_append.1 hq with hq | hq
              · exact hO q hq
              · simp only [List.mem_singleton] at hq; subst hq; exact p2
            · simp only [spec_l00Src_batch.s1, decide_eq_false c, cond_false]
              exact .inr ⟨_, rfl, a, sd, o, rfl, ⟨by simp only; omega, hO⟩, hS.up (by omega)⟩) _ (1 + v1, a1, s1, ([] : List S_Op)) (Nat.le_refl _) ⟨by simp only; omega, by simp only; omega, by simp only [List.length_nil]; omega, by simp, h1.up (by simp only; omega)⟩
        obtain ⟨a3, s3, o3, rfl, ht, hS3⟩ := m2
        simp only [spec_l00Src_batch.s0, decide_eq_true c, cond_true, e1, Option.bind_some]
        rw [w64_id (x := 1 + v1) (by omega) (by omega), m1]
        simp only [Option.bind_some]
        rw [if_pos (by simp only [List.length_cons, List.length_nil]; omega), w64_id (by omega) (by omega)]
        refine .inl ⟨_, rfl, ⟨by simp only; omega, by simp only; omega, by simp only [List.length_append, List.length_cons, List.length_nil]; omega, fun q hq => ?_, hS3.up (by simp only; omega)⟩, by simp only; omega⟩
        rcases List.mem_append.1 hq with hq | hq
        · exact hT q hq
        · simp only [List.mem_singleton] at hq; subst hq; exact ht
      · simp only [spec_l00Src_batch.s0, decide_eq_false c, cond_false]
        exact .inr ⟨_, rfl, b, a, sd, rfl, ⟨by omega, hT⟩, hS.up (by omega)⟩) _ (([] : List S_Txn), 1 + v, a1, s1) (Nat.le_refl _) ⟨by simp only; omega, by simp only; omega, by simp only [List.length_nil]; omega, by simp, h1.up (by simp only; omega)⟩
  obtain ⟨b, a, s, rfl, hb, hS⟩ := l2
  rw [l1]
  exact ⟨_, _, _, rfl, hb, hS⟩

theorem sorted_nil : Sorted [] := ⟨by simp, fun k hk => by simp at hk, fun k hk => by simp at hk, fun i j _ hj => by simp at hj⟩
theorem src_entries (x0 : S_l00Src) (B : Int) (h : SrcB x0.code x0.at_ x0.seed B) (hB : B ≤ 36028797018963968) : ∃ m a s, spec_l00Src_entries.f x0 = some (m, a, s) ∧ Sorted m := by
  unfold spec_l00Src_entries.f
  obtain ⟨v, a1, s1, e1, p1, q1, h1⟩ := src_next x0 9 B h (by omega)
  simp only [e1, Option.bind_some]
  obtain ⟨r, l1, l2⟩ := loopO_wf (step := fun s : List S_Entry × Int × Int × Int => spec_l00Src_entries.s0 x0 s.1 s.2.1 s.2.2.1 s.2.2.2)
    (fun s => 0 ≤ s.2.1 ∧ s.2.1 ≤ 8 ∧ Sorted s.1 ∧ SrcB x0.code s.2.2.1 s.2.2.2 (B + 3 + (8 - s.2.1) * 200))
    (fun r => ∃ m a s, r = .out (m, a, s) ∧ Sorted m) (fun s => s.2.1.toNat) (fun s hI => by
      obtain ⟨m, i, a, sd⟩ := s
      obtain ⟨i0, i8, hm, hS⟩ := hI
      simp only at i0 i8 hm hS
      by_cases c : i > 0
      · obtain ⟨b, a2, s2, e2, ⟨p2, q2⟩, h2⟩ := src_batch ⟨x0.code, a, sd⟩ _ hS (by omega)
        obtain ⟨r, e3, h3⟩ := l10Batch_some m b q2 (by omega) hm
        simp only [spec_l00Src_entries.s0, decide_eq_true c, cond_true, e2, e3, Option.bind_some]
        rw [w64_id (by omega) (by omega)]
        exact .inl ⟨_, rfl, ⟨by simp only; omega, by simp only; omega, h3, h2.up (by simp only; omega)⟩, by simp only; omega⟩
      · simp only [spec_l00Src_entries.s0, decide_eq_false c, cond_false]
        exact .inr ⟨_, rfl, m, a, sd, rfl, hm⟩) _ (([] : List S_Entry), v, a1, s1) (Nat.le_refl _) ⟨by simp only; omega, by simp only; omega, sorted_nil, h1.up (by simp only; omega)⟩
  obtain ⟨m, a, s, rfl, hm⟩ := l2
  rw [l1]
  exact ⟨_, _, _, rfl, hm⟩

theorem entriesOf_some (l : List Int) (hl : l.length ≤ 1048576) (hb : isB l) : ∃ m, spec_EntriesOf.f l = some m ∧ Sorted m := by
  obtain ⟨s, e, h⟩ := src_new l hl hb
  obtain ⟨m, a, s2, e2, h2⟩ := src_entries ⟨l, 0, s⟩ 0 h (by omega)
  exact ⟨m, by unfold spec_EntriesOf.f; simp only [e, e2, Option.bind_some], h2⟩

theorem at_some (l : List Int) (i n : Int) (hl : l.length ≤ 1048576) (hb : isB l) (hi : 0 ≤ i ∧ i ≤ 1048576) (hn : n ≤ 1048576) : ∃ v, laws_at.f l i n = some v ∧ 0 ≤ v ∧ (v < n ∨ v = 0) := by
  unfold laws_at.f
  by_cases c : n ≤ 1
  · rw [decide_eq_true c]; exact ⟨_, rfl, by omega, .inr rfl⟩
  rw [decide_eq_false c]
  simp only [cond_false]
  cases h0 : ((l.length : Int) == 0)
  · have hne : (l.length : Int) ≠ 0 := by simpa using h0
    obtain ⟨q1, q2⟩ := tmod_lt hi.1 (show (0 : Int) < (l.length : Int) by omega)
    have w1 : w64 (i + 1) = i + 1 := w64_id (by omega) (by omega)
    obtain ⟨q3, q4⟩ := tmod_lt (show 0 ≤ i + 1 by omega) (show (0 : Int) < (l.length : Int) by omega)
    have q5 : 0 ≤ Int.tdiv i (l.length : Int) ∧ Int.tdiv i (l.length : Int) ≤ i := by
      rw [Int.tdiv_eq_ediv_of_nonneg hi.1]
      exact ⟨Int.ediv_nonneg hi.1 (by omega), Int.ediv_le_self _ hi.1⟩
    simp only [cond_false, if_neg hne, w1]
    rw [if_pos ⟨q1, q2⟩, if_pos ⟨q3, q4⟩, if_neg (by omega)]
    obtain ⟨b1, b2⟩ := getD_isB hb (Int.tmod i (l.length : Int)).toNat
    obtain ⟨b3, b4⟩ := getD_isB hb (Int.tmod (i + 1) (l.length : Int)).toNat
    generalize l.getD (Int.tmod i (l.length : Int)).toNat 0 = x at b1 b2 ⊢
    generalize l.getD (Int.tmod (i + 1) (l.length : Int)).toNat 0 = y at b3 b4 ⊢
    generalize Int.tdiv i (l.length : Int) = z at q5 ⊢
    have e1 : IntKind.wrap .i64 x = x := w64_id (by omega) (by omega)
    have e2 : IntKind.wrap .i64 y = y := w64_id (by omega) (by omega)
    have e3 : IntKind.wrap .i64 z = z := w64_id (by omega) (by omega)
    rw [e1, e2, e3, w64_id (x := x * 31) (by omega) (by omega), w64_id (x := x * 31 + y) (by omega) (by omega), w64_id (by omega) (by omega)]
    obtain ⟨r1, r2⟩ := tmod_lt (show 0 ≤ x * 31 + y + z by omega) (show 0 < n by omega)
    exact ⟨_, rfl, r1, .inl r2⟩
  · simp only [cond_true]
    rw [if_neg (by omega), w64_id (by omega) (by omega)]
    obtain ⟨r1, r2⟩ := tmod_lt (show 0 ≤ i * 7 by omega) (show 0 < n by omega)
    exact ⟨_, rfl, r1, .inl r2⟩

theorem sameEntries_refl (l : List S_Entry) (h : l.length ≤ 1048576) : laws_sameEntries.f l l = some true := by
  unfold laws_sameEntries.f
  have := loopO_run (step := fun s => laws_sameEntries.s0 l l s) (fun k => (k : Int)) l.length (r := .out ()) (fun k hk => by
    simp only [laws_sameEntries.s0, decide_eq_true (show (k : Int) < (l.length : Int) by omega), cond_true, if_pos (show (0 : Int) ≤ (k : Int) ∧ (k : Int) < (l.length : Int) by omega), Int.toNat_natCast, beq_self_eq_true, Bool.and_self, Bool.not_true, cond_false]
    rw [w64_id (by omega) (by omega)]
    rfl) (by
    simp only [laws_sameEntries.s0]
    rw [decide_eq_false (by omega)]; rfl)
  have this2 : loopO (fun s => laws_sameEntries.s0 l l s) 0 = _ := this
  simp only [bne_self_eq_false, cond_false, this2, Option.bind_some]

theorem sameInts_refl (l : List Int) (h : l.length ≤ 1048576) : laws_sameInts.f l l = some true := by
  unfold laws_sameInts.f
  have := loopO_run (step := fun s => laws_sameInts.s0 l l s) (fun k => (k : Int)) l.length (r := .out ()) (fun k hk => by
    simp only [laws_sameInts.s0, decide_eq_true (show (k : Int) < (l.length : Int) by omega), cond_true, if_pos (show (0 : Int) ≤ (k : Int) ∧ (k : Int) < (l.length : Int) by omega), Int.toNat_natCast, bne_self_eq_false, cond_false]
    rw [w64_id (by omega) (by omega)]
    rfl) (by
    simp only [laws_sameInts.s0]
    rw [decide_eq_false (by omega)]; rfl)
  have this2 : loopO (fun s => laws_sameInts.s0 l l s) 0 = _ := this
  simp only [bne_self_eq_false, cond_false, this2, Option.bind_some]

end Go.Proofs.Ytlbbkehdfgjneaa
