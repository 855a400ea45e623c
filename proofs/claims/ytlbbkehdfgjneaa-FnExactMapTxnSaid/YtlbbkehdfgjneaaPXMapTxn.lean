/- What the models of these functions come to. -/
import Derived.Test.YtlbbkehdfgjneaaP0
import Derived.Test.YtlbbkehdfgjneaaGXMapTxnn2
namespace Go.Proofs.Ytlbbkehdfgjneaa
open Go Go.Z Go.Proofs Go.MuLone Go.ChangeShapes Go.WideShapes Go.ChangeAt Go.RowKit
set_option linter.unusedVariables false
set_option linter.unusedSimpArgs false
def mapP (l : List S_Entry) (k : Nat) : Bool :=
  inB (l.getD k z_Entry).Key 1 9999 && inB (l.getD k z_Entry).Value 0 999999 && (k == 0 || decide ((l.getD (k - 1) z_Entry).Key < (l.getD k z_Entry).Key))
def mapOK (l : List S_Entry) : Bool := (List.range l.length).all (mapP l) && decide (l.length ≤ 11)
structure Sorted (l : List S_Entry) : Prop where
  short : l.length ≤ 11
  key : ∀ k, k < l.length → 1 ≤ (l.getD k z_Entry).Key ∧ (l.getD k z_Entry).Key ≤ 9999
  val : ∀ k, k < l.length → 0 ≤ (l.getD k z_Entry).Value ∧ (l.getD k z_Entry).Value ≤ 999999
  up : ∀ i j, i < j → j < l.length → (l.getD i z_Entry).Key < (l.getD j z_Entry).Key
theorem mapOK_sorted {l : List S_Entry} (h : mapOK l = true) : Sorted l := by
  unfold mapOK at h
  simp only [Bool.and_eq_true, decide_eq_true_eq, List.all_eq_true, List.mem_range] at h
  obtain ⟨h1, h2⟩ := h
  have h3 : ∀ k, k < l.length → (1 ≤ (l.getD k z_Entry).Key ∧ (l.getD k z_Entry).Key ≤ 9999) ∧ (0 ≤ (l.getD k z_Entry).Value ∧ (l.getD k z_Entry).Value ≤ 999999) ∧ (k = 0 ∨ (l.getD (k - 1) z_Entry).Key < (l.getD k z_Entry).Key) := fun k hk => by
    have := h1 k hk
    unfold mapP at this
    simp only [Bool.and_eq_true, inB_iff, Bool.or_eq_true, beq_iff_eq, decide_eq_true_eq] at this
    exact ⟨this.1.1, this.1.2, this.2⟩
  refine ⟨h2, fun k hk => (h3 k hk).1, fun k hk => (h3 k hk).2.1, fun i j hij hj => ?_⟩
  obtain ⟨m, rfl⟩ : ∃ m, j = i + 1 + m := ⟨j - i - 1, by omega⟩
  induction m with
  | zero =>
    rcases (h3 (i + 1) hj).2.2 with h | h
    · omega
    · simpa using h
  | succ m ih =>
    have h4 := ih (by omega) (by omega)
    rcases (h3 (i + 1 + (m + 1)) hj).2.2 with h | h
    · omega
    · have e : i + 1 + (m + 1) - 1 = i + 1 + m := by omega
      rw [e] at h; omega
/-- Where a key stands, or would. -/
def place (l : List S_Entry) (x : Int) : Nat := l.findIdx (fun e => decide (x ≤ e.Key))
def found (l : List S_Entry) (x : Int) : Bool := decide (place l x < l.length) && ((l.getD (place l x) z_Entry).Key == x)
theorem place_le (l : List S_Entry) (x : Int) : place l x ≤ l.length := List.findIdx_le_length
theorem place_lt {l : List S_Entry} {x : Int} {t : Nat} (h : t < place l x) : (l.getD t z_Entry).Key < x := by
  have ht : t < l.length := Nat.lt_of_lt_of_le h (place_le l x)
  rw [getD_lt ht]
  have := List.not_of_lt_findIdx h
  simp only [decide_eq_false_iff_not, Bool.not_eq_true, decide_eq_true_eq] at this
  omega
theorem place_ge {l : List S_Entry} {x : Int} (h : place l x < l.length) : x ≤ (l.getD (place l x) z_Entry).Key := by
  rw [getD_lt h]
  exact of_decide_eq_true (List.findIdx_getElem (w := h))
theorem place_ge' {l : List S_Entry} (hs : Sorted l) {x : Int} {t : Nat} (h : place l x ≤ t) (ht : t < l.length) : x ≤ (l.getD t z_Entry).Key := by
  have h1 := place_ge (l := l) (x := x) (by omega)
  rcases Nat.lt_or_ge (place l x) t with h2 | h2
  · have := hs.up _ _ h2 ht; omega
  · have : t = place l x := by omega
    rw [this]; exact h1
theorem place_eq {l : List S_Entry} {x : Int} {i : Nat} (hi : i ≤ l.length) (h1 : ∀ t, t < i → (l.getD t z_Entry).Key < x) (h2 : i < l.length → x ≤ (l.getD i z_Entry).Key) : i = place l x := by
  rcases Nat.lt_trichotomy i (place l x) with h | h | h
  · have a := place_lt h
    have b := h2 (by have := place_le l x; omega)
    omega
  · exact h
  · have a := h1 _ h
    have b := place_ge (l := l) (x := x) (by omega)
    omega

def opOK (o : S_Op) : Bool :=
  inB o.Kind 1 6 && inB o.Key 1 9999 && (bif o.Kind == 1 || o.Kind == 3 then o.Value == 0 else bif o.Kind == 6 then inB o.Value 1 4 else inB o.Value 0 999999)

def putL (l : List S_Entry) (k v : Int) : List S_Entry := l.take (place l k) ++ [(⟨k, v⟩ : S_Entry)] ++ l.drop (bif found l k then place l k + 1 else place l k)
def cellL (l : List S_Entry) (i : Nat) : List Int := if i < l.length then [(l.getD i z_Entry).Key, (l.getD i z_Entry).Value] else [0, 0]
/-- What a scan tells of n places from the place p on. -/
def scanL (l : List S_Entry) (p : Nat) : Nat → List Int
  | 0 => []
  | n + 1 => scanL l p n ++ cellL l (p + n)
theorem cellL_len (l : List S_Entry) (i : Nat) : (cellL l i).length = 2 := by unfold cellL; split <;> rfl
theorem scanL_len (l : List S_Entry) (p : Nat) : ∀ n, (scanL l p n).length = 2 * n
  | 0 => rfl
  | n + 1 => by simp only [scanL, List.length_append, scanL_len l p n, cellL_len]; omega
theorem scanL_pad (l : List S_Entry) (p a : Nat) (h : l.length ≤ p + a) : ∀ b, scanL l p (a + b) = scanL l p a ++ List.replicate (2 * b) 0
  | 0 => by simp
  | b + 1 => by
    rw [show a + (b + 1) = (a + b) + 1 by omega]
    show scanL l p (a + b) ++ cellL l (p + (a + b)) = _
    rw [scanL_pad l p a h b, List.append_assoc, show 2 * (b + 1) = 2 * b + 2 by omega, ← List.replicate_append_replicate]
    unfold cellL
    rw [if_neg (by omega)]; rfl
def foundV (l : List S_Entry) (k : Int) : Int := bif found l k then (l.getD (place l k) z_Entry).Value else 0
/-- One operation upon a map. -/
def doL (l : List S_Entry) (o : S_Op) : List S_Entry × List Int × Int :=
  bif o.Kind == 1 then (l, [bif found l o.Key then 1 else 0, foundV l o.Key], 0)
  else bif o.Kind == 3 then (bif found l o.Key then delL l (place l o.Key) (place l o.Key + 1) else l, [bif found l o.Key then 1 else 0], 0)
  else bif o.Kind == 4 then (l, [], bif (!found l o.Key) || (foundV l o.Key != o.Value) then 14 else 0)
  else bif o.Kind == 6 then (l, scanL l (place l o.Key) o.Value.toNat, 0)
  else bif (!found l o.Key) && ((l.length : Int) == 11) then (l, [], 7)
  else bif o.Kind == 2 then (putL l o.Key o.Value, [], 0)
  else bif decide (foundV l o.Key + o.Value > 999999) then (l, [], 4) else (putL l o.Key (foundV l o.Key + o.Value), [foundV l o.Key + o.Value], 0)
theorem found_lt {l : List S_Entry} {k : Int} (h : found l k = true) : place l k < l.length ∧ (l.getD (place l k) z_Entry).Key = k := by
  unfold found at h
  simpa only [Bool.and_eq_true, decide_eq_true_eq, beq_iff_eq] using h
theorem foundV_rng {l : List S_Entry} (hs : Sorted l) (k : Int) : 0 ≤ foundV l k ∧ foundV l k ≤ 999999 := by
  unfold foundV
  cases h : found l k
  · simp
  · exact hs.val _ (found_lt h).1
theorem putL_len (l : List S_Entry) (k v : Int) : (putL l k v).length ≤ l.length + 1 := by
  unfold putL
  have := place_le l k
  cases found l k <;> simp only [cond_true, cond_false, List.length_append, List.length_take, List.length_drop, List.length_cons, List.length_nil] <;> omega
theorem opOK_scan {o : S_Op} (h : opOK o = true) : (o.Kind == 6) = true → o.Value ≤ 4 := by
  intro h6
  have e : o.Kind = 6 := by simpa using h6
  unfold opOK at h
  simp only [e, Bool.and_eq_true] at h
  have := h.2
  simp only [show ((6 : Int) == 1) = false from rfl, show ((6 : Int) == 3) = false from rfl, Bool.or_self, cond_false, BEq.rfl, cond_true, inB_iff] at this
  exact this.2
theorem doL_len (l : List S_Entry) (o : S_Op) (h : (o.Kind == 6) = true → o.Value ≤ 4) : (doL l o).1.length ≤ l.length + 1 ∧ (doL l o).2.1.length ≤ 8 := by
  have h1 := putL_len l o.Key o.Value
  have h2 := putL_len l o.Key (foundV l o.Key + o.Value)
  unfold doL
  cases o.Kind == 1
  case true => exact ⟨Nat.le_succ _, by simp only [cond_true, List.length_cons, List.length_nil]; omega⟩
  cases o.Kind == 3
  case true =>
    cases hf : found l o.Key
    · exact ⟨Nat.le_succ _, by simp only [cond_true, cond_false, List.length_cons, List.length_nil]; omega⟩
    · have := (found_lt hf).1
      refine ⟨?_, by simp only [cond_true, cond_false, List.length_cons, List.length_nil]; omega⟩
      simp only [cond_true, cond_false]
      rw [len_delL _ _ _ (by omega) (by omega)]; omega
  cases o.Kind == 4
  case true => exact ⟨Nat.le_succ _, by simp only [cond_true, cond_false, List.length_nil]; omega⟩
  cases h6 : o.Kind == 6
  case true =>
    have := h h6
    exact ⟨Nat.le_succ _, by simp only [cond_true, cond_false, scanL_len]; omega⟩
  simp only [cond_false]
  cases (!found l o.Key) && ((l.length : Int) == 11)
  case true => exact ⟨Nat.le_succ _, by simp only [cond_true, List.length_nil]; omega⟩
  cases o.Kind == 2
  case true => exact ⟨h1, by simp only [cond_true, cond_false, List.length_nil]; omega⟩
  cases decide (foundV l o.Key + o.Value > 999999)
  · exact ⟨h2, by simp only [cond_false, List.length_cons, List.length_nil]; omega⟩
  · exact ⟨Nat.le_succ _, by simp only [cond_true, cond_false, List.length_nil]; omega⟩
theorem putL_get (l : List S_Entry) (k v : Int) (i : Nat) : (putL l k v).getD i z_Entry = if i < place l k then l.getD i z_Entry else if i = place l k then ⟨k, v⟩ else l.getD (bif found l k then i else i - 1) z_Entry := by
  have hp := place_le l k
  have ht : (l.take (place l k)).length = place l k := by rw [List.length_take]; omega
  unfold putL
  simp only [List.getD_eq_getElem?_getD]
  rw [List.append_assoc, List.getElem?_append, ht]
  by_cases h1 : i < place l k
  · rw [if_pos h1, if_pos h1, List.getElem?_take, if_pos h1]
  · rw [if_neg h1, if_neg h1]
    by_cases h2 : i = place l k
    · rw [if_pos h2, h2]; simp
    · rw [if_neg h2]
      obtain ⟨m, rfl⟩ : ∃ m, i = place l k + (m + 1) := ⟨i - place l k - 1, by omega⟩
      rw [show place l k + (m + 1) - place l k = m + 1 by omega]
      simp only [List.singleton_append, List.getElem?_cons_succ, List.getElem?_drop]
      cases found l k
      · simp only [cond_false]; rw [show place l k + (m + 1) - 1 = place l k + m by omega]
      · simp only [cond_true]; rw [show place l k + 1 + m = place l k + (m + 1) by omega]
theorem putL_len' (l : List S_Entry) (k v : Int) : (putL l k v).length = bif found l k then l.length else l.length + 1 := by
  unfold putL
  have := place_le l k
  cases hf : found l k
  · simp only [cond_false, List.length_append, List.length_take, List.length_drop, List.length_cons, List.length_nil]; omega
  · have := (found_lt hf).1
    simp only [cond_true, List.length_append, List.length_take, List.length_drop, List.length_cons, List.length_nil]; omega
theorem place_gt {l : List S_Entry} {k : Int} (hs : Sorted l) {t : Nat} (h : place l k < t ∨ (found l k = false ∧ place l k ≤ t)) (ht : t < l.length) : k < (l.getD t z_Entry).Key := by
  rcases h with h | ⟨h1, h2⟩
  · have a := place_ge (l := l) (x := k) (by omega)
    have b := hs.up _ _ h ht
    omega
  · have a := place_ge (l := l) (x := k) (by omega)
    have c : (l.getD (place l k) z_Entry).Key ≠ k := by
      unfold found at h1
      rw [decide_eq_true (show place l k < l.length by omega), Bool.true_and, beq_eq_false_iff_ne] at h1
      exact h1
    rcases Nat.lt_or_ge (place l k) t with h3 | h3
    · have b := hs.up _ _ h3 ht; omega
    · rw [show t = place l k by omega]; omega
theorem sorted_put {l : List S_Entry} {k v : Int} (hs : Sorted l) (hk : 1 ≤ k ∧ k ≤ 9999) (hv : 0 ≤ v ∧ v ≤ 999999) (hr : ((!found l k) && ((l.length : Int) == 11)) = false) : Sorted (putL l k v) := by
  have hsh := hs.short
  have hp := place_le l k
  have hlen := putL_len' l k v
  have hf1 : found l k = true → place l k < l.length := fun h => (found_lt h).1
  refine ⟨?_, fun i hi => ?_, fun i hi => ?_, fun i j hij hj => ?_⟩
  · rw [hlen]
    cases hf : found l k
    · rw [hf] at hr
      simp only [Bool.not_false, Bool.true_and, beq_eq_false_iff_ne, ne_eq] at hr
      simp only [cond_false]; omega
    · exact hsh
  · rw [hlen] at hi
    rw [putL_get]
    split
    · exact hs.key _ (by omega)
    · split
      · exact hk
      · refine hs.key _ ?_
        cases hf : found l k <;> rw [hf] at hi <;> simp only [cond_true, cond_false] at hi ⊢ <;> omega
  · rw [hlen] at hi
    rw [putL_get]
    split
    · exact hs.val _ (by omega)
    · split
      · exact hv
      · refine hs.val _ ?_
        cases hf : found l k <;> rw [hf] at hi <;> simp only [cond_true, cond_false] at hi ⊢ <;> omega
  · rw [hlen] at hj
    rw [putL_get, putL_get]
    by_cases a1 : i < place l k
    · rw [if_pos a1]
      by_cases b1 : j < place l k
      · rw [if_pos b1]; exact hs.up _ _ hij (by omega)
      · rw [if_neg b1]
        have a2 := place_lt a1
        by_cases b2 : j = place l k
        · rw [if_pos b2]; exact a2
        · rw [if_neg b2]
          have : k < (l.getD (bif found l k then j else j - 1) z_Entry).Key := by
            cases hf : found l k <;> rw [hf] at hj <;> simp only [cond_true, cond_false] at hj ⊢
            · exact place_gt hs (.inr ⟨hf, by omega⟩) (by omega)
            · exact place_gt hs (.inl (by omega)) (by omega)
          omega
    · rw [if_neg a1, if_neg (show ¬ j < place l k by omega), if_neg (show ¬ j = place l k by omega)]
      by_cases a2 : i = place l k
      · rw [if_pos a2]
        cases hf : found l k <;> rw [hf] at hj <;> simp only [cond_true, cond_false] at hj ⊢
        · exact place_gt hs (.inr ⟨hf, by omega⟩) (by omega)
        · exact place_gt hs (.inl (by omega)) (by omega)
      · rw [if_neg a2]
        cases hf : found l k <;> rw [hf] at hj <;> simp only [cond_true, cond_false] at hj ⊢
        · exact hs.up _ _ (by omega) (by omega)
        · exact hs.up _ _ (by omega) (by omega)
theorem delL_get (l : List S_Entry) (p i : Nat) (hp : p < l.length) : (delL l p (p + 1)).getD i z_Entry = if i < p then l.getD i z_Entry else l.getD (i + 1) z_Entry := by
  have ht : (l.take p).length = p := by rw [List.length_take]; omega
  unfold delL
  simp only [List.getD_eq_getElem?_getD]
  rw [List.getElem?_append, ht]
  by_cases h1 : i < p
  · rw [if_pos h1, if_pos h1, List.getElem?_take, if_pos h1]
  · rw [if_neg h1, if_neg h1, List.getElem?_drop, show p + 1 + (i - p) = i + 1 by omega]
theorem sorted_del {l : List S_Entry} {p : Nat} (hs : Sorted l) (hp : p < l.length) : Sorted (delL l p (p + 1)) := by
  have hsh := hs.short
  have hlen := len_delL l p (p + 1) (by omega) (by omega)
  refine ⟨by omega, fun i hi => ?_, fun i hi => ?_, fun i j hij hj => ?_⟩
  · rw [delL_get l p i hp]; split <;> exact hs.key _ (by omega)
  · rw [delL_get l p i hp]; split <;> exact hs.val _ (by omega)
  · rw [delL_get l p i hp, delL_get l p j hp]
    split
    · split <;> exact hs.up _ _ (by omega) (by omega)
    · rw [if_neg (by omega)]; exact hs.up _ _ (by omega) (by omega)
theorem sorted_do {l : List S_Entry} {o : S_Op} (hs : Sorted l) (ho : opOK o = true) : Sorted (doL l o).1 := by
  unfold opOK at ho
  simp only [Bool.and_eq_true, inB_iff] at ho
  obtain ⟨⟨hkd, hk⟩, hv⟩ := ho
  have hfv := foundV_rng hs o.Key
  unfold doL
  cases h1 : o.Kind == 1
  case true => exact hs
  rw [h1] at hv
  cases h3 : o.Kind == 3
  case true =>
    cases hf : found l o.Key
    · exact hs
    · exact sorted_del hs (found_lt hf).1
  rw [h3] at hv
  cases h4 : o.Kind == 4
  case true => exact hs
  cases h6 : o.Kind == 6
  case true => exact hs
  rw [h6] at hv
  simp only [Bool.or_self, cond_false, inB_iff] at hv ⊢
  cases hr : (!found l o.Key) && ((l.length : Int) == 11)
  case true => exact hs
  cases h2 : o.Kind == 2
  case true => exact sorted_put hs hk hv hr
  cases hb : decide (foundV l o.Key + o.Value > 999999)
  · have := of_decide_eq_false hb
    exact sorted_put hs hk ⟨by omega, by omega⟩ hr
  · exact hs

def wordL (k : Int) : List Int := if k = 1 then [103, 101, 116] else if k = 2 then [112, 117, 116] else if k = 3 then [100, 114, 111, 112] else if k = 4 then [99, 104, 101, 99, 107] else if k = 5 then [97, 100, 100] else [115, 99, 97, 110]
def encOp (o : S_Op) (r : List Int) : List Int := wordL o.Kind ++ (32 :: (digL o.Key.toNat ++ (if o.Kind = 1 ∨ o.Kind = 3 then r else 32 :: (digL o.Value.toNat ++ r))))
theorem encOp_app (o : S_Op) (r : List Int) : encOp o r = encOp o [] ++ r := by
  unfold encOp
  split <;> simp
def encOps : List S_Op → List Int → List Int
  | [], r => r
  | [o], r => encOp o r
  | o :: p :: l, r => encOp o (59 :: 32 :: encOps (p :: l) r)
def encB : List S_Txn → List Int
  | [] => []
  | [t] => encOps t.Ops []
  | t :: u :: l => encOps t.Ops (32 :: 124 :: 32 :: encB (u :: l))
theorem encOps_app : ∀ (l : List S_Op) (r : List Int), encOps l r = encOps l [] ++ r
  | [], r => by simp [encOps]
  | [o], r => encOp_app o r
  | o :: p :: l, r => by
    have ih := encOps_app (p :: l) r
    simp only [encOps]
    rw [encOp_app o (59 :: 32 :: encOps (p :: l) r), encOp_app o (59 :: 32 :: encOps (p :: l) []), ih]
    simp
theorem encOps_join : ∀ l : List S_Op, encOps l [] = joinL [59, 32] (l.map fun o => encOp o [])
  | [] => rfl
  | [o] => rfl
  | o :: p :: l => by
    have ih := encOps_join (p :: l)
    simp only [encOps, List.map_cons, joinL] at ih ⊢
    rw [encOp_app, ih]
    simp
theorem encB_join : ∀ l : List S_Txn, encB l = joinL [32, 124, 32] (l.map fun t => encOps t.Ops [])
  | [] => rfl
  | [t] => rfl
  | t :: u :: l => by
    have ih := encB_join (u :: l)
    simp only [encB, List.map_cons, joinL] at ih ⊢
    rw [encOps_app, ih]
    simp
theorem ND_nil : ND [] := fun x r h => by cases h
theorem ND_cons {x : Int} {r : List Int} (h : ¬ isDg x) : ND (x :: r) := fun y s e => by cases e; exact h

def opI (L : List Int) (s : Nat × Bool) : S_Op × (Nat × Bool) := (⟨(nI L 1 6 s).1, (nI L 1 9999 (nI L 1 6 s).2).1, (nI L 0 999999 (nI L 1 9999 (nI L 1 6 s).2).2).1⟩, (nI L 0 999999 (nI L 1 9999 (nI L 1 6 s).2).2).2)
def opS (L : List Int) (q : Nat) : S_Op × Nat := (⟨(nS L q).1, (nS L (nS L q).2).1, (nS L (nS L (nS L q).2).2).1⟩, (nS L (nS L (nS L q).2).2).2)
def rngO (b : S_Op) : Bool := inB b.Kind 1 6 && inB b.Key 1 9999 && inB b.Value 0 999999
theorem op_pair (L : List Int) : RPair L (opI L) (opS L) rngO :=
  RPair.seq (α := Int × Int) (RPair.seq (RPair.base L 1 6 (by decide)) (RPair.base L 1 9999 (by decide)) Prod.mk (fun ab => inB ab.1 1 6 && inB ab.2 1 9999) (fun _ _ => rfl)) (RPair.base L 0 999999 (by decide)) (fun ab c => ⟨ab.1, ab.2, c⟩) rngO (fun _ _ => rfl)
theorem opS_le {L : List Int} {q : Nat} (h : q ≤ L.length + 1) : (opS L q).2 ≤ L.length + 1 := nS_le (nS_le (nS_le h))
def txI (L : List Int) (s : Nat × Bool) : S_Txn × (Nat × Bool) := (⟨(rep (opI L) (nI L 1 4 s).1.toNat (nI L 1 4 s).2).1⟩, (rep (opI L) (nI L 1 4 s).1.toNat (nI L 1 4 s).2).2)
def txS (L : List Int) (q : Nat) : S_Txn × Nat := (⟨(rep (opS L) (cS L 4 q).1.toNat (cS L 4 q).2).1⟩, (rep (opS L) (cS L 4 q).1.toNat (cS L 4 q).2).2)
def rngT (t : S_Txn) : Bool := inB (t.Ops.length : Int) 1 4 && t.Ops.all rngO
theorem tx_pair (L : List Int) : RPair L (txI L) (txS L) rngT := RPair.count (op_pair L) 4 (fun l => (⟨l⟩ : S_Txn)) rngT (by decide) (fun _ => rfl)
theorem txS_le {L : List Int} {q : Nat} (h : q ≤ L.length + 1) : (txS L q).2 ≤ L.length + 1 := rep_le (f := opS L) (fun q hq => opS_le hq) _ _ (cS_le h)
def enI (L : List Int) (s : Nat × Bool) : (List Int × List S_Txn) × (Nat × Bool) :=
  (((rep (nI L 0 7) 40 s).1, (rep (txI L) (nI L 1 2 (rep (nI L 0 7) 40 s).2).1.toNat (nI L 1 2 (rep (nI L 0 7) 40 s).2).2).1), (rep (txI L) (nI L 1 2 (rep (nI L 0 7) 40 s).2).1.toNat (nI L 1 2 (rep (nI L 0 7) 40 s).2).2).2)
def enS (L : List Int) (q : Nat) : (List Int × List S_Txn) × Nat :=
  (((rep (nS L) 40 q).1, (rep (txS L) (cS L 2 (rep (nS L) 40 q).2).1.toNat (cS L 2 (rep (nS L) 40 q).2).2).1), (rep (txS L) (cS L 2 (rep (nS L) 40 q).2).1.toNat (cS L 2 (rep (nS L) 40 q).2).2).2)
def rngE (x : List Int × List S_Txn) : Bool := x.1.all (fun y => inB y 0 7) && (inB (x.2.length : Int) 1 2 && x.2.all rngT)
theorem en_pair (L : List Int) : RPair L (enI L) (enS L) rngE :=
  RPair.seq ((RPair.base L 0 7 (by decide)).reps 40) (RPair.count (tx_pair L) 2 (fun l => l) (fun l => inB (l.length : Int) 1 2 && l.all rngT) (by decide) (fun _ => rfl)) Prod.mk rngE (fun _ _ => rfl)
theorem nI_cnt (L : List Int) (hi : Int) (h : 0 ≤ hi) (s : Nat × Bool) (lo : Int) (hlo : 0 ≤ lo) : 0 ≤ (nI L lo hi s).1 ∧ (nI L lo hi s).1 ≤ hi := by
  unfold nI
  split
  · exact ⟨Int.le_refl _, h⟩
  · split
    · rename_i q; have h2 := inB_iff.1 q.2; exact ⟨by omega, h2.2⟩
    · exact ⟨Int.le_refl _, h⟩
theorem cS_cnt (L : List Int) (most : Int) (h : 0 ≤ most) (q : Nat) : 0 ≤ (cS L most q).1 ∧ (cS L most q).1 ≤ most := by
  unfold cS; split
  · rename_i hq; exact inB_iff.1 hq
  · exact ⟨Int.le_refl _, h⟩
theorem txI_len (L : List Int) (s : Nat × Bool) : (txI L s).1.Ops.length ≤ 4 := by
  have := nI_cnt L 4 (by decide) s 1 (by decide)
  unfold txI; simp only [rep_len]; omega
theorem txS_len (L : List Int) (q : Nat) : (txS L q).1.Ops.length ≤ 4 := by
  have := cS_cnt L 4 (by decide) q
  unfold txS; simp only [rep_len]; omega
theorem rep_all {σ α : Type} (f : σ → α × σ) (P : α → Prop) (h : ∀ s, P (f s).1) : ∀ (n : Nat) (s : σ), ∀ x ∈ (rep f n s).1, P x
  | 0, s, x, hx => by simp [rep] at hx
  | n + 1, s, x, hx => by
    simp only [rep, List.mem_append, List.mem_singleton] at hx
    rcases hx with hx | rfl
    · exact rep_all f P h n s x hx
    · exact h _

def txnGo (l0 : List S_Entry) : List S_Op → List S_Entry → List Int → Ex (List S_Entry × List Int) (List S_Entry × S_Result)
  | [], m, out => .out (m, out)
  | o :: r, m, out => bif (doL m o).2.2 != 0 then .ret (l0, ⟨(doL m o).2.2, []⟩) else txnGo l0 r (doL m o).1 (out ++ (doL m o).2.1)
theorem txn_loop {l0 : List S_Entry} {ops : List S_Op} (hl : ops.length ≤ 4) (ho : ∀ o ∈ ops, opOK o = true) (hs0 : Sorted l0)
    (step : List S_Entry × Int × List Int → Option ((List S_Entry × Int × List Int) ⊕ Ex (List S_Entry × List Int) (List S_Entry × S_Result)))
    (hend : ∀ m out, step (m, (ops.length : Int), out) = some (.inr (.out (m, out))))
    (hstep : ∀ m (k : Nat) out, Sorted m → k < ops.length → out.length ≤ 32 → step (m, (k : Int), out) = bif (doL m (ops.getD k z_Op)).2.2 != 0 then some (.inr (.ret (l0, ⟨(doL m (ops.getD k z_Op)).2.2, []⟩))) else some (.inl ((doL m (ops.getD k z_Op)).1, ((k + 1 : Nat) : Int), out ++ (doL m (ops.getD k z_Op)).2.1))) :
    loopO step (l0, 0, []) = some (txnGo l0 ops l0 []) := by
  obtain ⟨r, h1, h2⟩ := loopO_wf (step := step)
    (fun s => ∃ i : Nat, s.2.1 = (i : Int) ∧ i ≤ ops.length ∧ Sorted s.1 ∧ s.2.2.length ≤ 8 * i ∧ txnGo l0 (ops.drop i) s.1 s.2.2 = txnGo l0 ops l0 [])
    (fun r => r = txnGo l0 ops l0 []) (fun s => (ops.length - s.2.1).toNat) (fun s hI => by
      obtain ⟨m, k, out⟩ := s
      obtain ⟨i, hk, hi, hs, hout, hgo⟩ := hI
      simp only at hk hs hout hgo
      subst hk
      rcases Nat.lt_or_ge i ops.length with h | h
      · have hd : ops.drop i = ops.getD i z_Op :: ops.drop (i + 1) := by
          rw [getD_lt h]; exact List.drop_eq_getElem_cons h
        have hoi := ho _ (getD_mem h z_Op)
        rw [hd] at hgo
        simp only [txnGo] at hgo
        rw [hstep m i out hs h (by omega)]
        cases hb : (doL m (ops.getD i z_Op)).2.2 != 0
        · rw [hb] at hgo
          have hdl := doL_len m (ops.getD i z_Op) (opOK_scan hoi)
          refine .inl ⟨_, rfl, ⟨i + 1, rfl, by omega, sorted_do hs hoi, ?_, hgo⟩, ?_⟩
          · simp only [List.length_append]; omega
          · simp only []; omega
        · rw [hb] at hgo
          exact .inr ⟨_, rfl, hgo⟩
      · have e : i = ops.length := by omega
        subst e
        rw [List.drop_length] at hgo
        exact .inr ⟨_, hend m out, hgo⟩) _ (l0, 0, []) (Nat.le_refl _) ⟨0, rfl, Nat.zero_le _, hs0, Nat.zero_le _, rfl⟩
  rw [h1, h2]
theorem txnGo_len (l0 : List S_Entry) (h0 : l0.length ≤ 11) : ∀ (ops : List S_Op) (m : List S_Entry) (out : List Int), (∀ o ∈ ops, opOK o = true) → Sorted m → match txnGo l0 ops m out with | .out (a, b) => a.length ≤ 11 ∧ b.length ≤ out.length + 8 * ops.length ∧ Sorted a | .ret r => r.1.length ≤ 11 ∧ r.2.Values.length = 0
  | [], m, out, _, hs => ⟨hs.short, by simp, hs⟩
  | o :: r, m, out, ho, hs => by
    have hoi := ho o (List.mem_cons_self ..)
    have hdl := doL_len m o (opOK_scan hoi)
    simp only [txnGo]
    cases (doL m o).2.2 != 0
    · have := txnGo_len l0 h0 r (doL m o).1 (out ++ (doL m o).2.1) (fun q hq => ho q (List.mem_cons_of_mem _ hq)) (sorted_do hs hoi)
      simp only [cond_false]
      revert this
      cases txnGo l0 r (doL m o).1 (out ++ (doL m o).2.1) with
      | out x => intro h; refine ⟨h.1, ?_, h.2.2⟩; have := h.2.1; simp only [List.length_append, List.length_cons] at this ⊢; omega
      | ret x => exact id
    · exact ⟨h0, rfl⟩

theorem ok_laws_szEntryS (x : List S_Entry) (n : Int) (h0 : 0 ≤ n) (h1 : n ≤ 1048576) (g : (x.length ≤ maxLen ∧ ∀ y : S_Entry, y ∈ x → (((Lit.int .i64 y.Key).wf = true) ∧ ((Lit.int .i64 y.Value).wf = true)))) : ∃ m, laws_szEntryS.f x n = some m ∧ (m < 0 ∨ (0 ≤ m ∧ m ≤ n ∧ (x.length ≤ 1048576))) := by
  have hM : maxLen = 9223372036854775807 := rfl
  have g1 := g.1
  unfold laws_szEntryS.f
  rw [w64_id (x := n - (x.length : Int)) (by omega) (by omega)]
  by_cases h : n - (x.length : Int) < 0
  · rw [decide_eq_true h]; exact ⟨_, rfl, .inl (by decide)⟩
  rw [decide_eq_false h]; simp only [cond_false]
  exact ⟨_, rfl, .inr ⟨by omega, by omega, by omega⟩⟩

theorem id_laws_toEntry (x : S_Entry) : laws_toEntry.f x = some x := by
  unfold laws_toEntry.f
  rfl

theorem id_laws_toEntryS (x : List S_Entry) (h : x.length ≤ 1048576) : laws_toEntryS.f x = some x := by
  have hlen : x.length ≤ 1048576 := h
  unfold laws_toEntryS.f
  rw [if_pos (by omega)]
  have h0 : ((x.length : Int)).toNat = x.length := by simp
  rw [h0, ← filled_zero x z_Entry]
  have := loopO_run (step := fun s => laws_toEntryS.s0 x s.1 s.2) (fun k => (filled x z_Entry k, (k : Int))) x.length (r := .out x) (fun k hk => by
    have hl := filled_len x z_Entry k (by omega)
    simp only [laws_toEntryS.s0, id_laws_toEntry (x.getD k z_Entry), decide_eq_true (show (k : Int) < (x.length : Int) by omega), cond_true, if_pos (show (0 : Int) ≤ (k : Int) ∧ (k : Int) < (x.length : Int) by omega), Option.bind_some, if_pos (show (0 : Int) ≤ (k : Int) ∧ (k : Int) < ((filled x z_Entry k).length : Int) by omega), Int.toNat_natCast]
    rw [w64_id (by omega) (by omega), filled_set x z_Entry k hk]
    rfl) (by
    simp only [laws_toEntryS.s0, filled_all]
    rw [decide_eq_false (by omega)]; rfl)
  have this2 : loopO (fun s => laws_toEntryS.s0 x s.1 s.2) (filled x z_Entry 0, 0) = some (.out x) := this
  rw [this2]
  rfl

theorem refl_laws_eqEntry (x : S_Entry) : laws_eqEntry.f x x = some true := by
  unfold laws_eqEntry.f
  simp only [bne_self_eq_false, beq_self_eq_true, Bool.not_true, cond_false, Option.bind_some]

theorem reflF_laws_eqEntry (x : S_Entry) : laws_eqEntry.f x x = some true := by
  unfold laws_eqEntry.f
  simp only [bne_self_eq_false, beq_self_eq_true, bs_self, Bool.not_true, cond_false, Option.bind_some]

theorem refl_laws_eqEntryS (x : List S_Entry) (h : x.length ≤ 1048576) : laws_eqEntryS.f x x = some true := by
  have hlen : x.length ≤ 1048576 := h
  unfold laws_eqEntryS.f
  rw [show ((x.length : Int) != (x.length : Int)) = false from by simp]
  have := loopO_run (step := fun s => laws_eqEntryS.s0 x x s) (fun k => (k : Int)) x.length (r := .out ()) (fun k hk => by
    simp only [laws_eqEntryS.s0, decide_eq_true (show (k : Int) < (x.length : Int) by omega), cond_true, if_pos (show (0 : Int) ≤ (k : Int) ∧ (k : Int) < (x.length : Int) by omega), Int.toNat_natCast, refl_laws_eqEntry (x.getD k z_Entry), bne_self_eq_false, beq_self_eq_true, Bool.not_true, cond_false, Option.bind_some]
    rw [w64_id (by omega) (by omega)]
    rfl) (by
    simp only [laws_eqEntryS.s0]
    rw [decide_eq_false (by omega)]; rfl)
  rw [show ((0 : Int)) = ((0 : Nat) : Int) from rfl, this]
  rfl

theorem reflL_laws_eqEntryS (x : List S_Entry) (h : x.length ≤ 1048576) : laws_eqEntryS.f x x = some true := by
  have hlen : x.length ≤ 1048576 := h
  unfold laws_eqEntryS.f
  rw [show ((x.length : Int) != (x.length : Int)) = false from by simp]
  have := loopO_run (step := fun s => laws_eqEntryS.s0 x x s) (fun k => (k : Int)) x.length (r := .out ()) (fun k hk => by
    simp only [laws_eqEntryS.s0, decide_eq_true (show (k : Int) < (x.length : Int) by omega), cond_true, if_pos (show (0 : Int) ≤ (k : Int) ∧ (k : Int) < (x.length : Int) by omega), Int.toNat_natCast, reflF_laws_eqEntry (x.getD k z_Entry), bne_self_eq_false, beq_self_eq_true, bs_self, Bool.not_true, cond_false, Option.bind_some]
    rw [w64_id (by omega) (by omega)]
    rfl) (by
    simp only [laws_eqEntryS.s0]
    rw [decide_eq_false (by omega)]; rfl)
  rw [show ((0 : Int)) = ((0 : Nat) : Int) from rfl, this]
  rfl

def F_laws_markEntryS (q : Int) (x : S_Entry) : S_Entry := ⟨q, (q + 1)⟩
theorem mk_laws_markEntryS (x : List S_Entry) (k : Int) (h0 : 0 ≤ k) (h1 : k ≤ 144115188075855872) (hl : x.length ≤ 1048576) : ∃ m a, laws_markEntryS.f x k = some (m, a) ∧ k ≤ m ∧ m ≤ k + 2097152 ∧ a.length = x.length ∧ laws_heldEntryS.f a k = some m := by
  have hm := mark_gen (ρ := Int × List S_Entry) x z_Entry F_laws_markEntryS 2 k (fun s => laws_markEntryS.s0 x s.1 s.2.1 s.2.2) (by decide) (fun i u q hi hu hg hq1 hq2 => by
    have w1 : w64 (q + 1) = q + 1 := by rw [w64_id (by omega) (by omega)]
    have w2 : w64 (q + 1 + 1) = q + 2 := by rw [w64_id (by omega) (by omega)]; omega
    have wi : w64 ((i : Int) + 1) = ((i + 1 : Nat) : Int) := by rw [w64_id (by omega) (by omega)]; omega
    simp only [laws_markEntryS.s0, decide_eq_true (show (i : Int) < (x.length : Int) by omega), cond_true, if_pos (show (0 : Int) ≤ (i : Int) ∧ (i : Int) < (x.length : Int) by omega), Int.toNat_natCast, Option.bind_some, w1, w2, wi, List.set_set, getD_set_self _ z_Entry _ (show i < u.length by omega), getD_set_self _ z_Entry _ (show i < (u.set i _).length by simp; omega), F_laws_markEntryS]) (fun u q => by simp only [laws_markEntryS.s0]; rw [decide_eq_false (by omega)]; rfl)
  refine ⟨k + 2 * x.length, mkL x z_Entry F_laws_markEntryS 2 k, ?_, by omega, by omega, mkL_len .., ?_⟩
  · unfold laws_markEntryS.f; rw [hm]; rfl
  · have hy := mkL_len x z_Entry F_laws_markEntryS 2 k
    have hh := held_gen (ρ := Int) (mkL x z_Entry F_laws_markEntryS 2 k) 2 k (fun s => laws_heldEntryS.s0 (mkL x z_Entry F_laws_markEntryS 2 k) s.1 s.2) (by decide) (fun i hi hq2 hq1 => by
    have hg := mkL_getD x z_Entry F_laws_markEntryS 2 k (show i < x.length by omega)
    generalize hqq : k + 2 * (i : Int) = q at hg hq1 hq2 ⊢
    rw [hy] at hi hq2
    have w1 : w64 (q + 1) = q + 1 := by rw [w64_id (by omega) (by omega)]
    have w2 : w64 (q + 1 + 1) = q + 2 := by rw [w64_id (by omega) (by omega)]; omega
    have wi : w64 ((i : Int) + 1) = ((i + 1 : Nat) : Int) := by rw [w64_id (by omega) (by omega)]; omega
    simp only [laws_heldEntryS.s0, hy, decide_eq_true (show (i : Int) < (x.length : Int) by omega), cond_true, if_pos (show (0 : Int) ≤ (i : Int) ∧ (i : Int) < (x.length : Int) by omega), Int.toNat_natCast, Option.bind_some, w1, w2, wi, hg, F_laws_markEntryS, bne_self_eq_false, beq_self_eq_true, bs_self, Bool.not_true, cond_false]) (fun q => by simp only [laws_heldEntryS.s0]; rw [decide_eq_false (by omega)]; rfl)
    rw [hy] at hh
    unfold laws_heldEntryS.f; rw [hh]; rfl

theorem ok_laws_szOpS (x : List S_Op) (n : Int) (h0 : 0 ≤ n) (h1 : n ≤ 1048576) (g : (x.length ≤ maxLen ∧ ∀ y : S_Op, y ∈ x → (((Lit.int .i64 y.Kind).wf = true) ∧ ((Lit.int .i64 y.Key).wf = true) ∧ ((Lit.int .i64 y.Value).wf = true)))) : ∃ m, laws_szOpS.f x n = some m ∧ (m < 0 ∨ (0 ≤ m ∧ m ≤ n ∧ (x.length ≤ 1048576))) := by
  have hM : maxLen = 9223372036854775807 := rfl
  have g1 := g.1
  unfold laws_szOpS.f
  rw [w64_id (x := n - (x.length : Int)) (by omega) (by omega)]
  by_cases h : n - (x.length : Int) < 0
  · rw [decide_eq_true h]; exact ⟨_, rfl, .inl (by decide)⟩
  rw [decide_eq_false h]; simp only [cond_false]
  exact ⟨_, rfl, .inr ⟨by omega, by omega, by omega⟩⟩

theorem ok_laws_szTxn (x : S_Txn) (n : Int) (h0 : 0 ≤ n) (h1 : n ≤ 1048576) (g : ((x.Ops.length ≤ maxLen ∧ ∀ y : S_Op, y ∈ x.Ops → (((Lit.int .i64 y.Kind).wf = true) ∧ ((Lit.int .i64 y.Key).wf = true) ∧ ((Lit.int .i64 y.Value).wf = true))))) : ∃ m, laws_szTxn.f x n = some m ∧ (m < 0 ∨ (0 ≤ m ∧ m ≤ n ∧ ((x.Ops.length ≤ 1048576)))) := by
  have hM : maxLen = 9223372036854775807 := rfl
  unfold laws_szTxn.f
  obtain ⟨m1, e1, c1⟩ := ok_laws_szOpS x.Ops n (by omega) (by omega) g
  rw [e1]; simp only [Option.bind_some]
  rcases c1 with c1 | ⟨p1, q1, r1⟩
  · rw [decide_eq_true c1]; exact ⟨_, rfl, .inl (by decide)⟩
  rw [decide_eq_false (show ¬ m1 < 0 by omega)]; simp only [cond_false]
  exact ⟨_, rfl, .inr ⟨by omega, by omega, r1⟩⟩

theorem l01In_eq (x lo hi : Int) : spec_l01In.f x lo hi = some (inB x lo hi) := by
  unfold spec_l01In.f inB; cases decide (lo ≤ x) <;> rfl

theorem spec_MapOK_eq (l : List S_Entry) (h : l.length ≤ 1073741824) : spec_MapOK.f l = some (mapOK l) := by
  unfold spec_MapOK.f
  by_cases hbig : l.length > 4096
  · rw [decide_eq_true (show (l.length : Int) > 4096 by omega)]
    unfold mapOK
    rw [decide_eq_false (show ¬ l.length ≤ 11 by omega), Bool.and_false]; rfl
  rw [decide_eq_false (show ¬ (l.length : Int) > 4096 by omega)]
  have := loopO_scan (step := fun s => spec_MapOK.s0 l s) (fun k => (k : Int)) l.length (mapP l) (b := false) (t := ()) (fun k hk => by
    simp only [spec_MapOK.s0, l01In_eq, Option.bind_some, Int.toNat_natCast, decide_eq_true (show (k : Int) < (l.length : Int) by omega), cond_true, if_pos (show 0 ≤ (k : Int) ∧ (k : Int) < (l.length : Int) by omega), mapP]
    rw [w64_id (x := (k : Int) + 1) (by omega) (by omega)]
    cases inB (l.getD k z_Entry).Key 1 9999
    · rfl
    cases inB (l.getD k z_Entry).Value 0 999999
    · rfl
    cases k with
    | zero => rfl
    | succ k =>
      rw [w64_id (x := ((k + 1 : Nat) : Int) - 1) (by omega) (by omega)]
      have e : (((k + 1 : Nat) : Int) - 1).toNat = k := by omega
      have e2 : ((k + 1 : Nat) : Int) > 0 := by omega
      simp only [decide_eq_true e2, if_pos (show 0 ≤ ((k + 1 : Nat) : Int) - 1 ∧ ((k + 1 : Nat) : Int) - 1 < (l.length : Int) by omega), e, Nat.add_sub_cancel]
      by_cases hC : (l.getD k z_Entry).Key < (l.getD (k + 1) z_Entry).Key
      · rw [decide_eq_true hC, decide_eq_false (by omega)]; rfl
      · rw [decide_eq_false hC, decide_eq_true (by omega)]; rfl) (by
    simp only [spec_MapOK.s0]
    rw [decide_eq_false (by omega)]; rfl)
  rw [show ((0 : Int)) = ((0 : Nat) : Int) from rfl, this]
  unfold mapOK
  have e : decide ((l.length : Int) ≤ 11) = decide (l.length ≤ 11) := by
    by_cases h : l.length ≤ 11
    · rw [decide_eq_true h, decide_eq_true (by omega)]
    · rw [decide_eq_false h, decide_eq_false (by omega)]
  cases (List.range l.length).all (mapP l)
  · rfl
  · simp [e]

theorem spec_OpOK_eq (o : S_Op) : spec_OpOK.f o = some (opOK o) := by
  unfold spec_OpOK.f opOK
  simp only [l01In_eq, Option.bind_some]
  cases inB o.Kind 1 6 <;> cases inB o.Key 1 9999 <;> cases o.Kind == 1 <;> cases o.Kind == 3 <;> cases o.Kind == 6 <;> rfl

def txnOK (t : S_Txn) : Bool := t.Ops.all opOK && inB t.Ops.length 1 4
theorem l09Txn_eq (t : S_Txn) (h : t.Ops.length ≤ 1073741824) : spec_l09Txn.f t = some (txnOK t) := by
  unfold spec_l09Txn.f
  have := loopO_scan (step := fun s => spec_l09Txn.s0 t s) (fun k => (k : Int)) t.Ops.length (fun k => opOK (t.Ops.getD k z_Op)) (b := false) (t := ()) (fun k hk => by
    simp only [spec_l09Txn.s0, spec_OpOK_eq, Option.bind_some, Int.toNat_natCast, decide_eq_true (show (k : Int) < (t.Ops.length : Int) by omega), cond_true, if_pos (show (0 : Int) ≤ (k : Int) ∧ (k : Int) < (t.Ops.length : Int) by omega)]
    rw [w64_id (by omega) (by omega)]
    cases opOK (t.Ops.getD k z_Op) <;> rfl) (by
    simp only [spec_l09Txn.s0]
    rw [decide_eq_false (by omega)]; rfl)
  rw [show ((0 : Int)) = ((0 : Nat) : Int) from rfl, this, all_range t.Ops z_Op opOK]
  unfold txnOK
  simp only [l01In_eq, Option.bind_some]
  cases t.Ops.all opOK <;> rfl

theorem l10Find_eq (l : List S_Entry) (x : Int) (hs : Sorted l) : spec_l10Find.f l x = some (bif found l x then (place l x : Int) else -1) := by
  have hn := hs.short
  have hp := place_le l x
  unfold spec_l10Find.f
  by_cases hf : found l x = true
  · have hf' := hf
    unfold found at hf'
    simp only [Bool.and_eq_true, decide_eq_true_eq, beq_iff_eq] at hf'
    obtain ⟨h1, h2⟩ := hf'
    have := loopO_run (step := fun s => spec_l10Find.s0 l x s) (fun k => (k : Int)) (place l x) (r := .ret (place l x : Int)) (fun k hk => by
      have h3 := place_lt hk
      simp only [spec_l10Find.s0, decide_eq_true (show (k : Int) < (l.length : Int) by omega), cond_true, if_pos (show (0 : Int) ≤ (k : Int) ∧ (k : Int) < (l.length : Int) by omega), Int.toNat_natCast]
      rw [show ((l.getD k z_Entry).Key == x) = false from by simp only [beq_eq_false_iff_ne]; omega, w64_id (by omega) (by omega)]
      rfl) (by
      simp only [spec_l10Find.s0, decide_eq_true (show (place l x : Int) < (l.length : Int) by omega), cond_true, if_pos (show (0 : Int) ≤ (place l x : Int) ∧ (place l x : Int) < (l.length : Int) by omega), Int.toNat_natCast]
      rw [show ((l.getD (place l x) z_Entry).Key == x) = true from by simp only [beq_iff_eq]; exact h2]
      rfl)
    rw [show ((0 : Int)) = ((0 : Nat) : Int) from rfl, this, hf]
    rfl
  · have hf' : found l x = false := by simpa using hf
    have := loopO_run (step := fun s => spec_l10Find.s0 l x s) (fun k => (k : Int)) l.length (r := .out ()) (fun k hk => by
      have hne : (l.getD k z_Entry).Key ≠ x := fun e => by
        apply hf
        rcases Nat.lt_or_ge k (place l x) with h | h
        · have := place_lt h; omega
        · have h1 := place_ge (l := l) (x := x) (by omega)
          rcases Nat.lt_or_ge (place l x) k with h2 | h2
          · have := hs.up _ _ h2 hk; omega
          · have : k = place l x := by omega
            unfold found
            rw [← this, decide_eq_true hk, e]; simp
      simp only [spec_l10Find.s0, decide_eq_true (show (k : Int) < (l.length : Int) by omega), cond_true, if_pos (show (0 : Int) ≤ (k : Int) ∧ (k : Int) < (l.length : Int) by omega), Int.toNat_natCast]
      rw [show ((l.getD k z_Entry).Key == x) = false from by simp only [beq_eq_false_iff_ne]; exact hne, w64_id (by omega) (by omega)]
      rfl) (by
      simp only [spec_l10Find.s0]
      rw [decide_eq_false (by omega)]; rfl)
    rw [show ((0 : Int)) = ((0 : Nat) : Int) from rfl, this, hf']
    rfl

theorem l10Put_eq (l : List S_Entry) (k v : Int) (hs : Sorted l) : spec_l10Put.f l k v = some (putL l k v) := by
  have hp := place_le l k
  have hsh := hs.short
  unfold spec_l10Put.f
  have := loopO_run (step := fun s => spec_l10Put.s0 l k s) (fun t => (t : Int)) (place l k) (r := .out ((place l k : Nat) : Int)) (fun t ht => by
    have h3 := place_lt ht
    simp only [spec_l10Put.s0, decide_eq_true (show (t : Int) < (l.length : Int) by omega), cond_true, if_pos (show (0 : Int) ≤ (t : Int) ∧ (t : Int) < (l.length : Int) by omega), Int.toNat_natCast, Option.bind_some, decide_eq_true h3]
    rw [w64_id (by omega) (by omega)]; rfl) (by
    by_cases h : place l k < l.length
    · have h4 := place_ge h
      simp only [spec_l10Put.s0, decide_eq_true (show ((place l k : Nat) : Int) < (l.length : Int) by omega), cond_true, if_pos (show (0 : Int) ≤ ((place l k : Nat) : Int) ∧ ((place l k : Nat) : Int) < (l.length : Int) by omega), Int.toNat_natCast, Option.bind_some]
      rw [decide_eq_false (by omega)]; rfl
    · simp only [spec_l10Put.s0]
      rw [decide_eq_false (by omega)]; rfl)
  rw [show ((0 : Int)) = ((0 : Nat) : Int) from rfl, this]
  have e1 : (bif decide (((place l k : Nat) : Int) < (l.length : Int)) then (if (0 : Int) ≤ ((place l k : Nat) : Int) ∧ ((place l k : Nat) : Int) < (l.length : Int) then (some (((l.getD (((place l k : Nat) : Int)).toNat z_Entry).Key) == k)) else none) else (some false)) = some (found l k) := by
    unfold found
    by_cases h : place l k < l.length
    · rw [decide_eq_true h, decide_eq_true (show ((place l k : Nat) : Int) < (l.length : Int) by omega)]
      simp only [cond_true, if_pos (show (0 : Int) ≤ ((place l k : Nat) : Int) ∧ ((place l k : Nat) : Int) < (l.length : Int) by omega), Int.toNat_natCast, Bool.true_and]
    · rw [decide_eq_false h, decide_eq_false (show ¬ ((place l k : Nat) : Int) < (l.length : Int) by omega)]; rfl
  simp only [Option.bind_some, if_pos (show ((0 : Nat) : Int) ≤ ((place l k : Nat) : Int) ∧ ((place l k : Nat) : Int) ≤ (l.length : Int) by omega)]
  have e1' := e1
  simp only [show (0 : Int) = ((0 : Nat) : Int) from rfl] at e1'
  first
    | rw [e1]
    | rw [e1']
  simp only [Option.bind_some]
  unfold putL
  cases hf : found l k
  · simp only [cond_false, Option.bind_some, Int.toNat_natCast]
    rw [if_pos (by simp only [List.length_take, List.length_nil]; omega), if_pos (by simp only [List.length_append, List.length_take, List.length_nil, List.length_cons]; omega), if_pos (by simp only [List.length_append, List.length_take, List.length_nil, List.length_cons, List.length_drop]; omega), List.nil_append]
  · obtain ⟨h1, h2⟩ := found_lt hf
    simp only [cond_true]
    rw [w64_id (by omega) (by omega), if_pos (by omega), show ((place l k : Nat) : Int) + 1 = ((place l k + 1 : Nat) : Int) by omega]
    simp only [Option.bind_some, Int.toNat_natCast]
    rw [if_pos (by simp only [List.length_take, List.length_nil]; omega), if_pos (by simp only [List.length_append, List.length_take, List.length_nil, List.length_cons]; omega), if_pos (by simp only [List.length_append, List.length_take, List.length_nil, List.length_cons, List.length_drop]; omega), List.nil_append]

theorem l10Do_eq (l : List S_Entry) (o : S_Op) (hs : Sorted l) (ho : opOK o = true) : spec_l10Do.f l o = some (doL l o) := by
  have hsh := hs.short
  unfold opOK at ho
  simp only [Bool.and_eq_true, inB_iff] at ho
  obtain ⟨⟨hkd, hk⟩, hv⟩ := ho
  have hp := place_le l o.Key
  have hfv := foundV_rng hs o.Key
  obtain ⟨y, hy⟩ : ∃ y : Int, y = (bif found l o.Key then ((place l o.Key : Nat) : Int) else -1) := ⟨_, rfl⟩
  have hge : decide (y ≥ 0) = found l o.Key := by
    rw [hy]
    cases found l o.Key
    · rfl
    · exact decide_eq_true (by simp only [cond_true]; omega)
  have hlt : decide (y < 0) = !found l o.Key := by
    rw [hy]
    cases found l o.Key
    · rfl
    · exact decide_eq_false (by simp only [cond_true]; omega)
  have e10 : (bif decide (y ≥ 0) then (if (0 : Int) ≤ y ∧ y < (l.length : Int) then (some ((l.getD y.toNat z_Entry).Value)) else none) else (some 0)) = some (foundV l o.Key) := by
    unfold foundV
    rw [hge, hy]
    cases hf : found l o.Key
    · rfl
    · obtain ⟨h1, h2⟩ := found_lt hf
      simp only [cond_true, if_pos (show (0 : Int) ≤ ((place l o.Key : Nat) : Int) ∧ ((place l o.Key : Nat) : Int) < (l.length : Int) by omega), Int.toNat_natCast]
  rw [hge] at e10
  unfold spec_l10Do.f
  rw [l10Find_eq l o.Key hs, ← hy]
  simp only [Option.bind_some, hge, e10, hlt, spec_l01Bit.f]
  unfold doL
  cases h1 : o.Kind == 1
  case true => simp only [cond_true]; cases hf : found l o.Key <;> simp [foundV, hf]
  simp only [cond_false, h1, Bool.false_or] at hv ⊢
  cases h3 : o.Kind == 3
  case true =>
    simp only [cond_true]
    cases hf : found l o.Key
    · rfl
    · obtain ⟨h4, h5⟩ := found_lt hf
      have hy' : y = ((place l o.Key : Nat) : Int) := by rw [hy, hf]; rfl
      rw [hy']
      simp only [cond_true]
      rw [w64_id (by omega) (by omega), if_pos (by omega), if_pos (by omega), show ((place l o.Key : Nat) : Int) + 1 = ((place l o.Key + 1 : Nat) : Int) by omega, Int.toNat_natCast, Int.toNat_natCast, if_pos (by simp only [List.length_take, List.length_nil]; omega), List.nil_append, if_pos (by simp only [List.length_take, List.length_drop]; omega)]
      rfl
  simp only [cond_false, h3] at hv ⊢
  cases h4 : o.Kind == 4
  case true =>
    simp only [cond_true]
    cases found l o.Key
    · rfl
    · simp only [Bool.not_true, Bool.false_or, cond_false, Option.bind_some]
      cases foundV l o.Key != o.Value <;> rfl
  simp only [cond_false]
  cases h6 : o.Kind == 6
  case true =>
    simp only [h6, cond_true, inB_iff] at hv
    simp only [cond_true]
    obtain ⟨n, hn⟩ : ∃ n : Nat, o.Value = (n : Int) := ⟨o.Value.toNat, by omega⟩
    have hn4 : 1 ≤ n ∧ n ≤ 4 := by omega
    obtain ⟨E, hE⟩ : ∃ E, E = min l.length (place l o.Key + n) := ⟨_, rfl⟩
    have hEl : E ≤ l.length := by omega
    have hEn : E ≤ place l o.Key + n := by omega
    have hpE : place l o.Key ≤ E := by omega
    have w2 : w64 (2 * o.Value) = 2 * o.Value := w64_id (by omega) (by omega)
    have r1 := loopO_run (step := fun s : List Int × Int => spec_l10Do.s0 l o s.1 s.2) (fun i => (scanL l (place l o.Key) (i - place l o.Key), (i : Int))) E (r := .out (scanL l (place l o.Key) (E - place l o.Key))) (fun i hi => by
      have hl := scanL_len l (place l o.Key) (i - place l o.Key)
      simp only [spec_l10Do.s0, w2, decide_eq_true (show (i : Int) < (l.length : Int) by omega), cond_true, Option.bind_some, if_pos (show (0 : Int) ≤ (i : Int) ∧ (i : Int) < (l.length : Int) by omega), Int.toNat_natCast, hl]
      rw [decide_eq_true (show ((2 * (i - place l o.Key) : Nat) : Int) < 2 * o.Value by omega), w64_id (by omega) (by omega), show (i : Int) + 1 = ((i + 1 : Nat) : Int) by omega]
      rcases Nat.lt_or_ge i (place l o.Key) with h | h
      · have h7 := place_lt h
        rw [decide_eq_false (by omega)]
        simp only [cond_true, cond_false, Option.bind_some]
        rw [show i - place l o.Key = 0 by omega, show i + 1 - place l o.Key = 0 by omega]
      · have h7 := place_ge' hs h (show i < l.length by omega)
        rw [decide_eq_true (by omega), if_pos (by simp only [List.length_cons, List.length_nil]; omega)]
        simp only [cond_true, Option.bind_some]
        rw [show i + 1 - place l o.Key = (i - place l o.Key) + 1 by omega]
        simp only [scanL, cellL]
        rw [show place l o.Key + (i - place l o.Key) = i by omega, if_pos (show i < l.length by omega)]) (by
      have hl := scanL_len l (place l o.Key) (E - place l o.Key)
      simp only [spec_l10Do.s0, w2]
      by_cases h : E < l.length
      · rw [decide_eq_true (show (E : Int) < (l.length : Int) by omega)]
        simp only [cond_true, Option.bind_some, hl]
        rw [decide_eq_false (by omega)]; rfl
      · rw [decide_eq_false (show ¬ (E : Int) < (l.length : Int) by omega)]; rfl)
    have i0 : (([] : List Int), (0 : Int)) = (fun i : Nat => (scanL l (place l o.Key) (i - place l o.Key), (i : Int))) 0 := by simp [scanL]
    have r2 := loopO_run (step := fun s : List Int => spec_l10Do.s1 o s) (fun j => scanL l (place l o.Key) (E - place l o.Key) ++ List.replicate j 0) (2 * (n - (E - place l o.Key))) (r := .out (scanL l (place l o.Key) n)) (fun j hj => by
      have hl := scanL_len l (place l o.Key) (E - place l o.Key)
      simp only [spec_l10Do.s1, w2, List.length_append, hl, List.length_replicate, List.length_cons, List.length_nil]
      rw [decide_eq_true (by omega), cond_true, if_pos (by omega), List.append_assoc, show ([0] : List Int) = List.replicate 1 0 from rfl, List.replicate_append_replicate]) (by
      have hl := scanL_len l (place l o.Key) (E - place l o.Key)
      simp only [spec_l10Do.s1, w2, List.length_append, hl, List.length_replicate]
      rw [decide_eq_false (by omega), cond_false]
      congr 3
      by_cases h : E < l.length
      · rw [show E - place l o.Key = n by omega]; simp
      · rw [← scanL_pad l _ _ (by omega), show E - place l o.Key + (n - (E - place l o.Key)) = n by omega])
    have i1 : scanL l (place l o.Key) (E - place l o.Key) = (fun j : Nat => scanL l (place l o.Key) (E - place l o.Key) ++ List.replicate j 0) 0 := by simp
    rw [i0, r1]
    simp only [Option.bind_some]
    rw [i1, r2]
    simp only [Option.bind_some]
    rw [hn, Int.toNat_natCast]
  simp only [h6, cond_false, inB_iff] at hv
  simp only [cond_false]
  have e11 : (bif !found l o.Key then (some ((l.length : Int) == 11)) else (some false)) = some ((!found l o.Key) && ((l.length : Int) == 11)) := by cases found l o.Key <;> rfl
  simp only [e11, Option.bind_some]
  cases (!found l o.Key) && ((l.length : Int) == 11)
  case true => rfl
  simp only [cond_false]
  cases h2 : o.Kind == 2
  case true => simp only [cond_true, l10Put_eq l o.Key _ hs, Option.bind_some]
  simp only [cond_false]
  rw [w64_id (by omega) (by omega)]
  cases decide (foundV l o.Key + o.Value > 999999)
  · simp only [cond_false, l10Put_eq l o.Key _ hs, Option.bind_some]
  · rfl

theorem l10Txn_loop (l : List S_Entry) (t : S_Txn) (hl : t.Ops.length ≤ 4) (ho : ∀ o ∈ t.Ops, opOK o = true) (hs : Sorted l) : loopO (fun s => spec_l10Txn.s0 l t s.1 s.2.1 s.2.2) (l, 0, ([] : List Int)) = some (txnGo l t.Ops l []) :=
  txn_loop hl ho hs _ (fun m out => by
    simp only [spec_l10Txn.s0]
    rw [decide_eq_false (by omega)]; rfl) (fun m k out hm hk hout => by
    have hoi := ho _ (getD_mem hk z_Op)
    have hdl := doL_len m (t.Ops.getD k z_Op) (opOK_scan hoi)
    simp only [spec_l10Txn.s0, decide_eq_true (show (k : Int) < (t.Ops.length : Int) by omega), cond_true, if_pos (show (0 : Int) ≤ (k : Int) ∧ (k : Int) < (t.Ops.length : Int) by omega), Int.toNat_natCast, l10Do_eq m _ hm hoi, Option.bind_some]
    rw [if_pos (by omega), w64_id (by omega) (by omega), show (k : Int) + 1 = ((k + 1 : Nat) : Int) by omega])

theorem id_laws_toOp (x : S_Op) : laws_toOp.f x = some x := by
  unfold laws_toOp.f
  rfl

theorem id_laws_toOpS (x : List S_Op) (h : x.length ≤ 1048576) : laws_toOpS.f x = some x := by
  have hlen : x.length ≤ 1048576 := h
  unfold laws_toOpS.f
  rw [if_pos (by omega)]
  have h0 : ((x.length : Int)).toNat = x.length := by simp
  rw [h0, ← filled_zero x z_Op]
  have := loopO_run (step := fun s => laws_toOpS.s0 x s.1 s.2) (fun k => (filled x z_Op k, (k : Int))) x.length (r := .out x) (fun k hk => by
    have hl := filled_len x z_Op k (by omega)
    simp only [laws_toOpS.s0, id_laws_toOp (x.getD k z_Op), decide_eq_true (show (k : Int) < (x.length : Int) by omega), cond_true, if_pos (show (0 : Int) ≤ (k : Int) ∧ (k : Int) < (x.length : Int) by omega), Option.bind_some, if_pos (show (0 : Int) ≤ (k : Int) ∧ (k : Int) < ((filled x z_Op k).length : Int) by omega), Int.toNat_natCast]
    rw [w64_id (by omega) (by omega), filled_set x z_Op k hk]
    rfl) (by
    simp only [laws_toOpS.s0, filled_all]
    rw [decide_eq_false (by omega)]; rfl)
  have this2 : loopO (fun s => laws_toOpS.s0 x s.1 s.2) (filled x z_Op 0, 0) = some (.out x) := this
  rw [this2]
  rfl

theorem id_laws_toTxn (x : S_Txn) (h : (x.Ops.length ≤ 1048576)) : laws_toTxn.f x = some x := by
  unfold laws_toTxn.f
  simp only [id_laws_toOpS x.Ops h, Option.bind_some]

theorem within_eq (x lo hi : Int) : impl_within.f x lo hi = some (inB x lo hi) := by
  unfold impl_within.f inB; cases decide (lo ≤ x) <;> rfl

theorem isKey_eq (x : Int) : impl_isKey.f x = some (inB x 1 9999) := by unfold impl_isKey.f; rw [within_eq]; rfl

theorem isValue_eq (x : Int) : impl_isValue.f x = some (inB x 0 999999) := by unfold impl_isValue.f; rw [within_eq]; rfl

theorem impl_MapOK_eq (l : List S_Entry) (h : l.length ≤ 1073741824) : impl_MapOK.f l = some (mapOK l) := by
  unfold impl_MapOK.f
  have := loopO_scan (step := fun s => impl_MapOK.s0 l s) (fun k => (k : Int)) l.length (mapP l) (b := false) (t := ()) (fun k hk => by
    simp only [impl_MapOK.s0, isKey_eq, isValue_eq, Option.bind_some, Int.toNat_natCast, decide_eq_true (show (k : Int) < (l.length : Int) by omega), cond_true, if_pos (show 0 ≤ (k : Int) ∧ (k : Int) < (l.length : Int) by omega), mapP]
    rw [w64_id (x := (k : Int) + 1) (by omega) (by omega)]
    cases inB (l.getD k z_Entry).Key 1 9999
    · rfl
    cases inB (l.getD k z_Entry).Value 0 999999
    · rfl
    cases k with
    | zero => rfl
    | succ k =>
      rw [w64_id (x := ((k + 1 : Nat) : Int) - 1) (by omega) (by omega)]
      have e : (((k + 1 : Nat) : Int) - 1).toNat = k := by omega
      have e2 : ((k + 1 : Nat) : Int) > 0 := by omega
      simp only [decide_eq_true e2, if_pos (show 0 ≤ ((k + 1 : Nat) : Int) - 1 ∧ ((k + 1 : Nat) : Int) - 1 < (l.length : Int) by omega), e, Nat.add_sub_cancel]
      by_cases hC : (l.getD k z_Entry).Key < (l.getD (k + 1) z_Entry).Key
      · rw [decide_eq_true hC, decide_eq_false (by omega)]; rfl
      · rw [decide_eq_false hC, decide_eq_true (by omega)]; rfl) (by
    simp only [impl_MapOK.s0]
    rw [decide_eq_false (by omega)]; rfl)
  rw [show ((0 : Int)) = ((0 : Nat) : Int) from rfl, this]
  unfold mapOK
  have e : decide ((l.length : Int) ≤ 11) = decide (l.length ≤ 11) := by
    by_cases h : l.length ≤ 11
    · rw [decide_eq_true h, decide_eq_true (by omega)]
    · rw [decide_eq_false h, decide_eq_false (by omega)]
  cases (List.range l.length).all (mapP l)
  · rfl
  · simp [e]

theorem impl_OpOK_eq (o : S_Op) : impl_OpOK.f o = some (opOK o) := by
  unfold impl_OpOK.f impl_isBare.f opOK
  simp only [within_eq, isKey_eq, isValue_eq, Option.bind_some]
  cases inB o.Kind 1 6 <;> cases inB o.Key 1 9999 <;> cases o.Kind == 1 <;> cases o.Kind == 3 <;> cases o.Kind == 6 <;> rfl

theorem idx_slices_IndexFunc_impl_Op_impl_Op (l : List S_Op) (q : S_Op → Option Bool) (p : S_Op → Bool) (h : l.length ≤ 1073741824) (hq : ∀ x, x ∈ l → q x = some (p x)) : slices_IndexFunc_impl_Op_impl_Op.f l q = some (idxOf l z_Op p) := by
  unfold slices_IndexFunc_impl_Op_impl_Op.f idxOf
  have := loopO_find (step := fun s => slices_IndexFunc_impl_Op_impl_Op.s0 l q s) (fun k => (k : Int)) l.length (fun k => p (l.getD k z_Op)) (fun k => (k : Int)) (t := ()) (fun k hk => by
    simp only [slices_IndexFunc_impl_Op_impl_Op.s0, decide_eq_true (show (k : Int) < (l.length : Int) by omega), cond_true, if_pos (show (0 : Int) ≤ (k : Int) ∧ (k : Int) < (l.length : Int) by omega), Int.toNat_natCast, hq _ (getD_mem hk _), Option.bind_some]
    rw [w64_id (by omega) (by omega)]
    cases p (l.getD k z_Op) <;> rfl) (by
    simp only [slices_IndexFunc_impl_Op_impl_Op.s0]
    rw [decide_eq_false (by omega)]; rfl)
  rw [show ((0 : Int)) = ((0 : Nat) : Int) from rfl, this]
  cases (List.range l.length).find? (fun k => p (l.getD k z_Op)) <;> rfl

theorem any_slices_ContainsFunc_impl_Op_impl_Op (l : List S_Op) (q : S_Op → Option Bool) (p : S_Op → Bool) (h : l.length ≤ 1073741824) (hq : ∀ x, x ∈ l → q x = some (p x)) : slices_ContainsFunc_impl_Op_impl_Op.f l q = some (l.any p) := by
  unfold slices_ContainsFunc_impl_Op_impl_Op.f
  rw [idx_slices_IndexFunc_impl_Op_impl_Op l q p h hq, ← idxOf_any l z_Op p]
  rfl

theorem all_impl_areAll_impl_Op (l : List S_Op) (q : S_Op → Option Bool) (p : S_Op → Bool) (h : l.length ≤ 1073741824) (hq : ∀ x, x ∈ l → q x = some (p x)) : impl_areAll_impl_Op.f l q = some (l.all p) := by
  unfold impl_areAll_impl_Op.f
  rw [any_slices_ContainsFunc_impl_Op_impl_Op l _ (fun x => !p x) h (fun x hx => by unfold impl_areAll_impl_Op__c1.f; rw [hq x hx]; rfl)]
  simp only [Option.bind_some, List.any_eq_not_all_not, Bool.not_not]

theorem isTxn_eq (t : S_Txn) (h : t.Ops.length ≤ 1073741824) : impl_isTxn.f t = some (txnOK t) := by
  unfold impl_isTxn.f txnOK
  rw [all_impl_areAll_impl_Op t.Ops _ opOK h (fun x _ => impl_OpOK_eq x)]
  simp only [within_eq, Option.bind_some]
  cases inB (t.Ops.length : Int) 1 4 <;> cases t.Ops.all opOK <;> rfl

theorem mid_eq (i j : Nat) (h : i ≤ j) (hj : j ≤ 1073741824) : IntKind.wrap .i64 (Int.fdiv (IntKind.wrap .u64 (w64 ((i : Int) + j))) (2 ^ 1)) = (((i + j) / 2 : Nat) : Int) := by
  rw [w64_id (by omega) (by omega)]
  have h1 : IntKind.wrap .u64 ((i : Int) + j) = (i : Int) + j := by
    rw [wrap_u64]; omega
  rw [h1]
  have h2 : Int.fdiv ((i : Int) + j) (2 ^ 1) = (((i + j) / 2 : Nat) : Int) := by
    rw [Int.fdiv_eq_ediv_of_nonneg _ (by decide)]
    omega
  rw [h2]
  exact w64_id (by omega) (by omega)
theorem find_eq (l : List S_Entry) (x : Int) (hs : Sorted l) (hx : 1 ≤ x ∧ x ≤ 9999) : impl_find.f l x = some ((place l x : Int), found l x) := by
  unfold impl_find.f slices_BinarySearchFunc_impl_Entry_impl_Entry_int.f
  have hn := hs.short
  obtain ⟨r, h1, h2⟩ := loopO_wf (step := fun s : Int × Int => slices_BinarySearchFunc_impl_Entry_impl_Entry_int.s0 l x impl_find_c1.f s.1 s.2)
    (fun s => ∃ i j : Nat, s = ((i : Int), (j : Int)) ∧ i ≤ j ∧ j ≤ l.length ∧ (∀ t, t < i → (l.getD t z_Entry).Key < x) ∧ (∀ t, j ≤ t → t < l.length → x ≤ (l.getD t z_Entry).Key))
    (fun r => r = .out (place l x : Int)) (fun s => (s.2 - s.1).toNat) (fun s hI => by
      obtain ⟨i, j, rfl, hij, hj, hlo, hhi⟩ := hI
      by_cases hlt : i < j
      · have hm := mid_eq i j hij (by omega)
        have hmlt : (i + j) / 2 < l.length := by omega
        have hk := hs.key _ hmlt
        simp only [slices_BinarySearchFunc_impl_Entry_impl_Entry_int.s0, decide_eq_true (show (i : Int) < (j : Int) by omega), cond_true, hm, if_pos (show (0 : Int) ≤ (((i + j) / 2 : Nat) : Int) ∧ (((i + j) / 2 : Nat) : Int) < (l.length : Int) by omega), Int.toNat_natCast, impl_find_c1.f, Option.bind_some]
        rw [w64_id (x := (l.getD ((i + j) / 2) z_Entry).Key - x) (by omega) (by omega)]
        by_cases hc : (l.getD ((i + j) / 2) z_Entry).Key < x
        · rw [decide_eq_true (by omega), w64_id (by omega) (by omega)]
          refine .inl ⟨_, rfl, ⟨(i + j) / 2 + 1, j, by simp, by omega, hj, fun t ht => ?_, hhi⟩, by simp only []; omega⟩
          rcases Nat.lt_or_ge t ((i + j) / 2) with h | h
          · have := hs.up _ _ h hmlt; omega
          · have : t = (i + j) / 2 := by omega
            rw [this]; exact hc
        · rw [decide_eq_false (by omega)]
          refine .inl ⟨_, rfl, ⟨i, (i + j) / 2, rfl, by omega, by omega, hlo, fun t ht ht2 => ?_⟩, by simp only []; omega⟩
          rcases Nat.lt_or_ge ((i + j) / 2) t with h | h
          · have := hs.up _ _ h ht2; omega
          · have : t = (i + j) / 2 := by omega
            rw [this]; omega
      · have e : i = j := by omega
        subst e
        refine .inr ⟨.out (i : Int), ?_, ?_⟩
        · simp only [slices_BinarySearchFunc_impl_Entry_impl_Entry_int.s0]
          rw [decide_eq_false (by omega)]; rfl
        · rw [place_eq (l := l) (x := x) hj hlo (fun h => hhi i (Nat.le_refl _) h)]) _ (0, (l.length : Int)) (Nat.le_refl _) ⟨0, l.length, rfl, Nat.zero_le _, Nat.le_refl _, fun t ht => by omega, fun t h1 h2 => by omega⟩
  rw [h1, h2]
  have hp := place_le l x
  simp only [Option.bind_some]
  unfold found
  by_cases hlt : place l x < l.length
  · have hk := hs.key _ hlt
    rw [decide_eq_true (show (place l x : Int) < (l.length : Int) by omega), decide_eq_true hlt]
    simp only [cond_true, if_pos (show (0 : Int) ≤ (place l x : Int) ∧ (place l x : Int) < (l.length : Int) by omega), Int.toNat_natCast, impl_find_c1.f, Option.bind_some, Bool.true_and]
    rw [w64_id (by omega) (by omega)]
    congr 2
    generalize (l.getD (place l x) z_Entry).Key = y
    rw [Bool.eq_iff_iff, beq_iff_eq, beq_iff_eq]
    omega
  · rw [decide_eq_false (show ¬ (place l x : Int) < (l.length : Int) by omega), decide_eq_false hlt]
    rfl

theorem impl_scan_eq (l : List S_Entry) (k : Int) (n : Nat) (hs : Sorted l) (hk : 1 ≤ k ∧ k ≤ 9999) (hn : n ≤ 4) : impl_scan.f l k n = some (scanL l (place l k) n) := by
  unfold impl_scan.f
  rw [find_eq l k hs hk]
  simp only [Option.bind_some]
  have hp := place_le l k
  have hsh := hs.short
  have := loopO_run (step := fun s : Int × Int × List Int => impl_scan.s0 l s.1 s.2.1 s.2.2) (fun t => ((n : Int) - t, ((place l k + t : Nat) : Int), scanL l (place l k) t)) n (r := .out (scanL l (place l k) n)) (fun t ht => by
    have hl := scanL_len l (place l k) t
    simp only [impl_scan.s0, decide_eq_true (show (n : Int) - t > 0 by omega), cond_true]
    rw [w64_id (x := (n : Int) - t - 1) (by omega) (by omega), w64_id (x := ((place l k + t : Nat) : Int) + 1) (by omega) (by omega), show (n : Int) - t - 1 = (n : Int) - ((t + 1 : Nat) : Int) by omega, show ((place l k + t : Nat) : Int) + 1 = ((place l k + (t + 1) : Nat) : Int) by omega]
    by_cases h : place l k + t < l.length
    · simp only [decide_eq_true (show ((place l k + t : Nat) : Int) < (l.length : Int) by omega), cond_true, if_pos (show (0 : Int) ≤ ((place l k + t : Nat) : Int) ∧ ((place l k + t : Nat) : Int) < (l.length : Int) by omega), Int.toNat_natCast]
      rw [if_pos (by rw [hl]; simp only [List.length_cons, List.length_nil]; omega)]
      simp only [Option.bind_some, scanL, cellL, if_pos h]
    · simp only [decide_eq_false (show ¬ ((place l k + t : Nat) : Int) < (l.length : Int) by omega), cond_false]
      rw [if_pos (by rw [hl]; simp only [List.length_cons, List.length_nil]; omega)]
      simp only [Option.bind_some, scanL, cellL, if_neg h]) (by
    simp only [impl_scan.s0, decide_eq_false (show ¬ ((n : Int) - n > 0) by omega), cond_false])
  have h0 : ((n : Int), ((place l k : Nat) : Int), ([] : List Int)) = (fun t : Nat => ((n : Int) - t, ((place l k + t : Nat) : Int), scanL l (place l k) t)) 0 := by simp [scanL]
  rw [h0, this]
  rfl

theorem clone_eq (l : List S_Entry) (h : l.length ≤ 1073741824) : slices_Clone_impl_Entry_impl_Entry.f l = some l := by unfold slices_Clone_impl_Entry_impl_Entry.f; rw [if_pos h]
theorem set_put {α : Type} (l : List α) (i : Nat) (x : α) (h : i < l.length) : l.set i x = l.take i ++ [x] ++ l.drop (i + 1) := by
  rw [List.set_eq_take_append_cons_drop, if_pos h]; simp
theorem impl_put_eq (l : List S_Entry) (k v : Int) (hs : Sorted l) (hk : 1 ≤ k ∧ k ≤ 9999) : impl_put.f l k v = some (bif (!found l k) && ((l.length : Int) == 11) then (l, false) else (putL l k v, true)) := by
  have hp := place_le l k
  have hsh := hs.short
  unfold impl_put.f
  rw [find_eq l k hs hk, clone_eq l (by omega)]
  simp only [Option.bind_some]
  cases hf : found l k
  · cases h11 : ((l.length : Int) == 11)
    · simp only [cond_false, cond_true, Bool.not_false, Bool.and_false]
      rw [if_pos (by simp only [List.length_cons, List.length_nil]; omega)]
      simp only [Option.bind_some, Int.toNat_natCast, insL, putL, hf, cond_false]
    · simp only [cond_false, cond_true, Bool.not_false, Bool.and_true, Option.bind_some]
  · obtain ⟨h1, h2⟩ := found_lt hf
    simp only [cond_true, Bool.not_true, Bool.false_and, cond_false, if_pos (show (0 : Int) ≤ ((place l k : Nat) : Int) ∧ ((place l k : Nat) : Int) < (l.length : Int) by omega), Option.bind_some, Int.toNat_natCast, h2]
    rw [set_put l _ _ h1]
    simp only [putL, hf, cond_true]

theorem impl_do_eq (l : List S_Entry) (o : S_Op) (hs : Sorted l) (ho : opOK o = true) : impl_do.f l o = some (doL l o) := by
  have hsh := hs.short
  unfold opOK at ho
  simp only [Bool.and_eq_true, inB_iff] at ho
  obtain ⟨⟨hkd, hk⟩, hv⟩ := ho
  have hp := place_le l o.Key
  have hfv := foundV_rng hs o.Key
  have e10 : (bif found l o.Key then (if (0 : Int) ≤ ((place l o.Key : Nat) : Int) ∧ ((place l o.Key : Nat) : Int) < (l.length : Int) then (some ((l.getD (((place l o.Key : Nat) : Int)).toNat z_Entry).Value)) else none) else (some 0)) = some (foundV l o.Key) := by
    unfold foundV
    cases hf : found l o.Key
    · rfl
    · obtain ⟨h1, h2⟩ := found_lt hf
      simp only [cond_true, if_pos (show (0 : Int) ≤ ((place l o.Key : Nat) : Int) ∧ ((place l o.Key : Nat) : Int) < (l.length : Int) by omega), Int.toNat_natCast]
  unfold impl_do.f
  rw [find_eq l o.Key hs hk]
  simp only [Option.bind_some, e10]
  unfold doL
  cases h1 : o.Kind == 1
  case true => simp only [cond_true]; cases hf : found l o.Key <;> simp [foundV, hf]
  simp only [cond_false, h1, Bool.false_or] at hv ⊢
  cases h3 : o.Kind == 3
  case true =>
    simp only [cond_true]
    cases hf : found l o.Key
    · rfl
    · obtain ⟨h4, h5⟩ := found_lt hf
      rw [clone_eq l (by omega)]
      simp only [Option.bind_some, cond_true]
      rw [w64_id (by omega) (by omega), if_pos (by omega), show ((place l o.Key : Nat) : Int) + 1 = ((place l o.Key + 1 : Nat) : Int) by omega, Int.toNat_natCast, Int.toNat_natCast]
  simp only [cond_false, h3] at hv ⊢
  cases h4 : o.Kind == 4
  case true =>
    simp only [cond_true]
    cases found l o.Key
    · rfl
    · simp only [Bool.not_true, Bool.false_or, cond_false, Option.bind_some]
      cases foundV l o.Key != o.Value <;> rfl
  simp only [cond_false]
  cases h6 : o.Kind == 6
  case true =>
    simp only [h6, cond_true, inB_iff] at hv
    simp only [cond_true]
    have e : o.Value = ((o.Value.toNat : Nat) : Int) := by omega
    have := impl_scan_eq l o.Key o.Value.toNat hs hk (by omega)
    rw [← e] at this
    rw [this]; rfl
  simp only [h6, cond_false, inB_iff] at hv
  simp only [cond_false]
  unfold impl_do2.f
  cases h5 : o.Kind == 5
  case true =>
    have h2 : (o.Kind == 2) = false := by
      simp only [beq_iff_eq] at h5
      rw [h5]; rfl
    simp only [cond_true, Option.bind_some, h2, cond_false]
    rw [w64_id (by omega) (by omega), impl_put_eq l o.Key _ hs hk]
    rw [show o.Value + foundV l o.Key = foundV l o.Key + o.Value by omega]
    cases (!found l o.Key) && ((l.length : Int) == 11)
    · simp only [cond_false, Option.bind_some, Bool.not_true, isValue_eq]
      by_cases hb : foundV l o.Key + o.Value > 999999
      · rw [decide_eq_true hb, show inB (foundV l o.Key + o.Value) 0 999999 = false by rw [← Bool.not_eq_true, inB_iff]; omega]; rfl
      · rw [decide_eq_false hb, show inB (foundV l o.Key + o.Value) 0 999999 = true by rw [inB_iff]; omega]; rfl
    · rfl
  case false =>
    have h2 : (o.Kind == 2) = true := by
      simp only [beq_eq_false_iff_ne, ne_eq] at h1 h3 h4 h5 h6
      rw [beq_iff_eq]; omega
    simp only [cond_false, Option.bind_some, h2, cond_true]
    rw [impl_put_eq l o.Key _ hs hk]
    cases (!found l o.Key) && ((l.length : Int) == 11)
    · simp only [cond_false, Option.bind_some, Bool.not_true, isValue_eq]
      rw [show inB o.Value 0 999999 = true by rw [inB_iff]; omega]; rfl
    · rfl

theorem doTxn_loop (l : List S_Entry) (t : S_Txn) (hl : t.Ops.length ≤ 4) (ho : ∀ o ∈ t.Ops, opOK o = true) (hs : Sorted l) : loopO (fun s => impl_doTxn.s0 l t s.1 s.2.1 s.2.2) (l, 0, ([] : List Int)) = some (txnGo l t.Ops l []) :=
  txn_loop hl ho hs _ (fun m out => by
    simp only [impl_doTxn.s0]
    rw [decide_eq_false (by omega)]; rfl) (fun m k out hm hk hout => by
    have hoi := ho _ (getD_mem hk z_Op)
    have hdl := doL_len m (t.Ops.getD k z_Op) (opOK_scan hoi)
    simp only [impl_doTxn.s0, decide_eq_true (show (k : Int) < (t.Ops.length : Int) by omega), cond_true, if_pos (show (0 : Int) ≤ (k : Int) ∧ (k : Int) < (t.Ops.length : Int) by omega), Int.toNat_natCast, impl_do_eq m _ hm hoi, Option.bind_some]
    rw [if_pos (by omega), w64_id (by omega) (by omega), show (k : Int) + 1 = ((k + 1 : Nat) : Int) by omega])

theorem refl_laws_eqIntS (x : List Int) (h : x.length ≤ 1048576) : laws_eqIntS.f x x = some true := by
  have hlen : x.length ≤ 1048576 := h
  unfold laws_eqIntS.f
  rw [show ((x.length : Int) != (x.length : Int)) = false from by simp]
  have := loopO_run (step := fun s => laws_eqIntS.s0 x x s) (fun k => (k : Int)) x.length (r := .out ()) (fun k hk => by
    simp only [laws_eqIntS.s0, decide_eq_true (show (k : Int) < (x.length : Int) by omega), cond_true, if_pos (show (0 : Int) ≤ (k : Int) ∧ (k : Int) < (x.length : Int) by omega), Int.toNat_natCast, bne_self_eq_false, beq_self_eq_true, Bool.not_true, cond_false, Option.bind_some]
    rw [w64_id (by omega) (by omega)]
    rfl) (by
    simp only [laws_eqIntS.s0]
    rw [decide_eq_false (by omega)]; rfl)
  rw [show ((0 : Int)) = ((0 : Nat) : Int) from rfl, this]
  rfl

theorem reflL_laws_eqIntS (x : List Int) (h : x.length ≤ 1048576) : laws_eqIntS.f x x = some true := by
  have hlen : x.length ≤ 1048576 := h
  unfold laws_eqIntS.f
  rw [show ((x.length : Int) != (x.length : Int)) = false from by simp]
  have := loopO_run (step := fun s => laws_eqIntS.s0 x x s) (fun k => (k : Int)) x.length (r := .out ()) (fun k hk => by
    simp only [laws_eqIntS.s0, decide_eq_true (show (k : Int) < (x.length : Int) by omega), cond_true, if_pos (show (0 : Int) ≤ (k : Int) ∧ (k : Int) < (x.length : Int) by omega), Int.toNat_natCast, bne_self_eq_false, beq_self_eq_true, bs_self, Bool.not_true, cond_false, Option.bind_some]
    rw [w64_id (by omega) (by omega)]
    rfl) (by
    simp only [laws_eqIntS.s0]
    rw [decide_eq_false (by omega)]; rfl)
  rw [show ((0 : Int)) = ((0 : Nat) : Int) from rfl, this]
  rfl

theorem refl_laws_eqResult (x : S_Result) (h : (x.Values.length ≤ 1048576)) : laws_eqResult.f x x = some true := by
  unfold laws_eqResult.f
  simp only [refl_laws_eqIntS x.Values h, bne_self_eq_false, beq_self_eq_true, Bool.not_true, cond_false, Option.bind_some]

theorem reflL_laws_eqResult (x : S_Result) (h : (x.Values.length ≤ 1048576)) : laws_eqResult.f x x = some true := by
  unfold laws_eqResult.f
  simp only [reflL_laws_eqIntS x.Values h, bne_self_eq_false, beq_self_eq_true, bs_self, Bool.not_true, cond_false, Option.bind_some]

theorem refl_laws_eqOp (x : S_Op) : laws_eqOp.f x x = some true := by
  unfold laws_eqOp.f
  simp only [bne_self_eq_false, beq_self_eq_true, Bool.not_true, cond_false, Option.bind_some]

theorem reflF_laws_eqOp (x : S_Op) : laws_eqOp.f x x = some true := by
  unfold laws_eqOp.f
  simp only [bne_self_eq_false, beq_self_eq_true, bs_self, Bool.not_true, cond_false, Option.bind_some]

theorem refl_laws_eqOpS (x : List S_Op) (h : x.length ≤ 1048576) : laws_eqOpS.f x x = some true := by
  have hlen : x.length ≤ 1048576 := h
  unfold laws_eqOpS.f
  rw [show ((x.length : Int) != (x.length : Int)) = false from by simp]
  have := loopO_run (step := fun s => laws_eqOpS.s0 x x s) (fun k => (k : Int)) x.length (r := .out ()) (fun k hk => by
    simp only [laws_eqOpS.s0, decide_eq_true (show (k : Int) < (x.length : Int) by omega), cond_true, if_pos (show (0 : Int) ≤ (k : Int) ∧ (k : Int) < (x.length : Int) by omega), Int.toNat_natCast, refl_laws_eqOp (x.getD k z_Op), bne_self_eq_false, beq_self_eq_true, Bool.not_true, cond_false, Option.bind_some]
    rw [w64_id (by omega) (by omega)]
    rfl) (by
    simp only [laws_eqOpS.s0]
    rw [decide_eq_false (by omega)]; rfl)
  rw [show ((0 : Int)) = ((0 : Nat) : Int) from rfl, this]
  rfl

theorem reflL_laws_eqOpS (x : List S_Op) (h : x.length ≤ 1048576) : laws_eqOpS.f x x = some true := by
  have hlen : x.length ≤ 1048576 := h
  unfold laws_eqOpS.f
  rw [show ((x.length : Int) != (x.length : Int)) = false from by simp]
  have := loopO_run (step := fun s => laws_eqOpS.s0 x x s) (fun k => (k : Int)) x.length (r := .out ()) (fun k hk => by
    simp only [laws_eqOpS.s0, decide_eq_true (show (k : Int) < (x.length : Int) by omega), cond_true, if_pos (show (0 : Int) ≤ (k : Int) ∧ (k : Int) < (x.length : Int) by omega), Int.toNat_natCast, reflF_laws_eqOp (x.getD k z_Op), bne_self_eq_false, beq_self_eq_true, bs_self, Bool.not_true, cond_false, Option.bind_some]
    rw [w64_id (by omega) (by omega)]
    rfl) (by
    simp only [laws_eqOpS.s0]
    rw [decide_eq_false (by omega)]; rfl)
  rw [show ((0 : Int)) = ((0 : Nat) : Int) from rfl, this]
  rfl

theorem refl_laws_eqTxn (x : S_Txn) (h : (x.Ops.length ≤ 1048576)) : laws_eqTxn.f x x = some true := by
  unfold laws_eqTxn.f
  simp only [refl_laws_eqOpS x.Ops h, bne_self_eq_false, beq_self_eq_true, Bool.not_true, cond_false, Option.bind_some]

theorem reflL_laws_eqTxn (x : S_Txn) (h : (x.Ops.length ≤ 1048576)) : laws_eqTxn.f x x = some true := by
  unfold laws_eqTxn.f
  simp only [reflL_laws_eqOpS x.Ops h, bne_self_eq_false, beq_self_eq_true, bs_self, Bool.not_true, cond_false, Option.bind_some]

def F_laws_markOpS (q : Int) (x : S_Op) : S_Op := ⟨q, (q + 1), (q + 2)⟩
theorem mk_laws_markOpS (x : List S_Op) (k : Int) (h0 : 0 ≤ k) (h1 : k ≤ 144115188075855872) (hl : x.length ≤ 1048576) : ∃ m a, laws_markOpS.f x k = some (m, a) ∧ k ≤ m ∧ m ≤ k + 3145728 ∧ a.length = x.length ∧ True := by
  have hm := mark_gen (ρ := Int × List S_Op) x z_Op F_laws_markOpS 3 k (fun s => laws_markOpS.s0 x s.1 s.2.1 s.2.2) (by decide) (fun i u q hi hu hg hq1 hq2 => by
    have w1 : w64 (q + 1) = q + 1 := by rw [w64_id (by omega) (by omega)]
    have w2 : w64 (q + 1 + 1) = q + 2 := by rw [w64_id (by omega) (by omega)]; omega
    have w3 : w64 (q + 2 + 1) = q + 3 := by rw [w64_id (by omega) (by omega)]; omega
    have wi : w64 ((i : Int) + 1) = ((i + 1 : Nat) : Int) := by rw [w64_id (by omega) (by omega)]; omega
    simp only [laws_markOpS.s0, decide_eq_true (show (i : Int) < (x.length : Int) by omega), cond_true, if_pos (show (0 : Int) ≤ (i : Int) ∧ (i : Int) < (x.length : Int) by omega), Int.toNat_natCast, Option.bind_some, w1, w2, w3, wi, List.set_set, getD_set_self _ z_Op _ (show i < u.length by omega), getD_set_self _ z_Op _ (show i < (u.set i _).length by simp; omega), F_laws_markOpS]) (fun u q => by simp only [laws_markOpS.s0]; rw [decide_eq_false (by omega)]; rfl)
  refine ⟨k + 3 * x.length, mkL x z_Op F_laws_markOpS 3 k, ?_, by omega, by omega, mkL_len .., ?_⟩
  · unfold laws_markOpS.f; rw [hm]; rfl
  · trivial

theorem mk_laws_markTxn (x : S_Txn) (k : Int) (h0 : 0 ≤ k) (h1 : k ≤ 144115188072710144) (hl : (x.Ops.length ≤ 1048576)) : ∃ m a0, laws_markTxn.f x k = some (m, a0) ∧ k ≤ m ∧ m ≤ k + 3145728 ∧ True := by
  obtain ⟨m0, b0, e0, p0, q0, _, r0⟩ := mk_laws_markOpS x.Ops k (by omega) (by omega) hl
  refine ⟨m0, b0, ?_, by omega, by omega, ?_⟩
  · unfold laws_markTxn.f; simp only [e0, Option.bind_some]
  · trivial

def F_laws_markIntS (q : Int) (x : Int) : Int := q
theorem mk_laws_markIntS (x : List Int) (k : Int) (h0 : 0 ≤ k) (h1 : k ≤ 144115188075855872) (hl : x.length ≤ 1048576) : ∃ m a, laws_markIntS.f x k = some (m, a) ∧ k ≤ m ∧ m ≤ k + 1048576 ∧ a.length = x.length ∧ laws_heldIntS.f a k = some m := by
  have hm := mark_gen (ρ := Int × List Int) x 0 F_laws_markIntS 1 k (fun s => laws_markIntS.s0 x s.1 s.2.1 s.2.2) (by decide) (fun i u q hi hu hg hq1 hq2 => by
    have w1 : w64 (q + 1) = q + 1 := by rw [w64_id (by omega) (by omega)]
    have wi : w64 ((i : Int) + 1) = ((i + 1 : Nat) : Int) := by rw [w64_id (by omega) (by omega)]; omega
    simp only [laws_markIntS.s0, decide_eq_true (show (i : Int) < (x.length : Int) by omega), cond_true, if_pos (show (0 : Int) ≤ (i : Int) ∧ (i : Int) < (x.length : Int) by omega), Int.toNat_natCast, Option.bind_some, w1, wi, List.set_set, getD_set_self _ 0 _ (show i < u.length by omega), getD_set_self _ 0 _ (show i < (u.set i _).length by simp; omega), F_laws_markIntS]) (fun u q => by simp only [laws_markIntS.s0]; rw [decide_eq_false (by omega)]; rfl)
  refine ⟨k + 1 * x.length, mkL x 0 F_laws_markIntS 1 k, ?_, by omega, by omega, mkL_len .., ?_⟩
  · unfold laws_markIntS.f; rw [hm]; rfl
  · have hy := mkL_len x 0 F_laws_markIntS 1 k
    have hh := held_gen (ρ := Int) (mkL x 0 F_laws_markIntS 1 k) 1 k (fun s => laws_heldIntS.s0 (mkL x 0 F_laws_markIntS 1 k) s.1 s.2) (by decide) (fun i hi hq2 hq1 => by
    have hg := mkL_getD x 0 F_laws_markIntS 1 k (show i < x.length by omega)
    generalize hqq : k + 1 * (i : Int) = q at hg hq1 hq2 ⊢
    rw [hy] at hi hq2
    have w1 : w64 (q + 1) = q + 1 := by rw [w64_id (by omega) (by omega)]
    have wi : w64 ((i : Int) + 1) = ((i + 1 : Nat) : Int) := by rw [w64_id (by omega) (by omega)]; omega
    simp only [laws_heldIntS.s0, hy, decide_eq_true (show (i : Int) < (x.length : Int) by omega), cond_true, if_pos (show (0 : Int) ≤ (i : Int) ∧ (i : Int) < (x.length : Int) by omega), Int.toNat_natCast, Option.bind_some, w1, wi, hg, F_laws_markIntS, bne_self_eq_false, beq_self_eq_true, bs_self, Bool.not_true, cond_false]) (fun q => by simp only [laws_heldIntS.s0]; rw [decide_eq_false (by omega)]; rfl)
    rw [hy] at hh
    unfold laws_heldIntS.f; rw [hh]; rfl

theorem mk_laws_markResult (x : S_Result) (k : Int) (h0 : 0 ≤ k) (h1 : k ≤ 144115188074807296) (hl : (x.Values.length ≤ 1048576)) : ∃ m a0, laws_markResult.f x k = some (m, a0) ∧ k ≤ m ∧ m ≤ k + 1048576 ∧ ∀ y : S_Result, y.Values = a0 → laws_heldResult.f y k = some m := by
  obtain ⟨m0, b0, e0, p0, q0, _, r0⟩ := mk_laws_markIntS x.Values k (by omega) (by omega) hl
  refine ⟨m0, b0, ?_, by omega, by omega, ?_⟩
  · unfold laws_markResult.f; simp only [e0, Option.bind_some]
  · intro y y0
    have s0 : laws_heldIntS.f y.Values k = some m0 := by rw [y0]; exact r0
    unfold laws_heldResult.f; simp only [s0, decide_eq_false (show ¬ m0 < 0 by omega), Option.bind_some, cond_false]

end Go.Proofs.Ytlbbkehdfgjneaa
