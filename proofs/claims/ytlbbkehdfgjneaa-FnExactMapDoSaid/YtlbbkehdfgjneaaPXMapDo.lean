/- What the models of these functions come to. -/
import Derived.Test.YtlbbkehdfgjneaaP0
import Derived.Test.YtlbbkehdfgjneaaGXMapDon1
namespace Go.Proofs.Ytlbbkehdfgjneaa
open Go Go.Z Go.Proofs Go.MuLone Go.ChangeShapes Go.WideShapes Go.ChangeAt Go.RowKit
set_option linter.unusedVariables false
set_option linter.unusedSimpArgs false
def mapP (l : List S_Entry) (k : Nat) : Bool :=
  inB (l.getD k z_Entry).Key 1 9999 && inB (l.getD k z_Entry).Value 0 999999 && (k == 0 || decide ((l.getD (k - 1) z_Entry).Key < (l.getD k z_Entry).Key))
def mapOK (l : List S_Entry) : Bool := (List.range l.length).all (mapP l) && decide (l.length ≤ 11)
structure Sorted (l : List S_Entry) : Prop where
  short : l.length ≤ 11
  key : ∀ k, k < l.length → 1 ≤ (l.getD k z_Entry).Key ∧ (l.getD k z_Entry).Key ≤ 9999
  val : ∀ k, k < l.length → 0 ≤ (l.getD k z_Entry).Value ∧ (l.getD k z_Entry).Value ≤ 999999
  up : ∀ i j, i < j → j < l.length → (l.getD i z_Entry).Key < (l.getD j z_Entry).Key
theorem mapOK_sorted {l : List S_Entry} (h : mapOK l = true) : Sorted l := by
  unfold mapOK at h
  simp only [Bool.and_eq_true, decide_eq_true_eq, List.all_eq_true, List.mem_range] at h
  obtain ⟨h1, h2⟩ := h
  have h3 : ∀ k, k < l.length → (1 ≤ (l.getD k z_Entry).Key ∧ (l.getD k z_Entry).Key ≤ 9999) ∧ (0 ≤ (l.getD k z_Entry).Value ∧ (l.getD k z_Entry).Value ≤ 999999) ∧ (k = 0 ∨ (l.getD (k - 1) z_Entry).Key < (l.getD k z_Entry).Key) := fun k hk => by
    have := h1 k hk
    unfold mapP at this
    simp only [Bool.and_eq_true, inB_iff, Bool.or_eq_true, beq_iff_eq, decide_eq_true_eq] at this
    exact ⟨this.1.1, this.1.2, this.2⟩
  refine ⟨h2, fun k hk => (h3 k hk).1, fun k hk => (h3 k hk).2.1, fun i j hij hj => ?_⟩
  obtain ⟨m, rfl⟩ : ∃ m, j = i + 1 + m := ⟨j - i - 1, by omega⟩
  induction m with
  | zero =>
    rcases (h3 (i + 1) hj).2.2 with h | h
    · omega
    · simpa using h
  | succ m ih =>
    have h4 := ih (by omega) (by omega)
    rcases (h3 (i + 1 + (m + 1)) hj).2.2 with h | h
    · omega
    · have e : i + 1 + (m + 1) - 1 = i + 1 + m := by omega
      rw [e] at h; omega
/-- Where a key stands, or would. -/
def place (l : List S_Entry) (x : Int) : Nat := l.findIdx (fun e => decide (x ≤ e.Key))
def found (l : List S_Entry) (x : Int) : Bool := decide (place l x < l.length) && ((l.getD (place l x) z_Entry).Key == x)
theorem place_le (l : List S_Entry) (x : Int) : place l x ≤ l.length := List.findIdx_le_length
theorem place_lt {l : List S_Entry} {x : Int} {t : Nat} (h : t < place l x) : (l.getD t z_Entry).Key < x := by
  have ht : t < l.length := Nat.lt_of_lt_of_le h (place_le l x)
  rw [getD_lt ht]
  have := List.not_of_lt_findIdx h
  simp only [decide_eq_false_iff_not, Bool.not_eq_true, decide_eq_true_eq] at this
  omega
theorem place_ge {l : List S_Entry} {x : Int} (h : place l x < l.length) : x ≤ (l.getD (place l x) z_Entry).Key := by
  rw [getD_lt h]
  exact of_decide_eq_true (List.findIdx_getElem (w := h))
theorem place_ge' {l : List S_Entry} (hs : Sorted l) {x : Int} {t : Nat} (h : place l x ≤ t) (ht : t < l.length) : x ≤ (l.getD t z_Entry).Key := by
  have h1 := place_ge (l := l) (x := x) (by omega)
  rcases Nat.lt_or_ge (place l x) t with h2 | h2
  · have := hs.up _ _ h2 ht; omega
  · have : t = place l x := by omega
    rw [this]; exact h1
theorem place_eq {l : List S_Entry} {x : Int} {i : Nat} (hi : i ≤ l.length) (h1 : ∀ t, t < i → (l.getD t z_Entry).Key < x) (h2 : i < l.length → x ≤ (l.getD i z_Entry).Key) : i = place l x := by
  rcases Nat.lt_trichotomy i (place l x) with h | h | h
  · have a := place_lt h
    have b := h2 (by have := place_le l x; omega)
    omega
  · exact h
  · have a := h1 _ h
    have b := place_ge (l := l) (x := x) (by omega)
    omega

def opOK (o : S_Op) : Bool :=
  inB o.Kind 1 6 && inB o.Key 1 9999 && (bif o.Kind == 1 || o.Kind == 3 then o.Value == 0 else bif o.Kind == 6 then inB o.Value 1 4 else inB o.Value 0 999999)

def putL (l : List S_Entry) (k v : Int) : List S_Entry := l.take (place l k) ++ [(⟨k, v⟩ : S_Entry)] ++ l.drop (bif found l k then place l k + 1 else place l k)
def cellL (l : List S_Entry) (i : Nat) : List Int := if i < l.length then [(l.getD i z_Entry).Key, (l.getD i z_Entry).Value] else [0, 0]
/-- What a scan tells of n places from the place p on. -/
def scanL (l : List S_Entry) (p : Nat) : Nat → List Int
  | 0 => []
  | n + 1 => scanL l p n ++ cellL l (p + n)
theorem cellL_len (l : List S_Entry) (i : Nat) : (cellL l i).length = 2 := by unfold cellL; split <;> rfl
theorem scanL_len (l : List S_Entry) (p : Nat) : ∀ n, (scanL l p n).length = 2 * n
  | 0 => rfl
  | n + 1 => by simp only [scanL, List.length_append, scanL_len l p n, cellL_len]; omega
theorem scanL_pad (l : List S_Entry) (p a : Nat) (h : l.length ≤ p + a) : ∀ b, scanL l p (a + b) = scanL l p a ++ List.replicate (2 * b) 0
  | 0 => by simp
  | b + 1 => by
    rw [show a + (b + 1) = (a + b) + 1 by omega]
    show scanL l p (a + b) ++ cellL l (p + (a + b)) = _
    rw [scanL_pad l p a h b, List.append_assoc, show 2 * (b + 1) = 2 * b + 2 by omega, ← List.replicate_append_replicate]
    unfold cellL
    rw [if_neg (by omega)]; rfl
def foundV (l : List S_Entry) (k : Int) : Int := bif found l k then (l.getD (place l k) z_Entry).Value else 0
/-- One operation upon a map. -/
def doL (l : List S_Entry) (o : S_Op) : List S_Entry × List Int × Int :=
  bif o.Kind == 1 then (l, [bif found l o.Key then 1 else 0, foundV l o.Key], 0)
  else bif o.Kind == 3 then (bif found l o.Key then delL l (place l o.Key) (place l o.Key + 1) else l, [bif found l o.Key then 1 else 0], 0)
  else bif o.Kind == 4 then (l, [], bif (!found l o.Key) || (foundV l o.Key != o.Value) then 14 else 0)
  else bif o.Kind == 6 then (l, scanL l (place l o.Key) o.Value.toNat, 0)
  else bif (!found l o.Key) && ((l.length : Int) == 11) then (l, [], 7)
  else bif o.Kind == 2 then (putL l o.Key o.Value, [], 0)
  else bif decide (foundV l o.Key + o.Value > 999999) then (l, [], 4) else (putL l o.Key (foundV l o.Key + o.Value), [foundV l o.Key + o.Value], 0)
theorem found_lt {l : List S_Entry} {k : Int} (h : found l k = true) : place l k < l.length ∧ (l.getD (place l k) z_Entry).Key = k := by
  unfold found at h
  simpa only [Bool.and_eq_true, decide_eq_true_eq, beq_iff_eq] using h
theorem foundV_rng {l : List S_Entry} (hs : Sorted l) (k : Int) : 0 ≤ foundV l k ∧ foundV l k ≤ 999999 := by
  unfold foundV
  cases h : found l k
  · simp
  · exact hs.val _ (found_lt h).1
theorem putL_len (l : List S_Entry) (k v : Int) : (putL l k v).length ≤ l.length + 1 := by
  unfold putL
  have := place_le l k
  cases found l k <;> simp only [cond_true, cond_false, List.length_append, List.length_take, List.length_drop, List.length_cons, List.length_nil] <;> omega
theorem opOK_scan {o : S_Op} (h : opOK o = true) : (o.Kind == 6) = true → o.Value ≤ 4 := by
  intro h6
  have e : o.Kind = 6 := by simpa using h6
  unfold opOK at h
  simp only [e, Bool.and_eq_true] at h
  have := h.2
  simp only [show ((6 : Int) == 1) = false from rfl, show ((6 : Int) == 3) = false from rfl, Bool.or_self, cond_false, BEq.rfl, cond_true, inB_iff] at this
  exact this.2
theorem doL_len (l : List S_Entry) (o : S_Op) (h : (o.Kind == 6) = true → o.Value ≤ 4) : (doL l o).1.length ≤ l.length + 1 ∧ (doL l o).2.1.length ≤ 8 := by
  have h1 := putL_len l o.Key o.Value
  have h2 := putL_len l o.Key (foundV l o.Key + o.Value)
  unfold doL
  cases o.Kind == 1
  case true => exact ⟨Nat.le_succ _, by simp only [cond_true, List.length_cons, List.length_nil]; omega⟩
  cases o.Kind == 3
  case true =>
    cases hf : found l o.Key
    · exact ⟨Nat.le_succ _, by simp only [cond_true, cond_false, List.length_cons, List.length_nil]; omega⟩
    · have := (found_lt hf).1
      refine ⟨?_, by simp only [cond_true, cond_false, List.length_cons, List.length_nil]; omega⟩
      simp only [cond_true, cond_false]
      rw [len_delL _ _ _ (by omega) (by omega)]; omega
  cases o.Kind == 4
  case true => exact ⟨Nat.le_succ _, by simp only [cond_true, cond_false, List.length_nil]; omega⟩
  cases h6 : o.Kind == 6
  case true =>
    have := h h6
    exact ⟨Nat.le_succ _, by simp only [cond_true, cond_false, scanL_len]; omega⟩
  simp only [cond_false]
  cases (!found l o.Key) && ((l.length : Int) == 11)
  case true => exact ⟨Nat.le_succ _, by simp only [cond_true, List.length_nil]; omega⟩
  cases o.Kind == 2
  case true => exact ⟨h1, by simp only [cond_true, cond_false, List.length_nil]; omega⟩
  cases decide (foundV l o.Key + o.Value > 999999)
  · exact ⟨h2, by simp only [cond_false, List.length_cons, List.length_nil]; omega⟩
  · exact ⟨Nat.le_succ _, by simp only [cond_true, cond_false, List.length_nil]; omega⟩

theorem ok_laws_szEntryS (x : List S_Entry) (n : Int) (h0 : 0 ≤ n) (h1 : n ≤ 1048576) (g : (x.length ≤ maxLen ∧ ∀ y : S_Entry, y ∈ x → (((Lit.int .i64 y.Key).wf = true) ∧ ((Lit.int .i64 y.Value).wf = true)))) : ∃ m, laws_szEntryS.f x n = some m ∧ (m < 0 ∨ (0 ≤ m ∧ m ≤ n ∧ (x.length ≤ 1048576))) := by
  have hM : maxLen = 9223372036854775807 := rfl
  have g1 := g.1
  unfold laws_szEntryS.f
  rw [w64_id (x := n - (x.length : Int)) (by omega) (by omega)]
  by_cases h : n - (x.length : Int) < 0
  · rw [decide_eq_true h]; exact ⟨_, rfl, .inl (by decide)⟩
  rw [decide_eq_false h]; simp only [cond_false]
  exact ⟨_, rfl, .inr ⟨by omega, by omega, by omega⟩⟩

theorem l01In_eq (x lo hi : Int) : spec_l01In.f x lo hi = some (inB x lo hi) := by
  unfold spec_l01In.f inB; cases decide (lo ≤ x) <;> rfl

theorem spec_MapOK_eq (l : List S_Entry) (h : l.length ≤ 1073741824) : spec_MapOK.f l = some (mapOK l) := by
  unfold spec_MapOK.f
  by_cases hbig : l.length > 4096
  · rw [decide_eq_true (show (l.length : Int) > 4096 by omega)]
    unfold mapOK
    rw [decide_eq_false (show ¬ l.length ≤ 11 by omega), Bool.and_false]; rfl
  rw [decide_eq_false (show ¬ (l.length : Int) > 4096 by omega)]
  have := loopO_scan (step := fun s => spec_MapOK.s0 l s) (fun k => (k : Int)) l.length (mapP l) (b := false) (t := ()) (fun k hk => by
    simp only [spec_MapOK.s0, l01In_eq, Option.bind_some, Int.toNat_natCast, decide_eq_true (show (k : Int) < (l.length : Int) by omega), cond_true, if_pos (show 0 ≤ (k : Int) ∧ (k : Int) < (l.length : Int) by omega), mapP]
    rw [w64_id (x := (k : Int) + 1) (by omega) (by omega)]
    cases inB (l.getD k z_Entry).Key 1 9999
    · rfl
    cases inB (l.getD k z_Entry).Value 0 999999
    · rfl
    cases k with
    | zero => rfl
    | succ k =>
      rw [w64_id (x := ((k + 1 : Nat) : Int) - 1) (by omega) (by omega)]
      have e : (((k + 1 : Nat) : Int) - 1).toNat = k := by omega
      have e2 : ((k + 1 : Nat) : Int) > 0 := by omega
      simp only [decide_eq_true e2, if_pos (show 0 ≤ ((k + 1 : Nat) : Int) - 1 ∧ ((k + 1 : Nat) : Int) - 1 < (l.length : Int) by omega), e, Nat.add_sub_cancel]
      by_cases hC : (l.getD k z_Entry).Key < (l.getD (k + 1) z_Entry).Key
      · rw [decide_eq_true hC, decide_eq_false (by omega)]; rfl
      · rw [decide_eq_false hC, decide_eq_true (by omega)]; rfl) (by
    simp only [spec_MapOK.s0]
    rw [decide_eq_false (by omega)]; rfl)
  rw [show ((0 : Int)) = ((0 : Nat) : Int) from rfl, this]
  unfold mapOK
  have e : decide ((l.length : Int) ≤ 11) = decide (l.length ≤ 11) := by
    by_cases h : l.length ≤ 11
    · rw [decide_eq_true h, decide_eq_true (by omega)]
    · rw [decide_eq_false h, decide_eq_false (by omega)]
  cases (List.range l.length).all (mapP l)
  · rfl
  · simp [e]

theorem spec_OpOK_eq (o : S_Op) : spec_OpOK.f o = some (opOK o) := by
  unfold spec_OpOK.f opOK
  simp only [l01In_eq, Option.bind_some]
  cases inB o.Kind 1 6 <;> cases inB o.Key 1 9999 <;> cases o.Kind == 1 <;> cases o.Kind == 3 <;> cases o.Kind == 6 <;> rfl

theorem l10Find_eq (l : List S_Entry) (x : Int) (hs : Sorted l) : spec_l10Find.f l x = some (bif found l x then (place l x : Int) else -1) := by
  have hn := hs.short
  have hp := place_le l x
  unfold spec_l10Find.f
  by_cases hf : found l x = true
  · have hf' := hf
    unfold found at hf'
    simp only [Bool.and_eq_true, decide_eq_true_eq, beq_iff_eq] at hf'
    obtain ⟨h1, h2⟩ := hf'
    have := loopO_run (step := fun s => spec_l10Find.s0 l x s) (fun k => (k : Int)) (place l x) (r := .ret (place l x : Int)) (fun k hk => by
      have h3 := place_lt hk
      simp only [spec_l10Find.s0, decide_eq_true (show (k : Int) < (l.length : Int) by omega), cond_true, if_pos (show (0 : Int) ≤ (k : Int) ∧ (k : Int) < (l.length : Int) by omega), Int.toNat_natCast]
      rw [show ((l.getD k z_Entry).Key == x) = false from by simp only [beq_eq_false_iff_ne]; omega, w64_id (by omega) (by omega)]
      rfl) (by
      simp only [spec_l10Find.s0, decide_eq_true (show (place l x : Int) < (l.length : Int) by omega), cond_true, if_pos (show (0 : Int) ≤ (place l x : Int) ∧ (place l x : Int) < (l.length : Int) by omega), Int.toNat_natCast]
      rw [show ((l.getD (place l x) z_Entry).Key == x) = true from by simp only [beq_iff_eq]; exact h2]
      rfl)
    rw [show ((0 : Int)) = ((0 : Nat) : Int) from rfl, this, hf]
    rfl
  · have hf' : found l x = false := by simpa using hf
    have := loopO_run (step := fun s => spec_l10Find.s0 l x s) (fun k => (k : Int)) l.length (r := .out ()) (fun k hk => by
      have hne : (l.getD k z_Entry).Key ≠ x := fun e => by
        apply hf
        rcases Nat.lt_or_ge k (place l x) with h | h
        · have := place_lt h; omega
        · have h1 := place_ge (l := l) (x := x) (by omega)
          rcases Nat.lt_or_ge (place l x) k with h2 | h2
          · have := hs.up _ _ h2 hk; omega
          · have : k = place l x := by omega
            unfold found
            rw [← this, decide_eq_true hk, e]; simp
      simp only [spec_l10Find.s0, decide_eq_true (show (k : Int) < (l.length : Int) by omega), cond_true, if_pos (show (0 : Int) ≤ (k : Int) ∧ (k : Int) < (l.length : Int) by omega), Int.toNat_natCast]
      rw [show ((l.getD k z_Entry).Key == x) = false from by simp only [beq_eq_false_iff_ne]; exact hne, w64_id (by omega) (by omega)]
      rfl) (by
      simp only [spec_l10Find.s0]
      rw [decide_eq_false (by omega)]; rfl)
    rw [show ((0 : Int)) = ((0 : Nat) : Int) from rfl, this, hf']
    rfl

theorem l10Put_eq (l : List S_Entry) (k v : Int) (hs : Sorted l) : spec_l10Put.f l k v = some (putL l k v) := by
  have hp := place_le l k
  have hsh := hs.short
  unfold spec_l10Put.f
  have := loopO_run (step := fun s => spec_l10Put.s0 l k s) (fun t => (t : Int)) (place l k) (r := .out ((place l k : Nat) : Int)) (fun t ht => by
    have h3 := place_lt ht
    simp only [spec_l10Put.s0, decide_eq_true (show (t : Int) < (l.length : Int) by omega), cond_true, if_pos (show (0 : Int) ≤ (t : Int) ∧ (t : Int) < (l.length : Int) by omega), Int.toNat_natCast, Option.bind_some, decide_eq_true h3]
    rw [w64_id (by omega) (by omega)]; rfl) (by
    by_cases h : place l k < l.length
    · have h4 := place_ge h
      simp only [spec_l10Put.s0, decide_eq_true (show ((place l k : Nat) : Int) < (l.length : Int) by omega), cond_true, if_pos (show (0 : Int) ≤ ((place l k : Nat) : Int) ∧ ((place l k : Nat) : Int) < (l.length : Int) by omega), Int.toNat_natCast, Option.bind_some]
      rw [decide_eq_false (by omega)]; rfl
    · simp only [spec_l10Put.s0]
      rw [decide_eq_false (by omega)]; rfl)
  rw [show ((0 : Int)) = ((0 : Nat) : Int) from rfl, this]
  have e1 : (bif decide (((place l k : Nat) : Int) < (l.length : Int)) then (if (0 : Int) ≤ ((place l k : Nat) : Int) ∧ ((place l k : Nat) : Int) < (l.length : Int) then (some (((l.getD (((place l k : Nat) : Int)).toNat z_Entry).Key) == k)) else none) else (some false)) = some (found l k) := by
    unfold found
    by_cases h : place l k < l.length
    · rw [decide_eq_true h, decide_eq_true (show ((place l k : Nat) : Int) < (l.length : Int) by omega)]
      simp only [cond_true, if_pos (show (0 : Int) ≤ ((place l k : Nat) : Int) ∧ ((place l k : Nat) : Int) < (l.length : Int) by omega), Int.toNat_natCast, Bool.true_and]
    · rw [decide_eq_false h, decide_eq_false (show ¬ ((place l k : Nat) : Int) < (l.length : Int) by omega)]; rfl
  simp only [Option.bind_some, if_pos (show ((0 : Nat) : Int) ≤ ((place l k : Nat) : Int) ∧ ((place l k : Nat) : Int) ≤ (l.length : Int) by omega)]
  have e1' := e1
  simp only [show (0 : Int) = ((0 : Nat) : Int) from rfl] at e1'
  first
    | rw [e1]
    | rw [e1']
  simp only [Option.bind_some]
  unfold putL
  cases hf : found l k
  · simp only [cond_false, Option.bind_some, Int.toNat_natCast]
    rw [if_pos (by simp only [List.length_take, List.length_nil]; omega), if_pos (by simp only [List.length_append, List.length_take, List.length_nil, List.length_cons]; omega), if_pos (by simp only [List.length_append, List.length_take, List.length_nil, List.length_cons, List.length_drop]; omega), List.nil_append]
  · obtain ⟨h1, h2⟩ := found_lt hf
    simp only [cond_true]
    rw [w64_id (by omega) (by omega), if_pos (by omega), show ((place l k : Nat) : Int) + 1 = ((place l k + 1 : Nat) : Int) by omega]
    simp only [Option.bind_some, Int.toNat_natCast]
    rw [if_pos (by simp only [List.length_take, List.length_nil]; omega), if_pos (by simp only [List.length_append, List.length_take, List.length_nil, List.length_cons]; omega), if_pos (by simp only [List.length_append, List.length_take, List.length_nil, List.length_cons, List.length_drop]; omega), List.nil_append]

theorem l10Do_eq (l : List S_Entry) (o : S_Op) (hs : Sorted l) (ho : opOK o = true) : spec_l10Do.f l o = some (doL l o) := by
  have hsh := hs.short
  unfold opOK at ho
  simp only [Bool.and_eq_true, inB_iff] at ho
  obtain ⟨⟨hkd, hk⟩, hv⟩ := ho
  have hp := place_le l o.Key
  have hfv := foundV_rng hs o.Key
  obtain ⟨y, hy⟩ : ∃ y : Int, y = (bif found l o.Key then ((place l o.Key : Nat) : Int) else -1) := ⟨_, rfl⟩
  have hge : decide (y ≥ 0) = found l o.Key := by
    rw [hy]
    cases found l o.Key
    · rfl
    · exact decide_eq_true (by simp only [cond_true]; omega)
  have hlt : decide (y < 0) = !found l o.Key := by
    rw [hy]
    cases found l o.Key
    · rfl
    · exact decide_eq_false (by simp only [cond_true]; omega)
  have e10 : (bif decide (y ≥ 0) then (if (0 : Int) ≤ y ∧ y < (l.length : Int) then (some ((l.getD y.toNat z_Entry).Value)) else none) else (some 0)) = some (foundV l o.Key) := by
    unfold foundV
    rw [hge, hy]
    cases hf : found l o.Key
    · rfl
    · obtain ⟨h1, h2⟩ := found_lt hf
      simp only [cond_true, if_pos (show (0 : Int) ≤ ((place l o.Key : Nat) : Int) ∧ ((place l o.Key : Nat) : Int) < (l.length : Int) by omega), Int.toNat_natCast]
  rw [hge] at e10
  unfold spec_l10Do.f
  rw [l10Find_eq l o.Key hs, ← hy]
  simp only [Option.bind_some, hge, e10, hlt, spec_l01Bit.f]
  unfold doL
  cases h1 : o.Kind == 1
  case true => simp only [cond_true]; cases hf : found l o.Key <;> simp [foundV, hf]
  simp only [cond_false, h1, Bool.false_or] at hv ⊢
  cases h3 : o.Kind == 3
  case true =>
    simp only [cond_true]
    cases hf : found l o.Key
    · rfl
    · obtain ⟨h4, h5⟩ := found_lt hf
      have hy' : y = ((place l o.Key : Nat) : Int) := by rw [hy, hf]; rfl
      rw [hy']
      simp only [cond_true]
      rw [w64_id (by omega) (by omega), if_pos (by omega), if_pos (by omega), show ((place l o.Key : Nat) : Int) + 1 = ((place l o.Key + 1 : Nat) : Int) by omega, Int.toNat_natCast, Int.toNat_natCast, if_pos (by simp only [List.length_take, List.length_nil]; omega), List.nil_append, if_pos (by simp only [List.length_take, List.length_drop]; omega)]
      rfl
  simp only [cond_false, h3] at hv ⊢
  cases h4 : o.Kind == 4
  case true =>
    simp only [cond_true]
    cases found l o.Key
    · rfl
    · simp only [Bool.not_true, Bool.false_or, cond_false, Option.bind_some]
      cases foundV l o.Key != o.Value <;> rfl
  simp only [cond_false]
  cases h6 : o.Kind == 6
  case true =>
    simp only [h6, cond_true, inB_iff] at hv
    simp only [cond_true]
    obtain ⟨n, hn⟩ : ∃ n : Nat, o.Value = (n : Int) := ⟨o.Value.toNat, by omega⟩
    have hn4 : 1 ≤ n ∧ n ≤ 4 := by omega
    obtain ⟨E, hE⟩ : ∃ E, E = min l.length (place l o.Key + n) := ⟨_, rfl⟩
    have hEl : E ≤ l.length := by omega
    have hEn : E ≤ place l o.Key + n := by omega
    have hpE : place l o.Key ≤ E := by omega
    have w2 : w64 (2 * o.Value) = 2 * o.Value := w64_id (by omega) (by omega)
    have r1 := loopO_run (step := fun s : List Int × Int => spec_l10Do.s0 l o s.1 s.2) (fun i => (scanL l (place l o.Key) (i - place l o.Key), (i : Int))) E (r := .out (scanL l (place l o.Key) (E - place l o.Key))) (fun i hi => by
      have hl := scanL_len l (place l o.Key) (i - place l o.Key)
      simp only [spec_l10Do.s0, w2, decide_eq_true (show (i : Int) < (l.length : Int) by omega), cond_true, Option.bind_some, if_pos (show (0 : Int) ≤ (i : Int) ∧ (i : Int) < (l.length : Int) by omega), Int.toNat_natCast, hl]
      rw [decide_eq_true (show ((2 * (i - place l o.Key) : Nat) : Int) < 2 * o.Value by omega), w64_id (by omega) (by omega), show (i : Int) + 1 = ((i + 1 : Nat) : Int) by omega]
      rcases Nat.lt_or_ge i (place l o.Key) with h | h
      · have h7 := place_lt h
        rw [decide_eq_false (by omega)]
        simp only [cond_true, cond_false, Option.bind_some]
        rw [show i - place l o.Key = 0 by omega, show i + 1 - place l o.Key = 0 by omega]
      · have h7 := place_ge' hs h (show i < l.length by omega)
        rw [decide_eq_true (by omega), if_pos (by simp only [List.length_cons, List.length_nil]; omega)]
        simp only [cond_true, Option.bind_some]
        rw [show i + 1 - place l o.Key = (i - place l o.Key) + 1 by omega]
        simp only [scanL, cellL]
        rw [show place l o.Key + (i - place l o.Key) = i by omega, if_pos (show i < l.length by omega)]) (by
      have hl := scanL_len l (place l o.Key) (E - place l o.Key)
      simp only [spec_l10Do.s0, w2]
      by_cases h : E < l.length
      · rw [decide_eq_true (show (E : Int) < (l.length : Int) by omega)]
        simp only [cond_true, Option.bind_some, hl]
        rw [decide_eq_false (by omega)]; rfl
      · rw [decide_eq_false (show ¬ (E : Int) < (l.length : Int) by omega)]; rfl)
    have i0 : (([] : List Int), (0 : Int)) = (fun i : Nat => (scanL l (place l o.Key) (i - place l o.Key), (i : Int))) 0 := by simp [scanL]
    have r2 := loopO_run (step := fun s : List Int => spec_l10Do.s1 o s) (fun j => scanL l (place l o.Key) (E - place l o.Key) ++ List.replicate j 0) (2 * (n - (E - place l o.Key))) (r := .out (scanL l (place l o.Key) n)) (fun j hj => by
      have hl := scanL_len l (place l o.Key) (E - place l o.Key)
      simp only [spec_l10Do.s1, w2, List.length_append, hl, List.length_replicate, List.length_cons, List.length_nil]
      rw [decide_eq_true (by omega), cond_true, if_pos (by omega), List.append_assoc, show ([0] : List Int) = List.replicate 1 0 from rfl, List.replicate_append_replicate]) (by
      have hl := scanL_len l (place l o.Key) (E - place l o.Key)
      simp only [spec_l10Do.s1, w2, List.length_append, hl, List.length_replicate]
      rw [decide_eq_false (by omega), cond_false]
      congr 3
      by_cases h : E < l.length
      · rw [show E - place l o.Key = n by omega]; simp
      · rw [← scanL_pad l _ _ (by omega), show E - place l o.Key + (n - (E - place l o.Key)) = n by omega])
    have i1 : scanL l (place l o.Key) (E - place l o.Key) = (fun j : Nat => scanL l (place l o.Key) (E - place l o.Key) ++ List.replicate j 0) 0 := by simp
    rw [i0, r1]
    simp only [Option.bind_some]
    rw [i1, r2]
    simp only [Option.bind_some]
    rw [hn, Int.toNat_natCast]
  simp only [h6, cond_false, inB_iff] at hv
  simp only [cond_false]
  have e11 : (bif !found l o.Key then (some ((l.length : Int) == 11)) else (some false)) = some ((!found l o.Key) && ((l.length : Int) == 11)) := by cases found l o.Key <;> rfl
  simp only [e11, Option.bind_some]
  cases (!found l o.Key) && ((l.length : Int) == 11)
  case true => rfl
  simp only [cond_false]
  cases h2 : o.Kind == 2
  case true => simp only [cond_true, l10Put_eq l o.Key _ hs, Option.bind_some]
  simp only [cond_false]
  rw [w64_id (by omega) (by omega)]
  cases decide (foundV l o.Key + o.Value > 999999)
  · simp only [cond_false, l10Put_eq l o.Key _ hs, Option.bind_some]
  · rfl

theorem id_laws_toEntry (x : S_Entry) : laws_toEntry.f x = some x := by
  unfold laws_toEntry.f
  rfl

theorem id_laws_toEntryS (x : List S_Entry) (h : x.length ≤ 1048576) : laws_toEntryS.f x = some x := by
  have hlen : x.length ≤ 1048576 := h
  unfold laws_toEntryS.f
  rw [if_pos (by omega)]
  have h0 : ((x.length : Int)).toNat = x.length := by simp
  rw [h0, ← filled_zero x z_Entry]
  have := loopO_run (step := fun s => laws_toEntryS.s0 x s.1 s.2) (fun k => (filled x z_Entry k, (k : Int))) x.length (r := .out x) (fun k hk => by
    have hl := filled_len x z_Entry k (by omega)
    simp only [laws_toEntryS.s0, id_laws_toEntry (x.getD k z_Entry), decide_eq_true (show (k : Int) < (x.length : Int) by omega), cond_true, if_pos (show (0 : Int) ≤ (k : Int) ∧ (k : Int) < (x.length : Int) by omega), Option.bind_some, if_pos (show (0 : Int) ≤ (k : Int) ∧ (k : Int) < ((filled x z_Entry k).length : Int) by omega), Int.toNat_natCast]
    rw [w64_id (by omega) (by omega), filled_set x z_Entry k hk]
    rfl) (by
    simp only [laws_toEntryS.s0, filled_all]
    rw [decide_eq_false (by omega)]; rfl)
  have this2 : loopO (fun s => laws_toEntryS.s0 x s.1 s.2) (filled x z_Entry 0, 0) = some (.out x) := this
  rw [this2]
  rfl

theorem id_laws_toOp (x : S_Op) : laws_toOp.f x = some x := by
  unfold laws_toOp.f
  rfl

theorem within_eq (x lo hi : Int) : impl_within.f x lo hi = some (inB x lo hi) := by
  unfold impl_within.f inB; cases decide (lo ≤ x) <;> rfl

theorem isKey_eq (x : Int) : impl_isKey.f x = some (inB x 1 9999) := by unfold impl_isKey.f; rw [within_eq]; rfl

theorem isValue_eq (x : Int) : impl_isValue.f x = some (inB x 0 999999) := by unfold impl_isValue.f; rw [within_eq]; rfl

theorem impl_MapOK_eq (l : List S_Entry) (h : l.length ≤ 1073741824) : impl_MapOK.f l = some (mapOK l) := by
  unfold impl_MapOK.f
  have := loopO_scan (step := fun s => impl_MapOK.s0 l s) (fun k => (k : Int)) l.length (mapP l) (b := false) (t := ()) (fun k hk => by
    simp only [impl_MapOK.s0, isKey_eq, isValue_eq, Option.bind_some, Int.toNat_natCast, decide_eq_true (show (k : Int) < (l.length : Int) by omega), cond_true, if_pos (show 0 ≤ (k : Int) ∧ (k : Int) < (l.length : Int) by omega), mapP]
    rw [w64_id (x := (k : Int) + 1) (by omega) (by omega)]
    cases inB (l.getD k z_Entry).Key 1 9999
    · rfl
    cases inB (l.getD k z_Entry).Value 0 999999
    · rfl
    cases k with
    | zero => rfl
    | succ k =>
      rw [w64_id (x := ((k + 1 : Nat) : Int) - 1) (by omega) (by omega)]
      have e : (((k + 1 : Nat) : Int) - 1).toNat = k := by omega
      have e2 : ((k + 1 : Nat) : Int) > 0 := by omega
      simp only [decide_eq_true e2, if_pos (show 0 ≤ ((k + 1 : Nat) : Int) - 1 ∧ ((k + 1 : Nat) : Int) - 1 < (l.length : Int) by omega), e, Nat.add_sub_cancel]
      by_cases hC : (l.getD k z_Entry).Key < (l.getD (k + 1) z_Entry).Key
      · rw [decide_eq_true hC, decide_eq_false (by omega)]; rfl
      · rw [decide_eq_false hC, decide_eq_true (by omega)]; rfl) (by
    simp only [impl_MapOK.s0]
    rw [decide_eq_false (by omega)]; rfl)
  rw [show ((0 : Int)) = ((0 : Nat) : Int) from rfl, this]
  unfold mapOK
  have e : decide ((l.length : Int) ≤ 11) = decide (l.length ≤ 11) := by
    by_cases h : l.length ≤ 11
    · rw [decide_eq_true h, decide_eq_true (by omega)]
    · rw [decide_eq_false h, decide_eq_false (by omega)]
  cases (List.range l.length).all (mapP l)
  · rfl
  · simp [e]

theorem impl_OpOK_eq (o : S_Op) : impl_OpOK.f o = some (opOK o) := by
  unfold impl_OpOK.f impl_isBare.f opOK
  simp only [within_eq, isKey_eq, isValue_eq, Option.bind_some]
  cases inB o.Kind 1 6 <;> cases inB o.Key 1 9999 <;> cases o.Kind == 1 <;> cases o.Kind == 3 <;> cases o.Kind == 6 <;> rfl

theorem mid_eq (i j : Nat) (h : i ≤ j) (hj : j ≤ 1073741824) : IntKind.wrap .i64 (Int.fdiv (IntKind.wrap .u64 (w64 ((i : Int) + j))) (2 ^ 1)) = (((i + j) / 2 : Nat) : Int) := by
  rw [w64_id (by omega) (by omega)]
  have h1 : IntKind.wrap .u64 ((i : Int) + j) = (i : Int) + j := by
    rw [wrap_u64]; omega
  rw [h1]
  have h2 : Int.fdiv ((i : Int) + j) (2 ^ 1) = (((i + j) / 2 : Nat) : Int) := by
    rw [Int.fdiv_eq_ediv_of_nonneg _ (by decide)]
    omega
  rw [h2]
  exact w64_id (by omega) (by omega)
theorem find_eq (l : List S_Entry) (x : Int) (hs : Sorted l) (hx : 1 ≤ x ∧ x ≤ 9999) : impl_find.f l x = some ((place l x : Int), found l x) := by
  unfold impl_find.f slices_BinarySearchFunc_impl_Entry_impl_Entry_int.f
  have hn := hs.short
  obtain ⟨r, h1, h2⟩ := loopO_wf (step := fun s : Int × Int => slices_BinarySearchFunc_impl_Entry_impl_Entry_int.s0 l x impl_find_c1.f s.1 s.2)
    (fun s => ∃ i j : Nat, s = ((i : Int), (j : Int)) ∧ i ≤ j ∧ j ≤ l.length ∧ (∀ t, t < i → (l.getD t z_Entry).Key < x) ∧ (∀ t, j ≤ t → t < l.length → x ≤ (l.getD t z_Entry).Key))
    (fun r => r = .out (place l x : Int)) (fun s => (s.2 - s.1).toNat) (fun s hI => by
      obtain ⟨i, j, rfl, hij, hj, hlo, hhi⟩ := hI
      by_cases hlt : i < j
      · have hm := mid_eq i j hij (by omega)
        have hmlt : (i + j) / 2 < l.length := by omega
        have hk := hs.key _ hmlt
        simp only [slices_BinarySearchFunc_impl_Entry_impl_Entry_int.s0, decide_eq_true (show (i : Int) < (j : Int) by omega), cond_true, hm, if_pos (show (0 : Int) ≤ (((i + j) / 2 : Nat) : Int) ∧ (((i + j) / 2 : Nat) : Int) < (l.length : Int) by omega), Int.toNat_natCast, impl_find_c1.f, Option.bind_some]
        rw [w64_id (x := (l.getD ((i + j) / 2) z_Entry).Key - x) (by omega) (by omega)]
        by_cases hc : (l.getD ((i + j) / 2) z_Entry).Key < x
        · rw [decide_eq_true (by omega), w64_id (by omega) (by omega)]
          refine .inl ⟨_, rfl, ⟨(i + j) / 2 + 1, j, by simp, by omega, hj, fun t ht => ?_, hhi⟩, by simp only []; omega⟩
          rcases Nat.lt_or_ge t ((i + j) / 2) with h | h
          · have := hs.up _ _ h hmlt; omega
          · have : t = (i + j) / 2 := by omega
            rw [this]; exact hc
        · rw [decide_eq_false (by omega)]
          refine .inl ⟨_, rfl, ⟨i, (i + j) / 2, rfl, by omega, by omega, hlo, fun t ht ht2 => ?_⟩, by simp only []; omega⟩
          rcases Nat.lt_or_ge ((i + j) / 2) t with h | h
          · have := hs.up _ _ h ht2; omega
          · have : t = (i + j) / 2 := by omega
            rw [this]; omega
      · have e : i = j := by omega
        subst e
        refine .inr ⟨.out (i : Int), ?_, ?_⟩
        · simp only [slices_BinarySearchFunc_impl_Entry_impl_Entry_int.s0]
          rw [decide_eq_false (by omega)]; rfl
        · rw [place_eq (l := l) (x := x) hj hlo (fun h => hhi i (Nat.le_refl _) h)]) _ (0, (l.length : Int)) (Nat.le_refl _) ⟨0, l.length, rfl, Nat.zero_le _, Nat.le_refl _, fun t ht => by omega, fun t h1 h2 => by omega⟩
  rw [h1, h2]
  have hp := place_le l x
  simp only [Option.bind_some]
  unfold found
  by_cases hlt : place l x < l.length
  · have hk := hs.key _ hlt
    rw [decide_eq_true (show (place l x : Int) < (l.length : Int) by omega), decide_eq_true hlt]
    simp only [cond_true, if_pos (show (0 : Int) ≤ (place l x : Int) ∧ (place l x : Int) < (l.length : Int) by omega), Int.toNat_natCast, impl_find_c1.f, Option.bind_some, Bool.true_and]
    rw [w64_id (by omega) (by omega)]
    congr 2
    generalize (l.getD (place l x) z_Entry).Key = y
    rw [Bool.eq_iff_iff, beq_iff_eq, beq_iff_eq]
    omega
  · rw [decide_eq_false (show ¬ (place l x : Int) < (l.length : Int) by omega), decide_eq_false hlt]
    rfl

theorem impl_scan_eq (l : List S_Entry) (k : Int) (n : Nat) (hs : Sorted l) (hk : 1 ≤ k ∧ k ≤ 9999) (hn : n ≤ 4) : impl_scan.f l k n = some (scanL l (place l k) n) := by
  unfold impl_scan.f
  rw [find_eq l k hs hk]
  simp only [Option.bind_some]
  have hp := place_le l k
  have hsh := hs.short
  have := loopO_run (step := fun s : Int × Int × List Int => impl_scan.s0 l s.1 s.2.1 s.2.2) (fun t => ((n : Int) - t, ((place l k + t : Nat) : Int), scanL l (place l k) t)) n (r := .out (scanL l (place l k) n)) (fun t ht => by
    have hl := scanL_len l (place l k) t
    simp only [impl_scan.s0, decide_eq_true (show (n : Int) - t > 0 by omega), cond_true]
    rw [w64_id (x := (n : Int) - t - 1) (by omega) (by omega), w64_id (x := ((place l k + t : Nat) : Int) + 1) (by omega) (by omega), show (n : Int) - t - 1 = (n : Int) - ((t + 1 : Nat) : Int) by omega, show ((place l k + t : Nat) : Int) + 1 = ((place l k + (t + 1) : Nat) : Int) by omega]
    by_cases h : place l k + t < l.length
    · simp only [decide_eq_true (show ((place l k + t : Nat) : Int) < (l.length : Int) by omega), cond_true, if_pos (show (0 : Int) ≤ ((place l k + t : Nat) : Int) ∧ ((place l k + t : Nat) : Int) < (l.length : Int) by omega), Int.toNat_natCast]
      rw [if_pos (by rw [hl]; simp only [List.length_cons, List.length_nil]; omega)]
      simp only [Option.bind_some, scanL, cellL, if_pos h]
    · simp only [decide_eq_false (show ¬ ((place l k + t : Nat) : Int) < (l.length : Int) by omega), cond_false]
      rw [if_pos (by rw [hl]; simp only [List.length_cons, List.length_nil]; omega)]
      simp only [Option.bind_some, scanL, cellL, if_neg h]) (by
    simp only [impl_scan.s0, decide_eq_false (show ¬ ((n : Int) - n > 0) by omega), cond_false])
  have h0 : ((n : Int), ((place l k : Nat) : Int), ([] : List Int)) = (fun t : Nat => ((n : Int) - t, ((place l k + t : Nat) : Int), scanL l (place l k) t)) 0 := by simp [scanL]
  rw [h0, this]
  rfl

theorem clone_eq (l : List S_Entry) (h : l.length ≤ 1073741824) : slices_Clone_impl_Entry_impl_Entry.f l = some l := by unfold slices_Clone_impl_Entry_impl_Entry.f; rw [if_pos h]
theorem set_put {α : Type} (l : List α) (i : Nat) (x : α) (h : i < l.length) : l.set i x = l.take i ++ [x] ++ l.drop (i + 1) := by
  rw [List.set_eq_take_append_cons_drop, if_pos h]; simp
theorem impl_put_eq (l : List S_Entry) (k v : Int) (hs : Sorted l) (hk : 1 ≤ k ∧ k ≤ 9999) : impl_put.f l k v = some (bif (!found l k) && ((l.length : Int) == 11) then (l, false) else (putL l k v, true)) := by
  have hp := place_le l k
  have hsh := hs.short
  unfold impl_put.f
  rw [find_eq l k hs hk, clone_eq l (by omega)]
  simp only [Option.bind_some]
  cases hf : found l k
  · cases h11 : ((l.length : Int) == 11)
    · simp only [cond_false, cond_true, Bool.not_false, Bool.and_false]
      rw [if_pos (by simp only [List.length_cons, List.length_nil]; omega)]
      simp only [Option.bind_some, Int.toNat_natCast, insL, putL, hf, cond_false]
    · simp only [cond_false, cond_true, Bool.not_false, Bool.and_true, Option.bind_some]
  · obtain ⟨h1, h2⟩ := found_lt hf
    simp only [cond_true, Bool.not_true, Bool.false_and, cond_false, if_pos (show (0 : Int) ≤ ((place l k : Nat) : Int) ∧ ((place l k : Nat) : Int) < (l.length : Int) by omega), Option.bind_some, Int.toNat_natCast, h2]
    rw [set_put l _ _ h1]
    simp only [putL, hf, cond_true]

theorem impl_do_eq (l : List S_Entry) (o : S_Op) (hs : Sorted l) (ho : opOK o = true) : impl_do.f l o = some (doL l o) := by
  have hsh := hs.short
  unfold opOK at ho
  simp only [Bool.and_eq_true, inB_iff] at ho
  obtain ⟨⟨hkd, hk⟩, hv⟩ := ho
  have hp := place_le l o.Key
  have hfv := foundV_rng hs o.Key
  have e10 : (bif found l o.Key then (if (0 : Int) ≤ ((place l o.Key : Nat) : Int) ∧ ((place l o.Key : Nat) : Int) < (l.length : Int) then (some ((l.getD (((place l o.Key : Nat) : Int)).toNat z_Entry).Value)) else none) else (some 0)) = some (foundV l o.Key) := by
    unfold foundV
    cases hf : found l o.Key
    · rfl
    · obtain ⟨h1, h2⟩ := found_lt hf
      simp only [cond_true, if_pos (show (0 : Int) ≤ ((place l o.Key : Nat) : Int) ∧ ((place l o.Key : Nat) : Int) < (l.length : Int) by omega), Int.toNat_natCast]
  unfold impl_do.f
  rw [find_eq l o.Key hs hk]
  simp only [Option.bind_some, e10]
  unfold doL
  cases h1 : o.Kind == 1
  case true => simp only [cond_true]; cases hf : found l o.Key <;> simp [foundV, hf]
  simp only [cond_false, h1, Bool.false_or] at hv ⊢
  cases h3 : o.Kind == 3
  case true =>
    simp only [cond_true]
    cases hf : found l o.Key
    · rfl
    · obtain ⟨h4, h5⟩ := found_lt hf
      rw [clone_eq l (by omega)]
      simp only [Option.bind_some, cond_true]
      rw [w64_id (by omega) (by omega), if_pos (by omega), show ((place l o.Key : Nat) : Int) + 1 = ((place l o.Key + 1 : Nat) : Int) by omega, Int.toNat_natCast, Int.toNat_natCast]
  simp only [cond_false, h3] at hv ⊢
  cases h4 : o.Kind == 4
  case true =>
    simp only [cond_true]
    cases found l o.Key
    · rfl
    · simp only [Bool.not_true, Bool.false_or, cond_false, Option.bind_some]
      cases foundV l o.Key != o.Value <;> rfl
  simp only [cond_false]
  cases h6 : o.Kind == 6
  case true =>
    simp only [h6, cond_true, inB_iff] at hv
    simp only [cond_true]
    have e : o.Value = ((o.Value.toNat : Nat) : Int) := by omega
    have := impl_scan_eq l o.Key o.Value.toNat hs hk (by omega)
    rw [← e] at this
    rw [this]; rfl
  simp only [h6, cond_false, inB_iff] at hv
  simp only [cond_false]
  unfold impl_do2.f
  cases h5 : o.Kind == 5
  case true =>
    have h2 : (o.Kind == 2) = false := by
      simp only [beq_iff_eq] at h5
      rw [h5]; rfl
    simp only [cond_true, Option.bind_some, h2, cond_false]
    rw [w64_id (by omega) (by omega), impl_put_eq l o.Key _ hs hk]
    rw [show o.Value + foundV l o.Key = foundV l o.Key + o.Value by omega]
    cases (!found l o.Key) && ((l.length : Int) == 11)
    · simp only [cond_false, Option.bind_some, Bool.not_true, isValue_eq]
      by_cases hb : foundV l o.Key + o.Value > 999999
      · rw [decide_eq_true hb, show inB (foundV l o.Key + o.Value) 0 999999 = false by rw [← Bool.not_eq_true, inB_iff]; omega]; rfl
      · rw [decide_eq_false hb, show inB (foundV l o.Key + o.Value) 0 999999 = true by rw [inB_iff]; omega]; rfl
    · rfl
  case false =>
    have h2 : (o.Kind == 2) = true := by
      simp only [beq_eq_false_iff_ne, ne_eq] at h1 h3 h4 h5 h6
      rw [beq_iff_eq]; omega
    simp only [cond_false, Option.bind_some, h2, cond_true]
    rw [impl_put_eq l o.Key _ hs hk]
    cases (!found l o.Key) && ((l.length : Int) == 11)
    · simp only [cond_false, Option.bind_some, Bool.not_true, isValue_eq]
      rw [show inB o.Value 0 999999 = true by rw [inB_iff]; omega]; rfl
    · rfl

theorem refl_laws_eqEntry (x : S_Entry) : laws_eqEntry.f x x = some true := by
  unfold laws_eqEntry.f
  simp only [bne_self_eq_false, beq_self_eq_true, Bool.not_true, cond_false, Option.bind_some]

theorem reflF_laws_eqEntry (x : S_Entry) : laws_eqEntry.f x x = some true := by
  unfold laws_eqEntry.f
  simp only [bne_self_eq_false, beq_self_eq_true, bs_self, Bool.not_true, cond_false, Option.bind_some]

theorem refl_laws_eqEntryS (x : List S_Entry) (h : x.length ≤ 1048576) : laws_eqEntryS.f x x = some true := by
  have hlen : x.length ≤ 1048576 := h
  unfold laws_eqEntryS.f
  rw [show ((x.length : Int) != (x.length : Int)) = false from by simp]
  have := loopO_run (step := fun s => laws_eqEntryS.s0 x x s) (fun k => (k : Int)) x.length (r := .out ()) (fun k hk => by
    simp only [laws_eqEntryS.s0, decide_eq_true (show (k : Int) < (x.length : Int) by omega), cond_true, if_pos (show (0 : Int) ≤ (k : Int) ∧ (k : Int) < (x.length : Int) by omega), Int.toNat_natCast, refl_laws_eqEntry (x.getD k z_Entry), bne_self_eq_false, beq_self_eq_true, Bool.not_true, cond_false, Option.bind_some]
    rw [w64_id (by omega) (by omega)]
    rfl) (by
    simp only [laws_eqEntryS.s0]
    rw [decide_eq_false (by omega)]; rfl)
  rw [show ((0 : Int)) = ((0 : Nat) : Int) from rfl, this]
  rfl

theorem reflL_laws_eqEntryS (x : List S_Entry) (h : x.length ≤ 1048576) : laws_eqEntryS.f x x = some true := by
  have hlen : x.length ≤ 1048576 := h
  unfold laws_eqEntryS.f
  rw [show ((x.length : Int) != (x.length : Int)) = false from by simp]
  have := loopO_run (step := fun s => laws_eqEntryS.s0 x x s) (fun k => (k : Int)) x.length (r := .out ()) (fun k hk => by
    simp only [laws_eqEntryS.s0, decide_eq_true (show (k : Int) < (x.length : Int) by omega), cond_true, if_pos (show (0 : Int) ≤ (k : Int) ∧ (k : Int) < (x.length : Int) by omega), Int.toNat_natCast, reflF_laws_eqEntry (x.getD k z_Entry), bne_self_eq_false, beq_self_eq_true, bs_self, Bool.not_true, cond_false, Option.bind_some]
    rw [w64_id (by omega) (by omega)]
    rfl) (by
    simp only [laws_eqEntryS.s0]
    rw [decide_eq_false (by omega)]; rfl)
  rw [show ((0 : Int)) = ((0 : Nat) : Int) from rfl, this]
  rfl

theorem refl_laws_eqIntS (x : List Int) (h : x.length ≤ 1048576) : laws_eqIntS.f x x = some true := by
  have hlen : x.length ≤ 1048576 := h
  unfold laws_eqIntS.f
  rw [show ((x.length : Int) != (x.length : Int)) = false from by simp]
  have := loopO_run (step := fun s => laws_eqIntS.s0 x x s) (fun k => (k : Int)) x.length (r := .out ()) (fun k hk => by
    simp only [laws_eqIntS.s0, decide_eq_true (show (k : Int) < (x.length : Int) by omega), cond_true, if_pos (show (0 : Int) ≤ (k : Int) ∧ (k : Int) < (x.length : Int) by omega), Int.toNat_natCast, bne_self_eq_false, beq_self_eq_true, Bool.not_true, cond_false, Option.bind_some]
    rw [w64_id (by omega) (by omega)]
    rfl) (by
    simp only [laws_eqIntS.s0]
    rw [decide_eq_false (by omega)]; rfl)
  rw [show ((0 : Int)) = ((0 : Nat) : Int) from rfl, this]
  rfl

theorem reflL_laws_eqIntS (x : List Int) (h : x.length ≤ 1048576) : laws_eqIntS.f x x = some true := by
  have hlen : x.length ≤ 1048576 := h
  unfold laws_eqIntS.f
  rw [show ((x.length : Int) != (x.length : Int)) = false from by simp]
  have := loopO_run (step := fun s => laws_eqIntS.s0 x x s) (fun k => (k : Int)) x.length (r := .out ()) (fun k hk => by
    simp only [laws_eqIntS.s0, decide_eq_true (show (k : Int) < (x.length : Int) by omega), cond_true, if_pos (show (0 : Int) ≤ (k : Int) ∧ (k : Int) < (x.length : Int) by omega), Int.toNat_natCast, bne_self_eq_false, beq_self_eq_true, bs_self, Bool.not_true, cond_false, Option.bind_some]
    rw [w64_id (by omega) (by omega)]
    rfl) (by
    simp only [laws_eqIntS.s0]
    rw [decide_eq_false (by omega)]; rfl)
  rw [show ((0 : Int)) = ((0 : Nat) : Int) from rfl, this]
  rfl

def F_laws_markEntryS (q : Int) (x : S_Entry) : S_Entry := ⟨q, (q + 1)⟩
theorem mk_laws_markEntryS (x : List S_Entry) (k : Int) (h0 : 0 ≤ k) (h1 : k ≤ 144115188075855872) (hl : x.length ≤ 1048576) : ∃ m a, laws_markEntryS.f x k = some (m, a) ∧ k ≤ m ∧ m ≤ k + 2097152 ∧ a.length = x.length ∧ laws_heldEntryS.f a k = some m := by
  have hm := mark_gen (ρ := Int × List S_Entry) x z_Entry F_laws_markEntryS 2 k (fun s => laws_markEntryS.s0 x s.1 s.2.1 s.2.2) (by decide) (fun i u q hi hu hg hq1 hq2 => by
    have w1 : w64 (q + 1) = q + 1 := by rw [w64_id (by omega) (by omega)]
    have w2 : w64 (q + 1 + 1) = q + 2 := by rw [w64_id (by omega) (by omega)]; omega
    have wi : w64 ((i : Int) + 1) = ((i + 1 : Nat) : Int) := by rw [w64_id (by omega) (by omega)]; omega
    simp only [laws_markEntryS.s0, decide_eq_true (show (i : Int) < (x.length : Int) by omega), cond_true, if_pos (show (0 : Int) ≤ (i : Int) ∧ (i : Int) < (x.length : Int) by omega), Int.toNat_natCast, Option.bind_some, w1, w2, wi, List.set_set, getD_set_self _ z_Entry _ (show i < u.length by omega), getD_set_self _ z_Entry _ (show i < (u.set i _).length by simp; omega), F_laws_markEntryS]) (fun u q => by simp only [laws_markEntryS.s0]; rw [decide_eq_false (by omega)]; rfl)
  refine ⟨k + 2 * x.length, mkL x z_Entry F_laws_markEntryS 2 k, ?_, by omega, by omega, mkL_len .., ?_⟩
  · unfold laws_markEntryS.f; rw [hm]; rfl
  · have hy := mkL_len x z_Entry F_laws_markEntryS 2 k
    have hh := held_gen (ρ := Int) (mkL x z_Entry F_laws_markEntryS 2 k) 2 k (fun s => laws_heldEntryS.s0 (mkL x z_Entry F_laws_markEntryS 2 k) s.1 s.2) (by decide) (fun i hi hq2 hq1 => by
    have hg := mkL_getD x z_Entry F_laws_markEntryS 2 k (show i < x.length by omega)
    generalize hqq : k + 2 * (i : Int) = q at hg hq1 hq2 ⊢
    rw [hy] at hi hq2
    have w1 : w64 (q + 1) = q + 1 := by rw [w64_id (by omega) (by omega)]
    have w2 : w64 (q + 1 + 1) = q + 2 := by rw [w64_id (by omega) (by omega)]; omega
    have wi : w64 ((i : Int) + 1) = ((i + 1 : Nat) : Int) := by rw [w64_id (by omega) (by omega)]; omega
    simp only [laws_heldEntryS.s0, hy, decide_eq_true (show (i : Int) < (x.length : Int) by omega), cond_true, if_pos (show (0 : Int) ≤ (i : Int) ∧ (i : Int) < (x.length : Int) by omega), Int.toNat_natCast, Option.bind_some, w1, w2, wi, hg, F_laws_markEntryS, bne_self_eq_false, beq_self_eq_true, bs_self, Bool.not_true, cond_false]) (fun q => by simp only [laws_heldEntryS.s0]; rw [decide_eq_false (by omega)]; rfl)
    rw [hy] at hh
    unfold laws_heldEntryS.f; rw [hh]; rfl

def F_laws_markIntS (q : Int) (x : Int) : Int := q
theorem mk_laws_markIntS (x : List Int) (k : Int) (h0 : 0 ≤ k) (h1 : k ≤ 144115188075855872) (hl : x.length ≤ 1048576) : ∃ m a, laws_markIntS.f x k = some (m, a) ∧ k ≤ m ∧ m ≤ k + 1048576 ∧ a.length = x.length ∧ laws_heldIntS.f a k = some m := by
  have hm := mark_gen (ρ := Int × List Int) x 0 F_laws_markIntS 1 k (fun s => laws_markIntS.s0 x s.1 s.2.1 s.2.2) (by decide) (fun i u q hi hu hg hq1 hq2 => by
    have w1 : w64 (q + 1) = q + 1 := by rw [w64_id (by omega) (by omega)]
    have wi : w64 ((i : Int) + 1) = ((i + 1 : Nat) : Int) := by rw [w64_id (by omega) (by omega)]; omega
    simp only [laws_markIntS.s0, decide_eq_true (show (i : Int) < (x.length : Int) by omega), cond_true, if_pos (show (0 : Int) ≤ (i : Int) ∧ (i : Int) < (x.length : Int) by omega), Int.toNat_natCast, Option.bind_some, w1, wi, List.set_set, getD_set_self _ 0 _ (show i < u.length by omega), getD_set_self _ 0 _ (show i < (u.set i _).length by simp; omega), F_laws_markIntS]) (fun u q => by simp only [laws_markIntS.s0]; rw [decide_eq_false (by omega)]; rfl)
  refine ⟨k + 1 * x.length, mkL x 0 F_laws_markIntS 1 k, ?_, by omega, by omega, mkL_len .., ?_⟩
  · unfold laws_markIntS.f; rw [hm]; rfl
  · have hy := mkL_len x 0 F_laws_markIntS 1 k
    have hh := held_gen (ρ := Int) (mkL x 0 F_laws_markIntS 1 k) 1 k (fun s => laws_heldIntS.s0 (mkL x 0 F_laws_markIntS 1 k) s.1 s.2) (by decide) (fun i hi hq2 hq1 => by
    have hg := mkL_getD x 0 F_laws_markIntS 1 k (show i < x.length by omega)
    generalize hqq : k + 1 * (i : Int) = q at hg hq1 hq2 ⊢
    rw [hy] at hi hq2
    have w1 : w64 (q + 1) = q + 1 := by rw [w64_id (by omega) (by omega)]
    have wi : w64 ((i : Int) + 1) = ((i + 1 : Nat) : Int) := by rw [w64_id (by omega) (by omega)]; omega
    simp only [laws_heldIntS.s0, hy, decide_eq_true (show (i : Int) < (x.length : Int) by omega), cond_true, if_pos (show (0 : Int) ≤ (i : Int) ∧ (i : Int) < (x.length : Int) by omega), Int.toNat_natCast, Option.bind_some, w1, wi, hg, F_laws_markIntS, bne_self_eq_false, beq_self_eq_true, bs_self, Bool.not_true, cond_false]) (fun q => by simp only [laws_heldIntS.s0]; rw [decide_eq_false (by omega)]; rfl)
    rw [hy] at hh
    unfold laws_heldIntS.f; rw [hh]; rfl

end Go.Proofs.Ytlbbkehdfgjneaa
