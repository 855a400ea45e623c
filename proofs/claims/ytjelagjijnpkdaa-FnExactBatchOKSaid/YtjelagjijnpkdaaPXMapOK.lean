/- What the models of these functions come to. -/
import Derived.Test.YtjelagjijnpkdaaPXOpOK
import Derived.Test.YtjelagjijnpkdaaGXMapOK
namespace Go.Proofs.Ytjelagjijnpkdaa
open Go Go.Z Go.Proofs Go.MuLone Go.ChangeShapes Go.WideShapes Go.ChangeAt Go.RowKit
set_option linter.unusedVariables false
set_option linter.unusedSimpArgs false
theorem ok_laws_szEntryS (x : List S_Entry) (n : Int) (h0 : 0 ≤ n) (h1 : n ≤ 1048576) (g : (x.length ≤ maxLen ∧ ∀ y : S_Entry, y ∈ x → (((Lit.int .i64 y.Key).wf = true) ∧ ((Lit.int .i64 y.Value).wf = true)))) : ∃ m, laws_szEntryS.f x n = some m ∧ (m < 0 ∨ (0 ≤ m ∧ m ≤ n ∧ (x.length ≤ 1048576))) := by
  have hM : maxLen = 9223372036854775807 := rfl
  have g1 := g.1
  unfold laws_szEntryS.f
  rw [w64_id (x := n - (x.length : Int)) (by omega) (by omega)]
  by_cases h : n - (x.length : Int) < 0
  · rw [decide_eq_true h]; exact ⟨_, rfl, .inl (by decide)⟩
  rw [decide_eq_false h]; simp only [cond_false]
  exact ⟨_, rfl, .inr ⟨by omega, by omega, by omega⟩⟩

def mapP (l : List S_Entry) (k : Nat) : Bool :=
  inB (l.getD k z_Entry).Key 1 9999 && inB (l.getD k z_Entry).Value 0 999999 && (k == 0 || decide ((l.getD (k - 1) z_Entry).Key < (l.getD k z_Entry).Key))
def mapOK (l : List S_Entry) : Bool := (List.range l.length).all (mapP l) && decide (l.length ≤ 11)
theorem spec_MapOK_eq (l : List S_Entry) (h : l.length ≤ 1073741824) : spec_MapOK.f l = some (mapOK l) := by
  unfold spec_MapOK.f
  by_cases hbig : l.length > 4096
  · rw [decide_eq_true (show (l.length : Int) > 4096 by omega)]
    unfold mapOK
    rw [decide_eq_false (show ¬ l.length ≤ 11 by omega), Bool.and_false]; rfl
  rw [decide_eq_false (show ¬ (l.length : Int) > 4096 by omega)]
  have := loopO_scan (step := fun s => spec_MapOK.s0 l s) (fun k => (k : Int)) l.length (mapP l) (b := false) (t := ()) (fun k hk => by
    simp only [spec_MapOK.s0, l01In_eq, Option.bind_some, Int.toNat_natCast, decide_eq_true (show (k : Int) < (l.length : Int) by omega), cond_true, if_pos (show 0 ≤ (k : Int) ∧ (k : Int) < (l.length : Int) by omega), mapP]
    rw [w64_id (x := (k : Int) + 1) (by omega) (by omega)]
    cases inB (l.getD k z_Entry).Key 1 9999
    · rfl
    cases inB (l.getD k z_Entry).Value 0 999999
    · rfl
    cases k with
    | zero => rfl
    | succ k =>
      rw [w64_id (x := ((k + 1 : Nat) : Int) - 1) (by omega) (by omega)]
      have e : (((k + 1 : Nat) : Int) - 1).toNat = k := by omega
      have e2 : ((k + 1 : Nat) : Int) > 0 := by omega
      simp only [decide_eq_true e2, if_pos (show 0 ≤ ((k + 1 : Nat) : Int) - 1 ∧ ((k + 1 : Nat) : Int) - 1 < (l.length : Int) by omega), e, Nat.add_sub_cancel]
      by_cases hC : (l.getD k z_Entry).Key < (l.getD (k + 1) z_Entry).Key
      · rw [decide_eq_true hC, decide_eq_false (by omega)]; rfl
      · rw [decide_eq_false hC, decide_eq_true (by omega)]; rfl) (by
    simp only [spec_MapOK.s0]
    rw [decide_eq_false (by omega)]; rfl)
  rw [show ((0 : Int)) = ((0 : Nat) : Int) from rfl, this]
  unfold mapOK
  have e : decide ((l.length : Int) ≤ 11) = decide (l.length ≤ 11) := by
    by_cases h : l.length ≤ 11
    · rw [decide_eq_true h, decide_eq_true (by omega)]
    · rw [decide_eq_false h, decide_eq_false (by omega)]
  cases (List.range l.length).all (mapP l)
  · rfl
  · simp [e]
structure Sorted (l : List S_Entry) : Prop where
  short : l.length ≤ 11
  key : ∀ k, k < l.length → 1 ≤ (l.getD k z_Entry).Key ∧ (l.getD k z_Entry).Key ≤ 9999
  val : ∀ k, k < l.length → 0 ≤ (l.getD k z_Entry).Value ∧ (l.getD k z_Entry).Value ≤ 999999
  up : ∀ i j, i < j → j < l.length → (l.getD i z_Entry).Key < (l.getD j z_Entry).Key
theorem mapOK_sorted {l : List S_Entry} (h : mapOK l = true) : Sorted l := by
  unfold mapOK at h
  simp only [Bool.and_eq_true, decide_eq_true_eq, List.all_eq_true, List.mem_range] at h
  obtain ⟨h1, h2⟩ := h
  have h3 : ∀ k, k < l.length → (1 ≤ (l.getD k z_Entry).Key ∧ (l.getD k z_Entry).Key ≤ 9999) ∧ (0 ≤ (l.getD k z_Entry).Value ∧ (l.getD k z_Entry).Value ≤ 999999) ∧ (k = 0 ∨ (l.getD (k - 1) z_Entry).Key < (l.getD k z_Entry).Key) := fun k hk => by
    have := h1 k hk
    unfold mapP at this
    simp only [Bool.and_eq_true, inB_iff, Bool.or_eq_true, beq_iff_eq, decide_eq_true_eq] at this
    exact ⟨this.1.1, this.1.2, this.2⟩
  refine ⟨h2, fun k hk => (h3 k hk).1, fun k hk => (h3 k hk).2.1, fun i j hij hj => ?_⟩
  obtain ⟨m, rfl⟩ : ∃ m, j = i + 1 + m := ⟨j - i - 1, by omega⟩
  induction m with
  | zero =>
    rcases (h3 (i + 1) hj).2.2 with h | h
    · omega
    · simpa using h
  | succ m ih =>
    have h4 := ih (by omega) (by omega)
    rcases (h3 (i + 1 + (m + 1)) hj).2.2 with h | h
    · omega
    · have e : i + 1 + (m + 1) - 1 = i + 1 + m := by omega
      rw [e] at h; omega
/-- Where a key stands, or would. -/
def place (l : List S_Entry) (x : Int) : Nat := l.findIdx (fun e => decide (x ≤ e.Key))
def found (l : List S_Entry) (x : Int) : Bool := decide (place l x < l.length) && ((l.getD (place l x) z_Entry).Key == x)
theorem place_le (l : List S_Entry) (x : Int) : place l x ≤ l.length := List.findIdx_le_length
theorem place_lt {l : List S_Entry} {x : Int} {t : Nat} (h : t < place l x) : (l.getD t z_Entry).Key < x := by
  have ht : t < l.length := Nat.lt_of_lt_of_le h (place_le l x)
  rw [getD_lt ht]
  have := List.not_of_lt_findIdx h
  simp only [decide_eq_false_iff_not, Bool.not_eq_true, decide_eq_true_eq] at this
  omega
theorem place_ge {l : List S_Entry} {x : Int} (h : place l x < l.length) : x ≤ (l.getD (place l x) z_Entry).Key := by
  rw [getD_lt h]
  exact of_decide_eq_true (List.findIdx_getElem (w := h))
theorem place_ge' {l : List S_Entry} (hs : Sorted l) {x : Int} {t : Nat} (h : place l x ≤ t) (ht : t < l.length) : x ≤ (l.getD t z_Entry).Key := by
  have h1 := place_ge (l := l) (x := x) (by omega)
  rcases Nat.lt_or_ge (place l x) t with h2 | h2
  · have := hs.up _ _ h2 ht; omega
  · have : t = place l x := by omega
    rw [this]; exact h1
theorem place_eq {l : List S_Entry} {x : Int} {i : Nat} (hi : i ≤ l.length) (h1 : ∀ t, t < i → (l.getD t z_Entry).Key < x) (h2 : i < l.length → x ≤ (l.getD i z_Entry).Key) : i = place l x := by
  rcases Nat.lt_trichotomy i (place l x) with h | h | h
  · have a := place_lt h
    have b := h2 (by have := place_le l x; omega)
    omega
  · exact h
  · have a := h1 _ h
    have b := place_ge (l := l) (x := x) (by omega)
    omega

theorem id_laws_toEntry (x : S_Entry) : laws_toEntry.f x = some x := by
  unfold laws_toEntry.f
  rfl

theorem id_laws_toEntryS (x : List S_Entry) (h : x.length ≤ 1048576) : laws_toEntryS.f x = some x := by
  have hlen : x.length ≤ 1048576 := h
  unfold laws_toEntryS.f
  rw [if_pos (by omega)]
  have h0 : ((x.length : Int)).toNat = x.length := by simp
  rw [h0, ← filled_zero x z_Entry]
  have := loopO_run (step := fun s => laws_toEntryS.s0 x s.1 s.2) (fun k => (filled x z_Entry k, (k : Int))) x.length (r := .out x) (fun k hk => by
    have hl := filled_len x z_Entry k (by omega)
    simp only [laws_toEntryS.s0, id_laws_toEntry (x.getD k z_Entry), decide_eq_true (show (k : Int) < (x.length : Int) by omega), cond_true, if_pos (show (0 : Int) ≤ (k : Int) ∧ (k : Int) < (x.length : Int) by omega), Option.bind_some, if_pos (show (0 : Int) ≤ (k : Int) ∧ (k : Int) < ((filled x z_Entry k).length : Int) by omega), Int.toNat_natCast]
    rw [w64_id (by omega) (by omega), filled_set x z_Entry k hk]
    rfl) (by
    simp only [laws_toEntryS.s0, filled_all]
    rw [decide_eq_false (by omega)]; rfl)
  rw [show ((0 : Int)) = ((0 : Nat) : Int) from rfl, this]
  rfl

theorem impl_MapOK_eq (l : List S_Entry) (h : l.length ≤ 1073741824) : impl_MapOK.f l = some (mapOK l) := by
  unfold impl_MapOK.f
  have := loopO_scan (step := fun s => impl_MapOK.s0 l s) (fun k => (k : Int)) l.length (mapP l) (b := false) (t := ()) (fun k hk => by
    simp only [impl_MapOK.s0, isKey_eq, isValue_eq, Option.bind_some, Int.toNat_natCast, decide_eq_true (show (k : Int) < (l.length : Int) by omega), cond_true, if_pos (show 0 ≤ (k : Int) ∧ (k : Int) < (l.length : Int) by omega), mapP]
    rw [w64_id (x := (k : Int) + 1) (by omega) (by omega)]
    cases inB (l.getD k z_Entry).Key 1 9999
    · rfl
    cases inB (l.getD k z_Entry).Value 0 999999
    · rfl
    cases k with
    | zero => rfl
    | succ k =>
      rw [w64_id (x := ((k + 1 : Nat) : Int) - 1) (by omega) (by omega)]
      have e : (((k + 1 : Nat) : Int) - 1).toNat = k := by omega
      have e2 : ((k + 1 : Nat) : Int) > 0 := by omega
      simp only [decide_eq_true e2, if_pos (show 0 ≤ ((k + 1 : Nat) : Int) - 1 ∧ ((k + 1 : Nat) : Int) - 1 < (l.length : Int) by omega), e, Nat.add_sub_cancel]
      by_cases hC : (l.getD k z_Entry).Key < (l.getD (k + 1) z_Entry).Key
      · rw [decide_eq_true hC, decide_eq_false (by omega)]; rfl
      · rw [decide_eq_false hC, decide_eq_true (by omega)]; rfl) (by
    simp only [impl_MapOK.s0]
    rw [decide_eq_false (by omega)]; rfl)
  rw [show ((0 : Int)) = ((0 : Nat) : Int) from rfl, this]
  unfold mapOK
  have e : decide ((l.length : Int) ≤ 11) = decide (l.length ≤ 11) := by
    by_cases h : l.length ≤ 11
    · rw [decide_eq_true h, decide_eq_true (by omega)]
    · rw [decide_eq_false h, decide_eq_false (by omega)]
  cases (List.range l.length).all (mapP l)
  · rfl
  · simp [e]

theorem refl_laws_eqEntry (x : S_Entry) : laws_eqEntry.f x x = some true := by
  unfold laws_eqEntry.f
  simp only [bne_self_eq_false, beq_self_eq_true, Bool.not_true, cond_false, Option.bind_some]

theorem refl_laws_eqEntryS (x : List S_Entry) (h : x.length ≤ 1048576) : laws_eqEntryS.f x x = some true := by
  have hlen : x.length ≤ 1048576 := h
  unfold laws_eqEntryS.f
  rw [show ((x.length : Int) != (x.length : Int)) = false from by simp]
  have := loopO_run (step := fun s => laws_eqEntryS.s0 x x s) (fun k => (k : Int)) x.length (r := .out ()) (fun k hk => by
    simp only [laws_eqEntryS.s0, decide_eq_true (show (k : Int) < (x.length : Int) by omega), cond_true, if_pos (show (0 : Int) ≤ (k : Int) ∧ (k : Int) < (x.length : Int) by omega), Int.toNat_natCast, refl_laws_eqEntry (x.getD k z_Entry), bne_self_eq_false, beq_self_eq_true, Bool.not_true, cond_false, Option.bind_some]
    rw [w64_id (by omega) (by omega)]
    rfl) (by
    simp only [laws_eqEntryS.s0]
    rw [decide_eq_false (by omega)]; rfl)
  rw [show ((0 : Int)) = ((0 : Nat) : Int) from rfl, this]
  rfl

end Go.Proofs.Ytjelagjijnpkdaa
