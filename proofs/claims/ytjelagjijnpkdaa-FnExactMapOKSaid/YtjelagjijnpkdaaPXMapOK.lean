/- What the models of these functions come to. -/
import Derived.Test.YtjelagjijnpkdaaPXRegisterOK
import Derived.Test.YtjelagjijnpkdaaGXMapOK
namespace Go.Proofs.Ytjelagjijnpkdaa
open Go Go.Z Go.Proofs Go.MuLone Go.ChangeShapes Go.WideShapes Go.ChangeAt Go.RowKit
set_option linter.unusedVariables false
set_option linter.unusedSimpArgs false
theorem szEntryS_eq (l : List S_Entry) (n : Int) (h0 : 0 ≤ n) (h1 : n ≤ 1048576) (hl : l.length ≤ maxLen) : laws_szEntryS.f l n = some (if n < l.length then -1 else n - l.length) := by
  have : maxLen = 9223372036854775807 := rfl
  unfold laws_szEntryS.f
  rw [w64_id (by omega) (by omega)]
  by_cases h : n < l.length
  · rw [decide_eq_true (by omega), if_pos h]; rfl
  · rw [decide_eq_false (by omega), if_neg h]; rfl

def mapP (l : List S_Entry) (k : Nat) : Bool :=
  inB (l.getD k z_Entry).Key 1 9999 && inB (l.getD k z_Entry).Value 0 999999 && (k == 0 || decide ((l.getD (k - 1) z_Entry).Key < (l.getD k z_Entry).Key))
def mapOK (l : List S_Entry) : Bool := (List.range l.length).all (mapP l) && decide (l.length ≤ 11)
theorem spec_MapOK_eq (l : List S_Entry) (h : l.length ≤ 1073741824) : spec_MapOK.f l = some (mapOK l) := by
  unfold spec_MapOK.f
  by_cases hbig : l.length > 4096
  · rw [decide_eq_true (show (l.length : Int) > 4096 by omega)]
    unfold mapOK
    rw [decide_eq_false (show ¬ l.length ≤ 11 by omega), Bool.and_false]; rfl
  rw [decide_eq_false (show ¬ (l.length : Int) > 4096 by omega)]
  have := loopO_scan (step := fun s => spec_MapOK.s0 l s) (fun k => (k : Int)) l.length (mapP l) (b := false) (t := ()) (fun k hk => by
    simp only [spec_MapOK.s0, l01In_eq, Option.bind_some, Int.toNat_natCast, decide_eq_true (show (k : Int) < (l.length : Int) by omega), cond_true, if_pos (show 0 ≤ (k : Int) ∧ (k : Int) < (l.length : Int) by omega), mapP]
    rw [w64_id (x := (k : Int) + 1) (by omega) (by omega)]
    cases inB (l.getD k z_Entry).Key 1 9999
    · rfl
    cases inB (l.getD k z_Entry).Value 0 999999
    · rfl
    cases k with
    | zero => rfl
    | succ k =>
      rw [w64_id (x := ((k + 1 : Nat) : Int) - 1) (by omega) (by omega)]
      have e : (((k + 1 : Nat) : Int) - 1).toNat = k := by omega
      have e2 : ((k + 1 : Nat) : Int) > 0 := by omega
      simp only [decide_eq_true e2, if_pos (show 0 ≤ ((k + 1 : Nat) : Int) - 1 ∧ ((k + 1 : Nat) : Int) - 1 < (l.length : Int) by omega), e, Nat.add_sub_cancel]
      by_cases hC : (l.getD k z_Entry).Key < (l.getD (k + 1) z_Entry).Key
      · rw [decide_eq_true hC, decide_eq_false (by omega)]; rfl
      · rw [decide_eq_false hC, decide_eq_true (by omega)]; rfl) (by
    simp only [spec_MapOK.s0]
    rw [decide_eq_false (by omega)]; rfl)
  rw [show ((0 : Int)) = ((0 : Nat) : Int) from rfl, this]
  unfold mapOK
  have e : decide ((l.length : Int) ≤ 11) = decide (l.length ≤ 11) := by
    by_cases h : l.length ≤ 11
    · rw [decide_eq_true h, decide_eq_true (by omega)]
    · rw [decide_eq_false h, decide_eq_false (by omega)]
  cases (List.range l.length).all (mapP l)
  · rfl
  · simp [e]

theorem toEntryS_eq (l : List S_Entry) (h : l.length ≤ 1073741824) : laws_toEntryS.f l = some l := by
  unfold laws_toEntryS.f
  rw [if_pos (by omega)]
  have h0 : ((l.length : Int)).toNat = l.length := by simp
  rw [h0, ← filled_zero l z_Entry]
  have := loopO_run (step := fun s => laws_toEntryS.s0 l s.1 s.2) (fun k => (filled l z_Entry k, (k : Int))) l.length (r := .out l) (fun k hk => by
    have hlen := filled_len l z_Entry k (by omega)
    have h1 : (k : Int) < (l.length : Int) := by omega
    have h2 : (k : Int) < ((filled l z_Entry k).length : Int) := by omega
    simp only [laws_toEntryS.s0, laws_toEntry.f, decide_eq_true h1, cond_true, if_pos (show 0 ≤ (k : Int) ∧ (k : Int) < (l.length : Int) by omega), Option.bind_some, if_pos (show 0 ≤ (k : Int) ∧ (k : Int) < ((filled l z_Entry k).length : Int) by omega), Int.toNat_natCast]
    rw [w64_id (by omega) (by omega)]
    rw [← filled_set l z_Entry k hk z_Entry]
    rfl) (by
    simp only [laws_toEntryS.s0, filled_all]
    rw [decide_eq_false (by omega)]; rfl)
  rw [show ((0 : Int)) = ((0 : Nat) : Int) from rfl, this]
  rfl

theorem impl_MapOK_eq (l : List S_Entry) (h : l.length ≤ 1073741824) : impl_MapOK.f l = some (mapOK l) := by
  unfold impl_MapOK.f
  have := loopO_scan (step := fun s => impl_MapOK.s0 l s) (fun k => (k : Int)) l.length (mapP l) (b := false) (t := ()) (fun k hk => by
    simp only [impl_MapOK.s0, isKey_eq, isValue_eq, Option.bind_some, Int.toNat_natCast, decide_eq_true (show (k : Int) < (l.length : Int) by omega), cond_true, if_pos (show 0 ≤ (k : Int) ∧ (k : Int) < (l.length : Int) by omega), mapP]
    rw [w64_id (x := (k : Int) + 1) (by omega) (by omega)]
    cases inB (l.getD k z_Entry).Key 1 9999
    · rfl
    cases inB (l.getD k z_Entry).Value 0 999999
    · rfl
    cases k with
    | zero => rfl
    | succ k =>
      rw [w64_id (x := ((k + 1 : Nat) : Int) - 1) (by omega) (by omega)]
      have e : (((k + 1 : Nat) : Int) - 1).toNat = k := by omega
      have e2 : ((k + 1 : Nat) : Int) > 0 := by omega
      simp only [decide_eq_true e2, if_pos (show 0 ≤ ((k + 1 : Nat) : Int) - 1 ∧ ((k + 1 : Nat) : Int) - 1 < (l.length : Int) by omega), e, Nat.add_sub_cancel]
      by_cases hC : (l.getD k z_Entry).Key < (l.getD (k + 1) z_Entry).Key
      · rw [decide_eq_true hC, decide_eq_false (by omega)]; rfl
      · rw [decide_eq_false hC, decide_eq_true (by omega)]; rfl) (by
    simp only [impl_MapOK.s0]
    rw [decide_eq_false (by omega)]; rfl)
  rw [show ((0 : Int)) = ((0 : Nat) : Int) from rfl, this]
  unfold mapOK
  have e : decide ((l.length : Int) ≤ 11) = decide (l.length ≤ 11) := by
    by_cases h : l.length ≤ 11
    · rw [decide_eq_true h, decide_eq_true (by omega)]
    · rw [decide_eq_false h, decide_eq_false (by omega)]
  cases (List.range l.length).all (mapP l)
  · rfl
  · simp [e]

theorem eqEntryS_refl (a : List S_Entry) (h : a.length ≤ 1073741824) : laws_eqEntryS.f a a = some true := by
  unfold laws_eqEntryS.f
  rw [show ((a.length : Int) != (a.length : Int)) = false from by simp]
  have := loopO_run (step := fun s => laws_eqEntryS.s0 a a s) (fun k => (k : Int)) a.length (r := .out ()) (fun k hk => by
    simp only [laws_eqEntryS.s0, laws_eqEntry.f, bne_self_eq_false, cond_false, Option.bind_some, decide_eq_true (show (k : Int) < (a.length : Int) by omega), cond_true, if_pos (show 0 ≤ (k : Int) ∧ (k : Int) < (a.length : Int) by omega)]
    rw [w64_id (by omega) (by omega)]
    rfl) (by
    simp only [laws_eqEntryS.s0]
    rw [decide_eq_false (by omega)]; rfl)
  rw [show ((0 : Int)) = ((0 : Nat) : Int) from rfl, this]
  rfl

end Go.Proofs.Ytjelagjijnpkdaa
