/- What the models of these functions come to. -/
import Derived.Test.YtjelagjijnpkdaaPXMapOK
import Derived.Test.YtjelagjijnpkdaaGXMapGet
namespace Go.Proofs.Ytjelagjijnpkdaa
open Go Go.Z Go.Proofs Go.MuLone Go.ChangeShapes Go.WideShapes Go.ChangeAt Go.RowKit
set_option linter.unusedVariables false
set_option linter.unusedSimpArgs false
theorem l10Find_eq (l : List S_Entry) (x : Int) (hs : Sorted l) : spec_l10Find.f l x = some (bif found l x then (place l x : Int) else -1) := by
  have hn := hs.short
  have hp := place_le l x
  unfold spec_l10Find.f
  by_cases hf : found l x = true
  · have hf' := hf
    unfold found at hf'
    simp only [Bool.and_eq_true, decide_eq_true_eq, beq_iff_eq] at hf'
    obtain ⟨h1, h2⟩ := hf'
    have := loopO_run (step := fun s => spec_l10Find.s0 l x s) (fun k => (k : Int)) (place l x) (r := .ret (place l x : Int)) (fun k hk => by
      have h3 := place_lt hk
      simp only [spec_l10Find.s0, decide_eq_true (show (k : Int) < (l.length : Int) by omega), cond_true, if_pos (show (0 : Int) ≤ (k : Int) ∧ (k : Int) < (l.length : Int) by omega), Int.toNat_natCast]
      rw [show ((l.getD k z_Entry).Key == x) = false from by simp only [beq_eq_false_iff_ne]; omega, w64_id (by omega) (by omega)]
      rfl) (by
      simp only [spec_l10Find.s0, decide_eq_true (show (place l x : Int) < (l.length : Int) by omega), cond_true, if_pos (show (0 : Int) ≤ (place l x : Int) ∧ (place l x : Int) < (l.length : Int) by omega), Int.toNat_natCast]
      rw [show ((l.getD (place l x) z_Entry).Key == x) = true from by simp only [beq_iff_eq]; exact h2]
      rfl)
    rw [show ((0 : Int)) = ((0 : Nat) : Int) from rfl, this, hf]
    rfl
  · have hf' : found l x = false := by simpa using hf
    have := loopO_run (step := fun s => spec_l10Find.s0 l x s) (fun k => (k : Int)) l.length (r := .out ()) (fun k hk => by
      have hne : (l.getD k z_Entry).Key ≠ x := fun e => by
        apply hf
        rcases Nat.lt_or_ge k (place l x) with h | h
        · have := place_lt h; omega
        · have h1 := place_ge (l := l) (x := x) (by omega)
          rcases Nat.lt_or_ge (place l x) k with h2 | h2
          · have := hs.up _ _ h2 hk; omega
          · have : k = place l x := by omega
            unfold found
            rw [← this, decide_eq_true hk, e]; simp
      simp only [spec_l10Find.s0, decide_eq_true (show (k : Int) < (l.length : Int) by omega), cond_true, if_pos (show (0 : Int) ≤ (k : Int) ∧ (k : Int) < (l.length : Int) by omega), Int.toNat_natCast]
      rw [show ((l.getD k z_Entry).Key == x) = false from by simp only [beq_eq_false_iff_ne]; exact hne, w64_id (by omega) (by omega)]
      rfl) (by
      simp only [spec_l10Find.s0]
      rw [decide_eq_false (by omega)]; rfl)
    rw [show ((0 : Int)) = ((0 : Nat) : Int) from rfl, this, hf']
    rfl

theorem mid_eq (i j : Nat) (h : i ≤ j) (hj : j ≤ 1073741824) : IntKind.wrap .i64 (Int.fdiv (IntKind.wrap .u64 (w64 ((i : Int) + j))) (2 ^ 1)) = (((i + j) / 2 : Nat) : Int) := by
  rw [w64_id (by omega) (by omega)]
  have h1 : IntKind.wrap .u64 ((i : Int) + j) = (i : Int) + j := by
    rw [wrap_u64]; omega
  rw [h1]
  have h2 : Int.fdiv ((i : Int) + j) (2 ^ 1) = (((i + j) / 2 : Nat) : Int) := by
    rw [Int.fdiv_eq_ediv_of_nonneg _ (by decide)]
    omega
  rw [h2]
  exact w64_id (by omega) (by omega)
theorem find_eq (l : List S_Entry) (x : Int) (hs : Sorted l) (hx : 1 ≤ x ∧ x ≤ 9999) : impl_find.f l x = some ((place l x : Int), found l x) := by
  unfold impl_find.f slices_BinarySearchFunc_impl_Entry_impl_Entry_int.f
  have hn := hs.short
  obtain ⟨r, h1, h2⟩ := loopO_wf (step := fun s : Int × Int => slices_BinarySearchFunc_impl_Entry_impl_Entry_int.s0 l x impl_find_c1.f s.1 s.2)
    (fun s => ∃ i j : Nat, s = ((i : Int), (j : Int)) ∧ i ≤ j ∧ j ≤ l.length ∧ (∀ t, t < i → (l.getD t z_Entry).Key < x) ∧ (∀ t, j ≤ t → t < l.length → x ≤ (l.getD t z_Entry).Key))
    (fun r => r = .out (place l x : Int)) (fun s => (s.2 - s.1).toNat) (fun s hI => by
      obtain ⟨i, j, rfl, hij, hj, hlo, hhi⟩ := hI
      by_cases hlt : i < j
      · have hm := mid_eq i j hij (by omega)
        have hmlt : (i + j) / 2 < l.length := by omega
        have hk := hs.key _ hmlt
        simp only [slices_BinarySearchFunc_impl_Entry_impl_Entry_int.s0, decide_eq_true (show (i : Int) < (j : Int) by omega), cond_true, hm, if_pos (show (0 : Int) ≤ (((i + j) / 2 : Nat) : Int) ∧ (((i + j) / 2 : Nat) : Int) < (l.length : Int) by omega), Int.toNat_natCast, impl_find_c1.f, Option.bind_some]
        rw [w64_id (x := (l.getD ((i + j) / 2) z_Entry).Key - x) (by omega) (by omega)]
        by_cases hc : (l.getD ((i + j) / 2) z_Entry).Key < x
        · rw [decide_eq_true (by omega), w64_id (by omega) (by omega)]
          refine .inl ⟨_, rfl, ⟨(i + j) / 2 + 1, j, by simp, by omega, hj, fun t ht => ?_, hhi⟩, by simp only []; omega⟩
          rcases Nat.lt_or_ge t ((i + j) / 2) with h | h
          · have := hs.up _ _ h hmlt; omega
          · have : t = (i + j) / 2 := by omega
            rw [this]; exact hc
        · rw [decide_eq_false (by omega)]
          refine .inl ⟨_, rfl, ⟨i, (i + j) / 2, rfl, by omega, by omega, hlo, fun t ht ht2 => ?_⟩, by simp only []; omega⟩
          rcases Nat.lt_or_ge ((i + j) / 2) t with h | h
          · have := hs.up _ _ h ht2; omega
          · have : t = (i + j) / 2 := by omega
            rw [this]; omega
      · have e : i = j := by omega
        subst e
        refine .inr ⟨.out (i : Int), ?_, ?_⟩
        · simp only [slices_BinarySearchFunc_impl_Entry_impl_Entry_int.s0]
          rw [decide_eq_false (by omega)]; rfl
        · rw [place_eq (l := l) (x := x) hj hlo (fun h => hhi i (Nat.le_refl _) h)]) _ (0, (l.length : Int)) (Nat.le_refl _) ⟨0, l.length, rfl, Nat.zero_le _, Nat.le_refl _, fun t ht => by omega, fun t h1 h2 => by omega⟩
  rw [h1, h2]
  have hp := place_le l x
  simp only [Option.bind_some]
  unfold found
  by_cases hlt : place l x < l.length
  · have hk := hs.key _ hlt
    rw [decide_eq_true (show (place l x : Int) < (l.length : Int) by omega), decide_eq_true hlt]
    simp only [cond_true, if_pos (show (0 : Int) ≤ (place l x : Int) ∧ (place l x : Int) < (l.length : Int) by omega), Int.toNat_natCast, impl_find_c1.f, Option.bind_some, Bool.true_and]
    rw [w64_id (by omega) (by omega)]
    congr 2
    generalize (l.getD (place l x) z_Entry).Key = y
    rw [Bool.eq_iff_iff, beq_iff_eq, beq_iff_eq]
    omega
  · rw [decide_eq_false (show ¬ (place l x : Int) < (l.length : Int) by omega), decide_eq_false hlt]
    rfl

end Go.Proofs.Ytjelagjijnpkdaa
