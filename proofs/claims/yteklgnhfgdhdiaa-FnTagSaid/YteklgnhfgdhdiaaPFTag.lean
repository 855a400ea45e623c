/- What the models of these functions come to. -/
import Derived.Test.YteklgnhfgdhdiaaP0
import Derived.Test.YteklgnhfgdhdiaaGFTagn1
namespace Go.Proofs.Yteklgnhfgdhdiaa
open Go Go.Z Go.Proofs Go.MuLone Go.ChangeShapes Go.WideShapes Go.ChangeAt Go.RowKit
set_option linter.unusedVariables false
set_option linter.unusedSimpArgs false
theorem wf_u8 {y : Int} (h : (Lit.int .u8 y).wf = true) : 0 ≤ y ∧ y ≤ 255 := by
  have h2 := h
  simp [Lit.wf, IntKind.min, IntKind.max, IntKind.signed, IntKind.bits] at h2
  omega
theorem src_new (l : List Int) (hl : l.length ≤ 1048576) (hb : isB l) : ∃ s, spec_l00Source.f l = some ⟨l, 0, s⟩ ∧ SrcB l 0 s 0 := by
  refine ⟨_, rfl, hl, hb, by omega, by omega, ?_⟩
  have := tmod_lt (show (0 : Int) ≤ (l.length : Int) by omega) (show (0 : Int) < 1000 by omega)
  omega

theorem src_byte (x0 : S_l00Src) (B : Int) (h : SrcB x0.code x0.at_ x0.seed B) (hB : B ≤ 2305843009213693952) : ∃ v a s, spec_l00Src_byte.f x0 = some (v, a, s) ∧ 0 ≤ v ∧ v ≤ 255 ∧ SrcB x0.code a s (B + 1) := by
  obtain ⟨code, at', seed⟩ := x0
  obtain ⟨hl, hb, h0, h1, h2, h3⟩ := h
  simp only at hl hb h0 h1 h2 h3
  unfold spec_l00Src_byte.f
  simp only [w64_id (x := at' + 1) (by omega) (by omega)]
  by_cases c : at' + 1 ≤ (code.length : Int)
  · rw [decide_eq_true c]
    have e1 : w64 (at' + 1 - 1) = at' := by rw [w64_id (by omega) (by omega)]; omega
    simp only [cond_true, e1]
    rw [if_pos (by omega), if_pos (by omega)]
    obtain ⟨q1, q2⟩ := getD_isB hb at'.toNat
    generalize code.getD at'.toNat 0 = v at q1 q2 ⊢
    have e2 : IntKind.wrap .i64 v = v := w64_id (by omega) (by omega)
    rw [e2, w64_id (x := seed * 31) (by omega) (by omega), w64_id (x := seed * 31 + v) (by omega) (by omega), w64_id (by omega) (by omega)]
    refine ⟨_, _, _, rfl, by omega, by omega, hl, hb, by omega, by omega, ?_, ?_⟩
    · rw [Int.tmod_eq_emod_of_nonneg (by omega)]; omega
    · rw [Int.tmod_eq_emod_of_nonneg (by omega)]; omega
  · rw [decide_eq_false c]
    simp only [cond_false]
    by_cases c2 : at' + 1 > 3000
    · rw [decide_eq_true c2]
      exact ⟨_, _, _, rfl, by omega, by omega, hl, hb, by omega, by omega, h2, h3⟩
    · rw [decide_eq_false c2]
      simp only [cond_false]
      rw [w64_id (x := seed * 1103515245) (by omega) (by omega), w64_id (by omega) (by omega)]
      have e3 : Int.tmod (seed * 1103515245 + 12345) 2147483648 = (seed * 1103515245 + 12345) % 2147483648 := Int.tmod_eq_emod_of_nonneg (by omega)
      rw [e3]
      have e4 : Int.tdiv ((seed * 1103515245 + 12345) % 2147483648) 65536 = (seed * 1103515245 + 12345) % 2147483648 / 65536 := Int.tdiv_eq_ediv_of_nonneg (by omega)
      rw [e4]
      have e5 : IntKind.wrap .i64 ((seed * 1103515245 + 12345) % 2147483648 / 65536) = (seed * 1103515245 + 12345) % 2147483648 / 65536 := w64_id (by omega) (by omega)
      rw [e5]
      have e6 : Int.tmod ((seed * 1103515245 + 12345) % 2147483648 / 65536) 256 = ((seed * 1103515245 + 12345) % 2147483648 / 65536) % 256 := Int.tmod_eq_emod_of_nonneg (by omega)
      rw [e6]
      exact ⟨_, _, _, rfl, by omega, by omega, hl, hb, by omega, by omega, by omega, by omega⟩

theorem src_next (x0 : S_l00Src) (n B : Int) (h : SrcB x0.code x0.at_ x0.seed B) (hB : B ≤ 1152921504606846976) : ∃ v a s, spec_l00Src_next.f x0 n = some (v, a, s) ∧ 0 ≤ v ∧ (v < n ∨ v = 0) ∧ SrcB x0.code a s (B + 3) := by
  unfold spec_l00Src_next.f
  by_cases c : n ≤ 1
  · rw [decide_eq_true c]; exact ⟨_, _, _, rfl, by omega, .inr rfl, h.up (by omega)⟩
  rw [decide_eq_false c]
  simp only [cond_false]
  by_cases c2 : n ≤ 256
  · obtain ⟨v, a, s, e, h0, h1, h2⟩ := src_byte x0 B h (by omega)
    rw [decide_eq_true c2, e]
    simp only [cond_true, Option.bind_some]
    rw [if_neg (by omega)]
    obtain ⟨q1, q2⟩ := tmod_lt h0 (show 0 < n by omega)
    exact ⟨_, _, _, rfl, q1, .inl q2, h2.up (by omega)⟩
  · rw [decide_eq_false c2]
    obtain ⟨v1, a1, s1, e1, h01, h11, h21⟩ := src_byte x0 B h (by omega)
    obtain ⟨v2, a2, s2, e2, h02, h12, h22⟩ := src_byte ⟨x0.code, a1, s1⟩ (B + 1) h21 (by omega)
    obtain ⟨v3, a3, s3, e3, h03, h13, h23⟩ := src_byte ⟨x0.code, a2, s2⟩ (B + 2) (h22.up (by omega)) (by omega)
    simp only [cond_false, e1, e2, e3, Option.bind_some]
    rw [if_neg (by omega)]
    rw [w64_id (x := v1 * 65536) (by omega) (by omega), w64_id (x := v2 * 256) (by omega) (by omega), w64_id (x := v1 * 65536 + v2 * 256) (by omega) (by omega), w64_id (by omega) (by omega)]
    obtain ⟨q1, q2⟩ := tmod_lt (show 0 ≤ v1 * 65536 + v2 * 256 + v3 by omega) (show 0 < n by omega)
    exact ⟨_, _, _, rfl, q1, .inl q2, h23.up (by omega)⟩

/-- Drawn bytes: as many as are asked for. -/
theorem src_bytes (x0 : S_l00Src) (n B : Int) (h : SrcB x0.code x0.at_ x0.seed B) (hB : B ≤ 576460752303423488) (hn : n ≤ 1048576) : ∃ t a s, spec_l00Src_bytes.f x0 n = some (t, a, s) ∧ (t.size : Int) = (if n < 0 then 0 else n) ∧ SrcB x0.code a s (B + 4194304) := by
  unfold spec_l00Src_bytes.f
  obtain ⟨r, h1, h2⟩ := loopO_wf (step := fun s : List Int × Int × Int × Int => spec_l00Src_bytes.s0 x0 n s.1 s.2.1 s.2.2.1 s.2.2.2)
    (fun s => 0 ≤ s.2.1 ∧ (s.1.length : Int) = s.2.1 ∧ (s.2.1 ≤ n ∨ s.2.1 = 0) ∧ SrcB x0.code s.2.2.1 s.2.2.2 (B + 3 * s.2.1))
    (fun r => ∃ u a s, r = .out (u, a, s) ∧ (u.length : Int) = (if n < 0 then 0 else n) ∧ SrcB x0.code a s (B + 4194304)) (fun s => (n - s.2.1).toNat) (fun s hI => by
      obtain ⟨u, i, a, sd⟩ := s
      obtain ⟨i0, hl, hle, hS⟩ := hI
      simp only at i0 hl hle hS
      by_cases c : i < n
      · obtain ⟨v, a2, s2, e, v0, v1, hS2⟩ := src_next ⟨x0.code, a, sd⟩ 256 (B + 3 * i) hS (by omega)
        simp only [spec_l00Src_bytes.s0, decide_eq_true c, cond_true, e, Option.bind_some]
        rw [if_pos (by simp; omega), w64_id (by omega) (by omega)]
        refine .inl ⟨_, rfl, ⟨by simp only; omega, by simp only [List.length_append, List.length_cons, List.length_nil]; omega, by simp only; omega, hS2.up (by simp only; omega)⟩, by simp only; omega⟩
      · simp only [spec_l00Src_bytes.s0, decide_eq_false c, cond_false]
        refine .inr ⟨_, rfl, u, a, sd, rfl, ?_, hS.up (by omega)⟩
        split <;> omega) _ (([] : List Int), 0, x0.at_, x0.seed) (Nat.le_refl _) ⟨by simp, by simp, by simp, by simpa using h⟩
  rw [h1]
  obtain ⟨u, a, s, rfl, h3, h4⟩ := h2
  refine ⟨_, a, s, rfl, ?_, h4⟩
  rw [strOfNums_size]; exact h3

theorem src_text (x0 : S_l00Src) (B : Int) (h : SrcB x0.code x0.at_ x0.seed B) (hB : B ≤ 288230376151711744) : ∃ t a s, spec_l00Src_text.f x0 = some (t, a, s) ∧ t.size ≤ 200 ∧ SrcB x0.code a s (B + 4194313) := by
  unfold spec_l00Src_text.f
  obtain ⟨v1, a1, s1, e1, p1, q1, h1⟩ := src_next x0 9 B h (by omega)
  obtain ⟨v2, a2, s2, e2, p2, q2, h2⟩ := src_next ⟨x0.code, a1, s1⟩ 200 (B + 3) h1 (by omega)
  obtain ⟨v3, a3, s3, e3, p3, q3, h3⟩ := src_next ⟨x0.code, a2, s2⟩ 6 (B + 6) (h2.up (by omega)) (by omega)
  simp only [e1, e2, e3, Option.bind_some]
  rw [if_pos (by omega)]
  have hn : ([v1, 55, 56, 63, 64, v2].getD v3.toNat 0) ≤ 200 ∧ 0 ≤ ([v1, 55, 56, 63, 64, v2].getD v3.toNat 0) := by
    have : v3 = 0 ∨ v3 = 1 ∨ v3 = 2 ∨ v3 = 3 ∨ v3 = 4 ∨ v3 = 5 := by omega
    rcases this with rfl | rfl | rfl | rfl | rfl | rfl <;> simp <;> omega
  generalize [v1, 55, 56, 63, 64, v2].getD v3.toNat 0 = n at hn ⊢
  obtain ⟨t, a4, s4, e4, p4, h4⟩ := src_bytes ⟨x0.code, a3, s3⟩ n (B + 9) (h3.up (by omega)) (by omega) (by omega)
  rw [e4]
  refine ⟨t, a4, s4, rfl, ?_, h4.up (by omega)⟩
  split at p4 <;> omega

theorem textOf_some (l : List Int) (hl : l.length ≤ 1048576) (hb : isB l) : ∃ t, spec_TextOf.f l = some t ∧ t.size ≤ 200 := by
  obtain ⟨s, e, h⟩ := src_new l hl hb
  obtain ⟨t, a, s2, e2, h2, _⟩ := src_text ⟨l, 0, s⟩ 0 h (by omega)
  exact ⟨t, by unfold spec_TextOf.f; simp only [e, e2, Option.bind_some], h2⟩

theorem at_some (l : List Int) (i n : Int) (hl : l.length ≤ 1048576) (hb : isB l) (hi : 0 ≤ i ∧ i ≤ 1048576) (hn : n ≤ 1048576) : ∃ v, laws_at.f l i n = some v ∧ 0 ≤ v ∧ (v < n ∨ v = 0) := by
  unfold laws_at.f
  by_cases c : n ≤ 1
  · rw [decide_eq_true c]; exact ⟨_, rfl, by omega, .inr rfl⟩
  rw [decide_eq_false c]
  simp only [cond_false]
  cases h0 : ((l.length : Int) == 0)
  · have hne : (l.length : Int) ≠ 0 := by simpa using h0
    obtain ⟨q1, q2⟩ := tmod_lt hi.1 (show (0 : Int) < (l.length : Int) by omega)
    have w1 : w64 (i + 1) = i + 1 := w64_id (by omega) (by omega)
    obtain ⟨q3, q4⟩ := tmod_lt (show 0 ≤ i + 1 by omega) (show (0 : Int) < (l.length : Int) by omega)
    have q5 : 0 ≤ Int.tdiv i (l.length : Int) ∧ Int.tdiv i (l.length : Int) ≤ i := by
      rw [Int.tdiv_eq_ediv_of_nonneg hi.1]
      exact ⟨Int.ediv_nonneg hi.1 (by omega), Int.ediv_le_self _ hi.1⟩
    simp only [cond_false, if_neg hne, w1]
    rw [if_pos ⟨q1, q2⟩, if_pos ⟨q3, q4⟩, if_neg (by omega)]
    obtain ⟨b1, b2⟩ := getD_isB hb (Int.tmod i (l.length : Int)).toNat
    obtain ⟨b3, b4⟩ := getD_isB hb (Int.tmod (i + 1) (l.length : Int)).toNat
    generalize l.getD (Int.tmod i (l.length : Int)).toNat 0 = x at b1 b2 ⊢
    generalize l.getD (Int.tmod (i + 1) (l.length : Int)).toNat 0 = y at b3 b4 ⊢
    generalize Int.tdiv i (l.length : Int) = z at q5 ⊢
    have e1 : IntKind.wrap .i64 x = x := w64_id (by omega) (by omega)
    have e2 : IntKind.wrap .i64 y = y := w64_id (by omega) (by omega)
    have e3 : IntKind.wrap .i64 z = z := w64_id (by omega) (by omega)
    rw [e1, e2, e3, w64_id (x := x * 31) (by omega) (by omega), w64_id (x := x * 31 + y) (by omega) (by omega), w64_id (by omega) (by omega)]
    obtain ⟨r1, r2⟩ := tmod_lt (show 0 ≤ x * 31 + y + z by omega) (show 0 < n by omega)
    exact ⟨_, rfl, r1, .inl r2⟩
  · simp only [cond_true]
    rw [if_neg (by omega), w64_id (by omega) (by omega)]
    obtain ⟨r1, r2⟩ := tmod_lt (show 0 ≤ i * 7 by omega) (show 0 < n by omega)
    exact ⟨_, rfl, r1, .inl r2⟩

theorem keyOf_some (l : List Int) (hl : l.length ≤ 1048576) (hb : isB l) : ∃ t, spec_KeyOf.f l = some t ∧ t.size = 32 := by
  obtain ⟨s, e, h⟩ := src_new l hl hb
  obtain ⟨t, a, s2, e2, h2, _⟩ := src_bytes ⟨l, 0, s⟩ 32 0 h (by omega) (by omega)
  rw [if_neg (by omega)] at h2
  exact ⟨t, by unfold spec_KeyOf.f spec_l00Src_key.f; simp only [e, e2, Option.bind_some], by omega⟩

theorem idx_slices_IndexFunc_string_string (l : List ByteArray) (q : ByteArray → Option Bool) (p : ByteArray → Bool) (h : l.length ≤ 1073741824) (hq : ∀ x, x ∈ l → q x = some (p x)) : slices_IndexFunc_string_string.f l q = some (idxOf l ByteArray.empty p) := by
  unfold slices_IndexFunc_string_string.f idxOf
  have := loopO_find (step := fun s => slices_IndexFunc_string_string.s0 l q s) (fun k => (k : Int)) l.length (fun k => p (l.getD k ByteArray.empty)) (fun k => (k : Int)) (t := ()) (fun k hk => by
    simp only [slices_IndexFunc_string_string.s0, decide_eq_true (show (k : Int) < (l.length : Int) by omega), cond_true, if_pos (show (0 : Int) ≤ (k : Int) ∧ (k : Int) < (l.length : Int) by omega), Int.toNat_natCast, hq _ (getD_mem hk _), Option.bind_some]
    rw [w64_id (by omega) (by omega)]
    cases p (l.getD k ByteArray.empty) <;> rfl) (by
    simp only [slices_IndexFunc_string_string.s0]
    rw [decide_eq_false (by omega)]; rfl)
  rw [show ((0 : Int)) = ((0 : Nat) : Int) from rfl, this]
  cases (List.range l.length).find? (fun k => p (l.getD k ByteArray.empty)) <;> rfl

theorem any_slices_ContainsFunc_string_string (l : List ByteArray) (q : ByteArray → Option Bool) (p : ByteArray → Bool) (h : l.length ≤ 1073741824) (hq : ∀ x, x ∈ l → q x = some (p x)) : slices_ContainsFunc_string_string.f l q = some (l.any p) := by
  unfold slices_ContainsFunc_string_string.f
  rw [idx_slices_IndexFunc_string_string l q p h hq, ← idxOf_any l ByteArray.empty p]
  rfl

theorem all_impl_areAll_string (l : List ByteArray) (q : ByteArray → Option Bool) (p : ByteArray → Bool) (h : l.length ≤ 1073741824) (hq : ∀ x, x ∈ l → q x = some (p x)) : impl_areAll_string.f l q = some (l.all p) := by
  unfold impl_areAll_string.f
  rw [any_slices_ContainsFunc_string_string l _ (fun x => !p x) h (fun x hx => by unfold impl_areAll_string__c1.f; rw [hq x hx]; rfl)]
  simp only [Option.bind_some, List.any_eq_not_all_not, Bool.not_not]

def shortT (t : ByteArray) : Bool := decide ((t.size : Int) ≤ 65536)
theorem areShort_eq (l : List ByteArray) (h : l.length ≤ 1073741824) : impl_areShort.f l = some (l.all shortT) := by
  unfold impl_areShort.f
  rw [all_impl_areAll_string l impl_areShort_c1.f shortT h (fun x _ => rfl)]; rfl
theorem areShort1 (t : ByteArray) : impl_areShort.f [t] = some (shortT t) := by
  rw [areShort_eq _ (by simp)]; simp

/-! Numbers of 130 bits in five parts. -/
def LL (f : Nat → Nat) : List Int := [((f 0 : Nat) : Int), ((f 1 : Nat) : Int), ((f 2 : Nat) : Int), ((f 3 : Nat) : Int), ((f 4 : Nat) : Int)]
theorem lt5 {j : Nat} (h : j < 5) : j = 0 ∨ j = 1 ∨ j = 2 ∨ j = 3 ∨ j = 4 := by omega
theorem LL_get (f : Nat → Nat) {j : Nat} (h : j < 5) : (LL f).getD j 0 = ((f j : Nat) : Int) := by
  rcases lt5 h with rfl | rfl | rfl | rfl | rfl <;> rfl
theorem LL_congr {f g : Nat → Nat} (h : ∀ j, j < 5 → f j = g j) : LL f = LL g := by
  unfold LL
  rw [h 0 (by decide), h 1 (by decide), h 2 (by decide), h 3 (by decide), h 4 (by decide)]
theorem LL_set (f : Nat → Nat) {j : Nat} (h : j < 5) (x : Nat) : (LL f).set j (x : Int) = LL (fun i => if i = j then x else f i) := by
  rcases lt5 h with rfl | rfl | rfl | rfl | rfl <;> rfl
theorem LL_zero : List.replicate 5 (0 : Int) = LL (fun _ => 0) := rfl
theorem wu64 (a : Nat) (h : a < 18446744073709551616) : IntKind.wrap .u64 (a : Int) = (a : Int) := by
  show (a : Int) % 18446744073709551616 = _; omega
theorem wi64 (a : Nat) (h : a < 9223372036854775808) : w64 (a : Int) = (a : Int) := w64_id (by omega) (by omega)
theorem wi64' (a : Nat) (h : a < 9223372036854775808) : IntKind.wrap .i64 (a : Int) = (a : Int) := w64_id (by omega) (by omega)
theorem h26 : (2 : Nat) ^ 26 = 67108864 := by decide
theorem and26 (a : Nat) (ha : a < 9223372036854775808) : ((BitVec.ofInt 64 (a : Int) &&& BitVec.ofInt 64 67108863).toNat : Int) = ((a % 67108864 : Nat) : Int) := by
  have h64 : (2 : Nat) ^ 64 = 18446744073709551616 := by decide
  have e : (BitVec.ofInt 64 67108863).toNat = 2 ^ 26 - 1 := by decide
  rw [BitVec.toNat_and, e, BitVec.ofInt_natCast, BitVec.toNat_ofNat, Nat.mod_eq_of_lt (by omega), Nat.and_two_pow_sub_one_eq_mod]
theorem and26u (a : Nat) (ha : a < 9223372036854775808) : IntKind.wrap .u64 ((BitVec.ofInt 64 (a : Int) &&& BitVec.ofInt 64 67108863).toNat : Int) = ((a % 67108864 : Nat) : Int) := by
  rw [and26 a ha, wu64 _ (by omega)]
theorem and26i (a : Nat) (ha : a < 9223372036854775808) : IntKind.wrap .i64 ((BitVec.ofInt 64 (a : Int) &&& BitVec.ofInt 64 67108863).toNat : Int) = ((a % 67108864 : Nat) : Int) := by
  rw [and26 a ha, wi64' _ (by omega)]
theorem shrN (x n : Nat) : Int.fdiv (x : Int) (2 ^ n) = ((x / 2 ^ n : Nat) : Int) := by
  have : ((2 : Int) ^ n) = ((2 ^ n : Nat) : Int) := by rw [Int.natCast_pow]; rfl
  rw [this, Int.fdiv_eq_ediv_of_nonneg _ (Int.natCast_nonneg _)]; rfl
theorem shr26 (x : Nat) : Int.fdiv (x : Int) (2 ^ 26) = ((x / 67108864 : Nat) : Int) := by rw [shrN, h26]
/-- What goes over to the next part. -/
def cy (a : Nat → Nat) : Nat → Nat
  | 0 => 0
  | i + 1 => (a i + cy a i) / 67108864
def cr1 (a : Nat → Nat) (j : Nat) : Nat := (a j + cy a j) % 67108864
theorem cy_lt {a : Nat → Nat} (h : ∀ j, a j < 4611686018427387904) : ∀ i, cy a i < 137438953472
  | 0 => by rw [cy]; decide
  | i + 1 => by
    have := cy_lt h i
    have := h i
    rw [cy]; omega
def rd (a : Nat → Nat) : Nat → Nat := fun j => if j = 0 then cr1 a 0 + 5 * cy a 5 else cr1 a j
theorem rd_lt {a : Nat → Nat} (h : ∀ j, a j < 4611686018427387904) : ∀ j, rd a j < 4611686018427387904 := fun j => by
  have := cy_lt h 5
  have h1 : cr1 a 0 < 67108864 := Nat.mod_lt _ (by decide)
  have h2 : cr1 a j < 67108864 := Nat.mod_lt _ (by decide)
  unfold rd; split <;> omega
theorem carry1_i (a : Nat → Nat) (h : ∀ j, a j < 4611686018427387904) : loopO (fun s : List Int × Int × Int => impl_limbs_carried.s1 s.1 s.2.1 s.2.2) (LL a, 0, 0) = some (.out (LL (cr1 a), ((cy a 5 : Nat) : Int))) := by
  have := loopO_run (step := fun s : List Int × Int × Int => impl_limbs_carried.s1 s.1 s.2.1 s.2.2) (fun k => (LL (fun j => if j < k then cr1 a j else a j), ((cy a k : Nat) : Int), (k : Int))) 5 (r := .out (LL (cr1 a), ((cy a 5 : Nat) : Int))) (fun k hk => by
    have hc := cy_lt h k
    have ha := h k
    have e1 : IntKind.wrap .u64 (((a k : Nat) : Int) + ((cy a k : Nat) : Int)) = ((a k + cy a k : Nat) : Int) := by
      rw [show ((a k : Nat) : Int) + ((cy a k : Nat) : Int) = ((a k + cy a k : Nat) : Int) by omega, wu64 _ (by omega)]
    simp only [impl_limbs_carried.s1, decide_eq_true (show (k : Int) < 5 by omega), cond_true, Int.toNat_natCast]
    rw [if_pos (by omega), if_pos (by omega), if_pos (by omega), if_pos (by omega), if_pos (by omega), LL_get _ hk, if_neg (Nat.lt_irrefl k), e1, LL_set _ hk, LL_get _ hk, if_pos rfl, and26u _ (by omega), shr26, LL_set _ hk, w64_id (by omega) (by omega)]
    have e2 : LL (fun i => if i = k then (a k + cy a k) % 67108864 else if i = k then a k + cy a k else if i < k then cr1 a i else a i) = LL (fun j => if j < k + 1 then cr1 a j else a j) := LL_congr fun j _ => by
      by_cases c : j = k
      · subst c; rw [if_pos rfl, if_pos (by omega)]; rfl
      · rw [if_neg c, if_neg c]
        by_cases c2 : j < k
        · rw [if_pos c2, if_pos (by omega)]
        · rw [if_neg c2, if_neg (by omega)]
    rw [e2]; rfl) (by
    have : LL (fun j => if j < 5 then cr1 a j else a j) = LL (cr1 a) := LL_congr fun j hj => if_pos hj
    rw [this]; rfl)
  have e0 : LL (fun j => if j < 0 then cr1 a j else a j) = LL a := LL_congr fun j _ => if_neg (Nat.not_lt_zero j)
  rw [e0] at this
  exact this
theorem carry_i (a : Nat → Nat) (h : ∀ j, a j < 4611686018427387904) : impl_limbs_carried.f (LL a) = some (LL (rd (rd (rd a)))) := by
  have st : ∀ (b : Nat → Nat) (k : Nat), (∀ j, b j < 4611686018427387904) → k < 3 → impl_limbs_carried.s0 (LL b) (k : Int) = some (.inl (LL (rd b), ((k + 1 : Nat) : Int))) := fun b k hb hk => by
    have hc := cy_lt hb 5
    have h1 : cr1 b 0 < 67108864 := Nat.mod_lt _ (by decide)
    have e5 : IntKind.wrap .u64 (5 * ((cy b 5 : Nat) : Int)) = ((5 * cy b 5 : Nat) : Int) := by
      rw [show (5 : Int) * ((cy b 5 : Nat) : Int) = ((5 * cy b 5 : Nat) : Int) by omega, wu64 _ (by omega)]
    have e6 : IntKind.wrap .u64 (((cr1 b 0 : Nat) : Int) + ((5 * cy b 5 : Nat) : Int)) = ((cr1 b 0 + 5 * cy b 5 : Nat) : Int) := by
      rw [show ((cr1 b 0 : Nat) : Int) + ((5 * cy b 5 : Nat) : Int) = ((cr1 b 0 + 5 * cy b 5 : Nat) : Int) by omega, wu64 _ (by omega)]
    unfold impl_limbs_carried.s0
    rw [decide_eq_true (show (k : Int) < 3 by omega), carry1_i b hb]
    simp only [cond_true, Option.bind_some]
    have z : (0 : Int).toNat = 0 := rfl
    rw [if_pos (by omega), if_pos (by omega), z, LL_get _ (by decide), e5, e6, LL_set _ (by decide), w64_id (by omega) (by omega)]
    rfl
  unfold impl_limbs_carried.f
  have s0 := st a 0 h (by decide)
  have s1 := st (rd a) 1 (rd_lt h) (by decide)
  have s2 := st (rd (rd a)) 2 (rd_lt (rd_lt h)) (by decide)
  have ls := fun (x y : List Int × Int) (e : impl_limbs_carried.s0 x.1 x.2 = some (.inl y)) => loopO_next (step := fun s : List Int × Int => impl_limbs_carried.s0 s.1 s.2) (s := x) (s' := y) e
  rw [ls (LL a, 0) _ s0, ls _ _ s1, ls _ _ s2, loopO_stop (step := fun s : List Int × Int => impl_limbs_carried.s0 s.1 s.2) (r := .out (LL (rd (rd (rd a))))) rfl]
  rfl
theorem carry1_s (a : Nat → Nat) (h : ∀ j, a j < 4611686018427387904) : loopO (fun s : List Int × Int => spec_l03Carry.s1 s.1 s.2) (LL a, 0) = some (.out (LL (fun j => if j < 4 then cr1 a j else a j + cy a j))) := by
  have := loopO_run (step := fun s : List Int × Int => spec_l03Carry.s1 s.1 s.2) (fun k => (LL (fun j => if j < k then cr1 a j else if j = k then a j + cy a j else a j), (k : Int))) 4 (r := .out (LL (fun j => if j < 4 then cr1 a j else a j + cy a j))) (fun k hk => by
    have hc := cy_lt h k
    have ha := h k
    have ha1 := h (k + 1)
    have hw : w64 ((k : Int) + 1) = ((k + 1 : Nat) : Int) := by rw [w64_id (by omega) (by omega)]; omega
    have hcs : (a k + cy a k) / 67108864 = cy a (k + 1) := rfl
    have hc1 := cy_lt h (k + 1)
    have e1 : w64 (((a (k + 1) : Nat) : Int) + ((cy a (k + 1) : Nat) : Int)) = ((a (k + 1) + cy a (k + 1) : Nat) : Int) := by
      rw [show ((a (k + 1) : Nat) : Int) + ((cy a (k + 1) : Nat) : Int) = ((a (k + 1) + cy a (k + 1) : Nat) : Int) by omega, wi64 _ (by omega)]
    simp only [spec_l03Carry.s1, decide_eq_true (show (k : Int) < 4 by omega), cond_true, hw, Int.toNat_natCast]
    rw [if_pos (by omega), if_pos (by omega), if_pos (by omega), if_pos (by omega), if_pos (by omega), LL_get _ (show k + 1 < 5 by omega), LL_get _ (show k < 5 by omega), if_neg (show ¬ k + 1 < k by omega), if_neg (show ¬ k + 1 = k by omega), if_neg (Nat.lt_irrefl k), if_pos rfl, shr26, hcs, e1, LL_set _ (show k + 1 < 5 by omega), LL_get _ (show k < 5 by omega), if_neg (show ¬ k = k + 1 by omega), if_neg (Nat.lt_irrefl k), if_pos rfl, and26i _ (by omega), LL_set _ (show k < 5 by omega)]
    have e2 : LL (fun i => if i = k then (a k + cy a k) % 67108864 else if i = k + 1 then a (k + 1) + cy a (k + 1) else if i < k then cr1 a i else if i = k then a i + cy a i else a i) = LL (fun j => if j < k + 1 then cr1 a j else if j = k + 1 then a j + cy a j else a j) := LL_congr fun j _ => by
      by_cases c : j = k
      · subst c; rw [if_pos rfl, if_pos (by omega)]; rfl
      · rw [if_neg c]
        by_cases c1 : j = k + 1
        · subst c1; rw [if_pos rfl, if_neg (by omega), if_pos rfl]
        · rw [if_neg c1]
          by_cases c2 : j < k
          · rw [if_pos c2, if_pos (by omega)]
          · rw [if_neg c2, if_neg c, if_neg (by omega), if_neg c1]
    rw [e2]) (by
    have : LL (fun j => if j < 4 then cr1 a j else if j = 4 then a j + cy a j else a j) = LL (fun j => if j < 4 then cr1 a j else a j + cy a j) := LL_congr fun j hj => by
      by_cases c : j < 4
      · rw [if_pos c, if_pos c]
      · rw [if_neg c, if_neg c, if_pos (by omega)]
    rw [this]; rfl)
  have e0 : LL (fun j => if j < 0 then cr1 a j else if j = 0 then a j + cy a j else a j) = LL a := LL_congr fun j _ => by
    rw [if_neg (Nat.not_lt_zero j)]
    by_cases c : j = 0
    · subst c; rw [if_pos rfl]; rfl
    · rw [if_neg c]
  rw [e0] at this
  exact this
theorem carry_s (a : Nat → Nat) (h : ∀ j, a j < 4611686018427387904) : spec_l03Carry.f (LL a) = some (LL (rd (rd (rd a)))) := by
  have st : ∀ (b : Nat → Nat) (k : Nat), (∀ j, b j < 4611686018427387904) → k < 3 → spec_l03Carry.s0 (LL b) (k : Int) = some (.inl (LL (rd b), ((k + 1 : Nat) : Int))) := fun b k hb hk => by
    have hc := cy_lt hb 5
    have hc4 := cy_lt hb 4
    have hb4 := hb 4
    have h1 : cr1 b 0 < 67108864 := Nat.mod_lt _ (by decide)
    have hcs : (b 4 + cy b 4) / 67108864 = cy b 5 := rfl
    have e5 : w64 (5 * ((cy b 5 : Nat) : Int)) = ((5 * cy b 5 : Nat) : Int) := by
      rw [show (5 : Int) * ((cy b 5 : Nat) : Int) = ((5 * cy b 5 : Nat) : Int) by omega, wi64 _ (by omega)]
    have e6 : w64 (((cr1 b 0 : Nat) : Int) + ((5 * cy b 5 : Nat) : Int)) = ((cr1 b 0 + 5 * cy b 5 : Nat) : Int) := by
      rw [show ((cr1 b 0 : Nat) : Int) + ((5 * cy b 5 : Nat) : Int) = ((cr1 b 0 + 5 * cy b 5 : Nat) : Int) by omega, wi64 _ (by omega)]
    unfold spec_l03Carry.s0
    rw [decide_eq_true (show (k : Int) < 3 by omega), carry1_s b hb]
    simp only [cond_true, Option.bind_some]
    have z : (0 : Int).toNat = 0 := rfl
    have z4 : (4 : Int).toNat = 4 := rfl
    rw [if_pos (by omega), if_pos (by omega), if_pos (by omega), if_pos (by omega), if_pos (by omega), z, z4, LL_get _ (show 0 < 5 by decide), LL_get _ (show 4 < 5 by decide), if_pos (show 0 < 4 by decide), if_neg (show ¬ 4 < 4 by decide), shr26, hcs, e5, e6, LL_set _ (show 0 < 5 by decide), LL_get _ (show 4 < 5 by decide), if_neg (show ¬ 4 = 0 by decide), if_neg (show ¬ 4 < 4 by decide), and26i _ (by omega), LL_set _ (show 4 < 5 by decide), w64_id (by omega) (by omega)]
    have e2 : LL (fun i => if i = 4 then (b 4 + cy b 4) % 67108864 else if i = 0 then cr1 b 0 + 5 * cy b 5 else if i < 4 then cr1 b i else b i + cy b i) = LL (rd b) := LL_congr fun j hj => by
      unfold rd
      by_cases c : j = 4
      · subst c; rw [if_pos rfl, if_neg (by decide)]; rfl
      · rw [if_neg c]
        by_cases c0 : j = 0
        · rw [if_pos c0, if_pos c0]
        · rw [if_neg c0, if_neg c0, if_pos (by omega)]
    rw [e2]; rfl
  unfold spec_l03Carry.f
  have s0 := st a 0 h (by decide)
  have s1 := st (rd a) 1 (rd_lt h) (by decide)
  have s2 := st (rd (rd a)) 2 (rd_lt (rd_lt h)) (by decide)
  have ls := fun (x y : List Int × Int) (e : spec_l03Carry.s0 x.1 x.2 = some (.inl y)) => loopO_next (step := fun s : List Int × Int => spec_l03Carry.s0 s.1 s.2) (s := x) (s' := y) e
  rw [ls (LL a, 0) _ s0, ls _ _ s1, ls _ _ s2, loopO_stop (step := fun s : List Int × Int => spec_l03Carry.s0 s.1 s.2) (r := .out (LL (rd (rd (rd a))))) rfl]
  rfl
/-! What the parts stand for. -/
def val (a : Nat → Nat) : Nat := a 0 + 67108864 * (a 1 + 67108864 * (a 2 + 67108864 * (a 3 + 67108864 * a 4)))
def dg (N j : Nat) : Nat := N / 67108864 ^ j % 67108864
def gg (v : Nat) : Nat := v % 1361129467683753853853498429727072845824 + 5 * (v / 1361129467683753853853498429727072845824)
theorem dq (N j : Nat) : N / 67108864 ^ (j + 1) = N / 67108864 ^ j / 67108864 := by rw [Nat.pow_succ, Nat.div_div_eq_div_mul]
theorem dq0 (N : Nat) : N / 67108864 ^ 0 = N := by rw [Nat.pow_zero, Nat.div_one]
theorem dq5 (N : Nat) : N / 67108864 ^ 5 = N / 1361129467683753853853498429727072845824 := rfl
theorem parts (a : Nat → Nat) : (∀ j, j < 5 → cr1 a j = dg (val a) j) ∧ cy a 5 = val a / 1361129467683753853853498429727072845824 := by
  have c1 : cy a 1 = (a 0 + 0) / 67108864 := rfl
  have c2 : cy a 2 = (a 1 + cy a 1) / 67108864 := rfl
  have c3 : cy a 3 = (a 2 + cy a 2) / 67108864 := rfl
  have c4 : cy a 4 = (a 3 + cy a 3) / 67108864 := rfl
  have c5 : cy a 5 = (a 4 + cy a 4) / 67108864 := rfl
  have q0 : val a / 67108864 ^ 0 = a 0 + 67108864 * (a 1 + 67108864 * (a 2 + 67108864 * (a 3 + 67108864 * a 4))) := dq0 _
  have q1 : val a / 67108864 ^ 1 = (a 1 + cy a 1) + 67108864 * (a 2 + 67108864 * (a 3 + 67108864 * a 4)) := by rw [dq, q0, c1]; omega
  have q2 : val a / 67108864 ^ 2 = (a 2 + cy a 2) + 67108864 * (a 3 + 67108864 * a 4) := by rw [dq, q1, c2]; omega
  have q3 : val a / 67108864 ^ 3 = (a 3 + cy a 3) + 67108864 * a 4 := by rw [dq, q2, c3]; omega
  have q4 : val a / 67108864 ^ 4 = a 4 + cy a 4 := by rw [dq, q3, c4]; omega
  have q5 : val a / 67108864 ^ 5 = cy a 5 := by rw [dq, q4, c5]
  refine ⟨fun j hj => ?_, by rw [← dq5]; exact q5.symm⟩
  unfold cr1 dg
  rcases lt5 hj with rfl | rfl | rfl | rfl | rfl
  · rw [q0]; show (a 0 + 0) % _ = _; omega
  · rw [q1]; omega
  · rw [q2]; omega
  · rw [q3]; omega
  · rw [q4]
theorem dg_val (N : Nat) : val (dg N) = N % 1361129467683753853853498429727072845824 := by
  have d0 := dq N 0
  have d1 := dq N 1
  have d2 := dq N 2
  have d3 := dq N 3
  have d4 := dq N 4
  have z := dq0 N
  have f := dq5 N
  unfold val dg
  omega
theorem val_rd (a : Nat → Nat) : val (rd a) = gg (val a) := by
  obtain ⟨h1, h2⟩ := parts a
  have h := dg_val (val a)
  have e : val (rd a) = val (dg (val a)) + 5 * cy a 5 := by
    have r0 : rd a 0 = dg (val a) 0 + 5 * cy a 5 := by rw [← h1 0 (by decide)]; rfl
    have r1 : rd a 1 = dg (val a) 1 := by rw [← h1 1 (by decide)]; rfl
    have r2 : rd a 2 = dg (val a) 2 := by rw [← h1 2 (by decide)]; rfl
    have r3 : rd a 3 = dg (val a) 3 := by rw [← h1 3 (by decide)]; rfl
    have r4 : rd a 4 = dg (val a) 4 := by rw [← h1 4 (by decide)]; rfl
    have v1 : val (rd a) = rd a 0 + 67108864 * (rd a 1 + 67108864 * (rd a 2 + 67108864 * (rd a 3 + 67108864 * rd a 4))) := rfl
    have v2 : val (dg (val a)) = dg (val a) 0 + 67108864 * (dg (val a) 1 + 67108864 * (dg (val a) 2 + 67108864 * (dg (val a) 3 + 67108864 * dg (val a) 4))) := rfl
    rw [v1, v2, r0, r1, r2, r3, r4]
    omega
  rw [e, h, h2]; rfl
def DL (N : Nat) : List Int := LL (dg N)
theorem rd_dg {a : Nat → Nat} (h : val a < 1361129467683753853853498429727072845824) : LL (rd a) = DL (val a) := LL_congr fun j hj => by
  obtain ⟨h1, h2⟩ := parts a
  have : cy a 5 = 0 := by rw [h2]; omega
  unfold rd
  by_cases c : j = 0
  · subst c; rw [if_pos rfl, this, h1 0 (by decide)]; rfl
  · rw [if_neg c, h1 j hj]
theorem val_lt {a : Nat → Nat} (h : ∀ j, a j < 4611686018427387904) : val a < 187072209578355573530071658587684226515959365500928 := by
  have h0 := h 0
  have h1 := h 1
  have h2 := h 2
  have h3 := h 3
  have h4 := h 4
  unfold val; omega
theorem gg_small {v : Nat} (h : v < 187072209578355573530071658587684226515959365500928) : gg (gg v) < 1361129467683753853853498429727072845824 := by
  unfold gg; omega
theorem carried_i (a : Nat → Nat) (h : ∀ j, a j < 4611686018427387904) : impl_limbs_carried.f (LL a) = some (DL (gg (gg (val a)))) := by
  rw [carry_i a h, rd_dg (by rw [val_rd, val_rd]; exact gg_small (val_lt h)), val_rd, val_rd]
theorem carried_s (a : Nat → Nat) (h : ∀ j, a j < 4611686018427387904) : spec_l03Carry.f (LL a) = some (DL (gg (gg (val a)))) := by
  rw [carry_s a h, rd_dg (by rw [val_rd, val_rd]; exact gg_small (val_lt h)), val_rd, val_rd]
theorem gg_mod (v : Nat) : gg v % 1361129467683753853853498429727072845819 = v % 1361129467683753853853498429727072845819 := by
  have : v = gg v + 1361129467683753853853498429727072845819 * (v / 1361129467683753853853498429727072845824) := by unfold gg; omega
  conv => rhs; rw [this]
  rw [Nat.add_mul_mod_self_left]
theorem gg_id {v : Nat} (h : v < 1361129467683753853853498429727072845824) : gg v = v := by unfold gg; omega
theorem dg_lt (N j : Nat) : dg N j < 67108864 := Nat.mod_lt _ (by decide)
/-! Products. -/
def tF (x y : Nat → Nat) (i : Nat) (o : Nat → Nat) : Nat → (Nat → Nat)
  | 0 => o
  | k + 1 => fun j => if j = (i + k) % 5 then tF x y i o k j + (if i + k < 5 then 1 else 5) * (x i * y k) else tF x y i o k j
def tG (x y : Nat → Nat) : Nat → (Nat → Nat)
  | 0 => fun _ => 0
  | i + 1 => tF x y i (tG x y i) 5
theorem tF_le {x y : Nat → Nat} (hx : ∀ j, x j < 268435456) (hy : ∀ j, y j < 67108864) (i : Nat) (o : Nat → Nat) (b : Nat) (ho : ∀ j, o j ≤ b) : ∀ k j, tF x y i o k j ≤ b + k * 90071992547409920
  | 0, j => by simpa [tF] using ho j
  | k + 1, j => by
    have ih := tF_le hx hy i o b ho k j
    have hp : x i * y k ≤ 268435456 * 67108864 := Nat.mul_le_mul (Nat.le_of_lt (hx i)) (Nat.le_of_lt (hy k))
    show (if j = (i + k) % 5 then tF x y i o k j + (if i + k < 5 then 1 else 5) * (x i * y k) else tF x y i o k j) ≤ _
    by_cases c : j = (i + k) % 5
    · rw [if_pos c]
      by_cases c2 : i + k < 5
      · rw [if_pos c2]; omega
      · rw [if_neg c2]; omega
    · rw [if_neg c]; exact Nat.le_trans ih (Nat.add_le_add_left (Nat.mul_le_mul_right _ (Nat.le_succ k)) b)
theorem tG_le {x y : Nat → Nat} (hx : ∀ j, x j < 268435456) (hy : ∀ j, y j < 67108864) : ∀ i j, tG x y i j ≤ i * 450359962737049600 := by
  intro i
  induction i with
  | zero => intro j; exact Nat.zero_le (0 * 450359962737049600)
  | succ i ih =>
    intro j
    have := tF_le hx hy i (tG x y i) _ ih 5 j
    rw [tG]; omega
theorem trow_i {x y : Nat → Nat} (hx : ∀ j, x j < 268435456) (hy : ∀ j, y j < 67108864) (i : Nat) (hi : i < 5) (o : Nat → Nat) (ho : ∀ j, o j ≤ 1801439850948198400) : loopO (fun s : List Int × Int => impl_limbs_times.s1 (LL x) (LL y) (i : Int) s.1 s.2) (LL o, 0) = some (.out (LL (tF x y i o 5))) := by
  have := loopO_run (step := fun s : List Int × Int => impl_limbs_times.s1 (LL x) (LL y) (i : Int) s.1 s.2) (fun k => (LL (tF x y i o k), (k : Int))) 5 (r := .out (LL (tF x y i o 5))) (fun k hk => by
    have hb := fun j => tF_le hx hy i o _ ho k j
    have hp : x i * y k ≤ 268435456 * 67108864 := Nat.mul_le_mul (Nat.le_of_lt (hx i)) (Nat.le_of_lt (hy k))
    have hw : w64 ((i : Int) + (k : Int)) = ((i + k : Nat) : Int) := by rw [w64_id (by omega) (by omega)]; omega
    have e1 : IntKind.wrap .u64 (((x i : Nat) : Int) * ((y k : Nat) : Int)) = ((x i * y k : Nat) : Int) := by
      rw [← Int.natCast_mul, wu64 _ (by omega)]
    have hxi := hx i
    have e2 : IntKind.wrap .u64 (5 * ((x i : Nat) : Int)) = ((5 * x i : Nat) : Int) := by
      rw [show (5 : Int) * ((x i : Nat) : Int) = ((5 * x i : Nat) : Int) by omega, wu64 _ (by omega)]
    have e3 : IntKind.wrap .u64 (((5 * x i : Nat) : Int) * ((y k : Nat) : Int)) = ((5 * (x i * y k) : Nat) : Int) := by
      rw [← Int.natCast_mul, Nat.mul_assoc, wu64 _ (by omega)]
    have e4 : ∀ (u v : Nat), u + v < 18446744073709551616 → IntKind.wrap .u64 ((u : Int) + (v : Int)) = ((u + v : Nat) : Int) := fun u v h => by
      rw [show (u : Int) + (v : Int) = ((u + v : Nat) : Int) by omega, wu64 _ h]
    simp only [impl_limbs_times.s1, decide_eq_true (show (k : Int) < 5 by omega), cond_true, hw, Int.toNat_natCast, LL_get x hi, LL_get y hk]
    rw [if_pos (by omega)]
    by_cases c : i + k < 5
    · have hbj := hb (i + k)
      rw [decide_eq_true (show ((i + k : Nat) : Int) < 5 by omega)]
      simp only [cond_true]
      rw [if_pos (by omega), if_pos (by omega), LL_get _ c, e1, e4 _ _ (by omega), LL_set _ c, w64_id (by omega) (by omega)]
      simp only [Option.bind_some]
      have e : LL (fun j => if j = i + k then tF x y i o k (i + k) + x i * y k else tF x y i o k j) = LL (tF x y i o (k + 1)) := LL_congr fun j hj => by
        show _ = if j = (i + k) % 5 then tF x y i o k j + (if i + k < 5 then 1 else 5) * (x i * y k) else tF x y i o k j
        rw [show (i + k) % 5 = i + k by omega, if_pos c]
        by_cases q : j = i + k
        · subst q; rw [if_pos rfl, if_pos rfl]; omega
        · rw [if_neg q, if_neg q]
      rw [e]; rfl
    · have hbj := hb (i + k - 5)
      have hw5 : w64 (((i + k : Nat) : Int) - 5) = ((i + k - 5 : Nat) : Int) := by rw [w64_id (by omega) (by omega)]; omega
      have c5 : i + k - 5 < 5 := by omega
      rw [decide_eq_false (show ¬ ((i + k : Nat) : Int) < 5 by omega)]
      simp only [cond_false, hw5, Int.toNat_natCast]
      rw [if_pos (by omega), if_pos (by omega), LL_get _ c5, e2, e3, e4 _ _ (by omega), LL_set _ c5, w64_id (by omega) (by omega)]
      simp only [Option.bind_some]
      have e : LL (fun j => if j = i + k - 5 then tF x y i o k (i + k - 5) + 5 * (x i * y k) else tF x y i o k j) = LL (tF x y i o (k + 1)) := LL_congr fun j hj => by
        show _ = if j = (i + k) % 5 then tF x y i o k j + (if i + k < 5 then 1 else 5) * (x i * y k) else tF x y i o k j
        rw [show (i + k) % 5 = i + k - 5 by omega, if_neg c]
        by_cases q : j = i + k - 5
        · subst q; rw [if_pos rfl]
        · rw [if_neg q, if_neg q]
      rw [e]; rfl) rfl
  exact this
theorem trow_s {x y : Nat → Nat} (hx : ∀ j, x j < 268435456) (hy : ∀ j, y j < 67108864) (i : Nat) (hi : i < 5) (o : Nat → Nat) (ho : ∀ j, o j ≤ 1801439850948198400) : loopO (fun s : List Int × Int => spec_l03Times.s1 (LL x) (LL y) (i : Int) s.1 s.2) (LL o, 0) = some (.out (LL (tF x y i o 5))) := by
  have := loopO_run (step := fun s : List Int × Int => spec_l03Times.s1 (LL x) (LL y) (i : Int) s.1 s.2) (fun k => (LL (tF x y i o k), (k : Int))) 5 (r := .out (LL (tF x y i o 5))) (fun k hk => by
    have hb := fun j => tF_le hx hy i o _ ho k j
    have hp : x i * y k ≤ 268435456 * 67108864 := Nat.mul_le_mul (Nat.le_of_lt (hx i)) (Nat.le_of_lt (hy k))
    have hw : w64 ((i : Int) + (k : Int)) = ((i + k : Nat) : Int) := by rw [w64_id (by omega) (by omega)]; omega
    have e1 : w64 (((x i : Nat) : Int) * ((y k : Nat) : Int)) = ((x i * y k : Nat) : Int) := by
      rw [← Int.natCast_mul, wi64 _ (by omega)]
    have e2 : w64 (((x i * y k : Nat) : Int) * 5) = ((5 * (x i * y k) : Nat) : Int) := by
      rw [show ((x i * y k : Nat) : Int) * 5 = ((5 * (x i * y k) : Nat) : Int) by omega, wi64 _ (by omega)]
    have e4 : ∀ (u v : Nat), u + v < 9223372036854775808 → w64 ((u : Int) + (v : Int)) = ((u + v : Nat) : Int) := fun u v h => by
      rw [show (u : Int) + (v : Int) = ((u + v : Nat) : Int) by omega, wi64 _ h]
    have em : Int.tmod ((i + k : Nat) : Int) 5 = (((i + k) % 5 : Nat) : Int) := by rw [Int.tmod_eq_emod_of_nonneg (by omega)]; omega
    have m5 : (i + k) % 5 < 5 := Nat.mod_lt _ (by decide)
    have hbj := hb ((i + k) % 5)
    simp only [spec_l03Times.s1, decide_eq_true (show (k : Int) < 5 by omega), cond_true, hw, em, Int.toNat_natCast, LL_get x hi, LL_get y hk, e1, e2]
    rw [if_pos (by omega), if_pos (by omega)]
    have fin : ∀ c : Nat, c ≤ 5 → c * (x i * y k) ≤ 90071992547409920 → (if i + k < 5 then 1 else 5) = c → LL (fun j => if j = (i + k) % 5 then tF x y i o k ((i + k) % 5) + c * (x i * y k) else tF x y i o k j) = LL (tF x y i o (k + 1)) := fun c _ _ hc => LL_congr fun j hj => by
      show _ = if j = (i + k) % 5 then tF x y i o k j + (if i + k < 5 then 1 else 5) * (x i * y k) else tF x y i o k j
      rw [hc]
      by_cases q : j = (i + k) % 5
      · subst q; rw [if_pos rfl]
      · rw [if_neg q, if_neg q]
    by_cases c : i + k < 5
    · rw [decide_eq_false (show ¬ ((i + k : Nat) : Int) > 4 by omega)]
      simp only [cond_false, Option.bind_some]
      rw [if_pos (by omega), if_pos (by omega), LL_get _ m5, e4 _ _ (by omega), LL_set _ m5, w64_id (by omega) (by omega)]
      have := fin 1 (by omega) (by omega) (if_pos c)
      rw [Nat.one_mul] at this
      rw [this]; rfl
    · rw [decide_eq_true (show ((i + k : Nat) : Int) > 4 by omega)]
      simp only [cond_true, Option.bind_some]
      rw [if_pos (by omega), if_pos (by omega), LL_get _ m5, e4 _ _ (by omega), LL_set _ m5, w64_id (by omega) (by omega)]
      have := fin 5 (by omega) (by omega) (if_neg c)
      rw [this]; rfl) rfl
  exact this
theorem times_i {x y : Nat → Nat} (hx : ∀ j, x j < 268435456) (hy : ∀ j, y j < 67108864) : impl_limbs_times.f (LL x) (LL y) = some (DL (gg (gg (val (tG x y 5))))) := by
  have hg := tG_le hx hy
  unfold impl_limbs_times.f
  have := loopO_run (step := fun s : List Int × Int => impl_limbs_times.s0 (LL x) (LL y) s.1 s.2) (fun k => (LL (tG x y k), (k : Int))) 5 (r := .out (LL (tG x y 5))) (fun k hk => by
    simp only [impl_limbs_times.s0, decide_eq_true (show (k : Int) < 5 by omega), cond_true]
    rw [if_pos (by omega), trow_i hx hy k hk _ (fun j => by have := hg k j; omega)]
    simp only [Option.bind_some]
    rw [w64_id (by omega) (by omega)]; rfl) rfl
  have this : loopO (fun s : List Int × Int => impl_limbs_times.s0 (LL x) (LL y) s.1 s.2) (List.replicate 5 (0 : Int), 0) = _ := this
  rw [this]
  simp only [Option.bind_some]
  rw [carried_i _ (fun j => by have := hg 5 j; omega)]; rfl
theorem times_s {x y : Nat → Nat} (hx : ∀ j, x j < 268435456) (hy : ∀ j, y j < 67108864) : spec_l03Times.f (LL x) (LL y) = some (DL (gg (gg (val (tG x y 5))))) := by
  have hg := tG_le hx hy
  unfold spec_l03Times.f
  have := loopO_run (step := fun s : List Int × Int => spec_l03Times.s0 (LL x) (LL y) s.1 s.2) (fun k => (LL (tG x y k), (k : Int))) 5 (r := .out (LL (tG x y 5))) (fun k hk => by
    simp only [spec_l03Times.s0, decide_eq_true (show (k : Int) < 5 by omega), cond_true]
    rw [trow_s hx hy k hk _ (fun j => by have := hg k j; omega)]
    simp only [Option.bind_some]
    rw [w64_id (by omega) (by omega)]; rfl) rfl
  have this : loopO (fun s : List Int × Int => spec_l03Times.s0 (LL x) (LL y) s.1 s.2) (List.replicate 5 (0 : Int), 0) = _ := this
  rw [this]
  simp only [Option.bind_some]
  rw [carried_s _ (fun j => by have := hg 5 j; omega)]; rfl
theorem mul_l (a b Y : Nat) : (a + 67108864 * b) * Y = a * Y + 67108864 * (b * Y) := by rw [Nat.add_mul, Nat.mul_assoc]
theorem mul_r (x a b : Nat) : x * (a + 67108864 * b) = x * a + 67108864 * (x * b) := by rw [Nat.mul_add, Nat.mul_left_comm]
theorem val_mul (a b c d e Y : Nat) : (a + 67108864 * (b + 67108864 * (c + 67108864 * (d + 67108864 * e)))) * Y = a * Y + 67108864 * (b * Y + 67108864 * (c * Y + 67108864 * (d * Y + 67108864 * (e * Y)))) := by
  rw [mul_l a, mul_l b, mul_l c, mul_l d]
theorem mul_val (x a b c d e : Nat) : x * (a + 67108864 * (b + 67108864 * (c + 67108864 * (d + 67108864 * e)))) = x * a + 67108864 * (x * b + 67108864 * (x * c + 67108864 * (x * d + 67108864 * (x * e)))) := by
  rw [mul_r x a, mul_r x b, mul_r x c, mul_r x d]
theorem lin25 (p00 p01 p02 p03 p04 p10 p11 p12 p13 p14 p20 p21 p22 p23 p24 p30 p31 p32 p33 p34 p40 p41 p42 p43 p44 : Nat) : (p00 + 67108864 * (p01 + 67108864 * (p02 + 67108864 * (p03 + 67108864 * (p04))))) + 67108864 * ((p10 + 67108864 * (p11 + 67108864 * (p12 + 67108864 * (p13 + 67108864 * (p14))))) + 67108864 * ((p20 + 67108864 * (p21 + 67108864 * (p22 + 67108864 * (p23 + 67108864 * (p24))))) + 67108864 * ((p30 + 67108864 * (p31 + 67108864 * (p32 + 67108864 * (p33 + 67108864 * (p34))))) + 67108864 * ((p40 + 67108864 * (p41 + 67108864 * (p42 + 67108864 * (p43 + 67108864 * (p44))))))))) = (0 + 1 * p00 + 5 * p14 + 5 * p23 + 5 * p32 + 5 * p41) + 67108864 * ((0 + 1 * p01 + 1 * p10 + 5 * p24 + 5 * p33 + 5 * p42) + 67108864 * ((0 + 1 * p02 + 1 * p11 + 1 * p20 + 5 * p34 + 5 * p43) + 67108864 * ((0 + 1 * p03 + 1 * p12 + 1 * p21 + 1 * p30 + 5 * p44) + 67108864 * ((0 + 1 * p04 + 1 * p13 + 1 * p22 + 1 * p31 + 1 * p40))))) + 1361129467683753853853498429727072845819 * ((p14 + p23 + p32 + p41) + 67108864 * ((p24 + p33 + p42) + 67108864 * ((p34 + p43) + 67108864 * ((p44))))) := by omega
theorem val_times (x y : Nat → Nat) : val (tG x y 5) % 1361129467683753853853498429727072845819 = (val x * val y) % 1361129467683753853853498429727072845819 := by
  have g0 : tG x y 5 0 = 0 + 1 * (x 0 * y 0) + 5 * (x 1 * y 4) + 5 * (x 2 * y 3) + 5 * (x 3 * y 2) + 5 * (x 4 * y 1) := rfl
  have g1 : tG x y 5 1 = 0 + 1 * (x 0 * y 1) + 1 * (x 1 * y 0) + 5 * (x 2 * y 4) + 5 * (x 3 * y 3) + 5 * (x 4 * y 2) := rfl
  have g2 : tG x y 5 2 = 0 + 1 * (x 0 * y 2) + 1 * (x 1 * y 1) + 1 * (x 2 * y 0) + 5 * (x 3 * y 4) + 5 * (x 4 * y 3) := rfl
  have g3 : tG x y 5 3 = 0 + 1 * (x 0 * y 3) + 1 * (x 1 * y 2) + 1 * (x 2 * y 1) + 1 * (x 3 * y 0) + 5 * (x 4 * y 4) := rfl
  have g4 : tG x y 5 4 = 0 + 1 * (x 0 * y 4) + 1 * (x 1 * y 3) + 1 * (x 2 * y 2) + 1 * (x 3 * y 1) + 1 * (x 4 * y 0) := rfl
  have e : val x * val y = val (tG x y 5) + 1361129467683753853853498429727072845819 * ((x 1 * y 4 + x 2 * y 3 + x 3 * y 2 + x 4 * y 1) + 67108864 * ((x 2 * y 4 + x 3 * y 3 + x 4 * y 2) + 67108864 * ((x 3 * y 4 + x 4 * y 3) + 67108864 * (x 4 * y 4)))) := by
    unfold val
    rw [g0, g1, g2, g3, g4]
    rw [val_mul, mul_val (x 0), mul_val (x 1), mul_val (x 2), mul_val (x 3), mul_val (x 4)]
    exact lin25 (x 0 * y 0) (x 0 * y 1) (x 0 * y 2) (x 0 * y 3) (x 0 * y 4) (x 1 * y 0) (x 1 * y 1) (x 1 * y 2) (x 1 * y 3) (x 1 * y 4) (x 2 * y 0) (x 2 * y 1) (x 2 * y 2) (x 2 * y 3) (x 2 * y 4) (x 3 * y 0) (x 3 * y 1) (x 3 * y 2) (x 3 * y 3) (x 3 * y 4) (x 4 * y 0) (x 4 * y 1) (x 4 * y 2) (x 4 * y 3) (x 4 * y 4)
  rw [e, Nat.add_mul_mod_self_left]
theorem plus_i {x y : Nat → Nat} (hx : ∀ j, x j < 67108864) (hy : ∀ j, y j < 67108864) : impl_limbs_plus.f (LL x) (LL y) = some (DL (gg (gg (val x + val y)))) := by
  unfold impl_limbs_plus.f
  have := loopO_run (step := fun s : List Int × Int => impl_limbs_plus.s0 (LL y) s.1 s.2) (fun k => (LL (fun j => if j < k then x j + y j else x j), (k : Int))) 5 (r := .out (LL (fun j => x j + y j))) (fun k hk => by
    have h1 := hx k
    have h2 := hy k
    have e1 : IntKind.wrap .u64 (((x k : Nat) : Int) + ((y k : Nat) : Int)) = ((x k + y k : Nat) : Int) := by
      rw [show ((x k : Nat) : Int) + ((y k : Nat) : Int) = ((x k + y k : Nat) : Int) by omega, wu64 _ (by omega)]
    simp only [impl_limbs_plus.s0, decide_eq_true (show (k : Int) < 5 by omega), cond_true, Int.toNat_natCast]
    rw [if_pos (by omega), if_pos (by omega), if_pos (by omega), LL_get _ hk, LL_get _ hk, if_neg (Nat.lt_irrefl k), e1, LL_set _ hk, w64_id (by omega) (by omega)]
    have e : LL (fun i => if i = k then x k + y k else if i < k then x i + y i else x i) = LL (fun j => if j < k + 1 then x j + y j else x j) := LL_congr fun j _ => by
      by_cases c : j = k
      · subst c; rw [if_pos rfl, if_pos (by omega)]
      · rw [if_neg c]
        by_cases c2 : j < k
        · rw [if_pos c2, if_pos (by omega)]
        · rw [if_neg c2, if_neg (by omega)]
    rw [e]; rfl) (by
    have : LL (fun j => if j < 5 then x j + y j else x j) = LL (fun j => x j + y j) := LL_congr fun j hj => if_pos hj
    rw [this]; rfl)
  have e0 : LL (fun j => if j < 0 then x j + y j else x j) = LL x := LL_congr fun j _ => if_neg (Nat.not_lt_zero j)
  rw [e0] at this
  have this : loopO (fun s : List Int × Int => impl_limbs_plus.s0 (LL y) s.1 s.2) (LL x, 0) = _ := this
  rw [this]
  simp only [Option.bind_some]
  have hv : val (fun j => x j + y j) = val x + val y := by
    show x 0 + y 0 + 67108864 * (x 1 + y 1 + 67108864 * (x 2 + y 2 + 67108864 * (x 3 + y 3 + 67108864 * (x 4 + y 4)))) = val x + val y
    unfold val; omega
  rw [carried_i _ (fun j => by have := hx j; have := hy j; omega), hv]; rfl
/-! The least number that is the same. -/
theorem dg_sum (N : Nat) (h : N < 1361129467683753853853498429727072845824) : N = dg N 0 + 67108864 * (dg N 1 + 67108864 * (dg N 2 + 67108864 * (dg N 3 + 67108864 * dg N 4))) := by
  have := dg_val N
  rw [Nat.mod_eq_of_lt h] at this
  exact this.symm
theorem gg2_dg (N : Nat) (h : N < 1361129467683753853853498429727072845824) : gg (gg (val (dg N))) = N := by
  rw [dg_val, Nat.mod_eq_of_lt h, gg_id h, gg_id h]
theorem dg_big (N j : Nat) : dg N j < 4611686018427387904 := Nat.lt_trans (dg_lt N j) (by decide)
theorem dg_tiny {M : Nat} (h : M < 67108864) (j : Nat) : dg M j = if j = 0 then M else 0 := by
  unfold dg
  cases j with
  | zero => rw [if_pos rfl, Nat.pow_zero, Nat.div_one, Nat.mod_eq_of_lt h]
  | succ j =>
    rw [if_neg (Nat.succ_ne_zero j)]
    have : M / 67108864 ^ (j + 1) = 0 := Nat.div_eq_of_lt (Nat.lt_of_lt_of_le h (by
      rw [Nat.pow_succ]; exact Nat.le_mul_of_pos_left _ (Nat.pow_pos (by decide))))
    rw [this]
def lst : List Int := [67108859, 67108863, 67108863, 67108863, 67108863]
def lsf (j : Nat) : Nat := if j = 0 then 67108859 else 67108863
theorem lst_get {j : Nat} (h : j < 5) : lst.getD j 0 = ((lsf j : Nat) : Int) := by
  rcases lt5 h with rfl | rfl | rfl | rfl | rfl <;> rfl
theorem cmp_step (N : Nat) {i : Nat} (hi : i < 5) : impl_limbs_reduced.s0 (DL N) (i : Int) = some (if dg N i = lsf i then .inl ((i : Int) - 1) else if dg N i < lsf i then .inr (.ret (DL N)) else .inr (.out ())) := by
  have e : ([67108859, 67108863, 67108863, 67108863, 67108863] : List Int) = lst := rfl
  unfold impl_limbs_reduced.s0 DL
  rw [e, decide_eq_true (show (i : Int) ≥ 0 by omega), if_pos (by omega), if_pos (by omega), if_pos (by omega), if_pos (by omega), Int.toNat_natCast, LL_get _ hi, lst_get hi]
  simp only [cond_true]
  by_cases c : dg N i = lsf i
  · rw [if_pos c, c, bne_self_eq_false, w64_id (by omega) (by omega)]; rfl
  · rw [if_neg c, show (((dg N i : Nat) : Int) != ((lsf i : Nat) : Int)) = true by rw [bne_iff_ne]; omega]
    by_cases c2 : dg N i < lsf i
    · rw [if_pos c2, decide_eq_true (show ((dg N i : Nat) : Int) < ((lsf i : Nat) : Int) by omega)]; rfl
    · rw [if_neg c2, decide_eq_false (show ¬ ((dg N i : Nat) : Int) < ((lsf i : Nat) : Int) by omega)]; rfl
theorem cmp_loop (N : Nat) (h : N < 1361129467683753853853498429727072845824) : loopO (fun s => impl_limbs_reduced.s0 (DL N) s) 4 = some (if N < 1361129467683753853853498429727072845819 then .ret (DL N) else .out ()) := by
  have hs := dg_sum N h
  have b0 := dg_lt N 0
  have b1 := dg_lt N 1
  have b2 := dg_lt N 2
  have b3 := dg_lt N 3
  have b4 := dg_lt N 4
  have c0 := cmp_step N (i := 0) (by decide)
  have c1 := cmp_step N (i := 1) (by decide)
  have c2 := cmp_step N (i := 2) (by decide)
  have c3 := cmp_step N (i := 3) (by decide)
  have c4 := cmp_step N (i := 4) (by decide)
  have l0 : lsf 0 = 67108859 := rfl
  have l1 : lsf 1 = 67108863 := rfl
  have l2 : lsf 2 = 67108863 := rfl
  have l3 : lsf 3 = 67108863 := rfl
  have l4 : lsf 4 = 67108863 := rfl
  rw [l0] at c0
  rw [l1] at c1
  rw [l2] at c2
  rw [l3] at c3
  rw [l4] at c4
  have ret : ∀ (i : Int), impl_limbs_reduced.s0 (DL N) i = some (.inr (.ret (DL N))) → loopO (fun s => impl_limbs_reduced.s0 (DL N) s) i = some (.ret (DL N)) := fun i e => loopO_stop (step := fun s => impl_limbs_reduced.s0 (DL N) s) e
  have nxt : ∀ (i j : Int), impl_limbs_reduced.s0 (DL N) i = some (.inl j) → loopO (fun s => impl_limbs_reduced.s0 (DL N) s) i = loopO (fun s => impl_limbs_reduced.s0 (DL N) s) j := fun i j e => loopO_next (step := fun s => impl_limbs_reduced.s0 (DL N) s) e
  by_cases q4 : dg N 4 = 67108863
  case neg =>
    rw [if_neg q4, if_pos (by omega)] at c4
    rw [ret 4 c4, if_pos (by omega)]
  rw [if_pos q4] at c4
  rw [nxt 4 3 c4]
  by_cases q3 : dg N 3 = 67108863
  case neg =>
    rw [if_neg q3, if_pos (by omega)] at c3
    rw [ret 3 c3, if_pos (by omega)]
  rw [if_pos q3] at c3
  rw [nxt 3 2 c3]
  by_cases q2 : dg N 2 = 67108863
  case neg =>
    rw [if_neg q2, if_pos (by omega)] at c2
    rw [ret 2 c2, if_pos (by omega)]
  rw [if_pos q2] at c2
  rw [nxt 2 1 c2]
  by_cases q1 : dg N 1 = 67108863
  case neg =>
    rw [if_neg q1, if_pos (by omega)] at c1
    rw [ret 1 c1, if_pos (by omega)]
  rw [if_pos q1] at c1
  rw [nxt 1 0 c1]
  by_cases q0 : dg N 0 < 67108859
  · rw [if_neg (by omega), if_pos q0] at c0
    rw [ret 0 c0, if_pos (by omega)]
  · rw [if_neg (show ¬ N < 1361129467683753853853498429727072845819 by omega)]
    by_cases z0 : dg N 0 = 67108859
    · rw [if_pos z0] at c0
      exact (nxt ((0 : Nat) : Int) _ c0).trans (loopO_stop (step := fun s => impl_limbs_reduced.s0 (DL N) s) rfl)
    · rw [if_neg z0, if_neg q0] at c0
      exact loopO_stop (step := fun s => impl_limbs_reduced.s0 (DL N) s) c0
theorem big_digits {N : Nat} (h : N < 1361129467683753853853498429727072845824) (hp : ¬ N < 1361129467683753853853498429727072845819) : dg N 4 = 67108863 ∧ dg N 3 = 67108863 ∧ dg N 2 = 67108863 ∧ dg N 1 = 67108863 ∧ dg N 0 = N - 1361129467683753853853498429727072845819 + 67108859 := by
  have hs := dg_sum N h
  have b0 := dg_lt N 0
  have b1 := dg_lt N 1
  have b2 := dg_lt N 2
  have b3 := dg_lt N 3
  have b4 := dg_lt N 4
  omega
theorem mod_PP {N : Nat} (h : N < 1361129467683753853853498429727072845824) : N % 1361129467683753853853498429727072845819 = if N < 1361129467683753853853498429727072845819 then N else N - 1361129467683753853853498429727072845819 := by
  split <;> omega
theorem reduced_i (N : Nat) (h : N < 1361129467683753853853498429727072845824) : impl_limbs_reduced.f (DL N) = some (DL (N % 1361129467683753853853498429727072845819)) := by
  have hc : impl_limbs_carried.f (DL N) = some (DL N) := by
    have := carried_i (dg N) (dg_big N)
    rw [gg2_dg N h] at this; exact this
  unfold impl_limbs_reduced.f
  rw [hc, Option.bind_some, cmp_loop N h, mod_PP h]
  by_cases c : N < 1361129467683753853853498429727072845819
  · rw [if_pos c, if_pos c]; rfl
  rw [if_neg c, if_neg c]
  simp only [Option.bind_some]
  obtain ⟨d4, d3, d2, d1, d0⟩ := big_digits h c
  have ge : ∀ j, j < 5 → lsf j ≤ dg N j := fun j hj => by
    rcases lt5 hj with rfl | rfl | rfl | rfl | rfl
    · show 67108859 ≤ _; omega
    · show 67108863 ≤ _; omega
    · show 67108863 ≤ _; omega
    · show 67108863 ≤ _; omega
    · show 67108863 ≤ _; omega
  have := loopO_run (step := fun s : List Int × Int => impl_limbs_reduced.s1 s.1 s.2) (fun k => (LL (fun j => if j < k then dg N j - lsf j else dg N j), (k : Int))) 5 (r := .out (DL (N - 1361129467683753853853498429727072845819))) (fun k hk => by
    have e : ([67108859, 67108863, 67108863, 67108863, 67108863] : List Int) = lst := rfl
    have hg := ge k hk
    have hl := dg_lt N k
    have e1 : IntKind.wrap .u64 (((dg N k : Nat) : Int) - ((lsf k : Nat) : Int)) = ((dg N k - lsf k : Nat) : Int) := by
      rw [show ((dg N k : Nat) : Int) - ((lsf k : Nat) : Int) = ((dg N k - lsf k : Nat) : Int) by omega, wu64 _ (by omega)]
    simp only [impl_limbs_reduced.s1, decide_eq_true (show (k : Int) < 5 by omega), cond_true, e, Int.toNat_natCast]
    rw [if_pos (by omega), if_pos (by omega), if_pos (by omega), LL_get _ hk, if_neg (Nat.lt_irrefl k), lst_get hk, e1, LL_set _ hk, w64_id (by omega) (by omega)]
    have e2 : LL (fun i => if i = k then dg N k - lsf k else if i < k then dg N i - lsf i else dg N i) = LL (fun j => if j < k + 1 then dg N j - lsf j else dg N j) := LL_congr fun j _ => by
      by_cases c : j = k
      · subst c; rw [if_pos rfl, if_pos (by omega)]
      · rw [if_neg c]
        by_cases c2 : j < k
        · rw [if_pos c2, if_pos (by omega)]
        · rw [if_neg c2, if_neg (by omega)]
    rw [e2]; rfl) (by
    have : LL (fun j => if j < 5 then dg N j - lsf j else dg N j) = DL (N - 1361129467683753853853498429727072845819) := LL_congr fun j hj => by
      rw [if_pos hj, dg_tiny (M := N - 1361129467683753853853498429727072845819) (by omega) j]
      rcases lt5 hj with rfl | rfl | rfl | rfl | rfl
      · rw [if_pos rfl, d0]; show _ - 67108859 = _; omega
      · rw [if_neg (by decide), d1]; rfl
      · rw [if_neg (by decide), d2]; rfl
      · rw [if_neg (by decide), d3]; rfl
      · rw [if_neg (by decide), d4]; rfl
    rw [this]; rfl)
  have e0 : LL (fun j => if j < 0 then dg N j - lsf j else dg N j) = DL N := LL_congr fun j _ => if_neg (Nat.not_lt_zero j)
  rw [e0] at this
  have this : loopO (fun s : List Int × Int => impl_limbs_reduced.s1 s.1 s.2) (DL N, 0) = _ := this
  rw [this]; rfl
theorem less_s (N : Nat) (h : N < 1361129467683753853853498429727072845824) : spec_l03Less.f (DL N) = some (DL (N % 1361129467683753853853498429727072845819)) := by
  have hs := dg_sum N h
  have z : (0 : Int).toNat = 0 := rfl
  have z4 : (4 : Int).toNat = 4 := rfl
  have hl0 := dg_lt N 0
  have e5 : w64 (((dg N 0 : Nat) : Int) + 5) = ((dg N 0 + 5 : Nat) : Int) := by rw [w64_id (by omega) (by omega)]; omega
  have es : @spec_l03Less.s0 = @spec_l03Carry.s1 := rfl
  obtain ⟨a, ha⟩ : ∃ a : Nat → Nat, a = fun i => if i = 0 then dg N 0 + 5 else dg N i := ⟨_, rfl⟩
  have hb : ∀ j, a j < 4611686018427387904 := fun j => by
    have := dg_lt N j
    rw [ha]; show (if j = 0 then _ else _) < _
    split <;> omega
  have hv : val a = N + 5 := by
    rw [ha]
    show dg N 0 + 5 + 67108864 * (dg N 1 + 67108864 * (dg N 2 + 67108864 * (dg N 3 + 67108864 * dg N 4))) = _
    omega
  obtain ⟨h1, h2⟩ := parts a
  have hset : (DL N).set 0 ((dg N 0 + 5 : Nat) : Int) = LL a := by unfold DL; rw [LL_set _ (by decide), ha]
  have hcs : (a 4 + cy a 4) / 67108864 = cy a 5 := rfl
  have hc4 := cy_lt hb 4
  have hb4 := hb 4
  unfold spec_l03Less.f
  rw [if_pos (by omega), if_pos (by omega), z]
  have hg0 : (DL N).getD 0 0 = ((dg N 0 : Nat) : Int) := LL_get _ (by decide)
  rw [hg0, e5, hset, es, carry1_s a hb]
  simp only [Option.bind_some]
  rw [if_pos (by omega), if_pos (by omega), if_pos (by omega), z4, LL_get _ (show 4 < 5 by decide), if_neg (show ¬ 4 < 4 by decide), shr26, hcs, h2, hv, mod_PP h]
  by_cases c : N < 1361129467683753853853498429727072845819
  · rw [if_pos c, show (N + 5) / 1361129467683753853853498429727072845824 = 0 by omega]; rfl
  · rw [if_neg c, show (N + 5) / 1361129467683753853853498429727072845824 = 1 by omega, and26i _ (by omega), LL_set _ (show 4 < 5 by decide)]
    have e2 : LL (fun i => if i = 4 then (a 4 + cy a 4) % 67108864 else if i < 4 then cr1 a i else a i + cy a i) = DL (N - 1361129467683753853853498429727072845819) := LL_congr fun j hj => by
      have q0 := dq0 (N + 5)
      have q1 := dq (N + 5) 0
      have q2 := dq (N + 5) 1
      have q3 := dq (N + 5) 2
      have q4 := dq (N + 5) 3
      have e : (if j = 4 then (a 4 + cy a 4) % 67108864 else if j < 4 then cr1 a j else a j + cy a j) = dg (N + 5) j := by
        rw [← hv, ← h1 j hj]
        by_cases c4 : j = 4
        · subst c4; rw [if_pos rfl]; rfl
        · rw [if_neg c4, if_pos (by omega)]
      rw [e, dg_tiny (M := N - 1361129467683753853853498429727072845819) (by omega) j]
      unfold dg
      rcases lt5 hj with rfl | rfl | rfl | rfl | rfl
      · rw [if_pos rfl]; omega
      · rw [if_neg (by decide)]; omega
      · rw [if_neg (by decide)]; omega
      · rw [if_neg (by decide)]; omega
      · rw [if_neg (by decide)]; omega
    rw [e2]; rfl
/-! Bytes of such a number. -/
theorem two26 (r : Nat) (hr : r ≤ 26) : (67108864 : Nat) = 2 ^ r * 2 ^ (26 - r) := by rw [← Nat.pow_add, show r + (26 - r) = 26 by omega, h26]
theorem pow_split (j r : Nat) : (2 : Nat) ^ (26 * j + r) = 67108864 ^ j * 2 ^ r := by rw [Nat.pow_add, Nat.pow_mul, h26]
theorem div_split (M j r : Nat) : M / 2 ^ (26 * j + r) = M / 67108864 ^ j / 2 ^ r := by rw [pow_split, Nat.div_div_eq_div_mul]
theorem dg_shift (M j r : Nat) (hr : r ≤ 26) : dg M j / 2 ^ r = M / 2 ^ (26 * j + r) % 2 ^ (26 - r) := by
  rw [div_split]
  have e := Nat.mod_mul_right_div_self (M / 67108864 ^ j) (2 ^ r) (2 ^ (26 - r))
  rw [← two26 r hr] at e
  exact e
theorem bits_dg (M j r c : Nat) (h : r + c ≤ 26) : dg M j / 2 ^ r % 2 ^ c = M / 2 ^ (26 * j + r) % 2 ^ c := by
  rw [dg_shift M j r (by omega)]
  exact Nat.mod_mod_of_dvd _ (Nat.pow_dvd_pow 2 (by omega))
def mb (M i : Nat) : Nat := M / 2 ^ (8 * i) % 256
theorem byte_lo (M j r : Nat) (h : r ≤ 18) : dg M j / 2 ^ r % 256 = M / 2 ^ (26 * j + r) % 256 := bits_dg M j r 8 (by omega)
theorem byte_hi (M j r : Nat) (h : 18 < r) (h2 : r ≤ 26) : (dg M j / 2 ^ r + dg M (j + 1) * 2 ^ (26 - r)) % 256 = M / 2 ^ (26 * j + r) % 256 := by
  rw [dg_shift M j r h2]
  generalize hq : M / 2 ^ (26 * j + r) = q
  have e1 : M / 67108864 ^ (j + 1) = q / 2 ^ (26 - r) := by
    rw [← hq, div_split, Nat.div_div_eq_div_mul (M / 67108864 ^ j), ← two26 r h2, dq]
  unfold dg
  rw [e1]
  generalize hw : q / 2 ^ (26 - r) = w
  have e2 : q = q % 2 ^ (26 - r) + 2 ^ (26 - r) * w := by rw [← hw, Nat.add_comm]; exact (Nat.div_add_mod q (2 ^ (26 - r))).symm
  have e3 : w = w % 67108864 + 67108864 * (w / 67108864) := by omega
  have e4 : (2 : Nat) ^ (26 - r) * w = w % 67108864 * 2 ^ (26 - r) + 256 * (262144 * (2 ^ (26 - r) * (w / 67108864))) := by
    conv => lhs; rw [e3]
    rw [Nat.mul_add, Nat.mul_comm (2 ^ (26 - r)) (w % 67108864), Nat.mul_left_comm (2 ^ (26 - r)) 67108864]
    omega
  conv => rhs; rw [e2, e4, ← Nat.add_assoc]
  rw [Nat.add_mul_mod_self_left]
def kb (k : List Int) (i : Nat) : Nat := (k.getD (16 + i) 0).toNat
def ci (M : Nat) (k : List Int) : Nat → Nat
  | 0 => 0
  | i + 1 => (ci M k i + (mb M i + kb k i)) / 256
theorem ci_le {M : Nat} {k : List Int} (hk : isB k) : ∀ i, ci M k i ≤ 2
  | 0 => by rw [ci]; decide
  | i + 1 => by
    have ih := ci_le (M := M) hk i
    have h1 : mb M i < 256 := Nat.mod_lt _ (by decide)
    have h2 := getD_isB hk (16 + i)
    have h3 : kb k i ≤ 255 := by unfold kb; omega
    rw [ci]; omega
def ob (M : Nat) (k : List Int) (i : Nat) : Int := (((ci M k i + (mb M i + kb k i)) % 256 : Nat) : Int)
def obL (M : Nat) (k : List Int) : List Int := (List.range 16).map (ob M k)
theorem obL_isB (M : Nat) (k : List Int) : isB (obL M k) := by
  intro b hb
  obtain ⟨i, _, rfl⟩ := List.mem_map.1 hb
  unfold ob; omega
theorem and8 (a : Nat) (ha : a < 9223372036854775808) : IntKind.wrap .i64 ((BitVec.ofInt 64 (a : Int) &&& BitVec.ofInt 64 255).toNat : Int) = ((a % 256 : Nat) : Int) := by
  have h64 : (2 : Nat) ^ 64 = 18446744073709551616 := by decide
  have e : (BitVec.ofInt 64 255).toNat = 2 ^ 8 - 1 := by decide
  have h8 : (2 : Nat) ^ 8 = 256 := by decide
  rw [BitVec.toNat_and, e, BitVec.ofInt_natCast, BitVec.toNat_ofNat, Nat.mod_eq_of_lt (by omega), Nat.and_two_pow_sub_one_eq_mod, h8, wi64' _ (by omega)]
theorem and1u (a : Nat) (ha : a < 9223372036854775808) : IntKind.wrap .u64 ((BitVec.ofInt 64 (a : Int) &&& BitVec.ofInt 64 1).toNat : Int) = ((a % 2 : Nat) : Int) := by
  have h64 : (2 : Nat) ^ 64 = 18446744073709551616 := by decide
  have e : (BitVec.ofInt 64 1).toNat = 2 ^ 1 - 1 := by decide
  have h8 : (2 : Nat) ^ 1 = 2 := by decide
  rw [BitVec.toNat_and, e, BitVec.ofInt_natCast, BitVec.toNat_ofNat, Nat.mod_eq_of_lt (by omega), Nat.and_two_pow_sub_one_eq_mod, h8, wu64 _ (by omega)]
theorem place (n : Nat) (h : n < 1000) : IntKind.wrap .i64 (Int.tdiv (w64 (n : Int)) 26) = ((n / 26 : Nat) : Int) ∧ Int.tmod (w64 (n : Int)) 26 = ((n % 26 : Nat) : Int) := by
  rw [wi64 n (by omega), Int.tdiv_eq_ediv_of_nonneg (by omega), Int.tmod_eq_emod_of_nonneg (by omega)]
  have e : ((n : Int) / 26) = ((n / 26 : Nat) : Int) := by omega
  rw [e]
  exact ⟨wi64' _ (by omega), by omega⟩
theorem wu8m (a : Nat) : IntKind.wrap .u8 (a : Int) = ((a % 256 : Nat) : Int) := by
  show (a : Int) % 256 = _; omega
theorem own_byte (M i : Nat) (hi : i < 16) : loopO (fun s : Int × Int => impl_limbs_bytes.s1 (DL M) (i : Int) s.1 s.2) (0, 0) = some (.out ((mb M i : Nat) : Int)) := by
  have := loopO_run (step := fun s : Int × Int => impl_limbs_bytes.s1 (DL M) (i : Int) s.1 s.2) (fun b => (((M / 2 ^ (8 * i) % 2 ^ b : Nat) : Int), (b : Int))) 8 (r := .out ((mb M i : Nat) : Int)) (fun b hb => by
    have hw : w64 (8 * (i : Int)) = ((8 * i : Nat) : Int) := by rw [w64_id (by omega) (by omega)]; omega
    have hs : ((8 * i : Nat) : Int) + (b : Int) = ((8 * i + b : Nat) : Int) := by omega
    obtain ⟨p1, p2⟩ := place (8 * i + b) (by omega)
    have hj : (8 * i + b) / 26 < 5 := by omega
    have hr : (8 * i + b) % 26 < 26 := Nat.mod_lt _ (by decide)
    have hd := dg_lt M ((8 * i + b) / 26)
    have hle : dg M ((8 * i + b) / 26) / 2 ^ ((8 * i + b) % 26) ≤ dg M ((8 * i + b) / 26) := Nat.div_le_self _ _
    have hbit : dg M ((8 * i + b) / 26) / 2 ^ ((8 * i + b) % 26) % 2 = M / 2 ^ (8 * i) / 2 ^ b % 2 := by
      have := bits_dg M ((8 * i + b) / 26) ((8 * i + b) % 26) 1 (by omega)
      rw [show (2 : Nat) ^ 1 = 2 from rfl, show 26 * ((8 * i + b) / 26) + (8 * i + b) % 26 = 8 * i + b by omega] at this
      rw [this, Nat.pow_add, Nat.div_div_eq_div_mul]
    have hlt : M / 2 ^ (8 * i) % 2 ^ b < 2 ^ b := Nat.mod_lt _ (Nat.pow_pos (by decide))
    have hpb : (2 : Nat) ^ b ≤ 2 ^ 7 := Nat.pow_le_pow_right (by decide) (by omega)
    have h7 : (2 : Nat) ^ 7 = 128 := by decide
    have hx : M / 2 ^ (8 * i) / 2 ^ b % 2 < 2 := Nat.mod_lt _ (by decide)
    have hxp : M / 2 ^ (8 * i) / 2 ^ b % 2 * 2 ^ b ≤ 1 * 2 ^ b := Nat.mul_le_mul_right _ (by omega)
    simp only [impl_limbs_bytes.s1, decide_eq_true (show (b : Int) < 8 by omega), cond_true, hw, hs, p1, p2, Int.toNat_natCast]
    have hg : (DL M).getD ((8 * i + b) / 26) 0 = ((dg M ((8 * i + b) / 26) : Nat) : Int) := LL_get _ hj
    rw [if_pos (by omega), if_pos (by omega), if_pos (by omega), hg, show min ((8 * i + b) % 26) 64 = (8 * i + b) % 26 by omega, show min b 64 = b by omega, shrN, and1u _ (by omega), hbit, wi64' (M / 2 ^ (8 * i) / 2 ^ b % 2) (by omega)]
    have hm : ((M / 2 ^ (8 * i) / 2 ^ b % 2 : Nat) : Int) * 2 ^ b = ((M / 2 ^ (8 * i) / 2 ^ b % 2 * 2 ^ b : Nat) : Int) := by rw [Int.natCast_mul, Int.natCast_pow]; rfl
    have ho := or_nat 64 (M / 2 ^ (8 * i) % 2 ^ b) (M / 2 ^ (8 * i) / 2 ^ b % 2) (2 ^ b) b rfl hlt (by omega)
    rw [hm, wi64' (M / 2 ^ (8 * i) / 2 ^ b % 2 * 2 ^ b) (by omega), ho, wi64' (M / 2 ^ (8 * i) % 2 ^ b + M / 2 ^ (8 * i) / 2 ^ b % 2 * 2 ^ b) (by omega), w64_id (by omega) (by omega)]
    have : M / 2 ^ (8 * i) % 2 ^ b + M / 2 ^ (8 * i) / 2 ^ b % 2 * 2 ^ b = M / 2 ^ (8 * i) % 2 ^ (b + 1) := by
      rw [Nat.mod_pow_succ, Nat.mul_comm (M / 2 ^ (8 * i) / 2 ^ b % 2) (2 ^ b)]
    rw [this]; rfl) (by
    show impl_limbs_bytes.s1 (DL M) (i : Int) ((M / 2 ^ (8 * i) % 2 ^ 8 : Nat) : Int) 8 = _
    rfl)
  have e0 : ((M / 2 ^ (8 * i) % 2 ^ 0 : Nat) : Int) = 0 := by rw [Nat.pow_zero, Nat.mod_one]; rfl
  rw [e0] at this
  exact this
theorem setO (F : Nat → Int) (k : Nat) (hk : k < 16) : (filled ((List.range 16).map F) 0 k).set k (F k) = filled ((List.range 16).map F) 0 (k + 1) := by
  have hg : ((List.range 16).map F).getD k 0 = F k := by rw [getD_lt (by simpa using hk)]; simp
  rw [← hg]; exact filled_set _ _ _ (by simpa using hk) _
theorem bytes_i (M : Nat) (key : ByteArray) (hk : key.size = 32) : impl_limbs_bytes.f (DL M) (key.extract 16 key.size) = some (strOfNums (obL M (bytesOf key))) := by
  have hB := bytesOf_isB key
  have hl := bytesOf_len key
  have hes : (key.extract 16 key.size).size = 16 := by rw [ByteArray.size_extract]; omega
  unfold impl_limbs_bytes.f
  rw [if_pos (by omega)]
  have := loopO_run (step := fun s : List Int × Int × Int => impl_limbs_bytes.s0 (DL M) (key.extract 16 key.size) s.1 s.2.1 s.2.2) (fun i => (filled (obL M (bytesOf key)) 0 i, ((ci M (bytesOf key) i : Nat) : Int), (i : Int))) 16 (r := .out (obL M (bytesOf key))) (fun i hi => by
    have hc := ci_le (M := M) hB i
    have h1 : mb M i < 256 := Nat.mod_lt _ (by decide)
    have h2 := getD_isB hB (16 + i)
    have h3 : kb (bytesOf key) i ≤ 255 := by unfold kb; omega
    have hkb : byteAt (key.extract 16 key.size) (i : Int) = ((kb (bytesOf key) i : Nat) : Int) := by
      rw [byteAt_eq _ _ (by omega) (by omega), Int.toNat_natCast, bytesOf_extract, List.getD_eq_getElem?_getD, List.getElem?_take, if_pos (by omega), List.getElem?_drop, ← List.getD_eq_getElem?_getD]
      unfold kb; omega
    have e1 : w64 (((mb M i : Nat) : Int) + ((kb (bytesOf key) i : Nat) : Int)) = ((mb M i + kb (bytesOf key) i : Nat) : Int) := by rw [w64_id (by omega) (by omega)]; omega
    have e2 : w64 (((ci M (bytesOf key) i : Nat) : Int) + ((mb M i + kb (bytesOf key) i : Nat) : Int)) = ((ci M (bytesOf key) i + (mb M i + kb (bytesOf key) i) : Nat) : Int) := by rw [w64_id (by omega) (by omega)]; omega
    have z : ((((16 : Int)).toNat : Nat) : Int) = 16 := rfl
    simp only [impl_limbs_bytes.s0, z, decide_eq_true (show (i : Int) < 16 by omega), cond_true, own_byte M i hi, Option.bind_some, hes, hkb]
    rw [if_pos (by omega), if_pos (by omega), wi64' _ (by omega), e1, e2, wu8m, shrN, w64_id (x := (i : Int) + 1) (by omega) (by omega), Int.toNat_natCast]
    have e3 : (filled (obL M (bytesOf key)) 0 i).set i (((ci M (bytesOf key) i + (mb M i + kb (bytesOf key) i)) % 256 : Nat) : Int) = filled (obL M (bytesOf key)) 0 (i + 1) := setO (ob M (bytesOf key)) i hi
    rw [e3]; rfl) (by
    have : filled (obL M (bytesOf key)) 0 16 = obL M (bytesOf key) := by have := filled_all (obL M (bytesOf key)) 0; rwa [show (obL M (bytesOf key)).length = 16 by simp [obL]] at this
    rw [this]; rfl)
  have z : filled (obL M (bytesOf key)) 0 0 = List.replicate ((16 : Int)).toNat (0 : Int) := by rw [filled_zero, show (obL M (bytesOf key)).length = 16 by simp [obL]]; rfl
  rw [z] at this
  have this : loopO (fun s : List Int × Int × Int => impl_limbs_bytes.s0 (DL M) (key.extract 16 key.size) s.1 s.2.1 s.2.2) (List.replicate ((16 : Int)).toNat (0 : Int), 0, 0) = _ := this
  rw [this]; rfl
theorem bytes_s (M : Nat) (key : ByteArray) (hk : key.size = 32) : loopO (fun s : List Int × Int × Int => spec_l03Tag.s3 key (DL M) s.1 s.2.1 s.2.2) (([] : List Int), 0, 0) = some (.out (obL M (bytesOf key))) := by
  have hB := bytesOf_isB key
  have hl := bytesOf_len key
  have := loopO_run (step := fun s : List Int × Int × Int => spec_l03Tag.s3 key (DL M) s.1 s.2.1 s.2.2) (fun i => ((List.range i).map (ob M (bytesOf key)), ((ci M (bytesOf key) i : Nat) : Int), (i : Int))) 16 (r := .out (obL M (bytesOf key))) (fun i hi => by
    have hc := ci_le (M := M) hB i
    have h1 : mb M i < 256 := Nat.mod_lt _ (by decide)
    have h2 := getD_isB hB (16 + i)
    have h3 : kb (bytesOf key) i ≤ 255 := by unfold kb; omega
    have hw : w64 (8 * (i : Int)) = w64 ((8 * i : Nat) : Int) := by rw [show (8 : Int) * (i : Int) = ((8 * i : Nat) : Int) by omega]
    obtain ⟨p1, p2⟩ := place (8 * i) (by omega)
    have hj : (8 * i) / 26 < 5 := by omega
    have hr : (8 * i) % 26 < 26 := Nat.mod_lt _ (by decide)
    have hd := dg_lt M ((8 * i) / 26)
    have hd1 := dg_lt M ((8 * i) / 26 + 1)
    have hle : dg M ((8 * i) / 26) / 2 ^ ((8 * i) % 26) ≤ dg M ((8 * i) / 26) := Nat.div_le_self _ _
    have hg : (DL M).getD ((8 * i) / 26) 0 = ((dg M ((8 * i) / 26) : Nat) : Int) := LL_get _ hj
    have h26e : 26 * ((8 * i) / 26) + (8 * i) % 26 = 8 * i := by omega
    have hsel : ∃ u : Nat, (((bif (decide (((8 * i % 26 : Nat) : Int) > 18)) then (if 0 ≤ (w64 (((8 * i / 26 : Nat) : Int) + 1)) ∧ (w64 (((8 * i / 26 : Nat) : Int) + 1)) < (5 : Int) then (if 0 ≤ (w64 (26 - ((8 * i % 26 : Nat) : Int))) then (some (w64 ((Int.fdiv ((dg M (8 * i / 26) : Nat) : Int) (2 ^ min (8 * i % 26) 64)) + (IntKind.wrap .i64 (((DL M).getD (w64 (((8 * i / 26 : Nat) : Int) + 1)).toNat 0) * 2 ^ min (w64 (26 - ((8 * i % 26 : Nat) : Int))).toNat 64))))) else none) else none) else (some (Int.fdiv ((dg M (8 * i / 26) : Nat) : Int) (2 ^ min (8 * i % 26) 64)))) : Option (Int))) = some ((u : Nat) : Int) ∧ u < 9223372036854775808 ∧ u % 256 = mb M i := by
      by_cases c : (8 * i) % 26 > 18
      · have hj1 : 8 * i / 26 + 1 < 5 := by omega
        have w1 : w64 (((8 * i / 26 : Nat) : Int) + 1) = ((8 * i / 26 + 1 : Nat) : Int) := by rw [w64_id (by omega) (by omega)]; omega
        have w2 : w64 (26 - ((8 * i % 26 : Nat) : Int)) = ((26 - 8 * i % 26 : Nat) : Int) := by rw [w64_id (by omega) (by omega)]; omega
        have hg1 : (DL M).getD (8 * i / 26 + 1) 0 = ((dg M (8 * i / 26 + 1) : Nat) : Int) := LL_get _ hj1
        have hp7 : (2 : Nat) ^ (26 - 8 * i % 26) ≤ 2 ^ 7 := Nat.pow_le_pow_right (by decide) (by omega)
        have h7 : (2 : Nat) ^ 7 = 128 := by decide
        have hmul : dg M (8 * i / 26 + 1) * 2 ^ (26 - 8 * i % 26) ≤ 67108864 * 128 := Nat.mul_le_mul (by omega) (by omega)
        have hm : ((dg M (8 * i / 26 + 1) : Nat) : Int) * 2 ^ (26 - 8 * i % 26) = ((dg M (8 * i / 26 + 1) * 2 ^ (26 - 8 * i % 26) : Nat) : Int) := by rw [Int.natCast_mul, Int.natCast_pow]; rfl
        refine ⟨dg M (8 * i / 26) / 2 ^ (8 * i % 26) + dg M (8 * i / 26 + 1) * 2 ^ (26 - 8 * i % 26), ?_, by omega, ?_⟩
        · rw [decide_eq_true (show ((8 * i % 26 : Nat) : Int) > 18 by omega), w1, w2, if_pos (by omega), if_pos (by omega), Int.toNat_natCast, Int.toNat_natCast, hg1, show min (8 * i % 26) 64 = 8 * i % 26 by omega, show min (26 - 8 * i % 26) 64 = 26 - 8 * i % 26 by omega, shrN, hm, wi64' _ (by omega)]
          simp only [cond_true]
          rw [show ((dg M (8 * i / 26) / 2 ^ (8 * i % 26) : Nat) : Int) + ((dg M (8 * i / 26 + 1) * 2 ^ (26 - 8 * i % 26) : Nat) : Int) = ((dg M (8 * i / 26) / 2 ^ (8 * i % 26) + dg M (8 * i / 26 + 1) * 2 ^ (26 - 8 * i % 26) : Nat) : Int) by omega, wi64 _ (by omega)]
        · rw [byte_hi M _ _ c (by omega), h26e]; rfl
      · refine ⟨dg M (8 * i / 26) / 2 ^ (8 * i % 26), ?_, by omega, ?_⟩
        · rw [decide_eq_false (show ¬ ((8 * i % 26 : Nat) : Int) > 18 by omega), show min (8 * i % 26) 64 = 8 * i % 26 by omega, shrN]; rfl
        · rw [byte_lo M _ _ (by omega), h26e]; rfl
    obtain ⟨u, hu, hu1, hu2⟩ := hsel
    have hkw : w64 (16 + (i : Int)) = ((16 + i : Nat) : Int) := by rw [w64_id (by omega) (by omega)]; omega
    have hkb : byteAt key ((16 + i : Nat) : Int) = ((kb (bytesOf key) i : Nat) : Int) := by
      rw [byteAt_eq _ _ (by omega) (by omega), Int.toNat_natCast]
      unfold kb; omega
    have e1 : w64 (((mb M i : Nat) : Int) + ((kb (bytesOf key) i : Nat) : Int)) = ((mb M i + kb (bytesOf key) i : Nat) : Int) := by rw [w64_id (by omega) (by omega)]; omega
    have e2 : w64 (((ci M (bytesOf key) i : Nat) : Int) + ((mb M i + kb (bytesOf key) i : Nat) : Int)) = ((ci M (bytesOf key) i + (mb M i + kb (bytesOf key) i) : Nat) : Int) := by rw [w64_id (by omega) (by omega)]; omega
    simp only [spec_l03Tag.s3, decide_eq_true (show (i : Int) < 16 by omega), cond_true, hw, p1, p2, Int.toNat_natCast, hg]
    rw [if_pos (by omega), if_pos (by omega), hu]
    simp only [Option.bind_some, hkw]
    rw [if_pos (by omega), and8 _ hu1, hu2, hkb, wi64' (kb (bytesOf key) i) (by omega), e1, e2, wu8m, shrN, if_pos (by simp only [List.length_map, List.length_range, List.length_cons, List.length_nil]; omega), w64_id (by omega) (by omega), List.range_succ, List.map_append]
    rfl) rfl
  exact this
/-! The number of bytes, the lowest first. -/
def lv (l : List Int) : Nat → Nat
  | 0 => 0
  | i + 1 => lv l i + (l.getD i 0).toNat * 2 ^ (8 * i)
theorem lv_lt {l : List Int} (h : isB l) : ∀ i, lv l i < 2 ^ (8 * i)
  | 0 => by rw [lv]; decide
  | i + 1 => by
    have ih := lv_lt h i
    have hb := getD_isB h i
    have : (l.getD i 0).toNat * 2 ^ (8 * i) ≤ 255 * 2 ^ (8 * i) := Nat.mul_le_mul_right _ (by omega)
    have e : (2 : Nat) ^ (8 * (i + 1)) = 256 * 2 ^ (8 * i) := by rw [show 8 * (i + 1) = 8 + 8 * i by omega, Nat.pow_add]
    rw [lv, e]; omega
theorem lv_mono (l : List Int) (i : Nat) : ∀ n, lv l i ≤ lv l (i + n)
  | 0 => Nat.le_refl _
  | n + 1 => Nat.le_trans (lv_mono l i n) (by rw [← Nat.add_assoc, lv]; omega)
theorem lv_congr {l m : List Int} : ∀ n, (∀ i, i < n → l.getD i 0 = m.getD i 0) → lv l n = lv m n
  | 0, _ => rfl
  | n + 1, h => by rw [lv, lv, lv_congr n (fun i hi => h i (by omega)), h n (by omega)]
theorem lv_zero {l : List Int} (n : Nat) (h : ∀ i, n ≤ i → l.getD i 0 = 0) : ∀ k, lv l (n + k) = lv l n
  | 0 => rfl
  | k + 1 => by
    rw [← Nat.add_assoc, lv, lv_zero n h k, h (n + k) (by omega)]; simp
theorem pow_at (n : Nat) : (2 : Nat) ^ n = 67108864 ^ (n / 26) * 2 ^ (n % 26) := by
  rw [← pow_split, show 26 * (n / 26) + n % 26 = n by omega]
theorem add_hi (N x j r : Nat) : (N + x * (67108864 ^ j * 2 ^ r)) / 67108864 ^ j = N / 67108864 ^ j + x * 2 ^ r := by
  rw [show x * (67108864 ^ j * 2 ^ r) = 67108864 ^ j * (x * 2 ^ r) by rw [Nat.mul_left_comm], Nat.add_mul_div_left _ _ (Nat.pow_pos (by decide))]
theorem add_lo (N x j0 r j : Nat) (h : j < j0) : dg (N + x * (67108864 ^ j0 * 2 ^ r)) j = dg N j := by
  have e : x * (67108864 ^ j0 * 2 ^ r) = 67108864 ^ j * (67108864 * (67108864 ^ (j0 - j - 1) * (x * 2 ^ r))) := by
    have : (67108864 : Nat) ^ j0 = 67108864 ^ j * (67108864 * 67108864 ^ (j0 - j - 1)) := by
      rw [Nat.mul_comm 67108864, ← Nat.pow_succ, ← Nat.pow_add, show j + (j0 - j - 1).succ = j0 by omega]
    rw [this]
    simp only [Nat.mul_assoc, Nat.mul_left_comm, Nat.mul_comm]
  unfold dg
  rw [e, Nat.add_mul_div_left _ _ (Nat.pow_pos (by decide)), Nat.add_mul_mod_self_left]
theorem dg_above {T j0 j : Nat} (h : T / 67108864 ^ j0 < 67108864) (hj : j0 < j) : dg T j = 0 := by
  unfold dg
  have : T / 67108864 ^ j = T / 67108864 ^ j0 / 67108864 ^ (j - j0) := by rw [Nat.div_div_eq_div_mul, ← Nat.pow_add, show j0 + (j - j0) = j by omega]
  rw [this, Nat.div_eq_of_lt (Nat.lt_of_lt_of_le h (by
    rw [show j - j0 = (j - j0 - 1) + 1 by omega, Nat.pow_succ]; exact Nat.le_mul_of_pos_left _ (Nat.pow_pos (by decide))))]
theorem low_div {N n : Nat} (h : N < 2 ^ n) : N / 67108864 ^ (n / 26) < 2 ^ (n % 26) := by
  rw [Nat.div_lt_iff_lt_mul (Nat.pow_pos (by decide)), Nat.mul_comm, ← pow_at]; exact h
theorem pow_le26 (n : Nat) : (2 : Nat) ^ (n % 26) ≤ 33554432 := by
  have : (2 : Nat) ^ (n % 26) ≤ 2 ^ 25 := Nat.pow_le_pow_right (by decide) (by omega)
  exact this
/-- A bit is set that was not. -/
theorem set_bit {N n : Nat} (h : N < 2 ^ n) (hn : n / 26 < 5) : (DL N).set (n / 26) ((dg N (n / 26) ||| 1 * 2 ^ (n % 26) : Nat) : Int) = DL (N + 2 ^ n) := by
  have hu := low_div h
  have hp := pow_le26 n
  have e : N + 2 ^ n = N + 1 * (67108864 ^ (n / 26) * 2 ^ (n % 26)) := by rw [Nat.one_mul, ← pow_at]
  have hd : dg N (n / 26) = N / 67108864 ^ (n / 26) := Nat.mod_eq_of_lt (by omega)
  have hT : (N + 2 ^ n) / 67108864 ^ (n / 26) = N / 67108864 ^ (n / 26) + 2 ^ (n % 26) := by rw [e, add_hi, Nat.one_mul]
  unfold DL
  rw [LL_set _ hn]
  refine LL_congr fun j hj => ?_
  by_cases c : j = n / 26
  · subst c
    rw [if_pos rfl, hd, nat_or_add _ 1 _ hu, Nat.one_mul]
    show _ = (N + 2 ^ n) / 67108864 ^ (n / 26) % 67108864
    rw [hT, Nat.mod_eq_of_lt (a := N / 67108864 ^ (n / 26) + 2 ^ (n % 26)) (by omega)]
  · rw [if_neg c]
    rcases Nat.lt_or_ge j (n / 26) with c2 | c2
    · rw [e, add_lo _ _ _ _ _ c2]
    · rw [dg_above (T := N) (j0 := n / 26) (by omega) (by omega), dg_above (T := N + 2 ^ n) (j0 := n / 26) (by rw [hT]; omega) (by omega)]
theorem and1b (a : Nat) (ha : a < 256) : IntKind.wrap .u8 ((BitVec.ofInt 8 (a : Int) &&& BitVec.ofInt 8 1).toNat : Int) = ((a % 2 : Nat) : Int) := by
  have h8 : (2 : Nat) ^ 8 = 256 := by decide
  have e : (BitVec.ofInt 8 1).toNat = 2 ^ 1 - 1 := by decide
  have h2 : (2 : Nat) ^ 1 = 2 := by decide
  rw [BitVec.toNat_and, e, BitVec.ofInt_natCast, BitVec.toNat_ofNat, Nat.mod_eq_of_lt (by omega), Nat.and_two_pow_sub_one_eq_mod, h2, wu8m, Nat.mod_eq_of_lt (by omega)]
theorem limb_bits (t : ByteArray) (i : Nat) (hi : i < t.size) (hz : t.size ≤ 17) (hv : lv (bytesOf t) t.size < 1361129467683753853853498429727072845824) : loopO (fun s : List Int × Int => impl_limbsOf.s1 t (i : Int) s.1 s.2) (DL (lv (bytesOf t) i), 0) = some (.out (DL (lv (bytesOf t) (i + 1)))) := by
  have hB := bytesOf_isB t
  obtain ⟨b0, b1⟩ := getD_isB hB i
  obtain ⟨c, hc⟩ := Int.eq_ofNat_of_zero_le b0
  have hc8 : c < 2 ^ 8 := by have : (2 : Nat) ^ 8 = 256 := by decide
                             omega
  have h8 : (2 : Nat) ^ 8 = 256 := by decide
  have hlt := lv_lt hB i
  have hnext : lv (bytesOf t) (i + 1) = lv (bytesOf t) i + c * 2 ^ (8 * i) := by rw [lv, hc]; rfl
  have hmono := lv_mono (bytesOf t) (i + 1) (t.size - (i + 1))
  rw [show i + 1 + (t.size - (i + 1)) = t.size by omega, hnext] at hmono
  have := loopO_run (step := fun s : List Int × Int => impl_limbsOf.s1 t (i : Int) s.1 s.2) (fun b => (DL (lv (bytesOf t) i + c % 2 ^ b * 2 ^ (8 * i)), (b : Int))) 8 (r := .out (DL (lv (bytesOf t) (i + 1)))) (fun b hb => by
    have hw : w64 (8 * (i : Int)) = ((8 * i : Nat) : Int) := by rw [w64_id (by omega) (by omega)]; omega
    have hs : ((8 * i : Nat) : Int) + (b : Int) = ((8 * i + b : Nat) : Int) := by omega
    obtain ⟨p1, p2⟩ := place (8 * i + b) (by omega)
    have hcle : c / 2 ^ b ≤ c := Nat.div_le_self _ _
    have hg : (bytesOf t).getD ((i : Int)).toNat 0 = (c : Int) := by rw [Int.toNat_natCast, hc]
    have hmod : c % 2 ^ (b + 1) = c % 2 ^ b + 2 ^ b * (c / 2 ^ b % 2) := Nat.mod_pow_succ
    have hcm : c % 2 ^ (b + 1) ≤ c := Nat.mod_le _ _
    have hcl : c % 2 ^ b < 2 ^ b := Nat.mod_lt _ (Nat.pow_pos (by decide))
    have hN : lv (bytesOf t) i + c % 2 ^ b * 2 ^ (8 * i) < 2 ^ (8 * i + b) := by
      have : c % 2 ^ b * 2 ^ (8 * i) + 2 ^ (8 * i) ≤ 2 ^ b * 2 ^ (8 * i) := by
        rw [← Nat.succ_mul]; exact Nat.mul_le_mul_right _ hcl
      rw [Nat.pow_add, Nat.mul_comm (2 ^ (8 * i))]; omega
    simp only [impl_limbsOf.s1, decide_eq_true (show (b : Int) < 8 by omega), cond_true, hw, hs, p1, p2, Int.toNat_natCast]
    rw [Int.toNat_natCast] at hg
    rw [if_pos (by omega), hg, show min b 8 = b by omega, shrN, and1b _ (by omega), w64_id (x := (b : Int) + 1) (by omega) (by omega)]
    by_cases q : c / 2 ^ b % 2 = 1
    · rw [q]
      have hT : lv (bytesOf t) i + c % 2 ^ (b + 1) * 2 ^ (8 * i) = (lv (bytesOf t) i + c % 2 ^ b * 2 ^ (8 * i)) + 2 ^ (8 * i + b) := by
        rw [hmod, q, Nat.mul_one, Nat.add_mul, ← Nat.pow_add, Nat.add_comm b]; omega
      have hTle : c % 2 ^ (b + 1) * 2 ^ (8 * i) ≤ c * 2 ^ (8 * i) := Nat.mul_le_mul_right _ hcm
      have hpl : 2 ^ (8 * i + b) < 2 ^ 130 := by
        have : (2 : Nat) ^ 130 = 1361129467683753853853498429727072845824 := by decide
        omega
      have hat : 8 * i + b < 130 := (Nat.pow_lt_pow_iff_right (by decide)).1 hpl
      have hj : (8 * i + b) / 26 < 5 := by omega
      have hgd : (DL (lv (bytesOf t) i + c % 2 ^ b * 2 ^ (8 * i))).getD ((8 * i + b) / 26) 0 = ((dg (lv (bytesOf t) i + c % 2 ^ b * 2 ^ (8 * i)) ((8 * i + b) / 26) : Nat) : Int) := LL_get _ hj
      have hp := pow_le26 (8 * i + b)
      have hd := dg_lt (lv (bytesOf t) i + c % 2 ^ b * 2 ^ (8 * i)) ((8 * i + b) / 26)
      have hu := low_div hN
      have hdq : dg (lv (bytesOf t) i + c % 2 ^ b * 2 ^ (8 * i)) ((8 * i + b) / 26) < 2 ^ ((8 * i + b) % 26) := Nat.lt_of_le_of_lt (Nat.mod_le _ _) hu
      have hm : IntKind.wrap .u64 (1 * 2 ^ ((8 * i + b) % 26)) = ((1 * 2 ^ ((8 * i + b) % 26) : Nat) : Int) := by
        rw [show (1 : Int) * 2 ^ ((8 * i + b) % 26) = ((1 * 2 ^ ((8 * i + b) % 26) : Nat) : Int) by rw [Int.natCast_mul, Int.natCast_pow]; rfl, wu64 _ (by omega)]
      have ho := or_nat 64 (dg (lv (bytesOf t) i + c % 2 ^ b * 2 ^ (8 * i)) ((8 * i + b) / 26)) 1 (2 ^ ((8 * i + b) % 26)) _ rfl hdq (by omega)
      have hb1 : (((1 : Nat) : Int) == 1) = true := rfl
      rw [hb1]
      simp only [cond_true]
      rw [if_pos (by omega), if_pos (by omega), if_pos (by omega), show min ((8 * i + b) % 26) 64 = (8 * i + b) % 26 by omega, hgd, hm, ho, ← nat_or_add _ 1 _ hdq, wu64 _ (by rw [nat_or_add _ 1 _ hdq]; omega), set_bit hN hj, ← hT]
      rfl
    · have q0 : c / 2 ^ b % 2 = 0 := by have := Nat.mod_lt (c / 2 ^ b) (show 0 < 2 by decide); omega
      rw [q0]
      rw [hmod, q0, Nat.mul_zero, Nat.add_zero]
      rfl) (by
    rw [Nat.mod_eq_of_lt hc8, ← hnext]; rfl)
  have e0 : lv (bytesOf t) i + c % 2 ^ 0 * 2 ^ (8 * i) = lv (bytesOf t) i := by rw [Nat.pow_zero, Nat.mod_one, Nat.zero_mul, Nat.add_zero]
  rw [e0] at this
  exact this
theorem limbs_i (t : ByteArray) (hz : t.size ≤ 17) (hv : lv (bytesOf t) t.size < 1361129467683753853853498429727072845824) : impl_limbsOf.f t = some (DL (lv (bytesOf t) t.size)) := by
  have hl := bytesOf_len t
  unfold impl_limbsOf.f
  rw [if_pos (by omega)]
  have := loopO_run (step := fun s : List Int × Int => impl_limbsOf.s0 t s.1 s.2) (fun i => (DL (lv (bytesOf t) i), (i : Int))) t.size (r := .out (DL (lv (bytesOf t) t.size))) (fun i hi => by
    simp only [impl_limbsOf.s0, decide_eq_true (show (i : Int) < ((bytesOf t).length : Int) by omega), cond_true]
    rw [if_pos (by omega), limb_bits t i hi hz hv]
    simp only [Option.bind_some]
    rw [w64_id (by omega) (by omega)]; rfl) (by
    simp only [impl_limbsOf.s0]
    rw [decide_eq_false (by omega)]; rfl)
  have z : DL (lv (bytesOf t) 0) = List.replicate 5 (0 : Int) := by show DL 0 = _; decide
  rw [z] at this
  have this : loopO (fun s : List Int × Int => impl_limbsOf.s0 t s.1 s.2) (List.replicate 5 (0 : Int), 0) = _ := this
  rw [this]; rfl
/-- A byte is added above all others. -/
theorem set_byte {N n b : Nat} (h : N < 2 ^ n) (hb : b < 256) (hn : n / 26 < 5) : b * 2 ^ (n % 26) % 67108864 + N / 67108864 ^ (n / 26) < 67108864 ∧ dg (N + b * 2 ^ n) (n / 26) = N / 67108864 ^ (n / 26) + b * 2 ^ (n % 26) % 67108864 ∧ (N + b * 2 ^ n) / 67108864 ^ (n / 26) / 67108864 = b / 2 ^ (26 - n % 26) ∧ (∀ j, j < n / 26 → dg (N + b * 2 ^ n) j = dg N j) := by
  have hu := low_div h
  have hp := pow_le26 n
  have e : N + b * 2 ^ n = N + b * (67108864 ^ (n / 26) * 2 ^ (n % 26)) := by rw [← pow_at]
  have hT : (N + b * 2 ^ n) / 67108864 ^ (n / 26) = N / 67108864 ^ (n / 26) + b * 2 ^ (n % 26) := by rw [e, add_hi]
  have h2 := two26 (n % 26) (by omega)
  have hs : b * 2 ^ (n % 26) % 67108864 = 2 ^ (n % 26) * (b % 2 ^ (26 - n % 26)) := by
    rw [Nat.mul_comm b, h2, Nat.mul_mod_mul_left]
  have hq : b * 2 ^ (n % 26) / 67108864 = b / 2 ^ (26 - n % 26) := by
    rw [Nat.mul_comm b, h2, Nat.mul_div_mul_left _ _ (Nat.pow_pos (by decide))]
  have hbm : b % 2 ^ (26 - n % 26) < 2 ^ (26 - n % 26) := Nat.mod_lt _ (Nat.pow_pos (by decide))
  have hmul : 2 ^ (n % 26) * (b % 2 ^ (26 - n % 26)) + 2 ^ (n % 26) ≤ 2 ^ (n % 26) * 2 ^ (26 - n % 26) := by
    rw [← Nat.mul_succ]; exact Nat.mul_le_mul_left _ hbm
  rw [← h2, ← hs] at hmul
  have hlt : b * 2 ^ (n % 26) % 67108864 + N / 67108864 ^ (n / 26) < 67108864 := by omega
  have lin : ∀ u w : Nat, w % 67108864 + u < 67108864 → (u + w) % 67108864 = u + w % 67108864 ∧ (u + w) / 67108864 = w / 67108864 := fun u w h => by omega
  obtain ⟨l1, l2⟩ := lin _ _ hlt
  refine ⟨hlt, ?_, ?_, fun j hj => by rw [e, add_lo _ _ _ _ _ hj]⟩
  · show (N + b * 2 ^ n) / 67108864 ^ (n / 26) % 67108864 = _
    rw [hT]; exact l1
  · rw [hT, l2]; exact hq
theorem parts_step (t : ByteArray) (hz : t.size = 17) (hv : lv (bytesOf t) 17 < 1361129467683753853853498429727072845824) (i : Nat) (hi : i < 17) : spec_l03Parts.s0 t (DL (lv (bytesOf t) i)) (i : Int) = some (.inl (DL (lv (bytesOf t) (i + 1)), ((i + 1 : Nat) : Int))) := by
  have hB := bytesOf_isB t
  obtain ⟨b0, b1⟩ := getD_isB hB i
  obtain ⟨b, hb⟩ := Int.eq_ofNat_of_zero_le b0
  have hb8 : b < 256 := by omega
  have hlt := lv_lt hB i
  have hnext : lv (bytesOf t) (i + 1) = lv (bytesOf t) i + b * 2 ^ (8 * i) := by rw [lv, hb]; rfl
  have hmono := lv_mono (bytesOf t) (i + 1) (17 - (i + 1))
  rw [show i + 1 + (17 - (i + 1)) = 17 by omega] at hmono
  have hw : w64 (8 * (i : Int)) = w64 ((8 * i : Nat) : Int) := by rw [show (8 : Int) * (i : Int) = ((8 * i : Nat) : Int) by omega]
  obtain ⟨p1, p2⟩ := place (8 * i) (by omega)
  have hj : 8 * i / 26 < 5 := by omega
  obtain ⟨q1, q2, q3, q4⟩ := set_byte hlt hb8 hj
  rw [← hnext] at q2 q3 q4
  have hu := low_div hlt
  have hp := pow_le26 (8 * i)
  have hdN : dg (lv (bytesOf t) i) (8 * i / 26) = lv (bytesOf t) i / 67108864 ^ (8 * i / 26) := Nat.mod_eq_of_lt (by omega)
  have hbyte : byteAt t (i : Int) = (b : Int) := by rw [byteAt_eq t _ (by omega) (by omega), Int.toNat_natCast, hb]
  have hm : IntKind.wrap .i64 ((b : Int) * 2 ^ (8 * i % 26)) = ((b * 2 ^ (8 * i % 26) : Nat) : Int) := by
    have : b * 2 ^ (8 * i % 26) ≤ 256 * 33554432 := Nat.mul_le_mul (by omega) hp
    rw [show (b : Int) * 2 ^ (8 * i % 26) = ((b * 2 ^ (8 * i % 26) : Nat) : Int) by rw [Int.natCast_mul, Int.natCast_pow]; rfl, wi64' _ (by omega)]
  have hmle : b * 2 ^ (8 * i % 26) ≤ 256 * 33554432 := Nat.mul_le_mul (by omega) hp
  have hg : (DL (lv (bytesOf t) i)).getD (8 * i / 26) 0 = ((dg (lv (bytesOf t) i) (8 * i / 26) : Nat) : Int) := LL_get _ hj
  have e1 : w64 (((dg (lv (bytesOf t) i) (8 * i / 26) : Nat) : Int) + ((b * 2 ^ (8 * i % 26) % 67108864 : Nat) : Int)) = ((dg (lv (bytesOf t) (i + 1)) (8 * i / 26) : Nat) : Int) := by
    rw [q2, hdN, w64_id (by omega) (by omega)]; omega
  have hset : (DL (lv (bytesOf t) i)).set (8 * i / 26) ((dg (lv (bytesOf t) (i + 1)) (8 * i / 26) : Nat) : Int) = LL (fun j => if j = 8 * i / 26 then dg (lv (bytesOf t) (i + 1)) (8 * i / 26) else dg (lv (bytesOf t) i) j) := LL_set _ hj _
  -- what lies above
  have habove : ∀ j, 8 * i / 26 < j → j < 5 → dg (lv (bytesOf t) (i + 1)) j = if j = 8 * i / 26 + 1 then b / 2 ^ (26 - 8 * i % 26) else 0 := fun j h1 h2 => by
    have hble : b / 2 ^ (26 - 8 * i % 26) ≤ b := Nat.div_le_self _ _
    have hd : lv (bytesOf t) (i + 1) / 67108864 ^ (8 * i / 26 + 1) = b / 2 ^ (26 - 8 * i % 26) := by rw [dq, q3]
    by_cases c : j = 8 * i / 26 + 1
    · rw [if_pos c, c]
      unfold dg
      rw [hd, Nat.mod_eq_of_lt (by omega)]
    · rw [if_neg c]
      exact dg_above (j0 := 8 * i / 26 + 1) (by rw [hd]; omega) (by omega)
  have hzero : ∀ j, 8 * i / 26 < j → dg (lv (bytesOf t) i) j = 0 := fun j h1 => dg_above (j0 := 8 * i / 26) (by omega) h1
  unfold spec_l03Parts.s0
  rw [decide_eq_true (show (i : Int) < 17 by omega), hw, p1, p2]
  simp only [Int.toNat_natCast, cond_true]
  rw [if_pos (by omega), if_pos (by omega), if_pos (by omega), if_pos (by omega), hbyte, wi64' b (by omega), show min (8 * i % 26) 64 = 8 * i % 26 by omega, hm, and26i _ (by omega), hg, e1, hset]
  by_cases c : 8 * i % 26 > 18 ∧ 8 * i / 26 < 4
  · have w1 : w64 (((8 * i / 26 : Nat) : Int) + 1) = ((8 * i / 26 + 1 : Nat) : Int) := by rw [w64_id (by omega) (by omega)]; omega
    have w2 : w64 (26 - ((8 * i % 26 : Nat) : Int)) = ((26 - 8 * i % 26 : Nat) : Int) := by rw [w64_id (by omega) (by omega)]; omega
    have hj1 : 8 * i / 26 + 1 < 5 := by omega
    have hble : b / 2 ^ (26 - 8 * i % 26) ≤ b := Nat.div_le_self _ _
    rw [decide_eq_true (show ((8 * i % 26 : Nat) : Int) > 18 by omega), decide_eq_true (show ((8 * i / 26 : Nat) : Int) < 4 by omega)]
    simp only [cond_true, Option.bind_some, w1, w2, Int.toNat_natCast]
    rw [if_pos (by omega), if_pos (by omega), if_pos (by omega), LL_get _ hj1, if_neg (show ¬ 8 * i / 26 + 1 = 8 * i / 26 by omega), hzero _ (by omega), show min (26 - 8 * i % 26) 64 = 26 - 8 * i % 26 by omega, shrN]
    have e3 : w64 (((0 : Nat) : Int) + ((b / 2 ^ (26 - 8 * i % 26) : Nat) : Int)) = ((b / 2 ^ (26 - 8 * i % 26) : Nat) : Int) := by
      have : ∀ q : Nat, q ≤ 255 → w64 (((0 : Nat) : Int) + (q : Int)) = (q : Int) := fun q hq => by rw [w64_id (by omega) (by omega)]; omega
      exact this _ (Nat.le_trans hble (by omega))
    rw [e3, LL_set _ hj1, w64_id (x := (i : Int) + 1) (by omega) (by omega)]
    simp only [Option.bind_some]
    have e2 : LL (fun j => if j = 8 * i / 26 + 1 then b / 2 ^ (26 - 8 * i % 26) else if j = 8 * i / 26 then dg (lv (bytesOf t) (i + 1)) (8 * i / 26) else dg (lv (bytesOf t) i) j) = DL (lv (bytesOf t) (i + 1)) := LL_congr fun j hj5 => by
      by_cases d1 : j = 8 * i / 26 + 1
      · rw [if_pos d1, habove j (by omega) hj5, if_pos d1]
      · rw [if_neg d1]
        by_cases d2 : j = 8 * i / 26
        · rw [if_pos d2, d2]
        · rw [if_neg d2]
          rcases Nat.lt_or_ge j (8 * i / 26) with d3 | d3
          · rw [q4 j d3]
          · rw [habove j (by omega) hj5, if_neg d1, hzero j (by omega)]
    rw [e2]; rfl
  · have hcond : ((bif (decide (((8 * i % 26 : Nat) : Int) > 18)) then (some (decide (((8 * i / 26 : Nat) : Int) < 4))) else (some false)) : Option Bool) = some false := by
      by_cases d : 8 * i % 26 > 18
      · rw [decide_eq_true (show ((8 * i % 26 : Nat) : Int) > 18 by omega), decide_eq_false (show ¬ ((8 * i / 26 : Nat) : Int) < 4 by omega)]; rfl
      · rw [decide_eq_false (show ¬ ((8 * i % 26 : Nat) : Int) > 18 by omega)]; rfl
    rw [hcond]
    simp only [Option.bind_some, cond_false]
    rw [w64_id (by omega) (by omega)]
    have hq0 : 8 * i / 26 < 4 → b / 2 ^ (26 - 8 * i % 26) = 0 := fun d => Nat.div_eq_of_lt (Nat.lt_of_lt_of_le hb8 (by
      have : (2 : Nat) ^ 8 ≤ 2 ^ (26 - 8 * i % 26) := Nat.pow_le_pow_right (by decide) (by omega)
      exact this))
    have e2 : LL (fun j => if j = 8 * i / 26 then dg (lv (bytesOf t) (i + 1)) (8 * i / 26) else dg (lv (bytesOf t) i) j) = DL (lv (bytesOf t) (i + 1)) := LL_congr fun j hj5 => by
      by_cases d2 : j = 8 * i / 26
      · rw [if_pos d2, d2]
      · rw [if_neg d2]
        rcases Nat.lt_or_ge j (8 * i / 26) with d3 | d3
        · rw [q4 j d3]
        · rw [habove j (by omega) hj5, hzero j (by omega)]
          by_cases d1 : j = 8 * i / 26 + 1
          · rw [if_pos d1, hq0 (by omega)]
          · rw [if_neg d1]
    rw [e2]; rfl
theorem parts_s (t : ByteArray) (hz : t.size = 17) (hv : lv (bytesOf t) 17 < 1361129467683753853853498429727072845824) : spec_l03Parts.f t = some (DL (lv (bytesOf t) 17)) := by
  unfold spec_l03Parts.f
  have := loopO_run (step := fun s : List Int × Int => spec_l03Parts.s0 t s.1 s.2) (fun i => (DL (lv (bytesOf t) i), (i : Int))) 17 (r := .out (DL (lv (bytesOf t) 17))) (fun i hi => parts_step t hz hv i hi) rfl
  have z : DL (lv (bytesOf t) 0) = List.replicate 5 (0 : Int) := by show DL 0 = _; decide
  rw [z] at this
  have this : loopO (fun s : List Int × Int => spec_l03Parts.s0 t s.1 s.2) (List.replicate 5 (0 : Int), 0) = _ := this
  rw [this]; rfl
/-! The key. -/
theorem clamp_eq : @impl_clamped.f = @spec_l03Clamp.f := rfl
theorem clamp_ok (key : ByteArray) (hk : key.size = 32) : ∃ r, impl_clamped.f key = some r ∧ r.size = 16 := by
  have hl := bytesOf_len key
  have he : (key.extract 0 (16 : Int).toNat).size = 16 := by rw [ByteArray.size_extract]; show min 16 _ - 0 = 16; omega
  have hbl : (bytesOf (key.extract 0 (16 : Int).toNat)).length = 16 := by rw [bytesOf_len, he]
  unfold impl_clamped.f
  rw [if_pos (by omega), if_pos (by omega)]
  obtain ⟨r, h1, u, rfl, h2⟩ := loopO_wf (step := fun s : List Int × Int => impl_clamped.s0 key s.1 s.2)
    (fun s => s.1.length = 16 ∧ 0 ≤ s.2 ∧ s.2 ≤ 20) (fun r => ∃ u, r = .out u ∧ u.length = 16) (fun s => (20 - s.2).toNat) (fun s hI => by
      obtain ⟨u, i⟩ := s
      obtain ⟨a1, a2, a3⟩ := hI
      simp only at a1 a2 a3
      by_cases c : i < 16
      · simp only [impl_clamped.s0, decide_eq_true c, cond_true]
        rw [if_pos (by omega), if_pos (by omega), w64_id (by omega) (by omega)]
        exact .inl ⟨_, rfl, ⟨by simp [a1], by simp only; omega, by simp only; omega⟩, by simp only; omega⟩
      · simp only [impl_clamped.s0, decide_eq_false c, cond_false]
        exact .inr ⟨_, rfl, u, rfl, a1⟩) _ (bytesOf (key.extract 0 (16 : Int).toNat), 3) (Nat.le_refl _) ⟨hbl, by show (0 : Int) ≤ 3; decide, by show (3 : Int) ≤ 20; decide⟩
  rw [h1]
  simp only [Option.bind_some]
  obtain ⟨r, h3, v, rfl, h4⟩ := loopO_wf (step := fun s : List Int × Int => impl_clamped.s1 key s.1 s.2)
    (fun s => s.1.length = 16 ∧ 0 ≤ s.2 ∧ s.2 ≤ 20) (fun r => ∃ u, r = .out u ∧ u.length = 16) (fun s => (20 - s.2).toNat) (fun s hI => by
      obtain ⟨u, i⟩ := s
      obtain ⟨a1, a2, a3⟩ := hI
      simp only at a1 a2 a3
      by_cases c : i < 16
      · simp only [impl_clamped.s1, decide_eq_true c, cond_true]
        rw [if_pos (by omega), if_pos (by omega), w64_id (by omega) (by omega)]
        exact .inl ⟨_, rfl, ⟨by simp [a1], by simp only; omega, by simp only; omega⟩, by simp only; omega⟩
      · simp only [impl_clamped.s1, decide_eq_false c, cond_false]
        exact .inr ⟨_, rfl, u, rfl, a1⟩) _ (u, 4) (Nat.le_refl _) ⟨h2, by show (0 : Int) ≤ 4; decide, by show (4 : Int) ≤ 20; decide⟩
  rw [h3]
  exact ⟨_, rfl, by rw [strOfNums_size]; exact h4⟩
/-! The tag. -/
/-- The number of block j of a text. -/
def blkN (t : List Int) (j : Nat) : Nat := lv ((t.drop (16 * j)).take 16 ++ [1]) ((t.drop (16 * j)).take 16 ++ [1]).length
theorem blkN_lt {t : List Int} (h : isB t) (j : Nat) : blkN t j < 1361129467683753853853498429727072845824 := by
  have hB : isB ((t.drop (16 * j)).take 16 ++ [1]) := fun b hb => by
    rcases List.mem_append.1 hb with hb | hb
    · exact h b (List.mem_of_mem_drop (List.mem_of_mem_take hb))
    · simp at hb; omega
  have hn : ((t.drop (16 * j)).take 16).length ≤ 16 := by rw [List.length_take]; omega
  unfold blkN
  rw [List.length_append, List.length_cons, List.length_nil]
  generalize hm : ((t.drop (16 * j)).take 16).length = m at hn
  have h1 := lv_lt hB m
  have hg : ((t.drop (16 * j)).take 16 ++ [1]).getD m 0 = 1 := by
    rw [List.getD_eq_getElem?_getD, List.getElem?_append_right (by omega), hm]; simp
  show lv _ (m + 1) < _
  rw [lv, hg]
  have h2 : (2 : Nat) ^ (8 * m) ≤ 2 ^ 128 := Nat.pow_le_pow_right (by decide) (by omega)
  have h3 : (2 : Nat) ^ 128 = 340282366920938463463374607431768211456 := by decide
  have h4 : (1 : Int).toNat = 1 := rfl
  rw [h4]; omega
def pI (R : Nat) (t : List Int) : Nat → Nat
  | 0 => 0
  | j + 1 => gg (gg (val (tG (dg (gg (gg (val (dg (pI R t j)) + val (dg (blkN t j)))))) (dg R) 5)))
def pS (R : Nat) (t : List Int) : Nat → Nat
  | 0 => 0
  | j + 1 => gg (gg (val (tG (fun i => dg (pS R t j) i + dg (blkN t j) i) (dg R) 5)))
theorem dg_28 (N j : Nat) : dg N j < 268435456 := Nat.lt_trans (dg_lt N j) (by decide)
theorem dg2_28 (N M j : Nat) : dg N j + dg M j < 268435456 := by have := dg_lt N j; have := dg_lt M j; omega
theorem pI_lt (R : Nat) (t : List Int) : ∀ j, pI R t j < 1361129467683753853853498429727072845824
  | 0 => by rw [pI]; decide
  | j + 1 => by
    rw [pI]
    exact gg_small (val_lt fun i => by have := tG_le (dg_28 (gg (gg (val (dg (pI R t j)) + val (dg (blkN t j)))))) (dg_lt R) 5 i; omega)
theorem pS_lt (R : Nat) (t : List Int) : ∀ j, pS R t j < 1361129467683753853853498429727072845824
  | 0 => by rw [pS]; decide
  | j + 1 => by
    rw [pS]
    exact gg_small (val_lt fun i => by have := tG_le (x := fun i => dg (pS R t j) i + dg (blkN t j) i) (fun i => dg2_28 _ _ i) (dg_lt R) 5 i; omega)
theorem gg2_mod (v : Nat) : gg (gg v) % 1361129467683753853853498429727072845819 = v % 1361129467683753853853498429727072845819 := by rw [gg_mod, gg_mod]
theorem n_same (R : Nat) (t : List Int) (h : isB t) : ∀ j, pI R t j % 1361129467683753853853498429727072845819 = pS R t j % 1361129467683753853853498429727072845819
  | 0 => rfl
  | j + 1 => by
    have ih := n_same R t h j
    have hb := blkN_lt h j
    have hs : gg (gg (val (dg (pI R t j)) + val (dg (blkN t j)))) < 1361129467683753853853498429727072845824 := by
      have h1 := dg_val (pI R t j)
      have h2 := dg_val (blkN t j)
      exact gg_small (by omega)
    have hv : val (fun i => dg (pS R t j) i + dg (blkN t j) i) = val (dg (pS R t j)) + val (dg (blkN t j)) := by
      show dg (pS R t j) 0 + dg (blkN t j) 0 + 67108864 * (dg (pS R t j) 1 + dg (blkN t j) 1 + 67108864 * (dg (pS R t j) 2 + dg (blkN t j) 2 + 67108864 * (dg (pS R t j) 3 + dg (blkN t j) 3 + 67108864 * (dg (pS R t j) 4 + dg (blkN t j) 4)))) = _
      unfold val; omega
    rw [pI, pS, gg2_mod, gg2_mod, val_times, val_times, hv, dg_val (gg (gg _)), Nat.mod_eq_of_lt hs, dg_val (pI R t j), dg_val (pS R t j), Nat.mod_eq_of_lt (pI_lt R t j), Nat.mod_eq_of_lt (pS_lt R t j), Nat.mul_mod, gg2_mod, Nat.add_mod, ih, ← Nat.add_mod, ← Nat.mul_mod]
theorem str1 (a : ByteArray) : bytesOf (a ++ (⟨#[1]⟩ : ByteArray)) = bytesOf a ++ [1] := by rw [bytesOf_append]; rfl
theorem chunk_bytes (t : ByteArray) (j m : Nat) (hm : m = min t.size (16 * j + 16)) (hj : 16 * j < t.size) : bytesOf (t.extract (16 * j) m) = ((bytesOf t).drop (16 * j)).take 16 := by
  have hl := bytesOf_len t
  rw [bytesOf_extract, hm]
  rcases Nat.le_total t.size (16 * j + 16) with h | h
  · rw [Nat.min_eq_left h, List.take_of_length_le (by rw [List.length_drop]; omega), List.take_of_length_le (by rw [List.length_drop]; omega)]
  · rw [Nat.min_eq_right h, show 16 * j + 16 - 16 * j = 16 by omega]
theorem blkN_eq (t : ByteArray) (j m : Nat) (hm : m = min t.size (16 * j + 16)) (hj : 16 * j < t.size) : (t.extract (16 * j) m ++ (⟨#[1]⟩ : ByteArray)).size ≤ 17 ∧ lv (bytesOf (t.extract (16 * j) m ++ (⟨#[1]⟩ : ByteArray))) (t.extract (16 * j) m ++ (⟨#[1]⟩ : ByteArray)).size = blkN (bytesOf t) j := by
  have hs : (t.extract (16 * j) m ++ (⟨#[1]⟩ : ByteArray)).size = (bytesOf (t.extract (16 * j) m ++ (⟨#[1]⟩ : ByteArray))).length := (bytesOf_len _).symm
  have h1 : (⟨#[1]⟩ : ByteArray).size = 1 := rfl
  refine ⟨by rw [ByteArray.size_append, ByteArray.size_extract, h1]; omega, ?_⟩
  rw [hs, str1, chunk_bytes t j m hm hj]; rfl
theorem keyR (key : ByteArray) (hk : key.size = 32) : ∃ (y : ByteArray) (R : Nat), impl_clamped.f key = some y ∧ spec_l03Clamp.f key = some y ∧ y.size = 16 ∧ R < 1361129467683753853853498429727072845824 ∧ impl_limbsOf.f y = some (DL R) ∧ spec_l03Parts.f (y ++ (⟨#[0]⟩ : ByteArray)) = some (DL R) := by
  obtain ⟨y, e, hy⟩ := clamp_ok key hk
  have hlt := lv_lt (bytesOf_isB y) 16
  have h128 : (2 : Nat) ^ (8 * 16) = 340282366920938463463374607431768211456 := by decide
  have hl := bytesOf_len y
  refine ⟨y, lv (bytesOf y) 16, e, by rw [← clamp_eq]; exact e, hy, by omega, ?_, ?_⟩
  · have := limbs_i y (by omega) (by rw [hy]; omega)
    rw [hy] at this; exact this
  · have h0 : bytesOf (y ++ (⟨#[0]⟩ : ByteArray)) = bytesOf y ++ [0] := by rw [bytesOf_append]; rfl
    have hv : lv (bytesOf (y ++ (⟨#[0]⟩ : ByteArray))) 17 = lv (bytesOf y) 16 := by
      rw [h0]
      show lv (bytesOf y ++ [0]) (16 + 1) = _
      have hg : (bytesOf y ++ [0]).getD 16 0 = 0 := by
        rw [List.getD_eq_getElem?_getD, List.getElem?_append_right (by omega), hl, hy]; rfl
      rw [lv, hg, show ((0 : Int)).toNat = 0 from rfl, Nat.zero_mul, Nat.add_zero]
      exact lv_congr 16 fun i hi => by rw [List.getD_eq_getElem?_getD, List.getD_eq_getElem?_getD, List.getElem?_append_left (by omega)]
    have h1 : (⟨#[0]⟩ : ByteArray).size = 1 := rfl
    have := parts_s (y ++ (⟨#[0]⟩ : ByteArray)) (by rw [ByteArray.size_append]; omega) (by rw [hv]; omega)
    rw [hv] at this; exact this
theorem tag_i (key t : ByteArray) (hk : key.size = 32) (ht : t.size ≤ 1048576) (R : Nat) (y : ByteArray) (e1 : impl_clamped.f key = some y) (e2 : impl_limbsOf.f y = some (DL R)) : impl_tag.f key t = some (strOfNums (obL (pI R (bytesOf t) ((t.size + 15) / 16) % 1361129467683753853853498429727072845819) (bytesOf key))) := by
  have hB := bytesOf_isB t
  unfold impl_tag.f
  rw [e1, Option.bind_some, e2, Option.bind_some]
  have := loopO_run (step := fun s : List Int × Int => impl_tag.s0 t (DL R) s.1 s.2) (fun j => (DL (pI R (bytesOf t) j), ((16 * j : Nat) : Int))) ((t.size + 15) / 16) (r := .out (DL (pI R (bytesOf t) ((t.size + 15) / 16)))) (fun j hj => by
    have h16 : 16 * j < t.size := by omega
    have w1 : w64 (((16 * j : Nat) : Int) + 16) = ((16 * (j + 1) : Nat) : Int) := by rw [w64_id (by omega) (by omega)]; omega
    have w2 : (if (t.size : Int) < ((16 * (j + 1) : Nat) : Int) then (t.size : Int) else ((16 * (j + 1) : Nat) : Int)) = ((min t.size (16 * j + 16) : Nat) : Int) := by split <;> omega
    obtain ⟨s1, s2⟩ := blkN_eq t j _ rfl h16
    have hb := blkN_lt hB j
    have hl := limbs_i _ s1 (by rw [s2]; exact hb)
    rw [s2] at hl
    have h1 : (⟨#[1]⟩ : ByteArray).size = 1 := rfl
    simp only [impl_tag.s0, decide_eq_true (show ((16 * j : Nat) : Int) < (t.size : Int) by omega), cond_true, w1, w2, Int.toNat_natCast]
    rw [if_pos (by omega), if_pos (by rw [ByteArray.size_extract]; omega), hl, Option.bind_some]
    have hp : impl_limbs_plus.f (DL (pI R (bytesOf t) j)) (DL (blkN (bytesOf t) j)) = some (DL (gg (gg (val (dg (pI R (bytesOf t) j)) + val (dg (blkN (bytesOf t) j)))))) := plus_i (dg_lt _) (dg_lt _)
    rw [hp, Option.bind_some]
    have hm : impl_limbs_times.f (DL (gg (gg (val (dg (pI R (bytesOf t) j)) + val (dg (blkN (bytesOf t) j)))))) (DL R) = some (DL (pI R (bytesOf t) (j + 1))) := times_i (dg_28 _) (dg_lt _)
    rw [hm, Option.bind_some]) (by
    simp only [impl_tag.s0]
    rw [decide_eq_false (by omega)]; rfl)
  have z : DL (pI R (bytesOf t) 0) = List.replicate 5 (0 : Int) := by show DL 0 = _; decide
  rw [z] at this
  have this : loopO (fun s : List Int × Int => impl_tag.s0 t (DL R) s.1 s.2) (List.replicate 5 (0 : Int), 0) = _ := this
  rw [this]
  simp only [Option.bind_some]
  rw [if_pos (by omega), reduced_i _ (pI_lt R _ _), Option.bind_some]
  have h16 : (16 : Int).toNat = 16 := rfl
  rw [h16, bytes_i _ key hk]; rfl
theorem pad17 (a : ByteArray) (ha : a.size ≤ 17) : loopO (fun s => spec_l03Tag.s1 s) a = some (.out (strOfNums (bytesOf a ++ List.replicate (17 - a.size) 0))) := by
  have hB := bytesOf_isB a
  have hl := bytesOf_len a
  have h0 : (⟨#[0]⟩ : ByteArray) = strOfNums [0] := rfl
  have h1 : (⟨#[0]⟩ : ByteArray).size = 1 := rfl
  have := loopO_run (step := fun s => spec_l03Tag.s1 s) (fun k => strOfNums (bytesOf a ++ List.replicate k 0)) (17 - a.size) (r := .out (strOfNums (bytesOf a ++ List.replicate (17 - a.size) 0))) (fun k hk => by
    have hs : (strOfNums (bytesOf a ++ List.replicate k 0)).size = a.size + k := by rw [strOfNums_size, List.length_append, List.length_replicate, hl]
    simp only [spec_l03Tag.s1, hs]
    rw [decide_eq_true (show ((a.size + k : Nat) : Int) < 17 by omega), if_pos (by omega), h0, ← str_append, List.append_assoc, ← List.replicate_succ']
    rfl) (by
    have hs : (strOfNums (bytesOf a ++ List.replicate (17 - a.size) 0)).size = 17 := by rw [strOfNums_size, List.length_append, List.length_replicate, hl]; omega
    simp only [spec_l03Tag.s1, hs]; rfl)
  have e0 : strOfNums (bytesOf a ++ List.replicate 0 0) = a := by
    apply ba_ext; rw [List.replicate_zero, List.append_nil, bytes_str hB]
  rw [e0] at this
  exact this
theorem tag_s (key t : ByteArray) (hk : key.size = 32) (ht : t.size ≤ 1048576) (R : Nat) (y : ByteArray) (hy : y.size = 16) (e1 : spec_l03Clamp.f key = some y) (e2 : spec_l03Parts.f (y ++ (⟨#[0]⟩ : ByteArray)) = some (DL R)) : spec_l03Tag.f key t = some (strOfNums (obL (pS R (bytesOf t) ((t.size + 15) / 16) % 1361129467683753853853498429727072845819) (bytesOf key))) := by
  have hB := bytesOf_isB t
  have h1z : (⟨#[0]⟩ : ByteArray).size = 1 := rfl
  unfold spec_l03Tag.f
  rw [e1, Option.bind_some, if_pos (by omega), e2, Option.bind_some]
  have := loopO_run (step := fun s : List Int × Int => spec_l03Tag.s0 t (DL R) s.1 s.2) (fun j => (DL (pS R (bytesOf t) j), ((16 * j : Nat) : Int))) ((t.size + 15) / 16) (r := .out (DL (pS R (bytesOf t) ((t.size + 15) / 16)))) (fun j hj => by
    have h16 : 16 * j < t.size := by omega
    have w1 : w64 (((16 * j : Nat) : Int) + 16) = ((16 * (j + 1) : Nat) : Int) := by rw [w64_id (by omega) (by omega)]; omega
    have w2 : (if ((16 * (j + 1) : Nat) : Int) < (t.size : Int) then ((16 * (j + 1) : Nat) : Int) else (t.size : Int)) = ((min t.size (16 * j + 16) : Nat) : Int) := by split <;> omega
    obtain ⟨s1, s2⟩ := blkN_eq t j _ rfl h16
    have hb := blkN_lt hB j
    have h1 : (⟨#[1]⟩ : ByteArray).size = 1 := rfl
    obtain ⟨a, ha⟩ : ∃ a, a = t.extract (16 * j) (min t.size (16 * j + 16)) ++ (⟨#[1]⟩ : ByteArray) := ⟨_, rfl⟩
    have hex : (t.extract (16 * j) (min t.size (16 * j + 16))).size ≤ 16 := by rw [ByteArray.size_extract]; omega
    rw [← ha] at s1 s2
    have haB := bytesOf_isB a
    have hal := bytesOf_len a
    have hpB : isB (bytesOf a ++ List.replicate (17 - a.size) 0) := fun b hb => by
      rcases List.mem_append.1 hb with hb | hb
      · exact haB b hb
      · rw [List.eq_of_mem_replicate hb]; omega
    have hps : (strOfNums (bytesOf a ++ List.replicate (17 - a.size) 0)).size = 17 := by rw [strOfNums_size, List.length_append, List.length_replicate, hal]; omega
    have hpv : lv (bytesOf (strOfNums (bytesOf a ++ List.replicate (17 - a.size) 0))) 17 = blkN (bytesOf t) j := by
      rw [bytes_str hpB, ← s2]
      have hz : lv (bytesOf a ++ List.replicate (17 - a.size) 0) (a.size + (17 - a.size)) = lv (bytesOf a ++ List.replicate (17 - a.size) 0) a.size := lv_zero _ (fun i hi => by
        rw [List.getD_eq_getElem?_getD, List.getElem?_append_right (by omega), List.getElem?_replicate]
        split <;> rfl) _
      rw [show a.size + (17 - a.size) = 17 by omega] at hz
      rw [hz]
      exact lv_congr _ fun i hi => by rw [List.getD_eq_getElem?_getD, List.getD_eq_getElem?_getD, List.getElem?_append_left (by omega)]
    have hq := parts_s _ hps (by rw [hpv]; exact hb)
    rw [hpv] at hq
    simp only [spec_l03Tag.s0, decide_eq_true (show ((16 * j : Nat) : Int) < (t.size : Int) by omega), cond_true, w1, w2, Int.toNat_natCast]
    rw [if_pos (by omega), if_pos (by omega), ← ha, pad17 a s1]
    simp only [Option.bind_some]
    rw [hq, Option.bind_some]
    have hadd := loopO_run (step := fun s : List Int × Int => spec_l03Tag.s2 (DL (blkN (bytesOf t) j)) s.1 s.2) (fun k => (LL (fun i => if i < k then dg (pS R (bytesOf t) j) i + dg (blkN (bytesOf t) j) i else dg (pS R (bytesOf t) j) i), (k : Int))) 5 (r := .out (LL (fun i => dg (pS R (bytesOf t) j) i + dg (blkN (bytesOf t) j) i))) (fun k hk => by
      have q1 := dg_lt (pS R (bytesOf t) j) k
      have q2 := dg_lt (blkN (bytesOf t) j) k
      have hg : (DL (blkN (bytesOf t) j)).getD k 0 = ((dg (blkN (bytesOf t) j) k : Nat) : Int) := LL_get _ hk
      have e1 : w64 (((dg (pS R (bytesOf t) j) k : Nat) : Int) + ((dg (blkN (bytesOf t) j) k : Nat) : Int)) = ((dg (pS R (bytesOf t) j) k + dg (blkN (bytesOf t) j) k : Nat) : Int) := by rw [w64_id (by omega) (by omega)]; omega
      simp only [spec_l03Tag.s2, decide_eq_true (show (k : Int) < 5 by omega), cond_true, Int.toNat_natCast]
      rw [if_pos (by omega), if_pos (by omega), if_pos (by omega), LL_get _ hk, if_neg (Nat.lt_irrefl k), hg, e1, LL_set _ hk, w64_id (by omega) (by omega)]
      have e : LL (fun i => if i = k then dg (pS R (bytesOf t) j) k + dg (blkN (bytesOf t) j) k else if i < k then dg (pS R (bytesOf t) j) i + dg (blkN (bytesOf t) j) i else dg (pS R (bytesOf t) j) i) = LL (fun i => if i < k + 1 then dg (pS R (bytesOf t) j) i + dg (blkN (bytesOf t) j) i else dg (pS R (bytesOf t) j) i) := LL_congr fun i _ => by
        by_cases c : i = k
        · subst c; rw [if_pos rfl, if_pos (by omega)]
        · rw [if_neg c]
          by_cases c2 : i < k
          · rw [if_pos c2, if_pos (by omega)]
          · rw [if_neg c2, if_neg (by omega)]
      rw [e]; rfl) (by
      have : LL (fun i => if i < 5 then dg (pS R (bytesOf t) j) i + dg (blkN (bytesOf t) j) i else dg (pS R (bytesOf t) j) i) = LL (fun i => dg (pS R (bytesOf t) j) i + dg (blkN (bytesOf t) j) i) := LL_congr fun i hi => if_pos hi
      rw [this]; rfl)
    have e0 : LL (fun i => if i < 0 then dg (pS R (bytesOf t) j) i + dg (blkN (bytesOf t) j) i else dg (pS R (bytesOf t) j) i) = DL (pS R (bytesOf t) j) := LL_congr fun i _ => if_neg (Nat.not_lt_zero i)
    rw [e0] at hadd
    have hadd : loopO (fun s : List Int × Int => spec_l03Tag.s2 (DL (blkN (bytesOf t) j)) s.1 s.2) (DL (pS R (bytesOf t) j), 0) = _ := hadd
    rw [hadd]
    simp only [Option.bind_some]
    have hm : spec_l03Times.f (LL (fun i => dg (pS R (bytesOf t) j) i + dg (blkN (bytesOf t) j) i)) (DL R) = some (DL (pS R (bytesOf t) (j + 1))) := times_s (fun i => dg2_28 _ _ i) (dg_lt _)
    rw [hm, Option.bind_some]) (by
    simp only [spec_l03Tag.s0]
    rw [decide_eq_false (by omega)]; rfl)
  have z : DL (pS R (bytesOf t) 0) = List.replicate 5 (0 : Int) := by show DL 0 = _; decide
  rw [z] at this
  have this : loopO (fun s : List Int × Int => spec_l03Tag.s0 t (DL R) s.1 s.2) (List.replicate 5 (0 : Int), 0) = _ := this
  rw [this]
  simp only [Option.bind_some]
  have hc : spec_l03Carry.f (DL (pS R (bytesOf t) ((t.size + 15) / 16))) = some (DL (pS R (bytesOf t) ((t.size + 15) / 16))) := by
    have := carried_s (dg (pS R (bytesOf t) ((t.size + 15) / 16))) (dg_big _)
    rw [gg2_dg _ (pS_lt R _ _)] at this; exact this
  rw [hc, Option.bind_some, less_s _ (pS_lt R _ _), Option.bind_some, bytes_s _ key hk]
  rfl
/-- Both tags are the same sixteen bytes. -/
theorem tag_both (key t : ByteArray) (hk : key.size = 32) (ht : t.size ≤ 1048576) : ∃ l : List Int, impl_tag.f key t = some (strOfNums l) ∧ spec_l03Tag.f key t = some (strOfNums l) ∧ isB l ∧ l.length = 16 ∧ (t.size = 0 → l = ((bytesOf key).drop 16).take 16) := by
  obtain ⟨y, R, c1, c2, hy, hR, l1, l2⟩ := keyR key hk
  have hB := bytesOf_isB key
  have hl := bytesOf_len key
  have hi := tag_i key t hk ht R y c1 l1
  have hs := tag_s key t hk ht R y hy c2 l2
  rw [← n_same R (bytesOf t) (bytesOf_isB t)] at hs
  refine ⟨_, hi, hs, obL_isB _ _, by simp [obL], fun z => ?_⟩
  have hz : pI R (bytesOf t) ((t.size + 15) / 16) % 1361129467683753853853498429727072845819 = 0 := by rw [z]; rfl
  rw [hz]
  have hm : ∀ i, mb 0 i = 0 := fun i => by unfold mb; rw [Nat.zero_div]
  have hkb : ∀ i, kb (bytesOf key) i ≤ 255 := fun i => by have := getD_isB hB (16 + i); unfold kb; omega
  have hci : ∀ i, ci 0 (bytesOf key) i = 0 := by
    intro i
    induction i with
    | zero => rfl
    | succ i ih => rw [ci, ih, hm]; have := hkb i; omega
  unfold obL
  apply List.ext_getElem (by simp [hl, hk])
  intro i h1 h2
  have h16 : i < 16 := by simpa using h1
  simp only [List.getElem_map, List.getElem_range, List.getElem_take, List.getElem_drop]
  unfold ob
  rw [hci, hm]
  have := hkb i
  have hg := getD_isB hB (16 + i)
  have he : (bytesOf key).getD (16 + i) 0 = (bytesOf key)[16 + i] := getD_lt (by omega) 0
  unfold kb at this ⊢
  rw [he] at this hg ⊢
  omega

end Go.Proofs.Yteklgnhfgdhdiaa
