/- What the models of these functions come to. -/
import Derived.Test.YtlbbkehdfgjneaaP0
import Derived.Test.YtlbbkehdfgjneaaGFPathn1
namespace Go.Proofs.Ytlbbkehdfgjneaa
open Go Go.Z Go.Proofs Go.MuLone Go.ChangeShapes Go.WideShapes Go.ChangeAt Go.RowKit
set_option linter.unusedVariables false
set_option linter.unusedSimpArgs false
def blkI (L : List Int) (s : Nat × Bool) : S_Block × (Nat × Bool) := (⟨(nI L 0 11 s).1, (nI L 0 7 (nI L 0 11 s).2).1, (nI L 0 999999 (nI L 0 7 (nI L 0 11 s).2).2).1⟩, (nI L 0 999999 (nI L 0 7 (nI L 0 11 s).2).2).2)
def blkS (L : List Int) (q : Nat) : S_Block × Nat := (⟨(nS L q).1, (nS L (nS L q).2).1, (nS L (nS L (nS L q).2).2).1⟩, (nS L (nS L (nS L q).2).2).2)
def rngB (b : S_Block) : Bool := inB b.Id 0 11 && inB b.Leaf 0 7 && inB b.Value 0 999999
theorem blk_pair (L : List Int) : RPair L (blkI L) (blkS L) rngB :=
  RPair.seq (α := Int × Int) (RPair.seq (RPair.base L 0 11 (by decide)) (RPair.base L 0 7 (by decide)) Prod.mk (fun ab => inB ab.1 0 11 && inB ab.2 0 7) (fun _ _ => rfl)) (RPair.base L 0 999999 (by decide)) (fun ab c => ⟨ab.1, ab.2, c⟩) rngB (fun _ _ => rfl)
theorem blkS_le {L : List Int} {q : Nat} (h : q ≤ L.length + 1) : (blkS L q).2 ≤ L.length + 1 := nS_le (nS_le (nS_le h))

def blkInts (l : List S_Block) : List Int := l.flatMap (fun b => [b.Id, b.Leaf, b.Value])
theorem blkInts_snoc (l : List S_Block) (b : S_Block) : blkInts (l ++ [b]) = blkInts l ++ [b.Id, b.Leaf, b.Value] := by simp [blkInts]
theorem blkInts_len (l : List S_Block) : (blkInts l).length = 3 * l.length := by
  induction l with
  | nil => rfl
  | cons a l ih =>
    show ([a.Id, a.Leaf, a.Value] ++ blkInts l).length = _
    rw [List.length_append, ih]; simp only [List.length_cons, List.length_nil]; omega

theorem at_some (l : List Int) (i n : Int) (hl : l.length ≤ 1048576) (hb : isB l) (hi : 0 ≤ i ∧ i ≤ 1048576) (hn : n ≤ 1048576) : ∃ v, laws_at.f l i n = some v ∧ 0 ≤ v ∧ (v < n ∨ v = 0) := by
  unfold laws_at.f
  by_cases c : n ≤ 1
  · rw [decide_eq_true c]; exact ⟨_, rfl, by omega, .inr rfl⟩
  rw [decide_eq_false c]
  simp only [cond_false]
  cases h0 : ((l.length : Int) == 0)
  · have hne : (l.length : Int) ≠ 0 := by simpa using h0
    obtain ⟨q1, q2⟩ := tmod_lt hi.1 (show (0 : Int) < (l.length : Int) by omega)
    have w1 : w64 (i + 1) = i + 1 := w64_id (by omega) (by omega)
    obtain ⟨q3, q4⟩ := tmod_lt (show 0 ≤ i + 1 by omega) (show (0 : Int) < (l.length : Int) by omega)
    have q5 : 0 ≤ Int.tdiv i (l.length : Int) ∧ Int.tdiv i (l.length : Int) ≤ i := by
      rw [Int.tdiv_eq_ediv_of_nonneg hi.1]
      exact ⟨Int.ediv_nonneg hi.1 (by omega), Int.ediv_le_self _ hi.1⟩
    simp only [cond_false, if_neg hne, w1]
    rw [if_pos ⟨q1, q2⟩, if_pos ⟨q3, q4⟩, if_neg (by omega)]
    obtain ⟨b1, b2⟩ := getD_isB hb (Int.tmod i (l.length : Int)).toNat
    obtain ⟨b3, b4⟩ := getD_isB hb (Int.tmod (i + 1) (l.length : Int)).toNat
    generalize l.getD (Int.tmod i (l.length : Int)).toNat 0 = x at b1 b2 ⊢
    generalize l.getD (Int.tmod (i + 1) (l.length : Int)).toNat 0 = y at b3 b4 ⊢
    generalize Int.tdiv i (l.length : Int) = z at q5 ⊢
    have e1 : IntKind.wrap .i64 x = x := w64_id (by omega) (by omega)
    have e2 : IntKind.wrap .i64 y = y := w64_id (by omega) (by omega)
    have e3 : IntKind.wrap .i64 z = z := w64_id (by omega) (by omega)
    rw [e1, e2, e3, w64_id (x := x * 31) (by omega) (by omega), w64_id (x := x * 31 + y) (by omega) (by omega), w64_id (by omega) (by omega)]
    obtain ⟨r1, r2⟩ := tmod_lt (show 0 ≤ x * 31 + y + z by omega) (show 0 < n by omega)
    exact ⟨_, rfl, r1, .inl r2⟩
  · simp only [cond_true]
    rw [if_neg (by omega), w64_id (by omega) (by omega)]
    obtain ⟨r1, r2⟩ := tmod_lt (show 0 ≤ i * 7 by omega) (show 0 < n by omega)
    exact ⟨_, rfl, r1, .inl r2⟩

theorem within_eq (x lo hi : Int) : impl_within.f x lo hi = some (inB x lo hi) := by
  unfold impl_within.f inB; cases decide (lo ≤ x) <;> rfl

theorem isLeaf_eq (x : Int) : impl_isLeaf.f x = some (inB x 0 7) := by unfold impl_isLeaf.f; rw [within_eq]; rfl

theorem rev4 (a b c d : Int) : slices_Reverse_int_int.f [a, b, c, d] = some [d, c, b, a] := by
  unfold slices_Reverse_int_int.f
  have h1 : slices_Reverse_int_int.s0 [a, b, c, d] [a, b, c, d] 0 3 = some (.inl ([d, b, c, a], 1, 2)) := rfl
  have h2 : slices_Reverse_int_int.s0 [a, b, c, d] [d, b, c, a] 1 2 = some (.inl ([d, c, b, a], 2, 1)) := rfl
  have h3 : slices_Reverse_int_int.s0 [a, b, c, d] [d, c, b, a] 2 1 = some (.inr (.out [d, c, b, a])) := rfl
  have hi : w64 ((([a, b, c, d] : List Int).length : Int) - 1) = 3 := rfl
  rw [hi, loopO_next (s := ([a, b, c, d], 0, 3)) h1, loopO_next (s := ([d, b, c, a], 1, 2)) h2, loopO_stop (s := ([d, c, b, a], 2, 1)) h3]
  rfl

def up1 (x : Int) : Int := (6 + x) / 2
def up2 (x : Int) : Int := (up1 x - 1) / 2
def pathL (x : Int) : List Int := [0, up2 x, up1 x, 7 + x]
theorem pathOf_step (l : List Int) (a : Int) (ha : 1 ≤ a ∧ a ≤ 100) (hl : l.length ≤ 100) : impl_pathOf.s0 l a = some (.inl (l ++ [a], (a - 1) / 2)) := by
  have ht : Int.tdiv (a - 1) 2 = (a - 1) / 2 := Int.tdiv_eq_ediv_of_nonneg (by omega)
  have hw : IntKind.wrap .i64 (Int.tdiv (a - 1) 2) = (a - 1) / 2 := by rw [ht]; exact w64_id (by omega) (by omega)
  simp only [impl_pathOf.s0]
  rw [if_pos (by simp only [List.length_cons, List.length_nil]; omega), show (a == 0) = false by simp only [beq_eq_false_iff_ne]; omega, w64_id (x := a - 1) (by omega) (by omega), hw]
  rfl
theorem pathOf_eq (x : Int) (hx : 0 ≤ x ∧ x ≤ 7) : impl_pathOf.f x = some (pathL x) := by
  unfold impl_pathOf.f
  have e1 : (7 + x - 1) / 2 = up1 x := by unfold up1; congr 1; omega
  have u1 : 3 ≤ up1 x ∧ up1 x ≤ 6 := by unfold up1; omega
  have u2 : 1 ≤ up2 x ∧ up2 x ≤ 2 := by unfold up2; omega
  have e3 : (up2 x - 1) / 2 = 0 := by omega
  have h1 := pathOf_step [] (7 + x) (by omega) (by simp)
  have h2 := pathOf_step [7 + x] (up1 x) (by omega) (by simp)
  have h3 := pathOf_step [7 + x, up1 x] (up2 x) (by omega) (by simp)
  rw [e1] at h1
  rw [show (up1 x - 1) / 2 = up2 x from rfl] at h2
  rw [e3] at h3
  have h4 : impl_pathOf.s0 [7 + x, up1 x, up2 x] 0 = some (.inr (.ret (pathL x))) := by
    simp only [impl_pathOf.s0]
    rw [if_pos (by simp)]
    have := rev4 (7 + x) (up1 x) (up2 x) 0
    simp only [List.cons_append, List.nil_append, BEq.rfl, cond_true, this, Option.bind_some]
    rfl
  rw [w64_id (by omega) (by omega)]
  rw [loopO_next (step := fun s : List Int × Int => impl_pathOf.s0 s.1 s.2) (s := ([], 7 + x)) h1, loopO_next (step := fun s : List Int × Int => impl_pathOf.s0 s.1 s.2) (s := ([] ++ [7 + x], up1 x)) h2, loopO_next (step := fun s : List Int × Int => impl_pathOf.s0 s.1 s.2) (s := ([7 + x] ++ [up1 x], up2 x)) h3, loopO_stop (step := fun s : List Int × Int => impl_pathOf.s0 s.1 s.2) (s := ([7 + x, up1 x] ++ [up2 x], 0)) h4]
  rfl

theorem index_eq (l : List Int) (x : Int) (h : l.length ≤ 1073741824) : ∃ r, slices_Index_int_int.f l x = some r ∧ (decide (r ≥ 0)) = l.any (fun y => x == y) := by
  unfold slices_Index_int_int.f
  obtain ⟨r, h1, h2⟩ := loopO_wf (step := fun s => slices_Index_int_int.s0 l x s) (fun s => ∃ i : Nat, s = (i : Int) ∧ i ≤ l.length ∧ (l.take i).any (fun y => x == y) = false) (fun r => match r with | .out _ => l.any (fun y => x == y) = false | .ret r => 0 ≤ r ∧ l.any (fun y => x == y) = true) (fun s => (l.length - s).toNat) (fun s hI => by
    obtain ⟨i, rfl, hi, ha⟩ := hI
    by_cases hlt : i < l.length
    · simp only [slices_Index_int_int.s0, decide_eq_true (show (i : Int) < (l.length : Int) by omega), cond_true, if_pos (show (0 : Int) ≤ (i : Int) ∧ (i : Int) < (l.length : Int) by omega), Int.toNat_natCast]
      cases hc : (x == l.getD i 0)
      · rw [w64_id (by omega) (by omega)]
        refine .inl ⟨_, rfl, ⟨i + 1, by omega, by omega, ?_⟩, by omega⟩
        rw [take_snoc l i hlt 0, List.any_append, ha]
        simp only [List.any_cons, List.any_nil, hc, Bool.or_false]
      · refine .inr ⟨_, rfl, by omega, ?_⟩
        rw [List.any_eq_true]
        exact ⟨_, getD_mem hlt 0, hc⟩
    · have e : i = l.length := by omega
      subst e
      rw [List.take_length] at ha
      simp only [slices_Index_int_int.s0]
      rw [decide_eq_false (by omega)]
      exact .inr ⟨_, rfl, ha⟩) _ 0 (Nat.le_refl _) ⟨0, rfl, Nat.zero_le _, rfl⟩
  rw [h1]
  cases r with
  | out u => exact ⟨_, rfl, by rw [h2]; rfl⟩
  | ret r => exact ⟨_, rfl, by rw [h2.2]; exact decide_eq_true h2.1⟩
theorem contains_eq (l : List Int) (x : Int) (h : l.length ≤ 1073741824) : slices_Contains_int_int.f l x = some (l.any (fun y => x == y)) := by
  obtain ⟨r, h1, h2⟩ := index_eq l x h
  unfold slices_Contains_int_int.f
  rw [h1]
  simp only [Option.bind_some, h2]

theorem idx_slices_IndexFunc_int_int (l : List Int) (q : Int → Option Bool) (p : Int → Bool) (h : l.length ≤ 1073741824) (hq : ∀ x, x ∈ l → q x = some (p x)) : slices_IndexFunc_int_int.f l q = some (idxOf l 0 p) := by
  unfold slices_IndexFunc_int_int.f idxOf
  have := loopO_find (step := fun s => slices_IndexFunc_int_int.s0 l q s) (fun k => (k : Int)) l.length (fun k => p (l.getD k 0)) (fun k => (k : Int)) (t := ()) (fun k hk => by
    simp only [slices_IndexFunc_int_int.s0, decide_eq_true (show (k : Int) < (l.length : Int) by omega), cond_true, if_pos (show (0 : Int) ≤ (k : Int) ∧ (k : Int) < (l.length : Int) by omega), Int.toNat_natCast, hq _ (getD_mem hk _), Option.bind_some]
    rw [w64_id (by omega) (by omega)]
    cases p (l.getD k 0) <;> rfl) (by
    simp only [slices_IndexFunc_int_int.s0]
    rw [decide_eq_false (by omega)]; rfl)
  rw [show ((0 : Int)) = ((0 : Nat) : Int) from rfl, this]
  cases (List.range l.length).find? (fun k => p (l.getD k 0)) <;> rfl

theorem any_slices_ContainsFunc_int_int (l : List Int) (q : Int → Option Bool) (p : Int → Bool) (h : l.length ≤ 1073741824) (hq : ∀ x, x ∈ l → q x = some (p x)) : slices_ContainsFunc_int_int.f l q = some (l.any p) := by
  unfold slices_ContainsFunc_int_int.f
  rw [idx_slices_IndexFunc_int_int l q p h hq, ← idxOf_any l 0 p]
  rfl

theorem all_impl_areAll_int (l : List Int) (q : Int → Option Bool) (p : Int → Bool) (h : l.length ≤ 1073741824) (hq : ∀ x, x ∈ l → q x = some (p x)) : impl_areAll_int.f l q = some (l.all p) := by
  unfold impl_areAll_int.f
  rw [any_slices_ContainsFunc_int_int l _ (fun x => !p x) h (fun x hx => by unfold impl_areAll_int__c1.f; rw [hq x hx]; rfl)]
  simp only [Option.bind_some, List.any_eq_not_all_not, Bool.not_not]

theorem wf_u8 {y : Int} (h : (Lit.int .u8 y).wf = true) : 0 ≤ y ∧ y ≤ 255 := by
  have h2 := h
  simp [Lit.wf, IntKind.min, IntKind.max, IntKind.signed, IntKind.bits] at h2
  omega
theorem src_new (l : List Int) (hl : l.length ≤ 1048576) (hb : isB l) : ∃ s, spec_l00Source.f l = some ⟨l, 0, s⟩ ∧ SrcB l 0 s 0 := by
  refine ⟨_, rfl, hl, hb, by omega, by omega, ?_⟩
  have := tmod_lt (show (0 : Int) ≤ (l.length : Int) by omega) (show (0 : Int) < 1000 by omega)
  omega

theorem src_byte (x0 : S_l00Src) (B : Int) (h : SrcB x0.code x0.at_ x0.seed B) (hB : B ≤ 2305843009213693952) : ∃ v a s, spec_l00Src_byte.f x0 = some (v, a, s) ∧ 0 ≤ v ∧ v ≤ 255 ∧ SrcB x0.code a s (B + 1) := by
  obtain ⟨code, at', seed⟩ := x0
  obtain ⟨hl, hb, h0, h1, h2, h3⟩ := h
  simp only at hl hb h0 h1 h2 h3
  unfold spec_l00Src_byte.f
  simp only [w64_id (x := at' + 1) (by omega) (by omega)]
  by_cases c : at' + 1 ≤ (code.length : Int)
  · rw [decide_eq_true c]
    have e1 : w64 (at' + 1 - 1) = at' := by rw [w64_id (by omega) (by omega)]; omega
    simp only [cond_true, e1]
    rw [if_pos (by omega), if_pos (by omega)]
    obtain ⟨q1, q2⟩ := getD_isB hb at'.toNat
    generalize code.getD at'.toNat 0 = v at q1 q2 ⊢
    have e2 : IntKind.wrap .i64 v = v := w64_id (by omega) (by omega)
    rw [e2, w64_id (x := seed * 31) (by omega) (by omega), w64_id (x := seed * 31 + v) (by omega) (by omega), w64_id (by omega) (by omega)]
    refine ⟨_, _, _, rfl, by omega, by omega, hl, hb, by omega, by omega, ?_, ?_⟩
    · rw [Int.tmod_eq_emod_of_nonneg (by omega)]; omega
    · rw [Int.tmod_eq_emod_of_nonneg (by omega)]; omega
  · rw [decide_eq_false c]
    simp only [cond_false]
    by_cases c2 : at' + 1 > 3000
    · rw [decide_eq_true c2]
      exact ⟨_, _, _, rfl, by omega, by omega, hl, hb, by omega, by omega, h2, h3⟩
    · rw [decide_eq_false c2]
      simp only [cond_false]
      rw [w64_id (x := seed * 1103515245) (by omega) (by omega), w64_id (by omega) (by omega)]
      have e3 : Int.tmod (seed * 1103515245 + 12345) 2147483648 = (seed * 1103515245 + 12345) % 2147483648 := Int.tmod_eq_emod_of_nonneg (by omega)
      rw [e3]
      have e4 : Int.tdiv ((seed * 1103515245 + 12345) % 2147483648) 65536 = (seed * 1103515245 + 12345) % 2147483648 / 65536 := Int.tdiv_eq_ediv_of_nonneg (by omega)
      rw [e4]
      have e5 : IntKind.wrap .i64 ((seed * 1103515245 + 12345) % 2147483648 / 65536) = (seed * 1103515245 + 12345) % 2147483648 / 65536 := w64_id (by omega) (by omega)
      rw [e5]
      have e6 : Int.tmod ((seed * 1103515245 + 12345) % 2147483648 / 65536) 256 = ((seed * 1103515245 + 12345) % 2147483648 / 65536) % 256 := Int.tmod_eq_emod_of_nonneg (by omega)
      rw [e6]
      exact ⟨_, _, _, rfl, by omega, by omega, hl, hb, by omega, by omega, by omega, by omega⟩

theorem src_next (x0 : S_l00Src) (n B : Int) (h : SrcB x0.code x0.at_ x0.seed B) (hB : B ≤ 1152921504606846976) : ∃ v a s, spec_l00Src_next.f x0 n = some (v, a, s) ∧ 0 ≤ v ∧ (v < n ∨ v = 0) ∧ SrcB x0.code a s (B + 3) := by
  unfold spec_l00Src_next.f
  by_cases c : n ≤ 1
  · rw [decide_eq_true c]; exact ⟨_, _, _, rfl, by omega, .inr rfl, h.up (by omega)⟩
  rw [decide_eq_false c]
  simp only [cond_false]
  by_cases c2 : n ≤ 256
  · obtain ⟨v, a, s, e, h0, h1, h2⟩ := src_byte x0 B h (by omega)
    rw [decide_eq_true c2, e]
    simp only [cond_true, Option.bind_some]
    rw [if_neg (by omega)]
    obtain ⟨q1, q2⟩ := tmod_lt h0 (show 0 < n by omega)
    exact ⟨_, _, _, rfl, q1, .inl q2, h2.up (by omega)⟩
  · rw [decide_eq_false c2]
    obtain ⟨v1, a1, s1, e1, h01, h11, h21⟩ := src_byte x0 B h (by omega)
    obtain ⟨v2, a2, s2, e2, h02, h12, h22⟩ := src_byte ⟨x0.code, a1, s1⟩ (B + 1) h21 (by omega)
    obtain ⟨v3, a3, s3, e3, h03, h13, h23⟩ := src_byte ⟨x0.code, a2, s2⟩ (B + 2) (h22.up (by omega)) (by omega)
    simp only [cond_false, e1, e2, e3, Option.bind_some]
    rw [if_neg (by omega)]
    rw [w64_id (x := v1 * 65536) (by omega) (by omega), w64_id (x := v2 * 256) (by omega) (by omega), w64_id (x := v1 * 65536 + v2 * 256) (by omega) (by omega), w64_id (by omega) (by omega)]
    obtain ⟨q1, q2⟩ := tmod_lt (show 0 ≤ v1 * 65536 + v2 * 256 + v3 by omega) (show 0 < n by omega)
    exact ⟨_, _, _, rfl, q1, .inl q2, h23.up (by omega)⟩

theorem src_leaves (x0 : S_l00Src) (n B : Int) (h : SrcB x0.code x0.at_ x0.seed B) (hB : B ≤ 576460752303423488) (hn : 0 ≤ n ∧ n ≤ 1048576) : ∃ t a s, spec_l00Src_drawLeaves.f x0 n = some (t, a, s) ∧ (t.length : Int) = n ∧ (∀ y ∈ t, 0 ≤ y ∧ y ≤ 7) := by
  unfold spec_l00Src_drawLeaves.f
  obtain ⟨r, h1, h2⟩ := loopO_wf (step := fun s : List Int × Int × Int × Int => spec_l00Src_drawLeaves.s0 x0 n s.1 s.2.1 s.2.2.1 s.2.2.2)
    (fun s => 0 ≤ s.2.1 ∧ (s.1.length : Int) = s.2.1 ∧ s.2.1 ≤ n ∧ (∀ y ∈ s.1, 0 ≤ y ∧ y ≤ 7) ∧ SrcB x0.code s.2.2.1 s.2.2.2 (B + 3 * s.2.1))
    (fun r => ∃ u a s, r = .out (u, a, s) ∧ (u.length : Int) = n ∧ (∀ y ∈ u, 0 ≤ y ∧ y ≤ 7)) (fun s => (n - s.2.1).toNat) (fun s hI => by
      obtain ⟨u, i, a, sd⟩ := s
      obtain ⟨i0, hl, hle, hy, hS⟩ := hI
      simp only at i0 hl hle hy hS
      by_cases c : i < n
      · obtain ⟨v, a2, s2, e, v0, v1, hS2⟩ := src_next ⟨x0.code, a, sd⟩ 8 (B + 3 * i) hS (by omega)
        simp only [spec_l00Src_drawLeaves.s0, decide_eq_true c, cond_true, e, Option.bind_some]
        rw [if_pos (by simp only [List.length_cons, List.length_nil]; omega), w64_id (by omega) (by omega)]
        refine .inl ⟨_, rfl, ⟨by simp only; omega, by simp only [List.length_append, List.length_cons, List.length_nil]; omega, by simp only; omega, fun y hm => ?_, hS2.up (by simp only; omega)⟩, by simp only; omega⟩
        rcases List.mem_append.1 hm with hm | hm
        · exact hy y hm
        · simp only [List.mem_singleton] at hm; subst hm; omega
      · simp only [spec_l00Src_drawLeaves.s0, decide_eq_false c, cond_false]
        exact .inr ⟨_, rfl, u, a, sd, rfl, by omega, hy⟩) _ (([] : List Int), 0, x0.at_, x0.seed) (Nat.le_refl _) ⟨by simp, by simp, by simp; omega, by simp, by simpa using h⟩
  rw [h1]
  obtain ⟨u, a, s, rfl, h3, h4⟩ := h2
  exact ⟨_, a, s, rfl, h3, h4⟩

theorem drawsOf_some (l : List Int) (n : Int) (hl : l.length ≤ 1048576) (hb : isB l) (hn : 0 ≤ n ∧ n ≤ 1048576) : ∃ t, spec_DrawsOf.f l n = some t ∧ (t.length : Int) = n ∧ (∀ y ∈ t, 0 ≤ y ∧ y ≤ 7) := by
  obtain ⟨s, e, h⟩ := src_new l hl hb
  obtain ⟨t, a, s2, e2, h2, h3⟩ := src_leaves ⟨l, 0, s⟩ n 0 h (by omega) hn
  exact ⟨t, by unfold spec_DrawsOf.f; simp only [e, e2, Option.bind_some], h2, h3⟩

theorem idx_slices_IndexFunc_impl_Block_impl_Block (l : List S_Block) (q : S_Block → Option Bool) (p : S_Block → Bool) (h : l.length ≤ 1073741824) (hq : ∀ x, x ∈ l → q x = some (p x)) : slices_IndexFunc_impl_Block_impl_Block.f l q = some (idxOf l z_Block p) := by
  unfold slices_IndexFunc_impl_Block_impl_Block.f idxOf
  have := loopO_find (step := fun s => slices_IndexFunc_impl_Block_impl_Block.s0 l q s) (fun k => (k : Int)) l.length (fun k => p (l.getD k z_Block)) (fun k => (k : Int)) (t := ()) (fun k hk => by
    simp only [slices_IndexFunc_impl_Block_impl_Block.s0, decide_eq_true (show (k : Int) < (l.length : Int) by omega), cond_true, if_pos (show (0 : Int) ≤ (k : Int) ∧ (k : Int) < (l.length : Int) by omega), Int.toNat_natCast, hq _ (getD_mem hk _), Option.bind_some]
    rw [w64_id (by omega) (by omega)]
    cases p (l.getD k z_Block) <;> rfl) (by
    simp only [slices_IndexFunc_impl_Block_impl_Block.s0]
    rw [decide_eq_false (by omega)]; rfl)
  rw [show ((0 : Int)) = ((0 : Nat) : Int) from rfl, this]
  cases (List.range l.length).find? (fun k => p (l.getD k z_Block)) <;> rfl

theorem any_slices_ContainsFunc_impl_Block_impl_Block (l : List S_Block) (q : S_Block → Option Bool) (p : S_Block → Bool) (h : l.length ≤ 1073741824) (hq : ∀ x, x ∈ l → q x = some (p x)) : slices_ContainsFunc_impl_Block_impl_Block.f l q = some (l.any p) := by
  unfold slices_ContainsFunc_impl_Block_impl_Block.f
  rw [idx_slices_IndexFunc_impl_Block_impl_Block l q p h hq, ← idxOf_any l z_Block p]
  rfl

theorem all_impl_areAll_impl_Block (l : List S_Block) (q : S_Block → Option Bool) (p : S_Block → Bool) (h : l.length ≤ 1073741824) (hq : ∀ x, x ∈ l → q x = some (p x)) : impl_areAll_impl_Block.f l q = some (l.all p) := by
  unfold impl_areAll_impl_Block.f
  rw [any_slices_ContainsFunc_impl_Block_impl_Block l _ (fun x => !p x) h (fun x hx => by unfold impl_areAll_impl_Block__c1.f; rw [hq x hx]; rfl)]
  simp only [Option.bind_some, List.any_eq_not_all_not, Bool.not_not]

theorem isValue_eq (x : Int) : impl_isValue.f x = some (inB x 0 999999) := by unfold impl_isValue.f; rw [within_eq]; rfl

theorem isBlock_eq (b : S_Block) : impl_isBlock.f b = some (rngB b) := by
  unfold impl_isBlock.f impl_isId.f impl_isLeaf.f rngB
  simp only [within_eq, isValue_eq, Option.bind_some]
  cases inB b.Id 0 11 <;> cases inB b.Leaf 0 7 <;> cases inB b.Value 0 999999 <;> rfl

theorem idx_slices_IndexFunc_impl_Block_impl_Block_L (l : List (List S_Block)) (q : (List S_Block) → Option Bool) (p : (List S_Block) → Bool) (h : l.length ≤ 1073741824) (hq : ∀ x, x ∈ l → q x = some (p x)) : slices_IndexFunc_impl_Block_impl_Block_L.f l q = some (idxOf l [] p) := by
  unfold slices_IndexFunc_impl_Block_impl_Block_L.f idxOf
  have := loopO_find (step := fun s => slices_IndexFunc_impl_Block_impl_Block_L.s0 l q s) (fun k => (k : Int)) l.length (fun k => p (l.getD k [])) (fun k => (k : Int)) (t := ()) (fun k hk => by
    simp only [slices_IndexFunc_impl_Block_impl_Block_L.s0, decide_eq_true (show (k : Int) < (l.length : Int) by omega), cond_true, if_pos (show (0 : Int) ≤ (k : Int) ∧ (k : Int) < (l.length : Int) by omega), Int.toNat_natCast, hq _ (getD_mem hk _), Option.bind_some]
    rw [w64_id (by omega) (by omega)]
    cases p (l.getD k []) <;> rfl) (by
    simp only [slices_IndexFunc_impl_Block_impl_Block_L.s0]
    rw [decide_eq_false (by omega)]; rfl)
  rw [show ((0 : Int)) = ((0 : Nat) : Int) from rfl, this]
  cases (List.range l.length).find? (fun k => p (l.getD k [])) <;> rfl

end Go.Proofs.Ytlbbkehdfgjneaa
