/- What the models of these functions come to. -/
import Derived.Test.YtmgfkpfacdlfbaaP0
import Derived.Test.YtmgfkpfacdlfbaaGXReadBucket
namespace Go.Proofs.Ytmgfkpfacdlfbaa
open Go Go.Z Go.Proofs Go.MuLone Go.ChangeShapes Go.WideShapes Go.ChangeAt Go.RowKit
set_option linter.unusedVariables false
set_option linter.unusedSimpArgs false
def blkI (L : List Int) (s : Nat × Bool) : S_Block × (Nat × Bool) := (⟨(nI L 0 11 s).1, (nI L 0 7 (nI L 0 11 s).2).1, (nI L 0 999999 (nI L 0 7 (nI L 0 11 s).2).2).1⟩, (nI L 0 999999 (nI L 0 7 (nI L 0 11 s).2).2).2)
def blkS (L : List Int) (q : Nat) : S_Block × Nat := (⟨(nS L q).1, (nS L (nS L q).2).1, (nS L (nS L (nS L q).2).2).1⟩, (nS L (nS L (nS L q).2).2).2)
def rngB (b : S_Block) : Bool := inB b.Id 0 11 && inB b.Leaf 0 7 && inB b.Value 0 999999
theorem blk_pair (L : List Int) : RPair L (blkI L) (blkS L) rngB :=
  RPair.seq (α := Int × Int) (RPair.seq (RPair.base L 0 11 (by decide)) (RPair.base L 0 7 (by decide)) Prod.mk (fun ab => inB ab.1 0 11 && inB ab.2 0 7) (fun _ _ => rfl)) (RPair.base L 0 999999 (by decide)) (fun ab c => ⟨ab.1, ab.2, c⟩) rngB (fun _ _ => rfl)
theorem blkS_le {L : List Int} {q : Nat} (h : q ≤ L.length + 1) : (blkS L q).2 ≤ L.length + 1 := nS_le (nS_le (nS_le h))

theorem refl_laws_eqBlock (x : S_Block) : laws_eqBlock.f x x = some true := by
  unfold laws_eqBlock.f
  simp only [bne_self_eq_false, beq_self_eq_true, Bool.not_true, cond_false, Option.bind_some]

theorem reflF_laws_eqBlock (x : S_Block) : laws_eqBlock.f x x = some true := by
  unfold laws_eqBlock.f
  simp only [bne_self_eq_false, beq_self_eq_true, bs_self, Bool.not_true, cond_false, Option.bind_some]

theorem refl_laws_eqBlockS (x : List S_Block) (h : x.length ≤ 1048576) : laws_eqBlockS.f x x = some true := by
  have hlen : x.length ≤ 1048576 := h
  unfold laws_eqBlockS.f
  rw [show ((x.length : Int) != (x.length : Int)) = false from by simp]
  have := loopO_run (step := fun s => laws_eqBlockS.s0 x x s) (fun k => (k : Int)) x.length (r := .out ()) (fun k hk => by
    simp only [laws_eqBlockS.s0, decide_eq_true (show (k : Int) < (x.length : Int) by omega), cond_true, if_pos (show (0 : Int) ≤ (k : Int) ∧ (k : Int) < (x.length : Int) by omega), Int.toNat_natCast, refl_laws_eqBlock (x.getD k z_Block), bne_self_eq_false, beq_self_eq_true, Bool.not_true, cond_false, Option.bind_some]
    rw [w64_id (by omega) (by omega)]
    rfl) (by
    simp only [laws_eqBlockS.s0]
    rw [decide_eq_false (by omega)]; rfl)
  rw [show ((0 : Int)) = ((0 : Nat) : Int) from rfl, this]
  rfl

theorem reflL_laws_eqBlockS (x : List S_Block) (h : x.length ≤ 1048576) : laws_eqBlockS.f x x = some true := by
  have hlen : x.length ≤ 1048576 := h
  unfold laws_eqBlockS.f
  rw [show ((x.length : Int) != (x.length : Int)) = false from by simp]
  have := loopO_run (step := fun s => laws_eqBlockS.s0 x x s) (fun k => (k : Int)) x.length (r := .out ()) (fun k hk => by
    simp only [laws_eqBlockS.s0, decide_eq_true (show (k : Int) < (x.length : Int) by omega), cond_true, if_pos (show (0 : Int) ≤ (k : Int) ∧ (k : Int) < (x.length : Int) by omega), Int.toNat_natCast, reflF_laws_eqBlock (x.getD k z_Block), bne_self_eq_false, beq_self_eq_true, bs_self, Bool.not_true, cond_false, Option.bind_some]
    rw [w64_id (by omega) (by omega)]
    rfl) (by
    simp only [laws_eqBlockS.s0]
    rw [decide_eq_false (by omega)]; rfl)
  rw [show ((0 : Int)) = ((0 : Nat) : Int) from rfl, this]
  rfl

theorem l01In_eq (x lo hi : Int) : spec_l01In.f x lo hi = some (inB x lo hi) := by
  unfold spec_l01In.f inB; cases decide (lo ≤ x) <;> rfl

theorem l12Blocks_eq (l : List S_Block) (h : l.length ≤ 1048576) : spec_l12Blocks.f l = some (l.all rngB && decide ((l.length : Int) ≤ 2)) := by
  unfold spec_l12Blocks.f
  have := loopO_scan (step := fun s => spec_l12Blocks.s0 l s) (fun k => (k : Int)) l.length (fun k => rngB (l.getD k z_Block)) (b := false) (t := ()) (fun k hk => by
    simp only [spec_l12Blocks.s0, decide_eq_true (show (k : Int) < (l.length : Int) by omega), cond_true, if_pos (show (0 : Int) ≤ (k : Int) ∧ (k : Int) < (l.length : Int) by omega), Int.toNat_natCast, l01In_eq, Option.bind_some, rngB]
    rw [w64_id (by omega) (by omega)]
    cases inB (l.getD k z_Block).Id 0 11 <;> cases inB (l.getD k z_Block).Leaf 0 7 <;> cases inB (l.getD k z_Block).Value 0 999999 <;> rfl) (by
    simp only [spec_l12Blocks.s0]
    rw [decide_eq_false (by omega)]; rfl)
  have t2 : loopO (fun s => spec_l12Blocks.s0 l s) 0 = _ := this
  rw [t2, all_range l z_Block rngB]
  cases l.all rngB <;> rfl

theorem l02Word_eq (t : ByteArray) (j : Nat) (h : 4 * j + 4 ≤ t.size) (hs : t.size ≤ 1048576) : spec_l02Word.f t ((4 * j : Nat) : Int) = some (wd (bytesOf t) j) := by
  have hB := bytesOf_isB t
  have hl := bytesOf_len t
  unfold spec_l02Word.f
  have w1 : w64 (((4 * j : Nat) : Int) + 1) = ((4 * j + 1 : Nat) : Int) := by rw [w64_id (by omega) (by omega)]; omega
  have w2 : w64 (((4 * j : Nat) : Int) + 2) = ((4 * j + 2 : Nat) : Int) := by rw [w64_id (by omega) (by omega)]; omega
  have w3 : w64 (((4 * j : Nat) : Int) + 3) = ((4 * j + 3 : Nat) : Int) := by rw [w64_id (by omega) (by omega)]; omega
  rw [w1, w2, w3, if_pos (by omega), if_pos (by omega), if_pos (by omega), if_pos (by omega)]
  rw [byteAt_eq t _ (by omega) (by omega), byteAt_eq t _ (by omega) (by omega), byteAt_eq t _ (by omega) (by omega), byteAt_eq t _ (by omega) (by omega)]
  simp only [Int.toNat_natCast]
  obtain ⟨a0, a1⟩ := getD_isB hB (4 * j)
  obtain ⟨b0, b1⟩ := getD_isB hB (4 * j + 1)
  obtain ⟨c0, c1⟩ := getD_isB hB (4 * j + 2)
  obtain ⟨d0, d1⟩ := getD_isB hB (4 * j + 3)
  unfold wd
  generalize (bytesOf t).getD (4 * j) 0 = a at a0 a1 ⊢
  generalize (bytesOf t).getD (4 * j + 1) 0 = b at b0 b1 ⊢
  generalize (bytesOf t).getD (4 * j + 2) 0 = c at c0 c1 ⊢
  generalize (bytesOf t).getD (4 * j + 3) 0 = d at d0 d1 ⊢
  have w (x : Int) (h0 : 0 ≤ x) (h1 : x < 4294967296) : IntKind.wrap .i64 x = x := w64_id (by omega) (by omega)
  have e8 : ((2 : Int) ^ 8) = 256 := by decide
  have e16 : ((2 : Int) ^ 16) = 65536 := by decide
  have e24 : ((2 : Int) ^ 24) = 16777216 := by decide
  rw [w a (by omega) (by omega), w b (by omega) (by omega), w c (by omega) (by omega), w d (by omega) (by omega), e8, e16, e24, w (b * 256) (by omega) (by omega), w (c * 65536) (by omega) (by omega), w (d * 16777216) (by omega) (by omega)]
  rw [or64 256 8 (by decide) (y := b * 256) b a0 (by omega) b0 rfl (by omega)]
  rw [or64 65536 16 (by decide) (y := c * 65536) c (by omega) (by omega) c0 rfl (by omega)]
  rw [or64 16777216 24 (by decide) (y := d * 16777216) d (by omega) (by omega) d0 rfl (by omega)]

theorem l06ToInts_eq (t : ByteArray) (h : t.size ≤ 1048576) : spec_l06ToInts.f t = some (wdsN (bytesOf t) (t.size / 4), (t.size % 4 == 0)) := by
  unfold spec_l06ToInts.f
  have := loopO_run (step := fun s : List Int × Int => spec_l06ToInts.s0 t s.1 s.2) (fun k => (wdsN (bytesOf t) k, ((4 * k : Nat) : Int))) (t.size / 4) (r := .out (wdsN (bytesOf t) (t.size / 4))) (fun k hk => by
    have w4 : w64 (((4 * k : Nat) : Int) + 4) = ((4 * (k + 1) : Nat) : Int) := by rw [w64_id (by omega) (by omega)]; omega
    simp only [spec_l06ToInts.s0, w4, decide_eq_true (show ((4 * (k + 1) : Nat) : Int) ≤ (t.size : Int) by omega), cond_true, l02Word_eq t k (by omega) h, Option.bind_some]
    rw [if_pos (by rw [wdsN_len]; simp; omega), wdsN_succ]) (by
    have w4 : w64 (((4 * (t.size / 4) : Nat) : Int) + 4) = ((4 * (t.size / 4 + 1) : Nat) : Int) := by rw [w64_id (by omega) (by omega)]; omega
    simp only [spec_l06ToInts.s0, w4]
    rw [decide_eq_false (by omega)]; rfl)
  have this2 : loopO (fun s : List Int × Int => spec_l06ToInts.s0 t s.1 s.2) (([] : List Int), 0) = _ := this
  rw [this2]
  simp only [Option.bind_some]
  congr 2
  rw [Int.tmod_eq_emod_of_nonneg (by omega)]
  rw [Bool.eq_iff_iff]
  simp only [beq_iff_eq]
  omega

theorem s_next (L : List Int) (q : Nat) (hq : q ≤ L.length + 1) (hL : L.length ≤ 1048576) : spec_l12Reader_next.f ⟨L, (q : Int)⟩ = some ((nS L q).1, ((nS L q).2 : Int)) := by
  unfold spec_l12Reader_next.f nS
  by_cases h : q < L.length
  · have w1 : w64 ((q : Int) + 1) = ((q + 1 : Nat) : Int) := by rw [w64_id (by omega) (by omega)]; omega
    have w2 : w64 (((q + 1 : Nat) : Int) - 1) = (q : Int) := by rw [w64_id (by omega) (by omega)]; omega
    simp only [decide_eq_false (show ¬ (q : Int) ≥ (L.length : Int) by omega), cond_false, w1, w2, if_pos (show (0 : Int) ≤ (q : Int) ∧ (q : Int) < (L.length : Int) by omega), Int.toNat_natCast, if_pos h]
  · simp only [decide_eq_true (show (q : Int) ≥ (L.length : Int) by omega), cond_true, if_neg h]

theorem s_count (L : List Int) (q : Nat) (most : Int) (hq : q ≤ L.length + 1) (hL : L.length ≤ 1048576) : spec_l12Reader_count.f ⟨L, (q : Int)⟩ most = some ((cS L most q).1, ((cS L most q).2 : Int)) := by
  unfold spec_l12Reader_count.f cS
  simp only [s_next L q hq hL, l01In_eq, Option.bind_some]
  cases inB (nS L q).1 0 most
  · simp only [Bool.not_false, cond_true, Bool.false_eq_true, if_false]
    rw [w64_id (by omega) (by omega)]; rfl
  · simp

def restS (L : List Int) (q : Nat) : Bool := (L.drop q).all (fun n => n == 0) && decide (q ≤ L.length)
theorem s_rest (L : List Int) (q : Nat) (hq : q ≤ L.length + 1) (hL : L.length ≤ 1048576) : spec_l12Reader_rest.f ⟨L, (q : Int)⟩ = some (restS L q, (q : Int)) := by
  unfold spec_l12Reader_rest.f restS
  have key : ∀ (m q : Nat), q + m = L.length → loopO (fun s => spec_l12Reader_rest.s0 ⟨L, (q : Int)⟩ s) (q : Int) = loopO (fun s => spec_l12Reader_rest.s0 ⟨L, (q : Int)⟩ s) (q : Int) := fun _ _ _ => rfl
  have run : ∀ (a : Int) (m k : Nat), k + m = L.length → loopO (fun s => spec_l12Reader_rest.s0 ⟨L, a⟩ s) (k : Int) = some (bif (L.drop k).all (fun n => n == 0) then .out () else .ret (false, a)) := by
    intro a m
    induction m with
    | zero =>
      intro k hk
      rw [loopO_eq, List.drop_of_length_le (by omega)]
      simp only [spec_l12Reader_rest.s0]
      rw [decide_eq_false (by omega)]; rfl
    | succ m ih =>
      intro k hk
      rw [loopO_eq]
      have hk2 : k < L.length := by omega
      simp only [spec_l12Reader_rest.s0, decide_eq_true (show (k : Int) < (L.length : Int) by omega), cond_true, if_pos (show (0 : Int) ≤ (k : Int) ∧ (k : Int) < (L.length : Int) by omega), Int.toNat_natCast, bne]
      have w1 : w64 ((k : Int) + 1) = ((k + 1 : Nat) : Int) := by rw [w64_id (by omega) (by omega)]; omega
      have hd : L.drop k = L.getD k 0 :: L.drop (k + 1) := by rw [getD_lt hk2]; exact List.drop_eq_getElem_cons hk2
      rw [w1, hd, List.all_cons]
      cases hz : (L.getD k 0 == 0)
      · rfl
      · simp only [Bool.not_true, cond_false, Bool.true_and]
        exact ih (k + 1) (by omega)
  by_cases h : q ≤ L.length
  · rw [run (q : Int) (L.length - q) q (by omega), decide_eq_true (show (q : Int) ≤ (L.length : Int) by omega), decide_eq_true h]
    cases (L.drop q).all (fun n => n == 0) <;> rfl
  · rw [loopO_eq]
    simp only [spec_l12Reader_rest.s0]
    rw [decide_eq_false (show ¬ (q : Int) < (L.length : Int) by omega), decide_eq_false (show ¬ (q : Int) ≤ (L.length : Int) by omega), decide_eq_false h]
    simp

/-- The words of a text, or none where it has not so many. -/
def wordsOrS (t : ByteArray) (n : Nat) : List Int × Nat := if t.size = 4 * n then (wdsN (bytesOf t) n, 0) else ([], 1)
theorem l12Read_eq (t : ByteArray) (n : Nat) (h : t.size ≤ 1048576) : spec_l12Read.f t (n : Int) = some ⟨(wordsOrS t n).1, ((wordsOrS t n).2 : Int)⟩ := by
  unfold spec_l12Read.f wordsOrS
  rw [l06ToInts_eq t h]
  simp only [Option.bind_some, wdsN_len, bne]
  by_cases hs : t.size = 4 * n
  · rw [if_pos hs, show (t.size % 4 == 0) = true from by simp; omega]
    have : t.size / 4 = n := by omega
    rw [this]
    simp
  · rw [if_neg hs]
    by_cases h4 : t.size % 4 = 0
    · rw [show (t.size % 4 == 0) = true from by simpa using h4, show ((((t.size / 4 : Nat) : Int)) == (n : Int)) = false from by simp; omega]
      rfl
    · rw [show (t.size % 4 == 0) = false from by simpa using h4]
      rfl
theorem s_bucket (t : ByteArray) (h : t.size ≤ 1048576) : ∃ L q, L.length ≤ 1048576 ∧ wordsOrS t 7 = (L, q) ∧ q ≤ L.length + 1 ∧ spec_l12ToBucket.f t = some ((rep (blkS L) (cS L 2 q).1.toNat (cS L 2 q).2).1, restS L (rep (blkS L) (cS L 2 q).1.toNat (cS L 2 q).2).2 && ((rep (blkS L) (cS L 2 q).1.toNat (cS L 2 q).2).1.all rngB && decide (((rep (blkS L) (cS L 2 q).1.toNat (cS L 2 q).2).1.length : Int) ≤ 2))) := by
  have hR := l12Read_eq t 7 h
  have hb : (wordsOrS t 7).1.length ≤ 7 ∧ (wordsOrS t 7).2 ≤ (wordsOrS t 7).1.length + 1 := by
    unfold wordsOrS; split
    · simp [wdsN_len]
    · simp
  generalize hw : wordsOrS t 7 = w at hR hb
  obtain ⟨L, q⟩ := w
  simp only at hR hb
  refine ⟨L, q, by omega, rfl, hb.2, ?_⟩
  have hL : L.length ≤ 1048576 := by omega
  unfold spec_l12ToBucket.f
  have hR' : spec_l12Read.f t 7 = _ := hR
  rw [hR']
  simp only [Option.bind_some, s_count L q 2 hb.2 hL]
  have hq1 := cS_le (most := 2) hb.2
  have hc : 0 ≤ (cS L 2 q).1 ∧ (cS L 2 q).1 ≤ 2 := by
    unfold cS; split
    · rename_i hq; have := inB_iff.1 hq; omega
    · simp
  generalize cS L 2 q = c at hq1 hc ⊢
  obtain ⟨n, q1⟩ := c
  simp only at hq1 hc ⊢
  have hle := fun k => rep_le (f := blkS L) (fun q hq => blkS_le hq) k q1 hq1
  have := loopO_run (step := fun s : List S_Block × Int × Int => spec_l12ToBucket.s0 ⟨L, (q : Int)⟩ s.1 s.2.1 s.2.2) (fun k => ((rep (blkS L) k q1).1, n - (k : Int), ((rep (blkS L) k q1).2 : Int))) n.toNat
    (r := .out ((rep (blkS L) n.toNat q1).1, ((rep (blkS L) n.toNat q1).2 : Int))) (fun k hk => by
    have h1 := hle k
    have hl := rep_len (blkS L) k q1
    generalize hr : rep (blkS L) k q1 = r at h1 hl
    obtain ⟨u, a⟩ := r
    simp only at h1 hl
    have h2 := nS_le h1
    have h3 := nS_le h2
    simp only [spec_l12ToBucket.s0, decide_eq_true (show n - (k : Int) > 0 by omega), cond_true, s_next L a h1 hL, s_next L _ h2 hL, s_next L _ h3 hL, Option.bind_some]
    rw [if_pos (by simp; omega), w64_id (by omega) (by omega)]
    simp only [rep, hr]
    congr 3
    simp only [Prod.mk.injEq]
    exact ⟨by omega, rfl⟩) (by
    simp only [spec_l12ToBucket.s0]
    rw [decide_eq_false (by omega)]; rfl)
  have e0 : n - ((0 : Nat) : Int) = n := by omega
  have this2 : loopO (fun s : List S_Block × Int × Int => spec_l12ToBucket.s0 ⟨L, (q : Int)⟩ s.1 s.2.1 s.2.2) (([] : List S_Block), n, (q1 : Int)) = some (.out ((rep (blkS L) n.toNat q1).1, ((rep (blkS L) n.toNat q1).2 : Int))) := by
    have h3 := this
    simp only [rep, e0] at h3
    exact h3
  rw [this2]
  have hl := rep_len (blkS L) n.toNat q1
  simp only [Option.bind_some, s_rest L _ (hle n.toNat) hL, l12Blocks_eq _ (show (rep (blkS L) n.toNat q1).1.length ≤ 1048576 by rw [hl]; omega)]
  cases restS L (rep (blkS L) n.toNat q1).2 <;> rfl

theorem idx_slices_IndexFunc_string_string (l : List ByteArray) (q : ByteArray → Option Bool) (p : ByteArray → Bool) (h : l.length ≤ 1073741824) (hq : ∀ x, x ∈ l → q x = some (p x)) : slices_IndexFunc_string_string.f l q = some (idxOf l ByteArray.empty p) := by
  unfold slices_IndexFunc_string_string.f idxOf
  have := loopO_find (step := fun s => slices_IndexFunc_string_string.s0 l q s) (fun k => (k : Int)) l.length (fun k => p (l.getD k ByteArray.empty)) (fun k => (k : Int)) (t := ()) (fun k hk => by
    simp only [slices_IndexFunc_string_string.s0, decide_eq_true (show (k : Int) < (l.length : Int) by omega), cond_true, if_pos (show (0 : Int) ≤ (k : Int) ∧ (k : Int) < (l.length : Int) by omega), Int.toNat_natCast, hq _ (getD_mem hk _), Option.bind_some]
    rw [w64_id (by omega) (by omega)]
    cases p (l.getD k ByteArray.empty) <;> rfl) (by
    simp only [slices_IndexFunc_string_string.s0]
    rw [decide_eq_false (by omega)]; rfl)
  rw [show ((0 : Int)) = ((0 : Nat) : Int) from rfl, this]
  cases (List.range l.length).find? (fun k => p (l.getD k ByteArray.empty)) <;> rfl

theorem any_slices_ContainsFunc_string_string (l : List ByteArray) (q : ByteArray → Option Bool) (p : ByteArray → Bool) (h : l.length ≤ 1073741824) (hq : ∀ x, x ∈ l → q x = some (p x)) : slices_ContainsFunc_string_string.f l q = some (l.any p) := by
  unfold slices_ContainsFunc_string_string.f
  rw [idx_slices_IndexFunc_string_string l q p h hq, ← idxOf_any l ByteArray.empty p]
  rfl

theorem all_impl_areAll_string (l : List ByteArray) (q : ByteArray → Option Bool) (p : ByteArray → Bool) (h : l.length ≤ 1073741824) (hq : ∀ x, x ∈ l → q x = some (p x)) : impl_areAll_string.f l q = some (l.all p) := by
  unfold impl_areAll_string.f
  rw [any_slices_ContainsFunc_string_string l _ (fun x => !p x) h (fun x hx => by unfold impl_areAll_string__c1.f; rw [hq x hx]; rfl)]
  simp only [Option.bind_some, List.any_eq_not_all_not, Bool.not_not]

def shortT (t : ByteArray) : Bool := decide ((t.size : Int) ≤ 65536)
theorem areShort_eq (l : List ByteArray) (h : l.length ≤ 1073741824) : impl_areShort.f l = some (l.all shortT) := by
  unfold impl_areShort.f
  rw [all_impl_areAll_string l impl_areShort_c1.f shortT h (fun x _ => rfl)]; rfl
theorem areShort1 (t : ByteArray) : impl_areShort.f [t] = some (shortT t) := by
  rw [areShort_eq _ (by simp)]; simp

theorem littleWord_eq (t : ByteArray) (h : 4 ≤ t.size) : impl_littleWord.f t = some (wd (bytesOf t) 0) := by
  have hB := bytesOf_isB t
  have hl := bytesOf_len t
  unfold impl_littleWord.f
  rw [if_pos (by omega), if_pos (by omega), if_pos (by omega), if_pos (by omega)]
  rw [byteAt_eq t 0 (by omega) (by omega), byteAt_eq t 1 (by omega) (by omega), byteAt_eq t 2 (by omega) (by omega), byteAt_eq t 3 (by omega) (by omega)]
  obtain ⟨a0, a1⟩ := getD_isB hB (Int.toNat 0)
  obtain ⟨b0, b1⟩ := getD_isB hB (Int.toNat 1)
  obtain ⟨c0, c1⟩ := getD_isB hB (Int.toNat 2)
  obtain ⟨d0, d1⟩ := getD_isB hB (Int.toNat 3)
  unfold wd
  simp only [Nat.mul_zero, Nat.zero_add]
  show some _ = some ((bytesOf t).getD (Int.toNat 0) 0 + (bytesOf t).getD (Int.toNat 1) 0 * 256 + (bytesOf t).getD (Int.toNat 2) 0 * 65536 + (bytesOf t).getD (Int.toNat 3) 0 * 16777216)
  generalize (bytesOf t).getD (Int.toNat 0) 0 = a at a0 a1 ⊢
  generalize (bytesOf t).getD (Int.toNat 1) 0 = b at b0 b1 ⊢
  generalize (bytesOf t).getD (Int.toNat 2) 0 = c at c0 c1 ⊢
  generalize (bytesOf t).getD (Int.toNat 3) 0 = d at d0 d1 ⊢
  have w (x : Int) (h0 : 0 ≤ x) (h1 : x < 4294967296) : IntKind.wrap .u32 x = x := by
    show x % 4294967296 = x; omega
  have e8 : ((2 : Int) ^ 8) = 256 := by decide
  have e16 : ((2 : Int) ^ 16) = 65536 := by decide
  have e24 : ((2 : Int) ^ 24) = 16777216 := by decide
  rw [w a (by omega) (by omega), w b (by omega) (by omega), w c (by omega) (by omega), w d (by omega) (by omega), e8, e16, e24, w (b * 256) (by omega) (by omega), w (c * 65536) (by omega) (by omega), w (d * 16777216) (by omega) (by omega)]
  rw [or32 256 8 (by decide) (y := b * 256) b a0 (by omega) b0 rfl (by omega)]
  rw [or32 65536 16 (by decide) (y := c * 65536) c (by omega) (by omega) c0 rfl (by omega)]
  rw [or32 16777216 24 (by decide) (y := d * 16777216) d (by omega) (by omega) d0 rfl (by omega)]

theorem textInts_eq (t : ByteArray) (n : Nat) (h : t.size = 4 * n) (hn : n ≤ 262144) : impl_textInts.f t = some (wdsN (bytesOf t) n) := by
  have hl := bytesOf_len t
  have hB := bytesOf_isB t
  unfold impl_textInts.f
  have := loopO_run (step := fun s : List Int × Int => impl_textInts.s0 t s.1 s.2) (fun k => (wdsN (bytesOf t) k, ((4 * k : Nat) : Int))) n (r := .out (wdsN (bytesOf t) n)) (fun k hk => by
    have hx : (t.extract (4 * k) t.size).size = t.size - 4 * k := by simp
    have hw := littleWord_eq (t.extract (4 * k) t.size) (by omega)
    have hwd : wd (bytesOf (t.extract (4 * k) t.size)) 0 = wd (bytesOf t) k := by
      rw [bytesOf_extract, List.take_of_length_le (by rw [List.length_drop, hl]; omega)]
      unfold wd
      simp only [List.getD_eq_getElem?_getD, List.getElem?_drop, Nat.mul_zero, Nat.zero_add, Nat.add_zero]
    rw [hwd] at hw
    have hr : IntKind.wrap .i64 (wd (bytesOf t) k) = wd (bytesOf t) k := by
      obtain ⟨a0, a1⟩ := getD_isB hB (4 * k)
      obtain ⟨b0, b1⟩ := getD_isB hB (4 * k + 1)
      obtain ⟨c0, c1⟩ := getD_isB hB (4 * k + 2)
      obtain ⟨d0, d1⟩ := getD_isB hB (4 * k + 3)
      unfold wd
      exact w64_id (by omega) (by omega)
    simp only [impl_textInts.s0, decide_eq_true (show ((4 * k : Nat) : Int) < (t.size : Int) by omega), cond_true, if_pos (show (0 : Int) ≤ ((4 * k : Nat) : Int) ∧ ((4 * k : Nat) : Int) ≤ (t.size : Int) by omega), Int.toNat_natCast, hw, Option.bind_some, hr]
    rw [if_pos (by rw [wdsN_len]; simp; omega), w64_id (by omega) (by omega), wdsN_succ]
    congr 3) (by
    simp only [impl_textInts.s0]
    rw [decide_eq_false (by omega)]; rfl)
  have this2 : loopO (fun s : List Int × Int => impl_textInts.s0 t s.1 s.2) (([] : List Int), 0) = _ := this
  rw [this2]; rfl

theorem within_eq (x lo hi : Int) : impl_within.f x lo hi = some (inB x lo hi) := by
  unfold impl_within.f inB; cases decide (lo ≤ x) <;> rfl

theorem i_next (L : List Int) (p : Nat) (b : Bool) (lo hi : Int) (hp : p ≤ L.length) (hL : L.length ≤ 1048576) : impl_reader_next.f ⟨L, (p : Int), b⟩ lo hi = some ((nI L lo hi (p, b)).1, ((nI L lo hi (p, b)).2.1 : Int), (nI L lo hi (p, b)).2.2) := by
  unfold impl_reader_next.f nI
  cases b
  · simp only [cond_false, Bool.false_eq_true, if_false]
    by_cases h : p < L.length
    · have e1 : ((p : Int) == (L.length : Int)) = false := by simp; omega
      have w1 : w64 ((p : Int) + 1) = ((p + 1 : Nat) : Int) := by rw [w64_id (by omega) (by omega)]; omega
      have w2 : w64 (((p + 1 : Nat) : Int) - 1) = (p : Int) := by rw [w64_id (by omega) (by omega)]; omega
      simp only [e1, cond_false, if_pos (show (0 : Int) ≤ (p : Int) ∧ (p : Int) < (L.length : Int) by omega), Int.toNat_natCast, within_eq, Option.bind_some, w1, w2]
      cases hi' : inB (L.getD p 0) lo hi
      · simp
      · simp [h]
    · have e1 : ((p : Int) == (L.length : Int)) = true := by simp; omega
      have hn : ¬ (p < L.length ∧ inB (L.getD p 0) lo hi = true) := fun q => h q.1
      simp only [e1, cond_true, Option.bind_some, if_neg hn]
  · simp only [cond_true, Option.bind_some, if_true]

theorem i_blocks (L : List Int) (p : Nat) (b : Bool) (most : Int) (hp : p ≤ L.length) (hL : L.length ≤ 1048576) (hm : most ≤ 1000000) : impl_reader_blocks.f ⟨L, (p : Int), b⟩ most = some ((rep (blkI L) (nI L 0 most (p, b)).1.toNat (nI L 0 most (p, b)).2).1, ((rep (blkI L) (nI L 0 most (p, b)).1.toNat (nI L 0 most (p, b)).2).2.1 : Int), (rep (blkI L) (nI L 0 most (p, b)).1.toNat (nI L 0 most (p, b)).2).2.2) := by
  unfold impl_reader_blocks.f
  rw [i_next L p b 0 most hp hL]
  have hc : 0 ≤ (nI L 0 most (p, b)).1 ∧ (nI L 0 most (p, b)).1 ≤ 1000000 := by
    unfold nI
    split
    · simp
    · split
      · rename_i h; have h2 := inB_iff.1 h.2; simp only at h2 ⊢; omega
      · simp
  have hle := (RPair.base L 0 most (by omega)).le (p, b) hp
  generalize nI L 0 most (p, b) = c at hc hle ⊢
  obtain ⟨n, p1, b1⟩ := c
  simp only at hc hle ⊢
  simp only [Option.bind_some]
  have := loopO_run (step := fun s : List S_Block × Int × Int × Bool => impl_reader_blocks.s0 ⟨L, (p : Int), b⟩ (n, (p1 : Int), b1) s.1 s.2.1 s.2.2.1 s.2.2.2) (fun k => ((rep (blkI L) k (p1, b1)).1, (k : Int), ((rep (blkI L) k (p1, b1)).2.1 : Int), (rep (blkI L) k (p1, b1)).2.2)) n.toNat
    (r := .out ((rep (blkI L) n.toNat (p1, b1)).1, ((rep (blkI L) n.toNat (p1, b1)).2.1 : Int), (rep (blkI L) n.toNat (p1, b1)).2.2)) (fun k hk => by
    have h1 := ((blk_pair L).reps k).le (p1, b1) hle
    have hl := rep_len (blkI L) k (p1, b1)
    generalize hr : rep (blkI L) k (p1, b1) = r at h1 hl
    obtain ⟨u, a, bb⟩ := r
    simp only at h1 hl
    have h2 := (RPair.base L 0 11 (by decide)).le (a, bb) h1
    have h3 := (RPair.base L 0 7 (by decide)).le _ h2
    have e1 := i_next L a bb 0 11 h1 hL
    have e2 := i_next L (nI L 0 11 (a, bb)).2.1 (nI L 0 11 (a, bb)).2.2 0 7 h2 hL
    have e3 := i_next L (nI L 0 7 (nI L 0 11 (a, bb)).2).2.1 (nI L 0 7 (nI L 0 11 (a, bb)).2).2.2 0 999999 h3 hL
    simp only [impl_reader_blocks.s0, decide_eq_true (show (k : Int) < n by omega), cond_true, e1, e2, e3, Option.bind_some]
    rw [if_pos (by simp; omega), w64_id (by omega) (by omega)]
    simp only [rep, hr]
    rfl) (by
    simp only [impl_reader_blocks.s0]
    rw [decide_eq_false (by omega)]; rfl)
  have this2 : loopO (fun s : List S_Block × Int × Int × Bool => impl_reader_blocks.s0 ⟨L, (p : Int), b⟩ (n, (p1 : Int), b1) s.1 s.2.1 s.2.2.1 s.2.2.2) (([] : List S_Block), 0, (p1 : Int), b1) = _ := this
  rw [this2]; rfl

theorem idx_slices_IndexFunc_int_int (l : List Int) (q : Int → Option Bool) (p : Int → Bool) (h : l.length ≤ 1073741824) (hq : ∀ x, x ∈ l → q x = some (p x)) : slices_IndexFunc_int_int.f l q = some (idxOf l 0 p) := by
  unfold slices_IndexFunc_int_int.f idxOf
  have := loopO_find (step := fun s => slices_IndexFunc_int_int.s0 l q s) (fun k => (k : Int)) l.length (fun k => p (l.getD k 0)) (fun k => (k : Int)) (t := ()) (fun k hk => by
    simp only [slices_IndexFunc_int_int.s0, decide_eq_true (show (k : Int) < (l.length : Int) by omega), cond_true, if_pos (show (0 : Int) ≤ (k : Int) ∧ (k : Int) < (l.length : Int) by omega), Int.toNat_natCast, hq _ (getD_mem hk _), Option.bind_some]
    rw [w64_id (by omega) (by omega)]
    cases p (l.getD k 0) <;> rfl) (by
    simp only [slices_IndexFunc_int_int.s0]
    rw [decide_eq_false (by omega)]; rfl)
  rw [show ((0 : Int)) = ((0 : Nat) : Int) from rfl, this]
  cases (List.range l.length).find? (fun k => p (l.getD k 0)) <;> rfl

theorem any_slices_ContainsFunc_int_int (l : List Int) (q : Int → Option Bool) (p : Int → Bool) (h : l.length ≤ 1073741824) (hq : ∀ x, x ∈ l → q x = some (p x)) : slices_ContainsFunc_int_int.f l q = some (l.any p) := by
  unfold slices_ContainsFunc_int_int.f
  rw [idx_slices_IndexFunc_int_int l q p h hq, ← idxOf_any l 0 p]
  rfl

theorem all_impl_areAll_int (l : List Int) (q : Int → Option Bool) (p : Int → Bool) (h : l.length ≤ 1073741824) (hq : ∀ x, x ∈ l → q x = some (p x)) : impl_areAll_int.f l q = some (l.all p) := by
  unfold impl_areAll_int.f
  rw [any_slices_ContainsFunc_int_int l _ (fun x => !p x) h (fun x hx => by unfold impl_areAll_int__c1.f; rw [hq x hx]; rfl)]
  simp only [Option.bind_some, List.any_eq_not_all_not, Bool.not_not]

theorem i_ends (L : List Int) (p : Nat) (b : Bool) (hp : p ≤ L.length) (hL : L.length ≤ 1048576) : impl_reader_ends.f ⟨L, (p : Int), b⟩ = some (!b && (L.drop p).all (fun n => n == 0), (p : Int), b) := by
  unfold impl_reader_ends.f
  cases b
  · simp only [Bool.not_false, cond_true, if_pos (show (0 : Int) ≤ (p : Int) ∧ (p : Int) ≤ (L.length : Int) by omega), Int.toNat_natCast]
    rw [all_impl_areAll_int (L.drop p) impl_reader_ends_c1.f (fun n => n == 0) (by simp; omega) (fun x _ => rfl)]
    simp
  · simp

def F_laws_markBlockS (q : Int) (x : S_Block) : S_Block := ⟨q, (q + 1), (q + 2)⟩
theorem mk_laws_markBlockS (x : List S_Block) (k : Int) (h0 : 0 ≤ k) (h1 : k ≤ 144115188075855872) (hl : x.length ≤ 1048576) : ∃ m a, laws_markBlockS.f x k = some (m, a) ∧ k ≤ m ∧ m ≤ k + 3145728 ∧ a.length = x.length ∧ laws_heldBlockS.f a k = some m := by
  have hm := mark_gen (ρ := Int × List S_Block) x z_Block F_laws_markBlockS 3 k (fun s => laws_markBlockS.s0 x s.1 s.2.1 s.2.2) (by decide) (fun i u q hi hu hg hq1 hq2 => by
    have w1 : w64 (q + 1) = q + 1 := by rw [w64_id (by omega) (by omega)]
    have w2 : w64 (q + 1 + 1) = q + 2 := by rw [w64_id (by omega) (by omega)]; omega
    have w3 : w64 (q + 2 + 1) = q + 3 := by rw [w64_id (by omega) (by omega)]; omega
    have wi : w64 ((i : Int) + 1) = ((i + 1 : Nat) : Int) := by rw [w64_id (by omega) (by omega)]; omega
    simp only [laws_markBlockS.s0, decide_eq_true (show (i : Int) < (x.length : Int) by omega), cond_true, if_pos (show (0 : Int) ≤ (i : Int) ∧ (i : Int) < (x.length : Int) by omega), Int.toNat_natCast, Option.bind_some, w1, w2, w3, wi, List.set_set, getD_set_self _ z_Block _ (show i < u.length by omega), getD_set_self _ z_Block _ (show i < (u.set i _).length by simp; omega), F_laws_markBlockS]) (fun u q => by simp only [laws_markBlockS.s0]; rw [decide_eq_false (by omega)]; rfl)
  refine ⟨k + 3 * x.length, mkL x z_Block F_laws_markBlockS 3 k, ?_, by omega, by omega, mkL_len .., ?_⟩
  · unfold laws_markBlockS.f; rw [hm]; rfl
  · have hy := mkL_len x z_Block F_laws_markBlockS 3 k
    have hh := held_gen (ρ := Int) (mkL x z_Block F_laws_markBlockS 3 k) 3 k (fun s => laws_heldBlockS.s0 (mkL x z_Block F_laws_markBlockS 3 k) s.1 s.2) (by decide) (fun i hi hq2 hq1 => by
    have hg := mkL_getD x z_Block F_laws_markBlockS 3 k (show i < x.length by omega)
    generalize hqq : k + 3 * (i : Int) = q at hg hq1 hq2 ⊢
    rw [hy] at hi hq2
    have w1 : w64 (q + 1) = q + 1 := by rw [w64_id (by omega) (by omega)]
    have w2 : w64 (q + 1 + 1) = q + 2 := by rw [w64_id (by omega) (by omega)]; omega
    have w3 : w64 (q + 2 + 1) = q + 3 := by rw [w64_id (by omega) (by omega)]; omega
    have wi : w64 ((i : Int) + 1) = ((i + 1 : Nat) : Int) := by rw [w64_id (by omega) (by omega)]; omega
    simp only [laws_heldBlockS.s0, hy, decide_eq_true (show (i : Int) < (x.length : Int) by omega), cond_true, if_pos (show (0 : Int) ≤ (i : Int) ∧ (i : Int) < (x.length : Int) by omega), Int.toNat_natCast, Option.bind_some, w1, w2, w3, wi, hg, F_laws_markBlockS, bne_self_eq_false, beq_self_eq_true, bs_self, Bool.not_true, cond_false]) (fun q => by simp only [laws_heldBlockS.s0]; rw [decide_eq_false (by omega)]; rfl)
    rw [hy] at hh
    unfold laws_heldBlockS.f; rw [hh]; rfl

end Go.Proofs.Ytmgfkpfacdlfbaa
