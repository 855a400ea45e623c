/- What the models of these functions come to. -/
import Derived.Test.YtlbbkehdfgjneaaP0
import Derived.Test.YtlbbkehdfgjneaaGXNewEncn1
namespace Go.Proofs.Ytlbbkehdfgjneaa
open Go Go.Z Go.Proofs Go.MuLone Go.ChangeShapes Go.WideShapes Go.ChangeAt Go.RowKit
set_option linter.unusedVariables false
set_option linter.unusedSimpArgs false
theorem refl_laws_eqIntS (x : List Int) (h : x.length ≤ 1048576) : laws_eqIntS.f x x = some true := by
  have hlen : x.length ≤ 1048576 := h
  unfold laws_eqIntS.f
  rw [show ((x.length : Int) != (x.length : Int)) = false from by simp]
  have := loopO_run (step := fun s => laws_eqIntS.s0 x x s) (fun k => (k : Int)) x.length (r := .out ()) (fun k hk => by
    simp only [laws_eqIntS.s0, decide_eq_true (show (k : Int) < (x.length : Int) by omega), cond_true, if_pos (show (0 : Int) ≤ (k : Int) ∧ (k : Int) < (x.length : Int) by omega), Int.toNat_natCast, bne_self_eq_false, beq_self_eq_true, Bool.not_true, cond_false, Option.bind_some]
    rw [w64_id (by omega) (by omega)]
    rfl) (by
    simp only [laws_eqIntS.s0]
    rw [decide_eq_false (by omega)]; rfl)
  rw [show ((0 : Int)) = ((0 : Nat) : Int) from rfl, this]
  rfl

theorem reflL_laws_eqIntS (x : List Int) (h : x.length ≤ 1048576) : laws_eqIntS.f x x = some true := by
  have hlen : x.length ≤ 1048576 := h
  unfold laws_eqIntS.f
  rw [show ((x.length : Int) != (x.length : Int)) = false from by simp]
  have := loopO_run (step := fun s => laws_eqIntS.s0 x x s) (fun k => (k : Int)) x.length (r := .out ()) (fun k hk => by
    simp only [laws_eqIntS.s0, decide_eq_true (show (k : Int) < (x.length : Int) by omega), cond_true, if_pos (show (0 : Int) ≤ (k : Int) ∧ (k : Int) < (x.length : Int) by omega), Int.toNat_natCast, bne_self_eq_false, beq_self_eq_true, bs_self, Bool.not_true, cond_false, Option.bind_some]
    rw [w64_id (by omega) (by omega)]
    rfl) (by
    simp only [laws_eqIntS.s0]
    rw [decide_eq_false (by omega)]; rfl)
  rw [show ((0 : Int)) = ((0 : Nat) : Int) from rfl, this]
  rfl

theorem l01In_eq (x lo hi : Int) : spec_l01In.f x lo hi = some (inB x lo hi) := by
  unfold spec_l01In.f inB; cases decide (lo ≤ x) <;> rfl

theorem l08Leaves_eq (l : List Int) (h : l.length ≤ 1073741824) : spec_l08Leaves.f l = some (l.all (fun x => inB x 0 7)) := by
  unfold spec_l08Leaves.f
  have := loopO_scan (step := fun s => spec_l08Leaves.s0 l s) (fun k => (k : Int)) l.length (fun k => inB (l.getD k 0) 0 7) (b := false) (t := ()) (fun k hk => by
    simp only [spec_l08Leaves.s0, l01In_eq, Option.bind_some, Int.toNat_natCast, decide_eq_true (show (k : Int) < (l.length : Int) by omega), cond_true, if_pos (show (0 : Int) ≤ (k : Int) ∧ (k : Int) < (l.length : Int) by omega)]
    rw [w64_id (by omega) (by omega)]
    cases inB (l.getD k 0) 0 7 <;> rfl) (by
    simp only [spec_l08Leaves.s0]
    rw [decide_eq_false (by omega)]; rfl)
  have t2 : loopO (fun s => spec_l08Leaves.s0 l s) 0 = _ := this
  rw [t2, all_range l 0 (fun x => inB x 0 7)]
  cases l.all (fun x => inB x 0 7) <;> rfl

theorem id_laws_toIntS (x : List Int) (h : x.length ≤ 1048576) : laws_toIntS.f x = some x := by
  have hlen : x.length ≤ 1048576 := h
  unfold laws_toIntS.f
  rw [if_pos (by omega)]
  have h0 : ((x.length : Int)).toNat = x.length := by simp
  rw [h0, ← filled_zero x 0]
  have := loopO_run (step := fun s => laws_toIntS.s0 x s.1 s.2) (fun k => (filled x 0 k, (k : Int))) x.length (r := .out x) (fun k hk => by
    have hl := filled_len x 0 k (by omega)
    simp only [laws_toIntS.s0, decide_eq_true (show (k : Int) < (x.length : Int) by omega), cond_true, if_pos (show (0 : Int) ≤ (k : Int) ∧ (k : Int) < (x.length : Int) by omega), Option.bind_some, if_pos (show (0 : Int) ≤ (k : Int) ∧ (k : Int) < ((filled x 0 k).length : Int) by omega), Int.toNat_natCast]
    rw [w64_id (by omega) (by omega), filled_set x 0 k hk]
    rfl) (by
    simp only [laws_toIntS.s0, filled_all]
    rw [decide_eq_false (by omega)]; rfl)
  have this2 : loopO (fun s => laws_toIntS.s0 x s.1 s.2) (filled x 0 0, 0) = some (.out x) := this
  rw [this2]
  rfl

theorem within_eq (x lo hi : Int) : impl_within.f x lo hi = some (inB x lo hi) := by
  unfold impl_within.f inB; cases decide (lo ≤ x) <;> rfl

theorem isLeaf_eq (x : Int) : impl_isLeaf.f x = some (inB x 0 7) := by unfold impl_isLeaf.f; rw [within_eq]; rfl

theorem idx_slices_IndexFunc_int_int (l : List Int) (q : Int → Option Bool) (p : Int → Bool) (h : l.length ≤ 1073741824) (hq : ∀ x, x ∈ l → q x = some (p x)) : slices_IndexFunc_int_int.f l q = some (idxOf l 0 p) := by
  unfold slices_IndexFunc_int_int.f idxOf
  have := loopO_find (step := fun s => slices_IndexFunc_int_int.s0 l q s) (fun k => (k : Int)) l.length (fun k => p (l.getD k 0)) (fun k => (k : Int)) (t := ()) (fun k hk => by
    simp only [slices_IndexFunc_int_int.s0, decide_eq_true (show (k : Int) < (l.length : Int) by omega), cond_true, if_pos (show (0 : Int) ≤ (k : Int) ∧ (k : Int) < (l.length : Int) by omega), Int.toNat_natCast, hq _ (getD_mem hk _), Option.bind_some]
    rw [w64_id (by omega) (by omega)]
    cases p (l.getD k 0) <;> rfl) (by
    simp only [slices_IndexFunc_int_int.s0]
    rw [decide_eq_false (by omega)]; rfl)
  rw [show ((0 : Int)) = ((0 : Nat) : Int) from rfl, this]
  cases (List.range l.length).find? (fun k => p (l.getD k 0)) <;> rfl

theorem any_slices_ContainsFunc_int_int (l : List Int) (q : Int → Option Bool) (p : Int → Bool) (h : l.length ≤ 1073741824) (hq : ∀ x, x ∈ l → q x = some (p x)) : slices_ContainsFunc_int_int.f l q = some (l.any p) := by
  unfold slices_ContainsFunc_int_int.f
  rw [idx_slices_IndexFunc_int_int l q p h hq, ← idxOf_any l 0 p]
  rfl

theorem all_impl_areAll_int (l : List Int) (q : Int → Option Bool) (p : Int → Bool) (h : l.length ≤ 1073741824) (hq : ∀ x, x ∈ l → q x = some (p x)) : impl_areAll_int.f l q = some (l.all p) := by
  unfold impl_areAll_int.f
  rw [any_slices_ContainsFunc_int_int l _ (fun x => !p x) h (fun x hx => by unfold impl_areAll_int__c1.f; rw [hq x hx]; rfl)]
  simp only [Option.bind_some, List.any_eq_not_all_not, Bool.not_not]

theorem refl_laws_eqBlock (x : S_Block) : laws_eqBlock.f x x = some true := by
  unfold laws_eqBlock.f
  simp only [bne_self_eq_false, beq_self_eq_true, Bool.not_true, cond_false, Option.bind_some]

theorem reflF_laws_eqBlock (x : S_Block) : laws_eqBlock.f x x = some true := by
  unfold laws_eqBlock.f
  simp only [bne_self_eq_false, beq_self_eq_true, bs_self, Bool.not_true, cond_false, Option.bind_some]

theorem refl_laws_eqBlockS (x : List S_Block) (h : x.length ≤ 1048576) : laws_eqBlockS.f x x = some true := by
  have hlen : x.length ≤ 1048576 := h
  unfold laws_eqBlockS.f
  rw [show ((x.length : Int) != (x.length : Int)) = false from by simp]
  have := loopO_run (step := fun s => laws_eqBlockS.s0 x x s) (fun k => (k : Int)) x.length (r := .out ()) (fun k hk => by
    simp only [laws_eqBlockS.s0, decide_eq_true (show (k : Int) < (x.length : Int) by omega), cond_true, if_pos (show (0 : Int) ≤ (k : Int) ∧ (k : Int) < (x.length : Int) by omega), Int.toNat_natCast, refl_laws_eqBlock (x.getD k z_Block), bne_self_eq_false, beq_self_eq_true, Bool.not_true, cond_false, Option.bind_some]
    rw [w64_id (by omega) (by omega)]
    rfl) (by
    simp only [laws_eqBlockS.s0]
    rw [decide_eq_false (by omega)]; rfl)
  rw [show ((0 : Int)) = ((0 : Nat) : Int) from rfl, this]
  rfl

theorem reflL_laws_eqBlockS (x : List S_Block) (h : x.length ≤ 1048576) : laws_eqBlockS.f x x = some true := by
  have hlen : x.length ≤ 1048576 := h
  unfold laws_eqBlockS.f
  rw [show ((x.length : Int) != (x.length : Int)) = false from by simp]
  have := loopO_run (step := fun s => laws_eqBlockS.s0 x x s) (fun k => (k : Int)) x.length (r := .out ()) (fun k hk => by
    simp only [laws_eqBlockS.s0, decide_eq_true (show (k : Int) < (x.length : Int) by omega), cond_true, if_pos (show (0 : Int) ≤ (k : Int) ∧ (k : Int) < (x.length : Int) by omega), Int.toNat_natCast, reflF_laws_eqBlock (x.getD k z_Block), bne_self_eq_false, beq_self_eq_true, bs_self, Bool.not_true, cond_false, Option.bind_some]
    rw [w64_id (by omega) (by omega)]
    rfl) (by
    simp only [laws_eqBlockS.s0]
    rw [decide_eq_false (by omega)]; rfl)
  rw [show ((0 : Int)) = ((0 : Nat) : Int) from rfl, this]
  rfl

theorem refl_laws_eqBlockSS (x : List (List S_Block)) (h : x.length ≤ 1048576 ∧ ∀ z0 : List S_Block, z0 ∈ x → (z0.length ≤ 1048576)) : laws_eqBlockSS.f x x = some true := by
  have hlen : x.length ≤ 1048576 := h.1
  unfold laws_eqBlockSS.f
  rw [show ((x.length : Int) != (x.length : Int)) = false from by simp]
  have := loopO_run (step := fun s => laws_eqBlockSS.s0 x x s) (fun k => (k : Int)) x.length (r := .out ()) (fun k hk => by
    simp only [laws_eqBlockSS.s0, decide_eq_true (show (k : Int) < (x.length : Int) by omega), cond_true, if_pos (show (0 : Int) ≤ (k : Int) ∧ (k : Int) < (x.length : Int) by omega), Int.toNat_natCast, refl_laws_eqBlockS (x.getD k []) (h.2 _ (getD_mem hk _)), bne_self_eq_false, beq_self_eq_true, Bool.not_true, cond_false, Option.bind_some]
    rw [w64_id (by omega) (by omega)]
    rfl) (by
    simp only [laws_eqBlockSS.s0]
    rw [decide_eq_false (by omega)]; rfl)
  rw [show ((0 : Int)) = ((0 : Nat) : Int) from rfl, this]
  rfl

theorem reflL_laws_eqBlockSS (x : List (List S_Block)) (h : x.length ≤ 1048576 ∧ ∀ z0 : List S_Block, z0 ∈ x → (z0.length ≤ 1048576)) : laws_eqBlockSS.f x x = some true := by
  have hlen : x.length ≤ 1048576 := h.1
  unfold laws_eqBlockSS.f
  rw [show ((x.length : Int) != (x.length : Int)) = false from by simp]
  have := loopO_run (step := fun s => laws_eqBlockSS.s0 x x s) (fun k => (k : Int)) x.length (r := .out ()) (fun k hk => by
    simp only [laws_eqBlockSS.s0, decide_eq_true (show (k : Int) < (x.length : Int) by omega), cond_true, if_pos (show (0 : Int) ≤ (k : Int) ∧ (k : Int) < (x.length : Int) by omega), Int.toNat_natCast, reflL_laws_eqBlockS (x.getD k []) (h.2 _ (getD_mem hk _)), bne_self_eq_false, beq_self_eq_true, bs_self, Bool.not_true, cond_false, Option.bind_some]
    rw [w64_id (by omega) (by omega)]
    rfl) (by
    simp only [laws_eqBlockSS.s0]
    rw [decide_eq_false (by omega)]; rfl)
  rw [show ((0 : Int)) = ((0 : Nat) : Int) from rfl, this]
  rfl

theorem refl_laws_eqOram (x : S_Oram) (h : (x.Pos.length ≤ 1048576) ∧ (x.Stash.length ≤ 1048576) ∧ (x.Buckets.length ≤ 1048576 ∧ ∀ z0 : List S_Block, z0 ∈ x.Buckets → (z0.length ≤ 1048576))) : laws_eqOram.f x x = some true := by
  unfold laws_eqOram.f
  simp only [refl_laws_eqIntS x.Pos h.1, refl_laws_eqBlockS x.Stash h.2.1, refl_laws_eqBlockSS x.Buckets h.2.2, bne_self_eq_false, beq_self_eq_true, Bool.not_true, cond_false, Option.bind_some]

theorem reflL_laws_eqOram (x : S_Oram) (h : (x.Pos.length ≤ 1048576) ∧ (x.Stash.length ≤ 1048576) ∧ (x.Buckets.length ≤ 1048576 ∧ ∀ z0 : List S_Block, z0 ∈ x.Buckets → (z0.length ≤ 1048576))) : laws_eqOram.f x x = some true := by
  unfold laws_eqOram.f
  simp only [reflL_laws_eqIntS x.Pos h.1, reflL_laws_eqBlockS x.Stash h.2.1, reflL_laws_eqBlockSS x.Buckets h.2.2, bne_self_eq_false, beq_self_eq_true, bs_self, Bool.not_true, cond_false, Option.bind_some]

theorem refl_laws_eqEnc (x : S_Enc) (h : (x.Keys.length ≤ 1048576) ∧ ((x.Oram.Pos.length ≤ 1048576) ∧ (x.Oram.Stash.length ≤ 1048576) ∧ (x.Oram.Buckets.length ≤ 1048576 ∧ ∀ z0 : List S_Block, z0 ∈ x.Oram.Buckets → (z0.length ≤ 1048576)))) : laws_eqEnc.f x x = some true := by
  unfold laws_eqEnc.f
  simp only [refl_laws_eqIntS x.Keys h.1, refl_laws_eqOram x.Oram h.2, bne_self_eq_false, beq_self_eq_true, Bool.not_true, cond_false, Option.bind_some]

theorem reflL_laws_eqEnc (x : S_Enc) (h : (x.Keys.length ≤ 1048576) ∧ ((x.Oram.Pos.length ≤ 1048576) ∧ (x.Oram.Stash.length ≤ 1048576) ∧ (x.Oram.Buckets.length ≤ 1048576 ∧ ∀ z0 : List S_Block, z0 ∈ x.Oram.Buckets → (z0.length ≤ 1048576)))) : laws_eqEnc.f x x = some true := by
  unfold laws_eqEnc.f
  simp only [reflL_laws_eqIntS x.Keys h.1, reflL_laws_eqOram x.Oram h.2, bne_self_eq_false, beq_self_eq_true, bs_self, Bool.not_true, cond_false, Option.bind_some]

def F_laws_markIntS (q : Int) (x : Int) : Int := q
theorem mk_laws_markIntS (x : List Int) (k : Int) (h0 : 0 ≤ k) (h1 : k ≤ 144115188075855872) (hl : x.length ≤ 1048576) : ∃ m a, laws_markIntS.f x k = some (m, a) ∧ k ≤ m ∧ m ≤ k + 1048576 ∧ a.length = x.length ∧ laws_heldIntS.f a k = some m := by
  have hm := mark_gen (ρ := Int × List Int) x 0 F_laws_markIntS 1 k (fun s => laws_markIntS.s0 x s.1 s.2.1 s.2.2) (by decide) (fun i u q hi hu hg hq1 hq2 => by
    have w1 : w64 (q + 1) = q + 1 := by rw [w64_id (by omega) (by omega)]
    have wi : w64 ((i : Int) + 1) = ((i + 1 : Nat) : Int) := by rw [w64_id (by omega) (by omega)]; omega
    simp only [laws_markIntS.s0, decide_eq_true (show (i : Int) < (x.length : Int) by omega), cond_true, if_pos (show (0 : Int) ≤ (i : Int) ∧ (i : Int) < (x.length : Int) by omega), Int.toNat_natCast, Option.bind_some, w1, wi, List.set_set, getD_set_self _ 0 _ (show i < u.length by omega), getD_set_self _ 0 _ (show i < (u.set i _).length by simp; omega), F_laws_markIntS]) (fun u q => by simp only [laws_markIntS.s0]; rw [decide_eq_false (by omega)]; rfl)
  refine ⟨k + 1 * x.length, mkL x 0 F_laws_markIntS 1 k, ?_, by omega, by omega, mkL_len .., ?_⟩
  · unfold laws_markIntS.f; rw [hm]; rfl
  · have hy := mkL_len x 0 F_laws_markIntS 1 k
    have hh := held_gen (ρ := Int) (mkL x 0 F_laws_markIntS 1 k) 1 k (fun s => laws_heldIntS.s0 (mkL x 0 F_laws_markIntS 1 k) s.1 s.2) (by decide) (fun i hi hq2 hq1 => by
    have hg := mkL_getD x 0 F_laws_markIntS 1 k (show i < x.length by omega)
    generalize hqq : k + 1 * (i : Int) = q at hg hq1 hq2 ⊢
    rw [hy] at hi hq2
    have w1 : w64 (q + 1) = q + 1 := by rw [w64_id (by omega) (by omega)]
    have wi : w64 ((i : Int) + 1) = ((i + 1 : Nat) : Int) := by rw [w64_id (by omega) (by omega)]; omega
    simp only [laws_heldIntS.s0, hy, decide_eq_true (show (i : Int) < (x.length : Int) by omega), cond_true, if_pos (show (0 : Int) ≤ (i : Int) ∧ (i : Int) < (x.length : Int) by omega), Int.toNat_natCast, Option.bind_some, w1, wi, hg, F_laws_markIntS, bne_self_eq_false, beq_self_eq_true, bs_self, Bool.not_true, cond_false]) (fun q => by simp only [laws_heldIntS.s0]; rw [decide_eq_false (by omega)]; rfl)
    rw [hy] at hh
    unfold laws_heldIntS.f; rw [hh]; rfl

def F_laws_markBlockS (q : Int) (x : S_Block) : S_Block := ⟨q, (q + 1), (q + 2)⟩
theorem mk_laws_markBlockS (x : List S_Block) (k : Int) (h0 : 0 ≤ k) (h1 : k ≤ 144115188075855872) (hl : x.length ≤ 1048576) : ∃ m a, laws_markBlockS.f x k = some (m, a) ∧ k ≤ m ∧ m ≤ k + 3145728 ∧ a.length = x.length ∧ laws_heldBlockS.f a k = some m := by
  have hm := mark_gen (ρ := Int × List S_Block) x z_Block F_laws_markBlockS 3 k (fun s => laws_markBlockS.s0 x s.1 s.2.1 s.2.2) (by decide) (fun i u q hi hu hg hq1 hq2 => by
    have w1 : w64 (q + 1) = q + 1 := by rw [w64_id (by omega) (by omega)]
    have w2 : w64 (q + 1 + 1) = q + 2 := by rw [w64_id (by omega) (by omega)]; omega
    have w3 : w64 (q + 2 + 1) = q + 3 := by rw [w64_id (by omega) (by omega)]; omega
    have wi : w64 ((i : Int) + 1) = ((i + 1 : Nat) : Int) := by rw [w64_id (by omega) (by omega)]; omega
    simp only [laws_markBlockS.s0, decide_eq_true (show (i : Int) < (x.length : Int) by omega), cond_true, if_pos (show (0 : Int) ≤ (i : Int) ∧ (i : Int) < (x.length : Int) by omega), Int.toNat_natCast, Option.bind_some, w1, w2, w3, wi, List.set_set, getD_set_self _ z_Block _ (show i < u.length by omega), getD_set_self _ z_Block _ (show i < (u.set i _).length by simp; omega), F_laws_markBlockS]) (fun u q => by simp only [laws_markBlockS.s0]; rw [decide_eq_false (by omega)]; rfl)
  refine ⟨k + 3 * x.length, mkL x z_Block F_laws_markBlockS 3 k, ?_, by omega, by omega, mkL_len .., ?_⟩
  · unfold laws_markBlockS.f; rw [hm]; rfl
  · have hy := mkL_len x z_Block F_laws_markBlockS 3 k
    have hh := held_gen (ρ := Int) (mkL x z_Block F_laws_markBlockS 3 k) 3 k (fun s => laws_heldBlockS.s0 (mkL x z_Block F_laws_markBlockS 3 k) s.1 s.2) (by decide) (fun i hi hq2 hq1 => by
    have hg := mkL_getD x z_Block F_laws_markBlockS 3 k (show i < x.length by omega)
    generalize hqq : k + 3 * (i : Int) = q at hg hq1 hq2 ⊢
    rw [hy] at hi hq2
    have w1 : w64 (q + 1) = q + 1 := by rw [w64_id (by omega) (by omega)]
    have w2 : w64 (q + 1 + 1) = q + 2 := by rw [w64_id (by omega) (by omega)]; omega
    have w3 : w64 (q + 2 + 1) = q + 3 := by rw [w64_id (by omega) (by omega)]; omega
    have wi : w64 ((i : Int) + 1) = ((i + 1 : Nat) : Int) := by rw [w64_id (by omega) (by omega)]; omega
    simp only [laws_heldBlockS.s0, hy, decide_eq_true (show (i : Int) < (x.length : Int) by omega), cond_true, if_pos (show (0 : Int) ≤ (i : Int) ∧ (i : Int) < (x.length : Int) by omega), Int.toNat_natCast, Option.bind_some, w1, w2, w3, wi, hg, F_laws_markBlockS, bne_self_eq_false, beq_self_eq_true, bs_self, Bool.not_true, cond_false]) (fun q => by simp only [laws_heldBlockS.s0]; rw [decide_eq_false (by omega)]; rfl)
    rw [hy] at hh
    unfold laws_heldBlockS.f; rw [hh]; rfl

theorem mk_laws_markBlockSS (x : List (List S_Block)) (k : Int) (h0 : 0 ≤ k) (h1 : k ≤ 144111889540972544) (hl : x.length ≤ 1048576 ∧ ∀ z0 : List S_Block, z0 ∈ x → (z0.length ≤ 1048576)) : ∃ m a, laws_markBlockSS.f x k = some (m, a) ∧ k ≤ m ∧ m ≤ k + 3298534883328 ∧ a.length = x.length ∧ laws_heldBlockSS.f a k = some m := by
  obtain ⟨hl1, hl2⟩ := hl
  obtain ⟨a, m, e1, e2, e3, e4, qs, e5, e6, e7⟩ := mark_gen2 (ρ := Int × (List (List S_Block))) x [] 3145728 k (fun e q q2 => laws_heldBlockS.f e q = some q2) (fun s => laws_markBlockSS.s0 x s.1 s.2.1 s.2.2) (by decide) (fun i u q hi hu hg hq1 hq2 => by
    have wi : w64 ((i : Int) + 1) = ((i + 1 : Nat) : Int) := by rw [w64_id (by omega) (by omega)]; omega
    obtain ⟨m2, b, f1, f2, f3, f4, f5⟩ := mk_laws_markBlockS (x.getD i []) q (by omega) (by omega) (hl2 _ (getD_mem hi _))
    refine ⟨b, m2, ?_, by omega, by omega, f5⟩
    simp only [laws_markBlockSS.s0, decide_eq_true (show (i : Int) < (x.length : Int) by omega), cond_true, if_pos (show (0 : Int) ≤ (i : Int) ∧ (i : Int) < (x.length : Int) by omega), Int.toNat_natCast, wi, List.set_set, getD_set_self _ [] _ (show i < u.length by omega), hg, f1, Option.bind_some]) (fun u q => by simp only [laws_markBlockSS.s0]; rw [decide_eq_false (by omega)]; rfl)
  refine ⟨m, a, ?_, e3, by omega, e2, ?_⟩
  · unfold laws_markBlockSS.f; rw [e1]; rfl
  · have hh := held_gen2 (ρ := Int) x.length qs (fun s => laws_heldBlockSS.s0 a s.1 s.2) (fun i hi => by
      obtain ⟨g1, g2, g3⟩ := e7 i hi
      generalize qs i = q at g1 g2 g3 ⊢
      have wi : w64 ((i : Int) + 1) = ((i + 1 : Nat) : Int) := by rw [w64_id (by omega) (by omega)]; omega
      have g5 := g3
      have g6 : ¬ qs (i + 1) < 0 := by
        by_cases hj : i + 1 < x.length
        · have := (e7 (i + 1) hj).1; omega
        · have : i + 1 = x.length := by omega
          rw [this, e6]; omega
      simp only [laws_heldBlockSS.s0, e2, decide_eq_true (show (i : Int) < (x.length : Int) by omega), cond_true, if_pos (show (0 : Int) ≤ (i : Int) ∧ (i : Int) < (x.length : Int) by omega), Int.toNat_natCast, wi, bne_self_eq_false, cond_false, g5, Option.bind_some, decide_eq_false g6]) (fun q => by simp only [laws_heldBlockSS.s0]; rw [decide_eq_false (by omega)]; rfl)
    rw [e5, e6] at hh
    unfold laws_heldBlockSS.f; rw [hh]; rfl

theorem mk_laws_markOram (x : S_Oram) (k : Int) (h0 : 0 ≤ k) (h1 : k ≤ 144111889536778240) (hl : (x.Pos.length ≤ 1048576) ∧ (x.Stash.length ≤ 1048576) ∧ (x.Buckets.length ≤ 1048576 ∧ ∀ z0 : List S_Block, z0 ∈ x.Buckets → (z0.length ≤ 1048576))) : ∃ m a0 a1 a2, laws_markOram.f x k = some (m, a0, a1, a2) ∧ k ≤ m ∧ m ≤ k + 3298539077632 ∧ ∀ y : S_Oram, y.Pos = a0 → y.Stash = a1 → y.Buckets = a2 → laws_heldOram.f y k = some m := by
  obtain ⟨m0, b0, e0, p0, q0, _, r0⟩ := mk_laws_markIntS x.Pos k (by omega) (by omega) hl.1
  obtain ⟨m1, b1, e1, p1, q1, _, r1⟩ := mk_laws_markBlockS x.Stash m0 (by omega) (by omega) hl.2.1
  obtain ⟨m2, b2, e2, p2, q2, _, r2⟩ := mk_laws_markBlockSS x.Buckets m1 (by omega) (by omega) hl.2.2
  refine ⟨m2, b0, b1, b2, ?_, by omega, by omega, ?_⟩
  · unfold laws_markOram.f; simp only [e0, e1, e2, Option.bind_some]
  · intro y y0 y1 y2
    have s0 : laws_heldIntS.f y.Pos k = some m0 := by rw [y0]; exact r0
    have s1 : laws_heldBlockS.f y.Stash m0 = some m1 := by rw [y1]; exact r1
    have s2 : laws_heldBlockSS.f y.Buckets m1 = some m2 := by rw [y2]; exact r2
    unfold laws_heldOram.f; simp only [s0, decide_eq_false (show ¬ m0 < 0 by omega), s1, decide_eq_false (show ¬ m1 < 0 by omega), s2, decide_eq_false (show ¬ m2 < 0 by omega), Option.bind_some, cond_false]

theorem mk_laws_markEnc (x : S_Enc) (k : Int) (h0 : 0 ≤ k) (h1 : k ≤ 144111889535729664) (hl : (x.Keys.length ≤ 1048576) ∧ ((x.Oram.Pos.length ≤ 1048576) ∧ (x.Oram.Stash.length ≤ 1048576) ∧ (x.Oram.Buckets.length ≤ 1048576 ∧ ∀ z0 : List S_Block, z0 ∈ x.Oram.Buckets → (z0.length ≤ 1048576)))) : ∃ m a0 a1 a2 a3, laws_markEnc.f x k = some (m, a0, a1, a2, a3) ∧ k ≤ m ∧ m ≤ k + 3298540126208 ∧ ∀ y : S_Enc, y.Keys = a0 → y.Oram.Pos = a1 → y.Oram.Stash = a2 → y.Oram.Buckets = a3 → laws_heldEnc.f y k = some m := by
  obtain ⟨m0, b0, e0, p0, q0, _, r0⟩ := mk_laws_markIntS x.Keys k (by omega) (by omega) hl.1
  obtain ⟨m1, b1, b2, b3, e1, p1, q1, r1⟩ := mk_laws_markOram x.Oram m0 (by omega) (by omega) hl.2
  refine ⟨m1, b0, b1, b2, b3, ?_, by omega, by omega, ?_⟩
  · unfold laws_markEnc.f; simp only [e0, e1, Option.bind_some]
  · intro y y0 y1 y2 y3
    have s0 : laws_heldIntS.f y.Keys k = some m0 := by rw [y0]; exact r0
    have s1 : laws_heldOram.f y.Oram m0 = some m1 := r1 _ y1 y2 y3
    unfold laws_heldEnc.f; simp only [s0, decide_eq_false (show ¬ m0 < 0 by omega), s1, decide_eq_false (show ¬ m1 < 0 by omega), Option.bind_some, cond_false]

end Go.Proofs.Ytlbbkehdfgjneaa
