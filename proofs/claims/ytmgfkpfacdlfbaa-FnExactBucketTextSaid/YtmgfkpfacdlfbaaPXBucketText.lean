/- What the models of these functions come to. -/
import Derived.Test.YtmgfkpfacdlfbaaP0
import Derived.Test.YtmgfkpfacdlfbaaGXBucketText
namespace Go.Proofs.Ytmgfkpfacdlfbaa
open Go Go.Z Go.Proofs Go.MuLone Go.ChangeShapes Go.WideShapes Go.ChangeAt Go.RowKit
set_option linter.unusedVariables false
set_option linter.unusedSimpArgs false
def blkI (L : List Int) (s : Nat × Bool) : S_Block × (Nat × Bool) := (⟨(nI L 0 11 s).1, (nI L 0 7 (nI L 0 11 s).2).1, (nI L 0 999999 (nI L 0 7 (nI L 0 11 s).2).2).1⟩, (nI L 0 999999 (nI L 0 7 (nI L 0 11 s).2).2).2)
def blkS (L : List Int) (q : Nat) : S_Block × Nat := (⟨(nS L q).1, (nS L (nS L q).2).1, (nS L (nS L (nS L q).2).2).1⟩, (nS L (nS L (nS L q).2).2).2)
def rngB (b : S_Block) : Bool := inB b.Id 0 11 && inB b.Leaf 0 7 && inB b.Value 0 999999
theorem blk_pair (L : List Int) : RPair L (blkI L) (blkS L) rngB :=
  RPair.seq (α := Int × Int) (RPair.seq (RPair.base L 0 11 (by decide)) (RPair.base L 0 7 (by decide)) Prod.mk (fun ab => inB ab.1 0 11 && inB ab.2 0 7) (fun _ _ => rfl)) (RPair.base L 0 999999 (by decide)) (fun ab c => ⟨ab.1, ab.2, c⟩) rngB (fun _ _ => rfl)
theorem blkS_le {L : List Int} {q : Nat} (h : q ≤ L.length + 1) : (blkS L q).2 ≤ L.length + 1 := nS_le (nS_le (nS_le h))

def blkInts (l : List S_Block) : List Int := l.flatMap (fun b => [b.Id, b.Leaf, b.Value])
theorem blkInts_snoc (l : List S_Block) (b : S_Block) : blkInts (l ++ [b]) = blkInts l ++ [b.Id, b.Leaf, b.Value] := by simp [blkInts]
theorem blkInts_len (l : List S_Block) : (blkInts l).length = 3 * l.length := by
  induction l with
  | nil => rfl
  | cons a l ih =>
    show ([a.Id, a.Leaf, a.Value] ++ blkInts l).length = _
    rw [List.length_append, ih]; simp only [List.length_cons, List.length_nil]; omega

theorem ok_laws_szBlockS (x : List S_Block) (n : Int) (h0 : 0 ≤ n) (h1 : n ≤ 1048576) (g : (x.length ≤ maxLen ∧ ∀ y : S_Block, y ∈ x → (((Lit.int .i64 y.Id).wf = true) ∧ ((Lit.int .i64 y.Leaf).wf = true) ∧ ((Lit.int .i64 y.Value).wf = true)))) : ∃ m, laws_szBlockS.f x n = some m ∧ (m < 0 ∨ (0 ≤ m ∧ m ≤ n ∧ (x.length ≤ 1048576))) := by
  have hM : maxLen = 9223372036854775807 := rfl
  have g1 := g.1
  unfold laws_szBlockS.f
  rw [w64_id (x := n - (x.length : Int)) (by omega) (by omega)]
  by_cases h : n - (x.length : Int) < 0
  · rw [decide_eq_true h]; exact ⟨_, rfl, .inl (by decide)⟩
  rw [decide_eq_false h]; simp only [cond_false]
  exact ⟨_, rfl, .inr ⟨by omega, by omega, by omega⟩⟩

theorem l01In_eq (x lo hi : Int) : spec_l01In.f x lo hi = some (inB x lo hi) := by
  unfold spec_l01In.f inB; cases decide (lo ≤ x) <;> rfl

theorem l12Blocks_eq (l : List S_Block) (h : l.length ≤ 1048576) : spec_l12Blocks.f l = some (l.all rngB && decide ((l.length : Int) ≤ 2)) := by
  unfold spec_l12Blocks.f
  have := loopO_scan (step := fun s => spec_l12Blocks.s0 l s) (fun k => (k : Int)) l.length (fun k => rngB (l.getD k z_Block)) (b := false) (t := ()) (fun k hk => by
    simp only [spec_l12Blocks.s0, decide_eq_true (show (k : Int) < (l.length : Int) by omega), cond_true, if_pos (show (0 : Int) ≤ (k : Int) ∧ (k : Int) < (l.length : Int) by omega), Int.toNat_natCast, l01In_eq, Option.bind_some, rngB]
    rw [w64_id (by omega) (by omega)]
    cases inB (l.getD k z_Block).Id 0 11 <;> cases inB (l.getD k z_Block).Leaf 0 7 <;> cases inB (l.getD k z_Block).Value 0 999999 <;> rfl) (by
    simp only [spec_l12Blocks.s0]
    rw [decide_eq_false (by omega)]; rfl)
  have t2 : loopO (fun s => spec_l12Blocks.s0 l s) 0 = _ := this
  rw [t2, all_range l z_Block rngB]
  cases l.all rngB <;> rfl

theorem l06Ints_eq (l : List Int) (h : l.length ≤ 1048576) : spec_l06Ints.f l = some (strOfNums (textL l)) := by
  unfold spec_l06Ints.f
  have := loopO_run (step := fun s : List Int × Int => spec_l06Ints.s0 l s.1 s.2) (fun k => (textL (l.take k), (k : Int))) l.length (r := .out (textL l)) (fun k hk => by
    have hl := textL_len (l.take k)
    rw [List.length_take] at hl
    simp only [spec_l06Ints.s0, spec_l02Bytes.f, decide_eq_true (show (k : Int) < (l.length : Int) by omega), cond_true, if_pos (show (0 : Int) ≤ (k : Int) ∧ (k : Int) < (l.length : Int) by omega), Int.toNat_natCast]
    rw [if_pos (by simp only [List.length_cons, List.length_nil]; omega), w64_id (by omega) (by omega), take_snoc l k hk 0, textL_snoc, bytes4_eq]
    rfl) (by
    simp only [spec_l06Ints.s0]
    rw [decide_eq_false (by omega), List.take_length]; rfl)
  have t2 : loopO (fun s : List Int × Int => spec_l06Ints.s0 l s.1 s.2) (([] : List Int), 0) = _ := this
  rw [t2]; rfl

theorem l12Fill_eq (l : List Int) (n : Nat) (h : l.length ≤ n) (hn : n ≤ 1048576) : spec_l12Fill.f l (n : Int) = some (strOfNums (textL (l ++ List.replicate (n - l.length) 0))) := by
  unfold spec_l12Fill.f
  have := loopO_run (step := fun s : List Int => spec_l12Fill.s0 (n : Int) s) (fun k => l ++ List.replicate k 0) (n - l.length) (r := .out (l ++ List.replicate (n - l.length) 0)) (fun k hk => by
    simp only [spec_l12Fill.s0, List.length_append, List.length_replicate, List.length_cons, List.length_nil]
    rw [decide_eq_true (by omega), cond_true, if_pos (by omega), List.append_assoc, show ([0] : List Int) = List.replicate 1 0 from rfl, List.replicate_append_replicate]) (by
    simp only [spec_l12Fill.s0, List.length_append, List.length_replicate]
    rw [decide_eq_false (by omega)]; rfl)
  have e0 : l ++ List.replicate 0 0 = l := by simp
  have this : loopO (fun s : List Int => spec_l12Fill.s0 (n : Int) s) (l ++ List.replicate 0 0) = _ := this
  rw [e0] at this
  rw [this]
  simp only [Option.bind_some]
  rw [l06Ints_eq _ (by simp; omega)]
  rfl

theorem l12Bucket_eq (l : List S_Block) (h : l.length ≤ 2) : spec_l12Bucket.f l = some (strOfNums (textL (([(l.length : Int)] ++ blkInts l) ++ List.replicate (7 - ([(l.length : Int)] ++ blkInts l).length) 0))) := by
  unfold spec_l12Bucket.f
  have := loopO_run (step := fun s : List Int × Int => spec_l12Bucket.s0 l s.1 s.2) (fun k => ([(l.length : Int)] ++ blkInts (l.take k), (k : Int))) l.length (r := .out ([(l.length : Int)] ++ blkInts l)) (fun k hk => by
    have hl := blkInts_len (l.take k)
    rw [List.length_take] at hl
    simp only [spec_l12Bucket.s0, decide_eq_true (show (k : Int) < (l.length : Int) by omega), cond_true, if_pos (show (0 : Int) ≤ (k : Int) ∧ (k : Int) < (l.length : Int) by omega), Int.toNat_natCast]
    rw [if_pos (by simp only [List.length_append, List.length_cons, List.length_nil]; omega), w64_id (by omega) (by omega), take_snoc l k hk z_Block, blkInts_snoc, List.append_assoc]
    rfl) (by
    simp only [spec_l12Bucket.s0]
    rw [decide_eq_false (by omega), List.take_length]; rfl)
  have t2 : loopO (fun s : List Int × Int => spec_l12Bucket.s0 l s.1 s.2) ([(l.length : Int)], 0) = _ := this
  rw [t2]
  simp only [Option.bind_some]
  have hl := blkInts_len l
  have := l12Fill_eq ([(l.length : Int)] ++ blkInts l) 7 (by simp only [List.length_append, List.length_cons, List.length_nil]; omega) (by decide)
  rw [show ((7 : Nat) : Int) = 7 from rfl] at this
  rw [this]; rfl

theorem id_laws_toBlock (x : S_Block) : laws_toBlock.f x = some x := by
  unfold laws_toBlock.f
  rfl

theorem id_laws_toBlockS (x : List S_Block) (h : x.length ≤ 1048576) : laws_toBlockS.f x = some x := by
  have hlen : x.length ≤ 1048576 := h
  unfold laws_toBlockS.f
  rw [if_pos (by omega)]
  have h0 : ((x.length : Int)).toNat = x.length := by simp
  rw [h0, ← filled_zero x z_Block]
  have := loopO_run (step := fun s => laws_toBlockS.s0 x s.1 s.2) (fun k => (filled x z_Block k, (k : Int))) x.length (r := .out x) (fun k hk => by
    have hl := filled_len x z_Block k (by omega)
    simp only [laws_toBlockS.s0, id_laws_toBlock (x.getD k z_Block), decide_eq_true (show (k : Int) < (x.length : Int) by omega), cond_true, if_pos (show (0 : Int) ≤ (k : Int) ∧ (k : Int) < (x.length : Int) by omega), Option.bind_some, if_pos (show (0 : Int) ≤ (k : Int) ∧ (k : Int) < ((filled x z_Block k).length : Int) by omega), Int.toNat_natCast]
    rw [w64_id (by omega) (by omega), filled_set x z_Block k hk]
    rfl) (by
    simp only [laws_toBlockS.s0, filled_all]
    rw [decide_eq_false (by omega)]; rfl)
  have this2 : loopO (fun s => laws_toBlockS.s0 x s.1 s.2) (filled x z_Block 0, 0) = some (.out x) := this
  rw [this2]
  rfl

theorem idx_slices_IndexFunc_impl_Block_impl_Block (l : List S_Block) (q : S_Block → Option Bool) (p : S_Block → Bool) (h : l.length ≤ 1073741824) (hq : ∀ x, x ∈ l → q x = some (p x)) : slices_IndexFunc_impl_Block_impl_Block.f l q = some (idxOf l z_Block p) := by
  unfold slices_IndexFunc_impl_Block_impl_Block.f idxOf
  have := loopO_find (step := fun s => slices_IndexFunc_impl_Block_impl_Block.s0 l q s) (fun k => (k : Int)) l.length (fun k => p (l.getD k z_Block)) (fun k => (k : Int)) (t := ()) (fun k hk => by
    simp only [slices_IndexFunc_impl_Block_impl_Block.s0, decide_eq_true (show (k : Int) < (l.length : Int) by omega), cond_true, if_pos (show (0 : Int) ≤ (k : Int) ∧ (k : Int) < (l.length : Int) by omega), Int.toNat_natCast, hq _ (getD_mem hk _), Option.bind_some]
    rw [w64_id (by omega) (by omega)]
    cases p (l.getD k z_Block) <;> rfl) (by
    simp only [slices_IndexFunc_impl_Block_impl_Block.s0]
    rw [decide_eq_false (by omega)]; rfl)
  rw [show ((0 : Int)) = ((0 : Nat) : Int) from rfl, this]
  cases (List.range l.length).find? (fun k => p (l.getD k z_Block)) <;> rfl

theorem any_slices_ContainsFunc_impl_Block_impl_Block (l : List S_Block) (q : S_Block → Option Bool) (p : S_Block → Bool) (h : l.length ≤ 1073741824) (hq : ∀ x, x ∈ l → q x = some (p x)) : slices_ContainsFunc_impl_Block_impl_Block.f l q = some (l.any p) := by
  unfold slices_ContainsFunc_impl_Block_impl_Block.f
  rw [idx_slices_IndexFunc_impl_Block_impl_Block l q p h hq, ← idxOf_any l z_Block p]
  rfl

theorem all_impl_areAll_impl_Block (l : List S_Block) (q : S_Block → Option Bool) (p : S_Block → Bool) (h : l.length ≤ 1073741824) (hq : ∀ x, x ∈ l → q x = some (p x)) : impl_areAll_impl_Block.f l q = some (l.all p) := by
  unfold impl_areAll_impl_Block.f
  rw [any_slices_ContainsFunc_impl_Block_impl_Block l _ (fun x => !p x) h (fun x hx => by unfold impl_areAll_impl_Block__c1.f; rw [hq x hx]; rfl)]
  simp only [Option.bind_some, List.any_eq_not_all_not, Bool.not_not]

theorem within_eq (x lo hi : Int) : impl_within.f x lo hi = some (inB x lo hi) := by
  unfold impl_within.f inB; cases decide (lo ≤ x) <;> rfl

theorem isLeaf_eq (x : Int) : impl_isLeaf.f x = some (inB x 0 7) := by unfold impl_isLeaf.f; rw [within_eq]; rfl

theorem isValue_eq (x : Int) : impl_isValue.f x = some (inB x 0 999999) := by unfold impl_isValue.f; rw [within_eq]; rfl

theorem isBlock_eq (b : S_Block) : impl_isBlock.f b = some (rngB b) := by
  unfold impl_isBlock.f impl_isId.f impl_isLeaf.f rngB
  simp only [within_eq, isValue_eq, Option.bind_some]
  cases inB b.Id 0 11 <;> cases inB b.Leaf 0 7 <;> cases inB b.Value 0 999999 <;> rfl

theorem little_eq (x : Int) : impl_little.f x 4 = some (strOfNums (bytes4 x)) := by
  unfold impl_little.f
  have := loopO_run (step := fun s : List Int × Int => impl_little.s0 x 4 s.1 s.2) (fun k => ((List.range k).map (by4 x), (k : Int))) 4 (r := .out (bytes4 x)) (fun k hk => by
    simp only [impl_little.s0, decide_eq_true (show (k : Int) < 4 by omega), cond_true]
    rw [w64_id (x := 8 * (k : Int)) (by omega) (by omega), w64_id (x := (k : Int) + 1) (by omega) (by omega), if_pos (by omega), if_pos (by simp; omega), show min (8 * (k : Int)).toNat 64 = 8 * k by omega, List.range_succ, List.map_append]
    rfl) rfl
  have t2 : loopO (fun s : List Int × Int => impl_little.s0 x 4 s.1 s.2) (([] : List Int), 0) = _ := this
  rw [t2]; rfl

theorem intsText_eq (l : List Int) (h : l.length ≤ 1048576) : impl_intsText.f l = some (strOfNums (textL l)) := by
  unfold impl_intsText.f
  have := loopO_run (step := fun s : Int × ByteArray => impl_intsText.s0 l s.1 s.2) (fun k => ((k : Int), strOfNums (textL (l.take k)))) l.length (r := .out (strOfNums (textL l))) (fun k hk => by
    simp only [impl_intsText.s0, decide_eq_true (show (k : Int) < (l.length : Int) by omega), cond_true, if_pos (show (0 : Int) ≤ (k : Int) ∧ (k : Int) < (l.length : Int) by omega), Int.toNat_natCast, little_eq, Option.bind_some]
    rw [if_pos (by rw [strOfNums_size, strOfNums_size, textL_len, bytes4_len, List.length_take]; omega), w64_id (by omega) (by omega), take_snoc l k hk 0, textL_snoc, str_append]
    rfl) (by
    simp only [impl_intsText.s0]
    rw [decide_eq_false (by omega), List.take_length]; rfl)
  have t2 : loopO (fun s : Int × ByteArray => impl_intsText.s0 l s.1 s.2) (0, (⟨#[]⟩ : ByteArray)) = _ := this
  rw [t2]; rfl

theorem textOf_eq (l : List Int) (n : Nat) (h : l.length ≤ n) (hn : n ≤ 1048576) : impl_textOf.f l (n : Int) = some (strOfNums (textL (l ++ List.replicate (n - l.length) 0))) := by
  unfold impl_textOf.f
  rw [w64_id (by omega) (by omega), if_pos (by omega), show ((n : Int) - (l.length : Int)).toNat = n - l.length by omega, intsText_eq _ (by simp; omega)]
  rfl

theorem blocksInts_eq (l : List S_Block) (h : l.length ≤ 1048576) : impl_blocksInts.f l = some ([(l.length : Int)] ++ blkInts l) := by
  unfold impl_blocksInts.f
  have := loopO_run (step := fun s : List Int × Int => impl_blocksInts.s0 l s.1 s.2) (fun k => ([(l.length : Int)] ++ blkInts (l.take k), (k : Int))) l.length (r := .out ([(l.length : Int)] ++ blkInts l)) (fun k hk => by
    have hl := blkInts_len (l.take k)
    rw [List.length_take] at hl
    simp only [impl_blocksInts.s0, decide_eq_true (show (k : Int) < (l.length : Int) by omega), cond_true, if_pos (show (0 : Int) ≤ (k : Int) ∧ (k : Int) < (l.length : Int) by omega), Int.toNat_natCast]
    rw [if_pos (by simp only [List.length_append, List.length_cons, List.length_nil]; omega), w64_id (by omega) (by omega), take_snoc l k hk z_Block, blkInts_snoc, List.append_assoc]
    rfl) (by
    simp only [impl_blocksInts.s0]
    rw [decide_eq_false (by omega), List.take_length]; rfl)
  have t2 : loopO (fun s : List Int × Int => impl_blocksInts.s0 l s.1 s.2) ([(l.length : Int)], 0) = _ := this
  rw [t2]; rfl

theorem refl_laws_eqBlock (x : S_Block) : laws_eqBlock.f x x = some true := by
  unfold laws_eqBlock.f
  simp only [bne_self_eq_false, beq_self_eq_true, Bool.not_true, cond_false, Option.bind_some]

theorem reflF_laws_eqBlock (x : S_Block) : laws_eqBlock.f x x = some true := by
  unfold laws_eqBlock.f
  simp only [bne_self_eq_false, beq_self_eq_true, bs_self, Bool.not_true, cond_false, Option.bind_some]

theorem refl_laws_eqBlockS (x : List S_Block) (h : x.length ≤ 1048576) : laws_eqBlockS.f x x = some true := by
  have hlen : x.length ≤ 1048576 := h
  unfold laws_eqBlockS.f
  rw [show ((x.length : Int) != (x.length : Int)) = false from by simp]
  have := loopO_run (step := fun s => laws_eqBlockS.s0 x x s) (fun k => (k : Int)) x.length (r := .out ()) (fun k hk => by
    simp only [laws_eqBlockS.s0, decide_eq_true (show (k : Int) < (x.length : Int) by omega), cond_true, if_pos (show (0 : Int) ≤ (k : Int) ∧ (k : Int) < (x.length : Int) by omega), Int.toNat_natCast, refl_laws_eqBlock (x.getD k z_Block), bne_self_eq_false, beq_self_eq_true, Bool.not_true, cond_false, Option.bind_some]
    rw [w64_id (by omega) (by omega)]
    rfl) (by
    simp only [laws_eqBlockS.s0]
    rw [decide_eq_false (by omega)]; rfl)
  rw [show ((0 : Int)) = ((0 : Nat) : Int) from rfl, this]
  rfl

theorem reflL_laws_eqBlockS (x : List S_Block) (h : x.length ≤ 1048576) : laws_eqBlockS.f x x = some true := by
  have hlen : x.length ≤ 1048576 := h
  unfold laws_eqBlockS.f
  rw [show ((x.length : Int) != (x.length : Int)) = false from by simp]
  have := loopO_run (step := fun s => laws_eqBlockS.s0 x x s) (fun k => (k : Int)) x.length (r := .out ()) (fun k hk => by
    simp only [laws_eqBlockS.s0, decide_eq_true (show (k : Int) < (x.length : Int) by omega), cond_true, if_pos (show (0 : Int) ≤ (k : Int) ∧ (k : Int) < (x.length : Int) by omega), Int.toNat_natCast, reflF_laws_eqBlock (x.getD k z_Block), bne_self_eq_false, beq_self_eq_true, bs_self, Bool.not_true, cond_false, Option.bind_some]
    rw [w64_id (by omega) (by omega)]
    rfl) (by
    simp only [laws_eqBlockS.s0]
    rw [decide_eq_false (by omega)]; rfl)
  rw [show ((0 : Int)) = ((0 : Nat) : Int) from rfl, this]
  rfl

end Go.Proofs.Ytmgfkpfacdlfbaa
