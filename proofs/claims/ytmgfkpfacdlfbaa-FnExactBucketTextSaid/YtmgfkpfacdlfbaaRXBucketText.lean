/- FnExactBucketText: for every input the law returns true, and its arguments read as before. No conditions but the row's own. -/
import Derived.Test.YtmgfkpfacdlfbaaPXBucketText
namespace Go.Proofs.Ytmgfkpfacdlfbaa.RXBucketText
open Go Go.Z Go.Proofs Go.MuLone Go.ChangeShapes Go.WideShapes Go.ChangeAt Go.RowKit
set_option linter.unusedVariables false
set_option linter.unusedSimpArgs false
theorem ex_BucketText (x0 : List S_Block) (g0 : (x0.length ≤ maxLen ∧ ∀ y : S_Block, y ∈ x0 → (((Lit.int .i64 y.Id).wf = true) ∧ ((Lit.int .i64 y.Leaf).wf = true) ∧ ((Lit.int .i64 y.Value).wf = true)))) (h0 : x0.length ≤ 1048576) : ∃ r, spec_BucketText.f x0 = some r ∧ impl_BucketText.f x0 = some r ∧ True := by
  have hl : x0.length ≤ 1048576 := by first | exact h0 | exact h0.1
  unfold spec_BucketText.f impl_BucketText.f
  cases decide ((x0.length : Int) > 4096)
  case true => exact ⟨_, rfl, rfl, by simp⟩
  simp only [cond_false, l12Blocks_eq x0 hl, all_impl_areAll_impl_Block x0 _ rngB (by omega) (fun x _ => isBlock_eq x), Option.bind_some]
  by_cases h2 : (x0.length : Int) > 2
  · rw [decide_eq_true h2, decide_eq_false (show ¬ (x0.length : Int) ≤ 2 by omega)]
    simp only [Bool.and_false, Bool.not_false, cond_true, Option.bind_some]
    exact ⟨_, rfl, rfl, by simp⟩
  rw [decide_eq_false h2, decide_eq_true (show (x0.length : Int) ≤ 2 by omega)]
  simp only [Bool.and_true, cond_false, Option.bind_some]
  cases hb : x0.all rngB
  case false => exact ⟨_, rfl, rfl, by simp⟩
  have hbl := blkInts_len x0
  have := textOf_eq ([(x0.length : Int)] ++ blkInts x0) 7 (by simp only [List.length_append, List.length_cons, List.length_nil]; omega) (by decide)
  rw [show ((7 : Nat) : Int) = 7 from rfl] at this
  simp only [Bool.not_true, cond_false, impl_bucketText.f, blocksInts_eq x0 hl, l12Bucket_eq x0 (by omega), this, Option.bind_some]
  exact ⟨_, rfl, rfl, by simp⟩

theorem pure_laws_FnExactBucketText (x0 : List S_Block) (g0 : (x0.length ≤ maxLen ∧ ∀ y : S_Block, y ∈ x0 → (((Lit.int .i64 y.Id).wf = true) ∧ ((Lit.int .i64 y.Leaf).wf = true) ∧ ((Lit.int .i64 y.Value).wf = true)))) : laws_FnExactBucketText.f x0 = some true := by
  simp only [laws_FnExactBucketText.f, Option.bind_some]
  obtain ⟨m0, e0, h0⟩ := ok_laws_szBlockS x0 1048576 (by omega) (by omega) g0
  simp only [e0, Option.bind_some]
  rcases h0 with h0 | ⟨p0, q0, h0⟩
  · rw [decide_eq_true h0]; rfl
  rw [decide_eq_false (show ¬ m0 < 0 by omega)]; simp only [cond_false]
  obtain ⟨r, hs, hi, hl⟩ := ex_BucketText x0 g0 h0
  obtain ⟨r0, r1⟩ := r
  simp only [id_laws_toBlockS x0 h0, reflL_laws_eqBlockS x0 h0, hs, hi, Option.bind_some, bne_self_eq_false, bs_self, beq_self_eq_true, Bool.not_true, cond_false, cond_true]
theorem cz3 : Try.prog.cellsOf 3 = 1 := by kernel_rfl
theorem cz83 : Try.prog.cellsOf 83 = 3 := by kernel_rfl
theorem op83 {w : World} : Opens Try.prog w 83 L_Block (fun x => ((Lit.int .i64 x.Id).wf = true) ∧ ((Lit.int .i64 x.Leaf).wf = true) ∧ ((Lit.int .i64 x.Value).wf = true)) :=
  (opens_struct Try.underlying83 cz83 (opensF_cons rfl cz3 (opens_int Try.underlying3) (opensF_cons rfl cz3 (opens_int Try.underlying3) (opensF_one cz3 (opens_int Try.underlying3))))).conv (fun y cs c h g => ⟨⟨y.1, y.2.1, y.2.2⟩, by obtain ⟨_, _, rfl, rfl, _, _, rfl, rfl, rfl⟩ := h; rfl, g⟩)
theorem own : ownKnob Try.prog.godebug = none := by kernel_rfl
theorem laidOut : laidOutB Try.prog = true := by kernel_rfl
set_option maxRecDepth 100000 in
theorem lifted (os : Os) (started : os.Started) (H : Type) (enc : TypeId × Value → H) :
    ReturnsInHanded {} Try.checked os 3 .any (Rows.fnExactBucketTextSpec.pre6 enc Try.prog Try.f3 Rows.fnExactBucketTextRow.domain false) (Rows.fnExactBucketTextSpec.post enc Try.prog Try.f3 false true false false) := by
  refine returnsInHanded_of_change_sized (C := Try.checked) own started (by kernel_rfl) Try.func3
    (ChangeSpec.witness6 (enc := enc) (C := Try.checked) false ⟨#[], #[.slice none 0 0], []⟩ 8 (by kernel_rfl) (by kernel_rfl) (by kernel_rfl) (by kernel_rfl)) ?_
  intro W base args ds gs before hval0 hW hcnd hsz0 _
  have hval : ∀ (j : Nat) t v, Try.f3.params[j]? = some t → args[j]? = some v → Value.okWide Try.prog W .any base t v := hval0
  have hW' := hW
  obtain ⟨p, q, hA0, hV, rfl, hfz, hnd⟩ := hW
  have hA : DataW.TrodAll enc Try.prog W 0 (fun _ => true) true Try.f3.params.toList args.toList ds p := hA0
  rw [Try.params3] at hA hval
  obtain ⟨v0, vs0, d0, ds0, p0, q0, hargs, rfl, rfl, h0, r0⟩ := trodAll_cons hA
  obtain ⟨rfl, rfl, rfl⟩ := trodAll_nil r0
  obtain rfl : args = #[v0] := by cases args; simp_all
  obtain ⟨rfl, rfl⟩ := trodVars_none hV
  have k0 := h0
  have lt0 : ∀ x ∈ p0, x.block < W.heap.size := by obtain ⟨m, hm⟩ := k0; exact DataW.trod_lt m _ _ _ hm
  obtain ⟨f0, hf0⟩ := h0
  obtain ⟨y0, hy0, hg0⟩ := (opens_sl Try.underlying22 cz83 (by decide) op83) H enc f0 _ _ hf0
  obtain ⟨A0_, p0_, e0, w0_⟩ : ∃ A p, v0 = Value.slice A y0.length p ∧ View L_Block A p y0 (heapC W) := by
    obtain ⟨A, n, c, rfl⟩ := okWide_slice Try.underlying22 (hval 0 22 v0 rfl rfl)
    obtain ⟨v, hv, A, p, rfl, hh⟩ := hy0
    simp only [Value.cells] at hv
    exact ⟨A, p, by simpa using hv, hh⟩
  subst e0
  clear hA0 hval0 hsz0
  refine (laws_FnExactBucketText_t W A0_ p0_ y0 (heapC W) w0_ (heapC_has W) true (pure_laws_FnExactBucketText y0 hg0)).mono fun e W' ⟨v, he, hv, hS⟩ => ?_
  subst he; subst hv
  have bel := hS.below
  exact ⟨_, rfl, _, _, _, [], _, [], hW', trodAll_mk1 (shutB Try.underlying4 _), (trodAll_cons_mk (Below.trod laidOut (by kernel_rfl) (of_decide_eq_true (by kernel_rfl)) k0 bel lt0) trodAll_mk0), rfl, bel.frame _, fun h => by cases h⟩
theorem over : Rows.fnExactBucketTextRow.holds Try.pinned (OpenSpec.ofChange Rows.fnExactBucketTextSpec) :=
  OpenClaim.holds_of_wide 3 Try.f3 rfl rfl rfl rfl rfl rfl rfl ⟨rfl, rfl, rfl, rfl, rfl⟩ rfl rfl rfl rfl rfl (by kernel_rfl) Try.func3 (by kernel_rfl)
    (of_decide_eq_true (by kernel_rfl)) (by unfold Func.isWrapper; first | (rw [if_pos (by decide +kernel)]; kernel_rfl) | (rw [if_neg (by decide +kernel)]; exact ⟨rfl, rfl⟩))
    (fun os started H enc _ => lifted os started H enc)
theorem fnExactBucketText_holds : Rows.FnExactBucketTextSaid := over
end Go.Proofs.Ytmgfkpfacdlfbaa.RXBucketText
