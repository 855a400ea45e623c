/- FnExactBatchOK: for every input the law returns true, and its arguments read as before. No conditions but the row's own. -/
import Derived.Test.YtjelagjijnpkdaaPXBatchOK
namespace Go.Proofs.Ytjelagjijnpkdaa.RXBatchOK
open Go Go.Z Go.Proofs Go.MuLone Go.ChangeShapes Go.WideShapes Go.ChangeAt Go.RowKit
set_option linter.unusedVariables false
set_option linter.unusedSimpArgs false
theorem pure_laws_FnExactBatchOK (x0 : List S_Txn) (g0 : (x0.length ≤ maxLen ∧ ∀ y : S_Txn, y ∈ x0 → ((y.Ops.length ≤ maxLen ∧ ∀ y1 : S_Op, y1 ∈ y.Ops → (((Lit.int .i64 y1.Kind).wf = true) ∧ ((Lit.int .i64 y1.Key).wf = true) ∧ ((Lit.int .i64 y1.Value).wf = true)))))) : laws_FnExactBatchOK.f x0 = some true := by
  obtain ⟨m, e, h⟩ := ok_laws_szTxnS x0 1048576 (by decide) (by decide) g0
  simp only [laws_FnExactBatchOK.f, e, Option.bind_some]
  rcases h with h | ⟨h1, h2, h⟩
  · rw [decide_eq_true h]; rfl
  rw [decide_eq_false (by omega)]
  have hb : x0.length ≤ 1073741824 ∧ ∀ y, y ∈ x0 → y.Ops.length ≤ 1073741824 := ⟨by have := h.1; omega, fun y hy => by have := h.2 y hy; omega⟩
  simp only [id_laws_toTxnS x0 h, spec_BatchOK_eq x0 hb, impl_BatchOK_eq x0 hb, refl_laws_eqTxnS x0 h, Option.bind_some, cond_false, beq_self_eq_true]
  rfl
theorem cz3 : Try.prog.cellsOf 3 = 1 := by kernel_rfl
theorem cz23 : Try.prog.cellsOf 23 = 3 := by kernel_rfl
theorem cz76 : Try.prog.cellsOf 76 = 1 := by kernel_rfl
theorem cz78 : Try.prog.cellsOf 78 = 1 := by kernel_rfl
theorem op23 {w : World} : Opens Try.prog w 23 L_Op (fun x => ((Lit.int .i64 x.Kind).wf = true) ∧ ((Lit.int .i64 x.Key).wf = true) ∧ ((Lit.int .i64 x.Value).wf = true)) :=
  (opens_struct Try.underlying23 cz23 (opensF_cons rfl cz3 (opens_int Try.underlying3) (opensF_cons rfl cz3 (opens_int Try.underlying3) (opensF_one cz3 (opens_int Try.underlying3))))).conv (fun y cs c h g => ⟨⟨y.1, y.2.1, y.2.2⟩, by obtain ⟨_, _, rfl, rfl, _, _, rfl, rfl, rfl⟩ := h; rfl, g⟩)
theorem op78 {w : World} : Opens Try.prog w 78 L_laws_Txn (fun x => ((x.Ops.length ≤ maxLen ∧ ∀ y : S_Op, y ∈ x.Ops → (((Lit.int .i64 y.Kind).wf = true) ∧ ((Lit.int .i64 y.Key).wf = true) ∧ ((Lit.int .i64 y.Value).wf = true))))) :=
  (opens_struct Try.underlying78 cz78 (opensF_one cz76 (opens_sl Try.underlying76 cz23 (by decide) op23))).conv (fun y cs c h g => ⟨⟨y⟩, h, g⟩)
theorem own : ownKnob Try.prog.godebug = none := by kernel_rfl
theorem laidOut : laidOutB Try.prog = true := by kernel_rfl
set_option maxRecDepth 100000 in
theorem lifted (os : Os) (started : os.Started) (H : Type) (enc : TypeId × Value → H) :
    ReturnsInHanded {} Try.checked os 8 .any (Rows.fnExactBatchOKSpec.pre6 enc Try.prog Try.f8 Rows.fnExactBatchOKRow.domain false) (Rows.fnExactBatchOKSpec.post enc Try.prog Try.f8 false true false false) := by
  refine returnsInHanded_of_change_sized (C := Try.checked) own started (by kernel_rfl) Try.func8
    (ChangeSpec.witness6 (enc := enc) (C := Try.checked) false ⟨#[], #[.slice none 0 0], []⟩ 8 (by kernel_rfl) (by kernel_rfl) (by kernel_rfl) (by kernel_rfl)) ?_
  intro W base args ds gs before hval0 hW hcnd hsz0 _
  have hval : ∀ (j : Nat) t v, Try.f8.params[j]? = some t → args[j]? = some v → Value.okWide Try.prog W .any base t v := hval0
  have hW' := hW
  obtain ⟨p, q, hA0, hV, rfl, hfz, hnd⟩ := hW
  have hA : DataW.TrodAll enc Try.prog W 0 (fun _ => true) true Try.f8.params.toList args.toList ds p := hA0
  rw [Try.params8] at hA hval
  obtain ⟨v0, vs0, d0, ds0, p0, q0, hargs, rfl, rfl, h0, r0⟩ := trodAll_cons hA
  obtain ⟨rfl, rfl, rfl⟩ := trodAll_nil r0
  obtain rfl : args = #[v0] := by cases args; simp_all
  obtain ⟨rfl, rfl⟩ := trodVars_none hV
  have k0 := h0
  have lt0 : ∀ x ∈ p0, x.block < W.heap.size := by obtain ⟨m, hm⟩ := k0; exact DataW.trod_lt m _ _ _ hm
  obtain ⟨f0, hf0⟩ := h0
  obtain ⟨y0, hy0, hg0⟩ := (opens_sl Try.underlying50 cz78 (by decide) op78) H enc f0 _ _ hf0
  obtain ⟨A0_, p0_, e0, w0_⟩ : ∃ A p, v0 = Value.slice A y0.length p ∧ View L_laws_Txn A p y0 (heapC W) := by
    obtain ⟨A, n, c, rfl⟩ := okWide_slice Try.underlying50 (hval 0 50 v0 rfl rfl)
    obtain ⟨v, hv, A, p, rfl, hh⟩ := hy0
    simp only [Value.cells] at hv
    exact ⟨A, p, by simpa using hv, hh⟩
  subst e0
  clear hA0 hval0 hsz0
  refine (laws_FnExactBatchOK_t W A0_ p0_ y0 (heapC W) w0_ (heapC_has W) true (pure_laws_FnExactBatchOK y0 hg0)).mono fun e W' ⟨v, he, hv, hS⟩ => ?_
  subst he; subst hv
  have bel := hS.below
  exact ⟨_, rfl, _, _, _, [], _, [], hW', trodAll_mk1 (shutB Try.underlying4 _), (trodAll_cons_mk (Below.trod laidOut (by kernel_rfl) (of_decide_eq_true (by kernel_rfl)) k0 bel lt0) trodAll_mk0), rfl, bel.frame _, fun h => by cases h⟩
theorem over : Rows.fnExactBatchOKRow.holds Try.pinned (OpenSpec.ofChange Rows.fnExactBatchOKSpec) :=
  OpenClaim.holds_of_wide 8 Try.f8 rfl rfl rfl rfl rfl rfl rfl ⟨rfl, rfl, rfl, rfl, rfl⟩ rfl rfl rfl rfl rfl (by kernel_rfl) Try.func8 (by kernel_rfl)
    (of_decide_eq_true (by kernel_rfl)) (by unfold Func.isWrapper; first | (rw [if_pos (by decide +kernel)]; kernel_rfl) | (rw [if_neg (by decide +kernel)]; exact ⟨rfl, rfl⟩))
    (fun os started H enc _ => lifted os started H enc)
theorem fnExactBatchOK_holds : Rows.FnExactBatchOKSaid := over
end Go.Proofs.Ytjelagjijnpkdaa.RXBatchOK
