/- FnExactOpOK: for every input the law returns true, and its arguments read as before. No conditions but the row's own. -/
import Derived.Test.YtjelagjijnpkdaaPXOpOK
namespace Go.Proofs.Ytjelagjijnpkdaa.RXOpOK
open Go Go.Z Go.Proofs Go.MuLone Go.ChangeShapes Go.WideShapes Go.ChangeAt Go.RowKit
set_option linter.unusedVariables false
set_option linter.unusedSimpArgs false
theorem pure_laws_FnExactOpOK (x0 : S_Op) (g0 : (((Lit.int .i64 x0.Kind).wf = true) ∧ ((Lit.int .i64 x0.Key).wf = true) ∧ ((Lit.int .i64 x0.Value).wf = true))) : laws_FnExactOpOK.f x0 = some true := by
  simp only [laws_FnExactOpOK.f, laws_toOp.f, spec_OpOK_eq, impl_OpOK_eq, Option.bind_some]
  simp
theorem cz3 : Try.prog.cellsOf 3 = 1 := by kernel_rfl
theorem cz23 : Try.prog.cellsOf 23 = 3 := by kernel_rfl
theorem op23 {w : World} : Opens Try.prog w 23 L_Op (fun x => ((Lit.int .i64 x.Kind).wf = true) ∧ ((Lit.int .i64 x.Key).wf = true) ∧ ((Lit.int .i64 x.Value).wf = true)) :=
  (opens_struct Try.underlying23 cz23 (opensF_cons rfl cz3 (opens_int Try.underlying3) (opensF_cons rfl cz3 (opens_int Try.underlying3) (opensF_one cz3 (opens_int Try.underlying3))))).conv (fun y cs c h g => ⟨⟨y.1, y.2.1, y.2.2⟩, by obtain ⟨_, _, rfl, rfl, _, _, rfl, rfl, rfl⟩ := h; rfl, g⟩)
theorem own : ownKnob Try.prog.godebug = none := by kernel_rfl
theorem laidOut : laidOutB Try.prog = true := by kernel_rfl
set_option maxRecDepth 100000 in
theorem lifted (os : Os) (started : os.Started) (H : Type) (enc : TypeId × Value → H) :
    ReturnsInHanded {} Try.checked os 3 .any (Rows.fnExactOpOKSpec.pre6 enc Try.prog Try.f3 Rows.fnExactOpOKRow.domain false) (Rows.fnExactOpOKSpec.post enc Try.prog Try.f3 false true false false) := by
  refine returnsInHanded_of_change_sized (C := Try.checked) own started (by kernel_rfl) Try.func3
    (ChangeSpec.witness6 (enc := enc) (C := Try.checked) false ⟨#[], #[.agg #[.int .i64 0, .int .i64 0, .int .i64 0]], []⟩ 8 (by kernel_rfl) (by kernel_rfl) (by kernel_rfl) (by kernel_rfl)) ?_
  intro W base args ds gs before hval0 hW hcnd hsz0 _
  have hval : ∀ (j : Nat) t v, Try.f3.params[j]? = some t → args[j]? = some v → Value.okWide Try.prog W .any base t v := hval0
  have hW' := hW
  obtain ⟨p, q, hA0, hV, rfl, hfz, hnd⟩ := hW
  have hA : DataW.TrodAll enc Try.prog W 0 (fun _ => true) true Try.f3.params.toList args.toList ds p := hA0
  rw [Try.params3] at hA hval
  obtain ⟨v0, vs0, d0, ds0, p0, q0, hargs, rfl, rfl, h0, r0⟩ := trodAll_cons hA
  obtain ⟨rfl, rfl, rfl⟩ := trodAll_nil r0
  obtain rfl : args = #[v0] := by cases args; simp_all
  obtain ⟨rfl, rfl⟩ := trodVars_none hV
  have k0 := h0
  have lt0 : ∀ x ∈ p0, x.block < W.heap.size := by obtain ⟨m, hm⟩ := k0; exact DataW.trod_lt m _ _ _ hm
  obtain ⟨f0, hf0⟩ := h0
  obtain ⟨y0, hy0, hg0⟩ := op23 H enc f0 _ _ hf0
  obtain ⟨cs0, rfl, _⟩ := okWide_struct Try.underlying23 (hval 0 23 v0 rfl rfl)
  obtain rfl : cs0 = #[.int .i64 y0.Kind, .int .i64 y0.Key, .int .i64 y0.Value] := by
    have : cs0.toList = _ := hy0
    exact Array.ext' this
  clear hA0 hval0 hsz0
  refine (laws_FnExactOpOK_t W y0 true (pure_laws_FnExactOpOK y0 hg0)).mono fun e W' ⟨v, he, hv, hS⟩ => ?_
  subst he; subst hv
  have bel := hS.below
  exact ⟨_, rfl, _, _, _, [], _, [], hW', trodAll_mk1 (shutB Try.underlying4 _), (trodAll_cons_mk (Below.trod laidOut (by kernel_rfl) (of_decide_eq_true (by kernel_rfl)) k0 bel lt0) trodAll_mk0), rfl, bel.frame _, fun h => by cases h⟩
theorem over : Rows.fnExactOpOKRow.holds Try.pinned (OpenSpec.ofChange Rows.fnExactOpOKSpec) :=
  OpenClaim.holds_of_wide 3 Try.f3 rfl rfl rfl rfl rfl rfl rfl ⟨rfl, rfl, rfl, rfl, rfl⟩ rfl rfl rfl rfl rfl (by kernel_rfl) Try.func3 (by kernel_rfl)
    (of_decide_eq_true (by kernel_rfl)) (by unfold Func.isWrapper; first | (rw [if_pos (by decide +kernel)]; kernel_rfl) | (rw [if_neg (by decide +kernel)]; exact ⟨rfl, rfl⟩))
    (fun os started H enc _ => lifted os started H enc)
theorem fnExactOpOK_holds : Rows.FnExactOpOKSaid := over
end Go.Proofs.Ytjelagjijnpkdaa.RXOpOK
