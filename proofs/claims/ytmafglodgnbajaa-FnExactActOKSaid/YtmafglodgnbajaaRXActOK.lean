/- FnExactActOK: for every input the law returns true, and its arguments read as before. No conditions but the row's own. -/
import Derived.Test.YtmafglodgnbajaaPXActOK
namespace Go.Proofs.Ytmafglodgnbajaa.RXActOK
open Go Go.Z Go.Proofs Go.MuLone Go.ChangeShapes Go.WideShapes Go.ChangeAt Go.RowKit
set_option linter.unusedVariables false
set_option linter.unusedSimpArgs false
theorem pure_laws_FnExactActOK (x0 : S_Act) (g0 : (((Lit.int .i64 x0.Kind).wf = true) ∧ ((Lit.int .i64 x0.Phase).wf = true) ∧ ((Lit.int .i64 x0.At).wf = true) ∧ ((Lit.int .i64 x0.Place).wf = true) ∧ ((Lit.int .i64 x0.By).wf = true) ∧ (x0.Batch.length ≤ maxLen ∧ ∀ y : S_Txn, y ∈ x0.Batch → ((y.Ops.length ≤ maxLen ∧ ∀ y1 : S_Op, y1 ∈ y.Ops → (((Lit.int .i64 y1.Kind).wf = true) ∧ ((Lit.int .i64 y1.Key).wf = true) ∧ ((Lit.int .i64 y1.Value).wf = true))))) ∧ (x0.Draws.length ≤ maxLen ∧ ∀ y : Int, y ∈ x0.Draws → ((Lit.int .i64 y).wf = true)) ∧ (x0.Fates.length ≤ maxLen ∧ ∀ y : Int, y ∈ x0.Fates → ((Lit.int .i64 y).wf = true)))) : laws_FnExactActOK.f x0 = some true := by
  obtain ⟨m, e, h⟩ := ok_laws_szAct x0 1048576 (by decide) (by decide) g0
  simp only [laws_FnExactActOK.f, e, Option.bind_some]
  rcases h with h | ⟨h1, h2, h⟩
  · rw [decide_eq_true h]; rfl
  rw [decide_eq_false (by omega)]; simp only [cond_false]
  obtain ⟨e3, r, e4⟩ := actOK_eq x0 ⟨Nat.le_trans h.1.1 (by decide), fun y hy => Nat.le_trans (h.1.2 y hy) (by decide)⟩ (Nat.le_trans h.2.1 (by decide)) (Nat.le_trans h.2.2 (by decide))
  simp only [id_laws_toAct x0 h, e3, e4, refl_laws_eqAct x0 h, Option.bind_some, cond_false, beq_self_eq_true]
  rfl
theorem cz3 : Try.prog.cellsOf 3 = 1 := by kernel_rfl
theorem cz42 : Try.prog.cellsOf 42 = 1 := by kernel_rfl
theorem cz43 : Try.prog.cellsOf 43 = 1 := by kernel_rfl
theorem cz45 : Try.prog.cellsOf 45 = 8 := by kernel_rfl
theorem cz86 : Try.prog.cellsOf 86 = 1 := by kernel_rfl
theorem cz88 : Try.prog.cellsOf 88 = 1 := by kernel_rfl
theorem cz140 : Try.prog.cellsOf 140 = 3 := by kernel_rfl
theorem op140 {w : World} : Opens Try.prog w 140 L_Op (fun x => ((Lit.int .i64 x.Kind).wf = true) ∧ ((Lit.int .i64 x.Key).wf = true) ∧ ((Lit.int .i64 x.Value).wf = true)) :=
  (opens_struct Try.underlying140 cz140 (opensF_cons rfl cz3 (opens_int Try.underlying3) (opensF_cons rfl cz3 (opens_int Try.underlying3) (opensF_one cz3 (opens_int Try.underlying3))))).conv (fun y cs c h g => ⟨⟨y.1, y.2.1, y.2.2⟩, by obtain ⟨_, _, rfl, rfl, _, _, rfl, rfl, rfl⟩ := h; rfl, g⟩)
theorem op88 {w : World} : Opens Try.prog w 88 L_laws_Txn (fun x => ((x.Ops.length ≤ maxLen ∧ ∀ y : S_Op, y ∈ x.Ops → (((Lit.int .i64 y.Kind).wf = true) ∧ ((Lit.int .i64 y.Key).wf = true) ∧ ((Lit.int .i64 y.Value).wf = true))))) :=
  (opens_struct Try.underlying88 cz88 (opensF_one cz86 (opens_sl Try.underlying86 cz140 (by decide) op140))).conv (fun y cs c h g => ⟨⟨y⟩, h, g⟩)
theorem op45 {w : World} : Opens Try.prog w 45 L_laws_Act (fun x => ((Lit.int .i64 x.Kind).wf = true) ∧ ((Lit.int .i64 x.Phase).wf = true) ∧ ((Lit.int .i64 x.At).wf = true) ∧ ((Lit.int .i64 x.Place).wf = true) ∧ ((Lit.int .i64 x.By).wf = true) ∧ (x.Batch.length ≤ maxLen ∧ ∀ y : S_Txn, y ∈ x.Batch → ((y.Ops.length ≤ maxLen ∧ ∀ y1 : S_Op, y1 ∈ y.Ops → (((Lit.int .i64 y1.Kind).wf = true) ∧ ((Lit.int .i64 y1.Key).wf = true) ∧ ((Lit.int .i64 y1.Value).wf = true))))) ∧ (x.Draws.length ≤ maxLen ∧ ∀ y : Int, y ∈ x.Draws → ((Lit.int .i64 y).wf = true)) ∧ (x.Fates.length ≤ maxLen ∧ ∀ y : Int, y ∈ x.Fates → ((Lit.int .i64 y).wf = true))) :=
  (opens_struct Try.underlying45 cz45 (opensF_cons rfl cz3 (opens_int Try.underlying3) (opensF_cons rfl cz3 (opens_int Try.underlying3) (opensF_cons rfl cz3 (opens_int Try.underlying3) (opensF_cons rfl cz3 (opens_int Try.underlying3) (opensF_cons rfl cz3 (opens_int Try.underlying3) (opensF_cons rfl cz42 (opens_sl Try.underlying42 cz88 (by decide) op88) (opensF_cons rfl cz43 (opens_sl Try.underlying43 cz3 (by decide) (opens_int Try.underlying3)) (opensF_one cz43 (opens_sl Try.underlying43 cz3 (by decide) (opens_int Try.underlying3))))))))))).conv (fun y cs c h g => ⟨⟨y.1, y.2.1, y.2.2.1, y.2.2.2.1, y.2.2.2.2.1, y.2.2.2.2.2.1, y.2.2.2.2.2.2.1, y.2.2.2.2.2.2.2⟩, h, g⟩)
theorem own : ownKnob Try.prog.godebug = none := by kernel_rfl
theorem laidOut : laidOutB Try.prog = true := by kernel_rfl
set_option maxRecDepth 100000 in
theorem lifted (os : Os) (started : os.Started) (H : Type) (enc : TypeId × Value → H) :
    ReturnsInHanded {} Try.checked os 5 .any (Rows.fnExactActOKSpec.pre6 enc Try.prog Try.f5 Rows.fnExactActOKRow.domain false) (Rows.fnExactActOKSpec.post enc Try.prog Try.f5 false true false false) := by
  refine returnsInHanded_of_change_sized (C := Try.checked) own started (by kernel_rfl) Try.func5
    (ChangeSpec.witness6 (enc := enc) (C := Try.checked) false ⟨#[], #[.agg #[.int .i64 0, .int .i64 0, .int .i64 0, .int .i64 0, .int .i64 0, .slice none 0 0, .slice none 0 0, .slice none 0 0]], []⟩ 8 (by kernel_rfl) (by kernel_rfl) (by kernel_rfl) (by kernel_rfl)) ?_
  intro W base args ds gs before hval0 hW hcnd hsz0 _
  have hval : ∀ (j : Nat) t v, Try.f5.params[j]? = some t → args[j]? = some v → Value.okWide Try.prog W .any base t v := hval0
  have hW' := hW
  obtain ⟨p, q, hA0, hV, rfl, hfz, hnd⟩ := hW
  have hA : DataW.TrodAll enc Try.prog W 0 (fun _ => true) true Try.f5.params.toList args.toList ds p := hA0
  rw [Try.params5] at hA hval
  obtain ⟨v0, vs0, d0, ds0, p0, q0, hargs, rfl, rfl, h0, r0⟩ := trodAll_cons hA
  obtain ⟨rfl, rfl, rfl⟩ := trodAll_nil r0
  obtain rfl : args = #[v0] := by cases args; simp_all
  obtain ⟨rfl, rfl⟩ := trodVars_none hV
  have k0 := h0
  have lt0 : ∀ x ∈ p0, x.block < W.heap.size := by obtain ⟨m, hm⟩ := k0; exact DataW.trod_lt m _ _ _ hm
  obtain ⟨f0, hf0⟩ := h0
  obtain ⟨y0, hy0, hg0⟩ := op45 H enc f0 _ _ hf0
  obtain ⟨cs0, rfl, _⟩ := okWide_struct Try.underlying45 (hval 0 45 v0 rfl rfl)
  obtain ⟨l0, hl0⟩ : ∃ l, cs0.toList = l := ⟨_, rfl⟩
  have hy0 : (L_laws_Act).view y0 cs0.toList (heapC W) := hy0
  rw [hl0] at hy0
  obtain ⟨_, _, rfl, rfl, ⟨_, _, rfl, rfl, ⟨_, _, rfl, rfl, ⟨_, _, rfl, rfl, ⟨_, _, rfl, rfl, ⟨_, _, rfl, ⟨_, rfl, A0_5, p0_5, rfl, w0_5⟩, ⟨_, _, rfl, ⟨_, rfl, A0_6, p0_6, rfl, w0_6⟩, ⟨_, rfl, A0_7, p0_7, rfl, w0_7⟩⟩⟩⟩⟩⟩⟩⟩ := hy0
  obtain rfl : cs0 = #[.int .i64 y0.Kind, .int .i64 y0.Phase, .int .i64 y0.At, .int .i64 y0.Place, .int .i64 y0.By, .slice A0_5 y0.Batch.length p0_5, .slice A0_6 y0.Draws.length p0_6, .slice A0_7 y0.Fates.length p0_7] := Array.ext' hl0
  clear hA0 hval0 hsz0
  refine (laws_FnExactActOK_t W y0 A0_5 p0_5 (heapC W) w0_5 (heapC_has W) A0_6 p0_6 (heapC W) w0_6 (heapC_has W) A0_7 p0_7 (heapC W) w0_7 (heapC_has W) true (pure_laws_FnExactActOK y0 hg0)).mono fun e W' ⟨v, he, hv, hS⟩ => ?_
  subst he; subst hv
  have bel := hS.below
  exact ⟨_, rfl, _, _, _, [], _, [], hW', trodAll_mk1 (shutB Try.underlying4 _), (trodAll_cons_mk (Below.trod laidOut (by kernel_rfl) (of_decide_eq_true (by kernel_rfl)) k0 bel lt0) trodAll_mk0), rfl, bel.frame _, fun h => by cases h⟩
theorem over : Rows.fnExactActOKRow.holds Try.pinned (OpenSpec.ofChange Rows.fnExactActOKSpec) :=
  OpenClaim.holds_of_wide 5 Try.f5 rfl rfl rfl rfl rfl rfl rfl ⟨rfl, rfl, rfl, rfl, rfl⟩ rfl rfl rfl rfl rfl (by kernel_rfl) Try.func5 (by kernel_rfl)
    (of_decide_eq_true (by kernel_rfl)) (by unfold Func.isWrapper; first | (rw [if_pos (by decide +kernel)]; kernel_rfl) | (rw [if_neg (by decide +kernel)]; exact ⟨rfl, rfl⟩))
    (fun os started H enc _ => lifted os started H enc)
theorem fnExactActOK_holds : Rows.FnExactActOKSaid := over
end Go.Proofs.Ytmafglodgnbajaa.RXActOK
