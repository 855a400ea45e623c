/- FnExactMapDo: for every input the law returns true, and its arguments read as before. No conditions but the row's own. -/
import Derived.Test.YtlbbkehdfgjneaaPXMapDo
namespace Go.Proofs.Ytlbbkehdfgjneaa.RXMapDo
open Go Go.Z Go.Proofs Go.MuLone Go.ChangeShapes Go.WideShapes Go.ChangeAt Go.RowKit
set_option linter.unusedVariables false
set_option linter.unusedSimpArgs false
theorem ex_MapDo (x0 : List S_Entry) (x1 : S_Op) (g0 : (x0.length ≤ maxLen ∧ ∀ y : S_Entry, y ∈ x0 → (((Lit.int .i64 y.Key).wf = true) ∧ ((Lit.int .i64 y.Value).wf = true)))) (h0 : x0.length ≤ 1048576) (g1 : (((Lit.int .i64 x1.Kind).wf = true) ∧ ((Lit.int .i64 x1.Key).wf = true) ∧ ((Lit.int .i64 x1.Value).wf = true))) : ∃ r, spec_MapDo.f x0 x1 = some r ∧ impl_MapDo.f x0 x1 = some r ∧ (r.1.length ≤ 1048576) ∧ (r.2.1.length ≤ 1048576) := by
  have hl : x0.length ≤ 1048576 := by first | exact h0 | exact h0.1
  unfold spec_MapDo.f impl_MapDo.f
  cases decide ((x0.length : Int) > 4096)
  case true => exact ⟨_, rfl, rfl, by simp⟩
  simp only [cond_false, impl_MapOK_eq x0 (by omega), spec_MapOK_eq x0 (by omega), impl_OpOK_eq, spec_OpOK_eq, Option.bind_some]
  cases hm : mapOK x0
  case false => exact ⟨_, rfl, rfl, by simp⟩
  cases ho : opOK x1
  case false => exact ⟨_, rfl, rfl, by simp⟩
  have hs := mapOK_sorted hm
  have hsh := hs.short
  simp only [Bool.not_true, cond_false, Option.bind_some, l10Do_eq x0 x1 hs ho, impl_do_eq x0 x1 hs ho]
  obtain ⟨q1, q2⟩ := doL_len x0 x1 (opOK_scan ho)
  rw [clone_eq _ (by omega), if_pos (by simp only [List.length_nil]; omega)]
  simp only [Option.bind_some, List.nil_append]
  refine ⟨_, rfl, rfl, ?_, ?_⟩ <;> (dsimp only; omega)

theorem pure_laws_FnExactMapDo (x0 : List S_Entry) (x1 : S_Op) (g0 : (x0.length ≤ maxLen ∧ ∀ y : S_Entry, y ∈ x0 → (((Lit.int .i64 y.Key).wf = true) ∧ ((Lit.int .i64 y.Value).wf = true)))) (g1 : (((Lit.int .i64 x1.Kind).wf = true) ∧ ((Lit.int .i64 x1.Key).wf = true) ∧ ((Lit.int .i64 x1.Value).wf = true))) : laws_FnExactMapDo.f x0 x1 = some true := by
  simp only [laws_FnExactMapDo.f, Option.bind_some]
  obtain ⟨m0, e0, h0⟩ := ok_laws_szEntryS x0 1048576 (by omega) (by omega) g0
  simp only [e0, Option.bind_some]
  rcases h0 with h0 | ⟨p0, q0, h0⟩
  · rw [decide_eq_true h0]; rfl
  rw [decide_eq_false (show ¬ m0 < 0 by omega)]; simp only [cond_false]
  obtain ⟨r, hs, hi, hl⟩ := ex_MapDo x0 x1 g0 h0 g1
  obtain ⟨r0, r1, r2⟩ := r
  obtain ⟨k0, a0_0, ek0, pk0, qk0, _, _⟩ := mk_laws_markEntryS x0 1 (by omega) (by omega) h0
  obtain ⟨m_0, b0_0, em0, pm0, qm0, _, rm0⟩ := mk_laws_markEntryS r0 1 (by omega) (by omega) hl.1
  obtain ⟨m_1, b1_0, em1, pm1, qm1, _, rm1⟩ := mk_laws_markIntS r1 m_0 (by omega) (by omega) hl.2
  simp only [id_laws_toEntryS x0 h0, reflL_laws_eqEntryS x0 h0, id_laws_toOp x1, reflL_laws_eqEntryS r0 hl.1, reflL_laws_eqIntS r1 hl.2, ek0, rm0, em0, rm1, em1, hs, hi, decide_eq_false (show ¬ k0 < 0 by omega), decide_eq_false (show ¬ m_0 < 0 by omega), decide_eq_false (show ¬ m_1 < 0 by omega), Option.bind_some, bne_self_eq_false, bs_self, beq_self_eq_true, Bool.not_true, cond_false, cond_true]
theorem cz3 : Try.prog.cellsOf 3 = 1 := by kernel_rfl
theorem cz24 : Try.prog.cellsOf 24 = 3 := by kernel_rfl
theorem cz104 : Try.prog.cellsOf 104 = 2 := by kernel_rfl
theorem op104 {w : World} : Opens Try.prog w 104 L_Entry (fun x => ((Lit.int .i64 x.Key).wf = true) ∧ ((Lit.int .i64 x.Value).wf = true)) :=
  (opens_struct Try.underlying104 cz104 (opensF_cons rfl cz3 (opens_int Try.underlying3) (opensF_one cz3 (opens_int Try.underlying3)))).conv (fun y cs c h g => ⟨⟨y.1, y.2⟩, by obtain ⟨_, _, rfl, rfl, rfl⟩ := h; rfl, g⟩)
theorem op24 {w : World} : Opens Try.prog w 24 L_Op (fun x => ((Lit.int .i64 x.Kind).wf = true) ∧ ((Lit.int .i64 x.Key).wf = true) ∧ ((Lit.int .i64 x.Value).wf = true)) :=
  (opens_struct Try.underlying24 cz24 (opensF_cons rfl cz3 (opens_int Try.underlying3) (opensF_cons rfl cz3 (opens_int Try.underlying3) (opensF_one cz3 (opens_int Try.underlying3))))).conv (fun y cs c h g => ⟨⟨y.1, y.2.1, y.2.2⟩, by obtain ⟨_, _, rfl, rfl, _, _, rfl, rfl, rfl⟩ := h; rfl, g⟩)
theorem own : ownKnob Try.prog.godebug = none := by kernel_rfl
theorem laidOut : laidOutB Try.prog = true := by kernel_rfl
set_option maxRecDepth 100000 in
theorem lifted (os : Os) (started : os.Started) (H : Type) (enc : TypeId × Value → H) :
    ReturnsInHanded {} Try.checked os 3 .any (Rows.fnExactMapDoSpec.pre6 enc Try.prog Try.f3 Rows.fnExactMapDoRow.domain false) (Rows.fnExactMapDoSpec.post enc Try.prog Try.f3 false true false false) := by
  refine returnsInHanded_of_change_sized (C := Try.checked) own started (by kernel_rfl) Try.func3
    (ChangeSpec.witness6 (enc := enc) (C := Try.checked) false ⟨#[], #[.slice none 0 0, .agg #[.int .i64 0, .int .i64 0, .int .i64 0]], []⟩ 8 (by kernel_rfl) (by kernel_rfl) (by kernel_rfl) (by kernel_rfl)) ?_
  intro W base args ds gs before hval0 hW hcnd hsz0 _
  have hval : ∀ (j : Nat) t v, Try.f3.params[j]? = some t → args[j]? = some v → Value.okWide Try.prog W .any base t v := hval0
  have hW' := hW
  obtain ⟨p, q, hA0, hV, rfl, hfz, hnd⟩ := hW
  have hA : DataW.TrodAll enc Try.prog W 0 (fun _ => true) true Try.f3.params.toList args.toList ds p := hA0
  rw [Try.params3] at hA hval
  obtain ⟨v0, vs0, d0, ds0, p0, q0, hargs, rfl, rfl, h0, r0⟩ := trodAll_cons hA
  obtain ⟨v1, vs1, d1, ds1, p1, q1, rfl, rfl, rfl, h1, r1⟩ := trodAll_cons r0
  obtain ⟨rfl, rfl, rfl⟩ := trodAll_nil r1
  obtain rfl : args = #[v0, v1] := by cases args; simp_all
  obtain ⟨rfl, rfl⟩ := trodVars_none hV
  have k0 := h0
  have lt0 : ∀ x ∈ p0, x.block < W.heap.size := by obtain ⟨m, hm⟩ := k0; exact DataW.trod_lt m _ _ _ hm
  obtain ⟨f0, hf0⟩ := h0
  obtain ⟨y0, hy0, hg0⟩ := (opens_sl Try.underlying22 cz104 (by decide) op104) H enc f0 _ _ hf0
  obtain ⟨A0_, p0_, e0, w0_⟩ : ∃ A p, v0 = Value.slice A y0.length p ∧ View L_Entry A p y0 (heapC W) := by
    obtain ⟨A, n, c, rfl⟩ := okWide_slice Try.underlying22 (hval 0 22 v0 rfl rfl)
    obtain ⟨v, hv, A, p, rfl, hh⟩ := hy0
    simp only [Value.cells] at hv
    exact ⟨A, p, by simpa using hv, hh⟩
  subst e0
  have k1 := h1
  have lt1 : ∀ x ∈ p1, x.block < W.heap.size := by obtain ⟨m, hm⟩ := k1; exact DataW.trod_lt m _ _ _ hm
  obtain ⟨f1, hf1⟩ := h1
  obtain ⟨y1, hy1, hg1⟩ := op24 H enc f1 _ _ hf1
  obtain ⟨cs1, rfl, _⟩ := okWide_struct Try.underlying24 (hval 1 24 v1 rfl rfl)
  obtain rfl : cs1 = #[.int .i64 y1.Kind, .int .i64 y1.Key, .int .i64 y1.Value] := by
    have : cs1.toList = _ := hy1
    exact Array.ext' this
  clear hA0 hval0 hsz0
  refine (laws_FnExactMapDo_t W A0_ p0_ y0 (heapC W) w0_ (heapC_has W) y1 true (pure_laws_FnExactMapDo y0 y1 hg0 hg1)).mono fun e W' ⟨v, he, hv, hS⟩ => ?_
  subst he; subst hv
  have bel := hS.below
  exact ⟨_, rfl, _, _, _, [], _, [], hW', trodAll_mk1 (shutB Try.underlying4 _), (trodAll_cons_mk (Below.trod laidOut (by kernel_rfl) (of_decide_eq_true (by kernel_rfl)) k0 bel lt0) (trodAll_cons_mk (Below.trod laidOut (by kernel_rfl) (of_decide_eq_true (by kernel_rfl)) k1 bel lt1) trodAll_mk0)), rfl, bel.frame _, fun h => by cases h⟩
theorem over : Rows.fnExactMapDoRow.holds Try.pinned (OpenSpec.ofChange Rows.fnExactMapDoSpec) :=
  OpenClaim.holds_of_wide 3 Try.f3 rfl rfl rfl rfl rfl rfl rfl ⟨rfl, rfl, rfl, rfl, rfl⟩ rfl rfl rfl rfl rfl (by kernel_rfl) Try.func3 (by kernel_rfl)
    (of_decide_eq_true (by kernel_rfl)) (by unfold Func.isWrapper; first | (rw [if_pos (by decide +kernel)]; kernel_rfl) | (rw [if_neg (by decide +kernel)]; exact ⟨rfl, rfl⟩))
    (fun os started H enc _ => lifted os started H enc)
theorem fnExactMapDo_holds : Rows.FnExactMapDoSaid := over
end Go.Proofs.Ytlbbkehdfgjneaa.RXMapDo
