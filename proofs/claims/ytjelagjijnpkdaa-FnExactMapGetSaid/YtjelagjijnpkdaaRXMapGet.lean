/- FnExactMapGet: for every input the law returns true, and its arguments read as before. No conditions but the row's own. -/
import Derived.Test.YtjelagjijnpkdaaPXMapGet
namespace Go.Proofs.Ytjelagjijnpkdaa.RXMapGet
open Go Go.Z Go.Proofs Go.MuLone Go.ChangeShapes Go.WideShapes Go.ChangeAt Go.RowKit
set_option linter.unusedVariables false
set_option linter.unusedSimpArgs false
theorem mapGet_eq (l : List S_Entry) (x : Int) (h : l.length ≤ 1073741824) : impl_MapGet.f l x = spec_MapGet.f l x ∧ ∃ r, spec_MapGet.f l x = some r := by
  unfold impl_MapGet.f spec_MapGet.f
  cases decide ((l.length : Int) > 4096)
  case true => exact ⟨rfl, _, rfl⟩
  simp only [cond_false, impl_MapOK_eq l h, spec_MapOK_eq l h, Option.bind_some]
  cases hm : mapOK l
  case false => exact ⟨rfl, _, rfl⟩
  have hs := mapOK_sorted hm
  have hp := place_le l x
  simp only [Bool.not_true, cond_false, isKey_eq, Option.bind_some, l10Find_eq l x hs]
  cases hk : inB x 1 9999
  case false =>
    have hf : found l x = false := by
      unfold found
      by_cases h1 : place l x < l.length
      · have h2 := hs.key _ h1
        rw [decide_eq_true h1, Bool.true_and, beq_eq_false_iff_ne]
        intro e
        rw [e] at h2
        rw [inB_iff.2 h2] at hk; cases hk
      · rw [decide_eq_false h1]; rfl
    simp [hf]
  have hx := inB_iff.1 hk
  simp only [Bool.not_true, cond_false, find_eq l x hs hx, Option.bind_some]
  cases hf : found l x
  · simp
  · have h1 : place l x < l.length := by
      unfold found at hf
      simp only [Bool.and_eq_true, decide_eq_true_eq] at hf
      exact hf.1
    simp only [Bool.not_true, cond_false, cond_true, if_pos (show (0 : Int) ≤ (place l x : Int) ∧ (place l x : Int) < (l.length : Int) by omega), decide_eq_false (show ¬ (place l x : Int) < 0 by omega)]
    exact ⟨trivial, _, rfl⟩
theorem pure_laws_FnExactMapGet (x0 : List S_Entry) (x1 : Int) (g0 : (x0.length ≤ maxLen ∧ ∀ y ∈ x0, (((Lit.int .i64 y.Key).wf = true) ∧ ((Lit.int .i64 y.Value).wf = true)))) (g1 : ((Lit.int .i64 x1).wf = true)) : laws_FnExactMapGet.f x0 x1 = some true := by
  simp only [laws_FnExactMapGet.f, szEntryS_eq x0 1048576 (by omega) (by omega) g0.1, Option.bind_some]
  by_cases h : (1048576 : Int) < x0.length
  · rw [if_pos h]; rfl
  · rw [if_neg h, decide_eq_false (by omega)]
    obtain ⟨h1, r, h2⟩ := mapGet_eq x0 x1 (by omega)
    simp only [toEntryS_eq x0 (by omega), h1, h2, eqEntryS_refl x0 (by omega), Option.bind_some, cond_false, bne_self_eq_false]
    rfl
theorem cz3 : Try.prog.cellsOf 3 = 1 := by kernel_rfl
theorem cz64 : Try.prog.cellsOf 64 = 2 := by kernel_rfl
theorem op64 {w : World} : Opens Try.prog w 64 L_Entry (fun x => ((Lit.int .i64 x.Key).wf = true) ∧ ((Lit.int .i64 x.Value).wf = true)) :=
  (opens_struct Try.underlying64 cz64 (opensF_cons rfl cz3 (opens_int Try.underlying3) (opensF_one cz3 (opens_int Try.underlying3)))).conv (fun y cs c h g => ⟨⟨y.1, y.2⟩, by obtain ⟨_, _, rfl, rfl, rfl⟩ := h; rfl, g⟩)
theorem own : ownKnob Try.prog.godebug = none := by kernel_rfl
theorem laidOut : laidOutB Try.prog = true := by kernel_rfl
set_option maxRecDepth 100000 in
theorem lifted (os : Os) (started : os.Started) (H : Type) (enc : TypeId × Value → H) :
    ReturnsInHanded {} Try.checked os 7 .any (Rows.fnExactMapGetSpec.pre6 enc Try.prog Try.f7 Rows.fnExactMapGetRow.domain false) (Rows.fnExactMapGetSpec.post enc Try.prog Try.f7 false true false false) := by
  refine returnsInHanded_of_change_sized (C := Try.checked) own started (by kernel_rfl) Try.func7
    (ChangeSpec.witness6 (enc := enc) (C := Try.checked) false ⟨#[], #[.slice none 0 0, .int .i64 0], []⟩ 8 (by kernel_rfl) (by kernel_rfl) (by kernel_rfl) (by kernel_rfl)) ?_
  intro W base args ds gs before hval0 hW hcnd hsz0 _
  have hval : ∀ (j : Nat) t v, Try.f7.params[j]? = some t → args[j]? = some v → Value.okWide Try.prog W .any base t v := hval0
  have hW' := hW
  obtain ⟨p, q, hA0, hV, rfl, hfz, hnd⟩ := hW
  have hA : DataW.TrodAll enc Try.prog W 0 (fun _ => true) true Try.f7.params.toList args.toList ds p := hA0
  rw [Try.params7] at hA hval
  obtain ⟨v0, vs0, d0, ds0, p0, q0, hargs, rfl, rfl, h0, r0⟩ := trodAll_cons hA
  obtain ⟨v1, vs1, d1, ds1, p1, q1, rfl, rfl, rfl, h1, r1⟩ := trodAll_cons r0
  obtain ⟨rfl, rfl, rfl⟩ := trodAll_nil r1
  obtain rfl : args = #[v0, v1] := by cases args; simp_all
  obtain ⟨rfl, rfl⟩ := trodVars_none hV
  have k0 := h0
  have lt0 : ∀ x ∈ p0, x.block < W.heap.size := by obtain ⟨m, hm⟩ := k0; exact DataW.trod_lt m _ _ _ hm
  obtain ⟨f0, hf0⟩ := h0
  obtain ⟨y0, hy0, hg0⟩ := (opens_sl Try.underlying35 cz64 (by decide) op64) H enc f0 _ _ hf0
  obtain ⟨A0_, p0_, e0, w0_⟩ : ∃ A p, v0 = Value.slice A y0.length p ∧ View L_Entry A p y0 (heapC W) := by
    obtain ⟨A, n, c, rfl⟩ := okWide_slice Try.underlying35 (hval 0 35 v0 rfl rfl)
    obtain ⟨v, hv, A, p, rfl, hh⟩ := hy0
    simp only [Value.cells] at hv
    exact ⟨A, p, by simpa using hv, hh⟩
  subst e0
  have k1 := h1
  have lt1 : ∀ x ∈ p1, x.block < W.heap.size := by obtain ⟨m, hm⟩ := k1; exact DataW.trod_lt m _ _ _ hm
  obtain ⟨f1, hf1⟩ := h1
  obtain ⟨y1, hy1, hg1⟩ := (opens_int Try.underlying3) H enc f1 _ _ hf1
  obtain rfl : v1 = .int .i64 y1 := by
    obtain hv := (hval 1 3 v1 rfl rfl)
    simp only [Value.okWide, Try.underlying3, Cell.okWide] at hv
    cases v1 <;> simp_all [Cell.ok, Value.cells, Lay.int, Lay.bool, Lay.str, Lay.flat]
  clear hA0 hval0 hsz0
  refine (laws_FnExactMapGet_t W A0_ p0_ y0 (heapC W) w0_ (heapC_has W) y1 true (pure_laws_FnExactMapGet y0 y1 hg0 hg1)).mono fun e W' ⟨v, he, hv, hS⟩ => ?_
  subst he; subst hv
  have bel := hS.below
  exact ⟨_, rfl, _, _, _, [], _, [], hW', trodAll_mk1 (shutB Try.underlying4 _), (trodAll_cons_mk (Below.trod laidOut (by kernel_rfl) (of_decide_eq_true (by kernel_rfl)) k0 bel lt0) (trodAll_cons_mk (Below.trod laidOut (by kernel_rfl) (of_decide_eq_true (by kernel_rfl)) k1 bel lt1) trodAll_mk0)), rfl, bel.frame _, fun h => by cases h⟩
theorem over : Rows.fnExactMapGetRow.holds Try.pinned (OpenSpec.ofChange Rows.fnExactMapGetSpec) :=
  OpenClaim.holds_of_wide 7 Try.f7 rfl rfl rfl rfl rfl rfl rfl ⟨rfl, rfl, rfl, rfl, rfl⟩ rfl rfl rfl rfl rfl (by kernel_rfl) Try.func7 (by kernel_rfl)
    (of_decide_eq_true (by kernel_rfl)) (by unfold Func.isWrapper; first | (rw [if_pos (by decide +kernel)]; kernel_rfl) | (rw [if_neg (by decide +kernel)]; exact ⟨rfl, rfl⟩))
    (fun os started H enc _ => lifted os started H enc)
theorem fnExactMapGet_holds : Rows.FnExactMapGetSaid := over
end Go.Proofs.Ytjelagjijnpkdaa.RXMapGet
