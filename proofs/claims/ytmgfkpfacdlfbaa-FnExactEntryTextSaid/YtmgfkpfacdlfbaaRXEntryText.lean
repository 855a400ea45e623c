/- FnExactEntryText: for every input the law returns true, and its arguments read as before. No conditions but the row's own. -/
import Derived.Test.YtmgfkpfacdlfbaaPXEntryText
namespace Go.Proofs.Ytmgfkpfacdlfbaa.RXEntryText
open Go Go.Z Go.Proofs Go.MuLone Go.ChangeShapes Go.WideShapes Go.ChangeAt Go.RowKit
set_option linter.unusedVariables false
set_option linter.unusedSimpArgs false
theorem ex_EntryText (x0 : List S_Txn) (x1 : List Int) (g0 : (x0.length ≤ maxLen ∧ ∀ y : S_Txn, y ∈ x0 → ((y.Ops.length ≤ maxLen ∧ ∀ y1 : S_Op, y1 ∈ y.Ops → (((Lit.int .i64 y1.Kind).wf = true) ∧ ((Lit.int .i64 y1.Key).wf = true) ∧ ((Lit.int .i64 y1.Value).wf = true)))))) (h0 : x0.length ≤ 1048576 ∧ ∀ z0 : S_Txn, z0 ∈ x0 → ((z0.Ops.length ≤ 1048576))) (g1 : (x1.length ≤ maxLen ∧ ∀ y : Int, y ∈ x1 → ((Lit.int .i64 y).wf = true))) (h1 : x1.length ≤ 1048576) : ∃ r, spec_EntryText.f x0 x1 = some r ∧ impl_EntryText.f x0 x1 = some r ∧ True := by
  have hl : x0.length ≤ 1048576 := h0.1
  have hl1 : x1.length ≤ 1048576 := by first | exact h1 | exact h1.1
  have hy : ∀ y, y ∈ x0 → y.Ops.length ≤ 1073741824 := fun y hy => by have := h0.2 y hy; omega
  unfold spec_EntryText.f impl_EntryText.f
  by_cases c0 : (x0.length : Int) > 4096
  · rw [decide_eq_true c0]
    cases decide ((x1.length : Int) > 4096) <;> exact ⟨_, rfl, rfl, by simp⟩
  by_cases c1 : (x1.length : Int) > 4096
  · rw [decide_eq_true c1, decide_eq_false c0]
    exact ⟨_, rfl, rfl, by simp⟩
  rw [decide_eq_false c0, decide_eq_false c1]
  have e11 : spec_l11Draws.f x1 40 = some (drawsC x1 40) := by
    unfold spec_l11Draws.f drawsC
    rw [decide_eq_false c1]
    simp only [cond_false, l08Leaves_eq x1 (by omega), bne, Option.bind_some]
    cases ((x1.length : Int) == 40) <;> cases x1.all (fun x => inB x 0 7) <;> rfl
  simp only [cond_false, Option.bind_some, e11, drawsCode_eq x1 40 (by omega), spec_BatchOK_eq x0 ⟨by omega, hy⟩, impl_BatchOK_eq x0 ⟨by omega, hy⟩]
  cases hd : (drawsC x1 40 != 0)
  case true => exact ⟨_, rfl, rfl, by simp⟩
  simp only [cond_false, Option.bind_some]
  cases hb : batchOK x0
  case false => exact ⟨_, rfl, rfl, by simp⟩
  unfold batchOK at hb
  simp only [Bool.and_eq_true, List.all_eq_true, inB_iff] at hb
  have h40 : x1.length = 40 := by
    unfold drawsC at hd
    cases hx : ((x1.length : Int) == 40)
    · rw [hx] at hd; cases hd
    · have : (x1.length : Int) = 40 := by simpa using hx
      omega
  have ht : ∀ t ∈ x0, t.Ops.length ≤ 4 := fun t hm => by
    have := hb.2 t hm
    unfold txnOK at this
    simp only [Bool.and_eq_true, inB_iff] at this
    omega
  simp only [Bool.not_true, cond_false, l12Entry_eq x0 x1 (by omega) ht h40, entryText_eq x0 x1 (by omega) ht h40, Option.bind_some]
  exact ⟨_, rfl, rfl, by simp⟩

theorem pure_laws_FnExactEntryText (x0 : List S_Txn) (x1 : List Int) (g0 : (x0.length ≤ maxLen ∧ ∀ y : S_Txn, y ∈ x0 → ((y.Ops.length ≤ maxLen ∧ ∀ y1 : S_Op, y1 ∈ y.Ops → (((Lit.int .i64 y1.Kind).wf = true) ∧ ((Lit.int .i64 y1.Key).wf = true) ∧ ((Lit.int .i64 y1.Value).wf = true)))))) (g1 : (x1.length ≤ maxLen ∧ ∀ y : Int, y ∈ x1 → ((Lit.int .i64 y).wf = true))) : laws_FnExactEntryText.f x0 x1 = some true := by
  simp only [laws_FnExactEntryText.f, Option.bind_some]
  by_cases c1 : (x1.length : Int) > 1048576
  · rw [decide_eq_true c1]; rfl
  rw [decide_eq_false c1]; simp only [cond_false]
  have h1 : x1.length ≤ 1048576 := by omega
  obtain ⟨m0, e0, h0⟩ := ok_laws_szTxnS x0 1048576 (by omega) (by omega) g0
  simp only [e0, Option.bind_some]
  rcases h0 with h0 | ⟨p0, q0, h0⟩
  · rw [decide_eq_true h0]; rfl
  rw [decide_eq_false (show ¬ m0 < 0 by omega)]; simp only [cond_false]
  obtain ⟨r, hs, hi, hl⟩ := ex_EntryText x0 x1 g0 h0 g1 h1
  obtain ⟨r0, r1⟩ := r
  simp only [id_laws_toIntS x1 h1, reflL_laws_eqIntS x1 h1, id_laws_toTxnS x0 h0, reflL_laws_eqTxnS x0 (⟨h0.1, fun z hz => (h0.2 z hz)⟩), hs, hi, Option.bind_some, bne_self_eq_false, bs_self, beq_self_eq_true, Bool.not_true, cond_false, cond_true]
theorem cz3 : Try.prog.cellsOf 3 = 1 := by kernel_rfl
theorem cz88 : Try.prog.cellsOf 88 = 1 := by kernel_rfl
theorem cz90 : Try.prog.cellsOf 90 = 1 := by kernel_rfl
theorem cz172 : Try.prog.cellsOf 172 = 3 := by kernel_rfl
theorem op172 {w : World} : Opens Try.prog w 172 L_Op (fun x => ((Lit.int .i64 x.Kind).wf = true) ∧ ((Lit.int .i64 x.Key).wf = true) ∧ ((Lit.int .i64 x.Value).wf = true)) :=
  (opens_struct Try.underlying172 cz172 (opensF_cons rfl cz3 (opens_int Try.underlying3) (opensF_cons rfl cz3 (opens_int Try.underlying3) (opensF_one cz3 (opens_int Try.underlying3))))).conv (fun y cs c h g => ⟨⟨y.1, y.2.1, y.2.2⟩, by obtain ⟨_, _, rfl, rfl, _, _, rfl, rfl, rfl⟩ := h; rfl, g⟩)
theorem op90 {w : World} : Opens Try.prog w 90 L_laws_Txn (fun x => ((x.Ops.length ≤ maxLen ∧ ∀ y : S_Op, y ∈ x.Ops → (((Lit.int .i64 y.Kind).wf = true) ∧ ((Lit.int .i64 y.Key).wf = true) ∧ ((Lit.int .i64 y.Value).wf = true))))) :=
  (opens_struct Try.underlying90 cz90 (opensF_one cz88 (opens_sl Try.underlying88 cz172 (by decide) op172))).conv (fun y cs c h g => ⟨⟨y⟩, h, g⟩)
theorem own : ownKnob Try.prog.godebug = none := by kernel_rfl
theorem laidOut : laidOutB Try.prog = true := by kernel_rfl
set_option maxRecDepth 100000 in
theorem lifted (os : Os) (started : os.Started) (H : Type) (enc : TypeId × Value → H) :
    ReturnsInHanded {} Try.checked os 4 .any (Rows.fnExactEntryTextSpec.pre6 enc Try.prog Try.f4 Rows.fnExactEntryTextRow.domain false) (Rows.fnExactEntryTextSpec.post enc Try.prog Try.f4 false true false false) := by
  refine returnsInHanded_of_change_sized (C := Try.checked) own started (by kernel_rfl) Try.func4
    (ChangeSpec.witness6 (enc := enc) (C := Try.checked) false ⟨#[], #[.slice none 0 0, .slice none 0 0], []⟩ 8 (by kernel_rfl) (by kernel_rfl) (by kernel_rfl) (by kernel_rfl)) ?_
  intro W base args ds gs before hval0 hW hcnd hsz0 _
  have hval : ∀ (j : Nat) t v, Try.f4.params[j]? = some t → args[j]? = some v → Value.okWide Try.prog W .any base t v := hval0
  have hW' := hW
  obtain ⟨p, q, hA0, hV, rfl, hfz, hnd⟩ := hW
  have hA : DataW.TrodAll enc Try.prog W 0 (fun _ => true) true Try.f4.params.toList args.toList ds p := hA0
  rw [Try.params4] at hA hval
  obtain ⟨v0, vs0, d0, ds0, p0, q0, hargs, rfl, rfl, h0, r0⟩ := trodAll_cons hA
  obtain ⟨v1, vs1, d1, ds1, p1, q1, rfl, rfl, rfl, h1, r1⟩ := trodAll_cons r0
  obtain ⟨rfl, rfl, rfl⟩ := trodAll_nil r1
  obtain rfl : args = #[v0, v1] := by cases args; simp_all
  obtain ⟨rfl, rfl⟩ := trodVars_none hV
  have k0 := h0
  have lt0 : ∀ x ∈ p0, x.block < W.heap.size := by obtain ⟨m, hm⟩ := k0; exact DataW.trod_lt m _ _ _ hm
  obtain ⟨f0, hf0⟩ := h0
  obtain ⟨y0, hy0, hg0⟩ := (opens_sl Try.underlying30 cz90 (by decide) op90) H enc f0 _ _ hf0
  obtain ⟨A0_, p0_, e0, w0_⟩ : ∃ A p, v0 = Value.slice A y0.length p ∧ View L_laws_Txn A p y0 (heapC W) := by
    obtain ⟨A, n, c, rfl⟩ := okWide_slice Try.underlying30 (hval 0 30 v0 rfl rfl)
    obtain ⟨v, hv, A, p, rfl, hh⟩ := hy0
    simp only [Value.cells] at hv
    exact ⟨A, p, by simpa using hv, hh⟩
  subst e0
  have k1 := h1
  have lt1 : ∀ x ∈ p1, x.block < W.heap.size := by obtain ⟨m, hm⟩ := k1; exact DataW.trod_lt m _ _ _ hm
  obtain ⟨f1, hf1⟩ := h1
  obtain ⟨y1, hy1, hg1⟩ := (opens_sl Try.underlying31 cz3 (by decide) (opens_int Try.underlying3)) H enc f1 _ _ hf1
  obtain ⟨A1_, p1_, e1, w1_⟩ : ∃ A p, v1 = Value.slice A y1.length p ∧ View (Lay.int .i64) A p y1 (heapC W) := by
    obtain ⟨A, n, c, rfl⟩ := okWide_slice Try.underlying31 (hval 1 31 v1 rfl rfl)
    obtain ⟨v, hv, A, p, rfl, hh⟩ := hy1
    simp only [Value.cells] at hv
    exact ⟨A, p, by simpa using hv, hh⟩
  subst e1
  clear hA0 hval0 hsz0
  refine (laws_FnExactEntryText_t W A0_ p0_ y0 (heapC W) w0_ (heapC_has W) A1_ p1_ y1 (heapC W) w1_ (heapC_has W) true (pure_laws_FnExactEntryText y0 y1 hg0 hg1)).mono fun e W' ⟨v, he, hv, hS⟩ => ?_
  subst he; subst hv
  have bel := hS.below
  exact ⟨_, rfl, _, _, _, [], _, [], hW', trodAll_mk1 (shutB Try.underlying4 _), (trodAll_cons_mk (Below.trod laidOut (by kernel_rfl) (of_decide_eq_true (by kernel_rfl)) k0 bel lt0) (trodAll_cons_mk (Below.trod laidOut (by kernel_rfl) (of_decide_eq_true (by kernel_rfl)) k1 bel lt1) trodAll_mk0)), rfl, bel.frame _, fun h => by cases h⟩
theorem over : Rows.fnExactEntryTextRow.holds Try.pinned (OpenSpec.ofChange Rows.fnExactEntryTextSpec) :=
  OpenClaim.holds_of_wide 4 Try.f4 rfl rfl rfl rfl rfl rfl rfl ⟨rfl, rfl, rfl, rfl, rfl⟩ rfl rfl rfl rfl rfl (by kernel_rfl) Try.func4 (by kernel_rfl)
    (of_decide_eq_true (by kernel_rfl)) (by unfold Func.isWrapper; first | (rw [if_pos (by decide +kernel)]; kernel_rfl) | (rw [if_neg (by decide +kernel)]; exact ⟨rfl, rfl⟩))
    (fun os started H enc _ => lifted os started H enc)
theorem fnExactEntryText_holds : Rows.FnExactEntryTextSaid := over
end Go.Proofs.Ytmgfkpfacdlfbaa.RXEntryText
