/- FnExactMapTxn: for every input the law returns true, and its arguments read as before. No conditions but the row's own. -/
import Derived.Test.YtlbbkehdfgjneaaPXMapTxn
namespace Go.Proofs.Ytlbbkehdfgjneaa.RXMapTxn
open Go Go.Z Go.Proofs Go.MuLone Go.ChangeShapes Go.WideShapes Go.ChangeAt Go.RowKit
set_option linter.unusedVariables false
set_option linter.unusedSimpArgs false
theorem ex_MapTxn (x0 : List S_Entry) (x1 : S_Txn) (g0 : (x0.length ≤ maxLen ∧ ∀ y : S_Entry, y ∈ x0 → (((Lit.int .i64 y.Key).wf = true) ∧ ((Lit.int .i64 y.Value).wf = true)))) (h0 : x0.length ≤ 1048576) (g1 : ((x1.Ops.length ≤ maxLen ∧ ∀ y : S_Op, y ∈ x1.Ops → (((Lit.int .i64 y.Kind).wf = true) ∧ ((Lit.int .i64 y.Key).wf = true) ∧ ((Lit.int .i64 y.Value).wf = true))))) (h1 : (x1.Ops.length ≤ 1048576)) : ∃ r, spec_MapTxn.f x0 x1 = some r ∧ impl_MapTxn.f x0 x1 = some r ∧ (r.1.length ≤ 1048576) ∧ ((r.2.1.Values.length ≤ 1048576)) := by
  have hl : x0.length ≤ 1048576 := by first | exact h0 | exact h0.1
  have hl1 : x1.Ops.length ≤ 1048576 := by first | exact h1 | exact h1.1
  unfold spec_MapTxn.f impl_MapTxn.f
  cases decide ((x0.length : Int) > 4096)
  case true => exact ⟨_, rfl, rfl, by simp⟩
  simp only [cond_false, impl_MapOK_eq x0 (by omega), spec_MapOK_eq x0 (by omega), isTxn_eq x1 (by omega), l09Txn_eq x1 (by omega), Option.bind_some]
  cases hm : mapOK x0
  case false => exact ⟨_, rfl, rfl, by simp⟩
  cases ho : txnOK x1
  case false => exact ⟨_, rfl, rfl, by simp⟩
  have hs := mapOK_sorted hm
  have hsh := hs.short
  unfold txnOK at ho
  simp only [Bool.and_eq_true, List.all_eq_true, inB_iff] at ho
  have e1 := l10Txn_loop x0 x1 (by omega) ho.1 hs
  have e2 := doTxn_loop x0 x1 (by omega) ho.1 hs
  have hgl := txnGo_len x0 hsh x1.Ops x0 [] ho.1 hs
  simp only [Bool.not_true, cond_false, Option.bind_some, spec_l10Txn.f, impl_doTxn.f, e1, e2]
  revert hgl
  cases txnGo x0 x1.Ops x0 [] with
  | out x =>
    obtain ⟨a, b⟩ := x
    intro h
    have h1 := h.1; have h2 := h.2.1
    simp only [List.length_nil] at h2
    simp only [Option.bind_some, List.length_nil]
    rw [clone_eq _ (by omega), if_pos (by omega)]
    simp only [Option.bind_some, List.nil_append]
    refine ⟨_, rfl, rfl, ?_, ?_⟩ <;> (dsimp only; omega)
  | ret x =>
    intro h
    have h1 := h.1; have h2 := h.2
    simp only [Option.bind_some, List.length_nil]
    rw [clone_eq _ (by omega), if_pos (by omega)]
    simp only [Option.bind_some, List.nil_append]
    refine ⟨_, rfl, rfl, ?_, ?_⟩ <;> (dsimp only; omega)

theorem pure_laws_FnExactMapTxn (x0 : List S_Entry) (x1 : S_Txn) (g0 : (x0.length ≤ maxLen ∧ ∀ y : S_Entry, y ∈ x0 → (((Lit.int .i64 y.Key).wf = true) ∧ ((Lit.int .i64 y.Value).wf = true)))) (g1 : ((x1.Ops.length ≤ maxLen ∧ ∀ y : S_Op, y ∈ x1.Ops → (((Lit.int .i64 y.Kind).wf = true) ∧ ((Lit.int .i64 y.Key).wf = true) ∧ ((Lit.int .i64 y.Value).wf = true))))) : laws_FnExactMapTxn.f x0 x1 = some true := by
  simp only [laws_FnExactMapTxn.f, Option.bind_some]
  obtain ⟨m0, e0, h0⟩ := ok_laws_szEntryS x0 1048576 (by omega) (by omega) g0
  simp only [e0, Option.bind_some]
  rcases h0 with h0 | ⟨p0, q0, h0⟩
  · rw [decide_eq_true h0]; rfl
  rw [decide_eq_false (show ¬ m0 < 0 by omega)]; simp only [cond_false]
  obtain ⟨m1, e1, h1⟩ := ok_laws_szTxn x1 m0 (by omega) (by omega) g1
  simp only [e1, Option.bind_some]
  rcases h1 with h1 | ⟨p1, q1, h1⟩
  · rw [decide_eq_true h1]; rfl
  rw [decide_eq_false (show ¬ m1 < 0 by omega)]; simp only [cond_false]
  obtain ⟨r, hs, hi, hl⟩ := ex_MapTxn x0 x1 g0 h0 g1 h1
  obtain ⟨r0, ⟨r1_Code, r1_Values⟩, r2⟩ := r
  obtain ⟨k0, a0_0, ek0, pk0, qk0, _, _⟩ := mk_laws_markEntryS x0 1 (by omega) (by omega) h0
  obtain ⟨k1, a1_0, ek1, pk1, qk1, _⟩ := mk_laws_markTxn x1 k0 (by omega) (by omega) h1
  obtain ⟨m_0, b0_0, em0, pm0, qm0, _, rm0⟩ := mk_laws_markEntryS r0 1 (by omega) (by omega) hl.1
  obtain ⟨m_1, b1_0, em1, pm1, qm1, rm1⟩ := mk_laws_markResult (⟨r1_Code, r1_Values⟩ : S_Result) m_0 (by omega) (by omega) hl.2
  have hh1 := rm1 (⟨r1_Code, b1_0⟩ : S_Result) rfl
  simp only [id_laws_toEntryS x0 h0, reflL_laws_eqEntryS x0 h0, id_laws_toTxn x1 h1, reflL_laws_eqTxn x1 h1, reflL_laws_eqEntryS r0 hl.1, reflL_laws_eqResult (⟨r1_Code, r1_Values⟩ : S_Result) hl.2, ek0, ek1, rm0, em0, hh1, em1, hs, hi, decide_eq_false (show ¬ k1 < 0 by omega), decide_eq_false (show ¬ m_0 < 0 by omega), decide_eq_false (show ¬ m_1 < 0 by omega), Option.bind_some, bne_self_eq_false, bs_self, beq_self_eq_true, Bool.not_true, cond_false, cond_true]
theorem cz3 : Try.prog.cellsOf 3 = 1 := by kernel_rfl
theorem cz24 : Try.prog.cellsOf 24 = 3 := by kernel_rfl
theorem cz38 : Try.prog.cellsOf 38 = 1 := by kernel_rfl
theorem cz40 : Try.prog.cellsOf 40 = 1 := by kernel_rfl
theorem cz104 : Try.prog.cellsOf 104 = 2 := by kernel_rfl
theorem op104 {w : World} : Opens Try.prog w 104 L_Entry (fun x => ((Lit.int .i64 x.Key).wf = true) ∧ ((Lit.int .i64 x.Value).wf = true)) :=
  (opens_struct Try.underlying104 cz104 (opensF_cons rfl cz3 (opens_int Try.underlying3) (opensF_one cz3 (opens_int Try.underlying3)))).conv (fun y cs c h g => ⟨⟨y.1, y.2⟩, by obtain ⟨_, _, rfl, rfl, rfl⟩ := h; rfl, g⟩)
theorem op24 {w : World} : Opens Try.prog w 24 L_Op (fun x => ((Lit.int .i64 x.Kind).wf = true) ∧ ((Lit.int .i64 x.Key).wf = true) ∧ ((Lit.int .i64 x.Value).wf = true)) :=
  (opens_struct Try.underlying24 cz24 (opensF_cons rfl cz3 (opens_int Try.underlying3) (opensF_cons rfl cz3 (opens_int Try.underlying3) (opensF_one cz3 (opens_int Try.underlying3))))).conv (fun y cs c h g => ⟨⟨y.1, y.2.1, y.2.2⟩, by obtain ⟨_, _, rfl, rfl, _, _, rfl, rfl, rfl⟩ := h; rfl, g⟩)
theorem op40 {w : World} : Opens Try.prog w 40 L_laws_Txn (fun x => ((x.Ops.length ≤ maxLen ∧ ∀ y : S_Op, y ∈ x.Ops → (((Lit.int .i64 y.Kind).wf = true) ∧ ((Lit.int .i64 y.Key).wf = true) ∧ ((Lit.int .i64 y.Value).wf = true))))) :=
  (opens_struct Try.underlying40 cz40 (opensF_one cz38 (opens_sl Try.underlying38 cz24 (by decide) op24))).conv (fun y cs c h g => ⟨⟨y⟩, h, g⟩)
theorem own : ownKnob Try.prog.godebug = none := by kernel_rfl
theorem laidOut : laidOutB Try.prog = true := by kernel_rfl
set_option maxRecDepth 100000 in
theorem lifted (os : Os) (started : os.Started) (H : Type) (enc : TypeId × Value → H) :
    ReturnsInHanded {} Try.checked os 4 .any (Rows.fnExactMapTxnSpec.pre6 enc Try.prog Try.f4 Rows.fnExactMapTxnRow.domain false) (Rows.fnExactMapTxnSpec.post enc Try.prog Try.f4 false true false false) := by
  refine returnsInHanded_of_change_sized (C := Try.checked) own started (by kernel_rfl) Try.func4
    (ChangeSpec.witness6 (enc := enc) (C := Try.checked) false ⟨#[], #[.slice none 0 0, .agg #[.slice none 0 0]], []⟩ 8 (by kernel_rfl) (by kernel_rfl) (by kernel_rfl) (by kernel_rfl)) ?_
  intro W base args ds gs before hval0 hW hcnd hsz0 _
  have hval : ∀ (j : Nat) t v, Try.f4.params[j]? = some t → args[j]? = some v → Value.okWide Try.prog W .any base t v := hval0
  have hW' := hW
  obtain ⟨p, q, hA0, hV, rfl, hfz, hnd⟩ := hW
  have hA : DataW.TrodAll enc Try.prog W 0 (fun _ => true) true Try.f4.params.toList args.toList ds p := hA0
  rw [Try.params4] at hA hval
  obtain ⟨v0, vs0, d0, ds0, p0, q0, hargs, rfl, rfl, h0, r0⟩ := trodAll_cons hA
  obtain ⟨v1, vs1, d1, ds1, p1, q1, rfl, rfl, rfl, h1, r1⟩ := trodAll_cons r0
  obtain ⟨rfl, rfl, rfl⟩ := trodAll_nil r1
  obtain rfl : args = #[v0, v1] := by cases args; simp_all
  obtain ⟨rfl, rfl⟩ := trodVars_none hV
  have k0 := h0
  have lt0 : ∀ x ∈ p0, x.block < W.heap.size := by obtain ⟨m, hm⟩ := k0; exact DataW.trod_lt m _ _ _ hm
  obtain ⟨f0, hf0⟩ := h0
  obtain ⟨y0, hy0, hg0⟩ := (opens_sl Try.underlying22 cz104 (by decide) op104) H enc f0 _ _ hf0
  obtain ⟨A0_, p0_, e0, w0_⟩ : ∃ A p, v0 = Value.slice A y0.length p ∧ View L_Entry A p y0 (heapC W) := by
    obtain ⟨A, n, c, rfl⟩ := okWide_slice Try.underlying22 (hval 0 22 v0 rfl rfl)
    obtain ⟨v, hv, A, p, rfl, hh⟩ := hy0
    simp only [Value.cells] at hv
    exact ⟨A, p, by simpa using hv, hh⟩
  subst e0
  have k1 := h1
  have lt1 : ∀ x ∈ p1, x.block < W.heap.size := by obtain ⟨m, hm⟩ := k1; exact DataW.trod_lt m _ _ _ hm
  obtain ⟨f1, hf1⟩ := h1
  obtain ⟨y1, hy1, hg1⟩ := op40 H enc f1 _ _ hf1
  obtain ⟨cs1, rfl, _⟩ := okWide_struct Try.underlying40 (hval 1 40 v1 rfl rfl)
  obtain ⟨l1, hl1⟩ : ∃ l, cs1.toList = l := ⟨_, rfl⟩
  have hy1 : (L_laws_Txn).view y1 cs1.toList (heapC W) := hy1
  rw [hl1] at hy1
  obtain ⟨_, rfl, A1_0, p1_0, rfl, w1_0⟩ := hy1
  obtain rfl : cs1 = #[.slice A1_0 y1.Ops.length p1_0] := Array.ext' hl1
  clear hA0 hval0 hsz0
  refine (laws_FnExactMapTxn_t W A0_ p0_ y0 (heapC W) w0_ (heapC_has W) y1 A1_0 p1_0 (heapC W) w1_0 (heapC_has W) true (pure_laws_FnExactMapTxn y0 y1 hg0 hg1)).mono fun e W' ⟨v, he, hv, hS⟩ => ?_
  subst he; subst hv
  have bel := hS.below
  exact ⟨_, rfl, _, _, _, [], _, [], hW', trodAll_mk1 (shutB Try.underlying4 _), (trodAll_cons_mk (Below.trod laidOut (by kernel_rfl) (of_decide_eq_true (by kernel_rfl)) k0 bel lt0) (trodAll_cons_mk (Below.trod laidOut (by kernel_rfl) (of_decide_eq_true (by kernel_rfl)) k1 bel lt1) trodAll_mk0)), rfl, bel.frame _, fun h => by cases h⟩
theorem over : Rows.fnExactMapTxnRow.holds Try.pinned (OpenSpec.ofChange Rows.fnExactMapTxnSpec) :=
  OpenClaim.holds_of_wide 4 Try.f4 rfl rfl rfl rfl rfl rfl rfl ⟨rfl, rfl, rfl, rfl, rfl⟩ rfl rfl rfl rfl rfl (by kernel_rfl) Try.func4 (by kernel_rfl)
    (of_decide_eq_true (by kernel_rfl)) (by unfold Func.isWrapper; first | (rw [if_pos (by decide +kernel)]; kernel_rfl) | (rw [if_neg (by decide +kernel)]; exact ⟨rfl, rfl⟩))
    (fun os started H enc _ => lifted os started H enc)
theorem fnExactMapTxn_holds : Rows.FnExactMapTxnSaid := over
end Go.Proofs.Ytlbbkehdfgjneaa.RXMapTxn
