/- FnExactStateText: for every input the law returns true, and its arguments read as before. No conditions but the row's own. -/
import Derived.Test.YtmgfkpfacdlfbaaPXStateText
namespace Go.Proofs.Ytmgfkpfacdlfbaa.RXStateText
open Go Go.Z Go.Proofs Go.MuLone Go.ChangeShapes Go.WideShapes Go.ChangeAt Go.RowKit
set_option linter.unusedVariables false
set_option linter.unusedSimpArgs false
theorem ex_StateText (x0 : S_Enc) (x1 : List S_Result) (g0 : ((x0.Keys.length ≤ maxLen ∧ ∀ y1 : Int, y1 ∈ x0.Keys → ((Lit.int .i64 y1).wf = true)) ∧ ((x0.Oram.Pos.length ≤ maxLen ∧ ∀ y : Int, y ∈ x0.Oram.Pos → ((Lit.int .i64 y).wf = true)) ∧ (x0.Oram.Stash.length ≤ maxLen ∧ ∀ y : S_Block, y ∈ x0.Oram.Stash → (((Lit.int .i64 y.Id).wf = true) ∧ ((Lit.int .i64 y.Leaf).wf = true) ∧ ((Lit.int .i64 y.Value).wf = true))) ∧ (x0.Oram.Buckets.length ≤ maxLen ∧ ∀ y : List S_Block, y ∈ x0.Oram.Buckets → (y.length ≤ maxLen ∧ ∀ y1 : S_Block, y1 ∈ y → (((Lit.int .i64 y1.Id).wf = true) ∧ ((Lit.int .i64 y1.Leaf).wf = true) ∧ ((Lit.int .i64 y1.Value).wf = true))))))) (h0 : (x0.Keys.length ≤ 1048576) ∧ ((x0.Oram.Pos.length ≤ 1048576) ∧ (x0.Oram.Stash.length ≤ 1048576) ∧ (x0.Oram.Buckets.length ≤ 1048576 ∧ ∀ z0 : List S_Block, z0 ∈ x0.Oram.Buckets → (z0.length ≤ 1048576)))) (g1 : (x1.length ≤ maxLen ∧ ∀ y : S_Result, y ∈ x1 → (((Lit.int .i64 y.Code).wf = true) ∧ (y.Values.length ≤ maxLen ∧ ∀ y1 : Int, y1 ∈ y.Values → ((Lit.int .i64 y1).wf = true))))) (h1 : x1.length ≤ 1048576 ∧ ∀ z0 : S_Result, z0 ∈ x1 → ((z0.Values.length ≤ 1048576))) : ∃ r, spec_StateText.f x0 x1 = some r ∧ impl_StateText.f x0 x1 = some r ∧ True := by
  have hk : x0.Keys.length ≤ 1048576 := h0.1
  have hp : x0.Oram.Pos.length ≤ 1048576 := h0.2.1
  have hs : x0.Oram.Stash.length ≤ 1048576 := h0.2.2.1
  have hb : x0.Oram.Buckets.length ≤ 1048576 := h0.2.2.2.1
  have hb2 : ∀ y, y ∈ x0.Oram.Buckets → y.length ≤ 1048576 := h0.2.2.2.2
  have hl : x1.length ≤ 1048576 := h1.1
  have hv : ∀ y, y ∈ x1 → y.Values.length ≤ 1073741824 := fun y hy => by have := h1.2 y hy; omega
  unfold spec_StateText.f impl_StateText.f
  cases decide ((x1.length : Int) > 4096)
  case true => exact ⟨_, rfl, rfl, by simp⟩
  simp only [cond_false, spec_EncOK_eq x0 hk (by omega) hb, impl_EncOK_eq x0 hk (by omega) hs hb2, l12Results_eq x1 hl hv, areResults_eq x1 (by omega) hv, Option.bind_some]
  cases he : (keysB x0.Keys && (((x0.Keys.length : Int) == 11) && oramB x0.Oram))
  case false => exact ⟨_, rfl, rfl, by simp⟩
  cases hr : (x1.all resOK && decide ((x1.length : Int) ≤ 2))
  case false => exact ⟨_, rfl, rfl, by simp⟩
  simp only [Bool.and_eq_true, decide_eq_true_eq, beq_iff_eq, List.all_eq_true] at he hr
  have ho := he.2.2
  unfold oramB at ho
  simp only [Bool.and_eq_true, beq_iff_eq] at ho
  have hst : x0.Oram.Stash.length ≤ 12 := by
    have h5 := ho.2
    rw [goB_app] at h5
    cases hg : goB x0.Oram.Pos x0.Oram.Stash [] with
    | none => rw [hg] at h5; cases h5
    | some r => exact goB_le _ _ r hg
  have h32 : ∀ t ∈ x1, t.Values.length ≤ 32 := fun t ht => by
    have := hr.1 t ht
    unfold resOK at this
    simp only [Bool.and_eq_true, decide_eq_true_eq] at this
    omega
  simp only [Bool.not_true, cond_false, Option.bind_some, l12State_eq x0 x1 (by omega) hst (by omega) (by omega) h32, stateText_eq x0 x1 (by omega) hst (by omega) (by omega) h32]
  exact ⟨_, rfl, rfl, by simp⟩

theorem pure_laws_FnExactStateText (x0 : S_Enc) (x1 : List S_Result) (g0 : ((x0.Keys.length ≤ maxLen ∧ ∀ y1 : Int, y1 ∈ x0.Keys → ((Lit.int .i64 y1).wf = true)) ∧ ((x0.Oram.Pos.length ≤ maxLen ∧ ∀ y : Int, y ∈ x0.Oram.Pos → ((Lit.int .i64 y).wf = true)) ∧ (x0.Oram.Stash.length ≤ maxLen ∧ ∀ y : S_Block, y ∈ x0.Oram.Stash → (((Lit.int .i64 y.Id).wf = true) ∧ ((Lit.int .i64 y.Leaf).wf = true) ∧ ((Lit.int .i64 y.Value).wf = true))) ∧ (x0.Oram.Buckets.length ≤ maxLen ∧ ∀ y : List S_Block, y ∈ x0.Oram.Buckets → (y.length ≤ maxLen ∧ ∀ y1 : S_Block, y1 ∈ y → (((Lit.int .i64 y1.Id).wf = true) ∧ ((Lit.int .i64 y1.Leaf).wf = true) ∧ ((Lit.int .i64 y1.Value).wf = true))))))) (g1 : (x1.length ≤ maxLen ∧ ∀ y : S_Result, y ∈ x1 → (((Lit.int .i64 y.Code).wf = true) ∧ (y.Values.length ≤ maxLen ∧ ∀ y1 : Int, y1 ∈ y.Values → ((Lit.int .i64 y1).wf = true))))) : laws_FnExactStateText.f x0 x1 = some true := by
  simp only [laws_FnExactStateText.f, Option.bind_some]
  obtain ⟨m0, e0, h0⟩ := ok_laws_szEnc x0 1048576 (by omega) (by omega) g0
  simp only [e0, Option.bind_some]
  rcases h0 with h0 | ⟨p0, q0, h0⟩
  · rw [decide_eq_true h0]; rfl
  rw [decide_eq_false (show ¬ m0 < 0 by omega)]; simp only [cond_false]
  obtain ⟨m1, e1, h1⟩ := ok_laws_szResultS x1 m0 (by omega) (by omega) g1
  simp only [e1, Option.bind_some]
  rcases h1 with h1 | ⟨p1, q1, h1⟩
  · rw [decide_eq_true h1]; rfl
  rw [decide_eq_false (show ¬ m1 < 0 by omega)]; simp only [cond_false]
  obtain ⟨r, hs, hi, hl⟩ := ex_StateText x0 x1 g0 h0 g1 h1
  obtain ⟨r0, r1⟩ := r
  simp only [id_laws_toEnc x0 h0, reflL_laws_eqEnc x0 (⟨h0.1, ⟨h0.2.1, h0.2.2.1, ⟨h0.2.2.2.1, fun z hz => (h0.2.2.2.2 z hz)⟩⟩⟩), id_laws_toResultS x1 h1, reflL_laws_eqResultS x1 (⟨h1.1, fun z hz => (h1.2 z hz)⟩), hs, hi, Option.bind_some, bne_self_eq_false, bs_self, beq_self_eq_true, Bool.not_true, cond_false, cond_true]
theorem cz3 : Try.prog.cellsOf 3 = 1 := by kernel_rfl
theorem cz22 : Try.prog.cellsOf 22 = 1 := by kernel_rfl
theorem cz31 : Try.prog.cellsOf 31 = 1 := by kernel_rfl
theorem cz40 : Try.prog.cellsOf 40 = 1 := by kernel_rfl
theorem cz42 : Try.prog.cellsOf 42 = 3 := by kernel_rfl
theorem cz44 : Try.prog.cellsOf 44 = 4 := by kernel_rfl
theorem cz83 : Try.prog.cellsOf 83 = 3 := by kernel_rfl
theorem cz101 : Try.prog.cellsOf 101 = 2 := by kernel_rfl
theorem op83 {w : World} : Opens Try.prog w 83 L_Block (fun x => ((Lit.int .i64 x.Id).wf = true) ∧ ((Lit.int .i64 x.Leaf).wf = true) ∧ ((Lit.int .i64 x.Value).wf = true)) :=
  (opens_struct Try.underlying83 cz83 (opensF_cons rfl cz3 (opens_int Try.underlying3) (opensF_cons rfl cz3 (opens_int Try.underlying3) (opensF_one cz3 (opens_int Try.underlying3))))).conv (fun y cs c h g => ⟨⟨y.1, y.2.1, y.2.2⟩, by obtain ⟨_, _, rfl, rfl, _, _, rfl, rfl, rfl⟩ := h; rfl, g⟩)
theorem op42 {w : World} : Opens Try.prog w 42 L_laws_Oram (fun x => (x.Pos.length ≤ maxLen ∧ ∀ y : Int, y ∈ x.Pos → ((Lit.int .i64 y).wf = true)) ∧ (x.Stash.length ≤ maxLen ∧ ∀ y : S_Block, y ∈ x.Stash → (((Lit.int .i64 y.Id).wf = true) ∧ ((Lit.int .i64 y.Leaf).wf = true) ∧ ((Lit.int .i64 y.Value).wf = true))) ∧ (x.Buckets.length ≤ maxLen ∧ ∀ y : List S_Block, y ∈ x.Buckets → (y.length ≤ maxLen ∧ ∀ y1 : S_Block, y1 ∈ y → (((Lit.int .i64 y1.Id).wf = true) ∧ ((Lit.int .i64 y1.Leaf).wf = true) ∧ ((Lit.int .i64 y1.Value).wf = true))))) :=
  (opens_struct Try.underlying42 cz42 (opensF_cons rfl cz31 (opens_sl Try.underlying31 cz3 (by decide) (opens_int Try.underlying3)) (opensF_cons rfl cz22 (opens_sl Try.underlying22 cz83 (by decide) op83) (opensF_one cz40 (opens_sl Try.underlying40 cz22 (by decide) (opens_sl Try.underlying22 cz83 (by decide) op83)))))).conv (fun y cs c h g => ⟨⟨y.1, y.2.1, y.2.2⟩, h, g⟩)
theorem op44 {w : World} : Opens Try.prog w 44 L_laws_Enc (fun x => (x.Keys.length ≤ maxLen ∧ ∀ y1 : Int, y1 ∈ x.Keys → ((Lit.int .i64 y1).wf = true)) ∧ ((x.Oram.Pos.length ≤ maxLen ∧ ∀ y : Int, y ∈ x.Oram.Pos → ((Lit.int .i64 y).wf = true)) ∧ (x.Oram.Stash.length ≤ maxLen ∧ ∀ y : S_Block, y ∈ x.Oram.Stash → (((Lit.int .i64 y.Id).wf = true) ∧ ((Lit.int .i64 y.Leaf).wf = true) ∧ ((Lit.int .i64 y.Value).wf = true))) ∧ (x.Oram.Buckets.length ≤ maxLen ∧ ∀ y : List S_Block, y ∈ x.Oram.Buckets → (y.length ≤ maxLen ∧ ∀ y1 : S_Block, y1 ∈ y → (((Lit.int .i64 y1.Id).wf = true) ∧ ((Lit.int .i64 y1.Leaf).wf = true) ∧ ((Lit.int .i64 y1.Value).wf = true)))))) :=
  (opens_struct Try.underlying44 cz44 (opensF_cons rfl cz31 (opens_sl Try.underlying31 cz3 (by decide) (opens_int Try.underlying3)) (opensF_one cz42 op42))).conv (fun y cs c h g => ⟨⟨y.1, y.2⟩, h, g⟩)
theorem op101 {w : World} : Opens Try.prog w 101 L_laws_Result (fun x => ((Lit.int .i64 x.Code).wf = true) ∧ (x.Values.length ≤ maxLen ∧ ∀ y : Int, y ∈ x.Values → ((Lit.int .i64 y).wf = true))) :=
  (opens_struct Try.underlying101 cz101 (opensF_cons rfl cz3 (opens_int Try.underlying3) (opensF_one cz31 (opens_sl Try.underlying31 cz3 (by decide) (opens_int Try.underlying3))))).conv (fun y cs c h g => ⟨⟨y.1, y.2⟩, h, g⟩)
theorem own : ownKnob Try.prog.godebug = none := by kernel_rfl
theorem laidOut : laidOutB Try.prog = true := by kernel_rfl
set_option maxRecDepth 100000 in
theorem lifted (os : Os) (started : os.Started) (H : Type) (enc : TypeId × Value → H) :
    ReturnsInHanded {} Try.checked os 5 .any (Rows.fnExactStateTextSpec.pre6 enc Try.prog Try.f5 Rows.fnExactStateTextRow.domain false) (Rows.fnExactStateTextSpec.post enc Try.prog Try.f5 false true false false) := by
  refine returnsInHanded_of_change_sized (C := Try.checked) own started (by kernel_rfl) Try.func5
    (ChangeSpec.witness6 (enc := enc) (C := Try.checked) false ⟨#[], #[.agg #[.slice none 0 0, .slice none 0 0, .slice none 0 0, .slice none 0 0], .slice none 0 0], []⟩ 8 (by kernel_rfl) (by kernel_rfl) (by kernel_rfl) (by kernel_rfl)) ?_
  intro W base args ds gs before hval0 hW hcnd hsz0 _
  have hval : ∀ (j : Nat) t v, Try.f5.params[j]? = some t → args[j]? = some v → Value.okWide Try.prog W .any base t v := hval0
  have hW' := hW
  obtain ⟨p, q, hA0, hV, rfl, hfz, hnd⟩ := hW
  have hA : DataW.TrodAll enc Try.prog W 0 (fun _ => true) true Try.f5.params.toList args.toList ds p := hA0
  rw [Try.params5] at hA hval
  obtain ⟨v0, vs0, d0, ds0, p0, q0, hargs, rfl, rfl, h0, r0⟩ := trodAll_cons hA
  obtain ⟨v1, vs1, d1, ds1, p1, q1, rfl, rfl, rfl, h1, r1⟩ := trodAll_cons r0
  obtain ⟨rfl, rfl, rfl⟩ := trodAll_nil r1
  obtain rfl : args = #[v0, v1] := by cases args; simp_all
  obtain ⟨rfl, rfl⟩ := trodVars_none hV
  have k0 := h0
  have lt0 : ∀ x ∈ p0, x.block < W.heap.size := by obtain ⟨m, hm⟩ := k0; exact DataW.trod_lt m _ _ _ hm
  obtain ⟨f0, hf0⟩ := h0
  obtain ⟨y0, hy0, hg0⟩ := op44 H enc f0 _ _ hf0
  obtain ⟨cs0, rfl, _⟩ := okWide_struct Try.underlying44 (hval 0 44 v0 rfl rfl)
  obtain ⟨l0, hl0⟩ : ∃ l, cs0.toList = l := ⟨_, rfl⟩
  have hy0 : (L_laws_Enc).view y0 cs0.toList (heapC W) := hy0
  rw [hl0] at hy0
  obtain ⟨_, _, rfl, ⟨_, rfl, A0_0, p0_0, rfl, w0_0⟩, ⟨_, _, rfl, ⟨_, rfl, A0_1, p0_1, rfl, w0_1⟩, ⟨_, _, rfl, ⟨_, rfl, A0_2, p0_2, rfl, w0_2⟩, ⟨_, rfl, A0_3, p0_3, rfl, w0_3⟩⟩⟩⟩ := hy0
  obtain rfl : cs0 = #[.slice A0_0 y0.Keys.length p0_0, .slice A0_1 y0.Oram.Pos.length p0_1, .slice A0_2 y0.Oram.Stash.length p0_2, .slice A0_3 y0.Oram.Buckets.length p0_3] := Array.ext' hl0
  have k1 := h1
  have lt1 : ∀ x ∈ p1, x.block < W.heap.size := by obtain ⟨m, hm⟩ := k1; exact DataW.trod_lt m _ _ _ hm
  obtain ⟨f1, hf1⟩ := h1
  obtain ⟨y1, hy1, hg1⟩ := (opens_sl Try.underlying45 cz101 (by decide) op101) H enc f1 _ _ hf1
  obtain ⟨A1_, p1_, e1, w1_⟩ : ∃ A p, v1 = Value.slice A y1.length p ∧ View L_laws_Result A p y1 (heapC W) := by
    obtain ⟨A, n, c, rfl⟩ := okWide_slice Try.underlying45 (hval 1 45 v1 rfl rfl)
    obtain ⟨v, hv, A, p, rfl, hh⟩ := hy1
    simp only [Value.cells] at hv
    exact ⟨A, p, by simpa using hv, hh⟩
  subst e1
  clear hA0 hval0 hsz0
  refine (laws_FnExactStateText_t W y0 A0_0 p0_0 (heapC W) w0_0 (heapC_has W) A0_1 p0_1 (heapC W) w0_1 (heapC_has W) A0_2 p0_2 (heapC W) w0_2 (heapC_has W) A0_3 p0_3 (heapC W) w0_3 (heapC_has W) A1_ p1_ y1 (heapC W) w1_ (heapC_has W) true (pure_laws_FnExactStateText y0 y1 hg0 hg1)).mono fun e W' ⟨v, he, hv, hS⟩ => ?_
  subst he; subst hv
  have bel := hS.below
  exact ⟨_, rfl, _, _, _, [], _, [], hW', trodAll_mk1 (shutB Try.underlying4 _), (trodAll_cons_mk (Below.trod laidOut (by kernel_rfl) (of_decide_eq_true (by kernel_rfl)) k0 bel lt0) (trodAll_cons_mk (Below.trod laidOut (by kernel_rfl) (of_decide_eq_true (by kernel_rfl)) k1 bel lt1) trodAll_mk0)), rfl, bel.frame _, fun h => by cases h⟩
theorem over : Rows.fnExactStateTextRow.holds Try.pinned (OpenSpec.ofChange Rows.fnExactStateTextSpec) :=
  OpenClaim.holds_of_wide 5 Try.f5 rfl rfl rfl rfl rfl rfl rfl ⟨rfl, rfl, rfl, rfl, rfl⟩ rfl rfl rfl rfl rfl (by kernel_rfl) Try.func5 (by kernel_rfl)
    (of_decide_eq_true (by kernel_rfl)) (by unfold Func.isWrapper; first | (rw [if_pos (by decide +kernel)]; kernel_rfl) | (rw [if_neg (by decide +kernel)]; exact ⟨rfl, rfl⟩))
    (fun os started H enc _ => lifted os started H enc)
theorem fnExactStateText_holds : Rows.FnExactStateTextSaid := over
end Go.Proofs.Ytmgfkpfacdlfbaa.RXStateText
