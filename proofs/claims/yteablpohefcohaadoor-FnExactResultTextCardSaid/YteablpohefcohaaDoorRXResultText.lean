/- FnExactResultText: for every input the law returns true, and its arguments read as before. No conditions but the row's own. -/
import Derived.Test.YteablpohefcohaaDoorPXResultText
import Derived.Test.YteablpohefcohaaDoorCards
import Derived.Test.YteablpohefcohaaDoorTie
import Derived.OpenShut
import Derived.Deep.DeepHandedRow
namespace Go.Proofs.YteablpohefcohaaDoor.RXResultText
open Go Go.Z Go.Proofs Go.MuLone Go.ChangeShapes Go.WideShapes Go.ChangeAt Go.RowKit
set_option linter.unusedVariables false
set_option linter.unusedSimpArgs false
theorem ex_ResultText (x0 : S_Result) (g0 : (((Lit.int .i64 x0.Code).wf = true) ∧ (x0.Values.length ≤ maxLen ∧ ∀ y : Int, y ∈ x0.Values → ((Lit.int .i64 y).wf = true)))) (h0 : (x0.Values.length ≤ 1048576)) : ∃ r, spec_ResultText.f x0 = some r ∧ impl_ResultText.f x0 = some r ∧ True := by
  have hl : x0.Values.length ≤ 1048576 := h0
  unfold spec_ResultText.f impl_ResultText.f
  simp only [l10ResultOK_eq x0 (by omega), isResult_eq x0 (by omega), Option.bind_some]
  cases h : resOK x0
  · exact ⟨_, rfl, rfl, trivial⟩
  unfold resOK at h
  simp only [Bool.and_eq_true, inB_iff, decide_eq_true_eq, List.all_eq_true] at h
  have hv : ∀ v ∈ x0.Values, 0 ≤ v ∧ v ≤ 999999 := fun v hm => h.2.2.1 v hm
  simp only [Bool.not_true, cond_false, spec_l10Text_eq x0 h.1 (by omega) hv, resultText_eq x0 h.1 (by omega) hv, Option.bind_some]
  exact ⟨_, rfl, rfl, trivial⟩

theorem pure_laws_FnExactResultText (x0 : S_Result) (g0 : (((Lit.int .i64 x0.Code).wf = true) ∧ (x0.Values.length ≤ maxLen ∧ ∀ y : Int, y ∈ x0.Values → ((Lit.int .i64 y).wf = true)))) : laws_FnExactResultText.f x0 = some true := by
  simp only [laws_FnExactResultText.f, Option.bind_some]
  obtain ⟨m0, e0, h0⟩ := ok_laws_szResult x0 1048576 (by omega) (by omega) g0
  simp only [e0, Option.bind_some]
  rcases h0 with h0 | ⟨p0, q0, h0⟩
  · rw [decide_eq_true h0]; rfl
  rw [decide_eq_false (show ¬ m0 < 0 by omega)]; simp only [cond_false]
  obtain ⟨r, hs, hi, hl⟩ := ex_ResultText x0 g0 h0
  obtain ⟨r0, r1⟩ := r
  simp only [id_laws_toResult x0 h0, reflL_laws_eqResult x0 h0, hs, hi, Option.bind_some, bne_self_eq_false, bs_self, beq_self_eq_true, Bool.not_true, cond_false, cond_true]
theorem cz3 : Tryd.prog.cellsOf 3 = 1 := by kernel_rfl
theorem cz29 : Tryd.prog.cellsOf 29 = 1 := by kernel_rfl
theorem cz31 : Tryd.prog.cellsOf 31 = 2 := by kernel_rfl
theorem op31 {w : World} : Opens Tryd.prog w 31 L_laws_Result (fun x => ((Lit.int .i64 x.Code).wf = true) ∧ (x.Values.length ≤ maxLen ∧ ∀ y : Int, y ∈ x.Values → ((Lit.int .i64 y).wf = true))) :=
  (opens_struct Tryd.underlying31 cz31 (opensF_cons rfl cz3 (opens_int Tryd.underlying3) (opensF_one cz29 (opens_sl Tryd.underlying29 cz3 (by decide) (opens_int Tryd.underlying3))))).conv (fun y cs c h g => ⟨⟨y.1, y.2⟩, h, g⟩)
theorem own : ownKnob Tryd.prog.godebug = none := by kernel_rfl
theorem laidOut : laidOutB Tryd.prog = true := by kernel_rfl
theorem gTab : Tryd.prog.globalNamed "internal/strconv.uint64pow10" = some 0 := by kernel_rfl
theorem gTabType : (Tryd.prog.globals[0]?).map (·.type) = some 103 := by kernel_rfl
theorem gCells : Tryd.prog.cellsOf 103 = 20 := by kernel_rfl
theorem gCell1 : Tryd.prog.cellsOf 92 = 1 := by kernel_rfl
theorem table {W : World} (h : laidMetH Tryd.prog Rows.fnExactResultTextRow.laid W) : Lib.TabIs Tryd.prog W "internal/strconv.uint64pow10" .u64 Lib.pow10Tab :=
  Lib.tabIs_of_head (rest := []) gTab gTabType Tryd.underlying103 Tryd.underlying92 gCell1 gCells (laidMet.tail (laidMet.tail (show laidMet Tryd.prog Rows.fnExactResultTextRow.laid W from h)))
def tabCells (d : DataW Unit) : Array Value := match d with | .agg l => (l.map fun x => match x with | .lit (.int k z) => Value.int k z | _ => Value.bool false).toArray | _ => #[]
noncomputable def laidWorld (os : Os) : World := { World.holding Tryd.prog os ⟨#[], #[], []⟩ with heap := ((((World.holding Tryd.prog os ⟨#[], #[], []⟩).heap.modify 2 fun | .cells _ t frozen => .cells (tabCells Rows.laid_math_bits_deBruijn32tab) t frozen | o => o).modify 3 fun | .cells _ t frozen => .cells (tabCells Rows.laid_math_bits_deBruijn64tab) t frozen | o => o).modify 0 fun | .cells _ t frozen => .cells (tabCells Rows.laid_internal_strconv_uint64pow10) t frozen | o => o) }
theorem laid_met (os : Os) : laidMet Tryd.prog Rows.fnExactResultTextRow.laid ((laidWorld os).forCall (fun _ _ => 0) ⟨#[], #[.agg #[.int .i64 0, .slice none 0 0]], []⟩).memory := laidMet_of_run' 8 (by kernel_rfl) (by kernel_rfl)
theorem reads (os : Os) {H : Type} (enc : TypeId × Value → H) : ∃ places, DataW.whole enc Tryd.prog ((laidWorld os).forCall (fun _ _ => 0) ⟨#[], #[.agg #[.int .i64 0, .slice none 0 0]], []⟩).memory Tryd.f4.params.toList Rows.fnExactResultTextSpec.vars false (#[.agg #[.int .i64 0, .slice none 0 0]] : Array Value).toList 8 = some ([.agg [.lit (.int .i64 0), .nil]], [], places) := ⟨[], by kernel_rfl⟩
set_option maxRecDepth 100000 in
set_option maxHeartbeats 4000000 in
theorem lifted (os : Os) (started : os.Started) (H : Type) (enc : TypeId × Value → H) (F : Stop.Interp) :
    ReturnsInHanded {} Tryd.checked os 4 .any ((OpenSpec.ofChange Rows.fnExactResultTextSpec).preRow enc Tryd.prog Tryd.f4 Rows.fnExactResultTextRow.domain false Rows.fnExactResultTextRow.laid) (((OpenSpec.ofChange Rows.fnExactResultTextSpec).at F).post enc Tryd.prog Tryd.f4 false true false false) := by
  obtain ⟨places, hx⟩ := reads os enc
  refine returnsInHanded_of_row (C := Tryd.checked) (s := OpenSpec.ofChange Rows.fnExactResultTextSpec) own started (by kernel_rfl) Tryd.func4
    (witness_row_at (enc := enc) (C := Tryd.checked) false (laidWorld os) #[.agg #[.int .i64 0, .slice none 0 0]] rfl (by kernel_rfl) (by kernel_rfl) (by kernel_rfl)
      (OpenSpec.preRow_of_cond 8 hx (by kernel_rfl) (fun k hk => by cases hk) (by kernel_rfl) (laid_met os))) ?_
  intro W base args ds gs before hval0 hW hcnd _ hsz0 hL _ _
  show Calls Tryd.prog 4 args W fun e W' => ∃ v, e = .returned v ∧ Rows.fnExactResultTextSpec.post enc Tryd.prog Tryd.f4 false true false false W args v W'
  have hval : ∀ (j : Nat) t v, Tryd.f4.params[j]? = some t → args[j]? = some v → Value.okWide Tryd.prog W .any base t v := hval0
  have hW' := hW
  obtain ⟨p, q, hA0, hV, rfl, hfz, hnd⟩ := hW
  have hA : DataW.TrodAll enc Tryd.prog W 0 (fun _ => true) true Tryd.f4.params.toList args.toList ds p := hA0
  rw [Tryd.params4] at hA hval
  obtain ⟨v0, vs0, d0, ds0, p0, q0, hargs, rfl, rfl, h0, r0⟩ := trodAll_cons hA
  obtain ⟨rfl, rfl, rfl⟩ := trodAll_nil r0
  obtain rfl : args = #[v0] := by cases args; simp_all
  obtain ⟨rfl, rfl⟩ := trodVars_none hV
  have k0 := h0
  have lt0 : ∀ x ∈ p0, x.block < W.heap.size := by obtain ⟨m, hm⟩ := k0; exact DataW.trod_lt m _ _ _ hm
  obtain ⟨f0, hf0⟩ := h0
  obtain ⟨y0, hy0, hg0⟩ := op31 H enc f0 _ _ hf0
  obtain ⟨cs0, rfl, _⟩ := okWide_struct Tryd.underlying31 (hval 0 31 v0 rfl rfl)
  obtain ⟨l0, hl0⟩ : ∃ l, cs0.toList = l := ⟨_, rfl⟩
  have hy0 : (L_laws_Result).view y0 cs0.toList (heapC W) := hy0
  rw [hl0] at hy0
  obtain ⟨_, _, rfl, rfl, ⟨_, rfl, A0_1, p0_1, rfl, w0_1⟩⟩ := hy0
  obtain rfl : cs0 = #[.int .i64 y0.Code, .slice A0_1 y0.Values.length p0_1] := Array.ext' hl0
  clear hA0 hval0 hsz0
  refine (laws_FnExactResultText_t W y0 A0_1 p0_1 (heapC W) w0_1 (heapC_has W) (heapC W) (tabK_heap (table hL)) (heapC_has W) true (pure_laws_FnExactResultText y0 hg0)).mono fun e W' ⟨v, he, hv, hS⟩ => ?_
  subst he; subst hv
  have bel := hS.below
  exact ⟨_, rfl, _, _, _, [], _, [], hW', trodAll_mk1 (shutB Tryd.underlying4 _), (trodAll_cons_mk (Below.trod laidOut (by kernel_rfl) (of_decide_eq_true (by kernel_rfl)) k0 bel lt0) trodAll_mk0), rfl, bel.frame _, fun h => by cases h⟩
theorem over : Rows.fnExactResultTextRow.holds Tryd.pinned (OpenSpec.ofChange Rows.fnExactResultTextSpec) :=
  OpenClaim.holds_of_cond 4 Tryd.f4 rfl rfl rfl rfl rfl rfl rfl ⟨rfl, rfl, rfl, rfl, rfl⟩ rfl rfl rfl rfl rfl (by kernel_rfl) Tryd.func4 (by kernel_rfl)
    (of_decide_eq_true (by kernel_rfl)) (by unfold Func.isWrapper; first | (rw [if_pos (by decide +kernel)]; kernel_rfl) | (rw [if_neg (by decide +kernel)]; exact ⟨rfl, rfl⟩))
    (fun os started H enc _ F => by rw [OpenClaim.pre_eq_preRow]; exact lifted os started H enc F)
theorem plain (f : FuncId) (fn : Func) (hf : Tryd.pinned.checked.prog.funcNamed "loop.example/g00548/laws.FnExactResultText" = some f) (hfn : Tryd.pinned.checked.prog.funcs[f]? = some fn) :
    false = Tryd.pinned.checked.prog.looks [] ∧ ∀ (j : Nat) t, fn.params[j]? = some t → Tryd.pinned.checked.prog.wantsStandIn t = false := by
  obtain rfl : f = 4 := Option.some.inj ((show Tryd.prog.funcNamed "loop.example/g00548/laws.FnExactResultText" = some 4 by kernel_rfl).symm.trans hf) |>.symm
  obtain rfl : fn = Tryd.f4 := (Option.some.inj (Tryd.func4.symm.trans hfn)).symm
  refine ⟨by kernel_rfl, fun j t ht => ?_⟩
  rw [Tryd.params4] at ht
  obtain rfl : t = 31 := by simpa using Array.mem_of_getElem? ht
  exact (show Tryd.prog.wantsStandIn 31 = false by kernel_rfl)
theorem fnExactResultText_holds : Rows.FnExactResultTextCardSaid :=
  Claim7.holds_tied_plain_at .later [] _ _ _ _ over (fun _ h => by cases h) (by kernel_rfl) (fun _ h => by cases h) fnExactResultText_row_tie rfl ⟨rfl, rfl⟩ (by kernel_rfl) rfl plain (by kernel_rfl)
end Go.Proofs.YteablpohefcohaaDoor.RXResultText
