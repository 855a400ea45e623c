/- FnExactBatchText: for every input the law returns true, and its arguments read as before. No conditions but the row's own. -/
import Derived.Test.YteablpohefcohaaDoorPXBatchText
import Derived.Test.YteablpohefcohaaDoorCards
import Derived.Test.YteablpohefcohaaDoorTie
import Derived.OpenShut
import Derived.Deep.DeepHandedRow
namespace Go.Proofs.YteablpohefcohaaDoor.RXBatchText
open Go Go.Z Go.Proofs Go.MuLone Go.ChangeShapes Go.WideShapes Go.ChangeAt Go.RowKit
set_option linter.unusedVariables false
set_option linter.unusedSimpArgs false
theorem ex_BatchText (x0 : List S_Txn) (g0 : (x0.length ≤ maxLen ∧ ∀ y : S_Txn, y ∈ x0 → ((y.Ops.length ≤ maxLen ∧ ∀ y1 : S_Op, y1 ∈ y.Ops → (((Lit.int .i64 y1.Kind).wf = true) ∧ ((Lit.int .i64 y1.Key).wf = true) ∧ ((Lit.int .i64 y1.Value).wf = true)))))) (h0 : x0.length ≤ 1048576 ∧ ∀ z0 : S_Txn, z0 ∈ x0 → ((z0.Ops.length ≤ 1048576))) : ∃ r, spec_BatchText.f x0 = some r ∧ impl_BatchText.f x0 = some r ∧ True := by
  have hl : x0.length ≤ 1073741824 ∧ ∀ y, y ∈ x0 → y.Ops.length ≤ 1073741824 := ⟨by have := h0.1; omega, fun y hy => by have := h0.2 y hy; omega⟩
  unfold spec_BatchText.f impl_BatchText.f
  cases decide ((x0.length : Int) > 4096)
  case true => exact ⟨_, rfl, rfl, trivial⟩
  simp only [cond_false, spec_BatchOK_eq x0 hl, impl_BatchOK_eq x0 hl, Option.bind_some]
  cases h : batchOK x0
  · exact ⟨_, rfl, rfl, trivial⟩
  simp only [Bool.not_true, cond_false, l09Text_eq x0 h, batchText_eq x0 h, Option.bind_some]
  exact ⟨_, rfl, rfl, trivial⟩

theorem pure_laws_FnExactBatchText (x0 : List S_Txn) (g0 : (x0.length ≤ maxLen ∧ ∀ y : S_Txn, y ∈ x0 → ((y.Ops.length ≤ maxLen ∧ ∀ y1 : S_Op, y1 ∈ y.Ops → (((Lit.int .i64 y1.Kind).wf = true) ∧ ((Lit.int .i64 y1.Key).wf = true) ∧ ((Lit.int .i64 y1.Value).wf = true)))))) : laws_FnExactBatchText.f x0 = some true := by
  simp only [laws_FnExactBatchText.f, Option.bind_some]
  obtain ⟨m0, e0, h0⟩ := ok_laws_szTxnS x0 1048576 (by omega) (by omega) g0
  simp only [e0, Option.bind_some]
  rcases h0 with h0 | ⟨p0, q0, h0⟩
  · rw [decide_eq_true h0]; rfl
  rw [decide_eq_false (show ¬ m0 < 0 by omega)]; simp only [cond_false]
  obtain ⟨r, hs, hi, hl⟩ := ex_BatchText x0 g0 h0
  obtain ⟨r0, r1⟩ := r
  simp only [id_laws_toTxnS x0 h0, reflL_laws_eqTxnS x0 (⟨h0.1, fun z hz => (h0.2 z hz)⟩), hs, hi, Option.bind_some, bne_self_eq_false, bs_self, beq_self_eq_true, Bool.not_true, cond_false, cond_true]
theorem cz3 : Tryd.prog.cellsOf 3 = 1 := by kernel_rfl
theorem cz23 : Tryd.prog.cellsOf 23 = 3 := by kernel_rfl
theorem cz53 : Tryd.prog.cellsOf 53 = 1 := by kernel_rfl
theorem cz55 : Tryd.prog.cellsOf 55 = 1 := by kernel_rfl
theorem op23 {w : World} : Opens Tryd.prog w 23 L_Op (fun x => ((Lit.int .i64 x.Kind).wf = true) ∧ ((Lit.int .i64 x.Key).wf = true) ∧ ((Lit.int .i64 x.Value).wf = true)) :=
  (opens_struct Tryd.underlying23 cz23 (opensF_cons rfl cz3 (opens_int Tryd.underlying3) (opensF_cons rfl cz3 (opens_int Tryd.underlying3) (opensF_one cz3 (opens_int Tryd.underlying3))))).conv (fun y cs c h g => ⟨⟨y.1, y.2.1, y.2.2⟩, by obtain ⟨_, _, rfl, rfl, _, _, rfl, rfl, rfl⟩ := h; rfl, g⟩)
theorem op55 {w : World} : Opens Tryd.prog w 55 L_laws_Txn (fun x => ((x.Ops.length ≤ maxLen ∧ ∀ y : S_Op, y ∈ x.Ops → (((Lit.int .i64 y.Kind).wf = true) ∧ ((Lit.int .i64 y.Key).wf = true) ∧ ((Lit.int .i64 y.Value).wf = true))))) :=
  (opens_struct Tryd.underlying55 cz55 (opensF_one cz53 (opens_sl Tryd.underlying53 cz23 (by decide) op23))).conv (fun y cs c h g => ⟨⟨y⟩, h, g⟩)
theorem own : ownKnob Tryd.prog.godebug = none := by kernel_rfl
theorem laidOut : laidOutB Tryd.prog = true := by kernel_rfl
theorem gTab : Tryd.prog.globalNamed "internal/strconv.uint64pow10" = some 0 := by kernel_rfl
theorem gTabType : (Tryd.prog.globals[0]?).map (·.type) = some 103 := by kernel_rfl
theorem gCells : Tryd.prog.cellsOf 103 = 20 := by kernel_rfl
theorem gCell1 : Tryd.prog.cellsOf 92 = 1 := by kernel_rfl
theorem table {W : World} (h : laidMetH Tryd.prog Rows.fnExactBatchTextRow.laid W) : Lib.TabIs Tryd.prog W "internal/strconv.uint64pow10" .u64 Lib.pow10Tab :=
  Lib.tabIs_of_head (rest := []) gTab gTabType Tryd.underlying103 Tryd.underlying92 gCell1 gCells (laidMet.tail (laidMet.tail (show laidMet Tryd.prog Rows.fnExactBatchTextRow.laid W from h)))
def tabCells (d : DataW Unit) : Array Value := match d with | .agg l => (l.map fun x => match x with | .lit (.int k z) => Value.int k z | _ => Value.bool false).toArray | _ => #[]
noncomputable def laidWorld (os : Os) : World := { World.holding Tryd.prog os ⟨#[], #[], []⟩ with heap := ((((World.holding Tryd.prog os ⟨#[], #[], []⟩).heap.modify 2 fun | .cells _ t frozen => .cells (tabCells Rows.laid_math_bits_deBruijn32tab) t frozen | o => o).modify 3 fun | .cells _ t frozen => .cells (tabCells Rows.laid_math_bits_deBruijn64tab) t frozen | o => o).modify 0 fun | .cells _ t frozen => .cells (tabCells Rows.laid_internal_strconv_uint64pow10) t frozen | o => o) }
theorem laid_met (os : Os) : laidMet Tryd.prog Rows.fnExactBatchTextRow.laid ((laidWorld os).forCall (fun _ _ => 0) ⟨#[], #[.slice none 0 0], []⟩).memory := laidMet_of_run' 8 (by kernel_rfl) (by kernel_rfl)
theorem reads (os : Os) {H : Type} (enc : TypeId × Value → H) : ∃ places, DataW.whole enc Tryd.prog ((laidWorld os).forCall (fun _ _ => 0) ⟨#[], #[.slice none 0 0], []⟩).memory Tryd.f5.params.toList Rows.fnExactBatchTextSpec.vars false (#[.slice none 0 0] : Array Value).toList 8 = some ([.nil], [], places) := ⟨[], by kernel_rfl⟩
set_option maxRecDepth 100000 in
set_option maxHeartbeats 4000000 in
theorem lifted (os : Os) (started : os.Started) (H : Type) (enc : TypeId × Value → H) (F : Stop.Interp) :
    ReturnsInHanded {} Tryd.checked os 5 .any ((OpenSpec.ofChange Rows.fnExactBatchTextSpec).preRow enc Tryd.prog Tryd.f5 Rows.fnExactBatchTextRow.domain false Rows.fnExactBatchTextRow.laid) (((OpenSpec.ofChange Rows.fnExactBatchTextSpec).at F).post enc Tryd.prog Tryd.f5 false true false false) := by
  obtain ⟨places, hx⟩ := reads os enc
  refine returnsInHanded_of_row (C := Tryd.checked) (s := OpenSpec.ofChange Rows.fnExactBatchTextSpec) own started (by kernel_rfl) Tryd.func5
    (witness_row_at (enc := enc) (C := Tryd.checked) false (laidWorld os) #[.slice none 0 0] rfl (by kernel_rfl) (by kernel_rfl) (by kernel_rfl)
      (OpenSpec.preRow_of_cond 8 hx (by kernel_rfl) (fun k hk => by cases hk) (by kernel_rfl) (laid_met os))) ?_
  intro W base args ds gs before hval0 hW hcnd _ hsz0 hL _ _
  show Calls Tryd.prog 5 args W fun e W' => ∃ v, e = .returned v ∧ Rows.fnExactBatchTextSpec.post enc Tryd.prog Tryd.f5 false true false false W args v W'
  have hval : ∀ (j : Nat) t v, Tryd.f5.params[j]? = some t → args[j]? = some v → Value.okWide Tryd.prog W .any base t v := hval0
  have hW' := hW
  obtain ⟨p, q, hA0, hV, rfl, hfz, hnd⟩ := hW
  have hA : DataW.TrodAll enc Tryd.prog W 0 (fun _ => true) true Tryd.f5.params.toList args.toList ds p := hA0
  rw [Tryd.params5] at hA hval
  obtain ⟨v0, vs0, d0, ds0, p0, q0, hargs, rfl, rfl, h0, r0⟩ := trodAll_cons hA
  obtain ⟨rfl, rfl, rfl⟩ := trodAll_nil r0
  obtain rfl : args = #[v0] := by cases args; simp_all
  obtain ⟨rfl, rfl⟩ := trodVars_none hV
  have k0 := h0
  have lt0 : ∀ x ∈ p0, x.block < W.heap.size := by obtain ⟨m, hm⟩ := k0; exact DataW.trod_lt m _ _ _ hm
  obtain ⟨f0, hf0⟩ := h0
  obtain ⟨y0, hy0, hg0⟩ := (opens_sl Tryd.underlying38 cz55 (by decide) op55) H enc f0 _ _ hf0
  obtain ⟨A0_, p0_, e0, w0_⟩ : ∃ A p, v0 = Value.slice A y0.length p ∧ View L_laws_Txn A p y0 (heapC W) := by
    obtain ⟨A, n, c, rfl⟩ := okWide_slice Tryd.underlying38 (hval 0 38 v0 rfl rfl)
    obtain ⟨v, hv, A, p, rfl, hh⟩ := hy0
    simp only [Value.cells] at hv
    exact ⟨A, p, by simpa using hv, hh⟩
  subst e0
  clear hA0 hval0 hsz0
  refine (laws_FnExactBatchText_t W A0_ p0_ y0 (heapC W) w0_ (heapC_has W) (heapC W) (tabK_heap (table hL)) (heapC_has W) true (pure_laws_FnExactBatchText y0 hg0)).mono fun e W' ⟨v, he, hv, hS⟩ => ?_
  subst he; subst hv
  have bel := hS.below
  exact ⟨_, rfl, _, _, _, [], _, [], hW', trodAll_mk1 (shutB Tryd.underlying4 _), (trodAll_cons_mk (Below.trod laidOut (by kernel_rfl) (of_decide_eq_true (by kernel_rfl)) k0 bel lt0) trodAll_mk0), rfl, bel.frame _, fun h => by cases h⟩
theorem over : Rows.fnExactBatchTextRow.holds Tryd.pinned (OpenSpec.ofChange Rows.fnExactBatchTextSpec) :=
  OpenClaim.holds_of_cond 5 Tryd.f5 rfl rfl rfl rfl rfl rfl rfl ⟨rfl, rfl, rfl, rfl, rfl⟩ rfl rfl rfl rfl rfl (by kernel_rfl) Tryd.func5 (by kernel_rfl)
    (of_decide_eq_true (by kernel_rfl)) (by unfold Func.isWrapper; first | (rw [if_pos (by decide +kernel)]; kernel_rfl) | (rw [if_neg (by decide +kernel)]; exact ⟨rfl, rfl⟩))
    (fun os started H enc _ F => by rw [OpenClaim.pre_eq_preRow]; exact lifted os started H enc F)
theorem plain (f : FuncId) (fn : Func) (hf : Tryd.pinned.checked.prog.funcNamed "loop.example/g00548/laws.FnExactBatchText" = some f) (hfn : Tryd.pinned.checked.prog.funcs[f]? = some fn) :
    false = Tryd.pinned.checked.prog.looks [] ∧ ∀ (j : Nat) t, fn.params[j]? = some t → Tryd.pinned.checked.prog.wantsStandIn t = false := by
  obtain rfl : f = 5 := Option.some.inj ((show Tryd.prog.funcNamed "loop.example/g00548/laws.FnExactBatchText" = some 5 by kernel_rfl).symm.trans hf) |>.symm
  obtain rfl : fn = Tryd.f5 := (Option.some.inj (Tryd.func5.symm.trans hfn)).symm
  refine ⟨by kernel_rfl, fun j t ht => ?_⟩
  rw [Tryd.params5] at ht
  obtain rfl : t = 38 := by simpa using Array.mem_of_getElem? ht
  exact (show Tryd.prog.wantsStandIn 38 = false by kernel_rfl)
theorem fnExactBatchText_holds : Rows.FnExactBatchTextCardSaid :=
  Claim7.holds_tied_plain_at .later [] _ _ _ _ over (fun _ h => by cases h) (by kernel_rfl) (fun _ h => by cases h) fnExactBatchText_row_tie rfl ⟨rfl, rfl⟩ (by kernel_rfl) rfl plain (by kernel_rfl)
end Go.Proofs.YteablpohefcohaaDoor.RXBatchText
