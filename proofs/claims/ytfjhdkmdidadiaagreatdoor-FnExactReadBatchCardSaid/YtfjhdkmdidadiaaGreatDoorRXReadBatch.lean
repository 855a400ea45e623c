/- FnExactReadBatch: for every input the law returns true, and its arguments read as before. No conditions but the row's own. -/
import Derived.Test.YtfjhdkmdidadiaaGreatDoorPXReadBatch
import Derived.Test.YtfjhdkmdidadiaaGreatDoorCards
import Derived.Test.YtfjhdkmdidadiaaGreatDoorTie
import Derived.OpenShut
import Derived.Deep.DeepHandedRow
namespace Go.Proofs.YtfjhdkmdidadiaaGreatDoor.RXReadBatch
open Go Go.Z Go.Proofs Go.MuLone Go.ChangeShapes Go.WideShapes Go.ChangeAt Go.RowKit
set_option linter.unusedVariables false
set_option linter.unusedSimpArgs false
theorem ex_ReadBatch (x0 : ByteArray) (g0 : (x0.size ≤ maxLen)) (h0 : x0.size ≤ 1048576) : ∃ r, spec_ReadBatch.f x0 = some r ∧ impl_ReadBatch.f x0 = some r ∧ (r.1.length ≤ 1048576 ∧ ∀ z0 : S_Txn, z0 ∈ r.1 → ((z0.Ops.length ≤ 1048576))) := by
  obtain ⟨e1, e2⟩ := readBatch_both x0 h0
  unfold spec_ReadBatch.f impl_ReadBatch.f
  simp only [areShort1, Option.bind_some, shortT, e1, e2]
  by_cases c2 : (x0.size : Int) > 65536
  · rw [decide_eq_true c2, decide_eq_false (show ¬ (x0.size : Int) ≤ 65536 by omega)]
    exact ⟨_, rfl, rfl, by simp⟩
  rw [decide_eq_false c2, decide_eq_true (show (x0.size : Int) ≤ 65536 by omega)]
  simp only [cond_false, Bool.not_true]
  unfold rdBatch
  generalize (cutB 124 x0).all (fun w => (rdT w).2) = a
  generalize (cutB 124 x0).map (fun w => (rdT w).1) = l
  cases h : a && batchOK l
  · exact ⟨_, rfl, rfl, by simp⟩
  · have hb := batchOK_small (Bool.and_eq_true_iff.1 h).2
    exact ⟨(l, 0), rfl, rfl, ⟨by simp only; omega, fun z hz => by have := hb.2 z hz; omega⟩⟩

theorem pure_laws_FnExactReadBatch (x0 : ByteArray) (g0 : (x0.size ≤ maxLen)) : laws_FnExactReadBatch.f x0 = some true := by
  simp only [laws_FnExactReadBatch.f, Option.bind_some]
  by_cases c0 : (x0.size : Int) > 1048576
  · rw [decide_eq_true c0]; rfl
  rw [decide_eq_false c0]; simp only [cond_false]
  have h0 : x0.size ≤ 1048576 := by omega
  obtain ⟨r, hs, hi, hl⟩ := ex_ReadBatch x0 g0 h0
  obtain ⟨r0, r1⟩ := r
  obtain ⟨m_0, b0_0, em0, pm0, qm0, _, rm0⟩ := mk_laws_markTxnS r0 1 (by omega) (by omega) hl
  simp only [reflL_laws_eqTxnS r0 hl, rm0, em0, hs, hi, decide_eq_false (show ¬ m_0 < 0 by omega), Option.bind_some, bne_self_eq_false, bs_self, beq_self_eq_true, Bool.not_true, cond_false, cond_true]
theorem own : ownKnob Tryz.prog.godebug = none := by kernel_rfl
theorem laidOut : laidOutB Tryz.prog = true := by kernel_rfl
theorem gTab : Tryz.prog.globalNamed "internal/strconv.uint64pow10" = some 1 := by kernel_rfl
theorem gTabType : (Tryz.prog.globals[1]?).map (·.type) = some 117 := by kernel_rfl
theorem gCells : Tryz.prog.cellsOf 117 = 20 := by kernel_rfl
theorem gCell1 : Tryz.prog.cellsOf 110 = 1 := by kernel_rfl
theorem table {W : World} (h : laidMetH Tryz.prog Rows.fnExactReadBatchRow.laid W) : Lib.TabIs Tryz.prog W "internal/strconv.uint64pow10" .u64 Lib.pow10Tab :=
  Lib.tabIs_of_head gTab gTabType Tryz.underlying117 Tryz.underlying110 gCell1 gCells (laidMet.tail (laidMet.tail (show laidMet Tryz.prog Rows.fnExactReadBatchRow.laid W from h)))
def tabCells (d : DataW Unit) : Array Value := match d with | .agg l => (l.map fun x => match x with | .lit (.int k z) => Value.int k z | _ => Value.bool false).toArray | _ => #[]
noncomputable def laidWorld (os : Os) : World := { World.doorLaid Tryz.prog 400 os with heap := ((World.doorLaid Tryz.prog 400 os).heap.modify 2 fun | .cells _ t frozen => .cells (tabCells Rows.laid_unicode_utf8_first) t frozen | o => o) }
theorem rowEs (u : TypeId) (h : Tryz.prog.typeName? 3 u = some "*errors.errorString") : u = 144 :=
  typeName_ptr_named (nm := "errors.errorString") (by rw [show "*" ++ "errors.errorString" = "*errors.errorString" by decide]; kernel_rfl) (by kernel_rfl) (by decide) u (by rw [show "*" ++ "errors.errorString" = "*errors.errorString" by decide]; exact h)
theorem tabR {W : World} (hL : laidMetH Tryz.prog Rows.fnExactReadBatchRow.laid W) (hO : W.ShapedOpen Tryz.prog) : TabR Tryz.prog (heapC W) := by
  obtain ⟨a1, s1, hv1, -, -, -⟩ := laid_sentinel (laidMet.tail (laidMet.tail (laidMet.tail (laidMet.tail (laidMet.tail (show laidMet Tryz.prog Rows.fnExactReadBatchRow.laid W from hL)))))) (g := 4) (by kernel_rfl) (ti := 89) (by kernel_rfl) Tryz.underlying89 rowEs Tryz.underlying144 Tryz.underlying146 rfl rfl Tryz.underlying9 (by kernel_rfl) (by kernel_rfl)
  obtain ⟨a2, s2, hv2, -, -, -⟩ := laid_sentinel (laidMet.tail (laidMet.tail (laidMet.tail (laidMet.tail (show laidMet Tryz.prog Rows.fnExactReadBatchRow.laid W from hL))))) (g := 5) (by kernel_rfl) (ti := 89) (by kernel_rfl) Tryz.underlying89 rowEs Tryz.underlying144 Tryz.underlying146 rfl rfl Tryz.underlying9 (by kernel_rfl) (by kernel_rfl)
  obtain ⟨m, hm⟩ := Go.Proofs.cell_of_shapedOpen_int (g := 0) (zero := #[.int .i64 0]) (t := 3) hO (of_decide_eq_true (by kernel_rfl)) (by kernel_rfl) rfl (by kernel_rfl) (by kernel_rfl) Tryz.underlying3
  obtain ⟨v, hv, hv0⟩ := var_of_cell (P := Tryz.prog) (n := "internal/bytealg.MaxLen") (by kernel_rfl) hm
  exact ⟨tabK_heap (table hL), varK_heap hv ⟨m, hv0⟩, varK_heap hv1 ⟨_, _, rfl⟩, varK_heap hv2 ⟨_, _, rfl⟩⟩
theorem laid_met (os : Os) : laidMet Tryz.prog Rows.fnExactReadBatchRow.laid ((laidWorld os).forCall (fun _ _ => 0) ⟨#[], #[.string ⟨#[]⟩], []⟩).memory := laidMet_of_run' 8 (by kernel_rfl) (by kernel_rfl)
theorem reads (os : Os) {H : Type} (enc : TypeId × Value → H) : ∃ places, DataW.whole enc Tryz.prog ((laidWorld os).forCall (fun _ _ => 0) ⟨#[], #[.string ⟨#[]⟩], []⟩).memory Tryz.f3.params.toList Rows.fnExactReadBatchSpec.vars false (#[.string ⟨#[]⟩] : Array Value).toList 8 = some ([.lit (.string [])], [], places) := ⟨[], by kernel_rfl⟩
set_option maxRecDepth 100000 in
set_option maxHeartbeats 4000000 in
theorem lifted (os : Os) (started : os.Started) (H : Type) (enc : TypeId × Value → H) (F : Stop.Interp) :
    ReturnsInHanded {} Tryz.checked os 3 .any ((OpenSpec.ofChange Rows.fnExactReadBatchSpec).preRow enc Tryz.prog Tryz.f3 Rows.fnExactReadBatchRow.domain false Rows.fnExactReadBatchRow.laid) (((OpenSpec.ofChange Rows.fnExactReadBatchSpec).at F).post enc Tryz.prog Tryz.f3 false true false false) := by
  obtain ⟨places, hx⟩ := reads os enc
  refine returnsInHanded_of_row (C := Tryz.checked) (s := OpenSpec.ofChange Rows.fnExactReadBatchSpec) own started (by kernel_rfl) Tryz.func3
    (witness_row_atRef (enc := enc) (C := Tryz.checked) false (laidWorld os) #[.string ⟨#[]⟩] rfl (by kernel_rfl) (by kernel_rfl) (by kernel_rfl)
      (OpenSpec.preRow_of_cond 8 hx (by kernel_rfl) (fun k hk => by cases hk) (by kernel_rfl) (laid_met os))) ?_
  intro W base args ds gs before hval0 hW hcnd _ hsz0 hL hO _
  show Calls Tryz.prog 3 args W fun e W' => ∃ v, e = .returned v ∧ Rows.fnExactReadBatchSpec.post enc Tryz.prog Tryz.f3 false true false false W args v W'
  have hval : ∀ (j : Nat) t v, Tryz.f3.params[j]? = some t → args[j]? = some v → Value.okWide Tryz.prog W .any base t v := hval0
  have hW' := hW
  obtain ⟨p, q, hA0, hV, rfl, hfz, hnd⟩ := hW
  have hA : DataW.TrodAll enc Tryz.prog W 0 (fun _ => true) true Tryz.f3.params.toList args.toList ds p := hA0
  rw [Tryz.params3] at hA hval
  obtain ⟨v0, vs0, d0, ds0, p0, q0, hargs, rfl, rfl, h0, r0⟩ := trodAll_cons hA
  obtain ⟨rfl, rfl, rfl⟩ := trodAll_nil r0
  obtain rfl : args = #[v0] := by cases args; simp_all
  obtain ⟨rfl, rfl⟩ := trodVars_none hV
  have k0 := h0
  have lt0 : ∀ x ∈ p0, x.block < W.heap.size := by obtain ⟨m, hm⟩ := k0; exact DataW.trod_lt m _ _ _ hm
  obtain ⟨f0, hf0⟩ := h0
  obtain ⟨y0, hy0, hg0⟩ := (opens_str Tryz.underlying9) H enc f0 _ _ hf0
  obtain rfl : v0 = .string y0 := by
    obtain hv := (hval 0 9 v0 rfl rfl)
    simp only [Value.okWide, Tryz.underlying9, Cell.okWide] at hv
    cases v0 <;> simp_all [Cell.ok, Value.cells, Lay.int, Lay.bool, Lay.str, Lay.flat]
  clear hA0 hval0 hsz0
  refine (laws_FnExactReadBatch_t W y0 (heapC W) (tabR hL hO) (heapC_has W) true (pure_laws_FnExactReadBatch y0 hg0)).mono fun e W' ⟨v, he, hv, hS⟩ => ?_
  subst he; subst hv
  have bel := hS.below
  exact ⟨_, rfl, _, _, _, [], _, [], hW', trodAll_mk1 (shutB Tryz.underlying4 _), (trodAll_cons_mk (Below.trod laidOut (by kernel_rfl) (of_decide_eq_true (by kernel_rfl)) k0 bel lt0) trodAll_mk0), rfl, bel.frame _, fun h => by cases h⟩
theorem over : Rows.fnExactReadBatchRow.holds Tryz.pinned (OpenSpec.ofChange Rows.fnExactReadBatchSpec) :=
  OpenClaim.holds_of_cond 3 Tryz.f3 rfl rfl rfl rfl rfl rfl rfl ⟨rfl, rfl, rfl, rfl, rfl⟩ rfl rfl rfl rfl rfl (by kernel_rfl) Tryz.func3 (by kernel_rfl)
    (of_decide_eq_true (by kernel_rfl)) (by unfold Func.isWrapper; first | (rw [if_pos (by decide +kernel)]; kernel_rfl) | (rw [if_neg (by decide +kernel)]; exact ⟨rfl, rfl⟩))
    (fun os started H enc _ F => by rw [OpenClaim.pre_eq_preRow]; exact lifted os started H enc F)
theorem plain (f : FuncId) (fn : Func) (hf : Tryz.pinned.checked.prog.funcNamed "loop.example/g00548/laws.FnExactReadBatch" = some f) (hfn : Tryz.pinned.checked.prog.funcs[f]? = some fn) :
    true = Tryz.pinned.checked.prog.looks [] ∧ ∀ (j : Nat) t, fn.params[j]? = some t → Tryz.pinned.checked.prog.wantsStandIn t = false := by
  obtain rfl : f = 3 := Option.some.inj ((show Tryz.prog.funcNamed "loop.example/g00548/laws.FnExactReadBatch" = some 3 by kernel_rfl).symm.trans hf) |>.symm
  obtain rfl : fn = Tryz.f3 := (Option.some.inj (Tryz.func3.symm.trans hfn)).symm
  refine ⟨by kernel_rfl, fun j t ht => ?_⟩
  rw [Tryz.params3] at ht
  obtain rfl : t = 9 := by simpa using Array.mem_of_getElem? ht
  exact (show Tryz.prog.wantsStandIn 9 = false by kernel_rfl)
theorem fnExactReadBatch_holds : Rows.FnExactReadBatchCardSaid :=
  Claim7.holds_tied_plain_at .later [] _ _ _ _ over (fun _ h => by cases h) (by kernel_rfl) (fun _ h => by cases h) fnExactReadBatch_row_tie rfl ⟨rfl, rfl⟩ (by kernel_rfl) rfl plain (by kernel_rfl)
end Go.Proofs.YtfjhdkmdidadiaaGreatDoor.RXReadBatch
