/- FnExactReadResult: for every input the law returns true, and its arguments read as before. No conditions but the row's own. -/
import Derived.Test.YtfjhdkmdidadiaaDoorPXReadResult
import Derived.Test.YtfjhdkmdidadiaaDoorCards
import Derived.Test.YtfjhdkmdidadiaaDoorTie
import Derived.OpenShut
import Derived.Deep.DeepHandedRow
namespace Go.Proofs.YtfjhdkmdidadiaaDoor.RXReadResult
open Go Go.Z Go.Proofs Go.MuLone Go.ChangeShapes Go.WideShapes Go.ChangeAt Go.RowKit
set_option linter.unusedVariables false
set_option linter.unusedSimpArgs false
theorem rr_loop (W : List ByteArray) (h1 : 1 ≤ W.length) (hl : W.length ≤ 1048577) (h : ∀ w ∈ W, w.size ≤ 1048576) : loopO (fun s : Int × List Int => spec_ReadResult.s0 W s.1 s.2) (1, []) = some (bif (W.drop 1).all (fun w => (sdN w).2) then .out ((W.drop 1).map (fun w => (sdN w).1)) else .ret ((⟨0, []⟩ : S_Result), 3)) := by
  obtain ⟨v, rfl⟩ : ∃ v, v = W.drop 1 := ⟨_, rfl⟩
  have hv : (W.drop 1).length = W.length - 1 := List.length_drop ..
  have hd : ∀ k, k < (W.drop 1).length → (W.drop 1).getD k ByteArray.empty = W.getD (k + 1) ByteArray.empty := by
    intro k hk
    rw [List.getD_eq_getElem?_getD, List.getD_eq_getElem?_getD, List.getElem?_drop, Nat.add_comm 1 k]
  obtain ⟨r, h1, h2⟩ := loopO_wf (step := fun s : Int × List Int => spec_ReadResult.s0 W s.1 s.2)
    (fun s => ∃ k : Nat, k ≤ (W.drop 1).length ∧ s.1 = (k : Int) + 1 ∧ s.2 = ((W.drop 1).take k).map (fun w => (sdN w).1) ∧ ∀ w ∈ (W.drop 1).take k, (sdN w).2 = true)
    (fun r => (r = .out ((W.drop 1).map (fun w => (sdN w).1)) ∧ ∀ w ∈ W.drop 1, (sdN w).2 = true) ∨ (r = .ret (⟨0, []⟩, 3) ∧ ∃ w ∈ W.drop 1, (sdN w).2 = false)) (fun s => W.length - s.1.toNat) (fun s hI => by
      obtain ⟨k0, u⟩ := s
      obtain ⟨k, hk, hk0, hu, hall⟩ := hI
      simp only at hk0 hu
      subst hk0; subst hu
      by_cases c : k < (W.drop 1).length
      · have hm := getD_mem c ByteArray.empty
        have hm2 := List.mem_of_mem_drop hm
        simp only [spec_ReadResult.s0, decide_eq_true (show (k : Int) + 1 < (W.length : Int) by omega), cond_true, if_pos (show (0 : Int) ≤ (k : Int) + 1 ∧ (k : Int) + 1 < (W.length : Int) by omega), show ((k : Int) + 1).toNat = k + 1 by omega, ← hd k c, sdN_eq (h _ hm2), Option.bind_some]
        cases hb : (sdN ((W.drop 1).getD k ByteArray.empty)).2
        · exact .inr ⟨_, rfl, .inr ⟨rfl, _, hm, hb⟩⟩
        · simp only [Bool.not_true, cond_false]
          rw [if_pos (by simp only [List.length_map, List.length_take, List.length_cons, List.length_nil]; omega), w64_id (by omega) (by omega)]
          refine .inl ⟨_, rfl, ⟨k + 1, by omega, by simp only; omega, ?_, fun w hw => ?_⟩, by simp only; omega⟩
          · simp only
            rw [take_snoc (W.drop 1) k c ByteArray.empty, List.map_append]; rfl
          · rw [take_snoc (W.drop 1) k c ByteArray.empty] at hw
            rcases List.mem_append.1 hw with hw | hw
            · exact hall w hw
            · rw [List.mem_singleton.1 hw]; exact hb
      · have e : k = (W.drop 1).length := by omega
        simp only [spec_ReadResult.s0]
        rw [decide_eq_false (by omega)]
        rw [e, List.take_length] at hall ⊢
        exact .inr ⟨_, rfl, .inl ⟨rfl, hall⟩⟩) _ (1, ([] : List Int)) (Nat.le_refl _) ⟨0, Nat.zero_le _, rfl, rfl, by simp⟩
  rw [h1]
  rcases h2 with ⟨rfl, ha⟩ | ⟨rfl, w, hw, hb⟩
  · rw [List.all_eq_true.2 ha]; rfl
  · have : (W.drop 1).all (fun w => (sdN w).2) = false := List.all_eq_false.2 ⟨w, hw, by rw [hb]; decide⟩
    rw [this]; rfl
theorem ex_ReadResult (x0 : ByteArray) (g0 : (x0.size ≤ maxLen)) (h0 : x0.size ≤ 1048576) : ∃ r, spec_ReadResult.f x0 = some r ∧ impl_ReadResult.f x0 = some r ∧ ((r.1.Values.length ≤ 1048576)) := by
  unfold spec_ReadResult.f impl_ReadResult.f
  simp only [areShort1, Option.bind_some, shortT]
  by_cases c2 : (x0.size : Int) > 65536
  · rw [decide_eq_true c2, decide_eq_false (show ¬ (x0.size : Int) ≤ 65536 by omega)]
    exact ⟨_, rfl, rfl, by simp⟩
  rw [decide_eq_false c2, decide_eq_true (show (x0.size : Int) ≤ 65536 by omega)]
  obtain ⟨W, e1, e2, hlen, hsz, hne⟩ := words_both x0 h0
  simp only [e1, e2, Option.bind_some, Bool.not_true, cond_false]
  by_cases c0 : W.length = 0
  · rw [c0]; exact ⟨_, rfl, rfl, by simp⟩
  have hv : (W.drop 1).length = W.length - 1 := List.length_drop ..
  have hr := readNumbers_eq (W.drop 1) (by omega) (fun w hw => hsz w (List.mem_of_mem_drop hw))
  have hs := rr_loop W (by omega) hlen hsz
  have z0 : (0 : Int).toNat = 0 := rfl
  have z1 : (1 : Int).toNat = 1 := rfl
  rw [show ((W.length : Int) == 0) = false by rw [beq_eq_false_iff_ne]; omega]
  simp only [cond_false, if_pos (show (0 : Int) ≤ (1 : Int) ∧ (1 : Int) ≤ (W.length : Int) by omega), if_pos (show (0 : Int) ≤ (0 : Int) ∧ (0 : Int) < (W.length : Int) by omega), z0, z1, hr, hs, Option.bind_some, spec_CodeOf_eq, impl_CodeOf_eq]
  generalize idxOf codeWs ByteArray.empty (fun y => (W.getD 0 ByteArray.empty).toList == y.toList) = k
  have hrel : ∀ w ∈ W.drop 1, _ := fun w hw => num_rel (hsz w (List.mem_of_mem_drop hw))
  have small : ∀ r : S_Result, resOK r = true → r.Values.length ≤ 1048576 := by
    intro r hk
    unfold resOK at hk
    simp only [Bool.and_eq_true, inB_iff, decide_eq_true_eq] at hk
    omega
  cases ha : (W.drop 1).all (fun w => (sdN w).2)
  · -- a word is no number: both refuse
    obtain ⟨w, hw, hb⟩ := List.all_eq_false.1 ha
    refine ⟨((⟨0, []⟩ : S_Result), 3), ?_, ?_, by simp⟩
    · cases decide (k < 0) <;> rfl
    · cases hc : (W.drop 1).all (fun w => (rdN w).2)
      · rfl
      · simp only [cond_true, Bool.not_true, cond_false, isResult_eq _ (show (⟨k, (W.drop 1).map (fun w => (rdN w).1)⟩ : S_Result).Values.length ≤ 1073741824 by simp only [List.length_map]; omega), Option.bind_some]
        have hno : resOK ⟨k, (W.drop 1).map (fun w => (rdN w).1)⟩ = false := by
          cases hk : resOK ⟨k, (W.drop 1).map (fun w => (rdN w).1)⟩
          · rfl
          · unfold resOK at hk
            simp only [Bool.and_eq_true, List.all_eq_true] at hk
            have := hk.2.2.1 _ (List.mem_map.2 ⟨w, hw, rfl⟩)
            have := inB_iff.1 this
            have h4 := ((hrel w hw).2 (List.all_eq_true.1 hc w hw) this.1).1
            exact absurd h4 hb
        rw [hno]; rfl
  · have hc : (W.drop 1).all (fun w => (rdN w).2) = true := List.all_eq_true.2 fun w hw => ((hrel w hw).1 (List.all_eq_true.1 ha w hw)).1
    have hm : (W.drop 1).map (fun w => (rdN w).1) = (W.drop 1).map (fun w => (sdN w).1) := List.map_congr_left fun w hw => ((hrel w hw).1 (List.all_eq_true.1 ha w hw)).2
    rw [hc, hm]
    have hz : (⟨k, (W.drop 1).map (fun w => (sdN w).1)⟩ : S_Result).Values.length ≤ 1073741824 := by simp only [List.length_map]; omega
    simp only [cond_true, Bool.not_true, cond_false, isResult_eq _ hz, l10ResultOK_eq _ hz, Option.bind_some]
    cases hk : resOK ⟨k, (W.drop 1).map (fun w => (sdN w).1)⟩
    · refine ⟨((⟨0, []⟩ : S_Result), 3), ?_, rfl, by simp⟩
      cases decide (k < 0) <;> rfl
    · have h5 := small _ hk
      have : decide (k < 0) = false := by
        unfold resOK at hk
        simp only [Bool.and_eq_true, inB_iff] at hk
        exact decide_eq_false (by omega)
      rw [this]
      exact ⟨_, rfl, rfl, h5⟩

theorem pure_laws_FnExactReadResult (x0 : ByteArray) (g0 : (x0.size ≤ maxLen)) : laws_FnExactReadResult.f x0 = some true := by
  simp only [laws_FnExactReadResult.f, Option.bind_some]
  by_cases c0 : (x0.size : Int) > 1048576
  · rw [decide_eq_true c0]; rfl
  rw [decide_eq_false c0]; simp only [cond_false]
  have h0 : x0.size ≤ 1048576 := by omega
  obtain ⟨r, hs, hi, hl⟩ := ex_ReadResult x0 g0 h0
  obtain ⟨⟨r0_Code, r0_Values⟩, r1⟩ := r
  obtain ⟨m_0, b0_0, em0, pm0, qm0, rm0⟩ := mk_laws_markResult (⟨r0_Code, r0_Values⟩ : S_Result) 1 (by omega) (by omega) hl
  have hh0 := rm0 (⟨r0_Code, b0_0⟩ : S_Result) rfl
  simp only [reflL_laws_eqResult (⟨r0_Code, r0_Values⟩ : S_Result) hl, hh0, em0, hs, hi, decide_eq_false (show ¬ m_0 < 0 by omega), Option.bind_some, bne_self_eq_false, bs_self, beq_self_eq_true, Bool.not_true, cond_false, cond_true]
theorem own : ownKnob Tryd.prog.godebug = none := by kernel_rfl
theorem laidOut : laidOutB Tryd.prog = true := by kernel_rfl
theorem gTab : Tryd.prog.globalNamed "internal/strconv.uint64pow10" = some 0 := by kernel_rfl
theorem gTabType : (Tryd.prog.globals[0]?).map (·.type) = some 138 := by kernel_rfl
theorem gCells : Tryd.prog.cellsOf 138 = 20 := by kernel_rfl
theorem gCell1 : Tryd.prog.cellsOf 118 = 1 := by kernel_rfl
theorem table {W : World} (h : laidMetH Tryd.prog Rows.fnExactReadResultRow.laid W) : Lib.TabIs Tryd.prog W "internal/strconv.uint64pow10" .u64 Lib.pow10Tab :=
  Lib.tabIs_of_head gTab gTabType Tryd.underlying138 Tryd.underlying118 gCell1 gCells (laidMet.tail (laidMet.tail (show laidMet Tryd.prog Rows.fnExactReadResultRow.laid W from h)))
def tabCells (d : DataW Unit) : Array Value := match d with | .agg l => (l.map fun x => match x with | .lit (.int k z) => Value.int k z | _ => Value.bool false).toArray | _ => #[]
noncomputable def laidWorld (os : Os) : World := { World.doorLaid Tryd.prog 400 os with heap := ((World.doorLaid Tryd.prog 400 os).heap.modify 4 fun | .cells _ t frozen => .cells (tabCells Rows.laid_unicode_utf8_first) t frozen | o => o) }
theorem rowEs (u : TypeId) (h : Tryd.prog.typeName? 3 u = some "*errors.errorString") : u = 157 :=
  typeName_ptr_named (nm := "errors.errorString") (by rw [show "*" ++ "errors.errorString" = "*errors.errorString" by decide]; kernel_rfl) (by kernel_rfl) (by decide) u (by rw [show "*" ++ "errors.errorString" = "*errors.errorString" by decide]; exact h)
theorem tabR {W : World} (hL : laidMetH Tryd.prog Rows.fnExactReadResultRow.laid W) (hO : W.ShapedOpen Tryd.prog) : TabR Tryd.prog (heapC W) := by
  obtain ⟨a1, s1, hv1, -, -, -⟩ := laid_sentinel (laidMet.tail (laidMet.tail (laidMet.tail (laidMet.tail (laidMet.tail (show laidMet Tryd.prog Rows.fnExactReadResultRow.laid W from hL)))))) (g := 2) (by kernel_rfl) (ti := 103) (by kernel_rfl) Tryd.underlying103 rowEs Tryd.underlying157 Tryd.underlying159 rfl rfl Tryd.underlying9 (by kernel_rfl) (by kernel_rfl)
  obtain ⟨a2, s2, hv2, -, -, -⟩ := laid_sentinel (laidMet.tail (laidMet.tail (laidMet.tail (laidMet.tail (show laidMet Tryd.prog Rows.fnExactReadResultRow.laid W from hL))))) (g := 3) (by kernel_rfl) (ti := 103) (by kernel_rfl) Tryd.underlying103 rowEs Tryd.underlying157 Tryd.underlying159 rfl rfl Tryd.underlying9 (by kernel_rfl) (by kernel_rfl)
  obtain ⟨m, hm⟩ := Go.Proofs.cell_of_shapedOpen_int (g := 1) (zero := #[.int .i64 0]) (t := 3) hO (of_decide_eq_true (by kernel_rfl)) (by kernel_rfl) rfl (by kernel_rfl) (by kernel_rfl) Tryd.underlying3
  obtain ⟨v, hv, hv0⟩ := var_of_cell (P := Tryd.prog) (n := "internal/bytealg.MaxLen") (by kernel_rfl) hm
  exact ⟨tabK_heap (table hL), varK_heap hv ⟨m, hv0⟩, varK_heap hv1 ⟨_, _, rfl⟩, varK_heap hv2 ⟨_, _, rfl⟩⟩
theorem laid_met (os : Os) : laidMet Tryd.prog Rows.fnExactReadResultRow.laid ((laidWorld os).forCall (fun _ _ => 0) ⟨#[], #[.string ⟨#[]⟩], []⟩).memory := laidMet_of_run' 8 (by kernel_rfl) (by kernel_rfl)
theorem reads (os : Os) {H : Type} (enc : TypeId × Value → H) : ∃ places, DataW.whole enc Tryd.prog ((laidWorld os).forCall (fun _ _ => 0) ⟨#[], #[.string ⟨#[]⟩], []⟩).memory Tryd.f7.params.toList Rows.fnExactReadResultSpec.vars false (#[.string ⟨#[]⟩] : Array Value).toList 8 = some ([.lit (.string [])], [], places) := ⟨[], by kernel_rfl⟩
set_option maxRecDepth 100000 in
set_option maxHeartbeats 4000000 in
theorem lifted (os : Os) (started : os.Started) (H : Type) (enc : TypeId × Value → H) (F : Stop.Interp) :
    ReturnsInHanded {} Tryd.checked os 7 .any ((OpenSpec.ofChange Rows.fnExactReadResultSpec).preRow enc Tryd.prog Tryd.f7 Rows.fnExactReadResultRow.domain false Rows.fnExactReadResultRow.laid) (((OpenSpec.ofChange Rows.fnExactReadResultSpec).at F).post enc Tryd.prog Tryd.f7 false true false false) := by
  obtain ⟨places, hx⟩ := reads os enc
  refine returnsInHanded_of_row (C := Tryd.checked) (s := OpenSpec.ofChange Rows.fnExactReadResultSpec) own started (by kernel_rfl) Tryd.func7
    (witness_row_atRef (enc := enc) (C := Tryd.checked) false (laidWorld os) #[.string ⟨#[]⟩] rfl (by kernel_rfl) (by kernel_rfl) (by kernel_rfl)
      (OpenSpec.preRow_of_cond 8 hx (by kernel_rfl) (fun k hk => by cases hk) (by kernel_rfl) (laid_met os))) ?_
  intro W base args ds gs before hval0 hW hcnd _ hsz0 hL hO _
  show Calls Tryd.prog 7 args W fun e W' => ∃ v, e = .returned v ∧ Rows.fnExactReadResultSpec.post enc Tryd.prog Tryd.f7 false true false false W args v W'
  have hval : ∀ (j : Nat) t v, Tryd.f7.params[j]? = some t → args[j]? = some v → Value.okWide Tryd.prog W .any base t v := hval0
  have hW' := hW
  obtain ⟨p, q, hA0, hV, rfl, hfz, hnd⟩ := hW
  have hA : DataW.TrodAll enc Tryd.prog W 0 (fun _ => true) true Tryd.f7.params.toList args.toList ds p := hA0
  rw [Tryd.params7] at hA hval
  obtain ⟨v0, vs0, d0, ds0, p0, q0, hargs, rfl, rfl, h0, r0⟩ := trodAll_cons hA
  obtain ⟨rfl, rfl, rfl⟩ := trodAll_nil r0
  obtain rfl : args = #[v0] := by cases args; simp_all
  obtain ⟨rfl, rfl⟩ := trodVars_none hV
  have k0 := h0
  have lt0 : ∀ x ∈ p0, x.block < W.heap.size := by obtain ⟨m, hm⟩ := k0; exact DataW.trod_lt m _ _ _ hm
  obtain ⟨f0, hf0⟩ := h0
  obtain ⟨y0, hy0, hg0⟩ := (opens_str Tryd.underlying9) H enc f0 _ _ hf0
  obtain rfl : v0 = .string y0 := by
    obtain hv := (hval 0 9 v0 rfl rfl)
    simp only [Value.okWide, Tryd.underlying9, Cell.okWide] at hv
    cases v0 <;> simp_all [Cell.ok, Value.cells, Lay.int, Lay.bool, Lay.str, Lay.flat]
  clear hA0 hval0 hsz0
  refine (laws_FnExactReadResult_t W y0 (heapC W) (tabR hL hO) (heapC_has W) true (pure_laws_FnExactReadResult y0 hg0)).mono fun e W' ⟨v, he, hv, hS⟩ => ?_
  subst he; subst hv
  have bel := hS.below
  exact ⟨_, rfl, _, _, _, [], _, [], hW', trodAll_mk1 (shutB Tryd.underlying4 _), (trodAll_cons_mk (Below.trod laidOut (by kernel_rfl) (of_decide_eq_true (by kernel_rfl)) k0 bel lt0) trodAll_mk0), rfl, bel.frame _, fun h => by cases h⟩
theorem over : Rows.fnExactReadResultRow.holds Tryd.pinned (OpenSpec.ofChange Rows.fnExactReadResultSpec) :=
  OpenClaim.holds_of_cond 7 Tryd.f7 rfl rfl rfl rfl rfl rfl rfl ⟨rfl, rfl, rfl, rfl, rfl⟩ rfl rfl rfl rfl rfl (by kernel_rfl) Tryd.func7 (by kernel_rfl)
    (of_decide_eq_true (by kernel_rfl)) (by unfold Func.isWrapper; first | (rw [if_pos (by decide +kernel)]; kernel_rfl) | (rw [if_neg (by decide +kernel)]; exact ⟨rfl, rfl⟩))
    (fun os started H enc _ F => by rw [OpenClaim.pre_eq_preRow]; exact lifted os started H enc F)
theorem plain (f : FuncId) (fn : Func) (hf : Tryd.pinned.checked.prog.funcNamed "loop.example/g00548/laws.FnExactReadResult" = some f) (hfn : Tryd.pinned.checked.prog.funcs[f]? = some fn) :
    true = Tryd.pinned.checked.prog.looks [] ∧ ∀ (j : Nat) t, fn.params[j]? = some t → Tryd.pinned.checked.prog.wantsStandIn t = false := by
  obtain rfl : f = 7 := Option.some.inj ((show Tryd.prog.funcNamed "loop.example/g00548/laws.FnExactReadResult" = some 7 by kernel_rfl).symm.trans hf) |>.symm
  obtain rfl : fn = Tryd.f7 := (Option.some.inj (Tryd.func7.symm.trans hfn)).symm
  refine ⟨by kernel_rfl, fun j t ht => ?_⟩
  rw [Tryd.params7] at ht
  obtain rfl : t = 9 := by simpa using Array.mem_of_getElem? ht
  exact (show Tryd.prog.wantsStandIn 9 = false by kernel_rfl)
theorem fnExactReadResult_holds : Rows.FnExactReadResultCardSaid :=
  Claim7.holds_tied_plain_at .later [] _ _ _ _ over (fun _ h => by cases h) (by kernel_rfl) (fun _ h => by cases h) fnExactReadResult_row_tie rfl ⟨rfl, rfl⟩ (by kernel_rfl) rfl plain (by kernel_rfl)
end Go.Proofs.YtfjhdkmdidadiaaDoor.RXReadResult
