/- FnExactNewEnc: for every input the law returns true, and its arguments read as before. No conditions but the row's own. -/
import Derived.Test.YtlbbkehdfgjneaaPXNewEnc
namespace Go.Proofs.Ytlbbkehdfgjneaa.RXNewEnc
open Go Go.Z Go.Proofs Go.MuLone Go.ChangeShapes Go.WideShapes Go.ChangeAt Go.RowKit
set_option linter.unusedVariables false
set_option linter.unusedSimpArgs false
theorem ex_NewEnc (x0 : List Int) (g0 : (x0.length ≤ maxLen ∧ ∀ y : Int, y ∈ x0 → ((Lit.int .i64 y).wf = true))) (h0 : x0.length ≤ 1048576) : ∃ r, spec_NewEnc.f x0 = some r ∧ impl_NewEnc.f x0 = some r ∧ ((r.1.Keys.length ≤ 1048576) ∧ ((r.1.Oram.Pos.length ≤ 1048576) ∧ (r.1.Oram.Stash.length ≤ 1048576) ∧ (r.1.Oram.Buckets.length ≤ 1048576 ∧ ∀ z0 : List S_Block, z0 ∈ r.1.Oram.Buckets → (z0.length ≤ 1048576)))) := by
  unfold spec_NewEnc.f impl_NewEnc.f spec_NewOram.f impl_NewOram.f impl_leavesOf.f
  cases h1 : decide ((x0.length : Int) > 4096)
  case true => exact ⟨_, rfl, rfl, by simp⟩
  simp only [cond_false, Option.bind_some]
  cases h2 : ((x0.length : Int) != 12)
  case true => exact ⟨_, rfl, rfl, by simp⟩
  have h12 : x0.length = 12 := by
    have : (x0.length : Int) = 12 := by simpa using h2
    omega
  simp only [cond_false, l08Leaves_eq x0 (by omega), all_impl_areAll_int x0 impl_isLeaf.f (fun x => inB x 0 7) (by omega) (fun x _ => isLeaf_eq x), Option.bind_some]
  cases x0.all (fun x => inB x 0 7)
  · exact ⟨_, rfl, rfl, by simp⟩
  unfold spec_l08New.f slices_Clone_int_int.f
  rw [if_pos (show ([] : List Int).length + x0.length ≤ 1073741824 by simp; omega), if_pos (show x0.length ≤ 1073741824 by omega)]
  refine ⟨_, rfl, rfl, ?_⟩
  simp only [List.length_replicate, List.nil_append]
  refine ⟨by decide, by omega, by simp, by decide, fun z hz => ?_⟩
  rw [List.eq_of_mem_replicate hz]; simp

theorem pure_laws_FnExactNewEnc (x0 : List Int) (g0 : (x0.length ≤ maxLen ∧ ∀ y : Int, y ∈ x0 → ((Lit.int .i64 y).wf = true))) : laws_FnExactNewEnc.f x0 = some true := by
  simp only [laws_FnExactNewEnc.f, Option.bind_some]
  by_cases c0 : (x0.length : Int) > 1048576
  · rw [decide_eq_true c0]; rfl
  rw [decide_eq_false c0]; simp only [cond_false]
  have h0 : x0.length ≤ 1048576 := by omega
  obtain ⟨r, hs, hi, hl⟩ := ex_NewEnc x0 g0 h0
  obtain ⟨⟨r0_Keys, ⟨r0_Oram_Pos, r0_Oram_Stash, r0_Oram_Buckets⟩⟩, r1⟩ := r
  obtain ⟨k0, a0_0, ek0, pk0, qk0, _, _⟩ := mk_laws_markIntS x0 1 (by omega) (by omega) h0
  obtain ⟨m_0, b0_0, b0_1, b0_2, b0_3, em0, pm0, qm0, rm0⟩ := mk_laws_markEnc (⟨r0_Keys, (⟨r0_Oram_Pos, r0_Oram_Stash, r0_Oram_Buckets⟩ : S_Oram)⟩ : S_Enc) 1 (by omega) (by omega) hl
  have hh0 := rm0 (⟨b0_0, (⟨b0_1, b0_2, b0_3⟩ : S_Oram)⟩ : S_Enc) rfl rfl rfl rfl
  simp only [id_laws_toIntS x0 h0, reflL_laws_eqIntS x0 h0, reflL_laws_eqEnc (⟨r0_Keys, (⟨r0_Oram_Pos, r0_Oram_Stash, r0_Oram_Buckets⟩ : S_Oram)⟩ : S_Enc) hl, ek0, hh0, em0, hs, hi, decide_eq_false (show ¬ k0 < 0 by omega), decide_eq_false (show ¬ m_0 < 0 by omega), Option.bind_some, bne_self_eq_false, bs_self, beq_self_eq_true, Bool.not_true, cond_false, cond_true]
theorem cz3 : Try.prog.cellsOf 3 = 1 := by kernel_rfl
theorem own : ownKnob Try.prog.godebug = none := by kernel_rfl
theorem laidOut : laidOutB Try.prog = true := by kernel_rfl
set_option maxRecDepth 100000 in
theorem lifted (os : Os) (started : os.Started) (H : Type) (enc : TypeId × Value → H) :
    ReturnsInHanded {} Try.checked os 10 .any (Rows.fnExactNewEncSpec.pre6 enc Try.prog Try.f10 Rows.fnExactNewEncRow.domain false) (Rows.fnExactNewEncSpec.post enc Try.prog Try.f10 false true false false) := by
  refine returnsInHanded_of_change_sized (C := Try.checked) own started (by kernel_rfl) Try.func10
    (ChangeSpec.witness6 (enc := enc) (C := Try.checked) false ⟨#[], #[.slice none 0 0], []⟩ 8 (by kernel_rfl) (by kernel_rfl) (by kernel_rfl) (by kernel_rfl)) ?_
  intro W base args ds gs before hval0 hW hcnd hsz0 _
  have hval : ∀ (j : Nat) t v, Try.f10.params[j]? = some t → args[j]? = some v → Value.okWide Try.prog W .any base t v := hval0
  have hW' := hW
  obtain ⟨p, q, hA0, hV, rfl, hfz, hnd⟩ := hW
  have hA : DataW.TrodAll enc Try.prog W 0 (fun _ => true) true Try.f10.params.toList args.toList ds p := hA0
  rw [Try.params10] at hA hval
  obtain ⟨v0, vs0, d0, ds0, p0, q0, hargs, rfl, rfl, h0, r0⟩ := trodAll_cons hA
  obtain ⟨rfl, rfl, rfl⟩ := trodAll_nil r0
  obtain rfl : args = #[v0] := by cases args; simp_all
  obtain ⟨rfl, rfl⟩ := trodVars_none hV
  have k0 := h0
  have lt0 : ∀ x ∈ p0, x.block < W.heap.size := by obtain ⟨m, hm⟩ := k0; exact DataW.trod_lt m _ _ _ hm
  obtain ⟨f0, hf0⟩ := h0
  obtain ⟨y0, hy0, hg0⟩ := (opens_sl Try.underlying27 cz3 (by decide) (opens_int Try.underlying3)) H enc f0 _ _ hf0
  obtain ⟨A0_, p0_, e0, w0_⟩ : ∃ A p, v0 = Value.slice A y0.length p ∧ View (Lay.int .i64) A p y0 (heapC W) := by
    obtain ⟨A, n, c, rfl⟩ := okWide_slice Try.underlying27 (hval 0 27 v0 rfl rfl)
    obtain ⟨v, hv, A, p, rfl, hh⟩ := hy0
    simp only [Value.cells] at hv
    exact ⟨A, p, by simpa using hv, hh⟩
  subst e0
  clear hA0 hval0 hsz0
  refine (laws_FnExactNewEnc_t W A0_ p0_ y0 (heapC W) w0_ (heapC_has W) true (pure_laws_FnExactNewEnc y0 hg0)).mono fun e W' ⟨v, he, hv, hS⟩ => ?_
  subst he; subst hv
  have bel := hS.below
  exact ⟨_, rfl, _, _, _, [], _, [], hW', trodAll_mk1 (shutB Try.underlying4 _), (trodAll_cons_mk (Below.trod laidOut (by kernel_rfl) (of_decide_eq_true (by kernel_rfl)) k0 bel lt0) trodAll_mk0), rfl, bel.frame _, fun h => by cases h⟩
theorem over : Rows.fnExactNewEncRow.holds Try.pinned (OpenSpec.ofChange Rows.fnExactNewEncSpec) :=
  OpenClaim.holds_of_wide 10 Try.f10 rfl rfl rfl rfl rfl rfl rfl ⟨rfl, rfl, rfl, rfl, rfl⟩ rfl rfl rfl rfl rfl (by kernel_rfl) Try.func10 (by kernel_rfl)
    (of_decide_eq_true (by kernel_rfl)) (by unfold Func.isWrapper; first | (rw [if_pos (by decide +kernel)]; kernel_rfl) | (rw [if_neg (by decide +kernel)]; exact ⟨rfl, rfl⟩))
    (fun os started H enc _ => lifted os started H enc)
theorem fnExactNewEnc_holds : Rows.FnExactNewEncSaid := over
end Go.Proofs.Ytlbbkehdfgjneaa.RXNewEnc
