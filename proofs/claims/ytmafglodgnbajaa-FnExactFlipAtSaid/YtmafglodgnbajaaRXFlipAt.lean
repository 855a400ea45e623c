/- FnExactFlipAt: for every input the law returns true, and its arguments read as before. No conditions but the row's own. -/
import Derived.Test.YtmafglodgnbajaaPXFlipAt
namespace Go.Proofs.Ytmafglodgnbajaa.RXFlipAt
open Go Go.Z Go.Proofs Go.MuLone Go.ChangeShapes Go.WideShapes Go.ChangeAt Go.RowKit
set_option linter.unusedVariables false
set_option linter.unusedSimpArgs false
theorem ex_FlipAt (x0 : S_Device) (x1 x2 x3 : Int) (g0 : ((x0.Sure.length ≤ maxLen ∧ ∀ y : ByteArray, y ∈ x0.Sure → (y.size ≤ maxLen)) ∧ (x0.Unsure.length ≤ maxLen ∧ ∀ y : S_Io, y ∈ x0.Unsure → (((Lit.int .i64 y.At).wf = true) ∧ (y.Data.size ≤ maxLen))))) (h0 : (x0.Sure.length ≤ 1048576 ∧ ∀ z0 : ByteArray, z0 ∈ x0.Sure → (z0.size ≤ 1048576)) ∧ (x0.Unsure.length ≤ 1048576 ∧ ∀ z0 : S_Io, z0 ∈ x0.Unsure → ((z0.Data.size ≤ 1048576)))) (g1 : ((Lit.int .i64 x1).wf = true)) (g2 : ((Lit.int .i64 x2).wf = true)) (g3 : ((Lit.int .i64 x3).wf = true)) : ∃ r, spec_FlipAt.f x0 x1 x2 x3 = some r ∧ impl_FlipAt.f x0 x1 x2 x3 = some r ∧ ((r.1.Sure.length ≤ 1048576) ∧ (r.1.Unsure.length ≤ 1048576)) := by
  have hl : x0.Sure.length ≤ 1073741824 ∧ x0.Unsure.length ≤ 1073741824 := ⟨by have := h0.1.1; omega, by have := h0.2.1; omega⟩
  have hA : x0.Sure.length ≤ 1048576 := h0.1.1
  have hB : x0.Unsure.length ≤ 1048576 := h0.2.1
  unfold spec_FlipAt.f impl_FlipAt.f
  simp only [Option.bind_some, spec_DeviceOK_eq, impl_DeviceOK_eq x0 hl, isSector_eq, l05In_eq, within_eq, l01In_eq, spec_own_eq x0 hl, impl_own_eq x0 hl]
  cases hd : devOK x0
  · exact ⟨_, rfl, rfl, by simp⟩
  obtain ⟨d1, d2⟩ := devOK_lens hd
  simp only [Bool.not_true, cond_false]
  cases hi : inB x1 0 39
  · exact ⟨_, rfl, rfl, by simp⟩
  have hi' := inB_iff.1 hi
  have hr : 0 ≤ x1 ∧ x1 < (x0.Sure.length : Int) := by omega
  simp only [Bool.not_true, cond_false, Option.bind_some]
  cases hb : inB x3 1 255
  · exact ⟨_, rfl, rfl, by simp⟩
  simp only [Bool.not_true, cond_false, if_pos hr]
  have hsz : (x0.Sure.getD x1.toNat ByteArray.empty).size ≤ 1048576 := h0.1.2 _ (getD_mem (by omega) _)
  rw [w64_id (by omega) (by omega)]
  cases hp : inB x2 0 (((x0.Sure.getD x1.toNat ByteArray.empty).size : Int) - 1)
  · exact ⟨_, rfl, rfl, hA, hB⟩
  have hp' := inB_iff.1 hp
  simp only [Bool.not_true, cond_false, bytesOf_len]
  rw [spec_l05Flip_eq x0 x1 x2 x3 hl hr (by omega) (by omega), if_pos (by omega), if_pos (by omega), if_pos (by omega)]
  exact ⟨_, rfl, rfl, by simpa [flipD] using hA, hB⟩

theorem pure_laws_FnExactFlipAt (x0 : S_Device) (x1 : Int) (x2 : Int) (x3 : Int) (g0 : ((x0.Sure.length ≤ maxLen ∧ ∀ y : ByteArray, y ∈ x0.Sure → (y.size ≤ maxLen)) ∧ (x0.Unsure.length ≤ maxLen ∧ ∀ y : S_Io, y ∈ x0.Unsure → (((Lit.int .i64 y.At).wf = true) ∧ (y.Data.size ≤ maxLen))))) (g1 : ((Lit.int .i64 x1).wf = true)) (g2 : ((Lit.int .i64 x2).wf = true)) (g3 : ((Lit.int .i64 x3).wf = true)) : laws_FnExactFlipAt.f x0 x1 x2 x3 = some true := by
  simp only [laws_FnExactFlipAt.f, Option.bind_some]
  obtain ⟨m0, e0, h0⟩ := ok_laws_szDevice x0 1048576 (by omega) (by omega) g0
  simp only [e0, Option.bind_some]
  rcases h0 with h0 | ⟨p0, q0, h0⟩
  · rw [decide_eq_true h0]; rfl
  rw [decide_eq_false (show ¬ m0 < 0 by omega)]; simp only [cond_false]
  obtain ⟨r, hs, hi, hl⟩ := ex_FlipAt x0 x1 x2 x3 g0 h0 g1 g2 g3
  obtain ⟨⟨r0_Sure, r0_Unsure⟩, r1⟩ := r
  obtain ⟨k0, a0_0, a0_1, ek0, pk0, qk0, _⟩ := mk_laws_markDevice x0 1 (by omega) (by omega) (⟨h0.1.1, h0.2.1⟩)
  obtain ⟨m_0, b0_0, b0_1, em0, pm0, qm0, rm0⟩ := mk_laws_markDevice (⟨r0_Sure, r0_Unsure⟩ : S_Device) 1 (by omega) (by omega) hl
  have hh0 := rm0 (⟨b0_0, b0_1⟩ : S_Device) rfl rfl
  simp only [id_laws_toDevice x0 h0, reflL_laws_eqDevice x0 (⟨h0.1.1, h0.2.1⟩), reflL_laws_eqDevice (⟨r0_Sure, r0_Unsure⟩ : S_Device) hl, ek0, hh0, em0, hs, hi, decide_eq_false (show ¬ k0 < 0 by omega), decide_eq_false (show ¬ m_0 < 0 by omega), Option.bind_some, bne_self_eq_false, bs_self, beq_self_eq_true, Bool.not_true, cond_false, cond_true]
theorem cz3 : Try.prog.cellsOf 3 = 1 := by kernel_rfl
theorem cz9 : Try.prog.cellsOf 9 = 1 := by kernel_rfl
theorem cz24 : Try.prog.cellsOf 24 = 1 := by kernel_rfl
theorem cz25 : Try.prog.cellsOf 25 = 1 := by kernel_rfl
theorem cz27 : Try.prog.cellsOf 27 = 2 := by kernel_rfl
theorem cz127 : Try.prog.cellsOf 127 = 2 := by kernel_rfl
theorem op127 {w : World} : Opens Try.prog w 127 L_Io (fun x => ((Lit.int .i64 x.At).wf = true) ∧ (x.Data.size ≤ maxLen)) :=
  (opens_struct Try.underlying127 cz127 (opensF_cons rfl cz3 (opens_int Try.underlying3) (opensF_one cz9 (opens_str Try.underlying9)))).conv (fun y cs c h g => ⟨⟨y.1, y.2⟩, by obtain ⟨_, _, rfl, rfl, rfl⟩ := h; rfl, g⟩)
theorem op27 {w : World} : Opens Try.prog w 27 L_laws_Device (fun x => (x.Sure.length ≤ maxLen ∧ ∀ y : ByteArray, y ∈ x.Sure → (y.size ≤ maxLen)) ∧ (x.Unsure.length ≤ maxLen ∧ ∀ y : S_Io, y ∈ x.Unsure → (((Lit.int .i64 y.At).wf = true) ∧ (y.Data.size ≤ maxLen)))) :=
  (opens_struct Try.underlying27 cz27 (opensF_cons rfl cz24 (opens_sl Try.underlying24 cz9 (by decide) (opens_str Try.underlying9)) (opensF_one cz25 (opens_sl Try.underlying25 cz127 (by decide) op127)))).conv (fun y cs c h g => ⟨⟨y.1, y.2⟩, h, g⟩)
theorem own : ownKnob Try.prog.godebug = none := by kernel_rfl
theorem laidOut : laidOutB Try.prog = true := by kernel_rfl
set_option maxRecDepth 100000 in
theorem lifted (os : Os) (started : os.Started) (H : Type) (enc : TypeId × Value → H) :
    ReturnsInHanded {} Try.checked os 7 .any (Rows.fnExactFlipAtSpec.pre6 enc Try.prog Try.f7 Rows.fnExactFlipAtRow.domain false) (Rows.fnExactFlipAtSpec.post enc Try.prog Try.f7 false true false false) := by
  refine returnsInHanded_of_change_sized (C := Try.checked) own started (by kernel_rfl) Try.func7
    (ChangeSpec.witness6 (enc := enc) (C := Try.checked) false ⟨#[], #[.agg #[.slice none 0 0, .slice none 0 0], .int .i64 0, .int .i64 0, .int .i64 0], []⟩ 8 (by kernel_rfl) (by kernel_rfl) (by kernel_rfl) (by kernel_rfl)) ?_
  intro W base args ds gs before hval0 hW hcnd hsz0 _
  have hval : ∀ (j : Nat) t v, Try.f7.params[j]? = some t → args[j]? = some v → Value.okWide Try.prog W .any base t v := hval0
  have hW' := hW
  obtain ⟨p, q, hA0, hV, rfl, hfz, hnd⟩ := hW
  have hA : DataW.TrodAll enc Try.prog W 0 (fun _ => true) true Try.f7.params.toList args.toList ds p := hA0
  rw [Try.params7] at hA hval
  obtain ⟨v0, vs0, d0, ds0, p0, q0, hargs, rfl, rfl, h0, r0⟩ := trodAll_cons hA
  obtain ⟨v1, vs1, d1, ds1, p1, q1, rfl, rfl, rfl, h1, r1⟩ := trodAll_cons r0
  obtain ⟨v2, vs2, d2, ds2, p2, q2, rfl, rfl, rfl, h2, r2⟩ := trodAll_cons r1
  obtain ⟨v3, vs3, d3, ds3, p3, q3, rfl, rfl, rfl, h3, r3⟩ := trodAll_cons r2
  obtain ⟨rfl, rfl, rfl⟩ := trodAll_nil r3
  obtain rfl : args = #[v0, v1, v2, v3] := by cases args; simp_all
  obtain ⟨rfl, rfl⟩ := trodVars_none hV
  have k0 := h0
  have lt0 : ∀ x ∈ p0, x.block < W.heap.size := by obtain ⟨m, hm⟩ := k0; exact DataW.trod_lt m _ _ _ hm
  obtain ⟨f0, hf0⟩ := h0
  obtain ⟨y0, hy0, hg0⟩ := op27 H enc f0 _ _ hf0
  obtain ⟨cs0, rfl, _⟩ := okWide_struct Try.underlying27 (hval 0 27 v0 rfl rfl)
  obtain ⟨l0, hl0⟩ : ∃ l, cs0.toList = l := ⟨_, rfl⟩
  have hy0 : (L_laws_Device).view y0 cs0.toList (heapC W) := hy0
  rw [hl0] at hy0
  obtain ⟨_, _, rfl, ⟨_, rfl, A0_0, p0_0, rfl, w0_0⟩, ⟨_, rfl, A0_1, p0_1, rfl, w0_1⟩⟩ := hy0
  obtain rfl : cs0 = #[.slice A0_0 y0.Sure.length p0_0, .slice A0_1 y0.Unsure.length p0_1] := Array.ext' hl0
  have k1 := h1
  have lt1 : ∀ x ∈ p1, x.block < W.heap.size := by obtain ⟨m, hm⟩ := k1; exact DataW.trod_lt m _ _ _ hm
  obtain ⟨f1, hf1⟩ := h1
  obtain ⟨y1, hy1, hg1⟩ := (opens_int Try.underlying3) H enc f1 _ _ hf1
  obtain rfl : v1 = .int .i64 y1 := by
    obtain hv := (hval 1 3 v1 rfl rfl)
    simp only [Value.okWide, Try.underlying3, Cell.okWide] at hv
    cases v1 <;> simp_all [Cell.ok, Value.cells, Lay.int, Lay.bool, Lay.str, Lay.flat]
  have k2 := h2
  have lt2 : ∀ x ∈ p2, x.block < W.heap.size := by obtain ⟨m, hm⟩ := k2; exact DataW.trod_lt m _ _ _ hm
  obtain ⟨f2, hf2⟩ := h2
  obtain ⟨y2, hy2, hg2⟩ := (opens_int Try.underlying3) H enc f2 _ _ hf2
  obtain rfl : v2 = .int .i64 y2 := by
    obtain hv := (hval 2 3 v2 rfl rfl)
    simp only [Value.okWide, Try.underlying3, Cell.okWide] at hv
    cases v2 <;> simp_all [Cell.ok, Value.cells, Lay.int, Lay.bool, Lay.str, Lay.flat]
  have k3 := h3
  have lt3 : ∀ x ∈ p3, x.block < W.heap.size := by obtain ⟨m, hm⟩ := k3; exact DataW.trod_lt m _ _ _ hm
  obtain ⟨f3, hf3⟩ := h3
  obtain ⟨y3, hy3, hg3⟩ := (opens_int Try.underlying3) H enc f3 _ _ hf3
  obtain rfl : v3 = .int .i64 y3 := by
    obtain hv := (hval 3 3 v3 rfl rfl)
    simp only [Value.okWide, Try.underlying3, Cell.okWide] at hv
    cases v3 <;> simp_all [Cell.ok, Value.cells, Lay.int, Lay.bool, Lay.str, Lay.flat]
  clear hA0 hval0 hsz0
  refine (laws_FnExactFlipAt_t W y0 A0_0 p0_0 (heapC W) w0_0 (heapC_has W) A0_1 p0_1 (heapC W) w0_1 (heapC_has W) y1 y2 y3 true (pure_laws_FnExactFlipAt y0 y1 y2 y3 hg0 hg1 hg2 hg3)).mono fun e W' ⟨v, he, hv, hS⟩ => ?_
  subst he; subst hv
  have bel := hS.below
  exact ⟨_, rfl, _, _, _, [], _, [], hW', trodAll_mk1 (shutB Try.underlying4 _), (trodAll_cons_mk (Below.trod laidOut (by kernel_rfl) (of_decide_eq_true (by kernel_rfl)) k0 bel lt0) (trodAll_cons_mk (Below.trod laidOut (by kernel_rfl) (of_decide_eq_true (by kernel_rfl)) k1 bel lt1) (trodAll_cons_mk (Below.trod laidOut (by kernel_rfl) (of_decide_eq_true (by kernel_rfl)) k2 bel lt2) (trodAll_cons_mk (Below.trod laidOut (by kernel_rfl) (of_decide_eq_true (by kernel_rfl)) k3 bel lt3) trodAll_mk0)))), rfl, bel.frame _, fun h => by cases h⟩
theorem over : Rows.fnExactFlipAtRow.holds Try.pinned (OpenSpec.ofChange Rows.fnExactFlipAtSpec) :=
  OpenClaim.holds_of_wide 7 Try.f7 rfl rfl rfl rfl rfl rfl rfl ⟨rfl, rfl, rfl, rfl, rfl⟩ rfl rfl rfl rfl rfl (by kernel_rfl) Try.func7 (by kernel_rfl)
    (of_decide_eq_true (by kernel_rfl)) (by unfold Func.isWrapper; first | (rw [if_pos (by decide +kernel)]; kernel_rfl) | (rw [if_neg (by decide +kernel)]; exact ⟨rfl, rfl⟩))
    (fun os started H enc _ => lifted os started H enc)
theorem fnExactFlipAt_holds : Rows.FnExactFlipAtSaid := over
end Go.Proofs.Ytmafglodgnbajaa.RXFlipAt
