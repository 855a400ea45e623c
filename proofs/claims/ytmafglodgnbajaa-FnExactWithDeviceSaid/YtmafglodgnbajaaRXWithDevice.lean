/- FnExactWithDevice: for every input the law returns true, and its arguments read as before. No conditions but the row's own. -/
import Derived.Test.YtmafglodgnbajaaPXWithDevice
namespace Go.Proofs.Ytmafglodgnbajaa.RXWithDevice
open Go Go.Z Go.Proofs Go.MuLone Go.ChangeShapes Go.WideShapes Go.ChangeAt Go.RowKit
set_option linter.unusedVariables false
set_option linter.unusedSimpArgs false
theorem ex_WithDevice (x0 : S_Store) (x1 : S_Device) (g0 : ((x0.Key.size ≤ maxLen) ∧ (((Lit.int .i64 x0.Reg.Epoch).wf = true) ∧ ((Lit.int .i64 x0.Reg.Side).wf = true) ∧ ((Lit.int .i64 x0.Reg.Count).wf = true) ∧ ((Lit.int .i64 x0.Reg.Boot).wf = true) ∧ (x0.Reg.Base.size ≤ maxLen) ∧ (x0.Reg.Tip.size ≤ maxLen) ∧ (x0.Reg.Root.size ≤ maxLen)) ∧ ((x0.Device.Sure.length ≤ maxLen ∧ ∀ y : ByteArray, y ∈ x0.Device.Sure → (y.size ≤ maxLen)) ∧ (x0.Device.Unsure.length ≤ maxLen ∧ ∀ y : S_Io, y ∈ x0.Device.Unsure → (((Lit.int .i64 y.At).wf = true) ∧ (y.Data.size ≤ maxLen)))) ∧ True ∧ True)) (h0 : (x0.Key.size ≤ 1048576) ∧ ((x0.Reg.Base.size ≤ 1048576) ∧ (x0.Reg.Tip.size ≤ 1048576) ∧ (x0.Reg.Root.size ≤ 1048576)) ∧ ((x0.Device.Sure.length ≤ 1048576 ∧ ∀ z0 : ByteArray, z0 ∈ x0.Device.Sure → (z0.size ≤ 1048576)) ∧ (x0.Device.Unsure.length ≤ 1048576 ∧ ∀ z0 : S_Io, z0 ∈ x0.Device.Unsure → ((z0.Data.size ≤ 1048576))))) (g1 : ((x1.Sure.length ≤ maxLen ∧ ∀ y : ByteArray, y ∈ x1.Sure → (y.size ≤ maxLen)) ∧ (x1.Unsure.length ≤ maxLen ∧ ∀ y : S_Io, y ∈ x1.Unsure → (((Lit.int .i64 y.At).wf = true) ∧ (y.Data.size ≤ maxLen))))) (h1 : (x1.Sure.length ≤ 1048576 ∧ ∀ z0 : ByteArray, z0 ∈ x1.Sure → (z0.size ≤ 1048576)) ∧ (x1.Unsure.length ≤ 1048576 ∧ ∀ z0 : S_Io, z0 ∈ x1.Unsure → ((z0.Data.size ≤ 1048576)))) : ∃ r, spec_WithDevice.f x0 x1 = some r ∧ impl_WithDevice.f x0 x1 = some r ∧ (((r.1.Device.Sure.length ≤ 1048576) ∧ (r.1.Device.Unsure.length ≤ 1048576))) := by
  have hA : x0.Device.Sure.length ≤ 1048576 := h0.2.2.1.1
  have hB : x0.Device.Unsure.length ≤ 1048576 := h0.2.2.2.1
  have hl : x0.Device.Sure.length ≤ 1073741824 ∧ x0.Device.Unsure.length ≤ 1073741824 := ⟨by omega, by omega⟩
  have hC : x1.Sure.length ≤ 1048576 := h1.1.1
  have hD : x1.Unsure.length ≤ 1048576 := h1.2.1
  have hl1 : x1.Sure.length ≤ 1073741824 ∧ x1.Unsure.length ≤ 1073741824 := ⟨by omega, by omega⟩
  obtain ⟨e1, b, e2⟩ := storeOK_eq x0 hl
  unfold spec_WithDevice.f impl_WithDevice.f impl_isSure.f spec_l13Own.f
  simp only [e1, e2, Option.bind_some, spec_DeviceOK_eq, impl_DeviceOK_eq x1 hl1, spec_own_eq x1 hl1, impl_own_eq x1 hl1]
  cases b
  · exact ⟨_, rfl, rfl, by simp⟩
  simp only [Bool.not_true, cond_false, Option.bind_some]
  cases hd : devOK x1
  · exact ⟨_, rfl, rfl, by simp⟩
  simp only [Bool.not_true, cond_false, cond_true, Option.bind_some]
  by_cases hz : x1.Unsure.length = 0
  · rw [show ((x1.Unsure.length : Int) == 0) = true from by simp [hz], decide_eq_false (by omega)]
    exact ⟨_, rfl, rfl, hC, hD⟩
  · rw [show ((x1.Unsure.length : Int) == 0) = false from by simp; intro h; exact hz (by simp [h]), decide_eq_true (by omega)]
    exact ⟨_, rfl, rfl, by simp⟩

theorem pure_laws_FnExactWithDevice (x0 : S_Store) (x1 : S_Device) (g0 : ((x0.Key.size ≤ maxLen) ∧ (((Lit.int .i64 x0.Reg.Epoch).wf = true) ∧ ((Lit.int .i64 x0.Reg.Side).wf = true) ∧ ((Lit.int .i64 x0.Reg.Count).wf = true) ∧ ((Lit.int .i64 x0.Reg.Boot).wf = true) ∧ (x0.Reg.Base.size ≤ maxLen) ∧ (x0.Reg.Tip.size ≤ maxLen) ∧ (x0.Reg.Root.size ≤ maxLen)) ∧ ((x0.Device.Sure.length ≤ maxLen ∧ ∀ y : ByteArray, y ∈ x0.Device.Sure → (y.size ≤ maxLen)) ∧ (x0.Device.Unsure.length ≤ maxLen ∧ ∀ y : S_Io, y ∈ x0.Device.Unsure → (((Lit.int .i64 y.At).wf = true) ∧ (y.Data.size ≤ maxLen)))) ∧ True ∧ True)) (g1 : ((x1.Sure.length ≤ maxLen ∧ ∀ y : ByteArray, y ∈ x1.Sure → (y.size ≤ maxLen)) ∧ (x1.Unsure.length ≤ maxLen ∧ ∀ y : S_Io, y ∈ x1.Unsure → (((Lit.int .i64 y.At).wf = true) ∧ (y.Data.size ≤ maxLen))))) : laws_FnExactWithDevice.f x0 x1 = some true := by
  simp only [laws_FnExactWithDevice.f, Option.bind_some]
  obtain ⟨m0, e0, h0⟩ := ok_laws_szStore x0 1048576 (by omega) (by omega) g0
  simp only [e0, Option.bind_some]
  rcases h0 with h0 | ⟨p0, q0, h0⟩
  · rw [decide_eq_true h0]; rfl
  rw [decide_eq_false (show ¬ m0 < 0 by omega)]; simp only [cond_false]
  obtain ⟨m1, e1, h1⟩ := ok_laws_szDevice x1 m0 (by omega) (by omega) g1
  simp only [e1, Option.bind_some]
  rcases h1 with h1 | ⟨p1, q1, h1⟩
  · rw [decide_eq_true h1]; rfl
  rw [decide_eq_false (show ¬ m1 < 0 by omega)]; simp only [cond_false]
  obtain ⟨r, hs, hi, hl⟩ := ex_WithDevice x0 x1 g0 h0 g1 h1
  obtain ⟨⟨r0_Key, r0_Reg, ⟨r0_Device_Sure, r0_Device_Unsure⟩, r0_Up, r0_Dead⟩, r1⟩ := r
  obtain ⟨k0, a0_0, a0_1, ek0, pk0, qk0, _⟩ := mk_laws_markStore x0 1 (by omega) (by omega) (⟨h0.2.2.1.1, h0.2.2.2.1⟩)
  obtain ⟨k1, a1_0, a1_1, ek1, pk1, qk1, _⟩ := mk_laws_markDevice x1 k0 (by omega) (by omega) (⟨h1.1.1, h1.2.1⟩)
  obtain ⟨m_0, b0_0, b0_1, em0, pm0, qm0, rm0⟩ := mk_laws_markStore (⟨r0_Key, r0_Reg, (⟨r0_Device_Sure, r0_Device_Unsure⟩ : S_Device), r0_Up, r0_Dead⟩ : S_Store) 1 (by omega) (by omega) hl
  have hh0 := rm0 (⟨r0_Key, r0_Reg, (⟨b0_0, b0_1⟩ : S_Device), r0_Up, r0_Dead⟩ : S_Store) rfl rfl
  simp only [id_laws_toStore x0 h0, reflL_laws_eqStore x0 (⟨h0.2.2.1.1, h0.2.2.2.1⟩), id_laws_toDevice x1 h1, reflL_laws_eqDevice x1 (⟨h1.1.1, h1.2.1⟩), reflL_laws_eqStore (⟨r0_Key, r0_Reg, (⟨r0_Device_Sure, r0_Device_Unsure⟩ : S_Device), r0_Up, r0_Dead⟩ : S_Store) hl, ek0, ek1, hh0, em0, hs, hi, decide_eq_false (show ¬ k1 < 0 by omega), decide_eq_false (show ¬ m_0 < 0 by omega), Option.bind_some, bne_self_eq_false, bs_self, beq_self_eq_true, Bool.not_true, cond_false, cond_true]
theorem cz3 : Try.prog.cellsOf 3 = 1 := by kernel_rfl
theorem cz4 : Try.prog.cellsOf 4 = 1 := by kernel_rfl
theorem cz9 : Try.prog.cellsOf 9 = 1 := by kernel_rfl
theorem cz23 : Try.prog.cellsOf 23 = 7 := by kernel_rfl
theorem cz24 : Try.prog.cellsOf 24 = 1 := by kernel_rfl
theorem cz25 : Try.prog.cellsOf 25 = 1 := by kernel_rfl
theorem cz27 : Try.prog.cellsOf 27 = 2 := by kernel_rfl
theorem cz29 : Try.prog.cellsOf 29 = 12 := by kernel_rfl
theorem cz127 : Try.prog.cellsOf 127 = 2 := by kernel_rfl
theorem op127 {w : World} : Opens Try.prog w 127 L_Io (fun x => ((Lit.int .i64 x.At).wf = true) ∧ (x.Data.size ≤ maxLen)) :=
  (opens_struct Try.underlying127 cz127 (opensF_cons rfl cz3 (opens_int Try.underlying3) (opensF_one cz9 (opens_str Try.underlying9)))).conv (fun y cs c h g => ⟨⟨y.1, y.2⟩, by obtain ⟨_, _, rfl, rfl, rfl⟩ := h; rfl, g⟩)
theorem op27 {w : World} : Opens Try.prog w 27 L_laws_Device (fun x => (x.Sure.length ≤ maxLen ∧ ∀ y : ByteArray, y ∈ x.Sure → (y.size ≤ maxLen)) ∧ (x.Unsure.length ≤ maxLen ∧ ∀ y : S_Io, y ∈ x.Unsure → (((Lit.int .i64 y.At).wf = true) ∧ (y.Data.size ≤ maxLen)))) :=
  (opens_struct Try.underlying27 cz27 (opensF_cons rfl cz24 (opens_sl Try.underlying24 cz9 (by decide) (opens_str Try.underlying9)) (opensF_one cz25 (opens_sl Try.underlying25 cz127 (by decide) op127)))).conv (fun y cs c h g => ⟨⟨y.1, y.2⟩, h, g⟩)
theorem op23 {w : World} : Opens Try.prog w 23 L_Register (fun x => ((Lit.int .i64 x.Epoch).wf = true) ∧ ((Lit.int .i64 x.Side).wf = true) ∧ ((Lit.int .i64 x.Count).wf = true) ∧ ((Lit.int .i64 x.Boot).wf = true) ∧ (x.Base.size ≤ maxLen) ∧ (x.Tip.size ≤ maxLen) ∧ (x.Root.size ≤ maxLen)) :=
  (opens_struct Try.underlying23 cz23 (opensF_cons rfl cz3 (opens_int Try.underlying3) (opensF_cons rfl cz3 (opens_int Try.underlying3) (opensF_cons rfl cz3 (opens_int Try.underlying3) (opensF_cons rfl cz3 (opens_int Try.underlying3) (opensF_cons rfl cz9 (opens_str Try.underlying9) (opensF_cons rfl cz9 (opens_str Try.underlying9) (opensF_one cz9 (opens_str Try.underlying9))))))))).conv (fun y cs c h g => ⟨⟨y.1, y.2.1, y.2.2.1, y.2.2.2.1, y.2.2.2.2.1, y.2.2.2.2.2.1, y.2.2.2.2.2.2⟩, by obtain ⟨_, _, rfl, rfl, _, _, rfl, rfl, _, _, rfl, rfl, _, _, rfl, rfl, _, _, rfl, rfl, _, _, rfl, rfl, rfl⟩ := h; rfl, g⟩)
theorem op29 {w : World} : Opens Try.prog w 29 L_laws_Store (fun x => (x.Key.size ≤ maxLen) ∧ (((Lit.int .i64 x.Reg.Epoch).wf = true) ∧ ((Lit.int .i64 x.Reg.Side).wf = true) ∧ ((Lit.int .i64 x.Reg.Count).wf = true) ∧ ((Lit.int .i64 x.Reg.Boot).wf = true) ∧ (x.Reg.Base.size ≤ maxLen) ∧ (x.Reg.Tip.size ≤ maxLen) ∧ (x.Reg.Root.size ≤ maxLen)) ∧ ((x.Device.Sure.length ≤ maxLen ∧ ∀ y : ByteArray, y ∈ x.Device.Sure → (y.size ≤ maxLen)) ∧ (x.Device.Unsure.length ≤ maxLen ∧ ∀ y : S_Io, y ∈ x.Device.Unsure → (((Lit.int .i64 y.At).wf = true) ∧ (y.Data.size ≤ maxLen)))) ∧ True ∧ True) :=
  (opens_struct Try.underlying29 cz29 (opensF_cons rfl cz9 (opens_str Try.underlying9) (opensF_cons rfl cz23 op23 (opensF_cons rfl cz27 op27 (opensF_cons rfl cz4 (opens_bool Try.underlying4) (opensF_one cz4 (opens_bool Try.underlying4))))))).conv (fun y cs c h g => ⟨⟨y.1, y.2.1, y.2.2.1, y.2.2.2.1, y.2.2.2.2⟩, h, g⟩)
theorem own : ownKnob Try.prog.godebug = none := by kernel_rfl
theorem laidOut : laidOutB Try.prog = true := by kernel_rfl
set_option maxRecDepth 100000 in
theorem lifted (os : Os) (started : os.Started) (H : Type) (enc : TypeId × Value → H) :
    ReturnsInHanded {} Try.checked os 10 .any (Rows.fnExactWithDeviceSpec.pre6 enc Try.prog Try.f10 Rows.fnExactWithDeviceRow.domain false) (Rows.fnExactWithDeviceSpec.post enc Try.prog Try.f10 false true false false) := by
  refine returnsInHanded_of_change_sized (C := Try.checked) own started (by kernel_rfl) Try.func10
    (ChangeSpec.witness6 (enc := enc) (C := Try.checked) false ⟨#[], #[.agg #[.string ⟨#[]⟩, .int .i64 0, .int .i64 0, .int .i64 0, .int .i64 0, .string ⟨#[]⟩, .string ⟨#[]⟩, .string ⟨#[]⟩, .slice none 0 0, .slice none 0 0, .bool false, .bool false], .agg #[.slice none 0 0, .slice none 0 0]], []⟩ 8 (by kernel_rfl) (by kernel_rfl) (by kernel_rfl) (by kernel_rfl)) ?_
  intro W base args ds gs before hval0 hW hcnd hsz0 _
  have hval : ∀ (j : Nat) t v, Try.f10.params[j]? = some t → args[j]? = some v → Value.okWide Try.prog W .any base t v := hval0
  have hW' := hW
  obtain ⟨p, q, hA0, hV, rfl, hfz, hnd⟩ := hW
  have hA : DataW.TrodAll enc Try.prog W 0 (fun _ => true) true Try.f10.params.toList args.toList ds p := hA0
  rw [Try.params10] at hA hval
  obtain ⟨v0, vs0, d0, ds0, p0, q0, hargs, rfl, rfl, h0, r0⟩ := trodAll_cons hA
  obtain ⟨v1, vs1, d1, ds1, p1, q1, rfl, rfl, rfl, h1, r1⟩ := trodAll_cons r0
  obtain ⟨rfl, rfl, rfl⟩ := trodAll_nil r1
  obtain rfl : args = #[v0, v1] := by cases args; simp_all
  obtain ⟨rfl, rfl⟩ := trodVars_none hV
  have k0 := h0
  have lt0 : ∀ x ∈ p0, x.block < W.heap.size := by obtain ⟨m, hm⟩ := k0; exact DataW.trod_lt m _ _ _ hm
  obtain ⟨f0, hf0⟩ := h0
  obtain ⟨y0, hy0, hg0⟩ := op29 H enc f0 _ _ hf0
  obtain ⟨cs0, rfl, _⟩ := okWide_struct Try.underlying29 (hval 0 29 v0 rfl rfl)
  obtain ⟨l0, hl0⟩ : ∃ l, cs0.toList = l := ⟨_, rfl⟩
  have hy0 : (L_laws_Store).view y0 cs0.toList (heapC W) := hy0
  rw [hl0] at hy0
  obtain ⟨_, _, rfl, rfl, ⟨_, _, rfl, rfl, ⟨_, _, rfl, ⟨_, _, rfl, ⟨_, rfl, A0_8, p0_8, rfl, w0_8⟩, ⟨_, rfl, A0_9, p0_9, rfl, w0_9⟩⟩, ⟨_, _, rfl, rfl, rfl⟩⟩⟩⟩ := hy0
  obtain rfl : cs0 = #[.string y0.Key, .int .i64 y0.Reg.Epoch, .int .i64 y0.Reg.Side, .int .i64 y0.Reg.Count, .int .i64 y0.Reg.Boot, .string y0.Reg.Base, .string y0.Reg.Tip, .string y0.Reg.Root, .slice A0_8 y0.Device.Sure.length p0_8, .slice A0_9 y0.Device.Unsure.length p0_9, .bool y0.Up, .bool y0.Dead] := Array.ext' hl0
  have k1 := h1
  have lt1 : ∀ x ∈ p1, x.block < W.heap.size := by obtain ⟨m, hm⟩ := k1; exact DataW.trod_lt m _ _ _ hm
  obtain ⟨f1, hf1⟩ := h1
  obtain ⟨y1, hy1, hg1⟩ := op27 H enc f1 _ _ hf1
  obtain ⟨cs1, rfl, _⟩ := okWide_struct Try.underlying27 (hval 1 27 v1 rfl rfl)
  obtain ⟨l1, hl1⟩ : ∃ l, cs1.toList = l := ⟨_, rfl⟩
  have hy1 : (L_laws_Device).view y1 cs1.toList (heapC W) := hy1
  rw [hl1] at hy1
  obtain ⟨_, _, rfl, ⟨_, rfl, A1_0, p1_0, rfl, w1_0⟩, ⟨_, rfl, A1_1, p1_1, rfl, w1_1⟩⟩ := hy1
  obtain rfl : cs1 = #[.slice A1_0 y1.Sure.length p1_0, .slice A1_1 y1.Unsure.length p1_1] := Array.ext' hl1
  clear hA0 hval0 hsz0
  refine (laws_FnExactWithDevice_t W y0 A0_8 p0_8 (heapC W) w0_8 (heapC_has W) A0_9 p0_9 (heapC W) w0_9 (heapC_has W) y1 A1_0 p1_0 (heapC W) w1_0 (heapC_has W) A1_1 p1_1 (heapC W) w1_1 (heapC_has W) true (pure_laws_FnExactWithDevice y0 y1 hg0 hg1)).mono fun e W' ⟨v, he, hv, hS⟩ => ?_
  subst he; subst hv
  have bel := hS.below
  exact ⟨_, rfl, _, _, _, [], _, [], hW', trodAll_mk1 (shutB Try.underlying4 _), (trodAll_cons_mk (Below.trod laidOut (by kernel_rfl) (of_decide_eq_true (by kernel_rfl)) k0 bel lt0) (trodAll_cons_mk (Below.trod laidOut (by kernel_rfl) (of_decide_eq_true (by kernel_rfl)) k1 bel lt1) trodAll_mk0)), rfl, bel.frame _, fun h => by cases h⟩
theorem over : Rows.fnExactWithDeviceRow.holds Try.pinned (OpenSpec.ofChange Rows.fnExactWithDeviceSpec) :=
  OpenClaim.holds_of_wide 10 Try.f10 rfl rfl rfl rfl rfl rfl rfl ⟨rfl, rfl, rfl, rfl, rfl⟩ rfl rfl rfl rfl rfl (by kernel_rfl) Try.func10 (by kernel_rfl)
    (of_decide_eq_true (by kernel_rfl)) (by unfold Func.isWrapper; first | (rw [if_pos (by decide +kernel)]; kernel_rfl) | (rw [if_neg (by decide +kernel)]; exact ⟨rfl, rfl⟩))
    (fun os started H enc _ => lifted os started H enc)
theorem fnExactWithDevice_holds : Rows.FnExactWithDeviceSaid := over
end Go.Proofs.Ytmafglodgnbajaa.RXWithDevice
