/- FnDevice: for every input the law returns true, and its arguments read as before. No conditions but the row's own. -/
import Derived.Test.YtlbbkehdfgjneaaPFDevice
namespace Go.Proofs.Ytlbbkehdfgjneaa.RFDevice
open Go Go.Z Go.Proofs Go.MuLone Go.ChangeShapes Go.WideShapes Go.ChangeAt Go.RowKit
set_option linter.unusedVariables false
set_option linter.unusedSimpArgs false
theorem crN_none (f : List Int) (u : List S_Io) (s : List ByteArray) (h : ∀ k, fateN f k = 0) : ∀ k, crN f u s k = s
  | 0 => rfl
  | k + 1 => by
    rw [crN, crN_none f u s h k]
    unfold crS
    rw [h]; rfl
theorem crN_ones (f : List Int) (u : List S_Io) (s : List ByteArray) (h : ∀ k, fateN f k = 1) : ∀ k, k ≤ u.length → crN f u s k = synced s (u.take k)
  | 0, _ => by simp [crN, synced]
  | k + 1, hk => by
    rw [crN, crN_ones f u s h k (by omega), synced_take s u k (by omega) z_Io]
    unfold crS
    rw [h]; rfl
theorem fateN_nil (k : Nat) : fateN [] k = 0 := rfl
theorem fateN_one (k : Nat) : fateN [1] k = 1 := by
  unfold fateN
  rw [if_neg (by simp)]
  have : k % [(1 : Int)].length = 0 := Nat.mod_one k
  rw [this]; rfl
/-- What a device that holds answers to a crash. -/
theorem crash_impl (d : S_Device) (f : List Int) (hd : DevD d 9) (hf : f.length ≤ 3) (hy : ∀ y ∈ f, 0 ≤ y ∧ y ≤ 2) : impl_CrashWith.f d f = some (⟨crN f d.Unsure d.Sure d.Unsure.length, []⟩, 0) := by
  obtain ⟨s1, s2, s3, s4⟩ := hd
  have hl : d.Sure.length ≤ 1073741824 ∧ d.Unsure.length ≤ 1073741824 := ⟨by omega, by omega⟩
  have ha : f.all (fun x => inB x 0 2) = true := List.all_eq_true.2 (fun y h => inB_iff.2 (hy y h))
  unfold impl_CrashWith.f
  rw [decide_eq_false (show ¬ (f.length : Int) > 4096 by omega)]
  simp only [cond_false, impl_DeviceOK_eq d hl, DevD.ok ⟨s1, s2, s3, s4⟩ (show 9 ≤ 60 by decide), areFates_eq f (by omega), ha, Option.bind_some, Bool.not_true, impl_crash_eq d f s1 (by omega) s4 s3 (by omega)]
theorem crash_spec (d : S_Device) (f : List Int) (hd : DevD d 9) (hf : f.length ≤ 3) (hy : ∀ y ∈ f, 0 ≤ y ∧ y ≤ 2) : spec_CrashWith.f d f = some (⟨crN f d.Unsure d.Sure d.Unsure.length, []⟩, 0) := by
  obtain ⟨s1, s2, s3, s4⟩ := hd
  have hl : d.Sure.length ≤ 1073741824 ∧ d.Unsure.length ≤ 1073741824 := ⟨by omega, by omega⟩
  have ha : f.all (fun x => inB x 0 2) = true := List.all_eq_true.2 (fun y h => inB_iff.2 (hy y h))
  unfold spec_CrashWith.f
  rw [decide_eq_false (show ¬ (f.length : Int) > 4096 by omega)]
  simp only [cond_false, spec_DeviceOK_eq, DevD.ok ⟨s1, s2, s3, s4⟩ (show 9 ≤ 60 by decide), l05Fates_eq f (by omega), ha, Option.bind_some, Bool.not_true, spec_crash_eq d f s1 (by omega) s4 s3 (by omega)]
theorem pure_laws_FnDevice (x0 x1 : List Int) (g0 : (x0.length ≤ maxLen ∧ ∀ y : Int, y ∈ x0 → ((Lit.int .u8 y).wf = true))) (g1 : (x1.length ≤ maxLen ∧ ∀ y : Int, y ∈ x1 → ((Lit.int .u8 y).wf = true))) : laws_FnDevice.f x0 x1 = some true := by
  unfold laws_FnDevice.f
  by_cases c : (x0.length : Int) > 1048576
  · rw [decide_eq_true c]; rfl
  by_cases c1 : (x1.length : Int) > 1048576
  · rw [decide_eq_false c, decide_eq_true c1]; rfl
  rw [decide_eq_false c, decide_eq_false c1]
  have hB0 : isB x0 := fun b hb => wf_u8 (g0.2 b hb)
  have hB1 : isB x1 := fun b hb => wf_u8 (g1.2 b hb)
  obtain ⟨d, e0, hd0⟩ := deviceOf_some x0 (by omega) hB0
  obtain ⟨s1, s2, s3, s4⟩ := hd0
  have hl0 : d.Sure.length ≤ 1073741824 ∧ d.Unsure.length ≤ 1073741824 := ⟨by omega, by omega⟩
  obtain ⟨k, ek, k0, k1⟩ := at_some x1 0 40 (by omega) hB1 (by omega) (by omega)
  obtain ⟨n, en, n0, n1⟩ := at_some x1 1 9 (by omega) hB1 (by omega) (by omega)
  obtain ⟨t, et, ht⟩ := bytesOf_some x1 n (by omega) hB1 (by omega)
  obtain ⟨f0, ef0, f00, f01⟩ := fatesOf_some x0 (by omega) hB0
  obtain ⟨f1, ef1, f10, f11⟩ := fatesOf_some x1 (by omega) hB1
  have hkI : inB k 0 39 = true := inB_iff.2 (by omega)
  have eW : impl_WriteAt.f d k t = some (⟨d.Sure, d.Unsure ++ [⟨k, t⟩]⟩, 0) := by
    have e2 : impl_Device_write.f d k t = some ⟨d.Sure, d.Unsure ++ [⟨k, t⟩]⟩ := by
      unfold impl_Device_write.f
      rw [impl_own_eq d hl0]
      simp only [Option.bind_some]
      rw [if_pos (by simp; omega)]
    have h60 : ((d.Unsure.length : Int) == 60) = false := by
      rw [beq_eq_false_iff_ne]; omega
    have hsh : decide ((t.size : Int) ≤ 65536) = true := decide_eq_true (by omega)
    have hco : decide ((t.size : Int) ≤ 700) = true := decide_eq_true (by omega)
    unfold impl_WriteAt.f
    simp only [areShort1, Option.bind_some, shortT, impl_DeviceOK_eq d hl0, DevD.ok ⟨s1, s2, s3, s4⟩ (show 8 ≤ 60 by decide), isSector_eq, isContent_eq, hsh, hco, hkI, h60, e2, Bool.not_true, cond_false]
  have hx : DevD ⟨d.Sure, d.Unsure ++ [⟨k, t⟩]⟩ 9 := by
    refine ⟨s1, by simp only [List.length_append, List.length_cons, List.length_nil]; omega, s3, fun x h => ?_⟩
    rcases List.mem_append.1 h with h | h
    · exact s4 x h
    · simp only [List.mem_singleton] at h; subst h; exact ⟨by simp only; omega, by simp only; omega⟩
  have eR : impl_ReadAt.f ⟨d.Sure, d.Unsure ++ [⟨k, t⟩]⟩ k = some (t, 0) := by
    unfold impl_ReadAt.f
    simp only [impl_DeviceOK_eq ⟨d.Sure, d.Unsure ++ [⟨k, t⟩]⟩ ⟨by simp only; omega, by simp only [List.length_append, List.length_cons, List.length_nil]; omega⟩, hx.ok (show 9 ≤ 60 by decide), isSector_eq, hkI, Option.bind_some, Bool.not_true, cond_false]
    rw [loopO_stop (s := 0) (r := .ret (t, 0))]
    rfl
    simp [impl_ReadAt.s0]
  have hxl : (d.Unsure ++ [(⟨k, t⟩ : S_Io)]).length = d.Unsure.length + 1 := by simp
  have hlx : (⟨d.Sure, d.Unsure ++ [⟨k, t⟩]⟩ : S_Device).Sure.length ≤ 1073741824 ∧ (⟨d.Sure, d.Unsure ++ [⟨k, t⟩]⟩ : S_Device).Unsure.length ≤ 1073741824 := ⟨hl0.1, by simp only [hxl]; omega⟩
  have hsy : (synced d.Sure (d.Unsure ++ [⟨k, t⟩])).getD k.toNat ByteArray.empty = t := by
    have := synced_take d.Sure (d.Unsure ++ [⟨k, t⟩]) d.Unsure.length (by simp) z_Io
    rw [← hxl, List.take_length] at this
    rw [this]
    have e : (d.Unsure ++ [(⟨k, t⟩ : S_Io)]).getD d.Unsure.length z_Io = ⟨k, t⟩ := by simp
    rw [e]
    exact getD_set_self _ _ _ (by rw [synced_len]; simp only; omega)
  have hy : DevD ⟨synced d.Sure (d.Unsure ++ [⟨k, t⟩]), []⟩ 9 := ⟨by simp only [synced_len]; exact s1, by simp, synced_mem (fun t => t.size ≤ 700) _ _ s3 (fun x hm => (hx.2.2.2 x hm).2), by simp⟩
  have eS : impl_SyncAll.f ⟨d.Sure, d.Unsure ++ [⟨k, t⟩]⟩ = some (⟨synced d.Sure (d.Unsure ++ [⟨k, t⟩]), []⟩, 0) := by
    unfold impl_SyncAll.f
    simp only [impl_DeviceOK_eq _ hlx, hx.ok (show 9 ≤ 60 by decide), Option.bind_some, Bool.not_true, cond_false, impl_sync_eq ⟨d.Sure, d.Unsure ++ [⟨k, t⟩]⟩ s1 (by simp only [hxl]; omega) (fun x hm => (hx.2.2.2 x hm).1)]
  have eC1 : impl_CrashWith.f ⟨synced d.Sure (d.Unsure ++ [⟨k, t⟩]), []⟩ f1 = some (⟨synced d.Sure (d.Unsure ++ [⟨k, t⟩]), []⟩, 0) := crash_impl _ f1 hy f10 f11
  have eR2 : impl_ReadAt.f ⟨synced d.Sure (d.Unsure ++ [⟨k, t⟩]), []⟩ k = some (t, 0) := by
    unfold impl_ReadAt.f
    simp only [impl_DeviceOK_eq ⟨synced d.Sure (d.Unsure ++ [⟨k, t⟩]), []⟩ ⟨by simp only [synced_len]; omega, by simp⟩, hy.ok (show 9 ≤ 60 by decide), isSector_eq, hkI, Option.bind_some, Bool.not_true, cond_false]
    rw [loopO_stop (s := 0) (r := .out ()) (by simp [impl_ReadAt.s0])]
    simp only [Option.bind_some, synced_len]
    rw [if_pos (by omega), hsy]
  have eC2 : impl_CrashWith.f ⟨d.Sure, d.Unsure ++ [⟨k, t⟩]⟩ ([] : List Int) = some (⟨d.Sure, []⟩, 0) := by
    rw [crash_impl _ [] hx (by simp) (by simp), crN_none [] _ _ fateN_nil]
  have eC3 : impl_CrashWith.f ⟨d.Sure, d.Unsure ++ [⟨k, t⟩]⟩ [1] = some (⟨synced d.Sure (d.Unsure ++ [⟨k, t⟩]), []⟩, 0) := by
    rw [crash_impl _ [1] hx (by simp) (by simp), crN_ones [1] _ _ fateN_one _ (Nat.le_refl _), List.take_length]
  have eC4 := crash_impl _ f0 hx f00 f01
  have eC5 := crash_spec _ f0 hx f00 f01
  obtain ⟨i1, i2⟩ := crN_inv f0 (d.Unsure ++ [⟨k, t⟩]) d.Sure s3 (fun x hm => (hx.2.2.2 x hm).2) (d.Unsure ++ [(⟨k, t⟩ : S_Io)]).length (Nat.le_refl _)
  simp only at eC4 eC5
  generalize crN f0 (d.Unsure ++ [⟨k, t⟩]) d.Sure (d.Unsure ++ [(⟨k, t⟩ : S_Io)]).length = T at eC4 eC5 i1 i2
  have hT : DevD ⟨T, []⟩ 9 := ⟨by simp only; omega, by simp, i2, by simp⟩
  have hTl : (⟨T, []⟩ : S_Device).Sure.length ≤ 1073741824 ∧ (⟨T, []⟩ : S_Device).Unsure.length ≤ 1073741824 := ⟨by simp only; omega, by simp⟩
  have r1 := sameTexts_refl d.Sure (by omega)
  have r2 := sameDevice_refl ⟨synced d.Sure (d.Unsure ++ [⟨k, t⟩]), []⟩ (by simp only [synced_len]; omega) (by simp)
  have r3 := sameDevice_refl ⟨T, []⟩ (by simp only; omega) (by simp)
  simp only [Option.bind_some, cond_false, e0, ek, en, et, eW, eR, eS, ef1, eC1, eR2, eC2, eC3, ef0, eC4, eC5, r1, r2, r3, impl_DeviceOK_eq _ hTl, hT.ok (show 9 ≤ 60 by decide), bs_self]
  rfl
theorem cz5 : Try.prog.cellsOf 5 = 1 := by kernel_rfl
theorem own : ownKnob Try.prog.godebug = none := by kernel_rfl
theorem laidOut : laidOutB Try.prog = true := by kernel_rfl
set_option maxRecDepth 100000 in
theorem lifted (os : Os) (started : os.Started) (H : Type) (enc : TypeId × Value → H) :
    ReturnsInHanded {} Try.checked os 7 .any (Rows.fnDeviceSpec.pre6 enc Try.prog Try.f7 Rows.fnDeviceRow.domain false) (Rows.fnDeviceSpec.post enc Try.prog Try.f7 false true false false) := by
  refine returnsInHanded_of_change_sized (C := Try.checked) own started (by kernel_rfl) Try.func7
    (ChangeSpec.witness6 (enc := enc) (C := Try.checked) false ⟨#[], #[.slice none 0 0, .slice none 0 0], []⟩ 8 (by kernel_rfl) (by kernel_rfl) (by kernel_rfl) (by kernel_rfl)) ?_
  intro W base args ds gs before hval0 hW hcnd hsz0 _
  have hval : ∀ (j : Nat) t v, Try.f7.params[j]? = some t → args[j]? = some v → Value.okWide Try.prog W .any base t v := hval0
  have hW' := hW
  obtain ⟨p, q, hA0, hV, rfl, hfz, hnd⟩ := hW
  have hA : DataW.TrodAll enc Try.prog W 0 (fun _ => true) true Try.f7.params.toList args.toList ds p := hA0
  rw [Try.params7] at hA hval
  obtain ⟨v0, vs0, d0, ds0, p0, q0, hargs, rfl, rfl, h0, r0⟩ := trodAll_cons hA
  obtain ⟨v1, vs1, d1, ds1, p1, q1, rfl, rfl, rfl, h1, r1⟩ := trodAll_cons r0
  obtain ⟨rfl, rfl, rfl⟩ := trodAll_nil r1
  obtain rfl : args = #[v0, v1] := by cases args; simp_all
  obtain ⟨rfl, rfl⟩ := trodVars_none hV
  have k0 := h0
  have lt0 : ∀ x ∈ p0, x.block < W.heap.size := by obtain ⟨m, hm⟩ := k0; exact DataW.trod_lt m _ _ _ hm
  obtain ⟨f0, hf0⟩ := h0
  obtain ⟨y0, hy0, hg0⟩ := (opens_sl Try.underlying55 cz5 (by decide) (opens_int Try.underlying5)) H enc f0 _ _ hf0
  obtain ⟨A0_, p0_, e0, w0_⟩ : ∃ A p, v0 = Value.slice A y0.length p ∧ View (Lay.int .u8) A p y0 (heapC W) := by
    obtain ⟨A, n, c, rfl⟩ := okWide_slice Try.underlying55 (hval 0 55 v0 rfl rfl)
    obtain ⟨v, hv, A, p, rfl, hh⟩ := hy0
    simp only [Value.cells] at hv
    exact ⟨A, p, by simpa using hv, hh⟩
  subst e0
  have k1 := h1
  have lt1 : ∀ x ∈ p1, x.block < W.heap.size := by obtain ⟨m, hm⟩ := k1; exact DataW.trod_lt m _ _ _ hm
  obtain ⟨f1, hf1⟩ := h1
  obtain ⟨y1, hy1, hg1⟩ := (opens_sl Try.underlying55 cz5 (by decide) (opens_int Try.underlying5)) H enc f1 _ _ hf1
  obtain ⟨A1_, p1_, e1, w1_⟩ : ∃ A p, v1 = Value.slice A y1.length p ∧ View (Lay.int .u8) A p y1 (heapC W) := by
    obtain ⟨A, n, c, rfl⟩ := okWide_slice Try.underlying55 (hval 1 55 v1 rfl rfl)
    obtain ⟨v, hv, A, p, rfl, hh⟩ := hy1
    simp only [Value.cells] at hv
    exact ⟨A, p, by simpa using hv, hh⟩
  subst e1
  clear hA0 hval0 hsz0
  refine (laws_FnDevice_t W A0_ p0_ y0 (heapC W) w0_ (heapC_has W) A1_ p1_ y1 (heapC W) w1_ (heapC_has W) true (pure_laws_FnDevice y0 y1 hg0 hg1)).mono fun e W' ⟨v, he, hv, hS⟩ => ?_
  subst he; subst hv
  have bel := hS.below
  exact ⟨_, rfl, _, _, _, [], _, [], hW', trodAll_mk1 (shutB Try.underlying4 _), (trodAll_cons_mk (Below.trod laidOut (by kernel_rfl) (of_decide_eq_true (by kernel_rfl)) k0 bel lt0) (trodAll_cons_mk (Below.trod laidOut (by kernel_rfl) (of_decide_eq_true (by kernel_rfl)) k1 bel lt1) trodAll_mk0)), rfl, bel.frame _, fun h => by cases h⟩
theorem over : Rows.fnDeviceRow.holds Try.pinned (OpenSpec.ofChange Rows.fnDeviceSpec) :=
  OpenClaim.holds_of_wide 7 Try.f7 rfl rfl rfl rfl rfl rfl rfl ⟨rfl, rfl, rfl, rfl, rfl⟩ rfl rfl rfl rfl rfl (by kernel_rfl) Try.func7 (by kernel_rfl)
    (of_decide_eq_true (by kernel_rfl)) (by unfold Func.isWrapper; first | (rw [if_pos (by decide +kernel)]; kernel_rfl) | (rw [if_neg (by decide +kernel)]; exact ⟨rfl, rfl⟩))
    (fun os started H enc _ => lifted os started H enc)
theorem fnDevice_holds : Rows.FnDeviceSaid := over
end Go.Proofs.Ytlbbkehdfgjneaa.RFDevice
