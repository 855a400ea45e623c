/- FnFlip: for every input the law returns true, and its arguments read as before. No conditions but the row's own. -/
import Derived.Test.YtlbbkehdfgjneaaPFFlip
namespace Go.Proofs.Ytlbbkehdfgjneaa.RFFlip
open Go Go.Z Go.Proofs Go.MuLone Go.ChangeShapes Go.WideShapes Go.ChangeAt Go.RowKit
set_option linter.unusedVariables false
set_option linter.unusedSimpArgs false
set_option maxRecDepth 100000 in
theorem xor_twice : ∀ a : Nat, a < 256 → ∀ b : Nat, b < 256 → ((BitVec.ofNat 8 a ^^^ BitVec.ofNat 8 b) ^^^ BitVec.ofNat 8 b = BitVec.ofNat 8 a) := fun a _ b _ => by
  rw [BitVec.xor_assoc, BitVec.xor_self, BitVec.xor_zero]
def xb (a b : Int) : Int := IntKind.wrap .u8 ((BitVec.ofInt 8 a ^^^ BitVec.ofInt 8 (IntKind.wrap .u8 b)).toNat : Int)
theorem xb_eq (a b : Int) : xb a b = ((BitVec.ofInt 8 a ^^^ BitVec.ofInt 8 b).toNat : Int) := by
  have h : BitVec.ofInt 8 (IntKind.wrap .u8 b) = BitVec.ofInt 8 b := by
    apply BitVec.eq_of_toInt_eq
    show (BitVec.ofInt 8 (b % 256)).toInt = (BitVec.ofInt 8 b).toInt
    rw [BitVec.toInt_ofInt, BitVec.toInt_ofInt]
    exact Int.emod_bmod b 256
  unfold xb
  rw [h]
  have := (BitVec.ofInt 8 a ^^^ BitVec.ofInt 8 b).isLt
  show ((BitVec.ofInt 8 a ^^^ BitVec.ofInt 8 b).toNat : Int) % 256 = _
  omega
theorem xb_byte (a b : Int) : 0 ≤ xb a b ∧ xb a b ≤ 255 := by
  rw [xb_eq]
  have := (BitVec.ofInt 8 a ^^^ BitVec.ofInt 8 b).isLt
  omega
theorem ofInt_nat (x : BitVec 8) : BitVec.ofInt 8 (x.toNat : Int) = x := by
  apply BitVec.eq_of_toNat_eq
  simp
theorem xb_twice {a b : Int} (h0 : 0 ≤ a) (h1 : a ≤ 255) : xb (xb a b) b = a := by
  rw [xb_eq (xb a b), xb_eq a, ofInt_nat, BitVec.xor_assoc, BitVec.xor_self, BitVec.xor_zero]
  rw [BitVec.toNat_ofInt]; omega
theorem xb_ne {a b : Int} (h0 : 0 ≤ a) (h1 : a ≤ 255) (hb0 : 1 ≤ b) (hb1 : b ≤ 255) : xb a b ≠ a := by
  intro e
  have h2 := xb_eq a b
  rw [e] at h2
  have h3 : BitVec.ofInt 8 a = BitVec.ofInt 8 a ^^^ BitVec.ofInt 8 b := by
    have := congrArg (BitVec.ofInt 8) h2
    rwa [ofInt_nat] at this
  have h4 : BitVec.ofInt 8 b = 0#8 := by
    have := congrArg (fun x => BitVec.ofInt 8 a ^^^ x) h3
    simp only [BitVec.xor_self, ← BitVec.xor_assoc, BitVec.zero_xor] at this
    exact this.symm
  have := congrArg BitVec.toNat h4
  rw [BitVec.toNat_ofInt] at this
  simp at this
  omega
theorem flipB_bytes (s : ByteArray) (p b : Int) : bytesOf (flipB s p b) = (bytesOf s).set p.toNat (xb ((bytesOf s).getD p.toNat 0) b) := by
  unfold flipB
  apply bytes_str
  intro y hy
  rcases List.mem_or_eq_of_mem_set hy with hy | rfl
  · exact bytesOf_isB s y hy
  · exact xb_byte _ _
theorem flipB_twice (s : ByteArray) (p b : Int) (h0 : 0 ≤ p) (h1 : p < (s.size : Int)) : flipB (flipB s p b) p b = s := by
  apply ba_ext
  have hl := bytesOf_len s
  have hi : p.toNat < (bytesOf s).length := by omega
  obtain ⟨b0, b1⟩ := getD_isB (bytesOf_isB s) p.toNat
  rw [flipB_bytes, flipB_bytes, getD_set_self _ _ _ hi, List.set_set, xb_twice b0 b1]
  apply List.ext_getElem (by simp)
  intro j h2 h3
  rw [List.getElem_set]
  split
  · rename_i e; subst e; rw [getD_lt hi]
  · rfl
theorem flipB_ne (s : ByteArray) (p b : Int) (h0 : 0 ≤ p) (h1 : p < (s.size : Int)) (hb0 : 1 ≤ b) (hb1 : b ≤ 255) : flipB s p b ≠ s := by
  intro e
  have hl := bytesOf_len s
  have hi : p.toNat < (bytesOf s).length := by omega
  obtain ⟨b0, b1⟩ := getD_isB (bytesOf_isB s) p.toNat
  have h2 := congrArg (fun l => l.getD p.toNat 0) (flipB_bytes s p b)
  simp only [e, getD_set_self _ _ _ hi] at h2
  exact xb_ne b0 b1 hb0 hb1 h2.symm
theorem flipB_size (s : ByteArray) (p b : Int) : (flipB s p b).size = s.size := by
  rw [← bytesOf_len, flipB_bytes, List.length_set, bytesOf_len]
theorem flip_both (d : S_Device) (n : Nat) (hn : n ≤ 60) (hd : DevD d n) (a p b : Int) (ha : 0 ≤ a ∧ a ≤ 39) (hb : 1 ≤ b ∧ b ≤ 255) :
    impl_FlipAt.f d a p b = some (if 0 ≤ p ∧ p < ((d.Sure.getD a.toNat ByteArray.empty).size : Int) then (flipD d a p b, 0) else (d, 5)) ∧ spec_FlipAt.f d a p b = some (if 0 ≤ p ∧ p < ((d.Sure.getD a.toNat ByteArray.empty).size : Int) then (flipD d a p b, 0) else (d, 5)) := by
  obtain ⟨d1, d2, d3, d4⟩ := hd
  have hl : d.Sure.length ≤ 1073741824 ∧ d.Unsure.length ≤ 1073741824 := ⟨by omega, by omega⟩
  have hok := DevD.ok ⟨d1, d2, d3, d4⟩ hn
  have hsz : (d.Sure.getD a.toNat ByteArray.empty).size ≤ 700 := d3 _ (getD_mem (by omega) _)
  have hr : 0 ≤ a ∧ a < (d.Sure.length : Int) := by omega
  unfold spec_FlipAt.f impl_FlipAt.f
  simp only [Option.bind_some, spec_DeviceOK_eq, impl_DeviceOK_eq d hl, isSector_eq, l05In_eq, within_eq, l01In_eq, spec_own_eq d hl, impl_own_eq d hl, hok, inB_iff.2 ha, inB_iff.2 hb, Bool.not_true, cond_false, if_pos hr]
  rw [w64_id (by omega) (by omega)]
  cases hp : inB p 0 (((d.Sure.getD a.toNat ByteArray.empty).size : Int) - 1)
  · have hp' : ¬ (0 ≤ p ∧ p < ((d.Sure.getD a.toNat ByteArray.empty).size : Int)) := fun h => by
      have : inB p 0 (((d.Sure.getD a.toNat ByteArray.empty).size : Int) - 1) = true := inB_iff.2 (by omega)
      rw [hp] at this; cases this
    rw [if_neg hp']
    exact ⟨rfl, rfl⟩
  · have hp' := inB_iff.1 hp
    have hq : 0 ≤ p ∧ p < ((d.Sure.getD a.toNat ByteArray.empty).size : Int) := by omega
    have hz : (d.Sure.getD a.toNat ByteArray.empty).size ≤ 1073741824 := by omega
    simp only [Bool.not_true, cond_false, bytesOf_len, if_pos hq, if_pos hz, spec_l05Flip_eq d a p b hl hr hq hz, Option.bind_some]
    first | exact ⟨rfl, rfl⟩ | exact ⟨rfl, trivial⟩
theorem pure_laws_FnFlip (x0 : List Int) (x1 : List Int) (g0 : (x0.length ≤ maxLen ∧ ∀ y : Int, y ∈ x0 → ((Lit.int .u8 y).wf = true))) (g1 : (x1.length ≤ maxLen ∧ ∀ y : Int, y ∈ x1 → ((Lit.int .u8 y).wf = true))) : laws_FnFlip.f x0 x1 = some true := by
  unfold laws_FnFlip.f
  by_cases c : (x0.length : Int) > 1048576
  · rw [decide_eq_true c]; rfl
  by_cases c1 : (x1.length : Int) > 1048576
  · rw [decide_eq_false c, decide_eq_true c1]; rfl
  rw [decide_eq_false c, decide_eq_false c1]
  have hB0 : isB x0 := fun b hb => wf_u8 (g0.2 b hb)
  have hB1 : isB x1 := fun b hb => wf_u8 (g1.2 b hb)
  obtain ⟨d0, e0, hd0⟩ := deviceOf_some x0 (by omega) hB0
  obtain ⟨s1, s2, s3, s4⟩ := hd0
  have hl0 : d0.Sure.length ≤ 1073741824 ∧ d0.Unsure.length ≤ 1073741824 := ⟨by omega, by omega⟩
  have esync : impl_SyncAll.f d0 = some (⟨synced d0.Sure d0.Unsure, []⟩, 0) := by
    unfold impl_SyncAll.f
    simp only [impl_DeviceOK_eq d0 hl0, DevD.ok ⟨s1, s2, s3, s4⟩ (by decide), Option.bind_some, Bool.not_true, cond_false, impl_sync_eq d0 s1 (by omega) (fun x hx => (s4 x hx).1)]
  have hd : DevD ⟨synced d0.Sure d0.Unsure, []⟩ 0 := ⟨by simp only [synced_len]; exact s1, by simp, synced_mem (fun t => t.size ≤ 700) _ _ s3 (fun x hx => (s4 x hx).2), by simp⟩
  generalize (⟨synced d0.Sure d0.Unsure, []⟩ : S_Device) = d at esync hd
  obtain ⟨k, ek, k0, k1⟩ := at_some x1 0 6 (by omega) hB1 (by omega) (by omega)
  obtain ⟨b, eb, b0, b1⟩ := at_some x1 1 255 (by omega) hB1 (by omega) (by omega)
  obtain ⟨p, ep, p0, p1⟩ := at_some x1 2 7 (by omega) hB1 (by omega) (by omega)
  have hw : w64 (1 + b) = 1 + b := w64_id (by omega) (by omega)
  obtain ⟨f1, f2⟩ := flip_both d 0 (by decide) hd k p (1 + b) (by omega) (by omega)
  have hlen := hd.1
  have hun : d.Unsure.length ≤ 1048576 := by have := hd.2.1; omega
  have h40 : ((d.Sure.length : Int) != 40) = false := by simp [hlen]
  have hrd := sameDevice_refl d (by omega) hun
  simp only [Option.bind_some, cond_false, e0, esync, ek, eb, ep, hw, f1, f2, bne_self_eq_false]
  by_cases hp : 0 ≤ p ∧ p < ((d.Sure.getD k.toNat ByteArray.empty).size : Int)
  case neg =>
    simp only [if_neg hp, hrd, h40, Option.bind_some, Bool.not_true, cond_false]
    rfl
  have hfl : (flipD d k p (1 + b)).Sure.length = 40 := by simp [flipD, hlen]
  have hk : k.toNat < d.Sure.length := by omega
  have hfd : DevD (flipD d k p (1 + b)) 0 := by
    refine ⟨hfl, hd.2.1, fun t ht => ?_, hd.2.2.2⟩
    rcases List.mem_or_eq_of_mem_set ht with ht | rfl
    · exact hd.2.2.1 t ht
    · rw [flipB_size]; exact hd.2.2.1 _ (getD_mem hk _)
  have hget : (flipD d k p (1 + b)).Sure.getD k.toNat ByteArray.empty = flipB (d.Sure.getD k.toNat ByteArray.empty) p (1 + b) := getD_set_self _ _ _ hk
  obtain ⟨f3, _⟩ := flip_both (flipD d k p (1 + b)) 0 (by decide) hfd k p (1 + b) (by omega) (by omega)
  rw [hget, flipB_size, if_pos hp] at f3
  have hback : flipD (flipD d k p (1 + b)) k p (1 + b) = d := by
    show (⟨(flipD d k p (1 + b)).Sure.set k.toNat (flipB ((flipD d k p (1 + b)).Sure.getD k.toNat ByteArray.empty) p (1 + b)), d.Unsure⟩ : S_Device) = d
    rw [hget, flipB_twice _ _ _ hp.1 hp.2]
    have : (flipD d k p (1 + b)).Sure.set k.toNat (d.Sure.getD k.toNat ByteArray.empty) = d.Sure := by
      show (d.Sure.set k.toNat _).set k.toNat _ = d.Sure
      rw [List.set_set]
      apply List.ext_getElem (by simp)
      intro j h2 h3
      rw [List.getElem_set]
      split
      · rename_i e; subst e; rw [getD_lt hk]
      · rfl
    rw [this]
  rw [hback] at f3
  have hne : flipD d k p (1 + b) ≠ d := fun e => by
    have := congrArg (fun x => x.Sure.getD k.toNat ByteArray.empty) e
    simp only [hget] at this
    exact flipB_ne _ _ _ hp.1 hp.2 (by omega) (by omega) this
  have hs1 : impl_SameDevice.f (flipD d k p (1 + b)) d = some false := by
    rw [impl_SameDevice_eq _ _ ⟨by omega, by have := hfd.2.1; omega⟩, sameDev_iff, decide_eq_false hne]
  have hs2 : impl_SameDevice.f d d = some true := by
    rw [impl_SameDevice_eq _ _ ⟨by omega, by omega⟩, sameDev_iff, decide_eq_true rfl]
  have hrf := sameDevice_refl (flipD d k p (1 + b)) (by omega) (by have := hfd.2.1; omega)
  simp only [if_pos hp, hrf, h40, Option.bind_some, Bool.not_true, cond_false, f3, hrd, hs1, hs2]
  rfl
theorem cz5 : Try.prog.cellsOf 5 = 1 := by kernel_rfl
theorem own : ownKnob Try.prog.godebug = none := by kernel_rfl
theorem laidOut : laidOutB Try.prog = true := by kernel_rfl
set_option maxRecDepth 100000 in
theorem lifted (os : Os) (started : os.Started) (H : Type) (enc : TypeId × Value → H) :
    ReturnsInHanded {} Try.checked os 8 .any (Rows.fnFlipSpec.pre6 enc Try.prog Try.f8 Rows.fnFlipRow.domain false) (Rows.fnFlipSpec.post enc Try.prog Try.f8 false true false false) := by
  refine returnsInHanded_of_change_sized (C := Try.checked) own started (by kernel_rfl) Try.func8
    (ChangeSpec.witness6 (enc := enc) (C := Try.checked) false ⟨#[], #[.slice none 0 0, .slice none 0 0], []⟩ 8 (by kernel_rfl) (by kernel_rfl) (by kernel_rfl) (by kernel_rfl)) ?_
  intro W base args ds gs before hval0 hW hcnd hsz0 _
  have hval : ∀ (j : Nat) t v, Try.f8.params[j]? = some t → args[j]? = some v → Value.okWide Try.prog W .any base t v := hval0
  have hW' := hW
  obtain ⟨p, q, hA0, hV, rfl, hfz, hnd⟩ := hW
  have hA : DataW.TrodAll enc Try.prog W 0 (fun _ => true) true Try.f8.params.toList args.toList ds p := hA0
  rw [Try.params8] at hA hval
  obtain ⟨v0, vs0, d0, ds0, p0, q0, hargs, rfl, rfl, h0, r0⟩ := trodAll_cons hA
  obtain ⟨v1, vs1, d1, ds1, p1, q1, rfl, rfl, rfl, h1, r1⟩ := trodAll_cons r0
  obtain ⟨rfl, rfl, rfl⟩ := trodAll_nil r1
  obtain rfl : args = #[v0, v1] := by cases args; simp_all
  obtain ⟨rfl, rfl⟩ := trodVars_none hV
  have k0 := h0
  have lt0 : ∀ x ∈ p0, x.block < W.heap.size := by obtain ⟨m, hm⟩ := k0; exact DataW.trod_lt m _ _ _ hm
  obtain ⟨f0, hf0⟩ := h0
  obtain ⟨y0, hy0, hg0⟩ := (opens_sl Try.underlying55 cz5 (by decide) (opens_int Try.underlying5)) H enc f0 _ _ hf0
  obtain ⟨A0_, p0_, e0, w0_⟩ : ∃ A p, v0 = Value.slice A y0.length p ∧ View (Lay.int .u8) A p y0 (heapC W) := by
    obtain ⟨A, n, c, rfl⟩ := okWide_slice Try.underlying55 (hval 0 55 v0 rfl rfl)
    obtain ⟨v, hv, A, p, rfl, hh⟩ := hy0
    simp only [Value.cells] at hv
    exact ⟨A, p, by simpa using hv, hh⟩
  subst e0
  have k1 := h1
  have lt1 : ∀ x ∈ p1, x.block < W.heap.size := by obtain ⟨m, hm⟩ := k1; exact DataW.trod_lt m _ _ _ hm
  obtain ⟨f1, hf1⟩ := h1
  obtain ⟨y1, hy1, hg1⟩ := (opens_sl Try.underlying55 cz5 (by decide) (opens_int Try.underlying5)) H enc f1 _ _ hf1
  obtain ⟨A1_, p1_, e1, w1_⟩ : ∃ A p, v1 = Value.slice A y1.length p ∧ View (Lay.int .u8) A p y1 (heapC W) := by
    obtain ⟨A, n, c, rfl⟩ := okWide_slice Try.underlying55 (hval 1 55 v1 rfl rfl)
    obtain ⟨v, hv, A, p, rfl, hh⟩ := hy1
    simp only [Value.cells] at hv
    exact ⟨A, p, by simpa using hv, hh⟩
  subst e1
  clear hA0 hval0 hsz0
  refine (laws_FnFlip_t W A0_ p0_ y0 (heapC W) w0_ (heapC_has W) A1_ p1_ y1 (heapC W) w1_ (heapC_has W) true (pure_laws_FnFlip y0 y1 hg0 hg1)).mono fun e W' ⟨v, he, hv, hS⟩ => ?_
  subst he; subst hv
  have bel := hS.below
  exact ⟨_, rfl, _, _, _, [], _, [], hW', trodAll_mk1 (shutB Try.underlying4 _), (trodAll_cons_mk (Below.trod laidOut (by kernel_rfl) (of_decide_eq_true (by kernel_rfl)) k0 bel lt0) (trodAll_cons_mk (Below.trod laidOut (by kernel_rfl) (of_decide_eq_true (by kernel_rfl)) k1 bel lt1) trodAll_mk0)), rfl, bel.frame _, fun h => by cases h⟩
theorem over : Rows.fnFlipRow.holds Try.pinned (OpenSpec.ofChange Rows.fnFlipSpec) :=
  OpenClaim.holds_of_wide 8 Try.f8 rfl rfl rfl rfl rfl rfl rfl ⟨rfl, rfl, rfl, rfl, rfl⟩ rfl rfl rfl rfl rfl (by kernel_rfl) Try.func8 (by kernel_rfl)
    (of_decide_eq_true (by kernel_rfl)) (by unfold Func.isWrapper; first | (rw [if_pos (by decide +kernel)]; kernel_rfl) | (rw [if_neg (by decide +kernel)]; exact ⟨rfl, rfl⟩))
    (fun os started H enc _ => lifted os started H enc)
theorem fnFlip_holds : Rows.FnFlipSaid := over
end Go.Proofs.Ytlbbkehdfgjneaa.RFFlip
