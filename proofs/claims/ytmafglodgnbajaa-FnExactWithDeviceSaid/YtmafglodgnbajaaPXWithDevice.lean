/- What the models of these functions come to. -/
import Derived.Test.YtmafglodgnbajaaPXStoreOK
import Derived.Test.YtmafglodgnbajaaGXWithDevice
namespace Go.Proofs.Ytmafglodgnbajaa
open Go Go.Z Go.Proofs Go.MuLone Go.ChangeShapes Go.WideShapes Go.ChangeAt Go.RowKit
set_option linter.unusedVariables false
set_option linter.unusedSimpArgs false
theorem mt_some (k : Int) (h0 : 0 ≤ k) (h1 : k ≤ 288230376151711744) : ∃ t, laws_markText.f k = some t := by
  unfold laws_markText.f
  by_cases hz : k ≤ 0
  · rw [decide_eq_true hz]; exact ⟨_, rfl⟩
  rw [decide_eq_false hz]
  obtain ⟨r, e1, e2⟩ := loopO_wf (step := fun s : Int × ByteArray => laws_markText.s0 s.1 s.2) (fun s => 0 ≤ s.1 ∧ s.1 + s.2.size ≤ 288230376151711744) (fun r : Ex ByteArray ByteArray => match r with | .out u => u.size ≤ 288230376151711744 | .ret _ => False) (fun s => s.1.toNat) (fun s hI => by
    obtain ⟨k, u⟩ := s
    obtain ⟨hk, hu⟩ := hI
    simp only at hk hu
    by_cases c : k > 0
    · have ht : Int.tdiv k 10 = k / 10 := Int.tdiv_eq_ediv_of_nonneg hk
      have hs : (strOfNums [IntKind.wrap .u8 (w64 (48 + Int.tmod k 10))]).size = 1 := by simp [strOfNums, ByteArray.size]
      simp only [laws_markText.s0, decide_eq_true c, cond_true]
      have hw : IntKind.wrap .i64 (Int.tdiv k 10) = k / 10 := by rw [ht]; exact w64_id (by omega) (by omega)
      rw [if_pos (by rw [hs]; omega), hw]
      refine .inl ⟨_, rfl, ⟨by simp only; omega, ?_⟩, by simp only; omega⟩
      simp only [ByteArray.size_append, hs]
      omega
    · simp only [laws_markText.s0, decide_eq_false c, cond_false]
      exact .inr ⟨_, rfl, by simp only; omega⟩) _ (k, (⟨#[]⟩ : ByteArray)) (Nat.le_refl _) ⟨h0, by simp [ByteArray.size]; omega⟩
  rw [cond_false, e1]
  cases r with
  | out u =>
    simp only at e2
    simp only [Option.bind_some]
    rw [if_pos (by rw [show (⟨#[109]⟩ : ByteArray).size = 1 from rfl]; omega)]
    exact ⟨_, rfl⟩
  | ret _ => exact e2.elim
noncomputable def mtx (k : Int) : ByteArray := (laws_markText.f k).getD ByteArray.empty
theorem mtx_eq (k : Int) (h0 : 0 ≤ k) (h1 : k ≤ 288230376151711744) : laws_markText.f k = some (mtx k) := by
  obtain ⟨t, h⟩ := mt_some k h0 h1
  simp [mtx, h]

noncomputable def F_laws_markStringS (q : Int) (x : ByteArray) : ByteArray := mtx q
theorem mk_laws_markStringS (x : List ByteArray) (k : Int) (h0 : 0 ≤ k) (h1 : k ≤ 144115188075855872) (hl : x.length ≤ 1048576) : ∃ m a, laws_markStringS.f x k = some (m, a) ∧ k ≤ m ∧ m ≤ k + 1048576 ∧ a.length = x.length ∧ laws_heldStringS.f a k = some m := by
  have hm := mark_gen (ρ := Int × List ByteArray) x ByteArray.empty F_laws_markStringS 1 k (fun s => laws_markStringS.s0 x s.1 s.2.1 s.2.2) (by decide) (fun i u q hi hu hg hq1 hq2 => by
    have w1 : w64 (q + 1) = q + 1 := by rw [w64_id (by omega) (by omega)]
    have wi : w64 ((i : Int) + 1) = ((i + 1 : Nat) : Int) := by rw [w64_id (by omega) (by omega)]; omega
    have t0 := mtx_eq q (by omega) (by omega)
    simp only [laws_markStringS.s0, decide_eq_true (show (i : Int) < (x.length : Int) by omega), cond_true, if_pos (show (0 : Int) ≤ (i : Int) ∧ (i : Int) < (x.length : Int) by omega), Int.toNat_natCast, Option.bind_some, w1, t0, wi, List.set_set, getD_set_self _ ByteArray.empty _ (show i < u.length by omega), getD_set_self _ ByteArray.empty _ (show i < (u.set i _).length by simp; omega), F_laws_markStringS]) (fun u q => by simp only [laws_markStringS.s0]; rw [decide_eq_false (by omega)]; rfl)
  refine ⟨k + 1 * x.length, mkL x ByteArray.empty F_laws_markStringS 1 k, ?_, by omega, by omega, mkL_len .., ?_⟩
  · unfold laws_markStringS.f; rw [hm]; rfl
  · have hy := mkL_len x ByteArray.empty F_laws_markStringS 1 k
    have hh := held_gen (ρ := Int) (mkL x ByteArray.empty F_laws_markStringS 1 k) 1 k (fun s => laws_heldStringS.s0 (mkL x ByteArray.empty F_laws_markStringS 1 k) s.1 s.2) (by decide) (fun i hi hq2 hq1 => by
    have hg := mkL_getD x ByteArray.empty F_laws_markStringS 1 k (show i < x.length by omega)
    generalize hqq : k + 1 * (i : Int) = q at hg hq1 hq2 ⊢
    rw [hy] at hi hq2
    have w1 : w64 (q + 1) = q + 1 := by rw [w64_id (by omega) (by omega)]
    have wi : w64 ((i : Int) + 1) = ((i + 1 : Nat) : Int) := by rw [w64_id (by omega) (by omega)]; omega
    have t0 := mtx_eq q (by omega) (by omega)
    simp only [laws_heldStringS.s0, hy, decide_eq_true (show (i : Int) < (x.length : Int) by omega), cond_true, if_pos (show (0 : Int) ≤ (i : Int) ∧ (i : Int) < (x.length : Int) by omega), Int.toNat_natCast, Option.bind_some, w1, t0, wi, hg, F_laws_markStringS, bne_self_eq_false, beq_self_eq_true, bs_self, Bool.not_true, cond_false]) (fun q => by simp only [laws_heldStringS.s0]; rw [decide_eq_false (by omega)]; rfl)
    rw [hy] at hh
    unfold laws_heldStringS.f; rw [hh]; rfl

noncomputable def F_laws_markIoS (q : Int) (x : S_Io) : S_Io := ⟨q, mtx (q + 1)⟩
theorem mk_laws_markIoS (x : List S_Io) (k : Int) (h0 : 0 ≤ k) (h1 : k ≤ 144115188075855872) (hl : x.length ≤ 1048576) : ∃ m a, laws_markIoS.f x k = some (m, a) ∧ k ≤ m ∧ m ≤ k + 2097152 ∧ a.length = x.length ∧ laws_heldIoS.f a k = some m := by
  have hm := mark_gen (ρ := Int × List S_Io) x z_Io F_laws_markIoS 2 k (fun s => laws_markIoS.s0 x s.1 s.2.1 s.2.2) (by decide) (fun i u q hi hu hg hq1 hq2 => by
    have w1 : w64 (q + 1) = q + 1 := by rw [w64_id (by omega) (by omega)]
    have w2 : w64 (q + 1 + 1) = q + 2 := by rw [w64_id (by omega) (by omega)]; omega
    have wi : w64 ((i : Int) + 1) = ((i + 1 : Nat) : Int) := by rw [w64_id (by omega) (by omega)]; omega
    have t1 := mtx_eq (q + 1) (by omega) (by omega)
    simp only [laws_markIoS.s0, decide_eq_true (show (i : Int) < (x.length : Int) by omega), cond_true, if_pos (show (0 : Int) ≤ (i : Int) ∧ (i : Int) < (x.length : Int) by omega), Int.toNat_natCast, Option.bind_some, w1, w2, t1, wi, List.set_set, getD_set_self _ z_Io _ (show i < u.length by omega), getD_set_self _ z_Io _ (show i < (u.set i _).length by simp; omega), F_laws_markIoS]) (fun u q => by simp only [laws_markIoS.s0]; rw [decide_eq_false (by omega)]; rfl)
  refine ⟨k + 2 * x.length, mkL x z_Io F_laws_markIoS 2 k, ?_, by omega, by omega, mkL_len .., ?_⟩
  · unfold laws_markIoS.f; rw [hm]; rfl
  · have hy := mkL_len x z_Io F_laws_markIoS 2 k
    have hh := held_gen (ρ := Int) (mkL x z_Io F_laws_markIoS 2 k) 2 k (fun s => laws_heldIoS.s0 (mkL x z_Io F_laws_markIoS 2 k) s.1 s.2) (by decide) (fun i hi hq2 hq1 => by
    have hg := mkL_getD x z_Io F_laws_markIoS 2 k (show i < x.length by omega)
    generalize hqq : k + 2 * (i : Int) = q at hg hq1 hq2 ⊢
    rw [hy] at hi hq2
    have w1 : w64 (q + 1) = q + 1 := by rw [w64_id (by omega) (by omega)]
    have w2 : w64 (q + 1 + 1) = q + 2 := by rw [w64_id (by omega) (by omega)]; omega
    have wi : w64 ((i : Int) + 1) = ((i + 1 : Nat) : Int) := by rw [w64_id (by omega) (by omega)]; omega
    have t1 := mtx_eq (q + 1) (by omega) (by omega)
    simp only [laws_heldIoS.s0, hy, decide_eq_true (show (i : Int) < (x.length : Int) by omega), cond_true, if_pos (show (0 : Int) ≤ (i : Int) ∧ (i : Int) < (x.length : Int) by omega), Int.toNat_natCast, Option.bind_some, w1, w2, t1, wi, hg, F_laws_markIoS, bne_self_eq_false, beq_self_eq_true, bs_self, Bool.not_true, cond_false]) (fun q => by simp only [laws_heldIoS.s0]; rw [decide_eq_false (by omega)]; rfl)
    rw [hy] at hh
    unfold laws_heldIoS.f; rw [hh]; rfl

theorem mk_laws_markDevice (x : S_Device) (k : Int) (h0 : 0 ≤ k) (h1 : k ≤ 144115188072710144) (hl : (x.Sure.length ≤ 1048576) ∧ (x.Unsure.length ≤ 1048576)) : ∃ m a0 a1, laws_markDevice.f x k = some (m, a0, a1) ∧ k ≤ m ∧ m ≤ k + 3145728 ∧ ∀ y : S_Device, y.Sure = a0 → y.Unsure = a1 → laws_heldDevice.f y k = some m := by
  obtain ⟨m0, b0, e0, p0, q0, _, r0⟩ := mk_laws_markStringS x.Sure k (by omega) (by omega) hl.1
  obtain ⟨m1, b1, e1, p1, q1, _, r1⟩ := mk_laws_markIoS x.Unsure m0 (by omega) (by omega) hl.2
  refine ⟨m1, b0, b1, ?_, by omega, by omega, ?_⟩
  · unfold laws_markDevice.f; simp only [e0, e1, Option.bind_some]
  · intro y y0 y1
    have s0 : laws_heldStringS.f y.Sure k = some m0 := by rw [y0]; exact r0
    have s1 : laws_heldIoS.f y.Unsure m0 = some m1 := by rw [y1]; exact r1
    unfold laws_heldDevice.f; simp only [s0, decide_eq_false (show ¬ m0 < 0 by omega), s1, decide_eq_false (show ¬ m1 < 0 by omega), Option.bind_some, cond_false]

theorem mk_laws_markStore (x : S_Store) (k : Int) (h0 : 0 ≤ k) (h1 : k ≤ 144115188072710144) (hl : ((x.Device.Sure.length ≤ 1048576) ∧ (x.Device.Unsure.length ≤ 1048576))) : ∃ m a0 a1, laws_markStore.f x k = some (m, a0, a1) ∧ k ≤ m ∧ m ≤ k + 3145728 ∧ ∀ y : S_Store, y.Device.Sure = a0 → y.Device.Unsure = a1 → laws_heldStore.f y k = some m := by
  obtain ⟨m0, b0, b1, e0, p0, q0, r0⟩ := mk_laws_markDevice x.Device k (by omega) (by omega) hl
  refine ⟨m0, b0, b1, ?_, by omega, by omega, ?_⟩
  · unfold laws_markStore.f; simp only [e0, Option.bind_some]
  · intro y y0 y1
    have s0 : laws_heldDevice.f y.Device k = some m0 := r0 _ y0 y1
    unfold laws_heldStore.f; simp only [s0, decide_eq_false (show ¬ m0 < 0 by omega), Option.bind_some, cond_false]

theorem spec_own_eq (d : S_Device) (h : d.Sure.length ≤ 1073741824 ∧ d.Unsure.length ≤ 1073741824) : spec_l05Own.f d = some d := by
  unfold spec_l05Own.f
  rw [if_pos (by simpa using h.1), if_pos (by simpa using h.2)]; rfl

theorem impl_own_eq (d : S_Device) (h : d.Sure.length ≤ 1073741824 ∧ d.Unsure.length ≤ 1073741824) : impl_Device_own.f d = some d := by
  unfold impl_Device_own.f slices_Clone_string_string.f slices_Clone_impl_Io_impl_Io.f
  rw [if_pos h.1, if_pos h.2]; rfl

end Go.Proofs.Ytmafglodgnbajaa
