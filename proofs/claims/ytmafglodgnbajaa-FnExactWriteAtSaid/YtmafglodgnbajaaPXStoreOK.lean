/- What the models of these functions come to. -/
import Derived.Test.YtmafglodgnbajaaPXSameStore
import Derived.Test.YtmafglodgnbajaaGXStoreOK
namespace Go.Proofs.Ytmafglodgnbajaa
open Go Go.Z Go.Proofs Go.MuLone Go.ChangeShapes Go.WideShapes Go.ChangeAt Go.RowKit
set_option linter.unusedVariables false
set_option linter.unusedSimpArgs false
theorem l01In_eq (x lo hi : Int) : spec_l01In.f x lo hi = some (inB x lo hi) := by
  unfold spec_l01In.f inB; cases decide (lo ≤ x) <;> rfl

def regOK (x : S_Register) : Bool :=
  inB x.Epoch 0 1000000 && inB x.Side 0 1 && inB x.Count x.Epoch (if 1000000 < w64 (x.Epoch + 4) then 1000000 else w64 (x.Epoch + 4)) && inB x.Boot 0 1000000 &&
    (x.Base.size : Int) == 32 && (x.Tip.size : Int) == 32 && (x.Root.size : Int) == 32 && (decide (x.Count > x.Epoch) || x.Base.toList == x.Tip.toList)
theorem spec_RegisterOK_eq (x : S_Register) : spec_RegisterOK.f x = some (regOK x) := by
  unfold spec_RegisterOK.f regOK
  simp only [l01In_eq, Option.bind_some]
  cases inB x.Epoch 0 1000000 <;> cases inB x.Side 0 1 <;> cases inB x.Boot 0 1000000 <;>
    cases inB x.Count x.Epoch (if 1000000 < w64 (x.Epoch + 4) then 1000000 else w64 (x.Epoch + 4)) <;> try rfl
  all_goals
    cases (x.Base.size : Int) == 32 <;> cases (x.Tip.size : Int) == 32 <;> cases (x.Root.size : Int) == 32 <;> cases decide (x.Count > x.Epoch) <;> rfl

theorem l05In_eq (x : Int) : spec_l05In.f x = some (inB x 0 39) := by unfold spec_l05In.f; rw [l01In_eq]; rfl

def ioOK (x : S_Io) : Bool := inB x.At 0 39 && decide ((x.Data.size : Int) ≤ 700)
def devOK (d : S_Device) : Bool := ((d.Sure.length : Int) == 40) && decide ((d.Unsure.length : Int) ≤ 60) && d.Sure.all (fun t => decide ((t.size : Int) ≤ 700)) && d.Unsure.all ioOK
theorem not_gt (x y : Int) : decide (x > y) = !decide (x ≤ y) := by
  by_cases h : x ≤ y
  · rw [decide_eq_true h, decide_eq_false (by omega)]; rfl
  · rw [decide_eq_false h, decide_eq_true (by omega)]; rfl
theorem spec_DeviceOK_eq (d : S_Device) : spec_DeviceOK.f d = some (devOK d) := by
  unfold spec_DeviceOK.f devOK
  rw [not_gt]
  simp only [bne]
  by_cases h1 : (d.Sure.length : Int) = 40
  case neg =>
    have : ((d.Sure.length : Int) == 40) = false := by simpa using h1
    rw [this]; rfl
  rw [show ((d.Sure.length : Int) == 40) = true from by simpa using h1]
  by_cases h2 : (d.Unsure.length : Int) ≤ 60
  case neg => rw [decide_eq_false h2]; rfl
  rw [decide_eq_true h2]
  have l1 := loopO_scan (step := fun s => spec_DeviceOK.s0 d s) (fun k => (k : Int)) d.Sure.length (fun k => decide (((d.Sure.getD k ByteArray.empty).size : Int) ≤ 700)) (b := false) (t := ()) (fun k hk => by
    simp only [spec_DeviceOK.s0, decide_eq_true (show (k : Int) < (d.Sure.length : Int) by omega), cond_true, if_pos (show (0 : Int) ≤ (k : Int) ∧ (k : Int) < (d.Sure.length : Int) by omega), Int.toNat_natCast, not_gt]
    rw [w64_id (by omega) (by omega)]
    cases decide (((d.Sure.getD k ByteArray.empty).size : Int) ≤ 700) <;> rfl) (by
    simp only [spec_DeviceOK.s0]
    rw [decide_eq_false (by omega)]; rfl)
  have l2 := loopO_scan (step := fun s => spec_DeviceOK.s1 d s) (fun k => (k : Int)) d.Unsure.length (fun k => ioOK (d.Unsure.getD k z_Io)) (b := false) (t := ()) (fun k hk => by
    simp only [spec_DeviceOK.s1, decide_eq_true (show (k : Int) < (d.Unsure.length : Int) by omega), cond_true, if_pos (show (0 : Int) ≤ (k : Int) ∧ (k : Int) < (d.Unsure.length : Int) by omega), Int.toNat_natCast, not_gt, l05In_eq, Option.bind_some, ioOK]
    rw [w64_id (by omega) (by omega)]
    cases inB (d.Unsure.getD k z_Io).At 0 39 <;> cases decide (((d.Unsure.getD k z_Io).Data.size : Int) ≤ 700) <;> rfl) (by
    simp only [spec_DeviceOK.s1]
    rw [decide_eq_false (by omega)]; rfl)
  rw [show ((0 : Int)) = ((0 : Nat) : Int) from rfl, l1, l2, all_range d.Unsure z_Io ioOK, all_range d.Sure ByteArray.empty (fun t => decide ((t.size : Int) ≤ 700))]
  cases d.Sure.all (fun t => decide ((t.size : Int) ≤ 700)) <;> cases d.Unsure.all ioOK <;> rfl
theorem devOK_lens {d : S_Device} (h : devOK d = true) : d.Sure.length = 40 ∧ d.Unsure.length ≤ 60 := by
  unfold devOK at h
  simp only [Bool.and_eq_true, beq_iff_eq, decide_eq_true_eq] at h
  omega

theorem within_eq (x lo hi : Int) : impl_within.f x lo hi = some (inB x lo hi) := by
  unfold impl_within.f inB; cases decide (lo ≤ x) <;> rfl

theorem impl_RegisterOK_eq (x : S_Register) : impl_RegisterOK.f x = some (regOK x) := by
  unfold impl_RegisterOK.f regOK impl_isDigest.f impl_Register_waiting.f
  simp only [within_eq, Option.bind_some]
  cases h1 : inB x.Epoch 0 1000000 <;> cases inB x.Side 0 1 <;> cases inB x.Boot 0 1000000 <;>
    cases h2 : inB x.Count x.Epoch (if 1000000 < w64 (x.Epoch + 4) then 1000000 else w64 (x.Epoch + 4)) <;> try rfl
  all_goals
    have e : decide (w64 (x.Count - x.Epoch) > 0) = decide (x.Count > x.Epoch) := by
      rw [inB_iff] at h1 h2
      have a : w64 (x.Epoch + 4) = x.Epoch + 4 := w64_id (by omega) (by omega)
      rw [a] at h2
      have b : w64 (x.Count - x.Epoch) = x.Count - x.Epoch := w64_id (by omega) (by split at h2 <;> omega)
      rw [b, decide_eq_decide]; omega
    rw [e]
    cases (x.Base.size : Int) == 32 <;> cases (x.Tip.size : Int) == 32 <;> cases (x.Root.size : Int) == 32 <;> cases decide (x.Count > x.Epoch) <;> rfl

theorem isContent_eq (t : ByteArray) : impl_isContent.f t = some (decide ((t.size : Int) ≤ 700)) := rfl

theorem idx_slices_IndexFunc_string_string (l : List ByteArray) (q : ByteArray → Option Bool) (p : ByteArray → Bool) (h : l.length ≤ 1073741824) (hq : ∀ x, x ∈ l → q x = some (p x)) : slices_IndexFunc_string_string.f l q = some (idxOf l ByteArray.empty p) := by
  unfold slices_IndexFunc_string_string.f idxOf
  have := loopO_find (step := fun s => slices_IndexFunc_string_string.s0 l q s) (fun k => (k : Int)) l.length (fun k => p (l.getD k ByteArray.empty)) (fun k => (k : Int)) (t := ()) (fun k hk => by
    simp only [slices_IndexFunc_string_string.s0, decide_eq_true (show (k : Int) < (l.length : Int) by omega), cond_true, if_pos (show (0 : Int) ≤ (k : Int) ∧ (k : Int) < (l.length : Int) by omega), Int.toNat_natCast, hq _ (getD_mem hk _), Option.bind_some]
    rw [w64_id (by omega) (by omega)]
    cases p (l.getD k ByteArray.empty) <;> rfl) (by
    simp only [slices_IndexFunc_string_string.s0]
    rw [decide_eq_false (by omega)]; rfl)
  rw [show ((0 : Int)) = ((0 : Nat) : Int) from rfl, this]
  cases (List.range l.length).find? (fun k => p (l.getD k ByteArray.empty)) <;> rfl

theorem any_slices_ContainsFunc_string_string (l : List ByteArray) (q : ByteArray → Option Bool) (p : ByteArray → Bool) (h : l.length ≤ 1073741824) (hq : ∀ x, x ∈ l → q x = some (p x)) : slices_ContainsFunc_string_string.f l q = some (l.any p) := by
  unfold slices_ContainsFunc_string_string.f
  rw [idx_slices_IndexFunc_string_string l q p h hq, ← idxOf_any l ByteArray.empty p]
  rfl

theorem all_impl_areAll_string (l : List ByteArray) (q : ByteArray → Option Bool) (p : ByteArray → Bool) (h : l.length ≤ 1073741824) (hq : ∀ x, x ∈ l → q x = some (p x)) : impl_areAll_string.f l q = some (l.all p) := by
  unfold impl_areAll_string.f
  rw [any_slices_ContainsFunc_string_string l _ (fun x => !p x) h (fun x hx => by unfold impl_areAll_string__c1.f; rw [hq x hx]; rfl)]
  simp only [Option.bind_some, List.any_eq_not_all_not, Bool.not_not]

theorem idx_slices_IndexFunc_impl_Io_impl_Io (l : List S_Io) (q : S_Io → Option Bool) (p : S_Io → Bool) (h : l.length ≤ 1073741824) (hq : ∀ x, x ∈ l → q x = some (p x)) : slices_IndexFunc_impl_Io_impl_Io.f l q = some (idxOf l z_Io p) := by
  unfold slices_IndexFunc_impl_Io_impl_Io.f idxOf
  have := loopO_find (step := fun s => slices_IndexFunc_impl_Io_impl_Io.s0 l q s) (fun k => (k : Int)) l.length (fun k => p (l.getD k z_Io)) (fun k => (k : Int)) (t := ()) (fun k hk => by
    simp only [slices_IndexFunc_impl_Io_impl_Io.s0, decide_eq_true (show (k : Int) < (l.length : Int) by omega), cond_true, if_pos (show (0 : Int) ≤ (k : Int) ∧ (k : Int) < (l.length : Int) by omega), Int.toNat_natCast, hq _ (getD_mem hk _), Option.bind_some]
    rw [w64_id (by omega) (by omega)]
    cases p (l.getD k z_Io) <;> rfl) (by
    simp only [slices_IndexFunc_impl_Io_impl_Io.s0]
    rw [decide_eq_false (by omega)]; rfl)
  rw [show ((0 : Int)) = ((0 : Nat) : Int) from rfl, this]
  cases (List.range l.length).find? (fun k => p (l.getD k z_Io)) <;> rfl

theorem any_slices_ContainsFunc_impl_Io_impl_Io (l : List S_Io) (q : S_Io → Option Bool) (p : S_Io → Bool) (h : l.length ≤ 1073741824) (hq : ∀ x, x ∈ l → q x = some (p x)) : slices_ContainsFunc_impl_Io_impl_Io.f l q = some (l.any p) := by
  unfold slices_ContainsFunc_impl_Io_impl_Io.f
  rw [idx_slices_IndexFunc_impl_Io_impl_Io l q p h hq, ← idxOf_any l z_Io p]
  rfl

theorem all_impl_areAll_impl_Io (l : List S_Io) (q : S_Io → Option Bool) (p : S_Io → Bool) (h : l.length ≤ 1073741824) (hq : ∀ x, x ∈ l → q x = some (p x)) : impl_areAll_impl_Io.f l q = some (l.all p) := by
  unfold impl_areAll_impl_Io.f
  rw [any_slices_ContainsFunc_impl_Io_impl_Io l _ (fun x => !p x) h (fun x hx => by unfold impl_areAll_impl_Io__c1.f; rw [hq x hx]; rfl)]
  simp only [Option.bind_some, List.any_eq_not_all_not, Bool.not_not]

theorem isSector_eq (x : Int) : impl_isSector.f x = some (inB x 0 39) := by unfold impl_isSector.f; rw [within_eq]; rfl

theorem impl_DeviceOK_eq (d : S_Device) (h : d.Sure.length ≤ 1073741824 ∧ d.Unsure.length ≤ 1073741824) : impl_DeviceOK.f d = some (devOK d) := by
  unfold impl_DeviceOK.f devOK
  rw [all_impl_areAll_string d.Sure _ (fun t => decide ((t.size : Int) ≤ 700)) h.1 (fun x _ => isContent_eq x),
    all_impl_areAll_impl_Io d.Unsure _ ioOK h.2 (fun x _ => by
      unfold impl_DeviceOK_c1.f ioOK
      simp only [isSector_eq, isContent_eq, Option.bind_some]
      cases inB x.At 0 39 <;> rfl)]
  simp only [Option.bind_some]
  cases ((d.Sure.length : Int) == 40) <;> cases decide ((d.Unsure.length : Int) ≤ 60) <;> cases d.Sure.all (fun t => decide ((t.size : Int) ≤ 700)) <;> cases d.Unsure.all ioOK <;> rfl

theorem storeOK_eq (a : S_Store) (h : a.Device.Sure.length ≤ 1073741824 ∧ a.Device.Unsure.length ≤ 1073741824) : impl_StoreOK.f a = spec_StoreOK.f a ∧ ∃ r, spec_StoreOK.f a = some r := by
  unfold impl_StoreOK.f spec_StoreOK.f impl_isSure.f
  simp only [impl_DeviceOK_eq a.Device h, spec_DeviceOK_eq, spec_RegisterOK_eq, impl_RegisterOK_eq, Option.bind_some]
  cases ((a.Key.size : Int) == 32)
  · first | exact ⟨rfl, _, rfl⟩ | exact ⟨trivial, _, rfl⟩
  cases regOK a.Reg
  · first | exact ⟨rfl, _, rfl⟩ | exact ⟨trivial, _, rfl⟩
  cases devOK a.Device
  · first | exact ⟨rfl, _, rfl⟩ | exact ⟨trivial, _, rfl⟩
  simp only [cond_true, Option.bind_some]
  cases ((a.Device.Unsure.length : Int) == 0)
  · first | exact ⟨rfl, _, rfl⟩ | exact ⟨trivial, _, rfl⟩
  cases a.Up <;> first | exact ⟨rfl, _, rfl⟩ | exact ⟨trivial, _, rfl⟩

end Go.Proofs.Ytmafglodgnbajaa
