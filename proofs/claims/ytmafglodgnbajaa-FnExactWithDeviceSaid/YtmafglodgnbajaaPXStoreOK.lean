/- What the models of these functions come to. -/
import Derived.Test.YtmafglodgnbajaaP0
import Derived.Test.YtmafglodgnbajaaGXStoreOKn1
namespace Go.Proofs.Ytmafglodgnbajaa
open Go Go.Z Go.Proofs Go.MuLone Go.ChangeShapes Go.WideShapes Go.ChangeAt Go.RowKit
set_option linter.unusedVariables false
set_option linter.unusedSimpArgs false
theorem ok_laws_szStringS (x : List ByteArray) (n : Int) (h0 : 0 ≤ n) (h1 : n ≤ 1048576) (g : (x.length ≤ maxLen ∧ ∀ y : ByteArray, y ∈ x → (y.size ≤ maxLen))) : ∃ m, laws_szStringS.f x n = some m ∧ (m < 0 ∨ (0 ≤ m ∧ m ≤ n ∧ (x.length ≤ 1048576 ∧ ∀ z0 : ByteArray, z0 ∈ x → (z0.size ≤ 1048576)))) := by
  have hM : maxLen = 9223372036854775807 := rfl
  have g1 := g.1
  unfold laws_szStringS.f
  rw [w64_id (x := n - (x.length : Int)) (by omega) (by omega)]
  by_cases h : n - (x.length : Int) < 0
  · rw [decide_eq_true h]; exact ⟨_, rfl, .inl (by decide)⟩
  rw [decide_eq_false h]; simp only [cond_false]
  obtain ⟨r, e1, e2⟩ := loopO_wf (step := fun s : Int × Int => laws_szStringS.s0 x s.1 s.2) (fun s => ∃ k : Nat, ∃ m : Int, s = (m, (k : Int)) ∧ k ≤ x.length ∧ 0 ≤ m ∧ m ≤ n ∧ ∀ j, j < k → ((x.getD j ByteArray.empty).size ≤ 1048576))
    (fun r : Ex Int Int => match r with | .out m => 0 ≤ m ∧ m ≤ n ∧ ∀ j, j < x.length → ((x.getD j ByteArray.empty).size ≤ 1048576) | .ret m => m < 0) (fun s => x.length - s.2.toNat) (fun s hI => by
      obtain ⟨k, m, rfl, hk, m0, m1, hj⟩ := hI
      by_cases hlt : k < x.length
      · have gk := g.2 (x.getD k ByteArray.empty) (getD_mem hlt _)
        simp only [laws_szStringS.s0, decide_eq_true (show (k : Int) < (x.length : Int) by omega), cond_true, if_pos (show (0 : Int) ≤ (k : Int) ∧ (k : Int) < (x.length : Int) by omega), Int.toNat_natCast]
        have hw : w64 (m - ((x.getD k ByteArray.empty).size : Int)) = m - ((x.getD k ByteArray.empty).size : Int) := w64_id (by omega) (by omega)
        simp only [hw]
        by_cases c : m - ((x.getD k ByteArray.empty).size : Int) < 0
        · rw [decide_eq_true c]; exact .inr ⟨.ret (-1), rfl, (by decide : (-1 : Int) < 0)⟩
        · rw [decide_eq_false c]
          simp only [w64_id (x := (k : Int) + 1) (by omega) (by omega)]
          refine .inl ⟨(m - ((x.getD k ByteArray.empty).size : Int), ((k + 1 : Nat) : Int)), rfl, ⟨k + 1, _, rfl, by omega, by omega, by omega, fun j hj2 => ?_⟩, by simp only [Int.toNat_natCast]; omega⟩
          rcases Nat.lt_or_ge j k with h | h
          · exact hj j h
          · have : j = k := by omega
            rw [this]; omega
      · refine .inr ⟨.out m, ?_, m0, m1, fun j hj2 => hj j (by omega)⟩
        simp only [laws_szStringS.s0]; rw [decide_eq_false (by omega)]; rfl) _ (n - (x.length : Int), 0) (Nat.le_refl _) ⟨0, _, rfl, Nat.zero_le _, by omega, by omega, fun j hj => by omega⟩
  rw [e1]
  cases r with
  | out m => exact ⟨m, rfl, .inr ⟨e2.1, e2.2.1, by omega, all_get e2.2.2⟩⟩
  | ret m => exact ⟨m, rfl, .inl e2⟩

theorem ok_laws_szIo (x : S_Io) (n : Int) (h0 : 0 ≤ n) (h1 : n ≤ 1048576) (g : (((Lit.int .i64 x.At).wf = true) ∧ (x.Data.size ≤ maxLen))) : ∃ m, laws_szIo.f x n = some m ∧ (m < 0 ∨ (0 ≤ m ∧ m ≤ n ∧ ((x.Data.size ≤ 1048576)))) := by
  have hM : maxLen = 9223372036854775807 := rfl
  unfold laws_szIo.f
  have g1 := g.2
  rw [w64_id (x := n - (x.Data.size : Int)) (by omega) (by omega)]
  by_cases c1 : n - (x.Data.size : Int) < 0
  · rw [decide_eq_true c1]; exact ⟨_, rfl, .inl (by decide)⟩
  rw [decide_eq_false c1]; simp only [cond_false]
  exact ⟨_, rfl, .inr ⟨by omega, by omega, by omega⟩⟩

theorem ok_laws_szIoS (x : List S_Io) (n : Int) (h0 : 0 ≤ n) (h1 : n ≤ 1048576) (g : (x.length ≤ maxLen ∧ ∀ y : S_Io, y ∈ x → (((Lit.int .i64 y.At).wf = true) ∧ (y.Data.size ≤ maxLen)))) : ∃ m, laws_szIoS.f x n = some m ∧ (m < 0 ∨ (0 ≤ m ∧ m ≤ n ∧ (x.length ≤ 1048576 ∧ ∀ z0 : S_Io, z0 ∈ x → ((z0.Data.size ≤ 1048576))))) := by
  have hM : maxLen = 9223372036854775807 := rfl
  have g1 := g.1
  unfold laws_szIoS.f
  rw [w64_id (x := n - (x.length : Int)) (by omega) (by omega)]
  by_cases h : n - (x.length : Int) < 0
  · rw [decide_eq_true h]; exact ⟨_, rfl, .inl (by decide)⟩
  rw [decide_eq_false h]; simp only [cond_false]
  obtain ⟨r, e1, e2⟩ := loopO_wf (step := fun s : Int × Int => laws_szIoS.s0 x s.1 s.2) (fun s => ∃ k : Nat, ∃ m : Int, s = (m, (k : Int)) ∧ k ≤ x.length ∧ 0 ≤ m ∧ m ≤ n ∧ ∀ j, j < k → ((((x.getD j z_Io).Data).size ≤ 1048576)))
    (fun r : Ex Int Int => match r with | .out m => 0 ≤ m ∧ m ≤ n ∧ ∀ j, j < x.length → ((((x.getD j z_Io).Data).size ≤ 1048576)) | .ret m => m < 0) (fun s => x.length - s.2.toNat) (fun s hI => by
      obtain ⟨k, m, rfl, hk, m0, m1, hj⟩ := hI
      by_cases hlt : k < x.length
      · have gk := g.2 (x.getD k z_Io) (getD_mem hlt _)
        simp only [laws_szIoS.s0, decide_eq_true (show (k : Int) < (x.length : Int) by omega), cond_true, if_pos (show (0 : Int) ≤ (k : Int) ∧ (k : Int) < (x.length : Int) by omega), Int.toNat_natCast]
        obtain ⟨m2, e3, h3⟩ := ok_laws_szIo (x.getD k z_Io) m m0 (by omega) gk
        rw [e3]; simp only [Option.bind_some]
        rcases h3 with h3 | ⟨h3, h4, h5⟩
        · rw [decide_eq_true h3]; exact .inr ⟨.ret (-1), rfl, (by decide : (-1 : Int) < 0)⟩
        · rw [decide_eq_false (show ¬ m2 < 0 by omega), w64_id (x := (k : Int) + 1) (by omega) (by omega)]
          refine .inl ⟨(m2, ((k + 1 : Nat) : Int)), rfl, ⟨k + 1, _, rfl, by omega, h3, by omega, fun j hj2 => ?_⟩, by simp only [Int.toNat_natCast]; omega⟩
          rcases Nat.lt_or_ge j k with h | h
          · exact hj j h
          · have : j = k := by omega
            rw [this]; exact h5
      · refine .inr ⟨.out m, ?_, m0, m1, fun j hj2 => hj j (by omega)⟩
        simp only [laws_szIoS.s0]; rw [decide_eq_false (by omega)]; rfl) _ (n - (x.length : Int), 0) (Nat.le_refl _) ⟨0, _, rfl, Nat.zero_le _, by omega, by omega, fun j hj => by omega⟩
  rw [e1]
  cases r with
  | out m => exact ⟨m, rfl, .inr ⟨e2.1, e2.2.1, by omega, all_get e2.2.2⟩⟩
  | ret m => exact ⟨m, rfl, .inl e2⟩

theorem ok_laws_szDevice (x : S_Device) (n : Int) (h0 : 0 ≤ n) (h1 : n ≤ 1048576) (g : ((x.Sure.length ≤ maxLen ∧ ∀ y : ByteArray, y ∈ x.Sure → (y.size ≤ maxLen)) ∧ (x.Unsure.length ≤ maxLen ∧ ∀ y : S_Io, y ∈ x.Unsure → (((Lit.int .i64 y.At).wf = true) ∧ (y.Data.size ≤ maxLen))))) : ∃ m, laws_szDevice.f x n = some m ∧ (m < 0 ∨ (0 ≤ m ∧ m ≤ n ∧ ((x.Sure.length ≤ 1048576 ∧ ∀ z0 : ByteArray, z0 ∈ x.Sure → (z0.size ≤ 1048576)) ∧ (x.Unsure.length ≤ 1048576 ∧ ∀ z0 : S_Io, z0 ∈ x.Unsure → ((z0.Data.size ≤ 1048576)))))) := by
  have hM : maxLen = 9223372036854775807 := rfl
  unfold laws_szDevice.f
  obtain ⟨m1, e1, c1⟩ := ok_laws_szStringS x.Sure n (by omega) (by omega) g.1
  rw [e1]; simp only [Option.bind_some]
  rcases c1 with c1 | ⟨p1, q1, r1⟩
  · rw [decide_eq_true c1]; exact ⟨_, rfl, .inl (by decide)⟩
  rw [decide_eq_false (show ¬ m1 < 0 by omega)]; simp only [cond_false]
  obtain ⟨m2, e2, c2⟩ := ok_laws_szIoS x.Unsure m1 (by omega) (by omega) g.2
  rw [e2]; simp only [Option.bind_some]
  rcases c2 with c2 | ⟨p2, q2, r2⟩
  · rw [decide_eq_true c2]; exact ⟨_, rfl, .inl (by decide)⟩
  rw [decide_eq_false (show ¬ m2 < 0 by omega)]; simp only [cond_false]
  exact ⟨_, rfl, .inr ⟨by omega, by omega, r1, r2⟩⟩

theorem ok_laws_szRegister (x : S_Register) (n : Int) (h0 : 0 ≤ n) (h1 : n ≤ 1048576) (g : (((Lit.int .i64 x.Epoch).wf = true) ∧ ((Lit.int .i64 x.Side).wf = true) ∧ ((Lit.int .i64 x.Count).wf = true) ∧ ((Lit.int .i64 x.Boot).wf = true) ∧ (x.Base.size ≤ maxLen) ∧ (x.Tip.size ≤ maxLen) ∧ (x.Root.size ≤ maxLen))) : ∃ m, laws_szRegister.f x n = some m ∧ (m < 0 ∨ (0 ≤ m ∧ m ≤ n ∧ ((x.Base.size ≤ 1048576) ∧ (x.Tip.size ≤ 1048576) ∧ (x.Root.size ≤ 1048576)))) := by
  have hM : maxLen = 9223372036854775807 := rfl
  unfold laws_szRegister.f
  have g1 := g.2.2.2.2.1
  rw [w64_id (x := n - (x.Base.size : Int)) (by omega) (by omega)]
  by_cases c1 : n - (x.Base.size : Int) < 0
  · rw [decide_eq_true c1]; exact ⟨_, rfl, .inl (by decide)⟩
  rw [decide_eq_false c1]; simp only [cond_false]
  have g2 := g.2.2.2.2.2.1
  rw [w64_id (x := (n - (x.Base.size : Int)) - (x.Tip.size : Int)) (by omega) (by omega)]
  by_cases c2 : (n - (x.Base.size : Int)) - (x.Tip.size : Int) < 0
  · rw [decide_eq_true c2]; exact ⟨_, rfl, .inl (by decide)⟩
  rw [decide_eq_false c2]; simp only [cond_false]
  have g3 := g.2.2.2.2.2.2
  rw [w64_id (x := ((n - (x.Base.size : Int)) - (x.Tip.size : Int)) - (x.Root.size : Int)) (by omega) (by omega)]
  by_cases c3 : ((n - (x.Base.size : Int)) - (x.Tip.size : Int)) - (x.Root.size : Int) < 0
  · rw [decide_eq_true c3]; exact ⟨_, rfl, .inl (by decide)⟩
  rw [decide_eq_false c3]; simp only [cond_false]
  exact ⟨_, rfl, .inr ⟨by omega, by omega, by omega, by omega, by omega⟩⟩


theorem ok_laws_szStore (x : S_Store) (n : Int) (h0 : 0 ≤ n) (h1 : n ≤ 1048576) (g : ((x.Key.size ≤ maxLen) ∧ (((Lit.int .i64 x.Reg.Epoch).wf = true) ∧ ((Lit.int .i64 x.Reg.Side).wf = true) ∧ ((Lit.int .i64 x.Reg.Count).wf = true) ∧ ((Lit.int .i64 x.Reg.Boot).wf = true) ∧ (x.Reg.Base.size ≤ maxLen) ∧ (x.Reg.Tip.size ≤ maxLen) ∧ (x.Reg.Root.size ≤ maxLen)) ∧ ((x.Device.Sure.length ≤ maxLen ∧ ∀ y : ByteArray, y ∈ x.Device.Sure → (y.size ≤ maxLen)) ∧ (x.Device.Unsure.length ≤ maxLen ∧ ∀ y : S_Io, y ∈ x.Device.Unsure → (((Lit.int .i64 y.At).wf = true) ∧ (y.Data.size ≤ maxLen)))) ∧ True ∧ True)) : ∃ m, laws_szStore.f x n = some m ∧ (m < 0 ∨ (0 ≤ m ∧ m ≤ n ∧ ((x.Key.size ≤ 1048576) ∧ ((x.Reg.Base.size ≤ 1048576) ∧ (x.Reg.Tip.size ≤ 1048576) ∧ (x.Reg.Root.size ≤ 1048576)) ∧ ((x.Device.Sure.length ≤ 1048576 ∧ ∀ z0 : ByteArray, z0 ∈ x.Device.Sure → (z0.size ≤ 1048576)) ∧ (x.Device.Unsure.length ≤ 1048576 ∧ ∀ z0 : S_Io, z0 ∈ x.Device.Unsure → ((z0.Data.size ≤ 1048576))))))) := by
  have hM : maxLen = 9223372036854775807 := rfl
  unfold laws_szStore.f
  have g1 := g.1
  rw [w64_id (x := n - (x.Key.size : Int)) (by omega) (by omega)]
  by_cases c1 : n - (x.Key.size : Int) < 0
  · rw [decide_eq_true c1]; exact ⟨_, rfl, .inl (by decide)⟩
  rw [decide_eq_false c1]; simp only [cond_false]
  obtain ⟨m2, e2, c2⟩ := ok_laws_szRegister x.Reg (n - (x.Key.size : Int)) (by omega) (by omega) g.2.1
  rw [e2]; simp only [Option.bind_some]
  rcases c2 with c2 | ⟨p2, q2, r2⟩
  · rw [decide_eq_true c2]; exact ⟨_, rfl, .inl (by decide)⟩
  rw [decide_eq_false (show ¬ m2 < 0 by omega)]; simp only [cond_false]
  obtain ⟨m3, e3, c3⟩ := ok_laws_szDevice x.Device m2 (by omega) (by omega) g.2.2.1
  rw [e3]; simp only [Option.bind_some]
  rcases c3 with c3 | ⟨p3, q3, r3⟩
  · rw [decide_eq_true c3]; exact ⟨_, rfl, .inl (by decide)⟩
  rw [decide_eq_false (show ¬ m3 < 0 by omega)]; simp only [cond_false]
  exact ⟨_, rfl, .inr ⟨by omega, by omega, by omega, r2, r3⟩⟩

theorem id_laws_toStringS (x : List ByteArray) (h : x.length ≤ 1048576 ∧ ∀ z0 : ByteArray, z0 ∈ x → (z0.size ≤ 1048576)) : laws_toStringS.f x = some x := by
  have hlen : x.length ≤ 1048576 := h.1
  unfold laws_toStringS.f
  rw [if_pos (by omega)]
  have h0 : ((x.length : Int)).toNat = x.length := by simp
  rw [h0, ← filled_zero x ByteArray.empty]
  have := loopO_run (step := fun s => laws_toStringS.s0 x s.1 s.2) (fun k => (filled x ByteArray.empty k, (k : Int))) x.length (r := .out x) (fun k hk => by
    have hl := filled_len x ByteArray.empty k (by omega)
    simp only [laws_toStringS.s0, decide_eq_true (show (k : Int) < (x.length : Int) by omega), cond_true, if_pos (show (0 : Int) ≤ (k : Int) ∧ (k : Int) < (x.length : Int) by omega), Option.bind_some, if_pos (show (0 : Int) ≤ (k : Int) ∧ (k : Int) < ((filled x ByteArray.empty k).length : Int) by omega), Int.toNat_natCast]
    rw [w64_id (by omega) (by omega), filled_set x ByteArray.empty k hk]
    rfl) (by
    simp only [laws_toStringS.s0, filled_all]
    rw [decide_eq_false (by omega)]; rfl)
  have this2 : loopO (fun s => laws_toStringS.s0 x s.1 s.2) (filled x ByteArray.empty 0, 0) = some (.out x) := this
  rw [this2]
  rfl

theorem id_laws_toIo (x : S_Io) (h : (x.Data.size ≤ 1048576)) : laws_toIo.f x = some x := by
  unfold laws_toIo.f
  rfl

theorem id_laws_toIoS (x : List S_Io) (h : x.length ≤ 1048576 ∧ ∀ z0 : S_Io, z0 ∈ x → ((z0.Data.size ≤ 1048576))) : laws_toIoS.f x = some x := by
  have hlen : x.length ≤ 1048576 := h.1
  unfold laws_toIoS.f
  rw [if_pos (by omega)]
  have h0 : ((x.length : Int)).toNat = x.length := by simp
  rw [h0, ← filled_zero x z_Io]
  have := loopO_run (step := fun s => laws_toIoS.s0 x s.1 s.2) (fun k => (filled x z_Io k, (k : Int))) x.length (r := .out x) (fun k hk => by
    have hl := filled_len x z_Io k (by omega)
    simp only [laws_toIoS.s0, id_laws_toIo (x.getD k z_Io) (h.2 _ (getD_mem hk _)), decide_eq_true (show (k : Int) < (x.length : Int) by omega), cond_true, if_pos (show (0 : Int) ≤ (k : Int) ∧ (k : Int) < (x.length : Int) by omega), Option.bind_some, if_pos (show (0 : Int) ≤ (k : Int) ∧ (k : Int) < ((filled x z_Io k).length : Int) by omega), Int.toNat_natCast]
    rw [w64_id (by omega) (by omega), filled_set x z_Io k hk]
    rfl) (by
    simp only [laws_toIoS.s0, filled_all]
    rw [decide_eq_false (by omega)]; rfl)
  have this2 : loopO (fun s => laws_toIoS.s0 x s.1 s.2) (filled x z_Io 0, 0) = some (.out x) := this
  rw [this2]
  rfl

theorem id_laws_toDevice (x : S_Device) (h : (x.Sure.length ≤ 1048576 ∧ ∀ z0 : ByteArray, z0 ∈ x.Sure → (z0.size ≤ 1048576)) ∧ (x.Unsure.length ≤ 1048576 ∧ ∀ z0 : S_Io, z0 ∈ x.Unsure → ((z0.Data.size ≤ 1048576)))) : laws_toDevice.f x = some x := by
  unfold laws_toDevice.f
  simp only [id_laws_toStringS x.Sure h.1, id_laws_toIoS x.Unsure h.2, Option.bind_some]

theorem id_laws_toRegister (x : S_Register) (h : (x.Base.size ≤ 1048576) ∧ (x.Tip.size ≤ 1048576) ∧ (x.Root.size ≤ 1048576)) : laws_toRegister.f x = some x := by
  unfold laws_toRegister.f
  rfl

theorem id_laws_toStore (x : S_Store) (h : (x.Key.size ≤ 1048576) ∧ ((x.Reg.Base.size ≤ 1048576) ∧ (x.Reg.Tip.size ≤ 1048576) ∧ (x.Reg.Root.size ≤ 1048576)) ∧ ((x.Device.Sure.length ≤ 1048576 ∧ ∀ z0 : ByteArray, z0 ∈ x.Device.Sure → (z0.size ≤ 1048576)) ∧ (x.Device.Unsure.length ≤ 1048576 ∧ ∀ z0 : S_Io, z0 ∈ x.Device.Unsure → ((z0.Data.size ≤ 1048576))))) : laws_toStore.f x = some x := by
  unfold laws_toStore.f
  simp only [id_laws_toRegister x.Reg h.2.1, id_laws_toDevice x.Device h.2.2, Option.bind_some]

theorem refl_laws_eqStringS (x : List ByteArray) (h : x.length ≤ 1048576 ∧ ∀ z0 : ByteArray, z0 ∈ x → (z0.size ≤ 1048576)) : laws_eqStringS.f x x = some true := by
  have hlen : x.length ≤ 1048576 := h.1
  unfold laws_eqStringS.f
  rw [show ((x.length : Int) != (x.length : Int)) = false from by simp]
  have := loopO_run (step := fun s => laws_eqStringS.s0 x x s) (fun k => (k : Int)) x.length (r := .out ()) (fun k hk => by
    simp only [laws_eqStringS.s0, decide_eq_true (show (k : Int) < (x.length : Int) by omega), cond_true, if_pos (show (0 : Int) ≤ (k : Int) ∧ (k : Int) < (x.length : Int) by omega), Int.toNat_natCast, bne_self_eq_false, beq_self_eq_true, Bool.not_true, cond_false, Option.bind_some]
    rw [w64_id (by omega) (by omega)]
    rfl) (by
    simp only [laws_eqStringS.s0]
    rw [decide_eq_false (by omega)]; rfl)
  rw [show ((0 : Int)) = ((0 : Nat) : Int) from rfl, this]
  rfl

theorem reflL_laws_eqStringS (x : List ByteArray) (h : x.length ≤ 1048576) : laws_eqStringS.f x x = some true := by
  have hlen : x.length ≤ 1048576 := h
  unfold laws_eqStringS.f
  rw [show ((x.length : Int) != (x.length : Int)) = false from by simp]
  have := loopO_run (step := fun s => laws_eqStringS.s0 x x s) (fun k => (k : Int)) x.length (r := .out ()) (fun k hk => by
    simp only [laws_eqStringS.s0, decide_eq_true (show (k : Int) < (x.length : Int) by omega), cond_true, if_pos (show (0 : Int) ≤ (k : Int) ∧ (k : Int) < (x.length : Int) by omega), Int.toNat_natCast, bne_self_eq_false, beq_self_eq_true, bs_self, Bool.not_true, cond_false, Option.bind_some]
    rw [w64_id (by omega) (by omega)]
    rfl) (by
    simp only [laws_eqStringS.s0]
    rw [decide_eq_false (by omega)]; rfl)
  rw [show ((0 : Int)) = ((0 : Nat) : Int) from rfl, this]
  rfl

theorem refl_laws_eqIo (x : S_Io) (h : (x.Data.size ≤ 1048576)) : laws_eqIo.f x x = some true := by
  unfold laws_eqIo.f
  simp only [bne_self_eq_false, beq_self_eq_true, Bool.not_true, cond_false, Option.bind_some]

theorem reflF_laws_eqIo (x : S_Io) : laws_eqIo.f x x = some true := by
  unfold laws_eqIo.f
  simp only [bne_self_eq_false, beq_self_eq_true, bs_self, Bool.not_true, cond_false, Option.bind_some]

theorem refl_laws_eqIoS (x : List S_Io) (h : x.length ≤ 1048576 ∧ ∀ z0 : S_Io, z0 ∈ x → ((z0.Data.size ≤ 1048576))) : laws_eqIoS.f x x = some true := by
  have hlen : x.length ≤ 1048576 := h.1
  unfold laws_eqIoS.f
  rw [show ((x.length : Int) != (x.length : Int)) = false from by simp]
  have := loopO_run (step := fun s => laws_eqIoS.s0 x x s) (fun k => (k : Int)) x.length (r := .out ()) (fun k hk => by
    simp only [laws_eqIoS.s0, decide_eq_true (show (k : Int) < (x.length : Int) by omega), cond_true, if_pos (show (0 : Int) ≤ (k : Int) ∧ (k : Int) < (x.length : Int) by omega), Int.toNat_natCast, refl_laws_eqIo (x.getD k z_Io) (h.2 _ (getD_mem hk _)), bne_self_eq_false, beq_self_eq_true, Bool.not_true, cond_false, Option.bind_some]
    rw [w64_id (by omega) (by omega)]
    rfl) (by
    simp only [laws_eqIoS.s0]
    rw [decide_eq_false (by omega)]; rfl)
  rw [show ((0 : Int)) = ((0 : Nat) : Int) from rfl, this]
  rfl

theorem reflL_laws_eqIoS (x : List S_Io) (h : x.length ≤ 1048576) : laws_eqIoS.f x x = some true := by
  have hlen : x.length ≤ 1048576 := h
  unfold laws_eqIoS.f
  rw [show ((x.length : Int) != (x.length : Int)) = false from by simp]
  have := loopO_run (step := fun s => laws_eqIoS.s0 x x s) (fun k => (k : Int)) x.length (r := .out ()) (fun k hk => by
    simp only [laws_eqIoS.s0, decide_eq_true (show (k : Int) < (x.length : Int) by omega), cond_true, if_pos (show (0 : Int) ≤ (k : Int) ∧ (k : Int) < (x.length : Int) by omega), Int.toNat_natCast, reflF_laws_eqIo (x.getD k z_Io), bne_self_eq_false, beq_self_eq_true, bs_self, Bool.not_true, cond_false, Option.bind_some]
    rw [w64_id (by omega) (by omega)]
    rfl) (by
    simp only [laws_eqIoS.s0]
    rw [decide_eq_false (by omega)]; rfl)
  rw [show ((0 : Int)) = ((0 : Nat) : Int) from rfl, this]
  rfl

theorem refl_laws_eqDevice (x : S_Device) (h : (x.Sure.length ≤ 1048576 ∧ ∀ z0 : ByteArray, z0 ∈ x.Sure → (z0.size ≤ 1048576)) ∧ (x.Unsure.length ≤ 1048576 ∧ ∀ z0 : S_Io, z0 ∈ x.Unsure → ((z0.Data.size ≤ 1048576)))) : laws_eqDevice.f x x = some true := by
  unfold laws_eqDevice.f
  simp only [refl_laws_eqStringS x.Sure h.1, refl_laws_eqIoS x.Unsure h.2, bne_self_eq_false, beq_self_eq_true, Bool.not_true, cond_false, Option.bind_some]

theorem reflL_laws_eqDevice (x : S_Device) (h : (x.Sure.length ≤ 1048576) ∧ (x.Unsure.length ≤ 1048576)) : laws_eqDevice.f x x = some true := by
  unfold laws_eqDevice.f
  simp only [reflL_laws_eqStringS x.Sure h.1, reflL_laws_eqIoS x.Unsure h.2, bne_self_eq_false, beq_self_eq_true, bs_self, Bool.not_true, cond_false, Option.bind_some]

theorem refl_laws_eqRegister (x : S_Register) (h : (x.Base.size ≤ 1048576) ∧ (x.Tip.size ≤ 1048576) ∧ (x.Root.size ≤ 1048576)) : laws_eqRegister.f x x = some true := by
  unfold laws_eqRegister.f
  simp only [bne_self_eq_false, beq_self_eq_true, Bool.not_true, cond_false, Option.bind_some]

theorem reflF_laws_eqRegister (x : S_Register) : laws_eqRegister.f x x = some true := by
  unfold laws_eqRegister.f
  simp only [bne_self_eq_false, beq_self_eq_true, bs_self, Bool.not_true, cond_false, Option.bind_some]

theorem refl_laws_eqStore (x : S_Store) (h : (x.Key.size ≤ 1048576) ∧ ((x.Reg.Base.size ≤ 1048576) ∧ (x.Reg.Tip.size ≤ 1048576) ∧ (x.Reg.Root.size ≤ 1048576)) ∧ ((x.Device.Sure.length ≤ 1048576 ∧ ∀ z0 : ByteArray, z0 ∈ x.Device.Sure → (z0.size ≤ 1048576)) ∧ (x.Device.Unsure.length ≤ 1048576 ∧ ∀ z0 : S_Io, z0 ∈ x.Device.Unsure → ((z0.Data.size ≤ 1048576))))) : laws_eqStore.f x x = some true := by
  unfold laws_eqStore.f
  simp only [refl_laws_eqRegister x.Reg h.2.1, refl_laws_eqDevice x.Device h.2.2, bne_self_eq_false, beq_self_eq_true, Bool.not_true, cond_false, Option.bind_some]

theorem reflL_laws_eqStore (x : S_Store) (h : ((x.Device.Sure.length ≤ 1048576) ∧ (x.Device.Unsure.length ≤ 1048576))) : laws_eqStore.f x x = some true := by
  unfold laws_eqStore.f
  simp only [reflF_laws_eqRegister x.Reg, reflL_laws_eqDevice x.Device h, bne_self_eq_false, beq_self_eq_true, bs_self, Bool.not_true, cond_false, Option.bind_some]

theorem l01In_eq (x lo hi : Int) : spec_l01In.f x lo hi = some (inB x lo hi) := by
  unfold spec_l01In.f inB; cases decide (lo ≤ x) <;> rfl

def regOK (x : S_Register) : Bool :=
  inB x.Epoch 0 1000000 && inB x.Side 0 1 && inB x.Count x.Epoch (if 1000000 < w64 (x.Epoch + 4) then 1000000 else w64 (x.Epoch + 4)) && inB x.Boot 0 1000000 &&
    (x.Base.size : Int) == 32 && (x.Tip.size : Int) == 32 && (x.Root.size : Int) == 32 && (decide (x.Count > x.Epoch) || x.Base.toList == x.Tip.toList)
theorem spec_RegisterOK_eq (x : S_Register) : spec_RegisterOK.f x = some (regOK x) := by
  unfold spec_RegisterOK.f regOK
  simp only [l01In_eq, Option.bind_some]
  cases inB x.Epoch 0 1000000 <;> cases inB x.Side 0 1 <;> cases inB x.Boot 0 1000000 <;>
    cases inB x.Count x.Epoch (if 1000000 < w64 (x.Epoch + 4) then 1000000 else w64 (x.Epoch + 4)) <;> try rfl
  all_goals
    cases (x.Base.size : Int) == 32 <;> cases (x.Tip.size : Int) == 32 <;> cases (x.Root.size : Int) == 32 <;> cases decide (x.Count > x.Epoch) <;> rfl

theorem l05In_eq (x : Int) : spec_l05In.f x = some (inB x 0 39) := by unfold spec_l05In.f; rw [l01In_eq]; rfl

def ioOK (x : S_Io) : Bool := inB x.At 0 39 && decide ((x.Data.size : Int) ≤ 700)
def devOK (d : S_Device) : Bool := ((d.Sure.length : Int) == 40) && decide ((d.Unsure.length : Int) ≤ 60) && d.Sure.all (fun t => decide ((t.size : Int) ≤ 700)) && d.Unsure.all ioOK
theorem not_gt (x y : Int) : decide (x > y) = !decide (x ≤ y) := by
  by_cases h : x ≤ y
  · rw [decide_eq_true h, decide_eq_false (by omega)]; rfl
  · rw [decide_eq_false h, decide_eq_true (by omega)]; rfl
theorem spec_DeviceOK_eq (d : S_Device) : spec_DeviceOK.f d = some (devOK d) := by
  unfold spec_DeviceOK.f devOK
  rw [not_gt]
  simp only [bne]
  by_cases h1 : (d.Sure.length : Int) = 40
  case neg =>
    have : ((d.Sure.length : Int) == 40) = false := by simpa using h1
    rw [this]; rfl
  rw [show ((d.Sure.length : Int) == 40) = true from by simpa using h1]
  by_cases h2 : (d.Unsure.length : Int) ≤ 60
  case neg => rw [decide_eq_false h2]; rfl
  rw [decide_eq_true h2]
  have l1 := loopO_scan (step := fun s => spec_DeviceOK.s0 d s) (fun k => (k : Int)) d.Sure.length (fun k => decide (((d.Sure.getD k ByteArray.empty).size : Int) ≤ 700)) (b := false) (t := ()) (fun k hk => by
    simp only [spec_DeviceOK.s0, decide_eq_true (show (k : Int) < (d.Sure.length : Int) by omega), cond_true, if_pos (show (0 : Int) ≤ (k : Int) ∧ (k : Int) < (d.Sure.length : Int) by omega), Int.toNat_natCast, not_gt]
    rw [w64_id (by omega) (by omega)]
    cases decide (((d.Sure.getD k ByteArray.empty).size : Int) ≤ 700) <;> rfl) (by
    simp only [spec_DeviceOK.s0]
    rw [decide_eq_false (by omega)]; rfl)
  have l2 := loopO_scan (step := fun s => spec_DeviceOK.s1 d s) (fun k => (k : Int)) d.Unsure.length (fun k => ioOK (d.Unsure.getD k z_Io)) (b := false) (t := ()) (fun k hk => by
    simp only [spec_DeviceOK.s1, decide_eq_true (show (k : Int) < (d.Unsure.length : Int) by omega), cond_true, if_pos (show (0 : Int) ≤ (k : Int) ∧ (k : Int) < (d.Unsure.length : Int) by omega), Int.toNat_natCast, not_gt, l05In_eq, Option.bind_some, ioOK]
    rw [w64_id (by omega) (by omega)]
    cases inB (d.Unsure.getD k z_Io).At 0 39 <;> cases decide (((d.Unsure.getD k z_Io).Data.size : Int) ≤ 700) <;> rfl) (by
    simp only [spec_DeviceOK.s1]
    rw [decide_eq_false (by omega)]; rfl)
  rw [show ((0 : Int)) = ((0 : Nat) : Int) from rfl, l1, l2, all_range d.Unsure z_Io ioOK, all_range d.Sure ByteArray.empty (fun t => decide ((t.size : Int) ≤ 700))]
  cases d.Sure.all (fun t => decide ((t.size : Int) ≤ 700)) <;> cases d.Unsure.all ioOK <;> rfl
theorem devOK_lens {d : S_Device} (h : devOK d = true) : d.Sure.length = 40 ∧ d.Unsure.length ≤ 60 := by
  unfold devOK at h
  simp only [Bool.and_eq_true, beq_iff_eq, decide_eq_true_eq] at h
  omega

theorem within_eq (x lo hi : Int) : impl_within.f x lo hi = some (inB x lo hi) := by
  unfold impl_within.f inB; cases decide (lo ≤ x) <;> rfl

theorem impl_RegisterOK_eq (x : S_Register) : impl_RegisterOK.f x = some (regOK x) := by
  unfold impl_RegisterOK.f regOK impl_isDigest.f impl_Register_waiting.f
  simp only [within_eq, Option.bind_some]
  cases h1 : inB x.Epoch 0 1000000 <;> cases inB x.Side 0 1 <;> cases inB x.Boot 0 1000000 <;>
    cases h2 : inB x.Count x.Epoch (if 1000000 < w64 (x.Epoch + 4) then 1000000 else w64 (x.Epoch + 4)) <;> try rfl
  all_goals
    have e : decide (w64 (x.Count - x.Epoch) > 0) = decide (x.Count > x.Epoch) := by
      rw [inB_iff] at h1 h2
      have a : w64 (x.Epoch + 4) = x.Epoch + 4 := w64_id (by omega) (by omega)
      rw [a] at h2
      have b : w64 (x.Count - x.Epoch) = x.Count - x.Epoch := w64_id (by omega) (by split at h2 <;> omega)
      rw [b, decide_eq_decide]; omega
    rw [e]
    cases (x.Base.size : Int) == 32 <;> cases (x.Tip.size : Int) == 32 <;> cases (x.Root.size : Int) == 32 <;> cases decide (x.Count > x.Epoch) <;> rfl

theorem isContent_eq (t : ByteArray) : impl_isContent.f t = some (decide ((t.size : Int) ≤ 700)) := rfl

theorem idx_slices_IndexFunc_string_string (l : List ByteArray) (q : ByteArray → Option Bool) (p : ByteArray → Bool) (h : l.length ≤ 1073741824) (hq : ∀ x, x ∈ l → q x = some (p x)) : slices_IndexFunc_string_string.f l q = some (idxOf l ByteArray.empty p) := by
  unfold slices_IndexFunc_string_string.f idxOf
  have := loopO_find (step := fun s => slices_IndexFunc_string_string.s0 l q s) (fun k => (k : Int)) l.length (fun k => p (l.getD k ByteArray.empty)) (fun k => (k : Int)) (t := ()) (fun k hk => by
    simp only [slices_IndexFunc_string_string.s0, decide_eq_true (show (k : Int) < (l.length : Int) by omega), cond_true, if_pos (show (0 : Int) ≤ (k : Int) ∧ (k : Int) < (l.length : Int) by omega), Int.toNat_natCast, hq _ (getD_mem hk _), Option.bind_some]
    rw [w64_id (by omega) (by omega)]
    cases p (l.getD k ByteArray.empty) <;> rfl) (by
    simp only [slices_IndexFunc_string_string.s0]
    rw [decide_eq_false (by omega)]; rfl)
  rw [show ((0 : Int)) = ((0 : Nat) : Int) from rfl, this]
  cases (List.range l.length).find? (fun k => p (l.getD k ByteArray.empty)) <;> rfl

theorem any_slices_ContainsFunc_string_string (l : List ByteArray) (q : ByteArray → Option Bool) (p : ByteArray → Bool) (h : l.length ≤ 1073741824) (hq : ∀ x, x ∈ l → q x = some (p x)) : slices_ContainsFunc_string_string.f l q = some (l.any p) := by
  unfold slices_ContainsFunc_string_string.f
  rw [idx_slices_IndexFunc_string_string l q p h hq, ← idxOf_any l ByteArray.empty p]
  rfl

theorem all_impl_areAll_string (l : List ByteArray) (q : ByteArray → Option Bool) (p : ByteArray → Bool) (h : l.length ≤ 1073741824) (hq : ∀ x, x ∈ l → q x = some (p x)) : impl_areAll_string.f l q = some (l.all p) := by
  unfold impl_areAll_string.f
  rw [any_slices_ContainsFunc_string_string l _ (fun x => !p x) h (fun x hx => by unfold impl_areAll_string__c1.f; rw [hq x hx]; rfl)]
  simp only [Option.bind_some, List.any_eq_not_all_not, Bool.not_not]

theorem idx_slices_IndexFunc_impl_Io_impl_Io (l : List S_Io) (q : S_Io → Option Bool) (p : S_Io → Bool) (h : l.length ≤ 1073741824) (hq : ∀ x, x ∈ l → q x = some (p x)) : slices_IndexFunc_impl_Io_impl_Io.f l q = some (idxOf l z_Io p) := by
  unfold slices_IndexFunc_impl_Io_impl_Io.f idxOf
  have := loopO_find (step := fun s => slices_IndexFunc_impl_Io_impl_Io.s0 l q s) (fun k => (k : Int)) l.length (fun k => p (l.getD k z_Io)) (fun k => (k : Int)) (t := ()) (fun k hk => by
    simp only [slices_IndexFunc_impl_Io_impl_Io.s0, decide_eq_true (show (k : Int) < (l.length : Int) by omega), cond_true, if_pos (show (0 : Int) ≤ (k : Int) ∧ (k : Int) < (l.length : Int) by omega), Int.toNat_natCast, hq _ (getD_mem hk _), Option.bind_some]
    rw [w64_id (by omega) (by omega)]
    cases p (l.getD k z_Io) <;> rfl) (by
    simp only [slices_IndexFunc_impl_Io_impl_Io.s0]
    rw [decide_eq_false (by omega)]; rfl)
  rw [show ((0 : Int)) = ((0 : Nat) : Int) from rfl, this]
  cases (List.range l.length).find? (fun k => p (l.getD k z_Io)) <;> rfl

theorem any_slices_ContainsFunc_impl_Io_impl_Io (l : List S_Io) (q : S_Io → Option Bool) (p : S_Io → Bool) (h : l.length ≤ 1073741824) (hq : ∀ x, x ∈ l → q x = some (p x)) : slices_ContainsFunc_impl_Io_impl_Io.f l q = some (l.any p) := by
  unfold slices_ContainsFunc_impl_Io_impl_Io.f
  rw [idx_slices_IndexFunc_impl_Io_impl_Io l q p h hq, ← idxOf_any l z_Io p]
  rfl

theorem all_impl_areAll_impl_Io (l : List S_Io) (q : S_Io → Option Bool) (p : S_Io → Bool) (h : l.length ≤ 1073741824) (hq : ∀ x, x ∈ l → q x = some (p x)) : impl_areAll_impl_Io.f l q = some (l.all p) := by
  unfold impl_areAll_impl_Io.f
  rw [any_slices_ContainsFunc_impl_Io_impl_Io l _ (fun x => !p x) h (fun x hx => by unfold impl_areAll_impl_Io__c1.f; rw [hq x hx]; rfl)]
  simp only [Option.bind_some, List.any_eq_not_all_not, Bool.not_not]

theorem isSector_eq (x : Int) : impl_isSector.f x = some (inB x 0 39) := by unfold impl_isSector.f; rw [within_eq]; rfl

theorem impl_DeviceOK_eq (d : S_Device) (h : d.Sure.length ≤ 1073741824 ∧ d.Unsure.length ≤ 1073741824) : impl_DeviceOK.f d = some (devOK d) := by
  unfold impl_DeviceOK.f devOK
  rw [all_impl_areAll_string d.Sure _ (fun t => decide ((t.size : Int) ≤ 700)) h.1 (fun x _ => isContent_eq x),
    all_impl_areAll_impl_Io d.Unsure _ ioOK h.2 (fun x _ => by
      unfold impl_DeviceOK_c1.f ioOK
      simp only [isSector_eq, isContent_eq, Option.bind_some]
      cases inB x.At 0 39 <;> rfl)]
  simp only [Option.bind_some]
  cases ((d.Sure.length : Int) == 40) <;> cases decide ((d.Unsure.length : Int) ≤ 60) <;> cases d.Sure.all (fun t => decide ((t.size : Int) ≤ 700)) <;> cases d.Unsure.all ioOK <;> rfl

theorem storeOK_eq (a : S_Store) (h : a.Device.Sure.length ≤ 1073741824 ∧ a.Device.Unsure.length ≤ 1073741824) : impl_StoreOK.f a = spec_StoreOK.f a ∧ ∃ r, spec_StoreOK.f a = some r := by
  unfold impl_StoreOK.f spec_StoreOK.f impl_isSure.f
  simp only [impl_DeviceOK_eq a.Device h, spec_DeviceOK_eq, spec_RegisterOK_eq, impl_RegisterOK_eq, Option.bind_some]
  cases ((a.Key.size : Int) == 32)
  · first | exact ⟨rfl, _, rfl⟩ | exact ⟨trivial, _, rfl⟩
  cases regOK a.Reg
  · first | exact ⟨rfl, _, rfl⟩ | exact ⟨trivial, _, rfl⟩
  cases devOK a.Device
  · first | exact ⟨rfl, _, rfl⟩ | exact ⟨trivial, _, rfl⟩
  simp only [cond_true, Option.bind_some]
  cases ((a.Device.Unsure.length : Int) == 0)
  · first | exact ⟨rfl, _, rfl⟩ | exact ⟨trivial, _, rfl⟩
  cases a.Up <;> first | exact ⟨rfl, _, rfl⟩ | exact ⟨trivial, _, rfl⟩

end Go.Proofs.Ytmafglodgnbajaa
