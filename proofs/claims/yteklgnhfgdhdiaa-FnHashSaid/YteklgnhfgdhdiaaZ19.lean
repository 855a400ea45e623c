/- Lemmas for walks: frames known by slots, heaps known by chunks. No conditions of its own. -/
import Derived.Test.YteklgnhfgdhdiaaZ18
namespace Go.Z
set_option linter.unusedVariables false
set_option linter.unusedSimpArgs false
open Go
/-- A function that calls itself: what its rounds come to, if ever. -/
noncomputable def recO {α : Type} (g : Nat → Option α) : Option α :=
  open Classical in if h : ∃ n r, g n = some r then some (Classical.choose (Classical.choose_spec h)) else none
theorem recO_some {α : Type} {g : Nat → Option α} {r : α} (h : recO g = some r) : ∃ n, g n = some r := by
  unfold recO at h
  split at h
  · rename_i hh
    have := Classical.choose_spec (Classical.choose_spec hh)
    cases h
    exact ⟨_, this⟩
  · cases h
theorem recO_eq {α : Type} {g : Nat → Option α} {r : α} (n : Nat) (h : g n = some r) (hu : ∀ m r', g m = some r' → r' = r) : recO g = some r := by
  unfold recO
  have hh : ∃ n r, g n = some r := ⟨n, r, h⟩
  rw [dif_pos hh]
  exact congrArg some (hu _ _ (Classical.choose_spec (Classical.choose_spec hh)))
end Go.Z
