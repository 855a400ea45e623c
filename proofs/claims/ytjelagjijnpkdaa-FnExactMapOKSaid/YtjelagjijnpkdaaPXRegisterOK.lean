/- What the models of these functions come to. -/
import Derived.Test.YtjelagjijnpkdaaPXOpOK
import Derived.Test.YtjelagjijnpkdaaGXRegisterOK
namespace Go.Proofs.Ytjelagjijnpkdaa
open Go Go.Z Go.Proofs Go.MuLone Go.ChangeShapes Go.WideShapes Go.ChangeAt Go.RowKit
set_option linter.unusedVariables false
set_option linter.unusedSimpArgs false

def regOK (x : S_Register) : Bool :=
  inB x.Epoch 0 1000000 && inB x.Side 0 1 && inB x.Count x.Epoch (if 1000000 < w64 (x.Epoch + 4) then 1000000 else w64 (x.Epoch + 4)) && inB x.Boot 0 1000000 &&
    (x.Base.size : Int) == 32 && (x.Tip.size : Int) == 32 && (x.Root.size : Int) == 32 && (decide (x.Count > x.Epoch) || x.Base.toList == x.Tip.toList)
theorem spec_RegisterOK_eq (x : S_Register) : spec_RegisterOK.f x = some (regOK x) := by
  unfold spec_RegisterOK.f regOK
  simp only [l01In_eq, Option.bind_some]
  cases inB x.Epoch 0 1000000 <;> cases inB x.Side 0 1 <;> cases inB x.Boot 0 1000000 <;>
    cases inB x.Count x.Epoch (if 1000000 < w64 (x.Epoch + 4) then 1000000 else w64 (x.Epoch + 4)) <;> try rfl
  all_goals
    cases (x.Base.size : Int) == 32 <;> cases (x.Tip.size : Int) == 32 <;> cases (x.Root.size : Int) == 32 <;> cases decide (x.Count > x.Epoch) <;> rfl

theorem impl_RegisterOK_eq (x : S_Register) : impl_RegisterOK.f x = some (regOK x) := by
  unfold impl_RegisterOK.f regOK impl_isDigest.f impl_Register_waiting.f
  simp only [within_eq, Option.bind_some]
  cases h1 : inB x.Epoch 0 1000000 <;> cases inB x.Side 0 1 <;> cases inB x.Boot 0 1000000 <;>
    cases h2 : inB x.Count x.Epoch (if 1000000 < w64 (x.Epoch + 4) then 1000000 else w64 (x.Epoch + 4)) <;> try rfl
  all_goals
    have e : decide (w64 (x.Count - x.Epoch) > 0) = decide (x.Count > x.Epoch) := by
      rw [inB_iff] at h1 h2
      have a : w64 (x.Epoch + 4) = x.Epoch + 4 := w64_id (by omega) (by omega)
      rw [a] at h2
      have b : w64 (x.Count - x.Epoch) = x.Count - x.Epoch := w64_id (by omega) (by split at h2 <;> omega)
      rw [b, decide_eq_decide]; omega
    rw [e]
    cases (x.Base.size : Int) == 32 <;> cases (x.Tip.size : Int) == 32 <;> cases (x.Root.size : Int) == 32 <;> cases decide (x.Count > x.Epoch) <;> rfl

end Go.Proofs.Ytjelagjijnpkdaa
