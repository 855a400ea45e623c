/- What the models of these functions come to. -/
import Derived.Test.YtjelagjijnpkdaaP0
import Derived.Test.YtjelagjijnpkdaaGXOpOK
namespace Go.Proofs.Ytjelagjijnpkdaa
open Go Go.Z Go.Proofs Go.MuLone Go.ChangeShapes Go.WideShapes Go.ChangeAt Go.RowKit
set_option linter.unusedVariables false
set_option linter.unusedSimpArgs false
theorem l01In_eq (x lo hi : Int) : spec_l01In.f x lo hi = some (inB x lo hi) := by
  unfold spec_l01In.f inB; cases decide (lo ≤ x) <;> rfl

def opOK (o : S_Op) : Bool :=
  inB o.Kind 1 6 && inB o.Key 1 9999 && (bif o.Kind == 1 || o.Kind == 3 then o.Value == 0 else bif o.Kind == 6 then inB o.Value 1 4 else inB o.Value 0 999999)
theorem spec_OpOK_eq (o : S_Op) : spec_OpOK.f o = some (opOK o) := by
  unfold spec_OpOK.f opOK
  simp only [l01In_eq, Option.bind_some]
  cases inB o.Kind 1 6 <;> cases inB o.Key 1 9999 <;> cases o.Kind == 1 <;> cases o.Kind == 3 <;> cases o.Kind == 6 <;> rfl

theorem id_laws_toOp (x : S_Op) : laws_toOp.f x = some x := by
  unfold laws_toOp.f
  rfl

theorem within_eq (x lo hi : Int) : impl_within.f x lo hi = some (inB x lo hi) := by
  unfold impl_within.f inB; cases decide (lo ≤ x) <;> rfl

theorem isKey_eq (x : Int) : impl_isKey.f x = some (inB x 1 9999) := by unfold impl_isKey.f; rw [within_eq]; rfl

theorem isValue_eq (x : Int) : impl_isValue.f x = some (inB x 0 999999) := by unfold impl_isValue.f; rw [within_eq]; rfl

theorem impl_OpOK_eq (o : S_Op) : impl_OpOK.f o = some (opOK o) := by
  unfold impl_OpOK.f impl_isBare.f opOK
  simp only [within_eq, isKey_eq, isValue_eq, Option.bind_some]
  cases inB o.Kind 1 6 <;> cases inB o.Key 1 9999 <;> cases o.Kind == 1 <;> cases o.Kind == 3 <;> cases o.Kind == 6 <;> rfl

end Go.Proofs.Ytjelagjijnpkdaa
