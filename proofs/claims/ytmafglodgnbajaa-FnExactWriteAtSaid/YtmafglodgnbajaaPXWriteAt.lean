/- What the models of these functions come to. -/
import Derived.Test.YtmafglodgnbajaaPXFlipAt
import Derived.Test.YtmafglodgnbajaaGXWriteAt
namespace Go.Proofs.Ytmafglodgnbajaa
open Go Go.Z Go.Proofs Go.MuLone Go.ChangeShapes Go.WideShapes Go.ChangeAt Go.RowKit
set_option linter.unusedVariables false
set_option linter.unusedSimpArgs false
def shortT (t : ByteArray) : Bool := decide ((t.size : Int) ≤ 65536)
theorem areShort_eq (l : List ByteArray) (h : l.length ≤ 1073741824) : impl_areShort.f l = some (l.all shortT) := by
  unfold impl_areShort.f
  rw [all_impl_areAll_string l impl_areShort_c1.f shortT h (fun x _ => rfl)]; rfl
theorem areShort1 (t : ByteArray) : impl_areShort.f [t] = some (shortT t) := by
  rw [areShort_eq _ (by simp)]; simp

end Go.Proofs.Ytmafglodgnbajaa
