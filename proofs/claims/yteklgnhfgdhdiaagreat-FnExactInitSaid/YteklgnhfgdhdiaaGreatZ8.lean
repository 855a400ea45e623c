/- Lemmas for walks: frames known by slots, heaps known by chunks. No conditions of its own. -/
import Derived.Test.YteklgnhfgdhdiaaGreatZ7
namespace Go.Z
set_option linter.unusedVariables false
set_option linter.unusedSimpArgs false
open Go Go.RowKit
theorem wp_cutq {P:Program} {Q:Exit→Act→World→Prop} {a:Act} {w:World} {c:Code} (R:Act→World→Prop) (h:c.wp P (Exit.then R Q) a w) (k:∀ a w,R a w→Q .normal a w):c.wp P Q a w :=
  wp_mono h fun e a w q=>by cases e <;> first | exact k _ _ q | exact q
end Go.Z
