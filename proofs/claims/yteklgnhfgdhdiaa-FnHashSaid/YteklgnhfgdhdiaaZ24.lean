/- Lemmas for walks: frames known by slots, heaps known by chunks. No conditions of its own. -/
import Derived.Test.YteklgnhfgdhdiaaZ23
namespace Go.Z
set_option linter.unusedVariables false
set_option linter.unusedSimpArgs false
open Go Go.RowKit
section
variable {P : Program} {ops : List Oper} {Q : Exit → Act → World → Prop} {C : World → Prop} {o : Oper} {p : List (Nat × Bool)} {a : Act} {w : World} {σ : List (Nat × Value)} {n d i : Nat}
/-- ONE THAT NOTHING ELSE MAY COME BEFORE, and that its guard shuts out. -/
theorem ssk (hk : Kn σ n a) (hi : onth ops i = some o) (hd : o.dst = some d) (hdn : Nat.blt d n = true) (hw : wnt ops σ o = some false)
    (hC : ∀ w', F w w' → C w') (next : ∀ w' a, F w w' → Kn ((d, undef) :: σ) n a → WM P ops C Q p a w') : WM P ops C Q ((i, false) :: p) a w := by
  intro w' hw'
  have hi' : ops.toArray[i]? = some o := by simp [← onth_eq, hi]
  have hwt := wnt_wanted hk o false hw
  unfold sOp
  simp only [hi', hwt, Bool.false_eq_true, if_false]
  exact ⟨hC _ hw', next _ _ hw' (by rw [hd]; exact hk.put d undef (by simpa using hdn))⟩
end
end Go.Z
