/- What the models of these functions come to. -/
import Derived.Test.YtmafglodgnbajaaPXWriteAt
import Derived.Test.YtmafglodgnbajaaGXCrash
namespace Go.Proofs.Ytmafglodgnbajaa
open Go Go.Z Go.Proofs Go.MuLone Go.ChangeShapes Go.WideShapes Go.ChangeAt Go.RowKit
set_option linter.unusedVariables false
set_option linter.unusedSimpArgs false
theorem mk_laws_markStore (x : S_Store) (k : Int) (h0 : 0 ≤ k) (h1 : k ≤ 144115188072710144) (hl : ((x.Device.Sure.length ≤ 1048576) ∧ (x.Device.Unsure.length ≤ 1048576))) : ∃ m a0 a1, laws_markStore.f x k = some (m, a0, a1) ∧ k ≤ m ∧ m ≤ k + 3145728 ∧ ∀ y : S_Store, y.Device.Sure = a0 → y.Device.Unsure = a1 → laws_heldStore.f y k = some m := by
  obtain ⟨m0, b0, b1, e0, p0, q0, r0⟩ := mk_laws_markDevice x.Device k (by omega) (by omega) hl
  refine ⟨m0, b0, b1, ?_, by omega, by omega, ?_⟩
  · unfold laws_markStore.f; simp only [e0, Option.bind_some]
  · intro y y0 y1
    have s0 : laws_heldDevice.f y.Device k = some m0 := r0 _ y0 y1
    unfold laws_heldStore.f; simp only [s0, decide_eq_false (show ¬ m0 < 0 by omega), Option.bind_some, cond_false]

end Go.Proofs.Ytmafglodgnbajaa
