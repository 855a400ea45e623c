/- Types and facts. -/
import Derived.Test.YtjelagjijnpkdaaZ10
import Derived.Test.YtjelagjijnpkdaaRows
namespace Go.Proofs.Ytjelagjijnpkdaa
open Go Go.Z Go.Proofs Go.MuLone Go.ChangeShapes Go.WideShapes Go.ChangeAt Go.RowKit
set_option linter.unusedVariables false
set_option linter.unusedSimpArgs false
structure S_Entry where
  Key : Int
  Value : Int
def z_Entry : S_Entry := ⟨0, 0⟩

def L_Entry : Lay S_Entry := Lay.flat 2 (fun x => [.int .i64 x.Key, .int .i64 x.Value]) (fun _ => rfl) (fun x u hu => by
  simp only [List.mem_cons, List.not_mem_nil, or_false] at hu
  rcases hu with rfl | rfl <;> rfl)
theorem ag3 : aggB Try.prog 3 = some false := by kernel_rfl
theorem ag62 : aggB Try.prog 62 = some true := by kernel_rfl
theorem ag64 : aggB Try.prog 64 = some true := by kernel_rfl
theorem en16 : Enters Try.prog 16 := run_callFunc_enter Try.func16 (by kernel_rfl) rfl
theorem en17 : Enters Try.prog 17 := run_callFunc_enter Try.func17 (by kernel_rfl) rfl
theorem en18 : Enters Try.prog 18 := run_callFunc_enter Try.func18 (by kernel_rfl) rfl
theorem en19 : Enters Try.prog 19 := run_callFunc_enter Try.func19 (by kernel_rfl) rfl
theorem en20 : Enters Try.prog 20 := run_callFunc_enter Try.func20 (by kernel_rfl) rfl
theorem en25 : Enters Try.prog 25 := run_callFunc_enter Try.func25 (by kernel_rfl) rfl
theorem en26 : Enters Try.prog 26 := run_callFunc_enter Try.func26 (by kernel_rfl) rfl
theorem en32 : Enters Try.prog 32 := run_callFunc_enter Try.func32 (by kernel_rfl) rfl
theorem en33 : Enters Try.prog 33 := run_callFunc_enter Try.func33 (by kernel_rfl) rfl
theorem en34 : Enters Try.prog 34 := run_callFunc_enter Try.func34 (by kernel_rfl) rfl
theorem en36 : Enters Try.prog 36 := run_callFunc_enter Try.func36 (by kernel_rfl) rfl
theorem en39 : Enters Try.prog 39 := run_callFunc_enter Try.func39 (by kernel_rfl) rfl
theorem en40 : Enters Try.prog 40 := run_callFunc_enter Try.func40 (by kernel_rfl) rfl
theorem en47 : Enters Try.prog 47 := run_callFunc_enter Try.func47 (by kernel_rfl) rfl
theorem en48 : Enters Try.prog 48 := run_callFunc_enter Try.func48 (by kernel_rfl) rfl
theorem en60 : Enters Try.prog 60 := run_callFunc_enter Try.func60 (by kernel_rfl) rfl
theorem en61 : Enters Try.prog 61 := run_callFunc_enter Try.func61 (by kernel_rfl) rfl
theorem fd62_0 : fldB Try.prog 62 0 = some 0 := by kernel_rfl
theorem fd62_1 : fldB Try.prog 62 1 = some 1 := by kernel_rfl
theorem fd64_0 : fldB Try.prog 64 0 = some 0 := by kernel_rfl
theorem fd64_1 : fldB Try.prog 64 1 = some 1 := by kernel_rfl
theorem lz62 : (L_Entry).own z_Entry [.int .i64 0, .int .i64 0] [] := ⟨rfl, rfl⟩
theorem mk62 : mkB Try.prog 62 = some (.agg #[.int .i64 0, .int .i64 0], 2) := by kernel_rfl
theorem mo : Try.prog.follows .mixedOrders = true := by kernel_rfl
theorem sz3 : szB Try.prog 3 = some 1 := by kernel_rfl
theorem sz62 : szB Try.prog 62 = some 2 := by kernel_rfl
theorem sz64 : szB Try.prog 64 = some 2 := by kernel_rfl
theorem un3 : Try.prog.underlying 3 = some (.int .i64) := by kernel_rfl
theorem un4 : Try.prog.underlying 4 = some (.bool) := by kernel_rfl
theorem un35 : Try.prog.underlying 35 = some (.slice 64) := by kernel_rfl
theorem un38 : Try.prog.underlying 38 = some (.slice 62) := by kernel_rfl
theorem un93 : Try.prog.underlying 93 = some (.int .u64) := by kernel_rfl
theorem ze62 : zeroB Try.prog 62 = some (.agg #[.int .i64 0, .int .i64 0]) := by kernel_rfl
end Go.Proofs.Ytjelagjijnpkdaa
