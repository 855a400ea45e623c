/- Types and facts. -/
import Derived.Test.YteablpohefcohaaDoorY1
import Derived.Test.YteablpohefcohaaDoorRows
namespace Go.Proofs.YteablpohefcohaaDoor
open Go Go.Z Go.Proofs Go.MuLone Go.ChangeShapes Go.WideShapes Go.ChangeAt Go.RowKit
set_option linter.unusedVariables false
set_option linter.unusedSimpArgs false
structure S_Op where
  Kind : Int
  Key : Int
  Value : Int
def z_Op : S_Op := ⟨0, 0, 0⟩

def L_Op : Lay S_Op := Lay.flat 3 (fun x => [.int .i64 x.Kind, .int .i64 x.Key, .int .i64 x.Value]) (fun _ => rfl) (fun x u hu => by
  simp only [List.mem_cons, List.not_mem_nil, or_false] at hu
  rcases hu with rfl | rfl | rfl <;> rfl)
theorem ag3 : aggB Tryd.prog 3 = some false := by kernel_rfl
theorem ag9 : aggB Tryd.prog 9 = some false := by kernel_rfl
theorem ag23 : aggB Tryd.prog 23 = some true := by kernel_rfl
theorem ag26 : aggB Tryd.prog 26 = some true := by kernel_rfl
theorem bs5_1 (x0 : Int) : sliceB Tryd.prog 5 1 [(0, .int .u8 x0)] = some #[.int .u8 x0] := by kernel_rfl
theorem bs9_0 (x0 : ByteArray) (x1 : ByteArray) (x2 : ByteArray) (x3 : ByteArray) (x4 : ByteArray) (x5 : ByteArray) (x6 : ByteArray) : sliceB Tryd.prog 9 7 [(0, .string x0), (1, .string x1), (2, .string x2), (3, .string x3), (4, .string x4), (5, .string x5), (6, .string x6)] = some #[.string x0, .string x1, .string x2, .string x3, .string x4, .string x5, .string x6] := by kernel_rfl
theorem en6 : Enters Tryd.prog 6 := run_callFunc_enter Tryd.func6 (by kernel_rfl) rfl
theorem en7 : Enters Tryd.prog 7 := run_callFunc_enter Tryd.func7 (by kernel_rfl) rfl
theorem en8 : Enters Tryd.prog 8 := run_callFunc_enter Tryd.func8 (by kernel_rfl) rfl
theorem en19 : Enters Tryd.prog 19 := run_callFunc_enter Tryd.func19 (by kernel_rfl) rfl
theorem en20 : Enters Tryd.prog 20 := run_callFunc_enter Tryd.func20 (by kernel_rfl) rfl
theorem en21 : Enters Tryd.prog 21 := run_callFunc_enter Tryd.func21 (by kernel_rfl) rfl
theorem en22 : Enters Tryd.prog 22 := run_callFunc_enter Tryd.func22 (by kernel_rfl) rfl
theorem en37 : Enters Tryd.prog 37 := run_callFunc_enter Tryd.func37 (by kernel_rfl) rfl
theorem en38 : Enters Tryd.prog 38 := run_callFunc_enter Tryd.func38 (by kernel_rfl) rfl
theorem en39 : Enters Tryd.prog 39 := run_callFunc_enter Tryd.func39 (by kernel_rfl) rfl
theorem en40 : Enters Tryd.prog 40 := run_callFunc_enter Tryd.func40 (by kernel_rfl) rfl
theorem en41 : Enters Tryd.prog 41 := run_callFunc_enter Tryd.func41 (by kernel_rfl) rfl
theorem en42 : Enters Tryd.prog 42 := run_callFunc_enter Tryd.func42 (by kernel_rfl) rfl
theorem en43 : Enters Tryd.prog 43 := run_callFunc_enter Tryd.func43 (by kernel_rfl) rfl
theorem en44 : Enters Tryd.prog 44 := run_callFunc_enter Tryd.func44 (by kernel_rfl) rfl
theorem en45 : Enters Tryd.prog 45 := run_callFunc_enter Tryd.func45 (by kernel_rfl) rfl
theorem fd23_0 : fldB Tryd.prog 23 0 = some 0 := by kernel_rfl
theorem fd23_1 : fldB Tryd.prog 23 1 = some 1 := by kernel_rfl
theorem fd23_2 : fldB Tryd.prog 23 2 = some 2 := by kernel_rfl
theorem fd26_0 : fldB Tryd.prog 26 0 = some 0 := by kernel_rfl
theorem fd26_1 : fldB Tryd.prog 26 1 = some 1 := by kernel_rfl
theorem fd26_2 : fldB Tryd.prog 26 2 = some 2 := by kernel_rfl
theorem mo : Tryd.prog.follows .mixedOrders = true := by kernel_rfl
theorem sz3 : szB Tryd.prog 3 = some 1 := by kernel_rfl
theorem sz9 : szB Tryd.prog 9 = some 1 := by kernel_rfl
theorem sz23 : szB Tryd.prog 23 = some 3 := by kernel_rfl
theorem sz26 : szB Tryd.prog 26 = some 3 := by kernel_rfl
theorem un3 : Tryd.prog.underlying 3 = some (.int .i64) := by kernel_rfl
theorem un5 : Tryd.prog.underlying 5 = some (.int .u8) := by kernel_rfl
theorem un9 : Tryd.prog.underlying 9 = some (.string) := by kernel_rfl
theorem un64 : Tryd.prog.underlying 64 = some (.slice 9) := by kernel_rfl
theorem un75 : Tryd.prog.underlying 75 = some (.slice 5) := by kernel_rfl
theorem ze26 : zeroB Tryd.prog 26 = some (.agg #[.int .i64 0, .int .i64 0, .int .i64 0]) := by kernel_rfl
end Go.Proofs.YteablpohefcohaaDoor
