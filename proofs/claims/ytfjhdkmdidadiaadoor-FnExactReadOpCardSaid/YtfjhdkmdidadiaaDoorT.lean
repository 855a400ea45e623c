/- Types and facts. -/
import Derived.Test.YtfjhdkmdidadiaaDoorY2
import Derived.Test.YtfjhdkmdidadiaaDoorRows
namespace Go.Proofs.YtfjhdkmdidadiaaDoor
open Go Go.Z Go.Proofs Go.MuLone Go.ChangeShapes Go.WideShapes Go.ChangeAt Go.RowKit
set_option linter.unusedVariables false
set_option linter.unusedSimpArgs false
structure S_Op where
  Kind : Int
  Key : Int
  Value : Int
def z_Op : S_Op := ⟨0, 0, 0⟩

def L_Op : Lay S_Op := Lay.flat 3 (fun x => [.int .i64 x.Kind, .int .i64 x.Key, .int .i64 x.Value]) (fun _ => rfl) (fun x u hu => by
  simp only [List.mem_cons, List.not_mem_nil, or_false] at hu
  rcases hu with rfl | rfl | rfl <;> rfl)
theorem ag3 : aggB Tryd.prog 3 = some false := by kernel_rfl
theorem ag9 : aggB Tryd.prog 9 = some false := by kernel_rfl
theorem ag26 : aggB Tryd.prog 26 = some true := by kernel_rfl
theorem ag48 : aggB Tryd.prog 48 = some false := by kernel_rfl
theorem bd26_3  : Tryd.prog.built 26 [] = some #[.int .i64 0, .int .i64 0, .int .i64 0] := by kernel_rfl
theorem bd26_5 (x0 : Int) : Tryd.prog.built 26 [(0, .int .i64 x0)] = some #[.int .i64 x0, .int .i64 0, .int .i64 0] := by kernel_rfl
theorem bs3_4 (x0 : Int) : sliceB Tryd.prog 3 1 [(0, .int .i64 x0)] = some #[.int .i64 x0] := by kernel_rfl
theorem bs5_1 (x0 : Int) : sliceB Tryd.prog 5 1 [(0, .int .u8 x0)] = some #[.int .u8 x0] := by kernel_rfl
theorem bs9_0 (x0 : ByteArray) : sliceB Tryd.prog 9 1 [(0, .string x0)] = some #[.string x0] := by kernel_rfl
theorem bs9_2 (x0 : ByteArray) (x1 : ByteArray) (x2 : ByteArray) (x3 : ByteArray) (x4 : ByteArray) (x5 : ByteArray) (x6 : ByteArray) : sliceB Tryd.prog 9 7 [(0, .string x0), (1, .string x1), (2, .string x2), (3, .string x3), (4, .string x4), (5, .string x5), (6, .string x6)] = some #[.string x0, .string x1, .string x2, .string x3, .string x4, .string x5, .string x6] := by kernel_rfl
theorem en21 : Enters Tryd.prog 21 := run_callFunc_enter Tryd.func21 (by kernel_rfl) rfl
theorem en22 : Enters Tryd.prog 22 := run_callFunc_enter Tryd.func22 (by kernel_rfl) rfl
theorem en23 : Enters Tryd.prog 23 := run_callFunc_enter Tryd.func23 (by kernel_rfl) rfl
theorem en28 : Enters Tryd.prog 28 := run_callFunc_enter Tryd.func28 (by kernel_rfl) rfl
theorem en30 : Enters Tryd.prog 30 := run_callFunc_enter Tryd.func30 (by kernel_rfl) rfl
theorem en46 : Enters Tryd.prog 46 := run_callFunc_enter Tryd.func46 (by kernel_rfl) rfl
theorem en47 : Enters Tryd.prog 47 := run_callFunc_enter Tryd.func47 (by kernel_rfl) rfl
theorem en48 : Enters Tryd.prog 48 := run_callFunc_enter Tryd.func48 (by kernel_rfl) rfl
theorem en49 : Enters Tryd.prog 49 := run_callFunc_enter Tryd.func49 (by kernel_rfl) rfl
theorem en51 : Enters Tryd.prog 51 := run_callFunc_enter Tryd.func51 (by kernel_rfl) rfl
theorem en52 : Enters Tryd.prog 52 := run_callFunc_enter Tryd.func52 (by kernel_rfl) rfl
theorem en53 : Enters Tryd.prog 53 := run_callFunc_enter Tryd.func53 (by kernel_rfl) rfl
theorem en57 : Enters Tryd.prog 57 := run_callFunc_enter Tryd.func57 (by kernel_rfl) rfl
theorem en58 : Enters Tryd.prog 58 := run_callFunc_enter Tryd.func58 (by kernel_rfl) rfl
theorem en59 : Enters Tryd.prog 59 := run_callFunc_enter Tryd.func59 (by kernel_rfl) rfl
theorem en60 : Enters Tryd.prog 60 := run_callFunc_enter Tryd.func60 (by kernel_rfl) rfl
theorem en61 : Enters Tryd.prog 61 := run_callFunc_enter Tryd.func61 (by kernel_rfl) rfl
theorem en62 : Enters Tryd.prog 62 := run_callFunc_enter Tryd.func62 (by kernel_rfl) rfl
theorem en63 : Enters Tryd.prog 63 := run_callFunc_enter Tryd.func63 (by kernel_rfl) rfl
theorem en64 : Enters Tryd.prog 64 := run_callFunc_enter Tryd.func64 (by kernel_rfl) rfl
theorem en65 : Enters Tryd.prog 65 := run_callFunc_enter Tryd.func65 (by kernel_rfl) rfl
theorem en78 : Enters Tryd.prog 78 := run_callFunc_enter Tryd.func78 (by kernel_rfl) rfl
theorem en79 : Enters Tryd.prog 79 := run_callFunc_enter Tryd.func79 (by kernel_rfl) rfl
theorem en80 : Enters Tryd.prog 80 := run_callFunc_enter Tryd.func80 (by kernel_rfl) rfl
theorem en81 : Enters Tryd.prog 81 := run_callFunc_enter Tryd.func81 (by kernel_rfl) rfl
theorem en82 : Enters Tryd.prog 82 := run_callFunc_enter Tryd.func82 (by kernel_rfl) rfl
theorem en83 : Enters Tryd.prog 83 := run_callFunc_enter Tryd.func83 (by kernel_rfl) rfl
theorem en84 : Enters Tryd.prog 84 := run_callFunc_enter Tryd.func84 (by kernel_rfl) rfl
theorem en85 : Enters Tryd.prog 85 := run_callFunc_enter Tryd.func85 (by kernel_rfl) rfl
theorem en86 : Enters Tryd.prog 86 := run_callFunc_enter Tryd.func86 (by kernel_rfl) rfl
theorem en97 : Enters Tryd.prog 97 := run_callFunc_enter Tryd.func97 (by kernel_rfl) rfl
theorem en98 : Enters Tryd.prog 98 := run_callFunc_enter Tryd.func98 (by kernel_rfl) rfl
theorem en99 : Enters Tryd.prog 99 := run_callFunc_enter Tryd.func99 (by kernel_rfl) rfl
theorem en101 : Enters Tryd.prog 101 := run_callFunc_enter Tryd.func101 (by kernel_rfl) rfl
theorem en102 : Enters Tryd.prog 102 := run_callFunc_enter Tryd.func102 (by kernel_rfl) rfl
theorem en113 : Enters Tryd.prog 113 := run_callFunc_enter Tryd.func113 (by kernel_rfl) rfl
theorem en127 : Enters Tryd.prog 127 := run_callFunc_enter Tryd.func127 (by kernel_rfl) rfl
theorem fd26_0 : fldB Tryd.prog 26 0 = some 0 := by kernel_rfl
theorem fd26_1 : fldB Tryd.prog 26 1 = some 1 := by kernel_rfl
theorem fd26_2 : fldB Tryd.prog 26 2 = some 2 := by kernel_rfl
theorem mk3 : mkB Tryd.prog 3 = some (.int .i64 0, 1) := by kernel_rfl
theorem mk9 : mkB Tryd.prog 9 = some (.string ⟨#[]⟩, 1) := by kernel_rfl
theorem mo : Tryd.prog.follows .mixedOrders = true := by kernel_rfl
theorem sz3 : szB Tryd.prog 3 = some 1 := by kernel_rfl
theorem sz9 : szB Tryd.prog 9 = some 1 := by kernel_rfl
theorem sz26 : szB Tryd.prog 26 = some 3 := by kernel_rfl
theorem un3 : Tryd.prog.underlying 3 = some (.int .i64) := by kernel_rfl
theorem un5 : Tryd.prog.underlying 5 = some (.int .u8) := by kernel_rfl
theorem un9 : Tryd.prog.underlying 9 = some (.string) := by kernel_rfl
theorem un29 : Tryd.prog.underlying 29 = some (.slice 3) := by kernel_rfl
theorem un73 : Tryd.prog.underlying 73 = some (.slice 9) := by kernel_rfl
theorem un96 : Tryd.prog.underlying 96 = some (.slice 5) := by kernel_rfl
theorem uni103 : Tryd.prog.underlying 103 = some (.interface (Tryd.prog.methodsAt 103)) := by kernel_rfl
theorem ze9 : zeroB Tryd.prog 9 = some (.string ⟨#[]⟩) := by kernel_rfl
theorem ze26 : zeroB Tryd.prog 26 = some (.agg #[.int .i64 0, .int .i64 0, .int .i64 0]) := by kernel_rfl
end Go.Proofs.YtfjhdkmdidadiaaDoor
