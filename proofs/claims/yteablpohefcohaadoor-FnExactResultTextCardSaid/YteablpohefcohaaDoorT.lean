/- Types and facts. -/
import Derived.Test.YteablpohefcohaaDoorY1
import Derived.Test.YteablpohefcohaaDoorRows
namespace Go.Proofs.YteablpohefcohaaDoor
open Go Go.Z Go.Proofs Go.MuLone Go.ChangeShapes Go.WideShapes Go.ChangeAt Go.RowKit
set_option linter.unusedVariables false
set_option linter.unusedSimpArgs false
structure S_Result where
  Code : Int
  Values : List Int
def z_Result : S_Result := ⟨0, []⟩

def L_laws_Result : Lay S_Result := Lay.map (Lay.pair (Lay.int .i64) (Lay.sl (Lay.int .i64) 3)) (fun x => (x.Code, x.Values))

def L_impl_Result : Lay S_Result := Lay.map (Lay.pair (Lay.int .i64) (Lay.sl (Lay.int .i64) 3)) (fun x => (x.Code, x.Values))
theorem ag3 : aggB Tryd.prog 3 = some false := by kernel_rfl
theorem ag9 : aggB Tryd.prog 9 = some false := by kernel_rfl
theorem ag29 : aggB Tryd.prog 29 = some false := by kernel_rfl
theorem ag31 : aggB Tryd.prog 31 = some true := by kernel_rfl
theorem ag34 : aggB Tryd.prog 34 = some true := by kernel_rfl
theorem ag67 : aggB Tryd.prog 67 = some false := by kernel_rfl
theorem bs5_0 (x0 : Int) : sliceB Tryd.prog 5 1 [(0, .int .u8 x0)] = some #[.int .u8 x0] := by kernel_rfl
theorem bs9_1 (x0 : ByteArray) (x1 : ByteArray) (x2 : ByteArray) (x3 : ByteArray) (x4 : ByteArray) (x5 : ByteArray) (x6 : ByteArray) (x7 : ByteArray) (x8 : ByteArray) (x9 : ByteArray) (x10 : ByteArray) (x11 : ByteArray) (x12 : ByteArray) (x13 : ByteArray) (x14 : ByteArray) (x15 : ByteArray) (x16 : ByteArray) (x17 : ByteArray) (x18 : ByteArray) (x19 : ByteArray) : sliceB Tryd.prog 9 20 [(0, .string x0), (1, .string x1), (2, .string x2), (3, .string x3), (4, .string x4), (5, .string x5), (6, .string x6), (7, .string x7), (8, .string x8), (9, .string x9), (10, .string x10), (11, .string x11), (12, .string x12), (13, .string x13), (14, .string x14), (15, .string x15), (16, .string x16), (17, .string x17), (18, .string x18), (19, .string x19)] = some #[.string x0, .string x1, .string x2, .string x3, .string x4, .string x5, .string x6, .string x7, .string x8, .string x9, .string x10, .string x11, .string x12, .string x13, .string x14, .string x15, .string x16, .string x17, .string x18, .string x19] := by kernel_rfl
theorem en9 : Enters Tryd.prog 9 := run_callFunc_enter Tryd.func9 (by kernel_rfl) rfl
theorem en10 : Enters Tryd.prog 10 := run_callFunc_enter Tryd.func10 (by kernel_rfl) rfl
theorem en11 : Enters Tryd.prog 11 := run_callFunc_enter Tryd.func11 (by kernel_rfl) rfl
theorem en12 : Enters Tryd.prog 12 := run_callFunc_enter Tryd.func12 (by kernel_rfl) rfl
theorem en13 : Enters Tryd.prog 13 := run_callFunc_enter Tryd.func13 (by kernel_rfl) rfl
theorem en23 : Enters Tryd.prog 23 := run_callFunc_enter Tryd.func23 (by kernel_rfl) rfl
theorem en24 : Enters Tryd.prog 24 := run_callFunc_enter Tryd.func24 (by kernel_rfl) rfl
theorem en25 : Enters Tryd.prog 25 := run_callFunc_enter Tryd.func25 (by kernel_rfl) rfl
theorem en26 : Enters Tryd.prog 26 := run_callFunc_enter Tryd.func26 (by kernel_rfl) rfl
theorem en27 : Enters Tryd.prog 27 := run_callFunc_enter Tryd.func27 (by kernel_rfl) rfl
theorem en28 : Enters Tryd.prog 28 := run_callFunc_enter Tryd.func28 (by kernel_rfl) rfl
theorem en29 : Enters Tryd.prog 29 := run_callFunc_enter Tryd.func29 (by kernel_rfl) rfl
theorem en37 : Enters Tryd.prog 37 := run_callFunc_enter Tryd.func37 (by kernel_rfl) rfl
theorem en39 : Enters Tryd.prog 39 := run_callFunc_enter Tryd.func39 (by kernel_rfl) rfl
theorem en40 : Enters Tryd.prog 40 := run_callFunc_enter Tryd.func40 (by kernel_rfl) rfl
theorem en43 : Enters Tryd.prog 43 := run_callFunc_enter Tryd.func43 (by kernel_rfl) rfl
theorem en45 : Enters Tryd.prog 45 := run_callFunc_enter Tryd.func45 (by kernel_rfl) rfl
theorem en46 : Enters Tryd.prog 46 := run_callFunc_enter Tryd.func46 (by kernel_rfl) rfl
theorem en47 : Enters Tryd.prog 47 := run_callFunc_enter Tryd.func47 (by kernel_rfl) rfl
theorem en48 : Enters Tryd.prog 48 := run_callFunc_enter Tryd.func48 (by kernel_rfl) rfl
theorem en49 : Enters Tryd.prog 49 := run_callFunc_enter Tryd.func49 (by kernel_rfl) rfl
theorem en59 : Enters Tryd.prog 59 := run_callFunc_enter Tryd.func59 (by kernel_rfl) rfl
theorem en60 : Enters Tryd.prog 60 := run_callFunc_enter Tryd.func60 (by kernel_rfl) rfl
theorem en61 : Enters Tryd.prog 61 := run_callFunc_enter Tryd.func61 (by kernel_rfl) rfl
theorem en70 : Enters Tryd.prog 70 := run_callFunc_enter Tryd.func70 (by kernel_rfl) rfl
theorem fd31_0 : fldB Tryd.prog 31 0 = some 0 := by kernel_rfl
theorem fd31_1 : fldB Tryd.prog 31 1 = some 1 := by kernel_rfl
theorem fd34_0 : fldB Tryd.prog 34 0 = some 0 := by kernel_rfl
theorem fd34_1 : fldB Tryd.prog 34 1 = some 1 := by kernel_rfl
theorem lz3 : ((Lay.int .i64)).own 0 [.int .i64 0] [] := ⟨rfl, rfl⟩
theorem mk3 : mkB Tryd.prog 3 = some (.int .i64 0, 1) := by kernel_rfl
theorem mo : Tryd.prog.follows .mixedOrders = true := by kernel_rfl
theorem sz3 : szB Tryd.prog 3 = some 1 := by kernel_rfl
theorem sz9 : szB Tryd.prog 9 = some 1 := by kernel_rfl
theorem sz29 : szB Tryd.prog 29 = some 1 := by kernel_rfl
theorem sz31 : szB Tryd.prog 31 = some 2 := by kernel_rfl
theorem sz34 : szB Tryd.prog 34 = some 2 := by kernel_rfl
theorem un3 : Tryd.prog.underlying 3 = some (.int .i64) := by kernel_rfl
theorem un5 : Tryd.prog.underlying 5 = some (.int .u8) := by kernel_rfl
theorem un9 : Tryd.prog.underlying 9 = some (.string) := by kernel_rfl
theorem un29 : Tryd.prog.underlying 29 = some (.slice 3) := by kernel_rfl
theorem un64 : Tryd.prog.underlying 64 = some (.slice 9) := by kernel_rfl
theorem un75 : Tryd.prog.underlying 75 = some (.slice 5) := by kernel_rfl
theorem ze34 : zeroB Tryd.prog 34 = some (.agg #[.int .i64 0, .slice none 0 0]) := by kernel_rfl
end Go.Proofs.YteablpohefcohaaDoor
