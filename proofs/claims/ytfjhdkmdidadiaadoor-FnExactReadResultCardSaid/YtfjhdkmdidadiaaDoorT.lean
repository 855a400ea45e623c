/- Types and facts. -/
import Derived.Test.YtfjhdkmdidadiaaDoorY2
import Derived.Test.YtfjhdkmdidadiaaDoorRows
namespace Go.Proofs.YtfjhdkmdidadiaaDoor
open Go Go.Z Go.Proofs Go.MuLone Go.ChangeShapes Go.WideShapes Go.ChangeAt Go.RowKit
set_option linter.unusedVariables false
set_option linter.unusedSimpArgs false
structure S_Result where
  Code : Int
  Values : List Int
def z_Result : S_Result := ⟨0, []⟩

def L_impl_Result : Lay S_Result := Lay.map (Lay.pair (Lay.int .i64) (Lay.sl (Lay.int .i64) 3)) (fun x => (x.Code, x.Values))
theorem ag3 : aggB Tryd.prog 3 = some false := by kernel_rfl
theorem ag9 : aggB Tryd.prog 9 = some false := by kernel_rfl
theorem ag29 : aggB Tryd.prog 29 = some false := by kernel_rfl
theorem ag34 : aggB Tryd.prog 34 = some true := by kernel_rfl
theorem ag48 : aggB Tryd.prog 48 = some false := by kernel_rfl
theorem ag83 : aggB Tryd.prog 83 = some false := by kernel_rfl
theorem bd34_3  : Tryd.prog.built 34 [] = some #[.int .i64 0, .slice none 0 0] := by kernel_rfl
theorem bd34_4 (A0 : Option Addr) (n0 c0 : Nat) : Tryd.prog.built 34 [(1, .slice A0 n0 c0)] = some #[.int .i64 0, .slice A0 n0 c0] := by kernel_rfl
theorem bd34_6 (x0 : Int) (A1 : Option Addr) (n1 c1 : Nat) : Tryd.prog.built 34 [(0, .int .i64 x0), (1, .slice A1 n1 c1)] = some #[.int .i64 x0, .slice A1 n1 c1] := by kernel_rfl
theorem bs3_5 (x0 : Int) : sliceB Tryd.prog 3 1 [(0, .int .i64 x0)] = some #[.int .i64 x0] := by kernel_rfl
theorem bs5_2 (x0 : Int) : sliceB Tryd.prog 5 1 [(0, .int .u8 x0)] = some #[.int .u8 x0] := by kernel_rfl
theorem bs9_0 (x0 : ByteArray) : sliceB Tryd.prog 9 1 [(0, .string x0)] = some #[.string x0] := by kernel_rfl
theorem bs9_1 (x0 : ByteArray) (x1 : ByteArray) (x2 : ByteArray) (x3 : ByteArray) (x4 : ByteArray) (x5 : ByteArray) (x6 : ByteArray) (x7 : ByteArray) (x8 : ByteArray) (x9 : ByteArray) (x10 : ByteArray) (x11 : ByteArray) (x12 : ByteArray) (x13 : ByteArray) (x14 : ByteArray) (x15 : ByteArray) (x16 : ByteArray) (x17 : ByteArray) (x18 : ByteArray) (x19 : ByteArray) : sliceB Tryd.prog 9 20 [(0, .string x0), (1, .string x1), (2, .string x2), (3, .string x3), (4, .string x4), (5, .string x5), (6, .string x6), (7, .string x7), (8, .string x8), (9, .string x9), (10, .string x10), (11, .string x11), (12, .string x12), (13, .string x13), (14, .string x14), (15, .string x15), (16, .string x16), (17, .string x17), (18, .string x18), (19, .string x19)] = some #[.string x0, .string x1, .string x2, .string x3, .string x4, .string x5, .string x6, .string x7, .string x8, .string x9, .string x10, .string x11, .string x12, .string x13, .string x14, .string x15, .string x16, .string x17, .string x18, .string x19] := by kernel_rfl
theorem en15 : Enters Tryd.prog 15 := run_callFunc_enter Tryd.func15 (by kernel_rfl) rfl
theorem en24 : Enters Tryd.prog 24 := run_callFunc_enter Tryd.func24 (by kernel_rfl) rfl
theorem en25 : Enters Tryd.prog 25 := run_callFunc_enter Tryd.func25 (by kernel_rfl) rfl
theorem en26 : Enters Tryd.prog 26 := run_callFunc_enter Tryd.func26 (by kernel_rfl) rfl
theorem en27 : Enters Tryd.prog 27 := run_callFunc_enter Tryd.func27 (by kernel_rfl) rfl
theorem en33 : Enters Tryd.prog 33 := run_callFunc_enter Tryd.func33 (by kernel_rfl) rfl
theorem en36 : Enters Tryd.prog 36 := run_callFunc_enter Tryd.func36 (by kernel_rfl) rfl
theorem en38 : Enters Tryd.prog 38 := run_callFunc_enter Tryd.func38 (by kernel_rfl) rfl
theorem en47 : Enters Tryd.prog 47 := run_callFunc_enter Tryd.func47 (by kernel_rfl) rfl
theorem en49 : Enters Tryd.prog 49 := run_callFunc_enter Tryd.func49 (by kernel_rfl) rfl
theorem en50 : Enters Tryd.prog 50 := run_callFunc_enter Tryd.func50 (by kernel_rfl) rfl
theorem en51 : Enters Tryd.prog 51 := run_callFunc_enter Tryd.func51 (by kernel_rfl) rfl
theorem en52 : Enters Tryd.prog 52 := run_callFunc_enter Tryd.func52 (by kernel_rfl) rfl
theorem en53 : Enters Tryd.prog 53 := run_callFunc_enter Tryd.func53 (by kernel_rfl) rfl
theorem en54 : Enters Tryd.prog 54 := run_callFunc_enter Tryd.func54 (by kernel_rfl) rfl
theorem en55 : Enters Tryd.prog 55 := run_callFunc_enter Tryd.func55 (by kernel_rfl) rfl
theorem en56 : Enters Tryd.prog 56 := run_callFunc_enter Tryd.func56 (by kernel_rfl) rfl
theorem en57 : Enters Tryd.prog 57 := run_callFunc_enter Tryd.func57 (by kernel_rfl) rfl
theorem en59 : Enters Tryd.prog 59 := run_callFunc_enter Tryd.func59 (by kernel_rfl) rfl
theorem en60 : Enters Tryd.prog 60 := run_callFunc_enter Tryd.func60 (by kernel_rfl) rfl
theorem en63 : Enters Tryd.prog 63 := run_callFunc_enter Tryd.func63 (by kernel_rfl) rfl
theorem en65 : Enters Tryd.prog 65 := run_callFunc_enter Tryd.func65 (by kernel_rfl) rfl
theorem en66 : Enters Tryd.prog 66 := run_callFunc_enter Tryd.func66 (by kernel_rfl) rfl
theorem en67 : Enters Tryd.prog 67 := run_callFunc_enter Tryd.func67 (by kernel_rfl) rfl
theorem en68 : Enters Tryd.prog 68 := run_callFunc_enter Tryd.func68 (by kernel_rfl) rfl
theorem en79 : Enters Tryd.prog 79 := run_callFunc_enter Tryd.func79 (by kernel_rfl) rfl
theorem en80 : Enters Tryd.prog 80 := run_callFunc_enter Tryd.func80 (by kernel_rfl) rfl
theorem en81 : Enters Tryd.prog 81 := run_callFunc_enter Tryd.func81 (by kernel_rfl) rfl
theorem en82 : Enters Tryd.prog 82 := run_callFunc_enter Tryd.func82 (by kernel_rfl) rfl
theorem en83 : Enters Tryd.prog 83 := run_callFunc_enter Tryd.func83 (by kernel_rfl) rfl
theorem en84 : Enters Tryd.prog 84 := run_callFunc_enter Tryd.func84 (by kernel_rfl) rfl
theorem en85 : Enters Tryd.prog 85 := run_callFunc_enter Tryd.func85 (by kernel_rfl) rfl
theorem en86 : Enters Tryd.prog 86 := run_callFunc_enter Tryd.func86 (by kernel_rfl) rfl
theorem en87 : Enters Tryd.prog 87 := run_callFunc_enter Tryd.func87 (by kernel_rfl) rfl
theorem en89 : Enters Tryd.prog 89 := run_callFunc_enter Tryd.func89 (by kernel_rfl) rfl
theorem en90 : Enters Tryd.prog 90 := run_callFunc_enter Tryd.func90 (by kernel_rfl) rfl
theorem en97 : Enters Tryd.prog 97 := run_callFunc_enter Tryd.func97 (by kernel_rfl) rfl
theorem en98 : Enters Tryd.prog 98 := run_callFunc_enter Tryd.func98 (by kernel_rfl) rfl
theorem en99 : Enters Tryd.prog 99 := run_callFunc_enter Tryd.func99 (by kernel_rfl) rfl
theorem en101 : Enters Tryd.prog 101 := run_callFunc_enter Tryd.func101 (by kernel_rfl) rfl
theorem en102 : Enters Tryd.prog 102 := run_callFunc_enter Tryd.func102 (by kernel_rfl) rfl
theorem en104 : Enters Tryd.prog 104 := run_callFunc_enter Tryd.func104 (by kernel_rfl) rfl
theorem en113 : Enters Tryd.prog 113 := run_callFunc_enter Tryd.func113 (by kernel_rfl) rfl
theorem en127 : Enters Tryd.prog 127 := run_callFunc_enter Tryd.func127 (by kernel_rfl) rfl
theorem fd34_0 : fldB Tryd.prog 34 0 = some 0 := by kernel_rfl
theorem fd34_1 : fldB Tryd.prog 34 1 = some 1 := by kernel_rfl
theorem mk3 : mkB Tryd.prog 3 = some (.int .i64 0, 1) := by kernel_rfl
theorem mk9 : mkB Tryd.prog 9 = some (.string ⟨#[]⟩, 1) := by kernel_rfl
theorem mo : Tryd.prog.follows .mixedOrders = true := by kernel_rfl
theorem sz3 : szB Tryd.prog 3 = some 1 := by kernel_rfl
theorem sz9 : szB Tryd.prog 9 = some 1 := by kernel_rfl
theorem sz29 : szB Tryd.prog 29 = some 1 := by kernel_rfl
theorem sz34 : szB Tryd.prog 34 = some 2 := by kernel_rfl
theorem un3 : Tryd.prog.underlying 3 = some (.int .i64) := by kernel_rfl
theorem un5 : Tryd.prog.underlying 5 = some (.int .u8) := by kernel_rfl
theorem un9 : Tryd.prog.underlying 9 = some (.string) := by kernel_rfl
theorem un29 : Tryd.prog.underlying 29 = some (.slice 3) := by kernel_rfl
theorem un73 : Tryd.prog.underlying 73 = some (.slice 9) := by kernel_rfl
theorem un96 : Tryd.prog.underlying 96 = some (.slice 5) := by kernel_rfl
theorem uni103 : Tryd.prog.underlying 103 = some (.interface (Tryd.prog.methodsAt 103)) := by kernel_rfl
theorem ze9 : zeroB Tryd.prog 9 = some (.string ⟨#[]⟩) := by kernel_rfl
theorem ze34 : zeroB Tryd.prog 34 = some (.agg #[.int .i64 0, .slice none 0 0]) := by kernel_rfl
end Go.Proofs.YtfjhdkmdidadiaaDoor
