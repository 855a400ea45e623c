/- Types and facts. -/
import Derived.Test.YteklgnhfgdhdiaaZ28
import Derived.Test.YteklgnhfgdhdiaaRows
namespace Go.Proofs.Yteklgnhfgdhdiaa
open Go Go.Z Go.Proofs Go.MuLone Go.ChangeShapes Go.WideShapes Go.ChangeAt Go.RowKit
set_option linter.unusedVariables false
set_option linter.unusedSimpArgs false
structure S_l00Src where
  code : List Int
  at_ : Int
  seed : Int
def z_l00Src : S_l00Src := ⟨[], 0, 0⟩

def L_spec_l00Src : Lay S_l00Src := Lay.map (Lay.pair (Lay.sl (Lay.int .u8) 5) (Lay.pair (Lay.int .i64) (Lay.int .i64))) (fun x => (x.code, (x.at_, x.seed)))
theorem ag3 : aggB Try.prog 3 = some false := by kernel_rfl
theorem ag5 : aggB Try.prog 5 = some false := by kernel_rfl
theorem ag9 : aggB Try.prog 9 = some false := by kernel_rfl
theorem ag22 : aggB Try.prog 22 = some false := by kernel_rfl
theorem ag41 : aggB Try.prog 41 = some true := by kernel_rfl
theorem ag61 : aggB Try.prog 61 = some false := by kernel_rfl
theorem ag67 : aggB Try.prog 67 = some false := by kernel_rfl
theorem ag88 : aggB Try.prog 88 = some false := by kernel_rfl
theorem ag117 : aggB Try.prog 117 = some true := by kernel_rfl
theorem ag131 : aggB Try.prog 131 = some true := by kernel_rfl
theorem bd41_6 (x0 : Int) (x1 : Int) (x2 : Int) (x3 : Int) : Try.prog.built 41 [(0, .int .i64 x0), (1, .int .i64 x1), (2, .int .i64 x2), (3, .int .i64 x3)] = some #[.int .i64 x0, .int .i64 x1, .int .i64 x2, .int .i64 x3] := by kernel_rfl
theorem bd41_9  : Try.prog.built 41 [] = some #[.int .i64 0, .int .i64 0, .int .i64 0, .int .i64 0] := by kernel_rfl
theorem bd84_0 (A0 : Option Addr) (n0 c0 : Nat) (x1 : Int) : Try.prog.built 84 [(0, .slice A0 n0 c0), (2, .int .i64 x1)] = some #[.slice A0 n0 c0, .int .i64 0, .int .i64 x1] := by kernel_rfl
theorem bd117_3 (x0 : Int) (x1 : Int) : Try.prog.built 117 [(0, .int .i64 x0), (1, .int .i64 x1)] = some #[.int .i64 x0, .int .i64 x1] := by kernel_rfl
theorem bd118_4 (x1 : Int) (x2 : Int) (x4 : Int) (x5 : Int) : Try.prog.built 118 [(0, .agg #[.int .i64 x1, .int .i64 x2]), (1, .agg #[.int .i64 x4, .int .i64 x5])] = some #[.int .i64 x1, .int .i64 x2, .int .i64 x4, .int .i64 x5] := by kernel_rfl
theorem bd131_8  : Try.prog.built 131 [] = some #[.int .i64 0, .int .i64 0, .int .i64 0, .int .i64 0, .int .i64 0, .int .i64 0, .int .i64 0, .int .i64 0, .int .i64 0, .int .i64 0, .int .i64 0, .int .i64 0, .int .i64 0, .int .i64 0, .int .i64 0, .int .i64 0] := by kernel_rfl
theorem bs5_1 (x0 : Int) : sliceB Try.prog 5 1 [(0, .int .u8 x0)] = some #[.int .u8 x0] := by kernel_rfl
theorem bs5_7 (x0 : Int) (x1 : Int) (x2 : Int) (x3 : Int) : sliceB Try.prog 5 4 [(0, .int .u8 x0), (1, .int .u8 x1), (2, .int .u8 x2), (3, .int .u8 x3)] = some #[.int .u8 x0, .int .u8 x1, .int .u8 x2, .int .u8 x3] := by kernel_rfl
theorem bs9_2 (x0 : ByteArray) (x1 : ByteArray) : sliceB Try.prog 9 2 [(0, .string x0), (1, .string x1)] = some #[.string x0, .string x1] := by kernel_rfl
theorem bs9_5 (x0 : ByteArray) : sliceB Try.prog 9 1 [(0, .string x0)] = some #[.string x0] := by kernel_rfl
theorem cz_3 : Try.prog.cellsOf 3 = 1 := by kernel_rfl
theorem eg41 : Try.prog.eqGuardType Try.prog.depth 41 = false := by kernel_rfl
theorem en11 : Enters Try.prog 11 := run_callFunc_enter Try.func11 (by kernel_rfl) rfl
theorem en16 : Enters Try.prog 16 := run_callFunc_enter Try.func16 (by kernel_rfl) rfl
theorem en22 : Enters Try.prog 22 := run_callFunc_enter Try.func22 (by kernel_rfl) rfl
theorem en23 : Enters Try.prog 23 := run_callFunc_enter Try.func23 (by kernel_rfl) rfl
theorem en24 : Enters Try.prog 24 := run_callFunc_enter Try.func24 (by kernel_rfl) rfl
theorem en25 : Enters Try.prog 25 := run_callFunc_enter Try.func25 (by kernel_rfl) rfl
theorem en26 : Enters Try.prog 26 := run_callFunc_enter Try.func26 (by kernel_rfl) rfl
theorem en27 : Enters Try.prog 27 := run_callFunc_enter Try.func27 (by kernel_rfl) rfl
theorem en28 : Enters Try.prog 28 := run_callFunc_enter Try.func28 (by kernel_rfl) rfl
theorem en29 : Enters Try.prog 29 := run_callFunc_enter Try.func29 (by kernel_rfl) rfl
theorem en43 : Enters Try.prog 43 := run_callFunc_enter Try.func43 (by kernel_rfl) rfl
theorem en45 : Enters Try.prog 45 := run_callFunc_enter Try.func45 (by kernel_rfl) rfl
theorem en50 : Enters Try.prog 50 := run_callFunc_enter Try.func50 (by kernel_rfl) rfl
theorem en51 : Enters Try.prog 51 := run_callFunc_enter Try.func51 (by kernel_rfl) rfl
theorem en52 : Enters Try.prog 52 := run_callFunc_enter Try.func52 (by kernel_rfl) rfl
theorem en53 : Enters Try.prog 53 := run_callFunc_enter Try.func53 (by kernel_rfl) rfl
theorem en58 : Enters Try.prog 58 := run_callFunc_enter Try.func58 (by kernel_rfl) rfl
theorem en59 : Enters Try.prog 59 := run_callFunc_enter Try.func59 (by kernel_rfl) rfl
theorem en60 : Enters Try.prog 60 := run_callFunc_enter Try.func60 (by kernel_rfl) rfl
theorem en61 : Enters Try.prog 61 := run_callFunc_enter Try.func61 (by kernel_rfl) rfl
theorem en62 : Enters Try.prog 62 := run_callFunc_enter Try.func62 (by kernel_rfl) rfl
theorem en63 : Enters Try.prog 63 := run_callFunc_enter Try.func63 (by kernel_rfl) rfl
theorem en64 : Enters Try.prog 64 := run_callFunc_enter Try.func64 (by kernel_rfl) rfl
theorem en65 : Enters Try.prog 65 := run_callFunc_enter Try.func65 (by kernel_rfl) rfl
theorem en66 : Enters Try.prog 66 := run_callFunc_enter Try.func66 (by kernel_rfl) rfl
theorem en67 : Enters Try.prog 67 := run_callFunc_enter Try.func67 (by kernel_rfl) rfl
theorem en68 : Enters Try.prog 68 := run_callFunc_enter Try.func68 (by kernel_rfl) rfl
theorem en86 : Enters Try.prog 86 := run_callFunc_enter Try.func86 (by kernel_rfl) rfl
theorem en87 : Enters Try.prog 87 := run_callFunc_enter Try.func87 (by kernel_rfl) rfl
theorem en88 : Enters Try.prog 88 := run_callFunc_enter Try.func88 (by kernel_rfl) rfl
theorem en95 : Enters Try.prog 95 := run_callFunc_enter Try.func95 (by kernel_rfl) rfl
theorem en96 : Enters Try.prog 96 := run_callFunc_enter Try.func96 (by kernel_rfl) rfl
theorem en106 : Enters Try.prog 106 := run_callFunc_enter Try.func106 (by kernel_rfl) rfl
theorem en107 : Enters Try.prog 107 := run_callFunc_enter Try.func107 (by kernel_rfl) rfl
theorem en108 : Enters Try.prog 108 := run_callFunc_enter Try.func108 (by kernel_rfl) rfl
theorem en109 : Enters Try.prog 109 := run_callFunc_enter Try.func109 (by kernel_rfl) rfl
theorem en110 : Enters Try.prog 110 := run_callFunc_enter Try.func110 (by kernel_rfl) rfl
theorem en111 : Enters Try.prog 111 := run_callFunc_enter Try.func111 (by kernel_rfl) rfl
theorem en112 : Enters Try.prog 112 := run_callFunc_enter Try.func112 (by kernel_rfl) rfl
theorem en119 : Enters Try.prog 119 := run_callFunc_enter Try.func119 (by kernel_rfl) rfl
theorem en120 : Enters Try.prog 120 := run_callFunc_enter Try.func120 (by kernel_rfl) rfl
theorem en121 : Enters Try.prog 121 := run_callFunc_enter Try.func121 (by kernel_rfl) rfl
theorem en129 : Enters Try.prog 129 := run_callFunc_enter Try.func129 (by kernel_rfl) rfl
theorem en132 : Enters Try.prog 132 := run_callFunc_enter Try.func132 (by kernel_rfl) rfl
theorem en133 : Enters Try.prog 133 := run_callFunc_enter Try.func133 (by kernel_rfl) rfl
theorem en134 : Enters Try.prog 134 := run_callFunc_enter Try.func134 (by kernel_rfl) rfl
theorem en138 : Enters Try.prog 138 := run_callFunc_enter Try.func138 (by kernel_rfl) rfl
theorem fd84_0 : fldB Try.prog 84 0 = some 0 := by kernel_rfl
theorem fd84_1 : fldB Try.prog 84 1 = some 1 := by kernel_rfl
theorem fd84_2 : fldB Try.prog 84 2 = some 2 := by kernel_rfl
theorem mk5 : mkB Try.prog 5 = some (.int .u8 0, 1) := by kernel_rfl
theorem mo : Try.prog.follows .mixedOrders = true := by kernel_rfl
theorem sz3 : szB Try.prog 3 = some 1 := by kernel_rfl
theorem sz5 : szB Try.prog 5 = some 1 := by kernel_rfl
theorem sz9 : szB Try.prog 9 = some 1 := by kernel_rfl
theorem sz41 : szB Try.prog 41 = some 4 := by kernel_rfl
theorem sz67 : szB Try.prog 67 = some 1 := by kernel_rfl
theorem sz117 : szB Try.prog 117 = some 2 := by kernel_rfl
theorem sz131 : szB Try.prog 131 = some 16 := by kernel_rfl
theorem un3 : Try.prog.underlying 3 = some (.int .i64) := by kernel_rfl
theorem un5 : Try.prog.underlying 5 = some (.int .u8) := by kernel_rfl
theorem un9 : Try.prog.underlying 9 = some (.string) := by kernel_rfl
theorem un22 : Try.prog.underlying 22 = some (.slice 5) := by kernel_rfl
theorem un41 : Try.prog.underlying 41 = some (.array 4 3) := by kernel_rfl
theorem un47 : Try.prog.underlying 47 = some (.slice 3) := by kernel_rfl
theorem un67 : Try.prog.underlying 67 = some (.int .u32) := by kernel_rfl
theorem un86 : Try.prog.underlying 86 = some (.slice 9) := by kernel_rfl
theorem un96 : Try.prog.underlying 96 = some (.int .u64) := by kernel_rfl
theorem un115 : Try.prog.underlying 115 = some (.array 16 67) := by kernel_rfl
theorem un117 : Try.prog.underlying 117 = some (.array 2 3) := by kernel_rfl
theorem un118 : Try.prog.underlying 118 = some (.array 2 117) := by kernel_rfl
theorem un131 : Try.prog.underlying 131 = some (.array 16 3) := by kernel_rfl
theorem ze41 : zeroB Try.prog 41 = some (.agg #[.int .i64 0, .int .i64 0, .int .i64 0, .int .i64 0]) := by kernel_rfl
theorem ze115 : zeroB Try.prog 115 = some (.agg #[.int .u32 0, .int .u32 0, .int .u32 0, .int .u32 0, .int .u32 0, .int .u32 0, .int .u32 0, .int .u32 0, .int .u32 0, .int .u32 0, .int .u32 0, .int .u32 0, .int .u32 0, .int .u32 0, .int .u32 0, .int .u32 0]) := by kernel_rfl
theorem ze117 : zeroB Try.prog 117 = some (.agg #[.int .i64 0, .int .i64 0]) := by kernel_rfl
theorem ze131 : zeroB Try.prog 131 = some (.agg #[.int .i64 0, .int .i64 0, .int .i64 0, .int .i64 0, .int .i64 0, .int .i64 0, .int .i64 0, .int .i64 0, .int .i64 0, .int .i64 0, .int .i64 0, .int .i64 0, .int .i64 0, .int .i64 0, .int .i64 0, .int .i64 0]) := by kernel_rfl
end Go.Proofs.Yteklgnhfgdhdiaa
