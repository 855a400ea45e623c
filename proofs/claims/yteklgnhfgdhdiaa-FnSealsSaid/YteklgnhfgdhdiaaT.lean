/- Types and facts. -/
import Derived.Test.YteklgnhfgdhdiaaY1
import Derived.Test.YteklgnhfgdhdiaaRows
namespace Go.Proofs.Yteklgnhfgdhdiaa
open Go Go.Z Go.Proofs Go.MuLone Go.ChangeShapes Go.WideShapes Go.ChangeAt Go.RowKit
set_option linter.unusedVariables false
set_option linter.unusedSimpArgs false
structure S_l00Src where
  code : List Int
  at_ : Int
  seed : Int
def z_l00Src : S_l00Src := ⟨[], 0, 0⟩

def L_spec_l00Src : Lay S_l00Src := Lay.map (Lay.pair (Lay.sl (Lay.int .u8) 5) (Lay.pair (Lay.int .i64) (Lay.int .i64))) (fun x => (x.code, (x.at_, x.seed)))
theorem ag3 : aggB Try.prog 3 = some false := by kernel_rfl
theorem ag5 : aggB Try.prog 5 = some false := by kernel_rfl
theorem ag9 : aggB Try.prog 9 = some false := by kernel_rfl
theorem ag22 : aggB Try.prog 22 = some false := by kernel_rfl
theorem ag41 : aggB Try.prog 41 = some true := by kernel_rfl
theorem ag61 : aggB Try.prog 61 = some false := by kernel_rfl
theorem ag67 : aggB Try.prog 67 = some false := by kernel_rfl
theorem ag88 : aggB Try.prog 88 = some false := by kernel_rfl
theorem ag97 : aggB Try.prog 97 = some false := by kernel_rfl
theorem ag99 : aggB Try.prog 99 = some true := by kernel_rfl
theorem ag103 : aggB Try.prog 103 = some true := by kernel_rfl
theorem ag117 : aggB Try.prog 117 = some true := by kernel_rfl
theorem ag131 : aggB Try.prog 131 = some true := by kernel_rfl
theorem bd41_7 (x0 : Int) (x1 : Int) (x2 : Int) (x3 : Int) : Try.prog.built 41 [(0, .int .i64 x0), (1, .int .i64 x1), (2, .int .i64 x2), (3, .int .i64 x3)] = some #[.int .i64 x0, .int .i64 x1, .int .i64 x2, .int .i64 x3] := by kernel_rfl
theorem bd84_0 (A0 : Option Addr) (n0 c0 : Nat) (x1 : Int) : Try.prog.built 84 [(0, .slice A0 n0 c0), (2, .int .i64 x1)] = some #[.slice A0 n0 c0, .int .i64 0, .int .i64 x1] := by kernel_rfl
theorem bd99_6 (x0 : Int) (x1 : Int) (x2 : Int) (x3 : Int) (x4 : Int) : Try.prog.built 99 [(0, .int .u64 x0), (1, .int .u64 x1), (2, .int .u64 x2), (3, .int .u64 x3), (4, .int .u64 x4)] = some #[.int .u64 x0, .int .u64 x1, .int .u64 x2, .int .u64 x3, .int .u64 x4] := by kernel_rfl
theorem bd103_10  : Try.prog.built 103 [] = some #[.int .i64 0, .int .i64 0, .int .i64 0, .int .i64 0, .int .i64 0] := by kernel_rfl
theorem bd117_4 (x0 : Int) (x1 : Int) : Try.prog.built 117 [(0, .int .i64 x0), (1, .int .i64 x1)] = some #[.int .i64 x0, .int .i64 x1] := by kernel_rfl
theorem bd118_5 (x1 : Int) (x2 : Int) (x4 : Int) (x5 : Int) : Try.prog.built 118 [(0, .agg #[.int .i64 x1, .int .i64 x2]), (1, .agg #[.int .i64 x4, .int .i64 x5])] = some #[.int .i64 x1, .int .i64 x2, .int .i64 x4, .int .i64 x5] := by kernel_rfl
theorem bd131_9  : Try.prog.built 131 [] = some #[.int .i64 0, .int .i64 0, .int .i64 0, .int .i64 0, .int .i64 0, .int .i64 0, .int .i64 0, .int .i64 0, .int .i64 0, .int .i64 0, .int .i64 0, .int .i64 0, .int .i64 0, .int .i64 0, .int .i64 0, .int .i64 0] := by kernel_rfl
theorem bs3_2 (x0 : Int) (x1 : Int) (x2 : Int) (x3 : Int) (x4 : Int) (x5 : Int) : sliceB Try.prog 3 6 [(0, .int .i64 x0), (1, .int .i64 x1), (2, .int .i64 x2), (3, .int .i64 x3), (4, .int .i64 x4), (5, .int .i64 x5)] = some #[.int .i64 x0, .int .i64 x1, .int .i64 x2, .int .i64 x3, .int .i64 x4, .int .i64 x5] := by kernel_rfl
theorem bs3_11 (x0 : Int) : sliceB Try.prog 3 1 [(0, .int .i64 x0)] = some #[.int .i64 x0] := by kernel_rfl
theorem bs5_1 (x0 : Int) : sliceB Try.prog 5 1 [(0, .int .u8 x0)] = some #[.int .u8 x0] := by kernel_rfl
theorem bs5_8 (x0 : Int) (x1 : Int) (x2 : Int) (x3 : Int) : sliceB Try.prog 5 4 [(0, .int .u8 x0), (1, .int .u8 x1), (2, .int .u8 x2), (3, .int .u8 x3)] = some #[.int .u8 x0, .int .u8 x1, .int .u8 x2, .int .u8 x3] := by kernel_rfl
theorem bs9_3 (x0 : ByteArray) (x1 : ByteArray) : sliceB Try.prog 9 2 [(0, .string x0), (1, .string x1)] = some #[.string x0, .string x1] := by kernel_rfl
theorem bs9_12 (x0 : ByteArray) : sliceB Try.prog 9 1 [(0, .string x0)] = some #[.string x0] := by kernel_rfl
theorem en8 : Enters Try.prog 8 := run_callFunc_enter Try.func8 (by kernel_rfl) rfl
theorem en11 : Enters Try.prog 11 := run_callFunc_enter Try.func11 (by kernel_rfl) rfl
theorem en16 : Enters Try.prog 16 := run_callFunc_enter Try.func16 (by kernel_rfl) rfl
theorem en35 : Enters Try.prog 35 := run_callFunc_enter Try.func35 (by kernel_rfl) rfl
theorem en36 : Enters Try.prog 36 := run_callFunc_enter Try.func36 (by kernel_rfl) rfl
theorem en37 : Enters Try.prog 37 := run_callFunc_enter Try.func37 (by kernel_rfl) rfl
theorem en38 : Enters Try.prog 38 := run_callFunc_enter Try.func38 (by kernel_rfl) rfl
theorem en39 : Enters Try.prog 39 := run_callFunc_enter Try.func39 (by kernel_rfl) rfl
theorem en40 : Enters Try.prog 40 := run_callFunc_enter Try.func40 (by kernel_rfl) rfl
theorem en41 : Enters Try.prog 41 := run_callFunc_enter Try.func41 (by kernel_rfl) rfl
theorem en42 : Enters Try.prog 42 := run_callFunc_enter Try.func42 (by kernel_rfl) rfl
theorem en43 : Enters Try.prog 43 := run_callFunc_enter Try.func43 (by kernel_rfl) rfl
theorem en44 : Enters Try.prog 44 := run_callFunc_enter Try.func44 (by kernel_rfl) rfl
theorem en45 : Enters Try.prog 45 := run_callFunc_enter Try.func45 (by kernel_rfl) rfl
theorem en50 : Enters Try.prog 50 := run_callFunc_enter Try.func50 (by kernel_rfl) rfl
theorem en51 : Enters Try.prog 51 := run_callFunc_enter Try.func51 (by kernel_rfl) rfl
theorem en52 : Enters Try.prog 52 := run_callFunc_enter Try.func52 (by kernel_rfl) rfl
theorem en53 : Enters Try.prog 53 := run_callFunc_enter Try.func53 (by kernel_rfl) rfl
theorem en54 : Enters Try.prog 54 := run_callFunc_enter Try.func54 (by kernel_rfl) rfl
theorem en55 : Enters Try.prog 55 := run_callFunc_enter Try.func55 (by kernel_rfl) rfl
theorem en56 : Enters Try.prog 56 := run_callFunc_enter Try.func56 (by kernel_rfl) rfl
theorem en57 : Enters Try.prog 57 := run_callFunc_enter Try.func57 (by kernel_rfl) rfl
theorem en59 : Enters Try.prog 59 := run_callFunc_enter Try.func59 (by kernel_rfl) rfl
theorem en61 : Enters Try.prog 61 := run_callFunc_enter Try.func61 (by kernel_rfl) rfl
theorem en63 : Enters Try.prog 63 := run_callFunc_enter Try.func63 (by kernel_rfl) rfl
theorem en64 : Enters Try.prog 64 := run_callFunc_enter Try.func64 (by kernel_rfl) rfl
theorem en65 : Enters Try.prog 65 := run_callFunc_enter Try.func65 (by kernel_rfl) rfl
theorem en66 : Enters Try.prog 66 := run_callFunc_enter Try.func66 (by kernel_rfl) rfl
theorem en67 : Enters Try.prog 67 := run_callFunc_enter Try.func67 (by kernel_rfl) rfl
theorem en68 : Enters Try.prog 68 := run_callFunc_enter Try.func68 (by kernel_rfl) rfl
theorem en70 : Enters Try.prog 70 := run_callFunc_enter Try.func70 (by kernel_rfl) rfl
theorem en72 : Enters Try.prog 72 := run_callFunc_enter Try.func72 (by kernel_rfl) rfl
theorem en73 : Enters Try.prog 73 := run_callFunc_enter Try.func73 (by kernel_rfl) rfl
theorem en74 : Enters Try.prog 74 := run_callFunc_enter Try.func74 (by kernel_rfl) rfl
theorem en76 : Enters Try.prog 76 := run_callFunc_enter Try.func76 (by kernel_rfl) rfl
theorem en77 : Enters Try.prog 77 := run_callFunc_enter Try.func77 (by kernel_rfl) rfl
theorem en78 : Enters Try.prog 78 := run_callFunc_enter Try.func78 (by kernel_rfl) rfl
theorem en79 : Enters Try.prog 79 := run_callFunc_enter Try.func79 (by kernel_rfl) rfl
theorem en80 : Enters Try.prog 80 := run_callFunc_enter Try.func80 (by kernel_rfl) rfl
theorem en81 : Enters Try.prog 81 := run_callFunc_enter Try.func81 (by kernel_rfl) rfl
theorem en82 : Enters Try.prog 82 := run_callFunc_enter Try.func82 (by kernel_rfl) rfl
theorem en83 : Enters Try.prog 83 := run_callFunc_enter Try.func83 (by kernel_rfl) rfl
theorem en84 : Enters Try.prog 84 := run_callFunc_enter Try.func84 (by kernel_rfl) rfl
theorem en85 : Enters Try.prog 85 := run_callFunc_enter Try.func85 (by kernel_rfl) rfl
theorem en86 : Enters Try.prog 86 := run_callFunc_enter Try.func86 (by kernel_rfl) rfl
theorem en87 : Enters Try.prog 87 := run_callFunc_enter Try.func87 (by kernel_rfl) rfl
theorem en88 : Enters Try.prog 88 := run_callFunc_enter Try.func88 (by kernel_rfl) rfl
theorem en94 : Enters Try.prog 94 := run_callFunc_enter Try.func94 (by kernel_rfl) rfl
theorem en95 : Enters Try.prog 95 := run_callFunc_enter Try.func95 (by kernel_rfl) rfl
theorem en96 : Enters Try.prog 96 := run_callFunc_enter Try.func96 (by kernel_rfl) rfl
theorem en97 : Enters Try.prog 97 := run_callFunc_enter Try.func97 (by kernel_rfl) rfl
theorem en98 : Enters Try.prog 98 := run_callFunc_enter Try.func98 (by kernel_rfl) rfl
theorem en99 : Enters Try.prog 99 := run_callFunc_enter Try.func99 (by kernel_rfl) rfl
theorem en100 : Enters Try.prog 100 := run_callFunc_enter Try.func100 (by kernel_rfl) rfl
theorem en101 : Enters Try.prog 101 := run_callFunc_enter Try.func101 (by kernel_rfl) rfl
theorem en102 : Enters Try.prog 102 := run_callFunc_enter Try.func102 (by kernel_rfl) rfl
theorem en103 : Enters Try.prog 103 := run_callFunc_enter Try.func103 (by kernel_rfl) rfl
theorem en104 : Enters Try.prog 104 := run_callFunc_enter Try.func104 (by kernel_rfl) rfl
theorem en105 : Enters Try.prog 105 := run_callFunc_enter Try.func105 (by kernel_rfl) rfl
theorem en106 : Enters Try.prog 106 := run_callFunc_enter Try.func106 (by kernel_rfl) rfl
theorem en107 : Enters Try.prog 107 := run_callFunc_enter Try.func107 (by kernel_rfl) rfl
theorem en108 : Enters Try.prog 108 := run_callFunc_enter Try.func108 (by kernel_rfl) rfl
theorem en109 : Enters Try.prog 109 := run_callFunc_enter Try.func109 (by kernel_rfl) rfl
theorem en110 : Enters Try.prog 110 := run_callFunc_enter Try.func110 (by kernel_rfl) rfl
theorem en111 : Enters Try.prog 111 := run_callFunc_enter Try.func111 (by kernel_rfl) rfl
theorem en112 : Enters Try.prog 112 := run_callFunc_enter Try.func112 (by kernel_rfl) rfl
theorem en113 : Enters Try.prog 113 := run_callFunc_enter Try.func113 (by kernel_rfl) rfl
theorem en114 : Enters Try.prog 114 := run_callFunc_enter Try.func114 (by kernel_rfl) rfl
theorem en116 : Enters Try.prog 116 := run_callFunc_enter Try.func116 (by kernel_rfl) rfl
theorem en117 : Enters Try.prog 117 := run_callFunc_enter Try.func117 (by kernel_rfl) rfl
theorem en118 : Enters Try.prog 118 := run_callFunc_enter Try.func118 (by kernel_rfl) rfl
theorem en119 : Enters Try.prog 119 := run_callFunc_enter Try.func119 (by kernel_rfl) rfl
theorem en120 : Enters Try.prog 120 := run_callFunc_enter Try.func120 (by kernel_rfl) rfl
theorem en121 : Enters Try.prog 121 := run_callFunc_enter Try.func121 (by kernel_rfl) rfl
theorem en129 : Enters Try.prog 129 := run_callFunc_enter Try.func129 (by kernel_rfl) rfl
theorem en130 : Enters Try.prog 130 := run_callFunc_enter Try.func130 (by kernel_rfl) rfl
theorem en132 : Enters Try.prog 132 := run_callFunc_enter Try.func132 (by kernel_rfl) rfl
theorem en133 : Enters Try.prog 133 := run_callFunc_enter Try.func133 (by kernel_rfl) rfl
theorem en134 : Enters Try.prog 134 := run_callFunc_enter Try.func134 (by kernel_rfl) rfl
theorem en135 : Enters Try.prog 135 := run_callFunc_enter Try.func135 (by kernel_rfl) rfl
theorem en136 : Enters Try.prog 136 := run_callFunc_enter Try.func136 (by kernel_rfl) rfl
theorem en137 : Enters Try.prog 137 := run_callFunc_enter Try.func137 (by kernel_rfl) rfl
theorem en138 : Enters Try.prog 138 := run_callFunc_enter Try.func138 (by kernel_rfl) rfl
theorem fd84_0 : fldB Try.prog 84 0 = some 0 := by kernel_rfl
theorem fd84_1 : fldB Try.prog 84 1 = some 1 := by kernel_rfl
theorem fd84_2 : fldB Try.prog 84 2 = some 2 := by kernel_rfl
theorem lz5 : ((Lay.int .u8)).own 0 [.int .u8 0] [] := ⟨rfl, rfl⟩
theorem mk3 : mkB Try.prog 3 = some (.int .i64 0, 1) := by kernel_rfl
theorem mk5 : mkB Try.prog 5 = some (.int .u8 0, 1) := by kernel_rfl
theorem mo : Try.prog.follows .mixedOrders = true := by kernel_rfl
theorem sz3 : szB Try.prog 3 = some 1 := by kernel_rfl
theorem sz5 : szB Try.prog 5 = some 1 := by kernel_rfl
theorem sz9 : szB Try.prog 9 = some 1 := by kernel_rfl
theorem sz41 : szB Try.prog 41 = some 4 := by kernel_rfl
theorem sz67 : szB Try.prog 67 = some 1 := by kernel_rfl
theorem sz97 : szB Try.prog 97 = some 1 := by kernel_rfl
theorem sz99 : szB Try.prog 99 = some 5 := by kernel_rfl
theorem sz103 : szB Try.prog 103 = some 5 := by kernel_rfl
theorem sz117 : szB Try.prog 117 = some 2 := by kernel_rfl
theorem sz131 : szB Try.prog 131 = some 16 := by kernel_rfl
theorem un3 : Try.prog.underlying 3 = some (.int .i64) := by kernel_rfl
theorem un5 : Try.prog.underlying 5 = some (.int .u8) := by kernel_rfl
theorem un9 : Try.prog.underlying 9 = some (.string) := by kernel_rfl
theorem un22 : Try.prog.underlying 22 = some (.slice 5) := by kernel_rfl
theorem un41 : Try.prog.underlying 41 = some (.array 4 3) := by kernel_rfl
theorem un47 : Try.prog.underlying 47 = some (.slice 3) := by kernel_rfl
theorem un67 : Try.prog.underlying 67 = some (.int .u32) := by kernel_rfl
theorem un86 : Try.prog.underlying 86 = some (.slice 9) := by kernel_rfl
theorem un96 : Try.prog.underlying 96 = some (.int .u64) := by kernel_rfl
theorem un97 : Try.prog.underlying 97 = some (.int .u64) := by kernel_rfl
theorem un99 : Try.prog.underlying 99 = some (.array 5 97) := by kernel_rfl
theorem un103 : Try.prog.underlying 103 = some (.array 5 3) := by kernel_rfl
theorem un115 : Try.prog.underlying 115 = some (.array 16 67) := by kernel_rfl
theorem un117 : Try.prog.underlying 117 = some (.array 2 3) := by kernel_rfl
theorem un118 : Try.prog.underlying 118 = some (.array 2 117) := by kernel_rfl
theorem un131 : Try.prog.underlying 131 = some (.array 16 3) := by kernel_rfl
theorem ze41 : zeroB Try.prog 41 = some (.agg #[.int .i64 0, .int .i64 0, .int .i64 0, .int .i64 0]) := by kernel_rfl
theorem ze99 : zeroB Try.prog 99 = some (.agg #[.int .u64 0, .int .u64 0, .int .u64 0, .int .u64 0, .int .u64 0]) := by kernel_rfl
theorem ze103 : zeroB Try.prog 103 = some (.agg #[.int .i64 0, .int .i64 0, .int .i64 0, .int .i64 0, .int .i64 0]) := by kernel_rfl
theorem ze115 : zeroB Try.prog 115 = some (.agg #[.int .u32 0, .int .u32 0, .int .u32 0, .int .u32 0, .int .u32 0, .int .u32 0, .int .u32 0, .int .u32 0, .int .u32 0, .int .u32 0, .int .u32 0, .int .u32 0, .int .u32 0, .int .u32 0, .int .u32 0, .int .u32 0]) := by kernel_rfl
theorem ze117 : zeroB Try.prog 117 = some (.agg #[.int .i64 0, .int .i64 0]) := by kernel_rfl
theorem ze131 : zeroB Try.prog 131 = some (.agg #[.int .i64 0, .int .i64 0, .int .i64 0, .int .i64 0, .int .i64 0, .int .i64 0, .int .i64 0, .int .i64 0, .int .i64 0, .int .i64 0, .int .i64 0, .int .i64 0, .int .i64 0, .int .i64 0, .int .i64 0, .int .i64 0]) := by kernel_rfl
end Go.Proofs.Yteklgnhfgdhdiaa
