/- Types and facts. -/
import Derived.Test.YtmgfkpfacdlfbaaZ18
import Derived.Test.YtmgfkpfacdlfbaaRows
namespace Go.Proofs.Ytmgfkpfacdlfbaa
open Go Go.Z Go.Proofs Go.MuLone Go.ChangeShapes Go.WideShapes Go.ChangeAt Go.RowKit
set_option linter.unusedVariables false
set_option linter.unusedSimpArgs false
structure S_l00Src where
  code : List Int
  at_ : Int
  seed : Int
def z_l00Src : S_l00Src := ⟨[], 0, 0⟩

def L_spec_l00Src : Lay S_l00Src := Lay.map (Lay.pair (Lay.sl (Lay.int .u8) 5) (Lay.pair (Lay.int .i64) (Lay.int .i64))) (fun x => (x.code, (x.at_, x.seed)))
theorem ag3 : aggB Try.prog 3 = some false := by kernel_rfl
theorem ag5 : aggB Try.prog 5 = some false := by kernel_rfl
theorem ag9 : aggB Try.prog 9 = some false := by kernel_rfl
theorem ag65 : aggB Try.prog 65 = some false := by kernel_rfl
theorem ag74 : aggB Try.prog 74 = some false := by kernel_rfl
theorem bd165_0 (A0 : Option Addr) (n0 c0 : Nat) (x1 : Int) : Try.prog.built 165 [(0, .slice A0 n0 c0), (2, .int .i64 x1)] = some #[.slice A0 n0 c0, .int .i64 0, .int .i64 x1] := by kernel_rfl
theorem bs3_2 (x0 : Int) (x1 : Int) (x2 : Int) (x3 : Int) (x4 : Int) (x5 : Int) : sliceB Try.prog 3 6 [(0, .int .i64 x0), (1, .int .i64 x1), (2, .int .i64 x2), (3, .int .i64 x3), (4, .int .i64 x4), (5, .int .i64 x5)] = some #[.int .i64 x0, .int .i64 x1, .int .i64 x2, .int .i64 x3, .int .i64 x4, .int .i64 x5] := by kernel_rfl
theorem bs5_1 (x0 : Int) : sliceB Try.prog 5 1 [(0, .int .u8 x0)] = some #[.int .u8 x0] := by kernel_rfl
theorem bs5_3 (x0 : Int) (x1 : Int) : sliceB Try.prog 5 2 [(0, .int .u8 x0), (1, .int .u8 x1)] = some #[.int .u8 x0, .int .u8 x1] := by kernel_rfl
theorem bs9_4 (x0 : ByteArray) : sliceB Try.prog 9 1 [(0, .string x0)] = some #[.string x0] := by kernel_rfl
theorem en49 : Enters Try.prog 49 := run_callFunc_enter Try.func49 (by kernel_rfl) rfl
theorem en50 : Enters Try.prog 50 := run_callFunc_enter Try.func50 (by kernel_rfl) rfl
theorem en51 : Enters Try.prog 51 := run_callFunc_enter Try.func51 (by kernel_rfl) rfl
theorem en52 : Enters Try.prog 52 := run_callFunc_enter Try.func52 (by kernel_rfl) rfl
theorem en86 : Enters Try.prog 86 := run_callFunc_enter Try.func86 (by kernel_rfl) rfl
theorem en97 : Enters Try.prog 97 := run_callFunc_enter Try.func97 (by kernel_rfl) rfl
theorem en98 : Enters Try.prog 98 := run_callFunc_enter Try.func98 (by kernel_rfl) rfl
theorem en99 : Enters Try.prog 99 := run_callFunc_enter Try.func99 (by kernel_rfl) rfl
theorem en100 : Enters Try.prog 100 := run_callFunc_enter Try.func100 (by kernel_rfl) rfl
theorem en101 : Enters Try.prog 101 := run_callFunc_enter Try.func101 (by kernel_rfl) rfl
theorem en135 : Enters Try.prog 135 := run_callFunc_enter Try.func135 (by kernel_rfl) rfl
theorem en136 : Enters Try.prog 136 := run_callFunc_enter Try.func136 (by kernel_rfl) rfl
theorem en146 : Enters Try.prog 146 := run_callFunc_enter Try.func146 (by kernel_rfl) rfl
theorem en147 : Enters Try.prog 147 := run_callFunc_enter Try.func147 (by kernel_rfl) rfl
theorem en148 : Enters Try.prog 148 := run_callFunc_enter Try.func148 (by kernel_rfl) rfl
theorem en170 : Enters Try.prog 170 := run_callFunc_enter Try.func170 (by kernel_rfl) rfl
theorem en171 : Enters Try.prog 171 := run_callFunc_enter Try.func171 (by kernel_rfl) rfl
theorem en174 : Enters Try.prog 174 := run_callFunc_enter Try.func174 (by kernel_rfl) rfl
theorem en190 : Enters Try.prog 190 := run_callFunc_enter Try.func190 (by kernel_rfl) rfl
theorem fd165_0 : fldB Try.prog 165 0 = some 0 := by kernel_rfl
theorem fd165_1 : fldB Try.prog 165 1 = some 1 := by kernel_rfl
theorem fd165_2 : fldB Try.prog 165 2 = some 2 := by kernel_rfl
theorem mk5 : mkB Try.prog 5 = some (.int .u8 0, 1) := by kernel_rfl
theorem mo : Try.prog.follows .mixedOrders = true := by kernel_rfl
theorem sz3 : szB Try.prog 3 = some 1 := by kernel_rfl
theorem sz5 : szB Try.prog 5 = some 1 := by kernel_rfl
theorem sz9 : szB Try.prog 9 = some 1 := by kernel_rfl
theorem un3 : Try.prog.underlying 3 = some (.int .i64) := by kernel_rfl
theorem un5 : Try.prog.underlying 5 = some (.int .u8) := by kernel_rfl
theorem un9 : Try.prog.underlying 9 = some (.string) := by kernel_rfl
theorem un31 : Try.prog.underlying 31 = some (.slice 3) := by kernel_rfl
theorem un74 : Try.prog.underlying 74 = some (.slice 5) := by kernel_rfl
theorem un154 : Try.prog.underlying 154 = some (.slice 9) := by kernel_rfl
theorem xi175 (s : ByteArray) (c : Int) (w : World) : (callFunc 175 #[.string s, .int .u8 c]).run Try.prog w = .ok (.value (.int .i64 (idxB s c))) w := by
  rw [run_callFunc_extern Try.func175 (by kernel_rfl) (by kernel_rfl) (by kernel_rfl) (e := Extern.BytealgIndexByte.indexByte) (by kernel_rfl), Lib.run_indexByteString]; rfl
end Go.Proofs.Ytmgfkpfacdlfbaa
