/- Types and facts. -/
import Derived.Test.YtmgfkpfacdlfbaaZ21
import Derived.Test.YtmgfkpfacdlfbaaRows
namespace Go.Proofs.Ytmgfkpfacdlfbaa
open Go Go.Z Go.Proofs Go.MuLone Go.ChangeShapes Go.WideShapes Go.ChangeAt Go.RowKit
set_option linter.unusedVariables false
set_option linter.unusedSimpArgs false
structure S_Block where
  Id : Int
  Leaf : Int
  Value : Int
def z_Block : S_Block := ⟨0, 0, 0⟩

def L_Block : Lay S_Block := Lay.flat 3 (fun x => [.int .i64 x.Id, .int .i64 x.Leaf, .int .i64 x.Value]) (fun _ => rfl) (fun x u hu => by
  simp only [List.mem_cons, List.not_mem_nil, or_false] at hu
  rcases hu with rfl | rfl | rfl <;> rfl)
theorem ag3 : aggB Try.prog 3 = some false := by kernel_rfl
theorem ag81 : aggB Try.prog 81 = some true := by kernel_rfl
theorem ag83 : aggB Try.prog 83 = some true := by kernel_rfl
theorem ag85 : aggB Try.prog 85 = some false := by kernel_rfl
theorem bs3_1 (x0 : Int) : sliceB Try.prog 3 1 [(0, .int .i64 x0)] = some #[.int .i64 x0] := by kernel_rfl
theorem bs3_2 (x0 : Int) (x1 : Int) (x2 : Int) : sliceB Try.prog 3 3 [(0, .int .i64 x0), (1, .int .i64 x1), (2, .int .i64 x2)] = some #[.int .i64 x0, .int .i64 x1, .int .i64 x2] := by kernel_rfl
theorem bs5_0 (x0 : Int) (x1 : Int) (x2 : Int) (x3 : Int) : sliceB Try.prog 5 4 [(0, .int .u8 x0), (1, .int .u8 x1), (2, .int .u8 x2), (3, .int .u8 x3)] = some #[.int .u8 x0, .int .u8 x1, .int .u8 x2, .int .u8 x3] := by kernel_rfl
theorem bs5_3 (x0 : Int) : sliceB Try.prog 5 1 [(0, .int .u8 x0)] = some #[.int .u8 x0] := by kernel_rfl
theorem en11 : Enters Try.prog 11 := run_callFunc_enter Try.func11 (by kernel_rfl) rfl
theorem en12 : Enters Try.prog 12 := run_callFunc_enter Try.func12 (by kernel_rfl) rfl
theorem en13 : Enters Try.prog 13 := run_callFunc_enter Try.func13 (by kernel_rfl) rfl
theorem en14 : Enters Try.prog 14 := run_callFunc_enter Try.func14 (by kernel_rfl) rfl
theorem en15 : Enters Try.prog 15 := run_callFunc_enter Try.func15 (by kernel_rfl) rfl
theorem en53 : Enters Try.prog 53 := run_callFunc_enter Try.func53 (by kernel_rfl) rfl
theorem en54 : Enters Try.prog 54 := run_callFunc_enter Try.func54 (by kernel_rfl) rfl
theorem en55 : Enters Try.prog 55 := run_callFunc_enter Try.func55 (by kernel_rfl) rfl
theorem en56 : Enters Try.prog 56 := run_callFunc_enter Try.func56 (by kernel_rfl) rfl
theorem en57 : Enters Try.prog 57 := run_callFunc_enter Try.func57 (by kernel_rfl) rfl
theorem en58 : Enters Try.prog 58 := run_callFunc_enter Try.func58 (by kernel_rfl) rfl
theorem en59 : Enters Try.prog 59 := run_callFunc_enter Try.func59 (by kernel_rfl) rfl
theorem en81 : Enters Try.prog 81 := run_callFunc_enter Try.func81 (by kernel_rfl) rfl
theorem en102 : Enters Try.prog 102 := run_callFunc_enter Try.func102 (by kernel_rfl) rfl
theorem en103 : Enters Try.prog 103 := run_callFunc_enter Try.func103 (by kernel_rfl) rfl
theorem en104 : Enters Try.prog 104 := run_callFunc_enter Try.func104 (by kernel_rfl) rfl
theorem en105 : Enters Try.prog 105 := run_callFunc_enter Try.func105 (by kernel_rfl) rfl
theorem en106 : Enters Try.prog 106 := run_callFunc_enter Try.func106 (by kernel_rfl) rfl
theorem en107 : Enters Try.prog 107 := run_callFunc_enter Try.func107 (by kernel_rfl) rfl
theorem en108 : Enters Try.prog 108 := run_callFunc_enter Try.func108 (by kernel_rfl) rfl
theorem en109 : Enters Try.prog 109 := run_callFunc_enter Try.func109 (by kernel_rfl) rfl
theorem en115 : Enters Try.prog 115 := run_callFunc_enter Try.func115 (by kernel_rfl) rfl
theorem en149 : Enters Try.prog 149 := run_callFunc_enter Try.func149 (by kernel_rfl) rfl
theorem en150 : Enters Try.prog 150 := run_callFunc_enter Try.func150 (by kernel_rfl) rfl
theorem en151 : Enters Try.prog 151 := run_callFunc_enter Try.func151 (by kernel_rfl) rfl
theorem en176 : Enters Try.prog 176 := run_callFunc_enter Try.func176 (by kernel_rfl) rfl
theorem en177 : Enters Try.prog 177 := run_callFunc_enter Try.func177 (by kernel_rfl) rfl
theorem en178 : Enters Try.prog 178 := run_callFunc_enter Try.func178 (by kernel_rfl) rfl
theorem en179 : Enters Try.prog 179 := run_callFunc_enter Try.func179 (by kernel_rfl) rfl
theorem fd81_0 : fldB Try.prog 81 0 = some 0 := by kernel_rfl
theorem fd81_1 : fldB Try.prog 81 1 = some 1 := by kernel_rfl
theorem fd81_2 : fldB Try.prog 81 2 = some 2 := by kernel_rfl
theorem fd83_0 : fldB Try.prog 83 0 = some 0 := by kernel_rfl
theorem fd83_1 : fldB Try.prog 83 1 = some 1 := by kernel_rfl
theorem fd83_2 : fldB Try.prog 83 2 = some 2 := by kernel_rfl
theorem lz3 : ((Lay.int .i64)).own 0 [.int .i64 0] [] := ⟨rfl, rfl⟩
theorem lz81 : (L_Block).own z_Block [.int .i64 0, .int .i64 0, .int .i64 0] [] := ⟨rfl, rfl⟩
theorem mk3 : mkB Try.prog 3 = some (.int .i64 0, 1) := by kernel_rfl
theorem mk5 : mkB Try.prog 5 = some (.int .u8 0, 1) := by kernel_rfl
theorem mk81 : mkB Try.prog 81 = some (.agg #[.int .i64 0, .int .i64 0, .int .i64 0], 3) := by kernel_rfl
theorem mo : Try.prog.follows .mixedOrders = true := by kernel_rfl
theorem sz3 : szB Try.prog 3 = some 1 := by kernel_rfl
theorem sz5 : szB Try.prog 5 = some 1 := by kernel_rfl
theorem sz81 : szB Try.prog 81 = some 3 := by kernel_rfl
theorem sz83 : szB Try.prog 83 = some 3 := by kernel_rfl
theorem un3 : Try.prog.underlying 3 = some (.int .i64) := by kernel_rfl
theorem un5 : Try.prog.underlying 5 = some (.int .u8) := by kernel_rfl
theorem un9 : Try.prog.underlying 9 = some (.string) := by kernel_rfl
theorem un22 : Try.prog.underlying 22 = some (.slice 83) := by kernel_rfl
theorem un26 : Try.prog.underlying 26 = some (.slice 81) := by kernel_rfl
theorem un31 : Try.prog.underlying 31 = some (.slice 3) := by kernel_rfl
theorem un74 : Try.prog.underlying 74 = some (.slice 5) := by kernel_rfl
theorem ze81 : zeroB Try.prog 81 = some (.agg #[.int .i64 0, .int .i64 0, .int .i64 0]) := by kernel_rfl
end Go.Proofs.Ytmgfkpfacdlfbaa
