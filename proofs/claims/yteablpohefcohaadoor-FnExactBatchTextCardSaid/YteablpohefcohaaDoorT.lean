/- Types and facts. -/
import Derived.Test.YteablpohefcohaaDoorY1
import Derived.Test.YteablpohefcohaaDoorRows
namespace Go.Proofs.YteablpohefcohaaDoor
open Go Go.Z Go.Proofs Go.MuLone Go.ChangeShapes Go.WideShapes Go.ChangeAt Go.RowKit
set_option linter.unusedVariables false
set_option linter.unusedSimpArgs false
structure S_Op where
  Kind : Int
  Key : Int
  Value : Int
def z_Op : S_Op := ⟨0, 0, 0⟩

def L_Op : Lay S_Op := Lay.flat 3 (fun x => [.int .i64 x.Kind, .int .i64 x.Key, .int .i64 x.Value]) (fun _ => rfl) (fun x u hu => by
  simp only [List.mem_cons, List.not_mem_nil, or_false] at hu
  rcases hu with rfl | rfl | rfl <;> rfl)

structure S_Txn where
  Ops : List S_Op
def z_Txn : S_Txn := ⟨[]⟩

def L_laws_Txn : Lay S_Txn := Lay.map (Lay.sl L_Op 23) (fun x => x.Ops)

def L_impl_Txn : Lay S_Txn := Lay.map (Lay.sl L_Op 26) (fun x => x.Ops)
theorem ag3 : aggB Tryd.prog 3 = some false := by kernel_rfl
theorem ag9 : aggB Tryd.prog 9 = some false := by kernel_rfl
theorem ag23 : aggB Tryd.prog 23 = some true := by kernel_rfl
theorem ag26 : aggB Tryd.prog 26 = some true := by kernel_rfl
theorem ag45 : aggB Tryd.prog 45 = some false := by kernel_rfl
theorem ag53 : aggB Tryd.prog 53 = some false := by kernel_rfl
theorem ag55 : aggB Tryd.prog 55 = some true := by kernel_rfl
theorem ag58 : aggB Tryd.prog 58 = some false := by kernel_rfl
theorem ag60 : aggB Tryd.prog 60 = some true := by kernel_rfl
theorem ag70 : aggB Tryd.prog 70 = some false := by kernel_rfl
theorem bs5_1 (x0 : Int) : sliceB Tryd.prog 5 1 [(0, .int .u8 x0)] = some #[.int .u8 x0] := by kernel_rfl
theorem bs9_0 (x0 : ByteArray) (x1 : ByteArray) (x2 : ByteArray) (x3 : ByteArray) (x4 : ByteArray) (x5 : ByteArray) (x6 : ByteArray) : sliceB Tryd.prog 9 7 [(0, .string x0), (1, .string x1), (2, .string x2), (3, .string x3), (4, .string x4), (5, .string x5), (6, .string x6)] = some #[.string x0, .string x1, .string x2, .string x3, .string x4, .string x5, .string x6] := by kernel_rfl
theorem bs9_2 (x0 : ByteArray) : sliceB Tryd.prog 9 1 [(0, .string x0)] = some #[.string x0] := by kernel_rfl
theorem en7 : Enters Tryd.prog 7 := run_callFunc_enter Tryd.func7 (by kernel_rfl) rfl
theorem en14 : Enters Tryd.prog 14 := run_callFunc_enter Tryd.func14 (by kernel_rfl) rfl
theorem en15 : Enters Tryd.prog 15 := run_callFunc_enter Tryd.func15 (by kernel_rfl) rfl
theorem en16 : Enters Tryd.prog 16 := run_callFunc_enter Tryd.func16 (by kernel_rfl) rfl
theorem en17 : Enters Tryd.prog 17 := run_callFunc_enter Tryd.func17 (by kernel_rfl) rfl
theorem en18 : Enters Tryd.prog 18 := run_callFunc_enter Tryd.func18 (by kernel_rfl) rfl
theorem en19 : Enters Tryd.prog 19 := run_callFunc_enter Tryd.func19 (by kernel_rfl) rfl
theorem en20 : Enters Tryd.prog 20 := run_callFunc_enter Tryd.func20 (by kernel_rfl) rfl
theorem en21 : Enters Tryd.prog 21 := run_callFunc_enter Tryd.func21 (by kernel_rfl) rfl
theorem en22 : Enters Tryd.prog 22 := run_callFunc_enter Tryd.func22 (by kernel_rfl) rfl
theorem en30 : Enters Tryd.prog 30 := run_callFunc_enter Tryd.func30 (by kernel_rfl) rfl
theorem en31 : Enters Tryd.prog 31 := run_callFunc_enter Tryd.func31 (by kernel_rfl) rfl
theorem en32 : Enters Tryd.prog 32 := run_callFunc_enter Tryd.func32 (by kernel_rfl) rfl
theorem en33 : Enters Tryd.prog 33 := run_callFunc_enter Tryd.func33 (by kernel_rfl) rfl
theorem en34 : Enters Tryd.prog 34 := run_callFunc_enter Tryd.func34 (by kernel_rfl) rfl
theorem en35 : Enters Tryd.prog 35 := run_callFunc_enter Tryd.func35 (by kernel_rfl) rfl
theorem en36 : Enters Tryd.prog 36 := run_callFunc_enter Tryd.func36 (by kernel_rfl) rfl
theorem en37 : Enters Tryd.prog 37 := run_callFunc_enter Tryd.func37 (by kernel_rfl) rfl
theorem en38 : Enters Tryd.prog 38 := run_callFunc_enter Tryd.func38 (by kernel_rfl) rfl
theorem en39 : Enters Tryd.prog 39 := run_callFunc_enter Tryd.func39 (by kernel_rfl) rfl
theorem en40 : Enters Tryd.prog 40 := run_callFunc_enter Tryd.func40 (by kernel_rfl) rfl
theorem en41 : Enters Tryd.prog 41 := run_callFunc_enter Tryd.func41 (by kernel_rfl) rfl
theorem en42 : Enters Tryd.prog 42 := run_callFunc_enter Tryd.func42 (by kernel_rfl) rfl
theorem en43 : Enters Tryd.prog 43 := run_callFunc_enter Tryd.func43 (by kernel_rfl) rfl
theorem en44 : Enters Tryd.prog 44 := run_callFunc_enter Tryd.func44 (by kernel_rfl) rfl
theorem en45 : Enters Tryd.prog 45 := run_callFunc_enter Tryd.func45 (by kernel_rfl) rfl
theorem en50 : Enters Tryd.prog 50 := run_callFunc_enter Tryd.func50 (by kernel_rfl) rfl
theorem en51 : Enters Tryd.prog 51 := run_callFunc_enter Tryd.func51 (by kernel_rfl) rfl
theorem en52 : Enters Tryd.prog 52 := run_callFunc_enter Tryd.func52 (by kernel_rfl) rfl
theorem en53 : Enters Tryd.prog 53 := run_callFunc_enter Tryd.func53 (by kernel_rfl) rfl
theorem en54 : Enters Tryd.prog 54 := run_callFunc_enter Tryd.func54 (by kernel_rfl) rfl
theorem en55 : Enters Tryd.prog 55 := run_callFunc_enter Tryd.func55 (by kernel_rfl) rfl
theorem en56 : Enters Tryd.prog 56 := run_callFunc_enter Tryd.func56 (by kernel_rfl) rfl
theorem en57 : Enters Tryd.prog 57 := run_callFunc_enter Tryd.func57 (by kernel_rfl) rfl
theorem en62 : Enters Tryd.prog 62 := run_callFunc_enter Tryd.func62 (by kernel_rfl) rfl
theorem en63 : Enters Tryd.prog 63 := run_callFunc_enter Tryd.func63 (by kernel_rfl) rfl
theorem en64 : Enters Tryd.prog 64 := run_callFunc_enter Tryd.func64 (by kernel_rfl) rfl
theorem en68 : Enters Tryd.prog 68 := run_callFunc_enter Tryd.func68 (by kernel_rfl) rfl
theorem en71 : Enters Tryd.prog 71 := run_callFunc_enter Tryd.func71 (by kernel_rfl) rfl
theorem en72 : Enters Tryd.prog 72 := run_callFunc_enter Tryd.func72 (by kernel_rfl) rfl
theorem en73 : Enters Tryd.prog 73 := run_callFunc_enter Tryd.func73 (by kernel_rfl) rfl
theorem en80 : Enters Tryd.prog 80 := run_callFunc_enter Tryd.func80 (by kernel_rfl) rfl
theorem fd23_0 : fldB Tryd.prog 23 0 = some 0 := by kernel_rfl
theorem fd23_1 : fldB Tryd.prog 23 1 = some 1 := by kernel_rfl
theorem fd23_2 : fldB Tryd.prog 23 2 = some 2 := by kernel_rfl
theorem fd26_0 : fldB Tryd.prog 26 0 = some 0 := by kernel_rfl
theorem fd26_1 : fldB Tryd.prog 26 1 = some 1 := by kernel_rfl
theorem fd26_2 : fldB Tryd.prog 26 2 = some 2 := by kernel_rfl
theorem fd55_0 : fldB Tryd.prog 55 0 = some 0 := by kernel_rfl
theorem fd60_0 : fldB Tryd.prog 60 0 = some 0 := by kernel_rfl
theorem lz26 : (L_Op).own z_Op [.int .i64 0, .int .i64 0, .int .i64 0] [] := ⟨rfl, rfl⟩
theorem lz60 : (L_impl_Txn).own z_Txn [.slice none 0 0] [] := ⟨_, rfl, .inl ⟨rfl, rfl, rfl⟩⟩
theorem mk9 : mkB Tryd.prog 9 = some (.string ⟨#[]⟩, 1) := by kernel_rfl
theorem mk26 : mkB Tryd.prog 26 = some (.agg #[.int .i64 0, .int .i64 0, .int .i64 0], 3) := by kernel_rfl
theorem mk60 : mkB Tryd.prog 60 = some (.agg #[.slice none 0 0], 1) := by kernel_rfl
theorem mo : Tryd.prog.follows .mixedOrders = true := by kernel_rfl
theorem sz3 : szB Tryd.prog 3 = some 1 := by kernel_rfl
theorem sz9 : szB Tryd.prog 9 = some 1 := by kernel_rfl
theorem sz23 : szB Tryd.prog 23 = some 3 := by kernel_rfl
theorem sz26 : szB Tryd.prog 26 = some 3 := by kernel_rfl
theorem sz55 : szB Tryd.prog 55 = some 1 := by kernel_rfl
theorem sz58 : szB Tryd.prog 58 = some 1 := by kernel_rfl
theorem sz60 : szB Tryd.prog 60 = some 1 := by kernel_rfl
theorem un3 : Tryd.prog.underlying 3 = some (.int .i64) := by kernel_rfl
theorem un5 : Tryd.prog.underlying 5 = some (.int .u8) := by kernel_rfl
theorem un9 : Tryd.prog.underlying 9 = some (.string) := by kernel_rfl
theorem un38 : Tryd.prog.underlying 38 = some (.slice 55) := by kernel_rfl
theorem un41 : Tryd.prog.underlying 41 = some (.slice 60) := by kernel_rfl
theorem un53 : Tryd.prog.underlying 53 = some (.slice 23) := by kernel_rfl
theorem un58 : Tryd.prog.underlying 58 = some (.slice 26) := by kernel_rfl
theorem un64 : Tryd.prog.underlying 64 = some (.slice 9) := by kernel_rfl
theorem un75 : Tryd.prog.underlying 75 = some (.slice 5) := by kernel_rfl
theorem ze26 : zeroB Tryd.prog 26 = some (.agg #[.int .i64 0, .int .i64 0, .int .i64 0]) := by kernel_rfl
theorem ze60 : zeroB Tryd.prog 60 = some (.agg #[.slice none 0 0]) := by kernel_rfl
end Go.Proofs.YteablpohefcohaaDoor
