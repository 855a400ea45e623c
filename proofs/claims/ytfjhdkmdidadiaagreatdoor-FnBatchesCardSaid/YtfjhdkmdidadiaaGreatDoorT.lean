/- Types and facts. -/
import Derived.Test.YtfjhdkmdidadiaaGreatDoorY2
import Derived.Test.YtfjhdkmdidadiaaGreatDoorRows
namespace Go.Proofs.YtfjhdkmdidadiaaGreatDoor
open Go Go.Z Go.Proofs Go.MuLone Go.ChangeShapes Go.WideShapes Go.ChangeAt Go.RowKit
set_option linter.unusedVariables false
set_option linter.unusedSimpArgs false
structure S_Op where
  Kind : Int
  Key : Int
  Value : Int
def z_Op : S_Op := ⟨0, 0, 0⟩

def L_Op : Lay S_Op := Lay.flat 3 (fun x => [.int .i64 x.Kind, .int .i64 x.Key, .int .i64 x.Value]) (fun _ => rfl) (fun x u hu => by
  simp only [List.mem_cons, List.not_mem_nil, or_false] at hu
  rcases hu with rfl | rfl | rfl <;> rfl)

structure S_Txn where
  Ops : List S_Op
def z_Txn : S_Txn := ⟨[]⟩

def L_impl_Txn : Lay S_Txn := Lay.map (Lay.sl L_Op 33) (fun x => x.Ops)

structure S_l00Src where
  code : List Int
  at_ : Int
  seed : Int
def z_l00Src : S_l00Src := ⟨[], 0, 0⟩

def L_spec_l00Src : Lay S_l00Src := Lay.map (Lay.pair (Lay.sl (Lay.int .u8) 5) (Lay.pair (Lay.int .i64) (Lay.int .i64))) (fun x => (x.code, (x.at_, x.seed)))
theorem ag3 : aggB Tryz.prog 3 = some false := by kernel_rfl
theorem ag5 : aggB Tryz.prog 5 = some false := by kernel_rfl
theorem ag9 : aggB Tryz.prog 9 = some false := by kernel_rfl
theorem ag27 : aggB Tryz.prog 27 = some false := by kernel_rfl
theorem ag28 : aggB Tryz.prog 28 = some false := by kernel_rfl
theorem ag33 : aggB Tryz.prog 33 = some true := by kernel_rfl
theorem ag34 : aggB Tryz.prog 34 = some false := by kernel_rfl
theorem ag36 : aggB Tryz.prog 36 = some true := by kernel_rfl
theorem ag40 : aggB Tryz.prog 40 = some false := by kernel_rfl
theorem ag58 : aggB Tryz.prog 58 = some false := by kernel_rfl
theorem bd33_2  : Tryz.prog.built 33 [] = some #[.int .i64 0, .int .i64 0, .int .i64 0] := by kernel_rfl
theorem bd33_3 (x0 : Int) : Tryz.prog.built 33 [(0, .int .i64 x0)] = some #[.int .i64 x0, .int .i64 0, .int .i64 0] := by kernel_rfl
theorem bd33_9 (x0 : Int) (x1 : Int) : Tryz.prog.built 33 [(0, .int .i64 x0), (1, .int .i64 x1)] = some #[.int .i64 x0, .int .i64 x1, .int .i64 0] := by kernel_rfl
theorem bd36_11  : Tryz.prog.built 36 [] = some #[.slice none 0 0] := by kernel_rfl
theorem bd65_7 (A0 : Option Addr) (n0 c0 : Nat) (x1 : Int) : Tryz.prog.built 65 [(0, .slice A0 n0 c0), (2, .int .i64 x1)] = some #[.slice A0 n0 c0, .int .i64 0, .int .i64 x1] := by kernel_rfl
theorem bs3_1 (x0 : Int) : sliceB Tryz.prog 3 1 [(0, .int .i64 x0)] = some #[.int .i64 x0] := by kernel_rfl
theorem bs3_8 (x0 : Int) (x1 : Int) (x2 : Int) : sliceB Tryz.prog 3 3 [(0, .int .i64 x0), (1, .int .i64 x1), (2, .int .i64 x2)] = some #[.int .i64 x0, .int .i64 x1, .int .i64 x2] := by kernel_rfl
theorem bs3_10 (x0 : Int) (x1 : Int) : sliceB Tryz.prog 3 2 [(0, .int .i64 x0), (1, .int .i64 x1)] = some #[.int .i64 x0, .int .i64 x1] := by kernel_rfl
theorem bs5_12 (x0 : Int) : sliceB Tryz.prog 5 1 [(0, .int .u8 x0)] = some #[.int .u8 x0] := by kernel_rfl
theorem bs9_0 (x0 : ByteArray) (x1 : ByteArray) (x2 : ByteArray) (x3 : ByteArray) (x4 : ByteArray) (x5 : ByteArray) (x6 : ByteArray) : sliceB Tryz.prog 9 7 [(0, .string x0), (1, .string x1), (2, .string x2), (3, .string x3), (4, .string x4), (5, .string x5), (6, .string x6)] = some #[.string x0, .string x1, .string x2, .string x3, .string x4, .string x5, .string x6] := by kernel_rfl
theorem bs9_6 (x0 : ByteArray) : sliceB Tryz.prog 9 1 [(0, .string x0)] = some #[.string x0] := by kernel_rfl
theorem bs33_4 (x1 : Int) (x2 : Int) (x3 : Int) : sliceB Tryz.prog 33 1 [(0, .agg #[.int .i64 x1, .int .i64 x2, .int .i64 x3])] = some #[.int .i64 x1, .int .i64 x2, .int .i64 x3] := by kernel_rfl
theorem bs36_5 (A1 : Option Addr) (n1 c1 : Nat) : sliceB Tryz.prog 36 1 [(0, .agg #[.slice A1 n1 c1])] = some #[.slice A1 n1 c1] := by kernel_rfl
theorem eg33 : Tryz.prog.eqGuardType Tryz.prog.depth 33 = false := by kernel_rfl
theorem en6 : Enters Tryz.prog 6 := run_callFunc_enter Tryz.func6 (by kernel_rfl) rfl
theorem en10 : Enters Tryz.prog 10 := run_callFunc_enter Tryz.func10 (by kernel_rfl) rfl
theorem en11 : Enters Tryz.prog 11 := run_callFunc_enter Tryz.func11 (by kernel_rfl) rfl
theorem en12 : Enters Tryz.prog 12 := run_callFunc_enter Tryz.func12 (by kernel_rfl) rfl
theorem en13 : Enters Tryz.prog 13 := run_callFunc_enter Tryz.func13 (by kernel_rfl) rfl
theorem en14 : Enters Tryz.prog 14 := run_callFunc_enter Tryz.func14 (by kernel_rfl) rfl
theorem en15 : Enters Tryz.prog 15 := run_callFunc_enter Tryz.func15 (by kernel_rfl) rfl
theorem en16 : Enters Tryz.prog 16 := run_callFunc_enter Tryz.func16 (by kernel_rfl) rfl
theorem en17 : Enters Tryz.prog 17 := run_callFunc_enter Tryz.func17 (by kernel_rfl) rfl
theorem en19 : Enters Tryz.prog 19 := run_callFunc_enter Tryz.func19 (by kernel_rfl) rfl
theorem en20 : Enters Tryz.prog 20 := run_callFunc_enter Tryz.func20 (by kernel_rfl) rfl
theorem en24 : Enters Tryz.prog 24 := run_callFunc_enter Tryz.func24 (by kernel_rfl) rfl
theorem en25 : Enters Tryz.prog 25 := run_callFunc_enter Tryz.func25 (by kernel_rfl) rfl
theorem en26 : Enters Tryz.prog 26 := run_callFunc_enter Tryz.func26 (by kernel_rfl) rfl
theorem en27 : Enters Tryz.prog 27 := run_callFunc_enter Tryz.func27 (by kernel_rfl) rfl
theorem en28 : Enters Tryz.prog 28 := run_callFunc_enter Tryz.func28 (by kernel_rfl) rfl
theorem en29 : Enters Tryz.prog 29 := run_callFunc_enter Tryz.func29 (by kernel_rfl) rfl
theorem en30 : Enters Tryz.prog 30 := run_callFunc_enter Tryz.func30 (by kernel_rfl) rfl
theorem en31 : Enters Tryz.prog 31 := run_callFunc_enter Tryz.func31 (by kernel_rfl) rfl
theorem en32 : Enters Tryz.prog 32 := run_callFunc_enter Tryz.func32 (by kernel_rfl) rfl
theorem en33 : Enters Tryz.prog 33 := run_callFunc_enter Tryz.func33 (by kernel_rfl) rfl
theorem en34 : Enters Tryz.prog 34 := run_callFunc_enter Tryz.func34 (by kernel_rfl) rfl
theorem en35 : Enters Tryz.prog 35 := run_callFunc_enter Tryz.func35 (by kernel_rfl) rfl
theorem en36 : Enters Tryz.prog 36 := run_callFunc_enter Tryz.func36 (by kernel_rfl) rfl
theorem en37 : Enters Tryz.prog 37 := run_callFunc_enter Tryz.func37 (by kernel_rfl) rfl
theorem en40 : Enters Tryz.prog 40 := run_callFunc_enter Tryz.func40 (by kernel_rfl) rfl
theorem en41 : Enters Tryz.prog 41 := run_callFunc_enter Tryz.func41 (by kernel_rfl) rfl
theorem en42 : Enters Tryz.prog 42 := run_callFunc_enter Tryz.func42 (by kernel_rfl) rfl
theorem en44 : Enters Tryz.prog 44 := run_callFunc_enter Tryz.func44 (by kernel_rfl) rfl
theorem en45 : Enters Tryz.prog 45 := run_callFunc_enter Tryz.func45 (by kernel_rfl) rfl
theorem en46 : Enters Tryz.prog 46 := run_callFunc_enter Tryz.func46 (by kernel_rfl) rfl
theorem en47 : Enters Tryz.prog 47 := run_callFunc_enter Tryz.func47 (by kernel_rfl) rfl
theorem en48 : Enters Tryz.prog 48 := run_callFunc_enter Tryz.func48 (by kernel_rfl) rfl
theorem en49 : Enters Tryz.prog 49 := run_callFunc_enter Tryz.func49 (by kernel_rfl) rfl
theorem en50 : Enters Tryz.prog 50 := run_callFunc_enter Tryz.func50 (by kernel_rfl) rfl
theorem en51 : Enters Tryz.prog 51 := run_callFunc_enter Tryz.func51 (by kernel_rfl) rfl
theorem en52 : Enters Tryz.prog 52 := run_callFunc_enter Tryz.func52 (by kernel_rfl) rfl
theorem en53 : Enters Tryz.prog 53 := run_callFunc_enter Tryz.func53 (by kernel_rfl) rfl
theorem en54 : Enters Tryz.prog 54 := run_callFunc_enter Tryz.func54 (by kernel_rfl) rfl
theorem en55 : Enters Tryz.prog 55 := run_callFunc_enter Tryz.func55 (by kernel_rfl) rfl
theorem en56 : Enters Tryz.prog 56 := run_callFunc_enter Tryz.func56 (by kernel_rfl) rfl
theorem en57 : Enters Tryz.prog 57 := run_callFunc_enter Tryz.func57 (by kernel_rfl) rfl
theorem en58 : Enters Tryz.prog 58 := run_callFunc_enter Tryz.func58 (by kernel_rfl) rfl
theorem en59 : Enters Tryz.prog 59 := run_callFunc_enter Tryz.func59 (by kernel_rfl) rfl
theorem en60 : Enters Tryz.prog 60 := run_callFunc_enter Tryz.func60 (by kernel_rfl) rfl
theorem en61 : Enters Tryz.prog 61 := run_callFunc_enter Tryz.func61 (by kernel_rfl) rfl
theorem en63 : Enters Tryz.prog 63 := run_callFunc_enter Tryz.func63 (by kernel_rfl) rfl
theorem en66 : Enters Tryz.prog 66 := run_callFunc_enter Tryz.func66 (by kernel_rfl) rfl
theorem en67 : Enters Tryz.prog 67 := run_callFunc_enter Tryz.func67 (by kernel_rfl) rfl
theorem en68 : Enters Tryz.prog 68 := run_callFunc_enter Tryz.func68 (by kernel_rfl) rfl
theorem en71 : Enters Tryz.prog 71 := run_callFunc_enter Tryz.func71 (by kernel_rfl) rfl
theorem en75 : Enters Tryz.prog 75 := run_callFunc_enter Tryz.func75 (by kernel_rfl) rfl
theorem en77 : Enters Tryz.prog 77 := run_callFunc_enter Tryz.func77 (by kernel_rfl) rfl
theorem en78 : Enters Tryz.prog 78 := run_callFunc_enter Tryz.func78 (by kernel_rfl) rfl
theorem en79 : Enters Tryz.prog 79 := run_callFunc_enter Tryz.func79 (by kernel_rfl) rfl
theorem en80 : Enters Tryz.prog 80 := run_callFunc_enter Tryz.func80 (by kernel_rfl) rfl
theorem en81 : Enters Tryz.prog 81 := run_callFunc_enter Tryz.func81 (by kernel_rfl) rfl
theorem en82 : Enters Tryz.prog 82 := run_callFunc_enter Tryz.func82 (by kernel_rfl) rfl
theorem en84 : Enters Tryz.prog 84 := run_callFunc_enter Tryz.func84 (by kernel_rfl) rfl
theorem en91 : Enters Tryz.prog 91 := run_callFunc_enter Tryz.func91 (by kernel_rfl) rfl
theorem en92 : Enters Tryz.prog 92 := run_callFunc_enter Tryz.func92 (by kernel_rfl) rfl
theorem en93 : Enters Tryz.prog 93 := run_callFunc_enter Tryz.func93 (by kernel_rfl) rfl
theorem en104 : Enters Tryz.prog 104 := run_callFunc_enter Tryz.func104 (by kernel_rfl) rfl
theorem en117 : Enters Tryz.prog 117 := run_callFunc_enter Tryz.func117 (by kernel_rfl) rfl
theorem fd33_0 : fldB Tryz.prog 33 0 = some 0 := by kernel_rfl
theorem fd33_1 : fldB Tryz.prog 33 1 = some 1 := by kernel_rfl
theorem fd33_2 : fldB Tryz.prog 33 2 = some 2 := by kernel_rfl
theorem fd36_0 : fldB Tryz.prog 36 0 = some 0 := by kernel_rfl
theorem fd65_0 : fldB Tryz.prog 65 0 = some 0 := by kernel_rfl
theorem fd65_1 : fldB Tryz.prog 65 1 = some 1 := by kernel_rfl
theorem fd65_2 : fldB Tryz.prog 65 2 = some 2 := by kernel_rfl
theorem mk3 : mkB Tryz.prog 3 = some (.int .i64 0, 1) := by kernel_rfl
theorem mk9 : mkB Tryz.prog 9 = some (.string ⟨#[]⟩, 1) := by kernel_rfl
theorem mk33 : mkB Tryz.prog 33 = some (.agg #[.int .i64 0, .int .i64 0, .int .i64 0], 3) := by kernel_rfl
theorem mk36 : mkB Tryz.prog 36 = some (.agg #[.slice none 0 0], 1) := by kernel_rfl
theorem mo : Tryz.prog.follows .mixedOrders = true := by kernel_rfl
theorem sh33 : Tryz.prog.stoodInHeld 33 = false := by kernel_rfl
theorem sz3 : szB Tryz.prog 3 = some 1 := by kernel_rfl
theorem sz5 : szB Tryz.prog 5 = some 1 := by kernel_rfl
theorem sz9 : szB Tryz.prog 9 = some 1 := by kernel_rfl
theorem sz33 : szB Tryz.prog 33 = some 3 := by kernel_rfl
theorem sz34 : szB Tryz.prog 34 = some 1 := by kernel_rfl
theorem sz36 : szB Tryz.prog 36 = some 1 := by kernel_rfl
theorem un3 : Tryz.prog.underlying 3 = some (.int .i64) := by kernel_rfl
theorem un5 : Tryz.prog.underlying 5 = some (.int .u8) := by kernel_rfl
theorem un9 : Tryz.prog.underlying 9 = some (.string) := by kernel_rfl
theorem un22 : Tryz.prog.underlying 22 = some (.slice 36) := by kernel_rfl
theorem un28 : Tryz.prog.underlying 28 = some (.slice 5) := by kernel_rfl
theorem un34 : Tryz.prog.underlying 34 = some (.slice 33) := by kernel_rfl
theorem un59 : Tryz.prog.underlying 59 = some (.slice 9) := by kernel_rfl
theorem un72 : Tryz.prog.underlying 72 = some (.slice 3) := by kernel_rfl
theorem uni89 : Tryz.prog.underlying 89 = some (.interface (Tryz.prog.methodsAt 89)) := by kernel_rfl
theorem ze9 : zeroB Tryz.prog 9 = some (.string ⟨#[]⟩) := by kernel_rfl
theorem ze33 : zeroB Tryz.prog 33 = some (.agg #[.int .i64 0, .int .i64 0, .int .i64 0]) := by kernel_rfl
theorem ze36 : zeroB Tryz.prog 36 = some (.agg #[.slice none 0 0]) := by kernel_rfl
end Go.Proofs.YtfjhdkmdidadiaaGreatDoor
