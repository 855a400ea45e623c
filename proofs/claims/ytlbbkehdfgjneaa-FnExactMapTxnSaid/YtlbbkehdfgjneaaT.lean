/- Types and facts. -/
import Derived.Test.YtlbbkehdfgjneaaZ20
import Derived.Test.YtlbbkehdfgjneaaRows
namespace Go.Proofs.Ytlbbkehdfgjneaa
open Go Go.Z Go.Proofs Go.MuLone Go.ChangeShapes Go.WideShapes Go.ChangeAt Go.RowKit
set_option linter.unusedVariables false
set_option linter.unusedSimpArgs false
structure S_Entry where
  Key : Int
  Value : Int
def z_Entry : S_Entry := ⟨0, 0⟩

def L_Entry : Lay S_Entry := Lay.flat 2 (fun x => [.int .i64 x.Key, .int .i64 x.Value]) (fun _ => rfl) (fun x u hu => by
  simp only [List.mem_cons, List.not_mem_nil, or_false] at hu
  rcases hu with rfl | rfl <;> rfl)

structure S_Op where
  Kind : Int
  Key : Int
  Value : Int
def z_Op : S_Op := ⟨0, 0, 0⟩

def L_Op : Lay S_Op := Lay.flat 3 (fun x => [.int .i64 x.Kind, .int .i64 x.Key, .int .i64 x.Value]) (fun _ => rfl) (fun x u hu => by
  simp only [List.mem_cons, List.not_mem_nil, or_false] at hu
  rcases hu with rfl | rfl | rfl <;> rfl)

structure S_Txn where
  Ops : List S_Op
def z_Txn : S_Txn := ⟨[]⟩

def L_laws_Txn : Lay S_Txn := Lay.map (Lay.sl L_Op 24) (fun x => x.Ops)

def L_impl_Txn : Lay S_Txn := Lay.map (Lay.sl L_Op 31) (fun x => x.Ops)

structure S_Result where
  Code : Int
  Values : List Int
def z_Result : S_Result := ⟨0, []⟩

def L_impl_Result : Lay S_Result := Lay.map (Lay.pair (Lay.int .i64) (Lay.sl (Lay.int .i64) 3)) (fun x => (x.Code, x.Values))
theorem ag3 : aggB Try.prog 3 = some false := by kernel_rfl
theorem ag24 : aggB Try.prog 24 = some true := by kernel_rfl
theorem ag27 : aggB Try.prog 27 = some false := by kernel_rfl
theorem ag31 : aggB Try.prog 31 = some true := by kernel_rfl
theorem ag38 : aggB Try.prog 38 = some false := by kernel_rfl
theorem ag40 : aggB Try.prog 40 = some true := by kernel_rfl
theorem ag43 : aggB Try.prog 43 = some true := by kernel_rfl
theorem ag46 : aggB Try.prog 46 = some false := by kernel_rfl
theorem ag48 : aggB Try.prog 48 = some true := by kernel_rfl
theorem ag62 : aggB Try.prog 62 = some true := by kernel_rfl
theorem ag102 : aggB Try.prog 102 = some false := by kernel_rfl
theorem ag104 : aggB Try.prog 104 = some true := by kernel_rfl
theorem bd43_4 (A0 : Option Addr) (n0 c0 : Nat) : Try.prog.built 43 [(1, .slice A0 n0 c0)] = some #[.int .i64 0, .slice A0 n0 c0] := by kernel_rfl
theorem bd43_5 (x0 : Int) (A1 : Option Addr) (n1 c1 : Nat) : Try.prog.built 43 [(0, .int .i64 x0), (1, .slice A1 n1 c1)] = some #[.int .i64 x0, .slice A1 n1 c1] := by kernel_rfl
theorem bd43_6  : Try.prog.built 43 [] = some #[.int .i64 0, .slice none 0 0] := by kernel_rfl
theorem bd43_7 (x0 : Int) : Try.prog.built 43 [(0, .int .i64 x0)] = some #[.int .i64 x0, .slice none 0 0] := by kernel_rfl
theorem bd62_0 (x0 : Int) (x1 : Int) : Try.prog.built 62 [(0, .int .i64 x0), (1, .int .i64 x1)] = some #[.int .i64 x0, .int .i64 x1] := by kernel_rfl
theorem bs3_2 (x0 : Int) (x1 : Int) : sliceB Try.prog 3 2 [(0, .int .i64 x0), (1, .int .i64 x1)] = some #[.int .i64 x0, .int .i64 x1] := by kernel_rfl
theorem bs3_3 (x0 : Int) : sliceB Try.prog 3 1 [(0, .int .i64 x0)] = some #[.int .i64 x0] := by kernel_rfl
theorem bs62_1 (x1 : Int) (x2 : Int) : sliceB Try.prog 62 1 [(0, .agg #[.int .i64 x1, .int .i64 x2])] = some #[.int .i64 x1, .int .i64 x2] := by kernel_rfl
theorem en11 : Enters Try.prog 11 := run_callFunc_enter Try.func11 (by kernel_rfl) rfl
theorem en13 : Enters Try.prog 13 := run_callFunc_enter Try.func13 (by kernel_rfl) rfl
theorem en14 : Enters Try.prog 14 := run_callFunc_enter Try.func14 (by kernel_rfl) rfl
theorem en16 : Enters Try.prog 16 := run_callFunc_enter Try.func16 (by kernel_rfl) rfl
theorem en17 : Enters Try.prog 17 := run_callFunc_enter Try.func17 (by kernel_rfl) rfl
theorem en18 : Enters Try.prog 18 := run_callFunc_enter Try.func18 (by kernel_rfl) rfl
theorem en19 : Enters Try.prog 19 := run_callFunc_enter Try.func19 (by kernel_rfl) rfl
theorem en20 : Enters Try.prog 20 := run_callFunc_enter Try.func20 (by kernel_rfl) rfl
theorem en21 : Enters Try.prog 21 := run_callFunc_enter Try.func21 (by kernel_rfl) rfl
theorem en22 : Enters Try.prog 22 := run_callFunc_enter Try.func22 (by kernel_rfl) rfl
theorem en23 : Enters Try.prog 23 := run_callFunc_enter Try.func23 (by kernel_rfl) rfl
theorem en24 : Enters Try.prog 24 := run_callFunc_enter Try.func24 (by kernel_rfl) rfl
theorem en25 : Enters Try.prog 25 := run_callFunc_enter Try.func25 (by kernel_rfl) rfl
theorem en26 : Enters Try.prog 26 := run_callFunc_enter Try.func26 (by kernel_rfl) rfl
theorem en27 : Enters Try.prog 27 := run_callFunc_enter Try.func27 (by kernel_rfl) rfl
theorem en28 : Enters Try.prog 28 := run_callFunc_enter Try.func28 (by kernel_rfl) rfl
theorem en29 : Enters Try.prog 29 := run_callFunc_enter Try.func29 (by kernel_rfl) rfl
theorem en30 : Enters Try.prog 30 := run_callFunc_enter Try.func30 (by kernel_rfl) rfl
theorem en36 : Enters Try.prog 36 := run_callFunc_enter Try.func36 (by kernel_rfl) rfl
theorem en63 : Enters Try.prog 63 := run_callFunc_enter Try.func63 (by kernel_rfl) rfl
theorem en64 : Enters Try.prog 64 := run_callFunc_enter Try.func64 (by kernel_rfl) rfl
theorem en65 : Enters Try.prog 65 := run_callFunc_enter Try.func65 (by kernel_rfl) rfl
theorem en66 : Enters Try.prog 66 := run_callFunc_enter Try.func66 (by kernel_rfl) rfl
theorem en67 : Enters Try.prog 67 := run_callFunc_enter Try.func67 (by kernel_rfl) rfl
theorem en68 : Enters Try.prog 68 := run_callFunc_enter Try.func68 (by kernel_rfl) rfl
theorem en69 : Enters Try.prog 69 := run_callFunc_enter Try.func69 (by kernel_rfl) rfl
theorem en70 : Enters Try.prog 70 := run_callFunc_enter Try.func70 (by kernel_rfl) rfl
theorem en71 : Enters Try.prog 71 := run_callFunc_enter Try.func71 (by kernel_rfl) rfl
theorem en72 : Enters Try.prog 72 := run_callFunc_enter Try.func72 (by kernel_rfl) rfl
theorem en73 : Enters Try.prog 73 := run_callFunc_enter Try.func73 (by kernel_rfl) rfl
theorem en74 : Enters Try.prog 74 := run_callFunc_enter Try.func74 (by kernel_rfl) rfl
theorem en75 : Enters Try.prog 75 := run_callFunc_enter Try.func75 (by kernel_rfl) rfl
theorem en76 : Enters Try.prog 76 := run_callFunc_enter Try.func76 (by kernel_rfl) rfl
theorem en77 : Enters Try.prog 77 := run_callFunc_enter Try.func77 (by kernel_rfl) rfl
theorem en78 : Enters Try.prog 78 := run_callFunc_enter Try.func78 (by kernel_rfl) rfl
theorem en81 : Enters Try.prog 81 := run_callFunc_enter Try.func81 (by kernel_rfl) rfl
theorem en82 : Enters Try.prog 82 := run_callFunc_enter Try.func82 (by kernel_rfl) rfl
theorem en83 : Enters Try.prog 83 := run_callFunc_enter Try.func83 (by kernel_rfl) rfl
theorem en102 : Enters Try.prog 102 := run_callFunc_enter Try.func102 (by kernel_rfl) rfl
theorem en104 : Enters Try.prog 104 := run_callFunc_enter Try.func104 (by kernel_rfl) rfl
theorem en125 : Enters Try.prog 125 := run_callFunc_enter Try.func125 (by kernel_rfl) rfl
theorem en126 : Enters Try.prog 126 := run_callFunc_enter Try.func126 (by kernel_rfl) rfl
theorem en127 : Enters Try.prog 127 := run_callFunc_enter Try.func127 (by kernel_rfl) rfl
theorem en128 : Enters Try.prog 128 := run_callFunc_enter Try.func128 (by kernel_rfl) rfl
theorem en129 : Enters Try.prog 129 := run_callFunc_enter Try.func129 (by kernel_rfl) rfl
theorem en130 : Enters Try.prog 130 := run_callFunc_enter Try.func130 (by kernel_rfl) rfl
theorem en131 : Enters Try.prog 131 := run_callFunc_enter Try.func131 (by kernel_rfl) rfl
theorem en132 : Enters Try.prog 132 := run_callFunc_enter Try.func132 (by kernel_rfl) rfl
theorem en133 : Enters Try.prog 133 := run_callFunc_enter Try.func133 (by kernel_rfl) rfl
theorem en137 : Enters Try.prog 137 := run_callFunc_enter Try.func137 (by kernel_rfl) rfl
theorem en138 : Enters Try.prog 138 := run_callFunc_enter Try.func138 (by kernel_rfl) rfl
theorem en167 : Enters Try.prog 167 := run_callFunc_enter Try.func167 (by kernel_rfl) rfl
theorem en168 : Enters Try.prog 168 := run_callFunc_enter Try.func168 (by kernel_rfl) rfl
theorem en169 : Enters Try.prog 169 := run_callFunc_enter Try.func169 (by kernel_rfl) rfl
theorem en183 : Enters Try.prog 183 := run_callFunc_enter Try.func183 (by kernel_rfl) rfl
theorem en184 : Enters Try.prog 184 := run_callFunc_enter Try.func184 (by kernel_rfl) rfl
theorem fd24_0 : fldB Try.prog 24 0 = some 0 := by kernel_rfl
theorem fd24_1 : fldB Try.prog 24 1 = some 1 := by kernel_rfl
theorem fd24_2 : fldB Try.prog 24 2 = some 2 := by kernel_rfl
theorem fd31_0 : fldB Try.prog 31 0 = some 0 := by kernel_rfl
theorem fd31_1 : fldB Try.prog 31 1 = some 1 := by kernel_rfl
theorem fd31_2 : fldB Try.prog 31 2 = some 2 := by kernel_rfl
theorem fd40_0 : fldB Try.prog 40 0 = some 0 := by kernel_rfl
theorem fd43_0 : fldB Try.prog 43 0 = some 0 := by kernel_rfl
theorem fd43_1 : fldB Try.prog 43 1 = some 1 := by kernel_rfl
theorem fd48_0 : fldB Try.prog 48 0 = some 0 := by kernel_rfl
theorem fd62_0 : fldB Try.prog 62 0 = some 0 := by kernel_rfl
theorem fd62_1 : fldB Try.prog 62 1 = some 1 := by kernel_rfl
theorem fd104_0 : fldB Try.prog 104 0 = some 0 := by kernel_rfl
theorem fd104_1 : fldB Try.prog 104 1 = some 1 := by kernel_rfl
theorem lz31 : (L_Op).own z_Op [.int .i64 0, .int .i64 0, .int .i64 0] [] := ⟨rfl, rfl⟩
theorem lz62 : (L_Entry).own z_Entry [.int .i64 0, .int .i64 0] [] := ⟨rfl, rfl⟩
theorem mk3 : mkB Try.prog 3 = some (.int .i64 0, 1) := by kernel_rfl
theorem mk31 : mkB Try.prog 31 = some (.agg #[.int .i64 0, .int .i64 0, .int .i64 0], 3) := by kernel_rfl
theorem mk62 : mkB Try.prog 62 = some (.agg #[.int .i64 0, .int .i64 0], 2) := by kernel_rfl
theorem mo : Try.prog.follows .mixedOrders = true := by kernel_rfl
theorem sz3 : szB Try.prog 3 = some 1 := by kernel_rfl
theorem sz24 : szB Try.prog 24 = some 3 := by kernel_rfl
theorem sz27 : szB Try.prog 27 = some 1 := by kernel_rfl
theorem sz31 : szB Try.prog 31 = some 3 := by kernel_rfl
theorem sz40 : szB Try.prog 40 = some 1 := by kernel_rfl
theorem sz43 : szB Try.prog 43 = some 2 := by kernel_rfl
theorem sz46 : szB Try.prog 46 = some 1 := by kernel_rfl
theorem sz48 : szB Try.prog 48 = some 1 := by kernel_rfl
theorem sz62 : szB Try.prog 62 = some 2 := by kernel_rfl
theorem sz104 : szB Try.prog 104 = some 2 := by kernel_rfl
theorem un3 : Try.prog.underlying 3 = some (.int .i64) := by kernel_rfl
theorem un22 : Try.prog.underlying 22 = some (.slice 104) := by kernel_rfl
theorem un26 : Try.prog.underlying 26 = some (.slice 62) := by kernel_rfl
theorem un27 : Try.prog.underlying 27 = some (.slice 3) := by kernel_rfl
theorem un38 : Try.prog.underlying 38 = some (.slice 24) := by kernel_rfl
theorem un46 : Try.prog.underlying 46 = some (.slice 31) := by kernel_rfl
theorem un186 : Try.prog.underlying 186 = some (.int .u64) := by kernel_rfl
theorem ze31 : zeroB Try.prog 31 = some (.agg #[.int .i64 0, .int .i64 0, .int .i64 0]) := by kernel_rfl
theorem ze43 : zeroB Try.prog 43 = some (.agg #[.int .i64 0, .slice none 0 0]) := by kernel_rfl
theorem ze48 : zeroB Try.prog 48 = some (.agg #[.slice none 0 0]) := by kernel_rfl
theorem ze62 : zeroB Try.prog 62 = some (.agg #[.int .i64 0, .int .i64 0]) := by kernel_rfl
end Go.Proofs.Ytlbbkehdfgjneaa
