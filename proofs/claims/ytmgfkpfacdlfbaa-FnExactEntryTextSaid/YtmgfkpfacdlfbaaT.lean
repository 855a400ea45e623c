/- Types and facts. -/
import Derived.Test.YtmgfkpfacdlfbaaZ21
import Derived.Test.YtmgfkpfacdlfbaaRows
namespace Go.Proofs.Ytmgfkpfacdlfbaa
open Go Go.Z Go.Proofs Go.MuLone Go.ChangeShapes Go.WideShapes Go.ChangeAt Go.RowKit
set_option linter.unusedVariables false
set_option linter.unusedSimpArgs false
structure S_Op where
  Kind : Int
  Key : Int
  Value : Int
def z_Op : S_Op := ⟨0, 0, 0⟩

def L_Op : Lay S_Op := Lay.flat 3 (fun x => [.int .i64 x.Kind, .int .i64 x.Key, .int .i64 x.Value]) (fun _ => rfl) (fun x u hu => by
  simp only [List.mem_cons, List.not_mem_nil, or_false] at hu
  rcases hu with rfl | rfl | rfl <;> rfl)

structure S_Txn where
  Ops : List S_Op
def z_Txn : S_Txn := ⟨[]⟩

def L_laws_Txn : Lay S_Txn := Lay.map (Lay.sl L_Op 172) (fun x => x.Ops)

def L_impl_Txn : Lay S_Txn := Lay.map (Lay.sl L_Op 135) (fun x => x.Ops)
theorem ag3 : aggB Try.prog 3 = some false := by kernel_rfl
theorem ag88 : aggB Try.prog 88 = some false := by kernel_rfl
theorem ag90 : aggB Try.prog 90 = some true := by kernel_rfl
theorem ag93 : aggB Try.prog 93 = some false := by kernel_rfl
theorem ag95 : aggB Try.prog 95 = some true := by kernel_rfl
theorem ag113 : aggB Try.prog 113 = some false := by kernel_rfl
theorem ag133 : aggB Try.prog 133 = some false := by kernel_rfl
theorem ag135 : aggB Try.prog 135 = some true := by kernel_rfl
theorem ag170 : aggB Try.prog 170 = some false := by kernel_rfl
theorem ag172 : aggB Try.prog 172 = some true := by kernel_rfl
theorem bs3_1 (x0 : Int) : sliceB Try.prog 3 1 [(0, .int .i64 x0)] = some #[.int .i64 x0] := by kernel_rfl
theorem bs3_2 (x0 : Int) (x1 : Int) (x2 : Int) : sliceB Try.prog 3 3 [(0, .int .i64 x0), (1, .int .i64 x1), (2, .int .i64 x2)] = some #[.int .i64 x0, .int .i64 x1, .int .i64 x2] := by kernel_rfl
theorem bs5_0 (x0 : Int) (x1 : Int) (x2 : Int) (x3 : Int) : sliceB Try.prog 5 4 [(0, .int .u8 x0), (1, .int .u8 x1), (2, .int .u8 x2), (3, .int .u8 x3)] = some #[.int .u8 x0, .int .u8 x1, .int .u8 x2, .int .u8 x3] := by kernel_rfl
theorem bs5_3 (x0 : Int) : sliceB Try.prog 5 1 [(0, .int .u8 x0)] = some #[.int .u8 x0] := by kernel_rfl
theorem en16 : Enters Try.prog 16 := run_callFunc_enter Try.func16 (by kernel_rfl) rfl
theorem en17 : Enters Try.prog 17 := run_callFunc_enter Try.func17 (by kernel_rfl) rfl
theorem en18 : Enters Try.prog 18 := run_callFunc_enter Try.func18 (by kernel_rfl) rfl
theorem en19 : Enters Try.prog 19 := run_callFunc_enter Try.func19 (by kernel_rfl) rfl
theorem en20 : Enters Try.prog 20 := run_callFunc_enter Try.func20 (by kernel_rfl) rfl
theorem en21 : Enters Try.prog 21 := run_callFunc_enter Try.func21 (by kernel_rfl) rfl
theorem en22 : Enters Try.prog 22 := run_callFunc_enter Try.func22 (by kernel_rfl) rfl
theorem en60 : Enters Try.prog 60 := run_callFunc_enter Try.func60 (by kernel_rfl) rfl
theorem en61 : Enters Try.prog 61 := run_callFunc_enter Try.func61 (by kernel_rfl) rfl
theorem en62 : Enters Try.prog 62 := run_callFunc_enter Try.func62 (by kernel_rfl) rfl
theorem en63 : Enters Try.prog 63 := run_callFunc_enter Try.func63 (by kernel_rfl) rfl
theorem en64 : Enters Try.prog 64 := run_callFunc_enter Try.func64 (by kernel_rfl) rfl
theorem en65 : Enters Try.prog 65 := run_callFunc_enter Try.func65 (by kernel_rfl) rfl
theorem en66 : Enters Try.prog 66 := run_callFunc_enter Try.func66 (by kernel_rfl) rfl
theorem en67 : Enters Try.prog 67 := run_callFunc_enter Try.func67 (by kernel_rfl) rfl
theorem en68 : Enters Try.prog 68 := run_callFunc_enter Try.func68 (by kernel_rfl) rfl
theorem en81 : Enters Try.prog 81 := run_callFunc_enter Try.func81 (by kernel_rfl) rfl
theorem en83 : Enters Try.prog 83 := run_callFunc_enter Try.func83 (by kernel_rfl) rfl
theorem en102 : Enters Try.prog 102 := run_callFunc_enter Try.func102 (by kernel_rfl) rfl
theorem en106 : Enters Try.prog 106 := run_callFunc_enter Try.func106 (by kernel_rfl) rfl
theorem en107 : Enters Try.prog 107 := run_callFunc_enter Try.func107 (by kernel_rfl) rfl
theorem en108 : Enters Try.prog 108 := run_callFunc_enter Try.func108 (by kernel_rfl) rfl
theorem en110 : Enters Try.prog 110 := run_callFunc_enter Try.func110 (by kernel_rfl) rfl
theorem en111 : Enters Try.prog 111 := run_callFunc_enter Try.func111 (by kernel_rfl) rfl
theorem en112 : Enters Try.prog 112 := run_callFunc_enter Try.func112 (by kernel_rfl) rfl
theorem en113 : Enters Try.prog 113 := run_callFunc_enter Try.func113 (by kernel_rfl) rfl
theorem en114 : Enters Try.prog 114 := run_callFunc_enter Try.func114 (by kernel_rfl) rfl
theorem en115 : Enters Try.prog 115 := run_callFunc_enter Try.func115 (by kernel_rfl) rfl
theorem en116 : Enters Try.prog 116 := run_callFunc_enter Try.func116 (by kernel_rfl) rfl
theorem en117 : Enters Try.prog 117 := run_callFunc_enter Try.func117 (by kernel_rfl) rfl
theorem en118 : Enters Try.prog 118 := run_callFunc_enter Try.func118 (by kernel_rfl) rfl
theorem en119 : Enters Try.prog 119 := run_callFunc_enter Try.func119 (by kernel_rfl) rfl
theorem en149 : Enters Try.prog 149 := run_callFunc_enter Try.func149 (by kernel_rfl) rfl
theorem en151 : Enters Try.prog 151 := run_callFunc_enter Try.func151 (by kernel_rfl) rfl
theorem en152 : Enters Try.prog 152 := run_callFunc_enter Try.func152 (by kernel_rfl) rfl
theorem en153 : Enters Try.prog 153 := run_callFunc_enter Try.func153 (by kernel_rfl) rfl
theorem en154 : Enters Try.prog 154 := run_callFunc_enter Try.func154 (by kernel_rfl) rfl
theorem en155 : Enters Try.prog 155 := run_callFunc_enter Try.func155 (by kernel_rfl) rfl
theorem en156 : Enters Try.prog 156 := run_callFunc_enter Try.func156 (by kernel_rfl) rfl
theorem en157 : Enters Try.prog 157 := run_callFunc_enter Try.func157 (by kernel_rfl) rfl
theorem en158 : Enters Try.prog 158 := run_callFunc_enter Try.func158 (by kernel_rfl) rfl
theorem en159 : Enters Try.prog 159 := run_callFunc_enter Try.func159 (by kernel_rfl) rfl
theorem en160 : Enters Try.prog 160 := run_callFunc_enter Try.func160 (by kernel_rfl) rfl
theorem en176 : Enters Try.prog 176 := run_callFunc_enter Try.func176 (by kernel_rfl) rfl
theorem en177 : Enters Try.prog 177 := run_callFunc_enter Try.func177 (by kernel_rfl) rfl
theorem en178 : Enters Try.prog 178 := run_callFunc_enter Try.func178 (by kernel_rfl) rfl
theorem en179 : Enters Try.prog 179 := run_callFunc_enter Try.func179 (by kernel_rfl) rfl
theorem en180 : Enters Try.prog 180 := run_callFunc_enter Try.func180 (by kernel_rfl) rfl
theorem en181 : Enters Try.prog 181 := run_callFunc_enter Try.func181 (by kernel_rfl) rfl
theorem en182 : Enters Try.prog 182 := run_callFunc_enter Try.func182 (by kernel_rfl) rfl
theorem en183 : Enters Try.prog 183 := run_callFunc_enter Try.func183 (by kernel_rfl) rfl
theorem en184 : Enters Try.prog 184 := run_callFunc_enter Try.func184 (by kernel_rfl) rfl
theorem en193 : Enters Try.prog 193 := run_callFunc_enter Try.func193 (by kernel_rfl) rfl
theorem fd90_0 : fldB Try.prog 90 0 = some 0 := by kernel_rfl
theorem fd95_0 : fldB Try.prog 95 0 = some 0 := by kernel_rfl
theorem fd135_0 : fldB Try.prog 135 0 = some 0 := by kernel_rfl
theorem fd135_1 : fldB Try.prog 135 1 = some 1 := by kernel_rfl
theorem fd135_2 : fldB Try.prog 135 2 = some 2 := by kernel_rfl
theorem fd172_0 : fldB Try.prog 172 0 = some 0 := by kernel_rfl
theorem fd172_1 : fldB Try.prog 172 1 = some 1 := by kernel_rfl
theorem fd172_2 : fldB Try.prog 172 2 = some 2 := by kernel_rfl
theorem lz3 : ((Lay.int .i64)).own 0 [.int .i64 0] [] := ⟨rfl, rfl⟩
theorem lz95 : (L_impl_Txn).own z_Txn [.slice none 0 0] [] := ⟨_, rfl, .inl ⟨rfl, rfl, rfl⟩⟩
theorem lz135 : (L_Op).own z_Op [.int .i64 0, .int .i64 0, .int .i64 0] [] := ⟨rfl, rfl⟩
theorem mk3 : mkB Try.prog 3 = some (.int .i64 0, 1) := by kernel_rfl
theorem mk5 : mkB Try.prog 5 = some (.int .u8 0, 1) := by kernel_rfl
theorem mk95 : mkB Try.prog 95 = some (.agg #[.slice none 0 0], 1) := by kernel_rfl
theorem mk135 : mkB Try.prog 135 = some (.agg #[.int .i64 0, .int .i64 0, .int .i64 0], 3) := by kernel_rfl
theorem mo : Try.prog.follows .mixedOrders = true := by kernel_rfl
theorem sz3 : szB Try.prog 3 = some 1 := by kernel_rfl
theorem sz5 : szB Try.prog 5 = some 1 := by kernel_rfl
theorem sz90 : szB Try.prog 90 = some 1 := by kernel_rfl
theorem sz93 : szB Try.prog 93 = some 1 := by kernel_rfl
theorem sz95 : szB Try.prog 95 = some 1 := by kernel_rfl
theorem sz135 : szB Try.prog 135 = some 3 := by kernel_rfl
theorem sz172 : szB Try.prog 172 = some 3 := by kernel_rfl
theorem un3 : Try.prog.underlying 3 = some (.int .i64) := by kernel_rfl
theorem un5 : Try.prog.underlying 5 = some (.int .u8) := by kernel_rfl
theorem un9 : Try.prog.underlying 9 = some (.string) := by kernel_rfl
theorem un30 : Try.prog.underlying 30 = some (.slice 90) := by kernel_rfl
theorem un31 : Try.prog.underlying 31 = some (.slice 3) := by kernel_rfl
theorem un34 : Try.prog.underlying 34 = some (.slice 95) := by kernel_rfl
theorem un74 : Try.prog.underlying 74 = some (.slice 5) := by kernel_rfl
theorem un88 : Try.prog.underlying 88 = some (.slice 172) := by kernel_rfl
theorem un93 : Try.prog.underlying 93 = some (.slice 135) := by kernel_rfl
theorem ze95 : zeroB Try.prog 95 = some (.agg #[.slice none 0 0]) := by kernel_rfl
theorem ze135 : zeroB Try.prog 135 = some (.agg #[.int .i64 0, .int .i64 0, .int .i64 0]) := by kernel_rfl
end Go.Proofs.Ytmgfkpfacdlfbaa
