/- Types and facts. -/
import Derived.Test.YtmgfkpfacdlfbaaZ18
import Derived.Test.YtmgfkpfacdlfbaaRows
namespace Go.Proofs.Ytmgfkpfacdlfbaa
open Go Go.Z Go.Proofs Go.MuLone Go.ChangeShapes Go.WideShapes Go.ChangeAt Go.RowKit
set_option linter.unusedVariables false
set_option linter.unusedSimpArgs false
structure S_Op where
  Kind : Int
  Key : Int
  Value : Int
def z_Op : S_Op := ⟨0, 0, 0⟩

def L_Op : Lay S_Op := Lay.flat 3 (fun x => [.int .i64 x.Kind, .int .i64 x.Key, .int .i64 x.Value]) (fun _ => rfl) (fun x u hu => by
  simp only [List.mem_cons, List.not_mem_nil, or_false] at hu
  rcases hu with rfl | rfl | rfl <;> rfl)

structure S_Txn where
  Ops : List S_Op
def z_Txn : S_Txn := ⟨[]⟩

def L_impl_Txn : Lay S_Txn := Lay.map (Lay.sl L_Op 135) (fun x => x.Ops)

structure S_l12Reader where
  list : List Int
  at_ : Int
def z_l12Reader : S_l12Reader := ⟨[], 0⟩

def L_spec_l12Reader : Lay S_l12Reader := Lay.map (Lay.pair (Lay.sl (Lay.int .i64) 3) (Lay.int .i64)) (fun x => (x.list, x.at_))

structure S_reader where
  list : List Int
  at_ : Int
  bad : Bool
def z_reader : S_reader := ⟨[], 0, false⟩

def L_impl_reader : Lay S_reader := Lay.map (Lay.pair (Lay.sl (Lay.int .i64) 3) (Lay.pair (Lay.int .i64) Lay.bool)) (fun x => (x.list, (x.at_, x.bad)))
theorem ag3 : aggB Try.prog 3 = some false := by kernel_rfl
theorem ag4 : aggB Try.prog 4 = some false := by kernel_rfl
theorem ag9 : aggB Try.prog 9 = some false := by kernel_rfl
theorem ag31 : aggB Try.prog 31 = some false := by kernel_rfl
theorem ag65 : aggB Try.prog 65 = some false := by kernel_rfl
theorem ag93 : aggB Try.prog 93 = some false := by kernel_rfl
theorem ag95 : aggB Try.prog 95 = some true := by kernel_rfl
theorem ag113 : aggB Try.prog 113 = some false := by kernel_rfl
theorem ag133 : aggB Try.prog 133 = some false := by kernel_rfl
theorem ag135 : aggB Try.prog 135 = some true := by kernel_rfl
theorem ag170 : aggB Try.prog 170 = some false := by kernel_rfl
theorem bd95_3 (A0 : Option Addr) (n0 c0 : Nat) : Try.prog.built 95 [(0, .slice A0 n0 c0)] = some #[.slice A0 n0 c0] := by kernel_rfl
theorem bd135_4 (x0 : Int) : Try.prog.built 135 [(0, .int .i64 x0)] = some #[.int .i64 x0, .int .i64 0, .int .i64 0] := by kernel_rfl
theorem bd135_9 (x0 : Int) (x1 : Int) (x2 : Int) : Try.prog.built 135 [(0, .int .i64 x0), (1, .int .i64 x1), (2, .int .i64 x2)] = some #[.int .i64 x0, .int .i64 x1, .int .i64 x2] := by kernel_rfl
theorem bd181_1 (x0 : Int) : Try.prog.built 181 [(1, .int .i64 x0)] = some #[.slice none 0 0, .int .i64 x0] := by kernel_rfl
theorem bd181_2 (A0 : Option Addr) (n0 c0 : Nat) : Try.prog.built 181 [(0, .slice A0 n0 c0)] = some #[.slice A0 n0 c0, .int .i64 0] := by kernel_rfl
theorem bd183_7 (x0 : Bool) : Try.prog.built 183 [(2, .bool x0)] = some #[.slice none 0 0, .int .i64 0, .bool x0] := by kernel_rfl
theorem bd183_8 (A0 : Option Addr) (n0 c0 : Nat) : Try.prog.built 183 [(0, .slice A0 n0 c0)] = some #[.slice A0 n0 c0, .int .i64 0, .bool false] := by kernel_rfl
theorem bs3_0 (x0 : Int) : sliceB Try.prog 3 1 [(0, .int .i64 x0)] = some #[.int .i64 x0] := by kernel_rfl
theorem bs9_10 (x0 : ByteArray) : sliceB Try.prog 9 1 [(0, .string x0)] = some #[.string x0] := by kernel_rfl
theorem bs95_6 (A1 : Option Addr) (n1 c1 : Nat) : sliceB Try.prog 95 1 [(0, .agg #[.slice A1 n1 c1])] = some #[.slice A1 n1 c1] := by kernel_rfl
theorem bs135_5 (x1 : Int) (x2 : Int) (x3 : Int) : sliceB Try.prog 135 1 [(0, .agg #[.int .i64 x1, .int .i64 x2, .int .i64 x3])] = some #[.int .i64 x1, .int .i64 x2, .int .i64 x3] := by kernel_rfl
theorem en21 : Enters Try.prog 21 := run_callFunc_enter Try.func21 (by kernel_rfl) rfl
theorem en22 : Enters Try.prog 22 := run_callFunc_enter Try.func22 (by kernel_rfl) rfl
theorem en37 : Enters Try.prog 37 := run_callFunc_enter Try.func37 (by kernel_rfl) rfl
theorem en38 : Enters Try.prog 38 := run_callFunc_enter Try.func38 (by kernel_rfl) rfl
theorem en39 : Enters Try.prog 39 := run_callFunc_enter Try.func39 (by kernel_rfl) rfl
theorem en40 : Enters Try.prog 40 := run_callFunc_enter Try.func40 (by kernel_rfl) rfl
theorem en41 : Enters Try.prog 41 := run_callFunc_enter Try.func41 (by kernel_rfl) rfl
theorem en42 : Enters Try.prog 42 := run_callFunc_enter Try.func42 (by kernel_rfl) rfl
theorem en62 : Enters Try.prog 62 := run_callFunc_enter Try.func62 (by kernel_rfl) rfl
theorem en66 : Enters Try.prog 66 := run_callFunc_enter Try.func66 (by kernel_rfl) rfl
theorem en68 : Enters Try.prog 68 := run_callFunc_enter Try.func68 (by kernel_rfl) rfl
theorem en81 : Enters Try.prog 81 := run_callFunc_enter Try.func81 (by kernel_rfl) rfl
theorem en83 : Enters Try.prog 83 := run_callFunc_enter Try.func83 (by kernel_rfl) rfl
theorem en86 : Enters Try.prog 86 := run_callFunc_enter Try.func86 (by kernel_rfl) rfl
theorem en88 : Enters Try.prog 88 := run_callFunc_enter Try.func88 (by kernel_rfl) rfl
theorem en89 : Enters Try.prog 89 := run_callFunc_enter Try.func89 (by kernel_rfl) rfl
theorem en90 : Enters Try.prog 90 := run_callFunc_enter Try.func90 (by kernel_rfl) rfl
theorem en91 : Enters Try.prog 91 := run_callFunc_enter Try.func91 (by kernel_rfl) rfl
theorem en107 : Enters Try.prog 107 := run_callFunc_enter Try.func107 (by kernel_rfl) rfl
theorem en111 : Enters Try.prog 111 := run_callFunc_enter Try.func111 (by kernel_rfl) rfl
theorem en112 : Enters Try.prog 112 := run_callFunc_enter Try.func112 (by kernel_rfl) rfl
theorem en114 : Enters Try.prog 114 := run_callFunc_enter Try.func114 (by kernel_rfl) rfl
theorem en115 : Enters Try.prog 115 := run_callFunc_enter Try.func115 (by kernel_rfl) rfl
theorem en116 : Enters Try.prog 116 := run_callFunc_enter Try.func116 (by kernel_rfl) rfl
theorem en117 : Enters Try.prog 117 := run_callFunc_enter Try.func117 (by kernel_rfl) rfl
theorem en119 : Enters Try.prog 119 := run_callFunc_enter Try.func119 (by kernel_rfl) rfl
theorem en131 : Enters Try.prog 131 := run_callFunc_enter Try.func131 (by kernel_rfl) rfl
theorem en132 : Enters Try.prog 132 := run_callFunc_enter Try.func132 (by kernel_rfl) rfl
theorem en133 : Enters Try.prog 133 := run_callFunc_enter Try.func133 (by kernel_rfl) rfl
theorem en134 : Enters Try.prog 134 := run_callFunc_enter Try.func134 (by kernel_rfl) rfl
theorem en135 : Enters Try.prog 135 := run_callFunc_enter Try.func135 (by kernel_rfl) rfl
theorem en136 : Enters Try.prog 136 := run_callFunc_enter Try.func136 (by kernel_rfl) rfl
theorem en137 : Enters Try.prog 137 := run_callFunc_enter Try.func137 (by kernel_rfl) rfl
theorem en139 : Enters Try.prog 139 := run_callFunc_enter Try.func139 (by kernel_rfl) rfl
theorem en140 : Enters Try.prog 140 := run_callFunc_enter Try.func140 (by kernel_rfl) rfl
theorem en141 : Enters Try.prog 141 := run_callFunc_enter Try.func141 (by kernel_rfl) rfl
theorem en152 : Enters Try.prog 152 := run_callFunc_enter Try.func152 (by kernel_rfl) rfl
theorem en154 : Enters Try.prog 154 := run_callFunc_enter Try.func154 (by kernel_rfl) rfl
theorem en155 : Enters Try.prog 155 := run_callFunc_enter Try.func155 (by kernel_rfl) rfl
theorem en156 : Enters Try.prog 156 := run_callFunc_enter Try.func156 (by kernel_rfl) rfl
theorem en157 : Enters Try.prog 157 := run_callFunc_enter Try.func157 (by kernel_rfl) rfl
theorem en158 : Enters Try.prog 158 := run_callFunc_enter Try.func158 (by kernel_rfl) rfl
theorem en159 : Enters Try.prog 159 := run_callFunc_enter Try.func159 (by kernel_rfl) rfl
theorem en160 : Enters Try.prog 160 := run_callFunc_enter Try.func160 (by kernel_rfl) rfl
theorem en169 : Enters Try.prog 169 := run_callFunc_enter Try.func169 (by kernel_rfl) rfl
theorem en170 : Enters Try.prog 170 := run_callFunc_enter Try.func170 (by kernel_rfl) rfl
theorem en171 : Enters Try.prog 171 := run_callFunc_enter Try.func171 (by kernel_rfl) rfl
theorem en172 : Enters Try.prog 172 := run_callFunc_enter Try.func172 (by kernel_rfl) rfl
theorem en173 : Enters Try.prog 173 := run_callFunc_enter Try.func173 (by kernel_rfl) rfl
theorem en180 : Enters Try.prog 180 := run_callFunc_enter Try.func180 (by kernel_rfl) rfl
theorem en181 : Enters Try.prog 181 := run_callFunc_enter Try.func181 (by kernel_rfl) rfl
theorem en182 : Enters Try.prog 182 := run_callFunc_enter Try.func182 (by kernel_rfl) rfl
theorem en183 : Enters Try.prog 183 := run_callFunc_enter Try.func183 (by kernel_rfl) rfl
theorem en184 : Enters Try.prog 184 := run_callFunc_enter Try.func184 (by kernel_rfl) rfl
theorem en189 : Enters Try.prog 189 := run_callFunc_enter Try.func189 (by kernel_rfl) rfl
theorem en190 : Enters Try.prog 190 := run_callFunc_enter Try.func190 (by kernel_rfl) rfl
theorem en191 : Enters Try.prog 191 := run_callFunc_enter Try.func191 (by kernel_rfl) rfl
theorem en193 : Enters Try.prog 193 := run_callFunc_enter Try.func193 (by kernel_rfl) rfl
theorem fd95_0 : fldB Try.prog 95 0 = some 0 := by kernel_rfl
theorem fd135_0 : fldB Try.prog 135 0 = some 0 := by kernel_rfl
theorem fd135_1 : fldB Try.prog 135 1 = some 1 := by kernel_rfl
theorem fd135_2 : fldB Try.prog 135 2 = some 2 := by kernel_rfl
theorem fd181_0 : fldB Try.prog 181 0 = some 0 := by kernel_rfl
theorem fd181_1 : fldB Try.prog 181 1 = some 1 := by kernel_rfl
theorem fd183_0 : fldB Try.prog 183 0 = some 0 := by kernel_rfl
theorem fd183_1 : fldB Try.prog 183 1 = some 1 := by kernel_rfl
theorem fd183_2 : fldB Try.prog 183 2 = some 2 := by kernel_rfl
theorem mk3 : mkB Try.prog 3 = some (.int .i64 0, 1) := by kernel_rfl
theorem mk95 : mkB Try.prog 95 = some (.agg #[.slice none 0 0], 1) := by kernel_rfl
theorem mk135 : mkB Try.prog 135 = some (.agg #[.int .i64 0, .int .i64 0, .int .i64 0], 3) := by kernel_rfl
theorem mo : Try.prog.follows .mixedOrders = true := by kernel_rfl
theorem sz3 : szB Try.prog 3 = some 1 := by kernel_rfl
theorem sz4 : szB Try.prog 4 = some 1 := by kernel_rfl
theorem sz9 : szB Try.prog 9 = some 1 := by kernel_rfl
theorem sz93 : szB Try.prog 93 = some 1 := by kernel_rfl
theorem sz95 : szB Try.prog 95 = some 1 := by kernel_rfl
theorem sz135 : szB Try.prog 135 = some 3 := by kernel_rfl
theorem un3 : Try.prog.underlying 3 = some (.int .i64) := by kernel_rfl
theorem un5 : Try.prog.underlying 5 = some (.int .u8) := by kernel_rfl
theorem un9 : Try.prog.underlying 9 = some (.string) := by kernel_rfl
theorem un31 : Try.prog.underlying 31 = some (.slice 3) := by kernel_rfl
theorem un34 : Try.prog.underlying 34 = some (.slice 95) := by kernel_rfl
theorem un93 : Try.prog.underlying 93 = some (.slice 135) := by kernel_rfl
theorem un154 : Try.prog.underlying 154 = some (.slice 9) := by kernel_rfl
theorem un201 : Try.prog.underlying 201 = some (.int .u32) := by kernel_rfl
theorem ze95 : zeroB Try.prog 95 = some (.agg #[.slice none 0 0]) := by kernel_rfl
theorem ze135 : zeroB Try.prog 135 = some (.agg #[.int .i64 0, .int .i64 0, .int .i64 0]) := by kernel_rfl
end Go.Proofs.Ytmgfkpfacdlfbaa
