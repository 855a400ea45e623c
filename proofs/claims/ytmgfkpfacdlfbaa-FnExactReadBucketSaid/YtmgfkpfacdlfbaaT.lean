/- Types and facts. -/
import Derived.Test.YtmgfkpfacdlfbaaZ18
import Derived.Test.YtmgfkpfacdlfbaaRows
namespace Go.Proofs.Ytmgfkpfacdlfbaa
open Go Go.Z Go.Proofs Go.MuLone Go.ChangeShapes Go.WideShapes Go.ChangeAt Go.RowKit
set_option linter.unusedVariables false
set_option linter.unusedSimpArgs false
structure S_Block where
  Id : Int
  Leaf : Int
  Value : Int
def z_Block : S_Block := ⟨0, 0, 0⟩

def L_Block : Lay S_Block := Lay.flat 3 (fun x => [.int .i64 x.Id, .int .i64 x.Leaf, .int .i64 x.Value]) (fun _ => rfl) (fun x u hu => by
  simp only [List.mem_cons, List.not_mem_nil, or_false] at hu
  rcases hu with rfl | rfl | rfl <;> rfl)

structure S_l12Reader where
  list : List Int
  at_ : Int
def z_l12Reader : S_l12Reader := ⟨[], 0⟩

def L_spec_l12Reader : Lay S_l12Reader := Lay.map (Lay.pair (Lay.sl (Lay.int .i64) 3) (Lay.int .i64)) (fun x => (x.list, x.at_))

structure S_reader where
  list : List Int
  at_ : Int
  bad : Bool
def z_reader : S_reader := ⟨[], 0, false⟩

def L_impl_reader : Lay S_reader := Lay.map (Lay.pair (Lay.sl (Lay.int .i64) 3) (Lay.pair (Lay.int .i64) Lay.bool)) (fun x => (x.list, (x.at_, x.bad)))
theorem ag3 : aggB Try.prog 3 = some false := by kernel_rfl
theorem ag4 : aggB Try.prog 4 = some false := by kernel_rfl
theorem ag9 : aggB Try.prog 9 = some false := by kernel_rfl
theorem ag31 : aggB Try.prog 31 = some false := by kernel_rfl
theorem ag65 : aggB Try.prog 65 = some false := by kernel_rfl
theorem ag81 : aggB Try.prog 81 = some true := by kernel_rfl
theorem ag113 : aggB Try.prog 113 = some false := by kernel_rfl
theorem bd81_3 (x0 : Int) : Try.prog.built 81 [(0, .int .i64 x0)] = some #[.int .i64 x0, .int .i64 0, .int .i64 0] := by kernel_rfl
theorem bd81_7 (x0 : Int) (x1 : Int) (x2 : Int) : Try.prog.built 81 [(0, .int .i64 x0), (1, .int .i64 x1), (2, .int .i64 x2)] = some #[.int .i64 x0, .int .i64 x1, .int .i64 x2] := by kernel_rfl
theorem bd181_1 (x0 : Int) : Try.prog.built 181 [(1, .int .i64 x0)] = some #[.slice none 0 0, .int .i64 x0] := by kernel_rfl
theorem bd181_2 (A0 : Option Addr) (n0 c0 : Nat) : Try.prog.built 181 [(0, .slice A0 n0 c0)] = some #[.slice A0 n0 c0, .int .i64 0] := by kernel_rfl
theorem bd183_5 (x0 : Bool) : Try.prog.built 183 [(2, .bool x0)] = some #[.slice none 0 0, .int .i64 0, .bool x0] := by kernel_rfl
theorem bd183_6 (A0 : Option Addr) (n0 c0 : Nat) : Try.prog.built 183 [(0, .slice A0 n0 c0)] = some #[.slice A0 n0 c0, .int .i64 0, .bool false] := by kernel_rfl
theorem bs3_0 (x0 : Int) : sliceB Try.prog 3 1 [(0, .int .i64 x0)] = some #[.int .i64 x0] := by kernel_rfl
theorem bs9_8 (x0 : ByteArray) : sliceB Try.prog 9 1 [(0, .string x0)] = some #[.string x0] := by kernel_rfl
theorem bs81_4 (x1 : Int) (x2 : Int) (x3 : Int) : sliceB Try.prog 81 1 [(0, .agg #[.int .i64 x1, .int .i64 x2, .int .i64 x3])] = some #[.int .i64 x1, .int .i64 x2, .int .i64 x3] := by kernel_rfl
theorem en15 : Enters Try.prog 15 := run_callFunc_enter Try.func15 (by kernel_rfl) rfl
theorem en33 : Enters Try.prog 33 := run_callFunc_enter Try.func33 (by kernel_rfl) rfl
theorem en34 : Enters Try.prog 34 := run_callFunc_enter Try.func34 (by kernel_rfl) rfl
theorem en35 : Enters Try.prog 35 := run_callFunc_enter Try.func35 (by kernel_rfl) rfl
theorem en36 : Enters Try.prog 36 := run_callFunc_enter Try.func36 (by kernel_rfl) rfl
theorem en53 : Enters Try.prog 53 := run_callFunc_enter Try.func53 (by kernel_rfl) rfl
theorem en59 : Enters Try.prog 59 := run_callFunc_enter Try.func59 (by kernel_rfl) rfl
theorem en81 : Enters Try.prog 81 := run_callFunc_enter Try.func81 (by kernel_rfl) rfl
theorem en85 : Enters Try.prog 85 := run_callFunc_enter Try.func85 (by kernel_rfl) rfl
theorem en86 : Enters Try.prog 86 := run_callFunc_enter Try.func86 (by kernel_rfl) rfl
theorem en87 : Enters Try.prog 87 := run_callFunc_enter Try.func87 (by kernel_rfl) rfl
theorem en114 : Enters Try.prog 114 := run_callFunc_enter Try.func114 (by kernel_rfl) rfl
theorem en115 : Enters Try.prog 115 := run_callFunc_enter Try.func115 (by kernel_rfl) rfl
theorem en131 : Enters Try.prog 131 := run_callFunc_enter Try.func131 (by kernel_rfl) rfl
theorem en132 : Enters Try.prog 132 := run_callFunc_enter Try.func132 (by kernel_rfl) rfl
theorem en133 : Enters Try.prog 133 := run_callFunc_enter Try.func133 (by kernel_rfl) rfl
theorem en134 : Enters Try.prog 134 := run_callFunc_enter Try.func134 (by kernel_rfl) rfl
theorem en135 : Enters Try.prog 135 := run_callFunc_enter Try.func135 (by kernel_rfl) rfl
theorem en136 : Enters Try.prog 136 := run_callFunc_enter Try.func136 (by kernel_rfl) rfl
theorem en137 : Enters Try.prog 137 := run_callFunc_enter Try.func137 (by kernel_rfl) rfl
theorem en138 : Enters Try.prog 138 := run_callFunc_enter Try.func138 (by kernel_rfl) rfl
theorem en139 : Enters Try.prog 139 := run_callFunc_enter Try.func139 (by kernel_rfl) rfl
theorem en141 : Enters Try.prog 141 := run_callFunc_enter Try.func141 (by kernel_rfl) rfl
theorem en154 : Enters Try.prog 154 := run_callFunc_enter Try.func154 (by kernel_rfl) rfl
theorem en155 : Enters Try.prog 155 := run_callFunc_enter Try.func155 (by kernel_rfl) rfl
theorem en169 : Enters Try.prog 169 := run_callFunc_enter Try.func169 (by kernel_rfl) rfl
theorem en170 : Enters Try.prog 170 := run_callFunc_enter Try.func170 (by kernel_rfl) rfl
theorem en171 : Enters Try.prog 171 := run_callFunc_enter Try.func171 (by kernel_rfl) rfl
theorem en172 : Enters Try.prog 172 := run_callFunc_enter Try.func172 (by kernel_rfl) rfl
theorem en173 : Enters Try.prog 173 := run_callFunc_enter Try.func173 (by kernel_rfl) rfl
theorem en180 : Enters Try.prog 180 := run_callFunc_enter Try.func180 (by kernel_rfl) rfl
theorem en189 : Enters Try.prog 189 := run_callFunc_enter Try.func189 (by kernel_rfl) rfl
theorem en190 : Enters Try.prog 190 := run_callFunc_enter Try.func190 (by kernel_rfl) rfl
theorem en191 : Enters Try.prog 191 := run_callFunc_enter Try.func191 (by kernel_rfl) rfl
theorem fd81_0 : fldB Try.prog 81 0 = some 0 := by kernel_rfl
theorem fd81_1 : fldB Try.prog 81 1 = some 1 := by kernel_rfl
theorem fd81_2 : fldB Try.prog 81 2 = some 2 := by kernel_rfl
theorem fd181_0 : fldB Try.prog 181 0 = some 0 := by kernel_rfl
theorem fd181_1 : fldB Try.prog 181 1 = some 1 := by kernel_rfl
theorem fd183_0 : fldB Try.prog 183 0 = some 0 := by kernel_rfl
theorem fd183_1 : fldB Try.prog 183 1 = some 1 := by kernel_rfl
theorem fd183_2 : fldB Try.prog 183 2 = some 2 := by kernel_rfl
theorem mk3 : mkB Try.prog 3 = some (.int .i64 0, 1) := by kernel_rfl
theorem mk81 : mkB Try.prog 81 = some (.agg #[.int .i64 0, .int .i64 0, .int .i64 0], 3) := by kernel_rfl
theorem mo : Try.prog.follows .mixedOrders = true := by kernel_rfl
theorem sz3 : szB Try.prog 3 = some 1 := by kernel_rfl
theorem sz4 : szB Try.prog 4 = some 1 := by kernel_rfl
theorem sz9 : szB Try.prog 9 = some 1 := by kernel_rfl
theorem sz81 : szB Try.prog 81 = some 3 := by kernel_rfl
theorem un3 : Try.prog.underlying 3 = some (.int .i64) := by kernel_rfl
theorem un5 : Try.prog.underlying 5 = some (.int .u8) := by kernel_rfl
theorem un9 : Try.prog.underlying 9 = some (.string) := by kernel_rfl
theorem un26 : Try.prog.underlying 26 = some (.slice 81) := by kernel_rfl
theorem un31 : Try.prog.underlying 31 = some (.slice 3) := by kernel_rfl
theorem un154 : Try.prog.underlying 154 = some (.slice 9) := by kernel_rfl
theorem un201 : Try.prog.underlying 201 = some (.int .u32) := by kernel_rfl
theorem ze81 : zeroB Try.prog 81 = some (.agg #[.int .i64 0, .int .i64 0, .int .i64 0]) := by kernel_rfl
end Go.Proofs.Ytmgfkpfacdlfbaa
