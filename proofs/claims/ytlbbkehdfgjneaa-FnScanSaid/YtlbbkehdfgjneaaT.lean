/- Types and facts. -/
import Derived.Test.YtlbbkehdfgjneaaZ20
import Derived.Test.YtlbbkehdfgjneaaRows
namespace Go.Proofs.Ytlbbkehdfgjneaa
open Go Go.Z Go.Proofs Go.MuLone Go.ChangeShapes Go.WideShapes Go.ChangeAt Go.RowKit
set_option linter.unusedVariables false
set_option linter.unusedSimpArgs false
structure S_Entry where
  Key : Int
  Value : Int
def z_Entry : S_Entry := ⟨0, 0⟩

def L_Entry : Lay S_Entry := Lay.flat 2 (fun x => [.int .i64 x.Key, .int .i64 x.Value]) (fun _ => rfl) (fun x u hu => by
  simp only [List.mem_cons, List.not_mem_nil, or_false] at hu
  rcases hu with rfl | rfl <;> rfl)

structure S_Op where
  Kind : Int
  Key : Int
  Value : Int
def z_Op : S_Op := ⟨0, 0, 0⟩

def L_Op : Lay S_Op := Lay.flat 3 (fun x => [.int .i64 x.Kind, .int .i64 x.Key, .int .i64 x.Value]) (fun _ => rfl) (fun x u hu => by
  simp only [List.mem_cons, List.not_mem_nil, or_false] at hu
  rcases hu with rfl | rfl | rfl <;> rfl)

structure S_l00Src where
  code : List Int
  at_ : Int
  seed : Int
def z_l00Src : S_l00Src := ⟨[], 0, 0⟩

def L_spec_l00Src : Lay S_l00Src := Lay.map (Lay.pair (Lay.sl (Lay.int .u8) 5) (Lay.pair (Lay.int .i64) (Lay.int .i64))) (fun x => (x.code, (x.at_, x.seed)))

structure S_Txn where
  Ops : List S_Op
def z_Txn : S_Txn := ⟨[]⟩

def L_impl_Txn : Lay S_Txn := Lay.map (Lay.sl L_Op 31) (fun x => x.Ops)

structure S_Result where
  Code : Int
  Values : List Int
def z_Result : S_Result := ⟨0, []⟩

def L_impl_Result : Lay S_Result := Lay.map (Lay.pair (Lay.int .i64) (Lay.sl (Lay.int .i64) 3)) (fun x => (x.Code, x.Values))
theorem ag3 : aggB Try.prog 3 = some false := by kernel_rfl
theorem ag5 : aggB Try.prog 5 = some false := by kernel_rfl
theorem ag27 : aggB Try.prog 27 = some false := by kernel_rfl
theorem ag31 : aggB Try.prog 31 = some true := by kernel_rfl
theorem ag43 : aggB Try.prog 43 = some true := by kernel_rfl
theorem ag46 : aggB Try.prog 46 = some false := by kernel_rfl
theorem ag48 : aggB Try.prog 48 = some true := by kernel_rfl
theorem ag55 : aggB Try.prog 55 = some false := by kernel_rfl
theorem ag62 : aggB Try.prog 62 = some true := by kernel_rfl
theorem bd31_9 (x0 : Int) (x1 : Int) : Try.prog.built 31 [(0, .int .i64 x0), (1, .int .i64 x1)] = some #[.int .i64 x0, .int .i64 x1, .int .i64 0] := by kernel_rfl
theorem bd31_13 (x0 : Int) (x1 : Int) (x2 : Int) : Try.prog.built 31 [(0, .int .i64 x0), (1, .int .i64 x1), (2, .int .i64 x2)] = some #[.int .i64 x0, .int .i64 x1, .int .i64 x2] := by kernel_rfl
theorem bd43_5 (A0 : Option Addr) (n0 c0 : Nat) : Try.prog.built 43 [(1, .slice A0 n0 c0)] = some #[.int .i64 0, .slice A0 n0 c0] := by kernel_rfl
theorem bd43_6 (x0 : Int) (A1 : Option Addr) (n1 c1 : Nat) : Try.prog.built 43 [(0, .int .i64 x0), (1, .slice A1 n1 c1)] = some #[.int .i64 x0, .slice A1 n1 c1] := by kernel_rfl
theorem bd48_10  : Try.prog.built 48 [] = some #[.slice none 0 0] := by kernel_rfl
theorem bd62_1 (x0 : Int) (x1 : Int) : Try.prog.built 62 [(0, .int .i64 x0), (1, .int .i64 x1)] = some #[.int .i64 x0, .int .i64 x1] := by kernel_rfl
theorem bd159_4 (A0 : Option Addr) (n0 c0 : Nat) (x1 : Int) : Try.prog.built 159 [(0, .slice A0 n0 c0), (2, .int .i64 x1)] = some #[.slice A0 n0 c0, .int .i64 0, .int .i64 x1] := by kernel_rfl
theorem bs3_0 (x0 : Int) (x1 : Int) : sliceB Try.prog 3 2 [(0, .int .i64 x0), (1, .int .i64 x1)] = some #[.int .i64 x0, .int .i64 x1] := by kernel_rfl
theorem bs3_3 (x0 : Int) : sliceB Try.prog 3 1 [(0, .int .i64 x0)] = some #[.int .i64 x0] := by kernel_rfl
theorem bs3_8 (x0 : Int) (x1 : Int) (x2 : Int) : sliceB Try.prog 3 3 [(0, .int .i64 x0), (1, .int .i64 x1), (2, .int .i64 x2)] = some #[.int .i64 x0, .int .i64 x1, .int .i64 x2] := by kernel_rfl
theorem bs31_11 (x1 : Int) (x2 : Int) (x3 : Int) : sliceB Try.prog 31 1 [(0, .agg #[.int .i64 x1, .int .i64 x2, .int .i64 x3])] = some #[.int .i64 x1, .int .i64 x2, .int .i64 x3] := by kernel_rfl
theorem bs43_7 (x1 : Int) (A2 : Option Addr) (n2 c2 : Nat) : sliceB Try.prog 43 1 [(0, .agg #[.int .i64 x1, .slice A2 n2 c2])] = some #[.int .i64 x1, .slice A2 n2 c2] := by kernel_rfl
theorem bs48_12 (A1 : Option Addr) (n1 c1 : Nat) : sliceB Try.prog 48 1 [(0, .agg #[.slice A1 n1 c1])] = some #[.slice A1 n1 c1] := by kernel_rfl
theorem bs62_2 (x1 : Int) (x2 : Int) : sliceB Try.prog 62 1 [(0, .agg #[.int .i64 x1, .int .i64 x2])] = some #[.int .i64 x1, .int .i64 x2] := by kernel_rfl
theorem eg62 : Try.prog.eqGuardType Try.prog.depth 62 = false := by kernel_rfl
theorem en15 : Enters Try.prog 15 := run_callFunc_enter Try.func15 (by kernel_rfl) rfl
theorem en31 : Enters Try.prog 31 := run_callFunc_enter Try.func31 (by kernel_rfl) rfl
theorem en32 : Enters Try.prog 32 := run_callFunc_enter Try.func32 (by kernel_rfl) rfl
theorem en33 : Enters Try.prog 33 := run_callFunc_enter Try.func33 (by kernel_rfl) rfl
theorem en35 : Enters Try.prog 35 := run_callFunc_enter Try.func35 (by kernel_rfl) rfl
theorem en36 : Enters Try.prog 36 := run_callFunc_enter Try.func36 (by kernel_rfl) rfl
theorem en65 : Enters Try.prog 65 := run_callFunc_enter Try.func65 (by kernel_rfl) rfl
theorem en67 : Enters Try.prog 67 := run_callFunc_enter Try.func67 (by kernel_rfl) rfl
theorem en68 : Enters Try.prog 68 := run_callFunc_enter Try.func68 (by kernel_rfl) rfl
theorem en69 : Enters Try.prog 69 := run_callFunc_enter Try.func69 (by kernel_rfl) rfl
theorem en73 : Enters Try.prog 73 := run_callFunc_enter Try.func73 (by kernel_rfl) rfl
theorem en79 : Enters Try.prog 79 := run_callFunc_enter Try.func79 (by kernel_rfl) rfl
theorem en80 : Enters Try.prog 80 := run_callFunc_enter Try.func80 (by kernel_rfl) rfl
theorem en81 : Enters Try.prog 81 := run_callFunc_enter Try.func81 (by kernel_rfl) rfl
theorem en82 : Enters Try.prog 82 := run_callFunc_enter Try.func82 (by kernel_rfl) rfl
theorem en83 : Enters Try.prog 83 := run_callFunc_enter Try.func83 (by kernel_rfl) rfl
theorem en102 : Enters Try.prog 102 := run_callFunc_enter Try.func102 (by kernel_rfl) rfl
theorem en125 : Enters Try.prog 125 := run_callFunc_enter Try.func125 (by kernel_rfl) rfl
theorem en126 : Enters Try.prog 126 := run_callFunc_enter Try.func126 (by kernel_rfl) rfl
theorem en127 : Enters Try.prog 127 := run_callFunc_enter Try.func127 (by kernel_rfl) rfl
theorem en128 : Enters Try.prog 128 := run_callFunc_enter Try.func128 (by kernel_rfl) rfl
theorem en129 : Enters Try.prog 129 := run_callFunc_enter Try.func129 (by kernel_rfl) rfl
theorem en130 : Enters Try.prog 130 := run_callFunc_enter Try.func130 (by kernel_rfl) rfl
theorem en131 : Enters Try.prog 131 := run_callFunc_enter Try.func131 (by kernel_rfl) rfl
theorem en134 : Enters Try.prog 134 := run_callFunc_enter Try.func134 (by kernel_rfl) rfl
theorem en135 : Enters Try.prog 135 := run_callFunc_enter Try.func135 (by kernel_rfl) rfl
theorem en136 : Enters Try.prog 136 := run_callFunc_enter Try.func136 (by kernel_rfl) rfl
theorem en137 : Enters Try.prog 137 := run_callFunc_enter Try.func137 (by kernel_rfl) rfl
theorem en138 : Enters Try.prog 138 := run_callFunc_enter Try.func138 (by kernel_rfl) rfl
theorem en167 : Enters Try.prog 167 := run_callFunc_enter Try.func167 (by kernel_rfl) rfl
theorem en170 : Enters Try.prog 170 := run_callFunc_enter Try.func170 (by kernel_rfl) rfl
theorem en171 : Enters Try.prog 171 := run_callFunc_enter Try.func171 (by kernel_rfl) rfl
theorem en183 : Enters Try.prog 183 := run_callFunc_enter Try.func183 (by kernel_rfl) rfl
theorem fd31_0 : fldB Try.prog 31 0 = some 0 := by kernel_rfl
theorem fd31_1 : fldB Try.prog 31 1 = some 1 := by kernel_rfl
theorem fd31_2 : fldB Try.prog 31 2 = some 2 := by kernel_rfl
theorem fd43_1 : fldB Try.prog 43 1 = some 1 := by kernel_rfl
theorem fd48_0 : fldB Try.prog 48 0 = some 0 := by kernel_rfl
theorem fd62_0 : fldB Try.prog 62 0 = some 0 := by kernel_rfl
theorem fd62_1 : fldB Try.prog 62 1 = some 1 := by kernel_rfl
theorem fd159_0 : fldB Try.prog 159 0 = some 0 := by kernel_rfl
theorem fd159_1 : fldB Try.prog 159 1 = some 1 := by kernel_rfl
theorem fd159_2 : fldB Try.prog 159 2 = some 2 := by kernel_rfl
theorem mk3 : mkB Try.prog 3 = some (.int .i64 0, 1) := by kernel_rfl
theorem mk31 : mkB Try.prog 31 = some (.agg #[.int .i64 0, .int .i64 0, .int .i64 0], 3) := by kernel_rfl
theorem mk43 : mkB Try.prog 43 = some (.agg #[.int .i64 0, .slice none 0 0], 2) := by kernel_rfl
theorem mk48 : mkB Try.prog 48 = some (.agg #[.slice none 0 0], 1) := by kernel_rfl
theorem mk62 : mkB Try.prog 62 = some (.agg #[.int .i64 0, .int .i64 0], 2) := by kernel_rfl
theorem mo : Try.prog.follows .mixedOrders = true := by kernel_rfl
theorem sh62 : Try.prog.stoodInHeld 62 = false := by kernel_rfl
theorem sz3 : szB Try.prog 3 = some 1 := by kernel_rfl
theorem sz5 : szB Try.prog 5 = some 1 := by kernel_rfl
theorem sz27 : szB Try.prog 27 = some 1 := by kernel_rfl
theorem sz31 : szB Try.prog 31 = some 3 := by kernel_rfl
theorem sz43 : szB Try.prog 43 = some 2 := by kernel_rfl
theorem sz46 : szB Try.prog 46 = some 1 := by kernel_rfl
theorem sz48 : szB Try.prog 48 = some 1 := by kernel_rfl
theorem sz62 : szB Try.prog 62 = some 2 := by kernel_rfl
theorem un3 : Try.prog.underlying 3 = some (.int .i64) := by kernel_rfl
theorem un5 : Try.prog.underlying 5 = some (.int .u8) := by kernel_rfl
theorem un26 : Try.prog.underlying 26 = some (.slice 62) := by kernel_rfl
theorem un27 : Try.prog.underlying 27 = some (.slice 3) := by kernel_rfl
theorem un46 : Try.prog.underlying 46 = some (.slice 31) := by kernel_rfl
theorem un55 : Try.prog.underlying 55 = some (.slice 5) := by kernel_rfl
theorem un160 : Try.prog.underlying 160 = some (.slice 43) := by kernel_rfl
theorem un163 : Try.prog.underlying 163 = some (.slice 48) := by kernel_rfl
theorem un186 : Try.prog.underlying 186 = some (.int .u64) := by kernel_rfl
theorem ze31 : zeroB Try.prog 31 = some (.agg #[.int .i64 0, .int .i64 0, .int .i64 0]) := by kernel_rfl
theorem ze43 : zeroB Try.prog 43 = some (.agg #[.int .i64 0, .slice none 0 0]) := by kernel_rfl
theorem ze48 : zeroB Try.prog 48 = some (.agg #[.slice none 0 0]) := by kernel_rfl
theorem ze62 : zeroB Try.prog 62 = some (.agg #[.int .i64 0, .int .i64 0]) := by kernel_rfl
end Go.Proofs.Ytlbbkehdfgjneaa
