/- Types and facts. -/
import Derived.Test.YtlbbkehdfgjneaaZ25
import Derived.Test.YtlbbkehdfgjneaaRows
namespace Go.Proofs.Ytlbbkehdfgjneaa
open Go Go.Z Go.Proofs Go.MuLone Go.ChangeShapes Go.WideShapes Go.ChangeAt Go.RowKit
set_option linter.unusedVariables false
set_option linter.unusedSimpArgs false
structure S_l00Src where
  code : List Int
  at_ : Int
  seed : Int
def z_l00Src : S_l00Src := ⟨[], 0, 0⟩

def L_spec_l00Src : Lay S_l00Src := Lay.map (Lay.pair (Lay.sl (Lay.int .u8) 5) (Lay.pair (Lay.int .i64) (Lay.int .i64))) (fun x => (x.code, (x.at_, x.seed)))

structure S_Io where
  At : Int
  Data : ByteArray
def z_Io : S_Io := ⟨0, ByteArray.empty⟩

def L_Io : Lay S_Io := Lay.flat 2 (fun x => [.int .i64 x.At, .string x.Data]) (fun _ => rfl) (fun x u hu => by
  simp only [List.mem_cons, List.not_mem_nil, or_false] at hu
  rcases hu with rfl | rfl <;> rfl)

structure S_Device where
  Sure : List ByteArray
  Unsure : List S_Io
def z_Device : S_Device := ⟨[], []⟩

def L_impl_Device : Lay S_Device := Lay.map (Lay.pair (Lay.sl Lay.str 9) (Lay.sl L_Io 129)) (fun x => (x.Sure, x.Unsure))
theorem ag3 : aggB Try.prog 3 = some false := by kernel_rfl
theorem ag5 : aggB Try.prog 5 = some false := by kernel_rfl
theorem ag9 : aggB Try.prog 9 = some false := by kernel_rfl
theorem ag55 : aggB Try.prog 55 = some false := by kernel_rfl
theorem ag64 : aggB Try.prog 64 = some false := by kernel_rfl
theorem ag65 : aggB Try.prog 65 = some false := by kernel_rfl
theorem ag67 : aggB Try.prog 67 = some true := by kernel_rfl
theorem ag117 : aggB Try.prog 117 = some false := by kernel_rfl
theorem ag123 : aggB Try.prog 123 = some false := by kernel_rfl
theorem ag129 : aggB Try.prog 129 = some true := by kernel_rfl
theorem ag135 : aggB Try.prog 135 = some false := by kernel_rfl
theorem bd67_2 (A0 : Option Addr) (n0 c0 : Nat) (A1 : Option Addr) (n1 c1 : Nat) : Try.prog.built 67 [(0, .slice A0 n0 c0), (1, .slice A1 n1 c1)] = some #[.slice A0 n0 c0, .slice A1 n1 c1] := by kernel_rfl
theorem bd67_6  : Try.prog.built 67 [] = some #[.slice none 0 0, .slice none 0 0] := by kernel_rfl
theorem bd67_7 (A0 : Option Addr) (n0 c0 : Nat) : Try.prog.built 67 [(0, .slice A0 n0 c0)] = some #[.slice A0 n0 c0, .slice none 0 0] := by kernel_rfl
theorem bd129_3 (x0 : Int) (x1 : ByteArray) : Try.prog.built 129 [(0, .int .i64 x0), (1, .string x1)] = some #[.int .i64 x0, .string x1] := by kernel_rfl
theorem bd159_0 (A0 : Option Addr) (n0 c0 : Nat) (x1 : Int) : Try.prog.built 159 [(0, .slice A0 n0 c0), (2, .int .i64 x1)] = some #[.slice A0 n0 c0, .int .i64 0, .int .i64 x1] := by kernel_rfl
theorem bs3_8 (x0 : Int) : sliceB Try.prog 3 1 [(0, .int .i64 x0)] = some #[.int .i64 x0] := by kernel_rfl
theorem bs5_1 (x0 : Int) : sliceB Try.prog 5 1 [(0, .int .u8 x0)] = some #[.int .u8 x0] := by kernel_rfl
theorem bs9_5 (x0 : ByteArray) : sliceB Try.prog 9 1 [(0, .string x0)] = some #[.string x0] := by kernel_rfl
theorem bs129_4 (x1 : Int) (x2 : ByteArray) : sliceB Try.prog 129 1 [(0, .agg #[.int .i64 x1, .string x2])] = some #[.int .i64 x1, .string x2] := by kernel_rfl
theorem eg129 : Try.prog.eqGuardType Try.prog.depth 129 = false := by kernel_rfl
theorem en32 : Enters Try.prog 32 := run_callFunc_enter Try.func32 (by kernel_rfl) rfl
theorem en37 : Enters Try.prog 37 := run_callFunc_enter Try.func37 (by kernel_rfl) rfl
theorem en38 : Enters Try.prog 38 := run_callFunc_enter Try.func38 (by kernel_rfl) rfl
theorem en39 : Enters Try.prog 39 := run_callFunc_enter Try.func39 (by kernel_rfl) rfl
theorem en40 : Enters Try.prog 40 := run_callFunc_enter Try.func40 (by kernel_rfl) rfl
theorem en41 : Enters Try.prog 41 := run_callFunc_enter Try.func41 (by kernel_rfl) rfl
theorem en42 : Enters Try.prog 42 := run_callFunc_enter Try.func42 (by kernel_rfl) rfl
theorem en43 : Enters Try.prog 43 := run_callFunc_enter Try.func43 (by kernel_rfl) rfl
theorem en44 : Enters Try.prog 44 := run_callFunc_enter Try.func44 (by kernel_rfl) rfl
theorem en45 : Enters Try.prog 45 := run_callFunc_enter Try.func45 (by kernel_rfl) rfl
theorem en46 : Enters Try.prog 46 := run_callFunc_enter Try.func46 (by kernel_rfl) rfl
theorem en47 : Enters Try.prog 47 := run_callFunc_enter Try.func47 (by kernel_rfl) rfl
theorem en79 : Enters Try.prog 79 := run_callFunc_enter Try.func79 (by kernel_rfl) rfl
theorem en84 : Enters Try.prog 84 := run_callFunc_enter Try.func84 (by kernel_rfl) rfl
theorem en85 : Enters Try.prog 85 := run_callFunc_enter Try.func85 (by kernel_rfl) rfl
theorem en86 : Enters Try.prog 86 := run_callFunc_enter Try.func86 (by kernel_rfl) rfl
theorem en87 : Enters Try.prog 87 := run_callFunc_enter Try.func87 (by kernel_rfl) rfl
theorem en88 : Enters Try.prog 88 := run_callFunc_enter Try.func88 (by kernel_rfl) rfl
theorem en89 : Enters Try.prog 89 := run_callFunc_enter Try.func89 (by kernel_rfl) rfl
theorem en90 : Enters Try.prog 90 := run_callFunc_enter Try.func90 (by kernel_rfl) rfl
theorem en91 : Enters Try.prog 91 := run_callFunc_enter Try.func91 (by kernel_rfl) rfl
theorem en92 : Enters Try.prog 92 := run_callFunc_enter Try.func92 (by kernel_rfl) rfl
theorem en93 : Enters Try.prog 93 := run_callFunc_enter Try.func93 (by kernel_rfl) rfl
theorem en94 : Enters Try.prog 94 := run_callFunc_enter Try.func94 (by kernel_rfl) rfl
theorem en95 : Enters Try.prog 95 := run_callFunc_enter Try.func95 (by kernel_rfl) rfl
theorem en96 : Enters Try.prog 96 := run_callFunc_enter Try.func96 (by kernel_rfl) rfl
theorem en97 : Enters Try.prog 97 := run_callFunc_enter Try.func97 (by kernel_rfl) rfl
theorem en98 : Enters Try.prog 98 := run_callFunc_enter Try.func98 (by kernel_rfl) rfl
theorem en99 : Enters Try.prog 99 := run_callFunc_enter Try.func99 (by kernel_rfl) rfl
theorem en100 : Enters Try.prog 100 := run_callFunc_enter Try.func100 (by kernel_rfl) rfl
theorem en101 : Enters Try.prog 101 := run_callFunc_enter Try.func101 (by kernel_rfl) rfl
theorem en102 : Enters Try.prog 102 := run_callFunc_enter Try.func102 (by kernel_rfl) rfl
theorem en103 : Enters Try.prog 103 := run_callFunc_enter Try.func103 (by kernel_rfl) rfl
theorem en104 : Enters Try.prog 104 := run_callFunc_enter Try.func104 (by kernel_rfl) rfl
theorem en105 : Enters Try.prog 105 := run_callFunc_enter Try.func105 (by kernel_rfl) rfl
theorem en134 : Enters Try.prog 134 := run_callFunc_enter Try.func134 (by kernel_rfl) rfl
theorem en139 : Enters Try.prog 139 := run_callFunc_enter Try.func139 (by kernel_rfl) rfl
theorem en140 : Enters Try.prog 140 := run_callFunc_enter Try.func140 (by kernel_rfl) rfl
theorem en141 : Enters Try.prog 141 := run_callFunc_enter Try.func141 (by kernel_rfl) rfl
theorem en142 : Enters Try.prog 142 := run_callFunc_enter Try.func142 (by kernel_rfl) rfl
theorem en143 : Enters Try.prog 143 := run_callFunc_enter Try.func143 (by kernel_rfl) rfl
theorem en144 : Enters Try.prog 144 := run_callFunc_enter Try.func144 (by kernel_rfl) rfl
theorem en145 : Enters Try.prog 145 := run_callFunc_enter Try.func145 (by kernel_rfl) rfl
theorem en146 : Enters Try.prog 146 := run_callFunc_enter Try.func146 (by kernel_rfl) rfl
theorem en147 : Enters Try.prog 147 := run_callFunc_enter Try.func147 (by kernel_rfl) rfl
theorem en148 : Enters Try.prog 148 := run_callFunc_enter Try.func148 (by kernel_rfl) rfl
theorem en149 : Enters Try.prog 149 := run_callFunc_enter Try.func149 (by kernel_rfl) rfl
theorem en150 : Enters Try.prog 150 := run_callFunc_enter Try.func150 (by kernel_rfl) rfl
theorem en151 : Enters Try.prog 151 := run_callFunc_enter Try.func151 (by kernel_rfl) rfl
theorem en152 : Enters Try.prog 152 := run_callFunc_enter Try.func152 (by kernel_rfl) rfl
theorem en170 : Enters Try.prog 170 := run_callFunc_enter Try.func170 (by kernel_rfl) rfl
theorem en172 : Enters Try.prog 172 := run_callFunc_enter Try.func172 (by kernel_rfl) rfl
theorem en173 : Enters Try.prog 173 := run_callFunc_enter Try.func173 (by kernel_rfl) rfl
theorem en174 : Enters Try.prog 174 := run_callFunc_enter Try.func174 (by kernel_rfl) rfl
theorem en175 : Enters Try.prog 175 := run_callFunc_enter Try.func175 (by kernel_rfl) rfl
theorem en185 : Enters Try.prog 185 := run_callFunc_enter Try.func185 (by kernel_rfl) rfl
theorem fd67_0 : fldB Try.prog 67 0 = some 0 := by kernel_rfl
theorem fd67_1 : fldB Try.prog 67 1 = some 1 := by kernel_rfl
theorem fd129_0 : fldB Try.prog 129 0 = some 0 := by kernel_rfl
theorem fd129_1 : fldB Try.prog 129 1 = some 1 := by kernel_rfl
theorem fd159_0 : fldB Try.prog 159 0 = some 0 := by kernel_rfl
theorem fd159_1 : fldB Try.prog 159 1 = some 1 := by kernel_rfl
theorem fd159_2 : fldB Try.prog 159 2 = some 2 := by kernel_rfl
theorem lz9 : (Lay.str).own ByteArray.empty [.string ⟨#[]⟩] [] := ⟨rfl, rfl⟩
theorem mk3 : mkB Try.prog 3 = some (.int .i64 0, 1) := by kernel_rfl
theorem mk5 : mkB Try.prog 5 = some (.int .u8 0, 1) := by kernel_rfl
theorem mk9 : mkB Try.prog 9 = some (.string ⟨#[]⟩, 1) := by kernel_rfl
theorem mk129 : mkB Try.prog 129 = some (.agg #[.int .i64 0, .string ⟨#[]⟩], 2) := by kernel_rfl
theorem mo : Try.prog.follows .mixedOrders = true := by kernel_rfl
theorem sh129 : Try.prog.stoodInHeld 129 = false := by kernel_rfl
theorem sz3 : szB Try.prog 3 = some 1 := by kernel_rfl
theorem sz5 : szB Try.prog 5 = some 1 := by kernel_rfl
theorem sz9 : szB Try.prog 9 = some 1 := by kernel_rfl
theorem sz65 : szB Try.prog 65 = some 1 := by kernel_rfl
theorem sz67 : szB Try.prog 67 = some 2 := by kernel_rfl
theorem sz129 : szB Try.prog 129 = some 2 := by kernel_rfl
theorem un3 : Try.prog.underlying 3 = some (.int .i64) := by kernel_rfl
theorem un5 : Try.prog.underlying 5 = some (.int .u8) := by kernel_rfl
theorem un9 : Try.prog.underlying 9 = some (.string) := by kernel_rfl
theorem un27 : Try.prog.underlying 27 = some (.slice 3) := by kernel_rfl
theorem un55 : Try.prog.underlying 55 = some (.slice 5) := by kernel_rfl
theorem un64 : Try.prog.underlying 64 = some (.slice 9) := by kernel_rfl
theorem un65 : Try.prog.underlying 65 = some (.slice 129) := by kernel_rfl
theorem ze3 : zeroB Try.prog 3 = some (.int .i64 0) := by kernel_rfl
theorem ze9 : zeroB Try.prog 9 = some (.string ⟨#[]⟩) := by kernel_rfl
theorem ze67 : zeroB Try.prog 67 = some (.agg #[.slice none 0 0, .slice none 0 0]) := by kernel_rfl
theorem ze129 : zeroB Try.prog 129 = some (.agg #[.int .i64 0, .string ⟨#[]⟩]) := by kernel_rfl
end Go.Proofs.Ytlbbkehdfgjneaa
