/- Types and facts. -/
import Derived.Test.YtmafglodgnbajaaZ17
import Derived.Test.YtmafglodgnbajaaRows
namespace Go.Proofs.Ytmafglodgnbajaa
open Go Go.Z Go.Proofs Go.MuLone Go.ChangeShapes Go.WideShapes Go.ChangeAt Go.RowKit
set_option linter.unusedVariables false
set_option linter.unusedSimpArgs false
structure S_Io where
  At : Int
  Data : ByteArray
def z_Io : S_Io := ⟨0, ByteArray.empty⟩

def L_Io : Lay S_Io := Lay.flat 2 (fun x => [.int .i64 x.At, .string x.Data]) (fun _ => rfl) (fun x u hu => by
  simp only [List.mem_cons, List.not_mem_nil, or_false] at hu
  rcases hu with rfl | rfl <;> rfl)

structure S_Device where
  Sure : List ByteArray
  Unsure : List S_Io
def z_Device : S_Device := ⟨[], []⟩

def L_laws_Device : Lay S_Device := Lay.map (Lay.pair (Lay.sl Lay.str 9) (Lay.sl L_Io 127)) (fun x => (x.Sure, x.Unsure))

structure S_Register where
  Epoch : Int
  Side : Int
  Count : Int
  Boot : Int
  Base : ByteArray
  Tip : ByteArray
  Root : ByteArray
def z_Register : S_Register := ⟨0, 0, 0, 0, ByteArray.empty, ByteArray.empty, ByteArray.empty⟩

def L_Register : Lay S_Register := Lay.flat 7 (fun x => [.int .i64 x.Epoch, .int .i64 x.Side, .int .i64 x.Count, .int .i64 x.Boot, .string x.Base, .string x.Tip, .string x.Root]) (fun _ => rfl) (fun x u hu => by
  simp only [List.mem_cons, List.not_mem_nil, or_false] at hu
  rcases hu with rfl | rfl | rfl | rfl | rfl | rfl | rfl <;> rfl)

structure S_Store where
  Key : ByteArray
  Reg : S_Register
  Device : S_Device
  Up : Bool
  Dead : Bool
def z_Store : S_Store := ⟨ByteArray.empty, z_Register, z_Device, false, false⟩

def L_laws_Store : Lay S_Store := Lay.map (Lay.pair Lay.str (Lay.pair L_Register (Lay.pair L_laws_Device (Lay.pair Lay.bool Lay.bool)))) (fun x => (x.Key, (x.Reg, (x.Device, (x.Up, x.Dead)))))

def L_impl_Device : Lay S_Device := Lay.map (Lay.pair (Lay.sl Lay.str 9) (Lay.sl L_Io 114)) (fun x => (x.Sure, x.Unsure))

def L_impl_Store : Lay S_Store := Lay.map (Lay.pair Lay.str (Lay.pair L_Register (Lay.pair L_impl_Device (Lay.pair Lay.bool Lay.bool)))) (fun x => (x.Key, (x.Reg, (x.Device, (x.Up, x.Dead)))))
theorem ag3 : aggB Try.prog 3 = some false := by kernel_rfl
theorem ag4 : aggB Try.prog 4 = some false := by kernel_rfl
theorem ag9 : aggB Try.prog 9 = some false := by kernel_rfl
theorem ag23 : aggB Try.prog 23 = some true := by kernel_rfl
theorem ag24 : aggB Try.prog 24 = some false := by kernel_rfl
theorem ag25 : aggB Try.prog 25 = some false := by kernel_rfl
theorem ag27 : aggB Try.prog 27 = some true := by kernel_rfl
theorem ag29 : aggB Try.prog 29 = some true := by kernel_rfl
theorem ag32 : aggB Try.prog 32 = some true := by kernel_rfl
theorem ag33 : aggB Try.prog 33 = some false := by kernel_rfl
theorem ag35 : aggB Try.prog 35 = some true := by kernel_rfl
theorem ag37 : aggB Try.prog 37 = some true := by kernel_rfl
theorem ag108 : aggB Try.prog 108 = some false := by kernel_rfl
theorem ag114 : aggB Try.prog 114 = some true := by kernel_rfl
theorem ag127 : aggB Try.prog 127 = some true := by kernel_rfl
theorem ag131 : aggB Try.prog 131 = some false := by kernel_rfl
theorem bd35_1 (A0 : Option Addr) (n0 c0 : Nat) (A1 : Option Addr) (n1 c1 : Nat) : Try.prog.built 35 [(0, .slice A0 n0 c0), (1, .slice A1 n1 c1)] = some #[.slice A0 n0 c0, .slice A1 n1 c1] := by kernel_rfl
theorem bd37_2  : Try.prog.built 37 [] = some #[.string ⟨#[]⟩, .int .i64 0, .int .i64 0, .int .i64 0, .int .i64 0, .string ⟨#[]⟩, .string ⟨#[]⟩, .string ⟨#[]⟩, .slice none 0 0, .slice none 0 0, .bool false, .bool false] := by kernel_rfl
theorem bs5_0 (x0 : Int) : sliceB Try.prog 5 1 [(0, .int .u8 x0)] = some #[.int .u8 x0] := by kernel_rfl
theorem en11 : Enters Try.prog 11 := run_callFunc_enter Try.func11 (by kernel_rfl) rfl
theorem en13 : Enters Try.prog 13 := run_callFunc_enter Try.func13 (by kernel_rfl) rfl
theorem en15 : Enters Try.prog 15 := run_callFunc_enter Try.func15 (by kernel_rfl) rfl
theorem en16 : Enters Try.prog 16 := run_callFunc_enter Try.func16 (by kernel_rfl) rfl
theorem en17 : Enters Try.prog 17 := run_callFunc_enter Try.func17 (by kernel_rfl) rfl
theorem en28 : Enters Try.prog 28 := run_callFunc_enter Try.func28 (by kernel_rfl) rfl
theorem en30 : Enters Try.prog 30 := run_callFunc_enter Try.func30 (by kernel_rfl) rfl
theorem en32 : Enters Try.prog 32 := run_callFunc_enter Try.func32 (by kernel_rfl) rfl
theorem en33 : Enters Try.prog 33 := run_callFunc_enter Try.func33 (by kernel_rfl) rfl
theorem en34 : Enters Try.prog 34 := run_callFunc_enter Try.func34 (by kernel_rfl) rfl
theorem en39 : Enters Try.prog 39 := run_callFunc_enter Try.func39 (by kernel_rfl) rfl
theorem en40 : Enters Try.prog 40 := run_callFunc_enter Try.func40 (by kernel_rfl) rfl
theorem en41 : Enters Try.prog 41 := run_callFunc_enter Try.func41 (by kernel_rfl) rfl
theorem en42 : Enters Try.prog 42 := run_callFunc_enter Try.func42 (by kernel_rfl) rfl
theorem en43 : Enters Try.prog 43 := run_callFunc_enter Try.func43 (by kernel_rfl) rfl
theorem en45 : Enters Try.prog 45 := run_callFunc_enter Try.func45 (by kernel_rfl) rfl
theorem en47 : Enters Try.prog 47 := run_callFunc_enter Try.func47 (by kernel_rfl) rfl
theorem en48 : Enters Try.prog 48 := run_callFunc_enter Try.func48 (by kernel_rfl) rfl
theorem en49 : Enters Try.prog 49 := run_callFunc_enter Try.func49 (by kernel_rfl) rfl
theorem en50 : Enters Try.prog 50 := run_callFunc_enter Try.func50 (by kernel_rfl) rfl
theorem en51 : Enters Try.prog 51 := run_callFunc_enter Try.func51 (by kernel_rfl) rfl
theorem en53 : Enters Try.prog 53 := run_callFunc_enter Try.func53 (by kernel_rfl) rfl
theorem en57 : Enters Try.prog 57 := run_callFunc_enter Try.func57 (by kernel_rfl) rfl
theorem en64 : Enters Try.prog 64 := run_callFunc_enter Try.func64 (by kernel_rfl) rfl
theorem en65 : Enters Try.prog 65 := run_callFunc_enter Try.func65 (by kernel_rfl) rfl
theorem en73 : Enters Try.prog 73 := run_callFunc_enter Try.func73 (by kernel_rfl) rfl
theorem en74 : Enters Try.prog 74 := run_callFunc_enter Try.func74 (by kernel_rfl) rfl
theorem en75 : Enters Try.prog 75 := run_callFunc_enter Try.func75 (by kernel_rfl) rfl
theorem en77 : Enters Try.prog 77 := run_callFunc_enter Try.func77 (by kernel_rfl) rfl
theorem en78 : Enters Try.prog 78 := run_callFunc_enter Try.func78 (by kernel_rfl) rfl
theorem en79 : Enters Try.prog 79 := run_callFunc_enter Try.func79 (by kernel_rfl) rfl
theorem en80 : Enters Try.prog 80 := run_callFunc_enter Try.func80 (by kernel_rfl) rfl
theorem en81 : Enters Try.prog 81 := run_callFunc_enter Try.func81 (by kernel_rfl) rfl
theorem en82 : Enters Try.prog 82 := run_callFunc_enter Try.func82 (by kernel_rfl) rfl
theorem en83 : Enters Try.prog 83 := run_callFunc_enter Try.func83 (by kernel_rfl) rfl
theorem en84 : Enters Try.prog 84 := run_callFunc_enter Try.func84 (by kernel_rfl) rfl
theorem en85 : Enters Try.prog 85 := run_callFunc_enter Try.func85 (by kernel_rfl) rfl
theorem en86 : Enters Try.prog 86 := run_callFunc_enter Try.func86 (by kernel_rfl) rfl
theorem en89 : Enters Try.prog 89 := run_callFunc_enter Try.func89 (by kernel_rfl) rfl
theorem en92 : Enters Try.prog 92 := run_callFunc_enter Try.func92 (by kernel_rfl) rfl
theorem en97 : Enters Try.prog 97 := run_callFunc_enter Try.func97 (by kernel_rfl) rfl
theorem en98 : Enters Try.prog 98 := run_callFunc_enter Try.func98 (by kernel_rfl) rfl
theorem en113 : Enters Try.prog 113 := run_callFunc_enter Try.func113 (by kernel_rfl) rfl
theorem en114 : Enters Try.prog 114 := run_callFunc_enter Try.func114 (by kernel_rfl) rfl
theorem en115 : Enters Try.prog 115 := run_callFunc_enter Try.func115 (by kernel_rfl) rfl
theorem en116 : Enters Try.prog 116 := run_callFunc_enter Try.func116 (by kernel_rfl) rfl
theorem en117 : Enters Try.prog 117 := run_callFunc_enter Try.func117 (by kernel_rfl) rfl
theorem en118 : Enters Try.prog 118 := run_callFunc_enter Try.func118 (by kernel_rfl) rfl
theorem en119 : Enters Try.prog 119 := run_callFunc_enter Try.func119 (by kernel_rfl) rfl
theorem en120 : Enters Try.prog 120 := run_callFunc_enter Try.func120 (by kernel_rfl) rfl
theorem en121 : Enters Try.prog 121 := run_callFunc_enter Try.func121 (by kernel_rfl) rfl
theorem en136 : Enters Try.prog 136 := run_callFunc_enter Try.func136 (by kernel_rfl) rfl
theorem en137 : Enters Try.prog 137 := run_callFunc_enter Try.func137 (by kernel_rfl) rfl
theorem en138 : Enters Try.prog 138 := run_callFunc_enter Try.func138 (by kernel_rfl) rfl
theorem en139 : Enters Try.prog 139 := run_callFunc_enter Try.func139 (by kernel_rfl) rfl
theorem en149 : Enters Try.prog 149 := run_callFunc_enter Try.func149 (by kernel_rfl) rfl
theorem en150 : Enters Try.prog 150 := run_callFunc_enter Try.func150 (by kernel_rfl) rfl
theorem fd23_0 : fldB Try.prog 23 0 = some 0 := by kernel_rfl
theorem fd23_1 : fldB Try.prog 23 1 = some 1 := by kernel_rfl
theorem fd23_2 : fldB Try.prog 23 2 = some 2 := by kernel_rfl
theorem fd23_3 : fldB Try.prog 23 3 = some 3 := by kernel_rfl
theorem fd23_4 : fldB Try.prog 23 4 = some 4 := by kernel_rfl
theorem fd23_5 : fldB Try.prog 23 5 = some 5 := by kernel_rfl
theorem fd23_6 : fldB Try.prog 23 6 = some 6 := by kernel_rfl
theorem fd27_0 : fldB Try.prog 27 0 = some 0 := by kernel_rfl
theorem fd27_1 : fldB Try.prog 27 1 = some 1 := by kernel_rfl
theorem fd29_0 : fldB Try.prog 29 0 = some 0 := by kernel_rfl
theorem fd29_1 : fldB Try.prog 29 1 = some 1 := by kernel_rfl
theorem fd29_2 : fldB Try.prog 29 2 = some 8 := by kernel_rfl
theorem fd29_3 : fldB Try.prog 29 3 = some 10 := by kernel_rfl
theorem fd29_4 : fldB Try.prog 29 4 = some 11 := by kernel_rfl
theorem fd32_0 : fldB Try.prog 32 0 = some 0 := by kernel_rfl
theorem fd32_1 : fldB Try.prog 32 1 = some 1 := by kernel_rfl
theorem fd32_2 : fldB Try.prog 32 2 = some 2 := by kernel_rfl
theorem fd32_3 : fldB Try.prog 32 3 = some 3 := by kernel_rfl
theorem fd32_4 : fldB Try.prog 32 4 = some 4 := by kernel_rfl
theorem fd32_5 : fldB Try.prog 32 5 = some 5 := by kernel_rfl
theorem fd32_6 : fldB Try.prog 32 6 = some 6 := by kernel_rfl
theorem fd35_0 : fldB Try.prog 35 0 = some 0 := by kernel_rfl
theorem fd35_1 : fldB Try.prog 35 1 = some 1 := by kernel_rfl
theorem fd37_0 : fldB Try.prog 37 0 = some 0 := by kernel_rfl
theorem fd37_1 : fldB Try.prog 37 1 = some 1 := by kernel_rfl
theorem fd37_2 : fldB Try.prog 37 2 = some 8 := by kernel_rfl
theorem fd37_3 : fldB Try.prog 37 3 = some 10 := by kernel_rfl
theorem fd37_4 : fldB Try.prog 37 4 = some 11 := by kernel_rfl
theorem fd114_0 : fldB Try.prog 114 0 = some 0 := by kernel_rfl
theorem fd114_1 : fldB Try.prog 114 1 = some 1 := by kernel_rfl
theorem fd127_0 : fldB Try.prog 127 0 = some 0 := by kernel_rfl
theorem fd127_1 : fldB Try.prog 127 1 = some 1 := by kernel_rfl
theorem lz9 : (Lay.str).own ByteArray.empty [.string ⟨#[]⟩] [] := ⟨rfl, rfl⟩
theorem lz114 : (L_Io).own z_Io [.int .i64 0, .string ⟨#[]⟩] [] := ⟨rfl, rfl⟩
theorem mk9 : mkB Try.prog 9 = some (.string ⟨#[]⟩, 1) := by kernel_rfl
theorem mk114 : mkB Try.prog 114 = some (.agg #[.int .i64 0, .string ⟨#[]⟩], 2) := by kernel_rfl
theorem mo : Try.prog.follows .mixedOrders = true := by kernel_rfl
theorem sz3 : szB Try.prog 3 = some 1 := by kernel_rfl
theorem sz4 : szB Try.prog 4 = some 1 := by kernel_rfl
theorem sz9 : szB Try.prog 9 = some 1 := by kernel_rfl
theorem sz23 : szB Try.prog 23 = some 7 := by kernel_rfl
theorem sz24 : szB Try.prog 24 = some 1 := by kernel_rfl
theorem sz27 : szB Try.prog 27 = some 2 := by kernel_rfl
theorem sz29 : szB Try.prog 29 = some 12 := by kernel_rfl
theorem sz32 : szB Try.prog 32 = some 7 := by kernel_rfl
theorem sz33 : szB Try.prog 33 = some 1 := by kernel_rfl
theorem sz35 : szB Try.prog 35 = some 2 := by kernel_rfl
theorem sz37 : szB Try.prog 37 = some 12 := by kernel_rfl
theorem sz114 : szB Try.prog 114 = some 2 := by kernel_rfl
theorem sz127 : szB Try.prog 127 = some 2 := by kernel_rfl
theorem un3 : Try.prog.underlying 3 = some (.int .i64) := by kernel_rfl
theorem un4 : Try.prog.underlying 4 = some (.bool) := by kernel_rfl
theorem un5 : Try.prog.underlying 5 = some (.int .u8) := by kernel_rfl
theorem un9 : Try.prog.underlying 9 = some (.string) := by kernel_rfl
theorem un24 : Try.prog.underlying 24 = some (.slice 9) := by kernel_rfl
theorem un25 : Try.prog.underlying 25 = some (.slice 127) := by kernel_rfl
theorem un33 : Try.prog.underlying 33 = some (.slice 114) := by kernel_rfl
theorem un102 : Try.prog.underlying 102 = some (.slice 5) := by kernel_rfl
theorem ze32 : zeroB Try.prog 32 = some (.agg #[.int .i64 0, .int .i64 0, .int .i64 0, .int .i64 0, .string ⟨#[]⟩, .string ⟨#[]⟩, .string ⟨#[]⟩]) := by kernel_rfl
theorem ze35 : zeroB Try.prog 35 = some (.agg #[.slice none 0 0, .slice none 0 0]) := by kernel_rfl
theorem ze37 : zeroB Try.prog 37 = some (.agg #[.string ⟨#[]⟩, .int .i64 0, .int .i64 0, .int .i64 0, .int .i64 0, .string ⟨#[]⟩, .string ⟨#[]⟩, .string ⟨#[]⟩, .slice none 0 0, .slice none 0 0, .bool false, .bool false]) := by kernel_rfl
theorem ze114 : zeroB Try.prog 114 = some (.agg #[.int .i64 0, .string ⟨#[]⟩]) := by kernel_rfl
end Go.Proofs.Ytmafglodgnbajaa
