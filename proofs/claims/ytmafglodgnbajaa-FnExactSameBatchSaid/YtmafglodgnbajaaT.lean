/- Types and facts. -/
import Derived.Test.YtmafglodgnbajaaZ19
import Derived.Test.YtmafglodgnbajaaRows
namespace Go.Proofs.Ytmafglodgnbajaa
open Go Go.Z Go.Proofs Go.MuLone Go.ChangeShapes Go.WideShapes Go.ChangeAt Go.RowKit
set_option linter.unusedVariables false
set_option linter.unusedSimpArgs false
structure S_Op where
  Kind : Int
  Key : Int
  Value : Int
def z_Op : S_Op := ⟨0, 0, 0⟩

def L_Op : Lay S_Op := Lay.flat 3 (fun x => [.int .i64 x.Kind, .int .i64 x.Key, .int .i64 x.Value]) (fun _ => rfl) (fun x u hu => by
  simp only [List.mem_cons, List.not_mem_nil, or_false] at hu
  rcases hu with rfl | rfl | rfl <;> rfl)

structure S_Txn where
  Ops : List S_Op
def z_Txn : S_Txn := ⟨[]⟩

def L_laws_Txn : Lay S_Txn := Lay.map (Lay.sl L_Op 140) (fun x => x.Ops)

def L_impl_Txn : Lay S_Txn := Lay.map (Lay.sl L_Op 120) (fun x => x.Ops)
theorem ag3 : aggB Try.prog 3 = some false := by kernel_rfl
theorem ag9 : aggB Try.prog 9 = some false := by kernel_rfl
theorem ag86 : aggB Try.prog 86 = some false := by kernel_rfl
theorem ag88 : aggB Try.prog 88 = some true := by kernel_rfl
theorem ag90 : aggB Try.prog 90 = some false := by kernel_rfl
theorem ag92 : aggB Try.prog 92 = some true := by kernel_rfl
theorem ag115 : aggB Try.prog 115 = some false := by kernel_rfl
theorem ag120 : aggB Try.prog 120 = some true := by kernel_rfl
theorem ag136 : aggB Try.prog 136 = some false := by kernel_rfl
theorem ag140 : aggB Try.prog 140 = some true := by kernel_rfl
theorem bs5_1 (x0 : Int) : sliceB Try.prog 5 1 [(0, .int .u8 x0)] = some #[.int .u8 x0] := by kernel_rfl
theorem bs9_0 (x0 : ByteArray) (x1 : ByteArray) (x2 : ByteArray) (x3 : ByteArray) (x4 : ByteArray) (x5 : ByteArray) (x6 : ByteArray) : sliceB Try.prog 9 7 [(0, .string x0), (1, .string x1), (2, .string x2), (3, .string x3), (4, .string x4), (5, .string x5), (6, .string x6)] = some #[.string x0, .string x1, .string x2, .string x3, .string x4, .string x5, .string x6] := by kernel_rfl
theorem bs9_2 (x0 : ByteArray) : sliceB Try.prog 9 1 [(0, .string x0)] = some #[.string x0] := by kernel_rfl
theorem eg120 : Try.prog.eqGuardType Try.prog.depth 120 = false := by kernel_rfl
theorem en23 : Enters Try.prog 23 := run_callFunc_enter Try.func23 (by kernel_rfl) rfl
theorem en24 : Enters Try.prog 24 := run_callFunc_enter Try.func24 (by kernel_rfl) rfl
theorem en25 : Enters Try.prog 25 := run_callFunc_enter Try.func25 (by kernel_rfl) rfl
theorem en26 : Enters Try.prog 26 := run_callFunc_enter Try.func26 (by kernel_rfl) rfl
theorem en27 : Enters Try.prog 27 := run_callFunc_enter Try.func27 (by kernel_rfl) rfl
theorem en53 : Enters Try.prog 53 := run_callFunc_enter Try.func53 (by kernel_rfl) rfl
theorem en54 : Enters Try.prog 54 := run_callFunc_enter Try.func54 (by kernel_rfl) rfl
theorem en65 : Enters Try.prog 65 := run_callFunc_enter Try.func65 (by kernel_rfl) rfl
theorem en67 : Enters Try.prog 67 := run_callFunc_enter Try.func67 (by kernel_rfl) rfl
theorem en68 : Enters Try.prog 68 := run_callFunc_enter Try.func68 (by kernel_rfl) rfl
theorem en69 : Enters Try.prog 69 := run_callFunc_enter Try.func69 (by kernel_rfl) rfl
theorem en70 : Enters Try.prog 70 := run_callFunc_enter Try.func70 (by kernel_rfl) rfl
theorem en71 : Enters Try.prog 71 := run_callFunc_enter Try.func71 (by kernel_rfl) rfl
theorem en72 : Enters Try.prog 72 := run_callFunc_enter Try.func72 (by kernel_rfl) rfl
theorem en99 : Enters Try.prog 99 := run_callFunc_enter Try.func99 (by kernel_rfl) rfl
theorem en103 : Enters Try.prog 103 := run_callFunc_enter Try.func103 (by kernel_rfl) rfl
theorem en104 : Enters Try.prog 104 := run_callFunc_enter Try.func104 (by kernel_rfl) rfl
theorem en105 : Enters Try.prog 105 := run_callFunc_enter Try.func105 (by kernel_rfl) rfl
theorem en106 : Enters Try.prog 106 := run_callFunc_enter Try.func106 (by kernel_rfl) rfl
theorem en107 : Enters Try.prog 107 := run_callFunc_enter Try.func107 (by kernel_rfl) rfl
theorem en108 : Enters Try.prog 108 := run_callFunc_enter Try.func108 (by kernel_rfl) rfl
theorem en109 : Enters Try.prog 109 := run_callFunc_enter Try.func109 (by kernel_rfl) rfl
theorem en110 : Enters Try.prog 110 := run_callFunc_enter Try.func110 (by kernel_rfl) rfl
theorem en111 : Enters Try.prog 111 := run_callFunc_enter Try.func111 (by kernel_rfl) rfl
theorem en112 : Enters Try.prog 112 := run_callFunc_enter Try.func112 (by kernel_rfl) rfl
theorem en124 : Enters Try.prog 124 := run_callFunc_enter Try.func124 (by kernel_rfl) rfl
theorem en128 : Enters Try.prog 128 := run_callFunc_enter Try.func128 (by kernel_rfl) rfl
theorem en129 : Enters Try.prog 129 := run_callFunc_enter Try.func129 (by kernel_rfl) rfl
theorem en130 : Enters Try.prog 130 := run_callFunc_enter Try.func130 (by kernel_rfl) rfl
theorem en131 : Enters Try.prog 131 := run_callFunc_enter Try.func131 (by kernel_rfl) rfl
theorem en132 : Enters Try.prog 132 := run_callFunc_enter Try.func132 (by kernel_rfl) rfl
theorem en133 : Enters Try.prog 133 := run_callFunc_enter Try.func133 (by kernel_rfl) rfl
theorem en134 : Enters Try.prog 134 := run_callFunc_enter Try.func134 (by kernel_rfl) rfl
theorem en135 : Enters Try.prog 135 := run_callFunc_enter Try.func135 (by kernel_rfl) rfl
theorem en143 : Enters Try.prog 143 := run_callFunc_enter Try.func143 (by kernel_rfl) rfl
theorem en144 : Enters Try.prog 144 := run_callFunc_enter Try.func144 (by kernel_rfl) rfl
theorem en145 : Enters Try.prog 145 := run_callFunc_enter Try.func145 (by kernel_rfl) rfl
theorem en146 : Enters Try.prog 146 := run_callFunc_enter Try.func146 (by kernel_rfl) rfl
theorem en147 : Enters Try.prog 147 := run_callFunc_enter Try.func147 (by kernel_rfl) rfl
theorem en148 : Enters Try.prog 148 := run_callFunc_enter Try.func148 (by kernel_rfl) rfl
theorem en152 : Enters Try.prog 152 := run_callFunc_enter Try.func152 (by kernel_rfl) rfl
theorem fd88_0 : fldB Try.prog 88 0 = some 0 := by kernel_rfl
theorem fd92_0 : fldB Try.prog 92 0 = some 0 := by kernel_rfl
theorem fd120_0 : fldB Try.prog 120 0 = some 0 := by kernel_rfl
theorem fd120_1 : fldB Try.prog 120 1 = some 1 := by kernel_rfl
theorem fd120_2 : fldB Try.prog 120 2 = some 2 := by kernel_rfl
theorem fd140_0 : fldB Try.prog 140 0 = some 0 := by kernel_rfl
theorem fd140_1 : fldB Try.prog 140 1 = some 1 := by kernel_rfl
theorem fd140_2 : fldB Try.prog 140 2 = some 2 := by kernel_rfl
theorem lz92 : (L_impl_Txn).own z_Txn [.slice none 0 0] [] := ⟨_, rfl, .inl ⟨rfl, rfl, rfl⟩⟩
theorem lz120 : (L_Op).own z_Op [.int .i64 0, .int .i64 0, .int .i64 0] [] := ⟨rfl, rfl⟩
theorem mk9 : mkB Try.prog 9 = some (.string ⟨#[]⟩, 1) := by kernel_rfl
theorem mk92 : mkB Try.prog 92 = some (.agg #[.slice none 0 0], 1) := by kernel_rfl
theorem mk120 : mkB Try.prog 120 = some (.agg #[.int .i64 0, .int .i64 0, .int .i64 0], 3) := by kernel_rfl
theorem mo : Try.prog.follows .mixedOrders = true := by kernel_rfl
theorem sh120 : Try.prog.stoodInHeld 120 = false := by kernel_rfl
theorem sz3 : szB Try.prog 3 = some 1 := by kernel_rfl
theorem sz9 : szB Try.prog 9 = some 1 := by kernel_rfl
theorem sz88 : szB Try.prog 88 = some 1 := by kernel_rfl
theorem sz90 : szB Try.prog 90 = some 1 := by kernel_rfl
theorem sz92 : szB Try.prog 92 = some 1 := by kernel_rfl
theorem sz120 : szB Try.prog 120 = some 3 := by kernel_rfl
theorem sz140 : szB Try.prog 140 = some 3 := by kernel_rfl
theorem un3 : Try.prog.underlying 3 = some (.int .i64) := by kernel_rfl
theorem un4 : Try.prog.underlying 4 = some (.bool) := by kernel_rfl
theorem un5 : Try.prog.underlying 5 = some (.int .u8) := by kernel_rfl
theorem un9 : Try.prog.underlying 9 = some (.string) := by kernel_rfl
theorem un24 : Try.prog.underlying 24 = some (.slice 9) := by kernel_rfl
theorem un42 : Try.prog.underlying 42 = some (.slice 88) := by kernel_rfl
theorem un48 : Try.prog.underlying 48 = some (.slice 92) := by kernel_rfl
theorem un86 : Try.prog.underlying 86 = some (.slice 140) := by kernel_rfl
theorem un90 : Try.prog.underlying 90 = some (.slice 120) := by kernel_rfl
theorem un102 : Try.prog.underlying 102 = some (.slice 5) := by kernel_rfl
theorem ze92 : zeroB Try.prog 92 = some (.agg #[.slice none 0 0]) := by kernel_rfl
theorem ze120 : zeroB Try.prog 120 = some (.agg #[.int .i64 0, .int .i64 0, .int .i64 0]) := by kernel_rfl
end Go.Proofs.Ytmafglodgnbajaa
