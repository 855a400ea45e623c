/- Types and facts. -/
import Derived.Test.YtjelagjijnpkdaaZ11
import Derived.Test.YtjelagjijnpkdaaRows
namespace Go.Proofs.Ytjelagjijnpkdaa
open Go Go.Z Go.Proofs Go.MuLone Go.ChangeShapes Go.WideShapes Go.ChangeAt Go.RowKit
set_option linter.unusedVariables false
set_option linter.unusedSimpArgs false
structure S_Op where
  Kind : Int
  Key : Int
  Value : Int
def z_Op : S_Op := ⟨0, 0, 0⟩

def L_Op : Lay S_Op := Lay.flat 3 (fun x => [.int .i64 x.Kind, .int .i64 x.Key, .int .i64 x.Value]) (fun _ => rfl) (fun x u hu => by
  simp only [List.mem_cons, List.not_mem_nil, or_false] at hu
  rcases hu with rfl | rfl | rfl <;> rfl)

structure S_Entry where
  Key : Int
  Value : Int
def z_Entry : S_Entry := ⟨0, 0⟩

def L_Entry : Lay S_Entry := Lay.flat 2 (fun x => [.int .i64 x.Key, .int .i64 x.Value]) (fun _ => rfl) (fun x u hu => by
  simp only [List.mem_cons, List.not_mem_nil, or_false] at hu
  rcases hu with rfl | rfl <;> rfl)

structure S_Txn where
  Ops : List S_Op
def z_Txn : S_Txn := ⟨[]⟩

def L_laws_Txn : Lay S_Txn := Lay.map (Lay.sl L_Op 23) (fun x => x.Ops)

def L_impl_Txn : Lay S_Txn := Lay.map (Lay.sl L_Op 25) (fun x => x.Ops)
theorem ag3 : aggB Try.prog 3 = some false := by kernel_rfl
theorem ag23 : aggB Try.prog 23 = some true := by kernel_rfl
theorem ag24 : aggB Try.prog 24 = some false := by kernel_rfl
theorem ag25 : aggB Try.prog 25 = some true := by kernel_rfl
theorem ag62 : aggB Try.prog 62 = some true := by kernel_rfl
theorem ag64 : aggB Try.prog 64 = some true := by kernel_rfl
theorem ag76 : aggB Try.prog 76 = some false := by kernel_rfl
theorem ag78 : aggB Try.prog 78 = some true := by kernel_rfl
theorem ag79 : aggB Try.prog 79 = some false := by kernel_rfl
theorem ag80 : aggB Try.prog 80 = some false := by kernel_rfl
theorem ag82 : aggB Try.prog 82 = some true := by kernel_rfl
theorem en9 : Enters Try.prog 9 := run_callFunc_enter Try.func9 (by kernel_rfl) rfl
theorem en10 : Enters Try.prog 10 := run_callFunc_enter Try.func10 (by kernel_rfl) rfl
theorem en11 : Enters Try.prog 11 := run_callFunc_enter Try.func11 (by kernel_rfl) rfl
theorem en16 : Enters Try.prog 16 := run_callFunc_enter Try.func16 (by kernel_rfl) rfl
theorem en17 : Enters Try.prog 17 := run_callFunc_enter Try.func17 (by kernel_rfl) rfl
theorem en18 : Enters Try.prog 18 := run_callFunc_enter Try.func18 (by kernel_rfl) rfl
theorem en19 : Enters Try.prog 19 := run_callFunc_enter Try.func19 (by kernel_rfl) rfl
theorem en20 : Enters Try.prog 20 := run_callFunc_enter Try.func20 (by kernel_rfl) rfl
theorem en25 : Enters Try.prog 25 := run_callFunc_enter Try.func25 (by kernel_rfl) rfl
theorem en26 : Enters Try.prog 26 := run_callFunc_enter Try.func26 (by kernel_rfl) rfl
theorem en27 : Enters Try.prog 27 := run_callFunc_enter Try.func27 (by kernel_rfl) rfl
theorem en28 : Enters Try.prog 28 := run_callFunc_enter Try.func28 (by kernel_rfl) rfl
theorem en29 : Enters Try.prog 29 := run_callFunc_enter Try.func29 (by kernel_rfl) rfl
theorem en30 : Enters Try.prog 30 := run_callFunc_enter Try.func30 (by kernel_rfl) rfl
theorem en31 : Enters Try.prog 31 := run_callFunc_enter Try.func31 (by kernel_rfl) rfl
theorem en32 : Enters Try.prog 32 := run_callFunc_enter Try.func32 (by kernel_rfl) rfl
theorem en33 : Enters Try.prog 33 := run_callFunc_enter Try.func33 (by kernel_rfl) rfl
theorem en34 : Enters Try.prog 34 := run_callFunc_enter Try.func34 (by kernel_rfl) rfl
theorem en35 : Enters Try.prog 35 := run_callFunc_enter Try.func35 (by kernel_rfl) rfl
theorem en36 : Enters Try.prog 36 := run_callFunc_enter Try.func36 (by kernel_rfl) rfl
theorem en39 : Enters Try.prog 39 := run_callFunc_enter Try.func39 (by kernel_rfl) rfl
theorem en40 : Enters Try.prog 40 := run_callFunc_enter Try.func40 (by kernel_rfl) rfl
theorem en47 : Enters Try.prog 47 := run_callFunc_enter Try.func47 (by kernel_rfl) rfl
theorem en48 : Enters Try.prog 48 := run_callFunc_enter Try.func48 (by kernel_rfl) rfl
theorem en49 : Enters Try.prog 49 := run_callFunc_enter Try.func49 (by kernel_rfl) rfl
theorem en50 : Enters Try.prog 50 := run_callFunc_enter Try.func50 (by kernel_rfl) rfl
theorem en51 : Enters Try.prog 51 := run_callFunc_enter Try.func51 (by kernel_rfl) rfl
theorem en52 : Enters Try.prog 52 := run_callFunc_enter Try.func52 (by kernel_rfl) rfl
theorem en53 : Enters Try.prog 53 := run_callFunc_enter Try.func53 (by kernel_rfl) rfl
theorem en54 : Enters Try.prog 54 := run_callFunc_enter Try.func54 (by kernel_rfl) rfl
theorem en60 : Enters Try.prog 60 := run_callFunc_enter Try.func60 (by kernel_rfl) rfl
theorem en61 : Enters Try.prog 61 := run_callFunc_enter Try.func61 (by kernel_rfl) rfl
theorem en62 : Enters Try.prog 62 := run_callFunc_enter Try.func62 (by kernel_rfl) rfl
theorem en63 : Enters Try.prog 63 := run_callFunc_enter Try.func63 (by kernel_rfl) rfl
theorem en64 : Enters Try.prog 64 := run_callFunc_enter Try.func64 (by kernel_rfl) rfl
theorem en65 : Enters Try.prog 65 := run_callFunc_enter Try.func65 (by kernel_rfl) rfl
theorem en66 : Enters Try.prog 66 := run_callFunc_enter Try.func66 (by kernel_rfl) rfl
theorem en67 : Enters Try.prog 67 := run_callFunc_enter Try.func67 (by kernel_rfl) rfl
theorem en72 : Enters Try.prog 72 := run_callFunc_enter Try.func72 (by kernel_rfl) rfl
theorem en73 : Enters Try.prog 73 := run_callFunc_enter Try.func73 (by kernel_rfl) rfl
theorem en74 : Enters Try.prog 74 := run_callFunc_enter Try.func74 (by kernel_rfl) rfl
theorem en75 : Enters Try.prog 75 := run_callFunc_enter Try.func75 (by kernel_rfl) rfl
theorem en77 : Enters Try.prog 77 := run_callFunc_enter Try.func77 (by kernel_rfl) rfl
theorem fd23_0 : fldB Try.prog 23 0 = some 0 := by kernel_rfl
theorem fd23_1 : fldB Try.prog 23 1 = some 1 := by kernel_rfl
theorem fd23_2 : fldB Try.prog 23 2 = some 2 := by kernel_rfl
theorem fd25_0 : fldB Try.prog 25 0 = some 0 := by kernel_rfl
theorem fd25_1 : fldB Try.prog 25 1 = some 1 := by kernel_rfl
theorem fd25_2 : fldB Try.prog 25 2 = some 2 := by kernel_rfl
theorem fd62_0 : fldB Try.prog 62 0 = some 0 := by kernel_rfl
theorem fd62_1 : fldB Try.prog 62 1 = some 1 := by kernel_rfl
theorem fd64_0 : fldB Try.prog 64 0 = some 0 := by kernel_rfl
theorem fd64_1 : fldB Try.prog 64 1 = some 1 := by kernel_rfl
theorem fd78_0 : fldB Try.prog 78 0 = some 0 := by kernel_rfl
theorem fd82_0 : fldB Try.prog 82 0 = some 0 := by kernel_rfl
theorem lz25 : (L_Op).own z_Op [.int .i64 0, .int .i64 0, .int .i64 0] [] := ⟨rfl, rfl⟩
theorem lz62 : (L_Entry).own z_Entry [.int .i64 0, .int .i64 0] [] := ⟨rfl, rfl⟩
theorem lz82 : (L_impl_Txn).own z_Txn [.slice none 0 0] [] := ⟨_, rfl, .inl ⟨rfl, rfl, rfl⟩⟩
theorem mk25 : mkB Try.prog 25 = some (.agg #[.int .i64 0, .int .i64 0, .int .i64 0], 3) := by kernel_rfl
theorem mk62 : mkB Try.prog 62 = some (.agg #[.int .i64 0, .int .i64 0], 2) := by kernel_rfl
theorem mk82 : mkB Try.prog 82 = some (.agg #[.slice none 0 0], 1) := by kernel_rfl
theorem mo : Try.prog.follows .mixedOrders = true := by kernel_rfl
theorem sz3 : szB Try.prog 3 = some 1 := by kernel_rfl
theorem sz23 : szB Try.prog 23 = some 3 := by kernel_rfl
theorem sz25 : szB Try.prog 25 = some 3 := by kernel_rfl
theorem sz62 : szB Try.prog 62 = some 2 := by kernel_rfl
theorem sz64 : szB Try.prog 64 = some 2 := by kernel_rfl
theorem sz78 : szB Try.prog 78 = some 1 := by kernel_rfl
theorem sz80 : szB Try.prog 80 = some 1 := by kernel_rfl
theorem sz82 : szB Try.prog 82 = some 1 := by kernel_rfl
theorem un3 : Try.prog.underlying 3 = some (.int .i64) := by kernel_rfl
theorem un4 : Try.prog.underlying 4 = some (.bool) := by kernel_rfl
theorem un35 : Try.prog.underlying 35 = some (.slice 64) := by kernel_rfl
theorem un38 : Try.prog.underlying 38 = some (.slice 62) := by kernel_rfl
theorem un50 : Try.prog.underlying 50 = some (.slice 78) := by kernel_rfl
theorem un53 : Try.prog.underlying 53 = some (.slice 82) := by kernel_rfl
theorem un76 : Try.prog.underlying 76 = some (.slice 23) := by kernel_rfl
theorem un80 : Try.prog.underlying 80 = some (.slice 25) := by kernel_rfl
theorem un93 : Try.prog.underlying 93 = some (.int .u64) := by kernel_rfl
theorem ze25 : zeroB Try.prog 25 = some (.agg #[.int .i64 0, .int .i64 0, .int .i64 0]) := by kernel_rfl
theorem ze62 : zeroB Try.prog 62 = some (.agg #[.int .i64 0, .int .i64 0]) := by kernel_rfl
theorem ze82 : zeroB Try.prog 82 = some (.agg #[.slice none 0 0]) := by kernel_rfl
end Go.Proofs.Ytjelagjijnpkdaa
