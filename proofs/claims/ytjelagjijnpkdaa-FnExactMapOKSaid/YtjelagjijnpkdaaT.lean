/- Types and facts. -/
import Derived.Test.YtjelagjijnpkdaaZ10
import Derived.Test.YtjelagjijnpkdaaRows
namespace Go.Proofs.Ytjelagjijnpkdaa
open Go Go.Z Go.Proofs Go.MuLone Go.ChangeShapes Go.WideShapes Go.ChangeAt Go.RowKit
set_option linter.unusedVariables false
set_option linter.unusedSimpArgs false
structure S_Op where
  Kind : Int
  Key : Int
  Value : Int
def z_Op : S_Op := ⟨0, 0, 0⟩

def L_Op : Lay S_Op := Lay.flat 3 (fun x => [.int .i64 x.Kind, .int .i64 x.Key, .int .i64 x.Value]) (fun _ => rfl) (fun x u hu => by
  simp only [List.mem_cons, List.not_mem_nil, or_false] at hu
  rcases hu with rfl | rfl | rfl <;> rfl)

structure S_Register where
  Epoch : Int
  Side : Int
  Count : Int
  Boot : Int
  Base : ByteArray
  Tip : ByteArray
  Root : ByteArray
def z_Register : S_Register := ⟨0, 0, 0, 0, ByteArray.empty, ByteArray.empty, ByteArray.empty⟩

def L_Register : Lay S_Register := Lay.flat 7 (fun x => [.int .i64 x.Epoch, .int .i64 x.Side, .int .i64 x.Count, .int .i64 x.Boot, .string x.Base, .string x.Tip, .string x.Root]) (fun _ => rfl) (fun x u hu => by
  simp only [List.mem_cons, List.not_mem_nil, or_false] at hu
  rcases hu with rfl | rfl | rfl | rfl | rfl | rfl | rfl <;> rfl)

structure S_Entry where
  Key : Int
  Value : Int
def z_Entry : S_Entry := ⟨0, 0⟩

def L_Entry : Lay S_Entry := Lay.flat 2 (fun x => [.int .i64 x.Key, .int .i64 x.Value]) (fun _ => rfl) (fun x u hu => by
  simp only [List.mem_cons, List.not_mem_nil, or_false] at hu
  rcases hu with rfl | rfl <;> rfl)
theorem ag3 : aggB Try.prog 3 = some false := by kernel_rfl
theorem ag9 : aggB Try.prog 9 = some false := by kernel_rfl
theorem ag23 : aggB Try.prog 23 = some true := by kernel_rfl
theorem ag25 : aggB Try.prog 25 = some true := by kernel_rfl
theorem ag29 : aggB Try.prog 29 = some true := by kernel_rfl
theorem ag32 : aggB Try.prog 32 = some true := by kernel_rfl
theorem ag62 : aggB Try.prog 62 = some true := by kernel_rfl
theorem ag64 : aggB Try.prog 64 = some true := by kernel_rfl
theorem en9 : Enters Try.prog 9 := run_callFunc_enter Try.func9 (by kernel_rfl) rfl
theorem en10 : Enters Try.prog 10 := run_callFunc_enter Try.func10 (by kernel_rfl) rfl
theorem en11 : Enters Try.prog 11 := run_callFunc_enter Try.func11 (by kernel_rfl) rfl
theorem en12 : Enters Try.prog 12 := run_callFunc_enter Try.func12 (by kernel_rfl) rfl
theorem en13 : Enters Try.prog 13 := run_callFunc_enter Try.func13 (by kernel_rfl) rfl
theorem en14 : Enters Try.prog 14 := run_callFunc_enter Try.func14 (by kernel_rfl) rfl
theorem en15 : Enters Try.prog 15 := run_callFunc_enter Try.func15 (by kernel_rfl) rfl
theorem en16 : Enters Try.prog 16 := run_callFunc_enter Try.func16 (by kernel_rfl) rfl
theorem en17 : Enters Try.prog 17 := run_callFunc_enter Try.func17 (by kernel_rfl) rfl
theorem en18 : Enters Try.prog 18 := run_callFunc_enter Try.func18 (by kernel_rfl) rfl
theorem en19 : Enters Try.prog 19 := run_callFunc_enter Try.func19 (by kernel_rfl) rfl
theorem en20 : Enters Try.prog 20 := run_callFunc_enter Try.func20 (by kernel_rfl) rfl
theorem en32 : Enters Try.prog 32 := run_callFunc_enter Try.func32 (by kernel_rfl) rfl
theorem en33 : Enters Try.prog 33 := run_callFunc_enter Try.func33 (by kernel_rfl) rfl
theorem en34 : Enters Try.prog 34 := run_callFunc_enter Try.func34 (by kernel_rfl) rfl
theorem en35 : Enters Try.prog 35 := run_callFunc_enter Try.func35 (by kernel_rfl) rfl
theorem en36 : Enters Try.prog 36 := run_callFunc_enter Try.func36 (by kernel_rfl) rfl
theorem en37 : Enters Try.prog 37 := run_callFunc_enter Try.func37 (by kernel_rfl) rfl
theorem en38 : Enters Try.prog 38 := run_callFunc_enter Try.func38 (by kernel_rfl) rfl
theorem en39 : Enters Try.prog 39 := run_callFunc_enter Try.func39 (by kernel_rfl) rfl
theorem en40 : Enters Try.prog 40 := run_callFunc_enter Try.func40 (by kernel_rfl) rfl
theorem fd23_0 : fldB Try.prog 23 0 = some 0 := by kernel_rfl
theorem fd23_1 : fldB Try.prog 23 1 = some 1 := by kernel_rfl
theorem fd23_2 : fldB Try.prog 23 2 = some 2 := by kernel_rfl
theorem fd25_0 : fldB Try.prog 25 0 = some 0 := by kernel_rfl
theorem fd25_1 : fldB Try.prog 25 1 = some 1 := by kernel_rfl
theorem fd25_2 : fldB Try.prog 25 2 = some 2 := by kernel_rfl
theorem fd29_0 : fldB Try.prog 29 0 = some 0 := by kernel_rfl
theorem fd29_1 : fldB Try.prog 29 1 = some 1 := by kernel_rfl
theorem fd29_2 : fldB Try.prog 29 2 = some 2 := by kernel_rfl
theorem fd29_3 : fldB Try.prog 29 3 = some 3 := by kernel_rfl
theorem fd29_4 : fldB Try.prog 29 4 = some 4 := by kernel_rfl
theorem fd29_5 : fldB Try.prog 29 5 = some 5 := by kernel_rfl
theorem fd29_6 : fldB Try.prog 29 6 = some 6 := by kernel_rfl
theorem fd32_0 : fldB Try.prog 32 0 = some 0 := by kernel_rfl
theorem fd32_1 : fldB Try.prog 32 1 = some 1 := by kernel_rfl
theorem fd32_2 : fldB Try.prog 32 2 = some 2 := by kernel_rfl
theorem fd32_3 : fldB Try.prog 32 3 = some 3 := by kernel_rfl
theorem fd32_4 : fldB Try.prog 32 4 = some 4 := by kernel_rfl
theorem fd32_5 : fldB Try.prog 32 5 = some 5 := by kernel_rfl
theorem fd32_6 : fldB Try.prog 32 6 = some 6 := by kernel_rfl
theorem fd62_0 : fldB Try.prog 62 0 = some 0 := by kernel_rfl
theorem fd62_1 : fldB Try.prog 62 1 = some 1 := by kernel_rfl
theorem fd64_0 : fldB Try.prog 64 0 = some 0 := by kernel_rfl
theorem fd64_1 : fldB Try.prog 64 1 = some 1 := by kernel_rfl
theorem lz62 : (L_Entry).own z_Entry [.int .i64 0, .int .i64 0] [] := ⟨rfl, rfl⟩
theorem mk62 : mkB Try.prog 62 = some (.agg #[.int .i64 0, .int .i64 0], 2) := by kernel_rfl
theorem mo : Try.prog.follows .mixedOrders = true := by kernel_rfl
theorem sz3 : szB Try.prog 3 = some 1 := by kernel_rfl
theorem sz9 : szB Try.prog 9 = some 1 := by kernel_rfl
theorem sz23 : szB Try.prog 23 = some 3 := by kernel_rfl
theorem sz25 : szB Try.prog 25 = some 3 := by kernel_rfl
theorem sz29 : szB Try.prog 29 = some 7 := by kernel_rfl
theorem sz32 : szB Try.prog 32 = some 7 := by kernel_rfl
theorem sz62 : szB Try.prog 62 = some 2 := by kernel_rfl
theorem sz64 : szB Try.prog 64 = some 2 := by kernel_rfl
theorem un4 : Try.prog.underlying 4 = some (.bool) := by kernel_rfl
theorem un9 : Try.prog.underlying 9 = some (.string) := by kernel_rfl
theorem un35 : Try.prog.underlying 35 = some (.slice 64) := by kernel_rfl
theorem un38 : Try.prog.underlying 38 = some (.slice 62) := by kernel_rfl
theorem ze25 : zeroB Try.prog 25 = some (.agg #[.int .i64 0, .int .i64 0, .int .i64 0]) := by kernel_rfl
theorem ze32 : zeroB Try.prog 32 = some (.agg #[.int .i64 0, .int .i64 0, .int .i64 0, .int .i64 0, .string ⟨#[]⟩, .string ⟨#[]⟩, .string ⟨#[]⟩]) := by kernel_rfl
theorem ze62 : zeroB Try.prog 62 = some (.agg #[.int .i64 0, .int .i64 0]) := by kernel_rfl
end Go.Proofs.Ytjelagjijnpkdaa
