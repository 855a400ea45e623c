/- Types and facts. -/
import Derived.Test.YteklgnhfgdhdiaaY1
import Derived.Test.YteklgnhfgdhdiaaRows
namespace Go.Proofs.Yteklgnhfgdhdiaa
open Go Go.Z Go.Proofs Go.MuLone Go.ChangeShapes Go.WideShapes Go.ChangeAt Go.RowKit
set_option linter.unusedVariables false
set_option linter.unusedSimpArgs false
structure S_l00Src where
  code : List Int
  at_ : Int
  seed : Int
def z_l00Src : S_l00Src := ⟨[], 0, 0⟩

def L_spec_l00Src : Lay S_l00Src := Lay.map (Lay.pair (Lay.sl (Lay.int .u8) 5) (Lay.pair (Lay.int .i64) (Lay.int .i64))) (fun x => (x.code, (x.at_, x.seed)))

structure S_Hash where
  H0 : Int
  H1 : Int
  H2 : Int
  H3 : Int
  H4 : Int
  H5 : Int
  H6 : Int
  H7 : Int
  Buf : ByteArray
  N : Int
def z_Hash : S_Hash := ⟨0, 0, 0, 0, 0, 0, 0, 0, ByteArray.empty, 0⟩

def L_Hash : Lay S_Hash := Lay.flat 10 (fun x => [.int .i64 x.H0, .int .i64 x.H1, .int .i64 x.H2, .int .i64 x.H3, .int .i64 x.H4, .int .i64 x.H5, .int .i64 x.H6, .int .i64 x.H7, .string x.Buf, .int .i64 x.N]) (fun _ => rfl) (fun x u hu => by
  simp only [List.mem_cons, List.not_mem_nil, or_false] at hu
  rcases hu with rfl | rfl | rfl | rfl | rfl | rfl | rfl | rfl | rfl | rfl <;> rfl)
theorem ag3 : aggB Try.prog 3 = some false := by kernel_rfl
theorem ag5 : aggB Try.prog 5 = some false := by kernel_rfl
theorem ag9 : aggB Try.prog 9 = some false := by kernel_rfl
theorem ag22 : aggB Try.prog 22 = some false := by kernel_rfl
theorem ag27 : aggB Try.prog 27 = some true := by kernel_rfl
theorem ag29 : aggB Try.prog 29 = some true := by kernel_rfl
theorem ag61 : aggB Try.prog 61 = some false := by kernel_rfl
theorem ag67 : aggB Try.prog 67 = some false := by kernel_rfl
theorem ag88 : aggB Try.prog 88 = some false := by kernel_rfl
theorem ag91 : aggB Try.prog 91 = some true := by kernel_rfl
theorem ag125 : aggB Try.prog 125 = some true := by kernel_rfl
theorem ag136 : aggB Try.prog 136 = some true := by kernel_rfl
theorem bd27_3 (x0 : Int) (x1 : Int) (x2 : Int) (x3 : Int) (x4 : Int) (x5 : Int) (x6 : Int) (x7 : Int) : Try.prog.built 27 [(0, .int .i64 x0), (1, .int .i64 x1), (2, .int .i64 x2), (3, .int .i64 x3), (4, .int .i64 x4), (5, .int .i64 x5), (6, .int .i64 x6), (7, .int .i64 x7)] = some #[.int .i64 x0, .int .i64 x1, .int .i64 x2, .int .i64 x3, .int .i64 x4, .int .i64 x5, .int .i64 x6, .int .i64 x7] := by kernel_rfl
theorem bd29_4 (x1 : Int) (x2 : Int) (x3 : Int) (x4 : Int) (x5 : Int) (x6 : Int) (x7 : Int) (x8 : Int) : Try.prog.built 29 [(0, .agg #[.int .i64 x1, .int .i64 x2, .int .i64 x3, .int .i64 x4, .int .i64 x5, .int .i64 x6, .int .i64 x7, .int .i64 x8])] = some #[.int .i64 x1, .int .i64 x2, .int .i64 x3, .int .i64 x4, .int .i64 x5, .int .i64 x6, .int .i64 x7, .int .i64 x8, .string ⟨#[]⟩, .int .i64 0] := by kernel_rfl
theorem bd29_11  : Try.prog.built 29 [] = some #[.int .i64 0, .int .i64 0, .int .i64 0, .int .i64 0, .int .i64 0, .int .i64 0, .int .i64 0, .int .i64 0, .string ⟨#[]⟩, .int .i64 0] := by kernel_rfl
theorem bd84_0 (A0 : Option Addr) (n0 c0 : Nat) (x1 : Int) : Try.prog.built 84 [(0, .slice A0 n0 c0), (2, .int .i64 x1)] = some #[.slice A0 n0 c0, .int .i64 0, .int .i64 x1] := by kernel_rfl
theorem bd91_5 (x0 : Int) (x1 : Int) (x2 : Int) (x3 : Int) (x4 : Int) (x5 : Int) (x6 : Int) (x7 : Int) (x8 : Int) (x9 : Int) (x10 : Int) (x11 : Int) (x12 : Int) (x13 : Int) (x14 : Int) (x15 : Int) (x16 : Int) (x17 : Int) (x18 : Int) (x19 : Int) (x20 : Int) (x21 : Int) (x22 : Int) (x23 : Int) (x24 : Int) (x25 : Int) (x26 : Int) (x27 : Int) (x28 : Int) (x29 : Int) (x30 : Int) (x31 : Int) (x32 : Int) (x33 : Int) (x34 : Int) (x35 : Int) (x36 : Int) (x37 : Int) (x38 : Int) (x39 : Int) (x40 : Int) (x41 : Int) (x42 : Int) (x43 : Int) (x44 : Int) (x45 : Int) (x46 : Int) (x47 : Int) (x48 : Int) (x49 : Int) (x50 : Int) (x51 : Int) (x52 : Int) (x53 : Int) (x54 : Int) (x55 : Int) (x56 : Int) (x57 : Int) (x58 : Int) (x59 : Int) (x60 : Int) (x61 : Int) (x62 : Int) (x63 : Int) : Try.prog.built 91 [(0, .int .u32 x0), (1, .int .u32 x1), (2, .int .u32 x2), (3, .int .u32 x3), (4, .int .u32 x4), (5, .int .u32 x5), (6, .int .u32 x6), (7, .int .u32 x7), (8, .int .u32 x8), (9, .int .u32 x9), (10, .int .u32 x10), (11, .int .u32 x11), (12, .int .u32 x12), (13, .int .u32 x13), (14, .int .u32 x14), (15, .int .u32 x15), (16, .int .u32 x16), (17, .int .u32 x17), (18, .int .u32 x18), (19, .int .u32 x19), (20, .int .u32 x20), (21, .int .u32 x21), (22, .int .u32 x22), (23, .int .u32 x23), (24, .int .u32 x24), (25, .int .u32 x25), (26, .int .u32 x26), (27, .int .u32 x27), (28, .int .u32 x28), (29, .int .u32 x29), (30, .int .u32 x30), (31, .int .u32 x31), (32, .int .u32 x32), (33, .int .u32 x33), (34, .int .u32 x34), (35, .int .u32 x35), (36, .int .u32 x36), (37, .int .u32 x37), (38, .int .u32 x38), (39, .int .u32 x39), (40, .int .u32 x40), (41, .int .u32 x41), (42, .int .u32 x42), (43, .int .u32 x43), (44, .int .u32 x44), (45, .int .u32 x45), (46, .int .u32 x46), (47, .int .u32 x47), (48, .int .u32 x48), (49, .int .u32 x49), (50, .int .u32 x50), (51, .int .u32 x51), (52, .int .u32 x52), (53, .int .u32 x53), (54, .int .u32 x54), (55, .int .u32 x55), (56, .int .u32 x56), (57, .int .u32 x57), (58, .int .u32 x58), (59, .int .u32 x59), (60, .int .u32 x60), (61, .int .u32 x61), (62, .int .u32 x62), (63, .int .u32 x63)] = some #[.int .u32 x0, .int .u32 x1, .int .u32 x2, .int .u32 x3, .int .u32 x4, .int .u32 x5, .int .u32 x6, .int .u32 x7, .int .u32 x8, .int .u32 x9, .int .u32 x10, .int .u32 x11, .int .u32 x12, .int .u32 x13, .int .u32 x14, .int .u32 x15, .int .u32 x16, .int .u32 x17, .int .u32 x18, .int .u32 x19, .int .u32 x20, .int .u32 x21, .int .u32 x22, .int .u32 x23, .int .u32 x24, .int .u32 x25, .int .u32 x26, .int .u32 x27, .int .u32 x28, .int .u32 x29, .int .u32 x30, .int .u32 x31, .int .u32 x32, .int .u32 x33, .int .u32 x34, .int .u32 x35, .int .u32 x36, .int .u32 x37, .int .u32 x38, .int .u32 x39, .int .u32 x40, .int .u32 x41, .int .u32 x42, .int .u32 x43, .int .u32 x44, .int .u32 x45, .int .u32 x46, .int .u32 x47, .int .u32 x48, .int .u32 x49, .int .u32 x50, .int .u32 x51, .int .u32 x52, .int .u32 x53, .int .u32 x54, .int .u32 x55, .int .u32 x56, .int .u32 x57, .int .u32 x58, .int .u32 x59, .int .u32 x60, .int .u32 x61, .int .u32 x62, .int .u32 x63] := by kernel_rfl
theorem bd125_6 (x0 : Int) (x1 : Int) (x2 : Int) (x3 : Int) (x4 : Int) (x5 : Int) (x6 : Int) (x7 : Int) : Try.prog.built 125 [(0, .int .u32 x0), (1, .int .u32 x1), (2, .int .u32 x2), (3, .int .u32 x3), (4, .int .u32 x4), (5, .int .u32 x5), (6, .int .u32 x6), (7, .int .u32 x7)] = some #[.int .u32 x0, .int .u32 x1, .int .u32 x2, .int .u32 x3, .int .u32 x4, .int .u32 x5, .int .u32 x6, .int .u32 x7] := by kernel_rfl
theorem bd136_9 (x0 : Int) (x1 : Int) (x2 : Int) (x3 : Int) (x4 : Int) (x5 : Int) (x6 : Int) (x7 : Int) (x8 : Int) (x9 : Int) (x10 : Int) (x11 : Int) (x12 : Int) (x13 : Int) (x14 : Int) (x15 : Int) (x16 : Int) (x17 : Int) (x18 : Int) (x19 : Int) (x20 : Int) (x21 : Int) (x22 : Int) (x23 : Int) (x24 : Int) (x25 : Int) (x26 : Int) (x27 : Int) (x28 : Int) (x29 : Int) (x30 : Int) (x31 : Int) (x32 : Int) (x33 : Int) (x34 : Int) (x35 : Int) (x36 : Int) (x37 : Int) (x38 : Int) (x39 : Int) (x40 : Int) (x41 : Int) (x42 : Int) (x43 : Int) (x44 : Int) (x45 : Int) (x46 : Int) (x47 : Int) (x48 : Int) (x49 : Int) (x50 : Int) (x51 : Int) (x52 : Int) (x53 : Int) (x54 : Int) (x55 : Int) (x56 : Int) (x57 : Int) (x58 : Int) (x59 : Int) (x60 : Int) (x61 : Int) (x62 : Int) (x63 : Int) : Try.prog.built 136 [(0, .int .i64 x0), (1, .int .i64 x1), (2, .int .i64 x2), (3, .int .i64 x3), (4, .int .i64 x4), (5, .int .i64 x5), (6, .int .i64 x6), (7, .int .i64 x7), (8, .int .i64 x8), (9, .int .i64 x9), (10, .int .i64 x10), (11, .int .i64 x11), (12, .int .i64 x12), (13, .int .i64 x13), (14, .int .i64 x14), (15, .int .i64 x15), (16, .int .i64 x16), (17, .int .i64 x17), (18, .int .i64 x18), (19, .int .i64 x19), (20, .int .i64 x20), (21, .int .i64 x21), (22, .int .i64 x22), (23, .int .i64 x23), (24, .int .i64 x24), (25, .int .i64 x25), (26, .int .i64 x26), (27, .int .i64 x27), (28, .int .i64 x28), (29, .int .i64 x29), (30, .int .i64 x30), (31, .int .i64 x31), (32, .int .i64 x32), (33, .int .i64 x33), (34, .int .i64 x34), (35, .int .i64 x35), (36, .int .i64 x36), (37, .int .i64 x37), (38, .int .i64 x38), (39, .int .i64 x39), (40, .int .i64 x40), (41, .int .i64 x41), (42, .int .i64 x42), (43, .int .i64 x43), (44, .int .i64 x44), (45, .int .i64 x45), (46, .int .i64 x46), (47, .int .i64 x47), (48, .int .i64 x48), (49, .int .i64 x49), (50, .int .i64 x50), (51, .int .i64 x51), (52, .int .i64 x52), (53, .int .i64 x53), (54, .int .i64 x54), (55, .int .i64 x55), (56, .int .i64 x56), (57, .int .i64 x57), (58, .int .i64 x58), (59, .int .i64 x59), (60, .int .i64 x60), (61, .int .i64 x61), (62, .int .i64 x62), (63, .int .i64 x63)] = some #[.int .i64 x0, .int .i64 x1, .int .i64 x2, .int .i64 x3, .int .i64 x4, .int .i64 x5, .int .i64 x6, .int .i64 x7, .int .i64 x8, .int .i64 x9, .int .i64 x10, .int .i64 x11, .int .i64 x12, .int .i64 x13, .int .i64 x14, .int .i64 x15, .int .i64 x16, .int .i64 x17, .int .i64 x18, .int .i64 x19, .int .i64 x20, .int .i64 x21, .int .i64 x22, .int .i64 x23, .int .i64 x24, .int .i64 x25, .int .i64 x26, .int .i64 x27, .int .i64 x28, .int .i64 x29, .int .i64 x30, .int .i64 x31, .int .i64 x32, .int .i64 x33, .int .i64 x34, .int .i64 x35, .int .i64 x36, .int .i64 x37, .int .i64 x38, .int .i64 x39, .int .i64 x40, .int .i64 x41, .int .i64 x42, .int .i64 x43, .int .i64 x44, .int .i64 x45, .int .i64 x46, .int .i64 x47, .int .i64 x48, .int .i64 x49, .int .i64 x50, .int .i64 x51, .int .i64 x52, .int .i64 x53, .int .i64 x54, .int .i64 x55, .int .i64 x56, .int .i64 x57, .int .i64 x58, .int .i64 x59, .int .i64 x60, .int .i64 x61, .int .i64 x62, .int .i64 x63] := by kernel_rfl
theorem bd136_10  : Try.prog.built 136 [] = some #[.int .i64 0, .int .i64 0, .int .i64 0, .int .i64 0, .int .i64 0, .int .i64 0, .int .i64 0, .int .i64 0, .int .i64 0, .int .i64 0, .int .i64 0, .int .i64 0, .int .i64 0, .int .i64 0, .int .i64 0, .int .i64 0, .int .i64 0, .int .i64 0, .int .i64 0, .int .i64 0, .int .i64 0, .int .i64 0, .int .i64 0, .int .i64 0, .int .i64 0, .int .i64 0, .int .i64 0, .int .i64 0, .int .i64 0, .int .i64 0, .int .i64 0, .int .i64 0, .int .i64 0, .int .i64 0, .int .i64 0, .int .i64 0, .int .i64 0, .int .i64 0, .int .i64 0, .int .i64 0, .int .i64 0, .int .i64 0, .int .i64 0, .int .i64 0, .int .i64 0, .int .i64 0, .int .i64 0, .int .i64 0, .int .i64 0, .int .i64 0, .int .i64 0, .int .i64 0, .int .i64 0, .int .i64 0, .int .i64 0, .int .i64 0, .int .i64 0, .int .i64 0, .int .i64 0, .int .i64 0, .int .i64 0, .int .i64 0, .int .i64 0, .int .i64 0] := by kernel_rfl
theorem bs3_2 (x0 : Int) (x1 : Int) (x2 : Int) (x3 : Int) (x4 : Int) (x5 : Int) : sliceB Try.prog 3 6 [(0, .int .i64 x0), (1, .int .i64 x1), (2, .int .i64 x2), (3, .int .i64 x3), (4, .int .i64 x4), (5, .int .i64 x5)] = some #[.int .i64 x0, .int .i64 x1, .int .i64 x2, .int .i64 x3, .int .i64 x4, .int .i64 x5] := by kernel_rfl
theorem bs5_1 (x0 : Int) : sliceB Try.prog 5 1 [(0, .int .u8 x0)] = some #[.int .u8 x0] := by kernel_rfl
theorem bs5_7 (x0 : Int) (x1 : Int) (x2 : Int) (x3 : Int) : sliceB Try.prog 5 4 [(0, .int .u8 x0), (1, .int .u8 x1), (2, .int .u8 x2), (3, .int .u8 x3)] = some #[.int .u8 x0, .int .u8 x1, .int .u8 x2, .int .u8 x3] := by kernel_rfl
theorem bs9_8 (x0 : ByteArray) : sliceB Try.prog 9 1 [(0, .string x0)] = some #[.string x0] := by kernel_rfl
theorem en8 : Enters Try.prog 8 := run_callFunc_enter Try.func8 (by kernel_rfl) rfl
theorem en9 : Enters Try.prog 9 := run_callFunc_enter Try.func9 (by kernel_rfl) rfl
theorem en10 : Enters Try.prog 10 := run_callFunc_enter Try.func10 (by kernel_rfl) rfl
theorem en11 : Enters Try.prog 11 := run_callFunc_enter Try.func11 (by kernel_rfl) rfl
theorem en12 : Enters Try.prog 12 := run_callFunc_enter Try.func12 (by kernel_rfl) rfl
theorem en13 : Enters Try.prog 13 := run_callFunc_enter Try.func13 (by kernel_rfl) rfl
theorem en14 : Enters Try.prog 14 := run_callFunc_enter Try.func14 (by kernel_rfl) rfl
theorem en15 : Enters Try.prog 15 := run_callFunc_enter Try.func15 (by kernel_rfl) rfl
theorem en43 : Enters Try.prog 43 := run_callFunc_enter Try.func43 (by kernel_rfl) rfl
theorem en44 : Enters Try.prog 44 := run_callFunc_enter Try.func44 (by kernel_rfl) rfl
theorem en45 : Enters Try.prog 45 := run_callFunc_enter Try.func45 (by kernel_rfl) rfl
theorem en46 : Enters Try.prog 46 := run_callFunc_enter Try.func46 (by kernel_rfl) rfl
theorem en47 : Enters Try.prog 47 := run_callFunc_enter Try.func47 (by kernel_rfl) rfl
theorem en48 : Enters Try.prog 48 := run_callFunc_enter Try.func48 (by kernel_rfl) rfl
theorem en49 : Enters Try.prog 49 := run_callFunc_enter Try.func49 (by kernel_rfl) rfl
theorem en50 : Enters Try.prog 50 := run_callFunc_enter Try.func50 (by kernel_rfl) rfl
theorem en51 : Enters Try.prog 51 := run_callFunc_enter Try.func51 (by kernel_rfl) rfl
theorem en52 : Enters Try.prog 52 := run_callFunc_enter Try.func52 (by kernel_rfl) rfl
theorem en59 : Enters Try.prog 59 := run_callFunc_enter Try.func59 (by kernel_rfl) rfl
theorem en86 : Enters Try.prog 86 := run_callFunc_enter Try.func86 (by kernel_rfl) rfl
theorem en87 : Enters Try.prog 87 := run_callFunc_enter Try.func87 (by kernel_rfl) rfl
theorem en88 : Enters Try.prog 88 := run_callFunc_enter Try.func88 (by kernel_rfl) rfl
theorem en89 : Enters Try.prog 89 := run_callFunc_enter Try.func89 (by kernel_rfl) rfl
theorem en90 : Enters Try.prog 90 := run_callFunc_enter Try.func90 (by kernel_rfl) rfl
theorem en91 : Enters Try.prog 91 := run_callFunc_enter Try.func91 (by kernel_rfl) rfl
theorem en92 : Enters Try.prog 92 := run_callFunc_enter Try.func92 (by kernel_rfl) rfl
theorem en93 : Enters Try.prog 93 := run_callFunc_enter Try.func93 (by kernel_rfl) rfl
theorem en94 : Enters Try.prog 94 := run_callFunc_enter Try.func94 (by kernel_rfl) rfl
theorem en95 : Enters Try.prog 95 := run_callFunc_enter Try.func95 (by kernel_rfl) rfl
theorem en96 : Enters Try.prog 96 := run_callFunc_enter Try.func96 (by kernel_rfl) rfl
theorem en111 : Enters Try.prog 111 := run_callFunc_enter Try.func111 (by kernel_rfl) rfl
theorem en119 : Enters Try.prog 119 := run_callFunc_enter Try.func119 (by kernel_rfl) rfl
theorem en120 : Enters Try.prog 120 := run_callFunc_enter Try.func120 (by kernel_rfl) rfl
theorem en121 : Enters Try.prog 121 := run_callFunc_enter Try.func121 (by kernel_rfl) rfl
theorem en122 : Enters Try.prog 122 := run_callFunc_enter Try.func122 (by kernel_rfl) rfl
theorem en123 : Enters Try.prog 123 := run_callFunc_enter Try.func123 (by kernel_rfl) rfl
theorem en124 : Enters Try.prog 124 := run_callFunc_enter Try.func124 (by kernel_rfl) rfl
theorem en129 : Enters Try.prog 129 := run_callFunc_enter Try.func129 (by kernel_rfl) rfl
theorem en138 : Enters Try.prog 138 := run_callFunc_enter Try.func138 (by kernel_rfl) rfl
theorem en139 : Enters Try.prog 139 := run_callFunc_enter Try.func139 (by kernel_rfl) rfl
theorem en140 : Enters Try.prog 140 := run_callFunc_enter Try.func140 (by kernel_rfl) rfl
theorem en141 : Enters Try.prog 141 := run_callFunc_enter Try.func141 (by kernel_rfl) rfl
theorem fd29_0 : fldB Try.prog 29 0 = some 0 := by kernel_rfl
theorem fd29_1 : fldB Try.prog 29 1 = some 8 := by kernel_rfl
theorem fd29_2 : fldB Try.prog 29 2 = some 9 := by kernel_rfl
theorem fd84_0 : fldB Try.prog 84 0 = some 0 := by kernel_rfl
theorem fd84_1 : fldB Try.prog 84 1 = some 1 := by kernel_rfl
theorem fd84_2 : fldB Try.prog 84 2 = some 2 := by kernel_rfl
theorem fdt29_0 : fdtB Try.prog 29 0 = some (0, 27) := by kernel_rfl
theorem mk5 : mkB Try.prog 5 = some (.int .u8 0, 1) := by kernel_rfl
theorem mo : Try.prog.follows .mixedOrders = true := by kernel_rfl
theorem sz3 : szB Try.prog 3 = some 1 := by kernel_rfl
theorem sz5 : szB Try.prog 5 = some 1 := by kernel_rfl
theorem sz9 : szB Try.prog 9 = some 1 := by kernel_rfl
theorem sz27 : szB Try.prog 27 = some 8 := by kernel_rfl
theorem sz29 : szB Try.prog 29 = some 10 := by kernel_rfl
theorem sz67 : szB Try.prog 67 = some 1 := by kernel_rfl
theorem sz91 : szB Try.prog 91 = some 64 := by kernel_rfl
theorem sz125 : szB Try.prog 125 = some 8 := by kernel_rfl
theorem sz136 : szB Try.prog 136 = some 64 := by kernel_rfl
theorem un3 : Try.prog.underlying 3 = some (.int .i64) := by kernel_rfl
theorem un5 : Try.prog.underlying 5 = some (.int .u8) := by kernel_rfl
theorem un9 : Try.prog.underlying 9 = some (.string) := by kernel_rfl
theorem un22 : Try.prog.underlying 22 = some (.slice 5) := by kernel_rfl
theorem un27 : Try.prog.underlying 27 = some (.array 8 3) := by kernel_rfl
theorem un47 : Try.prog.underlying 47 = some (.slice 3) := by kernel_rfl
theorem un67 : Try.prog.underlying 67 = some (.int .u32) := by kernel_rfl
theorem un86 : Try.prog.underlying 86 = some (.slice 9) := by kernel_rfl
theorem un91 : Try.prog.underlying 91 = some (.array 64 67) := by kernel_rfl
theorem un96 : Try.prog.underlying 96 = some (.int .u64) := by kernel_rfl
theorem un125 : Try.prog.underlying 125 = some (.array 8 67) := by kernel_rfl
theorem un136 : Try.prog.underlying 136 = some (.array 64 3) := by kernel_rfl
theorem ze27 : zeroB Try.prog 27 = some (.agg #[.int .i64 0, .int .i64 0, .int .i64 0, .int .i64 0, .int .i64 0, .int .i64 0, .int .i64 0, .int .i64 0]) := by kernel_rfl
theorem ze29 : zeroB Try.prog 29 = some (.agg #[.int .i64 0, .int .i64 0, .int .i64 0, .int .i64 0, .int .i64 0, .int .i64 0, .int .i64 0, .int .i64 0, .string ⟨#[]⟩, .int .i64 0]) := by kernel_rfl
theorem ze91 : zeroB Try.prog 91 = some (.agg #[.int .u32 0, .int .u32 0, .int .u32 0, .int .u32 0, .int .u32 0, .int .u32 0, .int .u32 0, .int .u32 0, .int .u32 0, .int .u32 0, .int .u32 0, .int .u32 0, .int .u32 0, .int .u32 0, .int .u32 0, .int .u32 0, .int .u32 0, .int .u32 0, .int .u32 0, .int .u32 0, .int .u32 0, .int .u32 0, .int .u32 0, .int .u32 0, .int .u32 0, .int .u32 0, .int .u32 0, .int .u32 0, .int .u32 0, .int .u32 0, .int .u32 0, .int .u32 0, .int .u32 0, .int .u32 0, .int .u32 0, .int .u32 0, .int .u32 0, .int .u32 0, .int .u32 0, .int .u32 0, .int .u32 0, .int .u32 0, .int .u32 0, .int .u32 0, .int .u32 0, .int .u32 0, .int .u32 0, .int .u32 0, .int .u32 0, .int .u32 0, .int .u32 0, .int .u32 0, .int .u32 0, .int .u32 0, .int .u32 0, .int .u32 0, .int .u32 0, .int .u32 0, .int .u32 0, .int .u32 0, .int .u32 0, .int .u32 0, .int .u32 0, .int .u32 0]) := by kernel_rfl
theorem ze125 : zeroB Try.prog 125 = some (.agg #[.int .u32 0, .int .u32 0, .int .u32 0, .int .u32 0, .int .u32 0, .int .u32 0, .int .u32 0, .int .u32 0]) := by kernel_rfl
theorem ze136 : zeroB Try.prog 136 = some (.agg #[.int .i64 0, .int .i64 0, .int .i64 0, .int .i64 0, .int .i64 0, .int .i64 0, .int .i64 0, .int .i64 0, .int .i64 0, .int .i64 0, .int .i64 0, .int .i64 0, .int .i64 0, .int .i64 0, .int .i64 0, .int .i64 0, .int .i64 0, .int .i64 0, .int .i64 0, .int .i64 0, .int .i64 0, .int .i64 0, .int .i64 0, .int .i64 0, .int .i64 0, .int .i64 0, .int .i64 0, .int .i64 0, .int .i64 0, .int .i64 0, .int .i64 0, .int .i64 0, .int .i64 0, .int .i64 0, .int .i64 0, .int .i64 0, .int .i64 0, .int .i64 0, .int .i64 0, .int .i64 0, .int .i64 0, .int .i64 0, .int .i64 0, .int .i64 0, .int .i64 0, .int .i64 0, .int .i64 0, .int .i64 0, .int .i64 0, .int .i64 0, .int .i64 0, .int .i64 0, .int .i64 0, .int .i64 0, .int .i64 0, .int .i64 0, .int .i64 0, .int .i64 0, .int .i64 0, .int .i64 0, .int .i64 0, .int .i64 0, .int .i64 0, .int .i64 0]) := by kernel_rfl
end Go.Proofs.Yteklgnhfgdhdiaa
