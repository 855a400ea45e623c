/- Types and facts. -/
import Derived.Test.YtjlhmcieholdiaaZ26
import Derived.Test.YtjlhmcieholdiaaRows
namespace Go.Proofs.Ytjlhmcieholdiaa
open Go Go.Z Go.Proofs Go.MuLone Go.ChangeShapes Go.WideShapes Go.ChangeAt Go.RowKit
set_option linter.unusedVariables false
set_option linter.unusedSimpArgs false
structure S_Block where
  Id : Int
  Leaf : Int
  Value : Int
def z_Block : S_Block := ⟨0, 0, 0⟩

def L_Block : Lay S_Block := Lay.flat 3 (fun x => [.int .i64 x.Id, .int .i64 x.Leaf, .int .i64 x.Value]) (fun _ => rfl) (fun x u hu => by
  simp only [List.mem_cons, List.not_mem_nil, or_false] at hu
  rcases hu with rfl | rfl | rfl <;> rfl)

structure S_Oram where
  Pos : List Int
  Stash : List S_Block
  Buckets : List (List S_Block)
def z_Oram : S_Oram := ⟨[], [], []⟩

def L_impl_Oram : Lay S_Oram := Lay.map (Lay.pair (Lay.sl (Lay.int .i64) 3) (Lay.pair (Lay.sl L_Block 102) (Lay.sl (Lay.sl L_Block 102) 28))) (fun x => (x.Pos, (x.Stash, x.Buckets)))

structure S_l00Src where
  code : List Int
  at_ : Int
  seed : Int
def z_l00Src : S_l00Src := ⟨[], 0, 0⟩

def L_spec_l00Src : Lay S_l00Src := Lay.map (Lay.pair (Lay.sl (Lay.int .u8) 5) (Lay.pair (Lay.int .i64) (Lay.int .i64))) (fun x => (x.code, (x.at_, x.seed)))
theorem ag3 : aggB Try.prog 3 = some false := by kernel_rfl
theorem ag4 : aggB Try.prog 4 = some false := by kernel_rfl
theorem ag5 : aggB Try.prog 5 = some false := by kernel_rfl
theorem ag22 : aggB Try.prog 22 = some false := by kernel_rfl
theorem ag28 : aggB Try.prog 28 = some false := by kernel_rfl
theorem ag29 : aggB Try.prog 29 = some false := by kernel_rfl
theorem ag31 : aggB Try.prog 31 = some true := by kernel_rfl
theorem ag38 : aggB Try.prog 38 = some false := by kernel_rfl
theorem ag89 : aggB Try.prog 89 = some false := by kernel_rfl
theorem ag102 : aggB Try.prog 102 = some true := by kernel_rfl
theorem ag104 : aggB Try.prog 104 = some false := by kernel_rfl
theorem bd31_1 (A0 : Option Addr) (n0 c0 : Nat) (A1 : Option Addr) (n1 c1 : Nat) (A2 : Option Addr) (n2 c2 : Nat) : Try.prog.built 31 [(0, .slice A0 n0 c0), (1, .slice A1 n1 c1), (2, .slice A2 n2 c2)] = some #[.slice A0 n0 c0, .slice A1 n1 c1, .slice A2 n2 c2] := by kernel_rfl
theorem bd31_5  : Try.prog.built 31 [] = some #[.slice none 0 0, .slice none 0 0, .slice none 0 0] := by kernel_rfl
theorem bd102_4 (x0 : Int) (x1 : Int) (x2 : Int) : Try.prog.built 102 [(0, .int .i64 x0), (1, .int .i64 x1), (2, .int .i64 x2)] = some #[.int .i64 x0, .int .i64 x1, .int .i64 x2] := by kernel_rfl
theorem bd102_6 (x0 : Int) : Try.prog.built 102 [(0, .int .i64 x0)] = some #[.int .i64 x0, .int .i64 0, .int .i64 0] := by kernel_rfl
theorem bd143_7 (A0 : Option Addr) (n0 c0 : Nat) (x1 : Int) : Try.prog.built 143 [(0, .slice A0 n0 c0), (2, .int .i64 x1)] = some #[.slice A0 n0 c0, .int .i64 0, .int .i64 x1] := by kernel_rfl
theorem bs3_0 (x0 : Int) : sliceB Try.prog 3 1 [(0, .int .i64 x0)] = some #[.int .i64 x0] := by kernel_rfl
theorem bs28_2 (A0 : Option Addr) (n0 c0 : Nat) : sliceB Try.prog 28 1 [(0, .slice A0 n0 c0)] = some #[.slice A0 n0 c0] := by kernel_rfl
theorem bs102_3 (x1 : Int) (x2 : Int) (x3 : Int) : sliceB Try.prog 102 1 [(0, .agg #[.int .i64 x1, .int .i64 x2, .int .i64 x3])] = some #[.int .i64 x1, .int .i64 x2, .int .i64 x3] := by kernel_rfl
theorem eg102 : Try.prog.eqGuardType Try.prog.depth 102 = false := by kernel_rfl
theorem en10 : Enters Try.prog 10 := run_callFunc_enter Try.func10 (by kernel_rfl) rfl
theorem en12 : Enters Try.prog 12 := run_callFunc_enter Try.func12 (by kernel_rfl) rfl
theorem en16 : Enters Try.prog 16 := run_callFunc_enter Try.func16 (by kernel_rfl) rfl
theorem en17 : Enters Try.prog 17 := run_callFunc_enter Try.func17 (by kernel_rfl) rfl
theorem en18 : Enters Try.prog 18 := run_callFunc_enter Try.func18 (by kernel_rfl) rfl
theorem en19 : Enters Try.prog 19 := run_callFunc_enter Try.func19 (by kernel_rfl) rfl
theorem en20 : Enters Try.prog 20 := run_callFunc_enter Try.func20 (by kernel_rfl) rfl
theorem en21 : Enters Try.prog 21 := run_callFunc_enter Try.func21 (by kernel_rfl) rfl
theorem en22 : Enters Try.prog 22 := run_callFunc_enter Try.func22 (by kernel_rfl) rfl
theorem en23 : Enters Try.prog 23 := run_callFunc_enter Try.func23 (by kernel_rfl) rfl
theorem en57 : Enters Try.prog 57 := run_callFunc_enter Try.func57 (by kernel_rfl) rfl
theorem en58 : Enters Try.prog 58 := run_callFunc_enter Try.func58 (by kernel_rfl) rfl
theorem en59 : Enters Try.prog 59 := run_callFunc_enter Try.func59 (by kernel_rfl) rfl
theorem en63 : Enters Try.prog 63 := run_callFunc_enter Try.func63 (by kernel_rfl) rfl
theorem en64 : Enters Try.prog 64 := run_callFunc_enter Try.func64 (by kernel_rfl) rfl
theorem en65 : Enters Try.prog 65 := run_callFunc_enter Try.func65 (by kernel_rfl) rfl
theorem en66 : Enters Try.prog 66 := run_callFunc_enter Try.func66 (by kernel_rfl) rfl
theorem en76 : Enters Try.prog 76 := run_callFunc_enter Try.func76 (by kernel_rfl) rfl
theorem en77 : Enters Try.prog 77 := run_callFunc_enter Try.func77 (by kernel_rfl) rfl
theorem en78 : Enters Try.prog 78 := run_callFunc_enter Try.func78 (by kernel_rfl) rfl
theorem en79 : Enters Try.prog 79 := run_callFunc_enter Try.func79 (by kernel_rfl) rfl
theorem en80 : Enters Try.prog 80 := run_callFunc_enter Try.func80 (by kernel_rfl) rfl
theorem en81 : Enters Try.prog 81 := run_callFunc_enter Try.func81 (by kernel_rfl) rfl
theorem en82 : Enters Try.prog 82 := run_callFunc_enter Try.func82 (by kernel_rfl) rfl
theorem en83 : Enters Try.prog 83 := run_callFunc_enter Try.func83 (by kernel_rfl) rfl
theorem en84 : Enters Try.prog 84 := run_callFunc_enter Try.func84 (by kernel_rfl) rfl
theorem en85 : Enters Try.prog 85 := run_callFunc_enter Try.func85 (by kernel_rfl) rfl
theorem en86 : Enters Try.prog 86 := run_callFunc_enter Try.func86 (by kernel_rfl) rfl
theorem en87 : Enters Try.prog 87 := run_callFunc_enter Try.func87 (by kernel_rfl) rfl
theorem en88 : Enters Try.prog 88 := run_callFunc_enter Try.func88 (by kernel_rfl) rfl
theorem en89 : Enters Try.prog 89 := run_callFunc_enter Try.func89 (by kernel_rfl) rfl
theorem en90 : Enters Try.prog 90 := run_callFunc_enter Try.func90 (by kernel_rfl) rfl
theorem en91 : Enters Try.prog 91 := run_callFunc_enter Try.func91 (by kernel_rfl) rfl
theorem en92 : Enters Try.prog 92 := run_callFunc_enter Try.func92 (by kernel_rfl) rfl
theorem en93 : Enters Try.prog 93 := run_callFunc_enter Try.func93 (by kernel_rfl) rfl
theorem en94 : Enters Try.prog 94 := run_callFunc_enter Try.func94 (by kernel_rfl) rfl
theorem en95 : Enters Try.prog 95 := run_callFunc_enter Try.func95 (by kernel_rfl) rfl
theorem en123 : Enters Try.prog 123 := run_callFunc_enter Try.func123 (by kernel_rfl) rfl
theorem en124 : Enters Try.prog 124 := run_callFunc_enter Try.func124 (by kernel_rfl) rfl
theorem en125 : Enters Try.prog 125 := run_callFunc_enter Try.func125 (by kernel_rfl) rfl
theorem en126 : Enters Try.prog 126 := run_callFunc_enter Try.func126 (by kernel_rfl) rfl
theorem en127 : Enters Try.prog 127 := run_callFunc_enter Try.func127 (by kernel_rfl) rfl
theorem en129 : Enters Try.prog 129 := run_callFunc_enter Try.func129 (by kernel_rfl) rfl
theorem en130 : Enters Try.prog 130 := run_callFunc_enter Try.func130 (by kernel_rfl) rfl
theorem en131 : Enters Try.prog 131 := run_callFunc_enter Try.func131 (by kernel_rfl) rfl
theorem en132 : Enters Try.prog 132 := run_callFunc_enter Try.func132 (by kernel_rfl) rfl
theorem en133 : Enters Try.prog 133 := run_callFunc_enter Try.func133 (by kernel_rfl) rfl
theorem en134 : Enters Try.prog 134 := run_callFunc_enter Try.func134 (by kernel_rfl) rfl
theorem en136 : Enters Try.prog 136 := run_callFunc_enter Try.func136 (by kernel_rfl) rfl
theorem en137 : Enters Try.prog 137 := run_callFunc_enter Try.func137 (by kernel_rfl) rfl
theorem en138 : Enters Try.prog 138 := run_callFunc_enter Try.func138 (by kernel_rfl) rfl
theorem en139 : Enters Try.prog 139 := run_callFunc_enter Try.func139 (by kernel_rfl) rfl
theorem en140 : Enters Try.prog 140 := run_callFunc_enter Try.func140 (by kernel_rfl) rfl
theorem en141 : Enters Try.prog 141 := run_callFunc_enter Try.func141 (by kernel_rfl) rfl
theorem en142 : Enters Try.prog 142 := run_callFunc_enter Try.func142 (by kernel_rfl) rfl
theorem en143 : Enters Try.prog 143 := run_callFunc_enter Try.func143 (by kernel_rfl) rfl
theorem en144 : Enters Try.prog 144 := run_callFunc_enter Try.func144 (by kernel_rfl) rfl
theorem en145 : Enters Try.prog 145 := run_callFunc_enter Try.func145 (by kernel_rfl) rfl
theorem en146 : Enters Try.prog 146 := run_callFunc_enter Try.func146 (by kernel_rfl) rfl
theorem en147 : Enters Try.prog 147 := run_callFunc_enter Try.func147 (by kernel_rfl) rfl
theorem en177 : Enters Try.prog 177 := run_callFunc_enter Try.func177 (by kernel_rfl) rfl
theorem en178 : Enters Try.prog 178 := run_callFunc_enter Try.func178 (by kernel_rfl) rfl
theorem en179 : Enters Try.prog 179 := run_callFunc_enter Try.func179 (by kernel_rfl) rfl
theorem en180 : Enters Try.prog 180 := run_callFunc_enter Try.func180 (by kernel_rfl) rfl
theorem en181 : Enters Try.prog 181 := run_callFunc_enter Try.func181 (by kernel_rfl) rfl
theorem en182 : Enters Try.prog 182 := run_callFunc_enter Try.func182 (by kernel_rfl) rfl
theorem en183 : Enters Try.prog 183 := run_callFunc_enter Try.func183 (by kernel_rfl) rfl
theorem fd31_0 : fldB Try.prog 31 0 = some 0 := by kernel_rfl
theorem fd31_1 : fldB Try.prog 31 1 = some 1 := by kernel_rfl
theorem fd31_2 : fldB Try.prog 31 2 = some 2 := by kernel_rfl
theorem fd102_0 : fldB Try.prog 102 0 = some 0 := by kernel_rfl
theorem fd102_1 : fldB Try.prog 102 1 = some 1 := by kernel_rfl
theorem fd102_2 : fldB Try.prog 102 2 = some 2 := by kernel_rfl
theorem fd143_0 : fldB Try.prog 143 0 = some 0 := by kernel_rfl
theorem fd143_1 : fldB Try.prog 143 1 = some 1 := by kernel_rfl
theorem fd143_2 : fldB Try.prog 143 2 = some 2 := by kernel_rfl
theorem lz28 : ((Lay.sl L_Block 102)).own [] [.slice none 0 0] [] := ⟨_, rfl, .inl ⟨rfl, rfl, rfl⟩⟩
theorem lz102 : (L_Block).own z_Block [.int .i64 0, .int .i64 0, .int .i64 0] [] := ⟨rfl, rfl⟩
theorem mk3 : mkB Try.prog 3 = some (.int .i64 0, 1) := by kernel_rfl
theorem mk28 : mkB Try.prog 28 = some (.slice none 0 0, 1) := by kernel_rfl
theorem mk102 : mkB Try.prog 102 = some (.agg #[.int .i64 0, .int .i64 0, .int .i64 0], 3) := by kernel_rfl
theorem mo : Try.prog.follows .mixedOrders = true := by kernel_rfl
theorem sh102 : Try.prog.stoodInHeld 102 = false := by kernel_rfl
theorem sz3 : szB Try.prog 3 = some 1 := by kernel_rfl
theorem sz4 : szB Try.prog 4 = some 1 := by kernel_rfl
theorem sz5 : szB Try.prog 5 = some 1 := by kernel_rfl
theorem sz28 : szB Try.prog 28 = some 1 := by kernel_rfl
theorem sz29 : szB Try.prog 29 = some 1 := by kernel_rfl
theorem sz31 : szB Try.prog 31 = some 3 := by kernel_rfl
theorem sz102 : szB Try.prog 102 = some 3 := by kernel_rfl
theorem sz104 : szB Try.prog 104 = some 1 := by kernel_rfl
theorem un3 : Try.prog.underlying 3 = some (.int .i64) := by kernel_rfl
theorem un5 : Try.prog.underlying 5 = some (.int .u8) := by kernel_rfl
theorem un22 : Try.prog.underlying 22 = some (.slice 3) := by kernel_rfl
theorem un28 : Try.prog.underlying 28 = some (.slice 102) := by kernel_rfl
theorem un29 : Try.prog.underlying 29 = some (.slice 28) := by kernel_rfl
theorem un38 : Try.prog.underlying 38 = some (.slice 5) := by kernel_rfl
theorem un105 : Try.prog.underlying 105 = some (.array 12 4) := by kernel_rfl
theorem ze3 : zeroB Try.prog 3 = some (.int .i64 0) := by kernel_rfl
theorem ze28 : zeroB Try.prog 28 = some (.slice none 0 0) := by kernel_rfl
theorem ze31 : zeroB Try.prog 31 = some (.agg #[.slice none 0 0, .slice none 0 0, .slice none 0 0]) := by kernel_rfl
theorem ze102 : zeroB Try.prog 102 = some (.agg #[.int .i64 0, .int .i64 0, .int .i64 0]) := by kernel_rfl
theorem ze104 : zeroB Try.prog 104 = some (.nilFunc) := by kernel_rfl
theorem ze105 : zeroB Try.prog 105 = some (.agg #[.bool false, .bool false, .bool false, .bool false, .bool false, .bool false, .bool false, .bool false, .bool false, .bool false, .bool false, .bool false]) := by kernel_rfl
end Go.Proofs.Ytjlhmcieholdiaa
