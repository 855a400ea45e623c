/- Types and facts. -/
import Derived.Test.YtlbbkehdfgjneaaZ22
import Derived.Test.YtlbbkehdfgjneaaRows
namespace Go.Proofs.Ytlbbkehdfgjneaa
open Go Go.Z Go.Proofs Go.MuLone Go.ChangeShapes Go.WideShapes Go.ChangeAt Go.RowKit
set_option linter.unusedVariables false
set_option linter.unusedSimpArgs false
structure S_Block where
  Id : Int
  Leaf : Int
  Value : Int
def z_Block : S_Block := ⟨0, 0, 0⟩

def L_Block : Lay S_Block := Lay.flat 3 (fun x => [.int .i64 x.Id, .int .i64 x.Leaf, .int .i64 x.Value]) (fun _ => rfl) (fun x u hu => by
  simp only [List.mem_cons, List.not_mem_nil, or_false] at hu
  rcases hu with rfl | rfl | rfl <;> rfl)

structure S_Oram where
  Pos : List Int
  Stash : List S_Block
  Buckets : List (List S_Block)
def z_Oram : S_Oram := ⟨[], [], []⟩

def L_impl_Oram : Lay S_Oram := Lay.map (Lay.pair (Lay.sl (Lay.int .i64) 3) (Lay.pair (Lay.sl L_Block 146) (Lay.sl (Lay.sl L_Block 146) 85))) (fun x => (x.Pos, (x.Stash, x.Buckets)))

structure S_l00Src where
  code : List Int
  at_ : Int
  seed : Int
def z_l00Src : S_l00Src := ⟨[], 0, 0⟩

def L_spec_l00Src : Lay S_l00Src := Lay.map (Lay.pair (Lay.sl (Lay.int .u8) 5) (Lay.pair (Lay.int .i64) (Lay.int .i64))) (fun x => (x.code, (x.at_, x.seed)))
theorem ag3 : aggB Try.prog 3 = some false := by kernel_rfl
theorem ag4 : aggB Try.prog 4 = some false := by kernel_rfl
theorem ag5 : aggB Try.prog 5 = some false := by kernel_rfl
theorem ag27 : aggB Try.prog 27 = some false := by kernel_rfl
theorem ag55 : aggB Try.prog 55 = some false := by kernel_rfl
theorem ag85 : aggB Try.prog 85 = some false := by kernel_rfl
theorem ag86 : aggB Try.prog 86 = some false := by kernel_rfl
theorem ag88 : aggB Try.prog 88 = some true := by kernel_rfl
theorem ag117 : aggB Try.prog 117 = some false := by kernel_rfl
theorem ag146 : aggB Try.prog 146 = some true := by kernel_rfl
theorem ag147 : aggB Try.prog 147 = some false := by kernel_rfl
theorem bd88_1  : Try.prog.built 88 [] = some #[.slice none 0 0, .slice none 0 0, .slice none 0 0] := by kernel_rfl
theorem bd88_2 (A0 : Option Addr) (n0 c0 : Nat) (A1 : Option Addr) (n1 c1 : Nat) (A2 : Option Addr) (n2 c2 : Nat) : Try.prog.built 88 [(0, .slice A0 n0 c0), (1, .slice A1 n1 c1), (2, .slice A2 n2 c2)] = some #[.slice A0 n0 c0, .slice A1 n1 c1, .slice A2 n2 c2] := by kernel_rfl
theorem bd159_3 (A0 : Option Addr) (n0 c0 : Nat) (x1 : Int) : Try.prog.built 159 [(0, .slice A0 n0 c0), (2, .int .i64 x1)] = some #[.slice A0 n0 c0, .int .i64 0, .int .i64 x1] := by kernel_rfl
theorem bs3_0 (x0 : Int) : sliceB Try.prog 3 1 [(0, .int .i64 x0)] = some #[.int .i64 x0] := by kernel_rfl
theorem en32 : Enters Try.prog 32 := run_callFunc_enter Try.func32 (by kernel_rfl) rfl
theorem en51 : Enters Try.prog 51 := run_callFunc_enter Try.func51 (by kernel_rfl) rfl
theorem en52 : Enters Try.prog 52 := run_callFunc_enter Try.func52 (by kernel_rfl) rfl
theorem en53 : Enters Try.prog 53 := run_callFunc_enter Try.func53 (by kernel_rfl) rfl
theorem en54 : Enters Try.prog 54 := run_callFunc_enter Try.func54 (by kernel_rfl) rfl
theorem en55 : Enters Try.prog 55 := run_callFunc_enter Try.func55 (by kernel_rfl) rfl
theorem en56 : Enters Try.prog 56 := run_callFunc_enter Try.func56 (by kernel_rfl) rfl
theorem en79 : Enters Try.prog 79 := run_callFunc_enter Try.func79 (by kernel_rfl) rfl
theorem en83 : Enters Try.prog 83 := run_callFunc_enter Try.func83 (by kernel_rfl) rfl
theorem en102 : Enters Try.prog 102 := run_callFunc_enter Try.func102 (by kernel_rfl) rfl
theorem en109 : Enters Try.prog 109 := run_callFunc_enter Try.func109 (by kernel_rfl) rfl
theorem en110 : Enters Try.prog 110 := run_callFunc_enter Try.func110 (by kernel_rfl) rfl
theorem en111 : Enters Try.prog 111 := run_callFunc_enter Try.func111 (by kernel_rfl) rfl
theorem en112 : Enters Try.prog 112 := run_callFunc_enter Try.func112 (by kernel_rfl) rfl
theorem en113 : Enters Try.prog 113 := run_callFunc_enter Try.func113 (by kernel_rfl) rfl
theorem en114 : Enters Try.prog 114 := run_callFunc_enter Try.func114 (by kernel_rfl) rfl
theorem en115 : Enters Try.prog 115 := run_callFunc_enter Try.func115 (by kernel_rfl) rfl
theorem en116 : Enters Try.prog 116 := run_callFunc_enter Try.func116 (by kernel_rfl) rfl
theorem en117 : Enters Try.prog 117 := run_callFunc_enter Try.func117 (by kernel_rfl) rfl
theorem en118 : Enters Try.prog 118 := run_callFunc_enter Try.func118 (by kernel_rfl) rfl
theorem en119 : Enters Try.prog 119 := run_callFunc_enter Try.func119 (by kernel_rfl) rfl
theorem en120 : Enters Try.prog 120 := run_callFunc_enter Try.func120 (by kernel_rfl) rfl
theorem en134 : Enters Try.prog 134 := run_callFunc_enter Try.func134 (by kernel_rfl) rfl
theorem en147 : Enters Try.prog 147 := run_callFunc_enter Try.func147 (by kernel_rfl) rfl
theorem en153 : Enters Try.prog 153 := run_callFunc_enter Try.func153 (by kernel_rfl) rfl
theorem en154 : Enters Try.prog 154 := run_callFunc_enter Try.func154 (by kernel_rfl) rfl
theorem en155 : Enters Try.prog 155 := run_callFunc_enter Try.func155 (by kernel_rfl) rfl
theorem en156 : Enters Try.prog 156 := run_callFunc_enter Try.func156 (by kernel_rfl) rfl
theorem en157 : Enters Try.prog 157 := run_callFunc_enter Try.func157 (by kernel_rfl) rfl
theorem en158 : Enters Try.prog 158 := run_callFunc_enter Try.func158 (by kernel_rfl) rfl
theorem en170 : Enters Try.prog 170 := run_callFunc_enter Try.func170 (by kernel_rfl) rfl
theorem en172 : Enters Try.prog 172 := run_callFunc_enter Try.func172 (by kernel_rfl) rfl
theorem en173 : Enters Try.prog 173 := run_callFunc_enter Try.func173 (by kernel_rfl) rfl
theorem en176 : Enters Try.prog 176 := run_callFunc_enter Try.func176 (by kernel_rfl) rfl
theorem en177 : Enters Try.prog 177 := run_callFunc_enter Try.func177 (by kernel_rfl) rfl
theorem en178 : Enters Try.prog 178 := run_callFunc_enter Try.func178 (by kernel_rfl) rfl
theorem en179 : Enters Try.prog 179 := run_callFunc_enter Try.func179 (by kernel_rfl) rfl
theorem en180 : Enters Try.prog 180 := run_callFunc_enter Try.func180 (by kernel_rfl) rfl
theorem en181 : Enters Try.prog 181 := run_callFunc_enter Try.func181 (by kernel_rfl) rfl
theorem en185 : Enters Try.prog 185 := run_callFunc_enter Try.func185 (by kernel_rfl) rfl
theorem en186 : Enters Try.prog 186 := run_callFunc_enter Try.func186 (by kernel_rfl) rfl
theorem en187 : Enters Try.prog 187 := run_callFunc_enter Try.func187 (by kernel_rfl) rfl
theorem fd88_0 : fldB Try.prog 88 0 = some 0 := by kernel_rfl
theorem fd88_1 : fldB Try.prog 88 1 = some 1 := by kernel_rfl
theorem fd88_2 : fldB Try.prog 88 2 = some 2 := by kernel_rfl
theorem fd146_0 : fldB Try.prog 146 0 = some 0 := by kernel_rfl
theorem fd146_1 : fldB Try.prog 146 1 = some 1 := by kernel_rfl
theorem fd146_2 : fldB Try.prog 146 2 = some 2 := by kernel_rfl
theorem fd159_0 : fldB Try.prog 159 0 = some 0 := by kernel_rfl
theorem fd159_1 : fldB Try.prog 159 1 = some 1 := by kernel_rfl
theorem fd159_2 : fldB Try.prog 159 2 = some 2 := by kernel_rfl
theorem lz85 : ((Lay.sl L_Block 146)).own [] [.slice none 0 0] [] := ⟨_, rfl, .inl ⟨rfl, rfl, rfl⟩⟩
theorem lz146 : (L_Block).own z_Block [.int .i64 0, .int .i64 0, .int .i64 0] [] := ⟨rfl, rfl⟩
theorem mk3 : mkB Try.prog 3 = some (.int .i64 0, 1) := by kernel_rfl
theorem mk85 : mkB Try.prog 85 = some (.slice none 0 0, 1) := by kernel_rfl
theorem mk146 : mkB Try.prog 146 = some (.agg #[.int .i64 0, .int .i64 0, .int .i64 0], 3) := by kernel_rfl
theorem mo : Try.prog.follows .mixedOrders = true := by kernel_rfl
theorem sz3 : szB Try.prog 3 = some 1 := by kernel_rfl
theorem sz4 : szB Try.prog 4 = some 1 := by kernel_rfl
theorem sz5 : szB Try.prog 5 = some 1 := by kernel_rfl
theorem sz85 : szB Try.prog 85 = some 1 := by kernel_rfl
theorem sz88 : szB Try.prog 88 = some 3 := by kernel_rfl
theorem sz146 : szB Try.prog 146 = some 3 := by kernel_rfl
theorem sz147 : szB Try.prog 147 = some 1 := by kernel_rfl
theorem un3 : Try.prog.underlying 3 = some (.int .i64) := by kernel_rfl
theorem un4 : Try.prog.underlying 4 = some (.bool) := by kernel_rfl
theorem un5 : Try.prog.underlying 5 = some (.int .u8) := by kernel_rfl
theorem un27 : Try.prog.underlying 27 = some (.slice 3) := by kernel_rfl
theorem un55 : Try.prog.underlying 55 = some (.slice 5) := by kernel_rfl
theorem un85 : Try.prog.underlying 85 = some (.slice 146) := by kernel_rfl
theorem un86 : Try.prog.underlying 86 = some (.slice 85) := by kernel_rfl
theorem un189 : Try.prog.underlying 189 = some (.array 12 4) := by kernel_rfl
theorem ze3 : zeroB Try.prog 3 = some (.int .i64 0) := by kernel_rfl
theorem ze88 : zeroB Try.prog 88 = some (.agg #[.slice none 0 0, .slice none 0 0, .slice none 0 0]) := by kernel_rfl
theorem ze146 : zeroB Try.prog 146 = some (.agg #[.int .i64 0, .int .i64 0, .int .i64 0]) := by kernel_rfl
theorem ze147 : zeroB Try.prog 147 = some (.nilFunc) := by kernel_rfl
theorem ze189 : zeroB Try.prog 189 = some (.agg #[.bool false, .bool false, .bool false, .bool false, .bool false, .bool false, .bool false, .bool false, .bool false, .bool false, .bool false, .bool false]) := by kernel_rfl
end Go.Proofs.Ytlbbkehdfgjneaa
