/- Types and facts. -/
import Derived.Test.YtlbbkehdfgjneaaZ18
import Derived.Test.YtlbbkehdfgjneaaRows
namespace Go.Proofs.Ytlbbkehdfgjneaa
open Go Go.Z Go.Proofs Go.MuLone Go.ChangeShapes Go.WideShapes Go.ChangeAt Go.RowKit
set_option linter.unusedVariables false
set_option linter.unusedSimpArgs false
structure S_Block where
  Id : Int
  Leaf : Int
  Value : Int
def z_Block : S_Block := ⟨0, 0, 0⟩

def L_Block : Lay S_Block := Lay.flat 3 (fun x => [.int .i64 x.Id, .int .i64 x.Leaf, .int .i64 x.Value]) (fun _ => rfl) (fun x u hu => by
  simp only [List.mem_cons, List.not_mem_nil, or_false] at hu
  rcases hu with rfl | rfl | rfl <;> rfl)

structure S_Oram where
  Pos : List Int
  Stash : List S_Block
  Buckets : List (List S_Block)
def z_Oram : S_Oram := ⟨[], [], []⟩

def L_impl_Oram : Lay S_Oram := Lay.map (Lay.pair (Lay.sl (Lay.int .i64) 3) (Lay.pair (Lay.sl L_Block 146) (Lay.sl (Lay.sl L_Block 146) 85))) (fun x => (x.Pos, (x.Stash, x.Buckets)))

structure S_Enc where
  Keys : List Int
  Oram : S_Oram
def z_Enc : S_Enc := ⟨[], z_Oram⟩

def L_impl_Enc : Lay S_Enc := Lay.map (Lay.pair (Lay.sl (Lay.int .i64) 3) L_impl_Oram) (fun x => (x.Keys, x.Oram))
theorem ag3 : aggB Try.prog 3 = some false := by kernel_rfl
theorem ag27 : aggB Try.prog 27 = some false := by kernel_rfl
theorem ag85 : aggB Try.prog 85 = some false := by kernel_rfl
theorem ag86 : aggB Try.prog 86 = some false := by kernel_rfl
theorem ag88 : aggB Try.prog 88 = some true := by kernel_rfl
theorem ag95 : aggB Try.prog 95 = some true := by kernel_rfl
theorem ag117 : aggB Try.prog 117 = some false := by kernel_rfl
theorem ag146 : aggB Try.prog 146 = some true := by kernel_rfl
theorem bd88_0 (A0 : Option Addr) (n0 c0 : Nat) (A1 : Option Addr) (n1 c1 : Nat) (A2 : Option Addr) (n2 c2 : Nat) : Try.prog.built 88 [(0, .slice A0 n0 c0), (1, .slice A1 n1 c1), (2, .slice A2 n2 c2)] = some #[.slice A0 n0 c0, .slice A1 n1 c1, .slice A2 n2 c2] := by kernel_rfl
theorem bd88_1  : Try.prog.built 88 [] = some #[.slice none 0 0, .slice none 0 0, .slice none 0 0] := by kernel_rfl
theorem bd95_2  : Try.prog.built 95 [] = some #[.slice none 0 0, .slice none 0 0, .slice none 0 0, .slice none 0 0] := by kernel_rfl
theorem bd95_3 (A0 : Option Addr) (n0 c0 : Nat) (A2 : Option Addr) (n2 c2 : Nat) (A3 : Option Addr) (n3 c3 : Nat) (A4 : Option Addr) (n4 c4 : Nat) : Try.prog.built 95 [(0, .slice A0 n0 c0), (1, .agg #[.slice A2 n2 c2, .slice A3 n3 c3, .slice A4 n4 c4])] = some #[.slice A0 n0 c0, .slice A2 n2 c2, .slice A3 n3 c3, .slice A4 n4 c4] := by kernel_rfl
theorem en17 : Enters Try.prog 17 := run_callFunc_enter Try.func17 (by kernel_rfl) rfl
theorem en19 : Enters Try.prog 19 := run_callFunc_enter Try.func19 (by kernel_rfl) rfl
theorem en21 : Enters Try.prog 21 := run_callFunc_enter Try.func21 (by kernel_rfl) rfl
theorem en53 : Enters Try.prog 53 := run_callFunc_enter Try.func53 (by kernel_rfl) rfl
theorem en57 : Enters Try.prog 57 := run_callFunc_enter Try.func57 (by kernel_rfl) rfl
theorem en58 : Enters Try.prog 58 := run_callFunc_enter Try.func58 (by kernel_rfl) rfl
theorem en59 : Enters Try.prog 59 := run_callFunc_enter Try.func59 (by kernel_rfl) rfl
theorem en60 : Enters Try.prog 60 := run_callFunc_enter Try.func60 (by kernel_rfl) rfl
theorem en61 : Enters Try.prog 61 := run_callFunc_enter Try.func61 (by kernel_rfl) rfl
theorem en62 : Enters Try.prog 62 := run_callFunc_enter Try.func62 (by kernel_rfl) rfl
theorem en102 : Enters Try.prog 102 := run_callFunc_enter Try.func102 (by kernel_rfl) rfl
theorem en104 : Enters Try.prog 104 := run_callFunc_enter Try.func104 (by kernel_rfl) rfl
theorem en109 : Enters Try.prog 109 := run_callFunc_enter Try.func109 (by kernel_rfl) rfl
theorem en112 : Enters Try.prog 112 := run_callFunc_enter Try.func112 (by kernel_rfl) rfl
theorem en113 : Enters Try.prog 113 := run_callFunc_enter Try.func113 (by kernel_rfl) rfl
theorem en121 : Enters Try.prog 121 := run_callFunc_enter Try.func121 (by kernel_rfl) rfl
theorem en122 : Enters Try.prog 122 := run_callFunc_enter Try.func122 (by kernel_rfl) rfl
theorem en123 : Enters Try.prog 123 := run_callFunc_enter Try.func123 (by kernel_rfl) rfl
theorem en124 : Enters Try.prog 124 := run_callFunc_enter Try.func124 (by kernel_rfl) rfl
theorem en147 : Enters Try.prog 147 := run_callFunc_enter Try.func147 (by kernel_rfl) rfl
theorem en159 : Enters Try.prog 159 := run_callFunc_enter Try.func159 (by kernel_rfl) rfl
theorem en160 : Enters Try.prog 160 := run_callFunc_enter Try.func160 (by kernel_rfl) rfl
theorem en161 : Enters Try.prog 161 := run_callFunc_enter Try.func161 (by kernel_rfl) rfl
theorem en162 : Enters Try.prog 162 := run_callFunc_enter Try.func162 (by kernel_rfl) rfl
theorem en163 : Enters Try.prog 163 := run_callFunc_enter Try.func163 (by kernel_rfl) rfl
theorem en164 : Enters Try.prog 164 := run_callFunc_enter Try.func164 (by kernel_rfl) rfl
theorem en165 : Enters Try.prog 165 := run_callFunc_enter Try.func165 (by kernel_rfl) rfl
theorem en166 : Enters Try.prog 166 := run_callFunc_enter Try.func166 (by kernel_rfl) rfl
theorem en172 : Enters Try.prog 172 := run_callFunc_enter Try.func172 (by kernel_rfl) rfl
theorem en173 : Enters Try.prog 173 := run_callFunc_enter Try.func173 (by kernel_rfl) rfl
theorem en182 : Enters Try.prog 182 := run_callFunc_enter Try.func182 (by kernel_rfl) rfl
theorem en185 : Enters Try.prog 185 := run_callFunc_enter Try.func185 (by kernel_rfl) rfl
theorem fd88_0 : fldB Try.prog 88 0 = some 0 := by kernel_rfl
theorem fd88_1 : fldB Try.prog 88 1 = some 1 := by kernel_rfl
theorem fd88_2 : fldB Try.prog 88 2 = some 2 := by kernel_rfl
theorem fd95_0 : fldB Try.prog 95 0 = some 0 := by kernel_rfl
theorem fd95_1 : fldB Try.prog 95 1 = some 1 := by kernel_rfl
theorem fd146_0 : fldB Try.prog 146 0 = some 0 := by kernel_rfl
theorem fd146_1 : fldB Try.prog 146 1 = some 1 := by kernel_rfl
theorem fd146_2 : fldB Try.prog 146 2 = some 2 := by kernel_rfl
theorem lz3 : ((Lay.int .i64)).own 0 [.int .i64 0] [] := ⟨rfl, rfl⟩
theorem lz85 : ((Lay.sl L_Block 146)).own [] [.slice none 0 0] [] := ⟨_, rfl, .inl ⟨rfl, rfl, rfl⟩⟩
theorem mk3 : mkB Try.prog 3 = some (.int .i64 0, 1) := by kernel_rfl
theorem mk85 : mkB Try.prog 85 = some (.slice none 0 0, 1) := by kernel_rfl
theorem mo : Try.prog.follows .mixedOrders = true := by kernel_rfl
theorem sz3 : szB Try.prog 3 = some 1 := by kernel_rfl
theorem sz85 : szB Try.prog 85 = some 1 := by kernel_rfl
theorem sz88 : szB Try.prog 88 = some 3 := by kernel_rfl
theorem sz95 : szB Try.prog 95 = some 4 := by kernel_rfl
theorem sz146 : szB Try.prog 146 = some 3 := by kernel_rfl
theorem un27 : Try.prog.underlying 27 = some (.slice 3) := by kernel_rfl
theorem un85 : Try.prog.underlying 85 = some (.slice 146) := by kernel_rfl
theorem un86 : Try.prog.underlying 86 = some (.slice 85) := by kernel_rfl
theorem ze88 : zeroB Try.prog 88 = some (.agg #[.slice none 0 0, .slice none 0 0, .slice none 0 0]) := by kernel_rfl
theorem ze95 : zeroB Try.prog 95 = some (.agg #[.slice none 0 0, .slice none 0 0, .slice none 0 0, .slice none 0 0]) := by kernel_rfl
end Go.Proofs.Ytlbbkehdfgjneaa
