/- Types and facts. -/
import Derived.Test.YtmgfkpfacdlfbaaZ24
import Derived.Test.YtmgfkpfacdlfbaaRows
namespace Go.Proofs.Ytmgfkpfacdlfbaa
open Go Go.Z Go.Proofs Go.MuLone Go.ChangeShapes Go.WideShapes Go.ChangeAt Go.RowKit
set_option linter.unusedVariables false
set_option linter.unusedSimpArgs false
structure S_Block where
  Id : Int
  Leaf : Int
  Value : Int
def z_Block : S_Block := ⟨0, 0, 0⟩

def L_Block : Lay S_Block := Lay.flat 3 (fun x => [.int .i64 x.Id, .int .i64 x.Leaf, .int .i64 x.Value]) (fun _ => rfl) (fun x u hu => by
  simp only [List.mem_cons, List.not_mem_nil, or_false] at hu
  rcases hu with rfl | rfl | rfl <;> rfl)

structure S_Oram where
  Pos : List Int
  Stash : List S_Block
  Buckets : List (List S_Block)
def z_Oram : S_Oram := ⟨[], [], []⟩

def L_impl_Oram : Lay S_Oram := Lay.map (Lay.pair (Lay.sl (Lay.int .i64) 3) (Lay.pair (Lay.sl L_Block 81) (Lay.sl (Lay.sl L_Block 81) 26))) (fun x => (x.Pos, (x.Stash, x.Buckets)))

structure S_Enc where
  Keys : List Int
  Oram : S_Oram
def z_Enc : S_Enc := ⟨[], z_Oram⟩

def L_impl_Enc : Lay S_Enc := Lay.map (Lay.pair (Lay.sl (Lay.int .i64) 3) L_impl_Oram) (fun x => (x.Keys, x.Oram))

structure S_Result where
  Code : Int
  Values : List Int
def z_Result : S_Result := ⟨0, []⟩

def L_impl_Result : Lay S_Result := Lay.map (Lay.pair (Lay.int .i64) (Lay.sl (Lay.int .i64) 3)) (fun x => (x.Code, x.Values))

structure S_l12Reader where
  list : List Int
  at_ : Int
def z_l12Reader : S_l12Reader := ⟨[], 0⟩

def L_spec_l12Reader : Lay S_l12Reader := Lay.map (Lay.pair (Lay.sl (Lay.int .i64) 3) (Lay.int .i64)) (fun x => (x.list, x.at_))

structure S_reader where
  list : List Int
  at_ : Int
  bad : Bool
def z_reader : S_reader := ⟨[], 0, false⟩

def L_impl_reader : Lay S_reader := Lay.map (Lay.pair (Lay.sl (Lay.int .i64) 3) (Lay.pair (Lay.int .i64) Lay.bool)) (fun x => (x.list, (x.at_, x.bad)))
theorem ag3 : aggB Try.prog 3 = some false := by kernel_rfl
theorem ag4 : aggB Try.prog 4 = some false := by kernel_rfl
theorem ag9 : aggB Try.prog 9 = some false := by kernel_rfl
theorem ag26 : aggB Try.prog 26 = some false := by kernel_rfl
theorem ag31 : aggB Try.prog 31 = some false := by kernel_rfl
theorem ag49 : aggB Try.prog 49 = some false := by kernel_rfl
theorem ag51 : aggB Try.prog 51 = some true := by kernel_rfl
theorem ag53 : aggB Try.prog 53 = some true := by kernel_rfl
theorem ag65 : aggB Try.prog 65 = some false := by kernel_rfl
theorem ag81 : aggB Try.prog 81 = some true := by kernel_rfl
theorem ag85 : aggB Try.prog 85 = some false := by kernel_rfl
theorem ag105 : aggB Try.prog 105 = some true := by kernel_rfl
theorem ag113 : aggB Try.prog 113 = some false := by kernel_rfl
theorem ag141 : aggB Try.prog 141 = some false := by kernel_rfl
theorem bd51_3 (A0 : Option Addr) (n0 c0 : Nat) (A1 : Option Addr) (n1 c1 : Nat) (A2 : Option Addr) (n2 c2 : Nat) : Try.prog.built 51 [(0, .slice A0 n0 c0), (1, .slice A1 n1 c1), (2, .slice A2 n2 c2)] = some #[.slice A0 n0 c0, .slice A1 n1 c1, .slice A2 n2 c2] := by kernel_rfl
theorem bd53_4 (A1 : Option Addr) (n1 c1 : Nat) (A2 : Option Addr) (n2 c2 : Nat) (A3 : Option Addr) (n3 c3 : Nat) : Try.prog.built 53 [(1, .agg #[.slice A1 n1 c1, .slice A2 n2 c2, .slice A3 n3 c3])] = some #[.slice none 0 0, .slice A1 n1 c1, .slice A2 n2 c2, .slice A3 n3 c3] := by kernel_rfl
theorem bd53_10 (A0 : Option Addr) (n0 c0 : Nat) (A2 : Option Addr) (n2 c2 : Nat) (A3 : Option Addr) (n3 c3 : Nat) (A4 : Option Addr) (n4 c4 : Nat) : Try.prog.built 53 [(0, .slice A0 n0 c0), (1, .agg #[.slice A2 n2 c2, .slice A3 n3 c3, .slice A4 n4 c4])] = some #[.slice A0 n0 c0, .slice A2 n2 c2, .slice A3 n3 c3, .slice A4 n4 c4] := by kernel_rfl
theorem bd53_11  : Try.prog.built 53 [] = some #[.slice none 0 0, .slice none 0 0, .slice none 0 0, .slice none 0 0] := by kernel_rfl
theorem bd81_5 (x0 : Int) : Try.prog.built 81 [(0, .int .i64 x0)] = some #[.int .i64 x0, .int .i64 0, .int .i64 0] := by kernel_rfl
theorem bd81_14 (x0 : Int) (x1 : Int) (x2 : Int) : Try.prog.built 81 [(0, .int .i64 x0), (1, .int .i64 x1), (2, .int .i64 x2)] = some #[.int .i64 x0, .int .i64 x1, .int .i64 x2] := by kernel_rfl
theorem bd105_7 (x0 : Int) (A1 : Option Addr) (n1 c1 : Nat) : Try.prog.built 105 [(0, .int .i64 x0), (1, .slice A1 n1 c1)] = some #[.int .i64 x0, .slice A1 n1 c1] := by kernel_rfl
theorem bd181_1 (x0 : Int) : Try.prog.built 181 [(1, .int .i64 x0)] = some #[.slice none 0 0, .int .i64 x0] := by kernel_rfl
theorem bd181_2 (A0 : Option Addr) (n0 c0 : Nat) : Try.prog.built 181 [(0, .slice A0 n0 c0)] = some #[.slice A0 n0 c0, .int .i64 0] := by kernel_rfl
theorem bd183_12 (x0 : Bool) : Try.prog.built 183 [(2, .bool x0)] = some #[.slice none 0 0, .int .i64 0, .bool x0] := by kernel_rfl
theorem bd183_13 (A0 : Option Addr) (n0 c0 : Nat) : Try.prog.built 183 [(0, .slice A0 n0 c0)] = some #[.slice A0 n0 c0, .int .i64 0, .bool false] := by kernel_rfl
theorem bs3_0 (x0 : Int) : sliceB Try.prog 3 1 [(0, .int .i64 x0)] = some #[.int .i64 x0] := by kernel_rfl
theorem bs9_15 (x0 : ByteArray) : sliceB Try.prog 9 1 [(0, .string x0)] = some #[.string x0] := by kernel_rfl
theorem bs26_9 (A0 : Option Addr) (n0 c0 : Nat) : sliceB Try.prog 26 1 [(0, .slice A0 n0 c0)] = some #[.slice A0 n0 c0] := by kernel_rfl
theorem bs81_6 (x1 : Int) (x2 : Int) (x3 : Int) : sliceB Try.prog 81 1 [(0, .agg #[.int .i64 x1, .int .i64 x2, .int .i64 x3])] = some #[.int .i64 x1, .int .i64 x2, .int .i64 x3] := by kernel_rfl
theorem bs105_8 (x1 : Int) (A2 : Option Addr) (n2 c2 : Nat) : sliceB Try.prog 105 1 [(0, .agg #[.int .i64 x1, .slice A2 n2 c2])] = some #[.int .i64 x1, .slice A2 n2 c2] := by kernel_rfl
theorem en15 : Enters Try.prog 15 := run_callFunc_enter Try.func15 (by kernel_rfl) rfl
theorem en22 : Enters Try.prog 22 := run_callFunc_enter Try.func22 (by kernel_rfl) rfl
theorem en29 : Enters Try.prog 29 := run_callFunc_enter Try.func29 (by kernel_rfl) rfl
theorem en30 : Enters Try.prog 30 := run_callFunc_enter Try.func30 (by kernel_rfl) rfl
theorem en31 : Enters Try.prog 31 := run_callFunc_enter Try.func31 (by kernel_rfl) rfl
theorem en32 : Enters Try.prog 32 := run_callFunc_enter Try.func32 (by kernel_rfl) rfl
theorem en35 : Enters Try.prog 35 := run_callFunc_enter Try.func35 (by kernel_rfl) rfl
theorem en36 : Enters Try.prog 36 := run_callFunc_enter Try.func36 (by kernel_rfl) rfl
theorem en40 : Enters Try.prog 40 := run_callFunc_enter Try.func40 (by kernel_rfl) rfl
theorem en42 : Enters Try.prog 42 := run_callFunc_enter Try.func42 (by kernel_rfl) rfl
theorem en43 : Enters Try.prog 43 := run_callFunc_enter Try.func43 (by kernel_rfl) rfl
theorem en44 : Enters Try.prog 44 := run_callFunc_enter Try.func44 (by kernel_rfl) rfl
theorem en45 : Enters Try.prog 45 := run_callFunc_enter Try.func45 (by kernel_rfl) rfl
theorem en46 : Enters Try.prog 46 := run_callFunc_enter Try.func46 (by kernel_rfl) rfl
theorem en47 : Enters Try.prog 47 := run_callFunc_enter Try.func47 (by kernel_rfl) rfl
theorem en48 : Enters Try.prog 48 := run_callFunc_enter Try.func48 (by kernel_rfl) rfl
theorem en56 : Enters Try.prog 56 := run_callFunc_enter Try.func56 (by kernel_rfl) rfl
theorem en57 : Enters Try.prog 57 := run_callFunc_enter Try.func57 (by kernel_rfl) rfl
theorem en59 : Enters Try.prog 59 := run_callFunc_enter Try.func59 (by kernel_rfl) rfl
theorem en72 : Enters Try.prog 72 := run_callFunc_enter Try.func72 (by kernel_rfl) rfl
theorem en76 : Enters Try.prog 76 := run_callFunc_enter Try.func76 (by kernel_rfl) rfl
theorem en78 : Enters Try.prog 78 := run_callFunc_enter Try.func78 (by kernel_rfl) rfl
theorem en79 : Enters Try.prog 79 := run_callFunc_enter Try.func79 (by kernel_rfl) rfl
theorem en80 : Enters Try.prog 80 := run_callFunc_enter Try.func80 (by kernel_rfl) rfl
theorem en81 : Enters Try.prog 81 := run_callFunc_enter Try.func81 (by kernel_rfl) rfl
theorem en82 : Enters Try.prog 82 := run_callFunc_enter Try.func82 (by kernel_rfl) rfl
theorem en83 : Enters Try.prog 83 := run_callFunc_enter Try.func83 (by kernel_rfl) rfl
theorem en84 : Enters Try.prog 84 := run_callFunc_enter Try.func84 (by kernel_rfl) rfl
theorem en86 : Enters Try.prog 86 := run_callFunc_enter Try.func86 (by kernel_rfl) rfl
theorem en92 : Enters Try.prog 92 := run_callFunc_enter Try.func92 (by kernel_rfl) rfl
theorem en93 : Enters Try.prog 93 := run_callFunc_enter Try.func93 (by kernel_rfl) rfl
theorem en94 : Enters Try.prog 94 := run_callFunc_enter Try.func94 (by kernel_rfl) rfl
theorem en95 : Enters Try.prog 95 := run_callFunc_enter Try.func95 (by kernel_rfl) rfl
theorem en96 : Enters Try.prog 96 := run_callFunc_enter Try.func96 (by kernel_rfl) rfl
theorem en103 : Enters Try.prog 103 := run_callFunc_enter Try.func103 (by kernel_rfl) rfl
theorem en104 : Enters Try.prog 104 := run_callFunc_enter Try.func104 (by kernel_rfl) rfl
theorem en105 : Enters Try.prog 105 := run_callFunc_enter Try.func105 (by kernel_rfl) rfl
theorem en106 : Enters Try.prog 106 := run_callFunc_enter Try.func106 (by kernel_rfl) rfl
theorem en107 : Enters Try.prog 107 := run_callFunc_enter Try.func107 (by kernel_rfl) rfl
theorem en111 : Enters Try.prog 111 := run_callFunc_enter Try.func111 (by kernel_rfl) rfl
theorem en114 : Enters Try.prog 114 := run_callFunc_enter Try.func114 (by kernel_rfl) rfl
theorem en115 : Enters Try.prog 115 := run_callFunc_enter Try.func115 (by kernel_rfl) rfl
theorem en121 : Enters Try.prog 121 := run_callFunc_enter Try.func121 (by kernel_rfl) rfl
theorem en123 : Enters Try.prog 123 := run_callFunc_enter Try.func123 (by kernel_rfl) rfl
theorem en124 : Enters Try.prog 124 := run_callFunc_enter Try.func124 (by kernel_rfl) rfl
theorem en125 : Enters Try.prog 125 := run_callFunc_enter Try.func125 (by kernel_rfl) rfl
theorem en126 : Enters Try.prog 126 := run_callFunc_enter Try.func126 (by kernel_rfl) rfl
theorem en127 : Enters Try.prog 127 := run_callFunc_enter Try.func127 (by kernel_rfl) rfl
theorem en128 : Enters Try.prog 128 := run_callFunc_enter Try.func128 (by kernel_rfl) rfl
theorem en129 : Enters Try.prog 129 := run_callFunc_enter Try.func129 (by kernel_rfl) rfl
theorem en130 : Enters Try.prog 130 := run_callFunc_enter Try.func130 (by kernel_rfl) rfl
theorem en131 : Enters Try.prog 131 := run_callFunc_enter Try.func131 (by kernel_rfl) rfl
theorem en132 : Enters Try.prog 132 := run_callFunc_enter Try.func132 (by kernel_rfl) rfl
theorem en133 : Enters Try.prog 133 := run_callFunc_enter Try.func133 (by kernel_rfl) rfl
theorem en134 : Enters Try.prog 134 := run_callFunc_enter Try.func134 (by kernel_rfl) rfl
theorem en135 : Enters Try.prog 135 := run_callFunc_enter Try.func135 (by kernel_rfl) rfl
theorem en136 : Enters Try.prog 136 := run_callFunc_enter Try.func136 (by kernel_rfl) rfl
theorem en137 : Enters Try.prog 137 := run_callFunc_enter Try.func137 (by kernel_rfl) rfl
theorem en138 : Enters Try.prog 138 := run_callFunc_enter Try.func138 (by kernel_rfl) rfl
theorem en139 : Enters Try.prog 139 := run_callFunc_enter Try.func139 (by kernel_rfl) rfl
theorem en140 : Enters Try.prog 140 := run_callFunc_enter Try.func140 (by kernel_rfl) rfl
theorem en141 : Enters Try.prog 141 := run_callFunc_enter Try.func141 (by kernel_rfl) rfl
theorem en142 : Enters Try.prog 142 := run_callFunc_enter Try.func142 (by kernel_rfl) rfl
theorem en143 : Enters Try.prog 143 := run_callFunc_enter Try.func143 (by kernel_rfl) rfl
theorem en144 : Enters Try.prog 144 := run_callFunc_enter Try.func144 (by kernel_rfl) rfl
theorem en145 : Enters Try.prog 145 := run_callFunc_enter Try.func145 (by kernel_rfl) rfl
theorem en150 : Enters Try.prog 150 := run_callFunc_enter Try.func150 (by kernel_rfl) rfl
theorem en154 : Enters Try.prog 154 := run_callFunc_enter Try.func154 (by kernel_rfl) rfl
theorem en155 : Enters Try.prog 155 := run_callFunc_enter Try.func155 (by kernel_rfl) rfl
theorem en161 : Enters Try.prog 161 := run_callFunc_enter Try.func161 (by kernel_rfl) rfl
theorem en162 : Enters Try.prog 162 := run_callFunc_enter Try.func162 (by kernel_rfl) rfl
theorem en163 : Enters Try.prog 163 := run_callFunc_enter Try.func163 (by kernel_rfl) rfl
theorem en164 : Enters Try.prog 164 := run_callFunc_enter Try.func164 (by kernel_rfl) rfl
theorem en165 : Enters Try.prog 165 := run_callFunc_enter Try.func165 (by kernel_rfl) rfl
theorem en166 : Enters Try.prog 166 := run_callFunc_enter Try.func166 (by kernel_rfl) rfl
theorem en167 : Enters Try.prog 167 := run_callFunc_enter Try.func167 (by kernel_rfl) rfl
theorem en168 : Enters Try.prog 168 := run_callFunc_enter Try.func168 (by kernel_rfl) rfl
theorem en169 : Enters Try.prog 169 := run_callFunc_enter Try.func169 (by kernel_rfl) rfl
theorem en170 : Enters Try.prog 170 := run_callFunc_enter Try.func170 (by kernel_rfl) rfl
theorem en171 : Enters Try.prog 171 := run_callFunc_enter Try.func171 (by kernel_rfl) rfl
theorem en172 : Enters Try.prog 172 := run_callFunc_enter Try.func172 (by kernel_rfl) rfl
theorem en173 : Enters Try.prog 173 := run_callFunc_enter Try.func173 (by kernel_rfl) rfl
theorem en180 : Enters Try.prog 180 := run_callFunc_enter Try.func180 (by kernel_rfl) rfl
theorem en185 : Enters Try.prog 185 := run_callFunc_enter Try.func185 (by kernel_rfl) rfl
theorem en186 : Enters Try.prog 186 := run_callFunc_enter Try.func186 (by kernel_rfl) rfl
theorem en187 : Enters Try.prog 187 := run_callFunc_enter Try.func187 (by kernel_rfl) rfl
theorem en188 : Enters Try.prog 188 := run_callFunc_enter Try.func188 (by kernel_rfl) rfl
theorem en189 : Enters Try.prog 189 := run_callFunc_enter Try.func189 (by kernel_rfl) rfl
theorem en190 : Enters Try.prog 190 := run_callFunc_enter Try.func190 (by kernel_rfl) rfl
theorem en191 : Enters Try.prog 191 := run_callFunc_enter Try.func191 (by kernel_rfl) rfl
theorem fd51_0 : fldB Try.prog 51 0 = some 0 := by kernel_rfl
theorem fd51_1 : fldB Try.prog 51 1 = some 1 := by kernel_rfl
theorem fd51_2 : fldB Try.prog 51 2 = some 2 := by kernel_rfl
theorem fd53_0 : fldB Try.prog 53 0 = some 0 := by kernel_rfl
theorem fd53_1 : fldB Try.prog 53 1 = some 1 := by kernel_rfl
theorem fd81_0 : fldB Try.prog 81 0 = some 0 := by kernel_rfl
theorem fd81_1 : fldB Try.prog 81 1 = some 1 := by kernel_rfl
theorem fd81_2 : fldB Try.prog 81 2 = some 2 := by kernel_rfl
theorem fd105_0 : fldB Try.prog 105 0 = some 0 := by kernel_rfl
theorem fd105_1 : fldB Try.prog 105 1 = some 1 := by kernel_rfl
theorem fd181_0 : fldB Try.prog 181 0 = some 0 := by kernel_rfl
theorem fd181_1 : fldB Try.prog 181 1 = some 1 := by kernel_rfl
theorem fd183_0 : fldB Try.prog 183 0 = some 0 := by kernel_rfl
theorem fd183_1 : fldB Try.prog 183 1 = some 1 := by kernel_rfl
theorem fd183_2 : fldB Try.prog 183 2 = some 2 := by kernel_rfl
theorem lz26 : ((Lay.sl L_Block 81)).own [] [.slice none 0 0] [] := ⟨_, rfl, .inl ⟨rfl, rfl, rfl⟩⟩
theorem lz81 : (L_Block).own z_Block [.int .i64 0, .int .i64 0, .int .i64 0] [] := ⟨rfl, rfl⟩
theorem mk3 : mkB Try.prog 3 = some (.int .i64 0, 1) := by kernel_rfl
theorem mk26 : mkB Try.prog 26 = some (.slice none 0 0, 1) := by kernel_rfl
theorem mk81 : mkB Try.prog 81 = some (.agg #[.int .i64 0, .int .i64 0, .int .i64 0], 3) := by kernel_rfl
theorem mk105 : mkB Try.prog 105 = some (.agg #[.int .i64 0, .slice none 0 0], 2) := by kernel_rfl
theorem mo : Try.prog.follows .mixedOrders = true := by kernel_rfl
theorem sz3 : szB Try.prog 3 = some 1 := by kernel_rfl
theorem sz4 : szB Try.prog 4 = some 1 := by kernel_rfl
theorem sz9 : szB Try.prog 9 = some 1 := by kernel_rfl
theorem sz26 : szB Try.prog 26 = some 1 := by kernel_rfl
theorem sz31 : szB Try.prog 31 = some 1 := by kernel_rfl
theorem sz49 : szB Try.prog 49 = some 1 := by kernel_rfl
theorem sz51 : szB Try.prog 51 = some 3 := by kernel_rfl
theorem sz53 : szB Try.prog 53 = some 4 := by kernel_rfl
theorem sz81 : szB Try.prog 81 = some 3 := by kernel_rfl
theorem sz105 : szB Try.prog 105 = some 2 := by kernel_rfl
theorem un3 : Try.prog.underlying 3 = some (.int .i64) := by kernel_rfl
theorem un5 : Try.prog.underlying 5 = some (.int .u8) := by kernel_rfl
theorem un9 : Try.prog.underlying 9 = some (.string) := by kernel_rfl
theorem un26 : Try.prog.underlying 26 = some (.slice 81) := by kernel_rfl
theorem un31 : Try.prog.underlying 31 = some (.slice 3) := by kernel_rfl
theorem un49 : Try.prog.underlying 49 = some (.slice 26) := by kernel_rfl
theorem un55 : Try.prog.underlying 55 = some (.slice 105) := by kernel_rfl
theorem un112 : Try.prog.underlying 112 = some (.map 3 4) := by kernel_rfl
theorem un147 : Try.prog.underlying 147 = some (.array 12 4) := by kernel_rfl
theorem un154 : Try.prog.underlying 154 = some (.slice 9) := by kernel_rfl
theorem un201 : Try.prog.underlying 201 = some (.int .u32) := by kernel_rfl
theorem ze3 : zeroB Try.prog 3 = some (.int .i64 0) := by kernel_rfl
theorem ze4 : zeroB Try.prog 4 = some (.bool false) := by kernel_rfl
theorem ze51 : zeroB Try.prog 51 = some (.agg #[.slice none 0 0, .slice none 0 0, .slice none 0 0]) := by kernel_rfl
theorem ze53 : zeroB Try.prog 53 = some (.agg #[.slice none 0 0, .slice none 0 0, .slice none 0 0, .slice none 0 0]) := by kernel_rfl
theorem ze81 : zeroB Try.prog 81 = some (.agg #[.int .i64 0, .int .i64 0, .int .i64 0]) := by kernel_rfl
theorem ze105 : zeroB Try.prog 105 = some (.agg #[.int .i64 0, .slice none 0 0]) := by kernel_rfl
theorem ze147 : zeroB Try.prog 147 = some (.agg #[.bool false, .bool false, .bool false, .bool false, .bool false, .bool false, .bool false, .bool false, .bool false, .bool false, .bool false, .bool false]) := by kernel_rfl
end Go.Proofs.Ytmgfkpfacdlfbaa
