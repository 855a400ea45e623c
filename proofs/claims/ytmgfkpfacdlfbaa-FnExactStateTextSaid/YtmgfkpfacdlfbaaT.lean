/- Types and facts. -/
import Derived.Test.YtmgfkpfacdlfbaaZ23
import Derived.Test.YtmgfkpfacdlfbaaRows
namespace Go.Proofs.Ytmgfkpfacdlfbaa
open Go Go.Z Go.Proofs Go.MuLone Go.ChangeShapes Go.WideShapes Go.ChangeAt Go.RowKit
set_option linter.unusedVariables false
set_option linter.unusedSimpArgs false
structure S_Block where
  Id : Int
  Leaf : Int
  Value : Int
def z_Block : S_Block := ⟨0, 0, 0⟩

def L_Block : Lay S_Block := Lay.flat 3 (fun x => [.int .i64 x.Id, .int .i64 x.Leaf, .int .i64 x.Value]) (fun _ => rfl) (fun x u hu => by
  simp only [List.mem_cons, List.not_mem_nil, or_false] at hu
  rcases hu with rfl | rfl | rfl <;> rfl)

structure S_Oram where
  Pos : List Int
  Stash : List S_Block
  Buckets : List (List S_Block)
def z_Oram : S_Oram := ⟨[], [], []⟩

def L_laws_Oram : Lay S_Oram := Lay.map (Lay.pair (Lay.sl (Lay.int .i64) 3) (Lay.pair (Lay.sl L_Block 83) (Lay.sl (Lay.sl L_Block 83) 22))) (fun x => (x.Pos, (x.Stash, x.Buckets)))

structure S_Enc where
  Keys : List Int
  Oram : S_Oram
def z_Enc : S_Enc := ⟨[], z_Oram⟩

def L_laws_Enc : Lay S_Enc := Lay.map (Lay.pair (Lay.sl (Lay.int .i64) 3) L_laws_Oram) (fun x => (x.Keys, x.Oram))

structure S_Result where
  Code : Int
  Values : List Int
def z_Result : S_Result := ⟨0, []⟩

def L_laws_Result : Lay S_Result := Lay.map (Lay.pair (Lay.int .i64) (Lay.sl (Lay.int .i64) 3)) (fun x => (x.Code, x.Values))

def L_impl_Oram : Lay S_Oram := Lay.map (Lay.pair (Lay.sl (Lay.int .i64) 3) (Lay.pair (Lay.sl L_Block 81) (Lay.sl (Lay.sl L_Block 81) 26))) (fun x => (x.Pos, (x.Stash, x.Buckets)))

def L_impl_Enc : Lay S_Enc := Lay.map (Lay.pair (Lay.sl (Lay.int .i64) 3) L_impl_Oram) (fun x => (x.Keys, x.Oram))

def L_impl_Result : Lay S_Result := Lay.map (Lay.pair (Lay.int .i64) (Lay.sl (Lay.int .i64) 3)) (fun x => (x.Code, x.Values))
theorem ag3 : aggB Try.prog 3 = some false := by kernel_rfl
theorem ag4 : aggB Try.prog 4 = some false := by kernel_rfl
theorem ag22 : aggB Try.prog 22 = some false := by kernel_rfl
theorem ag26 : aggB Try.prog 26 = some false := by kernel_rfl
theorem ag31 : aggB Try.prog 31 = some false := by kernel_rfl
theorem ag40 : aggB Try.prog 40 = some false := by kernel_rfl
theorem ag42 : aggB Try.prog 42 = some true := by kernel_rfl
theorem ag44 : aggB Try.prog 44 = some true := by kernel_rfl
theorem ag49 : aggB Try.prog 49 = some false := by kernel_rfl
theorem ag51 : aggB Try.prog 51 = some true := by kernel_rfl
theorem ag53 : aggB Try.prog 53 = some true := by kernel_rfl
theorem ag81 : aggB Try.prog 81 = some true := by kernel_rfl
theorem ag83 : aggB Try.prog 83 = some true := by kernel_rfl
theorem ag85 : aggB Try.prog 85 = some false := by kernel_rfl
theorem ag101 : aggB Try.prog 101 = some true := by kernel_rfl
theorem ag105 : aggB Try.prog 105 = some true := by kernel_rfl
theorem ag113 : aggB Try.prog 113 = some false := by kernel_rfl
theorem ag141 : aggB Try.prog 141 = some false := by kernel_rfl
theorem bs3_0 (x0 : Int) : sliceB Try.prog 3 1 [(0, .int .i64 x0)] = some #[.int .i64 x0] := by kernel_rfl
theorem bs3_2 (x0 : Int) (x1 : Int) (x2 : Int) : sliceB Try.prog 3 3 [(0, .int .i64 x0), (1, .int .i64 x1), (2, .int .i64 x2)] = some #[.int .i64 x0, .int .i64 x1, .int .i64 x2] := by kernel_rfl
theorem bs3_3 (x0 : Int) (x1 : Int) : sliceB Try.prog 3 2 [(0, .int .i64 x0), (1, .int .i64 x1)] = some #[.int .i64 x0, .int .i64 x1] := by kernel_rfl
theorem bs5_1 (x0 : Int) (x1 : Int) (x2 : Int) (x3 : Int) : sliceB Try.prog 5 4 [(0, .int .u8 x0), (1, .int .u8 x1), (2, .int .u8 x2), (3, .int .u8 x3)] = some #[.int .u8 x0, .int .u8 x1, .int .u8 x2, .int .u8 x3] := by kernel_rfl
theorem bs5_4 (x0 : Int) : sliceB Try.prog 5 1 [(0, .int .u8 x0)] = some #[.int .u8 x0] := by kernel_rfl
theorem en11 : Enters Try.prog 11 := run_callFunc_enter Try.func11 (by kernel_rfl) rfl
theorem en13 : Enters Try.prog 13 := run_callFunc_enter Try.func13 (by kernel_rfl) rfl
theorem en15 : Enters Try.prog 15 := run_callFunc_enter Try.func15 (by kernel_rfl) rfl
theorem en19 : Enters Try.prog 19 := run_callFunc_enter Try.func19 (by kernel_rfl) rfl
theorem en22 : Enters Try.prog 22 := run_callFunc_enter Try.func22 (by kernel_rfl) rfl
theorem en23 : Enters Try.prog 23 := run_callFunc_enter Try.func23 (by kernel_rfl) rfl
theorem en24 : Enters Try.prog 24 := run_callFunc_enter Try.func24 (by kernel_rfl) rfl
theorem en25 : Enters Try.prog 25 := run_callFunc_enter Try.func25 (by kernel_rfl) rfl
theorem en26 : Enters Try.prog 26 := run_callFunc_enter Try.func26 (by kernel_rfl) rfl
theorem en27 : Enters Try.prog 27 := run_callFunc_enter Try.func27 (by kernel_rfl) rfl
theorem en28 : Enters Try.prog 28 := run_callFunc_enter Try.func28 (by kernel_rfl) rfl
theorem en29 : Enters Try.prog 29 := run_callFunc_enter Try.func29 (by kernel_rfl) rfl
theorem en30 : Enters Try.prog 30 := run_callFunc_enter Try.func30 (by kernel_rfl) rfl
theorem en31 : Enters Try.prog 31 := run_callFunc_enter Try.func31 (by kernel_rfl) rfl
theorem en32 : Enters Try.prog 32 := run_callFunc_enter Try.func32 (by kernel_rfl) rfl
theorem en55 : Enters Try.prog 55 := run_callFunc_enter Try.func55 (by kernel_rfl) rfl
theorem en56 : Enters Try.prog 56 := run_callFunc_enter Try.func56 (by kernel_rfl) rfl
theorem en57 : Enters Try.prog 57 := run_callFunc_enter Try.func57 (by kernel_rfl) rfl
theorem en59 : Enters Try.prog 59 := run_callFunc_enter Try.func59 (by kernel_rfl) rfl
theorem en69 : Enters Try.prog 69 := run_callFunc_enter Try.func69 (by kernel_rfl) rfl
theorem en70 : Enters Try.prog 70 := run_callFunc_enter Try.func70 (by kernel_rfl) rfl
theorem en71 : Enters Try.prog 71 := run_callFunc_enter Try.func71 (by kernel_rfl) rfl
theorem en72 : Enters Try.prog 72 := run_callFunc_enter Try.func72 (by kernel_rfl) rfl
theorem en73 : Enters Try.prog 73 := run_callFunc_enter Try.func73 (by kernel_rfl) rfl
theorem en74 : Enters Try.prog 74 := run_callFunc_enter Try.func74 (by kernel_rfl) rfl
theorem en75 : Enters Try.prog 75 := run_callFunc_enter Try.func75 (by kernel_rfl) rfl
theorem en76 : Enters Try.prog 76 := run_callFunc_enter Try.func76 (by kernel_rfl) rfl
theorem en77 : Enters Try.prog 77 := run_callFunc_enter Try.func77 (by kernel_rfl) rfl
theorem en78 : Enters Try.prog 78 := run_callFunc_enter Try.func78 (by kernel_rfl) rfl
theorem en79 : Enters Try.prog 79 := run_callFunc_enter Try.func79 (by kernel_rfl) rfl
theorem en80 : Enters Try.prog 80 := run_callFunc_enter Try.func80 (by kernel_rfl) rfl
theorem en81 : Enters Try.prog 81 := run_callFunc_enter Try.func81 (by kernel_rfl) rfl
theorem en82 : Enters Try.prog 82 := run_callFunc_enter Try.func82 (by kernel_rfl) rfl
theorem en83 : Enters Try.prog 83 := run_callFunc_enter Try.func83 (by kernel_rfl) rfl
theorem en84 : Enters Try.prog 84 := run_callFunc_enter Try.func84 (by kernel_rfl) rfl
theorem en102 : Enters Try.prog 102 := run_callFunc_enter Try.func102 (by kernel_rfl) rfl
theorem en103 : Enters Try.prog 103 := run_callFunc_enter Try.func103 (by kernel_rfl) rfl
theorem en104 : Enters Try.prog 104 := run_callFunc_enter Try.func104 (by kernel_rfl) rfl
theorem en105 : Enters Try.prog 105 := run_callFunc_enter Try.func105 (by kernel_rfl) rfl
theorem en106 : Enters Try.prog 106 := run_callFunc_enter Try.func106 (by kernel_rfl) rfl
theorem en107 : Enters Try.prog 107 := run_callFunc_enter Try.func107 (by kernel_rfl) rfl
theorem en108 : Enters Try.prog 108 := run_callFunc_enter Try.func108 (by kernel_rfl) rfl
theorem en109 : Enters Try.prog 109 := run_callFunc_enter Try.func109 (by kernel_rfl) rfl
theorem en111 : Enters Try.prog 111 := run_callFunc_enter Try.func111 (by kernel_rfl) rfl
theorem en114 : Enters Try.prog 114 := run_callFunc_enter Try.func114 (by kernel_rfl) rfl
theorem en115 : Enters Try.prog 115 := run_callFunc_enter Try.func115 (by kernel_rfl) rfl
theorem en118 : Enters Try.prog 118 := run_callFunc_enter Try.func118 (by kernel_rfl) rfl
theorem en120 : Enters Try.prog 120 := run_callFunc_enter Try.func120 (by kernel_rfl) rfl
theorem en121 : Enters Try.prog 121 := run_callFunc_enter Try.func121 (by kernel_rfl) rfl
theorem en122 : Enters Try.prog 122 := run_callFunc_enter Try.func122 (by kernel_rfl) rfl
theorem en123 : Enters Try.prog 123 := run_callFunc_enter Try.func123 (by kernel_rfl) rfl
theorem en124 : Enters Try.prog 124 := run_callFunc_enter Try.func124 (by kernel_rfl) rfl
theorem en125 : Enters Try.prog 125 := run_callFunc_enter Try.func125 (by kernel_rfl) rfl
theorem en126 : Enters Try.prog 126 := run_callFunc_enter Try.func126 (by kernel_rfl) rfl
theorem en127 : Enters Try.prog 127 := run_callFunc_enter Try.func127 (by kernel_rfl) rfl
theorem en128 : Enters Try.prog 128 := run_callFunc_enter Try.func128 (by kernel_rfl) rfl
theorem en129 : Enters Try.prog 129 := run_callFunc_enter Try.func129 (by kernel_rfl) rfl
theorem en130 : Enters Try.prog 130 := run_callFunc_enter Try.func130 (by kernel_rfl) rfl
theorem en149 : Enters Try.prog 149 := run_callFunc_enter Try.func149 (by kernel_rfl) rfl
theorem en150 : Enters Try.prog 150 := run_callFunc_enter Try.func150 (by kernel_rfl) rfl
theorem en151 : Enters Try.prog 151 := run_callFunc_enter Try.func151 (by kernel_rfl) rfl
theorem en154 : Enters Try.prog 154 := run_callFunc_enter Try.func154 (by kernel_rfl) rfl
theorem en155 : Enters Try.prog 155 := run_callFunc_enter Try.func155 (by kernel_rfl) rfl
theorem en161 : Enters Try.prog 161 := run_callFunc_enter Try.func161 (by kernel_rfl) rfl
theorem en162 : Enters Try.prog 162 := run_callFunc_enter Try.func162 (by kernel_rfl) rfl
theorem en163 : Enters Try.prog 163 := run_callFunc_enter Try.func163 (by kernel_rfl) rfl
theorem en164 : Enters Try.prog 164 := run_callFunc_enter Try.func164 (by kernel_rfl) rfl
theorem en165 : Enters Try.prog 165 := run_callFunc_enter Try.func165 (by kernel_rfl) rfl
theorem en166 : Enters Try.prog 166 := run_callFunc_enter Try.func166 (by kernel_rfl) rfl
theorem en167 : Enters Try.prog 167 := run_callFunc_enter Try.func167 (by kernel_rfl) rfl
theorem en168 : Enters Try.prog 168 := run_callFunc_enter Try.func168 (by kernel_rfl) rfl
theorem en176 : Enters Try.prog 176 := run_callFunc_enter Try.func176 (by kernel_rfl) rfl
theorem en177 : Enters Try.prog 177 := run_callFunc_enter Try.func177 (by kernel_rfl) rfl
theorem en178 : Enters Try.prog 178 := run_callFunc_enter Try.func178 (by kernel_rfl) rfl
theorem en179 : Enters Try.prog 179 := run_callFunc_enter Try.func179 (by kernel_rfl) rfl
theorem en180 : Enters Try.prog 180 := run_callFunc_enter Try.func180 (by kernel_rfl) rfl
theorem en185 : Enters Try.prog 185 := run_callFunc_enter Try.func185 (by kernel_rfl) rfl
theorem en186 : Enters Try.prog 186 := run_callFunc_enter Try.func186 (by kernel_rfl) rfl
theorem en187 : Enters Try.prog 187 := run_callFunc_enter Try.func187 (by kernel_rfl) rfl
theorem en188 : Enters Try.prog 188 := run_callFunc_enter Try.func188 (by kernel_rfl) rfl
theorem fd42_0 : fldB Try.prog 42 0 = some 0 := by kernel_rfl
theorem fd42_1 : fldB Try.prog 42 1 = some 1 := by kernel_rfl
theorem fd42_2 : fldB Try.prog 42 2 = some 2 := by kernel_rfl
theorem fd44_0 : fldB Try.prog 44 0 = some 0 := by kernel_rfl
theorem fd44_1 : fldB Try.prog 44 1 = some 1 := by kernel_rfl
theorem fd51_0 : fldB Try.prog 51 0 = some 0 := by kernel_rfl
theorem fd51_1 : fldB Try.prog 51 1 = some 1 := by kernel_rfl
theorem fd51_2 : fldB Try.prog 51 2 = some 2 := by kernel_rfl
theorem fd53_0 : fldB Try.prog 53 0 = some 0 := by kernel_rfl
theorem fd53_1 : fldB Try.prog 53 1 = some 1 := by kernel_rfl
theorem fd81_0 : fldB Try.prog 81 0 = some 0 := by kernel_rfl
theorem fd81_1 : fldB Try.prog 81 1 = some 1 := by kernel_rfl
theorem fd81_2 : fldB Try.prog 81 2 = some 2 := by kernel_rfl
theorem fd83_0 : fldB Try.prog 83 0 = some 0 := by kernel_rfl
theorem fd83_1 : fldB Try.prog 83 1 = some 1 := by kernel_rfl
theorem fd83_2 : fldB Try.prog 83 2 = some 2 := by kernel_rfl
theorem fd101_0 : fldB Try.prog 101 0 = some 0 := by kernel_rfl
theorem fd101_1 : fldB Try.prog 101 1 = some 1 := by kernel_rfl
theorem fd105_0 : fldB Try.prog 105 0 = some 0 := by kernel_rfl
theorem fd105_1 : fldB Try.prog 105 1 = some 1 := by kernel_rfl
theorem lz3 : ((Lay.int .i64)).own 0 [.int .i64 0] [] := ⟨rfl, rfl⟩
theorem lz26 : ((Lay.sl L_Block 81)).own [] [.slice none 0 0] [] := ⟨_, rfl, .inl ⟨rfl, rfl, rfl⟩⟩
theorem lz81 : (L_Block).own z_Block [.int .i64 0, .int .i64 0, .int .i64 0] [] := ⟨rfl, rfl⟩
theorem lz105 : (L_impl_Result).own z_Result [.int .i64 0, .slice none 0 0] [] := ⟨[.int .i64 0], [.slice none 0 0], [], [], rfl, rfl, ⟨rfl, rfl⟩, ⟨_, rfl, .inl ⟨rfl, rfl, rfl⟩⟩⟩
theorem mk3 : mkB Try.prog 3 = some (.int .i64 0, 1) := by kernel_rfl
theorem mk5 : mkB Try.prog 5 = some (.int .u8 0, 1) := by kernel_rfl
theorem mk26 : mkB Try.prog 26 = some (.slice none 0 0, 1) := by kernel_rfl
theorem mk81 : mkB Try.prog 81 = some (.agg #[.int .i64 0, .int .i64 0, .int .i64 0], 3) := by kernel_rfl
theorem mk105 : mkB Try.prog 105 = some (.agg #[.int .i64 0, .slice none 0 0], 2) := by kernel_rfl
theorem mo : Try.prog.follows .mixedOrders = true := by kernel_rfl
theorem sz3 : szB Try.prog 3 = some 1 := by kernel_rfl
theorem sz4 : szB Try.prog 4 = some 1 := by kernel_rfl
theorem sz5 : szB Try.prog 5 = some 1 := by kernel_rfl
theorem sz22 : szB Try.prog 22 = some 1 := by kernel_rfl
theorem sz26 : szB Try.prog 26 = some 1 := by kernel_rfl
theorem sz31 : szB Try.prog 31 = some 1 := by kernel_rfl
theorem sz42 : szB Try.prog 42 = some 3 := by kernel_rfl
theorem sz44 : szB Try.prog 44 = some 4 := by kernel_rfl
theorem sz49 : szB Try.prog 49 = some 1 := by kernel_rfl
theorem sz51 : szB Try.prog 51 = some 3 := by kernel_rfl
theorem sz53 : szB Try.prog 53 = some 4 := by kernel_rfl
theorem sz81 : szB Try.prog 81 = some 3 := by kernel_rfl
theorem sz83 : szB Try.prog 83 = some 3 := by kernel_rfl
theorem sz101 : szB Try.prog 101 = some 2 := by kernel_rfl
theorem sz105 : szB Try.prog 105 = some 2 := by kernel_rfl
theorem un3 : Try.prog.underlying 3 = some (.int .i64) := by kernel_rfl
theorem un5 : Try.prog.underlying 5 = some (.int .u8) := by kernel_rfl
theorem un9 : Try.prog.underlying 9 = some (.string) := by kernel_rfl
theorem un22 : Try.prog.underlying 22 = some (.slice 83) := by kernel_rfl
theorem un26 : Try.prog.underlying 26 = some (.slice 81) := by kernel_rfl
theorem un31 : Try.prog.underlying 31 = some (.slice 3) := by kernel_rfl
theorem un40 : Try.prog.underlying 40 = some (.slice 22) := by kernel_rfl
theorem un45 : Try.prog.underlying 45 = some (.slice 101) := by kernel_rfl
theorem un49 : Try.prog.underlying 49 = some (.slice 26) := by kernel_rfl
theorem un55 : Try.prog.underlying 55 = some (.slice 105) := by kernel_rfl
theorem un74 : Try.prog.underlying 74 = some (.slice 5) := by kernel_rfl
theorem un112 : Try.prog.underlying 112 = some (.map 3 4) := by kernel_rfl
theorem un147 : Try.prog.underlying 147 = some (.array 12 4) := by kernel_rfl
theorem ze3 : zeroB Try.prog 3 = some (.int .i64 0) := by kernel_rfl
theorem ze4 : zeroB Try.prog 4 = some (.bool false) := by kernel_rfl
theorem ze51 : zeroB Try.prog 51 = some (.agg #[.slice none 0 0, .slice none 0 0, .slice none 0 0]) := by kernel_rfl
theorem ze53 : zeroB Try.prog 53 = some (.agg #[.slice none 0 0, .slice none 0 0, .slice none 0 0, .slice none 0 0]) := by kernel_rfl
theorem ze81 : zeroB Try.prog 81 = some (.agg #[.int .i64 0, .int .i64 0, .int .i64 0]) := by kernel_rfl
theorem ze105 : zeroB Try.prog 105 = some (.agg #[.int .i64 0, .slice none 0 0]) := by kernel_rfl
theorem ze147 : zeroB Try.prog 147 = some (.agg #[.bool false, .bool false, .bool false, .bool false, .bool false, .bool false, .bool false, .bool false, .bool false, .bool false, .bool false, .bool false]) := by kernel_rfl
end Go.Proofs.Ytmgfkpfacdlfbaa
