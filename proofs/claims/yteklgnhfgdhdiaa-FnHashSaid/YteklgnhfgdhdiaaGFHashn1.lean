/- Further functions. -/
import Derived.Test.YteklgnhfgdhdiaaGFHash
namespace Go.Proofs.Yteklgnhfgdhdiaa
open Go Go.Z Go.Proofs Go.MuLone Go.ChangeShapes Go.WideShapes Go.ChangeAt Go.RowKit
set_option linter.unusedVariables false
set_option linter.unusedSimpArgs false
noncomputable def spec_l01Table.f  : Option ((List Int)) :=
  (some ([1116352408, 1899447441, 3049323471, 3921009573, 961987163, 1508970993, 2453635748, 2870763221, 3624381080, 310598401, 607225278, 1426881987, 1925078388, 2162078206, 2614888103, 3248222580, 3835390401, 4022224774, 264347078, 604807628, 770255983, 1249150122, 1555081692, 1996064986, 2554220882, 2821834349, 2952996808, 3210313671, 3336571891, 3584528711, 113926993, 338241895, 666307205, 773529912, 1294757372, 1396182291, 1695183700, 1986661051, 2177026350, 2456956037, 2730485921, 2820302411, 3259730800, 3345764771, 3516065817, 3600352804, 4094571909, 275423344, 430227734, 506948616, 659060556, 883997877, 958139571, 1322822218, 1537002063, 1747873779, 1955562222, 2024104815, 2227730452, 2361852424, 2428436474, 2756734187, 3204031479, 3329325298] : List Int))
set_option maxRecDepth 100000 in
set_option maxHeartbeats 0 in
theorem spec_l01Table_t (w0 : World)  (r : (List Int)) (H : spec_l01Table.f  = some r) :
    Calls Try.prog 141 #[] w0 (Ret (fun v w => v = aggI .i64 r ∧ r.length = 64 ∧ Sat [] w0 w [] [])) := by
  have hs : Sat [] w0 w0 [] [] := Sat.init w0 [] [] (by simp) (by simp) List.nodup_nil (by simp [blks])
  unfold spec_l01Table.f at H
  refine enter Try.func141 rfl Try.ntmps141 rfl fun a hk => ?_
  apply wp_seq_k; intro K1 hK1
  apply wp_region_lit
  refine sala 1 ((Lay.int .i64)) (m := 64) (z := 0) (zc := [.int .i64 0]) hs rfl hk rfl rfl ze136 (by exact ⟨rfl, rfl⟩) rfl rfl rfl fun b2 k3 w a hk o4 hs => ?_
  have lh5 : (List.replicate 64 (0 : Int)).length = 64 := List.length_replicate
  show wpList _ _ _ [] _ _
  refine wpList_nil ?_
  refine hK1 _ _ ?_
  apply wp_seq_k; intro K6 hK6
  apply wp_region_lit
  refine sbd (pv := [(0, (.int .i64 1116352408)), (1, (.int .i64 1899447441)), (2, (.int .i64 3049323471)), (3, (.int .i64 3921009573)), (4, (.int .i64 961987163)), (5, (.int .i64 1508970993)), (6, (.int .i64 2453635748)), (7, (.int .i64 2870763221)), (8, (.int .i64 3624381080)), (9, (.int .i64 310598401)), (10, (.int .i64 607225278)), (11, (.int .i64 1426881987)), (12, (.int .i64 1925078388)), (13, (.int .i64 2162078206)), (14, (.int .i64 2614888103)), (15, (.int .i64 3248222580)), (16, (.int .i64 3835390401)), (17, (.int .i64 4022224774)), (18, (.int .i64 264347078)), (19, (.int .i64 604807628)), (20, (.int .i64 770255983)), (21, (.int .i64 1249150122)), (22, (.int .i64 1555081692)), (23, (.int .i64 1996064986)), (24, (.int .i64 2554220882)), (25, (.int .i64 2821834349)), (26, (.int .i64 2952996808)), (27, (.int .i64 3210313671)), (28, (.int .i64 3336571891)), (29, (.int .i64 3584528711)), (30, (.int .i64 113926993)), (31, (.int .i64 338241895)), (32, (.int .i64 666307205)), (33, (.int .i64 773529912)), (34, (.int .i64 1294757372)), (35, (.int .i64 1396182291)), (36, (.int .i64 1695183700)), (37, (.int .i64 1986661051)), (38, (.int .i64 2177026350)), (39, (.int .i64 2456956037)), (40, (.int .i64 2730485921)), (41, (.int .i64 2820302411)), (42, (.int .i64 3259730800)), (43, (.int .i64 3345764771)), (44, (.int .i64 3516065817)), (45, (.int .i64 3600352804)), (46, (.int .i64 4094571909)), (47, (.int .i64 275423344)), (48, (.int .i64 430227734)), (49, (.int .i64 506948616)), (50, (.int .i64 659060556)), (51, (.int .i64 883997877)), (52, (.int .i64 958139571)), (53, (.int .i64 1322822218)), (54, (.int .i64 1537002063)), (55, (.int .i64 1747873779)), (56, (.int .i64 1955562222)), (57, (.int .i64 2024104815)), (58, (.int .i64 2227730452)), (59, (.int .i64 2361852424)), (60, (.int .i64 2428436474)), (61, (.int .i64 2756734187)), (62, (.int .i64 3204031479)), (63, (.int .i64 3329325298))]) rfl hk rfl rfl rfl (bd136_9 1116352408 1899447441 3049323471 3921009573 961987163 1508970993 2453635748 2870763221 3624381080 310598401 607225278 1426881987 1925078388 2162078206 2614888103 3248222580 3835390401 4022224774 264347078 604807628 770255983 1249150122 1555081692 1996064986 2554220882 2821834349 2952996808 3210313671 3336571891 3584528711 113926993 338241895 666307205 773529912 1294757372 1396182291 1695183700 1986661051 2177026350 2456956037 2730485921 2820302411 3259730800 3345764771 3516065817 3600352804 4094571909 275423344 430227734 506948616 659060556 883997877 958139571 1322822218 1537002063 1747873779 1955562222 2024104815 2227730452 2361852424 2428436474 2756734187 3204031479 3329325298) fun a hk => ?_
  have lh7 : ([1116352408, 1899447441, 3049323471, 3921009573, 961987163, 1508970993, 2453635748, 2870763221, 3624381080, 310598401, 607225278, 1426881987, 1925078388, 2162078206, 2614888103, 3248222580, 3835390401, 4022224774, 264347078, 604807628, 770255983, 1249150122, 1555081692, 1996064986, 2554220882, 2821834349, 2952996808, 3210313671, 3336571891, 3584528711, 113926993, 338241895, 666307205, 773529912, 1294757372, 1396182291, 1695183700, 1986661051, 2177026350, 2456956037, 2730485921, 2820302411, 3259730800, 3345764771, 3516065817, 3600352804, 4094571909, 275423344, 430227734, 506948616, 659060556, 883997877, 958139571, 1322822218, 1537002063, 1747873779, 1955562222, 2024104815, 2227730452, 2361852424, 2428436474, 2756734187, 3204031479, 3329325298] : List Int).length = 64 := rfl
  refine sswa 1 ([1116352408, 1899447441, 3049323471, 3921009573, 961987163, 1508970993, 2453635748, 2870763221, 3624381080, 310598401, 607225278, 1426881987, 1925078388, 2162078206, 2614888103, 3248222580, 3835390401, 4022224774, 264347078, 604807628, 770255983, 1249150122, 1555081692, 1996064986, 2554220882, 2821834349, 2952996808, 3210313671, 3336571891, 3584528711, 113926993, 338241895, 666307205, 773529912, 1294757372, 1396182291, 1695183700, 1986661051, 2177026350, 2456956037, 2730485921, 2820302411, 3259730800, 3345764771, 3516065817, 3600352804, 4094571909, 275423344, 430227734, 506948616, 659060556, 883997877, 958139571, 1322822218, 1537002063, 1747873779, 1955562222, 2024104815, 2227730452, 2361852424, 2428436474, 2756734187, 3204031479, 3329325298] : List Int) hs rfl o4 lh5 lh7 rfl rfl hk rfl rfl rfl rfl sz136 fun k8 w a hk o9 hs => ?_
  show wpList _ _ _ [] _ _
  refine wpList_nil ?_
  refine hK6 _ _ ?_
  refine wp_ret ?_
  obtain rfl := Option.some.inj H
  exact fin hk _ [(aggI .i64 ([1116352408, 1899447441, 3049323471, 3921009573, 961987163, 1508970993, 2453635748, 2870763221, 3624381080, 310598401, 607225278, 1426881987, 1925078388, 2162078206, 2614888103, 3248222580, 3835390401, 4022224774, 264347078, 604807628, 770255983, 1249150122, 1555081692, 1996064986, 2554220882, 2821834349, 2952996808, 3210313671, 3336571891, 3584528711, 113926993, 338241895, 666307205, 773529912, 1294757372, 1396182291, 1695183700, 1986661051, 2177026350, 2456956037, 2730485921, 2820302411, 3259730800, 3345764771, 3516065817, 3600352804, 4094571909, 275423344, 430227734, 506948616, 659060556, 883997877, 958139571, 1322822218, 1537002063, 1747873779, 1955562222, 2024104815, 2227730452, 2361852424, 2428436474, 2756734187, 3204031479, 3329325298] : List Int))] rfl ⟨⟨_, rfl, run_loadA ag136 sz136 o9 lh7 hs (q := 1) rfl⟩, trivial⟩ ⟨rfl, lh7, (hs.pick [] rfl).dnil⟩

noncomputable def spec_l01Block.s0 (x1 : ByteArray) (u21 : List Int) (u25 : Int) : Option (((List Int) × Int) ⊕ Ex ((List Int)) ((List Int))) :=
  (bif (decide (u25 < 16)) then ((spec_l01Word.f x1 (w64 (4 * u25))).bind fun y42 => (if 0 ≤ u25 ∧ u25 < (64 : Int) then (some (.inl ((u21.set u25.toNat y42), (w64 (u25 + 1))))) else none)) else (some (.inr (.out u21))))
noncomputable def spec_l01Block.s1  (u55 : List Int) (u59 : Int) : Option (((List Int) × Int) ⊕ Ex ((List Int)) ((List Int))) :=
  (bif (decide (u59 < 64)) then (if 0 ≤ (w64 (u59 - 15)) ∧ (w64 (u59 - 15)) < (64 : Int) then ((spec_l01Right.f (u55.getD (w64 (u59 - 15)).toNat 0) 7).bind fun y82 => (if 0 ≤ (w64 (u59 - 15)) ∧ (w64 (u59 - 15)) < (64 : Int) then ((spec_l01Right.f (u55.getD (w64 (u59 - 15)).toNat 0) 18).bind fun y88 => (if 0 ≤ (w64 (u59 - 15)) ∧ (w64 (u59 - 15)) < (64 : Int) then (if 0 ≤ (w64 (u59 - 2)) ∧ (w64 (u59 - 2)) < (64 : Int) then ((spec_l01Right.f (u55.getD (w64 (u59 - 2)).toNat 0) 17).bind fun y100 => (if 0 ≤ (w64 (u59 - 2)) ∧ (w64 (u59 - 2)) < (64 : Int) then ((spec_l01Right.f (u55.getD (w64 (u59 - 2)).toNat 0) 19).bind fun y106 => (if 0 ≤ (w64 (u59 - 2)) ∧ (w64 (u59 - 2)) < (64 : Int) then (if 0 ≤ (w64 (u59 - 16)) ∧ (w64 (u59 - 16)) < (64 : Int) then (if 0 ≤ (w64 (u59 - 7)) ∧ (w64 (u59 - 7)) < (64 : Int) then (if 0 ≤ u59 ∧ u59 < (64 : Int) then (some (.inl ((u55.set u59.toNat (IntKind.wrap .i64 ((BitVec.ofInt 64 (w64 ((w64 ((w64 ((u55.getD (w64 (u59 - 16)).toNat 0) + (IntKind.wrap .i64 ((BitVec.ofInt 64 (IntKind.wrap .i64 ((BitVec.ofInt 64 y82 ^^^ BitVec.ofInt 64 y88).toNat : Int)) ^^^ BitVec.ofInt 64 (Int.fdiv (u55.getD (w64 (u59 - 15)).toNat 0) (2 ^ 3))).toNat : Int)))) + (u55.getD (w64 (u59 - 7)).toNat 0))) + (IntKind.wrap .i64 ((BitVec.ofInt 64 (IntKind.wrap .i64 ((BitVec.ofInt 64 y100 ^^^ BitVec.ofInt 64 y106).toNat : Int)) ^^^ BitVec.ofInt 64 (Int.fdiv (u55.getD (w64 (u59 - 2)).toNat 0) (2 ^ 10))).toNat : Int)))) &&& BitVec.ofInt 64 4294967295).toNat : Int))), (w64 (u59 + 1))))) else none) else none) else none) else none)) else none)) else none) else none)) else none)) else none) else (some (.inr (.out u55))))
noncomputable def spec_l01Block.s2 (u60 : List Int) (y129 : (List Int)) (u149 : List Int) (u153 : Int) : Option (((List Int) × Int) ⊕ Ex ((List Int)) ((List Int))) :=
  (bif (decide (u153 < 64)) then (if 0 ≤ (4 : Int) ∧ (4 : Int) < (8 : Int) then ((spec_l01Right.f (u149.getD (4 : Int).toNat 0) 6).bind fun y176 => (if 0 ≤ (4 : Int) ∧ (4 : Int) < (8 : Int) then ((spec_l01Right.f (u149.getD (4 : Int).toNat 0) 11).bind fun y182 => (if 0 ≤ (4 : Int) ∧ (4 : Int) < (8 : Int) then ((spec_l01Right.f (u149.getD (4 : Int).toNat 0) 25).bind fun y188 => (if 0 ≤ (4 : Int) ∧ (4 : Int) < (8 : Int) then (if 0 ≤ (5 : Int) ∧ (5 : Int) < (8 : Int) then (if 0 ≤ (4 : Int) ∧ (4 : Int) < (8 : Int) then (if 0 ≤ (6 : Int) ∧ (6 : Int) < (8 : Int) then (if 0 ≤ (7 : Int) ∧ (7 : Int) < (8 : Int) then (if 0 ≤ u153 ∧ u153 < (64 : Int) then (if 0 ≤ u153 ∧ u153 < (64 : Int) then (if 0 ≤ (0 : Int) ∧ (0 : Int) < (8 : Int) then ((spec_l01Right.f (u149.getD (0 : Int).toNat 0) 2).bind fun y227 => (if 0 ≤ (0 : Int) ∧ (0 : Int) < (8 : Int) then ((spec_l01Right.f (u149.getD (0 : Int).toNat 0) 13).bind fun y233 => (if 0 ≤ (0 : Int) ∧ (0 : Int) < (8 : Int) then ((spec_l01Right.f (u149.getD (0 : Int).toNat 0) 22).bind fun y239 => (if 0 ≤ (0 : Int) ∧ (0 : Int) < (8 : Int) then (if 0 ≤ (1 : Int) ∧ (1 : Int) < (8 : Int) then (if 0 ≤ (0 : Int) ∧ (0 : Int) < (8 : Int) then (if 0 ≤ (2 : Int) ∧ (2 : Int) < (8 : Int) then (if 0 ≤ (1 : Int) ∧ (1 : Int) < (8 : Int) then (if 0 ≤ (2 : Int) ∧ (2 : Int) < (8 : Int) then (if 0 ≤ (0 : Int) ∧ (0 : Int) < (8 : Int) then (if 0 ≤ (1 : Int) ∧ (1 : Int) < (8 : Int) then (if 0 ≤ (2 : Int) ∧ (2 : Int) < (8 : Int) then (if 0 ≤ (3 : Int) ∧ (3 : Int) < (8 : Int) then (if 0 ≤ (4 : Int) ∧ (4 : Int) < (8 : Int) then (if 0 ≤ (5 : Int) ∧ (5 : Int) < (8 : Int) then (if 0 ≤ (6 : Int) ∧ (6 : Int) < (8 : Int) then (some (.inl (([(IntKind.wrap .i64 ((BitVec.ofInt 64 (w64 ((w64 ((w64 ((w64 ((w64 ((w64 ((u149.getD (7 : Int).toNat 0) + (IntKind.wrap .i64 ((BitVec.ofInt 64 (IntKind.wrap .i64 ((BitVec.ofInt 64 y176 ^^^ BitVec.ofInt 64 y182).toNat : Int)) ^^^ BitVec.ofInt 64 y188).toNat : Int)))) + (IntKind.wrap .i64 ((BitVec.ofInt 64 (IntKind.wrap .i64 ((BitVec.ofInt 64 (u149.getD (4 : Int).toNat 0) &&& BitVec.ofInt 64 (u149.getD (5 : Int).toNat 0)).toNat : Int)) ^^^ BitVec.ofInt 64 (IntKind.wrap .i64 ((BitVec.ofInt 64 (IntKind.wrap .i64 ((BitVec.ofInt 64 4294967295 ^^^ BitVec.ofInt 64 (u149.getD (4 : Int).toNat 0)).toNat : Int)) &&& BitVec.ofInt 64 (u149.getD (6 : Int).toNat 0)).toNat : Int))).toNat : Int)))) + (y129.getD u153.toNat 0))) + (u60.getD u153.toNat 0))) + (IntKind.wrap .i64 ((BitVec.ofInt 64 (IntKind.wrap .i64 ((BitVec.ofInt 64 y227 ^^^ BitVec.ofInt 64 y233).toNat : Int)) ^^^ BitVec.ofInt 64 y239).toNat : Int)))) + (IntKind.wrap .i64 ((BitVec.ofInt 64 (IntKind.wrap .i64 ((BitVec.ofInt 64 (IntKind.wrap .i64 ((BitVec.ofInt 64 (u149.getD (0 : Int).toNat 0) &&& BitVec.ofInt 64 (u149.getD (1 : Int).toNat 0)).toNat : Int)) ^^^ BitVec.ofInt 64 (IntKind.wrap .i64 ((BitVec.ofInt 64 (u149.getD (0 : Int).toNat 0) &&& BitVec.ofInt 64 (u149.getD (2 : Int).toNat 0)).toNat : Int))).toNat : Int)) ^^^ BitVec.ofInt 64 (IntKind.wrap .i64 ((BitVec.ofInt 64 (u149.getD (1 : Int).toNat 0) &&& BitVec.ofInt 64 (u149.getD (2 : Int).toNat 0)).toNat : Int))).toNat : Int)))) &&& BitVec.ofInt 64 4294967295).toNat : Int)), (u149.getD (0 : Int).toNat 0), (u149.getD (1 : Int).toNat 0), (u149.getD (2 : Int).toNat 0), (IntKind.wrap .i64 ((BitVec.ofInt 64 (w64 ((u149.getD (3 : Int).toNat 0) + (w64 ((w64 ((w64 ((w64 ((u149.getD (7 : Int).toNat 0) + (IntKind.wrap .i64 ((BitVec.ofInt 64 (IntKind.wrap .i64 ((BitVec.ofInt 64 y176 ^^^ BitVec.ofInt 64 y182).toNat : Int)) ^^^ BitVec.ofInt 64 y188).toNat : Int)))) + (IntKind.wrap .i64 ((BitVec.ofInt 64 (IntKind.wrap .i64 ((BitVec.ofInt 64 (u149.getD (4 : Int).toNat 0) &&& BitVec.ofInt 64 (u149.getD (5 : Int).toNat 0)).toNat : Int)) ^^^ BitVec.ofInt 64 (IntKind.wrap .i64 ((BitVec.ofInt 64 (IntKind.wrap .i64 ((BitVec.ofInt 64 4294967295 ^^^ BitVec.ofInt 64 (u149.getD (4 : Int).toNat 0)).toNat : Int)) &&& BitVec.ofInt 64 (u149.getD (6 : Int).toNat 0)).toNat : Int))).toNat : Int)))) + (y129.getD u153.toNat 0))) + (u60.getD u153.toNat 0))))) &&& BitVec.ofInt 64 4294967295).toNat : Int)), (u149.getD (4 : Int).toNat 0), (u149.getD (5 : Int).toNat 0), (u149.getD (6 : Int).toNat 0)] : List Int), (w64 (u153 + 1))))) else none) else none) else none) else none) else none) else none) else none) else none) else none) else none) else none) else none) else none)) else none)) else none)) else none) else none) else none) else none) else none) else none) else none) else none)) else none)) else none)) else none) else (some (.inr (.out u149))))
noncomputable def spec_l01Block.s3 (u154 : List Int) (u302 : List Int) (u306 : Int) : Option (((List Int) × Int) ⊕ Ex ((List Int)) ((List Int))) :=
  (bif (decide (u306 < 8)) then (if 0 ≤ u306 ∧ u306 < (8 : Int) then (if 0 ≤ u306 ∧ u306 < (8 : Int) then (if 0 ≤ u306 ∧ u306 < (8 : Int) then (some (.inl ((u302.set u306.toNat (IntKind.wrap .i64 ((BitVec.ofInt 64 (w64 ((u302.getD u306.toNat 0) + (u154.getD u306.toNat 0))) &&& BitVec.ofInt 64 4294967295).toNat : Int))), (w64 (u306 + 1))))) else none) else none) else none) else (some (.inr (.out u302))))
noncomputable def spec_l01Block.f (x0 : List Int) (x1 : ByteArray) : Option ((List Int)) :=
  ((loopO (fun s => spec_l01Block.s0 x1 s.1 s.2) ((List.replicate 64 (0 : Int)), 0)).bind fun o => match o with | .out u26 => ((loopO (fun s => spec_l01Block.s1  s.1 s.2) (u26, 16)).bind fun o => match o with | .out u60 => ((spec_l01Table.f).bind fun y129 => ((loopO (fun s => spec_l01Block.s2 u60 y129 s.1 s.2) (x0, 0)).bind fun o => match o with | .out u154 => ((loopO (fun s => spec_l01Block.s3 u154 s.1 s.2) (x0, 0)).bind fun o => match o with | .out u307 => (some u307) | .ret r => (some r)) | .ret r => (some r))) | .ret r => (some r)) | .ret r => (some r))
set_option maxRecDepth 100000 in
set_option maxHeartbeats 0 in
theorem spec_l01Block_t (w0 : World) (x0 : List Int) (e0_ : x0.length = 8) (x1 : ByteArray) (r : (List Int)) (H : spec_l01Block.f x0 x1 = some r) :
    Calls Try.prog 122 #[aggI .i64 x0, .string x1] w0 (Ret (fun v w => v = aggI .i64 r ∧ r.length = 8 ∧ Sat [] w0 w [] [])) := by
  have hs : Sat [] w0 w0 [] [] := Sat.init w0 [] [] (by simp) (by simp) List.nodup_nil (by simp [blks])
  unfold spec_l01Block.f at H
  refine enter Try.func122 rfl Try.ntmps122 rfl fun a hk => ?_
  apply wp_seq_k; intro K1 hK1
  apply wp_region_lit
  refine sbxa 1 hs rfl hk rfl rfl rfl e0_ rfl fun b2 k3 w a hk o4 hs => ?_
  refine sala 2 ((Lay.int .i64)) (m := 8) (z := 0) (zc := [.int .i64 0]) hs rfl hk rfl rfl ze27 (by exact ⟨rfl, rfl⟩) rfl rfl rfl fun b5 k6 w a hk o7 hs => ?_
  have lh8 : (List.replicate 8 (0 : Int)).length = 8 := List.length_replicate
  show wpList _ _ _ [] _ _
  refine wpList_nil ?_
  refine hK1 _ _ ?_
  apply wp_seq_k; intro K9 hK9
  apply wp_region_lit
  refine sbd (pv := []) rfl hk rfl rfl rfl bd136_10 fun a hk => ?_
  have lh10 : (List.replicate 64 (0 : Int)).length = 64 := List.length_replicate
  refine sala 3 ((Lay.int .i64)) (m := 64) (z := 0) (zc := [.int .i64 0]) hs rfl hk rfl rfl ze136 (by exact ⟨rfl, rfl⟩) rfl rfl rfl fun b11 k12 w a hk o13 hs => ?_
  have lh14 : (List.replicate 64 (0 : Int)).length = 64 := List.length_replicate
  refine sswa 3 (List.replicate 64 (0 : Int)) hs rfl o13 lh14 lh10 rfl rfl hk rfl rfl rfl rfl sz136 fun k15 w a hk o16 hs => ?_
  show wpList _ _ _ [] _ _
  refine wpList_nil ?_
  refine hK9 _ _ ?_
  apply wp_seq_k; intro K17 hK17
  apply wp_seq_k; intro K18 hK18
  apply wp_region_lit
  refine sa _ rfl hk rfl rfl rfl fun a hk => ?_
  show wpList _ _ _ [] _ _
  refine wpList_nil ?_
  refine hK18 _ _ ?_
  obtain ⟨o30, h31, HL32⟩ := bind_some H
  clear H
  obtain ⟨R33, hR33⟩ : ∃ R : Act → World → Prop, R = fun a w => ∃ (u26 : List Int) (k27 : Chunk), o30 = .out u26 ∧ Kn [(2, (.pointer (some ⟨b2, 0, none⟩))), (4, (.pointer (some ⟨b5, 0, none⟩))), (5, (.pointer (some ⟨b11, 0, none⟩)))] 194 a ∧ Sat [] w0 w [] [(1, k3), (2, k6), (3, k27)] ∧ Own (Lay.int .i64) 136 (some ⟨b11, 0, none⟩) 64 u26 k27 ∧ u26.length = 64 := ⟨_, rfl⟩
  refine wp_cutq R33 ?_ ?_
  ·refine wp_block ?_
   obtain ⟨fu35, h31⟩ := loopO_some h31
   obtain ⟨I34, hI34⟩ : ∃ I : Nat → Act → World → Prop, I = fun fu a w => ∃ (u21 : List Int) (u25 : Int) (k22 : Chunk), loopN (fun s => spec_l01Block.s0 x1 s.1 s.2) fu (u21, u25) = some o30 ∧ Kn [(1, (.string x1)), (2, (.pointer (some ⟨b2, 0, none⟩))), (4, (.pointer (some ⟨b5, 0, none⟩))), (5, (.pointer (some ⟨b11, 0, none⟩))), (6, (.int .i64 u25))] 194 a ∧ Sat [] w0 w [] [(1, k3), (2, k6), (3, k22)] ∧ Own (Lay.int .i64) 136 (some ⟨b11, 0, none⟩) 64 u21 k22 ∧ u21.length = 64 := ⟨_, rfl⟩
   refine wp_loop_ghost I34 fu35 ?_ ?_
   ·rw [hI34]
    exact ⟨(List.replicate 64 (0 : Int)), 0, _, h31, (hk.c 1 rfl (hk.c 2 rfl (hk.c 4 rfl (hk.c 5 rfl (hk.c 6 rfl hk.k))))), (hs.pick [(1, 1), (2, 2), (3, 3)] rfl), o16, lh10⟩
   ·clear h31 hk hs
    intro fu35 a w hI0
    rw [hI34] at hI0
    obtain ⟨u21, u25, k22, hi, hk, hs, o23, lh24⟩ := hI0
    obtain ⟨x36, H, h37⟩ := loop_round hi
    try dsimp only at H
    unfold spec_l01Block.s0 at H
    apply wp_seq_k; intro K38 hK38
    apply wp_seq_k; intro K39 hK39
    apply wp_region_lit
    refine sm _ rfl hk rfl rfl rfl fun a hk => ?_
    refine sv (.bool (decide (u25 < 16))) hk rfl rfl rfl fun a hk => ?_
    show wpList _ _ _ [] _ _
    refine wpList_nil ?_
    refine hK39 _ _ ?_
    have hs := hs.pick [(1, 1), (2, 2), (3, 3)] rfl
    rcases cond_some H with ⟨c40, H⟩ | ⟨c40, H⟩
    ·have hk := hk.lit 21 c40 rfl
     refine cnd_true hk rfl rfl ?_
     refine wp_skip ?_
     refine hK38 _ _ ?_
     apply wp_seq_k; intro K41 hK41
     refine wp_block ?_
     apply wp_region_lit
     refine sm _ rfl hk rfl rfl rfl fun a hk => ?_
     refine sm _ rfl hk rfl rfl rfl fun a hk => ?_
     refine sm _ rfl hk rfl rfl rfl fun a hk => ?_
     refine sv (.int .i64 (w64 (4 * u25))) hk rfl rfl rfl fun a hk => ?_
     obtain ⟨y42, h43, H⟩ := bind_some H
     refine sc rfl en139 hk rfl rfl rfl (spec_l01Word_t _ x1 (w64 (4 * u25)) _ h43) ?_
     rintro _ w ⟨rfl, hG⟩ a hk
     have hs := hs.call0 hG
     rcases ite_some H with ⟨c44, H⟩ | ⟨_, H⟩
     rotate_left
     ·cases H
     obtain ⟨b45, q46, hAc44⟩ := (o23.view).some_ u25 c44.1 (by rw [lh24]; exact c44.2)
     refine sia rfl hk rfl rfl rfl rfl un136 sz3 c44.1 c44.2 hAc44 fun a hk => ?_
     refine so (j := 0) 3 0 y42 hs rfl o23 c44.1 (by rw [lh24]; exact c44.2) rfl hk rfl rfl rfl rfl rfl sz3 (by simp [Value.cells, Value.oneCell']) (Nat.le_of_ble_eq_true rfl) (fun _ _ h => ⟨by rw [h.1]; rfl, h.2⟩) fun k47 w a hk o48 hs => ?_
     have lh49 : (u21.set u25.toNat y42).length = 64 := by rw [List.length_set]; exact lh24
     show wpList _ _ _ [] _ _
     refine wpList_nil ?_
     refine hK41 _ _ ?_
     apply wp_region_lit
     refine sm _ rfl hk rfl rfl rfl fun a hk => ?_
     refine sv (.int .i64 (w64 (u25 + 1))) hk rfl rfl rfl fun a hk => ?_
     refine sa _ rfl hk rfl rfl rfl fun a hk => ?_
     show wpList _ _ _ [] _ _
     refine wpList_nil ?_
     obtain rfl := Option.some.inj H
     obtain ⟨m50, hmm50, h37⟩ := h37
     show ∃ n', n' < _ ∧ I34 n' _ _
     refine ⟨m50, hmm50, ?_⟩
     rw [hI34]
     exact ⟨(u21.set u25.toNat y42), (w64 (u25 + 1)), _, h37, (hk.c 1 rfl (hk.c 2 rfl (hk.c 4 rfl (hk.c 5 rfl (hk.c 6 rfl hk.k))))), (hs.pick [(1, 1), (2, 2), (3, 3)] rfl), o48, lh49⟩
    ·have hk := hk.lit 21 c40 rfl
     refine cnd_false hk rfl rfl ?_
     refine wp_exit ?_
     obtain rfl := Option.some.inj H
     show R33 _ _
     rw [hR33]
     exact ⟨u21, _, h37.symm, (hk.c 2 rfl (hk.c 4 rfl (hk.c 5 rfl hk.k))), (hs.pick [(1, 1), (2, 2), (3, 3)] rfl), o23, lh24⟩
  ·intro a w hR0
   rw [hR33] at hR0
   obtain ⟨u26, k27, rfl, hk, hs, o28, lh29⟩ := hR0
   have H := HL32
   try dsimp only at H
   refine hK17 _ _ ?_
   have hs := hs.pick [(1, 1), (2, 2), (3, 3)] rfl
   apply wp_seq_k; intro K51 hK51
   apply wp_seq_k; intro K52 hK52
   apply wp_region_lit
   refine sa _ rfl hk rfl rfl rfl fun a hk => ?_
   show wpList _ _ _ [] _ _
   refine wpList_nil ?_
   refine hK52 _ _ ?_
   obtain ⟨o64, h65, HL66⟩ := bind_some H
   clear H
   obtain ⟨R67, hR67⟩ : ∃ R : Act → World → Prop, R = fun a w => ∃ (u60 : List Int) (k61 : Chunk), o64 = .out u60 ∧ Kn [(2, (.pointer (some ⟨b2, 0, none⟩))), (4, (.pointer (some ⟨b5, 0, none⟩))), (5, (.pointer (some ⟨b11, 0, none⟩)))] 194 a ∧ Sat [] w0 w [] [(1, k3), (2, k6), (3, k61)] ∧ Own (Lay.int .i64) 136 (some ⟨b11, 0, none⟩) 64 u60 k61 ∧ u60.length = 64 := ⟨_, rfl⟩
   refine wp_cutq R67 ?_ ?_
   ·refine wp_block ?_
    obtain ⟨fu69, h65⟩ := loopO_some h65
    obtain ⟨I68, hI68⟩ : ∃ I : Nat → Act → World → Prop, I = fun fu a w => ∃ (u55 : List Int) (u59 : Int) (k56 : Chunk), loopN (fun s => spec_l01Block.s1  s.1 s.2) fu (u55, u59) = some o64 ∧ Kn [(2, (.pointer (some ⟨b2, 0, none⟩))), (4, (.pointer (some ⟨b5, 0, none⟩))), (5, (.pointer (some ⟨b11, 0, none⟩))), (7, (.int .i64 u59))] 194 a ∧ Sat [] w0 w [] [(1, k3), (2, k6), (3, k56)] ∧ Own (Lay.int .i64) 136 (some ⟨b11, 0, none⟩) 64 u55 k56 ∧ u55.length = 64 := ⟨_, rfl⟩
    refine wp_loop_ghost I68 fu69 ?_ ?_
    ·rw [hI68]
     exact ⟨u26, 16, _, h65, (hk.c 2 rfl (hk.c 4 rfl (hk.c 5 rfl (hk.c 7 rfl hk.k)))), (hs.pick [(1, 1), (2, 2), (3, 3)] rfl), o28, lh29⟩
    ·clear h65 hk hs
     intro fu69 a w hI0
     rw [hI68] at hI0
     obtain ⟨u55, u59, k56, hi, hk, hs, o57, lh58⟩ := hI0
     obtain ⟨x70, H, h71⟩ := loop_round hi
     try dsimp only at H
     unfold spec_l01Block.s1 at H
     apply wp_seq_k; intro K72 hK72
     apply wp_seq_k; intro K73 hK73
     apply wp_region_lit
     refine sm _ rfl hk rfl rfl rfl fun a hk => ?_
     refine sv (.bool (decide (u59 < 64))) hk rfl rfl rfl fun a hk => ?_
     show wpList _ _ _ [] _ _
     refine wpList_nil ?_
     refine hK73 _ _ ?_
     rcases cond_some H with ⟨c74, H⟩ | ⟨c74, H⟩
     ·have hk := hk.lit 31 c74 rfl
      refine cnd_true hk rfl rfl ?_
      refine wp_skip ?_
      refine hK72 _ _ ?_
      apply wp_seq_k; intro K75 hK75
      refine wp_block ?_
      apply wp_seq_k; intro K76 hK76
      refine wp_region_tree (.q 0 (.q 1 (.q 2 (.q 3 (.q 4 (.q 5 (.q 6 (.q 7 (.q 8 (.q 9 (.q 10 (.alt 11 (.alt 12 (.alt 13 (.alt 14 (.alt 15 (.alt 16 (.last 17) .stop) .stop) .stop) .stop) .stop) .stop)))))))))))) mo (by kernel_rfl) (hs.pick [(1, 1), (2, 2), (3, 3)] rfl) fun _ => ?_
      have hs := hs.drew
      refine tqst (.int .i64 u59) hk rfl rfl rfl rfl (fun w hs => sm _ rfl hk rfl rfl rfl fun a hk => qe hk) fun a hk => ?_
      refine tqst (.int .i64 (w64 (u59 - 15))) hk rfl rfl rfl rfl (fun w hs => sv (.int .i64 (w64 (u59 - 15))) hk rfl rfl rfl fun a hk => qe hk) fun a hk => ?_
      rcases ite_some H with ⟨c78, H⟩ | ⟨_, H⟩
      rotate_left
      ·cases H
      obtain ⟨b79, q80, hAc78⟩ := (o57.view).some_ (w64 (u59 - 15)) c78.1 (by rw [lh58]; exact c78.2)
      refine tqst (.pointer (some (padd (some ⟨b11, 0, none⟩) ((w64 (u59 - 15)).toNat * 1)))) hk rfl rfl rfl rfl (fun w hs => sia rfl hk rfl rfl rfl rfl un136 sz3 c78.1 c78.2 hAc78 fun a hk => qe hk) fun a hk => ?_
      obtain ⟨_, rfl, e81⟩ := (o57.view).at_ 0 (w64 (u59 - 15)) c78.1 (by rw [lh58]; exact c78.2)
      refine tqst (.int .i64 (u55.getD (w64 (u59 - 15)).toNat 0)) hk rfl rfl rfl rfl (fun w hs => sl (v := (.int .i64 (u55.getD (w64 (u59 - 15)).toNat 0))) rfl hk rfl rfl rfl ag3 ((e81 0 _ rfl).cell (hs.hasG (k := 3) rfl)) fun a hk => qe hk) fun a hk => ?_
      obtain ⟨y82, h83, H⟩ := bind_some H
      refine tqst (.int .i64 y82) hk rfl rfl rfl rfl (fun w hs => sc rfl en140 hk rfl rfl rfl (spec_l01Right_t _ (u55.getD (w64 (u59 - 15)).toNat 0) 7 _ h83) fun _ w hR a hk => qc hR hk) fun a hk => ?_
      refine tqst (.int .i64 u59) hk rfl rfl rfl rfl (fun w hs => sm _ rfl hk rfl rfl rfl fun a hk => qe hk) fun a hk => ?_
      refine tqst (.int .i64 (w64 (u59 - 15))) hk rfl rfl rfl rfl (fun w hs => sv (.int .i64 (w64 (u59 - 15))) hk rfl rfl rfl fun a hk => qe hk) fun a hk => ?_
      rcases ite_some H with ⟨c84, H⟩ | ⟨_, H⟩
      rotate_left
      ·cases H
      obtain ⟨b85, q86, hAc84⟩ := (o57.view).some_ (w64 (u59 - 15)) c84.1 (by rw [lh58]; exact c84.2)
      refine tqst (.pointer (some (padd (some ⟨b11, 0, none⟩) ((w64 (u59 - 15)).toNat * 1)))) hk rfl rfl rfl rfl (fun w hs => sia rfl hk rfl rfl rfl rfl un136 sz3 c84.1 c84.2 hAc84 fun a hk => qe hk) fun a hk => ?_
      obtain ⟨_, rfl, e87⟩ := (o57.view).at_ 0 (w64 (u59 - 15)) c84.1 (by rw [lh58]; exact c84.2)
      refine tqst (.int .i64 (u55.getD (w64 (u59 - 15)).toNat 0)) hk rfl rfl rfl rfl (fun w hs => sl (v := (.int .i64 (u55.getD (w64 (u59 - 15)).toNat 0))) rfl hk rfl rfl rfl ag3 ((e87 0 _ rfl).cell (hs.hasG (k := 3) rfl)) fun a hk => qe hk) fun a hk => ?_
      obtain ⟨y88, h89, H⟩ := bind_some H
      refine tqst (.int .i64 y88) hk rfl rfl rfl rfl (fun w hs => sc rfl en140 hk rfl rfl rfl (spec_l01Right_t _ (u55.getD (w64 (u59 - 15)).toNat 0) 18 _ h89) fun _ w hR a hk => qc hR hk) fun a hk => ?_
      refine tqst (.int .i64 (IntKind.wrap .i64 ((BitVec.ofInt 64 y82 ^^^ BitVec.ofInt 64 y88).toNat : Int))) hk rfl rfl rfl rfl (fun w hs => sv (.int .i64 (IntKind.wrap .i64 ((BitVec.ofInt 64 y82 ^^^ BitVec.ofInt 64 y88).toNat : Int))) hk rfl rfl rfl fun a hk => qe hk) fun a hk => ?_
      refine tsst hk rfl rfl (fun K_r77_11 hK_r77_11 w hF => ?_) wt_stop
      have hs := hs.f hF
      refine sm _ rfl hk rfl rfl rfl fun a hk => ?_
      refine se (hs.pick [(1, 1), (2, 2), (3, 3)] rfl) hk (hK_r77_11 _ _ ?_)
      refine tsst hk rfl rfl (fun K_r77_12 hK_r77_12 w hF => ?_) wt_stop
      have hs := hs.f hF
      refine sv (.int .i64 (w64 (u59 - 15))) hk rfl rfl rfl fun a hk => ?_
      refine se (hs.pick [(1, 1), (2, 2), (3, 3)] rfl) hk (hK_r77_12 _ _ ?_)
      refine tsst hk rfl rfl (fun K_r77_13 hK_r77_13 w hF => ?_) wt_stop
      have hs := hs.f hF
      rcases ite_some H with ⟨c90, H⟩ | ⟨_, H⟩
      rotate_left
      ·cases H
      obtain ⟨b91, q92, hAc90⟩ := (o57.view).some_ (w64 (u59 - 15)) c90.1 (by rw [lh58]; exact c90.2)
      refine sia rfl hk rfl rfl rfl rfl un136 sz3 c90.1 c90.2 hAc90 fun a hk => ?_
      refine se (hs.pick [(1, 1), (2, 2), (3, 3)] rfl) hk (hK_r77_13 _ _ ?_)
      refine tsst hk rfl rfl (fun K_r77_14 hK_r77_14 w hF => ?_) wt_stop
      have hs := hs.f hF
      obtain ⟨_, rfl, e93⟩ := (o57.view).at_ 0 (w64 (u59 - 15)) c90.1 (by rw [lh58]; exact c90.2)
      refine sl (v := (.int .i64 (u55.getD (w64 (u59 - 15)).toNat 0))) rfl hk rfl rfl rfl ag3 ((e93 0 _ rfl).cell (hs.hasG (k := 3) rfl)) fun a hk => ?_
      refine se (hs.pick [(1, 1), (2, 2), (3, 3)] rfl) hk (hK_r77_14 _ _ ?_)
      refine tsst hk rfl rfl (fun K_r77_15 hK_r77_15 w hF => ?_) wt_stop
      have hs := hs.f hF
      refine sv (.int .i64 (Int.fdiv (u55.getD (w64 (u59 - 15)).toNat 0) (2 ^ 3))) hk rfl rfl rfl fun a hk => ?_
      refine se (hs.pick [(1, 1), (2, 2), (3, 3)] rfl) hk (hK_r77_15 _ _ ?_)
      refine tsst hk rfl rfl (fun K_r77_16 hK_r77_16 w hF => ?_) wt_stop
      have hs := hs.f hF
      refine sv (.int .i64 (IntKind.wrap .i64 ((BitVec.ofInt 64 (IntKind.wrap .i64 ((BitVec.ofInt 64 y82 ^^^ BitVec.ofInt 64 y88).toNat : Int)) ^^^ BitVec.ofInt 64 (Int.fdiv (u55.getD (w64 (u59 - 15)).toNat 0) (2 ^ 3))).toNat : Int))) hk rfl rfl rfl fun a hk => ?_
      refine se (hs.pick [(1, 1), (2, 2), (3, 3)] rfl) hk (hK_r77_16 _ _ ?_)
      refine tlst hk rfl rfl fun K_r77_17 hK_r77_17 w hF => ?_
      have hs := hs.f hF
      refine sa _ rfl hk rfl rfl rfl fun a hk => ?_
      refine se trivial hk (hK_r77_17 _ _ fun w hF => ?_)
      have hs := hs.f hF
      refine hK76 _ _ ?_
      have hs := hs.pick [(1, 1), (2, 2), (3, 3)] rfl
      apply wp_seq_k; intro K94 hK94
      refine wp_region_tree (.q 0 (.q 1 (.q 2 (.q 3 (.q 4 (.q 5 (.q 6 (.q 7 (.q 8 (.q 9 (.q 10 (.alt 11 (.alt 12 (.alt 13 (.alt 14 (.alt 15 (.alt 16 (.last 17) .stop) .stop) .stop) .stop) .stop) .stop)))))))))))) mo (by kernel_rfl) (hs.pick [(1, 1), (2, 2), (3, 3)] rfl) fun _ => ?_
      have hs := hs.drew
      refine tqst (.int .i64 u59) hk rfl rfl rfl rfl (fun w hs => sm _ rfl hk rfl rfl rfl fun a hk => qe hk) fun a hk => ?_
      refine tqst (.int .i64 (w64 (u59 - 2))) hk rfl rfl rfl rfl (fun w hs => sv (.int .i64 (w64 (u59 - 2))) hk rfl rfl rfl fun a hk => qe hk) fun a hk => ?_
      rcases ite_some H with ⟨c96, H⟩ | ⟨_, H⟩
      rotate_left
      ·cases H
      obtain ⟨b97, q98, hAc96⟩ := (o57.view).some_ (w64 (u59 - 2)) c96.1 (by rw [lh58]; exact c96.2)
      refine tqst (.pointer (some (padd (some ⟨b11, 0, none⟩) ((w64 (u59 - 2)).toNat * 1)))) hk rfl rfl rfl rfl (fun w hs => sia rfl hk rfl rfl rfl rfl un136 sz3 c96.1 c96.2 hAc96 fun a hk => qe hk) fun a hk => ?_
      obtain ⟨_, rfl, e99⟩ := (o57.view).at_ 0 (w64 (u59 - 2)) c96.1 (by rw [lh58]; exact c96.2)
      refine tqst (.int .i64 (u55.getD (w64 (u59 - 2)).toNat 0)) hk rfl rfl rfl rfl (fun w hs => sl (v := (.int .i64 (u55.getD (w64 (u59 - 2)).toNat 0))) rfl hk rfl rfl rfl ag3 ((e99 0 _ rfl).cell (hs.hasG (k := 3) rfl)) fun a hk => qe hk) fun a hk => ?_
      obtain ⟨y100, h101, H⟩ := bind_some H
      refine tqst (.int .i64 y100) hk rfl rfl rfl rfl (fun w hs => sc rfl en140 hk rfl rfl rfl (spec_l01Right_t _ (u55.getD (w64 (u59 - 2)).toNat 0) 17 _ h101) fun _ w hR a hk => qc hR hk) fun a hk => ?_
      refine tqst (.int .i64 u59) hk rfl rfl rfl rfl (fun w hs => sm _ rfl hk rfl rfl rfl fun a hk => qe hk) fun a hk => ?_
      refine tqst (.int .i64 (w64 (u59 - 2))) hk rfl rfl rfl rfl (fun w hs => sv (.int .i64 (w64 (u59 - 2))) hk rfl rfl rfl fun a hk => qe hk) fun a hk => ?_
      rcases ite_some H with ⟨c102, H⟩ | ⟨_, H⟩
      rotate_left
      ·cases H
      obtain ⟨b103, q104, hAc102⟩ := (o57.view).some_ (w64 (u59 - 2)) c102.1 (by rw [lh58]; exact c102.2)
      refine tqst (.pointer (some (padd (some ⟨b11, 0, none⟩) ((w64 (u59 - 2)).toNat * 1)))) hk rfl rfl rfl rfl (fun w hs => sia rfl hk rfl rfl rfl rfl un136 sz3 c102.1 c102.2 hAc102 fun a hk => qe hk) fun a hk => ?_
      obtain ⟨_, rfl, e105⟩ := (o57.view).at_ 0 (w64 (u59 - 2)) c102.1 (by rw [lh58]; exact c102.2)
      refine tqst (.int .i64 (u55.getD (w64 (u59 - 2)).toNat 0)) hk rfl rfl rfl rfl (fun w hs => sl (v := (.int .i64 (u55.getD (w64 (u59 - 2)).toNat 0))) rfl hk rfl rfl rfl ag3 ((e105 0 _ rfl).cell (hs.hasG (k := 3) rfl)) fun a hk => qe hk) fun a hk => ?_
      obtain ⟨y106, h107, H⟩ := bind_some H
      refine tqst (.int .i64 y106) hk rfl rfl rfl rfl (fun w hs => sc rfl en140 hk rfl rfl rfl (spec_l01Right_t _ (u55.getD (w64 (u59 - 2)).toNat 0) 19 _ h107) fun _ w hR a hk => qc hR hk) fun a hk => ?_
      refine tqst (.int .i64 (IntKind.wrap .i64 ((BitVec.ofInt 64 y100 ^^^ BitVec.ofInt 64 y106).toNat : Int))) hk rfl rfl rfl rfl (fun w hs => sv (.int .i64 (IntKind.wrap .i64 ((BitVec.ofInt 64 y100 ^^^ BitVec.ofInt 64 y106).toNat : Int))) hk rfl rfl rfl fun a hk => qe hk) fun a hk => ?_
      refine tsst hk rfl rfl (fun K_r95_11 hK_r95_11 w hF => ?_) wt_stop
      have hs := hs.f hF
      refine sm _ rfl hk rfl rfl rfl fun a hk => ?_
      refine se (hs.pick [(1, 1), (2, 2), (3, 3)] rfl) hk (hK_r95_11 _ _ ?_)
      refine tsst hk rfl rfl (fun K_r95_12 hK_r95_12 w hF => ?_) wt_stop
      have hs := hs.f hF
      refine sv (.int .i64 (w64 (u59 - 2))) hk rfl rfl rfl fun a hk => ?_
      refine se (hs.pick [(1, 1), (2, 2), (3, 3)] rfl) hk (hK_r95_12 _ _ ?_)
      refine tsst hk rfl rfl (fun K_r95_13 hK_r95_13 w hF => ?_) wt_stop
      have hs := hs.f hF
      rcases ite_some H with ⟨c108, H⟩ | ⟨_, H⟩
      rotate_left
      ·cases H
      obtain ⟨b109, q110, hAc108⟩ := (o57.view).some_ (w64 (u59 - 2)) c108.1 (by rw [lh58]; exact c108.2)
      refine sia rfl hk rfl rfl rfl rfl un136 sz3 c108.1 c108.2 hAc108 fun a hk => ?_
      refine se (hs.pick [(1, 1), (2, 2), (3, 3)] rfl) hk (hK_r95_13 _ _ ?_)
      refine tsst hk rfl rfl (fun K_r95_14 hK_r95_14 w hF => ?_) wt_stop
      have hs := hs.f hF
      obtain ⟨_, rfl, e111⟩ := (o57.view).at_ 0 (w64 (u59 - 2)) c108.1 (by rw [lh58]; exact c108.2)
      refine sl (v := (.int .i64 (u55.getD (w64 (u59 - 2)).toNat 0))) rfl hk rfl rfl rfl ag3 ((e111 0 _ rfl).cell (hs.hasG (k := 3) rfl)) fun a hk => ?_
      refine se (hs.pick [(1, 1), (2, 2), (3, 3)] rfl) hk (hK_r95_14 _ _ ?_)
      refine tsst hk rfl rfl (fun K_r95_15 hK_r95_15 w hF => ?_) wt_stop
      have hs := hs.f hF
      refine sv (.int .i64 (Int.fdiv (u55.getD (w64 (u59 - 2)).toNat 0) (2 ^ 10))) hk rfl rfl rfl fun a hk => ?_
      refine se (hs.pick [(1, 1), (2, 2), (3, 3)] rfl) hk (hK_r95_15 _ _ ?_)
      refine tsst hk rfl rfl (fun K_r95_16 hK_r95_16 w hF => ?_) wt_stop
      have hs := hs.f hF
      refine sv (.int .i64 (IntKind.wrap .i64 ((BitVec.ofInt 64 (IntKind.wrap .i64 ((BitVec.ofInt 64 y100 ^^^ BitVec.ofInt 64 y106).toNat : Int)) ^^^ BitVec.ofInt 64 (Int.fdiv (u55.getD (w64 (u59 - 2)).toNat 0) (2 ^ 10))).toNat : Int))) hk rfl rfl rfl fun a hk => ?_
      refine se (hs.pick [(1, 1), (2, 2), (3, 3)] rfl) hk (hK_r95_16 _ _ ?_)
      refine tlst hk rfl rfl fun K_r95_17 hK_r95_17 w hF => ?_
      have hs := hs.f hF
      refine sa _ rfl hk rfl rfl rfl fun a hk => ?_
      refine se trivial hk (hK_r95_17 _ _ fun w hF => ?_)
      have hs := hs.f hF
      refine hK94 _ _ ?_
      refine wp_region_tree (.q 0 (.q 1 (.q 2 (.q 3 (.q 4 (.q 5 (.q 6 (.q 7 (.q 8 (.q 9 (.q 10 (.q 11 (.alt 12 (.alt 13 (.alt 14 (.alt 15 (.last 16) .stop) .stop) .stop) .stop))))))))))))) mo (by kernel_rfl) (hs.pick [(1, 1), (2, 2), (3, 3)] rfl) fun _ => ?_
      have hs := hs.drew
      refine tqst (.int .i64 u59) hk rfl rfl rfl rfl (fun w hs => sm _ rfl hk rfl rfl rfl fun a hk => qe hk) fun a hk => ?_
      refine tqst (.int .i64 u59) hk rfl rfl rfl rfl (fun w hs => sm _ rfl hk rfl rfl rfl fun a hk => qe hk) fun a hk => ?_
      refine tqst (.int .i64 (w64 (u59 - 16))) hk rfl rfl rfl rfl (fun w hs => sv (.int .i64 (w64 (u59 - 16))) hk rfl rfl rfl fun a hk => qe hk) fun a hk => ?_
      rcases ite_some H with ⟨c113, H⟩ | ⟨_, H⟩
      rotate_left
      ·cases H
      obtain ⟨b114, q115, hAc113⟩ := (o57.view).some_ (w64 (u59 - 16)) c113.1 (by rw [lh58]; exact c113.2)
      refine tqst (.pointer (some (padd (some ⟨b11, 0, none⟩) ((w64 (u59 - 16)).toNat * 1)))) hk rfl rfl rfl rfl (fun w hs => sia rfl hk rfl rfl rfl rfl un136 sz3 c113.1 c113.2 hAc113 fun a hk => qe hk) fun a hk => ?_
      obtain ⟨_, rfl, e116⟩ := (o57.view).at_ 0 (w64 (u59 - 16)) c113.1 (by rw [lh58]; exact c113.2)
      refine tqst (.int .i64 (u55.getD (w64 (u59 - 16)).toNat 0)) hk rfl rfl rfl rfl (fun w hs => sl (v := (.int .i64 (u55.getD (w64 (u59 - 16)).toNat 0))) rfl hk rfl rfl rfl ag3 ((e116 0 _ rfl).cell (hs.hasG (k := 3) rfl)) fun a hk => qe hk) fun a hk => ?_
      refine tqst (.int .i64 (IntKind.wrap .i64 ((BitVec.ofInt 64 (IntKind.wrap .i64 ((BitVec.ofInt 64 y82 ^^^ BitVec.ofInt 64 y88).toNat : Int)) ^^^ BitVec.ofInt 64 (Int.fdiv (u55.getD (w64 (u59 - 15)).toNat 0) (2 ^ 3))).toNat : Int))) hk rfl rfl rfl rfl (fun w hs => sm _ rfl hk rfl rfl rfl fun a hk => qe hk) fun a hk => ?_
      refine tqst (.int .i64 (w64 ((u55.getD (w64 (u59 - 16)).toNat 0) + (IntKind.wrap .i64 ((BitVec.ofInt 64 (IntKind.wrap .i64 ((BitVec.ofInt 64 y82 ^^^ BitVec.ofInt 64 y88).toNat : Int)) ^^^ BitVec.ofInt 64 (Int.fdiv (u55.getD (w64 (u59 - 15)).toNat 0) (2 ^ 3))).toNat : Int))))) hk rfl rfl rfl rfl (fun w hs => sv (.int .i64 (w64 ((u55.getD (w64 (u59 - 16)).toNat 0) + (IntKind.wrap .i64 ((BitVec.ofInt 64 (IntKind.wrap .i64 ((BitVec.ofInt 64 y82 ^^^ BitVec.ofInt 64 y88).toNat : Int)) ^^^ BitVec.ofInt 64 (Int.fdiv (u55.getD (w64 (u59 - 15)).toNat 0) (2 ^ 3))).toNat : Int))))) hk rfl rfl rfl fun a hk => qe hk) fun a hk => ?_
      refine tqst (.int .i64 u59) hk rfl rfl rfl rfl (fun w hs => sm _ rfl hk rfl rfl rfl fun a hk => qe hk) fun a hk => ?_
      refine tqst (.int .i64 (w64 (u59 - 7))) hk rfl rfl rfl rfl (fun w hs => sv (.int .i64 (w64 (u59 - 7))) hk rfl rfl rfl fun a hk => qe hk) fun a hk => ?_
      rcases ite_some H with ⟨c117, H⟩ | ⟨_, H⟩
      rotate_left
      ·cases H
      obtain ⟨b118, q119, hAc117⟩ := (o57.view).some_ (w64 (u59 - 7)) c117.1 (by rw [lh58]; exact c117.2)
      refine tqst (.pointer (some (padd (some ⟨b11, 0, none⟩) ((w64 (u59 - 7)).toNat * 1)))) hk rfl rfl rfl rfl (fun w hs => sia rfl hk rfl rfl rfl rfl un136 sz3 c117.1 c117.2 hAc117 fun a hk => qe hk) fun a hk => ?_
      obtain ⟨_, rfl, e120⟩ := (o57.view).at_ 0 (w64 (u59 - 7)) c117.1 (by rw [lh58]; exact c117.2)
      refine tqst (.int .i64 (u55.getD (w64 (u59 - 7)).toNat 0)) hk rfl rfl rfl rfl (fun w hs => sl (v := (.int .i64 (u55.getD (w64 (u59 - 7)).toNat 0))) rfl hk rfl rfl rfl ag3 ((e120 0 _ rfl).cell (hs.hasG (k := 3) rfl)) fun a hk => qe hk) fun a hk => ?_
      refine tqst (.int .i64 (w64 ((w64 ((u55.getD (w64 (u59 - 16)).toNat 0) + (IntKind.wrap .i64 ((BitVec.ofInt 64 (IntKind.wrap .i64 ((BitVec.ofInt 64 y82 ^^^ BitVec.ofInt 64 y88).toNat : Int)) ^^^ BitVec.ofInt 64 (Int.fdiv (u55.getD (w64 (u59 - 15)).toNat 0) (2 ^ 3))).toNat : Int)))) + (u55.getD (w64 (u59 - 7)).toNat 0)))) hk rfl rfl rfl rfl (fun w hs => sv (.int .i64 (w64 ((w64 ((u55.getD (w64 (u59 - 16)).toNat 0) + (IntKind.wrap .i64 ((BitVec.ofInt 64 (IntKind.wrap .i64 ((BitVec.ofInt 64 y82 ^^^ BitVec.ofInt 64 y88).toNat : Int)) ^^^ BitVec.ofInt 64 (Int.fdiv (u55.getD (w64 (u59 - 15)).toNat 0) (2 ^ 3))).toNat : Int)))) + (u55.getD (w64 (u59 - 7)).toNat 0)))) hk rfl rfl rfl fun a hk => qe hk) fun a hk => ?_
      refine tsst hk rfl rfl (fun K_r112_12 hK_r112_12 w hF => ?_) wt_stop
      have hs := hs.f hF
      refine sm _ rfl hk rfl rfl rfl fun a hk => ?_
      refine se (hs.pick [(1, 1), (2, 2), (3, 3)] rfl) hk (hK_r112_12 _ _ ?_)
      refine tsst hk rfl rfl (fun K_r112_13 hK_r112_13 w hF => ?_) wt_stop
      have hs := hs.f hF
      refine sv (.int .i64 (w64 ((w64 ((w64 ((u55.getD (w64 (u59 - 16)).toNat 0) + (IntKind.wrap .i64 ((BitVec.ofInt 64 (IntKind.wrap .i64 ((BitVec.ofInt 64 y82 ^^^ BitVec.ofInt 64 y88).toNat : Int)) ^^^ BitVec.ofInt 64 (Int.fdiv (u55.getD (w64 (u59 - 15)).toNat 0) (2 ^ 3))).toNat : Int)))) + (u55.getD (w64 (u59 - 7)).toNat 0))) + (IntKind.wrap .i64 ((BitVec.ofInt 64 (IntKind.wrap .i64 ((BitVec.ofInt 64 y100 ^^^ BitVec.ofInt 64 y106).toNat : Int)) ^^^ BitVec.ofInt 64 (Int.fdiv (u55.getD (w64 (u59 - 2)).toNat 0) (2 ^ 10))).toNat : Int))))) hk rfl rfl rfl fun a hk => ?_
      refine se (hs.pick [(1, 1), (2, 2), (3, 3)] rfl) hk (hK_r112_13 _ _ ?_)
      refine tsst hk rfl rfl (fun K_r112_14 hK_r112_14 w hF => ?_) wt_stop
      have hs := hs.f hF
      refine sv (.int .i64 (IntKind.wrap .i64 ((BitVec.ofInt 64 (w64 ((w64 ((w64 ((u55.getD (w64 (u59 - 16)).toNat 0) + (IntKind.wrap .i64 ((BitVec.ofInt 64 (IntKind.wrap .i64 ((BitVec.ofInt 64 y82 ^^^ BitVec.ofInt 64 y88).toNat : Int)) ^^^ BitVec.ofInt 64 (Int.fdiv (u55.getD (w64 (u59 - 15)).toNat 0) (2 ^ 3))).toNat : Int)))) + (u55.getD (w64 (u59 - 7)).toNat 0))) + (IntKind.wrap .i64 ((BitVec.ofInt 64 (IntKind.wrap .i64 ((BitVec.ofInt 64 y100 ^^^ BitVec.ofInt 64 y106).toNat : Int)) ^^^ BitVec.ofInt 64 (Int.fdiv (u55.getD (w64 (u59 - 2)).toNat 0) (2 ^ 10))).toNat : Int)))) &&& BitVec.ofInt 64 4294967295).toNat : Int))) hk rfl rfl rfl fun a hk => ?_
      refine se (hs.pick [(1, 1), (2, 2), (3, 3)] rfl) hk (hK_r112_14 _ _ ?_)
      refine tsst hk rfl rfl (fun K_r112_15 hK_r112_15 w hF => ?_) wt_stop
      have hs := hs.f hF
      rcases ite_some H with ⟨c121, H⟩ | ⟨_, H⟩
      rotate_left
      ·cases H
      obtain ⟨b122, q123, hAc121⟩ := (o57.view).some_ u59 c121.1 (by rw [lh58]; exact c121.2)
      refine sia rfl hk rfl rfl rfl rfl un136 sz3 c121.1 c121.2 hAc121 fun a hk => ?_
      refine se (hs.pick [(1, 1), (2, 2), (3, 3)] rfl) hk (hK_r112_15 _ _ ?_)
      refine tlst hk rfl rfl fun K_r112_16 hK_r112_16 w hF => ?_
      have hs := hs.f hF
      refine so (j := 0) 3 0 (IntKind.wrap .i64 ((BitVec.ofInt 64 (w64 ((w64 ((w64 ((u55.getD (w64 (u59 - 16)).toNat 0) + (IntKind.wrap .i64 ((BitVec.ofInt 64 (IntKind.wrap .i64 ((BitVec.ofInt 64 y82 ^^^ BitVec.ofInt 64 y88).toNat : Int)) ^^^ BitVec.ofInt 64 (Int.fdiv (u55.getD (w64 (u59 - 15)).toNat 0) (2 ^ 3))).toNat : Int)))) + (u55.getD (w64 (u59 - 7)).toNat 0))) + (IntKind.wrap .i64 ((BitVec.ofInt 64 (IntKind.wrap .i64 ((BitVec.ofInt 64 y100 ^^^ BitVec.ofInt 64 y106).toNat : Int)) ^^^ BitVec.ofInt 64 (Int.fdiv (u55.getD (w64 (u59 - 2)).toNat 0) (2 ^ 10))).toNat : Int)))) &&& BitVec.ofInt 64 4294967295).toNat : Int)) hs rfl o57 c121.1 (by rw [lh58]; exact c121.2) rfl hk rfl rfl rfl rfl rfl sz3 (by simp [Value.cells, Value.oneCell']) (Nat.le_of_ble_eq_true rfl) (fun _ _ h => ⟨by rw [h.1]; rfl, h.2⟩) fun k124 w a hk o125 hs => ?_
      have lh126 : (u55.set u59.toNat (IntKind.wrap .i64 ((BitVec.ofInt 64 (w64 ((w64 ((w64 ((u55.getD (w64 (u59 - 16)).toNat 0) + (IntKind.wrap .i64 ((BitVec.ofInt 64 (IntKind.wrap .i64 ((BitVec.ofInt 64 y82 ^^^ BitVec.ofInt 64 y88).toNat : Int)) ^^^ BitVec.ofInt 64 (Int.fdiv (u55.getD (w64 (u59 - 15)).toNat 0) (2 ^ 3))).toNat : Int)))) + (u55.getD (w64 (u59 - 7)).toNat 0))) + (IntKind.wrap .i64 ((BitVec.ofInt 64 (IntKind.wrap .i64 ((BitVec.ofInt 64 y100 ^^^ BitVec.ofInt 64 y106).toNat : Int)) ^^^ BitVec.ofInt 64 (Int.fdiv (u55.getD (w64 (u59 - 2)).toNat 0) (2 ^ 10))).toNat : Int)))) &&& BitVec.ofInt 64 4294967295).toNat : Int))).length = 64 := by rw [List.length_set]; exact lh58
      refine se trivial hk (hK_r112_16 _ _ fun w hF => ?_)
      have hs := hs.f hF
      refine hK75 _ _ ?_
      apply wp_region_lit
      refine sm _ rfl hk rfl rfl rfl fun a hk => ?_
      refine sv (.int .i64 (w64 (u59 + 1))) hk rfl rfl rfl fun a hk => ?_
      refine sa _ rfl hk rfl rfl rfl fun a hk => ?_
      show wpList _ _ _ [] _ _
      refine wpList_nil ?_
      obtain rfl := Option.some.inj H
      obtain ⟨m127, hmm127, h71⟩ := h71
      show ∃ n', n' < _ ∧ I68 n' _ _
      refine ⟨m127, hmm127, ?_⟩
      rw [hI68]
      exact ⟨(u55.set u59.toNat (IntKind.wrap .i64 ((BitVec.ofInt 64 (w64 ((w64 ((w64 ((u55.getD (w64 (u59 - 16)).toNat 0) + (IntKind.wrap .i64 ((BitVec.ofInt 64 (IntKind.wrap .i64 ((BitVec.ofInt 64 y82 ^^^ BitVec.ofInt 64 y88).toNat : Int)) ^^^ BitVec.ofInt 64 (Int.fdiv (u55.getD (w64 (u59 - 15)).toNat 0) (2 ^ 3))).toNat : Int)))) + (u55.getD (w64 (u59 - 7)).toNat 0))) + (IntKind.wrap .i64 ((BitVec.ofInt 64 (IntKind.wrap .i64 ((BitVec.ofInt 64 y100 ^^^ BitVec.ofInt 64 y106).toNat : Int)) ^^^ BitVec.ofInt 64 (Int.fdiv (u55.getD (w64 (u59 - 2)).toNat 0) (2 ^ 10))).toNat : Int)))) &&& BitVec.ofInt 64 4294967295).toNat : Int))), (w64 (u59 + 1)), _, h71, (hk.c 2 rfl (hk.c 4 rfl (hk.c 5 rfl (hk.c 7 rfl hk.k)))), (hs.pick [(1, 1), (2, 2), (3, 3)] rfl), o125, lh126⟩
     ·have hk := hk.lit 31 c74 rfl
      refine cnd_false hk rfl rfl ?_
      refine wp_exit ?_
      obtain rfl := Option.some.inj H
      show R67 _ _
      rw [hR67]
      exact ⟨u55, _, h71.symm, (hk.c 2 rfl (hk.c 4 rfl (hk.c 5 rfl hk.k))), (hs.pick [(1, 1), (2, 2), (3, 3)] rfl), o57, lh58⟩
   ·intro a w hR0
    rw [hR67] at hR0
    obtain ⟨u60, k61, rfl, hk, hs, o62, lh63⟩ := hR0
    have H := HL66
    try dsimp only at H
    refine hK51 _ _ ?_
    apply wp_seq_k; intro K128 hK128
    apply wp_region_lit
    obtain ⟨y129, h130, H⟩ := bind_some H
    refine sc rfl en141 hk rfl rfl rfl (spec_l01Table_t _ _ h130) ?_
    rintro _ w ⟨rfl, lh131, hG⟩ a hk
    have hs := hs.call0 hG
    refine sala 9 ((Lay.int .i64)) (m := 64) (z := 0) (zc := [.int .i64 0]) hs rfl hk rfl rfl ze136 (by exact ⟨rfl, rfl⟩) rfl rfl rfl fun b132 k133 w a hk o134 hs => ?_
    have lh135 : (List.replicate 64 (0 : Int)).length = 64 := List.length_replicate
    refine sswa 9 y129 hs rfl o134 lh135 lh131 rfl rfl hk rfl rfl rfl rfl sz136 fun k136 w a hk o137 hs => ?_
    show wpList _ _ _ [] _ _
    refine wpList_nil ?_
    refine hK128 _ _ ?_
    apply wp_seq_k; intro K138 hK138
    apply wp_region_lit
    refine slna (k := 1) hs rfl o4 e0_ rfl hk rfl rfl rfl ag27 sz27 fun a hk => ?_
    refine sala 10 ((Lay.int .i64)) (m := 8) (z := 0) (zc := [.int .i64 0]) hs rfl hk rfl rfl ze27 (by exact ⟨rfl, rfl⟩) rfl rfl rfl fun b139 k140 w a hk o141 hs => ?_
    have lh142 : (List.replicate 8 (0 : Int)).length = 8 := List.length_replicate
    refine sswa 10 x0 hs rfl o141 lh142 e0_ rfl rfl hk rfl rfl rfl rfl sz27 fun k143 w a hk o144 hs => ?_
    show wpList _ _ _ [] _ _
    refine wpList_nil ?_
    refine hK138 _ _ ?_
    have hs := hs.pick [(1, 1), (2, 2), (3, 3), (9, 9), (10, 10)] rfl
    apply wp_seq_k; intro K145 hK145
    apply wp_seq_k; intro K146 hK146
    apply wp_region_lit
    refine sa _ rfl hk rfl rfl rfl fun a hk => ?_
    show wpList _ _ _ [] _ _
    refine wpList_nil ?_
    refine hK146 _ _ ?_
    obtain ⟨o158, h159, HL160⟩ := bind_some H
    clear H
    obtain ⟨R161, hR161⟩ : ∃ R : Act → World → Prop, R = fun a w => ∃ (u154 : List Int) (k155 : Chunk), o158 = .out u154 ∧ Kn [(2, (.pointer (some ⟨b2, 0, none⟩))), (4, (.pointer (some ⟨b5, 0, none⟩))), (11, (.pointer (some ⟨b139, 0, none⟩)))] 194 a ∧ Sat [] w0 w [] [(1, k3), (2, k6), (10, k155)] ∧ Own (Lay.int .i64) 27 (some ⟨b139, 0, none⟩) 8 u154 k155 ∧ u154.length = 8 := ⟨_, rfl⟩
    refine wp_cutq R161 ?_ ?_
    ·refine wp_block ?_
     obtain ⟨fu163, h159⟩ := loopO_some h159
     obtain ⟨I162, hI162⟩ : ∃ I : Nat → Act → World → Prop, I = fun fu a w => ∃ (u149 : List Int) (u153 : Int) (k150 : Chunk), loopN (fun s => spec_l01Block.s2 u60 y129 s.1 s.2) fu (u149, u153) = some o158 ∧ Kn [(2, (.pointer (some ⟨b2, 0, none⟩))), (4, (.pointer (some ⟨b5, 0, none⟩))), (5, (.pointer (some ⟨b11, 0, none⟩))), (10, (.pointer (some ⟨b132, 0, none⟩))), (11, (.pointer (some ⟨b139, 0, none⟩))), (12, (.int .i64 u153))] 194 a ∧ Sat [] w0 w [] [(1, k3), (2, k6), (3, k61), (9, k136), (10, k150)] ∧ Own (Lay.int .i64) 27 (some ⟨b139, 0, none⟩) 8 u149 k150 ∧ u149.length = 8 := ⟨_, rfl⟩
     refine wp_loop_ghost I162 fu163 ?_ ?_
     ·rw [hI162]
      exact ⟨x0, 0, _, h159, (hk.c 2 rfl (hk.c 4 rfl (hk.c 5 rfl (hk.c 10 rfl (hk.c 11 rfl (hk.c 12 rfl hk.k)))))), (hs.pick [(1, 1), (2, 2), (3, 3), (9, 9), (10, 10)] rfl), o144, e0_⟩
     ·clear h159 hk hs
      intro fu163 a w hI0
      rw [hI162] at hI0
      obtain ⟨u149, u153, k150, hi, hk, hs, o151, lh152⟩ := hI0
      obtain ⟨x164, H, h165⟩ := loop_round hi
      try dsimp only at H
      unfold spec_l01Block.s2 at H
      apply wp_seq_k; intro K166 hK166
      apply wp_seq_k; intro K167 hK167
      apply wp_region_lit
      refine sm _ rfl hk rfl rfl rfl fun a hk => ?_
      refine sv (.bool (decide (u153 < 64))) hk rfl rfl rfl fun a hk => ?_
      show wpList _ _ _ [] _ _
      refine wpList_nil ?_
      refine hK167 _ _ ?_
      rcases cond_some H with ⟨c168, H⟩ | ⟨c168, H⟩
      ·have hk := hk.lit 87 c168 rfl
       refine cnd_true hk rfl rfl ?_
       refine wp_skip ?_
       refine hK166 _ _ ?_
       apply wp_seq_k; intro K169 hK169
       refine wp_block ?_
       apply wp_seq_k; intro K170 hK170
       refine wp_region_tree (.q 0 (.q 1 (.q 2 (.q 3 (.q 4 (.q 5 (.q 6 (.alt 7 (.alt 8 (.alt 9 (.alt 10 (.last 11) .stop) .stop) .stop) .stop)))))))) mo (by kernel_rfl) (hs.pick [(1, 1), (2, 2), (3, 3), (9, 9), (10, 10)] rfl) fun _ => ?_
       have hs := hs.drew
       rcases ite_some H with ⟨c172, H⟩ | ⟨_, H⟩
       rotate_left
       ·cases H
       obtain ⟨b173, q174, hAc172⟩ := (o151.view).some_ (4 : Int) c172.1 (by rw [lh152]; exact c172.2)
       refine tqst (.pointer (some (padd (some ⟨b139, 0, none⟩) ((4 : Int).toNat * 1)))) hk rfl rfl rfl rfl (fun w hs => sia rfl hk rfl rfl rfl rfl un27 sz3 c172.1 c172.2 hAc172 fun a hk => qe hk) fun a hk => ?_
       obtain ⟨_, rfl, e175⟩ := (o151.view).at_ 0 (4 : Int) c172.1 (by rw [lh152]; exact c172.2)
       refine tqst (.int .i64 (u149.getD (4 : Int).toNat 0)) hk rfl rfl rfl rfl (fun w hs => sl (v := (.int .i64 (u149.getD (4 : Int).toNat 0))) rfl hk rfl rfl rfl ag3 ((e175 0 _ rfl).cell (hs.hasG (k := 10) rfl)) fun a hk => qe hk) fun a hk => ?_
       obtain ⟨y176, h177, H⟩ := bind_some H
       refine tqst (.int .i64 y176) hk rfl rfl rfl rfl (fun w hs => sc rfl en140 hk rfl rfl rfl (spec_l01Right_t _ (u149.getD (4 : Int).toNat 0) 6 _ h177) fun _ w hR a hk => qc hR hk) fun a hk => ?_
       rcases ite_some H with ⟨c178, H⟩ | ⟨_, H⟩
       rotate_left
       ·cases H
       obtain ⟨b179, q180, hAc178⟩ := (o151.view).some_ (4 : Int) c178.1 (by rw [lh152]; exact c178.2)
       refine tqst (.pointer (some (padd (some ⟨b139, 0, none⟩) ((4 : Int).toNat * 1)))) hk rfl rfl rfl rfl (fun w hs => sia rfl hk rfl rfl rfl rfl un27 sz3 c178.1 c178.2 hAc178 fun a hk => qe hk) fun a hk => ?_
       obtain ⟨_, rfl, e181⟩ := (o151.view).at_ 0 (4 : Int) c178.1 (by rw [lh152]; exact c178.2)
       refine tqst (.int .i64 (u149.getD (4 : Int).toNat 0)) hk rfl rfl rfl rfl (fun w hs => sl (v := (.int .i64 (u149.getD (4 : Int).toNat 0))) rfl hk rfl rfl rfl ag3 ((e181 0 _ rfl).cell (hs.hasG (k := 10) rfl)) fun a hk => qe hk) fun a hk => ?_
       obtain ⟨y182, h183, H⟩ := bind_some H
       refine tqst (.int .i64 y182) hk rfl rfl rfl rfl (fun w hs => sc rfl en140 hk rfl rfl rfl (spec_l01Right_t _ (u149.getD (4 : Int).toNat 0) 11 _ h183) fun _ w hR a hk => qc hR hk) fun a hk => ?_
       refine tqst (.int .i64 (IntKind.wrap .i64 ((BitVec.ofInt 64 y176 ^^^ BitVec.ofInt 64 y182).toNat : Int))) hk rfl rfl rfl rfl (fun w hs => sv (.int .i64 (IntKind.wrap .i64 ((BitVec.ofInt 64 y176 ^^^ BitVec.ofInt 64 y182).toNat : Int))) hk rfl rfl rfl fun a hk => qe hk) fun a hk => ?_
       refine tsst hk rfl rfl (fun K_r171_7 hK_r171_7 w hF => ?_) wt_stop
       have hs := hs.f hF
       rcases ite_some H with ⟨c184, H⟩ | ⟨_, H⟩
       rotate_left
       ·cases H
       obtain ⟨b185, q186, hAc184⟩ := (o151.view).some_ (4 : Int) c184.1 (by rw [lh152]; exact c184.2)
       refine sia rfl hk rfl rfl rfl rfl un27 sz3 c184.1 c184.2 hAc184 fun a hk => ?_
       refine se (hs.pick [(1, 1), (2, 2), (3, 3), (9, 9), (10, 10)] rfl) hk (hK_r171_7 _ _ ?_)
       refine tsst hk rfl rfl (fun K_r171_8 hK_r171_8 w hF => ?_) wt_stop
       have hs := hs.f hF
       obtain ⟨_, rfl, e187⟩ := (o151.view).at_ 0 (4 : Int) c184.1 (by rw [lh152]; exact c184.2)
       refine sl (v := (.int .i64 (u149.getD (4 : Int).toNat 0))) rfl hk rfl rfl rfl ag3 ((e187 0 _ rfl).cell (hs.hasG (k := 10) rfl)) fun a hk => ?_
       refine se (hs.pick [(1, 1), (2, 2), (3, 3), (9, 9), (10, 10)] rfl) hk (hK_r171_8 _ _ ?_)
       refine tsst hk rfl rfl (fun K_r171_9 hK_r171_9 w hF => ?_) wt_stop
       have hs := hs.f hF
       obtain ⟨y188, h189, H⟩ := bind_some H
       refine sc rfl en140 hk rfl rfl rfl (spec_l01Right_t _ (u149.getD (4 : Int).toNat 0) 25 _ h189) ?_
       rintro _ w ⟨rfl, hG⟩ a hk
       have hs := hs.call0 hG
       refine se (hs.pick [(1, 1), (2, 2), (3, 3), (9, 9), (10, 10)] rfl) hk (hK_r171_9 _ _ ?_)
       refine tsst hk rfl rfl (fun K_r171_10 hK_r171_10 w hF => ?_) wt_stop
       have hs := hs.f hF
       refine sv (.int .i64 (IntKind.wrap .i64 ((BitVec.ofInt 64 (IntKind.wrap .i64 ((BitVec.ofInt 64 y176 ^^^ BitVec.ofInt 64 y182).toNat : Int)) ^^^ BitVec.ofInt 64 y188).toNat : Int))) hk rfl rfl rfl fun a hk => ?_
       refine se (hs.pick [(1, 1), (2, 2), (3, 3), (9, 9), (10, 10)] rfl) hk (hK_r171_10 _ _ ?_)
       refine tlst hk rfl rfl fun K_r171_11 hK_r171_11 w hF => ?_
       have hs := hs.f hF
       refine sa _ rfl hk rfl rfl rfl fun a hk => ?_
       refine se trivial hk (hK_r171_11 _ _ fun w hF => ?_)
       have hs := hs.f hF
       refine hK170 _ _ ?_
       have hs := hs.pick [(1, 1), (2, 2), (3, 3), (9, 9), (10, 10)] rfl
       apply wp_seq_k; intro K190 hK190
       apply wp_region_lit
       rcases ite_some H with ⟨c191, H⟩ | ⟨_, H⟩
       rotate_left
       ·cases H
       obtain ⟨b192, q193, hAc191⟩ := (o151.view).some_ (4 : Int) c191.1 (by rw [lh152]; exact c191.2)
       refine sia rfl hk rfl rfl rfl rfl un27 sz3 c191.1 c191.2 hAc191 fun a hk => ?_
       obtain ⟨_, rfl, e194⟩ := (o151.view).at_ 0 (4 : Int) c191.1 (by rw [lh152]; exact c191.2)
       refine sl (v := (.int .i64 (u149.getD (4 : Int).toNat 0))) rfl hk rfl rfl rfl ag3 ((e194 0 _ rfl).cell (hs.hasG (k := 10) rfl)) fun a hk => ?_
       rcases ite_some H with ⟨c195, H⟩ | ⟨_, H⟩
       rotate_left
       ·cases H
       obtain ⟨b196, q197, hAc195⟩ := (o151.view).some_ (5 : Int) c195.1 (by rw [lh152]; exact c195.2)
       refine sia rfl hk rfl rfl rfl rfl un27 sz3 c195.1 c195.2 hAc195 fun a hk => ?_
       obtain ⟨_, rfl, e198⟩ := (o151.view).at_ 0 (5 : Int) c195.1 (by rw [lh152]; exact c195.2)
       refine sl (v := (.int .i64 (u149.getD (5 : Int).toNat 0))) rfl hk rfl rfl rfl ag3 ((e198 0 _ rfl).cell (hs.hasG (k := 10) rfl)) fun a hk => ?_
       refine sv (.int .i64 (IntKind.wrap .i64 ((BitVec.ofInt 64 (u149.getD (4 : Int).toNat 0) &&& BitVec.ofInt 64 (u149.getD (5 : Int).toNat 0)).toNat : Int))) hk rfl rfl rfl fun a hk => ?_
       rcases ite_some H with ⟨c199, H⟩ | ⟨_, H⟩
       rotate_left
       ·cases H
       obtain ⟨b200, q201, hAc199⟩ := (o151.view).some_ (4 : Int) c199.1 (by rw [lh152]; exact c199.2)
       refine sia rfl hk rfl rfl rfl rfl un27 sz3 c199.1 c199.2 hAc199 fun a hk => ?_
       obtain ⟨_, rfl, e202⟩ := (o151.view).at_ 0 (4 : Int) c199.1 (by rw [lh152]; exact c199.2)
       refine sl (v := (.int .i64 (u149.getD (4 : Int).toNat 0))) rfl hk rfl rfl rfl ag3 ((e202 0 _ rfl).cell (hs.hasG (k := 10) rfl)) fun a hk => ?_
       refine sv (.int .i64 (IntKind.wrap .i64 ((BitVec.ofInt 64 4294967295 ^^^ BitVec.ofInt 64 (u149.getD (4 : Int).toNat 0)).toNat : Int))) hk rfl rfl rfl fun a hk => ?_
       rcases ite_some H with ⟨c203, H⟩ | ⟨_, H⟩
       rotate_left
       ·cases H
       obtain ⟨b204, q205, hAc203⟩ := (o151.view).some_ (6 : Int) c203.1 (by rw [lh152]; exact c203.2)
       refine sia rfl hk rfl rfl rfl rfl un27 sz3 c203.1 c203.2 hAc203 fun a hk => ?_
       obtain ⟨_, rfl, e206⟩ := (o151.view).at_ 0 (6 : Int) c203.1 (by rw [lh152]; exact c203.2)
       refine sl (v := (.int .i64 (u149.getD (6 : Int).toNat 0))) rfl hk rfl rfl rfl ag3 ((e206 0 _ rfl).cell (hs.hasG (k := 10) rfl)) fun a hk => ?_
       refine sv (.int .i64 (IntKind.wrap .i64 ((BitVec.ofInt 64 (IntKind.wrap .i64 ((BitVec.ofInt 64 4294967295 ^^^ BitVec.ofInt 64 (u149.getD (4 : Int).toNat 0)).toNat : Int)) &&& BitVec.ofInt 64 (u149.getD (6 : Int).toNat 0)).toNat : Int))) hk rfl rfl rfl fun a hk => ?_
       refine sv (.int .i64 (IntKind.wrap .i64 ((BitVec.ofInt 64 (IntKind.wrap .i64 ((BitVec.ofInt 64 (u149.getD (4 : Int).toNat 0) &&& BitVec.ofInt 64 (u149.getD (5 : Int).toNat 0)).toNat : Int)) ^^^ BitVec.ofInt 64 (IntKind.wrap .i64 ((BitVec.ofInt 64 (IntKind.wrap .i64 ((BitVec.ofInt 64 4294967295 ^^^ BitVec.ofInt 64 (u149.getD (4 : Int).toNat 0)).toNat : Int)) &&& BitVec.ofInt 64 (u149.getD (6 : Int).toNat 0)).toNat : Int))).toNat : Int))) hk rfl rfl rfl fun a hk => ?_
       refine sa _ rfl hk rfl rfl rfl fun a hk => ?_
       show wpList _ _ _ [] _ _
       refine wpList_nil ?_
       refine hK190 _ _ ?_
       apply wp_seq_k; intro K207 hK207
       refine wp_region_tree (.q 0 (.q 1 (.q 2 (.q 3 (.q 4 (.q 5 (.q 6 (.q 7 (.q 8 (.q 9 (.alt 10 (.alt 11 (.alt 12 (.alt 13 (.last 14) .stop) .stop) .stop) .stop))))))))))) mo (by kernel_rfl) (hs.pick [(1, 1), (2, 2), (3, 3), (9, 9), (10, 10)] rfl) fun _ => ?_
       have hs := hs.drew
       rcases ite_some H with ⟨c209, H⟩ | ⟨_, H⟩
       rotate_left
       ·cases H
       obtain ⟨b210, q211, hAc209⟩ := (o151.view).some_ (7 : Int) c209.1 (by rw [lh152]; exact c209.2)
       refine tqst (.pointer (some (padd (some ⟨b139, 0, none⟩) ((7 : Int).toNat * 1)))) hk rfl rfl rfl rfl (fun w hs => sia rfl hk rfl rfl rfl rfl un27 sz3 c209.1 c209.2 hAc209 fun a hk => qe hk) fun a hk => ?_
       obtain ⟨_, rfl, e212⟩ := (o151.view).at_ 0 (7 : Int) c209.1 (by rw [lh152]; exact c209.2)
       refine tqst (.int .i64 (u149.getD (7 : Int).toNat 0)) hk rfl rfl rfl rfl (fun w hs => sl (v := (.int .i64 (u149.getD (7 : Int).toNat 0))) rfl hk rfl rfl rfl ag3 ((e212 0 _ rfl).cell (hs.hasG (k := 10) rfl)) fun a hk => qe hk) fun a hk => ?_
       refine tqst (.int .i64 (IntKind.wrap .i64 ((BitVec.ofInt 64 (IntKind.wrap .i64 ((BitVec.ofInt 64 y176 ^^^ BitVec.ofInt 64 y182).toNat : Int)) ^^^ BitVec.ofInt 64 y188).toNat : Int))) hk rfl rfl rfl rfl (fun w hs => sm _ rfl hk rfl rfl rfl fun a hk => qe hk) fun a hk => ?_
       refine tqst (.int .i64 (w64 ((u149.getD (7 : Int).toNat 0) + (IntKind.wrap .i64 ((BitVec.ofInt 64 (IntKind.wrap .i64 ((BitVec.ofInt 64 y176 ^^^ BitVec.ofInt 64 y182).toNat : Int)) ^^^ BitVec.ofInt 64 y188).toNat : Int))))) hk rfl rfl rfl rfl (fun w hs => sv (.int .i64 (w64 ((u149.getD (7 : Int).toNat 0) + (IntKind.wrap .i64 ((BitVec.ofInt 64 (IntKind.wrap .i64 ((BitVec.ofInt 64 y176 ^^^ BitVec.ofInt 64 y182).toNat : Int)) ^^^ BitVec.ofInt 64 y188).toNat : Int))))) hk rfl rfl rfl fun a hk => qe hk) fun a hk => ?_
       refine tqst (.int .i64 (IntKind.wrap .i64 ((BitVec.ofInt 64 (IntKind.wrap .i64 ((BitVec.ofInt 64 (u149.getD (4 : Int).toNat 0) &&& BitVec.ofInt 64 (u149.getD (5 : Int).toNat 0)).toNat : Int)) ^^^ BitVec.ofInt 64 (IntKind.wrap .i64 ((BitVec.ofInt 64 (IntKind.wrap .i64 ((BitVec.ofInt 64 4294967295 ^^^ BitVec.ofInt 64 (u149.getD (4 : Int).toNat 0)).toNat : Int)) &&& BitVec.ofInt 64 (u149.getD (6 : Int).toNat 0)).toNat : Int))).toNat : Int))) hk rfl rfl rfl rfl (fun w hs => sm _ rfl hk rfl rfl rfl fun a hk => qe hk) fun a hk => ?_
       refine tqst (.int .i64 (w64 ((w64 ((u149.getD (7 : Int).toNat 0) + (IntKind.wrap .i64 ((BitVec.ofInt 64 (IntKind.wrap .i64 ((BitVec.ofInt 64 y176 ^^^ BitVec.ofInt 64 y182).toNat : Int)) ^^^ BitVec.ofInt 64 y188).toNat : Int)))) + (IntKind.wrap .i64 ((BitVec.ofInt 64 (IntKind.wrap .i64 ((BitVec.ofInt 64 (u149.getD (4 : Int).toNat 0) &&& BitVec.ofInt 64 (u149.getD (5 : Int).toNat 0)).toNat : Int)) ^^^ BitVec.ofInt 64 (IntKind.wrap .i64 ((BitVec.ofInt 64 (IntKind.wrap .i64 ((BitVec.ofInt 64 4294967295 ^^^ BitVec.ofInt 64 (u149.getD (4 : Int).toNat 0)).toNat : Int)) &&& BitVec.ofInt 64 (u149.getD (6 : Int).toNat 0)).toNat : Int))).toNat : Int))))) hk rfl rfl rfl rfl (fun w hs => sv (.int .i64 (w64 ((w64 ((u149.getD (7 : Int).toNat 0) + (IntKind.wrap .i64 ((BitVec.ofInt 64 (IntKind.wrap .i64 ((BitVec.ofInt 64 y176 ^^^ BitVec.ofInt 64 y182).toNat : Int)) ^^^ BitVec.ofInt 64 y188).toNat : Int)))) + (IntKind.wrap .i64 ((BitVec.ofInt 64 (IntKind.wrap .i64 ((BitVec.ofInt 64 (u149.getD (4 : Int).toNat 0) &&& BitVec.ofInt 64 (u149.getD (5 : Int).toNat 0)).toNat : Int)) ^^^ BitVec.ofInt 64 (IntKind.wrap .i64 ((BitVec.ofInt 64 (IntKind.wrap .i64 ((BitVec.ofInt 64 4294967295 ^^^ BitVec.ofInt 64 (u149.getD (4 : Int).toNat 0)).toNat : Int)) &&& BitVec.ofInt 64 (u149.getD (6 : Int).toNat 0)).toNat : Int))).toNat : Int))))) hk rfl rfl rfl fun a hk => qe hk) fun a hk => ?_
       refine tqst (.int .i64 u153) hk rfl rfl rfl rfl (fun w hs => sm _ rfl hk rfl rfl rfl fun a hk => qe hk) fun a hk => ?_
       rcases ite_some H with ⟨c213, H⟩ | ⟨_, H⟩
       rotate_left
       ·cases H
       obtain ⟨b214, q215, hAc213⟩ := (o137.view).some_ u153 c213.1 (by rw [lh131]; exact c213.2)
       refine tqst (.pointer (some (padd (some ⟨b132, 0, none⟩) (u153.toNat * 1)))) hk rfl rfl rfl rfl (fun w hs => sia rfl hk rfl rfl rfl rfl un136 sz3 c213.1 c213.2 hAc213 fun a hk => qe hk) fun a hk => ?_
       obtain ⟨_, rfl, e216⟩ := (o137.view).at_ 0 u153 c213.1 (by rw [lh131]; exact c213.2)
       refine tqst (.int .i64 (y129.getD u153.toNat 0)) hk rfl rfl rfl rfl (fun w hs => sl (v := (.int .i64 (y129.getD u153.toNat 0))) rfl hk rfl rfl rfl ag3 ((e216 0 _ rfl).cell (hs.hasG (k := 9) rfl)) fun a hk => qe hk) fun a hk => ?_
       refine tqst (.int .i64 (w64 ((w64 ((w64 ((u149.getD (7 : Int).toNat 0) + (IntKind.wrap .i64 ((BitVec.ofInt 64 (IntKind.wrap .i64 ((BitVec.ofInt 64 y176 ^^^ BitVec.ofInt 64 y182).toNat : Int)) ^^^ BitVec.ofInt 64 y188).toNat : Int)))) + (IntKind.wrap .i64 ((BitVec.ofInt 64 (IntKind.wrap .i64 ((BitVec.ofInt 64 (u149.getD (4 : Int).toNat 0) &&& BitVec.ofInt 64 (u149.getD (5 : Int).toNat 0)).toNat : Int)) ^^^ BitVec.ofInt 64 (IntKind.wrap .i64 ((BitVec.ofInt 64 (IntKind.wrap .i64 ((BitVec.ofInt 64 4294967295 ^^^ BitVec.ofInt 64 (u149.getD (4 : Int).toNat 0)).toNat : Int)) &&& BitVec.ofInt 64 (u149.getD (6 : Int).toNat 0)).toNat : Int))).toNat : Int)))) + (y129.getD u153.toNat 0)))) hk rfl rfl rfl rfl (fun w hs => sv (.int .i64 (w64 ((w64 ((w64 ((u149.getD (7 : Int).toNat 0) + (IntKind.wrap .i64 ((BitVec.ofInt 64 (IntKind.wrap .i64 ((BitVec.ofInt 64 y176 ^^^ BitVec.ofInt 64 y182).toNat : Int)) ^^^ BitVec.ofInt 64 y188).toNat : Int)))) + (IntKind.wrap .i64 ((BitVec.ofInt 64 (IntKind.wrap .i64 ((BitVec.ofInt 64 (u149.getD (4 : Int).toNat 0) &&& BitVec.ofInt 64 (u149.getD (5 : Int).toNat 0)).toNat : Int)) ^^^ BitVec.ofInt 64 (IntKind.wrap .i64 ((BitVec.ofInt 64 (IntKind.wrap .i64 ((BitVec.ofInt 64 4294967295 ^^^ BitVec.ofInt 64 (u149.getD (4 : Int).toNat 0)).toNat : Int)) &&& BitVec.ofInt 64 (u149.getD (6 : Int).toNat 0)).toNat : Int))).toNat : Int)))) + (y129.getD u153.toNat 0)))) hk rfl rfl rfl fun a hk => qe hk) fun a hk => ?_
       refine tsst hk rfl rfl (fun K_r208_10 hK_r208_10 w hF => ?_) wt_stop
       have hs := hs.f hF
       refine sm _ rfl hk rfl rfl rfl fun a hk => ?_
       refine se (hs.pick [(1, 1), (2, 2), (3, 3), (9, 9), (10, 10)] rfl) hk (hK_r208_10 _ _ ?_)
       refine tsst hk rfl rfl (fun K_r208_11 hK_r208_11 w hF => ?_) wt_stop
       have hs := hs.f hF
       rcases ite_some H with ⟨c217, H⟩ | ⟨_, H⟩
       rotate_left
       ·cases H
       obtain ⟨b218, q219, hAc217⟩ := (o62.view).some_ u153 c217.1 (by rw [lh63]; exact c217.2)
       refine sia rfl hk rfl rfl rfl rfl un136 sz3 c217.1 c217.2 hAc217 fun a hk => ?_
       refine se (hs.pick [(1, 1), (2, 2), (3, 3), (9, 9), (10, 10)] rfl) hk (hK_r208_11 _ _ ?_)
       refine tsst hk rfl rfl (fun K_r208_12 hK_r208_12 w hF => ?_) wt_stop
       have hs := hs.f hF
       obtain ⟨_, rfl, e220⟩ := (o62.view).at_ 0 u153 c217.1 (by rw [lh63]; exact c217.2)
       refine sl (v := (.int .i64 (u60.getD u153.toNat 0))) rfl hk rfl rfl rfl ag3 ((e220 0 _ rfl).cell (hs.hasG (k := 3) rfl)) fun a hk => ?_
       refine se (hs.pick [(1, 1), (2, 2), (3, 3), (9, 9), (10, 10)] rfl) hk (hK_r208_12 _ _ ?_)
       refine tsst hk rfl rfl (fun K_r208_13 hK_r208_13 w hF => ?_) wt_stop
       have hs := hs.f hF
       refine sv (.int .i64 (w64 ((w64 ((w64 ((w64 ((u149.getD (7 : Int).toNat 0) + (IntKind.wrap .i64 ((BitVec.ofInt 64 (IntKind.wrap .i64 ((BitVec.ofInt 64 y176 ^^^ BitVec.ofInt 64 y182).toNat : Int)) ^^^ BitVec.ofInt 64 y188).toNat : Int)))) + (IntKind.wrap .i64 ((BitVec.ofInt 64 (IntKind.wrap .i64 ((BitVec.ofInt 64 (u149.getD (4 : Int).toNat 0) &&& BitVec.ofInt 64 (u149.getD (5 : Int).toNat 0)).toNat : Int)) ^^^ BitVec.ofInt 64 (IntKind.wrap .i64 ((BitVec.ofInt 64 (IntKind.wrap .i64 ((BitVec.ofInt 64 4294967295 ^^^ BitVec.ofInt 64 (u149.getD (4 : Int).toNat 0)).toNat : Int)) &&& BitVec.ofInt 64 (u149.getD (6 : Int).toNat 0)).toNat : Int))).toNat : Int)))) + (y129.getD u153.toNat 0))) + (u60.getD u153.toNat 0)))) hk rfl rfl rfl fun a hk => ?_
       refine se (hs.pick [(1, 1), (2, 2), (3, 3), (9, 9), (10, 10)] rfl) hk (hK_r208_13 _ _ ?_)
       refine tlst hk rfl rfl fun K_r208_14 hK_r208_14 w hF => ?_
       have hs := hs.f hF
       refine sa _ rfl hk rfl rfl rfl fun a hk => ?_
       refine se trivial hk (hK_r208_14 _ _ fun w hF => ?_)
       have hs := hs.f hF
       refine hK207 _ _ ?_
       apply wp_seq_k; intro K221 hK221
       refine wp_region_tree (.q 0 (.q 1 (.q 2 (.q 3 (.q 4 (.q 5 (.q 6 (.alt 7 (.alt 8 (.alt 9 (.alt 10 (.last 11) .stop) .stop) .stop) .stop)))))))) mo (by kernel_rfl) (hs.pick [(1, 1), (2, 2), (3, 3), (9, 9), (10, 10)] rfl) fun _ => ?_
       have hs := hs.drew
       rcases ite_some H with ⟨c223, H⟩ | ⟨_, H⟩
       rotate_left
       ·cases H
       obtain ⟨b224, q225, hAc223⟩ := (o151.view).some_ (0 : Int) c223.1 (by rw [lh152]; exact c223.2)
       refine tqst (.pointer (some (padd (some ⟨b139, 0, none⟩) ((0 : Int).toNat * 1)))) hk rfl rfl rfl rfl (fun w hs => sia rfl hk rfl rfl rfl rfl un27 sz3 c223.1 c223.2 hAc223 fun a hk => qe hk) fun a hk => ?_
       obtain ⟨_, rfl, e226⟩ := (o151.view).at_ 0 (0 : Int) c223.1 (by rw [lh152]; exact c223.2)
       refine tqst (.int .i64 (u149.getD (0 : Int).toNat 0)) hk rfl rfl rfl rfl (fun w hs => sl (v := (.int .i64 (u149.getD (0 : Int).toNat 0))) rfl hk rfl rfl rfl ag3 ((e226 0 _ rfl).cell (hs.hasG (k := 10) rfl)) fun a hk => qe hk) fun a hk => ?_
       obtain ⟨y227, h228, H⟩ := bind_some H
       refine tqst (.int .i64 y227) hk rfl rfl rfl rfl (fun w hs => sc rfl en140 hk rfl rfl rfl (spec_l01Right_t _ (u149.getD (0 : Int).toNat 0) 2 _ h228) fun _ w hR a hk => qc hR hk) fun a hk => ?_
       rcases ite_some H with ⟨c229, H⟩ | ⟨_, H⟩
       rotate_left
       ·cases H
       obtain ⟨b230, q231, hAc229⟩ := (o151.view).some_ (0 : Int) c229.1 (by rw [lh152]; exact c229.2)
       refine tqst (.pointer (some (padd (some ⟨b139, 0, none⟩) ((0 : Int).toNat * 1)))) hk rfl rfl rfl rfl (fun w hs => sia rfl hk rfl rfl rfl rfl un27 sz3 c229.1 c229.2 hAc229 fun a hk => qe hk) fun a hk => ?_
       obtain ⟨_, rfl, e232⟩ := (o151.view).at_ 0 (0 : Int) c229.1 (by rw [lh152]; exact c229.2)
       refine tqst (.int .i64 (u149.getD (0 : Int).toNat 0)) hk rfl rfl rfl rfl (fun w hs => sl (v := (.int .i64 (u149.getD (0 : Int).toNat 0))) rfl hk rfl rfl rfl ag3 ((e232 0 _ rfl).cell (hs.hasG (k := 10) rfl)) fun a hk => qe hk) fun a hk => ?_
       obtain ⟨y233, h234, H⟩ := bind_some H
       refine tqst (.int .i64 y233) hk rfl rfl rfl rfl (fun w hs => sc rfl en140 hk rfl rfl rfl (spec_l01Right_t _ (u149.getD (0 : Int).toNat 0) 13 _ h234) fun _ w hR a hk => qc hR hk) fun a hk => ?_
       refine tqst (.int .i64 (IntKind.wrap .i64 ((BitVec.ofInt 64 y227 ^^^ BitVec.ofInt 64 y233).toNat : Int))) hk rfl rfl rfl rfl (fun w hs => sv (.int .i64 (IntKind.wrap .i64 ((BitVec.ofInt 64 y227 ^^^ BitVec.ofInt 64 y233).toNat : Int))) hk rfl rfl rfl fun a hk => qe hk) fun a hk => ?_
       refine tsst hk rfl rfl (fun K_r222_7 hK_r222_7 w hF => ?_) wt_stop
       have hs := hs.f hF
       rcases ite_some H with ⟨c235, H⟩ | ⟨_, H⟩
       rotate_left
       ·cases H
       obtain ⟨b236, q237, hAc235⟩ := (o151.view).some_ (0 : Int) c235.1 (by rw [lh152]; exact c235.2)
       refine sia rfl hk rfl rfl rfl rfl un27 sz3 c235.1 c235.2 hAc235 fun a hk => ?_
       refine se (hs.pick [(1, 1), (2, 2), (3, 3), (9, 9), (10, 10)] rfl) hk (hK_r222_7 _ _ ?_)
       refine tsst hk rfl rfl (fun K_r222_8 hK_r222_8 w hF => ?_) wt_stop
       have hs := hs.f hF
       obtain ⟨_, rfl, e238⟩ := (o151.view).at_ 0 (0 : Int) c235.1 (by rw [lh152]; exact c235.2)
       refine sl (v := (.int .i64 (u149.getD (0 : Int).toNat 0))) rfl hk rfl rfl rfl ag3 ((e238 0 _ rfl).cell (hs.hasG (k := 10) rfl)) fun a hk => ?_
       refine se (hs.pick [(1, 1), (2, 2), (3, 3), (9, 9), (10, 10)] rfl) hk (hK_r222_8 _ _ ?_)
       refine tsst hk rfl rfl (fun K_r222_9 hK_r222_9 w hF => ?_) wt_stop
       have hs := hs.f hF
       obtain ⟨y239, h240, H⟩ := bind_some H
       refine sc rfl en140 hk rfl rfl rfl (spec_l01Right_t _ (u149.getD (0 : Int).toNat 0) 22 _ h240) ?_
       rintro _ w ⟨rfl, hG⟩ a hk
       have hs := hs.call0 hG
       refine se (hs.pick [(1, 1), (2, 2), (3, 3), (9, 9), (10, 10)] rfl) hk (hK_r222_9 _ _ ?_)
       refine tsst hk rfl rfl (fun K_r222_10 hK_r222_10 w hF => ?_) wt_stop
       have hs := hs.f hF
       refine sv (.int .i64 (IntKind.wrap .i64 ((BitVec.ofInt 64 (IntKind.wrap .i64 ((BitVec.ofInt 64 y227 ^^^ BitVec.ofInt 64 y233).toNat : Int)) ^^^ BitVec.ofInt 64 y239).toNat : Int))) hk rfl rfl rfl fun a hk => ?_
       refine se (hs.pick [(1, 1), (2, 2), (3, 3), (9, 9), (10, 10)] rfl) hk (hK_r222_10 _ _ ?_)
       refine tlst hk rfl rfl fun K_r222_11 hK_r222_11 w hF => ?_
       have hs := hs.f hF
       refine sa _ rfl hk rfl rfl rfl fun a hk => ?_
       refine se trivial hk (hK_r222_11 _ _ fun w hF => ?_)
       have hs := hs.f hF
       refine hK221 _ _ ?_
       apply wp_seq_k; intro K241 hK241
       apply wp_region_lit
       rcases ite_some H with ⟨c242, H⟩ | ⟨_, H⟩
       rotate_left
       ·cases H
       obtain ⟨b243, q244, hAc242⟩ := (o151.view).some_ (0 : Int) c242.1 (by rw [lh152]; exact c242.2)
       refine sia rfl hk rfl rfl rfl rfl un27 sz3 c242.1 c242.2 hAc242 fun a hk => ?_
       obtain ⟨_, rfl, e245⟩ := (o151.view).at_ 0 (0 : Int) c242.1 (by rw [lh152]; exact c242.2)
       refine sl (v := (.int .i64 (u149.getD (0 : Int).toNat 0))) rfl hk rfl rfl rfl ag3 ((e245 0 _ rfl).cell (hs.hasG (k := 10) rfl)) fun a hk => ?_
       rcases ite_some H with ⟨c246, H⟩ | ⟨_, H⟩
       rotate_left
       ·cases H
       obtain ⟨b247, q248, hAc246⟩ := (o151.view).some_ (1 : Int) c246.1 (by rw [lh152]; exact c246.2)
       refine sia rfl hk rfl rfl rfl rfl un27 sz3 c246.1 c246.2 hAc246 fun a hk => ?_
       obtain ⟨_, rfl, e249⟩ := (o151.view).at_ 0 (1 : Int) c246.1 (by rw [lh152]; exact c246.2)
       refine sl (v := (.int .i64 (u149.getD (1 : Int).toNat 0))) rfl hk rfl rfl rfl ag3 ((e249 0 _ rfl).cell (hs.hasG (k := 10) rfl)) fun a hk => ?_
       refine sv (.int .i64 (IntKind.wrap .i64 ((BitVec.ofInt 64 (u149.getD (0 : Int).toNat 0) &&& BitVec.ofInt 64 (u149.getD (1 : Int).toNat 0)).toNat : Int))) hk rfl rfl rfl fun a hk => ?_
       rcases ite_some H with ⟨c250, H⟩ | ⟨_, H⟩
       rotate_left
       ·cases H
       obtain ⟨b251, q252, hAc250⟩ := (o151.view).some_ (0 : Int) c250.1 (by rw [lh152]; exact c250.2)
       refine sia rfl hk rfl rfl rfl rfl un27 sz3 c250.1 c250.2 hAc250 fun a hk => ?_
       obtain ⟨_, rfl, e253⟩ := (o151.view).at_ 0 (0 : Int) c250.1 (by rw [lh152]; exact c250.2)
       refine sl (v := (.int .i64 (u149.getD (0 : Int).toNat 0))) rfl hk rfl rfl rfl ag3 ((e253 0 _ rfl).cell (hs.hasG (k := 10) rfl)) fun a hk => ?_
       rcases ite_some H with ⟨c254, H⟩ | ⟨_, H⟩
       rotate_left
       ·cases H
       obtain ⟨b255, q256, hAc254⟩ := (o151.view).some_ (2 : Int) c254.1 (by rw [lh152]; exact c254.2)
       refine sia rfl hk rfl rfl rfl rfl un27 sz3 c254.1 c254.2 hAc254 fun a hk => ?_
       obtain ⟨_, rfl, e257⟩ := (o151.view).at_ 0 (2 : Int) c254.1 (by rw [lh152]; exact c254.2)
       refine sl (v := (.int .i64 (u149.getD (2 : Int).toNat 0))) rfl hk rfl rfl rfl ag3 ((e257 0 _ rfl).cell (hs.hasG (k := 10) rfl)) fun a hk => ?_
       refine sv (.int .i64 (IntKind.wrap .i64 ((BitVec.ofInt 64 (u149.getD (0 : Int).toNat 0) &&& BitVec.ofInt 64 (u149.getD (2 : Int).toNat 0)).toNat : Int))) hk rfl rfl rfl fun a hk => ?_
       refine sv (.int .i64 (IntKind.wrap .i64 ((BitVec.ofInt 64 (IntKind.wrap .i64 ((BitVec.ofInt 64 (u149.getD (0 : Int).toNat 0) &&& BitVec.ofInt 64 (u149.getD (1 : Int).toNat 0)).toNat : Int)) ^^^ BitVec.ofInt 64 (IntKind.wrap .i64 ((BitVec.ofInt 64 (u149.getD (0 : Int).toNat 0) &&& BitVec.ofInt 64 (u149.getD (2 : Int).toNat 0)).toNat : Int))).toNat : Int))) hk rfl rfl rfl fun a hk => ?_
       rcases ite_some H with ⟨c258, H⟩ | ⟨_, H⟩
       rotate_left
       ·cases H
       obtain ⟨b259, q260, hAc258⟩ := (o151.view).some_ (1 : Int) c258.1 (by rw [lh152]; exact c258.2)
       refine sia rfl hk rfl rfl rfl rfl un27 sz3 c258.1 c258.2 hAc258 fun a hk => ?_
       obtain ⟨_, rfl, e261⟩ := (o151.view).at_ 0 (1 : Int) c258.1 (by rw [lh152]; exact c258.2)
       refine sl (v := (.int .i64 (u149.getD (1 : Int).toNat 0))) rfl hk rfl rfl rfl ag3 ((e261 0 _ rfl).cell (hs.hasG (k := 10) rfl)) fun a hk => ?_
       rcases ite_some H with ⟨c262, H⟩ | ⟨_, H⟩
       rotate_left
       ·cases H
       obtain ⟨b263, q264, hAc262⟩ := (o151.view).some_ (2 : Int) c262.1 (by rw [lh152]; exact c262.2)
       refine sia rfl hk rfl rfl rfl rfl un27 sz3 c262.1 c262.2 hAc262 fun a hk => ?_
       obtain ⟨_, rfl, e265⟩ := (o151.view).at_ 0 (2 : Int) c262.1 (by rw [lh152]; exact c262.2)
       refine sl (v := (.int .i64 (u149.getD (2 : Int).toNat 0))) rfl hk rfl rfl rfl ag3 ((e265 0 _ rfl).cell (hs.hasG (k := 10) rfl)) fun a hk => ?_
       refine sv (.int .i64 (IntKind.wrap .i64 ((BitVec.ofInt 64 (u149.getD (1 : Int).toNat 0) &&& BitVec.ofInt 64 (u149.getD (2 : Int).toNat 0)).toNat : Int))) hk rfl rfl rfl fun a hk => ?_
       refine sv (.int .i64 (IntKind.wrap .i64 ((BitVec.ofInt 64 (IntKind.wrap .i64 ((BitVec.ofInt 64 (IntKind.wrap .i64 ((BitVec.ofInt 64 (u149.getD (0 : Int).toNat 0) &&& BitVec.ofInt 64 (u149.getD (1 : Int).toNat 0)).toNat : Int)) ^^^ BitVec.ofInt 64 (IntKind.wrap .i64 ((BitVec.ofInt 64 (u149.getD (0 : Int).toNat 0) &&& BitVec.ofInt 64 (u149.getD (2 : Int).toNat 0)).toNat : Int))).toNat : Int)) ^^^ BitVec.ofInt 64 (IntKind.wrap .i64 ((BitVec.ofInt 64 (u149.getD (1 : Int).toNat 0) &&& BitVec.ofInt 64 (u149.getD (2 : Int).toNat 0)).toNat : Int))).toNat : Int))) hk rfl rfl rfl fun a hk => ?_
       refine sa _ rfl hk rfl rfl rfl fun a hk => ?_
       show wpList _ _ _ [] _ _
       refine wpList_nil ?_
       refine hK241 _ _ ?_
       have hs := hs.pick [(1, 1), (2, 2), (3, 3), (9, 9), (10, 10)] rfl
       apply wp_region_lit
       refine sm _ rfl hk rfl rfl rfl fun a hk => ?_
       refine sm _ rfl hk rfl rfl rfl fun a hk => ?_
       refine sv (.int .i64 (w64 ((w64 ((w64 ((w64 ((w64 ((u149.getD (7 : Int).toNat 0) + (IntKind.wrap .i64 ((BitVec.ofInt 64 (IntKind.wrap .i64 ((BitVec.ofInt 64 y176 ^^^ BitVec.ofInt 64 y182).toNat : Int)) ^^^ BitVec.ofInt 64 y188).toNat : Int)))) + (IntKind.wrap .i64 ((BitVec.ofInt 64 (IntKind.wrap .i64 ((BitVec.ofInt 64 (u149.getD (4 : Int).toNat 0) &&& BitVec.ofInt 64 (u149.getD (5 : Int).toNat 0)).toNat : Int)) ^^^ BitVec.ofInt 64 (IntKind.wrap .i64 ((BitVec.ofInt 64 (IntKind.wrap .i64 ((BitVec.ofInt 64 4294967295 ^^^ BitVec.ofInt 64 (u149.getD (4 : Int).toNat 0)).toNat : Int)) &&& BitVec.ofInt 64 (u149.getD (6 : Int).toNat 0)).toNat : Int))).toNat : Int)))) + (y129.getD u153.toNat 0))) + (u60.getD u153.toNat 0))) + (IntKind.wrap .i64 ((BitVec.ofInt 64 (IntKind.wrap .i64 ((BitVec.ofInt 64 y227 ^^^ BitVec.ofInt 64 y233).toNat : Int)) ^^^ BitVec.ofInt 64 y239).toNat : Int))))) hk rfl rfl rfl fun a hk => ?_
       refine sm _ rfl hk rfl rfl rfl fun a hk => ?_
       refine sv (.int .i64 (w64 ((w64 ((w64 ((w64 ((w64 ((w64 ((u149.getD (7 : Int).toNat 0) + (IntKind.wrap .i64 ((BitVec.ofInt 64 (IntKind.wrap .i64 ((BitVec.ofInt 64 y176 ^^^ BitVec.ofInt 64 y182).toNat : Int)) ^^^ BitVec.ofInt 64 y188).toNat : Int)))) + (IntKind.wrap .i64 ((BitVec.ofInt 64 (IntKind.wrap .i64 ((BitVec.ofInt 64 (u149.getD (4 : Int).toNat 0) &&& BitVec.ofInt 64 (u149.getD (5 : Int).toNat 0)).toNat : Int)) ^^^ BitVec.ofInt 64 (IntKind.wrap .i64 ((BitVec.ofInt 64 (IntKind.wrap .i64 ((BitVec.ofInt 64 4294967295 ^^^ BitVec.ofInt 64 (u149.getD (4 : Int).toNat 0)).toNat : Int)) &&& BitVec.ofInt 64 (u149.getD (6 : Int).toNat 0)).toNat : Int))).toNat : Int)))) + (y129.getD u153.toNat 0))) + (u60.getD u153.toNat 0))) + (IntKind.wrap .i64 ((BitVec.ofInt 64 (IntKind.wrap .i64 ((BitVec.ofInt 64 y227 ^^^ BitVec.ofInt 64 y233).toNat : Int)) ^^^ BitVec.ofInt 64 y239).toNat : Int)))) + (IntKind.wrap .i64 ((BitVec.ofInt 64 (IntKind.wrap .i64 ((BitVec.ofInt 64 (IntKind.wrap .i64 ((BitVec.ofInt 64 (u149.getD (0 : Int).toNat 0) &&& BitVec.ofInt 64 (u149.getD (1 : Int).toNat 0)).toNat : Int)) ^^^ BitVec.ofInt 64 (IntKind.wrap .i64 ((BitVec.ofInt 64 (u149.getD (0 : Int).toNat 0) &&& BitVec.ofInt 64 (u149.getD (2 : Int).toNat 0)).toNat : Int))).toNat : Int)) ^^^ BitVec.ofInt 64 (IntKind.wrap .i64 ((BitVec.ofInt 64 (u149.getD (1 : Int).toNat 0) &&& BitVec.ofInt 64 (u149.getD (2 : Int).toNat 0)).toNat : Int))).toNat : Int))))) hk rfl rfl rfl fun a hk => ?_
       refine sv (.int .i64 (IntKind.wrap .i64 ((BitVec.ofInt 64 (w64 ((w64 ((w64 ((w64 ((w64 ((w64 ((u149.getD (7 : Int).toNat 0) + (IntKind.wrap .i64 ((BitVec.ofInt 64 (IntKind.wrap .i64 ((BitVec.ofInt 64 y176 ^^^ BitVec.ofInt 64 y182).toNat : Int)) ^^^ BitVec.ofInt 64 y188).toNat : Int)))) + (IntKind.wrap .i64 ((BitVec.ofInt 64 (IntKind.wrap .i64 ((BitVec.ofInt 64 (u149.getD (4 : Int).toNat 0) &&& BitVec.ofInt 64 (u149.getD (5 : Int).toNat 0)).toNat : Int)) ^^^ BitVec.ofInt 64 (IntKind.wrap .i64 ((BitVec.ofInt 64 (IntKind.wrap .i64 ((BitVec.ofInt 64 4294967295 ^^^ BitVec.ofInt 64 (u149.getD (4 : Int).toNat 0)).toNat : Int)) &&& BitVec.ofInt 64 (u149.getD (6 : Int).toNat 0)).toNat : Int))).toNat : Int)))) + (y129.getD u153.toNat 0))) + (u60.getD u153.toNat 0))) + (IntKind.wrap .i64 ((BitVec.ofInt 64 (IntKind.wrap .i64 ((BitVec.ofInt 64 y227 ^^^ BitVec.ofInt 64 y233).toNat : Int)) ^^^ BitVec.ofInt 64 y239).toNat : Int)))) + (IntKind.wrap .i64 ((BitVec.ofInt 64 (IntKind.wrap .i64 ((BitVec.ofInt 64 (IntKind.wrap .i64 ((BitVec.ofInt 64 (u149.getD (0 : Int).toNat 0) &&& BitVec.ofInt 64 (u149.getD (1 : Int).toNat 0)).toNat : Int)) ^^^ BitVec.ofInt 64 (IntKind.wrap .i64 ((BitVec.ofInt 64 (u149.getD (0 : Int).toNat 0) &&& BitVec.ofInt 64 (u149.getD (2 : Int).toNat 0)).toNat : Int))).toNat : Int)) ^^^ BitVec.ofInt 64 (IntKind.wrap .i64 ((BitVec.ofInt 64 (u149.getD (1 : Int).toNat 0) &&& BitVec.ofInt 64 (u149.getD (2 : Int).toNat 0)).toNat : Int))).toNat : Int)))) &&& BitVec.ofInt 64 4294967295).toNat : Int))) hk rfl rfl rfl fun a hk => ?_
       rcases ite_some H with ⟨c266, H⟩ | ⟨_, H⟩
       rotate_left
       ·cases H
       obtain ⟨b267, q268, hAc266⟩ := (o151.view).some_ (0 : Int) c266.1 (by rw [lh152]; exact c266.2)
       refine sia rfl hk rfl rfl rfl rfl un27 sz3 c266.1 c266.2 hAc266 fun a hk => ?_
       obtain ⟨_, rfl, e269⟩ := (o151.view).at_ 0 (0 : Int) c266.1 (by rw [lh152]; exact c266.2)
       refine sl (v := (.int .i64 (u149.getD (0 : Int).toNat 0))) rfl hk rfl rfl rfl ag3 ((e269 0 _ rfl).cell (hs.hasG (k := 10) rfl)) fun a hk => ?_
       rcases ite_some H with ⟨c270, H⟩ | ⟨_, H⟩
       rotate_left
       ·cases H
       obtain ⟨b271, q272, hAc270⟩ := (o151.view).some_ (1 : Int) c270.1 (by rw [lh152]; exact c270.2)
       refine sia rfl hk rfl rfl rfl rfl un27 sz3 c270.1 c270.2 hAc270 fun a hk => ?_
       obtain ⟨_, rfl, e273⟩ := (o151.view).at_ 0 (1 : Int) c270.1 (by rw [lh152]; exact c270.2)
       refine sl (v := (.int .i64 (u149.getD (1 : Int).toNat 0))) rfl hk rfl rfl rfl ag3 ((e273 0 _ rfl).cell (hs.hasG (k := 10) rfl)) fun a hk => ?_
       rcases ite_some H with ⟨c274, H⟩ | ⟨_, H⟩
       rotate_left
       ·cases H
       obtain ⟨b275, q276, hAc274⟩ := (o151.view).some_ (2 : Int) c274.1 (by rw [lh152]; exact c274.2)
       refine sia rfl hk rfl rfl rfl rfl un27 sz3 c274.1 c274.2 hAc274 fun a hk => ?_
       obtain ⟨_, rfl, e277⟩ := (o151.view).at_ 0 (2 : Int) c274.1 (by rw [lh152]; exact c274.2)
       refine sl (v := (.int .i64 (u149.getD (2 : Int).toNat 0))) rfl hk rfl rfl rfl ag3 ((e277 0 _ rfl).cell (hs.hasG (k := 10) rfl)) fun a hk => ?_
       rcases ite_some H with ⟨c278, H⟩ | ⟨_, H⟩
       rotate_left
       ·cases H
       obtain ⟨b279, q280, hAc278⟩ := (o151.view).some_ (3 : Int) c278.1 (by rw [lh152]; exact c278.2)
       refine sia rfl hk rfl rfl rfl rfl un27 sz3 c278.1 c278.2 hAc278 fun a hk => ?_
       obtain ⟨_, rfl, e281⟩ := (o151.view).at_ 0 (3 : Int) c278.1 (by rw [lh152]; exact c278.2)
       refine sl (v := (.int .i64 (u149.getD (3 : Int).toNat 0))) rfl hk rfl rfl rfl ag3 ((e281 0 _ rfl).cell (hs.hasG (k := 10) rfl)) fun a hk => ?_
       refine sm _ rfl hk rfl rfl rfl fun a hk => ?_
       refine sv (.int .i64 (w64 ((u149.getD (3 : Int).toNat 0) + (w64 ((w64 ((w64 ((w64 ((u149.getD (7 : Int).toNat 0) + (IntKind.wrap .i64 ((BitVec.ofInt 64 (IntKind.wrap .i64 ((BitVec.ofInt 64 y176 ^^^ BitVec.ofInt 64 y182).toNat : Int)) ^^^ BitVec.ofInt 64 y188).toNat : Int)))) + (IntKind.wrap .i64 ((BitVec.ofInt 64 (IntKind.wrap .i64 ((BitVec.ofInt 64 (u149.getD (4 : Int).toNat 0) &&& BitVec.ofInt 64 (u149.getD (5 : Int).toNat 0)).toNat : Int)) ^^^ BitVec.ofInt 64 (IntKind.wrap .i64 ((BitVec.ofInt 64 (IntKind.wrap .i64 ((BitVec.ofInt 64 4294967295 ^^^ BitVec.ofInt 64 (u149.getD (4 : Int).toNat 0)).toNat : Int)) &&& BitVec.ofInt 64 (u149.getD (6 : Int).toNat 0)).toNat : Int))).toNat : Int)))) + (y129.getD u153.toNat 0))) + (u60.getD u153.toNat 0)))))) hk rfl rfl rfl fun a hk => ?_
       refine sv (.int .i64 (IntKind.wrap .i64 ((BitVec.ofInt 64 (w64 ((u149.getD (3 : Int).toNat 0) + (w64 ((w64 ((w64 ((w64 ((u149.getD (7 : Int).toNat 0) + (IntKind.wrap .i64 ((BitVec.ofInt 64 (IntKind.wrap .i64 ((BitVec.ofInt 64 y176 ^^^ BitVec.ofInt 64 y182).toNat : Int)) ^^^ BitVec.ofInt 64 y188).toNat : Int)))) + (IntKind.wrap .i64 ((BitVec.ofInt 64 (IntKind.wrap .i64 ((BitVec.ofInt 64 (u149.getD (4 : Int).toNat 0) &&& BitVec.ofInt 64 (u149.getD (5 : Int).toNat 0)).toNat : Int)) ^^^ BitVec.ofInt 64 (IntKind.wrap .i64 ((BitVec.ofInt 64 (IntKind.wrap .i64 ((BitVec.ofInt 64 4294967295 ^^^ BitVec.ofInt 64 (u149.getD (4 : Int).toNat 0)).toNat : Int)) &&& BitVec.ofInt 64 (u149.getD (6 : Int).toNat 0)).toNat : Int))).toNat : Int)))) + (y129.getD u153.toNat 0))) + (u60.getD u153.toNat 0))))) &&& BitVec.ofInt 64 4294967295).toNat : Int))) hk rfl rfl rfl fun a hk => ?_
       rcases ite_some H with ⟨c282, H⟩ | ⟨_, H⟩
       rotate_left
       ·cases H
       obtain ⟨b283, q284, hAc282⟩ := (o151.view).some_ (4 : Int) c282.1 (by rw [lh152]; exact c282.2)
       refine sia rfl hk rfl rfl rfl rfl un27 sz3 c282.1 c282.2 hAc282 fun a hk => ?_
       obtain ⟨_, rfl, e285⟩ := (o151.view).at_ 0 (4 : Int) c282.1 (by rw [lh152]; exact c282.2)
       refine sl (v := (.int .i64 (u149.getD (4 : Int).toNat 0))) rfl hk rfl rfl rfl ag3 ((e285 0 _ rfl).cell (hs.hasG (k := 10) rfl)) fun a hk => ?_
       rcases ite_some H with ⟨c286, H⟩ | ⟨_, H⟩
       rotate_left
       ·cases H
       obtain ⟨b287, q288, hAc286⟩ := (o151.view).some_ (5 : Int) c286.1 (by rw [lh152]; exact c286.2)
       refine sia rfl hk rfl rfl rfl rfl un27 sz3 c286.1 c286.2 hAc286 fun a hk => ?_
       obtain ⟨_, rfl, e289⟩ := (o151.view).at_ 0 (5 : Int) c286.1 (by rw [lh152]; exact c286.2)
       refine sl (v := (.int .i64 (u149.getD (5 : Int).toNat 0))) rfl hk rfl rfl rfl ag3 ((e289 0 _ rfl).cell (hs.hasG (k := 10) rfl)) fun a hk => ?_
       rcases ite_some H with ⟨c290, H⟩ | ⟨_, H⟩
       rotate_left
       ·cases H
       obtain ⟨b291, q292, hAc290⟩ := (o151.view).some_ (6 : Int) c290.1 (by rw [lh152]; exact c290.2)
       refine sia rfl hk rfl rfl rfl rfl un27 sz3 c290.1 c290.2 hAc290 fun a hk => ?_
       obtain ⟨_, rfl, e293⟩ := (o151.view).at_ 0 (6 : Int) c290.1 (by rw [lh152]; exact c290.2)
       refine sl (v := (.int .i64 (u149.getD (6 : Int).toNat 0))) rfl hk rfl rfl rfl ag3 ((e293 0 _ rfl).cell (hs.hasG (k := 10) rfl)) fun a hk => ?_
       refine sbd (pv := [(0, (.int .i64 (IntKind.wrap .i64 ((BitVec.ofInt 64 (w64 ((w64 ((w64 ((w64 ((w64 ((w64 ((u149.getD (7 : Int).toNat 0) + (IntKind.wrap .i64 ((BitVec.ofInt 64 (IntKind.wrap .i64 ((BitVec.ofInt 64 y176 ^^^ BitVec.ofInt 64 y182).toNat : Int)) ^^^ BitVec.ofInt 64 y188).toNat : Int)))) + (IntKind.wrap .i64 ((BitVec.ofInt 64 (IntKind.wrap .i64 ((BitVec.ofInt 64 (u149.getD (4 : Int).toNat 0) &&& BitVec.ofInt 64 (u149.getD (5 : Int).toNat 0)).toNat : Int)) ^^^ BitVec.ofInt 64 (IntKind.wrap .i64 ((BitVec.ofInt 64 (IntKind.wrap .i64 ((BitVec.ofInt 64 4294967295 ^^^ BitVec.ofInt 64 (u149.getD (4 : Int).toNat 0)).toNat : Int)) &&& BitVec.ofInt 64 (u149.getD (6 : Int).toNat 0)).toNat : Int))).toNat : Int)))) + (y129.getD u153.toNat 0))) + (u60.getD u153.toNat 0))) + (IntKind.wrap .i64 ((BitVec.ofInt 64 (IntKind.wrap .i64 ((BitVec.ofInt 64 y227 ^^^ BitVec.ofInt 64 y233).toNat : Int)) ^^^ BitVec.ofInt 64 y239).toNat : Int)))) + (IntKind.wrap .i64 ((BitVec.ofInt 64 (IntKind.wrap .i64 ((BitVec.ofInt 64 (IntKind.wrap .i64 ((BitVec.ofInt 64 (u149.getD (0 : Int).toNat 0) &&& BitVec.ofInt 64 (u149.getD (1 : Int).toNat 0)).toNat : Int)) ^^^ BitVec.ofInt 64 (IntKind.wrap .i64 ((BitVec.ofInt 64 (u149.getD (0 : Int).toNat 0) &&& BitVec.ofInt 64 (u149.getD (2 : Int).toNat 0)).toNat : Int))).toNat : Int)) ^^^ BitVec.ofInt 64 (IntKind.wrap .i64 ((BitVec.ofInt 64 (u149.getD (1 : Int).toNat 0) &&& BitVec.ofInt 64 (u149.getD (2 : Int).toNat 0)).toNat : Int))).toNat : Int)))) &&& BitVec.ofInt 64 4294967295).toNat : Int)))), (1, (.int .i64 (u149.getD (0 : Int).toNat 0))), (2, (.int .i64 (u149.getD (1 : Int).toNat 0))), (3, (.int .i64 (u149.getD (2 : Int).toNat 0))), (4, (.int .i64 (IntKind.wrap .i64 ((BitVec.ofInt 64 (w64 ((u149.getD (3 : Int).toNat 0) + (w64 ((w64 ((w64 ((w64 ((u149.getD (7 : Int).toNat 0) + (IntKind.wrap .i64 ((BitVec.ofInt 64 (IntKind.wrap .i64 ((BitVec.ofInt 64 y176 ^^^ BitVec.ofInt 64 y182).toNat : Int)) ^^^ BitVec.ofInt 64 y188).toNat : Int)))) + (IntKind.wrap .i64 ((BitVec.ofInt 64 (IntKind.wrap .i64 ((BitVec.ofInt 64 (u149.getD (4 : Int).toNat 0) &&& BitVec.ofInt 64 (u149.getD (5 : Int).toNat 0)).toNat : Int)) ^^^ BitVec.ofInt 64 (IntKind.wrap .i64 ((BitVec.ofInt 64 (IntKind.wrap .i64 ((BitVec.ofInt 64 4294967295 ^^^ BitVec.ofInt 64 (u149.getD (4 : Int).toNat 0)).toNat : Int)) &&& BitVec.ofInt 64 (u149.getD (6 : Int).toNat 0)).toNat : Int))).toNat : Int)))) + (y129.getD u153.toNat 0))) + (u60.getD u153.toNat 0))))) &&& BitVec.ofInt 64 4294967295).toNat : Int)))), (5, (.int .i64 (u149.getD (4 : Int).toNat 0))), (6, (.int .i64 (u149.getD (5 : Int).toNat 0))), (7, (.int .i64 (u149.getD (6 : Int).toNat 0)))]) rfl hk rfl rfl rfl (bd27_3 (IntKind.wrap .i64 ((BitVec.ofInt 64 (w64 ((w64 ((w64 ((w64 ((w64 ((w64 ((u149.getD (7 : Int).toNat 0) + (IntKind.wrap .i64 ((BitVec.ofInt 64 (IntKind.wrap .i64 ((BitVec.ofInt 64 y176 ^^^ BitVec.ofInt 64 y182).toNat : Int)) ^^^ BitVec.ofInt 64 y188).toNat : Int)))) + (IntKind.wrap .i64 ((BitVec.ofInt 64 (IntKind.wrap .i64 ((BitVec.ofInt 64 (u149.getD (4 : Int).toNat 0) &&& BitVec.ofInt 64 (u149.getD (5 : Int).toNat 0)).toNat : Int)) ^^^ BitVec.ofInt 64 (IntKind.wrap .i64 ((BitVec.ofInt 64 (IntKind.wrap .i64 ((BitVec.ofInt 64 4294967295 ^^^ BitVec.ofInt 64 (u149.getD (4 : Int).toNat 0)).toNat : Int)) &&& BitVec.ofInt 64 (u149.getD (6 : Int).toNat 0)).toNat : Int))).toNat : Int)))) + (y129.getD u153.toNat 0))) + (u60.getD u153.toNat 0))) + (IntKind.wrap .i64 ((BitVec.ofInt 64 (IntKind.wrap .i64 ((BitVec.ofInt 64 y227 ^^^ BitVec.ofInt 64 y233).toNat : Int)) ^^^ BitVec.ofInt 64 y239).toNat : Int)))) + (IntKind.wrap .i64 ((BitVec.ofInt 64 (IntKind.wrap .i64 ((BitVec.ofInt 64 (IntKind.wrap .i64 ((BitVec.ofInt 64 (u149.getD (0 : Int).toNat 0) &&& BitVec.ofInt 64 (u149.getD (1 : Int).toNat 0)).toNat : Int)) ^^^ BitVec.ofInt 64 (IntKind.wrap .i64 ((BitVec.ofInt 64 (u149.getD (0 : Int).toNat 0) &&& BitVec.ofInt 64 (u149.getD (2 : Int).toNat 0)).toNat : Int))).toNat : Int)) ^^^ BitVec.ofInt 64 (IntKind.wrap .i64 ((BitVec.ofInt 64 (u149.getD (1 : Int).toNat 0) &&& BitVec.ofInt 64 (u149.getD (2 : Int).toNat 0)).toNat : Int))).toNat : Int)))) &&& BitVec.ofInt 64 4294967295).toNat : Int)) (u149.getD (0 : Int).toNat 0) (u149.getD (1 : Int).toNat 0) (u149.getD (2 : Int).toNat 0) (IntKind.wrap .i64 ((BitVec.ofInt 64 (w64 ((u149.getD (3 : Int).toNat 0) + (w64 ((w64 ((w64 ((w64 ((u149.getD (7 : Int).toNat 0) + (IntKind.wrap .i64 ((BitVec.ofInt 64 (IntKind.wrap .i64 ((BitVec.ofInt 64 y176 ^^^ BitVec.ofInt 64 y182).toNat : Int)) ^^^ BitVec.ofInt 64 y188).toNat : Int)))) + (IntKind.wrap .i64 ((BitVec.ofInt 64 (IntKind.wrap .i64 ((BitVec.ofInt 64 (u149.getD (4 : Int).toNat 0) &&& BitVec.ofInt 64 (u149.getD (5 : Int).toNat 0)).toNat : Int)) ^^^ BitVec.ofInt 64 (IntKind.wrap .i64 ((BitVec.ofInt 64 (IntKind.wrap .i64 ((BitVec.ofInt 64 4294967295 ^^^ BitVec.ofInt 64 (u149.getD (4 : Int).toNat 0)).toNat : Int)) &&& BitVec.ofInt 64 (u149.getD (6 : Int).toNat 0)).toNat : Int))).toNat : Int)))) + (y129.getD u153.toNat 0))) + (u60.getD u153.toNat 0))))) &&& BitVec.ofInt 64 4294967295).toNat : Int)) (u149.getD (4 : Int).toNat 0) (u149.getD (5 : Int).toNat 0) (u149.getD (6 : Int).toNat 0)) fun a hk => ?_
       have lh294 : ([(IntKind.wrap .i64 ((BitVec.ofInt 64 (w64 ((w64 ((w64 ((w64 ((w64 ((w64 ((u149.getD (7 : Int).toNat 0) + (IntKind.wrap .i64 ((BitVec.ofInt 64 (IntKind.wrap .i64 ((BitVec.ofInt 64 y176 ^^^ BitVec.ofInt 64 y182).toNat : Int)) ^^^ BitVec.ofInt 64 y188).toNat : Int)))) + (IntKind.wrap .i64 ((BitVec.ofInt 64 (IntKind.wrap .i64 ((BitVec.ofInt 64 (u149.getD (4 : Int).toNat 0) &&& BitVec.ofInt 64 (u149.getD (5 : Int).toNat 0)).toNat : Int)) ^^^ BitVec.ofInt 64 (IntKind.wrap .i64 ((BitVec.ofInt 64 (IntKind.wrap .i64 ((BitVec.ofInt 64 4294967295 ^^^ BitVec.ofInt 64 (u149.getD (4 : Int).toNat 0)).toNat : Int)) &&& BitVec.ofInt 64 (u149.getD (6 : Int).toNat 0)).toNat : Int))).toNat : Int)))) + (y129.getD u153.toNat 0))) + (u60.getD u153.toNat 0))) + (IntKind.wrap .i64 ((BitVec.ofInt 64 (IntKind.wrap .i64 ((BitVec.ofInt 64 y227 ^^^ BitVec.ofInt 64 y233).toNat : Int)) ^^^ BitVec.ofInt 64 y239).toNat : Int)))) + (IntKind.wrap .i64 ((BitVec.ofInt 64 (IntKind.wrap .i64 ((BitVec.ofInt 64 (IntKind.wrap .i64 ((BitVec.ofInt 64 (u149.getD (0 : Int).toNat 0) &&& BitVec.ofInt 64 (u149.getD (1 : Int).toNat 0)).toNat : Int)) ^^^ BitVec.ofInt 64 (IntKind.wrap .i64 ((BitVec.ofInt 64 (u149.getD (0 : Int).toNat 0) &&& BitVec.ofInt 64 (u149.getD (2 : Int).toNat 0)).toNat : Int))).toNat : Int)) ^^^ BitVec.ofInt 64 (IntKind.wrap .i64 ((BitVec.ofInt 64 (u149.getD (1 : Int).toNat 0) &&& BitVec.ofInt 64 (u149.getD (2 : Int).toNat 0)).toNat : Int))).toNat : Int)))) &&& BitVec.ofInt 64 4294967295).toNat : Int)), (u149.getD (0 : Int).toNat 0), (u149.getD (1 : Int).toNat 0), (u149.getD (2 : Int).toNat 0), (IntKind.wrap .i64 ((BitVec.ofInt 64 (w64 ((u149.getD (3 : Int).toNat 0) + (w64 ((w64 ((w64 ((w64 ((u149.getD (7 : Int).toNat 0) + (IntKind.wrap .i64 ((BitVec.ofInt 64 (IntKind.wrap .i64 ((BitVec.ofInt 64 y176 ^^^ BitVec.ofInt 64 y182).toNat : Int)) ^^^ BitVec.ofInt 64 y188).toNat : Int)))) + (IntKind.wrap .i64 ((BitVec.ofInt 64 (IntKind.wrap .i64 ((BitVec.ofInt 64 (u149.getD (4 : Int).toNat 0) &&& BitVec.ofInt 64 (u149.getD (5 : Int).toNat 0)).toNat : Int)) ^^^ BitVec.ofInt 64 (IntKind.wrap .i64 ((BitVec.ofInt 64 (IntKind.wrap .i64 ((BitVec.ofInt 64 4294967295 ^^^ BitVec.ofInt 64 (u149.getD (4 : Int).toNat 0)).toNat : Int)) &&& BitVec.ofInt 64 (u149.getD (6 : Int).toNat 0)).toNat : Int))).toNat : Int)))) + (y129.getD u153.toNat 0))) + (u60.getD u153.toNat 0))))) &&& BitVec.ofInt 64 4294967295).toNat : Int)), (u149.getD (4 : Int).toNat 0), (u149.getD (5 : Int).toNat 0), (u149.getD (6 : Int).toNat 0)] : List Int).length = 8 := rfl
       refine sswa 10 ([(IntKind.wrap .i64 ((BitVec.ofInt 64 (w64 ((w64 ((w64 ((w64 ((w64 ((w64 ((u149.getD (7 : Int).toNat 0) + (IntKind.wrap .i64 ((BitVec.ofInt 64 (IntKind.wrap .i64 ((BitVec.ofInt 64 y176 ^^^ BitVec.ofInt 64 y182).toNat : Int)) ^^^ BitVec.ofInt 64 y188).toNat : Int)))) + (IntKind.wrap .i64 ((BitVec.ofInt 64 (IntKind.wrap .i64 ((BitVec.ofInt 64 (u149.getD (4 : Int).toNat 0) &&& BitVec.ofInt 64 (u149.getD (5 : Int).toNat 0)).toNat : Int)) ^^^ BitVec.ofInt 64 (IntKind.wrap .i64 ((BitVec.ofInt 64 (IntKind.wrap .i64 ((BitVec.ofInt 64 4294967295 ^^^ BitVec.ofInt 64 (u149.getD (4 : Int).toNat 0)).toNat : Int)) &&& BitVec.ofInt 64 (u149.getD (6 : Int).toNat 0)).toNat : Int))).toNat : Int)))) + (y129.getD u153.toNat 0))) + (u60.getD u153.toNat 0))) + (IntKind.wrap .i64 ((BitVec.ofInt 64 (IntKind.wrap .i64 ((BitVec.ofInt 64 y227 ^^^ BitVec.ofInt 64 y233).toNat : Int)) ^^^ BitVec.ofInt 64 y239).toNat : Int)))) + (IntKind.wrap .i64 ((BitVec.ofInt 64 (IntKind.wrap .i64 ((BitVec.ofInt 64 (IntKind.wrap .i64 ((BitVec.ofInt 64 (u149.getD (0 : Int).toNat 0) &&& BitVec.ofInt 64 (u149.getD (1 : Int).toNat 0)).toNat : Int)) ^^^ BitVec.ofInt 64 (IntKind.wrap .i64 ((BitVec.ofInt 64 (u149.getD (0 : Int).toNat 0) &&& BitVec.ofInt 64 (u149.getD (2 : Int).toNat 0)).toNat : Int))).toNat : Int)) ^^^ BitVec.ofInt 64 (IntKind.wrap .i64 ((BitVec.ofInt 64 (u149.getD (1 : Int).toNat 0) &&& BitVec.ofInt 64 (u149.getD (2 : Int).toNat 0)).toNat : Int))).toNat : Int)))) &&& BitVec.ofInt 64 4294967295).toNat : Int)), (u149.getD (0 : Int).toNat 0), (u149.getD (1 : Int).toNat 0), (u149.getD (2 : Int).toNat 0), (IntKind.wrap .i64 ((BitVec.ofInt 64 (w64 ((u149.getD (3 : Int).toNat 0) + (w64 ((w64 ((w64 ((w64 ((u149.getD (7 : Int).toNat 0) + (IntKind.wrap .i64 ((BitVec.ofInt 64 (IntKind.wrap .i64 ((BitVec.ofInt 64 y176 ^^^ BitVec.ofInt 64 y182).toNat : Int)) ^^^ BitVec.ofInt 64 y188).toNat : Int)))) + (IntKind.wrap .i64 ((BitVec.ofInt 64 (IntKind.wrap .i64 ((BitVec.ofInt 64 (u149.getD (4 : Int).toNat 0) &&& BitVec.ofInt 64 (u149.getD (5 : Int).toNat 0)).toNat : Int)) ^^^ BitVec.ofInt 64 (IntKind.wrap .i64 ((BitVec.ofInt 64 (IntKind.wrap .i64 ((BitVec.ofInt 64 4294967295 ^^^ BitVec.ofInt 64 (u149.getD (4 : Int).toNat 0)).toNat : Int)) &&& BitVec.ofInt 64 (u149.getD (6 : Int).toNat 0)).toNat : Int))).toNat : Int)))) + (y129.getD u153.toNat 0))) + (u60.getD u153.toNat 0))))) &&& BitVec.ofInt 64 4294967295).toNat : Int)), (u149.getD (4 : Int).toNat 0), (u149.getD (5 : Int).toNat 0), (u149.getD (6 : Int).toNat 0)] : List Int) hs rfl o151 lh152 lh294 rfl rfl hk rfl rfl rfl rfl sz27 fun k295 w a hk o296 hs => ?_
       show wpList _ _ _ [] _ _
       refine wpList_nil ?_
       refine hK169 _ _ ?_
       apply wp_region_lit
       refine sm _ rfl hk rfl rfl rfl fun a hk => ?_
       refine sv (.int .i64 (w64 (u153 + 1))) hk rfl rfl rfl fun a hk => ?_
       refine sa _ rfl hk rfl rfl rfl fun a hk => ?_
       show wpList _ _ _ [] _ _
       refine wpList_nil ?_
       obtain rfl := Option.some.inj H
       obtain ⟨m297, hmm297, h165⟩ := h165
       show ∃ n', n' < _ ∧ I162 n' _ _
       refine ⟨m297, hmm297, ?_⟩
       rw [hI162]
       exact ⟨([(IntKind.wrap .i64 ((BitVec.ofInt 64 (w64 ((w64 ((w64 ((w64 ((w64 ((w64 ((u149.getD (7 : Int).toNat 0) + (IntKind.wrap .i64 ((BitVec.ofInt 64 (IntKind.wrap .i64 ((BitVec.ofInt 64 y176 ^^^ BitVec.ofInt 64 y182).toNat : Int)) ^^^ BitVec.ofInt 64 y188).toNat : Int)))) + (IntKind.wrap .i64 ((BitVec.ofInt 64 (IntKind.wrap .i64 ((BitVec.ofInt 64 (u149.getD (4 : Int).toNat 0) &&& BitVec.ofInt 64 (u149.getD (5 : Int).toNat 0)).toNat : Int)) ^^^ BitVec.ofInt 64 (IntKind.wrap .i64 ((BitVec.ofInt 64 (IntKind.wrap .i64 ((BitVec.ofInt 64 4294967295 ^^^ BitVec.ofInt 64 (u149.getD (4 : Int).toNat 0)).toNat : Int)) &&& BitVec.ofInt 64 (u149.getD (6 : Int).toNat 0)).toNat : Int))).toNat : Int)))) + (y129.getD u153.toNat 0))) + (u60.getD u153.toNat 0))) + (IntKind.wrap .i64 ((BitVec.ofInt 64 (IntKind.wrap .i64 ((BitVec.ofInt 64 y227 ^^^ BitVec.ofInt 64 y233).toNat : Int)) ^^^ BitVec.ofInt 64 y239).toNat : Int)))) + (IntKind.wrap .i64 ((BitVec.ofInt 64 (IntKind.wrap .i64 ((BitVec.ofInt 64 (IntKind.wrap .i64 ((BitVec.ofInt 64 (u149.getD (0 : Int).toNat 0) &&& BitVec.ofInt 64 (u149.getD (1 : Int).toNat 0)).toNat : Int)) ^^^ BitVec.ofInt 64 (IntKind.wrap .i64 ((BitVec.ofInt 64 (u149.getD (0 : Int).toNat 0) &&& BitVec.ofInt 64 (u149.getD (2 : Int).toNat 0)).toNat : Int))).toNat : Int)) ^^^ BitVec.ofInt 64 (IntKind.wrap .i64 ((BitVec.ofInt 64 (u149.getD (1 : Int).toNat 0) &&& BitVec.ofInt 64 (u149.getD (2 : Int).toNat 0)).toNat : Int))).toNat : Int)))) &&& BitVec.ofInt 64 4294967295).toNat : Int)), (u149.getD (0 : Int).toNat 0), (u149.getD (1 : Int).toNat 0), (u149.getD (2 : Int).toNat 0), (IntKind.wrap .i64 ((BitVec.ofInt 64 (w64 ((u149.getD (3 : Int).toNat 0) + (w64 ((w64 ((w64 ((w64 ((u149.getD (7 : Int).toNat 0) + (IntKind.wrap .i64 ((BitVec.ofInt 64 (IntKind.wrap .i64 ((BitVec.ofInt 64 y176 ^^^ BitVec.ofInt 64 y182).toNat : Int)) ^^^ BitVec.ofInt 64 y188).toNat : Int)))) + (IntKind.wrap .i64 ((BitVec.ofInt 64 (IntKind.wrap .i64 ((BitVec.ofInt 64 (u149.getD (4 : Int).toNat 0) &&& BitVec.ofInt 64 (u149.getD (5 : Int).toNat 0)).toNat : Int)) ^^^ BitVec.ofInt 64 (IntKind.wrap .i64 ((BitVec.ofInt 64 (IntKind.wrap .i64 ((BitVec.ofInt 64 4294967295 ^^^ BitVec.ofInt 64 (u149.getD (4 : Int).toNat 0)).toNat : Int)) &&& BitVec.ofInt 64 (u149.getD (6 : Int).toNat 0)).toNat : Int))).toNat : Int)))) + (y129.getD u153.toNat 0))) + (u60.getD u153.toNat 0))))) &&& BitVec.ofInt 64 4294967295).toNat : Int)), (u149.getD (4 : Int).toNat 0), (u149.getD (5 : Int).toNat 0), (u149.getD (6 : Int).toNat 0)] : List Int), (w64 (u153 + 1)), _, h165, (hk.c 2 rfl (hk.c 4 rfl (hk.c 5 rfl (hk.c 10 rfl (hk.c 11 rfl (hk.c 12 rfl hk.k)))))), (hs.pick [(1, 1), (2, 2), (3, 3), (9, 9), (10, 10)] rfl), o296, lh294⟩
      ·have hk := hk.lit 87 c168 rfl
       refine cnd_false hk rfl rfl ?_
       refine wp_exit ?_
       obtain rfl := Option.some.inj H
       show R161 _ _
       rw [hR161]
       exact ⟨u149, _, h165.symm, (hk.c 2 rfl (hk.c 4 rfl (hk.c 11 rfl hk.k))), (hs.pick [(1, 1), (2, 2), (10, 10)] rfl), o151, lh152⟩
    ·intro a w hR0
     rw [hR161] at hR0
     obtain ⟨u154, k155, rfl, hk, hs, o156, lh157⟩ := hR0
     have H := HL160
     try dsimp only at H
     refine hK145 _ _ ?_
     apply wp_seq_k; intro K298 hK298
     apply wp_seq_k; intro K299 hK299
     apply wp_region_lit
     refine sa _ rfl hk rfl rfl rfl fun a hk => ?_
     show wpList _ _ _ [] _ _
     refine wpList_nil ?_
     refine hK299 _ _ ?_
     obtain ⟨o311, h312, HL313⟩ := bind_some H
     clear H
     obtain ⟨R314, hR314⟩ : ∃ R : Act → World → Prop, R = fun a w => ∃ (u307 : List Int) (k308 : Chunk), o311 = .out u307 ∧ Kn [(2, (.pointer (some ⟨b2, 0, none⟩))), (4, (.pointer (some ⟨b5, 0, none⟩)))] 194 a ∧ Sat [] w0 w [] [(1, k308), (2, k6)] ∧ Own (Lay.int .i64) 27 (some ⟨b2, 0, none⟩) 8 u307 k308 ∧ u307.length = 8 := ⟨_, rfl⟩
     refine wp_cutq R314 ?_ ?_
     ·refine wp_block ?_
      obtain ⟨fu316, h312⟩ := loopO_some h312
      obtain ⟨I315, hI315⟩ : ∃ I : Nat → Act → World → Prop, I = fun fu a w => ∃ (u302 : List Int) (u306 : Int) (k303 : Chunk), loopN (fun s => spec_l01Block.s3 u154 s.1 s.2) fu (u302, u306) = some o311 ∧ Kn [(2, (.pointer (some ⟨b2, 0, none⟩))), (4, (.pointer (some ⟨b5, 0, none⟩))), (11, (.pointer (some ⟨b139, 0, none⟩))), (18, (.int .i64 u306))] 194 a ∧ Sat [] w0 w [] [(1, k303), (2, k6), (10, k155)] ∧ Own (Lay.int .i64) 27 (some ⟨b2, 0, none⟩) 8 u302 k303 ∧ u302.length = 8 := ⟨_, rfl⟩
      refine wp_loop_ghost I315 fu316 ?_ ?_
      ·rw [hI315]
       exact ⟨x0, 0, _, h312, (hk.c 2 rfl (hk.c 4 rfl (hk.c 11 rfl (hk.c 18 rfl hk.k)))), (hs.pick [(1, 1), (2, 2), (10, 10)] rfl), o4, e0_⟩
      ·clear h312 hk hs
       intro fu316 a w hI0
       rw [hI315] at hI0
       obtain ⟨u302, u306, k303, hi, hk, hs, o304, lh305⟩ := hI0
       obtain ⟨x317, H, h318⟩ := loop_round hi
       try dsimp only at H
       unfold spec_l01Block.s3 at H
       apply wp_seq_k; intro K319 hK319
       apply wp_seq_k; intro K320 hK320
       apply wp_region_lit
       refine sm _ rfl hk rfl rfl rfl fun a hk => ?_
       refine sv (.bool (decide (u306 < 8))) hk rfl rfl rfl fun a hk => ?_
       show wpList _ _ _ [] _ _
       refine wpList_nil ?_
       refine hK320 _ _ ?_
       have hs := hs.pick [(1, 1), (2, 2), (10, 10)] rfl
       rcases cond_some H with ⟨c321, H⟩ | ⟨c321, H⟩
       ·have hk := hk.lit 180 c321 rfl
        refine cnd_true hk rfl rfl ?_
        refine wp_skip ?_
        refine hK319 _ _ ?_
        apply wp_seq_k; intro K322 hK322
        refine wp_block ?_
        refine wp_region_tree (.q 0 (.q 1 (.q 2 (.q 3 (.alt 4 (.alt 5 (.alt 6 (.alt 7 (.alt 8 (.alt 9 (.last 10) .stop) .stop) .stop) .stop) .stop) .stop))))) mo (by kernel_rfl) (hs.pick [(1, 1), (2, 2), (10, 10)] rfl) fun _ => ?_
        have hs := hs.drew
        refine tqst (.int .i64 u306) hk rfl rfl rfl rfl (fun w hs => sm _ rfl hk rfl rfl rfl fun a hk => qe hk) fun a hk => ?_
        refine tqst (.int .i64 u306) hk rfl rfl rfl rfl (fun w hs => sm _ rfl hk rfl rfl rfl fun a hk => qe hk) fun a hk => ?_
        rcases ite_some H with ⟨c324, H⟩ | ⟨_, H⟩
        rotate_left
        ·cases H
        obtain ⟨b325, q326, hAc324⟩ := (o304.view).some_ u306 c324.1 (by rw [lh305]; exact c324.2)
        refine tqst (.pointer (some (padd (some ⟨b2, 0, none⟩) (u306.toNat * 1)))) hk rfl rfl rfl rfl (fun w hs => sia rfl hk rfl rfl rfl rfl un27 sz3 c324.1 c324.2 hAc324 fun a hk => qe hk) fun a hk => ?_
        obtain ⟨_, rfl, e327⟩ := (o304.view).at_ 0 u306 c324.1 (by rw [lh305]; exact c324.2)
        refine tqst (.int .i64 (u302.getD u306.toNat 0)) hk rfl rfl rfl rfl (fun w hs => sl (v := (.int .i64 (u302.getD u306.toNat 0))) rfl hk rfl rfl rfl ag3 ((e327 0 _ rfl).cell (hs.hasG (k := 1) rfl)) fun a hk => qe hk) fun a hk => ?_
        refine tsst hk rfl rfl (fun K_r323_4 hK_r323_4 w hF => ?_) wt_stop
        have hs := hs.f hF
        refine sm _ rfl hk rfl rfl rfl fun a hk => ?_
        refine se (hs.pick [(1, 1), (2, 2), (10, 10)] rfl) hk (hK_r323_4 _ _ ?_)
        refine tsst hk rfl rfl (fun K_r323_5 hK_r323_5 w hF => ?_) wt_stop
        have hs := hs.f hF
        rcases ite_some H with ⟨c328, H⟩ | ⟨_, H⟩
        rotate_left
        ·cases H
        obtain ⟨b329, q330, hAc328⟩ := (o156.view).some_ u306 c328.1 (by rw [lh157]; exact c328.2)
        refine sia rfl hk rfl rfl rfl rfl un27 sz3 c328.1 c328.2 hAc328 fun a hk => ?_
        refine se (hs.pick [(1, 1), (2, 2), (10, 10)] rfl) hk (hK_r323_5 _ _ ?_)
        refine tsst hk rfl rfl (fun K_r323_6 hK_r323_6 w hF => ?_) wt_stop
        have hs := hs.f hF
        obtain ⟨_, rfl, e331⟩ := (o156.view).at_ 0 u306 c328.1 (by rw [lh157]; exact c328.2)
        refine sl (v := (.int .i64 (u154.getD u306.toNat 0))) rfl hk rfl rfl rfl ag3 ((e331 0 _ rfl).cell (hs.hasG (k := 10) rfl)) fun a hk => ?_
        refine se (hs.pick [(1, 1), (2, 2), (10, 10)] rfl) hk (hK_r323_6 _ _ ?_)
        refine tsst hk rfl rfl (fun K_r323_7 hK_r323_7 w hF => ?_) wt_stop
        have hs := hs.f hF
        refine sv (.int .i64 (w64 ((u302.getD u306.toNat 0) + (u154.getD u306.toNat 0)))) hk rfl rfl rfl fun a hk => ?_
        refine se (hs.pick [(1, 1), (2, 2), (10, 10)] rfl) hk (hK_r323_7 _ _ ?_)
        refine tsst hk rfl rfl (fun K_r323_8 hK_r323_8 w hF => ?_) wt_stop
        have hs := hs.f hF
        refine sv (.int .i64 (IntKind.wrap .i64 ((BitVec.ofInt 64 (w64 ((u302.getD u306.toNat 0) + (u154.getD u306.toNat 0))) &&& BitVec.ofInt 64 4294967295).toNat : Int))) hk rfl rfl rfl fun a hk => ?_
        refine se (hs.pick [(1, 1), (2, 2), (10, 10)] rfl) hk (hK_r323_8 _ _ ?_)
        refine tsst hk rfl rfl (fun K_r323_9 hK_r323_9 w hF => ?_) wt_stop
        have hs := hs.f hF
        rcases ite_some H with ⟨c332, H⟩ | ⟨_, H⟩
        rotate_left
        ·cases H
        obtain ⟨b333, q334, hAc332⟩ := (o304.view).some_ u306 c332.1 (by rw [lh305]; exact c332.2)
        refine sia rfl hk rfl rfl rfl rfl un27 sz3 c332.1 c332.2 hAc332 fun a hk => ?_
        refine se (hs.pick [(1, 1), (2, 2), (10, 10)] rfl) hk (hK_r323_9 _ _ ?_)
        refine tlst hk rfl rfl fun K_r323_10 hK_r323_10 w hF => ?_
        have hs := hs.f hF
        refine so (j := 0) 1 0 (IntKind.wrap .i64 ((BitVec.ofInt 64 (w64 ((u302.getD u306.toNat 0) + (u154.getD u306.toNat 0))) &&& BitVec.ofInt 64 4294967295).toNat : Int)) hs rfl o304 c332.1 (by rw [lh305]; exact c332.2) rfl hk rfl rfl rfl rfl rfl sz3 (by simp [Value.cells, Value.oneCell']) (Nat.le_of_ble_eq_true rfl) (fun _ _ h => ⟨by rw [h.1]; rfl, h.2⟩) fun k335 w a hk o336 hs => ?_
        have lh337 : (u302.set u306.toNat (IntKind.wrap .i64 ((BitVec.ofInt 64 (w64 ((u302.getD u306.toNat 0) + (u154.getD u306.toNat 0))) &&& BitVec.ofInt 64 4294967295).toNat : Int))).length = 8 := by rw [List.length_set]; exact lh305
        refine se trivial hk (hK_r323_10 _ _ fun w hF => ?_)
        have hs := hs.f hF
        refine hK322 _ _ ?_
        apply wp_region_lit
        refine sm _ rfl hk rfl rfl rfl fun a hk => ?_
        refine sv (.int .i64 (w64 (u306 + 1))) hk rfl rfl rfl fun a hk => ?_
        refine sa _ rfl hk rfl rfl rfl fun a hk => ?_
        show wpList _ _ _ [] _ _
        refine wpList_nil ?_
        obtain rfl := Option.some.inj H
        obtain ⟨m338, hmm338, h318⟩ := h318
        show ∃ n', n' < _ ∧ I315 n' _ _
        refine ⟨m338, hmm338, ?_⟩
        rw [hI315]
        exact ⟨(u302.set u306.toNat (IntKind.wrap .i64 ((BitVec.ofInt 64 (w64 ((u302.getD u306.toNat 0) + (u154.getD u306.toNat 0))) &&& BitVec.ofInt 64 4294967295).toNat : Int))), (w64 (u306 + 1)), _, h318, (hk.c 2 rfl (hk.c 4 rfl (hk.c 11 rfl (hk.c 18 rfl hk.k)))), (hs.pick [(1, 1), (2, 2), (10, 10)] rfl), o336, lh337⟩
       ·have hk := hk.lit 180 c321 rfl
        refine cnd_false hk rfl rfl ?_
        refine wp_exit ?_
        obtain rfl := Option.some.inj H
        show R314 _ _
        rw [hR314]
        exact ⟨u302, _, h318.symm, (hk.c 2 rfl (hk.c 4 rfl hk.k)), (hs.pick [(1, 1), (2, 2)] rfl), o304, lh305⟩
     ·intro a w hR0
      rw [hR314] at hR0
      obtain ⟨u307, k308, rfl, hk, hs, o309, lh310⟩ := hR0
      have H := HL313
      try dsimp only at H
      refine hK298 _ _ ?_
      have hs := hs.pick [(1, 1), (2, 2)] rfl
      apply wp_seq_k; intro K339 hK339
      apply wp_region_lit
      refine slna (k := 1) hs rfl o309 lh310 rfl hk rfl rfl rfl ag27 sz27 fun a hk => ?_
      refine sswa 2 u307 hs rfl o7 lh8 lh310 rfl rfl hk rfl rfl rfl rfl sz27 fun k340 w a hk o341 hs => ?_
      show wpList _ _ _ [] _ _
      refine wpList_nil ?_
      refine hK339 _ _ ?_
      refine wp_ret ?_
      obtain rfl := Option.some.inj H
      exact fin hk _ [(aggI .i64 u307)] rfl ⟨⟨_, rfl, run_loadA ag27 sz27 o341 lh310 hs (q := 2) rfl⟩, trivial⟩ ⟨rfl, lh310, (hs.pick [] rfl).dnil⟩

noncomputable def spec_l01More.s0  (u10 : Int) (u11 : Int) (u12 : Int) (u13 : Int) (u14 : Int) (u15 : Int) (u16 : Int) (u17 : Int) (u18 : ByteArray) : Option ((Int × Int × Int × Int × Int × Int × Int × Int × ByteArray) ⊕ Ex (Int × Int × Int × Int × Int × Int × Int × Int × ByteArray) (S_Hash)) :=
  (bif (decide ((u18.size : Int) ≥ 64)) then ((spec_l01Block.f ([u10, u11, u12, u13, u14, u15, u16, u17] : List Int) u18).bind fun y41 => (if 0 ≤ (64 : Int) ∧ (64 : Int) ≤ (u18.size : Int) then (some (.inl ((y41.getD 0 0), (y41.getD 1 0), (y41.getD 2 0), (y41.getD 3 0), (y41.getD 4 0), (y41.getD 5 0), (y41.getD 6 0), (y41.getD 7 0), (u18.extract (64 : Int).toNat u18.size)))) else none)) else (some (.inr (.out (u10, u11, u12, u13, u14, u15, u16, u17, u18)))))
noncomputable def spec_l01More.f (x0 : S_Hash) (x1 : ByteArray) : Option (S_Hash) :=
  (if x0.Buf.size + x1.size ≤ 1152921504606846976 then ((loopO (fun s => spec_l01More.s0  s.1 s.2.1 s.2.2.1 s.2.2.2.1 s.2.2.2.2.1 s.2.2.2.2.2.1 s.2.2.2.2.2.2.1 s.2.2.2.2.2.2.2.1 s.2.2.2.2.2.2.2.2) (x0.H0, x0.H1, x0.H2, x0.H3, x0.H4, x0.H5, x0.H6, x0.H7, (x0.Buf ++ x1))).bind fun o => match o with | .out (u19, u20, u21, u22, u23, u24, u25, u26, u27) => (some (⟨u19, u20, u21, u22, u23, u24, u25, u26, u27, (w64 (x0.N + (x1.size : Int)))⟩ : S_Hash)) | .ret r => (some r)) else none)
set_option maxRecDepth 100000 in
set_option maxHeartbeats 0 in
theorem spec_l01More_t (w0 : World) (x0 : S_Hash) (x1 : ByteArray) (r : S_Hash) (H : spec_l01More.f x0 x1 = some r) :
    Calls Try.prog 90 #[.agg #[.int .i64 x0.H0, .int .i64 x0.H1, .int .i64 x0.H2, .int .i64 x0.H3, .int .i64 x0.H4, .int .i64 x0.H5, .int .i64 x0.H6, .int .i64 x0.H7, .string x0.Buf, .int .i64 x0.N], .string x1] w0 (Ret (fun v w => v = .agg #[.int .i64 r.H0, .int .i64 r.H1, .int .i64 r.H2, .int .i64 r.H3, .int .i64 r.H4, .int .i64 r.H5, .int .i64 r.H6, .int .i64 r.H7, .string r.Buf, .int .i64 r.N] ∧ Sat [] w0 w [] [])) := by
  have hs : Sat [] w0 w0 [] [] := Sat.init w0 [] [] (by simp) (by simp) List.nodup_nil (by simp [blks])
  unfold spec_l01More.f at H
  refine enter Try.func90 rfl Try.ntmps90 rfl fun a hk => ?_
  apply wp_seq_k; intro K1 hK1
  apply wp_region_lit
  refine sbx 1 hs rfl hk rfl rfl rfl rfl fun b2 w a hk hs => ?_
  refine salx 2 hs rfl hk rfl rfl ze29 rfl fun b3 w a hk hs => ?_
  show wpList _ _ _ [] _ _
  refine wpList_nil ?_
  refine hK1 _ _ ?_
  apply wp_seq_k; intro K4 hK4
  apply wp_region_lit
  refine sf ⟨b2, 9, none⟩ rfl hk rfl rfl rfl fd29_2 rfl fun a hk => ?_
  refine sl rfl hk rfl rfl rfl ag3 (box_cell hs (k := 1) rfl rfl) fun a hk => ?_
  refine sm _ rfl hk rfl rfl rfl fun a hk => ?_
  refine sles rfl hk rfl rfl rfl un9 fun a hk => ?_
  refine sv (.int .i64 (w64 (x0.N + (x1.size : Int)))) hk rfl rfl rfl fun a hk => ?_
  refine sf ⟨b2, 9, none⟩ rfl hk rfl rfl rfl fd29_2 rfl fun a hk => ?_
  refine ssx (cs' := #[.int .i64 x0.H0, .int .i64 x0.H1, .int .i64 x0.H2, .int .i64 x0.H3, .int .i64 x0.H4, .int .i64 x0.H5, .int .i64 x0.H6, .int .i64 x0.H7, .string x0.Buf, .int .i64 (w64 (x0.N + (x1.size : Int)))]) 1 hs rfl rfl hk rfl rfl rfl rfl sz3 rfl rfl rfl rfl fun w a hk hs => ?_
  show wpList _ _ _ [] _ _
  refine wpList_nil ?_
  refine hK4 _ _ ?_
  apply wp_seq_k; intro K5 hK5
  apply wp_region_lit
  refine sf ⟨b2, 8, none⟩ rfl hk rfl rfl rfl fd29_1 rfl fun a hk => ?_
  refine sl rfl hk rfl rfl rfl ag9 (box_cell hs (k := 1) rfl rfl) fun a hk => ?_
  refine sm _ rfl hk rfl rfl rfl fun a hk => ?_
  rcases ite_some H with ⟨c6, H⟩ | ⟨_, H⟩
  rotate_left
  ·cases H
  refine ssa rfl hk rfl rfl rfl rfl c6 fun a hk => ?_
  refine sf ⟨b2, 8, none⟩ rfl hk rfl rfl rfl fd29_1 rfl fun a hk => ?_
  refine ssx (cs' := #[.int .i64 x0.H0, .int .i64 x0.H1, .int .i64 x0.H2, .int .i64 x0.H3, .int .i64 x0.H4, .int .i64 x0.H5, .int .i64 x0.H6, .int .i64 x0.H7, .string (x0.Buf ++ x1), .int .i64 (w64 (x0.N + (x1.size : Int)))]) 1 hs rfl rfl hk rfl rfl rfl rfl sz9 rfl rfl rfl rfl fun w a hk hs => ?_
  show wpList _ _ _ [] _ _
  refine wpList_nil ?_
  refine hK5 _ _ ?_
  apply wp_seq_k; intro K7 hK7
  obtain ⟨o28, h29, HL30⟩ := bind_some H
  clear H
  obtain ⟨R31, hR31⟩ : ∃ R : Act → World → Prop, R = fun a w => ∃ (u19 : Int) (u20 : Int) (u21 : Int) (u22 : Int) (u23 : Int) (u24 : Int) (u25 : Int) (u26 : Int) (u27 : ByteArray), o28 = .out (u19, u20, u21, u22, u23, u24, u25, u26, u27) ∧ Kn [(2, (.pointer (some ⟨b2, 0, none⟩))), (4, (.pointer (some ⟨b3, 0, none⟩)))] 31 a ∧ Sat [] w0 w [] [(1, [(b2, .cells #[.int .i64 u19, .int .i64 u20, .int .i64 u21, .int .i64 u22, .int .i64 u23, .int .i64 u24, .int .i64 u25, .int .i64 u26, .string u27, .int .i64 (w64 (x0.N + (x1.size : Int)))] 29 (0, 0))]), (2, [(b3, .cells #[.int .i64 0, .int .i64 0, .int .i64 0, .int .i64 0, .int .i64 0, .int .i64 0, .int .i64 0, .int .i64 0, .string ByteArray.empty, .int .i64 0] 29 (0, 0))])] := ⟨_, rfl⟩
  refine wp_cutq R31 ?_ ?_
  ·refine wp_block ?_
   obtain ⟨fu33, h29⟩ := loopO_some h29
   obtain ⟨I32, hI32⟩ : ∃ I : Nat → Act → World → Prop, I = fun fu a w => ∃ (u10 : Int) (u11 : Int) (u12 : Int) (u13 : Int) (u14 : Int) (u15 : Int) (u16 : Int) (u17 : Int) (u18 : ByteArray), loopN (fun s => spec_l01More.s0  s.1 s.2.1 s.2.2.1 s.2.2.2.1 s.2.2.2.2.1 s.2.2.2.2.2.1 s.2.2.2.2.2.2.1 s.2.2.2.2.2.2.2.1 s.2.2.2.2.2.2.2.2) fu (u10, u11, u12, u13, u14, u15, u16, u17, u18) = some o28 ∧ Kn [(2, (.pointer (some ⟨b2, 0, none⟩))), (4, (.pointer (some ⟨b3, 0, none⟩)))] 31 a ∧ Sat [] w0 w [] [(1, [(b2, .cells #[.int .i64 u10, .int .i64 u11, .int .i64 u12, .int .i64 u13, .int .i64 u14, .int .i64 u15, .int .i64 u16, .int .i64 u17, .string u18, .int .i64 (w64 (x0.N + (x1.size : Int)))] 29 (0, 0))]), (2, [(b3, .cells #[.int .i64 0, .int .i64 0, .int .i64 0, .int .i64 0, .int .i64 0, .int .i64 0, .int .i64 0, .int .i64 0, .string ByteArray.empty, .int .i64 0] 29 (0, 0))])] := ⟨_, rfl⟩
   refine wp_loop_ghost I32 fu33 ?_ ?_
   ·rw [hI32]
    exact ⟨x0.H0, x0.H1, x0.H2, x0.H3, x0.H4, x0.H5, x0.H6, x0.H7, (x0.Buf ++ x1), h29, (hk.c 2 rfl (hk.c 4 rfl hk.k)), (hs.pick [(1, 1), (2, 2)] rfl)⟩
   ·clear h29 hk hs
    intro fu33 a w hI0
    rw [hI32] at hI0
    obtain ⟨u10, u11, u12, u13, u14, u15, u16, u17, u18, hi, hk, hs⟩ := hI0
    obtain ⟨x34, H, h35⟩ := loop_round hi
    try dsimp only at H
    unfold spec_l01More.s0 at H
    apply wp_seq_k; intro K36 hK36
    apply wp_seq_k; intro K37 hK37
    apply wp_region_lit
    refine sf ⟨b2, 8, none⟩ rfl hk rfl rfl rfl fd29_1 rfl fun a hk => ?_
    refine sl rfl hk rfl rfl rfl ag9 (box_cell hs (k := 1) rfl rfl) fun a hk => ?_
    refine sles rfl hk rfl rfl rfl un9 fun a hk => ?_
    refine sv (.bool (decide ((u18.size : Int) ≥ 64))) hk rfl rfl rfl fun a hk => ?_
    show wpList _ _ _ [] _ _
    refine wpList_nil ?_
    refine hK37 _ _ ?_
    have hs := hs.pick [(1, 1), (2, 2)] rfl
    rcases cond_some H with ⟨c38, H⟩ | ⟨c38, H⟩
    ·have hk := hk.lit 19 c38 rfl
     refine cnd_true hk rfl rfl ?_
     refine wp_skip ?_
     refine hK36 _ _ ?_
     refine wp_block ?_
     apply wp_seq_k; intro K39 hK39
     apply wp_region_lit
     refine sf ⟨b2, 0, none⟩ rfl hk rfl rfl rfl fd29_0 rfl fun a hk => ?_
     have lh40 : ([u10, u11, u12, u13, u14, u15, u16, u17] : List Int).length = 8 := rfl
     refine slnB (k := 1) (ik := .i64) (vs := [.int .i64 u10, .int .i64 u11, .int .i64 u12, .int .i64 u13, .int .i64 u14, .int .i64 u15, .int .i64 u16, .int .i64 u17, .string u18, .int .i64 (w64 (x0.N + (x1.size : Int)))]) ([u10, u11, u12, u13, u14, u15, u16, u17] : List Int) hs rfl rfl lh40 rfl hk rfl rfl rfl ag27 sz27 fun a hk => ?_
     refine sf ⟨b2, 8, none⟩ rfl hk rfl rfl rfl fd29_1 rfl fun a hk => ?_
     refine sl rfl hk rfl rfl rfl ag9 (box_cell hs (k := 1) rfl rfl) fun a hk => ?_
     obtain ⟨y41, h42, H⟩ := bind_some H
     refine sc rfl en122 hk rfl rfl rfl (spec_l01Block_t _ ([u10, u11, u12, u13, u14, u15, u16, u17] : List Int) lh40 u18 _ h42) ?_
     rintro _ w ⟨rfl, lh43, hG⟩ a hk
     have hs := hs.call0 hG
     refine sf ⟨b2, 0, none⟩ rfl hk rfl rfl rfl fd29_0 rfl fun a hk => ?_
     refine ssB (vs' := [.int .i64 (y41.getD 0 0), .int .i64 (y41.getD 1 0), .int .i64 (y41.getD 2 0), .int .i64 (y41.getD 3 0), .int .i64 (y41.getD 4 0), .int .i64 (y41.getD 5 0), .int .i64 (y41.getD 6 0), .int .i64 (y41.getD 7 0), .string u18, .int .i64 (w64 (x0.N + (x1.size : Int)))]) 1 y41 hs rfl rfl hk rfl rfl rfl rfl sz27 lh43 rfl rfl fun w a hk hs => ?_
     show wpList _ _ _ [] _ _
     refine wpList_nil ?_
     refine hK39 _ _ ?_
     apply wp_region_lit
     refine sf ⟨b2, 8, none⟩ rfl hk rfl rfl rfl fd29_1 rfl fun a hk => ?_
     refine sl rfl hk rfl rfl rfl ag9 (box_cell hs (k := 1) rfl rfl) fun a hk => ?_
     rcases ite_some H with ⟨c44, H⟩ | ⟨_, H⟩
     rotate_left
     ·cases H
     refine ssl_l rfl hk rfl rfl rfl rfl un9 c44.1 c44.2 fun a hk => ?_
     refine sf ⟨b2, 8, none⟩ rfl hk rfl rfl rfl fd29_1 rfl fun a hk => ?_
     refine ssx (cs' := #[.int .i64 (y41.getD 0 0), .int .i64 (y41.getD 1 0), .int .i64 (y41.getD 2 0), .int .i64 (y41.getD 3 0), .int .i64 (y41.getD 4 0), .int .i64 (y41.getD 5 0), .int .i64 (y41.getD 6 0), .int .i64 (y41.getD 7 0), .string (u18.extract (64 : Int).toNat u18.size), .int .i64 (w64 (x0.N + (x1.size : Int)))]) 1 hs rfl rfl hk rfl rfl rfl rfl sz9 rfl rfl rfl rfl fun w a hk hs => ?_
     show wpList _ _ _ [] _ _
     refine wpList_nil ?_
     obtain rfl := Option.some.inj H
     obtain ⟨m45, hmm45, h35⟩ := h35
     show ∃ n', n' < _ ∧ I32 n' _ _
     refine ⟨m45, hmm45, ?_⟩
     rw [hI32]
     exact ⟨(y41.getD 0 0), (y41.getD 1 0), (y41.getD 2 0), (y41.getD 3 0), (y41.getD 4 0), (y41.getD 5 0), (y41.getD 6 0), (y41.getD 7 0), (u18.extract (64 : Int).toNat u18.size), h35, (hk.c 2 rfl (hk.c 4 rfl hk.k)), (hs.pick [(1, 1), (2, 2)] rfl)⟩
    ·have hk := hk.lit 19 c38 rfl
     refine cnd_false hk rfl rfl ?_
     refine wp_exit ?_
     obtain rfl := Option.some.inj H
     show R31 _ _
     rw [hR31]
     exact ⟨u10, u11, u12, u13, u14, u15, u16, u17, u18, h35.symm, (hk.c 2 rfl (hk.c 4 rfl hk.k)), (hs.pick [(1, 1), (2, 2)] rfl)⟩
  ·intro a w hR0
   rw [hR31] at hR0
   obtain ⟨u19, u20, u21, u22, u23, u24, u25, u26, u27, rfl, hk, hs⟩ := hR0
   have H := HL30
   try dsimp only at H
   refine hK7 _ _ ?_
   have hs := hs.pick [(1, 1), (2, 2)] rfl
   apply wp_seq_k; intro K46 hK46
   apply wp_region_lit
   refine sln [.int .i64 u19, .int .i64 u20, .int .i64 u21, .int .i64 u22, .int .i64 u23, .int .i64 u24, .int .i64 u25, .int .i64 u26, .string u27, .int .i64 (w64 (x0.N + (x1.size : Int)))] rfl hk rfl rfl rfl ag29 sz29 (box_cells hs (k := 1) rfl) fun a hk => ?_
   refine ssw 2 hs rfl rfl hk rfl rfl rfl rfl sz29 (by simp [Value.oneCell']) rfl fun w a hk hs => ?_
   show wpList _ _ _ [] _ _
   refine wpList_nil ?_
   refine hK46 _ _ ?_
   refine wp_ret ?_
   obtain rfl := Option.some.inj H
   exact fin hk _ [(.agg #[.int .i64 u19, .int .i64 u20, .int .i64 u21, .int .i64 u22, .int .i64 u23, .int .i64 u24, .int .i64 u25, .int .i64 u26, .string u27, .int .i64 (w64 (x0.N + (x1.size : Int)))])] rfl ⟨⟨_, rfl, run_loadN ag29 sz29 (box_cells hs (k := 2) rfl)⟩, trivial⟩ ⟨rfl, (hs.pick [] rfl).dnil⟩

noncomputable def spec_l01Sum.s0 (x0 : S_Hash) (u15 : List Int) : Option (((List Int)) ⊕ Ex ((List Int)) (ByteArray)) :=
  (bif ((Int.tmod (w64 (x0.N + (u15.length : Int))) 64) != 56) then (if u15.length + ([0]).length ≤ 1073741824 then (some (.inl (u15 ++ ([0])))) else none) else (some (.inr (.out u15))))
noncomputable def spec_l01Sum.s1 (x0 : S_Hash) (u54 : List Int) (u53 : Int) : Option (((List Int) × Int) ⊕ Ex ((List Int)) (ByteArray)) :=
  (bif (decide (u53 ≥ 0)) then (if 0 ≤ (w64 (8 * u53)) then (if u54.length + ([(IntKind.wrap .u8 (Int.fdiv (w64 (8 * x0.N)) (2 ^ min (w64 (8 * u53)).toNat 64)))]).length ≤ 1073741824 then (some (.inl ((u54 ++ ([(IntKind.wrap .u8 (Int.fdiv (w64 (8 * x0.N)) (2 ^ min (w64 (8 * u53)).toNat 64)))])), (w64 (u53 - 1))))) else none) else none) else (some (.inr (.out u54))))
noncomputable def spec_l01Sum.s3 (y87 : S_Hash) (u101 : Int) (u132 : List Int) (u131 : Int) : Option (((List Int) × Int) ⊕ Ex ((List Int)) (ByteArray)) :=
  (bif (decide (u131 ≥ 0)) then (if 0 ≤ u101 ∧ u101 < (8 : Int) then (if 0 ≤ (w64 (8 * u131)) then (if u132.length + ([(IntKind.wrap .u8 (Int.fdiv (([y87.H0, y87.H1, y87.H2, y87.H3, y87.H4, y87.H5, y87.H6, y87.H7] : List Int).getD u101.toNat 0) (2 ^ min (w64 (8 * u131)).toNat 64)))]).length ≤ 1073741824 then (some (.inl ((u132 ++ ([(IntKind.wrap .u8 (Int.fdiv (([y87.H0, y87.H1, y87.H2, y87.H3, y87.H4, y87.H5, y87.H6, y87.H7] : List Int).getD u101.toNat 0) (2 ^ min (w64 (8 * u131)).toNat 64)))])), (w64 (u131 - 1))))) else none) else none) else none) else (some (.inr (.out u132))))
noncomputable def spec_l01Sum.s2 (y87 : S_Hash) (u102 : List Int) (u101 : Int) : Option (((List Int) × Int) ⊕ Ex ((List Int)) (ByteArray)) :=
  (bif (decide (u101 < 8)) then ((loopO (fun s => spec_l01Sum.s3 y87 u101 s.1 s.2) (u102, 3)).bind fun o => match o with | .out u137 => (some (.inl (u137, (w64 (u101 + 1))))) | .ret r => (some (.inr (.ret r)))) else (some (.inr (.out u102))))
noncomputable def spec_l01Sum.f (x0 : S_Hash) : Option (ByteArray) :=
  ((loopO (fun s => spec_l01Sum.s0 x0 s) ([128])).bind fun o => match o with | .out u20 => ((loopO (fun s => spec_l01Sum.s1 x0 s.1 s.2) (u20, 7)).bind fun o => match o with | .out u59 => ((spec_l01More.f x0 (strOfNums u59)).bind fun y87 => ((loopO (fun s => spec_l01Sum.s2 y87 s.1 s.2) (([] : List Int), 0)).bind fun o => match o with | .out u107 => (some (strOfNums u107)) | .ret r => (some r))) | .ret r => (some r)) | .ret r => (some r))
set_option maxRecDepth 100000 in
set_option maxHeartbeats 0 in
theorem spec_l01Sum_t (w0 : World) (x0 : S_Hash) (r : ByteArray) (H : spec_l01Sum.f x0 = some r) :
    Calls Try.prog 89 #[.agg #[.int .i64 x0.H0, .int .i64 x0.H1, .int .i64 x0.H2, .int .i64 x0.H3, .int .i64 x0.H4, .int .i64 x0.H5, .int .i64 x0.H6, .int .i64 x0.H7, .string x0.Buf, .int .i64 x0.N]] w0 (Ret (fun v w => v = .string r ∧ Sat [] w0 w [] [])) := by
  have hs : Sat [] w0 w0 [] [] := Sat.init w0 [] [] (by simp) (by simp) List.nodup_nil (by simp [blks])
  unfold spec_l01Sum.f at H
  refine enter Try.func89 rfl Try.ntmps89 rfl fun a hk => ?_
  apply wp_seq_k; intro K1 hK1
  apply wp_region_lit
  refine sbx 1 hs rfl hk rfl rfl rfl rfl fun b2 w a hk hs => ?_
  refine sa _ rfl hk rfl rfl rfl fun a hk => ?_
  show wpList _ _ _ [] _ _
  refine wpList_nil ?_
  refine hK1 _ _ ?_
  apply wp_seq_k; intro K3 hK3
  apply wp_region_lit
  refine sf ⟨b2, 9, none⟩ rfl hk rfl rfl rfl fd29_2 rfl fun a hk => ?_
  refine sl rfl hk rfl rfl rfl ag3 (box_cell hs (k := 1) rfl rfl) fun a hk => ?_
  refine sv (.int .i64 (w64 (8 * x0.N))) hk rfl rfl rfl fun a hk => ?_
  refine sa _ rfl hk rfl rfl rfl fun a hk => ?_
  show wpList _ _ _ [] _ _
  refine wpList_nil ?_
  refine hK3 _ _ ?_
  apply wp_seq_k; intro K4 hK4
  apply wp_region_lit
  refine sbs (L := (Lay.int .u8)) (pv := [(0, (.int .u8 128))]) (xs := [128]) (ess := [[.int .u8 128]]) 2 hs rfl hk rfl rfl rfl un22 (bs5_1 128) (AllOwn.cons0 ⟨rfl, rfl⟩ AllOwn.nil) rfl rfl rfl fun b5 k6 w a hk o7 hs => ?_
  refine sa _ rfl hk rfl rfl rfl fun a hk => ?_
  show wpList _ _ _ [] _ _
  refine wpList_nil ?_
  refine hK4 _ _ ?_
  apply wp_seq_k; intro K8 hK8
  obtain ⟨o25, h26, HL27⟩ := bind_some H
  clear H
  obtain ⟨R28, hR28⟩ : ∃ R : Act → World → Prop, R = fun a w => ∃ (u20 : List Int) (A23 : Option Addr) (p24 : Nat) (k21 : Chunk), o25 = .out u20 ∧ Kn [(1, (.pointer (some ⟨b2, 0, none⟩))), (3, (.int .i64 (w64 (8 * x0.N)))), (4, (.slice A23 u20.length p24))] 61 a ∧ Sat [] w0 w [] [(2, k21), (1, [(b2, .cells #[.int .i64 x0.H0, .int .i64 x0.H1, .int .i64 x0.H2, .int .i64 x0.H3, .int .i64 x0.H4, .int .i64 x0.H5, .int .i64 x0.H6, .int .i64 x0.H7, .string x0.Buf, .int .i64 x0.N] 29 (0, 0))])] ∧ Own (Lay.int .u8) 5 A23 p24 u20 k21 := ⟨_, rfl⟩
  refine wp_cutq R28 ?_ ?_
  ·refine wp_block ?_
   obtain ⟨fu30, h26⟩ := loopO_some h26
   obtain ⟨I29, hI29⟩ : ∃ I : Nat → Act → World → Prop, I = fun fu a w => ∃ (u15 : List Int) (A18 : Option Addr) (p19 : Nat) (k16 : Chunk), loopN (fun s => spec_l01Sum.s0 x0 s) fu u15 = some o25 ∧ Kn [(1, (.pointer (some ⟨b2, 0, none⟩))), (3, (.int .i64 (w64 (8 * x0.N)))), (4, (.slice A18 u15.length p19))] 61 a ∧ Sat [] w0 w [] [(2, k16), (1, [(b2, .cells #[.int .i64 x0.H0, .int .i64 x0.H1, .int .i64 x0.H2, .int .i64 x0.H3, .int .i64 x0.H4, .int .i64 x0.H5, .int .i64 x0.H6, .int .i64 x0.H7, .string x0.Buf, .int .i64 x0.N] 29 (0, 0))])] ∧ Own (Lay.int .u8) 5 A18 p19 u15 k16 := ⟨_, rfl⟩
   refine wp_loop_ghost I29 fu30 ?_ ?_
   ·rw [hI29]
    exact ⟨[128], (some ⟨b5, 0, none⟩), 1, _, h26, (hk.c 1 rfl (hk.c 3 rfl (hk.c 4 rfl hk.k))), (hs.pick [(2, 2), (1, 1)] rfl), o7⟩
   ·clear h26 hk hs
    intro fu30 a w hI0
    rw [hI29] at hI0
    obtain ⟨u15, A18, p19, k16, hi, hk, hs, o17⟩ := hI0
    obtain ⟨x31, H, h32⟩ := loop_round hi
    try dsimp only at H
    unfold spec_l01Sum.s0 at H
    apply wp_seq_k; intro K33 hK33
    apply wp_seq_k; intro K34 hK34
    apply wp_region_lit
    refine sf ⟨b2, 9, none⟩ rfl hk rfl rfl rfl fd29_2 rfl fun a hk => ?_
    refine sl rfl hk rfl rfl rfl ag3 (box_cell hs (k := 1) rfl rfl) fun a hk => ?_
    refine sm _ rfl hk rfl rfl rfl fun a hk => ?_
    refine sle rfl hk rfl rfl rfl un22 fun a hk => ?_
    refine sv (.int .i64 (w64 (x0.N + (u15.length : Int)))) hk rfl rfl rfl fun a hk => ?_
    refine sv (.int .i64 (Int.tmod (w64 (x0.N + (u15.length : Int))) 64)) hk rfl rfl rfl fun a hk => ?_
    refine sv (.bool ((Int.tmod (w64 (x0.N + (u15.length : Int))) 64) != 56)) hk rfl rfl rfl fun a hk => ?_
    show wpList _ _ _ [] _ _
    refine wpList_nil ?_
    refine hK34 _ _ ?_
    have hs := hs.pick [(2, 2), (1, 1)] rfl
    rcases cond_some H with ⟨c35, H⟩ | ⟨c35, H⟩
    ·have hk := hk.lit 19 c35 rfl
     refine cnd_true hk rfl rfl ?_
     refine wp_skip ?_
     refine hK33 _ _ ?_
     refine wp_block ?_
     apply wp_region_lit
     refine sm _ rfl hk rfl rfl rfl fun a hk => ?_
     refine sbs (L := (Lay.int .u8)) (pv := [(0, (.int .u8 0))]) (xs := [0]) (ess := [[.int .u8 0]]) 4 hs rfl hk rfl rfl rfl un22 (bs5_1 0) (AllOwn.cons0 ⟨rfl, rfl⟩ AllOwn.nil) rfl rfl rfl fun b36 k37 w a hk o38 hs => ?_
     rcases ite_some H with ⟨c39, H⟩ | ⟨_, H⟩
     rotate_left
     ·cases H
     refine sap 2 (xs := u15) (ys := [0]) (flat_flat : ((Lay.int .u8)).Flat) hs rfl o17 o38.view (hs.hasG (k := 4) rfl) rfl hk rfl rfl rfl rfl rfl rfl un22 mk5 rfl rfl rfl c39 fun A40 p41 k42 w a hk o43 hs => ?_
     refine sa _ rfl hk rfl rfl rfl fun a hk => ?_
     show wpList _ _ _ [] _ _
     refine wpList_nil ?_
     obtain rfl := Option.some.inj H
     obtain ⟨m44, hmm44, h32⟩ := h32
     show ∃ n', n' < _ ∧ I29 n' _ _
     refine ⟨m44, hmm44, ?_⟩
     rw [hI29]
     exact ⟨(u15 ++ ([0])), A40, p41, _, h32, (hk.c 1 rfl (hk.c 3 rfl (hk.c 4 rfl hk.k))), (hs.pick [(2, 2), (1, 1)] rfl), o43⟩
    ·have hk := hk.lit 19 c35 rfl
     refine cnd_false hk rfl rfl ?_
     refine wp_exit ?_
     obtain rfl := Option.some.inj H
     show R28 _ _
     rw [hR28]
     exact ⟨u15, A18, p19, _, h32.symm, (hk.c 1 rfl (hk.c 3 rfl (hk.c 4 rfl hk.k))), (hs.pick [(2, 2), (1, 1)] rfl), o17⟩
  ·intro a w hR0
   rw [hR28] at hR0
   obtain ⟨u20, A23, p24, k21, rfl, hk, hs, o22⟩ := hR0
   have H := HL27
   try dsimp only at H
   refine hK8 _ _ ?_
   have hs := hs.pick [(2, 2), (1, 1)] rfl
   apply wp_seq_k; intro K45 hK45
   apply wp_seq_k; intro K46 hK46
   apply wp_region_lit
   refine sa _ rfl hk rfl rfl rfl fun a hk => ?_
   show wpList _ _ _ [] _ _
   refine wpList_nil ?_
   refine hK46 _ _ ?_
   obtain ⟨o64, h65, HL66⟩ := bind_some H
   clear H
   obtain ⟨R67, hR67⟩ : ∃ R : Act → World → Prop, R = fun a w => ∃ (u59 : List Int) (A62 : Option Addr) (p63 : Nat) (k60 : Chunk), o64 = .out u59 ∧ Kn [(1, (.pointer (some ⟨b2, 0, none⟩))), (4, (.slice A62 u59.length p63))] 61 a ∧ Sat [] w0 w [] [(2, k60), (1, [(b2, .cells #[.int .i64 x0.H0, .int .i64 x0.H1, .int .i64 x0.H2, .int .i64 x0.H3, .int .i64 x0.H4, .int .i64 x0.H5, .int .i64 x0.H6, .int .i64 x0.H7, .string x0.Buf, .int .i64 x0.N] 29 (0, 0))])] ∧ Own (Lay.int .u8) 5 A62 p63 u59 k60 := ⟨_, rfl⟩
   refine wp_cutq R67 ?_ ?_
   ·refine wp_block ?_
    obtain ⟨fu69, h65⟩ := loopO_some h65
    obtain ⟨I68, hI68⟩ : ∃ I : Nat → Act → World → Prop, I = fun fu a w => ∃ (u54 : List Int) (u53 : Int) (A57 : Option Addr) (p58 : Nat) (k55 : Chunk), loopN (fun s => spec_l01Sum.s1 x0 s.1 s.2) fu (u54, u53) = some o64 ∧ Kn [(1, (.pointer (some ⟨b2, 0, none⟩))), (3, (.int .i64 (w64 (8 * x0.N)))), (4, (.slice A57 u54.length p58)), (5, (.int .i64 u53))] 61 a ∧ Sat [] w0 w [] [(2, k55), (1, [(b2, .cells #[.int .i64 x0.H0, .int .i64 x0.H1, .int .i64 x0.H2, .int .i64 x0.H3, .int .i64 x0.H4, .int .i64 x0.H5, .int .i64 x0.H6, .int .i64 x0.H7, .string x0.Buf, .int .i64 x0.N] 29 (0, 0))])] ∧ Own (Lay.int .u8) 5 A57 p58 u54 k55 := ⟨_, rfl⟩
    refine wp_loop_ghost I68 fu69 ?_ ?_
    ·rw [hI68]
     exact ⟨u20, 7, A23, p24, _, h65, (hk.c 1 rfl (hk.c 3 rfl (hk.c 4 rfl (hk.c 5 rfl hk.k)))), (hs.pick [(2, 2), (1, 1)] rfl), o22⟩
    ·clear h65 hk hs
     intro fu69 a w hI0
     rw [hI68] at hI0
     obtain ⟨u54, u53, A57, p58, k55, hi, hk, hs, o56⟩ := hI0
     obtain ⟨x70, H, h71⟩ := loop_round hi
     try dsimp only at H
     unfold spec_l01Sum.s1 at H
     apply wp_seq_k; intro K72 hK72
     apply wp_seq_k; intro K73 hK73
     apply wp_region_lit
     refine sm _ rfl hk rfl rfl rfl fun a hk => ?_
     refine sv (.bool (decide (u53 ≥ 0))) hk rfl rfl rfl fun a hk => ?_
     show wpList _ _ _ [] _ _
     refine wpList_nil ?_
     refine hK73 _ _ ?_
     rcases cond_some H with ⟨c74, H⟩ | ⟨c74, H⟩
     ·have hk := hk.lit 24 c74 rfl
      refine cnd_true hk rfl rfl ?_
      refine wp_skip ?_
      refine hK72 _ _ ?_
      apply wp_seq_k; intro K75 hK75
      refine wp_block ?_
      apply wp_region_lit
      refine sm _ rfl hk rfl rfl rfl fun a hk => ?_
      refine sm _ rfl hk rfl rfl rfl fun a hk => ?_
      refine sm _ rfl hk rfl rfl rfl fun a hk => ?_
      refine sv (.int .i64 (w64 (8 * u53))) hk rfl rfl rfl fun a hk => ?_
      rcases ite_some H with ⟨c76, H⟩ | ⟨_, H⟩
      rotate_left
      ·cases H
      refine ssr rfl hk rfl rfl rfl rfl c76 fun a hk => ?_
      refine scn rfl hk rfl rfl rfl un5 un3 fun a hk => ?_
      refine sbs (L := (Lay.int .u8)) (pv := [(0, (.int .u8 (IntKind.wrap .u8 (Int.fdiv (w64 (8 * x0.N)) (2 ^ min (w64 (8 * u53)).toNat 64)))))]) (xs := [(IntKind.wrap .u8 (Int.fdiv (w64 (8 * x0.N)) (2 ^ min (w64 (8 * u53)).toNat 64)))]) (ess := [[.int .u8 (IntKind.wrap .u8 (Int.fdiv (w64 (8 * x0.N)) (2 ^ min (w64 (8 * u53)).toNat 64)))]]) 6 hs rfl hk rfl rfl rfl un22 (bs5_1 (IntKind.wrap .u8 (Int.fdiv (w64 (8 * x0.N)) (2 ^ min (w64 (8 * u53)).toNat 64)))) (AllOwn.cons0 ⟨rfl, rfl⟩ AllOwn.nil) rfl rfl rfl fun b77 k78 w a hk o79 hs => ?_
      rcases ite_some H with ⟨c80, H⟩ | ⟨_, H⟩
      rotate_left
      ·cases H
      refine sap 2 (xs := u54) (ys := [(IntKind.wrap .u8 (Int.fdiv (w64 (8 * x0.N)) (2 ^ min (w64 (8 * u53)).toNat 64)))]) (flat_flat : ((Lay.int .u8)).Flat) hs rfl o56 o79.view (hs.hasG (k := 6) rfl) rfl hk rfl rfl rfl rfl rfl rfl un22 mk5 rfl rfl rfl c80 fun A81 p82 k83 w a hk o84 hs => ?_
      refine sa _ rfl hk rfl rfl rfl fun a hk => ?_
      show wpList _ _ _ [] _ _
      refine wpList_nil ?_
      refine hK75 _ _ ?_
      have hs := hs.pick [(2, 2), (1, 1)] rfl
      apply wp_region_lit
      refine sm _ rfl hk rfl rfl rfl fun a hk => ?_
      refine sv (.int .i64 (w64 (u53 - 1))) hk rfl rfl rfl fun a hk => ?_
      refine sa _ rfl hk rfl rfl rfl fun a hk => ?_
      show wpList _ _ _ [] _ _
      refine wpList_nil ?_
      obtain rfl := Option.some.inj H
      obtain ⟨m85, hmm85, h71⟩ := h71
      show ∃ n', n' < _ ∧ I68 n' _ _
      refine ⟨m85, hmm85, ?_⟩
      rw [hI68]
      exact ⟨(u54 ++ ([(IntKind.wrap .u8 (Int.fdiv (w64 (8 * x0.N)) (2 ^ min (w64 (8 * u53)).toNat 64)))])), (w64 (u53 - 1)), A81, p82, _, h71, (hk.c 1 rfl (hk.c 3 rfl (hk.c 4 rfl (hk.c 5 rfl hk.k)))), (hs.pick [(2, 2), (1, 1)] rfl), o84⟩
     ·have hk := hk.lit 24 c74 rfl
      refine cnd_false hk rfl rfl ?_
      refine wp_exit ?_
      obtain rfl := Option.some.inj H
      show R67 _ _
      rw [hR67]
      exact ⟨u54, A57, p58, _, h71.symm, (hk.c 1 rfl (hk.c 4 rfl hk.k)), (hs.pick [(2, 2), (1, 1)] rfl), o56⟩
   ·intro a w hR0
    rw [hR67] at hR0
    obtain ⟨u59, A62, p63, k60, rfl, hk, hs, o61⟩ := hR0
    have H := HL66
    try dsimp only at H
    refine hK45 _ _ ?_
    apply wp_seq_k; intro K86 hK86
    apply wp_region_lit
    refine sln [.int .i64 x0.H0, .int .i64 x0.H1, .int .i64 x0.H2, .int .i64 x0.H3, .int .i64 x0.H4, .int .i64 x0.H5, .int .i64 x0.H6, .int .i64 x0.H7, .string x0.Buf, .int .i64 x0.N] rfl hk rfl rfl rfl ag29 sz29 (box_cells hs (k := 1) rfl) fun a hk => ?_
    refine sm _ rfl hk rfl rfl rfl fun a hk => ?_
    refine sbt (xs := u59) rfl hk rfl rfl rfl rfl un22 un5 un9 o61.view (hs.hasG (k := 2) rfl) fun a hk => ?_
    obtain ⟨y87, h88, H⟩ := bind_some H
    refine sc rfl en90 hk rfl rfl rfl (spec_l01More_t _ x0 (strOfNums u59) _ h88) ?_
    rintro _ w ⟨rfl, hG⟩ a hk
    have hs := hs.call0 hG
    refine ssw 1 hs rfl rfl hk rfl rfl rfl rfl sz29 (by simp [Value.oneCell']) rfl fun w a hk hs => ?_
    show wpList _ _ _ [] _ _
    refine wpList_nil ?_
    refine hK86 _ _ ?_
    apply wp_seq_k; intro K89 hK89
    apply wp_region_lit
    refine sbs0 7 (Lay.int .u8) hs rfl hk rfl rfl un22 sz5 fun b90 k91 w a hk o92 hs => ?_
    refine sa _ rfl hk rfl rfl rfl fun a hk => ?_
    show wpList _ _ _ [] _ _
    refine wpList_nil ?_
    refine hK89 _ _ ?_
    have hs := hs.pick [(7, 7), (1, 1)] rfl
    apply wp_seq_k; intro K93 hK93
    apply wp_seq_k; intro K94 hK94
    apply wp_region_lit
    refine sa _ rfl hk rfl rfl rfl fun a hk => ?_
    show wpList _ _ _ [] _ _
    refine wpList_nil ?_
    refine hK94 _ _ ?_
    obtain ⟨o112, h113, HL114⟩ := bind_some H
    clear H
    obtain ⟨R115, hR115⟩ : ∃ R : Act → World → Prop, R = fun a w => ∃ (u107 : List Int) (A110 : Option Addr) (p111 : Nat) (k108 : Chunk), o112 = .out u107 ∧ Kn [(6, (.slice A110 u107.length p111))] 61 a ∧ Sat [] w0 w [] [(7, k108)] ∧ Own (Lay.int .u8) 5 A110 p111 u107 k108 := ⟨_, rfl⟩
    refine wp_cutq R115 ?_ ?_
    ·refine wp_block ?_
     obtain ⟨fu117, h113⟩ := loopO_some h113
     obtain ⟨I116, hI116⟩ : ∃ I : Nat → Act → World → Prop, I = fun fu a w => ∃ (u102 : List Int) (u101 : Int) (A105 : Option Addr) (p106 : Nat) (k103 : Chunk), loopN (fun s => spec_l01Sum.s2 y87 s.1 s.2) fu (u102, u101) = some o112 ∧ Kn [(1, (.pointer (some ⟨b2, 0, none⟩))), (6, (.slice A105 u102.length p106)), (7, (.int .i64 u101))] 61 a ∧ Sat [] w0 w [] [(7, k103), (1, [(b2, .cells #[.int .i64 y87.H0, .int .i64 y87.H1, .int .i64 y87.H2, .int .i64 y87.H3, .int .i64 y87.H4, .int .i64 y87.H5, .int .i64 y87.H6, .int .i64 y87.H7, .string y87.Buf, .int .i64 y87.N] 29 (0, 0))])] ∧ Own (Lay.int .u8) 5 A105 p106 u102 k103 := ⟨_, rfl⟩
     refine wp_loop_ghost I116 fu117 ?_ ?_
     ·rw [hI116]
      exact ⟨([] : List Int), 0, (some ⟨b90, 0, none⟩), 0, _, h113, (hk.c 1 rfl (hk.c 6 rfl (hk.c 7 rfl hk.k))), (hs.pick [(7, 7), (1, 1)] rfl), o92⟩
     ·clear h113 hk hs
      intro fu117 a w hI0
      rw [hI116] at hI0
      obtain ⟨u102, u101, A105, p106, k103, hi, hk, hs, o104⟩ := hI0
      obtain ⟨x118, H, h119⟩ := loop_round hi
      try dsimp only at H
      unfold spec_l01Sum.s2 at H
      apply wp_seq_k; intro K120 hK120
      apply wp_seq_k; intro K121 hK121
      apply wp_region_lit
      refine sm _ rfl hk rfl rfl rfl fun a hk => ?_
      refine sv (.bool (decide (u101 < 8))) hk rfl rfl rfl fun a hk => ?_
      show wpList _ _ _ [] _ _
      refine wpList_nil ?_
      refine hK121 _ _ ?_
      rcases cond_some H with ⟨c122, H⟩ | ⟨c122, H⟩
      ·have hk := hk.lit 41 c122 rfl
       refine cnd_true hk rfl rfl ?_
       refine wp_skip ?_
       refine hK120 _ _ ?_
       apply wp_seq_k; intro K123 hK123
       refine wp_block ?_
       apply wp_seq_k; intro K124 hK124
       apply wp_region_lit
       refine sa _ rfl hk rfl rfl rfl fun a hk => ?_
       show wpList _ _ _ [] _ _
       refine wpList_nil ?_
       refine hK124 _ _ ?_
       have hs := hs.pick [(7, 7), (1, 1)] rfl
       obtain ⟨o142, h143, HL144⟩ := bind_some H
       clear H
       obtain ⟨R145, hR145⟩ : ∃ R : Act → World → Prop, R = fun a w => ∃ (u137 : List Int) (A140 : Option Addr) (p141 : Nat) (k138 : Chunk), o142 = .out u137 ∧ Kn [(1, (.pointer (some ⟨b2, 0, none⟩))), (6, (.slice A140 u137.length p141)), (7, (.int .i64 u101))] 61 a ∧ Sat [] w0 w [] [(7, k138), (1, [(b2, .cells #[.int .i64 y87.H0, .int .i64 y87.H1, .int .i64 y87.H2, .int .i64 y87.H3, .int .i64 y87.H4, .int .i64 y87.H5, .int .i64 y87.H6, .int .i64 y87.H7, .string y87.Buf, .int .i64 y87.N] 29 (0, 0))])] ∧ Own (Lay.int .u8) 5 A140 p141 u137 k138 := ⟨_, rfl⟩
       refine wp_cutq R145 ?_ ?_
       ·refine wp_block ?_
        obtain ⟨fu147, h143⟩ := loopO_some h143
        obtain ⟨I146, hI146⟩ : ∃ I : Nat → Act → World → Prop, I = fun fu a w => ∃ (u132 : List Int) (u131 : Int) (A135 : Option Addr) (p136 : Nat) (k133 : Chunk), loopN (fun s => spec_l01Sum.s3 y87 u101 s.1 s.2) fu (u132, u131) = some o142 ∧ Kn [(1, (.pointer (some ⟨b2, 0, none⟩))), (6, (.slice A135 u132.length p136)), (7, (.int .i64 u101)), (8, (.int .i64 u131))] 61 a ∧ Sat [] w0 w [] [(7, k133), (1, [(b2, .cells #[.int .i64 y87.H0, .int .i64 y87.H1, .int .i64 y87.H2, .int .i64 y87.H3, .int .i64 y87.H4, .int .i64 y87.H5, .int .i64 y87.H6, .int .i64 y87.H7, .string y87.Buf, .int .i64 y87.N] 29 (0, 0))])] ∧ Own (Lay.int .u8) 5 A135 p136 u132 k133 := ⟨_, rfl⟩
        refine wp_loop_ghost I146 fu147 ?_ ?_
        ·rw [hI146]
         exact ⟨u102, 3, A105, p106, _, h143, (hk.c 1 rfl (hk.c 6 rfl (hk.c 7 rfl (hk.c 8 rfl hk.k)))), (hs.pick [(7, 7), (1, 1)] rfl), o104⟩
        ·clear h143 hk hs
         intro fu147 a w hI0
         rw [hI146] at hI0
         obtain ⟨u132, u131, A135, p136, k133, hi, hk, hs, o134⟩ := hI0
         obtain ⟨x148, H, h149⟩ := loop_round hi
         try dsimp only at H
         unfold spec_l01Sum.s3 at H
         apply wp_seq_k; intro K150 hK150
         apply wp_seq_k; intro K151 hK151
         apply wp_region_lit
         refine sm _ rfl hk rfl rfl rfl fun a hk => ?_
         refine sv (.bool (decide (u131 ≥ 0))) hk rfl rfl rfl fun a hk => ?_
         show wpList _ _ _ [] _ _
         refine wpList_nil ?_
         refine hK151 _ _ ?_
         rcases cond_some H with ⟨c152, H⟩ | ⟨c152, H⟩
         ·have hk := hk.lit 45 c152 rfl
          refine cnd_true hk rfl rfl ?_
          refine wp_skip ?_
          refine hK150 _ _ ?_
          apply wp_seq_k; intro K153 hK153
          refine wp_block ?_
          apply wp_region_lit
          refine sm _ rfl hk rfl rfl rfl fun a hk => ?_
          refine sm _ rfl hk rfl rfl rfl fun a hk => ?_
          refine sf ⟨b2, 0, none⟩ rfl hk rfl rfl rfl fd29_0 rfl fun a hk => ?_
          rcases ite_some H with ⟨c154, H⟩ | ⟨_, H⟩
          rotate_left
          ·cases H
          refine sia rfl hk rfl rfl rfl rfl un27 sz3 c154.1 c154.2 rfl fun a hk => ?_
          refine slBE (k := 1) (ik := .i64) (vs := [.int .i64 y87.H0, .int .i64 y87.H1, .int .i64 y87.H2, .int .i64 y87.H3, .int .i64 y87.H4, .int .i64 y87.H5, .int .i64 y87.H6, .int .i64 y87.H7, .string y87.Buf, .int .i64 y87.N]) ([y87.H0, y87.H1, y87.H2, y87.H3, y87.H4, y87.H5, y87.H6, y87.H7] : List Int) hs rfl rfl rfl rfl hk rfl rfl rfl ag3 c154.1 c154.2 fun a hk => ?_
          refine sm _ rfl hk rfl rfl rfl fun a hk => ?_
          refine sv (.int .i64 (w64 (8 * u131))) hk rfl rfl rfl fun a hk => ?_
          rcases ite_some H with ⟨c155, H⟩ | ⟨_, H⟩
          rotate_left
          ·cases H
          refine ssr rfl hk rfl rfl rfl rfl c155 fun a hk => ?_
          refine scn rfl hk rfl rfl rfl un5 un3 fun a hk => ?_
          refine sbs (L := (Lay.int .u8)) (pv := [(0, (.int .u8 (IntKind.wrap .u8 (Int.fdiv (([y87.H0, y87.H1, y87.H2, y87.H3, y87.H4, y87.H5, y87.H6, y87.H7] : List Int).getD u101.toNat 0) (2 ^ min (w64 (8 * u131)).toNat 64)))))]) (xs := [(IntKind.wrap .u8 (Int.fdiv (([y87.H0, y87.H1, y87.H2, y87.H3, y87.H4, y87.H5, y87.H6, y87.H7] : List Int).getD u101.toNat 0) (2 ^ min (w64 (8 * u131)).toNat 64)))]) (ess := [[.int .u8 (IntKind.wrap .u8 (Int.fdiv (([y87.H0, y87.H1, y87.H2, y87.H3, y87.H4, y87.H5, y87.H6, y87.H7] : List Int).getD u101.toNat 0) (2 ^ min (w64 (8 * u131)).toNat 64)))]]) 10 hs rfl hk rfl rfl rfl un22 (bs5_1 (IntKind.wrap .u8 (Int.fdiv (([y87.H0, y87.H1, y87.H2, y87.H3, y87.H4, y87.H5, y87.H6, y87.H7] : List Int).getD u101.toNat 0) (2 ^ min (w64 (8 * u131)).toNat 64)))) (AllOwn.cons0 ⟨rfl, rfl⟩ AllOwn.nil) rfl rfl rfl fun b156 k157 w a hk o158 hs => ?_
          rcases ite_some H with ⟨c159, H⟩ | ⟨_, H⟩
          rotate_left
          ·cases H
          refine sap 7 (xs := u132) (ys := [(IntKind.wrap .u8 (Int.fdiv (([y87.H0, y87.H1, y87.H2, y87.H3, y87.H4, y87.H5, y87.H6, y87.H7] : List Int).getD u101.toNat 0) (2 ^ min (w64 (8 * u131)).toNat 64)))]) (flat_flat : ((Lay.int .u8)).Flat) hs rfl o134 o158.view (hs.hasG (k := 10) rfl) rfl hk rfl rfl rfl rfl rfl rfl un22 mk5 rfl rfl rfl c159 fun A160 p161 k162 w a hk o163 hs => ?_
          refine sa _ rfl hk rfl rfl rfl fun a hk => ?_
          show wpList _ _ _ [] _ _
          refine wpList_nil ?_
          refine hK153 _ _ ?_
          apply wp_region_lit
          refine sm _ rfl hk rfl rfl rfl fun a hk => ?_
          refine sv (.int .i64 (w64 (u131 - 1))) hk rfl rfl rfl fun a hk => ?_
          refine sa _ rfl hk rfl rfl rfl fun a hk => ?_
          show wpList _ _ _ [] _ _
          refine wpList_nil ?_
          obtain rfl := Option.some.inj H
          obtain ⟨m164, hmm164, h149⟩ := h149
          show ∃ n', n' < _ ∧ I146 n' _ _
          refine ⟨m164, hmm164, ?_⟩
          rw [hI146]
          exact ⟨(u132 ++ ([(IntKind.wrap .u8 (Int.fdiv (([y87.H0, y87.H1, y87.H2, y87.H3, y87.H4, y87.H5, y87.H6, y87.H7] : List Int).getD u101.toNat 0) (2 ^ min (w64 (8 * u131)).toNat 64)))])), (w64 (u131 - 1)), A160, p161, _, h149, (hk.c 1 rfl (hk.c 6 rfl (hk.c 7 rfl (hk.c 8 rfl hk.k)))), (hs.pick [(7, 7), (1, 1)] rfl), o163⟩
         ·have hk := hk.lit 45 c152 rfl
          refine cnd_false hk rfl rfl ?_
          refine wp_exit ?_
          obtain rfl := Option.some.inj H
          show R145 _ _
          rw [hR145]
          exact ⟨u132, A135, p136, _, h149.symm, (hk.c 1 rfl (hk.c 6 rfl (hk.c 7 rfl hk.k))), (hs.pick [(7, 7), (1, 1)] rfl), o134⟩
       ·intro a w hR0
        rw [hR145] at hR0
        obtain ⟨u137, A140, p141, k138, rfl, hk, hs, o139⟩ := hR0
        have H := HL144
        try dsimp only at H
        refine hK123 _ _ ?_
        apply wp_region_lit
        refine sm _ rfl hk rfl rfl rfl fun a hk => ?_
        refine sv (.int .i64 (w64 (u101 + 1))) hk rfl rfl rfl fun a hk => ?_
        refine sa _ rfl hk rfl rfl rfl fun a hk => ?_
        show wpList _ _ _ [] _ _
        refine wpList_nil ?_
        obtain rfl := Option.some.inj H
        obtain ⟨m165, hmm165, h119⟩ := h119
        show ∃ n', n' < _ ∧ I116 n' _ _
        refine ⟨m165, hmm165, ?_⟩
        rw [hI116]
        exact ⟨u137, (w64 (u101 + 1)), A140, p141, _, h119, (hk.c 1 rfl (hk.c 6 rfl (hk.c 7 rfl hk.k))), (hs.pick [(7, 7), (1, 1)] rfl), o139⟩
      ·have hk := hk.lit 41 c122 rfl
       refine cnd_false hk rfl rfl ?_
       refine wp_exit ?_
       obtain rfl := Option.some.inj H
       show R115 _ _
       rw [hR115]
       exact ⟨u102, A105, p106, _, h119.symm, (hk.c 6 rfl hk.k), (hs.pick [(7, 7)] rfl), o104⟩
    ·intro a w hR0
     rw [hR115] at hR0
     obtain ⟨u107, A110, p111, k108, rfl, hk, hs, o109⟩ := hR0
     have H := HL114
     try dsimp only at H
     refine hK93 _ _ ?_
     apply wp_seq_k; intro K166 hK166
     apply wp_region_lit
     refine sm _ rfl hk rfl rfl rfl fun a hk => ?_
     refine sbt (xs := u107) rfl hk rfl rfl rfl rfl un22 un5 un9 o109.view (hs.hasG (k := 7) rfl) fun a hk => ?_
     refine sa _ rfl hk rfl rfl rfl fun a hk => ?_
     show wpList _ _ _ [] _ _
     refine wpList_nil ?_
     refine hK166 _ _ ?_
     refine wp_ret ?_
     obtain rfl := Option.some.inj H
     exact fin hk _ [(.string (strOfNums u107))] rfl ⟨rfl, trivial⟩ ⟨rfl, (hs.pick [] rfl).dnil⟩

noncomputable def spec_l01Start.f  : Option ((List Int)) :=
  (some ([1779033703, 3144134277, 1013904242, 2773480762, 1359893119, 2600822924, 528734635, 1541459225] : List Int))
set_option maxRecDepth 100000 in
set_option maxHeartbeats 0 in
theorem spec_l01Start_t (w0 : World)  (r : (List Int)) (H : spec_l01Start.f  = some r) :
    Calls Try.prog 123 #[] w0 (Ret (fun v w => v = aggI .i64 r ∧ r.length = 8 ∧ Sat [] w0 w [] [])) := by
  have hs : Sat [] w0 w0 [] [] := Sat.init w0 [] [] (by simp) (by simp) List.nodup_nil (by simp [blks])
  unfold spec_l01Start.f at H
  refine enter Try.func123 rfl Try.ntmps123 rfl fun a hk => ?_
  apply wp_seq_k; intro K1 hK1
  apply wp_region_lit
  refine sala 1 ((Lay.int .i64)) (m := 8) (z := 0) (zc := [.int .i64 0]) hs rfl hk rfl rfl ze27 (by exact ⟨rfl, rfl⟩) rfl rfl rfl fun b2 k3 w a hk o4 hs => ?_
  have lh5 : (List.replicate 8 (0 : Int)).length = 8 := List.length_replicate
  show wpList _ _ _ [] _ _
  refine wpList_nil ?_
  refine hK1 _ _ ?_
  apply wp_seq_k; intro K6 hK6
  apply wp_region_lit
  refine sbd (pv := [(0, (.int .i64 1779033703)), (1, (.int .i64 3144134277)), (2, (.int .i64 1013904242)), (3, (.int .i64 2773480762)), (4, (.int .i64 1359893119)), (5, (.int .i64 2600822924)), (6, (.int .i64 528734635)), (7, (.int .i64 1541459225))]) rfl hk rfl rfl rfl (bd27_3 1779033703 3144134277 1013904242 2773480762 1359893119 2600822924 528734635 1541459225) fun a hk => ?_
  have lh7 : ([1779033703, 3144134277, 1013904242, 2773480762, 1359893119, 2600822924, 528734635, 1541459225] : List Int).length = 8 := rfl
  refine sswa 1 ([1779033703, 3144134277, 1013904242, 2773480762, 1359893119, 2600822924, 528734635, 1541459225] : List Int) hs rfl o4 lh5 lh7 rfl rfl hk rfl rfl rfl rfl sz27 fun k8 w a hk o9 hs => ?_
  show wpList _ _ _ [] _ _
  refine wpList_nil ?_
  refine hK6 _ _ ?_
  refine wp_ret ?_
  obtain rfl := Option.some.inj H
  exact fin hk _ [(aggI .i64 ([1779033703, 3144134277, 1013904242, 2773480762, 1359893119, 2600822924, 528734635, 1541459225] : List Int))] rfl ⟨⟨_, rfl, run_loadA ag27 sz27 o9 lh7 hs (q := 1) rfl⟩, trivial⟩ ⟨rfl, lh7, (hs.pick [] rfl).dnil⟩

noncomputable def spec_NewHash.f  : Option (S_Hash) :=
  ((spec_l01Start.f).bind fun y4 => (some (⟨(y4.getD 0 0), (y4.getD 1 0), (y4.getD 2 0), (y4.getD 3 0), (y4.getD 4 0), (y4.getD 5 0), (y4.getD 6 0), (y4.getD 7 0), ByteArray.empty, 0⟩ : S_Hash)))
set_option maxRecDepth 100000 in
set_option maxHeartbeats 0 in
theorem spec_NewHash_t (w0 : World)  (r : S_Hash) (H : spec_NewHash.f  = some r) :
    Calls Try.prog 91 #[] w0 (Ret (fun v w => v = .agg #[.int .i64 r.H0, .int .i64 r.H1, .int .i64 r.H2, .int .i64 r.H3, .int .i64 r.H4, .int .i64 r.H5, .int .i64 r.H6, .int .i64 r.H7, .string r.Buf, .int .i64 r.N] ∧ Sat [] w0 w [] [])) := by
  have hs : Sat [] w0 w0 [] [] := Sat.init w0 [] [] (by simp) (by simp) List.nodup_nil (by simp [blks])
  unfold spec_NewHash.f at H
  refine enter Try.func91 rfl Try.ntmps91 rfl fun a hk => ?_
  apply wp_seq_k; intro K1 hK1
  apply wp_region_lit
  refine salx 1 hs rfl hk rfl rfl ze29 rfl fun b2 w a hk hs => ?_
  show wpList _ _ _ [] _ _
  refine wpList_nil ?_
  refine hK1 _ _ ?_
  apply wp_seq_k; intro K3 hK3
  apply wp_region_lit
  obtain ⟨y4, h5, H⟩ := bind_some H
  refine sc rfl en123 hk rfl rfl rfl (spec_l01Start_t _ _ h5) ?_
  rintro _ w ⟨rfl, lh6, hG⟩ a hk
  have hs := hs.call0 hG
  have hk := hk.re 1 (v' := .agg #[.int .i64 (y4.getD 0 0), .int .i64 (y4.getD 1 0), .int .i64 (y4.getD 2 0), .int .i64 (y4.getD 3 0), .int .i64 (y4.getD 4 0), .int .i64 (y4.getD 5 0), .int .i64 (y4.getD 6 0), .int .i64 (y4.getD 7 0)]) rfl (by exact aggI_lits lh6)
  refine sbd (pv := [(0, (.agg #[.int .i64 (y4.getD 0 0), .int .i64 (y4.getD 1 0), .int .i64 (y4.getD 2 0), .int .i64 (y4.getD 3 0), .int .i64 (y4.getD 4 0), .int .i64 (y4.getD 5 0), .int .i64 (y4.getD 6 0), .int .i64 (y4.getD 7 0)]))]) rfl hk rfl rfl rfl (bd29_4 (y4.getD 0 0) (y4.getD 1 0) (y4.getD 2 0) (y4.getD 3 0) (y4.getD 4 0) (y4.getD 5 0) (y4.getD 6 0) (y4.getD 7 0)) fun a hk => ?_
  refine ssw 1 hs rfl rfl hk rfl rfl rfl rfl sz29 (by simp [Value.oneCell']) rfl fun w a hk hs => ?_
  show wpList _ _ _ [] _ _
  refine wpList_nil ?_
  refine hK3 _ _ ?_
  refine wp_ret ?_
  obtain rfl := Option.some.inj H
  exact fin hk _ [(.agg #[.int .i64 (y4.getD 0 0), .int .i64 (y4.getD 1 0), .int .i64 (y4.getD 2 0), .int .i64 (y4.getD 3 0), .int .i64 (y4.getD 4 0), .int .i64 (y4.getD 5 0), .int .i64 (y4.getD 6 0), .int .i64 (y4.getD 7 0), .string ByteArray.empty, .int .i64 0])] rfl ⟨⟨_, rfl, run_loadN ag29 sz29 (box_cells hs (k := 1) rfl)⟩, trivial⟩ ⟨rfl, (hs.pick [] rfl).dnil⟩

noncomputable def spec_l01Of.f (x0 : ByteArray) : Option (ByteArray) :=
  ((spec_NewHash.f).bind fun y3 => ((spec_l01More.f y3 x0).bind fun y5 => ((spec_l01Sum.f y5).bind fun y7 => (some y7))))
set_option maxRecDepth 100000 in
set_option maxHeartbeats 0 in
theorem spec_l01Of_t (w0 : World) (x0 : ByteArray) (r : ByteArray) (H : spec_l01Of.f x0 = some r) :
    Calls Try.prog 47 #[.string x0] w0 (Ret (fun v w => v = .string r ∧ Sat [] w0 w [] [])) := by
  have hs : Sat [] w0 w0 [] [] := Sat.init w0 [] [] (by simp) (by simp) List.nodup_nil (by simp [blks])
  unfold spec_l01Of.f at H
  refine enter Try.func47 rfl Try.ntmps47 rfl fun a hk => ?_
  apply wp_seq_k; intro K1 hK1
  apply wp_region_lit
  refine sa _ rfl hk rfl rfl rfl fun a hk => ?_
  show wpList _ _ _ [] _ _
  refine wpList_nil ?_
  refine hK1 _ _ ?_
  apply wp_seq_k; intro K2 hK2
  apply wp_region_lit
  obtain ⟨y3, h4, H⟩ := bind_some H
  refine sc rfl en91 hk rfl rfl rfl (spec_NewHash_t _ _ h4) ?_
  rintro _ w ⟨rfl, hG⟩ a hk
  have hs := hs.call0 hG
  refine sm _ rfl hk rfl rfl rfl fun a hk => ?_
  obtain ⟨y5, h6, H⟩ := bind_some H
  refine sc rfl en90 hk rfl rfl rfl (spec_l01More_t _ y3 x0 _ h6) ?_
  rintro _ w ⟨rfl, hG⟩ a hk
  have hs := hs.call0 hG
  obtain ⟨y7, h8, H⟩ := bind_some H
  refine sc rfl en89 hk rfl rfl rfl (spec_l01Sum_t _ y5 _ h8) ?_
  rintro _ w ⟨rfl, hG⟩ a hk
  have hs := hs.call0 hG
  refine sa _ rfl hk rfl rfl rfl fun a hk => ?_
  show wpList _ _ _ [] _ _
  refine wpList_nil ?_
  refine hK2 _ _ ?_
  refine wp_ret ?_
  obtain rfl := Option.some.inj H
  exact fin hk _ [(.string y7)] rfl ⟨rfl, trivial⟩ ⟨rfl, (hs.pick [] rfl).dnil⟩

noncomputable def spec_HashOf.f (x0 : ByteArray) : Option (ByteArray × Int) :=
  (bif (decide ((x0.size : Int) > 65536)) then (some ((⟨#[]⟩ : ByteArray), 2)) else ((spec_l01Of.f x0).bind fun y7 => (some (y7, 0))))
set_option maxRecDepth 100000 in
set_option maxHeartbeats 0 in
theorem spec_HashOf_t (w0 : World) (x0 : ByteArray) (r : ByteArray × Int) (H : spec_HashOf.f x0 = some r) :
    Calls Try.prog 10 #[.string x0] w0 (Ret (fun v w => v = .tuple #[.string r.1, .int .i64 r.2] ∧ Sat [] w0 w [] [])) := by
  have hs : Sat [] w0 w0 [] [] := Sat.init w0 [] [] (by simp) (by simp) List.nodup_nil (by simp [blks])
  unfold spec_HashOf.f at H
  refine enter Try.func10 rfl Try.ntmps10 rfl fun a hk => ?_
  apply wp_seq_k; intro K1 hK1
  apply wp_region_lit
  refine sa _ rfl hk rfl rfl rfl fun a hk => ?_
  refine sa _ rfl hk rfl rfl rfl fun a hk => ?_
  show wpList _ _ _ [] _ _
  refine wpList_nil ?_
  refine hK1 _ _ ?_
  apply wp_seq_k; intro K2 hK2
  apply wp_seq_k; intro K3 hK3
  apply wp_region_lit
  refine sm _ rfl hk rfl rfl rfl fun a hk => ?_
  refine sles rfl hk rfl rfl rfl un9 fun a hk => ?_
  refine sv (.bool (decide ((x0.size : Int) > 65536))) hk rfl rfl rfl fun a hk => ?_
  show wpList _ _ _ [] _ _
  refine wpList_nil ?_
  refine hK3 _ _ ?_
  rcases cond_some H with ⟨c4, H⟩ | ⟨c4, H⟩
  ·have hk := hk.lit 6 c4 rfl
   refine cnd_true hk rfl rfl ?_
   apply wp_seq_k; intro K5 hK5
   apply wp_region_lit
   refine sa _ rfl hk rfl rfl rfl fun a hk => ?_
   refine sa _ rfl hk rfl rfl rfl fun a hk => ?_
   show wpList _ _ _ [] _ _
   refine wpList_nil ?_
   refine hK5 _ _ ?_
   refine wp_ret ?_
   obtain rfl := Option.some.inj H
   exact fin hk _ [(.string (⟨#[]⟩ : ByteArray)), (.int .i64 2)] rfl ⟨rfl, ⟨rfl, trivial⟩⟩ ⟨rfl, (hs.pick [] rfl).dnil⟩
  ·have hk := hk.lit 6 c4 rfl
   refine cnd_false hk rfl rfl ?_
   refine wp_skip ?_
   refine hK2 _ _ ?_
   apply wp_seq_k; intro K6 hK6
   apply wp_region_lit
   refine sm _ rfl hk rfl rfl rfl fun a hk => ?_
   obtain ⟨y7, h8, H⟩ := bind_some H
   refine sc rfl en47 hk rfl rfl rfl (spec_l01Of_t _ x0 _ h8) ?_
   rintro _ w ⟨rfl, hG⟩ a hk
   have hs := hs.call0 hG
   refine sa _ rfl hk rfl rfl rfl fun a hk => ?_
   refine sa _ rfl hk rfl rfl rfl fun a hk => ?_
   show wpList _ _ _ [] _ _
   refine wpList_nil ?_
   refine hK6 _ _ ?_
   have hs := hs.pick [] rfl
   refine wp_ret ?_
   obtain rfl := Option.some.inj H
   exact fin hk _ [(.string y7), (.int .i64 0)] rfl ⟨rfl, ⟨rfl, trivial⟩⟩ ⟨rfl, (hs.pick [] rfl).dnil⟩

noncomputable def laws_at.f (l0 : List Int) (x1 : Int) (x2 : Int) : Option (Int) :=
  (bif (decide (x2 ≤ 1)) then (some 0) else (bif ((l0.length : Int) == 0) then (if x2 = 0 then none else (some (Int.tmod (w64 (x1 * 7)) x2))) else (if (l0.length : Int) = 0 then none else (if 0 ≤ (Int.tmod x1 (l0.length : Int)) ∧ (Int.tmod x1 (l0.length : Int)) < (l0.length : Int) then (if (l0.length : Int) = 0 then none else (if 0 ≤ (Int.tmod (w64 (x1 + 1)) (l0.length : Int)) ∧ (Int.tmod (w64 (x1 + 1)) (l0.length : Int)) < (l0.length : Int) then (if (l0.length : Int) = 0 then none else (if x2 = 0 then none else (some (Int.tmod (w64 ((w64 ((w64 ((IntKind.wrap .i64 (l0.getD (Int.tmod x1 (l0.length : Int)).toNat 0)) * 31)) + (IntKind.wrap .i64 (l0.getD (Int.tmod (w64 (x1 + 1)) (l0.length : Int)).toNat 0)))) + (IntKind.wrap .i64 (Int.tdiv x1 (l0.length : Int))))) x2)))) else none)) else none))))
set_option maxRecDepth 100000 in
set_option maxHeartbeats 0 in
theorem laws_at_t (w0 : World) (A0_ : Option Addr) (p0_ : Nat) (l0 : List Int) (k0_ : Chunk) (v0_ : View (Lay.int .u8) A0_ p0_ l0 k0_) (w0_ : Has w0 k0_) (x1 : Int) (x2 : Int) (r : Int) (H : laws_at.f l0 x1 x2 = some r) :
    Calls Try.prog 11 #[.slice A0_ l0.length p0_, .int .i64 x1, .int .i64 x2] w0 (Ret (fun v w => v = .int .i64 r ∧ Sat [] w0 w [] [])) := by
  have hs : Sat [] w0 w0 [(1, k0_)] [] := Sat.init w0 [(1, k0_)] [] (by simp only [List.mem_cons, List.not_mem_nil, or_false]; rintro x (rfl) <;> assumption) (by simp) List.nodup_nil (by simp [blks])
  unfold laws_at.f at H
  refine enter Try.func11 rfl Try.ntmps11 rfl fun a hk => ?_
  apply wp_seq_k; intro K1 hK1
  apply wp_region_lit
  refine sa _ rfl hk rfl rfl rfl fun a hk => ?_
  show wpList _ _ _ [] _ _
  refine wpList_nil ?_
  refine hK1 _ _ ?_
  apply wp_seq_k; intro K2 hK2
  apply wp_seq_k; intro K3 hK3
  apply wp_region_lit
  refine sm _ rfl hk rfl rfl rfl fun a hk => ?_
  refine sv (.bool (decide (x2 ≤ 1))) hk rfl rfl rfl fun a hk => ?_
  show wpList _ _ _ [] _ _
  refine wpList_nil ?_
  refine hK3 _ _ ?_
  rcases cond_some H with ⟨c4, H⟩ | ⟨c4, H⟩
  ·have hk := hk.lit 8 c4 rfl
   refine cnd_true hk rfl rfl ?_
   apply wp_seq_k; intro K5 hK5
   apply wp_region_lit
   refine sa _ rfl hk rfl rfl rfl fun a hk => ?_
   show wpList _ _ _ [] _ _
   refine wpList_nil ?_
   refine hK5 _ _ ?_
   refine wp_ret ?_
   obtain rfl := Option.some.inj H
   exact fin hk _ [(.int .i64 0)] rfl ⟨rfl, trivial⟩ ⟨rfl, (hs.pick [] rfl).dnil⟩
  ·have hk := hk.lit 8 c4 rfl
   refine cnd_false hk rfl rfl ?_
   refine wp_skip ?_
   refine hK2 _ _ ?_
   apply wp_seq_k; intro K6 hK6
   apply wp_seq_k; intro K7 hK7
   apply wp_region_lit
   refine sm _ rfl hk rfl rfl rfl fun a hk => ?_
   refine sle rfl hk rfl rfl rfl un22 fun a hk => ?_
   refine sv (.bool ((l0.length : Int) == 0)) hk rfl rfl rfl fun a hk => ?_
   show wpList _ _ _ [] _ _
   refine wpList_nil ?_
   refine hK7 _ _ ?_
   have hs := hs.pick [] rfl
   rcases cond_some H with ⟨c8, H⟩ | ⟨c8, H⟩
   ·have hk := hk.lit 11 c8 rfl
    refine cnd_true hk rfl rfl ?_
    apply wp_seq_k; intro K9 hK9
    apply wp_region_lit
    refine sm _ rfl hk rfl rfl rfl fun a hk => ?_
    refine sv (.int .i64 (w64 (x1 * 7))) hk rfl rfl rfl fun a hk => ?_
    refine sm _ rfl hk rfl rfl rfl fun a hk => ?_
    rcases ite_some H with ⟨_, H⟩ | ⟨c10, H⟩
    ·cases H
    refine srm rfl hk rfl rfl rfl rfl c10 fun a hk => ?_
    refine sa _ rfl hk rfl rfl rfl fun a hk => ?_
    show wpList _ _ _ [] _ _
    refine wpList_nil ?_
    refine hK9 _ _ ?_
    refine wp_ret ?_
    obtain rfl := Option.some.inj H
    exact fin hk _ [(.int .i64 (Int.tmod (w64 (x1 * 7)) x2))] rfl ⟨rfl, trivial⟩ ⟨rfl, (hs.pick [] rfl).dnil⟩
   ·have hk := hk.lit 11 c8 rfl
    refine cnd_false hk rfl rfl ?_
    refine wp_skip ?_
    refine hK6 _ _ ?_
    apply wp_seq_k; intro K11 hK11
    refine wp_region_tree (.q 0 (.q 1 (.q 2 (.q 3 (.q 4 (.q 5 (.q 6 (.q 7 (.q 8 (.q 9 (.q 10 (.q 11 (.q 12 (.q 13 (.q 14 (.q 15 (.q 16 (.q 17 (.q 18 (.q 19 (.q 20 (.q 21 (.q 22 (.q 23 (.alt 24 (.alt 25 (.last 26) .stop) .stop))))))))))))))))))))))))) mo (by kernel_rfl) (hs.pick [] rfl) fun _ => ?_
    have hs := hs.drew
    refine tqst (.slice A0_ l0.length p0_) hk rfl rfl rfl rfl (fun w hs => sm _ rfl hk rfl rfl rfl fun a hk => qe hk) fun a hk => ?_
    refine tqst (.int .i64 x1) hk rfl rfl rfl rfl (fun w hs => sm _ rfl hk rfl rfl rfl fun a hk => qe hk) fun a hk => ?_
    refine tqst (.slice A0_ l0.length p0_) hk rfl rfl rfl rfl (fun w hs => sm _ rfl hk rfl rfl rfl fun a hk => qe hk) fun a hk => ?_
    refine tqst (.int .i64 (l0.length : Int)) hk rfl rfl rfl rfl (fun w hs => sle rfl hk rfl rfl rfl un22 fun a hk => qe hk) fun a hk => ?_
    rcases ite_some H with ⟨_, H⟩ | ⟨c13, H⟩
    ·cases H
    refine tqst (.int .i64 (Int.tmod x1 (l0.length : Int))) hk rfl rfl rfl rfl (fun w hs => srm rfl hk rfl rfl rfl rfl c13 fun a hk => qe hk) fun a hk => ?_
    rcases ite_some H with ⟨c14, H⟩ | ⟨_, H⟩
    rotate_left
    ·cases H
    obtain ⟨b15, q16, hAc14⟩ := (v0_).some_ (Int.tmod x1 (l0.length : Int)) c14.1 c14.2
    refine tqst (.pointer (some (padd A0_ ((Int.tmod x1 (l0.length : Int)).toNat * 1)))) hk rfl rfl rfl rfl (fun w hs => si rfl hk rfl rfl rfl rfl un22 sz5 c14.1 c14.2 hAc14 fun a hk => qe hk) fun a hk => ?_
    obtain ⟨_, rfl, e17⟩ := (v0_).at_ 0 (Int.tmod x1 (l0.length : Int)) c14.1 c14.2
    refine tqst (.int .u8 (l0.getD (Int.tmod x1 (l0.length : Int)).toNat 0)) hk rfl rfl rfl rfl (fun w hs => sl (v := (.int .u8 (l0.getD (Int.tmod x1 (l0.length : Int)).toNat 0))) rfl hk rfl rfl rfl ag5 ((e17 0 _ rfl).cell (hs.hasD (k := 1) rfl)) fun a hk => qe hk) fun a hk => ?_
    refine tqst (.int .i64 (IntKind.wrap .i64 (l0.getD (Int.tmod x1 (l0.length : Int)).toNat 0))) hk rfl rfl rfl rfl (fun w hs => scn rfl hk rfl rfl rfl un3 un5 fun a hk => qe hk) fun a hk => ?_
    refine tqst (.int .i64 (w64 ((IntKind.wrap .i64 (l0.getD (Int.tmod x1 (l0.length : Int)).toNat 0)) * 31))) hk rfl rfl rfl rfl (fun w hs => sv (.int .i64 (w64 ((IntKind.wrap .i64 (l0.getD (Int.tmod x1 (l0.length : Int)).toNat 0)) * 31))) hk rfl rfl rfl fun a hk => qe hk) fun a hk => ?_
    refine tqst (.slice A0_ l0.length p0_) hk rfl rfl rfl rfl (fun w hs => sm _ rfl hk rfl rfl rfl fun a hk => qe hk) fun a hk => ?_
    refine tqst (.int .i64 x1) hk rfl rfl rfl rfl (fun w hs => sm _ rfl hk rfl rfl rfl fun a hk => qe hk) fun a hk => ?_
    refine tqst (.int .i64 (w64 (x1 + 1))) hk rfl rfl rfl rfl (fun w hs => sv (.int .i64 (w64 (x1 + 1))) hk rfl rfl rfl fun a hk => qe hk) fun a hk => ?_
    refine tqst (.slice A0_ l0.length p0_) hk rfl rfl rfl rfl (fun w hs => sm _ rfl hk rfl rfl rfl fun a hk => qe hk) fun a hk => ?_
    refine tqst (.int .i64 (l0.length : Int)) hk rfl rfl rfl rfl (fun w hs => sle rfl hk rfl rfl rfl un22 fun a hk => qe hk) fun a hk => ?_
    rcases ite_some H with ⟨_, H⟩ | ⟨c18, H⟩
    ·cases H
    refine tqst (.int .i64 (Int.tmod (w64 (x1 + 1)) (l0.length : Int))) hk rfl rfl rfl rfl (fun w hs => srm rfl hk rfl rfl rfl rfl c18 fun a hk => qe hk) fun a hk => ?_
    rcases ite_some H with ⟨c19, H⟩ | ⟨_, H⟩
    rotate_left
    ·cases H
    obtain ⟨b20, q21, hAc19⟩ := (v0_).some_ (Int.tmod (w64 (x1 + 1)) (l0.length : Int)) c19.1 c19.2
    refine tqst (.pointer (some (padd A0_ ((Int.tmod (w64 (x1 + 1)) (l0.length : Int)).toNat * 1)))) hk rfl rfl rfl rfl (fun w hs => si rfl hk rfl rfl rfl rfl un22 sz5 c19.1 c19.2 hAc19 fun a hk => qe hk) fun a hk => ?_
    obtain ⟨_, rfl, e22⟩ := (v0_).at_ 0 (Int.tmod (w64 (x1 + 1)) (l0.length : Int)) c19.1 c19.2
    refine tqst (.int .u8 (l0.getD (Int.tmod (w64 (x1 + 1)) (l0.length : Int)).toNat 0)) hk rfl rfl rfl rfl (fun w hs => sl (v := (.int .u8 (l0.getD (Int.tmod (w64 (x1 + 1)) (l0.length : Int)).toNat 0))) rfl hk rfl rfl rfl ag5 ((e22 0 _ rfl).cell (hs.hasD (k := 1) rfl)) fun a hk => qe hk) fun a hk => ?_
    refine tqst (.int .i64 (IntKind.wrap .i64 (l0.getD (Int.tmod (w64 (x1 + 1)) (l0.length : Int)).toNat 0))) hk rfl rfl rfl rfl (fun w hs => scn rfl hk rfl rfl rfl un3 un5 fun a hk => qe hk) fun a hk => ?_
    refine tqst (.int .i64 (w64 ((w64 ((IntKind.wrap .i64 (l0.getD (Int.tmod x1 (l0.length : Int)).toNat 0)) * 31)) + (IntKind.wrap .i64 (l0.getD (Int.tmod (w64 (x1 + 1)) (l0.length : Int)).toNat 0))))) hk rfl rfl rfl rfl (fun w hs => sv (.int .i64 (w64 ((w64 ((IntKind.wrap .i64 (l0.getD (Int.tmod x1 (l0.length : Int)).toNat 0)) * 31)) + (IntKind.wrap .i64 (l0.getD (Int.tmod (w64 (x1 + 1)) (l0.length : Int)).toNat 0))))) hk rfl rfl rfl fun a hk => qe hk) fun a hk => ?_
    refine tqst (.int .i64 x1) hk rfl rfl rfl rfl (fun w hs => sm _ rfl hk rfl rfl rfl fun a hk => qe hk) fun a hk => ?_
    refine tqst (.slice A0_ l0.length p0_) hk rfl rfl rfl rfl (fun w hs => sm _ rfl hk rfl rfl rfl fun a hk => qe hk) fun a hk => ?_
    refine tqst (.int .i64 (l0.length : Int)) hk rfl rfl rfl rfl (fun w hs => sle rfl hk rfl rfl rfl un22 fun a hk => qe hk) fun a hk => ?_
    rcases ite_some H with ⟨_, H⟩ | ⟨c23, H⟩
    ·cases H
    refine tqst (.int .i64 (IntKind.wrap .i64 (Int.tdiv x1 (l0.length : Int)))) hk rfl rfl rfl rfl (fun w hs => sqo rfl hk rfl rfl rfl rfl c23 fun a hk => qe hk) fun a hk => ?_
    refine tqst (.int .i64 (w64 ((w64 ((w64 ((IntKind.wrap .i64 (l0.getD (Int.tmod x1 (l0.length : Int)).toNat 0)) * 31)) + (IntKind.wrap .i64 (l0.getD (Int.tmod (w64 (x1 + 1)) (l0.length : Int)).toNat 0)))) + (IntKind.wrap .i64 (Int.tdiv x1 (l0.length : Int)))))) hk rfl rfl rfl rfl (fun w hs => sv (.int .i64 (w64 ((w64 ((w64 ((IntKind.wrap .i64 (l0.getD (Int.tmod x1 (l0.length : Int)).toNat 0)) * 31)) + (IntKind.wrap .i64 (l0.getD (Int.tmod (w64 (x1 + 1)) (l0.length : Int)).toNat 0)))) + (IntKind.wrap .i64 (Int.tdiv x1 (l0.length : Int)))))) hk rfl rfl rfl fun a hk => qe hk) fun a hk => ?_
    refine tsst hk rfl rfl (fun K_r12_24 hK_r12_24 w hF => ?_) wt_stop
    have hs := hs.f hF
    refine sm _ rfl hk rfl rfl rfl fun a hk => ?_
    refine se (hs.pick [] rfl) hk (hK_r12_24 _ _ ?_)
    refine tsst hk rfl rfl (fun K_r12_25 hK_r12_25 w hF => ?_) wt_stop
    have hs := hs.f hF
    rcases ite_some H with ⟨_, H⟩ | ⟨c24, H⟩
    ·cases H
    refine srm rfl hk rfl rfl rfl rfl c24 fun a hk => ?_
    refine se (hs.pick [] rfl) hk (hK_r12_25 _ _ ?_)
    refine tlst hk rfl rfl fun K_r12_26 hK_r12_26 w hF => ?_
    have hs := hs.f hF
    refine sa _ rfl hk rfl rfl rfl fun a hk => ?_
    refine se trivial hk (hK_r12_26 _ _ fun w hF => ?_)
    have hs := hs.f hF
    refine hK11 _ _ ?_
    refine wp_ret ?_
    obtain rfl := Option.some.inj H
    exact fin hk _ [(.int .i64 (Int.tmod (w64 ((w64 ((w64 ((IntKind.wrap .i64 (l0.getD (Int.tmod x1 (l0.length : Int)).toNat 0)) * 31)) + (IntKind.wrap .i64 (l0.getD (Int.tmod (w64 (x1 + 1)) (l0.length : Int)).toNat 0)))) + (IntKind.wrap .i64 (Int.tdiv x1 (l0.length : Int))))) x2))] rfl ⟨rfl, trivial⟩ ⟨rfl, (hs.pick [] rfl).dnil⟩

noncomputable def impl_within.f (x0 : Int) (x1 : Int) (x2 : Int) : Option (Bool) :=
  (((bif (decide (x1 ≤ x0)) then (some (decide (x0 ≤ x2))) else (some false)) : Option (Bool)).bind fun u4 => (some u4))
set_option maxRecDepth 100000 in
set_option maxHeartbeats 0 in
theorem impl_within_t (w0 : World) (x0 : Int) (x1 : Int) (x2 : Int) (r : Bool) (H : impl_within.f x0 x1 x2 = some r) :
    Calls Try.prog 50 #[.int .i64 x0, .int .i64 x1, .int .i64 x2] w0 (Ret (fun v w => v = .bool r ∧ Sat [] w0 w [] [])) := by
  have hs : Sat [] w0 w0 [] [] := Sat.init w0 [] [] (by simp) (by simp) List.nodup_nil (by simp [blks])
  unfold impl_within.f at H
  refine enter Try.func50 rfl Try.ntmps50 rfl fun a hk => ?_
  apply wp_seq_k; intro K1 hK1
  apply wp_region_lit
  refine sa _ rfl hk rfl rfl rfl fun a hk => ?_
  show wpList _ _ _ [] _ _
  refine wpList_nil ?_
  refine hK1 _ _ ?_
  apply wp_seq_k; intro K2 hK2
  obtain ⟨o5, h6, HL7⟩ := bind_some H
  clear H
  obtain ⟨R8, hR8⟩ : ∃ R : Act → World → Prop, R = fun a w => ∃ (u4 : Bool), u4 = o5 ∧ Kn [(6, (.bool u4))] 15 a ∧ Sat [] w0 w [] [] := ⟨_, rfl⟩
  refine wp_cutq R8 ?_ ?_
  ·have H := h6
   apply wp_region_lit
   refine sm _ rfl hk rfl rfl rfl fun a hk => ?_
   refine sm _ rfl hk rfl rfl rfl fun a hk => ?_
   refine sv (.bool (decide (x1 ≤ x0))) hk rfl rfl rfl fun a hk => ?_
   refine sm _ rfl hk rfl rfl rfl fun a hk => ?_
   rcases cond_some H with ⟨c9, H⟩ | ⟨c9, H⟩
   ·have hk := hk.lit 10 c9 rfl
    refine sm _ rfl hk rfl rfl rfl fun a hk => ?_
    refine sm _ rfl hk rfl rfl rfl fun a hk => ?_
    refine sv (.bool (decide (x0 ≤ x2))) hk rfl rfl rfl fun a hk => ?_
    refine sv (.bool (decide (x0 ≤ x2))) hk rfl rfl rfl fun a hk => ?_
    refine sa _ rfl hk rfl rfl rfl fun a hk => ?_
    show wpList _ _ _ [] _ _
    refine wpList_nil ?_
    obtain rfl := Option.some.inj H
    show R8 _ _
    rw [hR8]
    exact ⟨(decide (x0 ≤ x2)), rfl, (hk.c 6 rfl hk.k), (hs.pick [] rfl)⟩
   ·have hk := hk.lit 10 c9 rfl
    refine sk hk rfl rfl rfl fun a hk => ?_
    refine sk hk rfl rfl rfl fun a hk => ?_
    refine sk hk rfl rfl rfl fun a hk => ?_
    refine sv (.bool false) hk rfl rfl rfl fun a hk => ?_
    refine sa _ rfl hk rfl rfl rfl fun a hk => ?_
    show wpList _ _ _ [] _ _
    refine wpList_nil ?_
    obtain rfl := Option.some.inj H
    show R8 _ _
    rw [hR8]
    exact ⟨false, rfl, (hk.c 6 rfl hk.k), (hs.pick [] rfl)⟩
  ·intro a w hR0
   rw [hR8] at hR0
   obtain ⟨u4, rfl, hk, hs⟩ := hR0
   have H := HL7
   try dsimp only at H
   refine hK2 _ _ ?_
   refine wp_ret ?_
   obtain rfl := Option.some.inj H
   exact fin hk _ [(.bool u4)] rfl ⟨rfl, trivial⟩ ⟨rfl, (hs.pick [] rfl).dnil⟩

noncomputable def slices_IndexFunc_int_int.s0 (l0 : List Int) (q1 : Int → Option (Bool)) (u6 : Int) : Option ((Int) ⊕ Ex (Unit) (Int)) :=
  (bif (decide (u6 < (l0.length : Int))) then (if 0 ≤ u6 ∧ u6 < (l0.length : Int) then ((q1 (l0.getD u6.toNat 0)).bind fun y25 => (bif y25 then (some (.inr (.ret u6))) else (some (.inl (w64 (u6 + 1)))))) else none) else (some (.inr (.out ()))))
noncomputable def slices_IndexFunc_int_int.f (l0 : List Int) (q1 : Int → Option (Bool)) : Option (Int) :=
  ((loopO (fun s => slices_IndexFunc_int_int.s0 l0 q1 s) 0).bind fun o => match o with | .out _ => (some (-1)) | .ret r => (some r))
set_option maxRecDepth 100000 in
set_option maxHeartbeats 0 in
theorem slices_IndexFunc_int_int_t (w0 : World) (A0_ : Option Addr) (p0_ : Nat) (l0 : List Int) (k0_ : Chunk) (v0_ : View (Lay.int .i64) A0_ p0_ l0 k0_) (w0_ : Has w0 k0_) (f1_ : FuncId) (c1_ : List Value) (e1_ : Enters Try.prog f1_) (q1 : Int → Option (Bool)) (k1_ : Chunk) (t1_ : ∀ w, Has w k1_ → ∀ (z0 : Int) (r : Bool), q1 z0 = some r → Calls Try.prog f1_ (([.int .i64 z0] : List Value) ++ c1_).toArray w (Ret (fun v w2 => v = .bool r ∧ Sat [] w w2 [] []))) (w1_ : Has w0 k1_) (r : Int) (H : slices_IndexFunc_int_int.f l0 q1 = some r) :
    Calls Try.prog 129 #[.slice A0_ l0.length p0_, .func (.func f1_) #[] c1_.toArray] w0 (Ret (fun v w => v = .int .i64 r ∧ Sat [] w0 w [] [])) := by
  have hs : Sat [] w0 w0 [(1, k0_), (2, k1_)] [] := Sat.init w0 [(1, k0_), (2, k1_)] [] (by simp only [List.mem_cons, List.not_mem_nil, or_false]; rintro x (rfl | rfl) <;> assumption) (by simp) List.nodup_nil (by simp [blks])
  unfold slices_IndexFunc_int_int.f at H
  refine enter Try.func129 rfl Try.ntmps129 rfl fun a hk => ?_
  apply wp_seq_k; intro K1 hK1
  apply wp_region_lit
  refine sa _ rfl hk rfl rfl rfl fun a hk => ?_
  show wpList _ _ _ [] _ _
  refine wpList_nil ?_
  refine hK1 _ _ ?_
  apply wp_seq_k; intro K2 hK2
  apply wp_seq_k; intro K3 hK3
  apply wp_region_lit
  refine sm _ rfl hk rfl rfl rfl fun a hk => ?_
  refine sle rfl hk rfl rfl rfl un47 fun a hk => ?_
  refine sm _ rfl hk rfl rfl rfl fun a hk => ?_
  show wpList _ _ _ [] _ _
  refine wpList_nil ?_
  refine hK3 _ _ ?_
  obtain ⟨o7, h8, HL9⟩ := bind_some H
  clear H
  obtain ⟨R10, hR10⟩ : ∃ R : Act → World → Prop, R = fun a w => o7 = .out () ∧ Kn [] 19 a ∧ Sat [] w0 w [(1, k0_), (2, k1_)] [] := ⟨_, rfl⟩
  refine wp_cutq R10 ?_ ?_
  ·refine wp_block ?_
   obtain ⟨fu12, h8⟩ := loopO_some h8
   obtain ⟨I11, hI11⟩ : ∃ I : Nat → Act → World → Prop, I = fun fu a w => ∃ (u6 : Int), loopN (fun s => slices_IndexFunc_int_int.s0 l0 q1 s) fu u6 = some o7 ∧ Kn [(0, (.slice A0_ l0.length p0_)), (1, (.func (.func f1_) #[] c1_.toArray)), (7, (.int .i64 (l0.length : Int))), (8, (.int .i64 u6))] 19 a ∧ Sat [] w0 w [(1, k0_), (2, k1_)] [] := ⟨_, rfl⟩
   refine wp_loop_ghost I11 fu12 ?_ ?_
   ·rw [hI11]
    exact ⟨0, h8, (hk.c 0 rfl (hk.c 1 rfl (hk.c 7 rfl (hk.c 8 rfl hk.k)))), (hs.pick [] rfl)⟩
   ·clear h8 hk hs
    intro fu12 a w hI0
    rw [hI11] at hI0
    obtain ⟨u6, hi, hk, hs⟩ := hI0
    obtain ⟨x13, H, h14⟩ := loop_round hi
    try dsimp only at H
    unfold slices_IndexFunc_int_int.s0 at H
    apply wp_seq_k; intro K15 hK15
    apply wp_region_lit
    refine sv (.bool (decide (u6 < (l0.length : Int)))) hk rfl rfl rfl fun a hk => ?_
    show wpList _ _ _ [] _ _
    refine wpList_nil ?_
    refine hK15 _ _ ?_
    apply wp_seq_k; intro K16 hK16
    rcases cond_some H with ⟨c17, H⟩ | ⟨c17, H⟩
    ·have hk := hk.lit 9 c17 rfl
     refine cnd_true hk rfl rfl ?_
     refine wp_skip ?_
     refine hK16 _ _ ?_
     have hs := hs.pick [] rfl
     apply wp_seq_k; intro K18 hK18
     refine wp_block ?_
     apply wp_seq_k; intro K19 hK19
     apply wp_region_lit
     refine sm _ rfl hk rfl rfl rfl fun a hk => ?_
     refine sa _ rfl hk rfl rfl rfl fun a hk => ?_
     show wpList _ _ _ [] _ _
     refine wpList_nil ?_
     refine hK19 _ _ ?_
     apply wp_seq_k; intro K20 hK20
     apply wp_region_lit
     refine sm _ rfl hk rfl rfl rfl fun a hk => ?_
     refine sm _ rfl hk rfl rfl rfl fun a hk => ?_
     refine sm _ rfl hk rfl rfl rfl fun a hk => ?_
     rcases ite_some H with ⟨c21, H⟩ | ⟨_, H⟩
     rotate_left
     ·cases H
     obtain ⟨b22, q23, hAc21⟩ := (v0_).some_ u6 c21.1 c21.2
     refine si rfl hk rfl rfl rfl rfl un47 sz3 c21.1 c21.2 hAc21 fun a hk => ?_
     obtain ⟨_, rfl, e24⟩ := (v0_).at_ 0 u6 c21.1 c21.2
     refine sl (v := (.int .i64 (l0.getD u6.toNat 0))) rfl hk rfl rfl rfl ag3 ((e24 0 _ rfl).cell (hs.hasD (k := 1) rfl)) fun a hk => ?_
     obtain ⟨y25, h26, H⟩ := bind_some H
     refine scv (vs := ([(.int .i64 (l0.getD u6.toNat 0))] : List Value) ++ c1_) rfl rfl e1_ hk rfl rfl rfl (t1_ _ (hs.hasD (k := 2) rfl) (l0.getD u6.toNat 0) _ h26) ?_
     rintro _ w ⟨rfl, hG⟩ a hk
     have hs := hs.call0 hG
     show wpList _ _ _ [] _ _
     refine wpList_nil ?_
     refine hK20 _ _ ?_
     rcases cond_some H with ⟨c27, H⟩ | ⟨c27, H⟩
     ·have hk := hk.lit 16 c27 rfl
      refine cnd_true hk rfl rfl ?_
      apply wp_seq_k; intro K28 hK28
      apply wp_region_lit
      refine sm _ rfl hk rfl rfl rfl fun a hk => ?_
      refine sa _ rfl hk rfl rfl rfl fun a hk => ?_
      show wpList _ _ _ [] _ _
      refine wpList_nil ?_
      refine hK28 _ _ ?_
      refine wp_ret ?_
      obtain rfl := Option.some.inj H
      have ho7 := h14
      try dsimp only at ho7
      subst ho7
      have H := HL9
      try dsimp only at H
      obtain rfl := Option.some.inj H
      exact fin hk _ [(.int .i64 u6)] rfl ⟨rfl, trivial⟩ ⟨rfl, (hs.pick [] rfl).dnil⟩
     ·have hk := hk.lit 16 c27 rfl
      refine cnd_false hk rfl rfl ?_
      refine wp_skip ?_
      refine hK18 _ _ ?_
      apply wp_region_lit
      refine sv (.int .i64 (w64 (u6 + 1))) hk rfl rfl rfl fun a hk => ?_
      refine sm _ rfl hk rfl rfl rfl fun a hk => ?_
      show wpList _ _ _ [] _ _
      refine wpList_nil ?_
      obtain rfl := Option.some.inj H
      obtain ⟨m29, hmm29, h14⟩ := h14
      show ∃ n', n' < _ ∧ I11 n' _ _
      refine ⟨m29, hmm29, ?_⟩
      rw [hI11]
      exact ⟨(w64 (u6 + 1)), h14, (hk.c 0 rfl (hk.c 1 rfl (hk.c 7 rfl (hk.c 8 rfl hk.k)))), (hs.pick [] rfl)⟩
    ·have hk := hk.lit 9 c17 rfl
     refine cnd_false hk rfl rfl ?_
     refine wp_exit ?_
     obtain rfl := Option.some.inj H
     show R10 _ _
     rw [hR10]
     exact ⟨h14.symm, hk.k, (hs.pick [] rfl)⟩
  ·intro a w hR0
   rw [hR10] at hR0
   obtain ⟨rfl, hk, hs⟩ := hR0
   have H := HL9
   try dsimp only at H
   refine hK2 _ _ ?_
   apply wp_seq_k; intro K30 hK30
   apply wp_region_lit
   refine sa _ rfl hk rfl rfl rfl fun a hk => ?_
   show wpList _ _ _ [] _ _
   refine wpList_nil ?_
   refine hK30 _ _ ?_
   have hs := hs.pick [] rfl
   refine wp_ret ?_
   obtain rfl := Option.some.inj H
   exact fin hk _ [(.int .i64 (-1))] rfl ⟨rfl, trivial⟩ ⟨rfl, (hs.pick [] rfl).dnil⟩

noncomputable def slices_ContainsFunc_int_int.f (l0 : List Int) (q1 : Int → Option (Bool)) : Option (Bool) :=
  ((slices_IndexFunc_int_int.f l0 q1).bind fun y3 => (some (decide (y3 ≥ 0))))
set_option maxRecDepth 100000 in
set_option maxHeartbeats 0 in
theorem slices_ContainsFunc_int_int_t (w0 : World) (A0_ : Option Addr) (p0_ : Nat) (l0 : List Int) (k0_ : Chunk) (v0_ : View (Lay.int .i64) A0_ p0_ l0 k0_) (w0_ : Has w0 k0_) (f1_ : FuncId) (c1_ : List Value) (e1_ : Enters Try.prog f1_) (q1 : Int → Option (Bool)) (k1_ : Chunk) (t1_ : ∀ w, Has w k1_ → ∀ (z0 : Int) (r : Bool), q1 z0 = some r → Calls Try.prog f1_ (([.int .i64 z0] : List Value) ++ c1_).toArray w (Ret (fun v w2 => v = .bool r ∧ Sat [] w w2 [] []))) (w1_ : Has w0 k1_) (r : Bool) (H : slices_ContainsFunc_int_int.f l0 q1 = some r) :
    Calls Try.prog 95 #[.slice A0_ l0.length p0_, .func (.func f1_) #[] c1_.toArray] w0 (Ret (fun v w => v = .bool r ∧ Sat [] w0 w [] [])) := by
  have hs : Sat [] w0 w0 [(1, k0_), (2, k1_)] [] := Sat.init w0 [(1, k0_), (2, k1_)] [] (by simp only [List.mem_cons, List.not_mem_nil, or_false]; rintro x (rfl | rfl) <;> assumption) (by simp) List.nodup_nil (by simp [blks])
  unfold slices_ContainsFunc_int_int.f at H
  refine enter Try.func95 rfl Try.ntmps95 rfl fun a hk => ?_
  apply wp_seq_k; intro K1 hK1
  apply wp_region_lit
  refine sa _ rfl hk rfl rfl rfl fun a hk => ?_
  show wpList _ _ _ [] _ _
  refine wpList_nil ?_
  refine hK1 _ _ ?_
  apply wp_seq_k; intro K2 hK2
  apply wp_region_lit
  refine sm _ rfl hk rfl rfl rfl fun a hk => ?_
  refine sm _ rfl hk rfl rfl rfl fun a hk => ?_
  obtain ⟨y3, h4, H⟩ := bind_some H
  refine sc rfl en129 hk rfl rfl rfl (slices_IndexFunc_int_int_t _ A0_ p0_ l0 _ v0_ (hs.hasD (k := 1) rfl) f1_ c1_ e1_ q1 k1_ t1_ (hs.hasD (k := 2) rfl) _ h4) ?_
  rintro _ w ⟨rfl, hG⟩ a hk
  have hs := hs.call0 hG
  refine sv (.bool (decide (y3 ≥ 0))) hk rfl rfl rfl fun a hk => ?_
  refine sa _ rfl hk rfl rfl rfl fun a hk => ?_
  show wpList _ _ _ [] _ _
  refine wpList_nil ?_
  refine hK2 _ _ ?_
  refine wp_ret ?_
  obtain rfl := Option.some.inj H
  exact fin hk _ [(.bool (decide (y3 ≥ 0)))] rfl ⟨rfl, trivial⟩ ⟨rfl, (hs.pick [] rfl).dnil⟩

noncomputable def impl_areAll_int__c1.f (x0 : Int) (q1 : Int → Option (Bool)) : Option (Bool) :=
  ((q1 x0).bind fun y3 => (some (!y3)))
set_option maxRecDepth 100000 in
set_option maxHeartbeats 0 in
theorem impl_areAll_int__c1_t (w0 : World) (x0 : Int) (b1_ : Nat) (f1_ : FuncId) (c1_ : List Value) (e1_ : Enters Try.prog f1_) (q1 : Int → Option (Bool)) (k1_ : Chunk) (t1_ : ∀ w, Has w k1_ → ∀ (z0 : Int) (r : Bool), q1 z0 = some r → Calls Try.prog f1_ (([.int .i64 z0] : List Value) ++ c1_).toArray w (Ret (fun v w2 => v = .bool r ∧ Sat [] w w2 [] []))) (w1_ : Has w0 k1_) (h1_ : Has w0 [(b1_, .cells #[.func (.func f1_) #[] c1_.toArray] 61 (0, 0))]) (r : Bool) (H : impl_areAll_int__c1.f x0 q1 = some r) :
    Calls Try.prog 96 #[.int .i64 x0, .pointer (some ⟨b1_, 0, none⟩)] w0 (Ret (fun v w => v = .bool r ∧ Sat [] w0 w [] [])) := by
  have hs : Sat [] w0 w0 [(2, k1_), (1, [(b1_, .cells #[.func (.func f1_) #[] c1_.toArray] 61 (0, 0))])] [] := Sat.init w0 [(2, k1_), (1, [(b1_, .cells #[.func (.func f1_) #[] c1_.toArray] 61 (0, 0))])] [] (by simp only [List.mem_cons, List.not_mem_nil, or_false]; rintro x (rfl | rfl) <;> assumption) (by simp) List.nodup_nil (by simp [blks])
  unfold impl_areAll_int__c1.f at H
  refine enter Try.func96 rfl Try.ntmps96 rfl fun a hk => ?_
  apply wp_seq_k; intro K1 hK1
  apply wp_region_lit
  refine sa _ rfl hk rfl rfl rfl fun a hk => ?_
  show wpList _ _ _ [] _ _
  refine wpList_nil ?_
  refine hK1 _ _ ?_
  apply wp_seq_k; intro K2 hK2
  apply wp_region_lit
  refine sl rfl hk rfl rfl rfl ag61 (box_cellD hs (k := 1) rfl rfl) fun a hk => ?_
  refine sm _ rfl hk rfl rfl rfl fun a hk => ?_
  obtain ⟨y3, h4, H⟩ := bind_some H
  refine scv (vs := ([(.int .i64 x0)] : List Value) ++ c1_) rfl rfl e1_ hk rfl rfl rfl (t1_ _ (hs.hasD (k := 2) rfl) x0 _ h4) ?_
  rintro _ w ⟨rfl, hG⟩ a hk
  have hs := hs.call0 hG
  refine sv (.bool (!y3)) hk rfl rfl rfl fun a hk => ?_
  refine sa _ rfl hk rfl rfl rfl fun a hk => ?_
  show wpList _ _ _ [] _ _
  refine wpList_nil ?_
  refine hK2 _ _ ?_
  refine wp_ret ?_
  obtain rfl := Option.some.inj H
  exact fin hk _ [(.bool (!y3))] rfl ⟨rfl, trivial⟩ ⟨rfl, (hs.pick [] rfl).dnil⟩

noncomputable def impl_areAll_int.f (l0 : List Int) (q1 : Int → Option (Bool)) : Option (Bool) :=
  ((slices_ContainsFunc_int_int.f l0 (fun z0 => impl_areAll_int__c1.f z0 q1)).bind fun y4 => (some (!y4)))
set_option maxRecDepth 100000 in
set_option maxHeartbeats 0 in
theorem impl_areAll_int_t (w0 : World) (A0_ : Option Addr) (p0_ : Nat) (l0 : List Int) (k0_ : Chunk) (v0_ : View (Lay.int .i64) A0_ p0_ l0 k0_) (w0_ : Has w0 k0_) (f1_ : FuncId) (c1_ : List Value) (e1_ : Enters Try.prog f1_) (q1 : Int → Option (Bool)) (k1_ : Chunk) (t1_ : ∀ w, Has w k1_ → ∀ (z0 : Int) (r : Bool), q1 z0 = some r → Calls Try.prog f1_ (([.int .i64 z0] : List Value) ++ c1_).toArray w (Ret (fun v w2 => v = .bool r ∧ Sat [] w w2 [] []))) (w1_ : Has w0 k1_) (r : Bool) (H : impl_areAll_int.f l0 q1 = some r) :
    Calls Try.prog 51 #[.slice A0_ l0.length p0_, .func (.func f1_) #[] c1_.toArray] w0 (Ret (fun v w => v = .bool r ∧ Sat [] w0 w [] [])) := by
  have hs : Sat [] w0 w0 [(1, k0_), (2, k1_)] [] := Sat.init w0 [(1, k0_), (2, k1_)] [] (by simp only [List.mem_cons, List.not_mem_nil, or_false]; rintro x (rfl | rfl) <;> assumption) (by simp) List.nodup_nil (by simp [blks])
  unfold impl_areAll_int.f at H
  refine enter Try.func51 rfl Try.ntmps51 rfl fun a hk => ?_
  apply wp_seq_k; intro K1 hK1
  apply wp_region_lit
  refine sbx 3 hs rfl hk rfl rfl rfl rfl fun b2 w a hk hs => ?_
  refine sa _ rfl hk rfl rfl rfl fun a hk => ?_
  show wpList _ _ _ [] _ _
  refine wpList_nil ?_
  refine hK1 _ _ ?_
  apply wp_seq_k; intro K3 hK3
  apply wp_region_lit
  refine sm _ rfl hk rfl rfl rfl fun a hk => ?_
  refine smf (cs := [.pointer (some ⟨b2, 0, none⟩)]) rfl hk rfl rfl rfl fun a hk => ?_
  obtain ⟨y4, h5, H⟩ := bind_some H
  refine sc rfl en95 hk rfl rfl rfl (slices_ContainsFunc_int_int_t _ A0_ p0_ l0 _ v0_ (hs.hasD (k := 1) rfl) 96 [.pointer (some ⟨b2, 0, none⟩)] en96 (fun z0 => impl_areAll_int__c1.f z0 q1) ([(b2, .cells #[.func (.func f1_) #[] c1_.toArray] 61 (0, 0))] ++ k1_) (fun w hz z0 r h => impl_areAll_int__c1_t w z0 _ f1_ c1_ e1_ q1 k1_ t1_ (Has.right hz) (Has.left hz) r h) (Has.app (hs.hasG (k := 3) rfl) (hs.hasD (k := 2) rfl)) _ h5) ?_
  rintro _ w ⟨rfl, hG⟩ a hk
  have hs := hs.call0 hG
  refine sv (.bool (!y4)) hk rfl rfl rfl fun a hk => ?_
  refine sa _ rfl hk rfl rfl rfl fun a hk => ?_
  show wpList _ _ _ [] _ _
  refine wpList_nil ?_
  refine hK3 _ _ ?_
  refine wp_ret ?_
  obtain rfl := Option.some.inj H
  exact fin hk _ [(.bool (!y4))] rfl ⟨rfl, trivial⟩ ⟨rfl, (hs.pick [] rfl).dnil⟩

noncomputable def impl_isWord.f (x0 : Int) : Option (Bool) :=
  ((impl_within.f x0 0 4294967295).bind fun y3 => (some y3))
set_option maxRecDepth 100000 in
set_option maxHeartbeats 0 in
theorem impl_isWord_t (w0 : World) (x0 : Int) (r : Bool) (H : impl_isWord.f x0 = some r) :
    Calls Try.prog 52 #[.int .i64 x0] w0 (Ret (fun v w => v = .bool r ∧ Sat [] w0 w [] [])) := by
  have hs : Sat [] w0 w0 [] [] := Sat.init w0 [] [] (by simp) (by simp) List.nodup_nil (by simp [blks])
  unfold impl_isWord.f at H
  refine enter Try.func52 rfl Try.ntmps52 rfl fun a hk => ?_
  apply wp_seq_k; intro K1 hK1
  apply wp_region_lit
  refine sa _ rfl hk rfl rfl rfl fun a hk => ?_
  show wpList _ _ _ [] _ _
  refine wpList_nil ?_
  refine hK1 _ _ ?_
  apply wp_seq_k; intro K2 hK2
  apply wp_region_lit
  refine sm _ rfl hk rfl rfl rfl fun a hk => ?_
  obtain ⟨y3, h4, H⟩ := bind_some H
  refine sc rfl en50 hk rfl rfl rfl (impl_within_t _ x0 0 4294967295 _ h4) ?_
  rintro _ w ⟨rfl, hG⟩ a hk
  have hs := hs.call0 hG
  refine sa _ rfl hk rfl rfl rfl fun a hk => ?_
  show wpList _ _ _ [] _ _
  refine wpList_nil ?_
  refine hK2 _ _ ?_
  refine wp_ret ?_
  obtain rfl := Option.some.inj H
  exact fin hk _ [(.bool y3)] rfl ⟨rfl, trivial⟩ ⟨rfl, (hs.pick [] rfl).dnil⟩

noncomputable def impl_HashOK.f (x0 : S_Hash) : Option (Bool) :=
  ((((impl_within.f x0.N 0 1000000000).bind fun y10 => (bif y10 then (bif ((x0.Buf.size : Int) == (Int.tmod x0.N 64)) then ((impl_areAll_int.f ([x0.H0, x0.H1, x0.H2, x0.H3, x0.H4, x0.H5, x0.H6, x0.H7] : List Int) impl_isWord.f).bind fun y16 => (some y16)) else (some false)) else (some false))) : Option (Bool)).bind fun u5 => (some u5))
set_option maxRecDepth 100000 in
set_option maxHeartbeats 0 in
theorem impl_HashOK_t (w0 : World) (x0 : S_Hash) (r : Bool) (H : impl_HashOK.f x0 = some r) :
    Calls Try.prog 15 #[.agg #[.int .i64 x0.H0, .int .i64 x0.H1, .int .i64 x0.H2, .int .i64 x0.H3, .int .i64 x0.H4, .int .i64 x0.H5, .int .i64 x0.H6, .int .i64 x0.H7, .string x0.Buf, .int .i64 x0.N]] w0 (Ret (fun v w => v = .bool r ∧ Sat [] w0 w [] [])) := by
  have hs : Sat [] w0 w0 [] [] := Sat.init w0 [] [] (by simp) (by simp) List.nodup_nil (by simp [blks])
  unfold impl_HashOK.f at H
  refine enter Try.func15 rfl Try.ntmps15 rfl fun a hk => ?_
  apply wp_seq_k; intro K1 hK1
  apply wp_region_lit
  refine sbx 1 hs rfl hk rfl rfl rfl rfl fun b2 w a hk hs => ?_
  refine sa _ rfl hk rfl rfl rfl fun a hk => ?_
  show wpList _ _ _ [] _ _
  refine wpList_nil ?_
  refine hK1 _ _ ?_
  apply wp_seq_k; intro K3 hK3
  obtain ⟨o6, h7, HL8⟩ := bind_some H
  clear H
  obtain ⟨R9, hR9⟩ : ∃ R : Act → World → Prop, R = fun a w => ∃ (u5 : Bool), u5 = o6 ∧ Kn [(2, (.bool u5))] 20 a ∧ Sat [] w0 w [] [] := ⟨_, rfl⟩
  refine wp_cutq R9 ?_ ?_
  ·have H := h7
   apply wp_region_lit
   refine sf ⟨b2, 9, none⟩ rfl hk rfl rfl rfl fd29_2 rfl fun a hk => ?_
   refine sl rfl hk rfl rfl rfl ag3 (box_cell hs (k := 1) rfl rfl) fun a hk => ?_
   obtain ⟨y10, h11, H⟩ := bind_some H
   refine sc rfl en50 hk rfl rfl rfl (impl_within_t _ x0.N 0 1000000000 _ h11) ?_
   rintro _ w ⟨rfl, hG⟩ a hk
   have hs := hs.call0 hG
   refine sm _ rfl hk rfl rfl rfl fun a hk => ?_
   rcases cond_some H with ⟨c12, H⟩ | ⟨c12, H⟩
   ·have hk := hk.lit 6 c12 rfl
    refine sf ⟨b2, 8, none⟩ rfl hk rfl rfl rfl fd29_1 rfl fun a hk => ?_
    refine sl rfl hk rfl rfl rfl ag9 (box_cell hs (k := 1) rfl rfl) fun a hk => ?_
    refine sles rfl hk rfl rfl rfl un9 fun a hk => ?_
    refine sf ⟨b2, 9, none⟩ rfl hk rfl rfl rfl fd29_2 rfl fun a hk => ?_
    refine sl rfl hk rfl rfl rfl ag3 (box_cell hs (k := 1) rfl rfl) fun a hk => ?_
    refine sv (.int .i64 (Int.tmod x0.N 64)) hk rfl rfl rfl fun a hk => ?_
    refine sv (.bool ((x0.Buf.size : Int) == (Int.tmod x0.N 64))) hk rfl rfl rfl fun a hk => ?_
    refine sv (.bool ((x0.Buf.size : Int) == (Int.tmod x0.N 64))) hk rfl rfl rfl fun a hk => ?_
    refine sm _ rfl hk rfl rfl rfl fun a hk => ?_
    rcases cond_some H with ⟨c13, H⟩ | ⟨c13, H⟩
    ·have hk := hk.lit 15 c13 rfl
     refine sf ⟨b2, 0, none⟩ rfl hk rfl rfl rfl fd29_0 rfl fun a hk => ?_
     have lh15 : ([x0.H0, x0.H1, x0.H2, x0.H3, x0.H4, x0.H5, x0.H6, x0.H7] : List Int).length = 8 := rfl
     have v14 : View (Lay.int .i64) (some ⟨b2, 0, none⟩) 8 ([x0.H0, x0.H1, x0.H2, x0.H3, x0.H4, x0.H5, x0.H6, x0.H7] : List Int) [(b2, .cells #[.int .i64 x0.H0, .int .i64 x0.H1, .int .i64 x0.H2, .int .i64 x0.H3, .int .i64 x0.H4, .int .i64 x0.H5, .int .i64 x0.H6, .int .i64 x0.H7, .string x0.Buf, .int .i64 x0.N] 29 (0, 0))] := view_box ([x0.H0, x0.H1, x0.H2, x0.H3, x0.H4, x0.H5, x0.H6, x0.H7] : List Int) rfl rfl rfl
     refine slarB rfl hk rfl rfl rfl un27 sz3 fun a hk => ?_
     have hk := hk.re 17 (v' := (.slice (some ⟨b2, 0, none⟩) ([x0.H0, x0.H1, x0.H2, x0.H3, x0.H4, x0.H5, x0.H6, x0.H7] : List Int).length 8)) rfl (by rw [lh15])
     obtain ⟨y16, h17, H⟩ := bind_some H
     refine sc rfl en51 hk rfl rfl rfl (impl_areAll_int_t _ (some ⟨b2, 0, none⟩) 8 ([x0.H0, x0.H1, x0.H2, x0.H3, x0.H4, x0.H5, x0.H6, x0.H7] : List Int) _ v14 (hs.hasG (k := 1) rfl) 52 [] en52 impl_isWord.f [] (fun w _ z0 r h => impl_isWord_t w z0 r h) (Has.nil _) _ h17) ?_
     rintro _ w ⟨rfl, hG⟩ a hk
     have hs := hs.call0 hG
     refine sv (.bool y16) hk rfl rfl rfl fun a hk => ?_
     refine sa _ rfl hk rfl rfl rfl fun a hk => ?_
     show wpList _ _ _ [] _ _
     refine wpList_nil ?_
     obtain rfl := Option.some.inj H
     show R9 _ _
     rw [hR9]
     exact ⟨y16, rfl, (hk.c 2 rfl hk.k), (hs.pick [] rfl)⟩
    ·have hk := hk.lit 15 c13 rfl
     refine sk hk rfl rfl rfl fun a hk => ?_
     refine sk hk rfl rfl rfl fun a hk => ?_
     refine sk hk rfl rfl rfl fun a hk => ?_
     refine sv (.bool false) hk rfl rfl rfl fun a hk => ?_
     refine sa _ rfl hk rfl rfl rfl fun a hk => ?_
     show wpList _ _ _ [] _ _
     refine wpList_nil ?_
     obtain rfl := Option.some.inj H
     show R9 _ _
     rw [hR9]
     exact ⟨false, rfl, (hk.c 2 rfl hk.k), (hs.pick [] rfl)⟩
   ·have hk := hk.lit 6 c12 rfl
    refine sk hk rfl rfl rfl fun a hk => ?_
    refine sk hk rfl rfl rfl fun a hk => ?_
    refine sk hk rfl rfl rfl fun a hk => ?_
    refine sk hk rfl rfl rfl fun a hk => ?_
    refine sk hk rfl rfl rfl fun a hk => ?_
    refine sk hk rfl rfl rfl fun a hk => ?_
    refine sk hk rfl rfl rfl fun a hk => ?_
    refine sv (.bool false) hk rfl rfl rfl fun a hk => ?_
    refine sm _ rfl hk rfl rfl rfl fun a hk => ?_
    refine sk hk rfl rfl rfl fun a hk => ?_
    refine sk hk rfl rfl rfl fun a hk => ?_
    refine sk hk rfl rfl rfl fun a hk => ?_
    refine sv (.bool false) hk rfl rfl rfl fun a hk => ?_
    refine sa _ rfl hk rfl rfl rfl fun a hk => ?_
    show wpList _ _ _ [] _ _
    refine wpList_nil ?_
    obtain rfl := Option.some.inj H
    show R9 _ _
    rw [hR9]
    exact ⟨false, rfl, (hk.c 2 rfl hk.k), (hs.pick [] rfl)⟩
  ·intro a w hR0
   rw [hR9] at hR0
   obtain ⟨u5, rfl, hk, hs⟩ := hR0
   have H := HL8
   try dsimp only at H
   refine hK3 _ _ ?_
   refine wp_ret ?_
   obtain rfl := Option.some.inj H
   exact fin hk _ [(.bool u5)] rfl ⟨rfl, trivial⟩ ⟨rfl, (hs.pick [] rfl).dnil⟩

noncomputable def impl_HashMore.f (x0 : S_Hash) (x1 : ByteArray) : Option (S_Hash × Int) :=
  ((impl_areShort.f ([x1])).bind fun y9 => (bif (!y9) then (some ((⟨0, 0, 0, 0, 0, 0, 0, 0, ByteArray.empty, 0⟩ : S_Hash), 2)) else ((impl_HashOK.f x0).bind fun y14 => (bif (!y14) then (some ((⟨0, 0, 0, 0, 0, 0, 0, 0, ByteArray.empty, 0⟩ : S_Hash), 1)) else (bif (decide (x0.N > 900000000)) then (some (x0, 7)) else ((impl_Hash_more.f x0 x1).bind fun y22 => (some (y22, 0))))))))
set_option maxRecDepth 100000 in
set_option maxHeartbeats 0 in
theorem impl_HashMore_t (w0 : World) (x0 : S_Hash) (x1 : ByteArray) (r : S_Hash × Int) (H : impl_HashMore.f x0 x1 = some r) :
    Calls Try.prog 12 #[.agg #[.int .i64 x0.H0, .int .i64 x0.H1, .int .i64 x0.H2, .int .i64 x0.H3, .int .i64 x0.H4, .int .i64 x0.H5, .int .i64 x0.H6, .int .i64 x0.H7, .string x0.Buf, .int .i64 x0.N], .string x1] w0 (Ret (fun v w => v = .tuple #[.agg #[.int .i64 r.1.H0, .int .i64 r.1.H1, .int .i64 r.1.H2, .int .i64 r.1.H3, .int .i64 r.1.H4, .int .i64 r.1.H5, .int .i64 r.1.H6, .int .i64 r.1.H7, .string r.1.Buf, .int .i64 r.1.N], .int .i64 r.2] ∧ Sat [] w0 w [] [])) := by
  have hs : Sat [] w0 w0 [] [] := Sat.init w0 [] [] (by simp) (by simp) List.nodup_nil (by simp [blks])
  unfold impl_HashMore.f at H
  refine enter Try.func12 rfl Try.ntmps12 rfl fun a hk => ?_
  apply wp_seq_k; intro K1 hK1
  apply wp_region_lit
  refine sbx 1 hs rfl hk rfl rfl rfl rfl fun b2 w a hk hs => ?_
  refine salx 2 hs rfl hk rfl rfl ze29 rfl fun b3 w a hk hs => ?_
  refine sa _ rfl hk rfl rfl rfl fun a hk => ?_
  show wpList _ _ _ [] _ _
  refine wpList_nil ?_
  refine hK1 _ _ ?_
  apply wp_seq_k; intro K4 hK4
  refine wp_block ?_
  apply wp_seq_k; intro K5 hK5
  apply wp_region_lit
  refine sm _ rfl hk rfl rfl rfl fun a hk => ?_
  refine sbs (L := Lay.str) (pv := [(0, (.string x1))]) (xs := [x1]) (ess := [[.string x1]]) 3 hs rfl hk rfl rfl rfl un86 (bs9_8 x1) (AllOwn.cons0 ⟨rfl, rfl⟩ AllOwn.nil) rfl rfl rfl fun b6 k7 w a hk o8 hs => ?_
  obtain ⟨y9, h10, H⟩ := bind_some H
  refine sc rfl en45 hk rfl rfl rfl (impl_areShort_t _ (some ⟨b6, 0, none⟩) 1 ([x1]) _ o8.view (hs.hasG (k := 3) rfl) _ h10) ?_
  rintro _ w ⟨rfl, hG⟩ a hk
  have hs := hs.call0 hG
  refine sv (.bool (!y9)) hk rfl rfl rfl fun a hk => ?_
  refine sa _ rfl hk rfl rfl rfl fun a hk => ?_
  show wpList _ _ _ [] _ _
  refine wpList_nil ?_
  refine hK5 _ _ ?_
  rcases cond_some H with ⟨c11, H⟩ | ⟨c11, H⟩
  ·have hk := hk.lit 6 c11 rfl
   refine cnd_true hk rfl rfl ?_
   apply wp_seq_k; intro K12 hK12
   apply wp_region_lit
   refine sbd (pv := []) rfl hk rfl rfl rfl bd29_11 fun a hk => ?_
   refine ssw 2 hs rfl rfl hk rfl rfl rfl rfl sz29 (by simp [Value.oneCell']) rfl fun w a hk hs => ?_
   refine sa _ rfl hk rfl rfl rfl fun a hk => ?_
   show wpList _ _ _ [] _ _
   refine wpList_nil ?_
   refine hK12 _ _ ?_
   refine wp_ret ?_
   obtain rfl := Option.some.inj H
   exact fin hk _ [(.agg #[.int .i64 0, .int .i64 0, .int .i64 0, .int .i64 0, .int .i64 0, .int .i64 0, .int .i64 0, .int .i64 0, .string ByteArray.empty, .int .i64 0]), (.int .i64 2)] rfl ⟨⟨_, rfl, run_loadN ag29 sz29 (box_cells hs (k := 2) rfl)⟩, ⟨rfl, trivial⟩⟩ ⟨rfl, (hs.pick [] rfl).dnil⟩
  ·have hk := hk.lit 6 c11 rfl
   refine cnd_false hk rfl rfl ?_
   apply wp_seq_k; intro K13 hK13
   apply wp_region_lit
   refine sln [.int .i64 x0.H0, .int .i64 x0.H1, .int .i64 x0.H2, .int .i64 x0.H3, .int .i64 x0.H4, .int .i64 x0.H5, .int .i64 x0.H6, .int .i64 x0.H7, .string x0.Buf, .int .i64 x0.N] rfl hk rfl rfl rfl ag29 sz29 (box_cells hs (k := 1) rfl) fun a hk => ?_
   obtain ⟨y14, h15, H⟩ := bind_some H
   refine sc rfl en15 hk rfl rfl rfl (impl_HashOK_t _ x0 _ h15) ?_
   rintro _ w ⟨rfl, hG⟩ a hk
   have hs := hs.call0 hG
   refine sv (.bool (!y14)) hk rfl rfl rfl fun a hk => ?_
   refine sa _ rfl hk rfl rfl rfl fun a hk => ?_
   show wpList _ _ _ [] _ _
   refine wpList_nil ?_
   refine hK13 _ _ ?_
   rcases cond_some H with ⟨c16, H⟩ | ⟨c16, H⟩
   ·have hk := hk.lit 12 c16 rfl
    refine cnd_true hk rfl rfl ?_
    apply wp_seq_k; intro K17 hK17
    apply wp_region_lit
    refine sbd (pv := []) rfl hk rfl rfl rfl bd29_11 fun a hk => ?_
    refine ssw 2 hs rfl rfl hk rfl rfl rfl rfl sz29 (by simp [Value.oneCell']) rfl fun w a hk hs => ?_
    refine sa _ rfl hk rfl rfl rfl fun a hk => ?_
    show wpList _ _ _ [] _ _
    refine wpList_nil ?_
    refine hK17 _ _ ?_
    have hs := hs.pick [(2, 2)] rfl
    refine wp_ret ?_
    obtain rfl := Option.some.inj H
    exact fin hk _ [(.agg #[.int .i64 0, .int .i64 0, .int .i64 0, .int .i64 0, .int .i64 0, .int .i64 0, .int .i64 0, .int .i64 0, .string ByteArray.empty, .int .i64 0]), (.int .i64 1)] rfl ⟨⟨_, rfl, run_loadN ag29 sz29 (box_cells hs (k := 2) rfl)⟩, ⟨rfl, trivial⟩⟩ ⟨rfl, (hs.pick [] rfl).dnil⟩
   ·have hk := hk.lit 12 c16 rfl
    refine cnd_false hk rfl rfl ?_
    apply wp_seq_k; intro K18 hK18
    apply wp_region_lit
    refine sf ⟨b2, 9, none⟩ rfl hk rfl rfl rfl fd29_2 rfl fun a hk => ?_
    refine sl rfl hk rfl rfl rfl ag3 (box_cell hs (k := 1) rfl rfl) fun a hk => ?_
    refine sv (.bool (decide (x0.N > 900000000))) hk rfl rfl rfl fun a hk => ?_
    refine sa _ rfl hk rfl rfl rfl fun a hk => ?_
    show wpList _ _ _ [] _ _
    refine wpList_nil ?_
    refine hK18 _ _ ?_
    have hs := hs.pick [(1, 1), (2, 2)] rfl
    rcases cond_some H with ⟨c19, H⟩ | ⟨c19, H⟩
    ·have hk := hk.lit 17 c19 rfl
     refine cnd_true hk rfl rfl ?_
     apply wp_seq_k; intro K20 hK20
     apply wp_region_lit
     refine sln [.int .i64 x0.H0, .int .i64 x0.H1, .int .i64 x0.H2, .int .i64 x0.H3, .int .i64 x0.H4, .int .i64 x0.H5, .int .i64 x0.H6, .int .i64 x0.H7, .string x0.Buf, .int .i64 x0.N] rfl hk rfl rfl rfl ag29 sz29 (box_cells hs (k := 1) rfl) fun a hk => ?_
     refine ssw 2 hs rfl rfl hk rfl rfl rfl rfl sz29 (by simp [Value.oneCell']) rfl fun w a hk hs => ?_
     refine sa _ rfl hk rfl rfl rfl fun a hk => ?_
     show wpList _ _ _ [] _ _
     refine wpList_nil ?_
     refine hK20 _ _ ?_
     refine wp_ret ?_
     obtain rfl := Option.some.inj H
     exact fin hk _ [(.agg #[.int .i64 x0.H0, .int .i64 x0.H1, .int .i64 x0.H2, .int .i64 x0.H3, .int .i64 x0.H4, .int .i64 x0.H5, .int .i64 x0.H6, .int .i64 x0.H7, .string x0.Buf, .int .i64 x0.N]), (.int .i64 7)] rfl ⟨⟨_, rfl, run_loadN ag29 sz29 (box_cells hs (k := 2) rfl)⟩, ⟨rfl, trivial⟩⟩ ⟨rfl, (hs.pick [] rfl).dnil⟩
    ·have hk := hk.lit 17 c19 rfl
     refine cnd_false hk rfl rfl ?_
     refine wp_skip ?_
     refine hK4 _ _ ?_
     apply wp_seq_k; intro K21 hK21
     apply wp_region_lit
     refine sln [.int .i64 x0.H0, .int .i64 x0.H1, .int .i64 x0.H2, .int .i64 x0.H3, .int .i64 x0.H4, .int .i64 x0.H5, .int .i64 x0.H6, .int .i64 x0.H7, .string x0.Buf, .int .i64 x0.N] rfl hk rfl rfl rfl ag29 sz29 (box_cells hs (k := 1) rfl) fun a hk => ?_
     refine sm _ rfl hk rfl rfl rfl fun a hk => ?_
     obtain ⟨y22, h23, H⟩ := bind_some H
     refine sc rfl en48 hk rfl rfl rfl (impl_Hash_more_t _ x0 x1 _ h23) ?_
     rintro _ w ⟨rfl, hG⟩ a hk
     have hs := hs.call0 hG
     refine ssw 2 hs rfl rfl hk rfl rfl rfl rfl sz29 (by simp [Value.oneCell']) rfl fun w a hk hs => ?_
     refine sa _ rfl hk rfl rfl rfl fun a hk => ?_
     show wpList _ _ _ [] _ _
     refine wpList_nil ?_
     refine hK21 _ _ ?_
     refine wp_ret ?_
     obtain rfl := Option.some.inj H
     exact fin hk _ [(.agg #[.int .i64 y22.H0, .int .i64 y22.H1, .int .i64 y22.H2, .int .i64 y22.H3, .int .i64 y22.H4, .int .i64 y22.H5, .int .i64 y22.H6, .int .i64 y22.H7, .string y22.Buf, .int .i64 y22.N]), (.int .i64 0)] rfl ⟨⟨_, rfl, run_loadN ag29 sz29 (box_cells hs (k := 2) rfl)⟩, ⟨rfl, trivial⟩⟩ ⟨rfl, (hs.pick [] rfl).dnil⟩

noncomputable def impl_HashSum.f (x0 : S_Hash) : Option (ByteArray × Int) :=
  ((impl_HashOK.f x0).bind fun y5 => (bif (!y5) then (some ((⟨#[]⟩ : ByteArray), 1)) else ((impl_Hash_sum.f x0).bind fun y10 => (some (y10, 0)))))
set_option maxRecDepth 100000 in
set_option maxHeartbeats 0 in
theorem impl_HashSum_t (w0 : World) (x0 : S_Hash) (r : ByteArray × Int) (H : impl_HashSum.f x0 = some r) :
    Calls Try.prog 14 #[.agg #[.int .i64 x0.H0, .int .i64 x0.H1, .int .i64 x0.H2, .int .i64 x0.H3, .int .i64 x0.H4, .int .i64 x0.H5, .int .i64 x0.H6, .int .i64 x0.H7, .string x0.Buf, .int .i64 x0.N]] w0 (Ret (fun v w => v = .tuple #[.string r.1, .int .i64 r.2] ∧ Sat [] w0 w [] [])) := by
  have hs : Sat [] w0 w0 [] [] := Sat.init w0 [] [] (by simp) (by simp) List.nodup_nil (by simp [blks])
  unfold impl_HashSum.f at H
  refine enter Try.func14 rfl Try.ntmps14 rfl fun a hk => ?_
  apply wp_seq_k; intro K1 hK1
  apply wp_region_lit
  refine sbx 1 hs rfl hk rfl rfl rfl rfl fun b2 w a hk hs => ?_
  refine sa _ rfl hk rfl rfl rfl fun a hk => ?_
  refine sa _ rfl hk rfl rfl rfl fun a hk => ?_
  show wpList _ _ _ [] _ _
  refine wpList_nil ?_
  refine hK1 _ _ ?_
  apply wp_seq_k; intro K3 hK3
  apply wp_seq_k; intro K4 hK4
  apply wp_region_lit
  refine sln [.int .i64 x0.H0, .int .i64 x0.H1, .int .i64 x0.H2, .int .i64 x0.H3, .int .i64 x0.H4, .int .i64 x0.H5, .int .i64 x0.H6, .int .i64 x0.H7, .string x0.Buf, .int .i64 x0.N] rfl hk rfl rfl rfl ag29 sz29 (box_cells hs (k := 1) rfl) fun a hk => ?_
  obtain ⟨y5, h6, H⟩ := bind_some H
  refine sc rfl en15 hk rfl rfl rfl (impl_HashOK_t _ x0 _ h6) ?_
  rintro _ w ⟨rfl, hG⟩ a hk
  have hs := hs.call0 hG
  refine sv (.bool (!y5)) hk rfl rfl rfl fun a hk => ?_
  show wpList _ _ _ [] _ _
  refine wpList_nil ?_
  refine hK4 _ _ ?_
  rcases cond_some H with ⟨c7, H⟩ | ⟨c7, H⟩
  ·have hk := hk.lit 6 c7 rfl
   refine cnd_true hk rfl rfl ?_
   apply wp_seq_k; intro K8 hK8
   apply wp_region_lit
   refine sa _ rfl hk rfl rfl rfl fun a hk => ?_
   refine sa _ rfl hk rfl rfl rfl fun a hk => ?_
   show wpList _ _ _ [] _ _
   refine wpList_nil ?_
   refine hK8 _ _ ?_
   refine wp_ret ?_
   obtain rfl := Option.some.inj H
   exact fin hk _ [(.string (⟨#[]⟩ : ByteArray)), (.int .i64 1)] rfl ⟨rfl, ⟨rfl, trivial⟩⟩ ⟨rfl, (hs.pick [] rfl).dnil⟩
  ·have hk := hk.lit 6 c7 rfl
   refine cnd_false hk rfl rfl ?_
   refine wp_skip ?_
   refine hK3 _ _ ?_
   apply wp_seq_k; intro K9 hK9
   apply wp_region_lit
   refine sln [.int .i64 x0.H0, .int .i64 x0.H1, .int .i64 x0.H2, .int .i64 x0.H3, .int .i64 x0.H4, .int .i64 x0.H5, .int .i64 x0.H6, .int .i64 x0.H7, .string x0.Buf, .int .i64 x0.N] rfl hk rfl rfl rfl ag29 sz29 (box_cells hs (k := 1) rfl) fun a hk => ?_
   obtain ⟨y10, h11, H⟩ := bind_some H
   refine sc rfl en49 hk rfl rfl rfl (impl_Hash_sum_t _ x0 _ h11) ?_
   rintro _ w ⟨rfl, hG⟩ a hk
   have hs := hs.call0 hG
   refine sa _ rfl hk rfl rfl rfl fun a hk => ?_
   refine sa _ rfl hk rfl rfl rfl fun a hk => ?_
   show wpList _ _ _ [] _ _
   refine wpList_nil ?_
   refine hK9 _ _ ?_
   have hs := hs.pick [] rfl
   refine wp_ret ?_
   obtain rfl := Option.some.inj H
   exact fin hk _ [(.string y10), (.int .i64 0)] rfl ⟨rfl, ⟨rfl, trivial⟩⟩ ⟨rfl, (hs.pick [] rfl).dnil⟩

noncomputable def laws_FnHash.f (l0 : List Int) (l1 : List Int) : Option (Bool) :=
  (((bif (decide ((l0.length : Int) > 1048576)) then (some true) else (some (decide ((l1.length : Int) > 1048576)))) : Option (Bool)).bind fun u5 => (bif u5 then (some true) else ((spec_TextOf.f l0).bind fun y14 => ((spec_TextOf.f l1).bind fun y16 => (if y14.size + y16.size ≤ 1152921504606846976 then ((impl_HashOf.f (y14 ++ y16)).bind fun y20 => ((spec_HashOf.f (y14 ++ y16)).bind fun y23 => ((laws_at.f l1 0 (w64 (((y14 ++ y16).size : Int) + 1))).bind fun y26 => ((laws_at.f l1 1 (w64 ((w64 (((y14 ++ y16).size : Int) - y26)) + 1))).bind fun y29 => ((impl_NewHash.f).bind fun y33 => (if 0 ≤ y26 ∧ y26 ≤ ((y14 ++ y16).size : Int) then ((impl_HashMore.f y33 ((y14 ++ y16).extract 0 y26.toNat)).bind fun y36 => (if 0 ≤ y26 ∧ y26 ≤ (w64 (y26 + y29)) ∧ (w64 (y26 + y29)) ≤ ((y14 ++ y16).size : Int) then ((impl_HashMore.f y36.1 ((y14 ++ y16).extract y26.toNat (w64 (y26 + y29)).toNat)).bind fun y42 => (if 0 ≤ (w64 (y26 + y29)) ∧ (w64 (y26 + y29)) ≤ ((y14 ++ y16).size : Int) then ((impl_HashMore.f y42.1 ((y14 ++ y16).extract (w64 (y26 + y29)).toNat (y14 ++ y16).size)).bind fun y48 => ((impl_HashSum.f y48.1).bind fun y52 => (((bif (y20.2 == 0) then (bif (y20.1.toList == y23.1.toList) then (bif ((y20.1.size : Int) == 32) then (bif (y36.2 == 0) then (bif (y42.2 == 0) then (bif (y48.2 == 0) then (bif (y52.2 == 0) then (bif (y52.1.toList == y20.1.toList) then ((impl_HashOK.f y48.1).bind fun y69 => (bif y69 then (some (y48.1.N == ((y14 ++ y16).size : Int))) else (some false))) else (some false)) else (some false)) else (some false)) else (some false)) else (some false)) else (some false)) else (some false)) else (some false)) : Option (Bool)).bind fun u56 => (some u56)))) else none)) else none)) else none)))))) else none)))))
set_option maxRecDepth 100000 in
set_option maxHeartbeats 0 in
theorem laws_FnHash_t (w0 : World) (A0_ : Option Addr) (p0_ : Nat) (l0 : List Int) (k0_ : Chunk) (v0_ : View (Lay.int .u8) A0_ p0_ l0 k0_) (w0_ : Has w0 k0_) (A1_ : Option Addr) (p1_ : Nat) (l1 : List Int) (k1_ : Chunk) (v1_ : View (Lay.int .u8) A1_ p1_ l1 k1_) (w1_ : Has w0 k1_) (r : Bool) (H : laws_FnHash.f l0 l1 = some r) :
    Calls Try.prog 3 #[.slice A0_ l0.length p0_, .slice A1_ l1.length p1_] w0 (Ret (fun v w => v = .bool r ∧ Sat [] w0 w [] [])) := by
  have hs : Sat [] w0 w0 [(1, k0_), (2, k1_)] [] := Sat.init w0 [(1, k0_), (2, k1_)] [] (by simp only [List.mem_cons, List.not_mem_nil, or_false]; rintro x (rfl | rfl) <;> assumption) (by simp) List.nodup_nil (by simp [blks])
  unfold laws_FnHash.f at H
  refine enter Try.func3 rfl Try.ntmps3 rfl fun a hk => ?_
  apply wp_seq_k; intro K1 hK1
  apply wp_region_lit
  refine sa _ rfl hk rfl rfl rfl fun a hk => ?_
  show wpList _ _ _ [] _ _
  refine wpList_nil ?_
  refine hK1 _ _ ?_
  apply wp_seq_k; intro K2 hK2
  apply wp_seq_k; intro K3 hK3
  obtain ⟨o6, h7, HL8⟩ := bind_some H
  clear H
  obtain ⟨R9, hR9⟩ : ∃ R : Act → World → Prop, R = fun a w => ∃ (u5 : Bool), u5 = o6 ∧ Kn [(0, (.slice A0_ l0.length p0_)), (1, (.slice A1_ l1.length p1_)), (27, (.bool u5))] 131 a ∧ Sat [] w0 w [(1, k0_), (2, k1_)] [] := ⟨_, rfl⟩
  refine wp_cutq R9 ?_ ?_
  ·have H := h7
   apply wp_region_lit
   refine sm _ rfl hk rfl rfl rfl fun a hk => ?_
   refine sle rfl hk rfl rfl rfl un22 fun a hk => ?_
   refine sv (.bool (decide ((l0.length : Int) > 1048576))) hk rfl rfl rfl fun a hk => ?_
   refine sm _ rfl hk rfl rfl rfl fun a hk => ?_
   rcases cond_some H with ⟨c10, H⟩ | ⟨c10, H⟩
   ·have hk := hk.lit 23 c10 rfl
    refine sk hk rfl rfl rfl fun a hk => ?_
    refine sk hk rfl rfl rfl fun a hk => ?_
    refine sk hk rfl rfl rfl fun a hk => ?_
    refine sv (.bool true) hk rfl rfl rfl fun a hk => ?_
    show wpList _ _ _ [] _ _
    refine wpList_nil ?_
    obtain rfl := Option.some.inj H
    show R9 _ _
    rw [hR9]
    exact ⟨true, rfl, (hk.c 0 rfl (hk.c 1 rfl (hk.c 27 rfl hk.k))), (hs.pick [] rfl)⟩
   ·have hk := hk.lit 23 c10 rfl
    refine sm _ rfl hk rfl rfl rfl fun a hk => ?_
    refine sle rfl hk rfl rfl rfl un22 fun a hk => ?_
    refine sv (.bool (decide ((l1.length : Int) > 1048576))) hk rfl rfl rfl fun a hk => ?_
    refine sv (.bool (decide ((l1.length : Int) > 1048576))) hk rfl rfl rfl fun a hk => ?_
    show wpList _ _ _ [] _ _
    refine wpList_nil ?_
    obtain rfl := Option.some.inj H
    show R9 _ _
    rw [hR9]
    exact ⟨(decide ((l1.length : Int) > 1048576)), rfl, (hk.c 0 rfl (hk.c 1 rfl (hk.c 27 rfl hk.k))), (hs.pick [] rfl)⟩
  ·intro a w hR0
   rw [hR9] at hR0
   obtain ⟨u5, rfl, hk, hs⟩ := hR0
   have H := HL8
   try dsimp only at H
   refine hK3 _ _ ?_
   rcases cond_some H with ⟨c11, H⟩ | ⟨c11, H⟩
   ·have hk := hk.lit 27 c11 rfl
    refine cnd_true hk rfl rfl ?_
    apply wp_seq_k; intro K12 hK12
    apply wp_region_lit
    refine sa _ rfl hk rfl rfl rfl fun a hk => ?_
    show wpList _ _ _ [] _ _
    refine wpList_nil ?_
    refine hK12 _ _ ?_
    refine wp_ret ?_
    obtain rfl := Option.some.inj H
    exact fin hk _ [(.bool true)] rfl ⟨rfl, trivial⟩ ⟨rfl, (hs.pick [] rfl).dnil⟩
   ·have hk := hk.lit 27 c11 rfl
    refine cnd_false hk rfl rfl ?_
    refine wp_skip ?_
    refine hK2 _ _ ?_
    apply wp_seq_k; intro K13 hK13
    apply wp_region_lit
    refine sm _ rfl hk rfl rfl rfl fun a hk => ?_
    obtain ⟨y14, h15, H⟩ := bind_some H
    refine sc rfl en8 hk rfl rfl rfl (spec_TextOf_t _ A0_ p0_ l0 _ v0_ (hs.hasD (k := 1) rfl) _ h15) ?_
    rintro _ w ⟨rfl, hG⟩ a hk
    have hs := hs.call0 hG
    refine sm _ rfl hk rfl rfl rfl fun a hk => ?_
    obtain ⟨y16, h17, H⟩ := bind_some H
    refine sc rfl en8 hk rfl rfl rfl (spec_TextOf_t _ A1_ p1_ l1 _ v1_ (hs.hasD (k := 2) rfl) _ h17) ?_
    rintro _ w ⟨rfl, hG⟩ a hk
    have hs := hs.call0 hG
    rcases ite_some H with ⟨c18, H⟩ | ⟨_, H⟩
    rotate_left
    ·cases H
    refine ssa rfl hk rfl rfl rfl rfl c18 fun a hk => ?_
    refine sa _ rfl hk rfl rfl rfl fun a hk => ?_
    show wpList _ _ _ [] _ _
    refine wpList_nil ?_
    refine hK13 _ _ ?_
    have hs := hs.pick [] rfl
    apply wp_seq_k; intro K19 hK19
    apply wp_region_lit
    refine sm _ rfl hk rfl rfl rfl fun a hk => ?_
    obtain ⟨y20, h21, H⟩ := bind_some H
    refine sc rfl en9 hk rfl rfl rfl (impl_HashOf_t _ (y14 ++ y16) _ h21) ?_
    rintro _ w ⟨rfl, hG⟩ a hk
    have hs := hs.call0 hG
    refine sm _ rfl hk rfl rfl rfl fun a hk => ?_
    refine sv (.string y20.1) hk rfl rfl rfl fun a hk => ?_
    refine sv (.int .i64 y20.2) hk rfl rfl rfl fun a hk => ?_
    refine sa _ rfl hk rfl rfl rfl fun a hk => ?_
    refine sa _ rfl hk rfl rfl rfl fun a hk => ?_
    show wpList _ _ _ [] _ _
    refine wpList_nil ?_
    refine hK19 _ _ ?_
    apply wp_seq_k; intro K22 hK22
    apply wp_region_lit
    refine sm _ rfl hk rfl rfl rfl fun a hk => ?_
    obtain ⟨y23, h24, H⟩ := bind_some H
    refine sc rfl en10 hk rfl rfl rfl (spec_HashOf_t _ (y14 ++ y16) _ h24) ?_
    rintro _ w ⟨rfl, hG⟩ a hk
    have hs := hs.call0 hG
    refine sm _ rfl hk rfl rfl rfl fun a hk => ?_
    refine sv (.string y23.1) hk rfl rfl rfl fun a hk => ?_
    refine sv (.int .i64 y23.2) hk rfl rfl rfl fun a hk => ?_
    refine sa _ rfl hk rfl rfl rfl fun a hk => ?_
    refine sa _ rfl hk rfl rfl rfl fun a hk => ?_
    show wpList _ _ _ [] _ _
    refine wpList_nil ?_
    refine hK22 _ _ ?_
    apply wp_seq_k; intro K25 hK25
    apply wp_region_lit
    refine sm _ rfl hk rfl rfl rfl fun a hk => ?_
    refine sm _ rfl hk rfl rfl rfl fun a hk => ?_
    refine sles rfl hk rfl rfl rfl un9 fun a hk => ?_
    refine sv (.int .i64 (w64 (((y14 ++ y16).size : Int) + 1))) hk rfl rfl rfl fun a hk => ?_
    obtain ⟨y26, h27, H⟩ := bind_some H
    refine sc rfl en11 hk rfl rfl rfl (laws_at_t _ A1_ p1_ l1 _ v1_ (hs.hasD (k := 2) rfl) 0 (w64 (((y14 ++ y16).size : Int) + 1)) _ h27) ?_
    rintro _ w ⟨rfl, hG⟩ a hk
    have hs := hs.call0 hG
    refine sa _ rfl hk rfl rfl rfl fun a hk => ?_
    show wpList _ _ _ [] _ _
    refine wpList_nil ?_
    refine hK25 _ _ ?_
    apply wp_seq_k; intro K28 hK28
    apply wp_region_lit
    refine sm _ rfl hk rfl rfl rfl fun a hk => ?_
    refine sm _ rfl hk rfl rfl rfl fun a hk => ?_
    refine sm _ rfl hk rfl rfl rfl fun a hk => ?_
    refine sles rfl hk rfl rfl rfl un9 fun a hk => ?_
    refine sm _ rfl hk rfl rfl rfl fun a hk => ?_
    refine sv (.int .i64 (w64 (((y14 ++ y16).size : Int) - y26))) hk rfl rfl rfl fun a hk => ?_
    refine sv (.int .i64 (w64 ((w64 (((y14 ++ y16).size : Int) - y26)) + 1))) hk rfl rfl rfl fun a hk => ?_
    obtain ⟨y29, h30, H⟩ := bind_some H
    refine sc rfl en11 hk rfl rfl rfl (laws_at_t _ A1_ p1_ l1 _ v1_ (hs.hasD (k := 2) rfl) 1 (w64 ((w64 (((y14 ++ y16).size : Int) - y26)) + 1)) _ h30) ?_
    rintro _ w ⟨rfl, hG⟩ a hk
    have hs := hs.call0 hG
    refine sv (.int .i64 (w64 (y26 + y29))) hk rfl rfl rfl fun a hk => ?_
    refine sa _ rfl hk rfl rfl rfl fun a hk => ?_
    show wpList _ _ _ [] _ _
    refine wpList_nil ?_
    refine hK28 _ _ ?_
    have hs := hs.pick [] rfl
    apply wp_seq_k; intro K31 hK31
    refine wp_region_tree (.q 0 (.q 1 (.q 2 (.q 3 (.q 4 (.q 5 (.q 6 (.q 7 (.alt 8 (.alt 9 (.last 10) .stop) .stop))))))))) mo (by kernel_rfl) (hs.pick [] rfl) fun _ => ?_
    have hs := hs.drew
    obtain ⟨y33, h34, H⟩ := bind_some H
    refine tqst (.agg #[.int .i64 y33.H0, .int .i64 y33.H1, .int .i64 y33.H2, .int .i64 y33.H3, .int .i64 y33.H4, .int .i64 y33.H5, .int .i64 y33.H6, .int .i64 y33.H7, .string y33.Buf, .int .i64 y33.N]) hk rfl rfl rfl rfl (fun w hs => sc rfl en13 hk rfl rfl rfl (impl_NewHash_t _ _ h34) fun _ w hR a hk => qc hR hk) fun a hk => ?_
    refine tqst (.string (y14 ++ y16)) hk rfl rfl rfl rfl (fun w hs => sm _ rfl hk rfl rfl rfl fun a hk => qe hk) fun a hk => ?_
    refine tqst (.int .i64 y26) hk rfl rfl rfl rfl (fun w hs => sm _ rfl hk rfl rfl rfl fun a hk => qe hk) fun a hk => ?_
    rcases ite_some H with ⟨c35, H⟩ | ⟨_, H⟩
    rotate_left
    ·cases H
    refine tqst (.string ((y14 ++ y16).extract 0 y26.toNat)) hk rfl rfl rfl rfl (fun w hs => ssl_h rfl hk rfl rfl rfl rfl un9 c35.1 c35.2 fun a hk => qe hk) fun a hk => ?_
    obtain ⟨y36, h37, H⟩ := bind_some H
    refine tqst (.tuple #[(.agg #[.int .i64 y36.1.H0, .int .i64 y36.1.H1, .int .i64 y36.1.H2, .int .i64 y36.1.H3, .int .i64 y36.1.H4, .int .i64 y36.1.H5, .int .i64 y36.1.H6, .int .i64 y36.1.H7, .string y36.1.Buf, .int .i64 y36.1.N]), (.int .i64 y36.2)]) hk rfl rfl rfl rfl (fun w hs => sc rfl en12 hk rfl rfl rfl (impl_HashMore_t _ y33 ((y14 ++ y16).extract 0 y26.toNat) _ h37) fun _ w hR a hk => qc hR hk) fun a hk => ?_
    refine tqst (.tuple #[(.agg #[.int .i64 y36.1.H0, .int .i64 y36.1.H1, .int .i64 y36.1.H2, .int .i64 y36.1.H3, .int .i64 y36.1.H4, .int .i64 y36.1.H5, .int .i64 y36.1.H6, .int .i64 y36.1.H7, .string y36.1.Buf, .int .i64 y36.1.N]), (.int .i64 y36.2)]) hk rfl rfl rfl rfl (fun w hs => sm _ rfl hk rfl rfl rfl fun a hk => qe hk) fun a hk => ?_
    refine tqst (.agg #[.int .i64 y36.1.H0, .int .i64 y36.1.H1, .int .i64 y36.1.H2, .int .i64 y36.1.H3, .int .i64 y36.1.H4, .int .i64 y36.1.H5, .int .i64 y36.1.H6, .int .i64 y36.1.H7, .string y36.1.Buf, .int .i64 y36.1.N]) hk rfl rfl rfl rfl (fun w hs => sv (.agg #[.int .i64 y36.1.H0, .int .i64 y36.1.H1, .int .i64 y36.1.H2, .int .i64 y36.1.H3, .int .i64 y36.1.H4, .int .i64 y36.1.H5, .int .i64 y36.1.H6, .int .i64 y36.1.H7, .string y36.1.Buf, .int .i64 y36.1.N]) hk rfl rfl rfl fun a hk => qe hk) fun a hk => ?_
    refine tqst (.int .i64 y36.2) hk rfl rfl rfl rfl (fun w hs => sv (.int .i64 y36.2) hk rfl rfl rfl fun a hk => qe hk) fun a hk => ?_
    refine tsst hk rfl rfl (fun K_r32_8 hK_r32_8 w hF => ?_) wt_stop
    have hs := hs.f hF
    refine salx 5 hs rfl hk rfl rfl ze29 rfl fun b38 w a hk hs => ?_
    refine se (hs.pick [] rfl) hk (hK_r32_8 _ _ ?_)
    refine tsst hk rfl rfl (fun K_r32_9 hK_r32_9 w hF => ?_) wt_stop
    have hs := hs.f hF
    refine ssw 5 hs rfl rfl hk rfl rfl rfl rfl sz29 (by simp [Value.oneCell']) rfl fun w a hk hs => ?_
    refine se (hs.pick [] rfl) hk (hK_r32_9 _ _ ?_)
    refine tlst hk rfl rfl fun K_r32_10 hK_r32_10 w hF => ?_
    have hs := hs.f hF
    refine sa _ rfl hk rfl rfl rfl fun a hk => ?_
    refine se trivial hk (hK_r32_10 _ _ fun w hF => ?_)
    have hs := hs.f hF
    refine hK31 _ _ ?_
    apply wp_seq_k; intro K39 hK39
    refine wp_region_tree (.q 0 (.q 1 (.q 2 (.q 3 (.q 4 (.q 5 (.q 6 (.q 7 (.q 8 (.alt 9 (.alt 10 (.last 11) .stop) .stop)))))))))) mo (by kernel_rfl) (hs.pick [(5, 5)] rfl) fun _ => ?_
    have hs := hs.drew
    refine tqst (.agg #[.int .i64 y36.1.H0, .int .i64 y36.1.H1, .int .i64 y36.1.H2, .int .i64 y36.1.H3, .int .i64 y36.1.H4, .int .i64 y36.1.H5, .int .i64 y36.1.H6, .int .i64 y36.1.H7, .string y36.1.Buf, .int .i64 y36.1.N]) hk rfl rfl rfl rfl (fun w hs => sln [.int .i64 y36.1.H0, .int .i64 y36.1.H1, .int .i64 y36.1.H2, .int .i64 y36.1.H3, .int .i64 y36.1.H4, .int .i64 y36.1.H5, .int .i64 y36.1.H6, .int .i64 y36.1.H7, .string y36.1.Buf, .int .i64 y36.1.N] rfl hk rfl rfl rfl ag29 sz29 (box_cells hs (k := 5) rfl) fun a hk => qe hk) fun a hk => ?_
    refine tqst (.string (y14 ++ y16)) hk rfl rfl rfl rfl (fun w hs => sm _ rfl hk rfl rfl rfl fun a hk => qe hk) fun a hk => ?_
    refine tqst (.int .i64 y26) hk rfl rfl rfl rfl (fun w hs => sm _ rfl hk rfl rfl rfl fun a hk => qe hk) fun a hk => ?_
    refine tqst (.int .i64 (w64 (y26 + y29))) hk rfl rfl rfl rfl (fun w hs => sm _ rfl hk rfl rfl rfl fun a hk => qe hk) fun a hk => ?_
    rcases ite_some H with ⟨c41, H⟩ | ⟨_, H⟩
    rotate_left
    ·cases H
    refine tqst (.string ((y14 ++ y16).extract y26.toNat (w64 (y26 + y29)).toNat)) hk rfl rfl rfl rfl (fun w hs => ssl_lh rfl hk rfl rfl rfl rfl rfl un9 c41.1 c41.2.1 c41.2.2 fun a hk => qe hk) fun a hk => ?_
    obtain ⟨y42, h43, H⟩ := bind_some H
    refine tqst (.tuple #[(.agg #[.int .i64 y42.1.H0, .int .i64 y42.1.H1, .int .i64 y42.1.H2, .int .i64 y42.1.H3, .int .i64 y42.1.H4, .int .i64 y42.1.H5, .int .i64 y42.1.H6, .int .i64 y42.1.H7, .string y42.1.Buf, .int .i64 y42.1.N]), (.int .i64 y42.2)]) hk rfl rfl rfl rfl (fun w hs => sc rfl en12 hk rfl rfl rfl (impl_HashMore_t _ y36.1 ((y14 ++ y16).extract y26.toNat (w64 (y26 + y29)).toNat) _ h43) fun _ w hR a hk => qc hR hk) fun a hk => ?_
    refine tqst (.tuple #[(.agg #[.int .i64 y42.1.H0, .int .i64 y42.1.H1, .int .i64 y42.1.H2, .int .i64 y42.1.H3, .int .i64 y42.1.H4, .int .i64 y42.1.H5, .int .i64 y42.1.H6, .int .i64 y42.1.H7, .string y42.1.Buf, .int .i64 y42.1.N]), (.int .i64 y42.2)]) hk rfl rfl rfl rfl (fun w hs => sm _ rfl hk rfl rfl rfl fun a hk => qe hk) fun a hk => ?_
    refine tqst (.agg #[.int .i64 y42.1.H0, .int .i64 y42.1.H1, .int .i64 y42.1.H2, .int .i64 y42.1.H3, .int .i64 y42.1.H4, .int .i64 y42.1.H5, .int .i64 y42.1.H6, .int .i64 y42.1.H7, .string y42.1.Buf, .int .i64 y42.1.N]) hk rfl rfl rfl rfl (fun w hs => sv (.agg #[.int .i64 y42.1.H0, .int .i64 y42.1.H1, .int .i64 y42.1.H2, .int .i64 y42.1.H3, .int .i64 y42.1.H4, .int .i64 y42.1.H5, .int .i64 y42.1.H6, .int .i64 y42.1.H7, .string y42.1.Buf, .int .i64 y42.1.N]) hk rfl rfl rfl fun a hk => qe hk) fun a hk => ?_
    refine tqst (.int .i64 y42.2) hk rfl rfl rfl rfl (fun w hs => sv (.int .i64 y42.2) hk rfl rfl rfl fun a hk => qe hk) fun a hk => ?_
    refine tsst hk rfl rfl (fun K_r40_9 hK_r40_9 w hF => ?_) wt_stop
    have hs := hs.f hF
    refine salx 7 hs rfl hk rfl rfl ze29 rfl fun b44 w a hk hs => ?_
    refine se (hs.pick [(5, 5)] rfl) hk (hK_r40_9 _ _ ?_)
    refine tsst hk rfl rfl (fun K_r40_10 hK_r40_10 w hF => ?_) wt_stop
    have hs := hs.f hF
    refine ssw 7 hs rfl rfl hk rfl rfl rfl rfl sz29 (by simp [Value.oneCell']) rfl fun w a hk hs => ?_
    refine se (hs.pick [(5, 5)] rfl) hk (hK_r40_10 _ _ ?_)
    refine tlst hk rfl rfl fun K_r40_11 hK_r40_11 w hF => ?_
    have hs := hs.f hF
    refine sa _ rfl hk rfl rfl rfl fun a hk => ?_
    refine se trivial hk (hK_r40_11 _ _ fun w hF => ?_)
    have hs := hs.f hF
    refine hK39 _ _ ?_
    apply wp_seq_k; intro K45 hK45
    refine wp_region_tree (.q 0 (.q 1 (.q 2 (.q 3 (.q 4 (.q 5 (.q 6 (.q 7 (.alt 8 (.alt 9 (.last 10) .stop) .stop))))))))) mo (by kernel_rfl) (hs.pick [(7, 7), (5, 5)] rfl) fun _ => ?_
    have hs := hs.drew
    refine tqst (.agg #[.int .i64 y42.1.H0, .int .i64 y42.1.H1, .int .i64 y42.1.H2, .int .i64 y42.1.H3, .int .i64 y42.1.H4, .int .i64 y42.1.H5, .int .i64 y42.1.H6, .int .i64 y42.1.H7, .string y42.1.Buf, .int .i64 y42.1.N]) hk rfl rfl rfl rfl (fun w hs => sln [.int .i64 y42.1.H0, .int .i64 y42.1.H1, .int .i64 y42.1.H2, .int .i64 y42.1.H3, .int .i64 y42.1.H4, .int .i64 y42.1.H5, .int .i64 y42.1.H6, .int .i64 y42.1.H7, .string y42.1.Buf, .int .i64 y42.1.N] rfl hk rfl rfl rfl ag29 sz29 (box_cells hs (k := 7) rfl) fun a hk => qe hk) fun a hk => ?_
    refine tqst (.string (y14 ++ y16)) hk rfl rfl rfl rfl (fun w hs => sm _ rfl hk rfl rfl rfl fun a hk => qe hk) fun a hk => ?_
    refine tqst (.int .i64 (w64 (y26 + y29))) hk rfl rfl rfl rfl (fun w hs => sm _ rfl hk rfl rfl rfl fun a hk => qe hk) fun a hk => ?_
    rcases ite_some H with ⟨c47, H⟩ | ⟨_, H⟩
    rotate_left
    ·cases H
    refine tqst (.string ((y14 ++ y16).extract (w64 (y26 + y29)).toNat (y14 ++ y16).size)) hk rfl rfl rfl rfl (fun w hs => ssl_l rfl hk rfl rfl rfl rfl un9 c47.1 c47.2 fun a hk => qe hk) fun a hk => ?_
    obtain ⟨y48, h49, H⟩ := bind_some H
    refine tqst (.tuple #[(.agg #[.int .i64 y48.1.H0, .int .i64 y48.1.H1, .int .i64 y48.1.H2, .int .i64 y48.1.H3, .int .i64 y48.1.H4, .int .i64 y48.1.H5, .int .i64 y48.1.H6, .int .i64 y48.1.H7, .string y48.1.Buf, .int .i64 y48.1.N]), (.int .i64 y48.2)]) hk rfl rfl rfl rfl (fun w hs => sc rfl en12 hk rfl rfl rfl (impl_HashMore_t _ y42.1 ((y14 ++ y16).extract (w64 (y26 + y29)).toNat (y14 ++ y16).size) _ h49) fun _ w hR a hk => qc hR hk) fun a hk => ?_
    refine tqst (.tuple #[(.agg #[.int .i64 y48.1.H0, .int .i64 y48.1.H1, .int .i64 y48.1.H2, .int .i64 y48.1.H3, .int .i64 y48.1.H4, .int .i64 y48.1.H5, .int .i64 y48.1.H6, .int .i64 y48.1.H7, .string y48.1.Buf, .int .i64 y48.1.N]), (.int .i64 y48.2)]) hk rfl rfl rfl rfl (fun w hs => sm _ rfl hk rfl rfl rfl fun a hk => qe hk) fun a hk => ?_
    refine tqst (.agg #[.int .i64 y48.1.H0, .int .i64 y48.1.H1, .int .i64 y48.1.H2, .int .i64 y48.1.H3, .int .i64 y48.1.H4, .int .i64 y48.1.H5, .int .i64 y48.1.H6, .int .i64 y48.1.H7, .string y48.1.Buf, .int .i64 y48.1.N]) hk rfl rfl rfl rfl (fun w hs => sv (.agg #[.int .i64 y48.1.H0, .int .i64 y48.1.H1, .int .i64 y48.1.H2, .int .i64 y48.1.H3, .int .i64 y48.1.H4, .int .i64 y48.1.H5, .int .i64 y48.1.H6, .int .i64 y48.1.H7, .string y48.1.Buf, .int .i64 y48.1.N]) hk rfl rfl rfl fun a hk => qe hk) fun a hk => ?_
    refine tqst (.int .i64 y48.2) hk rfl rfl rfl rfl (fun w hs => sv (.int .i64 y48.2) hk rfl rfl rfl fun a hk => qe hk) fun a hk => ?_
    refine tsst hk rfl rfl (fun K_r46_8 hK_r46_8 w hF => ?_) wt_stop
    have hs := hs.f hF
    refine salx 9 hs rfl hk rfl rfl ze29 rfl fun b50 w a hk hs => ?_
    refine se (hs.pick [(7, 7), (5, 5)] rfl) hk (hK_r46_8 _ _ ?_)
    refine tsst hk rfl rfl (fun K_r46_9 hK_r46_9 w hF => ?_) wt_stop
    have hs := hs.f hF
    refine ssw 9 hs rfl rfl hk rfl rfl rfl rfl sz29 (by simp [Value.oneCell']) rfl fun w a hk hs => ?_
    refine se (hs.pick [(7, 7), (5, 5)] rfl) hk (hK_r46_9 _ _ ?_)
    refine tlst hk rfl rfl fun K_r46_10 hK_r46_10 w hF => ?_
    have hs := hs.f hF
    refine sa _ rfl hk rfl rfl rfl fun a hk => ?_
    refine se trivial hk (hK_r46_10 _ _ fun w hF => ?_)
    have hs := hs.f hF
    refine hK45 _ _ ?_
    apply wp_seq_k; intro K51 hK51
    apply wp_region_lit
    refine sln [.int .i64 y48.1.H0, .int .i64 y48.1.H1, .int .i64 y48.1.H2, .int .i64 y48.1.H3, .int .i64 y48.1.H4, .int .i64 y48.1.H5, .int .i64 y48.1.H6, .int .i64 y48.1.H7, .string y48.1.Buf, .int .i64 y48.1.N] rfl hk rfl rfl rfl ag29 sz29 (box_cells hs (k := 9) rfl) fun a hk => ?_
    obtain ⟨y52, h53, H⟩ := bind_some H
    refine sc rfl en14 hk rfl rfl rfl (impl_HashSum_t _ y48.1 _ h53) ?_
    rintro _ w ⟨rfl, hG⟩ a hk
    have hs := hs.call0 hG
    refine sm _ rfl hk rfl rfl rfl fun a hk => ?_
    refine sv (.string y52.1) hk rfl rfl rfl fun a hk => ?_
    refine sv (.int .i64 y52.2) hk rfl rfl rfl fun a hk => ?_
    refine sa _ rfl hk rfl rfl rfl fun a hk => ?_
    refine sa _ rfl hk rfl rfl rfl fun a hk => ?_
    show wpList _ _ _ [] _ _
    refine wpList_nil ?_
    refine hK51 _ _ ?_
    have hs := hs.pick [(9, 9)] rfl
    apply wp_seq_k; intro K54 hK54
    obtain ⟨o57, h58, HL59⟩ := bind_some H
    clear H
    obtain ⟨R60, hR60⟩ : ∃ R : Act → World → Prop, R = fun a w => ∃ (u56 : Bool), u56 = o57 ∧ Kn [(4, (.bool u56))] 131 a ∧ Sat [] w0 w [(1, k0_), (2, k1_)] [] := ⟨_, rfl⟩
    refine wp_cutq R60 ?_ ?_
    ·have H := h58
     apply wp_region_lit
     refine sm _ rfl hk rfl rfl rfl fun a hk => ?_
     refine sv (.bool (y20.2 == 0)) hk rfl rfl rfl fun a hk => ?_
     refine sm _ rfl hk rfl rfl rfl fun a hk => ?_
     rcases cond_some H with ⟨c61, H⟩ | ⟨c61, H⟩
     ·have hk := hk.lit 89 c61 rfl
      refine sm _ rfl hk rfl rfl rfl fun a hk => ?_
      refine sm _ rfl hk rfl rfl rfl fun a hk => ?_
      refine sv (.bool (y20.1.toList == y23.1.toList)) hk rfl rfl rfl fun a hk => ?_
      refine sv (.bool (y20.1.toList == y23.1.toList)) hk rfl rfl rfl fun a hk => ?_
      refine sm _ rfl hk rfl rfl rfl fun a hk => ?_
      rcases cond_some H with ⟨c62, H⟩ | ⟨c62, H⟩
      ·have hk := hk.lit 94 c62 rfl
       refine sm _ rfl hk rfl rfl rfl fun a hk => ?_
       refine sles rfl hk rfl rfl rfl un9 fun a hk => ?_
       refine sv (.bool ((y20.1.size : Int) == 32)) hk rfl rfl rfl fun a hk => ?_
       refine sv (.bool ((y20.1.size : Int) == 32)) hk rfl rfl rfl fun a hk => ?_
       refine sm _ rfl hk rfl rfl rfl fun a hk => ?_
       rcases cond_some H with ⟨c63, H⟩ | ⟨c63, H⟩
       ·have hk := hk.lit 99 c63 rfl
        refine sm _ rfl hk rfl rfl rfl fun a hk => ?_
        refine sv (.bool (y36.2 == 0)) hk rfl rfl rfl fun a hk => ?_
        refine sv (.bool (y36.2 == 0)) hk rfl rfl rfl fun a hk => ?_
        refine sm _ rfl hk rfl rfl rfl fun a hk => ?_
        rcases cond_some H with ⟨c64, H⟩ | ⟨c64, H⟩
        ·have hk := hk.lit 103 c64 rfl
         refine sm _ rfl hk rfl rfl rfl fun a hk => ?_
         refine sv (.bool (y42.2 == 0)) hk rfl rfl rfl fun a hk => ?_
         refine sv (.bool (y42.2 == 0)) hk rfl rfl rfl fun a hk => ?_
         refine sm _ rfl hk rfl rfl rfl fun a hk => ?_
         rcases cond_some H with ⟨c65, H⟩ | ⟨c65, H⟩
         ·have hk := hk.lit 107 c65 rfl
          refine sm _ rfl hk rfl rfl rfl fun a hk => ?_
          refine sv (.bool (y48.2 == 0)) hk rfl rfl rfl fun a hk => ?_
          refine sv (.bool (y48.2 == 0)) hk rfl rfl rfl fun a hk => ?_
          refine sm _ rfl hk rfl rfl rfl fun a hk => ?_
          rcases cond_some H with ⟨c66, H⟩ | ⟨c66, H⟩
          ·have hk := hk.lit 111 c66 rfl
           refine sm _ rfl hk rfl rfl rfl fun a hk => ?_
           refine sv (.bool (y52.2 == 0)) hk rfl rfl rfl fun a hk => ?_
           refine sv (.bool (y52.2 == 0)) hk rfl rfl rfl fun a hk => ?_
           refine sm _ rfl hk rfl rfl rfl fun a hk => ?_
           rcases cond_some H with ⟨c67, H⟩ | ⟨c67, H⟩
           ·have hk := hk.lit 115 c67 rfl
            refine sm _ rfl hk rfl rfl rfl fun a hk => ?_
            refine sm _ rfl hk rfl rfl rfl fun a hk => ?_
            refine sv (.bool (y52.1.toList == y20.1.toList)) hk rfl rfl rfl fun a hk => ?_
            refine sv (.bool (y52.1.toList == y20.1.toList)) hk rfl rfl rfl fun a hk => ?_
            refine sm _ rfl hk rfl rfl rfl fun a hk => ?_
            rcases cond_some H with ⟨c68, H⟩ | ⟨c68, H⟩
            ·have hk := hk.lit 120 c68 rfl
             refine sln [.int .i64 y48.1.H0, .int .i64 y48.1.H1, .int .i64 y48.1.H2, .int .i64 y48.1.H3, .int .i64 y48.1.H4, .int .i64 y48.1.H5, .int .i64 y48.1.H6, .int .i64 y48.1.H7, .string y48.1.Buf, .int .i64 y48.1.N] rfl hk rfl rfl rfl ag29 sz29 (box_cells hs (k := 9) rfl) fun a hk => ?_
             obtain ⟨y69, h70, H⟩ := bind_some H
             refine sc rfl en15 hk rfl rfl rfl (impl_HashOK_t _ y48.1 _ h70) ?_
             rintro _ w ⟨rfl, hG⟩ a hk
             have hs := hs.call0 hG
             refine sv (.bool y69) hk rfl rfl rfl fun a hk => ?_
             refine sm _ rfl hk rfl rfl rfl fun a hk => ?_
             rcases cond_some H with ⟨c71, H⟩ | ⟨c71, H⟩
             ·have hk := hk.lit 124 c71 rfl
              refine sf ⟨b50, 9, none⟩ rfl hk rfl rfl rfl fd29_2 rfl fun a hk => ?_
              refine sl rfl hk rfl rfl rfl ag3 (box_cell hs (k := 9) rfl rfl) fun a hk => ?_
              refine sm _ rfl hk rfl rfl rfl fun a hk => ?_
              refine sles rfl hk rfl rfl rfl un9 fun a hk => ?_
              refine sv (.bool (y48.1.N == ((y14 ++ y16).size : Int))) hk rfl rfl rfl fun a hk => ?_
              refine sv (.bool (y48.1.N == ((y14 ++ y16).size : Int))) hk rfl rfl rfl fun a hk => ?_
              refine sa _ rfl hk rfl rfl rfl fun a hk => ?_
              show wpList _ _ _ [] _ _
              refine wpList_nil ?_
              obtain rfl := Option.some.inj H
              show R60 _ _
              rw [hR60]
              exact ⟨(y48.1.N == ((y14 ++ y16).size : Int)), rfl, (hk.c 4 rfl hk.k), (hs.pick [] rfl)⟩
             ·have hk := hk.lit 124 c71 rfl
              refine sk hk rfl rfl rfl fun a hk => ?_
              refine sk hk rfl rfl rfl fun a hk => ?_
              refine sk hk rfl rfl rfl fun a hk => ?_
              refine sk hk rfl rfl rfl fun a hk => ?_
              refine sk hk rfl rfl rfl fun a hk => ?_
              refine sv (.bool false) hk rfl rfl rfl fun a hk => ?_
              refine sa _ rfl hk rfl rfl rfl fun a hk => ?_
              show wpList _ _ _ [] _ _
              refine wpList_nil ?_
              obtain rfl := Option.some.inj H
              show R60 _ _
              rw [hR60]
              exact ⟨false, rfl, (hk.c 4 rfl hk.k), (hs.pick [] rfl)⟩
            ·have hk := hk.lit 120 c68 rfl
             refine sk hk rfl rfl rfl fun a hk => ?_
             refine sk hk rfl rfl rfl fun a hk => ?_
             refine sv (.bool false) hk rfl rfl rfl fun a hk => ?_
             refine sm _ rfl hk rfl rfl rfl fun a hk => ?_
             refine sk hk rfl rfl rfl fun a hk => ?_
             refine sk hk rfl rfl rfl fun a hk => ?_
             refine sk hk rfl rfl rfl fun a hk => ?_
             refine sk hk rfl rfl rfl fun a hk => ?_
             refine sk hk rfl rfl rfl fun a hk => ?_
             refine sv (.bool false) hk rfl rfl rfl fun a hk => ?_
             refine sa _ rfl hk rfl rfl rfl fun a hk => ?_
             show wpList _ _ _ [] _ _
             refine wpList_nil ?_
             obtain rfl := Option.some.inj H
             show R60 _ _
             rw [hR60]
             exact ⟨false, rfl, (hk.c 4 rfl hk.k), (hs.pick [] rfl)⟩
           ·have hk := hk.lit 115 c67 rfl
            refine sk hk rfl rfl rfl fun a hk => ?_
            refine sk hk rfl rfl rfl fun a hk => ?_
            refine sk hk rfl rfl rfl fun a hk => ?_
            refine sv (.bool false) hk rfl rfl rfl fun a hk => ?_
            refine sm _ rfl hk rfl rfl rfl fun a hk => ?_
            refine sk hk rfl rfl rfl fun a hk => ?_
            refine sk hk rfl rfl rfl fun a hk => ?_
            refine sv (.bool false) hk rfl rfl rfl fun a hk => ?_
            refine sm _ rfl hk rfl rfl rfl fun a hk => ?_
            refine sk hk rfl rfl rfl fun a hk => ?_
            refine sk hk rfl rfl rfl fun a hk => ?_
            refine sk hk rfl rfl rfl fun a hk => ?_
            refine sk hk rfl rfl rfl fun a hk => ?_
            refine sk hk rfl rfl rfl fun a hk => ?_
            refine sv (.bool false) hk rfl rfl rfl fun a hk => ?_
            refine sa _ rfl hk rfl rfl rfl fun a hk => ?_
            show wpList _ _ _ [] _ _
            refine wpList_nil ?_
            obtain rfl := Option.some.inj H
            show R60 _ _
            rw [hR60]
            exact ⟨false, rfl, (hk.c 4 rfl hk.k), (hs.pick [] rfl)⟩
          ·have hk := hk.lit 111 c66 rfl
           refine sk hk rfl rfl rfl fun a hk => ?_
           refine sk hk rfl rfl rfl fun a hk => ?_
           refine sv (.bool false) hk rfl rfl rfl fun a hk => ?_
           refine sm _ rfl hk rfl rfl rfl fun a hk => ?_
           refine sk hk rfl rfl rfl fun a hk => ?_
           refine sk hk rfl rfl rfl fun a hk => ?_
           refine sk hk rfl rfl rfl fun a hk => ?_
           refine sv (.bool false) hk rfl rfl rfl fun a hk => ?_
           refine sm _ rfl hk rfl rfl rfl fun a hk => ?_
           refine sk hk rfl rfl rfl fun a hk => ?_
           refine sk hk rfl rfl rfl fun a hk => ?_
           refine sv (.bool false) hk rfl rfl rfl fun a hk => ?_
           refine sm _ rfl hk rfl rfl rfl fun a hk => ?_
           refine sk hk rfl rfl rfl fun a hk => ?_
           refine sk hk rfl rfl rfl fun a hk => ?_
           refine sk hk rfl rfl rfl fun a hk => ?_
           refine sk hk rfl rfl rfl fun a hk => ?_
           refine sk hk rfl rfl rfl fun a hk => ?_
           refine sv (.bool false) hk rfl rfl rfl fun a hk => ?_
           refine sa _ rfl hk rfl rfl rfl fun a hk => ?_
           show wpList _ _ _ [] _ _
           refine wpList_nil ?_
           obtain rfl := Option.some.inj H
           show R60 _ _
           rw [hR60]
           exact ⟨false, rfl, (hk.c 4 rfl hk.k), (hs.pick [] rfl)⟩
         ·have hk := hk.lit 107 c65 rfl
          refine sk hk rfl rfl rfl fun a hk => ?_
          refine sk hk rfl rfl rfl fun a hk => ?_
          refine sv (.bool false) hk rfl rfl rfl fun a hk => ?_
          refine sm _ rfl hk rfl rfl rfl fun a hk => ?_
          refine sk hk rfl rfl rfl fun a hk => ?_
          refine sk hk rfl rfl rfl fun a hk => ?_
          refine sv (.bool false) hk rfl rfl rfl fun a hk => ?_
          refine sm _ rfl hk rfl rfl rfl fun a hk => ?_
          refine sk hk rfl rfl rfl fun a hk => ?_
          refine sk hk rfl rfl rfl fun a hk => ?_
          refine sk hk rfl rfl rfl fun a hk => ?_
          refine sv (.bool false) hk rfl rfl rfl fun a hk => ?_
          refine sm _ rfl hk rfl rfl rfl fun a hk => ?_
          refine sk hk rfl rfl rfl fun a hk => ?_
          refine sk hk rfl rfl rfl fun a hk => ?_
          refine sv (.bool false) hk rfl rfl rfl fun a hk => ?_
          refine sm _ rfl hk rfl rfl rfl fun a hk => ?_
          refine sk hk rfl rfl rfl fun a hk => ?_
          refine sk hk rfl rfl rfl fun a hk => ?_
          refine sk hk rfl rfl rfl fun a hk => ?_
          refine sk hk rfl rfl rfl fun a hk => ?_
          refine sk hk rfl rfl rfl fun a hk => ?_
          refine sv (.bool false) hk rfl rfl rfl fun a hk => ?_
          refine sa _ rfl hk rfl rfl rfl fun a hk => ?_
          show wpList _ _ _ [] _ _
          refine wpList_nil ?_
          obtain rfl := Option.some.inj H
          show R60 _ _
          rw [hR60]
          exact ⟨false, rfl, (hk.c 4 rfl hk.k), (hs.pick [] rfl)⟩
        ·have hk := hk.lit 103 c64 rfl
         refine sk hk rfl rfl rfl fun a hk => ?_
         refine sk hk rfl rfl rfl fun a hk => ?_
         refine sv (.bool false) hk rfl rfl rfl fun a hk => ?_
         refine sm _ rfl hk rfl rfl rfl fun a hk => ?_
         refine sk hk rfl rfl rfl fun a hk => ?_
         refine sk hk rfl rfl rfl fun a hk => ?_
         refine sv (.bool false) hk rfl rfl rfl fun a hk => ?_
         refine sm _ rfl hk rfl rfl rfl fun a hk => ?_
         refine sk hk rfl rfl rfl fun a hk => ?_
         refine sk hk rfl rfl rfl fun a hk => ?_
         refine sv (.bool false) hk rfl rfl rfl fun a hk => ?_
         refine sm _ rfl hk rfl rfl rfl fun a hk => ?_
         refine sk hk rfl rfl rfl fun a hk => ?_
         refine sk hk rfl rfl rfl fun a hk => ?_
         refine sk hk rfl rfl rfl fun a hk => ?_
         refine sv (.bool false) hk rfl rfl rfl fun a hk => ?_
         refine sm _ rfl hk rfl rfl rfl fun a hk => ?_
         refine sk hk rfl rfl rfl fun a hk => ?_
         refine sk hk rfl rfl rfl fun a hk => ?_
         refine sv (.bool false) hk rfl rfl rfl fun a hk => ?_
         refine sm _ rfl hk rfl rfl rfl fun a hk => ?_
         refine sk hk rfl rfl rfl fun a hk => ?_
         refine sk hk rfl rfl rfl fun a hk => ?_
         refine sk hk rfl rfl rfl fun a hk => ?_
         refine sk hk rfl rfl rfl fun a hk => ?_
         refine sk hk rfl rfl rfl fun a hk => ?_
         refine sv (.bool false) hk rfl rfl rfl fun a hk => ?_
         refine sa _ rfl hk rfl rfl rfl fun a hk => ?_
         show wpList _ _ _ [] _ _
         refine wpList_nil ?_
         obtain rfl := Option.some.inj H
         show R60 _ _
         rw [hR60]
         exact ⟨false, rfl, (hk.c 4 rfl hk.k), (hs.pick [] rfl)⟩
       ·have hk := hk.lit 99 c63 rfl
        refine sk hk rfl rfl rfl fun a hk => ?_
        refine sk hk rfl rfl rfl fun a hk => ?_
        refine sv (.bool false) hk rfl rfl rfl fun a hk => ?_
        refine sm _ rfl hk rfl rfl rfl fun a hk => ?_
        refine sk hk rfl rfl rfl fun a hk => ?_
        refine sk hk rfl rfl rfl fun a hk => ?_
        refine sv (.bool false) hk rfl rfl rfl fun a hk => ?_
        refine sm _ rfl hk rfl rfl rfl fun a hk => ?_
        refine sk hk rfl rfl rfl fun a hk => ?_
        refine sk hk rfl rfl rfl fun a hk => ?_
        refine sv (.bool false) hk rfl rfl rfl fun a hk => ?_
        refine sm _ rfl hk rfl rfl rfl fun a hk => ?_
        refine sk hk rfl rfl rfl fun a hk => ?_
        refine sk hk rfl rfl rfl fun a hk => ?_
        refine sv (.bool false) hk rfl rfl rfl fun a hk => ?_
        refine sm _ rfl hk rfl rfl rfl fun a hk => ?_
        refine sk hk rfl rfl rfl fun a hk => ?_
        refine sk hk rfl rfl rfl fun a hk => ?_
        refine sk hk rfl rfl rfl fun a hk => ?_
        refine sv (.bool false) hk rfl rfl rfl fun a hk => ?_
        refine sm _ rfl hk rfl rfl rfl fun a hk => ?_
        refine sk hk rfl rfl rfl fun a hk => ?_
        refine sk hk rfl rfl rfl fun a hk => ?_
        refine sv (.bool false) hk rfl rfl rfl fun a hk => ?_
        refine sm _ rfl hk rfl rfl rfl fun a hk => ?_
        refine sk hk rfl rfl rfl fun a hk => ?_
        refine sk hk rfl rfl rfl fun a hk => ?_
        refine sk hk rfl rfl rfl fun a hk => ?_
        refine sk hk rfl rfl rfl fun a hk => ?_
        refine sk hk rfl rfl rfl fun a hk => ?_
        refine sv (.bool false) hk rfl rfl rfl fun a hk => ?_
        refine sa _ rfl hk rfl rfl rfl fun a hk => ?_
        show wpList _ _ _ [] _ _
        refine wpList_nil ?_
        obtain rfl := Option.some.inj H
        show R60 _ _
        rw [hR60]
        exact ⟨false, rfl, (hk.c 4 rfl hk.k), (hs.pick [] rfl)⟩
      ·have hk := hk.lit 94 c62 rfl
       refine sk hk rfl rfl rfl fun a hk => ?_
       refine sk hk rfl rfl rfl fun a hk => ?_
       refine sk hk rfl rfl rfl fun a hk => ?_
       refine sv (.bool false) hk rfl rfl rfl fun a hk => ?_
       refine sm _ rfl hk rfl rfl rfl fun a hk => ?_
       refine sk hk rfl rfl rfl fun a hk => ?_
       refine sk hk rfl rfl rfl fun a hk => ?_
       refine sv (.bool false) hk rfl rfl rfl fun a hk => ?_
       refine sm _ rfl hk rfl rfl rfl fun a hk => ?_
       refine sk hk rfl rfl rfl fun a hk => ?_
       refine sk hk rfl rfl rfl fun a hk => ?_
       refine sv (.bool false) hk rfl rfl rfl fun a hk => ?_
       refine sm _ rfl hk rfl rfl rfl fun a hk => ?_
       refine sk hk rfl rfl rfl fun a hk => ?_
       refine sk hk rfl rfl rfl fun a hk => ?_
       refine sv (.bool false) hk rfl rfl rfl fun a hk => ?_
       refine sm _ rfl hk rfl rfl rfl fun a hk => ?_
       refine sk hk rfl rfl rfl fun a hk => ?_
       refine sk hk rfl rfl rfl fun a hk => ?_
       refine sv (.bool false) hk rfl rfl rfl fun a hk => ?_
       refine sm _ rfl hk rfl rfl rfl fun a hk => ?_
       refine sk hk rfl rfl rfl fun a hk => ?_
       refine sk hk rfl rfl rfl fun a hk => ?_
       refine sk hk rfl rfl rfl fun a hk => ?_
       refine sv (.bool false) hk rfl rfl rfl fun a hk => ?_
       refine sm _ rfl hk rfl rfl rfl fun a hk => ?_
       refine sk hk rfl rfl rfl fun a hk => ?_
       refine sk hk rfl rfl rfl fun a hk => ?_
       refine sv (.bool false) hk rfl rfl rfl fun a hk => ?_
       refine sm _ rfl hk rfl rfl rfl fun a hk => ?_
       refine sk hk rfl rfl rfl fun a hk => ?_
       refine sk hk rfl rfl rfl fun a hk => ?_
       refine sk hk rfl rfl rfl fun a hk => ?_
       refine sk hk rfl rfl rfl fun a hk => ?_
       refine sk hk rfl rfl rfl fun a hk => ?_
       refine sv (.bool false) hk rfl rfl rfl fun a hk => ?_
       refine sa _ rfl hk rfl rfl rfl fun a hk => ?_
       show wpList _ _ _ [] _ _
       refine wpList_nil ?_
       obtain rfl := Option.some.inj H
       show R60 _ _
       rw [hR60]
       exact ⟨false, rfl, (hk.c 4 rfl hk.k), (hs.pick [] rfl)⟩
     ·have hk := hk.lit 89 c61 rfl
      refine sk hk rfl rfl rfl fun a hk => ?_
      refine sk hk rfl rfl rfl fun a hk => ?_
      refine sk hk rfl rfl rfl fun a hk => ?_
      refine sv (.bool false) hk rfl rfl rfl fun a hk => ?_
      refine sm _ rfl hk rfl rfl rfl fun a hk => ?_
      refine sk hk rfl rfl rfl fun a hk => ?_
      refine sk hk rfl rfl rfl fun a hk => ?_
      refine sk hk rfl rfl rfl fun a hk => ?_
      refine sv (.bool false) hk rfl rfl rfl fun a hk => ?_
      refine sm _ rfl hk rfl rfl rfl fun a hk => ?_
      refine sk hk rfl rfl rfl fun a hk => ?_
      refine sk hk rfl rfl rfl fun a hk => ?_
      refine sv (.bool false) hk rfl rfl rfl fun a hk => ?_
      refine sm _ rfl hk rfl rfl rfl fun a hk => ?_
      refine sk hk rfl rfl rfl fun a hk => ?_
      refine sk hk rfl rfl rfl fun a hk => ?_
      refine sv (.bool false) hk rfl rfl rfl fun a hk => ?_
      refine sm _ rfl hk rfl rfl rfl fun a hk => ?_
      refine sk hk rfl rfl rfl fun a hk => ?_
      refine sk hk rfl rfl rfl fun a hk => ?_
      refine sv (.bool false) hk rfl rfl rfl fun a hk => ?_
      refine sm _ rfl hk rfl rfl rfl fun a hk => ?_
      refine sk hk rfl rfl rfl fun a hk => ?_
      refine sk hk rfl rfl rfl fun a hk => ?_
      refine sv (.bool false) hk rfl rfl rfl fun a hk => ?_
      refine sm _ rfl hk rfl rfl rfl fun a hk => ?_
      refine sk hk rfl rfl rfl fun a hk => ?_
      refine sk hk rfl rfl rfl fun a hk => ?_
      refine sk hk rfl rfl rfl fun a hk => ?_
      refine sv (.bool false) hk rfl rfl rfl fun a hk => ?_
      refine sm _ rfl hk rfl rfl rfl fun a hk => ?_
      refine sk hk rfl rfl rfl fun a hk => ?_
      refine sk hk rfl rfl rfl fun a hk => ?_
      refine sv (.bool false) hk rfl rfl rfl fun a hk => ?_
      refine sm _ rfl hk rfl rfl rfl fun a hk => ?_
      refine sk hk rfl rfl rfl fun a hk => ?_
      refine sk hk rfl rfl rfl fun a hk => ?_
      refine sk hk rfl rfl rfl fun a hk => ?_
      refine sk hk rfl rfl rfl fun a hk => ?_
      refine sk hk rfl rfl rfl fun a hk => ?_
      refine sv (.bool false) hk rfl rfl rfl fun a hk => ?_
      refine sa _ rfl hk rfl rfl rfl fun a hk => ?_
      show wpList _ _ _ [] _ _
      refine wpList_nil ?_
      obtain rfl := Option.some.inj H
      show R60 _ _
      rw [hR60]
      exact ⟨false, rfl, (hk.c 4 rfl hk.k), (hs.pick [] rfl)⟩
    ·intro a w hR0
     rw [hR60] at hR0
     obtain ⟨u56, rfl, hk, hs⟩ := hR0
     have H := HL59
     try dsimp only at H
     refine hK54 _ _ ?_
     refine wp_ret ?_
     obtain rfl := Option.some.inj H
     exact fin hk _ [(.bool u56)] rfl ⟨rfl, trivial⟩ ⟨rfl, (hs.pick [] rfl).dnil⟩

end Go.Proofs.Yteklgnhfgdhdiaa
