/- Further functions. -/
import Derived.Test.YteklgnhfgdhdiaaGFBoxn1
namespace Go.Proofs.Yteklgnhfgdhdiaa
open Go Go.Z Go.Proofs Go.MuLone Go.ChangeShapes Go.WideShapes Go.ChangeAt Go.RowKit
set_option linter.unusedVariables false
set_option linter.unusedSimpArgs false
noncomputable def spec_l03Parts.s0 (x0 : ByteArray) (u18 : List Int) (u22 : Int) : Option (((List Int) × Int) ⊕ Ex ((List Int)) ((List Int))) :=
  (bif (decide (u22 < 17)) then (if 0 ≤ u22 ∧ u22 < (x0.size : Int) then (if 0 ≤ (IntKind.wrap .i64 (Int.tdiv (w64 (8 * u22)) 26)) ∧ (IntKind.wrap .i64 (Int.tdiv (w64 (8 * u22)) 26)) < (5 : Int) then (if 0 ≤ (Int.tmod (w64 (8 * u22)) 26) then (if 0 ≤ (IntKind.wrap .i64 (Int.tdiv (w64 (8 * u22)) 26)) ∧ (IntKind.wrap .i64 (Int.tdiv (w64 (8 * u22)) 26)) < (5 : Int) then (((bif (decide ((Int.tmod (w64 (8 * u22)) 26) > 18)) then (some (decide ((IntKind.wrap .i64 (Int.tdiv (w64 (8 * u22)) 26)) < 4))) else (some false)) : Option (Bool)).bind fun u57 => (((bif u57 then (if 0 ≤ (w64 ((IntKind.wrap .i64 (Int.tdiv (w64 (8 * u22)) 26)) + 1)) ∧ (w64 ((IntKind.wrap .i64 (Int.tdiv (w64 (8 * u22)) 26)) + 1)) < (5 : Int) then (if 0 ≤ (w64 (26 - (Int.tmod (w64 (8 * u22)) 26))) then (if 0 ≤ (w64 ((IntKind.wrap .i64 (Int.tdiv (w64 (8 * u22)) 26)) + 1)) ∧ (w64 ((IntKind.wrap .i64 (Int.tdiv (w64 (8 * u22)) 26)) + 1)) < (5 : Int) then (some ((u18.set (IntKind.wrap .i64 (Int.tdiv (w64 (8 * u22)) 26)).toNat (w64 ((u18.getD (IntKind.wrap .i64 (Int.tdiv (w64 (8 * u22)) 26)).toNat 0) + (IntKind.wrap .i64 ((BitVec.ofInt 64 (IntKind.wrap .i64 ((IntKind.wrap .i64 (byteAt x0 u22)) * 2 ^ min (Int.tmod (w64 (8 * u22)) 26).toNat 64)) &&& BitVec.ofInt 64 67108863).toNat : Int))))).set (w64 ((IntKind.wrap .i64 (Int.tdiv (w64 (8 * u22)) 26)) + 1)).toNat (w64 (((u18.set (IntKind.wrap .i64 (Int.tdiv (w64 (8 * u22)) 26)).toNat (w64 ((u18.getD (IntKind.wrap .i64 (Int.tdiv (w64 (8 * u22)) 26)).toNat 0) + (IntKind.wrap .i64 ((BitVec.ofInt 64 (IntKind.wrap .i64 ((IntKind.wrap .i64 (byteAt x0 u22)) * 2 ^ min (Int.tmod (w64 (8 * u22)) 26).toNat 64)) &&& BitVec.ofInt 64 67108863).toNat : Int))))).getD (w64 ((IntKind.wrap .i64 (Int.tdiv (w64 (8 * u22)) 26)) + 1)).toNat 0) + (Int.fdiv (IntKind.wrap .i64 (byteAt x0 u22)) (2 ^ min (w64 (26 - (Int.tmod (w64 (8 * u22)) 26))).toNat 64)))))) else none) else none) else none) else (some (u18.set (IntKind.wrap .i64 (Int.tdiv (w64 (8 * u22)) 26)).toNat (w64 ((u18.getD (IntKind.wrap .i64 (Int.tdiv (w64 (8 * u22)) 26)).toNat 0) + (IntKind.wrap .i64 ((BitVec.ofInt 64 (IntKind.wrap .i64 ((IntKind.wrap .i64 (byteAt x0 u22)) * 2 ^ min (Int.tmod (w64 (8 * u22)) 26).toNat 64)) &&& BitVec.ofInt 64 67108863).toNat : Int))))))) : Option ((List Int))).bind fun u64 => (some (.inl (u64, (w64 (u22 + 1))))))) else none) else none) else none) else none) else (some (.inr (.out u18))))
noncomputable def spec_l03Parts.f (x0 : ByteArray) : Option ((List Int)) :=
  ((loopO (fun s => spec_l03Parts.s0 x0 s.1 s.2) ((List.replicate 5 (0 : Int)), 0)).bind fun o => match o with | .out u23 => (some u23) | .ret r => (some r))
set_option maxRecDepth 100000 in
set_option maxHeartbeats 0 in
theorem spec_l03Parts_t (w0 : World) (x0 : ByteArray) (r : (List Int)) (H : spec_l03Parts.f x0 = some r) :
    Calls Try.prog 102 #[.string x0] w0 (Ret (fun v w => v = aggI .i64 r ∧ r.length = 5 ∧ Sat [] w0 w [] [])) := by
  have hs : Sat [] w0 w0 [] [] := Sat.init w0 [] [] (by simp) (by simp) List.nodup_nil (by simp [blks])
  unfold spec_l03Parts.f at H
  refine enter Try.func102 rfl Try.ntmps102 rfl fun a hk => ?_
  apply wp_seq_k; intro K1 hK1
  apply wp_region_lit
  refine sala 1 ((Lay.int .i64)) (m := 5) (z := 0) (zc := [.int .i64 0]) hs rfl hk rfl rfl ze103 (by exact ⟨rfl, rfl⟩) rfl rfl rfl fun b2 k3 w a hk o4 hs => ?_
  have lh5 : (List.replicate 5 (0 : Int)).length = 5 := List.length_replicate
  show wpList _ _ _ [] _ _
  refine wpList_nil ?_
  refine hK1 _ _ ?_
  apply wp_seq_k; intro K6 hK6
  apply wp_region_lit
  refine sbd (pv := []) rfl hk rfl rfl rfl bd103_11 fun a hk => ?_
  have lh7 : (List.replicate 5 (0 : Int)).length = 5 := List.length_replicate
  refine sala 2 ((Lay.int .i64)) (m := 5) (z := 0) (zc := [.int .i64 0]) hs rfl hk rfl rfl ze103 (by exact ⟨rfl, rfl⟩) rfl rfl rfl fun b8 k9 w a hk o10 hs => ?_
  have lh11 : (List.replicate 5 (0 : Int)).length = 5 := List.length_replicate
  refine sswa 2 (List.replicate 5 (0 : Int)) hs rfl o10 lh11 lh7 rfl rfl hk rfl rfl rfl rfl sz103 fun k12 w a hk o13 hs => ?_
  show wpList _ _ _ [] _ _
  refine wpList_nil ?_
  refine hK6 _ _ ?_
  apply wp_seq_k; intro K14 hK14
  apply wp_seq_k; intro K15 hK15
  apply wp_region_lit
  refine sa _ rfl hk rfl rfl rfl fun a hk => ?_
  show wpList _ _ _ [] _ _
  refine wpList_nil ?_
  refine hK15 _ _ ?_
  obtain ⟨o27, h28, HL29⟩ := bind_some H
  clear H
  obtain ⟨R30, hR30⟩ : ∃ R : Act → World → Prop, R = fun a w => ∃ (u23 : List Int) (k24 : Chunk), o27 = .out u23 ∧ Kn [(2, (.pointer (some ⟨b2, 0, none⟩))), (3, (.pointer (some ⟨b8, 0, none⟩)))] 50 a ∧ Sat [] w0 w [] [(1, k3), (2, k24)] ∧ Own (Lay.int .i64) 103 (some ⟨b8, 0, none⟩) 5 u23 k24 ∧ u23.length = 5 := ⟨_, rfl⟩
  refine wp_cutq R30 ?_ ?_
  ·refine wp_block ?_
   obtain ⟨fu32, h28⟩ := loopO_some h28
   obtain ⟨I31, hI31⟩ : ∃ I : Nat → Act → World → Prop, I = fun fu a w => ∃ (u18 : List Int) (u22 : Int) (k19 : Chunk), loopN (fun s => spec_l03Parts.s0 x0 s.1 s.2) fu (u18, u22) = some o27 ∧ Kn [(0, (.string x0)), (2, (.pointer (some ⟨b2, 0, none⟩))), (3, (.pointer (some ⟨b8, 0, none⟩))), (4, (.int .i64 u22))] 50 a ∧ Sat [] w0 w [] [(1, k3), (2, k19)] ∧ Own (Lay.int .i64) 103 (some ⟨b8, 0, none⟩) 5 u18 k19 ∧ u18.length = 5 := ⟨_, rfl⟩
   refine wp_loop_ghost I31 fu32 ?_ ?_
   ·rw [hI31]
    exact ⟨(List.replicate 5 (0 : Int)), 0, _, h28, (hk.c 0 rfl (hk.c 2 rfl (hk.c 3 rfl (hk.c 4 rfl hk.k)))), (hs.pick [(1, 1), (2, 2)] rfl), o13, lh7⟩
   ·clear h28 hk hs
    intro fu32 a w hI0
    rw [hI31] at hI0
    obtain ⟨u18, u22, k19, hi, hk, hs, o20, lh21⟩ := hI0
    obtain ⟨x33, H, h34⟩ := loop_round hi
    try dsimp only at H
    unfold spec_l03Parts.s0 at H
    apply wp_seq_k; intro K35 hK35
    apply wp_seq_k; intro K36 hK36
    apply wp_region_lit
    refine sm _ rfl hk rfl rfl rfl fun a hk => ?_
    refine sv (.bool (decide (u22 < 17))) hk rfl rfl rfl fun a hk => ?_
    show wpList _ _ _ [] _ _
    refine wpList_nil ?_
    refine hK36 _ _ ?_
    have hs := hs.pick [(1, 1), (2, 2)] rfl
    rcases cond_some H with ⟨c37, H⟩ | ⟨c37, H⟩
    ·have hk := hk.lit 9 c37 rfl
     refine cnd_true hk rfl rfl ?_
     refine wp_skip ?_
     refine hK35 _ _ ?_
     apply wp_seq_k; intro K38 hK38
     refine wp_block ?_
     apply wp_seq_k; intro K39 hK39
     apply wp_region_lit
     refine sm _ rfl hk rfl rfl rfl fun a hk => ?_
     refine sv (.int .i64 (w64 (8 * u22))) hk rfl rfl rfl fun a hk => ?_
     refine sa _ rfl hk rfl rfl rfl fun a hk => ?_
     show wpList _ _ _ [] _ _
     refine wpList_nil ?_
     refine hK39 _ _ ?_
     apply wp_seq_k; intro K40 hK40
     apply wp_region_lit
     refine sm _ rfl hk rfl rfl rfl fun a hk => ?_
     refine sm _ rfl hk rfl rfl rfl fun a hk => ?_
     rcases ite_some H with ⟨c41, H⟩ | ⟨_, H⟩
     rotate_left
     ·cases H
     refine six rfl hk rfl rfl rfl rfl un9 c41.1 c41.2 fun a hk => ?_
     refine scn rfl hk rfl rfl rfl un3 un5 fun a hk => ?_
     refine sa _ rfl hk rfl rfl rfl fun a hk => ?_
     show wpList _ _ _ [] _ _
     refine wpList_nil ?_
     refine hK40 _ _ ?_
     apply wp_seq_k; intro K42 hK42
     refine wp_region_tree (.q 0 (.q 1 (.q 2 (.q 3 (.q 4 (.alt 5 (.alt 6 (.alt 7 (.alt 8 (.alt 9 (.alt 10 (.last 11) .stop) .stop) .stop) .stop) .stop) .stop)))))) mo (by kernel_rfl) (hs.pick [(1, 1), (2, 2)] rfl) fun _ => ?_
     have hs := hs.drew
     refine tqst (.int .i64 (w64 (8 * u22))) hk rfl rfl rfl rfl (fun w hs => sm _ rfl hk rfl rfl rfl fun a hk => qe hk) fun a hk => ?_
     refine tqst (.int .i64 (IntKind.wrap .i64 (Int.tdiv (w64 (8 * u22)) 26))) hk rfl rfl rfl rfl (fun w hs => sv (.int .i64 (IntKind.wrap .i64 (Int.tdiv (w64 (8 * u22)) 26))) hk rfl rfl rfl fun a hk => qe hk) fun a hk => ?_
     rcases ite_some H with ⟨c44, H⟩ | ⟨_, H⟩
     rotate_left
     ·cases H
     obtain ⟨b45, q46, hAc44⟩ := (o20.view).some_ (IntKind.wrap .i64 (Int.tdiv (w64 (8 * u22)) 26)) c44.1 (by rw [lh21]; exact c44.2)
     refine tqst (.pointer (some (padd (some ⟨b8, 0, none⟩) ((IntKind.wrap .i64 (Int.tdiv (w64 (8 * u22)) 26)).toNat * 1)))) hk rfl rfl rfl rfl (fun w hs => sia rfl hk rfl rfl rfl rfl un103 sz3 c44.1 c44.2 hAc44 fun a hk => qe hk) fun a hk => ?_
     obtain ⟨_, rfl, e47⟩ := (o20.view).at_ 0 (IntKind.wrap .i64 (Int.tdiv (w64 (8 * u22)) 26)) c44.1 (by rw [lh21]; exact c44.2)
     refine tqst (.int .i64 (u18.getD (IntKind.wrap .i64 (Int.tdiv (w64 (8 * u22)) 26)).toNat 0)) hk rfl rfl rfl rfl (fun w hs => sl (v := (.int .i64 (u18.getD (IntKind.wrap .i64 (Int.tdiv (w64 (8 * u22)) 26)).toNat 0))) rfl hk rfl rfl rfl ag3 ((e47 0 _ rfl).cell (hs.hasG (k := 2) rfl)) fun a hk => qe hk) fun a hk => ?_
     refine tqst (.int .i64 (IntKind.wrap .i64 (byteAt x0 u22))) hk rfl rfl rfl rfl (fun w hs => sm _ rfl hk rfl rfl rfl fun a hk => qe hk) fun a hk => ?_
     refine tsst hk rfl rfl (fun K_r43_5 hK_r43_5 w hF => ?_) wt_stop
     have hs := hs.f hF
     refine sm _ rfl hk rfl rfl rfl fun a hk => ?_
     refine se (hs.pick [(1, 1), (2, 2)] rfl) hk (hK_r43_5 _ _ ?_)
     refine tsst hk rfl rfl (fun K_r43_6 hK_r43_6 w hF => ?_) wt_stop
     have hs := hs.f hF
     refine sv (.int .i64 (Int.tmod (w64 (8 * u22)) 26)) hk rfl rfl rfl fun a hk => ?_
     refine se (hs.pick [(1, 1), (2, 2)] rfl) hk (hK_r43_6 _ _ ?_)
     refine tsst hk rfl rfl (fun K_r43_7 hK_r43_7 w hF => ?_) wt_stop
     have hs := hs.f hF
     rcases ite_some H with ⟨c48, H⟩ | ⟨_, H⟩
     rotate_left
     ·cases H
     refine ssh rfl hk rfl rfl rfl rfl c48 fun a hk => ?_
     refine se (hs.pick [(1, 1), (2, 2)] rfl) hk (hK_r43_7 _ _ ?_)
     refine tsst hk rfl rfl (fun K_r43_8 hK_r43_8 w hF => ?_) wt_stop
     have hs := hs.f hF
     refine sv (.int .i64 (IntKind.wrap .i64 ((BitVec.ofInt 64 (IntKind.wrap .i64 ((IntKind.wrap .i64 (byteAt x0 u22)) * 2 ^ min (Int.tmod (w64 (8 * u22)) 26).toNat 64)) &&& BitVec.ofInt 64 67108863).toNat : Int))) hk rfl rfl rfl fun a hk => ?_
     refine se (hs.pick [(1, 1), (2, 2)] rfl) hk (hK_r43_8 _ _ ?_)
     refine tsst hk rfl rfl (fun K_r43_9 hK_r43_9 w hF => ?_) wt_stop
     have hs := hs.f hF
     refine sv (.int .i64 (w64 ((u18.getD (IntKind.wrap .i64 (Int.tdiv (w64 (8 * u22)) 26)).toNat 0) + (IntKind.wrap .i64 ((BitVec.ofInt 64 (IntKind.wrap .i64 ((IntKind.wrap .i64 (byteAt x0 u22)) * 2 ^ min (Int.tmod (w64 (8 * u22)) 26).toNat 64)) &&& BitVec.ofInt 64 67108863).toNat : Int))))) hk rfl rfl rfl fun a hk => ?_
     refine se (hs.pick [(1, 1), (2, 2)] rfl) hk (hK_r43_9 _ _ ?_)
     refine tsst hk rfl rfl (fun K_r43_10 hK_r43_10 w hF => ?_) wt_stop
     have hs := hs.f hF
     rcases ite_some H with ⟨c49, H⟩ | ⟨_, H⟩
     rotate_left
     ·cases H
     obtain ⟨b50, q51, hAc49⟩ := (o20.view).some_ (IntKind.wrap .i64 (Int.tdiv (w64 (8 * u22)) 26)) c49.1 (by rw [lh21]; exact c49.2)
     refine sia rfl hk rfl rfl rfl rfl un103 sz3 c49.1 c49.2 hAc49 fun a hk => ?_
     refine se (hs.pick [(1, 1), (2, 2)] rfl) hk (hK_r43_10 _ _ ?_)
     refine tlst hk rfl rfl fun K_r43_11 hK_r43_11 w hF => ?_
     have hs := hs.f hF
     refine so (j := 0) 2 0 (w64 ((u18.getD (IntKind.wrap .i64 (Int.tdiv (w64 (8 * u22)) 26)).toNat 0) + (IntKind.wrap .i64 ((BitVec.ofInt 64 (IntKind.wrap .i64 ((IntKind.wrap .i64 (byteAt x0 u22)) * 2 ^ min (Int.tmod (w64 (8 * u22)) 26).toNat 64)) &&& BitVec.ofInt 64 67108863).toNat : Int)))) hs rfl o20 c49.1 (by rw [lh21]; exact c49.2) rfl hk rfl rfl rfl rfl rfl sz3 (by simp [Value.cells, Value.oneCell']) (Nat.le_of_ble_eq_true rfl) (fun _ _ h => ⟨by rw [h.1]; rfl, h.2⟩) fun k52 w a hk o53 hs => ?_
     have lh54 : (u18.set (IntKind.wrap .i64 (Int.tdiv (w64 (8 * u22)) 26)).toNat (w64 ((u18.getD (IntKind.wrap .i64 (Int.tdiv (w64 (8 * u22)) 26)).toNat 0) + (IntKind.wrap .i64 ((BitVec.ofInt 64 (IntKind.wrap .i64 ((IntKind.wrap .i64 (byteAt x0 u22)) * 2 ^ min (Int.tmod (w64 (8 * u22)) 26).toNat 64)) &&& BitVec.ofInt 64 67108863).toNat : Int))))).length = 5 := by rw [List.length_set]; exact lh21
     refine se trivial hk (hK_r43_11 _ _ fun w hF => ?_)
     have hs := hs.f hF
     refine hK42 _ _ ?_
     have hs := hs.pick [(1, 1), (2, 2)] rfl
     apply wp_seq_k; intro K55 hK55
     obtain ⟨o58, h59, HL60⟩ := bind_some H
     clear H
     obtain ⟨R61, hR61⟩ : ∃ R : Act → World → Prop, R = fun a w => ∃ (u57 : Bool), u57 = o58 ∧ Kn [(0, (.string x0)), (2, (.pointer (some ⟨b2, 0, none⟩))), (3, (.pointer (some ⟨b8, 0, none⟩))), (4, (.int .i64 u22)), (5, (.int .i64 (w64 (8 * u22)))), (6, (.int .i64 (IntKind.wrap .i64 (byteAt x0 u22)))), (36, (.bool u57))] 50 a ∧ Sat [] w0 w [] [(1, k3), (2, k52)] := ⟨_, rfl⟩
     refine wp_cutq R61 ?_ ?_
     ·have H := h59
      apply wp_region_lit
      refine sm _ rfl hk rfl rfl rfl fun a hk => ?_
      refine sv (.int .i64 (Int.tmod (w64 (8 * u22)) 26)) hk rfl rfl rfl fun a hk => ?_
      refine sv (.bool (decide ((Int.tmod (w64 (8 * u22)) 26) > 18))) hk rfl rfl rfl fun a hk => ?_
      refine sm _ rfl hk rfl rfl rfl fun a hk => ?_
      rcases cond_some H with ⟨c62, H⟩ | ⟨c62, H⟩
      ·have hk := hk.lit 32 c62 rfl
       refine sm _ rfl hk rfl rfl rfl fun a hk => ?_
       refine sv (.int .i64 (IntKind.wrap .i64 (Int.tdiv (w64 (8 * u22)) 26))) hk rfl rfl rfl fun a hk => ?_
       refine sv (.bool (decide ((IntKind.wrap .i64 (Int.tdiv (w64 (8 * u22)) 26)) < 4))) hk rfl rfl rfl fun a hk => ?_
       refine sv (.bool (decide ((IntKind.wrap .i64 (Int.tdiv (w64 (8 * u22)) 26)) < 4))) hk rfl rfl rfl fun a hk => ?_
       show wpList _ _ _ [] _ _
       refine wpList_nil ?_
       obtain rfl := Option.some.inj H
       show R61 _ _
       rw [hR61]
       exact ⟨(decide ((IntKind.wrap .i64 (Int.tdiv (w64 (8 * u22)) 26)) < 4)), rfl, (hk.c 0 rfl (hk.c 2 rfl (hk.c 3 rfl (hk.c 4 rfl (hk.c 5 rfl (hk.c 6 rfl (hk.c 36 rfl hk.k))))))), (hs.pick [(1, 1), (2, 2)] rfl)⟩
      ·have hk := hk.lit 32 c62 rfl
       refine sk hk rfl rfl rfl fun a hk => ?_
       refine sk hk rfl rfl rfl fun a hk => ?_
       refine sk hk rfl rfl rfl fun a hk => ?_
       refine sv (.bool false) hk rfl rfl rfl fun a hk => ?_
       show wpList _ _ _ [] _ _
       refine wpList_nil ?_
       obtain rfl := Option.some.inj H
       show R61 _ _
       rw [hR61]
       exact ⟨false, rfl, (hk.c 0 rfl (hk.c 2 rfl (hk.c 3 rfl (hk.c 4 rfl (hk.c 5 rfl (hk.c 6 rfl (hk.c 36 rfl hk.k))))))), (hs.pick [(1, 1), (2, 2)] rfl)⟩
     ·intro a w hR0
      rw [hR61] at hR0
      obtain ⟨u57, rfl, hk, hs⟩ := hR0
      have H := HL60
      try dsimp only at H
      refine hK55 _ _ ?_
      obtain ⟨o68, h69, HL70⟩ := bind_some H
      clear H
      obtain ⟨R71, hR71⟩ : ∃ R : Act → World → Prop, R = fun a w => ∃ (u64 : List Int) (k65 : Chunk), u64 = o68 ∧ Kn [(0, (.string x0)), (2, (.pointer (some ⟨b2, 0, none⟩))), (3, (.pointer (some ⟨b8, 0, none⟩))), (4, (.int .i64 u22))] 50 a ∧ Sat [] w0 w [] [(1, k3), (2, k65)] ∧ Own (Lay.int .i64) 103 (some ⟨b8, 0, none⟩) 5 u64 k65 ∧ u64.length = 5 := ⟨_, rfl⟩
      refine wp_cutq R71 ?_ ?_
      ·have H := h69
       rcases cond_some H with ⟨c72, H⟩ | ⟨c72, H⟩
       ·have hk := hk.lit 36 c72 rfl
        refine cnd_true hk rfl rfl ?_
        refine wp_region_tree (.q 0 (.q 1 (.q 2 (.q 3 (.q 4 (.q 5 (.alt 6 (.alt 7 (.alt 8 (.alt 9 (.alt 10 (.alt 11 (.last 12) .stop) .stop) .stop) .stop) .stop) .stop))))))) mo (by kernel_rfl) (hs.pick [(1, 1), (2, 2)] rfl) fun _ => ?_
        have hs := hs.drew
        refine tqst (.int .i64 (w64 (8 * u22))) hk rfl rfl rfl rfl (fun w hs => sm _ rfl hk rfl rfl rfl fun a hk => qe hk) fun a hk => ?_
        refine tqst (.int .i64 (IntKind.wrap .i64 (Int.tdiv (w64 (8 * u22)) 26))) hk rfl rfl rfl rfl (fun w hs => sv (.int .i64 (IntKind.wrap .i64 (Int.tdiv (w64 (8 * u22)) 26))) hk rfl rfl rfl fun a hk => qe hk) fun a hk => ?_
        refine tqst (.int .i64 (w64 ((IntKind.wrap .i64 (Int.tdiv (w64 (8 * u22)) 26)) + 1))) hk rfl rfl rfl rfl (fun w hs => sv (.int .i64 (w64 ((IntKind.wrap .i64 (Int.tdiv (w64 (8 * u22)) 26)) + 1))) hk rfl rfl rfl fun a hk => qe hk) fun a hk => ?_
        rcases ite_some H with ⟨c74, H⟩ | ⟨_, H⟩
        rotate_left
        ·cases H
        obtain ⟨b75, q76, hAc74⟩ := (o53.view).some_ (w64 ((IntKind.wrap .i64 (Int.tdiv (w64 (8 * u22)) 26)) + 1)) c74.1 (by rw [lh54]; exact c74.2)
        refine tqst (.pointer (some (padd (some ⟨b8, 0, none⟩) ((w64 ((IntKind.wrap .i64 (Int.tdiv (w64 (8 * u22)) 26)) + 1)).toNat * 1)))) hk rfl rfl rfl rfl (fun w hs => sia rfl hk rfl rfl rfl rfl un103 sz3 c74.1 c74.2 hAc74 fun a hk => qe hk) fun a hk => ?_
        obtain ⟨_, rfl, e77⟩ := (o53.view).at_ 0 (w64 ((IntKind.wrap .i64 (Int.tdiv (w64 (8 * u22)) 26)) + 1)) c74.1 (by rw [lh54]; exact c74.2)
        refine tqst (.int .i64 ((u18.set (IntKind.wrap .i64 (Int.tdiv (w64 (8 * u22)) 26)).toNat (w64 ((u18.getD (IntKind.wrap .i64 (Int.tdiv (w64 (8 * u22)) 26)).toNat 0) + (IntKind.wrap .i64 ((BitVec.ofInt 64 (IntKind.wrap .i64 ((IntKind.wrap .i64 (byteAt x0 u22)) * 2 ^ min (Int.tmod (w64 (8 * u22)) 26).toNat 64)) &&& BitVec.ofInt 64 67108863).toNat : Int))))).getD (w64 ((IntKind.wrap .i64 (Int.tdiv (w64 (8 * u22)) 26)) + 1)).toNat 0)) hk rfl rfl rfl rfl (fun w hs => sl (v := (.int .i64 ((u18.set (IntKind.wrap .i64 (Int.tdiv (w64 (8 * u22)) 26)).toNat (w64 ((u18.getD (IntKind.wrap .i64 (Int.tdiv (w64 (8 * u22)) 26)).toNat 0) + (IntKind.wrap .i64 ((BitVec.ofInt 64 (IntKind.wrap .i64 ((IntKind.wrap .i64 (byteAt x0 u22)) * 2 ^ min (Int.tmod (w64 (8 * u22)) 26).toNat 64)) &&& BitVec.ofInt 64 67108863).toNat : Int))))).getD (w64 ((IntKind.wrap .i64 (Int.tdiv (w64 (8 * u22)) 26)) + 1)).toNat 0))) rfl hk rfl rfl rfl ag3 ((e77 0 _ rfl).cell (hs.hasG (k := 2) rfl)) fun a hk => qe hk) fun a hk => ?_
        refine tqst (.int .i64 (IntKind.wrap .i64 (byteAt x0 u22))) hk rfl rfl rfl rfl (fun w hs => sm _ rfl hk rfl rfl rfl fun a hk => qe hk) fun a hk => ?_
        refine tsst hk rfl rfl (fun K_r73_6 hK_r73_6 w hF => ?_) wt_stop
        have hs := hs.f hF
        refine sm _ rfl hk rfl rfl rfl fun a hk => ?_
        refine se (hs.pick [(1, 1), (2, 2)] rfl) hk (hK_r73_6 _ _ ?_)
        refine tsst hk rfl rfl (fun K_r73_7 hK_r73_7 w hF => ?_) wt_stop
        have hs := hs.f hF
        refine sv (.int .i64 (Int.tmod (w64 (8 * u22)) 26)) hk rfl rfl rfl fun a hk => ?_
        refine se (hs.pick [(1, 1), (2, 2)] rfl) hk (hK_r73_7 _ _ ?_)
        refine tsst hk rfl rfl (fun K_r73_8 hK_r73_8 w hF => ?_) wt_stop
        have hs := hs.f hF
        refine sv (.int .i64 (w64 (26 - (Int.tmod (w64 (8 * u22)) 26)))) hk rfl rfl rfl fun a hk => ?_
        refine se (hs.pick [(1, 1), (2, 2)] rfl) hk (hK_r73_8 _ _ ?_)
        refine tsst hk rfl rfl (fun K_r73_9 hK_r73_9 w hF => ?_) wt_stop
        have hs := hs.f hF
        rcases ite_some H with ⟨c78, H⟩ | ⟨_, H⟩
        rotate_left
        ·cases H
        refine ssr rfl hk rfl rfl rfl rfl c78 fun a hk => ?_
        refine se (hs.pick [(1, 1), (2, 2)] rfl) hk (hK_r73_9 _ _ ?_)
        refine tsst hk rfl rfl (fun K_r73_10 hK_r73_10 w hF => ?_) wt_stop
        have hs := hs.f hF
        refine sv (.int .i64 (w64 (((u18.set (IntKind.wrap .i64 (Int.tdiv (w64 (8 * u22)) 26)).toNat (w64 ((u18.getD (IntKind.wrap .i64 (Int.tdiv (w64 (8 * u22)) 26)).toNat 0) + (IntKind.wrap .i64 ((BitVec.ofInt 64 (IntKind.wrap .i64 ((IntKind.wrap .i64 (byteAt x0 u22)) * 2 ^ min (Int.tmod (w64 (8 * u22)) 26).toNat 64)) &&& BitVec.ofInt 64 67108863).toNat : Int))))).getD (w64 ((IntKind.wrap .i64 (Int.tdiv (w64 (8 * u22)) 26)) + 1)).toNat 0) + (Int.fdiv (IntKind.wrap .i64 (byteAt x0 u22)) (2 ^ min (w64 (26 - (Int.tmod (w64 (8 * u22)) 26))).toNat 64))))) hk rfl rfl rfl fun a hk => ?_
        refine se (hs.pick [(1, 1), (2, 2)] rfl) hk (hK_r73_10 _ _ ?_)
        refine tsst hk rfl rfl (fun K_r73_11 hK_r73_11 w hF => ?_) wt_stop
        have hs := hs.f hF
        rcases ite_some H with ⟨c79, H⟩ | ⟨_, H⟩
        rotate_left
        ·cases H
        obtain ⟨b80, q81, hAc79⟩ := (o53.view).some_ (w64 ((IntKind.wrap .i64 (Int.tdiv (w64 (8 * u22)) 26)) + 1)) c79.1 (by rw [lh54]; exact c79.2)
        refine sia rfl hk rfl rfl rfl rfl un103 sz3 c79.1 c79.2 hAc79 fun a hk => ?_
        refine se (hs.pick [(1, 1), (2, 2)] rfl) hk (hK_r73_11 _ _ ?_)
        refine tlst hk rfl rfl fun K_r73_12 hK_r73_12 w hF => ?_
        have hs := hs.f hF
        refine so (j := 0) 2 0 (w64 (((u18.set (IntKind.wrap .i64 (Int.tdiv (w64 (8 * u22)) 26)).toNat (w64 ((u18.getD (IntKind.wrap .i64 (Int.tdiv (w64 (8 * u22)) 26)).toNat 0) + (IntKind.wrap .i64 ((BitVec.ofInt 64 (IntKind.wrap .i64 ((IntKind.wrap .i64 (byteAt x0 u22)) * 2 ^ min (Int.tmod (w64 (8 * u22)) 26).toNat 64)) &&& BitVec.ofInt 64 67108863).toNat : Int))))).getD (w64 ((IntKind.wrap .i64 (Int.tdiv (w64 (8 * u22)) 26)) + 1)).toNat 0) + (Int.fdiv (IntKind.wrap .i64 (byteAt x0 u22)) (2 ^ min (w64 (26 - (Int.tmod (w64 (8 * u22)) 26))).toNat 64)))) hs rfl o53 c79.1 (by rw [lh54]; exact c79.2) rfl hk rfl rfl rfl rfl rfl sz3 (by simp [Value.cells, Value.oneCell']) (Nat.le_of_ble_eq_true rfl) (fun _ _ h => ⟨by rw [h.1]; rfl, h.2⟩) fun k82 w a hk o83 hs => ?_
        have lh84 : ((u18.set (IntKind.wrap .i64 (Int.tdiv (w64 (8 * u22)) 26)).toNat (w64 ((u18.getD (IntKind.wrap .i64 (Int.tdiv (w64 (8 * u22)) 26)).toNat 0) + (IntKind.wrap .i64 ((BitVec.ofInt 64 (IntKind.wrap .i64 ((IntKind.wrap .i64 (byteAt x0 u22)) * 2 ^ min (Int.tmod (w64 (8 * u22)) 26).toNat 64)) &&& BitVec.ofInt 64 67108863).toNat : Int))))).set (w64 ((IntKind.wrap .i64 (Int.tdiv (w64 (8 * u22)) 26)) + 1)).toNat (w64 (((u18.set (IntKind.wrap .i64 (Int.tdiv (w64 (8 * u22)) 26)).toNat (w64 ((u18.getD (IntKind.wrap .i64 (Int.tdiv (w64 (8 * u22)) 26)).toNat 0) + (IntKind.wrap .i64 ((BitVec.ofInt 64 (IntKind.wrap .i64 ((IntKind.wrap .i64 (byteAt x0 u22)) * 2 ^ min (Int.tmod (w64 (8 * u22)) 26).toNat 64)) &&& BitVec.ofInt 64 67108863).toNat : Int))))).getD (w64 ((IntKind.wrap .i64 (Int.tdiv (w64 (8 * u22)) 26)) + 1)).toNat 0) + (Int.fdiv (IntKind.wrap .i64 (byteAt x0 u22)) (2 ^ min (w64 (26 - (Int.tmod (w64 (8 * u22)) 26))).toNat 64))))).length = 5 := by rw [List.length_set]; exact lh54
        refine se trivial hk (hK_r73_12 _ _ fun w hF => ?_)
        have hs := hs.f hF
        obtain rfl := Option.some.inj H
        show R71 _ _
        rw [hR71]
        exact ⟨((u18.set (IntKind.wrap .i64 (Int.tdiv (w64 (8 * u22)) 26)).toNat (w64 ((u18.getD (IntKind.wrap .i64 (Int.tdiv (w64 (8 * u22)) 26)).toNat 0) + (IntKind.wrap .i64 ((BitVec.ofInt 64 (IntKind.wrap .i64 ((IntKind.wrap .i64 (byteAt x0 u22)) * 2 ^ min (Int.tmod (w64 (8 * u22)) 26).toNat 64)) &&& BitVec.ofInt 64 67108863).toNat : Int))))).set (w64 ((IntKind.wrap .i64 (Int.tdiv (w64 (8 * u22)) 26)) + 1)).toNat (w64 (((u18.set (IntKind.wrap .i64 (Int.tdiv (w64 (8 * u22)) 26)).toNat (w64 ((u18.getD (IntKind.wrap .i64 (Int.tdiv (w64 (8 * u22)) 26)).toNat 0) + (IntKind.wrap .i64 ((BitVec.ofInt 64 (IntKind.wrap .i64 ((IntKind.wrap .i64 (byteAt x0 u22)) * 2 ^ min (Int.tmod (w64 (8 * u22)) 26).toNat 64)) &&& BitVec.ofInt 64 67108863).toNat : Int))))).getD (w64 ((IntKind.wrap .i64 (Int.tdiv (w64 (8 * u22)) 26)) + 1)).toNat 0) + (Int.fdiv (IntKind.wrap .i64 (byteAt x0 u22)) (2 ^ min (w64 (26 - (Int.tmod (w64 (8 * u22)) 26))).toNat 64))))), _, rfl, (hk.c 0 rfl (hk.c 2 rfl (hk.c 3 rfl (hk.c 4 rfl hk.k)))), (hs.pick [(1, 1), (2, 2)] rfl), o83, lh84⟩
       ·have hk := hk.lit 36 c72 rfl
        refine cnd_false hk rfl rfl ?_
        refine wp_skip ?_
        obtain rfl := Option.some.inj H
        show R71 _ _
        rw [hR71]
        exact ⟨(u18.set (IntKind.wrap .i64 (Int.tdiv (w64 (8 * u22)) 26)).toNat (w64 ((u18.getD (IntKind.wrap .i64 (Int.tdiv (w64 (8 * u22)) 26)).toNat 0) + (IntKind.wrap .i64 ((BitVec.ofInt 64 (IntKind.wrap .i64 ((IntKind.wrap .i64 (byteAt x0 u22)) * 2 ^ min (Int.tmod (w64 (8 * u22)) 26).toNat 64)) &&& BitVec.ofInt 64 67108863).toNat : Int))))), _, rfl, (hk.c 0 rfl (hk.c 2 rfl (hk.c 3 rfl (hk.c 4 rfl hk.k)))), (hs.pick [(1, 1), (2, 2)] rfl), o53, lh54⟩
      ·intro a w hR0
       rw [hR71] at hR0
       obtain ⟨u64, k65, rfl, hk, hs, o66, lh67⟩ := hR0
       have H := HL70
       try dsimp only at H
       refine hK38 _ _ ?_
       apply wp_region_lit
       refine sm _ rfl hk rfl rfl rfl fun a hk => ?_
       refine sv (.int .i64 (w64 (u22 + 1))) hk rfl rfl rfl fun a hk => ?_
       refine sa _ rfl hk rfl rfl rfl fun a hk => ?_
       show wpList _ _ _ [] _ _
       refine wpList_nil ?_
       obtain rfl := Option.some.inj H
       obtain ⟨m85, hmm85, h34⟩ := h34
       show ∃ n', n' < _ ∧ I31 n' _ _
       refine ⟨m85, hmm85, ?_⟩
       rw [hI31]
       exact ⟨u64, (w64 (u22 + 1)), _, h34, (hk.c 0 rfl (hk.c 2 rfl (hk.c 3 rfl (hk.c 4 rfl hk.k)))), (hs.pick [(1, 1), (2, 2)] rfl), o66, lh67⟩
    ·have hk := hk.lit 9 c37 rfl
     refine cnd_false hk rfl rfl ?_
     refine wp_exit ?_
     obtain rfl := Option.some.inj H
     show R30 _ _
     rw [hR30]
     exact ⟨u18, _, h34.symm, (hk.c 2 rfl (hk.c 3 rfl hk.k)), (hs.pick [(1, 1), (2, 2)] rfl), o20, lh21⟩
  ·intro a w hR0
   rw [hR30] at hR0
   obtain ⟨u23, k24, rfl, hk, hs, o25, lh26⟩ := hR0
   have H := HL29
   try dsimp only at H
   refine hK14 _ _ ?_
   have hs := hs.pick [(1, 1), (2, 2)] rfl
   apply wp_seq_k; intro K86 hK86
   apply wp_region_lit
   refine slna (k := 2) hs rfl o25 lh26 rfl hk rfl rfl rfl ag103 sz103 fun a hk => ?_
   refine sswa 1 u23 hs rfl o4 lh5 lh26 rfl rfl hk rfl rfl rfl rfl sz103 fun k87 w a hk o88 hs => ?_
   show wpList _ _ _ [] _ _
   refine wpList_nil ?_
   refine hK86 _ _ ?_
   refine wp_ret ?_
   obtain rfl := Option.some.inj H
   exact fin hk _ [(aggI .i64 u23)] rfl ⟨⟨_, rfl, run_loadA ag103 sz103 o88 lh26 hs (q := 1) rfl⟩, trivial⟩ ⟨rfl, lh26, (hs.pick [] rfl).dnil⟩

noncomputable def spec_l03Carry.s1  (u38 : List Int) (u42 : Int) : Option (((List Int) × Int) ⊕ Ex ((List Int)) ((List Int))) :=
  (bif (decide (u42 < 4)) then (if 0 ≤ (w64 (u42 + 1)) ∧ (w64 (u42 + 1)) < (5 : Int) then (if 0 ≤ u42 ∧ u42 < (5 : Int) then (if 0 ≤ (w64 (u42 + 1)) ∧ (w64 (u42 + 1)) < (5 : Int) then (if 0 ≤ u42 ∧ u42 < (5 : Int) then (if 0 ≤ u42 ∧ u42 < (5 : Int) then (some (.inl (((u38.set (w64 (u42 + 1)).toNat (w64 ((u38.getD (w64 (u42 + 1)).toNat 0) + (Int.fdiv (u38.getD u42.toNat 0) (2 ^ 26))))).set u42.toNat (IntKind.wrap .i64 ((BitVec.ofInt 64 ((u38.set (w64 (u42 + 1)).toNat (w64 ((u38.getD (w64 (u42 + 1)).toNat 0) + (Int.fdiv (u38.getD u42.toNat 0) (2 ^ 26))))).getD u42.toNat 0) &&& BitVec.ofInt 64 67108863).toNat : Int))), (w64 (u42 + 1))))) else none) else none) else none) else none) else none) else (some (.inr (.out u38))))
noncomputable def spec_l03Carry.s0  (u13 : List Int) (u17 : Int) : Option (((List Int) × Int) ⊕ Ex ((List Int)) ((List Int))) :=
  (bif (decide (u17 < 3)) then ((loopO (fun s => spec_l03Carry.s1  s.1 s.2) (u13, 0)).bind fun o => match o with | .out u43 => (if 0 ≤ (0 : Int) ∧ (0 : Int) < (5 : Int) then (if 0 ≤ (4 : Int) ∧ (4 : Int) < (5 : Int) then (if 0 ≤ (0 : Int) ∧ (0 : Int) < (5 : Int) then (if 0 ≤ (4 : Int) ∧ (4 : Int) < (5 : Int) then (if 0 ≤ (4 : Int) ∧ (4 : Int) < (5 : Int) then (some (.inl (((u43.set (0 : Int).toNat (w64 ((u43.getD (0 : Int).toNat 0) + (w64 (5 * (Int.fdiv (u43.getD (4 : Int).toNat 0) (2 ^ 26))))))).set (4 : Int).toNat (IntKind.wrap .i64 ((BitVec.ofInt 64 ((u43.set (0 : Int).toNat (w64 ((u43.getD (0 : Int).toNat 0) + (w64 (5 * (Int.fdiv (u43.getD (4 : Int).toNat 0) (2 ^ 26))))))).getD (4 : Int).toNat 0) &&& BitVec.ofInt 64 67108863).toNat : Int))), (w64 (u17 + 1))))) else none) else none) else none) else none) else none) | .ret r => (some (.inr (.ret r)))) else (some (.inr (.out u13))))
noncomputable def spec_l03Carry.f (x0 : List Int) : Option ((List Int)) :=
  ((loopO (fun s => spec_l03Carry.s0  s.1 s.2) (x0, 0)).bind fun o => match o with | .out u18 => (some u18) | .ret r => (some r))
set_option maxRecDepth 100000 in
set_option maxHeartbeats 0 in
theorem spec_l03Carry_t (w0 : World) (x0 : List Int) (e0_ : x0.length = 5) (r : (List Int)) (H : spec_l03Carry.f x0 = some r) :
    Calls Try.prog 105 #[aggI .i64 x0] w0 (Ret (fun v w => v = aggI .i64 r ∧ r.length = 5 ∧ Sat [] w0 w [] [])) := by
  have hs : Sat [] w0 w0 [] [] := Sat.init w0 [] [] (by simp) (by simp) List.nodup_nil (by simp [blks])
  unfold spec_l03Carry.f at H
  refine enter Try.func105 rfl Try.ntmps105 rfl fun a hk => ?_
  apply wp_seq_k; intro K1 hK1
  apply wp_region_lit
  refine sbxa 1 hs rfl hk rfl rfl rfl e0_ rfl fun b2 k3 w a hk o4 hs => ?_
  refine sala 2 ((Lay.int .i64)) (m := 5) (z := 0) (zc := [.int .i64 0]) hs rfl hk rfl rfl ze103 (by exact ⟨rfl, rfl⟩) rfl rfl rfl fun b5 k6 w a hk o7 hs => ?_
  have lh8 : (List.replicate 5 (0 : Int)).length = 5 := List.length_replicate
  show wpList _ _ _ [] _ _
  refine wpList_nil ?_
  refine hK1 _ _ ?_
  apply wp_seq_k; intro K9 hK9
  apply wp_seq_k; intro K10 hK10
  apply wp_region_lit
  refine sa _ rfl hk rfl rfl rfl fun a hk => ?_
  show wpList _ _ _ [] _ _
  refine wpList_nil ?_
  refine hK10 _ _ ?_
  obtain ⟨o22, h23, HL24⟩ := bind_some H
  clear H
  obtain ⟨R25, hR25⟩ : ∃ R : Act → World → Prop, R = fun a w => ∃ (u18 : List Int) (k19 : Chunk), o22 = .out u18 ∧ Kn [(1, (.pointer (some ⟨b2, 0, none⟩))), (2, (.pointer (some ⟨b5, 0, none⟩)))] 41 a ∧ Sat [] w0 w [] [(1, k19), (2, k6)] ∧ Own (Lay.int .i64) 103 (some ⟨b2, 0, none⟩) 5 u18 k19 ∧ u18.length = 5 := ⟨_, rfl⟩
  refine wp_cutq R25 ?_ ?_
  ·refine wp_block ?_
   obtain ⟨fu27, h23⟩ := loopO_some h23
   obtain ⟨I26, hI26⟩ : ∃ I : Nat → Act → World → Prop, I = fun fu a w => ∃ (u13 : List Int) (u17 : Int) (k14 : Chunk), loopN (fun s => spec_l03Carry.s0  s.1 s.2) fu (u13, u17) = some o22 ∧ Kn [(1, (.pointer (some ⟨b2, 0, none⟩))), (2, (.pointer (some ⟨b5, 0, none⟩))), (3, (.int .i64 u17))] 41 a ∧ Sat [] w0 w [] [(1, k14), (2, k6)] ∧ Own (Lay.int .i64) 103 (some ⟨b2, 0, none⟩) 5 u13 k14 ∧ u13.length = 5 := ⟨_, rfl⟩
   refine wp_loop_ghost I26 fu27 ?_ ?_
   ·rw [hI26]
    exact ⟨x0, 0, _, h23, (hk.c 1 rfl (hk.c 2 rfl (hk.c 3 rfl hk.k))), (hs.pick [(1, 1), (2, 2)] rfl), o4, e0_⟩
   ·clear h23 hk hs
    intro fu27 a w hI0
    rw [hI26] at hI0
    obtain ⟨u13, u17, k14, hi, hk, hs, o15, lh16⟩ := hI0
    obtain ⟨x28, H, h29⟩ := loop_round hi
    try dsimp only at H
    unfold spec_l03Carry.s0 at H
    apply wp_seq_k; intro K30 hK30
    apply wp_seq_k; intro K31 hK31
    apply wp_region_lit
    refine sm _ rfl hk rfl rfl rfl fun a hk => ?_
    refine sv (.bool (decide (u17 < 3))) hk rfl rfl rfl fun a hk => ?_
    show wpList _ _ _ [] _ _
    refine wpList_nil ?_
    refine hK31 _ _ ?_
    rcases cond_some H with ⟨c32, H⟩ | ⟨c32, H⟩
    ·have hk := hk.lit 6 c32 rfl
     refine cnd_true hk rfl rfl ?_
     refine wp_skip ?_
     refine hK30 _ _ ?_
     have hs := hs.pick [(1, 1), (2, 2)] rfl
     apply wp_seq_k; intro K33 hK33
     refine wp_block ?_
     apply wp_seq_k; intro K34 hK34
     apply wp_seq_k; intro K35 hK35
     apply wp_region_lit
     refine sa _ rfl hk rfl rfl rfl fun a hk => ?_
     show wpList _ _ _ [] _ _
     refine wpList_nil ?_
     refine hK35 _ _ ?_
     obtain ⟨o47, h48, HL49⟩ := bind_some H
     clear H
     obtain ⟨R50, hR50⟩ : ∃ R : Act → World → Prop, R = fun a w => ∃ (u43 : List Int) (k44 : Chunk), o47 = .out u43 ∧ Kn [(1, (.pointer (some ⟨b2, 0, none⟩))), (2, (.pointer (some ⟨b5, 0, none⟩))), (3, (.int .i64 u17))] 41 a ∧ Sat [] w0 w [] [(1, k44), (2, k6)] ∧ Own (Lay.int .i64) 103 (some ⟨b2, 0, none⟩) 5 u43 k44 ∧ u43.length = 5 := ⟨_, rfl⟩
     refine wp_cutq R50 ?_ ?_
     ·refine wp_block ?_
      obtain ⟨fu52, h48⟩ := loopO_some h48
      obtain ⟨I51, hI51⟩ : ∃ I : Nat → Act → World → Prop, I = fun fu a w => ∃ (u38 : List Int) (u42 : Int) (k39 : Chunk), loopN (fun s => spec_l03Carry.s1  s.1 s.2) fu (u38, u42) = some o47 ∧ Kn [(1, (.pointer (some ⟨b2, 0, none⟩))), (2, (.pointer (some ⟨b5, 0, none⟩))), (3, (.int .i64 u17)), (4, (.int .i64 u42))] 41 a ∧ Sat [] w0 w [] [(1, k39), (2, k6)] ∧ Own (Lay.int .i64) 103 (some ⟨b2, 0, none⟩) 5 u38 k39 ∧ u38.length = 5 := ⟨_, rfl⟩
      refine wp_loop_ghost I51 fu52 ?_ ?_
      ·rw [hI51]
       exact ⟨u13, 0, _, h48, (hk.c 1 rfl (hk.c 2 rfl (hk.c 3 rfl (hk.c 4 rfl hk.k)))), (hs.pick [(1, 1), (2, 2)] rfl), o15, lh16⟩
      ·clear h48 hk hs
       intro fu52 a w hI0
       rw [hI51] at hI0
       obtain ⟨u38, u42, k39, hi, hk, hs, o40, lh41⟩ := hI0
       obtain ⟨x53, H, h54⟩ := loop_round hi
       try dsimp only at H
       unfold spec_l03Carry.s1 at H
       apply wp_seq_k; intro K55 hK55
       apply wp_seq_k; intro K56 hK56
       apply wp_region_lit
       refine sm _ rfl hk rfl rfl rfl fun a hk => ?_
       refine sv (.bool (decide (u42 < 4))) hk rfl rfl rfl fun a hk => ?_
       show wpList _ _ _ [] _ _
       refine wpList_nil ?_
       refine hK56 _ _ ?_
       rcases cond_some H with ⟨c57, H⟩ | ⟨c57, H⟩
       ·have hk := hk.lit 10 c57 rfl
        refine cnd_true hk rfl rfl ?_
        refine wp_skip ?_
        refine hK55 _ _ ?_
        apply wp_seq_k; intro K58 hK58
        refine wp_block ?_
        apply wp_seq_k; intro K59 hK59
        refine wp_region_tree (.q 0 (.q 1 (.q 2 (.q 3 (.alt 4 (.alt 5 (.alt 6 (.alt 7 (.alt 8 (.alt 9 (.last 10) .stop) .stop) .stop) .stop) .stop) .stop))))) mo (by kernel_rfl) (hs.pick [(1, 1), (2, 2)] rfl) fun _ => ?_
        have hs := hs.drew
        refine tqst (.int .i64 u42) hk rfl rfl rfl rfl (fun w hs => sm _ rfl hk rfl rfl rfl fun a hk => qe hk) fun a hk => ?_
        refine tqst (.int .i64 (w64 (u42 + 1))) hk rfl rfl rfl rfl (fun w hs => sv (.int .i64 (w64 (u42 + 1))) hk rfl rfl rfl fun a hk => qe hk) fun a hk => ?_
        rcases ite_some H with ⟨c61, H⟩ | ⟨_, H⟩
        rotate_left
        ·cases H
        obtain ⟨b62, q63, hAc61⟩ := (o40.view).some_ (w64 (u42 + 1)) c61.1 (by rw [lh41]; exact c61.2)
        refine tqst (.pointer (some (padd (some ⟨b2, 0, none⟩) ((w64 (u42 + 1)).toNat * 1)))) hk rfl rfl rfl rfl (fun w hs => sia rfl hk rfl rfl rfl rfl un103 sz3 c61.1 c61.2 hAc61 fun a hk => qe hk) fun a hk => ?_
        obtain ⟨_, rfl, e64⟩ := (o40.view).at_ 0 (w64 (u42 + 1)) c61.1 (by rw [lh41]; exact c61.2)
        refine tqst (.int .i64 (u38.getD (w64 (u42 + 1)).toNat 0)) hk rfl rfl rfl rfl (fun w hs => sl (v := (.int .i64 (u38.getD (w64 (u42 + 1)).toNat 0))) rfl hk rfl rfl rfl ag3 ((e64 0 _ rfl).cell (hs.hasG (k := 1) rfl)) fun a hk => qe hk) fun a hk => ?_
        refine tsst hk rfl rfl (fun K_r60_4 hK_r60_4 w hF => ?_) wt_stop
        have hs := hs.f hF
        refine sm _ rfl hk rfl rfl rfl fun a hk => ?_
        refine se (hs.pick [(1, 1), (2, 2)] rfl) hk (hK_r60_4 _ _ ?_)
        refine tsst hk rfl rfl (fun K_r60_5 hK_r60_5 w hF => ?_) wt_stop
        have hs := hs.f hF
        rcases ite_some H with ⟨c65, H⟩ | ⟨_, H⟩
        rotate_left
        ·cases H
        obtain ⟨b66, q67, hAc65⟩ := (o40.view).some_ u42 c65.1 (by rw [lh41]; exact c65.2)
        refine sia rfl hk rfl rfl rfl rfl un103 sz3 c65.1 c65.2 hAc65 fun a hk => ?_
        refine se (hs.pick [(1, 1), (2, 2)] rfl) hk (hK_r60_5 _ _ ?_)
        refine tsst hk rfl rfl (fun K_r60_6 hK_r60_6 w hF => ?_) wt_stop
        have hs := hs.f hF
        obtain ⟨_, rfl, e68⟩ := (o40.view).at_ 0 u42 c65.1 (by rw [lh41]; exact c65.2)
        refine sl (v := (.int .i64 (u38.getD u42.toNat 0))) rfl hk rfl rfl rfl ag3 ((e68 0 _ rfl).cell (hs.hasG (k := 1) rfl)) fun a hk => ?_
        refine se (hs.pick [(1, 1), (2, 2)] rfl) hk (hK_r60_6 _ _ ?_)
        refine tsst hk rfl rfl (fun K_r60_7 hK_r60_7 w hF => ?_) wt_stop
        have hs := hs.f hF
        refine sv (.int .i64 (Int.fdiv (u38.getD u42.toNat 0) (2 ^ 26))) hk rfl rfl rfl fun a hk => ?_
        refine se (hs.pick [(1, 1), (2, 2)] rfl) hk (hK_r60_7 _ _ ?_)
        refine tsst hk rfl rfl (fun K_r60_8 hK_r60_8 w hF => ?_) wt_stop
        have hs := hs.f hF
        refine sv (.int .i64 (w64 ((u38.getD (w64 (u42 + 1)).toNat 0) + (Int.fdiv (u38.getD u42.toNat 0) (2 ^ 26))))) hk rfl rfl rfl fun a hk => ?_
        refine se (hs.pick [(1, 1), (2, 2)] rfl) hk (hK_r60_8 _ _ ?_)
        refine tsst hk rfl rfl (fun K_r60_9 hK_r60_9 w hF => ?_) wt_stop
        have hs := hs.f hF
        rcases ite_some H with ⟨c69, H⟩ | ⟨_, H⟩
        rotate_left
        ·cases H
        obtain ⟨b70, q71, hAc69⟩ := (o40.view).some_ (w64 (u42 + 1)) c69.1 (by rw [lh41]; exact c69.2)
        refine sia rfl hk rfl rfl rfl rfl un103 sz3 c69.1 c69.2 hAc69 fun a hk => ?_
        refine se (hs.pick [(1, 1), (2, 2)] rfl) hk (hK_r60_9 _ _ ?_)
        refine tlst hk rfl rfl fun K_r60_10 hK_r60_10 w hF => ?_
        have hs := hs.f hF
        refine so (j := 0) 1 0 (w64 ((u38.getD (w64 (u42 + 1)).toNat 0) + (Int.fdiv (u38.getD u42.toNat 0) (2 ^ 26)))) hs rfl o40 c69.1 (by rw [lh41]; exact c69.2) rfl hk rfl rfl rfl rfl rfl sz3 (by simp [Value.cells, Value.oneCell']) (Nat.le_of_ble_eq_true rfl) (fun _ _ h => ⟨by rw [h.1]; rfl, h.2⟩) fun k72 w a hk o73 hs => ?_
        have lh74 : (u38.set (w64 (u42 + 1)).toNat (w64 ((u38.getD (w64 (u42 + 1)).toNat 0) + (Int.fdiv (u38.getD u42.toNat 0) (2 ^ 26))))).length = 5 := by rw [List.length_set]; exact lh41
        refine se trivial hk (hK_r60_10 _ _ fun w hF => ?_)
        have hs := hs.f hF
        refine hK59 _ _ ?_
        have hs := hs.pick [(1, 1), (2, 2)] rfl
        apply wp_region_lit
        refine sm _ rfl hk rfl rfl rfl fun a hk => ?_
        rcases ite_some H with ⟨c75, H⟩ | ⟨_, H⟩
        rotate_left
        ·cases H
        obtain ⟨b76, q77, hAc75⟩ := (o73.view).some_ u42 c75.1 (by rw [lh74]; exact c75.2)
        refine sia rfl hk rfl rfl rfl rfl un103 sz3 c75.1 c75.2 hAc75 fun a hk => ?_
        obtain ⟨_, rfl, e78⟩ := (o73.view).at_ 0 u42 c75.1 (by rw [lh74]; exact c75.2)
        refine sl (v := (.int .i64 ((u38.set (w64 (u42 + 1)).toNat (w64 ((u38.getD (w64 (u42 + 1)).toNat 0) + (Int.fdiv (u38.getD u42.toNat 0) (2 ^ 26))))).getD u42.toNat 0))) rfl hk rfl rfl rfl ag3 ((e78 0 _ rfl).cell (hs.hasG (k := 1) rfl)) fun a hk => ?_
        refine sv (.int .i64 (IntKind.wrap .i64 ((BitVec.ofInt 64 ((u38.set (w64 (u42 + 1)).toNat (w64 ((u38.getD (w64 (u42 + 1)).toNat 0) + (Int.fdiv (u38.getD u42.toNat 0) (2 ^ 26))))).getD u42.toNat 0) &&& BitVec.ofInt 64 67108863).toNat : Int))) hk rfl rfl rfl fun a hk => ?_
        rcases ite_some H with ⟨c79, H⟩ | ⟨_, H⟩
        rotate_left
        ·cases H
        obtain ⟨b80, q81, hAc79⟩ := (o73.view).some_ u42 c79.1 (by rw [lh74]; exact c79.2)
        refine sia rfl hk rfl rfl rfl rfl un103 sz3 c79.1 c79.2 hAc79 fun a hk => ?_
        refine so (j := 0) 1 0 (IntKind.wrap .i64 ((BitVec.ofInt 64 ((u38.set (w64 (u42 + 1)).toNat (w64 ((u38.getD (w64 (u42 + 1)).toNat 0) + (Int.fdiv (u38.getD u42.toNat 0) (2 ^ 26))))).getD u42.toNat 0) &&& BitVec.ofInt 64 67108863).toNat : Int)) hs rfl o73 c79.1 (by rw [lh74]; exact c79.2) rfl hk rfl rfl rfl rfl rfl sz3 (by simp [Value.cells, Value.oneCell']) (Nat.le_of_ble_eq_true rfl) (fun _ _ h => ⟨by rw [h.1]; rfl, h.2⟩) fun k82 w a hk o83 hs => ?_
        have lh84 : ((u38.set (w64 (u42 + 1)).toNat (w64 ((u38.getD (w64 (u42 + 1)).toNat 0) + (Int.fdiv (u38.getD u42.toNat 0) (2 ^ 26))))).set u42.toNat (IntKind.wrap .i64 ((BitVec.ofInt 64 ((u38.set (w64 (u42 + 1)).toNat (w64 ((u38.getD (w64 (u42 + 1)).toNat 0) + (Int.fdiv (u38.getD u42.toNat 0) (2 ^ 26))))).getD u42.toNat 0) &&& BitVec.ofInt 64 67108863).toNat : Int))).length = 5 := by rw [List.length_set]; exact lh74
        show wpList _ _ _ [] _ _
        refine wpList_nil ?_
        refine hK58 _ _ ?_
        apply wp_region_lit
        refine sm _ rfl hk rfl rfl rfl fun a hk => ?_
        refine sv (.int .i64 (w64 (u42 + 1))) hk rfl rfl rfl fun a hk => ?_
        refine sa _ rfl hk rfl rfl rfl fun a hk => ?_
        show wpList _ _ _ [] _ _
        refine wpList_nil ?_
        obtain rfl := Option.some.inj H
        obtain ⟨m85, hmm85, h54⟩ := h54
        show ∃ n', n' < _ ∧ I51 n' _ _
        refine ⟨m85, hmm85, ?_⟩
        rw [hI51]
        exact ⟨((u38.set (w64 (u42 + 1)).toNat (w64 ((u38.getD (w64 (u42 + 1)).toNat 0) + (Int.fdiv (u38.getD u42.toNat 0) (2 ^ 26))))).set u42.toNat (IntKind.wrap .i64 ((BitVec.ofInt 64 ((u38.set (w64 (u42 + 1)).toNat (w64 ((u38.getD (w64 (u42 + 1)).toNat 0) + (Int.fdiv (u38.getD u42.toNat 0) (2 ^ 26))))).getD u42.toNat 0) &&& BitVec.ofInt 64 67108863).toNat : Int))), (w64 (u42 + 1)), _, h54, (hk.c 1 rfl (hk.c 2 rfl (hk.c 3 rfl (hk.c 4 rfl hk.k)))), (hs.pick [(1, 1), (2, 2)] rfl), o83, lh84⟩
       ·have hk := hk.lit 10 c57 rfl
        refine cnd_false hk rfl rfl ?_
        refine wp_exit ?_
        obtain rfl := Option.some.inj H
        show R50 _ _
        rw [hR50]
        exact ⟨u38, _, h54.symm, (hk.c 1 rfl (hk.c 2 rfl (hk.c 3 rfl hk.k))), (hs.pick [(1, 1), (2, 2)] rfl), o40, lh41⟩
     ·intro a w hR0
      rw [hR50] at hR0
      obtain ⟨u43, k44, rfl, hk, hs, o45, lh46⟩ := hR0
      have H := HL49
      try dsimp only at H
      refine hK34 _ _ ?_
      apply wp_seq_k; intro K86 hK86
      apply wp_region_lit
      rcases ite_some H with ⟨c87, H⟩ | ⟨_, H⟩
      rotate_left
      ·cases H
      obtain ⟨b88, q89, hAc87⟩ := (o45.view).some_ (0 : Int) c87.1 (by rw [lh46]; exact c87.2)
      refine sia rfl hk rfl rfl rfl rfl un103 sz3 c87.1 c87.2 hAc87 fun a hk => ?_
      obtain ⟨_, rfl, e90⟩ := (o45.view).at_ 0 (0 : Int) c87.1 (by rw [lh46]; exact c87.2)
      refine sl (v := (.int .i64 (u43.getD (0 : Int).toNat 0))) rfl hk rfl rfl rfl ag3 ((e90 0 _ rfl).cell (hs.hasG (k := 1) rfl)) fun a hk => ?_
      rcases ite_some H with ⟨c91, H⟩ | ⟨_, H⟩
      rotate_left
      ·cases H
      obtain ⟨b92, q93, hAc91⟩ := (o45.view).some_ (4 : Int) c91.1 (by rw [lh46]; exact c91.2)
      refine sia rfl hk rfl rfl rfl rfl un103 sz3 c91.1 c91.2 hAc91 fun a hk => ?_
      obtain ⟨_, rfl, e94⟩ := (o45.view).at_ 0 (4 : Int) c91.1 (by rw [lh46]; exact c91.2)
      refine sl (v := (.int .i64 (u43.getD (4 : Int).toNat 0))) rfl hk rfl rfl rfl ag3 ((e94 0 _ rfl).cell (hs.hasG (k := 1) rfl)) fun a hk => ?_
      refine sv (.int .i64 (Int.fdiv (u43.getD (4 : Int).toNat 0) (2 ^ 26))) hk rfl rfl rfl fun a hk => ?_
      refine sv (.int .i64 (w64 (5 * (Int.fdiv (u43.getD (4 : Int).toNat 0) (2 ^ 26))))) hk rfl rfl rfl fun a hk => ?_
      refine sv (.int .i64 (w64 ((u43.getD (0 : Int).toNat 0) + (w64 (5 * (Int.fdiv (u43.getD (4 : Int).toNat 0) (2 ^ 26))))))) hk rfl rfl rfl fun a hk => ?_
      rcases ite_some H with ⟨c95, H⟩ | ⟨_, H⟩
      rotate_left
      ·cases H
      obtain ⟨b96, q97, hAc95⟩ := (o45.view).some_ (0 : Int) c95.1 (by rw [lh46]; exact c95.2)
      refine sia rfl hk rfl rfl rfl rfl un103 sz3 c95.1 c95.2 hAc95 fun a hk => ?_
      refine so (j := 0) 1 0 (w64 ((u43.getD (0 : Int).toNat 0) + (w64 (5 * (Int.fdiv (u43.getD (4 : Int).toNat 0) (2 ^ 26)))))) hs rfl o45 c95.1 (by rw [lh46]; exact c95.2) rfl hk rfl rfl rfl rfl rfl sz3 (by simp [Value.cells, Value.oneCell']) (Nat.le_of_ble_eq_true rfl) (fun _ _ h => ⟨by rw [h.1]; rfl, h.2⟩) fun k98 w a hk o99 hs => ?_
      have lh100 : (u43.set (0 : Int).toNat (w64 ((u43.getD (0 : Int).toNat 0) + (w64 (5 * (Int.fdiv (u43.getD (4 : Int).toNat 0) (2 ^ 26))))))).length = 5 := by rw [List.length_set]; exact lh46
      show wpList _ _ _ [] _ _
      refine wpList_nil ?_
      refine hK86 _ _ ?_
      apply wp_region_lit
      rcases ite_some H with ⟨c101, H⟩ | ⟨_, H⟩
      rotate_left
      ·cases H
      obtain ⟨b102, q103, hAc101⟩ := (o99.view).some_ (4 : Int) c101.1 (by rw [lh100]; exact c101.2)
      refine sia rfl hk rfl rfl rfl rfl un103 sz3 c101.1 c101.2 hAc101 fun a hk => ?_
      obtain ⟨_, rfl, e104⟩ := (o99.view).at_ 0 (4 : Int) c101.1 (by rw [lh100]; exact c101.2)
      refine sl (v := (.int .i64 ((u43.set (0 : Int).toNat (w64 ((u43.getD (0 : Int).toNat 0) + (w64 (5 * (Int.fdiv (u43.getD (4 : Int).toNat 0) (2 ^ 26))))))).getD (4 : Int).toNat 0))) rfl hk rfl rfl rfl ag3 ((e104 0 _ rfl).cell (hs.hasG (k := 1) rfl)) fun a hk => ?_
      refine sv (.int .i64 (IntKind.wrap .i64 ((BitVec.ofInt 64 ((u43.set (0 : Int).toNat (w64 ((u43.getD (0 : Int).toNat 0) + (w64 (5 * (Int.fdiv (u43.getD (4 : Int).toNat 0) (2 ^ 26))))))).getD (4 : Int).toNat 0) &&& BitVec.ofInt 64 67108863).toNat : Int))) hk rfl rfl rfl fun a hk => ?_
      rcases ite_some H with ⟨c105, H⟩ | ⟨_, H⟩
      rotate_left
      ·cases H
      obtain ⟨b106, q107, hAc105⟩ := (o99.view).some_ (4 : Int) c105.1 (by rw [lh100]; exact c105.2)
      refine sia rfl hk rfl rfl rfl rfl un103 sz3 c105.1 c105.2 hAc105 fun a hk => ?_
      refine so (j := 0) 1 0 (IntKind.wrap .i64 ((BitVec.ofInt 64 ((u43.set (0 : Int).toNat (w64 ((u43.getD (0 : Int).toNat 0) + (w64 (5 * (Int.fdiv (u43.getD (4 : Int).toNat 0) (2 ^ 26))))))).getD (4 : Int).toNat 0) &&& BitVec.ofInt 64 67108863).toNat : Int)) hs rfl o99 c105.1 (by rw [lh100]; exact c105.2) rfl hk rfl rfl rfl rfl rfl sz3 (by simp [Value.cells, Value.oneCell']) (Nat.le_of_ble_eq_true rfl) (fun _ _ h => ⟨by rw [h.1]; rfl, h.2⟩) fun k108 w a hk o109 hs => ?_
      have lh110 : ((u43.set (0 : Int).toNat (w64 ((u43.getD (0 : Int).toNat 0) + (w64 (5 * (Int.fdiv (u43.getD (4 : Int).toNat 0) (2 ^ 26))))))).set (4 : Int).toNat (IntKind.wrap .i64 ((BitVec.ofInt 64 ((u43.set (0 : Int).toNat (w64 ((u43.getD (0 : Int).toNat 0) + (w64 (5 * (Int.fdiv (u43.getD (4 : Int).toNat 0) (2 ^ 26))))))).getD (4 : Int).toNat 0) &&& BitVec.ofInt 64 67108863).toNat : Int))).length = 5 := by rw [List.length_set]; exact lh100
      show wpList _ _ _ [] _ _
      refine wpList_nil ?_
      refine hK33 _ _ ?_
      have hs := hs.pick [(1, 1), (2, 2)] rfl
      apply wp_region_lit
      refine sm _ rfl hk rfl rfl rfl fun a hk => ?_
      refine sv (.int .i64 (w64 (u17 + 1))) hk rfl rfl rfl fun a hk => ?_
      refine sa _ rfl hk rfl rfl rfl fun a hk => ?_
      show wpList _ _ _ [] _ _
      refine wpList_nil ?_
      obtain rfl := Option.some.inj H
      obtain ⟨m111, hmm111, h29⟩ := h29
      show ∃ n', n' < _ ∧ I26 n' _ _
      refine ⟨m111, hmm111, ?_⟩
      rw [hI26]
      exact ⟨((u43.set (0 : Int).toNat (w64 ((u43.getD (0 : Int).toNat 0) + (w64 (5 * (Int.fdiv (u43.getD (4 : Int).toNat 0) (2 ^ 26))))))).set (4 : Int).toNat (IntKind.wrap .i64 ((BitVec.ofInt 64 ((u43.set (0 : Int).toNat (w64 ((u43.getD (0 : Int).toNat 0) + (w64 (5 * (Int.fdiv (u43.getD (4 : Int).toNat 0) (2 ^ 26))))))).getD (4 : Int).toNat 0) &&& BitVec.ofInt 64 67108863).toNat : Int))), (w64 (u17 + 1)), _, h29, (hk.c 1 rfl (hk.c 2 rfl (hk.c 3 rfl hk.k))), (hs.pick [(1, 1), (2, 2)] rfl), o109, lh110⟩
    ·have hk := hk.lit 6 c32 rfl
     refine cnd_false hk rfl rfl ?_
     refine wp_exit ?_
     obtain rfl := Option.some.inj H
     show R25 _ _
     rw [hR25]
     exact ⟨u13, _, h29.symm, (hk.c 1 rfl (hk.c 2 rfl hk.k)), (hs.pick [(1, 1), (2, 2)] rfl), o15, lh16⟩
  ·intro a w hR0
   rw [hR25] at hR0
   obtain ⟨u18, k19, rfl, hk, hs, o20, lh21⟩ := hR0
   have H := HL24
   try dsimp only at H
   refine hK9 _ _ ?_
   apply wp_seq_k; intro K112 hK112
   apply wp_region_lit
   refine slna (k := 1) hs rfl o20 lh21 rfl hk rfl rfl rfl ag103 sz103 fun a hk => ?_
   refine sswa 2 u18 hs rfl o7 lh8 lh21 rfl rfl hk rfl rfl rfl rfl sz103 fun k113 w a hk o114 hs => ?_
   show wpList _ _ _ [] _ _
   refine wpList_nil ?_
   refine hK112 _ _ ?_
   have hs := hs.pick [(2, 2)] rfl
   refine wp_ret ?_
   obtain rfl := Option.some.inj H
   exact fin hk _ [(aggI .i64 u18)] rfl ⟨⟨_, rfl, run_loadA ag103 sz103 o114 lh21 hs (q := 2) rfl⟩, trivial⟩ ⟨rfl, lh21, (hs.pick [] rfl).dnil⟩

noncomputable def spec_l03Times.s1 (x0 : List Int) (x1 : List Int) (u28 : Int) (u48 : List Int) (u52 : Int) : Option (((List Int) × Int) ⊕ Ex ((List Int)) ((List Int))) :=
  (bif (decide (u52 < 5)) then (if 0 ≤ u28 ∧ u28 < (5 : Int) then (if 0 ≤ u52 ∧ u52 < (5 : Int) then (((bif (decide ((w64 (u28 + u52)) > 4)) then (some (w64 ((w64 ((x0.getD u28.toNat 0) * (x1.getD u52.toNat 0))) * 5))) else (some (w64 ((x0.getD u28.toNat 0) * (x1.getD u52.toNat 0))))) : Option (Int)).bind fun u82 => (if 0 ≤ (Int.tmod (w64 (u28 + u52)) 5) ∧ (Int.tmod (w64 (u28 + u52)) 5) < (5 : Int) then (if 0 ≤ (Int.tmod (w64 (u28 + u52)) 5) ∧ (Int.tmod (w64 (u28 + u52)) 5) < (5 : Int) then (some (.inl ((u48.set (Int.tmod (w64 (u28 + u52)) 5).toNat (w64 ((u48.getD (Int.tmod (w64 (u28 + u52)) 5).toNat 0) + u82))), (w64 (u52 + 1))))) else none) else none)) else none) else none) else (some (.inr (.out u48))))
noncomputable def spec_l03Times.s0 (x0 : List Int) (x1 : List Int) (u24 : List Int) (u28 : Int) : Option (((List Int) × Int) ⊕ Ex ((List Int)) ((List Int))) :=
  (bif (decide (u28 < 5)) then ((loopO (fun s => spec_l03Times.s1 x0 x1 u28 s.1 s.2) (u24, 0)).bind fun o => match o with | .out u53 => (some (.inl (u53, (w64 (u28 + 1))))) | .ret r => (some (.inr (.ret r)))) else (some (.inr (.out u24))))
noncomputable def spec_l03Times.f (x0 : List Int) (x1 : List Int) : Option ((List Int)) :=
  ((loopO (fun s => spec_l03Times.s0 x0 x1 s.1 s.2) ((List.replicate 5 (0 : Int)), 0)).bind fun o => match o with | .out u29 => ((spec_l03Carry.f u29).bind fun y101 => (some y101)) | .ret r => (some r))
set_option maxRecDepth 100000 in
set_option maxHeartbeats 0 in
theorem spec_l03Times_t (w0 : World) (x0 : List Int) (e0_ : x0.length = 5) (x1 : List Int) (e1_ : x1.length = 5) (r : (List Int)) (H : spec_l03Times.f x0 x1 = some r) :
    Calls Try.prog 103 #[aggI .i64 x0, aggI .i64 x1] w0 (Ret (fun v w => v = aggI .i64 r ∧ r.length = 5 ∧ Sat [] w0 w [] [])) := by
  have hs : Sat [] w0 w0 [] [] := Sat.init w0 [] [] (by simp) (by simp) List.nodup_nil (by simp [blks])
  unfold spec_l03Times.f at H
  refine enter Try.func103 rfl Try.ntmps103 rfl fun a hk => ?_
  apply wp_seq_k; intro K1 hK1
  apply wp_region_lit
  refine sbxa 1 hs rfl hk rfl rfl rfl e0_ rfl fun b2 k3 w a hk o4 hs => ?_
  refine sbxa 2 hs rfl hk rfl rfl rfl e1_ rfl fun b5 k6 w a hk o7 hs => ?_
  refine sala 3 ((Lay.int .i64)) (m := 5) (z := 0) (zc := [.int .i64 0]) hs rfl hk rfl rfl ze103 (by exact ⟨rfl, rfl⟩) rfl rfl rfl fun b8 k9 w a hk o10 hs => ?_
  have lh11 : (List.replicate 5 (0 : Int)).length = 5 := List.length_replicate
  show wpList _ _ _ [] _ _
  refine wpList_nil ?_
  refine hK1 _ _ ?_
  apply wp_seq_k; intro K12 hK12
  apply wp_region_lit
  refine sbd (pv := []) rfl hk rfl rfl rfl bd103_11 fun a hk => ?_
  have lh13 : (List.replicate 5 (0 : Int)).length = 5 := List.length_replicate
  refine sala 4 ((Lay.int .i64)) (m := 5) (z := 0) (zc := [.int .i64 0]) hs rfl hk rfl rfl ze103 (by exact ⟨rfl, rfl⟩) rfl rfl rfl fun b14 k15 w a hk o16 hs => ?_
  have lh17 : (List.replicate 5 (0 : Int)).length = 5 := List.length_replicate
  refine sswa 4 (List.replicate 5 (0 : Int)) hs rfl o16 lh17 lh13 rfl rfl hk rfl rfl rfl rfl sz103 fun k18 w a hk o19 hs => ?_
  show wpList _ _ _ [] _ _
  refine wpList_nil ?_
  refine hK12 _ _ ?_
  apply wp_seq_k; intro K20 hK20
  apply wp_seq_k; intro K21 hK21
  apply wp_region_lit
  refine sa _ rfl hk rfl rfl rfl fun a hk => ?_
  show wpList _ _ _ [] _ _
  refine wpList_nil ?_
  refine hK21 _ _ ?_
  obtain ⟨o33, h34, HL35⟩ := bind_some H
  clear H
  obtain ⟨R36, hR36⟩ : ∃ R : Act → World → Prop, R = fun a w => ∃ (u29 : List Int) (k30 : Chunk), o33 = .out u29 ∧ Kn [(4, (.pointer (some ⟨b8, 0, none⟩))), (5, (.pointer (some ⟨b14, 0, none⟩)))] 42 a ∧ Sat [] w0 w [] [(3, k9), (4, k30)] ∧ Own (Lay.int .i64) 103 (some ⟨b14, 0, none⟩) 5 u29 k30 ∧ u29.length = 5 := ⟨_, rfl⟩
  refine wp_cutq R36 ?_ ?_
  ·refine wp_block ?_
   obtain ⟨fu38, h34⟩ := loopO_some h34
   obtain ⟨I37, hI37⟩ : ∃ I : Nat → Act → World → Prop, I = fun fu a w => ∃ (u24 : List Int) (u28 : Int) (k25 : Chunk), loopN (fun s => spec_l03Times.s0 x0 x1 s.1 s.2) fu (u24, u28) = some o33 ∧ Kn [(2, (.pointer (some ⟨b2, 0, none⟩))), (3, (.pointer (some ⟨b5, 0, none⟩))), (4, (.pointer (some ⟨b8, 0, none⟩))), (5, (.pointer (some ⟨b14, 0, none⟩))), (6, (.int .i64 u28))] 42 a ∧ Sat [] w0 w [] [(1, k3), (2, k6), (3, k9), (4, k25)] ∧ Own (Lay.int .i64) 103 (some ⟨b14, 0, none⟩) 5 u24 k25 ∧ u24.length = 5 := ⟨_, rfl⟩
   refine wp_loop_ghost I37 fu38 ?_ ?_
   ·rw [hI37]
    exact ⟨(List.replicate 5 (0 : Int)), 0, _, h34, (hk.c 2 rfl (hk.c 3 rfl (hk.c 4 rfl (hk.c 5 rfl (hk.c 6 rfl hk.k))))), (hs.pick [(1, 1), (2, 2), (3, 3), (4, 4)] rfl), o19, lh13⟩
   ·clear h34 hk hs
    intro fu38 a w hI0
    rw [hI37] at hI0
    obtain ⟨u24, u28, k25, hi, hk, hs, o26, lh27⟩ := hI0
    obtain ⟨x39, H, h40⟩ := loop_round hi
    try dsimp only at H
    unfold spec_l03Times.s0 at H
    apply wp_seq_k; intro K41 hK41
    apply wp_seq_k; intro K42 hK42
    apply wp_region_lit
    refine sm _ rfl hk rfl rfl rfl fun a hk => ?_
    refine sv (.bool (decide (u28 < 5))) hk rfl rfl rfl fun a hk => ?_
    show wpList _ _ _ [] _ _
    refine wpList_nil ?_
    refine hK42 _ _ ?_
    have hs := hs.pick [(1, 1), (2, 2), (3, 3), (4, 4)] rfl
    rcases cond_some H with ⟨c43, H⟩ | ⟨c43, H⟩
    ·have hk := hk.lit 11 c43 rfl
     refine cnd_true hk rfl rfl ?_
     refine wp_skip ?_
     refine hK41 _ _ ?_
     apply wp_seq_k; intro K44 hK44
     refine wp_block ?_
     apply wp_seq_k; intro K45 hK45
     apply wp_region_lit
     refine sa _ rfl hk rfl rfl rfl fun a hk => ?_
     show wpList _ _ _ [] _ _
     refine wpList_nil ?_
     refine hK45 _ _ ?_
     obtain ⟨o57, h58, HL59⟩ := bind_some H
     clear H
     obtain ⟨R60, hR60⟩ : ∃ R : Act → World → Prop, R = fun a w => ∃ (u53 : List Int) (k54 : Chunk), o57 = .out u53 ∧ Kn [(2, (.pointer (some ⟨b2, 0, none⟩))), (3, (.pointer (some ⟨b5, 0, none⟩))), (4, (.pointer (some ⟨b8, 0, none⟩))), (5, (.pointer (some ⟨b14, 0, none⟩))), (6, (.int .i64 u28))] 42 a ∧ Sat [] w0 w [] [(1, k3), (2, k6), (3, k9), (4, k54)] ∧ Own (Lay.int .i64) 103 (some ⟨b14, 0, none⟩) 5 u53 k54 ∧ u53.length = 5 := ⟨_, rfl⟩
     refine wp_cutq R60 ?_ ?_
     ·refine wp_block ?_
      obtain ⟨fu62, h58⟩ := loopO_some h58
      obtain ⟨I61, hI61⟩ : ∃ I : Nat → Act → World → Prop, I = fun fu a w => ∃ (u48 : List Int) (u52 : Int) (k49 : Chunk), loopN (fun s => spec_l03Times.s1 x0 x1 u28 s.1 s.2) fu (u48, u52) = some o57 ∧ Kn [(2, (.pointer (some ⟨b2, 0, none⟩))), (3, (.pointer (some ⟨b5, 0, none⟩))), (4, (.pointer (some ⟨b8, 0, none⟩))), (5, (.pointer (some ⟨b14, 0, none⟩))), (6, (.int .i64 u28)), (7, (.int .i64 u52))] 42 a ∧ Sat [] w0 w [] [(1, k3), (2, k6), (3, k9), (4, k49)] ∧ Own (Lay.int .i64) 103 (some ⟨b14, 0, none⟩) 5 u48 k49 ∧ u48.length = 5 := ⟨_, rfl⟩
      refine wp_loop_ghost I61 fu62 ?_ ?_
      ·rw [hI61]
       exact ⟨u24, 0, _, h58, (hk.c 2 rfl (hk.c 3 rfl (hk.c 4 rfl (hk.c 5 rfl (hk.c 6 rfl (hk.c 7 rfl hk.k)))))), (hs.pick [(1, 1), (2, 2), (3, 3), (4, 4)] rfl), o26, lh27⟩
      ·clear h58 hk hs
       intro fu62 a w hI0
       rw [hI61] at hI0
       obtain ⟨u48, u52, k49, hi, hk, hs, o50, lh51⟩ := hI0
       obtain ⟨x63, H, h64⟩ := loop_round hi
       try dsimp only at H
       unfold spec_l03Times.s1 at H
       apply wp_seq_k; intro K65 hK65
       apply wp_seq_k; intro K66 hK66
       apply wp_region_lit
       refine sm _ rfl hk rfl rfl rfl fun a hk => ?_
       refine sv (.bool (decide (u52 < 5))) hk rfl rfl rfl fun a hk => ?_
       show wpList _ _ _ [] _ _
       refine wpList_nil ?_
       refine hK66 _ _ ?_
       rcases cond_some H with ⟨c67, H⟩ | ⟨c67, H⟩
       ·have hk := hk.lit 15 c67 rfl
        refine cnd_true hk rfl rfl ?_
        refine wp_skip ?_
        refine hK65 _ _ ?_
        have hs := hs.pick [(1, 1), (2, 2), (3, 3), (4, 4)] rfl
        apply wp_seq_k; intro K68 hK68
        refine wp_block ?_
        apply wp_seq_k; intro K69 hK69
        refine wp_region_tree (.q 0 (.q 1 (.q 2 (.alt 3 (.alt 4 (.alt 5 (.alt 6 (.last 7) .stop) .stop) .stop) .stop)))) mo (by kernel_rfl) (hs.pick [(1, 1), (2, 2), (3, 3), (4, 4)] rfl) fun _ => ?_
        have hs := hs.drew
        refine tqst (.int .i64 u28) hk rfl rfl rfl rfl (fun w hs => sm _ rfl hk rfl rfl rfl fun a hk => qe hk) fun a hk => ?_
        rcases ite_some H with ⟨c71, H⟩ | ⟨_, H⟩
        rotate_left
        ·cases H
        obtain ⟨b72, q73, hAc71⟩ := (o4.view).some_ u28 c71.1 (by rw [e0_]; exact c71.2)
        refine tqst (.pointer (some (padd (some ⟨b2, 0, none⟩) (u28.toNat * 1)))) hk rfl rfl rfl rfl (fun w hs => sia rfl hk rfl rfl rfl rfl un103 sz3 c71.1 c71.2 hAc71 fun a hk => qe hk) fun a hk => ?_
        obtain ⟨_, rfl, e74⟩ := (o4.view).at_ 0 u28 c71.1 (by rw [e0_]; exact c71.2)
        refine tqst (.int .i64 (x0.getD u28.toNat 0)) hk rfl rfl rfl rfl (fun w hs => sl (v := (.int .i64 (x0.getD u28.toNat 0))) rfl hk rfl rfl rfl ag3 ((e74 0 _ rfl).cell (hs.hasG (k := 1) rfl)) fun a hk => qe hk) fun a hk => ?_
        refine tsst hk rfl rfl (fun K_r70_3 hK_r70_3 w hF => ?_) wt_stop
        have hs := hs.f hF
        refine sm _ rfl hk rfl rfl rfl fun a hk => ?_
        refine se (hs.pick [(1, 1), (2, 2), (3, 3), (4, 4)] rfl) hk (hK_r70_3 _ _ ?_)
        refine tsst hk rfl rfl (fun K_r70_4 hK_r70_4 w hF => ?_) wt_stop
        have hs := hs.f hF
        rcases ite_some H with ⟨c75, H⟩ | ⟨_, H⟩
        rotate_left
        ·cases H
        obtain ⟨b76, q77, hAc75⟩ := (o7.view).some_ u52 c75.1 (by rw [e1_]; exact c75.2)
        refine sia rfl hk rfl rfl rfl rfl un103 sz3 c75.1 c75.2 hAc75 fun a hk => ?_
        refine se (hs.pick [(1, 1), (2, 2), (3, 3), (4, 4)] rfl) hk (hK_r70_4 _ _ ?_)
        refine tsst hk rfl rfl (fun K_r70_5 hK_r70_5 w hF => ?_) wt_stop
        have hs := hs.f hF
        obtain ⟨_, rfl, e78⟩ := (o7.view).at_ 0 u52 c75.1 (by rw [e1_]; exact c75.2)
        refine sl (v := (.int .i64 (x1.getD u52.toNat 0))) rfl hk rfl rfl rfl ag3 ((e78 0 _ rfl).cell (hs.hasG (k := 2) rfl)) fun a hk => ?_
        refine se (hs.pick [(1, 1), (2, 2), (3, 3), (4, 4)] rfl) hk (hK_r70_5 _ _ ?_)
        refine tsst hk rfl rfl (fun K_r70_6 hK_r70_6 w hF => ?_) wt_stop
        have hs := hs.f hF
        refine sv (.int .i64 (w64 ((x0.getD u28.toNat 0) * (x1.getD u52.toNat 0)))) hk rfl rfl rfl fun a hk => ?_
        refine se (hs.pick [(1, 1), (2, 2), (3, 3), (4, 4)] rfl) hk (hK_r70_6 _ _ ?_)
        refine tlst hk rfl rfl fun K_r70_7 hK_r70_7 w hF => ?_
        have hs := hs.f hF
        refine sa _ rfl hk rfl rfl rfl fun a hk => ?_
        refine se trivial hk (hK_r70_7 _ _ fun w hF => ?_)
        have hs := hs.f hF
        refine hK69 _ _ ?_
        apply wp_seq_k; intro K79 hK79
        apply wp_seq_k; intro K80 hK80
        apply wp_region_lit
        refine sm _ rfl hk rfl rfl rfl fun a hk => ?_
        refine sm _ rfl hk rfl rfl rfl fun a hk => ?_
        refine sv (.int .i64 (w64 (u28 + u52))) hk rfl rfl rfl fun a hk => ?_
        refine sv (.bool (decide ((w64 (u28 + u52)) > 4))) hk rfl rfl rfl fun a hk => ?_
        show wpList _ _ _ [] _ _
        refine wpList_nil ?_
        refine hK80 _ _ ?_
        obtain ⟨o83, h84, HL85⟩ := bind_some H
        clear H
        obtain ⟨R86, hR86⟩ : ∃ R : Act → World → Prop, R = fun a w => ∃ (u82 : Int), u82 = o83 ∧ Kn [(2, (.pointer (some ⟨b2, 0, none⟩))), (3, (.pointer (some ⟨b5, 0, none⟩))), (4, (.pointer (some ⟨b8, 0, none⟩))), (5, (.pointer (some ⟨b14, 0, none⟩))), (6, (.int .i64 u28)), (7, (.int .i64 u52)), (8, (.int .i64 u82))] 42 a ∧ Sat [] w0 w [] [(1, k3), (2, k6), (3, k9), (4, k49)] := ⟨_, rfl⟩
        refine wp_cutq R86 ?_ ?_
        ·have H := h84
         rcases cond_some H with ⟨c87, H⟩ | ⟨c87, H⟩
         ·have hk := hk.lit 28 c87 rfl
          refine cnd_true hk rfl rfl ?_
          apply wp_region_lit
          refine sm _ rfl hk rfl rfl rfl fun a hk => ?_
          refine sv (.int .i64 (w64 ((w64 ((x0.getD u28.toNat 0) * (x1.getD u52.toNat 0))) * 5))) hk rfl rfl rfl fun a hk => ?_
          refine sa _ rfl hk rfl rfl rfl fun a hk => ?_
          show wpList _ _ _ [] _ _
          refine wpList_nil ?_
          obtain rfl := Option.some.inj H
          show R86 _ _
          rw [hR86]
          exact ⟨(w64 ((w64 ((x0.getD u28.toNat 0) * (x1.getD u52.toNat 0))) * 5)), rfl, (hk.c 2 rfl (hk.c 3 rfl (hk.c 4 rfl (hk.c 5 rfl (hk.c 6 rfl (hk.c 7 rfl (hk.c 8 rfl hk.k))))))), (hs.pick [(1, 1), (2, 2), (3, 3), (4, 4)] rfl)⟩
         ·have hk := hk.lit 28 c87 rfl
          refine cnd_false hk rfl rfl ?_
          refine wp_skip ?_
          obtain rfl := Option.some.inj H
          show R86 _ _
          rw [hR86]
          exact ⟨(w64 ((x0.getD u28.toNat 0) * (x1.getD u52.toNat 0))), rfl, (hk.c 2 rfl (hk.c 3 rfl (hk.c 4 rfl (hk.c 5 rfl (hk.c 6 rfl (hk.c 7 rfl (hk.c 8 rfl hk.k))))))), (hs.pick [(1, 1), (2, 2), (3, 3), (4, 4)] rfl)⟩
        ·intro a w hR0
         rw [hR86] at hR0
         obtain ⟨u82, rfl, hk, hs⟩ := hR0
         have H := HL85
         try dsimp only at H
         refine hK79 _ _ ?_
         apply wp_region_lit
         refine sm _ rfl hk rfl rfl rfl fun a hk => ?_
         refine sm _ rfl hk rfl rfl rfl fun a hk => ?_
         refine sv (.int .i64 (w64 (u28 + u52))) hk rfl rfl rfl fun a hk => ?_
         refine sv (.int .i64 (Int.tmod (w64 (u28 + u52)) 5)) hk rfl rfl rfl fun a hk => ?_
         rcases ite_some H with ⟨c88, H⟩ | ⟨_, H⟩
         rotate_left
         ·cases H
         obtain ⟨b89, q90, hAc88⟩ := (o50.view).some_ (Int.tmod (w64 (u28 + u52)) 5) c88.1 (by rw [lh51]; exact c88.2)
         refine sia rfl hk rfl rfl rfl rfl un103 sz3 c88.1 c88.2 hAc88 fun a hk => ?_
         obtain ⟨_, rfl, e91⟩ := (o50.view).at_ 0 (Int.tmod (w64 (u28 + u52)) 5) c88.1 (by rw [lh51]; exact c88.2)
         refine sl (v := (.int .i64 (u48.getD (Int.tmod (w64 (u28 + u52)) 5).toNat 0))) rfl hk rfl rfl rfl ag3 ((e91 0 _ rfl).cell (hs.hasG (k := 4) rfl)) fun a hk => ?_
         refine sm _ rfl hk rfl rfl rfl fun a hk => ?_
         refine sv (.int .i64 (w64 ((u48.getD (Int.tmod (w64 (u28 + u52)) 5).toNat 0) + u82))) hk rfl rfl rfl fun a hk => ?_
         rcases ite_some H with ⟨c92, H⟩ | ⟨_, H⟩
         rotate_left
         ·cases H
         obtain ⟨b93, q94, hAc92⟩ := (o50.view).some_ (Int.tmod (w64 (u28 + u52)) 5) c92.1 (by rw [lh51]; exact c92.2)
         refine sia rfl hk rfl rfl rfl rfl un103 sz3 c92.1 c92.2 hAc92 fun a hk => ?_
         refine so (j := 0) 4 0 (w64 ((u48.getD (Int.tmod (w64 (u28 + u52)) 5).toNat 0) + u82)) hs rfl o50 c92.1 (by rw [lh51]; exact c92.2) rfl hk rfl rfl rfl rfl rfl sz3 (by simp [Value.cells, Value.oneCell']) (Nat.le_of_ble_eq_true rfl) (fun _ _ h => ⟨by rw [h.1]; rfl, h.2⟩) fun k95 w a hk o96 hs => ?_
         have lh97 : (u48.set (Int.tmod (w64 (u28 + u52)) 5).toNat (w64 ((u48.getD (Int.tmod (w64 (u28 + u52)) 5).toNat 0) + u82))).length = 5 := by rw [List.length_set]; exact lh51
         show wpList _ _ _ [] _ _
         refine wpList_nil ?_
         refine hK68 _ _ ?_
         have hs := hs.pick [(1, 1), (2, 2), (3, 3), (4, 4)] rfl
         apply wp_region_lit
         refine sm _ rfl hk rfl rfl rfl fun a hk => ?_
         refine sv (.int .i64 (w64 (u52 + 1))) hk rfl rfl rfl fun a hk => ?_
         refine sa _ rfl hk rfl rfl rfl fun a hk => ?_
         show wpList _ _ _ [] _ _
         refine wpList_nil ?_
         obtain rfl := Option.some.inj H
         obtain ⟨m98, hmm98, h64⟩ := h64
         show ∃ n', n' < _ ∧ I61 n' _ _
         refine ⟨m98, hmm98, ?_⟩
         rw [hI61]
         exact ⟨(u48.set (Int.tmod (w64 (u28 + u52)) 5).toNat (w64 ((u48.getD (Int.tmod (w64 (u28 + u52)) 5).toNat 0) + u82))), (w64 (u52 + 1)), _, h64, (hk.c 2 rfl (hk.c 3 rfl (hk.c 4 rfl (hk.c 5 rfl (hk.c 6 rfl (hk.c 7 rfl hk.k)))))), (hs.pick [(1, 1), (2, 2), (3, 3), (4, 4)] rfl), o96, lh97⟩
       ·have hk := hk.lit 15 c67 rfl
        refine cnd_false hk rfl rfl ?_
        refine wp_exit ?_
        obtain rfl := Option.some.inj H
        show R60 _ _
        rw [hR60]
        exact ⟨u48, _, h64.symm, (hk.c 2 rfl (hk.c 3 rfl (hk.c 4 rfl (hk.c 5 rfl (hk.c 6 rfl hk.k))))), (hs.pick [(1, 1), (2, 2), (3, 3), (4, 4)] rfl), o50, lh51⟩
     ·intro a w hR0
      rw [hR60] at hR0
      obtain ⟨u53, k54, rfl, hk, hs, o55, lh56⟩ := hR0
      have H := HL59
      try dsimp only at H
      refine hK44 _ _ ?_
      apply wp_region_lit
      refine sm _ rfl hk rfl rfl rfl fun a hk => ?_
      refine sv (.int .i64 (w64 (u28 + 1))) hk rfl rfl rfl fun a hk => ?_
      refine sa _ rfl hk rfl rfl rfl fun a hk => ?_
      show wpList _ _ _ [] _ _
      refine wpList_nil ?_
      obtain rfl := Option.some.inj H
      obtain ⟨m99, hmm99, h40⟩ := h40
      show ∃ n', n' < _ ∧ I37 n' _ _
      refine ⟨m99, hmm99, ?_⟩
      rw [hI37]
      exact ⟨u53, (w64 (u28 + 1)), _, h40, (hk.c 2 rfl (hk.c 3 rfl (hk.c 4 rfl (hk.c 5 rfl (hk.c 6 rfl hk.k))))), (hs.pick [(1, 1), (2, 2), (3, 3), (4, 4)] rfl), o55, lh56⟩
    ·have hk := hk.lit 11 c43 rfl
     refine cnd_false hk rfl rfl ?_
     refine wp_exit ?_
     obtain rfl := Option.some.inj H
     show R36 _ _
     rw [hR36]
     exact ⟨u24, _, h40.symm, (hk.c 4 rfl (hk.c 5 rfl hk.k)), (hs.pick [(3, 3), (4, 4)] rfl), o26, lh27⟩
  ·intro a w hR0
   rw [hR36] at hR0
   obtain ⟨u29, k30, rfl, hk, hs, o31, lh32⟩ := hR0
   have H := HL35
   try dsimp only at H
   refine hK20 _ _ ?_
   have hs := hs.pick [(3, 3), (4, 4)] rfl
   apply wp_seq_k; intro K100 hK100
   apply wp_region_lit
   refine slna (k := 4) hs rfl o31 lh32 rfl hk rfl rfl rfl ag103 sz103 fun a hk => ?_
   obtain ⟨y101, h102, H⟩ := bind_some H
   refine sc rfl en105 hk rfl rfl rfl (spec_l03Carry_t _ u29 lh32 _ h102) ?_
   rintro _ w ⟨rfl, lh103, hG⟩ a hk
   have hs := hs.call0 hG
   refine sswa 3 y101 hs rfl o10 lh11 lh103 rfl rfl hk rfl rfl rfl rfl sz103 fun k104 w a hk o105 hs => ?_
   show wpList _ _ _ [] _ _
   refine wpList_nil ?_
   refine hK100 _ _ ?_
   refine wp_ret ?_
   obtain rfl := Option.some.inj H
   exact fin hk _ [(aggI .i64 y101)] rfl ⟨⟨_, rfl, run_loadA ag103 sz103 o105 lh103 hs (q := 3) rfl⟩, trivial⟩ ⟨rfl, lh103, (hs.pick [] rfl).dnil⟩

noncomputable def spec_l03Less.s0  (u31 : List Int) (u35 : Int) : Option (((List Int) × Int) ⊕ Ex ((List Int)) ((List Int))) :=
  (bif (decide (u35 < 4)) then (if 0 ≤ (w64 (u35 + 1)) ∧ (w64 (u35 + 1)) < (5 : Int) then (if 0 ≤ u35 ∧ u35 < (5 : Int) then (if 0 ≤ (w64 (u35 + 1)) ∧ (w64 (u35 + 1)) < (5 : Int) then (if 0 ≤ u35 ∧ u35 < (5 : Int) then (if 0 ≤ u35 ∧ u35 < (5 : Int) then (some (.inl (((u31.set (w64 (u35 + 1)).toNat (w64 ((u31.getD (w64 (u35 + 1)).toNat 0) + (Int.fdiv (u31.getD u35.toNat 0) (2 ^ 26))))).set u35.toNat (IntKind.wrap .i64 ((BitVec.ofInt 64 ((u31.set (w64 (u35 + 1)).toNat (w64 ((u31.getD (w64 (u35 + 1)).toNat 0) + (Int.fdiv (u31.getD u35.toNat 0) (2 ^ 26))))).getD u35.toNat 0) &&& BitVec.ofInt 64 67108863).toNat : Int))), (w64 (u35 + 1))))) else none) else none) else none) else none) else none) else (some (.inr (.out u31))))
noncomputable def spec_l03Less.f (x0 : List Int) : Option ((List Int)) :=
  (if 0 ≤ (0 : Int) ∧ (0 : Int) < (5 : Int) then (if 0 ≤ (0 : Int) ∧ (0 : Int) < (5 : Int) then ((loopO (fun s => spec_l03Less.s0  s.1 s.2) ((x0.set (0 : Int).toNat (w64 ((x0.getD (0 : Int).toNat 0) + 5))), 0)).bind fun o => match o with | .out u36 => (if 0 ≤ (4 : Int) ∧ (4 : Int) < (5 : Int) then (bif ((Int.fdiv (u36.getD (4 : Int).toNat 0) (2 ^ 26)) == 0) then (some x0) else (if 0 ≤ (4 : Int) ∧ (4 : Int) < (5 : Int) then (if 0 ≤ (4 : Int) ∧ (4 : Int) < (5 : Int) then (some (u36.set (4 : Int).toNat (IntKind.wrap .i64 ((BitVec.ofInt 64 (u36.getD (4 : Int).toNat 0) &&& BitVec.ofInt 64 67108863).toNat : Int)))) else none) else none)) else none) | .ret r => (some r)) else none) else none)
set_option maxRecDepth 100000 in
set_option maxHeartbeats 0 in
theorem spec_l03Less_t (w0 : World) (x0 : List Int) (e0_ : x0.length = 5) (r : (List Int)) (H : spec_l03Less.f x0 = some r) :
    Calls Try.prog 104 #[aggI .i64 x0] w0 (Ret (fun v w => v = aggI .i64 r ∧ r.length = 5 ∧ Sat [] w0 w [] [])) := by
  have hs : Sat [] w0 w0 [] [] := Sat.init w0 [] [] (by simp) (by simp) List.nodup_nil (by simp [blks])
  unfold spec_l03Less.f at H
  refine enter Try.func104 rfl Try.ntmps104 rfl fun a hk => ?_
  apply wp_seq_k; intro K1 hK1
  apply wp_region_lit
  refine sbxa 1 hs rfl hk rfl rfl rfl e0_ rfl fun b2 k3 w a hk o4 hs => ?_
  refine sala 2 ((Lay.int .i64)) (m := 5) (z := 0) (zc := [.int .i64 0]) hs rfl hk rfl rfl ze103 (by exact ⟨rfl, rfl⟩) rfl rfl rfl fun b5 k6 w a hk o7 hs => ?_
  have lh8 : (List.replicate 5 (0 : Int)).length = 5 := List.length_replicate
  show wpList _ _ _ [] _ _
  refine wpList_nil ?_
  refine hK1 _ _ ?_
  apply wp_seq_k; intro K9 hK9
  apply wp_region_lit
  refine slna (k := 1) hs rfl o4 e0_ rfl hk rfl rfl rfl ag103 sz103 fun a hk => ?_
  refine sala 3 ((Lay.int .i64)) (m := 5) (z := 0) (zc := [.int .i64 0]) hs rfl hk rfl rfl ze103 (by exact ⟨rfl, rfl⟩) rfl rfl rfl fun b10 k11 w a hk o12 hs => ?_
  have lh13 : (List.replicate 5 (0 : Int)).length = 5 := List.length_replicate
  refine sswa 3 x0 hs rfl o12 lh13 e0_ rfl rfl hk rfl rfl rfl rfl sz103 fun k14 w a hk o15 hs => ?_
  show wpList _ _ _ [] _ _
  refine wpList_nil ?_
  refine hK9 _ _ ?_
  apply wp_seq_k; intro K16 hK16
  apply wp_region_lit
  rcases ite_some H with ⟨c17, H⟩ | ⟨_, H⟩
  rotate_left
  ·cases H
  obtain ⟨b18, q19, hAc17⟩ := (o15.view).some_ (0 : Int) c17.1 (by rw [e0_]; exact c17.2)
  refine sia rfl hk rfl rfl rfl rfl un103 sz3 c17.1 c17.2 hAc17 fun a hk => ?_
  obtain ⟨_, rfl, e20⟩ := (o15.view).at_ 0 (0 : Int) c17.1 (by rw [e0_]; exact c17.2)
  refine sl (v := (.int .i64 (x0.getD (0 : Int).toNat 0))) rfl hk rfl rfl rfl ag3 ((e20 0 _ rfl).cell (hs.hasG (k := 3) rfl)) fun a hk => ?_
  refine sv (.int .i64 (w64 ((x0.getD (0 : Int).toNat 0) + 5))) hk rfl rfl rfl fun a hk => ?_
  rcases ite_some H with ⟨c21, H⟩ | ⟨_, H⟩
  rotate_left
  ·cases H
  obtain ⟨b22, q23, hAc21⟩ := (o15.view).some_ (0 : Int) c21.1 (by rw [e0_]; exact c21.2)
  refine sia rfl hk rfl rfl rfl rfl un103 sz3 c21.1 c21.2 hAc21 fun a hk => ?_
  refine so (j := 0) 3 0 (w64 ((x0.getD (0 : Int).toNat 0) + 5)) hs rfl o15 c21.1 (by rw [e0_]; exact c21.2) rfl hk rfl rfl rfl rfl rfl sz3 (by simp [Value.cells, Value.oneCell']) (Nat.le_of_ble_eq_true rfl) (fun _ _ h => ⟨by rw [h.1]; rfl, h.2⟩) fun k24 w a hk o25 hs => ?_
  have lh26 : (x0.set (0 : Int).toNat (w64 ((x0.getD (0 : Int).toNat 0) + 5))).length = 5 := by rw [List.length_set]; exact e0_
  show wpList _ _ _ [] _ _
  refine wpList_nil ?_
  refine hK16 _ _ ?_
  apply wp_seq_k; intro K27 hK27
  apply wp_seq_k; intro K28 hK28
  apply wp_region_lit
  refine sa _ rfl hk rfl rfl rfl fun a hk => ?_
  show wpList _ _ _ [] _ _
  refine wpList_nil ?_
  refine hK28 _ _ ?_
  have hs := hs.pick [(1, 1), (2, 2), (3, 3)] rfl
  obtain ⟨o40, h41, HL42⟩ := bind_some H
  clear H
  obtain ⟨R43, hR43⟩ : ∃ R : Act → World → Prop, R = fun a w => ∃ (u36 : List Int) (k37 : Chunk), o40 = .out u36 ∧ Kn [(1, (.pointer (some ⟨b2, 0, none⟩))), (2, (.pointer (some ⟨b5, 0, none⟩))), (3, (.pointer (some ⟨b10, 0, none⟩)))] 39 a ∧ Sat [] w0 w [] [(1, k3), (2, k6), (3, k37)] ∧ Own (Lay.int .i64) 103 (some ⟨b10, 0, none⟩) 5 u36 k37 ∧ u36.length = 5 := ⟨_, rfl⟩
  refine wp_cutq R43 ?_ ?_
  ·refine wp_block ?_
   obtain ⟨fu45, h41⟩ := loopO_some h41
   obtain ⟨I44, hI44⟩ : ∃ I : Nat → Act → World → Prop, I = fun fu a w => ∃ (u31 : List Int) (u35 : Int) (k32 : Chunk), loopN (fun s => spec_l03Less.s0  s.1 s.2) fu (u31, u35) = some o40 ∧ Kn [(1, (.pointer (some ⟨b2, 0, none⟩))), (2, (.pointer (some ⟨b5, 0, none⟩))), (3, (.pointer (some ⟨b10, 0, none⟩))), (4, (.int .i64 u35))] 39 a ∧ Sat [] w0 w [] [(1, k3), (2, k6), (3, k32)] ∧ Own (Lay.int .i64) 103 (some ⟨b10, 0, none⟩) 5 u31 k32 ∧ u31.length = 5 := ⟨_, rfl⟩
   refine wp_loop_ghost I44 fu45 ?_ ?_
   ·rw [hI44]
    exact ⟨(x0.set (0 : Int).toNat (w64 ((x0.getD (0 : Int).toNat 0) + 5))), 0, _, h41, (hk.c 1 rfl (hk.c 2 rfl (hk.c 3 rfl (hk.c 4 rfl hk.k)))), (hs.pick [(1, 1), (2, 2), (3, 3)] rfl), o25, lh26⟩
   ·clear h41 hk hs
    intro fu45 a w hI0
    rw [hI44] at hI0
    obtain ⟨u31, u35, k32, hi, hk, hs, o33, lh34⟩ := hI0
    obtain ⟨x46, H, h47⟩ := loop_round hi
    try dsimp only at H
    unfold spec_l03Less.s0 at H
    apply wp_seq_k; intro K48 hK48
    apply wp_seq_k; intro K49 hK49
    apply wp_region_lit
    refine sm _ rfl hk rfl rfl rfl fun a hk => ?_
    refine sv (.bool (decide (u35 < 4))) hk rfl rfl rfl fun a hk => ?_
    show wpList _ _ _ [] _ _
    refine wpList_nil ?_
    refine hK49 _ _ ?_
    rcases cond_some H with ⟨c50, H⟩ | ⟨c50, H⟩
    ·have hk := hk.lit 11 c50 rfl
     refine cnd_true hk rfl rfl ?_
     refine wp_skip ?_
     refine hK48 _ _ ?_
     apply wp_seq_k; intro K51 hK51
     refine wp_block ?_
     apply wp_seq_k; intro K52 hK52
     refine wp_region_tree (.q 0 (.q 1 (.q 2 (.q 3 (.alt 4 (.alt 5 (.alt 6 (.alt 7 (.alt 8 (.alt 9 (.last 10) .stop) .stop) .stop) .stop) .stop) .stop))))) mo (by kernel_rfl) (hs.pick [(1, 1), (2, 2), (3, 3)] rfl) fun _ => ?_
     have hs := hs.drew
     refine tqst (.int .i64 u35) hk rfl rfl rfl rfl (fun w hs => sm _ rfl hk rfl rfl rfl fun a hk => qe hk) fun a hk => ?_
     refine tqst (.int .i64 (w64 (u35 + 1))) hk rfl rfl rfl rfl (fun w hs => sv (.int .i64 (w64 (u35 + 1))) hk rfl rfl rfl fun a hk => qe hk) fun a hk => ?_
     rcases ite_some H with ⟨c54, H⟩ | ⟨_, H⟩
     rotate_left
     ·cases H
     obtain ⟨b55, q56, hAc54⟩ := (o33.view).some_ (w64 (u35 + 1)) c54.1 (by rw [lh34]; exact c54.2)
     refine tqst (.pointer (some (padd (some ⟨b10, 0, none⟩) ((w64 (u35 + 1)).toNat * 1)))) hk rfl rfl rfl rfl (fun w hs => sia rfl hk rfl rfl rfl rfl un103 sz3 c54.1 c54.2 hAc54 fun a hk => qe hk) fun a hk => ?_
     obtain ⟨_, rfl, e57⟩ := (o33.view).at_ 0 (w64 (u35 + 1)) c54.1 (by rw [lh34]; exact c54.2)
     refine tqst (.int .i64 (u31.getD (w64 (u35 + 1)).toNat 0)) hk rfl rfl rfl rfl (fun w hs => sl (v := (.int .i64 (u31.getD (w64 (u35 + 1)).toNat 0))) rfl hk rfl rfl rfl ag3 ((e57 0 _ rfl).cell (hs.hasG (k := 3) rfl)) fun a hk => qe hk) fun a hk => ?_
     refine tsst hk rfl rfl (fun K_r53_4 hK_r53_4 w hF => ?_) wt_stop
     have hs := hs.f hF
     refine sm _ rfl hk rfl rfl rfl fun a hk => ?_
     refine se (hs.pick [(1, 1), (2, 2), (3, 3)] rfl) hk (hK_r53_4 _ _ ?_)
     refine tsst hk rfl rfl (fun K_r53_5 hK_r53_5 w hF => ?_) wt_stop
     have hs := hs.f hF
     rcases ite_some H with ⟨c58, H⟩ | ⟨_, H⟩
     rotate_left
     ·cases H
     obtain ⟨b59, q60, hAc58⟩ := (o33.view).some_ u35 c58.1 (by rw [lh34]; exact c58.2)
     refine sia rfl hk rfl rfl rfl rfl un103 sz3 c58.1 c58.2 hAc58 fun a hk => ?_
     refine se (hs.pick [(1, 1), (2, 2), (3, 3)] rfl) hk (hK_r53_5 _ _ ?_)
     refine tsst hk rfl rfl (fun K_r53_6 hK_r53_6 w hF => ?_) wt_stop
     have hs := hs.f hF
     obtain ⟨_, rfl, e61⟩ := (o33.view).at_ 0 u35 c58.1 (by rw [lh34]; exact c58.2)
     refine sl (v := (.int .i64 (u31.getD u35.toNat 0))) rfl hk rfl rfl rfl ag3 ((e61 0 _ rfl).cell (hs.hasG (k := 3) rfl)) fun a hk => ?_
     refine se (hs.pick [(1, 1), (2, 2), (3, 3)] rfl) hk (hK_r53_6 _ _ ?_)
     refine tsst hk rfl rfl (fun K_r53_7 hK_r53_7 w hF => ?_) wt_stop
     have hs := hs.f hF
     refine sv (.int .i64 (Int.fdiv (u31.getD u35.toNat 0) (2 ^ 26))) hk rfl rfl rfl fun a hk => ?_
     refine se (hs.pick [(1, 1), (2, 2), (3, 3)] rfl) hk (hK_r53_7 _ _ ?_)
     refine tsst hk rfl rfl (fun K_r53_8 hK_r53_8 w hF => ?_) wt_stop
     have hs := hs.f hF
     refine sv (.int .i64 (w64 ((u31.getD (w64 (u35 + 1)).toNat 0) + (Int.fdiv (u31.getD u35.toNat 0) (2 ^ 26))))) hk rfl rfl rfl fun a hk => ?_
     refine se (hs.pick [(1, 1), (2, 2), (3, 3)] rfl) hk (hK_r53_8 _ _ ?_)
     refine tsst hk rfl rfl (fun K_r53_9 hK_r53_9 w hF => ?_) wt_stop
     have hs := hs.f hF
     rcases ite_some H with ⟨c62, H⟩ | ⟨_, H⟩
     rotate_left
     ·cases H
     obtain ⟨b63, q64, hAc62⟩ := (o33.view).some_ (w64 (u35 + 1)) c62.1 (by rw [lh34]; exact c62.2)
     refine sia rfl hk rfl rfl rfl rfl un103 sz3 c62.1 c62.2 hAc62 fun a hk => ?_
     refine se (hs.pick [(1, 1), (2, 2), (3, 3)] rfl) hk (hK_r53_9 _ _ ?_)
     refine tlst hk rfl rfl fun K_r53_10 hK_r53_10 w hF => ?_
     have hs := hs.f hF
     refine so (j := 0) 3 0 (w64 ((u31.getD (w64 (u35 + 1)).toNat 0) + (Int.fdiv (u31.getD u35.toNat 0) (2 ^ 26)))) hs rfl o33 c62.1 (by rw [lh34]; exact c62.2) rfl hk rfl rfl rfl rfl rfl sz3 (by simp [Value.cells, Value.oneCell']) (Nat.le_of_ble_eq_true rfl) (fun _ _ h => ⟨by rw [h.1]; rfl, h.2⟩) fun k65 w a hk o66 hs => ?_
     have lh67 : (u31.set (w64 (u35 + 1)).toNat (w64 ((u31.getD (w64 (u35 + 1)).toNat 0) + (Int.fdiv (u31.getD u35.toNat 0) (2 ^ 26))))).length = 5 := by rw [List.length_set]; exact lh34
     refine se trivial hk (hK_r53_10 _ _ fun w hF => ?_)
     have hs := hs.f hF
     refine hK52 _ _ ?_
     apply wp_region_lit
     refine sm _ rfl hk rfl rfl rfl fun a hk => ?_
     rcases ite_some H with ⟨c68, H⟩ | ⟨_, H⟩
     rotate_left
     ·cases H
     obtain ⟨b69, q70, hAc68⟩ := (o66.view).some_ u35 c68.1 (by rw [lh67]; exact c68.2)
     refine sia rfl hk rfl rfl rfl rfl un103 sz3 c68.1 c68.2 hAc68 fun a hk => ?_
     obtain ⟨_, rfl, e71⟩ := (o66.view).at_ 0 u35 c68.1 (by rw [lh67]; exact c68.2)
     refine sl (v := (.int .i64 ((u31.set (w64 (u35 + 1)).toNat (w64 ((u31.getD (w64 (u35 + 1)).toNat 0) + (Int.fdiv (u31.getD u35.toNat 0) (2 ^ 26))))).getD u35.toNat 0))) rfl hk rfl rfl rfl ag3 ((e71 0 _ rfl).cell (hs.hasG (k := 3) rfl)) fun a hk => ?_
     refine sv (.int .i64 (IntKind.wrap .i64 ((BitVec.ofInt 64 ((u31.set (w64 (u35 + 1)).toNat (w64 ((u31.getD (w64 (u35 + 1)).toNat 0) + (Int.fdiv (u31.getD u35.toNat 0) (2 ^ 26))))).getD u35.toNat 0) &&& BitVec.ofInt 64 67108863).toNat : Int))) hk rfl rfl rfl fun a hk => ?_
     rcases ite_some H with ⟨c72, H⟩ | ⟨_, H⟩
     rotate_left
     ·cases H
     obtain ⟨b73, q74, hAc72⟩ := (o66.view).some_ u35 c72.1 (by rw [lh67]; exact c72.2)
     refine sia rfl hk rfl rfl rfl rfl un103 sz3 c72.1 c72.2 hAc72 fun a hk => ?_
     refine so (j := 0) 3 0 (IntKind.wrap .i64 ((BitVec.ofInt 64 ((u31.set (w64 (u35 + 1)).toNat (w64 ((u31.getD (w64 (u35 + 1)).toNat 0) + (Int.fdiv (u31.getD u35.toNat 0) (2 ^ 26))))).getD u35.toNat 0) &&& BitVec.ofInt 64 67108863).toNat : Int)) hs rfl o66 c72.1 (by rw [lh67]; exact c72.2) rfl hk rfl rfl rfl rfl rfl sz3 (by simp [Value.cells, Value.oneCell']) (Nat.le_of_ble_eq_true rfl) (fun _ _ h => ⟨by rw [h.1]; rfl, h.2⟩) fun k75 w a hk o76 hs => ?_
     have lh77 : ((u31.set (w64 (u35 + 1)).toNat (w64 ((u31.getD (w64 (u35 + 1)).toNat 0) + (Int.fdiv (u31.getD u35.toNat 0) (2 ^ 26))))).set u35.toNat (IntKind.wrap .i64 ((BitVec.ofInt 64 ((u31.set (w64 (u35 + 1)).toNat (w64 ((u31.getD (w64 (u35 + 1)).toNat 0) + (Int.fdiv (u31.getD u35.toNat 0) (2 ^ 26))))).getD u35.toNat 0) &&& BitVec.ofInt 64 67108863).toNat : Int))).length = 5 := by rw [List.length_set]; exact lh67
     show wpList _ _ _ [] _ _
     refine wpList_nil ?_
     refine hK51 _ _ ?_
     have hs := hs.pick [(1, 1), (2, 2), (3, 3)] rfl
     apply wp_region_lit
     refine sm _ rfl hk rfl rfl rfl fun a hk => ?_
     refine sv (.int .i64 (w64 (u35 + 1))) hk rfl rfl rfl fun a hk => ?_
     refine sa _ rfl hk rfl rfl rfl fun a hk => ?_
     show wpList _ _ _ [] _ _
     refine wpList_nil ?_
     obtain rfl := Option.some.inj H
     obtain ⟨m78, hmm78, h47⟩ := h47
     show ∃ n', n' < _ ∧ I44 n' _ _
     refine ⟨m78, hmm78, ?_⟩
     rw [hI44]
     exact ⟨((u31.set (w64 (u35 + 1)).toNat (w64 ((u31.getD (w64 (u35 + 1)).toNat 0) + (Int.fdiv (u31.getD u35.toNat 0) (2 ^ 26))))).set u35.toNat (IntKind.wrap .i64 ((BitVec.ofInt 64 ((u31.set (w64 (u35 + 1)).toNat (w64 ((u31.getD (w64 (u35 + 1)).toNat 0) + (Int.fdiv (u31.getD u35.toNat 0) (2 ^ 26))))).getD u35.toNat 0) &&& BitVec.ofInt 64 67108863).toNat : Int))), (w64 (u35 + 1)), _, h47, (hk.c 1 rfl (hk.c 2 rfl (hk.c 3 rfl (hk.c 4 rfl hk.k)))), (hs.pick [(1, 1), (2, 2), (3, 3)] rfl), o76, lh77⟩
    ·have hk := hk.lit 11 c50 rfl
     refine cnd_false hk rfl rfl ?_
     refine wp_exit ?_
     obtain rfl := Option.some.inj H
     show R43 _ _
     rw [hR43]
     exact ⟨u31, _, h47.symm, (hk.c 1 rfl (hk.c 2 rfl (hk.c 3 rfl hk.k))), (hs.pick [(1, 1), (2, 2), (3, 3)] rfl), o33, lh34⟩
  ·intro a w hR0
   rw [hR43] at hR0
   obtain ⟨u36, k37, rfl, hk, hs, o38, lh39⟩ := hR0
   have H := HL42
   try dsimp only at H
   refine hK27 _ _ ?_
   apply wp_seq_k; intro K79 hK79
   apply wp_seq_k; intro K80 hK80
   apply wp_region_lit
   rcases ite_some H with ⟨c81, H⟩ | ⟨_, H⟩
   rotate_left
   ·cases H
   obtain ⟨b82, q83, hAc81⟩ := (o38.view).some_ (4 : Int) c81.1 (by rw [lh39]; exact c81.2)
   refine sia rfl hk rfl rfl rfl rfl un103 sz3 c81.1 c81.2 hAc81 fun a hk => ?_
   obtain ⟨_, rfl, e84⟩ := (o38.view).at_ 0 (4 : Int) c81.1 (by rw [lh39]; exact c81.2)
   refine sl (v := (.int .i64 (u36.getD (4 : Int).toNat 0))) rfl hk rfl rfl rfl ag3 ((e84 0 _ rfl).cell (hs.hasG (k := 3) rfl)) fun a hk => ?_
   refine sv (.int .i64 (Int.fdiv (u36.getD (4 : Int).toNat 0) (2 ^ 26))) hk rfl rfl rfl fun a hk => ?_
   refine sv (.bool ((Int.fdiv (u36.getD (4 : Int).toNat 0) (2 ^ 26)) == 0)) hk rfl rfl rfl fun a hk => ?_
   show wpList _ _ _ [] _ _
   refine wpList_nil ?_
   refine hK80 _ _ ?_
   rcases cond_some H with ⟨c85, H⟩ | ⟨c85, H⟩
   ·have hk := hk.lit 32 c85 rfl
    refine cnd_true hk rfl rfl ?_
    apply wp_seq_k; intro K86 hK86
    apply wp_region_lit
    refine slna (k := 1) hs rfl o4 e0_ rfl hk rfl rfl rfl ag103 sz103 fun a hk => ?_
    refine sswa 2 x0 hs rfl o7 lh8 e0_ rfl rfl hk rfl rfl rfl rfl sz103 fun k87 w a hk o88 hs => ?_
    show wpList _ _ _ [] _ _
    refine wpList_nil ?_
    refine hK86 _ _ ?_
    refine wp_ret ?_
    obtain rfl := Option.some.inj H
    exact fin hk _ [(aggI .i64 x0)] rfl ⟨⟨_, rfl, run_loadA ag103 sz103 o88 e0_ hs (q := 2) rfl⟩, trivial⟩ ⟨rfl, e0_, (hs.pick [] rfl).dnil⟩
   ·have hk := hk.lit 32 c85 rfl
    refine cnd_false hk rfl rfl ?_
    refine wp_skip ?_
    refine hK79 _ _ ?_
    apply wp_seq_k; intro K89 hK89
    apply wp_region_lit
    rcases ite_some H with ⟨c90, H⟩ | ⟨_, H⟩
    rotate_left
    ·cases H
    obtain ⟨b91, q92, hAc90⟩ := (o38.view).some_ (4 : Int) c90.1 (by rw [lh39]; exact c90.2)
    refine sia rfl hk rfl rfl rfl rfl un103 sz3 c90.1 c90.2 hAc90 fun a hk => ?_
    obtain ⟨_, rfl, e93⟩ := (o38.view).at_ 0 (4 : Int) c90.1 (by rw [lh39]; exact c90.2)
    refine sl (v := (.int .i64 (u36.getD (4 : Int).toNat 0))) rfl hk rfl rfl rfl ag3 ((e93 0 _ rfl).cell (hs.hasG (k := 3) rfl)) fun a hk => ?_
    refine sv (.int .i64 (IntKind.wrap .i64 ((BitVec.ofInt 64 (u36.getD (4 : Int).toNat 0) &&& BitVec.ofInt 64 67108863).toNat : Int))) hk rfl rfl rfl fun a hk => ?_
    rcases ite_some H with ⟨c94, H⟩ | ⟨_, H⟩
    rotate_left
    ·cases H
    obtain ⟨b95, q96, hAc94⟩ := (o38.view).some_ (4 : Int) c94.1 (by rw [lh39]; exact c94.2)
    refine sia rfl hk rfl rfl rfl rfl un103 sz3 c94.1 c94.2 hAc94 fun a hk => ?_
    refine so (j := 0) 3 0 (IntKind.wrap .i64 ((BitVec.ofInt 64 (u36.getD (4 : Int).toNat 0) &&& BitVec.ofInt 64 67108863).toNat : Int)) hs rfl o38 c94.1 (by rw [lh39]; exact c94.2) rfl hk rfl rfl rfl rfl rfl sz3 (by simp [Value.cells, Value.oneCell']) (Nat.le_of_ble_eq_true rfl) (fun _ _ h => ⟨by rw [h.1]; rfl, h.2⟩) fun k97 w a hk o98 hs => ?_
    have lh99 : (u36.set (4 : Int).toNat (IntKind.wrap .i64 ((BitVec.ofInt 64 (u36.getD (4 : Int).toNat 0) &&& BitVec.ofInt 64 67108863).toNat : Int))).length = 5 := by rw [List.length_set]; exact lh39
    show wpList _ _ _ [] _ _
    refine wpList_nil ?_
    refine hK89 _ _ ?_
    have hs := hs.pick [(2, 2), (3, 3)] rfl
    apply wp_seq_k; intro K100 hK100
    apply wp_region_lit
    refine slna (k := 3) hs rfl o98 lh99 rfl hk rfl rfl rfl ag103 sz103 fun a hk => ?_
    refine sswa 2 (u36.set (4 : Int).toNat (IntKind.wrap .i64 ((BitVec.ofInt 64 (u36.getD (4 : Int).toNat 0) &&& BitVec.ofInt 64 67108863).toNat : Int))) hs rfl o7 lh8 lh99 rfl rfl hk rfl rfl rfl rfl sz103 fun k101 w a hk o102 hs => ?_
    show wpList _ _ _ [] _ _
    refine wpList_nil ?_
    refine hK100 _ _ ?_
    refine wp_ret ?_
    obtain rfl := Option.some.inj H
    exact fin hk _ [(aggI .i64 (u36.set (4 : Int).toNat (IntKind.wrap .i64 ((BitVec.ofInt 64 (u36.getD (4 : Int).toNat 0) &&& BitVec.ofInt 64 67108863).toNat : Int))))] rfl ⟨⟨_, rfl, run_loadA ag103 sz103 o102 lh99 hs (q := 2) rfl⟩, trivial⟩ ⟨rfl, lh99, (hs.pick [] rfl).dnil⟩

noncomputable def spec_l03Tag.s1  (u54 : ByteArray) : Option ((ByteArray) ⊕ Ex (ByteArray) (ByteArray)) :=
  (bif (decide ((u54.size : Int) < 17)) then (if u54.size + (⟨#[0]⟩ : ByteArray).size ≤ 1152921504606846976 then (some (.inl (u54 ++ (⟨#[0]⟩ : ByteArray)))) else none) else (some (.inr (.out u54))))
noncomputable def spec_l03Tag.s2 (y70 : (List Int)) (u83 : List Int) (u87 : Int) : Option (((List Int) × Int) ⊕ Ex ((List Int)) (ByteArray)) :=
  (bif (decide (u87 < 5)) then (if 0 ≤ u87 ∧ u87 < (5 : Int) then (if 0 ≤ u87 ∧ u87 < (5 : Int) then (if 0 ≤ u87 ∧ u87 < (5 : Int) then (some (.inl ((u83.set u87.toNat (w64 ((u83.getD u87.toNat 0) + (y70.getD u87.toNat 0)))), (w64 (u87 + 1))))) else none) else none) else none) else (some (.inr (.out u83))))
noncomputable def spec_l03Tag.s0 (x1 : ByteArray) (y6 : (List Int)) (u27 : List Int) (u31 : Int) : Option (((List Int) × Int) ⊕ Ex ((List Int)) (ByteArray)) :=
  (bif (decide (u31 < (x1.size : Int))) then (if 0 ≤ u31 ∧ u31 ≤ (if (w64 (u31 + 16)) < (x1.size : Int) then (w64 (u31 + 16)) else (x1.size : Int)) ∧ (if (w64 (u31 + 16)) < (x1.size : Int) then (w64 (u31 + 16)) else (x1.size : Int)) ≤ (x1.size : Int) then (if (x1.extract u31.toNat (if (w64 (u31 + 16)) < (x1.size : Int) then (w64 (u31 + 16)) else (x1.size : Int)).toNat).size + (⟨#[1]⟩ : ByteArray).size ≤ 1152921504606846976 then ((loopO (fun s => spec_l03Tag.s1  s) ((x1.extract u31.toNat (if (w64 (u31 + 16)) < (x1.size : Int) then (w64 (u31 + 16)) else (x1.size : Int)).toNat) ++ (⟨#[1]⟩ : ByteArray))).bind fun o => match o with | .out u55 => ((spec_l03Parts.f u55).bind fun y70 => ((loopO (fun s => spec_l03Tag.s2 y70 s.1 s.2) (u27, 0)).bind fun o => match o with | .out u88 => ((spec_l03Times.f u88 y6).bind fun y120 => (some (.inl (y120, (w64 (u31 + 16)))))) | .ret r => (some (.inr (.ret r))))) | .ret r => (some (.inr (.ret r)))) else none) else none) else (some (.inr (.out u27))))
noncomputable def spec_l03Tag.s3 (x0 : ByteArray) (y130 : (List Int)) (u150 : List Int) (u148 : Int) (u149 : Int) : Option (((List Int) × Int × Int) ⊕ Ex ((List Int)) (ByteArray)) :=
  (bif (decide (u149 < 16)) then (if 0 ≤ (IntKind.wrap .i64 (Int.tdiv (w64 (8 * u149)) 26)) ∧ (IntKind.wrap .i64 (Int.tdiv (w64 (8 * u149)) 26)) < (5 : Int) then (if 0 ≤ (Int.tmod (w64 (8 * u149)) 26) then (((bif (decide ((Int.tmod (w64 (8 * u149)) 26) > 18)) then (if 0 ≤ (w64 ((IntKind.wrap .i64 (Int.tdiv (w64 (8 * u149)) 26)) + 1)) ∧ (w64 ((IntKind.wrap .i64 (Int.tdiv (w64 (8 * u149)) 26)) + 1)) < (5 : Int) then (if 0 ≤ (w64 (26 - (Int.tmod (w64 (8 * u149)) 26))) then (some (w64 ((Int.fdiv (y130.getD (IntKind.wrap .i64 (Int.tdiv (w64 (8 * u149)) 26)).toNat 0) (2 ^ min (Int.tmod (w64 (8 * u149)) 26).toNat 64)) + (IntKind.wrap .i64 ((y130.getD (w64 ((IntKind.wrap .i64 (Int.tdiv (w64 (8 * u149)) 26)) + 1)).toNat 0) * 2 ^ min (w64 (26 - (Int.tmod (w64 (8 * u149)) 26))).toNat 64))))) else none) else none) else (some (Int.fdiv (y130.getD (IntKind.wrap .i64 (Int.tdiv (w64 (8 * u149)) 26)).toNat 0) (2 ^ min (Int.tmod (w64 (8 * u149)) 26).toNat 64)))) : Option (Int)).bind fun u182 => (if 0 ≤ (w64 (16 + u149)) ∧ (w64 (16 + u149)) < (x0.size : Int) then (if u150.length + ([(IntKind.wrap .u8 (w64 (u148 + (w64 ((IntKind.wrap .i64 ((BitVec.ofInt 64 u182 &&& BitVec.ofInt 64 255).toNat : Int)) + (IntKind.wrap .i64 (byteAt x0 (w64 (16 + u149)))))))))]).length ≤ 1073741824 then (some (.inl ((u150 ++ ([(IntKind.wrap .u8 (w64 (u148 + (w64 ((IntKind.wrap .i64 ((BitVec.ofInt 64 u182 &&& BitVec.ofInt 64 255).toNat : Int)) + (IntKind.wrap .i64 (byteAt x0 (w64 (16 + u149)))))))))])), (Int.fdiv (w64 (u148 + (w64 ((IntKind.wrap .i64 ((BitVec.ofInt 64 u182 &&& BitVec.ofInt 64 255).toNat : Int)) + (IntKind.wrap .i64 (byteAt x0 (w64 (16 + u149)))))))) (2 ^ 8)), (w64 (u149 + 1))))) else none) else none)) else none) else none) else (some (.inr (.out u150))))
noncomputable def spec_l03Tag.f (x0 : ByteArray) (x1 : ByteArray) : Option (ByteArray) :=
  ((spec_l03Clamp.f x0).bind fun y3 => (if y3.size + (⟨#[0]⟩ : ByteArray).size ≤ 1152921504606846976 then ((spec_l03Parts.f (y3 ++ (⟨#[0]⟩ : ByteArray))).bind fun y6 => ((loopO (fun s => spec_l03Tag.s0 x1 y6 s.1 s.2) ((List.replicate 5 (0 : Int)), 0)).bind fun o => match o with | .out u32 => ((spec_l03Carry.f u32).bind fun y127 => ((spec_l03Less.f y127).bind fun y130 => ((loopO (fun s => spec_l03Tag.s3 x0 y130 s.1 s.2.1 s.2.2) (([] : List Int), 0, 0)).bind fun o => match o with | .out u155 => (some (strOfNums u155)) | .ret r => (some r)))) | .ret r => (some r))) else none))
set_option maxRecDepth 100000 in
set_option maxHeartbeats 0 in
theorem spec_l03Tag_t (w0 : World) (x0 : ByteArray) (x1 : ByteArray) (r : ByteArray) (H : spec_l03Tag.f x0 x1 = some r) :
    Calls Try.prog 55 #[.string x0, .string x1] w0 (Ret (fun v w => v = .string r ∧ Sat [] w0 w [] [])) := by
  have hs : Sat [] w0 w0 [] [] := Sat.init w0 [] [] (by simp) (by simp) List.nodup_nil (by simp [blks])
  unfold spec_l03Tag.f at H
  refine enter Try.func55 rfl Try.ntmps55 rfl fun a hk => ?_
  apply wp_seq_k; intro K1 hK1
  apply wp_region_lit
  refine sa _ rfl hk rfl rfl rfl fun a hk => ?_
  show wpList _ _ _ [] _ _
  refine wpList_nil ?_
  refine hK1 _ _ ?_
  apply wp_seq_k; intro K2 hK2
  apply wp_region_lit
  refine sm _ rfl hk rfl rfl rfl fun a hk => ?_
  obtain ⟨y3, h4, H⟩ := bind_some H
  refine sc rfl en57 hk rfl rfl rfl (spec_l03Clamp_t _ x0 _ h4) ?_
  rintro _ w ⟨rfl, hG⟩ a hk
  have hs := hs.call0 hG
  rcases ite_some H with ⟨c5, H⟩ | ⟨_, H⟩
  rotate_left
  ·cases H
  refine ssa rfl hk rfl rfl rfl rfl c5 fun a hk => ?_
  obtain ⟨y6, h7, H⟩ := bind_some H
  refine sc rfl en102 hk rfl rfl rfl (spec_l03Parts_t _ (y3 ++ (⟨#[0]⟩ : ByteArray)) _ h7) ?_
  rintro _ w ⟨rfl, lh8, hG⟩ a hk
  have hs := hs.call0 hG
  refine sala 1 ((Lay.int .i64)) (m := 5) (z := 0) (zc := [.int .i64 0]) hs rfl hk rfl rfl ze103 (by exact ⟨rfl, rfl⟩) rfl rfl rfl fun b9 k10 w a hk o11 hs => ?_
  have lh12 : (List.replicate 5 (0 : Int)).length = 5 := List.length_replicate
  refine sswa 1 y6 hs rfl o11 lh12 lh8 rfl rfl hk rfl rfl rfl rfl sz103 fun k13 w a hk o14 hs => ?_
  show wpList _ _ _ [] _ _
  refine wpList_nil ?_
  refine hK2 _ _ ?_
  apply wp_seq_k; intro K15 hK15
  apply wp_region_lit
  refine sbd (pv := []) rfl hk rfl rfl rfl bd103_11 fun a hk => ?_
  have lh16 : (List.replicate 5 (0 : Int)).length = 5 := List.length_replicate
  refine sala 2 ((Lay.int .i64)) (m := 5) (z := 0) (zc := [.int .i64 0]) hs rfl hk rfl rfl ze103 (by exact ⟨rfl, rfl⟩) rfl rfl rfl fun b17 k18 w a hk o19 hs => ?_
  have lh20 : (List.replicate 5 (0 : Int)).length = 5 := List.length_replicate
  refine sswa 2 (List.replicate 5 (0 : Int)) hs rfl o19 lh20 lh16 rfl rfl hk rfl rfl rfl rfl sz103 fun k21 w a hk o22 hs => ?_
  show wpList _ _ _ [] _ _
  refine wpList_nil ?_
  refine hK15 _ _ ?_
  apply wp_seq_k; intro K23 hK23
  apply wp_seq_k; intro K24 hK24
  apply wp_region_lit
  refine sa _ rfl hk rfl rfl rfl fun a hk => ?_
  show wpList _ _ _ [] _ _
  refine wpList_nil ?_
  refine hK24 _ _ ?_
  have hs := hs.pick [(1, 1), (2, 2)] rfl
  obtain ⟨o36, h37, HL38⟩ := bind_some H
  clear H
  obtain ⟨R39, hR39⟩ : ∃ R : Act → World → Prop, R = fun a w => ∃ (u32 : List Int) (k33 : Chunk), o36 = .out u32 ∧ Kn [(0, (.string x0)), (6, (.pointer (some ⟨b17, 0, none⟩)))] 108 a ∧ Sat [] w0 w [] [(2, k33)] ∧ Own (Lay.int .i64) 103 (some ⟨b17, 0, none⟩) 5 u32 k33 ∧ u32.length = 5 := ⟨_, rfl⟩
  refine wp_cutq R39 ?_ ?_
  ·refine wp_block ?_
   obtain ⟨fu41, h37⟩ := loopO_some h37
   obtain ⟨I40, hI40⟩ : ∃ I : Nat → Act → World → Prop, I = fun fu a w => ∃ (u27 : List Int) (u31 : Int) (k28 : Chunk), loopN (fun s => spec_l03Tag.s0 x1 y6 s.1 s.2) fu (u27, u31) = some o36 ∧ Kn [(0, (.string x0)), (1, (.string x1)), (5, (.pointer (some ⟨b9, 0, none⟩))), (6, (.pointer (some ⟨b17, 0, none⟩))), (7, (.int .i64 u31))] 108 a ∧ Sat [] w0 w [] [(1, k13), (2, k28)] ∧ Own (Lay.int .i64) 103 (some ⟨b17, 0, none⟩) 5 u27 k28 ∧ u27.length = 5 := ⟨_, rfl⟩
   refine wp_loop_ghost I40 fu41 ?_ ?_
   ·rw [hI40]
    exact ⟨(List.replicate 5 (0 : Int)), 0, _, h37, (hk.c 0 rfl (hk.c 1 rfl (hk.c 5 rfl (hk.c 6 rfl (hk.c 7 rfl hk.k))))), (hs.pick [(1, 1), (2, 2)] rfl), o22, lh16⟩
   ·clear h37 hk hs
    intro fu41 a w hI0
    rw [hI40] at hI0
    obtain ⟨u27, u31, k28, hi, hk, hs, o29, lh30⟩ := hI0
    obtain ⟨x42, H, h43⟩ := loop_round hi
    try dsimp only at H
    unfold spec_l03Tag.s0 at H
    apply wp_seq_k; intro K44 hK44
    apply wp_seq_k; intro K45 hK45
    apply wp_region_lit
    refine sm _ rfl hk rfl rfl rfl fun a hk => ?_
    refine sm _ rfl hk rfl rfl rfl fun a hk => ?_
    refine sles rfl hk rfl rfl rfl un9 fun a hk => ?_
    refine sv (.bool (decide (u31 < (x1.size : Int)))) hk rfl rfl rfl fun a hk => ?_
    show wpList _ _ _ [] _ _
    refine wpList_nil ?_
    refine hK45 _ _ ?_
    rcases cond_some H with ⟨c46, H⟩ | ⟨c46, H⟩
    ·have hk := hk.lit 24 c46 rfl
     refine cnd_true hk rfl rfl ?_
     refine wp_skip ?_
     refine hK44 _ _ ?_
     apply wp_seq_k; intro K47 hK47
     refine wp_block ?_
     apply wp_seq_k; intro K48 hK48
     apply wp_region_lit
     refine sm _ rfl hk rfl rfl rfl fun a hk => ?_
     refine sm _ rfl hk rfl rfl rfl fun a hk => ?_
     refine sm _ rfl hk rfl rfl rfl fun a hk => ?_
     refine sles rfl hk rfl rfl rfl un9 fun a hk => ?_
     refine sm _ rfl hk rfl rfl rfl fun a hk => ?_
     refine sv (.int .i64 (w64 (u31 + 16))) hk rfl rfl rfl fun a hk => ?_
     refine smn rfl hk rfl rfl rfl rfl fun a hk => ?_
     rcases ite_some H with ⟨c49, H⟩ | ⟨_, H⟩
     rotate_left
     ·cases H
     refine ssl_lh rfl hk rfl rfl rfl rfl rfl un9 c49.1 c49.2.1 c49.2.2 fun a hk => ?_
     rcases ite_some H with ⟨c50, H⟩ | ⟨_, H⟩
     rotate_left
     ·cases H
     refine ssa rfl hk rfl rfl rfl rfl c50 fun a hk => ?_
     refine sa _ rfl hk rfl rfl rfl fun a hk => ?_
     show wpList _ _ _ [] _ _
     refine wpList_nil ?_
     refine hK48 _ _ ?_
     apply wp_seq_k; intro K51 hK51
     obtain ⟨o56, h57, HL58⟩ := bind_some H
     clear H
     obtain ⟨R59, hR59⟩ : ∃ R : Act → World → Prop, R = fun a w => ∃ (u55 : ByteArray), o56 = .out u55 ∧ Kn [(0, (.string x0)), (1, (.string x1)), (5, (.pointer (some ⟨b9, 0, none⟩))), (6, (.pointer (some ⟨b17, 0, none⟩))), (7, (.int .i64 u31)), (8, (.string u55))] 108 a ∧ Sat [] w0 w [] [(1, k13), (2, k28)] := ⟨_, rfl⟩
     refine wp_cutq R59 ?_ ?_
     ·refine wp_block ?_
      obtain ⟨fu61, h57⟩ := loopO_some h57
      obtain ⟨I60, hI60⟩ : ∃ I : Nat → Act → World → Prop, I = fun fu a w => ∃ (u54 : ByteArray), loopN (fun s => spec_l03Tag.s1  s) fu u54 = some o56 ∧ Kn [(0, (.string x0)), (1, (.string x1)), (5, (.pointer (some ⟨b9, 0, none⟩))), (6, (.pointer (some ⟨b17, 0, none⟩))), (7, (.int .i64 u31)), (8, (.string u54))] 108 a ∧ Sat [] w0 w [] [(1, k13), (2, k28)] := ⟨_, rfl⟩
      refine wp_loop_ghost I60 fu61 ?_ ?_
      ·rw [hI60]
       exact ⟨((x1.extract u31.toNat (if (w64 (u31 + 16)) < (x1.size : Int) then (w64 (u31 + 16)) else (x1.size : Int)).toNat) ++ (⟨#[1]⟩ : ByteArray)), h57, (hk.c 0 rfl (hk.c 1 rfl (hk.c 5 rfl (hk.c 6 rfl (hk.c 7 rfl (hk.c 8 rfl hk.k)))))), (hs.pick [(1, 1), (2, 2)] rfl)⟩
      ·clear h57 hk hs
       intro fu61 a w hI0
       rw [hI60] at hI0
       obtain ⟨u54, hi, hk, hs⟩ := hI0
       obtain ⟨x62, H, h63⟩ := loop_round hi
       try dsimp only at H
       unfold spec_l03Tag.s1 at H
       apply wp_seq_k; intro K64 hK64
       apply wp_seq_k; intro K65 hK65
       apply wp_region_lit
       refine sm _ rfl hk rfl rfl rfl fun a hk => ?_
       refine sles rfl hk rfl rfl rfl un9 fun a hk => ?_
       refine sv (.bool (decide ((u54.size : Int) < 17))) hk rfl rfl rfl fun a hk => ?_
       show wpList _ _ _ [] _ _
       refine wpList_nil ?_
       refine hK65 _ _ ?_
       have hs := hs.pick [(1, 1), (2, 2)] rfl
       rcases cond_some H with ⟨c66, H⟩ | ⟨c66, H⟩
       ·have hk := hk.lit 38 c66 rfl
        refine cnd_true hk rfl rfl ?_
        refine wp_skip ?_
        refine hK64 _ _ ?_
        refine wp_block ?_
        apply wp_region_lit
        refine sm _ rfl hk rfl rfl rfl fun a hk => ?_
        rcases ite_some H with ⟨c67, H⟩ | ⟨_, H⟩
        rotate_left
        ·cases H
        refine ssa rfl hk rfl rfl rfl rfl c67 fun a hk => ?_
        refine sa _ rfl hk rfl rfl rfl fun a hk => ?_
        show wpList _ _ _ [] _ _
        refine wpList_nil ?_
        obtain rfl := Option.some.inj H
        obtain ⟨m68, hmm68, h63⟩ := h63
        show ∃ n', n' < _ ∧ I60 n' _ _
        refine ⟨m68, hmm68, ?_⟩
        rw [hI60]
        exact ⟨(u54 ++ (⟨#[0]⟩ : ByteArray)), h63, (hk.c 0 rfl (hk.c 1 rfl (hk.c 5 rfl (hk.c 6 rfl (hk.c 7 rfl (hk.c 8 rfl hk.k)))))), (hs.pick [(1, 1), (2, 2)] rfl)⟩
       ·have hk := hk.lit 38 c66 rfl
        refine cnd_false hk rfl rfl ?_
        refine wp_exit ?_
        obtain rfl := Option.some.inj H
        show R59 _ _
        rw [hR59]
        exact ⟨u54, h63.symm, (hk.c 0 rfl (hk.c 1 rfl (hk.c 5 rfl (hk.c 6 rfl (hk.c 7 rfl (hk.c 8 rfl hk.k)))))), (hs.pick [(1, 1), (2, 2)] rfl)⟩
     ·intro a w hR0
      rw [hR59] at hR0
      obtain ⟨u55, rfl, hk, hs⟩ := hR0
      have H := HL58
      try dsimp only at H
      refine hK51 _ _ ?_
      have hs := hs.pick [(1, 1), (2, 2)] rfl
      apply wp_seq_k; intro K69 hK69
      apply wp_region_lit
      refine sm _ rfl hk rfl rfl rfl fun a hk => ?_
      obtain ⟨y70, h71, H⟩ := bind_some H
      refine sc rfl en102 hk rfl rfl rfl (spec_l03Parts_t _ u55 _ h71) ?_
      rintro _ w ⟨rfl, lh72, hG⟩ a hk
      have hs := hs.call0 hG
      refine sala 5 ((Lay.int .i64)) (m := 5) (z := 0) (zc := [.int .i64 0]) hs rfl hk rfl rfl ze103 (by exact ⟨rfl, rfl⟩) rfl rfl rfl fun b73 k74 w a hk o75 hs => ?_
      have lh76 : (List.replicate 5 (0 : Int)).length = 5 := List.length_replicate
      refine sswa 5 y70 hs rfl o75 lh76 lh72 rfl rfl hk rfl rfl rfl rfl sz103 fun k77 w a hk o78 hs => ?_
      show wpList _ _ _ [] _ _
      refine wpList_nil ?_
      refine hK69 _ _ ?_
      apply wp_seq_k; intro K79 hK79
      apply wp_seq_k; intro K80 hK80
      apply wp_region_lit
      refine sa _ rfl hk rfl rfl rfl fun a hk => ?_
      show wpList _ _ _ [] _ _
      refine wpList_nil ?_
      refine hK80 _ _ ?_
      obtain ⟨o92, h93, HL94⟩ := bind_some H
      clear H
      obtain ⟨R95, hR95⟩ : ∃ R : Act → World → Prop, R = fun a w => ∃ (u88 : List Int) (k89 : Chunk), o92 = .out u88 ∧ Kn [(0, (.string x0)), (1, (.string x1)), (5, (.pointer (some ⟨b9, 0, none⟩))), (6, (.pointer (some ⟨b17, 0, none⟩))), (7, (.int .i64 u31))] 108 a ∧ Sat [] w0 w [] [(1, k13), (2, k89)] ∧ Own (Lay.int .i64) 103 (some ⟨b17, 0, none⟩) 5 u88 k89 ∧ u88.length = 5 := ⟨_, rfl⟩
      refine wp_cutq R95 ?_ ?_
      ·refine wp_block ?_
       obtain ⟨fu97, h93⟩ := loopO_some h93
       obtain ⟨I96, hI96⟩ : ∃ I : Nat → Act → World → Prop, I = fun fu a w => ∃ (u83 : List Int) (u87 : Int) (k84 : Chunk), loopN (fun s => spec_l03Tag.s2 y70 s.1 s.2) fu (u83, u87) = some o92 ∧ Kn [(0, (.string x0)), (1, (.string x1)), (5, (.pointer (some ⟨b9, 0, none⟩))), (6, (.pointer (some ⟨b17, 0, none⟩))), (7, (.int .i64 u31)), (9, (.pointer (some ⟨b73, 0, none⟩))), (10, (.int .i64 u87))] 108 a ∧ Sat [] w0 w [] [(1, k13), (2, k84), (5, k77)] ∧ Own (Lay.int .i64) 103 (some ⟨b17, 0, none⟩) 5 u83 k84 ∧ u83.length = 5 := ⟨_, rfl⟩
       refine wp_loop_ghost I96 fu97 ?_ ?_
       ·rw [hI96]
        exact ⟨u27, 0, _, h93, (hk.c 0 rfl (hk.c 1 rfl (hk.c 5 rfl (hk.c 6 rfl (hk.c 7 rfl (hk.c 9 rfl (hk.c 10 rfl hk.k))))))), (hs.pick [(1, 1), (2, 2), (5, 5)] rfl), o29, lh30⟩
       ·clear h93 hk hs
        intro fu97 a w hI0
        rw [hI96] at hI0
        obtain ⟨u83, u87, k84, hi, hk, hs, o85, lh86⟩ := hI0
        obtain ⟨x98, H, h99⟩ := loop_round hi
        try dsimp only at H
        unfold spec_l03Tag.s2 at H
        apply wp_seq_k; intro K100 hK100
        apply wp_seq_k; intro K101 hK101
        apply wp_region_lit
        refine sm _ rfl hk rfl rfl rfl fun a hk => ?_
        refine sv (.bool (decide (u87 < 5))) hk rfl rfl rfl fun a hk => ?_
        show wpList _ _ _ [] _ _
        refine wpList_nil ?_
        refine hK101 _ _ ?_
        rcases cond_some H with ⟨c102, H⟩ | ⟨c102, H⟩
        ·have hk := hk.lit 44 c102 rfl
         refine cnd_true hk rfl rfl ?_
         refine wp_skip ?_
         refine hK100 _ _ ?_
         have hs := hs.pick [(1, 1), (2, 2), (5, 5)] rfl
         apply wp_seq_k; intro K103 hK103
         refine wp_block ?_
         refine wp_region_tree (.q 0 (.q 1 (.q 2 (.alt 3 (.alt 4 (.alt 5 (.alt 6 (.alt 7 (.last 8) .stop) .stop) .stop) .stop) .stop)))) mo (by kernel_rfl) (hs.pick [(1, 1), (2, 2), (5, 5)] rfl) fun _ => ?_
         have hs := hs.drew
         refine tqst (.int .i64 u87) hk rfl rfl rfl rfl (fun w hs => sm _ rfl hk rfl rfl rfl fun a hk => qe hk) fun a hk => ?_
         rcases ite_some H with ⟨c105, H⟩ | ⟨_, H⟩
         rotate_left
         ·cases H
         obtain ⟨b106, q107, hAc105⟩ := (o85.view).some_ u87 c105.1 (by rw [lh86]; exact c105.2)
         refine tqst (.pointer (some (padd (some ⟨b17, 0, none⟩) (u87.toNat * 1)))) hk rfl rfl rfl rfl (fun w hs => sia rfl hk rfl rfl rfl rfl un103 sz3 c105.1 c105.2 hAc105 fun a hk => qe hk) fun a hk => ?_
         obtain ⟨_, rfl, e108⟩ := (o85.view).at_ 0 u87 c105.1 (by rw [lh86]; exact c105.2)
         refine tqst (.int .i64 (u83.getD u87.toNat 0)) hk rfl rfl rfl rfl (fun w hs => sl (v := (.int .i64 (u83.getD u87.toNat 0))) rfl hk rfl rfl rfl ag3 ((e108 0 _ rfl).cell (hs.hasG (k := 2) rfl)) fun a hk => qe hk) fun a hk => ?_
         refine tsst hk rfl rfl (fun K_r104_3 hK_r104_3 w hF => ?_) wt_stop
         have hs := hs.f hF
         refine sm _ rfl hk rfl rfl rfl fun a hk => ?_
         refine se (hs.pick [(1, 1), (2, 2), (5, 5)] rfl) hk (hK_r104_3 _ _ ?_)
         refine tsst hk rfl rfl (fun K_r104_4 hK_r104_4 w hF => ?_) wt_stop
         have hs := hs.f hF
         rcases ite_some H with ⟨c109, H⟩ | ⟨_, H⟩
         rotate_left
         ·cases H
         obtain ⟨b110, q111, hAc109⟩ := (o78.view).some_ u87 c109.1 (by rw [lh72]; exact c109.2)
         refine sia rfl hk rfl rfl rfl rfl un103 sz3 c109.1 c109.2 hAc109 fun a hk => ?_
         refine se (hs.pick [(1, 1), (2, 2), (5, 5)] rfl) hk (hK_r104_4 _ _ ?_)
         refine tsst hk rfl rfl (fun K_r104_5 hK_r104_5 w hF => ?_) wt_stop
         have hs := hs.f hF
         obtain ⟨_, rfl, e112⟩ := (o78.view).at_ 0 u87 c109.1 (by rw [lh72]; exact c109.2)
         refine sl (v := (.int .i64 (y70.getD u87.toNat 0))) rfl hk rfl rfl rfl ag3 ((e112 0 _ rfl).cell (hs.hasG (k := 5) rfl)) fun a hk => ?_
         refine se (hs.pick [(1, 1), (2, 2), (5, 5)] rfl) hk (hK_r104_5 _ _ ?_)
         refine tsst hk rfl rfl (fun K_r104_6 hK_r104_6 w hF => ?_) wt_stop
         have hs := hs.f hF
         refine sv (.int .i64 (w64 ((u83.getD u87.toNat 0) + (y70.getD u87.toNat 0)))) hk rfl rfl rfl fun a hk => ?_
         refine se (hs.pick [(1, 1), (2, 2), (5, 5)] rfl) hk (hK_r104_6 _ _ ?_)
         refine tsst hk rfl rfl (fun K_r104_7 hK_r104_7 w hF => ?_) wt_stop
         have hs := hs.f hF
         rcases ite_some H with ⟨c113, H⟩ | ⟨_, H⟩
         rotate_left
         ·cases H
         obtain ⟨b114, q115, hAc113⟩ := (o85.view).some_ u87 c113.1 (by rw [lh86]; exact c113.2)
         refine sia rfl hk rfl rfl rfl rfl un103 sz3 c113.1 c113.2 hAc113 fun a hk => ?_
         refine se (hs.pick [(1, 1), (2, 2), (5, 5)] rfl) hk (hK_r104_7 _ _ ?_)
         refine tlst hk rfl rfl fun K_r104_8 hK_r104_8 w hF => ?_
         have hs := hs.f hF
         refine so (j := 0) 2 0 (w64 ((u83.getD u87.toNat 0) + (y70.getD u87.toNat 0))) hs rfl o85 c113.1 (by rw [lh86]; exact c113.2) rfl hk rfl rfl rfl rfl rfl sz3 (by simp [Value.cells, Value.oneCell']) (Nat.le_of_ble_eq_true rfl) (fun _ _ h => ⟨by rw [h.1]; rfl, h.2⟩) fun k116 w a hk o117 hs => ?_
         have lh118 : (u83.set u87.toNat (w64 ((u83.getD u87.toNat 0) + (y70.getD u87.toNat 0)))).length = 5 := by rw [List.length_set]; exact lh86
         refine se trivial hk (hK_r104_8 _ _ fun w hF => ?_)
         have hs := hs.f hF
         refine hK103 _ _ ?_
         apply wp_region_lit
         refine sm _ rfl hk rfl rfl rfl fun a hk => ?_
         refine sv (.int .i64 (w64 (u87 + 1))) hk rfl rfl rfl fun a hk => ?_
         refine sa _ rfl hk rfl rfl rfl fun a hk => ?_
         show wpList _ _ _ [] _ _
         refine wpList_nil ?_
         obtain rfl := Option.some.inj H
         obtain ⟨m119, hmm119, h99⟩ := h99
         show ∃ n', n' < _ ∧ I96 n' _ _
         refine ⟨m119, hmm119, ?_⟩
         rw [hI96]
         exact ⟨(u83.set u87.toNat (w64 ((u83.getD u87.toNat 0) + (y70.getD u87.toNat 0)))), (w64 (u87 + 1)), _, h99, (hk.c 0 rfl (hk.c 1 rfl (hk.c 5 rfl (hk.c 6 rfl (hk.c 7 rfl (hk.c 9 rfl (hk.c 10 rfl hk.k))))))), (hs.pick [(1, 1), (2, 2), (5, 5)] rfl), o117, lh118⟩
        ·have hk := hk.lit 44 c102 rfl
         refine cnd_false hk rfl rfl ?_
         refine wp_exit ?_
         obtain rfl := Option.some.inj H
         show R95 _ _
         rw [hR95]
         exact ⟨u83, _, h99.symm, (hk.c 0 rfl (hk.c 1 rfl (hk.c 5 rfl (hk.c 6 rfl (hk.c 7 rfl hk.k))))), (hs.pick [(1, 1), (2, 2)] rfl), o85, lh86⟩
      ·intro a w hR0
       rw [hR95] at hR0
       obtain ⟨u88, k89, rfl, hk, hs, o90, lh91⟩ := hR0
       have H := HL94
       try dsimp only at H
       refine hK79 _ _ ?_
       apply wp_region_lit
       refine slna (k := 2) hs rfl o90 lh91 rfl hk rfl rfl rfl ag103 sz103 fun a hk => ?_
       refine slna (k := 1) hs rfl o14 lh8 rfl hk rfl rfl rfl ag103 sz103 fun a hk => ?_
       obtain ⟨y120, h121, H⟩ := bind_some H
       refine sc rfl en103 hk rfl rfl rfl (spec_l03Times_t _ u88 lh91 y6 lh8 _ h121) ?_
       rintro _ w ⟨rfl, lh122, hG⟩ a hk
       have hs := hs.call0 hG
       refine sswa 2 y120 hs rfl o90 lh91 lh122 rfl rfl hk rfl rfl rfl rfl sz103 fun k123 w a hk o124 hs => ?_
       show wpList _ _ _ [] _ _
       refine wpList_nil ?_
       refine hK47 _ _ ?_
       have hs := hs.pick [(1, 1), (2, 2)] rfl
       apply wp_region_lit
       refine sm _ rfl hk rfl rfl rfl fun a hk => ?_
       refine sv (.int .i64 (w64 (u31 + 16))) hk rfl rfl rfl fun a hk => ?_
       refine sa _ rfl hk rfl rfl rfl fun a hk => ?_
       show wpList _ _ _ [] _ _
       refine wpList_nil ?_
       obtain rfl := Option.some.inj H
       obtain ⟨m125, hmm125, h43⟩ := h43
       show ∃ n', n' < _ ∧ I40 n' _ _
       refine ⟨m125, hmm125, ?_⟩
       rw [hI40]
       exact ⟨y120, (w64 (u31 + 16)), _, h43, (hk.c 0 rfl (hk.c 1 rfl (hk.c 5 rfl (hk.c 6 rfl (hk.c 7 rfl hk.k))))), (hs.pick [(1, 1), (2, 2)] rfl), o124, lh122⟩
    ·have hk := hk.lit 24 c46 rfl
     refine cnd_false hk rfl rfl ?_
     refine wp_exit ?_
     obtain rfl := Option.some.inj H
     show R39 _ _
     rw [hR39]
     exact ⟨u27, _, h43.symm, (hk.c 0 rfl (hk.c 6 rfl hk.k)), (hs.pick [(2, 2)] rfl), o29, lh30⟩
  ·intro a w hR0
   rw [hR39] at hR0
   obtain ⟨u32, k33, rfl, hk, hs, o34, lh35⟩ := hR0
   have H := HL38
   try dsimp only at H
   refine hK23 _ _ ?_
   apply wp_seq_k; intro K126 hK126
   apply wp_region_lit
   refine slna (k := 2) hs rfl o34 lh35 rfl hk rfl rfl rfl ag103 sz103 fun a hk => ?_
   obtain ⟨y127, h128, H⟩ := bind_some H
   refine sc rfl en105 hk rfl rfl rfl (spec_l03Carry_t _ u32 lh35 _ h128) ?_
   rintro _ w ⟨rfl, lh129, hG⟩ a hk
   have hs := hs.call0 hG
   obtain ⟨y130, h131, H⟩ := bind_some H
   refine sc rfl en104 hk rfl rfl rfl (spec_l03Less_t _ y127 lh129 _ h131) ?_
   rintro _ w ⟨rfl, lh132, hG⟩ a hk
   have hs := hs.call0 hG
   refine sswa 2 y130 hs rfl o34 lh35 lh132 rfl rfl hk rfl rfl rfl rfl sz103 fun k133 w a hk o134 hs => ?_
   show wpList _ _ _ [] _ _
   refine wpList_nil ?_
   refine hK126 _ _ ?_
   apply wp_seq_k; intro K135 hK135
   apply wp_region_lit
   refine sbs0 8 (Lay.int .u8) hs rfl hk rfl rfl un22 sz5 fun b136 k137 w a hk o138 hs => ?_
   refine sa _ rfl hk rfl rfl rfl fun a hk => ?_
   show wpList _ _ _ [] _ _
   refine wpList_nil ?_
   refine hK135 _ _ ?_
   apply wp_seq_k; intro K139 hK139
   apply wp_region_lit
   refine sa _ rfl hk rfl rfl rfl fun a hk => ?_
   show wpList _ _ _ [] _ _
   refine wpList_nil ?_
   refine hK139 _ _ ?_
   have hs := hs.pick [(2, 2), (8, 8)] rfl
   apply wp_seq_k; intro K140 hK140
   apply wp_seq_k; intro K141 hK141
   apply wp_region_lit
   refine sa _ rfl hk rfl rfl rfl fun a hk => ?_
   show wpList _ _ _ [] _ _
   refine wpList_nil ?_
   refine hK141 _ _ ?_
   obtain ⟨o160, h161, HL162⟩ := bind_some H
   clear H
   obtain ⟨R163, hR163⟩ : ∃ R : Act → World → Prop, R = fun a w => ∃ (u155 : List Int) (A158 : Option Addr) (p159 : Nat) (k156 : Chunk), o160 = .out u155 ∧ Kn [(11, (.slice A158 u155.length p159))] 108 a ∧ Sat [] w0 w [] [(8, k156)] ∧ Own (Lay.int .u8) 5 A158 p159 u155 k156 := ⟨_, rfl⟩
   refine wp_cutq R163 ?_ ?_
   ·refine wp_block ?_
    obtain ⟨fu165, h161⟩ := loopO_some h161
    obtain ⟨I164, hI164⟩ : ∃ I : Nat → Act → World → Prop, I = fun fu a w => ∃ (u150 : List Int) (u148 : Int) (u149 : Int) (A153 : Option Addr) (p154 : Nat) (k151 : Chunk), loopN (fun s => spec_l03Tag.s3 x0 y130 s.1 s.2.1 s.2.2) fu (u150, u148, u149) = some o160 ∧ Kn [(0, (.string x0)), (6, (.pointer (some ⟨b17, 0, none⟩))), (11, (.slice A153 u150.length p154)), (12, (.int .i64 u148)), (13, (.int .i64 u149))] 108 a ∧ Sat [] w0 w [] [(2, k133), (8, k151)] ∧ Own (Lay.int .u8) 5 A153 p154 u150 k151 := ⟨_, rfl⟩
    refine wp_loop_ghost I164 fu165 ?_ ?_
    ·rw [hI164]
     exact ⟨([] : List Int), 0, 0, (some ⟨b136, 0, none⟩), 0, _, h161, (hk.c 0 rfl (hk.c 6 rfl (hk.c 11 rfl (hk.c 12 rfl (hk.c 13 rfl hk.k))))), (hs.pick [(2, 2), (8, 8)] rfl), o138⟩
    ·clear h161 hk hs
     intro fu165 a w hI0
     rw [hI164] at hI0
     obtain ⟨u150, u148, u149, A153, p154, k151, hi, hk, hs, o152⟩ := hI0
     obtain ⟨x166, H, h167⟩ := loop_round hi
     try dsimp only at H
     unfold spec_l03Tag.s3 at H
     apply wp_seq_k; intro K168 hK168
     apply wp_seq_k; intro K169 hK169
     apply wp_region_lit
     refine sm _ rfl hk rfl rfl rfl fun a hk => ?_
     refine sv (.bool (decide (u149 < 16))) hk rfl rfl rfl fun a hk => ?_
     show wpList _ _ _ [] _ _
     refine wpList_nil ?_
     refine hK169 _ _ ?_
     rcases cond_some H with ⟨c170, H⟩ | ⟨c170, H⟩
     ·have hk := hk.lit 63 c170 rfl
      refine cnd_true hk rfl rfl ?_
      refine wp_skip ?_
      refine hK168 _ _ ?_
      apply wp_seq_k; intro K171 hK171
      refine wp_block ?_
      apply wp_seq_k; intro K172 hK172
      apply wp_region_lit
      refine sm _ rfl hk rfl rfl rfl fun a hk => ?_
      refine sv (.int .i64 (w64 (8 * u149))) hk rfl rfl rfl fun a hk => ?_
      refine sa _ rfl hk rfl rfl rfl fun a hk => ?_
      show wpList _ _ _ [] _ _
      refine wpList_nil ?_
      refine hK172 _ _ ?_
      have hs := hs.pick [(2, 2), (8, 8)] rfl
      apply wp_seq_k; intro K173 hK173
      apply wp_region_lit
      refine sm _ rfl hk rfl rfl rfl fun a hk => ?_
      refine sv (.int .i64 (IntKind.wrap .i64 (Int.tdiv (w64 (8 * u149)) 26))) hk rfl rfl rfl fun a hk => ?_
      rcases ite_some H with ⟨c174, H⟩ | ⟨_, H⟩
      rotate_left
      ·cases H
      obtain ⟨b175, q176, hAc174⟩ := (o134.view).some_ (IntKind.wrap .i64 (Int.tdiv (w64 (8 * u149)) 26)) c174.1 (by rw [lh132]; exact c174.2)
      refine sia rfl hk rfl rfl rfl rfl un103 sz3 c174.1 c174.2 hAc174 fun a hk => ?_
      obtain ⟨_, rfl, e177⟩ := (o134.view).at_ 0 (IntKind.wrap .i64 (Int.tdiv (w64 (8 * u149)) 26)) c174.1 (by rw [lh132]; exact c174.2)
      refine sl (v := (.int .i64 (y130.getD (IntKind.wrap .i64 (Int.tdiv (w64 (8 * u149)) 26)).toNat 0))) rfl hk rfl rfl rfl ag3 ((e177 0 _ rfl).cell (hs.hasG (k := 2) rfl)) fun a hk => ?_
      refine sm _ rfl hk rfl rfl rfl fun a hk => ?_
      refine sv (.int .i64 (Int.tmod (w64 (8 * u149)) 26)) hk rfl rfl rfl fun a hk => ?_
      rcases ite_some H with ⟨c178, H⟩ | ⟨_, H⟩
      rotate_left
      ·cases H
      refine ssr rfl hk rfl rfl rfl rfl c178 fun a hk => ?_
      refine sa _ rfl hk rfl rfl rfl fun a hk => ?_
      show wpList _ _ _ [] _ _
      refine wpList_nil ?_
      refine hK173 _ _ ?_
      apply wp_seq_k; intro K179 hK179
      apply wp_seq_k; intro K180 hK180
      apply wp_region_lit
      refine sm _ rfl hk rfl rfl rfl fun a hk => ?_
      refine sv (.int .i64 (Int.tmod (w64 (8 * u149)) 26)) hk rfl rfl rfl fun a hk => ?_
      refine sv (.bool (decide ((Int.tmod (w64 (8 * u149)) 26) > 18))) hk rfl rfl rfl fun a hk => ?_
      show wpList _ _ _ [] _ _
      refine wpList_nil ?_
      refine hK180 _ _ ?_
      obtain ⟨o183, h184, HL185⟩ := bind_some H
      clear H
      obtain ⟨R186, hR186⟩ : ∃ R : Act → World → Prop, R = fun a w => ∃ (u182 : Int), u182 = o183 ∧ Kn [(0, (.string x0)), (6, (.pointer (some ⟨b17, 0, none⟩))), (11, (.slice A153 u150.length p154)), (12, (.int .i64 u148)), (13, (.int .i64 u149)), (15, (.int .i64 u182))] 108 a ∧ Sat [] w0 w [] [(2, k133), (8, k151)] := ⟨_, rfl⟩
      refine wp_cutq R186 ?_ ?_
      ·have H := h184
       rcases cond_some H with ⟨c187, H⟩ | ⟨c187, H⟩
       ·have hk := hk.lit 77 c187 rfl
        refine cnd_true hk rfl rfl ?_
        apply wp_region_lit
        refine sm _ rfl hk rfl rfl rfl fun a hk => ?_
        refine sm _ rfl hk rfl rfl rfl fun a hk => ?_
        refine sv (.int .i64 (IntKind.wrap .i64 (Int.tdiv (w64 (8 * u149)) 26))) hk rfl rfl rfl fun a hk => ?_
        refine sv (.int .i64 (w64 ((IntKind.wrap .i64 (Int.tdiv (w64 (8 * u149)) 26)) + 1))) hk rfl rfl rfl fun a hk => ?_
        rcases ite_some H with ⟨c188, H⟩ | ⟨_, H⟩
        rotate_left
        ·cases H
        obtain ⟨b189, q190, hAc188⟩ := (o134.view).some_ (w64 ((IntKind.wrap .i64 (Int.tdiv (w64 (8 * u149)) 26)) + 1)) c188.1 (by rw [lh132]; exact c188.2)
        refine sia rfl hk rfl rfl rfl rfl un103 sz3 c188.1 c188.2 hAc188 fun a hk => ?_
        obtain ⟨_, rfl, e191⟩ := (o134.view).at_ 0 (w64 ((IntKind.wrap .i64 (Int.tdiv (w64 (8 * u149)) 26)) + 1)) c188.1 (by rw [lh132]; exact c188.2)
        refine sl (v := (.int .i64 (y130.getD (w64 ((IntKind.wrap .i64 (Int.tdiv (w64 (8 * u149)) 26)) + 1)).toNat 0))) rfl hk rfl rfl rfl ag3 ((e191 0 _ rfl).cell (hs.hasG (k := 2) rfl)) fun a hk => ?_
        refine sm _ rfl hk rfl rfl rfl fun a hk => ?_
        refine sv (.int .i64 (Int.tmod (w64 (8 * u149)) 26)) hk rfl rfl rfl fun a hk => ?_
        refine sv (.int .i64 (w64 (26 - (Int.tmod (w64 (8 * u149)) 26)))) hk rfl rfl rfl fun a hk => ?_
        rcases ite_some H with ⟨c192, H⟩ | ⟨_, H⟩
        rotate_left
        ·cases H
        refine ssh rfl hk rfl rfl rfl rfl c192 fun a hk => ?_
        refine sv (.int .i64 (w64 ((Int.fdiv (y130.getD (IntKind.wrap .i64 (Int.tdiv (w64 (8 * u149)) 26)).toNat 0) (2 ^ min (Int.tmod (w64 (8 * u149)) 26).toNat 64)) + (IntKind.wrap .i64 ((y130.getD (w64 ((IntKind.wrap .i64 (Int.tdiv (w64 (8 * u149)) 26)) + 1)).toNat 0) * 2 ^ min (w64 (26 - (Int.tmod (w64 (8 * u149)) 26))).toNat 64))))) hk rfl rfl rfl fun a hk => ?_
        refine sa _ rfl hk rfl rfl rfl fun a hk => ?_
        show wpList _ _ _ [] _ _
        refine wpList_nil ?_
        obtain rfl := Option.some.inj H
        show R186 _ _
        rw [hR186]
        exact ⟨(w64 ((Int.fdiv (y130.getD (IntKind.wrap .i64 (Int.tdiv (w64 (8 * u149)) 26)).toNat 0) (2 ^ min (Int.tmod (w64 (8 * u149)) 26).toNat 64)) + (IntKind.wrap .i64 ((y130.getD (w64 ((IntKind.wrap .i64 (Int.tdiv (w64 (8 * u149)) 26)) + 1)).toNat 0) * 2 ^ min (w64 (26 - (Int.tmod (w64 (8 * u149)) 26))).toNat 64)))), rfl, (hk.c 0 rfl (hk.c 6 rfl (hk.c 11 rfl (hk.c 12 rfl (hk.c 13 rfl (hk.c 15 rfl hk.k)))))), (hs.pick [(2, 2), (8, 8)] rfl)⟩
       ·have hk := hk.lit 77 c187 rfl
        refine cnd_false hk rfl rfl ?_
        refine wp_skip ?_
        obtain rfl := Option.some.inj H
        show R186 _ _
        rw [hR186]
        exact ⟨(Int.fdiv (y130.getD (IntKind.wrap .i64 (Int.tdiv (w64 (8 * u149)) 26)).toNat 0) (2 ^ min (Int.tmod (w64 (8 * u149)) 26).toNat 64)), rfl, (hk.c 0 rfl (hk.c 6 rfl (hk.c 11 rfl (hk.c 12 rfl (hk.c 13 rfl (hk.c 15 rfl hk.k)))))), (hs.pick [(2, 2), (8, 8)] rfl)⟩
      ·intro a w hR0
       rw [hR186] at hR0
       obtain ⟨u182, rfl, hk, hs⟩ := hR0
       have H := HL185
       try dsimp only at H
       refine hK179 _ _ ?_
       apply wp_seq_k; intro K193 hK193
       apply wp_region_lit
       refine sm _ rfl hk rfl rfl rfl fun a hk => ?_
       refine sm _ rfl hk rfl rfl rfl fun a hk => ?_
       refine sv (.int .i64 (IntKind.wrap .i64 ((BitVec.ofInt 64 u182 &&& BitVec.ofInt 64 255).toNat : Int))) hk rfl rfl rfl fun a hk => ?_
       refine sm _ rfl hk rfl rfl rfl fun a hk => ?_
       refine sm _ rfl hk rfl rfl rfl fun a hk => ?_
       refine sv (.int .i64 (w64 (16 + u149))) hk rfl rfl rfl fun a hk => ?_
       rcases ite_some H with ⟨c194, H⟩ | ⟨_, H⟩
       rotate_left
       ·cases H
       refine six rfl hk rfl rfl rfl rfl un9 c194.1 c194.2 fun a hk => ?_
       refine scn rfl hk rfl rfl rfl un3 un5 fun a hk => ?_
       refine sv (.int .i64 (w64 ((IntKind.wrap .i64 ((BitVec.ofInt 64 u182 &&& BitVec.ofInt 64 255).toNat : Int)) + (IntKind.wrap .i64 (byteAt x0 (w64 (16 + u149))))))) hk rfl rfl rfl fun a hk => ?_
       refine sv (.int .i64 (w64 (u148 + (w64 ((IntKind.wrap .i64 ((BitVec.ofInt 64 u182 &&& BitVec.ofInt 64 255).toNat : Int)) + (IntKind.wrap .i64 (byteAt x0 (w64 (16 + u149))))))))) hk rfl rfl rfl fun a hk => ?_
       refine sa _ rfl hk rfl rfl rfl fun a hk => ?_
       show wpList _ _ _ [] _ _
       refine wpList_nil ?_
       refine hK193 _ _ ?_
       have hs := hs.pick [(2, 2), (8, 8)] rfl
       apply wp_seq_k; intro K195 hK195
       apply wp_region_lit
       refine sm _ rfl hk rfl rfl rfl fun a hk => ?_
       refine sm _ rfl hk rfl rfl rfl fun a hk => ?_
       refine scn rfl hk rfl rfl rfl un5 un3 fun a hk => ?_
       refine sbs (L := (Lay.int .u8)) (pv := [(0, (.int .u8 (IntKind.wrap .u8 (w64 (u148 + (w64 ((IntKind.wrap .i64 ((BitVec.ofInt 64 u182 &&& BitVec.ofInt 64 255).toNat : Int)) + (IntKind.wrap .i64 (byteAt x0 (w64 (16 + u149)))))))))))]) (xs := [(IntKind.wrap .u8 (w64 (u148 + (w64 ((IntKind.wrap .i64 ((BitVec.ofInt 64 u182 &&& BitVec.ofInt 64 255).toNat : Int)) + (IntKind.wrap .i64 (byteAt x0 (w64 (16 + u149)))))))))]) (ess := [[.int .u8 (IntKind.wrap .u8 (w64 (u148 + (w64 ((IntKind.wrap .i64 ((BitVec.ofInt 64 u182 &&& BitVec.ofInt 64 255).toNat : Int)) + (IntKind.wrap .i64 (byteAt x0 (w64 (16 + u149)))))))))]]) 11 hs rfl hk rfl rfl rfl un22 (bs5_1 (IntKind.wrap .u8 (w64 (u148 + (w64 ((IntKind.wrap .i64 ((BitVec.ofInt 64 u182 &&& BitVec.ofInt 64 255).toNat : Int)) + (IntKind.wrap .i64 (byteAt x0 (w64 (16 + u149)))))))))) (AllOwn.cons0 ⟨rfl, rfl⟩ AllOwn.nil) rfl rfl rfl fun b196 k197 w a hk o198 hs => ?_
       rcases ite_some H with ⟨c199, H⟩ | ⟨_, H⟩
       rotate_left
       ·cases H
       refine sap 8 (xs := u150) (ys := [(IntKind.wrap .u8 (w64 (u148 + (w64 ((IntKind.wrap .i64 ((BitVec.ofInt 64 u182 &&& BitVec.ofInt 64 255).toNat : Int)) + (IntKind.wrap .i64 (byteAt x0 (w64 (16 + u149)))))))))]) (flat_flat : ((Lay.int .u8)).Flat) hs rfl o152 o198.view (hs.hasG (k := 11) rfl) rfl hk rfl rfl rfl rfl rfl rfl un22 mk5 rfl rfl rfl c199 fun A200 p201 k202 w a hk o203 hs => ?_
       refine sa _ rfl hk rfl rfl rfl fun a hk => ?_
       show wpList _ _ _ [] _ _
       refine wpList_nil ?_
       refine hK195 _ _ ?_
       apply wp_region_lit
       refine sm _ rfl hk rfl rfl rfl fun a hk => ?_
       refine sv (.int .i64 (Int.fdiv (w64 (u148 + (w64 ((IntKind.wrap .i64 ((BitVec.ofInt 64 u182 &&& BitVec.ofInt 64 255).toNat : Int)) + (IntKind.wrap .i64 (byteAt x0 (w64 (16 + u149)))))))) (2 ^ 8))) hk rfl rfl rfl fun a hk => ?_
       refine sa _ rfl hk rfl rfl rfl fun a hk => ?_
       show wpList _ _ _ [] _ _
       refine wpList_nil ?_
       refine hK171 _ _ ?_
       apply wp_region_lit
       refine sm _ rfl hk rfl rfl rfl fun a hk => ?_
       refine sv (.int .i64 (w64 (u149 + 1))) hk rfl rfl rfl fun a hk => ?_
       refine sa _ rfl hk rfl rfl rfl fun a hk => ?_
       show wpList _ _ _ [] _ _
       refine wpList_nil ?_
       obtain rfl := Option.some.inj H
       obtain ⟨m204, hmm204, h167⟩ := h167
       show ∃ n', n' < _ ∧ I164 n' _ _
       refine ⟨m204, hmm204, ?_⟩
       rw [hI164]
       exact ⟨(u150 ++ ([(IntKind.wrap .u8 (w64 (u148 + (w64 ((IntKind.wrap .i64 ((BitVec.ofInt 64 u182 &&& BitVec.ofInt 64 255).toNat : Int)) + (IntKind.wrap .i64 (byteAt x0 (w64 (16 + u149)))))))))])), (Int.fdiv (w64 (u148 + (w64 ((IntKind.wrap .i64 ((BitVec.ofInt 64 u182 &&& BitVec.ofInt 64 255).toNat : Int)) + (IntKind.wrap .i64 (byteAt x0 (w64 (16 + u149)))))))) (2 ^ 8)), (w64 (u149 + 1)), A200, p201, _, h167, (hk.c 0 rfl (hk.c 6 rfl (hk.c 11 rfl (hk.c 12 rfl (hk.c 13 rfl hk.k))))), (hs.pick [(2, 2), (8, 8)] rfl), o203⟩
     ·have hk := hk.lit 63 c170 rfl
      refine cnd_false hk rfl rfl ?_
      refine wp_exit ?_
      obtain rfl := Option.some.inj H
      show R163 _ _
      rw [hR163]
      exact ⟨u150, A153, p154, _, h167.symm, (hk.c 11 rfl hk.k), (hs.pick [(8, 8)] rfl), o152⟩
   ·intro a w hR0
    rw [hR163] at hR0
    obtain ⟨u155, A158, p159, k156, rfl, hk, hs, o157⟩ := hR0
    have H := HL162
    try dsimp only at H
    refine hK140 _ _ ?_
    apply wp_seq_k; intro K205 hK205
    apply wp_region_lit
    refine sm _ rfl hk rfl rfl rfl fun a hk => ?_
    refine sbt (xs := u155) rfl hk rfl rfl rfl rfl un22 un5 un9 o157.view (hs.hasG (k := 8) rfl) fun a hk => ?_
    refine sa _ rfl hk rfl rfl rfl fun a hk => ?_
    show wpList _ _ _ [] _ _
    refine wpList_nil ?_
    refine hK205 _ _ ?_
    refine wp_ret ?_
    obtain rfl := Option.some.inj H
    exact fin hk _ [(.string (strOfNums u155))] rfl ⟨rfl, trivial⟩ ⟨rfl, (hs.pick [] rfl).dnil⟩

noncomputable def spec_l04Pad.s0  (u5 : ByteArray) : Option ((ByteArray) ⊕ Ex (ByteArray) (ByteArray)) :=
  (bif ((Int.tmod (u5.size : Int) 16) != 0) then (if u5.size + (⟨#[0]⟩ : ByteArray).size ≤ 1152921504606846976 then (some (.inl (u5 ++ (⟨#[0]⟩ : ByteArray)))) else none) else (some (.inr (.out u5))))
noncomputable def spec_l04Pad.f (x0 : ByteArray) : Option (ByteArray) :=
  ((loopO (fun s => spec_l04Pad.s0  s) x0).bind fun o => match o with | .out u6 => (some u6) | .ret r => (some r))
set_option maxRecDepth 100000 in
set_option maxHeartbeats 0 in
theorem spec_l04Pad_t (w0 : World) (x0 : ByteArray) (r : ByteArray) (H : spec_l04Pad.f x0 = some r) :
    Calls Try.prog 135 #[.string x0] w0 (Ret (fun v w => v = .string r ∧ Sat [] w0 w [] [])) := by
  have hs : Sat [] w0 w0 [] [] := Sat.init w0 [] [] (by simp) (by simp) List.nodup_nil (by simp [blks])
  unfold spec_l04Pad.f at H
  refine enter Try.func135 rfl Try.ntmps135 rfl fun a hk => ?_
  apply wp_seq_k; intro K1 hK1
  apply wp_region_lit
  refine sa _ rfl hk rfl rfl rfl fun a hk => ?_
  show wpList _ _ _ [] _ _
  refine wpList_nil ?_
  refine hK1 _ _ ?_
  apply wp_seq_k; intro K2 hK2
  obtain ⟨o7, h8, HL9⟩ := bind_some H
  clear H
  obtain ⟨R10, hR10⟩ : ∃ R : Act → World → Prop, R = fun a w => ∃ (u6 : ByteArray), o7 = .out u6 ∧ Kn [(0, (.string u6))] 10 a ∧ Sat [] w0 w [] [] := ⟨_, rfl⟩
  refine wp_cutq R10 ?_ ?_
  ·refine wp_block ?_
   obtain ⟨fu12, h8⟩ := loopO_some h8
   obtain ⟨I11, hI11⟩ : ∃ I : Nat → Act → World → Prop, I = fun fu a w => ∃ (u5 : ByteArray), loopN (fun s => spec_l04Pad.s0  s) fu u5 = some o7 ∧ Kn [(0, (.string u5))] 10 a ∧ Sat [] w0 w [] [] := ⟨_, rfl⟩
   refine wp_loop_ghost I11 fu12 ?_ ?_
   ·rw [hI11]
    exact ⟨x0, h8, (hk.c 0 rfl hk.k), (hs.pick [] rfl)⟩
   ·clear h8 hk hs
    intro fu12 a w hI0
    rw [hI11] at hI0
    obtain ⟨u5, hi, hk, hs⟩ := hI0
    obtain ⟨x13, H, h14⟩ := loop_round hi
    try dsimp only at H
    unfold spec_l04Pad.s0 at H
    apply wp_seq_k; intro K15 hK15
    apply wp_seq_k; intro K16 hK16
    apply wp_region_lit
    refine sm _ rfl hk rfl rfl rfl fun a hk => ?_
    refine sles rfl hk rfl rfl rfl un9 fun a hk => ?_
    refine sv (.int .i64 (Int.tmod (u5.size : Int) 16)) hk rfl rfl rfl fun a hk => ?_
    refine sv (.bool ((Int.tmod (u5.size : Int) 16) != 0)) hk rfl rfl rfl fun a hk => ?_
    show wpList _ _ _ [] _ _
    refine wpList_nil ?_
    refine hK16 _ _ ?_
    rcases cond_some H with ⟨c17, H⟩ | ⟨c17, H⟩
    ·have hk := hk.lit 6 c17 rfl
     refine cnd_true hk rfl rfl ?_
     refine wp_skip ?_
     refine hK15 _ _ ?_
     refine wp_block ?_
     apply wp_region_lit
     refine sm _ rfl hk rfl rfl rfl fun a hk => ?_
     rcases ite_some H with ⟨c18, H⟩ | ⟨_, H⟩
     rotate_left
     ·cases H
     refine ssa rfl hk rfl rfl rfl rfl c18 fun a hk => ?_
     refine sa _ rfl hk rfl rfl rfl fun a hk => ?_
     show wpList _ _ _ [] _ _
     refine wpList_nil ?_
     obtain rfl := Option.some.inj H
     obtain ⟨m19, hmm19, h14⟩ := h14
     show ∃ n', n' < _ ∧ I11 n' _ _
     refine ⟨m19, hmm19, ?_⟩
     rw [hI11]
     exact ⟨(u5 ++ (⟨#[0]⟩ : ByteArray)), h14, (hk.c 0 rfl hk.k), (hs.pick [] rfl)⟩
    ·have hk := hk.lit 6 c17 rfl
     refine cnd_false hk rfl rfl ?_
     refine wp_exit ?_
     obtain rfl := Option.some.inj H
     show R10 _ _
     rw [hR10]
     exact ⟨u5, h14.symm, (hk.c 0 rfl hk.k), (hs.pick [] rfl)⟩
  ·intro a w hR0
   rw [hR10] at hR0
   obtain ⟨u6, rfl, hk, hs⟩ := hR0
   have H := HL9
   try dsimp only at H
   refine hK2 _ _ ?_
   apply wp_seq_k; intro K20 hK20
   apply wp_region_lit
   refine sm _ rfl hk rfl rfl rfl fun a hk => ?_
   refine sa _ rfl hk rfl rfl rfl fun a hk => ?_
   show wpList _ _ _ [] _ _
   refine wpList_nil ?_
   refine hK20 _ _ ?_
   refine wp_ret ?_
   obtain rfl := Option.some.inj H
   exact fin hk _ [(.string u6)] rfl ⟨rfl, trivial⟩ ⟨rfl, (hs.pick [] rfl).dnil⟩

noncomputable def spec_l04Eight.s0 (x0 : Int) (u15 : List Int) (u14 : Int) : Option (((List Int) × Int) ⊕ Ex ((List Int)) (ByteArray)) :=
  (bif (decide (u14 < 8)) then (if 0 ≤ (w64 (8 * u14)) then (if u15.length + ([(IntKind.wrap .u8 (Int.fdiv x0 (2 ^ min (w64 (8 * u14)).toNat 64)))]).length ≤ 1073741824 then (some (.inl ((u15 ++ ([(IntKind.wrap .u8 (Int.fdiv x0 (2 ^ min (w64 (8 * u14)).toNat 64)))])), (w64 (u14 + 1))))) else none) else none) else (some (.inr (.out u15))))
noncomputable def spec_l04Eight.f (x0 : Int) : Option (ByteArray) :=
  ((loopO (fun s => spec_l04Eight.s0 x0 s.1 s.2) (([] : List Int), 0)).bind fun o => match o with | .out u20 => (some (strOfNums u20)) | .ret r => (some r))
set_option maxRecDepth 100000 in
set_option maxHeartbeats 0 in
theorem spec_l04Eight_t (w0 : World) (x0 : Int) (r : ByteArray) (H : spec_l04Eight.f x0 = some r) :
    Calls Try.prog 136 #[.int .i64 x0] w0 (Ret (fun v w => v = .string r ∧ Sat [] w0 w [] [])) := by
  have hs : Sat [] w0 w0 [] [] := Sat.init w0 [] [] (by simp) (by simp) List.nodup_nil (by simp [blks])
  unfold spec_l04Eight.f at H
  refine enter Try.func136 rfl Try.ntmps136 rfl fun a hk => ?_
  apply wp_seq_k; intro K1 hK1
  apply wp_region_lit
  refine sa _ rfl hk rfl rfl rfl fun a hk => ?_
  show wpList _ _ _ [] _ _
  refine wpList_nil ?_
  refine hK1 _ _ ?_
  apply wp_seq_k; intro K2 hK2
  apply wp_region_lit
  refine sbs0 1 (Lay.int .u8) hs rfl hk rfl rfl un22 sz5 fun b3 k4 w a hk o5 hs => ?_
  refine sa _ rfl hk rfl rfl rfl fun a hk => ?_
  show wpList _ _ _ [] _ _
  refine wpList_nil ?_
  refine hK2 _ _ ?_
  apply wp_seq_k; intro K6 hK6
  apply wp_seq_k; intro K7 hK7
  apply wp_region_lit
  refine sa _ rfl hk rfl rfl rfl fun a hk => ?_
  show wpList _ _ _ [] _ _
  refine wpList_nil ?_
  refine hK7 _ _ ?_
  obtain ⟨o25, h26, HL27⟩ := bind_some H
  clear H
  obtain ⟨R28, hR28⟩ : ∃ R : Act → World → Prop, R = fun a w => ∃ (u20 : List Int) (A23 : Option Addr) (p24 : Nat) (k21 : Chunk), o25 = .out u20 ∧ Kn [(3, (.slice A23 u20.length p24))] 20 a ∧ Sat [] w0 w [] [(1, k21)] ∧ Own (Lay.int .u8) 5 A23 p24 u20 k21 := ⟨_, rfl⟩
  refine wp_cutq R28 ?_ ?_
  ·refine wp_block ?_
   obtain ⟨fu30, h26⟩ := loopO_some h26
   obtain ⟨I29, hI29⟩ : ∃ I : Nat → Act → World → Prop, I = fun fu a w => ∃ (u15 : List Int) (u14 : Int) (A18 : Option Addr) (p19 : Nat) (k16 : Chunk), loopN (fun s => spec_l04Eight.s0 x0 s.1 s.2) fu (u15, u14) = some o25 ∧ Kn [(0, (.int .i64 x0)), (3, (.slice A18 u15.length p19)), (4, (.int .i64 u14))] 20 a ∧ Sat [] w0 w [] [(1, k16)] ∧ Own (Lay.int .u8) 5 A18 p19 u15 k16 := ⟨_, rfl⟩
   refine wp_loop_ghost I29 fu30 ?_ ?_
   ·rw [hI29]
    exact ⟨([] : List Int), 0, (some ⟨b3, 0, none⟩), 0, _, h26, (hk.c 0 rfl (hk.c 3 rfl (hk.c 4 rfl hk.k))), (hs.pick [(1, 1)] rfl), o5⟩
   ·clear h26 hk hs
    intro fu30 a w hI0
    rw [hI29] at hI0
    obtain ⟨u15, u14, A18, p19, k16, hi, hk, hs, o17⟩ := hI0
    obtain ⟨x31, H, h32⟩ := loop_round hi
    try dsimp only at H
    unfold spec_l04Eight.s0 at H
    apply wp_seq_k; intro K33 hK33
    apply wp_seq_k; intro K34 hK34
    apply wp_region_lit
    refine sm _ rfl hk rfl rfl rfl fun a hk => ?_
    refine sv (.bool (decide (u14 < 8))) hk rfl rfl rfl fun a hk => ?_
    show wpList _ _ _ [] _ _
    refine wpList_nil ?_
    refine hK34 _ _ ?_
    have hs := hs.pick [(1, 1)] rfl
    rcases cond_some H with ⟨c35, H⟩ | ⟨c35, H⟩
    ·have hk := hk.lit 7 c35 rfl
     refine cnd_true hk rfl rfl ?_
     refine wp_skip ?_
     refine hK33 _ _ ?_
     apply wp_seq_k; intro K36 hK36
     refine wp_block ?_
     apply wp_region_lit
     refine sm _ rfl hk rfl rfl rfl fun a hk => ?_
     refine sm _ rfl hk rfl rfl rfl fun a hk => ?_
     refine sm _ rfl hk rfl rfl rfl fun a hk => ?_
     refine sv (.int .i64 (w64 (8 * u14))) hk rfl rfl rfl fun a hk => ?_
     rcases ite_some H with ⟨c37, H⟩ | ⟨_, H⟩
     rotate_left
     ·cases H
     refine ssr rfl hk rfl rfl rfl rfl c37 fun a hk => ?_
     refine scn rfl hk rfl rfl rfl un5 un3 fun a hk => ?_
     refine sbs (L := (Lay.int .u8)) (pv := [(0, (.int .u8 (IntKind.wrap .u8 (Int.fdiv x0 (2 ^ min (w64 (8 * u14)).toNat 64)))))]) (xs := [(IntKind.wrap .u8 (Int.fdiv x0 (2 ^ min (w64 (8 * u14)).toNat 64)))]) (ess := [[.int .u8 (IntKind.wrap .u8 (Int.fdiv x0 (2 ^ min (w64 (8 * u14)).toNat 64)))]]) 3 hs rfl hk rfl rfl rfl un22 (bs5_1 (IntKind.wrap .u8 (Int.fdiv x0 (2 ^ min (w64 (8 * u14)).toNat 64)))) (AllOwn.cons0 ⟨rfl, rfl⟩ AllOwn.nil) rfl rfl rfl fun b38 k39 w a hk o40 hs => ?_
     rcases ite_some H with ⟨c41, H⟩ | ⟨_, H⟩
     rotate_left
     ·cases H
     refine sap 1 (xs := u15) (ys := [(IntKind.wrap .u8 (Int.fdiv x0 (2 ^ min (w64 (8 * u14)).toNat 64)))]) (flat_flat : ((Lay.int .u8)).Flat) hs rfl o17 o40.view (hs.hasG (k := 3) rfl) rfl hk rfl rfl rfl rfl rfl rfl un22 mk5 rfl rfl rfl c41 fun A42 p43 k44 w a hk o45 hs => ?_
     refine sa _ rfl hk rfl rfl rfl fun a hk => ?_
     show wpList _ _ _ [] _ _
     refine wpList_nil ?_
     refine hK36 _ _ ?_
     apply wp_region_lit
     refine sm _ rfl hk rfl rfl rfl fun a hk => ?_
     refine sv (.int .i64 (w64 (u14 + 1))) hk rfl rfl rfl fun a hk => ?_
     refine sa _ rfl hk rfl rfl rfl fun a hk => ?_
     show wpList _ _ _ [] _ _
     refine wpList_nil ?_
     obtain rfl := Option.some.inj H
     obtain ⟨m46, hmm46, h32⟩ := h32
     show ∃ n', n' < _ ∧ I29 n' _ _
     refine ⟨m46, hmm46, ?_⟩
     rw [hI29]
     exact ⟨(u15 ++ ([(IntKind.wrap .u8 (Int.fdiv x0 (2 ^ min (w64 (8 * u14)).toNat 64)))])), (w64 (u14 + 1)), A42, p43, _, h32, (hk.c 0 rfl (hk.c 3 rfl (hk.c 4 rfl hk.k))), (hs.pick [(1, 1)] rfl), o45⟩
    ·have hk := hk.lit 7 c35 rfl
     refine cnd_false hk rfl rfl ?_
     refine wp_exit ?_
     obtain rfl := Option.some.inj H
     show R28 _ _
     rw [hR28]
     exact ⟨u15, A18, p19, _, h32.symm, (hk.c 3 rfl hk.k), (hs.pick [(1, 1)] rfl), o17⟩
  ·intro a w hR0
   rw [hR28] at hR0
   obtain ⟨u20, A23, p24, k21, rfl, hk, hs, o22⟩ := hR0
   have H := HL27
   try dsimp only at H
   refine hK6 _ _ ?_
   have hs := hs.pick [(1, 1)] rfl
   apply wp_seq_k; intro K47 hK47
   apply wp_region_lit
   refine sm _ rfl hk rfl rfl rfl fun a hk => ?_
   refine sbt (xs := u20) rfl hk rfl rfl rfl rfl un22 un5 un9 o22.view (hs.hasG (k := 1) rfl) fun a hk => ?_
   refine sa _ rfl hk rfl rfl rfl fun a hk => ?_
   show wpList _ _ _ [] _ _
   refine wpList_nil ?_
   refine hK47 _ _ ?_
   refine wp_ret ?_
   obtain rfl := Option.some.inj H
   exact fin hk _ [(.string (strOfNums u20))] rfl ⟨rfl, trivial⟩ ⟨rfl, (hs.pick [] rfl).dnil⟩

noncomputable def spec_l04Tag.f (x0 : ByteArray) (x1 : ByteArray) (x2 : ByteArray) (x3 : ByteArray) : Option (ByteArray) :=
  ((spec_l02Block.f x0 x1 0).bind fun y3 => (if 0 ≤ (32 : Int) ∧ (32 : Int) ≤ (y3.size : Int) then ((spec_l04Pad.f x2).bind fun y7 => ((spec_l04Pad.f x3).bind fun y9 => (if y7.size + y9.size ≤ 1152921504606846976 then ((spec_l04Eight.f (x2.size : Int)).bind fun y12 => (if (y7 ++ y9).size + y12.size ≤ 1152921504606846976 then ((spec_l04Eight.f (x3.size : Int)).bind fun y15 => (if ((y7 ++ y9) ++ y12).size + y15.size ≤ 1152921504606846976 then ((spec_l03Tag.f (y3.extract 0 (32 : Int).toNat) (((y7 ++ y9) ++ y12) ++ y15)).bind fun y18 => (some y18)) else none)) else none)) else none))) else none))
set_option maxRecDepth 100000 in
set_option maxHeartbeats 0 in
theorem spec_l04Tag_t (w0 : World) (x0 : ByteArray) (x1 : ByteArray) (x2 : ByteArray) (x3 : ByteArray) (r : ByteArray) (H : spec_l04Tag.f x0 x1 x2 x3 = some r) :
    Calls Try.prog 113 #[.string x0, .string x1, .string x2, .string x3] w0 (Ret (fun v w => v = .string r ∧ Sat [] w0 w [] [])) := by
  have hs : Sat [] w0 w0 [] [] := Sat.init w0 [] [] (by simp) (by simp) List.nodup_nil (by simp [blks])
  unfold spec_l04Tag.f at H
  refine enter Try.func113 rfl Try.ntmps113 rfl fun a hk => ?_
  apply wp_seq_k; intro K1 hK1
  apply wp_region_lit
  refine sa _ rfl hk rfl rfl rfl fun a hk => ?_
  show wpList _ _ _ [] _ _
  refine wpList_nil ?_
  refine hK1 _ _ ?_
  apply wp_seq_k; intro K2 hK2
  apply wp_region_lit
  refine sm _ rfl hk rfl rfl rfl fun a hk => ?_
  refine sm _ rfl hk rfl rfl rfl fun a hk => ?_
  obtain ⟨y3, h4, H⟩ := bind_some H
  refine sc rfl en108 hk rfl rfl rfl (spec_l02Block_t _ x0 x1 0 _ h4) ?_
  rintro _ w ⟨rfl, hG⟩ a hk
  have hs := hs.call0 hG
  rcases ite_some H with ⟨c5, H⟩ | ⟨_, H⟩
  rotate_left
  ·cases H
  refine ssl_h rfl hk rfl rfl rfl rfl un9 c5.1 c5.2 fun a hk => ?_
  refine sa _ rfl hk rfl rfl rfl fun a hk => ?_
  show wpList _ _ _ [] _ _
  refine wpList_nil ?_
  refine hK2 _ _ ?_
  apply wp_seq_k; intro K6 hK6
  apply wp_region_lit
  refine sm _ rfl hk rfl rfl rfl fun a hk => ?_
  refine sm _ rfl hk rfl rfl rfl fun a hk => ?_
  obtain ⟨y7, h8, H⟩ := bind_some H
  refine sc rfl en135 hk rfl rfl rfl (spec_l04Pad_t _ x2 _ h8) ?_
  rintro _ w ⟨rfl, hG⟩ a hk
  have hs := hs.call0 hG
  refine sm _ rfl hk rfl rfl rfl fun a hk => ?_
  obtain ⟨y9, h10, H⟩ := bind_some H
  refine sc rfl en135 hk rfl rfl rfl (spec_l04Pad_t _ x3 _ h10) ?_
  rintro _ w ⟨rfl, hG⟩ a hk
  have hs := hs.call0 hG
  rcases ite_some H with ⟨c11, H⟩ | ⟨_, H⟩
  rotate_left
  ·cases H
  refine ssa rfl hk rfl rfl rfl rfl c11 fun a hk => ?_
  refine sm _ rfl hk rfl rfl rfl fun a hk => ?_
  refine sles rfl hk rfl rfl rfl un9 fun a hk => ?_
  obtain ⟨y12, h13, H⟩ := bind_some H
  refine sc rfl en136 hk rfl rfl rfl (spec_l04Eight_t _ (x2.size : Int) _ h13) ?_
  rintro _ w ⟨rfl, hG⟩ a hk
  have hs := hs.call0 hG
  rcases ite_some H with ⟨c14, H⟩ | ⟨_, H⟩
  rotate_left
  ·cases H
  refine ssa rfl hk rfl rfl rfl rfl c14 fun a hk => ?_
  refine sm _ rfl hk rfl rfl rfl fun a hk => ?_
  refine sles rfl hk rfl rfl rfl un9 fun a hk => ?_
  obtain ⟨y15, h16, H⟩ := bind_some H
  refine sc rfl en136 hk rfl rfl rfl (spec_l04Eight_t _ (x3.size : Int) _ h16) ?_
  rintro _ w ⟨rfl, hG⟩ a hk
  have hs := hs.call0 hG
  rcases ite_some H with ⟨c17, H⟩ | ⟨_, H⟩
  rotate_left
  ·cases H
  refine ssa rfl hk rfl rfl rfl rfl c17 fun a hk => ?_
  obtain ⟨y18, h19, H⟩ := bind_some H
  refine sc rfl en55 hk rfl rfl rfl (spec_l03Tag_t _ (y3.extract 0 (32 : Int).toNat) (((y7 ++ y9) ++ y12) ++ y15) _ h19) ?_
  rintro _ w ⟨rfl, hG⟩ a hk
  have hs := hs.call0 hG
  refine sa _ rfl hk rfl rfl rfl fun a hk => ?_
  show wpList _ _ _ [] _ _
  refine wpList_nil ?_
  refine hK6 _ _ ?_
  refine wp_ret ?_
  obtain rfl := Option.some.inj H
  exact fin hk _ [(.string y18)] rfl ⟨rfl, trivial⟩ ⟨rfl, (hs.pick [] rfl).dnil⟩

noncomputable def spec_l04Seal.f (x0 : ByteArray) (x1 : ByteArray) (x2 : ByteArray) (x3 : ByteArray) : Option (ByteArray) :=
  ((spec_l02Xor.f x0 x1 1 x3).bind fun y3 => ((spec_l04Tag.f x0 x1 x2 y3).bind fun y6 => (if y3.size + y6.size ≤ 1152921504606846976 then (some (y3 ++ y6)) else none)))
set_option maxRecDepth 100000 in
set_option maxHeartbeats 0 in
theorem spec_l04Seal_t (w0 : World) (x0 : ByteArray) (x1 : ByteArray) (x2 : ByteArray) (x3 : ByteArray) (r : ByteArray) (H : spec_l04Seal.f x0 x1 x2 x3 = some r) :
    Calls Try.prog 72 #[.string x0, .string x1, .string x2, .string x3] w0 (Ret (fun v w => v = .string r ∧ Sat [] w0 w [] [])) := by
  have hs : Sat [] w0 w0 [] [] := Sat.init w0 [] [] (by simp) (by simp) List.nodup_nil (by simp [blks])
  unfold spec_l04Seal.f at H
  refine enter Try.func72 rfl Try.ntmps72 rfl fun a hk => ?_
  apply wp_seq_k; intro K1 hK1
  apply wp_region_lit
  refine sa _ rfl hk rfl rfl rfl fun a hk => ?_
  show wpList _ _ _ [] _ _
  refine wpList_nil ?_
  refine hK1 _ _ ?_
  apply wp_seq_k; intro K2 hK2
  apply wp_region_lit
  refine sm _ rfl hk rfl rfl rfl fun a hk => ?_
  refine sm _ rfl hk rfl rfl rfl fun a hk => ?_
  refine sm _ rfl hk rfl rfl rfl fun a hk => ?_
  obtain ⟨y3, h4, H⟩ := bind_some H
  refine sc rfl en63 hk rfl rfl rfl (spec_l02Xor_t _ x0 x1 1 x3 _ h4) ?_
  rintro _ w ⟨rfl, hG⟩ a hk
  have hs := hs.call0 hG
  refine sa _ rfl hk rfl rfl rfl fun a hk => ?_
  show wpList _ _ _ [] _ _
  refine wpList_nil ?_
  refine hK2 _ _ ?_
  apply wp_seq_k; intro K5 hK5
  apply wp_region_lit
  refine sm _ rfl hk rfl rfl rfl fun a hk => ?_
  refine sm _ rfl hk rfl rfl rfl fun a hk => ?_
  refine sm _ rfl hk rfl rfl rfl fun a hk => ?_
  refine sm _ rfl hk rfl rfl rfl fun a hk => ?_
  refine sm _ rfl hk rfl rfl rfl fun a hk => ?_
  obtain ⟨y6, h7, H⟩ := bind_some H
  refine sc rfl en113 hk rfl rfl rfl (spec_l04Tag_t _ x0 x1 x2 y3 _ h7) ?_
  rintro _ w ⟨rfl, hG⟩ a hk
  have hs := hs.call0 hG
  rcases ite_some H with ⟨c8, H⟩ | ⟨_, H⟩
  rotate_left
  ·cases H
  refine ssa rfl hk rfl rfl rfl rfl c8 fun a hk => ?_
  refine sa _ rfl hk rfl rfl rfl fun a hk => ?_
  show wpList _ _ _ [] _ _
  refine wpList_nil ?_
  refine hK5 _ _ ?_
  refine wp_ret ?_
  obtain rfl := Option.some.inj H
  exact fin hk _ [(.string (y3 ++ y6))] rfl ⟨rfl, trivial⟩ ⟨rfl, (hs.pick [] rfl).dnil⟩

noncomputable def spec_SealBox.f (x0 : ByteArray) (x1 : ByteArray) (x2 : ByteArray) (x3 : ByteArray) : Option (ByteArray × Int) :=
  (((bif (decide ((x0.size : Int) > 65536)) then (some true) else (bif (decide ((x1.size : Int) > 65536)) then (some true) else (bif (decide ((x2.size : Int) > 65536)) then (some true) else (some (decide ((x3.size : Int) > 65536)))))) : Option (Bool)).bind fun u5 => (bif u5 then (some ((⟨#[]⟩ : ByteArray), 2)) else ((spec_l04Ask.f x0 x1 x2 x3).bind fun y17 => (bif (y17 != 0) then (some ((⟨#[]⟩ : ByteArray), y17)) else ((spec_l04Seal.f x0 x1 x2 x3).bind fun y23 => (some (y23, 0)))))))
set_option maxRecDepth 100000 in
set_option maxHeartbeats 0 in
theorem spec_SealBox_t (w0 : World) (x0 : ByteArray) (x1 : ByteArray) (x2 : ByteArray) (x3 : ByteArray) (r : ByteArray × Int) (H : spec_SealBox.f x0 x1 x2 x3 = some r) :
    Calls Try.prog 31 #[.string x0, .string x1, .string x2, .string x3] w0 (Ret (fun v w => v = .tuple #[.string r.1, .int .i64 r.2] ∧ Sat [] w0 w [] [])) := by
  have hs : Sat [] w0 w0 [] [] := Sat.init w0 [] [] (by simp) (by simp) List.nodup_nil (by simp [blks])
  unfold spec_SealBox.f at H
  refine enter Try.func31 rfl Try.ntmps31 rfl fun a hk => ?_
  apply wp_seq_k; intro K1 hK1
  apply wp_region_lit
  refine sa _ rfl hk rfl rfl rfl fun a hk => ?_
  refine sa _ rfl hk rfl rfl rfl fun a hk => ?_
  show wpList _ _ _ [] _ _
  refine wpList_nil ?_
  refine hK1 _ _ ?_
  apply wp_seq_k; intro K2 hK2
  apply wp_seq_k; intro K3 hK3
  obtain ⟨o6, h7, HL8⟩ := bind_some H
  clear H
  obtain ⟨R9, hR9⟩ : ∃ R : Act → World → Prop, R = fun a w => ∃ (u5 : Bool), u5 = o6 ∧ Kn [(0, (.string x0)), (1, (.string x1)), (2, (.string x2)), (3, (.string x3)), (28, (.bool u5))] 42 a ∧ Sat [] w0 w [] [] := ⟨_, rfl⟩
  refine wp_cutq R9 ?_ ?_
  ·have H := h7
   apply wp_region_lit
   refine sm _ rfl hk rfl rfl rfl fun a hk => ?_
   refine sles rfl hk rfl rfl rfl un9 fun a hk => ?_
   refine sv (.bool (decide ((x0.size : Int) > 65536))) hk rfl rfl rfl fun a hk => ?_
   refine sm _ rfl hk rfl rfl rfl fun a hk => ?_
   rcases cond_some H with ⟨c10, H⟩ | ⟨c10, H⟩
   ·have hk := hk.lit 14 c10 rfl
    refine sk hk rfl rfl rfl fun a hk => ?_
    refine sk hk rfl rfl rfl fun a hk => ?_
    refine sk hk rfl rfl rfl fun a hk => ?_
    refine sv (.bool true) hk rfl rfl rfl fun a hk => ?_
    refine sm _ rfl hk rfl rfl rfl fun a hk => ?_
    refine sk hk rfl rfl rfl fun a hk => ?_
    refine sk hk rfl rfl rfl fun a hk => ?_
    refine sk hk rfl rfl rfl fun a hk => ?_
    refine sv (.bool true) hk rfl rfl rfl fun a hk => ?_
    refine sm _ rfl hk rfl rfl rfl fun a hk => ?_
    refine sk hk rfl rfl rfl fun a hk => ?_
    refine sk hk rfl rfl rfl fun a hk => ?_
    refine sk hk rfl rfl rfl fun a hk => ?_
    refine sv (.bool true) hk rfl rfl rfl fun a hk => ?_
    show wpList _ _ _ [] _ _
    refine wpList_nil ?_
    obtain rfl := Option.some.inj H
    show R9 _ _
    rw [hR9]
    exact ⟨true, rfl, (hk.c 0 rfl (hk.c 1 rfl (hk.c 2 rfl (hk.c 3 rfl (hk.c 28 rfl hk.k))))), (hs.pick [] rfl)⟩
   ·have hk := hk.lit 14 c10 rfl
    refine sm _ rfl hk rfl rfl rfl fun a hk => ?_
    refine sles rfl hk rfl rfl rfl un9 fun a hk => ?_
    refine sv (.bool (decide ((x1.size : Int) > 65536))) hk rfl rfl rfl fun a hk => ?_
    refine sv (.bool (decide ((x1.size : Int) > 65536))) hk rfl rfl rfl fun a hk => ?_
    refine sm _ rfl hk rfl rfl rfl fun a hk => ?_
    rcases cond_some H with ⟨c11, H⟩ | ⟨c11, H⟩
    ·have hk := hk.lit 19 c11 rfl
     refine sk hk rfl rfl rfl fun a hk => ?_
     refine sk hk rfl rfl rfl fun a hk => ?_
     refine sk hk rfl rfl rfl fun a hk => ?_
     refine sv (.bool true) hk rfl rfl rfl fun a hk => ?_
     refine sm _ rfl hk rfl rfl rfl fun a hk => ?_
     refine sk hk rfl rfl rfl fun a hk => ?_
     refine sk hk rfl rfl rfl fun a hk => ?_
     refine sk hk rfl rfl rfl fun a hk => ?_
     refine sv (.bool true) hk rfl rfl rfl fun a hk => ?_
     show wpList _ _ _ [] _ _
     refine wpList_nil ?_
     obtain rfl := Option.some.inj H
     show R9 _ _
     rw [hR9]
     exact ⟨true, rfl, (hk.c 0 rfl (hk.c 1 rfl (hk.c 2 rfl (hk.c 3 rfl (hk.c 28 rfl hk.k))))), (hs.pick [] rfl)⟩
    ·have hk := hk.lit 19 c11 rfl
     refine sm _ rfl hk rfl rfl rfl fun a hk => ?_
     refine sles rfl hk rfl rfl rfl un9 fun a hk => ?_
     refine sv (.bool (decide ((x2.size : Int) > 65536))) hk rfl rfl rfl fun a hk => ?_
     refine sv (.bool (decide ((x2.size : Int) > 65536))) hk rfl rfl rfl fun a hk => ?_
     refine sm _ rfl hk rfl rfl rfl fun a hk => ?_
     rcases cond_some H with ⟨c12, H⟩ | ⟨c12, H⟩
     ·have hk := hk.lit 24 c12 rfl
      refine sk hk rfl rfl rfl fun a hk => ?_
      refine sk hk rfl rfl rfl fun a hk => ?_
      refine sk hk rfl rfl rfl fun a hk => ?_
      refine sv (.bool true) hk rfl rfl rfl fun a hk => ?_
      show wpList _ _ _ [] _ _
      refine wpList_nil ?_
      obtain rfl := Option.some.inj H
      show R9 _ _
      rw [hR9]
      exact ⟨true, rfl, (hk.c 0 rfl (hk.c 1 rfl (hk.c 2 rfl (hk.c 3 rfl (hk.c 28 rfl hk.k))))), (hs.pick [] rfl)⟩
     ·have hk := hk.lit 24 c12 rfl
      refine sm _ rfl hk rfl rfl rfl fun a hk => ?_
      refine sles rfl hk rfl rfl rfl un9 fun a hk => ?_
      refine sv (.bool (decide ((x3.size : Int) > 65536))) hk rfl rfl rfl fun a hk => ?_
      refine sv (.bool (decide ((x3.size : Int) > 65536))) hk rfl rfl rfl fun a hk => ?_
      show wpList _ _ _ [] _ _
      refine wpList_nil ?_
      obtain rfl := Option.some.inj H
      show R9 _ _
      rw [hR9]
      exact ⟨(decide ((x3.size : Int) > 65536)), rfl, (hk.c 0 rfl (hk.c 1 rfl (hk.c 2 rfl (hk.c 3 rfl (hk.c 28 rfl hk.k))))), (hs.pick [] rfl)⟩
  ·intro a w hR0
   rw [hR9] at hR0
   obtain ⟨u5, rfl, hk, hs⟩ := hR0
   have H := HL8
   try dsimp only at H
   refine hK3 _ _ ?_
   rcases cond_some H with ⟨c13, H⟩ | ⟨c13, H⟩
   ·have hk := hk.lit 28 c13 rfl
    refine cnd_true hk rfl rfl ?_
    apply wp_seq_k; intro K14 hK14
    apply wp_region_lit
    refine sa _ rfl hk rfl rfl rfl fun a hk => ?_
    refine sa _ rfl hk rfl rfl rfl fun a hk => ?_
    show wpList _ _ _ [] _ _
    refine wpList_nil ?_
    refine hK14 _ _ ?_
    refine wp_ret ?_
    obtain rfl := Option.some.inj H
    exact fin hk _ [(.string (⟨#[]⟩ : ByteArray)), (.int .i64 2)] rfl ⟨rfl, ⟨rfl, trivial⟩⟩ ⟨rfl, (hs.pick [] rfl).dnil⟩
   ·have hk := hk.lit 28 c13 rfl
    refine cnd_false hk rfl rfl ?_
    refine wp_skip ?_
    refine hK2 _ _ ?_
    apply wp_seq_k; intro K15 hK15
    apply wp_seq_k; intro K16 hK16
    apply wp_region_lit
    refine sm _ rfl hk rfl rfl rfl fun a hk => ?_
    refine sm _ rfl hk rfl rfl rfl fun a hk => ?_
    refine sm _ rfl hk rfl rfl rfl fun a hk => ?_
    refine sm _ rfl hk rfl rfl rfl fun a hk => ?_
    obtain ⟨y17, h18, H⟩ := bind_some H
    refine sc rfl en71 hk rfl rfl rfl (spec_l04Ask_t _ x0 x1 x2 x3 _ h18) ?_
    rintro _ w ⟨rfl, hG⟩ a hk
    have hs := hs.call0 hG
    refine sa _ rfl hk rfl rfl rfl fun a hk => ?_
    show wpList _ _ _ [] _ _
    refine wpList_nil ?_
    refine hK16 _ _ ?_
    have hs := hs.pick [] rfl
    apply wp_seq_k; intro K19 hK19
    apply wp_region_lit
    refine sm _ rfl hk rfl rfl rfl fun a hk => ?_
    refine sv (.bool (y17 != 0)) hk rfl rfl rfl fun a hk => ?_
    show wpList _ _ _ [] _ _
    refine wpList_nil ?_
    refine hK19 _ _ ?_
    rcases cond_some H with ⟨c20, H⟩ | ⟨c20, H⟩
    ·have hk := hk.lit 35 c20 rfl
     refine cnd_true hk rfl rfl ?_
     apply wp_seq_k; intro K21 hK21
     apply wp_region_lit
     refine sm _ rfl hk rfl rfl rfl fun a hk => ?_
     refine sa _ rfl hk rfl rfl rfl fun a hk => ?_
     refine sa _ rfl hk rfl rfl rfl fun a hk => ?_
     show wpList _ _ _ [] _ _
     refine wpList_nil ?_
     refine hK21 _ _ ?_
     refine wp_ret ?_
     obtain rfl := Option.some.inj H
     exact fin hk _ [(.string (⟨#[]⟩ : ByteArray)), (.int .i64 y17)] rfl ⟨rfl, ⟨rfl, trivial⟩⟩ ⟨rfl, (hs.pick [] rfl).dnil⟩
    ·have hk := hk.lit 35 c20 rfl
     refine cnd_false hk rfl rfl ?_
     refine wp_skip ?_
     refine hK15 _ _ ?_
     apply wp_seq_k; intro K22 hK22
     apply wp_region_lit
     refine sm _ rfl hk rfl rfl rfl fun a hk => ?_
     refine sm _ rfl hk rfl rfl rfl fun a hk => ?_
     refine sm _ rfl hk rfl rfl rfl fun a hk => ?_
     refine sm _ rfl hk rfl rfl rfl fun a hk => ?_
     obtain ⟨y23, h24, H⟩ := bind_some H
     refine sc rfl en72 hk rfl rfl rfl (spec_l04Seal_t _ x0 x1 x2 x3 _ h24) ?_
     rintro _ w ⟨rfl, hG⟩ a hk
     have hs := hs.call0 hG
     refine sa _ rfl hk rfl rfl rfl fun a hk => ?_
     refine sa _ rfl hk rfl rfl rfl fun a hk => ?_
     show wpList _ _ _ [] _ _
     refine wpList_nil ?_
     refine hK22 _ _ ?_
     refine wp_ret ?_
     obtain rfl := Option.some.inj H
     exact fin hk _ [(.string y23), (.int .i64 0)] rfl ⟨rfl, ⟨rfl, trivial⟩⟩ ⟨rfl, (hs.pick [] rfl).dnil⟩

noncomputable def impl_open.f (x0 : ByteArray) (x1 : ByteArray) (x2 : ByteArray) (x3 : ByteArray) : Option (ByteArray × Bool) :=
  (bif (decide ((x3.size : Int) < 16)) then (some ((⟨#[]⟩ : ByteArray), false)) else (if 0 ≤ (w64 ((x3.size : Int) - 16)) ∧ (w64 ((x3.size : Int) - 16)) ≤ (x3.size : Int) then (if 0 ≤ (w64 ((x3.size : Int) - 16)) ∧ (w64 ((x3.size : Int) - 16)) ≤ (x3.size : Int) then ((impl_boxTag.f x0 x1 x2 (x3.extract 0 (w64 ((x3.size : Int) - 16)).toNat)).bind fun y12 => (bif (!(y12.toList == (x3.extract (w64 ((x3.size : Int) - 16)).toNat x3.size).toList)) then (some ((⟨#[]⟩ : ByteArray), false)) else ((impl_chaXor.f x0 x1 1 (x3.extract 0 (w64 ((x3.size : Int) - 16)).toNat)).bind fun y17 => (some (y17, true))))) else none) else none))
set_option maxRecDepth 100000 in
set_option maxHeartbeats 0 in
theorem impl_open_t (w0 : World) (x0 : ByteArray) (x1 : ByteArray) (x2 : ByteArray) (x3 : ByteArray) (r : ByteArray × Bool) (H : impl_open.f x0 x1 x2 x3 = some r) :
    Calls Try.prog 73 #[.string x0, .string x1, .string x2, .string x3] w0 (Ret (fun v w => v = .tuple #[.string r.1, .bool r.2] ∧ Sat [] w0 w [] [])) := by
  have hs : Sat [] w0 w0 [] [] := Sat.init w0 [] [] (by simp) (by simp) List.nodup_nil (by simp [blks])
  unfold impl_open.f at H
  refine enter Try.func73 rfl Try.ntmps73 rfl fun a hk => ?_
  apply wp_seq_k; intro K1 hK1
  apply wp_region_lit
  refine sa _ rfl hk rfl rfl rfl fun a hk => ?_
  refine sa _ rfl hk rfl rfl rfl fun a hk => ?_
  show wpList _ _ _ [] _ _
  refine wpList_nil ?_
  refine hK1 _ _ ?_
  apply wp_seq_k; intro K2 hK2
  apply wp_seq_k; intro K3 hK3
  apply wp_region_lit
  refine sm _ rfl hk rfl rfl rfl fun a hk => ?_
  refine sles rfl hk rfl rfl rfl un9 fun a hk => ?_
  refine sv (.bool (decide ((x3.size : Int) < 16))) hk rfl rfl rfl fun a hk => ?_
  show wpList _ _ _ [] _ _
  refine wpList_nil ?_
  refine hK3 _ _ ?_
  rcases cond_some H with ⟨c4, H⟩ | ⟨c4, H⟩
  ·have hk := hk.lit 14 c4 rfl
   refine cnd_true hk rfl rfl ?_
   apply wp_seq_k; intro K5 hK5
   apply wp_region_lit
   refine sa _ rfl hk rfl rfl rfl fun a hk => ?_
   refine sa _ rfl hk rfl rfl rfl fun a hk => ?_
   show wpList _ _ _ [] _ _
   refine wpList_nil ?_
   refine hK5 _ _ ?_
   refine wp_ret ?_
   obtain rfl := Option.some.inj H
   exact fin hk _ [(.string (⟨#[]⟩ : ByteArray)), (.bool false)] rfl ⟨rfl, ⟨rfl, trivial⟩⟩ ⟨rfl, (hs.pick [] rfl).dnil⟩
  ·have hk := hk.lit 14 c4 rfl
   refine cnd_false hk rfl rfl ?_
   refine wp_skip ?_
   refine hK2 _ _ ?_
   apply wp_seq_k; intro K6 hK6
   refine wp_region_tree (.q 0 (.q 1 (.q 2 (.q 3 (.q 4 (.q 5 (.q 6 (.q 7 (.q 8 (.q 9 (.alt 10 (.last 11) .stop))))))))))) mo (by kernel_rfl) (hs.pick [] rfl) fun _ => ?_
   have hs := hs.drew
   refine tqst (.string x3) hk rfl rfl rfl rfl (fun w hs => sm _ rfl hk rfl rfl rfl fun a hk => qe hk) fun a hk => ?_
   refine tqst (.string x3) hk rfl rfl rfl rfl (fun w hs => sm _ rfl hk rfl rfl rfl fun a hk => qe hk) fun a hk => ?_
   refine tqst (.int .i64 (x3.size : Int)) hk rfl rfl rfl rfl (fun w hs => sles rfl hk rfl rfl rfl un9 fun a hk => qe hk) fun a hk => ?_
   refine tqst (.int .i64 (w64 ((x3.size : Int) - 16))) hk rfl rfl rfl rfl (fun w hs => sv (.int .i64 (w64 ((x3.size : Int) - 16))) hk rfl rfl rfl fun a hk => qe hk) fun a hk => ?_
   rcases ite_some H with ⟨c8, H⟩ | ⟨_, H⟩
   rotate_left
   ·cases H
   refine tqst (.string (x3.extract 0 (w64 ((x3.size : Int) - 16)).toNat)) hk rfl rfl rfl rfl (fun w hs => ssl_h rfl hk rfl rfl rfl rfl un9 c8.1 c8.2 fun a hk => qe hk) fun a hk => ?_
   refine tqst (.string x3) hk rfl rfl rfl rfl (fun w hs => sm _ rfl hk rfl rfl rfl fun a hk => qe hk) fun a hk => ?_
   refine tqst (.string x3) hk rfl rfl rfl rfl (fun w hs => sm _ rfl hk rfl rfl rfl fun a hk => qe hk) fun a hk => ?_
   refine tqst (.int .i64 (x3.size : Int)) hk rfl rfl rfl rfl (fun w hs => sles rfl hk rfl rfl rfl un9 fun a hk => qe hk) fun a hk => ?_
   refine tqst (.int .i64 (w64 ((x3.size : Int) - 16))) hk rfl rfl rfl rfl (fun w hs => sv (.int .i64 (w64 ((x3.size : Int) - 16))) hk rfl rfl rfl fun a hk => qe hk) fun a hk => ?_
   rcases ite_some H with ⟨c9, H⟩ | ⟨_, H⟩
   rotate_left
   ·cases H
   refine tqst (.string (x3.extract (w64 ((x3.size : Int) - 16)).toNat x3.size)) hk rfl rfl rfl rfl (fun w hs => ssl_l rfl hk rfl rfl rfl rfl un9 c9.1 c9.2 fun a hk => qe hk) fun a hk => ?_
   refine tsst hk rfl rfl (fun K_r7_10 hK_r7_10 w hF => ?_) wt_stop
   have hs := hs.f hF
   refine sa _ rfl hk rfl rfl rfl fun a hk => ?_
   refine se (hs.pick [] rfl) hk (hK_r7_10 _ _ ?_)
   refine tlst hk rfl rfl fun K_r7_11 hK_r7_11 w hF => ?_
   have hs := hs.f hF
   refine sa _ rfl hk rfl rfl rfl fun a hk => ?_
   refine se trivial hk (hK_r7_11 _ _ fun w hF => ?_)
   have hs := hs.f hF
   refine hK6 _ _ ?_
   have hs := hs.pick [] rfl
   apply wp_seq_k; intro K10 hK10
   apply wp_seq_k; intro K11 hK11
   apply wp_region_lit
   refine sm _ rfl hk rfl rfl rfl fun a hk => ?_
   refine sm _ rfl hk rfl rfl rfl fun a hk => ?_
   refine sm _ rfl hk rfl rfl rfl fun a hk => ?_
   refine sm _ rfl hk rfl rfl rfl fun a hk => ?_
   obtain ⟨y12, h13, H⟩ := bind_some H
   refine sc rfl en74 hk rfl rfl rfl (impl_boxTag_t _ x0 x1 x2 (x3.extract 0 (w64 ((x3.size : Int) - 16)).toNat) _ h13) ?_
   rintro _ w ⟨rfl, hG⟩ a hk
   have hs := hs.call0 hG
   refine sm _ rfl hk rfl rfl rfl fun a hk => ?_
   refine sv (.bool (!(y12.toList == (x3.extract (w64 ((x3.size : Int) - 16)).toNat x3.size).toList))) hk rfl rfl rfl fun a hk => ?_
   show wpList _ _ _ [] _ _
   refine wpList_nil ?_
   refine hK11 _ _ ?_
   rcases cond_some H with ⟨c14, H⟩ | ⟨c14, H⟩
   ·have hk := hk.lit 31 c14 rfl
    refine cnd_true hk rfl rfl ?_
    apply wp_seq_k; intro K15 hK15
    apply wp_region_lit
    refine sa _ rfl hk rfl rfl rfl fun a hk => ?_
    refine sa _ rfl hk rfl rfl rfl fun a hk => ?_
    show wpList _ _ _ [] _ _
    refine wpList_nil ?_
    refine hK15 _ _ ?_
    refine wp_ret ?_
    obtain rfl := Option.some.inj H
    exact fin hk _ [(.string (⟨#[]⟩ : ByteArray)), (.bool false)] rfl ⟨rfl, ⟨rfl, trivial⟩⟩ ⟨rfl, (hs.pick [] rfl).dnil⟩
   ·have hk := hk.lit 31 c14 rfl
    refine cnd_false hk rfl rfl ?_
    refine wp_skip ?_
    refine hK10 _ _ ?_
    apply wp_seq_k; intro K16 hK16
    apply wp_region_lit
    refine sm _ rfl hk rfl rfl rfl fun a hk => ?_
    refine sm _ rfl hk rfl rfl rfl fun a hk => ?_
    refine sm _ rfl hk rfl rfl rfl fun a hk => ?_
    obtain ⟨y17, h18, H⟩ := bind_some H
    refine sc rfl en61 hk rfl rfl rfl (impl_chaXor_t _ x0 x1 1 (x3.extract 0 (w64 ((x3.size : Int) - 16)).toNat) _ h18) ?_
    rintro _ w ⟨rfl, hG⟩ a hk
    have hs := hs.call0 hG
    refine sa _ rfl hk rfl rfl rfl fun a hk => ?_
    refine sa _ rfl hk rfl rfl rfl fun a hk => ?_
    show wpList _ _ _ [] _ _
    refine wpList_nil ?_
    refine hK16 _ _ ?_
    refine wp_ret ?_
    obtain rfl := Option.some.inj H
    exact fin hk _ [(.string y17), (.bool true)] rfl ⟨rfl, ⟨rfl, trivial⟩⟩ ⟨rfl, (hs.pick [] rfl).dnil⟩

noncomputable def impl_OpenBox.f (x0 : ByteArray) (x1 : ByteArray) (x2 : ByteArray) (x3 : ByteArray) : Option (ByteArray × Int) :=
  ((impl_boxCode.f x0 x1 x2 x3).bind fun y4 => (bif (y4 != 0) then (some ((⟨#[]⟩ : ByteArray), y4)) else ((impl_open.f x0 x1 x2 x3).bind fun y10 => (bif (!y10.2) then (some ((⟨#[]⟩ : ByteArray), 9)) else (some (y10.1, 0))))))
set_option maxRecDepth 100000 in
set_option maxHeartbeats 0 in
theorem impl_OpenBox_t (w0 : World) (x0 : ByteArray) (x1 : ByteArray) (x2 : ByteArray) (x3 : ByteArray) (r : ByteArray × Int) (H : impl_OpenBox.f x0 x1 x2 x3 = some r) :
    Calls Try.prog 32 #[.string x0, .string x1, .string x2, .string x3] w0 (Ret (fun v w => v = .tuple #[.string r.1, .int .i64 r.2] ∧ Sat [] w0 w [] [])) := by
  have hs : Sat [] w0 w0 [] [] := Sat.init w0 [] [] (by simp) (by simp) List.nodup_nil (by simp [blks])
  unfold impl_OpenBox.f at H
  refine enter Try.func32 rfl Try.ntmps32 rfl fun a hk => ?_
  apply wp_seq_k; intro K1 hK1
  apply wp_region_lit
  refine sa _ rfl hk rfl rfl rfl fun a hk => ?_
  refine sa _ rfl hk rfl rfl rfl fun a hk => ?_
  show wpList _ _ _ [] _ _
  refine wpList_nil ?_
  refine hK1 _ _ ?_
  apply wp_seq_k; intro K2 hK2
  apply wp_seq_k; intro K3 hK3
  apply wp_region_lit
  refine sm _ rfl hk rfl rfl rfl fun a hk => ?_
  refine sm _ rfl hk rfl rfl rfl fun a hk => ?_
  refine sm _ rfl hk rfl rfl rfl fun a hk => ?_
  refine sm _ rfl hk rfl rfl rfl fun a hk => ?_
  obtain ⟨y4, h5, H⟩ := bind_some H
  refine sc rfl en69 hk rfl rfl rfl (impl_boxCode_t _ x0 x1 x2 x3 _ h5) ?_
  rintro _ w ⟨rfl, hG⟩ a hk
  have hs := hs.call0 hG
  refine sa _ rfl hk rfl rfl rfl fun a hk => ?_
  show wpList _ _ _ [] _ _
  refine wpList_nil ?_
  refine hK3 _ _ ?_
  apply wp_seq_k; intro K6 hK6
  apply wp_region_lit
  refine sm _ rfl hk rfl rfl rfl fun a hk => ?_
  refine sv (.bool (y4 != 0)) hk rfl rfl rfl fun a hk => ?_
  show wpList _ _ _ [] _ _
  refine wpList_nil ?_
  refine hK6 _ _ ?_
  rcases cond_some H with ⟨c7, H⟩ | ⟨c7, H⟩
  ·have hk := hk.lit 19 c7 rfl
   refine cnd_true hk rfl rfl ?_
   apply wp_seq_k; intro K8 hK8
   apply wp_region_lit
   refine sm _ rfl hk rfl rfl rfl fun a hk => ?_
   refine sa _ rfl hk rfl rfl rfl fun a hk => ?_
   refine sa _ rfl hk rfl rfl rfl fun a hk => ?_
   show wpList _ _ _ [] _ _
   refine wpList_nil ?_
   refine hK8 _ _ ?_
   have hs := hs.pick [] rfl
   refine wp_ret ?_
   obtain rfl := Option.some.inj H
   exact fin hk _ [(.string (⟨#[]⟩ : ByteArray)), (.int .i64 y4)] rfl ⟨rfl, ⟨rfl, trivial⟩⟩ ⟨rfl, (hs.pick [] rfl).dnil⟩
  ·have hk := hk.lit 19 c7 rfl
   refine cnd_false hk rfl rfl ?_
   refine wp_skip ?_
   refine hK2 _ _ ?_
   have hs := hs.pick [] rfl
   apply wp_seq_k; intro K9 hK9
   apply wp_region_lit
   refine sm _ rfl hk rfl rfl rfl fun a hk => ?_
   refine sm _ rfl hk rfl rfl rfl fun a hk => ?_
   refine sm _ rfl hk rfl rfl rfl fun a hk => ?_
   refine sm _ rfl hk rfl rfl rfl fun a hk => ?_
   obtain ⟨y10, h11, H⟩ := bind_some H
   refine sc rfl en73 hk rfl rfl rfl (impl_open_t _ x0 x1 x2 x3 _ h11) ?_
   rintro _ w ⟨rfl, hG⟩ a hk
   have hs := hs.call0 hG
   refine sm _ rfl hk rfl rfl rfl fun a hk => ?_
   refine sv (.string y10.1) hk rfl rfl rfl fun a hk => ?_
   refine sv (.bool y10.2) hk rfl rfl rfl fun a hk => ?_
   refine sa _ rfl hk rfl rfl rfl fun a hk => ?_
   refine sa _ rfl hk rfl rfl rfl fun a hk => ?_
   show wpList _ _ _ [] _ _
   refine wpList_nil ?_
   refine hK9 _ _ ?_
   apply wp_seq_k; intro K12 hK12
   apply wp_seq_k; intro K13 hK13
   apply wp_region_lit
   refine sm _ rfl hk rfl rfl rfl fun a hk => ?_
   refine sv (.bool (!y10.2)) hk rfl rfl rfl fun a hk => ?_
   show wpList _ _ _ [] _ _
   refine wpList_nil ?_
   refine hK13 _ _ ?_
   rcases cond_some H with ⟨c14, H⟩ | ⟨c14, H⟩
   ·have hk := hk.lit 30 c14 rfl
    refine cnd_true hk rfl rfl ?_
    apply wp_seq_k; intro K15 hK15
    apply wp_region_lit
    refine sa _ rfl hk rfl rfl rfl fun a hk => ?_
    refine sa _ rfl hk rfl rfl rfl fun a hk => ?_
    show wpList _ _ _ [] _ _
    refine wpList_nil ?_
    refine hK15 _ _ ?_
    refine wp_ret ?_
    obtain rfl := Option.some.inj H
    exact fin hk _ [(.string (⟨#[]⟩ : ByteArray)), (.int .i64 9)] rfl ⟨rfl, ⟨rfl, trivial⟩⟩ ⟨rfl, (hs.pick [] rfl).dnil⟩
   ·have hk := hk.lit 30 c14 rfl
    refine cnd_false hk rfl rfl ?_
    refine wp_skip ?_
    refine hK12 _ _ ?_
    apply wp_seq_k; intro K16 hK16
    apply wp_region_lit
    refine sm _ rfl hk rfl rfl rfl fun a hk => ?_
    refine sa _ rfl hk rfl rfl rfl fun a hk => ?_
    refine sa _ rfl hk rfl rfl rfl fun a hk => ?_
    show wpList _ _ _ [] _ _
    refine wpList_nil ?_
    refine hK16 _ _ ?_
    have hs := hs.pick [] rfl
    refine wp_ret ?_
    obtain rfl := Option.some.inj H
    exact fin hk _ [(.string y10.1), (.int .i64 0)] rfl ⟨rfl, ⟨rfl, trivial⟩⟩ ⟨rfl, (hs.pick [] rfl).dnil⟩

noncomputable def impl_BoxTag.f (x0 : ByteArray) (x1 : ByteArray) (x2 : ByteArray) (x3 : ByteArray) : Option (ByteArray × Int) :=
  ((impl_boxCode.f x0 x1 x2 x3).bind fun y4 => (bif (y4 != 0) then (some ((⟨#[]⟩ : ByteArray), y4)) else ((impl_boxTag.f x0 x1 x2 x3).bind fun y10 => (some (y10, 0)))))
set_option maxRecDepth 100000 in
set_option maxHeartbeats 0 in
theorem impl_BoxTag_t (w0 : World) (x0 : ByteArray) (x1 : ByteArray) (x2 : ByteArray) (x3 : ByteArray) (r : ByteArray × Int) (H : impl_BoxTag.f x0 x1 x2 x3 = some r) :
    Calls Try.prog 33 #[.string x0, .string x1, .string x2, .string x3] w0 (Ret (fun v w => v = .tuple #[.string r.1, .int .i64 r.2] ∧ Sat [] w0 w [] [])) := by
  have hs : Sat [] w0 w0 [] [] := Sat.init w0 [] [] (by simp) (by simp) List.nodup_nil (by simp [blks])
  unfold impl_BoxTag.f at H
  refine enter Try.func33 rfl Try.ntmps33 rfl fun a hk => ?_
  apply wp_seq_k; intro K1 hK1
  apply wp_region_lit
  refine sa _ rfl hk rfl rfl rfl fun a hk => ?_
  refine sa _ rfl hk rfl rfl rfl fun a hk => ?_
  show wpList _ _ _ [] _ _
  refine wpList_nil ?_
  refine hK1 _ _ ?_
  apply wp_seq_k; intro K2 hK2
  apply wp_seq_k; intro K3 hK3
  apply wp_region_lit
  refine sm _ rfl hk rfl rfl rfl fun a hk => ?_
  refine sm _ rfl hk rfl rfl rfl fun a hk => ?_
  refine sm _ rfl hk rfl rfl rfl fun a hk => ?_
  refine sm _ rfl hk rfl rfl rfl fun a hk => ?_
  obtain ⟨y4, h5, H⟩ := bind_some H
  refine sc rfl en69 hk rfl rfl rfl (impl_boxCode_t _ x0 x1 x2 x3 _ h5) ?_
  rintro _ w ⟨rfl, hG⟩ a hk
  have hs := hs.call0 hG
  refine sa _ rfl hk rfl rfl rfl fun a hk => ?_
  show wpList _ _ _ [] _ _
  refine wpList_nil ?_
  refine hK3 _ _ ?_
  apply wp_seq_k; intro K6 hK6
  apply wp_region_lit
  refine sm _ rfl hk rfl rfl rfl fun a hk => ?_
  refine sv (.bool (y4 != 0)) hk rfl rfl rfl fun a hk => ?_
  show wpList _ _ _ [] _ _
  refine wpList_nil ?_
  refine hK6 _ _ ?_
  rcases cond_some H with ⟨c7, H⟩ | ⟨c7, H⟩
  ·have hk := hk.lit 17 c7 rfl
   refine cnd_true hk rfl rfl ?_
   apply wp_seq_k; intro K8 hK8
   apply wp_region_lit
   refine sm _ rfl hk rfl rfl rfl fun a hk => ?_
   refine sa _ rfl hk rfl rfl rfl fun a hk => ?_
   refine sa _ rfl hk rfl rfl rfl fun a hk => ?_
   show wpList _ _ _ [] _ _
   refine wpList_nil ?_
   refine hK8 _ _ ?_
   have hs := hs.pick [] rfl
   refine wp_ret ?_
   obtain rfl := Option.some.inj H
   exact fin hk _ [(.string (⟨#[]⟩ : ByteArray)), (.int .i64 y4)] rfl ⟨rfl, ⟨rfl, trivial⟩⟩ ⟨rfl, (hs.pick [] rfl).dnil⟩
  ·have hk := hk.lit 17 c7 rfl
   refine cnd_false hk rfl rfl ?_
   refine wp_skip ?_
   refine hK2 _ _ ?_
   have hs := hs.pick [] rfl
   apply wp_seq_k; intro K9 hK9
   apply wp_region_lit
   refine sm _ rfl hk rfl rfl rfl fun a hk => ?_
   refine sm _ rfl hk rfl rfl rfl fun a hk => ?_
   refine sm _ rfl hk rfl rfl rfl fun a hk => ?_
   refine sm _ rfl hk rfl rfl rfl fun a hk => ?_
   obtain ⟨y10, h11, H⟩ := bind_some H
   refine sc rfl en74 hk rfl rfl rfl (impl_boxTag_t _ x0 x1 x2 x3 _ h11) ?_
   rintro _ w ⟨rfl, hG⟩ a hk
   have hs := hs.call0 hG
   refine sa _ rfl hk rfl rfl rfl fun a hk => ?_
   refine sa _ rfl hk rfl rfl rfl fun a hk => ?_
   show wpList _ _ _ [] _ _
   refine wpList_nil ?_
   refine hK9 _ _ ?_
   refine wp_ret ?_
   obtain rfl := Option.some.inj H
   exact fin hk _ [(.string y10), (.int .i64 0)] rfl ⟨rfl, ⟨rfl, trivial⟩⟩ ⟨rfl, (hs.pick [] rfl).dnil⟩

noncomputable def spec_TagEqual.s0 (x0 : ByteArray) (x1 : ByteArray) (u18 : Int) (u19 : Int) : Option ((Int × Int) ⊕ Ex (Int) (Bool)) :=
  (((bif (decide (u19 < (x0.size : Int))) then (some (decide (u19 < (x1.size : Int)))) else (some false)) : Option (Bool)).bind fun u32 => (bif u32 then (if 0 ≤ u19 ∧ u19 < (x0.size : Int) then (if 0 ≤ u19 ∧ u19 < (x1.size : Int) then (some (.inl ((IntKind.wrap .i64 ((BitVec.ofInt 64 u18 ||| BitVec.ofInt 64 (IntKind.wrap .i64 (IntKind.wrap .u8 ((BitVec.ofInt 8 (byteAt x0 u19) ^^^ BitVec.ofInt 8 (byteAt x1 u19)).toNat : Int)))).toNat : Int)), (w64 (u19 + 1))))) else none) else none) else (some (.inr (.out u18)))))
noncomputable def spec_TagEqual.f (x0 : ByteArray) (x1 : ByteArray) : Option (Bool) :=
  (((bif (decide ((x0.size : Int) > 65536)) then (some true) else (some (decide ((x1.size : Int) > 65536)))) : Option (Bool)).bind fun u5 => (bif u5 then (some false) else ((loopO (fun s => spec_TagEqual.s0 x0 x1 s.1 s.2) (0, 0)).bind fun o => match o with | .out u20 => (((bif (u20 == 0) then (some ((x0.size : Int) == (x1.size : Int))) else (some false)) : Option (Bool)).bind fun u46 => (some u46)) | .ret r => (some r))))
set_option maxRecDepth 100000 in
set_option maxHeartbeats 0 in
theorem spec_TagEqual_t (w0 : World) (x0 : ByteArray) (x1 : ByteArray) (r : Bool) (H : spec_TagEqual.f x0 x1 = some r) :
    Calls Try.prog 115 #[.string x0, .string x1] w0 (Ret (fun v w => v = .bool r ∧ Sat [] w0 w [] [])) := by
  have hs : Sat [] w0 w0 [] [] := Sat.init w0 [] [] (by simp) (by simp) List.nodup_nil (by simp [blks])
  unfold spec_TagEqual.f at H
  refine enter Try.func115 rfl Try.ntmps115 rfl fun a hk => ?_
  apply wp_seq_k; intro K1 hK1
  apply wp_region_lit
  refine sa _ rfl hk rfl rfl rfl fun a hk => ?_
  show wpList _ _ _ [] _ _
  refine wpList_nil ?_
  refine hK1 _ _ ?_
  apply wp_seq_k; intro K2 hK2
  apply wp_seq_k; intro K3 hK3
  obtain ⟨o6, h7, HL8⟩ := bind_some H
  clear H
  obtain ⟨R9, hR9⟩ : ∃ R : Act → World → Prop, R = fun a w => ∃ (u5 : Bool), u5 = o6 ∧ Kn [(0, (.string x0)), (1, (.string x1)), (14, (.bool u5))] 46 a ∧ Sat [] w0 w [] [] := ⟨_, rfl⟩
  refine wp_cutq R9 ?_ ?_
  ·have H := h7
   apply wp_region_lit
   refine sm _ rfl hk rfl rfl rfl fun a hk => ?_
   refine sles rfl hk rfl rfl rfl un9 fun a hk => ?_
   refine sv (.bool (decide ((x0.size : Int) > 65536))) hk rfl rfl rfl fun a hk => ?_
   refine sm _ rfl hk rfl rfl rfl fun a hk => ?_
   rcases cond_some H with ⟨c10, H⟩ | ⟨c10, H⟩
   ·have hk := hk.lit 10 c10 rfl
    refine sk hk rfl rfl rfl fun a hk => ?_
    refine sk hk rfl rfl rfl fun a hk => ?_
    refine sk hk rfl rfl rfl fun a hk => ?_
    refine sv (.bool true) hk rfl rfl rfl fun a hk => ?_
    show wpList _ _ _ [] _ _
    refine wpList_nil ?_
    obtain rfl := Option.some.inj H
    show R9 _ _
    rw [hR9]
    exact ⟨true, rfl, (hk.c 0 rfl (hk.c 1 rfl (hk.c 14 rfl hk.k))), (hs.pick [] rfl)⟩
   ·have hk := hk.lit 10 c10 rfl
    refine sm _ rfl hk rfl rfl rfl fun a hk => ?_
    refine sles rfl hk rfl rfl rfl un9 fun a hk => ?_
    refine sv (.bool (decide ((x1.size : Int) > 65536))) hk rfl rfl rfl fun a hk => ?_
    refine sv (.bool (decide ((x1.size : Int) > 65536))) hk rfl rfl rfl fun a hk => ?_
    show wpList _ _ _ [] _ _
    refine wpList_nil ?_
    obtain rfl := Option.some.inj H
    show R9 _ _
    rw [hR9]
    exact ⟨(decide ((x1.size : Int) > 65536)), rfl, (hk.c 0 rfl (hk.c 1 rfl (hk.c 14 rfl hk.k))), (hs.pick [] rfl)⟩
  ·intro a w hR0
   rw [hR9] at hR0
   obtain ⟨u5, rfl, hk, hs⟩ := hR0
   have H := HL8
   try dsimp only at H
   refine hK3 _ _ ?_
   rcases cond_some H with ⟨c11, H⟩ | ⟨c11, H⟩
   ·have hk := hk.lit 14 c11 rfl
    refine cnd_true hk rfl rfl ?_
    apply wp_seq_k; intro K12 hK12
    apply wp_region_lit
    refine sa _ rfl hk rfl rfl rfl fun a hk => ?_
    show wpList _ _ _ [] _ _
    refine wpList_nil ?_
    refine hK12 _ _ ?_
    refine wp_ret ?_
    obtain rfl := Option.some.inj H
    exact fin hk _ [(.bool false)] rfl ⟨rfl, trivial⟩ ⟨rfl, (hs.pick [] rfl).dnil⟩
   ·have hk := hk.lit 14 c11 rfl
    refine cnd_false hk rfl rfl ?_
    refine wp_skip ?_
    refine hK2 _ _ ?_
    apply wp_seq_k; intro K13 hK13
    apply wp_region_lit
    refine sa _ rfl hk rfl rfl rfl fun a hk => ?_
    show wpList _ _ _ [] _ _
    refine wpList_nil ?_
    refine hK13 _ _ ?_
    have hs := hs.pick [] rfl
    apply wp_seq_k; intro K14 hK14
    apply wp_seq_k; intro K15 hK15
    apply wp_region_lit
    refine sa _ rfl hk rfl rfl rfl fun a hk => ?_
    show wpList _ _ _ [] _ _
    refine wpList_nil ?_
    refine hK15 _ _ ?_
    obtain ⟨o21, h22, HL23⟩ := bind_some H
    clear H
    obtain ⟨R24, hR24⟩ : ∃ R : Act → World → Prop, R = fun a w => ∃ (u20 : Int), o21 = .out u20 ∧ Kn [(0, (.string x0)), (1, (.string x1)), (5, (.int .i64 u20))] 46 a ∧ Sat [] w0 w [] [] := ⟨_, rfl⟩
    refine wp_cutq R24 ?_ ?_
    ·refine wp_block ?_
     obtain ⟨fu26, h22⟩ := loopO_some h22
     obtain ⟨I25, hI25⟩ : ∃ I : Nat → Act → World → Prop, I = fun fu a w => ∃ (u18 : Int) (u19 : Int), loopN (fun s => spec_TagEqual.s0 x0 x1 s.1 s.2) fu (u18, u19) = some o21 ∧ Kn [(0, (.string x0)), (1, (.string x1)), (5, (.int .i64 u18)), (6, (.int .i64 u19))] 46 a ∧ Sat [] w0 w [] [] := ⟨_, rfl⟩
     refine wp_loop_ghost I25 fu26 ?_ ?_
     ·rw [hI25]
      exact ⟨0, 0, h22, (hk.c 0 rfl (hk.c 1 rfl (hk.c 5 rfl (hk.c 6 rfl hk.k)))), (hs.pick [] rfl)⟩
     ·clear h22 hk hs
      intro fu26 a w hI0
      rw [hI25] at hI0
      obtain ⟨u18, u19, hi, hk, hs⟩ := hI0
      obtain ⟨x27, H, h28⟩ := loop_round hi
      try dsimp only at H
      unfold spec_TagEqual.s0 at H
      apply wp_seq_k; intro K29 hK29
      apply wp_seq_k; intro K30 hK30
      obtain ⟨o33, h34, HL35⟩ := bind_some H
      clear H
      obtain ⟨R36, hR36⟩ : ∃ R : Act → World → Prop, R = fun a w => ∃ (u32 : Bool), u32 = o33 ∧ Kn [(0, (.string x0)), (1, (.string x1)), (5, (.int .i64 u18)), (6, (.int .i64 u19)), (24, (.bool u32))] 46 a ∧ Sat [] w0 w [] [] := ⟨_, rfl⟩
      refine wp_cutq R36 ?_ ?_
      ·have H := h34
       apply wp_region_lit
       refine sm _ rfl hk rfl rfl rfl fun a hk => ?_
       refine sm _ rfl hk rfl rfl rfl fun a hk => ?_
       refine sles rfl hk rfl rfl rfl un9 fun a hk => ?_
       refine sv (.bool (decide (u19 < (x0.size : Int)))) hk rfl rfl rfl fun a hk => ?_
       refine sm _ rfl hk rfl rfl rfl fun a hk => ?_
       rcases cond_some H with ⟨c37, H⟩ | ⟨c37, H⟩
       ·have hk := hk.lit 19 c37 rfl
        refine sm _ rfl hk rfl rfl rfl fun a hk => ?_
        refine sm _ rfl hk rfl rfl rfl fun a hk => ?_
        refine sles rfl hk rfl rfl rfl un9 fun a hk => ?_
        refine sv (.bool (decide (u19 < (x1.size : Int)))) hk rfl rfl rfl fun a hk => ?_
        refine sv (.bool (decide (u19 < (x1.size : Int)))) hk rfl rfl rfl fun a hk => ?_
        show wpList _ _ _ [] _ _
        refine wpList_nil ?_
        obtain rfl := Option.some.inj H
        show R36 _ _
        rw [hR36]
        exact ⟨(decide (u19 < (x1.size : Int))), rfl, (hk.c 0 rfl (hk.c 1 rfl (hk.c 5 rfl (hk.c 6 rfl (hk.c 24 rfl hk.k))))), (hs.pick [] rfl)⟩
       ·have hk := hk.lit 19 c37 rfl
        refine sk hk rfl rfl rfl fun a hk => ?_
        refine sk hk rfl rfl rfl fun a hk => ?_
        refine sk hk rfl rfl rfl fun a hk => ?_
        refine sk hk rfl rfl rfl fun a hk => ?_
        refine sv (.bool false) hk rfl rfl rfl fun a hk => ?_
        show wpList _ _ _ [] _ _
        refine wpList_nil ?_
        obtain rfl := Option.some.inj H
        show R36 _ _
        rw [hR36]
        exact ⟨false, rfl, (hk.c 0 rfl (hk.c 1 rfl (hk.c 5 rfl (hk.c 6 rfl (hk.c 24 rfl hk.k))))), (hs.pick [] rfl)⟩
      ·intro a w hR0
       rw [hR36] at hR0
       obtain ⟨u32, rfl, hk, hs⟩ := hR0
       have H := HL35
       try dsimp only at H
       refine hK30 _ _ ?_
       rcases cond_some H with ⟨c38, H⟩ | ⟨c38, H⟩
       ·have hk := hk.lit 24 c38 rfl
        refine cnd_true hk rfl rfl ?_
        refine wp_skip ?_
        refine hK29 _ _ ?_
        apply wp_seq_k; intro K39 hK39
        refine wp_block ?_
        refine wp_region_tree (.q 0 (.q 1 (.q 2 (.q 3 (.q 4 (.alt 5 (.alt 6 (.alt 7 (.alt 8 (.alt 9 (.last 10) .stop) .stop) .stop) .stop) .stop)))))) mo (by kernel_rfl) (hs.pick [] rfl) fun _ => ?_
        have hs := hs.drew
        refine tqst (.int .i64 u18) hk rfl rfl rfl rfl (fun w hs => sm _ rfl hk rfl rfl rfl fun a hk => qe hk) fun a hk => ?_
        refine tqst (.string x0) hk rfl rfl rfl rfl (fun w hs => sm _ rfl hk rfl rfl rfl fun a hk => qe hk) fun a hk => ?_
        refine tqst (.int .i64 u19) hk rfl rfl rfl rfl (fun w hs => sm _ rfl hk rfl rfl rfl fun a hk => qe hk) fun a hk => ?_
        rcases ite_some H with ⟨c41, H⟩ | ⟨_, H⟩
        rotate_left
        ·cases H
        refine tqst (.int .u8 (byteAt x0 u19)) hk rfl rfl rfl rfl (fun w hs => six rfl hk rfl rfl rfl rfl un9 c41.1 c41.2 fun a hk => qe hk) fun a hk => ?_
        refine tqst (.string x1) hk rfl rfl rfl rfl (fun w hs => sm _ rfl hk rfl rfl rfl fun a hk => qe hk) fun a hk => ?_
        refine tsst hk rfl rfl (fun K_r40_5 hK_r40_5 w hF => ?_) wt_stop
        have hs := hs.f hF
        refine sm _ rfl hk rfl rfl rfl fun a hk => ?_
        refine se (hs.pick [] rfl) hk (hK_r40_5 _ _ ?_)
        refine tsst hk rfl rfl (fun K_r40_6 hK_r40_6 w hF => ?_) wt_stop
        have hs := hs.f hF
        rcases ite_some H with ⟨c42, H⟩ | ⟨_, H⟩
        rotate_left
        ·cases H
        refine six rfl hk rfl rfl rfl rfl un9 c42.1 c42.2 fun a hk => ?_
        refine se (hs.pick [] rfl) hk (hK_r40_6 _ _ ?_)
        refine tsst hk rfl rfl (fun K_r40_7 hK_r40_7 w hF => ?_) wt_stop
        have hs := hs.f hF
        refine sv (.int .u8 (IntKind.wrap .u8 ((BitVec.ofInt 8 (byteAt x0 u19) ^^^ BitVec.ofInt 8 (byteAt x1 u19)).toNat : Int))) hk rfl rfl rfl fun a hk => ?_
        refine se (hs.pick [] rfl) hk (hK_r40_7 _ _ ?_)
        refine tsst hk rfl rfl (fun K_r40_8 hK_r40_8 w hF => ?_) wt_stop
        have hs := hs.f hF
        refine scn rfl hk rfl rfl rfl un3 un5 fun a hk => ?_
        refine se (hs.pick [] rfl) hk (hK_r40_8 _ _ ?_)
        refine tsst hk rfl rfl (fun K_r40_9 hK_r40_9 w hF => ?_) wt_stop
        have hs := hs.f hF
        refine sv (.int .i64 (IntKind.wrap .i64 ((BitVec.ofInt 64 u18 ||| BitVec.ofInt 64 (IntKind.wrap .i64 (IntKind.wrap .u8 ((BitVec.ofInt 8 (byteAt x0 u19) ^^^ BitVec.ofInt 8 (byteAt x1 u19)).toNat : Int)))).toNat : Int))) hk rfl rfl rfl fun a hk => ?_
        refine se (hs.pick [] rfl) hk (hK_r40_9 _ _ ?_)
        refine tlst hk rfl rfl fun K_r40_10 hK_r40_10 w hF => ?_
        have hs := hs.f hF
        refine sa _ rfl hk rfl rfl rfl fun a hk => ?_
        refine se trivial hk (hK_r40_10 _ _ fun w hF => ?_)
        have hs := hs.f hF
        refine hK39 _ _ ?_
        have hs := hs.pick [] rfl
        apply wp_region_lit
        refine sm _ rfl hk rfl rfl rfl fun a hk => ?_
        refine sv (.int .i64 (w64 (u19 + 1))) hk rfl rfl rfl fun a hk => ?_
        refine sa _ rfl hk rfl rfl rfl fun a hk => ?_
        show wpList _ _ _ [] _ _
        refine wpList_nil ?_
        obtain rfl := Option.some.inj H
        obtain ⟨m43, hmm43, h28⟩ := h28
        show ∃ n', n' < _ ∧ I25 n' _ _
        refine ⟨m43, hmm43, ?_⟩
        rw [hI25]
        exact ⟨(IntKind.wrap .i64 ((BitVec.ofInt 64 u18 ||| BitVec.ofInt 64 (IntKind.wrap .i64 (IntKind.wrap .u8 ((BitVec.ofInt 8 (byteAt x0 u19) ^^^ BitVec.ofInt 8 (byteAt x1 u19)).toNat : Int)))).toNat : Int)), (w64 (u19 + 1)), h28, (hk.c 0 rfl (hk.c 1 rfl (hk.c 5 rfl (hk.c 6 rfl hk.k)))), (hs.pick [] rfl)⟩
       ·have hk := hk.lit 24 c38 rfl
        refine cnd_false hk rfl rfl ?_
        refine wp_exit ?_
        obtain rfl := Option.some.inj H
        show R24 _ _
        rw [hR24]
        exact ⟨u18, h28.symm, (hk.c 0 rfl (hk.c 1 rfl (hk.c 5 rfl hk.k))), (hs.pick [] rfl)⟩
    ·intro a w hR0
     rw [hR24] at hR0
     obtain ⟨u20, rfl, hk, hs⟩ := hR0
     have H := HL23
     try dsimp only at H
     refine hK14 _ _ ?_
     apply wp_seq_k; intro K44 hK44
     obtain ⟨o47, h48, HL49⟩ := bind_some H
     clear H
     obtain ⟨R50, hR50⟩ : ∃ R : Act → World → Prop, R = fun a w => ∃ (u46 : Bool), u46 = o47 ∧ Kn [(4, (.bool u46))] 46 a ∧ Sat [] w0 w [] [] := ⟨_, rfl⟩
     refine wp_cutq R50 ?_ ?_
     ·have H := h48
      apply wp_region_lit
      refine sm _ rfl hk rfl rfl rfl fun a hk => ?_
      refine sv (.bool (u20 == 0)) hk rfl rfl rfl fun a hk => ?_
      refine sm _ rfl hk rfl rfl rfl fun a hk => ?_
      rcases cond_some H with ⟨c51, H⟩ | ⟨c51, H⟩
      ·have hk := hk.lit 39 c51 rfl
       refine sm _ rfl hk rfl rfl rfl fun a hk => ?_
       refine sles rfl hk rfl rfl rfl un9 fun a hk => ?_
       refine sm _ rfl hk rfl rfl rfl fun a hk => ?_
       refine sles rfl hk rfl rfl rfl un9 fun a hk => ?_
       refine sv (.bool ((x0.size : Int) == (x1.size : Int))) hk rfl rfl rfl fun a hk => ?_
       refine sv (.bool ((x0.size : Int) == (x1.size : Int))) hk rfl rfl rfl fun a hk => ?_
       refine sa _ rfl hk rfl rfl rfl fun a hk => ?_
       show wpList _ _ _ [] _ _
       refine wpList_nil ?_
       obtain rfl := Option.some.inj H
       show R50 _ _
       rw [hR50]
       exact ⟨((x0.size : Int) == (x1.size : Int)), rfl, (hk.c 4 rfl hk.k), (hs.pick [] rfl)⟩
      ·have hk := hk.lit 39 c51 rfl
       refine sk hk rfl rfl rfl fun a hk => ?_
       refine sk hk rfl rfl rfl fun a hk => ?_
       refine sk hk rfl rfl rfl fun a hk => ?_
       refine sk hk rfl rfl rfl fun a hk => ?_
       refine sk hk rfl rfl rfl fun a hk => ?_
       refine sv (.bool false) hk rfl rfl rfl fun a hk => ?_
       refine sa _ rfl hk rfl rfl rfl fun a hk => ?_
       show wpList _ _ _ [] _ _
       refine wpList_nil ?_
       obtain rfl := Option.some.inj H
       show R50 _ _
       rw [hR50]
       exact ⟨false, rfl, (hk.c 4 rfl hk.k), (hs.pick [] rfl)⟩
     ·intro a w hR0
      rw [hR50] at hR0
      obtain ⟨u46, rfl, hk, hs⟩ := hR0
      have H := HL49
      try dsimp only at H
      refine hK44 _ _ ?_
      refine wp_ret ?_
      obtain rfl := Option.some.inj H
      exact fin hk _ [(.bool u46)] rfl ⟨rfl, trivial⟩ ⟨rfl, (hs.pick [] rfl).dnil⟩

noncomputable def spec_l04Open.f (x0 : ByteArray) (x1 : ByteArray) (x2 : ByteArray) (x3 : ByteArray) : Option (ByteArray × Bool) :=
  (bif (decide ((x3.size : Int) < 16)) then (some ((⟨#[]⟩ : ByteArray), false)) else (if 0 ≤ (w64 ((x3.size : Int) - 16)) ∧ (w64 ((x3.size : Int) - 16)) ≤ (x3.size : Int) then ((spec_l04Tag.f x0 x1 x2 (x3.extract 0 (w64 ((x3.size : Int) - 16)).toNat)).bind fun y11 => (if 0 ≤ ((x3.extract 0 (w64 ((x3.size : Int) - 16)).toNat).size : Int) ∧ ((x3.extract 0 (w64 ((x3.size : Int) - 16)).toNat).size : Int) ≤ (x3.size : Int) then ((spec_TagEqual.f y11 (x3.extract ((x3.extract 0 (w64 ((x3.size : Int) - 16)).toNat).size : Int).toNat x3.size)).bind fun y14 => (bif (!y14) then (some ((⟨#[]⟩ : ByteArray), false)) else ((spec_l02Xor.f x0 x1 1 (x3.extract 0 (w64 ((x3.size : Int) - 16)).toNat)).bind fun y19 => (some (y19, true))))) else none)) else none))
set_option maxRecDepth 100000 in
set_option maxHeartbeats 0 in
theorem spec_l04Open_t (w0 : World) (x0 : ByteArray) (x1 : ByteArray) (x2 : ByteArray) (x3 : ByteArray) (r : ByteArray × Bool) (H : spec_l04Open.f x0 x1 x2 x3 = some r) :
    Calls Try.prog 75 #[.string x0, .string x1, .string x2, .string x3] w0 (Ret (fun v w => v = .tuple #[.string r.1, .bool r.2] ∧ Sat [] w0 w [] [])) := by
  have hs : Sat [] w0 w0 [] [] := Sat.init w0 [] [] (by simp) (by simp) List.nodup_nil (by simp [blks])
  unfold spec_l04Open.f at H
  refine enter Try.func75 rfl Try.ntmps75 rfl fun a hk => ?_
  apply wp_seq_k; intro K1 hK1
  apply wp_region_lit
  refine sa _ rfl hk rfl rfl rfl fun a hk => ?_
  refine sa _ rfl hk rfl rfl rfl fun a hk => ?_
  show wpList _ _ _ [] _ _
  refine wpList_nil ?_
  refine hK1 _ _ ?_
  apply wp_seq_k; intro K2 hK2
  apply wp_seq_k; intro K3 hK3
  apply wp_region_lit
  refine sm _ rfl hk rfl rfl rfl fun a hk => ?_
  refine sles rfl hk rfl rfl rfl un9 fun a hk => ?_
  refine sv (.bool (decide ((x3.size : Int) < 16))) hk rfl rfl rfl fun a hk => ?_
  show wpList _ _ _ [] _ _
  refine wpList_nil ?_
  refine hK3 _ _ ?_
  rcases cond_some H with ⟨c4, H⟩ | ⟨c4, H⟩
  ·have hk := hk.lit 13 c4 rfl
   refine cnd_true hk rfl rfl ?_
   apply wp_seq_k; intro K5 hK5
   apply wp_region_lit
   refine sa _ rfl hk rfl rfl rfl fun a hk => ?_
   refine sa _ rfl hk rfl rfl rfl fun a hk => ?_
   show wpList _ _ _ [] _ _
   refine wpList_nil ?_
   refine hK5 _ _ ?_
   refine wp_ret ?_
   obtain rfl := Option.some.inj H
   exact fin hk _ [(.string (⟨#[]⟩ : ByteArray)), (.bool false)] rfl ⟨rfl, ⟨rfl, trivial⟩⟩ ⟨rfl, (hs.pick [] rfl).dnil⟩
  ·have hk := hk.lit 13 c4 rfl
   refine cnd_false hk rfl rfl ?_
   refine wp_skip ?_
   refine hK2 _ _ ?_
   apply wp_seq_k; intro K6 hK6
   apply wp_region_lit
   refine sm _ rfl hk rfl rfl rfl fun a hk => ?_
   refine sm _ rfl hk rfl rfl rfl fun a hk => ?_
   refine sles rfl hk rfl rfl rfl un9 fun a hk => ?_
   refine sv (.int .i64 (w64 ((x3.size : Int) - 16))) hk rfl rfl rfl fun a hk => ?_
   rcases ite_some H with ⟨c7, H⟩ | ⟨_, H⟩
   rotate_left
   ·cases H
   refine ssl_h rfl hk rfl rfl rfl rfl un9 c7.1 c7.2 fun a hk => ?_
   refine sa _ rfl hk rfl rfl rfl fun a hk => ?_
   show wpList _ _ _ [] _ _
   refine wpList_nil ?_
   refine hK6 _ _ ?_
   have hs := hs.pick [] rfl
   apply wp_seq_k; intro K8 hK8
   apply wp_seq_k; intro K9 hK9
   refine wp_region_tree (.q 0 (.q 1 (.q 2 (.q 3 (.q 4 (.q 5 (.alt 6 (.alt 7 (.alt 8 (.alt 9 (.alt 10 .done .stop) .stop) .stop) .stop) .stop))))))) mo (by kernel_rfl) (hs.pick [] rfl) fun _ => ?_
   have hs := hs.drew
   refine tqst (.string x0) hk rfl rfl rfl rfl (fun w hs => sm _ rfl hk rfl rfl rfl fun a hk => qe hk) fun a hk => ?_
   refine tqst (.string x1) hk rfl rfl rfl rfl (fun w hs => sm _ rfl hk rfl rfl rfl fun a hk => qe hk) fun a hk => ?_
   refine tqst (.string x2) hk rfl rfl rfl rfl (fun w hs => sm _ rfl hk rfl rfl rfl fun a hk => qe hk) fun a hk => ?_
   refine tqst (.string (x3.extract 0 (w64 ((x3.size : Int) - 16)).toNat)) hk rfl rfl rfl rfl (fun w hs => sm _ rfl hk rfl rfl rfl fun a hk => qe hk) fun a hk => ?_
   obtain ⟨y11, h12, H⟩ := bind_some H
   refine tqst (.string y11) hk rfl rfl rfl rfl (fun w hs => sc rfl en113 hk rfl rfl rfl (spec_l04Tag_t _ x0 x1 x2 (x3.extract 0 (w64 ((x3.size : Int) - 16)).toNat) _ h12) fun _ w hR a hk => qc hR hk) fun a hk => ?_
   refine tqst (.string x3) hk rfl rfl rfl rfl (fun w hs => sm _ rfl hk rfl rfl rfl fun a hk => qe hk) fun a hk => ?_
   refine tsst hk rfl rfl (fun K_r10_6 hK_r10_6 w hF => ?_) wt_stop
   have hs := hs.f hF
   refine sm _ rfl hk rfl rfl rfl fun a hk => ?_
   refine se (hs.pick [] rfl) hk (hK_r10_6 _ _ ?_)
   refine tsst hk rfl rfl (fun K_r10_7 hK_r10_7 w hF => ?_) wt_stop
   have hs := hs.f hF
   refine sles rfl hk rfl rfl rfl un9 fun a hk => ?_
   refine se (hs.pick [] rfl) hk (hK_r10_7 _ _ ?_)
   refine tsst hk rfl rfl (fun K_r10_8 hK_r10_8 w hF => ?_) wt_stop
   have hs := hs.f hF
   rcases ite_some H with ⟨c13, H⟩ | ⟨_, H⟩
   rotate_left
   ·cases H
   refine ssl_l rfl hk rfl rfl rfl rfl un9 c13.1 c13.2 fun a hk => ?_
   refine se (hs.pick [] rfl) hk (hK_r10_8 _ _ ?_)
   refine tsst hk rfl rfl (fun K_r10_9 hK_r10_9 w hF => ?_) wt_stop
   have hs := hs.f hF
   obtain ⟨y14, h15, H⟩ := bind_some H
   refine sc rfl en115 hk rfl rfl rfl (spec_TagEqual_t _ y11 (x3.extract ((x3.extract 0 (w64 ((x3.size : Int) - 16)).toNat).size : Int).toNat x3.size) _ h15) ?_
   rintro _ w ⟨rfl, hG⟩ a hk
   have hs := hs.call0 hG
   refine se (hs.pick [] rfl) hk (hK_r10_9 _ _ ?_)
   refine tsst hk rfl rfl (fun K_r10_10 hK_r10_10 w hF => ?_) wt_stop
   have hs := hs.f hF
   refine sv (.bool (!y14)) hk rfl rfl rfl fun a hk => ?_
   refine se (hs.pick [] rfl) hk (hK_r10_10 _ _ ?_)
   refine wtl_nil fun w hF _ => ?_
   have hs := hs.f hF
   refine hK9 _ _ ?_
   rcases cond_some H with ⟨c16, H⟩ | ⟨c16, H⟩
   ·have hk := hk.lit 29 c16 rfl
    refine cnd_true hk rfl rfl ?_
    apply wp_seq_k; intro K17 hK17
    apply wp_region_lit
    refine sa _ rfl hk rfl rfl rfl fun a hk => ?_
    refine sa _ rfl hk rfl rfl rfl fun a hk => ?_
    show wpList _ _ _ [] _ _
    refine wpList_nil ?_
    refine hK17 _ _ ?_
    refine wp_ret ?_
    obtain rfl := Option.some.inj H
    exact fin hk _ [(.string (⟨#[]⟩ : ByteArray)), (.bool false)] rfl ⟨rfl, ⟨rfl, trivial⟩⟩ ⟨rfl, (hs.pick [] rfl).dnil⟩
   ·have hk := hk.lit 29 c16 rfl
    refine cnd_false hk rfl rfl ?_
    refine wp_skip ?_
    refine hK8 _ _ ?_
    apply wp_seq_k; intro K18 hK18
    apply wp_region_lit
    refine sm _ rfl hk rfl rfl rfl fun a hk => ?_
    refine sm _ rfl hk rfl rfl rfl fun a hk => ?_
    refine sm _ rfl hk rfl rfl rfl fun a hk => ?_
    obtain ⟨y19, h20, H⟩ := bind_some H
    refine sc rfl en63 hk rfl rfl rfl (spec_l02Xor_t _ x0 x1 1 (x3.extract 0 (w64 ((x3.size : Int) - 16)).toNat) _ h20) ?_
    rintro _ w ⟨rfl, hG⟩ a hk
    have hs := hs.call0 hG
    refine sa _ rfl hk rfl rfl rfl fun a hk => ?_
    refine sa _ rfl hk rfl rfl rfl fun a hk => ?_
    show wpList _ _ _ [] _ _
    refine wpList_nil ?_
    refine hK18 _ _ ?_
    refine wp_ret ?_
    obtain rfl := Option.some.inj H
    exact fin hk _ [(.string y19), (.bool true)] rfl ⟨rfl, ⟨rfl, trivial⟩⟩ ⟨rfl, (hs.pick [] rfl).dnil⟩

noncomputable def spec_OpenBox.f (x0 : ByteArray) (x1 : ByteArray) (x2 : ByteArray) (x3 : ByteArray) : Option (ByteArray × Int) :=
  (((bif (decide ((x0.size : Int) > 65536)) then (some true) else (bif (decide ((x1.size : Int) > 65536)) then (some true) else (bif (decide ((x2.size : Int) > 65536)) then (some true) else (some (decide ((x3.size : Int) > 65536)))))) : Option (Bool)).bind fun u5 => (bif u5 then (some ((⟨#[]⟩ : ByteArray), 2)) else ((spec_l04Ask.f x0 x1 x2 x3).bind fun y17 => (bif (y17 != 0) then (some ((⟨#[]⟩ : ByteArray), y17)) else ((spec_l04Open.f x0 x1 x2 x3).bind fun y23 => (bif (!y23.2) then (some ((⟨#[]⟩ : ByteArray), 9)) else (some (y23.1, 0))))))))
set_option maxRecDepth 100000 in
set_option maxHeartbeats 0 in
theorem spec_OpenBox_t (w0 : World) (x0 : ByteArray) (x1 : ByteArray) (x2 : ByteArray) (x3 : ByteArray) (r : ByteArray × Int) (H : spec_OpenBox.f x0 x1 x2 x3 = some r) :
    Calls Try.prog 34 #[.string x0, .string x1, .string x2, .string x3] w0 (Ret (fun v w => v = .tuple #[.string r.1, .int .i64 r.2] ∧ Sat [] w0 w [] [])) := by
  have hs : Sat [] w0 w0 [] [] := Sat.init w0 [] [] (by simp) (by simp) List.nodup_nil (by simp [blks])
  unfold spec_OpenBox.f at H
  refine enter Try.func34 rfl Try.ntmps34 rfl fun a hk => ?_
  apply wp_seq_k; intro K1 hK1
  apply wp_region_lit
  refine sa _ rfl hk rfl rfl rfl fun a hk => ?_
  refine sa _ rfl hk rfl rfl rfl fun a hk => ?_
  show wpList _ _ _ [] _ _
  refine wpList_nil ?_
  refine hK1 _ _ ?_
  apply wp_seq_k; intro K2 hK2
  apply wp_seq_k; intro K3 hK3
  obtain ⟨o6, h7, HL8⟩ := bind_some H
  clear H
  obtain ⟨R9, hR9⟩ : ∃ R : Act → World → Prop, R = fun a w => ∃ (u5 : Bool), u5 = o6 ∧ Kn [(0, (.string x0)), (1, (.string x1)), (2, (.string x2)), (3, (.string x3)), (30, (.bool u5))] 50 a ∧ Sat [] w0 w [] [] := ⟨_, rfl⟩
  refine wp_cutq R9 ?_ ?_
  ·have H := h7
   apply wp_region_lit
   refine sm _ rfl hk rfl rfl rfl fun a hk => ?_
   refine sles rfl hk rfl rfl rfl un9 fun a hk => ?_
   refine sv (.bool (decide ((x0.size : Int) > 65536))) hk rfl rfl rfl fun a hk => ?_
   refine sm _ rfl hk rfl rfl rfl fun a hk => ?_
   rcases cond_some H with ⟨c10, H⟩ | ⟨c10, H⟩
   ·have hk := hk.lit 16 c10 rfl
    refine sk hk rfl rfl rfl fun a hk => ?_
    refine sk hk rfl rfl rfl fun a hk => ?_
    refine sk hk rfl rfl rfl fun a hk => ?_
    refine sv (.bool true) hk rfl rfl rfl fun a hk => ?_
    refine sm _ rfl hk rfl rfl rfl fun a hk => ?_
    refine sk hk rfl rfl rfl fun a hk => ?_
    refine sk hk rfl rfl rfl fun a hk => ?_
    refine sk hk rfl rfl rfl fun a hk => ?_
    refine sv (.bool true) hk rfl rfl rfl fun a hk => ?_
    refine sm _ rfl hk rfl rfl rfl fun a hk => ?_
    refine sk hk rfl rfl rfl fun a hk => ?_
    refine sk hk rfl rfl rfl fun a hk => ?_
    refine sk hk rfl rfl rfl fun a hk => ?_
    refine sv (.bool true) hk rfl rfl rfl fun a hk => ?_
    show wpList _ _ _ [] _ _
    refine wpList_nil ?_
    obtain rfl := Option.some.inj H
    show R9 _ _
    rw [hR9]
    exact ⟨true, rfl, (hk.c 0 rfl (hk.c 1 rfl (hk.c 2 rfl (hk.c 3 rfl (hk.c 30 rfl hk.k))))), (hs.pick [] rfl)⟩
   ·have hk := hk.lit 16 c10 rfl
    refine sm _ rfl hk rfl rfl rfl fun a hk => ?_
    refine sles rfl hk rfl rfl rfl un9 fun a hk => ?_
    refine sv (.bool (decide ((x1.size : Int) > 65536))) hk rfl rfl rfl fun a hk => ?_
    refine sv (.bool (decide ((x1.size : Int) > 65536))) hk rfl rfl rfl fun a hk => ?_
    refine sm _ rfl hk rfl rfl rfl fun a hk => ?_
    rcases cond_some H with ⟨c11, H⟩ | ⟨c11, H⟩
    ·have hk := hk.lit 21 c11 rfl
     refine sk hk rfl rfl rfl fun a hk => ?_
     refine sk hk rfl rfl rfl fun a hk => ?_
     refine sk hk rfl rfl rfl fun a hk => ?_
     refine sv (.bool true) hk rfl rfl rfl fun a hk => ?_
     refine sm _ rfl hk rfl rfl rfl fun a hk => ?_
     refine sk hk rfl rfl rfl fun a hk => ?_
     refine sk hk rfl rfl rfl fun a hk => ?_
     refine sk hk rfl rfl rfl fun a hk => ?_
     refine sv (.bool true) hk rfl rfl rfl fun a hk => ?_
     show wpList _ _ _ [] _ _
     refine wpList_nil ?_
     obtain rfl := Option.some.inj H
     show R9 _ _
     rw [hR9]
     exact ⟨true, rfl, (hk.c 0 rfl (hk.c 1 rfl (hk.c 2 rfl (hk.c 3 rfl (hk.c 30 rfl hk.k))))), (hs.pick [] rfl)⟩
    ·have hk := hk.lit 21 c11 rfl
     refine sm _ rfl hk rfl rfl rfl fun a hk => ?_
     refine sles rfl hk rfl rfl rfl un9 fun a hk => ?_
     refine sv (.bool (decide ((x2.size : Int) > 65536))) hk rfl rfl rfl fun a hk => ?_
     refine sv (.bool (decide ((x2.size : Int) > 65536))) hk rfl rfl rfl fun a hk => ?_
     refine sm _ rfl hk rfl rfl rfl fun a hk => ?_
     rcases cond_some H with ⟨c12, H⟩ | ⟨c12, H⟩
     ·have hk := hk.lit 26 c12 rfl
      refine sk hk rfl rfl rfl fun a hk => ?_
      refine sk hk rfl rfl rfl fun a hk => ?_
      refine sk hk rfl rfl rfl fun a hk => ?_
      refine sv (.bool true) hk rfl rfl rfl fun a hk => ?_
      show wpList _ _ _ [] _ _
      refine wpList_nil ?_
      obtain rfl := Option.some.inj H
      show R9 _ _
      rw [hR9]
      exact ⟨true, rfl, (hk.c 0 rfl (hk.c 1 rfl (hk.c 2 rfl (hk.c 3 rfl (hk.c 30 rfl hk.k))))), (hs.pick [] rfl)⟩
     ·have hk := hk.lit 26 c12 rfl
      refine sm _ rfl hk rfl rfl rfl fun a hk => ?_
      refine sles rfl hk rfl rfl rfl un9 fun a hk => ?_
      refine sv (.bool (decide ((x3.size : Int) > 65536))) hk rfl rfl rfl fun a hk => ?_
      refine sv (.bool (decide ((x3.size : Int) > 65536))) hk rfl rfl rfl fun a hk => ?_
      show wpList _ _ _ [] _ _
      refine wpList_nil ?_
      obtain rfl := Option.some.inj H
      show R9 _ _
      rw [hR9]
      exact ⟨(decide ((x3.size : Int) > 65536)), rfl, (hk.c 0 rfl (hk.c 1 rfl (hk.c 2 rfl (hk.c 3 rfl (hk.c 30 rfl hk.k))))), (hs.pick [] rfl)⟩
  ·intro a w hR0
   rw [hR9] at hR0
   obtain ⟨u5, rfl, hk, hs⟩ := hR0
   have H := HL8
   try dsimp only at H
   refine hK3 _ _ ?_
   rcases cond_some H with ⟨c13, H⟩ | ⟨c13, H⟩
   ·have hk := hk.lit 30 c13 rfl
    refine cnd_true hk rfl rfl ?_
    apply wp_seq_k; intro K14 hK14
    apply wp_region_lit
    refine sa _ rfl hk rfl rfl rfl fun a hk => ?_
    refine sa _ rfl hk rfl rfl rfl fun a hk => ?_
    show wpList _ _ _ [] _ _
    refine wpList_nil ?_
    refine hK14 _ _ ?_
    refine wp_ret ?_
    obtain rfl := Option.some.inj H
    exact fin hk _ [(.string (⟨#[]⟩ : ByteArray)), (.int .i64 2)] rfl ⟨rfl, ⟨rfl, trivial⟩⟩ ⟨rfl, (hs.pick [] rfl).dnil⟩
   ·have hk := hk.lit 30 c13 rfl
    refine cnd_false hk rfl rfl ?_
    refine wp_skip ?_
    refine hK2 _ _ ?_
    apply wp_seq_k; intro K15 hK15
    apply wp_seq_k; intro K16 hK16
    apply wp_region_lit
    refine sm _ rfl hk rfl rfl rfl fun a hk => ?_
    refine sm _ rfl hk rfl rfl rfl fun a hk => ?_
    refine sm _ rfl hk rfl rfl rfl fun a hk => ?_
    refine sm _ rfl hk rfl rfl rfl fun a hk => ?_
    obtain ⟨y17, h18, H⟩ := bind_some H
    refine sc rfl en71 hk rfl rfl rfl (spec_l04Ask_t _ x0 x1 x2 x3 _ h18) ?_
    rintro _ w ⟨rfl, hG⟩ a hk
    have hs := hs.call0 hG
    refine sa _ rfl hk rfl rfl rfl fun a hk => ?_
    show wpList _ _ _ [] _ _
    refine wpList_nil ?_
    refine hK16 _ _ ?_
    have hs := hs.pick [] rfl
    apply wp_seq_k; intro K19 hK19
    apply wp_region_lit
    refine sm _ rfl hk rfl rfl rfl fun a hk => ?_
    refine sv (.bool (y17 != 0)) hk rfl rfl rfl fun a hk => ?_
    show wpList _ _ _ [] _ _
    refine wpList_nil ?_
    refine hK19 _ _ ?_
    rcases cond_some H with ⟨c20, H⟩ | ⟨c20, H⟩
    ·have hk := hk.lit 37 c20 rfl
     refine cnd_true hk rfl rfl ?_
     apply wp_seq_k; intro K21 hK21
     apply wp_region_lit
     refine sm _ rfl hk rfl rfl rfl fun a hk => ?_
     refine sa _ rfl hk rfl rfl rfl fun a hk => ?_
     refine sa _ rfl hk rfl rfl rfl fun a hk => ?_
     show wpList _ _ _ [] _ _
     refine wpList_nil ?_
     refine hK21 _ _ ?_
     refine wp_ret ?_
     obtain rfl := Option.some.inj H
     exact fin hk _ [(.string (⟨#[]⟩ : ByteArray)), (.int .i64 y17)] rfl ⟨rfl, ⟨rfl, trivial⟩⟩ ⟨rfl, (hs.pick [] rfl).dnil⟩
    ·have hk := hk.lit 37 c20 rfl
     refine cnd_false hk rfl rfl ?_
     refine wp_skip ?_
     refine hK15 _ _ ?_
     apply wp_seq_k; intro K22 hK22
     apply wp_region_lit
     refine sm _ rfl hk rfl rfl rfl fun a hk => ?_
     refine sm _ rfl hk rfl rfl rfl fun a hk => ?_
     refine sm _ rfl hk rfl rfl rfl fun a hk => ?_
     refine sm _ rfl hk rfl rfl rfl fun a hk => ?_
     obtain ⟨y23, h24, H⟩ := bind_some H
     refine sc rfl en75 hk rfl rfl rfl (spec_l04Open_t _ x0 x1 x2 x3 _ h24) ?_
     rintro _ w ⟨rfl, hG⟩ a hk
     have hs := hs.call0 hG
     refine sm _ rfl hk rfl rfl rfl fun a hk => ?_
     refine sv (.string y23.1) hk rfl rfl rfl fun a hk => ?_
     refine sv (.bool y23.2) hk rfl rfl rfl fun a hk => ?_
     refine sa _ rfl hk rfl rfl rfl fun a hk => ?_
     refine sa _ rfl hk rfl rfl rfl fun a hk => ?_
     show wpList _ _ _ [] _ _
     refine wpList_nil ?_
     refine hK22 _ _ ?_
     apply wp_seq_k; intro K25 hK25
     apply wp_seq_k; intro K26 hK26
     apply wp_region_lit
     refine sm _ rfl hk rfl rfl rfl fun a hk => ?_
     refine sv (.bool (!y23.2)) hk rfl rfl rfl fun a hk => ?_
     show wpList _ _ _ [] _ _
     refine wpList_nil ?_
     refine hK26 _ _ ?_
     have hs := hs.pick [] rfl
     rcases cond_some H with ⟨c27, H⟩ | ⟨c27, H⟩
     ·have hk := hk.lit 48 c27 rfl
      refine cnd_true hk rfl rfl ?_
      apply wp_seq_k; intro K28 hK28
      apply wp_region_lit
      refine sa _ rfl hk rfl rfl rfl fun a hk => ?_
      refine sa _ rfl hk rfl rfl rfl fun a hk => ?_
      show wpList _ _ _ [] _ _
      refine wpList_nil ?_
      refine hK28 _ _ ?_
      refine wp_ret ?_
      obtain rfl := Option.some.inj H
      exact fin hk _ [(.string (⟨#[]⟩ : ByteArray)), (.int .i64 9)] rfl ⟨rfl, ⟨rfl, trivial⟩⟩ ⟨rfl, (hs.pick [] rfl).dnil⟩
     ·have hk := hk.lit 48 c27 rfl
      refine cnd_false hk rfl rfl ?_
      refine wp_skip ?_
      refine hK25 _ _ ?_
      apply wp_seq_k; intro K29 hK29
      apply wp_region_lit
      refine sm _ rfl hk rfl rfl rfl fun a hk => ?_
      refine sa _ rfl hk rfl rfl rfl fun a hk => ?_
      refine sa _ rfl hk rfl rfl rfl fun a hk => ?_
      show wpList _ _ _ [] _ _
      refine wpList_nil ?_
      refine hK29 _ _ ?_
      refine wp_ret ?_
      obtain rfl := Option.some.inj H
      exact fin hk _ [(.string y23.1), (.int .i64 0)] rfl ⟨rfl, ⟨rfl, trivial⟩⟩ ⟨rfl, (hs.pick [] rfl).dnil⟩

noncomputable def laws_FnBox.f (l0 : List Int) (l1 : List Int) : Option (Bool) :=
  (((bif (decide ((l0.length : Int) > 1048576)) then (some true) else (some (decide ((l1.length : Int) > 1048576)))) : Option (Bool)).bind fun u5 => (bif u5 then (some true) else ((spec_KeyOf.f l0).bind fun y14 => ((spec_NonceDrawn.f l1).bind fun y17 => ((laws_at.f l1 0 20).bind fun y20 => ((spec_BytesOf.f l0 y20).bind fun y22 => ((spec_TextOf.f l1).bind fun y25 => ((impl_SealBox.f y14 y17 y22 y25).bind fun y28 => ((spec_SealBox.f y14 y17 y22 y25).bind fun y31 => ((impl_OpenBox.f y14 y17 y22 y28.1).bind fun y34 => (((bif (y28.2 != 0) then (some true) else (bif (!(y28.1.toList == y31.1.toList)) then (some true) else (bif (y34.2 != 0) then (some true) else (bif (!(y34.1.toList == y25.toList)) then (some true) else (some ((y28.1.size : Int) != (w64 ((y25.size : Int) + 16)))))))) : Option (Bool)).bind fun u39 => (bif u39 then (some false) else (if 0 ≤ (y25.size : Int) ∧ (y25.size : Int) ≤ (y28.1.size : Int) then ((impl_BoxTag.f y14 y17 y22 (y28.1.extract 0 (y25.size : Int).toNat)).bind fun y52 => ((laws_at.f l1 1 (y28.1.size : Int)).bind fun y55 => (if 0 ≤ y55 ∧ y55 ≤ (y28.1.size : Int) then (if 0 ≤ y55 ∧ y55 < (y28.1.size : Int) then ((laws_at.f l0 1 255).bind fun y61 => (if 0 ≤ (w64 (y55 + 1)) ∧ (w64 (y55 + 1)) ≤ (y28.1.size : Int) then (if (y28.1.extract 0 y55.toNat).size + (strOfNums ([(IntKind.wrap .u8 ((BitVec.ofInt 8 (byteAt y28.1 y55) ^^^ BitVec.ofInt 8 (IntKind.wrap .u8 (w64 (1 + y61)))).toNat : Int))])).size ≤ 1152921504606846976 then (if ((y28.1.extract 0 y55.toNat) ++ (strOfNums ([(IntKind.wrap .u8 ((BitVec.ofInt 8 (byteAt y28.1 y55) ^^^ BitVec.ofInt 8 (IntKind.wrap .u8 (w64 (1 + y61)))).toNat : Int))]))).size + (y28.1.extract (w64 (y55 + 1)).toNat y28.1.size).size ≤ 1152921504606846976 then ((impl_OpenBox.f y14 y17 y22 (((y28.1.extract 0 y55.toNat) ++ (strOfNums ([(IntKind.wrap .u8 ((BitVec.ofInt 8 (byteAt y28.1 y55) ^^^ BitVec.ofInt 8 (IntKind.wrap .u8 (w64 (1 + y61)))).toNat : Int))]))) ++ (y28.1.extract (w64 (y55 + 1)).toNat y28.1.size))).bind fun y70 => ((spec_OpenBox.f y14 y17 y22 (((y28.1.extract 0 y55.toNat) ++ (strOfNums ([(IntKind.wrap .u8 ((BitVec.ofInt 8 (byteAt y28.1 y55) ^^^ BitVec.ofInt 8 (IntKind.wrap .u8 (w64 (1 + y61)))).toNat : Int))]))) ++ (y28.1.extract (w64 (y55 + 1)).toNat y28.1.size))).bind fun y73 => (if 0 ≤ (Int.tmod y55 16) ∧ (Int.tmod y55 16) ≤ (y28.1.size : Int) then ((impl_OpenBox.f y14 y17 y22 (y28.1.extract 0 (Int.tmod y55 16).toNat)).bind fun y77 => (((bif (y52.2 == 0) then (if 0 ≤ (y25.size : Int) ∧ (y25.size : Int) ≤ (y28.1.size : Int) then (bif (y52.1.toList == (y28.1.extract (y25.size : Int).toNat y28.1.size).toList) then (bif (y70.2 == y73.2) then (bif (y70.2 == 9) then (some (y77.2 == 9)) else (bif ((y73.1.size : Int) == (y25.size : Int)) then (some (y77.2 == 9)) else (some false))) else (some false)) else (some false)) else none) else (some false)) : Option (Bool)).bind fun u81 => (some u81))) else none))) else none) else none) else none)) else none) else none))) else none)))))))))))))
set_option maxRecDepth 100000 in
set_option maxHeartbeats 0 in
theorem laws_FnBox_t (w0 : World) (A0_ : Option Addr) (p0_ : Nat) (l0 : List Int) (k0_ : Chunk) (v0_ : View (Lay.int .u8) A0_ p0_ l0 k0_) (w0_ : Has w0 k0_) (A1_ : Option Addr) (p1_ : Nat) (l1 : List Int) (k1_ : Chunk) (v1_ : View (Lay.int .u8) A1_ p1_ l1 k1_) (w1_ : Has w0 k1_) (r : Bool) (H : laws_FnBox.f l0 l1 = some r) :
    Calls Try.prog 6 #[.slice A0_ l0.length p0_, .slice A1_ l1.length p1_] w0 (Ret (fun v w => v = .bool r ∧ Sat [] w0 w [] [])) := by
  have hs : Sat [] w0 w0 [(1, k0_), (2, k1_)] [] := Sat.init w0 [(1, k0_), (2, k1_)] [] (by simp only [List.mem_cons, List.not_mem_nil, or_false]; rintro x (rfl | rfl) <;> assumption) (by simp) List.nodup_nil (by simp [blks])
  unfold laws_FnBox.f at H
  refine enter Try.func6 rfl Try.ntmps6 rfl fun a hk => ?_
  apply wp_seq_k; intro K1 hK1
  apply wp_region_lit
  refine sa _ rfl hk rfl rfl rfl fun a hk => ?_
  show wpList _ _ _ [] _ _
  refine wpList_nil ?_
  refine hK1 _ _ ?_
  apply wp_seq_k; intro K2 hK2
  apply wp_seq_k; intro K3 hK3
  obtain ⟨o6, h7, HL8⟩ := bind_some H
  clear H
  obtain ⟨R9, hR9⟩ : ∃ R : Act → World → Prop, R = fun a w => ∃ (u5 : Bool), u5 = o6 ∧ Kn [(0, (.slice A0_ l0.length p0_)), (1, (.slice A1_ l1.length p1_)), (32, (.bool u5))] 182 a ∧ Sat [] w0 w [(1, k0_), (2, k1_)] [] := ⟨_, rfl⟩
  refine wp_cutq R9 ?_ ?_
  ·have H := h7
   apply wp_region_lit
   refine sm _ rfl hk rfl rfl rfl fun a hk => ?_
   refine sle rfl hk rfl rfl rfl un22 fun a hk => ?_
   refine sv (.bool (decide ((l0.length : Int) > 1048576))) hk rfl rfl rfl fun a hk => ?_
   refine sm _ rfl hk rfl rfl rfl fun a hk => ?_
   rcases cond_some H with ⟨c10, H⟩ | ⟨c10, H⟩
   ·have hk := hk.lit 28 c10 rfl
    refine sk hk rfl rfl rfl fun a hk => ?_
    refine sk hk rfl rfl rfl fun a hk => ?_
    refine sk hk rfl rfl rfl fun a hk => ?_
    refine sv (.bool true) hk rfl rfl rfl fun a hk => ?_
    show wpList _ _ _ [] _ _
    refine wpList_nil ?_
    obtain rfl := Option.some.inj H
    show R9 _ _
    rw [hR9]
    exact ⟨true, rfl, (hk.c 0 rfl (hk.c 1 rfl (hk.c 32 rfl hk.k))), (hs.pick [] rfl)⟩
   ·have hk := hk.lit 28 c10 rfl
    refine sm _ rfl hk rfl rfl rfl fun a hk => ?_
    refine sle rfl hk rfl rfl rfl un22 fun a hk => ?_
    refine sv (.bool (decide ((l1.length : Int) > 1048576))) hk rfl rfl rfl fun a hk => ?_
    refine sv (.bool (decide ((l1.length : Int) > 1048576))) hk rfl rfl rfl fun a hk => ?_
    show wpList _ _ _ [] _ _
    refine wpList_nil ?_
    obtain rfl := Option.some.inj H
    show R9 _ _
    rw [hR9]
    exact ⟨(decide ((l1.length : Int) > 1048576)), rfl, (hk.c 0 rfl (hk.c 1 rfl (hk.c 32 rfl hk.k))), (hs.pick [] rfl)⟩
  ·intro a w hR0
   rw [hR9] at hR0
   obtain ⟨u5, rfl, hk, hs⟩ := hR0
   have H := HL8
   try dsimp only at H
   refine hK3 _ _ ?_
   rcases cond_some H with ⟨c11, H⟩ | ⟨c11, H⟩
   ·have hk := hk.lit 32 c11 rfl
    refine cnd_true hk rfl rfl ?_
    apply wp_seq_k; intro K12 hK12
    apply wp_region_lit
    refine sa _ rfl hk rfl rfl rfl fun a hk => ?_
    show wpList _ _ _ [] _ _
    refine wpList_nil ?_
    refine hK12 _ _ ?_
    refine wp_ret ?_
    obtain rfl := Option.some.inj H
    exact fin hk _ [(.bool true)] rfl ⟨rfl, trivial⟩ ⟨rfl, (hs.pick [] rfl).dnil⟩
   ·have hk := hk.lit 32 c11 rfl
    refine cnd_false hk rfl rfl ?_
    refine wp_skip ?_
    refine hK2 _ _ ?_
    apply wp_seq_k; intro K13 hK13
    apply wp_region_lit
    refine sm _ rfl hk rfl rfl rfl fun a hk => ?_
    obtain ⟨y14, h15, H⟩ := bind_some H
    refine sc rfl en16 hk rfl rfl rfl (spec_KeyOf_t _ A0_ p0_ l0 _ v0_ (hs.hasD (k := 1) rfl) _ h15) ?_
    rintro _ w ⟨rfl, hG⟩ a hk
    have hs := hs.call0 hG
    refine sa _ rfl hk rfl rfl rfl fun a hk => ?_
    show wpList _ _ _ [] _ _
    refine wpList_nil ?_
    refine hK13 _ _ ?_
    have hs := hs.pick [] rfl
    apply wp_seq_k; intro K16 hK16
    apply wp_region_lit
    refine sm _ rfl hk rfl rfl rfl fun a hk => ?_
    obtain ⟨y17, h18, H⟩ := bind_some H
    refine sc rfl en22 hk rfl rfl rfl (spec_NonceDrawn_t _ A1_ p1_ l1 _ v1_ (hs.hasD (k := 2) rfl) _ h18) ?_
    rintro _ w ⟨rfl, hG⟩ a hk
    have hs := hs.call0 hG
    refine sa _ rfl hk rfl rfl rfl fun a hk => ?_
    show wpList _ _ _ [] _ _
    refine wpList_nil ?_
    refine hK16 _ _ ?_
    apply wp_seq_k; intro K19 hK19
    apply wp_region_lit
    refine sm _ rfl hk rfl rfl rfl fun a hk => ?_
    refine sm _ rfl hk rfl rfl rfl fun a hk => ?_
    obtain ⟨y20, h21, H⟩ := bind_some H
    refine sc rfl en11 hk rfl rfl rfl (laws_at_t _ A1_ p1_ l1 _ v1_ (hs.hasD (k := 2) rfl) 0 20 _ h21) ?_
    rintro _ w ⟨rfl, hG⟩ a hk
    have hs := hs.call0 hG
    obtain ⟨y22, h23, H⟩ := bind_some H
    refine sc rfl en23 hk rfl rfl rfl (spec_BytesOf_t _ A0_ p0_ l0 _ v0_ (hs.hasD (k := 1) rfl) y20 _ h23) ?_
    rintro _ w ⟨rfl, hG⟩ a hk
    have hs := hs.call0 hG
    refine sa _ rfl hk rfl rfl rfl fun a hk => ?_
    show wpList _ _ _ [] _ _
    refine wpList_nil ?_
    refine hK19 _ _ ?_
    apply wp_seq_k; intro K24 hK24
    apply wp_region_lit
    refine sm _ rfl hk rfl rfl rfl fun a hk => ?_
    obtain ⟨y25, h26, H⟩ := bind_some H
    refine sc rfl en8 hk rfl rfl rfl (spec_TextOf_t _ A1_ p1_ l1 _ v1_ (hs.hasD (k := 2) rfl) _ h26) ?_
    rintro _ w ⟨rfl, hG⟩ a hk
    have hs := hs.call0 hG
    refine sa _ rfl hk rfl rfl rfl fun a hk => ?_
    show wpList _ _ _ [] _ _
    refine wpList_nil ?_
    refine hK24 _ _ ?_
    apply wp_seq_k; intro K27 hK27
    apply wp_region_lit
    refine sm _ rfl hk rfl rfl rfl fun a hk => ?_
    refine sm _ rfl hk rfl rfl rfl fun a hk => ?_
    refine sm _ rfl hk rfl rfl rfl fun a hk => ?_
    refine sm _ rfl hk rfl rfl rfl fun a hk => ?_
    obtain ⟨y28, h29, H⟩ := bind_some H
    refine sc rfl en30 hk rfl rfl rfl (impl_SealBox_t _ y14 y17 y22 y25 _ h29) ?_
    rintro _ w ⟨rfl, hG⟩ a hk
    have hs := hs.call0 hG
    refine sm _ rfl hk rfl rfl rfl fun a hk => ?_
    refine sv (.string y28.1) hk rfl rfl rfl fun a hk => ?_
    refine sv (.int .i64 y28.2) hk rfl rfl rfl fun a hk => ?_
    refine sa _ rfl hk rfl rfl rfl fun a hk => ?_
    refine sa _ rfl hk rfl rfl rfl fun a hk => ?_
    show wpList _ _ _ [] _ _
    refine wpList_nil ?_
    refine hK27 _ _ ?_
    have hs := hs.pick [] rfl
    apply wp_seq_k; intro K30 hK30
    apply wp_region_lit
    refine sm _ rfl hk rfl rfl rfl fun a hk => ?_
    refine sm _ rfl hk rfl rfl rfl fun a hk => ?_
    refine sm _ rfl hk rfl rfl rfl fun a hk => ?_
    refine sm _ rfl hk rfl rfl rfl fun a hk => ?_
    obtain ⟨y31, h32, H⟩ := bind_some H
    refine sc rfl en31 hk rfl rfl rfl (spec_SealBox_t _ y14 y17 y22 y25 _ h32) ?_
    rintro _ w ⟨rfl, hG⟩ a hk
    have hs := hs.call0 hG
    refine sm _ rfl hk rfl rfl rfl fun a hk => ?_
    refine sv (.string y31.1) hk rfl rfl rfl fun a hk => ?_
    refine sv (.int .i64 y31.2) hk rfl rfl rfl fun a hk => ?_
    refine sa _ rfl hk rfl rfl rfl fun a hk => ?_
    refine sa _ rfl hk rfl rfl rfl fun a hk => ?_
    show wpList _ _ _ [] _ _
    refine wpList_nil ?_
    refine hK30 _ _ ?_
    apply wp_seq_k; intro K33 hK33
    apply wp_region_lit
    refine sm _ rfl hk rfl rfl rfl fun a hk => ?_
    refine sm _ rfl hk rfl rfl rfl fun a hk => ?_
    refine sm _ rfl hk rfl rfl rfl fun a hk => ?_
    refine sm _ rfl hk rfl rfl rfl fun a hk => ?_
    obtain ⟨y34, h35, H⟩ := bind_some H
    refine sc rfl en32 hk rfl rfl rfl (impl_OpenBox_t _ y14 y17 y22 y28.1 _ h35) ?_
    rintro _ w ⟨rfl, hG⟩ a hk
    have hs := hs.call0 hG
    refine sm _ rfl hk rfl rfl rfl fun a hk => ?_
    refine sv (.string y34.1) hk rfl rfl rfl fun a hk => ?_
    refine sv (.int .i64 y34.2) hk rfl rfl rfl fun a hk => ?_
    refine sa _ rfl hk rfl rfl rfl fun a hk => ?_
    refine sa _ rfl hk rfl rfl rfl fun a hk => ?_
    show wpList _ _ _ [] _ _
    refine wpList_nil ?_
    refine hK33 _ _ ?_
    apply wp_seq_k; intro K36 hK36
    apply wp_seq_k; intro K37 hK37
    obtain ⟨o40, h41, HL42⟩ := bind_some H
    clear H
    obtain ⟨R43, hR43⟩ : ∃ R : Act → World → Prop, R = fun a w => ∃ (u39 : Bool), u39 = o40 ∧ Kn [(0, (.slice A0_ l0.length p0_)), (1, (.slice A1_ l1.length p1_)), (5, (.string y14)), (6, (.string y17)), (7, (.string y22)), (8, (.string y25)), (9, (.string y28.1)), (90, (.bool u39))] 182 a ∧ Sat [] w0 w [(1, k0_), (2, k1_)] [] := ⟨_, rfl⟩
    refine wp_cutq R43 ?_ ?_
    ·have H := h41
     apply wp_region_lit
     refine sm _ rfl hk rfl rfl rfl fun a hk => ?_
     refine sv (.bool (y28.2 != 0)) hk rfl rfl rfl fun a hk => ?_
     refine sm _ rfl hk rfl rfl rfl fun a hk => ?_
     rcases cond_some H with ⟨c44, H⟩ | ⟨c44, H⟩
     ·have hk := hk.lit 69 c44 rfl
      refine sk hk rfl rfl rfl fun a hk => ?_
      refine sk hk rfl rfl rfl fun a hk => ?_
      refine sk hk rfl rfl rfl fun a hk => ?_
      refine sv (.bool true) hk rfl rfl rfl fun a hk => ?_
      refine sm _ rfl hk rfl rfl rfl fun a hk => ?_
      refine sk hk rfl rfl rfl fun a hk => ?_
      refine sk hk rfl rfl rfl fun a hk => ?_
      refine sv (.bool true) hk rfl rfl rfl fun a hk => ?_
      refine sm _ rfl hk rfl rfl rfl fun a hk => ?_
      refine sk hk rfl rfl rfl fun a hk => ?_
      refine sk hk rfl rfl rfl fun a hk => ?_
      refine sk hk rfl rfl rfl fun a hk => ?_
      refine sv (.bool true) hk rfl rfl rfl fun a hk => ?_
      refine sm _ rfl hk rfl rfl rfl fun a hk => ?_
      refine sk hk rfl rfl rfl fun a hk => ?_
      refine sk hk rfl rfl rfl fun a hk => ?_
      refine sk hk rfl rfl rfl fun a hk => ?_
      refine sk hk rfl rfl rfl fun a hk => ?_
      refine sk hk rfl rfl rfl fun a hk => ?_
      refine sk hk rfl rfl rfl fun a hk => ?_
      refine sv (.bool true) hk rfl rfl rfl fun a hk => ?_
      show wpList _ _ _ [] _ _
      refine wpList_nil ?_
      obtain rfl := Option.some.inj H
      show R43 _ _
      rw [hR43]
      exact ⟨true, rfl, (hk.c 0 rfl (hk.c 1 rfl (hk.c 5 rfl (hk.c 6 rfl (hk.c 7 rfl (hk.c 8 rfl (hk.c 9 rfl (hk.c 90 rfl hk.k)))))))), (hs.pick [] rfl)⟩
     ·have hk := hk.lit 69 c44 rfl
      refine sm _ rfl hk rfl rfl rfl fun a hk => ?_
      refine sm _ rfl hk rfl rfl rfl fun a hk => ?_
      refine sv (.bool (!(y28.1.toList == y31.1.toList))) hk rfl rfl rfl fun a hk => ?_
      refine sv (.bool (!(y28.1.toList == y31.1.toList))) hk rfl rfl rfl fun a hk => ?_
      refine sm _ rfl hk rfl rfl rfl fun a hk => ?_
      rcases cond_some H with ⟨c45, H⟩ | ⟨c45, H⟩
      ·have hk := hk.lit 74 c45 rfl
       refine sk hk rfl rfl rfl fun a hk => ?_
       refine sk hk rfl rfl rfl fun a hk => ?_
       refine sv (.bool true) hk rfl rfl rfl fun a hk => ?_
       refine sm _ rfl hk rfl rfl rfl fun a hk => ?_
       refine sk hk rfl rfl rfl fun a hk => ?_
       refine sk hk rfl rfl rfl fun a hk => ?_
       refine sk hk rfl rfl rfl fun a hk => ?_
       refine sv (.bool true) hk rfl rfl rfl fun a hk => ?_
       refine sm _ rfl hk rfl rfl rfl fun a hk => ?_
       refine sk hk rfl rfl rfl fun a hk => ?_
       refine sk hk rfl rfl rfl fun a hk => ?_
       refine sk hk rfl rfl rfl fun a hk => ?_
       refine sk hk rfl rfl rfl fun a hk => ?_
       refine sk hk rfl rfl rfl fun a hk => ?_
       refine sk hk rfl rfl rfl fun a hk => ?_
       refine sv (.bool true) hk rfl rfl rfl fun a hk => ?_
       show wpList _ _ _ [] _ _
       refine wpList_nil ?_
       obtain rfl := Option.some.inj H
       show R43 _ _
       rw [hR43]
       exact ⟨true, rfl, (hk.c 0 rfl (hk.c 1 rfl (hk.c 5 rfl (hk.c 6 rfl (hk.c 7 rfl (hk.c 8 rfl (hk.c 9 rfl (hk.c 90 rfl hk.k)))))))), (hs.pick [] rfl)⟩
      ·have hk := hk.lit 74 c45 rfl
       refine sm _ rfl hk rfl rfl rfl fun a hk => ?_
       refine sv (.bool (y34.2 != 0)) hk rfl rfl rfl fun a hk => ?_
       refine sv (.bool (y34.2 != 0)) hk rfl rfl rfl fun a hk => ?_
       refine sm _ rfl hk rfl rfl rfl fun a hk => ?_
       rcases cond_some H with ⟨c46, H⟩ | ⟨c46, H⟩
       ·have hk := hk.lit 78 c46 rfl
        refine sk hk rfl rfl rfl fun a hk => ?_
        refine sk hk rfl rfl rfl fun a hk => ?_
        refine sk hk rfl rfl rfl fun a hk => ?_
        refine sv (.bool true) hk rfl rfl rfl fun a hk => ?_
        refine sm _ rfl hk rfl rfl rfl fun a hk => ?_
        refine sk hk rfl rfl rfl fun a hk => ?_
        refine sk hk rfl rfl rfl fun a hk => ?_
        refine sk hk rfl rfl rfl fun a hk => ?_
        refine sk hk rfl rfl rfl fun a hk => ?_
        refine sk hk rfl rfl rfl fun a hk => ?_
        refine sk hk rfl rfl rfl fun a hk => ?_
        refine sv (.bool true) hk rfl rfl rfl fun a hk => ?_
        show wpList _ _ _ [] _ _
        refine wpList_nil ?_
        obtain rfl := Option.some.inj H
        show R43 _ _
        rw [hR43]
        exact ⟨true, rfl, (hk.c 0 rfl (hk.c 1 rfl (hk.c 5 rfl (hk.c 6 rfl (hk.c 7 rfl (hk.c 8 rfl (hk.c 9 rfl (hk.c 90 rfl hk.k)))))))), (hs.pick [] rfl)⟩
       ·have hk := hk.lit 78 c46 rfl
        refine sm _ rfl hk rfl rfl rfl fun a hk => ?_
        refine sm _ rfl hk rfl rfl rfl fun a hk => ?_
        refine sv (.bool (!(y34.1.toList == y25.toList))) hk rfl rfl rfl fun a hk => ?_
        refine sv (.bool (!(y34.1.toList == y25.toList))) hk rfl rfl rfl fun a hk => ?_
        refine sm _ rfl hk rfl rfl rfl fun a hk => ?_
        rcases cond_some H with ⟨c47, H⟩ | ⟨c47, H⟩
        ·have hk := hk.lit 83 c47 rfl
         refine sk hk rfl rfl rfl fun a hk => ?_
         refine sk hk rfl rfl rfl fun a hk => ?_
         refine sk hk rfl rfl rfl fun a hk => ?_
         refine sk hk rfl rfl rfl fun a hk => ?_
         refine sk hk rfl rfl rfl fun a hk => ?_
         refine sk hk rfl rfl rfl fun a hk => ?_
         refine sv (.bool true) hk rfl rfl rfl fun a hk => ?_
         show wpList _ _ _ [] _ _
         refine wpList_nil ?_
         obtain rfl := Option.some.inj H
         show R43 _ _
         rw [hR43]
         exact ⟨true, rfl, (hk.c 0 rfl (hk.c 1 rfl (hk.c 5 rfl (hk.c 6 rfl (hk.c 7 rfl (hk.c 8 rfl (hk.c 9 rfl (hk.c 90 rfl hk.k)))))))), (hs.pick [] rfl)⟩
        ·have hk := hk.lit 83 c47 rfl
         refine sm _ rfl hk rfl rfl rfl fun a hk => ?_
         refine sles rfl hk rfl rfl rfl un9 fun a hk => ?_
         refine sm _ rfl hk rfl rfl rfl fun a hk => ?_
         refine sles rfl hk rfl rfl rfl un9 fun a hk => ?_
         refine sv (.int .i64 (w64 ((y25.size : Int) + 16))) hk rfl rfl rfl fun a hk => ?_
         refine sv (.bool ((y28.1.size : Int) != (w64 ((y25.size : Int) + 16)))) hk rfl rfl rfl fun a hk => ?_
         refine sv (.bool ((y28.1.size : Int) != (w64 ((y25.size : Int) + 16)))) hk rfl rfl rfl fun a hk => ?_
         show wpList _ _ _ [] _ _
         refine wpList_nil ?_
         obtain rfl := Option.some.inj H
         show R43 _ _
         rw [hR43]
         exact ⟨((y28.1.size : Int) != (w64 ((y25.size : Int) + 16))), rfl, (hk.c 0 rfl (hk.c 1 rfl (hk.c 5 rfl (hk.c 6 rfl (hk.c 7 rfl (hk.c 8 rfl (hk.c 9 rfl (hk.c 90 rfl hk.k)))))))), (hs.pick [] rfl)⟩
    ·intro a w hR0
     rw [hR43] at hR0
     obtain ⟨u39, rfl, hk, hs⟩ := hR0
     have H := HL42
     try dsimp only at H
     refine hK37 _ _ ?_
     rcases cond_some H with ⟨c48, H⟩ | ⟨c48, H⟩
     ·have hk := hk.lit 90 c48 rfl
      refine cnd_true hk rfl rfl ?_
      apply wp_seq_k; intro K49 hK49
      apply wp_region_lit
      refine sa _ rfl hk rfl rfl rfl fun a hk => ?_
      show wpList _ _ _ [] _ _
      refine wpList_nil ?_
      refine hK49 _ _ ?_
      have hs := hs.pick [] rfl
      refine wp_ret ?_
      obtain rfl := Option.some.inj H
      exact fin hk _ [(.bool false)] rfl ⟨rfl, trivial⟩ ⟨rfl, (hs.pick [] rfl).dnil⟩
     ·have hk := hk.lit 90 c48 rfl
      refine cnd_false hk rfl rfl ?_
      refine wp_skip ?_
      refine hK36 _ _ ?_
      have hs := hs.pick [] rfl
      apply wp_seq_k; intro K50 hK50
      apply wp_region_lit
      refine sm _ rfl hk rfl rfl rfl fun a hk => ?_
      refine sm _ rfl hk rfl rfl rfl fun a hk => ?_
      refine sm _ rfl hk rfl rfl rfl fun a hk => ?_
      refine sm _ rfl hk rfl rfl rfl fun a hk => ?_
      refine sm _ rfl hk rfl rfl rfl fun a hk => ?_
      refine sles rfl hk rfl rfl rfl un9 fun a hk => ?_
      rcases ite_some H with ⟨c51, H⟩ | ⟨_, H⟩
      rotate_left
      ·cases H
      refine ssl_h rfl hk rfl rfl rfl rfl un9 c51.1 c51.2 fun a hk => ?_
      obtain ⟨y52, h53, H⟩ := bind_some H
      refine sc rfl en33 hk rfl rfl rfl (impl_BoxTag_t _ y14 y17 y22 (y28.1.extract 0 (y25.size : Int).toNat) _ h53) ?_
      rintro _ w ⟨rfl, hG⟩ a hk
      have hs := hs.call0 hG
      refine sm _ rfl hk rfl rfl rfl fun a hk => ?_
      refine sv (.string y52.1) hk rfl rfl rfl fun a hk => ?_
      refine sv (.int .i64 y52.2) hk rfl rfl rfl fun a hk => ?_
      refine sa _ rfl hk rfl rfl rfl fun a hk => ?_
      refine sa _ rfl hk rfl rfl rfl fun a hk => ?_
      show wpList _ _ _ [] _ _
      refine wpList_nil ?_
      refine hK50 _ _ ?_
      apply wp_seq_k; intro K54 hK54
      apply wp_region_lit
      refine sm _ rfl hk rfl rfl rfl fun a hk => ?_
      refine sm _ rfl hk rfl rfl rfl fun a hk => ?_
      refine sles rfl hk rfl rfl rfl un9 fun a hk => ?_
      obtain ⟨y55, h56, H⟩ := bind_some H
      refine sc rfl en11 hk rfl rfl rfl (laws_at_t _ A1_ p1_ l1 _ v1_ (hs.hasD (k := 2) rfl) 1 (y28.1.size : Int) _ h56) ?_
      rintro _ w ⟨rfl, hG⟩ a hk
      have hs := hs.call0 hG
      refine sa _ rfl hk rfl rfl rfl fun a hk => ?_
      show wpList _ _ _ [] _ _
      refine wpList_nil ?_
      refine hK54 _ _ ?_
      apply wp_seq_k; intro K57 hK57
      refine wp_region_tree (.q 0 (.q 1 (.q 2 (.q 3 (.q 4 (.q 5 (.q 6 (.q 7 (.q 8 (.q 9 (.q 10 (.q 14 (.q 15 (.q 16 (.q 17 (.alt 11 (.alt 12 (.alt 13 (.alt 18 (.last 19) .stop) .stop) .stop) .stop)))))))))))))))) mo (by kernel_rfl) (hs.pick [] rfl) fun _ => ?_
      have hs := hs.drew
      refine tqst (.string y28.1) hk rfl rfl rfl rfl (fun w hs => sm _ rfl hk rfl rfl rfl fun a hk => qe hk) fun a hk => ?_
      refine tqst (.int .i64 y55) hk rfl rfl rfl rfl (fun w hs => sm _ rfl hk rfl rfl rfl fun a hk => qe hk) fun a hk => ?_
      rcases ite_some H with ⟨c59, H⟩ | ⟨_, H⟩
      rotate_left
      ·cases H
      refine tqst (.string (y28.1.extract 0 y55.toNat)) hk rfl rfl rfl rfl (fun w hs => ssl_h rfl hk rfl rfl rfl rfl un9 c59.1 c59.2 fun a hk => qe hk) fun a hk => ?_
      refine tqst (.string y28.1) hk rfl rfl rfl rfl (fun w hs => sm _ rfl hk rfl rfl rfl fun a hk => qe hk) fun a hk => ?_
      refine tqst (.int .i64 y55) hk rfl rfl rfl rfl (fun w hs => sm _ rfl hk rfl rfl rfl fun a hk => qe hk) fun a hk => ?_
      rcases ite_some H with ⟨c60, H⟩ | ⟨_, H⟩
      rotate_left
      ·cases H
      refine tqst (.int .u8 (byteAt y28.1 y55)) hk rfl rfl rfl rfl (fun w hs => six rfl hk rfl rfl rfl rfl un9 c60.1 c60.2 fun a hk => qe hk) fun a hk => ?_
      refine tqst (.slice A0_ l0.length p0_) hk rfl rfl rfl rfl (fun w hs => sm _ rfl hk rfl rfl rfl fun a hk => qe hk) fun a hk => ?_
      obtain ⟨y61, h62, H⟩ := bind_some H
      refine tqst (.int .i64 y61) hk rfl rfl rfl rfl (fun w hs => sc rfl en11 hk rfl rfl rfl (laws_at_t _ A0_ p0_ l0 _ v0_ (hs.hasD (k := 1) rfl) 1 255 _ h62) fun _ w hR a hk => qc hR hk) fun a hk => ?_
      refine tqst (.int .i64 (w64 (1 + y61))) hk rfl rfl rfl rfl (fun w hs => sv (.int .i64 (w64 (1 + y61))) hk rfl rfl rfl fun a hk => qe hk) fun a hk => ?_
      refine tqst (.int .u8 (IntKind.wrap .u8 (w64 (1 + y61)))) hk rfl rfl rfl rfl (fun w hs => scn rfl hk rfl rfl rfl un5 un3 fun a hk => qe hk) fun a hk => ?_
      refine tqst (.int .u8 (IntKind.wrap .u8 ((BitVec.ofInt 8 (byteAt y28.1 y55) ^^^ BitVec.ofInt 8 (IntKind.wrap .u8 (w64 (1 + y61)))).toNat : Int))) hk rfl rfl rfl rfl (fun w hs => sv (.int .u8 (IntKind.wrap .u8 ((BitVec.ofInt 8 (byteAt y28.1 y55) ^^^ BitVec.ofInt 8 (IntKind.wrap .u8 (w64 (1 + y61)))).toNat : Int))) hk rfl rfl rfl fun a hk => qe hk) fun a hk => ?_
      refine tqst (.string y28.1) hk rfl rfl rfl rfl (fun w hs => sm _ rfl hk rfl rfl rfl fun a hk => qe hk) fun a hk => ?_
      refine tqst (.int .i64 y55) hk rfl rfl rfl rfl (fun w hs => sm _ rfl hk rfl rfl rfl fun a hk => qe hk) fun a hk => ?_
      refine tqst (.int .i64 (w64 (y55 + 1))) hk rfl rfl rfl rfl (fun w hs => sv (.int .i64 (w64 (y55 + 1))) hk rfl rfl rfl fun a hk => qe hk) fun a hk => ?_
      rcases ite_some H with ⟨c63, H⟩ | ⟨_, H⟩
      rotate_left
      ·cases H
      refine tqst (.string (y28.1.extract (w64 (y55 + 1)).toNat y28.1.size)) hk rfl rfl rfl rfl (fun w hs => ssl_l rfl hk rfl rfl rfl rfl un9 c63.1 c63.2 fun a hk => qe hk) fun a hk => ?_
      refine tsst hk rfl rfl (fun K_r58_11 hK_r58_11 w hF => ?_) wt_stop
      have hs := hs.f hF
      refine sbs (L := (Lay.int .u8)) (pv := [(0, (.int .u8 (IntKind.wrap .u8 ((BitVec.ofInt 8 (byteAt y28.1 y55) ^^^ BitVec.ofInt 8 (IntKind.wrap .u8 (w64 (1 + y61)))).toNat : Int))))]) (xs := [(IntKind.wrap .u8 ((BitVec.ofInt 8 (byteAt y28.1 y55) ^^^ BitVec.ofInt 8 (IntKind.wrap .u8 (w64 (1 + y61)))).toNat : Int))]) (ess := [[.int .u8 (IntKind.wrap .u8 ((BitVec.ofInt 8 (byteAt y28.1 y55) ^^^ BitVec.ofInt 8 (IntKind.wrap .u8 (w64 (1 + y61)))).toNat : Int))]]) 6 hs rfl hk rfl rfl rfl un22 (bs5_1 (IntKind.wrap .u8 ((BitVec.ofInt 8 (byteAt y28.1 y55) ^^^ BitVec.ofInt 8 (IntKind.wrap .u8 (w64 (1 + y61)))).toNat : Int))) (AllOwn.cons0 ⟨rfl, rfl⟩ AllOwn.nil) rfl rfl rfl fun b64 k65 w a hk o66 hs => ?_
      refine se (hs.pick [] rfl) hk (hK_r58_11 _ _ ?_)
      refine tsst hk rfl rfl (fun K_r58_12 hK_r58_12 w hF => ?_) wt_stop
      have hs := hs.f hF
      refine sbt (xs := ([(IntKind.wrap .u8 ((BitVec.ofInt 8 (byteAt y28.1 y55) ^^^ BitVec.ofInt 8 (IntKind.wrap .u8 (w64 (1 + y61)))).toNat : Int))])) rfl hk rfl rfl rfl rfl un22 un5 un9 o66.view (hs.hasG (k := 6) rfl) fun a hk => ?_
      refine se (hs.pick [] rfl) hk (hK_r58_12 _ _ ?_)
      refine tsst hk rfl rfl (fun K_r58_13 hK_r58_13 w hF => ?_) wt_stop
      have hs := hs.f hF
      rcases ite_some H with ⟨c67, H⟩ | ⟨_, H⟩
      rotate_left
      ·cases H
      refine ssa rfl hk rfl rfl rfl rfl c67 fun a hk => ?_
      refine se (hs.pick [] rfl) hk (hK_r58_13 _ _ ?_)
      refine tsst hk rfl rfl (fun K_r58_18 hK_r58_18 w hF => ?_) wt_stop
      have hs := hs.f hF
      rcases ite_some H with ⟨c68, H⟩ | ⟨_, H⟩
      rotate_left
      ·cases H
      refine ssa rfl hk rfl rfl rfl rfl c68 fun a hk => ?_
      refine se (hs.pick [] rfl) hk (hK_r58_18 _ _ ?_)
      refine tlst hk rfl rfl fun K_r58_19 hK_r58_19 w hF => ?_
      have hs := hs.f hF
      refine sa _ rfl hk rfl rfl rfl fun a hk => ?_
      refine se trivial hk (hK_r58_19 _ _ fun w hF => ?_)
      have hs := hs.f hF
      refine hK57 _ _ ?_
      apply wp_seq_k; intro K69 hK69
      apply wp_region_lit
      refine sm _ rfl hk rfl rfl rfl fun a hk => ?_
      refine sm _ rfl hk rfl rfl rfl fun a hk => ?_
      refine sm _ rfl hk rfl rfl rfl fun a hk => ?_
      refine sm _ rfl hk rfl rfl rfl fun a hk => ?_
      obtain ⟨y70, h71, H⟩ := bind_some H
      refine sc rfl en32 hk rfl rfl rfl (impl_OpenBox_t _ y14 y17 y22 (((y28.1.extract 0 y55.toNat) ++ (strOfNums ([(IntKind.wrap .u8 ((BitVec.ofInt 8 (byteAt y28.1 y55) ^^^ BitVec.ofInt 8 (IntKind.wrap .u8 (w64 (1 + y61)))).toNat : Int))]))) ++ (y28.1.extract (w64 (y55 + 1)).toNat y28.1.size)) _ h71) ?_
      rintro _ w ⟨rfl, hG⟩ a hk
      have hs := hs.call0 hG
      refine sm _ rfl hk rfl rfl rfl fun a hk => ?_
      refine sv (.string y70.1) hk rfl rfl rfl fun a hk => ?_
      refine sv (.int .i64 y70.2) hk rfl rfl rfl fun a hk => ?_
      refine sa _ rfl hk rfl rfl rfl fun a hk => ?_
      refine sa _ rfl hk rfl rfl rfl fun a hk => ?_
      show wpList _ _ _ [] _ _
      refine wpList_nil ?_
      refine hK69 _ _ ?_
      have hs := hs.pick [] rfl
      apply wp_seq_k; intro K72 hK72
      apply wp_region_lit
      refine sm _ rfl hk rfl rfl rfl fun a hk => ?_
      refine sm _ rfl hk rfl rfl rfl fun a hk => ?_
      refine sm _ rfl hk rfl rfl rfl fun a hk => ?_
      refine sm _ rfl hk rfl rfl rfl fun a hk => ?_
      obtain ⟨y73, h74, H⟩ := bind_some H
      refine sc rfl en34 hk rfl rfl rfl (spec_OpenBox_t _ y14 y17 y22 (((y28.1.extract 0 y55.toNat) ++ (strOfNums ([(IntKind.wrap .u8 ((BitVec.ofInt 8 (byteAt y28.1 y55) ^^^ BitVec.ofInt 8 (IntKind.wrap .u8 (w64 (1 + y61)))).toNat : Int))]))) ++ (y28.1.extract (w64 (y55 + 1)).toNat y28.1.size)) _ h74) ?_
      rintro _ w ⟨rfl, hG⟩ a hk
      have hs := hs.call0 hG
      refine sm _ rfl hk rfl rfl rfl fun a hk => ?_
      refine sv (.string y73.1) hk rfl rfl rfl fun a hk => ?_
      refine sv (.int .i64 y73.2) hk rfl rfl rfl fun a hk => ?_
      refine sa _ rfl hk rfl rfl rfl fun a hk => ?_
      refine sa _ rfl hk rfl rfl rfl fun a hk => ?_
      show wpList _ _ _ [] _ _
      refine wpList_nil ?_
      refine hK72 _ _ ?_
      apply wp_seq_k; intro K75 hK75
      apply wp_region_lit
      refine sm _ rfl hk rfl rfl rfl fun a hk => ?_
      refine sm _ rfl hk rfl rfl rfl fun a hk => ?_
      refine sm _ rfl hk rfl rfl rfl fun a hk => ?_
      refine sm _ rfl hk rfl rfl rfl fun a hk => ?_
      refine sm _ rfl hk rfl rfl rfl fun a hk => ?_
      refine sv (.int .i64 (Int.tmod y55 16)) hk rfl rfl rfl fun a hk => ?_
      rcases ite_some H with ⟨c76, H⟩ | ⟨_, H⟩
      rotate_left
      ·cases H
      refine ssl_h rfl hk rfl rfl rfl rfl un9 c76.1 c76.2 fun a hk => ?_
      obtain ⟨y77, h78, H⟩ := bind_some H
      refine sc rfl en32 hk rfl rfl rfl (impl_OpenBox_t _ y14 y17 y22 (y28.1.extract 0 (Int.tmod y55 16).toNat) _ h78) ?_
      rintro _ w ⟨rfl, hG⟩ a hk
      have hs := hs.call0 hG
      refine sm _ rfl hk rfl rfl rfl fun a hk => ?_
      refine sv (.string y77.1) hk rfl rfl rfl fun a hk => ?_
      refine sv (.int .i64 y77.2) hk rfl rfl rfl fun a hk => ?_
      refine sa _ rfl hk rfl rfl rfl fun a hk => ?_
      refine sa _ rfl hk rfl rfl rfl fun a hk => ?_
      show wpList _ _ _ [] _ _
      refine wpList_nil ?_
      refine hK75 _ _ ?_
      apply wp_seq_k; intro K79 hK79
      obtain ⟨o82, h83, HL84⟩ := bind_some H
      clear H
      obtain ⟨R85, hR85⟩ : ∃ R : Act → World → Prop, R = fun a w => ∃ (u81 : Bool), u81 = o82 ∧ Kn [(4, (.bool u81))] 182 a ∧ Sat [] w0 w [(1, k0_), (2, k1_)] [] := ⟨_, rfl⟩
      refine wp_cutq R85 ?_ ?_
      ·have H := h83
       apply wp_region_lit
       refine sm _ rfl hk rfl rfl rfl fun a hk => ?_
       refine sv (.bool (y52.2 == 0)) hk rfl rfl rfl fun a hk => ?_
       refine sm _ rfl hk rfl rfl rfl fun a hk => ?_
       rcases cond_some H with ⟨c86, H⟩ | ⟨c86, H⟩
       ·have hk := hk.lit 154 c86 rfl
        refine sm _ rfl hk rfl rfl rfl fun a hk => ?_
        refine sm _ rfl hk rfl rfl rfl fun a hk => ?_
        refine sm _ rfl hk rfl rfl rfl fun a hk => ?_
        refine sles rfl hk rfl rfl rfl un9 fun a hk => ?_
        rcases ite_some H with ⟨c87, H⟩ | ⟨_, H⟩
        rotate_left
        ·cases H
        refine ssl_l rfl hk rfl rfl rfl rfl un9 c87.1 c87.2 fun a hk => ?_
        refine sv (.bool (y52.1.toList == (y28.1.extract (y25.size : Int).toNat y28.1.size).toList)) hk rfl rfl rfl fun a hk => ?_
        refine sv (.bool (y52.1.toList == (y28.1.extract (y25.size : Int).toNat y28.1.size).toList)) hk rfl rfl rfl fun a hk => ?_
        refine sm _ rfl hk rfl rfl rfl fun a hk => ?_
        rcases cond_some H with ⟨c88, H⟩ | ⟨c88, H⟩
        ·have hk := hk.lit 162 c88 rfl
         refine sm _ rfl hk rfl rfl rfl fun a hk => ?_
         refine sm _ rfl hk rfl rfl rfl fun a hk => ?_
         refine sv (.bool (y70.2 == y73.2)) hk rfl rfl rfl fun a hk => ?_
         refine sv (.bool (y70.2 == y73.2)) hk rfl rfl rfl fun a hk => ?_
         refine sm _ rfl hk rfl rfl rfl fun a hk => ?_
         rcases cond_some H with ⟨c89, H⟩ | ⟨c89, H⟩
         ·have hk := hk.lit 167 c89 rfl
          refine sm _ rfl hk rfl rfl rfl fun a hk => ?_
          refine sv (.bool (y70.2 == 9)) hk rfl rfl rfl fun a hk => ?_
          refine sm _ rfl hk rfl rfl rfl fun a hk => ?_
          rcases cond_some H with ⟨c90, H⟩ | ⟨c90, H⟩
          ·have hk := hk.lit 170 c90 rfl
           refine sk hk rfl rfl rfl fun a hk => ?_
           refine sk hk rfl rfl rfl fun a hk => ?_
           refine sk hk rfl rfl rfl fun a hk => ?_
           refine sk hk rfl rfl rfl fun a hk => ?_
           refine sk hk rfl rfl rfl fun a hk => ?_
           refine sv (.bool true) hk rfl rfl rfl fun a hk => ?_
           refine sv (.bool true) hk rfl rfl rfl fun a hk => ?_
           refine sm _ rfl hk rfl rfl rfl fun a hk => ?_
           refine sm _ rfl hk rfl rfl rfl fun a hk => ?_
           refine sv (.bool (y77.2 == 9)) hk rfl rfl rfl fun a hk => ?_
           refine sv (.bool (y77.2 == 9)) hk rfl rfl rfl fun a hk => ?_
           refine sa _ rfl hk rfl rfl rfl fun a hk => ?_
           show wpList _ _ _ [] _ _
           refine wpList_nil ?_
           obtain rfl := Option.some.inj H
           show R85 _ _
           rw [hR85]
           exact ⟨(y77.2 == 9), rfl, (hk.c 4 rfl hk.k), (hs.pick [] rfl)⟩
          ·have hk := hk.lit 170 c90 rfl
           refine sm _ rfl hk rfl rfl rfl fun a hk => ?_
           refine sles rfl hk rfl rfl rfl un9 fun a hk => ?_
           refine sm _ rfl hk rfl rfl rfl fun a hk => ?_
           refine sles rfl hk rfl rfl rfl un9 fun a hk => ?_
           refine sv (.bool ((y73.1.size : Int) == (y25.size : Int))) hk rfl rfl rfl fun a hk => ?_
           refine sv (.bool ((y73.1.size : Int) == (y25.size : Int))) hk rfl rfl rfl fun a hk => ?_
           refine sv (.bool ((y73.1.size : Int) == (y25.size : Int))) hk rfl rfl rfl fun a hk => ?_
           refine sm _ rfl hk rfl rfl rfl fun a hk => ?_
           rcases cond_some H with ⟨c91, H⟩ | ⟨c91, H⟩
           ·have hk := hk.lit 178 c91 rfl
            refine sm _ rfl hk rfl rfl rfl fun a hk => ?_
            refine sv (.bool (y77.2 == 9)) hk rfl rfl rfl fun a hk => ?_
            refine sv (.bool (y77.2 == 9)) hk rfl rfl rfl fun a hk => ?_
            refine sa _ rfl hk rfl rfl rfl fun a hk => ?_
            show wpList _ _ _ [] _ _
            refine wpList_nil ?_
            obtain rfl := Option.some.inj H
            show R85 _ _
            rw [hR85]
            exact ⟨(y77.2 == 9), rfl, (hk.c 4 rfl hk.k), (hs.pick [] rfl)⟩
           ·have hk := hk.lit 178 c91 rfl
            refine sk hk rfl rfl rfl fun a hk => ?_
            refine sk hk rfl rfl rfl fun a hk => ?_
            refine sv (.bool false) hk rfl rfl rfl fun a hk => ?_
            refine sa _ rfl hk rfl rfl rfl fun a hk => ?_
            show wpList _ _ _ [] _ _
            refine wpList_nil ?_
            obtain rfl := Option.some.inj H
            show R85 _ _
            rw [hR85]
            exact ⟨false, rfl, (hk.c 4 rfl hk.k), (hs.pick [] rfl)⟩
         ·have hk := hk.lit 167 c89 rfl
          refine sk hk rfl rfl rfl fun a hk => ?_
          refine sk hk rfl rfl rfl fun a hk => ?_
          refine sk hk rfl rfl rfl fun a hk => ?_
          refine sk hk rfl rfl rfl fun a hk => ?_
          refine sk hk rfl rfl rfl fun a hk => ?_
          refine sk hk rfl rfl rfl fun a hk => ?_
          refine sk hk rfl rfl rfl fun a hk => ?_
          refine sk hk rfl rfl rfl fun a hk => ?_
          refine sk hk rfl rfl rfl fun a hk => ?_
          refine sv (.bool false) hk rfl rfl rfl fun a hk => ?_
          refine sm _ rfl hk rfl rfl rfl fun a hk => ?_
          refine sk hk rfl rfl rfl fun a hk => ?_
          refine sk hk rfl rfl rfl fun a hk => ?_
          refine sv (.bool false) hk rfl rfl rfl fun a hk => ?_
          refine sa _ rfl hk rfl rfl rfl fun a hk => ?_
          show wpList _ _ _ [] _ _
          refine wpList_nil ?_
          obtain rfl := Option.some.inj H
          show R85 _ _
          rw [hR85]
          exact ⟨false, rfl, (hk.c 4 rfl hk.k), (hs.pick [] rfl)⟩
        ·have hk := hk.lit 162 c88 rfl
         refine sk hk rfl rfl rfl fun a hk => ?_
         refine sk hk rfl rfl rfl fun a hk => ?_
         refine sk hk rfl rfl rfl fun a hk => ?_
         refine sv (.bool false) hk rfl rfl rfl fun a hk => ?_
         refine sm _ rfl hk rfl rfl rfl fun a hk => ?_
         refine sk hk rfl rfl rfl fun a hk => ?_
         refine sk hk rfl rfl rfl fun a hk => ?_
         refine sk hk rfl rfl rfl fun a hk => ?_
         refine sk hk rfl rfl rfl fun a hk => ?_
         refine sk hk rfl rfl rfl fun a hk => ?_
         refine sk hk rfl rfl rfl fun a hk => ?_
         refine sk hk rfl rfl rfl fun a hk => ?_
         refine sk hk rfl rfl rfl fun a hk => ?_
         refine sk hk rfl rfl rfl fun a hk => ?_
         refine sv (.bool false) hk rfl rfl rfl fun a hk => ?_
         refine sm _ rfl hk rfl rfl rfl fun a hk => ?_
         refine sk hk rfl rfl rfl fun a hk => ?_
         refine sk hk rfl rfl rfl fun a hk => ?_
         refine sv (.bool false) hk rfl rfl rfl fun a hk => ?_
         refine sa _ rfl hk rfl rfl rfl fun a hk => ?_
         show wpList _ _ _ [] _ _
         refine wpList_nil ?_
         obtain rfl := Option.some.inj H
         show R85 _ _
         rw [hR85]
         exact ⟨false, rfl, (hk.c 4 rfl hk.k), (hs.pick [] rfl)⟩
       ·have hk := hk.lit 154 c86 rfl
        refine sk hk rfl rfl rfl fun a hk => ?_
        refine sk hk rfl rfl rfl fun a hk => ?_
        refine sk hk rfl rfl rfl fun a hk => ?_
        refine sk hk rfl rfl rfl fun a hk => ?_
        refine sk hk rfl rfl rfl fun a hk => ?_
        refine sk hk rfl rfl rfl fun a hk => ?_
        refine sv (.bool false) hk rfl rfl rfl fun a hk => ?_
        refine sm _ rfl hk rfl rfl rfl fun a hk => ?_
        refine sk hk rfl rfl rfl fun a hk => ?_
        refine sk hk rfl rfl rfl fun a hk => ?_
        refine sk hk rfl rfl rfl fun a hk => ?_
        refine sv (.bool false) hk rfl rfl rfl fun a hk => ?_
        refine sm _ rfl hk rfl rfl rfl fun a hk => ?_
        refine sk hk rfl rfl rfl fun a hk => ?_
        refine sk hk rfl rfl rfl fun a hk => ?_
        refine sk hk rfl rfl rfl fun a hk => ?_
        refine sk hk rfl rfl rfl fun a hk => ?_
        refine sk hk rfl rfl rfl fun a hk => ?_
        refine sk hk rfl rfl rfl fun a hk => ?_
        refine sk hk rfl rfl rfl fun a hk => ?_
        refine sk hk rfl rfl rfl fun a hk => ?_
        refine sk hk rfl rfl rfl fun a hk => ?_
        refine sv (.bool false) hk rfl rfl rfl fun a hk => ?_
        refine sm _ rfl hk rfl rfl rfl fun a hk => ?_
        refine sk hk rfl rfl rfl fun a hk => ?_
        refine sk hk rfl rfl rfl fun a hk => ?_
        refine sv (.bool false) hk rfl rfl rfl fun a hk => ?_
        refine sa _ rfl hk rfl rfl rfl fun a hk => ?_
        show wpList _ _ _ [] _ _
        refine wpList_nil ?_
        obtain rfl := Option.some.inj H
        show R85 _ _
        rw [hR85]
        exact ⟨false, rfl, (hk.c 4 rfl hk.k), (hs.pick [] rfl)⟩
      ·intro a w hR0
       rw [hR85] at hR0
       obtain ⟨u81, rfl, hk, hs⟩ := hR0
       have H := HL84
       try dsimp only at H
       refine hK79 _ _ ?_
       refine wp_ret ?_
       obtain rfl := Option.some.inj H
       exact fin hk _ [(.bool u81)] rfl ⟨rfl, trivial⟩ ⟨rfl, (hs.pick [] rfl).dnil⟩

end Go.Proofs.Yteklgnhfgdhdiaa
