/- Further functions. -/
import Derived.Test.YteklgnhfgdhdiaaGFSealsn1
namespace Go.Proofs.Yteklgnhfgdhdiaa
open Go Go.Z Go.Proofs Go.MuLone Go.ChangeShapes Go.WideShapes Go.ChangeAt Go.RowKit
set_option linter.unusedVariables false
set_option linter.unusedSimpArgs false
noncomputable def spec_l03Parts.s0 (x0 : ByteArray) (u18 : List Int) (u22 : Int) : Option (((List Int) × Int) ⊕ Ex ((List Int)) ((List Int))) :=
  (bif (decide (u22 < 17)) then (if 0 ≤ u22 ∧ u22 < (x0.size : Int) then (if 0 ≤ (IntKind.wrap .i64 (Int.tdiv (w64 (8 * u22)) 26)) ∧ (IntKind.wrap .i64 (Int.tdiv (w64 (8 * u22)) 26)) < (5 : Int) then (if 0 ≤ (Int.tmod (w64 (8 * u22)) 26) then (if 0 ≤ (IntKind.wrap .i64 (Int.tdiv (w64 (8 * u22)) 26)) ∧ (IntKind.wrap .i64 (Int.tdiv (w64 (8 * u22)) 26)) < (5 : Int) then (((bif (decide ((Int.tmod (w64 (8 * u22)) 26) > 18)) then (some (decide ((IntKind.wrap .i64 (Int.tdiv (w64 (8 * u22)) 26)) < 4))) else (some false)) : Option (Bool)).bind fun u57 => (((bif u57 then (if 0 ≤ (w64 ((IntKind.wrap .i64 (Int.tdiv (w64 (8 * u22)) 26)) + 1)) ∧ (w64 ((IntKind.wrap .i64 (Int.tdiv (w64 (8 * u22)) 26)) + 1)) < (5 : Int) then (if 0 ≤ (w64 (26 - (Int.tmod (w64 (8 * u22)) 26))) then (if 0 ≤ (w64 ((IntKind.wrap .i64 (Int.tdiv (w64 (8 * u22)) 26)) + 1)) ∧ (w64 ((IntKind.wrap .i64 (Int.tdiv (w64 (8 * u22)) 26)) + 1)) < (5 : Int) then (some ((u18.set (IntKind.wrap .i64 (Int.tdiv (w64 (8 * u22)) 26)).toNat (w64 ((u18.getD (IntKind.wrap .i64 (Int.tdiv (w64 (8 * u22)) 26)).toNat 0) + (IntKind.wrap .i64 ((BitVec.ofInt 64 (IntKind.wrap .i64 ((IntKind.wrap .i64 (byteAt x0 u22)) * 2 ^ min (Int.tmod (w64 (8 * u22)) 26).toNat 64)) &&& BitVec.ofInt 64 67108863).toNat : Int))))).set (w64 ((IntKind.wrap .i64 (Int.tdiv (w64 (8 * u22)) 26)) + 1)).toNat (w64 (((u18.set (IntKind.wrap .i64 (Int.tdiv (w64 (8 * u22)) 26)).toNat (w64 ((u18.getD (IntKind.wrap .i64 (Int.tdiv (w64 (8 * u22)) 26)).toNat 0) + (IntKind.wrap .i64 ((BitVec.ofInt 64 (IntKind.wrap .i64 ((IntKind.wrap .i64 (byteAt x0 u22)) * 2 ^ min (Int.tmod (w64 (8 * u22)) 26).toNat 64)) &&& BitVec.ofInt 64 67108863).toNat : Int))))).getD (w64 ((IntKind.wrap .i64 (Int.tdiv (w64 (8 * u22)) 26)) + 1)).toNat 0) + (Int.fdiv (IntKind.wrap .i64 (byteAt x0 u22)) (2 ^ min (w64 (26 - (Int.tmod (w64 (8 * u22)) 26))).toNat 64)))))) else none) else none) else none) else (some (u18.set (IntKind.wrap .i64 (Int.tdiv (w64 (8 * u22)) 26)).toNat (w64 ((u18.getD (IntKind.wrap .i64 (Int.tdiv (w64 (8 * u22)) 26)).toNat 0) + (IntKind.wrap .i64 ((BitVec.ofInt 64 (IntKind.wrap .i64 ((IntKind.wrap .i64 (byteAt x0 u22)) * 2 ^ min (Int.tmod (w64 (8 * u22)) 26).toNat 64)) &&& BitVec.ofInt 64 67108863).toNat : Int))))))) : Option ((List Int))).bind fun u64 => (some (.inl (u64, (w64 (u22 + 1))))))) else none) else none) else none) else none) else (some (.inr (.out u18))))
noncomputable def spec_l03Parts.f (x0 : ByteArray) : Option ((List Int)) :=
  ((loopO (fun s => spec_l03Parts.s0 x0 s.1 s.2) ((List.replicate 5 (0 : Int)), 0)).bind fun o => match o with | .out u23 => (some u23) | .ret r => (some r))
set_option maxRecDepth 100000 in
set_option maxHeartbeats 0 in
theorem spec_l03Parts_t (w0 : World) (x0 : ByteArray) (r : (List Int)) (H : spec_l03Parts.f x0 = some r) :
    Calls Try.prog 102 #[.string x0] w0 (Ret (fun v w => v = aggI .i64 r ∧ r.length = 5 ∧ Sat [] w0 w [] [])) := by
  have hs : Sat [] w0 w0 [] [] := Sat.init w0 [] [] (by simp) (by simp) List.nodup_nil (by simp [blks])
  unfold spec_l03Parts.f at H
  refine enter Try.func102 rfl Try.ntmps102 rfl fun a hk => ?_
  apply wp_seq_k; intro K1 hK1
  apply wp_region_lit
  refine sala 1 ((Lay.int .i64)) (m := 5) (z := 0) (zc := [.int .i64 0]) hs rfl hk rfl rfl ze103 (by exact ⟨rfl, rfl⟩) rfl rfl rfl fun b2 k3 w a hk o4 hs => ?_
  have lh5 : (List.replicate 5 (0 : Int)).length = 5 := List.length_replicate
  show wpList _ _ _ [] _ _
  refine wpList_nil ?_
  refine hK1 _ _ ?_
  apply wp_seq_k; intro K6 hK6
  apply wp_region_lit
  refine sbd (pv := []) rfl hk rfl rfl rfl bd103_10 fun a hk => ?_
  have lh7 : (List.replicate 5 (0 : Int)).length = 5 := List.length_replicate
  refine sala 2 ((Lay.int .i64)) (m := 5) (z := 0) (zc := [.int .i64 0]) hs rfl hk rfl rfl ze103 (by exact ⟨rfl, rfl⟩) rfl rfl rfl fun b8 k9 w a hk o10 hs => ?_
  have lh11 : (List.replicate 5 (0 : Int)).length = 5 := List.length_replicate
  refine sswa 2 (List.replicate 5 (0 : Int)) hs rfl o10 lh11 lh7 rfl rfl hk rfl rfl rfl rfl sz103 fun k12 w a hk o13 hs => ?_
  show wpList _ _ _ [] _ _
  refine wpList_nil ?_
  refine hK6 _ _ ?_
  apply wp_seq_k; intro K14 hK14
  apply wp_seq_k; intro K15 hK15
  apply wp_region_lit
  refine sa _ rfl hk rfl rfl rfl fun a hk => ?_
  show wpList _ _ _ [] _ _
  refine wpList_nil ?_
  refine hK15 _ _ ?_
  obtain ⟨o27, h28, HL29⟩ := bind_some H
  clear H
  obtain ⟨R30, hR30⟩ : ∃ R : Act → World → Prop, R = fun a w => ∃ (u23 : List Int) (k24 : Chunk), o27 = .out u23 ∧ Kn [(2, (.pointer (some ⟨b2, 0, none⟩))), (3, (.pointer (some ⟨b8, 0, none⟩)))] 50 a ∧ Sat [] w0 w [] [(1, k3), (2, k24)] ∧ Own (Lay.int .i64) 103 (some ⟨b8, 0, none⟩) 5 u23 k24 ∧ u23.length = 5 := ⟨_, rfl⟩
  refine wp_cutq R30 ?_ ?_
  ·refine wp_block ?_
   obtain ⟨fu32, h28⟩ := loopO_some h28
   obtain ⟨I31, hI31⟩ : ∃ I : Nat → Act → World → Prop, I = fun fu a w => ∃ (u18 : List Int) (u22 : Int) (k19 : Chunk), loopN (fun s => spec_l03Parts.s0 x0 s.1 s.2) fu (u18, u22) = some o27 ∧ Kn [(0, (.string x0)), (2, (.pointer (some ⟨b2, 0, none⟩))), (3, (.pointer (some ⟨b8, 0, none⟩))), (4, (.int .i64 u22))] 50 a ∧ Sat [] w0 w [] [(1, k3), (2, k19)] ∧ Own (Lay.int .i64) 103 (some ⟨b8, 0, none⟩) 5 u18 k19 ∧ u18.length = 5 := ⟨_, rfl⟩
   refine wp_loop_ghost I31 fu32 ?_ ?_
   ·rw [hI31]
    exact ⟨(List.replicate 5 (0 : Int)), 0, _, h28, (hk.c 0 rfl (hk.c 2 rfl (hk.c 3 rfl (hk.c 4 rfl hk.k)))), (hs.pick [(1, 1), (2, 2)] rfl), o13, lh7⟩
   ·clear h28 hk hs
    intro fu32 a w hI0
    rw [hI31] at hI0
    obtain ⟨u18, u22, k19, hi, hk, hs, o20, lh21⟩ := hI0
    obtain ⟨x33, H, h34⟩ := loop_round hi
    try dsimp only at H
    unfold spec_l03Parts.s0 at H
    apply wp_seq_k; intro K35 hK35
    apply wp_seq_k; intro K36 hK36
    apply wp_region_lit
    refine sm _ rfl hk rfl rfl rfl fun a hk => ?_
    refine sv (.bool (decide (u22 < 17))) hk rfl rfl rfl fun a hk => ?_
    show wpList _ _ _ [] _ _
    refine wpList_nil ?_
    refine hK36 _ _ ?_
    have hs := hs.pick [(1, 1), (2, 2)] rfl
    rcases cond_some H with ⟨c37, H⟩ | ⟨c37, H⟩
    ·have hk := hk.lit 9 c37 rfl
     refine cnd_true hk rfl rfl ?_
     refine wp_skip ?_
     refine hK35 _ _ ?_
     apply wp_seq_k; intro K38 hK38
     refine wp_block ?_
     apply wp_seq_k; intro K39 hK39
     apply wp_region_lit
     refine sm _ rfl hk rfl rfl rfl fun a hk => ?_
     refine sv (.int .i64 (w64 (8 * u22))) hk rfl rfl rfl fun a hk => ?_
     refine sa _ rfl hk rfl rfl rfl fun a hk => ?_
     show wpList _ _ _ [] _ _
     refine wpList_nil ?_
     refine hK39 _ _ ?_
     apply wp_seq_k; intro K40 hK40
     apply wp_region_lit
     refine sm _ rfl hk rfl rfl rfl fun a hk => ?_
     refine sm _ rfl hk rfl rfl rfl fun a hk => ?_
     rcases ite_some H with ⟨c41, H⟩ | ⟨_, H⟩
     rotate_left
     ·cases H
     refine six rfl hk rfl rfl rfl rfl un9 c41.1 c41.2 fun a hk => ?_
     refine scn rfl hk rfl rfl rfl un3 un5 fun a hk => ?_
     refine sa _ rfl hk rfl rfl rfl fun a hk => ?_
     show wpList _ _ _ [] _ _
     refine wpList_nil ?_
     refine hK40 _ _ ?_
     apply wp_seq_k; intro K42 hK42
     refine wp_region_tree (.q 0 (.q 1 (.q 2 (.q 3 (.q 4 (.alt 5 (.alt 6 (.alt 7 (.alt 8 (.alt 9 (.alt 10 (.last 11) .stop) .stop) .stop) .stop) .stop) .stop)))))) mo (by kernel_rfl) (hs.pick [(1, 1), (2, 2)] rfl) fun _ => ?_
     have hs := hs.drew
     refine tqst (.int .i64 (w64 (8 * u22))) hk rfl rfl rfl rfl (fun w hs => sm _ rfl hk rfl rfl rfl fun a hk => qe hk) fun a hk => ?_
     refine tqst (.int .i64 (IntKind.wrap .i64 (Int.tdiv (w64 (8 * u22)) 26))) hk rfl rfl rfl rfl (fun w hs => sv (.int .i64 (IntKind.wrap .i64 (Int.tdiv (w64 (8 * u22)) 26))) hk rfl rfl rfl fun a hk => qe hk) fun a hk => ?_
     rcases ite_some H with ⟨c44, H⟩ | ⟨_, H⟩
     rotate_left
     ·cases H
     obtain ⟨b45, q46, hAc44⟩ := (o20.view).some_ (IntKind.wrap .i64 (Int.tdiv (w64 (8 * u22)) 26)) c44.1 (by rw [lh21]; exact c44.2)
     refine tqst (.pointer (some (padd (some ⟨b8, 0, none⟩) ((IntKind.wrap .i64 (Int.tdiv (w64 (8 * u22)) 26)).toNat * 1)))) hk rfl rfl rfl rfl (fun w hs => sia rfl hk rfl rfl rfl rfl un103 sz3 c44.1 c44.2 hAc44 fun a hk => qe hk) fun a hk => ?_
     obtain ⟨_, rfl, e47⟩ := (o20.view).at_ 0 (IntKind.wrap .i64 (Int.tdiv (w64 (8 * u22)) 26)) c44.1 (by rw [lh21]; exact c44.2)
     refine tqst (.int .i64 (u18.getD (IntKind.wrap .i64 (Int.tdiv (w64 (8 * u22)) 26)).toNat 0)) hk rfl rfl rfl rfl (fun w hs => sl (v := (.int .i64 (u18.getD (IntKind.wrap .i64 (Int.tdiv (w64 (8 * u22)) 26)).toNat 0))) rfl hk rfl rfl rfl ag3 ((e47 0 _ rfl).cell (hs.hasG (k := 2) rfl)) fun a hk => qe hk) fun a hk => ?_
     refine tqst (.int .i64 (IntKind.wrap .i64 (byteAt x0 u22))) hk rfl rfl rfl rfl (fun w hs => sm _ rfl hk rfl rfl rfl fun a hk => qe hk) fun a hk => ?_
     refine tsst hk rfl rfl (fun K_r43_5 hK_r43_5 w hF => ?_) wt_stop
     have hs := hs.f hF
     refine sm _ rfl hk rfl rfl rfl fun a hk => ?_
     refine se (hs.pick [(1, 1), (2, 2)] rfl) hk (hK_r43_5 _ _ ?_)
     refine tsst hk rfl rfl (fun K_r43_6 hK_r43_6 w hF => ?_) wt_stop
     have hs := hs.f hF
     refine sv (.int .i64 (Int.tmod (w64 (8 * u22)) 26)) hk rfl rfl rfl fun a hk => ?_
     refine se (hs.pick [(1, 1), (2, 2)] rfl) hk (hK_r43_6 _ _ ?_)
     refine tsst hk rfl rfl (fun K_r43_7 hK_r43_7 w hF => ?_) wt_stop
     have hs := hs.f hF
     rcases ite_some H with ⟨c48, H⟩ | ⟨_, H⟩
     rotate_left
     ·cases H
     refine ssh rfl hk rfl rfl rfl rfl c48 fun a hk => ?_
     refine se (hs.pick [(1, 1), (2, 2)] rfl) hk (hK_r43_7 _ _ ?_)
     refine tsst hk rfl rfl (fun K_r43_8 hK_r43_8 w hF => ?_) wt_stop
     have hs := hs.f hF
     refine sv (.int .i64 (IntKind.wrap .i64 ((BitVec.ofInt 64 (IntKind.wrap .i64 ((IntKind.wrap .i64 (byteAt x0 u22)) * 2 ^ min (Int.tmod (w64 (8 * u22)) 26).toNat 64)) &&& BitVec.ofInt 64 67108863).toNat : Int))) hk rfl rfl rfl fun a hk => ?_
     refine se (hs.pick [(1, 1), (2, 2)] rfl) hk (hK_r43_8 _ _ ?_)
     refine tsst hk rfl rfl (fun K_r43_9 hK_r43_9 w hF => ?_) wt_stop
     have hs := hs.f hF
     refine sv (.int .i64 (w64 ((u18.getD (IntKind.wrap .i64 (Int.tdiv (w64 (8 * u22)) 26)).toNat 0) + (IntKind.wrap .i64 ((BitVec.ofInt 64 (IntKind.wrap .i64 ((IntKind.wrap .i64 (byteAt x0 u22)) * 2 ^ min (Int.tmod (w64 (8 * u22)) 26).toNat 64)) &&& BitVec.ofInt 64 67108863).toNat : Int))))) hk rfl rfl rfl fun a hk => ?_
     refine se (hs.pick [(1, 1), (2, 2)] rfl) hk (hK_r43_9 _ _ ?_)
     refine tsst hk rfl rfl (fun K_r43_10 hK_r43_10 w hF => ?_) wt_stop
     have hs := hs.f hF
     rcases ite_some H with ⟨c49, H⟩ | ⟨_, H⟩
     rotate_left
     ·cases H
     obtain ⟨b50, q51, hAc49⟩ := (o20.view).some_ (IntKind.wrap .i64 (Int.tdiv (w64 (8 * u22)) 26)) c49.1 (by rw [lh21]; exact c49.2)
     refine sia rfl hk rfl rfl rfl rfl un103 sz3 c49.1 c49.2 hAc49 fun a hk => ?_
     refine se (hs.pick [(1, 1), (2, 2)] rfl) hk (hK_r43_10 _ _ ?_)
     refine tlst hk rfl rfl fun K_r43_11 hK_r43_11 w hF => ?_
     have hs := hs.f hF
     refine so (j := 0) 2 0 (w64 ((u18.getD (IntKind.wrap .i64 (Int.tdiv (w64 (8 * u22)) 26)).toNat 0) + (IntKind.wrap .i64 ((BitVec.ofInt 64 (IntKind.wrap .i64 ((IntKind.wrap .i64 (byteAt x0 u22)) * 2 ^ min (Int.tmod (w64 (8 * u22)) 26).toNat 64)) &&& BitVec.ofInt 64 67108863).toNat : Int)))) hs rfl o20 c49.1 (by rw [lh21]; exact c49.2) rfl hk rfl rfl rfl rfl rfl sz3 (by simp [Value.cells, Value.oneCell']) (Nat.le_of_ble_eq_true rfl) (fun _ _ h => ⟨by rw [h.1]; rfl, h.2⟩) fun k52 w a hk o53 hs => ?_
     have lh54 : (u18.set (IntKind.wrap .i64 (Int.tdiv (w64 (8 * u22)) 26)).toNat (w64 ((u18.getD (IntKind.wrap .i64 (Int.tdiv (w64 (8 * u22)) 26)).toNat 0) + (IntKind.wrap .i64 ((BitVec.ofInt 64 (IntKind.wrap .i64 ((IntKind.wrap .i64 (byteAt x0 u22)) * 2 ^ min (Int.tmod (w64 (8 * u22)) 26).toNat 64)) &&& BitVec.ofInt 64 67108863).toNat : Int))))).length = 5 := by rw [List.length_set]; exact lh21
     refine se trivial hk (hK_r43_11 _ _ fun w hF => ?_)
     have hs := hs.f hF
     refine hK42 _ _ ?_
     have hs := hs.pick [(1, 1), (2, 2)] rfl
     apply wp_seq_k; intro K55 hK55
     obtain ⟨o58, h59, HL60⟩ := bind_some H
     clear H
     obtain ⟨R61, hR61⟩ : ∃ R : Act → World → Prop, R = fun a w => ∃ (u57 : Bool), u57 = o58 ∧ Kn [(0, (.string x0)), (2, (.pointer (some ⟨b2, 0, none⟩))), (3, (.pointer (some ⟨b8, 0, none⟩))), (4, (.int .i64 u22)), (5, (.int .i64 (w64 (8 * u22)))), (6, (.int .i64 (IntKind.wrap .i64 (byteAt x0 u22)))), (36, (.bool u57))] 50 a ∧ Sat [] w0 w [] [(1, k3), (2, k52)] := ⟨_, rfl⟩
     refine wp_cutq R61 ?_ ?_
     ·have H := h59
      apply wp_region_lit
      refine sm _ rfl hk rfl rfl rfl fun a hk => ?_
      refine sv (.int .i64 (Int.tmod (w64 (8 * u22)) 26)) hk rfl rfl rfl fun a hk => ?_
      refine sv (.bool (decide ((Int.tmod (w64 (8 * u22)) 26) > 18))) hk rfl rfl rfl fun a hk => ?_
      refine sm _ rfl hk rfl rfl rfl fun a hk => ?_
      rcases cond_some H with ⟨c62, H⟩ | ⟨c62, H⟩
      ·have hk := hk.lit 32 c62 rfl
       refine sm _ rfl hk rfl rfl rfl fun a hk => ?_
       refine sv (.int .i64 (IntKind.wrap .i64 (Int.tdiv (w64 (8 * u22)) 26))) hk rfl rfl rfl fun a hk => ?_
       refine sv (.bool (decide ((IntKind.wrap .i64 (Int.tdiv (w64 (8 * u22)) 26)) < 4))) hk rfl rfl rfl fun a hk => ?_
       refine sv (.bool (decide ((IntKind.wrap .i64 (Int.tdiv (w64 (8 * u22)) 26)) < 4))) hk rfl rfl rfl fun a hk => ?_
       show wpList _ _ _ [] _ _
       refine wpList_nil ?_
       obtain rfl := Option.some.inj H
       show R61 _ _
       rw [hR61]
       exact ⟨(decide ((IntKind.wrap .i64 (Int.tdiv (w64 (8 * u22)) 26)) < 4)), rfl, (hk.c 0 rfl (hk.c 2 rfl (hk.c 3 rfl (hk.c 4 rfl (hk.c 5 rfl (hk.c 6 rfl (hk.c 36 rfl hk.k))))))), (hs.pick [(1, 1), (2, 2)] rfl)⟩
      ·have hk := hk.lit 32 c62 rfl
       refine sk hk rfl rfl rfl fun a hk => ?_
       refine sk hk rfl rfl rfl fun a hk => ?_
       refine sk hk rfl rfl rfl fun a hk => ?_
       refine sv (.bool false) hk rfl rfl rfl fun a hk => ?_
       show wpList _ _ _ [] _ _
       refine wpList_nil ?_
       obtain rfl := Option.some.inj H
       show R61 _ _
       rw [hR61]
       exact ⟨false, rfl, (hk.c 0 rfl (hk.c 2 rfl (hk.c 3 rfl (hk.c 4 rfl (hk.c 5 rfl (hk.c 6 rfl (hk.c 36 rfl hk.k))))))), (hs.pick [(1, 1), (2, 2)] rfl)⟩
     ·intro a w hR0
      rw [hR61] at hR0
      obtain ⟨u57, rfl, hk, hs⟩ := hR0
      have H := HL60
      try dsimp only at H
      refine hK55 _ _ ?_
      obtain ⟨o68, h69, HL70⟩ := bind_some H
      clear H
      obtain ⟨R71, hR71⟩ : ∃ R : Act → World → Prop, R = fun a w => ∃ (u64 : List Int) (k65 : Chunk), u64 = o68 ∧ Kn [(0, (.string x0)), (2, (.pointer (some ⟨b2, 0, none⟩))), (3, (.pointer (some ⟨b8, 0, none⟩))), (4, (.int .i64 u22))] 50 a ∧ Sat [] w0 w [] [(1, k3), (2, k65)] ∧ Own (Lay.int .i64) 103 (some ⟨b8, 0, none⟩) 5 u64 k65 ∧ u64.length = 5 := ⟨_, rfl⟩
      refine wp_cutq R71 ?_ ?_
      ·have H := h69
       rcases cond_some H with ⟨c72, H⟩ | ⟨c72, H⟩
       ·have hk := hk.lit 36 c72 rfl
        refine cnd_true hk rfl rfl ?_
        refine wp_region_tree (.q 0 (.q 1 (.q 2 (.q 3 (.q 4 (.q 5 (.alt 6 (.alt 7 (.alt 8 (.alt 9 (.alt 10 (.alt 11 (.last 12) .stop) .stop) .stop) .stop) .stop) .stop))))))) mo (by kernel_rfl) (hs.pick [(1, 1), (2, 2)] rfl) fun _ => ?_
        have hs := hs.drew
        refine tqst (.int .i64 (w64 (8 * u22))) hk rfl rfl rfl rfl (fun w hs => sm _ rfl hk rfl rfl rfl fun a hk => qe hk) fun a hk => ?_
        refine tqst (.int .i64 (IntKind.wrap .i64 (Int.tdiv (w64 (8 * u22)) 26))) hk rfl rfl rfl rfl (fun w hs => sv (.int .i64 (IntKind.wrap .i64 (Int.tdiv (w64 (8 * u22)) 26))) hk rfl rfl rfl fun a hk => qe hk) fun a hk => ?_
        refine tqst (.int .i64 (w64 ((IntKind.wrap .i64 (Int.tdiv (w64 (8 * u22)) 26)) + 1))) hk rfl rfl rfl rfl (fun w hs => sv (.int .i64 (w64 ((IntKind.wrap .i64 (Int.tdiv (w64 (8 * u22)) 26)) + 1))) hk rfl rfl rfl fun a hk => qe hk) fun a hk => ?_
        rcases ite_some H with ⟨c74, H⟩ | ⟨_, H⟩
        rotate_left
        ·cases H
        obtain ⟨b75, q76, hAc74⟩ := (o53.view).some_ (w64 ((IntKind.wrap .i64 (Int.tdiv (w64 (8 * u22)) 26)) + 1)) c74.1 (by rw [lh54]; exact c74.2)
        refine tqst (.pointer (some (padd (some ⟨b8, 0, none⟩) ((w64 ((IntKind.wrap .i64 (Int.tdiv (w64 (8 * u22)) 26)) + 1)).toNat * 1)))) hk rfl rfl rfl rfl (fun w hs => sia rfl hk rfl rfl rfl rfl un103 sz3 c74.1 c74.2 hAc74 fun a hk => qe hk) fun a hk => ?_
        obtain ⟨_, rfl, e77⟩ := (o53.view).at_ 0 (w64 ((IntKind.wrap .i64 (Int.tdiv (w64 (8 * u22)) 26)) + 1)) c74.1 (by rw [lh54]; exact c74.2)
        refine tqst (.int .i64 ((u18.set (IntKind.wrap .i64 (Int.tdiv (w64 (8 * u22)) 26)).toNat (w64 ((u18.getD (IntKind.wrap .i64 (Int.tdiv (w64 (8 * u22)) 26)).toNat 0) + (IntKind.wrap .i64 ((BitVec.ofInt 64 (IntKind.wrap .i64 ((IntKind.wrap .i64 (byteAt x0 u22)) * 2 ^ min (Int.tmod (w64 (8 * u22)) 26).toNat 64)) &&& BitVec.ofInt 64 67108863).toNat : Int))))).getD (w64 ((IntKind.wrap .i64 (Int.tdiv (w64 (8 * u22)) 26)) + 1)).toNat 0)) hk rfl rfl rfl rfl (fun w hs => sl (v := (.int .i64 ((u18.set (IntKind.wrap .i64 (Int.tdiv (w64 (8 * u22)) 26)).toNat (w64 ((u18.getD (IntKind.wrap .i64 (Int.tdiv (w64 (8 * u22)) 26)).toNat 0) + (IntKind.wrap .i64 ((BitVec.ofInt 64 (IntKind.wrap .i64 ((IntKind.wrap .i64 (byteAt x0 u22)) * 2 ^ min (Int.tmod (w64 (8 * u22)) 26).toNat 64)) &&& BitVec.ofInt 64 67108863).toNat : Int))))).getD (w64 ((IntKind.wrap .i64 (Int.tdiv (w64 (8 * u22)) 26)) + 1)).toNat 0))) rfl hk rfl rfl rfl ag3 ((e77 0 _ rfl).cell (hs.hasG (k := 2) rfl)) fun a hk => qe hk) fun a hk => ?_
        refine tqst (.int .i64 (IntKind.wrap .i64 (byteAt x0 u22))) hk rfl rfl rfl rfl (fun w hs => sm _ rfl hk rfl rfl rfl fun a hk => qe hk) fun a hk => ?_
        refine tsst hk rfl rfl (fun K_r73_6 hK_r73_6 w hF => ?_) wt_stop
        have hs := hs.f hF
        refine sm _ rfl hk rfl rfl rfl fun a hk => ?_
        refine se (hs.pick [(1, 1), (2, 2)] rfl) hk (hK_r73_6 _ _ ?_)
        refine tsst hk rfl rfl (fun K_r73_7 hK_r73_7 w hF => ?_) wt_stop
        have hs := hs.f hF
        refine sv (.int .i64 (Int.tmod (w64 (8 * u22)) 26)) hk rfl rfl rfl fun a hk => ?_
        refine se (hs.pick [(1, 1), (2, 2)] rfl) hk (hK_r73_7 _ _ ?_)
        refine tsst hk rfl rfl (fun K_r73_8 hK_r73_8 w hF => ?_) wt_stop
        have hs := hs.f hF
        refine sv (.int .i64 (w64 (26 - (Int.tmod (w64 (8 * u22)) 26)))) hk rfl rfl rfl fun a hk => ?_
        refine se (hs.pick [(1, 1), (2, 2)] rfl) hk (hK_r73_8 _ _ ?_)
        refine tsst hk rfl rfl (fun K_r73_9 hK_r73_9 w hF => ?_) wt_stop
        have hs := hs.f hF
        rcases ite_some H with ⟨c78, H⟩ | ⟨_, H⟩
        rotate_left
        ·cases H
        refine ssr rfl hk rfl rfl rfl rfl c78 fun a hk => ?_
        refine se (hs.pick [(1, 1), (2, 2)] rfl) hk (hK_r73_9 _ _ ?_)
        refine tsst hk rfl rfl (fun K_r73_10 hK_r73_10 w hF => ?_) wt_stop
        have hs := hs.f hF
        refine sv (.int .i64 (w64 (((u18.set (IntKind.wrap .i64 (Int.tdiv (w64 (8 * u22)) 26)).toNat (w64 ((u18.getD (IntKind.wrap .i64 (Int.tdiv (w64 (8 * u22)) 26)).toNat 0) + (IntKind.wrap .i64 ((BitVec.ofInt 64 (IntKind.wrap .i64 ((IntKind.wrap .i64 (byteAt x0 u22)) * 2 ^ min (Int.tmod (w64 (8 * u22)) 26).toNat 64)) &&& BitVec.ofInt 64 67108863).toNat : Int))))).getD (w64 ((IntKind.wrap .i64 (Int.tdiv (w64 (8 * u22)) 26)) + 1)).toNat 0) + (Int.fdiv (IntKind.wrap .i64 (byteAt x0 u22)) (2 ^ min (w64 (26 - (Int.tmod (w64 (8 * u22)) 26))).toNat 64))))) hk rfl rfl rfl fun a hk => ?_
        refine se (hs.pick [(1, 1), (2, 2)] rfl) hk (hK_r73_10 _ _ ?_)
        refine tsst hk rfl rfl (fun K_r73_11 hK_r73_11 w hF => ?_) wt_stop
        have hs := hs.f hF
        rcases ite_some H with ⟨c79, H⟩ | ⟨_, H⟩
        rotate_left
        ·cases H
        obtain ⟨b80, q81, hAc79⟩ := (o53.view).some_ (w64 ((IntKind.wrap .i64 (Int.tdiv (w64 (8 * u22)) 26)) + 1)) c79.1 (by rw [lh54]; exact c79.2)
        refine sia rfl hk rfl rfl rfl rfl un103 sz3 c79.1 c79.2 hAc79 fun a hk => ?_
        refine se (hs.pick [(1, 1), (2, 2)] rfl) hk (hK_r73_11 _ _ ?_)
        refine tlst hk rfl rfl fun K_r73_12 hK_r73_12 w hF => ?_
        have hs := hs.f hF
        refine so (j := 0) 2 0 (w64 (((u18.set (IntKind.wrap .i64 (Int.tdiv (w64 (8 * u22)) 26)).toNat (w64 ((u18.getD (IntKind.wrap .i64 (Int.tdiv (w64 (8 * u22)) 26)).toNat 0) + (IntKind.wrap .i64 ((BitVec.ofInt 64 (IntKind.wrap .i64 ((IntKind.wrap .i64 (byteAt x0 u22)) * 2 ^ min (Int.tmod (w64 (8 * u22)) 26).toNat 64)) &&& BitVec.ofInt 64 67108863).toNat : Int))))).getD (w64 ((IntKind.wrap .i64 (Int.tdiv (w64 (8 * u22)) 26)) + 1)).toNat 0) + (Int.fdiv (IntKind.wrap .i64 (byteAt x0 u22)) (2 ^ min (w64 (26 - (Int.tmod (w64 (8 * u22)) 26))).toNat 64)))) hs rfl o53 c79.1 (by rw [lh54]; exact c79.2) rfl hk rfl rfl rfl rfl rfl sz3 (by simp [Value.cells, Value.oneCell']) (Nat.le_of_ble_eq_true rfl) (fun _ _ h => ⟨by rw [h.1]; rfl, h.2⟩) fun k82 w a hk o83 hs => ?_
        have lh84 : ((u18.set (IntKind.wrap .i64 (Int.tdiv (w64 (8 * u22)) 26)).toNat (w64 ((u18.getD (IntKind.wrap .i64 (Int.tdiv (w64 (8 * u22)) 26)).toNat 0) + (IntKind.wrap .i64 ((BitVec.ofInt 64 (IntKind.wrap .i64 ((IntKind.wrap .i64 (byteAt x0 u22)) * 2 ^ min (Int.tmod (w64 (8 * u22)) 26).toNat 64)) &&& BitVec.ofInt 64 67108863).toNat : Int))))).set (w64 ((IntKind.wrap .i64 (Int.tdiv (w64 (8 * u22)) 26)) + 1)).toNat (w64 (((u18.set (IntKind.wrap .i64 (Int.tdiv (w64 (8 * u22)) 26)).toNat (w64 ((u18.getD (IntKind.wrap .i64 (Int.tdiv (w64 (8 * u22)) 26)).toNat 0) + (IntKind.wrap .i64 ((BitVec.ofInt 64 (IntKind.wrap .i64 ((IntKind.wrap .i64 (byteAt x0 u22)) * 2 ^ min (Int.tmod (w64 (8 * u22)) 26).toNat 64)) &&& BitVec.ofInt 64 67108863).toNat : Int))))).getD (w64 ((IntKind.wrap .i64 (Int.tdiv (w64 (8 * u22)) 26)) + 1)).toNat 0) + (Int.fdiv (IntKind.wrap .i64 (byteAt x0 u22)) (2 ^ min (w64 (26 - (Int.tmod (w64 (8 * u22)) 26))).toNat 64))))).length = 5 := by rw [List.length_set]; exact lh54
        refine se trivial hk (hK_r73_12 _ _ fun w hF => ?_)
        have hs := hs.f hF
        obtain rfl := Option.some.inj H
        show R71 _ _
        rw [hR71]
        exact ⟨((u18.set (IntKind.wrap .i64 (Int.tdiv (w64 (8 * u22)) 26)).toNat (w64 ((u18.getD (IntKind.wrap .i64 (Int.tdiv (w64 (8 * u22)) 26)).toNat 0) + (IntKind.wrap .i64 ((BitVec.ofInt 64 (IntKind.wrap .i64 ((IntKind.wrap .i64 (byteAt x0 u22)) * 2 ^ min (Int.tmod (w64 (8 * u22)) 26).toNat 64)) &&& BitVec.ofInt 64 67108863).toNat : Int))))).set (w64 ((IntKind.wrap .i64 (Int.tdiv (w64 (8 * u22)) 26)) + 1)).toNat (w64 (((u18.set (IntKind.wrap .i64 (Int.tdiv (w64 (8 * u22)) 26)).toNat (w64 ((u18.getD (IntKind.wrap .i64 (Int.tdiv (w64 (8 * u22)) 26)).toNat 0) + (IntKind.wrap .i64 ((BitVec.ofInt 64 (IntKind.wrap .i64 ((IntKind.wrap .i64 (byteAt x0 u22)) * 2 ^ min (Int.tmod (w64 (8 * u22)) 26).toNat 64)) &&& BitVec.ofInt 64 67108863).toNat : Int))))).getD (w64 ((IntKind.wrap .i64 (Int.tdiv (w64 (8 * u22)) 26)) + 1)).toNat 0) + (Int.fdiv (IntKind.wrap .i64 (byteAt x0 u22)) (2 ^ min (w64 (26 - (Int.tmod (w64 (8 * u22)) 26))).toNat 64))))), _, rfl, (hk.c 0 rfl (hk.c 2 rfl (hk.c 3 rfl (hk.c 4 rfl hk.k)))), (hs.pick [(1, 1), (2, 2)] rfl), o83, lh84⟩
       ·have hk := hk.lit 36 c72 rfl
        refine cnd_false hk rfl rfl ?_
        refine wp_skip ?_
        obtain rfl := Option.some.inj H
        show R71 _ _
        rw [hR71]
        exact ⟨(u18.set (IntKind.wrap .i64 (Int.tdiv (w64 (8 * u22)) 26)).toNat (w64 ((u18.getD (IntKind.wrap .i64 (Int.tdiv (w64 (8 * u22)) 26)).toNat 0) + (IntKind.wrap .i64 ((BitVec.ofInt 64 (IntKind.wrap .i64 ((IntKind.wrap .i64 (byteAt x0 u22)) * 2 ^ min (Int.tmod (w64 (8 * u22)) 26).toNat 64)) &&& BitVec.ofInt 64 67108863).toNat : Int))))), _, rfl, (hk.c 0 rfl (hk.c 2 rfl (hk.c 3 rfl (hk.c 4 rfl hk.k)))), (hs.pick [(1, 1), (2, 2)] rfl), o53, lh54⟩
      ·intro a w hR0
       rw [hR71] at hR0
       obtain ⟨u64, k65, rfl, hk, hs, o66, lh67⟩ := hR0
       have H := HL70
       try dsimp only at H
       refine hK38 _ _ ?_
       apply wp_region_lit
       refine sm _ rfl hk rfl rfl rfl fun a hk => ?_
       refine sv (.int .i64 (w64 (u22 + 1))) hk rfl rfl rfl fun a hk => ?_
       refine sa _ rfl hk rfl rfl rfl fun a hk => ?_
       show wpList _ _ _ [] _ _
       refine wpList_nil ?_
       obtain rfl := Option.some.inj H
       obtain ⟨m85, hmm85, h34⟩ := h34
       show ∃ n', n' < _ ∧ I31 n' _ _
       refine ⟨m85, hmm85, ?_⟩
       rw [hI31]
       exact ⟨u64, (w64 (u22 + 1)), _, h34, (hk.c 0 rfl (hk.c 2 rfl (hk.c 3 rfl (hk.c 4 rfl hk.k)))), (hs.pick [(1, 1), (2, 2)] rfl), o66, lh67⟩
    ·have hk := hk.lit 9 c37 rfl
     refine cnd_false hk rfl rfl ?_
     refine wp_exit ?_
     obtain rfl := Option.some.inj H
     show R30 _ _
     rw [hR30]
     exact ⟨u18, _, h34.symm, (hk.c 2 rfl (hk.c 3 rfl hk.k)), (hs.pick [(1, 1), (2, 2)] rfl), o20, lh21⟩
  ·intro a w hR0
   rw [hR30] at hR0
   obtain ⟨u23, k24, rfl, hk, hs, o25, lh26⟩ := hR0
   have H := HL29
   try dsimp only at H
   refine hK14 _ _ ?_
   have hs := hs.pick [(1, 1), (2, 2)] rfl
   apply wp_seq_k; intro K86 hK86
   apply wp_region_lit
   refine slna (k := 2) hs rfl o25 lh26 rfl hk rfl rfl rfl ag103 sz103 fun a hk => ?_
   refine sswa 1 u23 hs rfl o4 lh5 lh26 rfl rfl hk rfl rfl rfl rfl sz103 fun k87 w a hk o88 hs => ?_
   show wpList _ _ _ [] _ _
   refine wpList_nil ?_
   refine hK86 _ _ ?_
   refine wp_ret ?_
   obtain rfl := Option.some.inj H
   exact fin hk _ [(aggI .i64 u23)] rfl ⟨⟨_, rfl, run_loadA ag103 sz103 o88 lh26 hs (q := 1) rfl⟩, trivial⟩ ⟨rfl, lh26, (hs.pick [] rfl).dnil⟩

noncomputable def spec_l03Carry.s1  (u38 : List Int) (u42 : Int) : Option (((List Int) × Int) ⊕ Ex ((List Int)) ((List Int))) :=
  (bif (decide (u42 < 4)) then (if 0 ≤ (w64 (u42 + 1)) ∧ (w64 (u42 + 1)) < (5 : Int) then (if 0 ≤ u42 ∧ u42 < (5 : Int) then (if 0 ≤ (w64 (u42 + 1)) ∧ (w64 (u42 + 1)) < (5 : Int) then (if 0 ≤ u42 ∧ u42 < (5 : Int) then (if 0 ≤ u42 ∧ u42 < (5 : Int) then (some (.inl (((u38.set (w64 (u42 + 1)).toNat (w64 ((u38.getD (w64 (u42 + 1)).toNat 0) + (Int.fdiv (u38.getD u42.toNat 0) (2 ^ 26))))).set u42.toNat (IntKind.wrap .i64 ((BitVec.ofInt 64 ((u38.set (w64 (u42 + 1)).toNat (w64 ((u38.getD (w64 (u42 + 1)).toNat 0) + (Int.fdiv (u38.getD u42.toNat 0) (2 ^ 26))))).getD u42.toNat 0) &&& BitVec.ofInt 64 67108863).toNat : Int))), (w64 (u42 + 1))))) else none) else none) else none) else none) else none) else (some (.inr (.out u38))))
noncomputable def spec_l03Carry.s0  (u13 : List Int) (u17 : Int) : Option (((List Int) × Int) ⊕ Ex ((List Int)) ((List Int))) :=
  (bif (decide (u17 < 3)) then ((loopO (fun s => spec_l03Carry.s1  s.1 s.2) (u13, 0)).bind fun o => match o with | .out u43 => (if 0 ≤ (0 : Int) ∧ (0 : Int) < (5 : Int) then (if 0 ≤ (4 : Int) ∧ (4 : Int) < (5 : Int) then (if 0 ≤ (0 : Int) ∧ (0 : Int) < (5 : Int) then (if 0 ≤ (4 : Int) ∧ (4 : Int) < (5 : Int) then (if 0 ≤ (4 : Int) ∧ (4 : Int) < (5 : Int) then (some (.inl (((u43.set (0 : Int).toNat (w64 ((u43.getD (0 : Int).toNat 0) + (w64 (5 * (Int.fdiv (u43.getD (4 : Int).toNat 0) (2 ^ 26))))))).set (4 : Int).toNat (IntKind.wrap .i64 ((BitVec.ofInt 64 ((u43.set (0 : Int).toNat (w64 ((u43.getD (0 : Int).toNat 0) + (w64 (5 * (Int.fdiv (u43.getD (4 : Int).toNat 0) (2 ^ 26))))))).getD (4 : Int).toNat 0) &&& BitVec.ofInt 64 67108863).toNat : Int))), (w64 (u17 + 1))))) else none) else none) else none) else none) else none) | .ret r => (some (.inr (.ret r)))) else (some (.inr (.out u13))))
noncomputable def spec_l03Carry.f (x0 : List Int) : Option ((List Int)) :=
  ((loopO (fun s => spec_l03Carry.s0  s.1 s.2) (x0, 0)).bind fun o => match o with | .out u18 => (some u18) | .ret r => (some r))
set_option maxRecDepth 100000 in
set_option maxHeartbeats 0 in
theorem spec_l03Carry_t (w0 : World) (x0 : List Int) (e0_ : x0.length = 5) (r : (List Int)) (H : spec_l03Carry.f x0 = some r) :
    Calls Try.prog 105 #[aggI .i64 x0] w0 (Ret (fun v w => v = aggI .i64 r ∧ r.length = 5 ∧ Sat [] w0 w [] [])) := by
  have hs : Sat [] w0 w0 [] [] := Sat.init w0 [] [] (by simp) (by simp) List.nodup_nil (by simp [blks])
  unfold spec_l03Carry.f at H
  refine enter Try.func105 rfl Try.ntmps105 rfl fun a hk => ?_
  apply wp_seq_k; intro K1 hK1
  apply wp_region_lit
  refine sbxa 1 hs rfl hk rfl rfl rfl e0_ rfl fun b2 k3 w a hk o4 hs => ?_
  refine sala 2 ((Lay.int .i64)) (m := 5) (z := 0) (zc := [.int .i64 0]) hs rfl hk rfl rfl ze103 (by exact ⟨rfl, rfl⟩) rfl rfl rfl fun b5 k6 w a hk o7 hs => ?_
  have lh8 : (List.replicate 5 (0 : Int)).length = 5 := List.length_replicate
  show wpList _ _ _ [] _ _
  refine wpList_nil ?_
  refine hK1 _ _ ?_
  apply wp_seq_k; intro K9 hK9
  apply wp_seq_k; intro K10 hK10
  apply wp_region_lit
  refine sa _ rfl hk rfl rfl rfl fun a hk => ?_
  show wpList _ _ _ [] _ _
  refine wpList_nil ?_
  refine hK10 _ _ ?_
  obtain ⟨o22, h23, HL24⟩ := bind_some H
  clear H
  obtain ⟨R25, hR25⟩ : ∃ R : Act → World → Prop, R = fun a w => ∃ (u18 : List Int) (k19 : Chunk), o22 = .out u18 ∧ Kn [(1, (.pointer (some ⟨b2, 0, none⟩))), (2, (.pointer (some ⟨b5, 0, none⟩)))] 41 a ∧ Sat [] w0 w [] [(1, k19), (2, k6)] ∧ Own (Lay.int .i64) 103 (some ⟨b2, 0, none⟩) 5 u18 k19 ∧ u18.length = 5 := ⟨_, rfl⟩
  refine wp_cutq R25 ?_ ?_
  ·refine wp_block ?_
   obtain ⟨fu27, h23⟩ := loopO_some h23
   obtain ⟨I26, hI26⟩ : ∃ I : Nat → Act → World → Prop, I = fun fu a w => ∃ (u13 : List Int) (u17 : Int) (k14 : Chunk), loopN (fun s => spec_l03Carry.s0  s.1 s.2) fu (u13, u17) = some o22 ∧ Kn [(1, (.pointer (some ⟨b2, 0, none⟩))), (2, (.pointer (some ⟨b5, 0, none⟩))), (3, (.int .i64 u17))] 41 a ∧ Sat [] w0 w [] [(1, k14), (2, k6)] ∧ Own (Lay.int .i64) 103 (some ⟨b2, 0, none⟩) 5 u13 k14 ∧ u13.length = 5 := ⟨_, rfl⟩
   refine wp_loop_ghost I26 fu27 ?_ ?_
   ·rw [hI26]
    exact ⟨x0, 0, _, h23, (hk.c 1 rfl (hk.c 2 rfl (hk.c 3 rfl hk.k))), (hs.pick [(1, 1), (2, 2)] rfl), o4, e0_⟩
   ·clear h23 hk hs
    intro fu27 a w hI0
    rw [hI26] at hI0
    obtain ⟨u13, u17, k14, hi, hk, hs, o15, lh16⟩ := hI0
    obtain ⟨x28, H, h29⟩ := loop_round hi
    try dsimp only at H
    unfold spec_l03Carry.s0 at H
    apply wp_seq_k; intro K30 hK30
    apply wp_seq_k; intro K31 hK31
    apply wp_region_lit
    refine sm _ rfl hk rfl rfl rfl fun a hk => ?_
    refine sv (.bool (decide (u17 < 3))) hk rfl rfl rfl fun a hk => ?_
    show wpList _ _ _ [] _ _
    refine wpList_nil ?_
    refine hK31 _ _ ?_
    rcases cond_some H with ⟨c32, H⟩ | ⟨c32, H⟩
    ·have hk := hk.lit 6 c32 rfl
     refine cnd_true hk rfl rfl ?_
     refine wp_skip ?_
     refine hK30 _ _ ?_
     have hs := hs.pick [(1, 1), (2, 2)] rfl
     apply wp_seq_k; intro K33 hK33
     refine wp_block ?_
     apply wp_seq_k; intro K34 hK34
     apply wp_seq_k; intro K35 hK35
     apply wp_region_lit
     refine sa _ rfl hk rfl rfl rfl fun a hk => ?_
     show wpList _ _ _ [] _ _
     refine wpList_nil ?_
     refine hK35 _ _ ?_
     obtain ⟨o47, h48, HL49⟩ := bind_some H
     clear H
     obtain ⟨R50, hR50⟩ : ∃ R : Act → World → Prop, R = fun a w => ∃ (u43 : List Int) (k44 : Chunk), o47 = .out u43 ∧ Kn [(1, (.pointer (some ⟨b2, 0, none⟩))), (2, (.pointer (some ⟨b5, 0, none⟩))), (3, (.int .i64 u17))] 41 a ∧ Sat [] w0 w [] [(1, k44), (2, k6)] ∧ Own (Lay.int .i64) 103 (some ⟨b2, 0, none⟩) 5 u43 k44 ∧ u43.length = 5 := ⟨_, rfl⟩
     refine wp_cutq R50 ?_ ?_
     ·refine wp_block ?_
      obtain ⟨fu52, h48⟩ := loopO_some h48
      obtain ⟨I51, hI51⟩ : ∃ I : Nat → Act → World → Prop, I = fun fu a w => ∃ (u38 : List Int) (u42 : Int) (k39 : Chunk), loopN (fun s => spec_l03Carry.s1  s.1 s.2) fu (u38, u42) = some o47 ∧ Kn [(1, (.pointer (some ⟨b2, 0, none⟩))), (2, (.pointer (some ⟨b5, 0, none⟩))), (3, (.int .i64 u17)), (4, (.int .i64 u42))] 41 a ∧ Sat [] w0 w [] [(1, k39), (2, k6)] ∧ Own (Lay.int .i64) 103 (some ⟨b2, 0, none⟩) 5 u38 k39 ∧ u38.length = 5 := ⟨_, rfl⟩
      refine wp_loop_ghost I51 fu52 ?_ ?_
      ·rw [hI51]
       exact ⟨u13, 0, _, h48, (hk.c 1 rfl (hk.c 2 rfl (hk.c 3 rfl (hk.c 4 rfl hk.k)))), (hs.pick [(1, 1), (2, 2)] rfl), o15, lh16⟩
      ·clear h48 hk hs
       intro fu52 a w hI0
       rw [hI51] at hI0
       obtain ⟨u38, u42, k39, hi, hk, hs, o40, lh41⟩ := hI0
       obtain ⟨x53, H, h54⟩ := loop_round hi
       try dsimp only at H
       unfold spec_l03Carry.s1 at H
       apply wp_seq_k; intro K55 hK55
       apply wp_seq_k; intro K56 hK56
       apply wp_region_lit
       refine sm _ rfl hk rfl rfl rfl fun a hk => ?_
       refine sv (.bool (decide (u42 < 4))) hk rfl rfl rfl fun a hk => ?_
       show wpList _ _ _ [] _ _
       refine wpList_nil ?_
       refine hK56 _ _ ?_
       rcases cond_some H with ⟨c57, H⟩ | ⟨c57, H⟩
       ·have hk := hk.lit 10 c57 rfl
        refine cnd_true hk rfl rfl ?_
        refine wp_skip ?_
        refine hK55 _ _ ?_
        apply wp_seq_k; intro K58 hK58
        refine wp_block ?_
        apply wp_seq_k; intro K59 hK59
        refine wp_region_tree (.q 0 (.q 1 (.q 2 (.q 3 (.alt 4 (.alt 5 (.alt 6 (.alt 7 (.alt 8 (.alt 9 (.last 10) .stop) .stop) .stop) .stop) .stop) .stop))))) mo (by kernel_rfl) (hs.pick [(1, 1), (2, 2)] rfl) fun _ => ?_
        have hs := hs.drew
        refine tqst (.int .i64 u42) hk rfl rfl rfl rfl (fun w hs => sm _ rfl hk rfl rfl rfl fun a hk => qe hk) fun a hk => ?_
        refine tqst (.int .i64 (w64 (u42 + 1))) hk rfl rfl rfl rfl (fun w hs => sv (.int .i64 (w64 (u42 + 1))) hk rfl rfl rfl fun a hk => qe hk) fun a hk => ?_
        rcases ite_some H with ⟨c61, H⟩ | ⟨_, H⟩
        rotate_left
        ·cases H
        obtain ⟨b62, q63, hAc61⟩ := (o40.view).some_ (w64 (u42 + 1)) c61.1 (by rw [lh41]; exact c61.2)
        refine tqst (.pointer (some (padd (some ⟨b2, 0, none⟩) ((w64 (u42 + 1)).toNat * 1)))) hk rfl rfl rfl rfl (fun w hs => sia rfl hk rfl rfl rfl rfl un103 sz3 c61.1 c61.2 hAc61 fun a hk => qe hk) fun a hk => ?_
        obtain ⟨_, rfl, e64⟩ := (o40.view).at_ 0 (w64 (u42 + 1)) c61.1 (by rw [lh41]; exact c61.2)
        refine tqst (.int .i64 (u38.getD (w64 (u42 + 1)).toNat 0)) hk rfl rfl rfl rfl (fun w hs => sl (v := (.int .i64 (u38.getD (w64 (u42 + 1)).toNat 0))) rfl hk rfl rfl rfl ag3 ((e64 0 _ rfl).cell (hs.hasG (k := 1) rfl)) fun a hk => qe hk) fun a hk => ?_
        refine tsst hk rfl rfl (fun K_r60_4 hK_r60_4 w hF => ?_) wt_stop
        have hs := hs.f hF
        refine sm _ rfl hk rfl rfl rfl fun a hk => ?_
        refine se (hs.pick [(1, 1), (2, 2)] rfl) hk (hK_r60_4 _ _ ?_)
        refine tsst hk rfl rfl (fun K_r60_5 hK_r60_5 w hF => ?_) wt_stop
        have hs := hs.f hF
        rcases ite_some H with ⟨c65, H⟩ | ⟨_, H⟩
        rotate_left
        ·cases H
        obtain ⟨b66, q67, hAc65⟩ := (o40.view).some_ u42 c65.1 (by rw [lh41]; exact c65.2)
        refine sia rfl hk rfl rfl rfl rfl un103 sz3 c65.1 c65.2 hAc65 fun a hk => ?_
        refine se (hs.pick [(1, 1), (2, 2)] rfl) hk (hK_r60_5 _ _ ?_)
        refine tsst hk rfl rfl (fun K_r60_6 hK_r60_6 w hF => ?_) wt_stop
        have hs := hs.f hF
        obtain ⟨_, rfl, e68⟩ := (o40.view).at_ 0 u42 c65.1 (by rw [lh41]; exact c65.2)
        refine sl (v := (.int .i64 (u38.getD u42.toNat 0))) rfl hk rfl rfl rfl ag3 ((e68 0 _ rfl).cell (hs.hasG (k := 1) rfl)) fun a hk => ?_
        refine se (hs.pick [(1, 1), (2, 2)] rfl) hk (hK_r60_6 _ _ ?_)
        refine tsst hk rfl rfl (fun K_r60_7 hK_r60_7 w hF => ?_) wt_stop
        have hs := hs.f hF
        refine sv (.int .i64 (Int.fdiv (u38.getD u42.toNat 0) (2 ^ 26))) hk rfl rfl rfl fun a hk => ?_
        refine se (hs.pick [(1, 1), (2, 2)] rfl) hk (hK_r60_7 _ _ ?_)
        refine tsst hk rfl rfl (fun K_r60_8 hK_r60_8 w hF => ?_) wt_stop
        have hs := hs.f hF
        refine sv (.int .i64 (w64 ((u38.getD (w64 (u42 + 1)).toNat 0) + (Int.fdiv (u38.getD u42.toNat 0) (2 ^ 26))))) hk rfl rfl rfl fun a hk => ?_
        refine se (hs.pick [(1, 1), (2, 2)] rfl) hk (hK_r60_8 _ _ ?_)
        refine tsst hk rfl rfl (fun K_r60_9 hK_r60_9 w hF => ?_) wt_stop
        have hs := hs.f hF
        rcases ite_some H with ⟨c69, H⟩ | ⟨_, H⟩
        rotate_left
        ·cases H
        obtain ⟨b70, q71, hAc69⟩ := (o40.view).some_ (w64 (u42 + 1)) c69.1 (by rw [lh41]; exact c69.2)
        refine sia rfl hk rfl rfl rfl rfl un103 sz3 c69.1 c69.2 hAc69 fun a hk => ?_
        refine se (hs.pick [(1, 1), (2, 2)] rfl) hk (hK_r60_9 _ _ ?_)
        refine tlst hk rfl rfl fun K_r60_10 hK_r60_10 w hF => ?_
        have hs := hs.f hF
        refine so (j := 0) 1 0 (w64 ((u38.getD (w64 (u42 + 1)).toNat 0) + (Int.fdiv (u38.getD u42.toNat 0) (2 ^ 26)))) hs rfl o40 c69.1 (by rw [lh41]; exact c69.2) rfl hk rfl rfl rfl rfl rfl sz3 (by simp [Value.cells, Value.oneCell']) (Nat.le_of_ble_eq_true rfl) (fun _ _ h => ⟨by rw [h.1]; rfl, h.2⟩) fun k72 w a hk o73 hs => ?_
        have lh74 : (u38.set (w64 (u42 + 1)).toNat (w64 ((u38.getD (w64 (u42 + 1)).toNat 0) + (Int.fdiv (u38.getD u42.toNat 0) (2 ^ 26))))).length = 5 := by rw [List.length_set]; exact lh41
        refine se trivial hk (hK_r60_10 _ _ fun w hF => ?_)
        have hs := hs.f hF
        refine hK59 _ _ ?_
        have hs := hs.pick [(1, 1), (2, 2)] rfl
        apply wp_region_lit
        refine sm _ rfl hk rfl rfl rfl fun a hk => ?_
        rcases ite_some H with ⟨c75, H⟩ | ⟨_, H⟩
        rotate_left
        ·cases H
        obtain ⟨b76, q77, hAc75⟩ := (o73.view).some_ u42 c75.1 (by rw [lh74]; exact c75.2)
        refine sia rfl hk rfl rfl rfl rfl un103 sz3 c75.1 c75.2 hAc75 fun a hk => ?_
        obtain ⟨_, rfl, e78⟩ := (o73.view).at_ 0 u42 c75.1 (by rw [lh74]; exact c75.2)
        refine sl (v := (.int .i64 ((u38.set (w64 (u42 + 1)).toNat (w64 ((u38.getD (w64 (u42 + 1)).toNat 0) + (Int.fdiv (u38.getD u42.toNat 0) (2 ^ 26))))).getD u42.toNat 0))) rfl hk rfl rfl rfl ag3 ((e78 0 _ rfl).cell (hs.hasG (k := 1) rfl)) fun a hk => ?_
        refine sv (.int .i64 (IntKind.wrap .i64 ((BitVec.ofInt 64 ((u38.set (w64 (u42 + 1)).toNat (w64 ((u38.getD (w64 (u42 + 1)).toNat 0) + (Int.fdiv (u38.getD u42.toNat 0) (2 ^ 26))))).getD u42.toNat 0) &&& BitVec.ofInt 64 67108863).toNat : Int))) hk rfl rfl rfl fun a hk => ?_
        rcases ite_some H with ⟨c79, H⟩ | ⟨_, H⟩
        rotate_left
        ·cases H
        obtain ⟨b80, q81, hAc79⟩ := (o73.view).some_ u42 c79.1 (by rw [lh74]; exact c79.2)
        refine sia rfl hk rfl rfl rfl rfl un103 sz3 c79.1 c79.2 hAc79 fun a hk => ?_
        refine so (j := 0) 1 0 (IntKind.wrap .i64 ((BitVec.ofInt 64 ((u38.set (w64 (u42 + 1)).toNat (w64 ((u38.getD (w64 (u42 + 1)).toNat 0) + (Int.fdiv (u38.getD u42.toNat 0) (2 ^ 26))))).getD u42.toNat 0) &&& BitVec.ofInt 64 67108863).toNat : Int)) hs rfl o73 c79.1 (by rw [lh74]; exact c79.2) rfl hk rfl rfl rfl rfl rfl sz3 (by simp [Value.cells, Value.oneCell']) (Nat.le_of_ble_eq_true rfl) (fun _ _ h => ⟨by rw [h.1]; rfl, h.2⟩) fun k82 w a hk o83 hs => ?_
        have lh84 : ((u38.set (w64 (u42 + 1)).toNat (w64 ((u38.getD (w64 (u42 + 1)).toNat 0) + (Int.fdiv (u38.getD u42.toNat 0) (2 ^ 26))))).set u42.toNat (IntKind.wrap .i64 ((BitVec.ofInt 64 ((u38.set (w64 (u42 + 1)).toNat (w64 ((u38.getD (w64 (u42 + 1)).toNat 0) + (Int.fdiv (u38.getD u42.toNat 0) (2 ^ 26))))).getD u42.toNat 0) &&& BitVec.ofInt 64 67108863).toNat : Int))).length = 5 := by rw [List.length_set]; exact lh74
        show wpList _ _ _ [] _ _
        refine wpList_nil ?_
        refine hK58 _ _ ?_
        apply wp_region_lit
        refine sm _ rfl hk rfl rfl rfl fun a hk => ?_
        refine sv (.int .i64 (w64 (u42 + 1))) hk rfl rfl rfl fun a hk => ?_
        refine sa _ rfl hk rfl rfl rfl fun a hk => ?_
        show wpList _ _ _ [] _ _
        refine wpList_nil ?_
        obtain rfl := Option.some.inj H
        obtain ⟨m85, hmm85, h54⟩ := h54
        show ∃ n', n' < _ ∧ I51 n' _ _
        refine ⟨m85, hmm85, ?_⟩
        rw [hI51]
        exact ⟨((u38.set (w64 (u42 + 1)).toNat (w64 ((u38.getD (w64 (u42 + 1)).toNat 0) + (Int.fdiv (u38.getD u42.toNat 0) (2 ^ 26))))).set u42.toNat (IntKind.wrap .i64 ((BitVec.ofInt 64 ((u38.set (w64 (u42 + 1)).toNat (w64 ((u38.getD (w64 (u42 + 1)).toNat 0) + (Int.fdiv (u38.getD u42.toNat 0) (2 ^ 26))))).getD u42.toNat 0) &&& BitVec.ofInt 64 67108863).toNat : Int))), (w64 (u42 + 1)), _, h54, (hk.c 1 rfl (hk.c 2 rfl (hk.c 3 rfl (hk.c 4 rfl hk.k)))), (hs.pick [(1, 1), (2, 2)] rfl), o83, lh84⟩
       ·have hk := hk.lit 10 c57 rfl
        refine cnd_false hk rfl rfl ?_
        refine wp_exit ?_
        obtain rfl := Option.some.inj H
        show R50 _ _
        rw [hR50]
        exact ⟨u38, _, h54.symm, (hk.c 1 rfl (hk.c 2 rfl (hk.c 3 rfl hk.k))), (hs.pick [(1, 1), (2, 2)] rfl), o40, lh41⟩
     ·intro a w hR0
      rw [hR50] at hR0
      obtain ⟨u43, k44, rfl, hk, hs, o45, lh46⟩ := hR0
      have H := HL49
      try dsimp only at H
      refine hK34 _ _ ?_
      apply wp_seq_k; intro K86 hK86
      apply wp_region_lit
      rcases ite_some H with ⟨c87, H⟩ | ⟨_, H⟩
      rotate_left
      ·cases H
      obtain ⟨b88, q89, hAc87⟩ := (o45.view).some_ (0 : Int) c87.1 (by rw [lh46]; exact c87.2)
      refine sia rfl hk rfl rfl rfl rfl un103 sz3 c87.1 c87.2 hAc87 fun a hk => ?_
      obtain ⟨_, rfl, e90⟩ := (o45.view).at_ 0 (0 : Int) c87.1 (by rw [lh46]; exact c87.2)
      refine sl (v := (.int .i64 (u43.getD (0 : Int).toNat 0))) rfl hk rfl rfl rfl ag3 ((e90 0 _ rfl).cell (hs.hasG (k := 1) rfl)) fun a hk => ?_
      rcases ite_some H with ⟨c91, H⟩ | ⟨_, H⟩
      rotate_left
      ·cases H
      obtain ⟨b92, q93, hAc91⟩ := (o45.view).some_ (4 : Int) c91.1 (by rw [lh46]; exact c91.2)
      refine sia rfl hk rfl rfl rfl rfl un103 sz3 c91.1 c91.2 hAc91 fun a hk => ?_
      obtain ⟨_, rfl, e94⟩ := (o45.view).at_ 0 (4 : Int) c91.1 (by rw [lh46]; exact c91.2)
      refine sl (v := (.int .i64 (u43.getD (4 : Int).toNat 0))) rfl hk rfl rfl rfl ag3 ((e94 0 _ rfl).cell (hs.hasG (k := 1) rfl)) fun a hk => ?_
      refine sv (.int .i64 (Int.fdiv (u43.getD (4 : Int).toNat 0) (2 ^ 26))) hk rfl rfl rfl fun a hk => ?_
      refine sv (.int .i64 (w64 (5 * (Int.fdiv (u43.getD (4 : Int).toNat 0) (2 ^ 26))))) hk rfl rfl rfl fun a hk => ?_
      refine sv (.int .i64 (w64 ((u43.getD (0 : Int).toNat 0) + (w64 (5 * (Int.fdiv (u43.getD (4 : Int).toNat 0) (2 ^ 26))))))) hk rfl rfl rfl fun a hk => ?_
      rcases ite_some H with ⟨c95, H⟩ | ⟨_, H⟩
      rotate_left
      ·cases H
      obtain ⟨b96, q97, hAc95⟩ := (o45.view).some_ (0 : Int) c95.1 (by rw [lh46]; exact c95.2)
      refine sia rfl hk rfl rfl rfl rfl un103 sz3 c95.1 c95.2 hAc95 fun a hk => ?_
      refine so (j := 0) 1 0 (w64 ((u43.getD (0 : Int).toNat 0) + (w64 (5 * (Int.fdiv (u43.getD (4 : Int).toNat 0) (2 ^ 26)))))) hs rfl o45 c95.1 (by rw [lh46]; exact c95.2) rfl hk rfl rfl rfl rfl rfl sz3 (by simp [Value.cells, Value.oneCell']) (Nat.le_of_ble_eq_true rfl) (fun _ _ h => ⟨by rw [h.1]; rfl, h.2⟩) fun k98 w a hk o99 hs => ?_
      have lh100 : (u43.set (0 : Int).toNat (w64 ((u43.getD (0 : Int).toNat 0) + (w64 (5 * (Int.fdiv (u43.getD (4 : Int).toNat 0) (2 ^ 26))))))).length = 5 := by rw [List.length_set]; exact lh46
      show wpList _ _ _ [] _ _
      refine wpList_nil ?_
      refine hK86 _ _ ?_
      apply wp_region_lit
      rcases ite_some H with ⟨c101, H⟩ | ⟨_, H⟩
      rotate_left
      ·cases H
      obtain ⟨b102, q103, hAc101⟩ := (o99.view).some_ (4 : Int) c101.1 (by rw [lh100]; exact c101.2)
      refine sia rfl hk rfl rfl rfl rfl un103 sz3 c101.1 c101.2 hAc101 fun a hk => ?_
      obtain ⟨_, rfl, e104⟩ := (o99.view).at_ 0 (4 : Int) c101.1 (by rw [lh100]; exact c101.2)
      refine sl (v := (.int .i64 ((u43.set (0 : Int).toNat (w64 ((u43.getD (0 : Int).toNat 0) + (w64 (5 * (Int.fdiv (u43.getD (4 : Int).toNat 0) (2 ^ 26))))))).getD (4 : Int).toNat 0))) rfl hk rfl rfl rfl ag3 ((e104 0 _ rfl).cell (hs.hasG (k := 1) rfl)) fun a hk => ?_
      refine sv (.int .i64 (IntKind.wrap .i64 ((BitVec.ofInt 64 ((u43.set (0 : Int).toNat (w64 ((u43.getD (0 : Int).toNat 0) + (w64 (5 * (Int.fdiv (u43.getD (4 : Int).toNat 0) (2 ^ 26))))))).getD (4 : Int).toNat 0) &&& BitVec.ofInt 64 67108863).toNat : Int))) hk rfl rfl rfl fun a hk => ?_
      rcases ite_some H with ⟨c105, H⟩ | ⟨_, H⟩
      rotate_left
      ·cases H
      obtain ⟨b106, q107, hAc105⟩ := (o99.view).some_ (4 : Int) c105.1 (by rw [lh100]; exact c105.2)
      refine sia rfl hk rfl rfl rfl rfl un103 sz3 c105.1 c105.2 hAc105 fun a hk => ?_
      refine so (j := 0) 1 0 (IntKind.wrap .i64 ((BitVec.ofInt 64 ((u43.set (0 : Int).toNat (w64 ((u43.getD (0 : Int).toNat 0) + (w64 (5 * (Int.fdiv (u43.getD (4 : Int).toNat 0) (2 ^ 26))))))).getD (4 : Int).toNat 0) &&& BitVec.ofInt 64 67108863).toNat : Int)) hs rfl o99 c105.1 (by rw [lh100]; exact c105.2) rfl hk rfl rfl rfl rfl rfl sz3 (by simp [Value.cells, Value.oneCell']) (Nat.le_of_ble_eq_true rfl) (fun _ _ h => ⟨by rw [h.1]; rfl, h.2⟩) fun k108 w a hk o109 hs => ?_
      have lh110 : ((u43.set (0 : Int).toNat (w64 ((u43.getD (0 : Int).toNat 0) + (w64 (5 * (Int.fdiv (u43.getD (4 : Int).toNat 0) (2 ^ 26))))))).set (4 : Int).toNat (IntKind.wrap .i64 ((BitVec.ofInt 64 ((u43.set (0 : Int).toNat (w64 ((u43.getD (0 : Int).toNat 0) + (w64 (5 * (Int.fdiv (u43.getD (4 : Int).toNat 0) (2 ^ 26))))))).getD (4 : Int).toNat 0) &&& BitVec.ofInt 64 67108863).toNat : Int))).length = 5 := by rw [List.length_set]; exact lh100
      show wpList _ _ _ [] _ _
      refine wpList_nil ?_
      refine hK33 _ _ ?_
      have hs := hs.pick [(1, 1), (2, 2)] rfl
      apply wp_region_lit
      refine sm _ rfl hk rfl rfl rfl fun a hk => ?_
      refine sv (.int .i64 (w64 (u17 + 1))) hk rfl rfl rfl fun a hk => ?_
      refine sa _ rfl hk rfl rfl rfl fun a hk => ?_
      show wpList _ _ _ [] _ _
      refine wpList_nil ?_
      obtain rfl := Option.some.inj H
      obtain ⟨m111, hmm111, h29⟩ := h29
      show ∃ n', n' < _ ∧ I26 n' _ _
      refine ⟨m111, hmm111, ?_⟩
      rw [hI26]
      exact ⟨((u43.set (0 : Int).toNat (w64 ((u43.getD (0 : Int).toNat 0) + (w64 (5 * (Int.fdiv (u43.getD (4 : Int).toNat 0) (2 ^ 26))))))).set (4 : Int).toNat (IntKind.wrap .i64 ((BitVec.ofInt 64 ((u43.set (0 : Int).toNat (w64 ((u43.getD (0 : Int).toNat 0) + (w64 (5 * (Int.fdiv (u43.getD (4 : Int).toNat 0) (2 ^ 26))))))).getD (4 : Int).toNat 0) &&& BitVec.ofInt 64 67108863).toNat : Int))), (w64 (u17 + 1)), _, h29, (hk.c 1 rfl (hk.c 2 rfl (hk.c 3 rfl hk.k))), (hs.pick [(1, 1), (2, 2)] rfl), o109, lh110⟩
    ·have hk := hk.lit 6 c32 rfl
     refine cnd_false hk rfl rfl ?_
     refine wp_exit ?_
     obtain rfl := Option.some.inj H
     show R25 _ _
     rw [hR25]
     exact ⟨u13, _, h29.symm, (hk.c 1 rfl (hk.c 2 rfl hk.k)), (hs.pick [(1, 1), (2, 2)] rfl), o15, lh16⟩
  ·intro a w hR0
   rw [hR25] at hR0
   obtain ⟨u18, k19, rfl, hk, hs, o20, lh21⟩ := hR0
   have H := HL24
   try dsimp only at H
   refine hK9 _ _ ?_
   apply wp_seq_k; intro K112 hK112
   apply wp_region_lit
   refine slna (k := 1) hs rfl o20 lh21 rfl hk rfl rfl rfl ag103 sz103 fun a hk => ?_
   refine sswa 2 u18 hs rfl o7 lh8 lh21 rfl rfl hk rfl rfl rfl rfl sz103 fun k113 w a hk o114 hs => ?_
   show wpList _ _ _ [] _ _
   refine wpList_nil ?_
   refine hK112 _ _ ?_
   have hs := hs.pick [(2, 2)] rfl
   refine wp_ret ?_
   obtain rfl := Option.some.inj H
   exact fin hk _ [(aggI .i64 u18)] rfl ⟨⟨_, rfl, run_loadA ag103 sz103 o114 lh21 hs (q := 2) rfl⟩, trivial⟩ ⟨rfl, lh21, (hs.pick [] rfl).dnil⟩

noncomputable def spec_l03Times.s1 (x0 : List Int) (x1 : List Int) (u28 : Int) (u48 : List Int) (u52 : Int) : Option (((List Int) × Int) ⊕ Ex ((List Int)) ((List Int))) :=
  (bif (decide (u52 < 5)) then (if 0 ≤ u28 ∧ u28 < (5 : Int) then (if 0 ≤ u52 ∧ u52 < (5 : Int) then (((bif (decide ((w64 (u28 + u52)) > 4)) then (some (w64 ((w64 ((x0.getD u28.toNat 0) * (x1.getD u52.toNat 0))) * 5))) else (some (w64 ((x0.getD u28.toNat 0) * (x1.getD u52.toNat 0))))) : Option (Int)).bind fun u82 => (if 0 ≤ (Int.tmod (w64 (u28 + u52)) 5) ∧ (Int.tmod (w64 (u28 + u52)) 5) < (5 : Int) then (if 0 ≤ (Int.tmod (w64 (u28 + u52)) 5) ∧ (Int.tmod (w64 (u28 + u52)) 5) < (5 : Int) then (some (.inl ((u48.set (Int.tmod (w64 (u28 + u52)) 5).toNat (w64 ((u48.getD (Int.tmod (w64 (u28 + u52)) 5).toNat 0) + u82))), (w64 (u52 + 1))))) else none) else none)) else none) else none) else (some (.inr (.out u48))))
noncomputable def spec_l03Times.s0 (x0 : List Int) (x1 : List Int) (u24 : List Int) (u28 : Int) : Option (((List Int) × Int) ⊕ Ex ((List Int)) ((List Int))) :=
  (bif (decide (u28 < 5)) then ((loopO (fun s => spec_l03Times.s1 x0 x1 u28 s.1 s.2) (u24, 0)).bind fun o => match o with | .out u53 => (some (.inl (u53, (w64 (u28 + 1))))) | .ret r => (some (.inr (.ret r)))) else (some (.inr (.out u24))))
noncomputable def spec_l03Times.f (x0 : List Int) (x1 : List Int) : Option ((List Int)) :=
  ((loopO (fun s => spec_l03Times.s0 x0 x1 s.1 s.2) ((List.replicate 5 (0 : Int)), 0)).bind fun o => match o with | .out u29 => ((spec_l03Carry.f u29).bind fun y101 => (some y101)) | .ret r => (some r))
set_option maxRecDepth 100000 in
set_option maxHeartbeats 0 in
theorem spec_l03Times_t (w0 : World) (x0 : List Int) (e0_ : x0.length = 5) (x1 : List Int) (e1_ : x1.length = 5) (r : (List Int)) (H : spec_l03Times.f x0 x1 = some r) :
    Calls Try.prog 103 #[aggI .i64 x0, aggI .i64 x1] w0 (Ret (fun v w => v = aggI .i64 r ∧ r.length = 5 ∧ Sat [] w0 w [] [])) := by
  have hs : Sat [] w0 w0 [] [] := Sat.init w0 [] [] (by simp) (by simp) List.nodup_nil (by simp [blks])
  unfold spec_l03Times.f at H
  refine enter Try.func103 rfl Try.ntmps103 rfl fun a hk => ?_
  apply wp_seq_k; intro K1 hK1
  apply wp_region_lit
  refine sbxa 1 hs rfl hk rfl rfl rfl e0_ rfl fun b2 k3 w a hk o4 hs => ?_
  refine sbxa 2 hs rfl hk rfl rfl rfl e1_ rfl fun b5 k6 w a hk o7 hs => ?_
  refine sala 3 ((Lay.int .i64)) (m := 5) (z := 0) (zc := [.int .i64 0]) hs rfl hk rfl rfl ze103 (by exact ⟨rfl, rfl⟩) rfl rfl rfl fun b8 k9 w a hk o10 hs => ?_
  have lh11 : (List.replicate 5 (0 : Int)).length = 5 := List.length_replicate
  show wpList _ _ _ [] _ _
  refine wpList_nil ?_
  refine hK1 _ _ ?_
  apply wp_seq_k; intro K12 hK12
  apply wp_region_lit
  refine sbd (pv := []) rfl hk rfl rfl rfl bd103_10 fun a hk => ?_
  have lh13 : (List.replicate 5 (0 : Int)).length = 5 := List.length_replicate
  refine sala 4 ((Lay.int .i64)) (m := 5) (z := 0) (zc := [.int .i64 0]) hs rfl hk rfl rfl ze103 (by exact ⟨rfl, rfl⟩) rfl rfl rfl fun b14 k15 w a hk o16 hs => ?_
  have lh17 : (List.replicate 5 (0 : Int)).length = 5 := List.length_replicate
  refine sswa 4 (List.replicate 5 (0 : Int)) hs rfl o16 lh17 lh13 rfl rfl hk rfl rfl rfl rfl sz103 fun k18 w a hk o19 hs => ?_
  show wpList _ _ _ [] _ _
  refine wpList_nil ?_
  refine hK12 _ _ ?_
  apply wp_seq_k; intro K20 hK20
  apply wp_seq_k; intro K21 hK21
  apply wp_region_lit
  refine sa _ rfl hk rfl rfl rfl fun a hk => ?_
  show wpList _ _ _ [] _ _
  refine wpList_nil ?_
  refine hK21 _ _ ?_
  obtain ⟨o33, h34, HL35⟩ := bind_some H
  clear H
  obtain ⟨R36, hR36⟩ : ∃ R : Act → World → Prop, R = fun a w => ∃ (u29 : List Int) (k30 : Chunk), o33 = .out u29 ∧ Kn [(4, (.pointer (some ⟨b8, 0, none⟩))), (5, (.pointer (some ⟨b14, 0, none⟩)))] 42 a ∧ Sat [] w0 w [] [(3, k9), (4, k30)] ∧ Own (Lay.int .i64) 103 (some ⟨b14, 0, none⟩) 5 u29 k30 ∧ u29.length = 5 := ⟨_, rfl⟩
  refine wp_cutq R36 ?_ ?_
  ·refine wp_block ?_
   obtain ⟨fu38, h34⟩ := loopO_some h34
   obtain ⟨I37, hI37⟩ : ∃ I : Nat → Act → World → Prop, I = fun fu a w => ∃ (u24 : List Int) (u28 : Int) (k25 : Chunk), loopN (fun s => spec_l03Times.s0 x0 x1 s.1 s.2) fu (u24, u28) = some o33 ∧ Kn [(2, (.pointer (some ⟨b2, 0, none⟩))), (3, (.pointer (some ⟨b5, 0, none⟩))), (4, (.pointer (some ⟨b8, 0, none⟩))), (5, (.pointer (some ⟨b14, 0, none⟩))), (6, (.int .i64 u28))] 42 a ∧ Sat [] w0 w [] [(1, k3), (2, k6), (3, k9), (4, k25)] ∧ Own (Lay.int .i64) 103 (some ⟨b14, 0, none⟩) 5 u24 k25 ∧ u24.length = 5 := ⟨_, rfl⟩
   refine wp_loop_ghost I37 fu38 ?_ ?_
   ·rw [hI37]
    exact ⟨(List.replicate 5 (0 : Int)), 0, _, h34, (hk.c 2 rfl (hk.c 3 rfl (hk.c 4 rfl (hk.c 5 rfl (hk.c 6 rfl hk.k))))), (hs.pick [(1, 1), (2, 2), (3, 3), (4, 4)] rfl), o19, lh13⟩
   ·clear h34 hk hs
    intro fu38 a w hI0
    rw [hI37] at hI0
    obtain ⟨u24, u28, k25, hi, hk, hs, o26, lh27⟩ := hI0
    obtain ⟨x39, H, h40⟩ := loop_round hi
    try dsimp only at H
    unfold spec_l03Times.s0 at H
    apply wp_seq_k; intro K41 hK41
    apply wp_seq_k; intro K42 hK42
    apply wp_region_lit
    refine sm _ rfl hk rfl rfl rfl fun a hk => ?_
    refine sv (.bool (decide (u28 < 5))) hk rfl rfl rfl fun a hk => ?_
    show wpList _ _ _ [] _ _
    refine wpList_nil ?_
    refine hK42 _ _ ?_
    have hs := hs.pick [(1, 1), (2, 2), (3, 3), (4, 4)] rfl
    rcases cond_some H with ⟨c43, H⟩ | ⟨c43, H⟩
    ·have hk := hk.lit 11 c43 rfl
     refine cnd_true hk rfl rfl ?_
     refine wp_skip ?_
     refine hK41 _ _ ?_
     apply wp_seq_k; intro K44 hK44
     refine wp_block ?_
     apply wp_seq_k; intro K45 hK45
     apply wp_region_lit
     refine sa _ rfl hk rfl rfl rfl fun a hk => ?_
     show wpList _ _ _ [] _ _
     refine wpList_nil ?_
     refine hK45 _ _ ?_
     obtain ⟨o57, h58, HL59⟩ := bind_some H
     clear H
     obtain ⟨R60, hR60⟩ : ∃ R : Act → World → Prop, R = fun a w => ∃ (u53 : List Int) (k54 : Chunk), o57 = .out u53 ∧ Kn [(2, (.pointer (some ⟨b2, 0, none⟩))), (3, (.pointer (some ⟨b5, 0, none⟩))), (4, (.pointer (some ⟨b8, 0, none⟩))), (5, (.pointer (some ⟨b14, 0, none⟩))), (6, (.int .i64 u28))] 42 a ∧ Sat [] w0 w [] [(1, k3), (2, k6), (3, k9), (4, k54)] ∧ Own (Lay.int .i64) 103 (some ⟨b14, 0, none⟩) 5 u53 k54 ∧ u53.length = 5 := ⟨_, rfl⟩
     refine wp_cutq R60 ?_ ?_
     ·refine wp_block ?_
      obtain ⟨fu62, h58⟩ := loopO_some h58
      obtain ⟨I61, hI61⟩ : ∃ I : Nat → Act → World → Prop, I = fun fu a w => ∃ (u48 : List Int) (u52 : Int) (k49 : Chunk), loopN (fun s => spec_l03Times.s1 x0 x1 u28 s.1 s.2) fu (u48, u52) = some o57 ∧ Kn [(2, (.pointer (some ⟨b2, 0, none⟩))), (3, (.pointer (some ⟨b5, 0, none⟩))), (4, (.pointer (some ⟨b8, 0, none⟩))), (5, (.pointer (some ⟨b14, 0, none⟩))), (6, (.int .i64 u28)), (7, (.int .i64 u52))] 42 a ∧ Sat [] w0 w [] [(1, k3), (2, k6), (3, k9), (4, k49)] ∧ Own (Lay.int .i64) 103 (some ⟨b14, 0, none⟩) 5 u48 k49 ∧ u48.length = 5 := ⟨_, rfl⟩
      refine wp_loop_ghost I61 fu62 ?_ ?_
      ·rw [hI61]
       exact ⟨u24, 0, _, h58, (hk.c 2 rfl (hk.c 3 rfl (hk.c 4 rfl (hk.c 5 rfl (hk.c 6 rfl (hk.c 7 rfl hk.k)))))), (hs.pick [(1, 1), (2, 2), (3, 3), (4, 4)] rfl), o26, lh27⟩
      ·clear h58 hk hs
       intro fu62 a w hI0
       rw [hI61] at hI0
       obtain ⟨u48, u52, k49, hi, hk, hs, o50, lh51⟩ := hI0
       obtain ⟨x63, H, h64⟩ := loop_round hi
       try dsimp only at H
       unfold spec_l03Times.s1 at H
       apply wp_seq_k; intro K65 hK65
       apply wp_seq_k; intro K66 hK66
       apply wp_region_lit
       refine sm _ rfl hk rfl rfl rfl fun a hk => ?_
       refine sv (.bool (decide (u52 < 5))) hk rfl rfl rfl fun a hk => ?_
       show wpList _ _ _ [] _ _
       refine wpList_nil ?_
       refine hK66 _ _ ?_
       rcases cond_some H with ⟨c67, H⟩ | ⟨c67, H⟩
       ·have hk := hk.lit 15 c67 rfl
        refine cnd_true hk rfl rfl ?_
        refine wp_skip ?_
        refine hK65 _ _ ?_
        have hs := hs.pick [(1, 1), (2, 2), (3, 3), (4, 4)] rfl
        apply wp_seq_k; intro K68 hK68
        refine wp_block ?_
        apply wp_seq_k; intro K69 hK69
        refine wp_region_tree (.q 0 (.q 1 (.q 2 (.alt 3 (.alt 4 (.alt 5 (.alt 6 (.last 7) .stop) .stop) .stop) .stop)))) mo (by kernel_rfl) (hs.pick [(1, 1), (2, 2), (3, 3), (4, 4)] rfl) fun _ => ?_
        have hs := hs.drew
        refine tqst (.int .i64 u28) hk rfl rfl rfl rfl (fun w hs => sm _ rfl hk rfl rfl rfl fun a hk => qe hk) fun a hk => ?_
        rcases ite_some H with ⟨c71, H⟩ | ⟨_, H⟩
        rotate_left
        ·cases H
        obtain ⟨b72, q73, hAc71⟩ := (o4.view).some_ u28 c71.1 (by rw [e0_]; exact c71.2)
        refine tqst (.pointer (some (padd (some ⟨b2, 0, none⟩) (u28.toNat * 1)))) hk rfl rfl rfl rfl (fun w hs => sia rfl hk rfl rfl rfl rfl un103 sz3 c71.1 c71.2 hAc71 fun a hk => qe hk) fun a hk => ?_
        obtain ⟨_, rfl, e74⟩ := (o4.view).at_ 0 u28 c71.1 (by rw [e0_]; exact c71.2)
        refine tqst (.int .i64 (x0.getD u28.toNat 0)) hk rfl rfl rfl rfl (fun w hs => sl (v := (.int .i64 (x0.getD u28.toNat 0))) rfl hk rfl rfl rfl ag3 ((e74 0 _ rfl).cell (hs.hasG (k := 1) rfl)) fun a hk => qe hk) fun a hk => ?_
        refine tsst hk rfl rfl (fun K_r70_3 hK_r70_3 w hF => ?_) wt_stop
        have hs := hs.f hF
        refine sm _ rfl hk rfl rfl rfl fun a hk => ?_
        refine se (hs.pick [(1, 1), (2, 2), (3, 3), (4, 4)] rfl) hk (hK_r70_3 _ _ ?_)
        refine tsst hk rfl rfl (fun K_r70_4 hK_r70_4 w hF => ?_) wt_stop
        have hs := hs.f hF
        rcases ite_some H with ⟨c75, H⟩ | ⟨_, H⟩
        rotate_left
        ·cases H
        obtain ⟨b76, q77, hAc75⟩ := (o7.view).some_ u52 c75.1 (by rw [e1_]; exact c75.2)
        refine sia rfl hk rfl rfl rfl rfl un103 sz3 c75.1 c75.2 hAc75 fun a hk => ?_
        refine se (hs.pick [(1, 1), (2, 2), (3, 3), (4, 4)] rfl) hk (hK_r70_4 _ _ ?_)
        refine tsst hk rfl rfl (fun K_r70_5 hK_r70_5 w hF => ?_) wt_stop
        have hs := hs.f hF
        obtain ⟨_, rfl, e78⟩ := (o7.view).at_ 0 u52 c75.1 (by rw [e1_]; exact c75.2)
        refine sl (v := (.int .i64 (x1.getD u52.toNat 0))) rfl hk rfl rfl rfl ag3 ((e78 0 _ rfl).cell (hs.hasG (k := 2) rfl)) fun a hk => ?_
        refine se (hs.pick [(1, 1), (2, 2), (3, 3), (4, 4)] rfl) hk (hK_r70_5 _ _ ?_)
        refine tsst hk rfl rfl (fun K_r70_6 hK_r70_6 w hF => ?_) wt_stop
        have hs := hs.f hF
        refine sv (.int .i64 (w64 ((x0.getD u28.toNat 0) * (x1.getD u52.toNat 0)))) hk rfl rfl rfl fun a hk => ?_
        refine se (hs.pick [(1, 1), (2, 2), (3, 3), (4, 4)] rfl) hk (hK_r70_6 _ _ ?_)
        refine tlst hk rfl rfl fun K_r70_7 hK_r70_7 w hF => ?_
        have hs := hs.f hF
        refine sa _ rfl hk rfl rfl rfl fun a hk => ?_
        refine se trivial hk (hK_r70_7 _ _ fun w hF => ?_)
        have hs := hs.f hF
        refine hK69 _ _ ?_
        apply wp_seq_k; intro K79 hK79
        apply wp_seq_k; intro K80 hK80
        apply wp_region_lit
        refine sm _ rfl hk rfl rfl rfl fun a hk => ?_
        refine sm _ rfl hk rfl rfl rfl fun a hk => ?_
        refine sv (.int .i64 (w64 (u28 + u52))) hk rfl rfl rfl fun a hk => ?_
        refine sv (.bool (decide ((w64 (u28 + u52)) > 4))) hk rfl rfl rfl fun a hk => ?_
        show wpList _ _ _ [] _ _
        refine wpList_nil ?_
        refine hK80 _ _ ?_
        obtain ⟨o83, h84, HL85⟩ := bind_some H
        clear H
        obtain ⟨R86, hR86⟩ : ∃ R : Act → World → Prop, R = fun a w => ∃ (u82 : Int), u82 = o83 ∧ Kn [(2, (.pointer (some ⟨b2, 0, none⟩))), (3, (.pointer (some ⟨b5, 0, none⟩))), (4, (.pointer (some ⟨b8, 0, none⟩))), (5, (.pointer (some ⟨b14, 0, none⟩))), (6, (.int .i64 u28)), (7, (.int .i64 u52)), (8, (.int .i64 u82))] 42 a ∧ Sat [] w0 w [] [(1, k3), (2, k6), (3, k9), (4, k49)] := ⟨_, rfl⟩
        refine wp_cutq R86 ?_ ?_
        ·have H := h84
         rcases cond_some H with ⟨c87, H⟩ | ⟨c87, H⟩
         ·have hk := hk.lit 28 c87 rfl
          refine cnd_true hk rfl rfl ?_
          apply wp_region_lit
          refine sm _ rfl hk rfl rfl rfl fun a hk => ?_
          refine sv (.int .i64 (w64 ((w64 ((x0.getD u28.toNat 0) * (x1.getD u52.toNat 0))) * 5))) hk rfl rfl rfl fun a hk => ?_
          refine sa _ rfl hk rfl rfl rfl fun a hk => ?_
          show wpList _ _ _ [] _ _
          refine wpList_nil ?_
          obtain rfl := Option.some.inj H
          show R86 _ _
          rw [hR86]
          exact ⟨(w64 ((w64 ((x0.getD u28.toNat 0) * (x1.getD u52.toNat 0))) * 5)), rfl, (hk.c 2 rfl (hk.c 3 rfl (hk.c 4 rfl (hk.c 5 rfl (hk.c 6 rfl (hk.c 7 rfl (hk.c 8 rfl hk.k))))))), (hs.pick [(1, 1), (2, 2), (3, 3), (4, 4)] rfl)⟩
         ·have hk := hk.lit 28 c87 rfl
          refine cnd_false hk rfl rfl ?_
          refine wp_skip ?_
          obtain rfl := Option.some.inj H
          show R86 _ _
          rw [hR86]
          exact ⟨(w64 ((x0.getD u28.toNat 0) * (x1.getD u52.toNat 0))), rfl, (hk.c 2 rfl (hk.c 3 rfl (hk.c 4 rfl (hk.c 5 rfl (hk.c 6 rfl (hk.c 7 rfl (hk.c 8 rfl hk.k))))))), (hs.pick [(1, 1), (2, 2), (3, 3), (4, 4)] rfl)⟩
        ·intro a w hR0
         rw [hR86] at hR0
         obtain ⟨u82, rfl, hk, hs⟩ := hR0
         have H := HL85
         try dsimp only at H
         refine hK79 _ _ ?_
         apply wp_region_lit
         refine sm _ rfl hk rfl rfl rfl fun a hk => ?_
         refine sm _ rfl hk rfl rfl rfl fun a hk => ?_
         refine sv (.int .i64 (w64 (u28 + u52))) hk rfl rfl rfl fun a hk => ?_
         refine sv (.int .i64 (Int.tmod (w64 (u28 + u52)) 5)) hk rfl rfl rfl fun a hk => ?_
         rcases ite_some H with ⟨c88, H⟩ | ⟨_, H⟩
         rotate_left
         ·cases H
         obtain ⟨b89, q90, hAc88⟩ := (o50.view).some_ (Int.tmod (w64 (u28 + u52)) 5) c88.1 (by rw [lh51]; exact c88.2)
         refine sia rfl hk rfl rfl rfl rfl un103 sz3 c88.1 c88.2 hAc88 fun a hk => ?_
         obtain ⟨_, rfl, e91⟩ := (o50.view).at_ 0 (Int.tmod (w64 (u28 + u52)) 5) c88.1 (by rw [lh51]; exact c88.2)
         refine sl (v := (.int .i64 (u48.getD (Int.tmod (w64 (u28 + u52)) 5).toNat 0))) rfl hk rfl rfl rfl ag3 ((e91 0 _ rfl).cell (hs.hasG (k := 4) rfl)) fun a hk => ?_
         refine sm _ rfl hk rfl rfl rfl fun a hk => ?_
         refine sv (.int .i64 (w64 ((u48.getD (Int.tmod (w64 (u28 + u52)) 5).toNat 0) + u82))) hk rfl rfl rfl fun a hk => ?_
         rcases ite_some H with ⟨c92, H⟩ | ⟨_, H⟩
         rotate_left
         ·cases H
         obtain ⟨b93, q94, hAc92⟩ := (o50.view).some_ (Int.tmod (w64 (u28 + u52)) 5) c92.1 (by rw [lh51]; exact c92.2)
         refine sia rfl hk rfl rfl rfl rfl un103 sz3 c92.1 c92.2 hAc92 fun a hk => ?_
         refine so (j := 0) 4 0 (w64 ((u48.getD (Int.tmod (w64 (u28 + u52)) 5).toNat 0) + u82)) hs rfl o50 c92.1 (by rw [lh51]; exact c92.2) rfl hk rfl rfl rfl rfl rfl sz3 (by simp [Value.cells, Value.oneCell']) (Nat.le_of_ble_eq_true rfl) (fun _ _ h => ⟨by rw [h.1]; rfl, h.2⟩) fun k95 w a hk o96 hs => ?_
         have lh97 : (u48.set (Int.tmod (w64 (u28 + u52)) 5).toNat (w64 ((u48.getD (Int.tmod (w64 (u28 + u52)) 5).toNat 0) + u82))).length = 5 := by rw [List.length_set]; exact lh51
         show wpList _ _ _ [] _ _
         refine wpList_nil ?_
         refine hK68 _ _ ?_
         have hs := hs.pick [(1, 1), (2, 2), (3, 3), (4, 4)] rfl
         apply wp_region_lit
         refine sm _ rfl hk rfl rfl rfl fun a hk => ?_
         refine sv (.int .i64 (w64 (u52 + 1))) hk rfl rfl rfl fun a hk => ?_
         refine sa _ rfl hk rfl rfl rfl fun a hk => ?_
         show wpList _ _ _ [] _ _
         refine wpList_nil ?_
         obtain rfl := Option.some.inj H
         obtain ⟨m98, hmm98, h64⟩ := h64
         show ∃ n', n' < _ ∧ I61 n' _ _
         refine ⟨m98, hmm98, ?_⟩
         rw [hI61]
         exact ⟨(u48.set (Int.tmod (w64 (u28 + u52)) 5).toNat (w64 ((u48.getD (Int.tmod (w64 (u28 + u52)) 5).toNat 0) + u82))), (w64 (u52 + 1)), _, h64, (hk.c 2 rfl (hk.c 3 rfl (hk.c 4 rfl (hk.c 5 rfl (hk.c 6 rfl (hk.c 7 rfl hk.k)))))), (hs.pick [(1, 1), (2, 2), (3, 3), (4, 4)] rfl), o96, lh97⟩
       ·have hk := hk.lit 15 c67 rfl
        refine cnd_false hk rfl rfl ?_
        refine wp_exit ?_
        obtain rfl := Option.some.inj H
        show R60 _ _
        rw [hR60]
        exact ⟨u48, _, h64.symm, (hk.c 2 rfl (hk.c 3 rfl (hk.c 4 rfl (hk.c 5 rfl (hk.c 6 rfl hk.k))))), (hs.pick [(1, 1), (2, 2), (3, 3), (4, 4)] rfl), o50, lh51⟩
     ·intro a w hR0
      rw [hR60] at hR0
      obtain ⟨u53, k54, rfl, hk, hs, o55, lh56⟩ := hR0
      have H := HL59
      try dsimp only at H
      refine hK44 _ _ ?_
      apply wp_region_lit
      refine sm _ rfl hk rfl rfl rfl fun a hk => ?_
      refine sv (.int .i64 (w64 (u28 + 1))) hk rfl rfl rfl fun a hk => ?_
      refine sa _ rfl hk rfl rfl rfl fun a hk => ?_
      show wpList _ _ _ [] _ _
      refine wpList_nil ?_
      obtain rfl := Option.some.inj H
      obtain ⟨m99, hmm99, h40⟩ := h40
      show ∃ n', n' < _ ∧ I37 n' _ _
      refine ⟨m99, hmm99, ?_⟩
      rw [hI37]
      exact ⟨u53, (w64 (u28 + 1)), _, h40, (hk.c 2 rfl (hk.c 3 rfl (hk.c 4 rfl (hk.c 5 rfl (hk.c 6 rfl hk.k))))), (hs.pick [(1, 1), (2, 2), (3, 3), (4, 4)] rfl), o55, lh56⟩
    ·have hk := hk.lit 11 c43 rfl
     refine cnd_false hk rfl rfl ?_
     refine wp_exit ?_
     obtain rfl := Option.some.inj H
     show R36 _ _
     rw [hR36]
     exact ⟨u24, _, h40.symm, (hk.c 4 rfl (hk.c 5 rfl hk.k)), (hs.pick [(3, 3), (4, 4)] rfl), o26, lh27⟩
  ·intro a w hR0
   rw [hR36] at hR0
   obtain ⟨u29, k30, rfl, hk, hs, o31, lh32⟩ := hR0
   have H := HL35
   try dsimp only at H
   refine hK20 _ _ ?_
   have hs := hs.pick [(3, 3), (4, 4)] rfl
   apply wp_seq_k; intro K100 hK100
   apply wp_region_lit
   refine slna (k := 4) hs rfl o31 lh32 rfl hk rfl rfl rfl ag103 sz103 fun a hk => ?_
   obtain ⟨y101, h102, H⟩ := bind_some H
   refine sc rfl en105 hk rfl rfl rfl (spec_l03Carry_t _ u29 lh32 _ h102) ?_
   rintro _ w ⟨rfl, lh103, hG⟩ a hk
   have hs := hs.call0 hG
   refine sswa 3 y101 hs rfl o10 lh11 lh103 rfl rfl hk rfl rfl rfl rfl sz103 fun k104 w a hk o105 hs => ?_
   show wpList _ _ _ [] _ _
   refine wpList_nil ?_
   refine hK100 _ _ ?_
   refine wp_ret ?_
   obtain rfl := Option.some.inj H
   exact fin hk _ [(aggI .i64 y101)] rfl ⟨⟨_, rfl, run_loadA ag103 sz103 o105 lh103 hs (q := 3) rfl⟩, trivial⟩ ⟨rfl, lh103, (hs.pick [] rfl).dnil⟩

noncomputable def spec_l03Less.s0  (u31 : List Int) (u35 : Int) : Option (((List Int) × Int) ⊕ Ex ((List Int)) ((List Int))) :=
  (bif (decide (u35 < 4)) then (if 0 ≤ (w64 (u35 + 1)) ∧ (w64 (u35 + 1)) < (5 : Int) then (if 0 ≤ u35 ∧ u35 < (5 : Int) then (if 0 ≤ (w64 (u35 + 1)) ∧ (w64 (u35 + 1)) < (5 : Int) then (if 0 ≤ u35 ∧ u35 < (5 : Int) then (if 0 ≤ u35 ∧ u35 < (5 : Int) then (some (.inl (((u31.set (w64 (u35 + 1)).toNat (w64 ((u31.getD (w64 (u35 + 1)).toNat 0) + (Int.fdiv (u31.getD u35.toNat 0) (2 ^ 26))))).set u35.toNat (IntKind.wrap .i64 ((BitVec.ofInt 64 ((u31.set (w64 (u35 + 1)).toNat (w64 ((u31.getD (w64 (u35 + 1)).toNat 0) + (Int.fdiv (u31.getD u35.toNat 0) (2 ^ 26))))).getD u35.toNat 0) &&& BitVec.ofInt 64 67108863).toNat : Int))), (w64 (u35 + 1))))) else none) else none) else none) else none) else none) else (some (.inr (.out u31))))
noncomputable def spec_l03Less.f (x0 : List Int) : Option ((List Int)) :=
  (if 0 ≤ (0 : Int) ∧ (0 : Int) < (5 : Int) then (if 0 ≤ (0 : Int) ∧ (0 : Int) < (5 : Int) then ((loopO (fun s => spec_l03Less.s0  s.1 s.2) ((x0.set (0 : Int).toNat (w64 ((x0.getD (0 : Int).toNat 0) + 5))), 0)).bind fun o => match o with | .out u36 => (if 0 ≤ (4 : Int) ∧ (4 : Int) < (5 : Int) then (bif ((Int.fdiv (u36.getD (4 : Int).toNat 0) (2 ^ 26)) == 0) then (some x0) else (if 0 ≤ (4 : Int) ∧ (4 : Int) < (5 : Int) then (if 0 ≤ (4 : Int) ∧ (4 : Int) < (5 : Int) then (some (u36.set (4 : Int).toNat (IntKind.wrap .i64 ((BitVec.ofInt 64 (u36.getD (4 : Int).toNat 0) &&& BitVec.ofInt 64 67108863).toNat : Int)))) else none) else none)) else none) | .ret r => (some r)) else none) else none)
set_option maxRecDepth 100000 in
set_option maxHeartbeats 0 in
theorem spec_l03Less_t (w0 : World) (x0 : List Int) (e0_ : x0.length = 5) (r : (List Int)) (H : spec_l03Less.f x0 = some r) :
    Calls Try.prog 104 #[aggI .i64 x0] w0 (Ret (fun v w => v = aggI .i64 r ∧ r.length = 5 ∧ Sat [] w0 w [] [])) := by
  have hs : Sat [] w0 w0 [] [] := Sat.init w0 [] [] (by simp) (by simp) List.nodup_nil (by simp [blks])
  unfold spec_l03Less.f at H
  refine enter Try.func104 rfl Try.ntmps104 rfl fun a hk => ?_
  apply wp_seq_k; intro K1 hK1
  apply wp_region_lit
  refine sbxa 1 hs rfl hk rfl rfl rfl e0_ rfl fun b2 k3 w a hk o4 hs => ?_
  refine sala 2 ((Lay.int .i64)) (m := 5) (z := 0) (zc := [.int .i64 0]) hs rfl hk rfl rfl ze103 (by exact ⟨rfl, rfl⟩) rfl rfl rfl fun b5 k6 w a hk o7 hs => ?_
  have lh8 : (List.replicate 5 (0 : Int)).length = 5 := List.length_replicate
  show wpList _ _ _ [] _ _
  refine wpList_nil ?_
  refine hK1 _ _ ?_
  apply wp_seq_k; intro K9 hK9
  apply wp_region_lit
  refine slna (k := 1) hs rfl o4 e0_ rfl hk rfl rfl rfl ag103 sz103 fun a hk => ?_
  refine sala 3 ((Lay.int .i64)) (m := 5) (z := 0) (zc := [.int .i64 0]) hs rfl hk rfl rfl ze103 (by exact ⟨rfl, rfl⟩) rfl rfl rfl fun b10 k11 w a hk o12 hs => ?_
  have lh13 : (List.replicate 5 (0 : Int)).length = 5 := List.length_replicate
  refine sswa 3 x0 hs rfl o12 lh13 e0_ rfl rfl hk rfl rfl rfl rfl sz103 fun k14 w a hk o15 hs => ?_
  show wpList _ _ _ [] _ _
  refine wpList_nil ?_
  refine hK9 _ _ ?_
  apply wp_seq_k; intro K16 hK16
  apply wp_region_lit
  rcases ite_some H with ⟨c17, H⟩ | ⟨_, H⟩
  rotate_left
  ·cases H
  obtain ⟨b18, q19, hAc17⟩ := (o15.view).some_ (0 : Int) c17.1 (by rw [e0_]; exact c17.2)
  refine sia rfl hk rfl rfl rfl rfl un103 sz3 c17.1 c17.2 hAc17 fun a hk => ?_
  obtain ⟨_, rfl, e20⟩ := (o15.view).at_ 0 (0 : Int) c17.1 (by rw [e0_]; exact c17.2)
  refine sl (v := (.int .i64 (x0.getD (0 : Int).toNat 0))) rfl hk rfl rfl rfl ag3 ((e20 0 _ rfl).cell (hs.hasG (k := 3) rfl)) fun a hk => ?_
  refine sv (.int .i64 (w64 ((x0.getD (0 : Int).toNat 0) + 5))) hk rfl rfl rfl fun a hk => ?_
  rcases ite_some H with ⟨c21, H⟩ | ⟨_, H⟩
  rotate_left
  ·cases H
  obtain ⟨b22, q23, hAc21⟩ := (o15.view).some_ (0 : Int) c21.1 (by rw [e0_]; exact c21.2)
  refine sia rfl hk rfl rfl rfl rfl un103 sz3 c21.1 c21.2 hAc21 fun a hk => ?_
  refine so (j := 0) 3 0 (w64 ((x0.getD (0 : Int).toNat 0) + 5)) hs rfl o15 c21.1 (by rw [e0_]; exact c21.2) rfl hk rfl rfl rfl rfl rfl sz3 (by simp [Value.cells, Value.oneCell']) (Nat.le_of_ble_eq_true rfl) (fun _ _ h => ⟨by rw [h.1]; rfl, h.2⟩) fun k24 w a hk o25 hs => ?_
  have lh26 : (x0.set (0 : Int).toNat (w64 ((x0.getD (0 : Int).toNat 0) + 5))).length = 5 := by rw [List.length_set]; exact e0_
  show wpList _ _ _ [] _ _
  refine wpList_nil ?_
  refine hK16 _ _ ?_
  apply wp_seq_k; intro K27 hK27
  apply wp_seq_k; intro K28 hK28
  apply wp_region_lit
  refine sa _ rfl hk rfl rfl rfl fun a hk => ?_
  show wpList _ _ _ [] _ _
  refine wpList_nil ?_
  refine hK28 _ _ ?_
  have hs := hs.pick [(1, 1), (2, 2), (3, 3)] rfl
  obtain ⟨o40, h41, HL42⟩ := bind_some H
  clear H
  obtain ⟨R43, hR43⟩ : ∃ R : Act → World → Prop, R = fun a w => ∃ (u36 : List Int) (k37 : Chunk), o40 = .out u36 ∧ Kn [(1, (.pointer (some ⟨b2, 0, none⟩))), (2, (.pointer (some ⟨b5, 0, none⟩))), (3, (.pointer (some ⟨b10, 0, none⟩)))] 39 a ∧ Sat [] w0 w [] [(1, k3), (2, k6), (3, k37)] ∧ Own (Lay.int .i64) 103 (some ⟨b10, 0, none⟩) 5 u36 k37 ∧ u36.length = 5 := ⟨_, rfl⟩
  refine wp_cutq R43 ?_ ?_
  ·refine wp_block ?_
   obtain ⟨fu45, h41⟩ := loopO_some h41
   obtain ⟨I44, hI44⟩ : ∃ I : Nat → Act → World → Prop, I = fun fu a w => ∃ (u31 : List Int) (u35 : Int) (k32 : Chunk), loopN (fun s => spec_l03Less.s0  s.1 s.2) fu (u31, u35) = some o40 ∧ Kn [(1, (.pointer (some ⟨b2, 0, none⟩))), (2, (.pointer (some ⟨b5, 0, none⟩))), (3, (.pointer (some ⟨b10, 0, none⟩))), (4, (.int .i64 u35))] 39 a ∧ Sat [] w0 w [] [(1, k3), (2, k6), (3, k32)] ∧ Own (Lay.int .i64) 103 (some ⟨b10, 0, none⟩) 5 u31 k32 ∧ u31.length = 5 := ⟨_, rfl⟩
   refine wp_loop_ghost I44 fu45 ?_ ?_
   ·rw [hI44]
    exact ⟨(x0.set (0 : Int).toNat (w64 ((x0.getD (0 : Int).toNat 0) + 5))), 0, _, h41, (hk.c 1 rfl (hk.c 2 rfl (hk.c 3 rfl (hk.c 4 rfl hk.k)))), (hs.pick [(1, 1), (2, 2), (3, 3)] rfl), o25, lh26⟩
   ·clear h41 hk hs
    intro fu45 a w hI0
    rw [hI44] at hI0
    obtain ⟨u31, u35, k32, hi, hk, hs, o33, lh34⟩ := hI0
    obtain ⟨x46, H, h47⟩ := loop_round hi
    try dsimp only at H
    unfold spec_l03Less.s0 at H
    apply wp_seq_k; intro K48 hK48
    apply wp_seq_k; intro K49 hK49
    apply wp_region_lit
    refine sm _ rfl hk rfl rfl rfl fun a hk => ?_
    refine sv (.bool (decide (u35 < 4))) hk rfl rfl rfl fun a hk => ?_
    show wpList _ _ _ [] _ _
    refine wpList_nil ?_
    refine hK49 _ _ ?_
    rcases cond_some H with ⟨c50, H⟩ | ⟨c50, H⟩
    ·have hk := hk.lit 11 c50 rfl
     refine cnd_true hk rfl rfl ?_
     refine wp_skip ?_
     refine hK48 _ _ ?_
     apply wp_seq_k; intro K51 hK51
     refine wp_block ?_
     apply wp_seq_k; intro K52 hK52
     refine wp_region_tree (.q 0 (.q 1 (.q 2 (.q 3 (.alt 4 (.alt 5 (.alt 6 (.alt 7 (.alt 8 (.alt 9 (.last 10) .stop) .stop) .stop) .stop) .stop) .stop))))) mo (by kernel_rfl) (hs.pick [(1, 1), (2, 2), (3, 3)] rfl) fun _ => ?_
     have hs := hs.drew
     refine tqst (.int .i64 u35) hk rfl rfl rfl rfl (fun w hs => sm _ rfl hk rfl rfl rfl fun a hk => qe hk) fun a hk => ?_
     refine tqst (.int .i64 (w64 (u35 + 1))) hk rfl rfl rfl rfl (fun w hs => sv (.int .i64 (w64 (u35 + 1))) hk rfl rfl rfl fun a hk => qe hk) fun a hk => ?_
     rcases ite_some H with ⟨c54, H⟩ | ⟨_, H⟩
     rotate_left
     ·cases H
     obtain ⟨b55, q56, hAc54⟩ := (o33.view).some_ (w64 (u35 + 1)) c54.1 (by rw [lh34]; exact c54.2)
     refine tqst (.pointer (some (padd (some ⟨b10, 0, none⟩) ((w64 (u35 + 1)).toNat * 1)))) hk rfl rfl rfl rfl (fun w hs => sia rfl hk rfl rfl rfl rfl un103 sz3 c54.1 c54.2 hAc54 fun a hk => qe hk) fun a hk => ?_
     obtain ⟨_, rfl, e57⟩ := (o33.view).at_ 0 (w64 (u35 + 1)) c54.1 (by rw [lh34]; exact c54.2)
     refine tqst (.int .i64 (u31.getD (w64 (u35 + 1)).toNat 0)) hk rfl rfl rfl rfl (fun w hs => sl (v := (.int .i64 (u31.getD (w64 (u35 + 1)).toNat 0))) rfl hk rfl rfl rfl ag3 ((e57 0 _ rfl).cell (hs.hasG (k := 3) rfl)) fun a hk => qe hk) fun a hk => ?_
     refine tsst hk rfl rfl (fun K_r53_4 hK_r53_4 w hF => ?_) wt_stop
     have hs := hs.f hF
     refine sm _ rfl hk rfl rfl rfl fun a hk => ?_
     refine se (hs.pick [(1, 1), (2, 2), (3, 3)] rfl) hk (hK_r53_4 _ _ ?_)
     refine tsst hk rfl rfl (fun K_r53_5 hK_r53_5 w hF => ?_) wt_stop
     have hs := hs.f hF
     rcases ite_some H with ⟨c58, H⟩ | ⟨_, H⟩
     rotate_left
     ·cases H
     obtain ⟨b59, q60, hAc58⟩ := (o33.view).some_ u35 c58.1 (by rw [lh34]; exact c58.2)
     refine sia rfl hk rfl rfl rfl rfl un103 sz3 c58.1 c58.2 hAc58 fun a hk => ?_
     refine se (hs.pick [(1, 1), (2, 2), (3, 3)] rfl) hk (hK_r53_5 _ _ ?_)
     refine tsst hk rfl rfl (fun K_r53_6 hK_r53_6 w hF => ?_) wt_stop
     have hs := hs.f hF
     obtain ⟨_, rfl, e61⟩ := (o33.view).at_ 0 u35 c58.1 (by rw [lh34]; exact c58.2)
     refine sl (v := (.int .i64 (u31.getD u35.toNat 0))) rfl hk rfl rfl rfl ag3 ((e61 0 _ rfl).cell (hs.hasG (k := 3) rfl)) fun a hk => ?_
     refine se (hs.pick [(1, 1), (2, 2), (3, 3)] rfl) hk (hK_r53_6 _ _ ?_)
     refine tsst hk rfl rfl (fun K_r53_7 hK_r53_7 w hF => ?_) wt_stop
     have hs := hs.f hF
     refine sv (.int .i64 (Int.fdiv (u31.getD u35.toNat 0) (2 ^ 26))) hk rfl rfl rfl fun a hk => ?_
     refine se (hs.pick [(1, 1), (2, 2), (3, 3)] rfl) hk (hK_r53_7 _ _ ?_)
     refine tsst hk rfl rfl (fun K_r53_8 hK_r53_8 w hF => ?_) wt_stop
     have hs := hs.f hF
     refine sv (.int .i64 (w64 ((u31.getD (w64 (u35 + 1)).toNat 0) + (Int.fdiv (u31.getD u35.toNat 0) (2 ^ 26))))) hk rfl rfl rfl fun a hk => ?_
     refine se (hs.pick [(1, 1), (2, 2), (3, 3)] rfl) hk (hK_r53_8 _ _ ?_)
     refine tsst hk rfl rfl (fun K_r53_9 hK_r53_9 w hF => ?_) wt_stop
     have hs := hs.f hF
     rcases ite_some H with ⟨c62, H⟩ | ⟨_, H⟩
     rotate_left
     ·cases H
     obtain ⟨b63, q64, hAc62⟩ := (o33.view).some_ (w64 (u35 + 1)) c62.1 (by rw [lh34]; exact c62.2)
     refine sia rfl hk rfl rfl rfl rfl un103 sz3 c62.1 c62.2 hAc62 fun a hk => ?_
     refine se (hs.pick [(1, 1), (2, 2), (3, 3)] rfl) hk (hK_r53_9 _ _ ?_)
     refine tlst hk rfl rfl fun K_r53_10 hK_r53_10 w hF => ?_
     have hs := hs.f hF
     refine so (j := 0) 3 0 (w64 ((u31.getD (w64 (u35 + 1)).toNat 0) + (Int.fdiv (u31.getD u35.toNat 0) (2 ^ 26)))) hs rfl o33 c62.1 (by rw [lh34]; exact c62.2) rfl hk rfl rfl rfl rfl rfl sz3 (by simp [Value.cells, Value.oneCell']) (Nat.le_of_ble_eq_true rfl) (fun _ _ h => ⟨by rw [h.1]; rfl, h.2⟩) fun k65 w a hk o66 hs => ?_
     have lh67 : (u31.set (w64 (u35 + 1)).toNat (w64 ((u31.getD (w64 (u35 + 1)).toNat 0) + (Int.fdiv (u31.getD u35.toNat 0) (2 ^ 26))))).length = 5 := by rw [List.length_set]; exact lh34
     refine se trivial hk (hK_r53_10 _ _ fun w hF => ?_)
     have hs := hs.f hF
     refine hK52 _ _ ?_
     apply wp_region_lit
     refine sm _ rfl hk rfl rfl rfl fun a hk => ?_
     rcases ite_some H with ⟨c68, H⟩ | ⟨_, H⟩
     rotate_left
     ·cases H
     obtain ⟨b69, q70, hAc68⟩ := (o66.view).some_ u35 c68.1 (by rw [lh67]; exact c68.2)
     refine sia rfl hk rfl rfl rfl rfl un103 sz3 c68.1 c68.2 hAc68 fun a hk => ?_
     obtain ⟨_, rfl, e71⟩ := (o66.view).at_ 0 u35 c68.1 (by rw [lh67]; exact c68.2)
     refine sl (v := (.int .i64 ((u31.set (w64 (u35 + 1)).toNat (w64 ((u31.getD (w64 (u35 + 1)).toNat 0) + (Int.fdiv (u31.getD u35.toNat 0) (2 ^ 26))))).getD u35.toNat 0))) rfl hk rfl rfl rfl ag3 ((e71 0 _ rfl).cell (hs.hasG (k := 3) rfl)) fun a hk => ?_
     refine sv (.int .i64 (IntKind.wrap .i64 ((BitVec.ofInt 64 ((u31.set (w64 (u35 + 1)).toNat (w64 ((u31.getD (w64 (u35 + 1)).toNat 0) + (Int.fdiv (u31.getD u35.toNat 0) (2 ^ 26))))).getD u35.toNat 0) &&& BitVec.ofInt 64 67108863).toNat : Int))) hk rfl rfl rfl fun a hk => ?_
     rcases ite_some H with ⟨c72, H⟩ | ⟨_, H⟩
     rotate_left
     ·cases H
     obtain ⟨b73, q74, hAc72⟩ := (o66.view).some_ u35 c72.1 (by rw [lh67]; exact c72.2)
     refine sia rfl hk rfl rfl rfl rfl un103 sz3 c72.1 c72.2 hAc72 fun a hk => ?_
     refine so (j := 0) 3 0 (IntKind.wrap .i64 ((BitVec.ofInt 64 ((u31.set (w64 (u35 + 1)).toNat (w64 ((u31.getD (w64 (u35 + 1)).toNat 0) + (Int.fdiv (u31.getD u35.toNat 0) (2 ^ 26))))).getD u35.toNat 0) &&& BitVec.ofInt 64 67108863).toNat : Int)) hs rfl o66 c72.1 (by rw [lh67]; exact c72.2) rfl hk rfl rfl rfl rfl rfl sz3 (by simp [Value.cells, Value.oneCell']) (Nat.le_of_ble_eq_true rfl) (fun _ _ h => ⟨by rw [h.1]; rfl, h.2⟩) fun k75 w a hk o76 hs => ?_
     have lh77 : ((u31.set (w64 (u35 + 1)).toNat (w64 ((u31.getD (w64 (u35 + 1)).toNat 0) + (Int.fdiv (u31.getD u35.toNat 0) (2 ^ 26))))).set u35.toNat (IntKind.wrap .i64 ((BitVec.ofInt 64 ((u31.set (w64 (u35 + 1)).toNat (w64 ((u31.getD (w64 (u35 + 1)).toNat 0) + (Int.fdiv (u31.getD u35.toNat 0) (2 ^ 26))))).getD u35.toNat 0) &&& BitVec.ofInt 64 67108863).toNat : Int))).length = 5 := by rw [List.length_set]; exact lh67
     show wpList _ _ _ [] _ _
     refine wpList_nil ?_
     refine hK51 _ _ ?_
     have hs := hs.pick [(1, 1), (2, 2), (3, 3)] rfl
     apply wp_region_lit
     refine sm _ rfl hk rfl rfl rfl fun a hk => ?_
     refine sv (.int .i64 (w64 (u35 + 1))) hk rfl rfl rfl fun a hk => ?_
     refine sa _ rfl hk rfl rfl rfl fun a hk => ?_
     show wpList _ _ _ [] _ _
     refine wpList_nil ?_
     obtain rfl := Option.some.inj H
     obtain ⟨m78, hmm78, h47⟩ := h47
     show ∃ n', n' < _ ∧ I44 n' _ _
     refine ⟨m78, hmm78, ?_⟩
     rw [hI44]
     exact ⟨((u31.set (w64 (u35 + 1)).toNat (w64 ((u31.getD (w64 (u35 + 1)).toNat 0) + (Int.fdiv (u31.getD u35.toNat 0) (2 ^ 26))))).set u35.toNat (IntKind.wrap .i64 ((BitVec.ofInt 64 ((u31.set (w64 (u35 + 1)).toNat (w64 ((u31.getD (w64 (u35 + 1)).toNat 0) + (Int.fdiv (u31.getD u35.toNat 0) (2 ^ 26))))).getD u35.toNat 0) &&& BitVec.ofInt 64 67108863).toNat : Int))), (w64 (u35 + 1)), _, h47, (hk.c 1 rfl (hk.c 2 rfl (hk.c 3 rfl (hk.c 4 rfl hk.k)))), (hs.pick [(1, 1), (2, 2), (3, 3)] rfl), o76, lh77⟩
    ·have hk := hk.lit 11 c50 rfl
     refine cnd_false hk rfl rfl ?_
     refine wp_exit ?_
     obtain rfl := Option.some.inj H
     show R43 _ _
     rw [hR43]
     exact ⟨u31, _, h47.symm, (hk.c 1 rfl (hk.c 2 rfl (hk.c 3 rfl hk.k))), (hs.pick [(1, 1), (2, 2), (3, 3)] rfl), o33, lh34⟩
  ·intro a w hR0
   rw [hR43] at hR0
   obtain ⟨u36, k37, rfl, hk, hs, o38, lh39⟩ := hR0
   have H := HL42
   try dsimp only at H
   refine hK27 _ _ ?_
   apply wp_seq_k; intro K79 hK79
   apply wp_seq_k; intro K80 hK80
   apply wp_region_lit
   rcases ite_some H with ⟨c81, H⟩ | ⟨_, H⟩
   rotate_left
   ·cases H
   obtain ⟨b82, q83, hAc81⟩ := (o38.view).some_ (4 : Int) c81.1 (by rw [lh39]; exact c81.2)
   refine sia rfl hk rfl rfl rfl rfl un103 sz3 c81.1 c81.2 hAc81 fun a hk => ?_
   obtain ⟨_, rfl, e84⟩ := (o38.view).at_ 0 (4 : Int) c81.1 (by rw [lh39]; exact c81.2)
   refine sl (v := (.int .i64 (u36.getD (4 : Int).toNat 0))) rfl hk rfl rfl rfl ag3 ((e84 0 _ rfl).cell (hs.hasG (k := 3) rfl)) fun a hk => ?_
   refine sv (.int .i64 (Int.fdiv (u36.getD (4 : Int).toNat 0) (2 ^ 26))) hk rfl rfl rfl fun a hk => ?_
   refine sv (.bool ((Int.fdiv (u36.getD (4 : Int).toNat 0) (2 ^ 26)) == 0)) hk rfl rfl rfl fun a hk => ?_
   show wpList _ _ _ [] _ _
   refine wpList_nil ?_
   refine hK80 _ _ ?_
   rcases cond_some H with ⟨c85, H⟩ | ⟨c85, H⟩
   ·have hk := hk.lit 32 c85 rfl
    refine cnd_true hk rfl rfl ?_
    apply wp_seq_k; intro K86 hK86
    apply wp_region_lit
    refine slna (k := 1) hs rfl o4 e0_ rfl hk rfl rfl rfl ag103 sz103 fun a hk => ?_
    refine sswa 2 x0 hs rfl o7 lh8 e0_ rfl rfl hk rfl rfl rfl rfl sz103 fun k87 w a hk o88 hs => ?_
    show wpList _ _ _ [] _ _
    refine wpList_nil ?_
    refine hK86 _ _ ?_
    refine wp_ret ?_
    obtain rfl := Option.some.inj H
    exact fin hk _ [(aggI .i64 x0)] rfl ⟨⟨_, rfl, run_loadA ag103 sz103 o88 e0_ hs (q := 2) rfl⟩, trivial⟩ ⟨rfl, e0_, (hs.pick [] rfl).dnil⟩
   ·have hk := hk.lit 32 c85 rfl
    refine cnd_false hk rfl rfl ?_
    refine wp_skip ?_
    refine hK79 _ _ ?_
    apply wp_seq_k; intro K89 hK89
    apply wp_region_lit
    rcases ite_some H with ⟨c90, H⟩ | ⟨_, H⟩
    rotate_left
    ·cases H
    obtain ⟨b91, q92, hAc90⟩ := (o38.view).some_ (4 : Int) c90.1 (by rw [lh39]; exact c90.2)
    refine sia rfl hk rfl rfl rfl rfl un103 sz3 c90.1 c90.2 hAc90 fun a hk => ?_
    obtain ⟨_, rfl, e93⟩ := (o38.view).at_ 0 (4 : Int) c90.1 (by rw [lh39]; exact c90.2)
    refine sl (v := (.int .i64 (u36.getD (4 : Int).toNat 0))) rfl hk rfl rfl rfl ag3 ((e93 0 _ rfl).cell (hs.hasG (k := 3) rfl)) fun a hk => ?_
    refine sv (.int .i64 (IntKind.wrap .i64 ((BitVec.ofInt 64 (u36.getD (4 : Int).toNat 0) &&& BitVec.ofInt 64 67108863).toNat : Int))) hk rfl rfl rfl fun a hk => ?_
    rcases ite_some H with ⟨c94, H⟩ | ⟨_, H⟩
    rotate_left
    ·cases H
    obtain ⟨b95, q96, hAc94⟩ := (o38.view).some_ (4 : Int) c94.1 (by rw [lh39]; exact c94.2)
    refine sia rfl hk rfl rfl rfl rfl un103 sz3 c94.1 c94.2 hAc94 fun a hk => ?_
    refine so (j := 0) 3 0 (IntKind.wrap .i64 ((BitVec.ofInt 64 (u36.getD (4 : Int).toNat 0) &&& BitVec.ofInt 64 67108863).toNat : Int)) hs rfl o38 c94.1 (by rw [lh39]; exact c94.2) rfl hk rfl rfl rfl rfl rfl sz3 (by simp [Value.cells, Value.oneCell']) (Nat.le_of_ble_eq_true rfl) (fun _ _ h => ⟨by rw [h.1]; rfl, h.2⟩) fun k97 w a hk o98 hs => ?_
    have lh99 : (u36.set (4 : Int).toNat (IntKind.wrap .i64 ((BitVec.ofInt 64 (u36.getD (4 : Int).toNat 0) &&& BitVec.ofInt 64 67108863).toNat : Int))).length = 5 := by rw [List.length_set]; exact lh39
    show wpList _ _ _ [] _ _
    refine wpList_nil ?_
    refine hK89 _ _ ?_
    have hs := hs.pick [(2, 2), (3, 3)] rfl
    apply wp_seq_k; intro K100 hK100
    apply wp_region_lit
    refine slna (k := 3) hs rfl o98 lh99 rfl hk rfl rfl rfl ag103 sz103 fun a hk => ?_
    refine sswa 2 (u36.set (4 : Int).toNat (IntKind.wrap .i64 ((BitVec.ofInt 64 (u36.getD (4 : Int).toNat 0) &&& BitVec.ofInt 64 67108863).toNat : Int))) hs rfl o7 lh8 lh99 rfl rfl hk rfl rfl rfl rfl sz103 fun k101 w a hk o102 hs => ?_
    show wpList _ _ _ [] _ _
    refine wpList_nil ?_
    refine hK100 _ _ ?_
    refine wp_ret ?_
    obtain rfl := Option.some.inj H
    exact fin hk _ [(aggI .i64 (u36.set (4 : Int).toNat (IntKind.wrap .i64 ((BitVec.ofInt 64 (u36.getD (4 : Int).toNat 0) &&& BitVec.ofInt 64 67108863).toNat : Int))))] rfl ⟨⟨_, rfl, run_loadA ag103 sz103 o102 lh99 hs (q := 2) rfl⟩, trivial⟩ ⟨rfl, lh99, (hs.pick [] rfl).dnil⟩

noncomputable def spec_l03Tag.s1  (u54 : ByteArray) : Option ((ByteArray) ⊕ Ex (ByteArray) (ByteArray)) :=
  (bif (decide ((u54.size : Int) < 17)) then (if u54.size + (⟨#[0]⟩ : ByteArray).size ≤ 1152921504606846976 then (some (.inl (u54 ++ (⟨#[0]⟩ : ByteArray)))) else none) else (some (.inr (.out u54))))
noncomputable def spec_l03Tag.s2 (y70 : (List Int)) (u83 : List Int) (u87 : Int) : Option (((List Int) × Int) ⊕ Ex ((List Int)) (ByteArray)) :=
  (bif (decide (u87 < 5)) then (if 0 ≤ u87 ∧ u87 < (5 : Int) then (if 0 ≤ u87 ∧ u87 < (5 : Int) then (if 0 ≤ u87 ∧ u87 < (5 : Int) then (some (.inl ((u83.set u87.toNat (w64 ((u83.getD u87.toNat 0) + (y70.getD u87.toNat 0)))), (w64 (u87 + 1))))) else none) else none) else none) else (some (.inr (.out u83))))
noncomputable def spec_l03Tag.s0 (x1 : ByteArray) (y6 : (List Int)) (u27 : List Int) (u31 : Int) : Option (((List Int) × Int) ⊕ Ex ((List Int)) (ByteArray)) :=
  (bif (decide (u31 < (x1.size : Int))) then (if 0 ≤ u31 ∧ u31 ≤ (if (w64 (u31 + 16)) < (x1.size : Int) then (w64 (u31 + 16)) else (x1.size : Int)) ∧ (if (w64 (u31 + 16)) < (x1.size : Int) then (w64 (u31 + 16)) else (x1.size : Int)) ≤ (x1.size : Int) then (if (x1.extract u31.toNat (if (w64 (u31 + 16)) < (x1.size : Int) then (w64 (u31 + 16)) else (x1.size : Int)).toNat).size + (⟨#[1]⟩ : ByteArray).size ≤ 1152921504606846976 then ((loopO (fun s => spec_l03Tag.s1  s) ((x1.extract u31.toNat (if (w64 (u31 + 16)) < (x1.size : Int) then (w64 (u31 + 16)) else (x1.size : Int)).toNat) ++ (⟨#[1]⟩ : ByteArray))).bind fun o => match o with | .out u55 => ((spec_l03Parts.f u55).bind fun y70 => ((loopO (fun s => spec_l03Tag.s2 y70 s.1 s.2) (u27, 0)).bind fun o => match o with | .out u88 => ((spec_l03Times.f u88 y6).bind fun y120 => (some (.inl (y120, (w64 (u31 + 16)))))) | .ret r => (some (.inr (.ret r))))) | .ret r => (some (.inr (.ret r)))) else none) else none) else (some (.inr (.out u27))))
noncomputable def spec_l03Tag.s3 (x0 : ByteArray) (y130 : (List Int)) (u150 : List Int) (u148 : Int) (u149 : Int) : Option (((List Int) × Int × Int) ⊕ Ex ((List Int)) (ByteArray)) :=
  (bif (decide (u149 < 16)) then (if 0 ≤ (IntKind.wrap .i64 (Int.tdiv (w64 (8 * u149)) 26)) ∧ (IntKind.wrap .i64 (Int.tdiv (w64 (8 * u149)) 26)) < (5 : Int) then (if 0 ≤ (Int.tmod (w64 (8 * u149)) 26) then (((bif (decide ((Int.tmod (w64 (8 * u149)) 26) > 18)) then (if 0 ≤ (w64 ((IntKind.wrap .i64 (Int.tdiv (w64 (8 * u149)) 26)) + 1)) ∧ (w64 ((IntKind.wrap .i64 (Int.tdiv (w64 (8 * u149)) 26)) + 1)) < (5 : Int) then (if 0 ≤ (w64 (26 - (Int.tmod (w64 (8 * u149)) 26))) then (some (w64 ((Int.fdiv (y130.getD (IntKind.wrap .i64 (Int.tdiv (w64 (8 * u149)) 26)).toNat 0) (2 ^ min (Int.tmod (w64 (8 * u149)) 26).toNat 64)) + (IntKind.wrap .i64 ((y130.getD (w64 ((IntKind.wrap .i64 (Int.tdiv (w64 (8 * u149)) 26)) + 1)).toNat 0) * 2 ^ min (w64 (26 - (Int.tmod (w64 (8 * u149)) 26))).toNat 64))))) else none) else none) else (some (Int.fdiv (y130.getD (IntKind.wrap .i64 (Int.tdiv (w64 (8 * u149)) 26)).toNat 0) (2 ^ min (Int.tmod (w64 (8 * u149)) 26).toNat 64)))) : Option (Int)).bind fun u182 => (if 0 ≤ (w64 (16 + u149)) ∧ (w64 (16 + u149)) < (x0.size : Int) then (if u150.length + ([(IntKind.wrap .u8 (w64 (u148 + (w64 ((IntKind.wrap .i64 ((BitVec.ofInt 64 u182 &&& BitVec.ofInt 64 255).toNat : Int)) + (IntKind.wrap .i64 (byteAt x0 (w64 (16 + u149)))))))))]).length ≤ 1073741824 then (some (.inl ((u150 ++ ([(IntKind.wrap .u8 (w64 (u148 + (w64 ((IntKind.wrap .i64 ((BitVec.ofInt 64 u182 &&& BitVec.ofInt 64 255).toNat : Int)) + (IntKind.wrap .i64 (byteAt x0 (w64 (16 + u149)))))))))])), (Int.fdiv (w64 (u148 + (w64 ((IntKind.wrap .i64 ((BitVec.ofInt 64 u182 &&& BitVec.ofInt 64 255).toNat : Int)) + (IntKind.wrap .i64 (byteAt x0 (w64 (16 + u149)))))))) (2 ^ 8)), (w64 (u149 + 1))))) else none) else none)) else none) else none) else (some (.inr (.out u150))))
noncomputable def spec_l03Tag.f (x0 : ByteArray) (x1 : ByteArray) : Option (ByteArray) :=
  ((spec_l03Clamp.f x0).bind fun y3 => (if y3.size + (⟨#[0]⟩ : ByteArray).size ≤ 1152921504606846976 then ((spec_l03Parts.f (y3 ++ (⟨#[0]⟩ : ByteArray))).bind fun y6 => ((loopO (fun s => spec_l03Tag.s0 x1 y6 s.1 s.2) ((List.replicate 5 (0 : Int)), 0)).bind fun o => match o with | .out u32 => ((spec_l03Carry.f u32).bind fun y127 => ((spec_l03Less.f y127).bind fun y130 => ((loopO (fun s => spec_l03Tag.s3 x0 y130 s.1 s.2.1 s.2.2) (([] : List Int), 0, 0)).bind fun o => match o with | .out u155 => (some (strOfNums u155)) | .ret r => (some r)))) | .ret r => (some r))) else none))
set_option maxRecDepth 100000 in
set_option maxHeartbeats 0 in
theorem spec_l03Tag_t (w0 : World) (x0 : ByteArray) (x1 : ByteArray) (r : ByteArray) (H : spec_l03Tag.f x0 x1 = some r) :
    Calls Try.prog 55 #[.string x0, .string x1] w0 (Ret (fun v w => v = .string r ∧ Sat [] w0 w [] [])) := by
  have hs : Sat [] w0 w0 [] [] := Sat.init w0 [] [] (by simp) (by simp) List.nodup_nil (by simp [blks])
  unfold spec_l03Tag.f at H
  refine enter Try.func55 rfl Try.ntmps55 rfl fun a hk => ?_
  apply wp_seq_k; intro K1 hK1
  apply wp_region_lit
  refine sa _ rfl hk rfl rfl rfl fun a hk => ?_
  show wpList _ _ _ [] _ _
  refine wpList_nil ?_
  refine hK1 _ _ ?_
  apply wp_seq_k; intro K2 hK2
  apply wp_region_lit
  refine sm _ rfl hk rfl rfl rfl fun a hk => ?_
  obtain ⟨y3, h4, H⟩ := bind_some H
  refine sc rfl en57 hk rfl rfl rfl (spec_l03Clamp_t _ x0 _ h4) ?_
  rintro _ w ⟨rfl, hG⟩ a hk
  have hs := hs.call0 hG
  rcases ite_some H with ⟨c5, H⟩ | ⟨_, H⟩
  rotate_left
  ·cases H
  refine ssa rfl hk rfl rfl rfl rfl c5 fun a hk => ?_
  obtain ⟨y6, h7, H⟩ := bind_some H
  refine sc rfl en102 hk rfl rfl rfl (spec_l03Parts_t _ (y3 ++ (⟨#[0]⟩ : ByteArray)) _ h7) ?_
  rintro _ w ⟨rfl, lh8, hG⟩ a hk
  have hs := hs.call0 hG
  refine sala 1 ((Lay.int .i64)) (m := 5) (z := 0) (zc := [.int .i64 0]) hs rfl hk rfl rfl ze103 (by exact ⟨rfl, rfl⟩) rfl rfl rfl fun b9 k10 w a hk o11 hs => ?_
  have lh12 : (List.replicate 5 (0 : Int)).length = 5 := List.length_replicate
  refine sswa 1 y6 hs rfl o11 lh12 lh8 rfl rfl hk rfl rfl rfl rfl sz103 fun k13 w a hk o14 hs => ?_
  show wpList _ _ _ [] _ _
  refine wpList_nil ?_
  refine hK2 _ _ ?_
  apply wp_seq_k; intro K15 hK15
  apply wp_region_lit
  refine sbd (pv := []) rfl hk rfl rfl rfl bd103_10 fun a hk => ?_
  have lh16 : (List.replicate 5 (0 : Int)).length = 5 := List.length_replicate
  refine sala 2 ((Lay.int .i64)) (m := 5) (z := 0) (zc := [.int .i64 0]) hs rfl hk rfl rfl ze103 (by exact ⟨rfl, rfl⟩) rfl rfl rfl fun b17 k18 w a hk o19 hs => ?_
  have lh20 : (List.replicate 5 (0 : Int)).length = 5 := List.length_replicate
  refine sswa 2 (List.replicate 5 (0 : Int)) hs rfl o19 lh20 lh16 rfl rfl hk rfl rfl rfl rfl sz103 fun k21 w a hk o22 hs => ?_
  show wpList _ _ _ [] _ _
  refine wpList_nil ?_
  refine hK15 _ _ ?_
  apply wp_seq_k; intro K23 hK23
  apply wp_seq_k; intro K24 hK24
  apply wp_region_lit
  refine sa _ rfl hk rfl rfl rfl fun a hk => ?_
  show wpList _ _ _ [] _ _
  refine wpList_nil ?_
  refine hK24 _ _ ?_
  have hs := hs.pick [(1, 1), (2, 2)] rfl
  obtain ⟨o36, h37, HL38⟩ := bind_some H
  clear H
  obtain ⟨R39, hR39⟩ : ∃ R : Act → World → Prop, R = fun a w => ∃ (u32 : List Int) (k33 : Chunk), o36 = .out u32 ∧ Kn [(0, (.string x0)), (6, (.pointer (some ⟨b17, 0, none⟩)))] 108 a ∧ Sat [] w0 w [] [(2, k33)] ∧ Own (Lay.int .i64) 103 (some ⟨b17, 0, none⟩) 5 u32 k33 ∧ u32.length = 5 := ⟨_, rfl⟩
  refine wp_cutq R39 ?_ ?_
  ·refine wp_block ?_
   obtain ⟨fu41, h37⟩ := loopO_some h37
   obtain ⟨I40, hI40⟩ : ∃ I : Nat → Act → World → Prop, I = fun fu a w => ∃ (u27 : List Int) (u31 : Int) (k28 : Chunk), loopN (fun s => spec_l03Tag.s0 x1 y6 s.1 s.2) fu (u27, u31) = some o36 ∧ Kn [(0, (.string x0)), (1, (.string x1)), (5, (.pointer (some ⟨b9, 0, none⟩))), (6, (.pointer (some ⟨b17, 0, none⟩))), (7, (.int .i64 u31))] 108 a ∧ Sat [] w0 w [] [(1, k13), (2, k28)] ∧ Own (Lay.int .i64) 103 (some ⟨b17, 0, none⟩) 5 u27 k28 ∧ u27.length = 5 := ⟨_, rfl⟩
   refine wp_loop_ghost I40 fu41 ?_ ?_
   ·rw [hI40]
    exact ⟨(List.replicate 5 (0 : Int)), 0, _, h37, (hk.c 0 rfl (hk.c 1 rfl (hk.c 5 rfl (hk.c 6 rfl (hk.c 7 rfl hk.k))))), (hs.pick [(1, 1), (2, 2)] rfl), o22, lh16⟩
   ·clear h37 hk hs
    intro fu41 a w hI0
    rw [hI40] at hI0
    obtain ⟨u27, u31, k28, hi, hk, hs, o29, lh30⟩ := hI0
    obtain ⟨x42, H, h43⟩ := loop_round hi
    try dsimp only at H
    unfold spec_l03Tag.s0 at H
    apply wp_seq_k; intro K44 hK44
    apply wp_seq_k; intro K45 hK45
    apply wp_region_lit
    refine sm _ rfl hk rfl rfl rfl fun a hk => ?_
    refine sm _ rfl hk rfl rfl rfl fun a hk => ?_
    refine sles rfl hk rfl rfl rfl un9 fun a hk => ?_
    refine sv (.bool (decide (u31 < (x1.size : Int)))) hk rfl rfl rfl fun a hk => ?_
    show wpList _ _ _ [] _ _
    refine wpList_nil ?_
    refine hK45 _ _ ?_
    rcases cond_some H with ⟨c46, H⟩ | ⟨c46, H⟩
    ·have hk := hk.lit 24 c46 rfl
     refine cnd_true hk rfl rfl ?_
     refine wp_skip ?_
     refine hK44 _ _ ?_
     apply wp_seq_k; intro K47 hK47
     refine wp_block ?_
     apply wp_seq_k; intro K48 hK48
     apply wp_region_lit
     refine sm _ rfl hk rfl rfl rfl fun a hk => ?_
     refine sm _ rfl hk rfl rfl rfl fun a hk => ?_
     refine sm _ rfl hk rfl rfl rfl fun a hk => ?_
     refine sles rfl hk rfl rfl rfl un9 fun a hk => ?_
     refine sm _ rfl hk rfl rfl rfl fun a hk => ?_
     refine sv (.int .i64 (w64 (u31 + 16))) hk rfl rfl rfl fun a hk => ?_
     refine smn rfl hk rfl rfl rfl rfl fun a hk => ?_
     rcases ite_some H with ⟨c49, H⟩ | ⟨_, H⟩
     rotate_left
     ·cases H
     refine ssl_lh rfl hk rfl rfl rfl rfl rfl un9 c49.1 c49.2.1 c49.2.2 fun a hk => ?_
     rcases ite_some H with ⟨c50, H⟩ | ⟨_, H⟩
     rotate_left
     ·cases H
     refine ssa rfl hk rfl rfl rfl rfl c50 fun a hk => ?_
     refine sa _ rfl hk rfl rfl rfl fun a hk => ?_
     show wpList _ _ _ [] _ _
     refine wpList_nil ?_
     refine hK48 _ _ ?_
     apply wp_seq_k; intro K51 hK51
     obtain ⟨o56, h57, HL58⟩ := bind_some H
     clear H
     obtain ⟨R59, hR59⟩ : ∃ R : Act → World → Prop, R = fun a w => ∃ (u55 : ByteArray), o56 = .out u55 ∧ Kn [(0, (.string x0)), (1, (.string x1)), (5, (.pointer (some ⟨b9, 0, none⟩))), (6, (.pointer (some ⟨b17, 0, none⟩))), (7, (.int .i64 u31)), (8, (.string u55))] 108 a ∧ Sat [] w0 w [] [(1, k13), (2, k28)] := ⟨_, rfl⟩
     refine wp_cutq R59 ?_ ?_
     ·refine wp_block ?_
      obtain ⟨fu61, h57⟩ := loopO_some h57
      obtain ⟨I60, hI60⟩ : ∃ I : Nat → Act → World → Prop, I = fun fu a w => ∃ (u54 : ByteArray), loopN (fun s => spec_l03Tag.s1  s) fu u54 = some o56 ∧ Kn [(0, (.string x0)), (1, (.string x1)), (5, (.pointer (some ⟨b9, 0, none⟩))), (6, (.pointer (some ⟨b17, 0, none⟩))), (7, (.int .i64 u31)), (8, (.string u54))] 108 a ∧ Sat [] w0 w [] [(1, k13), (2, k28)] := ⟨_, rfl⟩
      refine wp_loop_ghost I60 fu61 ?_ ?_
      ·rw [hI60]
       exact ⟨((x1.extract u31.toNat (if (w64 (u31 + 16)) < (x1.size : Int) then (w64 (u31 + 16)) else (x1.size : Int)).toNat) ++ (⟨#[1]⟩ : ByteArray)), h57, (hk.c 0 rfl (hk.c 1 rfl (hk.c 5 rfl (hk.c 6 rfl (hk.c 7 rfl (hk.c 8 rfl hk.k)))))), (hs.pick [(1, 1), (2, 2)] rfl)⟩
      ·clear h57 hk hs
       intro fu61 a w hI0
       rw [hI60] at hI0
       obtain ⟨u54, hi, hk, hs⟩ := hI0
       obtain ⟨x62, H, h63⟩ := loop_round hi
       try dsimp only at H
       unfold spec_l03Tag.s1 at H
       apply wp_seq_k; intro K64 hK64
       apply wp_seq_k; intro K65 hK65
       apply wp_region_lit
       refine sm _ rfl hk rfl rfl rfl fun a hk => ?_
       refine sles rfl hk rfl rfl rfl un9 fun a hk => ?_
       refine sv (.bool (decide ((u54.size : Int) < 17))) hk rfl rfl rfl fun a hk => ?_
       show wpList _ _ _ [] _ _
       refine wpList_nil ?_
       refine hK65 _ _ ?_
       have hs := hs.pick [(1, 1), (2, 2)] rfl
       rcases cond_some H with ⟨c66, H⟩ | ⟨c66, H⟩
       ·have hk := hk.lit 38 c66 rfl
        refine cnd_true hk rfl rfl ?_
        refine wp_skip ?_
        refine hK64 _ _ ?_
        refine wp_block ?_
        apply wp_region_lit
        refine sm _ rfl hk rfl rfl rfl fun a hk => ?_
        rcases ite_some H with ⟨c67, H⟩ | ⟨_, H⟩
        rotate_left
        ·cases H
        refine ssa rfl hk rfl rfl rfl rfl c67 fun a hk => ?_
        refine sa _ rfl hk rfl rfl rfl fun a hk => ?_
        show wpList _ _ _ [] _ _
        refine wpList_nil ?_
        obtain rfl := Option.some.inj H
        obtain ⟨m68, hmm68, h63⟩ := h63
        show ∃ n', n' < _ ∧ I60 n' _ _
        refine ⟨m68, hmm68, ?_⟩
        rw [hI60]
        exact ⟨(u54 ++ (⟨#[0]⟩ : ByteArray)), h63, (hk.c 0 rfl (hk.c 1 rfl (hk.c 5 rfl (hk.c 6 rfl (hk.c 7 rfl (hk.c 8 rfl hk.k)))))), (hs.pick [(1, 1), (2, 2)] rfl)⟩
       ·have hk := hk.lit 38 c66 rfl
        refine cnd_false hk rfl rfl ?_
        refine wp_exit ?_
        obtain rfl := Option.some.inj H
        show R59 _ _
        rw [hR59]
        exact ⟨u54, h63.symm, (hk.c 0 rfl (hk.c 1 rfl (hk.c 5 rfl (hk.c 6 rfl (hk.c 7 rfl (hk.c 8 rfl hk.k)))))), (hs.pick [(1, 1), (2, 2)] rfl)⟩
     ·intro a w hR0
      rw [hR59] at hR0
      obtain ⟨u55, rfl, hk, hs⟩ := hR0
      have H := HL58
      try dsimp only at H
      refine hK51 _ _ ?_
      have hs := hs.pick [(1, 1), (2, 2)] rfl
      apply wp_seq_k; intro K69 hK69
      apply wp_region_lit
      refine sm _ rfl hk rfl rfl rfl fun a hk => ?_
      obtain ⟨y70, h71, H⟩ := bind_some H
      refine sc rfl en102 hk rfl rfl rfl (spec_l03Parts_t _ u55 _ h71) ?_
      rintro _ w ⟨rfl, lh72, hG⟩ a hk
      have hs := hs.call0 hG
      refine sala 5 ((Lay.int .i64)) (m := 5) (z := 0) (zc := [.int .i64 0]) hs rfl hk rfl rfl ze103 (by exact ⟨rfl, rfl⟩) rfl rfl rfl fun b73 k74 w a hk o75 hs => ?_
      have lh76 : (List.replicate 5 (0 : Int)).length = 5 := List.length_replicate
      refine sswa 5 y70 hs rfl o75 lh76 lh72 rfl rfl hk rfl rfl rfl rfl sz103 fun k77 w a hk o78 hs => ?_
      show wpList _ _ _ [] _ _
      refine wpList_nil ?_
      refine hK69 _ _ ?_
      apply wp_seq_k; intro K79 hK79
      apply wp_seq_k; intro K80 hK80
      apply wp_region_lit
      refine sa _ rfl hk rfl rfl rfl fun a hk => ?_
      show wpList _ _ _ [] _ _
      refine wpList_nil ?_
      refine hK80 _ _ ?_
      obtain ⟨o92, h93, HL94⟩ := bind_some H
      clear H
      obtain ⟨R95, hR95⟩ : ∃ R : Act → World → Prop, R = fun a w => ∃ (u88 : List Int) (k89 : Chunk), o92 = .out u88 ∧ Kn [(0, (.string x0)), (1, (.string x1)), (5, (.pointer (some ⟨b9, 0, none⟩))), (6, (.pointer (some ⟨b17, 0, none⟩))), (7, (.int .i64 u31))] 108 a ∧ Sat [] w0 w [] [(1, k13), (2, k89)] ∧ Own (Lay.int .i64) 103 (some ⟨b17, 0, none⟩) 5 u88 k89 ∧ u88.length = 5 := ⟨_, rfl⟩
      refine wp_cutq R95 ?_ ?_
      ·refine wp_block ?_
       obtain ⟨fu97, h93⟩ := loopO_some h93
       obtain ⟨I96, hI96⟩ : ∃ I : Nat → Act → World → Prop, I = fun fu a w => ∃ (u83 : List Int) (u87 : Int) (k84 : Chunk), loopN (fun s => spec_l03Tag.s2 y70 s.1 s.2) fu (u83, u87) = some o92 ∧ Kn [(0, (.string x0)), (1, (.string x1)), (5, (.pointer (some ⟨b9, 0, none⟩))), (6, (.pointer (some ⟨b17, 0, none⟩))), (7, (.int .i64 u31)), (9, (.pointer (some ⟨b73, 0, none⟩))), (10, (.int .i64 u87))] 108 a ∧ Sat [] w0 w [] [(1, k13), (2, k84), (5, k77)] ∧ Own (Lay.int .i64) 103 (some ⟨b17, 0, none⟩) 5 u83 k84 ∧ u83.length = 5 := ⟨_, rfl⟩
       refine wp_loop_ghost I96 fu97 ?_ ?_
       ·rw [hI96]
        exact ⟨u27, 0, _, h93, (hk.c 0 rfl (hk.c 1 rfl (hk.c 5 rfl (hk.c 6 rfl (hk.c 7 rfl (hk.c 9 rfl (hk.c 10 rfl hk.k))))))), (hs.pick [(1, 1), (2, 2), (5, 5)] rfl), o29, lh30⟩
       ·clear h93 hk hs
        intro fu97 a w hI0
        rw [hI96] at hI0
        obtain ⟨u83, u87, k84, hi, hk, hs, o85, lh86⟩ := hI0
        obtain ⟨x98, H, h99⟩ := loop_round hi
        try dsimp only at H
        unfold spec_l03Tag.s2 at H
        apply wp_seq_k; intro K100 hK100
        apply wp_seq_k; intro K101 hK101
        apply wp_region_lit
        refine sm _ rfl hk rfl rfl rfl fun a hk => ?_
        refine sv (.bool (decide (u87 < 5))) hk rfl rfl rfl fun a hk => ?_
        show wpList _ _ _ [] _ _
        refine wpList_nil ?_
        refine hK101 _ _ ?_
        rcases cond_some H with ⟨c102, H⟩ | ⟨c102, H⟩
        ·have hk := hk.lit 44 c102 rfl
         refine cnd_true hk rfl rfl ?_
         refine wp_skip ?_
         refine hK100 _ _ ?_
         have hs := hs.pick [(1, 1), (2, 2), (5, 5)] rfl
         apply wp_seq_k; intro K103 hK103
         refine wp_block ?_
         refine wp_region_tree (.q 0 (.q 1 (.q 2 (.alt 3 (.alt 4 (.alt 5 (.alt 6 (.alt 7 (.last 8) .stop) .stop) .stop) .stop) .stop)))) mo (by kernel_rfl) (hs.pick [(1, 1), (2, 2), (5, 5)] rfl) fun _ => ?_
         have hs := hs.drew
         refine tqst (.int .i64 u87) hk rfl rfl rfl rfl (fun w hs => sm _ rfl hk rfl rfl rfl fun a hk => qe hk) fun a hk => ?_
         rcases ite_some H with ⟨c105, H⟩ | ⟨_, H⟩
         rotate_left
         ·cases H
         obtain ⟨b106, q107, hAc105⟩ := (o85.view).some_ u87 c105.1 (by rw [lh86]; exact c105.2)
         refine tqst (.pointer (some (padd (some ⟨b17, 0, none⟩) (u87.toNat * 1)))) hk rfl rfl rfl rfl (fun w hs => sia rfl hk rfl rfl rfl rfl un103 sz3 c105.1 c105.2 hAc105 fun a hk => qe hk) fun a hk => ?_
         obtain ⟨_, rfl, e108⟩ := (o85.view).at_ 0 u87 c105.1 (by rw [lh86]; exact c105.2)
         refine tqst (.int .i64 (u83.getD u87.toNat 0)) hk rfl rfl rfl rfl (fun w hs => sl (v := (.int .i64 (u83.getD u87.toNat 0))) rfl hk rfl rfl rfl ag3 ((e108 0 _ rfl).cell (hs.hasG (k := 2) rfl)) fun a hk => qe hk) fun a hk => ?_
         refine tsst hk rfl rfl (fun K_r104_3 hK_r104_3 w hF => ?_) wt_stop
         have hs := hs.f hF
         refine sm _ rfl hk rfl rfl rfl fun a hk => ?_
         refine se (hs.pick [(1, 1), (2, 2), (5, 5)] rfl) hk (hK_r104_3 _ _ ?_)
         refine tsst hk rfl rfl (fun K_r104_4 hK_r104_4 w hF => ?_) wt_stop
         have hs := hs.f hF
         rcases ite_some H with ⟨c109, H⟩ | ⟨_, H⟩
         rotate_left
         ·cases H
         obtain ⟨b110, q111, hAc109⟩ := (o78.view).some_ u87 c109.1 (by rw [lh72]; exact c109.2)
         refine sia rfl hk rfl rfl rfl rfl un103 sz3 c109.1 c109.2 hAc109 fun a hk => ?_
         refine se (hs.pick [(1, 1), (2, 2), (5, 5)] rfl) hk (hK_r104_4 _ _ ?_)
         refine tsst hk rfl rfl (fun K_r104_5 hK_r104_5 w hF => ?_) wt_stop
         have hs := hs.f hF
         obtain ⟨_, rfl, e112⟩ := (o78.view).at_ 0 u87 c109.1 (by rw [lh72]; exact c109.2)
         refine sl (v := (.int .i64 (y70.getD u87.toNat 0))) rfl hk rfl rfl rfl ag3 ((e112 0 _ rfl).cell (hs.hasG (k := 5) rfl)) fun a hk => ?_
         refine se (hs.pick [(1, 1), (2, 2), (5, 5)] rfl) hk (hK_r104_5 _ _ ?_)
         refine tsst hk rfl rfl (fun K_r104_6 hK_r104_6 w hF => ?_) wt_stop
         have hs := hs.f hF
         refine sv (.int .i64 (w64 ((u83.getD u87.toNat 0) + (y70.getD u87.toNat 0)))) hk rfl rfl rfl fun a hk => ?_
         refine se (hs.pick [(1, 1), (2, 2), (5, 5)] rfl) hk (hK_r104_6 _ _ ?_)
         refine tsst hk rfl rfl (fun K_r104_7 hK_r104_7 w hF => ?_) wt_stop
         have hs := hs.f hF
         rcases ite_some H with ⟨c113, H⟩ | ⟨_, H⟩
         rotate_left
         ·cases H
         obtain ⟨b114, q115, hAc113⟩ := (o85.view).some_ u87 c113.1 (by rw [lh86]; exact c113.2)
         refine sia rfl hk rfl rfl rfl rfl un103 sz3 c113.1 c113.2 hAc113 fun a hk => ?_
         refine se (hs.pick [(1, 1), (2, 2), (5, 5)] rfl) hk (hK_r104_7 _ _ ?_)
         refine tlst hk rfl rfl fun K_r104_8 hK_r104_8 w hF => ?_
         have hs := hs.f hF
         refine so (j := 0) 2 0 (w64 ((u83.getD u87.toNat 0) + (y70.getD u87.toNat 0))) hs rfl o85 c113.1 (by rw [lh86]; exact c113.2) rfl hk rfl rfl rfl rfl rfl sz3 (by simp [Value.cells, Value.oneCell']) (Nat.le_of_ble_eq_true rfl) (fun _ _ h => ⟨by rw [h.1]; rfl, h.2⟩) fun k116 w a hk o117 hs => ?_
         have lh118 : (u83.set u87.toNat (w64 ((u83.getD u87.toNat 0) + (y70.getD u87.toNat 0)))).length = 5 := by rw [List.length_set]; exact lh86
         refine se trivial hk (hK_r104_8 _ _ fun w hF => ?_)
         have hs := hs.f hF
         refine hK103 _ _ ?_
         apply wp_region_lit
         refine sm _ rfl hk rfl rfl rfl fun a hk => ?_
         refine sv (.int .i64 (w64 (u87 + 1))) hk rfl rfl rfl fun a hk => ?_
         refine sa _ rfl hk rfl rfl rfl fun a hk => ?_
         show wpList _ _ _ [] _ _
         refine wpList_nil ?_
         obtain rfl := Option.some.inj H
         obtain ⟨m119, hmm119, h99⟩ := h99
         show ∃ n', n' < _ ∧ I96 n' _ _
         refine ⟨m119, hmm119, ?_⟩
         rw [hI96]
         exact ⟨(u83.set u87.toNat (w64 ((u83.getD u87.toNat 0) + (y70.getD u87.toNat 0)))), (w64 (u87 + 1)), _, h99, (hk.c 0 rfl (hk.c 1 rfl (hk.c 5 rfl (hk.c 6 rfl (hk.c 7 rfl (hk.c 9 rfl (hk.c 10 rfl hk.k))))))), (hs.pick [(1, 1), (2, 2), (5, 5)] rfl), o117, lh118⟩
        ·have hk := hk.lit 44 c102 rfl
         refine cnd_false hk rfl rfl ?_
         refine wp_exit ?_
         obtain rfl := Option.some.inj H
         show R95 _ _
         rw [hR95]
         exact ⟨u83, _, h99.symm, (hk.c 0 rfl (hk.c 1 rfl (hk.c 5 rfl (hk.c 6 rfl (hk.c 7 rfl hk.k))))), (hs.pick [(1, 1), (2, 2)] rfl), o85, lh86⟩
      ·intro a w hR0
       rw [hR95] at hR0
       obtain ⟨u88, k89, rfl, hk, hs, o90, lh91⟩ := hR0
       have H := HL94
       try dsimp only at H
       refine hK79 _ _ ?_
       apply wp_region_lit
       refine slna (k := 2) hs rfl o90 lh91 rfl hk rfl rfl rfl ag103 sz103 fun a hk => ?_
       refine slna (k := 1) hs rfl o14 lh8 rfl hk rfl rfl rfl ag103 sz103 fun a hk => ?_
       obtain ⟨y120, h121, H⟩ := bind_some H
       refine sc rfl en103 hk rfl rfl rfl (spec_l03Times_t _ u88 lh91 y6 lh8 _ h121) ?_
       rintro _ w ⟨rfl, lh122, hG⟩ a hk
       have hs := hs.call0 hG
       refine sswa 2 y120 hs rfl o90 lh91 lh122 rfl rfl hk rfl rfl rfl rfl sz103 fun k123 w a hk o124 hs => ?_
       show wpList _ _ _ [] _ _
       refine wpList_nil ?_
       refine hK47 _ _ ?_
       have hs := hs.pick [(1, 1), (2, 2)] rfl
       apply wp_region_lit
       refine sm _ rfl hk rfl rfl rfl fun a hk => ?_
       refine sv (.int .i64 (w64 (u31 + 16))) hk rfl rfl rfl fun a hk => ?_
       refine sa _ rfl hk rfl rfl rfl fun a hk => ?_
       show wpList _ _ _ [] _ _
       refine wpList_nil ?_
       obtain rfl := Option.some.inj H
       obtain ⟨m125, hmm125, h43⟩ := h43
       show ∃ n', n' < _ ∧ I40 n' _ _
       refine ⟨m125, hmm125, ?_⟩
       rw [hI40]
       exact ⟨y120, (w64 (u31 + 16)), _, h43, (hk.c 0 rfl (hk.c 1 rfl (hk.c 5 rfl (hk.c 6 rfl (hk.c 7 rfl hk.k))))), (hs.pick [(1, 1), (2, 2)] rfl), o124, lh122⟩
    ·have hk := hk.lit 24 c46 rfl
     refine cnd_false hk rfl rfl ?_
     refine wp_exit ?_
     obtain rfl := Option.some.inj H
     show R39 _ _
     rw [hR39]
     exact ⟨u27, _, h43.symm, (hk.c 0 rfl (hk.c 6 rfl hk.k)), (hs.pick [(2, 2)] rfl), o29, lh30⟩
  ·intro a w hR0
   rw [hR39] at hR0
   obtain ⟨u32, k33, rfl, hk, hs, o34, lh35⟩ := hR0
   have H := HL38
   try dsimp only at H
   refine hK23 _ _ ?_
   apply wp_seq_k; intro K126 hK126
   apply wp_region_lit
   refine slna (k := 2) hs rfl o34 lh35 rfl hk rfl rfl rfl ag103 sz103 fun a hk => ?_
   obtain ⟨y127, h128, H⟩ := bind_some H
   refine sc rfl en105 hk rfl rfl rfl (spec_l03Carry_t _ u32 lh35 _ h128) ?_
   rintro _ w ⟨rfl, lh129, hG⟩ a hk
   have hs := hs.call0 hG
   obtain ⟨y130, h131, H⟩ := bind_some H
   refine sc rfl en104 hk rfl rfl rfl (spec_l03Less_t _ y127 lh129 _ h131) ?_
   rintro _ w ⟨rfl, lh132, hG⟩ a hk
   have hs := hs.call0 hG
   refine sswa 2 y130 hs rfl o34 lh35 lh132 rfl rfl hk rfl rfl rfl rfl sz103 fun k133 w a hk o134 hs => ?_
   show wpList _ _ _ [] _ _
   refine wpList_nil ?_
   refine hK126 _ _ ?_
   apply wp_seq_k; intro K135 hK135
   apply wp_region_lit
   refine sbs0 8 (Lay.int .u8) hs rfl hk rfl rfl un22 sz5 fun b136 k137 w a hk o138 hs => ?_
   refine sa _ rfl hk rfl rfl rfl fun a hk => ?_
   show wpList _ _ _ [] _ _
   refine wpList_nil ?_
   refine hK135 _ _ ?_
   apply wp_seq_k; intro K139 hK139
   apply wp_region_lit
   refine sa _ rfl hk rfl rfl rfl fun a hk => ?_
   show wpList _ _ _ [] _ _
   refine wpList_nil ?_
   refine hK139 _ _ ?_
   have hs := hs.pick [(2, 2), (8, 8)] rfl
   apply wp_seq_k; intro K140 hK140
   apply wp_seq_k; intro K141 hK141
   apply wp_region_lit
   refine sa _ rfl hk rfl rfl rfl fun a hk => ?_
   show wpList _ _ _ [] _ _
   refine wpList_nil ?_
   refine hK141 _ _ ?_
   obtain ⟨o160, h161, HL162⟩ := bind_some H
   clear H
   obtain ⟨R163, hR163⟩ : ∃ R : Act → World → Prop, R = fun a w => ∃ (u155 : List Int) (A158 : Option Addr) (p159 : Nat) (k156 : Chunk), o160 = .out u155 ∧ Kn [(11, (.slice A158 u155.length p159))] 108 a ∧ Sat [] w0 w [] [(8, k156)] ∧ Own (Lay.int .u8) 5 A158 p159 u155 k156 := ⟨_, rfl⟩
   refine wp_cutq R163 ?_ ?_
   ·refine wp_block ?_
    obtain ⟨fu165, h161⟩ := loopO_some h161
    obtain ⟨I164, hI164⟩ : ∃ I : Nat → Act → World → Prop, I = fun fu a w => ∃ (u150 : List Int) (u148 : Int) (u149 : Int) (A153 : Option Addr) (p154 : Nat) (k151 : Chunk), loopN (fun s => spec_l03Tag.s3 x0 y130 s.1 s.2.1 s.2.2) fu (u150, u148, u149) = some o160 ∧ Kn [(0, (.string x0)), (6, (.pointer (some ⟨b17, 0, none⟩))), (11, (.slice A153 u150.length p154)), (12, (.int .i64 u148)), (13, (.int .i64 u149))] 108 a ∧ Sat [] w0 w [] [(2, k133), (8, k151)] ∧ Own (Lay.int .u8) 5 A153 p154 u150 k151 := ⟨_, rfl⟩
    refine wp_loop_ghost I164 fu165 ?_ ?_
    ·rw [hI164]
     exact ⟨([] : List Int), 0, 0, (some ⟨b136, 0, none⟩), 0, _, h161, (hk.c 0 rfl (hk.c 6 rfl (hk.c 11 rfl (hk.c 12 rfl (hk.c 13 rfl hk.k))))), (hs.pick [(2, 2), (8, 8)] rfl), o138⟩
    ·clear h161 hk hs
     intro fu165 a w hI0
     rw [hI164] at hI0
     obtain ⟨u150, u148, u149, A153, p154, k151, hi, hk, hs, o152⟩ := hI0
     obtain ⟨x166, H, h167⟩ := loop_round hi
     try dsimp only at H
     unfold spec_l03Tag.s3 at H
     apply wp_seq_k; intro K168 hK168
     apply wp_seq_k; intro K169 hK169
     apply wp_region_lit
     refine sm _ rfl hk rfl rfl rfl fun a hk => ?_
     refine sv (.bool (decide (u149 < 16))) hk rfl rfl rfl fun a hk => ?_
     show wpList _ _ _ [] _ _
     refine wpList_nil ?_
     refine hK169 _ _ ?_
     rcases cond_some H with ⟨c170, H⟩ | ⟨c170, H⟩
     ·have hk := hk.lit 63 c170 rfl
      refine cnd_true hk rfl rfl ?_
      refine wp_skip ?_
      refine hK168 _ _ ?_
      apply wp_seq_k; intro K171 hK171
      refine wp_block ?_
      apply wp_seq_k; intro K172 hK172
      apply wp_region_lit
      refine sm _ rfl hk rfl rfl rfl fun a hk => ?_
      refine sv (.int .i64 (w64 (8 * u149))) hk rfl rfl rfl fun a hk => ?_
      refine sa _ rfl hk rfl rfl rfl fun a hk => ?_
      show wpList _ _ _ [] _ _
      refine wpList_nil ?_
      refine hK172 _ _ ?_
      have hs := hs.pick [(2, 2), (8, 8)] rfl
      apply wp_seq_k; intro K173 hK173
      apply wp_region_lit
      refine sm _ rfl hk rfl rfl rfl fun a hk => ?_
      refine sv (.int .i64 (IntKind.wrap .i64 (Int.tdiv (w64 (8 * u149)) 26))) hk rfl rfl rfl fun a hk => ?_
      rcases ite_some H with ⟨c174, H⟩ | ⟨_, H⟩
      rotate_left
      ·cases H
      obtain ⟨b175, q176, hAc174⟩ := (o134.view).some_ (IntKind.wrap .i64 (Int.tdiv (w64 (8 * u149)) 26)) c174.1 (by rw [lh132]; exact c174.2)
      refine sia rfl hk rfl rfl rfl rfl un103 sz3 c174.1 c174.2 hAc174 fun a hk => ?_
      obtain ⟨_, rfl, e177⟩ := (o134.view).at_ 0 (IntKind.wrap .i64 (Int.tdiv (w64 (8 * u149)) 26)) c174.1 (by rw [lh132]; exact c174.2)
      refine sl (v := (.int .i64 (y130.getD (IntKind.wrap .i64 (Int.tdiv (w64 (8 * u149)) 26)).toNat 0))) rfl hk rfl rfl rfl ag3 ((e177 0 _ rfl).cell (hs.hasG (k := 2) rfl)) fun a hk => ?_
      refine sm _ rfl hk rfl rfl rfl fun a hk => ?_
      refine sv (.int .i64 (Int.tmod (w64 (8 * u149)) 26)) hk rfl rfl rfl fun a hk => ?_
      rcases ite_some H with ⟨c178, H⟩ | ⟨_, H⟩
      rotate_left
      ·cases H
      refine ssr rfl hk rfl rfl rfl rfl c178 fun a hk => ?_
      refine sa _ rfl hk rfl rfl rfl fun a hk => ?_
      show wpList _ _ _ [] _ _
      refine wpList_nil ?_
      refine hK173 _ _ ?_
      apply wp_seq_k; intro K179 hK179
      apply wp_seq_k; intro K180 hK180
      apply wp_region_lit
      refine sm _ rfl hk rfl rfl rfl fun a hk => ?_
      refine sv (.int .i64 (Int.tmod (w64 (8 * u149)) 26)) hk rfl rfl rfl fun a hk => ?_
      refine sv (.bool (decide ((Int.tmod (w64 (8 * u149)) 26) > 18))) hk rfl rfl rfl fun a hk => ?_
      show wpList _ _ _ [] _ _
      refine wpList_nil ?_
      refine hK180 _ _ ?_
      obtain ⟨o183, h184, HL185⟩ := bind_some H
      clear H
      obtain ⟨R186, hR186⟩ : ∃ R : Act → World → Prop, R = fun a w => ∃ (u182 : Int), u182 = o183 ∧ Kn [(0, (.string x0)), (6, (.pointer (some ⟨b17, 0, none⟩))), (11, (.slice A153 u150.length p154)), (12, (.int .i64 u148)), (13, (.int .i64 u149)), (15, (.int .i64 u182))] 108 a ∧ Sat [] w0 w [] [(2, k133), (8, k151)] := ⟨_, rfl⟩
      refine wp_cutq R186 ?_ ?_
      ·have H := h184
       rcases cond_some H with ⟨c187, H⟩ | ⟨c187, H⟩
       ·have hk := hk.lit 77 c187 rfl
        refine cnd_true hk rfl rfl ?_
        apply wp_region_lit
        refine sm _ rfl hk rfl rfl rfl fun a hk => ?_
        refine sm _ rfl hk rfl rfl rfl fun a hk => ?_
        refine sv (.int .i64 (IntKind.wrap .i64 (Int.tdiv (w64 (8 * u149)) 26))) hk rfl rfl rfl fun a hk => ?_
        refine sv (.int .i64 (w64 ((IntKind.wrap .i64 (Int.tdiv (w64 (8 * u149)) 26)) + 1))) hk rfl rfl rfl fun a hk => ?_
        rcases ite_some H with ⟨c188, H⟩ | ⟨_, H⟩
        rotate_left
        ·cases H
        obtain ⟨b189, q190, hAc188⟩ := (o134.view).some_ (w64 ((IntKind.wrap .i64 (Int.tdiv (w64 (8 * u149)) 26)) + 1)) c188.1 (by rw [lh132]; exact c188.2)
        refine sia rfl hk rfl rfl rfl rfl un103 sz3 c188.1 c188.2 hAc188 fun a hk => ?_
        obtain ⟨_, rfl, e191⟩ := (o134.view).at_ 0 (w64 ((IntKind.wrap .i64 (Int.tdiv (w64 (8 * u149)) 26)) + 1)) c188.1 (by rw [lh132]; exact c188.2)
        refine sl (v := (.int .i64 (y130.getD (w64 ((IntKind.wrap .i64 (Int.tdiv (w64 (8 * u149)) 26)) + 1)).toNat 0))) rfl hk rfl rfl rfl ag3 ((e191 0 _ rfl).cell (hs.hasG (k := 2) rfl)) fun a hk => ?_
        refine sm _ rfl hk rfl rfl rfl fun a hk => ?_
        refine sv (.int .i64 (Int.tmod (w64 (8 * u149)) 26)) hk rfl rfl rfl fun a hk => ?_
        refine sv (.int .i64 (w64 (26 - (Int.tmod (w64 (8 * u149)) 26)))) hk rfl rfl rfl fun a hk => ?_
        rcases ite_some H with ⟨c192, H⟩ | ⟨_, H⟩
        rotate_left
        ·cases H
        refine ssh rfl hk rfl rfl rfl rfl c192 fun a hk => ?_
        refine sv (.int .i64 (w64 ((Int.fdiv (y130.getD (IntKind.wrap .i64 (Int.tdiv (w64 (8 * u149)) 26)).toNat 0) (2 ^ min (Int.tmod (w64 (8 * u149)) 26).toNat 64)) + (IntKind.wrap .i64 ((y130.getD (w64 ((IntKind.wrap .i64 (Int.tdiv (w64 (8 * u149)) 26)) + 1)).toNat 0) * 2 ^ min (w64 (26 - (Int.tmod (w64 (8 * u149)) 26))).toNat 64))))) hk rfl rfl rfl fun a hk => ?_
        refine sa _ rfl hk rfl rfl rfl fun a hk => ?_
        show wpList _ _ _ [] _ _
        refine wpList_nil ?_
        obtain rfl := Option.some.inj H
        show R186 _ _
        rw [hR186]
        exact ⟨(w64 ((Int.fdiv (y130.getD (IntKind.wrap .i64 (Int.tdiv (w64 (8 * u149)) 26)).toNat 0) (2 ^ min (Int.tmod (w64 (8 * u149)) 26).toNat 64)) + (IntKind.wrap .i64 ((y130.getD (w64 ((IntKind.wrap .i64 (Int.tdiv (w64 (8 * u149)) 26)) + 1)).toNat 0) * 2 ^ min (w64 (26 - (Int.tmod (w64 (8 * u149)) 26))).toNat 64)))), rfl, (hk.c 0 rfl (hk.c 6 rfl (hk.c 11 rfl (hk.c 12 rfl (hk.c 13 rfl (hk.c 15 rfl hk.k)))))), (hs.pick [(2, 2), (8, 8)] rfl)⟩
       ·have hk := hk.lit 77 c187 rfl
        refine cnd_false hk rfl rfl ?_
        refine wp_skip ?_
        obtain rfl := Option.some.inj H
        show R186 _ _
        rw [hR186]
        exact ⟨(Int.fdiv (y130.getD (IntKind.wrap .i64 (Int.tdiv (w64 (8 * u149)) 26)).toNat 0) (2 ^ min (Int.tmod (w64 (8 * u149)) 26).toNat 64)), rfl, (hk.c 0 rfl (hk.c 6 rfl (hk.c 11 rfl (hk.c 12 rfl (hk.c 13 rfl (hk.c 15 rfl hk.k)))))), (hs.pick [(2, 2), (8, 8)] rfl)⟩
      ·intro a w hR0
       rw [hR186] at hR0
       obtain ⟨u182, rfl, hk, hs⟩ := hR0
       have H := HL185
       try dsimp only at H
       refine hK179 _ _ ?_
       apply wp_seq_k; intro K193 hK193
       apply wp_region_lit
       refine sm _ rfl hk rfl rfl rfl fun a hk => ?_
       refine sm _ rfl hk rfl rfl rfl fun a hk => ?_
       refine sv (.int .i64 (IntKind.wrap .i64 ((BitVec.ofInt 64 u182 &&& BitVec.ofInt 64 255).toNat : Int))) hk rfl rfl rfl fun a hk => ?_
       refine sm _ rfl hk rfl rfl rfl fun a hk => ?_
       refine sm _ rfl hk rfl rfl rfl fun a hk => ?_
       refine sv (.int .i64 (w64 (16 + u149))) hk rfl rfl rfl fun a hk => ?_
       rcases ite_some H with ⟨c194, H⟩ | ⟨_, H⟩
       rotate_left
       ·cases H
       refine six rfl hk rfl rfl rfl rfl un9 c194.1 c194.2 fun a hk => ?_
       refine scn rfl hk rfl rfl rfl un3 un5 fun a hk => ?_
       refine sv (.int .i64 (w64 ((IntKind.wrap .i64 ((BitVec.ofInt 64 u182 &&& BitVec.ofInt 64 255).toNat : Int)) + (IntKind.wrap .i64 (byteAt x0 (w64 (16 + u149))))))) hk rfl rfl rfl fun a hk => ?_
       refine sv (.int .i64 (w64 (u148 + (w64 ((IntKind.wrap .i64 ((BitVec.ofInt 64 u182 &&& BitVec.ofInt 64 255).toNat : Int)) + (IntKind.wrap .i64 (byteAt x0 (w64 (16 + u149))))))))) hk rfl rfl rfl fun a hk => ?_
       refine sa _ rfl hk rfl rfl rfl fun a hk => ?_
       show wpList _ _ _ [] _ _
       refine wpList_nil ?_
       refine hK193 _ _ ?_
       have hs := hs.pick [(2, 2), (8, 8)] rfl
       apply wp_seq_k; intro K195 hK195
       apply wp_region_lit
       refine sm _ rfl hk rfl rfl rfl fun a hk => ?_
       refine sm _ rfl hk rfl rfl rfl fun a hk => ?_
       refine scn rfl hk rfl rfl rfl un5 un3 fun a hk => ?_
       refine sbs (L := (Lay.int .u8)) (pv := [(0, (.int .u8 (IntKind.wrap .u8 (w64 (u148 + (w64 ((IntKind.wrap .i64 ((BitVec.ofInt 64 u182 &&& BitVec.ofInt 64 255).toNat : Int)) + (IntKind.wrap .i64 (byteAt x0 (w64 (16 + u149)))))))))))]) (xs := [(IntKind.wrap .u8 (w64 (u148 + (w64 ((IntKind.wrap .i64 ((BitVec.ofInt 64 u182 &&& BitVec.ofInt 64 255).toNat : Int)) + (IntKind.wrap .i64 (byteAt x0 (w64 (16 + u149)))))))))]) (ess := [[.int .u8 (IntKind.wrap .u8 (w64 (u148 + (w64 ((IntKind.wrap .i64 ((BitVec.ofInt 64 u182 &&& BitVec.ofInt 64 255).toNat : Int)) + (IntKind.wrap .i64 (byteAt x0 (w64 (16 + u149)))))))))]]) 11 hs rfl hk rfl rfl rfl un22 (bs5_1 (IntKind.wrap .u8 (w64 (u148 + (w64 ((IntKind.wrap .i64 ((BitVec.ofInt 64 u182 &&& BitVec.ofInt 64 255).toNat : Int)) + (IntKind.wrap .i64 (byteAt x0 (w64 (16 + u149)))))))))) (AllOwn.cons0 ⟨rfl, rfl⟩ AllOwn.nil) rfl rfl rfl fun b196 k197 w a hk o198 hs => ?_
       rcases ite_some H with ⟨c199, H⟩ | ⟨_, H⟩
       rotate_left
       ·cases H
       refine sap 8 (xs := u150) (ys := [(IntKind.wrap .u8 (w64 (u148 + (w64 ((IntKind.wrap .i64 ((BitVec.ofInt 64 u182 &&& BitVec.ofInt 64 255).toNat : Int)) + (IntKind.wrap .i64 (byteAt x0 (w64 (16 + u149)))))))))]) (flat_flat : ((Lay.int .u8)).Flat) hs rfl o152 o198.view (hs.hasG (k := 11) rfl) rfl hk rfl rfl rfl rfl rfl rfl un22 mk5 rfl rfl rfl c199 fun A200 p201 k202 w a hk o203 hs => ?_
       refine sa _ rfl hk rfl rfl rfl fun a hk => ?_
       show wpList _ _ _ [] _ _
       refine wpList_nil ?_
       refine hK195 _ _ ?_
       apply wp_region_lit
       refine sm _ rfl hk rfl rfl rfl fun a hk => ?_
       refine sv (.int .i64 (Int.fdiv (w64 (u148 + (w64 ((IntKind.wrap .i64 ((BitVec.ofInt 64 u182 &&& BitVec.ofInt 64 255).toNat : Int)) + (IntKind.wrap .i64 (byteAt x0 (w64 (16 + u149)))))))) (2 ^ 8))) hk rfl rfl rfl fun a hk => ?_
       refine sa _ rfl hk rfl rfl rfl fun a hk => ?_
       show wpList _ _ _ [] _ _
       refine wpList_nil ?_
       refine hK171 _ _ ?_
       apply wp_region_lit
       refine sm _ rfl hk rfl rfl rfl fun a hk => ?_
       refine sv (.int .i64 (w64 (u149 + 1))) hk rfl rfl rfl fun a hk => ?_
       refine sa _ rfl hk rfl rfl rfl fun a hk => ?_
       show wpList _ _ _ [] _ _
       refine wpList_nil ?_
       obtain rfl := Option.some.inj H
       obtain ⟨m204, hmm204, h167⟩ := h167
       show ∃ n', n' < _ ∧ I164 n' _ _
       refine ⟨m204, hmm204, ?_⟩
       rw [hI164]
       exact ⟨(u150 ++ ([(IntKind.wrap .u8 (w64 (u148 + (w64 ((IntKind.wrap .i64 ((BitVec.ofInt 64 u182 &&& BitVec.ofInt 64 255).toNat : Int)) + (IntKind.wrap .i64 (byteAt x0 (w64 (16 + u149)))))))))])), (Int.fdiv (w64 (u148 + (w64 ((IntKind.wrap .i64 ((BitVec.ofInt 64 u182 &&& BitVec.ofInt 64 255).toNat : Int)) + (IntKind.wrap .i64 (byteAt x0 (w64 (16 + u149)))))))) (2 ^ 8)), (w64 (u149 + 1)), A200, p201, _, h167, (hk.c 0 rfl (hk.c 6 rfl (hk.c 11 rfl (hk.c 12 rfl (hk.c 13 rfl hk.k))))), (hs.pick [(2, 2), (8, 8)] rfl), o203⟩
     ·have hk := hk.lit 63 c170 rfl
      refine cnd_false hk rfl rfl ?_
      refine wp_exit ?_
      obtain rfl := Option.some.inj H
      show R163 _ _
      rw [hR163]
      exact ⟨u150, A153, p154, _, h167.symm, (hk.c 11 rfl hk.k), (hs.pick [(8, 8)] rfl), o152⟩
   ·intro a w hR0
    rw [hR163] at hR0
    obtain ⟨u155, A158, p159, k156, rfl, hk, hs, o157⟩ := hR0
    have H := HL162
    try dsimp only at H
    refine hK140 _ _ ?_
    apply wp_seq_k; intro K205 hK205
    apply wp_region_lit
    refine sm _ rfl hk rfl rfl rfl fun a hk => ?_
    refine sbt (xs := u155) rfl hk rfl rfl rfl rfl un22 un5 un9 o157.view (hs.hasG (k := 8) rfl) fun a hk => ?_
    refine sa _ rfl hk rfl rfl rfl fun a hk => ?_
    show wpList _ _ _ [] _ _
    refine wpList_nil ?_
    refine hK205 _ _ ?_
    refine wp_ret ?_
    obtain rfl := Option.some.inj H
    exact fin hk _ [(.string (strOfNums u155))] rfl ⟨rfl, trivial⟩ ⟨rfl, (hs.pick [] rfl).dnil⟩

noncomputable def spec_l04Pad.s0  (u5 : ByteArray) : Option ((ByteArray) ⊕ Ex (ByteArray) (ByteArray)) :=
  (bif ((Int.tmod (u5.size : Int) 16) != 0) then (if u5.size + (⟨#[0]⟩ : ByteArray).size ≤ 1152921504606846976 then (some (.inl (u5 ++ (⟨#[0]⟩ : ByteArray)))) else none) else (some (.inr (.out u5))))
noncomputable def spec_l04Pad.f (x0 : ByteArray) : Option (ByteArray) :=
  ((loopO (fun s => spec_l04Pad.s0  s) x0).bind fun o => match o with | .out u6 => (some u6) | .ret r => (some r))
set_option maxRecDepth 100000 in
set_option maxHeartbeats 0 in
theorem spec_l04Pad_t (w0 : World) (x0 : ByteArray) (r : ByteArray) (H : spec_l04Pad.f x0 = some r) :
    Calls Try.prog 135 #[.string x0] w0 (Ret (fun v w => v = .string r ∧ Sat [] w0 w [] [])) := by
  have hs : Sat [] w0 w0 [] [] := Sat.init w0 [] [] (by simp) (by simp) List.nodup_nil (by simp [blks])
  unfold spec_l04Pad.f at H
  refine enter Try.func135 rfl Try.ntmps135 rfl fun a hk => ?_
  apply wp_seq_k; intro K1 hK1
  apply wp_region_lit
  refine sa _ rfl hk rfl rfl rfl fun a hk => ?_
  show wpList _ _ _ [] _ _
  refine wpList_nil ?_
  refine hK1 _ _ ?_
  apply wp_seq_k; intro K2 hK2
  obtain ⟨o7, h8, HL9⟩ := bind_some H
  clear H
  obtain ⟨R10, hR10⟩ : ∃ R : Act → World → Prop, R = fun a w => ∃ (u6 : ByteArray), o7 = .out u6 ∧ Kn [(0, (.string u6))] 10 a ∧ Sat [] w0 w [] [] := ⟨_, rfl⟩
  refine wp_cutq R10 ?_ ?_
  ·refine wp_block ?_
   obtain ⟨fu12, h8⟩ := loopO_some h8
   obtain ⟨I11, hI11⟩ : ∃ I : Nat → Act → World → Prop, I = fun fu a w => ∃ (u5 : ByteArray), loopN (fun s => spec_l04Pad.s0  s) fu u5 = some o7 ∧ Kn [(0, (.string u5))] 10 a ∧ Sat [] w0 w [] [] := ⟨_, rfl⟩
   refine wp_loop_ghost I11 fu12 ?_ ?_
   ·rw [hI11]
    exact ⟨x0, h8, (hk.c 0 rfl hk.k), (hs.pick [] rfl)⟩
   ·clear h8 hk hs
    intro fu12 a w hI0
    rw [hI11] at hI0
    obtain ⟨u5, hi, hk, hs⟩ := hI0
    obtain ⟨x13, H, h14⟩ := loop_round hi
    try dsimp only at H
    unfold spec_l04Pad.s0 at H
    apply wp_seq_k; intro K15 hK15
    apply wp_seq_k; intro K16 hK16
    apply wp_region_lit
    refine sm _ rfl hk rfl rfl rfl fun a hk => ?_
    refine sles rfl hk rfl rfl rfl un9 fun a hk => ?_
    refine sv (.int .i64 (Int.tmod (u5.size : Int) 16)) hk rfl rfl rfl fun a hk => ?_
    refine sv (.bool ((Int.tmod (u5.size : Int) 16) != 0)) hk rfl rfl rfl fun a hk => ?_
    show wpList _ _ _ [] _ _
    refine wpList_nil ?_
    refine hK16 _ _ ?_
    rcases cond_some H with ⟨c17, H⟩ | ⟨c17, H⟩
    ·have hk := hk.lit 6 c17 rfl
     refine cnd_true hk rfl rfl ?_
     refine wp_skip ?_
     refine hK15 _ _ ?_
     refine wp_block ?_
     apply wp_region_lit
     refine sm _ rfl hk rfl rfl rfl fun a hk => ?_
     rcases ite_some H with ⟨c18, H⟩ | ⟨_, H⟩
     rotate_left
     ·cases H
     refine ssa rfl hk rfl rfl rfl rfl c18 fun a hk => ?_
     refine sa _ rfl hk rfl rfl rfl fun a hk => ?_
     show wpList _ _ _ [] _ _
     refine wpList_nil ?_
     obtain rfl := Option.some.inj H
     obtain ⟨m19, hmm19, h14⟩ := h14
     show ∃ n', n' < _ ∧ I11 n' _ _
     refine ⟨m19, hmm19, ?_⟩
     rw [hI11]
     exact ⟨(u5 ++ (⟨#[0]⟩ : ByteArray)), h14, (hk.c 0 rfl hk.k), (hs.pick [] rfl)⟩
    ·have hk := hk.lit 6 c17 rfl
     refine cnd_false hk rfl rfl ?_
     refine wp_exit ?_
     obtain rfl := Option.some.inj H
     show R10 _ _
     rw [hR10]
     exact ⟨u5, h14.symm, (hk.c 0 rfl hk.k), (hs.pick [] rfl)⟩
  ·intro a w hR0
   rw [hR10] at hR0
   obtain ⟨u6, rfl, hk, hs⟩ := hR0
   have H := HL9
   try dsimp only at H
   refine hK2 _ _ ?_
   apply wp_seq_k; intro K20 hK20
   apply wp_region_lit
   refine sm _ rfl hk rfl rfl rfl fun a hk => ?_
   refine sa _ rfl hk rfl rfl rfl fun a hk => ?_
   show wpList _ _ _ [] _ _
   refine wpList_nil ?_
   refine hK20 _ _ ?_
   refine wp_ret ?_
   obtain rfl := Option.some.inj H
   exact fin hk _ [(.string u6)] rfl ⟨rfl, trivial⟩ ⟨rfl, (hs.pick [] rfl).dnil⟩

noncomputable def spec_l04Eight.s0 (x0 : Int) (u15 : List Int) (u14 : Int) : Option (((List Int) × Int) ⊕ Ex ((List Int)) (ByteArray)) :=
  (bif (decide (u14 < 8)) then (if 0 ≤ (w64 (8 * u14)) then (if u15.length + ([(IntKind.wrap .u8 (Int.fdiv x0 (2 ^ min (w64 (8 * u14)).toNat 64)))]).length ≤ 1073741824 then (some (.inl ((u15 ++ ([(IntKind.wrap .u8 (Int.fdiv x0 (2 ^ min (w64 (8 * u14)).toNat 64)))])), (w64 (u14 + 1))))) else none) else none) else (some (.inr (.out u15))))
noncomputable def spec_l04Eight.f (x0 : Int) : Option (ByteArray) :=
  ((loopO (fun s => spec_l04Eight.s0 x0 s.1 s.2) (([] : List Int), 0)).bind fun o => match o with | .out u20 => (some (strOfNums u20)) | .ret r => (some r))
set_option maxRecDepth 100000 in
set_option maxHeartbeats 0 in
theorem spec_l04Eight_t (w0 : World) (x0 : Int) (r : ByteArray) (H : spec_l04Eight.f x0 = some r) :
    Calls Try.prog 136 #[.int .i64 x0] w0 (Ret (fun v w => v = .string r ∧ Sat [] w0 w [] [])) := by
  have hs : Sat [] w0 w0 [] [] := Sat.init w0 [] [] (by simp) (by simp) List.nodup_nil (by simp [blks])
  unfold spec_l04Eight.f at H
  refine enter Try.func136 rfl Try.ntmps136 rfl fun a hk => ?_
  apply wp_seq_k; intro K1 hK1
  apply wp_region_lit
  refine sa _ rfl hk rfl rfl rfl fun a hk => ?_
  show wpList _ _ _ [] _ _
  refine wpList_nil ?_
  refine hK1 _ _ ?_
  apply wp_seq_k; intro K2 hK2
  apply wp_region_lit
  refine sbs0 1 (Lay.int .u8) hs rfl hk rfl rfl un22 sz5 fun b3 k4 w a hk o5 hs => ?_
  refine sa _ rfl hk rfl rfl rfl fun a hk => ?_
  show wpList _ _ _ [] _ _
  refine wpList_nil ?_
  refine hK2 _ _ ?_
  apply wp_seq_k; intro K6 hK6
  apply wp_seq_k; intro K7 hK7
  apply wp_region_lit
  refine sa _ rfl hk rfl rfl rfl fun a hk => ?_
  show wpList _ _ _ [] _ _
  refine wpList_nil ?_
  refine hK7 _ _ ?_
  obtain ⟨o25, h26, HL27⟩ := bind_some H
  clear H
  obtain ⟨R28, hR28⟩ : ∃ R : Act → World → Prop, R = fun a w => ∃ (u20 : List Int) (A23 : Option Addr) (p24 : Nat) (k21 : Chunk), o25 = .out u20 ∧ Kn [(3, (.slice A23 u20.length p24))] 20 a ∧ Sat [] w0 w [] [(1, k21)] ∧ Own (Lay.int .u8) 5 A23 p24 u20 k21 := ⟨_, rfl⟩
  refine wp_cutq R28 ?_ ?_
  ·refine wp_block ?_
   obtain ⟨fu30, h26⟩ := loopO_some h26
   obtain ⟨I29, hI29⟩ : ∃ I : Nat → Act → World → Prop, I = fun fu a w => ∃ (u15 : List Int) (u14 : Int) (A18 : Option Addr) (p19 : Nat) (k16 : Chunk), loopN (fun s => spec_l04Eight.s0 x0 s.1 s.2) fu (u15, u14) = some o25 ∧ Kn [(0, (.int .i64 x0)), (3, (.slice A18 u15.length p19)), (4, (.int .i64 u14))] 20 a ∧ Sat [] w0 w [] [(1, k16)] ∧ Own (Lay.int .u8) 5 A18 p19 u15 k16 := ⟨_, rfl⟩
   refine wp_loop_ghost I29 fu30 ?_ ?_
   ·rw [hI29]
    exact ⟨([] : List Int), 0, (some ⟨b3, 0, none⟩), 0, _, h26, (hk.c 0 rfl (hk.c 3 rfl (hk.c 4 rfl hk.k))), (hs.pick [(1, 1)] rfl), o5⟩
   ·clear h26 hk hs
    intro fu30 a w hI0
    rw [hI29] at hI0
    obtain ⟨u15, u14, A18, p19, k16, hi, hk, hs, o17⟩ := hI0
    obtain ⟨x31, H, h32⟩ := loop_round hi
    try dsimp only at H
    unfold spec_l04Eight.s0 at H
    apply wp_seq_k; intro K33 hK33
    apply wp_seq_k; intro K34 hK34
    apply wp_region_lit
    refine sm _ rfl hk rfl rfl rfl fun a hk => ?_
    refine sv (.bool (decide (u14 < 8))) hk rfl rfl rfl fun a hk => ?_
    show wpList _ _ _ [] _ _
    refine wpList_nil ?_
    refine hK34 _ _ ?_
    have hs := hs.pick [(1, 1)] rfl
    rcases cond_some H with ⟨c35, H⟩ | ⟨c35, H⟩
    ·have hk := hk.lit 7 c35 rfl
     refine cnd_true hk rfl rfl ?_
     refine wp_skip ?_
     refine hK33 _ _ ?_
     apply wp_seq_k; intro K36 hK36
     refine wp_block ?_
     apply wp_region_lit
     refine sm _ rfl hk rfl rfl rfl fun a hk => ?_
     refine sm _ rfl hk rfl rfl rfl fun a hk => ?_
     refine sm _ rfl hk rfl rfl rfl fun a hk => ?_
     refine sv (.int .i64 (w64 (8 * u14))) hk rfl rfl rfl fun a hk => ?_
     rcases ite_some H with ⟨c37, H⟩ | ⟨_, H⟩
     rotate_left
     ·cases H
     refine ssr rfl hk rfl rfl rfl rfl c37 fun a hk => ?_
     refine scn rfl hk rfl rfl rfl un5 un3 fun a hk => ?_
     refine sbs (L := (Lay.int .u8)) (pv := [(0, (.int .u8 (IntKind.wrap .u8 (Int.fdiv x0 (2 ^ min (w64 (8 * u14)).toNat 64)))))]) (xs := [(IntKind.wrap .u8 (Int.fdiv x0 (2 ^ min (w64 (8 * u14)).toNat 64)))]) (ess := [[.int .u8 (IntKind.wrap .u8 (Int.fdiv x0 (2 ^ min (w64 (8 * u14)).toNat 64)))]]) 3 hs rfl hk rfl rfl rfl un22 (bs5_1 (IntKind.wrap .u8 (Int.fdiv x0 (2 ^ min (w64 (8 * u14)).toNat 64)))) (AllOwn.cons0 ⟨rfl, rfl⟩ AllOwn.nil) rfl rfl rfl fun b38 k39 w a hk o40 hs => ?_
     rcases ite_some H with ⟨c41, H⟩ | ⟨_, H⟩
     rotate_left
     ·cases H
     refine sap 1 (xs := u15) (ys := [(IntKind.wrap .u8 (Int.fdiv x0 (2 ^ min (w64 (8 * u14)).toNat 64)))]) (flat_flat : ((Lay.int .u8)).Flat) hs rfl o17 o40.view (hs.hasG (k := 3) rfl) rfl hk rfl rfl rfl rfl rfl rfl un22 mk5 rfl rfl rfl c41 fun A42 p43 k44 w a hk o45 hs => ?_
     refine sa _ rfl hk rfl rfl rfl fun a hk => ?_
     show wpList _ _ _ [] _ _
     refine wpList_nil ?_
     refine hK36 _ _ ?_
     apply wp_region_lit
     refine sm _ rfl hk rfl rfl rfl fun a hk => ?_
     refine sv (.int .i64 (w64 (u14 + 1))) hk rfl rfl rfl fun a hk => ?_
     refine sa _ rfl hk rfl rfl rfl fun a hk => ?_
     show wpList _ _ _ [] _ _
     refine wpList_nil ?_
     obtain rfl := Option.some.inj H
     obtain ⟨m46, hmm46, h32⟩ := h32
     show ∃ n', n' < _ ∧ I29 n' _ _
     refine ⟨m46, hmm46, ?_⟩
     rw [hI29]
     exact ⟨(u15 ++ ([(IntKind.wrap .u8 (Int.fdiv x0 (2 ^ min (w64 (8 * u14)).toNat 64)))])), (w64 (u14 + 1)), A42, p43, _, h32, (hk.c 0 rfl (hk.c 3 rfl (hk.c 4 rfl hk.k))), (hs.pick [(1, 1)] rfl), o45⟩
    ·have hk := hk.lit 7 c35 rfl
     refine cnd_false hk rfl rfl ?_
     refine wp_exit ?_
     obtain rfl := Option.some.inj H
     show R28 _ _
     rw [hR28]
     exact ⟨u15, A18, p19, _, h32.symm, (hk.c 3 rfl hk.k), (hs.pick [(1, 1)] rfl), o17⟩
  ·intro a w hR0
   rw [hR28] at hR0
   obtain ⟨u20, A23, p24, k21, rfl, hk, hs, o22⟩ := hR0
   have H := HL27
   try dsimp only at H
   refine hK6 _ _ ?_
   have hs := hs.pick [(1, 1)] rfl
   apply wp_seq_k; intro K47 hK47
   apply wp_region_lit
   refine sm _ rfl hk rfl rfl rfl fun a hk => ?_
   refine sbt (xs := u20) rfl hk rfl rfl rfl rfl un22 un5 un9 o22.view (hs.hasG (k := 1) rfl) fun a hk => ?_
   refine sa _ rfl hk rfl rfl rfl fun a hk => ?_
   show wpList _ _ _ [] _ _
   refine wpList_nil ?_
   refine hK47 _ _ ?_
   refine wp_ret ?_
   obtain rfl := Option.some.inj H
   exact fin hk _ [(.string (strOfNums u20))] rfl ⟨rfl, trivial⟩ ⟨rfl, (hs.pick [] rfl).dnil⟩

noncomputable def spec_l04Tag.f (x0 : ByteArray) (x1 : ByteArray) (x2 : ByteArray) (x3 : ByteArray) : Option (ByteArray) :=
  ((spec_l02Block.f x0 x1 0).bind fun y3 => (if 0 ≤ (32 : Int) ∧ (32 : Int) ≤ (y3.size : Int) then ((spec_l04Pad.f x2).bind fun y7 => ((spec_l04Pad.f x3).bind fun y9 => (if y7.size + y9.size ≤ 1152921504606846976 then ((spec_l04Eight.f (x2.size : Int)).bind fun y12 => (if (y7 ++ y9).size + y12.size ≤ 1152921504606846976 then ((spec_l04Eight.f (x3.size : Int)).bind fun y15 => (if ((y7 ++ y9) ++ y12).size + y15.size ≤ 1152921504606846976 then ((spec_l03Tag.f (y3.extract 0 (32 : Int).toNat) (((y7 ++ y9) ++ y12) ++ y15)).bind fun y18 => (some y18)) else none)) else none)) else none))) else none))
set_option maxRecDepth 100000 in
set_option maxHeartbeats 0 in
theorem spec_l04Tag_t (w0 : World) (x0 : ByteArray) (x1 : ByteArray) (x2 : ByteArray) (x3 : ByteArray) (r : ByteArray) (H : spec_l04Tag.f x0 x1 x2 x3 = some r) :
    Calls Try.prog 113 #[.string x0, .string x1, .string x2, .string x3] w0 (Ret (fun v w => v = .string r ∧ Sat [] w0 w [] [])) := by
  have hs : Sat [] w0 w0 [] [] := Sat.init w0 [] [] (by simp) (by simp) List.nodup_nil (by simp [blks])
  unfold spec_l04Tag.f at H
  refine enter Try.func113 rfl Try.ntmps113 rfl fun a hk => ?_
  apply wp_seq_k; intro K1 hK1
  apply wp_region_lit
  refine sa _ rfl hk rfl rfl rfl fun a hk => ?_
  show wpList _ _ _ [] _ _
  refine wpList_nil ?_
  refine hK1 _ _ ?_
  apply wp_seq_k; intro K2 hK2
  apply wp_region_lit
  refine sm _ rfl hk rfl rfl rfl fun a hk => ?_
  refine sm _ rfl hk rfl rfl rfl fun a hk => ?_
  obtain ⟨y3, h4, H⟩ := bind_some H
  refine sc rfl en108 hk rfl rfl rfl (spec_l02Block_t _ x0 x1 0 _ h4) ?_
  rintro _ w ⟨rfl, hG⟩ a hk
  have hs := hs.call0 hG
  rcases ite_some H with ⟨c5, H⟩ | ⟨_, H⟩
  rotate_left
  ·cases H
  refine ssl_h rfl hk rfl rfl rfl rfl un9 c5.1 c5.2 fun a hk => ?_
  refine sa _ rfl hk rfl rfl rfl fun a hk => ?_
  show wpList _ _ _ [] _ _
  refine wpList_nil ?_
  refine hK2 _ _ ?_
  apply wp_seq_k; intro K6 hK6
  apply wp_region_lit
  refine sm _ rfl hk rfl rfl rfl fun a hk => ?_
  refine sm _ rfl hk rfl rfl rfl fun a hk => ?_
  obtain ⟨y7, h8, H⟩ := bind_some H
  refine sc rfl en135 hk rfl rfl rfl (spec_l04Pad_t _ x2 _ h8) ?_
  rintro _ w ⟨rfl, hG⟩ a hk
  have hs := hs.call0 hG
  refine sm _ rfl hk rfl rfl rfl fun a hk => ?_
  obtain ⟨y9, h10, H⟩ := bind_some H
  refine sc rfl en135 hk rfl rfl rfl (spec_l04Pad_t _ x3 _ h10) ?_
  rintro _ w ⟨rfl, hG⟩ a hk
  have hs := hs.call0 hG
  rcases ite_some H with ⟨c11, H⟩ | ⟨_, H⟩
  rotate_left
  ·cases H
  refine ssa rfl hk rfl rfl rfl rfl c11 fun a hk => ?_
  refine sm _ rfl hk rfl rfl rfl fun a hk => ?_
  refine sles rfl hk rfl rfl rfl un9 fun a hk => ?_
  obtain ⟨y12, h13, H⟩ := bind_some H
  refine sc rfl en136 hk rfl rfl rfl (spec_l04Eight_t _ (x2.size : Int) _ h13) ?_
  rintro _ w ⟨rfl, hG⟩ a hk
  have hs := hs.call0 hG
  rcases ite_some H with ⟨c14, H⟩ | ⟨_, H⟩
  rotate_left
  ·cases H
  refine ssa rfl hk rfl rfl rfl rfl c14 fun a hk => ?_
  refine sm _ rfl hk rfl rfl rfl fun a hk => ?_
  refine sles rfl hk rfl rfl rfl un9 fun a hk => ?_
  obtain ⟨y15, h16, H⟩ := bind_some H
  refine sc rfl en136 hk rfl rfl rfl (spec_l04Eight_t _ (x3.size : Int) _ h16) ?_
  rintro _ w ⟨rfl, hG⟩ a hk
  have hs := hs.call0 hG
  rcases ite_some H with ⟨c17, H⟩ | ⟨_, H⟩
  rotate_left
  ·cases H
  refine ssa rfl hk rfl rfl rfl rfl c17 fun a hk => ?_
  obtain ⟨y18, h19, H⟩ := bind_some H
  refine sc rfl en55 hk rfl rfl rfl (spec_l03Tag_t _ (y3.extract 0 (32 : Int).toNat) (((y7 ++ y9) ++ y12) ++ y15) _ h19) ?_
  rintro _ w ⟨rfl, hG⟩ a hk
  have hs := hs.call0 hG
  refine sa _ rfl hk rfl rfl rfl fun a hk => ?_
  show wpList _ _ _ [] _ _
  refine wpList_nil ?_
  refine hK6 _ _ ?_
  refine wp_ret ?_
  obtain rfl := Option.some.inj H
  exact fin hk _ [(.string y18)] rfl ⟨rfl, trivial⟩ ⟨rfl, (hs.pick [] rfl).dnil⟩

noncomputable def spec_l04Seal.f (x0 : ByteArray) (x1 : ByteArray) (x2 : ByteArray) (x3 : ByteArray) : Option (ByteArray) :=
  ((spec_l02Xor.f x0 x1 1 x3).bind fun y3 => ((spec_l04Tag.f x0 x1 x2 y3).bind fun y6 => (if y3.size + y6.size ≤ 1152921504606846976 then (some (y3 ++ y6)) else none)))
set_option maxRecDepth 100000 in
set_option maxHeartbeats 0 in
theorem spec_l04Seal_t (w0 : World) (x0 : ByteArray) (x1 : ByteArray) (x2 : ByteArray) (x3 : ByteArray) (r : ByteArray) (H : spec_l04Seal.f x0 x1 x2 x3 = some r) :
    Calls Try.prog 72 #[.string x0, .string x1, .string x2, .string x3] w0 (Ret (fun v w => v = .string r ∧ Sat [] w0 w [] [])) := by
  have hs : Sat [] w0 w0 [] [] := Sat.init w0 [] [] (by simp) (by simp) List.nodup_nil (by simp [blks])
  unfold spec_l04Seal.f at H
  refine enter Try.func72 rfl Try.ntmps72 rfl fun a hk => ?_
  apply wp_seq_k; intro K1 hK1
  apply wp_region_lit
  refine sa _ rfl hk rfl rfl rfl fun a hk => ?_
  show wpList _ _ _ [] _ _
  refine wpList_nil ?_
  refine hK1 _ _ ?_
  apply wp_seq_k; intro K2 hK2
  apply wp_region_lit
  refine sm _ rfl hk rfl rfl rfl fun a hk => ?_
  refine sm _ rfl hk rfl rfl rfl fun a hk => ?_
  refine sm _ rfl hk rfl rfl rfl fun a hk => ?_
  obtain ⟨y3, h4, H⟩ := bind_some H
  refine sc rfl en63 hk rfl rfl rfl (spec_l02Xor_t _ x0 x1 1 x3 _ h4) ?_
  rintro _ w ⟨rfl, hG⟩ a hk
  have hs := hs.call0 hG
  refine sa _ rfl hk rfl rfl rfl fun a hk => ?_
  show wpList _ _ _ [] _ _
  refine wpList_nil ?_
  refine hK2 _ _ ?_
  apply wp_seq_k; intro K5 hK5
  apply wp_region_lit
  refine sm _ rfl hk rfl rfl rfl fun a hk => ?_
  refine sm _ rfl hk rfl rfl rfl fun a hk => ?_
  refine sm _ rfl hk rfl rfl rfl fun a hk => ?_
  refine sm _ rfl hk rfl rfl rfl fun a hk => ?_
  refine sm _ rfl hk rfl rfl rfl fun a hk => ?_
  obtain ⟨y6, h7, H⟩ := bind_some H
  refine sc rfl en113 hk rfl rfl rfl (spec_l04Tag_t _ x0 x1 x2 y3 _ h7) ?_
  rintro _ w ⟨rfl, hG⟩ a hk
  have hs := hs.call0 hG
  rcases ite_some H with ⟨c8, H⟩ | ⟨_, H⟩
  rotate_left
  ·cases H
  refine ssa rfl hk rfl rfl rfl rfl c8 fun a hk => ?_
  refine sa _ rfl hk rfl rfl rfl fun a hk => ?_
  show wpList _ _ _ [] _ _
  refine wpList_nil ?_
  refine hK5 _ _ ?_
  refine wp_ret ?_
  obtain rfl := Option.some.inj H
  exact fin hk _ [(.string (y3 ++ y6))] rfl ⟨rfl, trivial⟩ ⟨rfl, (hs.pick [] rfl).dnil⟩

noncomputable def spec_l06Nonce.f (x0 : Int) (x1 : Int) (x2 : Int) : Option (ByteArray) :=
  ((spec_l04Eight.f x2).bind fun y4 => (if (strOfNums ([(IntKind.wrap .u8 x0), (IntKind.wrap .u8 x1), (IntKind.wrap .u8 (Int.fdiv x1 (2 ^ 8))), 0])).size + y4.size ≤ 1152921504606846976 then (some ((strOfNums ([(IntKind.wrap .u8 x0), (IntKind.wrap .u8 x1), (IntKind.wrap .u8 (Int.fdiv x1 (2 ^ 8))), 0])) ++ y4)) else none))
set_option maxRecDepth 100000 in
set_option maxHeartbeats 0 in
theorem spec_l06Nonce_t (w0 : World) (x0 : Int) (x1 : Int) (x2 : Int) (r : ByteArray) (H : spec_l06Nonce.f x0 x1 x2 = some r) :
    Calls Try.prog 117 #[.int .i64 x0, .int .i64 x1, .int .i64 x2] w0 (Ret (fun v w => v = .string r ∧ Sat [] w0 w [] [])) := by
  have hs : Sat [] w0 w0 [] [] := Sat.init w0 [] [] (by simp) (by simp) List.nodup_nil (by simp [blks])
  unfold spec_l06Nonce.f at H
  refine enter Try.func117 rfl Try.ntmps117 rfl fun a hk => ?_
  apply wp_seq_k; intro K1 hK1
  apply wp_region_lit
  refine sa _ rfl hk rfl rfl rfl fun a hk => ?_
  show wpList _ _ _ [] _ _
  refine wpList_nil ?_
  refine hK1 _ _ ?_
  apply wp_seq_k; intro K2 hK2
  refine wp_region_tree (.q 0 (.q 1 (.q 2 (.q 3 (.q 4 (.q 5 (.q 6 (.q 9 (.q 10 (.alt 7 (.alt 8 (.alt 11 (.last 12) .stop) .stop) .stop)))))))))) mo (by kernel_rfl) (hs.pick [] rfl) fun _ => ?_
  have hs := hs.drew
  refine tqst (.int .i64 x0) hk rfl rfl rfl rfl (fun w hs => sm _ rfl hk rfl rfl rfl fun a hk => qe hk) fun a hk => ?_
  refine tqst (.int .u8 (IntKind.wrap .u8 x0)) hk rfl rfl rfl rfl (fun w hs => scn rfl hk rfl rfl rfl un5 un3 fun a hk => qe hk) fun a hk => ?_
  refine tqst (.int .i64 x1) hk rfl rfl rfl rfl (fun w hs => sm _ rfl hk rfl rfl rfl fun a hk => qe hk) fun a hk => ?_
  refine tqst (.int .u8 (IntKind.wrap .u8 x1)) hk rfl rfl rfl rfl (fun w hs => scn rfl hk rfl rfl rfl un5 un3 fun a hk => qe hk) fun a hk => ?_
  refine tqst (.int .i64 x1) hk rfl rfl rfl rfl (fun w hs => sm _ rfl hk rfl rfl rfl fun a hk => qe hk) fun a hk => ?_
  refine tqst (.int .i64 (Int.fdiv x1 (2 ^ 8))) hk rfl rfl rfl rfl (fun w hs => sv (.int .i64 (Int.fdiv x1 (2 ^ 8))) hk rfl rfl rfl fun a hk => qe hk) fun a hk => ?_
  refine tqst (.int .u8 (IntKind.wrap .u8 (Int.fdiv x1 (2 ^ 8)))) hk rfl rfl rfl rfl (fun w hs => scn rfl hk rfl rfl rfl un5 un3 fun a hk => qe hk) fun a hk => ?_
  refine tqst (.int .i64 x2) hk rfl rfl rfl rfl (fun w hs => sm _ rfl hk rfl rfl rfl fun a hk => qe hk) fun a hk => ?_
  obtain ⟨y4, h5, H⟩ := bind_some H
  refine tqst (.string y4) hk rfl rfl rfl rfl (fun w hs => sc rfl en136 hk rfl rfl rfl (spec_l04Eight_t _ x2 _ h5) fun _ w hR a hk => qc hR hk) fun a hk => ?_
  refine tsst hk rfl rfl (fun K_r3_7 hK_r3_7 w hF => ?_) wt_stop
  have hs := hs.f hF
  refine sbs (L := (Lay.int .u8)) (pv := [(0, (.int .u8 (IntKind.wrap .u8 x0))), (1, (.int .u8 (IntKind.wrap .u8 x1))), (2, (.int .u8 (IntKind.wrap .u8 (Int.fdiv x1 (2 ^ 8))))), (3, (.int .u8 0))]) (xs := [(IntKind.wrap .u8 x0), (IntKind.wrap .u8 x1), (IntKind.wrap .u8 (Int.fdiv x1 (2 ^ 8))), 0]) (ess := [[.int .u8 (IntKind.wrap .u8 x0)], [.int .u8 (IntKind.wrap .u8 x1)], [.int .u8 (IntKind.wrap .u8 (Int.fdiv x1 (2 ^ 8)))], [.int .u8 0]]) 2 hs rfl hk rfl rfl rfl un22 (bs5_8 (IntKind.wrap .u8 x0) (IntKind.wrap .u8 x1) (IntKind.wrap .u8 (Int.fdiv x1 (2 ^ 8))) 0) (AllOwn.cons0 ⟨rfl, rfl⟩ (AllOwn.cons0 ⟨rfl, rfl⟩ (AllOwn.cons0 ⟨rfl, rfl⟩ (AllOwn.cons0 ⟨rfl, rfl⟩ AllOwn.nil)))) rfl rfl rfl fun b6 k7 w a hk o8 hs => ?_
  refine se (hs.pick [] rfl) hk (hK_r3_7 _ _ ?_)
  refine tsst hk rfl rfl (fun K_r3_8 hK_r3_8 w hF => ?_) wt_stop
  have hs := hs.f hF
  refine sbt (xs := ([(IntKind.wrap .u8 x0), (IntKind.wrap .u8 x1), (IntKind.wrap .u8 (Int.fdiv x1 (2 ^ 8))), 0])) rfl hk rfl rfl rfl rfl un22 un5 un9 o8.view (hs.hasG (k := 2) rfl) fun a hk => ?_
  refine se (hs.pick [] rfl) hk (hK_r3_8 _ _ ?_)
  refine tsst hk rfl rfl (fun K_r3_11 hK_r3_11 w hF => ?_) wt_stop
  have hs := hs.f hF
  rcases ite_some H with ⟨c9, H⟩ | ⟨_, H⟩
  rotate_left
  ·cases H
  refine ssa rfl hk rfl rfl rfl rfl c9 fun a hk => ?_
  refine se (hs.pick [] rfl) hk (hK_r3_11 _ _ ?_)
  refine tlst hk rfl rfl fun K_r3_12 hK_r3_12 w hF => ?_
  have hs := hs.f hF
  refine sa _ rfl hk rfl rfl rfl fun a hk => ?_
  refine se trivial hk (hK_r3_12 _ _ fun w hF => ?_)
  have hs := hs.f hF
  refine hK2 _ _ ?_
  refine wp_ret ?_
  obtain rfl := Option.some.inj H
  exact fin hk _ [(.string ((strOfNums ([(IntKind.wrap .u8 x0), (IntKind.wrap .u8 x1), (IntKind.wrap .u8 (Int.fdiv x1 (2 ^ 8))), 0])) ++ y4))] rfl ⟨rfl, trivial⟩ ⟨rfl, (hs.pick [] rfl).dnil⟩

noncomputable def spec_l06Seal.f (x0 : ByteArray) (x1 : Int) (x2 : Int) (x3 : Int) (x4 : ByteArray) : Option (ByteArray) :=
  ((spec_l06Nonce.f x1 x2 x3).bind fun y3 => ((spec_l04Seal.f x0 y3 (⟨#[98, 108, 111, 99, 107]⟩ : ByteArray) x4).bind fun y6 => (some y6)))
set_option maxRecDepth 100000 in
set_option maxHeartbeats 0 in
theorem spec_l06Seal_t (w0 : World) (x0 : ByteArray) (x1 : Int) (x2 : Int) (x3 : Int) (x4 : ByteArray) (r : ByteArray) (H : spec_l06Seal.f x0 x1 x2 x3 x4 = some r) :
    Calls Try.prog 79 #[.string x0, .int .i64 x1, .int .i64 x2, .int .i64 x3, .string x4] w0 (Ret (fun v w => v = .string r ∧ Sat [] w0 w [] [])) := by
  have hs : Sat [] w0 w0 [] [] := Sat.init w0 [] [] (by simp) (by simp) List.nodup_nil (by simp [blks])
  unfold spec_l06Seal.f at H
  refine enter Try.func79 rfl Try.ntmps79 rfl fun a hk => ?_
  apply wp_seq_k; intro K1 hK1
  apply wp_region_lit
  refine sa _ rfl hk rfl rfl rfl fun a hk => ?_
  show wpList _ _ _ [] _ _
  refine wpList_nil ?_
  refine hK1 _ _ ?_
  apply wp_seq_k; intro K2 hK2
  apply wp_region_lit
  refine sm _ rfl hk rfl rfl rfl fun a hk => ?_
  refine sm _ rfl hk rfl rfl rfl fun a hk => ?_
  refine sm _ rfl hk rfl rfl rfl fun a hk => ?_
  obtain ⟨y3, h4, H⟩ := bind_some H
  refine sc rfl en117 hk rfl rfl rfl (spec_l06Nonce_t _ x1 x2 x3 _ h4) ?_
  rintro _ w ⟨rfl, hG⟩ a hk
  have hs := hs.call0 hG
  refine sa _ rfl hk rfl rfl rfl fun a hk => ?_
  show wpList _ _ _ [] _ _
  refine wpList_nil ?_
  refine hK2 _ _ ?_
  apply wp_seq_k; intro K5 hK5
  apply wp_region_lit
  refine sm _ rfl hk rfl rfl rfl fun a hk => ?_
  refine sm _ rfl hk rfl rfl rfl fun a hk => ?_
  refine sm _ rfl hk rfl rfl rfl fun a hk => ?_
  obtain ⟨y6, h7, H⟩ := bind_some H
  refine sc rfl en72 hk rfl rfl rfl (spec_l04Seal_t _ x0 y3 (⟨#[98, 108, 111, 99, 107]⟩ : ByteArray) x4 _ h7) ?_
  rintro _ w ⟨rfl, hG⟩ a hk
  have hs := hs.call0 hG
  refine sa _ rfl hk rfl rfl rfl fun a hk => ?_
  show wpList _ _ _ [] _ _
  refine wpList_nil ?_
  refine hK5 _ _ ?_
  refine wp_ret ?_
  obtain rfl := Option.some.inj H
  exact fin hk _ [(.string y6)] rfl ⟨rfl, trivial⟩ ⟨rfl, (hs.pick [] rfl).dnil⟩

noncomputable def spec_SealAt.f (x0 : ByteArray) (x1 : Int) (x2 : Int) (x3 : Int) (x4 : ByteArray) : Option (ByteArray × Int) :=
  (((bif (decide ((x0.size : Int) > 65536)) then (some true) else (some (decide ((x4.size : Int) > 65536)))) : Option (Bool)).bind fun u5 => (bif u5 then (some ((⟨#[]⟩ : ByteArray), 2)) else ((spec_l06Ask.f x0 x1 x2 x3 x4).bind fun y15 => (bif (y15 != 0) then (some ((⟨#[]⟩ : ByteArray), y15)) else ((spec_l06Seal.f x0 x1 x2 x3 x4).bind fun y21 => (some (y21, 0)))))))
set_option maxRecDepth 100000 in
set_option maxHeartbeats 0 in
theorem spec_SealAt_t (w0 : World) (x0 : ByteArray) (x1 : Int) (x2 : Int) (x3 : Int) (x4 : ByteArray) (r : ByteArray × Int) (H : spec_SealAt.f x0 x1 x2 x3 x4 = some r) :
    Calls Try.prog 36 #[.string x0, .int .i64 x1, .int .i64 x2, .int .i64 x3, .string x4] w0 (Ret (fun v w => v = .tuple #[.string r.1, .int .i64 r.2] ∧ Sat [] w0 w [] [])) := by
  have hs : Sat [] w0 w0 [] [] := Sat.init w0 [] [] (by simp) (by simp) List.nodup_nil (by simp [blks])
  unfold spec_SealAt.f at H
  refine enter Try.func36 rfl Try.ntmps36 rfl fun a hk => ?_
  apply wp_seq_k; intro K1 hK1
  apply wp_region_lit
  refine sa _ rfl hk rfl rfl rfl fun a hk => ?_
  refine sa _ rfl hk rfl rfl rfl fun a hk => ?_
  show wpList _ _ _ [] _ _
  refine wpList_nil ?_
  refine hK1 _ _ ?_
  apply wp_seq_k; intro K2 hK2
  apply wp_seq_k; intro K3 hK3
  obtain ⟨o6, h7, HL8⟩ := bind_some H
  clear H
  obtain ⟨R9, hR9⟩ : ∃ R : Act → World → Prop, R = fun a w => ∃ (u5 : Bool), u5 = o6 ∧ Kn [(0, (.string x0)), (1, (.int .i64 x1)), (2, (.int .i64 x2)), (3, (.int .i64 x3)), (4, (.string x4)), (20, (.bool u5))] 36 a ∧ Sat [] w0 w [] [] := ⟨_, rfl⟩
  refine wp_cutq R9 ?_ ?_
  ·have H := h7
   apply wp_region_lit
   refine sm _ rfl hk rfl rfl rfl fun a hk => ?_
   refine sles rfl hk rfl rfl rfl un9 fun a hk => ?_
   refine sv (.bool (decide ((x0.size : Int) > 65536))) hk rfl rfl rfl fun a hk => ?_
   refine sm _ rfl hk rfl rfl rfl fun a hk => ?_
   rcases cond_some H with ⟨c10, H⟩ | ⟨c10, H⟩
   ·have hk := hk.lit 16 c10 rfl
    refine sk hk rfl rfl rfl fun a hk => ?_
    refine sk hk rfl rfl rfl fun a hk => ?_
    refine sk hk rfl rfl rfl fun a hk => ?_
    refine sv (.bool true) hk rfl rfl rfl fun a hk => ?_
    show wpList _ _ _ [] _ _
    refine wpList_nil ?_
    obtain rfl := Option.some.inj H
    show R9 _ _
    rw [hR9]
    exact ⟨true, rfl, (hk.c 0 rfl (hk.c 1 rfl (hk.c 2 rfl (hk.c 3 rfl (hk.c 4 rfl (hk.c 20 rfl hk.k)))))), (hs.pick [] rfl)⟩
   ·have hk := hk.lit 16 c10 rfl
    refine sm _ rfl hk rfl rfl rfl fun a hk => ?_
    refine sles rfl hk rfl rfl rfl un9 fun a hk => ?_
    refine sv (.bool (decide ((x4.size : Int) > 65536))) hk rfl rfl rfl fun a hk => ?_
    refine sv (.bool (decide ((x4.size : Int) > 65536))) hk rfl rfl rfl fun a hk => ?_
    show wpList _ _ _ [] _ _
    refine wpList_nil ?_
    obtain rfl := Option.some.inj H
    show R9 _ _
    rw [hR9]
    exact ⟨(decide ((x4.size : Int) > 65536)), rfl, (hk.c 0 rfl (hk.c 1 rfl (hk.c 2 rfl (hk.c 3 rfl (hk.c 4 rfl (hk.c 20 rfl hk.k)))))), (hs.pick [] rfl)⟩
  ·intro a w hR0
   rw [hR9] at hR0
   obtain ⟨u5, rfl, hk, hs⟩ := hR0
   have H := HL8
   try dsimp only at H
   refine hK3 _ _ ?_
   rcases cond_some H with ⟨c11, H⟩ | ⟨c11, H⟩
   ·have hk := hk.lit 20 c11 rfl
    refine cnd_true hk rfl rfl ?_
    apply wp_seq_k; intro K12 hK12
    apply wp_region_lit
    refine sa _ rfl hk rfl rfl rfl fun a hk => ?_
    refine sa _ rfl hk rfl rfl rfl fun a hk => ?_
    show wpList _ _ _ [] _ _
    refine wpList_nil ?_
    refine hK12 _ _ ?_
    refine wp_ret ?_
    obtain rfl := Option.some.inj H
    exact fin hk _ [(.string (⟨#[]⟩ : ByteArray)), (.int .i64 2)] rfl ⟨rfl, ⟨rfl, trivial⟩⟩ ⟨rfl, (hs.pick [] rfl).dnil⟩
   ·have hk := hk.lit 20 c11 rfl
    refine cnd_false hk rfl rfl ?_
    refine wp_skip ?_
    refine hK2 _ _ ?_
    apply wp_seq_k; intro K13 hK13
    apply wp_seq_k; intro K14 hK14
    apply wp_region_lit
    refine sm _ rfl hk rfl rfl rfl fun a hk => ?_
    refine sm _ rfl hk rfl rfl rfl fun a hk => ?_
    refine sm _ rfl hk rfl rfl rfl fun a hk => ?_
    refine sm _ rfl hk rfl rfl rfl fun a hk => ?_
    refine sm _ rfl hk rfl rfl rfl fun a hk => ?_
    obtain ⟨y15, h16, H⟩ := bind_some H
    refine sc rfl en78 hk rfl rfl rfl (spec_l06Ask_t _ x0 x1 x2 x3 x4 _ h16) ?_
    rintro _ w ⟨rfl, hG⟩ a hk
    have hs := hs.call0 hG
    refine sa _ rfl hk rfl rfl rfl fun a hk => ?_
    show wpList _ _ _ [] _ _
    refine wpList_nil ?_
    refine hK14 _ _ ?_
    have hs := hs.pick [] rfl
    apply wp_seq_k; intro K17 hK17
    apply wp_region_lit
    refine sm _ rfl hk rfl rfl rfl fun a hk => ?_
    refine sv (.bool (y15 != 0)) hk rfl rfl rfl fun a hk => ?_
    show wpList _ _ _ [] _ _
    refine wpList_nil ?_
    refine hK17 _ _ ?_
    rcases cond_some H with ⟨c18, H⟩ | ⟨c18, H⟩
    ·have hk := hk.lit 28 c18 rfl
     refine cnd_true hk rfl rfl ?_
     apply wp_seq_k; intro K19 hK19
     apply wp_region_lit
     refine sm _ rfl hk rfl rfl rfl fun a hk => ?_
     refine sa _ rfl hk rfl rfl rfl fun a hk => ?_
     refine sa _ rfl hk rfl rfl rfl fun a hk => ?_
     show wpList _ _ _ [] _ _
     refine wpList_nil ?_
     refine hK19 _ _ ?_
     refine wp_ret ?_
     obtain rfl := Option.some.inj H
     exact fin hk _ [(.string (⟨#[]⟩ : ByteArray)), (.int .i64 y15)] rfl ⟨rfl, ⟨rfl, trivial⟩⟩ ⟨rfl, (hs.pick [] rfl).dnil⟩
    ·have hk := hk.lit 28 c18 rfl
     refine cnd_false hk rfl rfl ?_
     refine wp_skip ?_
     refine hK13 _ _ ?_
     apply wp_seq_k; intro K20 hK20
     apply wp_region_lit
     refine sm _ rfl hk rfl rfl rfl fun a hk => ?_
     refine sm _ rfl hk rfl rfl rfl fun a hk => ?_
     refine sm _ rfl hk rfl rfl rfl fun a hk => ?_
     refine sm _ rfl hk rfl rfl rfl fun a hk => ?_
     refine sm _ rfl hk rfl rfl rfl fun a hk => ?_
     obtain ⟨y21, h22, H⟩ := bind_some H
     refine sc rfl en79 hk rfl rfl rfl (spec_l06Seal_t _ x0 x1 x2 x3 x4 _ h22) ?_
     rintro _ w ⟨rfl, hG⟩ a hk
     have hs := hs.call0 hG
     refine sa _ rfl hk rfl rfl rfl fun a hk => ?_
     refine sa _ rfl hk rfl rfl rfl fun a hk => ?_
     show wpList _ _ _ [] _ _
     refine wpList_nil ?_
     refine hK20 _ _ ?_
     refine wp_ret ?_
     obtain rfl := Option.some.inj H
     exact fin hk _ [(.string y21), (.int .i64 0)] rfl ⟨rfl, ⟨rfl, trivial⟩⟩ ⟨rfl, (hs.pick [] rfl).dnil⟩

noncomputable def impl_open.f (x0 : ByteArray) (x1 : ByteArray) (x2 : ByteArray) (x3 : ByteArray) : Option (ByteArray × Bool) :=
  (bif (decide ((x3.size : Int) < 16)) then (some ((⟨#[]⟩ : ByteArray), false)) else (if 0 ≤ (w64 ((x3.size : Int) - 16)) ∧ (w64 ((x3.size : Int) - 16)) ≤ (x3.size : Int) then (if 0 ≤ (w64 ((x3.size : Int) - 16)) ∧ (w64 ((x3.size : Int) - 16)) ≤ (x3.size : Int) then ((impl_boxTag.f x0 x1 x2 (x3.extract 0 (w64 ((x3.size : Int) - 16)).toNat)).bind fun y12 => (bif (!(y12.toList == (x3.extract (w64 ((x3.size : Int) - 16)).toNat x3.size).toList)) then (some ((⟨#[]⟩ : ByteArray), false)) else ((impl_chaXor.f x0 x1 1 (x3.extract 0 (w64 ((x3.size : Int) - 16)).toNat)).bind fun y17 => (some (y17, true))))) else none) else none))
set_option maxRecDepth 100000 in
set_option maxHeartbeats 0 in
theorem impl_open_t (w0 : World) (x0 : ByteArray) (x1 : ByteArray) (x2 : ByteArray) (x3 : ByteArray) (r : ByteArray × Bool) (H : impl_open.f x0 x1 x2 x3 = some r) :
    Calls Try.prog 73 #[.string x0, .string x1, .string x2, .string x3] w0 (Ret (fun v w => v = .tuple #[.string r.1, .bool r.2] ∧ Sat [] w0 w [] [])) := by
  have hs : Sat [] w0 w0 [] [] := Sat.init w0 [] [] (by simp) (by simp) List.nodup_nil (by simp [blks])
  unfold impl_open.f at H
  refine enter Try.func73 rfl Try.ntmps73 rfl fun a hk => ?_
  apply wp_seq_k; intro K1 hK1
  apply wp_region_lit
  refine sa _ rfl hk rfl rfl rfl fun a hk => ?_
  refine sa _ rfl hk rfl rfl rfl fun a hk => ?_
  show wpList _ _ _ [] _ _
  refine wpList_nil ?_
  refine hK1 _ _ ?_
  apply wp_seq_k; intro K2 hK2
  apply wp_seq_k; intro K3 hK3
  apply wp_region_lit
  refine sm _ rfl hk rfl rfl rfl fun a hk => ?_
  refine sles rfl hk rfl rfl rfl un9 fun a hk => ?_
  refine sv (.bool (decide ((x3.size : Int) < 16))) hk rfl rfl rfl fun a hk => ?_
  show wpList _ _ _ [] _ _
  refine wpList_nil ?_
  refine hK3 _ _ ?_
  rcases cond_some H with ⟨c4, H⟩ | ⟨c4, H⟩
  ·have hk := hk.lit 14 c4 rfl
   refine cnd_true hk rfl rfl ?_
   apply wp_seq_k; intro K5 hK5
   apply wp_region_lit
   refine sa _ rfl hk rfl rfl rfl fun a hk => ?_
   refine sa _ rfl hk rfl rfl rfl fun a hk => ?_
   show wpList _ _ _ [] _ _
   refine wpList_nil ?_
   refine hK5 _ _ ?_
   refine wp_ret ?_
   obtain rfl := Option.some.inj H
   exact fin hk _ [(.string (⟨#[]⟩ : ByteArray)), (.bool false)] rfl ⟨rfl, ⟨rfl, trivial⟩⟩ ⟨rfl, (hs.pick [] rfl).dnil⟩
  ·have hk := hk.lit 14 c4 rfl
   refine cnd_false hk rfl rfl ?_
   refine wp_skip ?_
   refine hK2 _ _ ?_
   apply wp_seq_k; intro K6 hK6
   refine wp_region_tree (.q 0 (.q 1 (.q 2 (.q 3 (.q 4 (.q 5 (.q 6 (.q 7 (.q 8 (.q 9 (.alt 10 (.last 11) .stop))))))))))) mo (by kernel_rfl) (hs.pick [] rfl) fun _ => ?_
   have hs := hs.drew
   refine tqst (.string x3) hk rfl rfl rfl rfl (fun w hs => sm _ rfl hk rfl rfl rfl fun a hk => qe hk) fun a hk => ?_
   refine tqst (.string x3) hk rfl rfl rfl rfl (fun w hs => sm _ rfl hk rfl rfl rfl fun a hk => qe hk) fun a hk => ?_
   refine tqst (.int .i64 (x3.size : Int)) hk rfl rfl rfl rfl (fun w hs => sles rfl hk rfl rfl rfl un9 fun a hk => qe hk) fun a hk => ?_
   refine tqst (.int .i64 (w64 ((x3.size : Int) - 16))) hk rfl rfl rfl rfl (fun w hs => sv (.int .i64 (w64 ((x3.size : Int) - 16))) hk rfl rfl rfl fun a hk => qe hk) fun a hk => ?_
   rcases ite_some H with ⟨c8, H⟩ | ⟨_, H⟩
   rotate_left
   ·cases H
   refine tqst (.string (x3.extract 0 (w64 ((x3.size : Int) - 16)).toNat)) hk rfl rfl rfl rfl (fun w hs => ssl_h rfl hk rfl rfl rfl rfl un9 c8.1 c8.2 fun a hk => qe hk) fun a hk => ?_
   refine tqst (.string x3) hk rfl rfl rfl rfl (fun w hs => sm _ rfl hk rfl rfl rfl fun a hk => qe hk) fun a hk => ?_
   refine tqst (.string x3) hk rfl rfl rfl rfl (fun w hs => sm _ rfl hk rfl rfl rfl fun a hk => qe hk) fun a hk => ?_
   refine tqst (.int .i64 (x3.size : Int)) hk rfl rfl rfl rfl (fun w hs => sles rfl hk rfl rfl rfl un9 fun a hk => qe hk) fun a hk => ?_
   refine tqst (.int .i64 (w64 ((x3.size : Int) - 16))) hk rfl rfl rfl rfl (fun w hs => sv (.int .i64 (w64 ((x3.size : Int) - 16))) hk rfl rfl rfl fun a hk => qe hk) fun a hk => ?_
   rcases ite_some H with ⟨c9, H⟩ | ⟨_, H⟩
   rotate_left
   ·cases H
   refine tqst (.string (x3.extract (w64 ((x3.size : Int) - 16)).toNat x3.size)) hk rfl rfl rfl rfl (fun w hs => ssl_l rfl hk rfl rfl rfl rfl un9 c9.1 c9.2 fun a hk => qe hk) fun a hk => ?_
   refine tsst hk rfl rfl (fun K_r7_10 hK_r7_10 w hF => ?_) wt_stop
   have hs := hs.f hF
   refine sa _ rfl hk rfl rfl rfl fun a hk => ?_
   refine se (hs.pick [] rfl) hk (hK_r7_10 _ _ ?_)
   refine tlst hk rfl rfl fun K_r7_11 hK_r7_11 w hF => ?_
   have hs := hs.f hF
   refine sa _ rfl hk rfl rfl rfl fun a hk => ?_
   refine se trivial hk (hK_r7_11 _ _ fun w hF => ?_)
   have hs := hs.f hF
   refine hK6 _ _ ?_
   have hs := hs.pick [] rfl
   apply wp_seq_k; intro K10 hK10
   apply wp_seq_k; intro K11 hK11
   apply wp_region_lit
   refine sm _ rfl hk rfl rfl rfl fun a hk => ?_
   refine sm _ rfl hk rfl rfl rfl fun a hk => ?_
   refine sm _ rfl hk rfl rfl rfl fun a hk => ?_
   refine sm _ rfl hk rfl rfl rfl fun a hk => ?_
   obtain ⟨y12, h13, H⟩ := bind_some H
   refine sc rfl en74 hk rfl rfl rfl (impl_boxTag_t _ x0 x1 x2 (x3.extract 0 (w64 ((x3.size : Int) - 16)).toNat) _ h13) ?_
   rintro _ w ⟨rfl, hG⟩ a hk
   have hs := hs.call0 hG
   refine sm _ rfl hk rfl rfl rfl fun a hk => ?_
   refine sv (.bool (!(y12.toList == (x3.extract (w64 ((x3.size : Int) - 16)).toNat x3.size).toList))) hk rfl rfl rfl fun a hk => ?_
   show wpList _ _ _ [] _ _
   refine wpList_nil ?_
   refine hK11 _ _ ?_
   rcases cond_some H with ⟨c14, H⟩ | ⟨c14, H⟩
   ·have hk := hk.lit 31 c14 rfl
    refine cnd_true hk rfl rfl ?_
    apply wp_seq_k; intro K15 hK15
    apply wp_region_lit
    refine sa _ rfl hk rfl rfl rfl fun a hk => ?_
    refine sa _ rfl hk rfl rfl rfl fun a hk => ?_
    show wpList _ _ _ [] _ _
    refine wpList_nil ?_
    refine hK15 _ _ ?_
    refine wp_ret ?_
    obtain rfl := Option.some.inj H
    exact fin hk _ [(.string (⟨#[]⟩ : ByteArray)), (.bool false)] rfl ⟨rfl, ⟨rfl, trivial⟩⟩ ⟨rfl, (hs.pick [] rfl).dnil⟩
   ·have hk := hk.lit 31 c14 rfl
    refine cnd_false hk rfl rfl ?_
    refine wp_skip ?_
    refine hK10 _ _ ?_
    apply wp_seq_k; intro K16 hK16
    apply wp_region_lit
    refine sm _ rfl hk rfl rfl rfl fun a hk => ?_
    refine sm _ rfl hk rfl rfl rfl fun a hk => ?_
    refine sm _ rfl hk rfl rfl rfl fun a hk => ?_
    obtain ⟨y17, h18, H⟩ := bind_some H
    refine sc rfl en61 hk rfl rfl rfl (impl_chaXor_t _ x0 x1 1 (x3.extract 0 (w64 ((x3.size : Int) - 16)).toNat) _ h18) ?_
    rintro _ w ⟨rfl, hG⟩ a hk
    have hs := hs.call0 hG
    refine sa _ rfl hk rfl rfl rfl fun a hk => ?_
    refine sa _ rfl hk rfl rfl rfl fun a hk => ?_
    show wpList _ _ _ [] _ _
    refine wpList_nil ?_
    refine hK16 _ _ ?_
    refine wp_ret ?_
    obtain rfl := Option.some.inj H
    exact fin hk _ [(.string y17), (.bool true)] rfl ⟨rfl, ⟨rfl, trivial⟩⟩ ⟨rfl, (hs.pick [] rfl).dnil⟩

noncomputable def impl_opened.f (x0 : ByteArray) (x1 : Int) (x2 : Int) (x3 : Int) (x4 : ByteArray) : Option (ByteArray × Bool) :=
  ((impl_nonceOf.f x1 x2 x3).bind fun y3 => ((impl_open.f x0 y3 (⟨#[98, 108, 111, 99, 107]⟩ : ByteArray) x4).bind fun y5 => (some (y5.1, y5.2))))
set_option maxRecDepth 100000 in
set_option maxHeartbeats 0 in
theorem impl_opened_t (w0 : World) (x0 : ByteArray) (x1 : Int) (x2 : Int) (x3 : Int) (x4 : ByteArray) (r : ByteArray × Bool) (H : impl_opened.f x0 x1 x2 x3 x4 = some r) :
    Calls Try.prog 80 #[.string x0, .int .i64 x1, .int .i64 x2, .int .i64 x3, .string x4] w0 (Ret (fun v w => v = .tuple #[.string r.1, .bool r.2] ∧ Sat [] w0 w [] [])) := by
  have hs : Sat [] w0 w0 [] [] := Sat.init w0 [] [] (by simp) (by simp) List.nodup_nil (by simp [blks])
  unfold impl_opened.f at H
  refine enter Try.func80 rfl Try.ntmps80 rfl fun a hk => ?_
  apply wp_seq_k; intro K1 hK1
  apply wp_region_lit
  refine sa _ rfl hk rfl rfl rfl fun a hk => ?_
  refine sa _ rfl hk rfl rfl rfl fun a hk => ?_
  show wpList _ _ _ [] _ _
  refine wpList_nil ?_
  refine hK1 _ _ ?_
  apply wp_seq_k; intro K2 hK2
  apply wp_region_lit
  refine sm _ rfl hk rfl rfl rfl fun a hk => ?_
  refine sm _ rfl hk rfl rfl rfl fun a hk => ?_
  refine sm _ rfl hk rfl rfl rfl fun a hk => ?_
  refine sm _ rfl hk rfl rfl rfl fun a hk => ?_
  obtain ⟨y3, h4, H⟩ := bind_some H
  refine sc rfl en82 hk rfl rfl rfl (impl_nonceOf_t _ x1 x2 x3 _ h4) ?_
  rintro _ w ⟨rfl, hG⟩ a hk
  have hs := hs.call0 hG
  refine sm _ rfl hk rfl rfl rfl fun a hk => ?_
  obtain ⟨y5, h6, H⟩ := bind_some H
  refine sc rfl en73 hk rfl rfl rfl (impl_open_t _ x0 y3 (⟨#[98, 108, 111, 99, 107]⟩ : ByteArray) x4 _ h6) ?_
  rintro _ w ⟨rfl, hG⟩ a hk
  have hs := hs.call0 hG
  refine sv (.string y5.1) hk rfl rfl rfl fun a hk => ?_
  refine sv (.bool y5.2) hk rfl rfl rfl fun a hk => ?_
  refine sa _ rfl hk rfl rfl rfl fun a hk => ?_
  refine sa _ rfl hk rfl rfl rfl fun a hk => ?_
  show wpList _ _ _ [] _ _
  refine wpList_nil ?_
  refine hK2 _ _ ?_
  refine wp_ret ?_
  obtain rfl := Option.some.inj H
  exact fin hk _ [(.string y5.1), (.bool y5.2)] rfl ⟨rfl, ⟨rfl, trivial⟩⟩ ⟨rfl, (hs.pick [] rfl).dnil⟩

noncomputable def impl_OpenAt.f (x0 : ByteArray) (x1 : Int) (x2 : Int) (x3 : Int) (x4 : ByteArray) : Option (ByteArray × Int) :=
  ((impl_blockCode.f x0 x1 x2 x3 x4).bind fun y4 => (bif (y4 != 0) then (some ((⟨#[]⟩ : ByteArray), y4)) else ((impl_opened.f x0 x1 x2 x3 x4).bind fun y10 => (bif (!y10.2) then (some ((⟨#[]⟩ : ByteArray), 9)) else (some (y10.1, 0))))))
set_option maxRecDepth 100000 in
set_option maxHeartbeats 0 in
theorem impl_OpenAt_t (w0 : World) (x0 : ByteArray) (x1 : Int) (x2 : Int) (x3 : Int) (x4 : ByteArray) (r : ByteArray × Int) (H : impl_OpenAt.f x0 x1 x2 x3 x4 = some r) :
    Calls Try.prog 37 #[.string x0, .int .i64 x1, .int .i64 x2, .int .i64 x3, .string x4] w0 (Ret (fun v w => v = .tuple #[.string r.1, .int .i64 r.2] ∧ Sat [] w0 w [] [])) := by
  have hs : Sat [] w0 w0 [] [] := Sat.init w0 [] [] (by simp) (by simp) List.nodup_nil (by simp [blks])
  unfold impl_OpenAt.f at H
  refine enter Try.func37 rfl Try.ntmps37 rfl fun a hk => ?_
  apply wp_seq_k; intro K1 hK1
  apply wp_region_lit
  refine sa _ rfl hk rfl rfl rfl fun a hk => ?_
  refine sa _ rfl hk rfl rfl rfl fun a hk => ?_
  show wpList _ _ _ [] _ _
  refine wpList_nil ?_
  refine hK1 _ _ ?_
  apply wp_seq_k; intro K2 hK2
  apply wp_seq_k; intro K3 hK3
  apply wp_region_lit
  refine sm _ rfl hk rfl rfl rfl fun a hk => ?_
  refine sm _ rfl hk rfl rfl rfl fun a hk => ?_
  refine sm _ rfl hk rfl rfl rfl fun a hk => ?_
  refine sm _ rfl hk rfl rfl rfl fun a hk => ?_
  refine sm _ rfl hk rfl rfl rfl fun a hk => ?_
  obtain ⟨y4, h5, H⟩ := bind_some H
  refine sc rfl en76 hk rfl rfl rfl (impl_blockCode_t _ x0 x1 x2 x3 x4 _ h5) ?_
  rintro _ w ⟨rfl, hG⟩ a hk
  have hs := hs.call0 hG
  refine sa _ rfl hk rfl rfl rfl fun a hk => ?_
  show wpList _ _ _ [] _ _
  refine wpList_nil ?_
  refine hK3 _ _ ?_
  apply wp_seq_k; intro K6 hK6
  apply wp_region_lit
  refine sm _ rfl hk rfl rfl rfl fun a hk => ?_
  refine sv (.bool (y4 != 0)) hk rfl rfl rfl fun a hk => ?_
  show wpList _ _ _ [] _ _
  refine wpList_nil ?_
  refine hK6 _ _ ?_
  rcases cond_some H with ⟨c7, H⟩ | ⟨c7, H⟩
  ·have hk := hk.lit 22 c7 rfl
   refine cnd_true hk rfl rfl ?_
   apply wp_seq_k; intro K8 hK8
   apply wp_region_lit
   refine sm _ rfl hk rfl rfl rfl fun a hk => ?_
   refine sa _ rfl hk rfl rfl rfl fun a hk => ?_
   refine sa _ rfl hk rfl rfl rfl fun a hk => ?_
   show wpList _ _ _ [] _ _
   refine wpList_nil ?_
   refine hK8 _ _ ?_
   have hs := hs.pick [] rfl
   refine wp_ret ?_
   obtain rfl := Option.some.inj H
   exact fin hk _ [(.string (⟨#[]⟩ : ByteArray)), (.int .i64 y4)] rfl ⟨rfl, ⟨rfl, trivial⟩⟩ ⟨rfl, (hs.pick [] rfl).dnil⟩
  ·have hk := hk.lit 22 c7 rfl
   refine cnd_false hk rfl rfl ?_
   refine wp_skip ?_
   refine hK2 _ _ ?_
   have hs := hs.pick [] rfl
   apply wp_seq_k; intro K9 hK9
   apply wp_region_lit
   refine sm _ rfl hk rfl rfl rfl fun a hk => ?_
   refine sm _ rfl hk rfl rfl rfl fun a hk => ?_
   refine sm _ rfl hk rfl rfl rfl fun a hk => ?_
   refine sm _ rfl hk rfl rfl rfl fun a hk => ?_
   refine sm _ rfl hk rfl rfl rfl fun a hk => ?_
   obtain ⟨y10, h11, H⟩ := bind_some H
   refine sc rfl en80 hk rfl rfl rfl (impl_opened_t _ x0 x1 x2 x3 x4 _ h11) ?_
   rintro _ w ⟨rfl, hG⟩ a hk
   have hs := hs.call0 hG
   refine sm _ rfl hk rfl rfl rfl fun a hk => ?_
   refine sv (.string y10.1) hk rfl rfl rfl fun a hk => ?_
   refine sv (.bool y10.2) hk rfl rfl rfl fun a hk => ?_
   refine sa _ rfl hk rfl rfl rfl fun a hk => ?_
   refine sa _ rfl hk rfl rfl rfl fun a hk => ?_
   show wpList _ _ _ [] _ _
   refine wpList_nil ?_
   refine hK9 _ _ ?_
   apply wp_seq_k; intro K12 hK12
   apply wp_seq_k; intro K13 hK13
   apply wp_region_lit
   refine sm _ rfl hk rfl rfl rfl fun a hk => ?_
   refine sv (.bool (!y10.2)) hk rfl rfl rfl fun a hk => ?_
   show wpList _ _ _ [] _ _
   refine wpList_nil ?_
   refine hK13 _ _ ?_
   rcases cond_some H with ⟨c14, H⟩ | ⟨c14, H⟩
   ·have hk := hk.lit 34 c14 rfl
    refine cnd_true hk rfl rfl ?_
    apply wp_seq_k; intro K15 hK15
    apply wp_region_lit
    refine sa _ rfl hk rfl rfl rfl fun a hk => ?_
    refine sa _ rfl hk rfl rfl rfl fun a hk => ?_
    show wpList _ _ _ [] _ _
    refine wpList_nil ?_
    refine hK15 _ _ ?_
    refine wp_ret ?_
    obtain rfl := Option.some.inj H
    exact fin hk _ [(.string (⟨#[]⟩ : ByteArray)), (.int .i64 9)] rfl ⟨rfl, ⟨rfl, trivial⟩⟩ ⟨rfl, (hs.pick [] rfl).dnil⟩
   ·have hk := hk.lit 34 c14 rfl
    refine cnd_false hk rfl rfl ?_
    refine wp_skip ?_
    refine hK12 _ _ ?_
    apply wp_seq_k; intro K16 hK16
    apply wp_region_lit
    refine sm _ rfl hk rfl rfl rfl fun a hk => ?_
    refine sa _ rfl hk rfl rfl rfl fun a hk => ?_
    refine sa _ rfl hk rfl rfl rfl fun a hk => ?_
    show wpList _ _ _ [] _ _
    refine wpList_nil ?_
    refine hK16 _ _ ?_
    have hs := hs.pick [] rfl
    refine wp_ret ?_
    obtain rfl := Option.some.inj H
    exact fin hk _ [(.string y10.1), (.int .i64 0)] rfl ⟨rfl, ⟨rfl, trivial⟩⟩ ⟨rfl, (hs.pick [] rfl).dnil⟩

noncomputable def impl_NonceOf.f (x0 : Int) (x1 : Int) (x2 : Int) : Option (ByteArray × Int) :=
  ((impl_nonceCode.f x0 x1 x2).bind fun y4 => (bif (y4 != 0) then (some ((⟨#[]⟩ : ByteArray), y4)) else ((impl_nonceOf.f x0 x1 x2).bind fun y10 => (some (y10, 0)))))
set_option maxRecDepth 100000 in
set_option maxHeartbeats 0 in
theorem impl_NonceOf_t (w0 : World) (x0 : Int) (x1 : Int) (x2 : Int) (r : ByteArray × Int) (H : impl_NonceOf.f x0 x1 x2 = some r) :
    Calls Try.prog 38 #[.int .i64 x0, .int .i64 x1, .int .i64 x2] w0 (Ret (fun v w => v = .tuple #[.string r.1, .int .i64 r.2] ∧ Sat [] w0 w [] [])) := by
  have hs : Sat [] w0 w0 [] [] := Sat.init w0 [] [] (by simp) (by simp) List.nodup_nil (by simp [blks])
  unfold impl_NonceOf.f at H
  refine enter Try.func38 rfl Try.ntmps38 rfl fun a hk => ?_
  apply wp_seq_k; intro K1 hK1
  apply wp_region_lit
  refine sa _ rfl hk rfl rfl rfl fun a hk => ?_
  refine sa _ rfl hk rfl rfl rfl fun a hk => ?_
  show wpList _ _ _ [] _ _
  refine wpList_nil ?_
  refine hK1 _ _ ?_
  apply wp_seq_k; intro K2 hK2
  apply wp_seq_k; intro K3 hK3
  apply wp_region_lit
  refine sm _ rfl hk rfl rfl rfl fun a hk => ?_
  refine sm _ rfl hk rfl rfl rfl fun a hk => ?_
  refine sm _ rfl hk rfl rfl rfl fun a hk => ?_
  obtain ⟨y4, h5, H⟩ := bind_some H
  refine sc rfl en81 hk rfl rfl rfl (impl_nonceCode_t _ x0 x1 x2 _ h5) ?_
  rintro _ w ⟨rfl, hG⟩ a hk
  have hs := hs.call0 hG
  refine sa _ rfl hk rfl rfl rfl fun a hk => ?_
  show wpList _ _ _ [] _ _
  refine wpList_nil ?_
  refine hK3 _ _ ?_
  apply wp_seq_k; intro K6 hK6
  apply wp_region_lit
  refine sm _ rfl hk rfl rfl rfl fun a hk => ?_
  refine sv (.bool (y4 != 0)) hk rfl rfl rfl fun a hk => ?_
  show wpList _ _ _ [] _ _
  refine wpList_nil ?_
  refine hK6 _ _ ?_
  rcases cond_some H with ⟨c7, H⟩ | ⟨c7, H⟩
  ·have hk := hk.lit 14 c7 rfl
   refine cnd_true hk rfl rfl ?_
   apply wp_seq_k; intro K8 hK8
   apply wp_region_lit
   refine sm _ rfl hk rfl rfl rfl fun a hk => ?_
   refine sa _ rfl hk rfl rfl rfl fun a hk => ?_
   refine sa _ rfl hk rfl rfl rfl fun a hk => ?_
   show wpList _ _ _ [] _ _
   refine wpList_nil ?_
   refine hK8 _ _ ?_
   have hs := hs.pick [] rfl
   refine wp_ret ?_
   obtain rfl := Option.some.inj H
   exact fin hk _ [(.string (⟨#[]⟩ : ByteArray)), (.int .i64 y4)] rfl ⟨rfl, ⟨rfl, trivial⟩⟩ ⟨rfl, (hs.pick [] rfl).dnil⟩
  ·have hk := hk.lit 14 c7 rfl
   refine cnd_false hk rfl rfl ?_
   refine wp_skip ?_
   refine hK2 _ _ ?_
   have hs := hs.pick [] rfl
   apply wp_seq_k; intro K9 hK9
   apply wp_region_lit
   refine sm _ rfl hk rfl rfl rfl fun a hk => ?_
   refine sm _ rfl hk rfl rfl rfl fun a hk => ?_
   refine sm _ rfl hk rfl rfl rfl fun a hk => ?_
   obtain ⟨y10, h11, H⟩ := bind_some H
   refine sc rfl en82 hk rfl rfl rfl (impl_nonceOf_t _ x0 x1 x2 _ h11) ?_
   rintro _ w ⟨rfl, hG⟩ a hk
   have hs := hs.call0 hG
   refine sa _ rfl hk rfl rfl rfl fun a hk => ?_
   refine sa _ rfl hk rfl rfl rfl fun a hk => ?_
   show wpList _ _ _ [] _ _
   refine wpList_nil ?_
   refine hK9 _ _ ?_
   refine wp_ret ?_
   obtain rfl := Option.some.inj H
   exact fin hk _ [(.string y10), (.int .i64 0)] rfl ⟨rfl, ⟨rfl, trivial⟩⟩ ⟨rfl, (hs.pick [] rfl).dnil⟩

noncomputable def spec_l00Src_drawLeaves.s0 (x0 : S_l00Src) (x1 : Int) (u17 : List Int) (u14 : Int) (u15 : Int) (u16 : Int) : Option (((List Int) × Int × Int × Int) ⊕ Ex ((List Int) × Int × Int) ((List Int) × Int × Int)) :=
  (bif (decide (u14 < x1)) then ((spec_l00Src_next.f (⟨x0.code, u15, u16⟩ : S_l00Src) 8).bind fun y41 => (if u17.length + ([y41.1]).length ≤ 1073741824 then (some (.inl ((u17 ++ ([y41.1])), (w64 (u14 + 1)), y41.2.1, y41.2.2))) else none)) else (some (.inr (.out (u17, u15, u16)))))
noncomputable def spec_l00Src_drawLeaves.f (x0 : S_l00Src) (x1 : Int) : Option ((List Int) × Int × Int) :=
  ((loopO (fun s => spec_l00Src_drawLeaves.s0 x0 x1 s.1 s.2.1 s.2.2.1 s.2.2.2) (([] : List Int), 0, x0.at_, x0.seed)).bind fun o => match o with | .out (u22, u27, u28) => (some (u22, u27, u28)) | .ret r => (some r))
set_option maxRecDepth 100000 in
set_option maxHeartbeats 0 in
theorem spec_l00Src_drawLeaves_t (w0 : World) (b0_ : Nat) (x0 : S_l00Src) (A0_0 : Option Addr) (p0_0 : Nat) (k0_0 : Chunk) (v0_0 : View (Lay.int .u8) A0_0 p0_0 x0.code k0_0) (w0_0 : Has w0 k0_0) (x1 : Int) (hs0 : Sat (blks [(1, [(b0_, .cells #[.slice A0_0 x0.code.length p0_0, .int .i64 x0.at_, .int .i64 x0.seed] 84 (0, 0))])]) w0 w0 [(2, k0_0)] [(1, [(b0_, .cells #[.slice A0_0 x0.code.length p0_0, .int .i64 x0.at_, .int .i64 x0.seed] 84 (0, 0))])]) (r : (List Int) × Int × Int) (H : spec_l00Src_drawLeaves.f x0 x1 = some r) :
    Calls Try.prog 83 #[.pointer (some ⟨b0_, 0, none⟩), .int .i64 x1] w0 (Ret (fun v w => ∃ (A0 : Option Addr) (p0 : Nat) (k0 : Chunk), v = .slice A0 r.1.length p0 ∧ Own (Lay.int .i64) 3 A0 p0 r.1 k0 ∧ Sat (blks [(1, [(b0_, .cells #[.slice A0_0 x0.code.length p0_0, .int .i64 x0.at_, .int .i64 x0.seed] 84 (0, 0))])]) w0 w [] [(0, k0), (1, [(b0_, .cells #[.slice A0_0 x0.code.length p0_0, .int .i64 r.2.1, .int .i64 r.2.2] 84 (0, 0))])])) := by
  have hs := hs0
  unfold spec_l00Src_drawLeaves.f at H
  refine enter Try.func83 rfl Try.ntmps83 rfl fun a hk => ?_
  apply wp_seq_k; intro K1 hK1
  apply wp_region_lit
  refine sa _ rfl hk rfl rfl rfl fun a hk => ?_
  show wpList _ _ _ [] _ _
  refine wpList_nil ?_
  refine hK1 _ _ ?_
  apply wp_seq_k; intro K2 hK2
  apply wp_region_lit
  refine sbs0 3 (Lay.int .i64) hs rfl hk rfl rfl un47 sz3 fun b3 k4 w a hk o5 hs => ?_
  refine sa _ rfl hk rfl rfl rfl fun a hk => ?_
  show wpList _ _ _ [] _ _
  refine wpList_nil ?_
  refine hK2 _ _ ?_
  apply wp_seq_k; intro K6 hK6
  apply wp_seq_k; intro K7 hK7
  apply wp_region_lit
  refine sa _ rfl hk rfl rfl rfl fun a hk => ?_
  show wpList _ _ _ [] _ _
  refine wpList_nil ?_
  refine hK7 _ _ ?_
  obtain ⟨o29, h30, HL31⟩ := bind_some H
  clear H
  obtain ⟨R32, hR32⟩ : ∃ R : Act → World → Prop, R = fun a w => ∃ (u22 : List Int) (u27 : Int) (u28 : Int) (A25 : Option Addr) (p26 : Nat) (k23 : Chunk), o29 = .out (u22, u27, u28) ∧ Kn [(0, (.pointer (some ⟨b0_, 0, none⟩))), (5, (.slice A25 u22.length p26))] 19 a ∧ Sat (blks [(1, [(b0_, .cells #[.slice A0_0 x0.code.length p0_0, .int .i64 x0.at_, .int .i64 x0.seed] 84 (0, 0))])]) w0 w [(2, k0_0)] [(3, k23), (1, [(b0_, .cells #[.slice A0_0 x0.code.length p0_0, .int .i64 u27, .int .i64 u28] 84 (0, 0))])] ∧ Own (Lay.int .i64) 3 A25 p26 u22 k23 := ⟨_, rfl⟩
  refine wp_cutq R32 ?_ ?_
  ·refine wp_block ?_
   obtain ⟨fu34, h30⟩ := loopO_some h30
   obtain ⟨I33, hI33⟩ : ∃ I : Nat → Act → World → Prop, I = fun fu a w => ∃ (u17 : List Int) (u14 : Int) (u15 : Int) (u16 : Int) (A20 : Option Addr) (p21 : Nat) (k18 : Chunk), loopN (fun s => spec_l00Src_drawLeaves.s0 x0 x1 s.1 s.2.1 s.2.2.1 s.2.2.2) fu (u17, u14, u15, u16) = some o29 ∧ Kn [(0, (.pointer (some ⟨b0_, 0, none⟩))), (1, (.int .i64 x1)), (5, (.slice A20 u17.length p21)), (6, (.int .i64 u14))] 19 a ∧ Sat (blks [(1, [(b0_, .cells #[.slice A0_0 x0.code.length p0_0, .int .i64 x0.at_, .int .i64 x0.seed] 84 (0, 0))])]) w0 w [(2, k0_0)] [(3, k18), (1, [(b0_, .cells #[.slice A0_0 x0.code.length p0_0, .int .i64 u15, .int .i64 u16] 84 (0, 0))])] ∧ Own (Lay.int .i64) 3 A20 p21 u17 k18 := ⟨_, rfl⟩
   refine wp_loop_ghost I33 fu34 ?_ ?_
   ·rw [hI33]
    exact ⟨([] : List Int), 0, x0.at_, x0.seed, (some ⟨b3, 0, none⟩), 0, _, h30, (hk.c 0 rfl (hk.c 1 rfl (hk.c 5 rfl (hk.c 6 rfl hk.k)))), (hs.pick [(3, 3), (1, 1)] rfl), o5⟩
   ·clear h30 hk hs
    intro fu34 a w hI0
    rw [hI33] at hI0
    obtain ⟨u17, u14, u15, u16, A20, p21, k18, hi, hk, hs, o19⟩ := hI0
    obtain ⟨x35, H, h36⟩ := loop_round hi
    try dsimp only at H
    unfold spec_l00Src_drawLeaves.s0 at H
    apply wp_seq_k; intro K37 hK37
    apply wp_seq_k; intro K38 hK38
    apply wp_region_lit
    refine sm _ rfl hk rfl rfl rfl fun a hk => ?_
    refine sm _ rfl hk rfl rfl rfl fun a hk => ?_
    refine sv (.bool (decide (u14 < x1))) hk rfl rfl rfl fun a hk => ?_
    show wpList _ _ _ [] _ _
    refine wpList_nil ?_
    refine hK38 _ _ ?_
    have hs := hs.pick [(3, 3), (1, 1)] rfl
    rcases cond_some H with ⟨c39, H⟩ | ⟨c39, H⟩
    ·have hk := hk.lit 10 c39 rfl
     refine cnd_true hk rfl rfl ?_
     refine wp_skip ?_
     refine hK37 _ _ ?_
     apply wp_seq_k; intro K40 hK40
     refine wp_block ?_
     apply wp_region_lit
     refine sm _ rfl hk rfl rfl rfl fun a hk => ?_
     refine sm _ rfl hk rfl rfl rfl fun a hk => ?_
     obtain ⟨y41, h42, H⟩ := bind_some H
     refine sc rfl en86 hk rfl rfl rfl (spec_l00Src_next_t _ b0_ (⟨x0.code, u15, u16⟩ : S_l00Src) A0_0 p0_0 _ v0_0 (hs.hasD (k := 2) rfl) 8 ((hs.hand [(1, 1)] rfl).dpick [(2, 2)] rfl) _ h42) ?_
     rintro _ w ⟨rfl, hG⟩ a hk
     have hs := hs.back [(1, 1)] rfl hG [1] rfl
     refine sbs (L := (Lay.int .i64)) (pv := [(0, (.int .i64 y41.1))]) (xs := [y41.1]) (ess := [[.int .i64 y41.1]]) 5 hs rfl hk rfl rfl rfl un47 (bs3_11 y41.1) (AllOwn.cons0 ⟨rfl, rfl⟩ AllOwn.nil) rfl rfl rfl fun b43 k44 w a hk o45 hs => ?_
     rcases ite_some H with ⟨c46, H⟩ | ⟨_, H⟩
     rotate_left
     ·cases H
     refine sap 3 (xs := u17) (ys := [y41.1]) (flat_flat : ((Lay.int .i64)).Flat) hs rfl o19 o45.view (hs.hasG (k := 5) rfl) rfl hk rfl rfl rfl rfl rfl rfl un47 mk3 rfl rfl rfl c46 fun A47 p48 k49 w a hk o50 hs => ?_
     refine sa _ rfl hk rfl rfl rfl fun a hk => ?_
     show wpList _ _ _ [] _ _
     refine wpList_nil ?_
     refine hK40 _ _ ?_
     apply wp_region_lit
     refine sm _ rfl hk rfl rfl rfl fun a hk => ?_
     refine sv (.int .i64 (w64 (u14 + 1))) hk rfl rfl rfl fun a hk => ?_
     refine sa _ rfl hk rfl rfl rfl fun a hk => ?_
     show wpList _ _ _ [] _ _
     refine wpList_nil ?_
     obtain rfl := Option.some.inj H
     obtain ⟨m51, hmm51, h36⟩ := h36
     show ∃ n', n' < _ ∧ I33 n' _ _
     refine ⟨m51, hmm51, ?_⟩
     rw [hI33]
     exact ⟨(u17 ++ ([y41.1])), (w64 (u14 + 1)), y41.2.1, y41.2.2, A47, p48, _, h36, (hk.c 0 rfl (hk.c 1 rfl (hk.c 5 rfl (hk.c 6 rfl hk.k)))), (hs.pick [(3, 3), (1, 1)] rfl), o50⟩
    ·have hk := hk.lit 10 c39 rfl
     refine cnd_false hk rfl rfl ?_
     refine wp_exit ?_
     obtain rfl := Option.some.inj H
     show R32 _ _
     rw [hR32]
     exact ⟨u17, u15, u16, A20, p21, _, h36.symm, (hk.c 0 rfl (hk.c 5 rfl hk.k)), (hs.pick [(3, 3), (1, 1)] rfl), o19⟩
  ·intro a w hR0
   rw [hR32] at hR0
   obtain ⟨u22, u27, u28, A25, p26, k23, rfl, hk, hs, o24⟩ := hR0
   have H := HL31
   try dsimp only at H
   refine hK6 _ _ ?_
   have hs := hs.pick [(3, 3), (1, 1)] rfl
   apply wp_seq_k; intro K52 hK52
   apply wp_region_lit
   refine sm _ rfl hk rfl rfl rfl fun a hk => ?_
   refine sa _ rfl hk rfl rfl rfl fun a hk => ?_
   show wpList _ _ _ [] _ _
   refine wpList_nil ?_
   refine hK52 _ _ ?_
   refine wp_ret ?_
   obtain rfl := Option.some.inj H
   exact fin hk _ [(.slice A25 u22.length p26)] rfl ⟨rfl, trivial⟩ ⟨A25, p26, _, rfl, o24, (hs.pick [(0, 3), (1, 1)] rfl).dnil⟩

noncomputable def spec_DrawsOf.f (l0 : List Int) (x1 : Int) : Option ((List Int)) :=
  ((spec_l00Source.f l0).bind fun y3 => ((spec_l00Src_drawLeaves.f y3 x1).bind fun y10 => (some y10.1)))
set_option maxRecDepth 100000 in
set_option maxHeartbeats 0 in
theorem spec_DrawsOf_t (w0 : World) (A0_ : Option Addr) (p0_ : Nat) (l0 : List Int) (k0_ : Chunk) (v0_ : View (Lay.int .u8) A0_ p0_ l0 k0_) (w0_ : Has w0 k0_) (x1 : Int) (r : (List Int)) (H : spec_DrawsOf.f l0 x1 = some r) :
    Calls Try.prog 39 #[.slice A0_ l0.length p0_, .int .i64 x1] w0 (Ret (fun v w => ∃ (A0 : Option Addr) (p0 : Nat) (k0 : Chunk), v = .slice A0 r.length p0 ∧ Own (Lay.int .i64) 3 A0 p0 r k0 ∧ Sat [] w0 w [] [(0, k0)])) := by
  have hs : Sat [] w0 w0 [(1, k0_)] [] := Sat.init w0 [(1, k0_)] [] (by simp only [List.mem_cons, List.not_mem_nil, or_false]; rintro x (rfl) <;> assumption) (by simp) List.nodup_nil (by simp [blks])
  unfold spec_DrawsOf.f at H
  refine enter Try.func39 rfl Try.ntmps39 rfl fun a hk => ?_
  apply wp_seq_k; intro K1 hK1
  apply wp_region_lit
  refine sa _ rfl hk rfl rfl rfl fun a hk => ?_
  show wpList _ _ _ [] _ _
  refine wpList_nil ?_
  refine hK1 _ _ ?_
  apply wp_seq_k; intro K2 hK2
  apply wp_region_lit
  refine sm _ rfl hk rfl rfl rfl fun a hk => ?_
  obtain ⟨y3, h4, H⟩ := bind_some H
  refine sc rfl en43 hk rfl rfl rfl (spec_l00Source_t _ A0_ p0_ l0 _ v0_ (hs.hasD (k := 1) rfl) _ h4) ?_
  rintro _ w ⟨b6, A7, p8, k5, rfl, v9, hG⟩ a hk
  have hs := hs.call0k hG [3, 2] rfl
  refine sm _ rfl hk rfl rfl rfl fun a hk => ?_
  obtain ⟨y10, h11, H⟩ := bind_some H
  refine sc rfl en83 hk rfl rfl rfl (spec_l00Src_drawLeaves_t _ b6 y3 A7 p8 _ v9 (Has.app (hs.hasD (k := 1) rfl) (hs.hasG (k := 2) rfl)) x1 (((hs.hand [(1, 3)] rfl).dcat 2004 (k := 1) (l := 2) rfl rfl).dpick [(2, 2004)] rfl) _ h11) ?_
  rintro _ w ⟨A12, p13, k14, rfl, o15, hG⟩ a hk
  have hs := hs.back [(1, 3)] rfl hG [5, 3] rfl
  refine sa _ rfl hk rfl rfl rfl fun a hk => ?_
  show wpList _ _ _ [] _ _
  refine wpList_nil ?_
  refine hK2 _ _ ?_
  refine wp_ret ?_
  obtain rfl := Option.some.inj H
  exact fin hk _ [(.slice A12 y10.1.length p13)] rfl ⟨rfl, trivial⟩ ⟨A12, p13, _, rfl, o15, (hs.pick [(0, 5)] rfl).dnil⟩

noncomputable def slices_IndexFunc_int_int.s0 (l0 : List Int) (q1 : Int → Option (Bool)) (u6 : Int) : Option ((Int) ⊕ Ex (Unit) (Int)) :=
  (bif (decide (u6 < (l0.length : Int))) then (if 0 ≤ u6 ∧ u6 < (l0.length : Int) then ((q1 (l0.getD u6.toNat 0)).bind fun y25 => (bif y25 then (some (.inr (.ret u6))) else (some (.inl (w64 (u6 + 1)))))) else none) else (some (.inr (.out ()))))
noncomputable def slices_IndexFunc_int_int.f (l0 : List Int) (q1 : Int → Option (Bool)) : Option (Int) :=
  ((loopO (fun s => slices_IndexFunc_int_int.s0 l0 q1 s) 0).bind fun o => match o with | .out _ => (some (-1)) | .ret r => (some r))
set_option maxRecDepth 100000 in
set_option maxHeartbeats 0 in
theorem slices_IndexFunc_int_int_t (w0 : World) (A0_ : Option Addr) (p0_ : Nat) (l0 : List Int) (k0_ : Chunk) (v0_ : View (Lay.int .i64) A0_ p0_ l0 k0_) (w0_ : Has w0 k0_) (f1_ : FuncId) (c1_ : List Value) (e1_ : Enters Try.prog f1_) (q1 : Int → Option (Bool)) (k1_ : Chunk) (t1_ : ∀ w, Has w k1_ → ∀ (z0 : Int) (r : Bool), q1 z0 = some r → Calls Try.prog f1_ (([.int .i64 z0] : List Value) ++ c1_).toArray w (Ret (fun v w2 => v = .bool r ∧ Sat [] w w2 [] []))) (w1_ : Has w0 k1_) (r : Int) (H : slices_IndexFunc_int_int.f l0 q1 = some r) :
    Calls Try.prog 129 #[.slice A0_ l0.length p0_, .func (.func f1_) #[] c1_.toArray] w0 (Ret (fun v w => v = .int .i64 r ∧ Sat [] w0 w [] [])) := by
  have hs : Sat [] w0 w0 [(1, k0_), (2, k1_)] [] := Sat.init w0 [(1, k0_), (2, k1_)] [] (by simp only [List.mem_cons, List.not_mem_nil, or_false]; rintro x (rfl | rfl) <;> assumption) (by simp) List.nodup_nil (by simp [blks])
  unfold slices_IndexFunc_int_int.f at H
  refine enter Try.func129 rfl Try.ntmps129 rfl fun a hk => ?_
  apply wp_seq_k; intro K1 hK1
  apply wp_region_lit
  refine sa _ rfl hk rfl rfl rfl fun a hk => ?_
  show wpList _ _ _ [] _ _
  refine wpList_nil ?_
  refine hK1 _ _ ?_
  apply wp_seq_k; intro K2 hK2
  apply wp_seq_k; intro K3 hK3
  apply wp_region_lit
  refine sm _ rfl hk rfl rfl rfl fun a hk => ?_
  refine sle rfl hk rfl rfl rfl un47 fun a hk => ?_
  refine sm _ rfl hk rfl rfl rfl fun a hk => ?_
  show wpList _ _ _ [] _ _
  refine wpList_nil ?_
  refine hK3 _ _ ?_
  obtain ⟨o7, h8, HL9⟩ := bind_some H
  clear H
  obtain ⟨R10, hR10⟩ : ∃ R : Act → World → Prop, R = fun a w => o7 = .out () ∧ Kn [] 19 a ∧ Sat [] w0 w [(1, k0_), (2, k1_)] [] := ⟨_, rfl⟩
  refine wp_cutq R10 ?_ ?_
  ·refine wp_block ?_
   obtain ⟨fu12, h8⟩ := loopO_some h8
   obtain ⟨I11, hI11⟩ : ∃ I : Nat → Act → World → Prop, I = fun fu a w => ∃ (u6 : Int), loopN (fun s => slices_IndexFunc_int_int.s0 l0 q1 s) fu u6 = some o7 ∧ Kn [(0, (.slice A0_ l0.length p0_)), (1, (.func (.func f1_) #[] c1_.toArray)), (7, (.int .i64 (l0.length : Int))), (8, (.int .i64 u6))] 19 a ∧ Sat [] w0 w [(1, k0_), (2, k1_)] [] := ⟨_, rfl⟩
   refine wp_loop_ghost I11 fu12 ?_ ?_
   ·rw [hI11]
    exact ⟨0, h8, (hk.c 0 rfl (hk.c 1 rfl (hk.c 7 rfl (hk.c 8 rfl hk.k)))), (hs.pick [] rfl)⟩
   ·clear h8 hk hs
    intro fu12 a w hI0
    rw [hI11] at hI0
    obtain ⟨u6, hi, hk, hs⟩ := hI0
    obtain ⟨x13, H, h14⟩ := loop_round hi
    try dsimp only at H
    unfold slices_IndexFunc_int_int.s0 at H
    apply wp_seq_k; intro K15 hK15
    apply wp_region_lit
    refine sv (.bool (decide (u6 < (l0.length : Int)))) hk rfl rfl rfl fun a hk => ?_
    show wpList _ _ _ [] _ _
    refine wpList_nil ?_
    refine hK15 _ _ ?_
    apply wp_seq_k; intro K16 hK16
    rcases cond_some H with ⟨c17, H⟩ | ⟨c17, H⟩
    ·have hk := hk.lit 9 c17 rfl
     refine cnd_true hk rfl rfl ?_
     refine wp_skip ?_
     refine hK16 _ _ ?_
     have hs := hs.pick [] rfl
     apply wp_seq_k; intro K18 hK18
     refine wp_block ?_
     apply wp_seq_k; intro K19 hK19
     apply wp_region_lit
     refine sm _ rfl hk rfl rfl rfl fun a hk => ?_
     refine sa _ rfl hk rfl rfl rfl fun a hk => ?_
     show wpList _ _ _ [] _ _
     refine wpList_nil ?_
     refine hK19 _ _ ?_
     apply wp_seq_k; intro K20 hK20
     apply wp_region_lit
     refine sm _ rfl hk rfl rfl rfl fun a hk => ?_
     refine sm _ rfl hk rfl rfl rfl fun a hk => ?_
     refine sm _ rfl hk rfl rfl rfl fun a hk => ?_
     rcases ite_some H with ⟨c21, H⟩ | ⟨_, H⟩
     rotate_left
     ·cases H
     obtain ⟨b22, q23, hAc21⟩ := (v0_).some_ u6 c21.1 c21.2
     refine si rfl hk rfl rfl rfl rfl un47 sz3 c21.1 c21.2 hAc21 fun a hk => ?_
     obtain ⟨_, rfl, e24⟩ := (v0_).at_ 0 u6 c21.1 c21.2
     refine sl (v := (.int .i64 (l0.getD u6.toNat 0))) rfl hk rfl rfl rfl ag3 ((e24 0 _ rfl).cell (hs.hasD (k := 1) rfl)) fun a hk => ?_
     obtain ⟨y25, h26, H⟩ := bind_some H
     refine scv (vs := ([(.int .i64 (l0.getD u6.toNat 0))] : List Value) ++ c1_) rfl rfl e1_ hk rfl rfl rfl (t1_ _ (hs.hasD (k := 2) rfl) (l0.getD u6.toNat 0) _ h26) ?_
     rintro _ w ⟨rfl, hG⟩ a hk
     have hs := hs.call0 hG
     show wpList _ _ _ [] _ _
     refine wpList_nil ?_
     refine hK20 _ _ ?_
     rcases cond_some H with ⟨c27, H⟩ | ⟨c27, H⟩
     ·have hk := hk.lit 16 c27 rfl
      refine cnd_true hk rfl rfl ?_
      apply wp_seq_k; intro K28 hK28
      apply wp_region_lit
      refine sm _ rfl hk rfl rfl rfl fun a hk => ?_
      refine sa _ rfl hk rfl rfl rfl fun a hk => ?_
      show wpList _ _ _ [] _ _
      refine wpList_nil ?_
      refine hK28 _ _ ?_
      refine wp_ret ?_
      obtain rfl := Option.some.inj H
      have ho7 := h14
      try dsimp only at ho7
      subst ho7
      have H := HL9
      try dsimp only at H
      obtain rfl := Option.some.inj H
      exact fin hk _ [(.int .i64 u6)] rfl ⟨rfl, trivial⟩ ⟨rfl, (hs.pick [] rfl).dnil⟩
     ·have hk := hk.lit 16 c27 rfl
      refine cnd_false hk rfl rfl ?_
      refine wp_skip ?_
      refine hK18 _ _ ?_
      apply wp_region_lit
      refine sv (.int .i64 (w64 (u6 + 1))) hk rfl rfl rfl fun a hk => ?_
      refine sm _ rfl hk rfl rfl rfl fun a hk => ?_
      show wpList _ _ _ [] _ _
      refine wpList_nil ?_
      obtain rfl := Option.some.inj H
      obtain ⟨m29, hmm29, h14⟩ := h14
      show ∃ n', n' < _ ∧ I11 n' _ _
      refine ⟨m29, hmm29, ?_⟩
      rw [hI11]
      exact ⟨(w64 (u6 + 1)), h14, (hk.c 0 rfl (hk.c 1 rfl (hk.c 7 rfl (hk.c 8 rfl hk.k)))), (hs.pick [] rfl)⟩
    ·have hk := hk.lit 9 c17 rfl
     refine cnd_false hk rfl rfl ?_
     refine wp_exit ?_
     obtain rfl := Option.some.inj H
     show R10 _ _
     rw [hR10]
     exact ⟨h14.symm, hk.k, (hs.pick [] rfl)⟩
  ·intro a w hR0
   rw [hR10] at hR0
   obtain ⟨rfl, hk, hs⟩ := hR0
   have H := HL9
   try dsimp only at H
   refine hK2 _ _ ?_
   apply wp_seq_k; intro K30 hK30
   apply wp_region_lit
   refine sa _ rfl hk rfl rfl rfl fun a hk => ?_
   show wpList _ _ _ [] _ _
   refine wpList_nil ?_
   refine hK30 _ _ ?_
   have hs := hs.pick [] rfl
   refine wp_ret ?_
   obtain rfl := Option.some.inj H
   exact fin hk _ [(.int .i64 (-1))] rfl ⟨rfl, trivial⟩ ⟨rfl, (hs.pick [] rfl).dnil⟩

noncomputable def slices_ContainsFunc_int_int.f (l0 : List Int) (q1 : Int → Option (Bool)) : Option (Bool) :=
  ((slices_IndexFunc_int_int.f l0 q1).bind fun y3 => (some (decide (y3 ≥ 0))))
set_option maxRecDepth 100000 in
set_option maxHeartbeats 0 in
theorem slices_ContainsFunc_int_int_t (w0 : World) (A0_ : Option Addr) (p0_ : Nat) (l0 : List Int) (k0_ : Chunk) (v0_ : View (Lay.int .i64) A0_ p0_ l0 k0_) (w0_ : Has w0 k0_) (f1_ : FuncId) (c1_ : List Value) (e1_ : Enters Try.prog f1_) (q1 : Int → Option (Bool)) (k1_ : Chunk) (t1_ : ∀ w, Has w k1_ → ∀ (z0 : Int) (r : Bool), q1 z0 = some r → Calls Try.prog f1_ (([.int .i64 z0] : List Value) ++ c1_).toArray w (Ret (fun v w2 => v = .bool r ∧ Sat [] w w2 [] []))) (w1_ : Has w0 k1_) (r : Bool) (H : slices_ContainsFunc_int_int.f l0 q1 = some r) :
    Calls Try.prog 95 #[.slice A0_ l0.length p0_, .func (.func f1_) #[] c1_.toArray] w0 (Ret (fun v w => v = .bool r ∧ Sat [] w0 w [] [])) := by
  have hs : Sat [] w0 w0 [(1, k0_), (2, k1_)] [] := Sat.init w0 [(1, k0_), (2, k1_)] [] (by simp only [List.mem_cons, List.not_mem_nil, or_false]; rintro x (rfl | rfl) <;> assumption) (by simp) List.nodup_nil (by simp [blks])
  unfold slices_ContainsFunc_int_int.f at H
  refine enter Try.func95 rfl Try.ntmps95 rfl fun a hk => ?_
  apply wp_seq_k; intro K1 hK1
  apply wp_region_lit
  refine sa _ rfl hk rfl rfl rfl fun a hk => ?_
  show wpList _ _ _ [] _ _
  refine wpList_nil ?_
  refine hK1 _ _ ?_
  apply wp_seq_k; intro K2 hK2
  apply wp_region_lit
  refine sm _ rfl hk rfl rfl rfl fun a hk => ?_
  refine sm _ rfl hk rfl rfl rfl fun a hk => ?_
  obtain ⟨y3, h4, H⟩ := bind_some H
  refine sc rfl en129 hk rfl rfl rfl (slices_IndexFunc_int_int_t _ A0_ p0_ l0 _ v0_ (hs.hasD (k := 1) rfl) f1_ c1_ e1_ q1 k1_ t1_ (hs.hasD (k := 2) rfl) _ h4) ?_
  rintro _ w ⟨rfl, hG⟩ a hk
  have hs := hs.call0 hG
  refine sv (.bool (decide (y3 ≥ 0))) hk rfl rfl rfl fun a hk => ?_
  refine sa _ rfl hk rfl rfl rfl fun a hk => ?_
  show wpList _ _ _ [] _ _
  refine wpList_nil ?_
  refine hK2 _ _ ?_
  refine wp_ret ?_
  obtain rfl := Option.some.inj H
  exact fin hk _ [(.bool (decide (y3 ≥ 0)))] rfl ⟨rfl, trivial⟩ ⟨rfl, (hs.pick [] rfl).dnil⟩

noncomputable def impl_areAll_int__c1.f (x0 : Int) (q1 : Int → Option (Bool)) : Option (Bool) :=
  ((q1 x0).bind fun y3 => (some (!y3)))
set_option maxRecDepth 100000 in
set_option maxHeartbeats 0 in
theorem impl_areAll_int__c1_t (w0 : World) (x0 : Int) (b1_ : Nat) (f1_ : FuncId) (c1_ : List Value) (e1_ : Enters Try.prog f1_) (q1 : Int → Option (Bool)) (k1_ : Chunk) (t1_ : ∀ w, Has w k1_ → ∀ (z0 : Int) (r : Bool), q1 z0 = some r → Calls Try.prog f1_ (([.int .i64 z0] : List Value) ++ c1_).toArray w (Ret (fun v w2 => v = .bool r ∧ Sat [] w w2 [] []))) (w1_ : Has w0 k1_) (h1_ : Has w0 [(b1_, .cells #[.func (.func f1_) #[] c1_.toArray] 61 (0, 0))]) (r : Bool) (H : impl_areAll_int__c1.f x0 q1 = some r) :
    Calls Try.prog 96 #[.int .i64 x0, .pointer (some ⟨b1_, 0, none⟩)] w0 (Ret (fun v w => v = .bool r ∧ Sat [] w0 w [] [])) := by
  have hs : Sat [] w0 w0 [(2, k1_), (1, [(b1_, .cells #[.func (.func f1_) #[] c1_.toArray] 61 (0, 0))])] [] := Sat.init w0 [(2, k1_), (1, [(b1_, .cells #[.func (.func f1_) #[] c1_.toArray] 61 (0, 0))])] [] (by simp only [List.mem_cons, List.not_mem_nil, or_false]; rintro x (rfl | rfl) <;> assumption) (by simp) List.nodup_nil (by simp [blks])
  unfold impl_areAll_int__c1.f at H
  refine enter Try.func96 rfl Try.ntmps96 rfl fun a hk => ?_
  apply wp_seq_k; intro K1 hK1
  apply wp_region_lit
  refine sa _ rfl hk rfl rfl rfl fun a hk => ?_
  show wpList _ _ _ [] _ _
  refine wpList_nil ?_
  refine hK1 _ _ ?_
  apply wp_seq_k; intro K2 hK2
  apply wp_region_lit
  refine sl rfl hk rfl rfl rfl ag61 (box_cellD hs (k := 1) rfl rfl) fun a hk => ?_
  refine sm _ rfl hk rfl rfl rfl fun a hk => ?_
  obtain ⟨y3, h4, H⟩ := bind_some H
  refine scv (vs := ([(.int .i64 x0)] : List Value) ++ c1_) rfl rfl e1_ hk rfl rfl rfl (t1_ _ (hs.hasD (k := 2) rfl) x0 _ h4) ?_
  rintro _ w ⟨rfl, hG⟩ a hk
  have hs := hs.call0 hG
  refine sv (.bool (!y3)) hk rfl rfl rfl fun a hk => ?_
  refine sa _ rfl hk rfl rfl rfl fun a hk => ?_
  show wpList _ _ _ [] _ _
  refine wpList_nil ?_
  refine hK2 _ _ ?_
  refine wp_ret ?_
  obtain rfl := Option.some.inj H
  exact fin hk _ [(.bool (!y3))] rfl ⟨rfl, trivial⟩ ⟨rfl, (hs.pick [] rfl).dnil⟩

noncomputable def impl_areAll_int.f (l0 : List Int) (q1 : Int → Option (Bool)) : Option (Bool) :=
  ((slices_ContainsFunc_int_int.f l0 (fun z0 => impl_areAll_int__c1.f z0 q1)).bind fun y4 => (some (!y4)))
set_option maxRecDepth 100000 in
set_option maxHeartbeats 0 in
theorem impl_areAll_int_t (w0 : World) (A0_ : Option Addr) (p0_ : Nat) (l0 : List Int) (k0_ : Chunk) (v0_ : View (Lay.int .i64) A0_ p0_ l0 k0_) (w0_ : Has w0 k0_) (f1_ : FuncId) (c1_ : List Value) (e1_ : Enters Try.prog f1_) (q1 : Int → Option (Bool)) (k1_ : Chunk) (t1_ : ∀ w, Has w k1_ → ∀ (z0 : Int) (r : Bool), q1 z0 = some r → Calls Try.prog f1_ (([.int .i64 z0] : List Value) ++ c1_).toArray w (Ret (fun v w2 => v = .bool r ∧ Sat [] w w2 [] []))) (w1_ : Has w0 k1_) (r : Bool) (H : impl_areAll_int.f l0 q1 = some r) :
    Calls Try.prog 51 #[.slice A0_ l0.length p0_, .func (.func f1_) #[] c1_.toArray] w0 (Ret (fun v w => v = .bool r ∧ Sat [] w0 w [] [])) := by
  have hs : Sat [] w0 w0 [(1, k0_), (2, k1_)] [] := Sat.init w0 [(1, k0_), (2, k1_)] [] (by simp only [List.mem_cons, List.not_mem_nil, or_false]; rintro x (rfl | rfl) <;> assumption) (by simp) List.nodup_nil (by simp [blks])
  unfold impl_areAll_int.f at H
  refine enter Try.func51 rfl Try.ntmps51 rfl fun a hk => ?_
  apply wp_seq_k; intro K1 hK1
  apply wp_region_lit
  refine sbx 3 hs rfl hk rfl rfl rfl rfl fun b2 w a hk hs => ?_
  refine sa _ rfl hk rfl rfl rfl fun a hk => ?_
  show wpList _ _ _ [] _ _
  refine wpList_nil ?_
  refine hK1 _ _ ?_
  apply wp_seq_k; intro K3 hK3
  apply wp_region_lit
  refine sm _ rfl hk rfl rfl rfl fun a hk => ?_
  refine smf (cs := [.pointer (some ⟨b2, 0, none⟩)]) rfl hk rfl rfl rfl fun a hk => ?_
  obtain ⟨y4, h5, H⟩ := bind_some H
  refine sc rfl en95 hk rfl rfl rfl (slices_ContainsFunc_int_int_t _ A0_ p0_ l0 _ v0_ (hs.hasD (k := 1) rfl) 96 [.pointer (some ⟨b2, 0, none⟩)] en96 (fun z0 => impl_areAll_int__c1.f z0 q1) ([(b2, .cells #[.func (.func f1_) #[] c1_.toArray] 61 (0, 0))] ++ k1_) (fun w hz z0 r h => impl_areAll_int__c1_t w z0 _ f1_ c1_ e1_ q1 k1_ t1_ (Has.right hz) (Has.left hz) r h) (Has.app (hs.hasG (k := 3) rfl) (hs.hasD (k := 2) rfl)) _ h5) ?_
  rintro _ w ⟨rfl, hG⟩ a hk
  have hs := hs.call0 hG
  refine sv (.bool (!y4)) hk rfl rfl rfl fun a hk => ?_
  refine sa _ rfl hk rfl rfl rfl fun a hk => ?_
  show wpList _ _ _ [] _ _
  refine wpList_nil ?_
  refine hK3 _ _ ?_
  refine wp_ret ?_
  obtain rfl := Option.some.inj H
  exact fin hk _ [(.bool (!y4))] rfl ⟨rfl, trivial⟩ ⟨rfl, (hs.pick [] rfl).dnil⟩

noncomputable def impl_isWord.f (x0 : Int) : Option (Bool) :=
  ((impl_within.f x0 0 4294967295).bind fun y3 => (some y3))
set_option maxRecDepth 100000 in
set_option maxHeartbeats 0 in
theorem impl_isWord_t (w0 : World) (x0 : Int) (r : Bool) (H : impl_isWord.f x0 = some r) :
    Calls Try.prog 52 #[.int .i64 x0] w0 (Ret (fun v w => v = .bool r ∧ Sat [] w0 w [] [])) := by
  have hs : Sat [] w0 w0 [] [] := Sat.init w0 [] [] (by simp) (by simp) List.nodup_nil (by simp [blks])
  unfold impl_isWord.f at H
  refine enter Try.func52 rfl Try.ntmps52 rfl fun a hk => ?_
  apply wp_seq_k; intro K1 hK1
  apply wp_region_lit
  refine sa _ rfl hk rfl rfl rfl fun a hk => ?_
  show wpList _ _ _ [] _ _
  refine wpList_nil ?_
  refine hK1 _ _ ?_
  apply wp_seq_k; intro K2 hK2
  apply wp_region_lit
  refine sm _ rfl hk rfl rfl rfl fun a hk => ?_
  obtain ⟨y3, h4, H⟩ := bind_some H
  refine sc rfl en50 hk rfl rfl rfl (impl_within_t _ x0 0 4294967295 _ h4) ?_
  rintro _ w ⟨rfl, hG⟩ a hk
  have hs := hs.call0 hG
  refine sa _ rfl hk rfl rfl rfl fun a hk => ?_
  show wpList _ _ _ [] _ _
  refine wpList_nil ?_
  refine hK2 _ _ ?_
  refine wp_ret ?_
  obtain rfl := Option.some.inj H
  exact fin hk _ [(.bool y3)] rfl ⟨rfl, trivial⟩ ⟨rfl, (hs.pick [] rfl).dnil⟩

noncomputable def impl_intsText.s0 (l0 : List Int) (u1 : Int) (u2 : ByteArray) : Option ((Int × ByteArray) ⊕ Ex (ByteArray) (ByteArray)) :=
  (bif (decide (u1 < (l0.length : Int))) then (if 0 ≤ u1 ∧ u1 < (l0.length : Int) then ((impl_little.f (l0.getD u1.toNat 0) 4).bind fun y => (if u2.size + y.size ≤ 1073741824 then (some (.inl ((w64 (u1 + 1)), (u2 ++ y)))) else none)) else none) else (some (.inr (.out u2))))
noncomputable def impl_intsText.f (l0 : List Int) : Option (ByteArray) :=
  ((loopO (fun s => impl_intsText.s0 l0 s.1 s.2) (0, (⟨#[]⟩ : ByteArray))).bind fun o => match o with | .out u => (some u) | .ret r => (some r))
set_option maxRecDepth 100000 in
set_option maxHeartbeats 0 in
theorem impl_intsText_n : True := trivial
set_option maxRecDepth 100000 in
set_option maxHeartbeats 1000000 in
theorem impl_intsText_t (w0 : World) (A0_ : Option Addr) (p0_ : Nat) (l0 : List Int) (k0_ : Chunk) (v0_ : View (Lay.int .i64) A0_ p0_ l0 k0_) (w0_ : Has w0 k0_) (r : ByteArray) (H : impl_intsText.f l0 = some r) :
    Calls Try.prog 84 #[.slice A0_ l0.length p0_] w0 (Ret (fun v w => v = .string r ∧ Sat [] w0 w [] [])) := by
  unfold impl_intsText.f at H
  refine enter Try.func84 rfl Try.ntmps84 rfl fun a hk => ?_
  apply wp_seq_k; intro K1 hK1
  apply wp_region_lit
  refine sa _ rfl hk rfl rfl rfl fun a hk => ?_
  show wpList _ _ _ [] _ _
  refine wpList_nil ?_
  refine hK1 _ _ ?_
  apply wp_seq_k; intro K2 hK2
  apply wp_region_lit
  refine sal rfl hk rfl rfl (by kernel_rfl : zeroB Try.prog 109 = some (.agg #[.pointer none, .slice none 0 0])) fun a hk => ?_
  show wpList _ _ _ [] _ _
  refine wpList_nil ?_
  refine hK2 _ _ ?_
  have hgen : ∃ w b, w = (w0.alloc (.cells (Value.cells (.agg #[.pointer none, .slice none 0 0])) 109)) ∧ b = w0.heap.size ∧ Lib.IsBuilder 109 5 w0.heap.size b (Lib.byteCells (⟨#[]⟩ : ByteArray).data.toList) w ∧ Below w0.heap.size w0 w :=
    ⟨_, _, rfl, rfl, Lib.fresh_isBuilder 109 5 w0, (Below.refl _ w0).alloc (Nat.le_refl _) _⟩
  obtain ⟨w, b, ew, eb, hb, hbel⟩ := hgen
  rw [← eb] at hk
  rw [← ew]
  clear ew eb
  apply wp_seq_k; intro K3 hK3
  apply wp_seq_k; intro K4 hK4
  apply wp_region_lit
  refine sm _ rfl hk rfl rfl rfl fun a hk => ?_
  refine sle rfl hk rfl rfl rfl un47 fun a hk => ?_
  refine sm _ rfl hk rfl rfl rfl fun a hk => ?_
  show wpList _ _ _ [] _ _
  refine wpList_nil ?_
  refine hK4 _ _ ?_
  obtain ⟨o, h, HL⟩ := bind_some H
  clear H
  obtain ⟨R, hR⟩ : ∃ R : Act → World → Prop, R = fun a w => ∃ u : ByteArray, o = .out u ∧ Kn [(3, .pointer (some ⟨b, 0, none⟩))] 17 a ∧ Lib.IsBuilder 109 5 w0.heap.size b (Lib.byteCells u.data.toList) w ∧ Below w0.heap.size w0 w := ⟨_, rfl⟩
  refine wp_cutq R ?_ ?_
  · refine wp_block ?_
    obtain ⟨fu, h⟩ := loopO_some h
    obtain ⟨I, hI⟩ : ∃ I : Nat → Act → World → Prop, I = fun fu a w => ∃ (u1 : Int) (u2 : ByteArray), loopN (fun s => impl_intsText.s0 l0 s.1 s.2) fu (u1, u2) = some o ∧ Kn [(3, .pointer (some ⟨b, 0, none⟩)), (6, (.slice A0_ l0.length p0_)), (7, (.int .i64 (l0.length : Int))), (8, (.int .i64 u1))] 17 a ∧ Lib.IsBuilder 109 5 w0.heap.size b (Lib.byteCells u2.data.toList) w ∧ Below w0.heap.size w0 w := ⟨_, rfl⟩
    refine wp_loop_ghost I fu ?_ ?_
    · rw [hI]
      exact ⟨0, _, h, (hk.c 3 rfl (hk.c 6 rfl (hk.c 7 rfl (hk.c 8 rfl hk.k)))), hb, hbel⟩
    · clear h hk hb hbel
      intro fu a w hI0
      rw [hI] at hI0
      obtain ⟨u1, u2, hi, hk, hb, hbel⟩ := hI0
      obtain ⟨x13, H, h14⟩ := loop_round hi
      try dsimp only at H
      unfold impl_intsText.s0 at H
      apply wp_seq_k; intro K15 hK15
      apply wp_region_lit
      refine sv (.bool (decide (u1 < (l0.length : Int)))) hk rfl rfl rfl fun a hk => ?_
      show wpList _ _ _ [] _ _
      refine wpList_nil ?_
      refine hK15 _ _ ?_
      apply wp_seq_k; intro K16 hK16
      rcases cond_some H with ⟨c17, H⟩ | ⟨c17, H⟩
      · have hk := hk.lit 9 c17 rfl
        refine cnd_true hk rfl rfl ?_
        refine wp_skip ?_
        refine hK16 _ _ ?_
        apply wp_seq_k; intro K18 hK18
        refine wp_block ?_
        apply wp_seq_k; intro K19 hK19
        apply wp_region_lit
        rcases ite_some H with ⟨c21, H⟩ | ⟨_, H⟩
        rotate_left
        · cases H
        obtain ⟨b22, q23, hAc21⟩ := (v0_).some_ u1 c21.1 c21.2
        refine si rfl hk rfl rfl rfl rfl un47 sz3 c21.1 c21.2 hAc21 fun a hk => ?_
        obtain ⟨_, rfl, e24⟩ := (v0_).at_ 0 u1 c21.1 c21.2
        refine sl (v := (.int .i64 (l0.getD u1.toNat 0))) rfl hk rfl rfl rfl ag3 ((e24 0 _ rfl).cell (has_bel w0_ hbel)) fun a hk => ?_
        refine sa _ rfl hk rfl rfl rfl fun a hk => ?_
        show wpList _ _ _ [] _ _
        refine wpList_nil ?_
        refine hK19 _ _ ?_
        apply wp_region_lit
        refine sm _ rfl hk rfl rfl rfl fun a hk => ?_
        obtain ⟨y25, h26, H⟩ := bind_some H
        refine sc rfl en109 hk rfl rfl rfl (impl_little_t _ (l0.getD u1.toNat 0) 4 y25 h26) ?_
        rintro _ w2 ⟨rfl, hG⟩ a hk
        have hb2 : Lib.IsBuilder 109 5 w0.heap.size b (Lib.byteCells u2.data.toList) w2 := by
          rcases hb with hb | hb
          · exact .inl (bld_F hb hG.below)
          · exact .inr (bld_F hb hG.below)
        have hbel2 : Below w0.heap.size w0 w2 := hbel.trans (hG.below.mono hbel.size)
        rcases ite_some H with ⟨c27, H⟩ | ⟨_, H⟩
        rotate_left
        · cases H
        refine sc rfl en106 hk rfl rfl rfl ((ws w0.heap.size b _ y25 w2 hb2 (by rw [Lib.byteCells_length, ba_len]; omega) hbel2.size).mono (R' := Ret (fun v w' => v = .tuple #[.int .i64 y25.size, .nilIface] ∧ (Lib.BuilderAt 109 5 w0.heap.size b (.pointer (some ⟨b, 0, none⟩)) (Lib.byteCells u2.data.toList ++ Lib.strCells y25) w' ∧ Below w0.heap.size w2 w'))) (fun e w' h => ⟨_, h.1, rfl, h.2⟩)) ?_
        rintro _ w3 ⟨rfl, hb3, hbel3⟩ a hk
        show wpList _ _ _ [] _ _
        refine wpList_nil ?_
        refine hK18 _ _ ?_
        apply wp_region_lit
        refine sv (.int .i64 (w64 (u1 + 1))) hk rfl rfl rfl fun a hk => ?_
        refine sm _ rfl hk rfl rfl rfl fun a hk => ?_
        show wpList _ _ _ [] _ _
        refine wpList_nil ?_
        obtain rfl := Option.some.inj H
        obtain ⟨m, hmm, h14⟩ := h14
        show ∃ n', n' < _ ∧ I n' _ _
        refine ⟨m, hmm, ?_⟩
        rw [hI]
        exact ⟨_, _, h14, (hk.c 3 rfl (hk.c 6 rfl (hk.c 7 rfl (hk.c 8 rfl hk.k)))), .inr (by rw [bc_app]; exact hb3), hbel2.trans hbel3⟩
      · have hk := hk.lit 9 c17 rfl
        refine cnd_false hk rfl rfl ?_
        refine wp_exit ?_
        obtain rfl := Option.some.inj H
        show R _ _
        rw [hR]
        exact ⟨_, h14.symm, (hk.c 3 rfl hk.k), hb, hbel⟩
  · intro a w hR0
    rw [hR] at hR0
    obtain ⟨u, rfl, hk, hb, hbel⟩ := hR0
    have H := HL
    try dsimp only at H
    obtain rfl := Option.some.inj H
    refine hK3 _ _ ?_
    apply wp_seq_k; intro K5 hK5
    apply wp_region_lit
    refine sc rfl en107 hk rfl rfl rfl ((Builder_String_any w0.heap.size b _ w hb hbel.size).mono (R' := Ret (fun v w' => v = .string u ∧ Below w0.heap.size w w')) (fun e w' h => ⟨_, h.1, rfl, h.2⟩)) ?_
    rintro _ w4 ⟨rfl, hbel4⟩ a hk
    refine sa _ rfl hk rfl rfl rfl fun a hk => ?_
    show wpList _ _ _ [] _ _
    refine wpList_nil ?_
    refine hK5 _ _ ?_
    refine wp_ret ?_
    exact fin hk _ [(.string u)] rfl ⟨rfl, trivial⟩ ⟨rfl, Sat.ofBelow (hbel.trans hbel4)⟩

noncomputable def impl_IntsText.f (l0 : List Int) : Option (ByteArray × Int) :=
  (bif (decide ((l0.length : Int) > 4096)) then (some ((⟨#[]⟩ : ByteArray), 2)) else ((impl_areAll_int.f l0 impl_isWord.f).bind fun y7 => (bif (!y7) then (some ((⟨#[]⟩ : ByteArray), 4)) else ((impl_intsText.f l0).bind fun y12 => (some (y12, 0))))))
set_option maxRecDepth 100000 in
set_option maxHeartbeats 0 in
theorem impl_IntsText_t (w0 : World) (A0_ : Option Addr) (p0_ : Nat) (l0 : List Int) (k0_ : Chunk) (v0_ : View (Lay.int .i64) A0_ p0_ l0 k0_) (w0_ : Has w0 k0_) (r : ByteArray × Int) (H : impl_IntsText.f l0 = some r) :
    Calls Try.prog 40 #[.slice A0_ l0.length p0_] w0 (Ret (fun v w => v = .tuple #[.string r.1, .int .i64 r.2] ∧ Sat [] w0 w [] [])) := by
  have hs : Sat [] w0 w0 [(1, k0_)] [] := Sat.init w0 [(1, k0_)] [] (by simp only [List.mem_cons, List.not_mem_nil, or_false]; rintro x (rfl) <;> assumption) (by simp) List.nodup_nil (by simp [blks])
  unfold impl_IntsText.f at H
  refine enter Try.func40 rfl Try.ntmps40 rfl fun a hk => ?_
  apply wp_seq_k; intro K1 hK1
  apply wp_region_lit
  refine sa _ rfl hk rfl rfl rfl fun a hk => ?_
  refine sa _ rfl hk rfl rfl rfl fun a hk => ?_
  show wpList _ _ _ [] _ _
  refine wpList_nil ?_
  refine hK1 _ _ ?_
  apply wp_seq_k; intro K2 hK2
  refine wp_block ?_
  apply wp_seq_k; intro K3 hK3
  apply wp_region_lit
  refine sm _ rfl hk rfl rfl rfl fun a hk => ?_
  refine sle rfl hk rfl rfl rfl un47 fun a hk => ?_
  refine sv (.bool (decide ((l0.length : Int) > 4096))) hk rfl rfl rfl fun a hk => ?_
  refine sa _ rfl hk rfl rfl rfl fun a hk => ?_
  show wpList _ _ _ [] _ _
  refine wpList_nil ?_
  refine hK3 _ _ ?_
  rcases cond_some H with ⟨c4, H⟩ | ⟨c4, H⟩
  ·have hk := hk.lit 4 c4 rfl
   refine cnd_true hk rfl rfl ?_
   apply wp_seq_k; intro K5 hK5
   apply wp_region_lit
   refine sa _ rfl hk rfl rfl rfl fun a hk => ?_
   refine sa _ rfl hk rfl rfl rfl fun a hk => ?_
   show wpList _ _ _ [] _ _
   refine wpList_nil ?_
   refine hK5 _ _ ?_
   refine wp_ret ?_
   obtain rfl := Option.some.inj H
   exact fin hk _ [(.string (⟨#[]⟩ : ByteArray)), (.int .i64 2)] rfl ⟨rfl, ⟨rfl, trivial⟩⟩ ⟨rfl, (hs.pick [] rfl).dnil⟩
  ·have hk := hk.lit 4 c4 rfl
   refine cnd_false hk rfl rfl ?_
   apply wp_seq_k; intro K6 hK6
   apply wp_region_lit
   refine sm _ rfl hk rfl rfl rfl fun a hk => ?_
   obtain ⟨y7, h8, H⟩ := bind_some H
   refine sc rfl en51 hk rfl rfl rfl (impl_areAll_int_t _ A0_ p0_ l0 _ v0_ (hs.hasD (k := 1) rfl) 52 [] en52 impl_isWord.f [] (fun w _ z0 r h => impl_isWord_t w z0 r h) (Has.nil _) _ h8) ?_
   rintro _ w ⟨rfl, hG⟩ a hk
   have hs := hs.call0 hG
   refine sv (.bool (!y7)) hk rfl rfl rfl fun a hk => ?_
   refine sa _ rfl hk rfl rfl rfl fun a hk => ?_
   show wpList _ _ _ [] _ _
   refine wpList_nil ?_
   refine hK6 _ _ ?_
   rcases cond_some H with ⟨c9, H⟩ | ⟨c9, H⟩
   ·have hk := hk.lit 8 c9 rfl
    refine cnd_true hk rfl rfl ?_
    apply wp_seq_k; intro K10 hK10
    apply wp_region_lit
    refine sa _ rfl hk rfl rfl rfl fun a hk => ?_
    refine sa _ rfl hk rfl rfl rfl fun a hk => ?_
    show wpList _ _ _ [] _ _
    refine wpList_nil ?_
    refine hK10 _ _ ?_
    have hs := hs.pick [] rfl
    refine wp_ret ?_
    obtain rfl := Option.some.inj H
    exact fin hk _ [(.string (⟨#[]⟩ : ByteArray)), (.int .i64 4)] rfl ⟨rfl, ⟨rfl, trivial⟩⟩ ⟨rfl, (hs.pick [] rfl).dnil⟩
   ·have hk := hk.lit 8 c9 rfl
    refine cnd_false hk rfl rfl ?_
    refine wp_skip ?_
    refine hK2 _ _ ?_
    have hs := hs.pick [] rfl
    apply wp_seq_k; intro K11 hK11
    apply wp_region_lit
    refine sm _ rfl hk rfl rfl rfl fun a hk => ?_
    obtain ⟨y12, h13, H⟩ := bind_some H
    refine sc rfl en84 hk rfl rfl rfl (impl_intsText_t _ A0_ p0_ l0 _ v0_ (hs.hasD (k := 1) rfl) _ h13) ?_
    rintro _ w ⟨rfl, hG⟩ a hk
    have hs := hs.call0 hG
    refine sa _ rfl hk rfl rfl rfl fun a hk => ?_
    refine sa _ rfl hk rfl rfl rfl fun a hk => ?_
    show wpList _ _ _ [] _ _
    refine wpList_nil ?_
    refine hK11 _ _ ?_
    refine wp_ret ?_
    obtain rfl := Option.some.inj H
    exact fin hk _ [(.string y12), (.int .i64 0)] rfl ⟨rfl, ⟨rfl, trivial⟩⟩ ⟨rfl, (hs.pick [] rfl).dnil⟩

noncomputable def impl_textInts.s0 (x0 : ByteArray) (u13 : List Int) (u12 : Int) : Option (((List Int) × Int) ⊕ Ex ((List Int)) ((List Int))) :=
  (bif (decide (u12 < (x0.size : Int))) then (if 0 ≤ u12 ∧ u12 ≤ (x0.size : Int) then ((impl_littleWord.f (x0.extract u12.toNat x0.size)).bind fun y36 => (if u13.length + ([(IntKind.wrap .i64 y36)]).length ≤ 1073741824 then (some (.inl ((u13 ++ ([(IntKind.wrap .i64 y36)])), (w64 (u12 + 4))))) else none)) else none) else (some (.inr (.out u13))))
noncomputable def impl_textInts.f (x0 : ByteArray) : Option ((List Int)) :=
  ((loopO (fun s => impl_textInts.s0 x0 s.1 s.2) (([] : List Int), 0)).bind fun o => match o with | .out u18 => (some u18) | .ret r => (some r))
set_option maxRecDepth 100000 in
set_option maxHeartbeats 0 in
theorem impl_textInts_t (w0 : World) (x0 : ByteArray) (r : (List Int)) (H : impl_textInts.f x0 = some r) :
    Calls Try.prog 85 #[.string x0] w0 (Ret (fun v w => ∃ (A0 : Option Addr) (p0 : Nat) (k0 : Chunk), v = .slice A0 r.length p0 ∧ Own (Lay.int .i64) 3 A0 p0 r k0 ∧ Sat [] w0 w [] [(0, k0)])) := by
  have hs : Sat [] w0 w0 [] [] := Sat.init w0 [] [] (by simp) (by simp) List.nodup_nil (by simp [blks])
  unfold impl_textInts.f at H
  refine enter Try.func85 rfl Try.ntmps85 rfl fun a hk => ?_
  apply wp_seq_k; intro K1 hK1
  apply wp_region_lit
  refine sa _ rfl hk rfl rfl rfl fun a hk => ?_
  show wpList _ _ _ [] _ _
  refine wpList_nil ?_
  refine hK1 _ _ ?_
  apply wp_seq_k; intro K2 hK2
  apply wp_region_lit
  refine sa _ rfl hk rfl rfl rfl fun a hk => ?_
  show wpList _ _ _ [] _ _
  refine wpList_nil ?_
  refine hK2 _ _ ?_
  apply wp_seq_k; intro K3 hK3
  apply wp_seq_k; intro K4 hK4
  apply wp_region_lit
  refine sa _ rfl hk rfl rfl rfl fun a hk => ?_
  show wpList _ _ _ [] _ _
  refine wpList_nil ?_
  refine hK4 _ _ ?_
  obtain ⟨o23, h24, HL25⟩ := bind_some H
  clear H
  obtain ⟨R26, hR26⟩ : ∃ R : Act → World → Prop, R = fun a w => ∃ (u18 : List Int) (A21 : Option Addr) (p22 : Nat) (k19 : Chunk), o23 = .out u18 ∧ Kn [(3, (.slice A21 u18.length p22))] 20 a ∧ Sat [] w0 w [] [(3, k19)] ∧ Own (Lay.int .i64) 3 A21 p22 u18 k19 := ⟨_, rfl⟩
  refine wp_cutq R26 ?_ ?_
  ·refine wp_block ?_
   obtain ⟨fu28, h24⟩ := loopO_some h24
   obtain ⟨I27, hI27⟩ : ∃ I : Nat → Act → World → Prop, I = fun fu a w => ∃ (u13 : List Int) (u12 : Int) (A16 : Option Addr) (p17 : Nat) (k14 : Chunk), loopN (fun s => impl_textInts.s0 x0 s.1 s.2) fu (u13, u12) = some o23 ∧ Kn [(0, (.string x0)), (3, (.slice A16 u13.length p17)), (4, (.int .i64 u12))] 20 a ∧ Sat [] w0 w [] [(3, k14)] ∧ Own (Lay.int .i64) 3 A16 p17 u13 k14 := ⟨_, rfl⟩
   refine wp_loop_ghost I27 fu28 ?_ ?_
   ·rw [hI27]
    exact ⟨([] : List Int), 0, none, 0, _, h24, (hk.c 0 rfl (hk.c 3 rfl (hk.c 4 rfl hk.k))), ((hs.addNil 1003).pick [(3, 1003)] rfl), Own.nil _ _⟩
   ·clear h24 hk hs
    intro fu28 a w hI0
    rw [hI27] at hI0
    obtain ⟨u13, u12, A16, p17, k14, hi, hk, hs, o15⟩ := hI0
    obtain ⟨x29, H, h30⟩ := loop_round hi
    try dsimp only at H
    unfold impl_textInts.s0 at H
    apply wp_seq_k; intro K31 hK31
    apply wp_seq_k; intro K32 hK32
    apply wp_region_lit
    refine sm _ rfl hk rfl rfl rfl fun a hk => ?_
    refine sm _ rfl hk rfl rfl rfl fun a hk => ?_
    refine sles rfl hk rfl rfl rfl un9 fun a hk => ?_
    refine sv (.bool (decide (u12 < (x0.size : Int)))) hk rfl rfl rfl fun a hk => ?_
    show wpList _ _ _ [] _ _
    refine wpList_nil ?_
    refine hK32 _ _ ?_
    have hs := hs.pick [(3, 3)] rfl
    rcases cond_some H with ⟨c33, H⟩ | ⟨c33, H⟩
    ·have hk := hk.lit 8 c33 rfl
     refine cnd_true hk rfl rfl ?_
     refine wp_skip ?_
     refine hK31 _ _ ?_
     apply wp_seq_k; intro K34 hK34
     refine wp_block ?_
     apply wp_region_lit
     refine sm _ rfl hk rfl rfl rfl fun a hk => ?_
     refine sm _ rfl hk rfl rfl rfl fun a hk => ?_
     refine sm _ rfl hk rfl rfl rfl fun a hk => ?_
     rcases ite_some H with ⟨c35, H⟩ | ⟨_, H⟩
     rotate_left
     ·cases H
     refine ssl_l rfl hk rfl rfl rfl rfl un9 c35.1 c35.2 fun a hk => ?_
     obtain ⟨y36, h37, H⟩ := bind_some H
     refine sc rfl en110 hk rfl rfl rfl (impl_littleWord_t _ (x0.extract u12.toNat x0.size) _ h37) ?_
     rintro _ w ⟨rfl, hG⟩ a hk
     have hs := hs.call0 hG
     refine scn rfl hk rfl rfl rfl un3 un67 fun a hk => ?_
     refine sbs (L := (Lay.int .i64)) (pv := [(0, (.int .i64 (IntKind.wrap .i64 y36)))]) (xs := [(IntKind.wrap .i64 y36)]) (ess := [[.int .i64 (IntKind.wrap .i64 y36)]]) 4 hs rfl hk rfl rfl rfl un47 (bs3_11 (IntKind.wrap .i64 y36)) (AllOwn.cons0 ⟨rfl, rfl⟩ AllOwn.nil) rfl rfl rfl fun b38 k39 w a hk o40 hs => ?_
     rcases ite_some H with ⟨c41, H⟩ | ⟨_, H⟩
     rotate_left
     ·cases H
     refine sap 3 (xs := u13) (ys := [(IntKind.wrap .i64 y36)]) (flat_flat : ((Lay.int .i64)).Flat) hs rfl o15 o40.view (hs.hasG (k := 4) rfl) rfl hk rfl rfl rfl rfl rfl rfl un47 mk3 rfl rfl rfl c41 fun A42 p43 k44 w a hk o45 hs => ?_
     refine sa _ rfl hk rfl rfl rfl fun a hk => ?_
     show wpList _ _ _ [] _ _
     refine wpList_nil ?_
     refine hK34 _ _ ?_
     apply wp_region_lit
     refine sm _ rfl hk rfl rfl rfl fun a hk => ?_
     refine sv (.int .i64 (w64 (u12 + 4))) hk rfl rfl rfl fun a hk => ?_
     refine sa _ rfl hk rfl rfl rfl fun a hk => ?_
     show wpList _ _ _ [] _ _
     refine wpList_nil ?_
     obtain rfl := Option.some.inj H
     obtain ⟨m46, hmm46, h30⟩ := h30
     show ∃ n', n' < _ ∧ I27 n' _ _
     refine ⟨m46, hmm46, ?_⟩
     rw [hI27]
     exact ⟨(u13 ++ ([(IntKind.wrap .i64 y36)])), (w64 (u12 + 4)), A42, p43, _, h30, (hk.c 0 rfl (hk.c 3 rfl (hk.c 4 rfl hk.k))), (hs.pick [(3, 3)] rfl), o45⟩
    ·have hk := hk.lit 8 c33 rfl
     refine cnd_false hk rfl rfl ?_
     refine wp_exit ?_
     obtain rfl := Option.some.inj H
     show R26 _ _
     rw [hR26]
     exact ⟨u13, A16, p17, _, h30.symm, (hk.c 3 rfl hk.k), (hs.pick [(3, 3)] rfl), o15⟩
  ·intro a w hR0
   rw [hR26] at hR0
   obtain ⟨u18, A21, p22, k19, rfl, hk, hs, o20⟩ := hR0
   have H := HL25
   try dsimp only at H
   refine hK3 _ _ ?_
   have hs := hs.pick [(3, 3)] rfl
   apply wp_seq_k; intro K47 hK47
   apply wp_region_lit
   refine sm _ rfl hk rfl rfl rfl fun a hk => ?_
   refine sa _ rfl hk rfl rfl rfl fun a hk => ?_
   show wpList _ _ _ [] _ _
   refine wpList_nil ?_
   refine hK47 _ _ ?_
   refine wp_ret ?_
   obtain rfl := Option.some.inj H
   exact fin hk _ [(.slice A21 u18.length p22)] rfl ⟨rfl, trivial⟩ ⟨A21, p22, _, rfl, o20, (hs.pick [(0, 3)] rfl).dnil⟩

noncomputable def impl_TextInts.f (x0 : ByteArray) : Option ((List Int) × Int) :=
  ((impl_areShort.f ([x0])).bind fun y7 => (bif (!y7) then (some (([] : List Int), 2)) else (bif ((Int.tmod (x0.size : Int) 4) != 0) then (some (([] : List Int), 3)) else ((impl_textInts.f x0).bind fun y15 => (some (y15, 0))))))
set_option maxRecDepth 100000 in
set_option maxHeartbeats 0 in
theorem impl_TextInts_t (w0 : World) (x0 : ByteArray) (r : (List Int) × Int) (H : impl_TextInts.f x0 = some r) :
    Calls Try.prog 41 #[.string x0] w0 (Ret (fun v w => ∃ (A0 : Option Addr) (p0 : Nat) (k0 : Chunk), v = .tuple #[.slice A0 r.1.length p0, .int .i64 r.2] ∧ Own (Lay.int .i64) 3 A0 p0 r.1 k0 ∧ Sat [] w0 w [] [(0, k0)])) := by
  have hs : Sat [] w0 w0 [] [] := Sat.init w0 [] [] (by simp) (by simp) List.nodup_nil (by simp [blks])
  unfold impl_TextInts.f at H
  refine enter Try.func41 rfl Try.ntmps41 rfl fun a hk => ?_
  apply wp_seq_k; intro K1 hK1
  apply wp_region_lit
  refine sa _ rfl hk rfl rfl rfl fun a hk => ?_
  refine sa _ rfl hk rfl rfl rfl fun a hk => ?_
  show wpList _ _ _ [] _ _
  refine wpList_nil ?_
  refine hK1 _ _ ?_
  apply wp_seq_k; intro K2 hK2
  refine wp_block ?_
  apply wp_seq_k; intro K3 hK3
  apply wp_region_lit
  refine sm _ rfl hk rfl rfl rfl fun a hk => ?_
  refine sbs (L := Lay.str) (pv := [(0, (.string x0))]) (xs := [x0]) (ess := [[.string x0]]) 1 hs rfl hk rfl rfl rfl un86 (bs9_12 x0) (AllOwn.cons0 ⟨rfl, rfl⟩ AllOwn.nil) rfl rfl rfl fun b4 k5 w a hk o6 hs => ?_
  obtain ⟨y7, h8, H⟩ := bind_some H
  refine sc rfl en45 hk rfl rfl rfl (impl_areShort_t _ (some ⟨b4, 0, none⟩) 1 ([x0]) _ o6.view (hs.hasG (k := 1) rfl) _ h8) ?_
  rintro _ w ⟨rfl, hG⟩ a hk
  have hs := hs.call0 hG
  refine sv (.bool (!y7)) hk rfl rfl rfl fun a hk => ?_
  refine sa _ rfl hk rfl rfl rfl fun a hk => ?_
  show wpList _ _ _ [] _ _
  refine wpList_nil ?_
  refine hK3 _ _ ?_
  rcases cond_some H with ⟨c9, H⟩ | ⟨c9, H⟩
  ·have hk := hk.lit 4 c9 rfl
   refine cnd_true hk rfl rfl ?_
   apply wp_seq_k; intro K10 hK10
   apply wp_region_lit
   refine sa _ rfl hk rfl rfl rfl fun a hk => ?_
   refine sa _ rfl hk rfl rfl rfl fun a hk => ?_
   show wpList _ _ _ [] _ _
   refine wpList_nil ?_
   refine hK10 _ _ ?_
   refine wp_ret ?_
   obtain rfl := Option.some.inj H
   have hs := hs.addNil 2
   exact fin hk _ [(.slice none 0 0), (.int .i64 2)] rfl ⟨rfl, ⟨rfl, trivial⟩⟩ ⟨none, 0, [], rfl, Own.nil _ _, (hs.pick [(0, 2)] rfl).dnil⟩
  ·have hk := hk.lit 4 c9 rfl
   refine cnd_false hk rfl rfl ?_
   apply wp_seq_k; intro K11 hK11
   apply wp_region_lit
   refine sm _ rfl hk rfl rfl rfl fun a hk => ?_
   refine sles rfl hk rfl rfl rfl un9 fun a hk => ?_
   refine sv (.int .i64 (Int.tmod (x0.size : Int) 4)) hk rfl rfl rfl fun a hk => ?_
   refine sv (.bool ((Int.tmod (x0.size : Int) 4) != 0)) hk rfl rfl rfl fun a hk => ?_
   refine sa _ rfl hk rfl rfl rfl fun a hk => ?_
   show wpList _ _ _ [] _ _
   refine wpList_nil ?_
   refine hK11 _ _ ?_
   rcases cond_some H with ⟨c12, H⟩ | ⟨c12, H⟩
   ·have hk := hk.lit 9 c12 rfl
    refine cnd_true hk rfl rfl ?_
    apply wp_seq_k; intro K13 hK13
    apply wp_region_lit
    refine sa _ rfl hk rfl rfl rfl fun a hk => ?_
    refine sa _ rfl hk rfl rfl rfl fun a hk => ?_
    show wpList _ _ _ [] _ _
    refine wpList_nil ?_
    refine hK13 _ _ ?_
    have hs := hs.pick [] rfl
    refine wp_ret ?_
    obtain rfl := Option.some.inj H
    have hs := hs.addNil 3
    exact fin hk _ [(.slice none 0 0), (.int .i64 3)] rfl ⟨rfl, ⟨rfl, trivial⟩⟩ ⟨none, 0, [], rfl, Own.nil _ _, (hs.pick [(0, 3)] rfl).dnil⟩
   ·have hk := hk.lit 9 c12 rfl
    refine cnd_false hk rfl rfl ?_
    refine wp_skip ?_
    refine hK2 _ _ ?_
    have hs := hs.pick [] rfl
    apply wp_seq_k; intro K14 hK14
    apply wp_region_lit
    refine sm _ rfl hk rfl rfl rfl fun a hk => ?_
    obtain ⟨y15, h16, H⟩ := bind_some H
    refine sc rfl en85 hk rfl rfl rfl (impl_textInts_t _ x0 _ h16) ?_
    rintro _ w ⟨A17, p18, k19, rfl, o20, hG⟩ a hk
    have hs := hs.call0k hG [4] rfl
    refine sa _ rfl hk rfl rfl rfl fun a hk => ?_
    refine sa _ rfl hk rfl rfl rfl fun a hk => ?_
    show wpList _ _ _ [] _ _
    refine wpList_nil ?_
    refine hK14 _ _ ?_
    refine wp_ret ?_
    obtain rfl := Option.some.inj H
    exact fin hk _ [(.slice A17 y15.length p18), (.int .i64 0)] rfl ⟨rfl, ⟨rfl, trivial⟩⟩ ⟨A17, p18, _, rfl, o20, (hs.pick [(0, 4)] rfl).dnil⟩

noncomputable def laws_sameInts.s0 (l0 : List Int) (l1 : List Int) (u10 : Int) : Option ((Int) ⊕ Ex (Unit) (Bool)) :=
  (bif (decide (u10 < (l0.length : Int))) then (if 0 ≤ u10 ∧ u10 < (l0.length : Int) then (if 0 ≤ u10 ∧ u10 < (l1.length : Int) then (bif ((l0.getD u10.toNat 0) != (l1.getD u10.toNat 0)) then (some (.inr (.ret false))) else (some (.inl (w64 (u10 + 1))))) else none) else none) else (some (.inr (.out ()))))
noncomputable def laws_sameInts.f (l0 : List Int) (l1 : List Int) : Option (Bool) :=
  (bif ((l0.length : Int) != (l1.length : Int)) then (some false) else ((loopO (fun s => laws_sameInts.s0 l0 l1 s) 0).bind fun o => match o with | .out _ => (some true) | .ret r => (some r)))
set_option maxRecDepth 100000 in
set_option maxHeartbeats 0 in
theorem laws_sameInts_t (w0 : World) (A0_ : Option Addr) (p0_ : Nat) (l0 : List Int) (k0_ : Chunk) (v0_ : View (Lay.int .i64) A0_ p0_ l0 k0_) (w0_ : Has w0 k0_) (A1_ : Option Addr) (p1_ : Nat) (l1 : List Int) (k1_ : Chunk) (v1_ : View (Lay.int .i64) A1_ p1_ l1 k1_) (w1_ : Has w0 k1_) (r : Bool) (H : laws_sameInts.f l0 l1 = some r) :
    Calls Try.prog 42 #[.slice A0_ l0.length p0_, .slice A1_ l1.length p1_] w0 (Ret (fun v w => v = .bool r ∧ Sat [] w0 w [] [])) := by
  have hs : Sat [] w0 w0 [(1, k0_), (2, k1_)] [] := Sat.init w0 [(1, k0_), (2, k1_)] [] (by simp only [List.mem_cons, List.not_mem_nil, or_false]; rintro x (rfl | rfl) <;> assumption) (by simp) List.nodup_nil (by simp [blks])
  unfold laws_sameInts.f at H
  refine enter Try.func42 rfl Try.ntmps42 rfl fun a hk => ?_
  apply wp_seq_k; intro K1 hK1
  apply wp_region_lit
  refine sa _ rfl hk rfl rfl rfl fun a hk => ?_
  show wpList _ _ _ [] _ _
  refine wpList_nil ?_
  refine hK1 _ _ ?_
  apply wp_seq_k; intro K2 hK2
  apply wp_seq_k; intro K3 hK3
  apply wp_region_lit
  refine sm _ rfl hk rfl rfl rfl fun a hk => ?_
  refine sle rfl hk rfl rfl rfl un47 fun a hk => ?_
  refine sm _ rfl hk rfl rfl rfl fun a hk => ?_
  refine sle rfl hk rfl rfl rfl un47 fun a hk => ?_
  refine sv (.bool ((l0.length : Int) != (l1.length : Int))) hk rfl rfl rfl fun a hk => ?_
  show wpList _ _ _ [] _ _
  refine wpList_nil ?_
  refine hK3 _ _ ?_
  rcases cond_some H with ⟨c4, H⟩ | ⟨c4, H⟩
  ·have hk := hk.lit 10 c4 rfl
   refine cnd_true hk rfl rfl ?_
   apply wp_seq_k; intro K5 hK5
   apply wp_region_lit
   refine sa _ rfl hk rfl rfl rfl fun a hk => ?_
   show wpList _ _ _ [] _ _
   refine wpList_nil ?_
   refine hK5 _ _ ?_
   refine wp_ret ?_
   obtain rfl := Option.some.inj H
   exact fin hk _ [(.bool false)] rfl ⟨rfl, trivial⟩ ⟨rfl, (hs.pick [] rfl).dnil⟩
  ·have hk := hk.lit 10 c4 rfl
   refine cnd_false hk rfl rfl ?_
   refine wp_skip ?_
   refine hK2 _ _ ?_
   apply wp_seq_k; intro K6 hK6
   apply wp_seq_k; intro K7 hK7
   apply wp_region_lit
   refine sa _ rfl hk rfl rfl rfl fun a hk => ?_
   show wpList _ _ _ [] _ _
   refine wpList_nil ?_
   refine hK7 _ _ ?_
   have hs := hs.pick [] rfl
   obtain ⟨o11, h12, HL13⟩ := bind_some H
   clear H
   obtain ⟨R14, hR14⟩ : ∃ R : Act → World → Prop, R = fun a w => o11 = .out () ∧ Kn [] 26 a ∧ Sat [] w0 w [(1, k0_), (2, k1_)] [] := ⟨_, rfl⟩
   refine wp_cutq R14 ?_ ?_
   ·refine wp_block ?_
    obtain ⟨fu16, h12⟩ := loopO_some h12
    obtain ⟨I15, hI15⟩ : ∃ I : Nat → Act → World → Prop, I = fun fu a w => ∃ (u10 : Int), loopN (fun s => laws_sameInts.s0 l0 l1 s) fu u10 = some o11 ∧ Kn [(0, (.slice A0_ l0.length p0_)), (1, (.slice A1_ l1.length p1_)), (5, (.int .i64 u10))] 26 a ∧ Sat [] w0 w [(1, k0_), (2, k1_)] [] := ⟨_, rfl⟩
    refine wp_loop_ghost I15 fu16 ?_ ?_
    ·rw [hI15]
     exact ⟨0, h12, (hk.c 0 rfl (hk.c 1 rfl (hk.c 5 rfl hk.k))), (hs.pick [] rfl)⟩
    ·clear h12 hk hs
     intro fu16 a w hI0
     rw [hI15] at hI0
     obtain ⟨u10, hi, hk, hs⟩ := hI0
     obtain ⟨x17, H, h18⟩ := loop_round hi
     try dsimp only at H
     unfold laws_sameInts.s0 at H
     apply wp_seq_k; intro K19 hK19
     apply wp_seq_k; intro K20 hK20
     apply wp_region_lit
     refine sm _ rfl hk rfl rfl rfl fun a hk => ?_
     refine sm _ rfl hk rfl rfl rfl fun a hk => ?_
     refine sle rfl hk rfl rfl rfl un47 fun a hk => ?_
     refine sv (.bool (decide (u10 < (l0.length : Int)))) hk rfl rfl rfl fun a hk => ?_
     show wpList _ _ _ [] _ _
     refine wpList_nil ?_
     refine hK20 _ _ ?_
     rcases cond_some H with ⟨c21, H⟩ | ⟨c21, H⟩
     ·have hk := hk.lit 14 c21 rfl
      refine cnd_true hk rfl rfl ?_
      refine wp_skip ?_
      refine hK19 _ _ ?_
      apply wp_seq_k; intro K22 hK22
      refine wp_block ?_
      apply wp_seq_k; intro K23 hK23
      refine wp_region_tree (.q 0 (.q 1 (.q 2 (.q 3 (.q 4 (.alt 5 (.alt 6 (.alt 7 (.alt 8 .done .stop) .stop) .stop) .stop)))))) mo (by kernel_rfl) (hs.pick [] rfl) fun _ => ?_
      have hs := hs.drew
      refine tqst (.slice A0_ l0.length p0_) hk rfl rfl rfl rfl (fun w hs => sm _ rfl hk rfl rfl rfl fun a hk => qe hk) fun a hk => ?_
      refine tqst (.int .i64 u10) hk rfl rfl rfl rfl (fun w hs => sm _ rfl hk rfl rfl rfl fun a hk => qe hk) fun a hk => ?_
      rcases ite_some H with ⟨c25, H⟩ | ⟨_, H⟩
      rotate_left
      ·cases H
      obtain ⟨b26, q27, hAc25⟩ := (v0_).some_ u10 c25.1 c25.2
      refine tqst (.pointer (some (padd A0_ (u10.toNat * 1)))) hk rfl rfl rfl rfl (fun w hs => si rfl hk rfl rfl rfl rfl un47 sz3 c25.1 c25.2 hAc25 fun a hk => qe hk) fun a hk => ?_
      obtain ⟨_, rfl, e28⟩ := (v0_).at_ 0 u10 c25.1 c25.2
      refine tqst (.int .i64 (l0.getD u10.toNat 0)) hk rfl rfl rfl rfl (fun w hs => sl (v := (.int .i64 (l0.getD u10.toNat 0))) rfl hk rfl rfl rfl ag3 ((e28 0 _ rfl).cell (hs.hasD (k := 1) rfl)) fun a hk => qe hk) fun a hk => ?_
      refine tqst (.slice A1_ l1.length p1_) hk rfl rfl rfl rfl (fun w hs => sm _ rfl hk rfl rfl rfl fun a hk => qe hk) fun a hk => ?_
      refine tsst hk rfl rfl (fun K_r24_5 hK_r24_5 w hF => ?_) wt_stop
      have hs := hs.f hF
      refine sm _ rfl hk rfl rfl rfl fun a hk => ?_
      refine se (hs.pick [] rfl) hk (hK_r24_5 _ _ ?_)
      refine tsst hk rfl rfl (fun K_r24_6 hK_r24_6 w hF => ?_) wt_stop
      have hs := hs.f hF
      rcases ite_some H with ⟨c29, H⟩ | ⟨_, H⟩
      rotate_left
      ·cases H
      obtain ⟨b30, q31, hAc29⟩ := (v1_).some_ u10 c29.1 c29.2
      refine si rfl hk rfl rfl rfl rfl un47 sz3 c29.1 c29.2 hAc29 fun a hk => ?_
      refine se (hs.pick [] rfl) hk (hK_r24_6 _ _ ?_)
      refine tsst hk rfl rfl (fun K_r24_7 hK_r24_7 w hF => ?_) wt_stop
      have hs := hs.f hF
      obtain ⟨_, rfl, e32⟩ := (v1_).at_ 0 u10 c29.1 c29.2
      refine sl (v := (.int .i64 (l1.getD u10.toNat 0))) rfl hk rfl rfl rfl ag3 ((e32 0 _ rfl).cell (hs.hasD (k := 2) rfl)) fun a hk => ?_
      refine se (hs.pick [] rfl) hk (hK_r24_7 _ _ ?_)
      refine tsst hk rfl rfl (fun K_r24_8 hK_r24_8 w hF => ?_) wt_stop
      have hs := hs.f hF
      refine sv (.bool ((l0.getD u10.toNat 0) != (l1.getD u10.toNat 0))) hk rfl rfl rfl fun a hk => ?_
      refine se (hs.pick [] rfl) hk (hK_r24_8 _ _ ?_)
      refine wtl_nil fun w hF _ => ?_
      have hs := hs.f hF
      refine hK23 _ _ ?_
      rcases cond_some H with ⟨c33, H⟩ | ⟨c33, H⟩
      ·have hk := hk.lit 25 c33 rfl
       refine cnd_true hk rfl rfl ?_
       apply wp_seq_k; intro K34 hK34
       apply wp_region_lit
       refine sa _ rfl hk rfl rfl rfl fun a hk => ?_
       show wpList _ _ _ [] _ _
       refine wpList_nil ?_
       refine hK34 _ _ ?_
       have hs := hs.pick [] rfl
       refine wp_ret ?_
       obtain rfl := Option.some.inj H
       have ho11 := h18
       try dsimp only at ho11
       subst ho11
       have H := HL13
       try dsimp only at H
       obtain rfl := Option.some.inj H
       exact fin hk _ [(.bool false)] rfl ⟨rfl, trivial⟩ ⟨rfl, (hs.pick [] rfl).dnil⟩
      ·have hk := hk.lit 25 c33 rfl
       refine cnd_false hk rfl rfl ?_
       refine wp_skip ?_
       refine hK22 _ _ ?_
       have hs := hs.pick [] rfl
       apply wp_region_lit
       refine sm _ rfl hk rfl rfl rfl fun a hk => ?_
       refine sv (.int .i64 (w64 (u10 + 1))) hk rfl rfl rfl fun a hk => ?_
       refine sa _ rfl hk rfl rfl rfl fun a hk => ?_
       show wpList _ _ _ [] _ _
       refine wpList_nil ?_
       obtain rfl := Option.some.inj H
       obtain ⟨m35, hmm35, h18⟩ := h18
       show ∃ n', n' < _ ∧ I15 n' _ _
       refine ⟨m35, hmm35, ?_⟩
       rw [hI15]
       exact ⟨(w64 (u10 + 1)), h18, (hk.c 0 rfl (hk.c 1 rfl (hk.c 5 rfl hk.k))), (hs.pick [] rfl)⟩
     ·have hk := hk.lit 14 c21 rfl
      refine cnd_false hk rfl rfl ?_
      refine wp_exit ?_
      obtain rfl := Option.some.inj H
      show R14 _ _
      rw [hR14]
      exact ⟨h18.symm, hk.k, (hs.pick [] rfl)⟩
   ·intro a w hR0
    rw [hR14] at hR0
    obtain ⟨rfl, hk, hs⟩ := hR0
    have H := HL13
    try dsimp only at H
    refine hK6 _ _ ?_
    apply wp_seq_k; intro K36 hK36
    apply wp_region_lit
    refine sa _ rfl hk rfl rfl rfl fun a hk => ?_
    show wpList _ _ _ [] _ _
    refine wpList_nil ?_
    refine hK36 _ _ ?_
    refine wp_ret ?_
    obtain rfl := Option.some.inj H
    exact fin hk _ [(.bool true)] rfl ⟨rfl, trivial⟩ ⟨rfl, (hs.pick [] rfl).dnil⟩

end Go.Proofs.Yteklgnhfgdhdiaa
