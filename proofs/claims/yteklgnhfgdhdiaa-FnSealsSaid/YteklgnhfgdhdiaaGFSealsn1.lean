/- Further functions. -/
import Derived.Test.YteklgnhfgdhdiaaGFSeals
namespace Go.Proofs.Yteklgnhfgdhdiaa
open Go Go.Z Go.Proofs Go.MuLone Go.ChangeShapes Go.WideShapes Go.ChangeAt Go.RowKit
set_option linter.unusedVariables false
set_option linter.unusedSimpArgs false
noncomputable def impl_limbs_plus.s0 (x1 : List Int) (u16 : List Int) (u20 : Int) : Option (((List Int) × Int) ⊕ Ex ((List Int)) ((List Int))) :=
  (bif (decide (u20 < 5)) then (if 0 ≤ u20 ∧ u20 < (5 : Int) then (if 0 ≤ u20 ∧ u20 < (5 : Int) then (if 0 ≤ u20 ∧ u20 < (5 : Int) then (some (.inl ((u16.set u20.toNat (IntKind.wrap .u64 ((u16.getD u20.toNat 0) + (x1.getD u20.toNat 0)))), (w64 (u20 + 1))))) else none) else none) else none) else (some (.inr (.out u16))))
noncomputable def impl_limbs_plus.f (x0 : List Int) (x1 : List Int) : Option ((List Int)) :=
  ((loopO (fun s => impl_limbs_plus.s0 x1 s.1 s.2) (x0, 0)).bind fun o => match o with | .out u21 => ((impl_limbs_carried.f u21).bind fun y55 => (some y55)) | .ret r => (some r))
set_option maxRecDepth 100000 in
set_option maxHeartbeats 0 in
theorem impl_limbs_plus_t (w0 : World) (x0 : List Int) (e0_ : x0.length = 5) (x1 : List Int) (e1_ : x1.length = 5) (r : (List Int)) (H : impl_limbs_plus.f x0 x1 = some r) :
    Calls Try.prog 98 #[aggI .u64 x0, aggI .u64 x1] w0 (Ret (fun v w => v = aggI .u64 r ∧ r.length = 5 ∧ Sat [] w0 w [] [])) := by
  have hs : Sat [] w0 w0 [] [] := Sat.init w0 [] [] (by simp) (by simp) List.nodup_nil (by simp [blks])
  unfold impl_limbs_plus.f at H
  refine enter Try.func98 rfl Try.ntmps98 rfl fun a hk => ?_
  apply wp_seq_k; intro K1 hK1
  apply wp_region_lit
  refine sbxa 1 hs rfl hk rfl rfl rfl e0_ rfl fun b2 k3 w a hk o4 hs => ?_
  refine sbxa 2 hs rfl hk rfl rfl rfl e1_ rfl fun b5 k6 w a hk o7 hs => ?_
  refine sala 3 ((Lay.int .u64)) (m := 5) (z := 0) (zc := [.int .u64 0]) hs rfl hk rfl rfl ze99 (by exact ⟨rfl, rfl⟩) rfl rfl rfl fun b8 k9 w a hk o10 hs => ?_
  have lh11 : (List.replicate 5 (0 : Int)).length = 5 := List.length_replicate
  show wpList _ _ _ [] _ _
  refine wpList_nil ?_
  refine hK1 _ _ ?_
  apply wp_seq_k; intro K12 hK12
  apply wp_seq_k; intro K13 hK13
  apply wp_region_lit
  refine sm _ rfl hk rfl rfl rfl fun a hk => ?_
  show wpList _ _ _ [] _ _
  refine wpList_nil ?_
  refine hK13 _ _ ?_
  obtain ⟨o25, h26, HL27⟩ := bind_some H
  clear H
  obtain ⟨R28, hR28⟩ : ∃ R : Act → World → Prop, R = fun a w => ∃ (u21 : List Int) (k22 : Chunk), o25 = .out u21 ∧ Kn [(2, (.pointer (some ⟨b2, 0, none⟩))), (4, (.pointer (some ⟨b8, 0, none⟩)))] 20 a ∧ Sat [] w0 w [] [(1, k22), (3, k9)] ∧ Own (Lay.int .u64) 99 (some ⟨b2, 0, none⟩) 5 u21 k22 ∧ u21.length = 5 := ⟨_, rfl⟩
  refine wp_cutq R28 ?_ ?_
  ·refine wp_block ?_
   obtain ⟨fu30, h26⟩ := loopO_some h26
   obtain ⟨I29, hI29⟩ : ∃ I : Nat → Act → World → Prop, I = fun fu a w => ∃ (u16 : List Int) (u20 : Int) (k17 : Chunk), loopN (fun s => impl_limbs_plus.s0 x1 s.1 s.2) fu (u16, u20) = some o25 ∧ Kn [(2, (.pointer (some ⟨b2, 0, none⟩))), (3, (.pointer (some ⟨b5, 0, none⟩))), (4, (.pointer (some ⟨b8, 0, none⟩))), (6, (.int .i64 u20))] 20 a ∧ Sat [] w0 w [] [(1, k17), (2, k6), (3, k9)] ∧ Own (Lay.int .u64) 99 (some ⟨b2, 0, none⟩) 5 u16 k17 ∧ u16.length = 5 := ⟨_, rfl⟩
   refine wp_loop_ghost I29 fu30 ?_ ?_
   ·rw [hI29]
    exact ⟨x0, 0, _, h26, (hk.c 2 rfl (hk.c 3 rfl (hk.c 4 rfl (hk.c 6 rfl hk.k)))), (hs.pick [(1, 1), (2, 2), (3, 3)] rfl), o4, e0_⟩
   ·clear h26 hk hs
    intro fu30 a w hI0
    rw [hI29] at hI0
    obtain ⟨u16, u20, k17, hi, hk, hs, o18, lh19⟩ := hI0
    obtain ⟨x31, H, h32⟩ := loop_round hi
    try dsimp only at H
    unfold impl_limbs_plus.s0 at H
    apply wp_seq_k; intro K33 hK33
    apply wp_region_lit
    refine sv (.bool (decide (u20 < 5))) hk rfl rfl rfl fun a hk => ?_
    show wpList _ _ _ [] _ _
    refine wpList_nil ?_
    refine hK33 _ _ ?_
    apply wp_seq_k; intro K34 hK34
    rcases cond_some H with ⟨c35, H⟩ | ⟨c35, H⟩
    ·have hk := hk.lit 7 c35 rfl
     refine cnd_true hk rfl rfl ?_
     refine wp_skip ?_
     refine hK34 _ _ ?_
     have hs := hs.pick [(1, 1), (2, 2), (3, 3)] rfl
     apply wp_seq_k; intro K36 hK36
     refine wp_block ?_
     apply wp_seq_k; intro K37 hK37
     apply wp_region_lit
     refine sm _ rfl hk rfl rfl rfl fun a hk => ?_
     refine sa _ rfl hk rfl rfl rfl fun a hk => ?_
     show wpList _ _ _ [] _ _
     refine wpList_nil ?_
     refine hK37 _ _ ?_
     refine wp_region_tree (.q 0 (.q 1 (.q 2 (.alt 3 (.alt 4 (.alt 5 (.alt 6 (.alt 7 (.last 8) .stop) .stop) .stop) .stop) .stop)))) mo (by kernel_rfl) (hs.pick [(1, 1), (2, 2), (3, 3)] rfl) fun _ => ?_
     have hs := hs.drew
     refine tqst (.int .i64 u20) hk rfl rfl rfl rfl (fun w hs => sm _ rfl hk rfl rfl rfl fun a hk => qe hk) fun a hk => ?_
     rcases ite_some H with ⟨c39, H⟩ | ⟨_, H⟩
     rotate_left
     ·cases H
     obtain ⟨b40, q41, hAc39⟩ := (o18.view).some_ u20 c39.1 (by rw [lh19]; exact c39.2)
     refine tqst (.pointer (some (padd (some ⟨b2, 0, none⟩) (u20.toNat * 1)))) hk rfl rfl rfl rfl (fun w hs => sia rfl hk rfl rfl rfl rfl un99 sz97 c39.1 c39.2 hAc39 fun a hk => qe hk) fun a hk => ?_
     obtain ⟨_, rfl, e42⟩ := (o18.view).at_ 0 u20 c39.1 (by rw [lh19]; exact c39.2)
     refine tqst (.int .u64 (u16.getD u20.toNat 0)) hk rfl rfl rfl rfl (fun w hs => sl (v := (.int .u64 (u16.getD u20.toNat 0))) rfl hk rfl rfl rfl ag97 ((e42 0 _ rfl).cell (hs.hasG (k := 1) rfl)) fun a hk => qe hk) fun a hk => ?_
     refine tsst hk rfl rfl (fun K_r38_3 hK_r38_3 w hF => ?_) wt_stop
     have hs := hs.f hF
     refine sm _ rfl hk rfl rfl rfl fun a hk => ?_
     refine se (hs.pick [(1, 1), (2, 2), (3, 3)] rfl) hk (hK_r38_3 _ _ ?_)
     refine tsst hk rfl rfl (fun K_r38_4 hK_r38_4 w hF => ?_) wt_stop
     have hs := hs.f hF
     rcases ite_some H with ⟨c43, H⟩ | ⟨_, H⟩
     rotate_left
     ·cases H
     obtain ⟨b44, q45, hAc43⟩ := (o7.view).some_ u20 c43.1 (by rw [e1_]; exact c43.2)
     refine sia rfl hk rfl rfl rfl rfl un99 sz97 c43.1 c43.2 hAc43 fun a hk => ?_
     refine se (hs.pick [(1, 1), (2, 2), (3, 3)] rfl) hk (hK_r38_4 _ _ ?_)
     refine tsst hk rfl rfl (fun K_r38_5 hK_r38_5 w hF => ?_) wt_stop
     have hs := hs.f hF
     obtain ⟨_, rfl, e46⟩ := (o7.view).at_ 0 u20 c43.1 (by rw [e1_]; exact c43.2)
     refine sl (v := (.int .u64 (x1.getD u20.toNat 0))) rfl hk rfl rfl rfl ag97 ((e46 0 _ rfl).cell (hs.hasG (k := 2) rfl)) fun a hk => ?_
     refine se (hs.pick [(1, 1), (2, 2), (3, 3)] rfl) hk (hK_r38_5 _ _ ?_)
     refine tsst hk rfl rfl (fun K_r38_6 hK_r38_6 w hF => ?_) wt_stop
     have hs := hs.f hF
     refine sv (.int .u64 (IntKind.wrap .u64 ((u16.getD u20.toNat 0) + (x1.getD u20.toNat 0)))) hk rfl rfl rfl fun a hk => ?_
     refine se (hs.pick [(1, 1), (2, 2), (3, 3)] rfl) hk (hK_r38_6 _ _ ?_)
     refine tsst hk rfl rfl (fun K_r38_7 hK_r38_7 w hF => ?_) wt_stop
     have hs := hs.f hF
     rcases ite_some H with ⟨c47, H⟩ | ⟨_, H⟩
     rotate_left
     ·cases H
     obtain ⟨b48, q49, hAc47⟩ := (o18.view).some_ u20 c47.1 (by rw [lh19]; exact c47.2)
     refine sia rfl hk rfl rfl rfl rfl un99 sz97 c47.1 c47.2 hAc47 fun a hk => ?_
     refine se (hs.pick [(1, 1), (2, 2), (3, 3)] rfl) hk (hK_r38_7 _ _ ?_)
     refine tlst hk rfl rfl fun K_r38_8 hK_r38_8 w hF => ?_
     have hs := hs.f hF
     refine so (j := 0) 1 0 (IntKind.wrap .u64 ((u16.getD u20.toNat 0) + (x1.getD u20.toNat 0))) hs rfl o18 c47.1 (by rw [lh19]; exact c47.2) rfl hk rfl rfl rfl rfl rfl sz97 (by simp [Value.cells, Value.oneCell']) (Nat.le_of_ble_eq_true rfl) (fun _ _ h => ⟨by rw [h.1]; rfl, h.2⟩) fun k50 w a hk o51 hs => ?_
     have lh52 : (u16.set u20.toNat (IntKind.wrap .u64 ((u16.getD u20.toNat 0) + (x1.getD u20.toNat 0)))).length = 5 := by rw [List.length_set]; exact lh19
     refine se trivial hk (hK_r38_8 _ _ fun w hF => ?_)
     have hs := hs.f hF
     refine hK36 _ _ ?_
     apply wp_region_lit
     refine sv (.int .i64 (w64 (u20 + 1))) hk rfl rfl rfl fun a hk => ?_
     refine sm _ rfl hk rfl rfl rfl fun a hk => ?_
     show wpList _ _ _ [] _ _
     refine wpList_nil ?_
     obtain rfl := Option.some.inj H
     obtain ⟨m53, hmm53, h32⟩ := h32
     show ∃ n', n' < _ ∧ I29 n' _ _
     refine ⟨m53, hmm53, ?_⟩
     rw [hI29]
     exact ⟨(u16.set u20.toNat (IntKind.wrap .u64 ((u16.getD u20.toNat 0) + (x1.getD u20.toNat 0)))), (w64 (u20 + 1)), _, h32, (hk.c 2 rfl (hk.c 3 rfl (hk.c 4 rfl (hk.c 6 rfl hk.k)))), (hs.pick [(1, 1), (2, 2), (3, 3)] rfl), o51, lh52⟩
    ·have hk := hk.lit 7 c35 rfl
     refine cnd_false hk rfl rfl ?_
     refine wp_exit ?_
     obtain rfl := Option.some.inj H
     show R28 _ _
     rw [hR28]
     exact ⟨u16, _, h32.symm, (hk.c 2 rfl (hk.c 4 rfl hk.k)), (hs.pick [(1, 1), (3, 3)] rfl), o18, lh19⟩
  ·intro a w hR0
   rw [hR28] at hR0
   obtain ⟨u21, k22, rfl, hk, hs, o23, lh24⟩ := hR0
   have H := HL27
   try dsimp only at H
   refine hK12 _ _ ?_
   apply wp_seq_k; intro K54 hK54
   apply wp_region_lit
   refine slna (k := 1) hs rfl o23 lh24 rfl hk rfl rfl rfl ag99 sz99 fun a hk => ?_
   obtain ⟨y55, h56, H⟩ := bind_some H
   refine sc rfl en130 hk rfl rfl rfl (impl_limbs_carried_t _ u21 lh24 _ h56) ?_
   rintro _ w ⟨rfl, lh57, hG⟩ a hk
   have hs := hs.call0 hG
   refine sswa 3 y55 hs rfl o10 lh11 lh57 rfl rfl hk rfl rfl rfl rfl sz99 fun k58 w a hk o59 hs => ?_
   show wpList _ _ _ [] _ _
   refine wpList_nil ?_
   refine hK54 _ _ ?_
   have hs := hs.pick [(3, 3)] rfl
   refine wp_ret ?_
   obtain rfl := Option.some.inj H
   exact fin hk _ [(aggI .u64 y55)] rfl ⟨⟨_, rfl, run_loadA ag99 sz99 o59 lh57 hs (q := 3) rfl⟩, trivial⟩ ⟨rfl, lh57, (hs.pick [] rfl).dnil⟩

noncomputable def impl_limbs_times.s1 (x0 : List Int) (x1 : List Int) (u25 : Int) (u47 : List Int) (u51 : Int) : Option (((List Int) × Int) ⊕ Ex ((List Int)) ((List Int))) :=
  (bif (decide (u51 < 5)) then (if 0 ≤ u51 ∧ u51 < (5 : Int) then (((bif (decide ((w64 (u25 + u51)) < 5)) then (if 0 ≤ (w64 (u25 + u51)) ∧ (w64 (u25 + u51)) < (5 : Int) then (if 0 ≤ (w64 (u25 + u51)) ∧ (w64 (u25 + u51)) < (5 : Int) then (some (u47.set (w64 (u25 + u51)).toNat (IntKind.wrap .u64 ((u47.getD (w64 (u25 + u51)).toNat 0) + (IntKind.wrap .u64 ((x0.getD u25.toNat 0) * (x1.getD u51.toNat 0))))))) else none) else none) else (if 0 ≤ (w64 ((w64 (u25 + u51)) - 5)) ∧ (w64 ((w64 (u25 + u51)) - 5)) < (5 : Int) then (if 0 ≤ (w64 ((w64 (u25 + u51)) - 5)) ∧ (w64 ((w64 (u25 + u51)) - 5)) < (5 : Int) then (some (u47.set (w64 ((w64 (u25 + u51)) - 5)).toNat (IntKind.wrap .u64 ((u47.getD (w64 ((w64 (u25 + u51)) - 5)).toNat 0) + (IntKind.wrap .u64 ((IntKind.wrap .u64 (5 * (x0.getD u25.toNat 0))) * (x1.getD u51.toNat 0))))))) else none) else none)) : Option ((List Int))).bind fun u72 => (some (.inl (u72, (w64 (u51 + 1)))))) else none) else (some (.inr (.out u47))))
noncomputable def impl_limbs_times.s0 (x0 : List Int) (x1 : List Int) (u21 : List Int) (u25 : Int) : Option (((List Int) × Int) ⊕ Ex ((List Int)) ((List Int))) :=
  (bif (decide (u25 < 5)) then (if 0 ≤ u25 ∧ u25 < (5 : Int) then ((loopO (fun s => impl_limbs_times.s1 x0 x1 u25 s.1 s.2) (u21, 0)).bind fun o => match o with | .out u52 => (some (.inl (u52, (w64 (u25 + 1))))) | .ret r => (some (.inr (.ret r)))) else none) else (some (.inr (.out u21))))
noncomputable def impl_limbs_times.f (x0 : List Int) (x1 : List Int) : Option ((List Int)) :=
  ((loopO (fun s => impl_limbs_times.s0 x0 x1 s.1 s.2) ((List.replicate 5 (0 : Int)), 0)).bind fun o => match o with | .out u26 => ((impl_limbs_carried.f u26).bind fun y104 => (some y104)) | .ret r => (some r))
set_option maxRecDepth 100000 in
set_option maxHeartbeats 0 in
theorem impl_limbs_times_t (w0 : World) (x0 : List Int) (e0_ : x0.length = 5) (x1 : List Int) (e1_ : x1.length = 5) (r : (List Int)) (H : impl_limbs_times.f x0 x1 = some r) :
    Calls Try.prog 99 #[aggI .u64 x0, aggI .u64 x1] w0 (Ret (fun v w => v = aggI .u64 r ∧ r.length = 5 ∧ Sat [] w0 w [] [])) := by
  have hs : Sat [] w0 w0 [] [] := Sat.init w0 [] [] (by simp) (by simp) List.nodup_nil (by simp [blks])
  unfold impl_limbs_times.f at H
  refine enter Try.func99 rfl Try.ntmps99 rfl fun a hk => ?_
  apply wp_seq_k; intro K1 hK1
  apply wp_region_lit
  refine sbxa 1 hs rfl hk rfl rfl rfl e0_ rfl fun b2 k3 w a hk o4 hs => ?_
  refine sbxa 2 hs rfl hk rfl rfl rfl e1_ rfl fun b5 k6 w a hk o7 hs => ?_
  refine sala 3 ((Lay.int .u64)) (m := 5) (z := 0) (zc := [.int .u64 0]) hs rfl hk rfl rfl ze99 (by exact ⟨rfl, rfl⟩) rfl rfl rfl fun b8 k9 w a hk o10 hs => ?_
  have lh11 : (List.replicate 5 (0 : Int)).length = 5 := List.length_replicate
  show wpList _ _ _ [] _ _
  refine wpList_nil ?_
  refine hK1 _ _ ?_
  apply wp_seq_k; intro K12 hK12
  apply wp_region_lit
  refine sala 4 ((Lay.int .u64)) (m := 5) (z := 0) (zc := [.int .u64 0]) hs rfl hk rfl rfl ze99 (by exact ⟨rfl, rfl⟩) rfl rfl rfl fun b13 k14 w a hk o15 hs => ?_
  have lh16 : (List.replicate 5 (0 : Int)).length = 5 := List.length_replicate
  show wpList _ _ _ [] _ _
  refine wpList_nil ?_
  refine hK12 _ _ ?_
  apply wp_seq_k; intro K17 hK17
  apply wp_seq_k; intro K18 hK18
  apply wp_region_lit
  refine slna (k := 1) hs rfl o4 e0_ rfl hk rfl rfl rfl ag99 sz99 fun a hk => ?_
  refine sm _ rfl hk rfl rfl rfl fun a hk => ?_
  show wpList _ _ _ [] _ _
  refine wpList_nil ?_
  refine hK18 _ _ ?_
  obtain ⟨o30, h31, HL32⟩ := bind_some H
  clear H
  obtain ⟨R33, hR33⟩ : ∃ R : Act → World → Prop, R = fun a w => ∃ (u26 : List Int) (k27 : Chunk), o30 = .out u26 ∧ Kn [(4, (.pointer (some ⟨b8, 0, none⟩))), (5, (.pointer (some ⟨b13, 0, none⟩)))] 50 a ∧ Sat [] w0 w [] [(3, k9), (4, k27)] ∧ Own (Lay.int .u64) 99 (some ⟨b13, 0, none⟩) 5 u26 k27 ∧ u26.length = 5 := ⟨_, rfl⟩
  refine wp_cutq R33 ?_ ?_
  ·refine wp_block ?_
   obtain ⟨fu35, h31⟩ := loopO_some h31
   obtain ⟨I34, hI34⟩ : ∃ I : Nat → Act → World → Prop, I = fun fu a w => ∃ (u21 : List Int) (u25 : Int) (k22 : Chunk), loopN (fun s => impl_limbs_times.s0 x0 x1 s.1 s.2) fu (u21, u25) = some o30 ∧ Kn [(3, (.pointer (some ⟨b5, 0, none⟩))), (4, (.pointer (some ⟨b8, 0, none⟩))), (5, (.pointer (some ⟨b13, 0, none⟩))), (10, (aggI .u64 x0)), (11, (.int .i64 u25))] 50 a ∧ Sat [] w0 w [] [(2, k6), (3, k9), (4, k22)] ∧ Own (Lay.int .u64) 99 (some ⟨b13, 0, none⟩) 5 u21 k22 ∧ u21.length = 5 := ⟨_, rfl⟩
   refine wp_loop_ghost I34 fu35 ?_ ?_
   ·rw [hI34]
    exact ⟨(List.replicate 5 (0 : Int)), 0, _, h31, (hk.c 3 rfl (hk.c 4 rfl (hk.c 5 rfl (hk.c 10 rfl (hk.c 11 rfl hk.k))))), (hs.pick [(2, 2), (3, 3), (4, 4)] rfl), o15, lh16⟩
   ·clear h31 hk hs
    intro fu35 a w hI0
    rw [hI34] at hI0
    obtain ⟨u21, u25, k22, hi, hk, hs, o23, lh24⟩ := hI0
    obtain ⟨x36, H, h37⟩ := loop_round hi
    try dsimp only at H
    unfold impl_limbs_times.s0 at H
    apply wp_seq_k; intro K38 hK38
    apply wp_region_lit
    refine sv (.bool (decide (u25 < 5))) hk rfl rfl rfl fun a hk => ?_
    show wpList _ _ _ [] _ _
    refine wpList_nil ?_
    refine hK38 _ _ ?_
    have hs := hs.pick [(2, 2), (3, 3), (4, 4)] rfl
    apply wp_seq_k; intro K39 hK39
    rcases cond_some H with ⟨c40, H⟩ | ⟨c40, H⟩
    ·have hk := hk.lit 12 c40 rfl
     refine cnd_true hk rfl rfl ?_
     refine wp_skip ?_
     refine hK39 _ _ ?_
     apply wp_seq_k; intro K41 hK41
     refine wp_block ?_
     apply wp_seq_k; intro K42 hK42
     apply wp_region_lit
     refine sm _ rfl hk rfl rfl rfl fun a hk => ?_
     rcases ite_some H with ⟨c43, H⟩ | ⟨_, H⟩
     rotate_left
     ·cases H
     refine sixa rfl hk rfl rfl rfl rfl un99 sz97 ag97 e0_ c43.1 c43.2 fun a hk => ?_
     refine sa _ rfl hk rfl rfl rfl fun a hk => ?_
     refine sa _ rfl hk rfl rfl rfl fun a hk => ?_
     show wpList _ _ _ [] _ _
     refine wpList_nil ?_
     refine hK42 _ _ ?_
     apply wp_seq_k; intro K44 hK44
     apply wp_region_lit
     refine slna (k := 2) hs rfl o7 e1_ rfl hk rfl rfl rfl ag99 sz99 fun a hk => ?_
     refine sm _ rfl hk rfl rfl rfl fun a hk => ?_
     show wpList _ _ _ [] _ _
     refine wpList_nil ?_
     refine hK44 _ _ ?_
     obtain ⟨o56, h57, HL58⟩ := bind_some H
     clear H
     obtain ⟨R59, hR59⟩ : ∃ R : Act → World → Prop, R = fun a w => ∃ (u52 : List Int) (k53 : Chunk), o56 = .out u52 ∧ Kn [(3, (.pointer (some ⟨b5, 0, none⟩))), (4, (.pointer (some ⟨b8, 0, none⟩))), (5, (.pointer (some ⟨b13, 0, none⟩))), (10, (aggI .u64 x0)), (11, (.int .i64 u25))] 50 a ∧ Sat [] w0 w [] [(2, k6), (3, k9), (4, k53)] ∧ Own (Lay.int .u64) 99 (some ⟨b13, 0, none⟩) 5 u52 k53 ∧ u52.length = 5 := ⟨_, rfl⟩
     refine wp_cutq R59 ?_ ?_
     ·refine wp_block ?_
      obtain ⟨fu61, h57⟩ := loopO_some h57
      obtain ⟨I60, hI60⟩ : ∃ I : Nat → Act → World → Prop, I = fun fu a w => ∃ (u47 : List Int) (u51 : Int) (k48 : Chunk), loopN (fun s => impl_limbs_times.s1 x0 x1 u25 s.1 s.2) fu (u47, u51) = some o56 ∧ Kn [(3, (.pointer (some ⟨b5, 0, none⟩))), (4, (.pointer (some ⟨b8, 0, none⟩))), (5, (.pointer (some ⟨b13, 0, none⟩))), (6, (.int .i64 u25)), (7, (.int .u64 (x0.getD u25.toNat 0))), (10, (aggI .u64 x0)), (11, (.int .i64 u25)), (15, (aggI .u64 x1)), (16, (.int .i64 u51))] 50 a ∧ Sat [] w0 w [] [(2, k6), (3, k9), (4, k48)] ∧ Own (Lay.int .u64) 99 (some ⟨b13, 0, none⟩) 5 u47 k48 ∧ u47.length = 5 := ⟨_, rfl⟩
      refine wp_loop_ghost I60 fu61 ?_ ?_
      ·rw [hI60]
       exact ⟨u21, 0, _, h57, (hk.c 3 rfl (hk.c 4 rfl (hk.c 5 rfl (hk.c 6 rfl (hk.c 7 rfl (hk.c 10 rfl (hk.c 11 rfl (hk.c 15 rfl (hk.c 16 rfl hk.k))))))))), (hs.pick [(2, 2), (3, 3), (4, 4)] rfl), o23, lh24⟩
      ·clear h57 hk hs
       intro fu61 a w hI0
       rw [hI60] at hI0
       obtain ⟨u47, u51, k48, hi, hk, hs, o49, lh50⟩ := hI0
       obtain ⟨x62, H, h63⟩ := loop_round hi
       try dsimp only at H
       unfold impl_limbs_times.s1 at H
       apply wp_seq_k; intro K64 hK64
       apply wp_region_lit
       refine sv (.bool (decide (u51 < 5))) hk rfl rfl rfl fun a hk => ?_
       show wpList _ _ _ [] _ _
       refine wpList_nil ?_
       refine hK64 _ _ ?_
       have hs := hs.pick [(2, 2), (3, 3), (4, 4)] rfl
       apply wp_seq_k; intro K65 hK65
       rcases cond_some H with ⟨c66, H⟩ | ⟨c66, H⟩
       ·have hk := hk.lit 17 c66 rfl
        refine cnd_true hk rfl rfl ?_
        refine wp_skip ?_
        refine hK65 _ _ ?_
        apply wp_seq_k; intro K67 hK67
        refine wp_block ?_
        apply wp_seq_k; intro K68 hK68
        apply wp_region_lit
        refine sm _ rfl hk rfl rfl rfl fun a hk => ?_
        rcases ite_some H with ⟨c69, H⟩ | ⟨_, H⟩
        rotate_left
        ·cases H
        refine sixa rfl hk rfl rfl rfl rfl un99 sz97 ag97 e1_ c69.1 c69.2 fun a hk => ?_
        refine sa _ rfl hk rfl rfl rfl fun a hk => ?_
        refine sa _ rfl hk rfl rfl rfl fun a hk => ?_
        show wpList _ _ _ [] _ _
        refine wpList_nil ?_
        refine hK68 _ _ ?_
        apply wp_seq_k; intro K70 hK70
        apply wp_region_lit
        refine sm _ rfl hk rfl rfl rfl fun a hk => ?_
        refine sm _ rfl hk rfl rfl rfl fun a hk => ?_
        refine sv (.int .i64 (w64 (u25 + u51))) hk rfl rfl rfl fun a hk => ?_
        refine sv (.bool (decide ((w64 (u25 + u51)) < 5))) hk rfl rfl rfl fun a hk => ?_
        show wpList _ _ _ [] _ _
        refine wpList_nil ?_
        refine hK70 _ _ ?_
        obtain ⟨o76, h77, HL78⟩ := bind_some H
        clear H
        obtain ⟨R79, hR79⟩ : ∃ R : Act → World → Prop, R = fun a w => ∃ (u72 : List Int) (k73 : Chunk), u72 = o76 ∧ Kn [(3, (.pointer (some ⟨b5, 0, none⟩))), (4, (.pointer (some ⟨b8, 0, none⟩))), (5, (.pointer (some ⟨b13, 0, none⟩))), (6, (.int .i64 u25)), (7, (.int .u64 (x0.getD u25.toNat 0))), (10, (aggI .u64 x0)), (11, (.int .i64 u25)), (15, (aggI .u64 x1)), (16, (.int .i64 u51))] 50 a ∧ Sat [] w0 w [] [(2, k6), (3, k9), (4, k73)] ∧ Own (Lay.int .u64) 99 (some ⟨b13, 0, none⟩) 5 u72 k73 ∧ u72.length = 5 := ⟨_, rfl⟩
        refine wp_cutq R79 ?_ ?_
        ·have H := h77
         rcases cond_some H with ⟨c80, H⟩ | ⟨c80, H⟩
         ·have hk := hk.lit 23 c80 rfl
          refine cnd_true hk rfl rfl ?_
          apply wp_region_lit
          refine sm _ rfl hk rfl rfl rfl fun a hk => ?_
          refine sm _ rfl hk rfl rfl rfl fun a hk => ?_
          refine sv (.int .i64 (w64 (u25 + u51))) hk rfl rfl rfl fun a hk => ?_
          rcases ite_some H with ⟨c81, H⟩ | ⟨_, H⟩
          rotate_left
          ·cases H
          obtain ⟨b82, q83, hAc81⟩ := (o49.view).some_ (w64 (u25 + u51)) c81.1 (by rw [lh50]; exact c81.2)
          refine sia rfl hk rfl rfl rfl rfl un99 sz97 c81.1 c81.2 hAc81 fun a hk => ?_
          obtain ⟨_, rfl, e84⟩ := (o49.view).at_ 0 (w64 (u25 + u51)) c81.1 (by rw [lh50]; exact c81.2)
          refine sl (v := (.int .u64 (u47.getD (w64 (u25 + u51)).toNat 0))) rfl hk rfl rfl rfl ag97 ((e84 0 _ rfl).cell (hs.hasG (k := 4) rfl)) fun a hk => ?_
          refine sm _ rfl hk rfl rfl rfl fun a hk => ?_
          refine sm _ rfl hk rfl rfl rfl fun a hk => ?_
          refine sv (.int .u64 (IntKind.wrap .u64 ((x0.getD u25.toNat 0) * (x1.getD u51.toNat 0)))) hk rfl rfl rfl fun a hk => ?_
          refine sv (.int .u64 (IntKind.wrap .u64 ((u47.getD (w64 (u25 + u51)).toNat 0) + (IntKind.wrap .u64 ((x0.getD u25.toNat 0) * (x1.getD u51.toNat 0)))))) hk rfl rfl rfl fun a hk => ?_
          rcases ite_some H with ⟨c85, H⟩ | ⟨_, H⟩
          rotate_left
          ·cases H
          obtain ⟨b86, q87, hAc85⟩ := (o49.view).some_ (w64 (u25 + u51)) c85.1 (by rw [lh50]; exact c85.2)
          refine sia rfl hk rfl rfl rfl rfl un99 sz97 c85.1 c85.2 hAc85 fun a hk => ?_
          refine so (j := 0) 4 0 (IntKind.wrap .u64 ((u47.getD (w64 (u25 + u51)).toNat 0) + (IntKind.wrap .u64 ((x0.getD u25.toNat 0) * (x1.getD u51.toNat 0))))) hs rfl o49 c85.1 (by rw [lh50]; exact c85.2) rfl hk rfl rfl rfl rfl rfl sz97 (by simp [Value.cells, Value.oneCell']) (Nat.le_of_ble_eq_true rfl) (fun _ _ h => ⟨by rw [h.1]; rfl, h.2⟩) fun k88 w a hk o89 hs => ?_
          have lh90 : (u47.set (w64 (u25 + u51)).toNat (IntKind.wrap .u64 ((u47.getD (w64 (u25 + u51)).toNat 0) + (IntKind.wrap .u64 ((x0.getD u25.toNat 0) * (x1.getD u51.toNat 0)))))).length = 5 := by rw [List.length_set]; exact lh50
          show wpList _ _ _ [] _ _
          refine wpList_nil ?_
          obtain rfl := Option.some.inj H
          show R79 _ _
          rw [hR79]
          exact ⟨(u47.set (w64 (u25 + u51)).toNat (IntKind.wrap .u64 ((u47.getD (w64 (u25 + u51)).toNat 0) + (IntKind.wrap .u64 ((x0.getD u25.toNat 0) * (x1.getD u51.toNat 0)))))), _, rfl, (hk.c 3 rfl (hk.c 4 rfl (hk.c 5 rfl (hk.c 6 rfl (hk.c 7 rfl (hk.c 10 rfl (hk.c 11 rfl (hk.c 15 rfl (hk.c 16 rfl hk.k))))))))), (hs.pick [(2, 2), (3, 3), (4, 4)] rfl), o89, lh90⟩
         ·have hk := hk.lit 23 c80 rfl
          refine cnd_false hk rfl rfl ?_
          apply wp_region_lit
          refine sm _ rfl hk rfl rfl rfl fun a hk => ?_
          refine sm _ rfl hk rfl rfl rfl fun a hk => ?_
          refine sv (.int .i64 (w64 (u25 + u51))) hk rfl rfl rfl fun a hk => ?_
          refine sv (.int .i64 (w64 ((w64 (u25 + u51)) - 5))) hk rfl rfl rfl fun a hk => ?_
          rcases ite_some H with ⟨c91, H⟩ | ⟨_, H⟩
          rotate_left
          ·cases H
          obtain ⟨b92, q93, hAc91⟩ := (o49.view).some_ (w64 ((w64 (u25 + u51)) - 5)) c91.1 (by rw [lh50]; exact c91.2)
          refine sia rfl hk rfl rfl rfl rfl un99 sz97 c91.1 c91.2 hAc91 fun a hk => ?_
          obtain ⟨_, rfl, e94⟩ := (o49.view).at_ 0 (w64 ((w64 (u25 + u51)) - 5)) c91.1 (by rw [lh50]; exact c91.2)
          refine sl (v := (.int .u64 (u47.getD (w64 ((w64 (u25 + u51)) - 5)).toNat 0))) rfl hk rfl rfl rfl ag97 ((e94 0 _ rfl).cell (hs.hasG (k := 4) rfl)) fun a hk => ?_
          refine sm _ rfl hk rfl rfl rfl fun a hk => ?_
          refine sv (.int .u64 (IntKind.wrap .u64 (5 * (x0.getD u25.toNat 0)))) hk rfl rfl rfl fun a hk => ?_
          refine sm _ rfl hk rfl rfl rfl fun a hk => ?_
          refine sv (.int .u64 (IntKind.wrap .u64 ((IntKind.wrap .u64 (5 * (x0.getD u25.toNat 0))) * (x1.getD u51.toNat 0)))) hk rfl rfl rfl fun a hk => ?_
          refine sv (.int .u64 (IntKind.wrap .u64 ((u47.getD (w64 ((w64 (u25 + u51)) - 5)).toNat 0) + (IntKind.wrap .u64 ((IntKind.wrap .u64 (5 * (x0.getD u25.toNat 0))) * (x1.getD u51.toNat 0)))))) hk rfl rfl rfl fun a hk => ?_
          rcases ite_some H with ⟨c95, H⟩ | ⟨_, H⟩
          rotate_left
          ·cases H
          obtain ⟨b96, q97, hAc95⟩ := (o49.view).some_ (w64 ((w64 (u25 + u51)) - 5)) c95.1 (by rw [lh50]; exact c95.2)
          refine sia rfl hk rfl rfl rfl rfl un99 sz97 c95.1 c95.2 hAc95 fun a hk => ?_
          refine so (j := 0) 4 0 (IntKind.wrap .u64 ((u47.getD (w64 ((w64 (u25 + u51)) - 5)).toNat 0) + (IntKind.wrap .u64 ((IntKind.wrap .u64 (5 * (x0.getD u25.toNat 0))) * (x1.getD u51.toNat 0))))) hs rfl o49 c95.1 (by rw [lh50]; exact c95.2) rfl hk rfl rfl rfl rfl rfl sz97 (by simp [Value.cells, Value.oneCell']) (Nat.le_of_ble_eq_true rfl) (fun _ _ h => ⟨by rw [h.1]; rfl, h.2⟩) fun k98 w a hk o99 hs => ?_
          have lh100 : (u47.set (w64 ((w64 (u25 + u51)) - 5)).toNat (IntKind.wrap .u64 ((u47.getD (w64 ((w64 (u25 + u51)) - 5)).toNat 0) + (IntKind.wrap .u64 ((IntKind.wrap .u64 (5 * (x0.getD u25.toNat 0))) * (x1.getD u51.toNat 0)))))).length = 5 := by rw [List.length_set]; exact lh50
          show wpList _ _ _ [] _ _
          refine wpList_nil ?_
          obtain rfl := Option.some.inj H
          show R79 _ _
          rw [hR79]
          exact ⟨(u47.set (w64 ((w64 (u25 + u51)) - 5)).toNat (IntKind.wrap .u64 ((u47.getD (w64 ((w64 (u25 + u51)) - 5)).toNat 0) + (IntKind.wrap .u64 ((IntKind.wrap .u64 (5 * (x0.getD u25.toNat 0))) * (x1.getD u51.toNat 0)))))), _, rfl, (hk.c 3 rfl (hk.c 4 rfl (hk.c 5 rfl (hk.c 6 rfl (hk.c 7 rfl (hk.c 10 rfl (hk.c 11 rfl (hk.c 15 rfl (hk.c 16 rfl hk.k))))))))), (hs.pick [(2, 2), (3, 3), (4, 4)] rfl), o99, lh100⟩
        ·intro a w hR0
         rw [hR79] at hR0
         obtain ⟨u72, k73, rfl, hk, hs, o74, lh75⟩ := hR0
         have H := HL78
         try dsimp only at H
         refine hK67 _ _ ?_
         have hs := hs.pick [(2, 2), (3, 3), (4, 4)] rfl
         apply wp_region_lit
         refine sv (.int .i64 (w64 (u51 + 1))) hk rfl rfl rfl fun a hk => ?_
         refine sm _ rfl hk rfl rfl rfl fun a hk => ?_
         show wpList _ _ _ [] _ _
         refine wpList_nil ?_
         obtain rfl := Option.some.inj H
         obtain ⟨m101, hmm101, h63⟩ := h63
         show ∃ n', n' < _ ∧ I60 n' _ _
         refine ⟨m101, hmm101, ?_⟩
         rw [hI60]
         exact ⟨u72, (w64 (u51 + 1)), _, h63, (hk.c 3 rfl (hk.c 4 rfl (hk.c 5 rfl (hk.c 6 rfl (hk.c 7 rfl (hk.c 10 rfl (hk.c 11 rfl (hk.c 15 rfl (hk.c 16 rfl hk.k))))))))), (hs.pick [(2, 2), (3, 3), (4, 4)] rfl), o74, lh75⟩
       ·have hk := hk.lit 17 c66 rfl
        refine cnd_false hk rfl rfl ?_
        refine wp_exit ?_
        obtain rfl := Option.some.inj H
        show R59 _ _
        rw [hR59]
        exact ⟨u47, _, h63.symm, (hk.c 3 rfl (hk.c 4 rfl (hk.c 5 rfl (hk.c 10 rfl (hk.c 11 rfl hk.k))))), (hs.pick [(2, 2), (3, 3), (4, 4)] rfl), o49, lh50⟩
     ·intro a w hR0
      rw [hR59] at hR0
      obtain ⟨u52, k53, rfl, hk, hs, o54, lh55⟩ := hR0
      have H := HL58
      try dsimp only at H
      refine hK41 _ _ ?_
      have hs := hs.pick [(2, 2), (3, 3), (4, 4)] rfl
      apply wp_region_lit
      refine sv (.int .i64 (w64 (u25 + 1))) hk rfl rfl rfl fun a hk => ?_
      refine sm _ rfl hk rfl rfl rfl fun a hk => ?_
      show wpList _ _ _ [] _ _
      refine wpList_nil ?_
      obtain rfl := Option.some.inj H
      obtain ⟨m102, hmm102, h37⟩ := h37
      show ∃ n', n' < _ ∧ I34 n' _ _
      refine ⟨m102, hmm102, ?_⟩
      rw [hI34]
      exact ⟨u52, (w64 (u25 + 1)), _, h37, (hk.c 3 rfl (hk.c 4 rfl (hk.c 5 rfl (hk.c 10 rfl (hk.c 11 rfl hk.k))))), (hs.pick [(2, 2), (3, 3), (4, 4)] rfl), o54, lh55⟩
    ·have hk := hk.lit 12 c40 rfl
     refine cnd_false hk rfl rfl ?_
     refine wp_exit ?_
     obtain rfl := Option.some.inj H
     show R33 _ _
     rw [hR33]
     exact ⟨u21, _, h37.symm, (hk.c 4 rfl (hk.c 5 rfl hk.k)), (hs.pick [(3, 3), (4, 4)] rfl), o23, lh24⟩
  ·intro a w hR0
   rw [hR33] at hR0
   obtain ⟨u26, k27, rfl, hk, hs, o28, lh29⟩ := hR0
   have H := HL32
   try dsimp only at H
   refine hK17 _ _ ?_
   have hs := hs.pick [(3, 3), (4, 4)] rfl
   apply wp_seq_k; intro K103 hK103
   apply wp_region_lit
   refine slna (k := 4) hs rfl o28 lh29 rfl hk rfl rfl rfl ag99 sz99 fun a hk => ?_
   obtain ⟨y104, h105, H⟩ := bind_some H
   refine sc rfl en130 hk rfl rfl rfl (impl_limbs_carried_t _ u26 lh29 _ h105) ?_
   rintro _ w ⟨rfl, lh106, hG⟩ a hk
   have hs := hs.call0 hG
   refine sswa 3 y104 hs rfl o10 lh11 lh106 rfl rfl hk rfl rfl rfl rfl sz99 fun k107 w a hk o108 hs => ?_
   show wpList _ _ _ [] _ _
   refine wpList_nil ?_
   refine hK103 _ _ ?_
   refine wp_ret ?_
   obtain rfl := Option.some.inj H
   exact fin hk _ [(aggI .u64 y104)] rfl ⟨⟨_, rfl, run_loadA ag99 sz99 o108 lh106 hs (q := 3) rfl⟩, trivial⟩ ⟨rfl, lh106, (hs.pick [] rfl).dnil⟩

noncomputable def impl_limbs_reduced.s0 (y10 : (List Int)) (u27 : Int) : Option ((Int) ⊕ Ex (Unit) ((List Int))) :=
  (bif (decide (u27 ≥ 0)) then (if 0 ≤ u27 ∧ u27 < (5 : Int) then (if 0 ≤ u27 ∧ u27 < (5 : Int) then (bif ((y10.getD u27.toNat 0) != (([67108859, 67108863, 67108863, 67108863, 67108863] : List Int).getD u27.toNat 0)) then (if 0 ≤ u27 ∧ u27 < (5 : Int) then (if 0 ≤ u27 ∧ u27 < (5 : Int) then (bif (decide ((y10.getD u27.toNat 0) < (([67108859, 67108863, 67108863, 67108863, 67108863] : List Int).getD u27.toNat 0))) then (some (.inr (.ret y10))) else (some (.inr (.out ())))) else none) else none) else (some (.inl (w64 (u27 - 1))))) else none) else none) else (some (.inr (.out ()))))
noncomputable def impl_limbs_reduced.s1  (u71 : List Int) (u75 : Int) : Option (((List Int) × Int) ⊕ Ex ((List Int)) ((List Int))) :=
  (bif (decide (u75 < 5)) then (if 0 ≤ u75 ∧ u75 < (5 : Int) then (if 0 ≤ u75 ∧ u75 < (5 : Int) then (if 0 ≤ u75 ∧ u75 < (5 : Int) then (some (.inl ((u71.set u75.toNat (IntKind.wrap .u64 ((u71.getD u75.toNat 0) - (([67108859, 67108863, 67108863, 67108863, 67108863] : List Int).getD u75.toNat 0)))), (w64 (u75 + 1))))) else none) else none) else none) else (some (.inr (.out u71))))
noncomputable def impl_limbs_reduced.f (x0 : List Int) : Option ((List Int)) :=
  ((impl_limbs_carried.f x0).bind fun y10 => ((loopO (fun s => impl_limbs_reduced.s0 y10 s) 4).bind fun o => match o with | .out _ => ((loopO (fun s => impl_limbs_reduced.s1  s.1 s.2) (y10, 0)).bind fun o => match o with | .out u76 => (some u76) | .ret r => (some r)) | .ret r => (some r)))
set_option maxRecDepth 100000 in
set_option maxHeartbeats 0 in
theorem impl_limbs_reduced_t (w0 : World) (x0 : List Int) (e0_ : x0.length = 5) (r : (List Int)) (H : impl_limbs_reduced.f x0 = some r) :
    Calls Try.prog 100 #[aggI .u64 x0] w0 (Ret (fun v w => v = aggI .u64 r ∧ r.length = 5 ∧ Sat [] w0 w [] [])) := by
  have hs : Sat [] w0 w0 [] [] := Sat.init w0 [] [] (by simp) (by simp) List.nodup_nil (by simp [blks])
  unfold impl_limbs_reduced.f at H
  refine enter Try.func100 rfl Try.ntmps100 rfl fun a hk => ?_
  apply wp_seq_k; intro K1 hK1
  apply wp_region_lit
  refine sbxa 1 hs rfl hk rfl rfl rfl e0_ rfl fun b2 k3 w a hk o4 hs => ?_
  refine sala 2 ((Lay.int .u64)) (m := 5) (z := 0) (zc := [.int .u64 0]) hs rfl hk rfl rfl ze99 (by exact ⟨rfl, rfl⟩) rfl rfl rfl fun b5 k6 w a hk o7 hs => ?_
  have lh8 : (List.replicate 5 (0 : Int)).length = 5 := List.length_replicate
  show wpList _ _ _ [] _ _
  refine wpList_nil ?_
  refine hK1 _ _ ?_
  apply wp_seq_k; intro K9 hK9
  apply wp_region_lit
  refine slna (k := 1) hs rfl o4 e0_ rfl hk rfl rfl rfl ag99 sz99 fun a hk => ?_
  obtain ⟨y10, h11, H⟩ := bind_some H
  refine sc rfl en130 hk rfl rfl rfl (impl_limbs_carried_t _ x0 e0_ _ h11) ?_
  rintro _ w ⟨rfl, lh12, hG⟩ a hk
  have hs := hs.call0 hG
  refine sswa 1 y10 hs rfl o4 e0_ lh12 rfl rfl hk rfl rfl rfl rfl sz99 fun k13 w a hk o14 hs => ?_
  show wpList _ _ _ [] _ _
  refine wpList_nil ?_
  refine hK9 _ _ ?_
  apply wp_seq_k; intro K15 hK15
  apply wp_region_lit
  refine sbd (pv := [(0, (.int .u64 67108859)), (1, (.int .u64 67108863)), (2, (.int .u64 67108863)), (3, (.int .u64 67108863)), (4, (.int .u64 67108863))]) rfl hk rfl rfl rfl (bd99_6 67108859 67108863 67108863 67108863 67108863) fun a hk => ?_
  have lh16 : ([67108859, 67108863, 67108863, 67108863, 67108863] : List Int).length = 5 := rfl
  refine sala 3 ((Lay.int .u64)) (m := 5) (z := 0) (zc := [.int .u64 0]) hs rfl hk rfl rfl ze99 (by exact ⟨rfl, rfl⟩) rfl rfl rfl fun b17 k18 w a hk o19 hs => ?_
  have lh20 : (List.replicate 5 (0 : Int)).length = 5 := List.length_replicate
  refine sswa 3 ([67108859, 67108863, 67108863, 67108863, 67108863] : List Int) hs rfl o19 lh20 lh16 rfl rfl hk rfl rfl rfl rfl sz99 fun k21 w a hk o22 hs => ?_
  show wpList _ _ _ [] _ _
  refine wpList_nil ?_
  refine hK15 _ _ ?_
  apply wp_seq_k; intro K23 hK23
  apply wp_seq_k; intro K24 hK24
  apply wp_region_lit
  refine sa _ rfl hk rfl rfl rfl fun a hk => ?_
  show wpList _ _ _ [] _ _
  refine wpList_nil ?_
  refine hK24 _ _ ?_
  have hs := hs.pick [(1, 1), (2, 2), (3, 3)] rfl
  obtain ⟨o28, h29, HL30⟩ := bind_some H
  clear H
  obtain ⟨R31, hR31⟩ : ∃ R : Act → World → Prop, R = fun a w => o28 = .out () ∧ Kn [(1, (.pointer (some ⟨b2, 0, none⟩))), (2, (.pointer (some ⟨b5, 0, none⟩))), (3, (.pointer (some ⟨b17, 0, none⟩)))] 41 a ∧ Sat [] w0 w [] [(1, k13), (2, k6), (3, k21)] := ⟨_, rfl⟩
  refine wp_cutq R31 ?_ ?_
  ·refine wp_block ?_
   obtain ⟨fu33, h29⟩ := loopO_some h29
   obtain ⟨I32, hI32⟩ : ∃ I : Nat → Act → World → Prop, I = fun fu a w => ∃ (u27 : Int), loopN (fun s => impl_limbs_reduced.s0 y10 s) fu u27 = some o28 ∧ Kn [(1, (.pointer (some ⟨b2, 0, none⟩))), (2, (.pointer (some ⟨b5, 0, none⟩))), (3, (.pointer (some ⟨b17, 0, none⟩))), (4, (.int .i64 u27))] 41 a ∧ Sat [] w0 w [] [(1, k13), (2, k6), (3, k21)] := ⟨_, rfl⟩
   refine wp_loop_ghost I32 fu33 ?_ ?_
   ·rw [hI32]
    exact ⟨4, h29, (hk.c 1 rfl (hk.c 2 rfl (hk.c 3 rfl (hk.c 4 rfl hk.k)))), (hs.pick [(1, 1), (2, 2), (3, 3)] rfl)⟩
   ·clear h29 hk hs
    intro fu33 a w hI0
    rw [hI32] at hI0
    obtain ⟨u27, hi, hk, hs⟩ := hI0
    obtain ⟨x34, H, h35⟩ := loop_round hi
    try dsimp only at H
    unfold impl_limbs_reduced.s0 at H
    apply wp_seq_k; intro K36 hK36
    apply wp_seq_k; intro K37 hK37
    apply wp_region_lit
    refine sm _ rfl hk rfl rfl rfl fun a hk => ?_
    refine sv (.bool (decide (u27 ≥ 0))) hk rfl rfl rfl fun a hk => ?_
    show wpList _ _ _ [] _ _
    refine wpList_nil ?_
    refine hK37 _ _ ?_
    rcases cond_some H with ⟨c38, H⟩ | ⟨c38, H⟩
    ·have hk := hk.lit 10 c38 rfl
     refine cnd_true hk rfl rfl ?_
     refine wp_skip ?_
     refine hK36 _ _ ?_
     apply wp_seq_k; intro K39 hK39
     refine wp_block ?_
     apply wp_seq_k; intro K40 hK40
     refine wp_region_tree (.q 0 (.q 1 (.q 2 (.alt 3 (.alt 4 (.alt 5 (.alt 6 .done .stop) .stop) .stop) .stop)))) mo (by kernel_rfl) (hs.pick [(1, 1), (2, 2), (3, 3)] rfl) fun _ => ?_
     have hs := hs.drew
     refine tqst (.int .i64 u27) hk rfl rfl rfl rfl (fun w hs => sm _ rfl hk rfl rfl rfl fun a hk => qe hk) fun a hk => ?_
     rcases ite_some H with ⟨c42, H⟩ | ⟨_, H⟩
     rotate_left
     ·cases H
     obtain ⟨b43, q44, hAc42⟩ := (o14.view).some_ u27 c42.1 (by rw [lh12]; exact c42.2)
     refine tqst (.pointer (some (padd (some ⟨b2, 0, none⟩) (u27.toNat * 1)))) hk rfl rfl rfl rfl (fun w hs => sia rfl hk rfl rfl rfl rfl un99 sz97 c42.1 c42.2 hAc42 fun a hk => qe hk) fun a hk => ?_
     obtain ⟨_, rfl, e45⟩ := (o14.view).at_ 0 u27 c42.1 (by rw [lh12]; exact c42.2)
     refine tqst (.int .u64 (y10.getD u27.toNat 0)) hk rfl rfl rfl rfl (fun w hs => sl (v := (.int .u64 (y10.getD u27.toNat 0))) rfl hk rfl rfl rfl ag97 ((e45 0 _ rfl).cell (hs.hasG (k := 1) rfl)) fun a hk => qe hk) fun a hk => ?_
     refine tsst hk rfl rfl (fun K_r41_3 hK_r41_3 w hF => ?_) wt_stop
     have hs := hs.f hF
     refine sm _ rfl hk rfl rfl rfl fun a hk => ?_
     refine se (hs.pick [(1, 1), (2, 2), (3, 3)] rfl) hk (hK_r41_3 _ _ ?_)
     refine tsst hk rfl rfl (fun K_r41_4 hK_r41_4 w hF => ?_) wt_stop
     have hs := hs.f hF
     rcases ite_some H with ⟨c46, H⟩ | ⟨_, H⟩
     rotate_left
     ·cases H
     obtain ⟨b47, q48, hAc46⟩ := (o22.view).some_ u27 c46.1 (by rw [lh16]; exact c46.2)
     refine sia rfl hk rfl rfl rfl rfl un99 sz97 c46.1 c46.2 hAc46 fun a hk => ?_
     refine se (hs.pick [(1, 1), (2, 2), (3, 3)] rfl) hk (hK_r41_4 _ _ ?_)
     refine tsst hk rfl rfl (fun K_r41_5 hK_r41_5 w hF => ?_) wt_stop
     have hs := hs.f hF
     obtain ⟨_, rfl, e49⟩ := (o22.view).at_ 0 u27 c46.1 (by rw [lh16]; exact c46.2)
     refine sl (v := (.int .u64 (([67108859, 67108863, 67108863, 67108863, 67108863] : List Int).getD u27.toNat 0))) rfl hk rfl rfl rfl ag97 ((e49 0 _ rfl).cell (hs.hasG (k := 3) rfl)) fun a hk => ?_
     refine se (hs.pick [(1, 1), (2, 2), (3, 3)] rfl) hk (hK_r41_5 _ _ ?_)
     refine tsst hk rfl rfl (fun K_r41_6 hK_r41_6 w hF => ?_) wt_stop
     have hs := hs.f hF
     refine sv (.bool ((y10.getD u27.toNat 0) != (([67108859, 67108863, 67108863, 67108863, 67108863] : List Int).getD u27.toNat 0))) hk rfl rfl rfl fun a hk => ?_
     refine se (hs.pick [(1, 1), (2, 2), (3, 3)] rfl) hk (hK_r41_6 _ _ ?_)
     refine wtl_nil fun w hF _ => ?_
     have hs := hs.f hF
     refine hK40 _ _ ?_
     rcases cond_some H with ⟨c50, H⟩ | ⟨c50, H⟩
     ·have hk := hk.lit 19 c50 rfl
      refine cnd_true hk rfl rfl ?_
      apply wp_seq_k; intro K51 hK51
      apply wp_seq_k; intro K52 hK52
      refine wp_region_tree (.q 0 (.q 1 (.q 2 (.alt 3 (.alt 4 (.alt 5 (.alt 6 .done .stop) .stop) .stop) .stop)))) mo (by kernel_rfl) (hs.pick [(1, 1), (2, 2), (3, 3)] rfl) fun _ => ?_
      have hs := hs.drew
      refine tqst (.int .i64 u27) hk rfl rfl rfl rfl (fun w hs => sm _ rfl hk rfl rfl rfl fun a hk => qe hk) fun a hk => ?_
      rcases ite_some H with ⟨c54, H⟩ | ⟨_, H⟩
      rotate_left
      ·cases H
      obtain ⟨b55, q56, hAc54⟩ := (o14.view).some_ u27 c54.1 (by rw [lh12]; exact c54.2)
      refine tqst (.pointer (some (padd (some ⟨b2, 0, none⟩) (u27.toNat * 1)))) hk rfl rfl rfl rfl (fun w hs => sia rfl hk rfl rfl rfl rfl un99 sz97 c54.1 c54.2 hAc54 fun a hk => qe hk) fun a hk => ?_
      obtain ⟨_, rfl, e57⟩ := (o14.view).at_ 0 u27 c54.1 (by rw [lh12]; exact c54.2)
      refine tqst (.int .u64 (y10.getD u27.toNat 0)) hk rfl rfl rfl rfl (fun w hs => sl (v := (.int .u64 (y10.getD u27.toNat 0))) rfl hk rfl rfl rfl ag97 ((e57 0 _ rfl).cell (hs.hasG (k := 1) rfl)) fun a hk => qe hk) fun a hk => ?_
      refine tsst hk rfl rfl (fun K_r53_3 hK_r53_3 w hF => ?_) wt_stop
      have hs := hs.f hF
      refine sm _ rfl hk rfl rfl rfl fun a hk => ?_
      refine se (hs.pick [(1, 1), (2, 2), (3, 3)] rfl) hk (hK_r53_3 _ _ ?_)
      refine tsst hk rfl rfl (fun K_r53_4 hK_r53_4 w hF => ?_) wt_stop
      have hs := hs.f hF
      rcases ite_some H with ⟨c58, H⟩ | ⟨_, H⟩
      rotate_left
      ·cases H
      obtain ⟨b59, q60, hAc58⟩ := (o22.view).some_ u27 c58.1 (by rw [lh16]; exact c58.2)
      refine sia rfl hk rfl rfl rfl rfl un99 sz97 c58.1 c58.2 hAc58 fun a hk => ?_
      refine se (hs.pick [(1, 1), (2, 2), (3, 3)] rfl) hk (hK_r53_4 _ _ ?_)
      refine tsst hk rfl rfl (fun K_r53_5 hK_r53_5 w hF => ?_) wt_stop
      have hs := hs.f hF
      obtain ⟨_, rfl, e61⟩ := (o22.view).at_ 0 u27 c58.1 (by rw [lh16]; exact c58.2)
      refine sl (v := (.int .u64 (([67108859, 67108863, 67108863, 67108863, 67108863] : List Int).getD u27.toNat 0))) rfl hk rfl rfl rfl ag97 ((e61 0 _ rfl).cell (hs.hasG (k := 3) rfl)) fun a hk => ?_
      refine se (hs.pick [(1, 1), (2, 2), (3, 3)] rfl) hk (hK_r53_5 _ _ ?_)
      refine tsst hk rfl rfl (fun K_r53_6 hK_r53_6 w hF => ?_) wt_stop
      have hs := hs.f hF
      refine sv (.bool (decide ((y10.getD u27.toNat 0) < (([67108859, 67108863, 67108863, 67108863, 67108863] : List Int).getD u27.toNat 0)))) hk rfl rfl rfl fun a hk => ?_
      refine se (hs.pick [(1, 1), (2, 2), (3, 3)] rfl) hk (hK_r53_6 _ _ ?_)
      refine wtl_nil fun w hF _ => ?_
      have hs := hs.f hF
      refine hK52 _ _ ?_
      have hs := hs.pick [(1, 1), (2, 2), (3, 3)] rfl
      rcases cond_some H with ⟨c62, H⟩ | ⟨c62, H⟩
      ·have hk := hk.lit 26 c62 rfl
       refine cnd_true hk rfl rfl ?_
       apply wp_seq_k; intro K63 hK63
       apply wp_region_lit
       refine slna (k := 1) hs rfl o14 lh12 rfl hk rfl rfl rfl ag99 sz99 fun a hk => ?_
       refine sswa 2 y10 hs rfl o7 lh8 lh12 rfl rfl hk rfl rfl rfl rfl sz99 fun k64 w a hk o65 hs => ?_
       show wpList _ _ _ [] _ _
       refine wpList_nil ?_
       refine hK63 _ _ ?_
       refine wp_ret ?_
       obtain rfl := Option.some.inj H
       have ho28 := h35
       try dsimp only at ho28
       subst ho28
       have H := HL30
       try dsimp only at H
       obtain rfl := Option.some.inj H
       exact fin hk _ [(aggI .u64 y10)] rfl ⟨⟨_, rfl, run_loadA ag99 sz99 o65 lh12 hs (q := 2) rfl⟩, trivial⟩ ⟨rfl, lh12, (hs.pick [] rfl).dnil⟩
      ·have hk := hk.lit 26 c62 rfl
       refine cnd_false hk rfl rfl ?_
       refine wp_skip ?_
       refine hK51 _ _ ?_
       refine wp_exit ?_
       obtain rfl := Option.some.inj H
       show R31 _ _
       rw [hR31]
       exact ⟨h35.symm, (hk.c 1 rfl (hk.c 2 rfl (hk.c 3 rfl hk.k))), (hs.pick [(1, 1), (2, 2), (3, 3)] rfl)⟩
     ·have hk := hk.lit 19 c50 rfl
      refine cnd_false hk rfl rfl ?_
      refine wp_skip ?_
      refine hK39 _ _ ?_
      have hs := hs.pick [(1, 1), (2, 2), (3, 3)] rfl
      apply wp_region_lit
      refine sm _ rfl hk rfl rfl rfl fun a hk => ?_
      refine sv (.int .i64 (w64 (u27 - 1))) hk rfl rfl rfl fun a hk => ?_
      refine sa _ rfl hk rfl rfl rfl fun a hk => ?_
      show wpList _ _ _ [] _ _
      refine wpList_nil ?_
      obtain rfl := Option.some.inj H
      obtain ⟨m66, hmm66, h35⟩ := h35
      show ∃ n', n' < _ ∧ I32 n' _ _
      refine ⟨m66, hmm66, ?_⟩
      rw [hI32]
      exact ⟨(w64 (u27 - 1)), h35, (hk.c 1 rfl (hk.c 2 rfl (hk.c 3 rfl (hk.c 4 rfl hk.k)))), (hs.pick [(1, 1), (2, 2), (3, 3)] rfl)⟩
    ·have hk := hk.lit 10 c38 rfl
     refine cnd_false hk rfl rfl ?_
     refine wp_exit ?_
     obtain rfl := Option.some.inj H
     show R31 _ _
     rw [hR31]
     exact ⟨h35.symm, (hk.c 1 rfl (hk.c 2 rfl (hk.c 3 rfl hk.k))), (hs.pick [(1, 1), (2, 2), (3, 3)] rfl)⟩
  ·intro a w hR0
   rw [hR31] at hR0
   obtain ⟨rfl, hk, hs⟩ := hR0
   have H := HL30
   try dsimp only at H
   refine hK23 _ _ ?_
   apply wp_seq_k; intro K67 hK67
   apply wp_seq_k; intro K68 hK68
   apply wp_region_lit
   refine sm _ rfl hk rfl rfl rfl fun a hk => ?_
   show wpList _ _ _ [] _ _
   refine wpList_nil ?_
   refine hK68 _ _ ?_
   obtain ⟨o80, h81, HL82⟩ := bind_some H
   clear H
   obtain ⟨R83, hR83⟩ : ∃ R : Act → World → Prop, R = fun a w => ∃ (u76 : List Int) (k77 : Chunk), o80 = .out u76 ∧ Kn [(1, (.pointer (some ⟨b2, 0, none⟩))), (2, (.pointer (some ⟨b5, 0, none⟩)))] 41 a ∧ Sat [] w0 w [] [(1, k77), (2, k6)] ∧ Own (Lay.int .u64) 99 (some ⟨b2, 0, none⟩) 5 u76 k77 ∧ u76.length = 5 := ⟨_, rfl⟩
   refine wp_cutq R83 ?_ ?_
   ·refine wp_block ?_
    obtain ⟨fu85, h81⟩ := loopO_some h81
    obtain ⟨I84, hI84⟩ : ∃ I : Nat → Act → World → Prop, I = fun fu a w => ∃ (u71 : List Int) (u75 : Int) (k72 : Chunk), loopN (fun s => impl_limbs_reduced.s1  s.1 s.2) fu (u71, u75) = some o80 ∧ Kn [(1, (.pointer (some ⟨b2, 0, none⟩))), (2, (.pointer (some ⟨b5, 0, none⟩))), (3, (.pointer (some ⟨b17, 0, none⟩))), (28, (.int .i64 u75))] 41 a ∧ Sat [] w0 w [] [(1, k72), (2, k6), (3, k21)] ∧ Own (Lay.int .u64) 99 (some ⟨b2, 0, none⟩) 5 u71 k72 ∧ u71.length = 5 := ⟨_, rfl⟩
    refine wp_loop_ghost I84 fu85 ?_ ?_
    ·rw [hI84]
     exact ⟨y10, 0, _, h81, (hk.c 1 rfl (hk.c 2 rfl (hk.c 3 rfl (hk.c 28 rfl hk.k)))), (hs.pick [(1, 1), (2, 2), (3, 3)] rfl), o14, lh12⟩
    ·clear h81 hk hs
     intro fu85 a w hI0
     rw [hI84] at hI0
     obtain ⟨u71, u75, k72, hi, hk, hs, o73, lh74⟩ := hI0
     obtain ⟨x86, H, h87⟩ := loop_round hi
     try dsimp only at H
     unfold impl_limbs_reduced.s1 at H
     apply wp_seq_k; intro K88 hK88
     apply wp_region_lit
     refine sv (.bool (decide (u75 < 5))) hk rfl rfl rfl fun a hk => ?_
     show wpList _ _ _ [] _ _
     refine wpList_nil ?_
     refine hK88 _ _ ?_
     apply wp_seq_k; intro K89 hK89
     rcases cond_some H with ⟨c90, H⟩ | ⟨c90, H⟩
     ·have hk := hk.lit 29 c90 rfl
      refine cnd_true hk rfl rfl ?_
      refine wp_skip ?_
      refine hK89 _ _ ?_
      have hs := hs.pick [(1, 1), (2, 2), (3, 3)] rfl
      apply wp_seq_k; intro K91 hK91
      refine wp_block ?_
      apply wp_seq_k; intro K92 hK92
      apply wp_region_lit
      refine sm _ rfl hk rfl rfl rfl fun a hk => ?_
      refine sa _ rfl hk rfl rfl rfl fun a hk => ?_
      show wpList _ _ _ [] _ _
      refine wpList_nil ?_
      refine hK92 _ _ ?_
      refine wp_region_tree (.q 0 (.q 1 (.q 2 (.alt 3 (.alt 4 (.alt 5 (.alt 6 (.alt 7 (.last 8) .stop) .stop) .stop) .stop) .stop)))) mo (by kernel_rfl) (hs.pick [(1, 1), (2, 2), (3, 3)] rfl) fun _ => ?_
      have hs := hs.drew
      refine tqst (.int .i64 u75) hk rfl rfl rfl rfl (fun w hs => sm _ rfl hk rfl rfl rfl fun a hk => qe hk) fun a hk => ?_
      rcases ite_some H with ⟨c94, H⟩ | ⟨_, H⟩
      rotate_left
      ·cases H
      obtain ⟨b95, q96, hAc94⟩ := (o73.view).some_ u75 c94.1 (by rw [lh74]; exact c94.2)
      refine tqst (.pointer (some (padd (some ⟨b2, 0, none⟩) (u75.toNat * 1)))) hk rfl rfl rfl rfl (fun w hs => sia rfl hk rfl rfl rfl rfl un99 sz97 c94.1 c94.2 hAc94 fun a hk => qe hk) fun a hk => ?_
      obtain ⟨_, rfl, e97⟩ := (o73.view).at_ 0 u75 c94.1 (by rw [lh74]; exact c94.2)
      refine tqst (.int .u64 (u71.getD u75.toNat 0)) hk rfl rfl rfl rfl (fun w hs => sl (v := (.int .u64 (u71.getD u75.toNat 0))) rfl hk rfl rfl rfl ag97 ((e97 0 _ rfl).cell (hs.hasG (k := 1) rfl)) fun a hk => qe hk) fun a hk => ?_
      refine tsst hk rfl rfl (fun K_r93_3 hK_r93_3 w hF => ?_) wt_stop
      have hs := hs.f hF
      refine sm _ rfl hk rfl rfl rfl fun a hk => ?_
      refine se (hs.pick [(1, 1), (2, 2), (3, 3)] rfl) hk (hK_r93_3 _ _ ?_)
      refine tsst hk rfl rfl (fun K_r93_4 hK_r93_4 w hF => ?_) wt_stop
      have hs := hs.f hF
      rcases ite_some H with ⟨c98, H⟩ | ⟨_, H⟩
      rotate_left
      ·cases H
      obtain ⟨b99, q100, hAc98⟩ := (o22.view).some_ u75 c98.1 (by rw [lh16]; exact c98.2)
      refine sia rfl hk rfl rfl rfl rfl un99 sz97 c98.1 c98.2 hAc98 fun a hk => ?_
      refine se (hs.pick [(1, 1), (2, 2), (3, 3)] rfl) hk (hK_r93_4 _ _ ?_)
      refine tsst hk rfl rfl (fun K_r93_5 hK_r93_5 w hF => ?_) wt_stop
      have hs := hs.f hF
      obtain ⟨_, rfl, e101⟩ := (o22.view).at_ 0 u75 c98.1 (by rw [lh16]; exact c98.2)
      refine sl (v := (.int .u64 (([67108859, 67108863, 67108863, 67108863, 67108863] : List Int).getD u75.toNat 0))) rfl hk rfl rfl rfl ag97 ((e101 0 _ rfl).cell (hs.hasG (k := 3) rfl)) fun a hk => ?_
      refine se (hs.pick [(1, 1), (2, 2), (3, 3)] rfl) hk (hK_r93_5 _ _ ?_)
      refine tsst hk rfl rfl (fun K_r93_6 hK_r93_6 w hF => ?_) wt_stop
      have hs := hs.f hF
      refine sv (.int .u64 (IntKind.wrap .u64 ((u71.getD u75.toNat 0) - (([67108859, 67108863, 67108863, 67108863, 67108863] : List Int).getD u75.toNat 0)))) hk rfl rfl rfl fun a hk => ?_
      refine se (hs.pick [(1, 1), (2, 2), (3, 3)] rfl) hk (hK_r93_6 _ _ ?_)
      refine tsst hk rfl rfl (fun K_r93_7 hK_r93_7 w hF => ?_) wt_stop
      have hs := hs.f hF
      rcases ite_some H with ⟨c102, H⟩ | ⟨_, H⟩
      rotate_left
      ·cases H
      obtain ⟨b103, q104, hAc102⟩ := (o73.view).some_ u75 c102.1 (by rw [lh74]; exact c102.2)
      refine sia rfl hk rfl rfl rfl rfl un99 sz97 c102.1 c102.2 hAc102 fun a hk => ?_
      refine se (hs.pick [(1, 1), (2, 2), (3, 3)] rfl) hk (hK_r93_7 _ _ ?_)
      refine tlst hk rfl rfl fun K_r93_8 hK_r93_8 w hF => ?_
      have hs := hs.f hF
      refine so (j := 0) 1 0 (IntKind.wrap .u64 ((u71.getD u75.toNat 0) - (([67108859, 67108863, 67108863, 67108863, 67108863] : List Int).getD u75.toNat 0))) hs rfl o73 c102.1 (by rw [lh74]; exact c102.2) rfl hk rfl rfl rfl rfl rfl sz97 (by simp [Value.cells, Value.oneCell']) (Nat.le_of_ble_eq_true rfl) (fun _ _ h => ⟨by rw [h.1]; rfl, h.2⟩) fun k105 w a hk o106 hs => ?_
      have lh107 : (u71.set u75.toNat (IntKind.wrap .u64 ((u71.getD u75.toNat 0) - (([67108859, 67108863, 67108863, 67108863, 67108863] : List Int).getD u75.toNat 0)))).length = 5 := by rw [List.length_set]; exact lh74
      refine se trivial hk (hK_r93_8 _ _ fun w hF => ?_)
      have hs := hs.f hF
      refine hK91 _ _ ?_
      apply wp_region_lit
      refine sv (.int .i64 (w64 (u75 + 1))) hk rfl rfl rfl fun a hk => ?_
      refine sm _ rfl hk rfl rfl rfl fun a hk => ?_
      show wpList _ _ _ [] _ _
      refine wpList_nil ?_
      obtain rfl := Option.some.inj H
      obtain ⟨m108, hmm108, h87⟩ := h87
      show ∃ n', n' < _ ∧ I84 n' _ _
      refine ⟨m108, hmm108, ?_⟩
      rw [hI84]
      exact ⟨(u71.set u75.toNat (IntKind.wrap .u64 ((u71.getD u75.toNat 0) - (([67108859, 67108863, 67108863, 67108863, 67108863] : List Int).getD u75.toNat 0)))), (w64 (u75 + 1)), _, h87, (hk.c 1 rfl (hk.c 2 rfl (hk.c 3 rfl (hk.c 28 rfl hk.k)))), (hs.pick [(1, 1), (2, 2), (3, 3)] rfl), o106, lh107⟩
     ·have hk := hk.lit 29 c90 rfl
      refine cnd_false hk rfl rfl ?_
      refine wp_exit ?_
      obtain rfl := Option.some.inj H
      show R83 _ _
      rw [hR83]
      exact ⟨u71, _, h87.symm, (hk.c 1 rfl (hk.c 2 rfl hk.k)), (hs.pick [(1, 1), (2, 2)] rfl), o73, lh74⟩
   ·intro a w hR0
    rw [hR83] at hR0
    obtain ⟨u76, k77, rfl, hk, hs, o78, lh79⟩ := hR0
    have H := HL82
    try dsimp only at H
    refine hK67 _ _ ?_
    apply wp_seq_k; intro K109 hK109
    apply wp_region_lit
    refine slna (k := 1) hs rfl o78 lh79 rfl hk rfl rfl rfl ag99 sz99 fun a hk => ?_
    refine sswa 2 u76 hs rfl o7 lh8 lh79 rfl rfl hk rfl rfl rfl rfl sz99 fun k110 w a hk o111 hs => ?_
    show wpList _ _ _ [] _ _
    refine wpList_nil ?_
    refine hK109 _ _ ?_
    have hs := hs.pick [(2, 2)] rfl
    refine wp_ret ?_
    obtain rfl := Option.some.inj H
    exact fin hk _ [(aggI .u64 u76)] rfl ⟨⟨_, rfl, run_loadA ag99 sz99 o111 lh79 hs (q := 2) rfl⟩, trivial⟩ ⟨rfl, lh79, (hs.pick [] rfl).dnil⟩

noncomputable def impl_limbs_bytes.s1 (x0 : List Int) (u21 : Int) (u44 : Int) (u45 : Int) : Option ((Int × Int) ⊕ Ex (Int) (ByteArray)) :=
  (bif (decide (u45 < 8)) then (if 0 ≤ (IntKind.wrap .i64 (Int.tdiv (w64 ((w64 (8 * u21)) + u45)) 26)) ∧ (IntKind.wrap .i64 (Int.tdiv (w64 ((w64 (8 * u21)) + u45)) 26)) < (5 : Int) then (if 0 ≤ (Int.tmod (w64 ((w64 (8 * u21)) + u45)) 26) then (if 0 ≤ u45 then (some (.inl ((IntKind.wrap .i64 ((BitVec.ofInt 64 u44 ||| BitVec.ofInt 64 (IntKind.wrap .i64 ((IntKind.wrap .i64 (IntKind.wrap .u64 ((BitVec.ofInt 64 (Int.fdiv (x0.getD (IntKind.wrap .i64 (Int.tdiv (w64 ((w64 (8 * u21)) + u45)) 26)).toNat 0) (2 ^ min (Int.tmod (w64 ((w64 (8 * u21)) + u45)) 26).toNat 64)) &&& BitVec.ofInt 64 1).toNat : Int))) * 2 ^ min u45.toNat 64))).toNat : Int)), (w64 (u45 + 1))))) else none) else none) else none) else (some (.inr (.out u44))))
noncomputable def impl_limbs_bytes.s0 (x0 : List Int) (x1 : ByteArray) (u16 : List Int) (u20 : Int) (u21 : Int) : Option (((List Int) × Int × Int) ⊕ Ex ((List Int)) (ByteArray)) :=
  (bif (decide (u21 < ((((16 : Int)).toNat) : Int))) then ((loopO (fun s => impl_limbs_bytes.s1 x0 u21 s.1 s.2) (0, 0)).bind fun o => match o with | .out u46 => (if 0 ≤ u21 ∧ u21 < (x1.size : Int) then (if 0 ≤ u21 ∧ u21 < ((((16 : Int)).toNat) : Int) then (some (.inl ((u16.set u21.toNat (IntKind.wrap .u8 (w64 (u20 + (w64 (u46 + (IntKind.wrap .i64 (byteAt x1 u21)))))))), (Int.fdiv (w64 (u20 + (w64 (u46 + (IntKind.wrap .i64 (byteAt x1 u21)))))) (2 ^ 8)), (w64 (u21 + 1))))) else none) else none) | .ret r => (some (.inr (.ret r)))) else (some (.inr (.out u16))))
noncomputable def impl_limbs_bytes.f (x0 : List Int) (x1 : ByteArray) : Option (ByteArray) :=
  (if 0 ≤ (16 : Int) ∧ (16 : Int) ≤ 1073741824 then ((loopO (fun s => impl_limbs_bytes.s0 x0 x1 s.1 s.2.1 s.2.2) ((List.replicate ((16 : Int)).toNat (0 : Int)), 0, 0)).bind fun o => match o with | .out u22 => (some (strOfNums u22)) | .ret r => (some r)) else none)
set_option maxRecDepth 100000 in
set_option maxHeartbeats 0 in
theorem impl_limbs_bytes_t (w0 : World) (x0 : List Int) (e0_ : x0.length = 5) (x1 : ByteArray) (r : ByteArray) (H : impl_limbs_bytes.f x0 x1 = some r) :
    Calls Try.prog 101 #[aggI .u64 x0, .string x1] w0 (Ret (fun v w => v = .string r ∧ Sat [] w0 w [] [])) := by
  have hs : Sat [] w0 w0 [] [] := Sat.init w0 [] [] (by simp) (by simp) List.nodup_nil (by simp [blks])
  unfold impl_limbs_bytes.f at H
  refine enter Try.func101 rfl Try.ntmps101 rfl fun a hk => ?_
  apply wp_seq_k; intro K1 hK1
  apply wp_region_lit
  refine sbxa 1 hs rfl hk rfl rfl rfl e0_ rfl fun b2 k3 w a hk o4 hs => ?_
  refine sa _ rfl hk rfl rfl rfl fun a hk => ?_
  show wpList _ _ _ [] _ _
  refine wpList_nil ?_
  refine hK1 _ _ ?_
  apply wp_seq_k; intro K5 hK5
  apply wp_region_lit
  rcases ite_some H with ⟨c6, H⟩ | ⟨_, H⟩
  rotate_left
  ·cases H
  refine smk 2 (Lay.int .u8) hs rfl hk rfl rfl rfl rfl un22 mk5 lz5 rfl rfl c6.1 c6.2 fun b7 k8 w a hk o9 hs => ?_
  have lh10 : (List.replicate ((16 : Int)).toNat (0 : Int)).length = ((16 : Int)).toNat := List.length_replicate
  refine sa _ rfl hk rfl rfl rfl fun a hk => ?_
  show wpList _ _ _ [] _ _
  refine wpList_nil ?_
  refine hK5 _ _ ?_
  apply wp_seq_k; intro K11 hK11
  apply wp_region_lit
  refine sa _ rfl hk rfl rfl rfl fun a hk => ?_
  show wpList _ _ _ [] _ _
  refine wpList_nil ?_
  refine hK11 _ _ ?_
  apply wp_seq_k; intro K12 hK12
  apply wp_seq_k; intro K13 hK13
  apply wp_region_lit
  refine sm _ rfl hk rfl rfl rfl fun a hk => ?_
  refine sle rfl hk rfl rfl rfl un22 fun a hk => ?_
  refine sm _ rfl hk rfl rfl rfl fun a hk => ?_
  show wpList _ _ _ [] _ _
  refine wpList_nil ?_
  refine hK13 _ _ ?_
  have hs := hs.pick [(1, 1), (2, 2)] rfl
  obtain ⟨o26, h27, HL28⟩ := bind_some H
  clear H
  obtain ⟨R29, hR29⟩ : ∃ R : Act → World → Prop, R = fun a w => ∃ (u22 : List Int) (k23 : Chunk), o26 = .out u22 ∧ Kn [(5, (.slice (some ⟨b7, 0, none⟩) (((16 : Int)).toNat) (((16 : Int)).toNat)))] 56 a ∧ Sat [] w0 w [] [(2, k23)] ∧ Own (Lay.int .u8) 5 (some ⟨b7, 0, none⟩) (((16 : Int)).toNat) u22 k23 ∧ u22.length = (((16 : Int)).toNat) := ⟨_, rfl⟩
  refine wp_cutq R29 ?_ ?_
  ·refine wp_block ?_
   obtain ⟨fu31, h27⟩ := loopO_some h27
   obtain ⟨I30, hI30⟩ : ∃ I : Nat → Act → World → Prop, I = fun fu a w => ∃ (u16 : List Int) (u20 : Int) (u21 : Int) (k17 : Chunk), loopN (fun s => impl_limbs_bytes.s0 x0 x1 s.1 s.2.1 s.2.2) fu (u16, u20, u21) = some o26 ∧ Kn [(1, (.string x1)), (2, (.pointer (some ⟨b2, 0, none⟩))), (5, (.slice (some ⟨b7, 0, none⟩) (((16 : Int)).toNat) (((16 : Int)).toNat))), (6, (.int .i64 u20)), (13, (.int .i64 ((((16 : Int)).toNat) : Int))), (14, (.int .i64 u21))] 56 a ∧ Sat [] w0 w [] [(1, k3), (2, k17)] ∧ Own (Lay.int .u8) 5 (some ⟨b7, 0, none⟩) (((16 : Int)).toNat) u16 k17 ∧ u16.length = (((16 : Int)).toNat) := ⟨_, rfl⟩
   refine wp_loop_ghost I30 fu31 ?_ ?_
   ·rw [hI30]
    exact ⟨(List.replicate ((16 : Int)).toNat (0 : Int)), 0, 0, _, h27, (hk.c 1 rfl (hk.c 2 rfl (hk.c 5 rfl (hk.c 6 rfl (hk.c 13 rfl (hk.c 14 rfl hk.k)))))), (hs.pick [(1, 1), (2, 2)] rfl), o9, lh10⟩
   ·clear h27 hk hs
    intro fu31 a w hI0
    rw [hI30] at hI0
    obtain ⟨u16, u20, u21, k17, hi, hk, hs, o18, lh19⟩ := hI0
    obtain ⟨x32, H, h33⟩ := loop_round hi
    try dsimp only at H
    unfold impl_limbs_bytes.s0 at H
    apply wp_seq_k; intro K34 hK34
    apply wp_region_lit
    refine sv (.bool (decide (u21 < ((((16 : Int)).toNat) : Int)))) hk rfl rfl rfl fun a hk => ?_
    show wpList _ _ _ [] _ _
    refine wpList_nil ?_
    refine hK34 _ _ ?_
    apply wp_seq_k; intro K35 hK35
    rcases cond_some H with ⟨c36, H⟩ | ⟨c36, H⟩
    ·have hk := hk.lit 15 c36 rfl
     refine cnd_true hk rfl rfl ?_
     refine wp_skip ?_
     refine hK35 _ _ ?_
     apply wp_seq_k; intro K37 hK37
     refine wp_block ?_
     apply wp_seq_k; intro K38 hK38
     apply wp_region_lit
     refine sm _ rfl hk rfl rfl rfl fun a hk => ?_
     refine sa _ rfl hk rfl rfl rfl fun a hk => ?_
     show wpList _ _ _ [] _ _
     refine wpList_nil ?_
     refine hK38 _ _ ?_
     apply wp_seq_k; intro K39 hK39
     apply wp_region_lit
     refine sa _ rfl hk rfl rfl rfl fun a hk => ?_
     show wpList _ _ _ [] _ _
     refine wpList_nil ?_
     refine hK39 _ _ ?_
     have hs := hs.pick [(1, 1), (2, 2)] rfl
     apply wp_seq_k; intro K40 hK40
     apply wp_seq_k; intro K41 hK41
     apply wp_region_lit
     refine sm _ rfl hk rfl rfl rfl fun a hk => ?_
     show wpList _ _ _ [] _ _
     refine wpList_nil ?_
     refine hK41 _ _ ?_
     obtain ⟨o47, h48, HL49⟩ := bind_some H
     clear H
     obtain ⟨R50, hR50⟩ : ∃ R : Act → World → Prop, R = fun a w => ∃ (u46 : Int), o47 = .out u46 ∧ Kn [(1, (.string x1)), (2, (.pointer (some ⟨b2, 0, none⟩))), (5, (.slice (some ⟨b7, 0, none⟩) (((16 : Int)).toNat) (((16 : Int)).toNat))), (6, (.int .i64 u20)), (7, (.int .i64 u21)), (8, (.int .i64 u46)), (13, (.int .i64 ((((16 : Int)).toNat) : Int))), (14, (.int .i64 u21))] 56 a ∧ Sat [] w0 w [] [(1, k3), (2, k17)] := ⟨_, rfl⟩
     refine wp_cutq R50 ?_ ?_
     ·refine wp_block ?_
      obtain ⟨fu52, h48⟩ := loopO_some h48
      obtain ⟨I51, hI51⟩ : ∃ I : Nat → Act → World → Prop, I = fun fu a w => ∃ (u44 : Int) (u45 : Int), loopN (fun s => impl_limbs_bytes.s1 x0 u21 s.1 s.2) fu (u44, u45) = some o47 ∧ Kn [(1, (.string x1)), (2, (.pointer (some ⟨b2, 0, none⟩))), (5, (.slice (some ⟨b7, 0, none⟩) (((16 : Int)).toNat) (((16 : Int)).toNat))), (6, (.int .i64 u20)), (7, (.int .i64 u21)), (8, (.int .i64 u44)), (13, (.int .i64 ((((16 : Int)).toNat) : Int))), (14, (.int .i64 u21)), (17, (.int .i64 u45))] 56 a ∧ Sat [] w0 w [] [(1, k3), (2, k17)] := ⟨_, rfl⟩
      refine wp_loop_ghost I51 fu52 ?_ ?_
      ·rw [hI51]
       exact ⟨0, 0, h48, (hk.c 1 rfl (hk.c 2 rfl (hk.c 5 rfl (hk.c 6 rfl (hk.c 7 rfl (hk.c 8 rfl (hk.c 13 rfl (hk.c 14 rfl (hk.c 17 rfl hk.k))))))))), (hs.pick [(1, 1), (2, 2)] rfl)⟩
      ·clear h48 hk hs
       intro fu52 a w hI0
       rw [hI51] at hI0
       obtain ⟨u44, u45, hi, hk, hs⟩ := hI0
       obtain ⟨x53, H, h54⟩ := loop_round hi
       try dsimp only at H
       unfold impl_limbs_bytes.s1 at H
       apply wp_seq_k; intro K55 hK55
       apply wp_region_lit
       refine sv (.bool (decide (u45 < 8))) hk rfl rfl rfl fun a hk => ?_
       show wpList _ _ _ [] _ _
       refine wpList_nil ?_
       refine hK55 _ _ ?_
       apply wp_seq_k; intro K56 hK56
       rcases cond_some H with ⟨c57, H⟩ | ⟨c57, H⟩
       ·have hk := hk.lit 18 c57 rfl
        refine cnd_true hk rfl rfl ?_
        refine wp_skip ?_
        refine hK56 _ _ ?_
        apply wp_seq_k; intro K58 hK58
        refine wp_block ?_
        apply wp_seq_k; intro K59 hK59
        apply wp_region_lit
        refine sm _ rfl hk rfl rfl rfl fun a hk => ?_
        refine sa _ rfl hk rfl rfl rfl fun a hk => ?_
        show wpList _ _ _ [] _ _
        refine wpList_nil ?_
        refine hK59 _ _ ?_
        have hs := hs.pick [(1, 1), (2, 2)] rfl
        apply wp_seq_k; intro K60 hK60
        apply wp_region_lit
        refine sm _ rfl hk rfl rfl rfl fun a hk => ?_
        refine sv (.int .i64 (w64 (8 * u21))) hk rfl rfl rfl fun a hk => ?_
        refine sm _ rfl hk rfl rfl rfl fun a hk => ?_
        refine sv (.int .i64 (w64 ((w64 (8 * u21)) + u45))) hk rfl rfl rfl fun a hk => ?_
        refine sa _ rfl hk rfl rfl rfl fun a hk => ?_
        show wpList _ _ _ [] _ _
        refine wpList_nil ?_
        refine hK60 _ _ ?_
        apply wp_region_lit
        refine sm _ rfl hk rfl rfl rfl fun a hk => ?_
        refine sm _ rfl hk rfl rfl rfl fun a hk => ?_
        refine sv (.int .i64 (IntKind.wrap .i64 (Int.tdiv (w64 ((w64 (8 * u21)) + u45)) 26))) hk rfl rfl rfl fun a hk => ?_
        rcases ite_some H with ⟨c61, H⟩ | ⟨_, H⟩
        rotate_left
        ·cases H
        obtain ⟨b62, q63, hAc61⟩ := (o4.view).some_ (IntKind.wrap .i64 (Int.tdiv (w64 ((w64 (8 * u21)) + u45)) 26)) c61.1 (by rw [e0_]; exact c61.2)
        refine sia rfl hk rfl rfl rfl rfl un99 sz97 c61.1 c61.2 hAc61 fun a hk => ?_
        obtain ⟨_, rfl, e64⟩ := (o4.view).at_ 0 (IntKind.wrap .i64 (Int.tdiv (w64 ((w64 (8 * u21)) + u45)) 26)) c61.1 (by rw [e0_]; exact c61.2)
        refine sl (v := (.int .u64 (x0.getD (IntKind.wrap .i64 (Int.tdiv (w64 ((w64 (8 * u21)) + u45)) 26)).toNat 0))) rfl hk rfl rfl rfl ag97 ((e64 0 _ rfl).cell (hs.hasG (k := 1) rfl)) fun a hk => ?_
        refine sm _ rfl hk rfl rfl rfl fun a hk => ?_
        refine sv (.int .i64 (Int.tmod (w64 ((w64 (8 * u21)) + u45)) 26)) hk rfl rfl rfl fun a hk => ?_
        rcases ite_some H with ⟨c65, H⟩ | ⟨_, H⟩
        rotate_left
        ·cases H
        refine ssr rfl hk rfl rfl rfl rfl c65 fun a hk => ?_
        refine sv (.int .u64 (IntKind.wrap .u64 ((BitVec.ofInt 64 (Int.fdiv (x0.getD (IntKind.wrap .i64 (Int.tdiv (w64 ((w64 (8 * u21)) + u45)) 26)).toNat 0) (2 ^ min (Int.tmod (w64 ((w64 (8 * u21)) + u45)) 26).toNat 64)) &&& BitVec.ofInt 64 1).toNat : Int))) hk rfl rfl rfl fun a hk => ?_
        refine scn rfl hk rfl rfl rfl un3 un97 fun a hk => ?_
        refine sm _ rfl hk rfl rfl rfl fun a hk => ?_
        rcases ite_some H with ⟨c66, H⟩ | ⟨_, H⟩
        rotate_left
        ·cases H
        refine ssh rfl hk rfl rfl rfl rfl c66 fun a hk => ?_
        refine sv (.int .i64 (IntKind.wrap .i64 ((BitVec.ofInt 64 u44 ||| BitVec.ofInt 64 (IntKind.wrap .i64 ((IntKind.wrap .i64 (IntKind.wrap .u64 ((BitVec.ofInt 64 (Int.fdiv (x0.getD (IntKind.wrap .i64 (Int.tdiv (w64 ((w64 (8 * u21)) + u45)) 26)).toNat 0) (2 ^ min (Int.tmod (w64 ((w64 (8 * u21)) + u45)) 26).toNat 64)) &&& BitVec.ofInt 64 1).toNat : Int))) * 2 ^ min u45.toNat 64))).toNat : Int))) hk rfl rfl rfl fun a hk => ?_
        refine sa _ rfl hk rfl rfl rfl fun a hk => ?_
        show wpList _ _ _ [] _ _
        refine wpList_nil ?_
        refine hK58 _ _ ?_
        apply wp_region_lit
        refine sv (.int .i64 (w64 (u45 + 1))) hk rfl rfl rfl fun a hk => ?_
        refine sm _ rfl hk rfl rfl rfl fun a hk => ?_
        show wpList _ _ _ [] _ _
        refine wpList_nil ?_
        obtain rfl := Option.some.inj H
        obtain ⟨m67, hmm67, h54⟩ := h54
        show ∃ n', n' < _ ∧ I51 n' _ _
        refine ⟨m67, hmm67, ?_⟩
        rw [hI51]
        exact ⟨(IntKind.wrap .i64 ((BitVec.ofInt 64 u44 ||| BitVec.ofInt 64 (IntKind.wrap .i64 ((IntKind.wrap .i64 (IntKind.wrap .u64 ((BitVec.ofInt 64 (Int.fdiv (x0.getD (IntKind.wrap .i64 (Int.tdiv (w64 ((w64 (8 * u21)) + u45)) 26)).toNat 0) (2 ^ min (Int.tmod (w64 ((w64 (8 * u21)) + u45)) 26).toNat 64)) &&& BitVec.ofInt 64 1).toNat : Int))) * 2 ^ min u45.toNat 64))).toNat : Int)), (w64 (u45 + 1)), h54, (hk.c 1 rfl (hk.c 2 rfl (hk.c 5 rfl (hk.c 6 rfl (hk.c 7 rfl (hk.c 8 rfl (hk.c 13 rfl (hk.c 14 rfl (hk.c 17 rfl hk.k))))))))), (hs.pick [(1, 1), (2, 2)] rfl)⟩
       ·have hk := hk.lit 18 c57 rfl
        refine cnd_false hk rfl rfl ?_
        refine wp_exit ?_
        obtain rfl := Option.some.inj H
        show R50 _ _
        rw [hR50]
        exact ⟨u44, h54.symm, (hk.c 1 rfl (hk.c 2 rfl (hk.c 5 rfl (hk.c 6 rfl (hk.c 7 rfl (hk.c 8 rfl (hk.c 13 rfl (hk.c 14 rfl hk.k)))))))), (hs.pick [(1, 1), (2, 2)] rfl)⟩
     ·intro a w hR0
      rw [hR50] at hR0
      obtain ⟨u46, rfl, hk, hs⟩ := hR0
      have H := HL49
      try dsimp only at H
      refine hK40 _ _ ?_
      apply wp_seq_k; intro K68 hK68
      apply wp_region_lit
      refine sm _ rfl hk rfl rfl rfl fun a hk => ?_
      refine sm _ rfl hk rfl rfl rfl fun a hk => ?_
      refine sm _ rfl hk rfl rfl rfl fun a hk => ?_
      refine sm _ rfl hk rfl rfl rfl fun a hk => ?_
      rcases ite_some H with ⟨c69, H⟩ | ⟨_, H⟩
      rotate_left
      ·cases H
      refine six rfl hk rfl rfl rfl rfl un9 c69.1 c69.2 fun a hk => ?_
      refine scn rfl hk rfl rfl rfl un3 un5 fun a hk => ?_
      refine sv (.int .i64 (w64 (u46 + (IntKind.wrap .i64 (byteAt x1 u21))))) hk rfl rfl rfl fun a hk => ?_
      refine sv (.int .i64 (w64 (u20 + (w64 (u46 + (IntKind.wrap .i64 (byteAt x1 u21))))))) hk rfl rfl rfl fun a hk => ?_
      refine sa _ rfl hk rfl rfl rfl fun a hk => ?_
      show wpList _ _ _ [] _ _
      refine wpList_nil ?_
      refine hK68 _ _ ?_
      apply wp_seq_k; intro K70 hK70
      apply wp_region_lit
      refine sm _ rfl hk rfl rfl rfl fun a hk => ?_
      refine sm _ rfl hk rfl rfl rfl fun a hk => ?_
      refine sm _ rfl hk rfl rfl rfl fun a hk => ?_
      refine scn rfl hk rfl rfl rfl un5 un3 fun a hk => ?_
      rcases ite_some H with ⟨c71, H⟩ | ⟨_, H⟩
      rotate_left
      ·cases H
      obtain ⟨b72, q73, hAc71⟩ := (o18.view).some_ u21 c71.1 (by rw [lh19]; exact c71.2)
      refine si rfl hk rfl rfl rfl rfl un22 sz5 c71.1 c71.2 hAc71 fun a hk => ?_
      refine so (j := 0) 2 0 (IntKind.wrap .u8 (w64 (u20 + (w64 (u46 + (IntKind.wrap .i64 (byteAt x1 u21))))))) hs rfl o18 c71.1 (by rw [lh19]; exact c71.2) rfl hk rfl rfl rfl rfl rfl sz5 (by simp [Value.cells, Value.oneCell']) (Nat.le_of_ble_eq_true rfl) (fun _ _ h => ⟨by rw [h.1]; rfl, h.2⟩) fun k74 w a hk o75 hs => ?_
      have lh76 : (u16.set u21.toNat (IntKind.wrap .u8 (w64 (u20 + (w64 (u46 + (IntKind.wrap .i64 (byteAt x1 u21)))))))).length = (((16 : Int)).toNat) := by rw [List.length_set]; exact lh19
      show wpList _ _ _ [] _ _
      refine wpList_nil ?_
      refine hK70 _ _ ?_
      have hs := hs.pick [(1, 1), (2, 2)] rfl
      apply wp_region_lit
      refine sm _ rfl hk rfl rfl rfl fun a hk => ?_
      refine sv (.int .i64 (Int.fdiv (w64 (u20 + (w64 (u46 + (IntKind.wrap .i64 (byteAt x1 u21)))))) (2 ^ 8))) hk rfl rfl rfl fun a hk => ?_
      refine sa _ rfl hk rfl rfl rfl fun a hk => ?_
      show wpList _ _ _ [] _ _
      refine wpList_nil ?_
      refine hK37 _ _ ?_
      apply wp_region_lit
      refine sv (.int .i64 (w64 (u21 + 1))) hk rfl rfl rfl fun a hk => ?_
      refine sm _ rfl hk rfl rfl rfl fun a hk => ?_
      show wpList _ _ _ [] _ _
      refine wpList_nil ?_
      obtain rfl := Option.some.inj H
      obtain ⟨m77, hmm77, h33⟩ := h33
      show ∃ n', n' < _ ∧ I30 n' _ _
      refine ⟨m77, hmm77, ?_⟩
      rw [hI30]
      exact ⟨(u16.set u21.toNat (IntKind.wrap .u8 (w64 (u20 + (w64 (u46 + (IntKind.wrap .i64 (byteAt x1 u21)))))))), (Int.fdiv (w64 (u20 + (w64 (u46 + (IntKind.wrap .i64 (byteAt x1 u21)))))) (2 ^ 8)), (w64 (u21 + 1)), _, h33, (hk.c 1 rfl (hk.c 2 rfl (hk.c 5 rfl (hk.c 6 rfl (hk.c 13 rfl (hk.c 14 rfl hk.k)))))), (hs.pick [(1, 1), (2, 2)] rfl), o75, lh76⟩
    ·have hk := hk.lit 15 c36 rfl
     refine cnd_false hk rfl rfl ?_
     refine wp_exit ?_
     obtain rfl := Option.some.inj H
     show R29 _ _
     rw [hR29]
     exact ⟨u16, _, h33.symm, (hk.c 5 rfl hk.k), (hs.pick [(2, 2)] rfl), o18, lh19⟩
  ·intro a w hR0
   rw [hR29] at hR0
   obtain ⟨u22, k23, rfl, hk, hs, o24, lh25⟩ := hR0
   have H := HL28
   try dsimp only at H
   refine hK12 _ _ ?_
   apply wp_seq_k; intro K78 hK78
   apply wp_region_lit
   refine sm _ rfl hk rfl rfl rfl fun a hk => ?_
   refine sbt (xs := u22) rfl hk rfl rfl lh25.symm rfl un22 un5 un9 o24.view (hs.hasG (k := 2) rfl) fun a hk => ?_
   refine sa _ rfl hk rfl rfl rfl fun a hk => ?_
   show wpList _ _ _ [] _ _
   refine wpList_nil ?_
   refine hK78 _ _ ?_
   refine wp_ret ?_
   obtain rfl := Option.some.inj H
   exact fin hk _ [(.string (strOfNums u22))] rfl ⟨rfl, trivial⟩ ⟨rfl, (hs.pick [] rfl).dnil⟩

noncomputable def impl_tag.s0 (x1 : ByteArray) (y10 : (List Int)) (u23 : List Int) (u27 : Int) : Option (((List Int) × Int) ⊕ Ex ((List Int)) (ByteArray)) :=
  (bif (decide (u27 < (x1.size : Int))) then (if 0 ≤ u27 ∧ u27 ≤ (if (x1.size : Int) < (w64 (u27 + 16)) then (x1.size : Int) else (w64 (u27 + 16))) ∧ (if (x1.size : Int) < (w64 (u27 + 16)) then (x1.size : Int) else (w64 (u27 + 16))) ≤ (x1.size : Int) then (if (x1.extract u27.toNat (if (x1.size : Int) < (w64 (u27 + 16)) then (x1.size : Int) else (w64 (u27 + 16))).toNat).size + (⟨#[1]⟩ : ByteArray).size ≤ 1152921504606846976 then ((impl_limbsOf.f ((x1.extract u27.toNat (if (x1.size : Int) < (w64 (u27 + 16)) then (x1.size : Int) else (w64 (u27 + 16))).toNat) ++ (⟨#[1]⟩ : ByteArray))).bind fun y47 => ((impl_limbs_plus.f u23 y47).bind fun y50 => ((impl_limbs_times.f y50 y10).bind fun y53 => (some (.inl (y53, (w64 (u27 + 16)))))))) else none) else none) else (some (.inr (.out u23))))
noncomputable def impl_tag.f (x0 : ByteArray) (x1 : ByteArray) : Option (ByteArray) :=
  ((impl_clamped.f x0).bind fun y8 => ((impl_limbsOf.f y8).bind fun y10 => ((loopO (fun s => impl_tag.s0 x1 y10 s.1 s.2) ((List.replicate 5 (0 : Int)), 0)).bind fun o => match o with | .out u28 => (if 0 ≤ (16 : Int) ∧ (16 : Int) ≤ (x0.size : Int) then ((impl_limbs_reduced.f u28).bind fun y62 => ((impl_limbs_bytes.f y62 (x0.extract (16 : Int).toNat x0.size)).bind fun y65 => (some y65))) else none) | .ret r => (some r))))
set_option maxRecDepth 100000 in
set_option maxHeartbeats 0 in
theorem impl_tag_t (w0 : World) (x0 : ByteArray) (x1 : ByteArray) (r : ByteArray) (H : impl_tag.f x0 x1 = some r) :
    Calls Try.prog 54 #[.string x0, .string x1] w0 (Ret (fun v w => v = .string r ∧ Sat [] w0 w [] [])) := by
  have hs : Sat [] w0 w0 [] [] := Sat.init w0 [] [] (by simp) (by simp) List.nodup_nil (by simp [blks])
  unfold impl_tag.f at H
  refine enter Try.func54 rfl Try.ntmps54 rfl fun a hk => ?_
  apply wp_seq_k; intro K1 hK1
  apply wp_region_lit
  refine sa _ rfl hk rfl rfl rfl fun a hk => ?_
  show wpList _ _ _ [] _ _
  refine wpList_nil ?_
  refine hK1 _ _ ?_
  apply wp_seq_k; intro K2 hK2
  apply wp_region_lit
  refine sala 1 ((Lay.int .u64)) (m := 5) (z := 0) (zc := [.int .u64 0]) hs rfl hk rfl rfl ze99 (by exact ⟨rfl, rfl⟩) rfl rfl rfl fun b3 k4 w a hk o5 hs => ?_
  have lh6 : (List.replicate 5 (0 : Int)).length = 5 := List.length_replicate
  show wpList _ _ _ [] _ _
  refine wpList_nil ?_
  refine hK2 _ _ ?_
  apply wp_seq_k; intro K7 hK7
  apply wp_region_lit
  refine sm _ rfl hk rfl rfl rfl fun a hk => ?_
  obtain ⟨y8, h9, H⟩ := bind_some H
  refine sc rfl en56 hk rfl rfl rfl (impl_clamped_t _ x0 _ h9) ?_
  rintro _ w ⟨rfl, hG⟩ a hk
  have hs := hs.call0 hG
  obtain ⟨y10, h11, H⟩ := bind_some H
  refine sc rfl en97 hk rfl rfl rfl (impl_limbsOf_t _ y8 _ h11) ?_
  rintro _ w ⟨rfl, lh12, hG⟩ a hk
  have hs := hs.call0 hG
  refine sala 2 ((Lay.int .u64)) (m := 5) (z := 0) (zc := [.int .u64 0]) hs rfl hk rfl rfl ze99 (by exact ⟨rfl, rfl⟩) rfl rfl rfl fun b13 k14 w a hk o15 hs => ?_
  have lh16 : (List.replicate 5 (0 : Int)).length = 5 := List.length_replicate
  refine sswa 2 y10 hs rfl o15 lh16 lh12 rfl rfl hk rfl rfl rfl rfl sz99 fun k17 w a hk o18 hs => ?_
  show wpList _ _ _ [] _ _
  refine wpList_nil ?_
  refine hK7 _ _ ?_
  apply wp_seq_k; intro K19 hK19
  apply wp_seq_k; intro K20 hK20
  apply wp_region_lit
  refine sa _ rfl hk rfl rfl rfl fun a hk => ?_
  show wpList _ _ _ [] _ _
  refine wpList_nil ?_
  refine hK20 _ _ ?_
  have hs := hs.pick [(1, 1), (2, 2)] rfl
  obtain ⟨o32, h33, HL34⟩ := bind_some H
  clear H
  obtain ⟨R35, hR35⟩ : ∃ R : Act → World → Prop, R = fun a w => ∃ (u28 : List Int) (k29 : Chunk), o32 = .out u28 ∧ Kn [(0, (.string x0)), (5, (.pointer (some ⟨b3, 0, none⟩)))] 36 a ∧ Sat [] w0 w [] [(1, k29)] ∧ Own (Lay.int .u64) 99 (some ⟨b3, 0, none⟩) 5 u28 k29 ∧ u28.length = 5 := ⟨_, rfl⟩
  refine wp_cutq R35 ?_ ?_
  ·refine wp_block ?_
   obtain ⟨fu37, h33⟩ := loopO_some h33
   obtain ⟨I36, hI36⟩ : ∃ I : Nat → Act → World → Prop, I = fun fu a w => ∃ (u23 : List Int) (u27 : Int) (k24 : Chunk), loopN (fun s => impl_tag.s0 x1 y10 s.1 s.2) fu (u23, u27) = some o32 ∧ Kn [(0, (.string x0)), (1, (.string x1)), (5, (.pointer (some ⟨b3, 0, none⟩))), (6, (.pointer (some ⟨b13, 0, none⟩))), (7, (.int .i64 u27))] 36 a ∧ Sat [] w0 w [] [(1, k24), (2, k17)] ∧ Own (Lay.int .u64) 99 (some ⟨b3, 0, none⟩) 5 u23 k24 ∧ u23.length = 5 := ⟨_, rfl⟩
   refine wp_loop_ghost I36 fu37 ?_ ?_
   ·rw [hI36]
    exact ⟨(List.replicate 5 (0 : Int)), 0, _, h33, (hk.c 0 rfl (hk.c 1 rfl (hk.c 5 rfl (hk.c 6 rfl (hk.c 7 rfl hk.k))))), (hs.pick [(1, 1), (2, 2)] rfl), o5, lh6⟩
   ·clear h33 hk hs
    intro fu37 a w hI0
    rw [hI36] at hI0
    obtain ⟨u23, u27, k24, hi, hk, hs, o25, lh26⟩ := hI0
    obtain ⟨x38, H, h39⟩ := loop_round hi
    try dsimp only at H
    unfold impl_tag.s0 at H
    apply wp_seq_k; intro K40 hK40
    apply wp_seq_k; intro K41 hK41
    apply wp_region_lit
    refine sm _ rfl hk rfl rfl rfl fun a hk => ?_
    refine sm _ rfl hk rfl rfl rfl fun a hk => ?_
    refine sles rfl hk rfl rfl rfl un9 fun a hk => ?_
    refine sv (.bool (decide (u27 < (x1.size : Int)))) hk rfl rfl rfl fun a hk => ?_
    show wpList _ _ _ [] _ _
    refine wpList_nil ?_
    refine hK41 _ _ ?_
    rcases cond_some H with ⟨c42, H⟩ | ⟨c42, H⟩
    ·have hk := hk.lit 14 c42 rfl
     refine cnd_true hk rfl rfl ?_
     refine wp_skip ?_
     refine hK40 _ _ ?_
     apply wp_seq_k; intro K43 hK43
     refine wp_block ?_
     refine wp_region_tree (.q 0 (.q 1 (.q 2 (.q 3 (.q 4 (.q 5 (.q 6 (.q 7 (.q 8 (.q 9 (.q 12 (.alt 10 (.alt 11 (.alt 13 (.last 14) .stop) .stop) .stop)))))))))))) mo (by kernel_rfl) (hs.pick [(1, 1), (2, 2)] rfl) fun _ => ?_
     have hs := hs.drew
     refine tqst (aggI .u64 u23) hk rfl rfl rfl rfl (fun w hs => slna (k := 1) hs rfl o25 lh26 rfl hk rfl rfl rfl ag99 sz99 fun a hk => qe hk) fun a hk => ?_
     refine tqst (.string x1) hk rfl rfl rfl rfl (fun w hs => sm _ rfl hk rfl rfl rfl fun a hk => qe hk) fun a hk => ?_
     refine tqst (.int .i64 u27) hk rfl rfl rfl rfl (fun w hs => sm _ rfl hk rfl rfl rfl fun a hk => qe hk) fun a hk => ?_
     refine tqst (.int .i64 u27) hk rfl rfl rfl rfl (fun w hs => sm _ rfl hk rfl rfl rfl fun a hk => qe hk) fun a hk => ?_
     refine tqst (.int .i64 (w64 (u27 + 16))) hk rfl rfl rfl rfl (fun w hs => sv (.int .i64 (w64 (u27 + 16))) hk rfl rfl rfl fun a hk => qe hk) fun a hk => ?_
     refine tqst (.string x1) hk rfl rfl rfl rfl (fun w hs => sm _ rfl hk rfl rfl rfl fun a hk => qe hk) fun a hk => ?_
     refine tqst (.int .i64 (x1.size : Int)) hk rfl rfl rfl rfl (fun w hs => sles rfl hk rfl rfl rfl un9 fun a hk => qe hk) fun a hk => ?_
     refine tqst (.int .i64 (if (x1.size : Int) < (w64 (u27 + 16)) then (x1.size : Int) else (w64 (u27 + 16)))) hk rfl rfl rfl rfl (fun w hs => smn rfl hk rfl rfl rfl rfl fun a hk => qe hk) fun a hk => ?_
     rcases ite_some H with ⟨c45, H⟩ | ⟨_, H⟩
     rotate_left
     ·cases H
     refine tqst (.string (x1.extract u27.toNat (if (x1.size : Int) < (w64 (u27 + 16)) then (x1.size : Int) else (w64 (u27 + 16))).toNat)) hk rfl rfl rfl rfl (fun w hs => ssl_lh rfl hk rfl rfl rfl rfl rfl un9 c45.1 c45.2.1 c45.2.2 fun a hk => qe hk) fun a hk => ?_
     rcases ite_some H with ⟨c46, H⟩ | ⟨_, H⟩
     rotate_left
     ·cases H
     refine tqst (.string ((x1.extract u27.toNat (if (x1.size : Int) < (w64 (u27 + 16)) then (x1.size : Int) else (w64 (u27 + 16))).toNat) ++ (⟨#[1]⟩ : ByteArray))) hk rfl rfl rfl rfl (fun w hs => ssa rfl hk rfl rfl rfl rfl c46 fun a hk => qe hk) fun a hk => ?_
     refine tqst (aggI .u64 y10) hk rfl rfl rfl rfl (fun w hs => slna (k := 2) hs rfl o18 lh12 rfl hk rfl rfl rfl ag99 sz99 fun a hk => qe hk) fun a hk => ?_
     refine tsst hk rfl rfl (fun K_r44_10 hK_r44_10 w hF => ?_) wt_stop
     have hs := hs.f hF
     obtain ⟨y47, h48, H⟩ := bind_some H
     refine sc rfl en97 hk rfl rfl rfl (impl_limbsOf_t _ ((x1.extract u27.toNat (if (x1.size : Int) < (w64 (u27 + 16)) then (x1.size : Int) else (w64 (u27 + 16))).toNat) ++ (⟨#[1]⟩ : ByteArray)) _ h48) ?_
     rintro _ w ⟨rfl, lh49, hG⟩ a hk
     have hs := hs.call0 hG
     refine se (hs.pick [(1, 1), (2, 2)] rfl) hk (hK_r44_10 _ _ ?_)
     refine tsst hk rfl rfl (fun K_r44_11 hK_r44_11 w hF => ?_) wt_stop
     have hs := hs.f hF
     obtain ⟨y50, h51, H⟩ := bind_some H
     refine sc rfl en98 hk rfl rfl rfl (impl_limbs_plus_t _ u23 lh26 y47 lh49 _ h51) ?_
     rintro _ w ⟨rfl, lh52, hG⟩ a hk
     have hs := hs.call0 hG
     refine se (hs.pick [(1, 1), (2, 2)] rfl) hk (hK_r44_11 _ _ ?_)
     refine tsst hk rfl rfl (fun K_r44_13 hK_r44_13 w hF => ?_) wt_stop
     have hs := hs.f hF
     obtain ⟨y53, h54, H⟩ := bind_some H
     refine sc rfl en99 hk rfl rfl rfl (impl_limbs_times_t _ y50 lh52 y10 lh12 _ h54) ?_
     rintro _ w ⟨rfl, lh55, hG⟩ a hk
     have hs := hs.call0 hG
     refine se (hs.pick [(1, 1), (2, 2)] rfl) hk (hK_r44_13 _ _ ?_)
     refine tlst hk rfl rfl fun K_r44_14 hK_r44_14 w hF => ?_
     have hs := hs.f hF
     refine sswa 1 y53 hs rfl o25 lh26 lh55 rfl rfl hk rfl rfl rfl rfl sz99 fun k56 w a hk o57 hs => ?_
     refine se trivial hk (hK_r44_14 _ _ fun w hF => ?_)
     have hs := hs.f hF
     refine hK43 _ _ ?_
     apply wp_region_lit
     refine sm _ rfl hk rfl rfl rfl fun a hk => ?_
     refine sv (.int .i64 (w64 (u27 + 16))) hk rfl rfl rfl fun a hk => ?_
     refine sa _ rfl hk rfl rfl rfl fun a hk => ?_
     show wpList _ _ _ [] _ _
     refine wpList_nil ?_
     obtain rfl := Option.some.inj H
     obtain ⟨m58, hmm58, h39⟩ := h39
     show ∃ n', n' < _ ∧ I36 n' _ _
     refine ⟨m58, hmm58, ?_⟩
     rw [hI36]
     exact ⟨y53, (w64 (u27 + 16)), _, h39, (hk.c 0 rfl (hk.c 1 rfl (hk.c 5 rfl (hk.c 6 rfl (hk.c 7 rfl hk.k))))), (hs.pick [(1, 1), (2, 2)] rfl), o57, lh55⟩
    ·have hk := hk.lit 14 c42 rfl
     refine cnd_false hk rfl rfl ?_
     refine wp_exit ?_
     obtain rfl := Option.some.inj H
     show R35 _ _
     rw [hR35]
     exact ⟨u23, _, h39.symm, (hk.c 0 rfl (hk.c 5 rfl hk.k)), (hs.pick [(1, 1)] rfl), o25, lh26⟩
  ·intro a w hR0
   rw [hR35] at hR0
   obtain ⟨u28, k29, rfl, hk, hs, o30, lh31⟩ := hR0
   have H := HL34
   try dsimp only at H
   refine hK19 _ _ ?_
   apply wp_seq_k; intro K59 hK59
   refine wp_region_tree (.q 0 (.q 2 (.q 3 (.alt 1 (.alt 4 (.last 5) .stop) .stop)))) mo (by kernel_rfl) (hs.pick [(1, 1)] rfl) fun _ => ?_
   have hs := hs.drew
   refine tqst (aggI .u64 u28) hk rfl rfl rfl rfl (fun w hs => slna (k := 1) hs rfl o30 lh31 rfl hk rfl rfl rfl ag99 sz99 fun a hk => qe hk) fun a hk => ?_
   refine tqst (.string x0) hk rfl rfl rfl rfl (fun w hs => sm _ rfl hk rfl rfl rfl fun a hk => qe hk) fun a hk => ?_
   rcases ite_some H with ⟨c61, H⟩ | ⟨_, H⟩
   rotate_left
   ·cases H
   refine tqst (.string (x0.extract (16 : Int).toNat x0.size)) hk rfl rfl rfl rfl (fun w hs => ssl_l rfl hk rfl rfl rfl rfl un9 c61.1 c61.2 fun a hk => qe hk) fun a hk => ?_
   refine tsst hk rfl rfl (fun K_r60_1 hK_r60_1 w hF => ?_) wt_stop
   have hs := hs.f hF
   obtain ⟨y62, h63, H⟩ := bind_some H
   refine sc rfl en100 hk rfl rfl rfl (impl_limbs_reduced_t _ u28 lh31 _ h63) ?_
   rintro _ w ⟨rfl, lh64, hG⟩ a hk
   have hs := hs.call0 hG
   refine se (hs.pick [(1, 1)] rfl) hk (hK_r60_1 _ _ ?_)
   refine tsst hk rfl rfl (fun K_r60_4 hK_r60_4 w hF => ?_) wt_stop
   have hs := hs.f hF
   obtain ⟨y65, h66, H⟩ := bind_some H
   refine sc rfl en101 hk rfl rfl rfl (impl_limbs_bytes_t _ y62 lh64 (x0.extract (16 : Int).toNat x0.size) _ h66) ?_
   rintro _ w ⟨rfl, hG⟩ a hk
   have hs := hs.call0 hG
   refine se (hs.pick [(1, 1)] rfl) hk (hK_r60_4 _ _ ?_)
   refine tlst hk rfl rfl fun K_r60_5 hK_r60_5 w hF => ?_
   have hs := hs.f hF
   refine sa _ rfl hk rfl rfl rfl fun a hk => ?_
   refine se trivial hk (hK_r60_5 _ _ fun w hF => ?_)
   have hs := hs.f hF
   refine hK59 _ _ ?_
   refine wp_ret ?_
   obtain rfl := Option.some.inj H
   exact fin hk _ [(.string y65)] rfl ⟨rfl, trivial⟩ ⟨rfl, (hs.pick [] rfl).dnil⟩

def repeat_ren : Go.Shelf.Ren := ⟨fun | 105 => 94 | 212 => 125 | 99 => 126 | 165 => 127 | 166 => 106 | 170 => 128 | 169 => 107 | 263 => 142 | 264 => 143 | 206 => 144 | 240 => 131 | 241 => 145 | 276 => 146 | 277 => 147 | n => n, fun | 9 => 9 | 3 => 3 | 4 => 4 | 20 => 20 | 0 => 0 | 46 => 96 | 109 => 126 | 5 => 5 | 72 => 109 | 76 => 112 | 51 => 67 | 146 => 138 | 53 => 97 | 148 => 140 | 70 => 107 | 37 => 22 | 75 => 111 | 127 => 130 | 164 => 142 | 80 => 55 | n => n, fun | n => n⟩
theorem repeat_lays : Go.Proofs.Lays.n105 Try.prog repeat_ren := {
  mixed := by kernel_rfl
  f99 := Try.func126.trans (congrArg some (by kernel_rfl))
  f105 := Try.func94.trans (congrArg some (by kernel_rfl))
  f165 := Try.func127.trans (congrArg some (by kernel_rfl))
  f166 := Try.func106.trans (congrArg some (by kernel_rfl))
  f169 := Try.func107.trans (congrArg some (by kernel_rfl))
  f170 := Try.func128.trans (congrArg some (by kernel_rfl))
  f206 := Try.func144.trans (congrArg some (by kernel_rfl))
  f212 := Try.func125.trans (congrArg some (by kernel_rfl))
  f240 := Try.func131.trans (congrArg some (by kernel_rfl))
  f241 := Try.func145.trans (congrArg some (by kernel_rfl))
  f263 := Try.func142.trans (congrArg some (by kernel_rfl))
  f264 := Try.func143.trans (congrArg some (by kernel_rfl))
  f276 := Try.func146.trans (congrArg some (by kernel_rfl))
  f277 := Try.func147.trans (congrArg some (by kernel_rfl))
  t0 := Try.underlying0
  a0 := Try.isAgg0
  z0 := Try.sizeOf0
  v0 := Try.zeroValue0
  t3 := Try.underlying3
  a3 := Try.isAgg3
  z3 := Try.sizeOf3
  v3 := Try.zeroValue3
  t4 := Try.underlying4
  a4 := Try.isAgg4
  z4 := Try.sizeOf4
  v4 := Try.zeroValue4
  t5 := Try.underlying5
  a5 := Try.isAgg5
  z5 := Try.sizeOf5
  v5 := Try.zeroValue5
  t9 := Try.underlying9
  a9 := Try.isAgg9
  z9 := Try.sizeOf9
  v9 := Try.zeroValue9
  t20 := Try.underlying20
  a20 := Try.isAgg20
  z20 := Try.sizeOf20
  v20 := Try.zeroValue20
  t37 := Try.underlying22
  a37 := Try.isAgg22
  z37 := Try.sizeOf22
  v37 := Try.zeroValue22
  t46 := Try.underlying96
  a46 := Try.isAgg96
  z46 := Try.sizeOf96
  v46 := Try.zeroValue96
  t51 := Try.underlying67
  a51 := Try.isAgg67
  z51 := Try.sizeOf67
  v51 := Try.zeroValue67
  t53 := Try.underlying97
  a53 := Try.isAgg97
  z53 := Try.sizeOf97
  v53 := Try.zeroValue97
  t70 := Try.underlying107
  a70 := Try.isAgg107
  z70 := Try.sizeOf107
  v70 := Try.zeroValue107
  t72 := Try.underlying109
  a72 := Try.isAgg109
  z72 := Try.sizeOf109
  v72 := Try.zeroValue109
  t75 := Try.underlying111
  a75 := Try.isAgg111
  z75 := Try.sizeOf111
  v75 := Try.zeroValue111
  t76 := Try.underlying112
  a76 := Try.isAgg112
  z76 := Try.sizeOf112
  v76 := Try.zeroValue112
  t109 := Try.underlying126
  a109 := Try.isAgg126
  z109 := Try.sizeOf126
  v109 := Try.zeroValue126
  t127 := Try.underlying130
  a127 := Try.isAgg130
  z127 := Try.sizeOf130
  v127 := Try.zeroValue130
  t146 := Try.underlying138
  a146 := Try.isAgg138
  z146 := Try.sizeOf138
  v146 := Try.zeroValue138
  t148 := Try.underlying140
  a148 := Try.isAgg140
  z148 := Try.sizeOf140
  v148 := Try.zeroValue140
  t164 := Try.underlying142
  a164 := Try.isAgg142
  z164 := Try.sizeOf142
  v164 := Try.zeroValue142 }
theorem repeat_extra : Builder.Extra Try.prog repeat_ren := {
  sizeBuilder := by kernel_rfl
  liesBuilder := by kernel_rfl
  t5 := Try.underlying5
  a5 := Try.isAgg5
  z5 := Try.sizeOf5
  v5 := Try.zeroValue5
  infoByte := by kernel_rfl
  cellsByte := by kernel_rfl
  sizeByte := by kernel_rfl
  neB5 := by decide }
noncomputable def strings_Repeat.f (x0 : ByteArray) (x1 : Int) : Option ByteArray := if 0 ≤ x1 ∧ x1 ≤ 9223372036854775807 ∧ x0.size * x1.toNat ≤ 140737488355328 then some (⟨(Lib.repeatL x0.data.toList x1.toNat).toArray⟩) else none
theorem strings_Repeat_t (w0 : World) (x0 : ByteArray) (x1 : Int) (r : ByteArray) (H : strings_Repeat.f x0 x1 = some r) :
    Calls Try.prog 94 #[.string x0, .int .i64 x1] w0 (Ret (fun v w => v = .string r ∧ Sat [] w0 w [] [])) := by
  unfold strings_Repeat.f at H
  rcases ite_some H with ⟨⟨h1, h2, h3⟩, H⟩ | ⟨_, H⟩
  rotate_left
  · cases H
  obtain rfl := Option.some.inj H
  obtain ⟨c, rfl⟩ := Int.eq_ofNat_of_zero_le h1
  rw [Int.toNat_natCast] at h3
  refine (Any.strings_Repeat repeat_lays repeat_extra x0 c w0 (by omega) h3).mono ?_
  rintro e w' ⟨rfl, hB⟩
  exact ⟨_, rfl, rfl, Sat.ofBelow hB⟩

noncomputable def impl_padded.f (x0 : ByteArray) : Option (ByteArray) :=
  ((strings_Repeat.f (⟨#[0]⟩ : ByteArray) (Int.tmod (w64 (16 - (Int.tmod (x0.size : Int) 16))) 16)).bind fun y3 => (if x0.size + y3.size ≤ 1152921504606846976 then (some (x0 ++ y3)) else none))
set_option maxRecDepth 100000 in
set_option maxHeartbeats 0 in
theorem impl_padded_t (w0 : World) (x0 : ByteArray) (r : ByteArray) (H : impl_padded.f x0 = some r) :
    Calls Try.prog 114 #[.string x0] w0 (Ret (fun v w => v = .string r ∧ Sat [] w0 w [] [])) := by
  have hs : Sat [] w0 w0 [] [] := Sat.init w0 [] [] (by simp) (by simp) List.nodup_nil (by simp [blks])
  unfold impl_padded.f at H
  refine enter Try.func114 rfl Try.ntmps114 rfl fun a hk => ?_
  apply wp_seq_k; intro K1 hK1
  apply wp_region_lit
  refine sa _ rfl hk rfl rfl rfl fun a hk => ?_
  show wpList _ _ _ [] _ _
  refine wpList_nil ?_
  refine hK1 _ _ ?_
  apply wp_seq_k; intro K2 hK2
  apply wp_region_lit
  refine sm _ rfl hk rfl rfl rfl fun a hk => ?_
  refine sm _ rfl hk rfl rfl rfl fun a hk => ?_
  refine sles rfl hk rfl rfl rfl un9 fun a hk => ?_
  refine sv (.int .i64 (Int.tmod (x0.size : Int) 16)) hk rfl rfl rfl fun a hk => ?_
  refine sv (.int .i64 (w64 (16 - (Int.tmod (x0.size : Int) 16)))) hk rfl rfl rfl fun a hk => ?_
  refine sv (.int .i64 (Int.tmod (w64 (16 - (Int.tmod (x0.size : Int) 16))) 16)) hk rfl rfl rfl fun a hk => ?_
  obtain ⟨y3, h4, H⟩ := bind_some H
  refine sc rfl en94 hk rfl rfl rfl (strings_Repeat_t _ (⟨#[0]⟩ : ByteArray) (Int.tmod (w64 (16 - (Int.tmod (x0.size : Int) 16))) 16) _ h4) ?_
  rintro _ w ⟨rfl, hG⟩ a hk
  have hs := hs.call0 hG
  rcases ite_some H with ⟨c5, H⟩ | ⟨_, H⟩
  rotate_left
  ·cases H
  refine ssa rfl hk rfl rfl rfl rfl c5 fun a hk => ?_
  refine sa _ rfl hk rfl rfl rfl fun a hk => ?_
  show wpList _ _ _ [] _ _
  refine wpList_nil ?_
  refine hK2 _ _ ?_
  refine wp_ret ?_
  obtain rfl := Option.some.inj H
  exact fin hk _ [(.string (x0 ++ y3))] rfl ⟨rfl, trivial⟩ ⟨rfl, (hs.pick [] rfl).dnil⟩

noncomputable def impl_boxTag.f (x0 : ByteArray) (x1 : ByteArray) (x2 : ByteArray) (x3 : ByteArray) : Option (ByteArray) :=
  ((impl_stream.f x0 x1 0).bind fun y4 => (if 0 ≤ (32 : Int) ∧ (32 : Int) ≤ (y4.size : Int) then ((impl_padded.f x2).bind fun y7 => ((impl_padded.f x3).bind fun y9 => (if y7.size + y9.size ≤ 1152921504606846976 then ((impl_little.f (x2.size : Int) 8).bind fun y12 => (if (y7 ++ y9).size + y12.size ≤ 1152921504606846976 then ((impl_little.f (x3.size : Int) 8).bind fun y15 => (if ((y7 ++ y9) ++ y12).size + y15.size ≤ 1152921504606846976 then ((impl_tag.f (y4.extract 0 (32 : Int).toNat) (((y7 ++ y9) ++ y12) ++ y15)).bind fun y18 => (some y18)) else none)) else none)) else none))) else none))
set_option maxRecDepth 100000 in
set_option maxHeartbeats 0 in
theorem impl_boxTag_t (w0 : World) (x0 : ByteArray) (x1 : ByteArray) (x2 : ByteArray) (x3 : ByteArray) (r : ByteArray) (H : impl_boxTag.f x0 x1 x2 x3 = some r) :
    Calls Try.prog 74 #[.string x0, .string x1, .string x2, .string x3] w0 (Ret (fun v w => v = .string r ∧ Sat [] w0 w [] [])) := by
  have hs : Sat [] w0 w0 [] [] := Sat.init w0 [] [] (by simp) (by simp) List.nodup_nil (by simp [blks])
  unfold impl_boxTag.f at H
  refine enter Try.func74 rfl Try.ntmps74 rfl fun a hk => ?_
  apply wp_seq_k; intro K1 hK1
  apply wp_region_lit
  refine sa _ rfl hk rfl rfl rfl fun a hk => ?_
  show wpList _ _ _ [] _ _
  refine wpList_nil ?_
  refine hK1 _ _ ?_
  apply wp_seq_k; intro K2 hK2
  refine wp_region_tree (.q 0 (.q 1 (.q 2 (.q 3 (.q 4 (.q 5 (.q 6 (.q 7 (.q 8 (.q 9 (.q 10 (.q 11 (.q 12 (.alt 13 (.alt 14 (.alt 15 (.alt 16 (.alt 17 (.last 18) .stop) .stop) .stop) .stop) .stop)))))))))))))) mo (by kernel_rfl) (hs.pick [] rfl) fun _ => ?_
  have hs := hs.drew
  refine tqst (.string x0) hk rfl rfl rfl rfl (fun w hs => sm _ rfl hk rfl rfl rfl fun a hk => qe hk) fun a hk => ?_
  refine tqst (.string x1) hk rfl rfl rfl rfl (fun w hs => sm _ rfl hk rfl rfl rfl fun a hk => qe hk) fun a hk => ?_
  obtain ⟨y4, h5, H⟩ := bind_some H
  refine tqst (.string y4) hk rfl rfl rfl rfl (fun w hs => sc rfl en64 hk rfl rfl rfl (impl_stream_t _ x0 x1 0 _ h5) fun _ w hR a hk => qc hR hk) fun a hk => ?_
  rcases ite_some H with ⟨c6, H⟩ | ⟨_, H⟩
  rotate_left
  ·cases H
  refine tqst (.string (y4.extract 0 (32 : Int).toNat)) hk rfl rfl rfl rfl (fun w hs => ssl_h rfl hk rfl rfl rfl rfl un9 c6.1 c6.2 fun a hk => qe hk) fun a hk => ?_
  refine tqst (.string x2) hk rfl rfl rfl rfl (fun w hs => sm _ rfl hk rfl rfl rfl fun a hk => qe hk) fun a hk => ?_
  obtain ⟨y7, h8, H⟩ := bind_some H
  refine tqst (.string y7) hk rfl rfl rfl rfl (fun w hs => sc rfl en114 hk rfl rfl rfl (impl_padded_t _ x2 _ h8) fun _ w hR a hk => qc hR hk) fun a hk => ?_
  refine tqst (.string x3) hk rfl rfl rfl rfl (fun w hs => sm _ rfl hk rfl rfl rfl fun a hk => qe hk) fun a hk => ?_
  obtain ⟨y9, h10, H⟩ := bind_some H
  refine tqst (.string y9) hk rfl rfl rfl rfl (fun w hs => sc rfl en114 hk rfl rfl rfl (impl_padded_t _ x3 _ h10) fun _ w hR a hk => qc hR hk) fun a hk => ?_
  rcases ite_some H with ⟨c11, H⟩ | ⟨_, H⟩
  rotate_left
  ·cases H
  refine tqst (.string (y7 ++ y9)) hk rfl rfl rfl rfl (fun w hs => ssa rfl hk rfl rfl rfl rfl c11 fun a hk => qe hk) fun a hk => ?_
  refine tqst (.string x2) hk rfl rfl rfl rfl (fun w hs => sm _ rfl hk rfl rfl rfl fun a hk => qe hk) fun a hk => ?_
  refine tqst (.int .i64 (x2.size : Int)) hk rfl rfl rfl rfl (fun w hs => sles rfl hk rfl rfl rfl un9 fun a hk => qe hk) fun a hk => ?_
  obtain ⟨y12, h13, H⟩ := bind_some H
  refine tqst (.string y12) hk rfl rfl rfl rfl (fun w hs => sc rfl en109 hk rfl rfl rfl (impl_little_t _ (x2.size : Int) 8 _ h13) fun _ w hR a hk => qc hR hk) fun a hk => ?_
  rcases ite_some H with ⟨c14, H⟩ | ⟨_, H⟩
  rotate_left
  ·cases H
  refine tqst (.string ((y7 ++ y9) ++ y12)) hk rfl rfl rfl rfl (fun w hs => ssa rfl hk rfl rfl rfl rfl c14 fun a hk => qe hk) fun a hk => ?_
  refine tsst hk rfl rfl (fun K_r3_13 hK_r3_13 w hF => ?_) wt_stop
  have hs := hs.f hF
  refine sm _ rfl hk rfl rfl rfl fun a hk => ?_
  refine se (hs.pick [] rfl) hk (hK_r3_13 _ _ ?_)
  refine tsst hk rfl rfl (fun K_r3_14 hK_r3_14 w hF => ?_) wt_stop
  have hs := hs.f hF
  refine sles rfl hk rfl rfl rfl un9 fun a hk => ?_
  refine se (hs.pick [] rfl) hk (hK_r3_14 _ _ ?_)
  refine tsst hk rfl rfl (fun K_r3_15 hK_r3_15 w hF => ?_) wt_stop
  have hs := hs.f hF
  obtain ⟨y15, h16, H⟩ := bind_some H
  refine sc rfl en109 hk rfl rfl rfl (impl_little_t _ (x3.size : Int) 8 _ h16) ?_
  rintro _ w ⟨rfl, hG⟩ a hk
  have hs := hs.call0 hG
  refine se (hs.pick [] rfl) hk (hK_r3_15 _ _ ?_)
  refine tsst hk rfl rfl (fun K_r3_16 hK_r3_16 w hF => ?_) wt_stop
  have hs := hs.f hF
  rcases ite_some H with ⟨c17, H⟩ | ⟨_, H⟩
  rotate_left
  ·cases H
  refine ssa rfl hk rfl rfl rfl rfl c17 fun a hk => ?_
  refine se (hs.pick [] rfl) hk (hK_r3_16 _ _ ?_)
  refine tsst hk rfl rfl (fun K_r3_17 hK_r3_17 w hF => ?_) wt_stop
  have hs := hs.f hF
  obtain ⟨y18, h19, H⟩ := bind_some H
  refine sc rfl en54 hk rfl rfl rfl (impl_tag_t _ (y4.extract 0 (32 : Int).toNat) (((y7 ++ y9) ++ y12) ++ y15) _ h19) ?_
  rintro _ w ⟨rfl, hG⟩ a hk
  have hs := hs.call0 hG
  refine se (hs.pick [] rfl) hk (hK_r3_17 _ _ ?_)
  refine tlst hk rfl rfl fun K_r3_18 hK_r3_18 w hF => ?_
  have hs := hs.f hF
  refine sa _ rfl hk rfl rfl rfl fun a hk => ?_
  refine se trivial hk (hK_r3_18 _ _ fun w hF => ?_)
  have hs := hs.f hF
  refine hK2 _ _ ?_
  refine wp_ret ?_
  obtain rfl := Option.some.inj H
  exact fin hk _ [(.string y18)] rfl ⟨rfl, trivial⟩ ⟨rfl, (hs.pick [] rfl).dnil⟩

noncomputable def impl_seal.f (x0 : ByteArray) (x1 : ByteArray) (x2 : ByteArray) (x3 : ByteArray) : Option (ByteArray) :=
  ((impl_chaXor.f x0 x1 1 x3).bind fun y3 => ((impl_boxTag.f x0 x1 x2 y3).bind fun y6 => (if y3.size + y6.size ≤ 1152921504606846976 then (some (y3 ++ y6)) else none)))
set_option maxRecDepth 100000 in
set_option maxHeartbeats 0 in
theorem impl_seal_t (w0 : World) (x0 : ByteArray) (x1 : ByteArray) (x2 : ByteArray) (x3 : ByteArray) (r : ByteArray) (H : impl_seal.f x0 x1 x2 x3 = some r) :
    Calls Try.prog 70 #[.string x0, .string x1, .string x2, .string x3] w0 (Ret (fun v w => v = .string r ∧ Sat [] w0 w [] [])) := by
  have hs : Sat [] w0 w0 [] [] := Sat.init w0 [] [] (by simp) (by simp) List.nodup_nil (by simp [blks])
  unfold impl_seal.f at H
  refine enter Try.func70 rfl Try.ntmps70 rfl fun a hk => ?_
  apply wp_seq_k; intro K1 hK1
  apply wp_region_lit
  refine sa _ rfl hk rfl rfl rfl fun a hk => ?_
  show wpList _ _ _ [] _ _
  refine wpList_nil ?_
  refine hK1 _ _ ?_
  apply wp_seq_k; intro K2 hK2
  apply wp_region_lit
  refine sm _ rfl hk rfl rfl rfl fun a hk => ?_
  refine sm _ rfl hk rfl rfl rfl fun a hk => ?_
  refine sm _ rfl hk rfl rfl rfl fun a hk => ?_
  obtain ⟨y3, h4, H⟩ := bind_some H
  refine sc rfl en61 hk rfl rfl rfl (impl_chaXor_t _ x0 x1 1 x3 _ h4) ?_
  rintro _ w ⟨rfl, hG⟩ a hk
  have hs := hs.call0 hG
  refine sa _ rfl hk rfl rfl rfl fun a hk => ?_
  show wpList _ _ _ [] _ _
  refine wpList_nil ?_
  refine hK2 _ _ ?_
  apply wp_seq_k; intro K5 hK5
  apply wp_region_lit
  refine sm _ rfl hk rfl rfl rfl fun a hk => ?_
  refine sm _ rfl hk rfl rfl rfl fun a hk => ?_
  refine sm _ rfl hk rfl rfl rfl fun a hk => ?_
  refine sm _ rfl hk rfl rfl rfl fun a hk => ?_
  refine sm _ rfl hk rfl rfl rfl fun a hk => ?_
  obtain ⟨y6, h7, H⟩ := bind_some H
  refine sc rfl en74 hk rfl rfl rfl (impl_boxTag_t _ x0 x1 x2 y3 _ h7) ?_
  rintro _ w ⟨rfl, hG⟩ a hk
  have hs := hs.call0 hG
  rcases ite_some H with ⟨c8, H⟩ | ⟨_, H⟩
  rotate_left
  ·cases H
  refine ssa rfl hk rfl rfl rfl rfl c8 fun a hk => ?_
  refine sa _ rfl hk rfl rfl rfl fun a hk => ?_
  show wpList _ _ _ [] _ _
  refine wpList_nil ?_
  refine hK5 _ _ ?_
  refine wp_ret ?_
  obtain rfl := Option.some.inj H
  exact fin hk _ [(.string (y3 ++ y6))] rfl ⟨rfl, trivial⟩ ⟨rfl, (hs.pick [] rfl).dnil⟩

noncomputable def impl_nonceOf.f (x0 : Int) (x1 : Int) (x2 : Int) : Option (ByteArray) :=
  ((impl_little.f x0 1).bind fun y3 => ((impl_little.f x1 2).bind fun y5 => (if y3.size + y5.size ≤ 1152921504606846976 then ((impl_little.f 0 1).bind fun y8 => (if (y3 ++ y5).size + y8.size ≤ 1152921504606846976 then ((impl_little.f x2 8).bind fun y11 => (if ((y3 ++ y5) ++ y8).size + y11.size ≤ 1152921504606846976 then (some (((y3 ++ y5) ++ y8) ++ y11)) else none)) else none)) else none)))
set_option maxRecDepth 100000 in
set_option maxHeartbeats 0 in
theorem impl_nonceOf_t (w0 : World) (x0 : Int) (x1 : Int) (x2 : Int) (r : ByteArray) (H : impl_nonceOf.f x0 x1 x2 = some r) :
    Calls Try.prog 82 #[.int .i64 x0, .int .i64 x1, .int .i64 x2] w0 (Ret (fun v w => v = .string r ∧ Sat [] w0 w [] [])) := by
  have hs : Sat [] w0 w0 [] [] := Sat.init w0 [] [] (by simp) (by simp) List.nodup_nil (by simp [blks])
  unfold impl_nonceOf.f at H
  refine enter Try.func82 rfl Try.ntmps82 rfl fun a hk => ?_
  apply wp_seq_k; intro K1 hK1
  apply wp_region_lit
  refine sa _ rfl hk rfl rfl rfl fun a hk => ?_
  show wpList _ _ _ [] _ _
  refine wpList_nil ?_
  refine hK1 _ _ ?_
  apply wp_seq_k; intro K2 hK2
  apply wp_region_lit
  refine sm _ rfl hk rfl rfl rfl fun a hk => ?_
  obtain ⟨y3, h4, H⟩ := bind_some H
  refine sc rfl en109 hk rfl rfl rfl (impl_little_t _ x0 1 _ h4) ?_
  rintro _ w ⟨rfl, hG⟩ a hk
  have hs := hs.call0 hG
  refine sm _ rfl hk rfl rfl rfl fun a hk => ?_
  obtain ⟨y5, h6, H⟩ := bind_some H
  refine sc rfl en109 hk rfl rfl rfl (impl_little_t _ x1 2 _ h6) ?_
  rintro _ w ⟨rfl, hG⟩ a hk
  have hs := hs.call0 hG
  rcases ite_some H with ⟨c7, H⟩ | ⟨_, H⟩
  rotate_left
  ·cases H
  refine ssa rfl hk rfl rfl rfl rfl c7 fun a hk => ?_
  obtain ⟨y8, h9, H⟩ := bind_some H
  refine sc rfl en109 hk rfl rfl rfl (impl_little_t _ 0 1 _ h9) ?_
  rintro _ w ⟨rfl, hG⟩ a hk
  have hs := hs.call0 hG
  rcases ite_some H with ⟨c10, H⟩ | ⟨_, H⟩
  rotate_left
  ·cases H
  refine ssa rfl hk rfl rfl rfl rfl c10 fun a hk => ?_
  refine sm _ rfl hk rfl rfl rfl fun a hk => ?_
  obtain ⟨y11, h12, H⟩ := bind_some H
  refine sc rfl en109 hk rfl rfl rfl (impl_little_t _ x2 8 _ h12) ?_
  rintro _ w ⟨rfl, hG⟩ a hk
  have hs := hs.call0 hG
  rcases ite_some H with ⟨c13, H⟩ | ⟨_, H⟩
  rotate_left
  ·cases H
  refine ssa rfl hk rfl rfl rfl rfl c13 fun a hk => ?_
  refine sa _ rfl hk rfl rfl rfl fun a hk => ?_
  show wpList _ _ _ [] _ _
  refine wpList_nil ?_
  refine hK2 _ _ ?_
  refine wp_ret ?_
  obtain rfl := Option.some.inj H
  exact fin hk _ [(.string (((y3 ++ y5) ++ y8) ++ y11))] rfl ⟨rfl, trivial⟩ ⟨rfl, (hs.pick [] rfl).dnil⟩

noncomputable def impl_sealed.f (x0 : ByteArray) (x1 : Int) (x2 : Int) (x3 : Int) (x4 : ByteArray) : Option (ByteArray) :=
  ((impl_nonceOf.f x1 x2 x3).bind fun y3 => ((impl_seal.f x0 y3 (⟨#[98, 108, 111, 99, 107]⟩ : ByteArray) x4).bind fun y5 => (some y5)))
set_option maxRecDepth 100000 in
set_option maxHeartbeats 0 in
theorem impl_sealed_t (w0 : World) (x0 : ByteArray) (x1 : Int) (x2 : Int) (x3 : Int) (x4 : ByteArray) (r : ByteArray) (H : impl_sealed.f x0 x1 x2 x3 x4 = some r) :
    Calls Try.prog 77 #[.string x0, .int .i64 x1, .int .i64 x2, .int .i64 x3, .string x4] w0 (Ret (fun v w => v = .string r ∧ Sat [] w0 w [] [])) := by
  have hs : Sat [] w0 w0 [] [] := Sat.init w0 [] [] (by simp) (by simp) List.nodup_nil (by simp [blks])
  unfold impl_sealed.f at H
  refine enter Try.func77 rfl Try.ntmps77 rfl fun a hk => ?_
  apply wp_seq_k; intro K1 hK1
  apply wp_region_lit
  refine sa _ rfl hk rfl rfl rfl fun a hk => ?_
  show wpList _ _ _ [] _ _
  refine wpList_nil ?_
  refine hK1 _ _ ?_
  apply wp_seq_k; intro K2 hK2
  apply wp_region_lit
  refine sm _ rfl hk rfl rfl rfl fun a hk => ?_
  refine sm _ rfl hk rfl rfl rfl fun a hk => ?_
  refine sm _ rfl hk rfl rfl rfl fun a hk => ?_
  refine sm _ rfl hk rfl rfl rfl fun a hk => ?_
  obtain ⟨y3, h4, H⟩ := bind_some H
  refine sc rfl en82 hk rfl rfl rfl (impl_nonceOf_t _ x1 x2 x3 _ h4) ?_
  rintro _ w ⟨rfl, hG⟩ a hk
  have hs := hs.call0 hG
  refine sm _ rfl hk rfl rfl rfl fun a hk => ?_
  obtain ⟨y5, h6, H⟩ := bind_some H
  refine sc rfl en70 hk rfl rfl rfl (impl_seal_t _ x0 y3 (⟨#[98, 108, 111, 99, 107]⟩ : ByteArray) x4 _ h6) ?_
  rintro _ w ⟨rfl, hG⟩ a hk
  have hs := hs.call0 hG
  refine sa _ rfl hk rfl rfl rfl fun a hk => ?_
  show wpList _ _ _ [] _ _
  refine wpList_nil ?_
  refine hK2 _ _ ?_
  refine wp_ret ?_
  obtain rfl := Option.some.inj H
  exact fin hk _ [(.string y5)] rfl ⟨rfl, trivial⟩ ⟨rfl, (hs.pick [] rfl).dnil⟩

noncomputable def impl_SealAt.f (x0 : ByteArray) (x1 : Int) (x2 : Int) (x3 : Int) (x4 : ByteArray) : Option (ByteArray × Int) :=
  ((impl_blockCode.f x0 x1 x2 x3 x4).bind fun y4 => (bif (y4 != 0) then (some ((⟨#[]⟩ : ByteArray), y4)) else ((impl_sealed.f x0 x1 x2 x3 x4).bind fun y10 => (some (y10, 0)))))
set_option maxRecDepth 100000 in
set_option maxHeartbeats 0 in
theorem impl_SealAt_t (w0 : World) (x0 : ByteArray) (x1 : Int) (x2 : Int) (x3 : Int) (x4 : ByteArray) (r : ByteArray × Int) (H : impl_SealAt.f x0 x1 x2 x3 x4 = some r) :
    Calls Try.prog 35 #[.string x0, .int .i64 x1, .int .i64 x2, .int .i64 x3, .string x4] w0 (Ret (fun v w => v = .tuple #[.string r.1, .int .i64 r.2] ∧ Sat [] w0 w [] [])) := by
  have hs : Sat [] w0 w0 [] [] := Sat.init w0 [] [] (by simp) (by simp) List.nodup_nil (by simp [blks])
  unfold impl_SealAt.f at H
  refine enter Try.func35 rfl Try.ntmps35 rfl fun a hk => ?_
  apply wp_seq_k; intro K1 hK1
  apply wp_region_lit
  refine sa _ rfl hk rfl rfl rfl fun a hk => ?_
  refine sa _ rfl hk rfl rfl rfl fun a hk => ?_
  show wpList _ _ _ [] _ _
  refine wpList_nil ?_
  refine hK1 _ _ ?_
  apply wp_seq_k; intro K2 hK2
  apply wp_seq_k; intro K3 hK3
  apply wp_region_lit
  refine sm _ rfl hk rfl rfl rfl fun a hk => ?_
  refine sm _ rfl hk rfl rfl rfl fun a hk => ?_
  refine sm _ rfl hk rfl rfl rfl fun a hk => ?_
  refine sm _ rfl hk rfl rfl rfl fun a hk => ?_
  refine sm _ rfl hk rfl rfl rfl fun a hk => ?_
  obtain ⟨y4, h5, H⟩ := bind_some H
  refine sc rfl en76 hk rfl rfl rfl (impl_blockCode_t _ x0 x1 x2 x3 x4 _ h5) ?_
  rintro _ w ⟨rfl, hG⟩ a hk
  have hs := hs.call0 hG
  refine sa _ rfl hk rfl rfl rfl fun a hk => ?_
  show wpList _ _ _ [] _ _
  refine wpList_nil ?_
  refine hK3 _ _ ?_
  apply wp_seq_k; intro K6 hK6
  apply wp_region_lit
  refine sm _ rfl hk rfl rfl rfl fun a hk => ?_
  refine sv (.bool (y4 != 0)) hk rfl rfl rfl fun a hk => ?_
  show wpList _ _ _ [] _ _
  refine wpList_nil ?_
  refine hK6 _ _ ?_
  rcases cond_some H with ⟨c7, H⟩ | ⟨c7, H⟩
  ·have hk := hk.lit 20 c7 rfl
   refine cnd_true hk rfl rfl ?_
   apply wp_seq_k; intro K8 hK8
   apply wp_region_lit
   refine sm _ rfl hk rfl rfl rfl fun a hk => ?_
   refine sa _ rfl hk rfl rfl rfl fun a hk => ?_
   refine sa _ rfl hk rfl rfl rfl fun a hk => ?_
   show wpList _ _ _ [] _ _
   refine wpList_nil ?_
   refine hK8 _ _ ?_
   have hs := hs.pick [] rfl
   refine wp_ret ?_
   obtain rfl := Option.some.inj H
   exact fin hk _ [(.string (⟨#[]⟩ : ByteArray)), (.int .i64 y4)] rfl ⟨rfl, ⟨rfl, trivial⟩⟩ ⟨rfl, (hs.pick [] rfl).dnil⟩
  ·have hk := hk.lit 20 c7 rfl
   refine cnd_false hk rfl rfl ?_
   refine wp_skip ?_
   refine hK2 _ _ ?_
   have hs := hs.pick [] rfl
   apply wp_seq_k; intro K9 hK9
   apply wp_region_lit
   refine sm _ rfl hk rfl rfl rfl fun a hk => ?_
   refine sm _ rfl hk rfl rfl rfl fun a hk => ?_
   refine sm _ rfl hk rfl rfl rfl fun a hk => ?_
   refine sm _ rfl hk rfl rfl rfl fun a hk => ?_
   refine sm _ rfl hk rfl rfl rfl fun a hk => ?_
   obtain ⟨y10, h11, H⟩ := bind_some H
   refine sc rfl en77 hk rfl rfl rfl (impl_sealed_t _ x0 x1 x2 x3 x4 _ h11) ?_
   rintro _ w ⟨rfl, hG⟩ a hk
   have hs := hs.call0 hG
   refine sa _ rfl hk rfl rfl rfl fun a hk => ?_
   refine sa _ rfl hk rfl rfl rfl fun a hk => ?_
   show wpList _ _ _ [] _ _
   refine wpList_nil ?_
   refine hK9 _ _ ?_
   refine wp_ret ?_
   obtain rfl := Option.some.inj H
   exact fin hk _ [(.string y10), (.int .i64 0)] rfl ⟨rfl, ⟨rfl, trivial⟩⟩ ⟨rfl, (hs.pick [] rfl).dnil⟩

noncomputable def spec_l01In.f (x0 : Int) (x1 : Int) (x2 : Int) : Option (Bool) :=
  (((bif (decide (x1 ≤ x0)) then (some (decide (x0 ≤ x2))) else (some false)) : Option (Bool)).bind fun u4 => (some u4))
set_option maxRecDepth 100000 in
set_option maxHeartbeats 0 in
theorem spec_l01In_t (w0 : World) (x0 : Int) (x1 : Int) (x2 : Int) (r : Bool) (H : spec_l01In.f x0 x1 x2 = some r) :
    Calls Try.prog 67 #[.int .i64 x0, .int .i64 x1, .int .i64 x2] w0 (Ret (fun v w => v = .bool r ∧ Sat [] w0 w [] [])) := by
  have hs : Sat [] w0 w0 [] [] := Sat.init w0 [] [] (by simp) (by simp) List.nodup_nil (by simp [blks])
  unfold spec_l01In.f at H
  refine enter Try.func67 rfl Try.ntmps67 rfl fun a hk => ?_
  apply wp_seq_k; intro K1 hK1
  apply wp_region_lit
  refine sa _ rfl hk rfl rfl rfl fun a hk => ?_
  show wpList _ _ _ [] _ _
  refine wpList_nil ?_
  refine hK1 _ _ ?_
  apply wp_seq_k; intro K2 hK2
  obtain ⟨o5, h6, HL7⟩ := bind_some H
  clear H
  obtain ⟨R8, hR8⟩ : ∃ R : Act → World → Prop, R = fun a w => ∃ (u4 : Bool), u4 = o5 ∧ Kn [(6, (.bool u4))] 15 a ∧ Sat [] w0 w [] [] := ⟨_, rfl⟩
  refine wp_cutq R8 ?_ ?_
  ·have H := h6
   apply wp_region_lit
   refine sm _ rfl hk rfl rfl rfl fun a hk => ?_
   refine sm _ rfl hk rfl rfl rfl fun a hk => ?_
   refine sv (.bool (decide (x1 ≤ x0))) hk rfl rfl rfl fun a hk => ?_
   refine sm _ rfl hk rfl rfl rfl fun a hk => ?_
   rcases cond_some H with ⟨c9, H⟩ | ⟨c9, H⟩
   ·have hk := hk.lit 10 c9 rfl
    refine sm _ rfl hk rfl rfl rfl fun a hk => ?_
    refine sm _ rfl hk rfl rfl rfl fun a hk => ?_
    refine sv (.bool (decide (x0 ≤ x2))) hk rfl rfl rfl fun a hk => ?_
    refine sv (.bool (decide (x0 ≤ x2))) hk rfl rfl rfl fun a hk => ?_
    refine sa _ rfl hk rfl rfl rfl fun a hk => ?_
    show wpList _ _ _ [] _ _
    refine wpList_nil ?_
    obtain rfl := Option.some.inj H
    show R8 _ _
    rw [hR8]
    exact ⟨(decide (x0 ≤ x2)), rfl, (hk.c 6 rfl hk.k), (hs.pick [] rfl)⟩
   ·have hk := hk.lit 10 c9 rfl
    refine sk hk rfl rfl rfl fun a hk => ?_
    refine sk hk rfl rfl rfl fun a hk => ?_
    refine sk hk rfl rfl rfl fun a hk => ?_
    refine sv (.bool false) hk rfl rfl rfl fun a hk => ?_
    refine sa _ rfl hk rfl rfl rfl fun a hk => ?_
    show wpList _ _ _ [] _ _
    refine wpList_nil ?_
    obtain rfl := Option.some.inj H
    show R8 _ _
    rw [hR8]
    exact ⟨false, rfl, (hk.c 6 rfl hk.k), (hs.pick [] rfl)⟩
  ·intro a w hR0
   rw [hR8] at hR0
   obtain ⟨u4, rfl, hk, hs⟩ := hR0
   have H := HL7
   try dsimp only at H
   refine hK2 _ _ ?_
   refine wp_ret ?_
   obtain rfl := Option.some.inj H
   exact fin hk _ [(.bool u4)] rfl ⟨rfl, trivial⟩ ⟨rfl, (hs.pick [] rfl).dnil⟩

noncomputable def spec_l05In.f (x0 : Int) : Option (Bool) :=
  ((spec_l01In.f x0 0 39).bind fun y3 => (some y3))
set_option maxRecDepth 100000 in
set_option maxHeartbeats 0 in
theorem spec_l05In_t (w0 : World) (x0 : Int) (r : Bool) (H : spec_l05In.f x0 = some r) :
    Calls Try.prog 137 #[.int .i64 x0] w0 (Ret (fun v w => v = .bool r ∧ Sat [] w0 w [] [])) := by
  have hs : Sat [] w0 w0 [] [] := Sat.init w0 [] [] (by simp) (by simp) List.nodup_nil (by simp [blks])
  unfold spec_l05In.f at H
  refine enter Try.func137 rfl Try.ntmps137 rfl fun a hk => ?_
  apply wp_seq_k; intro K1 hK1
  apply wp_region_lit
  refine sa _ rfl hk rfl rfl rfl fun a hk => ?_
  show wpList _ _ _ [] _ _
  refine wpList_nil ?_
  refine hK1 _ _ ?_
  apply wp_seq_k; intro K2 hK2
  apply wp_region_lit
  refine sm _ rfl hk rfl rfl rfl fun a hk => ?_
  obtain ⟨y3, h4, H⟩ := bind_some H
  refine sc rfl en67 hk rfl rfl rfl (spec_l01In_t _ x0 0 39 _ h4) ?_
  rintro _ w ⟨rfl, hG⟩ a hk
  have hs := hs.call0 hG
  refine sa _ rfl hk rfl rfl rfl fun a hk => ?_
  show wpList _ _ _ [] _ _
  refine wpList_nil ?_
  refine hK2 _ _ ?_
  refine wp_ret ?_
  obtain rfl := Option.some.inj H
  exact fin hk _ [(.bool y3)] rfl ⟨rfl, trivial⟩ ⟨rfl, (hs.pick [] rfl).dnil⟩

noncomputable def spec_l06In.f (x0 : Int) (x1 : Int) (x2 : Int) : Option (Bool) :=
  ((((spec_l01In.f x0 1 3).bind fun y9 => (bif y9 then ((spec_l05In.f x1).bind fun y12 => (bif y12 then ((spec_l01In.f x2 0 1099511627776).bind fun y15 => (some y15)) else (some false))) else (some false))) : Option (Bool)).bind fun u4 => (some u4))
set_option maxRecDepth 100000 in
set_option maxHeartbeats 0 in
theorem spec_l06In_t (w0 : World) (x0 : Int) (x1 : Int) (x2 : Int) (r : Bool) (H : spec_l06In.f x0 x1 x2 = some r) :
    Calls Try.prog 116 #[.int .i64 x0, .int .i64 x1, .int .i64 x2] w0 (Ret (fun v w => v = .bool r ∧ Sat [] w0 w [] [])) := by
  have hs : Sat [] w0 w0 [] [] := Sat.init w0 [] [] (by simp) (by simp) List.nodup_nil (by simp [blks])
  unfold spec_l06In.f at H
  refine enter Try.func116 rfl Try.ntmps116 rfl fun a hk => ?_
  apply wp_seq_k; intro K1 hK1
  apply wp_region_lit
  refine sa _ rfl hk rfl rfl rfl fun a hk => ?_
  show wpList _ _ _ [] _ _
  refine wpList_nil ?_
  refine hK1 _ _ ?_
  apply wp_seq_k; intro K2 hK2
  obtain ⟨o5, h6, HL7⟩ := bind_some H
  clear H
  obtain ⟨R8, hR8⟩ : ∃ R : Act → World → Prop, R = fun a w => ∃ (u4 : Bool), u4 = o5 ∧ Kn [(6, (.bool u4))] 17 a ∧ Sat [] w0 w [] [] := ⟨_, rfl⟩
  refine wp_cutq R8 ?_ ?_
  ·have H := h6
   apply wp_region_lit
   refine sm _ rfl hk rfl rfl rfl fun a hk => ?_
   obtain ⟨y9, h10, H⟩ := bind_some H
   refine sc rfl en67 hk rfl rfl rfl (spec_l01In_t _ x0 1 3 _ h10) ?_
   rintro _ w ⟨rfl, hG⟩ a hk
   have hs := hs.call0 hG
   refine sm _ rfl hk rfl rfl rfl fun a hk => ?_
   rcases cond_some H with ⟨c11, H⟩ | ⟨c11, H⟩
   ·have hk := hk.lit 9 c11 rfl
    refine sm _ rfl hk rfl rfl rfl fun a hk => ?_
    obtain ⟨y12, h13, H⟩ := bind_some H
    refine sc rfl en137 hk rfl rfl rfl (spec_l05In_t _ x1 _ h13) ?_
    rintro _ w ⟨rfl, hG⟩ a hk
    have hs := hs.call0 hG
    refine sv (.bool y12) hk rfl rfl rfl fun a hk => ?_
    refine sm _ rfl hk rfl rfl rfl fun a hk => ?_
    rcases cond_some H with ⟨c14, H⟩ | ⟨c14, H⟩
    ·have hk := hk.lit 13 c14 rfl
     refine sm _ rfl hk rfl rfl rfl fun a hk => ?_
     obtain ⟨y15, h16, H⟩ := bind_some H
     refine sc rfl en67 hk rfl rfl rfl (spec_l01In_t _ x2 0 1099511627776 _ h16) ?_
     rintro _ w ⟨rfl, hG⟩ a hk
     have hs := hs.call0 hG
     refine sv (.bool y15) hk rfl rfl rfl fun a hk => ?_
     refine sa _ rfl hk rfl rfl rfl fun a hk => ?_
     show wpList _ _ _ [] _ _
     refine wpList_nil ?_
     obtain rfl := Option.some.inj H
     show R8 _ _
     rw [hR8]
     exact ⟨y15, rfl, (hk.c 6 rfl hk.k), (hs.pick [] rfl)⟩
    ·have hk := hk.lit 13 c14 rfl
     refine sk hk rfl rfl rfl fun a hk => ?_
     refine sk hk rfl rfl rfl fun a hk => ?_
     refine sv (.bool false) hk rfl rfl rfl fun a hk => ?_
     refine sa _ rfl hk rfl rfl rfl fun a hk => ?_
     show wpList _ _ _ [] _ _
     refine wpList_nil ?_
     obtain rfl := Option.some.inj H
     show R8 _ _
     rw [hR8]
     exact ⟨false, rfl, (hk.c 6 rfl hk.k), (hs.pick [] rfl)⟩
   ·have hk := hk.lit 9 c11 rfl
    refine sk hk rfl rfl rfl fun a hk => ?_
    refine sk hk rfl rfl rfl fun a hk => ?_
    refine sv (.bool false) hk rfl rfl rfl fun a hk => ?_
    refine sm _ rfl hk rfl rfl rfl fun a hk => ?_
    refine sk hk rfl rfl rfl fun a hk => ?_
    refine sk hk rfl rfl rfl fun a hk => ?_
    refine sv (.bool false) hk rfl rfl rfl fun a hk => ?_
    refine sa _ rfl hk rfl rfl rfl fun a hk => ?_
    show wpList _ _ _ [] _ _
    refine wpList_nil ?_
    obtain rfl := Option.some.inj H
    show R8 _ _
    rw [hR8]
    exact ⟨false, rfl, (hk.c 6 rfl hk.k), (hs.pick [] rfl)⟩
  ·intro a w hR0
   rw [hR8] at hR0
   obtain ⟨u4, rfl, hk, hs⟩ := hR0
   have H := HL7
   try dsimp only at H
   refine hK2 _ _ ?_
   refine wp_ret ?_
   obtain rfl := Option.some.inj H
   exact fin hk _ [(.bool u4)] rfl ⟨rfl, trivial⟩ ⟨rfl, (hs.pick [] rfl).dnil⟩

noncomputable def spec_l06Ask.f (x0 : ByteArray) (x1 : Int) (x2 : Int) (x3 : Int) (x4 : ByteArray) : Option (Int) :=
  (((bif (decide ((x0.size : Int) > 65536)) then (some true) else (some (decide ((x4.size : Int) > 65536)))) : Option (Bool)).bind fun u5 => (bif u5 then (some 2) else (bif ((x0.size : Int) != 32) then (some 8) else ((spec_l06In.f x1 x2 x3).bind fun y17 => (bif (!y17) then (some 4) else (some 0))))))
set_option maxRecDepth 100000 in
set_option maxHeartbeats 0 in
theorem spec_l06Ask_t (w0 : World) (x0 : ByteArray) (x1 : Int) (x2 : Int) (x3 : Int) (x4 : ByteArray) (r : Int) (H : spec_l06Ask.f x0 x1 x2 x3 x4 = some r) :
    Calls Try.prog 78 #[.string x0, .int .i64 x1, .int .i64 x2, .int .i64 x3, .string x4] w0 (Ret (fun v w => v = .int .i64 r ∧ Sat [] w0 w [] [])) := by
  have hs : Sat [] w0 w0 [] [] := Sat.init w0 [] [] (by simp) (by simp) List.nodup_nil (by simp [blks])
  unfold spec_l06Ask.f at H
  refine enter Try.func78 rfl Try.ntmps78 rfl fun a hk => ?_
  apply wp_seq_k; intro K1 hK1
  apply wp_region_lit
  refine sa _ rfl hk rfl rfl rfl fun a hk => ?_
  show wpList _ _ _ [] _ _
  refine wpList_nil ?_
  refine hK1 _ _ ?_
  apply wp_seq_k; intro K2 hK2
  refine wp_block ?_
  apply wp_seq_k; intro K3 hK3
  obtain ⟨o6, h7, HL8⟩ := bind_some H
  clear H
  obtain ⟨R9, hR9⟩ : ∃ R : Act → World → Prop, R = fun a w => ∃ (u5 : Bool), u5 = o6 ∧ Kn [(0, (.string x0)), (1, (.int .i64 x1)), (2, (.int .i64 x2)), (3, (.int .i64 x3)), (11, (.bool u5))] 30 a ∧ Sat [] w0 w [] [] := ⟨_, rfl⟩
  refine wp_cutq R9 ?_ ?_
  ·have H := h7
   apply wp_region_lit
   refine sm _ rfl hk rfl rfl rfl fun a hk => ?_
   refine sles rfl hk rfl rfl rfl un9 fun a hk => ?_
   refine sv (.bool (decide ((x0.size : Int) > 65536))) hk rfl rfl rfl fun a hk => ?_
   refine sm _ rfl hk rfl rfl rfl fun a hk => ?_
   rcases cond_some H with ⟨c10, H⟩ | ⟨c10, H⟩
   ·have hk := hk.lit 15 c10 rfl
    refine sk hk rfl rfl rfl fun a hk => ?_
    refine sk hk rfl rfl rfl fun a hk => ?_
    refine sk hk rfl rfl rfl fun a hk => ?_
    refine sv (.bool true) hk rfl rfl rfl fun a hk => ?_
    refine sa _ rfl hk rfl rfl rfl fun a hk => ?_
    show wpList _ _ _ [] _ _
    refine wpList_nil ?_
    obtain rfl := Option.some.inj H
    show R9 _ _
    rw [hR9]
    exact ⟨true, rfl, (hk.c 0 rfl (hk.c 1 rfl (hk.c 2 rfl (hk.c 3 rfl (hk.c 11 rfl hk.k))))), (hs.pick [] rfl)⟩
   ·have hk := hk.lit 15 c10 rfl
    refine sm _ rfl hk rfl rfl rfl fun a hk => ?_
    refine sles rfl hk rfl rfl rfl un9 fun a hk => ?_
    refine sv (.bool (decide ((x4.size : Int) > 65536))) hk rfl rfl rfl fun a hk => ?_
    refine sv (.bool (decide ((x4.size : Int) > 65536))) hk rfl rfl rfl fun a hk => ?_
    refine sa _ rfl hk rfl rfl rfl fun a hk => ?_
    show wpList _ _ _ [] _ _
    refine wpList_nil ?_
    obtain rfl := Option.some.inj H
    show R9 _ _
    rw [hR9]
    exact ⟨(decide ((x4.size : Int) > 65536)), rfl, (hk.c 0 rfl (hk.c 1 rfl (hk.c 2 rfl (hk.c 3 rfl (hk.c 11 rfl hk.k))))), (hs.pick [] rfl)⟩
  ·intro a w hR0
   rw [hR9] at hR0
   obtain ⟨u5, rfl, hk, hs⟩ := hR0
   have H := HL8
   try dsimp only at H
   refine hK3 _ _ ?_
   rcases cond_some H with ⟨c11, H⟩ | ⟨c11, H⟩
   ·have hk := hk.lit 11 c11 rfl
    refine cnd_true hk rfl rfl ?_
    apply wp_seq_k; intro K12 hK12
    apply wp_region_lit
    refine sa _ rfl hk rfl rfl rfl fun a hk => ?_
    show wpList _ _ _ [] _ _
    refine wpList_nil ?_
    refine hK12 _ _ ?_
    refine wp_ret ?_
    obtain rfl := Option.some.inj H
    exact fin hk _ [(.int .i64 2)] rfl ⟨rfl, trivial⟩ ⟨rfl, (hs.pick [] rfl).dnil⟩
   ·have hk := hk.lit 11 c11 rfl
    refine cnd_false hk rfl rfl ?_
    apply wp_seq_k; intro K13 hK13
    apply wp_region_lit
    refine sm _ rfl hk rfl rfl rfl fun a hk => ?_
    refine sles rfl hk rfl rfl rfl un9 fun a hk => ?_
    refine sv (.bool ((x0.size : Int) != 32)) hk rfl rfl rfl fun a hk => ?_
    refine sa _ rfl hk rfl rfl rfl fun a hk => ?_
    show wpList _ _ _ [] _ _
    refine wpList_nil ?_
    refine hK13 _ _ ?_
    rcases cond_some H with ⟨c14, H⟩ | ⟨c14, H⟩
    ·have hk := hk.lit 20 c14 rfl
     refine cnd_true hk rfl rfl ?_
     apply wp_seq_k; intro K15 hK15
     apply wp_region_lit
     refine sa _ rfl hk rfl rfl rfl fun a hk => ?_
     show wpList _ _ _ [] _ _
     refine wpList_nil ?_
     refine hK15 _ _ ?_
     have hs := hs.pick [] rfl
     refine wp_ret ?_
     obtain rfl := Option.some.inj H
     exact fin hk _ [(.int .i64 8)] rfl ⟨rfl, trivial⟩ ⟨rfl, (hs.pick [] rfl).dnil⟩
    ·have hk := hk.lit 20 c14 rfl
     refine cnd_false hk rfl rfl ?_
     apply wp_seq_k; intro K16 hK16
     apply wp_region_lit
     refine sm _ rfl hk rfl rfl rfl fun a hk => ?_
     refine sm _ rfl hk rfl rfl rfl fun a hk => ?_
     refine sm _ rfl hk rfl rfl rfl fun a hk => ?_
     obtain ⟨y17, h18, H⟩ := bind_some H
     refine sc rfl en116 hk rfl rfl rfl (spec_l06In_t _ x1 x2 x3 _ h18) ?_
     rintro _ w ⟨rfl, hG⟩ a hk
     have hs := hs.call0 hG
     refine sv (.bool (!y17)) hk rfl rfl rfl fun a hk => ?_
     refine sa _ rfl hk rfl rfl rfl fun a hk => ?_
     show wpList _ _ _ [] _ _
     refine wpList_nil ?_
     refine hK16 _ _ ?_
     have hs := hs.pick [] rfl
     rcases cond_some H with ⟨c19, H⟩ | ⟨c19, H⟩
     ·have hk := hk.lit 24 c19 rfl
      refine cnd_true hk rfl rfl ?_
      apply wp_seq_k; intro K20 hK20
      apply wp_region_lit
      refine sa _ rfl hk rfl rfl rfl fun a hk => ?_
      show wpList _ _ _ [] _ _
      refine wpList_nil ?_
      refine hK20 _ _ ?_
      refine wp_ret ?_
      obtain rfl := Option.some.inj H
      exact fin hk _ [(.int .i64 4)] rfl ⟨rfl, trivial⟩ ⟨rfl, (hs.pick [] rfl).dnil⟩
     ·have hk := hk.lit 24 c19 rfl
      refine cnd_false hk rfl rfl ?_
      refine wp_skip ?_
      refine hK2 _ _ ?_
      apply wp_seq_k; intro K21 hK21
      apply wp_region_lit
      refine sa _ rfl hk rfl rfl rfl fun a hk => ?_
      show wpList _ _ _ [] _ _
      refine wpList_nil ?_
      refine hK21 _ _ ?_
      refine wp_ret ?_
      obtain rfl := Option.some.inj H
      exact fin hk _ [(.int .i64 0)] rfl ⟨rfl, trivial⟩ ⟨rfl, (hs.pick [] rfl).dnil⟩

noncomputable def spec_l02Word.f (x0 : ByteArray) (x1 : Int) : Option (Int) :=
  (if 0 ≤ x1 ∧ x1 < (x0.size : Int) then (if 0 ≤ (w64 (x1 + 1)) ∧ (w64 (x1 + 1)) < (x0.size : Int) then (if 0 ≤ (w64 (x1 + 2)) ∧ (w64 (x1 + 2)) < (x0.size : Int) then (if 0 ≤ (w64 (x1 + 3)) ∧ (w64 (x1 + 3)) < (x0.size : Int) then (some (IntKind.wrap .i64 ((BitVec.ofInt 64 (IntKind.wrap .i64 ((BitVec.ofInt 64 (IntKind.wrap .i64 ((BitVec.ofInt 64 (IntKind.wrap .i64 (byteAt x0 x1)) ||| BitVec.ofInt 64 (IntKind.wrap .i64 ((IntKind.wrap .i64 (byteAt x0 (w64 (x1 + 1)))) * 2 ^ 8))).toNat : Int)) ||| BitVec.ofInt 64 (IntKind.wrap .i64 ((IntKind.wrap .i64 (byteAt x0 (w64 (x1 + 2)))) * 2 ^ 16))).toNat : Int)) ||| BitVec.ofInt 64 (IntKind.wrap .i64 ((IntKind.wrap .i64 (byteAt x0 (w64 (x1 + 3)))) * 2 ^ 24))).toNat : Int))) else none) else none) else none) else none)
set_option maxRecDepth 100000 in
set_option maxHeartbeats 0 in
theorem spec_l02Word_t (w0 : World) (x0 : ByteArray) (x1 : Int) (r : Int) (H : spec_l02Word.f x0 x1 = some r) :
    Calls Try.prog 132 #[.string x0, .int .i64 x1] w0 (Ret (fun v w => v = .int .i64 r ∧ Sat [] w0 w [] [])) := by
  have hs : Sat [] w0 w0 [] [] := Sat.init w0 [] [] (by simp) (by simp) List.nodup_nil (by simp [blks])
  unfold spec_l02Word.f at H
  refine enter Try.func132 rfl Try.ntmps132 rfl fun a hk => ?_
  apply wp_seq_k; intro K1 hK1
  apply wp_region_lit
  refine sa _ rfl hk rfl rfl rfl fun a hk => ?_
  show wpList _ _ _ [] _ _
  refine wpList_nil ?_
  refine hK1 _ _ ?_
  apply wp_seq_k; intro K2 hK2
  refine wp_region_tree (.q 0 (.q 1 (.q 2 (.q 3 (.q 4 (.q 5 (.q 6 (.q 7 (.q 8 (.q 9 (.q 10 (.q 11 (.q 12 (.q 13 (.q 14 (.q 15 (.q 16 (.q 17 (.q 18 (.alt 19 (.alt 20 (.alt 21 (.alt 22 (.alt 23 (.alt 24 (.last 25) .stop) .stop) .stop) .stop) .stop) .stop)))))))))))))))))))) mo (by kernel_rfl) (hs.pick [] rfl) fun _ => ?_
  have hs := hs.drew
  refine tqst (.string x0) hk rfl rfl rfl rfl (fun w hs => sm _ rfl hk rfl rfl rfl fun a hk => qe hk) fun a hk => ?_
  refine tqst (.int .i64 x1) hk rfl rfl rfl rfl (fun w hs => sm _ rfl hk rfl rfl rfl fun a hk => qe hk) fun a hk => ?_
  rcases ite_some H with ⟨c4, H⟩ | ⟨_, H⟩
  rotate_left
  ·cases H
  refine tqst (.int .u8 (byteAt x0 x1)) hk rfl rfl rfl rfl (fun w hs => six rfl hk rfl rfl rfl rfl un9 c4.1 c4.2 fun a hk => qe hk) fun a hk => ?_
  refine tqst (.int .i64 (IntKind.wrap .i64 (byteAt x0 x1))) hk rfl rfl rfl rfl (fun w hs => scn rfl hk rfl rfl rfl un3 un5 fun a hk => qe hk) fun a hk => ?_
  refine tqst (.string x0) hk rfl rfl rfl rfl (fun w hs => sm _ rfl hk rfl rfl rfl fun a hk => qe hk) fun a hk => ?_
  refine tqst (.int .i64 x1) hk rfl rfl rfl rfl (fun w hs => sm _ rfl hk rfl rfl rfl fun a hk => qe hk) fun a hk => ?_
  refine tqst (.int .i64 (w64 (x1 + 1))) hk rfl rfl rfl rfl (fun w hs => sv (.int .i64 (w64 (x1 + 1))) hk rfl rfl rfl fun a hk => qe hk) fun a hk => ?_
  rcases ite_some H with ⟨c5, H⟩ | ⟨_, H⟩
  rotate_left
  ·cases H
  refine tqst (.int .u8 (byteAt x0 (w64 (x1 + 1)))) hk rfl rfl rfl rfl (fun w hs => six rfl hk rfl rfl rfl rfl un9 c5.1 c5.2 fun a hk => qe hk) fun a hk => ?_
  refine tqst (.int .i64 (IntKind.wrap .i64 (byteAt x0 (w64 (x1 + 1))))) hk rfl rfl rfl rfl (fun w hs => scn rfl hk rfl rfl rfl un3 un5 fun a hk => qe hk) fun a hk => ?_
  refine tqst (.int .i64 (IntKind.wrap .i64 ((IntKind.wrap .i64 (byteAt x0 (w64 (x1 + 1)))) * 2 ^ 8))) hk rfl rfl rfl rfl (fun w hs => sv (.int .i64 (IntKind.wrap .i64 ((IntKind.wrap .i64 (byteAt x0 (w64 (x1 + 1)))) * 2 ^ 8))) hk rfl rfl rfl fun a hk => qe hk) fun a hk => ?_
  refine tqst (.int .i64 (IntKind.wrap .i64 ((BitVec.ofInt 64 (IntKind.wrap .i64 (byteAt x0 x1)) ||| BitVec.ofInt 64 (IntKind.wrap .i64 ((IntKind.wrap .i64 (byteAt x0 (w64 (x1 + 1)))) * 2 ^ 8))).toNat : Int))) hk rfl rfl rfl rfl (fun w hs => sv (.int .i64 (IntKind.wrap .i64 ((BitVec.ofInt 64 (IntKind.wrap .i64 (byteAt x0 x1)) ||| BitVec.ofInt 64 (IntKind.wrap .i64 ((IntKind.wrap .i64 (byteAt x0 (w64 (x1 + 1)))) * 2 ^ 8))).toNat : Int))) hk rfl rfl rfl fun a hk => qe hk) fun a hk => ?_
  refine tqst (.string x0) hk rfl rfl rfl rfl (fun w hs => sm _ rfl hk rfl rfl rfl fun a hk => qe hk) fun a hk => ?_
  refine tqst (.int .i64 x1) hk rfl rfl rfl rfl (fun w hs => sm _ rfl hk rfl rfl rfl fun a hk => qe hk) fun a hk => ?_
  refine tqst (.int .i64 (w64 (x1 + 2))) hk rfl rfl rfl rfl (fun w hs => sv (.int .i64 (w64 (x1 + 2))) hk rfl rfl rfl fun a hk => qe hk) fun a hk => ?_
  rcases ite_some H with ⟨c6, H⟩ | ⟨_, H⟩
  rotate_left
  ·cases H
  refine tqst (.int .u8 (byteAt x0 (w64 (x1 + 2)))) hk rfl rfl rfl rfl (fun w hs => six rfl hk rfl rfl rfl rfl un9 c6.1 c6.2 fun a hk => qe hk) fun a hk => ?_
  refine tqst (.int .i64 (IntKind.wrap .i64 (byteAt x0 (w64 (x1 + 2))))) hk rfl rfl rfl rfl (fun w hs => scn rfl hk rfl rfl rfl un3 un5 fun a hk => qe hk) fun a hk => ?_
  refine tqst (.int .i64 (IntKind.wrap .i64 ((IntKind.wrap .i64 (byteAt x0 (w64 (x1 + 2)))) * 2 ^ 16))) hk rfl rfl rfl rfl (fun w hs => sv (.int .i64 (IntKind.wrap .i64 ((IntKind.wrap .i64 (byteAt x0 (w64 (x1 + 2)))) * 2 ^ 16))) hk rfl rfl rfl fun a hk => qe hk) fun a hk => ?_
  refine tqst (.int .i64 (IntKind.wrap .i64 ((BitVec.ofInt 64 (IntKind.wrap .i64 ((BitVec.ofInt 64 (IntKind.wrap .i64 (byteAt x0 x1)) ||| BitVec.ofInt 64 (IntKind.wrap .i64 ((IntKind.wrap .i64 (byteAt x0 (w64 (x1 + 1)))) * 2 ^ 8))).toNat : Int)) ||| BitVec.ofInt 64 (IntKind.wrap .i64 ((IntKind.wrap .i64 (byteAt x0 (w64 (x1 + 2)))) * 2 ^ 16))).toNat : Int))) hk rfl rfl rfl rfl (fun w hs => sv (.int .i64 (IntKind.wrap .i64 ((BitVec.ofInt 64 (IntKind.wrap .i64 ((BitVec.ofInt 64 (IntKind.wrap .i64 (byteAt x0 x1)) ||| BitVec.ofInt 64 (IntKind.wrap .i64 ((IntKind.wrap .i64 (byteAt x0 (w64 (x1 + 1)))) * 2 ^ 8))).toNat : Int)) ||| BitVec.ofInt 64 (IntKind.wrap .i64 ((IntKind.wrap .i64 (byteAt x0 (w64 (x1 + 2)))) * 2 ^ 16))).toNat : Int))) hk rfl rfl rfl fun a hk => qe hk) fun a hk => ?_
  refine tqst (.string x0) hk rfl rfl rfl rfl (fun w hs => sm _ rfl hk rfl rfl rfl fun a hk => qe hk) fun a hk => ?_
  refine tsst hk rfl rfl (fun K_r3_19 hK_r3_19 w hF => ?_) wt_stop
  have hs := hs.f hF
  refine sm _ rfl hk rfl rfl rfl fun a hk => ?_
  refine se (hs.pick [] rfl) hk (hK_r3_19 _ _ ?_)
  refine tsst hk rfl rfl (fun K_r3_20 hK_r3_20 w hF => ?_) wt_stop
  have hs := hs.f hF
  refine sv (.int .i64 (w64 (x1 + 3))) hk rfl rfl rfl fun a hk => ?_
  refine se (hs.pick [] rfl) hk (hK_r3_20 _ _ ?_)
  refine tsst hk rfl rfl (fun K_r3_21 hK_r3_21 w hF => ?_) wt_stop
  have hs := hs.f hF
  rcases ite_some H with ⟨c7, H⟩ | ⟨_, H⟩
  rotate_left
  ·cases H
  refine six rfl hk rfl rfl rfl rfl un9 c7.1 c7.2 fun a hk => ?_
  refine se (hs.pick [] rfl) hk (hK_r3_21 _ _ ?_)
  refine tsst hk rfl rfl (fun K_r3_22 hK_r3_22 w hF => ?_) wt_stop
  have hs := hs.f hF
  refine scn rfl hk rfl rfl rfl un3 un5 fun a hk => ?_
  refine se (hs.pick [] rfl) hk (hK_r3_22 _ _ ?_)
  refine tsst hk rfl rfl (fun K_r3_23 hK_r3_23 w hF => ?_) wt_stop
  have hs := hs.f hF
  refine sv (.int .i64 (IntKind.wrap .i64 ((IntKind.wrap .i64 (byteAt x0 (w64 (x1 + 3)))) * 2 ^ 24))) hk rfl rfl rfl fun a hk => ?_
  refine se (hs.pick [] rfl) hk (hK_r3_23 _ _ ?_)
  refine tsst hk rfl rfl (fun K_r3_24 hK_r3_24 w hF => ?_) wt_stop
  have hs := hs.f hF
  refine sv (.int .i64 (IntKind.wrap .i64 ((BitVec.ofInt 64 (IntKind.wrap .i64 ((BitVec.ofInt 64 (IntKind.wrap .i64 ((BitVec.ofInt 64 (IntKind.wrap .i64 (byteAt x0 x1)) ||| BitVec.ofInt 64 (IntKind.wrap .i64 ((IntKind.wrap .i64 (byteAt x0 (w64 (x1 + 1)))) * 2 ^ 8))).toNat : Int)) ||| BitVec.ofInt 64 (IntKind.wrap .i64 ((IntKind.wrap .i64 (byteAt x0 (w64 (x1 + 2)))) * 2 ^ 16))).toNat : Int)) ||| BitVec.ofInt 64 (IntKind.wrap .i64 ((IntKind.wrap .i64 (byteAt x0 (w64 (x1 + 3)))) * 2 ^ 24))).toNat : Int))) hk rfl rfl rfl fun a hk => ?_
  refine se (hs.pick [] rfl) hk (hK_r3_24 _ _ ?_)
  refine tlst hk rfl rfl fun K_r3_25 hK_r3_25 w hF => ?_
  have hs := hs.f hF
  refine sa _ rfl hk rfl rfl rfl fun a hk => ?_
  refine se trivial hk (hK_r3_25 _ _ fun w hF => ?_)
  have hs := hs.f hF
  refine hK2 _ _ ?_
  refine wp_ret ?_
  obtain rfl := Option.some.inj H
  exact fin hk _ [(.int .i64 (IntKind.wrap .i64 ((BitVec.ofInt 64 (IntKind.wrap .i64 ((BitVec.ofInt 64 (IntKind.wrap .i64 ((BitVec.ofInt 64 (IntKind.wrap .i64 (byteAt x0 x1)) ||| BitVec.ofInt 64 (IntKind.wrap .i64 ((IntKind.wrap .i64 (byteAt x0 (w64 (x1 + 1)))) * 2 ^ 8))).toNat : Int)) ||| BitVec.ofInt 64 (IntKind.wrap .i64 ((IntKind.wrap .i64 (byteAt x0 (w64 (x1 + 2)))) * 2 ^ 16))).toNat : Int)) ||| BitVec.ofInt 64 (IntKind.wrap .i64 ((IntKind.wrap .i64 (byteAt x0 (w64 (x1 + 3)))) * 2 ^ 24))).toNat : Int)))] rfl ⟨rfl, trivial⟩ ⟨rfl, (hs.pick [] rfl).dnil⟩

noncomputable def spec_l02Left.f (x0 : Int) (x1 : Int) : Option (Int) :=
  (if 0 ≤ x1 then (if 0 ≤ (w64 (32 - x1)) then (some (IntKind.wrap .i64 ((BitVec.ofInt 64 (IntKind.wrap .i64 ((BitVec.ofInt 64 (IntKind.wrap .i64 (x0 * 2 ^ min x1.toNat 64)) ||| BitVec.ofInt 64 (Int.fdiv x0 (2 ^ min (w64 (32 - x1)).toNat 64))).toNat : Int)) &&& BitVec.ofInt 64 4294967295).toNat : Int))) else none) else none)
set_option maxRecDepth 100000 in
set_option maxHeartbeats 0 in
theorem spec_l02Left_t (w0 : World) (x0 : Int) (x1 : Int) (r : Int) (H : spec_l02Left.f x0 x1 = some r) :
    Calls Try.prog 112 #[.int .i64 x0, .int .i64 x1] w0 (Ret (fun v w => v = .int .i64 r ∧ Sat [] w0 w [] [])) := by
  have hs : Sat [] w0 w0 [] [] := Sat.init w0 [] [] (by simp) (by simp) List.nodup_nil (by simp [blks])
  unfold spec_l02Left.f at H
  refine enter Try.func112 rfl Try.ntmps112 rfl fun a hk => ?_
  apply wp_seq_k; intro K1 hK1
  apply wp_region_lit
  refine sa _ rfl hk rfl rfl rfl fun a hk => ?_
  show wpList _ _ _ [] _ _
  refine wpList_nil ?_
  refine hK1 _ _ ?_
  apply wp_seq_k; intro K2 hK2
  refine wp_region_tree (.q 0 (.q 1 (.q 2 (.q 3 (.alt 4 (.alt 5 (.alt 6 (.alt 7 (.alt 8 (.last 9) .stop) .stop) .stop) .stop) .stop))))) mo (by kernel_rfl) (hs.pick [] rfl) fun _ => ?_
  have hs := hs.drew
  refine tqst (.int .i64 x0) hk rfl rfl rfl rfl (fun w hs => sm _ rfl hk rfl rfl rfl fun a hk => qe hk) fun a hk => ?_
  refine tqst (.int .i64 x1) hk rfl rfl rfl rfl (fun w hs => sm _ rfl hk rfl rfl rfl fun a hk => qe hk) fun a hk => ?_
  rcases ite_some H with ⟨c4, H⟩ | ⟨_, H⟩
  rotate_left
  ·cases H
  refine tqst (.int .i64 (IntKind.wrap .i64 (x0 * 2 ^ min x1.toNat 64))) hk rfl rfl rfl rfl (fun w hs => ssh rfl hk rfl rfl rfl rfl c4 fun a hk => qe hk) fun a hk => ?_
  refine tqst (.int .i64 x0) hk rfl rfl rfl rfl (fun w hs => sm _ rfl hk rfl rfl rfl fun a hk => qe hk) fun a hk => ?_
  refine tsst hk rfl rfl (fun K_r3_4 hK_r3_4 w hF => ?_) wt_stop
  have hs := hs.f hF
  refine sm _ rfl hk rfl rfl rfl fun a hk => ?_
  refine se (hs.pick [] rfl) hk (hK_r3_4 _ _ ?_)
  refine tsst hk rfl rfl (fun K_r3_5 hK_r3_5 w hF => ?_) wt_stop
  have hs := hs.f hF
  refine sv (.int .i64 (w64 (32 - x1))) hk rfl rfl rfl fun a hk => ?_
  refine se (hs.pick [] rfl) hk (hK_r3_5 _ _ ?_)
  refine tsst hk rfl rfl (fun K_r3_6 hK_r3_6 w hF => ?_) wt_stop
  have hs := hs.f hF
  rcases ite_some H with ⟨c5, H⟩ | ⟨_, H⟩
  rotate_left
  ·cases H
  refine ssr rfl hk rfl rfl rfl rfl c5 fun a hk => ?_
  refine se (hs.pick [] rfl) hk (hK_r3_6 _ _ ?_)
  refine tsst hk rfl rfl (fun K_r3_7 hK_r3_7 w hF => ?_) wt_stop
  have hs := hs.f hF
  refine sv (.int .i64 (IntKind.wrap .i64 ((BitVec.ofInt 64 (IntKind.wrap .i64 (x0 * 2 ^ min x1.toNat 64)) ||| BitVec.ofInt 64 (Int.fdiv x0 (2 ^ min (w64 (32 - x1)).toNat 64))).toNat : Int))) hk rfl rfl rfl fun a hk => ?_
  refine se (hs.pick [] rfl) hk (hK_r3_7 _ _ ?_)
  refine tsst hk rfl rfl (fun K_r3_8 hK_r3_8 w hF => ?_) wt_stop
  have hs := hs.f hF
  refine sv (.int .i64 (IntKind.wrap .i64 ((BitVec.ofInt 64 (IntKind.wrap .i64 ((BitVec.ofInt 64 (IntKind.wrap .i64 (x0 * 2 ^ min x1.toNat 64)) ||| BitVec.ofInt 64 (Int.fdiv x0 (2 ^ min (w64 (32 - x1)).toNat 64))).toNat : Int)) &&& BitVec.ofInt 64 4294967295).toNat : Int))) hk rfl rfl rfl fun a hk => ?_
  refine se (hs.pick [] rfl) hk (hK_r3_8 _ _ ?_)
  refine tlst hk rfl rfl fun K_r3_9 hK_r3_9 w hF => ?_
  have hs := hs.f hF
  refine sa _ rfl hk rfl rfl rfl fun a hk => ?_
  refine se trivial hk (hK_r3_9 _ _ fun w hF => ?_)
  have hs := hs.f hF
  refine hK2 _ _ ?_
  refine wp_ret ?_
  obtain rfl := Option.some.inj H
  exact fin hk _ [(.int .i64 (IntKind.wrap .i64 ((BitVec.ofInt 64 (IntKind.wrap .i64 ((BitVec.ofInt 64 (IntKind.wrap .i64 (x0 * 2 ^ min x1.toNat 64)) ||| BitVec.ofInt 64 (Int.fdiv x0 (2 ^ min (w64 (32 - x1)).toNat 64))).toNat : Int)) &&& BitVec.ofInt 64 4294967295).toNat : Int)))] rfl ⟨rfl, trivial⟩ ⟨rfl, (hs.pick [] rfl).dnil⟩

noncomputable def spec_l02Quarter.f (x0 : Int) (x1 : Int) (x2 : Int) (x3 : Int) : Option ((List Int)) :=
  ((spec_l02Left.f (IntKind.wrap .i64 ((BitVec.ofInt 64 x3 ^^^ BitVec.ofInt 64 (IntKind.wrap .i64 ((BitVec.ofInt 64 (w64 (x0 + x1)) &&& BitVec.ofInt 64 4294967295).toNat : Int))).toNat : Int)) 16).bind fun y8 => ((spec_l02Left.f (IntKind.wrap .i64 ((BitVec.ofInt 64 x1 ^^^ BitVec.ofInt 64 (IntKind.wrap .i64 ((BitVec.ofInt 64 (w64 (x2 + y8)) &&& BitVec.ofInt 64 4294967295).toNat : Int))).toNat : Int)) 12).bind fun y12 => ((spec_l02Left.f (IntKind.wrap .i64 ((BitVec.ofInt 64 y8 ^^^ BitVec.ofInt 64 (IntKind.wrap .i64 ((BitVec.ofInt 64 (w64 ((IntKind.wrap .i64 ((BitVec.ofInt 64 (w64 (x0 + x1)) &&& BitVec.ofInt 64 4294967295).toNat : Int)) + y12)) &&& BitVec.ofInt 64 4294967295).toNat : Int))).toNat : Int)) 8).bind fun y16 => ((spec_l02Left.f (IntKind.wrap .i64 ((BitVec.ofInt 64 y12 ^^^ BitVec.ofInt 64 (IntKind.wrap .i64 ((BitVec.ofInt 64 (w64 ((IntKind.wrap .i64 ((BitVec.ofInt 64 (w64 (x2 + y8)) &&& BitVec.ofInt 64 4294967295).toNat : Int)) + y16)) &&& BitVec.ofInt 64 4294967295).toNat : Int))).toNat : Int)) 7).bind fun y20 => (some ([(IntKind.wrap .i64 ((BitVec.ofInt 64 (w64 ((IntKind.wrap .i64 ((BitVec.ofInt 64 (w64 (x0 + x1)) &&& BitVec.ofInt 64 4294967295).toNat : Int)) + y12)) &&& BitVec.ofInt 64 4294967295).toNat : Int)), y20, (IntKind.wrap .i64 ((BitVec.ofInt 64 (w64 ((IntKind.wrap .i64 ((BitVec.ofInt 64 (w64 (x2 + y8)) &&& BitVec.ofInt 64 4294967295).toNat : Int)) + y16)) &&& BitVec.ofInt 64 4294967295).toNat : Int)), y16] : List Int))))))
set_option maxRecDepth 100000 in
set_option maxHeartbeats 0 in
theorem spec_l02Quarter_t (w0 : World) (x0 : Int) (x1 : Int) (x2 : Int) (x3 : Int) (r : (List Int)) (H : spec_l02Quarter.f x0 x1 x2 x3 = some r) :
    Calls Try.prog 68 #[.int .i64 x0, .int .i64 x1, .int .i64 x2, .int .i64 x3] w0 (Ret (fun v w => v = aggI .i64 r ∧ r.length = 4 ∧ Sat [] w0 w [] [])) := by
  have hs : Sat [] w0 w0 [] [] := Sat.init w0 [] [] (by simp) (by simp) List.nodup_nil (by simp [blks])
  unfold spec_l02Quarter.f at H
  refine enter Try.func68 rfl Try.ntmps68 rfl fun a hk => ?_
  apply wp_seq_k; intro K1 hK1
  apply wp_region_lit
  refine sala 1 ((Lay.int .i64)) (m := 4) (z := 0) (zc := [.int .i64 0]) hs rfl hk rfl rfl ze41 (by exact ⟨rfl, rfl⟩) rfl rfl rfl fun b2 k3 w a hk o4 hs => ?_
  have lh5 : (List.replicate 4 (0 : Int)).length = 4 := List.length_replicate
  show wpList _ _ _ [] _ _
  refine wpList_nil ?_
  refine hK1 _ _ ?_
  apply wp_seq_k; intro K6 hK6
  apply wp_region_lit
  refine sm _ rfl hk rfl rfl rfl fun a hk => ?_
  refine sm _ rfl hk rfl rfl rfl fun a hk => ?_
  refine sv (.int .i64 (w64 (x0 + x1))) hk rfl rfl rfl fun a hk => ?_
  refine sv (.int .i64 (IntKind.wrap .i64 ((BitVec.ofInt 64 (w64 (x0 + x1)) &&& BitVec.ofInt 64 4294967295).toNat : Int))) hk rfl rfl rfl fun a hk => ?_
  refine sa _ rfl hk rfl rfl rfl fun a hk => ?_
  show wpList _ _ _ [] _ _
  refine wpList_nil ?_
  refine hK6 _ _ ?_
  apply wp_seq_k; intro K7 hK7
  apply wp_region_lit
  refine sm _ rfl hk rfl rfl rfl fun a hk => ?_
  refine sm _ rfl hk rfl rfl rfl fun a hk => ?_
  refine sv (.int .i64 (IntKind.wrap .i64 ((BitVec.ofInt 64 x3 ^^^ BitVec.ofInt 64 (IntKind.wrap .i64 ((BitVec.ofInt 64 (w64 (x0 + x1)) &&& BitVec.ofInt 64 4294967295).toNat : Int))).toNat : Int))) hk rfl rfl rfl fun a hk => ?_
  obtain ⟨y8, h9, H⟩ := bind_some H
  refine sc rfl en112 hk rfl rfl rfl (spec_l02Left_t _ (IntKind.wrap .i64 ((BitVec.ofInt 64 x3 ^^^ BitVec.ofInt 64 (IntKind.wrap .i64 ((BitVec.ofInt 64 (w64 (x0 + x1)) &&& BitVec.ofInt 64 4294967295).toNat : Int))).toNat : Int)) 16 _ h9) ?_
  rintro _ w ⟨rfl, hG⟩ a hk
  have hs := hs.call0 hG
  refine sa _ rfl hk rfl rfl rfl fun a hk => ?_
  show wpList _ _ _ [] _ _
  refine wpList_nil ?_
  refine hK7 _ _ ?_
  apply wp_seq_k; intro K10 hK10
  apply wp_region_lit
  refine sm _ rfl hk rfl rfl rfl fun a hk => ?_
  refine sm _ rfl hk rfl rfl rfl fun a hk => ?_
  refine sv (.int .i64 (w64 (x2 + y8))) hk rfl rfl rfl fun a hk => ?_
  refine sv (.int .i64 (IntKind.wrap .i64 ((BitVec.ofInt 64 (w64 (x2 + y8)) &&& BitVec.ofInt 64 4294967295).toNat : Int))) hk rfl rfl rfl fun a hk => ?_
  refine sa _ rfl hk rfl rfl rfl fun a hk => ?_
  show wpList _ _ _ [] _ _
  refine wpList_nil ?_
  refine hK10 _ _ ?_
  have hs := hs.pick [(1, 1)] rfl
  apply wp_seq_k; intro K11 hK11
  apply wp_region_lit
  refine sm _ rfl hk rfl rfl rfl fun a hk => ?_
  refine sm _ rfl hk rfl rfl rfl fun a hk => ?_
  refine sv (.int .i64 (IntKind.wrap .i64 ((BitVec.ofInt 64 x1 ^^^ BitVec.ofInt 64 (IntKind.wrap .i64 ((BitVec.ofInt 64 (w64 (x2 + y8)) &&& BitVec.ofInt 64 4294967295).toNat : Int))).toNat : Int))) hk rfl rfl rfl fun a hk => ?_
  obtain ⟨y12, h13, H⟩ := bind_some H
  refine sc rfl en112 hk rfl rfl rfl (spec_l02Left_t _ (IntKind.wrap .i64 ((BitVec.ofInt 64 x1 ^^^ BitVec.ofInt 64 (IntKind.wrap .i64 ((BitVec.ofInt 64 (w64 (x2 + y8)) &&& BitVec.ofInt 64 4294967295).toNat : Int))).toNat : Int)) 12 _ h13) ?_
  rintro _ w ⟨rfl, hG⟩ a hk
  have hs := hs.call0 hG
  refine sa _ rfl hk rfl rfl rfl fun a hk => ?_
  show wpList _ _ _ [] _ _
  refine wpList_nil ?_
  refine hK11 _ _ ?_
  apply wp_seq_k; intro K14 hK14
  apply wp_region_lit
  refine sm _ rfl hk rfl rfl rfl fun a hk => ?_
  refine sm _ rfl hk rfl rfl rfl fun a hk => ?_
  refine sv (.int .i64 (w64 ((IntKind.wrap .i64 ((BitVec.ofInt 64 (w64 (x0 + x1)) &&& BitVec.ofInt 64 4294967295).toNat : Int)) + y12))) hk rfl rfl rfl fun a hk => ?_
  refine sv (.int .i64 (IntKind.wrap .i64 ((BitVec.ofInt 64 (w64 ((IntKind.wrap .i64 ((BitVec.ofInt 64 (w64 (x0 + x1)) &&& BitVec.ofInt 64 4294967295).toNat : Int)) + y12)) &&& BitVec.ofInt 64 4294967295).toNat : Int))) hk rfl rfl rfl fun a hk => ?_
  refine sa _ rfl hk rfl rfl rfl fun a hk => ?_
  show wpList _ _ _ [] _ _
  refine wpList_nil ?_
  refine hK14 _ _ ?_
  apply wp_seq_k; intro K15 hK15
  apply wp_region_lit
  refine sm _ rfl hk rfl rfl rfl fun a hk => ?_
  refine sm _ rfl hk rfl rfl rfl fun a hk => ?_
  refine sv (.int .i64 (IntKind.wrap .i64 ((BitVec.ofInt 64 y8 ^^^ BitVec.ofInt 64 (IntKind.wrap .i64 ((BitVec.ofInt 64 (w64 ((IntKind.wrap .i64 ((BitVec.ofInt 64 (w64 (x0 + x1)) &&& BitVec.ofInt 64 4294967295).toNat : Int)) + y12)) &&& BitVec.ofInt 64 4294967295).toNat : Int))).toNat : Int))) hk rfl rfl rfl fun a hk => ?_
  obtain ⟨y16, h17, H⟩ := bind_some H
  refine sc rfl en112 hk rfl rfl rfl (spec_l02Left_t _ (IntKind.wrap .i64 ((BitVec.ofInt 64 y8 ^^^ BitVec.ofInt 64 (IntKind.wrap .i64 ((BitVec.ofInt 64 (w64 ((IntKind.wrap .i64 ((BitVec.ofInt 64 (w64 (x0 + x1)) &&& BitVec.ofInt 64 4294967295).toNat : Int)) + y12)) &&& BitVec.ofInt 64 4294967295).toNat : Int))).toNat : Int)) 8 _ h17) ?_
  rintro _ w ⟨rfl, hG⟩ a hk
  have hs := hs.call0 hG
  refine sa _ rfl hk rfl rfl rfl fun a hk => ?_
  show wpList _ _ _ [] _ _
  refine wpList_nil ?_
  refine hK15 _ _ ?_
  apply wp_seq_k; intro K18 hK18
  apply wp_region_lit
  refine sm _ rfl hk rfl rfl rfl fun a hk => ?_
  refine sm _ rfl hk rfl rfl rfl fun a hk => ?_
  refine sv (.int .i64 (w64 ((IntKind.wrap .i64 ((BitVec.ofInt 64 (w64 (x2 + y8)) &&& BitVec.ofInt 64 4294967295).toNat : Int)) + y16))) hk rfl rfl rfl fun a hk => ?_
  refine sv (.int .i64 (IntKind.wrap .i64 ((BitVec.ofInt 64 (w64 ((IntKind.wrap .i64 ((BitVec.ofInt 64 (w64 (x2 + y8)) &&& BitVec.ofInt 64 4294967295).toNat : Int)) + y16)) &&& BitVec.ofInt 64 4294967295).toNat : Int))) hk rfl rfl rfl fun a hk => ?_
  refine sa _ rfl hk rfl rfl rfl fun a hk => ?_
  show wpList _ _ _ [] _ _
  refine wpList_nil ?_
  refine hK18 _ _ ?_
  have hs := hs.pick [(1, 1)] rfl
  apply wp_seq_k; intro K19 hK19
  apply wp_region_lit
  refine sm _ rfl hk rfl rfl rfl fun a hk => ?_
  refine sm _ rfl hk rfl rfl rfl fun a hk => ?_
  refine sv (.int .i64 (IntKind.wrap .i64 ((BitVec.ofInt 64 y12 ^^^ BitVec.ofInt 64 (IntKind.wrap .i64 ((BitVec.ofInt 64 (w64 ((IntKind.wrap .i64 ((BitVec.ofInt 64 (w64 (x2 + y8)) &&& BitVec.ofInt 64 4294967295).toNat : Int)) + y16)) &&& BitVec.ofInt 64 4294967295).toNat : Int))).toNat : Int))) hk rfl rfl rfl fun a hk => ?_
  obtain ⟨y20, h21, H⟩ := bind_some H
  refine sc rfl en112 hk rfl rfl rfl (spec_l02Left_t _ (IntKind.wrap .i64 ((BitVec.ofInt 64 y12 ^^^ BitVec.ofInt 64 (IntKind.wrap .i64 ((BitVec.ofInt 64 (w64 ((IntKind.wrap .i64 ((BitVec.ofInt 64 (w64 (x2 + y8)) &&& BitVec.ofInt 64 4294967295).toNat : Int)) + y16)) &&& BitVec.ofInt 64 4294967295).toNat : Int))).toNat : Int)) 7 _ h21) ?_
  rintro _ w ⟨rfl, hG⟩ a hk
  have hs := hs.call0 hG
  refine sa _ rfl hk rfl rfl rfl fun a hk => ?_
  show wpList _ _ _ [] _ _
  refine wpList_nil ?_
  refine hK19 _ _ ?_
  apply wp_seq_k; intro K22 hK22
  apply wp_region_lit
  refine sm _ rfl hk rfl rfl rfl fun a hk => ?_
  refine sm _ rfl hk rfl rfl rfl fun a hk => ?_
  refine sm _ rfl hk rfl rfl rfl fun a hk => ?_
  refine sm _ rfl hk rfl rfl rfl fun a hk => ?_
  refine sbd (pv := [(0, (.int .i64 (IntKind.wrap .i64 ((BitVec.ofInt 64 (w64 ((IntKind.wrap .i64 ((BitVec.ofInt 64 (w64 (x0 + x1)) &&& BitVec.ofInt 64 4294967295).toNat : Int)) + y12)) &&& BitVec.ofInt 64 4294967295).toNat : Int)))), (1, (.int .i64 y20)), (2, (.int .i64 (IntKind.wrap .i64 ((BitVec.ofInt 64 (w64 ((IntKind.wrap .i64 ((BitVec.ofInt 64 (w64 (x2 + y8)) &&& BitVec.ofInt 64 4294967295).toNat : Int)) + y16)) &&& BitVec.ofInt 64 4294967295).toNat : Int)))), (3, (.int .i64 y16))]) rfl hk rfl rfl rfl (bd41_7 (IntKind.wrap .i64 ((BitVec.ofInt 64 (w64 ((IntKind.wrap .i64 ((BitVec.ofInt 64 (w64 (x0 + x1)) &&& BitVec.ofInt 64 4294967295).toNat : Int)) + y12)) &&& BitVec.ofInt 64 4294967295).toNat : Int)) y20 (IntKind.wrap .i64 ((BitVec.ofInt 64 (w64 ((IntKind.wrap .i64 ((BitVec.ofInt 64 (w64 (x2 + y8)) &&& BitVec.ofInt 64 4294967295).toNat : Int)) + y16)) &&& BitVec.ofInt 64 4294967295).toNat : Int)) y16) fun a hk => ?_
  have lh23 : ([(IntKind.wrap .i64 ((BitVec.ofInt 64 (w64 ((IntKind.wrap .i64 ((BitVec.ofInt 64 (w64 (x0 + x1)) &&& BitVec.ofInt 64 4294967295).toNat : Int)) + y12)) &&& BitVec.ofInt 64 4294967295).toNat : Int)), y20, (IntKind.wrap .i64 ((BitVec.ofInt 64 (w64 ((IntKind.wrap .i64 ((BitVec.ofInt 64 (w64 (x2 + y8)) &&& BitVec.ofInt 64 4294967295).toNat : Int)) + y16)) &&& BitVec.ofInt 64 4294967295).toNat : Int)), y16] : List Int).length = 4 := rfl
  refine sswa 1 ([(IntKind.wrap .i64 ((BitVec.ofInt 64 (w64 ((IntKind.wrap .i64 ((BitVec.ofInt 64 (w64 (x0 + x1)) &&& BitVec.ofInt 64 4294967295).toNat : Int)) + y12)) &&& BitVec.ofInt 64 4294967295).toNat : Int)), y20, (IntKind.wrap .i64 ((BitVec.ofInt 64 (w64 ((IntKind.wrap .i64 ((BitVec.ofInt 64 (w64 (x2 + y8)) &&& BitVec.ofInt 64 4294967295).toNat : Int)) + y16)) &&& BitVec.ofInt 64 4294967295).toNat : Int)), y16] : List Int) hs rfl o4 lh5 lh23 rfl rfl hk rfl rfl rfl rfl sz41 fun k24 w a hk o25 hs => ?_
  show wpList _ _ _ [] _ _
  refine wpList_nil ?_
  refine hK22 _ _ ?_
  refine wp_ret ?_
  obtain rfl := Option.some.inj H
  exact fin hk _ [(aggI .i64 ([(IntKind.wrap .i64 ((BitVec.ofInt 64 (w64 ((IntKind.wrap .i64 ((BitVec.ofInt 64 (w64 (x0 + x1)) &&& BitVec.ofInt 64 4294967295).toNat : Int)) + y12)) &&& BitVec.ofInt 64 4294967295).toNat : Int)), y20, (IntKind.wrap .i64 ((BitVec.ofInt 64 (w64 ((IntKind.wrap .i64 ((BitVec.ofInt 64 (w64 (x2 + y8)) &&& BitVec.ofInt 64 4294967295).toNat : Int)) + y16)) &&& BitVec.ofInt 64 4294967295).toNat : Int)), y16] : List Int))] rfl ⟨⟨_, rfl, run_loadA ag41 sz41 o25 lh23 hs (q := 1) rfl⟩, trivial⟩ ⟨rfl, lh23, (hs.pick [] rfl).dnil⟩

noncomputable def spec_l02Round.f (x0 : List Int) (x1 : Int) (x2 : Int) (x3 : Int) (x4 : Int) : Option ((List Int)) :=
  (if 0 ≤ x1 ∧ x1 < (16 : Int) then (if 0 ≤ x2 ∧ x2 < (16 : Int) then (if 0 ≤ x3 ∧ x3 < (16 : Int) then (if 0 ≤ x4 ∧ x4 < (16 : Int) then ((spec_l02Quarter.f (x0.getD x1.toNat 0) (x0.getD x2.toNat 0) (x0.getD x3.toNat 0) (x0.getD x4.toNat 0)).bind fun y_r10_12_1 => (if 0 ≤ (0 : Int) ∧ (0 : Int) < (4 : Int) then (if 0 ≤ x1 ∧ x1 < (16 : Int) then (if 0 ≤ (1 : Int) ∧ (1 : Int) < (4 : Int) then (if 0 ≤ x2 ∧ x2 < (16 : Int) then (if 0 ≤ (2 : Int) ∧ (2 : Int) < (4 : Int) then (if 0 ≤ x3 ∧ x3 < (16 : Int) then (if 0 ≤ (3 : Int) ∧ (3 : Int) < (4 : Int) then (if 0 ≤ x4 ∧ x4 < (16 : Int) then (some ((((x0.set x1.toNat (y_r10_12_1.getD (0 : Int).toNat 0)).set x2.toNat (y_r10_12_1.getD (1 : Int).toNat 0)).set x3.toNat (y_r10_12_1.getD (2 : Int).toNat 0)).set x4.toNat (y_r10_12_1.getD (3 : Int).toNat 0))) else none) else none) else none) else none) else none) else none) else none) else none)) else none) else none) else none) else none)
set_option maxRecDepth 100000 in
set_option maxHeartbeats 0 in
theorem spec_l02Round_t (w0 : World) (x0 : List Int) (e0_ : x0.length = 16) (x1 : Int) (x2 : Int) (x3 : Int) (x4 : Int) (r : (List Int)) (H : spec_l02Round.f x0 x1 x2 x3 x4 = some r) :
    Calls Try.prog 133 #[aggI .i64 x0, .int .i64 x1, .int .i64 x2, .int .i64 x3, .int .i64 x4] w0 (Ret (fun v w => v = aggI .i64 r ∧ r.length = 16 ∧ Sat [] w0 w [] [])) := by
  have hs : Sat [] w0 w0 [] [] := Sat.init w0 [] [] (by simp) (by simp) List.nodup_nil (by simp [blks])
  unfold spec_l02Round.f at H
  refine enter Try.func133 rfl Try.ntmps133 rfl fun a hk => ?_
  apply wp_seq_k; intro K1 hK1
  apply wp_region_lit
  refine sbxa 1 hs rfl hk rfl rfl rfl e0_ rfl fun b2 k3 w a hk o4 hs => ?_
  refine sala 2 ((Lay.int .i64)) (m := 16) (z := 0) (zc := [.int .i64 0]) hs rfl hk rfl rfl ze131 (by exact ⟨rfl, rfl⟩) rfl rfl rfl fun b5 k6 w a hk o7 hs => ?_
  have lh8 : (List.replicate 16 (0 : Int)).length = 16 := List.length_replicate
  show wpList _ _ _ [] _ _
  refine wpList_nil ?_
  refine hK1 _ _ ?_
  apply wp_seq_k; intro K9 hK9
  rcases ite_some H with ⟨c_r10_1_1, H⟩ | ⟨_, H⟩
  rotate_left
  ·cases H
  rcases ite_some H with ⟨c_r10_4_1, H⟩ | ⟨_, H⟩
  rotate_left
  ·cases H
  rcases ite_some H with ⟨c_r10_7_1, H⟩ | ⟨_, H⟩
  rotate_left
  ·cases H
  rcases ite_some H with ⟨c_r10_10_1, H⟩ | ⟨_, H⟩
  rotate_left
  ·cases H
  obtain ⟨y_r10_12_1, h_r10_12_2, H⟩ := bind_some H
  obtain ⟨R11, hR11⟩ : ∃ R : Act → World → Prop, R = fun a w => ∃ (b_r10_13_1 : Nat) (k_r10_14_1 : Chunk), Kn [(1, (.int .i64 x1)), (2, (.int .i64 x2)), (3, (.int .i64 x3)), (4, (.int .i64 x4)), (5, (.pointer (some ⟨b2, 0, none⟩))), (10, (.pointer (some ⟨b5, 0, none⟩))), (11, (.pointer (some ⟨b_r10_13_1, 0, none⟩)))] 42 a ∧ Sat [] w0 w [] [(1, k3), (2, k6), (103261, k_r10_14_1)] ∧ Own (Lay.int .i64) 41 (some ⟨b_r10_13_1, 0, none⟩) 4 y_r10_12_1 k_r10_14_1 ∧ y_r10_12_1.length = 4 := ⟨_, rfl⟩
  refine wp_cutq R11 ?_ ?_
  ·skip
   refine wp_region_tree (.q 0 (.q 1 (.q 2 (.q 3 (.q 4 (.q 5 (.q 6 (.q 7 (.q 8 (.q 9 (.q 10 (.q 11 (.alt 12 (.alt 13 (.last 14) .stop) (.alt 13 (.alt 12 (.last 14) .stop) .stop)))))))))))))) mo (by kernel_rfl) (hs.pick [(2, 2), (1, 1)] rfl) fun _ => ?_
   have hs := hs.drew
   refine tqst (.int .i64 x1) hk rfl rfl rfl rfl (fun w hs => sm _ rfl hk rfl rfl rfl fun a hk => qe hk) fun a hk => ?_
   obtain ⟨b_r10_1_2, q_r10_1_3, hAc_r10_1_1⟩ := (o4.view).some_ x1 c_r10_1_1.1 (by rw [e0_]; exact c_r10_1_1.2)
   refine tqst (.pointer (some (padd (some ⟨b2, 0, none⟩) (x1.toNat * 1)))) hk rfl rfl rfl rfl (fun w hs => sia rfl hk rfl rfl rfl rfl un131 sz3 c_r10_1_1.1 c_r10_1_1.2 hAc_r10_1_1 fun a hk => qe hk) fun a hk => ?_
   obtain ⟨_, rfl, e_r10_2_1⟩ := (o4.view).at_ 0 x1 c_r10_1_1.1 (by rw [e0_]; exact c_r10_1_1.2)
   refine tqst (.int .i64 (x0.getD x1.toNat 0)) hk rfl rfl rfl rfl (fun w hs => sl (v := (.int .i64 (x0.getD x1.toNat 0))) rfl hk rfl rfl rfl ag3 ((e_r10_2_1 0 _ rfl).cell (hs.hasG (k := 1) rfl)) fun a hk => qe hk) fun a hk => ?_
   refine tqst (.int .i64 x2) hk rfl rfl rfl rfl (fun w hs => sm _ rfl hk rfl rfl rfl fun a hk => qe hk) fun a hk => ?_
   obtain ⟨b_r10_4_2, q_r10_4_3, hAc_r10_4_1⟩ := (o4.view).some_ x2 c_r10_4_1.1 (by rw [e0_]; exact c_r10_4_1.2)
   refine tqst (.pointer (some (padd (some ⟨b2, 0, none⟩) (x2.toNat * 1)))) hk rfl rfl rfl rfl (fun w hs => sia rfl hk rfl rfl rfl rfl un131 sz3 c_r10_4_1.1 c_r10_4_1.2 hAc_r10_4_1 fun a hk => qe hk) fun a hk => ?_
   obtain ⟨_, rfl, e_r10_5_1⟩ := (o4.view).at_ 0 x2 c_r10_4_1.1 (by rw [e0_]; exact c_r10_4_1.2)
   refine tqst (.int .i64 (x0.getD x2.toNat 0)) hk rfl rfl rfl rfl (fun w hs => sl (v := (.int .i64 (x0.getD x2.toNat 0))) rfl hk rfl rfl rfl ag3 ((e_r10_5_1 0 _ rfl).cell (hs.hasG (k := 1) rfl)) fun a hk => qe hk) fun a hk => ?_
   refine tqst (.int .i64 x3) hk rfl rfl rfl rfl (fun w hs => sm _ rfl hk rfl rfl rfl fun a hk => qe hk) fun a hk => ?_
   obtain ⟨b_r10_7_2, q_r10_7_3, hAc_r10_7_1⟩ := (o4.view).some_ x3 c_r10_7_1.1 (by rw [e0_]; exact c_r10_7_1.2)
   refine tqst (.pointer (some (padd (some ⟨b2, 0, none⟩) (x3.toNat * 1)))) hk rfl rfl rfl rfl (fun w hs => sia rfl hk rfl rfl rfl rfl un131 sz3 c_r10_7_1.1 c_r10_7_1.2 hAc_r10_7_1 fun a hk => qe hk) fun a hk => ?_
   obtain ⟨_, rfl, e_r10_8_1⟩ := (o4.view).at_ 0 x3 c_r10_7_1.1 (by rw [e0_]; exact c_r10_7_1.2)
   refine tqst (.int .i64 (x0.getD x3.toNat 0)) hk rfl rfl rfl rfl (fun w hs => sl (v := (.int .i64 (x0.getD x3.toNat 0))) rfl hk rfl rfl rfl ag3 ((e_r10_8_1 0 _ rfl).cell (hs.hasG (k := 1) rfl)) fun a hk => qe hk) fun a hk => ?_
   refine tqst (.int .i64 x4) hk rfl rfl rfl rfl (fun w hs => sm _ rfl hk rfl rfl rfl fun a hk => qe hk) fun a hk => ?_
   obtain ⟨b_r10_10_2, q_r10_10_3, hAc_r10_10_1⟩ := (o4.view).some_ x4 c_r10_10_1.1 (by rw [e0_]; exact c_r10_10_1.2)
   refine tqst (.pointer (some (padd (some ⟨b2, 0, none⟩) (x4.toNat * 1)))) hk rfl rfl rfl rfl (fun w hs => sia rfl hk rfl rfl rfl rfl un131 sz3 c_r10_10_1.1 c_r10_10_1.2 hAc_r10_10_1 fun a hk => qe hk) fun a hk => ?_
   obtain ⟨_, rfl, e_r10_11_1⟩ := (o4.view).at_ 0 x4 c_r10_10_1.1 (by rw [e0_]; exact c_r10_10_1.2)
   refine tqst (.int .i64 (x0.getD x4.toNat 0)) hk rfl rfl rfl rfl (fun w hs => sl (v := (.int .i64 (x0.getD x4.toNat 0))) rfl hk rfl rfl rfl ag3 ((e_r10_11_1 0 _ rfl).cell (hs.hasG (k := 1) rfl)) fun a hk => qe hk) fun a hk => ?_
   refine tsst hk rfl rfl (fun K_r10_12 hK_r10_12 w hF => ?_) ?_
   ·skip
    have hs := hs.f hF
    refine sc rfl en68 hk rfl rfl rfl (spec_l02Quarter_t _ (x0.getD x1.toNat 0) (x0.getD x2.toNat 0) (x0.getD x3.toNat 0) (x0.getD x4.toNat 0) _ h_r10_12_2) ?_
    rintro _ w ⟨rfl, lh_r10_12_3, hG⟩ a hk
    have hs := hs.call0 hG
    refine se (hs.pick [(2, 2), (1, 1)] rfl) hk (hK_r10_12 _ _ ?_)
    refine tsst hk rfl rfl (fun K_r10_13 hK_r10_13 w hF => ?_) wt_stop
    have hs := hs.f hF
    refine sala 103261 ((Lay.int .i64)) (m := 4) (z := 0) (zc := [.int .i64 0]) hs rfl hk rfl rfl ze41 (by exact ⟨rfl, rfl⟩) rfl rfl rfl fun b_r10_13_1 k_r10_13_2 w a hk o_r10_13_3 hs => ?_
    have lh_r10_13_4 : (List.replicate 4 (0 : Int)).length = 4 := List.length_replicate
    refine se (hs.pick [(2, 2), (1, 1)] rfl) hk (hK_r10_13 _ _ ?_)
    refine tlst hk rfl rfl fun K_r10_14 hK_r10_14 w hF => ?_
    have hs := hs.f hF
    refine sswa 103261 y_r10_12_1 hs rfl o_r10_13_3 lh_r10_13_4 lh_r10_12_3 rfl rfl hk rfl rfl rfl rfl sz41 fun k_r10_14_1 w a hk o_r10_14_2 hs => ?_
    refine se trivial hk (hK_r10_14 _ _ fun w hF => ?_)
    have hs := hs.f hF
    show R11 _ _
    rw [hR11]
    exact ⟨b_r10_13_1, k_r10_14_1, (hk.c 1 rfl (hk.c 2 rfl (hk.c 3 rfl (hk.c 4 rfl (hk.c 5 rfl (hk.c 10 rfl (hk.c 11 rfl hk.k))))))), (hs.pick [(1, 1), (2, 2), (103261, 103261)] rfl), o_r10_14_2, lh_r10_12_3⟩
   refine tsst hk rfl rfl (fun K_r10_13 hK_r10_13 w hF => ?_) wt_stop
   have hs := hs.f hF
   refine sala 103261 ((Lay.int .i64)) (m := 4) (z := 0) (zc := [.int .i64 0]) hs rfl hk rfl rfl ze41 (by exact ⟨rfl, rfl⟩) rfl rfl rfl fun b_r10_13_1 k_r10_13_2 w a hk o_r10_13_3 hs => ?_
   have lh_r10_13_4 : (List.replicate 4 (0 : Int)).length = 4 := List.length_replicate
   refine se (hs.pick [(2, 2), (1, 1)] rfl) hk (hK_r10_13 _ _ ?_)
   refine tsst hk rfl rfl (fun K_r10_12 hK_r10_12 w hF => ?_) wt_stop
   have hs := hs.f hF
   refine sc rfl en68 hk rfl rfl rfl (spec_l02Quarter_t _ (x0.getD x1.toNat 0) (x0.getD x2.toNat 0) (x0.getD x3.toNat 0) (x0.getD x4.toNat 0) _ h_r10_12_2) ?_
   rintro _ w ⟨rfl, lh_r10_12_3, hG⟩ a hk
   have hs := hs.call0 hG
   refine se (hs.pick [(2, 2), (1, 1)] rfl) hk (hK_r10_12 _ _ ?_)
   refine tlst hk rfl rfl fun K_r10_14 hK_r10_14 w hF => ?_
   have hs := hs.f hF
   refine sswa 103261 y_r10_12_1 hs rfl o_r10_13_3 lh_r10_13_4 lh_r10_12_3 rfl rfl hk rfl rfl rfl rfl sz41 fun k_r10_14_1 w a hk o_r10_14_2 hs => ?_
   refine se trivial hk (hK_r10_14 _ _ fun w hF => ?_)
   have hs := hs.f hF
   show R11 _ _
   rw [hR11]
   exact ⟨b_r10_13_1, k_r10_14_1, (hk.c 1 rfl (hk.c 2 rfl (hk.c 3 rfl (hk.c 4 rfl (hk.c 5 rfl (hk.c 10 rfl (hk.c 11 rfl hk.k))))))), (hs.pick [(1, 1), (2, 2), (103261, 103261)] rfl), o_r10_14_2, lh_r10_12_3⟩
  ·intro a w hR0
   rw [hR11] at hR0
   obtain ⟨b_r10_13_1, k_r10_14_1, hk, hs, o_r10_14_2, lh_r10_12_3⟩ := hR0
   refine hK9 _ _ ?_
   apply wp_seq_k; intro K12 hK12
   apply wp_region_lit
   refine sm _ rfl hk rfl rfl rfl fun a hk => ?_
   rcases ite_some H with ⟨c13, H⟩ | ⟨_, H⟩
   rotate_left
   ·cases H
   obtain ⟨b14, q15, hAc13⟩ := (o_r10_14_2.view).some_ (0 : Int) c13.1 (by rw [lh_r10_12_3]; exact c13.2)
   refine sia rfl hk rfl rfl rfl rfl un41 sz3 c13.1 c13.2 hAc13 fun a hk => ?_
   obtain ⟨_, rfl, e16⟩ := (o_r10_14_2.view).at_ 0 (0 : Int) c13.1 (by rw [lh_r10_12_3]; exact c13.2)
   refine sl (v := (.int .i64 (y_r10_12_1.getD (0 : Int).toNat 0))) rfl hk rfl rfl rfl ag3 ((e16 0 _ rfl).cell (hs.hasG (k := 103261) rfl)) fun a hk => ?_
   rcases ite_some H with ⟨c17, H⟩ | ⟨_, H⟩
   rotate_left
   ·cases H
   obtain ⟨b18, q19, hAc17⟩ := (o4.view).some_ x1 c17.1 (by rw [e0_]; exact c17.2)
   refine sia rfl hk rfl rfl rfl rfl un131 sz3 c17.1 c17.2 hAc17 fun a hk => ?_
   refine so (j := 0) 1 0 (y_r10_12_1.getD (0 : Int).toNat 0) hs rfl o4 c17.1 (by rw [e0_]; exact c17.2) rfl hk rfl rfl rfl rfl rfl sz3 (by simp [Value.cells, Value.oneCell']) (Nat.le_of_ble_eq_true rfl) (fun _ _ h => ⟨by rw [h.1]; rfl, h.2⟩) fun k20 w a hk o21 hs => ?_
   have lh22 : (x0.set x1.toNat (y_r10_12_1.getD (0 : Int).toNat 0)).length = 16 := by rw [List.length_set]; exact e0_
   show wpList _ _ _ [] _ _
   refine wpList_nil ?_
   refine hK12 _ _ ?_
   apply wp_seq_k; intro K23 hK23
   apply wp_region_lit
   refine sm _ rfl hk rfl rfl rfl fun a hk => ?_
   rcases ite_some H with ⟨c24, H⟩ | ⟨_, H⟩
   rotate_left
   ·cases H
   obtain ⟨b25, q26, hAc24⟩ := (o_r10_14_2.view).some_ (1 : Int) c24.1 (by rw [lh_r10_12_3]; exact c24.2)
   refine sia rfl hk rfl rfl rfl rfl un41 sz3 c24.1 c24.2 hAc24 fun a hk => ?_
   obtain ⟨_, rfl, e27⟩ := (o_r10_14_2.view).at_ 0 (1 : Int) c24.1 (by rw [lh_r10_12_3]; exact c24.2)
   refine sl (v := (.int .i64 (y_r10_12_1.getD (1 : Int).toNat 0))) rfl hk rfl rfl rfl ag3 ((e27 0 _ rfl).cell (hs.hasG (k := 103261) rfl)) fun a hk => ?_
   rcases ite_some H with ⟨c28, H⟩ | ⟨_, H⟩
   rotate_left
   ·cases H
   obtain ⟨b29, q30, hAc28⟩ := (o21.view).some_ x2 c28.1 (by rw [lh22]; exact c28.2)
   refine sia rfl hk rfl rfl rfl rfl un131 sz3 c28.1 c28.2 hAc28 fun a hk => ?_
   refine so (j := 0) 1 0 (y_r10_12_1.getD (1 : Int).toNat 0) hs rfl o21 c28.1 (by rw [lh22]; exact c28.2) rfl hk rfl rfl rfl rfl rfl sz3 (by simp [Value.cells, Value.oneCell']) (Nat.le_of_ble_eq_true rfl) (fun _ _ h => ⟨by rw [h.1]; rfl, h.2⟩) fun k31 w a hk o32 hs => ?_
   have lh33 : ((x0.set x1.toNat (y_r10_12_1.getD (0 : Int).toNat 0)).set x2.toNat (y_r10_12_1.getD (1 : Int).toNat 0)).length = 16 := by rw [List.length_set]; exact lh22
   show wpList _ _ _ [] _ _
   refine wpList_nil ?_
   refine hK23 _ _ ?_
   have hs := hs.pick [(1, 1), (2, 2), (103261, 103261)] rfl
   apply wp_seq_k; intro K34 hK34
   apply wp_region_lit
   refine sm _ rfl hk rfl rfl rfl fun a hk => ?_
   rcases ite_some H with ⟨c35, H⟩ | ⟨_, H⟩
   rotate_left
   ·cases H
   obtain ⟨b36, q37, hAc35⟩ := (o_r10_14_2.view).some_ (2 : Int) c35.1 (by rw [lh_r10_12_3]; exact c35.2)
   refine sia rfl hk rfl rfl rfl rfl un41 sz3 c35.1 c35.2 hAc35 fun a hk => ?_
   obtain ⟨_, rfl, e38⟩ := (o_r10_14_2.view).at_ 0 (2 : Int) c35.1 (by rw [lh_r10_12_3]; exact c35.2)
   refine sl (v := (.int .i64 (y_r10_12_1.getD (2 : Int).toNat 0))) rfl hk rfl rfl rfl ag3 ((e38 0 _ rfl).cell (hs.hasG (k := 103261) rfl)) fun a hk => ?_
   rcases ite_some H with ⟨c39, H⟩ | ⟨_, H⟩
   rotate_left
   ·cases H
   obtain ⟨b40, q41, hAc39⟩ := (o32.view).some_ x3 c39.1 (by rw [lh33]; exact c39.2)
   refine sia rfl hk rfl rfl rfl rfl un131 sz3 c39.1 c39.2 hAc39 fun a hk => ?_
   refine so (j := 0) 1 0 (y_r10_12_1.getD (2 : Int).toNat 0) hs rfl o32 c39.1 (by rw [lh33]; exact c39.2) rfl hk rfl rfl rfl rfl rfl sz3 (by simp [Value.cells, Value.oneCell']) (Nat.le_of_ble_eq_true rfl) (fun _ _ h => ⟨by rw [h.1]; rfl, h.2⟩) fun k42 w a hk o43 hs => ?_
   have lh44 : (((x0.set x1.toNat (y_r10_12_1.getD (0 : Int).toNat 0)).set x2.toNat (y_r10_12_1.getD (1 : Int).toNat 0)).set x3.toNat (y_r10_12_1.getD (2 : Int).toNat 0)).length = 16 := by rw [List.length_set]; exact lh33
   show wpList _ _ _ [] _ _
   refine wpList_nil ?_
   refine hK34 _ _ ?_
   apply wp_seq_k; intro K45 hK45
   apply wp_region_lit
   refine sm _ rfl hk rfl rfl rfl fun a hk => ?_
   rcases ite_some H with ⟨c46, H⟩ | ⟨_, H⟩
   rotate_left
   ·cases H
   obtain ⟨b47, q48, hAc46⟩ := (o_r10_14_2.view).some_ (3 : Int) c46.1 (by rw [lh_r10_12_3]; exact c46.2)
   refine sia rfl hk rfl rfl rfl rfl un41 sz3 c46.1 c46.2 hAc46 fun a hk => ?_
   obtain ⟨_, rfl, e49⟩ := (o_r10_14_2.view).at_ 0 (3 : Int) c46.1 (by rw [lh_r10_12_3]; exact c46.2)
   refine sl (v := (.int .i64 (y_r10_12_1.getD (3 : Int).toNat 0))) rfl hk rfl rfl rfl ag3 ((e49 0 _ rfl).cell (hs.hasG (k := 103261) rfl)) fun a hk => ?_
   rcases ite_some H with ⟨c50, H⟩ | ⟨_, H⟩
   rotate_left
   ·cases H
   obtain ⟨b51, q52, hAc50⟩ := (o43.view).some_ x4 c50.1 (by rw [lh44]; exact c50.2)
   refine sia rfl hk rfl rfl rfl rfl un131 sz3 c50.1 c50.2 hAc50 fun a hk => ?_
   refine so (j := 0) 1 0 (y_r10_12_1.getD (3 : Int).toNat 0) hs rfl o43 c50.1 (by rw [lh44]; exact c50.2) rfl hk rfl rfl rfl rfl rfl sz3 (by simp [Value.cells, Value.oneCell']) (Nat.le_of_ble_eq_true rfl) (fun _ _ h => ⟨by rw [h.1]; rfl, h.2⟩) fun k53 w a hk o54 hs => ?_
   have lh55 : ((((x0.set x1.toNat (y_r10_12_1.getD (0 : Int).toNat 0)).set x2.toNat (y_r10_12_1.getD (1 : Int).toNat 0)).set x3.toNat (y_r10_12_1.getD (2 : Int).toNat 0)).set x4.toNat (y_r10_12_1.getD (3 : Int).toNat 0)).length = 16 := by rw [List.length_set]; exact lh44
   show wpList _ _ _ [] _ _
   refine wpList_nil ?_
   refine hK45 _ _ ?_
   apply wp_seq_k; intro K56 hK56
   apply wp_region_lit
   refine slna (k := 1) hs rfl o54 lh55 rfl hk rfl rfl rfl ag131 sz131 fun a hk => ?_
   refine sswa 2 ((((x0.set x1.toNat (y_r10_12_1.getD (0 : Int).toNat 0)).set x2.toNat (y_r10_12_1.getD (1 : Int).toNat 0)).set x3.toNat (y_r10_12_1.getD (2 : Int).toNat 0)).set x4.toNat (y_r10_12_1.getD (3 : Int).toNat 0)) hs rfl o7 lh8 lh55 rfl rfl hk rfl rfl rfl rfl sz131 fun k57 w a hk o58 hs => ?_
   show wpList _ _ _ [] _ _
   refine wpList_nil ?_
   refine hK56 _ _ ?_
   refine wp_ret ?_
   obtain rfl := Option.some.inj H
   exact fin hk _ [(aggI .i64 ((((x0.set x1.toNat (y_r10_12_1.getD (0 : Int).toNat 0)).set x2.toNat (y_r10_12_1.getD (1 : Int).toNat 0)).set x3.toNat (y_r10_12_1.getD (2 : Int).toNat 0)).set x4.toNat (y_r10_12_1.getD (3 : Int).toNat 0)))] rfl ⟨⟨_, rfl, run_loadA ag131 sz131 o58 lh55 hs (q := 2) rfl⟩, trivial⟩ ⟨rfl, lh55, (hs.pick [] rfl).dnil⟩

noncomputable def spec_l02Bytes.f (l0 : List Int) (x1 : Int) : Option ((List Int)) :=
  (if l0.length + ([(IntKind.wrap .u8 x1), (IntKind.wrap .u8 (Int.fdiv x1 (2 ^ 8))), (IntKind.wrap .u8 (Int.fdiv x1 (2 ^ 16))), (IntKind.wrap .u8 (Int.fdiv x1 (2 ^ 24)))]).length ≤ 1073741824 then (some (l0 ++ ([(IntKind.wrap .u8 x1), (IntKind.wrap .u8 (Int.fdiv x1 (2 ^ 8))), (IntKind.wrap .u8 (Int.fdiv x1 (2 ^ 16))), (IntKind.wrap .u8 (Int.fdiv x1 (2 ^ 24)))]))) else none)
set_option maxRecDepth 100000 in
set_option maxHeartbeats 0 in
theorem spec_l02Bytes_t (w0 : World) (A0_ : Option Addr) (p0_ : Nat) (l0 : List Int) (k0_ : Chunk) (v0_ : Own (Lay.int .u8) 5 A0_ p0_ l0 k0_) (x1 : Int) (hs0 : Sat (blks [(1, k0_)]) w0 w0 [] [(1, k0_)]) (r : (List Int)) (H : spec_l02Bytes.f l0 x1 = some r) :
    Calls Try.prog 134 #[.slice A0_ l0.length p0_, .int .i64 x1] w0 (Ret (fun v w => ∃ (A0 : Option Addr) (p0 : Nat) (k0 : Chunk), v = .slice A0 r.length p0 ∧ Own (Lay.int .u8) 5 A0 p0 r k0 ∧ Sat (blks [(1, k0_)]) w0 w [] [(0, k0)])) := by
  have hs := hs0
  unfold spec_l02Bytes.f at H
  refine enter Try.func134 rfl Try.ntmps134 rfl fun a hk => ?_
  apply wp_seq_k; intro K1 hK1
  apply wp_region_lit
  refine sa _ rfl hk rfl rfl rfl fun a hk => ?_
  show wpList _ _ _ [] _ _
  refine wpList_nil ?_
  refine hK1 _ _ ?_
  apply wp_seq_k; intro K2 hK2
  apply wp_region_lit
  refine sm _ rfl hk rfl rfl rfl fun a hk => ?_
  refine sm _ rfl hk rfl rfl rfl fun a hk => ?_
  refine scn rfl hk rfl rfl rfl un5 un3 fun a hk => ?_
  refine sm _ rfl hk rfl rfl rfl fun a hk => ?_
  refine sv (.int .i64 (Int.fdiv x1 (2 ^ 8))) hk rfl rfl rfl fun a hk => ?_
  refine scn rfl hk rfl rfl rfl un5 un3 fun a hk => ?_
  refine sm _ rfl hk rfl rfl rfl fun a hk => ?_
  refine sv (.int .i64 (Int.fdiv x1 (2 ^ 16))) hk rfl rfl rfl fun a hk => ?_
  refine scn rfl hk rfl rfl rfl un5 un3 fun a hk => ?_
  refine sm _ rfl hk rfl rfl rfl fun a hk => ?_
  refine sv (.int .i64 (Int.fdiv x1 (2 ^ 24))) hk rfl rfl rfl fun a hk => ?_
  refine scn rfl hk rfl rfl rfl un5 un3 fun a hk => ?_
  refine sbs (L := (Lay.int .u8)) (pv := [(0, (.int .u8 (IntKind.wrap .u8 x1))), (1, (.int .u8 (IntKind.wrap .u8 (Int.fdiv x1 (2 ^ 8))))), (2, (.int .u8 (IntKind.wrap .u8 (Int.fdiv x1 (2 ^ 16))))), (3, (.int .u8 (IntKind.wrap .u8 (Int.fdiv x1 (2 ^ 24)))))]) (xs := [(IntKind.wrap .u8 x1), (IntKind.wrap .u8 (Int.fdiv x1 (2 ^ 8))), (IntKind.wrap .u8 (Int.fdiv x1 (2 ^ 16))), (IntKind.wrap .u8 (Int.fdiv x1 (2 ^ 24)))]) (ess := [[.int .u8 (IntKind.wrap .u8 x1)], [.int .u8 (IntKind.wrap .u8 (Int.fdiv x1 (2 ^ 8)))], [.int .u8 (IntKind.wrap .u8 (Int.fdiv x1 (2 ^ 16)))], [.int .u8 (IntKind.wrap .u8 (Int.fdiv x1 (2 ^ 24)))]]) 2 hs rfl hk rfl rfl rfl un22 (bs5_8 (IntKind.wrap .u8 x1) (IntKind.wrap .u8 (Int.fdiv x1 (2 ^ 8))) (IntKind.wrap .u8 (Int.fdiv x1 (2 ^ 16))) (IntKind.wrap .u8 (Int.fdiv x1 (2 ^ 24)))) (AllOwn.cons0 ⟨rfl, rfl⟩ (AllOwn.cons0 ⟨rfl, rfl⟩ (AllOwn.cons0 ⟨rfl, rfl⟩ (AllOwn.cons0 ⟨rfl, rfl⟩ AllOwn.nil)))) rfl rfl rfl fun b3 k4 w a hk o5 hs => ?_
  rcases ite_some H with ⟨c6, H⟩ | ⟨_, H⟩
  rotate_left
  ·cases H
  refine sap 1 (xs := l0) (ys := [(IntKind.wrap .u8 x1), (IntKind.wrap .u8 (Int.fdiv x1 (2 ^ 8))), (IntKind.wrap .u8 (Int.fdiv x1 (2 ^ 16))), (IntKind.wrap .u8 (Int.fdiv x1 (2 ^ 24)))]) (flat_flat : ((Lay.int .u8)).Flat) hs rfl v0_ o5.view (hs.hasG (k := 2) rfl) rfl hk rfl rfl rfl rfl rfl rfl un22 mk5 rfl rfl rfl c6 fun A7 p8 k9 w a hk o10 hs => ?_
  refine sa _ rfl hk rfl rfl rfl fun a hk => ?_
  show wpList _ _ _ [] _ _
  refine wpList_nil ?_
  refine hK2 _ _ ?_
  refine wp_ret ?_
  obtain rfl := Option.some.inj H
  exact fin hk _ [(.slice A7 (l0 ++ ([(IntKind.wrap .u8 x1), (IntKind.wrap .u8 (Int.fdiv x1 (2 ^ 8))), (IntKind.wrap .u8 (Int.fdiv x1 (2 ^ 16))), (IntKind.wrap .u8 (Int.fdiv x1 (2 ^ 24)))])).length p8)] rfl ⟨rfl, trivial⟩ ⟨A7, p8, _, rfl, o10, (hs.pick [(0, 1)] rfl).dnil⟩

noncomputable def spec_l02Block.s0  (u14 : List Int) (u18 : Int) : Option (((List Int) × Int) ⊕ Ex ((List Int)) (ByteArray)) :=
  (bif (decide (u18 < 4)) then ((spec_l02Word.f (⟨#[101, 120, 112, 97, 110, 100, 32, 51, 50, 45, 98, 121, 116, 101, 32, 107]⟩ : ByteArray) (w64 (4 * u18))).bind fun y35 => (if 0 ≤ u18 ∧ u18 < (16 : Int) then (some (.inl ((u14.set u18.toNat y35), (w64 (u18 + 1))))) else none)) else (some (.inr (.out u14))))
noncomputable def spec_l02Block.s1 (x0 : ByteArray) (u48 : List Int) (u52 : Int) : Option (((List Int) × Int) ⊕ Ex ((List Int)) (ByteArray)) :=
  (bif (decide (u52 < 8)) then ((spec_l02Word.f x0 (w64 (4 * u52))).bind fun y69 => (if 0 ≤ (w64 (4 + u52)) ∧ (w64 (4 + u52)) < (16 : Int) then (some (.inl ((u48.set (w64 (4 + u52)).toNat y69), (w64 (u52 + 1))))) else none)) else (some (.inr (.out u48))))
noncomputable def spec_l02Block.s2 (x1 : ByteArray) (u89 : List Int) (u93 : Int) : Option (((List Int) × Int) ⊕ Ex ((List Int)) (ByteArray)) :=
  (bif (decide (u93 < 3)) then ((spec_l02Word.f x1 (w64 (4 * u93))).bind fun y110 => (if 0 ≤ (w64 (13 + u93)) ∧ (w64 (13 + u93)) < (16 : Int) then (some (.inl ((u89.set (w64 (13 + u93)).toNat y110), (w64 (u93 + 1))))) else none)) else (some (.inr (.out u89))))
noncomputable def spec_l02Block.s4  (u155 : List Int) (u159 : Int) : Option (((List Int) × Int) ⊕ Ex ((List Int)) (ByteArray)) :=
  (bif (decide (u159 < 4)) then ((spec_l02Round.f u155 u159 (w64 (4 + u159)) (w64 (8 + u159)) (w64 (12 + u159))).bind fun y176 => (some (.inl (y176, (w64 (u159 + 1)))))) else (some (.inr (.out u155))))
noncomputable def spec_l02Block.s5  (u185 : List Int) (u189 : Int) : Option (((List Int) × Int) ⊕ Ex ((List Int)) (ByteArray)) :=
  (bif (decide (u189 < 4)) then ((spec_l02Round.f u185 u189 (w64 (4 + (Int.tmod (w64 (u189 + 1)) 4))) (w64 (8 + (Int.tmod (w64 (u189 + 2)) 4))) (w64 (12 + (Int.tmod (w64 (u189 + 3)) 4)))).bind fun y206 => (some (.inl (y206, (w64 (u189 + 1)))))) else (some (.inr (.out u185))))
noncomputable def spec_l02Block.s3  (u130 : List Int) (u134 : Int) : Option (((List Int) × Int) ⊕ Ex ((List Int)) (ByteArray)) :=
  (bif (decide (u134 < 10)) then ((loopO (fun s => spec_l02Block.s4  s.1 s.2) (u130, 0)).bind fun o => match o with | .out u160 => ((loopO (fun s => spec_l02Block.s5  s.1 s.2) (u160, 0)).bind fun o => match o with | .out u190 => (some (.inl (u190, (w64 (u134 + 1))))) | .ret r => (some (.inr (.ret r)))) | .ret r => (some (.inr (.ret r)))) else (some (.inr (.out u130))))
noncomputable def spec_l02Block.s6 (u94 : List Int) (u135 : List Int) (u226 : List Int) (u225 : Int) : Option (((List Int) × Int) ⊕ Ex ((List Int)) (ByteArray)) :=
  (bif (decide (u225 < 16)) then (if 0 ≤ u225 ∧ u225 < (16 : Int) then (if 0 ≤ u225 ∧ u225 < (16 : Int) then ((spec_l02Bytes.f u226 (IntKind.wrap .i64 ((BitVec.ofInt 64 (w64 ((u135.getD u225.toNat 0) + (u94.getD u225.toNat 0))) &&& BitVec.ofInt 64 4294967295).toNat : Int))).bind fun y257 => (some (.inl (y257, (w64 (u225 + 1)))))) else none) else none) else (some (.inr (.out u226))))
noncomputable def spec_l02Block.f (x0 : ByteArray) (x1 : ByteArray) (x2 : Int) : Option (ByteArray) :=
  ((loopO (fun s => spec_l02Block.s0  s.1 s.2) ((List.replicate 16 (0 : Int)), 0)).bind fun o => match o with | .out u19 => ((loopO (fun s => spec_l02Block.s1 x0 s.1 s.2) (u19, 0)).bind fun o => match o with | .out u53 => (if 0 ≤ (12 : Int) ∧ (12 : Int) < (16 : Int) then ((loopO (fun s => spec_l02Block.s2 x1 s.1 s.2) ((u53.set (12 : Int).toNat x2), 0)).bind fun o => match o with | .out u94 => ((loopO (fun s => spec_l02Block.s3  s.1 s.2) (u94, 0)).bind fun o => match o with | .out u135 => ((loopO (fun s => spec_l02Block.s6 u94 u135 s.1 s.2) (([] : List Int), 0)).bind fun o => match o with | .out u231 => (some (strOfNums u231)) | .ret r => (some r)) | .ret r => (some r)) | .ret r => (some r)) else none) | .ret r => (some r)) | .ret r => (some r))
set_option maxRecDepth 100000 in
set_option maxHeartbeats 0 in
theorem spec_l02Block_t (w0 : World) (x0 : ByteArray) (x1 : ByteArray) (x2 : Int) (r : ByteArray) (H : spec_l02Block.f x0 x1 x2 = some r) :
    Calls Try.prog 108 #[.string x0, .string x1, .int .i64 x2] w0 (Ret (fun v w => v = .string r ∧ Sat [] w0 w [] [])) := by
  have hs : Sat [] w0 w0 [] [] := Sat.init w0 [] [] (by simp) (by simp) List.nodup_nil (by simp [blks])
  unfold spec_l02Block.f at H
  refine enter Try.func108 rfl Try.ntmps108 rfl fun a hk => ?_
  apply wp_seq_k; intro K1 hK1
  apply wp_region_lit
  refine sa _ rfl hk rfl rfl rfl fun a hk => ?_
  show wpList _ _ _ [] _ _
  refine wpList_nil ?_
  refine hK1 _ _ ?_
  apply wp_seq_k; intro K2 hK2
  apply wp_region_lit
  refine sbd (pv := []) rfl hk rfl rfl rfl bd131_9 fun a hk => ?_
  have lh3 : (List.replicate 16 (0 : Int)).length = 16 := List.length_replicate
  refine sala 1 ((Lay.int .i64)) (m := 16) (z := 0) (zc := [.int .i64 0]) hs rfl hk rfl rfl ze131 (by exact ⟨rfl, rfl⟩) rfl rfl rfl fun b4 k5 w a hk o6 hs => ?_
  have lh7 : (List.replicate 16 (0 : Int)).length = 16 := List.length_replicate
  refine sswa 1 (List.replicate 16 (0 : Int)) hs rfl o6 lh7 lh3 rfl rfl hk rfl rfl rfl rfl sz131 fun k8 w a hk o9 hs => ?_
  show wpList _ _ _ [] _ _
  refine wpList_nil ?_
  refine hK2 _ _ ?_
  apply wp_seq_k; intro K10 hK10
  apply wp_seq_k; intro K11 hK11
  apply wp_region_lit
  refine sa _ rfl hk rfl rfl rfl fun a hk => ?_
  show wpList _ _ _ [] _ _
  refine wpList_nil ?_
  refine hK11 _ _ ?_
  obtain ⟨o23, h24, HL25⟩ := bind_some H
  clear H
  obtain ⟨R26, hR26⟩ : ∃ R : Act → World → Prop, R = fun a w => ∃ (u19 : List Int) (k20 : Chunk), o23 = .out u19 ∧ Kn [(0, (.string x0)), (1, (.string x1)), (2, (.int .i64 x2)), (7, (.pointer (some ⟨b4, 0, none⟩)))] 105 a ∧ Sat [] w0 w [] [(1, k20)] ∧ Own (Lay.int .i64) 131 (some ⟨b4, 0, none⟩) 16 u19 k20 ∧ u19.length = 16 := ⟨_, rfl⟩
  refine wp_cutq R26 ?_ ?_
  ·refine wp_block ?_
   obtain ⟨fu28, h24⟩ := loopO_some h24
   obtain ⟨I27, hI27⟩ : ∃ I : Nat → Act → World → Prop, I = fun fu a w => ∃ (u14 : List Int) (u18 : Int) (k15 : Chunk), loopN (fun s => spec_l02Block.s0  s.1 s.2) fu (u14, u18) = some o23 ∧ Kn [(0, (.string x0)), (1, (.string x1)), (2, (.int .i64 x2)), (7, (.pointer (some ⟨b4, 0, none⟩))), (8, (.int .i64 u18))] 105 a ∧ Sat [] w0 w [] [(1, k15)] ∧ Own (Lay.int .i64) 131 (some ⟨b4, 0, none⟩) 16 u14 k15 ∧ u14.length = 16 := ⟨_, rfl⟩
   refine wp_loop_ghost I27 fu28 ?_ ?_
   ·rw [hI27]
    exact ⟨(List.replicate 16 (0 : Int)), 0, _, h24, (hk.c 0 rfl (hk.c 1 rfl (hk.c 2 rfl (hk.c 7 rfl (hk.c 8 rfl hk.k))))), (hs.pick [(1, 1)] rfl), o9, lh3⟩
   ·clear h24 hk hs
    intro fu28 a w hI0
    rw [hI27] at hI0
    obtain ⟨u14, u18, k15, hi, hk, hs, o16, lh17⟩ := hI0
    obtain ⟨x29, H, h30⟩ := loop_round hi
    try dsimp only at H
    unfold spec_l02Block.s0 at H
    apply wp_seq_k; intro K31 hK31
    apply wp_seq_k; intro K32 hK32
    apply wp_region_lit
    refine sm _ rfl hk rfl rfl rfl fun a hk => ?_
    refine sv (.bool (decide (u18 < 4))) hk rfl rfl rfl fun a hk => ?_
    show wpList _ _ _ [] _ _
    refine wpList_nil ?_
    refine hK32 _ _ ?_
    have hs := hs.pick [(1, 1)] rfl
    rcases cond_some H with ⟨c33, H⟩ | ⟨c33, H⟩
    ·have hk := hk.lit 19 c33 rfl
     refine cnd_true hk rfl rfl ?_
     refine wp_skip ?_
     refine hK31 _ _ ?_
     apply wp_seq_k; intro K34 hK34
     refine wp_block ?_
     apply wp_region_lit
     refine sm _ rfl hk rfl rfl rfl fun a hk => ?_
     refine sm _ rfl hk rfl rfl rfl fun a hk => ?_
     refine sv (.int .i64 (w64 (4 * u18))) hk rfl rfl rfl fun a hk => ?_
     obtain ⟨y35, h36, H⟩ := bind_some H
     refine sc rfl en132 hk rfl rfl rfl (spec_l02Word_t _ (⟨#[101, 120, 112, 97, 110, 100, 32, 51, 50, 45, 98, 121, 116, 101, 32, 107]⟩ : ByteArray) (w64 (4 * u18)) _ h36) ?_
     rintro _ w ⟨rfl, hG⟩ a hk
     have hs := hs.call0 hG
     rcases ite_some H with ⟨c37, H⟩ | ⟨_, H⟩
     rotate_left
     ·cases H
     obtain ⟨b38, q39, hAc37⟩ := (o16.view).some_ u18 c37.1 (by rw [lh17]; exact c37.2)
     refine sia rfl hk rfl rfl rfl rfl un131 sz3 c37.1 c37.2 hAc37 fun a hk => ?_
     refine so (j := 0) 1 0 y35 hs rfl o16 c37.1 (by rw [lh17]; exact c37.2) rfl hk rfl rfl rfl rfl rfl sz3 (by simp [Value.cells, Value.oneCell']) (Nat.le_of_ble_eq_true rfl) (fun _ _ h => ⟨by rw [h.1]; rfl, h.2⟩) fun k40 w a hk o41 hs => ?_
     have lh42 : (u14.set u18.toNat y35).length = 16 := by rw [List.length_set]; exact lh17
     show wpList _ _ _ [] _ _
     refine wpList_nil ?_
     refine hK34 _ _ ?_
     apply wp_region_lit
     refine sm _ rfl hk rfl rfl rfl fun a hk => ?_
     refine sv (.int .i64 (w64 (u18 + 1))) hk rfl rfl rfl fun a hk => ?_
     refine sa _ rfl hk rfl rfl rfl fun a hk => ?_
     show wpList _ _ _ [] _ _
     refine wpList_nil ?_
     obtain rfl := Option.some.inj H
     obtain ⟨m43, hmm43, h30⟩ := h30
     show ∃ n', n' < _ ∧ I27 n' _ _
     refine ⟨m43, hmm43, ?_⟩
     rw [hI27]
     exact ⟨(u14.set u18.toNat y35), (w64 (u18 + 1)), _, h30, (hk.c 0 rfl (hk.c 1 rfl (hk.c 2 rfl (hk.c 7 rfl (hk.c 8 rfl hk.k))))), (hs.pick [(1, 1)] rfl), o41, lh42⟩
    ·have hk := hk.lit 19 c33 rfl
     refine cnd_false hk rfl rfl ?_
     refine wp_exit ?_
     obtain rfl := Option.some.inj H
     show R26 _ _
     rw [hR26]
     exact ⟨u14, _, h30.symm, (hk.c 0 rfl (hk.c 1 rfl (hk.c 2 rfl (hk.c 7 rfl hk.k)))), (hs.pick [(1, 1)] rfl), o16, lh17⟩
  ·intro a w hR0
   rw [hR26] at hR0
   obtain ⟨u19, k20, rfl, hk, hs, o21, lh22⟩ := hR0
   have H := HL25
   try dsimp only at H
   refine hK10 _ _ ?_
   have hs := hs.pick [(1, 1)] rfl
   apply wp_seq_k; intro K44 hK44
   apply wp_seq_k; intro K45 hK45
   apply wp_region_lit
   refine sa _ rfl hk rfl rfl rfl fun a hk => ?_
   show wpList _ _ _ [] _ _
   refine wpList_nil ?_
   refine hK45 _ _ ?_
   obtain ⟨o57, h58, HL59⟩ := bind_some H
   clear H
   obtain ⟨R60, hR60⟩ : ∃ R : Act → World → Prop, R = fun a w => ∃ (u53 : List Int) (k54 : Chunk), o57 = .out u53 ∧ Kn [(1, (.string x1)), (2, (.int .i64 x2)), (7, (.pointer (some ⟨b4, 0, none⟩)))] 105 a ∧ Sat [] w0 w [] [(1, k54)] ∧ Own (Lay.int .i64) 131 (some ⟨b4, 0, none⟩) 16 u53 k54 ∧ u53.length = 16 := ⟨_, rfl⟩
   refine wp_cutq R60 ?_ ?_
   ·refine wp_block ?_
    obtain ⟨fu62, h58⟩ := loopO_some h58
    obtain ⟨I61, hI61⟩ : ∃ I : Nat → Act → World → Prop, I = fun fu a w => ∃ (u48 : List Int) (u52 : Int) (k49 : Chunk), loopN (fun s => spec_l02Block.s1 x0 s.1 s.2) fu (u48, u52) = some o57 ∧ Kn [(0, (.string x0)), (1, (.string x1)), (2, (.int .i64 x2)), (7, (.pointer (some ⟨b4, 0, none⟩))), (9, (.int .i64 u52))] 105 a ∧ Sat [] w0 w [] [(1, k49)] ∧ Own (Lay.int .i64) 131 (some ⟨b4, 0, none⟩) 16 u48 k49 ∧ u48.length = 16 := ⟨_, rfl⟩
    refine wp_loop_ghost I61 fu62 ?_ ?_
    ·rw [hI61]
     exact ⟨u19, 0, _, h58, (hk.c 0 rfl (hk.c 1 rfl (hk.c 2 rfl (hk.c 7 rfl (hk.c 9 rfl hk.k))))), (hs.pick [(1, 1)] rfl), o21, lh22⟩
    ·clear h58 hk hs
     intro fu62 a w hI0
     rw [hI61] at hI0
     obtain ⟨u48, u52, k49, hi, hk, hs, o50, lh51⟩ := hI0
     obtain ⟨x63, H, h64⟩ := loop_round hi
     try dsimp only at H
     unfold spec_l02Block.s1 at H
     apply wp_seq_k; intro K65 hK65
     apply wp_seq_k; intro K66 hK66
     apply wp_region_lit
     refine sm _ rfl hk rfl rfl rfl fun a hk => ?_
     refine sv (.bool (decide (u52 < 8))) hk rfl rfl rfl fun a hk => ?_
     show wpList _ _ _ [] _ _
     refine wpList_nil ?_
     refine hK66 _ _ ?_
     rcases cond_some H with ⟨c67, H⟩ | ⟨c67, H⟩
     ·have hk := hk.lit 28 c67 rfl
      refine cnd_true hk rfl rfl ?_
      refine wp_skip ?_
      refine hK65 _ _ ?_
      apply wp_seq_k; intro K68 hK68
      refine wp_block ?_
      apply wp_region_lit
      refine sm _ rfl hk rfl rfl rfl fun a hk => ?_
      refine sv (.int .i64 (w64 (4 + u52))) hk rfl rfl rfl fun a hk => ?_
      refine sm _ rfl hk rfl rfl rfl fun a hk => ?_
      refine sm _ rfl hk rfl rfl rfl fun a hk => ?_
      refine sv (.int .i64 (w64 (4 * u52))) hk rfl rfl rfl fun a hk => ?_
      obtain ⟨y69, h70, H⟩ := bind_some H
      refine sc rfl en132 hk rfl rfl rfl (spec_l02Word_t _ x0 (w64 (4 * u52)) _ h70) ?_
      rintro _ w ⟨rfl, hG⟩ a hk
      have hs := hs.call0 hG
      rcases ite_some H with ⟨c71, H⟩ | ⟨_, H⟩
      rotate_left
      ·cases H
      obtain ⟨b72, q73, hAc71⟩ := (o50.view).some_ (w64 (4 + u52)) c71.1 (by rw [lh51]; exact c71.2)
      refine sia rfl hk rfl rfl rfl rfl un131 sz3 c71.1 c71.2 hAc71 fun a hk => ?_
      refine so (j := 0) 1 0 y69 hs rfl o50 c71.1 (by rw [lh51]; exact c71.2) rfl hk rfl rfl rfl rfl rfl sz3 (by simp [Value.cells, Value.oneCell']) (Nat.le_of_ble_eq_true rfl) (fun _ _ h => ⟨by rw [h.1]; rfl, h.2⟩) fun k74 w a hk o75 hs => ?_
      have lh76 : (u48.set (w64 (4 + u52)).toNat y69).length = 16 := by rw [List.length_set]; exact lh51
      show wpList _ _ _ [] _ _
      refine wpList_nil ?_
      refine hK68 _ _ ?_
      have hs := hs.pick [(1, 1)] rfl
      apply wp_region_lit
      refine sm _ rfl hk rfl rfl rfl fun a hk => ?_
      refine sv (.int .i64 (w64 (u52 + 1))) hk rfl rfl rfl fun a hk => ?_
      refine sa _ rfl hk rfl rfl rfl fun a hk => ?_
      show wpList _ _ _ [] _ _
      refine wpList_nil ?_
      obtain rfl := Option.some.inj H
      obtain ⟨m77, hmm77, h64⟩ := h64
      show ∃ n', n' < _ ∧ I61 n' _ _
      refine ⟨m77, hmm77, ?_⟩
      rw [hI61]
      exact ⟨(u48.set (w64 (4 + u52)).toNat y69), (w64 (u52 + 1)), _, h64, (hk.c 0 rfl (hk.c 1 rfl (hk.c 2 rfl (hk.c 7 rfl (hk.c 9 rfl hk.k))))), (hs.pick [(1, 1)] rfl), o75, lh76⟩
     ·have hk := hk.lit 28 c67 rfl
      refine cnd_false hk rfl rfl ?_
      refine wp_exit ?_
      obtain rfl := Option.some.inj H
      show R60 _ _
      rw [hR60]
      exact ⟨u48, _, h64.symm, (hk.c 1 rfl (hk.c 2 rfl (hk.c 7 rfl hk.k))), (hs.pick [(1, 1)] rfl), o50, lh51⟩
   ·intro a w hR0
    rw [hR60] at hR0
    obtain ⟨u53, k54, rfl, hk, hs, o55, lh56⟩ := hR0
    have H := HL59
    try dsimp only at H
    refine hK44 _ _ ?_
    apply wp_seq_k; intro K78 hK78
    apply wp_region_lit
    refine sm _ rfl hk rfl rfl rfl fun a hk => ?_
    rcases ite_some H with ⟨c79, H⟩ | ⟨_, H⟩
    rotate_left
    ·cases H
    obtain ⟨b80, q81, hAc79⟩ := (o55.view).some_ (12 : Int) c79.1 (by rw [lh56]; exact c79.2)
    refine sia rfl hk rfl rfl rfl rfl un131 sz3 c79.1 c79.2 hAc79 fun a hk => ?_
    refine so (j := 0) 1 0 x2 hs rfl o55 c79.1 (by rw [lh56]; exact c79.2) rfl hk rfl rfl rfl rfl rfl sz3 (by simp [Value.cells, Value.oneCell']) (Nat.le_of_ble_eq_true rfl) (fun _ _ h => ⟨by rw [h.1]; rfl, h.2⟩) fun k82 w a hk o83 hs => ?_
    have lh84 : (u53.set (12 : Int).toNat x2).length = 16 := by rw [List.length_set]; exact lh56
    show wpList _ _ _ [] _ _
    refine wpList_nil ?_
    refine hK78 _ _ ?_
    apply wp_seq_k; intro K85 hK85
    apply wp_seq_k; intro K86 hK86
    apply wp_region_lit
    refine sa _ rfl hk rfl rfl rfl fun a hk => ?_
    show wpList _ _ _ [] _ _
    refine wpList_nil ?_
    refine hK86 _ _ ?_
    have hs := hs.pick [(1, 1)] rfl
    obtain ⟨o98, h99, HL100⟩ := bind_some H
    clear H
    obtain ⟨R101, hR101⟩ : ∃ R : Act → World → Prop, R = fun a w => ∃ (u94 : List Int) (k95 : Chunk), o98 = .out u94 ∧ Kn [(7, (.pointer (some ⟨b4, 0, none⟩)))] 105 a ∧ Sat [] w0 w [] [(1, k95)] ∧ Own (Lay.int .i64) 131 (some ⟨b4, 0, none⟩) 16 u94 k95 ∧ u94.length = 16 := ⟨_, rfl⟩
    refine wp_cutq R101 ?_ ?_
    ·refine wp_block ?_
     obtain ⟨fu103, h99⟩ := loopO_some h99
     obtain ⟨I102, hI102⟩ : ∃ I : Nat → Act → World → Prop, I = fun fu a w => ∃ (u89 : List Int) (u93 : Int) (k90 : Chunk), loopN (fun s => spec_l02Block.s2 x1 s.1 s.2) fu (u89, u93) = some o98 ∧ Kn [(1, (.string x1)), (7, (.pointer (some ⟨b4, 0, none⟩))), (10, (.int .i64 u93))] 105 a ∧ Sat [] w0 w [] [(1, k90)] ∧ Own (Lay.int .i64) 131 (some ⟨b4, 0, none⟩) 16 u89 k90 ∧ u89.length = 16 := ⟨_, rfl⟩
     refine wp_loop_ghost I102 fu103 ?_ ?_
     ·rw [hI102]
      exact ⟨(u53.set (12 : Int).toNat x2), 0, _, h99, (hk.c 1 rfl (hk.c 7 rfl (hk.c 10 rfl hk.k))), (hs.pick [(1, 1)] rfl), o83, lh84⟩
     ·clear h99 hk hs
      intro fu103 a w hI0
      rw [hI102] at hI0
      obtain ⟨u89, u93, k90, hi, hk, hs, o91, lh92⟩ := hI0
      obtain ⟨x104, H, h105⟩ := loop_round hi
      try dsimp only at H
      unfold spec_l02Block.s2 at H
      apply wp_seq_k; intro K106 hK106
      apply wp_seq_k; intro K107 hK107
      apply wp_region_lit
      refine sm _ rfl hk rfl rfl rfl fun a hk => ?_
      refine sv (.bool (decide (u93 < 3))) hk rfl rfl rfl fun a hk => ?_
      show wpList _ _ _ [] _ _
      refine wpList_nil ?_
      refine hK107 _ _ ?_
      rcases cond_some H with ⟨c108, H⟩ | ⟨c108, H⟩
      ·have hk := hk.lit 41 c108 rfl
       refine cnd_true hk rfl rfl ?_
       refine wp_skip ?_
       refine hK106 _ _ ?_
       apply wp_seq_k; intro K109 hK109
       refine wp_block ?_
       apply wp_region_lit
       refine sm _ rfl hk rfl rfl rfl fun a hk => ?_
       refine sv (.int .i64 (w64 (13 + u93))) hk rfl rfl rfl fun a hk => ?_
       refine sm _ rfl hk rfl rfl rfl fun a hk => ?_
       refine sm _ rfl hk rfl rfl rfl fun a hk => ?_
       refine sv (.int .i64 (w64 (4 * u93))) hk rfl rfl rfl fun a hk => ?_
       obtain ⟨y110, h111, H⟩ := bind_some H
       refine sc rfl en132 hk rfl rfl rfl (spec_l02Word_t _ x1 (w64 (4 * u93)) _ h111) ?_
       rintro _ w ⟨rfl, hG⟩ a hk
       have hs := hs.call0 hG
       rcases ite_some H with ⟨c112, H⟩ | ⟨_, H⟩
       rotate_left
       ·cases H
       obtain ⟨b113, q114, hAc112⟩ := (o91.view).some_ (w64 (13 + u93)) c112.1 (by rw [lh92]; exact c112.2)
       refine sia rfl hk rfl rfl rfl rfl un131 sz3 c112.1 c112.2 hAc112 fun a hk => ?_
       refine so (j := 0) 1 0 y110 hs rfl o91 c112.1 (by rw [lh92]; exact c112.2) rfl hk rfl rfl rfl rfl rfl sz3 (by simp [Value.cells, Value.oneCell']) (Nat.le_of_ble_eq_true rfl) (fun _ _ h => ⟨by rw [h.1]; rfl, h.2⟩) fun k115 w a hk o116 hs => ?_
       have lh117 : (u89.set (w64 (13 + u93)).toNat y110).length = 16 := by rw [List.length_set]; exact lh92
       show wpList _ _ _ [] _ _
       refine wpList_nil ?_
       refine hK109 _ _ ?_
       apply wp_region_lit
       refine sm _ rfl hk rfl rfl rfl fun a hk => ?_
       refine sv (.int .i64 (w64 (u93 + 1))) hk rfl rfl rfl fun a hk => ?_
       refine sa _ rfl hk rfl rfl rfl fun a hk => ?_
       show wpList _ _ _ [] _ _
       refine wpList_nil ?_
       obtain rfl := Option.some.inj H
       obtain ⟨m118, hmm118, h105⟩ := h105
       show ∃ n', n' < _ ∧ I102 n' _ _
       refine ⟨m118, hmm118, ?_⟩
       rw [hI102]
       exact ⟨(u89.set (w64 (13 + u93)).toNat y110), (w64 (u93 + 1)), _, h105, (hk.c 1 rfl (hk.c 7 rfl (hk.c 10 rfl hk.k))), (hs.pick [(1, 1)] rfl), o116, lh117⟩
      ·have hk := hk.lit 41 c108 rfl
       refine cnd_false hk rfl rfl ?_
       refine wp_exit ?_
       obtain rfl := Option.some.inj H
       show R101 _ _
       rw [hR101]
       exact ⟨u89, _, h105.symm, (hk.c 7 rfl hk.k), (hs.pick [(1, 1)] rfl), o91, lh92⟩
    ·intro a w hR0
     rw [hR101] at hR0
     obtain ⟨u94, k95, rfl, hk, hs, o96, lh97⟩ := hR0
     have H := HL100
     try dsimp only at H
     refine hK85 _ _ ?_
     apply wp_seq_k; intro K119 hK119
     apply wp_region_lit
     refine slna (k := 1) hs rfl o96 lh97 rfl hk rfl rfl rfl ag131 sz131 fun a hk => ?_
     refine sala 5 ((Lay.int .i64)) (m := 16) (z := 0) (zc := [.int .i64 0]) hs rfl hk rfl rfl ze131 (by exact ⟨rfl, rfl⟩) rfl rfl rfl fun b120 k121 w a hk o122 hs => ?_
     have lh123 : (List.replicate 16 (0 : Int)).length = 16 := List.length_replicate
     refine sswa 5 u94 hs rfl o122 lh123 lh97 rfl rfl hk rfl rfl rfl rfl sz131 fun k124 w a hk o125 hs => ?_
     show wpList _ _ _ [] _ _
     refine wpList_nil ?_
     refine hK119 _ _ ?_
     apply wp_seq_k; intro K126 hK126
     apply wp_seq_k; intro K127 hK127
     apply wp_region_lit
     refine sa _ rfl hk rfl rfl rfl fun a hk => ?_
     show wpList _ _ _ [] _ _
     refine wpList_nil ?_
     refine hK127 _ _ ?_
     obtain ⟨o139, h140, HL141⟩ := bind_some H
     clear H
     obtain ⟨R142, hR142⟩ : ∃ R : Act → World → Prop, R = fun a w => ∃ (u135 : List Int) (k136 : Chunk), o139 = .out u135 ∧ Kn [(7, (.pointer (some ⟨b4, 0, none⟩))), (11, (.pointer (some ⟨b120, 0, none⟩)))] 105 a ∧ Sat [] w0 w [] [(1, k95), (5, k136)] ∧ Own (Lay.int .i64) 131 (some ⟨b120, 0, none⟩) 16 u135 k136 ∧ u135.length = 16 := ⟨_, rfl⟩
     refine wp_cutq R142 ?_ ?_
     ·refine wp_block ?_
      obtain ⟨fu144, h140⟩ := loopO_some h140
      obtain ⟨I143, hI143⟩ : ∃ I : Nat → Act → World → Prop, I = fun fu a w => ∃ (u130 : List Int) (u134 : Int) (k131 : Chunk), loopN (fun s => spec_l02Block.s3  s.1 s.2) fu (u130, u134) = some o139 ∧ Kn [(7, (.pointer (some ⟨b4, 0, none⟩))), (11, (.pointer (some ⟨b120, 0, none⟩))), (12, (.int .i64 u134))] 105 a ∧ Sat [] w0 w [] [(1, k95), (5, k131)] ∧ Own (Lay.int .i64) 131 (some ⟨b120, 0, none⟩) 16 u130 k131 ∧ u130.length = 16 := ⟨_, rfl⟩
      refine wp_loop_ghost I143 fu144 ?_ ?_
      ·rw [hI143]
       exact ⟨u94, 0, _, h140, (hk.c 7 rfl (hk.c 11 rfl (hk.c 12 rfl hk.k))), (hs.pick [(1, 1), (5, 5)] rfl), o125, lh97⟩
      ·clear h140 hk hs
       intro fu144 a w hI0
       rw [hI143] at hI0
       obtain ⟨u130, u134, k131, hi, hk, hs, o132, lh133⟩ := hI0
       obtain ⟨x145, H, h146⟩ := loop_round hi
       try dsimp only at H
       unfold spec_l02Block.s3 at H
       apply wp_seq_k; intro K147 hK147
       apply wp_seq_k; intro K148 hK148
       apply wp_region_lit
       refine sm _ rfl hk rfl rfl rfl fun a hk => ?_
       refine sv (.bool (decide (u134 < 10))) hk rfl rfl rfl fun a hk => ?_
       show wpList _ _ _ [] _ _
       refine wpList_nil ?_
       refine hK148 _ _ ?_
       have hs := hs.pick [(1, 1), (5, 5)] rfl
       rcases cond_some H with ⟨c149, H⟩ | ⟨c149, H⟩
       ·have hk := hk.lit 53 c149 rfl
        refine cnd_true hk rfl rfl ?_
        refine wp_skip ?_
        refine hK147 _ _ ?_
        apply wp_seq_k; intro K150 hK150
        refine wp_block ?_
        apply wp_seq_k; intro K151 hK151
        apply wp_seq_k; intro K152 hK152
        apply wp_region_lit
        refine sa _ rfl hk rfl rfl rfl fun a hk => ?_
        show wpList _ _ _ [] _ _
        refine wpList_nil ?_
        refine hK152 _ _ ?_
        obtain ⟨o164, h165, HL166⟩ := bind_some H
        clear H
        obtain ⟨R167, hR167⟩ : ∃ R : Act → World → Prop, R = fun a w => ∃ (u160 : List Int) (k161 : Chunk), o164 = .out u160 ∧ Kn [(7, (.pointer (some ⟨b4, 0, none⟩))), (11, (.pointer (some ⟨b120, 0, none⟩))), (12, (.int .i64 u134))] 105 a ∧ Sat [] w0 w [] [(1, k95), (5, k161)] ∧ Own (Lay.int .i64) 131 (some ⟨b120, 0, none⟩) 16 u160 k161 ∧ u160.length = 16 := ⟨_, rfl⟩
        refine wp_cutq R167 ?_ ?_
        ·refine wp_block ?_
         obtain ⟨fu169, h165⟩ := loopO_some h165
         obtain ⟨I168, hI168⟩ : ∃ I : Nat → Act → World → Prop, I = fun fu a w => ∃ (u155 : List Int) (u159 : Int) (k156 : Chunk), loopN (fun s => spec_l02Block.s4  s.1 s.2) fu (u155, u159) = some o164 ∧ Kn [(7, (.pointer (some ⟨b4, 0, none⟩))), (11, (.pointer (some ⟨b120, 0, none⟩))), (12, (.int .i64 u134)), (13, (.int .i64 u159))] 105 a ∧ Sat [] w0 w [] [(1, k95), (5, k156)] ∧ Own (Lay.int .i64) 131 (some ⟨b120, 0, none⟩) 16 u155 k156 ∧ u155.length = 16 := ⟨_, rfl⟩
         refine wp_loop_ghost I168 fu169 ?_ ?_
         ·rw [hI168]
          exact ⟨u130, 0, _, h165, (hk.c 7 rfl (hk.c 11 rfl (hk.c 12 rfl (hk.c 13 rfl hk.k)))), (hs.pick [(1, 1), (5, 5)] rfl), o132, lh133⟩
         ·clear h165 hk hs
          intro fu169 a w hI0
          rw [hI168] at hI0
          obtain ⟨u155, u159, k156, hi, hk, hs, o157, lh158⟩ := hI0
          obtain ⟨x170, H, h171⟩ := loop_round hi
          try dsimp only at H
          unfold spec_l02Block.s4 at H
          apply wp_seq_k; intro K172 hK172
          apply wp_seq_k; intro K173 hK173
          apply wp_region_lit
          refine sm _ rfl hk rfl rfl rfl fun a hk => ?_
          refine sv (.bool (decide (u159 < 4))) hk rfl rfl rfl fun a hk => ?_
          show wpList _ _ _ [] _ _
          refine wpList_nil ?_
          refine hK173 _ _ ?_
          rcases cond_some H with ⟨c174, H⟩ | ⟨c174, H⟩
          ·have hk := hk.lit 57 c174 rfl
           refine cnd_true hk rfl rfl ?_
           refine wp_skip ?_
           refine hK172 _ _ ?_
           have hs := hs.pick [(1, 1), (5, 5)] rfl
           apply wp_seq_k; intro K175 hK175
           refine wp_block ?_
           apply wp_region_lit
           refine slna (k := 5) hs rfl o157 lh158 rfl hk rfl rfl rfl ag131 sz131 fun a hk => ?_
           refine sm _ rfl hk rfl rfl rfl fun a hk => ?_
           refine sm _ rfl hk rfl rfl rfl fun a hk => ?_
           refine sv (.int .i64 (w64 (4 + u159))) hk rfl rfl rfl fun a hk => ?_
           refine sm _ rfl hk rfl rfl rfl fun a hk => ?_
           refine sv (.int .i64 (w64 (8 + u159))) hk rfl rfl rfl fun a hk => ?_
           refine sm _ rfl hk rfl rfl rfl fun a hk => ?_
           refine sv (.int .i64 (w64 (12 + u159))) hk rfl rfl rfl fun a hk => ?_
           obtain ⟨y176, h177, H⟩ := bind_some H
           refine sc rfl en133 hk rfl rfl rfl (spec_l02Round_t _ u155 lh158 u159 (w64 (4 + u159)) (w64 (8 + u159)) (w64 (12 + u159)) _ h177) ?_
           rintro _ w ⟨rfl, lh178, hG⟩ a hk
           have hs := hs.call0 hG
           refine sswa 5 y176 hs rfl o157 lh158 lh178 rfl rfl hk rfl rfl rfl rfl sz131 fun k179 w a hk o180 hs => ?_
           show wpList _ _ _ [] _ _
           refine wpList_nil ?_
           refine hK175 _ _ ?_
           apply wp_region_lit
           refine sm _ rfl hk rfl rfl rfl fun a hk => ?_
           refine sv (.int .i64 (w64 (u159 + 1))) hk rfl rfl rfl fun a hk => ?_
           refine sa _ rfl hk rfl rfl rfl fun a hk => ?_
           show wpList _ _ _ [] _ _
           refine wpList_nil ?_
           obtain rfl := Option.some.inj H
           obtain ⟨m181, hmm181, h171⟩ := h171
           show ∃ n', n' < _ ∧ I168 n' _ _
           refine ⟨m181, hmm181, ?_⟩
           rw [hI168]
           exact ⟨y176, (w64 (u159 + 1)), _, h171, (hk.c 7 rfl (hk.c 11 rfl (hk.c 12 rfl (hk.c 13 rfl hk.k)))), (hs.pick [(1, 1), (5, 5)] rfl), o180, lh178⟩
          ·have hk := hk.lit 57 c174 rfl
           refine cnd_false hk rfl rfl ?_
           refine wp_exit ?_
           obtain rfl := Option.some.inj H
           show R167 _ _
           rw [hR167]
           exact ⟨u155, _, h171.symm, (hk.c 7 rfl (hk.c 11 rfl (hk.c 12 rfl hk.k))), (hs.pick [(1, 1), (5, 5)] rfl), o157, lh158⟩
        ·intro a w hR0
         rw [hR167] at hR0
         obtain ⟨u160, k161, rfl, hk, hs, o162, lh163⟩ := hR0
         have H := HL166
         try dsimp only at H
         refine hK151 _ _ ?_
         apply wp_seq_k; intro K182 hK182
         apply wp_region_lit
         refine sa _ rfl hk rfl rfl rfl fun a hk => ?_
         show wpList _ _ _ [] _ _
         refine wpList_nil ?_
         refine hK182 _ _ ?_
         have hs := hs.pick [(1, 1), (5, 5)] rfl
         obtain ⟨o194, h195, HL196⟩ := bind_some H
         clear H
         obtain ⟨R197, hR197⟩ : ∃ R : Act → World → Prop, R = fun a w => ∃ (u190 : List Int) (k191 : Chunk), o194 = .out u190 ∧ Kn [(7, (.pointer (some ⟨b4, 0, none⟩))), (11, (.pointer (some ⟨b120, 0, none⟩))), (12, (.int .i64 u134))] 105 a ∧ Sat [] w0 w [] [(1, k95), (5, k191)] ∧ Own (Lay.int .i64) 131 (some ⟨b120, 0, none⟩) 16 u190 k191 ∧ u190.length = 16 := ⟨_, rfl⟩
         refine wp_cutq R197 ?_ ?_
         ·refine wp_block ?_
          obtain ⟨fu199, h195⟩ := loopO_some h195
          obtain ⟨I198, hI198⟩ : ∃ I : Nat → Act → World → Prop, I = fun fu a w => ∃ (u185 : List Int) (u189 : Int) (k186 : Chunk), loopN (fun s => spec_l02Block.s5  s.1 s.2) fu (u185, u189) = some o194 ∧ Kn [(7, (.pointer (some ⟨b4, 0, none⟩))), (11, (.pointer (some ⟨b120, 0, none⟩))), (12, (.int .i64 u134)), (14, (.int .i64 u189))] 105 a ∧ Sat [] w0 w [] [(1, k95), (5, k186)] ∧ Own (Lay.int .i64) 131 (some ⟨b120, 0, none⟩) 16 u185 k186 ∧ u185.length = 16 := ⟨_, rfl⟩
          refine wp_loop_ghost I198 fu199 ?_ ?_
          ·rw [hI198]
           exact ⟨u160, 0, _, h195, (hk.c 7 rfl (hk.c 11 rfl (hk.c 12 rfl (hk.c 14 rfl hk.k)))), (hs.pick [(1, 1), (5, 5)] rfl), o162, lh163⟩
          ·clear h195 hk hs
           intro fu199 a w hI0
           rw [hI198] at hI0
           obtain ⟨u185, u189, k186, hi, hk, hs, o187, lh188⟩ := hI0
           obtain ⟨x200, H, h201⟩ := loop_round hi
           try dsimp only at H
           unfold spec_l02Block.s5 at H
           apply wp_seq_k; intro K202 hK202
           apply wp_seq_k; intro K203 hK203
           apply wp_region_lit
           refine sm _ rfl hk rfl rfl rfl fun a hk => ?_
           refine sv (.bool (decide (u189 < 4))) hk rfl rfl rfl fun a hk => ?_
           show wpList _ _ _ [] _ _
           refine wpList_nil ?_
           refine hK203 _ _ ?_
           rcases cond_some H with ⟨c204, H⟩ | ⟨c204, H⟩
           ·have hk := hk.lit 70 c204 rfl
            refine cnd_true hk rfl rfl ?_
            refine wp_skip ?_
            refine hK202 _ _ ?_
            apply wp_seq_k; intro K205 hK205
            refine wp_block ?_
            apply wp_region_lit
            refine slna (k := 5) hs rfl o187 lh188 rfl hk rfl rfl rfl ag131 sz131 fun a hk => ?_
            refine sm _ rfl hk rfl rfl rfl fun a hk => ?_
            refine sm _ rfl hk rfl rfl rfl fun a hk => ?_
            refine sv (.int .i64 (w64 (u189 + 1))) hk rfl rfl rfl fun a hk => ?_
            refine sv (.int .i64 (Int.tmod (w64 (u189 + 1)) 4)) hk rfl rfl rfl fun a hk => ?_
            refine sv (.int .i64 (w64 (4 + (Int.tmod (w64 (u189 + 1)) 4)))) hk rfl rfl rfl fun a hk => ?_
            refine sm _ rfl hk rfl rfl rfl fun a hk => ?_
            refine sv (.int .i64 (w64 (u189 + 2))) hk rfl rfl rfl fun a hk => ?_
            refine sv (.int .i64 (Int.tmod (w64 (u189 + 2)) 4)) hk rfl rfl rfl fun a hk => ?_
            refine sv (.int .i64 (w64 (8 + (Int.tmod (w64 (u189 + 2)) 4)))) hk rfl rfl rfl fun a hk => ?_
            refine sm _ rfl hk rfl rfl rfl fun a hk => ?_
            refine sv (.int .i64 (w64 (u189 + 3))) hk rfl rfl rfl fun a hk => ?_
            refine sv (.int .i64 (Int.tmod (w64 (u189 + 3)) 4)) hk rfl rfl rfl fun a hk => ?_
            refine sv (.int .i64 (w64 (12 + (Int.tmod (w64 (u189 + 3)) 4)))) hk rfl rfl rfl fun a hk => ?_
            obtain ⟨y206, h207, H⟩ := bind_some H
            refine sc rfl en133 hk rfl rfl rfl (spec_l02Round_t _ u185 lh188 u189 (w64 (4 + (Int.tmod (w64 (u189 + 1)) 4))) (w64 (8 + (Int.tmod (w64 (u189 + 2)) 4))) (w64 (12 + (Int.tmod (w64 (u189 + 3)) 4))) _ h207) ?_
            rintro _ w ⟨rfl, lh208, hG⟩ a hk
            have hs := hs.call0 hG
            refine sswa 5 y206 hs rfl o187 lh188 lh208 rfl rfl hk rfl rfl rfl rfl sz131 fun k209 w a hk o210 hs => ?_
            show wpList _ _ _ [] _ _
            refine wpList_nil ?_
            refine hK205 _ _ ?_
            apply wp_region_lit
            refine sm _ rfl hk rfl rfl rfl fun a hk => ?_
            refine sv (.int .i64 (w64 (u189 + 1))) hk rfl rfl rfl fun a hk => ?_
            refine sa _ rfl hk rfl rfl rfl fun a hk => ?_
            show wpList _ _ _ [] _ _
            refine wpList_nil ?_
            obtain rfl := Option.some.inj H
            obtain ⟨m211, hmm211, h201⟩ := h201
            show ∃ n', n' < _ ∧ I198 n' _ _
            refine ⟨m211, hmm211, ?_⟩
            rw [hI198]
            exact ⟨y206, (w64 (u189 + 1)), _, h201, (hk.c 7 rfl (hk.c 11 rfl (hk.c 12 rfl (hk.c 14 rfl hk.k)))), (hs.pick [(1, 1), (5, 5)] rfl), o210, lh208⟩
           ·have hk := hk.lit 70 c204 rfl
            refine cnd_false hk rfl rfl ?_
            refine wp_exit ?_
            obtain rfl := Option.some.inj H
            show R197 _ _
            rw [hR197]
            exact ⟨u185, _, h201.symm, (hk.c 7 rfl (hk.c 11 rfl (hk.c 12 rfl hk.k))), (hs.pick [(1, 1), (5, 5)] rfl), o187, lh188⟩
         ·intro a w hR0
          rw [hR197] at hR0
          obtain ⟨u190, k191, rfl, hk, hs, o192, lh193⟩ := hR0
          have H := HL196
          try dsimp only at H
          refine hK150 _ _ ?_
          apply wp_region_lit
          refine sm _ rfl hk rfl rfl rfl fun a hk => ?_
          refine sv (.int .i64 (w64 (u134 + 1))) hk rfl rfl rfl fun a hk => ?_
          refine sa _ rfl hk rfl rfl rfl fun a hk => ?_
          show wpList _ _ _ [] _ _
          refine wpList_nil ?_
          obtain rfl := Option.some.inj H
          obtain ⟨m212, hmm212, h146⟩ := h146
          show ∃ n', n' < _ ∧ I143 n' _ _
          refine ⟨m212, hmm212, ?_⟩
          rw [hI143]
          exact ⟨u190, (w64 (u134 + 1)), _, h146, (hk.c 7 rfl (hk.c 11 rfl (hk.c 12 rfl hk.k))), (hs.pick [(1, 1), (5, 5)] rfl), o192, lh193⟩
       ·have hk := hk.lit 53 c149 rfl
        refine cnd_false hk rfl rfl ?_
        refine wp_exit ?_
        obtain rfl := Option.some.inj H
        show R142 _ _
        rw [hR142]
        exact ⟨u130, _, h146.symm, (hk.c 7 rfl (hk.c 11 rfl hk.k)), (hs.pick [(1, 1), (5, 5)] rfl), o132, lh133⟩
     ·intro a w hR0
      rw [hR142] at hR0
      obtain ⟨u135, k136, rfl, hk, hs, o137, lh138⟩ := hR0
      have H := HL141
      try dsimp only at H
      refine hK126 _ _ ?_
      have hs := hs.pick [(1, 1), (5, 5)] rfl
      apply wp_seq_k; intro K213 hK213
      apply wp_region_lit
      refine sbs0 9 (Lay.int .u8) hs rfl hk rfl rfl un22 sz5 fun b214 k215 w a hk o216 hs => ?_
      refine sa _ rfl hk rfl rfl rfl fun a hk => ?_
      show wpList _ _ _ [] _ _
      refine wpList_nil ?_
      refine hK213 _ _ ?_
      apply wp_seq_k; intro K217 hK217
      apply wp_seq_k; intro K218 hK218
      apply wp_region_lit
      refine sa _ rfl hk rfl rfl rfl fun a hk => ?_
      show wpList _ _ _ [] _ _
      refine wpList_nil ?_
      refine hK218 _ _ ?_
      obtain ⟨o236, h237, HL238⟩ := bind_some H
      clear H
      obtain ⟨R239, hR239⟩ : ∃ R : Act → World → Prop, R = fun a w => ∃ (u231 : List Int) (A234 : Option Addr) (p235 : Nat) (k232 : Chunk), o236 = .out u231 ∧ Kn [(15, (.slice A234 u231.length p235))] 105 a ∧ Sat [] w0 w [] [(9, k232)] ∧ Own (Lay.int .u8) 5 A234 p235 u231 k232 := ⟨_, rfl⟩
      refine wp_cutq R239 ?_ ?_
      ·refine wp_block ?_
       obtain ⟨fu241, h237⟩ := loopO_some h237
       obtain ⟨I240, hI240⟩ : ∃ I : Nat → Act → World → Prop, I = fun fu a w => ∃ (u226 : List Int) (u225 : Int) (A229 : Option Addr) (p230 : Nat) (k227 : Chunk), loopN (fun s => spec_l02Block.s6 u94 u135 s.1 s.2) fu (u226, u225) = some o236 ∧ Kn [(7, (.pointer (some ⟨b4, 0, none⟩))), (11, (.pointer (some ⟨b120, 0, none⟩))), (15, (.slice A229 u226.length p230)), (16, (.int .i64 u225))] 105 a ∧ Sat [] w0 w [] [(1, k95), (5, k136), (9, k227)] ∧ Own (Lay.int .u8) 5 A229 p230 u226 k227 := ⟨_, rfl⟩
       refine wp_loop_ghost I240 fu241 ?_ ?_
       ·rw [hI240]
        exact ⟨([] : List Int), 0, (some ⟨b214, 0, none⟩), 0, _, h237, (hk.c 7 rfl (hk.c 11 rfl (hk.c 15 rfl (hk.c 16 rfl hk.k)))), (hs.pick [(1, 1), (5, 5), (9, 9)] rfl), o216⟩
       ·clear h237 hk hs
        intro fu241 a w hI0
        rw [hI240] at hI0
        obtain ⟨u226, u225, A229, p230, k227, hi, hk, hs, o228⟩ := hI0
        obtain ⟨x242, H, h243⟩ := loop_round hi
        try dsimp only at H
        unfold spec_l02Block.s6 at H
        apply wp_seq_k; intro K244 hK244
        apply wp_seq_k; intro K245 hK245
        apply wp_region_lit
        refine sm _ rfl hk rfl rfl rfl fun a hk => ?_
        refine sv (.bool (decide (u225 < 16))) hk rfl rfl rfl fun a hk => ?_
        show wpList _ _ _ [] _ _
        refine wpList_nil ?_
        refine hK245 _ _ ?_
        rcases cond_some H with ⟨c246, H⟩ | ⟨c246, H⟩
        ·have hk := hk.lit 90 c246 rfl
         refine cnd_true hk rfl rfl ?_
         refine wp_skip ?_
         refine hK244 _ _ ?_
         have hs := hs.pick [(1, 1), (5, 5), (9, 9)] rfl
         apply wp_seq_k; intro K247 hK247
         refine wp_block ?_
         refine wp_region_tree (.q 0 (.q 1 (.q 2 (.q 3 (.alt 4 (.alt 5 (.alt 6 (.alt 7 (.alt 8 (.alt 9 (.last 10) .stop) .stop) .stop) .stop) .stop) .stop))))) mo (by kernel_rfl) (hs.pick [(1, 1), (5, 5)] rfl) fun _ => ?_
         have hs := hs.drew
         refine tqst (.slice A229 u226.length p230) hk rfl rfl rfl rfl (fun w hs => sm _ rfl hk rfl rfl rfl fun a hk => qe hk) fun a hk => ?_
         refine tqst (.int .i64 u225) hk rfl rfl rfl rfl (fun w hs => sm _ rfl hk rfl rfl rfl fun a hk => qe hk) fun a hk => ?_
         rcases ite_some H with ⟨c249, H⟩ | ⟨_, H⟩
         rotate_left
         ·cases H
         obtain ⟨b250, q251, hAc249⟩ := (o137.view).some_ u225 c249.1 (by rw [lh138]; exact c249.2)
         refine tqst (.pointer (some (padd (some ⟨b120, 0, none⟩) (u225.toNat * 1)))) hk rfl rfl rfl rfl (fun w hs => sia rfl hk rfl rfl rfl rfl un131 sz3 c249.1 c249.2 hAc249 fun a hk => qe hk) fun a hk => ?_
         obtain ⟨_, rfl, e252⟩ := (o137.view).at_ 0 u225 c249.1 (by rw [lh138]; exact c249.2)
         refine tqst (.int .i64 (u135.getD u225.toNat 0)) hk rfl rfl rfl rfl (fun w hs => sl (v := (.int .i64 (u135.getD u225.toNat 0))) rfl hk rfl rfl rfl ag3 ((e252 0 _ rfl).cell (hs.hasG (k := 5) rfl)) fun a hk => qe hk) fun a hk => ?_
         refine tsst hk rfl rfl (fun K_r248_4 hK_r248_4 w hF => ?_) wt_stop
         have hs := hs.f hF
         refine sm _ rfl hk rfl rfl rfl fun a hk => ?_
         refine se (hs.pick [(1, 1), (5, 5)] rfl) hk (hK_r248_4 _ _ ?_)
         refine tsst hk rfl rfl (fun K_r248_5 hK_r248_5 w hF => ?_) wt_stop
         have hs := hs.f hF
         rcases ite_some H with ⟨c253, H⟩ | ⟨_, H⟩
         rotate_left
         ·cases H
         obtain ⟨b254, q255, hAc253⟩ := (o96.view).some_ u225 c253.1 (by rw [lh97]; exact c253.2)
         refine sia rfl hk rfl rfl rfl rfl un131 sz3 c253.1 c253.2 hAc253 fun a hk => ?_
         refine se (hs.pick [(1, 1), (5, 5)] rfl) hk (hK_r248_5 _ _ ?_)
         refine tsst hk rfl rfl (fun K_r248_6 hK_r248_6 w hF => ?_) wt_stop
         have hs := hs.f hF
         obtain ⟨_, rfl, e256⟩ := (o96.view).at_ 0 u225 c253.1 (by rw [lh97]; exact c253.2)
         refine sl (v := (.int .i64 (u94.getD u225.toNat 0))) rfl hk rfl rfl rfl ag3 ((e256 0 _ rfl).cell (hs.hasG (k := 1) rfl)) fun a hk => ?_
         refine se (hs.pick [(1, 1), (5, 5)] rfl) hk (hK_r248_6 _ _ ?_)
         refine tsst hk rfl rfl (fun K_r248_7 hK_r248_7 w hF => ?_) wt_stop
         have hs := hs.f hF
         refine sv (.int .i64 (w64 ((u135.getD u225.toNat 0) + (u94.getD u225.toNat 0)))) hk rfl rfl rfl fun a hk => ?_
         refine se (hs.pick [(1, 1), (5, 5)] rfl) hk (hK_r248_7 _ _ ?_)
         refine tsst hk rfl rfl (fun K_r248_8 hK_r248_8 w hF => ?_) wt_stop
         have hs := hs.f hF
         refine sv (.int .i64 (IntKind.wrap .i64 ((BitVec.ofInt 64 (w64 ((u135.getD u225.toNat 0) + (u94.getD u225.toNat 0))) &&& BitVec.ofInt 64 4294967295).toNat : Int))) hk rfl rfl rfl fun a hk => ?_
         refine se (hs.pick [(1, 1), (5, 5)] rfl) hk (hK_r248_8 _ _ ?_)
         refine tsst hk rfl rfl (fun K_r248_9 hK_r248_9 w hF => ?_) wt_stop
         have hs := hs.f hF
         obtain ⟨y257, h258, H⟩ := bind_some H
         refine sc rfl en134 hk rfl rfl rfl (spec_l02Bytes_t _ A229 p230 u226 _ o228 (IntKind.wrap .i64 ((BitVec.ofInt 64 (w64 ((u135.getD u225.toNat 0) + (u94.getD u225.toNat 0))) &&& BitVec.ofInt 64 4294967295).toNat : Int)) ((hs.hand [(1, 9)] rfl).dpick [] rfl) _ h258) ?_
         rintro _ w ⟨A259, p260, k261, rfl, o262, hG⟩ a hk
         have hs := hs.back [(1, 9)] rfl hG [12] rfl
         refine se (hs.pick [(1, 1), (5, 5)] rfl) hk (hK_r248_9 _ _ ?_)
         refine tlst hk rfl rfl fun K_r248_10 hK_r248_10 w hF => ?_
         have hs := hs.f hF
         refine sa _ rfl hk rfl rfl rfl fun a hk => ?_
         refine se trivial hk (hK_r248_10 _ _ fun w hF => ?_)
         have hs := hs.f hF
         refine hK247 _ _ ?_
         apply wp_region_lit
         refine sm _ rfl hk rfl rfl rfl fun a hk => ?_
         refine sv (.int .i64 (w64 (u225 + 1))) hk rfl rfl rfl fun a hk => ?_
         refine sa _ rfl hk rfl rfl rfl fun a hk => ?_
         show wpList _ _ _ [] _ _
         refine wpList_nil ?_
         obtain rfl := Option.some.inj H
         obtain ⟨m263, hmm263, h243⟩ := h243
         show ∃ n', n' < _ ∧ I240 n' _ _
         refine ⟨m263, hmm263, ?_⟩
         rw [hI240]
         exact ⟨y257, (w64 (u225 + 1)), A259, p260, _, h243, (hk.c 7 rfl (hk.c 11 rfl (hk.c 15 rfl (hk.c 16 rfl hk.k)))), (hs.pick [(1, 1), (5, 5), (9, 12)] rfl), o262⟩
        ·have hk := hk.lit 90 c246 rfl
         refine cnd_false hk rfl rfl ?_
         refine wp_exit ?_
         obtain rfl := Option.some.inj H
         show R239 _ _
         rw [hR239]
         exact ⟨u226, A229, p230, _, h243.symm, (hk.c 15 rfl hk.k), (hs.pick [(9, 9)] rfl), o228⟩
      ·intro a w hR0
       rw [hR239] at hR0
       obtain ⟨u231, A234, p235, k232, rfl, hk, hs, o233⟩ := hR0
       have H := HL238
       try dsimp only at H
       refine hK217 _ _ ?_
       apply wp_seq_k; intro K264 hK264
       apply wp_region_lit
       refine sm _ rfl hk rfl rfl rfl fun a hk => ?_
       refine sbt (xs := u231) rfl hk rfl rfl rfl rfl un22 un5 un9 o233.view (hs.hasG (k := 9) rfl) fun a hk => ?_
       refine sa _ rfl hk rfl rfl rfl fun a hk => ?_
       show wpList _ _ _ [] _ _
       refine wpList_nil ?_
       refine hK264 _ _ ?_
       have hs := hs.pick [] rfl
       refine wp_ret ?_
       obtain rfl := Option.some.inj H
       exact fin hk _ [(.string (strOfNums u231))] rfl ⟨rfl, trivial⟩ ⟨rfl, (hs.pick [] rfl).dnil⟩

noncomputable def spec_l02Xor.s0 (x0 : ByteArray) (x1 : ByteArray) (x2 : Int) (x3 : ByteArray) (u17 : List Int) (u15 : ByteArray) (u16 : Int) : Option (((List Int) × ByteArray × Int) ⊕ Ex ((List Int)) (ByteArray)) :=
  (bif (decide (u16 < (x3.size : Int))) then (((bif ((Int.tmod u16 64) == 0) then ((spec_l02Block.f x0 x1 (w64 (x2 + (IntKind.wrap .i64 (Int.tdiv u16 64))))).bind fun y48 => (some y48)) else (some u15)) : Option (ByteArray)).bind fun u42 => (if 0 ≤ u16 ∧ u16 < (x3.size : Int) then (if 0 ≤ (Int.tmod u16 64) ∧ (Int.tmod u16 64) < (u42.size : Int) then (if u17.length + ([(IntKind.wrap .u8 ((BitVec.ofInt 8 (byteAt x3 u16) ^^^ BitVec.ofInt 8 (byteAt u42 (Int.tmod u16 64))).toNat : Int))]).length ≤ 1073741824 then (some (.inl ((u17 ++ ([(IntKind.wrap .u8 ((BitVec.ofInt 8 (byteAt x3 u16) ^^^ BitVec.ofInt 8 (byteAt u42 (Int.tmod u16 64))).toNat : Int))])), u42, (w64 (u16 + 1))))) else none) else none) else none)) else (some (.inr (.out u17))))
noncomputable def spec_l02Xor.f (x0 : ByteArray) (x1 : ByteArray) (x2 : Int) (x3 : ByteArray) : Option (ByteArray) :=
  ((loopO (fun s => spec_l02Xor.s0 x0 x1 x2 x3 s.1 s.2.1 s.2.2) (([] : List Int), (⟨#[]⟩ : ByteArray), 0)).bind fun o => match o with | .out u22 => (some (strOfNums u22)) | .ret r => (some r))
set_option maxRecDepth 100000 in
set_option maxHeartbeats 0 in
theorem spec_l02Xor_t (w0 : World) (x0 : ByteArray) (x1 : ByteArray) (x2 : Int) (x3 : ByteArray) (r : ByteArray) (H : spec_l02Xor.f x0 x1 x2 x3 = some r) :
    Calls Try.prog 63 #[.string x0, .string x1, .int .i64 x2, .string x3] w0 (Ret (fun v w => v = .string r ∧ Sat [] w0 w [] [])) := by
  have hs : Sat [] w0 w0 [] [] := Sat.init w0 [] [] (by simp) (by simp) List.nodup_nil (by simp [blks])
  unfold spec_l02Xor.f at H
  refine enter Try.func63 rfl Try.ntmps63 rfl fun a hk => ?_
  apply wp_seq_k; intro K1 hK1
  apply wp_region_lit
  refine sa _ rfl hk rfl rfl rfl fun a hk => ?_
  show wpList _ _ _ [] _ _
  refine wpList_nil ?_
  refine hK1 _ _ ?_
  apply wp_seq_k; intro K2 hK2
  apply wp_region_lit
  refine sbs0 1 (Lay.int .u8) hs rfl hk rfl rfl un22 sz5 fun b3 k4 w a hk o5 hs => ?_
  refine sa _ rfl hk rfl rfl rfl fun a hk => ?_
  show wpList _ _ _ [] _ _
  refine wpList_nil ?_
  refine hK2 _ _ ?_
  apply wp_seq_k; intro K6 hK6
  apply wp_region_lit
  refine sa _ rfl hk rfl rfl rfl fun a hk => ?_
  show wpList _ _ _ [] _ _
  refine wpList_nil ?_
  refine hK6 _ _ ?_
  apply wp_seq_k; intro K7 hK7
  apply wp_seq_k; intro K8 hK8
  apply wp_region_lit
  refine sa _ rfl hk rfl rfl rfl fun a hk => ?_
  show wpList _ _ _ [] _ _
  refine wpList_nil ?_
  refine hK8 _ _ ?_
  have hs := hs.pick [(1, 1)] rfl
  obtain ⟨o27, h28, HL29⟩ := bind_some H
  clear H
  obtain ⟨R30, hR30⟩ : ∃ R : Act → World → Prop, R = fun a w => ∃ (u22 : List Int) (A25 : Option Addr) (p26 : Nat) (k23 : Chunk), o27 = .out u22 ∧ Kn [(9, (.slice A25 u22.length p26))] 42 a ∧ Sat [] w0 w [] [(1, k23)] ∧ Own (Lay.int .u8) 5 A25 p26 u22 k23 := ⟨_, rfl⟩
  refine wp_cutq R30 ?_ ?_
  ·refine wp_block ?_
   obtain ⟨fu32, h28⟩ := loopO_some h28
   obtain ⟨I31, hI31⟩ : ∃ I : Nat → Act → World → Prop, I = fun fu a w => ∃ (u17 : List Int) (u15 : ByteArray) (u16 : Int) (A20 : Option Addr) (p21 : Nat) (k18 : Chunk), loopN (fun s => spec_l02Xor.s0 x0 x1 x2 x3 s.1 s.2.1 s.2.2) fu (u17, u15, u16) = some o27 ∧ Kn [(0, (.string x0)), (1, (.string x1)), (2, (.int .i64 x2)), (3, (.string x3)), (9, (.slice A20 u17.length p21)), (10, (.string u15)), (11, (.int .i64 u16))] 42 a ∧ Sat [] w0 w [] [(1, k18)] ∧ Own (Lay.int .u8) 5 A20 p21 u17 k18 := ⟨_, rfl⟩
   refine wp_loop_ghost I31 fu32 ?_ ?_
   ·rw [hI31]
    exact ⟨([] : List Int), (⟨#[]⟩ : ByteArray), 0, (some ⟨b3, 0, none⟩), 0, _, h28, (hk.c 0 rfl (hk.c 1 rfl (hk.c 2 rfl (hk.c 3 rfl (hk.c 9 rfl (hk.c 10 rfl (hk.c 11 rfl hk.k))))))), (hs.pick [(1, 1)] rfl), o5⟩
   ·clear h28 hk hs
    intro fu32 a w hI0
    rw [hI31] at hI0
    obtain ⟨u17, u15, u16, A20, p21, k18, hi, hk, hs, o19⟩ := hI0
    obtain ⟨x33, H, h34⟩ := loop_round hi
    try dsimp only at H
    unfold spec_l02Xor.s0 at H
    apply wp_seq_k; intro K35 hK35
    apply wp_seq_k; intro K36 hK36
    apply wp_region_lit
    refine sm _ rfl hk rfl rfl rfl fun a hk => ?_
    refine sm _ rfl hk rfl rfl rfl fun a hk => ?_
    refine sles rfl hk rfl rfl rfl un9 fun a hk => ?_
    refine sv (.bool (decide (u16 < (x3.size : Int)))) hk rfl rfl rfl fun a hk => ?_
    show wpList _ _ _ [] _ _
    refine wpList_nil ?_
    refine hK36 _ _ ?_
    rcases cond_some H with ⟨c37, H⟩ | ⟨c37, H⟩
    ·have hk := hk.lit 16 c37 rfl
     refine cnd_true hk rfl rfl ?_
     refine wp_skip ?_
     refine hK35 _ _ ?_
     apply wp_seq_k; intro K38 hK38
     refine wp_block ?_
     apply wp_seq_k; intro K39 hK39
     apply wp_seq_k; intro K40 hK40
     apply wp_region_lit
     refine sm _ rfl hk rfl rfl rfl fun a hk => ?_
     refine sv (.int .i64 (Int.tmod u16 64)) hk rfl rfl rfl fun a hk => ?_
     refine sv (.bool ((Int.tmod u16 64) == 0)) hk rfl rfl rfl fun a hk => ?_
     show wpList _ _ _ [] _ _
     refine wpList_nil ?_
     refine hK40 _ _ ?_
     obtain ⟨o43, h44, HL45⟩ := bind_some H
     clear H
     obtain ⟨R46, hR46⟩ : ∃ R : Act → World → Prop, R = fun a w => ∃ (u42 : ByteArray), u42 = o43 ∧ Kn [(0, (.string x0)), (1, (.string x1)), (2, (.int .i64 x2)), (3, (.string x3)), (9, (.slice A20 u17.length p21)), (10, (.string u42)), (11, (.int .i64 u16))] 42 a ∧ Sat [] w0 w [] [(1, k18)] := ⟨_, rfl⟩
     refine wp_cutq R46 ?_ ?_
     ·have H := h44
      rcases cond_some H with ⟨c47, H⟩ | ⟨c47, H⟩
      ·have hk := hk.lit 21 c47 rfl
       refine cnd_true hk rfl rfl ?_
       apply wp_region_lit
       refine sm _ rfl hk rfl rfl rfl fun a hk => ?_
       refine sm _ rfl hk rfl rfl rfl fun a hk => ?_
       refine sm _ rfl hk rfl rfl rfl fun a hk => ?_
       refine sm _ rfl hk rfl rfl rfl fun a hk => ?_
       refine sv (.int .i64 (IntKind.wrap .i64 (Int.tdiv u16 64))) hk rfl rfl rfl fun a hk => ?_
       refine sv (.int .i64 (w64 (x2 + (IntKind.wrap .i64 (Int.tdiv u16 64))))) hk rfl rfl rfl fun a hk => ?_
       obtain ⟨y48, h49, H⟩ := bind_some H
       refine sc rfl en108 hk rfl rfl rfl (spec_l02Block_t _ x0 x1 (w64 (x2 + (IntKind.wrap .i64 (Int.tdiv u16 64)))) _ h49) ?_
       rintro _ w ⟨rfl, hG⟩ a hk
       have hs := hs.call0 hG
       refine sa _ rfl hk rfl rfl rfl fun a hk => ?_
       show wpList _ _ _ [] _ _
       refine wpList_nil ?_
       obtain rfl := Option.some.inj H
       show R46 _ _
       rw [hR46]
       exact ⟨y48, rfl, (hk.c 0 rfl (hk.c 1 rfl (hk.c 2 rfl (hk.c 3 rfl (hk.c 9 rfl (hk.c 10 rfl (hk.c 11 rfl hk.k))))))), (hs.pick [(1, 1)] rfl)⟩
      ·have hk := hk.lit 21 c47 rfl
       refine cnd_false hk rfl rfl ?_
       refine wp_skip ?_
       obtain rfl := Option.some.inj H
       show R46 _ _
       rw [hR46]
       exact ⟨u15, rfl, (hk.c 0 rfl (hk.c 1 rfl (hk.c 2 rfl (hk.c 3 rfl (hk.c 9 rfl (hk.c 10 rfl (hk.c 11 rfl hk.k))))))), (hs.pick [(1, 1)] rfl)⟩
     ·intro a w hR0
      rw [hR46] at hR0
      obtain ⟨u42, rfl, hk, hs⟩ := hR0
      have H := HL45
      try dsimp only at H
      refine hK39 _ _ ?_
      have hs := hs.pick [(1, 1)] rfl
      refine wp_region_tree (.q 0 (.q 1 (.q 2 (.q 3 (.q 4 (.alt 5 (.alt 6 (.alt 7 (.alt 8 (.alt 9 (.alt 10 (.last 11) .stop) .stop) .stop) .stop) .stop) .stop)))))) mo (by kernel_rfl) (hs.pick [] rfl) fun _ => ?_
      have hs := hs.drew
      refine tqst (.slice A20 u17.length p21) hk rfl rfl rfl rfl (fun w hs => sm _ rfl hk rfl rfl rfl fun a hk => qe hk) fun a hk => ?_
      refine tqst (.string x3) hk rfl rfl rfl rfl (fun w hs => sm _ rfl hk rfl rfl rfl fun a hk => qe hk) fun a hk => ?_
      refine tqst (.int .i64 u16) hk rfl rfl rfl rfl (fun w hs => sm _ rfl hk rfl rfl rfl fun a hk => qe hk) fun a hk => ?_
      rcases ite_some H with ⟨c51, H⟩ | ⟨_, H⟩
      rotate_left
      ·cases H
      refine tqst (.int .u8 (byteAt x3 u16)) hk rfl rfl rfl rfl (fun w hs => six rfl hk rfl rfl rfl rfl un9 c51.1 c51.2 fun a hk => qe hk) fun a hk => ?_
      refine tqst (.string u42) hk rfl rfl rfl rfl (fun w hs => sm _ rfl hk rfl rfl rfl fun a hk => qe hk) fun a hk => ?_
      refine tsst hk rfl rfl (fun K_r50_5 hK_r50_5 w hF => ?_) wt_stop
      have hs := hs.f hF
      refine sm _ rfl hk rfl rfl rfl fun a hk => ?_
      refine se (hs.pick [] rfl) hk (hK_r50_5 _ _ ?_)
      refine tsst hk rfl rfl (fun K_r50_6 hK_r50_6 w hF => ?_) wt_stop
      have hs := hs.f hF
      refine sv (.int .i64 (Int.tmod u16 64)) hk rfl rfl rfl fun a hk => ?_
      refine se (hs.pick [] rfl) hk (hK_r50_6 _ _ ?_)
      refine tsst hk rfl rfl (fun K_r50_7 hK_r50_7 w hF => ?_) wt_stop
      have hs := hs.f hF
      rcases ite_some H with ⟨c52, H⟩ | ⟨_, H⟩
      rotate_left
      ·cases H
      refine six rfl hk rfl rfl rfl rfl un9 c52.1 c52.2 fun a hk => ?_
      refine se (hs.pick [] rfl) hk (hK_r50_7 _ _ ?_)
      refine tsst hk rfl rfl (fun K_r50_8 hK_r50_8 w hF => ?_) wt_stop
      have hs := hs.f hF
      refine sv (.int .u8 (IntKind.wrap .u8 ((BitVec.ofInt 8 (byteAt x3 u16) ^^^ BitVec.ofInt 8 (byteAt u42 (Int.tmod u16 64))).toNat : Int))) hk rfl rfl rfl fun a hk => ?_
      refine se (hs.pick [] rfl) hk (hK_r50_8 _ _ ?_)
      refine tsst hk rfl rfl (fun K_r50_9 hK_r50_9 w hF => ?_) wt_stop
      have hs := hs.f hF
      refine sbs (L := (Lay.int .u8)) (pv := [(0, (.int .u8 (IntKind.wrap .u8 ((BitVec.ofInt 8 (byteAt x3 u16) ^^^ BitVec.ofInt 8 (byteAt u42 (Int.tmod u16 64))).toNat : Int))))]) (xs := [(IntKind.wrap .u8 ((BitVec.ofInt 8 (byteAt x3 u16) ^^^ BitVec.ofInt 8 (byteAt u42 (Int.tmod u16 64))).toNat : Int))]) (ess := [[.int .u8 (IntKind.wrap .u8 ((BitVec.ofInt 8 (byteAt x3 u16) ^^^ BitVec.ofInt 8 (byteAt u42 (Int.tmod u16 64))).toNat : Int))]]) 5 hs rfl hk rfl rfl rfl un22 (bs5_1 (IntKind.wrap .u8 ((BitVec.ofInt 8 (byteAt x3 u16) ^^^ BitVec.ofInt 8 (byteAt u42 (Int.tmod u16 64))).toNat : Int))) (AllOwn.cons0 ⟨rfl, rfl⟩ AllOwn.nil) rfl rfl rfl fun b53 k54 w a hk o55 hs => ?_
      refine se (hs.pick [] rfl) hk (hK_r50_9 _ _ ?_)
      refine tsst hk rfl rfl (fun K_r50_10 hK_r50_10 w hF => ?_) wt_stop
      have hs := hs.f hF
      rcases ite_some H with ⟨c56, H⟩ | ⟨_, H⟩
      rotate_left
      ·cases H
      refine sap 1 (xs := u17) (ys := [(IntKind.wrap .u8 ((BitVec.ofInt 8 (byteAt x3 u16) ^^^ BitVec.ofInt 8 (byteAt u42 (Int.tmod u16 64))).toNat : Int))]) (flat_flat : ((Lay.int .u8)).Flat) hs rfl o19 o55.view (hs.hasG (k := 5) rfl) rfl hk rfl rfl rfl rfl rfl rfl un22 mk5 rfl rfl rfl c56 fun A57 p58 k59 w a hk o60 hs => ?_
      refine se (hs.pick [] rfl) hk (hK_r50_10 _ _ ?_)
      refine tlst hk rfl rfl fun K_r50_11 hK_r50_11 w hF => ?_
      have hs := hs.f hF
      refine sa _ rfl hk rfl rfl rfl fun a hk => ?_
      refine se trivial hk (hK_r50_11 _ _ fun w hF => ?_)
      have hs := hs.f hF
      refine hK38 _ _ ?_
      apply wp_region_lit
      refine sm _ rfl hk rfl rfl rfl fun a hk => ?_
      refine sv (.int .i64 (w64 (u16 + 1))) hk rfl rfl rfl fun a hk => ?_
      refine sa _ rfl hk rfl rfl rfl fun a hk => ?_
      show wpList _ _ _ [] _ _
      refine wpList_nil ?_
      obtain rfl := Option.some.inj H
      obtain ⟨m61, hmm61, h34⟩ := h34
      show ∃ n', n' < _ ∧ I31 n' _ _
      refine ⟨m61, hmm61, ?_⟩
      rw [hI31]
      exact ⟨(u17 ++ ([(IntKind.wrap .u8 ((BitVec.ofInt 8 (byteAt x3 u16) ^^^ BitVec.ofInt 8 (byteAt u42 (Int.tmod u16 64))).toNat : Int))])), u42, (w64 (u16 + 1)), A57, p58, _, h34, (hk.c 0 rfl (hk.c 1 rfl (hk.c 2 rfl (hk.c 3 rfl (hk.c 9 rfl (hk.c 10 rfl (hk.c 11 rfl hk.k))))))), (hs.pick [(1, 1)] rfl), o60⟩
    ·have hk := hk.lit 16 c37 rfl
     refine cnd_false hk rfl rfl ?_
     refine wp_exit ?_
     obtain rfl := Option.some.inj H
     show R30 _ _
     rw [hR30]
     exact ⟨u17, A20, p21, _, h34.symm, (hk.c 9 rfl hk.k), (hs.pick [(1, 1)] rfl), o19⟩
  ·intro a w hR0
   rw [hR30] at hR0
   obtain ⟨u22, A25, p26, k23, rfl, hk, hs, o24⟩ := hR0
   have H := HL29
   try dsimp only at H
   refine hK7 _ _ ?_
   apply wp_seq_k; intro K62 hK62
   apply wp_region_lit
   refine sm _ rfl hk rfl rfl rfl fun a hk => ?_
   refine sbt (xs := u22) rfl hk rfl rfl rfl rfl un22 un5 un9 o24.view (hs.hasG (k := 1) rfl) fun a hk => ?_
   refine sa _ rfl hk rfl rfl rfl fun a hk => ?_
   show wpList _ _ _ [] _ _
   refine wpList_nil ?_
   refine hK62 _ _ ?_
   refine wp_ret ?_
   obtain rfl := Option.some.inj H
   exact fin hk _ [(.string (strOfNums u22))] rfl ⟨rfl, trivial⟩ ⟨rfl, (hs.pick [] rfl).dnil⟩

noncomputable def spec_l03Clamp.s0 (x0 : ByteArray) (u13 : List Int) (u17 : Int) : Option (((List Int) × Int) ⊕ Ex ((List Int)) (ByteArray)) :=
  (bif (decide (u17 < 16)) then (if 0 ≤ u17 ∧ u17 < ((bytesOf (x0.extract 0 (16 : Int).toNat)).length : Int) then (if 0 ≤ u17 ∧ u17 < ((bytesOf (x0.extract 0 (16 : Int).toNat)).length : Int) then (some (.inl ((u13.set u17.toNat (IntKind.wrap .u8 ((BitVec.ofInt 8 (u13.getD u17.toNat 0) &&& BitVec.ofInt 8 15).toNat : Int))), (w64 (u17 + 4))))) else none) else none) else (some (.inr (.out u13))))
noncomputable def spec_l03Clamp.s1 (x0 : ByteArray) (u49 : List Int) (u53 : Int) : Option (((List Int) × Int) ⊕ Ex ((List Int)) (ByteArray)) :=
  (bif (decide (u53 < 16)) then (if 0 ≤ u53 ∧ u53 < ((bytesOf (x0.extract 0 (16 : Int).toNat)).length : Int) then (if 0 ≤ u53 ∧ u53 < ((bytesOf (x0.extract 0 (16 : Int).toNat)).length : Int) then (some (.inl ((u49.set u53.toNat (IntKind.wrap .u8 ((BitVec.ofInt 8 (u49.getD u53.toNat 0) &&& BitVec.ofInt 8 252).toNat : Int))), (w64 (u53 + 4))))) else none) else none) else (some (.inr (.out u49))))
noncomputable def spec_l03Clamp.f (x0 : ByteArray) : Option (ByteArray) :=
  (if 0 ≤ (16 : Int) ∧ (16 : Int) ≤ (x0.size : Int) then (if (x0.extract 0 (16 : Int).toNat).size ≤ 1073741824 then ((loopO (fun s => spec_l03Clamp.s0 x0 s.1 s.2) ((bytesOf (x0.extract 0 (16 : Int).toNat)), 3)).bind fun o => match o with | .out u18 => ((loopO (fun s => spec_l03Clamp.s1 x0 s.1 s.2) (u18, 4)).bind fun o => match o with | .out u54 => (some (strOfNums u54)) | .ret r => (some r)) | .ret r => (some r)) else none) else none)
set_option maxRecDepth 100000 in
set_option maxHeartbeats 0 in
theorem spec_l03Clamp_t (w0 : World) (x0 : ByteArray) (r : ByteArray) (H : spec_l03Clamp.f x0 = some r) :
    Calls Try.prog 57 #[.string x0] w0 (Ret (fun v w => v = .string r ∧ Sat [] w0 w [] [])) := by
  have hs : Sat [] w0 w0 [] [] := Sat.init w0 [] [] (by simp) (by simp) List.nodup_nil (by simp [blks])
  unfold spec_l03Clamp.f at H
  refine enter Try.func57 rfl Try.ntmps57 rfl fun a hk => ?_
  apply wp_seq_k; intro K1 hK1
  apply wp_region_lit
  refine sa _ rfl hk rfl rfl rfl fun a hk => ?_
  show wpList _ _ _ [] _ _
  refine wpList_nil ?_
  refine hK1 _ _ ?_
  apply wp_seq_k; intro K2 hK2
  apply wp_region_lit
  refine sm _ rfl hk rfl rfl rfl fun a hk => ?_
  rcases ite_some H with ⟨c3, H⟩ | ⟨_, H⟩
  rotate_left
  ·cases H
  refine ssl_h rfl hk rfl rfl rfl rfl un9 c3.1 c3.2 fun a hk => ?_
  rcases ite_some H with ⟨c4, H⟩ | ⟨_, H⟩
  rotate_left
  ·cases H
  refine scb 1 hs rfl hk rfl rfl rfl un9 un22 un5 c4 fun b5 p6 k7 w a hk o8 hs => ?_
  refine sa _ rfl hk rfl rfl rfl fun a hk => ?_
  show wpList _ _ _ [] _ _
  refine wpList_nil ?_
  refine hK2 _ _ ?_
  apply wp_seq_k; intro K9 hK9
  apply wp_seq_k; intro K10 hK10
  apply wp_region_lit
  refine sa _ rfl hk rfl rfl rfl fun a hk => ?_
  show wpList _ _ _ [] _ _
  refine wpList_nil ?_
  refine hK10 _ _ ?_
  obtain ⟨o22, h23, HL24⟩ := bind_some H
  clear H
  obtain ⟨R25, hR25⟩ : ∃ R : Act → World → Prop, R = fun a w => ∃ (u18 : List Int) (k19 : Chunk), o22 = .out u18 ∧ Kn [(3, (.slice (some ⟨b5, 0, none⟩) (bytesOf (x0.extract 0 (16 : Int).toNat)).length p6))] 31 a ∧ Sat [] w0 w [] [(1, k19)] ∧ OwnM (Lay.int .u8) 5 (some ⟨b5, 0, none⟩) p6 u18 k19 ∧ u18.length = (bytesOf (x0.extract 0 (16 : Int).toNat)).length := ⟨_, rfl⟩
  refine wp_cutq R25 ?_ ?_
  ·refine wp_block ?_
   obtain ⟨fu27, h23⟩ := loopO_some h23
   obtain ⟨I26, hI26⟩ : ∃ I : Nat → Act → World → Prop, I = fun fu a w => ∃ (u13 : List Int) (u17 : Int) (k14 : Chunk), loopN (fun s => spec_l03Clamp.s0 x0 s.1 s.2) fu (u13, u17) = some o22 ∧ Kn [(3, (.slice (some ⟨b5, 0, none⟩) (bytesOf (x0.extract 0 (16 : Int).toNat)).length p6)), (4, (.int .i64 u17))] 31 a ∧ Sat [] w0 w [] [(1, k14)] ∧ OwnM (Lay.int .u8) 5 (some ⟨b5, 0, none⟩) p6 u13 k14 ∧ u13.length = (bytesOf (x0.extract 0 (16 : Int).toNat)).length := ⟨_, rfl⟩
   refine wp_loop_ghost I26 fu27 ?_ ?_
   ·rw [hI26]
    exact ⟨(bytesOf (x0.extract 0 (16 : Int).toNat)), 3, _, h23, (hk.c 3 rfl (hk.c 4 rfl hk.k)), (hs.pick [(1, 1)] rfl), o8, rfl⟩
   ·clear h23 hk hs
    intro fu27 a w hI0
    rw [hI26] at hI0
    obtain ⟨u13, u17, k14, hi, hk, hs, o15, lh16⟩ := hI0
    obtain ⟨x28, H, h29⟩ := loop_round hi
    try dsimp only at H
    unfold spec_l03Clamp.s0 at H
    apply wp_seq_k; intro K30 hK30
    apply wp_seq_k; intro K31 hK31
    apply wp_region_lit
    refine sm _ rfl hk rfl rfl rfl fun a hk => ?_
    refine sv (.bool (decide (u17 < 16))) hk rfl rfl rfl fun a hk => ?_
    show wpList _ _ _ [] _ _
    refine wpList_nil ?_
    refine hK31 _ _ ?_
    have hs := hs.pick [(1, 1)] rfl
    rcases cond_some H with ⟨c32, H⟩ | ⟨c32, H⟩
    ·have hk := hk.lit 10 c32 rfl
     refine cnd_true hk rfl rfl ?_
     refine wp_skip ?_
     refine hK30 _ _ ?_
     apply wp_seq_k; intro K33 hK33
     refine wp_block ?_
     apply wp_region_lit
     refine sm _ rfl hk rfl rfl rfl fun a hk => ?_
     refine sm _ rfl hk rfl rfl rfl fun a hk => ?_
     rcases ite_some H with ⟨c34, H⟩ | ⟨_, H⟩
     rotate_left
     ·cases H
     obtain ⟨b35, q36, hAc34⟩ := (o15.view).some_ u17 c34.1 (by rw [lh16]; exact c34.2)
     refine si rfl hk rfl rfl rfl rfl un22 sz5 c34.1 c34.2 hAc34 fun a hk => ?_
     obtain ⟨_, rfl, e37⟩ := (o15.view).at_ 0 u17 c34.1 (by rw [lh16]; exact c34.2)
     refine sl (v := (.int .u8 (u13.getD u17.toNat 0))) rfl hk rfl rfl rfl ag5 ((e37 0 _ rfl).cell (hs.hasG (k := 1) rfl)) fun a hk => ?_
     refine sv (.int .u8 (IntKind.wrap .u8 ((BitVec.ofInt 8 (u13.getD u17.toNat 0) &&& BitVec.ofInt 8 15).toNat : Int))) hk rfl rfl rfl fun a hk => ?_
     rcases ite_some H with ⟨c38, H⟩ | ⟨_, H⟩
     rotate_left
     ·cases H
     obtain ⟨b39, q40, hAc38⟩ := (o15.view).some_ u17 c38.1 (by rw [lh16]; exact c38.2)
     refine si rfl hk rfl rfl rfl rfl un22 sz5 c38.1 c38.2 hAc38 fun a hk => ?_
     refine sob 1 (IntKind.wrap .u8 ((BitVec.ofInt 8 (u13.getD u17.toNat 0) &&& BitVec.ofInt 8 15).toNat : Int)) hs rfl o15 c38.1 (by rw [lh16]; exact c38.2) rfl hk rfl rfl rfl rfl rfl sz5 rfl rfl rfl ⟨rfl, rfl⟩ fun k41 w a hk o42 hs => ?_
     have lh43 : (u13.set u17.toNat (IntKind.wrap .u8 ((BitVec.ofInt 8 (u13.getD u17.toNat 0) &&& BitVec.ofInt 8 15).toNat : Int))).length = (bytesOf (x0.extract 0 (16 : Int).toNat)).length := by rw [List.length_set]; exact lh16
     show wpList _ _ _ [] _ _
     refine wpList_nil ?_
     refine hK33 _ _ ?_
     apply wp_region_lit
     refine sm _ rfl hk rfl rfl rfl fun a hk => ?_
     refine sv (.int .i64 (w64 (u17 + 4))) hk rfl rfl rfl fun a hk => ?_
     refine sa _ rfl hk rfl rfl rfl fun a hk => ?_
     show wpList _ _ _ [] _ _
     refine wpList_nil ?_
     obtain rfl := Option.some.inj H
     obtain ⟨m44, hmm44, h29⟩ := h29
     show ∃ n', n' < _ ∧ I26 n' _ _
     refine ⟨m44, hmm44, ?_⟩
     rw [hI26]
     exact ⟨(u13.set u17.toNat (IntKind.wrap .u8 ((BitVec.ofInt 8 (u13.getD u17.toNat 0) &&& BitVec.ofInt 8 15).toNat : Int))), (w64 (u17 + 4)), _, h29, (hk.c 3 rfl (hk.c 4 rfl hk.k)), (hs.pick [(1, 1)] rfl), o42, lh43⟩
    ·have hk := hk.lit 10 c32 rfl
     refine cnd_false hk rfl rfl ?_
     refine wp_exit ?_
     obtain rfl := Option.some.inj H
     show R25 _ _
     rw [hR25]
     exact ⟨u13, _, h29.symm, (hk.c 3 rfl hk.k), (hs.pick [(1, 1)] rfl), o15, lh16⟩
  ·intro a w hR0
   rw [hR25] at hR0
   obtain ⟨u18, k19, rfl, hk, hs, o20, lh21⟩ := hR0
   have H := HL24
   try dsimp only at H
   refine hK9 _ _ ?_
   have hs := hs.pick [(1, 1)] rfl
   apply wp_seq_k; intro K45 hK45
   apply wp_seq_k; intro K46 hK46
   apply wp_region_lit
   refine sa _ rfl hk rfl rfl rfl fun a hk => ?_
   show wpList _ _ _ [] _ _
   refine wpList_nil ?_
   refine hK46 _ _ ?_
   obtain ⟨o58, h59, HL60⟩ := bind_some H
   clear H
   obtain ⟨R61, hR61⟩ : ∃ R : Act → World → Prop, R = fun a w => ∃ (u54 : List Int) (k55 : Chunk), o58 = .out u54 ∧ Kn [(3, (.slice (some ⟨b5, 0, none⟩) (bytesOf (x0.extract 0 (16 : Int).toNat)).length p6))] 31 a ∧ Sat [] w0 w [] [(1, k55)] ∧ OwnM (Lay.int .u8) 5 (some ⟨b5, 0, none⟩) p6 u54 k55 ∧ u54.length = (bytesOf (x0.extract 0 (16 : Int).toNat)).length := ⟨_, rfl⟩
   refine wp_cutq R61 ?_ ?_
   ·refine wp_block ?_
    obtain ⟨fu63, h59⟩ := loopO_some h59
    obtain ⟨I62, hI62⟩ : ∃ I : Nat → Act → World → Prop, I = fun fu a w => ∃ (u49 : List Int) (u53 : Int) (k50 : Chunk), loopN (fun s => spec_l03Clamp.s1 x0 s.1 s.2) fu (u49, u53) = some o58 ∧ Kn [(3, (.slice (some ⟨b5, 0, none⟩) (bytesOf (x0.extract 0 (16 : Int).toNat)).length p6)), (5, (.int .i64 u53))] 31 a ∧ Sat [] w0 w [] [(1, k50)] ∧ OwnM (Lay.int .u8) 5 (some ⟨b5, 0, none⟩) p6 u49 k50 ∧ u49.length = (bytesOf (x0.extract 0 (16 : Int).toNat)).length := ⟨_, rfl⟩
    refine wp_loop_ghost I62 fu63 ?_ ?_
    ·rw [hI62]
     exact ⟨u18, 4, _, h59, (hk.c 3 rfl (hk.c 5 rfl hk.k)), (hs.pick [(1, 1)] rfl), o20, lh21⟩
    ·clear h59 hk hs
     intro fu63 a w hI0
     rw [hI62] at hI0
     obtain ⟨u49, u53, k50, hi, hk, hs, o51, lh52⟩ := hI0
     obtain ⟨x64, H, h65⟩ := loop_round hi
     try dsimp only at H
     unfold spec_l03Clamp.s1 at H
     apply wp_seq_k; intro K66 hK66
     apply wp_seq_k; intro K67 hK67
     apply wp_region_lit
     refine sm _ rfl hk rfl rfl rfl fun a hk => ?_
     refine sv (.bool (decide (u53 < 16))) hk rfl rfl rfl fun a hk => ?_
     show wpList _ _ _ [] _ _
     refine wpList_nil ?_
     refine hK67 _ _ ?_
     rcases cond_some H with ⟨c68, H⟩ | ⟨c68, H⟩
     ·have hk := hk.lit 20 c68 rfl
      refine cnd_true hk rfl rfl ?_
      refine wp_skip ?_
      refine hK66 _ _ ?_
      apply wp_seq_k; intro K69 hK69
      refine wp_block ?_
      apply wp_region_lit
      refine sm _ rfl hk rfl rfl rfl fun a hk => ?_
      refine sm _ rfl hk rfl rfl rfl fun a hk => ?_
      rcases ite_some H with ⟨c70, H⟩ | ⟨_, H⟩
      rotate_left
      ·cases H
      obtain ⟨b71, q72, hAc70⟩ := (o51.view).some_ u53 c70.1 (by rw [lh52]; exact c70.2)
      refine si rfl hk rfl rfl rfl rfl un22 sz5 c70.1 c70.2 hAc70 fun a hk => ?_
      obtain ⟨_, rfl, e73⟩ := (o51.view).at_ 0 u53 c70.1 (by rw [lh52]; exact c70.2)
      refine sl (v := (.int .u8 (u49.getD u53.toNat 0))) rfl hk rfl rfl rfl ag5 ((e73 0 _ rfl).cell (hs.hasG (k := 1) rfl)) fun a hk => ?_
      refine sv (.int .u8 (IntKind.wrap .u8 ((BitVec.ofInt 8 (u49.getD u53.toNat 0) &&& BitVec.ofInt 8 252).toNat : Int))) hk rfl rfl rfl fun a hk => ?_
      rcases ite_some H with ⟨c74, H⟩ | ⟨_, H⟩
      rotate_left
      ·cases H
      obtain ⟨b75, q76, hAc74⟩ := (o51.view).some_ u53 c74.1 (by rw [lh52]; exact c74.2)
      refine si rfl hk rfl rfl rfl rfl un22 sz5 c74.1 c74.2 hAc74 fun a hk => ?_
      refine sob 1 (IntKind.wrap .u8 ((BitVec.ofInt 8 (u49.getD u53.toNat 0) &&& BitVec.ofInt 8 252).toNat : Int)) hs rfl o51 c74.1 (by rw [lh52]; exact c74.2) rfl hk rfl rfl rfl rfl rfl sz5 rfl rfl rfl ⟨rfl, rfl⟩ fun k77 w a hk o78 hs => ?_
      have lh79 : (u49.set u53.toNat (IntKind.wrap .u8 ((BitVec.ofInt 8 (u49.getD u53.toNat 0) &&& BitVec.ofInt 8 252).toNat : Int))).length = (bytesOf (x0.extract 0 (16 : Int).toNat)).length := by rw [List.length_set]; exact lh52
      show wpList _ _ _ [] _ _
      refine wpList_nil ?_
      refine hK69 _ _ ?_
      have hs := hs.pick [(1, 1)] rfl
      apply wp_region_lit
      refine sm _ rfl hk rfl rfl rfl fun a hk => ?_
      refine sv (.int .i64 (w64 (u53 + 4))) hk rfl rfl rfl fun a hk => ?_
      refine sa _ rfl hk rfl rfl rfl fun a hk => ?_
      show wpList _ _ _ [] _ _
      refine wpList_nil ?_
      obtain rfl := Option.some.inj H
      obtain ⟨m80, hmm80, h65⟩ := h65
      show ∃ n', n' < _ ∧ I62 n' _ _
      refine ⟨m80, hmm80, ?_⟩
      rw [hI62]
      exact ⟨(u49.set u53.toNat (IntKind.wrap .u8 ((BitVec.ofInt 8 (u49.getD u53.toNat 0) &&& BitVec.ofInt 8 252).toNat : Int))), (w64 (u53 + 4)), _, h65, (hk.c 3 rfl (hk.c 5 rfl hk.k)), (hs.pick [(1, 1)] rfl), o78, lh79⟩
     ·have hk := hk.lit 20 c68 rfl
      refine cnd_false hk rfl rfl ?_
      refine wp_exit ?_
      obtain rfl := Option.some.inj H
      show R61 _ _
      rw [hR61]
      exact ⟨u49, _, h65.symm, (hk.c 3 rfl hk.k), (hs.pick [(1, 1)] rfl), o51, lh52⟩
   ·intro a w hR0
    rw [hR61] at hR0
    obtain ⟨u54, k55, rfl, hk, hs, o56, lh57⟩ := hR0
    have H := HL60
    try dsimp only at H
    refine hK45 _ _ ?_
    apply wp_seq_k; intro K81 hK81
    apply wp_region_lit
    refine sm _ rfl hk rfl rfl rfl fun a hk => ?_
    refine sbt (xs := u54) rfl hk rfl rfl lh57.symm rfl un22 un5 un9 o56.view (hs.hasG (k := 1) rfl) fun a hk => ?_
    refine sa _ rfl hk rfl rfl rfl fun a hk => ?_
    show wpList _ _ _ [] _ _
    refine wpList_nil ?_
    refine hK81 _ _ ?_
    refine wp_ret ?_
    obtain rfl := Option.some.inj H
    exact fin hk _ [(.string (strOfNums u54))] rfl ⟨rfl, trivial⟩ ⟨rfl, (hs.pick [] rfl).dnil⟩

end Go.Proofs.Yteklgnhfgdhdiaa
