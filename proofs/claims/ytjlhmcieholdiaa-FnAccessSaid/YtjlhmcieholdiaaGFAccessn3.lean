/- Further functions. -/
import Derived.Test.YtjlhmcieholdiaaGFAccessn2
namespace Go.Proofs.Ytjlhmcieholdiaa
open Go Go.Z Go.Proofs Go.MuLone Go.ChangeShapes Go.WideShapes Go.ChangeAt Go.RowKit
set_option linter.unusedVariables false
set_option linter.unusedSimpArgs false
noncomputable def impl_Oram_own.s0 (x0 : S_Oram) (u11 : Int) (u17 : List (List S_Block)) : Option ((Int × (List (List S_Block))) ⊕ Ex ((List (List S_Block))) (S_Oram)) :=
  (bif (decide (u11 < (x0.Buckets.length : Int))) then (if 0 ≤ u11 ∧ u11 < (x0.Buckets.length : Int) then ((slices_Clone_impl_Block_impl_Block.f (x0.Buckets.getD u11.toNat [])).bind fun y48 => (if u17.length + ([y48]).length ≤ 1073741824 then (some (.inl ((w64 (u11 + 1)), (u17 ++ ([y48]))))) else none)) else none) else (some (.inr (.out u17))))
noncomputable def impl_Oram_own.f (x0 : S_Oram) : Option (S_Oram) :=
  ((slices_Clone_int_int.f x0.Pos).bind fun y_r5_2_1 => ((slices_Clone_impl_Block_impl_Block.f x0.Stash).bind fun y_r5_5_1 => ((loopO (fun s => impl_Oram_own.s0 x0 s.1 s.2) (0, ([] : List (List S_Block)))).bind fun o => match o with | .out u22 => (some (⟨y_r5_2_1, y_r5_5_1, u22⟩ : S_Oram)) | .ret r => (some r))))
set_option maxRecDepth 100000 in
set_option maxHeartbeats 0 in
theorem impl_Oram_own_t (w0 : World) (x0 : S_Oram) (A0_0 : Option Addr) (p0_0 : Nat) (k0_0 : Chunk) (v0_0 : View (Lay.int .i64) A0_0 p0_0 x0.Pos k0_0) (w0_0 : Has w0 k0_0) (A0_1 : Option Addr) (p0_1 : Nat) (k0_1 : Chunk) (v0_1 : View L_Block A0_1 p0_1 x0.Stash k0_1) (w0_1 : Has w0 k0_1) (A0_2 : Option Addr) (p0_2 : Nat) (k0_2 : Chunk) (v0_2 : View (Lay.sl L_Block 102) A0_2 p0_2 x0.Buckets k0_2) (w0_2 : Has w0 k0_2) (r : S_Oram) (H : impl_Oram_own.f x0 = some r) :
    Calls Try.prog 129 #[.agg #[.slice A0_0 x0.Pos.length p0_0, .slice A0_1 x0.Stash.length p0_1, .slice A0_2 x0.Buckets.length p0_2]] w0 (Ret (fun v w => ∃ (A0 : Option Addr) (p0 : Nat) (k0 : Chunk), ∃ (A1 : Option Addr) (p1 : Nat) (k1 : Chunk), ∃ (A2 : Option Addr) (p2 : Nat) (k2 : Chunk), v = .agg #[.slice A0 r.Pos.length p0, .slice A1 r.Stash.length p1, .slice A2 r.Buckets.length p2] ∧ Own (Lay.int .i64) 3 A0 p0 r.Pos k0 ∧ Own L_Block 102 A1 p1 r.Stash k1 ∧ Own (Lay.sl L_Block 102) 28 A2 p2 r.Buckets k2 ∧ Sat [] w0 w [] [(0, k0), (1, k1), (2, k2)])) := by
  have hs : Sat [] w0 w0 [(1, k0_0), (2, k0_1), (3, k0_2)] [] := Sat.init w0 [(1, k0_0), (2, k0_1), (3, k0_2)] [] (by simp only [List.mem_cons, List.not_mem_nil, or_false]; rintro x (rfl | rfl | rfl) <;> assumption) (by simp) List.nodup_nil (by simp [blks])
  unfold impl_Oram_own.f at H
  refine enter Try.func129 rfl Try.ntmps129 rfl fun a hk => ?_
  apply wp_seq_k; intro K1 hK1
  apply wp_region_lit
  refine sbx 4 hs rfl hk rfl rfl rfl rfl fun b2 w a hk hs => ?_
  refine salx 5 hs rfl hk rfl rfl ze31 rfl fun b3 w a hk hs => ?_
  show wpList _ _ _ [] _ _
  refine wpList_nil ?_
  refine hK1 _ _ ?_
  apply wp_seq_k; intro K4 hK4
  obtain ⟨y_r5_2_1, h_r5_2_2, H⟩ := bind_some H
  obtain ⟨y_r5_5_1, h_r5_5_2, H⟩ := bind_some H
  obtain ⟨R6, hR6⟩ : ∃ R : Act → World → Prop, R = fun a w => ∃ (b_r5_7_1 : Nat) (A_r5_2_3 : Option Addr) (p_r5_2_4 : Nat) (A_r5_5_3 : Option Addr) (p_r5_5_4 : Nat) (k_r5_2_5 : Chunk) (k_r5_5_5 : Chunk), Kn [(1, (.pointer (some ⟨b2, 0, none⟩))), (2, (.pointer (some ⟨b3, 0, none⟩))), (3, (.pointer (some ⟨b_r5_7_1, 0, none⟩)))] 29 a ∧ Sat [] w0 w [(1, k0_0), (2, k0_1), (3, k0_2)] [(4, [(b2, .cells #[.slice A0_0 x0.Pos.length p0_0, .slice A0_1 x0.Stash.length p0_1, .slice A0_2 x0.Buckets.length p0_2] 31 (0, 0))]), (5, [(b3, .cells #[.slice none 0 0, .slice none 0 0, .slice none 0 0] 31 (0, 0))]), (106141, [(b_r5_7_1, .cells #[.slice A_r5_2_3 y_r5_2_1.length p_r5_2_4, .slice A_r5_5_3 y_r5_5_1.length p_r5_5_4, .slice none 0 0] 31 (0, 0))]), (106041, k_r5_2_5), (106101, k_r5_5_5)] ∧ Own (Lay.int .i64) 3 A_r5_2_3 p_r5_2_4 y_r5_2_1 k_r5_2_5 ∧ Own L_Block 102 A_r5_5_3 p_r5_5_4 y_r5_5_1 k_r5_5_5 := ⟨_, rfl⟩
  refine wp_cutq R6 ?_ ?_
  ·skip
   refine wp_region_tree (.q 0 (.q 1 (.q 3 (.q 4 (.alt 2 (.alt 5 (.q 6 (.alt 7 (.last 8) .stop)) (.alt 7 (.alt 5 (.alt 6 (.last 8) .stop) .stop) .stop)) (.alt 7 (.alt 2 (.alt 5 (.alt 6 (.last 8) .stop) .stop) .stop) .stop)))))) mo (by kernel_rfl) (hs.pick [(5, 5), (4, 4)] rfl) fun _ => ?_
   have hs := hs.drew
   refine tqst (.pointer (some ⟨b2, 0, none⟩)) hk rfl rfl rfl rfl (fun w hs => sf ⟨b2, 0, none⟩ rfl hk rfl rfl rfl fd31_0 rfl fun a hk => qe hk) fun a hk => ?_
   refine tqst (.slice A0_0 x0.Pos.length p0_0) hk rfl rfl rfl rfl (fun w hs => sl rfl hk rfl rfl rfl ag22 (box_cell hs (k := 4) rfl rfl) fun a hk => qe hk) fun a hk => ?_
   refine tqst (.pointer (some ⟨b2, 1, none⟩)) hk rfl rfl rfl rfl (fun w hs => sf ⟨b2, 1, none⟩ rfl hk rfl rfl rfl fd31_1 rfl fun a hk => qe hk) fun a hk => ?_
   refine tqst (.slice A0_1 x0.Stash.length p0_1) hk rfl rfl rfl rfl (fun w hs => sl rfl hk rfl rfl rfl ag28 (box_cell hs (k := 4) rfl rfl) fun a hk => qe hk) fun a hk => ?_
   refine tsst hk rfl rfl (fun K_r5_2 hK_r5_2 w hF => ?_) ?_
   ·skip
    have hs := hs.f hF
    refine sc rfl en177 hk rfl rfl rfl (slices_Clone_int_int_t _ A0_0 p0_0 x0.Pos _ v0_0 (hs.hasD (k := 1) rfl) _ h_r5_2_2) ?_
    rintro _ w ⟨A_r5_2_3, p_r5_2_4, k_r5_2_5, rfl, o_r5_2_6, hG⟩ a hk
    have hs := hs.call0k hG [106041] rfl
    refine se (hs.pick [(5, 5), (4, 4)] rfl) hk (hK_r5_2 _ _ ?_)
    refine tsst hk rfl rfl (fun K_r5_5 hK_r5_5 w hF => ?_) ?_
    ·skip
     have hs := hs.f hF
     refine sc rfl en145 hk rfl rfl rfl (slices_Clone_impl_Block_impl_Block_t _ A0_1 p0_1 x0.Stash _ v0_1 (hs.hasD (k := 2) rfl) _ h_r5_5_2) ?_
     rintro _ w ⟨A_r5_5_3, p_r5_5_4, k_r5_5_5, rfl, o_r5_5_6, hG⟩ a hk
     have hs := hs.call0k hG [106101] rfl
     refine se (hs.pick [(5, 5), (4, 4)] rfl) hk (hK_r5_5 _ _ ?_)
     refine tqst (.agg #[.slice A_r5_2_3 y_r5_2_1.length p_r5_2_4, .slice A_r5_5_3 y_r5_5_1.length p_r5_5_4, .slice none 0 0]) hk rfl rfl rfl rfl (fun w hs => sbd (pv := [(0, (.slice A_r5_2_3 y_r5_2_1.length p_r5_2_4)), (1, (.slice A_r5_5_3 y_r5_5_1.length p_r5_5_4)), (2, (.slice none 0 0))]) rfl hk rfl rfl rfl (bd31_1 A_r5_2_3 y_r5_2_1.length p_r5_2_4 A_r5_5_3 y_r5_5_1.length p_r5_5_4 none 0 0) fun a hk => qe hk) fun a hk => ?_
     refine tsst hk rfl rfl (fun K_r5_7 hK_r5_7 w hF => ?_) wt_stop
     have hs := hs.f hF
     refine salx 106141 hs rfl hk rfl rfl ze31 rfl fun b_r5_7_1 w a hk hs => ?_
     refine se (hs.pick [(5, 5), (4, 4)] rfl) hk (hK_r5_7 _ _ ?_)
     refine tlst hk rfl rfl fun K_r5_8 hK_r5_8 w hF => ?_
     have hs := hs.f hF
     refine ssw 106141 hs rfl rfl hk rfl rfl rfl rfl sz31 (by simp [Value.oneCell']) rfl fun w a hk hs => ?_
     refine se trivial hk (hK_r5_8 _ _ fun w hF => ?_)
     have hs := hs.f hF
     show R6 _ _
     rw [hR6]
     exact ⟨b_r5_7_1, A_r5_2_3, p_r5_2_4, A_r5_5_3, p_r5_5_4, k_r5_2_5, k_r5_5_5, (hk.c 1 rfl (hk.c 2 rfl (hk.c 3 rfl hk.k))), (hs.pick [(4, 4), (5, 5), (106141, 106141), (106041, 106041), (106101, 106101)] rfl), o_r5_2_6, o_r5_5_6⟩
    refine tsst hk rfl rfl (fun K_r5_7 hK_r5_7 w hF => ?_) wt_stop
    have hs := hs.f hF
    refine salx 106141 hs rfl hk rfl rfl ze31 rfl fun b_r5_7_1 w a hk hs => ?_
    refine se (hs.pick [(5, 5), (4, 4)] rfl) hk (hK_r5_7 _ _ ?_)
    refine tsst hk rfl rfl (fun K_r5_5 hK_r5_5 w hF => ?_) wt_stop
    have hs := hs.f hF
    refine sc rfl en145 hk rfl rfl rfl (slices_Clone_impl_Block_impl_Block_t _ A0_1 p0_1 x0.Stash _ v0_1 (hs.hasD (k := 2) rfl) _ h_r5_5_2) ?_
    rintro _ w ⟨A_r5_5_3, p_r5_5_4, k_r5_5_5, rfl, o_r5_5_6, hG⟩ a hk
    have hs := hs.call0k hG [106101] rfl
    refine se (hs.pick [(5, 5), (4, 4)] rfl) hk (hK_r5_5 _ _ ?_)
    refine tsst hk rfl rfl (fun K_r5_6 hK_r5_6 w hF => ?_) wt_stop
    have hs := hs.f hF
    refine sbd (pv := [(0, (.slice A_r5_2_3 y_r5_2_1.length p_r5_2_4)), (1, (.slice A_r5_5_3 y_r5_5_1.length p_r5_5_4)), (2, (.slice none 0 0))]) rfl hk rfl rfl rfl (bd31_1 A_r5_2_3 y_r5_2_1.length p_r5_2_4 A_r5_5_3 y_r5_5_1.length p_r5_5_4 none 0 0) fun a hk => ?_
    refine se (hs.pick [(5, 5), (4, 4)] rfl) hk (hK_r5_6 _ _ ?_)
    refine tlst hk rfl rfl fun K_r5_8 hK_r5_8 w hF => ?_
    have hs := hs.f hF
    refine ssw 106141 hs rfl rfl hk rfl rfl rfl rfl sz31 (by simp [Value.oneCell']) rfl fun w a hk hs => ?_
    refine se trivial hk (hK_r5_8 _ _ fun w hF => ?_)
    have hs := hs.f hF
    show R6 _ _
    rw [hR6]
    exact ⟨b_r5_7_1, A_r5_2_3, p_r5_2_4, A_r5_5_3, p_r5_5_4, k_r5_2_5, k_r5_5_5, (hk.c 1 rfl (hk.c 2 rfl (hk.c 3 rfl hk.k))), (hs.pick [(4, 4), (5, 5), (106141, 106141), (106041, 106041), (106101, 106101)] rfl), o_r5_2_6, o_r5_5_6⟩
   refine tsst hk rfl rfl (fun K_r5_7 hK_r5_7 w hF => ?_) wt_stop
   have hs := hs.f hF
   refine salx 106141 hs rfl hk rfl rfl ze31 rfl fun b_r5_7_1 w a hk hs => ?_
   refine se (hs.pick [(5, 5), (4, 4)] rfl) hk (hK_r5_7 _ _ ?_)
   refine tsst hk rfl rfl (fun K_r5_2 hK_r5_2 w hF => ?_) wt_stop
   have hs := hs.f hF
   refine sc rfl en177 hk rfl rfl rfl (slices_Clone_int_int_t _ A0_0 p0_0 x0.Pos _ v0_0 (hs.hasD (k := 1) rfl) _ h_r5_2_2) ?_
   rintro _ w ⟨A_r5_2_3, p_r5_2_4, k_r5_2_5, rfl, o_r5_2_6, hG⟩ a hk
   have hs := hs.call0k hG [106041] rfl
   refine se (hs.pick [(5, 5), (4, 4)] rfl) hk (hK_r5_2 _ _ ?_)
   refine tsst hk rfl rfl (fun K_r5_5 hK_r5_5 w hF => ?_) wt_stop
   have hs := hs.f hF
   refine sc rfl en145 hk rfl rfl rfl (slices_Clone_impl_Block_impl_Block_t _ A0_1 p0_1 x0.Stash _ v0_1 (hs.hasD (k := 2) rfl) _ h_r5_5_2) ?_
   rintro _ w ⟨A_r5_5_3, p_r5_5_4, k_r5_5_5, rfl, o_r5_5_6, hG⟩ a hk
   have hs := hs.call0k hG [106101] rfl
   refine se (hs.pick [(5, 5), (4, 4)] rfl) hk (hK_r5_5 _ _ ?_)
   refine tsst hk rfl rfl (fun K_r5_6 hK_r5_6 w hF => ?_) wt_stop
   have hs := hs.f hF
   refine sbd (pv := [(0, (.slice A_r5_2_3 y_r5_2_1.length p_r5_2_4)), (1, (.slice A_r5_5_3 y_r5_5_1.length p_r5_5_4)), (2, (.slice none 0 0))]) rfl hk rfl rfl rfl (bd31_1 A_r5_2_3 y_r5_2_1.length p_r5_2_4 A_r5_5_3 y_r5_5_1.length p_r5_5_4 none 0 0) fun a hk => ?_
   refine se (hs.pick [(5, 5), (4, 4)] rfl) hk (hK_r5_6 _ _ ?_)
   refine tlst hk rfl rfl fun K_r5_8 hK_r5_8 w hF => ?_
   have hs := hs.f hF
   refine ssw 106141 hs rfl rfl hk rfl rfl rfl rfl sz31 (by simp [Value.oneCell']) rfl fun w a hk hs => ?_
   refine se trivial hk (hK_r5_8 _ _ fun w hF => ?_)
   have hs := hs.f hF
   show R6 _ _
   rw [hR6]
   exact ⟨b_r5_7_1, A_r5_2_3, p_r5_2_4, A_r5_5_3, p_r5_5_4, k_r5_2_5, k_r5_5_5, (hk.c 1 rfl (hk.c 2 rfl (hk.c 3 rfl hk.k))), (hs.pick [(4, 4), (5, 5), (106141, 106141), (106041, 106041), (106101, 106101)] rfl), o_r5_2_6, o_r5_5_6⟩
  ·intro a w hR0
   rw [hR6] at hR0
   obtain ⟨b_r5_7_1, A_r5_2_3, p_r5_2_4, A_r5_5_3, p_r5_5_4, k_r5_2_5, k_r5_5_5, hk, hs, o_r5_2_6, o_r5_5_6⟩ := hR0
   refine hK4 _ _ ?_
   apply wp_seq_k; intro K7 hK7
   apply wp_seq_k; intro K8 hK8
   apply wp_region_lit
   refine sf ⟨b2, 2, none⟩ rfl hk rfl rfl rfl fd31_2 rfl fun a hk => ?_
   refine sl rfl hk rfl rfl rfl ag29 (box_cell hs (k := 4) rfl rfl) fun a hk => ?_
   refine sle rfl hk rfl rfl rfl un29 fun a hk => ?_
   refine sm _ rfl hk rfl rfl rfl fun a hk => ?_
   show wpList _ _ _ [] _ _
   refine wpList_nil ?_
   refine hK8 _ _ ?_
   obtain ⟨o27, h28, HL29⟩ := bind_some H
   clear H
   obtain ⟨R30, hR30⟩ : ∃ R : Act → World → Prop, R = fun a w => ∃ (u22 : List (List S_Block)) (A25 : Option Addr) (p26 : Nat) (k23 : Chunk), o27 = .out u22 ∧ Kn [(2, (.pointer (some ⟨b3, 0, none⟩))), (3, (.pointer (some ⟨b_r5_7_1, 0, none⟩)))] 29 a ∧ Sat [] w0 w [(1, k0_0), (2, k0_1), (3, k0_2)] [(5, [(b3, .cells #[.slice none 0 0, .slice none 0 0, .slice none 0 0] 31 (0, 0))]), (106141, [(b_r5_7_1, .cells #[.slice A_r5_2_3 y_r5_2_1.length p_r5_2_4, .slice A_r5_5_3 y_r5_5_1.length p_r5_5_4, .slice A25 u22.length p26] 31 (0, 0))]), (106041, k_r5_2_5), (106101, k_r5_5_5), (9, k23)] ∧ Own (Lay.sl L_Block 102) 28 A25 p26 u22 k23 := ⟨_, rfl⟩
   refine wp_cutq R30 ?_ ?_
   ·refine wp_block ?_
    obtain ⟨fu32, h28⟩ := loopO_some h28
    obtain ⟨I31, hI31⟩ : ∃ I : Nat → Act → World → Prop, I = fun fu a w => ∃ (u11 : Int) (u17 : List (List S_Block)) (A20 : Option Addr) (p21 : Nat) (k18 : Chunk), loopN (fun s => impl_Oram_own.s0 x0 s.1 s.2) fu (u11, u17) = some o27 ∧ Kn [(2, (.pointer (some ⟨b3, 0, none⟩))), (3, (.pointer (some ⟨b_r5_7_1, 0, none⟩))), (14, (.slice A0_2 x0.Buckets.length p0_2)), (15, (.int .i64 (x0.Buckets.length : Int))), (16, (.int .i64 u11))] 29 a ∧ Sat [] w0 w [(1, k0_0), (2, k0_1), (3, k0_2)] [(5, [(b3, .cells #[.slice none 0 0, .slice none 0 0, .slice none 0 0] 31 (0, 0))]), (106141, [(b_r5_7_1, .cells #[.slice A_r5_2_3 y_r5_2_1.length p_r5_2_4, .slice A_r5_5_3 y_r5_5_1.length p_r5_5_4, .slice A20 u17.length p21] 31 (0, 0))]), (106041, k_r5_2_5), (106101, k_r5_5_5), (9, k18)] ∧ Own (Lay.sl L_Block 102) 28 A20 p21 u17 k18 := ⟨_, rfl⟩
    refine wp_loop_ghost I31 fu32 ?_ ?_
    ·rw [hI31]
     exact ⟨0, ([] : List (List S_Block)), none, 0, _, h28, (hk.c 2 rfl (hk.c 3 rfl (hk.c 14 rfl (hk.c 15 rfl (hk.c 16 rfl hk.k))))), ((hs.addNil 1009).pick [(5, 5), (106141, 106141), (106041, 106041), (106101, 106101), (9, 1009)] rfl), Own.nil _ _⟩
    ·clear h28 hk hs
     intro fu32 a w hI0
     rw [hI31] at hI0
     obtain ⟨u11, u17, A20, p21, k18, hi, hk, hs, o19⟩ := hI0
     obtain ⟨x33, H, h34⟩ := loop_round hi
     try dsimp only at H
     unfold impl_Oram_own.s0 at H
     apply wp_seq_k; intro K35 hK35
     apply wp_region_lit
     refine sv (.bool (decide (u11 < (x0.Buckets.length : Int)))) hk rfl rfl rfl fun a hk => ?_
     show wpList _ _ _ [] _ _
     refine wpList_nil ?_
     refine hK35 _ _ ?_
     have hs := hs.pick [(5, 5), (106141, 106141), (106041, 106041), (106101, 106101), (9, 9)] rfl
     apply wp_seq_k; intro K36 hK36
     rcases cond_some H with ⟨c37, H⟩ | ⟨c37, H⟩
     ·have hk := hk.lit 17 c37 rfl
      refine cnd_true hk rfl rfl ?_
      refine wp_skip ?_
      refine hK36 _ _ ?_
      apply wp_seq_k; intro K38 hK38
      refine wp_block ?_
      apply wp_seq_k; intro K39 hK39
      apply wp_region_lit
      rcases ite_some H with ⟨c40, H⟩ | ⟨_, H⟩
      rotate_left
      ·cases H
      obtain ⟨b41, q42, hAc40⟩ := (v0_2).some_ u11 c40.1 c40.2
      refine si rfl hk rfl rfl rfl rfl un29 sz28 c40.1 c40.2 hAc40 fun a hk => ?_
      obtain ⟨_, ⟨_, rfl, A44, p45, rfl, v46⟩, e43⟩ := (v0_2).at_ [] u11 c40.1 c40.2
      refine sl (v := (.slice A44 (x0.Buckets.getD u11.toNat []).length p45)) rfl hk rfl rfl rfl ag28 ((e43 0 _ rfl).cell (hs.hasD (k := 3) rfl)) fun a hk => ?_
      refine sa _ rfl hk rfl rfl rfl fun a hk => ?_
      show wpList _ _ _ [] _ _
      refine wpList_nil ?_
      refine hK39 _ _ ?_
      refine wp_region_tree (.q 0 (.q 1 (.alt 2 (.alt 3 (.alt 4 (.alt 5 (.alt 6 (.last 7) .stop) .stop) .stop) .stop) .stop))) mo (by kernel_rfl) (hs.pick [(5, 5), (106141, 106141), (106041, 106041), (106101, 106101)] rfl) fun _ => ?_
      have hs := hs.drew
      refine tqst (.pointer (some ⟨b_r5_7_1, 2, none⟩)) hk rfl rfl rfl rfl (fun w hs => sf ⟨b_r5_7_1, 2, none⟩ rfl hk rfl rfl rfl fd31_2 rfl fun a hk => qe hk) fun a hk => ?_
      refine tqst (.slice A20 u17.length p21) hk rfl rfl rfl rfl (fun w hs => sl rfl hk rfl rfl rfl ag29 (box_cell hs (k := 106141) rfl rfl) fun a hk => qe hk) fun a hk => ?_
      refine tsst hk rfl rfl (fun K_r47_2 hK_r47_2 w hF => ?_) wt_stop
      have hs := hs.f hF
      refine sm _ rfl hk rfl rfl rfl fun a hk => ?_
      refine se (hs.pick [(5, 5), (106141, 106141), (106041, 106041), (106101, 106101)] rfl) hk (hK_r47_2 _ _ ?_)
      refine tsst hk rfl rfl (fun K_r47_3 hK_r47_3 w hF => ?_) wt_stop
      have hs := hs.f hF
      obtain ⟨y48, h49, H⟩ := bind_some H
      refine sc rfl en145 hk rfl rfl rfl (slices_Clone_impl_Block_impl_Block_t _ A44 p45 (x0.Buckets.getD u11.toNat []) _ v46 (hs.hasD (k := 3) rfl) _ h49) ?_
      rintro _ w ⟨A50, p51, k52, rfl, o53, hG⟩ a hk
      have hs := hs.call0k hG [11] rfl
      refine se (hs.pick [(5, 5), (106141, 106141), (106041, 106041), (106101, 106101)] rfl) hk (hK_r47_3 _ _ ?_)
      refine tsst hk rfl rfl (fun K_r47_4 hK_r47_4 w hF => ?_) wt_stop
      have hs := hs.f hF
      refine sbs1 (L := (Lay.sl L_Block 102)) (pv := [(0, (.slice A50 y48.length p51))]) (xs := [y48]) (ess := [[.slice A50 y48.length p51]]) 12 11 hs rfl rfl hk rfl rfl rfl un29 (bs28_2 A50 y48.length p51) (AllOwn.one ⟨_, rfl, o53.toV⟩) rfl rfl rfl fun b54 k55 w a hk o56 hs => ?_
      refine se (hs.pick [(5, 5), (106141, 106141), (106041, 106041), (106101, 106101)] rfl) hk (hK_r47_4 _ _ ?_)
      refine tsst hk rfl rfl (fun K_r47_5 hK_r47_5 w hF => ?_) wt_stop
      have hs := hs.f hF
      rcases ite_some H with ⟨c57, H⟩ | ⟨_, H⟩
      rotate_left
      ·cases H
      refine sapm 9 12 (xs := u17) (ys := [y48]) hs rfl rfl o19 o56 rfl hk rfl rfl rfl rfl rfl rfl un29 mk28 rfl rfl rfl c57 fun A58 p59 k60 w a hk o61 hs => ?_
      refine se (hs.pick [(5, 5), (106141, 106141), (106041, 106041), (106101, 106101)] rfl) hk (hK_r47_5 _ _ ?_)
      refine tsst hk rfl rfl (fun K_r47_6 hK_r47_6 w hF => ?_) wt_stop
      have hs := hs.f hF
      refine sf ⟨b_r5_7_1, 2, none⟩ rfl hk rfl rfl rfl fd31_2 rfl fun a hk => ?_
      refine se (hs.pick [(5, 5), (106141, 106141), (106041, 106041), (106101, 106101)] rfl) hk (hK_r47_6 _ _ ?_)
      refine tlst hk rfl rfl fun K_r47_7 hK_r47_7 w hF => ?_
      have hs := hs.f hF
      refine ssx (cs' := #[.slice A_r5_2_3 y_r5_2_1.length p_r5_2_4, .slice A_r5_5_3 y_r5_5_1.length p_r5_5_4, .slice A58 (u17 ++ ([y48])).length p59]) 106141 hs rfl rfl hk rfl rfl rfl rfl sz29 rfl rfl rfl rfl fun w a hk hs => ?_
      refine se trivial hk (hK_r47_7 _ _ fun w hF => ?_)
      have hs := hs.f hF
      refine hK38 _ _ ?_
      apply wp_region_lit
      refine sv (.int .i64 (w64 (u11 + 1))) hk rfl rfl rfl fun a hk => ?_
      refine sm _ rfl hk rfl rfl rfl fun a hk => ?_
      show wpList _ _ _ [] _ _
      refine wpList_nil ?_
      obtain rfl := Option.some.inj H
      obtain ⟨m62, hmm62, h34⟩ := h34
      show ∃ n', n' < _ ∧ I31 n' _ _
      refine ⟨m62, hmm62, ?_⟩
      rw [hI31]
      exact ⟨(w64 (u11 + 1)), (u17 ++ ([y48])), A58, p59, _, h34, (hk.c 2 rfl (hk.c 3 rfl (hk.c 14 rfl (hk.c 15 rfl (hk.c 16 rfl hk.k))))), (hs.pick [(5, 5), (106141, 106141), (106041, 106041), (106101, 106101), (9, 9)] rfl), o61⟩
     ·have hk := hk.lit 17 c37 rfl
      refine cnd_false hk rfl rfl ?_
      refine wp_exit ?_
      obtain rfl := Option.some.inj H
      show R30 _ _
      rw [hR30]
      exact ⟨u17, A20, p21, _, h34.symm, (hk.c 2 rfl (hk.c 3 rfl hk.k)), (hs.pick [(5, 5), (106141, 106141), (106041, 106041), (106101, 106101), (9, 9)] rfl), o19⟩
   ·intro a w hR0
    rw [hR30] at hR0
    obtain ⟨u22, A25, p26, k23, rfl, hk, hs, o24⟩ := hR0
    have H := HL29
    try dsimp only at H
    refine hK7 _ _ ?_
    have hs := hs.pick [(5, 5), (106141, 106141), (106041, 106041), (106101, 106101), (9, 9)] rfl
    apply wp_seq_k; intro K63 hK63
    apply wp_region_lit
    refine sln [.slice A_r5_2_3 y_r5_2_1.length p_r5_2_4, .slice A_r5_5_3 y_r5_5_1.length p_r5_5_4, .slice A25 u22.length p26] rfl hk rfl rfl rfl ag31 sz31 (box_cells hs (k := 106141) rfl) fun a hk => ?_
    refine ssw 5 hs rfl rfl hk rfl rfl rfl rfl sz31 (by simp [Value.oneCell']) rfl fun w a hk hs => ?_
    show wpList _ _ _ [] _ _
    refine wpList_nil ?_
    refine hK63 _ _ ?_
    refine wp_ret ?_
    obtain rfl := Option.some.inj H
    exact fin hk _ [(.agg #[.slice A_r5_2_3 y_r5_2_1.length p_r5_2_4, .slice A_r5_5_3 y_r5_5_1.length p_r5_5_4, .slice A25 u22.length p26])] rfl ⟨⟨_, rfl, run_loadN ag31 sz31 (box_cells hs (k := 5) rfl)⟩, trivial⟩ ⟨A_r5_2_3, p_r5_2_4, _, A_r5_5_3, p_r5_5_4, _, A25, p26, _, rfl, o_r5_2_6, o_r5_5_6, o24, (hs.pick [(0, 106041), (1, 106101), (2, 9)] rfl).dnil⟩

noncomputable def impl_Oram_access_c1.f (x0 : S_Block) (x1 : Int) : Option (Bool) :=
  (some (x0.Id == x1))
set_option maxRecDepth 100000 in
set_option maxHeartbeats 0 in
theorem impl_Oram_access_c1_t (w0 : World) (x0 : S_Block) (b1_ : Nat) (x1 : Int) (h1_ : Has w0 [(b1_, .cells #[.int .i64 x1] 3 (0, 0))]) (r : Bool) (H : impl_Oram_access_c1.f x0 x1 = some r) :
    Calls Try.prog 132 #[.agg #[.int .i64 x0.Id, .int .i64 x0.Leaf, .int .i64 x0.Value], .pointer (some ⟨b1_, 0, none⟩)] w0 (Ret (fun v w => v = .bool r ∧ Sat [] w0 w [] [])) := by
  have hs : Sat [] w0 w0 [(1, [(b1_, .cells #[.int .i64 x1] 3 (0, 0))])] [] := Sat.init w0 [(1, [(b1_, .cells #[.int .i64 x1] 3 (0, 0))])] [] (by simp only [List.mem_cons, List.not_mem_nil, or_false]; rintro x (rfl) <;> assumption) (by simp) List.nodup_nil (by simp [blks])
  unfold impl_Oram_access_c1.f at H
  refine enter Try.func132 rfl Try.ntmps132 rfl fun a hk => ?_
  apply wp_seq_k; intro K1 hK1
  apply wp_region_lit
  refine sbx 2 hs rfl hk rfl rfl rfl rfl fun b2 w a hk hs => ?_
  refine sa _ rfl hk rfl rfl rfl fun a hk => ?_
  show wpList _ _ _ [] _ _
  refine wpList_nil ?_
  refine hK1 _ _ ?_
  apply wp_seq_k; intro K3 hK3
  apply wp_region_lit
  refine sf ⟨b2, 0, none⟩ rfl hk rfl rfl rfl fd102_0 rfl fun a hk => ?_
  refine sl rfl hk rfl rfl rfl ag3 (box_cell hs (k := 2) rfl rfl) fun a hk => ?_
  refine sl rfl hk rfl rfl rfl ag3 (box_cellD hs (k := 1) rfl rfl) fun a hk => ?_
  refine sv (.bool (x0.Id == x1)) hk rfl rfl rfl fun a hk => ?_
  refine sa _ rfl hk rfl rfl rfl fun a hk => ?_
  show wpList _ _ _ [] _ _
  refine wpList_nil ?_
  refine hK3 _ _ ?_
  refine wp_ret ?_
  obtain rfl := Option.some.inj H
  exact fin hk _ [(.bool (x0.Id == x1))] rfl ⟨rfl, trivial⟩ ⟨rfl, (hs.pick [] rfl).dnil⟩

set_option maxRecDepth 100000 in
set_option maxHeartbeats 1000000 in
theorem slices_Delete_impl_Block_impl_Block_n {M : List Nat} {w00 w : World} {Δ Γ : List (Nat × Chunk)} (k : Nat) {A : Option Addr} {cap : Nat} {xs : List S_Block} {c : Chunk} (i j : Nat)
    (hs : Sat M w00 w Δ Γ) (hg : kget Γ k = some c) (hown : Own L_Block 102 A cap xs c) (hij : i ≤ j) (hj : j ≤ xs.length) (hn : xs.length ≤ 1073741824) :
    Calls Try.prog 133 #[.slice A xs.length cap, .int .i64 i, .int .i64 j] w (Ret (fun v w' => ∃ A1 cap1 c1, v = .slice A1 (delL xs i j).length cap1 ∧ Own L_Block 102 A1 cap1 (delL xs i j) c1 ∧ Sat M w00 w' Δ ((k, c1) :: kdel Γ k))) := by
  have hfl : (L_Block).Flat := flat_flat
  have hLs : (L_Block).size = 3 := rfl
  have hmx : maxLen = 9223372036854775807 := rfl
  have hcap := hown.view.le
  have htop0 := hown.view.top
  refine enter Try.func133 rfl Try.ntmps133 rfl fun a hk => ?_
  apply wp_seq_k; intro K1 hK1
  apply wp_region_lit
  refine sa _ rfl hk rfl rfl rfl fun a hk => ?_
  show wpList _ _ _ [] _ _
  refine wpList_nil ?_
  refine hK1 _ _ ?_
  apply wp_seq_k; intro K2 hK2
  apply wp_region_lit
  refine sm _ rfl hk rfl rfl rfl fun a hk => ?_
  refine sm _ rfl hk rfl rfl rfl fun a hk => ?_
  refine sm _ rfl hk rfl rfl rfl fun a hk => ?_
  refine sm _ rfl hk rfl rfl rfl fun a hk => ?_
  refine sle rfl hk rfl rfl rfl un28 fun a hk => ?_
  refine sll_lhm rfl hk rfl rfl rfl rfl rfl rfl un28 sz102 (by omega) (by omega) (by omega) (by omega) fun v13 a hk => ?_
  show wpList _ _ _ [] _ _
  refine wpList_nil ?_
  refine hK2 _ _ ?_
  apply wp_seq_k; intro K4 hK4
  apply wp_seq_k; intro K3 hK3
  apply wp_region_lit
  refine sm _ rfl hk rfl rfl rfl fun a hk => ?_
  refine sm _ rfl hk rfl rfl rfl fun a hk => ?_
  refine sv (.bool (decide ((i : Int) = (j : Int)))) hk rfl rfl rfl fun a hk => ?_
  show wpList _ _ _ [] _ _
  refine wpList_nil ?_
  refine hK3 _ _ ?_
  by_cases heq : i = j
  · have hk := hk.lit 16 (decide_eq_true (by omega)) rfl
    refine cnd_true hk rfl rfl ?_
    apply wp_seq_k; intro K9 hK9
    apply wp_region_lit
    refine sm _ rfl hk rfl rfl rfl fun a hk => ?_
    refine sa _ rfl hk rfl rfl rfl fun a hk => ?_
    show wpList _ _ _ [] _ _
    refine wpList_nil ?_
    refine hK9 _ _ ?_
    refine wp_ret ?_
    have e : delL xs i j = xs := by rw [heq]; exact List.take_append_drop _ _
    exact fin hk _ [(.slice A xs.length cap)] rfl ⟨rfl, trivial⟩ ⟨A, cap, c, by rw [e]; rfl, by rw [e]; exact hown, hs.top hg⟩
  · have hk := hk.lit 16 (decide_eq_false (by omega)) rfl
    refine cnd_false hk rfl rfl ?_
    refine wp_skip ?_
    refine hK4 _ _ ?_
    have hxne : xs ≠ [] := by rintro rfl; simp at hj; omega
    obtain ⟨b, rfl, cs, ess, cd, rfl, hall, htake, hcs, hle, htop⟩ := hown.opened hxne
    have hall := hall.flat hfl
    have hxl := hall.flatten_len
    have h1x := Lay.ones hall
    rw [hLs] at hxl htake hcs
    have hcl : cs.toList.length = cap * 3 := by rw [Array.length_toList (xs := cs), hcs]
    have hbw : w.heap[b]? = some (.cells cs 102 (0, 0)) := hs.hasG hg _ (List.mem_cons_self ..)
    have holds : ∀ w : World, w.heap[b]? = some (.cells cs 102 (0, 0)) → ∀ j u, ess.flatten[j]? = some u → w.cell? ((⟨b, 0, none⟩ : Addr).add j) = some u := by
      intro w hbw j u hu
      rw [addr_add0, cell_of_row w b j cs 102 (0, 0) hbw]
      rw [← htake, List.getElem?_take] at hu
      split at hu
      · simpa using hu
      · cases hu
    have hs1 := hs.less (k := k) [(b, .cells cs 102 (0, 0))] cd hg (by simp)
    apply wp_seq_k; intro K5 hK5
    apply wp_region_lit
    refine sm _ rfl hk rfl rfl rfl fun a hk => ?_
    refine sle rfl hk rfl rfl rfl un28 fun a hk => ?_
    refine sa _ rfl hk rfl rfl rfl fun a hk => ?_
    show wpList _ _ _ [] _ _
    refine wpList_nil ?_
    refine hK5 _ _ ?_
    have elen := len_delL xs i j hij hj
    have hdl : (ess.flatten.drop (j * 3)).length = (xs.length - j) * 3 := by rw [List.length_drop, hxl]; omega
    obtain ⟨ad, had, had2⟩ : ∃ ad : Addr, (if cap = j then (some ⟨b, 0, none⟩ : Option Addr) else (some ⟨b, 0, none⟩ : Option Addr).map (·.add (j * 3))) = some ad ∧ (cap ≠ j → ad = ⟨b, j * 3, none⟩) := by
      by_cases h : cap = j
      · exact ⟨_, if_pos h, fun h2 => absurd h h2⟩
      · exact ⟨_, if_neg h, fun _ => addr_add0 b _⟩
    obtain ⟨inf, hinf, hbinf, hzinf, hszinf⟩ := mkB_spec mk102
    apply wp_seq_k; intro K6 hK6
    refine wp_region_tree (.q 0 (.q 1 (.q 2 (.q 3 (.q 4 (.q 5 (.alt 6 (.alt 7 .done .stop) .stop))))))) mo (by kernel_rfl) (hs1.dnil.pick [] rfl) fun _ => ?_
    have hs1 := hs1.drew
    refine tqst (.slice (some ⟨b, 0, none⟩) xs.length cap) hk rfl rfl rfl rfl (fun w hs => sm _ rfl hk rfl rfl rfl fun a hk => qe hk) fun a hk => ?_
    refine tqst (.int .i64 (i : Int)) hk rfl rfl rfl rfl (fun w hs => sm _ rfl hk rfl rfl rfl fun a hk => qe hk) fun a hk => ?_
    refine tqst _ hk rfl rfl rfl rfl (fun w hs => sll_h rfl hk rfl rfl rfl rfl un28 sz102 (by omega) (by omega) fun a hk => qe hk) fun a hk => ?_
    have hk := hk.re (v' := .slice (some ⟨b, 0, none⟩) i cap) 22 rfl sl_head
    refine tqst (.slice (some ⟨b, 0, none⟩) xs.length cap) hk rfl rfl rfl rfl (fun w hs => sm _ rfl hk rfl rfl rfl fun a hk => qe hk) fun a hk => ?_
    refine tqst (.int .i64 (j : Int)) hk rfl rfl rfl rfl (fun w hs => sm _ rfl hk rfl rfl rfl fun a hk => qe hk) fun a hk => ?_
    refine tqst _ hk rfl rfl rfl rfl (fun w hs => sll_l rfl hk rfl rfl rfl rfl un28 sz102 (by omega) (by omega) fun a hk => qe hk) fun a hk => ?_
    have hk := hk.re (v' := .slice (some ad) (xs.length - j) (cap - j)) 25 rfl (congrArg (fun A => Value.slice A (xs.length - j) (cap - j)) had)
    refine tsst hk rfl rfl (fun Kl hKl w hF => ?_) wt_stop
    have hs1 := hs1.f hF
    have hbw1 := box_row hs1 (kget_cons _ _ _)
    have hrun := fun ty => run_append_room (P := Try.prog) w 28 ty 102 inf un28 hinf b i cap cs hbw1 ad (xs.length - j) (cap - j) (ess.flatten.drop (j * 3)) (by rw [hdl, hszinf]) (fun q u hu => by
      have hne : cap ≠ j := by
        intro h
        have := (List.getElem?_eq_some_iff.1 hu).1
        omega
      rw [had2 hne, addr_add1]
      rw [List.getElem?_drop] at hu
      have := holds w hbw1 _ u hu
      rwa [addr_add0] at this) (fun u hu => h1x u (List.mem_of_mem_drop hu)) (by omega) (by rw [hdl, hszinf, hcs]; omega)
    rw [hszinf] at hrun
    refine sapz rfl hk rfl rfl rfl rfl hrun fun a hk => ?_
    have hs2 := hs1.write1 (cs.toList.take (i * 3) ++ ess.flatten.drop (j * 3) ++ cs.toList.drop (i * 3 + (ess.flatten.drop (j * 3)).length)).toArray (kget_cons _ _ _)
    simp only [kset, Nat.beq_refl, if_true] at hs2
    refine se (hs2.dnil.pick [] rfl) hk (hKl _ _ ?_)
    refine tsst hk rfl rfl (fun Kl2 hKl2 w hF => ?_) wt_stop
    have hs2 := hs2.f hF
    refine sa _ rfl hk rfl rfl rfl fun a hk => ?_
    refine se (hs2.dnil.pick [] rfl) hk (hKl2 _ _ ?_)
    refine wtl_nil fun w hF _ => ?_
    have hs2 := hs2.f hF
    refine hK6 _ _ ?_
    apply wp_seq_k; intro K7 hK7
    apply wp_region_lit
    refine sm _ rfl hk rfl rfl rfl fun a hk => ?_
    refine sm _ rfl hk rfl rfl rfl fun a hk => ?_
    refine sle rfl hk rfl rfl rfl un28 fun a hk => ?_
    refine sm _ rfl hk rfl rfl rfl fun a hk => ?_
    refine sll_lh rfl hk rfl rfl rfl rfl rfl un28 sz102 (by omega) (by omega) (by omega) fun a hk => ?_
    have hk := hk.re (v' := .slice (some ⟨b, (i + (xs.length - j)) * 3, none⟩) (xs.length - (i + (xs.length - j))) (cap - (i + (xs.length - j)))) 31 rfl (sl_off (by omega))
    have hput := put_len (cs := cs.toList) (V := ess.flatten.drop (j * 3)) (o := i * 3) (by rw [hdl, hcl]; omega)
    refine scl k hs2 (kget_cons _ _ _) rfl hk rfl rfl rfl un28 (by kernel_rfl : zeroB Try.prog 102 = some (.agg #[.int .i64 0, .int .i64 0, .int .i64 0])) (by decide) (by simp [Value.cells, Value.oneCell']) (by omega) (by rw [show (Value.cells (.agg #[.int .i64 0, .int .i64 0, .int .i64 0])).size = 3 from rfl, List.size_toArray, hput, hcl]; omega) fun w a hk hs3 => ?_
    simp only [kset, Nat.beq_refl, if_true] at hs3
    show wpList _ _ _ [] _ _
    refine wpList_nil ?_
    refine hK7 _ _ ?_
    apply wp_seq_k; intro K8 hK8
    apply wp_region_lit
    refine sm _ rfl hk rfl rfl rfl fun a hk => ?_
    refine sa _ rfl hk rfl rfl rfl fun a hk => ?_
    show wpList _ _ _ [] _ _
    refine wpList_nil ?_
    refine hK8 _ _ ?_
    refine wp_ret ?_
    have zl : (Builtin.zeroCells (Value.cells (.agg #[.int .i64 0, .int .i64 0, .int .i64 0])) (xs.length - (i + (xs.length - j)))).toList.length = (xs.length - (i + (xs.length - j))) * 3 := by
      rw [Array.length_toList (xs := Builtin.zeroCells _ _), size_zeroCells]; rfl
    refine fin hk _ [(.slice (some ⟨b, 0, none⟩) (i + (xs.length - j)) cap)] rfl ⟨rfl, trivial⟩ ⟨_, cap, _, by rw [elen, show xs.length - (j - i) = i + (xs.length - j) by omega]; rfl, own_del hall hij hj ?_ ?_ hle htop, hs3⟩
    · rw [hLs, List.toList_toArray, List.toList_toArray]
      exact del_new htake (by omega) (by rw [hdl]; omega) (by omega) (by omega)
    · rw [hLs, List.size_toArray, List.toList_toArray]
      simp only [List.length_append, List.length_take, List.length_drop, zl, hput, hcl, hxl]
      rw [show (Value.cells (.agg #[.int .i64 0, .int .i64 0, .int .i64 0])).size = 3 from rfl]
      omega
theorem slices_Delete_impl_Block_impl_Block_t {M : List Nat} {w00 w : World} {Δ Γ : List (Nat × Chunk)} (k : Nat) {A : Option Addr} {cap : Nat} {xs : List S_Block} {c : Chunk} {i j : Int}
    (hs : Sat M w00 w Δ Γ) (hg : kget Γ k = some c) (hown : Own L_Block 102 A cap xs c) (hi : (0 ≤ i ∧ i ≤ j ∧ j ≤ (xs.length : Int)) ∧ xs.length ≤ 1073741824) :
    Calls Try.prog 133 #[.slice A xs.length cap, .int .i64 i, .int .i64 j] w (Ret (fun v w' => ∃ A1 cap1 c1, v = .slice A1 (delL xs i.toNat j.toNat).length cap1 ∧ Own L_Block 102 A1 cap1 (delL xs i.toNat j.toNat) c1 ∧ Sat M w00 w' Δ ((k, c1) :: kdel Γ k))) := by
  obtain ⟨n, rfl⟩ := Int.eq_ofNat_of_zero_le hi.1.1
  obtain ⟨m, rfl⟩ := Int.eq_ofNat_of_zero_le (show 0 ≤ j by omega)
  exact slices_Delete_impl_Block_impl_Block_n k n m hs hg hown (by omega) (by omega) hi.2


set_option maxRecDepth 100000 in
set_option maxHeartbeats 1000000 in
theorem slices_Backward_int_int_t (w0 : World) (A : Option Addr) (p : Nat) (l : List Int) (c : Chunk) (v : View (Lay.int .i64) A p l c) (hw : Has w0 c) : Calls Try.prog 134 #[.slice A l.length p] w0 (Ret (fun v w => ∃ b, v = .func (.func 179) #[] #[.pointer (some ⟨b, 0, none⟩)] ∧ Sat [] w0 w [] [(0, [(b, .cells #[.slice A l.length p] 22 (0, 0))])])) := by
  have hs : Sat [] w0 w0 [] [] := F.refl w0
  refine enter Try.func134 rfl Try.ntmps134 rfl fun a hk => ?_
  apply wp_seq_k; intro K1 hK1
  apply wp_region_lit
  refine sbx 1 hs rfl hk rfl rfl rfl rfl fun b w a hk hs => ?_
  refine sa _ rfl hk rfl rfl rfl fun a hk => ?_
  refine wpList_nil ?_
  refine hK1 _ _ ?_
  apply wp_seq_k; intro K2 hK2
  apply wp_region_lit
  refine smf (cs := [.pointer (some ⟨b, 0, none⟩)]) rfl hk rfl rfl rfl fun a hk => ?_
  refine sa _ rfl hk rfl rfl rfl fun a hk => ?_
  refine wpList_nil ?_
  refine hK2 _ _ ?_
  refine wp_ret ?_
  exact fin hk _ [_] rfl ⟨rfl, trivial⟩ ⟨b, rfl, (hs.pick [(0, 1)] rfl)⟩
set_option maxRecDepth 100000 in
set_option maxHeartbeats 1000000 in
theorem slices_Backward_int_int_seq (b : Nat) (A : Option Addr) (p : Nat) (l : List Int) (c : Chunk) (v : View (Lay.int .i64) A p l c) : SeqCnt Try.prog 179 b ([(b, .cells #[.slice A l.length p] 22 (0, 0))] ++ c) (fun k => #[.int .i64 ((l.length : Int) - 1 - (k : Int)), .int .i64 (l.getD (l.length - 1 - k) 0)]) l.length := by
  intro y J Jx W hHas hY h0
  have hle := v.le
  have htop := v.top
  have hmx : maxLen = 9223372036854775807 := rfl
  refine enterI (args := [.func (.yield y) #[] #[], .pointer (some ⟨b, 0, none⟩)]) Try.func179 rfl Try.ntmps179 rfl fun a hk => ?_
  apply wpIn_seq_k; intro K1 hK1
  refine wpIn_wide.2 ?_
  apply wp_region_lit
  refine sl (v := .slice A l.length p) rfl hk rfl rfl rfl ag22 (box_has (hHas 0 W h0)) fun a hk => ?_
  refine sle rfl hk rfl rfl rfl un22 fun a hk => ?_
  refine sv (.int .i64 (w64 ((l.length : Int) - 1))) hk rfl rfl rfl fun a hk => ?_
  refine sa _ rfl hk rfl rfl rfl fun a hk => ?_
  refine wpList_nil ?_
  refine hK1 _ _ ?_
  have e0 : Value.int .i64 (w64 ((l.length : Int) - 1)) = .int .i64 ((l.length : Int) - 1 - ((0 : Nat) : Int)) := by rw [w64id (by omega) (by omega)]; simp
  have hk := hk.re 3 rfl e0
  obtain ⟨I, hI⟩ : ∃ I : Nat → Act → World → Prop, I = fun fu a W => ∃ k, fu = l.length - k ∧ k ≤ l.length ∧ Kn [(0, .func (.yield y) #[] #[]), (1, .pointer (some ⟨b, 0, none⟩)), (3, .int .i64 ((l.length : Int) - 1 - (k : Int)))] 19 a ∧ J k W := ⟨_, rfl⟩
  obtain ⟨R, hR⟩ : ∃ R : Act → World → Prop, R = fun a W => Kn [] 19 a ∧ J l.length W := ⟨_, rfl⟩
  refine wpI_cutq R ?_ ?_
  · refine wpIn_block ?_
    refine wpIn_loop_ghost I l.length ?_ ?_
    · rw [hI]
      exact ⟨0, rfl, Nat.zero_le _, (hk.c 0 rfl (hk.c 1 rfl (hk.c 3 rfl hk.k))), h0⟩
    · clear hk
      intro fu a W hI0
      rw [hI] at hI0
      obtain ⟨k, hfu, hkl, hk, hJ⟩ := hI0
      apply wpIn_seq_k; intro K2 hK2
      apply wpIn_seq_k; intro K3 hK3
      refine wpIn_wide.2 ?_
      apply wp_region_lit
      refine sm _ rfl hk rfl rfl rfl fun a hk => ?_
      refine sv (.bool (decide ((l.length : Int) - 1 - (k : Int) ≥ 0))) hk rfl rfl rfl fun a hk => ?_
      refine wpList_nil ?_
      refine hK3 _ _ ?_
      by_cases hlt : k < l.length
      · have hc : decide ((l.length : Int) - 1 - (k : Int) ≥ 0) = true := decide_eq_true (by omega)
        have hk := hk.lit 8 hc rfl
        refine cndI_true hk rfl rfl ?_
        refine wpIn_skip ?_
        refine hK2 _ _ ?_
        apply wpIn_seq_k; intro K4 hK4
        refine wpIn_block ?_
        apply wpIn_seq_k; intro K5 hK5
        apply wpIn_region_lit
        have hH := hHas k W hJ
        have hn : ((l.length : Int) - 1 - (k : Int)).toNat = l.length - 1 - k := by omega
        obtain ⟨Q1, hQ1⟩ : ∃ Q1 : Act → World → Prop, Q1 = fun a w => Kn [(16, .int .i64 (l.getD (l.length - 1 - k) 0)), (12, .int .i64 ((l.length : Int) - 1 - (k : Int))), (11, .func (.yield y) #[] #[]), (0, .func (.yield y) #[] #[]), (1, .pointer (some ⟨b, 0, none⟩)), (3, .int .i64 ((l.length : Int) - 1 - (k : Int)))] 19 a ∧ w = W := ⟨_, rfl⟩
        refine scutI 6 Q1 ?_ ?_
        · refine sm _ rfl hk rfl rfl rfl fun a hk => ?_
          refine sm _ rfl hk rfl rfl rfl fun a hk => ?_
          refine sl (v := .slice A l.length p) rfl hk rfl rfl rfl ag22 (box_has hH) fun a hk => ?_
          refine sm _ rfl hk rfl rfl rfl fun a hk => ?_
          obtain ⟨bo, q, hA⟩ := v.some_ ((l.length : Int) - 1 - (k : Int)) (by omega) (by omega)
          refine si rfl hk rfl rfl rfl rfl un22 sz3 (by omega) (by omega) hA fun a hk => ?_
          obtain ⟨_, rfl, hcell⟩ := v.at_ 0 ((l.length : Int) - 1 - (k : Int)) (by omega) (by omega)
          refine sl (v := .int .i64 (l.getD ((l.length : Int) - 1 - (k : Int)).toNat 0)) rfl hk rfl rfl rfl ag3 ((hcell 0 _ rfl).cell (Has.right hH)) fun a hk => ?_
          refine wpList_nil ?_
          show Q1 _ _
          rw [hQ1]
          have eV : (.int .i64 (l.getD ((l.length : Int) - 1 - (k : Int)).toNat 0) : Value) = .int .i64 (l.getD (l.length - 1 - k) 0) := by rw [hn]
          have hk := hk.re 16 rfl eV
          exact ⟨(hk.c 16 rfl (hk.c 12 rfl (hk.c 11 rfl (hk.c 0 rfl (hk.c 1 rfl (hk.c 3 rfl hk.k)))))), rfl⟩
        intro a W' hq
        rw [hQ1] at hq
        obtain ⟨hk, rfl⟩ := hq
        refine syield rfl rfl hk rfl rfl rfl (hY k W' hJ hlt) (by rintro e w' (⟨rfl, _⟩ | ⟨rfl, _⟩) <;> exact ⟨_, rfl⟩) ?_
        rintro u W3 (⟨hu, hJ3⟩ | ⟨hu, hJ3⟩) a hk
        · cases hu
          obtain ⟨Q2, hQ2⟩ : ∃ Q2 : Act → World → Prop, Q2 = fun a w => Kn [(18, .bool false), (0, .func (.yield y) #[] #[]), (1, .pointer (some ⟨b, 0, none⟩)), (3, .int .i64 ((l.length : Int) - 1 - (k : Int)))] 19 a ∧ w = W3 := ⟨_, rfl⟩
          refine scutI 1 Q2 ?_ ?_
          · refine sv (.bool false) hk rfl rfl rfl fun a hk => ?_
            refine wpList_nil ?_
            show Q2 _ _
            rw [hQ2]
            exact ⟨(hk.c 18 rfl (hk.c 0 rfl (hk.c 1 rfl (hk.c 3 rfl hk.k)))), rfl⟩
          intro a w' hq
          rw [hQ2] at hq
          obtain ⟨hk, rfl⟩ := hq
          refine wpListIn_nil ?_
          refine hK5 _ _ ?_
          refine cndI_false hk rfl rfl ?_
          refine wpIn_skip ?_
          refine hK4 _ _ ?_
          refine wpIn_wide.2 ?_
          apply wp_region_lit
          refine sm _ rfl hk rfl rfl rfl fun a hk => ?_
          refine sv (.int .i64 (w64 ((l.length : Int) - 1 - (k : Int) - 1))) hk rfl rfl rfl fun a hk => ?_
          refine sa _ rfl hk rfl rfl rfl fun a hk => ?_
          refine wpList_nil ?_
          show ∃ n', n' < _ ∧ I n' _ _
          refine ⟨l.length - (k + 1), by omega, ?_⟩
          rw [hI]
          have e3 : Value.int .i64 (w64 ((l.length : Int) - 1 - (k : Int) - 1)) = .int .i64 ((l.length : Int) - 1 - ((k + 1 : Nat) : Int)) := by
            rw [w64id (by omega) (by omega)]; congr 1; omega
          have hk := hk.re 3 rfl e3
          exact ⟨k + 1, rfl, by omega, (hk.c 0 rfl (hk.c 1 rfl (hk.c 3 rfl hk.k))), hJ3⟩
        · cases hu
          obtain ⟨Q2, hQ2⟩ : ∃ Q2 : Act → World → Prop, Q2 = fun a w => Kn [(18, .bool true), (0, .func (.yield y) #[] #[]), (1, .pointer (some ⟨b, 0, none⟩)), (3, .int .i64 ((l.length : Int) - 1 - (k : Int)))] 19 a ∧ w = W3 := ⟨_, rfl⟩
          refine scutI 1 Q2 ?_ ?_
          · refine sv (.bool true) hk rfl rfl rfl fun a hk => ?_
            refine wpList_nil ?_
            show Q2 _ _
            rw [hQ2]
            exact ⟨(hk.c 18 rfl (hk.c 0 rfl (hk.c 1 rfl (hk.c 3 rfl hk.k)))), rfl⟩
          intro a w' hq
          rw [hQ2] at hq
          obtain ⟨hk, rfl⟩ := hq
          refine wpListIn_nil ?_
          refine hK5 _ _ ?_
          refine cndI_true hk rfl rfl ?_
          refine wpIn_ret ?_
          exact ⟨hk.defers, _, results_run hk [] [] rfl trivial, ⟨_, rfl⟩, .inr hJ3⟩
      · have hc : decide ((l.length : Int) - 1 - (k : Int) ≥ 0) = false := decide_eq_false (by omega)
        have hk := hk.lit 8 hc rfl
        have hkk : k = l.length := by omega
        subst hkk
        refine cndI_false hk rfl rfl ?_
        refine wpIn_exit ?_
        show R _ _
        rw [hR]
        exact ⟨hk.k, hJ⟩
  · intro a W hR0
    rw [hR] at hR0
    obtain ⟨hk, hJ⟩ := hR0
    exact ⟨hk.defers, _, results_run hk [] [] rfl trivial, ⟨_, rfl⟩, .inl hJ⟩

noncomputable def impl_Oram_access.s0 (y6 : S_Oram) (y27 : (List Int)) (u39 : Int) (u40 : List (List S_Block)) (u48 : List S_Block) : Option ((Int × (List (List S_Block)) × (List S_Block)) ⊕ Ex ((List (List S_Block)) × (List S_Block)) (S_Oram × Int × Int)) :=
  (bif (decide (u39 < (y27.length : Int))) then (if 0 ≤ u39 ∧ u39 < (y27.length : Int) then (if 0 ≤ (y27.getD u39.toNat 0) ∧ (y27.getD u39.toNat 0) < (y6.Buckets.length : Int) then (if u48.length + (u40.getD (y27.getD u39.toNat 0).toNat []).length ≤ 1073741824 then (if 0 ≤ (y27.getD u39.toNat 0) ∧ (y27.getD u39.toNat 0) < (y6.Buckets.length : Int) then (some (.inl ((w64 (u39 + 1)), (u40.set (y27.getD u39.toNat 0).toNat ([] : List S_Block)), (u48 ++ (u40.getD (y27.getD u39.toNat 0).toNat []))))) else none) else none) else none) else none) else (some (.inr (.out (u40, u48)))))
noncomputable def impl_Oram_access.s2 (y6 : S_Oram) (y27 : (List Int)) (j161 : Nat) (u170 : List S_Block) (u212 : List S_Block) (u207 : Int) (u208 : List (List S_Block)) : Option (((List S_Block) × Int × (List (List S_Block))) ⊕ Ex ((List S_Block) × (List (List S_Block))) (S_Oram × Int × Int)) :=
  (bif (decide (u207 < (u170.length : Int))) then (if 0 ≤ u207 ∧ u207 < (u170.length : Int) then (((if 0 ≤ (y27.getD (y27.length - 1 - j161) 0) ∧ (y27.getD (y27.length - 1 - j161) 0) < (y6.Buckets.length : Int) then (bif (decide (((u208.getD (y27.getD (y27.length - 1 - j161) 0).toNat []).length : Int) < 2)) then ((impl_isOnPath.f (y27.getD (y27.length - 1 - j161) 0) ((u170.getD u207.toNat z_Block).Leaf)).bind fun y259 => (some y259)) else (some false)) else none) : Option (Bool)).bind fun u246 => (((bif u246 then (if 0 ≤ (y27.getD (y27.length - 1 - j161) 0) ∧ (y27.getD (y27.length - 1 - j161) 0) < (y6.Buckets.length : Int) then (if (u208.getD (y27.getD (y27.length - 1 - j161) 0).toNat []).length + ([(u170.getD u207.toNat z_Block)]).length ≤ 1073741824 then (if 0 ≤ (y27.getD (y27.length - 1 - j161) 0) ∧ (y27.getD (y27.length - 1 - j161) 0) < (y6.Buckets.length : Int) then (some (u212, (u208.set (y27.getD (y27.length - 1 - j161) 0).toNat ((u208.getD (y27.getD (y27.length - 1 - j161) 0).toNat []) ++ ([(u170.getD u207.toNat z_Block)]))))) else none) else none) else none) else (if u212.length + ([(u170.getD u207.toNat z_Block)]).length ≤ 1073741824 then (some ((u212 ++ ([(u170.getD u207.toNat z_Block)])), u208)) else none)) : Option ((List S_Block) × (List (List S_Block)))).bind fun o => match o with | (u262, u267) => (some (.inl (u262, (w64 (u207 + 1)), u267))))) else none) else (some (.inr (.out (u212, u208)))))
noncomputable def impl_Oram_access.s1 (y6 : S_Oram) (y27 : (List Int)) (j161 : Nat) (u162 : List (List S_Block)) (u170 : List S_Block) : Option ((Nat × (List (List S_Block)) × (List S_Block)) ⊕ Ex ((List (List S_Block)) × (List S_Block)) (S_Oram × Int × Int)) :=
  (bif decide (j161 < y27.length) then ((loopO (fun s => impl_Oram_access.s2 y6 y27 j161 u170 s.1 s.2.1 s.2.2) (([] : List S_Block), 0, u162)).bind fun o => match o with | .out (u217, u222) => (some (.inl ((j161 + 1), u222, u217))) | .ret r => (some (.inr (.ret r)))) else (some (.inr (.out (u162, u170)))))
noncomputable def impl_Oram_access.f (x0 : S_Oram) (x1 : Int) (x2 : Bool) (x3 : Int) (x4 : Int) : Option (S_Oram × Int × Int) :=
  ((impl_Oram_own.f x0).bind fun y6 => (if 0 ≤ x1 ∧ x1 < (x0.Pos.length : Int) then ((impl_pathOf.f (x0.Pos.getD x1.toNat 0)).bind fun y27 => ((loopO (fun s => impl_Oram_access.s0 y6 y27 s.1 s.2.1 s.2.2) (0, y6.Buckets, y6.Stash)).bind fun o => match o with | .out (u53, u57) => ((slices_IndexFunc_impl_Block_impl_Block.f u57 (fun z0 => impl_Oram_access_c1.f z0 x1)).bind fun y104 => (((bif (decide (y104 ≥ 0)) then (if 0 ≤ y104 ∧ y104 < (u57.length : Int) then (if (0 ≤ y104 ∧ y104 ≤ (w64 (y104 + 1)) ∧ (w64 (y104 + 1)) ≤ (u57.length : Int)) ∧ u57.length ≤ 1073741824 then (some ((delL u57 y104.toNat (w64 (y104 + 1)).toNat), (u57.getD y104.toNat z_Block).Id, (u57.getD y104.toNat z_Block).Leaf, (u57.getD y104.toNat z_Block).Value)) else none) else none) else (some (u57, x1, 0, 0))) : Option ((List S_Block) × Int × Int × Int)).bind fun o => match o with | (u108, u113, u114, u115) => (((bif x2 then (some x3) else (some u115)) : Option (Int)).bind fun u136 => (if u108.length + ([(⟨u113, x4, u136⟩ : S_Block)]).length ≤ 1073741824 then (if 0 ≤ x1 ∧ x1 < (y6.Pos.length : Int) then ((loopO (fun s => impl_Oram_access.s1 y6 y27 s.1 s.2.1 s.2.2) (0, u53, (u108 ++ ([(⟨u113, x4, u136⟩ : S_Block)])))).bind fun o => match o with | .out (u175, u179) => (some ((⟨(y6.Pos.set x1.toNat x4), u179, u175⟩ : S_Oram), u115, (x0.Pos.getD x1.toNat 0))) | .ret r => (some r)) else none) else none)))) | .ret r => (some r))) else none))
set_option maxRecDepth 100000 in
set_option maxHeartbeats 0 in
theorem impl_Oram_access_t (w0 : World) (x0 : S_Oram) (A0_0 : Option Addr) (p0_0 : Nat) (k0_0 : Chunk) (v0_0 : View (Lay.int .i64) A0_0 p0_0 x0.Pos k0_0) (w0_0 : Has w0 k0_0) (A0_1 : Option Addr) (p0_1 : Nat) (k0_1 : Chunk) (v0_1 : View L_Block A0_1 p0_1 x0.Stash k0_1) (w0_1 : Has w0 k0_1) (A0_2 : Option Addr) (p0_2 : Nat) (k0_2 : Chunk) (v0_2 : View (Lay.sl L_Block 102) A0_2 p0_2 x0.Buckets k0_2) (w0_2 : Has w0 k0_2) (x1 : Int) (x2 : Bool) (x3 : Int) (x4 : Int) (r : S_Oram × Int × Int) (H : impl_Oram_access.f x0 x1 x2 x3 x4 = some r) :
    Calls Try.prog 66 #[.agg #[.slice A0_0 x0.Pos.length p0_0, .slice A0_1 x0.Stash.length p0_1, .slice A0_2 x0.Buckets.length p0_2], .int .i64 x1, .bool x2, .int .i64 x3, .int .i64 x4] w0 (Ret (fun v w => ∃ (A0 : Option Addr) (p0 : Nat) (k0 : Chunk), ∃ (A1 : Option Addr) (p1 : Nat) (k1 : Chunk), ∃ (A2 : Option Addr) (p2 : Nat) (k2 : Chunk), v = .tuple #[.agg #[.slice A0 r.1.Pos.length p0, .slice A1 r.1.Stash.length p1, .slice A2 r.1.Buckets.length p2], .int .i64 r.2.1, .int .i64 r.2.2] ∧ Own (Lay.int .i64) 3 A0 p0 r.1.Pos k0 ∧ Own L_Block 102 A1 p1 r.1.Stash k1 ∧ Own (Lay.sl L_Block 102) 28 A2 p2 r.1.Buckets k2 ∧ Sat [] w0 w [] [(0, k0), (1, k1), (2, k2)])) := by
  have hs : Sat [] w0 w0 [(1, k0_0), (2, k0_1), (3, k0_2)] [] := Sat.init w0 [(1, k0_0), (2, k0_1), (3, k0_2)] [] (by simp only [List.mem_cons, List.not_mem_nil, or_false]; rintro x (rfl | rfl | rfl) <;> assumption) (by simp) List.nodup_nil (by simp [blks])
  unfold impl_Oram_access.f at H
  refine enterM Try.func66 rfl Try.ntmps66 rfl fun a hk => ?_
  apply wp_seq_k; intro K1 hK1
  apply wp_region_lit
  refine sbx 4 hs rfl hk rfl rfl rfl rfl fun b2 w a hk hs => ?_
  refine sbx 5 hs rfl hk rfl rfl rfl rfl fun b3 w a hk hs => ?_
  refine salx 6 hs rfl hk rfl rfl ze31 rfl fun b4 w a hk hs => ?_
  refine sa _ rfl hk rfl rfl rfl fun a hk => ?_
  refine sa _ rfl hk rfl rfl rfl fun a hk => ?_
  show wpList _ _ _ [] _ _
  refine wpList_nil ?_
  refine hK1 _ _ ?_
  apply wp_seq_k; intro K5 hK5
  apply wp_region_lit
  refine sln [.slice A0_0 x0.Pos.length p0_0, .slice A0_1 x0.Stash.length p0_1, .slice A0_2 x0.Buckets.length p0_2] rfl hk rfl rfl rfl ag31 sz31 (box_cells hs (k := 4) rfl) fun a hk => ?_
  obtain ⟨y6, h7, H⟩ := bind_some H
  refine sc rfl en129 hk rfl rfl rfl (impl_Oram_own_t _ x0 A0_0 p0_0 _ v0_0 (hs.hasD (k := 1) rfl) A0_1 p0_1 _ v0_1 (hs.hasD (k := 2) rfl) A0_2 p0_2 _ v0_2 (hs.hasD (k := 3) rfl) _ h7) ?_
  rintro _ w ⟨A8, p9, k10, A12, p13, k14, A16, p17, k18, rfl, o11, o15, o19, hG⟩ a hk
  have hs := hs.call0k hG [7, 8, 9] rfl
  refine salx 10 hs rfl hk rfl rfl ze31 rfl fun b20 w a hk hs => ?_
  refine ssw 10 hs rfl rfl hk rfl rfl rfl rfl sz31 (by simp [Value.oneCell']) rfl fun w a hk hs => ?_
  show wpList _ _ _ [] _ _
  refine wpList_nil ?_
  refine hK5 _ _ ?_
  apply wp_seq_k; intro K21 hK21
  apply wp_region_lit
  refine sf ⟨b2, 0, none⟩ rfl hk rfl rfl rfl fd31_0 rfl fun a hk => ?_
  refine sl rfl hk rfl rfl rfl ag22 (box_cell hs (k := 4) rfl rfl) fun a hk => ?_
  refine sl rfl hk rfl rfl rfl ag3 (box_cell hs (k := 5) rfl rfl) fun a hk => ?_
  rcases ite_some H with ⟨c22, H⟩ | ⟨_, H⟩
  rotate_left
  ·cases H
  obtain ⟨b23, q24, hAc22⟩ := (v0_0).some_ x1 c22.1 c22.2
  refine si rfl hk rfl rfl rfl rfl un22 sz3 c22.1 c22.2 hAc22 fun a hk => ?_
  obtain ⟨_, rfl, e25⟩ := (v0_0).at_ 0 x1 c22.1 c22.2
  refine sl (v := (.int .i64 (x0.Pos.getD x1.toNat 0))) rfl hk rfl rfl rfl ag3 ((e25 0 _ rfl).cell (hs.hasD (k := 1) rfl)) fun a hk => ?_
  refine sa _ rfl hk rfl rfl rfl fun a hk => ?_
  show wpList _ _ _ [] _ _
  refine wpList_nil ?_
  refine hK21 _ _ ?_
  apply wp_seq_k; intro K26 hK26
  apply wp_region_lit
  refine sm _ rfl hk rfl rfl rfl fun a hk => ?_
  obtain ⟨y27, h28, H⟩ := bind_some H
  refine sc rfl en130 hk rfl rfl rfl (impl_pathOf_t _ (x0.Pos.getD x1.toNat 0) _ h28) ?_
  rintro _ w ⟨A29, p30, k31, rfl, o32, hG⟩ a hk
  have hs := hs.call0k hG [11] rfl
  refine sa _ rfl hk rfl rfl rfl fun a hk => ?_
  show wpList _ _ _ [] _ _
  refine wpList_nil ?_
  refine hK26 _ _ ?_
  have hs := hs.pick [(11, 11), (5, 5), (6, 6), (10, 10), (7, 7), (8, 8), (9, 9)] rfl
  apply wp_seq_k; intro K33 hK33
  apply wp_region_lit
  refine sf ⟨b20, 1, none⟩ rfl hk rfl rfl rfl fd31_1 rfl fun a hk => ?_
  refine sl rfl hk rfl rfl rfl ag28 (box_cell hs (k := 10) rfl rfl) fun a hk => ?_
  refine salx 12 hs rfl hk rfl rfl ze28 rfl fun b34 w a hk hs => ?_
  refine ssx (cs' := #[.slice A12 y6.Stash.length p13]) 12 hs rfl rfl hk rfl rfl rfl rfl sz28 rfl rfl rfl rfl fun w a hk hs => ?_
  show wpList _ _ _ [] _ _
  refine wpList_nil ?_
  refine hK33 _ _ ?_
  apply wp_seq_k; intro K35 hK35
  apply wp_seq_k; intro K36 hK36
  apply wp_region_lit
  refine sm _ rfl hk rfl rfl rfl fun a hk => ?_
  refine sle rfl hk rfl rfl rfl un22 fun a hk => ?_
  refine sm _ rfl hk rfl rfl rfl fun a hk => ?_
  show wpList _ _ _ [] _ _
  refine wpList_nil ?_
  refine hK36 _ _ ?_
  obtain ⟨o62, h63, HL64⟩ := bind_some H
  clear H
  obtain ⟨R65, hR65⟩ : ∃ R : Act → World → Prop, R = fun a w => ∃ (u53 : List (List S_Block)) (u57 : List S_Block) (k54 : Chunk) (A60 : Option Addr) (p61 : Nat) (k58 : Chunk), o62 = .out (u53, u57) ∧ Kn [(2, (.bool x2)), (3, (.int .i64 x3)), (4, (.int .i64 x4)), (6, (.pointer (some ⟨b3, 0, none⟩))), (10, (.pointer (some ⟨b4, 0, none⟩))), (13, (.pointer (some ⟨b20, 0, none⟩))), (14, (.int .i64 (x0.Pos.getD x1.toNat 0))), (15, (.slice A29 y27.length p30)), (16, (.pointer (some ⟨b34, 0, none⟩)))] 134 a ∧ Sat [] w0 w [(1, k0_0), (2, k0_1), (3, k0_2)] [(11, k31), (5, [(b3, .cells #[.int .i64 x1] 3 (0, 0))]), (6, [(b4, .cells #[.slice none 0 0, .slice none 0 0, .slice none 0 0] 31 (0, 0))]), (10, [(b20, .cells #[.slice A8 y6.Pos.length p9, .slice A12 y6.Stash.length p13, .slice A16 y6.Buckets.length p17] 31 (0, 0))]), (7, k10), (9, k54), (12, [(b34, .cells #[.slice A60 u57.length p61] 28 (0, 0))]), (8, k58)] ∧ Own (Lay.sl L_Block 102) 28 A16 p17 u53 k54 ∧ u53.length = y6.Buckets.length ∧ Own L_Block 102 A60 p61 u57 k58 := ⟨_, rfl⟩
  refine wp_cutq R65 ?_ ?_
  ·refine wp_block ?_
   obtain ⟨fu67, h63⟩ := loopO_some h63
   obtain ⟨I66, hI66⟩ : ∃ I : Nat → Act → World → Prop, I = fun fu a w => ∃ (u39 : Int) (u40 : List (List S_Block)) (u48 : List S_Block) (k41 : Chunk) (A51 : Option Addr) (p52 : Nat) (k49 : Chunk), loopN (fun s => impl_Oram_access.s0 y6 y27 s.1 s.2.1 s.2.2) fu (u39, u40, u48) = some o62 ∧ Kn [(2, (.bool x2)), (3, (.int .i64 x3)), (4, (.int .i64 x4)), (6, (.pointer (some ⟨b3, 0, none⟩))), (10, (.pointer (some ⟨b4, 0, none⟩))), (13, (.pointer (some ⟨b20, 0, none⟩))), (14, (.int .i64 (x0.Pos.getD x1.toNat 0))), (15, (.slice A29 y27.length p30)), (16, (.pointer (some ⟨b34, 0, none⟩))), (38, (.slice A29 y27.length p30)), (39, (.int .i64 (y27.length : Int))), (40, (.int .i64 u39))] 134 a ∧ Sat [] w0 w [(1, k0_0), (2, k0_1), (3, k0_2)] [(11, k31), (5, [(b3, .cells #[.int .i64 x1] 3 (0, 0))]), (6, [(b4, .cells #[.slice none 0 0, .slice none 0 0, .slice none 0 0] 31 (0, 0))]), (10, [(b20, .cells #[.slice A8 y6.Pos.length p9, .slice A12 y6.Stash.length p13, .slice A16 y6.Buckets.length p17] 31 (0, 0))]), (7, k10), (9, k41), (12, [(b34, .cells #[.slice A51 u48.length p52] 28 (0, 0))]), (8, k49)] ∧ Own (Lay.sl L_Block 102) 28 A16 p17 u40 k41 ∧ u40.length = y6.Buckets.length ∧ Own L_Block 102 A51 p52 u48 k49 := ⟨_, rfl⟩
   refine wp_loop_ghost I66 fu67 ?_ ?_
   ·rw [hI66]
    exact ⟨0, y6.Buckets, y6.Stash, _, A12, p13, _, h63, (hk.c 2 rfl (hk.c 3 rfl (hk.c 4 rfl (hk.c 6 rfl (hk.c 10 rfl (hk.c 13 rfl (hk.c 14 rfl (hk.c 15 rfl (hk.c 16 rfl (hk.c 38 rfl (hk.c 39 rfl (hk.c 40 rfl hk.k)))))))))))), (hs.pick [(11, 11), (5, 5), (6, 6), (10, 10), (7, 7), (9, 9), (12, 12), (8, 8)] rfl), o19, rfl, o15⟩
   ·clear h63 hk hs
    intro fu67 a w hI0
    rw [hI66] at hI0
    obtain ⟨u39, u40, u48, k41, A51, p52, k49, hi, hk, hs, o42, lh43, o50⟩ := hI0
    obtain ⟨x68, H, h69⟩ := loop_round hi
    try dsimp only at H
    unfold impl_Oram_access.s0 at H
    apply wp_seq_k; intro K70 hK70
    apply wp_region_lit
    refine sv (.bool (decide (u39 < (y27.length : Int)))) hk rfl rfl rfl fun a hk => ?_
    show wpList _ _ _ [] _ _
    refine wpList_nil ?_
    refine hK70 _ _ ?_
    apply wp_seq_k; intro K71 hK71
    rcases cond_some H with ⟨c72, H⟩ | ⟨c72, H⟩
    ·have hk := hk.lit 41 c72 rfl
     refine cnd_true hk rfl rfl ?_
     refine wp_skip ?_
     refine hK71 _ _ ?_
     have hs := hs.pick [(11, 11), (5, 5), (6, 6), (10, 10), (7, 7), (9, 9), (12, 12), (8, 8)] rfl
     apply wp_seq_k; intro K73 hK73
     refine wp_block ?_
     apply wp_seq_k; intro K74 hK74
     apply wp_region_lit
     rcases ite_some H with ⟨c75, H⟩ | ⟨_, H⟩
     rotate_left
     ·cases H
     obtain ⟨b76, q77, hAc75⟩ := (o32.view).some_ u39 c75.1 c75.2
     refine si rfl hk rfl rfl rfl rfl un22 sz3 c75.1 c75.2 hAc75 fun a hk => ?_
     obtain ⟨_, rfl, e78⟩ := (o32.view).at_ 0 u39 c75.1 c75.2
     refine sl (v := (.int .i64 (y27.getD u39.toNat 0))) rfl hk rfl rfl rfl ag3 ((e78 0 _ rfl).cell (hs.hasG (k := 11) rfl)) fun a hk => ?_
     refine sa _ rfl hk rfl rfl rfl fun a hk => ?_
     show wpList _ _ _ [] _ _
     refine wpList_nil ?_
     refine hK74 _ _ ?_
     apply wp_seq_k; intro K79 hK79
     refine wp_region_tree (.q 0 (.q 1 (.q 2 (.alt 3 (.alt 4 (.alt 5 (.alt 6 (.last 7) .stop) .stop) .stop) .stop)))) mo (by kernel_rfl) (hs.pick [(11, 11), (5, 5), (6, 6), (10, 10), (7, 7), (9, 9), (12, 12)] rfl) fun _ => ?_
     have hs := hs.drew
     refine tqst (.slice A51 u48.length p52) hk rfl rfl rfl rfl (fun w hs => sl rfl hk rfl rfl rfl ag28 (box_cell hs (k := 12) rfl rfl) fun a hk => qe hk) fun a hk => ?_
     refine tqst (.pointer (some ⟨b20, 2, none⟩)) hk rfl rfl rfl rfl (fun w hs => sf ⟨b20, 2, none⟩ rfl hk rfl rfl rfl fd31_2 rfl fun a hk => qe hk) fun a hk => ?_
     refine tqst (.slice A16 y6.Buckets.length p17) hk rfl rfl rfl rfl (fun w hs => sl rfl hk rfl rfl rfl ag29 (box_cell hs (k := 10) rfl rfl) fun a hk => qe hk) fun a hk => ?_
     refine tsst hk rfl rfl (fun K_r80_3 hK_r80_3 w hF => ?_) wt_stop
     have hs := hs.f hF
     refine sm _ rfl hk rfl rfl rfl fun a hk => ?_
     refine se (hs.pick [(11, 11), (5, 5), (6, 6), (10, 10), (7, 7), (9, 9), (12, 12)] rfl) hk (hK_r80_3 _ _ ?_)
     refine tsst hk rfl rfl (fun K_r80_4 hK_r80_4 w hF => ?_) wt_stop
     have hs := hs.f hF
     rcases ite_some H with ⟨c81, H⟩ | ⟨_, H⟩
     rotate_left
     ·cases H
     obtain ⟨b82, q83, hAc81⟩ := (o42.view).some_ (y27.getD u39.toNat 0) c81.1 (by rw [lh43]; exact c81.2)
     refine si rfl hk rfl rfl rfl rfl un29 sz28 c81.1 c81.2 hAc81 fun a hk => ?_
     refine se (hs.pick [(11, 11), (5, 5), (6, 6), (10, 10), (7, 7), (9, 9), (12, 12)] rfl) hk (hK_r80_4 _ _ ?_)
     refine tsst hk rfl rfl (fun K_r80_5 hK_r80_5 w hF => ?_) wt_stop
     have hs := hs.f hF
     obtain ⟨_, ⟨_, rfl, A85, p86, rfl, v87⟩, e84⟩ := (o42.view).at_ [] (y27.getD u39.toNat 0) c81.1 (by rw [lh43]; exact c81.2)
     refine sl (v := (.slice A85 (u40.getD (y27.getD u39.toNat 0).toNat []).length p86)) rfl hk rfl rfl rfl ag28 ((e84 0 _ rfl).cell (hs.hasG (k := 9) rfl)) fun a hk => ?_
     refine se (hs.pick [(11, 11), (5, 5), (6, 6), (10, 10), (7, 7), (9, 9), (12, 12)] rfl) hk (hK_r80_5 _ _ ?_)
     refine tsst hk rfl rfl (fun K_r80_6 hK_r80_6 w hF => ?_) wt_stop
     have hs := hs.f hF
     rcases ite_some H with ⟨c88, H⟩ | ⟨_, H⟩
     rotate_left
     ·cases H
     refine sap 8 (xs := u48) (ys := (u40.getD (y27.getD u39.toNat 0).toNat [])) (flat_flat : (L_Block).Flat) hs rfl o50 v87 (hs.hasG (k := 9) rfl) rfl hk rfl rfl rfl rfl rfl rfl un28 mk102 rfl rfl rfl c88 fun A89 p90 k91 w a hk o92 hs => ?_
     refine se (hs.pick [(11, 11), (5, 5), (6, 6), (10, 10), (7, 7), (9, 9), (12, 12)] rfl) hk (hK_r80_6 _ _ ?_)
     refine tlst hk rfl rfl fun K_r80_7 hK_r80_7 w hF => ?_
     have hs := hs.f hF
     refine ssx (cs' := #[.slice A89 (u48 ++ (u40.getD (y27.getD u39.toNat 0).toNat [])).length p90]) 12 hs rfl rfl hk rfl rfl rfl rfl sz28 rfl rfl rfl rfl fun w a hk hs => ?_
     refine se trivial hk (hK_r80_7 _ _ fun w hF => ?_)
     have hs := hs.f hF
     refine hK79 _ _ ?_
     apply wp_region_lit
     refine sf ⟨b20, 2, none⟩ rfl hk rfl rfl rfl fd31_2 rfl fun a hk => ?_
     refine sl rfl hk rfl rfl rfl ag29 (box_cell hs (k := 10) rfl rfl) fun a hk => ?_
     refine sm _ rfl hk rfl rfl rfl fun a hk => ?_
     rcases ite_some H with ⟨c93, H⟩ | ⟨_, H⟩
     rotate_left
     ·cases H
     obtain ⟨b94, q95, hAc93⟩ := (o42.view).some_ (y27.getD u39.toNat 0) c93.1 (by rw [lh43]; exact c93.2)
     refine si rfl hk rfl rfl rfl rfl un29 sz28 c93.1 c93.2 hAc93 fun a hk => ?_
     have hs := hs.addNil 15
     refine som 9 15 [] ([] : List S_Block) hs rfl rfl o42 c93.1 (by rw [lh43]; exact c93.2) rfl hk rfl rfl rfl rfl rfl sz28 (by simp [Value.cells, Value.oneCell']) rfl ⟨_, rfl, (Own.nil _ _).toV⟩ fun k96 w a hk o97 hs => ?_
     have lh98 : (u40.set (y27.getD u39.toNat 0).toNat ([] : List S_Block)).length = y6.Buckets.length := by rw [List.length_set]; exact lh43
     show wpList _ _ _ [] _ _
     refine wpList_nil ?_
     refine hK73 _ _ ?_
     apply wp_region_lit
     refine sv (.int .i64 (w64 (u39 + 1))) hk rfl rfl rfl fun a hk => ?_
     refine sm _ rfl hk rfl rfl rfl fun a hk => ?_
     show wpList _ _ _ [] _ _
     refine wpList_nil ?_
     obtain rfl := Option.some.inj H
     obtain ⟨m99, hmm99, h69⟩ := h69
     show ∃ n', n' < _ ∧ I66 n' _ _
     refine ⟨m99, hmm99, ?_⟩
     rw [hI66]
     exact ⟨(w64 (u39 + 1)), (u40.set (y27.getD u39.toNat 0).toNat ([] : List S_Block)), (u48 ++ (u40.getD (y27.getD u39.toNat 0).toNat [])), _, A89, p90, _, h69, (hk.c 2 rfl (hk.c 3 rfl (hk.c 4 rfl (hk.c 6 rfl (hk.c 10 rfl (hk.c 13 rfl (hk.c 14 rfl (hk.c 15 rfl (hk.c 16 rfl (hk.c 38 rfl (hk.c 39 rfl (hk.c 40 rfl hk.k)))))))))))), (hs.pick [(11, 11), (5, 5), (6, 6), (10, 10), (7, 7), (9, 9), (12, 12), (8, 8)] rfl), o97, lh98, o92⟩
    ·have hk := hk.lit 41 c72 rfl
     refine cnd_false hk rfl rfl ?_
     refine wp_exit ?_
     obtain rfl := Option.some.inj H
     show R65 _ _
     rw [hR65]
     exact ⟨u40, u48, _, A51, p52, _, h69.symm, (hk.c 2 rfl (hk.c 3 rfl (hk.c 4 rfl (hk.c 6 rfl (hk.c 10 rfl (hk.c 13 rfl (hk.c 14 rfl (hk.c 15 rfl (hk.c 16 rfl hk.k))))))))), (hs.pick [(11, 11), (5, 5), (6, 6), (10, 10), (7, 7), (9, 9), (12, 12), (8, 8)] rfl), o42, lh43, o50⟩
  ·intro a w hR0
   rw [hR65] at hR0
   obtain ⟨u53, u57, k54, A60, p61, k58, rfl, hk, hs, o55, lh56, o59⟩ := hR0
   have H := HL64
   try dsimp only at H
   refine hK35 _ _ ?_
   apply wp_seq_k; intro K100 hK100
   apply wp_region_lit
   refine sl rfl hk rfl rfl rfl ag3 (box_cell hs (k := 5) rfl rfl) fun a hk => ?_
   refine sbd (pv := [(0, (.int .i64 x1))]) rfl hk rfl rfl rfl (bd102_6 x1) fun a hk => ?_
   refine salx 16 hs rfl hk rfl rfl ze102 rfl fun b101 w a hk hs => ?_
   refine ssw 16 hs rfl rfl hk rfl rfl rfl rfl sz102 (by simp [Value.oneCell']) rfl fun w a hk hs => ?_
   show wpList _ _ _ [] _ _
   refine wpList_nil ?_
   refine hK100 _ _ ?_
   have hs := hs.pick [(11, 11), (5, 5), (6, 6), (10, 10), (7, 7), (9, 9), (12, 12), (8, 8), (16, 16)] rfl
   apply wp_seq_k; intro K102 hK102
   apply wp_seq_k; intro K103 hK103
   apply wp_region_lit
   refine sl rfl hk rfl rfl rfl ag28 (box_cell hs (k := 12) rfl rfl) fun a hk => ?_
   refine smf (cs := [.pointer (some ⟨b3, 0, none⟩)]) rfl hk rfl rfl rfl fun a hk => ?_
   obtain ⟨y104, h105, H⟩ := bind_some H
   refine sc rfl en131 hk rfl rfl rfl (slices_IndexFunc_impl_Block_impl_Block_t _ A60 p61 u57 _ o59.view (hs.hasG (k := 8) rfl) 132 [.pointer (some ⟨b3, 0, none⟩)] en132 (fun z0 => impl_Oram_access_c1.f z0 x1) [(b3, .cells #[.int .i64 x1] 3 (0, 0))] (fun w hz z0 r h => impl_Oram_access_c1_t w z0 _ x1 hz r h) (hs.hasG (k := 5) rfl) _ h105) ?_
   rintro _ w ⟨rfl, hG⟩ a hk
   have hs := hs.call0 hG
   refine sa _ rfl hk rfl rfl rfl fun a hk => ?_
   show wpList _ _ _ [] _ _
   refine wpList_nil ?_
   refine hK103 _ _ ?_
   apply wp_seq_k; intro K106 hK106
   apply wp_region_lit
   refine sm _ rfl hk rfl rfl rfl fun a hk => ?_
   refine sv (.bool (decide (y104 ≥ 0))) hk rfl rfl rfl fun a hk => ?_
   show wpList _ _ _ [] _ _
   refine wpList_nil ?_
   refine hK106 _ _ ?_
   obtain ⟨o116, h117, HL118⟩ := bind_some H
   clear H
   obtain ⟨R119, hR119⟩ : ∃ R : Act → World → Prop, R = fun a w => ∃ (u108 : List S_Block) (u113 : Int) (u114 : Int) (u115 : Int) (A111 : Option Addr) (p112 : Nat) (k109 : Chunk), (u108, u113, u114, u115) = o116 ∧ Kn [(2, (.bool x2)), (3, (.int .i64 x3)), (4, (.int .i64 x4)), (6, (.pointer (some ⟨b3, 0, none⟩))), (10, (.pointer (some ⟨b4, 0, none⟩))), (13, (.pointer (some ⟨b20, 0, none⟩))), (14, (.int .i64 (x0.Pos.getD x1.toNat 0))), (15, (.slice A29 y27.length p30)), (16, (.pointer (some ⟨b34, 0, none⟩))), (19, (.pointer (some ⟨b101, 0, none⟩)))] 134 a ∧ Sat [] w0 w [(1, k0_0), (2, k0_1), (3, k0_2)] [(11, k31), (5, [(b3, .cells #[.int .i64 x1] 3 (0, 0))]), (6, [(b4, .cells #[.slice none 0 0, .slice none 0 0, .slice none 0 0] 31 (0, 0))]), (10, [(b20, .cells #[.slice A8 y6.Pos.length p9, .slice A12 y6.Stash.length p13, .slice A16 y6.Buckets.length p17] 31 (0, 0))]), (7, k10), (9, k54), (12, [(b34, .cells #[.slice A111 u108.length p112] 28 (0, 0))]), (8, k109), (16, [(b101, .cells #[.int .i64 u113, .int .i64 u114, .int .i64 u115] 102 (0, 0))])] ∧ Own L_Block 102 A111 p112 u108 k109 := ⟨_, rfl⟩
   refine wp_cutq R119 ?_ ?_
   ·have H := h117
    rcases cond_some H with ⟨c120, H⟩ | ⟨c120, H⟩
    ·have hk := hk.lit 62 c120 rfl
     refine cnd_true hk rfl rfl ?_
     apply wp_seq_k; intro K121 hK121
     apply wp_region_lit
     refine sl rfl hk rfl rfl rfl ag28 (box_cell hs (k := 12) rfl rfl) fun a hk => ?_
     refine sm _ rfl hk rfl rfl rfl fun a hk => ?_
     rcases ite_some H with ⟨c122, H⟩ | ⟨_, H⟩
     rotate_left
     ·cases H
     obtain ⟨b123, q124, hAc122⟩ := (o59.view).some_ y104 c122.1 c122.2
     refine si rfl hk rfl rfl rfl rfl un28 sz102 c122.1 c122.2 hAc122 fun a hk => ?_
     obtain ⟨_, rfl, e125⟩ := (o59.view).at_ z_Block y104 c122.1 c122.2
     refine sln [.int .i64 ((u57.getD y104.toNat z_Block).Id), .int .i64 ((u57.getD y104.toNat z_Block).Leaf), .int .i64 ((u57.getD y104.toNat z_Block).Value)] rfl hk rfl rfl rfl ag102 sz102 (cells_at e125 (hs.hasG (k := 8) rfl)) fun a hk => ?_
     refine ssw 16 hs rfl rfl hk rfl rfl rfl rfl sz102 (by simp [Value.oneCell']) rfl fun w a hk hs => ?_
     show wpList _ _ _ [] _ _
     refine wpList_nil ?_
     refine hK121 _ _ ?_
     apply wp_region_lit
     refine sl rfl hk rfl rfl rfl ag28 (box_cell hs (k := 12) rfl rfl) fun a hk => ?_
     refine sm _ rfl hk rfl rfl rfl fun a hk => ?_
     refine sm _ rfl hk rfl rfl rfl fun a hk => ?_
     refine sv (.int .i64 (w64 (y104 + 1))) hk rfl rfl rfl fun a hk => ?_
     rcases ite_some H with ⟨c126, H⟩ | ⟨_, H⟩
     rotate_left
     ·cases H
     refine sc rfl en133 hk rfl rfl rfl (slices_Delete_impl_Block_impl_Block_t 8 (xs := u57) hs rfl o59 c126) ?_
     rintro _ w ⟨A127, p128, k129, rfl, o130, hs⟩ a hk
     refine ssx (cs' := #[.slice A127 (delL u57 y104.toNat (w64 (y104 + 1)).toNat).length p128]) 12 hs rfl rfl hk rfl rfl rfl rfl sz28 rfl rfl rfl rfl fun w a hk hs => ?_
     show wpList _ _ _ [] _ _
     refine wpList_nil ?_
     obtain rfl := Option.some.inj H
     show R119 _ _
     rw [hR119]
     exact ⟨(delL u57 y104.toNat (w64 (y104 + 1)).toNat), (u57.getD y104.toNat z_Block).Id, (u57.getD y104.toNat z_Block).Leaf, (u57.getD y104.toNat z_Block).Value, A127, p128, _, rfl, (hk.c 2 rfl (hk.c 3 rfl (hk.c 4 rfl (hk.c 6 rfl (hk.c 10 rfl (hk.c 13 rfl (hk.c 14 rfl (hk.c 15 rfl (hk.c 16 rfl (hk.c 19 rfl hk.k)))))))))), (hs.pick [(11, 11), (5, 5), (6, 6), (10, 10), (7, 7), (9, 9), (12, 12), (8, 8), (16, 16)] rfl), o130⟩
    ·have hk := hk.lit 62 c120 rfl
     refine cnd_false hk rfl rfl ?_
     refine wp_skip ?_
     obtain rfl := Option.some.inj H
     show R119 _ _
     rw [hR119]
     exact ⟨u57, x1, 0, 0, A60, p61, _, rfl, (hk.c 2 rfl (hk.c 3 rfl (hk.c 4 rfl (hk.c 6 rfl (hk.c 10 rfl (hk.c 13 rfl (hk.c 14 rfl (hk.c 15 rfl (hk.c 16 rfl (hk.c 19 rfl hk.k)))))))))), (hs.pick [(11, 11), (5, 5), (6, 6), (10, 10), (7, 7), (9, 9), (12, 12), (8, 8), (16, 16)] rfl), o59⟩
   ·intro a w hR0
    rw [hR119] at hR0
    obtain ⟨u108, u113, u114, u115, A111, p112, k109, rfl, hk, hs, o110⟩ := hR0
    have H := HL118
    try dsimp only at H
    refine hK102 _ _ ?_
    apply wp_seq_k; intro K131 hK131
    apply wp_region_lit
    refine sf ⟨b101, 2, none⟩ rfl hk rfl rfl rfl fd102_2 rfl fun a hk => ?_
    refine sl rfl hk rfl rfl rfl ag3 (box_cell hs (k := 16) rfl rfl) fun a hk => ?_
    refine sa _ rfl hk rfl rfl rfl fun a hk => ?_
    show wpList _ _ _ [] _ _
    refine wpList_nil ?_
    refine hK131 _ _ ?_
    have hs := hs.pick [(11, 11), (5, 5), (6, 6), (10, 10), (7, 7), (9, 9), (12, 12), (8, 8), (16, 16)] rfl
    apply wp_seq_k; intro K132 hK132
    apply wp_region_lit
    refine sm _ rfl hk rfl rfl rfl fun a hk => ?_
    refine sf ⟨b101, 1, none⟩ rfl hk rfl rfl rfl fd102_1 rfl fun a hk => ?_
    refine ssx (cs' := #[.int .i64 u113, .int .i64 x4, .int .i64 u115]) 16 hs rfl rfl hk rfl rfl rfl rfl sz3 rfl rfl rfl rfl fun w a hk hs => ?_
    show wpList _ _ _ [] _ _
    refine wpList_nil ?_
    refine hK132 _ _ ?_
    apply wp_seq_k; intro K133 hK133
    apply wp_seq_k; intro K134 hK134
    apply wp_region_lit
    refine sm _ rfl hk rfl rfl rfl fun a hk => ?_
    show wpList _ _ _ [] _ _
    refine wpList_nil ?_
    refine hK134 _ _ ?_
    obtain ⟨o137, h138, HL139⟩ := bind_some H
    clear H
    obtain ⟨R140, hR140⟩ : ∃ R : Act → World → Prop, R = fun a w => ∃ (u136 : Int), u136 = o137 ∧ Kn [(4, (.int .i64 x4)), (6, (.pointer (some ⟨b3, 0, none⟩))), (10, (.pointer (some ⟨b4, 0, none⟩))), (13, (.pointer (some ⟨b20, 0, none⟩))), (14, (.int .i64 (x0.Pos.getD x1.toNat 0))), (15, (.slice A29 y27.length p30)), (16, (.pointer (some ⟨b34, 0, none⟩))), (19, (.pointer (some ⟨b101, 0, none⟩))), (21, (.int .i64 u115))] 134 a ∧ Sat [] w0 w [(1, k0_0), (2, k0_1), (3, k0_2)] [(11, k31), (5, [(b3, .cells #[.int .i64 x1] 3 (0, 0))]), (6, [(b4, .cells #[.slice none 0 0, .slice none 0 0, .slice none 0 0] 31 (0, 0))]), (10, [(b20, .cells #[.slice A8 y6.Pos.length p9, .slice A12 y6.Stash.length p13, .slice A16 y6.Buckets.length p17] 31 (0, 0))]), (7, k10), (9, k54), (12, [(b34, .cells #[.slice A111 u108.length p112] 28 (0, 0))]), (8, k109), (16, [(b101, .cells #[.int .i64 u113, .int .i64 x4, .int .i64 u136] 102 (0, 0))])] := ⟨_, rfl⟩
    refine wp_cutq R140 ?_ ?_
    ·have H := h138
     rcases cond_some H with ⟨c141, H⟩ | ⟨c141, H⟩
     ·have hk := hk.lit 76 c141 rfl
      refine cnd_true hk rfl rfl ?_
      apply wp_region_lit
      refine sm _ rfl hk rfl rfl rfl fun a hk => ?_
      refine sf ⟨b101, 2, none⟩ rfl hk rfl rfl rfl fd102_2 rfl fun a hk => ?_
      refine ssx (cs' := #[.int .i64 u113, .int .i64 x4, .int .i64 x3]) 16 hs rfl rfl hk rfl rfl rfl rfl sz3 rfl rfl rfl rfl fun w a hk hs => ?_
      show wpList _ _ _ [] _ _
      refine wpList_nil ?_
      obtain rfl := Option.some.inj H
      show R140 _ _
      rw [hR140]
      exact ⟨x3, rfl, (hk.c 4 rfl (hk.c 6 rfl (hk.c 10 rfl (hk.c 13 rfl (hk.c 14 rfl (hk.c 15 rfl (hk.c 16 rfl (hk.c 19 rfl (hk.c 21 rfl hk.k))))))))), (hs.pick [(11, 11), (5, 5), (6, 6), (10, 10), (7, 7), (9, 9), (12, 12), (8, 8), (16, 16)] rfl)⟩
     ·have hk := hk.lit 76 c141 rfl
      refine cnd_false hk rfl rfl ?_
      refine wp_skip ?_
      obtain rfl := Option.some.inj H
      show R140 _ _
      rw [hR140]
      exact ⟨u115, rfl, (hk.c 4 rfl (hk.c 6 rfl (hk.c 10 rfl (hk.c 13 rfl (hk.c 14 rfl (hk.c 15 rfl (hk.c 16 rfl (hk.c 19 rfl (hk.c 21 rfl hk.k))))))))), (hs.pick [(11, 11), (5, 5), (6, 6), (10, 10), (7, 7), (9, 9), (12, 12), (8, 8), (16, 16)] rfl)⟩
    ·intro a w hR0
     rw [hR140] at hR0
     obtain ⟨u136, rfl, hk, hs⟩ := hR0
     have H := HL139
     try dsimp only at H
     refine hK133 _ _ ?_
     apply wp_seq_k; intro K142 hK142
     apply wp_region_lit
     refine sl rfl hk rfl rfl rfl ag28 (box_cell hs (k := 12) rfl rfl) fun a hk => ?_
     refine sln [.int .i64 u113, .int .i64 x4, .int .i64 u136] rfl hk rfl rfl rfl ag102 sz102 (box_cells hs (k := 16) rfl) fun a hk => ?_
     refine sbs (L := L_Block) (pv := [(0, (.agg #[.int .i64 u113, .int .i64 x4, .int .i64 u136]))]) (xs := [(⟨u113, x4, u136⟩ : S_Block)]) (ess := [[.int .i64 u113, .int .i64 x4, .int .i64 u136]]) 19 hs rfl hk rfl rfl rfl un28 (bs102_3 u113 x4 u136) (AllOwn.cons0 ⟨rfl, rfl⟩ AllOwn.nil) rfl rfl rfl fun b143 k144 w a hk o145 hs => ?_
     rcases ite_some H with ⟨c146, H⟩ | ⟨_, H⟩
     rotate_left
     ·cases H
     refine sap 8 (xs := u108) (ys := [(⟨u113, x4, u136⟩ : S_Block)]) (flat_flat : (L_Block).Flat) hs rfl o110 o145.view (hs.hasG (k := 19) rfl) rfl hk rfl rfl rfl rfl rfl rfl un28 mk102 rfl rfl rfl c146 fun A147 p148 k149 w a hk o150 hs => ?_
     refine ssx (cs' := #[.slice A147 (u108 ++ ([(⟨u113, x4, u136⟩ : S_Block)])).length p148]) 12 hs rfl rfl hk rfl rfl rfl rfl sz28 rfl rfl rfl rfl fun w a hk hs => ?_
     show wpList _ _ _ [] _ _
     refine wpList_nil ?_
     refine hK142 _ _ ?_
     have hs := hs.pick [(11, 11), (5, 5), (6, 6), (10, 10), (7, 7), (9, 9), (12, 12), (8, 8)] rfl
     apply wp_seq_k; intro K151 hK151
     apply wp_region_lit
     refine sf ⟨b20, 0, none⟩ rfl hk rfl rfl rfl fd31_0 rfl fun a hk => ?_
     refine sl rfl hk rfl rfl rfl ag22 (box_cell hs (k := 10) rfl rfl) fun a hk => ?_
     refine sl rfl hk rfl rfl rfl ag3 (box_cell hs (k := 5) rfl rfl) fun a hk => ?_
     refine sm _ rfl hk rfl rfl rfl fun a hk => ?_
     rcases ite_some H with ⟨c152, H⟩ | ⟨_, H⟩
     rotate_left
     ·cases H
     obtain ⟨b153, q154, hAc152⟩ := (o11.view).some_ x1 c152.1 c152.2
     refine si rfl hk rfl rfl rfl rfl un22 sz3 c152.1 c152.2 hAc152 fun a hk => ?_
     refine so (j := 0) 7 0 x4 hs rfl o11 c152.1 c152.2 rfl hk rfl rfl rfl rfl rfl sz3 (by simp [Value.cells, Value.oneCell']) (Nat.le_of_ble_eq_true rfl) (fun _ _ h => ⟨by rw [h.1]; rfl, h.2⟩) fun k155 w a hk o156 hs => ?_
     have lh157 : (y6.Pos.set x1.toNat x4).length = y6.Pos.length := by rw [List.length_set]
     show wpList _ _ _ [] _ _
     refine wpList_nil ?_
     refine hK151 _ _ ?_
     apply wp_seq_k; intro K158 hK158
     apply wp_seq_k; intro K159 hK159
     apply wp_region_lit
     refine sm _ rfl hk rfl rfl rfl fun a hk => ?_
     refine sc rfl en134 hk rfl rfl rfl (slices_Backward_int_int_t _ A29 p30 y27 _ o32.view (hs.hasG (k := 11) rfl)) ?_
     rintro _ w ⟨b160, rfl, hG⟩ a hk
     have hs := hs.call0k hG [20] rfl
     show wpList _ _ _ [] _ _
     refine wpList_nil ?_
     refine hK159 _ _ ?_
     refine wp_block ?_
     obtain ⟨o184, h185, HL186⟩ := bind_some H
     clear H
     obtain ⟨fu189, h185⟩ := loopO_some h185
     obtain ⟨I187, hI187⟩ : ∃ I : Nat → List (Nat × Chunk) → Prop, I = fun (k : Nat) (Γ : List (Nat × Chunk)) => ∃ (u162 : List (List S_Block)) (u170 : List S_Block) (k163 : Chunk) (A173 : Option Addr) (p174 : Nat) (k171 : Chunk), (∃ fu, loopN (fun s => impl_Oram_access.s1 y6 y27 s.1 s.2.1 s.2.2) fu (k, u162, u170) = some o184) ∧ Γ = [(6, [(b4, .cells #[.slice none 0 0, .slice none 0 0, .slice none 0 0] 31 (0, 0))]), (10, [(b20, .cells #[.slice A8 y6.Pos.length p9, .slice A12 y6.Stash.length p13, .slice A16 y6.Buckets.length p17] 31 (0, 0))]), (7, k155), (9, k163), (12, [(b34, .cells #[.slice A173 u170.length p174] 28 (0, 0))]), (8, k171), (20, [(b160, .cells #[.slice A29 y27.length p30] 22 (0, 0))]), (11, k31)] ∧ Own (Lay.sl L_Block 102) 28 A16 p17 u162 k163 ∧ u162.length = y6.Buckets.length ∧ Own L_Block 102 A173 p174 u170 k171 := ⟨_, rfl⟩
     obtain ⟨X188, hX188⟩ : ∃ I : List (Nat × Chunk) → Prop, I = fun (Γ : List (Nat × Chunk)) => False := ⟨_, rfl⟩
     refine rf_law2 (e1 := fun k => .int .i64 ((y27.length : Int) - 1 - (k : Int))) (e2 := fun k => .int .i64 (y27.getD (y27.length - 1 - k) 0)) I187 X188 _ hk rfl rfl rfl en179 (slices_Backward_int_int_seq b160 A29 p30 y27 k31 o32.view) ?_ (StayL.cons (Stay.has w0_0) (StayL.cons (Stay.has w0_1) (StayL.cons (Stay.has w0_2) (StayL.nil _)))) ?_ (StayL.cons Stay.box (StayL.cons Stay.box (StayL.cons (o156.stay (LC.flat : LC (Lay.int .i64))) (StayL.cons (o55.stay (LC.sl (LC.flat : LC L_Block))) (StayL.cons Stay.box (StayL.cons (o150.stay (LC.flat : LC L_Block)) (StayL.cons Stay.box (StayL.cons (o32.stay (LC.flat : LC (Lay.int .i64))) (StayL.nil _))))))))) (hs.pick [(6, 6), (10, 10), (7, 7), (9, 9), (12, 12), (8, 8), (20, 20), (11, 11)] rfl) ?_ ?_ ?_
     ·intro k W Γ hi hs
      rw [hI187] at hi
      obtain ⟨u162, u170, k163, A173, p174, k171, _, rfl, o164, lh165, o172⟩ := hi
      exact Has.app (hs.hasG (k := 20) rfl) (hs.hasG (k := 11) rfl)
     ·rw [hI187]
      exact ⟨u53, (u108 ++ ([(⟨u113, x4, u136⟩ : S_Block)])), _, A147, p148, _, ⟨fu189, h185⟩, rfl, o55, lh56, o150⟩
     ·clear hk hs h185
      intro _ j161 W190 Γ a hk hi _ hS192 hkN
      rw [hI187] at hi
      obtain ⟨u162, u170, k163, A173, p174, k171, ⟨fu196, hi⟩, rfl, o164, lh165, o172⟩ := hi
      obtain ⟨x194, H, h195⟩ := loop_round hi
      try dsimp only at H
      unfold impl_Oram_access.s1 at H
      rcases cond_some H with ⟨_, H⟩ | ⟨hc, H⟩
      rotate_left
      ·rw [decide_eq_true hkN] at hc; cases hc
      have hs := hS192.whole
      refine rin_lit (by rfl) (by rintro ⟨_, _, h⟩; exact h) ?_
      refine sa _ rfl hk rfl rfl rfl fun a hk => ?_
      show wpList _ _ _ [] _ _
      refine wpList_nil ?_
      refine ⟨_, (StayL.cons Stay.box (StayL.cons Stay.box (StayL.cons (o156.stay (LC.flat : LC (Lay.int .i64))) (StayL.cons (o164.stay (LC.sl (LC.flat : LC L_Block))) (StayL.cons Stay.box (StayL.cons (o172.stay (LC.flat : LC L_Block)) (StayL.cons Stay.box (StayL.cons (o32.stay (LC.flat : LC (Lay.int .i64))) (StayL.nil _))))))))), (hs.pick [(6, 6), (10, 10), (7, 7), (9, 9), (12, 12), (8, 8), (20, 20), (11, 11)] rfl), fun W191 hS193 => ?_⟩
      have hs := hS193.whole
      refine wpIn_block ?_
      apply wpIn_seq_k; intro K197 hK197
      refine rin_lit (by rfl) (by rintro ⟨_, _, h⟩; exact h) ?_
      refine sa _ rfl hk rfl rfl rfl fun a hk => ?_
      show wpList _ _ _ [] _ _
      refine wpList_nil ?_
      refine hK197 _ _ ?_
      apply wpIn_seq_k; intro K198 hK198
      apply wpIn_seq_k; intro K199 hK199
      refine rin_lit (by rfl) (by rintro ⟨_, _, h⟩; exact h) ?_
      refine sl rfl hk rfl rfl rfl ag28 (box_cell hs (k := 12) rfl rfl) fun a hk => ?_
      refine sle rfl hk rfl rfl rfl un28 fun a hk => ?_
      refine sm _ rfl hk rfl rfl rfl fun a hk => ?_
      show wpList _ _ _ [] _ _
      refine wpList_nil ?_
      refine hK199 _ _ ?_
      have hs := hs.pick [(8, 8), (6, 6), (10, 10), (7, 7), (9, 9), (12, 12), (20, 20), (11, 11)] rfl
      obtain ⟨o226, h227, HL228⟩ := bind_some H
      clear H
      obtain ⟨R229, hR229⟩ : ∃ R : Act → World → Prop, R = fun a w => ∃ (u217 : List S_Block) (u222 : List (List S_Block)) (A220 : Option Addr) (p221 : Nat) (k218 : Chunk) (k223 : Chunk), o226 = .out (u217, u222) ∧ Kn [(10, (.pointer (some ⟨b4, 0, none⟩))), (13, (.pointer (some ⟨b20, 0, none⟩))), (14, (.int .i64 (x0.Pos.getD x1.toNat 0))), (16, (.pointer (some ⟨b34, 0, none⟩))), (21, (.int .i64 u115)), (24, (.slice A220 u217.length p221)), (89, (.func (.func 179) #[] #[(.pointer (some ⟨b160, 0, none⟩))]))] 134 a ∧ Sat (blks [(6, [(b4, .cells #[.slice none 0 0, .slice none 0 0, .slice none 0 0] 31 (0, 0))]), (10, [(b20, .cells #[.slice A8 y6.Pos.length p9, .slice A12 y6.Stash.length p13, .slice A16 y6.Buckets.length p17] 31 (0, 0))]), (7, k155), (9, k163), (12, [(b34, .cells #[.slice A173 u170.length p174] 28 (0, 0))]), (8, k171), (20, [(b160, .cells #[.slice A29 y27.length p30] 22 (0, 0))]), (11, k31)]) W191 w [(1, k0_0), (2, k0_1), (3, k0_2)] [(23, k218), (6, [(b4, .cells #[.slice none 0 0, .slice none 0 0, .slice none 0 0] 31 (0, 0))]), (10, [(b20, .cells #[.slice A8 y6.Pos.length p9, .slice A12 y6.Stash.length p13, .slice A16 y6.Buckets.length p17] 31 (0, 0))]), (7, k155), (9, k223), (12, [(b34, .cells #[.slice A173 u170.length p174] 28 (0, 0))]), (8, k171), (20, [(b160, .cells #[.slice A29 y27.length p30] 22 (0, 0))]), (11, k31)] ∧ Own L_Block 102 A220 p221 u217 k218 ∧ Own (Lay.sl L_Block 102) 28 A16 p17 u222 k223 ∧ u222.length = y6.Buckets.length := ⟨_, rfl⟩
      refine wpI_cutq R229 ?_ ?_
      ·refine wpIn_block ?_
       obtain ⟨fu231, h227⟩ := loopO_some h227
       obtain ⟨I230, hI230⟩ : ∃ I : Nat → Act → World → Prop, I = fun fu a w => ∃ (u212 : List S_Block) (u207 : Int) (u208 : List (List S_Block)) (A215 : Option Addr) (p216 : Nat) (k213 : Chunk) (k209 : Chunk), loopN (fun s => impl_Oram_access.s2 y6 y27 j161 u170 s.1 s.2.1 s.2.2) fu (u212, u207, u208) = some o226 ∧ Kn [(10, (.pointer (some ⟨b4, 0, none⟩))), (13, (.pointer (some ⟨b20, 0, none⟩))), (14, (.int .i64 (x0.Pos.getD x1.toNat 0))), (16, (.pointer (some ⟨b34, 0, none⟩))), (21, (.int .i64 u115)), (23, (.int .i64 (y27.getD (y27.length - 1 - j161) 0))), (24, (.slice A215 u212.length p216)), (89, (.func (.func 179) #[] #[(.pointer (some ⟨b160, 0, none⟩))])), (92, (.slice A173 u170.length p174)), (93, (.int .i64 (u170.length : Int))), (94, (.int .i64 u207))] 134 a ∧ Sat (blks [(6, [(b4, .cells #[.slice none 0 0, .slice none 0 0, .slice none 0 0] 31 (0, 0))]), (10, [(b20, .cells #[.slice A8 y6.Pos.length p9, .slice A12 y6.Stash.length p13, .slice A16 y6.Buckets.length p17] 31 (0, 0))]), (7, k155), (9, k163), (12, [(b34, .cells #[.slice A173 u170.length p174] 28 (0, 0))]), (8, k171), (20, [(b160, .cells #[.slice A29 y27.length p30] 22 (0, 0))]), (11, k31)]) W191 w [(1, k0_0), (2, k0_1), (3, k0_2)] [(23, k213), (8, k171), (6, [(b4, .cells #[.slice none 0 0, .slice none 0 0, .slice none 0 0] 31 (0, 0))]), (10, [(b20, .cells #[.slice A8 y6.Pos.length p9, .slice A12 y6.Stash.length p13, .slice A16 y6.Buckets.length p17] 31 (0, 0))]), (7, k155), (9, k209), (12, [(b34, .cells #[.slice A173 u170.length p174] 28 (0, 0))]), (20, [(b160, .cells #[.slice A29 y27.length p30] 22 (0, 0))]), (11, k31)] ∧ Own L_Block 102 A215 p216 u212 k213 ∧ Own (Lay.sl L_Block 102) 28 A16 p17 u208 k209 ∧ u208.length = y6.Buckets.length := ⟨_, rfl⟩
       refine wpIn_loop_ghost I230 fu231 ?_ ?_
       ·rw [hI230]
        exact ⟨([] : List S_Block), 0, u162, none, 0, _, _, h227, (hk.c 10 rfl (hk.c 13 rfl (hk.c 14 rfl (hk.c 16 rfl (hk.c 21 rfl (hk.c 23 rfl (hk.c 24 rfl (hk.c 89 rfl (hk.c 92 rfl (hk.c 93 rfl (hk.c 94 rfl hk.k))))))))))), ((hs.addNil 1023).pick [(23, 1023), (8, 8), (6, 6), (10, 10), (7, 7), (9, 9), (12, 12), (20, 20), (11, 11)] rfl), Own.nil _ _, o164, lh165⟩
       ·clear h227 hk hs
        intro fu231 a w hI0
        rw [hI230] at hI0
        obtain ⟨u212, u207, u208, A215, p216, k213, k209, hi, hk, hs, o214, o210, lh211⟩ := hI0
        obtain ⟨x232, H, h233⟩ := loop_round hi
        try dsimp only at H
        unfold impl_Oram_access.s2 at H
        apply wpIn_seq_k; intro K234 hK234
        refine rin_lit (by rfl) (by rintro ⟨_, _, h⟩; exact h) ?_
        refine sv (.bool (decide (u207 < (u170.length : Int)))) hk rfl rfl rfl fun a hk => ?_
        show wpList _ _ _ [] _ _
        refine wpList_nil ?_
        refine hK234 _ _ ?_
        apply wpIn_seq_k; intro K235 hK235
        rcases cond_some H with ⟨c236, H⟩ | ⟨c236, H⟩
        ·have hk := hk.lit 95 c236 rfl
         refine cndI_true hk rfl rfl ?_
         refine wpIn_skip ?_
         refine hK235 _ _ ?_
         apply wpIn_seq_k; intro K237 hK237
         refine wpIn_block ?_
         apply wpIn_seq_k; intro K238 hK238
         refine rin_lit (by rfl) (by rintro ⟨_, _, h⟩; exact h) ?_
         rcases ite_some H with ⟨c239, H⟩ | ⟨_, H⟩
         rotate_left
         ·cases H
         obtain ⟨b240, q241, hAc239⟩ := (o172.view).some_ u207 c239.1 c239.2
         refine si rfl hk rfl rfl rfl rfl un28 sz102 c239.1 c239.2 hAc239 fun a hk => ?_
         obtain ⟨_, rfl, e242⟩ := (o172.view).at_ z_Block u207 c239.1 c239.2
         refine sln [.int .i64 ((u170.getD u207.toNat z_Block).Id), .int .i64 ((u170.getD u207.toNat z_Block).Leaf), .int .i64 ((u170.getD u207.toNat z_Block).Value)] rfl hk rfl rfl rfl ag102 sz102 (cells_at e242 (hs.hasG (k := 8) rfl)) fun a hk => ?_
         refine salx 24 hs rfl hk rfl rfl ze102 rfl fun b243 w a hk hs => ?_
         refine ssw 24 hs rfl rfl hk rfl rfl rfl rfl sz102 (by simp [Value.oneCell']) rfl fun w a hk hs => ?_
         show wpList _ _ _ [] _ _
         refine wpList_nil ?_
         refine hK238 _ _ ?_
         apply wpIn_seq_k; intro K244 hK244
         obtain ⟨o247, h248, HL249⟩ := bind_some H
         clear H
         obtain ⟨R250, hR250⟩ : ∃ R : Act → World → Prop, R = fun a w => ∃ (u246 : Bool), u246 = o247 ∧ Kn [(10, (.pointer (some ⟨b4, 0, none⟩))), (13, (.pointer (some ⟨b20, 0, none⟩))), (14, (.int .i64 (x0.Pos.getD x1.toNat 0))), (16, (.pointer (some ⟨b34, 0, none⟩))), (21, (.int .i64 u115)), (23, (.int .i64 (y27.getD (y27.length - 1 - j161) 0))), (24, (.slice A215 u212.length p216)), (26, (.pointer (some ⟨b243, 0, none⟩))), (89, (.func (.func 179) #[] #[(.pointer (some ⟨b160, 0, none⟩))])), (92, (.slice A173 u170.length p174)), (93, (.int .i64 (u170.length : Int))), (94, (.int .i64 u207)), (110, (.bool u246))] 134 a ∧ Sat (blks [(6, [(b4, .cells #[.slice none 0 0, .slice none 0 0, .slice none 0 0] 31 (0, 0))]), (10, [(b20, .cells #[.slice A8 y6.Pos.length p9, .slice A12 y6.Stash.length p13, .slice A16 y6.Buckets.length p17] 31 (0, 0))]), (7, k155), (9, k163), (12, [(b34, .cells #[.slice A173 u170.length p174] 28 (0, 0))]), (8, k171), (20, [(b160, .cells #[.slice A29 y27.length p30] 22 (0, 0))]), (11, k31)]) W191 w [(1, k0_0), (2, k0_1), (3, k0_2)] [(23, k213), (8, k171), (6, [(b4, .cells #[.slice none 0 0, .slice none 0 0, .slice none 0 0] 31 (0, 0))]), (10, [(b20, .cells #[.slice A8 y6.Pos.length p9, .slice A12 y6.Stash.length p13, .slice A16 y6.Buckets.length p17] 31 (0, 0))]), (7, k155), (9, k209), (12, [(b34, .cells #[.slice A173 u170.length p174] 28 (0, 0))]), (20, [(b160, .cells #[.slice A29 y27.length p30] 22 (0, 0))]), (11, k31), (24, [(b243, .cells #[.int .i64 ((u170.getD u207.toNat z_Block).Id), .int .i64 ((u170.getD u207.toNat z_Block).Leaf), .int .i64 ((u170.getD u207.toNat z_Block).Value)] 102 (0, 0))])] := ⟨_, rfl⟩
         refine wpI_cutq R250 ?_ ?_
         ·have H := h248
          refine rin_lit (by rfl) (by rintro ⟨_, _, h⟩; exact h) ?_
          refine sf ⟨b20, 2, none⟩ rfl hk rfl rfl rfl fd31_2 rfl fun a hk => ?_
          refine sl rfl hk rfl rfl rfl ag29 (box_cell hs (k := 10) rfl rfl) fun a hk => ?_
          refine sm _ rfl hk rfl rfl rfl fun a hk => ?_
          rcases ite_some H with ⟨c251, H⟩ | ⟨_, H⟩
          rotate_left
          ·cases H
          obtain ⟨b252, q253, hAc251⟩ := (o210.view).some_ (y27.getD (y27.length - 1 - j161) 0) c251.1 (by rw [lh211]; exact c251.2)
          refine si rfl hk rfl rfl rfl rfl un29 sz28 c251.1 c251.2 hAc251 fun a hk => ?_
          obtain ⟨_, ⟨_, rfl, A255, p256, rfl, v257⟩, e254⟩ := (o210.view).at_ [] (y27.getD (y27.length - 1 - j161) 0) c251.1 (by rw [lh211]; exact c251.2)
          refine sl (v := (.slice A255 (u208.getD (y27.getD (y27.length - 1 - j161) 0).toNat []).length p256)) rfl hk rfl rfl rfl ag28 ((e254 0 _ rfl).cell (hs.hasG (k := 9) rfl)) fun a hk => ?_
          refine sle rfl hk rfl rfl rfl un28 fun a hk => ?_
          refine sv (.bool (decide (((u208.getD (y27.getD (y27.length - 1 - j161) 0).toNat []).length : Int) < 2))) hk rfl rfl rfl fun a hk => ?_
          refine sm _ rfl hk rfl rfl rfl fun a hk => ?_
          rcases cond_some H with ⟨c258, H⟩ | ⟨c258, H⟩
          ·have hk := hk.lit 105 c258 rfl
           refine sm _ rfl hk rfl rfl rfl fun a hk => ?_
           refine sf ⟨b243, 1, none⟩ rfl hk rfl rfl rfl fd102_1 rfl fun a hk => ?_
           refine sl rfl hk rfl rfl rfl ag3 (box_cell hs (k := 24) rfl rfl) fun a hk => ?_
           obtain ⟨y259, h260, H⟩ := bind_some H
           refine sc rfl en83 hk rfl rfl rfl (impl_isOnPath_t _ (y27.getD (y27.length - 1 - j161) 0) ((u170.getD u207.toNat z_Block).Leaf) _ h260) ?_
           rintro _ w ⟨rfl, hG⟩ a hk
           have hs := hs.call0 hG
           refine sv (.bool y259) hk rfl rfl rfl fun a hk => ?_
           show wpList _ _ _ [] _ _
           refine wpList_nil ?_
           obtain rfl := Option.some.inj H
           show R250 _ _
           rw [hR250]
           exact ⟨y259, rfl, (hk.c 10 rfl (hk.c 13 rfl (hk.c 14 rfl (hk.c 16 rfl (hk.c 21 rfl (hk.c 23 rfl (hk.c 24 rfl (hk.c 26 rfl (hk.c 89 rfl (hk.c 92 rfl (hk.c 93 rfl (hk.c 94 rfl (hk.c 110 rfl hk.k))))))))))))), (hs.pick [(23, 23), (8, 8), (6, 6), (10, 10), (7, 7), (9, 9), (12, 12), (20, 20), (11, 11), (24, 24)] rfl)⟩
          ·have hk := hk.lit 105 c258 rfl
           refine sk hk rfl rfl rfl fun a hk => ?_
           refine sk hk rfl rfl rfl fun a hk => ?_
           refine sk hk rfl rfl rfl fun a hk => ?_
           refine sk hk rfl rfl rfl fun a hk => ?_
           refine sv (.bool false) hk rfl rfl rfl fun a hk => ?_
           show wpList _ _ _ [] _ _
           refine wpList_nil ?_
           obtain rfl := Option.some.inj H
           show R250 _ _
           rw [hR250]
           exact ⟨false, rfl, (hk.c 10 rfl (hk.c 13 rfl (hk.c 14 rfl (hk.c 16 rfl (hk.c 21 rfl (hk.c 23 rfl (hk.c 24 rfl (hk.c 26 rfl (hk.c 89 rfl (hk.c 92 rfl (hk.c 93 rfl (hk.c 94 rfl (hk.c 110 rfl hk.k))))))))))))), (hs.pick [(23, 23), (8, 8), (6, 6), (10, 10), (7, 7), (9, 9), (12, 12), (20, 20), (11, 11), (24, 24)] rfl)⟩
         ·intro a w hR0
          rw [hR250] at hR0
          obtain ⟨u246, rfl, hk, hs⟩ := hR0
          have H := HL249
          try dsimp only at H
          refine hK244 _ _ ?_
          have hs := hs.pick [(23, 23), (8, 8), (6, 6), (10, 10), (7, 7), (9, 9), (12, 12), (20, 20), (11, 11), (24, 24)] rfl
          obtain ⟨o271, h272, HL273⟩ := bind_some H
          clear H
          obtain ⟨R274, hR274⟩ : ∃ R : Act → World → Prop, R = fun a w => ∃ (u262 : List S_Block) (u267 : List (List S_Block)) (A265 : Option Addr) (p266 : Nat) (k263 : Chunk) (k268 : Chunk), (u262, u267) = o271 ∧ Kn [(10, (.pointer (some ⟨b4, 0, none⟩))), (13, (.pointer (some ⟨b20, 0, none⟩))), (14, (.int .i64 (x0.Pos.getD x1.toNat 0))), (16, (.pointer (some ⟨b34, 0, none⟩))), (21, (.int .i64 u115)), (23, (.int .i64 (y27.getD (y27.length - 1 - j161) 0))), (24, (.slice A265 u262.length p266)), (89, (.func (.func 179) #[] #[(.pointer (some ⟨b160, 0, none⟩))])), (92, (.slice A173 u170.length p174)), (93, (.int .i64 (u170.length : Int))), (94, (.int .i64 u207))] 134 a ∧ Sat (blks [(6, [(b4, .cells #[.slice none 0 0, .slice none 0 0, .slice none 0 0] 31 (0, 0))]), (10, [(b20, .cells #[.slice A8 y6.Pos.length p9, .slice A12 y6.Stash.length p13, .slice A16 y6.Buckets.length p17] 31 (0, 0))]), (7, k155), (9, k163), (12, [(b34, .cells #[.slice A173 u170.length p174] 28 (0, 0))]), (8, k171), (20, [(b160, .cells #[.slice A29 y27.length p30] 22 (0, 0))]), (11, k31)]) W191 w [(1, k0_0), (2, k0_1), (3, k0_2)] [(23, k263), (8, k171), (6, [(b4, .cells #[.slice none 0 0, .slice none 0 0, .slice none 0 0] 31 (0, 0))]), (10, [(b20, .cells #[.slice A8 y6.Pos.length p9, .slice A12 y6.Stash.length p13, .slice A16 y6.Buckets.length p17] 31 (0, 0))]), (7, k155), (9, k268), (12, [(b34, .cells #[.slice A173 u170.length p174] 28 (0, 0))]), (20, [(b160, .cells #[.slice A29 y27.length p30] 22 (0, 0))]), (11, k31)] ∧ Own L_Block 102 A265 p266 u262 k263 ∧ Own (Lay.sl L_Block 102) 28 A16 p17 u267 k268 ∧ u267.length = y6.Buckets.length := ⟨_, rfl⟩
          refine wpI_cutq R274 ?_ ?_
          ·have H := h272
           rcases cond_some H with ⟨c275, H⟩ | ⟨c275, H⟩
           ·have hk := hk.lit 110 c275 rfl
            refine cndI_true hk rfl rfl ?_
            rcases ite_some H with ⟨c_r276_6_1, H⟩ | ⟨_, H⟩
            rotate_left
            ·cases H
            rcases ite_some H with ⟨c_r276_10_5, H⟩ | ⟨_, H⟩
            rotate_left
            ·cases H
            rcases ite_some H with ⟨c_r276_11_1, H⟩ | ⟨_, H⟩
            rotate_left
            ·cases H
            obtain ⟨R277, hR277⟩ : ∃ R : Act → World → Prop, R = fun a w => ∃ (k_r276_12_1 : Chunk), Kn [(10, (.pointer (some ⟨b4, 0, none⟩))), (13, (.pointer (some ⟨b20, 0, none⟩))), (14, (.int .i64 (x0.Pos.getD x1.toNat 0))), (16, (.pointer (some ⟨b34, 0, none⟩))), (21, (.int .i64 u115)), (23, (.int .i64 (y27.getD (y27.length - 1 - j161) 0))), (24, (.slice A215 u212.length p216)), (89, (.func (.func 179) #[] #[(.pointer (some ⟨b160, 0, none⟩))])), (92, (.slice A173 u170.length p174)), (93, (.int .i64 (u170.length : Int))), (94, (.int .i64 u207))] 134 a ∧ Sat (blks [(6, [(b4, .cells #[.slice none 0 0, .slice none 0 0, .slice none 0 0] 31 (0, 0))]), (10, [(b20, .cells #[.slice A8 y6.Pos.length p9, .slice A12 y6.Stash.length p13, .slice A16 y6.Buckets.length p17] 31 (0, 0))]), (7, k155), (9, k163), (12, [(b34, .cells #[.slice A173 u170.length p174] 28 (0, 0))]), (8, k171), (20, [(b160, .cells #[.slice A29 y27.length p30] 22 (0, 0))]), (11, k31)]) W191 w [(1, k0_0), (2, k0_1), (3, k0_2)] [(23, k213), (8, k171), (6, [(b4, .cells #[.slice none 0 0, .slice none 0 0, .slice none 0 0] 31 (0, 0))]), (10, [(b20, .cells #[.slice A8 y6.Pos.length p9, .slice A12 y6.Stash.length p13, .slice A16 y6.Buckets.length p17] 31 (0, 0))]), (7, k155), (9, k_r276_12_1), (12, [(b34, .cells #[.slice A173 u170.length p174] 28 (0, 0))]), (20, [(b160, .cells #[.slice A29 y27.length p30] 22 (0, 0))]), (11, k31)] ∧ Own (Lay.sl L_Block 102) 28 A16 p17 (u208.set (y27.getD (y27.length - 1 - j161) 0).toNat ((u208.getD (y27.getD (y27.length - 1 - j161) 0).toNat []) ++ ([(u170.getD u207.toNat z_Block)]))) k_r276_12_1 ∧ (u208.set (y27.getD (y27.length - 1 - j161) 0).toNat ((u208.getD (y27.getD (y27.length - 1 - j161) 0).toNat []) ++ ([(u170.getD u207.toNat z_Block)]))).length = y6.Buckets.length := ⟨_, rfl⟩
            refine wpI_cutq R277 ?_ ?_
            ·skip
             refine rin_tree (.q 0 (.q 1 (.q 2 (.q 3 (.q 4 (.q 5 (.q 6 (.q 8 (.alt 7 (.alt 9 (.alt 10 (.alt 11 (.last 12) .stop) .stop) .stop) (.alt 9 (.alt 7 (.alt 10 (.alt 11 (.last 12) .stop) .stop) .stop) .stop)))))))))) mo (by kernel_rfl) (by rintro ⟨_, _, h⟩; exact h) (hs.pick [(23, 23), (8, 8), (6, 6), (10, 10), (7, 7), (12, 12), (20, 20), (11, 11), (24, 24)] rfl) fun _ => ?_
             have hs := hs.drew
             refine tqst (.pointer (some ⟨b20, 2, none⟩)) hk rfl rfl rfl rfl (fun w hs => sf ⟨b20, 2, none⟩ rfl hk rfl rfl rfl fd31_2 rfl fun a hk => qe hk) fun a hk => ?_
             refine tqst (.slice A16 y6.Buckets.length p17) hk rfl rfl rfl rfl (fun w hs => sl rfl hk rfl rfl rfl ag29 (box_cell hs (k := 10) rfl rfl) fun a hk => qe hk) fun a hk => ?_
             refine tqst (.int .i64 (y27.getD (y27.length - 1 - j161) 0)) hk rfl rfl rfl rfl (fun w hs => sm _ rfl hk rfl rfl rfl fun a hk => qe hk) fun a hk => ?_
             refine tqst (.pointer (some ⟨b20, 2, none⟩)) hk rfl rfl rfl rfl (fun w hs => sf ⟨b20, 2, none⟩ rfl hk rfl rfl rfl fd31_2 rfl fun a hk => qe hk) fun a hk => ?_
             refine tqst (.slice A16 y6.Buckets.length p17) hk rfl rfl rfl rfl (fun w hs => sl rfl hk rfl rfl rfl ag29 (box_cell hs (k := 10) rfl rfl) fun a hk => qe hk) fun a hk => ?_
             refine tqst (.int .i64 (y27.getD (y27.length - 1 - j161) 0)) hk rfl rfl rfl rfl (fun w hs => sm _ rfl hk rfl rfl rfl fun a hk => qe hk) fun a hk => ?_
             obtain ⟨b_r276_6_2, q_r276_6_3, hAc_r276_6_1⟩ := (o210.view).some_ (y27.getD (y27.length - 1 - j161) 0) c_r276_6_1.1 (by rw [lh211]; exact c_r276_6_1.2)
             refine tqst (.pointer (some (padd A16 ((y27.getD (y27.length - 1 - j161) 0).toNat * 1)))) hk rfl rfl rfl rfl (fun w hs => si rfl hk rfl rfl rfl rfl un29 sz28 c_r276_6_1.1 c_r276_6_1.2 hAc_r276_6_1 fun a hk => qe hk) fun a hk => ?_
             refine tqst (.agg #[.int .i64 ((u170.getD u207.toNat z_Block).Id), .int .i64 ((u170.getD u207.toNat z_Block).Leaf), .int .i64 ((u170.getD u207.toNat z_Block).Value)]) hk rfl rfl rfl rfl (fun w hs => sln [.int .i64 ((u170.getD u207.toNat z_Block).Id), .int .i64 ((u170.getD u207.toNat z_Block).Leaf), .int .i64 ((u170.getD u207.toNat z_Block).Value)] rfl hk rfl rfl rfl ag102 sz102 (box_cells hs (k := 24) rfl) fun a hk => qe hk) fun a hk => ?_
             refine tsst hk rfl rfl (fun K_r276_7 hK_r276_7 w hF => ?_) ?_
             ·skip
              have hs := hs.f hF
              obtain ⟨_, ⟨_, rfl, A_r276_7_2, p_r276_7_3, rfl, v_r276_7_4⟩, e_r276_7_1⟩ := (o210.view).at_ [] (y27.getD (y27.length - 1 - j161) 0) c_r276_6_1.1 (by rw [lh211]; exact c_r276_6_1.2)
              refine sl (v := (.slice A_r276_7_2 (u208.getD (y27.getD (y27.length - 1 - j161) 0).toNat []).length p_r276_7_3)) rfl hk rfl rfl rfl ag28 ((e_r276_7_1 0 _ rfl).cell (hs.hasG (k := 9) rfl)) fun a hk => ?_
              refine se (hs.pick [(23, 23), (8, 8), (6, 6), (10, 10), (7, 7), (12, 12), (20, 20), (11, 11), (24, 24)] rfl) hk (hK_r276_7 _ _ ?_)
              refine tsst hk rfl rfl (fun K_r276_9 hK_r276_9 w hF => ?_) wt_stop
              have hs := hs.f hF
              refine sbs (L := L_Block) (pv := [(0, (.agg #[.int .i64 ((u170.getD u207.toNat z_Block).Id), .int .i64 ((u170.getD u207.toNat z_Block).Leaf), .int .i64 ((u170.getD u207.toNat z_Block).Value)]))]) (xs := [(u170.getD u207.toNat z_Block)]) (ess := [[.int .i64 ((u170.getD u207.toNat z_Block).Id), .int .i64 ((u170.getD u207.toNat z_Block).Leaf), .int .i64 ((u170.getD u207.toNat z_Block).Value)]]) 127181 hs rfl hk rfl rfl rfl un28 (bs102_3 ((u170.getD u207.toNat z_Block).Id) ((u170.getD u207.toNat z_Block).Leaf) ((u170.getD u207.toNat z_Block).Value)) (AllOwn.cons0 ⟨rfl, rfl⟩ AllOwn.nil) rfl rfl rfl fun b_r276_9_1 k_r276_9_2 w a hk o_r276_9_3 hs => ?_
              refine se (hs.pick [(23, 23), (8, 8), (6, 6), (10, 10), (7, 7), (12, 12), (20, 20), (11, 11), (24, 24)] rfl) hk (hK_r276_9 _ _ ?_)
              refine tsst hk rfl rfl (fun K_r276_10 hK_r276_10 w hF => ?_) wt_stop
              have hs := hs.f hF
              obtain ⟨k_r276_10_1, k_r276_10_2, o_r276_10_3, o_r276_10_4, hs⟩ := Own.holeS 127201 0 [] hs (k := 9) rfl o210 c_r276_6_1.1 (by rw [lh211]; exact c_r276_6_1.2) (e_r276_7_1 0 _ rfl) (fun es d h => el_slH h)
              refine sap 127201 (xs := (u208.getD (y27.getD (y27.length - 1 - j161) 0).toNat [])) (ys := [(u170.getD u207.toNat z_Block)]) (flat_flat : (L_Block).Flat) hs rfl o_r276_10_3 o_r276_9_3.view (hs.hasG (k := 127181) rfl) rfl hk rfl rfl rfl rfl rfl rfl un28 mk102 rfl rfl rfl c_r276_10_5 fun A_r276_10_6 p_r276_10_7 k_r276_10_8 w a hk o_r276_10_9 hs => ?_
              refine se (hs.pick [(23, 23), (8, 8), (6, 6), (10, 10), (7, 7), (12, 12), (20, 20), (11, 11), (24, 24)] rfl) hk (hK_r276_10 _ _ ?_)
              refine tsst hk rfl rfl (fun K_r276_11 hK_r276_11 w hF => ?_) wt_stop
              have hs := hs.f hF
              obtain ⟨b_r276_11_2, q_r276_11_3, hAc_r276_11_1⟩ := o_r276_10_4.some_
              refine si rfl hk rfl rfl rfl rfl un29 sz28 c_r276_11_1.1 c_r276_11_1.2 hAc_r276_11_1 fun a hk => ?_
              refine se (hs.pick [(23, 23), (8, 8), (6, 6), (10, 10), (7, 7), (12, 12), (20, 20), (11, 11), (24, 24)] rfl) hk (hK_r276_11 _ _ ?_)
              refine tlst hk rfl rfl fun K_r276_12 hK_r276_12 w hF => ?_
              have hs := hs.f hF
              refine soh 9 127201 ((u208.getD (y27.getD (y27.length - 1 - j161) 0).toNat []) ++ ([(u170.getD u207.toNat z_Block)])) hs rfl rfl o_r276_10_4 c_r276_11_1.1 (by rw [lh211]; exact c_r276_11_1.2) rfl hk rfl rfl rfl rfl rfl sz28 (by simp [Value.cells, Value.oneCell']) rfl ⟨_, rfl, o_r276_10_9.toV⟩ fun k_r276_12_1 w a hk o_r276_12_2 hs => ?_
              have lh_r276_12_3 : (u208.set (y27.getD (y27.length - 1 - j161) 0).toNat ((u208.getD (y27.getD (y27.length - 1 - j161) 0).toNat []) ++ ([(u170.getD u207.toNat z_Block)]))).length = y6.Buckets.length := by rw [List.length_set]; exact lh211
              refine se trivial hk (hK_r276_12 _ _ fun w hF => ?_)
              have hs := hs.f hF
              show R277 _ _
              rw [hR277]
              exact ⟨k_r276_12_1, (hk.c 10 rfl (hk.c 13 rfl (hk.c 14 rfl (hk.c 16 rfl (hk.c 21 rfl (hk.c 23 rfl (hk.c 24 rfl (hk.c 89 rfl (hk.c 92 rfl (hk.c 93 rfl (hk.c 94 rfl hk.k))))))))))), (hs.pick [(23, 23), (8, 8), (6, 6), (10, 10), (7, 7), (9, 9), (12, 12), (20, 20), (11, 11)] rfl), o_r276_12_2, lh_r276_12_3⟩
             refine tsst hk rfl rfl (fun K_r276_9 hK_r276_9 w hF => ?_) wt_stop
             have hs := hs.f hF
             refine sbs (L := L_Block) (pv := [(0, (.agg #[.int .i64 ((u170.getD u207.toNat z_Block).Id), .int .i64 ((u170.getD u207.toNat z_Block).Leaf), .int .i64 ((u170.getD u207.toNat z_Block).Value)]))]) (xs := [(u170.getD u207.toNat z_Block)]) (ess := [[.int .i64 ((u170.getD u207.toNat z_Block).Id), .int .i64 ((u170.getD u207.toNat z_Block).Leaf), .int .i64 ((u170.getD u207.toNat z_Block).Value)]]) 127181 hs rfl hk rfl rfl rfl un28 (bs102_3 ((u170.getD u207.toNat z_Block).Id) ((u170.getD u207.toNat z_Block).Leaf) ((u170.getD u207.toNat z_Block).Value)) (AllOwn.cons0 ⟨rfl, rfl⟩ AllOwn.nil) rfl rfl rfl fun b_r276_9_1 k_r276_9_2 w a hk o_r276_9_3 hs => ?_
             refine se (hs.pick [(23, 23), (8, 8), (6, 6), (10, 10), (7, 7), (12, 12), (20, 20), (11, 11), (24, 24)] rfl) hk (hK_r276_9 _ _ ?_)
             refine tsst hk rfl rfl (fun K_r276_7 hK_r276_7 w hF => ?_) wt_stop
             have hs := hs.f hF
             obtain ⟨_, ⟨_, rfl, A_r276_7_2, p_r276_7_3, rfl, v_r276_7_4⟩, e_r276_7_1⟩ := (o210.view).at_ [] (y27.getD (y27.length - 1 - j161) 0) c_r276_6_1.1 (by rw [lh211]; exact c_r276_6_1.2)
             refine sl (v := (.slice A_r276_7_2 (u208.getD (y27.getD (y27.length - 1 - j161) 0).toNat []).length p_r276_7_3)) rfl hk rfl rfl rfl ag28 ((e_r276_7_1 0 _ rfl).cell (hs.hasG (k := 9) rfl)) fun a hk => ?_
             refine se (hs.pick [(23, 23), (8, 8), (6, 6), (10, 10), (7, 7), (12, 12), (20, 20), (11, 11), (24, 24)] rfl) hk (hK_r276_7 _ _ ?_)
             refine tsst hk rfl rfl (fun K_r276_10 hK_r276_10 w hF => ?_) wt_stop
             have hs := hs.f hF
             obtain ⟨k_r276_10_1, k_r276_10_2, o_r276_10_3, o_r276_10_4, hs⟩ := Own.holeS 127201 0 [] hs (k := 9) rfl o210 c_r276_6_1.1 (by rw [lh211]; exact c_r276_6_1.2) (e_r276_7_1 0 _ rfl) (fun es d h => el_slH h)
             refine sap 127201 (xs := (u208.getD (y27.getD (y27.length - 1 - j161) 0).toNat [])) (ys := [(u170.getD u207.toNat z_Block)]) (flat_flat : (L_Block).Flat) hs rfl o_r276_10_3 o_r276_9_3.view (hs.hasG (k := 127181) rfl) rfl hk rfl rfl rfl rfl rfl rfl un28 mk102 rfl rfl rfl c_r276_10_5 fun A_r276_10_6 p_r276_10_7 k_r276_10_8 w a hk o_r276_10_9 hs => ?_
             refine se (hs.pick [(23, 23), (8, 8), (6, 6), (10, 10), (7, 7), (12, 12), (20, 20), (11, 11), (24, 24)] rfl) hk (hK_r276_10 _ _ ?_)
             refine tsst hk rfl rfl (fun K_r276_11 hK_r276_11 w hF => ?_) wt_stop
             have hs := hs.f hF
             obtain ⟨b_r276_11_2, q_r276_11_3, hAc_r276_11_1⟩ := o_r276_10_4.some_
             refine si rfl hk rfl rfl rfl rfl un29 sz28 c_r276_11_1.1 c_r276_11_1.2 hAc_r276_11_1 fun a hk => ?_
             refine se (hs.pick [(23, 23), (8, 8), (6, 6), (10, 10), (7, 7), (12, 12), (20, 20), (11, 11), (24, 24)] rfl) hk (hK_r276_11 _ _ ?_)
             refine tlst hk rfl rfl fun K_r276_12 hK_r276_12 w hF => ?_
             have hs := hs.f hF
             refine soh 9 127201 ((u208.getD (y27.getD (y27.length - 1 - j161) 0).toNat []) ++ ([(u170.getD u207.toNat z_Block)])) hs rfl rfl o_r276_10_4 c_r276_11_1.1 (by rw [lh211]; exact c_r276_11_1.2) rfl hk rfl rfl rfl rfl rfl sz28 (by simp [Value.cells, Value.oneCell']) rfl ⟨_, rfl, o_r276_10_9.toV⟩ fun k_r276_12_1 w a hk o_r276_12_2 hs => ?_
             have lh_r276_12_3 : (u208.set (y27.getD (y27.length - 1 - j161) 0).toNat ((u208.getD (y27.getD (y27.length - 1 - j161) 0).toNat []) ++ ([(u170.getD u207.toNat z_Block)]))).length = y6.Buckets.length := by rw [List.length_set]; exact lh211
             refine se trivial hk (hK_r276_12 _ _ fun w hF => ?_)
             have hs := hs.f hF
             show R277 _ _
             rw [hR277]
             exact ⟨k_r276_12_1, (hk.c 10 rfl (hk.c 13 rfl (hk.c 14 rfl (hk.c 16 rfl (hk.c 21 rfl (hk.c 23 rfl (hk.c 24 rfl (hk.c 89 rfl (hk.c 92 rfl (hk.c 93 rfl (hk.c 94 rfl hk.k))))))))))), (hs.pick [(23, 23), (8, 8), (6, 6), (10, 10), (7, 7), (9, 9), (12, 12), (20, 20), (11, 11)] rfl), o_r276_12_2, lh_r276_12_3⟩
            ·intro a w hR0
             rw [hR277] at hR0
             obtain ⟨k_r276_12_1, hk, hs, o_r276_12_2, lh_r276_12_3⟩ := hR0
             obtain rfl := Option.some.inj H
             show R274 _ _
             rw [hR274]
             exact ⟨u212, (u208.set (y27.getD (y27.length - 1 - j161) 0).toNat ((u208.getD (y27.getD (y27.length - 1 - j161) 0).toNat []) ++ ([(u170.getD u207.toNat z_Block)]))), A215, p216, _, _, rfl, (hk.c 10 rfl (hk.c 13 rfl (hk.c 14 rfl (hk.c 16 rfl (hk.c 21 rfl (hk.c 23 rfl (hk.c 24 rfl (hk.c 89 rfl (hk.c 92 rfl (hk.c 93 rfl (hk.c 94 rfl hk.k))))))))))), (hs.pick [(23, 23), (8, 8), (6, 6), (10, 10), (7, 7), (9, 9), (12, 12), (20, 20), (11, 11)] rfl), o214, o_r276_12_2, lh_r276_12_3⟩
           ·have hk := hk.lit 110 c275 rfl
            refine cndI_false hk rfl rfl ?_
            refine rin_lit (by rfl) (by rintro ⟨_, _, h⟩; exact h) ?_
            refine sm _ rfl hk rfl rfl rfl fun a hk => ?_
            refine sln [.int .i64 ((u170.getD u207.toNat z_Block).Id), .int .i64 ((u170.getD u207.toNat z_Block).Leaf), .int .i64 ((u170.getD u207.toNat z_Block).Value)] rfl hk rfl rfl rfl ag102 sz102 (box_cells hs (k := 24) rfl) fun a hk => ?_
            refine sbs (L := L_Block) (pv := [(0, (.agg #[.int .i64 ((u170.getD u207.toNat z_Block).Id), .int .i64 ((u170.getD u207.toNat z_Block).Leaf), .int .i64 ((u170.getD u207.toNat z_Block).Value)]))]) (xs := [(u170.getD u207.toNat z_Block)]) (ess := [[.int .i64 ((u170.getD u207.toNat z_Block).Id), .int .i64 ((u170.getD u207.toNat z_Block).Leaf), .int .i64 ((u170.getD u207.toNat z_Block).Value)]]) 28 hs rfl hk rfl rfl rfl un28 (bs102_3 ((u170.getD u207.toNat z_Block).Id) ((u170.getD u207.toNat z_Block).Leaf) ((u170.getD u207.toNat z_Block).Value)) (AllOwn.cons0 ⟨rfl, rfl⟩ AllOwn.nil) rfl rfl rfl fun b278 k279 w a hk o280 hs => ?_
            rcases ite_some H with ⟨c281, H⟩ | ⟨_, H⟩
            rotate_left
            ·cases H
            refine sap 23 (xs := u212) (ys := [(u170.getD u207.toNat z_Block)]) (flat_flat : (L_Block).Flat) hs rfl o214 o280.view (hs.hasG (k := 28) rfl) rfl hk rfl rfl rfl rfl rfl rfl un28 mk102 rfl rfl rfl c281 fun A282 p283 k284 w a hk o285 hs => ?_
            refine sa _ rfl hk rfl rfl rfl fun a hk => ?_
            show wpList _ _ _ [] _ _
            refine wpList_nil ?_
            obtain rfl := Option.some.inj H
            show R274 _ _
            rw [hR274]
            exact ⟨(u212 ++ ([(u170.getD u207.toNat z_Block)])), u208, A282, p283, _, _, rfl, (hk.c 10 rfl (hk.c 13 rfl (hk.c 14 rfl (hk.c 16 rfl (hk.c 21 rfl (hk.c 23 rfl (hk.c 24 rfl (hk.c 89 rfl (hk.c 92 rfl (hk.c 93 rfl (hk.c 94 rfl hk.k))))))))))), (hs.pick [(23, 23), (8, 8), (6, 6), (10, 10), (7, 7), (9, 9), (12, 12), (20, 20), (11, 11)] rfl), o285, o210, lh211⟩
          ·intro a w hR0
           rw [hR274] at hR0
           obtain ⟨u262, u267, A265, p266, k263, k268, rfl, hk, hs, o264, o269, lh270⟩ := hR0
           have H := HL273
           try dsimp only at H
           refine hK237 _ _ ?_
           refine rin_lit (by rfl) (by rintro ⟨_, _, h⟩; exact h) ?_
           refine sv (.int .i64 (w64 (u207 + 1))) hk rfl rfl rfl fun a hk => ?_
           refine sm _ rfl hk rfl rfl rfl fun a hk => ?_
           show wpList _ _ _ [] _ _
           refine wpList_nil ?_
           obtain rfl := Option.some.inj H
           obtain ⟨m286, hmm286, h233⟩ := h233
           show ∃ n', n' < _ ∧ I230 n' _ _
           refine ⟨m286, hmm286, ?_⟩
           rw [hI230]
           exact ⟨u262, (w64 (u207 + 1)), u267, A265, p266, _, _, h233, (hk.c 10 rfl (hk.c 13 rfl (hk.c 14 rfl (hk.c 16 rfl (hk.c 21 rfl (hk.c 23 rfl (hk.c 24 rfl (hk.c 89 rfl (hk.c 92 rfl (hk.c 93 rfl (hk.c 94 rfl hk.k))))))))))), (hs.pick [(23, 23), (8, 8), (6, 6), (10, 10), (7, 7), (9, 9), (12, 12), (20, 20), (11, 11)] rfl), o264, o269, lh270⟩
        ·have hk := hk.lit 95 c236 rfl
         refine cndI_false hk rfl rfl ?_
         refine wpIn_exit ?_
         obtain rfl := Option.some.inj H
         show R229 _ _
         rw [hR229]
         exact ⟨u212, u208, A215, p216, _, _, h233.symm, (hk.c 10 rfl (hk.c 13 rfl (hk.c 14 rfl (hk.c 16 rfl (hk.c 21 rfl (hk.c 24 rfl (hk.c 89 rfl hk.k))))))), (hs.pick [(23, 23), (6, 6), (10, 10), (7, 7), (9, 9), (12, 12), (8, 8), (20, 20), (11, 11)] rfl), o214, o210, lh211⟩
      ·intro a w hR0
       rw [hR229] at hR0
       obtain ⟨u217, u222, A220, p221, k218, k223, rfl, hk, hs, o219, o224, lh225⟩ := hR0
       have H := HL228
       try dsimp only at H
       refine hK198 _ _ ?_
       refine rin_lit (by rfl) (by rintro ⟨_, _, h⟩; exact h) ?_
       refine sm _ rfl hk rfl rfl rfl fun a hk => ?_
       refine ssx (cs' := #[.slice A220 u217.length p221]) 12 hs rfl rfl hk rfl rfl rfl rfl sz28 rfl rfl rfl rfl fun w a hk hs => ?_
       show wpList _ _ _ [] _ _
       refine wpList_nil ?_
       obtain rfl := Option.some.inj H
       obtain ⟨m287, _, h195⟩ := h195
       show ∃ Γ2, I187 (j161 + 1) Γ2 ∧ StayL w0 Γ2 ∧ Sat (blks [(6, [(b4, .cells #[.slice none 0 0, .slice none 0 0, .slice none 0 0] 31 (0, 0))]), (10, [(b20, .cells #[.slice A8 y6.Pos.length p9, .slice A12 y6.Stash.length p13, .slice A16 y6.Buckets.length p17] 31 (0, 0))]), (7, k155), (9, k163), (12, [(b34, .cells #[.slice A173 u170.length p174] 28 (0, 0))]), (8, k171), (20, [(b160, .cells #[.slice A29 y27.length p30] 22 (0, 0))]), (11, k31)]) W191 _ [(1, k0_0), (2, k0_1), (3, k0_2)] Γ2
       refine ⟨_, ?_, (StayL.cons Stay.box (StayL.cons Stay.box (StayL.cons (o156.stay (LC.flat : LC (Lay.int .i64))) (StayL.cons (o224.stay (LC.sl (LC.flat : LC L_Block))) (StayL.cons Stay.box (StayL.cons (o219.stay (LC.flat : LC L_Block)) (StayL.cons Stay.box (StayL.cons (o32.stay (LC.flat : LC (Lay.int .i64))) (StayL.nil _))))))))), (hs.pick [(6, 6), (10, 10), (7, 7), (9, 9), (12, 12), (8, 23), (20, 20), (11, 11)] rfl)⟩
       rw [hI187]
       exact ⟨u222, u217, _, A220, p221, _, ⟨m287, h195⟩, rfl, o224, lh225, o219⟩
     ·intro D288 W289 Γ hi hS293 hs hD291 hD290
      rw [hI187] at hi
      obtain ⟨u175, u179, k176, A182, p183, k180, ⟨_, hi⟩, rfl, o177, lh178, o181⟩ := hi
      obtain ⟨_, H, h195⟩ := loop_round hi
      try dsimp only at H
      unfold impl_Oram_access.s1 at H
      rcases cond_some H with ⟨hc, _⟩ | ⟨_, H⟩
      ·exact absurd hc (by simp)
      obtain rfl := Option.some.inj H
      try dsimp only at h195
      subst h195
      have H := HL186
      try dsimp only at H
      have hS292 := hs
      have hs := hS292.whole
      refine hK158 _ _ ?_
      apply wp_seq_k; intro K294 hK294
      apply rmark_lit
      refine sl rfl hk rfl rfl rfl ag28 (box_cell hs (k := 12) rfl rfl) fun a hk => ?_
      refine sf ⟨b20, 1, none⟩ rfl hk rfl rfl rfl fd31_1 rfl fun a hk => ?_
      refine ssx (cs' := #[.slice A8 y6.Pos.length p9, .slice A182 u179.length p183, .slice A16 y6.Buckets.length p17]) 10 hs rfl rfl hk rfl rfl rfl rfl sz28 rfl rfl rfl rfl fun w a hk hs => ?_
      show wpList _ _ _ [] _ _
      refine wpList_nil ?_
      refine hK294 _ _ ?_
      have hs := hs.pick [(6, 6), (10, 10), (7, 7), (8, 8), (9, 9)] rfl
      apply wp_seq_k; intro K295 hK295
      apply rmark_lit
      refine sln [.slice A8 y6.Pos.length p9, .slice A182 u179.length p183, .slice A16 y6.Buckets.length p17] rfl hk rfl rfl rfl ag31 sz31 (box_cells hs (k := 10) rfl) fun a hk => ?_
      refine sm _ rfl hk rfl rfl rfl fun a hk => ?_
      refine sm _ rfl hk rfl rfl rfl fun a hk => ?_
      refine ssw 6 hs rfl rfl hk rfl rfl rfl rfl sz31 (by simp [Value.oneCell']) rfl fun w a hk hs => ?_
      refine sa _ rfl hk rfl rfl rfl fun a hk => ?_
      refine sa _ rfl hk rfl rfl rfl fun a hk => ?_
      show wpList _ _ _ [] _ _
      refine wpList_nil ?_
      refine hK295 _ _ ?_
      refine wp_ret ?_
      obtain rfl := Option.some.inj H
      have hs := hs.pick [(7, 7), (8, 8), (9, 9), (6, 6)] rfl
      have hD2 := hS292.keepD hs hS293 hD290 rfl hD291
      have hs := (hS292.backAll hs).putObj (.deferred none) hD2 rfl hD291 hD291 (StayL.cons (Stay.has w0_0) (StayL.cons (Stay.has w0_1) (StayL.cons (Stay.has w0_2) (StayL.nil _)))) (StayL.cons (o156.stay (LC.flat : LC (Lay.int .i64))) (StayL.cons (o181.stay (LC.flat : LC L_Block)) (StayL.cons (o177.stay (LC.sl (LC.flat : LC L_Block))) (StayL.cons Stay.box (StayL.nil _)))))
      exact finD hk hD2 _ [(.agg #[.slice A8 y6.Pos.length p9, .slice A182 u179.length p183, .slice A16 y6.Buckets.length p17]), (.int .i64 u115), (.int .i64 (x0.Pos.getD x1.toNat 0))] rfl ⟨⟨_, rfl, run_loadN ag31 sz31 (box_cells hs (k := 6) rfl)⟩, ⟨rfl, ⟨rfl, trivial⟩⟩⟩ ⟨A8, p9, _, A182, p183, _, A16, p17, _, (by first | (rw [lh157, lh178]; done) | (rw [lh157, lh178]; rfl)), o156, o181, o177, (hs.pick [(0, 7), (1, 8), (2, 9)] rfl).dnil⟩
     ·intro D288 W289 Γ hi hS293 hs hD291 hD290
      rw [hX188] at hi
      exact hi.elim

noncomputable def impl_Access.f (x0 : S_Oram) (x1 : Int) (x2 : Bool) (x3 : Int) (x4 : Int) : Option (S_Oram × Int × Int × Int) :=
  ((impl_OramOK.f x0).bind fun y6 => (bif (!y6) then (some ((⟨([] : List Int), ([] : List S_Block), ([] : List (List S_Block))⟩ : S_Oram), 0, 0, 1)) else ((((impl_isId.f x1).bind fun y17 => (bif (!y17) then (some true) else ((impl_isLeaf.f x4).bind fun y20 => (bif (!y20) then (some true) else ((impl_isValue.f x3).bind fun y23 => (some (!y23))))))) : Option (Bool)).bind fun u12 => (bif u12 then (some ((⟨([] : List Int), ([] : List S_Block), ([] : List (List S_Block))⟩ : S_Oram), 0, 0, 4)) else ((impl_Oram_access.f x0 x1 x2 x3 x4).bind fun y28 => (some (y28.1, y28.2.1, y28.2.2, 0)))))))
set_option maxRecDepth 100000 in
set_option maxHeartbeats 0 in
theorem impl_Access_t (w0 : World) (x0 : S_Oram) (A0_0 : Option Addr) (p0_0 : Nat) (k0_0 : Chunk) (v0_0 : View (Lay.int .i64) A0_0 p0_0 x0.Pos k0_0) (w0_0 : Has w0 k0_0) (A0_1 : Option Addr) (p0_1 : Nat) (k0_1 : Chunk) (v0_1 : View L_Block A0_1 p0_1 x0.Stash k0_1) (w0_1 : Has w0 k0_1) (A0_2 : Option Addr) (p0_2 : Nat) (k0_2 : Chunk) (v0_2 : View (Lay.sl L_Block 102) A0_2 p0_2 x0.Buckets k0_2) (w0_2 : Has w0 k0_2) (x1 : Int) (x2 : Bool) (x3 : Int) (x4 : Int) (r : S_Oram × Int × Int × Int) (H : impl_Access.f x0 x1 x2 x3 x4 = some r) :
    Calls Try.prog 12 #[.agg #[.slice A0_0 x0.Pos.length p0_0, .slice A0_1 x0.Stash.length p0_1, .slice A0_2 x0.Buckets.length p0_2], .int .i64 x1, .bool x2, .int .i64 x3, .int .i64 x4] w0 (Ret (fun v w => ∃ (A0 : Option Addr) (p0 : Nat) (k0 : Chunk), ∃ (A1 : Option Addr) (p1 : Nat) (k1 : Chunk), ∃ (A2 : Option Addr) (p2 : Nat) (k2 : Chunk), v = .tuple #[.agg #[.slice A0 r.1.Pos.length p0, .slice A1 r.1.Stash.length p1, .slice A2 r.1.Buckets.length p2], .int .i64 r.2.1, .int .i64 r.2.2.1, .int .i64 r.2.2.2] ∧ Own (Lay.int .i64) 3 A0 p0 r.1.Pos k0 ∧ Own L_Block 102 A1 p1 r.1.Stash k1 ∧ Own (Lay.sl L_Block 102) 28 A2 p2 r.1.Buckets k2 ∧ Sat [] w0 w [] [(0, k0), (1, k1), (2, k2)])) := by
  have hs : Sat [] w0 w0 [(1, k0_0), (2, k0_1), (3, k0_2)] [] := Sat.init w0 [(1, k0_0), (2, k0_1), (3, k0_2)] [] (by simp only [List.mem_cons, List.not_mem_nil, or_false]; rintro x (rfl | rfl | rfl) <;> assumption) (by simp) List.nodup_nil (by simp [blks])
  unfold impl_Access.f at H
  refine enter Try.func12 rfl Try.ntmps12 rfl fun a hk => ?_
  apply wp_seq_k; intro K1 hK1
  apply wp_region_lit
  refine sbx 4 hs rfl hk rfl rfl rfl rfl fun b2 w a hk hs => ?_
  refine salx 5 hs rfl hk rfl rfl ze31 rfl fun b3 w a hk hs => ?_
  refine sa _ rfl hk rfl rfl rfl fun a hk => ?_
  refine sa _ rfl hk rfl rfl rfl fun a hk => ?_
  refine sa _ rfl hk rfl rfl rfl fun a hk => ?_
  show wpList _ _ _ [] _ _
  refine wpList_nil ?_
  refine hK1 _ _ ?_
  apply wp_seq_k; intro K4 hK4
  refine wp_block ?_
  apply wp_seq_k; intro K5 hK5
  apply wp_region_lit
  refine sln [.slice A0_0 x0.Pos.length p0_0, .slice A0_1 x0.Stash.length p0_1, .slice A0_2 x0.Buckets.length p0_2] rfl hk rfl rfl rfl ag31 sz31 (box_cells hs (k := 4) rfl) fun a hk => ?_
  obtain ⟨y6, h7, H⟩ := bind_some H
  refine sc rfl en19 hk rfl rfl rfl (impl_OramOK_t _ x0 A0_0 p0_0 _ v0_0 (hs.hasD (k := 1) rfl) A0_1 p0_1 _ v0_1 (hs.hasD (k := 2) rfl) A0_2 p0_2 _ v0_2 (hs.hasD (k := 3) rfl) _ h7) ?_
  rintro _ w ⟨rfl, hG⟩ a hk
  have hs := hs.call0 hG
  refine sv (.bool (!y6)) hk rfl rfl rfl fun a hk => ?_
  refine sa _ rfl hk rfl rfl rfl fun a hk => ?_
  show wpList _ _ _ [] _ _
  refine wpList_nil ?_
  refine hK5 _ _ ?_
  rcases cond_some H with ⟨c8, H⟩ | ⟨c8, H⟩
  ·have hk := hk.lit 17 c8 rfl
   refine cnd_true hk rfl rfl ?_
   apply wp_seq_k; intro K9 hK9
   apply wp_region_lit
   refine sbd (pv := []) rfl hk rfl rfl rfl bd31_5 fun a hk => ?_
   refine ssw 5 hs rfl rfl hk rfl rfl rfl rfl sz31 (by simp [Value.oneCell']) rfl fun w a hk hs => ?_
   refine sa _ rfl hk rfl rfl rfl fun a hk => ?_
   refine sa _ rfl hk rfl rfl rfl fun a hk => ?_
   refine sa _ rfl hk rfl rfl rfl fun a hk => ?_
   show wpList _ _ _ [] _ _
   refine wpList_nil ?_
   refine hK9 _ _ ?_
   refine wp_ret ?_
   obtain rfl := Option.some.inj H
   have hs := hs.addNil 6
   have hs := hs.addNil 7
   have hs := hs.addNil 8
   exact fin hk _ [(.agg #[.slice none 0 0, .slice none 0 0, .slice none 0 0]), (.int .i64 0), (.int .i64 0), (.int .i64 1)] rfl ⟨⟨_, rfl, run_loadN ag31 sz31 (box_cells hs (k := 5) rfl)⟩, ⟨rfl, ⟨rfl, ⟨rfl, trivial⟩⟩⟩⟩ ⟨none, 0, [], none, 0, [], none, 0, [], rfl, Own.nil _ _, Own.nil _ _, Own.nil _ _, (hs.pick [(0, 6), (1, 7), (2, 8)] rfl).dnil⟩
  ·have hk := hk.lit 17 c8 rfl
   refine cnd_false hk rfl rfl ?_
   apply wp_seq_k; intro K10 hK10
   obtain ⟨o13, h14, HL15⟩ := bind_some H
   clear H
   obtain ⟨R16, hR16⟩ : ∃ R : Act → World → Prop, R = fun a w => ∃ (u12 : Bool), u12 = o13 ∧ Kn [(1, (.int .i64 x1)), (2, (.bool x2)), (3, (.int .i64 x3)), (4, (.int .i64 x4)), (5, (.pointer (some ⟨b2, 0, none⟩))), (10, (.pointer (some ⟨b3, 0, none⟩))), (22, (.bool u12))] 50 a ∧ Sat [] w0 w [(1, k0_0), (2, k0_1), (3, k0_2)] [(4, [(b2, .cells #[.slice A0_0 x0.Pos.length p0_0, .slice A0_1 x0.Stash.length p0_1, .slice A0_2 x0.Buckets.length p0_2] 31 (0, 0))]), (5, [(b3, .cells #[.slice none 0 0, .slice none 0 0, .slice none 0 0] 31 (0, 0))])] := ⟨_, rfl⟩
   refine wp_cutq R16 ?_ ?_
   ·have H := h14
    apply wp_region_lit
    refine sm _ rfl hk rfl rfl rfl fun a hk => ?_
    obtain ⟨y17, h18, H⟩ := bind_some H
    refine sc rfl en63 hk rfl rfl rfl (impl_isId_t _ x1 _ h18) ?_
    rintro _ w ⟨rfl, hG⟩ a hk
    have hs := hs.call0 hG
    refine sv (.bool (!y17)) hk rfl rfl rfl fun a hk => ?_
    refine sm _ rfl hk rfl rfl rfl fun a hk => ?_
    rcases cond_some H with ⟨c19, H⟩ | ⟨c19, H⟩
    ·have hk := hk.lit 26 c19 rfl
     refine sk hk rfl rfl rfl fun a hk => ?_
     refine sk hk rfl rfl rfl fun a hk => ?_
     refine sk hk rfl rfl rfl fun a hk => ?_
     refine sv (.bool true) hk rfl rfl rfl fun a hk => ?_
     refine sm _ rfl hk rfl rfl rfl fun a hk => ?_
     refine sk hk rfl rfl rfl fun a hk => ?_
     refine sk hk rfl rfl rfl fun a hk => ?_
     refine sk hk rfl rfl rfl fun a hk => ?_
     refine sv (.bool true) hk rfl rfl rfl fun a hk => ?_
     refine sa _ rfl hk rfl rfl rfl fun a hk => ?_
     show wpList _ _ _ [] _ _
     refine wpList_nil ?_
     obtain rfl := Option.some.inj H
     show R16 _ _
     rw [hR16]
     exact ⟨true, rfl, (hk.c 1 rfl (hk.c 2 rfl (hk.c 3 rfl (hk.c 4 rfl (hk.c 5 rfl (hk.c 10 rfl (hk.c 22 rfl hk.k))))))), (hs.pick [(4, 4), (5, 5)] rfl)⟩
    ·have hk := hk.lit 26 c19 rfl
     refine sm _ rfl hk rfl rfl rfl fun a hk => ?_
     obtain ⟨y20, h21, H⟩ := bind_some H
     refine sc rfl en64 hk rfl rfl rfl (impl_isLeaf_t _ x4 _ h21) ?_
     rintro _ w ⟨rfl, hG⟩ a hk
     have hs := hs.call0 hG
     refine sv (.bool (!y20)) hk rfl rfl rfl fun a hk => ?_
     refine sv (.bool (!y20)) hk rfl rfl rfl fun a hk => ?_
     refine sm _ rfl hk rfl rfl rfl fun a hk => ?_
     rcases cond_some H with ⟨c22, H⟩ | ⟨c22, H⟩
     ·have hk := hk.lit 31 c22 rfl
      refine sk hk rfl rfl rfl fun a hk => ?_
      refine sk hk rfl rfl rfl fun a hk => ?_
      refine sk hk rfl rfl rfl fun a hk => ?_
      refine sv (.bool true) hk rfl rfl rfl fun a hk => ?_
      refine sa _ rfl hk rfl rfl rfl fun a hk => ?_
      show wpList _ _ _ [] _ _
      refine wpList_nil ?_
      obtain rfl := Option.some.inj H
      show R16 _ _
      rw [hR16]
      exact ⟨true, rfl, (hk.c 1 rfl (hk.c 2 rfl (hk.c 3 rfl (hk.c 4 rfl (hk.c 5 rfl (hk.c 10 rfl (hk.c 22 rfl hk.k))))))), (hs.pick [(4, 4), (5, 5)] rfl)⟩
     ·have hk := hk.lit 31 c22 rfl
      refine sm _ rfl hk rfl rfl rfl fun a hk => ?_
      obtain ⟨y23, h24, H⟩ := bind_some H
      refine sc rfl en65 hk rfl rfl rfl (impl_isValue_t _ x3 _ h24) ?_
      rintro _ w ⟨rfl, hG⟩ a hk
      have hs := hs.call0 hG
      refine sv (.bool (!y23)) hk rfl rfl rfl fun a hk => ?_
      refine sv (.bool (!y23)) hk rfl rfl rfl fun a hk => ?_
      refine sa _ rfl hk rfl rfl rfl fun a hk => ?_
      show wpList _ _ _ [] _ _
      refine wpList_nil ?_
      obtain rfl := Option.some.inj H
      show R16 _ _
      rw [hR16]
      exact ⟨(!y23), rfl, (hk.c 1 rfl (hk.c 2 rfl (hk.c 3 rfl (hk.c 4 rfl (hk.c 5 rfl (hk.c 10 rfl (hk.c 22 rfl hk.k))))))), (hs.pick [(4, 4), (5, 5)] rfl)⟩
   ·intro a w hR0
    rw [hR16] at hR0
    obtain ⟨u12, rfl, hk, hs⟩ := hR0
    have H := HL15
    try dsimp only at H
    refine hK10 _ _ ?_
    rcases cond_some H with ⟨c25, H⟩ | ⟨c25, H⟩
    ·have hk := hk.lit 22 c25 rfl
     refine cnd_true hk rfl rfl ?_
     apply wp_seq_k; intro K26 hK26
     apply wp_region_lit
     refine sbd (pv := []) rfl hk rfl rfl rfl bd31_5 fun a hk => ?_
     refine ssw 5 hs rfl rfl hk rfl rfl rfl rfl sz31 (by simp [Value.oneCell']) rfl fun w a hk hs => ?_
     refine sa _ rfl hk rfl rfl rfl fun a hk => ?_
     refine sa _ rfl hk rfl rfl rfl fun a hk => ?_
     refine sa _ rfl hk rfl rfl rfl fun a hk => ?_
     show wpList _ _ _ [] _ _
     refine wpList_nil ?_
     refine hK26 _ _ ?_
     have hs := hs.pick [(5, 5)] rfl
     refine wp_ret ?_
     obtain rfl := Option.some.inj H
     have hs := hs.addNil 10
     have hs := hs.addNil 11
     have hs := hs.addNil 12
     exact fin hk _ [(.agg #[.slice none 0 0, .slice none 0 0, .slice none 0 0]), (.int .i64 0), (.int .i64 0), (.int .i64 4)] rfl ⟨⟨_, rfl, run_loadN ag31 sz31 (box_cells hs (k := 5) rfl)⟩, ⟨rfl, ⟨rfl, ⟨rfl, trivial⟩⟩⟩⟩ ⟨none, 0, [], none, 0, [], none, 0, [], rfl, Own.nil _ _, Own.nil _ _, Own.nil _ _, (hs.pick [(0, 10), (1, 11), (2, 12)] rfl).dnil⟩
    ·have hk := hk.lit 22 c25 rfl
     refine cnd_false hk rfl rfl ?_
     refine wp_skip ?_
     refine hK4 _ _ ?_
     have hs := hs.pick [(4, 4), (5, 5)] rfl
     apply wp_seq_k; intro K27 hK27
     apply wp_region_lit
     refine sln [.slice A0_0 x0.Pos.length p0_0, .slice A0_1 x0.Stash.length p0_1, .slice A0_2 x0.Buckets.length p0_2] rfl hk rfl rfl rfl ag31 sz31 (box_cells hs (k := 4) rfl) fun a hk => ?_
     refine sm _ rfl hk rfl rfl rfl fun a hk => ?_
     refine sm _ rfl hk rfl rfl rfl fun a hk => ?_
     refine sm _ rfl hk rfl rfl rfl fun a hk => ?_
     refine sm _ rfl hk rfl rfl rfl fun a hk => ?_
     obtain ⟨y28, h29, H⟩ := bind_some H
     refine sc rfl en66 hk rfl rfl rfl (impl_Oram_access_t _ x0 A0_0 p0_0 _ v0_0 (hs.hasD (k := 1) rfl) A0_1 p0_1 _ v0_1 (hs.hasD (k := 2) rfl) A0_2 p0_2 _ v0_2 (hs.hasD (k := 3) rfl) x1 x2 x3 x4 _ h29) ?_
     rintro _ w ⟨A30, p31, k32, A34, p35, k36, A38, p39, k40, rfl, o33, o37, o41, hG⟩ a hk
     have hs := hs.call0k hG [13, 14, 15] rfl
     refine sm _ rfl hk rfl rfl rfl fun a hk => ?_
     refine sv (.agg #[.slice A30 y28.1.Pos.length p31, .slice A34 y28.1.Stash.length p35, .slice A38 y28.1.Buckets.length p39]) hk rfl rfl rfl fun a hk => ?_
     refine sv (.int .i64 y28.2.1) hk rfl rfl rfl fun a hk => ?_
     refine sv (.int .i64 y28.2.2) hk rfl rfl rfl fun a hk => ?_
     refine salx 16 hs rfl hk rfl rfl ze31 rfl fun b42 w a hk hs => ?_
     refine ssw 16 hs rfl rfl hk rfl rfl rfl rfl sz31 (by simp [Value.oneCell']) rfl fun w a hk hs => ?_
     refine sa _ rfl hk rfl rfl rfl fun a hk => ?_
     refine sa _ rfl hk rfl rfl rfl fun a hk => ?_
     show wpList _ _ _ [] _ _
     refine wpList_nil ?_
     refine hK27 _ _ ?_
     apply wp_seq_k; intro K43 hK43
     apply wp_region_lit
     refine sln [.slice A30 y28.1.Pos.length p31, .slice A34 y28.1.Stash.length p35, .slice A38 y28.1.Buckets.length p39] rfl hk rfl rfl rfl ag31 sz31 (box_cells hs (k := 16) rfl) fun a hk => ?_
     refine sm _ rfl hk rfl rfl rfl fun a hk => ?_
     refine sm _ rfl hk rfl rfl rfl fun a hk => ?_
     refine ssw 5 hs rfl rfl hk rfl rfl rfl rfl sz31 (by simp [Value.oneCell']) rfl fun w a hk hs => ?_
     refine sa _ rfl hk rfl rfl rfl fun a hk => ?_
     refine sa _ rfl hk rfl rfl rfl fun a hk => ?_
     refine sa _ rfl hk rfl rfl rfl fun a hk => ?_
     show wpList _ _ _ [] _ _
     refine wpList_nil ?_
     refine hK43 _ _ ?_
     refine wp_ret ?_
     obtain rfl := Option.some.inj H
     exact fin hk _ [(.agg #[.slice A30 y28.1.Pos.length p31, .slice A34 y28.1.Stash.length p35, .slice A38 y28.1.Buckets.length p39]), (.int .i64 y28.2.1), (.int .i64 y28.2.2), (.int .i64 0)] rfl ⟨⟨_, rfl, run_loadN ag31 sz31 (box_cells hs (k := 5) rfl)⟩, ⟨rfl, ⟨rfl, ⟨rfl, trivial⟩⟩⟩⟩ ⟨A30, p31, _, A34, p35, _, A38, p39, _, rfl, o33, o37, o41, (hs.pick [(0, 13), (1, 14), (2, 15)] rfl).dnil⟩

noncomputable def spec_l00Source.f (l0 : List Int) : Option (S_l00Src) :=
  (some (⟨l0, 0, (Int.tmod (l0.length : Int) 1000)⟩ : S_l00Src))
set_option maxRecDepth 100000 in
set_option maxHeartbeats 0 in
theorem spec_l00Source_t (w0 : World) (A0_ : Option Addr) (p0_ : Nat) (l0 : List Int) (k0_ : Chunk) (v0_ : View (Lay.int .u8) A0_ p0_ l0 k0_) (w0_ : Has w0 k0_) (r : S_l00Src) (H : spec_l00Source.f l0 = some r) :
    Calls Try.prog 76 #[.slice A0_ l0.length p0_] w0 (Ret (fun v w => ∃ (bb0 : Nat), ∃ (A0 : Option Addr) (p0 : Nat), ∃ (kS : Chunk), v = .pointer (some ⟨bb0, 0, none⟩) ∧ View (Lay.int .u8) A0 p0 r.code (k0_ ++ kS) ∧ Sat [] w0 w [] [(0, [(bb0, .cells #[.slice A0 r.code.length p0, .int .i64 r.at_, .int .i64 r.seed] 143 (0, 0))]), (1, kS)])) := by
  have hs : Sat [] w0 w0 [(1, k0_)] [] := Sat.init w0 [(1, k0_)] [] (by simp only [List.mem_cons, List.not_mem_nil, or_false]; rintro x (rfl) <;> assumption) (by simp) List.nodup_nil (by simp [blks])
  unfold spec_l00Source.f at H
  refine enter Try.func76 rfl Try.ntmps76 rfl fun a hk => ?_
  apply wp_seq_k; intro K1 hK1
  apply wp_region_lit
  refine sa _ rfl hk rfl rfl rfl fun a hk => ?_
  show wpList _ _ _ [] _ _
  refine wpList_nil ?_
  refine hK1 _ _ ?_
  apply wp_seq_k; intro K2 hK2
  apply wp_region_lit
  refine sm _ rfl hk rfl rfl rfl fun a hk => ?_
  refine sm _ rfl hk rfl rfl rfl fun a hk => ?_
  refine sle rfl hk rfl rfl rfl un38 fun a hk => ?_
  refine sv (.int .i64 (Int.tmod (l0.length : Int) 1000)) hk rfl rfl rfl fun a hk => ?_
  refine sbd (pv := [(0, (.slice A0_ l0.length p0_)), (2, (.int .i64 (Int.tmod (l0.length : Int) 1000)))]) rfl hk rfl rfl rfl (bd143_7 A0_ l0.length p0_ (Int.tmod (l0.length : Int) 1000)) fun a hk => ?_
  refine sbx 2 hs rfl hk rfl rfl rfl rfl fun b3 w a hk hs => ?_
  refine sa _ rfl hk rfl rfl rfl fun a hk => ?_
  show wpList _ _ _ [] _ _
  refine wpList_nil ?_
  refine hK2 _ _ ?_
  refine wp_ret ?_
  obtain rfl := Option.some.inj H
  exact fin hk _ [(.pointer (some ⟨b3, 0, none⟩))] rfl ⟨rfl, trivial⟩ ⟨b3, A0_, p0_, _, rfl, (v0_).sub (Sub.l _ (Sub.refl _)), ((hs.addNil 3000).pick [(0, 2), (1, 3000)] rfl).dnil⟩

noncomputable def spec_l08New.f (l0 : List Int) : Option (S_Oram) :=
  (if ([] : List Int).length + l0.length ≤ 1073741824 then (if 0 ≤ (15 : Int) ∧ (15 : Int) ≤ 1073741824 then (some (⟨(([] : List Int) ++ l0), ([] : List S_Block), (List.replicate ((15 : Int)).toNat ([] : List S_Block))⟩ : S_Oram)) else none) else none)
set_option maxRecDepth 100000 in
set_option maxHeartbeats 0 in
theorem spec_l08New_t (w0 : World) (A0_ : Option Addr) (p0_ : Nat) (l0 : List Int) (k0_ : Chunk) (v0_ : View (Lay.int .i64) A0_ p0_ l0 k0_) (w0_ : Has w0 k0_) (r : S_Oram) (H : spec_l08New.f l0 = some r) :
    Calls Try.prog 136 #[.slice A0_ l0.length p0_] w0 (Ret (fun v w => ∃ (A0 : Option Addr) (p0 : Nat) (k0 : Chunk), ∃ (A1 : Option Addr) (p1 : Nat) (k1 : Chunk), ∃ (A2 : Option Addr) (p2 : Nat) (k2 : Chunk), v = .agg #[.slice A0 r.Pos.length p0, .slice A1 r.Stash.length p1, .slice A2 r.Buckets.length p2] ∧ Own (Lay.int .i64) 3 A0 p0 r.Pos k0 ∧ Own L_Block 102 A1 p1 r.Stash k1 ∧ Own (Lay.sl L_Block 102) 28 A2 p2 r.Buckets k2 ∧ Sat [] w0 w [] [(0, k0), (1, k1), (2, k2)])) := by
  have hs : Sat [] w0 w0 [(1, k0_)] [] := Sat.init w0 [(1, k0_)] [] (by simp only [List.mem_cons, List.not_mem_nil, or_false]; rintro x (rfl) <;> assumption) (by simp) List.nodup_nil (by simp [blks])
  unfold spec_l08New.f at H
  refine enter Try.func136 rfl Try.ntmps136 rfl fun a hk => ?_
  apply wp_seq_k; intro K1 hK1
  apply wp_region_lit
  refine salx 2 hs rfl hk rfl rfl ze31 rfl fun b2 w a hk hs => ?_
  show wpList _ _ _ [] _ _
  refine wpList_nil ?_
  refine hK1 _ _ ?_
  apply wp_seq_k; intro K3 hK3
  rcases ite_some H with ⟨c_r4_2_1, H⟩ | ⟨_, H⟩
  rotate_left
  ·cases H
  rcases ite_some H with ⟨c_r4_4_1, H⟩ | ⟨_, H⟩
  rotate_left
  ·cases H
  obtain ⟨R5, hR5⟩ : ∃ R : Act → World → Prop, R = fun a w => ∃ (A_r4_2_2 : Option Addr) (p_r4_2_3 : Nat) (b_r4_3_1 : Nat) (b_r4_4_2 : Nat) (k_r4_2_4 : Chunk) (k_r4_3_2 : Chunk) (k_r4_4_3 : Chunk), Kn [(2, (.pointer (some ⟨b2, 0, none⟩)))] 9 a ∧ Sat [] w0 w [(1, k0_)] [(2, [(b2, .cells #[.slice A_r4_2_2 (([] : List Int) ++ l0).length p_r4_2_3, .slice (some ⟨b_r4_3_1, 0, none⟩) 0 0, .slice (some ⟨b_r4_4_2, 0, none⟩) (((15 : Int)).toNat) (((15 : Int)).toNat)] 31 (0, 0))]), (103001, k_r4_2_4), (103061, k_r4_3_2), (103081, k_r4_4_3)] ∧ Own (Lay.int .i64) 3 A_r4_2_2 p_r4_2_3 (([] : List Int) ++ l0) k_r4_2_4 ∧ Own L_Block 102 (some ⟨b_r4_3_1, 0, none⟩) 0 ([] : List S_Block) k_r4_3_2 ∧ Own (Lay.sl L_Block 102) 28 (some ⟨b_r4_4_2, 0, none⟩) (((15 : Int)).toNat) (List.replicate ((15 : Int)).toNat ([] : List S_Block)) k_r4_4_3 ∧ (List.replicate ((15 : Int)).toNat ([] : List S_Block)).length = (((15 : Int)).toNat) := ⟨_, rfl⟩
  refine wp_cutq R5 ?_ ?_
  ·skip
   refine wp_region_tree (.q 1 (.alt 0 (.alt 2 (.alt 3 (.alt 4 (.alt 5 (.last 6) .stop) .stop) (.alt 4 (.alt 3 (.alt 5 (.last 6) .stop) .stop) .stop)) (.alt 3 (.alt 2 (.alt 4 (.alt 5 (.last 6) .stop) .stop) (.alt 4 (.alt 2 (.alt 5 (.last 6) .stop) .stop) .stop)) (.alt 4 (.alt 2 (.alt 3 (.alt 5 (.last 6) .stop) .stop) (.alt 3 (.alt 2 (.alt 5 (.last 6) .stop) .stop) .stop)) .stop))) (.alt 3 (.alt 0 (.alt 2 (.alt 4 (.alt 5 (.last 6) .stop) .stop) (.alt 4 (.alt 2 (.alt 5 (.last 6) .stop) .stop) .stop)) (.alt 4 (.alt 0 (.alt 2 (.alt 5 (.last 6) .stop) .stop) .stop) .stop)) (.alt 4 (.alt 0 (.alt 2 (.alt 3 (.alt 5 (.last 6) .stop) .stop) (.alt 3 (.alt 2 (.alt 5 (.last 6) .stop) .stop) .stop)) (.alt 3 (.alt 0 (.alt 2 (.alt 5 (.last 6) .stop) .stop) .stop) .stop)) .stop)))) mo (by kernel_rfl) (hs.pick [(2, 2)] rfl) fun _ => ?_
   have hs := hs.drew
   refine tqst (.slice A0_ l0.length p0_) hk rfl rfl rfl rfl (fun w hs => sm _ rfl hk rfl rfl rfl fun a hk => qe hk) fun a hk => ?_
   refine tsst hk rfl rfl (fun K_r4_0 hK_r4_0 w hF => ?_) ?_
   ·skip
    have hs := hs.f hF
    refine sbs0 103001 (Lay.int .i64) hs rfl hk rfl rfl un22 sz3 fun b_r4_0_1 k_r4_0_2 w a hk o_r4_0_3 hs => ?_
    refine se (hs.pick [(2, 2)] rfl) hk (hK_r4_0 _ _ ?_)
    refine tsst hk rfl rfl (fun K_r4_2 hK_r4_2 w hF => ?_) ?_
    ·skip
     have hs := hs.f hF
     refine sap 103001 (xs := ([] : List Int)) (ys := l0) (flat_flat : ((Lay.int .i64)).Flat) hs rfl o_r4_0_3 v0_ (hs.hasD (k := 1) rfl) rfl hk rfl rfl rfl rfl rfl rfl un22 mk3 rfl rfl rfl c_r4_2_1 fun A_r4_2_2 p_r4_2_3 k_r4_2_4 w a hk o_r4_2_5 hs => ?_
     refine se (hs.pick [(2, 2)] rfl) hk (hK_r4_2 _ _ ?_)
     refine tsst hk rfl rfl (fun K_r4_3 hK_r4_3 w hF => ?_) ?_
     ·skip
      have hs := hs.f hF
      refine sbs0 103061 L_Block hs rfl hk rfl rfl un28 sz102 fun b_r4_3_1 k_r4_3_2 w a hk o_r4_3_3 hs => ?_
      refine se (hs.pick [(2, 2)] rfl) hk (hK_r4_3 _ _ ?_)
      refine tsst hk rfl rfl (fun K_r4_4 hK_r4_4 w hF => ?_) wt_stop
      have hs := hs.f hF
      refine smk 103081 (Lay.sl L_Block 102) hs rfl hk rfl rfl rfl rfl un29 mk28 lz28 rfl rfl c_r4_4_1.1 c_r4_4_1.2 fun b_r4_4_2 k_r4_4_3 w a hk o_r4_4_4 hs => ?_
      have lh_r4_4_5 : (List.replicate ((15 : Int)).toNat ([] : List S_Block)).length = ((15 : Int)).toNat := List.length_replicate
      refine se (hs.pick [(2, 2)] rfl) hk (hK_r4_4 _ _ ?_)
      refine tsst hk rfl rfl (fun K_r4_5 hK_r4_5 w hF => ?_) wt_stop
      have hs := hs.f hF
      refine sbd (pv := [(0, (.slice A_r4_2_2 (([] : List Int) ++ l0).length p_r4_2_3)), (1, (.slice (some ⟨b_r4_3_1, 0, none⟩) 0 0)), (2, (.slice (some ⟨b_r4_4_2, 0, none⟩) (((15 : Int)).toNat) (((15 : Int)).toNat)))]) rfl hk rfl rfl rfl (bd31_1 A_r4_2_2 ((([] : List Int) ++ l0).length) p_r4_2_3 (some ⟨b_r4_3_1, 0, none⟩) 0 0 (some ⟨b_r4_4_2, 0, none⟩) (((15 : Int)).toNat) (((15 : Int)).toNat)) fun a hk => ?_
      refine se (hs.pick [(2, 2)] rfl) hk (hK_r4_5 _ _ ?_)
      refine tlst hk rfl rfl fun K_r4_6 hK_r4_6 w hF => ?_
      have hs := hs.f hF
      refine ssw 2 hs rfl rfl hk rfl rfl rfl rfl sz31 (by simp [Value.oneCell']) rfl fun w a hk hs => ?_
      refine se trivial hk (hK_r4_6 _ _ fun w hF => ?_)
      have hs := hs.f hF
      show R5 _ _
      rw [hR5]
      exact ⟨A_r4_2_2, p_r4_2_3, b_r4_3_1, b_r4_4_2, k_r4_2_4, k_r4_3_2, k_r4_4_3, (hk.c 2 rfl hk.k), (hs.pick [(2, 2), (103001, 103001), (103061, 103061), (103081, 103081)] rfl), o_r4_2_5, o_r4_3_3, o_r4_4_4, lh_r4_4_5⟩
     refine tsst hk rfl rfl (fun K_r4_4 hK_r4_4 w hF => ?_) wt_stop
     have hs := hs.f hF
     refine smk 103081 (Lay.sl L_Block 102) hs rfl hk rfl rfl rfl rfl un29 mk28 lz28 rfl rfl c_r4_4_1.1 c_r4_4_1.2 fun b_r4_4_2 k_r4_4_3 w a hk o_r4_4_4 hs => ?_
     have lh_r4_4_5 : (List.replicate ((15 : Int)).toNat ([] : List S_Block)).length = ((15 : Int)).toNat := List.length_replicate
     refine se (hs.pick [(2, 2)] rfl) hk (hK_r4_4 _ _ ?_)
     refine tsst hk rfl rfl (fun K_r4_3 hK_r4_3 w hF => ?_) wt_stop
     have hs := hs.f hF
     refine sbs0 103061 L_Block hs rfl hk rfl rfl un28 sz102 fun b_r4_3_1 k_r4_3_2 w a hk o_r4_3_3 hs => ?_
     refine se (hs.pick [(2, 2)] rfl) hk (hK_r4_3 _ _ ?_)
     refine tsst hk rfl rfl (fun K_r4_5 hK_r4_5 w hF => ?_) wt_stop
     have hs := hs.f hF
     refine sbd (pv := [(0, (.slice A_r4_2_2 (([] : List Int) ++ l0).length p_r4_2_3)), (1, (.slice (some ⟨b_r4_3_1, 0, none⟩) 0 0)), (2, (.slice (some ⟨b_r4_4_2, 0, none⟩) (((15 : Int)).toNat) (((15 : Int)).toNat)))]) rfl hk rfl rfl rfl (bd31_1 A_r4_2_2 ((([] : List Int) ++ l0).length) p_r4_2_3 (some ⟨b_r4_3_1, 0, none⟩) 0 0 (some ⟨b_r4_4_2, 0, none⟩) (((15 : Int)).toNat) (((15 : Int)).toNat)) fun a hk => ?_
     refine se (hs.pick [(2, 2)] rfl) hk (hK_r4_5 _ _ ?_)
     refine tlst hk rfl rfl fun K_r4_6 hK_r4_6 w hF => ?_
     have hs := hs.f hF
     refine ssw 2 hs rfl rfl hk rfl rfl rfl rfl sz31 (by simp [Value.oneCell']) rfl fun w a hk hs => ?_
     refine se trivial hk (hK_r4_6 _ _ fun w hF => ?_)
     have hs := hs.f hF
     show R5 _ _
     rw [hR5]
     exact ⟨A_r4_2_2, p_r4_2_3, b_r4_3_1, b_r4_4_2, k_r4_2_4, k_r4_3_2, k_r4_4_3, (hk.c 2 rfl hk.k), (hs.pick [(2, 2), (103001, 103001), (103061, 103061), (103081, 103081)] rfl), o_r4_2_5, o_r4_3_3, o_r4_4_4, lh_r4_4_5⟩
    refine tsst hk rfl rfl (fun K_r4_3 hK_r4_3 w hF => ?_) ?_
    ·skip
     have hs := hs.f hF
     refine sbs0 103061 L_Block hs rfl hk rfl rfl un28 sz102 fun b_r4_3_1 k_r4_3_2 w a hk o_r4_3_3 hs => ?_
     refine se (hs.pick [(2, 2)] rfl) hk (hK_r4_3 _ _ ?_)
     refine tsst hk rfl rfl (fun K_r4_2 hK_r4_2 w hF => ?_) ?_
     ·skip
      have hs := hs.f hF
      refine sap 103001 (xs := ([] : List Int)) (ys := l0) (flat_flat : ((Lay.int .i64)).Flat) hs rfl o_r4_0_3 v0_ (hs.hasD (k := 1) rfl) rfl hk rfl rfl rfl rfl rfl rfl un22 mk3 rfl rfl rfl c_r4_2_1 fun A_r4_2_2 p_r4_2_3 k_r4_2_4 w a hk o_r4_2_5 hs => ?_
      refine se (hs.pick [(2, 2)] rfl) hk (hK_r4_2 _ _ ?_)
      refine tsst hk rfl rfl (fun K_r4_4 hK_r4_4 w hF => ?_) wt_stop
      have hs := hs.f hF
      refine smk 103081 (Lay.sl L_Block 102) hs rfl hk rfl rfl rfl rfl un29 mk28 lz28 rfl rfl c_r4_4_1.1 c_r4_4_1.2 fun b_r4_4_2 k_r4_4_3 w a hk o_r4_4_4 hs => ?_
      have lh_r4_4_5 : (List.replicate ((15 : Int)).toNat ([] : List S_Block)).length = ((15 : Int)).toNat := List.length_replicate
      refine se (hs.pick [(2, 2)] rfl) hk (hK_r4_4 _ _ ?_)
      refine tsst hk rfl rfl (fun K_r4_5 hK_r4_5 w hF => ?_) wt_stop
      have hs := hs.f hF
      refine sbd (pv := [(0, (.slice A_r4_2_2 (([] : List Int) ++ l0).length p_r4_2_3)), (1, (.slice (some ⟨b_r4_3_1, 0, none⟩) 0 0)), (2, (.slice (some ⟨b_r4_4_2, 0, none⟩) (((15 : Int)).toNat) (((15 : Int)).toNat)))]) rfl hk rfl rfl rfl (bd31_1 A_r4_2_2 ((([] : List Int) ++ l0).length) p_r4_2_3 (some ⟨b_r4_3_1, 0, none⟩) 0 0 (some ⟨b_r4_4_2, 0, none⟩) (((15 : Int)).toNat) (((15 : Int)).toNat)) fun a hk => ?_
      refine se (hs.pick [(2, 2)] rfl) hk (hK_r4_5 _ _ ?_)
      refine tlst hk rfl rfl fun K_r4_6 hK_r4_6 w hF => ?_
      have hs := hs.f hF
      refine ssw 2 hs rfl rfl hk rfl rfl rfl rfl sz31 (by simp [Value.oneCell']) rfl fun w a hk hs => ?_
      refine se trivial hk (hK_r4_6 _ _ fun w hF => ?_)
      have hs := hs.f hF
      show R5 _ _
      rw [hR5]
      exact ⟨A_r4_2_2, p_r4_2_3, b_r4_3_1, b_r4_4_2, k_r4_2_4, k_r4_3_2, k_r4_4_3, (hk.c 2 rfl hk.k), (hs.pick [(2, 2), (103001, 103001), (103061, 103061), (103081, 103081)] rfl), o_r4_2_5, o_r4_3_3, o_r4_4_4, lh_r4_4_5⟩
     refine tsst hk rfl rfl (fun K_r4_4 hK_r4_4 w hF => ?_) wt_stop
     have hs := hs.f hF
     refine smk 103081 (Lay.sl L_Block 102) hs rfl hk rfl rfl rfl rfl un29 mk28 lz28 rfl rfl c_r4_4_1.1 c_r4_4_1.2 fun b_r4_4_2 k_r4_4_3 w a hk o_r4_4_4 hs => ?_
     have lh_r4_4_5 : (List.replicate ((15 : Int)).toNat ([] : List S_Block)).length = ((15 : Int)).toNat := List.length_replicate
     refine se (hs.pick [(2, 2)] rfl) hk (hK_r4_4 _ _ ?_)
     refine tsst hk rfl rfl (fun K_r4_2 hK_r4_2 w hF => ?_) wt_stop
     have hs := hs.f hF
     refine sap 103001 (xs := ([] : List Int)) (ys := l0) (flat_flat : ((Lay.int .i64)).Flat) hs rfl o_r4_0_3 v0_ (hs.hasD (k := 1) rfl) rfl hk rfl rfl rfl rfl rfl rfl un22 mk3 rfl rfl rfl c_r4_2_1 fun A_r4_2_2 p_r4_2_3 k_r4_2_4 w a hk o_r4_2_5 hs => ?_
     refine se (hs.pick [(2, 2)] rfl) hk (hK_r4_2 _ _ ?_)
     refine tsst hk rfl rfl (fun K_r4_5 hK_r4_5 w hF => ?_) wt_stop
     have hs := hs.f hF
     refine sbd (pv := [(0, (.slice A_r4_2_2 (([] : List Int) ++ l0).length p_r4_2_3)), (1, (.slice (some ⟨b_r4_3_1, 0, none⟩) 0 0)), (2, (.slice (some ⟨b_r4_4_2, 0, none⟩) (((15 : Int)).toNat) (((15 : Int)).toNat)))]) rfl hk rfl rfl rfl (bd31_1 A_r4_2_2 ((([] : List Int) ++ l0).length) p_r4_2_3 (some ⟨b_r4_3_1, 0, none⟩) 0 0 (some ⟨b_r4_4_2, 0, none⟩) (((15 : Int)).toNat) (((15 : Int)).toNat)) fun a hk => ?_
     refine se (hs.pick [(2, 2)] rfl) hk (hK_r4_5 _ _ ?_)
     refine tlst hk rfl rfl fun K_r4_6 hK_r4_6 w hF => ?_
     have hs := hs.f hF
     refine ssw 2 hs rfl rfl hk rfl rfl rfl rfl sz31 (by simp [Value.oneCell']) rfl fun w a hk hs => ?_
     refine se trivial hk (hK_r4_6 _ _ fun w hF => ?_)
     have hs := hs.f hF
     show R5 _ _
     rw [hR5]
     exact ⟨A_r4_2_2, p_r4_2_3, b_r4_3_1, b_r4_4_2, k_r4_2_4, k_r4_3_2, k_r4_4_3, (hk.c 2 rfl hk.k), (hs.pick [(2, 2), (103001, 103001), (103061, 103061), (103081, 103081)] rfl), o_r4_2_5, o_r4_3_3, o_r4_4_4, lh_r4_4_5⟩
    refine tsst hk rfl rfl (fun K_r4_4 hK_r4_4 w hF => ?_) wt_stop
    have hs := hs.f hF
    refine smk 103081 (Lay.sl L_Block 102) hs rfl hk rfl rfl rfl rfl un29 mk28 lz28 rfl rfl c_r4_4_1.1 c_r4_4_1.2 fun b_r4_4_2 k_r4_4_3 w a hk o_r4_4_4 hs => ?_
    have lh_r4_4_5 : (List.replicate ((15 : Int)).toNat ([] : List S_Block)).length = ((15 : Int)).toNat := List.length_replicate
    refine se (hs.pick [(2, 2)] rfl) hk (hK_r4_4 _ _ ?_)
    refine tsst hk rfl rfl (fun K_r4_2 hK_r4_2 w hF => ?_) ?_
    ·skip
     have hs := hs.f hF
     refine sap 103001 (xs := ([] : List Int)) (ys := l0) (flat_flat : ((Lay.int .i64)).Flat) hs rfl o_r4_0_3 v0_ (hs.hasD (k := 1) rfl) rfl hk rfl rfl rfl rfl rfl rfl un22 mk3 rfl rfl rfl c_r4_2_1 fun A_r4_2_2 p_r4_2_3 k_r4_2_4 w a hk o_r4_2_5 hs => ?_
     refine se (hs.pick [(2, 2)] rfl) hk (hK_r4_2 _ _ ?_)
     refine tsst hk rfl rfl (fun K_r4_3 hK_r4_3 w hF => ?_) wt_stop
     have hs := hs.f hF
     refine sbs0 103061 L_Block hs rfl hk rfl rfl un28 sz102 fun b_r4_3_1 k_r4_3_2 w a hk o_r4_3_3 hs => ?_
     refine se (hs.pick [(2, 2)] rfl) hk (hK_r4_3 _ _ ?_)
     refine tsst hk rfl rfl (fun K_r4_5 hK_r4_5 w hF => ?_) wt_stop
     have hs := hs.f hF
     refine sbd (pv := [(0, (.slice A_r4_2_2 (([] : List Int) ++ l0).length p_r4_2_3)), (1, (.slice (some ⟨b_r4_3_1, 0, none⟩) 0 0)), (2, (.slice (some ⟨b_r4_4_2, 0, none⟩) (((15 : Int)).toNat) (((15 : Int)).toNat)))]) rfl hk rfl rfl rfl (bd31_1 A_r4_2_2 ((([] : List Int) ++ l0).length) p_r4_2_3 (some ⟨b_r4_3_1, 0, none⟩) 0 0 (some ⟨b_r4_4_2, 0, none⟩) (((15 : Int)).toNat) (((15 : Int)).toNat)) fun a hk => ?_
     refine se (hs.pick [(2, 2)] rfl) hk (hK_r4_5 _ _ ?_)
     refine tlst hk rfl rfl fun K_r4_6 hK_r4_6 w hF => ?_
     have hs := hs.f hF
     refine ssw 2 hs rfl rfl hk rfl rfl rfl rfl sz31 (by simp [Value.oneCell']) rfl fun w a hk hs => ?_
     refine se trivial hk (hK_r4_6 _ _ fun w hF => ?_)
     have hs := hs.f hF
     show R5 _ _
     rw [hR5]
     exact ⟨A_r4_2_2, p_r4_2_3, b_r4_3_1, b_r4_4_2, k_r4_2_4, k_r4_3_2, k_r4_4_3, (hk.c 2 rfl hk.k), (hs.pick [(2, 2), (103001, 103001), (103061, 103061), (103081, 103081)] rfl), o_r4_2_5, o_r4_3_3, o_r4_4_4, lh_r4_4_5⟩
    refine tsst hk rfl rfl (fun K_r4_3 hK_r4_3 w hF => ?_) wt_stop
    have hs := hs.f hF
    refine sbs0 103061 L_Block hs rfl hk rfl rfl un28 sz102 fun b_r4_3_1 k_r4_3_2 w a hk o_r4_3_3 hs => ?_
    refine se (hs.pick [(2, 2)] rfl) hk (hK_r4_3 _ _ ?_)
    refine tsst hk rfl rfl (fun K_r4_2 hK_r4_2 w hF => ?_) wt_stop
    have hs := hs.f hF
    refine sap 103001 (xs := ([] : List Int)) (ys := l0) (flat_flat : ((Lay.int .i64)).Flat) hs rfl o_r4_0_3 v0_ (hs.hasD (k := 1) rfl) rfl hk rfl rfl rfl rfl rfl rfl un22 mk3 rfl rfl rfl c_r4_2_1 fun A_r4_2_2 p_r4_2_3 k_r4_2_4 w a hk o_r4_2_5 hs => ?_
    refine se (hs.pick [(2, 2)] rfl) hk (hK_r4_2 _ _ ?_)
    refine tsst hk rfl rfl (fun K_r4_5 hK_r4_5 w hF => ?_) wt_stop
    have hs := hs.f hF
    refine sbd (pv := [(0, (.slice A_r4_2_2 (([] : List Int) ++ l0).length p_r4_2_3)), (1, (.slice (some ⟨b_r4_3_1, 0, none⟩) 0 0)), (2, (.slice (some ⟨b_r4_4_2, 0, none⟩) (((15 : Int)).toNat) (((15 : Int)).toNat)))]) rfl hk rfl rfl rfl (bd31_1 A_r4_2_2 ((([] : List Int) ++ l0).length) p_r4_2_3 (some ⟨b_r4_3_1, 0, none⟩) 0 0 (some ⟨b_r4_4_2, 0, none⟩) (((15 : Int)).toNat) (((15 : Int)).toNat)) fun a hk => ?_
    refine se (hs.pick [(2, 2)] rfl) hk (hK_r4_5 _ _ ?_)
    refine tlst hk rfl rfl fun K_r4_6 hK_r4_6 w hF => ?_
    have hs := hs.f hF
    refine ssw 2 hs rfl rfl hk rfl rfl rfl rfl sz31 (by simp [Value.oneCell']) rfl fun w a hk hs => ?_
    refine se trivial hk (hK_r4_6 _ _ fun w hF => ?_)
    have hs := hs.f hF
    show R5 _ _
    rw [hR5]
    exact ⟨A_r4_2_2, p_r4_2_3, b_r4_3_1, b_r4_4_2, k_r4_2_4, k_r4_3_2, k_r4_4_3, (hk.c 2 rfl hk.k), (hs.pick [(2, 2), (103001, 103001), (103061, 103061), (103081, 103081)] rfl), o_r4_2_5, o_r4_3_3, o_r4_4_4, lh_r4_4_5⟩
   refine tsst hk rfl rfl (fun K_r4_3 hK_r4_3 w hF => ?_) ?_
   ·skip
    have hs := hs.f hF
    refine sbs0 103061 L_Block hs rfl hk rfl rfl un28 sz102 fun b_r4_3_1 k_r4_3_2 w a hk o_r4_3_3 hs => ?_
    refine se (hs.pick [(2, 2)] rfl) hk (hK_r4_3 _ _ ?_)
    refine tsst hk rfl rfl (fun K_r4_0 hK_r4_0 w hF => ?_) ?_
    ·skip
     have hs := hs.f hF
     refine sbs0 103001 (Lay.int .i64) hs rfl hk rfl rfl un22 sz3 fun b_r4_0_1 k_r4_0_2 w a hk o_r4_0_3 hs => ?_
     refine se (hs.pick [(2, 2)] rfl) hk (hK_r4_0 _ _ ?_)
     refine tsst hk rfl rfl (fun K_r4_2 hK_r4_2 w hF => ?_) ?_
     ·skip
      have hs := hs.f hF
      refine sap 103001 (xs := ([] : List Int)) (ys := l0) (flat_flat : ((Lay.int .i64)).Flat) hs rfl o_r4_0_3 v0_ (hs.hasD (k := 1) rfl) rfl hk rfl rfl rfl rfl rfl rfl un22 mk3 rfl rfl rfl c_r4_2_1 fun A_r4_2_2 p_r4_2_3 k_r4_2_4 w a hk o_r4_2_5 hs => ?_
      refine se (hs.pick [(2, 2)] rfl) hk (hK_r4_2 _ _ ?_)
      refine tsst hk rfl rfl (fun K_r4_4 hK_r4_4 w hF => ?_) wt_stop
      have hs := hs.f hF
      refine smk 103081 (Lay.sl L_Block 102) hs rfl hk rfl rfl rfl rfl un29 mk28 lz28 rfl rfl c_r4_4_1.1 c_r4_4_1.2 fun b_r4_4_2 k_r4_4_3 w a hk o_r4_4_4 hs => ?_
      have lh_r4_4_5 : (List.replicate ((15 : Int)).toNat ([] : List S_Block)).length = ((15 : Int)).toNat := List.length_replicate
      refine se (hs.pick [(2, 2)] rfl) hk (hK_r4_4 _ _ ?_)
      refine tsst hk rfl rfl (fun K_r4_5 hK_r4_5 w hF => ?_) wt_stop
      have hs := hs.f hF
      refine sbd (pv := [(0, (.slice A_r4_2_2 (([] : List Int) ++ l0).length p_r4_2_3)), (1, (.slice (some ⟨b_r4_3_1, 0, none⟩) 0 0)), (2, (.slice (some ⟨b_r4_4_2, 0, none⟩) (((15 : Int)).toNat) (((15 : Int)).toNat)))]) rfl hk rfl rfl rfl (bd31_1 A_r4_2_2 ((([] : List Int) ++ l0).length) p_r4_2_3 (some ⟨b_r4_3_1, 0, none⟩) 0 0 (some ⟨b_r4_4_2, 0, none⟩) (((15 : Int)).toNat) (((15 : Int)).toNat)) fun a hk => ?_
      refine se (hs.pick [(2, 2)] rfl) hk (hK_r4_5 _ _ ?_)
      refine tlst hk rfl rfl fun K_r4_6 hK_r4_6 w hF => ?_
      have hs := hs.f hF
      refine ssw 2 hs rfl rfl hk rfl rfl rfl rfl sz31 (by simp [Value.oneCell']) rfl fun w a hk hs => ?_
      refine se trivial hk (hK_r4_6 _ _ fun w hF => ?_)
      have hs := hs.f hF
      show R5 _ _
      rw [hR5]
      exact ⟨A_r4_2_2, p_r4_2_3, b_r4_3_1, b_r4_4_2, k_r4_2_4, k_r4_3_2, k_r4_4_3, (hk.c 2 rfl hk.k), (hs.pick [(2, 2), (103001, 103001), (103061, 103061), (103081, 103081)] rfl), o_r4_2_5, o_r4_3_3, o_r4_4_4, lh_r4_4_5⟩
     refine tsst hk rfl rfl (fun K_r4_4 hK_r4_4 w hF => ?_) wt_stop
     have hs := hs.f hF
     refine smk 103081 (Lay.sl L_Block 102) hs rfl hk rfl rfl rfl rfl un29 mk28 lz28 rfl rfl c_r4_4_1.1 c_r4_4_1.2 fun b_r4_4_2 k_r4_4_3 w a hk o_r4_4_4 hs => ?_
     have lh_r4_4_5 : (List.replicate ((15 : Int)).toNat ([] : List S_Block)).length = ((15 : Int)).toNat := List.length_replicate
     refine se (hs.pick [(2, 2)] rfl) hk (hK_r4_4 _ _ ?_)
     refine tsst hk rfl rfl (fun K_r4_2 hK_r4_2 w hF => ?_) wt_stop
     have hs := hs.f hF
     refine sap 103001 (xs := ([] : List Int)) (ys := l0) (flat_flat : ((Lay.int .i64)).Flat) hs rfl o_r4_0_3 v0_ (hs.hasD (k := 1) rfl) rfl hk rfl rfl rfl rfl rfl rfl un22 mk3 rfl rfl rfl c_r4_2_1 fun A_r4_2_2 p_r4_2_3 k_r4_2_4 w a hk o_r4_2_5 hs => ?_
     refine se (hs.pick [(2, 2)] rfl) hk (hK_r4_2 _ _ ?_)
     refine tsst hk rfl rfl (fun K_r4_5 hK_r4_5 w hF => ?_) wt_stop
     have hs := hs.f hF
     refine sbd (pv := [(0, (.slice A_r4_2_2 (([] : List Int) ++ l0).length p_r4_2_3)), (1, (.slice (some ⟨b_r4_3_1, 0, none⟩) 0 0)), (2, (.slice (some ⟨b_r4_4_2, 0, none⟩) (((15 : Int)).toNat) (((15 : Int)).toNat)))]) rfl hk rfl rfl rfl (bd31_1 A_r4_2_2 ((([] : List Int) ++ l0).length) p_r4_2_3 (some ⟨b_r4_3_1, 0, none⟩) 0 0 (some ⟨b_r4_4_2, 0, none⟩) (((15 : Int)).toNat) (((15 : Int)).toNat)) fun a hk => ?_
     refine se (hs.pick [(2, 2)] rfl) hk (hK_r4_5 _ _ ?_)
     refine tlst hk rfl rfl fun K_r4_6 hK_r4_6 w hF => ?_
     have hs := hs.f hF
     refine ssw 2 hs rfl rfl hk rfl rfl rfl rfl sz31 (by simp [Value.oneCell']) rfl fun w a hk hs => ?_
     refine se trivial hk (hK_r4_6 _ _ fun w hF => ?_)
     have hs := hs.f hF
     show R5 _ _
     rw [hR5]
     exact ⟨A_r4_2_2, p_r4_2_3, b_r4_3_1, b_r4_4_2, k_r4_2_4, k_r4_3_2, k_r4_4_3, (hk.c 2 rfl hk.k), (hs.pick [(2, 2), (103001, 103001), (103061, 103061), (103081, 103081)] rfl), o_r4_2_5, o_r4_3_3, o_r4_4_4, lh_r4_4_5⟩
    refine tsst hk rfl rfl (fun K_r4_4 hK_r4_4 w hF => ?_) wt_stop
    have hs := hs.f hF
    refine smk 103081 (Lay.sl L_Block 102) hs rfl hk rfl rfl rfl rfl un29 mk28 lz28 rfl rfl c_r4_4_1.1 c_r4_4_1.2 fun b_r4_4_2 k_r4_4_3 w a hk o_r4_4_4 hs => ?_
    have lh_r4_4_5 : (List.replicate ((15 : Int)).toNat ([] : List S_Block)).length = ((15 : Int)).toNat := List.length_replicate
    refine se (hs.pick [(2, 2)] rfl) hk (hK_r4_4 _ _ ?_)
    refine tsst hk rfl rfl (fun K_r4_0 hK_r4_0 w hF => ?_) wt_stop
    have hs := hs.f hF
    refine sbs0 103001 (Lay.int .i64) hs rfl hk rfl rfl un22 sz3 fun b_r4_0_1 k_r4_0_2 w a hk o_r4_0_3 hs => ?_
    refine se (hs.pick [(2, 2)] rfl) hk (hK_r4_0 _ _ ?_)
    refine tsst hk rfl rfl (fun K_r4_2 hK_r4_2 w hF => ?_) wt_stop
    have hs := hs.f hF
    refine sap 103001 (xs := ([] : List Int)) (ys := l0) (flat_flat : ((Lay.int .i64)).Flat) hs rfl o_r4_0_3 v0_ (hs.hasD (k := 1) rfl) rfl hk rfl rfl rfl rfl rfl rfl un22 mk3 rfl rfl rfl c_r4_2_1 fun A_r4_2_2 p_r4_2_3 k_r4_2_4 w a hk o_r4_2_5 hs => ?_
    refine se (hs.pick [(2, 2)] rfl) hk (hK_r4_2 _ _ ?_)
    refine tsst hk rfl rfl (fun K_r4_5 hK_r4_5 w hF => ?_) wt_stop
    have hs := hs.f hF
    refine sbd (pv := [(0, (.slice A_r4_2_2 (([] : List Int) ++ l0).length p_r4_2_3)), (1, (.slice (some ⟨b_r4_3_1, 0, none⟩) 0 0)), (2, (.slice (some ⟨b_r4_4_2, 0, none⟩) (((15 : Int)).toNat) (((15 : Int)).toNat)))]) rfl hk rfl rfl rfl (bd31_1 A_r4_2_2 ((([] : List Int) ++ l0).length) p_r4_2_3 (some ⟨b_r4_3_1, 0, none⟩) 0 0 (some ⟨b_r4_4_2, 0, none⟩) (((15 : Int)).toNat) (((15 : Int)).toNat)) fun a hk => ?_
    refine se (hs.pick [(2, 2)] rfl) hk (hK_r4_5 _ _ ?_)
    refine tlst hk rfl rfl fun K_r4_6 hK_r4_6 w hF => ?_
    have hs := hs.f hF
    refine ssw 2 hs rfl rfl hk rfl rfl rfl rfl sz31 (by simp [Value.oneCell']) rfl fun w a hk hs => ?_
    refine se trivial hk (hK_r4_6 _ _ fun w hF => ?_)
    have hs := hs.f hF
    show R5 _ _
    rw [hR5]
    exact ⟨A_r4_2_2, p_r4_2_3, b_r4_3_1, b_r4_4_2, k_r4_2_4, k_r4_3_2, k_r4_4_3, (hk.c 2 rfl hk.k), (hs.pick [(2, 2), (103001, 103001), (103061, 103061), (103081, 103081)] rfl), o_r4_2_5, o_r4_3_3, o_r4_4_4, lh_r4_4_5⟩
   refine tsst hk rfl rfl (fun K_r4_4 hK_r4_4 w hF => ?_) wt_stop
   have hs := hs.f hF
   refine smk 103081 (Lay.sl L_Block 102) hs rfl hk rfl rfl rfl rfl un29 mk28 lz28 rfl rfl c_r4_4_1.1 c_r4_4_1.2 fun b_r4_4_2 k_r4_4_3 w a hk o_r4_4_4 hs => ?_
   have lh_r4_4_5 : (List.replicate ((15 : Int)).toNat ([] : List S_Block)).length = ((15 : Int)).toNat := List.length_replicate
   refine se (hs.pick [(2, 2)] rfl) hk (hK_r4_4 _ _ ?_)
   refine tsst hk rfl rfl (fun K_r4_0 hK_r4_0 w hF => ?_) ?_
   ·skip
    have hs := hs.f hF
    refine sbs0 103001 (Lay.int .i64) hs rfl hk rfl rfl un22 sz3 fun b_r4_0_1 k_r4_0_2 w a hk o_r4_0_3 hs => ?_
    refine se (hs.pick [(2, 2)] rfl) hk (hK_r4_0 _ _ ?_)
    refine tsst hk rfl rfl (fun K_r4_2 hK_r4_2 w hF => ?_) ?_
    ·skip
     have hs := hs.f hF
     refine sap 103001 (xs := ([] : List Int)) (ys := l0) (flat_flat : ((Lay.int .i64)).Flat) hs rfl o_r4_0_3 v0_ (hs.hasD (k := 1) rfl) rfl hk rfl rfl rfl rfl rfl rfl un22 mk3 rfl rfl rfl c_r4_2_1 fun A_r4_2_2 p_r4_2_3 k_r4_2_4 w a hk o_r4_2_5 hs => ?_
     refine se (hs.pick [(2, 2)] rfl) hk (hK_r4_2 _ _ ?_)
     refine tsst hk rfl rfl (fun K_r4_3 hK_r4_3 w hF => ?_) wt_stop
     have hs := hs.f hF
     refine sbs0 103061 L_Block hs rfl hk rfl rfl un28 sz102 fun b_r4_3_1 k_r4_3_2 w a hk o_r4_3_3 hs => ?_
     refine se (hs.pick [(2, 2)] rfl) hk (hK_r4_3 _ _ ?_)
     refine tsst hk rfl rfl (fun K_r4_5 hK_r4_5 w hF => ?_) wt_stop
     have hs := hs.f hF
     refine sbd (pv := [(0, (.slice A_r4_2_2 (([] : List Int) ++ l0).length p_r4_2_3)), (1, (.slice (some ⟨b_r4_3_1, 0, none⟩) 0 0)), (2, (.slice (some ⟨b_r4_4_2, 0, none⟩) (((15 : Int)).toNat) (((15 : Int)).toNat)))]) rfl hk rfl rfl rfl (bd31_1 A_r4_2_2 ((([] : List Int) ++ l0).length) p_r4_2_3 (some ⟨b_r4_3_1, 0, none⟩) 0 0 (some ⟨b_r4_4_2, 0, none⟩) (((15 : Int)).toNat) (((15 : Int)).toNat)) fun a hk => ?_
     refine se (hs.pick [(2, 2)] rfl) hk (hK_r4_5 _ _ ?_)
     refine tlst hk rfl rfl fun K_r4_6 hK_r4_6 w hF => ?_
     have hs := hs.f hF
     refine ssw 2 hs rfl rfl hk rfl rfl rfl rfl sz31 (by simp [Value.oneCell']) rfl fun w a hk hs => ?_
     refine se trivial hk (hK_r4_6 _ _ fun w hF => ?_)
     have hs := hs.f hF
     show R5 _ _
     rw [hR5]
     exact ⟨A_r4_2_2, p_r4_2_3, b_r4_3_1, b_r4_4_2, k_r4_2_4, k_r4_3_2, k_r4_4_3, (hk.c 2 rfl hk.k), (hs.pick [(2, 2), (103001, 103001), (103061, 103061), (103081, 103081)] rfl), o_r4_2_5, o_r4_3_3, o_r4_4_4, lh_r4_4_5⟩
    refine tsst hk rfl rfl (fun K_r4_3 hK_r4_3 w hF => ?_) wt_stop
    have hs := hs.f hF
    refine sbs0 103061 L_Block hs rfl hk rfl rfl un28 sz102 fun b_r4_3_1 k_r4_3_2 w a hk o_r4_3_3 hs => ?_
    refine se (hs.pick [(2, 2)] rfl) hk (hK_r4_3 _ _ ?_)
    refine tsst hk rfl rfl (fun K_r4_2 hK_r4_2 w hF => ?_) wt_stop
    have hs := hs.f hF
    refine sap 103001 (xs := ([] : List Int)) (ys := l0) (flat_flat : ((Lay.int .i64)).Flat) hs rfl o_r4_0_3 v0_ (hs.hasD (k := 1) rfl) rfl hk rfl rfl rfl rfl rfl rfl un22 mk3 rfl rfl rfl c_r4_2_1 fun A_r4_2_2 p_r4_2_3 k_r4_2_4 w a hk o_r4_2_5 hs => ?_
    refine se (hs.pick [(2, 2)] rfl) hk (hK_r4_2 _ _ ?_)
    refine tsst hk rfl rfl (fun K_r4_5 hK_r4_5 w hF => ?_) wt_stop
    have hs := hs.f hF
    refine sbd (pv := [(0, (.slice A_r4_2_2 (([] : List Int) ++ l0).length p_r4_2_3)), (1, (.slice (some ⟨b_r4_3_1, 0, none⟩) 0 0)), (2, (.slice (some ⟨b_r4_4_2, 0, none⟩) (((15 : Int)).toNat) (((15 : Int)).toNat)))]) rfl hk rfl rfl rfl (bd31_1 A_r4_2_2 ((([] : List Int) ++ l0).length) p_r4_2_3 (some ⟨b_r4_3_1, 0, none⟩) 0 0 (some ⟨b_r4_4_2, 0, none⟩) (((15 : Int)).toNat) (((15 : Int)).toNat)) fun a hk => ?_
    refine se (hs.pick [(2, 2)] rfl) hk (hK_r4_5 _ _ ?_)
    refine tlst hk rfl rfl fun K_r4_6 hK_r4_6 w hF => ?_
    have hs := hs.f hF
    refine ssw 2 hs rfl rfl hk rfl rfl rfl rfl sz31 (by simp [Value.oneCell']) rfl fun w a hk hs => ?_
    refine se trivial hk (hK_r4_6 _ _ fun w hF => ?_)
    have hs := hs.f hF
    show R5 _ _
    rw [hR5]
    exact ⟨A_r4_2_2, p_r4_2_3, b_r4_3_1, b_r4_4_2, k_r4_2_4, k_r4_3_2, k_r4_4_3, (hk.c 2 rfl hk.k), (hs.pick [(2, 2), (103001, 103001), (103061, 103061), (103081, 103081)] rfl), o_r4_2_5, o_r4_3_3, o_r4_4_4, lh_r4_4_5⟩
   refine tsst hk rfl rfl (fun K_r4_3 hK_r4_3 w hF => ?_) wt_stop
   have hs := hs.f hF
   refine sbs0 103061 L_Block hs rfl hk rfl rfl un28 sz102 fun b_r4_3_1 k_r4_3_2 w a hk o_r4_3_3 hs => ?_
   refine se (hs.pick [(2, 2)] rfl) hk (hK_r4_3 _ _ ?_)
   refine tsst hk rfl rfl (fun K_r4_0 hK_r4_0 w hF => ?_) wt_stop
   have hs := hs.f hF
   refine sbs0 103001 (Lay.int .i64) hs rfl hk rfl rfl un22 sz3 fun b_r4_0_1 k_r4_0_2 w a hk o_r4_0_3 hs => ?_
   refine se (hs.pick [(2, 2)] rfl) hk (hK_r4_0 _ _ ?_)
   refine tsst hk rfl rfl (fun K_r4_2 hK_r4_2 w hF => ?_) wt_stop
   have hs := hs.f hF
   refine sap 103001 (xs := ([] : List Int)) (ys := l0) (flat_flat : ((Lay.int .i64)).Flat) hs rfl o_r4_0_3 v0_ (hs.hasD (k := 1) rfl) rfl hk rfl rfl rfl rfl rfl rfl un22 mk3 rfl rfl rfl c_r4_2_1 fun A_r4_2_2 p_r4_2_3 k_r4_2_4 w a hk o_r4_2_5 hs => ?_
   refine se (hs.pick [(2, 2)] rfl) hk (hK_r4_2 _ _ ?_)
   refine tsst hk rfl rfl (fun K_r4_5 hK_r4_5 w hF => ?_) wt_stop
   have hs := hs.f hF
   refine sbd (pv := [(0, (.slice A_r4_2_2 (([] : List Int) ++ l0).length p_r4_2_3)), (1, (.slice (some ⟨b_r4_3_1, 0, none⟩) 0 0)), (2, (.slice (some ⟨b_r4_4_2, 0, none⟩) (((15 : Int)).toNat) (((15 : Int)).toNat)))]) rfl hk rfl rfl rfl (bd31_1 A_r4_2_2 ((([] : List Int) ++ l0).length) p_r4_2_3 (some ⟨b_r4_3_1, 0, none⟩) 0 0 (some ⟨b_r4_4_2, 0, none⟩) (((15 : Int)).toNat) (((15 : Int)).toNat)) fun a hk => ?_
   refine se (hs.pick [(2, 2)] rfl) hk (hK_r4_5 _ _ ?_)
   refine tlst hk rfl rfl fun K_r4_6 hK_r4_6 w hF => ?_
   have hs := hs.f hF
   refine ssw 2 hs rfl rfl hk rfl rfl rfl rfl sz31 (by simp [Value.oneCell']) rfl fun w a hk hs => ?_
   refine se trivial hk (hK_r4_6 _ _ fun w hF => ?_)
   have hs := hs.f hF
   show R5 _ _
   rw [hR5]
   exact ⟨A_r4_2_2, p_r4_2_3, b_r4_3_1, b_r4_4_2, k_r4_2_4, k_r4_3_2, k_r4_4_3, (hk.c 2 rfl hk.k), (hs.pick [(2, 2), (103001, 103001), (103061, 103061), (103081, 103081)] rfl), o_r4_2_5, o_r4_3_3, o_r4_4_4, lh_r4_4_5⟩
  ·intro a w hR0
   rw [hR5] at hR0
   obtain ⟨A_r4_2_2, p_r4_2_3, b_r4_3_1, b_r4_4_2, k_r4_2_4, k_r4_3_2, k_r4_4_3, hk, hs, o_r4_2_5, o_r4_3_3, o_r4_4_4, lh_r4_4_5⟩ := hR0
   refine hK3 _ _ ?_
   refine wp_ret ?_
   obtain rfl := Option.some.inj H
   exact fin hk _ [(.agg #[.slice A_r4_2_2 (([] : List Int) ++ l0).length p_r4_2_3, .slice (some ⟨b_r4_3_1, 0, none⟩) 0 0, .slice (some ⟨b_r4_4_2, 0, none⟩) (((15 : Int)).toNat) (((15 : Int)).toNat)])] rfl ⟨⟨_, rfl, run_loadN ag31 sz31 (box_cells hs (k := 2) rfl)⟩, trivial⟩ ⟨A_r4_2_2, p_r4_2_3, _, (some ⟨b_r4_3_1, 0, none⟩), 0, _, (some ⟨b_r4_4_2, 0, none⟩), (((15 : Int)).toNat), _, (by first | (rw [lh_r4_4_5]; done) | (rw [lh_r4_4_5]; rfl)), o_r4_2_5, o_r4_3_3, o_r4_4_4, (hs.pick [(0, 103001), (1, 103061), (2, 103081)] rfl).dnil⟩

noncomputable def spec_l00Src_byte.f (x0 : S_l00Src) : Option (Int × Int × Int) :=
  (bif (decide ((w64 (x0.at_ + 1)) ≤ (x0.code.length : Int))) then (if 0 ≤ (w64 ((w64 (x0.at_ + 1)) - 1)) ∧ (w64 ((w64 (x0.at_ + 1)) - 1)) < (x0.code.length : Int) then (if 0 ≤ (w64 ((w64 (x0.at_ + 1)) - 1)) ∧ (w64 ((w64 (x0.at_ + 1)) - 1)) < (x0.code.length : Int) then (some ((IntKind.wrap .i64 (x0.code.getD (w64 ((w64 (x0.at_ + 1)) - 1)).toNat 0)), (w64 (x0.at_ + 1)), (Int.tmod (w64 ((w64 ((w64 (x0.seed * 31)) + (IntKind.wrap .i64 (x0.code.getD (w64 ((w64 (x0.at_ + 1)) - 1)).toNat 0)))) + 7)) 2147483648))) else none) else none) else (bif (decide ((w64 (x0.at_ + 1)) > 3000)) then (some (0, (w64 (x0.at_ + 1)), x0.seed)) else (some ((Int.tmod (IntKind.wrap .i64 (Int.tdiv (Int.tmod (w64 ((w64 (x0.seed * 1103515245)) + 12345)) 2147483648) 65536)) 256), (w64 (x0.at_ + 1)), (Int.tmod (w64 ((w64 (x0.seed * 1103515245)) + 12345)) 2147483648)))))
set_option maxRecDepth 100000 in
set_option maxHeartbeats 0 in
theorem spec_l00Src_byte_t (w0 : World) (b0_ : Nat) (x0 : S_l00Src) (A0_0 : Option Addr) (p0_0 : Nat) (k0_0 : Chunk) (v0_0 : View (Lay.int .u8) A0_0 p0_0 x0.code k0_0) (w0_0 : Has w0 k0_0) (hs0 : Sat (blks [(1, [(b0_, .cells #[.slice A0_0 x0.code.length p0_0, .int .i64 x0.at_, .int .i64 x0.seed] 143 (0, 0))])]) w0 w0 [(2, k0_0)] [(1, [(b0_, .cells #[.slice A0_0 x0.code.length p0_0, .int .i64 x0.at_, .int .i64 x0.seed] 143 (0, 0))])]) (r : Int × Int × Int) (H : spec_l00Src_byte.f x0 = some r) :
    Calls Try.prog 180 #[.pointer (some ⟨b0_, 0, none⟩)] w0 (Ret (fun v w => v = .int .i64 r.1 ∧ Sat (blks [(1, [(b0_, .cells #[.slice A0_0 x0.code.length p0_0, .int .i64 x0.at_, .int .i64 x0.seed] 143 (0, 0))])]) w0 w [] [(0, [(b0_, .cells #[.slice A0_0 x0.code.length p0_0, .int .i64 r.2.1, .int .i64 r.2.2] 143 (0, 0))])])) := by
  have hs := hs0
  unfold spec_l00Src_byte.f at H
  refine enter Try.func180 rfl Try.ntmps180 rfl fun a hk => ?_
  apply wp_seq_k; intro K1 hK1
  apply wp_region_lit
  refine sa _ rfl hk rfl rfl rfl fun a hk => ?_
  show wpList _ _ _ [] _ _
  refine wpList_nil ?_
  refine hK1 _ _ ?_
  apply wp_seq_k; intro K2 hK2
  apply wp_region_lit
  refine sm _ rfl hk rfl rfl rfl fun a hk => ?_
  refine snk rfl hk rfl rfl rfl fun a hk => ?_
  refine sf ⟨b0_, 1, none⟩ rfl hk rfl rfl rfl fd143_1 rfl fun a hk => ?_
  refine sl rfl hk rfl rfl rfl ag3 (box_cell hs (k := 1) rfl rfl) fun a hk => ?_
  refine sv (.int .i64 (w64 (x0.at_ + 1))) hk rfl rfl rfl fun a hk => ?_
  refine snk rfl hk rfl rfl rfl fun a hk => ?_
  refine sf ⟨b0_, 1, none⟩ rfl hk rfl rfl rfl fd143_1 rfl fun a hk => ?_
  refine ssx (cs' := #[.slice A0_0 x0.code.length p0_0, .int .i64 (w64 (x0.at_ + 1)), .int .i64 x0.seed]) 1 hs rfl rfl hk rfl rfl rfl rfl sz3 rfl rfl rfl rfl fun w a hk hs => ?_
  show wpList _ _ _ [] _ _
  refine wpList_nil ?_
  refine hK2 _ _ ?_
  apply wp_seq_k; intro K3 hK3
  apply wp_seq_k; intro K4 hK4
  refine wp_region_tree (.q 0 (.q 1 (.q 2 (.q 3 (.alt 4 (.alt 5 (.alt 6 (.alt 7 (.alt 8 (.alt 9 .done .stop) .stop) .stop) .stop) .stop) .stop))))) mo (by kernel_rfl) (hs.pick [(1, 1)] rfl) fun _ => ?_
  have hs := hs.drew
  refine tqst (.pointer (some ⟨b0_, 0, none⟩)) hk rfl rfl rfl rfl (fun w hs => sm _ rfl hk rfl rfl rfl fun a hk => qe hk) fun a hk => ?_
  refine tqst (.pointer (some ⟨b0_, 0, none⟩)) hk rfl rfl rfl rfl (fun w hs => snk rfl hk rfl rfl rfl fun a hk => qe hk) fun a hk => ?_
  refine tqst (.pointer (some ⟨b0_, 1, none⟩)) hk rfl rfl rfl rfl (fun w hs => sf ⟨b0_, 1, none⟩ rfl hk rfl rfl rfl fd143_1 rfl fun a hk => qe hk) fun a hk => ?_
  refine tqst (.int .i64 (w64 (x0.at_ + 1))) hk rfl rfl rfl rfl (fun w hs => sl rfl hk rfl rfl rfl ag3 (box_cell hs (k := 1) rfl rfl) fun a hk => qe hk) fun a hk => ?_
  refine tsst hk rfl rfl (fun K_r5_4 hK_r5_4 w hF => ?_) wt_stop
  have hs := hs.f hF
  refine sm _ rfl hk rfl rfl rfl fun a hk => ?_
  refine se (hs.pick [(1, 1)] rfl) hk (hK_r5_4 _ _ ?_)
  refine tsst hk rfl rfl (fun K_r5_5 hK_r5_5 w hF => ?_) wt_stop
  have hs := hs.f hF
  refine snk rfl hk rfl rfl rfl fun a hk => ?_
  refine se (hs.pick [(1, 1)] rfl) hk (hK_r5_5 _ _ ?_)
  refine tsst hk rfl rfl (fun K_r5_6 hK_r5_6 w hF => ?_) wt_stop
  have hs := hs.f hF
  refine sf ⟨b0_, 0, none⟩ rfl hk rfl rfl rfl fd143_0 rfl fun a hk => ?_
  refine se (hs.pick [(1, 1)] rfl) hk (hK_r5_6 _ _ ?_)
  refine tsst hk rfl rfl (fun K_r5_7 hK_r5_7 w hF => ?_) wt_stop
  have hs := hs.f hF
  refine sl rfl hk rfl rfl rfl ag38 (box_cell hs (k := 1) rfl rfl) fun a hk => ?_
  refine se (hs.pick [(1, 1)] rfl) hk (hK_r5_7 _ _ ?_)
  refine tsst hk rfl rfl (fun K_r5_8 hK_r5_8 w hF => ?_) wt_stop
  have hs := hs.f hF
  refine sle rfl hk rfl rfl rfl un38 fun a hk => ?_
  refine se (hs.pick [(1, 1)] rfl) hk (hK_r5_8 _ _ ?_)
  refine tsst hk rfl rfl (fun K_r5_9 hK_r5_9 w hF => ?_) wt_stop
  have hs := hs.f hF
  refine sv (.bool (decide ((w64 (x0.at_ + 1)) ≤ (x0.code.length : Int)))) hk rfl rfl rfl fun a hk => ?_
  refine se (hs.pick [(1, 1)] rfl) hk (hK_r5_9 _ _ ?_)
  refine wtl_nil fun w hF _ => ?_
  have hs := hs.f hF
  refine hK4 _ _ ?_
  rcases cond_some H with ⟨c6, H⟩ | ⟨c6, H⟩
  ·have hk := hk.lit 19 c6 rfl
   refine cnd_true hk rfl rfl ?_
   apply wp_seq_k; intro K7 hK7
   rcases ite_some H with ⟨c_r8_15_1, H⟩ | ⟨_, H⟩
   rotate_left
   ·cases H
   obtain ⟨R9, hR9⟩ : ∃ R : Act → World → Prop, R = fun a w => Kn [(0, (.pointer (some ⟨b0_, 0, none⟩)))] 76 a ∧ Sat (blks [(1, [(b0_, .cells #[.slice A0_0 x0.code.length p0_0, .int .i64 x0.at_, .int .i64 x0.seed] 143 (0, 0))])]) w0 w [(2, k0_0)] [(1, [(b0_, .cells #[.slice A0_0 x0.code.length p0_0, .int .i64 (w64 (x0.at_ + 1)), .int .i64 (Int.tmod (w64 ((w64 ((w64 (x0.seed * 31)) + (IntKind.wrap .i64 (x0.code.getD (w64 ((w64 (x0.at_ + 1)) - 1)).toNat 0)))) + 7)) 2147483648)] 143 (0, 0))])] := ⟨_, rfl⟩
   refine wp_cutq R9 ?_ ?_
   ·skip
    refine wp_region_tree (.q 0 (.q 1 (.q 2 (.q 3 (.q 6 (.q 7 (.q 8 (.q 10 (.q 11 (.q 12 (.alt 4 (.q 5 (.alt 9 (.alt 13 (.alt 14 (.alt 15 (.alt 16 (.alt 17 (.alt 18 (.alt 19 (.alt 20 (.alt 21 (.alt 22 (.alt 23 .done .stop) .stop) .stop) .stop) .stop) .stop) .stop) .stop) .stop) .stop) .stop) (.alt 13 (.q 14 (.alt 9 (.alt 15 (.alt 16 (.alt 17 (.alt 18 (.alt 19 (.alt 20 (.alt 21 (.alt 22 (.alt 23 .done .stop) .stop) .stop) .stop) .stop) .stop) .stop) .stop) .stop) .stop)) .stop))) (.alt 9 (.alt 4 (.q 5 (.alt 13 (.alt 14 (.alt 15 (.alt 16 (.alt 17 (.alt 18 (.alt 19 (.alt 20 (.alt 21 (.alt 22 (.alt 23 .done .stop) .stop) .stop) .stop) .stop) .stop) .stop) .stop) .stop) .stop) .stop)) (.alt 13 (.q 14 (.q 15 (.q 16 (.q 17 (.alt 4 (.alt 5 (.alt 18 (.alt 19 (.alt 20 (.alt 21 (.alt 22 (.alt 23 .done .stop) .stop) .stop) .stop) .stop) .stop) .stop) .stop))))) .stop)) (.alt 13 (.q 14 (.alt 4 (.q 5 (.alt 9 (.alt 15 (.alt 16 (.alt 17 (.alt 18 (.alt 19 (.alt 20 (.alt 21 (.alt 22 (.alt 23 .done .stop) .stop) .stop) .stop) .stop) .stop) .stop) .stop) .stop) .stop)) (.alt 9 (.q 15 (.q 16 (.q 17 (.alt 4 (.alt 5 (.alt 18 (.alt 19 (.alt 20 (.alt 21 (.alt 22 (.alt 23 .done .stop) .stop) .stop) .stop) .stop) .stop) .stop) .stop)))) .stop))) .stop))))))))))))) mo (by kernel_rfl) (hs.pick [] rfl) fun _ => ?_
    have hs := hs.drew
    refine tqst (.pointer (some ⟨b0_, 0, none⟩)) hk rfl rfl rfl rfl (fun w hs => sm _ rfl hk rfl rfl rfl fun a hk => qe hk) fun a hk => ?_
    refine tqst (.pointer (some ⟨b0_, 0, none⟩)) hk rfl rfl rfl rfl (fun w hs => sm _ rfl hk rfl rfl rfl fun a hk => qe hk) fun a hk => ?_
    refine tqst (.pointer (some ⟨b0_, 0, none⟩)) hk rfl rfl rfl rfl (fun w hs => snk rfl hk rfl rfl rfl fun a hk => qe hk) fun a hk => ?_
    refine tqst (.pointer (some ⟨b0_, 2, none⟩)) hk rfl rfl rfl rfl (fun w hs => sf ⟨b0_, 2, none⟩ rfl hk rfl rfl rfl fd143_2 rfl fun a hk => qe hk) fun a hk => ?_
    refine tqst (.pointer (some ⟨b0_, 0, none⟩)) hk rfl rfl rfl rfl (fun w hs => sm _ rfl hk rfl rfl rfl fun a hk => qe hk) fun a hk => ?_
    refine tqst (.pointer (some ⟨b0_, 0, none⟩)) hk rfl rfl rfl rfl (fun w hs => snk rfl hk rfl rfl rfl fun a hk => qe hk) fun a hk => ?_
    refine tqst (.pointer (some ⟨b0_, 0, none⟩)) hk rfl rfl rfl rfl (fun w hs => sf ⟨b0_, 0, none⟩ rfl hk rfl rfl rfl fd143_0 rfl fun a hk => qe hk) fun a hk => ?_
    refine tqst (.pointer (some ⟨b0_, 0, none⟩)) hk rfl rfl rfl rfl (fun w hs => sm _ rfl hk rfl rfl rfl fun a hk => qe hk) fun a hk => ?_
    refine tqst (.pointer (some ⟨b0_, 0, none⟩)) hk rfl rfl rfl rfl (fun w hs => snk rfl hk rfl rfl rfl fun a hk => qe hk) fun a hk => ?_
    refine tqst (.pointer (some ⟨b0_, 1, none⟩)) hk rfl rfl rfl rfl (fun w hs => sf ⟨b0_, 1, none⟩ rfl hk rfl rfl rfl fd143_1 rfl fun a hk => qe hk) fun a hk => ?_
    refine tsst hk rfl rfl (fun K_r8_4 hK_r8_4 w hF => ?_) ?_
    ·skip
     have hs := hs.f hF
     refine sl rfl hk rfl rfl rfl ag3 (box_cell hs (k := 1) rfl rfl) fun a hk => ?_
     refine se (hs.pick [] rfl) hk (hK_r8_4 _ _ ?_)
     refine tqst (.int .i64 (w64 (x0.seed * 31))) hk rfl rfl rfl rfl (fun w hs => sv (.int .i64 (w64 (x0.seed * 31))) hk rfl rfl rfl fun a hk => qe hk) fun a hk => ?_
     refine tsst hk rfl rfl (fun K_r8_9 hK_r8_9 w hF => ?_) ?_
     ·skip
      have hs := hs.f hF
      refine sl rfl hk rfl rfl rfl ag38 (box_cell hs (k := 1) rfl rfl) fun a hk => ?_
      refine se (hs.pick [] rfl) hk (hK_r8_9 _ _ ?_)
      refine tsst hk rfl rfl (fun K_r8_13 hK_r8_13 w hF => ?_) wt_stop
      have hs := hs.f hF
      refine sl rfl hk rfl rfl rfl ag3 (box_cell hs (k := 1) rfl rfl) fun a hk => ?_
      refine se (hs.pick [] rfl) hk (hK_r8_13 _ _ ?_)
      refine tsst hk rfl rfl (fun K_r8_14 hK_r8_14 w hF => ?_) wt_stop
      have hs := hs.f hF
      refine sv (.int .i64 (w64 ((w64 (x0.at_ + 1)) - 1))) hk rfl rfl rfl fun a hk => ?_
      refine se (hs.pick [] rfl) hk (hK_r8_14 _ _ ?_)
      refine tsst hk rfl rfl (fun K_r8_15 hK_r8_15 w hF => ?_) wt_stop
      have hs := hs.f hF
      obtain ⟨b_r8_15_2, q_r8_15_3, hAc_r8_15_1⟩ := (v0_0).some_ (w64 ((w64 (x0.at_ + 1)) - 1)) c_r8_15_1.1 c_r8_15_1.2
      refine si rfl hk rfl rfl rfl rfl un38 sz5 c_r8_15_1.1 c_r8_15_1.2 hAc_r8_15_1 fun a hk => ?_
      refine se (hs.pick [] rfl) hk (hK_r8_15 _ _ ?_)
      refine tsst hk rfl rfl (fun K_r8_16 hK_r8_16 w hF => ?_) wt_stop
      have hs := hs.f hF
      obtain ⟨_, rfl, e_r8_16_1⟩ := (v0_0).at_ 0 (w64 ((w64 (x0.at_ + 1)) - 1)) c_r8_15_1.1 c_r8_15_1.2
      refine sl (v := (.int .u8 (x0.code.getD (w64 ((w64 (x0.at_ + 1)) - 1)).toNat 0))) rfl hk rfl rfl rfl ag5 ((e_r8_16_1 0 _ rfl).cell (hs.hasD (k := 2) rfl)) fun a hk => ?_
      refine se (hs.pick [] rfl) hk (hK_r8_16 _ _ ?_)
      refine tsst hk rfl rfl (fun K_r8_17 hK_r8_17 w hF => ?_) wt_stop
      have hs := hs.f hF
      refine scn rfl hk rfl rfl rfl un3 un5 fun a hk => ?_
      refine se (hs.pick [] rfl) hk (hK_r8_17 _ _ ?_)
      refine tsst hk rfl rfl (fun K_r8_18 hK_r8_18 w hF => ?_) wt_stop
      have hs := hs.f hF
      refine sv (.int .i64 (w64 ((w64 (x0.seed * 31)) + (IntKind.wrap .i64 (x0.code.getD (w64 ((w64 (x0.at_ + 1)) - 1)).toNat 0))))) hk rfl rfl rfl fun a hk => ?_
      refine se (hs.pick [] rfl) hk (hK_r8_18 _ _ ?_)
      refine tsst hk rfl rfl (fun K_r8_19 hK_r8_19 w hF => ?_) wt_stop
      have hs := hs.f hF
      refine sv (.int .i64 (w64 ((w64 ((w64 (x0.seed * 31)) + (IntKind.wrap .i64 (x0.code.getD (w64 ((w64 (x0.at_ + 1)) - 1)).toNat 0)))) + 7))) hk rfl rfl rfl fun a hk => ?_
      refine se (hs.pick [] rfl) hk (hK_r8_19 _ _ ?_)
      refine tsst hk rfl rfl (fun K_r8_20 hK_r8_20 w hF => ?_) wt_stop
      have hs := hs.f hF
      refine sv (.int .i64 (Int.tmod (w64 ((w64 ((w64 (x0.seed * 31)) + (IntKind.wrap .i64 (x0.code.getD (w64 ((w64 (x0.at_ + 1)) - 1)).toNat 0)))) + 7)) 2147483648)) hk rfl rfl rfl fun a hk => ?_
      refine se (hs.pick [] rfl) hk (hK_r8_20 _ _ ?_)
      refine tsst hk rfl rfl (fun K_r8_21 hK_r8_21 w hF => ?_) wt_stop
      have hs := hs.f hF
      refine snk rfl hk rfl rfl rfl fun a hk => ?_
      refine se (hs.pick [] rfl) hk (hK_r8_21 _ _ ?_)
      refine tsst hk rfl rfl (fun K_r8_22 hK_r8_22 w hF => ?_) wt_stop
      have hs := hs.f hF
      refine sf ⟨b0_, 2, none⟩ rfl hk rfl rfl rfl fd143_2 rfl fun a hk => ?_
      refine se (hs.pick [] rfl) hk (hK_r8_22 _ _ ?_)
      refine tsst hk rfl rfl (fun K_r8_23 hK_r8_23 w hF => ?_) wt_stop
      have hs := hs.f hF
      refine ssx (cs' := #[.slice A0_0 x0.code.length p0_0, .int .i64 (w64 (x0.at_ + 1)), .int .i64 (Int.tmod (w64 ((w64 ((w64 (x0.seed * 31)) + (IntKind.wrap .i64 (x0.code.getD (w64 ((w64 (x0.at_ + 1)) - 1)).toNat 0)))) + 7)) 2147483648)]) 1 hs rfl rfl hk rfl rfl rfl rfl sz3 rfl rfl rfl rfl fun w a hk hs => ?_
      refine se (hs.pick [] rfl) hk (hK_r8_23 _ _ ?_)
      refine wtl_nil fun w hF _ => ?_
      have hs := hs.f hF
      show R9 _ _
      rw [hR9]
      exact ⟨(hk.c 0 rfl hk.k), (hs.pick [(1, 1)] rfl)⟩
     refine tsst hk rfl rfl (fun K_r8_13 hK_r8_13 w hF => ?_) wt_stop
     have hs := hs.f hF
     refine sl rfl hk rfl rfl rfl ag3 (box_cell hs (k := 1) rfl rfl) fun a hk => ?_
     refine se (hs.pick [] rfl) hk (hK_r8_13 _ _ ?_)
     refine tqst (.int .i64 (w64 ((w64 (x0.at_ + 1)) - 1))) hk rfl rfl rfl rfl (fun w hs => sv (.int .i64 (w64 ((w64 (x0.at_ + 1)) - 1))) hk rfl rfl rfl fun a hk => qe hk) fun a hk => ?_
     refine tsst hk rfl rfl (fun K_r8_9 hK_r8_9 w hF => ?_) wt_stop
     have hs := hs.f hF
     refine sl rfl hk rfl rfl rfl ag38 (box_cell hs (k := 1) rfl rfl) fun a hk => ?_
     refine se (hs.pick [] rfl) hk (hK_r8_9 _ _ ?_)
     refine tsst hk rfl rfl (fun K_r8_15 hK_r8_15 w hF => ?_) wt_stop
     have hs := hs.f hF
     obtain ⟨b_r8_15_2, q_r8_15_3, hAc_r8_15_1⟩ := (v0_0).some_ (w64 ((w64 (x0.at_ + 1)) - 1)) c_r8_15_1.1 c_r8_15_1.2
     refine si rfl hk rfl rfl rfl rfl un38 sz5 c_r8_15_1.1 c_r8_15_1.2 hAc_r8_15_1 fun a hk => ?_
     refine se (hs.pick [] rfl) hk (hK_r8_15 _ _ ?_)
     refine tsst hk rfl rfl (fun K_r8_16 hK_r8_16 w hF => ?_) wt_stop
     have hs := hs.f hF
     obtain ⟨_, rfl, e_r8_16_1⟩ := (v0_0).at_ 0 (w64 ((w64 (x0.at_ + 1)) - 1)) c_r8_15_1.1 c_r8_15_1.2
     refine sl (v := (.int .u8 (x0.code.getD (w64 ((w64 (x0.at_ + 1)) - 1)).toNat 0))) rfl hk rfl rfl rfl ag5 ((e_r8_16_1 0 _ rfl).cell (hs.hasD (k := 2) rfl)) fun a hk => ?_
     refine se (hs.pick [] rfl) hk (hK_r8_16 _ _ ?_)
     refine tsst hk rfl rfl (fun K_r8_17 hK_r8_17 w hF => ?_) wt_stop
     have hs := hs.f hF
     refine scn rfl hk rfl rfl rfl un3 un5 fun a hk => ?_
     refine se (hs.pick [] rfl) hk (hK_r8_17 _ _ ?_)
     refine tsst hk rfl rfl (fun K_r8_18 hK_r8_18 w hF => ?_) wt_stop
     have hs := hs.f hF
     refine sv (.int .i64 (w64 ((w64 (x0.seed * 31)) + (IntKind.wrap .i64 (x0.code.getD (w64 ((w64 (x0.at_ + 1)) - 1)).toNat 0))))) hk rfl rfl rfl fun a hk => ?_
     refine se (hs.pick [] rfl) hk (hK_r8_18 _ _ ?_)
     refine tsst hk rfl rfl (fun K_r8_19 hK_r8_19 w hF => ?_) wt_stop
     have hs := hs.f hF
     refine sv (.int .i64 (w64 ((w64 ((w64 (x0.seed * 31)) + (IntKind.wrap .i64 (x0.code.getD (w64 ((w64 (x0.at_ + 1)) - 1)).toNat 0)))) + 7))) hk rfl rfl rfl fun a hk => ?_
     refine se (hs.pick [] rfl) hk (hK_r8_19 _ _ ?_)
     refine tsst hk rfl rfl (fun K_r8_20 hK_r8_20 w hF => ?_) wt_stop
     have hs := hs.f hF
     refine sv (.int .i64 (Int.tmod (w64 ((w64 ((w64 (x0.seed * 31)) + (IntKind.wrap .i64 (x0.code.getD (w64 ((w64 (x0.at_ + 1)) - 1)).toNat 0)))) + 7)) 2147483648)) hk rfl rfl rfl fun a hk => ?_
     refine se (hs.pick [] rfl) hk (hK_r8_20 _ _ ?_)
     refine tsst hk rfl rfl (fun K_r8_21 hK_r8_21 w hF => ?_) wt_stop
     have hs := hs.f hF
     refine snk rfl hk rfl rfl rfl fun a hk => ?_
     refine se (hs.pick [] rfl) hk (hK_r8_21 _ _ ?_)
     refine tsst hk rfl rfl (fun K_r8_22 hK_r8_22 w hF => ?_) wt_stop
     have hs := hs.f hF
     refine sf ⟨b0_, 2, none⟩ rfl hk rfl rfl rfl fd143_2 rfl fun a hk => ?_
     refine se (hs.pick [] rfl) hk (hK_r8_22 _ _ ?_)
     refine tsst hk rfl rfl (fun K_r8_23 hK_r8_23 w hF => ?_) wt_stop
     have hs := hs.f hF
     refine ssx (cs' := #[.slice A0_0 x0.code.length p0_0, .int .i64 (w64 (x0.at_ + 1)), .int .i64 (Int.tmod (w64 ((w64 ((w64 (x0.seed * 31)) + (IntKind.wrap .i64 (x0.code.getD (w64 ((w64 (x0.at_ + 1)) - 1)).toNat 0)))) + 7)) 2147483648)]) 1 hs rfl rfl hk rfl rfl rfl rfl sz3 rfl rfl rfl rfl fun w a hk hs => ?_
     refine se (hs.pick [] rfl) hk (hK_r8_23 _ _ ?_)
     refine wtl_nil fun w hF _ => ?_
     have hs := hs.f hF
     show R9 _ _
     rw [hR9]
     exact ⟨(hk.c 0 rfl hk.k), (hs.pick [(1, 1)] rfl)⟩
    refine tsst hk rfl rfl (fun K_r8_9 hK_r8_9 w hF => ?_) ?_
    ·skip
     have hs := hs.f hF
     refine sl rfl hk rfl rfl rfl ag38 (box_cell hs (k := 1) rfl rfl) fun a hk => ?_
     refine se (hs.pick [] rfl) hk (hK_r8_9 _ _ ?_)
     refine tsst hk rfl rfl (fun K_r8_4 hK_r8_4 w hF => ?_) ?_
     ·skip
      have hs := hs.f hF
      refine sl rfl hk rfl rfl rfl ag3 (box_cell hs (k := 1) rfl rfl) fun a hk => ?_
      refine se (hs.pick [] rfl) hk (hK_r8_4 _ _ ?_)
      refine tqst (.int .i64 (w64 (x0.seed * 31))) hk rfl rfl rfl rfl (fun w hs => sv (.int .i64 (w64 (x0.seed * 31))) hk rfl rfl rfl fun a hk => qe hk) fun a hk => ?_
      refine tsst hk rfl rfl (fun K_r8_13 hK_r8_13 w hF => ?_) wt_stop
      have hs := hs.f hF
      refine sl rfl hk rfl rfl rfl ag3 (box_cell hs (k := 1) rfl rfl) fun a hk => ?_
      refine se (hs.pick [] rfl) hk (hK_r8_13 _ _ ?_)
      refine tsst hk rfl rfl (fun K_r8_14 hK_r8_14 w hF => ?_) wt_stop
      have hs := hs.f hF
      refine sv (.int .i64 (w64 ((w64 (x0.at_ + 1)) - 1))) hk rfl rfl rfl fun a hk => ?_
      refine se (hs.pick [] rfl) hk (hK_r8_14 _ _ ?_)
      refine tsst hk rfl rfl (fun K_r8_15 hK_r8_15 w hF => ?_) wt_stop
      have hs := hs.f hF
      obtain ⟨b_r8_15_2, q_r8_15_3, hAc_r8_15_1⟩ := (v0_0).some_ (w64 ((w64 (x0.at_ + 1)) - 1)) c_r8_15_1.1 c_r8_15_1.2
      refine si rfl hk rfl rfl rfl rfl un38 sz5 c_r8_15_1.1 c_r8_15_1.2 hAc_r8_15_1 fun a hk => ?_
      refine se (hs.pick [] rfl) hk (hK_r8_15 _ _ ?_)
      refine tsst hk rfl rfl (fun K_r8_16 hK_r8_16 w hF => ?_) wt_stop
      have hs := hs.f hF
      obtain ⟨_, rfl, e_r8_16_1⟩ := (v0_0).at_ 0 (w64 ((w64 (x0.at_ + 1)) - 1)) c_r8_15_1.1 c_r8_15_1.2
      refine sl (v := (.int .u8 (x0.code.getD (w64 ((w64 (x0.at_ + 1)) - 1)).toNat 0))) rfl hk rfl rfl rfl ag5 ((e_r8_16_1 0 _ rfl).cell (hs.hasD (k := 2) rfl)) fun a hk => ?_
      refine se (hs.pick [] rfl) hk (hK_r8_16 _ _ ?_)
      refine tsst hk rfl rfl (fun K_r8_17 hK_r8_17 w hF => ?_) wt_stop
      have hs := hs.f hF
      refine scn rfl hk rfl rfl rfl un3 un5 fun a hk => ?_
      refine se (hs.pick [] rfl) hk (hK_r8_17 _ _ ?_)
      refine tsst hk rfl rfl (fun K_r8_18 hK_r8_18 w hF => ?_) wt_stop
      have hs := hs.f hF
      refine sv (.int .i64 (w64 ((w64 (x0.seed * 31)) + (IntKind.wrap .i64 (x0.code.getD (w64 ((w64 (x0.at_ + 1)) - 1)).toNat 0))))) hk rfl rfl rfl fun a hk => ?_
      refine se (hs.pick [] rfl) hk (hK_r8_18 _ _ ?_)
      refine tsst hk rfl rfl (fun K_r8_19 hK_r8_19 w hF => ?_) wt_stop
      have hs := hs.f hF
      refine sv (.int .i64 (w64 ((w64 ((w64 (x0.seed * 31)) + (IntKind.wrap .i64 (x0.code.getD (w64 ((w64 (x0.at_ + 1)) - 1)).toNat 0)))) + 7))) hk rfl rfl rfl fun a hk => ?_
      refine se (hs.pick [] rfl) hk (hK_r8_19 _ _ ?_)
      refine tsst hk rfl rfl (fun K_r8_20 hK_r8_20 w hF => ?_) wt_stop
      have hs := hs.f hF
      refine sv (.int .i64 (Int.tmod (w64 ((w64 ((w64 (x0.seed * 31)) + (IntKind.wrap .i64 (x0.code.getD (w64 ((w64 (x0.at_ + 1)) - 1)).toNat 0)))) + 7)) 2147483648)) hk rfl rfl rfl fun a hk => ?_
      refine se (hs.pick [] rfl) hk (hK_r8_20 _ _ ?_)
      refine tsst hk rfl rfl (fun K_r8_21 hK_r8_21 w hF => ?_) wt_stop
      have hs := hs.f hF
      refine snk rfl hk rfl rfl rfl fun a hk => ?_
      refine se (hs.pick [] rfl) hk (hK_r8_21 _ _ ?_)
      refine tsst hk rfl rfl (fun K_r8_22 hK_r8_22 w hF => ?_) wt_stop
      have hs := hs.f hF
      refine sf ⟨b0_, 2, none⟩ rfl hk rfl rfl rfl fd143_2 rfl fun a hk => ?_
      refine se (hs.pick [] rfl) hk (hK_r8_22 _ _ ?_)
      refine tsst hk rfl rfl (fun K_r8_23 hK_r8_23 w hF => ?_) wt_stop
      have hs := hs.f hF
      refine ssx (cs' := #[.slice A0_0 x0.code.length p0_0, .int .i64 (w64 (x0.at_ + 1)), .int .i64 (Int.tmod (w64 ((w64 ((w64 (x0.seed * 31)) + (IntKind.wrap .i64 (x0.code.getD (w64 ((w64 (x0.at_ + 1)) - 1)).toNat 0)))) + 7)) 2147483648)]) 1 hs rfl rfl hk rfl rfl rfl rfl sz3 rfl rfl rfl rfl fun w a hk hs => ?_
      refine se (hs.pick [] rfl) hk (hK_r8_23 _ _ ?_)
      refine wtl_nil fun w hF _ => ?_
      have hs := hs.f hF
      show R9 _ _
      rw [hR9]
      exact ⟨(hk.c 0 rfl hk.k), (hs.pick [(1, 1)] rfl)⟩
     refine tsst hk rfl rfl (fun K_r8_13 hK_r8_13 w hF => ?_) wt_stop
     have hs := hs.f hF
     refine sl rfl hk rfl rfl rfl ag3 (box_cell hs (k := 1) rfl rfl) fun a hk => ?_
     refine se (hs.pick [] rfl) hk (hK_r8_13 _ _ ?_)
     refine tqst (.int .i64 (w64 ((w64 (x0.at_ + 1)) - 1))) hk rfl rfl rfl rfl (fun w hs => sv (.int .i64 (w64 ((w64 (x0.at_ + 1)) - 1))) hk rfl rfl rfl fun a hk => qe hk) fun a hk => ?_
     obtain ⟨b_r8_15_2, q_r8_15_3, hAc_r8_15_1⟩ := (v0_0).some_ (w64 ((w64 (x0.at_ + 1)) - 1)) c_r8_15_1.1 c_r8_15_1.2
     refine tqst (.pointer (some (padd A0_0 ((w64 ((w64 (x0.at_ + 1)) - 1)).toNat * 1)))) hk rfl rfl rfl rfl (fun w hs => si rfl hk rfl rfl rfl rfl un38 sz5 c_r8_15_1.1 c_r8_15_1.2 hAc_r8_15_1 fun a hk => qe hk) fun a hk => ?_
     obtain ⟨_, rfl, e_r8_16_1⟩ := (v0_0).at_ 0 (w64 ((w64 (x0.at_ + 1)) - 1)) c_r8_15_1.1 c_r8_15_1.2
     refine tqst (.int .u8 (x0.code.getD (w64 ((w64 (x0.at_ + 1)) - 1)).toNat 0)) hk rfl rfl rfl rfl (fun w hs => sl (v := (.int .u8 (x0.code.getD (w64 ((w64 (x0.at_ + 1)) - 1)).toNat 0))) rfl hk rfl rfl rfl ag5 ((e_r8_16_1 0 _ rfl).cell (hs.hasD (k := 2) rfl)) fun a hk => qe hk) fun a hk => ?_
     refine tqst (.int .i64 (IntKind.wrap .i64 (x0.code.getD (w64 ((w64 (x0.at_ + 1)) - 1)).toNat 0))) hk rfl rfl rfl rfl (fun w hs => scn rfl hk rfl rfl rfl un3 un5 fun a hk => qe hk) fun a hk => ?_
     refine tsst hk rfl rfl (fun K_r8_4 hK_r8_4 w hF => ?_) wt_stop
     have hs := hs.f hF
     refine sl rfl hk rfl rfl rfl ag3 (box_cell hs (k := 1) rfl rfl) fun a hk => ?_
     refine se (hs.pick [] rfl) hk (hK_r8_4 _ _ ?_)
     refine tsst hk rfl rfl (fun K_r8_5 hK_r8_5 w hF => ?_) wt_stop
     have hs := hs.f hF
     refine sv (.int .i64 (w64 (x0.seed * 31))) hk rfl rfl rfl fun a hk => ?_
     refine se (hs.pick [] rfl) hk (hK_r8_5 _ _ ?_)
     refine tsst hk rfl rfl (fun K_r8_18 hK_r8_18 w hF => ?_) wt_stop
     have hs := hs.f hF
     refine sv (.int .i64 (w64 ((w64 (x0.seed * 31)) + (IntKind.wrap .i64 (x0.code.getD (w64 ((w64 (x0.at_ + 1)) - 1)).toNat 0))))) hk rfl rfl rfl fun a hk => ?_
     refine se (hs.pick [] rfl) hk (hK_r8_18 _ _ ?_)
     refine tsst hk rfl rfl (fun K_r8_19 hK_r8_19 w hF => ?_) wt_stop
     have hs := hs.f hF
     refine sv (.int .i64 (w64 ((w64 ((w64 (x0.seed * 31)) + (IntKind.wrap .i64 (x0.code.getD (w64 ((w64 (x0.at_ + 1)) - 1)).toNat 0)))) + 7))) hk rfl rfl rfl fun a hk => ?_
     refine se (hs.pick [] rfl) hk (hK_r8_19 _ _ ?_)
     refine tsst hk rfl rfl (fun K_r8_20 hK_r8_20 w hF => ?_) wt_stop
     have hs := hs.f hF
     refine sv (.int .i64 (Int.tmod (w64 ((w64 ((w64 (x0.seed * 31)) + (IntKind.wrap .i64 (x0.code.getD (w64 ((w64 (x0.at_ + 1)) - 1)).toNat 0)))) + 7)) 2147483648)) hk rfl rfl rfl fun a hk => ?_
     refine se (hs.pick [] rfl) hk (hK_r8_20 _ _ ?_)
     refine tsst hk rfl rfl (fun K_r8_21 hK_r8_21 w hF => ?_) wt_stop
     have hs := hs.f hF
     refine snk rfl hk rfl rfl rfl fun a hk => ?_
     refine se (hs.pick [] rfl) hk (hK_r8_21 _ _ ?_)
     refine tsst hk rfl rfl (fun K_r8_22 hK_r8_22 w hF => ?_) wt_stop
     have hs := hs.f hF
     refine sf ⟨b0_, 2, none⟩ rfl hk rfl rfl rfl fd143_2 rfl fun a hk => ?_
     refine se (hs.pick [] rfl) hk (hK_r8_22 _ _ ?_)
     refine tsst hk rfl rfl (fun K_r8_23 hK_r8_23 w hF => ?_) wt_stop
     have hs := hs.f hF
     refine ssx (cs' := #[.slice A0_0 x0.code.length p0_0, .int .i64 (w64 (x0.at_ + 1)), .int .i64 (Int.tmod (w64 ((w64 ((w64 (x0.seed * 31)) + (IntKind.wrap .i64 (x0.code.getD (w64 ((w64 (x0.at_ + 1)) - 1)).toNat 0)))) + 7)) 2147483648)]) 1 hs rfl rfl hk rfl rfl rfl rfl sz3 rfl rfl rfl rfl fun w a hk hs => ?_
     refine se (hs.pick [] rfl) hk (hK_r8_23 _ _ ?_)
     refine wtl_nil fun w hF _ => ?_
     have hs := hs.f hF
     show R9 _ _
     rw [hR9]
     exact ⟨(hk.c 0 rfl hk.k), (hs.pick [(1, 1)] rfl)⟩
    refine tsst hk rfl rfl (fun K_r8_13 hK_r8_13 w hF => ?_) wt_stop
    have hs := hs.f hF
    refine sl rfl hk rfl rfl rfl ag3 (box_cell hs (k := 1) rfl rfl) fun a hk => ?_
    refine se (hs.pick [] rfl) hk (hK_r8_13 _ _ ?_)
    refine tqst (.int .i64 (w64 ((w64 (x0.at_ + 1)) - 1))) hk rfl rfl rfl rfl (fun w hs => sv (.int .i64 (w64 ((w64 (x0.at_ + 1)) - 1))) hk rfl rfl rfl fun a hk => qe hk) fun a hk => ?_
    refine tsst hk rfl rfl (fun K_r8_4 hK_r8_4 w hF => ?_) ?_
    ·skip
     have hs := hs.f hF
     refine sl rfl hk rfl rfl rfl ag3 (box_cell hs (k := 1) rfl rfl) fun a hk => ?_
     refine se (hs.pick [] rfl) hk (hK_r8_4 _ _ ?_)
     refine tqst (.int .i64 (w64 (x0.seed * 31))) hk rfl rfl rfl rfl (fun w hs => sv (.int .i64 (w64 (x0.seed * 31))) hk rfl rfl rfl fun a hk => qe hk) fun a hk => ?_
     refine tsst hk rfl rfl (fun K_r8_9 hK_r8_9 w hF => ?_) wt_stop
     have hs := hs.f hF
     refine sl rfl hk rfl rfl rfl ag38 (box_cell hs (k := 1) rfl rfl) fun a hk => ?_
     refine se (hs.pick [] rfl) hk (hK_r8_9 _ _ ?_)
     refine tsst hk rfl rfl (fun K_r8_15 hK_r8_15 w hF => ?_) wt_stop
     have hs := hs.f hF
     obtain ⟨b_r8_15_2, q_r8_15_3, hAc_r8_15_1⟩ := (v0_0).some_ (w64 ((w64 (x0.at_ + 1)) - 1)) c_r8_15_1.1 c_r8_15_1.2
     refine si rfl hk rfl rfl rfl rfl un38 sz5 c_r8_15_1.1 c_r8_15_1.2 hAc_r8_15_1 fun a hk => ?_
     refine se (hs.pick [] rfl) hk (hK_r8_15 _ _ ?_)
     refine tsst hk rfl rfl (fun K_r8_16 hK_r8_16 w hF => ?_) wt_stop
     have hs := hs.f hF
     obtain ⟨_, rfl, e_r8_16_1⟩ := (v0_0).at_ 0 (w64 ((w64 (x0.at_ + 1)) - 1)) c_r8_15_1.1 c_r8_15_1.2
     refine sl (v := (.int .u8 (x0.code.getD (w64 ((w64 (x0.at_ + 1)) - 1)).toNat 0))) rfl hk rfl rfl rfl ag5 ((e_r8_16_1 0 _ rfl).cell (hs.hasD (k := 2) rfl)) fun a hk => ?_
     refine se (hs.pick [] rfl) hk (hK_r8_16 _ _ ?_)
     refine tsst hk rfl rfl (fun K_r8_17 hK_r8_17 w hF => ?_) wt_stop
     have hs := hs.f hF
     refine scn rfl hk rfl rfl rfl un3 un5 fun a hk => ?_
     refine se (hs.pick [] rfl) hk (hK_r8_17 _ _ ?_)
     refine tsst hk rfl rfl (fun K_r8_18 hK_r8_18 w hF => ?_) wt_stop
     have hs := hs.f hF
     refine sv (.int .i64 (w64 ((w64 (x0.seed * 31)) + (IntKind.wrap .i64 (x0.code.getD (w64 ((w64 (x0.at_ + 1)) - 1)).toNat 0))))) hk rfl rfl rfl fun a hk => ?_
     refine se (hs.pick [] rfl) hk (hK_r8_18 _ _ ?_)
     refine tsst hk rfl rfl (fun K_r8_19 hK_r8_19 w hF => ?_) wt_stop
     have hs := hs.f hF
     refine sv (.int .i64 (w64 ((w64 ((w64 (x0.seed * 31)) + (IntKind.wrap .i64 (x0.code.getD (w64 ((w64 (x0.at_ + 1)) - 1)).toNat 0)))) + 7))) hk rfl rfl rfl fun a hk => ?_
     refine se (hs.pick [] rfl) hk (hK_r8_19 _ _ ?_)
     refine tsst hk rfl rfl (fun K_r8_20 hK_r8_20 w hF => ?_) wt_stop
     have hs := hs.f hF
     refine sv (.int .i64 (Int.tmod (w64 ((w64 ((w64 (x0.seed * 31)) + (IntKind.wrap .i64 (x0.code.getD (w64 ((w64 (x0.at_ + 1)) - 1)).toNat 0)))) + 7)) 2147483648)) hk rfl rfl rfl fun a hk => ?_
     refine se (hs.pick [] rfl) hk (hK_r8_20 _ _ ?_)
     refine tsst hk rfl rfl (fun K_r8_21 hK_r8_21 w hF => ?_) wt_stop
     have hs := hs.f hF
     refine snk rfl hk rfl rfl rfl fun a hk => ?_
     refine se (hs.pick [] rfl) hk (hK_r8_21 _ _ ?_)
     refine tsst hk rfl rfl (fun K_r8_22 hK_r8_22 w hF => ?_) wt_stop
     have hs := hs.f hF
     refine sf ⟨b0_, 2, none⟩ rfl hk rfl rfl rfl fd143_2 rfl fun a hk => ?_
     refine se (hs.pick [] rfl) hk (hK_r8_22 _ _ ?_)
     refine tsst hk rfl rfl (fun K_r8_23 hK_r8_23 w hF => ?_) wt_stop
     have hs := hs.f hF
     refine ssx (cs' := #[.slice A0_0 x0.code.length p0_0, .int .i64 (w64 (x0.at_ + 1)), .int .i64 (Int.tmod (w64 ((w64 ((w64 (x0.seed * 31)) + (IntKind.wrap .i64 (x0.code.getD (w64 ((w64 (x0.at_ + 1)) - 1)).toNat 0)))) + 7)) 2147483648)]) 1 hs rfl rfl hk rfl rfl rfl rfl sz3 rfl rfl rfl rfl fun w a hk hs => ?_
     refine se (hs.pick [] rfl) hk (hK_r8_23 _ _ ?_)
     refine wtl_nil fun w hF _ => ?_
     have hs := hs.f hF
     show R9 _ _
     rw [hR9]
     exact ⟨(hk.c 0 rfl hk.k), (hs.pick [(1, 1)] rfl)⟩
    refine tsst hk rfl rfl (fun K_r8_9 hK_r8_9 w hF => ?_) wt_stop
    have hs := hs.f hF
    refine sl rfl hk rfl rfl rfl ag38 (box_cell hs (k := 1) rfl rfl) fun a hk => ?_
    refine se (hs.pick [] rfl) hk (hK_r8_9 _ _ ?_)
    obtain ⟨b_r8_15_2, q_r8_15_3, hAc_r8_15_1⟩ := (v0_0).some_ (w64 ((w64 (x0.at_ + 1)) - 1)) c_r8_15_1.1 c_r8_15_1.2
    refine tqst (.pointer (some (padd A0_0 ((w64 ((w64 (x0.at_ + 1)) - 1)).toNat * 1)))) hk rfl rfl rfl rfl (fun w hs => si rfl hk rfl rfl rfl rfl un38 sz5 c_r8_15_1.1 c_r8_15_1.2 hAc_r8_15_1 fun a hk => qe hk) fun a hk => ?_
    obtain ⟨_, rfl, e_r8_16_1⟩ := (v0_0).at_ 0 (w64 ((w64 (x0.at_ + 1)) - 1)) c_r8_15_1.1 c_r8_15_1.2
    refine tqst (.int .u8 (x0.code.getD (w64 ((w64 (x0.at_ + 1)) - 1)).toNat 0)) hk rfl rfl rfl rfl (fun w hs => sl (v := (.int .u8 (x0.code.getD (w64 ((w64 (x0.at_ + 1)) - 1)).toNat 0))) rfl hk rfl rfl rfl ag5 ((e_r8_16_1 0 _ rfl).cell (hs.hasD (k := 2) rfl)) fun a hk => qe hk) fun a hk => ?_
    refine tqst (.int .i64 (IntKind.wrap .i64 (x0.code.getD (w64 ((w64 (x0.at_ + 1)) - 1)).toNat 0))) hk rfl rfl rfl rfl (fun w hs => scn rfl hk rfl rfl rfl un3 un5 fun a hk => qe hk) fun a hk => ?_
    refine tsst hk rfl rfl (fun K_r8_4 hK_r8_4 w hF => ?_) wt_stop
    have hs := hs.f hF
    refine sl rfl hk rfl rfl rfl ag3 (box_cell hs (k := 1) rfl rfl) fun a hk => ?_
    refine se (hs.pick [] rfl) hk (hK_r8_4 _ _ ?_)
    refine tsst hk rfl rfl (fun K_r8_5 hK_r8_5 w hF => ?_) wt_stop
    have hs := hs.f hF
    refine sv (.int .i64 (w64 (x0.seed * 31))) hk rfl rfl rfl fun a hk => ?_
    refine se (hs.pick [] rfl) hk (hK_r8_5 _ _ ?_)
    refine tsst hk rfl rfl (fun K_r8_18 hK_r8_18 w hF => ?_) wt_stop
    have hs := hs.f hF
    refine sv (.int .i64 (w64 ((w64 (x0.seed * 31)) + (IntKind.wrap .i64 (x0.code.getD (w64 ((w64 (x0.at_ + 1)) - 1)).toNat 0))))) hk rfl rfl rfl fun a hk => ?_
    refine se (hs.pick [] rfl) hk (hK_r8_18 _ _ ?_)
    refine tsst hk rfl rfl (fun K_r8_19 hK_r8_19 w hF => ?_) wt_stop
    have hs := hs.f hF
    refine sv (.int .i64 (w64 ((w64 ((w64 (x0.seed * 31)) + (IntKind.wrap .i64 (x0.code.getD (w64 ((w64 (x0.at_ + 1)) - 1)).toNat 0)))) + 7))) hk rfl rfl rfl fun a hk => ?_
    refine se (hs.pick [] rfl) hk (hK_r8_19 _ _ ?_)
    refine tsst hk rfl rfl (fun K_r8_20 hK_r8_20 w hF => ?_) wt_stop
    have hs := hs.f hF
    refine sv (.int .i64 (Int.tmod (w64 ((w64 ((w64 (x0.seed * 31)) + (IntKind.wrap .i64 (x0.code.getD (w64 ((w64 (x0.at_ + 1)) - 1)).toNat 0)))) + 7)) 2147483648)) hk rfl rfl rfl fun a hk => ?_
    refine se (hs.pick [] rfl) hk (hK_r8_20 _ _ ?_)
    refine tsst hk rfl rfl (fun K_r8_21 hK_r8_21 w hF => ?_) wt_stop
    have hs := hs.f hF
    refine snk rfl hk rfl rfl rfl fun a hk => ?_
    refine se (hs.pick [] rfl) hk (hK_r8_21 _ _ ?_)
    refine tsst hk rfl rfl (fun K_r8_22 hK_r8_22 w hF => ?_) wt_stop
    have hs := hs.f hF
    refine sf ⟨b0_, 2, none⟩ rfl hk rfl rfl rfl fd143_2 rfl fun a hk => ?_
    refine se (hs.pick [] rfl) hk (hK_r8_22 _ _ ?_)
    refine tsst hk rfl rfl (fun K_r8_23 hK_r8_23 w hF => ?_) wt_stop
    have hs := hs.f hF
    refine ssx (cs' := #[.slice A0_0 x0.code.length p0_0, .int .i64 (w64 (x0.at_ + 1)), .int .i64 (Int.tmod (w64 ((w64 ((w64 (x0.seed * 31)) + (IntKind.wrap .i64 (x0.code.getD (w64 ((w64 (x0.at_ + 1)) - 1)).toNat 0)))) + 7)) 2147483648)]) 1 hs rfl rfl hk rfl rfl rfl rfl sz3 rfl rfl rfl rfl fun w a hk hs => ?_
    refine se (hs.pick [] rfl) hk (hK_r8_23 _ _ ?_)
    refine wtl_nil fun w hF _ => ?_
    have hs := hs.f hF
    show R9 _ _
    rw [hR9]
    exact ⟨(hk.c 0 rfl hk.k), (hs.pick [(1, 1)] rfl)⟩
   ·intro a w hR0
    rw [hR9] at hR0
    obtain ⟨hk, hs⟩ := hR0
    refine hK7 _ _ ?_
    have hs := hs.pick [(1, 1)] rfl
    apply wp_seq_k; intro K10 hK10
    refine wp_region_tree (.q 0 (.q 1 (.q 2 (.q 3 (.alt 4 (.alt 5 (.alt 6 (.alt 7 (.alt 8 (.alt 9 (.alt 10 (.alt 11 (.last 12) .stop) .stop) .stop) .stop) .stop) .stop) .stop) .stop))))) mo (by kernel_rfl) (hs.pick [(1, 1)] rfl) fun _ => ?_
    have hs := hs.drew
    refine tqst (.pointer (some ⟨b0_, 0, none⟩)) hk rfl rfl rfl rfl (fun w hs => sm _ rfl hk rfl rfl rfl fun a hk => qe hk) fun a hk => ?_
    refine tqst (.pointer (some ⟨b0_, 0, none⟩)) hk rfl rfl rfl rfl (fun w hs => snk rfl hk rfl rfl rfl fun a hk => qe hk) fun a hk => ?_
    refine tqst (.pointer (some ⟨b0_, 0, none⟩)) hk rfl rfl rfl rfl (fun w hs => sf ⟨b0_, 0, none⟩ rfl hk rfl rfl rfl fd143_0 rfl fun a hk => qe hk) fun a hk => ?_
    refine tqst (.slice A0_0 x0.code.length p0_0) hk rfl rfl rfl rfl (fun w hs => sl rfl hk rfl rfl rfl ag38 (box_cell hs (k := 1) rfl rfl) fun a hk => qe hk) fun a hk => ?_
    refine tsst hk rfl rfl (fun K_r11_4 hK_r11_4 w hF => ?_) wt_stop
    have hs := hs.f hF
    refine sm _ rfl hk rfl rfl rfl fun a hk => ?_
    refine se (hs.pick [(1, 1)] rfl) hk (hK_r11_4 _ _ ?_)
    refine tsst hk rfl rfl (fun K_r11_5 hK_r11_5 w hF => ?_) wt_stop
    have hs := hs.f hF
    refine snk rfl hk rfl rfl rfl fun a hk => ?_
    refine se (hs.pick [(1, 1)] rfl) hk (hK_r11_5 _ _ ?_)
    refine tsst hk rfl rfl (fun K_r11_6 hK_r11_6 w hF => ?_) wt_stop
    have hs := hs.f hF
    refine sf ⟨b0_, 1, none⟩ rfl hk rfl rfl rfl fd143_1 rfl fun a hk => ?_
    refine se (hs.pick [(1, 1)] rfl) hk (hK_r11_6 _ _ ?_)
    refine tsst hk rfl rfl (fun K_r11_7 hK_r11_7 w hF => ?_) wt_stop
    have hs := hs.f hF
    refine sl rfl hk rfl rfl rfl ag3 (box_cell hs (k := 1) rfl rfl) fun a hk => ?_
    refine se (hs.pick [(1, 1)] rfl) hk (hK_r11_7 _ _ ?_)
    refine tsst hk rfl rfl (fun K_r11_8 hK_r11_8 w hF => ?_) wt_stop
    have hs := hs.f hF
    refine sv (.int .i64 (w64 ((w64 (x0.at_ + 1)) - 1))) hk rfl rfl rfl fun a hk => ?_
    refine se (hs.pick [(1, 1)] rfl) hk (hK_r11_8 _ _ ?_)
    refine tsst hk rfl rfl (fun K_r11_9 hK_r11_9 w hF => ?_) wt_stop
    have hs := hs.f hF
    rcases ite_some H with ⟨c12, H⟩ | ⟨_, H⟩
    rotate_left
    ·cases H
    obtain ⟨b13, q14, hAc12⟩ := (v0_0).some_ (w64 ((w64 (x0.at_ + 1)) - 1)) c12.1 c12.2
    refine si rfl hk rfl rfl rfl rfl un38 sz5 c12.1 c12.2 hAc12 fun a hk => ?_
    refine se (hs.pick [(1, 1)] rfl) hk (hK_r11_9 _ _ ?_)
    refine tsst hk rfl rfl (fun K_r11_10 hK_r11_10 w hF => ?_) wt_stop
    have hs := hs.f hF
    obtain ⟨_, rfl, e15⟩ := (v0_0).at_ 0 (w64 ((w64 (x0.at_ + 1)) - 1)) c12.1 c12.2
    refine sl (v := (.int .u8 (x0.code.getD (w64 ((w64 (x0.at_ + 1)) - 1)).toNat 0))) rfl hk rfl rfl rfl ag5 ((e15 0 _ rfl).cell (hs.hasD (k := 2) rfl)) fun a hk => ?_
    refine se (hs.pick [(1, 1)] rfl) hk (hK_r11_10 _ _ ?_)
    refine tsst hk rfl rfl (fun K_r11_11 hK_r11_11 w hF => ?_) wt_stop
    have hs := hs.f hF
    refine scn rfl hk rfl rfl rfl un3 un5 fun a hk => ?_
    refine se (hs.pick [(1, 1)] rfl) hk (hK_r11_11 _ _ ?_)
    refine tlst hk rfl rfl fun K_r11_12 hK_r11_12 w hF => ?_
    have hs := hs.f hF
    refine sa _ rfl hk rfl rfl rfl fun a hk => ?_
    refine se trivial hk (hK_r11_12 _ _ fun w hF => ?_)
    have hs := hs.f hF
    refine hK10 _ _ ?_
    refine wp_ret ?_
    obtain rfl := Option.some.inj H
    exact fin hk _ [(.int .i64 (IntKind.wrap .i64 (x0.code.getD (w64 ((w64 (x0.at_ + 1)) - 1)).toNat 0)))] rfl ⟨rfl, trivial⟩ ⟨rfl, (hs.pick [(0, 1)] rfl).dnil⟩
  ·have hk := hk.lit 19 c6 rfl
   refine cnd_false hk rfl rfl ?_
   refine wp_skip ?_
   refine hK3 _ _ ?_
   have hs := hs.pick [(1, 1)] rfl
   apply wp_seq_k; intro K16 hK16
   apply wp_seq_k; intro K17 hK17
   apply wp_region_lit
   refine sm _ rfl hk rfl rfl rfl fun a hk => ?_
   refine snk rfl hk rfl rfl rfl fun a hk => ?_
   refine sf ⟨b0_, 1, none⟩ rfl hk rfl rfl rfl fd143_1 rfl fun a hk => ?_
   refine sl rfl hk rfl rfl rfl ag3 (box_cell hs (k := 1) rfl rfl) fun a hk => ?_
   refine sv (.bool (decide ((w64 (x0.at_ + 1)) > 3000))) hk rfl rfl rfl fun a hk => ?_
   show wpList _ _ _ [] _ _
   refine wpList_nil ?_
   refine hK17 _ _ ?_
   rcases cond_some H with ⟨c18, H⟩ | ⟨c18, H⟩
   ·have hk := hk.lit 59 c18 rfl
    refine cnd_true hk rfl rfl ?_
    apply wp_seq_k; intro K19 hK19
    apply wp_region_lit
    refine sa _ rfl hk rfl rfl rfl fun a hk => ?_
    show wpList _ _ _ [] _ _
    refine wpList_nil ?_
    refine hK19 _ _ ?_
    refine wp_ret ?_
    obtain rfl := Option.some.inj H
    exact fin hk _ [(.int .i64 0)] rfl ⟨rfl, trivial⟩ ⟨rfl, (hs.pick [(0, 1)] rfl).dnil⟩
   ·have hk := hk.lit 59 c18 rfl
    refine cnd_false hk rfl rfl ?_
    refine wp_skip ?_
    refine hK16 _ _ ?_
    apply wp_seq_k; intro K20 hK20
    apply wp_region_lit
    refine sm _ rfl hk rfl rfl rfl fun a hk => ?_
    refine sm _ rfl hk rfl rfl rfl fun a hk => ?_
    refine snk rfl hk rfl rfl rfl fun a hk => ?_
    refine sf ⟨b0_, 2, none⟩ rfl hk rfl rfl rfl fd143_2 rfl fun a hk => ?_
    refine sl rfl hk rfl rfl rfl ag3 (box_cell hs (k := 1) rfl rfl) fun a hk => ?_
    refine sv (.int .i64 (w64 (x0.seed * 1103515245))) hk rfl rfl rfl fun a hk => ?_
    refine sv (.int .i64 (w64 ((w64 (x0.seed * 1103515245)) + 12345))) hk rfl rfl rfl fun a hk => ?_
    refine sv (.int .i64 (Int.tmod (w64 ((w64 (x0.seed * 1103515245)) + 12345)) 2147483648)) hk rfl rfl rfl fun a hk => ?_
    refine snk rfl hk rfl rfl rfl fun a hk => ?_
    refine sf ⟨b0_, 2, none⟩ rfl hk rfl rfl rfl fd143_2 rfl fun a hk => ?_
    refine ssx (cs' := #[.slice A0_0 x0.code.length p0_0, .int .i64 (w64 (x0.at_ + 1)), .int .i64 (Int.tmod (w64 ((w64 (x0.seed * 1103515245)) + 12345)) 2147483648)]) 1 hs rfl rfl hk rfl rfl rfl rfl sz3 rfl rfl rfl rfl fun w a hk hs => ?_
    show wpList _ _ _ [] _ _
    refine wpList_nil ?_
    refine hK20 _ _ ?_
    apply wp_seq_k; intro K21 hK21
    apply wp_region_lit
    refine sm _ rfl hk rfl rfl rfl fun a hk => ?_
    refine snk rfl hk rfl rfl rfl fun a hk => ?_
    refine sf ⟨b0_, 2, none⟩ rfl hk rfl rfl rfl fd143_2 rfl fun a hk => ?_
    refine sl rfl hk rfl rfl rfl ag3 (box_cell hs (k := 1) rfl rfl) fun a hk => ?_
    refine sv (.int .i64 (IntKind.wrap .i64 (Int.tdiv (Int.tmod (w64 ((w64 (x0.seed * 1103515245)) + 12345)) 2147483648) 65536))) hk rfl rfl rfl fun a hk => ?_
    refine sv (.int .i64 (Int.tmod (IntKind.wrap .i64 (Int.tdiv (Int.tmod (w64 ((w64 (x0.seed * 1103515245)) + 12345)) 2147483648) 65536)) 256)) hk rfl rfl rfl fun a hk => ?_
    refine sa _ rfl hk rfl rfl rfl fun a hk => ?_
    show wpList _ _ _ [] _ _
    refine wpList_nil ?_
    refine hK21 _ _ ?_
    have hs := hs.pick [(1, 1)] rfl
    refine wp_ret ?_
    obtain rfl := Option.some.inj H
    exact fin hk _ [(.int .i64 (Int.tmod (IntKind.wrap .i64 (Int.tdiv (Int.tmod (w64 ((w64 (x0.seed * 1103515245)) + 12345)) 2147483648) 65536)) 256))] rfl ⟨rfl, trivial⟩ ⟨rfl, (hs.pick [(0, 1)] rfl).dnil⟩

noncomputable def spec_l00Src_next.f (x0 : S_l00Src) (x1 : Int) : Option (Int × Int × Int) :=
  (bif (decide (x1 ≤ 1)) then (some (0, x0.at_, x0.seed)) else (bif (decide (x1 ≤ 256)) then ((spec_l00Src_byte.f x0).bind fun y10 => (if x1 = 0 then none else (some ((Int.tmod y10.1 x1), y10.2.1, y10.2.2)))) else ((spec_l00Src_byte.f x0).bind fun y14 => ((spec_l00Src_byte.f (⟨x0.code, y14.2.1, y14.2.2⟩ : S_l00Src)).bind fun y17 => ((spec_l00Src_byte.f (⟨x0.code, y17.2.1, y17.2.2⟩ : S_l00Src)).bind fun y20 => (if x1 = 0 then none else (some ((Int.tmod (w64 ((w64 ((w64 (y14.1 * 65536)) + (w64 (y17.1 * 256)))) + y20.1)) x1), y20.2.1, y20.2.2))))))))
set_option maxRecDepth 100000 in
set_option maxHeartbeats 0 in
theorem spec_l00Src_next_t (w0 : World) (b0_ : Nat) (x0 : S_l00Src) (A0_0 : Option Addr) (p0_0 : Nat) (k0_0 : Chunk) (v0_0 : View (Lay.int .u8) A0_0 p0_0 x0.code k0_0) (w0_0 : Has w0 k0_0) (x1 : Int) (hs0 : Sat (blks [(1, [(b0_, .cells #[.slice A0_0 x0.code.length p0_0, .int .i64 x0.at_, .int .i64 x0.seed] 143 (0, 0))])]) w0 w0 [(2, k0_0)] [(1, [(b0_, .cells #[.slice A0_0 x0.code.length p0_0, .int .i64 x0.at_, .int .i64 x0.seed] 143 (0, 0))])]) (r : Int × Int × Int) (H : spec_l00Src_next.f x0 x1 = some r) :
    Calls Try.prog 138 #[.pointer (some ⟨b0_, 0, none⟩), .int .i64 x1] w0 (Ret (fun v w => v = .int .i64 r.1 ∧ Sat (blks [(1, [(b0_, .cells #[.slice A0_0 x0.code.length p0_0, .int .i64 x0.at_, .int .i64 x0.seed] 143 (0, 0))])]) w0 w [] [(0, [(b0_, .cells #[.slice A0_0 x0.code.length p0_0, .int .i64 r.2.1, .int .i64 r.2.2] 143 (0, 0))])])) := by
  have hs := hs0
  unfold spec_l00Src_next.f at H
  refine enter Try.func138 rfl Try.ntmps138 rfl fun a hk => ?_
  apply wp_seq_k; intro K1 hK1
  apply wp_region_lit
  refine sa _ rfl hk rfl rfl rfl fun a hk => ?_
  show wpList _ _ _ [] _ _
  refine wpList_nil ?_
  refine hK1 _ _ ?_
  apply wp_seq_k; intro K2 hK2
  apply wp_seq_k; intro K3 hK3
  apply wp_region_lit
  refine sm _ rfl hk rfl rfl rfl fun a hk => ?_
  refine sv (.bool (decide (x1 ≤ 1))) hk rfl rfl rfl fun a hk => ?_
  show wpList _ _ _ [] _ _
  refine wpList_nil ?_
  refine hK3 _ _ ?_
  rcases cond_some H with ⟨c4, H⟩ | ⟨c4, H⟩
  ·have hk := hk.lit 9 c4 rfl
   refine cnd_true hk rfl rfl ?_
   apply wp_seq_k; intro K5 hK5
   apply wp_region_lit
   refine sa _ rfl hk rfl rfl rfl fun a hk => ?_
   show wpList _ _ _ [] _ _
   refine wpList_nil ?_
   refine hK5 _ _ ?_
   refine wp_ret ?_
   obtain rfl := Option.some.inj H
   exact fin hk _ [(.int .i64 0)] rfl ⟨rfl, trivial⟩ ⟨rfl, (hs.pick [(0, 1)] rfl).dnil⟩
  ·have hk := hk.lit 9 c4 rfl
   refine cnd_false hk rfl rfl ?_
   refine wp_skip ?_
   refine hK2 _ _ ?_
   apply wp_seq_k; intro K6 hK6
   apply wp_seq_k; intro K7 hK7
   apply wp_region_lit
   refine sm _ rfl hk rfl rfl rfl fun a hk => ?_
   refine sv (.bool (decide (x1 ≤ 256))) hk rfl rfl rfl fun a hk => ?_
   show wpList _ _ _ [] _ _
   refine wpList_nil ?_
   refine hK7 _ _ ?_
   have hs := hs.pick [(1, 1)] rfl
   rcases cond_some H with ⟨c8, H⟩ | ⟨c8, H⟩
   ·have hk := hk.lit 11 c8 rfl
    refine cnd_true hk rfl rfl ?_
    apply wp_seq_k; intro K9 hK9
    apply wp_region_lit
    refine sm _ rfl hk rfl rfl rfl fun a hk => ?_
    obtain ⟨y10, h11, H⟩ := bind_some H
    refine sc rfl en180 hk rfl rfl rfl (spec_l00Src_byte_t _ b0_ x0 A0_0 p0_0 _ v0_0 (hs.hasD (k := 2) rfl) ((hs.hand [(1, 1)] rfl).dpick [(2, 2)] rfl) _ h11) ?_
    rintro _ w ⟨rfl, hG⟩ a hk
    have hs := hs.back [(1, 1)] rfl hG [1] rfl
    refine sm _ rfl hk rfl rfl rfl fun a hk => ?_
    rcases ite_some H with ⟨_, H⟩ | ⟨c12, H⟩
    ·cases H
    refine srm rfl hk rfl rfl rfl rfl c12 fun a hk => ?_
    refine sa _ rfl hk rfl rfl rfl fun a hk => ?_
    show wpList _ _ _ [] _ _
    refine wpList_nil ?_
    refine hK9 _ _ ?_
    refine wp_ret ?_
    obtain rfl := Option.some.inj H
    exact fin hk _ [(.int .i64 (Int.tmod y10.1 x1))] rfl ⟨rfl, trivial⟩ ⟨rfl, (hs.pick [(0, 1)] rfl).dnil⟩
   ·have hk := hk.lit 11 c8 rfl
    refine cnd_false hk rfl rfl ?_
    refine wp_skip ?_
    refine hK6 _ _ ?_
    apply wp_seq_k; intro K13 hK13
    apply wp_region_lit
    refine sm _ rfl hk rfl rfl rfl fun a hk => ?_
    obtain ⟨y14, h15, H⟩ := bind_some H
    refine sc rfl en180 hk rfl rfl rfl (spec_l00Src_byte_t _ b0_ x0 A0_0 p0_0 _ v0_0 (hs.hasD (k := 2) rfl) ((hs.hand [(1, 1)] rfl).dpick [(2, 2)] rfl) _ h15) ?_
    rintro _ w ⟨rfl, hG⟩ a hk
    have hs := hs.back [(1, 1)] rfl hG [1] rfl
    refine sa _ rfl hk rfl rfl rfl fun a hk => ?_
    show wpList _ _ _ [] _ _
    refine wpList_nil ?_
    refine hK13 _ _ ?_
    apply wp_seq_k; intro K16 hK16
    apply wp_region_lit
    refine sm _ rfl hk rfl rfl rfl fun a hk => ?_
    obtain ⟨y17, h18, H⟩ := bind_some H
    refine sc rfl en180 hk rfl rfl rfl (spec_l00Src_byte_t _ b0_ (⟨x0.code, y14.2.1, y14.2.2⟩ : S_l00Src) A0_0 p0_0 _ v0_0 (hs.hasD (k := 2) rfl) ((hs.hand [(1, 1)] rfl).dpick [(2, 2)] rfl) _ h18) ?_
    rintro _ w ⟨rfl, hG⟩ a hk
    have hs := hs.back [(1, 1)] rfl hG [1] rfl
    refine sa _ rfl hk rfl rfl rfl fun a hk => ?_
    show wpList _ _ _ [] _ _
    refine wpList_nil ?_
    refine hK16 _ _ ?_
    apply wp_seq_k; intro K19 hK19
    apply wp_region_lit
    refine sm _ rfl hk rfl rfl rfl fun a hk => ?_
    obtain ⟨y20, h21, H⟩ := bind_some H
    refine sc rfl en180 hk rfl rfl rfl (spec_l00Src_byte_t _ b0_ (⟨x0.code, y17.2.1, y17.2.2⟩ : S_l00Src) A0_0 p0_0 _ v0_0 (hs.hasD (k := 2) rfl) ((hs.hand [(1, 1)] rfl).dpick [(2, 2)] rfl) _ h21) ?_
    rintro _ w ⟨rfl, hG⟩ a hk
    have hs := hs.back [(1, 1)] rfl hG [1] rfl
    refine sa _ rfl hk rfl rfl rfl fun a hk => ?_
    show wpList _ _ _ [] _ _
    refine wpList_nil ?_
    refine hK19 _ _ ?_
    have hs := hs.pick [(1, 1)] rfl
    apply wp_seq_k; intro K22 hK22
    apply wp_region_lit
    refine sm _ rfl hk rfl rfl rfl fun a hk => ?_
    refine sv (.int .i64 (w64 (y14.1 * 65536))) hk rfl rfl rfl fun a hk => ?_
    refine sm _ rfl hk rfl rfl rfl fun a hk => ?_
    refine sv (.int .i64 (w64 (y17.1 * 256))) hk rfl rfl rfl fun a hk => ?_
    refine sv (.int .i64 (w64 ((w64 (y14.1 * 65536)) + (w64 (y17.1 * 256))))) hk rfl rfl rfl fun a hk => ?_
    refine sm _ rfl hk rfl rfl rfl fun a hk => ?_
    refine sv (.int .i64 (w64 ((w64 ((w64 (y14.1 * 65536)) + (w64 (y17.1 * 256)))) + y20.1))) hk rfl rfl rfl fun a hk => ?_
    refine sm _ rfl hk rfl rfl rfl fun a hk => ?_
    rcases ite_some H with ⟨_, H⟩ | ⟨c23, H⟩
    ·cases H
    refine srm rfl hk rfl rfl rfl rfl c23 fun a hk => ?_
    refine sa _ rfl hk rfl rfl rfl fun a hk => ?_
    show wpList _ _ _ [] _ _
    refine wpList_nil ?_
    refine hK22 _ _ ?_
    refine wp_ret ?_
    obtain rfl := Option.some.inj H
    exact fin hk _ [(.int .i64 (Int.tmod (w64 ((w64 ((w64 (y14.1 * 65536)) + (w64 (y17.1 * 256)))) + y20.1)) x1))] rfl ⟨rfl, trivial⟩ ⟨rfl, (hs.pick [(0, 1)] rfl).dnil⟩

noncomputable def spec_l00Src_drawLeaves.s0 (x0 : S_l00Src) (x1 : Int) (u17 : List Int) (u14 : Int) (u15 : Int) (u16 : Int) : Option (((List Int) × Int × Int × Int) ⊕ Ex ((List Int) × Int × Int) ((List Int) × Int × Int)) :=
  (bif (decide (u14 < x1)) then ((spec_l00Src_next.f (⟨x0.code, u15, u16⟩ : S_l00Src) 8).bind fun y41 => (if u17.length + ([y41.1]).length ≤ 1073741824 then (some (.inl ((u17 ++ ([y41.1])), (w64 (u14 + 1)), y41.2.1, y41.2.2))) else none)) else (some (.inr (.out (u17, u15, u16)))))
noncomputable def spec_l00Src_drawLeaves.f (x0 : S_l00Src) (x1 : Int) : Option ((List Int) × Int × Int) :=
  ((loopO (fun s => spec_l00Src_drawLeaves.s0 x0 x1 s.1 s.2.1 s.2.2.1 s.2.2.2) (([] : List Int), 0, x0.at_, x0.seed)).bind fun o => match o with | .out (u22, u27, u28) => (some (u22, u27, u28)) | .ret r => (some r))
set_option maxRecDepth 100000 in
set_option maxHeartbeats 0 in
theorem spec_l00Src_drawLeaves_t (w0 : World) (b0_ : Nat) (x0 : S_l00Src) (A0_0 : Option Addr) (p0_0 : Nat) (k0_0 : Chunk) (v0_0 : View (Lay.int .u8) A0_0 p0_0 x0.code k0_0) (w0_0 : Has w0 k0_0) (x1 : Int) (hs0 : Sat (blks [(1, [(b0_, .cells #[.slice A0_0 x0.code.length p0_0, .int .i64 x0.at_, .int .i64 x0.seed] 143 (0, 0))])]) w0 w0 [(2, k0_0)] [(1, [(b0_, .cells #[.slice A0_0 x0.code.length p0_0, .int .i64 x0.at_, .int .i64 x0.seed] 143 (0, 0))])]) (r : (List Int) × Int × Int) (H : spec_l00Src_drawLeaves.f x0 x1 = some r) :
    Calls Try.prog 137 #[.pointer (some ⟨b0_, 0, none⟩), .int .i64 x1] w0 (Ret (fun v w => ∃ (A0 : Option Addr) (p0 : Nat) (k0 : Chunk), v = .slice A0 r.1.length p0 ∧ Own (Lay.int .i64) 3 A0 p0 r.1 k0 ∧ Sat (blks [(1, [(b0_, .cells #[.slice A0_0 x0.code.length p0_0, .int .i64 x0.at_, .int .i64 x0.seed] 143 (0, 0))])]) w0 w [] [(0, k0), (1, [(b0_, .cells #[.slice A0_0 x0.code.length p0_0, .int .i64 r.2.1, .int .i64 r.2.2] 143 (0, 0))])])) := by
  have hs := hs0
  unfold spec_l00Src_drawLeaves.f at H
  refine enter Try.func137 rfl Try.ntmps137 rfl fun a hk => ?_
  apply wp_seq_k; intro K1 hK1
  apply wp_region_lit
  refine sa _ rfl hk rfl rfl rfl fun a hk => ?_
  show wpList _ _ _ [] _ _
  refine wpList_nil ?_
  refine hK1 _ _ ?_
  apply wp_seq_k; intro K2 hK2
  apply wp_region_lit
  refine sbs0 3 (Lay.int .i64) hs rfl hk rfl rfl un22 sz3 fun b3 k4 w a hk o5 hs => ?_
  refine sa _ rfl hk rfl rfl rfl fun a hk => ?_
  show wpList _ _ _ [] _ _
  refine wpList_nil ?_
  refine hK2 _ _ ?_
  apply wp_seq_k; intro K6 hK6
  apply wp_seq_k; intro K7 hK7
  apply wp_region_lit
  refine sa _ rfl hk rfl rfl rfl fun a hk => ?_
  show wpList _ _ _ [] _ _
  refine wpList_nil ?_
  refine hK7 _ _ ?_
  obtain ⟨o29, h30, HL31⟩ := bind_some H
  clear H
  obtain ⟨R32, hR32⟩ : ∃ R : Act → World → Prop, R = fun a w => ∃ (u22 : List Int) (u27 : Int) (u28 : Int) (A25 : Option Addr) (p26 : Nat) (k23 : Chunk), o29 = .out (u22, u27, u28) ∧ Kn [(0, (.pointer (some ⟨b0_, 0, none⟩))), (5, (.slice A25 u22.length p26))] 19 a ∧ Sat (blks [(1, [(b0_, .cells #[.slice A0_0 x0.code.length p0_0, .int .i64 x0.at_, .int .i64 x0.seed] 143 (0, 0))])]) w0 w [(2, k0_0)] [(3, k23), (1, [(b0_, .cells #[.slice A0_0 x0.code.length p0_0, .int .i64 u27, .int .i64 u28] 143 (0, 0))])] ∧ Own (Lay.int .i64) 3 A25 p26 u22 k23 := ⟨_, rfl⟩
  refine wp_cutq R32 ?_ ?_
  ·refine wp_block ?_
   obtain ⟨fu34, h30⟩ := loopO_some h30
   obtain ⟨I33, hI33⟩ : ∃ I : Nat → Act → World → Prop, I = fun fu a w => ∃ (u17 : List Int) (u14 : Int) (u15 : Int) (u16 : Int) (A20 : Option Addr) (p21 : Nat) (k18 : Chunk), loopN (fun s => spec_l00Src_drawLeaves.s0 x0 x1 s.1 s.2.1 s.2.2.1 s.2.2.2) fu (u17, u14, u15, u16) = some o29 ∧ Kn [(0, (.pointer (some ⟨b0_, 0, none⟩))), (1, (.int .i64 x1)), (5, (.slice A20 u17.length p21)), (6, (.int .i64 u14))] 19 a ∧ Sat (blks [(1, [(b0_, .cells #[.slice A0_0 x0.code.length p0_0, .int .i64 x0.at_, .int .i64 x0.seed] 143 (0, 0))])]) w0 w [(2, k0_0)] [(3, k18), (1, [(b0_, .cells #[.slice A0_0 x0.code.length p0_0, .int .i64 u15, .int .i64 u16] 143 (0, 0))])] ∧ Own (Lay.int .i64) 3 A20 p21 u17 k18 := ⟨_, rfl⟩
   refine wp_loop_ghost I33 fu34 ?_ ?_
   ·rw [hI33]
    exact ⟨([] : List Int), 0, x0.at_, x0.seed, (some ⟨b3, 0, none⟩), 0, _, h30, (hk.c 0 rfl (hk.c 1 rfl (hk.c 5 rfl (hk.c 6 rfl hk.k)))), (hs.pick [(3, 3), (1, 1)] rfl), o5⟩
   ·clear h30 hk hs
    intro fu34 a w hI0
    rw [hI33] at hI0
    obtain ⟨u17, u14, u15, u16, A20, p21, k18, hi, hk, hs, o19⟩ := hI0
    obtain ⟨x35, H, h36⟩ := loop_round hi
    try dsimp only at H
    unfold spec_l00Src_drawLeaves.s0 at H
    apply wp_seq_k; intro K37 hK37
    apply wp_seq_k; intro K38 hK38
    apply wp_region_lit
    refine sm _ rfl hk rfl rfl rfl fun a hk => ?_
    refine sm _ rfl hk rfl rfl rfl fun a hk => ?_
    refine sv (.bool (decide (u14 < x1))) hk rfl rfl rfl fun a hk => ?_
    show wpList _ _ _ [] _ _
    refine wpList_nil ?_
    refine hK38 _ _ ?_
    have hs := hs.pick [(3, 3), (1, 1)] rfl
    rcases cond_some H with ⟨c39, H⟩ | ⟨c39, H⟩
    ·have hk := hk.lit 10 c39 rfl
     refine cnd_true hk rfl rfl ?_
     refine wp_skip ?_
     refine hK37 _ _ ?_
     apply wp_seq_k; intro K40 hK40
     refine wp_block ?_
     apply wp_region_lit
     refine sm _ rfl hk rfl rfl rfl fun a hk => ?_
     refine sm _ rfl hk rfl rfl rfl fun a hk => ?_
     obtain ⟨y41, h42, H⟩ := bind_some H
     refine sc rfl en138 hk rfl rfl rfl (spec_l00Src_next_t _ b0_ (⟨x0.code, u15, u16⟩ : S_l00Src) A0_0 p0_0 _ v0_0 (hs.hasD (k := 2) rfl) 8 ((hs.hand [(1, 1)] rfl).dpick [(2, 2)] rfl) _ h42) ?_
     rintro _ w ⟨rfl, hG⟩ a hk
     have hs := hs.back [(1, 1)] rfl hG [1] rfl
     refine sbs (L := (Lay.int .i64)) (pv := [(0, (.int .i64 y41.1))]) (xs := [y41.1]) (ess := [[.int .i64 y41.1]]) 5 hs rfl hk rfl rfl rfl un22 (bs3_0 y41.1) (AllOwn.cons0 ⟨rfl, rfl⟩ AllOwn.nil) rfl rfl rfl fun b43 k44 w a hk o45 hs => ?_
     rcases ite_some H with ⟨c46, H⟩ | ⟨_, H⟩
     rotate_left
     ·cases H
     refine sap 3 (xs := u17) (ys := [y41.1]) (flat_flat : ((Lay.int .i64)).Flat) hs rfl o19 o45.view (hs.hasG (k := 5) rfl) rfl hk rfl rfl rfl rfl rfl rfl un22 mk3 rfl rfl rfl c46 fun A47 p48 k49 w a hk o50 hs => ?_
     refine sa _ rfl hk rfl rfl rfl fun a hk => ?_
     show wpList _ _ _ [] _ _
     refine wpList_nil ?_
     refine hK40 _ _ ?_
     apply wp_region_lit
     refine sm _ rfl hk rfl rfl rfl fun a hk => ?_
     refine sv (.int .i64 (w64 (u14 + 1))) hk rfl rfl rfl fun a hk => ?_
     refine sa _ rfl hk rfl rfl rfl fun a hk => ?_
     show wpList _ _ _ [] _ _
     refine wpList_nil ?_
     obtain rfl := Option.some.inj H
     obtain ⟨m51, hmm51, h36⟩ := h36
     show ∃ n', n' < _ ∧ I33 n' _ _
     refine ⟨m51, hmm51, ?_⟩
     rw [hI33]
     exact ⟨(u17 ++ ([y41.1])), (w64 (u14 + 1)), y41.2.1, y41.2.2, A47, p48, _, h36, (hk.c 0 rfl (hk.c 1 rfl (hk.c 5 rfl (hk.c 6 rfl hk.k)))), (hs.pick [(3, 3), (1, 1)] rfl), o50⟩
    ·have hk := hk.lit 10 c39 rfl
     refine cnd_false hk rfl rfl ?_
     refine wp_exit ?_
     obtain rfl := Option.some.inj H
     show R32 _ _
     rw [hR32]
     exact ⟨u17, u15, u16, A20, p21, _, h36.symm, (hk.c 0 rfl (hk.c 5 rfl hk.k)), (hs.pick [(3, 3), (1, 1)] rfl), o19⟩
  ·intro a w hR0
   rw [hR32] at hR0
   obtain ⟨u22, u27, u28, A25, p26, k23, rfl, hk, hs, o24⟩ := hR0
   have H := HL31
   try dsimp only at H
   refine hK6 _ _ ?_
   have hs := hs.pick [(3, 3), (1, 1)] rfl
   apply wp_seq_k; intro K52 hK52
   apply wp_region_lit
   refine sm _ rfl hk rfl rfl rfl fun a hk => ?_
   refine sa _ rfl hk rfl rfl rfl fun a hk => ?_
   show wpList _ _ _ [] _ _
   refine wpList_nil ?_
   refine hK52 _ _ ?_
   refine wp_ret ?_
   obtain rfl := Option.some.inj H
   exact fin hk _ [(.slice A25 u22.length p26)] rfl ⟨rfl, trivial⟩ ⟨A25, p26, _, rfl, o24, (hs.pick [(0, 3), (1, 1)] rfl).dnil⟩

noncomputable def spec_l00Src_size.f (x0 : S_l00Src) (x1 : Int) : Option (Int × Int × Int) :=
  (some ((if x1 < (w64 (1 + (IntKind.wrap .i64 (Int.tdiv (x0.code.length : Int) 12)))) then x1 else (w64 (1 + (IntKind.wrap .i64 (Int.tdiv (x0.code.length : Int) 12))))), x0.at_, x0.seed))
set_option maxRecDepth 100000 in
set_option maxHeartbeats 0 in
theorem spec_l00Src_size_t (w0 : World) (b0_ : Nat) (x0 : S_l00Src) (A0_0 : Option Addr) (p0_0 : Nat) (k0_0 : Chunk) (v0_0 : View (Lay.int .u8) A0_0 p0_0 x0.code k0_0) (w0_0 : Has w0 k0_0) (x1 : Int) (hs0 : Sat (blks [(1, [(b0_, .cells #[.slice A0_0 x0.code.length p0_0, .int .i64 x0.at_, .int .i64 x0.seed] 143 (0, 0))])]) w0 w0 [(2, k0_0)] [(1, [(b0_, .cells #[.slice A0_0 x0.code.length p0_0, .int .i64 x0.at_, .int .i64 x0.seed] 143 (0, 0))])]) (r : Int × Int × Int) (H : spec_l00Src_size.f x0 x1 = some r) :
    Calls Try.prog 139 #[.pointer (some ⟨b0_, 0, none⟩), .int .i64 x1] w0 (Ret (fun v w => v = .int .i64 r.1 ∧ Sat (blks [(1, [(b0_, .cells #[.slice A0_0 x0.code.length p0_0, .int .i64 x0.at_, .int .i64 x0.seed] 143 (0, 0))])]) w0 w [] [(0, [(b0_, .cells #[.slice A0_0 x0.code.length p0_0, .int .i64 r.2.1, .int .i64 r.2.2] 143 (0, 0))])])) := by
  have hs := hs0
  unfold spec_l00Src_size.f at H
  refine enter Try.func139 rfl Try.ntmps139 rfl fun a hk => ?_
  apply wp_seq_k; intro K1 hK1
  apply wp_region_lit
  refine sa _ rfl hk rfl rfl rfl fun a hk => ?_
  show wpList _ _ _ [] _ _
  refine wpList_nil ?_
  refine hK1 _ _ ?_
  apply wp_seq_k; intro K2 hK2
  apply wp_region_lit
  refine sm _ rfl hk rfl rfl rfl fun a hk => ?_
  refine snk rfl hk rfl rfl rfl fun a hk => ?_
  refine sf ⟨b0_, 0, none⟩ rfl hk rfl rfl rfl fd143_0 rfl fun a hk => ?_
  refine sl rfl hk rfl rfl rfl ag38 (box_cell hs (k := 1) rfl rfl) fun a hk => ?_
  refine sle rfl hk rfl rfl rfl un38 fun a hk => ?_
  refine sv (.int .i64 (IntKind.wrap .i64 (Int.tdiv (x0.code.length : Int) 12))) hk rfl rfl rfl fun a hk => ?_
  refine sv (.int .i64 (w64 (1 + (IntKind.wrap .i64 (Int.tdiv (x0.code.length : Int) 12))))) hk rfl rfl rfl fun a hk => ?_
  refine sm _ rfl hk rfl rfl rfl fun a hk => ?_
  refine smn rfl hk rfl rfl rfl rfl fun a hk => ?_
  refine sa _ rfl hk rfl rfl rfl fun a hk => ?_
  show wpList _ _ _ [] _ _
  refine wpList_nil ?_
  refine hK2 _ _ ?_
  refine wp_ret ?_
  obtain rfl := Option.some.inj H
  exact fin hk _ [(.int .i64 (if x1 < (w64 (1 + (IntKind.wrap .i64 (Int.tdiv (x0.code.length : Int) 12)))) then x1 else (w64 (1 + (IntKind.wrap .i64 (Int.tdiv (x0.code.length : Int) 12))))))] rfl ⟨rfl, trivial⟩ ⟨rfl, (hs.pick [(0, 1)] rfl).dnil⟩

noncomputable def spec_l00Src_chance.f (x0 : S_l00Src) (x1 : Int) : Option (Bool × Int × Int) :=
  ((spec_l00Src_next.f x0 x1).bind fun y3 => (some ((y3.1 == (w64 (x1 - 1))), y3.2.1, y3.2.2)))
set_option maxRecDepth 100000 in
set_option maxHeartbeats 0 in
theorem spec_l00Src_chance_t (w0 : World) (b0_ : Nat) (x0 : S_l00Src) (A0_0 : Option Addr) (p0_0 : Nat) (k0_0 : Chunk) (v0_0 : View (Lay.int .u8) A0_0 p0_0 x0.code k0_0) (w0_0 : Has w0 k0_0) (x1 : Int) (hs0 : Sat (blks [(1, [(b0_, .cells #[.slice A0_0 x0.code.length p0_0, .int .i64 x0.at_, .int .i64 x0.seed] 143 (0, 0))])]) w0 w0 [(2, k0_0)] [(1, [(b0_, .cells #[.slice A0_0 x0.code.length p0_0, .int .i64 x0.at_, .int .i64 x0.seed] 143 (0, 0))])]) (r : Bool × Int × Int) (H : spec_l00Src_chance.f x0 x1 = some r) :
    Calls Try.prog 140 #[.pointer (some ⟨b0_, 0, none⟩), .int .i64 x1] w0 (Ret (fun v w => v = .bool r.1 ∧ Sat (blks [(1, [(b0_, .cells #[.slice A0_0 x0.code.length p0_0, .int .i64 x0.at_, .int .i64 x0.seed] 143 (0, 0))])]) w0 w [] [(0, [(b0_, .cells #[.slice A0_0 x0.code.length p0_0, .int .i64 r.2.1, .int .i64 r.2.2] 143 (0, 0))])])) := by
  have hs := hs0
  unfold spec_l00Src_chance.f at H
  refine enter Try.func140 rfl Try.ntmps140 rfl fun a hk => ?_
  apply wp_seq_k; intro K1 hK1
  apply wp_region_lit
  refine sa _ rfl hk rfl rfl rfl fun a hk => ?_
  show wpList _ _ _ [] _ _
  refine wpList_nil ?_
  refine hK1 _ _ ?_
  apply wp_seq_k; intro K2 hK2
  apply wp_region_lit
  refine sm _ rfl hk rfl rfl rfl fun a hk => ?_
  refine sm _ rfl hk rfl rfl rfl fun a hk => ?_
  obtain ⟨y3, h4, H⟩ := bind_some H
  refine sc rfl en138 hk rfl rfl rfl (spec_l00Src_next_t _ b0_ x0 A0_0 p0_0 _ v0_0 (hs.hasD (k := 2) rfl) x1 ((hs.hand [(1, 1)] rfl).dpick [(2, 2)] rfl) _ h4) ?_
  rintro _ w ⟨rfl, hG⟩ a hk
  have hs := hs.back [(1, 1)] rfl hG [1] rfl
  refine sm _ rfl hk rfl rfl rfl fun a hk => ?_
  refine sv (.int .i64 (w64 (x1 - 1))) hk rfl rfl rfl fun a hk => ?_
  refine sv (.bool (y3.1 == (w64 (x1 - 1)))) hk rfl rfl rfl fun a hk => ?_
  refine sa _ rfl hk rfl rfl rfl fun a hk => ?_
  show wpList _ _ _ [] _ _
  refine wpList_nil ?_
  refine hK2 _ _ ?_
  refine wp_ret ?_
  obtain rfl := Option.some.inj H
  exact fin hk _ [(.bool (y3.1 == (w64 (x1 - 1))))] rfl ⟨rfl, trivial⟩ ⟨rfl, (hs.pick [(0, 1)] rfl).dnil⟩

end Go.Proofs.Ytjlhmcieholdiaa
