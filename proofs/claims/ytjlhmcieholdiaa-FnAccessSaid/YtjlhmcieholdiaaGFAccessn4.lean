/- Further functions. -/
import Derived.Test.YtjlhmcieholdiaaGFAccessn3
namespace Go.Proofs.Ytjlhmcieholdiaa
open Go Go.Z Go.Proofs Go.MuLone Go.ChangeShapes Go.WideShapes Go.ChangeAt Go.RowKit
set_option linter.unusedVariables false
set_option linter.unusedSimpArgs false
noncomputable def spec_l00Src_oram.s0 (x0 : S_l00Src) (u33 : Int) (u34 : Int) (u35 : Int) (u48 : List Int) (u53 : List S_Block) (u58 : List (List S_Block)) : Option ((Int × Int × Int × (List Int) × (List S_Block) × (List (List S_Block))) ⊕ Ex (Int × Int × (List Int) × (List S_Block) × (List (List S_Block))) (S_Oram × Int × Int)) :=
  (bif (decide (u33 > 0)) then ((spec_l00Src_next.f (⟨x0.code, u34, u35⟩ : S_l00Src) 12).bind fun y_r93_2_1 => ((spec_l00Src_chance.f (⟨x0.code, y_r93_2_1.2.1, y_r93_2_1.2.2⟩ : S_l00Src) 2).bind fun y_r93_4_1 => ((spec_l00Src_next.f (⟨x0.code, y_r93_4_1.2.1, y_r93_4_1.2.2⟩ : S_l00Src) 100).bind fun y_r93_6_1 => ((spec_l00Src_next.f (⟨x0.code, y_r93_6_1.2.1, y_r93_6_1.2.2⟩ : S_l00Src) 8).bind fun y_r93_8_1 => ((spec_l08Access.f (⟨u48, u53, u58⟩ : S_Oram) y_r93_2_1.1 y_r93_4_1.1 y_r93_6_1.1 y_r93_8_1.1).bind fun y_r93_9_1 => (some (.inl ((w64 (u33 - 1)), y_r93_8_1.2.1, y_r93_8_1.2.2, y_r93_9_1.1.Pos, y_r93_9_1.1.Stash, y_r93_9_1.1.Buckets)))))))) else (some (.inr (.out (u34, u35, u48, u53, u58)))))
noncomputable def spec_l00Src_oram.f (x0 : S_l00Src) : Option (S_Oram × Int × Int) :=
  ((spec_l00Src_drawLeaves.f x0 12).bind fun y4 => ((spec_l08New.f y4.1).bind fun y10 => ((spec_l00Src_size.f (⟨x0.code, y4.2.1, y4.2.2⟩ : S_l00Src) 30).bind fun y27 => ((spec_l00Src_next.f (⟨x0.code, y27.2.1, y27.2.2⟩ : S_l00Src) (w64 (y27.1 + 8))).bind fun y29 => ((loopO (fun s => spec_l00Src_oram.s0 x0 s.1 s.2.1 s.2.2.1 s.2.2.2.1 s.2.2.2.2.1 s.2.2.2.2.2) (y29.1, y29.2.1, y29.2.2, y10.Pos, y10.Stash, y10.Buckets)).bind fun o => match o with | .out (u63, u64, u65, u70, u75) => ((spec_l08Own.f (⟨u65, u70, u75⟩ : S_Oram)).bind fun y97 => (some (y97, u63, u64))) | .ret r => (some r))))))
set_option maxRecDepth 100000 in
set_option maxHeartbeats 0 in
theorem spec_l00Src_oram_t (w0 : World) (b0_ : Nat) (x0 : S_l00Src) (A0_0 : Option Addr) (p0_0 : Nat) (k0_0 : Chunk) (v0_0 : View (Lay.int .u8) A0_0 p0_0 x0.code k0_0) (w0_0 : Has w0 k0_0) (hs0 : Sat (blks [(1, [(b0_, .cells #[.slice A0_0 x0.code.length p0_0, .int .i64 x0.at_, .int .i64 x0.seed] 143 (0, 0))])]) w0 w0 [(2, k0_0)] [(1, [(b0_, .cells #[.slice A0_0 x0.code.length p0_0, .int .i64 x0.at_, .int .i64 x0.seed] 143 (0, 0))])]) (r : S_Oram × Int × Int) (H : spec_l00Src_oram.f x0 = some r) :
    Calls Try.prog 77 #[.pointer (some ⟨b0_, 0, none⟩)] w0 (Ret (fun v w => ∃ (A0 : Option Addr) (p0 : Nat) (k0 : Chunk), ∃ (A1 : Option Addr) (p1 : Nat) (k1 : Chunk), ∃ (A2 : Option Addr) (p2 : Nat) (k2 : Chunk), v = .agg #[.slice A0 r.1.Pos.length p0, .slice A1 r.1.Stash.length p1, .slice A2 r.1.Buckets.length p2] ∧ Own (Lay.int .i64) 3 A0 p0 r.1.Pos k0 ∧ Own L_Block 102 A1 p1 r.1.Stash k1 ∧ Own (Lay.sl L_Block 102) 28 A2 p2 r.1.Buckets k2 ∧ Sat (blks [(1, [(b0_, .cells #[.slice A0_0 x0.code.length p0_0, .int .i64 x0.at_, .int .i64 x0.seed] 143 (0, 0))])]) w0 w [] [(0, k0), (1, k1), (2, k2), (3, [(b0_, .cells #[.slice A0_0 x0.code.length p0_0, .int .i64 r.2.1, .int .i64 r.2.2] 143 (0, 0))])])) := by
  have hs := hs0
  unfold spec_l00Src_oram.f at H
  refine enter Try.func77 rfl Try.ntmps77 rfl fun a hk => ?_
  apply wp_seq_k; intro K1 hK1
  apply wp_region_lit
  refine salx 3 hs rfl hk rfl rfl ze31 rfl fun b2 w a hk hs => ?_
  show wpList _ _ _ [] _ _
  refine wpList_nil ?_
  refine hK1 _ _ ?_
  apply wp_seq_k; intro K3 hK3
  apply wp_region_lit
  refine sm _ rfl hk rfl rfl rfl fun a hk => ?_
  obtain ⟨y4, h5, H⟩ := bind_some H
  refine sc rfl en137 hk rfl rfl rfl (spec_l00Src_drawLeaves_t _ b0_ x0 A0_0 p0_0 _ v0_0 (hs.hasD (k := 2) rfl) 12 ((hs.hand [(1, 1)] rfl).dpick [(2, 2)] rfl) _ h5) ?_
  rintro _ w ⟨A6, p7, k8, rfl, o9, hG⟩ a hk
  have hs := hs.back [(1, 1)] rfl hG [4, 1] rfl
  obtain ⟨y10, h11, H⟩ := bind_some H
  refine sc rfl en136 hk rfl rfl rfl (spec_l08New_t _ A6 p7 y4.1 _ o9.view (hs.hasG (k := 4) rfl) _ h11) ?_
  rintro _ w ⟨A12, p13, k14, A16, p17, k18, A20, p21, k22, rfl, o15, o19, o23, hG⟩ a hk
  have hs := hs.call0k hG [5, 6, 7] rfl
  refine salx 8 hs rfl hk rfl rfl ze31 rfl fun b24 w a hk hs => ?_
  refine ssw 8 hs rfl rfl hk rfl rfl rfl rfl sz31 (by simp [Value.oneCell']) rfl fun w a hk hs => ?_
  show wpList _ _ _ [] _ _
  refine wpList_nil ?_
  refine hK3 _ _ ?_
  apply wp_seq_k; intro K25 hK25
  apply wp_seq_k; intro K26 hK26
  apply wp_region_lit
  refine sm _ rfl hk rfl rfl rfl fun a hk => ?_
  refine sm _ rfl hk rfl rfl rfl fun a hk => ?_
  obtain ⟨y27, h28, H⟩ := bind_some H
  refine sc rfl en139 hk rfl rfl rfl (spec_l00Src_size_t _ b0_ (⟨x0.code, y4.2.1, y4.2.2⟩ : S_l00Src) A0_0 p0_0 _ v0_0 (hs.hasD (k := 2) rfl) 30 ((hs.hand [(1, 1)] rfl).dpick [(2, 2)] rfl) _ h28) ?_
  rintro _ w ⟨rfl, hG⟩ a hk
  have hs := hs.back [(1, 1)] rfl hG [1] rfl
  refine sv (.int .i64 (w64 (y27.1 + 8))) hk rfl rfl rfl fun a hk => ?_
  obtain ⟨y29, h30, H⟩ := bind_some H
  refine sc rfl en138 hk rfl rfl rfl (spec_l00Src_next_t _ b0_ (⟨x0.code, y27.2.1, y27.2.2⟩ : S_l00Src) A0_0 p0_0 _ v0_0 (hs.hasD (k := 2) rfl) (w64 (y27.1 + 8)) ((hs.hand [(1, 1)] rfl).dpick [(2, 2)] rfl) _ h30) ?_
  rintro _ w ⟨rfl, hG⟩ a hk
  have hs := hs.back [(1, 1)] rfl hG [1] rfl
  refine sa _ rfl hk rfl rfl rfl fun a hk => ?_
  show wpList _ _ _ [] _ _
  refine wpList_nil ?_
  refine hK26 _ _ ?_
  obtain ⟨o80, h81, HL82⟩ := bind_some H
  clear H
  obtain ⟨R83, hR83⟩ : ∃ R : Act → World → Prop, R = fun a w => ∃ (u63 : Int) (u64 : Int) (u65 : List Int) (u70 : List S_Block) (u75 : List (List S_Block)) (A68 : Option Addr) (p69 : Nat) (k66 : Chunk) (A73 : Option Addr) (p74 : Nat) (k71 : Chunk) (A78 : Option Addr) (p79 : Nat) (k76 : Chunk), o80 = .out (u63, u64, u65, u70, u75) ∧ Kn [(0, (.pointer (some ⟨b0_, 0, none⟩))), (2, (.pointer (some ⟨b2, 0, none⟩))), (3, (.pointer (some ⟨b24, 0, none⟩)))] 37 a ∧ Sat (blks [(1, [(b0_, .cells #[.slice A0_0 x0.code.length p0_0, .int .i64 x0.at_, .int .i64 x0.seed] 143 (0, 0))])]) w0 w [(2, k0_0)] [(1, [(b0_, .cells #[.slice A0_0 x0.code.length p0_0, .int .i64 u63, .int .i64 u64] 143 (0, 0))]), (3, [(b2, .cells #[.slice none 0 0, .slice none 0 0, .slice none 0 0] 31 (0, 0))]), (8, [(b24, .cells #[.slice A68 u65.length p69, .slice A73 u70.length p74, .slice A78 u75.length p79] 31 (0, 0))]), (5, k66), (6, k71), (7, k76)] ∧ Own (Lay.int .i64) 3 A68 p69 u65 k66 ∧ Own L_Block 102 A73 p74 u70 k71 ∧ Own (Lay.sl L_Block 102) 28 A78 p79 u75 k76 := ⟨_, rfl⟩
  refine wp_cutq R83 ?_ ?_
  ·refine wp_block ?_
   obtain ⟨fu85, h81⟩ := loopO_some h81
   obtain ⟨I84, hI84⟩ : ∃ I : Nat → Act → World → Prop, I = fun fu a w => ∃ (u33 : Int) (u34 : Int) (u35 : Int) (u48 : List Int) (u53 : List S_Block) (u58 : List (List S_Block)) (A51 : Option Addr) (p52 : Nat) (k49 : Chunk) (A56 : Option Addr) (p57 : Nat) (k54 : Chunk) (A61 : Option Addr) (p62 : Nat) (k59 : Chunk), loopN (fun s => spec_l00Src_oram.s0 x0 s.1 s.2.1 s.2.2.1 s.2.2.2.1 s.2.2.2.2.1 s.2.2.2.2.2) fu (u33, u34, u35, u48, u53, u58) = some o80 ∧ Kn [(0, (.pointer (some ⟨b0_, 0, none⟩))), (2, (.pointer (some ⟨b2, 0, none⟩))), (3, (.pointer (some ⟨b24, 0, none⟩))), (4, (.int .i64 u33))] 37 a ∧ Sat (blks [(1, [(b0_, .cells #[.slice A0_0 x0.code.length p0_0, .int .i64 x0.at_, .int .i64 x0.seed] 143 (0, 0))])]) w0 w [(2, k0_0)] [(1, [(b0_, .cells #[.slice A0_0 x0.code.length p0_0, .int .i64 u34, .int .i64 u35] 143 (0, 0))]), (3, [(b2, .cells #[.slice none 0 0, .slice none 0 0, .slice none 0 0] 31 (0, 0))]), (8, [(b24, .cells #[.slice A51 u48.length p52, .slice A56 u53.length p57, .slice A61 u58.length p62] 31 (0, 0))]), (5, k49), (6, k54), (7, k59)] ∧ Own (Lay.int .i64) 3 A51 p52 u48 k49 ∧ Own L_Block 102 A56 p57 u53 k54 ∧ Own (Lay.sl L_Block 102) 28 A61 p62 u58 k59 := ⟨_, rfl⟩
   refine wp_loop_ghost I84 fu85 ?_ ?_
   ·rw [hI84]
    exact ⟨y29.1, y29.2.1, y29.2.2, y10.Pos, y10.Stash, y10.Buckets, A12, p13, _, A16, p17, _, A20, p21, _, h81, (hk.c 0 rfl (hk.c 2 rfl (hk.c 3 rfl (hk.c 4 rfl hk.k)))), (hs.pick [(1, 1), (3, 3), (8, 8), (5, 5), (6, 6), (7, 7)] rfl), o15, o19, o23⟩
   ·clear h81 hk hs
    intro fu85 a w hI0
    rw [hI84] at hI0
    obtain ⟨u33, u34, u35, u48, u53, u58, A51, p52, k49, A56, p57, k54, A61, p62, k59, hi, hk, hs, o50, o55, o60⟩ := hI0
    obtain ⟨x86, H, h87⟩ := loop_round hi
    try dsimp only at H
    unfold spec_l00Src_oram.s0 at H
    apply wp_seq_k; intro K88 hK88
    apply wp_seq_k; intro K89 hK89
    apply wp_region_lit
    refine sm _ rfl hk rfl rfl rfl fun a hk => ?_
    refine sv (.bool (decide (u33 > 0))) hk rfl rfl rfl fun a hk => ?_
    show wpList _ _ _ [] _ _
    refine wpList_nil ?_
    refine hK89 _ _ ?_
    have hs := hs.pick [(1, 1), (3, 3), (8, 8), (5, 5), (6, 6), (7, 7)] rfl
    rcases cond_some H with ⟨c90, H⟩ | ⟨c90, H⟩
    ·have hk := hk.lit 17 c90 rfl
     refine cnd_true hk rfl rfl ?_
     refine wp_skip ?_
     refine hK88 _ _ ?_
     apply wp_seq_k; intro K91 hK91
     refine wp_block ?_
     apply wp_seq_k; intro K92 hK92
     obtain ⟨y_r93_2_1, h_r93_2_2, H⟩ := bind_some H
     obtain ⟨y_r93_4_1, h_r93_4_2, H⟩ := bind_some H
     obtain ⟨y_r93_6_1, h_r93_6_2, H⟩ := bind_some H
     obtain ⟨y_r93_8_1, h_r93_8_2, H⟩ := bind_some H
     obtain ⟨y_r93_9_1, h_r93_9_2, H⟩ := bind_some H
     obtain ⟨R94, hR94⟩ : ∃ R : Act → World → Prop, R = fun a w => ∃ (b_r93_14_1 : Nat) (A_r93_9_3 : Option Addr) (p_r93_9_4 : Nat) (A_r93_9_7 : Option Addr) (p_r93_9_8 : Nat) (A_r93_9_11 : Option Addr) (p_r93_9_12 : Nat) (k_r93_9_5 : Chunk) (k_r93_9_9 : Chunk) (k_r93_9_13 : Chunk), Kn [(0, (.pointer (some ⟨b0_, 0, none⟩))), (2, (.pointer (some ⟨b2, 0, none⟩))), (3, (.pointer (some ⟨b24, 0, none⟩))), (4, (.int .i64 u33)), (5, (.pointer (some ⟨b_r93_14_1, 0, none⟩)))] 37 a ∧ Sat (blks [(1, [(b0_, .cells #[.slice A0_0 x0.code.length p0_0, .int .i64 x0.at_, .int .i64 x0.seed] 143 (0, 0))])]) w0 w [(2, k0_0)] [(1, [(b0_, .cells #[.slice A0_0 x0.code.length p0_0, .int .i64 y_r93_8_1.2.1, .int .i64 y_r93_8_1.2.2] 143 (0, 0))]), (3, [(b2, .cells #[.slice none 0 0, .slice none 0 0, .slice none 0 0] 31 (0, 0))]), (8, [(b24, .cells #[.slice A51 u48.length p52, .slice A56 u53.length p57, .slice A61 u58.length p62] 31 (0, 0))]), (5, k49), (6, k54), (7, k59), (110281, [(b_r93_14_1, .cells #[.slice A_r93_9_3 y_r93_9_1.1.Pos.length p_r93_9_4, .slice A_r93_9_7 y_r93_9_1.1.Stash.length p_r93_9_8, .slice A_r93_9_11 y_r93_9_1.1.Buckets.length p_r93_9_12] 31 (0, 0))]), (110181, k_r93_9_5), (110182, k_r93_9_9), (110183, k_r93_9_13)] ∧ Own (Lay.int .i64) 3 A_r93_9_3 p_r93_9_4 y_r93_9_1.1.Pos k_r93_9_5 ∧ Own L_Block 102 A_r93_9_7 p_r93_9_8 y_r93_9_1.1.Stash k_r93_9_9 ∧ Own (Lay.sl L_Block 102) 28 A_r93_9_11 p_r93_9_12 y_r93_9_1.1.Buckets k_r93_9_13 := ⟨_, rfl⟩
     refine wp_cutq R94 ?_ ?_
     ·skip
      refine wp_region_tree (.q 0 (.q 1 (.q 3 (.q 5 (.q 7 (.alt 2 (.alt 4 (.alt 6 (.alt 8 (.alt 9 (.q 10 (.q 11 (.q 12 (.q 13 (.alt 14 (.alt 15 (.alt 16 (.last 17) .stop) .stop) .stop))))) (.alt 14 (.alt 9 (.alt 10 (.q 11 (.q 12 (.q 13 (.alt 15 (.alt 16 (.last 17) .stop) .stop)))) .stop) .stop) .stop)) (.alt 14 (.alt 8 (.alt 9 (.alt 10 (.q 11 (.q 12 (.q 13 (.alt 15 (.alt 16 (.last 17) .stop) .stop)))) .stop) .stop) .stop) .stop)) (.alt 14 (.alt 6 (.alt 8 (.alt 9 (.alt 10 (.q 11 (.q 12 (.q 13 (.alt 15 (.alt 16 (.last 17) .stop) .stop)))) .stop) .stop) .stop) .stop) .stop)) (.alt 14 (.alt 4 (.alt 6 (.alt 8 (.alt 9 (.alt 10 (.q 11 (.q 12 (.q 13 (.alt 15 (.alt 16 (.last 17) .stop) .stop)))) .stop) .stop) .stop) .stop) .stop) .stop)) (.alt 14 (.alt 2 (.alt 4 (.alt 6 (.alt 8 (.alt 9 (.alt 10 (.q 11 (.q 12 (.q 13 (.alt 15 (.alt 16 (.last 17) .stop) .stop)))) .stop) .stop) .stop) .stop) .stop) .stop) .stop))))))) mo (by kernel_rfl) (hs.pick [(3, 3), (8, 8), (5, 5), (6, 6), (7, 7)] rfl) fun _ => ?_
      have hs := hs.drew
      refine tqst (.agg #[.slice A51 u48.length p52, .slice A56 u53.length p57, .slice A61 u58.length p62]) hk rfl rfl rfl rfl (fun w hs => sln [.slice A51 u48.length p52, .slice A56 u53.length p57, .slice A61 u58.length p62] rfl hk rfl rfl rfl ag31 sz31 (box_cells hs (k := 8) rfl) fun a hk => qe hk) fun a hk => ?_
      refine tqst (.pointer (some ⟨b0_, 0, none⟩)) hk rfl rfl rfl rfl (fun w hs => sm _ rfl hk rfl rfl rfl fun a hk => qe hk) fun a hk => ?_
      refine tqst (.pointer (some ⟨b0_, 0, none⟩)) hk rfl rfl rfl rfl (fun w hs => sm _ rfl hk rfl rfl rfl fun a hk => qe hk) fun a hk => ?_
      refine tqst (.pointer (some ⟨b0_, 0, none⟩)) hk rfl rfl rfl rfl (fun w hs => sm _ rfl hk rfl rfl rfl fun a hk => qe hk) fun a hk => ?_
      refine tqst (.pointer (some ⟨b0_, 0, none⟩)) hk rfl rfl rfl rfl (fun w hs => sm _ rfl hk rfl rfl rfl fun a hk => qe hk) fun a hk => ?_
      refine tsst hk rfl rfl (fun K_r93_2 hK_r93_2 w hF => ?_) ?_
      ·skip
       have hs := hs.f hF
       refine sc rfl en138 hk rfl rfl rfl (spec_l00Src_next_t _ b0_ (⟨x0.code, u34, u35⟩ : S_l00Src) A0_0 p0_0 _ v0_0 (hs.hasD (k := 2) rfl) 12 ((hs.hand [(1, 1)] rfl).dpick [(2, 2)] rfl) _ h_r93_2_2) ?_
       rintro _ w ⟨rfl, hG⟩ a hk
       have hs := hs.back [(1, 1)] rfl hG [1] rfl
       refine se (hs.pick [(3, 3), (8, 8), (5, 5), (6, 6), (7, 7)] rfl) hk (hK_r93_2 _ _ ?_)
       refine tsst hk rfl rfl (fun K_r93_4 hK_r93_4 w hF => ?_) ?_
       ·skip
        have hs := hs.f hF
        refine sc rfl en140 hk rfl rfl rfl (spec_l00Src_chance_t _ b0_ (⟨x0.code, y_r93_2_1.2.1, y_r93_2_1.2.2⟩ : S_l00Src) A0_0 p0_0 _ v0_0 (hs.hasD (k := 2) rfl) 2 ((hs.hand [(1, 1)] rfl).dpick [(2, 2)] rfl) _ h_r93_4_2) ?_
        rintro _ w ⟨rfl, hG⟩ a hk
        have hs := hs.back [(1, 1)] rfl hG [1] rfl
        refine se (hs.pick [(3, 3), (8, 8), (5, 5), (6, 6), (7, 7)] rfl) hk (hK_r93_4 _ _ ?_)
        refine tsst hk rfl rfl (fun K_r93_6 hK_r93_6 w hF => ?_) ?_
        ·skip
         have hs := hs.f hF
         refine sc rfl en138 hk rfl rfl rfl (spec_l00Src_next_t _ b0_ (⟨x0.code, y_r93_4_1.2.1, y_r93_4_1.2.2⟩ : S_l00Src) A0_0 p0_0 _ v0_0 (hs.hasD (k := 2) rfl) 100 ((hs.hand [(1, 1)] rfl).dpick [(2, 2)] rfl) _ h_r93_6_2) ?_
         rintro _ w ⟨rfl, hG⟩ a hk
         have hs := hs.back [(1, 1)] rfl hG [1] rfl
         refine se (hs.pick [(3, 3), (8, 8), (5, 5), (6, 6), (7, 7)] rfl) hk (hK_r93_6 _ _ ?_)
         refine tsst hk rfl rfl (fun K_r93_8 hK_r93_8 w hF => ?_) ?_
         ·skip
          have hs := hs.f hF
          refine sc rfl en138 hk rfl rfl rfl (spec_l00Src_next_t _ b0_ (⟨x0.code, y_r93_6_1.2.1, y_r93_6_1.2.2⟩ : S_l00Src) A0_0 p0_0 _ v0_0 (hs.hasD (k := 2) rfl) 8 ((hs.hand [(1, 1)] rfl).dpick [(2, 2)] rfl) _ h_r93_8_2) ?_
          rintro _ w ⟨rfl, hG⟩ a hk
          have hs := hs.back [(1, 1)] rfl hG [1] rfl
          refine se (hs.pick [(3, 3), (8, 8), (5, 5), (6, 6), (7, 7)] rfl) hk (hK_r93_8 _ _ ?_)
          refine tsst hk rfl rfl (fun K_r93_9 hK_r93_9 w hF => ?_) ?_
          ·skip
           have hs := hs.f hF
           refine sc rfl en59 hk rfl rfl rfl (spec_l08Access_t _ (⟨u48, u53, u58⟩ : S_Oram) A51 p52 _ o50.view (hs.hasG (k := 5) rfl) A56 p57 _ o55.view (hs.hasG (k := 6) rfl) A61 p62 _ o60.view (hs.hasG (k := 7) rfl) y_r93_2_1.1 y_r93_4_1.1 y_r93_6_1.1 y_r93_8_1.1 _ h_r93_9_2) ?_
           rintro _ w ⟨A_r93_9_3, p_r93_9_4, k_r93_9_5, A_r93_9_7, p_r93_9_8, k_r93_9_9, A_r93_9_11, p_r93_9_12, k_r93_9_13, rfl, o_r93_9_6, o_r93_9_10, o_r93_9_14, hG⟩ a hk
           have hs := hs.call0k hG [110181, 110182, 110183] rfl
           refine se (hs.pick [(3, 3), (8, 8), (5, 5), (6, 6), (7, 7)] rfl) hk (hK_r93_9 _ _ ?_)
           refine tqst (.tuple #[(.agg #[.slice A_r93_9_3 y_r93_9_1.1.Pos.length p_r93_9_4, .slice A_r93_9_7 y_r93_9_1.1.Stash.length p_r93_9_8, .slice A_r93_9_11 y_r93_9_1.1.Buckets.length p_r93_9_12]), (.int .i64 y_r93_9_1.2.1), (.int .i64 y_r93_9_1.2.2)]) hk rfl rfl rfl rfl (fun w hs => sm _ rfl hk rfl rfl rfl fun a hk => qe hk) fun a hk => ?_
           refine tqst (.agg #[.slice A_r93_9_3 y_r93_9_1.1.Pos.length p_r93_9_4, .slice A_r93_9_7 y_r93_9_1.1.Stash.length p_r93_9_8, .slice A_r93_9_11 y_r93_9_1.1.Buckets.length p_r93_9_12]) hk rfl rfl rfl rfl (fun w hs => sv (.agg #[.slice A_r93_9_3 y_r93_9_1.1.Pos.length p_r93_9_4, .slice A_r93_9_7 y_r93_9_1.1.Stash.length p_r93_9_8, .slice A_r93_9_11 y_r93_9_1.1.Buckets.length p_r93_9_12]) hk rfl rfl rfl fun a hk => qe hk) fun a hk => ?_
           refine tqst (.int .i64 y_r93_9_1.2.1) hk rfl rfl rfl rfl (fun w hs => sv (.int .i64 y_r93_9_1.2.1) hk rfl rfl rfl fun a hk => qe hk) fun a hk => ?_
           refine tqst (.int .i64 y_r93_9_1.2.2) hk rfl rfl rfl rfl (fun w hs => sv (.int .i64 y_r93_9_1.2.2) hk rfl rfl rfl fun a hk => qe hk) fun a hk => ?_
           refine tsst hk rfl rfl (fun K_r93_14 hK_r93_14 w hF => ?_) wt_stop
           have hs := hs.f hF
           refine salx 110281 hs rfl hk rfl rfl ze31 rfl fun b_r93_14_1 w a hk hs => ?_
           refine se (hs.pick [(3, 3), (8, 8), (5, 5), (6, 6), (7, 7)] rfl) hk (hK_r93_14 _ _ ?_)
           refine tsst hk rfl rfl (fun K_r93_15 hK_r93_15 w hF => ?_) wt_stop
           have hs := hs.f hF
           refine ssw 110281 hs rfl rfl hk rfl rfl rfl rfl sz31 (by simp [Value.oneCell']) rfl fun w a hk hs => ?_
           refine se (hs.pick [(3, 3), (8, 8), (5, 5), (6, 6), (7, 7)] rfl) hk (hK_r93_15 _ _ ?_)
           refine tsst hk rfl rfl (fun K_r93_16 hK_r93_16 w hF => ?_) wt_stop
           have hs := hs.f hF
           refine sa _ rfl hk rfl rfl rfl fun a hk => ?_
           refine se (hs.pick [(3, 3), (8, 8), (5, 5), (6, 6), (7, 7)] rfl) hk (hK_r93_16 _ _ ?_)
           refine tlst hk rfl rfl fun K_r93_17 hK_r93_17 w hF => ?_
           have hs := hs.f hF
           refine sa _ rfl hk rfl rfl rfl fun a hk => ?_
           refine se trivial hk (hK_r93_17 _ _ fun w hF => ?_)
           have hs := hs.f hF
           show R94 _ _
           rw [hR94]
           exact ⟨b_r93_14_1, A_r93_9_3, p_r93_9_4, A_r93_9_7, p_r93_9_8, A_r93_9_11, p_r93_9_12, k_r93_9_5, k_r93_9_9, k_r93_9_13, (hk.c 0 rfl (hk.c 2 rfl (hk.c 3 rfl (hk.c 4 rfl (hk.c 5 rfl hk.k))))), (hs.pick [(1, 1), (3, 3), (8, 8), (5, 5), (6, 6), (7, 7), (110281, 110281), (110181, 110181), (110182, 110182), (110183, 110183)] rfl), o_r93_9_6, o_r93_9_10, o_r93_9_14⟩
          refine tsst hk rfl rfl (fun K_r93_14 hK_r93_14 w hF => ?_) wt_stop
          have hs := hs.f hF
          refine salx 110281 hs rfl hk rfl rfl ze31 rfl fun b_r93_14_1 w a hk hs => ?_
          refine se (hs.pick [(3, 3), (8, 8), (5, 5), (6, 6), (7, 7)] rfl) hk (hK_r93_14 _ _ ?_)
          refine tsst hk rfl rfl (fun K_r93_9 hK_r93_9 w hF => ?_) wt_stop
          have hs := hs.f hF
          refine sc rfl en59 hk rfl rfl rfl (spec_l08Access_t _ (⟨u48, u53, u58⟩ : S_Oram) A51 p52 _ o50.view (hs.hasG (k := 5) rfl) A56 p57 _ o55.view (hs.hasG (k := 6) rfl) A61 p62 _ o60.view (hs.hasG (k := 7) rfl) y_r93_2_1.1 y_r93_4_1.1 y_r93_6_1.1 y_r93_8_1.1 _ h_r93_9_2) ?_
          rintro _ w ⟨A_r93_9_3, p_r93_9_4, k_r93_9_5, A_r93_9_7, p_r93_9_8, k_r93_9_9, A_r93_9_11, p_r93_9_12, k_r93_9_13, rfl, o_r93_9_6, o_r93_9_10, o_r93_9_14, hG⟩ a hk
          have hs := hs.call0k hG [110181, 110182, 110183] rfl
          refine se (hs.pick [(3, 3), (8, 8), (5, 5), (6, 6), (7, 7)] rfl) hk (hK_r93_9 _ _ ?_)
          refine tsst hk rfl rfl (fun K_r93_10 hK_r93_10 w hF => ?_) wt_stop
          have hs := hs.f hF
          refine sm _ rfl hk rfl rfl rfl fun a hk => ?_
          refine se (hs.pick [(3, 3), (8, 8), (5, 5), (6, 6), (7, 7)] rfl) hk (hK_r93_10 _ _ ?_)
          refine tqst (.agg #[.slice A_r93_9_3 y_r93_9_1.1.Pos.length p_r93_9_4, .slice A_r93_9_7 y_r93_9_1.1.Stash.length p_r93_9_8, .slice A_r93_9_11 y_r93_9_1.1.Buckets.length p_r93_9_12]) hk rfl rfl rfl rfl (fun w hs => sv (.agg #[.slice A_r93_9_3 y_r93_9_1.1.Pos.length p_r93_9_4, .slice A_r93_9_7 y_r93_9_1.1.Stash.length p_r93_9_8, .slice A_r93_9_11 y_r93_9_1.1.Buckets.length p_r93_9_12]) hk rfl rfl rfl fun a hk => qe hk) fun a hk => ?_
          refine tqst (.int .i64 y_r93_9_1.2.1) hk rfl rfl rfl rfl (fun w hs => sv (.int .i64 y_r93_9_1.2.1) hk rfl rfl rfl fun a hk => qe hk) fun a hk => ?_
          refine tqst (.int .i64 y_r93_9_1.2.2) hk rfl rfl rfl rfl (fun w hs => sv (.int .i64 y_r93_9_1.2.2) hk rfl rfl rfl fun a hk => qe hk) fun a hk => ?_
          refine tsst hk rfl rfl (fun K_r93_15 hK_r93_15 w hF => ?_) wt_stop
          have hs := hs.f hF
          refine ssw 110281 hs rfl rfl hk rfl rfl rfl rfl sz31 (by simp [Value.oneCell']) rfl fun w a hk hs => ?_
          refine se (hs.pick [(3, 3), (8, 8), (5, 5), (6, 6), (7, 7)] rfl) hk (hK_r93_15 _ _ ?_)
          refine tsst hk rfl rfl (fun K_r93_16 hK_r93_16 w hF => ?_) wt_stop
          have hs := hs.f hF
          refine sa _ rfl hk rfl rfl rfl fun a hk => ?_
          refine se (hs.pick [(3, 3), (8, 8), (5, 5), (6, 6), (7, 7)] rfl) hk (hK_r93_16 _ _ ?_)
          refine tlst hk rfl rfl fun K_r93_17 hK_r93_17 w hF => ?_
          have hs := hs.f hF
          refine sa _ rfl hk rfl rfl rfl fun a hk => ?_
          refine se trivial hk (hK_r93_17 _ _ fun w hF => ?_)
          have hs := hs.f hF
          show R94 _ _
          rw [hR94]
          exact ⟨b_r93_14_1, A_r93_9_3, p_r93_9_4, A_r93_9_7, p_r93_9_8, A_r93_9_11, p_r93_9_12, k_r93_9_5, k_r93_9_9, k_r93_9_13, (hk.c 0 rfl (hk.c 2 rfl (hk.c 3 rfl (hk.c 4 rfl (hk.c 5 rfl hk.k))))), (hs.pick [(1, 1), (3, 3), (8, 8), (5, 5), (6, 6), (7, 7), (110281, 110281), (110181, 110181), (110182, 110182), (110183, 110183)] rfl), o_r93_9_6, o_r93_9_10, o_r93_9_14⟩
         refine tsst hk rfl rfl (fun K_r93_14 hK_r93_14 w hF => ?_) wt_stop
         have hs := hs.f hF
         refine salx 110281 hs rfl hk rfl rfl ze31 rfl fun b_r93_14_1 w a hk hs => ?_
         refine se (hs.pick [(3, 3), (8, 8), (5, 5), (6, 6), (7, 7)] rfl) hk (hK_r93_14 _ _ ?_)
         refine tsst hk rfl rfl (fun K_r93_8 hK_r93_8 w hF => ?_) wt_stop
         have hs := hs.f hF
         refine sc rfl en138 hk rfl rfl rfl (spec_l00Src_next_t _ b0_ (⟨x0.code, y_r93_6_1.2.1, y_r93_6_1.2.2⟩ : S_l00Src) A0_0 p0_0 _ v0_0 (hs.hasD (k := 2) rfl) 8 ((hs.hand [(1, 1)] rfl).dpick [(2, 2)] rfl) _ h_r93_8_2) ?_
         rintro _ w ⟨rfl, hG⟩ a hk
         have hs := hs.back [(1, 1)] rfl hG [1] rfl
         refine se (hs.pick [(3, 3), (8, 8), (5, 5), (6, 6), (7, 7)] rfl) hk (hK_r93_8 _ _ ?_)
         refine tsst hk rfl rfl (fun K_r93_9 hK_r93_9 w hF => ?_) wt_stop
         have hs := hs.f hF
         refine sc rfl en59 hk rfl rfl rfl (spec_l08Access_t _ (⟨u48, u53, u58⟩ : S_Oram) A51 p52 _ o50.view (hs.hasG (k := 5) rfl) A56 p57 _ o55.view (hs.hasG (k := 6) rfl) A61 p62 _ o60.view (hs.hasG (k := 7) rfl) y_r93_2_1.1 y_r93_4_1.1 y_r93_6_1.1 y_r93_8_1.1 _ h_r93_9_2) ?_
         rintro _ w ⟨A_r93_9_3, p_r93_9_4, k_r93_9_5, A_r93_9_7, p_r93_9_8, k_r93_9_9, A_r93_9_11, p_r93_9_12, k_r93_9_13, rfl, o_r93_9_6, o_r93_9_10, o_r93_9_14, hG⟩ a hk
         have hs := hs.call0k hG [110181, 110182, 110183] rfl
         refine se (hs.pick [(3, 3), (8, 8), (5, 5), (6, 6), (7, 7)] rfl) hk (hK_r93_9 _ _ ?_)
         refine tsst hk rfl rfl (fun K_r93_10 hK_r93_10 w hF => ?_) wt_stop
         have hs := hs.f hF
         refine sm _ rfl hk rfl rfl rfl fun a hk => ?_
         refine se (hs.pick [(3, 3), (8, 8), (5, 5), (6, 6), (7, 7)] rfl) hk (hK_r93_10 _ _ ?_)
         refine tqst (.agg #[.slice A_r93_9_3 y_r93_9_1.1.Pos.length p_r93_9_4, .slice A_r93_9_7 y_r93_9_1.1.Stash.length p_r93_9_8, .slice A_r93_9_11 y_r93_9_1.1.Buckets.length p_r93_9_12]) hk rfl rfl rfl rfl (fun w hs => sv (.agg #[.slice A_r93_9_3 y_r93_9_1.1.Pos.length p_r93_9_4, .slice A_r93_9_7 y_r93_9_1.1.Stash.length p_r93_9_8, .slice A_r93_9_11 y_r93_9_1.1.Buckets.length p_r93_9_12]) hk rfl rfl rfl fun a hk => qe hk) fun a hk => ?_
         refine tqst (.int .i64 y_r93_9_1.2.1) hk rfl rfl rfl rfl (fun w hs => sv (.int .i64 y_r93_9_1.2.1) hk rfl rfl rfl fun a hk => qe hk) fun a hk => ?_
         refine tqst (.int .i64 y_r93_9_1.2.2) hk rfl rfl rfl rfl (fun w hs => sv (.int .i64 y_r93_9_1.2.2) hk rfl rfl rfl fun a hk => qe hk) fun a hk => ?_
         refine tsst hk rfl rfl (fun K_r93_15 hK_r93_15 w hF => ?_) wt_stop
         have hs := hs.f hF
         refine ssw 110281 hs rfl rfl hk rfl rfl rfl rfl sz31 (by simp [Value.oneCell']) rfl fun w a hk hs => ?_
         refine se (hs.pick [(3, 3), (8, 8), (5, 5), (6, 6), (7, 7)] rfl) hk (hK_r93_15 _ _ ?_)
         refine tsst hk rfl rfl (fun K_r93_16 hK_r93_16 w hF => ?_) wt_stop
         have hs := hs.f hF
         refine sa _ rfl hk rfl rfl rfl fun a hk => ?_
         refine se (hs.pick [(3, 3), (8, 8), (5, 5), (6, 6), (7, 7)] rfl) hk (hK_r93_16 _ _ ?_)
         refine tlst hk rfl rfl fun K_r93_17 hK_r93_17 w hF => ?_
         have hs := hs.f hF
         refine sa _ rfl hk rfl rfl rfl fun a hk => ?_
         refine se trivial hk (hK_r93_17 _ _ fun w hF => ?_)
         have hs := hs.f hF
         show R94 _ _
         rw [hR94]
         exact ⟨b_r93_14_1, A_r93_9_3, p_r93_9_4, A_r93_9_7, p_r93_9_8, A_r93_9_11, p_r93_9_12, k_r93_9_5, k_r93_9_9, k_r93_9_13, (hk.c 0 rfl (hk.c 2 rfl (hk.c 3 rfl (hk.c 4 rfl (hk.c 5 rfl hk.k))))), (hs.pick [(1, 1), (3, 3), (8, 8), (5, 5), (6, 6), (7, 7), (110281, 110281), (110181, 110181), (110182, 110182), (110183, 110183)] rfl), o_r93_9_6, o_r93_9_10, o_r93_9_14⟩
        refine tsst hk rfl rfl (fun K_r93_14 hK_r93_14 w hF => ?_) wt_stop
        have hs := hs.f hF
        refine salx 110281 hs rfl hk rfl rfl ze31 rfl fun b_r93_14_1 w a hk hs => ?_
        refine se (hs.pick [(3, 3), (8, 8), (5, 5), (6, 6), (7, 7)] rfl) hk (hK_r93_14 _ _ ?_)
        refine tsst hk rfl rfl (fun K_r93_6 hK_r93_6 w hF => ?_) wt_stop
        have hs := hs.f hF
        refine sc rfl en138 hk rfl rfl rfl (spec_l00Src_next_t _ b0_ (⟨x0.code, y_r93_4_1.2.1, y_r93_4_1.2.2⟩ : S_l00Src) A0_0 p0_0 _ v0_0 (hs.hasD (k := 2) rfl) 100 ((hs.hand [(1, 1)] rfl).dpick [(2, 2)] rfl) _ h_r93_6_2) ?_
        rintro _ w ⟨rfl, hG⟩ a hk
        have hs := hs.back [(1, 1)] rfl hG [1] rfl
        refine se (hs.pick [(3, 3), (8, 8), (5, 5), (6, 6), (7, 7)] rfl) hk (hK_r93_6 _ _ ?_)
        refine tsst hk rfl rfl (fun K_r93_8 hK_r93_8 w hF => ?_) wt_stop
        have hs := hs.f hF
        refine sc rfl en138 hk rfl rfl rfl (spec_l00Src_next_t _ b0_ (⟨x0.code, y_r93_6_1.2.1, y_r93_6_1.2.2⟩ : S_l00Src) A0_0 p0_0 _ v0_0 (hs.hasD (k := 2) rfl) 8 ((hs.hand [(1, 1)] rfl).dpick [(2, 2)] rfl) _ h_r93_8_2) ?_
        rintro _ w ⟨rfl, hG⟩ a hk
        have hs := hs.back [(1, 1)] rfl hG [1] rfl
        refine se (hs.pick [(3, 3), (8, 8), (5, 5), (6, 6), (7, 7)] rfl) hk (hK_r93_8 _ _ ?_)
        refine tsst hk rfl rfl (fun K_r93_9 hK_r93_9 w hF => ?_) wt_stop
        have hs := hs.f hF
        refine sc rfl en59 hk rfl rfl rfl (spec_l08Access_t _ (⟨u48, u53, u58⟩ : S_Oram) A51 p52 _ o50.view (hs.hasG (k := 5) rfl) A56 p57 _ o55.view (hs.hasG (k := 6) rfl) A61 p62 _ o60.view (hs.hasG (k := 7) rfl) y_r93_2_1.1 y_r93_4_1.1 y_r93_6_1.1 y_r93_8_1.1 _ h_r93_9_2) ?_
        rintro _ w ⟨A_r93_9_3, p_r93_9_4, k_r93_9_5, A_r93_9_7, p_r93_9_8, k_r93_9_9, A_r93_9_11, p_r93_9_12, k_r93_9_13, rfl, o_r93_9_6, o_r93_9_10, o_r93_9_14, hG⟩ a hk
        have hs := hs.call0k hG [110181, 110182, 110183] rfl
        refine se (hs.pick [(3, 3), (8, 8), (5, 5), (6, 6), (7, 7)] rfl) hk (hK_r93_9 _ _ ?_)
        refine tsst hk rfl rfl (fun K_r93_10 hK_r93_10 w hF => ?_) wt_stop
        have hs := hs.f hF
        refine sm _ rfl hk rfl rfl rfl fun a hk => ?_
        refine se (hs.pick [(3, 3), (8, 8), (5, 5), (6, 6), (7, 7)] rfl) hk (hK_r93_10 _ _ ?_)
        refine tqst (.agg #[.slice A_r93_9_3 y_r93_9_1.1.Pos.length p_r93_9_4, .slice A_r93_9_7 y_r93_9_1.1.Stash.length p_r93_9_8, .slice A_r93_9_11 y_r93_9_1.1.Buckets.length p_r93_9_12]) hk rfl rfl rfl rfl (fun w hs => sv (.agg #[.slice A_r93_9_3 y_r93_9_1.1.Pos.length p_r93_9_4, .slice A_r93_9_7 y_r93_9_1.1.Stash.length p_r93_9_8, .slice A_r93_9_11 y_r93_9_1.1.Buckets.length p_r93_9_12]) hk rfl rfl rfl fun a hk => qe hk) fun a hk => ?_
        refine tqst (.int .i64 y_r93_9_1.2.1) hk rfl rfl rfl rfl (fun w hs => sv (.int .i64 y_r93_9_1.2.1) hk rfl rfl rfl fun a hk => qe hk) fun a hk => ?_
        refine tqst (.int .i64 y_r93_9_1.2.2) hk rfl rfl rfl rfl (fun w hs => sv (.int .i64 y_r93_9_1.2.2) hk rfl rfl rfl fun a hk => qe hk) fun a hk => ?_
        refine tsst hk rfl rfl (fun K_r93_15 hK_r93_15 w hF => ?_) wt_stop
        have hs := hs.f hF
        refine ssw 110281 hs rfl rfl hk rfl rfl rfl rfl sz31 (by simp [Value.oneCell']) rfl fun w a hk hs => ?_
        refine se (hs.pick [(3, 3), (8, 8), (5, 5), (6, 6), (7, 7)] rfl) hk (hK_r93_15 _ _ ?_)
        refine tsst hk rfl rfl (fun K_r93_16 hK_r93_16 w hF => ?_) wt_stop
        have hs := hs.f hF
        refine sa _ rfl hk rfl rfl rfl fun a hk => ?_
        refine se (hs.pick [(3, 3), (8, 8), (5, 5), (6, 6), (7, 7)] rfl) hk (hK_r93_16 _ _ ?_)
        refine tlst hk rfl rfl fun K_r93_17 hK_r93_17 w hF => ?_
        have hs := hs.f hF
        refine sa _ rfl hk rfl rfl rfl fun a hk => ?_
        refine se trivial hk (hK_r93_17 _ _ fun w hF => ?_)
        have hs := hs.f hF
        show R94 _ _
        rw [hR94]
        exact ⟨b_r93_14_1, A_r93_9_3, p_r93_9_4, A_r93_9_7, p_r93_9_8, A_r93_9_11, p_r93_9_12, k_r93_9_5, k_r93_9_9, k_r93_9_13, (hk.c 0 rfl (hk.c 2 rfl (hk.c 3 rfl (hk.c 4 rfl (hk.c 5 rfl hk.k))))), (hs.pick [(1, 1), (3, 3), (8, 8), (5, 5), (6, 6), (7, 7), (110281, 110281), (110181, 110181), (110182, 110182), (110183, 110183)] rfl), o_r93_9_6, o_r93_9_10, o_r93_9_14⟩
       refine tsst hk rfl rfl (fun K_r93_14 hK_r93_14 w hF => ?_) wt_stop
       have hs := hs.f hF
       refine salx 110281 hs rfl hk rfl rfl ze31 rfl fun b_r93_14_1 w a hk hs => ?_
       refine se (hs.pick [(3, 3), (8, 8), (5, 5), (6, 6), (7, 7)] rfl) hk (hK_r93_14 _ _ ?_)
       refine tsst hk rfl rfl (fun K_r93_4 hK_r93_4 w hF => ?_) wt_stop
       have hs := hs.f hF
       refine sc rfl en140 hk rfl rfl rfl (spec_l00Src_chance_t _ b0_ (⟨x0.code, y_r93_2_1.2.1, y_r93_2_1.2.2⟩ : S_l00Src) A0_0 p0_0 _ v0_0 (hs.hasD (k := 2) rfl) 2 ((hs.hand [(1, 1)] rfl).dpick [(2, 2)] rfl) _ h_r93_4_2) ?_
       rintro _ w ⟨rfl, hG⟩ a hk
       have hs := hs.back [(1, 1)] rfl hG [1] rfl
       refine se (hs.pick [(3, 3), (8, 8), (5, 5), (6, 6), (7, 7)] rfl) hk (hK_r93_4 _ _ ?_)
       refine tsst hk rfl rfl (fun K_r93_6 hK_r93_6 w hF => ?_) wt_stop
       have hs := hs.f hF
       refine sc rfl en138 hk rfl rfl rfl (spec_l00Src_next_t _ b0_ (⟨x0.code, y_r93_4_1.2.1, y_r93_4_1.2.2⟩ : S_l00Src) A0_0 p0_0 _ v0_0 (hs.hasD (k := 2) rfl) 100 ((hs.hand [(1, 1)] rfl).dpick [(2, 2)] rfl) _ h_r93_6_2) ?_
       rintro _ w ⟨rfl, hG⟩ a hk
       have hs := hs.back [(1, 1)] rfl hG [1] rfl
       refine se (hs.pick [(3, 3), (8, 8), (5, 5), (6, 6), (7, 7)] rfl) hk (hK_r93_6 _ _ ?_)
       refine tsst hk rfl rfl (fun K_r93_8 hK_r93_8 w hF => ?_) wt_stop
       have hs := hs.f hF
       refine sc rfl en138 hk rfl rfl rfl (spec_l00Src_next_t _ b0_ (⟨x0.code, y_r93_6_1.2.1, y_r93_6_1.2.2⟩ : S_l00Src) A0_0 p0_0 _ v0_0 (hs.hasD (k := 2) rfl) 8 ((hs.hand [(1, 1)] rfl).dpick [(2, 2)] rfl) _ h_r93_8_2) ?_
       rintro _ w ⟨rfl, hG⟩ a hk
       have hs := hs.back [(1, 1)] rfl hG [1] rfl
       refine se (hs.pick [(3, 3), (8, 8), (5, 5), (6, 6), (7, 7)] rfl) hk (hK_r93_8 _ _ ?_)
       refine tsst hk rfl rfl (fun K_r93_9 hK_r93_9 w hF => ?_) wt_stop
       have hs := hs.f hF
       refine sc rfl en59 hk rfl rfl rfl (spec_l08Access_t _ (⟨u48, u53, u58⟩ : S_Oram) A51 p52 _ o50.view (hs.hasG (k := 5) rfl) A56 p57 _ o55.view (hs.hasG (k := 6) rfl) A61 p62 _ o60.view (hs.hasG (k := 7) rfl) y_r93_2_1.1 y_r93_4_1.1 y_r93_6_1.1 y_r93_8_1.1 _ h_r93_9_2) ?_
       rintro _ w ⟨A_r93_9_3, p_r93_9_4, k_r93_9_5, A_r93_9_7, p_r93_9_8, k_r93_9_9, A_r93_9_11, p_r93_9_12, k_r93_9_13, rfl, o_r93_9_6, o_r93_9_10, o_r93_9_14, hG⟩ a hk
       have hs := hs.call0k hG [110181, 110182, 110183] rfl
       refine se (hs.pick [(3, 3), (8, 8), (5, 5), (6, 6), (7, 7)] rfl) hk (hK_r93_9 _ _ ?_)
       refine tsst hk rfl rfl (fun K_r93_10 hK_r93_10 w hF => ?_) wt_stop
       have hs := hs.f hF
       refine sm _ rfl hk rfl rfl rfl fun a hk => ?_
       refine se (hs.pick [(3, 3), (8, 8), (5, 5), (6, 6), (7, 7)] rfl) hk (hK_r93_10 _ _ ?_)
       refine tqst (.agg #[.slice A_r93_9_3 y_r93_9_1.1.Pos.length p_r93_9_4, .slice A_r93_9_7 y_r93_9_1.1.Stash.length p_r93_9_8, .slice A_r93_9_11 y_r93_9_1.1.Buckets.length p_r93_9_12]) hk rfl rfl rfl rfl (fun w hs => sv (.agg #[.slice A_r93_9_3 y_r93_9_1.1.Pos.length p_r93_9_4, .slice A_r93_9_7 y_r93_9_1.1.Stash.length p_r93_9_8, .slice A_r93_9_11 y_r93_9_1.1.Buckets.length p_r93_9_12]) hk rfl rfl rfl fun a hk => qe hk) fun a hk => ?_
       refine tqst (.int .i64 y_r93_9_1.2.1) hk rfl rfl rfl rfl (fun w hs => sv (.int .i64 y_r93_9_1.2.1) hk rfl rfl rfl fun a hk => qe hk) fun a hk => ?_
       refine tqst (.int .i64 y_r93_9_1.2.2) hk rfl rfl rfl rfl (fun w hs => sv (.int .i64 y_r93_9_1.2.2) hk rfl rfl rfl fun a hk => qe hk) fun a hk => ?_
       refine tsst hk rfl rfl (fun K_r93_15 hK_r93_15 w hF => ?_) wt_stop
       have hs := hs.f hF
       refine ssw 110281 hs rfl rfl hk rfl rfl rfl rfl sz31 (by simp [Value.oneCell']) rfl fun w a hk hs => ?_
       refine se (hs.pick [(3, 3), (8, 8), (5, 5), (6, 6), (7, 7)] rfl) hk (hK_r93_15 _ _ ?_)
       refine tsst hk rfl rfl (fun K_r93_16 hK_r93_16 w hF => ?_) wt_stop
       have hs := hs.f hF
       refine sa _ rfl hk rfl rfl rfl fun a hk => ?_
       refine se (hs.pick [(3, 3), (8, 8), (5, 5), (6, 6), (7, 7)] rfl) hk (hK_r93_16 _ _ ?_)
       refine tlst hk rfl rfl fun K_r93_17 hK_r93_17 w hF => ?_
       have hs := hs.f hF
       refine sa _ rfl hk rfl rfl rfl fun a hk => ?_
       refine se trivial hk (hK_r93_17 _ _ fun w hF => ?_)
       have hs := hs.f hF
       show R94 _ _
       rw [hR94]
       exact ⟨b_r93_14_1, A_r93_9_3, p_r93_9_4, A_r93_9_7, p_r93_9_8, A_r93_9_11, p_r93_9_12, k_r93_9_5, k_r93_9_9, k_r93_9_13, (hk.c 0 rfl (hk.c 2 rfl (hk.c 3 rfl (hk.c 4 rfl (hk.c 5 rfl hk.k))))), (hs.pick [(1, 1), (3, 3), (8, 8), (5, 5), (6, 6), (7, 7), (110281, 110281), (110181, 110181), (110182, 110182), (110183, 110183)] rfl), o_r93_9_6, o_r93_9_10, o_r93_9_14⟩
      refine tsst hk rfl rfl (fun K_r93_14 hK_r93_14 w hF => ?_) wt_stop
      have hs := hs.f hF
      refine salx 110281 hs rfl hk rfl rfl ze31 rfl fun b_r93_14_1 w a hk hs => ?_
      refine se (hs.pick [(3, 3), (8, 8), (5, 5), (6, 6), (7, 7)] rfl) hk (hK_r93_14 _ _ ?_)
      refine tsst hk rfl rfl (fun K_r93_2 hK_r93_2 w hF => ?_) wt_stop
      have hs := hs.f hF
      refine sc rfl en138 hk rfl rfl rfl (spec_l00Src_next_t _ b0_ (⟨x0.code, u34, u35⟩ : S_l00Src) A0_0 p0_0 _ v0_0 (hs.hasD (k := 2) rfl) 12 ((hs.hand [(1, 1)] rfl).dpick [(2, 2)] rfl) _ h_r93_2_2) ?_
      rintro _ w ⟨rfl, hG⟩ a hk
      have hs := hs.back [(1, 1)] rfl hG [1] rfl
      refine se (hs.pick [(3, 3), (8, 8), (5, 5), (6, 6), (7, 7)] rfl) hk (hK_r93_2 _ _ ?_)
      refine tsst hk rfl rfl (fun K_r93_4 hK_r93_4 w hF => ?_) wt_stop
      have hs := hs.f hF
      refine sc rfl en140 hk rfl rfl rfl (spec_l00Src_chance_t _ b0_ (⟨x0.code, y_r93_2_1.2.1, y_r93_2_1.2.2⟩ : S_l00Src) A0_0 p0_0 _ v0_0 (hs.hasD (k := 2) rfl) 2 ((hs.hand [(1, 1)] rfl).dpick [(2, 2)] rfl) _ h_r93_4_2) ?_
      rintro _ w ⟨rfl, hG⟩ a hk
      have hs := hs.back [(1, 1)] rfl hG [1] rfl
      refine se (hs.pick [(3, 3), (8, 8), (5, 5), (6, 6), (7, 7)] rfl) hk (hK_r93_4 _ _ ?_)
      refine tsst hk rfl rfl (fun K_r93_6 hK_r93_6 w hF => ?_) wt_stop
      have hs := hs.f hF
      refine sc rfl en138 hk rfl rfl rfl (spec_l00Src_next_t _ b0_ (⟨x0.code, y_r93_4_1.2.1, y_r93_4_1.2.2⟩ : S_l00Src) A0_0 p0_0 _ v0_0 (hs.hasD (k := 2) rfl) 100 ((hs.hand [(1, 1)] rfl).dpick [(2, 2)] rfl) _ h_r93_6_2) ?_
      rintro _ w ⟨rfl, hG⟩ a hk
      have hs := hs.back [(1, 1)] rfl hG [1] rfl
      refine se (hs.pick [(3, 3), (8, 8), (5, 5), (6, 6), (7, 7)] rfl) hk (hK_r93_6 _ _ ?_)
      refine tsst hk rfl rfl (fun K_r93_8 hK_r93_8 w hF => ?_) wt_stop
      have hs := hs.f hF
      refine sc rfl en138 hk rfl rfl rfl (spec_l00Src_next_t _ b0_ (⟨x0.code, y_r93_6_1.2.1, y_r93_6_1.2.2⟩ : S_l00Src) A0_0 p0_0 _ v0_0 (hs.hasD (k := 2) rfl) 8 ((hs.hand [(1, 1)] rfl).dpick [(2, 2)] rfl) _ h_r93_8_2) ?_
      rintro _ w ⟨rfl, hG⟩ a hk
      have hs := hs.back [(1, 1)] rfl hG [1] rfl
      refine se (hs.pick [(3, 3), (8, 8), (5, 5), (6, 6), (7, 7)] rfl) hk (hK_r93_8 _ _ ?_)
      refine tsst hk rfl rfl (fun K_r93_9 hK_r93_9 w hF => ?_) wt_stop
      have hs := hs.f hF
      refine sc rfl en59 hk rfl rfl rfl (spec_l08Access_t _ (⟨u48, u53, u58⟩ : S_Oram) A51 p52 _ o50.view (hs.hasG (k := 5) rfl) A56 p57 _ o55.view (hs.hasG (k := 6) rfl) A61 p62 _ o60.view (hs.hasG (k := 7) rfl) y_r93_2_1.1 y_r93_4_1.1 y_r93_6_1.1 y_r93_8_1.1 _ h_r93_9_2) ?_
      rintro _ w ⟨A_r93_9_3, p_r93_9_4, k_r93_9_5, A_r93_9_7, p_r93_9_8, k_r93_9_9, A_r93_9_11, p_r93_9_12, k_r93_9_13, rfl, o_r93_9_6, o_r93_9_10, o_r93_9_14, hG⟩ a hk
      have hs := hs.call0k hG [110181, 110182, 110183] rfl
      refine se (hs.pick [(3, 3), (8, 8), (5, 5), (6, 6), (7, 7)] rfl) hk (hK_r93_9 _ _ ?_)
      refine tsst hk rfl rfl (fun K_r93_10 hK_r93_10 w hF => ?_) wt_stop
      have hs := hs.f hF
      refine sm _ rfl hk rfl rfl rfl fun a hk => ?_
      refine se (hs.pick [(3, 3), (8, 8), (5, 5), (6, 6), (7, 7)] rfl) hk (hK_r93_10 _ _ ?_)
      refine tqst (.agg #[.slice A_r93_9_3 y_r93_9_1.1.Pos.length p_r93_9_4, .slice A_r93_9_7 y_r93_9_1.1.Stash.length p_r93_9_8, .slice A_r93_9_11 y_r93_9_1.1.Buckets.length p_r93_9_12]) hk rfl rfl rfl rfl (fun w hs => sv (.agg #[.slice A_r93_9_3 y_r93_9_1.1.Pos.length p_r93_9_4, .slice A_r93_9_7 y_r93_9_1.1.Stash.length p_r93_9_8, .slice A_r93_9_11 y_r93_9_1.1.Buckets.length p_r93_9_12]) hk rfl rfl rfl fun a hk => qe hk) fun a hk => ?_
      refine tqst (.int .i64 y_r93_9_1.2.1) hk rfl rfl rfl rfl (fun w hs => sv (.int .i64 y_r93_9_1.2.1) hk rfl rfl rfl fun a hk => qe hk) fun a hk => ?_
      refine tqst (.int .i64 y_r93_9_1.2.2) hk rfl rfl rfl rfl (fun w hs => sv (.int .i64 y_r93_9_1.2.2) hk rfl rfl rfl fun a hk => qe hk) fun a hk => ?_
      refine tsst hk rfl rfl (fun K_r93_15 hK_r93_15 w hF => ?_) wt_stop
      have hs := hs.f hF
      refine ssw 110281 hs rfl rfl hk rfl rfl rfl rfl sz31 (by simp [Value.oneCell']) rfl fun w a hk hs => ?_
      refine se (hs.pick [(3, 3), (8, 8), (5, 5), (6, 6), (7, 7)] rfl) hk (hK_r93_15 _ _ ?_)
      refine tsst hk rfl rfl (fun K_r93_16 hK_r93_16 w hF => ?_) wt_stop
      have hs := hs.f hF
      refine sa _ rfl hk rfl rfl rfl fun a hk => ?_
      refine se (hs.pick [(3, 3), (8, 8), (5, 5), (6, 6), (7, 7)] rfl) hk (hK_r93_16 _ _ ?_)
      refine tlst hk rfl rfl fun K_r93_17 hK_r93_17 w hF => ?_
      have hs := hs.f hF
      refine sa _ rfl hk rfl rfl rfl fun a hk => ?_
      refine se trivial hk (hK_r93_17 _ _ fun w hF => ?_)
      have hs := hs.f hF
      show R94 _ _
      rw [hR94]
      exact ⟨b_r93_14_1, A_r93_9_3, p_r93_9_4, A_r93_9_7, p_r93_9_8, A_r93_9_11, p_r93_9_12, k_r93_9_5, k_r93_9_9, k_r93_9_13, (hk.c 0 rfl (hk.c 2 rfl (hk.c 3 rfl (hk.c 4 rfl (hk.c 5 rfl hk.k))))), (hs.pick [(1, 1), (3, 3), (8, 8), (5, 5), (6, 6), (7, 7), (110281, 110281), (110181, 110181), (110182, 110182), (110183, 110183)] rfl), o_r93_9_6, o_r93_9_10, o_r93_9_14⟩
     ·intro a w hR0
      rw [hR94] at hR0
      obtain ⟨b_r93_14_1, A_r93_9_3, p_r93_9_4, A_r93_9_7, p_r93_9_8, A_r93_9_11, p_r93_9_12, k_r93_9_5, k_r93_9_9, k_r93_9_13, hk, hs, o_r93_9_6, o_r93_9_10, o_r93_9_14⟩ := hR0
      refine hK92 _ _ ?_
      apply wp_region_lit
      refine sln [.slice A_r93_9_3 y_r93_9_1.1.Pos.length p_r93_9_4, .slice A_r93_9_7 y_r93_9_1.1.Stash.length p_r93_9_8, .slice A_r93_9_11 y_r93_9_1.1.Buckets.length p_r93_9_12] rfl hk rfl rfl rfl ag31 sz31 (box_cells hs (k := 110281) rfl) fun a hk => ?_
      refine ssw 8 hs rfl rfl hk rfl rfl rfl rfl sz31 (by simp [Value.oneCell']) rfl fun w a hk hs => ?_
      show wpList _ _ _ [] _ _
      refine wpList_nil ?_
      refine hK91 _ _ ?_
      apply wp_region_lit
      refine sm _ rfl hk rfl rfl rfl fun a hk => ?_
      refine sv (.int .i64 (w64 (u33 - 1))) hk rfl rfl rfl fun a hk => ?_
      refine sa _ rfl hk rfl rfl rfl fun a hk => ?_
      show wpList _ _ _ [] _ _
      refine wpList_nil ?_
      obtain rfl := Option.some.inj H
      obtain ⟨m95, hmm95, h87⟩ := h87
      show ∃ n', n' < _ ∧ I84 n' _ _
      refine ⟨m95, hmm95, ?_⟩
      rw [hI84]
      exact ⟨(w64 (u33 - 1)), y_r93_8_1.2.1, y_r93_8_1.2.2, y_r93_9_1.1.Pos, y_r93_9_1.1.Stash, y_r93_9_1.1.Buckets, A_r93_9_3, p_r93_9_4, _, A_r93_9_7, p_r93_9_8, _, A_r93_9_11, p_r93_9_12, _, h87, (hk.c 0 rfl (hk.c 2 rfl (hk.c 3 rfl (hk.c 4 rfl hk.k)))), (hs.pick [(1, 1), (3, 3), (8, 8), (5, 110181), (6, 110182), (7, 110183)] rfl), o_r93_9_6, o_r93_9_10, o_r93_9_14⟩
    ·have hk := hk.lit 17 c90 rfl
     refine cnd_false hk rfl rfl ?_
     refine wp_exit ?_
     obtain rfl := Option.some.inj H
     show R83 _ _
     rw [hR83]
     exact ⟨u34, u35, u48, u53, u58, A51, p52, _, A56, p57, _, A61, p62, _, h87.symm, (hk.c 0 rfl (hk.c 2 rfl (hk.c 3 rfl hk.k))), (hs.pick [(1, 1), (3, 3), (8, 8), (5, 5), (6, 6), (7, 7)] rfl), o50, o55, o60⟩
  ·intro a w hR0
   rw [hR83] at hR0
   obtain ⟨u63, u64, u65, u70, u75, A68, p69, k66, A73, p74, k71, A78, p79, k76, rfl, hk, hs, o67, o72, o77⟩ := hR0
   have H := HL82
   try dsimp only at H
   refine hK25 _ _ ?_
   have hs := hs.pick [(1, 1), (3, 3), (8, 8), (5, 5), (6, 6), (7, 7)] rfl
   apply wp_seq_k; intro K96 hK96
   apply wp_region_lit
   refine sln [.slice A68 u65.length p69, .slice A73 u70.length p74, .slice A78 u75.length p79] rfl hk rfl rfl rfl ag31 sz31 (box_cells hs (k := 8) rfl) fun a hk => ?_
   obtain ⟨y97, h98, H⟩ := bind_some H
   refine sc rfl en126 hk rfl rfl rfl (spec_l08Own_t _ (⟨u65, u70, u75⟩ : S_Oram) A68 p69 _ o67.view (hs.hasG (k := 5) rfl) A73 p74 _ o72.view (hs.hasG (k := 6) rfl) A78 p79 _ o77.view (hs.hasG (k := 7) rfl) _ h98) ?_
   rintro _ w ⟨A99, p100, k101, A103, p104, k105, A107, p108, k109, rfl, o102, o106, o110, hG⟩ a hk
   have hs := hs.call0k hG [11, 12, 13] rfl
   refine ssw 3 hs rfl rfl hk rfl rfl rfl rfl sz31 (by simp [Value.oneCell']) rfl fun w a hk hs => ?_
   show wpList _ _ _ [] _ _
   refine wpList_nil ?_
   refine hK96 _ _ ?_
   refine wp_ret ?_
   obtain rfl := Option.some.inj H
   exact fin hk _ [(.agg #[.slice A99 y97.Pos.length p100, .slice A103 y97.Stash.length p104, .slice A107 y97.Buckets.length p108])] rfl ⟨⟨_, rfl, run_loadN ag31 sz31 (box_cells hs (k := 3) rfl)⟩, trivial⟩ ⟨A99, p100, _, A103, p104, _, A107, p108, _, rfl, o102, o106, o110, (hs.pick [(0, 11), (1, 12), (2, 13), (3, 1)] rfl).dnil⟩

noncomputable def spec_OramOf.f (l0 : List Int) : Option (S_Oram) :=
  ((spec_l00Source.f l0).bind fun y4 => ((spec_l00Src_oram.f y4).bind fun y11 => (some y11.1)))
set_option maxRecDepth 100000 in
set_option maxHeartbeats 0 in
theorem spec_OramOf_t (w0 : World) (A0_ : Option Addr) (p0_ : Nat) (l0 : List Int) (k0_ : Chunk) (v0_ : View (Lay.int .u8) A0_ p0_ l0 k0_) (w0_ : Has w0 k0_) (r : S_Oram) (H : spec_OramOf.f l0 = some r) :
    Calls Try.prog 16 #[.slice A0_ l0.length p0_] w0 (Ret (fun v w => ∃ (A0 : Option Addr) (p0 : Nat) (k0 : Chunk), ∃ (A1 : Option Addr) (p1 : Nat) (k1 : Chunk), ∃ (A2 : Option Addr) (p2 : Nat) (k2 : Chunk), v = .agg #[.slice A0 r.Pos.length p0, .slice A1 r.Stash.length p1, .slice A2 r.Buckets.length p2] ∧ Own (Lay.int .i64) 3 A0 p0 r.Pos k0 ∧ Own L_Block 102 A1 p1 r.Stash k1 ∧ Own (Lay.sl L_Block 102) 28 A2 p2 r.Buckets k2 ∧ Sat [] w0 w [] [(0, k0), (1, k1), (2, k2)])) := by
  have hs : Sat [] w0 w0 [(1, k0_)] [] := Sat.init w0 [(1, k0_)] [] (by simp only [List.mem_cons, List.not_mem_nil, or_false]; rintro x (rfl) <;> assumption) (by simp) List.nodup_nil (by simp [blks])
  unfold spec_OramOf.f at H
  refine enter Try.func16 rfl Try.ntmps16 rfl fun a hk => ?_
  apply wp_seq_k; intro K1 hK1
  apply wp_region_lit
  refine salx 2 hs rfl hk rfl rfl ze31 rfl fun b2 w a hk hs => ?_
  show wpList _ _ _ [] _ _
  refine wpList_nil ?_
  refine hK1 _ _ ?_
  apply wp_seq_k; intro K3 hK3
  apply wp_region_lit
  refine sm _ rfl hk rfl rfl rfl fun a hk => ?_
  obtain ⟨y4, h5, H⟩ := bind_some H
  refine sc rfl en76 hk rfl rfl rfl (spec_l00Source_t _ A0_ p0_ l0 _ v0_ (hs.hasD (k := 1) rfl) _ h5) ?_
  rintro _ w ⟨b7, A8, p9, k6, rfl, v10, hG⟩ a hk
  have hs := hs.call0k hG [4, 3] rfl
  obtain ⟨y11, h12, H⟩ := bind_some H
  refine sc rfl en77 hk rfl rfl rfl (spec_l00Src_oram_t _ b7 y4 A8 p9 _ v10 (Has.app (hs.hasD (k := 1) rfl) (hs.hasG (k := 3) rfl)) (((hs.hand [(1, 4)] rfl).dcat 2005 (k := 1) (l := 3) rfl rfl).dpick [(2, 2005)] rfl) _ h12) ?_
  rintro _ w ⟨A13, p14, k15, A17, p18, k19, A21, p22, k23, rfl, o16, o20, o24, hG⟩ a hk
  have hs := hs.back [(1, 4)] rfl hG [6, 7, 8, 4] rfl
  refine ssw 2 hs rfl rfl hk rfl rfl rfl rfl sz31 (by simp [Value.oneCell']) rfl fun w a hk hs => ?_
  show wpList _ _ _ [] _ _
  refine wpList_nil ?_
  refine hK3 _ _ ?_
  refine wp_ret ?_
  obtain rfl := Option.some.inj H
  exact fin hk _ [(.agg #[.slice A13 y11.1.Pos.length p14, .slice A17 y11.1.Stash.length p18, .slice A21 y11.1.Buckets.length p22])] rfl ⟨⟨_, rfl, run_loadN ag31 sz31 (box_cells hs (k := 2) rfl)⟩, trivial⟩ ⟨A13, p14, _, A17, p18, _, A21, p22, _, rfl, o16, o20, o24, (hs.pick [(0, 6), (1, 7), (2, 8)] rfl).dnil⟩

noncomputable def laws_at.f (l0 : List Int) (x1 : Int) (x2 : Int) : Option (Int) :=
  (bif (decide (x2 ≤ 1)) then (some 0) else (bif ((l0.length : Int) == 0) then (if x2 = 0 then none else (some (Int.tmod (w64 (x1 * 7)) x2))) else (if (l0.length : Int) = 0 then none else (if 0 ≤ (Int.tmod x1 (l0.length : Int)) ∧ (Int.tmod x1 (l0.length : Int)) < (l0.length : Int) then (if (l0.length : Int) = 0 then none else (if 0 ≤ (Int.tmod (w64 (x1 + 1)) (l0.length : Int)) ∧ (Int.tmod (w64 (x1 + 1)) (l0.length : Int)) < (l0.length : Int) then (if (l0.length : Int) = 0 then none else (if x2 = 0 then none else (some (Int.tmod (w64 ((w64 ((w64 ((IntKind.wrap .i64 (l0.getD (Int.tmod x1 (l0.length : Int)).toNat 0)) * 31)) + (IntKind.wrap .i64 (l0.getD (Int.tmod (w64 (x1 + 1)) (l0.length : Int)).toNat 0)))) + (IntKind.wrap .i64 (Int.tdiv x1 (l0.length : Int))))) x2)))) else none)) else none))))
set_option maxRecDepth 100000 in
set_option maxHeartbeats 0 in
theorem laws_at_t (w0 : World) (A0_ : Option Addr) (p0_ : Nat) (l0 : List Int) (k0_ : Chunk) (v0_ : View (Lay.int .u8) A0_ p0_ l0 k0_) (w0_ : Has w0 k0_) (x1 : Int) (x2 : Int) (r : Int) (H : laws_at.f l0 x1 x2 = some r) :
    Calls Try.prog 17 #[.slice A0_ l0.length p0_, .int .i64 x1, .int .i64 x2] w0 (Ret (fun v w => v = .int .i64 r ∧ Sat [] w0 w [] [])) := by
  have hs : Sat [] w0 w0 [(1, k0_)] [] := Sat.init w0 [(1, k0_)] [] (by simp only [List.mem_cons, List.not_mem_nil, or_false]; rintro x (rfl) <;> assumption) (by simp) List.nodup_nil (by simp [blks])
  unfold laws_at.f at H
  refine enter Try.func17 rfl Try.ntmps17 rfl fun a hk => ?_
  apply wp_seq_k; intro K1 hK1
  apply wp_region_lit
  refine sa _ rfl hk rfl rfl rfl fun a hk => ?_
  show wpList _ _ _ [] _ _
  refine wpList_nil ?_
  refine hK1 _ _ ?_
  apply wp_seq_k; intro K2 hK2
  apply wp_seq_k; intro K3 hK3
  apply wp_region_lit
  refine sm _ rfl hk rfl rfl rfl fun a hk => ?_
  refine sv (.bool (decide (x2 ≤ 1))) hk rfl rfl rfl fun a hk => ?_
  show wpList _ _ _ [] _ _
  refine wpList_nil ?_
  refine hK3 _ _ ?_
  rcases cond_some H with ⟨c4, H⟩ | ⟨c4, H⟩
  ·have hk := hk.lit 8 c4 rfl
   refine cnd_true hk rfl rfl ?_
   apply wp_seq_k; intro K5 hK5
   apply wp_region_lit
   refine sa _ rfl hk rfl rfl rfl fun a hk => ?_
   show wpList _ _ _ [] _ _
   refine wpList_nil ?_
   refine hK5 _ _ ?_
   refine wp_ret ?_
   obtain rfl := Option.some.inj H
   exact fin hk _ [(.int .i64 0)] rfl ⟨rfl, trivial⟩ ⟨rfl, (hs.pick [] rfl).dnil⟩
  ·have hk := hk.lit 8 c4 rfl
   refine cnd_false hk rfl rfl ?_
   refine wp_skip ?_
   refine hK2 _ _ ?_
   apply wp_seq_k; intro K6 hK6
   apply wp_seq_k; intro K7 hK7
   apply wp_region_lit
   refine sm _ rfl hk rfl rfl rfl fun a hk => ?_
   refine sle rfl hk rfl rfl rfl un38 fun a hk => ?_
   refine sv (.bool ((l0.length : Int) == 0)) hk rfl rfl rfl fun a hk => ?_
   show wpList _ _ _ [] _ _
   refine wpList_nil ?_
   refine hK7 _ _ ?_
   have hs := hs.pick [] rfl
   rcases cond_some H with ⟨c8, H⟩ | ⟨c8, H⟩
   ·have hk := hk.lit 11 c8 rfl
    refine cnd_true hk rfl rfl ?_
    apply wp_seq_k; intro K9 hK9
    apply wp_region_lit
    refine sm _ rfl hk rfl rfl rfl fun a hk => ?_
    refine sv (.int .i64 (w64 (x1 * 7))) hk rfl rfl rfl fun a hk => ?_
    refine sm _ rfl hk rfl rfl rfl fun a hk => ?_
    rcases ite_some H with ⟨_, H⟩ | ⟨c10, H⟩
    ·cases H
    refine srm rfl hk rfl rfl rfl rfl c10 fun a hk => ?_
    refine sa _ rfl hk rfl rfl rfl fun a hk => ?_
    show wpList _ _ _ [] _ _
    refine wpList_nil ?_
    refine hK9 _ _ ?_
    refine wp_ret ?_
    obtain rfl := Option.some.inj H
    exact fin hk _ [(.int .i64 (Int.tmod (w64 (x1 * 7)) x2))] rfl ⟨rfl, trivial⟩ ⟨rfl, (hs.pick [] rfl).dnil⟩
   ·have hk := hk.lit 11 c8 rfl
    refine cnd_false hk rfl rfl ?_
    refine wp_skip ?_
    refine hK6 _ _ ?_
    apply wp_seq_k; intro K11 hK11
    refine wp_region_tree (.q 0 (.q 1 (.q 2 (.q 3 (.q 4 (.q 5 (.q 6 (.q 7 (.q 8 (.q 9 (.q 10 (.q 11 (.q 12 (.q 13 (.q 14 (.q 15 (.q 16 (.q 17 (.q 18 (.q 19 (.q 20 (.q 21 (.q 22 (.q 23 (.alt 24 (.alt 25 (.last 26) .stop) .stop))))))))))))))))))))))))) mo (by kernel_rfl) (hs.pick [] rfl) fun _ => ?_
    have hs := hs.drew
    refine tqst (.slice A0_ l0.length p0_) hk rfl rfl rfl rfl (fun w hs => sm _ rfl hk rfl rfl rfl fun a hk => qe hk) fun a hk => ?_
    refine tqst (.int .i64 x1) hk rfl rfl rfl rfl (fun w hs => sm _ rfl hk rfl rfl rfl fun a hk => qe hk) fun a hk => ?_
    refine tqst (.slice A0_ l0.length p0_) hk rfl rfl rfl rfl (fun w hs => sm _ rfl hk rfl rfl rfl fun a hk => qe hk) fun a hk => ?_
    refine tqst (.int .i64 (l0.length : Int)) hk rfl rfl rfl rfl (fun w hs => sle rfl hk rfl rfl rfl un38 fun a hk => qe hk) fun a hk => ?_
    rcases ite_some H with ⟨_, H⟩ | ⟨c13, H⟩
    ·cases H
    refine tqst (.int .i64 (Int.tmod x1 (l0.length : Int))) hk rfl rfl rfl rfl (fun w hs => srm rfl hk rfl rfl rfl rfl c13 fun a hk => qe hk) fun a hk => ?_
    rcases ite_some H with ⟨c14, H⟩ | ⟨_, H⟩
    rotate_left
    ·cases H
    obtain ⟨b15, q16, hAc14⟩ := (v0_).some_ (Int.tmod x1 (l0.length : Int)) c14.1 c14.2
    refine tqst (.pointer (some (padd A0_ ((Int.tmod x1 (l0.length : Int)).toNat * 1)))) hk rfl rfl rfl rfl (fun w hs => si rfl hk rfl rfl rfl rfl un38 sz5 c14.1 c14.2 hAc14 fun a hk => qe hk) fun a hk => ?_
    obtain ⟨_, rfl, e17⟩ := (v0_).at_ 0 (Int.tmod x1 (l0.length : Int)) c14.1 c14.2
    refine tqst (.int .u8 (l0.getD (Int.tmod x1 (l0.length : Int)).toNat 0)) hk rfl rfl rfl rfl (fun w hs => sl (v := (.int .u8 (l0.getD (Int.tmod x1 (l0.length : Int)).toNat 0))) rfl hk rfl rfl rfl ag5 ((e17 0 _ rfl).cell (hs.hasD (k := 1) rfl)) fun a hk => qe hk) fun a hk => ?_
    refine tqst (.int .i64 (IntKind.wrap .i64 (l0.getD (Int.tmod x1 (l0.length : Int)).toNat 0))) hk rfl rfl rfl rfl (fun w hs => scn rfl hk rfl rfl rfl un3 un5 fun a hk => qe hk) fun a hk => ?_
    refine tqst (.int .i64 (w64 ((IntKind.wrap .i64 (l0.getD (Int.tmod x1 (l0.length : Int)).toNat 0)) * 31))) hk rfl rfl rfl rfl (fun w hs => sv (.int .i64 (w64 ((IntKind.wrap .i64 (l0.getD (Int.tmod x1 (l0.length : Int)).toNat 0)) * 31))) hk rfl rfl rfl fun a hk => qe hk) fun a hk => ?_
    refine tqst (.slice A0_ l0.length p0_) hk rfl rfl rfl rfl (fun w hs => sm _ rfl hk rfl rfl rfl fun a hk => qe hk) fun a hk => ?_
    refine tqst (.int .i64 x1) hk rfl rfl rfl rfl (fun w hs => sm _ rfl hk rfl rfl rfl fun a hk => qe hk) fun a hk => ?_
    refine tqst (.int .i64 (w64 (x1 + 1))) hk rfl rfl rfl rfl (fun w hs => sv (.int .i64 (w64 (x1 + 1))) hk rfl rfl rfl fun a hk => qe hk) fun a hk => ?_
    refine tqst (.slice A0_ l0.length p0_) hk rfl rfl rfl rfl (fun w hs => sm _ rfl hk rfl rfl rfl fun a hk => qe hk) fun a hk => ?_
    refine tqst (.int .i64 (l0.length : Int)) hk rfl rfl rfl rfl (fun w hs => sle rfl hk rfl rfl rfl un38 fun a hk => qe hk) fun a hk => ?_
    rcases ite_some H with ⟨_, H⟩ | ⟨c18, H⟩
    ·cases H
    refine tqst (.int .i64 (Int.tmod (w64 (x1 + 1)) (l0.length : Int))) hk rfl rfl rfl rfl (fun w hs => srm rfl hk rfl rfl rfl rfl c18 fun a hk => qe hk) fun a hk => ?_
    rcases ite_some H with ⟨c19, H⟩ | ⟨_, H⟩
    rotate_left
    ·cases H
    obtain ⟨b20, q21, hAc19⟩ := (v0_).some_ (Int.tmod (w64 (x1 + 1)) (l0.length : Int)) c19.1 c19.2
    refine tqst (.pointer (some (padd A0_ ((Int.tmod (w64 (x1 + 1)) (l0.length : Int)).toNat * 1)))) hk rfl rfl rfl rfl (fun w hs => si rfl hk rfl rfl rfl rfl un38 sz5 c19.1 c19.2 hAc19 fun a hk => qe hk) fun a hk => ?_
    obtain ⟨_, rfl, e22⟩ := (v0_).at_ 0 (Int.tmod (w64 (x1 + 1)) (l0.length : Int)) c19.1 c19.2
    refine tqst (.int .u8 (l0.getD (Int.tmod (w64 (x1 + 1)) (l0.length : Int)).toNat 0)) hk rfl rfl rfl rfl (fun w hs => sl (v := (.int .u8 (l0.getD (Int.tmod (w64 (x1 + 1)) (l0.length : Int)).toNat 0))) rfl hk rfl rfl rfl ag5 ((e22 0 _ rfl).cell (hs.hasD (k := 1) rfl)) fun a hk => qe hk) fun a hk => ?_
    refine tqst (.int .i64 (IntKind.wrap .i64 (l0.getD (Int.tmod (w64 (x1 + 1)) (l0.length : Int)).toNat 0))) hk rfl rfl rfl rfl (fun w hs => scn rfl hk rfl rfl rfl un3 un5 fun a hk => qe hk) fun a hk => ?_
    refine tqst (.int .i64 (w64 ((w64 ((IntKind.wrap .i64 (l0.getD (Int.tmod x1 (l0.length : Int)).toNat 0)) * 31)) + (IntKind.wrap .i64 (l0.getD (Int.tmod (w64 (x1 + 1)) (l0.length : Int)).toNat 0))))) hk rfl rfl rfl rfl (fun w hs => sv (.int .i64 (w64 ((w64 ((IntKind.wrap .i64 (l0.getD (Int.tmod x1 (l0.length : Int)).toNat 0)) * 31)) + (IntKind.wrap .i64 (l0.getD (Int.tmod (w64 (x1 + 1)) (l0.length : Int)).toNat 0))))) hk rfl rfl rfl fun a hk => qe hk) fun a hk => ?_
    refine tqst (.int .i64 x1) hk rfl rfl rfl rfl (fun w hs => sm _ rfl hk rfl rfl rfl fun a hk => qe hk) fun a hk => ?_
    refine tqst (.slice A0_ l0.length p0_) hk rfl rfl rfl rfl (fun w hs => sm _ rfl hk rfl rfl rfl fun a hk => qe hk) fun a hk => ?_
    refine tqst (.int .i64 (l0.length : Int)) hk rfl rfl rfl rfl (fun w hs => sle rfl hk rfl rfl rfl un38 fun a hk => qe hk) fun a hk => ?_
    rcases ite_some H with ⟨_, H⟩ | ⟨c23, H⟩
    ·cases H
    refine tqst (.int .i64 (IntKind.wrap .i64 (Int.tdiv x1 (l0.length : Int)))) hk rfl rfl rfl rfl (fun w hs => sqo rfl hk rfl rfl rfl rfl c23 fun a hk => qe hk) fun a hk => ?_
    refine tqst (.int .i64 (w64 ((w64 ((w64 ((IntKind.wrap .i64 (l0.getD (Int.tmod x1 (l0.length : Int)).toNat 0)) * 31)) + (IntKind.wrap .i64 (l0.getD (Int.tmod (w64 (x1 + 1)) (l0.length : Int)).toNat 0)))) + (IntKind.wrap .i64 (Int.tdiv x1 (l0.length : Int)))))) hk rfl rfl rfl rfl (fun w hs => sv (.int .i64 (w64 ((w64 ((w64 ((IntKind.wrap .i64 (l0.getD (Int.tmod x1 (l0.length : Int)).toNat 0)) * 31)) + (IntKind.wrap .i64 (l0.getD (Int.tmod (w64 (x1 + 1)) (l0.length : Int)).toNat 0)))) + (IntKind.wrap .i64 (Int.tdiv x1 (l0.length : Int)))))) hk rfl rfl rfl fun a hk => qe hk) fun a hk => ?_
    refine tsst hk rfl rfl (fun K_r12_24 hK_r12_24 w hF => ?_) wt_stop
    have hs := hs.f hF
    refine sm _ rfl hk rfl rfl rfl fun a hk => ?_
    refine se (hs.pick [] rfl) hk (hK_r12_24 _ _ ?_)
    refine tsst hk rfl rfl (fun K_r12_25 hK_r12_25 w hF => ?_) wt_stop
    have hs := hs.f hF
    rcases ite_some H with ⟨_, H⟩ | ⟨c24, H⟩
    ·cases H
    refine srm rfl hk rfl rfl rfl rfl c24 fun a hk => ?_
    refine se (hs.pick [] rfl) hk (hK_r12_25 _ _ ?_)
    refine tlst hk rfl rfl fun K_r12_26 hK_r12_26 w hF => ?_
    have hs := hs.f hF
    refine sa _ rfl hk rfl rfl rfl fun a hk => ?_
    refine se trivial hk (hK_r12_26 _ _ fun w hF => ?_)
    have hs := hs.f hF
    refine hK11 _ _ ?_
    refine wp_ret ?_
    obtain rfl := Option.some.inj H
    exact fin hk _ [(.int .i64 (Int.tmod (w64 ((w64 ((w64 ((IntKind.wrap .i64 (l0.getD (Int.tmod x1 (l0.length : Int)).toNat 0)) * 31)) + (IntKind.wrap .i64 (l0.getD (Int.tmod (w64 (x1 + 1)) (l0.length : Int)).toNat 0)))) + (IntKind.wrap .i64 (Int.tdiv x1 (l0.length : Int))))) x2))] rfl ⟨rfl, trivial⟩ ⟨rfl, (hs.pick [] rfl).dnil⟩

noncomputable def laws_sameInts.s0 (l0 : List Int) (l1 : List Int) (u10 : Int) : Option ((Int) ⊕ Ex (Unit) (Bool)) :=
  (bif (decide (u10 < (l0.length : Int))) then (if 0 ≤ u10 ∧ u10 < (l0.length : Int) then (if 0 ≤ u10 ∧ u10 < (l1.length : Int) then (bif ((l0.getD u10.toNat 0) != (l1.getD u10.toNat 0)) then (some (.inr (.ret false))) else (some (.inl (w64 (u10 + 1))))) else none) else none) else (some (.inr (.out ()))))
noncomputable def laws_sameInts.f (l0 : List Int) (l1 : List Int) : Option (Bool) :=
  (bif ((l0.length : Int) != (l1.length : Int)) then (some false) else ((loopO (fun s => laws_sameInts.s0 l0 l1 s) 0).bind fun o => match o with | .out _ => (some true) | .ret r => (some r)))
set_option maxRecDepth 100000 in
set_option maxHeartbeats 0 in
theorem laws_sameInts_t (w0 : World) (A0_ : Option Addr) (p0_ : Nat) (l0 : List Int) (k0_ : Chunk) (v0_ : View (Lay.int .i64) A0_ p0_ l0 k0_) (w0_ : Has w0 k0_) (A1_ : Option Addr) (p1_ : Nat) (l1 : List Int) (k1_ : Chunk) (v1_ : View (Lay.int .i64) A1_ p1_ l1 k1_) (w1_ : Has w0 k1_) (r : Bool) (H : laws_sameInts.f l0 l1 = some r) :
    Calls Try.prog 78 #[.slice A0_ l0.length p0_, .slice A1_ l1.length p1_] w0 (Ret (fun v w => v = .bool r ∧ Sat [] w0 w [] [])) := by
  have hs : Sat [] w0 w0 [(1, k0_), (2, k1_)] [] := Sat.init w0 [(1, k0_), (2, k1_)] [] (by simp only [List.mem_cons, List.not_mem_nil, or_false]; rintro x (rfl | rfl) <;> assumption) (by simp) List.nodup_nil (by simp [blks])
  unfold laws_sameInts.f at H
  refine enter Try.func78 rfl Try.ntmps78 rfl fun a hk => ?_
  apply wp_seq_k; intro K1 hK1
  apply wp_region_lit
  refine sa _ rfl hk rfl rfl rfl fun a hk => ?_
  show wpList _ _ _ [] _ _
  refine wpList_nil ?_
  refine hK1 _ _ ?_
  apply wp_seq_k; intro K2 hK2
  apply wp_seq_k; intro K3 hK3
  apply wp_region_lit
  refine sm _ rfl hk rfl rfl rfl fun a hk => ?_
  refine sle rfl hk rfl rfl rfl un22 fun a hk => ?_
  refine sm _ rfl hk rfl rfl rfl fun a hk => ?_
  refine sle rfl hk rfl rfl rfl un22 fun a hk => ?_
  refine sv (.bool ((l0.length : Int) != (l1.length : Int))) hk rfl rfl rfl fun a hk => ?_
  show wpList _ _ _ [] _ _
  refine wpList_nil ?_
  refine hK3 _ _ ?_
  rcases cond_some H with ⟨c4, H⟩ | ⟨c4, H⟩
  ·have hk := hk.lit 10 c4 rfl
   refine cnd_true hk rfl rfl ?_
   apply wp_seq_k; intro K5 hK5
   apply wp_region_lit
   refine sa _ rfl hk rfl rfl rfl fun a hk => ?_
   show wpList _ _ _ [] _ _
   refine wpList_nil ?_
   refine hK5 _ _ ?_
   refine wp_ret ?_
   obtain rfl := Option.some.inj H
   exact fin hk _ [(.bool false)] rfl ⟨rfl, trivial⟩ ⟨rfl, (hs.pick [] rfl).dnil⟩
  ·have hk := hk.lit 10 c4 rfl
   refine cnd_false hk rfl rfl ?_
   refine wp_skip ?_
   refine hK2 _ _ ?_
   apply wp_seq_k; intro K6 hK6
   apply wp_seq_k; intro K7 hK7
   apply wp_region_lit
   refine sa _ rfl hk rfl rfl rfl fun a hk => ?_
   show wpList _ _ _ [] _ _
   refine wpList_nil ?_
   refine hK7 _ _ ?_
   have hs := hs.pick [] rfl
   obtain ⟨o11, h12, HL13⟩ := bind_some H
   clear H
   obtain ⟨R14, hR14⟩ : ∃ R : Act → World → Prop, R = fun a w => o11 = .out () ∧ Kn [] 26 a ∧ Sat [] w0 w [(1, k0_), (2, k1_)] [] := ⟨_, rfl⟩
   refine wp_cutq R14 ?_ ?_
   ·refine wp_block ?_
    obtain ⟨fu16, h12⟩ := loopO_some h12
    obtain ⟨I15, hI15⟩ : ∃ I : Nat → Act → World → Prop, I = fun fu a w => ∃ (u10 : Int), loopN (fun s => laws_sameInts.s0 l0 l1 s) fu u10 = some o11 ∧ Kn [(0, (.slice A0_ l0.length p0_)), (1, (.slice A1_ l1.length p1_)), (5, (.int .i64 u10))] 26 a ∧ Sat [] w0 w [(1, k0_), (2, k1_)] [] := ⟨_, rfl⟩
    refine wp_loop_ghost I15 fu16 ?_ ?_
    ·rw [hI15]
     exact ⟨0, h12, (hk.c 0 rfl (hk.c 1 rfl (hk.c 5 rfl hk.k))), (hs.pick [] rfl)⟩
    ·clear h12 hk hs
     intro fu16 a w hI0
     rw [hI15] at hI0
     obtain ⟨u10, hi, hk, hs⟩ := hI0
     obtain ⟨x17, H, h18⟩ := loop_round hi
     try dsimp only at H
     unfold laws_sameInts.s0 at H
     apply wp_seq_k; intro K19 hK19
     apply wp_seq_k; intro K20 hK20
     apply wp_region_lit
     refine sm _ rfl hk rfl rfl rfl fun a hk => ?_
     refine sm _ rfl hk rfl rfl rfl fun a hk => ?_
     refine sle rfl hk rfl rfl rfl un22 fun a hk => ?_
     refine sv (.bool (decide (u10 < (l0.length : Int)))) hk rfl rfl rfl fun a hk => ?_
     show wpList _ _ _ [] _ _
     refine wpList_nil ?_
     refine hK20 _ _ ?_
     rcases cond_some H with ⟨c21, H⟩ | ⟨c21, H⟩
     ·have hk := hk.lit 14 c21 rfl
      refine cnd_true hk rfl rfl ?_
      refine wp_skip ?_
      refine hK19 _ _ ?_
      apply wp_seq_k; intro K22 hK22
      refine wp_block ?_
      apply wp_seq_k; intro K23 hK23
      refine wp_region_tree (.q 0 (.q 1 (.q 2 (.q 3 (.q 4 (.alt 5 (.alt 6 (.alt 7 (.alt 8 .done .stop) .stop) .stop) .stop)))))) mo (by kernel_rfl) (hs.pick [] rfl) fun _ => ?_
      have hs := hs.drew
      refine tqst (.slice A0_ l0.length p0_) hk rfl rfl rfl rfl (fun w hs => sm _ rfl hk rfl rfl rfl fun a hk => qe hk) fun a hk => ?_
      refine tqst (.int .i64 u10) hk rfl rfl rfl rfl (fun w hs => sm _ rfl hk rfl rfl rfl fun a hk => qe hk) fun a hk => ?_
      rcases ite_some H with ⟨c25, H⟩ | ⟨_, H⟩
      rotate_left
      ·cases H
      obtain ⟨b26, q27, hAc25⟩ := (v0_).some_ u10 c25.1 c25.2
      refine tqst (.pointer (some (padd A0_ (u10.toNat * 1)))) hk rfl rfl rfl rfl (fun w hs => si rfl hk rfl rfl rfl rfl un22 sz3 c25.1 c25.2 hAc25 fun a hk => qe hk) fun a hk => ?_
      obtain ⟨_, rfl, e28⟩ := (v0_).at_ 0 u10 c25.1 c25.2
      refine tqst (.int .i64 (l0.getD u10.toNat 0)) hk rfl rfl rfl rfl (fun w hs => sl (v := (.int .i64 (l0.getD u10.toNat 0))) rfl hk rfl rfl rfl ag3 ((e28 0 _ rfl).cell (hs.hasD (k := 1) rfl)) fun a hk => qe hk) fun a hk => ?_
      refine tqst (.slice A1_ l1.length p1_) hk rfl rfl rfl rfl (fun w hs => sm _ rfl hk rfl rfl rfl fun a hk => qe hk) fun a hk => ?_
      refine tsst hk rfl rfl (fun K_r24_5 hK_r24_5 w hF => ?_) wt_stop
      have hs := hs.f hF
      refine sm _ rfl hk rfl rfl rfl fun a hk => ?_
      refine se (hs.pick [] rfl) hk (hK_r24_5 _ _ ?_)
      refine tsst hk rfl rfl (fun K_r24_6 hK_r24_6 w hF => ?_) wt_stop
      have hs := hs.f hF
      rcases ite_some H with ⟨c29, H⟩ | ⟨_, H⟩
      rotate_left
      ·cases H
      obtain ⟨b30, q31, hAc29⟩ := (v1_).some_ u10 c29.1 c29.2
      refine si rfl hk rfl rfl rfl rfl un22 sz3 c29.1 c29.2 hAc29 fun a hk => ?_
      refine se (hs.pick [] rfl) hk (hK_r24_6 _ _ ?_)
      refine tsst hk rfl rfl (fun K_r24_7 hK_r24_7 w hF => ?_) wt_stop
      have hs := hs.f hF
      obtain ⟨_, rfl, e32⟩ := (v1_).at_ 0 u10 c29.1 c29.2
      refine sl (v := (.int .i64 (l1.getD u10.toNat 0))) rfl hk rfl rfl rfl ag3 ((e32 0 _ rfl).cell (hs.hasD (k := 2) rfl)) fun a hk => ?_
      refine se (hs.pick [] rfl) hk (hK_r24_7 _ _ ?_)
      refine tsst hk rfl rfl (fun K_r24_8 hK_r24_8 w hF => ?_) wt_stop
      have hs := hs.f hF
      refine sv (.bool ((l0.getD u10.toNat 0) != (l1.getD u10.toNat 0))) hk rfl rfl rfl fun a hk => ?_
      refine se (hs.pick [] rfl) hk (hK_r24_8 _ _ ?_)
      refine wtl_nil fun w hF _ => ?_
      have hs := hs.f hF
      refine hK23 _ _ ?_
      rcases cond_some H with ⟨c33, H⟩ | ⟨c33, H⟩
      ·have hk := hk.lit 25 c33 rfl
       refine cnd_true hk rfl rfl ?_
       apply wp_seq_k; intro K34 hK34
       apply wp_region_lit
       refine sa _ rfl hk rfl rfl rfl fun a hk => ?_
       show wpList _ _ _ [] _ _
       refine wpList_nil ?_
       refine hK34 _ _ ?_
       have hs := hs.pick [] rfl
       refine wp_ret ?_
       obtain rfl := Option.some.inj H
       have ho11 := h18
       try dsimp only at ho11
       subst ho11
       have H := HL13
       try dsimp only at H
       obtain rfl := Option.some.inj H
       exact fin hk _ [(.bool false)] rfl ⟨rfl, trivial⟩ ⟨rfl, (hs.pick [] rfl).dnil⟩
      ·have hk := hk.lit 25 c33 rfl
       refine cnd_false hk rfl rfl ?_
       refine wp_skip ?_
       refine hK22 _ _ ?_
       have hs := hs.pick [] rfl
       apply wp_region_lit
       refine sm _ rfl hk rfl rfl rfl fun a hk => ?_
       refine sv (.int .i64 (w64 (u10 + 1))) hk rfl rfl rfl fun a hk => ?_
       refine sa _ rfl hk rfl rfl rfl fun a hk => ?_
       show wpList _ _ _ [] _ _
       refine wpList_nil ?_
       obtain rfl := Option.some.inj H
       obtain ⟨m35, hmm35, h18⟩ := h18
       show ∃ n', n' < _ ∧ I15 n' _ _
       refine ⟨m35, hmm35, ?_⟩
       rw [hI15]
       exact ⟨(w64 (u10 + 1)), h18, (hk.c 0 rfl (hk.c 1 rfl (hk.c 5 rfl hk.k))), (hs.pick [] rfl)⟩
     ·have hk := hk.lit 14 c21 rfl
      refine cnd_false hk rfl rfl ?_
      refine wp_exit ?_
      obtain rfl := Option.some.inj H
      show R14 _ _
      rw [hR14]
      exact ⟨h18.symm, hk.k, (hs.pick [] rfl)⟩
   ·intro a w hR0
    rw [hR14] at hR0
    obtain ⟨rfl, hk, hs⟩ := hR0
    have H := HL13
    try dsimp only at H
    refine hK6 _ _ ?_
    apply wp_seq_k; intro K36 hK36
    apply wp_region_lit
    refine sa _ rfl hk rfl rfl rfl fun a hk => ?_
    show wpList _ _ _ [] _ _
    refine wpList_nil ?_
    refine hK36 _ _ ?_
    refine wp_ret ?_
    obtain rfl := Option.some.inj H
    exact fin hk _ [(.bool true)] rfl ⟨rfl, trivial⟩ ⟨rfl, (hs.pick [] rfl).dnil⟩

noncomputable def laws_sameBlocks.s0 (l0 : List S_Block) (l1 : List S_Block) (u10 : Int) : Option ((Int) ⊕ Ex (Unit) (Bool)) :=
  (bif (decide (u10 < (l0.length : Int))) then (if 0 ≤ u10 ∧ u10 < (l0.length : Int) then (if 0 ≤ u10 ∧ u10 < (l1.length : Int) then (bif (!((((l0.getD u10.toNat z_Block).Id) == ((l1.getD u10.toNat z_Block).Id)) && ((((l0.getD u10.toNat z_Block).Leaf) == ((l1.getD u10.toNat z_Block).Leaf)) && ((((l0.getD u10.toNat z_Block).Value) == ((l1.getD u10.toNat z_Block).Value)) && true)))) then (some (.inr (.ret false))) else (some (.inl (w64 (u10 + 1))))) else none) else none) else (some (.inr (.out ()))))
noncomputable def laws_sameBlocks.f (l0 : List S_Block) (l1 : List S_Block) : Option (Bool) :=
  (bif ((l0.length : Int) != (l1.length : Int)) then (some false) else ((loopO (fun s => laws_sameBlocks.s0 l0 l1 s) 0).bind fun o => match o with | .out _ => (some true) | .ret r => (some r)))
set_option maxRecDepth 100000 in
set_option maxHeartbeats 0 in
theorem laws_sameBlocks_t (w0 : World) (A0_ : Option Addr) (p0_ : Nat) (l0 : List S_Block) (k0_ : Chunk) (v0_ : View L_Block A0_ p0_ l0 k0_) (w0_ : Has w0 k0_) (A1_ : Option Addr) (p1_ : Nat) (l1 : List S_Block) (k1_ : Chunk) (v1_ : View L_Block A1_ p1_ l1 k1_) (w1_ : Has w0 k1_) (r : Bool) (H : laws_sameBlocks.f l0 l1 = some r) :
    Calls Try.prog 79 #[.slice A0_ l0.length p0_, .slice A1_ l1.length p1_] w0 (Ret (fun v w => v = .bool r ∧ Sat [] w0 w [] [])) := by
  have hs : Sat [] w0 w0 [(1, k0_), (2, k1_)] [] := Sat.init w0 [(1, k0_), (2, k1_)] [] (by simp only [List.mem_cons, List.not_mem_nil, or_false]; rintro x (rfl | rfl) <;> assumption) (by simp) List.nodup_nil (by simp [blks])
  unfold laws_sameBlocks.f at H
  refine enter Try.func79 rfl Try.ntmps79 rfl fun a hk => ?_
  apply wp_seq_k; intro K1 hK1
  apply wp_region_lit
  refine sa _ rfl hk rfl rfl rfl fun a hk => ?_
  show wpList _ _ _ [] _ _
  refine wpList_nil ?_
  refine hK1 _ _ ?_
  apply wp_seq_k; intro K2 hK2
  apply wp_seq_k; intro K3 hK3
  apply wp_region_lit
  refine sm _ rfl hk rfl rfl rfl fun a hk => ?_
  refine sle rfl hk rfl rfl rfl un28 fun a hk => ?_
  refine sm _ rfl hk rfl rfl rfl fun a hk => ?_
  refine sle rfl hk rfl rfl rfl un28 fun a hk => ?_
  refine sv (.bool ((l0.length : Int) != (l1.length : Int))) hk rfl rfl rfl fun a hk => ?_
  show wpList _ _ _ [] _ _
  refine wpList_nil ?_
  refine hK3 _ _ ?_
  rcases cond_some H with ⟨c4, H⟩ | ⟨c4, H⟩
  ·have hk := hk.lit 10 c4 rfl
   refine cnd_true hk rfl rfl ?_
   apply wp_seq_k; intro K5 hK5
   apply wp_region_lit
   refine sa _ rfl hk rfl rfl rfl fun a hk => ?_
   show wpList _ _ _ [] _ _
   refine wpList_nil ?_
   refine hK5 _ _ ?_
   refine wp_ret ?_
   obtain rfl := Option.some.inj H
   exact fin hk _ [(.bool false)] rfl ⟨rfl, trivial⟩ ⟨rfl, (hs.pick [] rfl).dnil⟩
  ·have hk := hk.lit 10 c4 rfl
   refine cnd_false hk rfl rfl ?_
   refine wp_skip ?_
   refine hK2 _ _ ?_
   apply wp_seq_k; intro K6 hK6
   apply wp_seq_k; intro K7 hK7
   apply wp_region_lit
   refine sa _ rfl hk rfl rfl rfl fun a hk => ?_
   show wpList _ _ _ [] _ _
   refine wpList_nil ?_
   refine hK7 _ _ ?_
   have hs := hs.pick [] rfl
   obtain ⟨o11, h12, HL13⟩ := bind_some H
   clear H
   obtain ⟨R14, hR14⟩ : ∃ R : Act → World → Prop, R = fun a w => o11 = .out () ∧ Kn [] 26 a ∧ Sat [] w0 w [(1, k0_), (2, k1_)] [] := ⟨_, rfl⟩
   refine wp_cutq R14 ?_ ?_
   ·refine wp_block ?_
    obtain ⟨fu16, h12⟩ := loopO_some h12
    obtain ⟨I15, hI15⟩ : ∃ I : Nat → Act → World → Prop, I = fun fu a w => ∃ (u10 : Int), loopN (fun s => laws_sameBlocks.s0 l0 l1 s) fu u10 = some o11 ∧ Kn [(0, (.slice A0_ l0.length p0_)), (1, (.slice A1_ l1.length p1_)), (5, (.int .i64 u10))] 26 a ∧ Sat [] w0 w [(1, k0_), (2, k1_)] [] := ⟨_, rfl⟩
    refine wp_loop_ghost I15 fu16 ?_ ?_
    ·rw [hI15]
     exact ⟨0, h12, (hk.c 0 rfl (hk.c 1 rfl (hk.c 5 rfl hk.k))), (hs.pick [] rfl)⟩
    ·clear h12 hk hs
     intro fu16 a w hI0
     rw [hI15] at hI0
     obtain ⟨u10, hi, hk, hs⟩ := hI0
     obtain ⟨x17, H, h18⟩ := loop_round hi
     try dsimp only at H
     unfold laws_sameBlocks.s0 at H
     apply wp_seq_k; intro K19 hK19
     apply wp_seq_k; intro K20 hK20
     apply wp_region_lit
     refine sm _ rfl hk rfl rfl rfl fun a hk => ?_
     refine sm _ rfl hk rfl rfl rfl fun a hk => ?_
     refine sle rfl hk rfl rfl rfl un28 fun a hk => ?_
     refine sv (.bool (decide (u10 < (l0.length : Int)))) hk rfl rfl rfl fun a hk => ?_
     show wpList _ _ _ [] _ _
     refine wpList_nil ?_
     refine hK20 _ _ ?_
     rcases cond_some H with ⟨c21, H⟩ | ⟨c21, H⟩
     ·have hk := hk.lit 14 c21 rfl
      refine cnd_true hk rfl rfl ?_
      refine wp_skip ?_
      refine hK19 _ _ ?_
      apply wp_seq_k; intro K22 hK22
      refine wp_block ?_
      apply wp_seq_k; intro K23 hK23
      refine wp_region_tree (.q 0 (.q 1 (.q 2 (.q 3 (.q 4 (.alt 5 (.alt 6 (.alt 7 (.alt 8 .done .stop) .stop) .stop) .stop)))))) mo (by kernel_rfl) (hs.pick [] rfl) fun _ => ?_
      have hs := hs.drew
      refine tqst (.slice A0_ l0.length p0_) hk rfl rfl rfl rfl (fun w hs => sm _ rfl hk rfl rfl rfl fun a hk => qe hk) fun a hk => ?_
      refine tqst (.int .i64 u10) hk rfl rfl rfl rfl (fun w hs => sm _ rfl hk rfl rfl rfl fun a hk => qe hk) fun a hk => ?_
      rcases ite_some H with ⟨c25, H⟩ | ⟨_, H⟩
      rotate_left
      ·cases H
      obtain ⟨b26, q27, hAc25⟩ := (v0_).some_ u10 c25.1 c25.2
      refine tqst (.pointer (some (padd A0_ (u10.toNat * 3)))) hk rfl rfl rfl rfl (fun w hs => si rfl hk rfl rfl rfl rfl un28 sz102 c25.1 c25.2 hAc25 fun a hk => qe hk) fun a hk => ?_
      obtain ⟨_, rfl, e28⟩ := (v0_).at_ z_Block u10 c25.1 c25.2
      refine tqst (.agg #[.int .i64 ((l0.getD u10.toNat z_Block).Id), .int .i64 ((l0.getD u10.toNat z_Block).Leaf), .int .i64 ((l0.getD u10.toNat z_Block).Value)]) hk rfl rfl rfl rfl (fun w hs => sln [.int .i64 ((l0.getD u10.toNat z_Block).Id), .int .i64 ((l0.getD u10.toNat z_Block).Leaf), .int .i64 ((l0.getD u10.toNat z_Block).Value)] rfl hk rfl rfl rfl ag102 sz102 (cells_at e28 (hs.hasD (k := 1) rfl)) fun a hk => qe hk) fun a hk => ?_
      refine tqst (.slice A1_ l1.length p1_) hk rfl rfl rfl rfl (fun w hs => sm _ rfl hk rfl rfl rfl fun a hk => qe hk) fun a hk => ?_
      refine tsst hk rfl rfl (fun K_r24_5 hK_r24_5 w hF => ?_) wt_stop
      have hs := hs.f hF
      refine sm _ rfl hk rfl rfl rfl fun a hk => ?_
      refine se (hs.pick [] rfl) hk (hK_r24_5 _ _ ?_)
      refine tsst hk rfl rfl (fun K_r24_6 hK_r24_6 w hF => ?_) wt_stop
      have hs := hs.f hF
      rcases ite_some H with ⟨c29, H⟩ | ⟨_, H⟩
      rotate_left
      ·cases H
      obtain ⟨b30, q31, hAc29⟩ := (v1_).some_ u10 c29.1 c29.2
      refine si rfl hk rfl rfl rfl rfl un28 sz102 c29.1 c29.2 hAc29 fun a hk => ?_
      refine se (hs.pick [] rfl) hk (hK_r24_6 _ _ ?_)
      refine tsst hk rfl rfl (fun K_r24_7 hK_r24_7 w hF => ?_) wt_stop
      have hs := hs.f hF
      obtain ⟨_, rfl, e32⟩ := (v1_).at_ z_Block u10 c29.1 c29.2
      refine sln [.int .i64 ((l1.getD u10.toNat z_Block).Id), .int .i64 ((l1.getD u10.toNat z_Block).Leaf), .int .i64 ((l1.getD u10.toNat z_Block).Value)] rfl hk rfl rfl rfl ag102 sz102 (cells_at e32 (hs.hasD (k := 2) rfl)) fun a hk => ?_
      refine se (hs.pick [] rfl) hk (hK_r24_7 _ _ ?_)
      refine tsst hk rfl rfl (fun K_r24_8 hK_r24_8 w hF => ?_) wt_stop
      have hs := hs.f hF
      refine snea (r := ((((l0.getD u10.toNat z_Block).Id) == ((l1.getD u10.toNat z_Block).Id)) && ((((l0.getD u10.toNat z_Block).Leaf) == ((l1.getD u10.toNat z_Block).Leaf)) && ((((l0.getD u10.toNat z_Block).Value) == ((l1.getD u10.toNat z_Block).Value)) && true)))) rfl hk rfl rfl rfl rfl eg102 (eq_agg Try.underlying102 sh102 (eqf_cons rfl ag3 rfl rfl (run_equalIn_int _ _ _ _ _ _ _ un3) (eqf_cons rfl ag3 rfl rfl (run_equalIn_int _ _ _ _ _ _ _ un3) (eqf_cons rfl ag3 rfl rfl (run_equalIn_int _ _ _ _ _ _ _ un3) eqf_nil)))) fun a hk => ?_
      refine se (hs.pick [] rfl) hk (hK_r24_8 _ _ ?_)
      refine wtl_nil fun w hF _ => ?_
      have hs := hs.f hF
      refine hK23 _ _ ?_
      rcases cond_some H with ⟨c33, H⟩ | ⟨c33, H⟩
      ·have hk := hk.lit 25 c33 rfl
       refine cnd_true hk rfl rfl ?_
       apply wp_seq_k; intro K34 hK34
       apply wp_region_lit
       refine sa _ rfl hk rfl rfl rfl fun a hk => ?_
       show wpList _ _ _ [] _ _
       refine wpList_nil ?_
       refine hK34 _ _ ?_
       have hs := hs.pick [] rfl
       refine wp_ret ?_
       obtain rfl := Option.some.inj H
       have ho11 := h18
       try dsimp only at ho11
       subst ho11
       have H := HL13
       try dsimp only at H
       obtain rfl := Option.some.inj H
       exact fin hk _ [(.bool false)] rfl ⟨rfl, trivial⟩ ⟨rfl, (hs.pick [] rfl).dnil⟩
      ·have hk := hk.lit 25 c33 rfl
       refine cnd_false hk rfl rfl ?_
       refine wp_skip ?_
       refine hK22 _ _ ?_
       have hs := hs.pick [] rfl
       apply wp_region_lit
       refine sm _ rfl hk rfl rfl rfl fun a hk => ?_
       refine sv (.int .i64 (w64 (u10 + 1))) hk rfl rfl rfl fun a hk => ?_
       refine sa _ rfl hk rfl rfl rfl fun a hk => ?_
       show wpList _ _ _ [] _ _
       refine wpList_nil ?_
       obtain rfl := Option.some.inj H
       obtain ⟨m35, hmm35, h18⟩ := h18
       show ∃ n', n' < _ ∧ I15 n' _ _
       refine ⟨m35, hmm35, ?_⟩
       rw [hI15]
       exact ⟨(w64 (u10 + 1)), h18, (hk.c 0 rfl (hk.c 1 rfl (hk.c 5 rfl hk.k))), (hs.pick [] rfl)⟩
     ·have hk := hk.lit 14 c21 rfl
      refine cnd_false hk rfl rfl ?_
      refine wp_exit ?_
      obtain rfl := Option.some.inj H
      show R14 _ _
      rw [hR14]
      exact ⟨h18.symm, hk.k, (hs.pick [] rfl)⟩
   ·intro a w hR0
    rw [hR14] at hR0
    obtain ⟨rfl, hk, hs⟩ := hR0
    have H := HL13
    try dsimp only at H
    refine hK6 _ _ ?_
    apply wp_seq_k; intro K36 hK36
    apply wp_region_lit
    refine sa _ rfl hk rfl rfl rfl fun a hk => ?_
    show wpList _ _ _ [] _ _
    refine wpList_nil ?_
    refine hK36 _ _ ?_
    refine wp_ret ?_
    obtain rfl := Option.some.inj H
    exact fin hk _ [(.bool true)] rfl ⟨rfl, trivial⟩ ⟨rfl, (hs.pick [] rfl).dnil⟩

noncomputable def laws_sameOram.s0 (x0 : S_Oram) (x1 : S_Oram) (u24 : Int) : Option ((Int) ⊕ Ex (Unit) (Bool)) :=
  (bif (decide (u24 < (x0.Buckets.length : Int))) then (if 0 ≤ u24 ∧ u24 < (x0.Buckets.length : Int) then (if 0 ≤ u24 ∧ u24 < (x1.Buckets.length : Int) then ((laws_sameBlocks.f (x0.Buckets.getD u24.toNat []) (x1.Buckets.getD u24.toNat [])).bind fun y53 => (bif (!y53) then (some (.inr (.ret false))) else (some (.inl (w64 (u24 + 1)))))) else none) else none) else (some (.inr (.out ()))))
noncomputable def laws_sameOram.f (x0 : S_Oram) (x1 : S_Oram) : Option (Bool) :=
  ((((laws_sameInts.f x0.Pos x1.Pos).bind fun y12 => (bif (!y12) then (some true) else ((laws_sameBlocks.f x0.Stash x1.Stash).bind fun y15 => (bif (!y15) then (some true) else (some ((x0.Buckets.length : Int) != (x1.Buckets.length : Int))))))) : Option (Bool)).bind fun u7 => (bif u7 then (some false) else ((loopO (fun s => laws_sameOram.s0 x0 x1 s) 0).bind fun o => match o with | .out _ => (some true) | .ret r => (some r))))
set_option maxRecDepth 100000 in
set_option maxHeartbeats 0 in
theorem laws_sameOram_t (w0 : World) (x0 : S_Oram) (A0_0 : Option Addr) (p0_0 : Nat) (k0_0 : Chunk) (v0_0 : View (Lay.int .i64) A0_0 p0_0 x0.Pos k0_0) (w0_0 : Has w0 k0_0) (A0_1 : Option Addr) (p0_1 : Nat) (k0_1 : Chunk) (v0_1 : View L_Block A0_1 p0_1 x0.Stash k0_1) (w0_1 : Has w0 k0_1) (A0_2 : Option Addr) (p0_2 : Nat) (k0_2 : Chunk) (v0_2 : View (Lay.sl L_Block 102) A0_2 p0_2 x0.Buckets k0_2) (w0_2 : Has w0 k0_2) (x1 : S_Oram) (A1_0 : Option Addr) (p1_0 : Nat) (k1_0 : Chunk) (v1_0 : View (Lay.int .i64) A1_0 p1_0 x1.Pos k1_0) (w1_0 : Has w0 k1_0) (A1_1 : Option Addr) (p1_1 : Nat) (k1_1 : Chunk) (v1_1 : View L_Block A1_1 p1_1 x1.Stash k1_1) (w1_1 : Has w0 k1_1) (A1_2 : Option Addr) (p1_2 : Nat) (k1_2 : Chunk) (v1_2 : View (Lay.sl L_Block 102) A1_2 p1_2 x1.Buckets k1_2) (w1_2 : Has w0 k1_2) (r : Bool) (H : laws_sameOram.f x0 x1 = some r) :
    Calls Try.prog 18 #[.agg #[.slice A0_0 x0.Pos.length p0_0, .slice A0_1 x0.Stash.length p0_1, .slice A0_2 x0.Buckets.length p0_2], .agg #[.slice A1_0 x1.Pos.length p1_0, .slice A1_1 x1.Stash.length p1_1, .slice A1_2 x1.Buckets.length p1_2]] w0 (Ret (fun v w => v = .bool r ∧ Sat [] w0 w [] [])) := by
  have hs : Sat [] w0 w0 [(1, k0_0), (2, k0_1), (3, k0_2), (4, k1_0), (5, k1_1), (6, k1_2)] [] := Sat.init w0 [(1, k0_0), (2, k0_1), (3, k0_2), (4, k1_0), (5, k1_1), (6, k1_2)] [] (by simp only [List.mem_cons, List.not_mem_nil, or_false]; rintro x (rfl | rfl | rfl | rfl | rfl | rfl) <;> assumption) (by simp) List.nodup_nil (by simp [blks])
  unfold laws_sameOram.f at H
  refine enter Try.func18 rfl Try.ntmps18 rfl fun a hk => ?_
  apply wp_seq_k; intro K1 hK1
  apply wp_region_lit
  refine sbx 7 hs rfl hk rfl rfl rfl rfl fun b2 w a hk hs => ?_
  refine sbx 8 hs rfl hk rfl rfl rfl rfl fun b3 w a hk hs => ?_
  refine sa _ rfl hk rfl rfl rfl fun a hk => ?_
  show wpList _ _ _ [] _ _
  refine wpList_nil ?_
  refine hK1 _ _ ?_
  apply wp_seq_k; intro K4 hK4
  apply wp_seq_k; intro K5 hK5
  obtain ⟨o8, h9, HL10⟩ := bind_some H
  clear H
  obtain ⟨R11, hR11⟩ : ∃ R : Act → World → Prop, R = fun a w => ∃ (u7 : Bool), u7 = o8 ∧ Kn [(2, (.pointer (some ⟨b2, 0, none⟩))), (3, (.pointer (some ⟨b3, 0, none⟩))), (28, (.bool u7))] 48 a ∧ Sat [] w0 w [(1, k0_0), (2, k0_1), (3, k0_2), (4, k1_0), (5, k1_1), (6, k1_2)] [(7, [(b2, .cells #[.slice A0_0 x0.Pos.length p0_0, .slice A0_1 x0.Stash.length p0_1, .slice A0_2 x0.Buckets.length p0_2] 31 (0, 0))]), (8, [(b3, .cells #[.slice A1_0 x1.Pos.length p1_0, .slice A1_1 x1.Stash.length p1_1, .slice A1_2 x1.Buckets.length p1_2] 31 (0, 0))])] := ⟨_, rfl⟩
  refine wp_cutq R11 ?_ ?_
  ·have H := h9
   apply wp_region_lit
   refine sf ⟨b2, 0, none⟩ rfl hk rfl rfl rfl fd31_0 rfl fun a hk => ?_
   refine sl rfl hk rfl rfl rfl ag22 (box_cell hs (k := 7) rfl rfl) fun a hk => ?_
   refine sf ⟨b3, 0, none⟩ rfl hk rfl rfl rfl fd31_0 rfl fun a hk => ?_
   refine sl rfl hk rfl rfl rfl ag22 (box_cell hs (k := 8) rfl rfl) fun a hk => ?_
   obtain ⟨y12, h13, H⟩ := bind_some H
   refine sc rfl en78 hk rfl rfl rfl (laws_sameInts_t _ A0_0 p0_0 x0.Pos _ v0_0 (hs.hasD (k := 1) rfl) A1_0 p1_0 x1.Pos _ v1_0 (hs.hasD (k := 4) rfl) _ h13) ?_
   rintro _ w ⟨rfl, hG⟩ a hk
   have hs := hs.call0 hG
   refine sv (.bool (!y12)) hk rfl rfl rfl fun a hk => ?_
   refine sm _ rfl hk rfl rfl rfl fun a hk => ?_
   rcases cond_some H with ⟨c14, H⟩ | ⟨c14, H⟩
   ·have hk := hk.lit 12 c14 rfl
    refine sk hk rfl rfl rfl fun a hk => ?_
    refine sk hk rfl rfl rfl fun a hk => ?_
    refine sk hk rfl rfl rfl fun a hk => ?_
    refine sk hk rfl rfl rfl fun a hk => ?_
    refine sk hk rfl rfl rfl fun a hk => ?_
    refine sk hk rfl rfl rfl fun a hk => ?_
    refine sv (.bool true) hk rfl rfl rfl fun a hk => ?_
    refine sm _ rfl hk rfl rfl rfl fun a hk => ?_
    refine sk hk rfl rfl rfl fun a hk => ?_
    refine sk hk rfl rfl rfl fun a hk => ?_
    refine sk hk rfl rfl rfl fun a hk => ?_
    refine sk hk rfl rfl rfl fun a hk => ?_
    refine sk hk rfl rfl rfl fun a hk => ?_
    refine sk hk rfl rfl rfl fun a hk => ?_
    refine sk hk rfl rfl rfl fun a hk => ?_
    refine sv (.bool true) hk rfl rfl rfl fun a hk => ?_
    show wpList _ _ _ [] _ _
    refine wpList_nil ?_
    obtain rfl := Option.some.inj H
    show R11 _ _
    rw [hR11]
    exact ⟨true, rfl, (hk.c 2 rfl (hk.c 3 rfl (hk.c 28 rfl hk.k))), (hs.pick [(7, 7), (8, 8)] rfl)⟩
   ·have hk := hk.lit 12 c14 rfl
    refine sf ⟨b2, 1, none⟩ rfl hk rfl rfl rfl fd31_1 rfl fun a hk => ?_
    refine sl rfl hk rfl rfl rfl ag28 (box_cell hs (k := 7) rfl rfl) fun a hk => ?_
    refine sf ⟨b3, 1, none⟩ rfl hk rfl rfl rfl fd31_1 rfl fun a hk => ?_
    refine sl rfl hk rfl rfl rfl ag28 (box_cell hs (k := 8) rfl rfl) fun a hk => ?_
    obtain ⟨y15, h16, H⟩ := bind_some H
    refine sc rfl en79 hk rfl rfl rfl (laws_sameBlocks_t _ A0_1 p0_1 x0.Stash _ v0_1 (hs.hasD (k := 2) rfl) A1_1 p1_1 x1.Stash _ v1_1 (hs.hasD (k := 5) rfl) _ h16) ?_
    rintro _ w ⟨rfl, hG⟩ a hk
    have hs := hs.call0 hG
    refine sv (.bool (!y15)) hk rfl rfl rfl fun a hk => ?_
    refine sv (.bool (!y15)) hk rfl rfl rfl fun a hk => ?_
    refine sm _ rfl hk rfl rfl rfl fun a hk => ?_
    rcases cond_some H with ⟨c17, H⟩ | ⟨c17, H⟩
    ·have hk := hk.lit 20 c17 rfl
     refine sk hk rfl rfl rfl fun a hk => ?_
     refine sk hk rfl rfl rfl fun a hk => ?_
     refine sk hk rfl rfl rfl fun a hk => ?_
     refine sk hk rfl rfl rfl fun a hk => ?_
     refine sk hk rfl rfl rfl fun a hk => ?_
     refine sk hk rfl rfl rfl fun a hk => ?_
     refine sk hk rfl rfl rfl fun a hk => ?_
     refine sv (.bool true) hk rfl rfl rfl fun a hk => ?_
     show wpList _ _ _ [] _ _
     refine wpList_nil ?_
     obtain rfl := Option.some.inj H
     show R11 _ _
     rw [hR11]
     exact ⟨true, rfl, (hk.c 2 rfl (hk.c 3 rfl (hk.c 28 rfl hk.k))), (hs.pick [(7, 7), (8, 8)] rfl)⟩
    ·have hk := hk.lit 20 c17 rfl
     refine sf ⟨b2, 2, none⟩ rfl hk rfl rfl rfl fd31_2 rfl fun a hk => ?_
     refine sl rfl hk rfl rfl rfl ag29 (box_cell hs (k := 7) rfl rfl) fun a hk => ?_
     refine sle rfl hk rfl rfl rfl un29 fun a hk => ?_
     refine sf ⟨b3, 2, none⟩ rfl hk rfl rfl rfl fd31_2 rfl fun a hk => ?_
     refine sl rfl hk rfl rfl rfl ag29 (box_cell hs (k := 8) rfl rfl) fun a hk => ?_
     refine sle rfl hk rfl rfl rfl un29 fun a hk => ?_
     refine sv (.bool ((x0.Buckets.length : Int) != (x1.Buckets.length : Int))) hk rfl rfl rfl fun a hk => ?_
     refine sv (.bool ((x0.Buckets.length : Int) != (x1.Buckets.length : Int))) hk rfl rfl rfl fun a hk => ?_
     show wpList _ _ _ [] _ _
     refine wpList_nil ?_
     obtain rfl := Option.some.inj H
     show R11 _ _
     rw [hR11]
     exact ⟨((x0.Buckets.length : Int) != (x1.Buckets.length : Int)), rfl, (hk.c 2 rfl (hk.c 3 rfl (hk.c 28 rfl hk.k))), (hs.pick [(7, 7), (8, 8)] rfl)⟩
  ·intro a w hR0
   rw [hR11] at hR0
   obtain ⟨u7, rfl, hk, hs⟩ := hR0
   have H := HL10
   try dsimp only at H
   refine hK5 _ _ ?_
   rcases cond_some H with ⟨c18, H⟩ | ⟨c18, H⟩
   ·have hk := hk.lit 28 c18 rfl
    refine cnd_true hk rfl rfl ?_
    apply wp_seq_k; intro K19 hK19
    apply wp_region_lit
    refine sa _ rfl hk rfl rfl rfl fun a hk => ?_
    show wpList _ _ _ [] _ _
    refine wpList_nil ?_
    refine hK19 _ _ ?_
    refine wp_ret ?_
    obtain rfl := Option.some.inj H
    exact fin hk _ [(.bool false)] rfl ⟨rfl, trivial⟩ ⟨rfl, (hs.pick [] rfl).dnil⟩
   ·have hk := hk.lit 28 c18 rfl
    refine cnd_false hk rfl rfl ?_
    refine wp_skip ?_
    refine hK4 _ _ ?_
    apply wp_seq_k; intro K20 hK20
    apply wp_seq_k; intro K21 hK21
    apply wp_region_lit
    refine sa _ rfl hk rfl rfl rfl fun a hk => ?_
    show wpList _ _ _ [] _ _
    refine wpList_nil ?_
    refine hK21 _ _ ?_
    have hs := hs.pick [(7, 7), (8, 8)] rfl
    obtain ⟨o25, h26, HL27⟩ := bind_some H
    clear H
    obtain ⟨R28, hR28⟩ : ∃ R : Act → World → Prop, R = fun a w => o25 = .out () ∧ Kn [] 48 a ∧ Sat [] w0 w [(1, k0_0), (2, k0_1), (3, k0_2), (4, k1_0), (5, k1_1), (6, k1_2)] [] := ⟨_, rfl⟩
    refine wp_cutq R28 ?_ ?_
    ·refine wp_block ?_
     obtain ⟨fu30, h26⟩ := loopO_some h26
     obtain ⟨I29, hI29⟩ : ∃ I : Nat → Act → World → Prop, I = fun fu a w => ∃ (u24 : Int), loopN (fun s => laws_sameOram.s0 x0 x1 s) fu u24 = some o25 ∧ Kn [(2, (.pointer (some ⟨b2, 0, none⟩))), (3, (.pointer (some ⟨b3, 0, none⟩))), (5, (.int .i64 u24))] 48 a ∧ Sat [] w0 w [(1, k0_0), (2, k0_1), (3, k0_2), (4, k1_0), (5, k1_1), (6, k1_2)] [(7, [(b2, .cells #[.slice A0_0 x0.Pos.length p0_0, .slice A0_1 x0.Stash.length p0_1, .slice A0_2 x0.Buckets.length p0_2] 31 (0, 0))]), (8, [(b3, .cells #[.slice A1_0 x1.Pos.length p1_0, .slice A1_1 x1.Stash.length p1_1, .slice A1_2 x1.Buckets.length p1_2] 31 (0, 0))])] := ⟨_, rfl⟩
     refine wp_loop_ghost I29 fu30 ?_ ?_
     ·rw [hI29]
      exact ⟨0, h26, (hk.c 2 rfl (hk.c 3 rfl (hk.c 5 rfl hk.k))), (hs.pick [(7, 7), (8, 8)] rfl)⟩
     ·clear h26 hk hs
      intro fu30 a w hI0
      rw [hI29] at hI0
      obtain ⟨u24, hi, hk, hs⟩ := hI0
      obtain ⟨x31, H, h32⟩ := loop_round hi
      try dsimp only at H
      unfold laws_sameOram.s0 at H
      apply wp_seq_k; intro K33 hK33
      apply wp_seq_k; intro K34 hK34
      apply wp_region_lit
      refine sm _ rfl hk rfl rfl rfl fun a hk => ?_
      refine sf ⟨b2, 2, none⟩ rfl hk rfl rfl rfl fd31_2 rfl fun a hk => ?_
      refine sl rfl hk rfl rfl rfl ag29 (box_cell hs (k := 7) rfl rfl) fun a hk => ?_
      refine sle rfl hk rfl rfl rfl un29 fun a hk => ?_
      refine sv (.bool (decide (u24 < (x0.Buckets.length : Int)))) hk rfl rfl rfl fun a hk => ?_
      show wpList _ _ _ [] _ _
      refine wpList_nil ?_
      refine hK34 _ _ ?_
      rcases cond_some H with ⟨c35, H⟩ | ⟨c35, H⟩
      ·have hk := hk.lit 33 c35 rfl
       refine cnd_true hk rfl rfl ?_
       refine wp_skip ?_
       refine hK33 _ _ ?_
       apply wp_seq_k; intro K36 hK36
       refine wp_block ?_
       apply wp_seq_k; intro K37 hK37
       refine wp_region_tree (.q 0 (.q 1 (.q 2 (.q 3 (.q 4 (.q 5 (.q 6 (.alt 7 (.alt 8 (.alt 9 (.alt 10 (.alt 11 .done .stop) .stop) .stop) .stop) .stop)))))))) mo (by kernel_rfl) (hs.pick [(7, 7), (8, 8)] rfl) fun _ => ?_
       have hs := hs.drew
       refine tqst (.pointer (some ⟨b2, 2, none⟩)) hk rfl rfl rfl rfl (fun w hs => sf ⟨b2, 2, none⟩ rfl hk rfl rfl rfl fd31_2 rfl fun a hk => qe hk) fun a hk => ?_
       refine tqst (.slice A0_2 x0.Buckets.length p0_2) hk rfl rfl rfl rfl (fun w hs => sl rfl hk rfl rfl rfl ag29 (box_cell hs (k := 7) rfl rfl) fun a hk => qe hk) fun a hk => ?_
       refine tqst (.int .i64 u24) hk rfl rfl rfl rfl (fun w hs => sm _ rfl hk rfl rfl rfl fun a hk => qe hk) fun a hk => ?_
       rcases ite_some H with ⟨c39, H⟩ | ⟨_, H⟩
       rotate_left
       ·cases H
       obtain ⟨b40, q41, hAc39⟩ := (v0_2).some_ u24 c39.1 c39.2
       refine tqst (.pointer (some (padd A0_2 (u24.toNat * 1)))) hk rfl rfl rfl rfl (fun w hs => si rfl hk rfl rfl rfl rfl un29 sz28 c39.1 c39.2 hAc39 fun a hk => qe hk) fun a hk => ?_
       obtain ⟨_, ⟨_, rfl, A43, p44, rfl, v45⟩, e42⟩ := (v0_2).at_ [] u24 c39.1 c39.2
       refine tqst (.slice A43 (x0.Buckets.getD u24.toNat []).length p44) hk rfl rfl rfl rfl (fun w hs => sl (v := (.slice A43 (x0.Buckets.getD u24.toNat []).length p44)) rfl hk rfl rfl rfl ag28 ((e42 0 _ rfl).cell (hs.hasD (k := 3) rfl)) fun a hk => qe hk) fun a hk => ?_
       refine tqst (.pointer (some ⟨b3, 2, none⟩)) hk rfl rfl rfl rfl (fun w hs => sf ⟨b3, 2, none⟩ rfl hk rfl rfl rfl fd31_2 rfl fun a hk => qe hk) fun a hk => ?_
       refine tqst (.slice A1_2 x1.Buckets.length p1_2) hk rfl rfl rfl rfl (fun w hs => sl rfl hk rfl rfl rfl ag29 (box_cell hs (k := 8) rfl rfl) fun a hk => qe hk) fun a hk => ?_
       refine tsst hk rfl rfl (fun K_r38_7 hK_r38_7 w hF => ?_) wt_stop
       have hs := hs.f hF
       refine sm _ rfl hk rfl rfl rfl fun a hk => ?_
       refine se (hs.pick [(7, 7), (8, 8)] rfl) hk (hK_r38_7 _ _ ?_)
       refine tsst hk rfl rfl (fun K_r38_8 hK_r38_8 w hF => ?_) wt_stop
       have hs := hs.f hF
       rcases ite_some H with ⟨c46, H⟩ | ⟨_, H⟩
       rotate_left
       ·cases H
       obtain ⟨b47, q48, hAc46⟩ := (v1_2).some_ u24 c46.1 c46.2
       refine si rfl hk rfl rfl rfl rfl un29 sz28 c46.1 c46.2 hAc46 fun a hk => ?_
       refine se (hs.pick [(7, 7), (8, 8)] rfl) hk (hK_r38_8 _ _ ?_)
       refine tsst hk rfl rfl (fun K_r38_9 hK_r38_9 w hF => ?_) wt_stop
       have hs := hs.f hF
       obtain ⟨_, ⟨_, rfl, A50, p51, rfl, v52⟩, e49⟩ := (v1_2).at_ [] u24 c46.1 c46.2
       refine sl (v := (.slice A50 (x1.Buckets.getD u24.toNat []).length p51)) rfl hk rfl rfl rfl ag28 ((e49 0 _ rfl).cell (hs.hasD (k := 6) rfl)) fun a hk => ?_
       refine se (hs.pick [(7, 7), (8, 8)] rfl) hk (hK_r38_9 _ _ ?_)
       refine tsst hk rfl rfl (fun K_r38_10 hK_r38_10 w hF => ?_) wt_stop
       have hs := hs.f hF
       obtain ⟨y53, h54, H⟩ := bind_some H
       refine sc rfl en79 hk rfl rfl rfl (laws_sameBlocks_t _ A43 p44 (x0.Buckets.getD u24.toNat []) _ v45 (hs.hasD (k := 3) rfl) A50 p51 (x1.Buckets.getD u24.toNat []) _ v52 (hs.hasD (k := 6) rfl) _ h54) ?_
       rintro _ w ⟨rfl, hG⟩ a hk
       have hs := hs.call0 hG
       refine se (hs.pick [(7, 7), (8, 8)] rfl) hk (hK_r38_10 _ _ ?_)
       refine tsst hk rfl rfl (fun K_r38_11 hK_r38_11 w hF => ?_) wt_stop
       have hs := hs.f hF
       refine sv (.bool (!y53)) hk rfl rfl rfl fun a hk => ?_
       refine se (hs.pick [(7, 7), (8, 8)] rfl) hk (hK_r38_11 _ _ ?_)
       refine wtl_nil fun w hF _ => ?_
       have hs := hs.f hF
       refine hK37 _ _ ?_
       rcases cond_some H with ⟨c55, H⟩ | ⟨c55, H⟩
       ·have hk := hk.lit 47 c55 rfl
        refine cnd_true hk rfl rfl ?_
        apply wp_seq_k; intro K56 hK56
        apply wp_region_lit
        refine sa _ rfl hk rfl rfl rfl fun a hk => ?_
        show wpList _ _ _ [] _ _
        refine wpList_nil ?_
        refine hK56 _ _ ?_
        have hs := hs.pick [] rfl
        refine wp_ret ?_
        obtain rfl := Option.some.inj H
        have ho25 := h32
        try dsimp only at ho25
        subst ho25
        have H := HL27
        try dsimp only at H
        obtain rfl := Option.some.inj H
        exact fin hk _ [(.bool false)] rfl ⟨rfl, trivial⟩ ⟨rfl, (hs.pick [] rfl).dnil⟩
       ·have hk := hk.lit 47 c55 rfl
        refine cnd_false hk rfl rfl ?_
        refine wp_skip ?_
        refine hK36 _ _ ?_
        have hs := hs.pick [(7, 7), (8, 8)] rfl
        apply wp_region_lit
        refine sm _ rfl hk rfl rfl rfl fun a hk => ?_
        refine sv (.int .i64 (w64 (u24 + 1))) hk rfl rfl rfl fun a hk => ?_
        refine sa _ rfl hk rfl rfl rfl fun a hk => ?_
        show wpList _ _ _ [] _ _
        refine wpList_nil ?_
        obtain rfl := Option.some.inj H
        obtain ⟨m57, hmm57, h32⟩ := h32
        show ∃ n', n' < _ ∧ I29 n' _ _
        refine ⟨m57, hmm57, ?_⟩
        rw [hI29]
        exact ⟨(w64 (u24 + 1)), h32, (hk.c 2 rfl (hk.c 3 rfl (hk.c 5 rfl hk.k))), (hs.pick [(7, 7), (8, 8)] rfl)⟩
      ·have hk := hk.lit 33 c35 rfl
       refine cnd_false hk rfl rfl ?_
       refine wp_exit ?_
       obtain rfl := Option.some.inj H
       show R28 _ _
       rw [hR28]
       exact ⟨h32.symm, hk.k, (hs.pick [] rfl)⟩
    ·intro a w hR0
     rw [hR28] at hR0
     obtain ⟨rfl, hk, hs⟩ := hR0
     have H := HL27
     try dsimp only at H
     refine hK20 _ _ ?_
     apply wp_seq_k; intro K58 hK58
     apply wp_region_lit
     refine sa _ rfl hk rfl rfl rfl fun a hk => ?_
     show wpList _ _ _ [] _ _
     refine wpList_nil ?_
     refine hK58 _ _ ?_
     refine wp_ret ?_
     obtain rfl := Option.some.inj H
     exact fin hk _ [(.bool true)] rfl ⟨rfl, trivial⟩ ⟨rfl, (hs.pick [] rfl).dnil⟩

noncomputable def impl_idCode.f (x0 : S_Oram) (x1 : Int) : Option (Int) :=
  ((impl_OramOK.f x0).bind fun y5 => (bif (!y5) then (some 1) else ((impl_isId.f x1).bind fun y10 => (bif (!y10) then (some 4) else (some 0)))))
set_option maxRecDepth 100000 in
set_option maxHeartbeats 0 in
theorem impl_idCode_t (w0 : World) (x0 : S_Oram) (A0_0 : Option Addr) (p0_0 : Nat) (k0_0 : Chunk) (v0_0 : View (Lay.int .i64) A0_0 p0_0 x0.Pos k0_0) (w0_0 : Has w0 k0_0) (A0_1 : Option Addr) (p0_1 : Nat) (k0_1 : Chunk) (v0_1 : View L_Block A0_1 p0_1 x0.Stash k0_1) (w0_1 : Has w0 k0_1) (A0_2 : Option Addr) (p0_2 : Nat) (k0_2 : Chunk) (v0_2 : View (Lay.sl L_Block 102) A0_2 p0_2 x0.Buckets k0_2) (w0_2 : Has w0 k0_2) (x1 : Int) (r : Int) (H : impl_idCode.f x0 x1 = some r) :
    Calls Try.prog 86 #[.agg #[.slice A0_0 x0.Pos.length p0_0, .slice A0_1 x0.Stash.length p0_1, .slice A0_2 x0.Buckets.length p0_2], .int .i64 x1] w0 (Ret (fun v w => v = .int .i64 r ∧ Sat [] w0 w [] [])) := by
  have hs : Sat [] w0 w0 [(1, k0_0), (2, k0_1), (3, k0_2)] [] := Sat.init w0 [(1, k0_0), (2, k0_1), (3, k0_2)] [] (by simp only [List.mem_cons, List.not_mem_nil, or_false]; rintro x (rfl | rfl | rfl) <;> assumption) (by simp) List.nodup_nil (by simp [blks])
  unfold impl_idCode.f at H
  refine enter Try.func86 rfl Try.ntmps86 rfl fun a hk => ?_
  apply wp_seq_k; intro K1 hK1
  apply wp_region_lit
  refine sbx 4 hs rfl hk rfl rfl rfl rfl fun b2 w a hk hs => ?_
  refine sa _ rfl hk rfl rfl rfl fun a hk => ?_
  show wpList _ _ _ [] _ _
  refine wpList_nil ?_
  refine hK1 _ _ ?_
  apply wp_seq_k; intro K3 hK3
  refine wp_block ?_
  apply wp_seq_k; intro K4 hK4
  apply wp_region_lit
  refine sln [.slice A0_0 x0.Pos.length p0_0, .slice A0_1 x0.Stash.length p0_1, .slice A0_2 x0.Buckets.length p0_2] rfl hk rfl rfl rfl ag31 sz31 (box_cells hs (k := 4) rfl) fun a hk => ?_
  obtain ⟨y5, h6, H⟩ := bind_some H
  refine sc rfl en19 hk rfl rfl rfl (impl_OramOK_t _ x0 A0_0 p0_0 _ v0_0 (hs.hasD (k := 1) rfl) A0_1 p0_1 _ v0_1 (hs.hasD (k := 2) rfl) A0_2 p0_2 _ v0_2 (hs.hasD (k := 3) rfl) _ h6) ?_
  rintro _ w ⟨rfl, hG⟩ a hk
  have hs := hs.call0 hG
  refine sv (.bool (!y5)) hk rfl rfl rfl fun a hk => ?_
  refine sa _ rfl hk rfl rfl rfl fun a hk => ?_
  show wpList _ _ _ [] _ _
  refine wpList_nil ?_
  refine hK4 _ _ ?_
  rcases cond_some H with ⟨c7, H⟩ | ⟨c7, H⟩
  ·have hk := hk.lit 5 c7 rfl
   refine cnd_true hk rfl rfl ?_
   apply wp_seq_k; intro K8 hK8
   apply wp_region_lit
   refine sa _ rfl hk rfl rfl rfl fun a hk => ?_
   show wpList _ _ _ [] _ _
   refine wpList_nil ?_
   refine hK8 _ _ ?_
   refine wp_ret ?_
   obtain rfl := Option.some.inj H
   exact fin hk _ [(.int .i64 1)] rfl ⟨rfl, trivial⟩ ⟨rfl, (hs.pick [] rfl).dnil⟩
  ·have hk := hk.lit 5 c7 rfl
   refine cnd_false hk rfl rfl ?_
   apply wp_seq_k; intro K9 hK9
   apply wp_region_lit
   refine sm _ rfl hk rfl rfl rfl fun a hk => ?_
   obtain ⟨y10, h11, H⟩ := bind_some H
   refine sc rfl en63 hk rfl rfl rfl (impl_isId_t _ x1 _ h11) ?_
   rintro _ w ⟨rfl, hG⟩ a hk
   have hs := hs.call0 hG
   refine sv (.bool (!y10)) hk rfl rfl rfl fun a hk => ?_
   refine sa _ rfl hk rfl rfl rfl fun a hk => ?_
   show wpList _ _ _ [] _ _
   refine wpList_nil ?_
   refine hK9 _ _ ?_
   rcases cond_some H with ⟨c12, H⟩ | ⟨c12, H⟩
   ·have hk := hk.lit 9 c12 rfl
    refine cnd_true hk rfl rfl ?_
    apply wp_seq_k; intro K13 hK13
    apply wp_region_lit
    refine sa _ rfl hk rfl rfl rfl fun a hk => ?_
    show wpList _ _ _ [] _ _
    refine wpList_nil ?_
    refine hK13 _ _ ?_
    have hs := hs.pick [] rfl
    refine wp_ret ?_
    obtain rfl := Option.some.inj H
    exact fin hk _ [(.int .i64 4)] rfl ⟨rfl, trivial⟩ ⟨rfl, (hs.pick [] rfl).dnil⟩
   ·have hk := hk.lit 9 c12 rfl
    refine cnd_false hk rfl rfl ?_
    refine wp_skip ?_
    refine hK3 _ _ ?_
    have hs := hs.pick [] rfl
    apply wp_seq_k; intro K14 hK14
    apply wp_region_lit
    refine sa _ rfl hk rfl rfl rfl fun a hk => ?_
    show wpList _ _ _ [] _ _
    refine wpList_nil ?_
    refine hK14 _ _ ?_
    refine wp_ret ?_
    obtain rfl := Option.some.inj H
    exact fin hk _ [(.int .i64 0)] rfl ⟨rfl, trivial⟩ ⟨rfl, (hs.pick [] rfl).dnil⟩

noncomputable def impl_Oram_valueAt.s0 (x1 : Int) (y5 : (List S_Block)) (u13 : Int) : Option ((Int) ⊕ Ex (Unit) (Int)) :=
  (bif (decide (u13 < (y5.length : Int))) then (if 0 ≤ u13 ∧ u13 < (y5.length : Int) then (bif (((y5.getD u13.toNat z_Block).Id) == x1) then (some (.inr (.ret ((y5.getD u13.toNat z_Block).Value)))) else (some (.inl (w64 (u13 + 1))))) else none) else (some (.inr (.out ()))))
noncomputable def impl_Oram_valueAt.f (x0 : S_Oram) (x1 : Int) : Option (Int) :=
  ((impl_Oram_all.f x0).bind fun y5 => ((loopO (fun s => impl_Oram_valueAt.s0 x1 y5 s) 0).bind fun o => match o with | .out _ => (some 0) | .ret r => (some r)))
set_option maxRecDepth 100000 in
set_option maxHeartbeats 0 in
theorem impl_Oram_valueAt_t (w0 : World) (x0 : S_Oram) (A0_0 : Option Addr) (p0_0 : Nat) (k0_0 : Chunk) (v0_0 : View (Lay.int .i64) A0_0 p0_0 x0.Pos k0_0) (w0_0 : Has w0 k0_0) (A0_1 : Option Addr) (p0_1 : Nat) (k0_1 : Chunk) (v0_1 : View L_Block A0_1 p0_1 x0.Stash k0_1) (w0_1 : Has w0 k0_1) (A0_2 : Option Addr) (p0_2 : Nat) (k0_2 : Chunk) (v0_2 : View (Lay.sl L_Block 102) A0_2 p0_2 x0.Buckets k0_2) (w0_2 : Has w0 k0_2) (x1 : Int) (r : Int) (H : impl_Oram_valueAt.f x0 x1 = some r) :
    Calls Try.prog 87 #[.agg #[.slice A0_0 x0.Pos.length p0_0, .slice A0_1 x0.Stash.length p0_1, .slice A0_2 x0.Buckets.length p0_2], .int .i64 x1] w0 (Ret (fun v w => v = .int .i64 r ∧ Sat [] w0 w [] [])) := by
  have hs : Sat [] w0 w0 [(1, k0_0), (2, k0_1), (3, k0_2)] [] := Sat.init w0 [(1, k0_0), (2, k0_1), (3, k0_2)] [] (by simp only [List.mem_cons, List.not_mem_nil, or_false]; rintro x (rfl | rfl | rfl) <;> assumption) (by simp) List.nodup_nil (by simp [blks])
  unfold impl_Oram_valueAt.f at H
  refine enter Try.func87 rfl Try.ntmps87 rfl fun a hk => ?_
  apply wp_seq_k; intro K1 hK1
  apply wp_region_lit
  refine sbx 4 hs rfl hk rfl rfl rfl rfl fun b2 w a hk hs => ?_
  refine sa _ rfl hk rfl rfl rfl fun a hk => ?_
  show wpList _ _ _ [] _ _
  refine wpList_nil ?_
  refine hK1 _ _ ?_
  apply wp_seq_k; intro K3 hK3
  apply wp_seq_k; intro K4 hK4
  apply wp_region_lit
  refine sln [.slice A0_0 x0.Pos.length p0_0, .slice A0_1 x0.Stash.length p0_1, .slice A0_2 x0.Buckets.length p0_2] rfl hk rfl rfl rfl ag31 sz31 (box_cells hs (k := 4) rfl) fun a hk => ?_
  obtain ⟨y5, h6, H⟩ := bind_some H
  refine sc rfl en84 hk rfl rfl rfl (impl_Oram_all_t _ x0 A0_0 p0_0 _ v0_0 (hs.hasD (k := 1) rfl) A0_1 p0_1 _ v0_1 (hs.hasD (k := 2) rfl) A0_2 p0_2 _ v0_2 (hs.hasD (k := 3) rfl) _ h6) ?_
  rintro _ w ⟨A7, p8, k9, rfl, o10, hG⟩ a hk
  have hs := hs.call0k hG [5] rfl
  refine sle rfl hk rfl rfl rfl un28 fun a hk => ?_
  refine sm _ rfl hk rfl rfl rfl fun a hk => ?_
  show wpList _ _ _ [] _ _
  refine wpList_nil ?_
  refine hK4 _ _ ?_
  obtain ⟨o14, h15, HL16⟩ := bind_some H
  clear H
  obtain ⟨R17, hR17⟩ : ∃ R : Act → World → Prop, R = fun a w => o14 = .out () ∧ Kn [] 21 a ∧ Sat [] w0 w [(1, k0_0), (2, k0_1), (3, k0_2)] [] := ⟨_, rfl⟩
  refine wp_cutq R17 ?_ ?_
  ·refine wp_block ?_
   obtain ⟨fu19, h15⟩ := loopO_some h15
   obtain ⟨I18, hI18⟩ : ∃ I : Nat → Act → World → Prop, I = fun fu a w => ∃ (u13 : Int), loopN (fun s => impl_Oram_valueAt.s0 x1 y5 s) fu u13 = some o14 ∧ Kn [(1, (.int .i64 x1)), (8, (.slice A7 y5.length p8)), (9, (.int .i64 (y5.length : Int))), (10, (.int .i64 u13))] 21 a ∧ Sat [] w0 w [(1, k0_0), (2, k0_1), (3, k0_2)] [(5, k9)] := ⟨_, rfl⟩
   refine wp_loop_ghost I18 fu19 ?_ ?_
   ·rw [hI18]
    exact ⟨0, h15, (hk.c 1 rfl (hk.c 8 rfl (hk.c 9 rfl (hk.c 10 rfl hk.k)))), (hs.pick [(5, 5)] rfl)⟩
   ·clear h15 hk hs
    intro fu19 a w hI0
    rw [hI18] at hI0
    obtain ⟨u13, hi, hk, hs⟩ := hI0
    obtain ⟨x20, H, h21⟩ := loop_round hi
    try dsimp only at H
    unfold impl_Oram_valueAt.s0 at H
    apply wp_seq_k; intro K22 hK22
    apply wp_region_lit
    refine sv (.bool (decide (u13 < (y5.length : Int)))) hk rfl rfl rfl fun a hk => ?_
    show wpList _ _ _ [] _ _
    refine wpList_nil ?_
    refine hK22 _ _ ?_
    apply wp_seq_k; intro K23 hK23
    rcases cond_some H with ⟨c24, H⟩ | ⟨c24, H⟩
    ·have hk := hk.lit 11 c24 rfl
     refine cnd_true hk rfl rfl ?_
     refine wp_skip ?_
     refine hK23 _ _ ?_
     have hs := hs.pick [(5, 5)] rfl
     apply wp_seq_k; intro K25 hK25
     refine wp_block ?_
     apply wp_seq_k; intro K26 hK26
     apply wp_region_lit
     rcases ite_some H with ⟨c27, H⟩ | ⟨_, H⟩
     rotate_left
     ·cases H
     obtain ⟨b28, q29, hAc27⟩ := (o10.view).some_ u13 c27.1 c27.2
     refine si rfl hk rfl rfl rfl rfl un28 sz102 c27.1 c27.2 hAc27 fun a hk => ?_
     obtain ⟨_, rfl, e30⟩ := (o10.view).at_ z_Block u13 c27.1 c27.2
     refine sln [.int .i64 ((y5.getD u13.toNat z_Block).Id), .int .i64 ((y5.getD u13.toNat z_Block).Leaf), .int .i64 ((y5.getD u13.toNat z_Block).Value)] rfl hk rfl rfl rfl ag102 sz102 (cells_at e30 (hs.hasG (k := 5) rfl)) fun a hk => ?_
     refine salx 7 hs rfl hk rfl rfl ze102 rfl fun b31 w a hk hs => ?_
     refine ssw 7 hs rfl rfl hk rfl rfl rfl rfl sz102 (by simp [Value.oneCell']) rfl fun w a hk hs => ?_
     show wpList _ _ _ [] _ _
     refine wpList_nil ?_
     refine hK26 _ _ ?_
     apply wp_seq_k; intro K32 hK32
     apply wp_region_lit
     refine sf ⟨b31, 0, none⟩ rfl hk rfl rfl rfl fd102_0 rfl fun a hk => ?_
     refine sl rfl hk rfl rfl rfl ag3 (box_cell hs (k := 7) rfl rfl) fun a hk => ?_
     refine sm _ rfl hk rfl rfl rfl fun a hk => ?_
     refine sv (.bool (((y5.getD u13.toNat z_Block).Id) == x1)) hk rfl rfl rfl fun a hk => ?_
     show wpList _ _ _ [] _ _
     refine wpList_nil ?_
     refine hK32 _ _ ?_
     rcases cond_some H with ⟨c33, H⟩ | ⟨c33, H⟩
     ·have hk := hk.lit 17 c33 rfl
      refine cnd_true hk rfl rfl ?_
      apply wp_seq_k; intro K34 hK34
      apply wp_region_lit
      refine sf ⟨b31, 2, none⟩ rfl hk rfl rfl rfl fd102_2 rfl fun a hk => ?_
      refine sl rfl hk rfl rfl rfl ag3 (box_cell hs (k := 7) rfl rfl) fun a hk => ?_
      refine sa _ rfl hk rfl rfl rfl fun a hk => ?_
      show wpList _ _ _ [] _ _
      refine wpList_nil ?_
      refine hK34 _ _ ?_
      refine wp_ret ?_
      obtain rfl := Option.some.inj H
      have ho14 := h21
      try dsimp only at ho14
      subst ho14
      have H := HL16
      try dsimp only at H
      obtain rfl := Option.some.inj H
      exact fin hk _ [(.int .i64 ((y5.getD u13.toNat z_Block).Value))] rfl ⟨rfl, trivial⟩ ⟨rfl, (hs.pick [] rfl).dnil⟩
     ·have hk := hk.lit 17 c33 rfl
      refine cnd_false hk rfl rfl ?_
      refine wp_skip ?_
      refine hK25 _ _ ?_
      apply wp_region_lit
      refine sv (.int .i64 (w64 (u13 + 1))) hk rfl rfl rfl fun a hk => ?_
      refine sm _ rfl hk rfl rfl rfl fun a hk => ?_
      show wpList _ _ _ [] _ _
      refine wpList_nil ?_
      obtain rfl := Option.some.inj H
      obtain ⟨m35, hmm35, h21⟩ := h21
      show ∃ n', n' < _ ∧ I18 n' _ _
      refine ⟨m35, hmm35, ?_⟩
      rw [hI18]
      exact ⟨(w64 (u13 + 1)), h21, (hk.c 1 rfl (hk.c 8 rfl (hk.c 9 rfl (hk.c 10 rfl hk.k)))), (hs.pick [(5, 5)] rfl)⟩
    ·have hk := hk.lit 11 c24 rfl
     refine cnd_false hk rfl rfl ?_
     refine wp_exit ?_
     obtain rfl := Option.some.inj H
     show R17 _ _
     rw [hR17]
     exact ⟨h21.symm, hk.k, (hs.pick [] rfl)⟩
  ·intro a w hR0
   rw [hR17] at hR0
   obtain ⟨rfl, hk, hs⟩ := hR0
   have H := HL16
   try dsimp only at H
   refine hK3 _ _ ?_
   apply wp_seq_k; intro K36 hK36
   apply wp_region_lit
   refine sa _ rfl hk rfl rfl rfl fun a hk => ?_
   show wpList _ _ _ [] _ _
   refine wpList_nil ?_
   refine hK36 _ _ ?_
   have hs := hs.pick [] rfl
   refine wp_ret ?_
   obtain rfl := Option.some.inj H
   exact fin hk _ [(.int .i64 0)] rfl ⟨rfl, trivial⟩ ⟨rfl, (hs.pick [] rfl).dnil⟩

noncomputable def impl_ValueAt.f (x0 : S_Oram) (x1 : Int) : Option (Int × Int) :=
  ((impl_idCode.f x0 x1).bind fun y5 => (bif (y5 != 0) then (some (0, y5)) else ((impl_Oram_valueAt.f x0 x1).bind fun y11 => (some (y11, 0)))))
set_option maxRecDepth 100000 in
set_option maxHeartbeats 0 in
theorem impl_ValueAt_t (w0 : World) (x0 : S_Oram) (A0_0 : Option Addr) (p0_0 : Nat) (k0_0 : Chunk) (v0_0 : View (Lay.int .i64) A0_0 p0_0 x0.Pos k0_0) (w0_0 : Has w0 k0_0) (A0_1 : Option Addr) (p0_1 : Nat) (k0_1 : Chunk) (v0_1 : View L_Block A0_1 p0_1 x0.Stash k0_1) (w0_1 : Has w0 k0_1) (A0_2 : Option Addr) (p0_2 : Nat) (k0_2 : Chunk) (v0_2 : View (Lay.sl L_Block 102) A0_2 p0_2 x0.Buckets k0_2) (w0_2 : Has w0 k0_2) (x1 : Int) (r : Int × Int) (H : impl_ValueAt.f x0 x1 = some r) :
    Calls Try.prog 20 #[.agg #[.slice A0_0 x0.Pos.length p0_0, .slice A0_1 x0.Stash.length p0_1, .slice A0_2 x0.Buckets.length p0_2], .int .i64 x1] w0 (Ret (fun v w => v = .tuple #[.int .i64 r.1, .int .i64 r.2] ∧ Sat [] w0 w [] [])) := by
  have hs : Sat [] w0 w0 [(1, k0_0), (2, k0_1), (3, k0_2)] [] := Sat.init w0 [(1, k0_0), (2, k0_1), (3, k0_2)] [] (by simp only [List.mem_cons, List.not_mem_nil, or_false]; rintro x (rfl | rfl | rfl) <;> assumption) (by simp) List.nodup_nil (by simp [blks])
  unfold impl_ValueAt.f at H
  refine enter Try.func20 rfl Try.ntmps20 rfl fun a hk => ?_
  apply wp_seq_k; intro K1 hK1
  apply wp_region_lit
  refine sbx 4 hs rfl hk rfl rfl rfl rfl fun b2 w a hk hs => ?_
  refine sa _ rfl hk rfl rfl rfl fun a hk => ?_
  refine sa _ rfl hk rfl rfl rfl fun a hk => ?_
  show wpList _ _ _ [] _ _
  refine wpList_nil ?_
  refine hK1 _ _ ?_
  apply wp_seq_k; intro K3 hK3
  apply wp_seq_k; intro K4 hK4
  apply wp_region_lit
  refine sln [.slice A0_0 x0.Pos.length p0_0, .slice A0_1 x0.Stash.length p0_1, .slice A0_2 x0.Buckets.length p0_2] rfl hk rfl rfl rfl ag31 sz31 (box_cells hs (k := 4) rfl) fun a hk => ?_
  refine sm _ rfl hk rfl rfl rfl fun a hk => ?_
  obtain ⟨y5, h6, H⟩ := bind_some H
  refine sc rfl en86 hk rfl rfl rfl (impl_idCode_t _ x0 A0_0 p0_0 _ v0_0 (hs.hasD (k := 1) rfl) A0_1 p0_1 _ v0_1 (hs.hasD (k := 2) rfl) A0_2 p0_2 _ v0_2 (hs.hasD (k := 3) rfl) x1 _ h6) ?_
  rintro _ w ⟨rfl, hG⟩ a hk
  have hs := hs.call0 hG
  refine sa _ rfl hk rfl rfl rfl fun a hk => ?_
  show wpList _ _ _ [] _ _
  refine wpList_nil ?_
  refine hK4 _ _ ?_
  apply wp_seq_k; intro K7 hK7
  apply wp_region_lit
  refine sm _ rfl hk rfl rfl rfl fun a hk => ?_
  refine sv (.bool (y5 != 0)) hk rfl rfl rfl fun a hk => ?_
  show wpList _ _ _ [] _ _
  refine wpList_nil ?_
  refine hK7 _ _ ?_
  rcases cond_some H with ⟨c8, H⟩ | ⟨c8, H⟩
  ·have hk := hk.lit 11 c8 rfl
   refine cnd_true hk rfl rfl ?_
   apply wp_seq_k; intro K9 hK9
   apply wp_region_lit
   refine sm _ rfl hk rfl rfl rfl fun a hk => ?_
   refine sa _ rfl hk rfl rfl rfl fun a hk => ?_
   refine sa _ rfl hk rfl rfl rfl fun a hk => ?_
   show wpList _ _ _ [] _ _
   refine wpList_nil ?_
   refine hK9 _ _ ?_
   have hs := hs.pick [] rfl
   refine wp_ret ?_
   obtain rfl := Option.some.inj H
   exact fin hk _ [(.int .i64 0), (.int .i64 y5)] rfl ⟨rfl, ⟨rfl, trivial⟩⟩ ⟨rfl, (hs.pick [] rfl).dnil⟩
  ·have hk := hk.lit 11 c8 rfl
   refine cnd_false hk rfl rfl ?_
   refine wp_skip ?_
   refine hK3 _ _ ?_
   have hs := hs.pick [(4, 4)] rfl
   apply wp_seq_k; intro K10 hK10
   apply wp_region_lit
   refine sln [.slice A0_0 x0.Pos.length p0_0, .slice A0_1 x0.Stash.length p0_1, .slice A0_2 x0.Buckets.length p0_2] rfl hk rfl rfl rfl ag31 sz31 (box_cells hs (k := 4) rfl) fun a hk => ?_
   refine sm _ rfl hk rfl rfl rfl fun a hk => ?_
   obtain ⟨y11, h12, H⟩ := bind_some H
   refine sc rfl en87 hk rfl rfl rfl (impl_Oram_valueAt_t _ x0 A0_0 p0_0 _ v0_0 (hs.hasD (k := 1) rfl) A0_1 p0_1 _ v0_1 (hs.hasD (k := 2) rfl) A0_2 p0_2 _ v0_2 (hs.hasD (k := 3) rfl) x1 _ h12) ?_
   rintro _ w ⟨rfl, hG⟩ a hk
   have hs := hs.call0 hG
   refine sa _ rfl hk rfl rfl rfl fun a hk => ?_
   refine sa _ rfl hk rfl rfl rfl fun a hk => ?_
   show wpList _ _ _ [] _ _
   refine wpList_nil ?_
   refine hK10 _ _ ?_
   refine wp_ret ?_
   obtain rfl := Option.some.inj H
   exact fin hk _ [(.int .i64 y11), (.int .i64 0)] rfl ⟨rfl, ⟨rfl, trivial⟩⟩ ⟨rfl, (hs.pick [] rfl).dnil⟩

noncomputable def impl_WhereIs_c1.f (x0 : S_Block) (x1 : Int) : Option (Bool) :=
  (some (x0.Id == x1))
set_option maxRecDepth 100000 in
set_option maxHeartbeats 0 in
theorem impl_WhereIs_c1_t (w0 : World) (x0 : S_Block) (b1_ : Nat) (x1 : Int) (h1_ : Has w0 [(b1_, .cells #[.int .i64 x1] 3 (0, 0))]) (r : Bool) (H : impl_WhereIs_c1.f x0 x1 = some r) :
    Calls Try.prog 88 #[.agg #[.int .i64 x0.Id, .int .i64 x0.Leaf, .int .i64 x0.Value], .pointer (some ⟨b1_, 0, none⟩)] w0 (Ret (fun v w => v = .bool r ∧ Sat [] w0 w [] [])) := by
  have hs : Sat [] w0 w0 [(1, [(b1_, .cells #[.int .i64 x1] 3 (0, 0))])] [] := Sat.init w0 [(1, [(b1_, .cells #[.int .i64 x1] 3 (0, 0))])] [] (by simp only [List.mem_cons, List.not_mem_nil, or_false]; rintro x (rfl) <;> assumption) (by simp) List.nodup_nil (by simp [blks])
  unfold impl_WhereIs_c1.f at H
  refine enter Try.func88 rfl Try.ntmps88 rfl fun a hk => ?_
  apply wp_seq_k; intro K1 hK1
  apply wp_region_lit
  refine sbx 2 hs rfl hk rfl rfl rfl rfl fun b2 w a hk hs => ?_
  refine sa _ rfl hk rfl rfl rfl fun a hk => ?_
  show wpList _ _ _ [] _ _
  refine wpList_nil ?_
  refine hK1 _ _ ?_
  apply wp_seq_k; intro K3 hK3
  apply wp_region_lit
  refine sf ⟨b2, 0, none⟩ rfl hk rfl rfl rfl fd102_0 rfl fun a hk => ?_
  refine sl rfl hk rfl rfl rfl ag3 (box_cell hs (k := 2) rfl rfl) fun a hk => ?_
  refine sl rfl hk rfl rfl rfl ag3 (box_cellD hs (k := 1) rfl rfl) fun a hk => ?_
  refine sv (.bool (x0.Id == x1)) hk rfl rfl rfl fun a hk => ?_
  refine sa _ rfl hk rfl rfl rfl fun a hk => ?_
  show wpList _ _ _ [] _ _
  refine wpList_nil ?_
  refine hK3 _ _ ?_
  refine wp_ret ?_
  obtain rfl := Option.some.inj H
  exact fin hk _ [(.bool (x0.Id == x1))] rfl ⟨rfl, trivial⟩ ⟨rfl, (hs.pick [] rfl).dnil⟩

noncomputable def slices_IndexFunc_impl_Block_impl_Block_L.s0 (l0 : List (List S_Block)) (q1 : (List S_Block) → Option (Bool)) (u6 : Int) : Option ((Int) ⊕ Ex (Unit) (Int)) :=
  (bif (decide (u6 < (l0.length : Int))) then (if 0 ≤ u6 ∧ u6 < (l0.length : Int) then ((q1 (l0.getD u6.toNat [])).bind fun y28 => (bif y28 then (some (.inr (.ret u6))) else (some (.inl (w64 (u6 + 1)))))) else none) else (some (.inr (.out ()))))
noncomputable def slices_IndexFunc_impl_Block_impl_Block_L.f (l0 : List (List S_Block)) (q1 : (List S_Block) → Option (Bool)) : Option (Int) :=
  ((loopO (fun s => slices_IndexFunc_impl_Block_impl_Block_L.s0 l0 q1 s) 0).bind fun o => match o with | .out _ => (some (-1)) | .ret r => (some r))
set_option maxRecDepth 100000 in
set_option maxHeartbeats 0 in
theorem slices_IndexFunc_impl_Block_impl_Block_L_t (w0 : World) (A0_ : Option Addr) (p0_ : Nat) (l0 : List (List S_Block)) (k0_ : Chunk) (v0_ : View (Lay.sl L_Block 102) A0_ p0_ l0 k0_) (w0_ : Has w0 k0_) (f1_ : FuncId) (c1_ : List Value) (e1_ : Enters Try.prog f1_) (q1 : (List S_Block) → Option (Bool)) (k1_ : Chunk) (t1_ : ∀ w, Has w k1_ → ∀ (z0A : Option Addr) (z0p : Nat) (z0 : List S_Block) (z0k : Chunk) (z0v : View L_Block z0A z0p z0 z0k) (z0w : Has w z0k) (r : Bool), q1 z0 = some r → Calls Try.prog f1_ (([.slice z0A z0.length z0p] : List Value) ++ c1_).toArray w (Ret (fun v w2 => v = .bool r ∧ Sat [] w w2 [] []))) (w1_ : Has w0 k1_) (r : Int) (H : slices_IndexFunc_impl_Block_impl_Block_L.f l0 q1 = some r) :
    Calls Try.prog 90 #[.slice A0_ l0.length p0_, .func (.func f1_) #[] c1_.toArray] w0 (Ret (fun v w => v = .int .i64 r ∧ Sat [] w0 w [] [])) := by
  have hs : Sat [] w0 w0 [(1, k0_), (2, k1_)] [] := Sat.init w0 [(1, k0_), (2, k1_)] [] (by simp only [List.mem_cons, List.not_mem_nil, or_false]; rintro x (rfl | rfl) <;> assumption) (by simp) List.nodup_nil (by simp [blks])
  unfold slices_IndexFunc_impl_Block_impl_Block_L.f at H
  refine enter Try.func90 rfl Try.ntmps90 rfl fun a hk => ?_
  apply wp_seq_k; intro K1 hK1
  apply wp_region_lit
  refine sa _ rfl hk rfl rfl rfl fun a hk => ?_
  show wpList _ _ _ [] _ _
  refine wpList_nil ?_
  refine hK1 _ _ ?_
  apply wp_seq_k; intro K2 hK2
  apply wp_seq_k; intro K3 hK3
  apply wp_region_lit
  refine sm _ rfl hk rfl rfl rfl fun a hk => ?_
  refine sle rfl hk rfl rfl rfl un29 fun a hk => ?_
  refine sm _ rfl hk rfl rfl rfl fun a hk => ?_
  show wpList _ _ _ [] _ _
  refine wpList_nil ?_
  refine hK3 _ _ ?_
  obtain ⟨o7, h8, HL9⟩ := bind_some H
  clear H
  obtain ⟨R10, hR10⟩ : ∃ R : Act → World → Prop, R = fun a w => o7 = .out () ∧ Kn [] 19 a ∧ Sat [] w0 w [(1, k0_), (2, k1_)] [] := ⟨_, rfl⟩
  refine wp_cutq R10 ?_ ?_
  ·refine wp_block ?_
   obtain ⟨fu12, h8⟩ := loopO_some h8
   obtain ⟨I11, hI11⟩ : ∃ I : Nat → Act → World → Prop, I = fun fu a w => ∃ (u6 : Int), loopN (fun s => slices_IndexFunc_impl_Block_impl_Block_L.s0 l0 q1 s) fu u6 = some o7 ∧ Kn [(0, (.slice A0_ l0.length p0_)), (1, (.func (.func f1_) #[] c1_.toArray)), (7, (.int .i64 (l0.length : Int))), (8, (.int .i64 u6))] 19 a ∧ Sat [] w0 w [(1, k0_), (2, k1_)] [] := ⟨_, rfl⟩
   refine wp_loop_ghost I11 fu12 ?_ ?_
   ·rw [hI11]
    exact ⟨0, h8, (hk.c 0 rfl (hk.c 1 rfl (hk.c 7 rfl (hk.c 8 rfl hk.k)))), (hs.pick [] rfl)⟩
   ·clear h8 hk hs
    intro fu12 a w hI0
    rw [hI11] at hI0
    obtain ⟨u6, hi, hk, hs⟩ := hI0
    obtain ⟨x13, H, h14⟩ := loop_round hi
    try dsimp only at H
    unfold slices_IndexFunc_impl_Block_impl_Block_L.s0 at H
    apply wp_seq_k; intro K15 hK15
    apply wp_region_lit
    refine sv (.bool (decide (u6 < (l0.length : Int)))) hk rfl rfl rfl fun a hk => ?_
    show wpList _ _ _ [] _ _
    refine wpList_nil ?_
    refine hK15 _ _ ?_
    apply wp_seq_k; intro K16 hK16
    rcases cond_some H with ⟨c17, H⟩ | ⟨c17, H⟩
    ·have hk := hk.lit 9 c17 rfl
     refine cnd_true hk rfl rfl ?_
     refine wp_skip ?_
     refine hK16 _ _ ?_
     have hs := hs.pick [] rfl
     apply wp_seq_k; intro K18 hK18
     refine wp_block ?_
     apply wp_seq_k; intro K19 hK19
     apply wp_region_lit
     refine sm _ rfl hk rfl rfl rfl fun a hk => ?_
     refine sa _ rfl hk rfl rfl rfl fun a hk => ?_
     show wpList _ _ _ [] _ _
     refine wpList_nil ?_
     refine hK19 _ _ ?_
     apply wp_seq_k; intro K20 hK20
     apply wp_region_lit
     refine sm _ rfl hk rfl rfl rfl fun a hk => ?_
     refine sm _ rfl hk rfl rfl rfl fun a hk => ?_
     refine sm _ rfl hk rfl rfl rfl fun a hk => ?_
     rcases ite_some H with ⟨c21, H⟩ | ⟨_, H⟩
     rotate_left
     ·cases H
     obtain ⟨b22, q23, hAc21⟩ := (v0_).some_ u6 c21.1 c21.2
     refine si rfl hk rfl rfl rfl rfl un29 sz28 c21.1 c21.2 hAc21 fun a hk => ?_
     obtain ⟨_, ⟨_, rfl, A25, p26, rfl, v27⟩, e24⟩ := (v0_).at_ [] u6 c21.1 c21.2
     refine sl (v := (.slice A25 (l0.getD u6.toNat []).length p26)) rfl hk rfl rfl rfl ag28 ((e24 0 _ rfl).cell (hs.hasD (k := 1) rfl)) fun a hk => ?_
     obtain ⟨y28, h29, H⟩ := bind_some H
     refine scv (vs := ([(.slice A25 (l0.getD u6.toNat []).length p26)] : List Value) ++ c1_) rfl rfl e1_ hk rfl rfl rfl (t1_ _ (hs.hasD (k := 2) rfl) A25 p26 (l0.getD u6.toNat []) _ v27 (hs.hasD (k := 1) rfl) _ h29) ?_
     rintro _ w ⟨rfl, hG⟩ a hk
     have hs := hs.call0 hG
     show wpList _ _ _ [] _ _
     refine wpList_nil ?_
     refine hK20 _ _ ?_
     rcases cond_some H with ⟨c30, H⟩ | ⟨c30, H⟩
     ·have hk := hk.lit 16 c30 rfl
      refine cnd_true hk rfl rfl ?_
      apply wp_seq_k; intro K31 hK31
      apply wp_region_lit
      refine sm _ rfl hk rfl rfl rfl fun a hk => ?_
      refine sa _ rfl hk rfl rfl rfl fun a hk => ?_
      show wpList _ _ _ [] _ _
      refine wpList_nil ?_
      refine hK31 _ _ ?_
      refine wp_ret ?_
      obtain rfl := Option.some.inj H
      have ho7 := h14
      try dsimp only at ho7
      subst ho7
      have H := HL9
      try dsimp only at H
      obtain rfl := Option.some.inj H
      exact fin hk _ [(.int .i64 u6)] rfl ⟨rfl, trivial⟩ ⟨rfl, (hs.pick [] rfl).dnil⟩
     ·have hk := hk.lit 16 c30 rfl
      refine cnd_false hk rfl rfl ?_
      refine wp_skip ?_
      refine hK18 _ _ ?_
      apply wp_region_lit
      refine sv (.int .i64 (w64 (u6 + 1))) hk rfl rfl rfl fun a hk => ?_
      refine sm _ rfl hk rfl rfl rfl fun a hk => ?_
      show wpList _ _ _ [] _ _
      refine wpList_nil ?_
      obtain rfl := Option.some.inj H
      obtain ⟨m32, hmm32, h14⟩ := h14
      show ∃ n', n' < _ ∧ I11 n' _ _
      refine ⟨m32, hmm32, ?_⟩
      rw [hI11]
      exact ⟨(w64 (u6 + 1)), h14, (hk.c 0 rfl (hk.c 1 rfl (hk.c 7 rfl (hk.c 8 rfl hk.k)))), (hs.pick [] rfl)⟩
    ·have hk := hk.lit 9 c17 rfl
     refine cnd_false hk rfl rfl ?_
     refine wp_exit ?_
     obtain rfl := Option.some.inj H
     show R10 _ _
     rw [hR10]
     exact ⟨h14.symm, hk.k, (hs.pick [] rfl)⟩
  ·intro a w hR0
   rw [hR10] at hR0
   obtain ⟨rfl, hk, hs⟩ := hR0
   have H := HL9
   try dsimp only at H
   refine hK2 _ _ ?_
   apply wp_seq_k; intro K33 hK33
   apply wp_region_lit
   refine sa _ rfl hk rfl rfl rfl fun a hk => ?_
   show wpList _ _ _ [] _ _
   refine wpList_nil ?_
   refine hK33 _ _ ?_
   have hs := hs.pick [] rfl
   refine wp_ret ?_
   obtain rfl := Option.some.inj H
   exact fin hk _ [(.int .i64 (-1))] rfl ⟨rfl, trivial⟩ ⟨rfl, (hs.pick [] rfl).dnil⟩

noncomputable def impl_WhereIs_c2.f (l0 : List S_Block) (q1 : S_Block → Option (Bool)) : Option (Bool) :=
  ((slices_ContainsFunc_impl_Block_impl_Block.f l0 q1).bind fun y3 => (some y3))
set_option maxRecDepth 100000 in
set_option maxHeartbeats 0 in
theorem impl_WhereIs_c2_t (w0 : World) (A0_ : Option Addr) (p0_ : Nat) (l0 : List S_Block) (k0_ : Chunk) (v0_ : View L_Block A0_ p0_ l0 k0_) (w0_ : Has w0 k0_) (b1_ : Nat) (f1_ : FuncId) (c1_ : List Value) (e1_ : Enters Try.prog f1_) (q1 : S_Block → Option (Bool)) (k1_ : Chunk) (t1_ : ∀ w, Has w k1_ → ∀ (z0 : S_Block) (r : Bool), q1 z0 = some r → Calls Try.prog f1_ (([.agg #[.int .i64 z0.Id, .int .i64 z0.Leaf, .int .i64 z0.Value]] : List Value) ++ c1_).toArray w (Ret (fun v w2 => v = .bool r ∧ Sat [] w w2 [] []))) (w1_ : Has w0 k1_) (h1_ : Has w0 [(b1_, .cells #[.func (.func f1_) #[] c1_.toArray] 104 (0, 0))]) (r : Bool) (H : impl_WhereIs_c2.f l0 q1 = some r) :
    Calls Try.prog 91 #[.slice A0_ l0.length p0_, .pointer (some ⟨b1_, 0, none⟩)] w0 (Ret (fun v w => v = .bool r ∧ Sat [] w0 w [] [])) := by
  have hs : Sat [] w0 w0 [(1, k0_), (3, k1_), (2, [(b1_, .cells #[.func (.func f1_) #[] c1_.toArray] 104 (0, 0))])] [] := Sat.init w0 [(1, k0_), (3, k1_), (2, [(b1_, .cells #[.func (.func f1_) #[] c1_.toArray] 104 (0, 0))])] [] (by simp only [List.mem_cons, List.not_mem_nil, or_false]; rintro x (rfl | rfl | rfl) <;> assumption) (by simp) List.nodup_nil (by simp [blks])
  unfold impl_WhereIs_c2.f at H
  refine enter Try.func91 rfl Try.ntmps91 rfl fun a hk => ?_
  apply wp_seq_k; intro K1 hK1
  apply wp_region_lit
  refine sa _ rfl hk rfl rfl rfl fun a hk => ?_
  show wpList _ _ _ [] _ _
  refine wpList_nil ?_
  refine hK1 _ _ ?_
  apply wp_seq_k; intro K2 hK2
  apply wp_region_lit
  refine sm _ rfl hk rfl rfl rfl fun a hk => ?_
  refine sl rfl hk rfl rfl rfl ag104 (box_cellD hs (k := 2) rfl rfl) fun a hk => ?_
  obtain ⟨y3, h4, H⟩ := bind_some H
  refine sc rfl en89 hk rfl rfl rfl (slices_ContainsFunc_impl_Block_impl_Block_t _ A0_ p0_ l0 _ v0_ (hs.hasD (k := 1) rfl) f1_ c1_ e1_ q1 k1_ t1_ (hs.hasD (k := 3) rfl) _ h4) ?_
  rintro _ w ⟨rfl, hG⟩ a hk
  have hs := hs.call0 hG
  refine sa _ rfl hk rfl rfl rfl fun a hk => ?_
  show wpList _ _ _ [] _ _
  refine wpList_nil ?_
  refine hK2 _ _ ?_
  refine wp_ret ?_
  obtain rfl := Option.some.inj H
  exact fin hk _ [(.bool y3)] rfl ⟨rfl, trivial⟩ ⟨rfl, (hs.pick [] rfl).dnil⟩

noncomputable def impl_WhereIs.f (x0 : S_Oram) (x1 : Int) : Option (Int × Int) :=
  ((impl_idCode.f x0 x1).bind fun y6 => (bif (y6 != 0) then (some (0, y6)) else ((slices_ContainsFunc_impl_Block_impl_Block.f x0.Stash (fun z0 => impl_WhereIs_c1.f z0 x1)).bind fun y15 => (bif y15 then (some ((-1), 0)) else ((slices_IndexFunc_impl_Block_impl_Block_L.f x0.Buckets (fun z0 => impl_WhereIs_c2.f z0 (fun z0 => impl_WhereIs_c1.f z0 x1))).bind fun y21 => (bif (decide (y21 ≥ 0)) then (some (y21, 0)) else (some (0, 5))))))))
set_option maxRecDepth 100000 in
set_option maxHeartbeats 0 in
theorem impl_WhereIs_t (w0 : World) (x0 : S_Oram) (A0_0 : Option Addr) (p0_0 : Nat) (k0_0 : Chunk) (v0_0 : View (Lay.int .i64) A0_0 p0_0 x0.Pos k0_0) (w0_0 : Has w0 k0_0) (A0_1 : Option Addr) (p0_1 : Nat) (k0_1 : Chunk) (v0_1 : View L_Block A0_1 p0_1 x0.Stash k0_1) (w0_1 : Has w0 k0_1) (A0_2 : Option Addr) (p0_2 : Nat) (k0_2 : Chunk) (v0_2 : View (Lay.sl L_Block 102) A0_2 p0_2 x0.Buckets k0_2) (w0_2 : Has w0 k0_2) (x1 : Int) (r : Int × Int) (H : impl_WhereIs.f x0 x1 = some r) :
    Calls Try.prog 21 #[.agg #[.slice A0_0 x0.Pos.length p0_0, .slice A0_1 x0.Stash.length p0_1, .slice A0_2 x0.Buckets.length p0_2], .int .i64 x1] w0 (Ret (fun v w => v = .tuple #[.int .i64 r.1, .int .i64 r.2] ∧ Sat [] w0 w [] [])) := by
  have hs : Sat [] w0 w0 [(1, k0_0), (2, k0_1), (3, k0_2)] [] := Sat.init w0 [(1, k0_0), (2, k0_1), (3, k0_2)] [] (by simp only [List.mem_cons, List.not_mem_nil, or_false]; rintro x (rfl | rfl | rfl) <;> assumption) (by simp) List.nodup_nil (by simp [blks])
  unfold impl_WhereIs.f at H
  refine enter Try.func21 rfl Try.ntmps21 rfl fun a hk => ?_
  apply wp_seq_k; intro K1 hK1
  apply wp_region_lit
  refine sbx 4 hs rfl hk rfl rfl rfl rfl fun b2 w a hk hs => ?_
  refine sbx 5 hs rfl hk rfl rfl rfl rfl fun b3 w a hk hs => ?_
  refine sa _ rfl hk rfl rfl rfl fun a hk => ?_
  refine sa _ rfl hk rfl rfl rfl fun a hk => ?_
  show wpList _ _ _ [] _ _
  refine wpList_nil ?_
  refine hK1 _ _ ?_
  apply wp_seq_k; intro K4 hK4
  apply wp_seq_k; intro K5 hK5
  apply wp_region_lit
  refine sln [.slice A0_0 x0.Pos.length p0_0, .slice A0_1 x0.Stash.length p0_1, .slice A0_2 x0.Buckets.length p0_2] rfl hk rfl rfl rfl ag31 sz31 (box_cells hs (k := 4) rfl) fun a hk => ?_
  refine sl rfl hk rfl rfl rfl ag3 (box_cell hs (k := 5) rfl rfl) fun a hk => ?_
  obtain ⟨y6, h7, H⟩ := bind_some H
  refine sc rfl en86 hk rfl rfl rfl (impl_idCode_t _ x0 A0_0 p0_0 _ v0_0 (hs.hasD (k := 1) rfl) A0_1 p0_1 _ v0_1 (hs.hasD (k := 2) rfl) A0_2 p0_2 _ v0_2 (hs.hasD (k := 3) rfl) x1 _ h7) ?_
  rintro _ w ⟨rfl, hG⟩ a hk
  have hs := hs.call0 hG
  refine sa _ rfl hk rfl rfl rfl fun a hk => ?_
  show wpList _ _ _ [] _ _
  refine wpList_nil ?_
  refine hK5 _ _ ?_
  apply wp_seq_k; intro K8 hK8
  apply wp_region_lit
  refine sm _ rfl hk rfl rfl rfl fun a hk => ?_
  refine sv (.bool (y6 != 0)) hk rfl rfl rfl fun a hk => ?_
  show wpList _ _ _ [] _ _
  refine wpList_nil ?_
  refine hK8 _ _ ?_
  rcases cond_some H with ⟨c9, H⟩ | ⟨c9, H⟩
  ·have hk := hk.lit 13 c9 rfl
   refine cnd_true hk rfl rfl ?_
   apply wp_seq_k; intro K10 hK10
   apply wp_region_lit
   refine sm _ rfl hk rfl rfl rfl fun a hk => ?_
   refine sa _ rfl hk rfl rfl rfl fun a hk => ?_
   refine sa _ rfl hk rfl rfl rfl fun a hk => ?_
   show wpList _ _ _ [] _ _
   refine wpList_nil ?_
   refine hK10 _ _ ?_
   have hs := hs.pick [] rfl
   refine wp_ret ?_
   obtain rfl := Option.some.inj H
   exact fin hk _ [(.int .i64 0), (.int .i64 y6)] rfl ⟨rfl, ⟨rfl, trivial⟩⟩ ⟨rfl, (hs.pick [] rfl).dnil⟩
  ·have hk := hk.lit 13 c9 rfl
   refine cnd_false hk rfl rfl ?_
   refine wp_skip ?_
   refine hK4 _ _ ?_
   have hs := hs.pick [(4, 4), (5, 5)] rfl
   apply wp_seq_k; intro K11 hK11
   apply wp_region_lit
   refine smf (cs := [.pointer (some ⟨b3, 0, none⟩)]) rfl hk rfl rfl rfl fun a hk => ?_
   refine salx 6 hs rfl hk rfl rfl ze104 rfl fun b12 w a hk hs => ?_
   refine ssx (cs' := #[.func (.func 88) #[] #[(.pointer (some ⟨b3, 0, none⟩))]]) 6 hs rfl rfl hk rfl rfl rfl rfl sz104 rfl rfl rfl rfl fun w a hk hs => ?_
   show wpList _ _ _ [] _ _
   refine wpList_nil ?_
   refine hK11 _ _ ?_
   apply wp_seq_k; intro K13 hK13
   apply wp_seq_k; intro K14 hK14
   apply wp_region_lit
   refine sf ⟨b2, 1, none⟩ rfl hk rfl rfl rfl fd31_1 rfl fun a hk => ?_
   refine sl rfl hk rfl rfl rfl ag28 (box_cell hs (k := 4) rfl rfl) fun a hk => ?_
   refine sl rfl hk rfl rfl rfl ag104 (box_cell hs (k := 6) rfl rfl) fun a hk => ?_
   obtain ⟨y15, h16, H⟩ := bind_some H
   refine sc rfl en89 hk rfl rfl rfl (slices_ContainsFunc_impl_Block_impl_Block_t _ A0_1 p0_1 x0.Stash _ v0_1 (hs.hasD (k := 2) rfl) 88 [.pointer (some ⟨b3, 0, none⟩)] en88 (fun z0 => impl_WhereIs_c1.f z0 x1) [(b3, .cells #[.int .i64 x1] 3 (0, 0))] (fun w hz z0 r h => impl_WhereIs_c1_t w z0 _ x1 hz r h) (hs.hasG (k := 5) rfl) _ h16) ?_
   rintro _ w ⟨rfl, hG⟩ a hk
   have hs := hs.call0 hG
   show wpList _ _ _ [] _ _
   refine wpList_nil ?_
   refine hK14 _ _ ?_
   rcases cond_some H with ⟨c17, H⟩ | ⟨c17, H⟩
   ·have hk := hk.lit 19 c17 rfl
    refine cnd_true hk rfl rfl ?_
    apply wp_seq_k; intro K18 hK18
    apply wp_region_lit
    refine sa _ rfl hk rfl rfl rfl fun a hk => ?_
    refine sa _ rfl hk rfl rfl rfl fun a hk => ?_
    show wpList _ _ _ [] _ _
    refine wpList_nil ?_
    refine hK18 _ _ ?_
    refine wp_ret ?_
    obtain rfl := Option.some.inj H
    exact fin hk _ [(.int .i64 (-1)), (.int .i64 0)] rfl ⟨rfl, ⟨rfl, trivial⟩⟩ ⟨rfl, (hs.pick [] rfl).dnil⟩
   ·have hk := hk.lit 19 c17 rfl
    refine cnd_false hk rfl rfl ?_
    refine wp_skip ?_
    refine hK13 _ _ ?_
    apply wp_seq_k; intro K19 hK19
    apply wp_seq_k; intro K20 hK20
    apply wp_region_lit
    refine sf ⟨b2, 2, none⟩ rfl hk rfl rfl rfl fd31_2 rfl fun a hk => ?_
    refine sl rfl hk rfl rfl rfl ag29 (box_cell hs (k := 4) rfl rfl) fun a hk => ?_
    refine smf (cs := [.pointer (some ⟨b12, 0, none⟩)]) rfl hk rfl rfl rfl fun a hk => ?_
    obtain ⟨y21, h22, H⟩ := bind_some H
    refine sc rfl en90 hk rfl rfl rfl (slices_IndexFunc_impl_Block_impl_Block_L_t _ A0_2 p0_2 x0.Buckets _ v0_2 (hs.hasD (k := 3) rfl) 91 [.pointer (some ⟨b12, 0, none⟩)] en91 (fun z0 => impl_WhereIs_c2.f z0 (fun z0 => impl_WhereIs_c1.f z0 x1)) ([(b12, .cells #[.func (.func 88) #[] #[(.pointer (some ⟨b3, 0, none⟩))]] 104 (0, 0))] ++ [(b3, .cells #[.int .i64 x1] 3 (0, 0))]) (fun w hz z0A z0p z0 z0k z0v z0w r h => impl_WhereIs_c2_t w z0A z0p z0 z0k z0v z0w _ 88 [.pointer (some ⟨b3, 0, none⟩)] en88 (fun z0 => impl_WhereIs_c1.f z0 x1) [(b3, .cells #[.int .i64 x1] 3 (0, 0))] (fun w hz z0 r h => impl_WhereIs_c1_t w z0 _ x1 hz r h) (Has.right hz) (Has.left hz) r h) (Has.app (hs.hasG (k := 6) rfl) (hs.hasG (k := 5) rfl)) _ h22) ?_
    rintro _ w ⟨rfl, hG⟩ a hk
    have hs := hs.call0 hG
    refine sa _ rfl hk rfl rfl rfl fun a hk => ?_
    show wpList _ _ _ [] _ _
    refine wpList_nil ?_
    refine hK20 _ _ ?_
    have hs := hs.pick [] rfl
    apply wp_seq_k; intro K23 hK23
    apply wp_region_lit
    refine sm _ rfl hk rfl rfl rfl fun a hk => ?_
    refine sv (.bool (decide (y21 ≥ 0))) hk rfl rfl rfl fun a hk => ?_
    show wpList _ _ _ [] _ _
    refine wpList_nil ?_
    refine hK23 _ _ ?_
    rcases cond_some H with ⟨c24, H⟩ | ⟨c24, H⟩
    ·have hk := hk.lit 25 c24 rfl
     refine cnd_true hk rfl rfl ?_
     apply wp_seq_k; intro K25 hK25
     apply wp_region_lit
     refine sm _ rfl hk rfl rfl rfl fun a hk => ?_
     refine sa _ rfl hk rfl rfl rfl fun a hk => ?_
     refine sa _ rfl hk rfl rfl rfl fun a hk => ?_
     show wpList _ _ _ [] _ _
     refine wpList_nil ?_
     refine hK25 _ _ ?_
     refine wp_ret ?_
     obtain rfl := Option.some.inj H
     exact fin hk _ [(.int .i64 y21), (.int .i64 0)] rfl ⟨rfl, ⟨rfl, trivial⟩⟩ ⟨rfl, (hs.pick [] rfl).dnil⟩
    ·have hk := hk.lit 25 c24 rfl
     refine cnd_false hk rfl rfl ?_
     refine wp_skip ?_
     refine hK19 _ _ ?_
     apply wp_seq_k; intro K26 hK26
     apply wp_region_lit
     refine sa _ rfl hk rfl rfl rfl fun a hk => ?_
     refine sa _ rfl hk rfl rfl rfl fun a hk => ?_
     show wpList _ _ _ [] _ _
     refine wpList_nil ?_
     refine hK26 _ _ ?_
     refine wp_ret ?_
     obtain rfl := Option.some.inj H
     exact fin hk _ [(.int .i64 0), (.int .i64 5)] rfl ⟨rfl, ⟨rfl, trivial⟩⟩ ⟨rfl, (hs.pick [] rfl).dnil⟩

noncomputable def impl_OnPath.f (x0 : Int) (x1 : Int) : Option (Bool × Int) :=
  ((((impl_within.f x0 0 14).bind fun y10 => (bif (!y10) then (some true) else ((impl_isLeaf.f x1).bind fun y13 => (some (!y13))))) : Option (Bool)).bind fun u5 => (bif u5 then (some (false, 4)) else ((impl_isOnPath.f x0 x1).bind fun y18 => (some (y18, 0)))))
set_option maxRecDepth 100000 in
set_option maxHeartbeats 0 in
theorem impl_OnPath_t (w0 : World) (x0 : Int) (x1 : Int) (r : Bool × Int) (H : impl_OnPath.f x0 x1 = some r) :
    Calls Try.prog 22 #[.int .i64 x0, .int .i64 x1] w0 (Ret (fun v w => v = .tuple #[.bool r.1, .int .i64 r.2] ∧ Sat [] w0 w [] [])) := by
  have hs : Sat [] w0 w0 [] [] := Sat.init w0 [] [] (by simp) (by simp) List.nodup_nil (by simp [blks])
  unfold impl_OnPath.f at H
  refine enter Try.func22 rfl Try.ntmps22 rfl fun a hk => ?_
  apply wp_seq_k; intro K1 hK1
  apply wp_region_lit
  refine sa _ rfl hk rfl rfl rfl fun a hk => ?_
  refine sa _ rfl hk rfl rfl rfl fun a hk => ?_
  show wpList _ _ _ [] _ _
  refine wpList_nil ?_
  refine hK1 _ _ ?_
  apply wp_seq_k; intro K2 hK2
  apply wp_seq_k; intro K3 hK3
  obtain ⟨o6, h7, HL8⟩ := bind_some H
  clear H
  obtain ⟨R9, hR9⟩ : ∃ R : Act → World → Prop, R = fun a w => ∃ (u5 : Bool), u5 = o6 ∧ Kn [(0, (.int .i64 x0)), (1, (.int .i64 x1)), (13, (.bool u5))] 17 a ∧ Sat [] w0 w [] [] := ⟨_, rfl⟩
  refine wp_cutq R9 ?_ ?_
  ·have H := h7
   apply wp_region_lit
   refine sm _ rfl hk rfl rfl rfl fun a hk => ?_
   obtain ⟨y10, h11, H⟩ := bind_some H
   refine sc rfl en92 hk rfl rfl rfl (impl_within_t _ x0 0 14 _ h11) ?_
   rintro _ w ⟨rfl, hG⟩ a hk
   have hs := hs.call0 hG
   refine sv (.bool (!y10)) hk rfl rfl rfl fun a hk => ?_
   refine sm _ rfl hk rfl rfl rfl fun a hk => ?_
   rcases cond_some H with ⟨c12, H⟩ | ⟨c12, H⟩
   ·have hk := hk.lit 9 c12 rfl
    refine sk hk rfl rfl rfl fun a hk => ?_
    refine sk hk rfl rfl rfl fun a hk => ?_
    refine sk hk rfl rfl rfl fun a hk => ?_
    refine sv (.bool true) hk rfl rfl rfl fun a hk => ?_
    show wpList _ _ _ [] _ _
    refine wpList_nil ?_
    obtain rfl := Option.some.inj H
    show R9 _ _
    rw [hR9]
    exact ⟨true, rfl, (hk.c 0 rfl (hk.c 1 rfl (hk.c 13 rfl hk.k))), (hs.pick [] rfl)⟩
   ·have hk := hk.lit 9 c12 rfl
    refine sm _ rfl hk rfl rfl rfl fun a hk => ?_
    obtain ⟨y13, h14, H⟩ := bind_some H
    refine sc rfl en64 hk rfl rfl rfl (impl_isLeaf_t _ x1 _ h14) ?_
    rintro _ w ⟨rfl, hG⟩ a hk
    have hs := hs.call0 hG
    refine sv (.bool (!y13)) hk rfl rfl rfl fun a hk => ?_
    refine sv (.bool (!y13)) hk rfl rfl rfl fun a hk => ?_
    show wpList _ _ _ [] _ _
    refine wpList_nil ?_
    obtain rfl := Option.some.inj H
    show R9 _ _
    rw [hR9]
    exact ⟨(!y13), rfl, (hk.c 0 rfl (hk.c 1 rfl (hk.c 13 rfl hk.k))), (hs.pick [] rfl)⟩
  ·intro a w hR0
   rw [hR9] at hR0
   obtain ⟨u5, rfl, hk, hs⟩ := hR0
   have H := HL8
   try dsimp only at H
   refine hK3 _ _ ?_
   rcases cond_some H with ⟨c15, H⟩ | ⟨c15, H⟩
   ·have hk := hk.lit 13 c15 rfl
    refine cnd_true hk rfl rfl ?_
    apply wp_seq_k; intro K16 hK16
    apply wp_region_lit
    refine sa _ rfl hk rfl rfl rfl fun a hk => ?_
    refine sa _ rfl hk rfl rfl rfl fun a hk => ?_
    show wpList _ _ _ [] _ _
    refine wpList_nil ?_
    refine hK16 _ _ ?_
    refine wp_ret ?_
    obtain rfl := Option.some.inj H
    exact fin hk _ [(.bool false), (.int .i64 4)] rfl ⟨rfl, ⟨rfl, trivial⟩⟩ ⟨rfl, (hs.pick [] rfl).dnil⟩
   ·have hk := hk.lit 13 c15 rfl
    refine cnd_false hk rfl rfl ?_
    refine wp_skip ?_
    refine hK2 _ _ ?_
    apply wp_seq_k; intro K17 hK17
    apply wp_region_lit
    refine sm _ rfl hk rfl rfl rfl fun a hk => ?_
    refine sm _ rfl hk rfl rfl rfl fun a hk => ?_
    obtain ⟨y18, h19, H⟩ := bind_some H
    refine sc rfl en83 hk rfl rfl rfl (impl_isOnPath_t _ x0 x1 _ h19) ?_
    rintro _ w ⟨rfl, hG⟩ a hk
    have hs := hs.call0 hG
    refine sa _ rfl hk rfl rfl rfl fun a hk => ?_
    refine sa _ rfl hk rfl rfl rfl fun a hk => ?_
    show wpList _ _ _ [] _ _
    refine wpList_nil ?_
    refine hK17 _ _ ?_
    have hs := hs.pick [] rfl
    refine wp_ret ?_
    obtain rfl := Option.some.inj H
    exact fin hk _ [(.bool y18), (.int .i64 0)] rfl ⟨rfl, ⟨rfl, trivial⟩⟩ ⟨rfl, (hs.pick [] rfl).dnil⟩

noncomputable def slices_Equal_int_int.s0 (l0 : List Int) (l1 : List Int) (u10 : Int) : Option ((Int) ⊕ Ex (Unit) (Bool)) :=
  (bif (decide (u10 < (l0.length : Int))) then (if 0 ≤ u10 ∧ u10 < (l0.length : Int) then (if 0 ≤ u10 ∧ u10 < (l1.length : Int) then (bif ((l0.getD u10.toNat 0) != (l1.getD u10.toNat 0)) then (some (.inr (.ret false))) else (some (.inl (w64 (u10 + 1))))) else none) else none) else (some (.inr (.out ()))))
noncomputable def slices_Equal_int_int.f (l0 : List Int) (l1 : List Int) : Option (Bool) :=
  (bif ((l0.length : Int) != (l1.length : Int)) then (some false) else ((loopO (fun s => slices_Equal_int_int.s0 l0 l1 s) 0).bind fun o => match o with | .out _ => (some true) | .ret r => (some r)))
set_option maxRecDepth 100000 in
set_option maxHeartbeats 0 in
theorem slices_Equal_int_int_t (w0 : World) (A0_ : Option Addr) (p0_ : Nat) (l0 : List Int) (k0_ : Chunk) (v0_ : View (Lay.int .i64) A0_ p0_ l0 k0_) (w0_ : Has w0 k0_) (A1_ : Option Addr) (p1_ : Nat) (l1 : List Int) (k1_ : Chunk) (v1_ : View (Lay.int .i64) A1_ p1_ l1 k1_) (w1_ : Has w0 k1_) (r : Bool) (H : slices_Equal_int_int.f l0 l1 = some r) :
    Calls Try.prog 93 #[.slice A0_ l0.length p0_, .slice A1_ l1.length p1_] w0 (Ret (fun v w => v = .bool r ∧ Sat [] w0 w [] [])) := by
  have hs : Sat [] w0 w0 [(1, k0_), (2, k1_)] [] := Sat.init w0 [(1, k0_), (2, k1_)] [] (by simp only [List.mem_cons, List.not_mem_nil, or_false]; rintro x (rfl | rfl) <;> assumption) (by simp) List.nodup_nil (by simp [blks])
  unfold slices_Equal_int_int.f at H
  refine enter Try.func93 rfl Try.ntmps93 rfl fun a hk => ?_
  apply wp_seq_k; intro K1 hK1
  apply wp_region_lit
  refine sa _ rfl hk rfl rfl rfl fun a hk => ?_
  show wpList _ _ _ [] _ _
  refine wpList_nil ?_
  refine hK1 _ _ ?_
  apply wp_seq_k; intro K2 hK2
  apply wp_seq_k; intro K3 hK3
  apply wp_region_lit
  refine sm _ rfl hk rfl rfl rfl fun a hk => ?_
  refine sle rfl hk rfl rfl rfl un22 fun a hk => ?_
  refine sm _ rfl hk rfl rfl rfl fun a hk => ?_
  refine sle rfl hk rfl rfl rfl un22 fun a hk => ?_
  refine sv (.bool ((l0.length : Int) != (l1.length : Int))) hk rfl rfl rfl fun a hk => ?_
  show wpList _ _ _ [] _ _
  refine wpList_nil ?_
  refine hK3 _ _ ?_
  rcases cond_some H with ⟨c4, H⟩ | ⟨c4, H⟩
  ·have hk := hk.lit 10 c4 rfl
   refine cnd_true hk rfl rfl ?_
   apply wp_seq_k; intro K5 hK5
   apply wp_region_lit
   refine sa _ rfl hk rfl rfl rfl fun a hk => ?_
   show wpList _ _ _ [] _ _
   refine wpList_nil ?_
   refine hK5 _ _ ?_
   refine wp_ret ?_
   obtain rfl := Option.some.inj H
   exact fin hk _ [(.bool false)] rfl ⟨rfl, trivial⟩ ⟨rfl, (hs.pick [] rfl).dnil⟩
  ·have hk := hk.lit 10 c4 rfl
   refine cnd_false hk rfl rfl ?_
   refine wp_skip ?_
   refine hK2 _ _ ?_
   apply wp_seq_k; intro K6 hK6
   apply wp_seq_k; intro K7 hK7
   apply wp_region_lit
   refine sm _ rfl hk rfl rfl rfl fun a hk => ?_
   refine sle rfl hk rfl rfl rfl un22 fun a hk => ?_
   refine sm _ rfl hk rfl rfl rfl fun a hk => ?_
   show wpList _ _ _ [] _ _
   refine wpList_nil ?_
   refine hK7 _ _ ?_
   have hs := hs.pick [] rfl
   obtain ⟨o11, h12, HL13⟩ := bind_some H
   clear H
   obtain ⟨R14, hR14⟩ : ∃ R : Act → World → Prop, R = fun a w => o11 = .out () ∧ Kn [] 26 a ∧ Sat [] w0 w [(1, k0_), (2, k1_)] [] := ⟨_, rfl⟩
   refine wp_cutq R14 ?_ ?_
   ·refine wp_block ?_
    obtain ⟨fu16, h12⟩ := loopO_some h12
    obtain ⟨I15, hI15⟩ : ∃ I : Nat → Act → World → Prop, I = fun fu a w => ∃ (u10 : Int), loopN (fun s => slices_Equal_int_int.s0 l0 l1 s) fu u10 = some o11 ∧ Kn [(0, (.slice A0_ l0.length p0_)), (1, (.slice A1_ l1.length p1_)), (12, (.int .i64 (l0.length : Int))), (13, (.int .i64 u10))] 26 a ∧ Sat [] w0 w [(1, k0_), (2, k1_)] [] := ⟨_, rfl⟩
    refine wp_loop_ghost I15 fu16 ?_ ?_
    ·rw [hI15]
     exact ⟨0, h12, (hk.c 0 rfl (hk.c 1 rfl (hk.c 12 rfl (hk.c 13 rfl hk.k)))), (hs.pick [] rfl)⟩
    ·clear h12 hk hs
     intro fu16 a w hI0
     rw [hI15] at hI0
     obtain ⟨u10, hi, hk, hs⟩ := hI0
     obtain ⟨x17, H, h18⟩ := loop_round hi
     try dsimp only at H
     unfold slices_Equal_int_int.s0 at H
     apply wp_seq_k; intro K19 hK19
     apply wp_region_lit
     refine sv (.bool (decide (u10 < (l0.length : Int)))) hk rfl rfl rfl fun a hk => ?_
     show wpList _ _ _ [] _ _
     refine wpList_nil ?_
     refine hK19 _ _ ?_
     apply wp_seq_k; intro K20 hK20
     rcases cond_some H with ⟨c21, H⟩ | ⟨c21, H⟩
     ·have hk := hk.lit 14 c21 rfl
      refine cnd_true hk rfl rfl ?_
      refine wp_skip ?_
      refine hK20 _ _ ?_
      apply wp_seq_k; intro K22 hK22
      refine wp_block ?_
      apply wp_seq_k; intro K23 hK23
      apply wp_region_lit
      refine sm _ rfl hk rfl rfl rfl fun a hk => ?_
      refine sa _ rfl hk rfl rfl rfl fun a hk => ?_
      show wpList _ _ _ [] _ _
      refine wpList_nil ?_
      refine hK23 _ _ ?_
      apply wp_seq_k; intro K24 hK24
      refine wp_region_tree (.q 0 (.q 1 (.q 2 (.q 3 (.q 4 (.alt 5 (.alt 6 (.alt 7 (.alt 8 .done .stop) .stop) .stop) .stop)))))) mo (by kernel_rfl) (hs.pick [] rfl) fun _ => ?_
      have hs := hs.drew
      refine tqst (.slice A0_ l0.length p0_) hk rfl rfl rfl rfl (fun w hs => sm _ rfl hk rfl rfl rfl fun a hk => qe hk) fun a hk => ?_
      refine tqst (.int .i64 u10) hk rfl rfl rfl rfl (fun w hs => sm _ rfl hk rfl rfl rfl fun a hk => qe hk) fun a hk => ?_
      rcases ite_some H with ⟨c26, H⟩ | ⟨_, H⟩
      rotate_left
      ·cases H
      obtain ⟨b27, q28, hAc26⟩ := (v0_).some_ u10 c26.1 c26.2
      refine tqst (.pointer (some (padd A0_ (u10.toNat * 1)))) hk rfl rfl rfl rfl (fun w hs => si rfl hk rfl rfl rfl rfl un22 sz3 c26.1 c26.2 hAc26 fun a hk => qe hk) fun a hk => ?_
      obtain ⟨_, rfl, e29⟩ := (v0_).at_ 0 u10 c26.1 c26.2
      refine tqst (.int .i64 (l0.getD u10.toNat 0)) hk rfl rfl rfl rfl (fun w hs => sl (v := (.int .i64 (l0.getD u10.toNat 0))) rfl hk rfl rfl rfl ag3 ((e29 0 _ rfl).cell (hs.hasD (k := 1) rfl)) fun a hk => qe hk) fun a hk => ?_
      refine tqst (.slice A1_ l1.length p1_) hk rfl rfl rfl rfl (fun w hs => sm _ rfl hk rfl rfl rfl fun a hk => qe hk) fun a hk => ?_
      refine tsst hk rfl rfl (fun K_r25_5 hK_r25_5 w hF => ?_) wt_stop
      have hs := hs.f hF
      refine sm _ rfl hk rfl rfl rfl fun a hk => ?_
      refine se (hs.pick [] rfl) hk (hK_r25_5 _ _ ?_)
      refine tsst hk rfl rfl (fun K_r25_6 hK_r25_6 w hF => ?_) wt_stop
      have hs := hs.f hF
      rcases ite_some H with ⟨c30, H⟩ | ⟨_, H⟩
      rotate_left
      ·cases H
      obtain ⟨b31, q32, hAc30⟩ := (v1_).some_ u10 c30.1 c30.2
      refine si rfl hk rfl rfl rfl rfl un22 sz3 c30.1 c30.2 hAc30 fun a hk => ?_
      refine se (hs.pick [] rfl) hk (hK_r25_6 _ _ ?_)
      refine tsst hk rfl rfl (fun K_r25_7 hK_r25_7 w hF => ?_) wt_stop
      have hs := hs.f hF
      obtain ⟨_, rfl, e33⟩ := (v1_).at_ 0 u10 c30.1 c30.2
      refine sl (v := (.int .i64 (l1.getD u10.toNat 0))) rfl hk rfl rfl rfl ag3 ((e33 0 _ rfl).cell (hs.hasD (k := 2) rfl)) fun a hk => ?_
      refine se (hs.pick [] rfl) hk (hK_r25_7 _ _ ?_)
      refine tsst hk rfl rfl (fun K_r25_8 hK_r25_8 w hF => ?_) wt_stop
      have hs := hs.f hF
      refine sv (.bool ((l0.getD u10.toNat 0) != (l1.getD u10.toNat 0))) hk rfl rfl rfl fun a hk => ?_
      refine se (hs.pick [] rfl) hk (hK_r25_8 _ _ ?_)
      refine wtl_nil fun w hF _ => ?_
      have hs := hs.f hF
      refine hK24 _ _ ?_
      have hs := hs.pick [] rfl
      rcases cond_some H with ⟨c34, H⟩ | ⟨c34, H⟩
      ·have hk := hk.lit 24 c34 rfl
       refine cnd_true hk rfl rfl ?_
       apply wp_seq_k; intro K35 hK35
       apply wp_region_lit
       refine sa _ rfl hk rfl rfl rfl fun a hk => ?_
       show wpList _ _ _ [] _ _
       refine wpList_nil ?_
       refine hK35 _ _ ?_
       refine wp_ret ?_
       obtain rfl := Option.some.inj H
       have ho11 := h18
       try dsimp only at ho11
       subst ho11
       have H := HL13
       try dsimp only at H
       obtain rfl := Option.some.inj H
       exact fin hk _ [(.bool false)] rfl ⟨rfl, trivial⟩ ⟨rfl, (hs.pick [] rfl).dnil⟩
      ·have hk := hk.lit 24 c34 rfl
       refine cnd_false hk rfl rfl ?_
       refine wp_skip ?_
       refine hK22 _ _ ?_
       apply wp_region_lit
       refine sv (.int .i64 (w64 (u10 + 1))) hk rfl rfl rfl fun a hk => ?_
       refine sm _ rfl hk rfl rfl rfl fun a hk => ?_
       show wpList _ _ _ [] _ _
       refine wpList_nil ?_
       obtain rfl := Option.some.inj H
       obtain ⟨m36, hmm36, h18⟩ := h18
       show ∃ n', n' < _ ∧ I15 n' _ _
       refine ⟨m36, hmm36, ?_⟩
       rw [hI15]
       exact ⟨(w64 (u10 + 1)), h18, (hk.c 0 rfl (hk.c 1 rfl (hk.c 12 rfl (hk.c 13 rfl hk.k)))), (hs.pick [] rfl)⟩
     ·have hk := hk.lit 14 c21 rfl
      refine cnd_false hk rfl rfl ?_
      refine wp_exit ?_
      obtain rfl := Option.some.inj H
      show R14 _ _
      rw [hR14]
      exact ⟨h18.symm, hk.k, (hs.pick [] rfl)⟩
   ·intro a w hR0
    rw [hR14] at hR0
    obtain ⟨rfl, hk, hs⟩ := hR0
    have H := HL13
    try dsimp only at H
    refine hK6 _ _ ?_
    apply wp_seq_k; intro K37 hK37
    apply wp_region_lit
    refine sa _ rfl hk rfl rfl rfl fun a hk => ?_
    show wpList _ _ _ [] _ _
    refine wpList_nil ?_
    refine hK37 _ _ ?_
    refine wp_ret ?_
    obtain rfl := Option.some.inj H
    exact fin hk _ [(.bool true)] rfl ⟨rfl, trivial⟩ ⟨rfl, (hs.pick [] rfl).dnil⟩

noncomputable def slices_Equal_impl_Block_impl_Block.s0 (l0 : List S_Block) (l1 : List S_Block) (u10 : Int) : Option ((Int) ⊕ Ex (Unit) (Bool)) :=
  (bif (decide (u10 < (l0.length : Int))) then (if 0 ≤ u10 ∧ u10 < (l0.length : Int) then (if 0 ≤ u10 ∧ u10 < (l1.length : Int) then (bif (!((((l0.getD u10.toNat z_Block).Id) == ((l1.getD u10.toNat z_Block).Id)) && ((((l0.getD u10.toNat z_Block).Leaf) == ((l1.getD u10.toNat z_Block).Leaf)) && ((((l0.getD u10.toNat z_Block).Value) == ((l1.getD u10.toNat z_Block).Value)) && true)))) then (some (.inr (.ret false))) else (some (.inl (w64 (u10 + 1))))) else none) else none) else (some (.inr (.out ()))))
noncomputable def slices_Equal_impl_Block_impl_Block.f (l0 : List S_Block) (l1 : List S_Block) : Option (Bool) :=
  (bif ((l0.length : Int) != (l1.length : Int)) then (some false) else ((loopO (fun s => slices_Equal_impl_Block_impl_Block.s0 l0 l1 s) 0).bind fun o => match o with | .out _ => (some true) | .ret r => (some r)))
set_option maxRecDepth 100000 in
set_option maxHeartbeats 0 in
theorem slices_Equal_impl_Block_impl_Block_t (w0 : World) (A0_ : Option Addr) (p0_ : Nat) (l0 : List S_Block) (k0_ : Chunk) (v0_ : View L_Block A0_ p0_ l0 k0_) (w0_ : Has w0 k0_) (A1_ : Option Addr) (p1_ : Nat) (l1 : List S_Block) (k1_ : Chunk) (v1_ : View L_Block A1_ p1_ l1 k1_) (w1_ : Has w0 k1_) (r : Bool) (H : slices_Equal_impl_Block_impl_Block.f l0 l1 = some r) :
    Calls Try.prog 94 #[.slice A0_ l0.length p0_, .slice A1_ l1.length p1_] w0 (Ret (fun v w => v = .bool r ∧ Sat [] w0 w [] [])) := by
  have hs : Sat [] w0 w0 [(1, k0_), (2, k1_)] [] := Sat.init w0 [(1, k0_), (2, k1_)] [] (by simp only [List.mem_cons, List.not_mem_nil, or_false]; rintro x (rfl | rfl) <;> assumption) (by simp) List.nodup_nil (by simp [blks])
  unfold slices_Equal_impl_Block_impl_Block.f at H
  refine enter Try.func94 rfl Try.ntmps94 rfl fun a hk => ?_
  apply wp_seq_k; intro K1 hK1
  apply wp_region_lit
  refine sa _ rfl hk rfl rfl rfl fun a hk => ?_
  show wpList _ _ _ [] _ _
  refine wpList_nil ?_
  refine hK1 _ _ ?_
  apply wp_seq_k; intro K2 hK2
  apply wp_seq_k; intro K3 hK3
  apply wp_region_lit
  refine sm _ rfl hk rfl rfl rfl fun a hk => ?_
  refine sle rfl hk rfl rfl rfl un28 fun a hk => ?_
  refine sm _ rfl hk rfl rfl rfl fun a hk => ?_
  refine sle rfl hk rfl rfl rfl un28 fun a hk => ?_
  refine sv (.bool ((l0.length : Int) != (l1.length : Int))) hk rfl rfl rfl fun a hk => ?_
  show wpList _ _ _ [] _ _
  refine wpList_nil ?_
  refine hK3 _ _ ?_
  rcases cond_some H with ⟨c4, H⟩ | ⟨c4, H⟩
  ·have hk := hk.lit 10 c4 rfl
   refine cnd_true hk rfl rfl ?_
   apply wp_seq_k; intro K5 hK5
   apply wp_region_lit
   refine sa _ rfl hk rfl rfl rfl fun a hk => ?_
   show wpList _ _ _ [] _ _
   refine wpList_nil ?_
   refine hK5 _ _ ?_
   refine wp_ret ?_
   obtain rfl := Option.some.inj H
   exact fin hk _ [(.bool false)] rfl ⟨rfl, trivial⟩ ⟨rfl, (hs.pick [] rfl).dnil⟩
  ·have hk := hk.lit 10 c4 rfl
   refine cnd_false hk rfl rfl ?_
   refine wp_skip ?_
   refine hK2 _ _ ?_
   apply wp_seq_k; intro K6 hK6
   apply wp_seq_k; intro K7 hK7
   apply wp_region_lit
   refine sm _ rfl hk rfl rfl rfl fun a hk => ?_
   refine sle rfl hk rfl rfl rfl un28 fun a hk => ?_
   refine sm _ rfl hk rfl rfl rfl fun a hk => ?_
   show wpList _ _ _ [] _ _
   refine wpList_nil ?_
   refine hK7 _ _ ?_
   have hs := hs.pick [] rfl
   obtain ⟨o11, h12, HL13⟩ := bind_some H
   clear H
   obtain ⟨R14, hR14⟩ : ∃ R : Act → World → Prop, R = fun a w => o11 = .out () ∧ Kn [] 26 a ∧ Sat [] w0 w [(1, k0_), (2, k1_)] [] := ⟨_, rfl⟩
   refine wp_cutq R14 ?_ ?_
   ·refine wp_block ?_
    obtain ⟨fu16, h12⟩ := loopO_some h12
    obtain ⟨I15, hI15⟩ : ∃ I : Nat → Act → World → Prop, I = fun fu a w => ∃ (u10 : Int), loopN (fun s => slices_Equal_impl_Block_impl_Block.s0 l0 l1 s) fu u10 = some o11 ∧ Kn [(0, (.slice A0_ l0.length p0_)), (1, (.slice A1_ l1.length p1_)), (12, (.int .i64 (l0.length : Int))), (13, (.int .i64 u10))] 26 a ∧ Sat [] w0 w [(1, k0_), (2, k1_)] [] := ⟨_, rfl⟩
    refine wp_loop_ghost I15 fu16 ?_ ?_
    ·rw [hI15]
     exact ⟨0, h12, (hk.c 0 rfl (hk.c 1 rfl (hk.c 12 rfl (hk.c 13 rfl hk.k)))), (hs.pick [] rfl)⟩
    ·clear h12 hk hs
     intro fu16 a w hI0
     rw [hI15] at hI0
     obtain ⟨u10, hi, hk, hs⟩ := hI0
     obtain ⟨x17, H, h18⟩ := loop_round hi
     try dsimp only at H
     unfold slices_Equal_impl_Block_impl_Block.s0 at H
     apply wp_seq_k; intro K19 hK19
     apply wp_region_lit
     refine sv (.bool (decide (u10 < (l0.length : Int)))) hk rfl rfl rfl fun a hk => ?_
     show wpList _ _ _ [] _ _
     refine wpList_nil ?_
     refine hK19 _ _ ?_
     apply wp_seq_k; intro K20 hK20
     rcases cond_some H with ⟨c21, H⟩ | ⟨c21, H⟩
     ·have hk := hk.lit 14 c21 rfl
      refine cnd_true hk rfl rfl ?_
      refine wp_skip ?_
      refine hK20 _ _ ?_
      apply wp_seq_k; intro K22 hK22
      refine wp_block ?_
      apply wp_seq_k; intro K23 hK23
      apply wp_region_lit
      refine sm _ rfl hk rfl rfl rfl fun a hk => ?_
      refine sa _ rfl hk rfl rfl rfl fun a hk => ?_
      show wpList _ _ _ [] _ _
      refine wpList_nil ?_
      refine hK23 _ _ ?_
      apply wp_seq_k; intro K24 hK24
      refine wp_region_tree (.q 0 (.q 1 (.q 2 (.q 3 (.q 4 (.alt 5 (.alt 6 (.alt 7 (.alt 8 .done .stop) .stop) .stop) .stop)))))) mo (by kernel_rfl) (hs.pick [] rfl) fun _ => ?_
      have hs := hs.drew
      refine tqst (.slice A0_ l0.length p0_) hk rfl rfl rfl rfl (fun w hs => sm _ rfl hk rfl rfl rfl fun a hk => qe hk) fun a hk => ?_
      refine tqst (.int .i64 u10) hk rfl rfl rfl rfl (fun w hs => sm _ rfl hk rfl rfl rfl fun a hk => qe hk) fun a hk => ?_
      rcases ite_some H with ⟨c26, H⟩ | ⟨_, H⟩
      rotate_left
      ·cases H
      obtain ⟨b27, q28, hAc26⟩ := (v0_).some_ u10 c26.1 c26.2
      refine tqst (.pointer (some (padd A0_ (u10.toNat * 3)))) hk rfl rfl rfl rfl (fun w hs => si rfl hk rfl rfl rfl rfl un28 sz102 c26.1 c26.2 hAc26 fun a hk => qe hk) fun a hk => ?_
      obtain ⟨_, rfl, e29⟩ := (v0_).at_ z_Block u10 c26.1 c26.2
      refine tqst (.agg #[.int .i64 ((l0.getD u10.toNat z_Block).Id), .int .i64 ((l0.getD u10.toNat z_Block).Leaf), .int .i64 ((l0.getD u10.toNat z_Block).Value)]) hk rfl rfl rfl rfl (fun w hs => sln [.int .i64 ((l0.getD u10.toNat z_Block).Id), .int .i64 ((l0.getD u10.toNat z_Block).Leaf), .int .i64 ((l0.getD u10.toNat z_Block).Value)] rfl hk rfl rfl rfl ag102 sz102 (cells_at e29 (hs.hasD (k := 1) rfl)) fun a hk => qe hk) fun a hk => ?_
      refine tqst (.slice A1_ l1.length p1_) hk rfl rfl rfl rfl (fun w hs => sm _ rfl hk rfl rfl rfl fun a hk => qe hk) fun a hk => ?_
      refine tsst hk rfl rfl (fun K_r25_5 hK_r25_5 w hF => ?_) wt_stop
      have hs := hs.f hF
      refine sm _ rfl hk rfl rfl rfl fun a hk => ?_
      refine se (hs.pick [] rfl) hk (hK_r25_5 _ _ ?_)
      refine tsst hk rfl rfl (fun K_r25_6 hK_r25_6 w hF => ?_) wt_stop
      have hs := hs.f hF
      rcases ite_some H with ⟨c30, H⟩ | ⟨_, H⟩
      rotate_left
      ·cases H
      obtain ⟨b31, q32, hAc30⟩ := (v1_).some_ u10 c30.1 c30.2
      refine si rfl hk rfl rfl rfl rfl un28 sz102 c30.1 c30.2 hAc30 fun a hk => ?_
      refine se (hs.pick [] rfl) hk (hK_r25_6 _ _ ?_)
      refine tsst hk rfl rfl (fun K_r25_7 hK_r25_7 w hF => ?_) wt_stop
      have hs := hs.f hF
      obtain ⟨_, rfl, e33⟩ := (v1_).at_ z_Block u10 c30.1 c30.2
      refine sln [.int .i64 ((l1.getD u10.toNat z_Block).Id), .int .i64 ((l1.getD u10.toNat z_Block).Leaf), .int .i64 ((l1.getD u10.toNat z_Block).Value)] rfl hk rfl rfl rfl ag102 sz102 (cells_at e33 (hs.hasD (k := 2) rfl)) fun a hk => ?_
      refine se (hs.pick [] rfl) hk (hK_r25_7 _ _ ?_)
      refine tsst hk rfl rfl (fun K_r25_8 hK_r25_8 w hF => ?_) wt_stop
      have hs := hs.f hF
      refine snea (r := ((((l0.getD u10.toNat z_Block).Id) == ((l1.getD u10.toNat z_Block).Id)) && ((((l0.getD u10.toNat z_Block).Leaf) == ((l1.getD u10.toNat z_Block).Leaf)) && ((((l0.getD u10.toNat z_Block).Value) == ((l1.getD u10.toNat z_Block).Value)) && true)))) rfl hk rfl rfl rfl rfl eg102 (eq_agg Try.underlying102 sh102 (eqf_cons rfl ag3 rfl rfl (run_equalIn_int _ _ _ _ _ _ _ un3) (eqf_cons rfl ag3 rfl rfl (run_equalIn_int _ _ _ _ _ _ _ un3) (eqf_cons rfl ag3 rfl rfl (run_equalIn_int _ _ _ _ _ _ _ un3) eqf_nil)))) fun a hk => ?_
      refine se (hs.pick [] rfl) hk (hK_r25_8 _ _ ?_)
      refine wtl_nil fun w hF _ => ?_
      have hs := hs.f hF
      refine hK24 _ _ ?_
      have hs := hs.pick [] rfl
      rcases cond_some H with ⟨c34, H⟩ | ⟨c34, H⟩
      ·have hk := hk.lit 24 c34 rfl
       refine cnd_true hk rfl rfl ?_
       apply wp_seq_k; intro K35 hK35
       apply wp_region_lit
       refine sa _ rfl hk rfl rfl rfl fun a hk => ?_
       show wpList _ _ _ [] _ _
       refine wpList_nil ?_
       refine hK35 _ _ ?_
       refine wp_ret ?_
       obtain rfl := Option.some.inj H
       have ho11 := h18
       try dsimp only at ho11
       subst ho11
       have H := HL13
       try dsimp only at H
       obtain rfl := Option.some.inj H
       exact fin hk _ [(.bool false)] rfl ⟨rfl, trivial⟩ ⟨rfl, (hs.pick [] rfl).dnil⟩
      ·have hk := hk.lit 24 c34 rfl
       refine cnd_false hk rfl rfl ?_
       refine wp_skip ?_
       refine hK22 _ _ ?_
       apply wp_region_lit
       refine sv (.int .i64 (w64 (u10 + 1))) hk rfl rfl rfl fun a hk => ?_
       refine sm _ rfl hk rfl rfl rfl fun a hk => ?_
       show wpList _ _ _ [] _ _
       refine wpList_nil ?_
       obtain rfl := Option.some.inj H
       obtain ⟨m36, hmm36, h18⟩ := h18
       show ∃ n', n' < _ ∧ I15 n' _ _
       refine ⟨m36, hmm36, ?_⟩
       rw [hI15]
       exact ⟨(w64 (u10 + 1)), h18, (hk.c 0 rfl (hk.c 1 rfl (hk.c 12 rfl (hk.c 13 rfl hk.k)))), (hs.pick [] rfl)⟩
     ·have hk := hk.lit 14 c21 rfl
      refine cnd_false hk rfl rfl ?_
      refine wp_exit ?_
      obtain rfl := Option.some.inj H
      show R14 _ _
      rw [hR14]
      exact ⟨h18.symm, hk.k, (hs.pick [] rfl)⟩
   ·intro a w hR0
    rw [hR14] at hR0
    obtain ⟨rfl, hk, hs⟩ := hR0
    have H := HL13
    try dsimp only at H
    refine hK6 _ _ ?_
    apply wp_seq_k; intro K37 hK37
    apply wp_region_lit
    refine sa _ rfl hk rfl rfl rfl fun a hk => ?_
    show wpList _ _ _ [] _ _
    refine wpList_nil ?_
    refine hK37 _ _ ?_
    refine wp_ret ?_
    obtain rfl := Option.some.inj H
    exact fin hk _ [(.bool true)] rfl ⟨rfl, trivial⟩ ⟨rfl, (hs.pick [] rfl).dnil⟩

noncomputable def slices_EqualFunc_impl_Block_impl_Block_impl_Block_impl_Block_L.s0 (l0 : List (List S_Block)) (l1 : List (List S_Block)) (q2 : (List S_Block) → (List S_Block) → Option (Bool)) (u10 : Int) : Option ((Int) ⊕ Ex (Unit) (Bool)) :=
  (bif (decide (u10 < (l0.length : Int))) then (if 0 ≤ u10 ∧ u10 < (l0.length : Int) then (if 0 ≤ u10 ∧ u10 < (l1.length : Int) then ((q2 (l0.getD u10.toNat []) (l1.getD u10.toNat [])).bind fun y40 => (bif (!y40) then (some (.inr (.ret false))) else (some (.inl (w64 (u10 + 1)))))) else none) else none) else (some (.inr (.out ()))))
noncomputable def slices_EqualFunc_impl_Block_impl_Block_impl_Block_impl_Block_L.f (l0 : List (List S_Block)) (l1 : List (List S_Block)) (q2 : (List S_Block) → (List S_Block) → Option (Bool)) : Option (Bool) :=
  (bif ((l0.length : Int) != (l1.length : Int)) then (some false) else ((loopO (fun s => slices_EqualFunc_impl_Block_impl_Block_impl_Block_impl_Block_L.s0 l0 l1 q2 s) 0).bind fun o => match o with | .out _ => (some true) | .ret r => (some r)))
set_option maxRecDepth 100000 in
set_option maxHeartbeats 0 in
theorem slices_EqualFunc_impl_Block_impl_Block_impl_Block_impl_Block_L_t (w0 : World) (A0_ : Option Addr) (p0_ : Nat) (l0 : List (List S_Block)) (k0_ : Chunk) (v0_ : View (Lay.sl L_Block 102) A0_ p0_ l0 k0_) (w0_ : Has w0 k0_) (A1_ : Option Addr) (p1_ : Nat) (l1 : List (List S_Block)) (k1_ : Chunk) (v1_ : View (Lay.sl L_Block 102) A1_ p1_ l1 k1_) (w1_ : Has w0 k1_) (f2_ : FuncId) (c2_ : List Value) (e2_ : Enters Try.prog f2_) (q2 : (List S_Block) → (List S_Block) → Option (Bool)) (k2_ : Chunk) (t2_ : ∀ w, Has w k2_ → ∀ (z0A : Option Addr) (z0p : Nat) (z0 : List S_Block) (z0k : Chunk) (z0v : View L_Block z0A z0p z0 z0k) (z0w : Has w z0k) (z1A : Option Addr) (z1p : Nat) (z1 : List S_Block) (z1k : Chunk) (z1v : View L_Block z1A z1p z1 z1k) (z1w : Has w z1k) (r : Bool), q2 z0 z1 = some r → Calls Try.prog f2_ (([.slice z0A z0.length z0p, .slice z1A z1.length z1p] : List Value) ++ c2_).toArray w (Ret (fun v w2 => v = .bool r ∧ Sat [] w w2 [] []))) (w2_ : Has w0 k2_) (r : Bool) (H : slices_EqualFunc_impl_Block_impl_Block_impl_Block_impl_Block_L.f l0 l1 q2 = some r) :
    Calls Try.prog 95 #[.slice A0_ l0.length p0_, .slice A1_ l1.length p1_, .func (.func f2_) #[] c2_.toArray] w0 (Ret (fun v w => v = .bool r ∧ Sat [] w0 w [] [])) := by
  have hs : Sat [] w0 w0 [(1, k0_), (2, k1_), (3, k2_)] [] := Sat.init w0 [(1, k0_), (2, k1_), (3, k2_)] [] (by simp only [List.mem_cons, List.not_mem_nil, or_false]; rintro x (rfl | rfl | rfl) <;> assumption) (by simp) List.nodup_nil (by simp [blks])
  unfold slices_EqualFunc_impl_Block_impl_Block_impl_Block_impl_Block_L.f at H
  refine enter Try.func95 rfl Try.ntmps95 rfl fun a hk => ?_
  apply wp_seq_k; intro K1 hK1
  apply wp_region_lit
  refine sa _ rfl hk rfl rfl rfl fun a hk => ?_
  show wpList _ _ _ [] _ _
  refine wpList_nil ?_
  refine hK1 _ _ ?_
  apply wp_seq_k; intro K2 hK2
  apply wp_seq_k; intro K3 hK3
  apply wp_region_lit
  refine sm _ rfl hk rfl rfl rfl fun a hk => ?_
  refine sle rfl hk rfl rfl rfl un29 fun a hk => ?_
  refine sm _ rfl hk rfl rfl rfl fun a hk => ?_
  refine sle rfl hk rfl rfl rfl un29 fun a hk => ?_
  refine sv (.bool ((l0.length : Int) != (l1.length : Int))) hk rfl rfl rfl fun a hk => ?_
  show wpList _ _ _ [] _ _
  refine wpList_nil ?_
  refine hK3 _ _ ?_
  rcases cond_some H with ⟨c4, H⟩ | ⟨c4, H⟩
  ·have hk := hk.lit 14 c4 rfl
   refine cnd_true hk rfl rfl ?_
   apply wp_seq_k; intro K5 hK5
   apply wp_region_lit
   refine sa _ rfl hk rfl rfl rfl fun a hk => ?_
   show wpList _ _ _ [] _ _
   refine wpList_nil ?_
   refine hK5 _ _ ?_
   refine wp_ret ?_
   obtain rfl := Option.some.inj H
   exact fin hk _ [(.bool false)] rfl ⟨rfl, trivial⟩ ⟨rfl, (hs.pick [] rfl).dnil⟩
  ·have hk := hk.lit 14 c4 rfl
   refine cnd_false hk rfl rfl ?_
   refine wp_skip ?_
   refine hK2 _ _ ?_
   apply wp_seq_k; intro K6 hK6
   apply wp_seq_k; intro K7 hK7
   apply wp_region_lit
   refine sm _ rfl hk rfl rfl rfl fun a hk => ?_
   refine sle rfl hk rfl rfl rfl un29 fun a hk => ?_
   refine sm _ rfl hk rfl rfl rfl fun a hk => ?_
   show wpList _ _ _ [] _ _
   refine wpList_nil ?_
   refine hK7 _ _ ?_
   have hs := hs.pick [] rfl
   obtain ⟨o11, h12, HL13⟩ := bind_some H
   clear H
   obtain ⟨R14, hR14⟩ : ∃ R : Act → World → Prop, R = fun a w => o11 = .out () ∧ Kn [] 32 a ∧ Sat [] w0 w [(1, k0_), (2, k1_), (3, k2_)] [] := ⟨_, rfl⟩
   refine wp_cutq R14 ?_ ?_
   ·refine wp_block ?_
    obtain ⟨fu16, h12⟩ := loopO_some h12
    obtain ⟨I15, hI15⟩ : ∃ I : Nat → Act → World → Prop, I = fun fu a w => ∃ (u10 : Int), loopN (fun s => slices_EqualFunc_impl_Block_impl_Block_impl_Block_impl_Block_L.s0 l0 l1 q2 s) fu u10 = some o11 ∧ Kn [(1, (.slice A1_ l1.length p1_)), (2, (.func (.func f2_) #[] c2_.toArray)), (15, (.slice A0_ l0.length p0_)), (16, (.int .i64 (l0.length : Int))), (17, (.int .i64 u10))] 32 a ∧ Sat [] w0 w [(1, k0_), (2, k1_), (3, k2_)] [] := ⟨_, rfl⟩
    refine wp_loop_ghost I15 fu16 ?_ ?_
    ·rw [hI15]
     exact ⟨0, h12, (hk.c 1 rfl (hk.c 2 rfl (hk.c 15 rfl (hk.c 16 rfl (hk.c 17 rfl hk.k))))), (hs.pick [] rfl)⟩
    ·clear h12 hk hs
     intro fu16 a w hI0
     rw [hI15] at hI0
     obtain ⟨u10, hi, hk, hs⟩ := hI0
     obtain ⟨x17, H, h18⟩ := loop_round hi
     try dsimp only at H
     unfold slices_EqualFunc_impl_Block_impl_Block_impl_Block_impl_Block_L.s0 at H
     apply wp_seq_k; intro K19 hK19
     apply wp_region_lit
     refine sv (.bool (decide (u10 < (l0.length : Int)))) hk rfl rfl rfl fun a hk => ?_
     show wpList _ _ _ [] _ _
     refine wpList_nil ?_
     refine hK19 _ _ ?_
     apply wp_seq_k; intro K20 hK20
     rcases cond_some H with ⟨c21, H⟩ | ⟨c21, H⟩
     ·have hk := hk.lit 18 c21 rfl
      refine cnd_true hk rfl rfl ?_
      refine wp_skip ?_
      refine hK20 _ _ ?_
      apply wp_seq_k; intro K22 hK22
      refine wp_block ?_
      apply wp_seq_k; intro K23 hK23
      apply wp_region_lit
      refine sm _ rfl hk rfl rfl rfl fun a hk => ?_
      rcases ite_some H with ⟨c24, H⟩ | ⟨_, H⟩
      rotate_left
      ·cases H
      obtain ⟨b25, q26, hAc24⟩ := (v0_).some_ u10 c24.1 c24.2
      refine si rfl hk rfl rfl rfl rfl un29 sz28 c24.1 c24.2 hAc24 fun a hk => ?_
      obtain ⟨_, ⟨_, rfl, A28, p29, rfl, v30⟩, e27⟩ := (v0_).at_ [] u10 c24.1 c24.2
      refine sl (v := (.slice A28 (l0.getD u10.toNat []).length p29)) rfl hk rfl rfl rfl ag28 ((e27 0 _ rfl).cell (hs.hasD (k := 1) rfl)) fun a hk => ?_
      refine sa _ rfl hk rfl rfl rfl fun a hk => ?_
      refine sa _ rfl hk rfl rfl rfl fun a hk => ?_
      show wpList _ _ _ [] _ _
      refine wpList_nil ?_
      refine hK23 _ _ ?_
      apply wp_seq_k; intro K31 hK31
      apply wp_region_lit
      refine sm _ rfl hk rfl rfl rfl fun a hk => ?_
      refine sm _ rfl hk rfl rfl rfl fun a hk => ?_
      rcases ite_some H with ⟨c32, H⟩ | ⟨_, H⟩
      rotate_left
      ·cases H
      obtain ⟨b33, q34, hAc32⟩ := (v1_).some_ u10 c32.1 c32.2
      refine si rfl hk rfl rfl rfl rfl un29 sz28 c32.1 c32.2 hAc32 fun a hk => ?_
      obtain ⟨_, ⟨_, rfl, A36, p37, rfl, v38⟩, e35⟩ := (v1_).at_ [] u10 c32.1 c32.2
      refine sl (v := (.slice A36 (l1.getD u10.toNat []).length p37)) rfl hk rfl rfl rfl ag28 ((e35 0 _ rfl).cell (hs.hasD (k := 2) rfl)) fun a hk => ?_
      refine sa _ rfl hk rfl rfl rfl fun a hk => ?_
      show wpList _ _ _ [] _ _
      refine wpList_nil ?_
      refine hK31 _ _ ?_
      have hs := hs.pick [] rfl
      apply wp_seq_k; intro K39 hK39
      apply wp_region_lit
      refine sm _ rfl hk rfl rfl rfl fun a hk => ?_
      refine sm _ rfl hk rfl rfl rfl fun a hk => ?_
      refine sm _ rfl hk rfl rfl rfl fun a hk => ?_
      obtain ⟨y40, h41, H⟩ := bind_some H
      refine scv (vs := ([(.slice A28 (l0.getD u10.toNat []).length p29), (.slice A36 (l1.getD u10.toNat []).length p37)] : List Value) ++ c2_) rfl rfl e2_ hk rfl rfl rfl (t2_ _ (hs.hasD (k := 3) rfl) A28 p29 (l0.getD u10.toNat []) _ v30 (hs.hasD (k := 1) rfl) A36 p37 (l1.getD u10.toNat []) _ v38 (hs.hasD (k := 2) rfl) _ h41) ?_
      rintro _ w ⟨rfl, hG⟩ a hk
      have hs := hs.call0 hG
      refine sv (.bool (!y40)) hk rfl rfl rfl fun a hk => ?_
      show wpList _ _ _ [] _ _
      refine wpList_nil ?_
      refine hK39 _ _ ?_
      rcases cond_some H with ⟨c42, H⟩ | ⟨c42, H⟩
      ·have hk := hk.lit 30 c42 rfl
       refine cnd_true hk rfl rfl ?_
       apply wp_seq_k; intro K43 hK43
       apply wp_region_lit
       refine sa _ rfl hk rfl rfl rfl fun a hk => ?_
       show wpList _ _ _ [] _ _
       refine wpList_nil ?_
       refine hK43 _ _ ?_
       refine wp_ret ?_
       obtain rfl := Option.some.inj H
       have ho11 := h18
       try dsimp only at ho11
       subst ho11
       have H := HL13
       try dsimp only at H
       obtain rfl := Option.some.inj H
       exact fin hk _ [(.bool false)] rfl ⟨rfl, trivial⟩ ⟨rfl, (hs.pick [] rfl).dnil⟩
      ·have hk := hk.lit 30 c42 rfl
       refine cnd_false hk rfl rfl ?_
       refine wp_skip ?_
       refine hK22 _ _ ?_
       apply wp_region_lit
       refine sv (.int .i64 (w64 (u10 + 1))) hk rfl rfl rfl fun a hk => ?_
       refine sm _ rfl hk rfl rfl rfl fun a hk => ?_
       show wpList _ _ _ [] _ _
       refine wpList_nil ?_
       obtain rfl := Option.some.inj H
       obtain ⟨m44, hmm44, h18⟩ := h18
       show ∃ n', n' < _ ∧ I15 n' _ _
       refine ⟨m44, hmm44, ?_⟩
       rw [hI15]
       exact ⟨(w64 (u10 + 1)), h18, (hk.c 1 rfl (hk.c 2 rfl (hk.c 15 rfl (hk.c 16 rfl (hk.c 17 rfl hk.k))))), (hs.pick [] rfl)⟩
     ·have hk := hk.lit 18 c21 rfl
      refine cnd_false hk rfl rfl ?_
      refine wp_exit ?_
      obtain rfl := Option.some.inj H
      show R14 _ _
      rw [hR14]
      exact ⟨h18.symm, hk.k, (hs.pick [] rfl)⟩
   ·intro a w hR0
    rw [hR14] at hR0
    obtain ⟨rfl, hk, hs⟩ := hR0
    have H := HL13
    try dsimp only at H
    refine hK6 _ _ ?_
    apply wp_seq_k; intro K45 hK45
    apply wp_region_lit
    refine sa _ rfl hk rfl rfl rfl fun a hk => ?_
    show wpList _ _ _ [] _ _
    refine wpList_nil ?_
    refine hK45 _ _ ?_
    refine wp_ret ?_
    obtain rfl := Option.some.inj H
    exact fin hk _ [(.bool true)] rfl ⟨rfl, trivial⟩ ⟨rfl, (hs.pick [] rfl).dnil⟩

noncomputable def impl_SameOram.f (x0 : S_Oram) (x1 : S_Oram) : Option (Bool) :=
  ((((slices_Equal_int_int.f x0.Pos x1.Pos).bind fun y11 => (bif y11 then ((slices_Equal_impl_Block_impl_Block.f x0.Stash x1.Stash).bind fun y14 => (bif y14 then ((slices_EqualFunc_impl_Block_impl_Block_impl_Block_impl_Block_L.f x0.Buckets x1.Buckets slices_Equal_impl_Block_impl_Block.f).bind fun y17 => (some y17)) else (some false))) else (some false))) : Option (Bool)).bind fun u6 => (some u6))
set_option maxRecDepth 100000 in
set_option maxHeartbeats 0 in
theorem impl_SameOram_t (w0 : World) (x0 : S_Oram) (A0_0 : Option Addr) (p0_0 : Nat) (k0_0 : Chunk) (v0_0 : View (Lay.int .i64) A0_0 p0_0 x0.Pos k0_0) (w0_0 : Has w0 k0_0) (A0_1 : Option Addr) (p0_1 : Nat) (k0_1 : Chunk) (v0_1 : View L_Block A0_1 p0_1 x0.Stash k0_1) (w0_1 : Has w0 k0_1) (A0_2 : Option Addr) (p0_2 : Nat) (k0_2 : Chunk) (v0_2 : View (Lay.sl L_Block 102) A0_2 p0_2 x0.Buckets k0_2) (w0_2 : Has w0 k0_2) (x1 : S_Oram) (A1_0 : Option Addr) (p1_0 : Nat) (k1_0 : Chunk) (v1_0 : View (Lay.int .i64) A1_0 p1_0 x1.Pos k1_0) (w1_0 : Has w0 k1_0) (A1_1 : Option Addr) (p1_1 : Nat) (k1_1 : Chunk) (v1_1 : View L_Block A1_1 p1_1 x1.Stash k1_1) (w1_1 : Has w0 k1_1) (A1_2 : Option Addr) (p1_2 : Nat) (k1_2 : Chunk) (v1_2 : View (Lay.sl L_Block 102) A1_2 p1_2 x1.Buckets k1_2) (w1_2 : Has w0 k1_2) (r : Bool) (H : impl_SameOram.f x0 x1 = some r) :
    Calls Try.prog 23 #[.agg #[.slice A0_0 x0.Pos.length p0_0, .slice A0_1 x0.Stash.length p0_1, .slice A0_2 x0.Buckets.length p0_2], .agg #[.slice A1_0 x1.Pos.length p1_0, .slice A1_1 x1.Stash.length p1_1, .slice A1_2 x1.Buckets.length p1_2]] w0 (Ret (fun v w => v = .bool r ∧ Sat [] w0 w [] [])) := by
  have hs : Sat [] w0 w0 [(1, k0_0), (2, k0_1), (3, k0_2), (4, k1_0), (5, k1_1), (6, k1_2)] [] := Sat.init w0 [(1, k0_0), (2, k0_1), (3, k0_2), (4, k1_0), (5, k1_1), (6, k1_2)] [] (by simp only [List.mem_cons, List.not_mem_nil, or_false]; rintro x (rfl | rfl | rfl | rfl | rfl | rfl) <;> assumption) (by simp) List.nodup_nil (by simp [blks])
  unfold impl_SameOram.f at H
  refine enter Try.func23 rfl Try.ntmps23 rfl fun a hk => ?_
  apply wp_seq_k; intro K1 hK1
  apply wp_region_lit
  refine sbx 7 hs rfl hk rfl rfl rfl rfl fun b2 w a hk hs => ?_
  refine sbx 8 hs rfl hk rfl rfl rfl rfl fun b3 w a hk hs => ?_
  refine sa _ rfl hk rfl rfl rfl fun a hk => ?_
  show wpList _ _ _ [] _ _
  refine wpList_nil ?_
  refine hK1 _ _ ?_
  apply wp_seq_k; intro K4 hK4
  obtain ⟨o7, h8, HL9⟩ := bind_some H
  clear H
  obtain ⟨R10, hR10⟩ : ∃ R : Act → World → Prop, R = fun a w => ∃ (u6 : Bool), u6 = o7 ∧ Kn [(4, (.bool u6))] 24 a ∧ Sat [] w0 w [(1, k0_0), (2, k0_1), (3, k0_2), (4, k1_0), (5, k1_1), (6, k1_2)] [] := ⟨_, rfl⟩
  refine wp_cutq R10 ?_ ?_
  ·have H := h8
   apply wp_region_lit
   refine sf ⟨b2, 0, none⟩ rfl hk rfl rfl rfl fd31_0 rfl fun a hk => ?_
   refine sl rfl hk rfl rfl rfl ag22 (box_cell hs (k := 7) rfl rfl) fun a hk => ?_
   refine sf ⟨b3, 0, none⟩ rfl hk rfl rfl rfl fd31_0 rfl fun a hk => ?_
   refine sl rfl hk rfl rfl rfl ag22 (box_cell hs (k := 8) rfl rfl) fun a hk => ?_
   obtain ⟨y11, h12, H⟩ := bind_some H
   refine sc rfl en93 hk rfl rfl rfl (slices_Equal_int_int_t _ A0_0 p0_0 x0.Pos _ v0_0 (hs.hasD (k := 1) rfl) A1_0 p1_0 x1.Pos _ v1_0 (hs.hasD (k := 4) rfl) _ h12) ?_
   rintro _ w ⟨rfl, hG⟩ a hk
   have hs := hs.call0 hG
   refine sm _ rfl hk rfl rfl rfl fun a hk => ?_
   rcases cond_some H with ⟨c13, H⟩ | ⟨c13, H⟩
   ·have hk := hk.lit 10 c13 rfl
    refine sf ⟨b2, 1, none⟩ rfl hk rfl rfl rfl fd31_1 rfl fun a hk => ?_
    refine sl rfl hk rfl rfl rfl ag28 (box_cell hs (k := 7) rfl rfl) fun a hk => ?_
    refine sf ⟨b3, 1, none⟩ rfl hk rfl rfl rfl fd31_1 rfl fun a hk => ?_
    refine sl rfl hk rfl rfl rfl ag28 (box_cell hs (k := 8) rfl rfl) fun a hk => ?_
    obtain ⟨y14, h15, H⟩ := bind_some H
    refine sc rfl en94 hk rfl rfl rfl (slices_Equal_impl_Block_impl_Block_t _ A0_1 p0_1 x0.Stash _ v0_1 (hs.hasD (k := 2) rfl) A1_1 p1_1 x1.Stash _ v1_1 (hs.hasD (k := 5) rfl) _ h15) ?_
    rintro _ w ⟨rfl, hG⟩ a hk
    have hs := hs.call0 hG
    refine sv (.bool y14) hk rfl rfl rfl fun a hk => ?_
    refine sm _ rfl hk rfl rfl rfl fun a hk => ?_
    rcases cond_some H with ⟨c16, H⟩ | ⟨c16, H⟩
    ·have hk := hk.lit 17 c16 rfl
     refine sf ⟨b2, 2, none⟩ rfl hk rfl rfl rfl fd31_2 rfl fun a hk => ?_
     refine sl rfl hk rfl rfl rfl ag29 (box_cell hs (k := 7) rfl rfl) fun a hk => ?_
     refine sf ⟨b3, 2, none⟩ rfl hk rfl rfl rfl fd31_2 rfl fun a hk => ?_
     refine sl rfl hk rfl rfl rfl ag29 (box_cell hs (k := 8) rfl rfl) fun a hk => ?_
     obtain ⟨y17, h18, H⟩ := bind_some H
     refine sc rfl en95 hk rfl rfl rfl (slices_EqualFunc_impl_Block_impl_Block_impl_Block_impl_Block_L_t _ A0_2 p0_2 x0.Buckets _ v0_2 (hs.hasD (k := 3) rfl) A1_2 p1_2 x1.Buckets _ v1_2 (hs.hasD (k := 6) rfl) 94 [] en94 slices_Equal_impl_Block_impl_Block.f [] (fun w _ z0A z0p z0 z0k z0v z0w z1A z1p z1 z1k z1v z1w r h => slices_Equal_impl_Block_impl_Block_t w z0A z0p z0 z0k z0v z0w z1A z1p z1 z1k z1v z1w r h) (Has.nil _) _ h18) ?_
     rintro _ w ⟨rfl, hG⟩ a hk
     have hs := hs.call0 hG
     refine sv (.bool y17) hk rfl rfl rfl fun a hk => ?_
     refine sa _ rfl hk rfl rfl rfl fun a hk => ?_
     show wpList _ _ _ [] _ _
     refine wpList_nil ?_
     obtain rfl := Option.some.inj H
     show R10 _ _
     rw [hR10]
     exact ⟨y17, rfl, (hk.c 4 rfl hk.k), (hs.pick [] rfl)⟩
    ·have hk := hk.lit 17 c16 rfl
     refine sk hk rfl rfl rfl fun a hk => ?_
     refine sk hk rfl rfl rfl fun a hk => ?_
     refine sk hk rfl rfl rfl fun a hk => ?_
     refine sk hk rfl rfl rfl fun a hk => ?_
     refine sk hk rfl rfl rfl fun a hk => ?_
     refine sv (.bool false) hk rfl rfl rfl fun a hk => ?_
     refine sa _ rfl hk rfl rfl rfl fun a hk => ?_
     show wpList _ _ _ [] _ _
     refine wpList_nil ?_
     obtain rfl := Option.some.inj H
     show R10 _ _
     rw [hR10]
     exact ⟨false, rfl, (hk.c 4 rfl hk.k), (hs.pick [] rfl)⟩
   ·have hk := hk.lit 10 c13 rfl
    refine sk hk rfl rfl rfl fun a hk => ?_
    refine sk hk rfl rfl rfl fun a hk => ?_
    refine sk hk rfl rfl rfl fun a hk => ?_
    refine sk hk rfl rfl rfl fun a hk => ?_
    refine sk hk rfl rfl rfl fun a hk => ?_
    refine sv (.bool false) hk rfl rfl rfl fun a hk => ?_
    refine sm _ rfl hk rfl rfl rfl fun a hk => ?_
    refine sk hk rfl rfl rfl fun a hk => ?_
    refine sk hk rfl rfl rfl fun a hk => ?_
    refine sk hk rfl rfl rfl fun a hk => ?_
    refine sk hk rfl rfl rfl fun a hk => ?_
    refine sk hk rfl rfl rfl fun a hk => ?_
    refine sv (.bool false) hk rfl rfl rfl fun a hk => ?_
    refine sa _ rfl hk rfl rfl rfl fun a hk => ?_
    show wpList _ _ _ [] _ _
    refine wpList_nil ?_
    obtain rfl := Option.some.inj H
    show R10 _ _
    rw [hR10]
    exact ⟨false, rfl, (hk.c 4 rfl hk.k), (hs.pick [] rfl)⟩
  ·intro a w hR0
   rw [hR10] at hR0
   obtain ⟨u6, rfl, hk, hs⟩ := hR0
   have H := HL9
   try dsimp only at H
   refine hK4 _ _ ?_
   refine wp_ret ?_
   obtain rfl := Option.some.inj H
   exact fin hk _ [(.bool u6)] rfl ⟨rfl, trivial⟩ ⟨rfl, (hs.pick [] rfl).dnil⟩

noncomputable def laws_FnAccess.s0 (y14 : S_Oram) (y30 : Int) (y36 : Int) (y39 : Int) (y42 : S_Oram × Int × Int × Int) (u108 : Int) : Option ((Int) ⊕ Ex (Unit) (Bool)) :=
  (bif (decide (u108 < 12)) then ((impl_ValueAt.f y14 u108).bind fun y122 => ((impl_ValueAt.f y42.1 u108).bind fun y125 => (((bif (u108 == y30) then (some (y39 == 1)) else (some false)) : Option (Bool)).bind fun u131 => (((bif u131 then (some y36) else (some y122.1)) : Option (Int)).bind fun u138 => (((bif (y122.2 != 0) then (some true) else (bif (y125.2 != 0) then (some true) else (bif (y125.1 != u138) then (some true) else (bif (u108 == y30) then (some (y122.1 != y42.2.1)) else (some false))))) : Option (Bool)).bind fun u146 => (bif u146 then (some (.inr (.ret false))) else (some (.inl (w64 (u108 + 1)))))))))) else (some (.inr (.out ()))))
noncomputable def laws_FnAccess.f (l0 : List Int) (l1 : List Int) : Option (Bool) :=
  (((bif (decide ((l0.length : Int) > 1048576)) then (some true) else (some (decide ((l1.length : Int) > 1048576)))) : Option (Bool)).bind fun u5 => (bif u5 then (some true) else ((spec_OramOf.f l0).bind fun y14 => ((laws_at.f l1 0 12).bind fun y30 => ((laws_at.f l1 1 8).bind fun y33 => ((laws_at.f l1 2 900).bind fun y36 => ((laws_at.f l1 3 2).bind fun y39 => ((impl_Access.f y14 y30 (y39 == 1) y36 y33).bind fun y42 => ((spec_Access.f y14 y30 (y39 == 1) y36 y33).bind fun y58 => (((bif (y42.2.2.2 != 0) then (some true) else ((laws_sameOram.f y42.1 y58.1).bind fun y82 => (bif (!y82) then (some true) else (bif (y42.2.1 != y58.2.1) then (some true) else (bif (y42.2.2.1 != y58.2.2.1) then (some true) else (if 0 ≤ y30 ∧ y30 < (y14.Pos.length : Int) then (bif (y42.2.2.1 != (y14.Pos.getD y30.toNat 0)) then (some true) else ((impl_OramOK.f y42.1).bind fun y92 => (bif (!y92) then (some true) else ((impl_OramOK.f y14).bind fun y95 => (bif (!y95) then (some true) else (if 0 ≤ y30 ∧ y30 < (y42.1.Pos.length : Int) then (some ((y42.1.Pos.getD y30.toNat 0) != y33)) else none)))))) else none)))))) : Option (Bool)).bind fun u76 => (bif u76 then (some false) else ((loopO (fun s => laws_FnAccess.s0 y14 y30 y36 y39 y42 s) 0).bind fun o => match o with | .out _ => ((impl_WhereIs.f y42.1 y30).bind fun y159 => (bif (y159.2 != 0) then (some false) else (bif (decide (y159.1 ≥ 0)) then ((impl_OnPath.f y159.1 y33).bind fun y169 => (((bif (y169.2 == 0) then (bif y169.1 then ((impl_SameOram.f y42.1 y58.1).bind fun y180 => (some y180)) else (some false)) else (some false)) : Option (Bool)).bind fun u173 => (some u173))) else (some (decide ((y42.1.Stash.length : Int) > 0)))))) | .ret r => (some r)))))))))))))
set_option maxRecDepth 100000 in
set_option maxHeartbeats 0 in
theorem laws_FnAccess_t (w0 : World) (A0_ : Option Addr) (p0_ : Nat) (l0 : List Int) (k0_ : Chunk) (v0_ : View (Lay.int .u8) A0_ p0_ l0 k0_) (w0_ : Has w0 k0_) (A1_ : Option Addr) (p1_ : Nat) (l1 : List Int) (k1_ : Chunk) (v1_ : View (Lay.int .u8) A1_ p1_ l1 k1_) (w1_ : Has w0 k1_) (r : Bool) (H : laws_FnAccess.f l0 l1 = some r) :
    Calls Try.prog 4 #[.slice A0_ l0.length p0_, .slice A1_ l1.length p1_] w0 (Ret (fun v w => v = .bool r ∧ Sat [] w0 w [] [])) := by
  have hs : Sat [] w0 w0 [(1, k0_), (2, k1_)] [] := Sat.init w0 [(1, k0_), (2, k1_)] [] (by simp only [List.mem_cons, List.not_mem_nil, or_false]; rintro x (rfl | rfl) <;> assumption) (by simp) List.nodup_nil (by simp [blks])
  unfold laws_FnAccess.f at H
  refine enter Try.func4 rfl Try.ntmps4 rfl fun a hk => ?_
  apply wp_seq_k; intro K1 hK1
  apply wp_region_lit
  refine sa _ rfl hk rfl rfl rfl fun a hk => ?_
  show wpList _ _ _ [] _ _
  refine wpList_nil ?_
  refine hK1 _ _ ?_
  apply wp_seq_k; intro K2 hK2
  apply wp_seq_k; intro K3 hK3
  obtain ⟨o6, h7, HL8⟩ := bind_some H
  clear H
  obtain ⟨R9, hR9⟩ : ∃ R : Act → World → Prop, R = fun a w => ∃ (u5 : Bool), u5 = o6 ∧ Kn [(0, (.slice A0_ l0.length p0_)), (1, (.slice A1_ l1.length p1_)), (35, (.bool u5))] 190 a ∧ Sat [] w0 w [(1, k0_), (2, k1_)] [] := ⟨_, rfl⟩
  refine wp_cutq R9 ?_ ?_
  ·have H := h7
   apply wp_region_lit
   refine sm _ rfl hk rfl rfl rfl fun a hk => ?_
   refine sle rfl hk rfl rfl rfl un38 fun a hk => ?_
   refine sv (.bool (decide ((l0.length : Int) > 1048576))) hk rfl rfl rfl fun a hk => ?_
   refine sm _ rfl hk rfl rfl rfl fun a hk => ?_
   rcases cond_some H with ⟨c10, H⟩ | ⟨c10, H⟩
   ·have hk := hk.lit 31 c10 rfl
    refine sk hk rfl rfl rfl fun a hk => ?_
    refine sk hk rfl rfl rfl fun a hk => ?_
    refine sk hk rfl rfl rfl fun a hk => ?_
    refine sv (.bool true) hk rfl rfl rfl fun a hk => ?_
    show wpList _ _ _ [] _ _
    refine wpList_nil ?_
    obtain rfl := Option.some.inj H
    show R9 _ _
    rw [hR9]
    exact ⟨true, rfl, (hk.c 0 rfl (hk.c 1 rfl (hk.c 35 rfl hk.k))), (hs.pick [] rfl)⟩
   ·have hk := hk.lit 31 c10 rfl
    refine sm _ rfl hk rfl rfl rfl fun a hk => ?_
    refine sle rfl hk rfl rfl rfl un38 fun a hk => ?_
    refine sv (.bool (decide ((l1.length : Int) > 1048576))) hk rfl rfl rfl fun a hk => ?_
    refine sv (.bool (decide ((l1.length : Int) > 1048576))) hk rfl rfl rfl fun a hk => ?_
    show wpList _ _ _ [] _ _
    refine wpList_nil ?_
    obtain rfl := Option.some.inj H
    show R9 _ _
    rw [hR9]
    exact ⟨(decide ((l1.length : Int) > 1048576)), rfl, (hk.c 0 rfl (hk.c 1 rfl (hk.c 35 rfl hk.k))), (hs.pick [] rfl)⟩
  ·intro a w hR0
   rw [hR9] at hR0
   obtain ⟨u5, rfl, hk, hs⟩ := hR0
   have H := HL8
   try dsimp only at H
   refine hK3 _ _ ?_
   rcases cond_some H with ⟨c11, H⟩ | ⟨c11, H⟩
   ·have hk := hk.lit 35 c11 rfl
    refine cnd_true hk rfl rfl ?_
    apply wp_seq_k; intro K12 hK12
    apply wp_region_lit
    refine sa _ rfl hk rfl rfl rfl fun a hk => ?_
    show wpList _ _ _ [] _ _
    refine wpList_nil ?_
    refine hK12 _ _ ?_
    refine wp_ret ?_
    obtain rfl := Option.some.inj H
    exact fin hk _ [(.bool true)] rfl ⟨rfl, trivial⟩ ⟨rfl, (hs.pick [] rfl).dnil⟩
   ·have hk := hk.lit 35 c11 rfl
    refine cnd_false hk rfl rfl ?_
    refine wp_skip ?_
    refine hK2 _ _ ?_
    apply wp_seq_k; intro K13 hK13
    apply wp_region_lit
    refine sm _ rfl hk rfl rfl rfl fun a hk => ?_
    obtain ⟨y14, h15, H⟩ := bind_some H
    refine sc rfl en16 hk rfl rfl rfl (spec_OramOf_t _ A0_ p0_ l0 _ v0_ (hs.hasD (k := 1) rfl) _ h15) ?_
    rintro _ w ⟨A16, p17, k18, A20, p21, k22, A24, p25, k26, rfl, o19, o23, o27, hG⟩ a hk
    have hs := hs.call0k hG [4, 5, 6] rfl
    refine salx 7 hs rfl hk rfl rfl ze31 rfl fun b28 w a hk hs => ?_
    refine ssw 7 hs rfl rfl hk rfl rfl rfl rfl sz31 (by simp [Value.oneCell']) rfl fun w a hk hs => ?_
    show wpList _ _ _ [] _ _
    refine wpList_nil ?_
    refine hK13 _ _ ?_
    have hs := hs.pick [(7, 7), (4, 4), (5, 5), (6, 6)] rfl
    apply wp_seq_k; intro K29 hK29
    apply wp_region_lit
    refine sm _ rfl hk rfl rfl rfl fun a hk => ?_
    obtain ⟨y30, h31, H⟩ := bind_some H
    refine sc rfl en17 hk rfl rfl rfl (laws_at_t _ A1_ p1_ l1 _ v1_ (hs.hasD (k := 2) rfl) 0 12 _ h31) ?_
    rintro _ w ⟨rfl, hG⟩ a hk
    have hs := hs.call0 hG
    refine sa _ rfl hk rfl rfl rfl fun a hk => ?_
    show wpList _ _ _ [] _ _
    refine wpList_nil ?_
    refine hK29 _ _ ?_
    apply wp_seq_k; intro K32 hK32
    apply wp_region_lit
    refine sm _ rfl hk rfl rfl rfl fun a hk => ?_
    obtain ⟨y33, h34, H⟩ := bind_some H
    refine sc rfl en17 hk rfl rfl rfl (laws_at_t _ A1_ p1_ l1 _ v1_ (hs.hasD (k := 2) rfl) 1 8 _ h34) ?_
    rintro _ w ⟨rfl, hG⟩ a hk
    have hs := hs.call0 hG
    refine sa _ rfl hk rfl rfl rfl fun a hk => ?_
    show wpList _ _ _ [] _ _
    refine wpList_nil ?_
    refine hK32 _ _ ?_
    apply wp_seq_k; intro K35 hK35
    apply wp_region_lit
    refine sm _ rfl hk rfl rfl rfl fun a hk => ?_
    obtain ⟨y36, h37, H⟩ := bind_some H
    refine sc rfl en17 hk rfl rfl rfl (laws_at_t _ A1_ p1_ l1 _ v1_ (hs.hasD (k := 2) rfl) 2 900 _ h37) ?_
    rintro _ w ⟨rfl, hG⟩ a hk
    have hs := hs.call0 hG
    refine sa _ rfl hk rfl rfl rfl fun a hk => ?_
    show wpList _ _ _ [] _ _
    refine wpList_nil ?_
    refine hK35 _ _ ?_
    apply wp_seq_k; intro K38 hK38
    apply wp_region_lit
    refine sm _ rfl hk rfl rfl rfl fun a hk => ?_
    obtain ⟨y39, h40, H⟩ := bind_some H
    refine sc rfl en17 hk rfl rfl rfl (laws_at_t _ A1_ p1_ l1 _ v1_ (hs.hasD (k := 2) rfl) 3 2 _ h40) ?_
    rintro _ w ⟨rfl, hG⟩ a hk
    have hs := hs.call0 hG
    refine sv (.bool (y39 == 1)) hk rfl rfl rfl fun a hk => ?_
    refine sa _ rfl hk rfl rfl rfl fun a hk => ?_
    show wpList _ _ _ [] _ _
    refine wpList_nil ?_
    refine hK38 _ _ ?_
    have hs := hs.pick [(7, 7), (4, 4), (5, 5), (6, 6)] rfl
    apply wp_seq_k; intro K41 hK41
    apply wp_region_lit
    refine sln [.slice A16 y14.Pos.length p17, .slice A20 y14.Stash.length p21, .slice A24 y14.Buckets.length p25] rfl hk rfl rfl rfl ag31 sz31 (box_cells hs (k := 7) rfl) fun a hk => ?_
    refine sm _ rfl hk rfl rfl rfl fun a hk => ?_
    refine sm _ rfl hk rfl rfl rfl fun a hk => ?_
    refine sm _ rfl hk rfl rfl rfl fun a hk => ?_
    refine sm _ rfl hk rfl rfl rfl fun a hk => ?_
    obtain ⟨y42, h43, H⟩ := bind_some H
    refine sc rfl en12 hk rfl rfl rfl (impl_Access_t _ y14 A16 p17 _ o19.view (hs.hasG (k := 4) rfl) A20 p21 _ o23.view (hs.hasG (k := 5) rfl) A24 p25 _ o27.view (hs.hasG (k := 6) rfl) y30 (y39 == 1) y36 y33 _ h43) ?_
    rintro _ w ⟨A44, p45, k46, A48, p49, k50, A52, p53, k54, rfl, o47, o51, o55, hG⟩ a hk
    have hs := hs.call0k hG [8, 9, 10] rfl
    refine sm _ rfl hk rfl rfl rfl fun a hk => ?_
    refine sv (.agg #[.slice A44 y42.1.Pos.length p45, .slice A48 y42.1.Stash.length p49, .slice A52 y42.1.Buckets.length p53]) hk rfl rfl rfl fun a hk => ?_
    refine sv (.int .i64 y42.2.1) hk rfl rfl rfl fun a hk => ?_
    refine sv (.int .i64 y42.2.2.1) hk rfl rfl rfl fun a hk => ?_
    refine sv (.int .i64 y42.2.2.2) hk rfl rfl rfl fun a hk => ?_
    refine salx 11 hs rfl hk rfl rfl ze31 rfl fun b56 w a hk hs => ?_
    refine ssw 11 hs rfl rfl hk rfl rfl rfl rfl sz31 (by simp [Value.oneCell']) rfl fun w a hk hs => ?_
    refine sa _ rfl hk rfl rfl rfl fun a hk => ?_
    refine sa _ rfl hk rfl rfl rfl fun a hk => ?_
    refine sa _ rfl hk rfl rfl rfl fun a hk => ?_
    show wpList _ _ _ [] _ _
    refine wpList_nil ?_
    refine hK41 _ _ ?_
    apply wp_seq_k; intro K57 hK57
    apply wp_region_lit
    refine sln [.slice A16 y14.Pos.length p17, .slice A20 y14.Stash.length p21, .slice A24 y14.Buckets.length p25] rfl hk rfl rfl rfl ag31 sz31 (box_cells hs (k := 7) rfl) fun a hk => ?_
    refine sm _ rfl hk rfl rfl rfl fun a hk => ?_
    refine sm _ rfl hk rfl rfl rfl fun a hk => ?_
    refine sm _ rfl hk rfl rfl rfl fun a hk => ?_
    refine sm _ rfl hk rfl rfl rfl fun a hk => ?_
    obtain ⟨y58, h59, H⟩ := bind_some H
    refine sc rfl en10 hk rfl rfl rfl (spec_Access_t _ y14 A16 p17 _ o19.view (hs.hasG (k := 4) rfl) A20 p21 _ o23.view (hs.hasG (k := 5) rfl) A24 p25 _ o27.view (hs.hasG (k := 6) rfl) y30 (y39 == 1) y36 y33 _ h59) ?_
    rintro _ w ⟨A60, p61, k62, A64, p65, k66, A68, p69, k70, rfl, o63, o67, o71, hG⟩ a hk
    have hs := hs.call0k hG [12, 13, 14] rfl
    refine sm _ rfl hk rfl rfl rfl fun a hk => ?_
    refine sv (.agg #[.slice A60 y58.1.Pos.length p61, .slice A64 y58.1.Stash.length p65, .slice A68 y58.1.Buckets.length p69]) hk rfl rfl rfl fun a hk => ?_
    refine sv (.int .i64 y58.2.1) hk rfl rfl rfl fun a hk => ?_
    refine sv (.int .i64 y58.2.2.1) hk rfl rfl rfl fun a hk => ?_
    refine sv (.int .i64 y58.2.2.2) hk rfl rfl rfl fun a hk => ?_
    refine salx 15 hs rfl hk rfl rfl ze31 rfl fun b72 w a hk hs => ?_
    refine ssw 15 hs rfl rfl hk rfl rfl rfl rfl sz31 (by simp [Value.oneCell']) rfl fun w a hk hs => ?_
    refine sa _ rfl hk rfl rfl rfl fun a hk => ?_
    refine sa _ rfl hk rfl rfl rfl fun a hk => ?_
    refine sa _ rfl hk rfl rfl rfl fun a hk => ?_
    show wpList _ _ _ [] _ _
    refine wpList_nil ?_
    refine hK57 _ _ ?_
    apply wp_seq_k; intro K73 hK73
    apply wp_seq_k; intro K74 hK74
    obtain ⟨o77, h78, HL79⟩ := bind_some H
    clear H
    obtain ⟨R80, hR80⟩ : ∃ R : Act → World → Prop, R = fun a w => ∃ (u76 : Bool), u76 = o77 ∧ Kn [(5, (.pointer (some ⟨b28, 0, none⟩))), (6, (.int .i64 y30)), (7, (.int .i64 y33)), (8, (.int .i64 y36)), (9, (.bool (y39 == 1))), (10, (.pointer (some ⟨b56, 0, none⟩))), (11, (.int .i64 y42.2.1)), (14, (.pointer (some ⟨b72, 0, none⟩))), (114, (.bool u76))] 190 a ∧ Sat [] w0 w [(1, k0_), (2, k1_)] [(7, [(b28, .cells #[.slice A16 y14.Pos.length p17, .slice A20 y14.Stash.length p21, .slice A24 y14.Buckets.length p25] 31 (0, 0))]), (4, k18), (5, k22), (6, k26), (11, [(b56, .cells #[.slice A44 y42.1.Pos.length p45, .slice A48 y42.1.Stash.length p49, .slice A52 y42.1.Buckets.length p53] 31 (0, 0))]), (8, k46), (9, k50), (10, k54), (15, [(b72, .cells #[.slice A60 y58.1.Pos.length p61, .slice A64 y58.1.Stash.length p65, .slice A68 y58.1.Buckets.length p69] 31 (0, 0))]), (12, k62), (13, k66), (14, k70)] := ⟨_, rfl⟩
    refine wp_cutq R80 ?_ ?_
    ·have H := h78
     apply wp_region_lit
     refine sm _ rfl hk rfl rfl rfl fun a hk => ?_
     refine sv (.bool (y42.2.2.2 != 0)) hk rfl rfl rfl fun a hk => ?_
     refine sm _ rfl hk rfl rfl rfl fun a hk => ?_
     rcases cond_some H with ⟨c81, H⟩ | ⟨c81, H⟩
     ·have hk := hk.lit 71 c81 rfl
      refine sk hk rfl rfl rfl fun a hk => ?_
      refine sk hk rfl rfl rfl fun a hk => ?_
      refine sk hk rfl rfl rfl fun a hk => ?_
      refine sk hk rfl rfl rfl fun a hk => ?_
      refine sv (.bool true) hk rfl rfl rfl fun a hk => ?_
      refine sm _ rfl hk rfl rfl rfl fun a hk => ?_
      refine sk hk rfl rfl rfl fun a hk => ?_
      refine sk hk rfl rfl rfl fun a hk => ?_
      refine sk hk rfl rfl rfl fun a hk => ?_
      refine sv (.bool true) hk rfl rfl rfl fun a hk => ?_
      refine sm _ rfl hk rfl rfl rfl fun a hk => ?_
      refine sk hk rfl rfl rfl fun a hk => ?_
      refine sk hk rfl rfl rfl fun a hk => ?_
      refine sk hk rfl rfl rfl fun a hk => ?_
      refine sv (.bool true) hk rfl rfl rfl fun a hk => ?_
      refine sm _ rfl hk rfl rfl rfl fun a hk => ?_
      refine sk hk rfl rfl rfl fun a hk => ?_
      refine sk hk rfl rfl rfl fun a hk => ?_
      refine sk hk rfl rfl rfl fun a hk => ?_
      refine sk hk rfl rfl rfl fun a hk => ?_
      refine sk hk rfl rfl rfl fun a hk => ?_
      refine sk hk rfl rfl rfl fun a hk => ?_
      refine sk hk rfl rfl rfl fun a hk => ?_
      refine sv (.bool true) hk rfl rfl rfl fun a hk => ?_
      refine sm _ rfl hk rfl rfl rfl fun a hk => ?_
      refine sk hk rfl rfl rfl fun a hk => ?_
      refine sk hk rfl rfl rfl fun a hk => ?_
      refine sk hk rfl rfl rfl fun a hk => ?_
      refine sv (.bool true) hk rfl rfl rfl fun a hk => ?_
      refine sm _ rfl hk rfl rfl rfl fun a hk => ?_
      refine sk hk rfl rfl rfl fun a hk => ?_
      refine sk hk rfl rfl rfl fun a hk => ?_
      refine sk hk rfl rfl rfl fun a hk => ?_
      refine sv (.bool true) hk rfl rfl rfl fun a hk => ?_
      refine sm _ rfl hk rfl rfl rfl fun a hk => ?_
      refine sk hk rfl rfl rfl fun a hk => ?_
      refine sk hk rfl rfl rfl fun a hk => ?_
      refine sk hk rfl rfl rfl fun a hk => ?_
      refine sk hk rfl rfl rfl fun a hk => ?_
      refine sk hk rfl rfl rfl fun a hk => ?_
      refine sk hk rfl rfl rfl fun a hk => ?_
      refine sk hk rfl rfl rfl fun a hk => ?_
      refine sv (.bool true) hk rfl rfl rfl fun a hk => ?_
      show wpList _ _ _ [] _ _
      refine wpList_nil ?_
      obtain rfl := Option.some.inj H
      show R80 _ _
      rw [hR80]
      exact ⟨true, rfl, (hk.c 5 rfl (hk.c 6 rfl (hk.c 7 rfl (hk.c 8 rfl (hk.c 9 rfl (hk.c 10 rfl (hk.c 11 rfl (hk.c 14 rfl (hk.c 114 rfl hk.k))))))))), (hs.pick [(7, 7), (4, 4), (5, 5), (6, 6), (11, 11), (8, 8), (9, 9), (10, 10), (15, 15), (12, 12), (13, 13), (14, 14)] rfl)⟩
     ·have hk := hk.lit 71 c81 rfl
      refine sln [.slice A44 y42.1.Pos.length p45, .slice A48 y42.1.Stash.length p49, .slice A52 y42.1.Buckets.length p53] rfl hk rfl rfl rfl ag31 sz31 (box_cells hs (k := 11) rfl) fun a hk => ?_
      refine sln [.slice A60 y58.1.Pos.length p61, .slice A64 y58.1.Stash.length p65, .slice A68 y58.1.Buckets.length p69] rfl hk rfl rfl rfl ag31 sz31 (box_cells hs (k := 15) rfl) fun a hk => ?_
      obtain ⟨y82, h83, H⟩ := bind_some H
      refine sc rfl en18 hk rfl rfl rfl (laws_sameOram_t _ y42.1 A44 p45 _ o47.view (hs.hasG (k := 8) rfl) A48 p49 _ o51.view (hs.hasG (k := 9) rfl) A52 p53 _ o55.view (hs.hasG (k := 10) rfl) y58.1 A60 p61 _ o63.view (hs.hasG (k := 12) rfl) A64 p65 _ o67.view (hs.hasG (k := 13) rfl) A68 p69 _ o71.view (hs.hasG (k := 14) rfl) _ h83) ?_
      rintro _ w ⟨rfl, hG⟩ a hk
      have hs := hs.call0 hG
      refine sv (.bool (!y82)) hk rfl rfl rfl fun a hk => ?_
      refine sv (.bool (!y82)) hk rfl rfl rfl fun a hk => ?_
      refine sm _ rfl hk rfl rfl rfl fun a hk => ?_
      rcases cond_some H with ⟨c84, H⟩ | ⟨c84, H⟩
      ·have hk := hk.lit 77 c84 rfl
       refine sk hk rfl rfl rfl fun a hk => ?_
       refine sk hk rfl rfl rfl fun a hk => ?_
       refine sk hk rfl rfl rfl fun a hk => ?_
       refine sv (.bool true) hk rfl rfl rfl fun a hk => ?_
       refine sm _ rfl hk rfl rfl rfl fun a hk => ?_
       refine sk hk rfl rfl rfl fun a hk => ?_
       refine sk hk rfl rfl rfl fun a hk => ?_
       refine sk hk rfl rfl rfl fun a hk => ?_
       refine sv (.bool true) hk rfl rfl rfl fun a hk => ?_
       refine sm _ rfl hk rfl rfl rfl fun a hk => ?_
       refine sk hk rfl rfl rfl fun a hk => ?_
       refine sk hk rfl rfl rfl fun a hk => ?_
       refine sk hk rfl rfl rfl fun a hk => ?_
       refine sk hk rfl rfl rfl fun a hk => ?_
       refine sk hk rfl rfl rfl fun a hk => ?_
       refine sk hk rfl rfl rfl fun a hk => ?_
       refine sk hk rfl rfl rfl fun a hk => ?_
       refine sv (.bool true) hk rfl rfl rfl fun a hk => ?_
       refine sm _ rfl hk rfl rfl rfl fun a hk => ?_
       refine sk hk rfl rfl rfl fun a hk => ?_
       refine sk hk rfl rfl rfl fun a hk => ?_
       refine sk hk rfl rfl rfl fun a hk => ?_
       refine sv (.bool true) hk rfl rfl rfl fun a hk => ?_
       refine sm _ rfl hk rfl rfl rfl fun a hk => ?_
       refine sk hk rfl rfl rfl fun a hk => ?_
       refine sk hk rfl rfl rfl fun a hk => ?_
       refine sk hk rfl rfl rfl fun a hk => ?_
       refine sv (.bool true) hk rfl rfl rfl fun a hk => ?_
       refine sm _ rfl hk rfl rfl rfl fun a hk => ?_
       refine sk hk rfl rfl rfl fun a hk => ?_
       refine sk hk rfl rfl rfl fun a hk => ?_
       refine sk hk rfl rfl rfl fun a hk => ?_
       refine sk hk rfl rfl rfl fun a hk => ?_
       refine sk hk rfl rfl rfl fun a hk => ?_
       refine sk hk rfl rfl rfl fun a hk => ?_
       refine sk hk rfl rfl rfl fun a hk => ?_
       refine sv (.bool true) hk rfl rfl rfl fun a hk => ?_
       show wpList _ _ _ [] _ _
       refine wpList_nil ?_
       obtain rfl := Option.some.inj H
       show R80 _ _
       rw [hR80]
       exact ⟨true, rfl, (hk.c 5 rfl (hk.c 6 rfl (hk.c 7 rfl (hk.c 8 rfl (hk.c 9 rfl (hk.c 10 rfl (hk.c 11 rfl (hk.c 14 rfl (hk.c 114 rfl hk.k))))))))), (hs.pick [(7, 7), (4, 4), (5, 5), (6, 6), (11, 11), (8, 8), (9, 9), (10, 10), (15, 15), (12, 12), (13, 13), (14, 14)] rfl)⟩
      ·have hk := hk.lit 77 c84 rfl
       refine sm _ rfl hk rfl rfl rfl fun a hk => ?_
       refine sm _ rfl hk rfl rfl rfl fun a hk => ?_
       refine sv (.bool (y42.2.1 != y58.2.1)) hk rfl rfl rfl fun a hk => ?_
       refine sv (.bool (y42.2.1 != y58.2.1)) hk rfl rfl rfl fun a hk => ?_
       refine sm _ rfl hk rfl rfl rfl fun a hk => ?_
       rcases cond_some H with ⟨c85, H⟩ | ⟨c85, H⟩
       ·have hk := hk.lit 82 c85 rfl
        refine sk hk rfl rfl rfl fun a hk => ?_
        refine sk hk rfl rfl rfl fun a hk => ?_
        refine sk hk rfl rfl rfl fun a hk => ?_
        refine sv (.bool true) hk rfl rfl rfl fun a hk => ?_
        refine sm _ rfl hk rfl rfl rfl fun a hk => ?_
        refine sk hk rfl rfl rfl fun a hk => ?_
        refine sk hk rfl rfl rfl fun a hk => ?_
        refine sk hk rfl rfl rfl fun a hk => ?_
        refine sk hk rfl rfl rfl fun a hk => ?_
        refine sk hk rfl rfl rfl fun a hk => ?_
        refine sk hk rfl rfl rfl fun a hk => ?_
        refine sk hk rfl rfl rfl fun a hk => ?_
        refine sv (.bool true) hk rfl rfl rfl fun a hk => ?_
        refine sm _ rfl hk rfl rfl rfl fun a hk => ?_
        refine sk hk rfl rfl rfl fun a hk => ?_
        refine sk hk rfl rfl rfl fun a hk => ?_
        refine sk hk rfl rfl rfl fun a hk => ?_
        refine sv (.bool true) hk rfl rfl rfl fun a hk => ?_
        refine sm _ rfl hk rfl rfl rfl fun a hk => ?_
        refine sk hk rfl rfl rfl fun a hk => ?_
        refine sk hk rfl rfl rfl fun a hk => ?_
        refine sk hk rfl rfl rfl fun a hk => ?_
        refine sv (.bool true) hk rfl rfl rfl fun a hk => ?_
        refine sm _ rfl hk rfl rfl rfl fun a hk => ?_
        refine sk hk rfl rfl rfl fun a hk => ?_
        refine sk hk rfl rfl rfl fun a hk => ?_
        refine sk hk rfl rfl rfl fun a hk => ?_
        refine sk hk rfl rfl rfl fun a hk => ?_
        refine sk hk rfl rfl rfl fun a hk => ?_
        refine sk hk rfl rfl rfl fun a hk => ?_
        refine sk hk rfl rfl rfl fun a hk => ?_
        refine sv (.bool true) hk rfl rfl rfl fun a hk => ?_
        show wpList _ _ _ [] _ _
        refine wpList_nil ?_
        obtain rfl := Option.some.inj H
        show R80 _ _
        rw [hR80]
        exact ⟨true, rfl, (hk.c 5 rfl (hk.c 6 rfl (hk.c 7 rfl (hk.c 8 rfl (hk.c 9 rfl (hk.c 10 rfl (hk.c 11 rfl (hk.c 14 rfl (hk.c 114 rfl hk.k))))))))), (hs.pick [(7, 7), (4, 4), (5, 5), (6, 6), (11, 11), (8, 8), (9, 9), (10, 10), (15, 15), (12, 12), (13, 13), (14, 14)] rfl)⟩
       ·have hk := hk.lit 82 c85 rfl
        refine sm _ rfl hk rfl rfl rfl fun a hk => ?_
        refine sm _ rfl hk rfl rfl rfl fun a hk => ?_
        refine sv (.bool (y42.2.2.1 != y58.2.2.1)) hk rfl rfl rfl fun a hk => ?_
        refine sv (.bool (y42.2.2.1 != y58.2.2.1)) hk rfl rfl rfl fun a hk => ?_
        refine sm _ rfl hk rfl rfl rfl fun a hk => ?_
        rcases cond_some H with ⟨c86, H⟩ | ⟨c86, H⟩
        ·have hk := hk.lit 87 c86 rfl
         refine sk hk rfl rfl rfl fun a hk => ?_
         refine sk hk rfl rfl rfl fun a hk => ?_
         refine sk hk rfl rfl rfl fun a hk => ?_
         refine sk hk rfl rfl rfl fun a hk => ?_
         refine sk hk rfl rfl rfl fun a hk => ?_
         refine sk hk rfl rfl rfl fun a hk => ?_
         refine sk hk rfl rfl rfl fun a hk => ?_
         refine sv (.bool true) hk rfl rfl rfl fun a hk => ?_
         refine sm _ rfl hk rfl rfl rfl fun a hk => ?_
         refine sk hk rfl rfl rfl fun a hk => ?_
         refine sk hk rfl rfl rfl fun a hk => ?_
         refine sk hk rfl rfl rfl fun a hk => ?_
         refine sv (.bool true) hk rfl rfl rfl fun a hk => ?_
         refine sm _ rfl hk rfl rfl rfl fun a hk => ?_
         refine sk hk rfl rfl rfl fun a hk => ?_
         refine sk hk rfl rfl rfl fun a hk => ?_
         refine sk hk rfl rfl rfl fun a hk => ?_
         refine sv (.bool true) hk rfl rfl rfl fun a hk => ?_
         refine sm _ rfl hk rfl rfl rfl fun a hk => ?_
         refine sk hk rfl rfl rfl fun a hk => ?_
         refine sk hk rfl rfl rfl fun a hk => ?_
         refine sk hk rfl rfl rfl fun a hk => ?_
         refine sk hk rfl rfl rfl fun a hk => ?_
         refine sk hk rfl rfl rfl fun a hk => ?_
         refine sk hk rfl rfl rfl fun a hk => ?_
         refine sk hk rfl rfl rfl fun a hk => ?_
         refine sv (.bool true) hk rfl rfl rfl fun a hk => ?_
         show wpList _ _ _ [] _ _
         refine wpList_nil ?_
         obtain rfl := Option.some.inj H
         show R80 _ _
         rw [hR80]
         exact ⟨true, rfl, (hk.c 5 rfl (hk.c 6 rfl (hk.c 7 rfl (hk.c 8 rfl (hk.c 9 rfl (hk.c 10 rfl (hk.c 11 rfl (hk.c 14 rfl (hk.c 114 rfl hk.k))))))))), (hs.pick [(7, 7), (4, 4), (5, 5), (6, 6), (11, 11), (8, 8), (9, 9), (10, 10), (15, 15), (12, 12), (13, 13), (14, 14)] rfl)⟩
        ·have hk := hk.lit 87 c86 rfl
         refine sm _ rfl hk rfl rfl rfl fun a hk => ?_
         refine sf ⟨b28, 0, none⟩ rfl hk rfl rfl rfl fd31_0 rfl fun a hk => ?_
         refine sl rfl hk rfl rfl rfl ag22 (box_cell hs (k := 7) rfl rfl) fun a hk => ?_
         refine sm _ rfl hk rfl rfl rfl fun a hk => ?_
         rcases ite_some H with ⟨c87, H⟩ | ⟨_, H⟩
         rotate_left
         ·cases H
         obtain ⟨b88, q89, hAc87⟩ := (o19.view).some_ y30 c87.1 c87.2
         refine si rfl hk rfl rfl rfl rfl un22 sz3 c87.1 c87.2 hAc87 fun a hk => ?_
         obtain ⟨_, rfl, e90⟩ := (o19.view).at_ 0 y30 c87.1 c87.2
         refine sl (v := (.int .i64 (y14.Pos.getD y30.toNat 0))) rfl hk rfl rfl rfl ag3 ((e90 0 _ rfl).cell (hs.hasG (k := 4) rfl)) fun a hk => ?_
         refine sv (.bool (y42.2.2.1 != (y14.Pos.getD y30.toNat 0))) hk rfl rfl rfl fun a hk => ?_
         refine sv (.bool (y42.2.2.1 != (y14.Pos.getD y30.toNat 0))) hk rfl rfl rfl fun a hk => ?_
         refine sm _ rfl hk rfl rfl rfl fun a hk => ?_
         rcases cond_some H with ⟨c91, H⟩ | ⟨c91, H⟩
         ·have hk := hk.lit 96 c91 rfl
          refine sk hk rfl rfl rfl fun a hk => ?_
          refine sk hk rfl rfl rfl fun a hk => ?_
          refine sk hk rfl rfl rfl fun a hk => ?_
          refine sv (.bool true) hk rfl rfl rfl fun a hk => ?_
          refine sm _ rfl hk rfl rfl rfl fun a hk => ?_
          refine sk hk rfl rfl rfl fun a hk => ?_
          refine sk hk rfl rfl rfl fun a hk => ?_
          refine sk hk rfl rfl rfl fun a hk => ?_
          refine sv (.bool true) hk rfl rfl rfl fun a hk => ?_
          refine sm _ rfl hk rfl rfl rfl fun a hk => ?_
          refine sk hk rfl rfl rfl fun a hk => ?_
          refine sk hk rfl rfl rfl fun a hk => ?_
          refine sk hk rfl rfl rfl fun a hk => ?_
          refine sk hk rfl rfl rfl fun a hk => ?_
          refine sk hk rfl rfl rfl fun a hk => ?_
          refine sk hk rfl rfl rfl fun a hk => ?_
          refine sk hk rfl rfl rfl fun a hk => ?_
          refine sv (.bool true) hk rfl rfl rfl fun a hk => ?_
          show wpList _ _ _ [] _ _
          refine wpList_nil ?_
          obtain rfl := Option.some.inj H
          show R80 _ _
          rw [hR80]
          exact ⟨true, rfl, (hk.c 5 rfl (hk.c 6 rfl (hk.c 7 rfl (hk.c 8 rfl (hk.c 9 rfl (hk.c 10 rfl (hk.c 11 rfl (hk.c 14 rfl (hk.c 114 rfl hk.k))))))))), (hs.pick [(7, 7), (4, 4), (5, 5), (6, 6), (11, 11), (8, 8), (9, 9), (10, 10), (15, 15), (12, 12), (13, 13), (14, 14)] rfl)⟩
         ·have hk := hk.lit 96 c91 rfl
          refine sln [.slice A44 y42.1.Pos.length p45, .slice A48 y42.1.Stash.length p49, .slice A52 y42.1.Buckets.length p53] rfl hk rfl rfl rfl ag31 sz31 (box_cells hs (k := 11) rfl) fun a hk => ?_
          obtain ⟨y92, h93, H⟩ := bind_some H
          refine sc rfl en19 hk rfl rfl rfl (impl_OramOK_t _ y42.1 A44 p45 _ o47.view (hs.hasG (k := 8) rfl) A48 p49 _ o51.view (hs.hasG (k := 9) rfl) A52 p53 _ o55.view (hs.hasG (k := 10) rfl) _ h93) ?_
          rintro _ w ⟨rfl, hG⟩ a hk
          have hs := hs.call0 hG
          refine sv (.bool (!y92)) hk rfl rfl rfl fun a hk => ?_
          refine sv (.bool (!y92)) hk rfl rfl rfl fun a hk => ?_
          refine sm _ rfl hk rfl rfl rfl fun a hk => ?_
          rcases cond_some H with ⟨c94, H⟩ | ⟨c94, H⟩
          ·have hk := hk.lit 101 c94 rfl
           refine sk hk rfl rfl rfl fun a hk => ?_
           refine sk hk rfl rfl rfl fun a hk => ?_
           refine sk hk rfl rfl rfl fun a hk => ?_
           refine sv (.bool true) hk rfl rfl rfl fun a hk => ?_
           refine sm _ rfl hk rfl rfl rfl fun a hk => ?_
           refine sk hk rfl rfl rfl fun a hk => ?_
           refine sk hk rfl rfl rfl fun a hk => ?_
           refine sk hk rfl rfl rfl fun a hk => ?_
           refine sk hk rfl rfl rfl fun a hk => ?_
           refine sk hk rfl rfl rfl fun a hk => ?_
           refine sk hk rfl rfl rfl fun a hk => ?_
           refine sk hk rfl rfl rfl fun a hk => ?_
           refine sv (.bool true) hk rfl rfl rfl fun a hk => ?_
           show wpList _ _ _ [] _ _
           refine wpList_nil ?_
           obtain rfl := Option.some.inj H
           show R80 _ _
           rw [hR80]
           exact ⟨true, rfl, (hk.c 5 rfl (hk.c 6 rfl (hk.c 7 rfl (hk.c 8 rfl (hk.c 9 rfl (hk.c 10 rfl (hk.c 11 rfl (hk.c 14 rfl (hk.c 114 rfl hk.k))))))))), (hs.pick [(7, 7), (4, 4), (5, 5), (6, 6), (11, 11), (8, 8), (9, 9), (10, 10), (15, 15), (12, 12), (13, 13), (14, 14)] rfl)⟩
          ·have hk := hk.lit 101 c94 rfl
           refine sln [.slice A16 y14.Pos.length p17, .slice A20 y14.Stash.length p21, .slice A24 y14.Buckets.length p25] rfl hk rfl rfl rfl ag31 sz31 (box_cells hs (k := 7) rfl) fun a hk => ?_
           obtain ⟨y95, h96, H⟩ := bind_some H
           refine sc rfl en19 hk rfl rfl rfl (impl_OramOK_t _ y14 A16 p17 _ o19.view (hs.hasG (k := 4) rfl) A20 p21 _ o23.view (hs.hasG (k := 5) rfl) A24 p25 _ o27.view (hs.hasG (k := 6) rfl) _ h96) ?_
           rintro _ w ⟨rfl, hG⟩ a hk
           have hs := hs.call0 hG
           refine sv (.bool (!y95)) hk rfl rfl rfl fun a hk => ?_
           refine sv (.bool (!y95)) hk rfl rfl rfl fun a hk => ?_
           refine sm _ rfl hk rfl rfl rfl fun a hk => ?_
           rcases cond_some H with ⟨c97, H⟩ | ⟨c97, H⟩
           ·have hk := hk.lit 106 c97 rfl
            refine sk hk rfl rfl rfl fun a hk => ?_
            refine sk hk rfl rfl rfl fun a hk => ?_
            refine sk hk rfl rfl rfl fun a hk => ?_
            refine sk hk rfl rfl rfl fun a hk => ?_
            refine sk hk rfl rfl rfl fun a hk => ?_
            refine sk hk rfl rfl rfl fun a hk => ?_
            refine sk hk rfl rfl rfl fun a hk => ?_
            refine sv (.bool true) hk rfl rfl rfl fun a hk => ?_
            show wpList _ _ _ [] _ _
            refine wpList_nil ?_
            obtain rfl := Option.some.inj H
            show R80 _ _
            rw [hR80]
            exact ⟨true, rfl, (hk.c 5 rfl (hk.c 6 rfl (hk.c 7 rfl (hk.c 8 rfl (hk.c 9 rfl (hk.c 10 rfl (hk.c 11 rfl (hk.c 14 rfl (hk.c 114 rfl hk.k))))))))), (hs.pick [(7, 7), (4, 4), (5, 5), (6, 6), (11, 11), (8, 8), (9, 9), (10, 10), (15, 15), (12, 12), (13, 13), (14, 14)] rfl)⟩
           ·have hk := hk.lit 106 c97 rfl
            refine sf ⟨b56, 0, none⟩ rfl hk rfl rfl rfl fd31_0 rfl fun a hk => ?_
            refine sl rfl hk rfl rfl rfl ag22 (box_cell hs (k := 11) rfl rfl) fun a hk => ?_
            refine sm _ rfl hk rfl rfl rfl fun a hk => ?_
            rcases ite_some H with ⟨c98, H⟩ | ⟨_, H⟩
            rotate_left
            ·cases H
            obtain ⟨b99, q100, hAc98⟩ := (o47.view).some_ y30 c98.1 c98.2
            refine si rfl hk rfl rfl rfl rfl un22 sz3 c98.1 c98.2 hAc98 fun a hk => ?_
            obtain ⟨_, rfl, e101⟩ := (o47.view).at_ 0 y30 c98.1 c98.2
            refine sl (v := (.int .i64 (y42.1.Pos.getD y30.toNat 0))) rfl hk rfl rfl rfl ag3 ((e101 0 _ rfl).cell (hs.hasG (k := 8) rfl)) fun a hk => ?_
            refine sm _ rfl hk rfl rfl rfl fun a hk => ?_
            refine sv (.bool ((y42.1.Pos.getD y30.toNat 0) != y33)) hk rfl rfl rfl fun a hk => ?_
            refine sv (.bool ((y42.1.Pos.getD y30.toNat 0) != y33)) hk rfl rfl rfl fun a hk => ?_
            show wpList _ _ _ [] _ _
            refine wpList_nil ?_
            obtain rfl := Option.some.inj H
            show R80 _ _
            rw [hR80]
            exact ⟨((y42.1.Pos.getD y30.toNat 0) != y33), rfl, (hk.c 5 rfl (hk.c 6 rfl (hk.c 7 rfl (hk.c 8 rfl (hk.c 9 rfl (hk.c 10 rfl (hk.c 11 rfl (hk.c 14 rfl (hk.c 114 rfl hk.k))))))))), (hs.pick [(7, 7), (4, 4), (5, 5), (6, 6), (11, 11), (8, 8), (9, 9), (10, 10), (15, 15), (12, 12), (13, 13), (14, 14)] rfl)⟩
    ·intro a w hR0
     rw [hR80] at hR0
     obtain ⟨u76, rfl, hk, hs⟩ := hR0
     have H := HL79
     try dsimp only at H
     refine hK74 _ _ ?_
     rcases cond_some H with ⟨c102, H⟩ | ⟨c102, H⟩
     ·have hk := hk.lit 114 c102 rfl
      refine cnd_true hk rfl rfl ?_
      apply wp_seq_k; intro K103 hK103
      apply wp_region_lit
      refine sa _ rfl hk rfl rfl rfl fun a hk => ?_
      show wpList _ _ _ [] _ _
      refine wpList_nil ?_
      refine hK103 _ _ ?_
      have hs := hs.pick [] rfl
      refine wp_ret ?_
      obtain rfl := Option.some.inj H
      exact fin hk _ [(.bool false)] rfl ⟨rfl, trivial⟩ ⟨rfl, (hs.pick [] rfl).dnil⟩
     ·have hk := hk.lit 114 c102 rfl
      refine cnd_false hk rfl rfl ?_
      refine wp_skip ?_
      refine hK73 _ _ ?_
      have hs := hs.pick [(7, 7), (4, 4), (5, 5), (6, 6), (11, 11), (8, 8), (9, 9), (10, 10), (15, 15), (12, 12), (13, 13), (14, 14)] rfl
      apply wp_seq_k; intro K104 hK104
      apply wp_seq_k; intro K105 hK105
      apply wp_region_lit
      refine sa _ rfl hk rfl rfl rfl fun a hk => ?_
      show wpList _ _ _ [] _ _
      refine wpList_nil ?_
      refine hK105 _ _ ?_
      obtain ⟨o109, h110, HL111⟩ := bind_some H
      clear H
      obtain ⟨R112, hR112⟩ : ∃ R : Act → World → Prop, R = fun a w => o109 = .out () ∧ Kn [(6, (.int .i64 y30)), (7, (.int .i64 y33)), (10, (.pointer (some ⟨b56, 0, none⟩))), (14, (.pointer (some ⟨b72, 0, none⟩)))] 190 a ∧ Sat [] w0 w [(1, k0_), (2, k1_)] [(11, [(b56, .cells #[.slice A44 y42.1.Pos.length p45, .slice A48 y42.1.Stash.length p49, .slice A52 y42.1.Buckets.length p53] 31 (0, 0))]), (8, k46), (9, k50), (10, k54), (15, [(b72, .cells #[.slice A60 y58.1.Pos.length p61, .slice A64 y58.1.Stash.length p65, .slice A68 y58.1.Buckets.length p69] 31 (0, 0))]), (12, k62), (13, k66), (14, k70)] := ⟨_, rfl⟩
      refine wp_cutq R112 ?_ ?_
      ·refine wp_block ?_
       obtain ⟨fu114, h110⟩ := loopO_some h110
       obtain ⟨I113, hI113⟩ : ∃ I : Nat → Act → World → Prop, I = fun fu a w => ∃ (u108 : Int), loopN (fun s => laws_FnAccess.s0 y14 y30 y36 y39 y42 s) fu u108 = some o109 ∧ Kn [(5, (.pointer (some ⟨b28, 0, none⟩))), (6, (.int .i64 y30)), (7, (.int .i64 y33)), (8, (.int .i64 y36)), (9, (.bool (y39 == 1))), (10, (.pointer (some ⟨b56, 0, none⟩))), (11, (.int .i64 y42.2.1)), (14, (.pointer (some ⟨b72, 0, none⟩))), (18, (.int .i64 u108))] 190 a ∧ Sat [] w0 w [(1, k0_), (2, k1_)] [(7, [(b28, .cells #[.slice A16 y14.Pos.length p17, .slice A20 y14.Stash.length p21, .slice A24 y14.Buckets.length p25] 31 (0, 0))]), (4, k18), (5, k22), (6, k26), (11, [(b56, .cells #[.slice A44 y42.1.Pos.length p45, .slice A48 y42.1.Stash.length p49, .slice A52 y42.1.Buckets.length p53] 31 (0, 0))]), (8, k46), (9, k50), (10, k54), (15, [(b72, .cells #[.slice A60 y58.1.Pos.length p61, .slice A64 y58.1.Stash.length p65, .slice A68 y58.1.Buckets.length p69] 31 (0, 0))]), (12, k62), (13, k66), (14, k70)] := ⟨_, rfl⟩
       refine wp_loop_ghost I113 fu114 ?_ ?_
       ·rw [hI113]
        exact ⟨0, h110, (hk.c 5 rfl (hk.c 6 rfl (hk.c 7 rfl (hk.c 8 rfl (hk.c 9 rfl (hk.c 10 rfl (hk.c 11 rfl (hk.c 14 rfl (hk.c 18 rfl hk.k))))))))), (hs.pick [(7, 7), (4, 4), (5, 5), (6, 6), (11, 11), (8, 8), (9, 9), (10, 10), (15, 15), (12, 12), (13, 13), (14, 14)] rfl)⟩
       ·clear h110 hk hs
        intro fu114 a w hI0
        rw [hI113] at hI0
        obtain ⟨u108, hi, hk, hs⟩ := hI0
        obtain ⟨x115, H, h116⟩ := loop_round hi
        try dsimp only at H
        unfold laws_FnAccess.s0 at H
        apply wp_seq_k; intro K117 hK117
        apply wp_seq_k; intro K118 hK118
        apply wp_region_lit
        refine sm _ rfl hk rfl rfl rfl fun a hk => ?_
        refine sv (.bool (decide (u108 < 12))) hk rfl rfl rfl fun a hk => ?_
        show wpList _ _ _ [] _ _
        refine wpList_nil ?_
        refine hK118 _ _ ?_
        rcases cond_some H with ⟨c119, H⟩ | ⟨c119, H⟩
        ·have hk := hk.lit 116 c119 rfl
         refine cnd_true hk rfl rfl ?_
         refine wp_skip ?_
         refine hK117 _ _ ?_
         apply wp_seq_k; intro K120 hK120
         refine wp_block ?_
         apply wp_seq_k; intro K121 hK121
         apply wp_region_lit
         refine sln [.slice A16 y14.Pos.length p17, .slice A20 y14.Stash.length p21, .slice A24 y14.Buckets.length p25] rfl hk rfl rfl rfl ag31 sz31 (box_cells hs (k := 7) rfl) fun a hk => ?_
         refine sm _ rfl hk rfl rfl rfl fun a hk => ?_
         obtain ⟨y122, h123, H⟩ := bind_some H
         refine sc rfl en20 hk rfl rfl rfl (impl_ValueAt_t _ y14 A16 p17 _ o19.view (hs.hasG (k := 4) rfl) A20 p21 _ o23.view (hs.hasG (k := 5) rfl) A24 p25 _ o27.view (hs.hasG (k := 6) rfl) u108 _ h123) ?_
         rintro _ w ⟨rfl, hG⟩ a hk
         have hs := hs.call0 hG
         refine sm _ rfl hk rfl rfl rfl fun a hk => ?_
         refine sv (.int .i64 y122.1) hk rfl rfl rfl fun a hk => ?_
         refine sv (.int .i64 y122.2) hk rfl rfl rfl fun a hk => ?_
         refine sa _ rfl hk rfl rfl rfl fun a hk => ?_
         refine sa _ rfl hk rfl rfl rfl fun a hk => ?_
         show wpList _ _ _ [] _ _
         refine wpList_nil ?_
         refine hK121 _ _ ?_
         have hs := hs.pick [(7, 7), (4, 4), (5, 5), (6, 6), (11, 11), (8, 8), (9, 9), (10, 10), (15, 15), (12, 12), (13, 13), (14, 14)] rfl
         apply wp_seq_k; intro K124 hK124
         apply wp_region_lit
         refine sln [.slice A44 y42.1.Pos.length p45, .slice A48 y42.1.Stash.length p49, .slice A52 y42.1.Buckets.length p53] rfl hk rfl rfl rfl ag31 sz31 (box_cells hs (k := 11) rfl) fun a hk => ?_
         refine sm _ rfl hk rfl rfl rfl fun a hk => ?_
         obtain ⟨y125, h126, H⟩ := bind_some H
         refine sc rfl en20 hk rfl rfl rfl (impl_ValueAt_t _ y42.1 A44 p45 _ o47.view (hs.hasG (k := 8) rfl) A48 p49 _ o51.view (hs.hasG (k := 9) rfl) A52 p53 _ o55.view (hs.hasG (k := 10) rfl) u108 _ h126) ?_
         rintro _ w ⟨rfl, hG⟩ a hk
         have hs := hs.call0 hG
         refine sm _ rfl hk rfl rfl rfl fun a hk => ?_
         refine sv (.int .i64 y125.1) hk rfl rfl rfl fun a hk => ?_
         refine sv (.int .i64 y125.2) hk rfl rfl rfl fun a hk => ?_
         refine sa _ rfl hk rfl rfl rfl fun a hk => ?_
         refine sa _ rfl hk rfl rfl rfl fun a hk => ?_
         show wpList _ _ _ [] _ _
         refine wpList_nil ?_
         refine hK124 _ _ ?_
         apply wp_seq_k; intro K127 hK127
         apply wp_region_lit
         refine sm _ rfl hk rfl rfl rfl fun a hk => ?_
         refine sa _ rfl hk rfl rfl rfl fun a hk => ?_
         show wpList _ _ _ [] _ _
         refine wpList_nil ?_
         refine hK127 _ _ ?_
         apply wp_seq_k; intro K128 hK128
         apply wp_seq_k; intro K129 hK129
         obtain ⟨o132, h133, HL134⟩ := bind_some H
         clear H
         obtain ⟨R135, hR135⟩ : ∃ R : Act → World → Prop, R = fun a w => ∃ (u131 : Bool), u131 = o132 ∧ Kn [(5, (.pointer (some ⟨b28, 0, none⟩))), (6, (.int .i64 y30)), (7, (.int .i64 y33)), (8, (.int .i64 y36)), (9, (.bool (y39 == 1))), (10, (.pointer (some ⟨b56, 0, none⟩))), (11, (.int .i64 y42.2.1)), (14, (.pointer (some ⟨b72, 0, none⟩))), (18, (.int .i64 u108)), (19, (.int .i64 y122.1)), (20, (.int .i64 y122.2)), (21, (.int .i64 y125.1)), (22, (.int .i64 y125.2)), (23, (.int .i64 y122.1)), (137, (.bool u131))] 190 a ∧ Sat [] w0 w [(1, k0_), (2, k1_)] [(7, [(b28, .cells #[.slice A16 y14.Pos.length p17, .slice A20 y14.Stash.length p21, .slice A24 y14.Buckets.length p25] 31 (0, 0))]), (4, k18), (5, k22), (6, k26), (11, [(b56, .cells #[.slice A44 y42.1.Pos.length p45, .slice A48 y42.1.Stash.length p49, .slice A52 y42.1.Buckets.length p53] 31 (0, 0))]), (8, k46), (9, k50), (10, k54), (15, [(b72, .cells #[.slice A60 y58.1.Pos.length p61, .slice A64 y58.1.Stash.length p65, .slice A68 y58.1.Buckets.length p69] 31 (0, 0))]), (12, k62), (13, k66), (14, k70)] := ⟨_, rfl⟩
         refine wp_cutq R135 ?_ ?_
         ·have H := h133
          apply wp_region_lit
          refine sm _ rfl hk rfl rfl rfl fun a hk => ?_
          refine sm _ rfl hk rfl rfl rfl fun a hk => ?_
          refine sv (.bool (u108 == y30)) hk rfl rfl rfl fun a hk => ?_
          refine sm _ rfl hk rfl rfl rfl fun a hk => ?_
          rcases cond_some H with ⟨c136, H⟩ | ⟨c136, H⟩
          ·have hk := hk.lit 135 c136 rfl
           refine sm _ rfl hk rfl rfl rfl fun a hk => ?_
           refine sv (.bool (y39 == 1)) hk rfl rfl rfl fun a hk => ?_
           show wpList _ _ _ [] _ _
           refine wpList_nil ?_
           obtain rfl := Option.some.inj H
           show R135 _ _
           rw [hR135]
           exact ⟨(y39 == 1), rfl, (hk.c 5 rfl (hk.c 6 rfl (hk.c 7 rfl (hk.c 8 rfl (hk.c 9 rfl (hk.c 10 rfl (hk.c 11 rfl (hk.c 14 rfl (hk.c 18 rfl (hk.c 19 rfl (hk.c 20 rfl (hk.c 21 rfl (hk.c 22 rfl (hk.c 23 rfl (hk.c 137 rfl hk.k))))))))))))))), (hs.pick [(7, 7), (4, 4), (5, 5), (6, 6), (11, 11), (8, 8), (9, 9), (10, 10), (15, 15), (12, 12), (13, 13), (14, 14)] rfl)⟩
          ·have hk := hk.lit 135 c136 rfl
           refine sk hk rfl rfl rfl fun a hk => ?_
           refine sv (.bool false) hk rfl rfl rfl fun a hk => ?_
           show wpList _ _ _ [] _ _
           refine wpList_nil ?_
           obtain rfl := Option.some.inj H
           show R135 _ _
           rw [hR135]
           exact ⟨false, rfl, (hk.c 5 rfl (hk.c 6 rfl (hk.c 7 rfl (hk.c 8 rfl (hk.c 9 rfl (hk.c 10 rfl (hk.c 11 rfl (hk.c 14 rfl (hk.c 18 rfl (hk.c 19 rfl (hk.c 20 rfl (hk.c 21 rfl (hk.c 22 rfl (hk.c 23 rfl (hk.c 137 rfl hk.k))))))))))))))), (hs.pick [(7, 7), (4, 4), (5, 5), (6, 6), (11, 11), (8, 8), (9, 9), (10, 10), (15, 15), (12, 12), (13, 13), (14, 14)] rfl)⟩
         ·intro a w hR0
          rw [hR135] at hR0
          obtain ⟨u131, rfl, hk, hs⟩ := hR0
          have H := HL134
          try dsimp only at H
          refine hK129 _ _ ?_
          obtain ⟨o139, h140, HL141⟩ := bind_some H
          clear H
          obtain ⟨R142, hR142⟩ : ∃ R : Act → World → Prop, R = fun a w => ∃ (u138 : Int), u138 = o139 ∧ Kn [(5, (.pointer (some ⟨b28, 0, none⟩))), (6, (.int .i64 y30)), (7, (.int .i64 y33)), (8, (.int .i64 y36)), (9, (.bool (y39 == 1))), (10, (.pointer (some ⟨b56, 0, none⟩))), (11, (.int .i64 y42.2.1)), (14, (.pointer (some ⟨b72, 0, none⟩))), (18, (.int .i64 u108)), (19, (.int .i64 y122.1)), (20, (.int .i64 y122.2)), (21, (.int .i64 y125.1)), (22, (.int .i64 y125.2)), (23, (.int .i64 u138))] 190 a ∧ Sat [] w0 w [(1, k0_), (2, k1_)] [(7, [(b28, .cells #[.slice A16 y14.Pos.length p17, .slice A20 y14.Stash.length p21, .slice A24 y14.Buckets.length p25] 31 (0, 0))]), (4, k18), (5, k22), (6, k26), (11, [(b56, .cells #[.slice A44 y42.1.Pos.length p45, .slice A48 y42.1.Stash.length p49, .slice A52 y42.1.Buckets.length p53] 31 (0, 0))]), (8, k46), (9, k50), (10, k54), (15, [(b72, .cells #[.slice A60 y58.1.Pos.length p61, .slice A64 y58.1.Stash.length p65, .slice A68 y58.1.Buckets.length p69] 31 (0, 0))]), (12, k62), (13, k66), (14, k70)] := ⟨_, rfl⟩
          refine wp_cutq R142 ?_ ?_
          ·have H := h140
           rcases cond_some H with ⟨c143, H⟩ | ⟨c143, H⟩
           ·have hk := hk.lit 137 c143 rfl
            refine cnd_true hk rfl rfl ?_
            apply wp_region_lit
            refine sm _ rfl hk rfl rfl rfl fun a hk => ?_
            refine sa _ rfl hk rfl rfl rfl fun a hk => ?_
            show wpList _ _ _ [] _ _
            refine wpList_nil ?_
            obtain rfl := Option.some.inj H
            show R142 _ _
            rw [hR142]
            exact ⟨y36, rfl, (hk.c 5 rfl (hk.c 6 rfl (hk.c 7 rfl (hk.c 8 rfl (hk.c 9 rfl (hk.c 10 rfl (hk.c 11 rfl (hk.c 14 rfl (hk.c 18 rfl (hk.c 19 rfl (hk.c 20 rfl (hk.c 21 rfl (hk.c 22 rfl (hk.c 23 rfl hk.k)))))))))))))), (hs.pick [(7, 7), (4, 4), (5, 5), (6, 6), (11, 11), (8, 8), (9, 9), (10, 10), (15, 15), (12, 12), (13, 13), (14, 14)] rfl)⟩
           ·have hk := hk.lit 137 c143 rfl
            refine cnd_false hk rfl rfl ?_
            refine wp_skip ?_
            obtain rfl := Option.some.inj H
            show R142 _ _
            rw [hR142]
            exact ⟨y122.1, rfl, (hk.c 5 rfl (hk.c 6 rfl (hk.c 7 rfl (hk.c 8 rfl (hk.c 9 rfl (hk.c 10 rfl (hk.c 11 rfl (hk.c 14 rfl (hk.c 18 rfl (hk.c 19 rfl (hk.c 20 rfl (hk.c 21 rfl (hk.c 22 rfl (hk.c 23 rfl hk.k)))))))))))))), (hs.pick [(7, 7), (4, 4), (5, 5), (6, 6), (11, 11), (8, 8), (9, 9), (10, 10), (15, 15), (12, 12), (13, 13), (14, 14)] rfl)⟩
          ·intro a w hR0
           rw [hR142] at hR0
           obtain ⟨u138, rfl, hk, hs⟩ := hR0
           have H := HL141
           try dsimp only at H
           refine hK128 _ _ ?_
           have hs := hs.pick [(7, 7), (4, 4), (5, 5), (6, 6), (11, 11), (8, 8), (9, 9), (10, 10), (15, 15), (12, 12), (13, 13), (14, 14)] rfl
           apply wp_seq_k; intro K144 hK144
           obtain ⟨o147, h148, HL149⟩ := bind_some H
           clear H
           obtain ⟨R150, hR150⟩ : ∃ R : Act → World → Prop, R = fun a w => ∃ (u146 : Bool), u146 = o147 ∧ Kn [(5, (.pointer (some ⟨b28, 0, none⟩))), (6, (.int .i64 y30)), (7, (.int .i64 y33)), (8, (.int .i64 y36)), (9, (.bool (y39 == 1))), (10, (.pointer (some ⟨b56, 0, none⟩))), (11, (.int .i64 y42.2.1)), (14, (.pointer (some ⟨b72, 0, none⟩))), (18, (.int .i64 u108)), (159, (.bool u146))] 190 a ∧ Sat [] w0 w [(1, k0_), (2, k1_)] [(7, [(b28, .cells #[.slice A16 y14.Pos.length p17, .slice A20 y14.Stash.length p21, .slice A24 y14.Buckets.length p25] 31 (0, 0))]), (4, k18), (5, k22), (6, k26), (11, [(b56, .cells #[.slice A44 y42.1.Pos.length p45, .slice A48 y42.1.Stash.length p49, .slice A52 y42.1.Buckets.length p53] 31 (0, 0))]), (8, k46), (9, k50), (10, k54), (15, [(b72, .cells #[.slice A60 y58.1.Pos.length p61, .slice A64 y58.1.Stash.length p65, .slice A68 y58.1.Buckets.length p69] 31 (0, 0))]), (12, k62), (13, k66), (14, k70)] := ⟨_, rfl⟩
           refine wp_cutq R150 ?_ ?_
           ·have H := h148
            apply wp_region_lit
            refine sm _ rfl hk rfl rfl rfl fun a hk => ?_
            refine sv (.bool (y122.2 != 0)) hk rfl rfl rfl fun a hk => ?_
            refine sm _ rfl hk rfl rfl rfl fun a hk => ?_
            rcases cond_some H with ⟨c151, H⟩ | ⟨c151, H⟩
            ·have hk := hk.lit 141 c151 rfl
             refine sk hk rfl rfl rfl fun a hk => ?_
             refine sk hk rfl rfl rfl fun a hk => ?_
             refine sv (.bool true) hk rfl rfl rfl fun a hk => ?_
             refine sm _ rfl hk rfl rfl rfl fun a hk => ?_
             refine sk hk rfl rfl rfl fun a hk => ?_
             refine sk hk rfl rfl rfl fun a hk => ?_
             refine sk hk rfl rfl rfl fun a hk => ?_
             refine sv (.bool true) hk rfl rfl rfl fun a hk => ?_
             refine sm _ rfl hk rfl rfl rfl fun a hk => ?_
             refine sk hk rfl rfl rfl fun a hk => ?_
             refine sk hk rfl rfl rfl fun a hk => ?_
             refine sk hk rfl rfl rfl fun a hk => ?_
             refine sk hk rfl rfl rfl fun a hk => ?_
             refine sk hk rfl rfl rfl fun a hk => ?_
             refine sk hk rfl rfl rfl fun a hk => ?_
             refine sk hk rfl rfl rfl fun a hk => ?_
             refine sk hk rfl rfl rfl fun a hk => ?_
             refine sv (.bool true) hk rfl rfl rfl fun a hk => ?_
             show wpList _ _ _ [] _ _
             refine wpList_nil ?_
             obtain rfl := Option.some.inj H
             show R150 _ _
             rw [hR150]
             exact ⟨true, rfl, (hk.c 5 rfl (hk.c 6 rfl (hk.c 7 rfl (hk.c 8 rfl (hk.c 9 rfl (hk.c 10 rfl (hk.c 11 rfl (hk.c 14 rfl (hk.c 18 rfl (hk.c 159 rfl hk.k)))))))))), (hs.pick [(7, 7), (4, 4), (5, 5), (6, 6), (11, 11), (8, 8), (9, 9), (10, 10), (15, 15), (12, 12), (13, 13), (14, 14)] rfl)⟩
            ·have hk := hk.lit 141 c151 rfl
             refine sm _ rfl hk rfl rfl rfl fun a hk => ?_
             refine sv (.bool (y125.2 != 0)) hk rfl rfl rfl fun a hk => ?_
             refine sv (.bool (y125.2 != 0)) hk rfl rfl rfl fun a hk => ?_
             refine sm _ rfl hk rfl rfl rfl fun a hk => ?_
             rcases cond_some H with ⟨c152, H⟩ | ⟨c152, H⟩
             ·have hk := hk.lit 145 c152 rfl
              refine sk hk rfl rfl rfl fun a hk => ?_
              refine sk hk rfl rfl rfl fun a hk => ?_
              refine sk hk rfl rfl rfl fun a hk => ?_
              refine sv (.bool true) hk rfl rfl rfl fun a hk => ?_
              refine sm _ rfl hk rfl rfl rfl fun a hk => ?_
              refine sk hk rfl rfl rfl fun a hk => ?_
              refine sk hk rfl rfl rfl fun a hk => ?_
              refine sk hk rfl rfl rfl fun a hk => ?_
              refine sk hk rfl rfl rfl fun a hk => ?_
              refine sk hk rfl rfl rfl fun a hk => ?_
              refine sk hk rfl rfl rfl fun a hk => ?_
              refine sk hk rfl rfl rfl fun a hk => ?_
              refine sk hk rfl rfl rfl fun a hk => ?_
              refine sv (.bool true) hk rfl rfl rfl fun a hk => ?_
              show wpList _ _ _ [] _ _
              refine wpList_nil ?_
              obtain rfl := Option.some.inj H
              show R150 _ _
              rw [hR150]
              exact ⟨true, rfl, (hk.c 5 rfl (hk.c 6 rfl (hk.c 7 rfl (hk.c 8 rfl (hk.c 9 rfl (hk.c 10 rfl (hk.c 11 rfl (hk.c 14 rfl (hk.c 18 rfl (hk.c 159 rfl hk.k)))))))))), (hs.pick [(7, 7), (4, 4), (5, 5), (6, 6), (11, 11), (8, 8), (9, 9), (10, 10), (15, 15), (12, 12), (13, 13), (14, 14)] rfl)⟩
             ·have hk := hk.lit 145 c152 rfl
              refine sm _ rfl hk rfl rfl rfl fun a hk => ?_
              refine sm _ rfl hk rfl rfl rfl fun a hk => ?_
              refine sv (.bool (y125.1 != u138)) hk rfl rfl rfl fun a hk => ?_
              refine sv (.bool (y125.1 != u138)) hk rfl rfl rfl fun a hk => ?_
              refine sm _ rfl hk rfl rfl rfl fun a hk => ?_
              rcases cond_some H with ⟨c153, H⟩ | ⟨c153, H⟩
              ·have hk := hk.lit 150 c153 rfl
               refine sk hk rfl rfl rfl fun a hk => ?_
               refine sk hk rfl rfl rfl fun a hk => ?_
               refine sk hk rfl rfl rfl fun a hk => ?_
               refine sk hk rfl rfl rfl fun a hk => ?_
               refine sk hk rfl rfl rfl fun a hk => ?_
               refine sk hk rfl rfl rfl fun a hk => ?_
               refine sk hk rfl rfl rfl fun a hk => ?_
               refine sk hk rfl rfl rfl fun a hk => ?_
               refine sv (.bool true) hk rfl rfl rfl fun a hk => ?_
               show wpList _ _ _ [] _ _
               refine wpList_nil ?_
               obtain rfl := Option.some.inj H
               show R150 _ _
               rw [hR150]
               exact ⟨true, rfl, (hk.c 5 rfl (hk.c 6 rfl (hk.c 7 rfl (hk.c 8 rfl (hk.c 9 rfl (hk.c 10 rfl (hk.c 11 rfl (hk.c 14 rfl (hk.c 18 rfl (hk.c 159 rfl hk.k)))))))))), (hs.pick [(7, 7), (4, 4), (5, 5), (6, 6), (11, 11), (8, 8), (9, 9), (10, 10), (15, 15), (12, 12), (13, 13), (14, 14)] rfl)⟩
              ·have hk := hk.lit 150 c153 rfl
               refine sm _ rfl hk rfl rfl rfl fun a hk => ?_
               refine sm _ rfl hk rfl rfl rfl fun a hk => ?_
               refine sv (.bool (u108 == y30)) hk rfl rfl rfl fun a hk => ?_
               refine sm _ rfl hk rfl rfl rfl fun a hk => ?_
               rcases cond_some H with ⟨c154, H⟩ | ⟨c154, H⟩
               ·have hk := hk.lit 154 c154 rfl
                refine sm _ rfl hk rfl rfl rfl fun a hk => ?_
                refine sm _ rfl hk rfl rfl rfl fun a hk => ?_
                refine sv (.bool (y122.1 != y42.2.1)) hk rfl rfl rfl fun a hk => ?_
                refine sv (.bool (y122.1 != y42.2.1)) hk rfl rfl rfl fun a hk => ?_
                refine sv (.bool (y122.1 != y42.2.1)) hk rfl rfl rfl fun a hk => ?_
                show wpList _ _ _ [] _ _
                refine wpList_nil ?_
                obtain rfl := Option.some.inj H
                show R150 _ _
                rw [hR150]
                exact ⟨(y122.1 != y42.2.1), rfl, (hk.c 5 rfl (hk.c 6 rfl (hk.c 7 rfl (hk.c 8 rfl (hk.c 9 rfl (hk.c 10 rfl (hk.c 11 rfl (hk.c 14 rfl (hk.c 18 rfl (hk.c 159 rfl hk.k)))))))))), (hs.pick [(7, 7), (4, 4), (5, 5), (6, 6), (11, 11), (8, 8), (9, 9), (10, 10), (15, 15), (12, 12), (13, 13), (14, 14)] rfl)⟩
               ·have hk := hk.lit 154 c154 rfl
                refine sk hk rfl rfl rfl fun a hk => ?_
                refine sk hk rfl rfl rfl fun a hk => ?_
                refine sk hk rfl rfl rfl fun a hk => ?_
                refine sv (.bool false) hk rfl rfl rfl fun a hk => ?_
                refine sv (.bool false) hk rfl rfl rfl fun a hk => ?_
                show wpList _ _ _ [] _ _
                refine wpList_nil ?_
                obtain rfl := Option.some.inj H
                show R150 _ _
                rw [hR150]
                exact ⟨false, rfl, (hk.c 5 rfl (hk.c 6 rfl (hk.c 7 rfl (hk.c 8 rfl (hk.c 9 rfl (hk.c 10 rfl (hk.c 11 rfl (hk.c 14 rfl (hk.c 18 rfl (hk.c 159 rfl hk.k)))))))))), (hs.pick [(7, 7), (4, 4), (5, 5), (6, 6), (11, 11), (8, 8), (9, 9), (10, 10), (15, 15), (12, 12), (13, 13), (14, 14)] rfl)⟩
           ·intro a w hR0
            rw [hR150] at hR0
            obtain ⟨u146, rfl, hk, hs⟩ := hR0
            have H := HL149
            try dsimp only at H
            refine hK144 _ _ ?_
            rcases cond_some H with ⟨c155, H⟩ | ⟨c155, H⟩
            ·have hk := hk.lit 159 c155 rfl
             refine cnd_true hk rfl rfl ?_
             apply wp_seq_k; intro K156 hK156
             apply wp_region_lit
             refine sa _ rfl hk rfl rfl rfl fun a hk => ?_
             show wpList _ _ _ [] _ _
             refine wpList_nil ?_
             refine hK156 _ _ ?_
             refine wp_ret ?_
             obtain rfl := Option.some.inj H
             have ho109 := h116
             try dsimp only at ho109
             subst ho109
             have H := HL111
             try dsimp only at H
             obtain rfl := Option.some.inj H
             exact fin hk _ [(.bool false)] rfl ⟨rfl, trivial⟩ ⟨rfl, (hs.pick [] rfl).dnil⟩
            ·have hk := hk.lit 159 c155 rfl
             refine cnd_false hk rfl rfl ?_
             refine wp_skip ?_
             refine hK120 _ _ ?_
             apply wp_region_lit
             refine sm _ rfl hk rfl rfl rfl fun a hk => ?_
             refine sv (.int .i64 (w64 (u108 + 1))) hk rfl rfl rfl fun a hk => ?_
             refine sa _ rfl hk rfl rfl rfl fun a hk => ?_
             show wpList _ _ _ [] _ _
             refine wpList_nil ?_
             obtain rfl := Option.some.inj H
             obtain ⟨m157, hmm157, h116⟩ := h116
             show ∃ n', n' < _ ∧ I113 n' _ _
             refine ⟨m157, hmm157, ?_⟩
             rw [hI113]
             exact ⟨(w64 (u108 + 1)), h116, (hk.c 5 rfl (hk.c 6 rfl (hk.c 7 rfl (hk.c 8 rfl (hk.c 9 rfl (hk.c 10 rfl (hk.c 11 rfl (hk.c 14 rfl (hk.c 18 rfl hk.k))))))))), (hs.pick [(7, 7), (4, 4), (5, 5), (6, 6), (11, 11), (8, 8), (9, 9), (10, 10), (15, 15), (12, 12), (13, 13), (14, 14)] rfl)⟩
        ·have hk := hk.lit 116 c119 rfl
         refine cnd_false hk rfl rfl ?_
         refine wp_exit ?_
         obtain rfl := Option.some.inj H
         show R112 _ _
         rw [hR112]
         exact ⟨h116.symm, (hk.c 6 rfl (hk.c 7 rfl (hk.c 10 rfl (hk.c 14 rfl hk.k)))), (hs.pick [(11, 11), (8, 8), (9, 9), (10, 10), (15, 15), (12, 12), (13, 13), (14, 14)] rfl)⟩
      ·intro a w hR0
       rw [hR112] at hR0
       obtain ⟨rfl, hk, hs⟩ := hR0
       have H := HL111
       try dsimp only at H
       refine hK104 _ _ ?_
       apply wp_seq_k; intro K158 hK158
       apply wp_region_lit
       refine sln [.slice A44 y42.1.Pos.length p45, .slice A48 y42.1.Stash.length p49, .slice A52 y42.1.Buckets.length p53] rfl hk rfl rfl rfl ag31 sz31 (box_cells hs (k := 11) rfl) fun a hk => ?_
       refine sm _ rfl hk rfl rfl rfl fun a hk => ?_
       obtain ⟨y159, h160, H⟩ := bind_some H
       refine sc rfl en21 hk rfl rfl rfl (impl_WhereIs_t _ y42.1 A44 p45 _ o47.view (hs.hasG (k := 8) rfl) A48 p49 _ o51.view (hs.hasG (k := 9) rfl) A52 p53 _ o55.view (hs.hasG (k := 10) rfl) y30 _ h160) ?_
       rintro _ w ⟨rfl, hG⟩ a hk
       have hs := hs.call0 hG
       refine sm _ rfl hk rfl rfl rfl fun a hk => ?_
       refine sv (.int .i64 y159.1) hk rfl rfl rfl fun a hk => ?_
       refine sv (.int .i64 y159.2) hk rfl rfl rfl fun a hk => ?_
       refine sa _ rfl hk rfl rfl rfl fun a hk => ?_
       refine sa _ rfl hk rfl rfl rfl fun a hk => ?_
       show wpList _ _ _ [] _ _
       refine wpList_nil ?_
       refine hK158 _ _ ?_
       apply wp_seq_k; intro K161 hK161
       apply wp_seq_k; intro K162 hK162
       apply wp_region_lit
       refine sm _ rfl hk rfl rfl rfl fun a hk => ?_
       refine sv (.bool (y159.2 != 0)) hk rfl rfl rfl fun a hk => ?_
       show wpList _ _ _ [] _ _
       refine wpList_nil ?_
       refine hK162 _ _ ?_
       have hs := hs.pick [(11, 11), (8, 8), (9, 9), (10, 10), (15, 15), (12, 12), (13, 13), (14, 14)] rfl
       rcases cond_some H with ⟨c163, H⟩ | ⟨c163, H⟩
       ·have hk := hk.lit 167 c163 rfl
        refine cnd_true hk rfl rfl ?_
        apply wp_seq_k; intro K164 hK164
        apply wp_region_lit
        refine sa _ rfl hk rfl rfl rfl fun a hk => ?_
        show wpList _ _ _ [] _ _
        refine wpList_nil ?_
        refine hK164 _ _ ?_
        refine wp_ret ?_
        obtain rfl := Option.some.inj H
        exact fin hk _ [(.bool false)] rfl ⟨rfl, trivial⟩ ⟨rfl, (hs.pick [] rfl).dnil⟩
       ·have hk := hk.lit 167 c163 rfl
        refine cnd_false hk rfl rfl ?_
        refine wp_skip ?_
        refine hK161 _ _ ?_
        apply wp_seq_k; intro K165 hK165
        apply wp_seq_k; intro K166 hK166
        apply wp_region_lit
        refine sm _ rfl hk rfl rfl rfl fun a hk => ?_
        refine sv (.bool (decide (y159.1 ≥ 0))) hk rfl rfl rfl fun a hk => ?_
        show wpList _ _ _ [] _ _
        refine wpList_nil ?_
        refine hK166 _ _ ?_
        rcases cond_some H with ⟨c167, H⟩ | ⟨c167, H⟩
        ·have hk := hk.lit 169 c167 rfl
         refine cnd_true hk rfl rfl ?_
         apply wp_seq_k; intro K168 hK168
         apply wp_region_lit
         refine sm _ rfl hk rfl rfl rfl fun a hk => ?_
         refine sm _ rfl hk rfl rfl rfl fun a hk => ?_
         obtain ⟨y169, h170, H⟩ := bind_some H
         refine sc rfl en22 hk rfl rfl rfl (impl_OnPath_t _ y159.1 y33 _ h170) ?_
         rintro _ w ⟨rfl, hG⟩ a hk
         have hs := hs.call0 hG
         refine sm _ rfl hk rfl rfl rfl fun a hk => ?_
         refine sv (.bool y169.1) hk rfl rfl rfl fun a hk => ?_
         refine sv (.int .i64 y169.2) hk rfl rfl rfl fun a hk => ?_
         refine sa _ rfl hk rfl rfl rfl fun a hk => ?_
         refine sa _ rfl hk rfl rfl rfl fun a hk => ?_
         show wpList _ _ _ [] _ _
         refine wpList_nil ?_
         refine hK168 _ _ ?_
         apply wp_seq_k; intro K171 hK171
         obtain ⟨o174, h175, HL176⟩ := bind_some H
         clear H
         obtain ⟨R177, hR177⟩ : ∃ R : Act → World → Prop, R = fun a w => ∃ (u173 : Bool), u173 = o174 ∧ Kn [(4, (.bool u173))] 190 a ∧ Sat [] w0 w [(1, k0_), (2, k1_)] [] := ⟨_, rfl⟩
         refine wp_cutq R177 ?_ ?_
         ·have H := h175
          apply wp_region_lit
          refine sm _ rfl hk rfl rfl rfl fun a hk => ?_
          refine sv (.bool (y169.2 == 0)) hk rfl rfl rfl fun a hk => ?_
          refine sm _ rfl hk rfl rfl rfl fun a hk => ?_
          rcases cond_some H with ⟨c178, H⟩ | ⟨c178, H⟩
          ·have hk := hk.lit 178 c178 rfl
           refine sm _ rfl hk rfl rfl rfl fun a hk => ?_
           refine sv (.bool y169.1) hk rfl rfl rfl fun a hk => ?_
           refine sm _ rfl hk rfl rfl rfl fun a hk => ?_
           rcases cond_some H with ⟨c179, H⟩ | ⟨c179, H⟩
           ·have hk := hk.lit 181 c179 rfl
            refine sln [.slice A44 y42.1.Pos.length p45, .slice A48 y42.1.Stash.length p49, .slice A52 y42.1.Buckets.length p53] rfl hk rfl rfl rfl ag31 sz31 (box_cells hs (k := 11) rfl) fun a hk => ?_
            refine sln [.slice A60 y58.1.Pos.length p61, .slice A64 y58.1.Stash.length p65, .slice A68 y58.1.Buckets.length p69] rfl hk rfl rfl rfl ag31 sz31 (box_cells hs (k := 15) rfl) fun a hk => ?_
            obtain ⟨y180, h181, H⟩ := bind_some H
            refine sc rfl en23 hk rfl rfl rfl (impl_SameOram_t _ y42.1 A44 p45 _ o47.view (hs.hasG (k := 8) rfl) A48 p49 _ o51.view (hs.hasG (k := 9) rfl) A52 p53 _ o55.view (hs.hasG (k := 10) rfl) y58.1 A60 p61 _ o63.view (hs.hasG (k := 12) rfl) A64 p65 _ o67.view (hs.hasG (k := 13) rfl) A68 p69 _ o71.view (hs.hasG (k := 14) rfl) _ h181) ?_
            rintro _ w ⟨rfl, hG⟩ a hk
            have hs := hs.call0 hG
            refine sv (.bool y180) hk rfl rfl rfl fun a hk => ?_
            refine sa _ rfl hk rfl rfl rfl fun a hk => ?_
            show wpList _ _ _ [] _ _
            refine wpList_nil ?_
            obtain rfl := Option.some.inj H
            show R177 _ _
            rw [hR177]
            exact ⟨y180, rfl, (hk.c 4 rfl hk.k), (hs.pick [] rfl)⟩
           ·have hk := hk.lit 181 c179 rfl
            refine sk hk rfl rfl rfl fun a hk => ?_
            refine sk hk rfl rfl rfl fun a hk => ?_
            refine sk hk rfl rfl rfl fun a hk => ?_
            refine sv (.bool false) hk rfl rfl rfl fun a hk => ?_
            refine sa _ rfl hk rfl rfl rfl fun a hk => ?_
            show wpList _ _ _ [] _ _
            refine wpList_nil ?_
            obtain rfl := Option.some.inj H
            show R177 _ _
            rw [hR177]
            exact ⟨false, rfl, (hk.c 4 rfl hk.k), (hs.pick [] rfl)⟩
          ·have hk := hk.lit 178 c178 rfl
           refine sk hk rfl rfl rfl fun a hk => ?_
           refine sv (.bool false) hk rfl rfl rfl fun a hk => ?_
           refine sm _ rfl hk rfl rfl rfl fun a hk => ?_
           refine sk hk rfl rfl rfl fun a hk => ?_
           refine sk hk rfl rfl rfl fun a hk => ?_
           refine sk hk rfl rfl rfl fun a hk => ?_
           refine sv (.bool false) hk rfl rfl rfl fun a hk => ?_
           refine sa _ rfl hk rfl rfl rfl fun a hk => ?_
           show wpList _ _ _ [] _ _
           refine wpList_nil ?_
           obtain rfl := Option.some.inj H
           show R177 _ _
           rw [hR177]
           exact ⟨false, rfl, (hk.c 4 rfl hk.k), (hs.pick [] rfl)⟩
         ·intro a w hR0
          rw [hR177] at hR0
          obtain ⟨u173, rfl, hk, hs⟩ := hR0
          have H := HL176
          try dsimp only at H
          refine hK171 _ _ ?_
          have hs := hs.pick [] rfl
          refine wp_ret ?_
          obtain rfl := Option.some.inj H
          exact fin hk _ [(.bool u173)] rfl ⟨rfl, trivial⟩ ⟨rfl, (hs.pick [] rfl).dnil⟩
        ·have hk := hk.lit 169 c167 rfl
         refine cnd_false hk rfl rfl ?_
         refine wp_skip ?_
         refine hK165 _ _ ?_
         apply wp_seq_k; intro K182 hK182
         apply wp_region_lit
         refine sf ⟨b56, 1, none⟩ rfl hk rfl rfl rfl fd31_1 rfl fun a hk => ?_
         refine sl rfl hk rfl rfl rfl ag28 (box_cell hs (k := 11) rfl rfl) fun a hk => ?_
         refine sle rfl hk rfl rfl rfl un28 fun a hk => ?_
         refine sv (.bool (decide ((y42.1.Stash.length : Int) > 0))) hk rfl rfl rfl fun a hk => ?_
         refine sa _ rfl hk rfl rfl rfl fun a hk => ?_
         show wpList _ _ _ [] _ _
         refine wpList_nil ?_
         refine hK182 _ _ ?_
         have hs := hs.pick [] rfl
         refine wp_ret ?_
         obtain rfl := Option.some.inj H
         exact fin hk _ [(.bool (decide ((y42.1.Stash.length : Int) > 0)))] rfl ⟨rfl, trivial⟩ ⟨rfl, (hs.pick [] rfl).dnil⟩

end Go.Proofs.Ytjlhmcieholdiaa
