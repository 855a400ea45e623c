/- Further functions. -/
import Derived.Test.YtjlhmcieholdiaaGFAccessn1
namespace Go.Proofs.Ytjlhmcieholdiaa
open Go Go.Z Go.Proofs Go.MuLone Go.ChangeShapes Go.WideShapes Go.ChangeAt Go.RowKit
set_option linter.unusedVariables false
set_option linter.unusedSimpArgs false
noncomputable def spec_l08Access.s0 (y5 : S_Oram) (y25 : (List Int)) (u53 : List S_Block) (u48 : Int) (u49 : List (List S_Block)) : Option (((List S_Block) × Int × (List (List S_Block))) ⊕ Ex ((List S_Block) × (List (List S_Block))) (S_Oram × Int × Int)) :=
  (bif (decide (u48 < (y25.length : Int))) then (if 0 ≤ u48 ∧ u48 < (y25.length : Int) then (if 0 ≤ (y25.getD u48.toNat 0) ∧ (y25.getD u48.toNat 0) < (y5.Buckets.length : Int) then (if u53.length + (u49.getD (y25.getD u48.toNat 0).toNat []).length ≤ 1073741824 then (if 0 ≤ u48 ∧ u48 < (y25.length : Int) then (if 0 ≤ (y25.getD u48.toNat 0) ∧ (y25.getD u48.toNat 0) < (y5.Buckets.length : Int) then (some (.inl ((u53 ++ (u49.getD (y25.getD u48.toNat 0).toNat [])), (w64 (u48 + 1)), (u49.set (y25.getD u48.toNat 0).toNat ([] : List S_Block))))) else none) else none) else none) else none) else none) else (some (.inr (.out (u53, u49)))))
noncomputable def spec_l08Access.s1 (x1 : Int) (u58 : List S_Block) (u128 : Int) (u134 : List S_Block) (u133 : Int) : Option ((Int × (List S_Block) × Int) ⊕ Ex (Int × (List S_Block)) (S_Oram × Int × Int)) :=
  (bif (decide (u133 < (u58.length : Int))) then (if 0 ≤ u133 ∧ u133 < (u58.length : Int) then (((bif (((u58.getD u133.toNat z_Block).Id) == x1) then (if 0 ≤ u133 ∧ u133 < (u58.length : Int) then (some ((u58.getD u133.toNat z_Block).Value, u134)) else none) else (if 0 ≤ u133 ∧ u133 < (u58.length : Int) then (if u134.length + ([(u58.getD u133.toNat z_Block)]).length ≤ 1073741824 then (some (u128, (u134 ++ ([(u58.getD u133.toNat z_Block)])))) else none) else none)) : Option (Int × (List S_Block))).bind fun o => match o with | (u163, u164) => (some (.inl (u163, u164, (w64 (u133 + 1)))))) else none) else (some (.inr (.out (u128, u134)))))
noncomputable def spec_l08Access.s3 (y5 : S_Oram) (y25 : (List Int)) (u222 : List S_Block) (u217 : Int) (u265 : List S_Block) (u260 : Int) (u261 : List (List S_Block)) : Option (((List S_Block) × Int × (List (List S_Block))) ⊕ Ex ((List S_Block) × (List (List S_Block))) (S_Oram × Int × Int)) :=
  (bif (decide (u260 < (u222.length : Int))) then (((if 0 ≤ u217 ∧ u217 < (y25.length : Int) then (if 0 ≤ (y25.getD u217.toNat 0) ∧ (y25.getD u217.toNat 0) < (y5.Buckets.length : Int) then (bif (decide (((u261.getD (y25.getD u217.toNat 0).toNat []).length : Int) < 2)) then (if 0 ≤ u217 ∧ u217 < (y25.length : Int) then (if 0 ≤ u260 ∧ u260 < (u222.length : Int) then ((spec_l08On.f (y25.getD u217.toNat 0) ((u222.getD u260.toNat z_Block).Leaf)).bind fun y318 => (some y318)) else none) else none) else (some false)) else none) else none) : Option (Bool)).bind fun u293 => (((bif u293 then (if 0 ≤ u217 ∧ u217 < (y25.length : Int) then (if 0 ≤ u217 ∧ u217 < (y25.length : Int) then (if 0 ≤ (y25.getD u217.toNat 0) ∧ (y25.getD u217.toNat 0) < (y5.Buckets.length : Int) then (if 0 ≤ u260 ∧ u260 < (u222.length : Int) then (if (u261.getD (y25.getD u217.toNat 0).toNat []).length + ([(u222.getD u260.toNat z_Block)]).length ≤ 1073741824 then (if 0 ≤ (y25.getD u217.toNat 0) ∧ (y25.getD u217.toNat 0) < (y5.Buckets.length : Int) then (some (u265, (u261.set (y25.getD u217.toNat 0).toNat ((u261.getD (y25.getD u217.toNat 0).toNat []) ++ ([(u222.getD u260.toNat z_Block)]))))) else none) else none) else none) else none) else none) else none) else (if 0 ≤ u260 ∧ u260 < (u222.length : Int) then (if u265.length + ([(u222.getD u260.toNat z_Block)]).length ≤ 1073741824 then (some ((u265 ++ ([(u222.getD u260.toNat z_Block)])), u261)) else none) else none)) : Option ((List S_Block) × (List (List S_Block)))).bind fun o => match o with | (u321, u326) => (some (.inl (u321, (w64 (u260 + 1)), u326))))) else (some (.inr (.out (u265, u261)))))
noncomputable def spec_l08Access.s2 (y5 : S_Oram) (y25 : (List Int)) (u222 : List S_Block) (u217 : Int) (u218 : List (List S_Block)) : Option (((List S_Block) × Int × (List (List S_Block))) ⊕ Ex ((List S_Block) × (List (List S_Block))) (S_Oram × Int × Int)) :=
  (bif (decide (u217 ≥ 0)) then ((loopO (fun s => spec_l08Access.s3 y5 y25 u222 u217 s.1 s.2.1 s.2.2) (([] : List S_Block), 0, u218)).bind fun o => match o with | .out (u270, u275) => (some (.inl (u270, (w64 (u217 - 1)), u275))) | .ret r => (some (.inr (.ret r)))) else (some (.inr (.out (u222, u218)))))
noncomputable def spec_l08Access.f (x0 : S_Oram) (x1 : Int) (x2 : Bool) (x3 : Int) (x4 : Int) : Option (S_Oram × Int × Int) :=
  ((spec_l08Own.f x0).bind fun y5 => (if 0 ≤ x1 ∧ x1 < (y5.Pos.length : Int) then ((spec_l08Path.f (y5.Pos.getD x1.toNat 0)).bind fun y25 => (if ([] : List S_Block).length + y5.Stash.length ≤ 1073741824 then ((loopO (fun s => spec_l08Access.s0 y5 y25 s.1 s.2.1 s.2.2) ((([] : List S_Block) ++ y5.Stash), 0, y5.Buckets)).bind fun o => match o with | .out (u58, u63) => (if 0 ≤ x1 ∧ x1 < (y5.Pos.length : Int) then ((loopO (fun s => spec_l08Access.s1 x1 u58 s.1 s.2.1 s.2.2) (0, ([] : List S_Block), 0)).bind fun o => match o with | .out (u139, u140) => (((bif (!x2) then (some u139) else (some x3)) : Option (Int)).bind fun u194 => (if u140.length + ([(⟨x1, x4, u194⟩ : S_Block)]).length ≤ 1073741824 then ((loopO (fun s => spec_l08Access.s2 y5 y25 s.1 s.2.1 s.2.2) ((u140 ++ ([(⟨x1, x4, u194⟩ : S_Block)])), (w64 ((y25.length : Int) - 1)), u63)).bind fun o => match o with | .out (u227, u232) => (some ((⟨(y5.Pos.set x1.toNat x4), u227, u232⟩ : S_Oram), u139, (y5.Pos.getD x1.toNat 0))) | .ret r => (some r)) else none)) | .ret r => (some r)) else none) | .ret r => (some r)) else none)) else none))
set_option maxRecDepth 100000 in
set_option maxHeartbeats 0 in
theorem spec_l08Access_t (w0 : World) (x0 : S_Oram) (A0_0 : Option Addr) (p0_0 : Nat) (k0_0 : Chunk) (v0_0 : View (Lay.int .i64) A0_0 p0_0 x0.Pos k0_0) (w0_0 : Has w0 k0_0) (A0_1 : Option Addr) (p0_1 : Nat) (k0_1 : Chunk) (v0_1 : View L_Block A0_1 p0_1 x0.Stash k0_1) (w0_1 : Has w0 k0_1) (A0_2 : Option Addr) (p0_2 : Nat) (k0_2 : Chunk) (v0_2 : View (Lay.sl L_Block 102) A0_2 p0_2 x0.Buckets k0_2) (w0_2 : Has w0 k0_2) (x1 : Int) (x2 : Bool) (x3 : Int) (x4 : Int) (r : S_Oram × Int × Int) (H : spec_l08Access.f x0 x1 x2 x3 x4 = some r) :
    Calls Try.prog 59 #[.agg #[.slice A0_0 x0.Pos.length p0_0, .slice A0_1 x0.Stash.length p0_1, .slice A0_2 x0.Buckets.length p0_2], .int .i64 x1, .bool x2, .int .i64 x3, .int .i64 x4] w0 (Ret (fun v w => ∃ (A0 : Option Addr) (p0 : Nat) (k0 : Chunk), ∃ (A1 : Option Addr) (p1 : Nat) (k1 : Chunk), ∃ (A2 : Option Addr) (p2 : Nat) (k2 : Chunk), v = .tuple #[.agg #[.slice A0 r.1.Pos.length p0, .slice A1 r.1.Stash.length p1, .slice A2 r.1.Buckets.length p2], .int .i64 r.2.1, .int .i64 r.2.2] ∧ Own (Lay.int .i64) 3 A0 p0 r.1.Pos k0 ∧ Own L_Block 102 A1 p1 r.1.Stash k1 ∧ Own (Lay.sl L_Block 102) 28 A2 p2 r.1.Buckets k2 ∧ Sat [] w0 w [] [(0, k0), (1, k1), (2, k2)])) := by
  have hs : Sat [] w0 w0 [(1, k0_0), (2, k0_1), (3, k0_2)] [] := Sat.init w0 [(1, k0_0), (2, k0_1), (3, k0_2)] [] (by simp only [List.mem_cons, List.not_mem_nil, or_false]; rintro x (rfl | rfl | rfl) <;> assumption) (by simp) List.nodup_nil (by simp [blks])
  unfold spec_l08Access.f at H
  refine enter Try.func59 rfl Try.ntmps59 rfl fun a hk => ?_
  apply wp_seq_k; intro K1 hK1
  apply wp_region_lit
  refine sbx 4 hs rfl hk rfl rfl rfl rfl fun b2 w a hk hs => ?_
  refine salx 5 hs rfl hk rfl rfl ze31 rfl fun b3 w a hk hs => ?_
  refine sa _ rfl hk rfl rfl rfl fun a hk => ?_
  refine sa _ rfl hk rfl rfl rfl fun a hk => ?_
  show wpList _ _ _ [] _ _
  refine wpList_nil ?_
  refine hK1 _ _ ?_
  apply wp_seq_k; intro K4 hK4
  apply wp_region_lit
  refine sln [.slice A0_0 x0.Pos.length p0_0, .slice A0_1 x0.Stash.length p0_1, .slice A0_2 x0.Buckets.length p0_2] rfl hk rfl rfl rfl ag31 sz31 (box_cells hs (k := 4) rfl) fun a hk => ?_
  obtain ⟨y5, h6, H⟩ := bind_some H
  refine sc rfl en126 hk rfl rfl rfl (spec_l08Own_t _ x0 A0_0 p0_0 _ v0_0 (hs.hasD (k := 1) rfl) A0_1 p0_1 _ v0_1 (hs.hasD (k := 2) rfl) A0_2 p0_2 _ v0_2 (hs.hasD (k := 3) rfl) _ h6) ?_
  rintro _ w ⟨A7, p8, k9, A11, p12, k13, A15, p16, k17, rfl, o10, o14, o18, hG⟩ a hk
  have hs := hs.call0k hG [6, 7, 8] rfl
  refine ssw 4 hs rfl rfl hk rfl rfl rfl rfl sz31 (by simp [Value.oneCell']) rfl fun w a hk hs => ?_
  show wpList _ _ _ [] _ _
  refine wpList_nil ?_
  refine hK4 _ _ ?_
  apply wp_seq_k; intro K19 hK19
  apply wp_region_lit
  refine sf ⟨b2, 0, none⟩ rfl hk rfl rfl rfl fd31_0 rfl fun a hk => ?_
  refine sl rfl hk rfl rfl rfl ag22 (box_cell hs (k := 4) rfl rfl) fun a hk => ?_
  refine sm _ rfl hk rfl rfl rfl fun a hk => ?_
  rcases ite_some H with ⟨c20, H⟩ | ⟨_, H⟩
  rotate_left
  ·cases H
  obtain ⟨b21, q22, hAc20⟩ := (o10.view).some_ x1 c20.1 c20.2
  refine si rfl hk rfl rfl rfl rfl un22 sz3 c20.1 c20.2 hAc20 fun a hk => ?_
  obtain ⟨_, rfl, e23⟩ := (o10.view).at_ 0 x1 c20.1 c20.2
  refine sl (v := (.int .i64 (y5.Pos.getD x1.toNat 0))) rfl hk rfl rfl rfl ag3 ((e23 0 _ rfl).cell (hs.hasG (k := 6) rfl)) fun a hk => ?_
  refine sa _ rfl hk rfl rfl rfl fun a hk => ?_
  show wpList _ _ _ [] _ _
  refine wpList_nil ?_
  refine hK19 _ _ ?_
  apply wp_seq_k; intro K24 hK24
  apply wp_region_lit
  refine sm _ rfl hk rfl rfl rfl fun a hk => ?_
  obtain ⟨y25, h26, H⟩ := bind_some H
  refine sc rfl en127 hk rfl rfl rfl (spec_l08Path_t _ (y5.Pos.getD x1.toNat 0) _ h26) ?_
  rintro _ w ⟨A27, p28, k29, rfl, o30, hG⟩ a hk
  have hs := hs.call0k hG [9] rfl
  refine sa _ rfl hk rfl rfl rfl fun a hk => ?_
  show wpList _ _ _ [] _ _
  refine wpList_nil ?_
  refine hK24 _ _ ?_
  have hs := hs.pick [(9, 9), (4, 4), (6, 6), (7, 7), (8, 8), (5, 5)] rfl
  apply wp_seq_k; intro K31 hK31
  apply wp_region_lit
  refine sbs0 10 L_Block hs rfl hk rfl rfl un28 sz102 fun b32 k33 w a hk o34 hs => ?_
  refine sf ⟨b2, 1, none⟩ rfl hk rfl rfl rfl fd31_1 rfl fun a hk => ?_
  refine sl rfl hk rfl rfl rfl ag28 (box_cell hs (k := 4) rfl rfl) fun a hk => ?_
  rcases ite_some H with ⟨c35, H⟩ | ⟨_, H⟩
  rotate_left
  ·cases H
  refine sap 10 (xs := ([] : List S_Block)) (ys := y5.Stash) (flat_flat : (L_Block).Flat) hs rfl o34 o14.view (hs.hasG (k := 7) rfl) rfl hk rfl rfl rfl rfl rfl rfl un28 mk102 rfl rfl rfl c35 fun A36 p37 k38 w a hk o39 hs => ?_
  refine sa _ rfl hk rfl rfl rfl fun a hk => ?_
  show wpList _ _ _ [] _ _
  refine wpList_nil ?_
  refine hK31 _ _ ?_
  apply wp_seq_k; intro K40 hK40
  apply wp_seq_k; intro K41 hK41
  apply wp_region_lit
  refine sa _ rfl hk rfl rfl rfl fun a hk => ?_
  show wpList _ _ _ [] _ _
  refine wpList_nil ?_
  refine hK41 _ _ ?_
  obtain ⟨o67, h68, HL69⟩ := bind_some H
  clear H
  obtain ⟨R70, hR70⟩ : ∃ R : Act → World → Prop, R = fun a w => ∃ (u58 : List S_Block) (u63 : List (List S_Block)) (A61 : Option Addr) (p62 : Nat) (k59 : Chunk) (k64 : Chunk), o67 = .out (u58, u63) ∧ Kn [(1, (.int .i64 x1)), (2, (.bool x2)), (3, (.int .i64 x3)), (4, (.int .i64 x4)), (5, (.pointer (some ⟨b2, 0, none⟩))), (10, (.pointer (some ⟨b3, 0, none⟩))), (13, (.int .i64 (y5.Pos.getD x1.toNat 0))), (14, (.slice A27 y25.length p28)), (15, (.slice A61 u58.length p62))] 171 a ∧ Sat [] w0 w [(1, k0_0), (2, k0_1), (3, k0_2)] [(9, k29), (10, k59), (4, [(b2, .cells #[.slice A7 y5.Pos.length p8, .slice A11 y5.Stash.length p12, .slice A15 y5.Buckets.length p16] 31 (0, 0))]), (6, k9), (7, k13), (8, k64), (5, [(b3, .cells #[.slice none 0 0, .slice none 0 0, .slice none 0 0] 31 (0, 0))])] ∧ Own L_Block 102 A61 p62 u58 k59 ∧ Own (Lay.sl L_Block 102) 28 A15 p16 u63 k64 ∧ u63.length = y5.Buckets.length := ⟨_, rfl⟩
  refine wp_cutq R70 ?_ ?_
  ·refine wp_block ?_
   obtain ⟨fu72, h68⟩ := loopO_some h68
   obtain ⟨I71, hI71⟩ : ∃ I : Nat → Act → World → Prop, I = fun fu a w => ∃ (u53 : List S_Block) (u48 : Int) (u49 : List (List S_Block)) (A56 : Option Addr) (p57 : Nat) (k54 : Chunk) (k50 : Chunk), loopN (fun s => spec_l08Access.s0 y5 y25 s.1 s.2.1 s.2.2) fu (u53, u48, u49) = some o67 ∧ Kn [(1, (.int .i64 x1)), (2, (.bool x2)), (3, (.int .i64 x3)), (4, (.int .i64 x4)), (5, (.pointer (some ⟨b2, 0, none⟩))), (10, (.pointer (some ⟨b3, 0, none⟩))), (13, (.int .i64 (y5.Pos.getD x1.toNat 0))), (14, (.slice A27 y25.length p28)), (15, (.slice A56 u53.length p57)), (16, (.int .i64 u48))] 171 a ∧ Sat [] w0 w [(1, k0_0), (2, k0_1), (3, k0_2)] [(9, k29), (10, k54), (4, [(b2, .cells #[.slice A7 y5.Pos.length p8, .slice A11 y5.Stash.length p12, .slice A15 y5.Buckets.length p16] 31 (0, 0))]), (6, k9), (7, k13), (8, k50), (5, [(b3, .cells #[.slice none 0 0, .slice none 0 0, .slice none 0 0] 31 (0, 0))])] ∧ Own L_Block 102 A56 p57 u53 k54 ∧ Own (Lay.sl L_Block 102) 28 A15 p16 u49 k50 ∧ u49.length = y5.Buckets.length := ⟨_, rfl⟩
   refine wp_loop_ghost I71 fu72 ?_ ?_
   ·rw [hI71]
    exact ⟨(([] : List S_Block) ++ y5.Stash), 0, y5.Buckets, A36, p37, _, _, h68, (hk.c 1 rfl (hk.c 2 rfl (hk.c 3 rfl (hk.c 4 rfl (hk.c 5 rfl (hk.c 10 rfl (hk.c 13 rfl (hk.c 14 rfl (hk.c 15 rfl (hk.c 16 rfl hk.k)))))))))), (hs.pick [(9, 9), (10, 10), (4, 4), (6, 6), (7, 7), (8, 8), (5, 5)] rfl), o39, o18, rfl⟩
   ·clear h68 hk hs
    intro fu72 a w hI0
    rw [hI71] at hI0
    obtain ⟨u53, u48, u49, A56, p57, k54, k50, hi, hk, hs, o55, o51, lh52⟩ := hI0
    obtain ⟨x73, H, h74⟩ := loop_round hi
    try dsimp only at H
    unfold spec_l08Access.s0 at H
    apply wp_seq_k; intro K75 hK75
    apply wp_seq_k; intro K76 hK76
    apply wp_region_lit
    refine sm _ rfl hk rfl rfl rfl fun a hk => ?_
    refine sm _ rfl hk rfl rfl rfl fun a hk => ?_
    refine sle rfl hk rfl rfl rfl un22 fun a hk => ?_
    refine sv (.bool (decide (u48 < (y25.length : Int)))) hk rfl rfl rfl fun a hk => ?_
    show wpList _ _ _ [] _ _
    refine wpList_nil ?_
    refine hK76 _ _ ?_
    rcases cond_some H with ⟨c77, H⟩ | ⟨c77, H⟩
    ·have hk := hk.lit 39 c77 rfl
     refine cnd_true hk rfl rfl ?_
     refine wp_skip ?_
     refine hK75 _ _ ?_
     have hs := hs.pick [(9, 9), (10, 10), (4, 4), (6, 6), (7, 7), (8, 8), (5, 5)] rfl
     apply wp_seq_k; intro K78 hK78
     refine wp_block ?_
     apply wp_seq_k; intro K79 hK79
     refine wp_region_tree (.q 0 (.q 1 (.q 2 (.q 3 (.alt 4 (.alt 5 (.alt 6 (.alt 7 (.alt 8 (.alt 9 (.last 10) .stop) .stop) .stop) .stop) .stop) .stop))))) mo (by kernel_rfl) (hs.pick [(9, 9), (4, 4), (6, 6), (7, 7), (8, 8), (5, 5)] rfl) fun _ => ?_
     have hs := hs.drew
     refine tqst (.slice A56 u53.length p57) hk rfl rfl rfl rfl (fun w hs => sm _ rfl hk rfl rfl rfl fun a hk => qe hk) fun a hk => ?_
     refine tqst (.pointer (some ⟨b2, 2, none⟩)) hk rfl rfl rfl rfl (fun w hs => sf ⟨b2, 2, none⟩ rfl hk rfl rfl rfl fd31_2 rfl fun a hk => qe hk) fun a hk => ?_
     refine tqst (.slice A15 y5.Buckets.length p16) hk rfl rfl rfl rfl (fun w hs => sl rfl hk rfl rfl rfl ag29 (box_cell hs (k := 4) rfl rfl) fun a hk => qe hk) fun a hk => ?_
     refine tqst (.slice A27 y25.length p28) hk rfl rfl rfl rfl (fun w hs => sm _ rfl hk rfl rfl rfl fun a hk => qe hk) fun a hk => ?_
     refine tsst hk rfl rfl (fun K_r80_4 hK_r80_4 w hF => ?_) wt_stop
     have hs := hs.f hF
     refine sm _ rfl hk rfl rfl rfl fun a hk => ?_
     refine se (hs.pick [(9, 9), (4, 4), (6, 6), (7, 7), (8, 8), (5, 5)] rfl) hk (hK_r80_4 _ _ ?_)
     refine tsst hk rfl rfl (fun K_r80_5 hK_r80_5 w hF => ?_) wt_stop
     have hs := hs.f hF
     rcases ite_some H with ⟨c81, H⟩ | ⟨_, H⟩
     rotate_left
     ·cases H
     obtain ⟨b82, q83, hAc81⟩ := (o30.view).some_ u48 c81.1 c81.2
     refine si rfl hk rfl rfl rfl rfl un22 sz3 c81.1 c81.2 hAc81 fun a hk => ?_
     refine se (hs.pick [(9, 9), (4, 4), (6, 6), (7, 7), (8, 8), (5, 5)] rfl) hk (hK_r80_5 _ _ ?_)
     refine tsst hk rfl rfl (fun K_r80_6 hK_r80_6 w hF => ?_) wt_stop
     have hs := hs.f hF
     obtain ⟨_, rfl, e84⟩ := (o30.view).at_ 0 u48 c81.1 c81.2
     refine sl (v := (.int .i64 (y25.getD u48.toNat 0))) rfl hk rfl rfl rfl ag3 ((e84 0 _ rfl).cell (hs.hasG (k := 9) rfl)) fun a hk => ?_
     refine se (hs.pick [(9, 9), (4, 4), (6, 6), (7, 7), (8, 8), (5, 5)] rfl) hk (hK_r80_6 _ _ ?_)
     refine tsst hk rfl rfl (fun K_r80_7 hK_r80_7 w hF => ?_) wt_stop
     have hs := hs.f hF
     rcases ite_some H with ⟨c85, H⟩ | ⟨_, H⟩
     rotate_left
     ·cases H
     obtain ⟨b86, q87, hAc85⟩ := (o51.view).some_ (y25.getD u48.toNat 0) c85.1 (by rw [lh52]; exact c85.2)
     refine si rfl hk rfl rfl rfl rfl un29 sz28 c85.1 c85.2 hAc85 fun a hk => ?_
     refine se (hs.pick [(9, 9), (4, 4), (6, 6), (7, 7), (8, 8), (5, 5)] rfl) hk (hK_r80_7 _ _ ?_)
     refine tsst hk rfl rfl (fun K_r80_8 hK_r80_8 w hF => ?_) wt_stop
     have hs := hs.f hF
     obtain ⟨_, ⟨_, rfl, A89, p90, rfl, v91⟩, e88⟩ := (o51.view).at_ [] (y25.getD u48.toNat 0) c85.1 (by rw [lh52]; exact c85.2)
     refine sl (v := (.slice A89 (u49.getD (y25.getD u48.toNat 0).toNat []).length p90)) rfl hk rfl rfl rfl ag28 ((e88 0 _ rfl).cell (hs.hasG (k := 8) rfl)) fun a hk => ?_
     refine se (hs.pick [(9, 9), (4, 4), (6, 6), (7, 7), (8, 8), (5, 5)] rfl) hk (hK_r80_8 _ _ ?_)
     refine tsst hk rfl rfl (fun K_r80_9 hK_r80_9 w hF => ?_) wt_stop
     have hs := hs.f hF
     rcases ite_some H with ⟨c92, H⟩ | ⟨_, H⟩
     rotate_left
     ·cases H
     refine sap 10 (xs := u53) (ys := (u49.getD (y25.getD u48.toNat 0).toNat [])) (flat_flat : (L_Block).Flat) hs rfl o55 v91 (hs.hasG (k := 8) rfl) rfl hk rfl rfl rfl rfl rfl rfl un28 mk102 rfl rfl rfl c92 fun A93 p94 k95 w a hk o96 hs => ?_
     refine se (hs.pick [(9, 9), (4, 4), (6, 6), (7, 7), (8, 8), (5, 5)] rfl) hk (hK_r80_9 _ _ ?_)
     refine tlst hk rfl rfl fun K_r80_10 hK_r80_10 w hF => ?_
     have hs := hs.f hF
     refine sa _ rfl hk rfl rfl rfl fun a hk => ?_
     refine se trivial hk (hK_r80_10 _ _ fun w hF => ?_)
     have hs := hs.f hF
     refine hK79 _ _ ?_
     refine wp_region_tree (.q 0 (.q 1 (.q 2 (.q 3 (.q 4 (.q 5 (.alt 6 (.alt 7 (.last 8) .stop) .stop))))))) mo (by kernel_rfl) (hs.pick [(10, 10), (9, 9), (4, 4), (6, 6), (7, 7), (8, 8), (5, 5)] rfl) fun _ => ?_
     have hs := hs.drew
     refine tqst (.pointer (some ⟨b2, 2, none⟩)) hk rfl rfl rfl rfl (fun w hs => sf ⟨b2, 2, none⟩ rfl hk rfl rfl rfl fd31_2 rfl fun a hk => qe hk) fun a hk => ?_
     refine tqst (.slice A15 y5.Buckets.length p16) hk rfl rfl rfl rfl (fun w hs => sl rfl hk rfl rfl rfl ag29 (box_cell hs (k := 4) rfl rfl) fun a hk => qe hk) fun a hk => ?_
     refine tqst (.slice A27 y25.length p28) hk rfl rfl rfl rfl (fun w hs => sm _ rfl hk rfl rfl rfl fun a hk => qe hk) fun a hk => ?_
     refine tqst (.int .i64 u48) hk rfl rfl rfl rfl (fun w hs => sm _ rfl hk rfl rfl rfl fun a hk => qe hk) fun a hk => ?_
     rcases ite_some H with ⟨c98, H⟩ | ⟨_, H⟩
     rotate_left
     ·cases H
     obtain ⟨b99, q100, hAc98⟩ := (o30.view).some_ u48 c98.1 c98.2
     refine tqst (.pointer (some (padd A27 (u48.toNat * 1)))) hk rfl rfl rfl rfl (fun w hs => si rfl hk rfl rfl rfl rfl un22 sz3 c98.1 c98.2 hAc98 fun a hk => qe hk) fun a hk => ?_
     obtain ⟨_, rfl, e101⟩ := (o30.view).at_ 0 u48 c98.1 c98.2
     refine tqst (.int .i64 (y25.getD u48.toNat 0)) hk rfl rfl rfl rfl (fun w hs => sl (v := (.int .i64 (y25.getD u48.toNat 0))) rfl hk rfl rfl rfl ag3 ((e101 0 _ rfl).cell (hs.hasG (k := 9) rfl)) fun a hk => qe hk) fun a hk => ?_
     refine tsst hk rfl rfl (fun K_r97_6 hK_r97_6 w hF => ?_) wt_stop
     have hs := hs.f hF
     refine sbs0 14 L_Block hs rfl hk rfl rfl un28 sz102 fun b102 k103 w a hk o104 hs => ?_
     refine se (hs.pick [(10, 10), (9, 9), (4, 4), (6, 6), (7, 7), (8, 8), (5, 5)] rfl) hk (hK_r97_6 _ _ ?_)
     refine tsst hk rfl rfl (fun K_r97_7 hK_r97_7 w hF => ?_) wt_stop
     have hs := hs.f hF
     rcases ite_some H with ⟨c105, H⟩ | ⟨_, H⟩
     rotate_left
     ·cases H
     obtain ⟨b106, q107, hAc105⟩ := (o51.view).some_ (y25.getD u48.toNat 0) c105.1 (by rw [lh52]; exact c105.2)
     refine si rfl hk rfl rfl rfl rfl un29 sz28 c105.1 c105.2 hAc105 fun a hk => ?_
     refine se (hs.pick [(10, 10), (9, 9), (4, 4), (6, 6), (7, 7), (8, 8), (5, 5)] rfl) hk (hK_r97_7 _ _ ?_)
     refine tlst hk rfl rfl fun K_r97_8 hK_r97_8 w hF => ?_
     have hs := hs.f hF
     refine som 8 14 [] ([] : List S_Block) hs rfl rfl o51 c105.1 (by rw [lh52]; exact c105.2) rfl hk rfl rfl rfl rfl rfl sz28 (by simp [Value.cells, Value.oneCell']) rfl ⟨_, rfl, o104.toV⟩ fun k108 w a hk o109 hs => ?_
     have lh110 : (u49.set (y25.getD u48.toNat 0).toNat ([] : List S_Block)).length = y5.Buckets.length := by rw [List.length_set]; exact lh52
     refine se trivial hk (hK_r97_8 _ _ fun w hF => ?_)
     have hs := hs.f hF
     refine hK78 _ _ ?_
     apply wp_region_lit
     refine sm _ rfl hk rfl rfl rfl fun a hk => ?_
     refine sv (.int .i64 (w64 (u48 + 1))) hk rfl rfl rfl fun a hk => ?_
     refine sa _ rfl hk rfl rfl rfl fun a hk => ?_
     show wpList _ _ _ [] _ _
     refine wpList_nil ?_
     obtain rfl := Option.some.inj H
     obtain ⟨m111, hmm111, h74⟩ := h74
     show ∃ n', n' < _ ∧ I71 n' _ _
     refine ⟨m111, hmm111, ?_⟩
     rw [hI71]
     exact ⟨(u53 ++ (u49.getD (y25.getD u48.toNat 0).toNat [])), (w64 (u48 + 1)), (u49.set (y25.getD u48.toNat 0).toNat ([] : List S_Block)), A93, p94, _, _, h74, (hk.c 1 rfl (hk.c 2 rfl (hk.c 3 rfl (hk.c 4 rfl (hk.c 5 rfl (hk.c 10 rfl (hk.c 13 rfl (hk.c 14 rfl (hk.c 15 rfl (hk.c 16 rfl hk.k)))))))))), (hs.pick [(9, 9), (10, 10), (4, 4), (6, 6), (7, 7), (8, 8), (5, 5)] rfl), o96, o109, lh110⟩
    ·have hk := hk.lit 39 c77 rfl
     refine cnd_false hk rfl rfl ?_
     refine wp_exit ?_
     obtain rfl := Option.some.inj H
     show R70 _ _
     rw [hR70]
     exact ⟨u53, u49, A56, p57, _, _, h74.symm, (hk.c 1 rfl (hk.c 2 rfl (hk.c 3 rfl (hk.c 4 rfl (hk.c 5 rfl (hk.c 10 rfl (hk.c 13 rfl (hk.c 14 rfl (hk.c 15 rfl hk.k))))))))), (hs.pick [(9, 9), (10, 10), (4, 4), (6, 6), (7, 7), (8, 8), (5, 5)] rfl), o55, o51, lh52⟩
  ·intro a w hR0
   rw [hR70] at hR0
   obtain ⟨u58, u63, A61, p62, k59, k64, rfl, hk, hs, o60, o65, lh66⟩ := hR0
   have H := HL69
   try dsimp only at H
   refine hK40 _ _ ?_
   apply wp_seq_k; intro K112 hK112
   apply wp_region_lit
   refine sf ⟨b2, 0, none⟩ rfl hk rfl rfl rfl fd31_0 rfl fun a hk => ?_
   refine sl rfl hk rfl rfl rfl ag22 (box_cell hs (k := 4) rfl rfl) fun a hk => ?_
   refine sm _ rfl hk rfl rfl rfl fun a hk => ?_
   refine sm _ rfl hk rfl rfl rfl fun a hk => ?_
   rcases ite_some H with ⟨c113, H⟩ | ⟨_, H⟩
   rotate_left
   ·cases H
   obtain ⟨b114, q115, hAc113⟩ := (o10.view).some_ x1 c113.1 c113.2
   refine si rfl hk rfl rfl rfl rfl un22 sz3 c113.1 c113.2 hAc113 fun a hk => ?_
   refine so (j := 0) 6 0 x4 hs rfl o10 c113.1 c113.2 rfl hk rfl rfl rfl rfl rfl sz3 (by simp [Value.cells, Value.oneCell']) (Nat.le_of_ble_eq_true rfl) (fun _ _ h => ⟨by rw [h.1]; rfl, h.2⟩) fun k116 w a hk o117 hs => ?_
   have lh118 : (y5.Pos.set x1.toNat x4).length = y5.Pos.length := by rw [List.length_set]
   show wpList _ _ _ [] _ _
   refine wpList_nil ?_
   refine hK112 _ _ ?_
   have hs := hs.pick [(9, 9), (10, 10), (4, 4), (6, 6), (7, 7), (8, 8), (5, 5)] rfl
   apply wp_seq_k; intro K119 hK119
   apply wp_region_lit
   refine sa _ rfl hk rfl rfl rfl fun a hk => ?_
   show wpList _ _ _ [] _ _
   refine wpList_nil ?_
   refine hK119 _ _ ?_
   apply wp_seq_k; intro K120 hK120
   apply wp_region_lit
   refine sbs0 15 L_Block hs rfl hk rfl rfl un28 sz102 fun b121 k122 w a hk o123 hs => ?_
   refine sa _ rfl hk rfl rfl rfl fun a hk => ?_
   show wpList _ _ _ [] _ _
   refine wpList_nil ?_
   refine hK120 _ _ ?_
   apply wp_seq_k; intro K124 hK124
   apply wp_seq_k; intro K125 hK125
   apply wp_region_lit
   refine sa _ rfl hk rfl rfl rfl fun a hk => ?_
   show wpList _ _ _ [] _ _
   refine wpList_nil ?_
   refine hK125 _ _ ?_
   obtain ⟨o145, h146, HL147⟩ := bind_some H
   clear H
   obtain ⟨R148, hR148⟩ : ∃ R : Act → World → Prop, R = fun a w => ∃ (u139 : Int) (u140 : List S_Block) (A143 : Option Addr) (p144 : Nat) (k141 : Chunk), o145 = .out (u139, u140) ∧ Kn [(1, (.int .i64 x1)), (2, (.bool x2)), (3, (.int .i64 x3)), (4, (.int .i64 x4)), (5, (.pointer (some ⟨b2, 0, none⟩))), (10, (.pointer (some ⟨b3, 0, none⟩))), (13, (.int .i64 (y5.Pos.getD x1.toNat 0))), (14, (.slice A27 y25.length p28)), (17, (.int .i64 u139)), (18, (.slice A143 u140.length p144))] 171 a ∧ Sat [] w0 w [(1, k0_0), (2, k0_1), (3, k0_2)] [(9, k29), (15, k141), (4, [(b2, .cells #[.slice A7 y5.Pos.length p8, .slice A11 y5.Stash.length p12, .slice A15 y5.Buckets.length p16] 31 (0, 0))]), (6, k116), (7, k13), (8, k64), (5, [(b3, .cells #[.slice none 0 0, .slice none 0 0, .slice none 0 0] 31 (0, 0))])] ∧ Own L_Block 102 A143 p144 u140 k141 := ⟨_, rfl⟩
   refine wp_cutq R148 ?_ ?_
   ·refine wp_block ?_
    obtain ⟨fu150, h146⟩ := loopO_some h146
    obtain ⟨I149, hI149⟩ : ∃ I : Nat → Act → World → Prop, I = fun fu a w => ∃ (u128 : Int) (u134 : List S_Block) (u133 : Int) (A137 : Option Addr) (p138 : Nat) (k135 : Chunk), loopN (fun s => spec_l08Access.s1 x1 u58 s.1 s.2.1 s.2.2) fu (u128, u134, u133) = some o145 ∧ Kn [(1, (.int .i64 x1)), (2, (.bool x2)), (3, (.int .i64 x3)), (4, (.int .i64 x4)), (5, (.pointer (some ⟨b2, 0, none⟩))), (10, (.pointer (some ⟨b3, 0, none⟩))), (13, (.int .i64 (y5.Pos.getD x1.toNat 0))), (14, (.slice A27 y25.length p28)), (15, (.slice A61 u58.length p62)), (17, (.int .i64 u128)), (18, (.slice A137 u134.length p138)), (19, (.int .i64 u133))] 171 a ∧ Sat [] w0 w [(1, k0_0), (2, k0_1), (3, k0_2)] [(9, k29), (10, k59), (15, k135), (4, [(b2, .cells #[.slice A7 y5.Pos.length p8, .slice A11 y5.Stash.length p12, .slice A15 y5.Buckets.length p16] 31 (0, 0))]), (6, k116), (7, k13), (8, k64), (5, [(b3, .cells #[.slice none 0 0, .slice none 0 0, .slice none 0 0] 31 (0, 0))])] ∧ Own L_Block 102 A137 p138 u134 k135 := ⟨_, rfl⟩
    refine wp_loop_ghost I149 fu150 ?_ ?_
    ·rw [hI149]
     exact ⟨0, ([] : List S_Block), 0, (some ⟨b121, 0, none⟩), 0, _, h146, (hk.c 1 rfl (hk.c 2 rfl (hk.c 3 rfl (hk.c 4 rfl (hk.c 5 rfl (hk.c 10 rfl (hk.c 13 rfl (hk.c 14 rfl (hk.c 15 rfl (hk.c 17 rfl (hk.c 18 rfl (hk.c 19 rfl hk.k)))))))))))), (hs.pick [(9, 9), (10, 10), (15, 15), (4, 4), (6, 6), (7, 7), (8, 8), (5, 5)] rfl), o123⟩
    ·clear h146 hk hs
     intro fu150 a w hI0
     rw [hI149] at hI0
     obtain ⟨u128, u134, u133, A137, p138, k135, hi, hk, hs, o136⟩ := hI0
     obtain ⟨x151, H, h152⟩ := loop_round hi
     try dsimp only at H
     unfold spec_l08Access.s1 at H
     apply wp_seq_k; intro K153 hK153
     apply wp_seq_k; intro K154 hK154
     apply wp_region_lit
     refine sm _ rfl hk rfl rfl rfl fun a hk => ?_
     refine sm _ rfl hk rfl rfl rfl fun a hk => ?_
     refine sle rfl hk rfl rfl rfl un28 fun a hk => ?_
     refine sv (.bool (decide (u133 < (u58.length : Int)))) hk rfl rfl rfl fun a hk => ?_
     show wpList _ _ _ [] _ _
     refine wpList_nil ?_
     refine hK154 _ _ ?_
     have hs := hs.pick [(9, 9), (10, 10), (15, 15), (4, 4), (6, 6), (7, 7), (8, 8), (5, 5)] rfl
     rcases cond_some H with ⟨c155, H⟩ | ⟨c155, H⟩
     ·have hk := hk.lit 69 c155 rfl
      refine cnd_true hk rfl rfl ?_
      refine wp_skip ?_
      refine hK153 _ _ ?_
      apply wp_seq_k; intro K156 hK156
      refine wp_block ?_
      apply wp_seq_k; intro K157 hK157
      apply wp_region_lit
      refine sm _ rfl hk rfl rfl rfl fun a hk => ?_
      refine sm _ rfl hk rfl rfl rfl fun a hk => ?_
      rcases ite_some H with ⟨c158, H⟩ | ⟨_, H⟩
      rotate_left
      ·cases H
      obtain ⟨b159, q160, hAc158⟩ := (o60.view).some_ u133 c158.1 c158.2
      refine si rfl hk rfl rfl rfl rfl un28 sz102 c158.1 c158.2 hAc158 fun a hk => ?_
      refine sf (padd A61 (u133.toNat * 3 + 0)) rfl hk rfl rfl rfl fd102_0 (padd_add _ _ _) fun a hk => ?_
      obtain ⟨_, rfl, e161⟩ := (o60.view).at_ z_Block u133 c158.1 c158.2
      refine sl (v := (.int .i64 ((u58.getD u133.toNat z_Block).Id))) rfl hk rfl rfl rfl ag3 ((e161 0 _ rfl).cell (hs.hasG (k := 10) rfl)) fun a hk => ?_
      refine sm _ rfl hk rfl rfl rfl fun a hk => ?_
      refine sv (.bool (((u58.getD u133.toNat z_Block).Id) == x1)) hk rfl rfl rfl fun a hk => ?_
      show wpList _ _ _ [] _ _
      refine wpList_nil ?_
      refine hK157 _ _ ?_
      obtain ⟨o169, h170, HL171⟩ := bind_some H
      clear H
      obtain ⟨R172, hR172⟩ : ∃ R : Act → World → Prop, R = fun a w => ∃ (u163 : Int) (u164 : List S_Block) (A167 : Option Addr) (p168 : Nat) (k165 : Chunk), (u163, u164) = o169 ∧ Kn [(1, (.int .i64 x1)), (2, (.bool x2)), (3, (.int .i64 x3)), (4, (.int .i64 x4)), (5, (.pointer (some ⟨b2, 0, none⟩))), (10, (.pointer (some ⟨b3, 0, none⟩))), (13, (.int .i64 (y5.Pos.getD x1.toNat 0))), (14, (.slice A27 y25.length p28)), (15, (.slice A61 u58.length p62)), (17, (.int .i64 u163)), (18, (.slice A167 u164.length p168)), (19, (.int .i64 u133))] 171 a ∧ Sat [] w0 w [(1, k0_0), (2, k0_1), (3, k0_2)] [(9, k29), (10, k59), (15, k165), (4, [(b2, .cells #[.slice A7 y5.Pos.length p8, .slice A11 y5.Stash.length p12, .slice A15 y5.Buckets.length p16] 31 (0, 0))]), (6, k116), (7, k13), (8, k64), (5, [(b3, .cells #[.slice none 0 0, .slice none 0 0, .slice none 0 0] 31 (0, 0))])] ∧ Own L_Block 102 A167 p168 u164 k165 := ⟨_, rfl⟩
      refine wp_cutq R172 ?_ ?_
      ·have H := h170
       rcases cond_some H with ⟨c173, H⟩ | ⟨c173, H⟩
       ·have hk := hk.lit 78 c173 rfl
        refine cnd_true hk rfl rfl ?_
        apply wp_region_lit
        refine sm _ rfl hk rfl rfl rfl fun a hk => ?_
        refine sm _ rfl hk rfl rfl rfl fun a hk => ?_
        rcases ite_some H with ⟨c174, H⟩ | ⟨_, H⟩
        rotate_left
        ·cases H
        obtain ⟨b175, q176, hAc174⟩ := (o60.view).some_ u133 c174.1 c174.2
        refine si rfl hk rfl rfl rfl rfl un28 sz102 c174.1 c174.2 hAc174 fun a hk => ?_
        refine sf (padd A61 (u133.toNat * 3 + 2)) rfl hk rfl rfl rfl fd102_2 (padd_add _ _ _) fun a hk => ?_
        obtain ⟨_, rfl, e177⟩ := (o60.view).at_ z_Block u133 c174.1 c174.2
        refine sl (v := (.int .i64 ((u58.getD u133.toNat z_Block).Value))) rfl hk rfl rfl rfl ag3 ((e177 2 _ rfl).cell (hs.hasG (k := 10) rfl)) fun a hk => ?_
        refine sa _ rfl hk rfl rfl rfl fun a hk => ?_
        show wpList _ _ _ [] _ _
        refine wpList_nil ?_
        obtain rfl := Option.some.inj H
        show R172 _ _
        rw [hR172]
        exact ⟨(u58.getD u133.toNat z_Block).Value, u134, A137, p138, _, rfl, (hk.c 1 rfl (hk.c 2 rfl (hk.c 3 rfl (hk.c 4 rfl (hk.c 5 rfl (hk.c 10 rfl (hk.c 13 rfl (hk.c 14 rfl (hk.c 15 rfl (hk.c 17 rfl (hk.c 18 rfl (hk.c 19 rfl hk.k)))))))))))), (hs.pick [(9, 9), (10, 10), (15, 15), (4, 4), (6, 6), (7, 7), (8, 8), (5, 5)] rfl), o136⟩
       ·have hk := hk.lit 78 c173 rfl
        refine cnd_false hk rfl rfl ?_
        apply wp_region_lit
        refine sm _ rfl hk rfl rfl rfl fun a hk => ?_
        refine sm _ rfl hk rfl rfl rfl fun a hk => ?_
        refine sm _ rfl hk rfl rfl rfl fun a hk => ?_
        rcases ite_some H with ⟨c178, H⟩ | ⟨_, H⟩
        rotate_left
        ·cases H
        obtain ⟨b179, q180, hAc178⟩ := (o60.view).some_ u133 c178.1 c178.2
        refine si rfl hk rfl rfl rfl rfl un28 sz102 c178.1 c178.2 hAc178 fun a hk => ?_
        obtain ⟨_, rfl, e181⟩ := (o60.view).at_ z_Block u133 c178.1 c178.2
        refine sln [.int .i64 ((u58.getD u133.toNat z_Block).Id), .int .i64 ((u58.getD u133.toNat z_Block).Leaf), .int .i64 ((u58.getD u133.toNat z_Block).Value)] rfl hk rfl rfl rfl ag102 sz102 (cells_at e181 (hs.hasG (k := 10) rfl)) fun a hk => ?_
        refine sbs (L := L_Block) (pv := [(0, (.agg #[.int .i64 ((u58.getD u133.toNat z_Block).Id), .int .i64 ((u58.getD u133.toNat z_Block).Leaf), .int .i64 ((u58.getD u133.toNat z_Block).Value)]))]) (xs := [(u58.getD u133.toNat z_Block)]) (ess := [[.int .i64 ((u58.getD u133.toNat z_Block).Id), .int .i64 ((u58.getD u133.toNat z_Block).Leaf), .int .i64 ((u58.getD u133.toNat z_Block).Value)]]) 18 hs rfl hk rfl rfl rfl un28 (bs102_3 ((u58.getD u133.toNat z_Block).Id) ((u58.getD u133.toNat z_Block).Leaf) ((u58.getD u133.toNat z_Block).Value)) (AllOwn.cons0 ⟨rfl, rfl⟩ AllOwn.nil) rfl rfl rfl fun b182 k183 w a hk o184 hs => ?_
        rcases ite_some H with ⟨c185, H⟩ | ⟨_, H⟩
        rotate_left
        ·cases H
        refine sap 15 (xs := u134) (ys := [(u58.getD u133.toNat z_Block)]) (flat_flat : (L_Block).Flat) hs rfl o136 o184.view (hs.hasG (k := 18) rfl) rfl hk rfl rfl rfl rfl rfl rfl un28 mk102 rfl rfl rfl c185 fun A186 p187 k188 w a hk o189 hs => ?_
        refine sa _ rfl hk rfl rfl rfl fun a hk => ?_
        show wpList _ _ _ [] _ _
        refine wpList_nil ?_
        obtain rfl := Option.some.inj H
        show R172 _ _
        rw [hR172]
        exact ⟨u128, (u134 ++ ([(u58.getD u133.toNat z_Block)])), A186, p187, _, rfl, (hk.c 1 rfl (hk.c 2 rfl (hk.c 3 rfl (hk.c 4 rfl (hk.c 5 rfl (hk.c 10 rfl (hk.c 13 rfl (hk.c 14 rfl (hk.c 15 rfl (hk.c 17 rfl (hk.c 18 rfl (hk.c 19 rfl hk.k)))))))))))), (hs.pick [(9, 9), (10, 10), (15, 15), (4, 4), (6, 6), (7, 7), (8, 8), (5, 5)] rfl), o189⟩
      ·intro a w hR0
       rw [hR172] at hR0
       obtain ⟨u163, u164, A167, p168, k165, rfl, hk, hs, o166⟩ := hR0
       have H := HL171
       try dsimp only at H
       refine hK156 _ _ ?_
       apply wp_region_lit
       refine sm _ rfl hk rfl rfl rfl fun a hk => ?_
       refine sv (.int .i64 (w64 (u133 + 1))) hk rfl rfl rfl fun a hk => ?_
       refine sa _ rfl hk rfl rfl rfl fun a hk => ?_
       show wpList _ _ _ [] _ _
       refine wpList_nil ?_
       obtain rfl := Option.some.inj H
       obtain ⟨m190, hmm190, h152⟩ := h152
       show ∃ n', n' < _ ∧ I149 n' _ _
       refine ⟨m190, hmm190, ?_⟩
       rw [hI149]
       exact ⟨u163, u164, (w64 (u133 + 1)), A167, p168, _, h152, (hk.c 1 rfl (hk.c 2 rfl (hk.c 3 rfl (hk.c 4 rfl (hk.c 5 rfl (hk.c 10 rfl (hk.c 13 rfl (hk.c 14 rfl (hk.c 15 rfl (hk.c 17 rfl (hk.c 18 rfl (hk.c 19 rfl hk.k)))))))))))), (hs.pick [(9, 9), (10, 10), (15, 15), (4, 4), (6, 6), (7, 7), (8, 8), (5, 5)] rfl), o166⟩
     ·have hk := hk.lit 69 c155 rfl
      refine cnd_false hk rfl rfl ?_
      refine wp_exit ?_
      obtain rfl := Option.some.inj H
      show R148 _ _
      rw [hR148]
      exact ⟨u128, u134, A137, p138, _, h152.symm, (hk.c 1 rfl (hk.c 2 rfl (hk.c 3 rfl (hk.c 4 rfl (hk.c 5 rfl (hk.c 10 rfl (hk.c 13 rfl (hk.c 14 rfl (hk.c 17 rfl (hk.c 18 rfl hk.k)))))))))), (hs.pick [(9, 9), (15, 15), (4, 4), (6, 6), (7, 7), (8, 8), (5, 5)] rfl), o136⟩
   ·intro a w hR0
    rw [hR148] at hR0
    obtain ⟨u139, u140, A143, p144, k141, rfl, hk, hs, o142⟩ := hR0
    have H := HL147
    try dsimp only at H
    refine hK124 _ _ ?_
    have hs := hs.pick [(9, 9), (15, 15), (4, 4), (6, 6), (7, 7), (8, 8), (5, 5)] rfl
    apply wp_seq_k; intro K191 hK191
    apply wp_seq_k; intro K192 hK192
    apply wp_region_lit
    refine sm _ rfl hk rfl rfl rfl fun a hk => ?_
    refine sv (.bool (!x2)) hk rfl rfl rfl fun a hk => ?_
    show wpList _ _ _ [] _ _
    refine wpList_nil ?_
    refine hK192 _ _ ?_
    obtain ⟨o195, h196, HL197⟩ := bind_some H
    clear H
    obtain ⟨R198, hR198⟩ : ∃ R : Act → World → Prop, R = fun a w => ∃ (u194 : Int), u194 = o195 ∧ Kn [(1, (.int .i64 x1)), (3, (.int .i64 u194)), (4, (.int .i64 x4)), (5, (.pointer (some ⟨b2, 0, none⟩))), (10, (.pointer (some ⟨b3, 0, none⟩))), (13, (.int .i64 (y5.Pos.getD x1.toNat 0))), (14, (.slice A27 y25.length p28)), (17, (.int .i64 u139)), (18, (.slice A143 u140.length p144))] 171 a ∧ Sat [] w0 w [(1, k0_0), (2, k0_1), (3, k0_2)] [(9, k29), (15, k141), (4, [(b2, .cells #[.slice A7 y5.Pos.length p8, .slice A11 y5.Stash.length p12, .slice A15 y5.Buckets.length p16] 31 (0, 0))]), (6, k116), (7, k13), (8, k64), (5, [(b3, .cells #[.slice none 0 0, .slice none 0 0, .slice none 0 0] 31 (0, 0))])] := ⟨_, rfl⟩
    refine wp_cutq R198 ?_ ?_
    ·have H := h196
     rcases cond_some H with ⟨c199, H⟩ | ⟨c199, H⟩
     ·have hk := hk.lit 92 c199 rfl
      refine cnd_true hk rfl rfl ?_
      apply wp_region_lit
      refine sm _ rfl hk rfl rfl rfl fun a hk => ?_
      refine sa _ rfl hk rfl rfl rfl fun a hk => ?_
      show wpList _ _ _ [] _ _
      refine wpList_nil ?_
      obtain rfl := Option.some.inj H
      show R198 _ _
      rw [hR198]
      exact ⟨u139, rfl, (hk.c 1 rfl (hk.c 3 rfl (hk.c 4 rfl (hk.c 5 rfl (hk.c 10 rfl (hk.c 13 rfl (hk.c 14 rfl (hk.c 17 rfl (hk.c 18 rfl hk.k))))))))), (hs.pick [(9, 9), (15, 15), (4, 4), (6, 6), (7, 7), (8, 8), (5, 5)] rfl)⟩
     ·have hk := hk.lit 92 c199 rfl
      refine cnd_false hk rfl rfl ?_
      refine wp_skip ?_
      obtain rfl := Option.some.inj H
      show R198 _ _
      rw [hR198]
      exact ⟨x3, rfl, (hk.c 1 rfl (hk.c 3 rfl (hk.c 4 rfl (hk.c 5 rfl (hk.c 10 rfl (hk.c 13 rfl (hk.c 14 rfl (hk.c 17 rfl (hk.c 18 rfl hk.k))))))))), (hs.pick [(9, 9), (15, 15), (4, 4), (6, 6), (7, 7), (8, 8), (5, 5)] rfl)⟩
    ·intro a w hR0
     rw [hR198] at hR0
     obtain ⟨u194, rfl, hk, hs⟩ := hR0
     have H := HL197
     try dsimp only at H
     refine hK191 _ _ ?_
     apply wp_seq_k; intro K200 hK200
     apply wp_region_lit
     refine sm _ rfl hk rfl rfl rfl fun a hk => ?_
     refine sm _ rfl hk rfl rfl rfl fun a hk => ?_
     refine sm _ rfl hk rfl rfl rfl fun a hk => ?_
     refine sm _ rfl hk rfl rfl rfl fun a hk => ?_
     refine sbd (pv := [(0, (.int .i64 x1)), (1, (.int .i64 x4)), (2, (.int .i64 u194))]) rfl hk rfl rfl rfl (bd102_4 x1 x4 u194) fun a hk => ?_
     refine sbs (L := L_Block) (pv := [(0, (.agg #[.int .i64 x1, .int .i64 x4, .int .i64 u194]))]) (xs := [(⟨x1, x4, u194⟩ : S_Block)]) (ess := [[.int .i64 x1, .int .i64 x4, .int .i64 u194]]) 20 hs rfl hk rfl rfl rfl un28 (bs102_3 x1 x4 u194) (AllOwn.cons0 ⟨rfl, rfl⟩ AllOwn.nil) rfl rfl rfl fun b201 k202 w a hk o203 hs => ?_
     rcases ite_some H with ⟨c204, H⟩ | ⟨_, H⟩
     rotate_left
     ·cases H
     refine sap 15 (xs := u140) (ys := [(⟨x1, x4, u194⟩ : S_Block)]) (flat_flat : (L_Block).Flat) hs rfl o142 o203.view (hs.hasG (k := 20) rfl) rfl hk rfl rfl rfl rfl rfl rfl un28 mk102 rfl rfl rfl c204 fun A205 p206 k207 w a hk o208 hs => ?_
     refine sa _ rfl hk rfl rfl rfl fun a hk => ?_
     show wpList _ _ _ [] _ _
     refine wpList_nil ?_
     refine hK200 _ _ ?_
     apply wp_seq_k; intro K209 hK209
     apply wp_seq_k; intro K210 hK210
     apply wp_region_lit
     refine sm _ rfl hk rfl rfl rfl fun a hk => ?_
     refine sle rfl hk rfl rfl rfl un22 fun a hk => ?_
     refine sv (.int .i64 (w64 ((y25.length : Int) - 1))) hk rfl rfl rfl fun a hk => ?_
     refine sa _ rfl hk rfl rfl rfl fun a hk => ?_
     show wpList _ _ _ [] _ _
     refine wpList_nil ?_
     refine hK210 _ _ ?_
     have hs := hs.pick [(9, 9), (15, 15), (4, 4), (6, 6), (7, 7), (8, 8), (5, 5)] rfl
     obtain ⟨o236, h237, HL238⟩ := bind_some H
     clear H
     obtain ⟨R239, hR239⟩ : ∃ R : Act → World → Prop, R = fun a w => ∃ (u227 : List S_Block) (u232 : List (List S_Block)) (A230 : Option Addr) (p231 : Nat) (k228 : Chunk) (k233 : Chunk), o236 = .out (u227, u232) ∧ Kn [(5, (.pointer (some ⟨b2, 0, none⟩))), (10, (.pointer (some ⟨b3, 0, none⟩))), (13, (.int .i64 (y5.Pos.getD x1.toNat 0))), (17, (.int .i64 u139)), (18, (.slice A230 u227.length p231))] 171 a ∧ Sat [] w0 w [(1, k0_0), (2, k0_1), (3, k0_2)] [(15, k228), (4, [(b2, .cells #[.slice A7 y5.Pos.length p8, .slice A11 y5.Stash.length p12, .slice A15 y5.Buckets.length p16] 31 (0, 0))]), (6, k116), (7, k13), (8, k233), (5, [(b3, .cells #[.slice none 0 0, .slice none 0 0, .slice none 0 0] 31 (0, 0))])] ∧ Own L_Block 102 A230 p231 u227 k228 ∧ Own (Lay.sl L_Block 102) 28 A15 p16 u232 k233 ∧ u232.length = y5.Buckets.length := ⟨_, rfl⟩
     refine wp_cutq R239 ?_ ?_
     ·refine wp_block ?_
      obtain ⟨fu241, h237⟩ := loopO_some h237
      obtain ⟨I240, hI240⟩ : ∃ I : Nat → Act → World → Prop, I = fun fu a w => ∃ (u222 : List S_Block) (u217 : Int) (u218 : List (List S_Block)) (A225 : Option Addr) (p226 : Nat) (k223 : Chunk) (k219 : Chunk), loopN (fun s => spec_l08Access.s2 y5 y25 s.1 s.2.1 s.2.2) fu (u222, u217, u218) = some o236 ∧ Kn [(5, (.pointer (some ⟨b2, 0, none⟩))), (10, (.pointer (some ⟨b3, 0, none⟩))), (13, (.int .i64 (y5.Pos.getD x1.toNat 0))), (14, (.slice A27 y25.length p28)), (17, (.int .i64 u139)), (18, (.slice A225 u222.length p226)), (20, (.int .i64 u217))] 171 a ∧ Sat [] w0 w [(1, k0_0), (2, k0_1), (3, k0_2)] [(9, k29), (15, k223), (4, [(b2, .cells #[.slice A7 y5.Pos.length p8, .slice A11 y5.Stash.length p12, .slice A15 y5.Buckets.length p16] 31 (0, 0))]), (6, k116), (7, k13), (8, k219), (5, [(b3, .cells #[.slice none 0 0, .slice none 0 0, .slice none 0 0] 31 (0, 0))])] ∧ Own L_Block 102 A225 p226 u222 k223 ∧ Own (Lay.sl L_Block 102) 28 A15 p16 u218 k219 ∧ u218.length = y5.Buckets.length := ⟨_, rfl⟩
      refine wp_loop_ghost I240 fu241 ?_ ?_
      ·rw [hI240]
       exact ⟨(u140 ++ ([(⟨x1, x4, u194⟩ : S_Block)])), (w64 ((y25.length : Int) - 1)), u63, A205, p206, _, _, h237, (hk.c 5 rfl (hk.c 10 rfl (hk.c 13 rfl (hk.c 14 rfl (hk.c 17 rfl (hk.c 18 rfl (hk.c 20 rfl hk.k))))))), (hs.pick [(9, 9), (15, 15), (4, 4), (6, 6), (7, 7), (8, 8), (5, 5)] rfl), o208, o65, lh66⟩
      ·clear h237 hk hs
       intro fu241 a w hI0
       rw [hI240] at hI0
       obtain ⟨u222, u217, u218, A225, p226, k223, k219, hi, hk, hs, o224, o220, lh221⟩ := hI0
       obtain ⟨x242, H, h243⟩ := loop_round hi
       try dsimp only at H
       unfold spec_l08Access.s2 at H
       apply wp_seq_k; intro K244 hK244
       apply wp_seq_k; intro K245 hK245
       apply wp_region_lit
       refine sm _ rfl hk rfl rfl rfl fun a hk => ?_
       refine sv (.bool (decide (u217 ≥ 0))) hk rfl rfl rfl fun a hk => ?_
       show wpList _ _ _ [] _ _
       refine wpList_nil ?_
       refine hK245 _ _ ?_
       rcases cond_some H with ⟨c246, H⟩ | ⟨c246, H⟩
       ·have hk := hk.lit 105 c246 rfl
        refine cnd_true hk rfl rfl ?_
        refine wp_skip ?_
        refine hK244 _ _ ?_
        apply wp_seq_k; intro K247 hK247
        refine wp_block ?_
        apply wp_seq_k; intro K248 hK248
        apply wp_region_lit
        refine sbs0 22 L_Block hs rfl hk rfl rfl un28 sz102 fun b249 k250 w a hk o251 hs => ?_
        refine sa _ rfl hk rfl rfl rfl fun a hk => ?_
        show wpList _ _ _ [] _ _
        refine wpList_nil ?_
        refine hK248 _ _ ?_
        apply wp_seq_k; intro K252 hK252
        apply wp_seq_k; intro K253 hK253
        apply wp_region_lit
        refine sa _ rfl hk rfl rfl rfl fun a hk => ?_
        show wpList _ _ _ [] _ _
        refine wpList_nil ?_
        refine hK253 _ _ ?_
        have hs := hs.pick [(9, 9), (15, 15), (22, 22), (4, 4), (6, 6), (7, 7), (8, 8), (5, 5)] rfl
        obtain ⟨o279, h280, HL281⟩ := bind_some H
        clear H
        obtain ⟨R282, hR282⟩ : ∃ R : Act → World → Prop, R = fun a w => ∃ (u270 : List S_Block) (u275 : List (List S_Block)) (A273 : Option Addr) (p274 : Nat) (k271 : Chunk) (k276 : Chunk), o279 = .out (u270, u275) ∧ Kn [(5, (.pointer (some ⟨b2, 0, none⟩))), (10, (.pointer (some ⟨b3, 0, none⟩))), (13, (.int .i64 (y5.Pos.getD x1.toNat 0))), (14, (.slice A27 y25.length p28)), (17, (.int .i64 u139)), (20, (.int .i64 u217)), (21, (.slice A273 u270.length p274))] 171 a ∧ Sat [] w0 w [(1, k0_0), (2, k0_1), (3, k0_2)] [(9, k29), (22, k271), (4, [(b2, .cells #[.slice A7 y5.Pos.length p8, .slice A11 y5.Stash.length p12, .slice A15 y5.Buckets.length p16] 31 (0, 0))]), (6, k116), (7, k13), (8, k276), (5, [(b3, .cells #[.slice none 0 0, .slice none 0 0, .slice none 0 0] 31 (0, 0))])] ∧ Own L_Block 102 A273 p274 u270 k271 ∧ Own (Lay.sl L_Block 102) 28 A15 p16 u275 k276 ∧ u275.length = y5.Buckets.length := ⟨_, rfl⟩
        refine wp_cutq R282 ?_ ?_
        ·refine wp_block ?_
         obtain ⟨fu284, h280⟩ := loopO_some h280
         obtain ⟨I283, hI283⟩ : ∃ I : Nat → Act → World → Prop, I = fun fu a w => ∃ (u265 : List S_Block) (u260 : Int) (u261 : List (List S_Block)) (A268 : Option Addr) (p269 : Nat) (k266 : Chunk) (k262 : Chunk), loopN (fun s => spec_l08Access.s3 y5 y25 u222 u217 s.1 s.2.1 s.2.2) fu (u265, u260, u261) = some o279 ∧ Kn [(5, (.pointer (some ⟨b2, 0, none⟩))), (10, (.pointer (some ⟨b3, 0, none⟩))), (13, (.int .i64 (y5.Pos.getD x1.toNat 0))), (14, (.slice A27 y25.length p28)), (17, (.int .i64 u139)), (18, (.slice A225 u222.length p226)), (20, (.int .i64 u217)), (21, (.slice A268 u265.length p269)), (22, (.int .i64 u260))] 171 a ∧ Sat [] w0 w [(1, k0_0), (2, k0_1), (3, k0_2)] [(9, k29), (15, k223), (22, k266), (4, [(b2, .cells #[.slice A7 y5.Pos.length p8, .slice A11 y5.Stash.length p12, .slice A15 y5.Buckets.length p16] 31 (0, 0))]), (6, k116), (7, k13), (8, k262), (5, [(b3, .cells #[.slice none 0 0, .slice none 0 0, .slice none 0 0] 31 (0, 0))])] ∧ Own L_Block 102 A268 p269 u265 k266 ∧ Own (Lay.sl L_Block 102) 28 A15 p16 u261 k262 ∧ u261.length = y5.Buckets.length := ⟨_, rfl⟩
         refine wp_loop_ghost I283 fu284 ?_ ?_
         ·rw [hI283]
          exact ⟨([] : List S_Block), 0, u218, (some ⟨b249, 0, none⟩), 0, _, _, h280, (hk.c 5 rfl (hk.c 10 rfl (hk.c 13 rfl (hk.c 14 rfl (hk.c 17 rfl (hk.c 18 rfl (hk.c 20 rfl (hk.c 21 rfl (hk.c 22 rfl hk.k))))))))), (hs.pick [(9, 9), (15, 15), (22, 22), (4, 4), (6, 6), (7, 7), (8, 8), (5, 5)] rfl), o251, o220, lh221⟩
         ·clear h280 hk hs
          intro fu284 a w hI0
          rw [hI283] at hI0
          obtain ⟨u265, u260, u261, A268, p269, k266, k262, hi, hk, hs, o267, o263, lh264⟩ := hI0
          obtain ⟨x285, H, h286⟩ := loop_round hi
          try dsimp only at H
          unfold spec_l08Access.s3 at H
          apply wp_seq_k; intro K287 hK287
          apply wp_seq_k; intro K288 hK288
          apply wp_region_lit
          refine sm _ rfl hk rfl rfl rfl fun a hk => ?_
          refine sm _ rfl hk rfl rfl rfl fun a hk => ?_
          refine sle rfl hk rfl rfl rfl un28 fun a hk => ?_
          refine sv (.bool (decide (u260 < (u222.length : Int)))) hk rfl rfl rfl fun a hk => ?_
          show wpList _ _ _ [] _ _
          refine wpList_nil ?_
          refine hK288 _ _ ?_
          rcases cond_some H with ⟨c289, H⟩ | ⟨c289, H⟩
          ·have hk := hk.lit 112 c289 rfl
           refine cnd_true hk rfl rfl ?_
           refine wp_skip ?_
           refine hK287 _ _ ?_
           apply wp_seq_k; intro K290 hK290
           refine wp_block ?_
           apply wp_seq_k; intro K291 hK291
           obtain ⟨o294, h295, HL296⟩ := bind_some H
           clear H
           obtain ⟨R297, hR297⟩ : ∃ R : Act → World → Prop, R = fun a w => ∃ (u293 : Bool), u293 = o294 ∧ Kn [(5, (.pointer (some ⟨b2, 0, none⟩))), (10, (.pointer (some ⟨b3, 0, none⟩))), (13, (.int .i64 (y5.Pos.getD x1.toNat 0))), (14, (.slice A27 y25.length p28)), (17, (.int .i64 u139)), (18, (.slice A225 u222.length p226)), (20, (.int .i64 u217)), (21, (.slice A268 u265.length p269)), (22, (.int .i64 u260)), (136, (.bool u293))] 171 a ∧ Sat [] w0 w [(1, k0_0), (2, k0_1), (3, k0_2)] [(9, k29), (15, k223), (22, k266), (4, [(b2, .cells #[.slice A7 y5.Pos.length p8, .slice A11 y5.Stash.length p12, .slice A15 y5.Buckets.length p16] 31 (0, 0))]), (6, k116), (7, k13), (8, k262), (5, [(b3, .cells #[.slice none 0 0, .slice none 0 0, .slice none 0 0] 31 (0, 0))])] := ⟨_, rfl⟩
           refine wp_cutq R297 ?_ ?_
           ·have H := h295
            refine wp_region_mix [(0, true), (1, true), (2, true), (3, true), (4, true), (5, true), (6, true), (7, true), (8, true), (9, true), (10, true), (11, true), (12, true), (13, true), (14, true), (15, true), (16, true), (17, true), (18, true), (19, true), (20, true), (21, true)] mo (by kernel_rfl) hs fun _ => ?_
            have hs := hs.drew
            refine qst (.pointer (some ⟨b2, 2, none⟩)) hk rfl rfl rfl rfl (fun w hs => sf ⟨b2, 2, none⟩ rfl hk rfl rfl rfl fd31_2 rfl fun a hk => qe hk) fun a hk => ?_
            refine qst (.slice A15 y5.Buckets.length p16) hk rfl rfl rfl rfl (fun w hs => sl rfl hk rfl rfl rfl ag29 (box_cell hs (k := 4) rfl rfl) fun a hk => qe hk) fun a hk => ?_
            refine qst (.slice A27 y25.length p28) hk rfl rfl rfl rfl (fun w hs => sm _ rfl hk rfl rfl rfl fun a hk => qe hk) fun a hk => ?_
            refine qst (.int .i64 u217) hk rfl rfl rfl rfl (fun w hs => sm _ rfl hk rfl rfl rfl fun a hk => qe hk) fun a hk => ?_
            rcases ite_some H with ⟨c298, H⟩ | ⟨_, H⟩
            rotate_left
            ·cases H
            obtain ⟨b299, q300, hAc298⟩ := (o30.view).some_ u217 c298.1 c298.2
            refine qst (.pointer (some (padd A27 (u217.toNat * 1)))) hk rfl rfl rfl rfl (fun w hs => si rfl hk rfl rfl rfl rfl un22 sz3 c298.1 c298.2 hAc298 fun a hk => qe hk) fun a hk => ?_
            obtain ⟨_, rfl, e301⟩ := (o30.view).at_ 0 u217 c298.1 c298.2
            refine qst (.int .i64 (y25.getD u217.toNat 0)) hk rfl rfl rfl rfl (fun w hs => sl (v := (.int .i64 (y25.getD u217.toNat 0))) rfl hk rfl rfl rfl ag3 ((e301 0 _ rfl).cell (hs.hasG (k := 9) rfl)) fun a hk => qe hk) fun a hk => ?_
            rcases ite_some H with ⟨c302, H⟩ | ⟨_, H⟩
            rotate_left
            ·cases H
            obtain ⟨b303, q304, hAc302⟩ := (o263.view).some_ (y25.getD u217.toNat 0) c302.1 (by rw [lh264]; exact c302.2)
            refine qst (.pointer (some (padd A15 ((y25.getD u217.toNat 0).toNat * 1)))) hk rfl rfl rfl rfl (fun w hs => si rfl hk rfl rfl rfl rfl un29 sz28 c302.1 c302.2 hAc302 fun a hk => qe hk) fun a hk => ?_
            obtain ⟨_, ⟨_, rfl, A306, p307, rfl, v308⟩, e305⟩ := (o263.view).at_ [] (y25.getD u217.toNat 0) c302.1 (by rw [lh264]; exact c302.2)
            refine qst (.slice A306 (u261.getD (y25.getD u217.toNat 0).toNat []).length p307) hk rfl rfl rfl rfl (fun w hs => sl (v := (.slice A306 (u261.getD (y25.getD u217.toNat 0).toNat []).length p307)) rfl hk rfl rfl rfl ag28 ((e305 0 _ rfl).cell (hs.hasG (k := 8) rfl)) fun a hk => qe hk) fun a hk => ?_
            refine qst (.int .i64 ((u261.getD (y25.getD u217.toNat 0).toNat []).length : Int)) hk rfl rfl rfl rfl (fun w hs => sle rfl hk rfl rfl rfl un28 fun a hk => qe hk) fun a hk => ?_
            refine qst (.bool (decide (((u261.getD (y25.getD u217.toNat 0).toNat []).length : Int) < 2))) hk rfl rfl rfl rfl (fun w hs => sv (.bool (decide (((u261.getD (y25.getD u217.toNat 0).toNat []).length : Int) < 2))) hk rfl rfl rfl fun a hk => qe hk) fun a hk => ?_
            refine qst (.bool (decide (((u261.getD (y25.getD u217.toNat 0).toNat []).length : Int) < 2))) hk rfl rfl rfl rfl (fun w hs => sm _ rfl hk rfl rfl rfl fun a hk => qe hk) fun a hk => ?_
            rcases cond_some H with ⟨c309, H⟩ | ⟨c309, H⟩
            ·have hk := hk.lit 125 c309 rfl
             refine qst (.slice A27 y25.length p28) hk rfl rfl rfl rfl (fun w hs => sm _ rfl hk rfl rfl rfl fun a hk => qe hk) fun a hk => ?_
             refine qst (.int .i64 u217) hk rfl rfl rfl rfl (fun w hs => sm _ rfl hk rfl rfl rfl fun a hk => qe hk) fun a hk => ?_
             rcases ite_some H with ⟨c310, H⟩ | ⟨_, H⟩
             rotate_left
             ·cases H
             obtain ⟨b311, q312, hAc310⟩ := (o30.view).some_ u217 c310.1 c310.2
             refine qst (.pointer (some (padd A27 (u217.toNat * 1)))) hk rfl rfl rfl rfl (fun w hs => si rfl hk rfl rfl rfl rfl un22 sz3 c310.1 c310.2 hAc310 fun a hk => qe hk) fun a hk => ?_
             obtain ⟨_, rfl, e313⟩ := (o30.view).at_ 0 u217 c310.1 c310.2
             refine qst (.int .i64 (y25.getD u217.toNat 0)) hk rfl rfl rfl rfl (fun w hs => sl (v := (.int .i64 (y25.getD u217.toNat 0))) rfl hk rfl rfl rfl ag3 ((e313 0 _ rfl).cell (hs.hasG (k := 9) rfl)) fun a hk => qe hk) fun a hk => ?_
             refine qst (.slice A225 u222.length p226) hk rfl rfl rfl rfl (fun w hs => sm _ rfl hk rfl rfl rfl fun a hk => qe hk) fun a hk => ?_
             refine qst (.int .i64 u260) hk rfl rfl rfl rfl (fun w hs => sm _ rfl hk rfl rfl rfl fun a hk => qe hk) fun a hk => ?_
             rcases ite_some H with ⟨c314, H⟩ | ⟨_, H⟩
             rotate_left
             ·cases H
             obtain ⟨b315, q316, hAc314⟩ := (o224.view).some_ u260 c314.1 c314.2
             refine qst (.pointer (some (padd A225 (u260.toNat * 3)))) hk rfl rfl rfl rfl (fun w hs => si rfl hk rfl rfl rfl rfl un28 sz102 c314.1 c314.2 hAc314 fun a hk => qe hk) fun a hk => ?_
             refine qst (.pointer (some (padd A225 (u260.toNat * 3 + 1)))) hk rfl rfl rfl rfl (fun w hs => sf (padd A225 (u260.toNat * 3 + 1)) rfl hk rfl rfl rfl fd102_1 (padd_add _ _ _) fun a hk => qe hk) fun a hk => ?_
             obtain ⟨_, rfl, e317⟩ := (o224.view).at_ z_Block u260 c314.1 c314.2
             refine qst (.int .i64 ((u222.getD u260.toNat z_Block).Leaf)) hk rfl rfl rfl rfl (fun w hs => sl (v := (.int .i64 ((u222.getD u260.toNat z_Block).Leaf))) rfl hk rfl rfl rfl ag3 ((e317 1 _ rfl).cell (hs.hasG (k := 15) rfl)) fun a hk => qe hk) fun a hk => ?_
             obtain ⟨y318, h319, H⟩ := bind_some H
             refine qst (.bool y318) hk rfl rfl rfl rfl (fun w hs => sc rfl en125 hk rfl rfl rfl (spec_l08On_t _ (y25.getD u217.toNat 0) ((u222.getD u260.toNat z_Block).Leaf) _ h319) fun _ w hR a hk => qc hR hk) fun a hk => ?_
             refine qst (.bool y318) hk rfl rfl rfl rfl (fun w hs => sv (.bool y318) hk rfl rfl rfl fun a hk => qe hk) fun a hk => ?_
             refine wml_nil fun w hF _ => ?_
             have hs := hs.f hF
             obtain rfl := Option.some.inj H
             show R297 _ _
             rw [hR297]
             exact ⟨y318, rfl, (hk.c 5 rfl (hk.c 10 rfl (hk.c 13 rfl (hk.c 14 rfl (hk.c 17 rfl (hk.c 18 rfl (hk.c 20 rfl (hk.c 21 rfl (hk.c 22 rfl (hk.c 136 rfl hk.k)))))))))), (hs.pick [(9, 9), (15, 15), (22, 22), (4, 4), (6, 6), (7, 7), (8, 8), (5, 5)] rfl)⟩
            ·have hk := hk.lit 125 c309 rfl
             refine qsk hk rfl rfl rfl rfl fun a hk => ?_
             refine qsk hk rfl rfl rfl rfl fun a hk => ?_
             refine qsk hk rfl rfl rfl rfl fun a hk => ?_
             refine qsk hk rfl rfl rfl rfl fun a hk => ?_
             refine qsk hk rfl rfl rfl rfl fun a hk => ?_
             refine qsk hk rfl rfl rfl rfl fun a hk => ?_
             refine qsk hk rfl rfl rfl rfl fun a hk => ?_
             refine qsk hk rfl rfl rfl rfl fun a hk => ?_
             refine qsk hk rfl rfl rfl rfl fun a hk => ?_
             refine qsk hk rfl rfl rfl rfl fun a hk => ?_
             refine qst (.bool false) hk rfl rfl rfl rfl (fun w hs => sv (.bool false) hk rfl rfl rfl fun a hk => qe hk) fun a hk => ?_
             refine wml_nil fun w hF _ => ?_
             have hs := hs.f hF
             obtain rfl := Option.some.inj H
             show R297 _ _
             rw [hR297]
             exact ⟨false, rfl, (hk.c 5 rfl (hk.c 10 rfl (hk.c 13 rfl (hk.c 14 rfl (hk.c 17 rfl (hk.c 18 rfl (hk.c 20 rfl (hk.c 21 rfl (hk.c 22 rfl (hk.c 136 rfl hk.k)))))))))), (hs.pick [(9, 9), (15, 15), (22, 22), (4, 4), (6, 6), (7, 7), (8, 8), (5, 5)] rfl)⟩
           ·intro a w hR0
            rw [hR297] at hR0
            obtain ⟨u293, rfl, hk, hs⟩ := hR0
            have H := HL296
            try dsimp only at H
            refine hK291 _ _ ?_
            obtain ⟨o330, h331, HL332⟩ := bind_some H
            clear H
            obtain ⟨R333, hR333⟩ : ∃ R : Act → World → Prop, R = fun a w => ∃ (u321 : List S_Block) (u326 : List (List S_Block)) (A324 : Option Addr) (p325 : Nat) (k322 : Chunk) (k327 : Chunk), (u321, u326) = o330 ∧ Kn [(5, (.pointer (some ⟨b2, 0, none⟩))), (10, (.pointer (some ⟨b3, 0, none⟩))), (13, (.int .i64 (y5.Pos.getD x1.toNat 0))), (14, (.slice A27 y25.length p28)), (17, (.int .i64 u139)), (18, (.slice A225 u222.length p226)), (20, (.int .i64 u217)), (21, (.slice A324 u321.length p325)), (22, (.int .i64 u260))] 171 a ∧ Sat [] w0 w [(1, k0_0), (2, k0_1), (3, k0_2)] [(9, k29), (15, k223), (22, k322), (4, [(b2, .cells #[.slice A7 y5.Pos.length p8, .slice A11 y5.Stash.length p12, .slice A15 y5.Buckets.length p16] 31 (0, 0))]), (6, k116), (7, k13), (8, k327), (5, [(b3, .cells #[.slice none 0 0, .slice none 0 0, .slice none 0 0] 31 (0, 0))])] ∧ Own L_Block 102 A324 p325 u321 k322 ∧ Own (Lay.sl L_Block 102) 28 A15 p16 u326 k327 ∧ u326.length = y5.Buckets.length := ⟨_, rfl⟩
            refine wp_cutq R333 ?_ ?_
            ·have H := h331
             rcases cond_some H with ⟨c334, H⟩ | ⟨c334, H⟩
             ·have hk := hk.lit 136 c334 rfl
              refine cnd_true hk rfl rfl ?_
              rcases ite_some H with ⟨c_r335_4_1, H⟩ | ⟨_, H⟩
              rotate_left
              ·cases H
              rcases ite_some H with ⟨c_r335_10_1, H⟩ | ⟨_, H⟩
              rotate_left
              ·cases H
              rcases ite_some H with ⟨c_r335_12_1, H⟩ | ⟨_, H⟩
              rotate_left
              ·cases H
              rcases ite_some H with ⟨c_r335_16_1, H⟩ | ⟨_, H⟩
              rotate_left
              ·cases H
              rcases ite_some H with ⟨c_r335_19_5, H⟩ | ⟨_, H⟩
              rotate_left
              ·cases H
              rcases ite_some H with ⟨c_r335_20_1, H⟩ | ⟨_, H⟩
              rotate_left
              ·cases H
              obtain ⟨R336, hR336⟩ : ∃ R : Act → World → Prop, R = fun a w => ∃ (k_r335_21_1 : Chunk), Kn [(5, (.pointer (some ⟨b2, 0, none⟩))), (10, (.pointer (some ⟨b3, 0, none⟩))), (13, (.int .i64 (y5.Pos.getD x1.toNat 0))), (14, (.slice A27 y25.length p28)), (17, (.int .i64 u139)), (18, (.slice A225 u222.length p226)), (20, (.int .i64 u217)), (21, (.slice A268 u265.length p269)), (22, (.int .i64 u260))] 171 a ∧ Sat [] w0 w [(1, k0_0), (2, k0_1), (3, k0_2)] [(9, k29), (15, k223), (22, k266), (4, [(b2, .cells #[.slice A7 y5.Pos.length p8, .slice A11 y5.Stash.length p12, .slice A15 y5.Buckets.length p16] 31 (0, 0))]), (6, k116), (7, k13), (8, k_r335_21_1), (5, [(b3, .cells #[.slice none 0 0, .slice none 0 0, .slice none 0 0] 31 (0, 0))])] ∧ Own (Lay.sl L_Block 102) 28 A15 p16 (u261.set (y25.getD u217.toNat 0).toNat ((u261.getD (y25.getD u217.toNat 0).toNat []) ++ ([(u222.getD u260.toNat z_Block)]))) k_r335_21_1 ∧ (u261.set (y25.getD u217.toNat 0).toNat ((u261.getD (y25.getD u217.toNat 0).toNat []) ++ ([(u222.getD u260.toNat z_Block)]))).length = y5.Buckets.length := ⟨_, rfl⟩
              refine wp_cutq R336 ?_ ?_
              ·skip
               refine wp_region_tree (.q 0 (.q 1 (.q 2 (.q 3 (.q 4 (.q 5 (.q 6 (.q 7 (.q 8 (.q 9 (.q 10 (.q 11 (.q 12 (.q 14 (.q 15 (.q 16 (.q 17 (.alt 13 (.alt 18 (.alt 19 (.alt 20 (.last 21) .stop) .stop) .stop) (.alt 18 (.alt 13 (.alt 19 (.alt 20 (.last 21) .stop) .stop) .stop) .stop))))))))))))))))))) mo (by kernel_rfl) (hs.pick [(9, 9), (15, 15), (22, 22), (4, 4), (6, 6), (7, 7), (5, 5)] rfl) fun _ => ?_
               have hs := hs.drew
               refine tqst (.pointer (some ⟨b2, 2, none⟩)) hk rfl rfl rfl rfl (fun w hs => sf ⟨b2, 2, none⟩ rfl hk rfl rfl rfl fd31_2 rfl fun a hk => qe hk) fun a hk => ?_
               refine tqst (.slice A15 y5.Buckets.length p16) hk rfl rfl rfl rfl (fun w hs => sl rfl hk rfl rfl rfl ag29 (box_cell hs (k := 4) rfl rfl) fun a hk => qe hk) fun a hk => ?_
               refine tqst (.slice A27 y25.length p28) hk rfl rfl rfl rfl (fun w hs => sm _ rfl hk rfl rfl rfl fun a hk => qe hk) fun a hk => ?_
               refine tqst (.int .i64 u217) hk rfl rfl rfl rfl (fun w hs => sm _ rfl hk rfl rfl rfl fun a hk => qe hk) fun a hk => ?_
               obtain ⟨b_r335_4_2, q_r335_4_3, hAc_r335_4_1⟩ := (o30.view).some_ u217 c_r335_4_1.1 c_r335_4_1.2
               refine tqst (.pointer (some (padd A27 (u217.toNat * 1)))) hk rfl rfl rfl rfl (fun w hs => si rfl hk rfl rfl rfl rfl un22 sz3 c_r335_4_1.1 c_r335_4_1.2 hAc_r335_4_1 fun a hk => qe hk) fun a hk => ?_
               obtain ⟨_, rfl, e_r335_5_1⟩ := (o30.view).at_ 0 u217 c_r335_4_1.1 c_r335_4_1.2
               refine tqst (.int .i64 (y25.getD u217.toNat 0)) hk rfl rfl rfl rfl (fun w hs => sl (v := (.int .i64 (y25.getD u217.toNat 0))) rfl hk rfl rfl rfl ag3 ((e_r335_5_1 0 _ rfl).cell (hs.hasG (k := 9) rfl)) fun a hk => qe hk) fun a hk => ?_
               refine tqst (.pointer (some ⟨b2, 2, none⟩)) hk rfl rfl rfl rfl (fun w hs => sf ⟨b2, 2, none⟩ rfl hk rfl rfl rfl fd31_2 rfl fun a hk => qe hk) fun a hk => ?_
               refine tqst (.slice A15 y5.Buckets.length p16) hk rfl rfl rfl rfl (fun w hs => sl rfl hk rfl rfl rfl ag29 (box_cell hs (k := 4) rfl rfl) fun a hk => qe hk) fun a hk => ?_
               refine tqst (.slice A27 y25.length p28) hk rfl rfl rfl rfl (fun w hs => sm _ rfl hk rfl rfl rfl fun a hk => qe hk) fun a hk => ?_
               refine tqst (.int .i64 u217) hk rfl rfl rfl rfl (fun w hs => sm _ rfl hk rfl rfl rfl fun a hk => qe hk) fun a hk => ?_
               obtain ⟨b_r335_10_2, q_r335_10_3, hAc_r335_10_1⟩ := (o30.view).some_ u217 c_r335_10_1.1 c_r335_10_1.2
               refine tqst (.pointer (some (padd A27 (u217.toNat * 1)))) hk rfl rfl rfl rfl (fun w hs => si rfl hk rfl rfl rfl rfl un22 sz3 c_r335_10_1.1 c_r335_10_1.2 hAc_r335_10_1 fun a hk => qe hk) fun a hk => ?_
               obtain ⟨_, rfl, e_r335_11_1⟩ := (o30.view).at_ 0 u217 c_r335_10_1.1 c_r335_10_1.2
               refine tqst (.int .i64 (y25.getD u217.toNat 0)) hk rfl rfl rfl rfl (fun w hs => sl (v := (.int .i64 (y25.getD u217.toNat 0))) rfl hk rfl rfl rfl ag3 ((e_r335_11_1 0 _ rfl).cell (hs.hasG (k := 9) rfl)) fun a hk => qe hk) fun a hk => ?_
               obtain ⟨b_r335_12_2, q_r335_12_3, hAc_r335_12_1⟩ := (o263.view).some_ (y25.getD u217.toNat 0) c_r335_12_1.1 (by rw [lh264]; exact c_r335_12_1.2)
               refine tqst (.pointer (some (padd A15 ((y25.getD u217.toNat 0).toNat * 1)))) hk rfl rfl rfl rfl (fun w hs => si rfl hk rfl rfl rfl rfl un29 sz28 c_r335_12_1.1 c_r335_12_1.2 hAc_r335_12_1 fun a hk => qe hk) fun a hk => ?_
               refine tqst (.slice A225 u222.length p226) hk rfl rfl rfl rfl (fun w hs => sm _ rfl hk rfl rfl rfl fun a hk => qe hk) fun a hk => ?_
               refine tqst (.int .i64 u260) hk rfl rfl rfl rfl (fun w hs => sm _ rfl hk rfl rfl rfl fun a hk => qe hk) fun a hk => ?_
               obtain ⟨b_r335_16_2, q_r335_16_3, hAc_r335_16_1⟩ := (o224.view).some_ u260 c_r335_16_1.1 c_r335_16_1.2
               refine tqst (.pointer (some (padd A225 (u260.toNat * 3)))) hk rfl rfl rfl rfl (fun w hs => si rfl hk rfl rfl rfl rfl un28 sz102 c_r335_16_1.1 c_r335_16_1.2 hAc_r335_16_1 fun a hk => qe hk) fun a hk => ?_
               obtain ⟨_, rfl, e_r335_17_1⟩ := (o224.view).at_ z_Block u260 c_r335_16_1.1 c_r335_16_1.2
               refine tqst (.agg #[.int .i64 ((u222.getD u260.toNat z_Block).Id), .int .i64 ((u222.getD u260.toNat z_Block).Leaf), .int .i64 ((u222.getD u260.toNat z_Block).Value)]) hk rfl rfl rfl rfl (fun w hs => sln [.int .i64 ((u222.getD u260.toNat z_Block).Id), .int .i64 ((u222.getD u260.toNat z_Block).Leaf), .int .i64 ((u222.getD u260.toNat z_Block).Value)] rfl hk rfl rfl rfl ag102 sz102 (cells_at e_r335_17_1 (hs.hasG (k := 15) rfl)) fun a hk => qe hk) fun a hk => ?_
               refine tsst hk rfl rfl (fun K_r335_13 hK_r335_13 w hF => ?_) ?_
               ·skip
                have hs := hs.f hF
                obtain ⟨_, ⟨_, rfl, A_r335_13_2, p_r335_13_3, rfl, v_r335_13_4⟩, e_r335_13_1⟩ := (o263.view).at_ [] (y25.getD u217.toNat 0) c_r335_12_1.1 (by rw [lh264]; exact c_r335_12_1.2)
                refine sl (v := (.slice A_r335_13_2 (u261.getD (y25.getD u217.toNat 0).toNat []).length p_r335_13_3)) rfl hk rfl rfl rfl ag28 ((e_r335_13_1 0 _ rfl).cell (hs.hasG (k := 8) rfl)) fun a hk => ?_
                refine se (hs.pick [(9, 9), (15, 15), (22, 22), (4, 4), (6, 6), (7, 7), (5, 5)] rfl) hk (hK_r335_13 _ _ ?_)
                refine tsst hk rfl rfl (fun K_r335_18 hK_r335_18 w hF => ?_) wt_stop
                have hs := hs.f hF
                refine sbs (L := L_Block) (pv := [(0, (.agg #[.int .i64 ((u222.getD u260.toNat z_Block).Id), .int .i64 ((u222.getD u260.toNat z_Block).Leaf), .int .i64 ((u222.getD u260.toNat z_Block).Value)]))]) (xs := [(u222.getD u260.toNat z_Block)]) (ess := [[.int .i64 ((u222.getD u260.toNat z_Block).Id), .int .i64 ((u222.getD u260.toNat z_Block).Leaf), .int .i64 ((u222.getD u260.toNat z_Block).Value)]]) 126361 hs rfl hk rfl rfl rfl un28 (bs102_3 ((u222.getD u260.toNat z_Block).Id) ((u222.getD u260.toNat z_Block).Leaf) ((u222.getD u260.toNat z_Block).Value)) (AllOwn.cons0 ⟨rfl, rfl⟩ AllOwn.nil) rfl rfl rfl fun b_r335_18_1 k_r335_18_2 w a hk o_r335_18_3 hs => ?_
                refine se (hs.pick [(9, 9), (15, 15), (22, 22), (4, 4), (6, 6), (7, 7), (5, 5)] rfl) hk (hK_r335_18 _ _ ?_)
                refine tsst hk rfl rfl (fun K_r335_19 hK_r335_19 w hF => ?_) wt_stop
                have hs := hs.f hF
                obtain ⟨k_r335_19_1, k_r335_19_2, o_r335_19_3, o_r335_19_4, hs⟩ := Own.holeS 126381 0 [] hs (k := 8) rfl o263 c_r335_12_1.1 (by rw [lh264]; exact c_r335_12_1.2) (e_r335_13_1 0 _ rfl) (fun es d h => el_slH h)
                refine sap 126381 (xs := (u261.getD (y25.getD u217.toNat 0).toNat [])) (ys := [(u222.getD u260.toNat z_Block)]) (flat_flat : (L_Block).Flat) hs rfl o_r335_19_3 o_r335_18_3.view (hs.hasG (k := 126361) rfl) rfl hk rfl rfl rfl rfl rfl rfl un28 mk102 rfl rfl rfl c_r335_19_5 fun A_r335_19_6 p_r335_19_7 k_r335_19_8 w a hk o_r335_19_9 hs => ?_
                refine se (hs.pick [(9, 9), (15, 15), (22, 22), (4, 4), (6, 6), (7, 7), (5, 5)] rfl) hk (hK_r335_19 _ _ ?_)
                refine tsst hk rfl rfl (fun K_r335_20 hK_r335_20 w hF => ?_) wt_stop
                have hs := hs.f hF
                obtain ⟨b_r335_20_2, q_r335_20_3, hAc_r335_20_1⟩ := o_r335_19_4.some_
                refine si rfl hk rfl rfl rfl rfl un29 sz28 c_r335_20_1.1 c_r335_20_1.2 hAc_r335_20_1 fun a hk => ?_
                refine se (hs.pick [(9, 9), (15, 15), (22, 22), (4, 4), (6, 6), (7, 7), (5, 5)] rfl) hk (hK_r335_20 _ _ ?_)
                refine tlst hk rfl rfl fun K_r335_21 hK_r335_21 w hF => ?_
                have hs := hs.f hF
                refine soh 8 126381 ((u261.getD (y25.getD u217.toNat 0).toNat []) ++ ([(u222.getD u260.toNat z_Block)])) hs rfl rfl o_r335_19_4 c_r335_20_1.1 (by rw [lh264]; exact c_r335_20_1.2) rfl hk rfl rfl rfl rfl rfl sz28 (by simp [Value.cells, Value.oneCell']) rfl ⟨_, rfl, o_r335_19_9.toV⟩ fun k_r335_21_1 w a hk o_r335_21_2 hs => ?_
                have lh_r335_21_3 : (u261.set (y25.getD u217.toNat 0).toNat ((u261.getD (y25.getD u217.toNat 0).toNat []) ++ ([(u222.getD u260.toNat z_Block)]))).length = y5.Buckets.length := by rw [List.length_set]; exact lh264
                refine se trivial hk (hK_r335_21 _ _ fun w hF => ?_)
                have hs := hs.f hF
                show R336 _ _
                rw [hR336]
                exact ⟨k_r335_21_1, (hk.c 5 rfl (hk.c 10 rfl (hk.c 13 rfl (hk.c 14 rfl (hk.c 17 rfl (hk.c 18 rfl (hk.c 20 rfl (hk.c 21 rfl (hk.c 22 rfl hk.k))))))))), (hs.pick [(9, 9), (15, 15), (22, 22), (4, 4), (6, 6), (7, 7), (8, 8), (5, 5)] rfl), o_r335_21_2, lh_r335_21_3⟩
               refine tsst hk rfl rfl (fun K_r335_18 hK_r335_18 w hF => ?_) wt_stop
               have hs := hs.f hF
               refine sbs (L := L_Block) (pv := [(0, (.agg #[.int .i64 ((u222.getD u260.toNat z_Block).Id), .int .i64 ((u222.getD u260.toNat z_Block).Leaf), .int .i64 ((u222.getD u260.toNat z_Block).Value)]))]) (xs := [(u222.getD u260.toNat z_Block)]) (ess := [[.int .i64 ((u222.getD u260.toNat z_Block).Id), .int .i64 ((u222.getD u260.toNat z_Block).Leaf), .int .i64 ((u222.getD u260.toNat z_Block).Value)]]) 126361 hs rfl hk rfl rfl rfl un28 (bs102_3 ((u222.getD u260.toNat z_Block).Id) ((u222.getD u260.toNat z_Block).Leaf) ((u222.getD u260.toNat z_Block).Value)) (AllOwn.cons0 ⟨rfl, rfl⟩ AllOwn.nil) rfl rfl rfl fun b_r335_18_1 k_r335_18_2 w a hk o_r335_18_3 hs => ?_
               refine se (hs.pick [(9, 9), (15, 15), (22, 22), (4, 4), (6, 6), (7, 7), (5, 5)] rfl) hk (hK_r335_18 _ _ ?_)
               refine tsst hk rfl rfl (fun K_r335_13 hK_r335_13 w hF => ?_) wt_stop
               have hs := hs.f hF
               obtain ⟨_, ⟨_, rfl, A_r335_13_2, p_r335_13_3, rfl, v_r335_13_4⟩, e_r335_13_1⟩ := (o263.view).at_ [] (y25.getD u217.toNat 0) c_r335_12_1.1 (by rw [lh264]; exact c_r335_12_1.2)
               refine sl (v := (.slice A_r335_13_2 (u261.getD (y25.getD u217.toNat 0).toNat []).length p_r335_13_3)) rfl hk rfl rfl rfl ag28 ((e_r335_13_1 0 _ rfl).cell (hs.hasG (k := 8) rfl)) fun a hk => ?_
               refine se (hs.pick [(9, 9), (15, 15), (22, 22), (4, 4), (6, 6), (7, 7), (5, 5)] rfl) hk (hK_r335_13 _ _ ?_)
               refine tsst hk rfl rfl (fun K_r335_19 hK_r335_19 w hF => ?_) wt_stop
               have hs := hs.f hF
               obtain ⟨k_r335_19_1, k_r335_19_2, o_r335_19_3, o_r335_19_4, hs⟩ := Own.holeS 126381 0 [] hs (k := 8) rfl o263 c_r335_12_1.1 (by rw [lh264]; exact c_r335_12_1.2) (e_r335_13_1 0 _ rfl) (fun es d h => el_slH h)
               refine sap 126381 (xs := (u261.getD (y25.getD u217.toNat 0).toNat [])) (ys := [(u222.getD u260.toNat z_Block)]) (flat_flat : (L_Block).Flat) hs rfl o_r335_19_3 o_r335_18_3.view (hs.hasG (k := 126361) rfl) rfl hk rfl rfl rfl rfl rfl rfl un28 mk102 rfl rfl rfl c_r335_19_5 fun A_r335_19_6 p_r335_19_7 k_r335_19_8 w a hk o_r335_19_9 hs => ?_
               refine se (hs.pick [(9, 9), (15, 15), (22, 22), (4, 4), (6, 6), (7, 7), (5, 5)] rfl) hk (hK_r335_19 _ _ ?_)
               refine tsst hk rfl rfl (fun K_r335_20 hK_r335_20 w hF => ?_) wt_stop
               have hs := hs.f hF
               obtain ⟨b_r335_20_2, q_r335_20_3, hAc_r335_20_1⟩ := o_r335_19_4.some_
               refine si rfl hk rfl rfl rfl rfl un29 sz28 c_r335_20_1.1 c_r335_20_1.2 hAc_r335_20_1 fun a hk => ?_
               refine se (hs.pick [(9, 9), (15, 15), (22, 22), (4, 4), (6, 6), (7, 7), (5, 5)] rfl) hk (hK_r335_20 _ _ ?_)
               refine tlst hk rfl rfl fun K_r335_21 hK_r335_21 w hF => ?_
               have hs := hs.f hF
               refine soh 8 126381 ((u261.getD (y25.getD u217.toNat 0).toNat []) ++ ([(u222.getD u260.toNat z_Block)])) hs rfl rfl o_r335_19_4 c_r335_20_1.1 (by rw [lh264]; exact c_r335_20_1.2) rfl hk rfl rfl rfl rfl rfl sz28 (by simp [Value.cells, Value.oneCell']) rfl ⟨_, rfl, o_r335_19_9.toV⟩ fun k_r335_21_1 w a hk o_r335_21_2 hs => ?_
               have lh_r335_21_3 : (u261.set (y25.getD u217.toNat 0).toNat ((u261.getD (y25.getD u217.toNat 0).toNat []) ++ ([(u222.getD u260.toNat z_Block)]))).length = y5.Buckets.length := by rw [List.length_set]; exact lh264
               refine se trivial hk (hK_r335_21 _ _ fun w hF => ?_)
               have hs := hs.f hF
               show R336 _ _
               rw [hR336]
               exact ⟨k_r335_21_1, (hk.c 5 rfl (hk.c 10 rfl (hk.c 13 rfl (hk.c 14 rfl (hk.c 17 rfl (hk.c 18 rfl (hk.c 20 rfl (hk.c 21 rfl (hk.c 22 rfl hk.k))))))))), (hs.pick [(9, 9), (15, 15), (22, 22), (4, 4), (6, 6), (7, 7), (8, 8), (5, 5)] rfl), o_r335_21_2, lh_r335_21_3⟩
              ·intro a w hR0
               rw [hR336] at hR0
               obtain ⟨k_r335_21_1, hk, hs, o_r335_21_2, lh_r335_21_3⟩ := hR0
               obtain rfl := Option.some.inj H
               show R333 _ _
               rw [hR333]
               exact ⟨u265, (u261.set (y25.getD u217.toNat 0).toNat ((u261.getD (y25.getD u217.toNat 0).toNat []) ++ ([(u222.getD u260.toNat z_Block)]))), A268, p269, _, _, rfl, (hk.c 5 rfl (hk.c 10 rfl (hk.c 13 rfl (hk.c 14 rfl (hk.c 17 rfl (hk.c 18 rfl (hk.c 20 rfl (hk.c 21 rfl (hk.c 22 rfl hk.k))))))))), (hs.pick [(9, 9), (15, 15), (22, 22), (4, 4), (6, 6), (7, 7), (8, 8), (5, 5)] rfl), o267, o_r335_21_2, lh_r335_21_3⟩
             ·have hk := hk.lit 136 c334 rfl
              refine cnd_false hk rfl rfl ?_
              apply wp_region_lit
              refine sm _ rfl hk rfl rfl rfl fun a hk => ?_
              refine sm _ rfl hk rfl rfl rfl fun a hk => ?_
              refine sm _ rfl hk rfl rfl rfl fun a hk => ?_
              rcases ite_some H with ⟨c337, H⟩ | ⟨_, H⟩
              rotate_left
              ·cases H
              obtain ⟨b338, q339, hAc337⟩ := (o224.view).some_ u260 c337.1 c337.2
              refine si rfl hk rfl rfl rfl rfl un28 sz102 c337.1 c337.2 hAc337 fun a hk => ?_
              obtain ⟨_, rfl, e340⟩ := (o224.view).at_ z_Block u260 c337.1 c337.2
              refine sln [.int .i64 ((u222.getD u260.toNat z_Block).Id), .int .i64 ((u222.getD u260.toNat z_Block).Leaf), .int .i64 ((u222.getD u260.toNat z_Block).Value)] rfl hk rfl rfl rfl ag102 sz102 (cells_at e340 (hs.hasG (k := 15) rfl)) fun a hk => ?_
              refine sbs (L := L_Block) (pv := [(0, (.agg #[.int .i64 ((u222.getD u260.toNat z_Block).Id), .int .i64 ((u222.getD u260.toNat z_Block).Leaf), .int .i64 ((u222.getD u260.toNat z_Block).Value)]))]) (xs := [(u222.getD u260.toNat z_Block)]) (ess := [[.int .i64 ((u222.getD u260.toNat z_Block).Id), .int .i64 ((u222.getD u260.toNat z_Block).Leaf), .int .i64 ((u222.getD u260.toNat z_Block).Value)]]) 27 hs rfl hk rfl rfl rfl un28 (bs102_3 ((u222.getD u260.toNat z_Block).Id) ((u222.getD u260.toNat z_Block).Leaf) ((u222.getD u260.toNat z_Block).Value)) (AllOwn.cons0 ⟨rfl, rfl⟩ AllOwn.nil) rfl rfl rfl fun b341 k342 w a hk o343 hs => ?_
              rcases ite_some H with ⟨c344, H⟩ | ⟨_, H⟩
              rotate_left
              ·cases H
              refine sap 22 (xs := u265) (ys := [(u222.getD u260.toNat z_Block)]) (flat_flat : (L_Block).Flat) hs rfl o267 o343.view (hs.hasG (k := 27) rfl) rfl hk rfl rfl rfl rfl rfl rfl un28 mk102 rfl rfl rfl c344 fun A345 p346 k347 w a hk o348 hs => ?_
              refine sa _ rfl hk rfl rfl rfl fun a hk => ?_
              show wpList _ _ _ [] _ _
              refine wpList_nil ?_
              obtain rfl := Option.some.inj H
              show R333 _ _
              rw [hR333]
              exact ⟨(u265 ++ ([(u222.getD u260.toNat z_Block)])), u261, A345, p346, _, _, rfl, (hk.c 5 rfl (hk.c 10 rfl (hk.c 13 rfl (hk.c 14 rfl (hk.c 17 rfl (hk.c 18 rfl (hk.c 20 rfl (hk.c 21 rfl (hk.c 22 rfl hk.k))))))))), (hs.pick [(9, 9), (15, 15), (22, 22), (4, 4), (6, 6), (7, 7), (8, 8), (5, 5)] rfl), o348, o263, lh264⟩
            ·intro a w hR0
             rw [hR333] at hR0
             obtain ⟨u321, u326, A324, p325, k322, k327, rfl, hk, hs, o323, o328, lh329⟩ := hR0
             have H := HL332
             try dsimp only at H
             refine hK290 _ _ ?_
             have hs := hs.pick [(9, 9), (15, 15), (22, 22), (4, 4), (6, 6), (7, 7), (8, 8), (5, 5)] rfl
             apply wp_region_lit
             refine sm _ rfl hk rfl rfl rfl fun a hk => ?_
             refine sv (.int .i64 (w64 (u260 + 1))) hk rfl rfl rfl fun a hk => ?_
             refine sa _ rfl hk rfl rfl rfl fun a hk => ?_
             show wpList _ _ _ [] _ _
             refine wpList_nil ?_
             obtain rfl := Option.some.inj H
             obtain ⟨m349, hmm349, h286⟩ := h286
             show ∃ n', n' < _ ∧ I283 n' _ _
             refine ⟨m349, hmm349, ?_⟩
             rw [hI283]
             exact ⟨u321, (w64 (u260 + 1)), u326, A324, p325, _, _, h286, (hk.c 5 rfl (hk.c 10 rfl (hk.c 13 rfl (hk.c 14 rfl (hk.c 17 rfl (hk.c 18 rfl (hk.c 20 rfl (hk.c 21 rfl (hk.c 22 rfl hk.k))))))))), (hs.pick [(9, 9), (15, 15), (22, 22), (4, 4), (6, 6), (7, 7), (8, 8), (5, 5)] rfl), o323, o328, lh329⟩
          ·have hk := hk.lit 112 c289 rfl
           refine cnd_false hk rfl rfl ?_
           refine wp_exit ?_
           obtain rfl := Option.some.inj H
           show R282 _ _
           rw [hR282]
           exact ⟨u265, u261, A268, p269, _, _, h286.symm, (hk.c 5 rfl (hk.c 10 rfl (hk.c 13 rfl (hk.c 14 rfl (hk.c 17 rfl (hk.c 20 rfl (hk.c 21 rfl hk.k))))))), (hs.pick [(9, 9), (22, 22), (4, 4), (6, 6), (7, 7), (8, 8), (5, 5)] rfl), o267, o263, lh264⟩
        ·intro a w hR0
         rw [hR282] at hR0
         obtain ⟨u270, u275, A273, p274, k271, k276, rfl, hk, hs, o272, o277, lh278⟩ := hR0
         have H := HL281
         try dsimp only at H
         refine hK252 _ _ ?_
         apply wp_region_lit
         refine sm _ rfl hk rfl rfl rfl fun a hk => ?_
         refine sa _ rfl hk rfl rfl rfl fun a hk => ?_
         show wpList _ _ _ [] _ _
         refine wpList_nil ?_
         refine hK247 _ _ ?_
         apply wp_region_lit
         refine sm _ rfl hk rfl rfl rfl fun a hk => ?_
         refine sv (.int .i64 (w64 (u217 - 1))) hk rfl rfl rfl fun a hk => ?_
         refine sa _ rfl hk rfl rfl rfl fun a hk => ?_
         show wpList _ _ _ [] _ _
         refine wpList_nil ?_
         obtain rfl := Option.some.inj H
         obtain ⟨m350, hmm350, h243⟩ := h243
         show ∃ n', n' < _ ∧ I240 n' _ _
         refine ⟨m350, hmm350, ?_⟩
         rw [hI240]
         exact ⟨u270, (w64 (u217 - 1)), u275, A273, p274, _, _, h243, (hk.c 5 rfl (hk.c 10 rfl (hk.c 13 rfl (hk.c 14 rfl (hk.c 17 rfl (hk.c 18 rfl (hk.c 20 rfl hk.k))))))), (hs.pick [(9, 9), (15, 22), (4, 4), (6, 6), (7, 7), (8, 8), (5, 5)] rfl), o272, o277, lh278⟩
       ·have hk := hk.lit 105 c246 rfl
        refine cnd_false hk rfl rfl ?_
        refine wp_exit ?_
        obtain rfl := Option.some.inj H
        show R239 _ _
        rw [hR239]
        exact ⟨u222, u218, A225, p226, _, _, h243.symm, (hk.c 5 rfl (hk.c 10 rfl (hk.c 13 rfl (hk.c 17 rfl (hk.c 18 rfl hk.k))))), (hs.pick [(15, 15), (4, 4), (6, 6), (7, 7), (8, 8), (5, 5)] rfl), o224, o220, lh221⟩
     ·intro a w hR0
      rw [hR239] at hR0
      obtain ⟨u227, u232, A230, p231, k228, k233, rfl, hk, hs, o229, o234, lh235⟩ := hR0
      have H := HL238
      try dsimp only at H
      refine hK209 _ _ ?_
      apply wp_seq_k; intro K351 hK351
      apply wp_region_lit
      refine sm _ rfl hk rfl rfl rfl fun a hk => ?_
      refine sf ⟨b2, 1, none⟩ rfl hk rfl rfl rfl fd31_1 rfl fun a hk => ?_
      refine ssx (cs' := #[.slice A7 y5.Pos.length p8, .slice A230 u227.length p231, .slice A15 y5.Buckets.length p16]) 4 hs rfl rfl hk rfl rfl rfl rfl sz28 rfl rfl rfl rfl fun w a hk hs => ?_
      show wpList _ _ _ [] _ _
      refine wpList_nil ?_
      refine hK351 _ _ ?_
      apply wp_seq_k; intro K352 hK352
      apply wp_region_lit
      refine sln [.slice A7 y5.Pos.length p8, .slice A230 u227.length p231, .slice A15 y5.Buckets.length p16] rfl hk rfl rfl rfl ag31 sz31 (box_cells hs (k := 4) rfl) fun a hk => ?_
      refine sm _ rfl hk rfl rfl rfl fun a hk => ?_
      refine sm _ rfl hk rfl rfl rfl fun a hk => ?_
      refine ssw 5 hs rfl rfl hk rfl rfl rfl rfl sz31 (by simp [Value.oneCell']) rfl fun w a hk hs => ?_
      refine sa _ rfl hk rfl rfl rfl fun a hk => ?_
      refine sa _ rfl hk rfl rfl rfl fun a hk => ?_
      show wpList _ _ _ [] _ _
      refine wpList_nil ?_
      refine hK352 _ _ ?_
      refine wp_ret ?_
      obtain rfl := Option.some.inj H
      exact fin hk _ [(.agg #[.slice A7 y5.Pos.length p8, .slice A230 u227.length p231, .slice A15 y5.Buckets.length p16]), (.int .i64 u139), (.int .i64 (y5.Pos.getD x1.toNat 0))] rfl ⟨⟨_, rfl, run_loadN ag31 sz31 (box_cells hs (k := 5) rfl)⟩, ⟨rfl, ⟨rfl, trivial⟩⟩⟩ ⟨A7, p8, _, A230, p231, _, A15, p16, _, (by first | (rw [lh118, lh235]; done) | (rw [lh118, lh235]; rfl)), o117, o229, o234, (hs.pick [(0, 6), (1, 15), (2, 8)] rfl).dnil⟩

noncomputable def spec_Access.f (x0 : S_Oram) (x1 : Int) (x2 : Bool) (x3 : Int) (x4 : Int) : Option (S_Oram × Int × Int × Int) :=
  ((spec_OramOK.f x0).bind fun y6 => (bif (!y6) then (some ((⟨([] : List Int), ([] : List S_Block), ([] : List (List S_Block))⟩ : S_Oram), 0, 0, 1)) else ((((spec_l01In.f x1 0 11).bind fun y18 => (bif (!y18) then (some true) else ((spec_l01In.f x4 0 7).bind fun y21 => (bif (!y21) then (some true) else ((spec_l01In.f x3 0 999999).bind fun y24 => (some (!y24))))))) : Option (Bool)).bind fun u13 => (bif u13 then (some ((⟨([] : List Int), ([] : List S_Block), ([] : List (List S_Block))⟩ : S_Oram), 0, 0, 4)) else ((spec_l08Access.f x0 x1 x2 x3 x4).bind fun y29 => (some (y29.1, y29.2.1, y29.2.2, 0)))))))
set_option maxRecDepth 100000 in
set_option maxHeartbeats 0 in
theorem spec_Access_t (w0 : World) (x0 : S_Oram) (A0_0 : Option Addr) (p0_0 : Nat) (k0_0 : Chunk) (v0_0 : View (Lay.int .i64) A0_0 p0_0 x0.Pos k0_0) (w0_0 : Has w0 k0_0) (A0_1 : Option Addr) (p0_1 : Nat) (k0_1 : Chunk) (v0_1 : View L_Block A0_1 p0_1 x0.Stash k0_1) (w0_1 : Has w0 k0_1) (A0_2 : Option Addr) (p0_2 : Nat) (k0_2 : Chunk) (v0_2 : View (Lay.sl L_Block 102) A0_2 p0_2 x0.Buckets k0_2) (w0_2 : Has w0 k0_2) (x1 : Int) (x2 : Bool) (x3 : Int) (x4 : Int) (r : S_Oram × Int × Int × Int) (H : spec_Access.f x0 x1 x2 x3 x4 = some r) :
    Calls Try.prog 10 #[.agg #[.slice A0_0 x0.Pos.length p0_0, .slice A0_1 x0.Stash.length p0_1, .slice A0_2 x0.Buckets.length p0_2], .int .i64 x1, .bool x2, .int .i64 x3, .int .i64 x4] w0 (Ret (fun v w => ∃ (A0 : Option Addr) (p0 : Nat) (k0 : Chunk), ∃ (A1 : Option Addr) (p1 : Nat) (k1 : Chunk), ∃ (A2 : Option Addr) (p2 : Nat) (k2 : Chunk), v = .tuple #[.agg #[.slice A0 r.1.Pos.length p0, .slice A1 r.1.Stash.length p1, .slice A2 r.1.Buckets.length p2], .int .i64 r.2.1, .int .i64 r.2.2.1, .int .i64 r.2.2.2] ∧ Own (Lay.int .i64) 3 A0 p0 r.1.Pos k0 ∧ Own L_Block 102 A1 p1 r.1.Stash k1 ∧ Own (Lay.sl L_Block 102) 28 A2 p2 r.1.Buckets k2 ∧ Sat [] w0 w [] [(0, k0), (1, k1), (2, k2)])) := by
  have hs : Sat [] w0 w0 [(1, k0_0), (2, k0_1), (3, k0_2)] [] := Sat.init w0 [(1, k0_0), (2, k0_1), (3, k0_2)] [] (by simp only [List.mem_cons, List.not_mem_nil, or_false]; rintro x (rfl | rfl | rfl) <;> assumption) (by simp) List.nodup_nil (by simp [blks])
  unfold spec_Access.f at H
  refine enter Try.func10 rfl Try.ntmps10 rfl fun a hk => ?_
  apply wp_seq_k; intro K1 hK1
  apply wp_region_lit
  refine sbx 4 hs rfl hk rfl rfl rfl rfl fun b2 w a hk hs => ?_
  refine salx 5 hs rfl hk rfl rfl ze31 rfl fun b3 w a hk hs => ?_
  refine sa _ rfl hk rfl rfl rfl fun a hk => ?_
  refine sa _ rfl hk rfl rfl rfl fun a hk => ?_
  refine sa _ rfl hk rfl rfl rfl fun a hk => ?_
  show wpList _ _ _ [] _ _
  refine wpList_nil ?_
  refine hK1 _ _ ?_
  apply wp_seq_k; intro K4 hK4
  apply wp_seq_k; intro K5 hK5
  apply wp_region_lit
  refine sln [.slice A0_0 x0.Pos.length p0_0, .slice A0_1 x0.Stash.length p0_1, .slice A0_2 x0.Buckets.length p0_2] rfl hk rfl rfl rfl ag31 sz31 (box_cells hs (k := 4) rfl) fun a hk => ?_
  obtain ⟨y6, h7, H⟩ := bind_some H
  refine sc rfl en57 hk rfl rfl rfl (spec_OramOK_t _ x0 A0_0 p0_0 _ v0_0 (hs.hasD (k := 1) rfl) A0_1 p0_1 _ v0_1 (hs.hasD (k := 2) rfl) A0_2 p0_2 _ v0_2 (hs.hasD (k := 3) rfl) _ h7) ?_
  rintro _ w ⟨rfl, hG⟩ a hk
  have hs := hs.call0 hG
  refine sv (.bool (!y6)) hk rfl rfl rfl fun a hk => ?_
  show wpList _ _ _ [] _ _
  refine wpList_nil ?_
  refine hK5 _ _ ?_
  rcases cond_some H with ⟨c8, H⟩ | ⟨c8, H⟩
  ·have hk := hk.lit 19 c8 rfl
   refine cnd_true hk rfl rfl ?_
   apply wp_seq_k; intro K9 hK9
   apply wp_region_lit
   refine sbd (pv := []) rfl hk rfl rfl rfl bd31_5 fun a hk => ?_
   refine ssw 5 hs rfl rfl hk rfl rfl rfl rfl sz31 (by simp [Value.oneCell']) rfl fun w a hk hs => ?_
   refine sa _ rfl hk rfl rfl rfl fun a hk => ?_
   refine sa _ rfl hk rfl rfl rfl fun a hk => ?_
   refine sa _ rfl hk rfl rfl rfl fun a hk => ?_
   show wpList _ _ _ [] _ _
   refine wpList_nil ?_
   refine hK9 _ _ ?_
   refine wp_ret ?_
   obtain rfl := Option.some.inj H
   have hs := hs.addNil 6
   have hs := hs.addNil 7
   have hs := hs.addNil 8
   exact fin hk _ [(.agg #[.slice none 0 0, .slice none 0 0, .slice none 0 0]), (.int .i64 0), (.int .i64 0), (.int .i64 1)] rfl ⟨⟨_, rfl, run_loadN ag31 sz31 (box_cells hs (k := 5) rfl)⟩, ⟨rfl, ⟨rfl, ⟨rfl, trivial⟩⟩⟩⟩ ⟨none, 0, [], none, 0, [], none, 0, [], rfl, Own.nil _ _, Own.nil _ _, Own.nil _ _, (hs.pick [(0, 6), (1, 7), (2, 8)] rfl).dnil⟩
  ·have hk := hk.lit 19 c8 rfl
   refine cnd_false hk rfl rfl ?_
   refine wp_skip ?_
   refine hK4 _ _ ?_
   apply wp_seq_k; intro K10 hK10
   apply wp_seq_k; intro K11 hK11
   obtain ⟨o14, h15, HL16⟩ := bind_some H
   clear H
   obtain ⟨R17, hR17⟩ : ∃ R : Act → World → Prop, R = fun a w => ∃ (u13 : Bool), u13 = o14 ∧ Kn [(1, (.int .i64 x1)), (2, (.bool x2)), (3, (.int .i64 x3)), (4, (.int .i64 x4)), (5, (.pointer (some ⟨b2, 0, none⟩))), (10, (.pointer (some ⟨b3, 0, none⟩))), (33, (.bool u13))] 48 a ∧ Sat [] w0 w [(1, k0_0), (2, k0_1), (3, k0_2)] [(4, [(b2, .cells #[.slice A0_0 x0.Pos.length p0_0, .slice A0_1 x0.Stash.length p0_1, .slice A0_2 x0.Buckets.length p0_2] 31 (0, 0))]), (5, [(b3, .cells #[.slice none 0 0, .slice none 0 0, .slice none 0 0] 31 (0, 0))])] := ⟨_, rfl⟩
   refine wp_cutq R17 ?_ ?_
   ·have H := h15
    apply wp_region_lit
    refine sm _ rfl hk rfl rfl rfl fun a hk => ?_
    obtain ⟨y18, h19, H⟩ := bind_some H
    refine sc rfl en58 hk rfl rfl rfl (spec_l01In_t _ x1 0 11 _ h19) ?_
    rintro _ w ⟨rfl, hG⟩ a hk
    have hs := hs.call0 hG
    refine sv (.bool (!y18)) hk rfl rfl rfl fun a hk => ?_
    refine sm _ rfl hk rfl rfl rfl fun a hk => ?_
    rcases cond_some H with ⟨c20, H⟩ | ⟨c20, H⟩
    ·have hk := hk.lit 24 c20 rfl
     refine sk hk rfl rfl rfl fun a hk => ?_
     refine sk hk rfl rfl rfl fun a hk => ?_
     refine sk hk rfl rfl rfl fun a hk => ?_
     refine sv (.bool true) hk rfl rfl rfl fun a hk => ?_
     refine sm _ rfl hk rfl rfl rfl fun a hk => ?_
     refine sk hk rfl rfl rfl fun a hk => ?_
     refine sk hk rfl rfl rfl fun a hk => ?_
     refine sk hk rfl rfl rfl fun a hk => ?_
     refine sv (.bool true) hk rfl rfl rfl fun a hk => ?_
     show wpList _ _ _ [] _ _
     refine wpList_nil ?_
     obtain rfl := Option.some.inj H
     show R17 _ _
     rw [hR17]
     exact ⟨true, rfl, (hk.c 1 rfl (hk.c 2 rfl (hk.c 3 rfl (hk.c 4 rfl (hk.c 5 rfl (hk.c 10 rfl (hk.c 33 rfl hk.k))))))), (hs.pick [(4, 4), (5, 5)] rfl)⟩
    ·have hk := hk.lit 24 c20 rfl
     refine sm _ rfl hk rfl rfl rfl fun a hk => ?_
     obtain ⟨y21, h22, H⟩ := bind_some H
     refine sc rfl en58 hk rfl rfl rfl (spec_l01In_t _ x4 0 7 _ h22) ?_
     rintro _ w ⟨rfl, hG⟩ a hk
     have hs := hs.call0 hG
     refine sv (.bool (!y21)) hk rfl rfl rfl fun a hk => ?_
     refine sv (.bool (!y21)) hk rfl rfl rfl fun a hk => ?_
     refine sm _ rfl hk rfl rfl rfl fun a hk => ?_
     rcases cond_some H with ⟨c23, H⟩ | ⟨c23, H⟩
     ·have hk := hk.lit 29 c23 rfl
      refine sk hk rfl rfl rfl fun a hk => ?_
      refine sk hk rfl rfl rfl fun a hk => ?_
      refine sk hk rfl rfl rfl fun a hk => ?_
      refine sv (.bool true) hk rfl rfl rfl fun a hk => ?_
      show wpList _ _ _ [] _ _
      refine wpList_nil ?_
      obtain rfl := Option.some.inj H
      show R17 _ _
      rw [hR17]
      exact ⟨true, rfl, (hk.c 1 rfl (hk.c 2 rfl (hk.c 3 rfl (hk.c 4 rfl (hk.c 5 rfl (hk.c 10 rfl (hk.c 33 rfl hk.k))))))), (hs.pick [(4, 4), (5, 5)] rfl)⟩
     ·have hk := hk.lit 29 c23 rfl
      refine sm _ rfl hk rfl rfl rfl fun a hk => ?_
      obtain ⟨y24, h25, H⟩ := bind_some H
      refine sc rfl en58 hk rfl rfl rfl (spec_l01In_t _ x3 0 999999 _ h25) ?_
      rintro _ w ⟨rfl, hG⟩ a hk
      have hs := hs.call0 hG
      refine sv (.bool (!y24)) hk rfl rfl rfl fun a hk => ?_
      refine sv (.bool (!y24)) hk rfl rfl rfl fun a hk => ?_
      show wpList _ _ _ [] _ _
      refine wpList_nil ?_
      obtain rfl := Option.some.inj H
      show R17 _ _
      rw [hR17]
      exact ⟨(!y24), rfl, (hk.c 1 rfl (hk.c 2 rfl (hk.c 3 rfl (hk.c 4 rfl (hk.c 5 rfl (hk.c 10 rfl (hk.c 33 rfl hk.k))))))), (hs.pick [(4, 4), (5, 5)] rfl)⟩
   ·intro a w hR0
    rw [hR17] at hR0
    obtain ⟨u13, rfl, hk, hs⟩ := hR0
    have H := HL16
    try dsimp only at H
    refine hK11 _ _ ?_
    have hs := hs.pick [(4, 4), (5, 5)] rfl
    rcases cond_some H with ⟨c26, H⟩ | ⟨c26, H⟩
    ·have hk := hk.lit 33 c26 rfl
     refine cnd_true hk rfl rfl ?_
     apply wp_seq_k; intro K27 hK27
     apply wp_region_lit
     refine sbd (pv := []) rfl hk rfl rfl rfl bd31_5 fun a hk => ?_
     refine ssw 5 hs rfl rfl hk rfl rfl rfl rfl sz31 (by simp [Value.oneCell']) rfl fun w a hk hs => ?_
     refine sa _ rfl hk rfl rfl rfl fun a hk => ?_
     refine sa _ rfl hk rfl rfl rfl fun a hk => ?_
     refine sa _ rfl hk rfl rfl rfl fun a hk => ?_
     show wpList _ _ _ [] _ _
     refine wpList_nil ?_
     refine hK27 _ _ ?_
     refine wp_ret ?_
     obtain rfl := Option.some.inj H
     have hs := hs.addNil 10
     have hs := hs.addNil 11
     have hs := hs.addNil 12
     exact fin hk _ [(.agg #[.slice none 0 0, .slice none 0 0, .slice none 0 0]), (.int .i64 0), (.int .i64 0), (.int .i64 4)] rfl ⟨⟨_, rfl, run_loadN ag31 sz31 (box_cells hs (k := 5) rfl)⟩, ⟨rfl, ⟨rfl, ⟨rfl, trivial⟩⟩⟩⟩ ⟨none, 0, [], none, 0, [], none, 0, [], rfl, Own.nil _ _, Own.nil _ _, Own.nil _ _, (hs.pick [(0, 10), (1, 11), (2, 12)] rfl).dnil⟩
    ·have hk := hk.lit 33 c26 rfl
     refine cnd_false hk rfl rfl ?_
     refine wp_skip ?_
     refine hK10 _ _ ?_
     apply wp_seq_k; intro K28 hK28
     apply wp_region_lit
     refine sln [.slice A0_0 x0.Pos.length p0_0, .slice A0_1 x0.Stash.length p0_1, .slice A0_2 x0.Buckets.length p0_2] rfl hk rfl rfl rfl ag31 sz31 (box_cells hs (k := 4) rfl) fun a hk => ?_
     refine sm _ rfl hk rfl rfl rfl fun a hk => ?_
     refine sm _ rfl hk rfl rfl rfl fun a hk => ?_
     refine sm _ rfl hk rfl rfl rfl fun a hk => ?_
     refine sm _ rfl hk rfl rfl rfl fun a hk => ?_
     obtain ⟨y29, h30, H⟩ := bind_some H
     refine sc rfl en59 hk rfl rfl rfl (spec_l08Access_t _ x0 A0_0 p0_0 _ v0_0 (hs.hasD (k := 1) rfl) A0_1 p0_1 _ v0_1 (hs.hasD (k := 2) rfl) A0_2 p0_2 _ v0_2 (hs.hasD (k := 3) rfl) x1 x2 x3 x4 _ h30) ?_
     rintro _ w ⟨A31, p32, k33, A35, p36, k37, A39, p40, k41, rfl, o34, o38, o42, hG⟩ a hk
     have hs := hs.call0k hG [13, 14, 15] rfl
     refine sm _ rfl hk rfl rfl rfl fun a hk => ?_
     refine sv (.agg #[.slice A31 y29.1.Pos.length p32, .slice A35 y29.1.Stash.length p36, .slice A39 y29.1.Buckets.length p40]) hk rfl rfl rfl fun a hk => ?_
     refine sv (.int .i64 y29.2.1) hk rfl rfl rfl fun a hk => ?_
     refine sv (.int .i64 y29.2.2) hk rfl rfl rfl fun a hk => ?_
     refine salx 16 hs rfl hk rfl rfl ze31 rfl fun b43 w a hk hs => ?_
     refine ssw 16 hs rfl rfl hk rfl rfl rfl rfl sz31 (by simp [Value.oneCell']) rfl fun w a hk hs => ?_
     refine sa _ rfl hk rfl rfl rfl fun a hk => ?_
     refine sa _ rfl hk rfl rfl rfl fun a hk => ?_
     show wpList _ _ _ [] _ _
     refine wpList_nil ?_
     refine hK28 _ _ ?_
     apply wp_seq_k; intro K44 hK44
     apply wp_region_lit
     refine sln [.slice A31 y29.1.Pos.length p32, .slice A35 y29.1.Stash.length p36, .slice A39 y29.1.Buckets.length p40] rfl hk rfl rfl rfl ag31 sz31 (box_cells hs (k := 16) rfl) fun a hk => ?_
     refine sm _ rfl hk rfl rfl rfl fun a hk => ?_
     refine sm _ rfl hk rfl rfl rfl fun a hk => ?_
     refine ssw 5 hs rfl rfl hk rfl rfl rfl rfl sz31 (by simp [Value.oneCell']) rfl fun w a hk hs => ?_
     refine sa _ rfl hk rfl rfl rfl fun a hk => ?_
     refine sa _ rfl hk rfl rfl rfl fun a hk => ?_
     refine sa _ rfl hk rfl rfl rfl fun a hk => ?_
     show wpList _ _ _ [] _ _
     refine wpList_nil ?_
     refine hK44 _ _ ?_
     refine wp_ret ?_
     obtain rfl := Option.some.inj H
     exact fin hk _ [(.agg #[.slice A31 y29.1.Pos.length p32, .slice A35 y29.1.Stash.length p36, .slice A39 y29.1.Buckets.length p40]), (.int .i64 y29.2.1), (.int .i64 y29.2.2), (.int .i64 0)] rfl ⟨⟨_, rfl, run_loadN ag31 sz31 (box_cells hs (k := 5) rfl)⟩, ⟨rfl, ⟨rfl, ⟨rfl, trivial⟩⟩⟩⟩ ⟨A31, p32, _, A35, p36, _, A39, p40, _, rfl, o34, o38, o42, (hs.pick [(0, 13), (1, 14), (2, 15)] rfl).dnil⟩

noncomputable def impl_within.f (x0 : Int) (x1 : Int) (x2 : Int) : Option (Bool) :=
  (((bif (decide (x1 ≤ x0)) then (some (decide (x0 ≤ x2))) else (some false)) : Option (Bool)).bind fun u4 => (some u4))
set_option maxRecDepth 100000 in
set_option maxHeartbeats 0 in
theorem impl_within_t (w0 : World) (x0 : Int) (x1 : Int) (x2 : Int) (r : Bool) (H : impl_within.f x0 x1 x2 = some r) :
    Calls Try.prog 92 #[.int .i64 x0, .int .i64 x1, .int .i64 x2] w0 (Ret (fun v w => v = .bool r ∧ Sat [] w0 w [] [])) := by
  have hs : Sat [] w0 w0 [] [] := Sat.init w0 [] [] (by simp) (by simp) List.nodup_nil (by simp [blks])
  unfold impl_within.f at H
  refine enter Try.func92 rfl Try.ntmps92 rfl fun a hk => ?_
  apply wp_seq_k; intro K1 hK1
  apply wp_region_lit
  refine sa _ rfl hk rfl rfl rfl fun a hk => ?_
  show wpList _ _ _ [] _ _
  refine wpList_nil ?_
  refine hK1 _ _ ?_
  apply wp_seq_k; intro K2 hK2
  obtain ⟨o5, h6, HL7⟩ := bind_some H
  clear H
  obtain ⟨R8, hR8⟩ : ∃ R : Act → World → Prop, R = fun a w => ∃ (u4 : Bool), u4 = o5 ∧ Kn [(6, (.bool u4))] 15 a ∧ Sat [] w0 w [] [] := ⟨_, rfl⟩
  refine wp_cutq R8 ?_ ?_
  ·have H := h6
   apply wp_region_lit
   refine sm _ rfl hk rfl rfl rfl fun a hk => ?_
   refine sm _ rfl hk rfl rfl rfl fun a hk => ?_
   refine sv (.bool (decide (x1 ≤ x0))) hk rfl rfl rfl fun a hk => ?_
   refine sm _ rfl hk rfl rfl rfl fun a hk => ?_
   rcases cond_some H with ⟨c9, H⟩ | ⟨c9, H⟩
   ·have hk := hk.lit 10 c9 rfl
    refine sm _ rfl hk rfl rfl rfl fun a hk => ?_
    refine sm _ rfl hk rfl rfl rfl fun a hk => ?_
    refine sv (.bool (decide (x0 ≤ x2))) hk rfl rfl rfl fun a hk => ?_
    refine sv (.bool (decide (x0 ≤ x2))) hk rfl rfl rfl fun a hk => ?_
    refine sa _ rfl hk rfl rfl rfl fun a hk => ?_
    show wpList _ _ _ [] _ _
    refine wpList_nil ?_
    obtain rfl := Option.some.inj H
    show R8 _ _
    rw [hR8]
    exact ⟨(decide (x0 ≤ x2)), rfl, (hk.c 6 rfl hk.k), (hs.pick [] rfl)⟩
   ·have hk := hk.lit 10 c9 rfl
    refine sk hk rfl rfl rfl fun a hk => ?_
    refine sk hk rfl rfl rfl fun a hk => ?_
    refine sk hk rfl rfl rfl fun a hk => ?_
    refine sv (.bool false) hk rfl rfl rfl fun a hk => ?_
    refine sa _ rfl hk rfl rfl rfl fun a hk => ?_
    show wpList _ _ _ [] _ _
    refine wpList_nil ?_
    obtain rfl := Option.some.inj H
    show R8 _ _
    rw [hR8]
    exact ⟨false, rfl, (hk.c 6 rfl hk.k), (hs.pick [] rfl)⟩
  ·intro a w hR0
   rw [hR8] at hR0
   obtain ⟨u4, rfl, hk, hs⟩ := hR0
   have H := HL7
   try dsimp only at H
   refine hK2 _ _ ?_
   refine wp_ret ?_
   obtain rfl := Option.some.inj H
   exact fin hk _ [(.bool u4)] rfl ⟨rfl, trivial⟩ ⟨rfl, (hs.pick [] rfl).dnil⟩

noncomputable def impl_isLeaf.f (x0 : Int) : Option (Bool) :=
  ((impl_within.f x0 0 7).bind fun y3 => (some y3))
set_option maxRecDepth 100000 in
set_option maxHeartbeats 0 in
theorem impl_isLeaf_t (w0 : World) (x0 : Int) (r : Bool) (H : impl_isLeaf.f x0 = some r) :
    Calls Try.prog 64 #[.int .i64 x0] w0 (Ret (fun v w => v = .bool r ∧ Sat [] w0 w [] [])) := by
  have hs : Sat [] w0 w0 [] [] := Sat.init w0 [] [] (by simp) (by simp) List.nodup_nil (by simp [blks])
  unfold impl_isLeaf.f at H
  refine enter Try.func64 rfl Try.ntmps64 rfl fun a hk => ?_
  apply wp_seq_k; intro K1 hK1
  apply wp_region_lit
  refine sa _ rfl hk rfl rfl rfl fun a hk => ?_
  show wpList _ _ _ [] _ _
  refine wpList_nil ?_
  refine hK1 _ _ ?_
  apply wp_seq_k; intro K2 hK2
  apply wp_region_lit
  refine sm _ rfl hk rfl rfl rfl fun a hk => ?_
  obtain ⟨y3, h4, H⟩ := bind_some H
  refine sc rfl en92 hk rfl rfl rfl (impl_within_t _ x0 0 7 _ h4) ?_
  rintro _ w ⟨rfl, hG⟩ a hk
  have hs := hs.call0 hG
  refine sa _ rfl hk rfl rfl rfl fun a hk => ?_
  show wpList _ _ _ [] _ _
  refine wpList_nil ?_
  refine hK2 _ _ ?_
  refine wp_ret ?_
  obtain rfl := Option.some.inj H
  exact fin hk _ [(.bool y3)] rfl ⟨rfl, trivial⟩ ⟨rfl, (hs.pick [] rfl).dnil⟩

noncomputable def slices_IndexFunc_int_int.s0 (l0 : List Int) (q1 : Int → Option (Bool)) (u6 : Int) : Option ((Int) ⊕ Ex (Unit) (Int)) :=
  (bif (decide (u6 < (l0.length : Int))) then (if 0 ≤ u6 ∧ u6 < (l0.length : Int) then ((q1 (l0.getD u6.toNat 0)).bind fun y25 => (bif y25 then (some (.inr (.ret u6))) else (some (.inl (w64 (u6 + 1)))))) else none) else (some (.inr (.out ()))))
noncomputable def slices_IndexFunc_int_int.f (l0 : List Int) (q1 : Int → Option (Bool)) : Option (Int) :=
  ((loopO (fun s => slices_IndexFunc_int_int.s0 l0 q1 s) 0).bind fun o => match o with | .out _ => (some (-1)) | .ret r => (some r))
set_option maxRecDepth 100000 in
set_option maxHeartbeats 0 in
theorem slices_IndexFunc_int_int_t (w0 : World) (A0_ : Option Addr) (p0_ : Nat) (l0 : List Int) (k0_ : Chunk) (v0_ : View (Lay.int .i64) A0_ p0_ l0 k0_) (w0_ : Has w0 k0_) (f1_ : FuncId) (c1_ : List Value) (e1_ : Enters Try.prog f1_) (q1 : Int → Option (Bool)) (k1_ : Chunk) (t1_ : ∀ w, Has w k1_ → ∀ (z0 : Int) (r : Bool), q1 z0 = some r → Calls Try.prog f1_ (([.int .i64 z0] : List Value) ++ c1_).toArray w (Ret (fun v w2 => v = .bool r ∧ Sat [] w w2 [] []))) (w1_ : Has w0 k1_) (r : Int) (H : slices_IndexFunc_int_int.f l0 q1 = some r) :
    Calls Try.prog 181 #[.slice A0_ l0.length p0_, .func (.func f1_) #[] c1_.toArray] w0 (Ret (fun v w => v = .int .i64 r ∧ Sat [] w0 w [] [])) := by
  have hs : Sat [] w0 w0 [(1, k0_), (2, k1_)] [] := Sat.init w0 [(1, k0_), (2, k1_)] [] (by simp only [List.mem_cons, List.not_mem_nil, or_false]; rintro x (rfl | rfl) <;> assumption) (by simp) List.nodup_nil (by simp [blks])
  unfold slices_IndexFunc_int_int.f at H
  refine enter Try.func181 rfl Try.ntmps181 rfl fun a hk => ?_
  apply wp_seq_k; intro K1 hK1
  apply wp_region_lit
  refine sa _ rfl hk rfl rfl rfl fun a hk => ?_
  show wpList _ _ _ [] _ _
  refine wpList_nil ?_
  refine hK1 _ _ ?_
  apply wp_seq_k; intro K2 hK2
  apply wp_seq_k; intro K3 hK3
  apply wp_region_lit
  refine sm _ rfl hk rfl rfl rfl fun a hk => ?_
  refine sle rfl hk rfl rfl rfl un22 fun a hk => ?_
  refine sm _ rfl hk rfl rfl rfl fun a hk => ?_
  show wpList _ _ _ [] _ _
  refine wpList_nil ?_
  refine hK3 _ _ ?_
  obtain ⟨o7, h8, HL9⟩ := bind_some H
  clear H
  obtain ⟨R10, hR10⟩ : ∃ R : Act → World → Prop, R = fun a w => o7 = .out () ∧ Kn [] 19 a ∧ Sat [] w0 w [(1, k0_), (2, k1_)] [] := ⟨_, rfl⟩
  refine wp_cutq R10 ?_ ?_
  ·refine wp_block ?_
   obtain ⟨fu12, h8⟩ := loopO_some h8
   obtain ⟨I11, hI11⟩ : ∃ I : Nat → Act → World → Prop, I = fun fu a w => ∃ (u6 : Int), loopN (fun s => slices_IndexFunc_int_int.s0 l0 q1 s) fu u6 = some o7 ∧ Kn [(0, (.slice A0_ l0.length p0_)), (1, (.func (.func f1_) #[] c1_.toArray)), (7, (.int .i64 (l0.length : Int))), (8, (.int .i64 u6))] 19 a ∧ Sat [] w0 w [(1, k0_), (2, k1_)] [] := ⟨_, rfl⟩
   refine wp_loop_ghost I11 fu12 ?_ ?_
   ·rw [hI11]
    exact ⟨0, h8, (hk.c 0 rfl (hk.c 1 rfl (hk.c 7 rfl (hk.c 8 rfl hk.k)))), (hs.pick [] rfl)⟩
   ·clear h8 hk hs
    intro fu12 a w hI0
    rw [hI11] at hI0
    obtain ⟨u6, hi, hk, hs⟩ := hI0
    obtain ⟨x13, H, h14⟩ := loop_round hi
    try dsimp only at H
    unfold slices_IndexFunc_int_int.s0 at H
    apply wp_seq_k; intro K15 hK15
    apply wp_region_lit
    refine sv (.bool (decide (u6 < (l0.length : Int)))) hk rfl rfl rfl fun a hk => ?_
    show wpList _ _ _ [] _ _
    refine wpList_nil ?_
    refine hK15 _ _ ?_
    apply wp_seq_k; intro K16 hK16
    rcases cond_some H with ⟨c17, H⟩ | ⟨c17, H⟩
    ·have hk := hk.lit 9 c17 rfl
     refine cnd_true hk rfl rfl ?_
     refine wp_skip ?_
     refine hK16 _ _ ?_
     have hs := hs.pick [] rfl
     apply wp_seq_k; intro K18 hK18
     refine wp_block ?_
     apply wp_seq_k; intro K19 hK19
     apply wp_region_lit
     refine sm _ rfl hk rfl rfl rfl fun a hk => ?_
     refine sa _ rfl hk rfl rfl rfl fun a hk => ?_
     show wpList _ _ _ [] _ _
     refine wpList_nil ?_
     refine hK19 _ _ ?_
     apply wp_seq_k; intro K20 hK20
     apply wp_region_lit
     refine sm _ rfl hk rfl rfl rfl fun a hk => ?_
     refine sm _ rfl hk rfl rfl rfl fun a hk => ?_
     refine sm _ rfl hk rfl rfl rfl fun a hk => ?_
     rcases ite_some H with ⟨c21, H⟩ | ⟨_, H⟩
     rotate_left
     ·cases H
     obtain ⟨b22, q23, hAc21⟩ := (v0_).some_ u6 c21.1 c21.2
     refine si rfl hk rfl rfl rfl rfl un22 sz3 c21.1 c21.2 hAc21 fun a hk => ?_
     obtain ⟨_, rfl, e24⟩ := (v0_).at_ 0 u6 c21.1 c21.2
     refine sl (v := (.int .i64 (l0.getD u6.toNat 0))) rfl hk rfl rfl rfl ag3 ((e24 0 _ rfl).cell (hs.hasD (k := 1) rfl)) fun a hk => ?_
     obtain ⟨y25, h26, H⟩ := bind_some H
     refine scv (vs := ([(.int .i64 (l0.getD u6.toNat 0))] : List Value) ++ c1_) rfl rfl e1_ hk rfl rfl rfl (t1_ _ (hs.hasD (k := 2) rfl) (l0.getD u6.toNat 0) _ h26) ?_
     rintro _ w ⟨rfl, hG⟩ a hk
     have hs := hs.call0 hG
     show wpList _ _ _ [] _ _
     refine wpList_nil ?_
     refine hK20 _ _ ?_
     rcases cond_some H with ⟨c27, H⟩ | ⟨c27, H⟩
     ·have hk := hk.lit 16 c27 rfl
      refine cnd_true hk rfl rfl ?_
      apply wp_seq_k; intro K28 hK28
      apply wp_region_lit
      refine sm _ rfl hk rfl rfl rfl fun a hk => ?_
      refine sa _ rfl hk rfl rfl rfl fun a hk => ?_
      show wpList _ _ _ [] _ _
      refine wpList_nil ?_
      refine hK28 _ _ ?_
      refine wp_ret ?_
      obtain rfl := Option.some.inj H
      have ho7 := h14
      try dsimp only at ho7
      subst ho7
      have H := HL9
      try dsimp only at H
      obtain rfl := Option.some.inj H
      exact fin hk _ [(.int .i64 u6)] rfl ⟨rfl, trivial⟩ ⟨rfl, (hs.pick [] rfl).dnil⟩
     ·have hk := hk.lit 16 c27 rfl
      refine cnd_false hk rfl rfl ?_
      refine wp_skip ?_
      refine hK18 _ _ ?_
      apply wp_region_lit
      refine sv (.int .i64 (w64 (u6 + 1))) hk rfl rfl rfl fun a hk => ?_
      refine sm _ rfl hk rfl rfl rfl fun a hk => ?_
      show wpList _ _ _ [] _ _
      refine wpList_nil ?_
      obtain rfl := Option.some.inj H
      obtain ⟨m29, hmm29, h14⟩ := h14
      show ∃ n', n' < _ ∧ I11 n' _ _
      refine ⟨m29, hmm29, ?_⟩
      rw [hI11]
      exact ⟨(w64 (u6 + 1)), h14, (hk.c 0 rfl (hk.c 1 rfl (hk.c 7 rfl (hk.c 8 rfl hk.k)))), (hs.pick [] rfl)⟩
    ·have hk := hk.lit 9 c17 rfl
     refine cnd_false hk rfl rfl ?_
     refine wp_exit ?_
     obtain rfl := Option.some.inj H
     show R10 _ _
     rw [hR10]
     exact ⟨h14.symm, hk.k, (hs.pick [] rfl)⟩
  ·intro a w hR0
   rw [hR10] at hR0
   obtain ⟨rfl, hk, hs⟩ := hR0
   have H := HL9
   try dsimp only at H
   refine hK2 _ _ ?_
   apply wp_seq_k; intro K30 hK30
   apply wp_region_lit
   refine sa _ rfl hk rfl rfl rfl fun a hk => ?_
   show wpList _ _ _ [] _ _
   refine wpList_nil ?_
   refine hK30 _ _ ?_
   have hs := hs.pick [] rfl
   refine wp_ret ?_
   obtain rfl := Option.some.inj H
   exact fin hk _ [(.int .i64 (-1))] rfl ⟨rfl, trivial⟩ ⟨rfl, (hs.pick [] rfl).dnil⟩

noncomputable def slices_ContainsFunc_int_int.f (l0 : List Int) (q1 : Int → Option (Bool)) : Option (Bool) :=
  ((slices_IndexFunc_int_int.f l0 q1).bind fun y3 => (some (decide (y3 ≥ 0))))
set_option maxRecDepth 100000 in
set_option maxHeartbeats 0 in
theorem slices_ContainsFunc_int_int_t (w0 : World) (A0_ : Option Addr) (p0_ : Nat) (l0 : List Int) (k0_ : Chunk) (v0_ : View (Lay.int .i64) A0_ p0_ l0 k0_) (w0_ : Has w0 k0_) (f1_ : FuncId) (c1_ : List Value) (e1_ : Enters Try.prog f1_) (q1 : Int → Option (Bool)) (k1_ : Chunk) (t1_ : ∀ w, Has w k1_ → ∀ (z0 : Int) (r : Bool), q1 z0 = some r → Calls Try.prog f1_ (([.int .i64 z0] : List Value) ++ c1_).toArray w (Ret (fun v w2 => v = .bool r ∧ Sat [] w w2 [] []))) (w1_ : Has w0 k1_) (r : Bool) (H : slices_ContainsFunc_int_int.f l0 q1 = some r) :
    Calls Try.prog 141 #[.slice A0_ l0.length p0_, .func (.func f1_) #[] c1_.toArray] w0 (Ret (fun v w => v = .bool r ∧ Sat [] w0 w [] [])) := by
  have hs : Sat [] w0 w0 [(1, k0_), (2, k1_)] [] := Sat.init w0 [(1, k0_), (2, k1_)] [] (by simp only [List.mem_cons, List.not_mem_nil, or_false]; rintro x (rfl | rfl) <;> assumption) (by simp) List.nodup_nil (by simp [blks])
  unfold slices_ContainsFunc_int_int.f at H
  refine enter Try.func141 rfl Try.ntmps141 rfl fun a hk => ?_
  apply wp_seq_k; intro K1 hK1
  apply wp_region_lit
  refine sa _ rfl hk rfl rfl rfl fun a hk => ?_
  show wpList _ _ _ [] _ _
  refine wpList_nil ?_
  refine hK1 _ _ ?_
  apply wp_seq_k; intro K2 hK2
  apply wp_region_lit
  refine sm _ rfl hk rfl rfl rfl fun a hk => ?_
  refine sm _ rfl hk rfl rfl rfl fun a hk => ?_
  obtain ⟨y3, h4, H⟩ := bind_some H
  refine sc rfl en181 hk rfl rfl rfl (slices_IndexFunc_int_int_t _ A0_ p0_ l0 _ v0_ (hs.hasD (k := 1) rfl) f1_ c1_ e1_ q1 k1_ t1_ (hs.hasD (k := 2) rfl) _ h4) ?_
  rintro _ w ⟨rfl, hG⟩ a hk
  have hs := hs.call0 hG
  refine sv (.bool (decide (y3 ≥ 0))) hk rfl rfl rfl fun a hk => ?_
  refine sa _ rfl hk rfl rfl rfl fun a hk => ?_
  show wpList _ _ _ [] _ _
  refine wpList_nil ?_
  refine hK2 _ _ ?_
  refine wp_ret ?_
  obtain rfl := Option.some.inj H
  exact fin hk _ [(.bool (decide (y3 ≥ 0)))] rfl ⟨rfl, trivial⟩ ⟨rfl, (hs.pick [] rfl).dnil⟩

noncomputable def impl_areAll_int__c1.f (x0 : Int) (q1 : Int → Option (Bool)) : Option (Bool) :=
  ((q1 x0).bind fun y3 => (some (!y3)))
set_option maxRecDepth 100000 in
set_option maxHeartbeats 0 in
theorem impl_areAll_int__c1_t (w0 : World) (x0 : Int) (b1_ : Nat) (f1_ : FuncId) (c1_ : List Value) (e1_ : Enters Try.prog f1_) (q1 : Int → Option (Bool)) (k1_ : Chunk) (t1_ : ∀ w, Has w k1_ → ∀ (z0 : Int) (r : Bool), q1 z0 = some r → Calls Try.prog f1_ (([.int .i64 z0] : List Value) ++ c1_).toArray w (Ret (fun v w2 => v = .bool r ∧ Sat [] w w2 [] []))) (w1_ : Has w0 k1_) (h1_ : Has w0 [(b1_, .cells #[.func (.func f1_) #[] c1_.toArray] 89 (0, 0))]) (r : Bool) (H : impl_areAll_int__c1.f x0 q1 = some r) :
    Calls Try.prog 142 #[.int .i64 x0, .pointer (some ⟨b1_, 0, none⟩)] w0 (Ret (fun v w => v = .bool r ∧ Sat [] w0 w [] [])) := by
  have hs : Sat [] w0 w0 [(2, k1_), (1, [(b1_, .cells #[.func (.func f1_) #[] c1_.toArray] 89 (0, 0))])] [] := Sat.init w0 [(2, k1_), (1, [(b1_, .cells #[.func (.func f1_) #[] c1_.toArray] 89 (0, 0))])] [] (by simp only [List.mem_cons, List.not_mem_nil, or_false]; rintro x (rfl | rfl) <;> assumption) (by simp) List.nodup_nil (by simp [blks])
  unfold impl_areAll_int__c1.f at H
  refine enter Try.func142 rfl Try.ntmps142 rfl fun a hk => ?_
  apply wp_seq_k; intro K1 hK1
  apply wp_region_lit
  refine sa _ rfl hk rfl rfl rfl fun a hk => ?_
  show wpList _ _ _ [] _ _
  refine wpList_nil ?_
  refine hK1 _ _ ?_
  apply wp_seq_k; intro K2 hK2
  apply wp_region_lit
  refine sl rfl hk rfl rfl rfl ag89 (box_cellD hs (k := 1) rfl rfl) fun a hk => ?_
  refine sm _ rfl hk rfl rfl rfl fun a hk => ?_
  obtain ⟨y3, h4, H⟩ := bind_some H
  refine scv (vs := ([(.int .i64 x0)] : List Value) ++ c1_) rfl rfl e1_ hk rfl rfl rfl (t1_ _ (hs.hasD (k := 2) rfl) x0 _ h4) ?_
  rintro _ w ⟨rfl, hG⟩ a hk
  have hs := hs.call0 hG
  refine sv (.bool (!y3)) hk rfl rfl rfl fun a hk => ?_
  refine sa _ rfl hk rfl rfl rfl fun a hk => ?_
  show wpList _ _ _ [] _ _
  refine wpList_nil ?_
  refine hK2 _ _ ?_
  refine wp_ret ?_
  obtain rfl := Option.some.inj H
  exact fin hk _ [(.bool (!y3))] rfl ⟨rfl, trivial⟩ ⟨rfl, (hs.pick [] rfl).dnil⟩

noncomputable def impl_areAll_int.f (l0 : List Int) (q1 : Int → Option (Bool)) : Option (Bool) :=
  ((slices_ContainsFunc_int_int.f l0 (fun z0 => impl_areAll_int__c1.f z0 q1)).bind fun y4 => (some (!y4)))
set_option maxRecDepth 100000 in
set_option maxHeartbeats 0 in
theorem impl_areAll_int_t (w0 : World) (A0_ : Option Addr) (p0_ : Nat) (l0 : List Int) (k0_ : Chunk) (v0_ : View (Lay.int .i64) A0_ p0_ l0 k0_) (w0_ : Has w0 k0_) (f1_ : FuncId) (c1_ : List Value) (e1_ : Enters Try.prog f1_) (q1 : Int → Option (Bool)) (k1_ : Chunk) (t1_ : ∀ w, Has w k1_ → ∀ (z0 : Int) (r : Bool), q1 z0 = some r → Calls Try.prog f1_ (([.int .i64 z0] : List Value) ++ c1_).toArray w (Ret (fun v w2 => v = .bool r ∧ Sat [] w w2 [] []))) (w1_ : Has w0 k1_) (r : Bool) (H : impl_areAll_int.f l0 q1 = some r) :
    Calls Try.prog 80 #[.slice A0_ l0.length p0_, .func (.func f1_) #[] c1_.toArray] w0 (Ret (fun v w => v = .bool r ∧ Sat [] w0 w [] [])) := by
  have hs : Sat [] w0 w0 [(1, k0_), (2, k1_)] [] := Sat.init w0 [(1, k0_), (2, k1_)] [] (by simp only [List.mem_cons, List.not_mem_nil, or_false]; rintro x (rfl | rfl) <;> assumption) (by simp) List.nodup_nil (by simp [blks])
  unfold impl_areAll_int.f at H
  refine enter Try.func80 rfl Try.ntmps80 rfl fun a hk => ?_
  apply wp_seq_k; intro K1 hK1
  apply wp_region_lit
  refine sbx 3 hs rfl hk rfl rfl rfl rfl fun b2 w a hk hs => ?_
  refine sa _ rfl hk rfl rfl rfl fun a hk => ?_
  show wpList _ _ _ [] _ _
  refine wpList_nil ?_
  refine hK1 _ _ ?_
  apply wp_seq_k; intro K3 hK3
  apply wp_region_lit
  refine sm _ rfl hk rfl rfl rfl fun a hk => ?_
  refine smf (cs := [.pointer (some ⟨b2, 0, none⟩)]) rfl hk rfl rfl rfl fun a hk => ?_
  obtain ⟨y4, h5, H⟩ := bind_some H
  refine sc rfl en141 hk rfl rfl rfl (slices_ContainsFunc_int_int_t _ A0_ p0_ l0 _ v0_ (hs.hasD (k := 1) rfl) 142 [.pointer (some ⟨b2, 0, none⟩)] en142 (fun z0 => impl_areAll_int__c1.f z0 q1) ([(b2, .cells #[.func (.func f1_) #[] c1_.toArray] 89 (0, 0))] ++ k1_) (fun w hz z0 r h => impl_areAll_int__c1_t w z0 _ f1_ c1_ e1_ q1 k1_ t1_ (Has.right hz) (Has.left hz) r h) (Has.app (hs.hasG (k := 3) rfl) (hs.hasD (k := 2) rfl)) _ h5) ?_
  rintro _ w ⟨rfl, hG⟩ a hk
  have hs := hs.call0 hG
  refine sv (.bool (!y4)) hk rfl rfl rfl fun a hk => ?_
  refine sa _ rfl hk rfl rfl rfl fun a hk => ?_
  show wpList _ _ _ [] _ _
  refine wpList_nil ?_
  refine hK3 _ _ ?_
  refine wp_ret ?_
  obtain rfl := Option.some.inj H
  exact fin hk _ [(.bool (!y4))] rfl ⟨rfl, trivial⟩ ⟨rfl, (hs.pick [] rfl).dnil⟩

noncomputable def slices_IndexFunc_impl_Block_impl_Block.s0 (l0 : List S_Block) (q1 : S_Block → Option (Bool)) (u6 : Int) : Option ((Int) ⊕ Ex (Unit) (Int)) :=
  (bif (decide (u6 < (l0.length : Int))) then (if 0 ≤ u6 ∧ u6 < (l0.length : Int) then ((q1 (l0.getD u6.toNat z_Block)).bind fun y25 => (bif y25 then (some (.inr (.ret u6))) else (some (.inl (w64 (u6 + 1)))))) else none) else (some (.inr (.out ()))))
noncomputable def slices_IndexFunc_impl_Block_impl_Block.f (l0 : List S_Block) (q1 : S_Block → Option (Bool)) : Option (Int) :=
  ((loopO (fun s => slices_IndexFunc_impl_Block_impl_Block.s0 l0 q1 s) 0).bind fun o => match o with | .out _ => (some (-1)) | .ret r => (some r))
set_option maxRecDepth 100000 in
set_option maxHeartbeats 0 in
theorem slices_IndexFunc_impl_Block_impl_Block_t (w0 : World) (A0_ : Option Addr) (p0_ : Nat) (l0 : List S_Block) (k0_ : Chunk) (v0_ : View L_Block A0_ p0_ l0 k0_) (w0_ : Has w0 k0_) (f1_ : FuncId) (c1_ : List Value) (e1_ : Enters Try.prog f1_) (q1 : S_Block → Option (Bool)) (k1_ : Chunk) (t1_ : ∀ w, Has w k1_ → ∀ (z0 : S_Block) (r : Bool), q1 z0 = some r → Calls Try.prog f1_ (([.agg #[.int .i64 z0.Id, .int .i64 z0.Leaf, .int .i64 z0.Value]] : List Value) ++ c1_).toArray w (Ret (fun v w2 => v = .bool r ∧ Sat [] w w2 [] []))) (w1_ : Has w0 k1_) (r : Int) (H : slices_IndexFunc_impl_Block_impl_Block.f l0 q1 = some r) :
    Calls Try.prog 131 #[.slice A0_ l0.length p0_, .func (.func f1_) #[] c1_.toArray] w0 (Ret (fun v w => v = .int .i64 r ∧ Sat [] w0 w [] [])) := by
  have hs : Sat [] w0 w0 [(1, k0_), (2, k1_)] [] := Sat.init w0 [(1, k0_), (2, k1_)] [] (by simp only [List.mem_cons, List.not_mem_nil, or_false]; rintro x (rfl | rfl) <;> assumption) (by simp) List.nodup_nil (by simp [blks])
  unfold slices_IndexFunc_impl_Block_impl_Block.f at H
  refine enter Try.func131 rfl Try.ntmps131 rfl fun a hk => ?_
  apply wp_seq_k; intro K1 hK1
  apply wp_region_lit
  refine sa _ rfl hk rfl rfl rfl fun a hk => ?_
  show wpList _ _ _ [] _ _
  refine wpList_nil ?_
  refine hK1 _ _ ?_
  apply wp_seq_k; intro K2 hK2
  apply wp_seq_k; intro K3 hK3
  apply wp_region_lit
  refine sm _ rfl hk rfl rfl rfl fun a hk => ?_
  refine sle rfl hk rfl rfl rfl un28 fun a hk => ?_
  refine sm _ rfl hk rfl rfl rfl fun a hk => ?_
  show wpList _ _ _ [] _ _
  refine wpList_nil ?_
  refine hK3 _ _ ?_
  obtain ⟨o7, h8, HL9⟩ := bind_some H
  clear H
  obtain ⟨R10, hR10⟩ : ∃ R : Act → World → Prop, R = fun a w => o7 = .out () ∧ Kn [] 19 a ∧ Sat [] w0 w [(1, k0_), (2, k1_)] [] := ⟨_, rfl⟩
  refine wp_cutq R10 ?_ ?_
  ·refine wp_block ?_
   obtain ⟨fu12, h8⟩ := loopO_some h8
   obtain ⟨I11, hI11⟩ : ∃ I : Nat → Act → World → Prop, I = fun fu a w => ∃ (u6 : Int), loopN (fun s => slices_IndexFunc_impl_Block_impl_Block.s0 l0 q1 s) fu u6 = some o7 ∧ Kn [(0, (.slice A0_ l0.length p0_)), (1, (.func (.func f1_) #[] c1_.toArray)), (7, (.int .i64 (l0.length : Int))), (8, (.int .i64 u6))] 19 a ∧ Sat [] w0 w [(1, k0_), (2, k1_)] [] := ⟨_, rfl⟩
   refine wp_loop_ghost I11 fu12 ?_ ?_
   ·rw [hI11]
    exact ⟨0, h8, (hk.c 0 rfl (hk.c 1 rfl (hk.c 7 rfl (hk.c 8 rfl hk.k)))), (hs.pick [] rfl)⟩
   ·clear h8 hk hs
    intro fu12 a w hI0
    rw [hI11] at hI0
    obtain ⟨u6, hi, hk, hs⟩ := hI0
    obtain ⟨x13, H, h14⟩ := loop_round hi
    try dsimp only at H
    unfold slices_IndexFunc_impl_Block_impl_Block.s0 at H
    apply wp_seq_k; intro K15 hK15
    apply wp_region_lit
    refine sv (.bool (decide (u6 < (l0.length : Int)))) hk rfl rfl rfl fun a hk => ?_
    show wpList _ _ _ [] _ _
    refine wpList_nil ?_
    refine hK15 _ _ ?_
    apply wp_seq_k; intro K16 hK16
    rcases cond_some H with ⟨c17, H⟩ | ⟨c17, H⟩
    ·have hk := hk.lit 9 c17 rfl
     refine cnd_true hk rfl rfl ?_
     refine wp_skip ?_
     refine hK16 _ _ ?_
     have hs := hs.pick [] rfl
     apply wp_seq_k; intro K18 hK18
     refine wp_block ?_
     apply wp_seq_k; intro K19 hK19
     apply wp_region_lit
     refine sm _ rfl hk rfl rfl rfl fun a hk => ?_
     refine sa _ rfl hk rfl rfl rfl fun a hk => ?_
     show wpList _ _ _ [] _ _
     refine wpList_nil ?_
     refine hK19 _ _ ?_
     apply wp_seq_k; intro K20 hK20
     apply wp_region_lit
     refine sm _ rfl hk rfl rfl rfl fun a hk => ?_
     refine sm _ rfl hk rfl rfl rfl fun a hk => ?_
     refine sm _ rfl hk rfl rfl rfl fun a hk => ?_
     rcases ite_some H with ⟨c21, H⟩ | ⟨_, H⟩
     rotate_left
     ·cases H
     obtain ⟨b22, q23, hAc21⟩ := (v0_).some_ u6 c21.1 c21.2
     refine si rfl hk rfl rfl rfl rfl un28 sz102 c21.1 c21.2 hAc21 fun a hk => ?_
     obtain ⟨_, rfl, e24⟩ := (v0_).at_ z_Block u6 c21.1 c21.2
     refine sln [.int .i64 ((l0.getD u6.toNat z_Block).Id), .int .i64 ((l0.getD u6.toNat z_Block).Leaf), .int .i64 ((l0.getD u6.toNat z_Block).Value)] rfl hk rfl rfl rfl ag102 sz102 (cells_at e24 (hs.hasD (k := 1) rfl)) fun a hk => ?_
     obtain ⟨y25, h26, H⟩ := bind_some H
     refine scv (vs := ([(.agg #[.int .i64 ((l0.getD u6.toNat z_Block).Id), .int .i64 ((l0.getD u6.toNat z_Block).Leaf), .int .i64 ((l0.getD u6.toNat z_Block).Value)])] : List Value) ++ c1_) rfl rfl e1_ hk rfl rfl rfl (t1_ _ (hs.hasD (k := 2) rfl) (l0.getD u6.toNat z_Block) _ h26) ?_
     rintro _ w ⟨rfl, hG⟩ a hk
     have hs := hs.call0 hG
     show wpList _ _ _ [] _ _
     refine wpList_nil ?_
     refine hK20 _ _ ?_
     rcases cond_some H with ⟨c27, H⟩ | ⟨c27, H⟩
     ·have hk := hk.lit 16 c27 rfl
      refine cnd_true hk rfl rfl ?_
      apply wp_seq_k; intro K28 hK28
      apply wp_region_lit
      refine sm _ rfl hk rfl rfl rfl fun a hk => ?_
      refine sa _ rfl hk rfl rfl rfl fun a hk => ?_
      show wpList _ _ _ [] _ _
      refine wpList_nil ?_
      refine hK28 _ _ ?_
      refine wp_ret ?_
      obtain rfl := Option.some.inj H
      have ho7 := h14
      try dsimp only at ho7
      subst ho7
      have H := HL9
      try dsimp only at H
      obtain rfl := Option.some.inj H
      exact fin hk _ [(.int .i64 u6)] rfl ⟨rfl, trivial⟩ ⟨rfl, (hs.pick [] rfl).dnil⟩
     ·have hk := hk.lit 16 c27 rfl
      refine cnd_false hk rfl rfl ?_
      refine wp_skip ?_
      refine hK18 _ _ ?_
      apply wp_region_lit
      refine sv (.int .i64 (w64 (u6 + 1))) hk rfl rfl rfl fun a hk => ?_
      refine sm _ rfl hk rfl rfl rfl fun a hk => ?_
      show wpList _ _ _ [] _ _
      refine wpList_nil ?_
      obtain rfl := Option.some.inj H
      obtain ⟨m29, hmm29, h14⟩ := h14
      show ∃ n', n' < _ ∧ I11 n' _ _
      refine ⟨m29, hmm29, ?_⟩
      rw [hI11]
      exact ⟨(w64 (u6 + 1)), h14, (hk.c 0 rfl (hk.c 1 rfl (hk.c 7 rfl (hk.c 8 rfl hk.k)))), (hs.pick [] rfl)⟩
    ·have hk := hk.lit 9 c17 rfl
     refine cnd_false hk rfl rfl ?_
     refine wp_exit ?_
     obtain rfl := Option.some.inj H
     show R10 _ _
     rw [hR10]
     exact ⟨h14.symm, hk.k, (hs.pick [] rfl)⟩
  ·intro a w hR0
   rw [hR10] at hR0
   obtain ⟨rfl, hk, hs⟩ := hR0
   have H := HL9
   try dsimp only at H
   refine hK2 _ _ ?_
   apply wp_seq_k; intro K30 hK30
   apply wp_region_lit
   refine sa _ rfl hk rfl rfl rfl fun a hk => ?_
   show wpList _ _ _ [] _ _
   refine wpList_nil ?_
   refine hK30 _ _ ?_
   have hs := hs.pick [] rfl
   refine wp_ret ?_
   obtain rfl := Option.some.inj H
   exact fin hk _ [(.int .i64 (-1))] rfl ⟨rfl, trivial⟩ ⟨rfl, (hs.pick [] rfl).dnil⟩

noncomputable def slices_ContainsFunc_impl_Block_impl_Block.f (l0 : List S_Block) (q1 : S_Block → Option (Bool)) : Option (Bool) :=
  ((slices_IndexFunc_impl_Block_impl_Block.f l0 q1).bind fun y3 => (some (decide (y3 ≥ 0))))
set_option maxRecDepth 100000 in
set_option maxHeartbeats 0 in
theorem slices_ContainsFunc_impl_Block_impl_Block_t (w0 : World) (A0_ : Option Addr) (p0_ : Nat) (l0 : List S_Block) (k0_ : Chunk) (v0_ : View L_Block A0_ p0_ l0 k0_) (w0_ : Has w0 k0_) (f1_ : FuncId) (c1_ : List Value) (e1_ : Enters Try.prog f1_) (q1 : S_Block → Option (Bool)) (k1_ : Chunk) (t1_ : ∀ w, Has w k1_ → ∀ (z0 : S_Block) (r : Bool), q1 z0 = some r → Calls Try.prog f1_ (([.agg #[.int .i64 z0.Id, .int .i64 z0.Leaf, .int .i64 z0.Value]] : List Value) ++ c1_).toArray w (Ret (fun v w2 => v = .bool r ∧ Sat [] w w2 [] []))) (w1_ : Has w0 k1_) (r : Bool) (H : slices_ContainsFunc_impl_Block_impl_Block.f l0 q1 = some r) :
    Calls Try.prog 89 #[.slice A0_ l0.length p0_, .func (.func f1_) #[] c1_.toArray] w0 (Ret (fun v w => v = .bool r ∧ Sat [] w0 w [] [])) := by
  have hs : Sat [] w0 w0 [(1, k0_), (2, k1_)] [] := Sat.init w0 [(1, k0_), (2, k1_)] [] (by simp only [List.mem_cons, List.not_mem_nil, or_false]; rintro x (rfl | rfl) <;> assumption) (by simp) List.nodup_nil (by simp [blks])
  unfold slices_ContainsFunc_impl_Block_impl_Block.f at H
  refine enter Try.func89 rfl Try.ntmps89 rfl fun a hk => ?_
  apply wp_seq_k; intro K1 hK1
  apply wp_region_lit
  refine sa _ rfl hk rfl rfl rfl fun a hk => ?_
  show wpList _ _ _ [] _ _
  refine wpList_nil ?_
  refine hK1 _ _ ?_
  apply wp_seq_k; intro K2 hK2
  apply wp_region_lit
  refine sm _ rfl hk rfl rfl rfl fun a hk => ?_
  refine sm _ rfl hk rfl rfl rfl fun a hk => ?_
  obtain ⟨y3, h4, H⟩ := bind_some H
  refine sc rfl en131 hk rfl rfl rfl (slices_IndexFunc_impl_Block_impl_Block_t _ A0_ p0_ l0 _ v0_ (hs.hasD (k := 1) rfl) f1_ c1_ e1_ q1 k1_ t1_ (hs.hasD (k := 2) rfl) _ h4) ?_
  rintro _ w ⟨rfl, hG⟩ a hk
  have hs := hs.call0 hG
  refine sv (.bool (decide (y3 ≥ 0))) hk rfl rfl rfl fun a hk => ?_
  refine sa _ rfl hk rfl rfl rfl fun a hk => ?_
  show wpList _ _ _ [] _ _
  refine wpList_nil ?_
  refine hK2 _ _ ?_
  refine wp_ret ?_
  obtain rfl := Option.some.inj H
  exact fin hk _ [(.bool (decide (y3 ≥ 0)))] rfl ⟨rfl, trivial⟩ ⟨rfl, (hs.pick [] rfl).dnil⟩

noncomputable def impl_areAll_impl_Block__c1.f (x0 : S_Block) (q1 : S_Block → Option (Bool)) : Option (Bool) :=
  ((q1 x0).bind fun y4 => (some (!y4)))
set_option maxRecDepth 100000 in
set_option maxHeartbeats 0 in
theorem impl_areAll_impl_Block__c1_t (w0 : World) (x0 : S_Block) (b1_ : Nat) (f1_ : FuncId) (c1_ : List Value) (e1_ : Enters Try.prog f1_) (q1 : S_Block → Option (Bool)) (k1_ : Chunk) (t1_ : ∀ w, Has w k1_ → ∀ (z0 : S_Block) (r : Bool), q1 z0 = some r → Calls Try.prog f1_ (([.agg #[.int .i64 z0.Id, .int .i64 z0.Leaf, .int .i64 z0.Value]] : List Value) ++ c1_).toArray w (Ret (fun v w2 => v = .bool r ∧ Sat [] w w2 [] []))) (w1_ : Has w0 k1_) (h1_ : Has w0 [(b1_, .cells #[.func (.func f1_) #[] c1_.toArray] 104 (0, 0))]) (r : Bool) (H : impl_areAll_impl_Block__c1.f x0 q1 = some r) :
    Calls Try.prog 143 #[.agg #[.int .i64 x0.Id, .int .i64 x0.Leaf, .int .i64 x0.Value], .pointer (some ⟨b1_, 0, none⟩)] w0 (Ret (fun v w => v = .bool r ∧ Sat [] w0 w [] [])) := by
  have hs : Sat [] w0 w0 [(2, k1_), (1, [(b1_, .cells #[.func (.func f1_) #[] c1_.toArray] 104 (0, 0))])] [] := Sat.init w0 [(2, k1_), (1, [(b1_, .cells #[.func (.func f1_) #[] c1_.toArray] 104 (0, 0))])] [] (by simp only [List.mem_cons, List.not_mem_nil, or_false]; rintro x (rfl | rfl) <;> assumption) (by simp) List.nodup_nil (by simp [blks])
  unfold impl_areAll_impl_Block__c1.f at H
  refine enter Try.func143 rfl Try.ntmps143 rfl fun a hk => ?_
  apply wp_seq_k; intro K1 hK1
  apply wp_region_lit
  refine sbx 3 hs rfl hk rfl rfl rfl rfl fun b2 w a hk hs => ?_
  refine sa _ rfl hk rfl rfl rfl fun a hk => ?_
  show wpList _ _ _ [] _ _
  refine wpList_nil ?_
  refine hK1 _ _ ?_
  apply wp_seq_k; intro K3 hK3
  apply wp_region_lit
  refine sl rfl hk rfl rfl rfl ag104 (box_cellD hs (k := 1) rfl rfl) fun a hk => ?_
  refine sln [.int .i64 x0.Id, .int .i64 x0.Leaf, .int .i64 x0.Value] rfl hk rfl rfl rfl ag102 sz102 (box_cells hs (k := 3) rfl) fun a hk => ?_
  obtain ⟨y4, h5, H⟩ := bind_some H
  refine scv (vs := ([(.agg #[.int .i64 x0.Id, .int .i64 x0.Leaf, .int .i64 x0.Value])] : List Value) ++ c1_) rfl rfl e1_ hk rfl rfl rfl (t1_ _ (hs.hasD (k := 2) rfl) x0 _ h5) ?_
  rintro _ w ⟨rfl, hG⟩ a hk
  have hs := hs.call0 hG
  refine sv (.bool (!y4)) hk rfl rfl rfl fun a hk => ?_
  refine sa _ rfl hk rfl rfl rfl fun a hk => ?_
  show wpList _ _ _ [] _ _
  refine wpList_nil ?_
  refine hK3 _ _ ?_
  refine wp_ret ?_
  obtain rfl := Option.some.inj H
  exact fin hk _ [(.bool (!y4))] rfl ⟨rfl, trivial⟩ ⟨rfl, (hs.pick [] rfl).dnil⟩

noncomputable def impl_areAll_impl_Block.f (l0 : List S_Block) (q1 : S_Block → Option (Bool)) : Option (Bool) :=
  ((slices_ContainsFunc_impl_Block_impl_Block.f l0 (fun z0 => impl_areAll_impl_Block__c1.f z0 q1)).bind fun y4 => (some (!y4)))
set_option maxRecDepth 100000 in
set_option maxHeartbeats 0 in
theorem impl_areAll_impl_Block_t (w0 : World) (A0_ : Option Addr) (p0_ : Nat) (l0 : List S_Block) (k0_ : Chunk) (v0_ : View L_Block A0_ p0_ l0 k0_) (w0_ : Has w0 k0_) (f1_ : FuncId) (c1_ : List Value) (e1_ : Enters Try.prog f1_) (q1 : S_Block → Option (Bool)) (k1_ : Chunk) (t1_ : ∀ w, Has w k1_ → ∀ (z0 : S_Block) (r : Bool), q1 z0 = some r → Calls Try.prog f1_ (([.agg #[.int .i64 z0.Id, .int .i64 z0.Leaf, .int .i64 z0.Value]] : List Value) ++ c1_).toArray w (Ret (fun v w2 => v = .bool r ∧ Sat [] w w2 [] []))) (w1_ : Has w0 k1_) (r : Bool) (H : impl_areAll_impl_Block.f l0 q1 = some r) :
    Calls Try.prog 81 #[.slice A0_ l0.length p0_, .func (.func f1_) #[] c1_.toArray] w0 (Ret (fun v w => v = .bool r ∧ Sat [] w0 w [] [])) := by
  have hs : Sat [] w0 w0 [(1, k0_), (2, k1_)] [] := Sat.init w0 [(1, k0_), (2, k1_)] [] (by simp only [List.mem_cons, List.not_mem_nil, or_false]; rintro x (rfl | rfl) <;> assumption) (by simp) List.nodup_nil (by simp [blks])
  unfold impl_areAll_impl_Block.f at H
  refine enter Try.func81 rfl Try.ntmps81 rfl fun a hk => ?_
  apply wp_seq_k; intro K1 hK1
  apply wp_region_lit
  refine sbx 3 hs rfl hk rfl rfl rfl rfl fun b2 w a hk hs => ?_
  refine sa _ rfl hk rfl rfl rfl fun a hk => ?_
  show wpList _ _ _ [] _ _
  refine wpList_nil ?_
  refine hK1 _ _ ?_
  apply wp_seq_k; intro K3 hK3
  apply wp_region_lit
  refine sm _ rfl hk rfl rfl rfl fun a hk => ?_
  refine smf (cs := [.pointer (some ⟨b2, 0, none⟩)]) rfl hk rfl rfl rfl fun a hk => ?_
  obtain ⟨y4, h5, H⟩ := bind_some H
  refine sc rfl en89 hk rfl rfl rfl (slices_ContainsFunc_impl_Block_impl_Block_t _ A0_ p0_ l0 _ v0_ (hs.hasD (k := 1) rfl) 143 [.pointer (some ⟨b2, 0, none⟩)] en143 (fun z0 => impl_areAll_impl_Block__c1.f z0 q1) ([(b2, .cells #[.func (.func f1_) #[] c1_.toArray] 104 (0, 0))] ++ k1_) (fun w hz z0 r h => impl_areAll_impl_Block__c1_t w z0 _ f1_ c1_ e1_ q1 k1_ t1_ (Has.right hz) (Has.left hz) r h) (Has.app (hs.hasG (k := 3) rfl) (hs.hasD (k := 2) rfl)) _ h5) ?_
  rintro _ w ⟨rfl, hG⟩ a hk
  have hs := hs.call0 hG
  refine sv (.bool (!y4)) hk rfl rfl rfl fun a hk => ?_
  refine sa _ rfl hk rfl rfl rfl fun a hk => ?_
  show wpList _ _ _ [] _ _
  refine wpList_nil ?_
  refine hK3 _ _ ?_
  refine wp_ret ?_
  obtain rfl := Option.some.inj H
  exact fin hk _ [(.bool (!y4))] rfl ⟨rfl, trivial⟩ ⟨rfl, (hs.pick [] rfl).dnil⟩

noncomputable def slices_Reverse_int_int.s0 (l0 : List Int) (u_r8_13_7 : List Int) (u_r8_13_11 : Int) (u_r8_13_12 : Int) : Option (((List Int) × Int × Int) ⊕ Ex ((List Int)) ((List Int))) :=
  (bif (decide (u_r8_13_11 < u_r8_13_12)) then (if 0 ≤ u_r8_13_12 ∧ u_r8_13_12 < (l0.length : Int) then (if 0 ≤ u_r8_13_11 ∧ u_r8_13_11 < (l0.length : Int) then (if 0 ≤ u_r8_13_11 ∧ u_r8_13_11 < (l0.length : Int) then (if 0 ≤ u_r8_13_12 ∧ u_r8_13_12 < (l0.length : Int) then (some (.inl (((u_r8_13_7.set u_r8_13_11.toNat (u_r8_13_7.getD u_r8_13_12.toNat 0)).set u_r8_13_12.toNat (u_r8_13_7.getD u_r8_13_11.toNat 0)), (w64 (u_r8_13_11 + 1)), (w64 (u_r8_13_12 - 1))))) else none) else none) else none) else none) else (some (.inr (.out u_r8_13_7))))
noncomputable def slices_Reverse_int_int.f (l0 : List Int) : Option ((List Int)) :=
  ((loopO (fun s => slices_Reverse_int_int.s0 l0 s.1 s.2.1 s.2.2) (l0, 0, (w64 ((l0.length : Int) - 1)))).bind fun o => match o with | .out u_r8_13_17 => (some u_r8_13_17) | .ret r => (some r))
set_option maxRecDepth 100000 in
set_option maxHeartbeats 0 in
theorem slices_Reverse_int_int_t (w0 : World) (A0_ : Option Addr) (p0_ : Nat) (l0 : List Int) (k0_ : Chunk) (v0_ : Own (Lay.int .i64) 3 A0_ p0_ l0 k0_) (hs0 : Sat (blks [(103261, k0_)]) w0 w0 [] [(103261, k0_)]) (r : (List Int)) (H : slices_Reverse_int_int.f l0 = some r) :
    Calls Try.prog 178 #[.slice A0_ l0.length p0_] w0 (Ret (fun v w => ∃ (k0 : Chunk), v = .tuple #[] ∧ (Own (Lay.int .i64) 3 A0_ p0_ r k0 ∧ r.length = l0.length) ∧ Sat (blks [(103261, k0_)]) w0 w [] [(0, k0)])) := by
  have hs := hs0
  unfold slices_Reverse_int_int.f at H
  refine enter Try.func178 rfl Try.ntmps178 rfl fun a hk => ?_
  apply wp_seq_k; intro K1 hK1
  apply wp_region_lit
  refine sm _ rfl hk rfl rfl rfl fun a hk => ?_
  refine sle rfl hk rfl rfl rfl un22 fun a hk => ?_
  refine sv (.int .i64 (w64 ((l0.length : Int) - 1))) hk rfl rfl rfl fun a hk => ?_
  refine sa _ rfl hk rfl rfl rfl fun a hk => ?_
  refine sa _ rfl hk rfl rfl rfl fun a hk => ?_
  show wpList _ _ _ [] _ _
  refine wpList_nil ?_
  refine hK1 _ _ ?_
  obtain ⟨o_r8_13_21, h_r8_13_22, HL_r8_13_23⟩ := bind_some H
  clear H
  obtain ⟨R_r8_13_24, hR_r8_13_24⟩ : ∃ R : Act → World → Prop, R = fun a w => ∃ (u_r8_13_17 : List Int) (k_r8_13_18 : Chunk), o_r8_13_21 = .out u_r8_13_17 ∧ Kn [(0, (.slice A0_ l0.length p0_))] 28 a ∧ Sat (blks [(103261, k0_)]) w0 w [] [(103261, k_r8_13_18)] ∧ Own (Lay.int .i64) 3 A0_ p0_ u_r8_13_17 k_r8_13_18 ∧ u_r8_13_17.length = l0.length := ⟨_, rfl⟩
  refine wp_cutq R_r8_13_24 ?_ ?_
  ·refine wp_block ?_
   obtain ⟨fu_r8_13_26, h_r8_13_22⟩ := loopO_some h_r8_13_22
   obtain ⟨I_r8_13_25, hI_r8_13_25⟩ : ∃ I : Nat → Act → World → Prop, I = fun fu a w => ∃ (u_r8_13_7 : List Int) (u_r8_13_11 : Int) (u_r8_13_12 : Int) (k_r8_13_8 : Chunk), loopN (fun s => slices_Reverse_int_int.s0 l0 s.1 s.2.1 s.2.2) fu (u_r8_13_7, u_r8_13_11, u_r8_13_12) = some o_r8_13_21 ∧ Kn [(0, (.slice A0_ l0.length p0_)), (2, (.int .i64 u_r8_13_11)), (3, (.int .i64 u_r8_13_12))] 28 a ∧ Sat (blks [(103261, k0_)]) w0 w [] [(103261, k_r8_13_8)] ∧ Own (Lay.int .i64) 3 A0_ p0_ u_r8_13_7 k_r8_13_8 ∧ u_r8_13_7.length = l0.length := ⟨_, rfl⟩
   refine wp_loop_ghost I_r8_13_25 fu_r8_13_26 ?_ ?_
   ·rw [hI_r8_13_25]
    exact ⟨l0, 0, (w64 ((l0.length : Int) - 1)), _, h_r8_13_22, (hk.c 0 rfl (hk.c 2 rfl (hk.c 3 rfl hk.k))), (hs.pick [(103261, 103261)] rfl), v0_, rfl⟩
   ·clear h_r8_13_22 hk hs
    intro fu_r8_13_26 a w hI0
    rw [hI_r8_13_25] at hI0
    obtain ⟨u_r8_13_7, u_r8_13_11, u_r8_13_12, k_r8_13_8, hi, hk, hs, o_r8_13_9, lh_r8_13_10⟩ := hI0
    obtain ⟨x_r8_13_27, H, h_r8_13_28⟩ := loop_round hi
    try dsimp only at H
    unfold slices_Reverse_int_int.s0 at H
    apply wp_seq_k; intro K2 hK2
    apply wp_seq_k; intro K3 hK3
    apply wp_region_lit
    refine sm _ rfl hk rfl rfl rfl fun a hk => ?_
    refine sm _ rfl hk rfl rfl rfl fun a hk => ?_
    refine sv (.bool (decide (u_r8_13_11 < u_r8_13_12))) hk rfl rfl rfl fun a hk => ?_
    show wpList _ _ _ [] _ _
    refine wpList_nil ?_
    refine hK3 _ _ ?_
    rcases cond_some H with ⟨c_r8_13_30, H⟩ | ⟨c_r8_13_30, H⟩
    ·have hk := hk.lit 9 c_r8_13_30 rfl
     refine cnd_true hk rfl rfl ?_
     refine wp_skip ?_
     refine hK2 _ _ ?_
     apply wp_seq_k; intro K4 hK4
     refine wp_block ?_
     rcases ite_some H with ⟨c_r_r8_13_31_6_1, H⟩ | ⟨_, H⟩
     rotate_left
     ·cases H
     rcases ite_some H with ⟨c_r_r8_13_31_10_1, H⟩ | ⟨_, H⟩
     rotate_left
     ·cases H
     rcases ite_some H with ⟨c_r_r8_13_31_12_1, H⟩ | ⟨_, H⟩
     rotate_left
     ·cases H
     rcases ite_some H with ⟨c_r_r8_13_31_14_1, H⟩ | ⟨_, H⟩
     rotate_left
     ·cases H
     obtain ⟨R_r8_13_32, hR_r8_13_32⟩ : ∃ R : Act → World → Prop, R = fun a w => ∃ (k_r_r8_13_31_15_1 : Chunk), Kn [(0, (.slice A0_ l0.length p0_)), (2, (.int .i64 u_r8_13_11)), (3, (.int .i64 u_r8_13_12))] 28 a ∧ Sat (blks [(103261, k0_)]) w0 w [] [(103261, k_r_r8_13_31_15_1)] ∧ Own (Lay.int .i64) 3 A0_ p0_ ((u_r8_13_7.set u_r8_13_11.toNat (u_r8_13_7.getD u_r8_13_12.toNat 0)).set u_r8_13_12.toNat (u_r8_13_7.getD u_r8_13_11.toNat 0)) k_r_r8_13_31_15_1 ∧ ((u_r8_13_7.set u_r8_13_11.toNat (u_r8_13_7.getD u_r8_13_12.toNat 0)).set u_r8_13_12.toNat (u_r8_13_7.getD u_r8_13_11.toNat 0)).length = l0.length := ⟨_, rfl⟩
     refine wp_cutq R_r8_13_32 ?_ ?_
     ·skip
      refine wp_region_tree (.q 0 (.q 1 (.q 2 (.q 3 (.q 4 (.q 5 (.q 6 (.q 8 (.q 9 (.q 10 (.alt 7 (.alt 11 (.alt 12 (.alt 13 (.alt 14 (.last 15) .stop) .stop) .stop) .stop) (.alt 11 (.alt 7 (.alt 12 (.alt 13 (.alt 14 (.last 15) .stop) .stop) .stop) .stop) .stop)))))))))))) mo (by kernel_rfl) (hs.pick [] rfl) fun _ => ?_
      have hs := hs.drew
      refine tqst (.slice A0_ l0.length p0_) hk rfl rfl rfl rfl (fun w hs => sm _ rfl hk rfl rfl rfl fun a hk => qe hk) fun a hk => ?_
      refine tqst (.int .i64 u_r8_13_11) hk rfl rfl rfl rfl (fun w hs => sm _ rfl hk rfl rfl rfl fun a hk => qe hk) fun a hk => ?_
      refine tqst (.slice A0_ l0.length p0_) hk rfl rfl rfl rfl (fun w hs => sm _ rfl hk rfl rfl rfl fun a hk => qe hk) fun a hk => ?_
      refine tqst (.int .i64 u_r8_13_12) hk rfl rfl rfl rfl (fun w hs => sm _ rfl hk rfl rfl rfl fun a hk => qe hk) fun a hk => ?_
      refine tqst (.slice A0_ l0.length p0_) hk rfl rfl rfl rfl (fun w hs => sm _ rfl hk rfl rfl rfl fun a hk => qe hk) fun a hk => ?_
      refine tqst (.int .i64 u_r8_13_12) hk rfl rfl rfl rfl (fun w hs => sm _ rfl hk rfl rfl rfl fun a hk => qe hk) fun a hk => ?_
      obtain ⟨b_r_r8_13_31_6_2, q_r_r8_13_31_6_3, hAc_r_r8_13_31_6_1⟩ := (o_r8_13_9.view).some_ u_r8_13_12 c_r_r8_13_31_6_1.1 (by rw [lh_r8_13_10]; exact c_r_r8_13_31_6_1.2)
      refine tqst (.pointer (some (padd A0_ (u_r8_13_12.toNat * 1)))) hk rfl rfl rfl rfl (fun w hs => si rfl hk rfl rfl rfl rfl un22 sz3 c_r_r8_13_31_6_1.1 c_r_r8_13_31_6_1.2 hAc_r_r8_13_31_6_1 fun a hk => qe hk) fun a hk => ?_
      refine tqst (.slice A0_ l0.length p0_) hk rfl rfl rfl rfl (fun w hs => sm _ rfl hk rfl rfl rfl fun a hk => qe hk) fun a hk => ?_
      refine tqst (.int .i64 u_r8_13_11) hk rfl rfl rfl rfl (fun w hs => sm _ rfl hk rfl rfl rfl fun a hk => qe hk) fun a hk => ?_
      obtain ⟨b_r_r8_13_31_10_2, q_r_r8_13_31_10_3, hAc_r_r8_13_31_10_1⟩ := (o_r8_13_9.view).some_ u_r8_13_11 c_r_r8_13_31_10_1.1 (by rw [lh_r8_13_10]; exact c_r_r8_13_31_10_1.2)
      refine tqst (.pointer (some (padd A0_ (u_r8_13_11.toNat * 1)))) hk rfl rfl rfl rfl (fun w hs => si rfl hk rfl rfl rfl rfl un22 sz3 c_r_r8_13_31_10_1.1 c_r_r8_13_31_10_1.2 hAc_r_r8_13_31_10_1 fun a hk => qe hk) fun a hk => ?_
      refine tsst hk rfl rfl (fun K_r_r8_13_31_7 hK_r_r8_13_31_7 w hF => ?_) ?_
      ·skip
       have hs := hs.f hF
       obtain ⟨_, rfl, e_r_r8_13_31_7_1⟩ := (o_r8_13_9.view).at_ 0 u_r8_13_12 c_r_r8_13_31_6_1.1 (by rw [lh_r8_13_10]; exact c_r_r8_13_31_6_1.2)
       refine sl (v := (.int .i64 (u_r8_13_7.getD u_r8_13_12.toNat 0))) rfl hk rfl rfl rfl ag3 ((e_r_r8_13_31_7_1 0 _ rfl).cell (hs.hasG (k := 103261) rfl)) fun a hk => ?_
       refine se (hs.pick [] rfl) hk (hK_r_r8_13_31_7 _ _ ?_)
       refine tsst hk rfl rfl (fun K_r_r8_13_31_11 hK_r_r8_13_31_11 w hF => ?_) wt_stop
       have hs := hs.f hF
       obtain ⟨_, rfl, e_r_r8_13_31_11_1⟩ := (o_r8_13_9.view).at_ 0 u_r8_13_11 c_r_r8_13_31_10_1.1 (by rw [lh_r8_13_10]; exact c_r_r8_13_31_10_1.2)
       refine sl (v := (.int .i64 (u_r8_13_7.getD u_r8_13_11.toNat 0))) rfl hk rfl rfl rfl ag3 ((e_r_r8_13_31_11_1 0 _ rfl).cell (hs.hasG (k := 103261) rfl)) fun a hk => ?_
       refine se (hs.pick [] rfl) hk (hK_r_r8_13_31_11 _ _ ?_)
       refine tsst hk rfl rfl (fun K_r_r8_13_31_12 hK_r_r8_13_31_12 w hF => ?_) wt_stop
       have hs := hs.f hF
       obtain ⟨b_r_r8_13_31_12_2, q_r_r8_13_31_12_3, hAc_r_r8_13_31_12_1⟩ := (o_r8_13_9.view).some_ u_r8_13_11 c_r_r8_13_31_12_1.1 (by rw [lh_r8_13_10]; exact c_r_r8_13_31_12_1.2)
       refine si rfl hk rfl rfl rfl rfl un22 sz3 c_r_r8_13_31_12_1.1 c_r_r8_13_31_12_1.2 hAc_r_r8_13_31_12_1 fun a hk => ?_
       refine se (hs.pick [] rfl) hk (hK_r_r8_13_31_12 _ _ ?_)
       refine tsst hk rfl rfl (fun K_r_r8_13_31_13 hK_r_r8_13_31_13 w hF => ?_) wt_stop
       have hs := hs.f hF
       refine so (j := 0) 103261 0 (u_r8_13_7.getD u_r8_13_12.toNat 0) hs rfl o_r8_13_9 c_r_r8_13_31_12_1.1 (by rw [lh_r8_13_10]; exact c_r_r8_13_31_12_1.2) rfl hk rfl rfl rfl rfl rfl sz3 (by simp [Value.cells, Value.oneCell']) (Nat.le_of_ble_eq_true rfl) (fun _ _ h => ⟨by rw [h.1]; rfl, h.2⟩) fun k_r_r8_13_31_13_1 w a hk o_r_r8_13_31_13_2 hs => ?_
       have lh_r_r8_13_31_13_3 : (u_r8_13_7.set u_r8_13_11.toNat (u_r8_13_7.getD u_r8_13_12.toNat 0)).length = l0.length := by rw [List.length_set]; exact lh_r8_13_10
       refine se (hs.pick [] rfl) hk (hK_r_r8_13_31_13 _ _ ?_)
       refine tsst hk rfl rfl (fun K_r_r8_13_31_14 hK_r_r8_13_31_14 w hF => ?_) wt_stop
       have hs := hs.f hF
       obtain ⟨b_r_r8_13_31_14_2, q_r_r8_13_31_14_3, hAc_r_r8_13_31_14_1⟩ := (o_r_r8_13_31_13_2.view).some_ u_r8_13_12 c_r_r8_13_31_14_1.1 (by rw [lh_r_r8_13_31_13_3]; exact c_r_r8_13_31_14_1.2)
       refine si rfl hk rfl rfl rfl rfl un22 sz3 c_r_r8_13_31_14_1.1 c_r_r8_13_31_14_1.2 hAc_r_r8_13_31_14_1 fun a hk => ?_
       refine se (hs.pick [] rfl) hk (hK_r_r8_13_31_14 _ _ ?_)
       refine tlst hk rfl rfl fun K_r_r8_13_31_15 hK_r_r8_13_31_15 w hF => ?_
       have hs := hs.f hF
       refine so (j := 0) 103261 0 (u_r8_13_7.getD u_r8_13_11.toNat 0) hs rfl o_r_r8_13_31_13_2 c_r_r8_13_31_14_1.1 (by rw [lh_r_r8_13_31_13_3]; exact c_r_r8_13_31_14_1.2) rfl hk rfl rfl rfl rfl rfl sz3 (by simp [Value.cells, Value.oneCell']) (Nat.le_of_ble_eq_true rfl) (fun _ _ h => ⟨by rw [h.1]; rfl, h.2⟩) fun k_r_r8_13_31_15_1 w a hk o_r_r8_13_31_15_2 hs => ?_
       have lh_r_r8_13_31_15_3 : ((u_r8_13_7.set u_r8_13_11.toNat (u_r8_13_7.getD u_r8_13_12.toNat 0)).set u_r8_13_12.toNat (u_r8_13_7.getD u_r8_13_11.toNat 0)).length = l0.length := by rw [List.length_set]; exact lh_r_r8_13_31_13_3
       refine se trivial hk (hK_r_r8_13_31_15 _ _ fun w hF => ?_)
       have hs := hs.f hF
       show R_r8_13_32 _ _
       rw [hR_r8_13_32]
       exact ⟨k_r_r8_13_31_15_1, (hk.c 0 rfl (hk.c 2 rfl (hk.c 3 rfl hk.k))), (hs.pick [(103261, 103261)] rfl), o_r_r8_13_31_15_2, lh_r_r8_13_31_15_3⟩
      refine tsst hk rfl rfl (fun K_r_r8_13_31_11 hK_r_r8_13_31_11 w hF => ?_) wt_stop
      have hs := hs.f hF
      obtain ⟨_, rfl, e_r_r8_13_31_11_1⟩ := (o_r8_13_9.view).at_ 0 u_r8_13_11 c_r_r8_13_31_10_1.1 (by rw [lh_r8_13_10]; exact c_r_r8_13_31_10_1.2)
      refine sl (v := (.int .i64 (u_r8_13_7.getD u_r8_13_11.toNat 0))) rfl hk rfl rfl rfl ag3 ((e_r_r8_13_31_11_1 0 _ rfl).cell (hs.hasG (k := 103261) rfl)) fun a hk => ?_
      refine se (hs.pick [] rfl) hk (hK_r_r8_13_31_11 _ _ ?_)
      refine tsst hk rfl rfl (fun K_r_r8_13_31_7 hK_r_r8_13_31_7 w hF => ?_) wt_stop
      have hs := hs.f hF
      obtain ⟨_, rfl, e_r_r8_13_31_7_1⟩ := (o_r8_13_9.view).at_ 0 u_r8_13_12 c_r_r8_13_31_6_1.1 (by rw [lh_r8_13_10]; exact c_r_r8_13_31_6_1.2)
      refine sl (v := (.int .i64 (u_r8_13_7.getD u_r8_13_12.toNat 0))) rfl hk rfl rfl rfl ag3 ((e_r_r8_13_31_7_1 0 _ rfl).cell (hs.hasG (k := 103261) rfl)) fun a hk => ?_
      refine se (hs.pick [] rfl) hk (hK_r_r8_13_31_7 _ _ ?_)
      refine tsst hk rfl rfl (fun K_r_r8_13_31_12 hK_r_r8_13_31_12 w hF => ?_) wt_stop
      have hs := hs.f hF
      obtain ⟨b_r_r8_13_31_12_2, q_r_r8_13_31_12_3, hAc_r_r8_13_31_12_1⟩ := (o_r8_13_9.view).some_ u_r8_13_11 c_r_r8_13_31_12_1.1 (by rw [lh_r8_13_10]; exact c_r_r8_13_31_12_1.2)
      refine si rfl hk rfl rfl rfl rfl un22 sz3 c_r_r8_13_31_12_1.1 c_r_r8_13_31_12_1.2 hAc_r_r8_13_31_12_1 fun a hk => ?_
      refine se (hs.pick [] rfl) hk (hK_r_r8_13_31_12 _ _ ?_)
      refine tsst hk rfl rfl (fun K_r_r8_13_31_13 hK_r_r8_13_31_13 w hF => ?_) wt_stop
      have hs := hs.f hF
      refine so (j := 0) 103261 0 (u_r8_13_7.getD u_r8_13_12.toNat 0) hs rfl o_r8_13_9 c_r_r8_13_31_12_1.1 (by rw [lh_r8_13_10]; exact c_r_r8_13_31_12_1.2) rfl hk rfl rfl rfl rfl rfl sz3 (by simp [Value.cells, Value.oneCell']) (Nat.le_of_ble_eq_true rfl) (fun _ _ h => ⟨by rw [h.1]; rfl, h.2⟩) fun k_r_r8_13_31_13_1 w a hk o_r_r8_13_31_13_2 hs => ?_
      have lh_r_r8_13_31_13_3 : (u_r8_13_7.set u_r8_13_11.toNat (u_r8_13_7.getD u_r8_13_12.toNat 0)).length = l0.length := by rw [List.length_set]; exact lh_r8_13_10
      refine se (hs.pick [] rfl) hk (hK_r_r8_13_31_13 _ _ ?_)
      refine tsst hk rfl rfl (fun K_r_r8_13_31_14 hK_r_r8_13_31_14 w hF => ?_) wt_stop
      have hs := hs.f hF
      obtain ⟨b_r_r8_13_31_14_2, q_r_r8_13_31_14_3, hAc_r_r8_13_31_14_1⟩ := (o_r_r8_13_31_13_2.view).some_ u_r8_13_12 c_r_r8_13_31_14_1.1 (by rw [lh_r_r8_13_31_13_3]; exact c_r_r8_13_31_14_1.2)
      refine si rfl hk rfl rfl rfl rfl un22 sz3 c_r_r8_13_31_14_1.1 c_r_r8_13_31_14_1.2 hAc_r_r8_13_31_14_1 fun a hk => ?_
      refine se (hs.pick [] rfl) hk (hK_r_r8_13_31_14 _ _ ?_)
      refine tlst hk rfl rfl fun K_r_r8_13_31_15 hK_r_r8_13_31_15 w hF => ?_
      have hs := hs.f hF
      refine so (j := 0) 103261 0 (u_r8_13_7.getD u_r8_13_11.toNat 0) hs rfl o_r_r8_13_31_13_2 c_r_r8_13_31_14_1.1 (by rw [lh_r_r8_13_31_13_3]; exact c_r_r8_13_31_14_1.2) rfl hk rfl rfl rfl rfl rfl sz3 (by simp [Value.cells, Value.oneCell']) (Nat.le_of_ble_eq_true rfl) (fun _ _ h => ⟨by rw [h.1]; rfl, h.2⟩) fun k_r_r8_13_31_15_1 w a hk o_r_r8_13_31_15_2 hs => ?_
      have lh_r_r8_13_31_15_3 : ((u_r8_13_7.set u_r8_13_11.toNat (u_r8_13_7.getD u_r8_13_12.toNat 0)).set u_r8_13_12.toNat (u_r8_13_7.getD u_r8_13_11.toNat 0)).length = l0.length := by rw [List.length_set]; exact lh_r_r8_13_31_13_3
      refine se trivial hk (hK_r_r8_13_31_15 _ _ fun w hF => ?_)
      have hs := hs.f hF
      show R_r8_13_32 _ _
      rw [hR_r8_13_32]
      exact ⟨k_r_r8_13_31_15_1, (hk.c 0 rfl (hk.c 2 rfl (hk.c 3 rfl hk.k))), (hs.pick [(103261, 103261)] rfl), o_r_r8_13_31_15_2, lh_r_r8_13_31_15_3⟩
     ·intro a w hR0
      rw [hR_r8_13_32] at hR0
      obtain ⟨k_r_r8_13_31_15_1, hk, hs, o_r_r8_13_31_15_2, lh_r_r8_13_31_15_3⟩ := hR0
      refine hK4 _ _ ?_
      have hs := hs.pick [(103261, 103261)] rfl
      apply wp_region_lit
      refine sm _ rfl hk rfl rfl rfl fun a hk => ?_
      refine sv (.int .i64 (w64 (u_r8_13_11 + 1))) hk rfl rfl rfl fun a hk => ?_
      refine sm _ rfl hk rfl rfl rfl fun a hk => ?_
      refine sv (.int .i64 (w64 (u_r8_13_12 - 1))) hk rfl rfl rfl fun a hk => ?_
      refine sa _ rfl hk rfl rfl rfl fun a hk => ?_
      refine sa _ rfl hk rfl rfl rfl fun a hk => ?_
      show wpList _ _ _ [] _ _
      refine wpList_nil ?_
      obtain rfl := Option.some.inj H
      obtain ⟨m_r8_13_33, hmm_r8_13_33, h_r8_13_28⟩ := h_r8_13_28
      show ∃ n', n' < _ ∧ I_r8_13_25 n' _ _
      refine ⟨m_r8_13_33, hmm_r8_13_33, ?_⟩
      rw [hI_r8_13_25]
      exact ⟨((u_r8_13_7.set u_r8_13_11.toNat (u_r8_13_7.getD u_r8_13_12.toNat 0)).set u_r8_13_12.toNat (u_r8_13_7.getD u_r8_13_11.toNat 0)), (w64 (u_r8_13_11 + 1)), (w64 (u_r8_13_12 - 1)), _, h_r8_13_28, (hk.c 0 rfl (hk.c 2 rfl (hk.c 3 rfl hk.k))), (hs.pick [(103261, 103261)] rfl), o_r_r8_13_31_15_2, lh_r_r8_13_31_15_3⟩
    ·have hk := hk.lit 9 c_r8_13_30 rfl
     refine cnd_false hk rfl rfl ?_
     refine wp_exit ?_
     obtain rfl := Option.some.inj H
     show R_r8_13_24 _ _
     rw [hR_r8_13_24]
     exact ⟨u_r8_13_7, _, h_r8_13_28.symm, (hk.c 0 rfl hk.k), (hs.pick [(103261, 103261)] rfl), o_r8_13_9, lh_r8_13_10⟩
  ·intro a w hR0
   rw [hR_r8_13_24] at hR0
   obtain ⟨u_r8_13_17, k_r8_13_18, rfl, hk, hs, o_r8_13_19, lh_r8_13_20⟩ := hR0
   have H := HL_r8_13_23
   try dsimp only at H
   obtain rfl := Option.some.inj H
   exact fin0 hk _ [] rfl trivial ⟨_, rfl, ⟨o_r8_13_19, lh_r8_13_20⟩, (hs.pick [(0, 103261)] rfl).dnil⟩

noncomputable def impl_pathOf.s0  (u12 : List Int) (u11 : Int) : Option (((List Int) × Int) ⊕ Ex (Unit) ((List Int))) :=
  (if u12.length + ([u11]).length ≤ 1073741824 then (bif (u11 == 0) then ((slices_Reverse_int_int.f (u12 ++ ([u11]))).bind fun y38 => (some (.inr (.ret y38)))) else (some (.inl ((u12 ++ ([u11])), (IntKind.wrap .i64 (Int.tdiv (w64 (u11 - 1)) 2)))))) else none)
noncomputable def impl_pathOf.f (x0 : Int) : Option ((List Int)) :=
  ((loopO (fun s => impl_pathOf.s0  s.1 s.2) (([] : List Int), (w64 (7 + x0)))).bind fun o => match o with | .out _ => none | .ret r => (some r))
set_option maxRecDepth 100000 in
set_option maxHeartbeats 0 in
theorem impl_pathOf_t (w0 : World) (x0 : Int) (r : (List Int)) (H : impl_pathOf.f x0 = some r) :
    Calls Try.prog 130 #[.int .i64 x0] w0 (Ret (fun v w => ∃ (A0 : Option Addr) (p0 : Nat) (k0 : Chunk), v = .slice A0 r.length p0 ∧ Own (Lay.int .i64) 3 A0 p0 r k0 ∧ Sat [] w0 w [] [(0, k0)])) := by
  have hs : Sat [] w0 w0 [] [] := Sat.init w0 [] [] (by simp) (by simp) List.nodup_nil (by simp [blks])
  unfold impl_pathOf.f at H
  refine enter Try.func130 rfl Try.ntmps130 rfl fun a hk => ?_
  apply wp_seq_k; intro K1 hK1
  apply wp_region_lit
  refine sa _ rfl hk rfl rfl rfl fun a hk => ?_
  show wpList _ _ _ [] _ _
  refine wpList_nil ?_
  refine hK1 _ _ ?_
  apply wp_seq_k; intro K2 hK2
  apply wp_region_lit
  refine sa _ rfl hk rfl rfl rfl fun a hk => ?_
  show wpList _ _ _ [] _ _
  refine wpList_nil ?_
  refine hK2 _ _ ?_
  apply wp_seq_k; intro K3 hK3
  apply wp_region_lit
  refine sm _ rfl hk rfl rfl rfl fun a hk => ?_
  refine sv (.int .i64 (w64 (7 + x0))) hk rfl rfl rfl fun a hk => ?_
  refine sa _ rfl hk rfl rfl rfl fun a hk => ?_
  show wpList _ _ _ [] _ _
  refine wpList_nil ?_
  refine hK3 _ _ ?_
  obtain ⟨o17, h18, HL19⟩ := bind_some H
  clear H
  obtain ⟨R20, hR20⟩ : ∃ R : Act → World → Prop, R = fun a w => o17 = .out () ∧ Kn [] 19 a ∧ Sat [] w0 w [] [] := ⟨_, rfl⟩
  refine wp_cutq R20 ?_ ?_
  ·refine wp_block ?_
   obtain ⟨fu22, h18⟩ := loopO_some h18
   obtain ⟨I21, hI21⟩ : ∃ I : Nat → Act → World → Prop, I = fun fu a w => ∃ (u12 : List Int) (u11 : Int) (A15 : Option Addr) (p16 : Nat) (k13 : Chunk), loopN (fun s => impl_pathOf.s0  s.1 s.2) fu (u12, u11) = some o17 ∧ Kn [(3, (.slice A15 u12.length p16)), (4, (.int .i64 u11))] 19 a ∧ Sat [] w0 w [] [(3, k13)] ∧ Own (Lay.int .i64) 3 A15 p16 u12 k13 := ⟨_, rfl⟩
   refine wp_loop_ghost I21 fu22 ?_ ?_
   ·rw [hI21]
    exact ⟨([] : List Int), (w64 (7 + x0)), none, 0, _, h18, (hk.c 3 rfl (hk.c 4 rfl hk.k)), ((hs.addNil 1003).pick [(3, 1003)] rfl), Own.nil _ _⟩
   ·clear h18 hk hs
    intro fu22 a w hI0
    rw [hI21] at hI0
    obtain ⟨u12, u11, A15, p16, k13, hi, hk, hs, o14⟩ := hI0
    obtain ⟨x23, H, h24⟩ := loop_round hi
    try dsimp only at H
    unfold impl_pathOf.s0 at H
    apply wp_seq_k; intro K25 hK25
    refine wp_block ?_
    apply wp_seq_k; intro K26 hK26
    apply wp_region_lit
    refine sm _ rfl hk rfl rfl rfl fun a hk => ?_
    refine sm _ rfl hk rfl rfl rfl fun a hk => ?_
    refine sbs (L := (Lay.int .i64)) (pv := [(0, (.int .i64 u11))]) (xs := [u11]) (ess := [[.int .i64 u11]]) 4 hs rfl hk rfl rfl rfl un22 (bs3_0 u11) (AllOwn.cons0 ⟨rfl, rfl⟩ AllOwn.nil) rfl rfl rfl fun b27 k28 w a hk o29 hs => ?_
    rcases ite_some H with ⟨c30, H⟩ | ⟨_, H⟩
    rotate_left
    ·cases H
    refine sap 3 (xs := u12) (ys := [u11]) (flat_flat : ((Lay.int .i64)).Flat) hs rfl o14 o29.view (hs.hasG (k := 4) rfl) rfl hk rfl rfl rfl rfl rfl rfl un22 mk3 rfl rfl rfl c30 fun A31 p32 k33 w a hk o34 hs => ?_
    refine sa _ rfl hk rfl rfl rfl fun a hk => ?_
    show wpList _ _ _ [] _ _
    refine wpList_nil ?_
    refine hK26 _ _ ?_
    have hs := hs.pick [(3, 3)] rfl
    apply wp_seq_k; intro K35 hK35
    apply wp_region_lit
    refine sm _ rfl hk rfl rfl rfl fun a hk => ?_
    refine sv (.bool (u11 == 0)) hk rfl rfl rfl fun a hk => ?_
    show wpList _ _ _ [] _ _
    refine wpList_nil ?_
    refine hK35 _ _ ?_
    rcases cond_some H with ⟨c36, H⟩ | ⟨c36, H⟩
    ·have hk := hk.lit 15 c36 rfl
     refine cnd_true hk rfl rfl ?_
     apply wp_seq_k; intro K37 hK37
     apply wp_region_lit
     refine sm _ rfl hk rfl rfl rfl fun a hk => ?_
     obtain ⟨y38, h39, H⟩ := bind_some H
     refine sc rfl en178 hk rfl rfl rfl (slices_Reverse_int_int_t _ A31 p32 (u12 ++ ([u11])) _ o34 ((hs.hand [(103261, 3)] rfl).dpick [] rfl) _ h39) ?_
     rintro _ w ⟨k40, rfl, ⟨o41, lh42⟩, hG⟩ a hk
     have hs := hs.back [(103261, 3)] rfl hG [3] rfl
     have lh43 : y38.length = (u12 ++ ([u11])).length := lh42
     show wpList _ _ _ [] _ _
     refine wpList_nil ?_
     refine hK37 _ _ ?_
     apply wp_seq_k; intro K44 hK44
     apply wp_region_lit
     refine sm _ rfl hk rfl rfl rfl fun a hk => ?_
     refine sa _ rfl hk rfl rfl rfl fun a hk => ?_
     show wpList _ _ _ [] _ _
     refine wpList_nil ?_
     refine hK44 _ _ ?_
     refine wp_ret ?_
     obtain rfl := Option.some.inj H
     have ho17 := h24
     try dsimp only at ho17
     subst ho17
     have H := HL19
     try dsimp only at H
     obtain rfl := Option.some.inj H
     exact fin hk _ [(.slice A31 (u12 ++ ([u11])).length p32)] rfl ⟨rfl, trivial⟩ ⟨A31, p32, _, (by first | (rw [lh43]; done) | (rw [lh43]; rfl)), o41, (hs.pick [(0, 3)] rfl).dnil⟩
    ·have hk := hk.lit 15 c36 rfl
     refine cnd_false hk rfl rfl ?_
     refine wp_skip ?_
     refine hK25 _ _ ?_
     apply wp_region_lit
     refine sm _ rfl hk rfl rfl rfl fun a hk => ?_
     refine sv (.int .i64 (w64 (u11 - 1))) hk rfl rfl rfl fun a hk => ?_
     refine sv (.int .i64 (IntKind.wrap .i64 (Int.tdiv (w64 (u11 - 1)) 2))) hk rfl rfl rfl fun a hk => ?_
     refine sa _ rfl hk rfl rfl rfl fun a hk => ?_
     show wpList _ _ _ [] _ _
     refine wpList_nil ?_
     obtain rfl := Option.some.inj H
     obtain ⟨m45, hmm45, h24⟩ := h24
     show ∃ n', n' < _ ∧ I21 n' _ _
     refine ⟨m45, hmm45, ?_⟩
     rw [hI21]
     exact ⟨(u12 ++ ([u11])), (IntKind.wrap .i64 (Int.tdiv (w64 (u11 - 1)) 2)), A31, p32, _, h24, (hk.c 3 rfl (hk.c 4 rfl hk.k)), (hs.pick [(3, 3)] rfl), o34⟩
  ·intro a w hR0
   rw [hR20] at hR0
   obtain ⟨rfl, hk, hs⟩ := hR0
   have H := HL19
   try dsimp only at H
   cases H

noncomputable def slices_Index_int_int.s0 (l0 : List Int) (x1 : Int) (u6 : Int) : Option ((Int) ⊕ Ex (Unit) (Int)) :=
  (bif (decide (u6 < (l0.length : Int))) then (if 0 ≤ u6 ∧ u6 < (l0.length : Int) then (bif (x1 == (l0.getD u6.toNat 0)) then (some (.inr (.ret u6))) else (some (.inl (w64 (u6 + 1))))) else none) else (some (.inr (.out ()))))
noncomputable def slices_Index_int_int.f (l0 : List Int) (x1 : Int) : Option (Int) :=
  ((loopO (fun s => slices_Index_int_int.s0 l0 x1 s) 0).bind fun o => match o with | .out _ => (some (-1)) | .ret r => (some r))
set_option maxRecDepth 100000 in
set_option maxHeartbeats 0 in
theorem slices_Index_int_int_t (w0 : World) (A0_ : Option Addr) (p0_ : Nat) (l0 : List Int) (k0_ : Chunk) (v0_ : View (Lay.int .i64) A0_ p0_ l0 k0_) (w0_ : Has w0 k0_) (x1 : Int) (r : Int) (H : slices_Index_int_int.f l0 x1 = some r) :
    Calls Try.prog 182 #[.slice A0_ l0.length p0_, .int .i64 x1] w0 (Ret (fun v w => v = .int .i64 r ∧ Sat [] w0 w [] [])) := by
  have hs : Sat [] w0 w0 [(1, k0_)] [] := Sat.init w0 [(1, k0_)] [] (by simp only [List.mem_cons, List.not_mem_nil, or_false]; rintro x (rfl) <;> assumption) (by simp) List.nodup_nil (by simp [blks])
  unfold slices_Index_int_int.f at H
  refine enter Try.func182 rfl Try.ntmps182 rfl fun a hk => ?_
  apply wp_seq_k; intro K1 hK1
  apply wp_region_lit
  refine sa _ rfl hk rfl rfl rfl fun a hk => ?_
  show wpList _ _ _ [] _ _
  refine wpList_nil ?_
  refine hK1 _ _ ?_
  apply wp_seq_k; intro K2 hK2
  apply wp_seq_k; intro K3 hK3
  apply wp_region_lit
  refine sm _ rfl hk rfl rfl rfl fun a hk => ?_
  refine sle rfl hk rfl rfl rfl un22 fun a hk => ?_
  refine sm _ rfl hk rfl rfl rfl fun a hk => ?_
  show wpList _ _ _ [] _ _
  refine wpList_nil ?_
  refine hK3 _ _ ?_
  obtain ⟨o7, h8, HL9⟩ := bind_some H
  clear H
  obtain ⟨R10, hR10⟩ : ∃ R : Act → World → Prop, R = fun a w => o7 = .out () ∧ Kn [] 19 a ∧ Sat [] w0 w [(1, k0_)] [] := ⟨_, rfl⟩
  refine wp_cutq R10 ?_ ?_
  ·refine wp_block ?_
   obtain ⟨fu12, h8⟩ := loopO_some h8
   obtain ⟨I11, hI11⟩ : ∃ I : Nat → Act → World → Prop, I = fun fu a w => ∃ (u6 : Int), loopN (fun s => slices_Index_int_int.s0 l0 x1 s) fu u6 = some o7 ∧ Kn [(0, (.slice A0_ l0.length p0_)), (1, (.int .i64 x1)), (7, (.int .i64 (l0.length : Int))), (8, (.int .i64 u6))] 19 a ∧ Sat [] w0 w [(1, k0_)] [] := ⟨_, rfl⟩
   refine wp_loop_ghost I11 fu12 ?_ ?_
   ·rw [hI11]
    exact ⟨0, h8, (hk.c 0 rfl (hk.c 1 rfl (hk.c 7 rfl (hk.c 8 rfl hk.k)))), (hs.pick [] rfl)⟩
   ·clear h8 hk hs
    intro fu12 a w hI0
    rw [hI11] at hI0
    obtain ⟨u6, hi, hk, hs⟩ := hI0
    obtain ⟨x13, H, h14⟩ := loop_round hi
    try dsimp only at H
    unfold slices_Index_int_int.s0 at H
    apply wp_seq_k; intro K15 hK15
    apply wp_region_lit
    refine sv (.bool (decide (u6 < (l0.length : Int)))) hk rfl rfl rfl fun a hk => ?_
    show wpList _ _ _ [] _ _
    refine wpList_nil ?_
    refine hK15 _ _ ?_
    apply wp_seq_k; intro K16 hK16
    rcases cond_some H with ⟨c17, H⟩ | ⟨c17, H⟩
    ·have hk := hk.lit 9 c17 rfl
     refine cnd_true hk rfl rfl ?_
     refine wp_skip ?_
     refine hK16 _ _ ?_
     have hs := hs.pick [] rfl
     apply wp_seq_k; intro K18 hK18
     refine wp_block ?_
     apply wp_seq_k; intro K19 hK19
     apply wp_region_lit
     refine sm _ rfl hk rfl rfl rfl fun a hk => ?_
     refine sa _ rfl hk rfl rfl rfl fun a hk => ?_
     show wpList _ _ _ [] _ _
     refine wpList_nil ?_
     refine hK19 _ _ ?_
     apply wp_seq_k; intro K20 hK20
     apply wp_region_lit
     refine sm _ rfl hk rfl rfl rfl fun a hk => ?_
     refine sm _ rfl hk rfl rfl rfl fun a hk => ?_
     refine sm _ rfl hk rfl rfl rfl fun a hk => ?_
     rcases ite_some H with ⟨c21, H⟩ | ⟨_, H⟩
     rotate_left
     ·cases H
     obtain ⟨b22, q23, hAc21⟩ := (v0_).some_ u6 c21.1 c21.2
     refine si rfl hk rfl rfl rfl rfl un22 sz3 c21.1 c21.2 hAc21 fun a hk => ?_
     obtain ⟨_, rfl, e24⟩ := (v0_).at_ 0 u6 c21.1 c21.2
     refine sl (v := (.int .i64 (l0.getD u6.toNat 0))) rfl hk rfl rfl rfl ag3 ((e24 0 _ rfl).cell (hs.hasD (k := 1) rfl)) fun a hk => ?_
     refine sv (.bool (x1 == (l0.getD u6.toNat 0))) hk rfl rfl rfl fun a hk => ?_
     show wpList _ _ _ [] _ _
     refine wpList_nil ?_
     refine hK20 _ _ ?_
     rcases cond_some H with ⟨c25, H⟩ | ⟨c25, H⟩
     ·have hk := hk.lit 16 c25 rfl
      refine cnd_true hk rfl rfl ?_
      apply wp_seq_k; intro K26 hK26
      apply wp_region_lit
      refine sm _ rfl hk rfl rfl rfl fun a hk => ?_
      refine sa _ rfl hk rfl rfl rfl fun a hk => ?_
      show wpList _ _ _ [] _ _
      refine wpList_nil ?_
      refine hK26 _ _ ?_
      refine wp_ret ?_
      obtain rfl := Option.some.inj H
      have ho7 := h14
      try dsimp only at ho7
      subst ho7
      have H := HL9
      try dsimp only at H
      obtain rfl := Option.some.inj H
      exact fin hk _ [(.int .i64 u6)] rfl ⟨rfl, trivial⟩ ⟨rfl, (hs.pick [] rfl).dnil⟩
     ·have hk := hk.lit 16 c25 rfl
      refine cnd_false hk rfl rfl ?_
      refine wp_skip ?_
      refine hK18 _ _ ?_
      apply wp_region_lit
      refine sv (.int .i64 (w64 (u6 + 1))) hk rfl rfl rfl fun a hk => ?_
      refine sm _ rfl hk rfl rfl rfl fun a hk => ?_
      show wpList _ _ _ [] _ _
      refine wpList_nil ?_
      obtain rfl := Option.some.inj H
      obtain ⟨m27, hmm27, h14⟩ := h14
      show ∃ n', n' < _ ∧ I11 n' _ _
      refine ⟨m27, hmm27, ?_⟩
      rw [hI11]
      exact ⟨(w64 (u6 + 1)), h14, (hk.c 0 rfl (hk.c 1 rfl (hk.c 7 rfl (hk.c 8 rfl hk.k)))), (hs.pick [] rfl)⟩
    ·have hk := hk.lit 9 c17 rfl
     refine cnd_false hk rfl rfl ?_
     refine wp_exit ?_
     obtain rfl := Option.some.inj H
     show R10 _ _
     rw [hR10]
     exact ⟨h14.symm, hk.k, (hs.pick [] rfl)⟩
  ·intro a w hR0
   rw [hR10] at hR0
   obtain ⟨rfl, hk, hs⟩ := hR0
   have H := HL9
   try dsimp only at H
   refine hK2 _ _ ?_
   apply wp_seq_k; intro K28 hK28
   apply wp_region_lit
   refine sa _ rfl hk rfl rfl rfl fun a hk => ?_
   show wpList _ _ _ [] _ _
   refine wpList_nil ?_
   refine hK28 _ _ ?_
   have hs := hs.pick [] rfl
   refine wp_ret ?_
   obtain rfl := Option.some.inj H
   exact fin hk _ [(.int .i64 (-1))] rfl ⟨rfl, trivial⟩ ⟨rfl, (hs.pick [] rfl).dnil⟩

noncomputable def slices_Contains_int_int.f (l0 : List Int) (x1 : Int) : Option (Bool) :=
  ((slices_Index_int_int.f l0 x1).bind fun y3 => (some (decide (y3 ≥ 0))))
set_option maxRecDepth 100000 in
set_option maxHeartbeats 0 in
theorem slices_Contains_int_int_t (w0 : World) (A0_ : Option Addr) (p0_ : Nat) (l0 : List Int) (k0_ : Chunk) (v0_ : View (Lay.int .i64) A0_ p0_ l0 k0_) (w0_ : Has w0 k0_) (x1 : Int) (r : Bool) (H : slices_Contains_int_int.f l0 x1 = some r) :
    Calls Try.prog 144 #[.slice A0_ l0.length p0_, .int .i64 x1] w0 (Ret (fun v w => v = .bool r ∧ Sat [] w0 w [] [])) := by
  have hs : Sat [] w0 w0 [(1, k0_)] [] := Sat.init w0 [(1, k0_)] [] (by simp only [List.mem_cons, List.not_mem_nil, or_false]; rintro x (rfl) <;> assumption) (by simp) List.nodup_nil (by simp [blks])
  unfold slices_Contains_int_int.f at H
  refine enter Try.func144 rfl Try.ntmps144 rfl fun a hk => ?_
  apply wp_seq_k; intro K1 hK1
  apply wp_region_lit
  refine sa _ rfl hk rfl rfl rfl fun a hk => ?_
  show wpList _ _ _ [] _ _
  refine wpList_nil ?_
  refine hK1 _ _ ?_
  apply wp_seq_k; intro K2 hK2
  apply wp_region_lit
  refine sm _ rfl hk rfl rfl rfl fun a hk => ?_
  refine sm _ rfl hk rfl rfl rfl fun a hk => ?_
  obtain ⟨y3, h4, H⟩ := bind_some H
  refine sc rfl en182 hk rfl rfl rfl (slices_Index_int_int_t _ A0_ p0_ l0 _ v0_ (hs.hasD (k := 1) rfl) x1 _ h4) ?_
  rintro _ w ⟨rfl, hG⟩ a hk
  have hs := hs.call0 hG
  refine sv (.bool (decide (y3 ≥ 0))) hk rfl rfl rfl fun a hk => ?_
  refine sa _ rfl hk rfl rfl rfl fun a hk => ?_
  show wpList _ _ _ [] _ _
  refine wpList_nil ?_
  refine hK2 _ _ ?_
  refine wp_ret ?_
  obtain rfl := Option.some.inj H
  exact fin hk _ [(.bool (decide (y3 ≥ 0)))] rfl ⟨rfl, trivial⟩ ⟨rfl, (hs.pick [] rfl).dnil⟩

noncomputable def impl_isOnPath.f (x0 : Int) (x1 : Int) : Option (Bool) :=
  ((impl_pathOf.f x1).bind fun y3 => ((slices_Contains_int_int.f y3 x0).bind fun y9 => (some y9)))
set_option maxRecDepth 100000 in
set_option maxHeartbeats 0 in
theorem impl_isOnPath_t (w0 : World) (x0 : Int) (x1 : Int) (r : Bool) (H : impl_isOnPath.f x0 x1 = some r) :
    Calls Try.prog 83 #[.int .i64 x0, .int .i64 x1] w0 (Ret (fun v w => v = .bool r ∧ Sat [] w0 w [] [])) := by
  have hs : Sat [] w0 w0 [] [] := Sat.init w0 [] [] (by simp) (by simp) List.nodup_nil (by simp [blks])
  unfold impl_isOnPath.f at H
  refine enter Try.func83 rfl Try.ntmps83 rfl fun a hk => ?_
  apply wp_seq_k; intro K1 hK1
  apply wp_region_lit
  refine sa _ rfl hk rfl rfl rfl fun a hk => ?_
  show wpList _ _ _ [] _ _
  refine wpList_nil ?_
  refine hK1 _ _ ?_
  apply wp_seq_k; intro K2 hK2
  apply wp_region_lit
  refine sm _ rfl hk rfl rfl rfl fun a hk => ?_
  obtain ⟨y3, h4, H⟩ := bind_some H
  refine sc rfl en130 hk rfl rfl rfl (impl_pathOf_t _ x1 _ h4) ?_
  rintro _ w ⟨A5, p6, k7, rfl, o8, hG⟩ a hk
  have hs := hs.call0k hG [1] rfl
  refine sm _ rfl hk rfl rfl rfl fun a hk => ?_
  obtain ⟨y9, h10, H⟩ := bind_some H
  refine sc rfl en144 hk rfl rfl rfl (slices_Contains_int_int_t _ A5 p6 y3 _ o8.view (hs.hasG (k := 1) rfl) x0 _ h10) ?_
  rintro _ w ⟨rfl, hG⟩ a hk
  have hs := hs.call0 hG
  refine sa _ rfl hk rfl rfl rfl fun a hk => ?_
  show wpList _ _ _ [] _ _
  refine wpList_nil ?_
  refine hK2 _ _ ?_
  refine wp_ret ?_
  obtain rfl := Option.some.inj H
  exact fin hk _ [(.bool y9)] rfl ⟨rfl, trivial⟩ ⟨rfl, (hs.pick [] rfl).dnil⟩

noncomputable def impl_OramOK_c1.f (x0 : S_Block) (x1 : Int) : Option (Bool) :=
  ((((impl_isLeaf.f x0.Leaf).bind fun y10 => (bif y10 then ((impl_isOnPath.f x1 x0.Leaf).bind fun y13 => (some y13)) else (some false))) : Option (Bool)).bind fun u5 => (some u5))
set_option maxRecDepth 100000 in
set_option maxHeartbeats 0 in
theorem impl_OramOK_c1_t (w0 : World) (x0 : S_Block) (b1_ : Nat) (x1 : Int) (h1_ : Has w0 [(b1_, .cells #[.int .i64 x1] 3 (0, 0))]) (r : Bool) (H : impl_OramOK_c1.f x0 x1 = some r) :
    Calls Try.prog 82 #[.agg #[.int .i64 x0.Id, .int .i64 x0.Leaf, .int .i64 x0.Value], .pointer (some ⟨b1_, 0, none⟩)] w0 (Ret (fun v w => v = .bool r ∧ Sat [] w0 w [] [])) := by
  have hs : Sat [] w0 w0 [(1, [(b1_, .cells #[.int .i64 x1] 3 (0, 0))])] [] := Sat.init w0 [(1, [(b1_, .cells #[.int .i64 x1] 3 (0, 0))])] [] (by simp only [List.mem_cons, List.not_mem_nil, or_false]; rintro x (rfl) <;> assumption) (by simp) List.nodup_nil (by simp [blks])
  unfold impl_OramOK_c1.f at H
  refine enter Try.func82 rfl Try.ntmps82 rfl fun a hk => ?_
  apply wp_seq_k; intro K1 hK1
  apply wp_region_lit
  refine sbx 2 hs rfl hk rfl rfl rfl rfl fun b2 w a hk hs => ?_
  refine sa _ rfl hk rfl rfl rfl fun a hk => ?_
  show wpList _ _ _ [] _ _
  refine wpList_nil ?_
  refine hK1 _ _ ?_
  apply wp_seq_k; intro K3 hK3
  obtain ⟨o6, h7, HL8⟩ := bind_some H
  clear H
  obtain ⟨R9, hR9⟩ : ∃ R : Act → World → Prop, R = fun a w => ∃ (u5 : Bool), u5 = o6 ∧ Kn [(3, (.bool u5))] 13 a ∧ Sat [] w0 w [(1, [(b1_, .cells #[.int .i64 x1] 3 (0, 0))])] [] := ⟨_, rfl⟩
  refine wp_cutq R9 ?_ ?_
  ·have H := h7
   apply wp_region_lit
   refine sf ⟨b2, 1, none⟩ rfl hk rfl rfl rfl fd102_1 rfl fun a hk => ?_
   refine sl rfl hk rfl rfl rfl ag3 (box_cell hs (k := 2) rfl rfl) fun a hk => ?_
   obtain ⟨y10, h11, H⟩ := bind_some H
   refine sc rfl en64 hk rfl rfl rfl (impl_isLeaf_t _ x0.Leaf _ h11) ?_
   rintro _ w ⟨rfl, hG⟩ a hk
   have hs := hs.call0 hG
   refine sm _ rfl hk rfl rfl rfl fun a hk => ?_
   rcases cond_some H with ⟨c12, H⟩ | ⟨c12, H⟩
   ·have hk := hk.lit 7 c12 rfl
    refine sl rfl hk rfl rfl rfl ag3 (box_cellD hs (k := 1) rfl rfl) fun a hk => ?_
    refine sf ⟨b2, 1, none⟩ rfl hk rfl rfl rfl fd102_1 rfl fun a hk => ?_
    refine sl rfl hk rfl rfl rfl ag3 (box_cell hs (k := 2) rfl rfl) fun a hk => ?_
    obtain ⟨y13, h14, H⟩ := bind_some H
    refine sc rfl en83 hk rfl rfl rfl (impl_isOnPath_t _ x1 x0.Leaf _ h14) ?_
    rintro _ w ⟨rfl, hG⟩ a hk
    have hs := hs.call0 hG
    refine sv (.bool y13) hk rfl rfl rfl fun a hk => ?_
    refine sa _ rfl hk rfl rfl rfl fun a hk => ?_
    show wpList _ _ _ [] _ _
    refine wpList_nil ?_
    obtain rfl := Option.some.inj H
    show R9 _ _
    rw [hR9]
    exact ⟨y13, rfl, (hk.c 3 rfl hk.k), (hs.pick [] rfl)⟩
   ·have hk := hk.lit 7 c12 rfl
    refine sk hk rfl rfl rfl fun a hk => ?_
    refine sk hk rfl rfl rfl fun a hk => ?_
    refine sk hk rfl rfl rfl fun a hk => ?_
    refine sk hk rfl rfl rfl fun a hk => ?_
    refine sv (.bool false) hk rfl rfl rfl fun a hk => ?_
    refine sa _ rfl hk rfl rfl rfl fun a hk => ?_
    show wpList _ _ _ [] _ _
    refine wpList_nil ?_
    obtain rfl := Option.some.inj H
    show R9 _ _
    rw [hR9]
    exact ⟨false, rfl, (hk.c 3 rfl hk.k), (hs.pick [] rfl)⟩
  ·intro a w hR0
   rw [hR9] at hR0
   obtain ⟨u5, rfl, hk, hs⟩ := hR0
   have H := HL8
   try dsimp only at H
   refine hK3 _ _ ?_
   refine wp_ret ?_
   obtain rfl := Option.some.inj H
   exact fin hk _ [(.bool u5)] rfl ⟨rfl, trivial⟩ ⟨rfl, (hs.pick [] rfl).dnil⟩

noncomputable def slices_Clone_impl_Block_impl_Block.f (l0 : List S_Block) : Option (List S_Block) :=
  (if l0.length ≤ 1073741824 then (some l0) else none)
set_option maxRecDepth 100000 in
set_option maxHeartbeats 0 in
theorem slices_Clone_impl_Block_impl_Block_t (w0 : World) (A0_ : Option Addr) (p0_ : Nat) (l0 : List S_Block) (k0_ : Chunk) (v0_ : View L_Block A0_ p0_ l0 k0_) (w0_ : Has w0 k0_) (r : List S_Block) (H : slices_Clone_impl_Block_impl_Block.f l0 = some r) :
    Calls Try.prog 145 #[.slice A0_ l0.length p0_] w0 (Ret (fun v w => ∃ (A0 : Option Addr) (p0 : Nat) (k0 : Chunk), v = .slice A0 r.length p0 ∧ Own L_Block 102 A0 p0 r k0 ∧ Sat [] w0 w [] [(0, k0)])) := by
  have hs : Sat [] w0 w0 [(1, k0_)] [] := Sat.init w0 [(1, k0_)] [] (by simp only [List.mem_cons, List.not_mem_nil, or_false]; rintro x (rfl) <;> assumption) (by simp) List.nodup_nil (by simp [blks])
  unfold slices_Clone_impl_Block_impl_Block.f at H
  rcases ite_some H with ⟨c, H⟩ | ⟨_, H⟩
  rotate_left
  · cases H
  obtain rfl := Option.some.inj H
  refine enter Try.func145 rfl Try.ntmps145 rfl fun a hk => ?_
  apply wp_seq_k; intro K1 hK1
  apply wp_region_lit
  refine sa _ rfl hk rfl rfl rfl fun a hk => ?_
  refine wpList_nil ?_
  refine hK1 _ _ ?_
  apply wp_seq_k; intro K3 hK3
  apply wp_seq_k; intro K2 hK2
  apply wp_region_lit
  refine sm _ rfl hk rfl rfl rfl fun a hk => ?_
  refine snl rfl hk rfl rfl rfl un28 fun a hk => ?_
  refine wpList_nil ?_
  refine hK2 _ _ ?_
  cases A0_ with
  | none =>
    obtain rfl := v0_.none_nil
    refine cnd_true hk rfl rfl ?_
    apply wp_seq_k; intro K4 hK4
    apply wp_region_lit
    refine sa _ rfl hk rfl rfl rfl fun a hk => ?_
    refine wpList_nil ?_
    refine hK4 _ _ ?_
    refine wp_ret ?_
    have hs := hs.addNil 9
    exact fin hk _ [(.slice none 0 0)] rfl ⟨rfl, trivial⟩ ⟨none, 0, [], rfl, Own.nil _ _, (hs.pick [(0, 9)] rfl).dnil⟩
  | some A0_ =>
    refine cnd_false hk rfl rfl ?_
    refine wp_skip ?_
    refine hK3 _ _ ?_
    apply wp_seq_k; intro K5 hK5
    apply wp_region_lit
    refine sbs0 2 L_Block hs rfl hk rfl rfl un28 sz102 fun b k w a hk o hs => ?_
    refine sm _ rfl hk rfl rfl rfl fun a hk => ?_
    refine sap 2 (xs := ([] : List S_Block)) (ys := l0) (flat_flat : (L_Block).Flat) hs rfl o v0_ (hs.hasD (k := 1) rfl) rfl hk rfl rfl rfl rfl rfl rfl un28 mk102 rfl rfl rfl (by simpa using c) fun A p k w a hk o hs => ?_
    refine sa _ rfl hk rfl rfl rfl fun a hk => ?_
    refine wpList_nil ?_
    refine hK5 _ _ ?_
    refine wp_ret ?_
    exact fin hk _ [(.slice A ([] ++ l0).length p)] rfl ⟨rfl, trivial⟩ ⟨A, p, _, rfl, o, (hs.pick [(0, 2)] rfl).dnil⟩

set_option maxRecDepth 100000 in
set_option maxHeartbeats 1000000 in
theorem slices_Grow_impl_Block_impl_Block_n {M : List Nat} {w00 w : World} {Δ Γ : List (Nat × Chunk)} (k n : Nat) (hs : Sat M w00 w Δ Γ) (hn : n ≤ 1073741824) :
    Calls Try.prog 183 #[.slice none 0 0, .int .i64 n] w (Ret (fun v w' => ∃ A cap c, v = .slice A ([] : List S_Block).length cap ∧ Own L_Block 102 A cap [] c ∧ Sat M w00 w' Δ ((k, c) :: Γ))) := by
  refine enter Try.func183 rfl Try.ntmps183 rfl fun a hk => ?_
  apply wp_seq_k; intro K1 hK1
  apply wp_region_lit
  refine sa _ rfl hk rfl rfl rfl fun a hk => ?_
  show wpList _ _ _ [] _ _
  refine wpList_nil ?_
  refine hK1 _ _ ?_
  apply wp_seq_k; intro K2 hK2
  apply wp_seq_k; intro K3 hK3
  apply wp_region_lit
  refine sm _ rfl hk rfl rfl rfl fun a hk => ?_
  refine sv (.bool (decide ((n : Int) < 0))) hk rfl rfl rfl fun a hk => ?_
  show wpList _ _ _ [] _ _
  refine wpList_nil ?_
  refine hK3 _ _ ?_
  have hk := hk.lit 6 (decide_eq_false (by omega)) rfl
  refine cnd_false hk rfl rfl ?_
  refine wp_skip ?_
  refine hK2 _ _ ?_
  apply wp_seq_k; intro K6 hK6
  apply wp_seq_k; intro K4 hK4
  apply wp_region_lit
  refine sm _ rfl hk rfl rfl rfl fun a hk => ?_
  refine sm _ rfl hk rfl rfl rfl fun a hk => ?_
  refine scap rfl hk rfl rfl rfl un28 fun a hk => ?_
  refine sm _ rfl hk rfl rfl rfl fun a hk => ?_
  refine sle rfl hk rfl rfl rfl un28 fun a hk => ?_
  refine sv (.int .i64 (w64 (((0 : Nat) : Int) - ((0 : Nat) : Int)))) hk rfl rfl rfl fun a hk => ?_
  rw [show w64 (((0 : Nat) : Int) - ((0 : Nat) : Int)) = 0 from rfl] at hk
  refine sv (.int .i64 (w64 ((n : Int) - 0))) hk rfl rfl rfl fun a hk => ?_
  rw [w64id (x := (n : Int) - 0) (by omega) (by omega), Int.sub_zero] at hk
  refine sa _ rfl hk rfl rfl rfl fun a hk => ?_
  show wpList _ _ _ [] _ _
  refine wpList_nil ?_
  refine hK4 _ _ ?_
  apply wp_seq_k; intro K5 hK5
  apply wp_region_lit
  refine sm _ rfl hk rfl rfl rfl fun a hk => ?_
  refine sv (.bool (decide ((0 : Int) < (n : Int)))) hk rfl rfl rfl fun a hk => ?_
  show wpList _ _ _ [] _ _
  refine wpList_nil ?_
  refine hK5 _ _ ?_
  by_cases h0 : 0 < n
  · have hk := hk.lit 16 (decide_eq_true (by omega)) rfl
    refine cnd_true hk rfl rfl ?_
    apply wp_region_lit
    refine sm _ rfl hk rfl rfl rfl fun a hk => ?_
    refine sm _ rfl hk rfl rfl rfl fun a hk => ?_
    refine scap rfl hk rfl rfl rfl un28 fun a hk => ?_
    refine sll_h rfl hk rfl rfl rfl rfl un28 sz102 (by omega) (by omega) fun a hk => ?_
    have hk := hk.re (v' := .slice none 0 0) 20 rfl (by simp)
    refine sm _ rfl hk rfl rfl rfl fun a hk => ?_
    have hs := hs.addNil k
    refine sapn k (xs := ([] : List S_Block)) (z := z_Block) hs (kget_cons _ _ _) (Own.nil _ 102) (by first | exact ⟨rfl, rfl⟩ | exact lz102) rfl hk rfl rfl rfl rfl rfl un28 (by kernel_rfl : Try.prog.underlying 3 = some (.int .i64)) mk102 rfl rfl rfl (by simp; omega) fun A1 p1 c1 w a hk o hs => ?_
    simp only [kdel, Nat.beq_refl, if_true] at hs
    have hne : ([] ++ List.replicate (n : Int).toNat z_Block : List S_Block) ≠ [] := by
      intro e
      have := congrArg List.length e
      simp at this; omega
    obtain ⟨b, rfl, cs, ess, cd, rfl, -, -, hcs, -, htop⟩ := o.opened hne
    have hs := hs.less (k := k) [(b, .cells cs 102 (0, 0))] cd (kget_cons _ _ _) (by simp)
    simp only [kdel, Nat.beq_refl, if_true] at hs
    refine sm _ rfl hk rfl rfl rfl fun a hk => ?_
    refine sle rfl hk rfl rfl rfl un28 fun a hk => ?_
    refine sll_h rfl hk rfl rfl rfl rfl un28 sz102 (by omega) (by omega) fun a hk => ?_
    have hk := hk.re (v' := .slice (some ⟨b, 0, none⟩) 0 p1) 25 rfl sl_head
    refine sa _ rfl hk rfl rfl rfl fun a hk => ?_
    show wpList _ _ _ [] _ _
    refine wpList_nil ?_
    refine hK6 _ _ ?_
    apply wp_seq_k; intro K7 hK7
    apply wp_region_lit
    refine sm _ rfl hk rfl rfl rfl fun a hk => ?_
    refine sa _ rfl hk rfl rfl rfl fun a hk => ?_
    show wpList _ _ _ [] _ _
    refine wpList_nil ?_
    refine hK7 _ _ ?_
    refine wp_ret ?_
    exact fin hk _ [(.slice (some ⟨b, 0, none⟩) 0 p1)] rfl ⟨rfl, trivial⟩ ⟨_, p1, _, rfl, .inr ⟨b, rfl, cs, [], [], rfl, .nil, by simp, hcs, Nat.zero_le _, htop⟩, hs⟩
  · have hk := hk.lit 16 (decide_eq_false (by omega)) rfl
    refine cnd_false hk rfl rfl ?_
    refine wp_skip ?_
    refine hK6 _ _ ?_
    apply wp_seq_k; intro K7 hK7
    apply wp_region_lit
    refine sm _ rfl hk rfl rfl rfl fun a hk => ?_
    refine sa _ rfl hk rfl rfl rfl fun a hk => ?_
    show wpList _ _ _ [] _ _
    refine wpList_nil ?_
    refine hK7 _ _ ?_
    refine wp_ret ?_
    exact fin hk _ [(.slice none 0 0)] rfl ⟨rfl, trivial⟩ ⟨none, 0, [], rfl, Own.nil _ _, hs.addNil k⟩
theorem slices_Grow_impl_Block_impl_Block_t {M : List Nat} {w00 w : World} {Δ Γ : List (Nat × Chunk)} (k : Nat) {n : Int} (hs : Sat M w00 w Δ Γ) (hn : 0 ≤ n ∧ n ≤ 1073741824) :
    Calls Try.prog 183 #[.slice none 0 0, .int .i64 n] w (Ret (fun v w' => ∃ A cap c, v = .slice A ([] : List S_Block).length cap ∧ Own L_Block 102 A cap [] c ∧ Sat M w00 w' Δ ((k, c) :: Γ))) := by
  obtain ⟨m, rfl⟩ := Int.eq_ofNat_of_zero_le hn.1
  exact slices_Grow_impl_Block_impl_Block_n k m hs (by omega)

noncomputable def slices_Concat_impl_Block_impl_Block.s0 (l0 : List (List S_Block)) (u7 : Int) (u8 : Int) : Option ((Int × Int) ⊕ Ex (Int) ((List S_Block))) :=
  (bif (decide (u8 < (l0.length : Int))) then (if 0 ≤ u8 ∧ u8 < (l0.length : Int) then (bif (decide ((w64 (u7 + ((l0.getD u8.toNat []).length : Int))) < 0)) then none else (some (.inl ((w64 (u7 + ((l0.getD u8.toNat []).length : Int))), (w64 (u8 + 1)))))) else none) else (some (.inr (.out u7))))
noncomputable def slices_Concat_impl_Block_impl_Block.s1 (l0 : List (List S_Block)) (u49 : List S_Block) (u48 : Int) : Option (((List S_Block) × Int) ⊕ Ex ((List S_Block)) ((List S_Block))) :=
  (bif (decide (u48 < (l0.length : Int))) then (if 0 ≤ u48 ∧ u48 < (l0.length : Int) then (if u49.length + (l0.getD u48.toNat []).length ≤ 1073741824 then (some (.inl ((u49 ++ (l0.getD u48.toNat [])), (w64 (u48 + 1))))) else none) else none) else (some (.inr (.out u49))))
noncomputable def slices_Concat_impl_Block_impl_Block.f (l0 : List (List S_Block)) : Option ((List S_Block)) :=
  ((loopO (fun s => slices_Concat_impl_Block_impl_Block.s0 l0 s.1 s.2) (0, 0)).bind fun o => match o with | .out u9 => (if 0 ≤ u9 ∧ u9 ≤ 1073741824 then ((loopO (fun s => slices_Concat_impl_Block_impl_Block.s1 l0 s.1 s.2) (([] : List S_Block), 0)).bind fun o => match o with | .out u54 => (some u54) | .ret r => (some r)) else none) | .ret r => (some r))
set_option maxRecDepth 100000 in
set_option maxHeartbeats 0 in
theorem slices_Concat_impl_Block_impl_Block_t (w0 : World) (A0_ : Option Addr) (p0_ : Nat) (l0 : List (List S_Block)) (k0_ : Chunk) (v0_ : View (Lay.sl L_Block 102) A0_ p0_ l0 k0_) (w0_ : Has w0 k0_) (r : (List S_Block)) (H : slices_Concat_impl_Block_impl_Block.f l0 = some r) :
    Calls Try.prog 146 #[.slice A0_ l0.length p0_] w0 (Ret (fun v w => ∃ (A0 : Option Addr) (p0 : Nat) (k0 : Chunk), v = .slice A0 r.length p0 ∧ Own L_Block 102 A0 p0 r k0 ∧ Sat [] w0 w [] [(0, k0)])) := by
  have hs : Sat [] w0 w0 [(1, k0_)] [] := Sat.init w0 [(1, k0_)] [] (by simp only [List.mem_cons, List.not_mem_nil, or_false]; rintro x (rfl) <;> assumption) (by simp) List.nodup_nil (by simp [blks])
  unfold slices_Concat_impl_Block_impl_Block.f at H
  refine enter Try.func146 rfl Try.ntmps146 rfl fun a hk => ?_
  apply wp_seq_k; intro K1 hK1
  apply wp_region_lit
  refine sa _ rfl hk rfl rfl rfl fun a hk => ?_
  show wpList _ _ _ [] _ _
  refine wpList_nil ?_
  refine hK1 _ _ ?_
  apply wp_seq_k; intro K2 hK2
  apply wp_region_lit
  refine sa _ rfl hk rfl rfl rfl fun a hk => ?_
  show wpList _ _ _ [] _ _
  refine wpList_nil ?_
  refine hK2 _ _ ?_
  apply wp_seq_k; intro K3 hK3
  apply wp_seq_k; intro K4 hK4
  apply wp_region_lit
  refine sm _ rfl hk rfl rfl rfl fun a hk => ?_
  refine sle rfl hk rfl rfl rfl un29 fun a hk => ?_
  refine sm _ rfl hk rfl rfl rfl fun a hk => ?_
  show wpList _ _ _ [] _ _
  refine wpList_nil ?_
  refine hK4 _ _ ?_
  obtain ⟨o10, h11, HL12⟩ := bind_some H
  clear H
  obtain ⟨R13, hR13⟩ : ∃ R : Act → World → Prop, R = fun a w => ∃ (u9 : Int), o10 = .out u9 ∧ Kn [(0, (.slice A0_ l0.length p0_)), (3, (.int .i64 u9))] 36 a ∧ Sat [] w0 w [(1, k0_)] [] := ⟨_, rfl⟩
  refine wp_cutq R13 ?_ ?_
  ·refine wp_block ?_
   obtain ⟨fu15, h11⟩ := loopO_some h11
   obtain ⟨I14, hI14⟩ : ∃ I : Nat → Act → World → Prop, I = fun fu a w => ∃ (u7 : Int) (u8 : Int), loopN (fun s => slices_Concat_impl_Block_impl_Block.s0 l0 s.1 s.2) fu (u7, u8) = some o10 ∧ Kn [(0, (.slice A0_ l0.length p0_)), (3, (.int .i64 u7)), (9, (.slice A0_ l0.length p0_)), (10, (.int .i64 (l0.length : Int))), (11, (.int .i64 u8))] 36 a ∧ Sat [] w0 w [(1, k0_)] [] := ⟨_, rfl⟩
   refine wp_loop_ghost I14 fu15 ?_ ?_
   ·rw [hI14]
    exact ⟨0, 0, h11, (hk.c 0 rfl (hk.c 3 rfl (hk.c 9 rfl (hk.c 10 rfl (hk.c 11 rfl hk.k))))), (hs.pick [] rfl)⟩
   ·clear h11 hk hs
    intro fu15 a w hI0
    rw [hI14] at hI0
    obtain ⟨u7, u8, hi, hk, hs⟩ := hI0
    obtain ⟨x16, H, h17⟩ := loop_round hi
    try dsimp only at H
    unfold slices_Concat_impl_Block_impl_Block.s0 at H
    apply wp_seq_k; intro K18 hK18
    apply wp_region_lit
    refine sv (.bool (decide (u8 < (l0.length : Int)))) hk rfl rfl rfl fun a hk => ?_
    show wpList _ _ _ [] _ _
    refine wpList_nil ?_
    refine hK18 _ _ ?_
    have hs := hs.pick [] rfl
    apply wp_seq_k; intro K19 hK19
    rcases cond_some H with ⟨c20, H⟩ | ⟨c20, H⟩
    ·have hk := hk.lit 12 c20 rfl
     refine cnd_true hk rfl rfl ?_
     refine wp_skip ?_
     refine hK19 _ _ ?_
     apply wp_seq_k; intro K21 hK21
     refine wp_block ?_
     apply wp_seq_k; intro K22 hK22
     apply wp_region_lit
     rcases ite_some H with ⟨c23, H⟩ | ⟨_, H⟩
     rotate_left
     ·cases H
     obtain ⟨b24, q25, hAc23⟩ := (v0_).some_ u8 c23.1 c23.2
     refine si rfl hk rfl rfl rfl rfl un29 sz28 c23.1 c23.2 hAc23 fun a hk => ?_
     obtain ⟨_, ⟨_, rfl, A27, p28, rfl, v29⟩, e26⟩ := (v0_).at_ [] u8 c23.1 c23.2
     refine sl (v := (.slice A27 (l0.getD u8.toNat []).length p28)) rfl hk rfl rfl rfl ag28 ((e26 0 _ rfl).cell (hs.hasD (k := 1) rfl)) fun a hk => ?_
     refine sa _ rfl hk rfl rfl rfl fun a hk => ?_
     show wpList _ _ _ [] _ _
     refine wpList_nil ?_
     refine hK22 _ _ ?_
     apply wp_seq_k; intro K30 hK30
     apply wp_region_lit
     refine sm _ rfl hk rfl rfl rfl fun a hk => ?_
     refine sm _ rfl hk rfl rfl rfl fun a hk => ?_
     refine sle rfl hk rfl rfl rfl un28 fun a hk => ?_
     refine sv (.int .i64 (w64 (u7 + ((l0.getD u8.toNat []).length : Int)))) hk rfl rfl rfl fun a hk => ?_
     refine sa _ rfl hk rfl rfl rfl fun a hk => ?_
     show wpList _ _ _ [] _ _
     refine wpList_nil ?_
     refine hK30 _ _ ?_
     apply wp_seq_k; intro K31 hK31
     apply wp_region_lit
     refine sm _ rfl hk rfl rfl rfl fun a hk => ?_
     refine sv (.bool (decide ((w64 (u7 + ((l0.getD u8.toNat []).length : Int))) < 0))) hk rfl rfl rfl fun a hk => ?_
     show wpList _ _ _ [] _ _
     refine wpList_nil ?_
     refine hK31 _ _ ?_
     have hs := hs.pick [] rfl
     rcases cond_some H with ⟨c32, H⟩ | ⟨c32, H⟩
     ·have hk := hk.lit 20 c32 rfl
      refine cnd_true hk rfl rfl ?_
      apply wp_region_lit
      cases H
     ·have hk := hk.lit 20 c32 rfl
      refine cnd_false hk rfl rfl ?_
      refine wp_skip ?_
      refine hK21 _ _ ?_
      apply wp_region_lit
      refine sv (.int .i64 (w64 (u8 + 1))) hk rfl rfl rfl fun a hk => ?_
      refine sm _ rfl hk rfl rfl rfl fun a hk => ?_
      show wpList _ _ _ [] _ _
      refine wpList_nil ?_
      obtain rfl := Option.some.inj H
      obtain ⟨m33, hmm33, h17⟩ := h17
      show ∃ n', n' < _ ∧ I14 n' _ _
      refine ⟨m33, hmm33, ?_⟩
      rw [hI14]
      exact ⟨(w64 (u7 + ((l0.getD u8.toNat []).length : Int))), (w64 (u8 + 1)), h17, (hk.c 0 rfl (hk.c 3 rfl (hk.c 9 rfl (hk.c 10 rfl (hk.c 11 rfl hk.k))))), (hs.pick [] rfl)⟩
    ·have hk := hk.lit 12 c20 rfl
     refine cnd_false hk rfl rfl ?_
     refine wp_exit ?_
     obtain rfl := Option.some.inj H
     show R13 _ _
     rw [hR13]
     exact ⟨u7, h17.symm, (hk.c 0 rfl (hk.c 3 rfl hk.k)), (hs.pick [] rfl)⟩
  ·intro a w hR0
   rw [hR13] at hR0
   obtain ⟨u9, rfl, hk, hs⟩ := hR0
   have H := HL12
   try dsimp only at H
   refine hK3 _ _ ?_
   have hs := hs.pick [] rfl
   apply wp_seq_k; intro K34 hK34
   apply wp_region_lit
   refine sm _ rfl hk rfl rfl rfl fun a hk => ?_
   rcases ite_some H with ⟨c35, H⟩ | ⟨_, H⟩
   rotate_left
   ·cases H
   refine sc rfl en183 hk rfl rfl rfl (slices_Grow_impl_Block_impl_Block_t 3 hs c35) ?_
   rintro _ w ⟨A36, p37, k38, rfl, o39, hs⟩ a hk
   refine sa _ rfl hk rfl rfl rfl fun a hk => ?_
   show wpList _ _ _ [] _ _
   refine wpList_nil ?_
   refine hK34 _ _ ?_
   apply wp_seq_k; intro K40 hK40
   apply wp_seq_k; intro K41 hK41
   apply wp_region_lit
   refine sm _ rfl hk rfl rfl rfl fun a hk => ?_
   refine sle rfl hk rfl rfl rfl un29 fun a hk => ?_
   refine sm _ rfl hk rfl rfl rfl fun a hk => ?_
   show wpList _ _ _ [] _ _
   refine wpList_nil ?_
   refine hK41 _ _ ?_
   obtain ⟨o59, h60, HL61⟩ := bind_some H
   clear H
   obtain ⟨R62, hR62⟩ : ∃ R : Act → World → Prop, R = fun a w => ∃ (u54 : List S_Block) (A57 : Option Addr) (p58 : Nat) (k55 : Chunk), o59 = .out u54 ∧ Kn [(6, (.slice A57 u54.length p58))] 36 a ∧ Sat [] w0 w [(1, k0_)] [(3, k55)] ∧ Own L_Block 102 A57 p58 u54 k55 := ⟨_, rfl⟩
   refine wp_cutq R62 ?_ ?_
   ·refine wp_block ?_
    obtain ⟨fu64, h60⟩ := loopO_some h60
    obtain ⟨I63, hI63⟩ : ∃ I : Nat → Act → World → Prop, I = fun fu a w => ∃ (u49 : List S_Block) (u48 : Int) (A52 : Option Addr) (p53 : Nat) (k50 : Chunk), loopN (fun s => slices_Concat_impl_Block_impl_Block.s1 l0 s.1 s.2) fu (u49, u48) = some o59 ∧ Kn [(6, (.slice A52 u49.length p53)), (25, (.slice A0_ l0.length p0_)), (26, (.int .i64 (l0.length : Int))), (27, (.int .i64 u48))] 36 a ∧ Sat [] w0 w [(1, k0_)] [(3, k50)] ∧ Own L_Block 102 A52 p53 u49 k50 := ⟨_, rfl⟩
    refine wp_loop_ghost I63 fu64 ?_ ?_
    ·rw [hI63]
     exact ⟨([] : List S_Block), 0, A36, p37, _, h60, (hk.c 6 rfl (hk.c 25 rfl (hk.c 26 rfl (hk.c 27 rfl hk.k)))), (hs.pick [(3, 3)] rfl), o39⟩
    ·clear h60 hk hs
     intro fu64 a w hI0
     rw [hI63] at hI0
     obtain ⟨u49, u48, A52, p53, k50, hi, hk, hs, o51⟩ := hI0
     obtain ⟨x65, H, h66⟩ := loop_round hi
     try dsimp only at H
     unfold slices_Concat_impl_Block_impl_Block.s1 at H
     apply wp_seq_k; intro K67 hK67
     apply wp_region_lit
     refine sv (.bool (decide (u48 < (l0.length : Int)))) hk rfl rfl rfl fun a hk => ?_
     show wpList _ _ _ [] _ _
     refine wpList_nil ?_
     refine hK67 _ _ ?_
     apply wp_seq_k; intro K68 hK68
     rcases cond_some H with ⟨c69, H⟩ | ⟨c69, H⟩
     ·have hk := hk.lit 28 c69 rfl
      refine cnd_true hk rfl rfl ?_
      refine wp_skip ?_
      refine hK68 _ _ ?_
      have hs := hs.pick [(3, 3)] rfl
      apply wp_seq_k; intro K70 hK70
      refine wp_block ?_
      apply wp_seq_k; intro K71 hK71
      apply wp_region_lit
      rcases ite_some H with ⟨c72, H⟩ | ⟨_, H⟩
      rotate_left
      ·cases H
      obtain ⟨b73, q74, hAc72⟩ := (v0_).some_ u48 c72.1 c72.2
      refine si rfl hk rfl rfl rfl rfl un29 sz28 c72.1 c72.2 hAc72 fun a hk => ?_
      obtain ⟨_, ⟨_, rfl, A76, p77, rfl, v78⟩, e75⟩ := (v0_).at_ [] u48 c72.1 c72.2
      refine sl (v := (.slice A76 (l0.getD u48.toNat []).length p77)) rfl hk rfl rfl rfl ag28 ((e75 0 _ rfl).cell (hs.hasD (k := 1) rfl)) fun a hk => ?_
      refine sa _ rfl hk rfl rfl rfl fun a hk => ?_
      show wpList _ _ _ [] _ _
      refine wpList_nil ?_
      refine hK71 _ _ ?_
      apply wp_region_lit
      refine sm _ rfl hk rfl rfl rfl fun a hk => ?_
      refine sm _ rfl hk rfl rfl rfl fun a hk => ?_
      rcases ite_some H with ⟨c79, H⟩ | ⟨_, H⟩
      rotate_left
      ·cases H
      refine sap 3 (xs := u49) (ys := (l0.getD u48.toNat [])) (flat_flat : (L_Block).Flat) hs rfl o51 v78 (hs.hasD (k := 1) rfl) rfl hk rfl rfl rfl rfl rfl rfl un28 mk102 rfl rfl rfl c79 fun A80 p81 k82 w a hk o83 hs => ?_
      refine sa _ rfl hk rfl rfl rfl fun a hk => ?_
      show wpList _ _ _ [] _ _
      refine wpList_nil ?_
      refine hK70 _ _ ?_
      apply wp_region_lit
      refine sv (.int .i64 (w64 (u48 + 1))) hk rfl rfl rfl fun a hk => ?_
      refine sm _ rfl hk rfl rfl rfl fun a hk => ?_
      show wpList _ _ _ [] _ _
      refine wpList_nil ?_
      obtain rfl := Option.some.inj H
      obtain ⟨m84, hmm84, h66⟩ := h66
      show ∃ n', n' < _ ∧ I63 n' _ _
      refine ⟨m84, hmm84, ?_⟩
      rw [hI63]
      exact ⟨(u49 ++ (l0.getD u48.toNat [])), (w64 (u48 + 1)), A80, p81, _, h66, (hk.c 6 rfl (hk.c 25 rfl (hk.c 26 rfl (hk.c 27 rfl hk.k)))), (hs.pick [(3, 3)] rfl), o83⟩
     ·have hk := hk.lit 28 c69 rfl
      refine cnd_false hk rfl rfl ?_
      refine wp_exit ?_
      obtain rfl := Option.some.inj H
      show R62 _ _
      rw [hR62]
      exact ⟨u49, A52, p53, _, h66.symm, (hk.c 6 rfl hk.k), (hs.pick [(3, 3)] rfl), o51⟩
   ·intro a w hR0
    rw [hR62] at hR0
    obtain ⟨u54, A57, p58, k55, rfl, hk, hs, o56⟩ := hR0
    have H := HL61
    try dsimp only at H
    refine hK40 _ _ ?_
    apply wp_seq_k; intro K85 hK85
    apply wp_region_lit
    refine sm _ rfl hk rfl rfl rfl fun a hk => ?_
    refine sa _ rfl hk rfl rfl rfl fun a hk => ?_
    show wpList _ _ _ [] _ _
    refine wpList_nil ?_
    refine hK85 _ _ ?_
    have hs := hs.pick [(3, 3)] rfl
    refine wp_ret ?_
    obtain rfl := Option.some.inj H
    exact fin hk _ [(.slice A57 u54.length p58)] rfl ⟨rfl, trivial⟩ ⟨A57, p58, _, rfl, o56, (hs.pick [(0, 3)] rfl).dnil⟩

noncomputable def impl_Oram_all.f (x0 : S_Oram) : Option ((List S_Block)) :=
  ((slices_Clone_impl_Block_impl_Block.f x0.Stash).bind fun y5 => ((slices_Concat_impl_Block_impl_Block.f x0.Buckets).bind fun y11 => (if y5.length + y11.length ≤ 1073741824 then (some (y5 ++ y11)) else none)))
set_option maxRecDepth 100000 in
set_option maxHeartbeats 0 in
theorem impl_Oram_all_t (w0 : World) (x0 : S_Oram) (A0_0 : Option Addr) (p0_0 : Nat) (k0_0 : Chunk) (v0_0 : View (Lay.int .i64) A0_0 p0_0 x0.Pos k0_0) (w0_0 : Has w0 k0_0) (A0_1 : Option Addr) (p0_1 : Nat) (k0_1 : Chunk) (v0_1 : View L_Block A0_1 p0_1 x0.Stash k0_1) (w0_1 : Has w0 k0_1) (A0_2 : Option Addr) (p0_2 : Nat) (k0_2 : Chunk) (v0_2 : View (Lay.sl L_Block 102) A0_2 p0_2 x0.Buckets k0_2) (w0_2 : Has w0 k0_2) (r : (List S_Block)) (H : impl_Oram_all.f x0 = some r) :
    Calls Try.prog 84 #[.agg #[.slice A0_0 x0.Pos.length p0_0, .slice A0_1 x0.Stash.length p0_1, .slice A0_2 x0.Buckets.length p0_2]] w0 (Ret (fun v w => ∃ (A0 : Option Addr) (p0 : Nat) (k0 : Chunk), v = .slice A0 r.length p0 ∧ Own L_Block 102 A0 p0 r k0 ∧ Sat [] w0 w [] [(0, k0)])) := by
  have hs : Sat [] w0 w0 [(1, k0_0), (2, k0_1), (3, k0_2)] [] := Sat.init w0 [(1, k0_0), (2, k0_1), (3, k0_2)] [] (by simp only [List.mem_cons, List.not_mem_nil, or_false]; rintro x (rfl | rfl | rfl) <;> assumption) (by simp) List.nodup_nil (by simp [blks])
  unfold impl_Oram_all.f at H
  refine enter Try.func84 rfl Try.ntmps84 rfl fun a hk => ?_
  apply wp_seq_k; intro K1 hK1
  apply wp_region_lit
  refine sbx 4 hs rfl hk rfl rfl rfl rfl fun b2 w a hk hs => ?_
  refine sa _ rfl hk rfl rfl rfl fun a hk => ?_
  show wpList _ _ _ [] _ _
  refine wpList_nil ?_
  refine hK1 _ _ ?_
  apply wp_seq_k; intro K3 hK3
  refine wp_region_tree (.q 0 (.q 1 (.q 3 (.q 4 (.alt 2 (.alt 5 (.alt 6 (.last 7) .stop) .stop) .stop))))) mo (by kernel_rfl) (hs.pick [(4, 4)] rfl) fun _ => ?_
  have hs := hs.drew
  refine tqst (.pointer (some ⟨b2, 1, none⟩)) hk rfl rfl rfl rfl (fun w hs => sf ⟨b2, 1, none⟩ rfl hk rfl rfl rfl fd31_1 rfl fun a hk => qe hk) fun a hk => ?_
  refine tqst (.slice A0_1 x0.Stash.length p0_1) hk rfl rfl rfl rfl (fun w hs => sl rfl hk rfl rfl rfl ag28 (box_cell hs (k := 4) rfl rfl) fun a hk => qe hk) fun a hk => ?_
  refine tqst (.pointer (some ⟨b2, 2, none⟩)) hk rfl rfl rfl rfl (fun w hs => sf ⟨b2, 2, none⟩ rfl hk rfl rfl rfl fd31_2 rfl fun a hk => qe hk) fun a hk => ?_
  refine tqst (.slice A0_2 x0.Buckets.length p0_2) hk rfl rfl rfl rfl (fun w hs => sl rfl hk rfl rfl rfl ag29 (box_cell hs (k := 4) rfl rfl) fun a hk => qe hk) fun a hk => ?_
  refine tsst hk rfl rfl (fun K_r4_2 hK_r4_2 w hF => ?_) wt_stop
  have hs := hs.f hF
  obtain ⟨y5, h6, H⟩ := bind_some H
  refine sc rfl en145 hk rfl rfl rfl (slices_Clone_impl_Block_impl_Block_t _ A0_1 p0_1 x0.Stash _ v0_1 (hs.hasD (k := 2) rfl) _ h6) ?_
  rintro _ w ⟨A7, p8, k9, rfl, o10, hG⟩ a hk
  have hs := hs.call0k hG [6] rfl
  refine se (hs.pick [(4, 4)] rfl) hk (hK_r4_2 _ _ ?_)
  refine tsst hk rfl rfl (fun K_r4_5 hK_r4_5 w hF => ?_) wt_stop
  have hs := hs.f hF
  obtain ⟨y11, h12, H⟩ := bind_some H
  refine sc rfl en146 hk rfl rfl rfl (slices_Concat_impl_Block_impl_Block_t _ A0_2 p0_2 x0.Buckets _ v0_2 (hs.hasD (k := 3) rfl) _ h12) ?_
  rintro _ w ⟨A13, p14, k15, rfl, o16, hG⟩ a hk
  have hs := hs.call0k hG [7] rfl
  refine se (hs.pick [(4, 4)] rfl) hk (hK_r4_5 _ _ ?_)
  refine tsst hk rfl rfl (fun K_r4_6 hK_r4_6 w hF => ?_) wt_stop
  have hs := hs.f hF
  rcases ite_some H with ⟨c17, H⟩ | ⟨_, H⟩
  rotate_left
  ·cases H
  refine sap 6 (xs := y5) (ys := y11) (flat_flat : (L_Block).Flat) hs rfl o10 o16.view (hs.hasG (k := 7) rfl) rfl hk rfl rfl rfl rfl rfl rfl un28 mk102 rfl rfl rfl c17 fun A18 p19 k20 w a hk o21 hs => ?_
  refine se (hs.pick [(4, 4)] rfl) hk (hK_r4_6 _ _ ?_)
  refine tlst hk rfl rfl fun K_r4_7 hK_r4_7 w hF => ?_
  have hs := hs.f hF
  refine sa _ rfl hk rfl rfl rfl fun a hk => ?_
  refine se trivial hk (hK_r4_7 _ _ fun w hF => ?_)
  have hs := hs.f hF
  refine hK3 _ _ ?_
  refine wp_ret ?_
  obtain rfl := Option.some.inj H
  exact fin hk _ [(.slice A18 (y5 ++ y11).length p19)] rfl ⟨rfl, trivial⟩ ⟨A18, p19, _, rfl, o21, (hs.pick [(0, 6)] rfl).dnil⟩

noncomputable def impl_isId.f (x0 : Int) : Option (Bool) :=
  ((impl_within.f x0 0 11).bind fun y3 => (some y3))
set_option maxRecDepth 100000 in
set_option maxHeartbeats 0 in
theorem impl_isId_t (w0 : World) (x0 : Int) (r : Bool) (H : impl_isId.f x0 = some r) :
    Calls Try.prog 63 #[.int .i64 x0] w0 (Ret (fun v w => v = .bool r ∧ Sat [] w0 w [] [])) := by
  have hs : Sat [] w0 w0 [] [] := Sat.init w0 [] [] (by simp) (by simp) List.nodup_nil (by simp [blks])
  unfold impl_isId.f at H
  refine enter Try.func63 rfl Try.ntmps63 rfl fun a hk => ?_
  apply wp_seq_k; intro K1 hK1
  apply wp_region_lit
  refine sa _ rfl hk rfl rfl rfl fun a hk => ?_
  show wpList _ _ _ [] _ _
  refine wpList_nil ?_
  refine hK1 _ _ ?_
  apply wp_seq_k; intro K2 hK2
  apply wp_region_lit
  refine sm _ rfl hk rfl rfl rfl fun a hk => ?_
  obtain ⟨y3, h4, H⟩ := bind_some H
  refine sc rfl en92 hk rfl rfl rfl (impl_within_t _ x0 0 11 _ h4) ?_
  rintro _ w ⟨rfl, hG⟩ a hk
  have hs := hs.call0 hG
  refine sa _ rfl hk rfl rfl rfl fun a hk => ?_
  show wpList _ _ _ [] _ _
  refine wpList_nil ?_
  refine hK2 _ _ ?_
  refine wp_ret ?_
  obtain rfl := Option.some.inj H
  exact fin hk _ [(.bool y3)] rfl ⟨rfl, trivial⟩ ⟨rfl, (hs.pick [] rfl).dnil⟩

noncomputable def impl_isValue.f (x0 : Int) : Option (Bool) :=
  ((impl_within.f x0 0 999999).bind fun y3 => (some y3))
set_option maxRecDepth 100000 in
set_option maxHeartbeats 0 in
theorem impl_isValue_t (w0 : World) (x0 : Int) (r : Bool) (H : impl_isValue.f x0 = some r) :
    Calls Try.prog 65 #[.int .i64 x0] w0 (Ret (fun v w => v = .bool r ∧ Sat [] w0 w [] [])) := by
  have hs : Sat [] w0 w0 [] [] := Sat.init w0 [] [] (by simp) (by simp) List.nodup_nil (by simp [blks])
  unfold impl_isValue.f at H
  refine enter Try.func65 rfl Try.ntmps65 rfl fun a hk => ?_
  apply wp_seq_k; intro K1 hK1
  apply wp_region_lit
  refine sa _ rfl hk rfl rfl rfl fun a hk => ?_
  show wpList _ _ _ [] _ _
  refine wpList_nil ?_
  refine hK1 _ _ ?_
  apply wp_seq_k; intro K2 hK2
  apply wp_region_lit
  refine sm _ rfl hk rfl rfl rfl fun a hk => ?_
  obtain ⟨y3, h4, H⟩ := bind_some H
  refine sc rfl en92 hk rfl rfl rfl (impl_within_t _ x0 0 999999 _ h4) ?_
  rintro _ w ⟨rfl, hG⟩ a hk
  have hs := hs.call0 hG
  refine sa _ rfl hk rfl rfl rfl fun a hk => ?_
  show wpList _ _ _ [] _ _
  refine wpList_nil ?_
  refine hK2 _ _ ?_
  refine wp_ret ?_
  obtain rfl := Option.some.inj H
  exact fin hk _ [(.bool y3)] rfl ⟨rfl, trivial⟩ ⟨rfl, (hs.pick [] rfl).dnil⟩

noncomputable def impl_isBlock.f (x0 : S_Block) : Option (Bool) :=
  ((((impl_isId.f x0.Id).bind fun y10 => (bif y10 then ((impl_isLeaf.f x0.Leaf).bind fun y13 => (bif y13 then ((impl_isValue.f x0.Value).bind fun y16 => (some y16)) else (some false))) else (some false))) : Option (Bool)).bind fun u5 => (some u5))
set_option maxRecDepth 100000 in
set_option maxHeartbeats 0 in
theorem impl_isBlock_t (w0 : World) (x0 : S_Block) (r : Bool) (H : impl_isBlock.f x0 = some r) :
    Calls Try.prog 85 #[.agg #[.int .i64 x0.Id, .int .i64 x0.Leaf, .int .i64 x0.Value]] w0 (Ret (fun v w => v = .bool r ∧ Sat [] w0 w [] [])) := by
  have hs : Sat [] w0 w0 [] [] := Sat.init w0 [] [] (by simp) (by simp) List.nodup_nil (by simp [blks])
  unfold impl_isBlock.f at H
  refine enter Try.func85 rfl Try.ntmps85 rfl fun a hk => ?_
  apply wp_seq_k; intro K1 hK1
  apply wp_region_lit
  refine sbx 1 hs rfl hk rfl rfl rfl rfl fun b2 w a hk hs => ?_
  refine sa _ rfl hk rfl rfl rfl fun a hk => ?_
  show wpList _ _ _ [] _ _
  refine wpList_nil ?_
  refine hK1 _ _ ?_
  apply wp_seq_k; intro K3 hK3
  obtain ⟨o6, h7, HL8⟩ := bind_some H
  clear H
  obtain ⟨R9, hR9⟩ : ∃ R : Act → World → Prop, R = fun a w => ∃ (u5 : Bool), u5 = o6 ∧ Kn [(2, (.bool u5))] 16 a ∧ Sat [] w0 w [] [] := ⟨_, rfl⟩
  refine wp_cutq R9 ?_ ?_
  ·have H := h7
   apply wp_region_lit
   refine sf ⟨b2, 0, none⟩ rfl hk rfl rfl rfl fd102_0 rfl fun a hk => ?_
   refine sl rfl hk rfl rfl rfl ag3 (box_cell hs (k := 1) rfl rfl) fun a hk => ?_
   obtain ⟨y10, h11, H⟩ := bind_some H
   refine sc rfl en63 hk rfl rfl rfl (impl_isId_t _ x0.Id _ h11) ?_
   rintro _ w ⟨rfl, hG⟩ a hk
   have hs := hs.call0 hG
   refine sm _ rfl hk rfl rfl rfl fun a hk => ?_
   rcases cond_some H with ⟨c12, H⟩ | ⟨c12, H⟩
   ·have hk := hk.lit 6 c12 rfl
    refine sf ⟨b2, 1, none⟩ rfl hk rfl rfl rfl fd102_1 rfl fun a hk => ?_
    refine sl rfl hk rfl rfl rfl ag3 (box_cell hs (k := 1) rfl rfl) fun a hk => ?_
    obtain ⟨y13, h14, H⟩ := bind_some H
    refine sc rfl en64 hk rfl rfl rfl (impl_isLeaf_t _ x0.Leaf _ h14) ?_
    rintro _ w ⟨rfl, hG⟩ a hk
    have hs := hs.call0 hG
    refine sv (.bool y13) hk rfl rfl rfl fun a hk => ?_
    refine sm _ rfl hk rfl rfl rfl fun a hk => ?_
    rcases cond_some H with ⟨c15, H⟩ | ⟨c15, H⟩
    ·have hk := hk.lit 11 c15 rfl
     refine sf ⟨b2, 2, none⟩ rfl hk rfl rfl rfl fd102_2 rfl fun a hk => ?_
     refine sl rfl hk rfl rfl rfl ag3 (box_cell hs (k := 1) rfl rfl) fun a hk => ?_
     obtain ⟨y16, h17, H⟩ := bind_some H
     refine sc rfl en65 hk rfl rfl rfl (impl_isValue_t _ x0.Value _ h17) ?_
     rintro _ w ⟨rfl, hG⟩ a hk
     have hs := hs.call0 hG
     refine sv (.bool y16) hk rfl rfl rfl fun a hk => ?_
     refine sa _ rfl hk rfl rfl rfl fun a hk => ?_
     show wpList _ _ _ [] _ _
     refine wpList_nil ?_
     obtain rfl := Option.some.inj H
     show R9 _ _
     rw [hR9]
     exact ⟨y16, rfl, (hk.c 2 rfl hk.k), (hs.pick [] rfl)⟩
    ·have hk := hk.lit 11 c15 rfl
     refine sk hk rfl rfl rfl fun a hk => ?_
     refine sk hk rfl rfl rfl fun a hk => ?_
     refine sk hk rfl rfl rfl fun a hk => ?_
     refine sv (.bool false) hk rfl rfl rfl fun a hk => ?_
     refine sa _ rfl hk rfl rfl rfl fun a hk => ?_
     show wpList _ _ _ [] _ _
     refine wpList_nil ?_
     obtain rfl := Option.some.inj H
     show R9 _ _
     rw [hR9]
     exact ⟨false, rfl, (hk.c 2 rfl hk.k), (hs.pick [] rfl)⟩
   ·have hk := hk.lit 6 c12 rfl
    refine sk hk rfl rfl rfl fun a hk => ?_
    refine sk hk rfl rfl rfl fun a hk => ?_
    refine sk hk rfl rfl rfl fun a hk => ?_
    refine sv (.bool false) hk rfl rfl rfl fun a hk => ?_
    refine sm _ rfl hk rfl rfl rfl fun a hk => ?_
    refine sk hk rfl rfl rfl fun a hk => ?_
    refine sk hk rfl rfl rfl fun a hk => ?_
    refine sk hk rfl rfl rfl fun a hk => ?_
    refine sv (.bool false) hk rfl rfl rfl fun a hk => ?_
    refine sa _ rfl hk rfl rfl rfl fun a hk => ?_
    show wpList _ _ _ [] _ _
    refine wpList_nil ?_
    obtain rfl := Option.some.inj H
    show R9 _ _
    rw [hR9]
    exact ⟨false, rfl, (hk.c 2 rfl hk.k), (hs.pick [] rfl)⟩
  ·intro a w hR0
   rw [hR9] at hR0
   obtain ⟨u5, rfl, hk, hs⟩ := hR0
   have H := HL8
   try dsimp only at H
   refine hK3 _ _ ?_
   refine wp_ret ?_
   obtain rfl := Option.some.inj H
   exact fin hk _ [(.bool u5)] rfl ⟨rfl, trivial⟩ ⟨rfl, (hs.pick [] rfl).dnil⟩

noncomputable def impl_OramOK.s0 (x0 : S_Oram) (u21 : Int) : Option ((Int) ⊕ Ex (Unit) (Bool)) :=
  (bif (decide (u21 < (x0.Buckets.length : Int))) then (if 0 ≤ u21 ∧ u21 < (x0.Buckets.length : Int) then (((bif (decide (((x0.Buckets.getD u21.toNat []).length : Int) > 2)) then (some true) else ((impl_areAll_impl_Block.f (x0.Buckets.getD u21.toNat []) (fun z0 => impl_OramOK_c1.f z0 u21)).bind fun y51 => (some (!y51)))) : Option (Bool)).bind fun u45 => (bif u45 then (some (.inr (.ret false))) else (some (.inl (w64 (u21 + 1)))))) else none) else (some (.inr (.out ()))))
noncomputable def impl_OramOK.s1 (x0 : S_Oram) (y63 : (List S_Block)) (u71 : List Bool) (u75 : Int) : Option (((List Bool) × Int) ⊕ Ex (Unit) (Bool)) :=
  (bif (decide (u75 < (y63.length : Int))) then (if 0 ≤ u75 ∧ u75 < (y63.length : Int) then ((((impl_isBlock.f (y63.getD u75.toNat z_Block)).bind fun y102 => (bif (!y102) then (some true) else (if 0 ≤ ((y63.getD u75.toNat z_Block).Id) ∧ ((y63.getD u75.toNat z_Block).Id) < (x0.Pos.length : Int) then (bif (((y63.getD u75.toNat z_Block).Leaf) != (x0.Pos.getD ((y63.getD u75.toNat z_Block).Id).toNat 0)) then (some true) else (if 0 ≤ ((y63.getD u75.toNat z_Block).Id) ∧ ((y63.getD u75.toNat z_Block).Id) < (12 : Int) then (some (u71.getD ((y63.getD u75.toNat z_Block).Id).toNat false)) else none)) else none))) : Option (Bool)).bind fun u97 => (bif u97 then (some (.inr (.ret false))) else (if 0 ≤ ((y63.getD u75.toNat z_Block).Id) ∧ ((y63.getD u75.toNat z_Block).Id) < (12 : Int) then (some (.inl ((u71.set ((y63.getD u75.toNat z_Block).Id).toNat true), (w64 (u75 + 1))))) else none))) else none) else (some (.inr (.out ()))))
noncomputable def impl_OramOK.f (x0 : S_Oram) : Option (Bool) :=
  (((bif ((x0.Pos.length : Int) != 12) then (some true) else ((impl_areAll_int.f x0.Pos impl_isLeaf.f).bind fun y12 => (bif (!y12) then (some true) else (some ((x0.Buckets.length : Int) != 15))))) : Option (Bool)).bind fun u6 => (bif u6 then (some false) else ((loopO (fun s => impl_OramOK.s0 x0 s) 0).bind fun o => match o with | .out _ => ((impl_Oram_all.f x0).bind fun y63 => ((loopO (fun s => impl_OramOK.s1 x0 y63 s.1 s.2) ((List.replicate 12 (false : Bool)), 0)).bind fun o => match o with | .out _ => (some true) | .ret r => (some r))) | .ret r => (some r))))
set_option maxRecDepth 100000 in
set_option maxHeartbeats 0 in
theorem impl_OramOK_t (w0 : World) (x0 : S_Oram) (A0_0 : Option Addr) (p0_0 : Nat) (k0_0 : Chunk) (v0_0 : View (Lay.int .i64) A0_0 p0_0 x0.Pos k0_0) (w0_0 : Has w0 k0_0) (A0_1 : Option Addr) (p0_1 : Nat) (k0_1 : Chunk) (v0_1 : View L_Block A0_1 p0_1 x0.Stash k0_1) (w0_1 : Has w0 k0_1) (A0_2 : Option Addr) (p0_2 : Nat) (k0_2 : Chunk) (v0_2 : View (Lay.sl L_Block 102) A0_2 p0_2 x0.Buckets k0_2) (w0_2 : Has w0 k0_2) (r : Bool) (H : impl_OramOK.f x0 = some r) :
    Calls Try.prog 19 #[.agg #[.slice A0_0 x0.Pos.length p0_0, .slice A0_1 x0.Stash.length p0_1, .slice A0_2 x0.Buckets.length p0_2]] w0 (Ret (fun v w => v = .bool r ∧ Sat [] w0 w [] [])) := by
  have hs : Sat [] w0 w0 [(1, k0_0), (2, k0_1), (3, k0_2)] [] := Sat.init w0 [(1, k0_0), (2, k0_1), (3, k0_2)] [] (by simp only [List.mem_cons, List.not_mem_nil, or_false]; rintro x (rfl | rfl | rfl) <;> assumption) (by simp) List.nodup_nil (by simp [blks])
  unfold impl_OramOK.f at H
  refine enter Try.func19 rfl Try.ntmps19 rfl fun a hk => ?_
  apply wp_seq_k; intro K1 hK1
  apply wp_region_lit
  refine sbx 4 hs rfl hk rfl rfl rfl rfl fun b2 w a hk hs => ?_
  refine sa _ rfl hk rfl rfl rfl fun a hk => ?_
  show wpList _ _ _ [] _ _
  refine wpList_nil ?_
  refine hK1 _ _ ?_
  apply wp_seq_k; intro K3 hK3
  apply wp_seq_k; intro K4 hK4
  obtain ⟨o7, h8, HL9⟩ := bind_some H
  clear H
  obtain ⟨R10, hR10⟩ : ∃ R : Act → World → Prop, R = fun a w => ∃ (u6 : Bool), u6 = o7 ∧ Kn [(1, (.pointer (some ⟨b2, 0, none⟩))), (23, (.bool u6))] 73 a ∧ Sat [] w0 w [(1, k0_0), (2, k0_1), (3, k0_2)] [(4, [(b2, .cells #[.slice A0_0 x0.Pos.length p0_0, .slice A0_1 x0.Stash.length p0_1, .slice A0_2 x0.Buckets.length p0_2] 31 (0, 0))])] := ⟨_, rfl⟩
  refine wp_cutq R10 ?_ ?_
  ·have H := h8
   apply wp_region_lit
   refine sf ⟨b2, 0, none⟩ rfl hk rfl rfl rfl fd31_0 rfl fun a hk => ?_
   refine sl rfl hk rfl rfl rfl ag22 (box_cell hs (k := 4) rfl rfl) fun a hk => ?_
   refine sle rfl hk rfl rfl rfl un22 fun a hk => ?_
   refine sv (.bool ((x0.Pos.length : Int) != 12)) hk rfl rfl rfl fun a hk => ?_
   refine sm _ rfl hk rfl rfl rfl fun a hk => ?_
   rcases cond_some H with ⟨c11, H⟩ | ⟨c11, H⟩
   ·have hk := hk.lit 12 c11 rfl
    refine sk hk rfl rfl rfl fun a hk => ?_
    refine sk hk rfl rfl rfl fun a hk => ?_
    refine sk hk rfl rfl rfl fun a hk => ?_
    refine sk hk rfl rfl rfl fun a hk => ?_
    refine sv (.bool true) hk rfl rfl rfl fun a hk => ?_
    refine sm _ rfl hk rfl rfl rfl fun a hk => ?_
    refine sk hk rfl rfl rfl fun a hk => ?_
    refine sk hk rfl rfl rfl fun a hk => ?_
    refine sk hk rfl rfl rfl fun a hk => ?_
    refine sk hk rfl rfl rfl fun a hk => ?_
    refine sv (.bool true) hk rfl rfl rfl fun a hk => ?_
    show wpList _ _ _ [] _ _
    refine wpList_nil ?_
    obtain rfl := Option.some.inj H
    show R10 _ _
    rw [hR10]
    exact ⟨true, rfl, (hk.c 1 rfl (hk.c 23 rfl hk.k)), (hs.pick [(4, 4)] rfl)⟩
   ·have hk := hk.lit 12 c11 rfl
    refine sf ⟨b2, 0, none⟩ rfl hk rfl rfl rfl fd31_0 rfl fun a hk => ?_
    refine sl rfl hk rfl rfl rfl ag22 (box_cell hs (k := 4) rfl rfl) fun a hk => ?_
    obtain ⟨y12, h13, H⟩ := bind_some H
    refine sc rfl en80 hk rfl rfl rfl (impl_areAll_int_t _ A0_0 p0_0 x0.Pos _ v0_0 (hs.hasD (k := 1) rfl) 64 [] en64 impl_isLeaf.f [] (fun w _ z0 r h => impl_isLeaf_t w z0 r h) (Has.nil _) _ h13) ?_
    rintro _ w ⟨rfl, hG⟩ a hk
    have hs := hs.call0 hG
    refine sv (.bool (!y12)) hk rfl rfl rfl fun a hk => ?_
    refine sv (.bool (!y12)) hk rfl rfl rfl fun a hk => ?_
    refine sm _ rfl hk rfl rfl rfl fun a hk => ?_
    rcases cond_some H with ⟨c14, H⟩ | ⟨c14, H⟩
    ·have hk := hk.lit 18 c14 rfl
     refine sk hk rfl rfl rfl fun a hk => ?_
     refine sk hk rfl rfl rfl fun a hk => ?_
     refine sk hk rfl rfl rfl fun a hk => ?_
     refine sk hk rfl rfl rfl fun a hk => ?_
     refine sv (.bool true) hk rfl rfl rfl fun a hk => ?_
     show wpList _ _ _ [] _ _
     refine wpList_nil ?_
     obtain rfl := Option.some.inj H
     show R10 _ _
     rw [hR10]
     exact ⟨true, rfl, (hk.c 1 rfl (hk.c 23 rfl hk.k)), (hs.pick [(4, 4)] rfl)⟩
    ·have hk := hk.lit 18 c14 rfl
     refine sf ⟨b2, 2, none⟩ rfl hk rfl rfl rfl fd31_2 rfl fun a hk => ?_
     refine sl rfl hk rfl rfl rfl ag29 (box_cell hs (k := 4) rfl rfl) fun a hk => ?_
     refine sle rfl hk rfl rfl rfl un29 fun a hk => ?_
     refine sv (.bool ((x0.Buckets.length : Int) != 15)) hk rfl rfl rfl fun a hk => ?_
     refine sv (.bool ((x0.Buckets.length : Int) != 15)) hk rfl rfl rfl fun a hk => ?_
     show wpList _ _ _ [] _ _
     refine wpList_nil ?_
     obtain rfl := Option.some.inj H
     show R10 _ _
     rw [hR10]
     exact ⟨((x0.Buckets.length : Int) != 15), rfl, (hk.c 1 rfl (hk.c 23 rfl hk.k)), (hs.pick [(4, 4)] rfl)⟩
  ·intro a w hR0
   rw [hR10] at hR0
   obtain ⟨u6, rfl, hk, hs⟩ := hR0
   have H := HL9
   try dsimp only at H
   refine hK4 _ _ ?_
   rcases cond_some H with ⟨c15, H⟩ | ⟨c15, H⟩
   ·have hk := hk.lit 23 c15 rfl
    refine cnd_true hk rfl rfl ?_
    apply wp_seq_k; intro K16 hK16
    apply wp_region_lit
    refine sa _ rfl hk rfl rfl rfl fun a hk => ?_
    show wpList _ _ _ [] _ _
    refine wpList_nil ?_
    refine hK16 _ _ ?_
    refine wp_ret ?_
    obtain rfl := Option.some.inj H
    exact fin hk _ [(.bool false)] rfl ⟨rfl, trivial⟩ ⟨rfl, (hs.pick [] rfl).dnil⟩
   ·have hk := hk.lit 23 c15 rfl
    refine cnd_false hk rfl rfl ?_
    refine wp_skip ?_
    refine hK3 _ _ ?_
    apply wp_seq_k; intro K17 hK17
    apply wp_seq_k; intro K18 hK18
    apply wp_region_lit
    refine sf ⟨b2, 2, none⟩ rfl hk rfl rfl rfl fd31_2 rfl fun a hk => ?_
    refine sl rfl hk rfl rfl rfl ag29 (box_cell hs (k := 4) rfl rfl) fun a hk => ?_
    refine sle rfl hk rfl rfl rfl un29 fun a hk => ?_
    refine sm _ rfl hk rfl rfl rfl fun a hk => ?_
    show wpList _ _ _ [] _ _
    refine wpList_nil ?_
    refine hK18 _ _ ?_
    have hs := hs.pick [(4, 4)] rfl
    obtain ⟨o22, h23, HL24⟩ := bind_some H
    clear H
    obtain ⟨R25, hR25⟩ : ∃ R : Act → World → Prop, R = fun a w => o22 = .out () ∧ Kn [(1, (.pointer (some ⟨b2, 0, none⟩)))] 73 a ∧ Sat [] w0 w [(1, k0_0), (2, k0_1), (3, k0_2)] [(4, [(b2, .cells #[.slice A0_0 x0.Pos.length p0_0, .slice A0_1 x0.Stash.length p0_1, .slice A0_2 x0.Buckets.length p0_2] 31 (0, 0))])] := ⟨_, rfl⟩
    refine wp_cutq R25 ?_ ?_
    ·refine wp_block ?_
     obtain ⟨fu27, h23⟩ := loopO_some h23
     obtain ⟨I26, hI26⟩ : ∃ I : Nat → Act → World → Prop, I = fun fu a w => ∃ (u21 : Int), loopN (fun s => impl_OramOK.s0 x0 s) fu u21 = some o22 ∧ Kn [(1, (.pointer (some ⟨b2, 0, none⟩))), (25, (.slice A0_2 x0.Buckets.length p0_2)), (26, (.int .i64 (x0.Buckets.length : Int))), (27, (.int .i64 u21))] 73 a ∧ Sat [] w0 w [(1, k0_0), (2, k0_1), (3, k0_2)] [(4, [(b2, .cells #[.slice A0_0 x0.Pos.length p0_0, .slice A0_1 x0.Stash.length p0_1, .slice A0_2 x0.Buckets.length p0_2] 31 (0, 0))])] := ⟨_, rfl⟩
     refine wp_loop_ghost I26 fu27 ?_ ?_
     ·rw [hI26]
      exact ⟨0, h23, (hk.c 1 rfl (hk.c 25 rfl (hk.c 26 rfl (hk.c 27 rfl hk.k)))), (hs.pick [(4, 4)] rfl)⟩
     ·clear h23 hk hs
      intro fu27 a w hI0
      rw [hI26] at hI0
      obtain ⟨u21, hi, hk, hs⟩ := hI0
      obtain ⟨x28, H, h29⟩ := loop_round hi
      try dsimp only at H
      unfold impl_OramOK.s0 at H
      apply wp_seq_k; intro K30 hK30
      apply wp_region_lit
      refine sv (.bool (decide (u21 < (x0.Buckets.length : Int)))) hk rfl rfl rfl fun a hk => ?_
      show wpList _ _ _ [] _ _
      refine wpList_nil ?_
      refine hK30 _ _ ?_
      apply wp_seq_k; intro K31 hK31
      rcases cond_some H with ⟨c32, H⟩ | ⟨c32, H⟩
      ·have hk := hk.lit 28 c32 rfl
       refine cnd_true hk rfl rfl ?_
       refine wp_skip ?_
       refine hK31 _ _ ?_
       apply wp_seq_k; intro K33 hK33
       refine wp_block ?_
       apply wp_seq_k; intro K34 hK34
       apply wp_region_lit
       refine sm _ rfl hk rfl rfl rfl fun a hk => ?_
       rcases ite_some H with ⟨c35, H⟩ | ⟨_, H⟩
       rotate_left
       ·cases H
       obtain ⟨b36, q37, hAc35⟩ := (v0_2).some_ u21 c35.1 c35.2
       refine si rfl hk rfl rfl rfl rfl un29 sz28 c35.1 c35.2 hAc35 fun a hk => ?_
       obtain ⟨_, ⟨_, rfl, A39, p40, rfl, v41⟩, e38⟩ := (v0_2).at_ [] u21 c35.1 c35.2
       refine sl (v := (.slice A39 (x0.Buckets.getD u21.toNat []).length p40)) rfl hk rfl rfl rfl ag28 ((e38 0 _ rfl).cell (hs.hasD (k := 3) rfl)) fun a hk => ?_
       refine salx 7 hs rfl hk rfl rfl ze3 rfl fun b42 w a hk hs => ?_
       refine ssx (cs' := #[.int .i64 u21]) 7 hs rfl rfl hk rfl rfl rfl rfl sz3 rfl rfl rfl rfl fun w a hk hs => ?_
       refine sa _ rfl hk rfl rfl rfl fun a hk => ?_
       show wpList _ _ _ [] _ _
       refine wpList_nil ?_
       refine hK34 _ _ ?_
       apply wp_seq_k; intro K43 hK43
       obtain ⟨o46, h47, HL48⟩ := bind_some H
       clear H
       obtain ⟨R49, hR49⟩ : ∃ R : Act → World → Prop, R = fun a w => ∃ (u45 : Bool), u45 = o46 ∧ Kn [(1, (.pointer (some ⟨b2, 0, none⟩))), (25, (.slice A0_2 x0.Buckets.length p0_2)), (26, (.int .i64 (x0.Buckets.length : Int))), (27, (.int .i64 u21)), (40, (.bool u45))] 73 a ∧ Sat [] w0 w [(1, k0_0), (2, k0_1), (3, k0_2)] [(4, [(b2, .cells #[.slice A0_0 x0.Pos.length p0_0, .slice A0_1 x0.Stash.length p0_1, .slice A0_2 x0.Buckets.length p0_2] 31 (0, 0))])] := ⟨_, rfl⟩
       refine wp_cutq R49 ?_ ?_
       ·have H := h47
        apply wp_region_lit
        refine sm _ rfl hk rfl rfl rfl fun a hk => ?_
        refine sle rfl hk rfl rfl rfl un28 fun a hk => ?_
        refine sv (.bool (decide (((x0.Buckets.getD u21.toNat []).length : Int) > 2))) hk rfl rfl rfl fun a hk => ?_
        refine sm _ rfl hk rfl rfl rfl fun a hk => ?_
        rcases cond_some H with ⟨c50, H⟩ | ⟨c50, H⟩
        ·have hk := hk.lit 35 c50 rfl
         refine sk hk rfl rfl rfl fun a hk => ?_
         refine sk hk rfl rfl rfl fun a hk => ?_
         refine sk hk rfl rfl rfl fun a hk => ?_
         refine sk hk rfl rfl rfl fun a hk => ?_
         refine sv (.bool true) hk rfl rfl rfl fun a hk => ?_
         show wpList _ _ _ [] _ _
         refine wpList_nil ?_
         obtain rfl := Option.some.inj H
         show R49 _ _
         rw [hR49]
         exact ⟨true, rfl, (hk.c 1 rfl (hk.c 25 rfl (hk.c 26 rfl (hk.c 27 rfl (hk.c 40 rfl hk.k))))), (hs.pick [(4, 4)] rfl)⟩
        ·have hk := hk.lit 35 c50 rfl
         refine sm _ rfl hk rfl rfl rfl fun a hk => ?_
         refine smf (cs := [.pointer (some ⟨b42, 0, none⟩)]) rfl hk rfl rfl rfl fun a hk => ?_
         obtain ⟨y51, h52, H⟩ := bind_some H
         refine sc rfl en81 hk rfl rfl rfl (impl_areAll_impl_Block_t _ A39 p40 (x0.Buckets.getD u21.toNat []) _ v41 (hs.hasD (k := 3) rfl) 82 [.pointer (some ⟨b42, 0, none⟩)] en82 (fun z0 => impl_OramOK_c1.f z0 u21) [(b42, .cells #[.int .i64 u21] 3 (0, 0))] (fun w hz z0 r h => impl_OramOK_c1_t w z0 _ u21 hz r h) (hs.hasG (k := 7) rfl) _ h52) ?_
         rintro _ w ⟨rfl, hG⟩ a hk
         have hs := hs.call0 hG
         refine sv (.bool (!y51)) hk rfl rfl rfl fun a hk => ?_
         refine sv (.bool (!y51)) hk rfl rfl rfl fun a hk => ?_
         show wpList _ _ _ [] _ _
         refine wpList_nil ?_
         obtain rfl := Option.some.inj H
         show R49 _ _
         rw [hR49]
         exact ⟨(!y51), rfl, (hk.c 1 rfl (hk.c 25 rfl (hk.c 26 rfl (hk.c 27 rfl (hk.c 40 rfl hk.k))))), (hs.pick [(4, 4)] rfl)⟩
       ·intro a w hR0
        rw [hR49] at hR0
        obtain ⟨u45, rfl, hk, hs⟩ := hR0
        have H := HL48
        try dsimp only at H
        refine hK43 _ _ ?_
        have hs := hs.pick [(4, 4)] rfl
        rcases cond_some H with ⟨c53, H⟩ | ⟨c53, H⟩
        ·have hk := hk.lit 40 c53 rfl
         refine cnd_true hk rfl rfl ?_
         apply wp_seq_k; intro K54 hK54
         apply wp_region_lit
         refine sa _ rfl hk rfl rfl rfl fun a hk => ?_
         show wpList _ _ _ [] _ _
         refine wpList_nil ?_
         refine hK54 _ _ ?_
         refine wp_ret ?_
         obtain rfl := Option.some.inj H
         have ho22 := h29
         try dsimp only at ho22
         subst ho22
         have H := HL24
         try dsimp only at H
         obtain rfl := Option.some.inj H
         exact fin hk _ [(.bool false)] rfl ⟨rfl, trivial⟩ ⟨rfl, (hs.pick [] rfl).dnil⟩
        ·have hk := hk.lit 40 c53 rfl
         refine cnd_false hk rfl rfl ?_
         refine wp_skip ?_
         refine hK33 _ _ ?_
         apply wp_region_lit
         refine sv (.int .i64 (w64 (u21 + 1))) hk rfl rfl rfl fun a hk => ?_
         refine sm _ rfl hk rfl rfl rfl fun a hk => ?_
         show wpList _ _ _ [] _ _
         refine wpList_nil ?_
         obtain rfl := Option.some.inj H
         obtain ⟨m55, hmm55, h29⟩ := h29
         show ∃ n', n' < _ ∧ I26 n' _ _
         refine ⟨m55, hmm55, ?_⟩
         rw [hI26]
         exact ⟨(w64 (u21 + 1)), h29, (hk.c 1 rfl (hk.c 25 rfl (hk.c 26 rfl (hk.c 27 rfl hk.k)))), (hs.pick [(4, 4)] rfl)⟩
      ·have hk := hk.lit 28 c32 rfl
       refine cnd_false hk rfl rfl ?_
       refine wp_exit ?_
       obtain rfl := Option.some.inj H
       show R25 _ _
       rw [hR25]
       exact ⟨h29.symm, (hk.c 1 rfl hk.k), (hs.pick [(4, 4)] rfl)⟩
    ·intro a w hR0
     rw [hR25] at hR0
     obtain ⟨rfl, hk, hs⟩ := hR0
     have H := HL24
     try dsimp only at H
     refine hK17 _ _ ?_
     apply wp_seq_k; intro K56 hK56
     apply wp_region_lit
     refine sala 9 (Lay.bool) (m := 12) (z := false) (zc := [.bool false]) hs rfl hk rfl rfl ze105 (by exact ⟨rfl, rfl⟩) rfl rfl rfl fun b57 k58 w a hk o59 hs => ?_
     have lh60 : (List.replicate 12 (false : Bool)).length = 12 := List.length_replicate
     show wpList _ _ _ [] _ _
     refine wpList_nil ?_
     refine hK56 _ _ ?_
     apply wp_seq_k; intro K61 hK61
     apply wp_seq_k; intro K62 hK62
     apply wp_region_lit
     refine sln [.slice A0_0 x0.Pos.length p0_0, .slice A0_1 x0.Stash.length p0_1, .slice A0_2 x0.Buckets.length p0_2] rfl hk rfl rfl rfl ag31 sz31 (box_cells hs (k := 4) rfl) fun a hk => ?_
     obtain ⟨y63, h64, H⟩ := bind_some H
     refine sc rfl en84 hk rfl rfl rfl (impl_Oram_all_t _ x0 A0_0 p0_0 _ v0_0 (hs.hasD (k := 1) rfl) A0_1 p0_1 _ v0_1 (hs.hasD (k := 2) rfl) A0_2 p0_2 _ v0_2 (hs.hasD (k := 3) rfl) _ h64) ?_
     rintro _ w ⟨A65, p66, k67, rfl, o68, hG⟩ a hk
     have hs := hs.call0k hG [10] rfl
     refine sle rfl hk rfl rfl rfl un28 fun a hk => ?_
     refine sm _ rfl hk rfl rfl rfl fun a hk => ?_
     show wpList _ _ _ [] _ _
     refine wpList_nil ?_
     refine hK62 _ _ ?_
     obtain ⟨o76, h77, HL78⟩ := bind_some H
     clear H
     obtain ⟨R79, hR79⟩ : ∃ R : Act → World → Prop, R = fun a w => o76 = .out () ∧ Kn [] 73 a ∧ Sat [] w0 w [(1, k0_0), (2, k0_1), (3, k0_2)] [] := ⟨_, rfl⟩
     refine wp_cutq R79 ?_ ?_
     ·refine wp_block ?_
      obtain ⟨fu81, h77⟩ := loopO_some h77
      obtain ⟨I80, hI80⟩ : ∃ I : Nat → Act → World → Prop, I = fun fu a w => ∃ (u71 : List Bool) (u75 : Int) (k72 : Chunk), loopN (fun s => impl_OramOK.s1 x0 y63 s.1 s.2) fu (u71, u75) = some o76 ∧ Kn [(1, (.pointer (some ⟨b2, 0, none⟩))), (5, (.pointer (some ⟨b57, 0, none⟩))), (43, (.slice A65 y63.length p66)), (44, (.int .i64 (y63.length : Int))), (45, (.int .i64 u75))] 73 a ∧ Sat [] w0 w [(1, k0_0), (2, k0_1), (3, k0_2)] [(9, k72), (10, k67), (4, [(b2, .cells #[.slice A0_0 x0.Pos.length p0_0, .slice A0_1 x0.Stash.length p0_1, .slice A0_2 x0.Buckets.length p0_2] 31 (0, 0))])] ∧ Own Lay.bool 105 (some ⟨b57, 0, none⟩) 12 u71 k72 ∧ u71.length = 12 := ⟨_, rfl⟩
      refine wp_loop_ghost I80 fu81 ?_ ?_
      ·rw [hI80]
       exact ⟨(List.replicate 12 (false : Bool)), 0, _, h77, (hk.c 1 rfl (hk.c 5 rfl (hk.c 43 rfl (hk.c 44 rfl (hk.c 45 rfl hk.k))))), (hs.pick [(9, 9), (10, 10), (4, 4)] rfl), o59, lh60⟩
      ·clear h77 hk hs
       intro fu81 a w hI0
       rw [hI80] at hI0
       obtain ⟨u71, u75, k72, hi, hk, hs, o73, lh74⟩ := hI0
       obtain ⟨x82, H, h83⟩ := loop_round hi
       try dsimp only at H
       unfold impl_OramOK.s1 at H
       apply wp_seq_k; intro K84 hK84
       apply wp_region_lit
       refine sv (.bool (decide (u75 < (y63.length : Int)))) hk rfl rfl rfl fun a hk => ?_
       show wpList _ _ _ [] _ _
       refine wpList_nil ?_
       refine hK84 _ _ ?_
       have hs := hs.pick [(9, 9), (10, 10), (4, 4)] rfl
       apply wp_seq_k; intro K85 hK85
       rcases cond_some H with ⟨c86, H⟩ | ⟨c86, H⟩
       ·have hk := hk.lit 46 c86 rfl
        refine cnd_true hk rfl rfl ?_
        refine wp_skip ?_
        refine hK85 _ _ ?_
        apply wp_seq_k; intro K87 hK87
        refine wp_block ?_
        apply wp_seq_k; intro K88 hK88
        apply wp_region_lit
        rcases ite_some H with ⟨c89, H⟩ | ⟨_, H⟩
        rotate_left
        ·cases H
        obtain ⟨b90, q91, hAc89⟩ := (o68.view).some_ u75 c89.1 c89.2
        refine si rfl hk rfl rfl rfl rfl un28 sz102 c89.1 c89.2 hAc89 fun a hk => ?_
        obtain ⟨_, rfl, e92⟩ := (o68.view).at_ z_Block u75 c89.1 c89.2
        refine sln [.int .i64 ((y63.getD u75.toNat z_Block).Id), .int .i64 ((y63.getD u75.toNat z_Block).Leaf), .int .i64 ((y63.getD u75.toNat z_Block).Value)] rfl hk rfl rfl rfl ag102 sz102 (cells_at e92 (hs.hasG (k := 10) rfl)) fun a hk => ?_
        refine salx 12 hs rfl hk rfl rfl ze102 rfl fun b93 w a hk hs => ?_
        refine ssw 12 hs rfl rfl hk rfl rfl rfl rfl sz102 (by simp [Value.oneCell']) rfl fun w a hk hs => ?_
        show wpList _ _ _ [] _ _
        refine wpList_nil ?_
        refine hK88 _ _ ?_
        apply wp_seq_k; intro K94 hK94
        apply wp_seq_k; intro K95 hK95
        obtain ⟨o98, h99, HL100⟩ := bind_some H
        clear H
        obtain ⟨R101, hR101⟩ : ∃ R : Act → World → Prop, R = fun a w => ∃ (u97 : Bool), u97 = o98 ∧ Kn [(1, (.pointer (some ⟨b2, 0, none⟩))), (5, (.pointer (some ⟨b57, 0, none⟩))), (7, (.pointer (some ⟨b93, 0, none⟩))), (43, (.slice A65 y63.length p66)), (44, (.int .i64 (y63.length : Int))), (45, (.int .i64 u75)), (68, (.bool u97))] 73 a ∧ Sat [] w0 w [(1, k0_0), (2, k0_1), (3, k0_2)] [(9, k72), (10, k67), (4, [(b2, .cells #[.slice A0_0 x0.Pos.length p0_0, .slice A0_1 x0.Stash.length p0_1, .slice A0_2 x0.Buckets.length p0_2] 31 (0, 0))]), (12, [(b93, .cells #[.int .i64 ((y63.getD u75.toNat z_Block).Id), .int .i64 ((y63.getD u75.toNat z_Block).Leaf), .int .i64 ((y63.getD u75.toNat z_Block).Value)] 102 (0, 0))])] := ⟨_, rfl⟩
        refine wp_cutq R101 ?_ ?_
        ·have H := h99
         refine wp_region_mix [(0, true), (1, true), (2, true), (3, true), (4, true), (5, true), (6, true), (7, true), (8, true), (9, true), (10, true), (11, true), (12, true), (13, true), (14, true), (15, true), (16, true), (17, true), (18, true), (19, true)] mo (by kernel_rfl) hs fun _ => ?_
         have hs := hs.drew
         refine qst (.agg #[.int .i64 ((y63.getD u75.toNat z_Block).Id), .int .i64 ((y63.getD u75.toNat z_Block).Leaf), .int .i64 ((y63.getD u75.toNat z_Block).Value)]) hk rfl rfl rfl rfl (fun w hs => sln [.int .i64 ((y63.getD u75.toNat z_Block).Id), .int .i64 ((y63.getD u75.toNat z_Block).Leaf), .int .i64 ((y63.getD u75.toNat z_Block).Value)] rfl hk rfl rfl rfl ag102 sz102 (box_cells hs (k := 12) rfl) fun a hk => qe hk) fun a hk => ?_
         obtain ⟨y102, h103, H⟩ := bind_some H
         refine qst (.bool y102) hk rfl rfl rfl rfl (fun w hs => sc rfl en85 hk rfl rfl rfl (impl_isBlock_t _ (y63.getD u75.toNat z_Block) _ h103) fun _ w hR a hk => qc hR hk) fun a hk => ?_
         refine qst (.bool (!y102)) hk rfl rfl rfl rfl (fun w hs => sv (.bool (!y102)) hk rfl rfl rfl fun a hk => qe hk) fun a hk => ?_
         refine qst (.bool (!y102)) hk rfl rfl rfl rfl (fun w hs => sm _ rfl hk rfl rfl rfl fun a hk => qe hk) fun a hk => ?_
         rcases cond_some H with ⟨c104, H⟩ | ⟨c104, H⟩
         ·have hk := hk.lit 52 c104 rfl
          refine qsk hk rfl rfl rfl rfl fun a hk => ?_
          refine qsk hk rfl rfl rfl rfl fun a hk => ?_
          refine qsk hk rfl rfl rfl rfl fun a hk => ?_
          refine qsk hk rfl rfl rfl rfl fun a hk => ?_
          refine qsk hk rfl rfl rfl rfl fun a hk => ?_
          refine qsk hk rfl rfl rfl rfl fun a hk => ?_
          refine qsk hk rfl rfl rfl rfl fun a hk => ?_
          refine qsk hk rfl rfl rfl rfl fun a hk => ?_
          refine qsk hk rfl rfl rfl rfl fun a hk => ?_
          refine qst (.bool true) hk rfl rfl rfl rfl (fun w hs => sv (.bool true) hk rfl rfl rfl fun a hk => qe hk) fun a hk => ?_
          refine qst (.bool true) hk rfl rfl rfl rfl (fun w hs => sm _ rfl hk rfl rfl rfl fun a hk => qe hk) fun a hk => ?_
          refine qsk hk rfl rfl rfl rfl fun a hk => ?_
          refine qsk hk rfl rfl rfl rfl fun a hk => ?_
          refine qsk hk rfl rfl rfl rfl fun a hk => ?_
          refine qsk hk rfl rfl rfl rfl fun a hk => ?_
          refine qst (.bool true) hk rfl rfl rfl rfl (fun w hs => sv (.bool true) hk rfl rfl rfl fun a hk => qe hk) fun a hk => ?_
          refine wml_nil fun w hF _ => ?_
          have hs := hs.f hF
          obtain rfl := Option.some.inj H
          show R101 _ _
          rw [hR101]
          exact ⟨true, rfl, (hk.c 1 rfl (hk.c 5 rfl (hk.c 7 rfl (hk.c 43 rfl (hk.c 44 rfl (hk.c 45 rfl (hk.c 68 rfl hk.k))))))), (hs.pick [(9, 9), (10, 10), (4, 4), (12, 12)] rfl)⟩
         ·have hk := hk.lit 52 c104 rfl
          refine qst (.pointer (some ⟨b93, 1, none⟩)) hk rfl rfl rfl rfl (fun w hs => sf ⟨b93, 1, none⟩ rfl hk rfl rfl rfl fd102_1 rfl fun a hk => qe hk) fun a hk => ?_
          refine qst (.int .i64 ((y63.getD u75.toNat z_Block).Leaf)) hk rfl rfl rfl rfl (fun w hs => sl rfl hk rfl rfl rfl ag3 (box_cell hs (k := 12) rfl rfl) fun a hk => qe hk) fun a hk => ?_
          refine qst (.pointer (some ⟨b2, 0, none⟩)) hk rfl rfl rfl rfl (fun w hs => sf ⟨b2, 0, none⟩ rfl hk rfl rfl rfl fd31_0 rfl fun a hk => qe hk) fun a hk => ?_
          refine qst (.slice A0_0 x0.Pos.length p0_0) hk rfl rfl rfl rfl (fun w hs => sl rfl hk rfl rfl rfl ag22 (box_cell hs (k := 4) rfl rfl) fun a hk => qe hk) fun a hk => ?_
          refine qst (.pointer (some ⟨b93, 0, none⟩)) hk rfl rfl rfl rfl (fun w hs => sf ⟨b93, 0, none⟩ rfl hk rfl rfl rfl fd102_0 rfl fun a hk => qe hk) fun a hk => ?_
          refine qst (.int .i64 ((y63.getD u75.toNat z_Block).Id)) hk rfl rfl rfl rfl (fun w hs => sl rfl hk rfl rfl rfl ag3 (box_cell hs (k := 12) rfl rfl) fun a hk => qe hk) fun a hk => ?_
          rcases ite_some H with ⟨c105, H⟩ | ⟨_, H⟩
          rotate_left
          ·cases H
          obtain ⟨b106, q107, hAc105⟩ := (v0_0).some_ ((y63.getD u75.toNat z_Block).Id) c105.1 c105.2
          refine qst (.pointer (some (padd A0_0 (((y63.getD u75.toNat z_Block).Id).toNat * 1)))) hk rfl rfl rfl rfl (fun w hs => si rfl hk rfl rfl rfl rfl un22 sz3 c105.1 c105.2 hAc105 fun a hk => qe hk) fun a hk => ?_
          obtain ⟨_, rfl, e108⟩ := (v0_0).at_ 0 ((y63.getD u75.toNat z_Block).Id) c105.1 c105.2
          refine qst (.int .i64 (x0.Pos.getD ((y63.getD u75.toNat z_Block).Id).toNat 0)) hk rfl rfl rfl rfl (fun w hs => sl (v := (.int .i64 (x0.Pos.getD ((y63.getD u75.toNat z_Block).Id).toNat 0))) rfl hk rfl rfl rfl ag3 ((e108 0 _ rfl).cell (hs.hasD (k := 1) rfl)) fun a hk => qe hk) fun a hk => ?_
          refine qst (.bool (((y63.getD u75.toNat z_Block).Leaf) != (x0.Pos.getD ((y63.getD u75.toNat z_Block).Id).toNat 0))) hk rfl rfl rfl rfl (fun w hs => sv (.bool (((y63.getD u75.toNat z_Block).Leaf) != (x0.Pos.getD ((y63.getD u75.toNat z_Block).Id).toNat 0))) hk rfl rfl rfl fun a hk => qe hk) fun a hk => ?_
          refine qst (.bool (((y63.getD u75.toNat z_Block).Leaf) != (x0.Pos.getD ((y63.getD u75.toNat z_Block).Id).toNat 0))) hk rfl rfl rfl rfl (fun w hs => sv (.bool (((y63.getD u75.toNat z_Block).Leaf) != (x0.Pos.getD ((y63.getD u75.toNat z_Block).Id).toNat 0))) hk rfl rfl rfl fun a hk => qe hk) fun a hk => ?_
          refine qst (.bool (((y63.getD u75.toNat z_Block).Leaf) != (x0.Pos.getD ((y63.getD u75.toNat z_Block).Id).toNat 0))) hk rfl rfl rfl rfl (fun w hs => sm _ rfl hk rfl rfl rfl fun a hk => qe hk) fun a hk => ?_
          rcases cond_some H with ⟨c109, H⟩ | ⟨c109, H⟩
          ·have hk := hk.lit 63 c109 rfl
           refine qsk hk rfl rfl rfl rfl fun a hk => ?_
           refine qsk hk rfl rfl rfl rfl fun a hk => ?_
           refine qsk hk rfl rfl rfl rfl fun a hk => ?_
           refine qsk hk rfl rfl rfl rfl fun a hk => ?_
           refine qst (.bool true) hk rfl rfl rfl rfl (fun w hs => sv (.bool true) hk rfl rfl rfl fun a hk => qe hk) fun a hk => ?_
           refine wml_nil fun w hF _ => ?_
           have hs := hs.f hF
           obtain rfl := Option.some.inj H
           show R101 _ _
           rw [hR101]
           exact ⟨true, rfl, (hk.c 1 rfl (hk.c 5 rfl (hk.c 7 rfl (hk.c 43 rfl (hk.c 44 rfl (hk.c 45 rfl (hk.c 68 rfl hk.k))))))), (hs.pick [(9, 9), (10, 10), (4, 4), (12, 12)] rfl)⟩
          ·have hk := hk.lit 63 c109 rfl
           refine qst (.pointer (some ⟨b93, 0, none⟩)) hk rfl rfl rfl rfl (fun w hs => sf ⟨b93, 0, none⟩ rfl hk rfl rfl rfl fd102_0 rfl fun a hk => qe hk) fun a hk => ?_
           refine qst (.int .i64 ((y63.getD u75.toNat z_Block).Id)) hk rfl rfl rfl rfl (fun w hs => sl rfl hk rfl rfl rfl ag3 (box_cell hs (k := 12) rfl rfl) fun a hk => qe hk) fun a hk => ?_
           rcases ite_some H with ⟨c110, H⟩ | ⟨_, H⟩
           rotate_left
           ·cases H
           obtain ⟨b111, q112, hAc110⟩ := (o73.view).some_ ((y63.getD u75.toNat z_Block).Id) c110.1 (by rw [lh74]; exact c110.2)
           refine qst (.pointer (some (padd (some ⟨b57, 0, none⟩) (((y63.getD u75.toNat z_Block).Id).toNat * 1)))) hk rfl rfl rfl rfl (fun w hs => sia rfl hk rfl rfl rfl rfl un105 sz4 c110.1 c110.2 hAc110 fun a hk => qe hk) fun a hk => ?_
           obtain ⟨_, rfl, e113⟩ := (o73.view).at_ false ((y63.getD u75.toNat z_Block).Id) c110.1 (by rw [lh74]; exact c110.2)
           refine qst (.bool (u71.getD ((y63.getD u75.toNat z_Block).Id).toNat false)) hk rfl rfl rfl rfl (fun w hs => sl (v := (.bool (u71.getD ((y63.getD u75.toNat z_Block).Id).toNat false))) rfl hk rfl rfl rfl ag4 ((e113 0 _ rfl).cell (hs.hasG (k := 9) rfl)) fun a hk => qe hk) fun a hk => ?_
           refine qst (.bool (u71.getD ((y63.getD u75.toNat z_Block).Id).toNat false)) hk rfl rfl rfl rfl (fun w hs => sv (.bool (u71.getD ((y63.getD u75.toNat z_Block).Id).toNat false)) hk rfl rfl rfl fun a hk => qe hk) fun a hk => ?_
           refine wml_nil fun w hF _ => ?_
           have hs := hs.f hF
           obtain rfl := Option.some.inj H
           show R101 _ _
           rw [hR101]
           exact ⟨(u71.getD ((y63.getD u75.toNat z_Block).Id).toNat false), rfl, (hk.c 1 rfl (hk.c 5 rfl (hk.c 7 rfl (hk.c 43 rfl (hk.c 44 rfl (hk.c 45 rfl (hk.c 68 rfl hk.k))))))), (hs.pick [(9, 9), (10, 10), (4, 4), (12, 12)] rfl)⟩
        ·intro a w hR0
         rw [hR101] at hR0
         obtain ⟨u97, rfl, hk, hs⟩ := hR0
         have H := HL100
         try dsimp only at H
         refine hK95 _ _ ?_
         rcases cond_some H with ⟨c114, H⟩ | ⟨c114, H⟩
         ·have hk := hk.lit 68 c114 rfl
          refine cnd_true hk rfl rfl ?_
          apply wp_seq_k; intro K115 hK115
          apply wp_region_lit
          refine sa _ rfl hk rfl rfl rfl fun a hk => ?_
          show wpList _ _ _ [] _ _
          refine wpList_nil ?_
          refine hK115 _ _ ?_
          have hs := hs.pick [] rfl
          refine wp_ret ?_
          obtain rfl := Option.some.inj H
          have ho76 := h83
          try dsimp only at ho76
          subst ho76
          have H := HL78
          try dsimp only at H
          obtain rfl := Option.some.inj H
          exact fin hk _ [(.bool false)] rfl ⟨rfl, trivial⟩ ⟨rfl, (hs.pick [] rfl).dnil⟩
         ·have hk := hk.lit 68 c114 rfl
          refine cnd_false hk rfl rfl ?_
          refine wp_skip ?_
          refine hK94 _ _ ?_
          have hs := hs.pick [(9, 9), (10, 10), (4, 4), (12, 12)] rfl
          apply wp_region_lit
          refine sf ⟨b93, 0, none⟩ rfl hk rfl rfl rfl fd102_0 rfl fun a hk => ?_
          refine sl rfl hk rfl rfl rfl ag3 (box_cell hs (k := 12) rfl rfl) fun a hk => ?_
          rcases ite_some H with ⟨c116, H⟩ | ⟨_, H⟩
          rotate_left
          ·cases H
          obtain ⟨b117, q118, hAc116⟩ := (o73.view).some_ ((y63.getD u75.toNat z_Block).Id) c116.1 (by rw [lh74]; exact c116.2)
          refine sia rfl hk rfl rfl rfl rfl un105 sz4 c116.1 c116.2 hAc116 fun a hk => ?_
          refine so (j := 0) 9 false true hs rfl o73 c116.1 (by rw [lh74]; exact c116.2) rfl hk rfl rfl rfl rfl rfl sz4 (by simp [Value.cells, Value.oneCell']) (Nat.le_of_ble_eq_true rfl) (fun _ _ h => ⟨by rw [h.1]; rfl, h.2⟩) fun k119 w a hk o120 hs => ?_
          have lh121 : (u71.set ((y63.getD u75.toNat z_Block).Id).toNat true).length = 12 := by rw [List.length_set]; exact lh74
          show wpList _ _ _ [] _ _
          refine wpList_nil ?_
          refine hK87 _ _ ?_
          apply wp_region_lit
          refine sv (.int .i64 (w64 (u75 + 1))) hk rfl rfl rfl fun a hk => ?_
          refine sm _ rfl hk rfl rfl rfl fun a hk => ?_
          show wpList _ _ _ [] _ _
          refine wpList_nil ?_
          obtain rfl := Option.some.inj H
          obtain ⟨m122, hmm122, h83⟩ := h83
          show ∃ n', n' < _ ∧ I80 n' _ _
          refine ⟨m122, hmm122, ?_⟩
          rw [hI80]
          exact ⟨(u71.set ((y63.getD u75.toNat z_Block).Id).toNat true), (w64 (u75 + 1)), _, h83, (hk.c 1 rfl (hk.c 5 rfl (hk.c 43 rfl (hk.c 44 rfl (hk.c 45 rfl hk.k))))), (hs.pick [(9, 9), (10, 10), (4, 4)] rfl), o120, lh121⟩
       ·have hk := hk.lit 46 c86 rfl
        refine cnd_false hk rfl rfl ?_
        refine wp_exit ?_
        obtain rfl := Option.some.inj H
        show R79 _ _
        rw [hR79]
        exact ⟨h83.symm, hk.k, (hs.pick [] rfl)⟩
     ·intro a w hR0
      rw [hR79] at hR0
      obtain ⟨rfl, hk, hs⟩ := hR0
      have H := HL78
      try dsimp only at H
      refine hK61 _ _ ?_
      have hs := hs.pick [] rfl
      apply wp_seq_k; intro K123 hK123
      apply wp_region_lit
      refine sa _ rfl hk rfl rfl rfl fun a hk => ?_
      show wpList _ _ _ [] _ _
      refine wpList_nil ?_
      refine hK123 _ _ ?_
      refine wp_ret ?_
      obtain rfl := Option.some.inj H
      exact fin hk _ [(.bool true)] rfl ⟨rfl, trivial⟩ ⟨rfl, (hs.pick [] rfl).dnil⟩

noncomputable def slices_Clone_int_int.f (l0 : List Int) : Option (List Int) :=
  (if l0.length ≤ 1073741824 then (some l0) else none)
set_option maxRecDepth 100000 in
set_option maxHeartbeats 0 in
theorem slices_Clone_int_int_t (w0 : World) (A0_ : Option Addr) (p0_ : Nat) (l0 : List Int) (k0_ : Chunk) (v0_ : View (Lay.int .i64) A0_ p0_ l0 k0_) (w0_ : Has w0 k0_) (r : List Int) (H : slices_Clone_int_int.f l0 = some r) :
    Calls Try.prog 177 #[.slice A0_ l0.length p0_] w0 (Ret (fun v w => ∃ (A0 : Option Addr) (p0 : Nat) (k0 : Chunk), v = .slice A0 r.length p0 ∧ Own (Lay.int .i64) 3 A0 p0 r k0 ∧ Sat [] w0 w [] [(0, k0)])) := by
  have hs : Sat [] w0 w0 [(1, k0_)] [] := Sat.init w0 [(1, k0_)] [] (by simp only [List.mem_cons, List.not_mem_nil, or_false]; rintro x (rfl) <;> assumption) (by simp) List.nodup_nil (by simp [blks])
  unfold slices_Clone_int_int.f at H
  rcases ite_some H with ⟨c, H⟩ | ⟨_, H⟩
  rotate_left
  · cases H
  obtain rfl := Option.some.inj H
  refine enter Try.func177 rfl Try.ntmps177 rfl fun a hk => ?_
  apply wp_seq_k; intro K1 hK1
  apply wp_region_lit
  refine sa _ rfl hk rfl rfl rfl fun a hk => ?_
  refine wpList_nil ?_
  refine hK1 _ _ ?_
  apply wp_seq_k; intro K3 hK3
  apply wp_seq_k; intro K2 hK2
  apply wp_region_lit
  refine sm _ rfl hk rfl rfl rfl fun a hk => ?_
  refine snl rfl hk rfl rfl rfl un22 fun a hk => ?_
  refine wpList_nil ?_
  refine hK2 _ _ ?_
  cases A0_ with
  | none =>
    obtain rfl := v0_.none_nil
    refine cnd_true hk rfl rfl ?_
    apply wp_seq_k; intro K4 hK4
    apply wp_region_lit
    refine sa _ rfl hk rfl rfl rfl fun a hk => ?_
    refine wpList_nil ?_
    refine hK4 _ _ ?_
    refine wp_ret ?_
    have hs := hs.addNil 9
    exact fin hk _ [(.slice none 0 0)] rfl ⟨rfl, trivial⟩ ⟨none, 0, [], rfl, Own.nil _ _, (hs.pick [(0, 9)] rfl).dnil⟩
  | some A0_ =>
    refine cnd_false hk rfl rfl ?_
    refine wp_skip ?_
    refine hK3 _ _ ?_
    apply wp_seq_k; intro K5 hK5
    apply wp_region_lit
    refine sbs0 2 (Lay.int .i64) hs rfl hk rfl rfl un22 sz3 fun b k w a hk o hs => ?_
    refine sm _ rfl hk rfl rfl rfl fun a hk => ?_
    refine sap 2 (xs := ([] : List Int)) (ys := l0) (flat_flat : ((Lay.int .i64)).Flat) hs rfl o v0_ (hs.hasD (k := 1) rfl) rfl hk rfl rfl rfl rfl rfl rfl un22 mk3 rfl rfl rfl (by simpa using c) fun A p k w a hk o hs => ?_
    refine sa _ rfl hk rfl rfl rfl fun a hk => ?_
    refine wpList_nil ?_
    refine hK5 _ _ ?_
    refine wp_ret ?_
    exact fin hk _ [(.slice A ([] ++ l0).length p)] rfl ⟨rfl, trivial⟩ ⟨A, p, _, rfl, o, (hs.pick [(0, 2)] rfl).dnil⟩

end Go.Proofs.Ytjlhmcieholdiaa
