/- Further functions. -/
import Derived.Test.YtjlhmcieholdiaaGFAccess
namespace Go.Proofs.Ytjlhmcieholdiaa
open Go Go.Z Go.Proofs Go.MuLone Go.ChangeShapes Go.WideShapes Go.ChangeAt Go.RowKit
set_option linter.unusedVariables false
set_option linter.unusedSimpArgs false
noncomputable def spec_l08Own.s0 (x0 : S_Oram) (u11 : Int) (u16 : List (List S_Block)) : Option ((Int × (List (List S_Block))) ⊕ Ex ((List (List S_Block))) (S_Oram)) :=
  (bif (decide (u11 < (x0.Buckets.length : Int))) then (if 0 ≤ u11 ∧ u11 < (x0.Buckets.length : Int) then (if ([] : List S_Block).length + (x0.Buckets.getD u11.toNat []).length ≤ 1073741824 then (if u16.length + ([(([] : List S_Block) ++ (x0.Buckets.getD u11.toNat []))]).length ≤ 1073741824 then (some (.inl ((w64 (u11 + 1)), (u16 ++ ([(([] : List S_Block) ++ (x0.Buckets.getD u11.toNat []))]))))) else none) else none) else none) else (some (.inr (.out u16))))
noncomputable def spec_l08Own.f (x0 : S_Oram) : Option (S_Oram) :=
  (if ([] : List Int).length + x0.Pos.length ≤ 1073741824 then (if ([] : List S_Block).length + x0.Stash.length ≤ 1073741824 then ((loopO (fun s => spec_l08Own.s0 x0 s.1 s.2) (0, ([] : List (List S_Block)))).bind fun o => match o with | .out u21 => (some (⟨(([] : List Int) ++ x0.Pos), (([] : List S_Block) ++ x0.Stash), u21⟩ : S_Oram)) | .ret r => (some r)) else none) else none)
set_option maxRecDepth 100000 in
set_option maxHeartbeats 0 in
theorem spec_l08Own_t (w0 : World) (x0 : S_Oram) (A0_0 : Option Addr) (p0_0 : Nat) (k0_0 : Chunk) (v0_0 : View (Lay.int .i64) A0_0 p0_0 x0.Pos k0_0) (w0_0 : Has w0 k0_0) (A0_1 : Option Addr) (p0_1 : Nat) (k0_1 : Chunk) (v0_1 : View L_Block A0_1 p0_1 x0.Stash k0_1) (w0_1 : Has w0 k0_1) (A0_2 : Option Addr) (p0_2 : Nat) (k0_2 : Chunk) (v0_2 : View (Lay.sl L_Block 102) A0_2 p0_2 x0.Buckets k0_2) (w0_2 : Has w0 k0_2) (r : S_Oram) (H : spec_l08Own.f x0 = some r) :
    Calls Try.prog 126 #[.agg #[.slice A0_0 x0.Pos.length p0_0, .slice A0_1 x0.Stash.length p0_1, .slice A0_2 x0.Buckets.length p0_2]] w0 (Ret (fun v w => ∃ (A0 : Option Addr) (p0 : Nat) (k0 : Chunk), ∃ (A1 : Option Addr) (p1 : Nat) (k1 : Chunk), ∃ (A2 : Option Addr) (p2 : Nat) (k2 : Chunk), v = .agg #[.slice A0 r.Pos.length p0, .slice A1 r.Stash.length p1, .slice A2 r.Buckets.length p2] ∧ Own (Lay.int .i64) 3 A0 p0 r.Pos k0 ∧ Own L_Block 102 A1 p1 r.Stash k1 ∧ Own (Lay.sl L_Block 102) 28 A2 p2 r.Buckets k2 ∧ Sat [] w0 w [] [(0, k0), (1, k1), (2, k2)])) := by
  have hs : Sat [] w0 w0 [(1, k0_0), (2, k0_1), (3, k0_2)] [] := Sat.init w0 [(1, k0_0), (2, k0_1), (3, k0_2)] [] (by simp only [List.mem_cons, List.not_mem_nil, or_false]; rintro x (rfl | rfl | rfl) <;> assumption) (by simp) List.nodup_nil (by simp [blks])
  unfold spec_l08Own.f at H
  refine enter Try.func126 rfl Try.ntmps126 rfl fun a hk => ?_
  apply wp_seq_k; intro K1 hK1
  apply wp_region_lit
  refine sbx 4 hs rfl hk rfl rfl rfl rfl fun b2 w a hk hs => ?_
  refine salx 5 hs rfl hk rfl rfl ze31 rfl fun b3 w a hk hs => ?_
  show wpList _ _ _ [] _ _
  refine wpList_nil ?_
  refine hK1 _ _ ?_
  apply wp_seq_k; intro K4 hK4
  rcases ite_some H with ⟨c_r5_3_1, H⟩ | ⟨_, H⟩
  rotate_left
  ·cases H
  rcases ite_some H with ⟨c_r5_7_1, H⟩ | ⟨_, H⟩
  rotate_left
  ·cases H
  obtain ⟨R6, hR6⟩ : ∃ R : Act → World → Prop, R = fun a w => ∃ (b_r5_10_1 : Nat) (A_r5_3_2 : Option Addr) (p_r5_3_3 : Nat) (A_r5_7_2 : Option Addr) (p_r5_7_3 : Nat) (b_r5_8_1 : Nat) (k_r5_3_4 : Chunk) (k_r5_7_4 : Chunk) (k_r5_8_2 : Chunk), Kn [(1, (.pointer (some ⟨b2, 0, none⟩))), (2, (.pointer (some ⟨b3, 0, none⟩))), (3, (.pointer (some ⟨b_r5_10_1, 0, none⟩)))] 35 a ∧ Sat [] w0 w [(1, k0_0), (2, k0_1), (3, k0_2)] [(4, [(b2, .cells #[.slice A0_0 x0.Pos.length p0_0, .slice A0_1 x0.Stash.length p0_1, .slice A0_2 x0.Buckets.length p0_2] 31 (0, 0))]), (5, [(b3, .cells #[.slice none 0 0, .slice none 0 0, .slice none 0 0] 31 (0, 0))]), (106201, [(b_r5_10_1, .cells #[.slice A_r5_3_2 (([] : List Int) ++ x0.Pos).length p_r5_3_3, .slice A_r5_7_2 (([] : List S_Block) ++ x0.Stash).length p_r5_7_3, .slice (some ⟨b_r5_8_1, 0, none⟩) 0 0] 31 (0, 0))]), (106001, k_r5_3_4), (106081, k_r5_7_4), (106161, k_r5_8_2)] ∧ Own (Lay.int .i64) 3 A_r5_3_2 p_r5_3_3 (([] : List Int) ++ x0.Pos) k_r5_3_4 ∧ Own L_Block 102 A_r5_7_2 p_r5_7_3 (([] : List S_Block) ++ x0.Stash) k_r5_7_4 ∧ Own (Lay.sl L_Block 102) 28 (some ⟨b_r5_8_1, 0, none⟩) 0 ([] : List (List S_Block)) k_r5_8_2 := ⟨_, rfl⟩
  refine wp_cutq R6 ?_ ?_
  ·skip
   refine wp_region_tree (.q 1 (.q 2 (.q 5 (.q 6 (.alt 0 (.alt 3 (.alt 4 (.alt 7 (.alt 8 (.q 9 (.alt 10 (.last 11) .stop)) (.alt 10 (.alt 8 (.alt 9 (.last 11) .stop) .stop) .stop)) (.alt 8 (.alt 7 (.q 9 (.alt 10 (.last 11) .stop)) (.alt 10 (.alt 7 (.alt 9 (.last 11) .stop) .stop) .stop)) (.alt 10 (.alt 7 (.alt 8 (.alt 9 (.last 11) .stop) .stop) (.alt 8 (.alt 7 (.alt 9 (.last 11) .stop) .stop) .stop)) .stop))) (.alt 8 (.alt 4 (.alt 7 (.q 9 (.alt 10 (.last 11) .stop)) (.alt 10 (.alt 7 (.alt 9 (.last 11) .stop) .stop) .stop)) (.alt 10 (.alt 4 (.alt 7 (.alt 9 (.last 11) .stop) .stop) .stop) .stop)) (.alt 10 (.alt 4 (.alt 7 (.alt 8 (.alt 9 (.last 11) .stop) .stop) (.alt 8 (.alt 7 (.alt 9 (.last 11) .stop) .stop) .stop)) (.alt 8 (.alt 4 (.alt 7 (.alt 9 (.last 11) .stop) .stop) .stop) .stop)) .stop))) (.alt 4 (.alt 3 (.alt 7 (.alt 8 (.q 9 (.alt 10 (.last 11) .stop)) (.alt 10 (.alt 8 (.alt 9 (.last 11) .stop) .stop) .stop)) (.alt 8 (.alt 7 (.q 9 (.alt 10 (.last 11) .stop)) (.alt 10 (.alt 7 (.alt 9 (.last 11) .stop) .stop) .stop)) (.alt 10 (.alt 7 (.alt 8 (.alt 9 (.last 11) .stop) .stop) (.alt 8 (.alt 7 (.alt 9 (.last 11) .stop) .stop) .stop)) .stop))) (.alt 8 (.alt 3 (.alt 7 (.q 9 (.alt 10 (.last 11) .stop)) (.alt 10 (.alt 7 (.alt 9 (.last 11) .stop) .stop) .stop)) (.alt 10 (.alt 3 (.alt 7 (.alt 9 (.last 11) .stop) .stop) .stop) .stop)) (.alt 10 (.alt 3 (.alt 7 (.alt 8 (.alt 9 (.last 11) .stop) .stop) (.alt 8 (.alt 7 (.alt 9 (.last 11) .stop) .stop) .stop)) (.alt 8 (.alt 3 (.alt 7 (.alt 9 (.last 11) .stop) .stop) .stop) .stop)) .stop))) (.alt 8 (.alt 3 (.alt 4 (.alt 7 (.q 9 (.alt 10 (.last 11) .stop)) (.alt 10 (.alt 7 (.alt 9 (.last 11) .stop) .stop) .stop)) (.alt 10 (.alt 4 (.alt 7 (.alt 9 (.last 11) .stop) .stop) .stop) .stop)) (.alt 4 (.alt 3 (.alt 7 (.q 9 (.alt 10 (.last 11) .stop)) (.alt 10 (.alt 7 (.alt 9 (.last 11) .stop) .stop) .stop)) (.alt 10 (.alt 3 (.alt 7 (.alt 9 (.last 11) .stop) .stop) .stop) .stop)) (.alt 10 (.alt 3 (.alt 4 (.alt 7 (.alt 9 (.last 11) .stop) .stop) .stop) (.alt 4 (.alt 3 (.alt 7 (.alt 9 (.last 11) .stop) .stop) .stop) .stop)) .stop))) (.alt 10 (.alt 3 (.alt 4 (.alt 7 (.alt 8 (.alt 9 (.last 11) .stop) .stop) (.alt 8 (.alt 7 (.alt 9 (.last 11) .stop) .stop) .stop)) (.alt 8 (.alt 4 (.alt 7 (.alt 9 (.last 11) .stop) .stop) .stop) .stop)) (.alt 4 (.alt 3 (.alt 7 (.alt 8 (.alt 9 (.last 11) .stop) .stop) (.alt 8 (.alt 7 (.alt 9 (.last 11) .stop) .stop) .stop)) (.alt 8 (.alt 3 (.alt 7 (.alt 9 (.last 11) .stop) .stop) .stop) .stop)) (.alt 8 (.alt 3 (.alt 4 (.alt 7 (.alt 9 (.last 11) .stop) .stop) .stop) (.alt 4 (.alt 3 (.alt 7 (.alt 9 (.last 11) .stop) .stop) .stop) .stop)) .stop))) .stop)))) (.alt 4 (.alt 0 (.alt 3 (.alt 7 (.alt 8 (.q 9 (.alt 10 (.last 11) .stop)) (.alt 10 (.alt 8 (.alt 9 (.last 11) .stop) .stop) .stop)) (.alt 8 (.alt 7 (.q 9 (.alt 10 (.last 11) .stop)) (.alt 10 (.alt 7 (.alt 9 (.last 11) .stop) .stop) .stop)) (.alt 10 (.alt 7 (.alt 8 (.alt 9 (.last 11) .stop) .stop) (.alt 8 (.alt 7 (.alt 9 (.last 11) .stop) .stop) .stop)) .stop))) (.alt 8 (.alt 3 (.alt 7 (.q 9 (.alt 10 (.last 11) .stop)) (.alt 10 (.alt 7 (.alt 9 (.last 11) .stop) .stop) .stop)) (.alt 10 (.alt 3 (.alt 7 (.alt 9 (.last 11) .stop) .stop) .stop) .stop)) (.alt 10 (.alt 3 (.alt 7 (.alt 8 (.alt 9 (.last 11) .stop) .stop) (.alt 8 (.alt 7 (.alt 9 (.last 11) .stop) .stop) .stop)) (.alt 8 (.alt 3 (.alt 7 (.alt 9 (.last 11) .stop) .stop) .stop) .stop)) .stop))) (.alt 8 (.alt 0 (.alt 3 (.alt 7 (.q 9 (.alt 10 (.last 11) .stop)) (.alt 10 (.alt 7 (.alt 9 (.last 11) .stop) .stop) .stop)) (.alt 10 (.alt 3 (.alt 7 (.alt 9 (.last 11) .stop) .stop) .stop) .stop)) (.alt 10 (.alt 0 (.alt 3 (.alt 7 (.alt 9 (.last 11) .stop) .stop) .stop) .stop) .stop)) (.alt 10 (.alt 0 (.alt 3 (.alt 7 (.alt 8 (.alt 9 (.last 11) .stop) .stop) (.alt 8 (.alt 7 (.alt 9 (.last 11) .stop) .stop) .stop)) (.alt 8 (.alt 3 (.alt 7 (.alt 9 (.last 11) .stop) .stop) .stop) .stop)) (.alt 8 (.alt 0 (.alt 3 (.alt 7 (.alt 9 (.last 11) .stop) .stop) .stop) .stop) .stop)) .stop))) (.alt 8 (.alt 0 (.alt 3 (.alt 4 (.alt 7 (.q 9 (.alt 10 (.last 11) .stop)) (.alt 10 (.alt 7 (.alt 9 (.last 11) .stop) .stop) .stop)) (.alt 10 (.alt 4 (.alt 7 (.alt 9 (.last 11) .stop) .stop) .stop) .stop)) (.alt 4 (.alt 3 (.alt 7 (.q 9 (.alt 10 (.last 11) .stop)) (.alt 10 (.alt 7 (.alt 9 (.last 11) .stop) .stop) .stop)) (.alt 10 (.alt 3 (.alt 7 (.alt 9 (.last 11) .stop) .stop) .stop) .stop)) (.alt 10 (.alt 3 (.alt 4 (.alt 7 (.alt 9 (.last 11) .stop) .stop) .stop) (.alt 4 (.alt 3 (.alt 7 (.alt 9 (.last 11) .stop) .stop) .stop) .stop)) .stop))) (.alt 4 (.alt 0 (.alt 3 (.alt 7 (.q 9 (.alt 10 (.last 11) .stop)) (.alt 10 (.alt 7 (.alt 9 (.last 11) .stop) .stop) .stop)) (.alt 10 (.alt 3 (.alt 7 (.alt 9 (.last 11) .stop) .stop) .stop) .stop)) (.alt 10 (.alt 0 (.alt 3 (.alt 7 (.alt 9 (.last 11) .stop) .stop) .stop) .stop) .stop)) (.alt 10 (.alt 0 (.alt 3 (.alt 4 (.alt 7 (.alt 9 (.last 11) .stop) .stop) .stop) (.alt 4 (.alt 3 (.alt 7 (.alt 9 (.last 11) .stop) .stop) .stop) .stop)) (.alt 4 (.alt 0 (.alt 3 (.alt 7 (.alt 9 (.last 11) .stop) .stop) .stop) .stop) .stop)) .stop))) (.alt 10 (.alt 0 (.alt 3 (.alt 4 (.alt 7 (.alt 8 (.alt 9 (.last 11) .stop) .stop) (.alt 8 (.alt 7 (.alt 9 (.last 11) .stop) .stop) .stop)) (.alt 8 (.alt 4 (.alt 7 (.alt 9 (.last 11) .stop) .stop) .stop) .stop)) (.alt 4 (.alt 3 (.alt 7 (.alt 8 (.alt 9 (.last 11) .stop) .stop) (.alt 8 (.alt 7 (.alt 9 (.last 11) .stop) .stop) .stop)) (.alt 8 (.alt 3 (.alt 7 (.alt 9 (.last 11) .stop) .stop) .stop) .stop)) (.alt 8 (.alt 3 (.alt 4 (.alt 7 (.alt 9 (.last 11) .stop) .stop) .stop) (.alt 4 (.alt 3 (.alt 7 (.alt 9 (.last 11) .stop) .stop) .stop) .stop)) .stop))) (.alt 4 (.alt 0 (.alt 3 (.alt 7 (.alt 8 (.alt 9 (.last 11) .stop) .stop) (.alt 8 (.alt 7 (.alt 9 (.last 11) .stop) .stop) .stop)) (.alt 8 (.alt 3 (.alt 7 (.alt 9 (.last 11) .stop) .stop) .stop) .stop)) (.alt 8 (.alt 0 (.alt 3 (.alt 7 (.alt 9 (.last 11) .stop) .stop) .stop) .stop) .stop)) (.alt 8 (.alt 0 (.alt 3 (.alt 4 (.alt 7 (.alt 9 (.last 11) .stop) .stop) .stop) (.alt 4 (.alt 3 (.alt 7 (.alt 9 (.last 11) .stop) .stop) .stop) .stop)) (.alt 4 (.alt 0 (.alt 3 (.alt 7 (.alt 9 (.last 11) .stop) .stop) .stop) .stop) .stop)) .stop))) .stop)))))))) mo (by kernel_rfl) (hs.pick [(5, 5), (4, 4)] rfl) fun _ => ?_
   have hs := hs.drew
   refine tqst (.pointer (some ⟨b2, 0, none⟩)) hk rfl rfl rfl rfl (fun w hs => sf ⟨b2, 0, none⟩ rfl hk rfl rfl rfl fd31_0 rfl fun a hk => qe hk) fun a hk => ?_
   refine tqst (.slice A0_0 x0.Pos.length p0_0) hk rfl rfl rfl rfl (fun w hs => sl rfl hk rfl rfl rfl ag22 (box_cell hs (k := 4) rfl rfl) fun a hk => qe hk) fun a hk => ?_
   refine tqst (.pointer (some ⟨b2, 1, none⟩)) hk rfl rfl rfl rfl (fun w hs => sf ⟨b2, 1, none⟩ rfl hk rfl rfl rfl fd31_1 rfl fun a hk => qe hk) fun a hk => ?_
   refine tqst (.slice A0_1 x0.Stash.length p0_1) hk rfl rfl rfl rfl (fun w hs => sl rfl hk rfl rfl rfl ag28 (box_cell hs (k := 4) rfl rfl) fun a hk => qe hk) fun a hk => ?_
   refine tsst hk rfl rfl (fun K_r5_0 hK_r5_0 w hF => ?_) ?_
   ·skip
    have hs := hs.f hF
    refine sbs0 106001 (Lay.int .i64) hs rfl hk rfl rfl un22 sz3 fun b_r5_0_1 k_r5_0_2 w a hk o_r5_0_3 hs => ?_
    refine se (hs.pick [(5, 5), (4, 4)] rfl) hk (hK_r5_0 _ _ ?_)
    refine tsst hk rfl rfl (fun K_r5_3 hK_r5_3 w hF => ?_) ?_
    ·skip
     have hs := hs.f hF
     refine sap 106001 (xs := ([] : List Int)) (ys := x0.Pos) (flat_flat : ((Lay.int .i64)).Flat) hs rfl o_r5_0_3 v0_0 (hs.hasD (k := 1) rfl) rfl hk rfl rfl rfl rfl rfl rfl un22 mk3 rfl rfl rfl c_r5_3_1 fun A_r5_3_2 p_r5_3_3 k_r5_3_4 w a hk o_r5_3_5 hs => ?_
     refine se (hs.pick [(5, 5), (4, 4)] rfl) hk (hK_r5_3 _ _ ?_)
     refine tsst hk rfl rfl (fun K_r5_4 hK_r5_4 w hF => ?_) ?_
     ·skip
      have hs := hs.f hF
      refine sbs0 106081 L_Block hs rfl hk rfl rfl un28 sz102 fun b_r5_4_1 k_r5_4_2 w a hk o_r5_4_3 hs => ?_
      refine se (hs.pick [(5, 5), (4, 4)] rfl) hk (hK_r5_4 _ _ ?_)
      refine tsst hk rfl rfl (fun K_r5_7 hK_r5_7 w hF => ?_) ?_
      ·skip
       have hs := hs.f hF
       refine sap 106081 (xs := ([] : List S_Block)) (ys := x0.Stash) (flat_flat : (L_Block).Flat) hs rfl o_r5_4_3 v0_1 (hs.hasD (k := 2) rfl) rfl hk rfl rfl rfl rfl rfl rfl un28 mk102 rfl rfl rfl c_r5_7_1 fun A_r5_7_2 p_r5_7_3 k_r5_7_4 w a hk o_r5_7_5 hs => ?_
       refine se (hs.pick [(5, 5), (4, 4)] rfl) hk (hK_r5_7 _ _ ?_)
       refine tsst hk rfl rfl (fun K_r5_8 hK_r5_8 w hF => ?_) ?_
       ·skip
        have hs := hs.f hF
        refine sbs0 106161 (Lay.sl L_Block 102) hs rfl hk rfl rfl un29 sz28 fun b_r5_8_1 k_r5_8_2 w a hk o_r5_8_3 hs => ?_
        refine se (hs.pick [(5, 5), (4, 4)] rfl) hk (hK_r5_8 _ _ ?_)
        refine tqst (.agg #[.slice A_r5_3_2 (([] : List Int) ++ x0.Pos).length p_r5_3_3, .slice A_r5_7_2 (([] : List S_Block) ++ x0.Stash).length p_r5_7_3, .slice (some ⟨b_r5_8_1, 0, none⟩) 0 0]) hk rfl rfl rfl rfl (fun w hs => sbd (pv := [(0, (.slice A_r5_3_2 (([] : List Int) ++ x0.Pos).length p_r5_3_3)), (1, (.slice A_r5_7_2 (([] : List S_Block) ++ x0.Stash).length p_r5_7_3)), (2, (.slice (some ⟨b_r5_8_1, 0, none⟩) 0 0))]) rfl hk rfl rfl rfl (bd31_1 A_r5_3_2 ((([] : List Int) ++ x0.Pos).length) p_r5_3_3 A_r5_7_2 ((([] : List S_Block) ++ x0.Stash).length) p_r5_7_3 (some ⟨b_r5_8_1, 0, none⟩) 0 0) fun a hk => qe hk) fun a hk => ?_
        refine tsst hk rfl rfl (fun K_r5_10 hK_r5_10 w hF => ?_) wt_stop
        have hs := hs.f hF
        refine salx 106201 hs rfl hk rfl rfl ze31 rfl fun b_r5_10_1 w a hk hs => ?_
        refine se (hs.pick [(5, 5), (4, 4)] rfl) hk (hK_r5_10 _ _ ?_)
        refine tlst hk rfl rfl fun K_r5_11 hK_r5_11 w hF => ?_
        have hs := hs.f hF
        refine ssw 106201 hs rfl rfl hk rfl rfl rfl rfl sz31 (by simp [Value.oneCell']) rfl fun w a hk hs => ?_
        refine se trivial hk (hK_r5_11 _ _ fun w hF => ?_)
        have hs := hs.f hF
        show R6 _ _
        rw [hR6]
        exact ⟨b_r5_10_1, A_r5_3_2, p_r5_3_3, A_r5_7_2, p_r5_7_3, b_r5_8_1, k_r5_3_4, k_r5_7_4, k_r5_8_2, (hk.c 1 rfl (hk.c 2 rfl (hk.c 3 rfl hk.k))), (hs.pick [(4, 4), (5, 5), (106201, 106201), (106001, 106001), (106081, 106081), (106161, 106161)] rfl), o_r5_3_5, o_r5_7_5, o_r5_8_3⟩
       refine tsst hk rfl rfl (fun K_r5_10 hK_r5_10 w hF => ?_) wt_stop
       have hs := hs.f hF
       refine salx 106201 hs rfl hk rfl rfl ze31 rfl fun b_r5_10_1 w a hk hs => ?_
       refine se (hs.pick [(5, 5), (4, 4)] rfl) hk (hK_r5_10 _ _ ?_)
       refine tsst hk rfl rfl (fun K_r5_8 hK_r5_8 w hF => ?_) wt_stop
       have hs := hs.f hF
       refine sbs0 106161 (Lay.sl L_Block 102) hs rfl hk rfl rfl un29 sz28 fun b_r5_8_1 k_r5_8_2 w a hk o_r5_8_3 hs => ?_
       refine se (hs.pick [(5, 5), (4, 4)] rfl) hk (hK_r5_8 _ _ ?_)
       refine tsst hk rfl rfl (fun K_r5_9 hK_r5_9 w hF => ?_) wt_stop
       have hs := hs.f hF
       refine sbd (pv := [(0, (.slice A_r5_3_2 (([] : List Int) ++ x0.Pos).length p_r5_3_3)), (1, (.slice A_r5_7_2 (([] : List S_Block) ++ x0.Stash).length p_r5_7_3)), (2, (.slice (some ⟨b_r5_8_1, 0, none⟩) 0 0))]) rfl hk rfl rfl rfl (bd31_1 A_r5_3_2 ((([] : List Int) ++ x0.Pos).length) p_r5_3_3 A_r5_7_2 ((([] : List S_Block) ++ x0.Stash).length) p_r5_7_3 (some ⟨b_r5_8_1, 0, none⟩) 0 0) fun a hk => ?_
       refine se (hs.pick [(5, 5), (4, 4)] rfl) hk (hK_r5_9 _ _ ?_)
       refine tlst hk rfl rfl fun K_r5_11 hK_r5_11 w hF => ?_
       have hs := hs.f hF
       refine ssw 106201 hs rfl rfl hk rfl rfl rfl rfl sz31 (by simp [Value.oneCell']) rfl fun w a hk hs => ?_
       refine se trivial hk (hK_r5_11 _ _ fun w hF => ?_)
       have hs := hs.f hF
       show R6 _ _
       rw [hR6]
       exact ⟨b_r5_10_1, A_r5_3_2, p_r5_3_3, A_r5_7_2, p_r5_7_3, b_r5_8_1, k_r5_3_4, k_r5_7_4, k_r5_8_2, (hk.c 1 rfl (hk.c 2 rfl (hk.c 3 rfl hk.k))), (hs.pick [(4, 4), (5, 5), (106201, 106201), (106001, 106001), (106081, 106081), (106161, 106161)] rfl), o_r5_3_5, o_r5_7_5, o_r5_8_3⟩
      refine tsst hk rfl rfl (fun K_r5_8 hK_r5_8 w hF => ?_) ?_
      ·skip
       have hs := hs.f hF
       refine sbs0 106161 (Lay.sl L_Block 102) hs rfl hk rfl rfl un29 sz28 fun b_r5_8_1 k_r5_8_2 w a hk o_r5_8_3 hs => ?_
       refine se (hs.pick [(5, 5), (4, 4)] rfl) hk (hK_r5_8 _ _ ?_)
       refine tsst hk rfl rfl (fun K_r5_7 hK_r5_7 w hF => ?_) ?_
       ·skip
        have hs := hs.f hF
        refine sap 106081 (xs := ([] : List S_Block)) (ys := x0.Stash) (flat_flat : (L_Block).Flat) hs rfl o_r5_4_3 v0_1 (hs.hasD (k := 2) rfl) rfl hk rfl rfl rfl rfl rfl rfl un28 mk102 rfl rfl rfl c_r5_7_1 fun A_r5_7_2 p_r5_7_3 k_r5_7_4 w a hk o_r5_7_5 hs => ?_
        refine se (hs.pick [(5, 5), (4, 4)] rfl) hk (hK_r5_7 _ _ ?_)
        refine tqst (.agg #[.slice A_r5_3_2 (([] : List Int) ++ x0.Pos).length p_r5_3_3, .slice A_r5_7_2 (([] : List S_Block) ++ x0.Stash).length p_r5_7_3, .slice (some ⟨b_r5_8_1, 0, none⟩) 0 0]) hk rfl rfl rfl rfl (fun w hs => sbd (pv := [(0, (.slice A_r5_3_2 (([] : List Int) ++ x0.Pos).length p_r5_3_3)), (1, (.slice A_r5_7_2 (([] : List S_Block) ++ x0.Stash).length p_r5_7_3)), (2, (.slice (some ⟨b_r5_8_1, 0, none⟩) 0 0))]) rfl hk rfl rfl rfl (bd31_1 A_r5_3_2 ((([] : List Int) ++ x0.Pos).length) p_r5_3_3 A_r5_7_2 ((([] : List S_Block) ++ x0.Stash).length) p_r5_7_3 (some ⟨b_r5_8_1, 0, none⟩) 0 0) fun a hk => qe hk) fun a hk => ?_
        refine tsst hk rfl rfl (fun K_r5_10 hK_r5_10 w hF => ?_) wt_stop
        have hs := hs.f hF
        refine salx 106201 hs rfl hk rfl rfl ze31 rfl fun b_r5_10_1 w a hk hs => ?_
        refine se (hs.pick [(5, 5), (4, 4)] rfl) hk (hK_r5_10 _ _ ?_)
        refine tlst hk rfl rfl fun K_r5_11 hK_r5_11 w hF => ?_
        have hs := hs.f hF
        refine ssw 106201 hs rfl rfl hk rfl rfl rfl rfl sz31 (by simp [Value.oneCell']) rfl fun w a hk hs => ?_
        refine se trivial hk (hK_r5_11 _ _ fun w hF => ?_)
        have hs := hs.f hF
        show R6 _ _
        rw [hR6]
        exact ⟨b_r5_10_1, A_r5_3_2, p_r5_3_3, A_r5_7_2, p_r5_7_3, b_r5_8_1, k_r5_3_4, k_r5_7_4, k_r5_8_2, (hk.c 1 rfl (hk.c 2 rfl (hk.c 3 rfl hk.k))), (hs.pick [(4, 4), (5, 5), (106201, 106201), (106001, 106001), (106081, 106081), (106161, 106161)] rfl), o_r5_3_5, o_r5_7_5, o_r5_8_3⟩
       refine tsst hk rfl rfl (fun K_r5_10 hK_r5_10 w hF => ?_) wt_stop
       have hs := hs.f hF
       refine salx 106201 hs rfl hk rfl rfl ze31 rfl fun b_r5_10_1 w a hk hs => ?_
       refine se (hs.pick [(5, 5), (4, 4)] rfl) hk (hK_r5_10 _ _ ?_)
       refine tsst hk rfl rfl (fun K_r5_7 hK_r5_7 w hF => ?_) wt_stop
       have hs := hs.f hF
       refine sap 106081 (xs := ([] : List S_Block)) (ys := x0.Stash) (flat_flat : (L_Block).Flat) hs rfl o_r5_4_3 v0_1 (hs.hasD (k := 2) rfl) rfl hk rfl rfl rfl rfl rfl rfl un28 mk102 rfl rfl rfl c_r5_7_1 fun A_r5_7_2 p_r5_7_3 k_r5_7_4 w a hk o_r5_7_5 hs => ?_
       refine se (hs.pick [(5, 5), (4, 4)] rfl) hk (hK_r5_7 _ _ ?_)
       refine tsst hk rfl rfl (fun K_r5_9 hK_r5_9 w hF => ?_) wt_stop
       have hs := hs.f hF
       refine sbd (pv := [(0, (.slice A_r5_3_2 (([] : List Int) ++ x0.Pos).length p_r5_3_3)), (1, (.slice A_r5_7_2 (([] : List S_Block) ++ x0.Stash).length p_r5_7_3)), (2, (.slice (some ⟨b_r5_8_1, 0, none⟩) 0 0))]) rfl hk rfl rfl rfl (bd31_1 A_r5_3_2 ((([] : List Int) ++ x0.Pos).length) p_r5_3_3 A_r5_7_2 ((([] : List S_Block) ++ x0.Stash).length) p_r5_7_3 (some ⟨b_r5_8_1, 0, none⟩) 0 0) fun a hk => ?_
       refine se (hs.pick [(5, 5), (4, 4)] rfl) hk (hK_r5_9 _ _ ?_)
       refine tlst hk rfl rfl fun K_r5_11 hK_r5_11 w hF => ?_
       have hs := hs.f hF
       refine ssw 106201 hs rfl rfl hk rfl rfl rfl rfl sz31 (by simp [Value.oneCell']) rfl fun w a hk hs => ?_
       refine se trivial hk (hK_r5_11 _ _ fun w hF => ?_)
       have hs := hs.f hF
       show R6 _ _
       rw [hR6]
       exact ⟨b_r5_10_1, A_r5_3_2, p_r5_3_3, A_r5_7_2, p_r5_7_3, b_r5_8_1, k_r5_3_4, k_r5_7_4, k_r5_8_2, (hk.c 1 rfl (hk.c 2 rfl (hk.c 3 rfl hk.k))), (hs.pick [(4, 4), (5, 5), (106201, 106201), (106001, 106001), (106081, 106081), (106161, 106161)] rfl), o_r5_3_5, o_r5_7_5, o_r5_8_3⟩
      refine tsst hk rfl rfl (fun K_r5_10 hK_r5_10 w hF => ?_) wt_stop
      have hs := hs.f hF
      refine salx 106201 hs rfl hk rfl rfl ze31 rfl fun b_r5_10_1 w a hk hs => ?_
      refine se (hs.pick [(5, 5), (4, 4)] rfl) hk (hK_r5_10 _ _ ?_)
      refine tsst hk rfl rfl (fun K_r5_7 hK_r5_7 w hF => ?_) ?_
      ·skip
       have hs := hs.f hF
       refine sap 106081 (xs := ([] : List S_Block)) (ys := x0.Stash) (flat_flat : (L_Block).Flat) hs rfl o_r5_4_3 v0_1 (hs.hasD (k := 2) rfl) rfl hk rfl rfl rfl rfl rfl rfl un28 mk102 rfl rfl rfl c_r5_7_1 fun A_r5_7_2 p_r5_7_3 k_r5_7_4 w a hk o_r5_7_5 hs => ?_
       refine se (hs.pick [(5, 5), (4, 4)] rfl) hk (hK_r5_7 _ _ ?_)
       refine tsst hk rfl rfl (fun K_r5_8 hK_r5_8 w hF => ?_) wt_stop
       have hs := hs.f hF
       refine sbs0 106161 (Lay.sl L_Block 102) hs rfl hk rfl rfl un29 sz28 fun b_r5_8_1 k_r5_8_2 w a hk o_r5_8_3 hs => ?_
       refine se (hs.pick [(5, 5), (4, 4)] rfl) hk (hK_r5_8 _ _ ?_)
       refine tsst hk rfl rfl (fun K_r5_9 hK_r5_9 w hF => ?_) wt_stop
       have hs := hs.f hF
       refine sbd (pv := [(0, (.slice A_r5_3_2 (([] : List Int) ++ x0.Pos).length p_r5_3_3)), (1, (.slice A_r5_7_2 (([] : List S_Block) ++ x0.Stash).length p_r5_7_3)), (2, (.slice (some ⟨b_r5_8_1, 0, none⟩) 0 0))]) rfl hk rfl rfl rfl (bd31_1 A_r5_3_2 ((([] : List Int) ++ x0.Pos).length) p_r5_3_3 A_r5_7_2 ((([] : List S_Block) ++ x0.Stash).length) p_r5_7_3 (some ⟨b_r5_8_1, 0, none⟩) 0 0) fun a hk => ?_
       refine se (hs.pick [(5, 5), (4, 4)] rfl) hk (hK_r5_9 _ _ ?_)
       refine tlst hk rfl rfl fun K_r5_11 hK_r5_11 w hF => ?_
       have hs := hs.f hF
       refine ssw 106201 hs rfl rfl hk rfl rfl rfl rfl sz31 (by simp [Value.oneCell']) rfl fun w a hk hs => ?_
       refine se trivial hk (hK_r5_11 _ _ fun w hF => ?_)
       have hs := hs.f hF
       show R6 _ _
       rw [hR6]
       exact ⟨b_r5_10_1, A_r5_3_2, p_r5_3_3, A_r5_7_2, p_r5_7_3, b_r5_8_1, k_r5_3_4, k_r5_7_4, k_r5_8_2, (hk.c 1 rfl (hk.c 2 rfl (hk.c 3 rfl hk.k))), (hs.pick [(4, 4), (5, 5), (106201, 106201), (106001, 106001), (106081, 106081), (106161, 106161)] rfl), o_r5_3_5, o_r5_7_5, o_r5_8_3⟩
      refine tsst hk rfl rfl (fun K_r5_8 hK_r5_8 w hF => ?_) wt_stop
      have hs := hs.f hF
      refine sbs0 106161 (Lay.sl L_Block 102) hs rfl hk rfl rfl un29 sz28 fun b_r5_8_1 k_r5_8_2 w a hk o_r5_8_3 hs => ?_
      refine se (hs.pick [(5, 5), (4, 4)] rfl) hk (hK_r5_8 _ _ ?_)
      refine tsst hk rfl rfl (fun K_r5_7 hK_r5_7 w hF => ?_) wt_stop
      have hs := hs.f hF
      refine sap 106081 (xs := ([] : List S_Block)) (ys := x0.Stash) (flat_flat : (L_Block).Flat) hs rfl o_r5_4_3 v0_1 (hs.hasD (k := 2) rfl) rfl hk rfl rfl rfl rfl rfl rfl un28 mk102 rfl rfl rfl c_r5_7_1 fun A_r5_7_2 p_r5_7_3 k_r5_7_4 w a hk o_r5_7_5 hs => ?_
      refine se (hs.pick [(5, 5), (4, 4)] rfl) hk (hK_r5_7 _ _ ?_)
      refine tsst hk rfl rfl (fun K_r5_9 hK_r5_9 w hF => ?_) wt_stop
      have hs := hs.f hF
      refine sbd (pv := [(0, (.slice A_r5_3_2 (([] : List Int) ++ x0.Pos).length p_r5_3_3)), (1, (.slice A_r5_7_2 (([] : List S_Block) ++ x0.Stash).length p_r5_7_3)), (2, (.slice (some ⟨b_r5_8_1, 0, none⟩) 0 0))]) rfl hk rfl rfl rfl (bd31_1 A_r5_3_2 ((([] : List Int) ++ x0.Pos).length) p_r5_3_3 A_r5_7_2 ((([] : List S_Block) ++ x0.Stash).length) p_r5_7_3 (some ⟨b_r5_8_1, 0, none⟩) 0 0) fun a hk => ?_
      refine se (hs.pick [(5, 5), (4, 4)] rfl) hk (hK_r5_9 _ _ ?_)
      refine tlst hk rfl rfl fun K_r5_11 hK_r5_11 w hF => ?_
      have hs := hs.f hF
      refine ssw 106201 hs rfl rfl hk rfl rfl rfl rfl sz31 (by simp [Value.oneCell']) rfl fun w a hk hs => ?_
      refine se trivial hk (hK_r5_11 _ _ fun w hF => ?_)
      have hs := hs.f hF
      show R6 _ _
      rw [hR6]
      exact ⟨b_r5_10_1, A_r5_3_2, p_r5_3_3, A_r5_7_2, p_r5_7_3, b_r5_8_1, k_r5_3_4, k_r5_7_4, k_r5_8_2, (hk.c 1 rfl (hk.c 2 rfl (hk.c 3 rfl hk.k))), (hs.pick [(4, 4), (5, 5), (106201, 106201), (106001, 106001), (106081, 106081), (106161, 106161)] rfl), o_r5_3_5, o_r5_7_5, o_r5_8_3⟩
     refine tsst hk rfl rfl (fun K_r5_8 hK_r5_8 w hF => ?_) ?_
     ·skip
      have hs := hs.f hF
      refine sbs0 106161 (Lay.sl L_Block 102) hs rfl hk rfl rfl un29 sz28 fun b_r5_8_1 k_r5_8_2 w a hk o_r5_8_3 hs => ?_
      refine se (hs.pick [(5, 5), (4, 4)] rfl) hk (hK_r5_8 _ _ ?_)
      refine tsst hk rfl rfl (fun K_r5_4 hK_r5_4 w hF => ?_) ?_
      ·skip
       have hs := hs.f hF
       refine sbs0 106081 L_Block hs rfl hk rfl rfl un28 sz102 fun b_r5_4_1 k_r5_4_2 w a hk o_r5_4_3 hs => ?_
       refine se (hs.pick [(5, 5), (4, 4)] rfl) hk (hK_r5_4 _ _ ?_)
       refine tsst hk rfl rfl (fun K_r5_7 hK_r5_7 w hF => ?_) ?_
       ·skip
        have hs := hs.f hF
        refine sap 106081 (xs := ([] : List S_Block)) (ys := x0.Stash) (flat_flat : (L_Block).Flat) hs rfl o_r5_4_3 v0_1 (hs.hasD (k := 2) rfl) rfl hk rfl rfl rfl rfl rfl rfl un28 mk102 rfl rfl rfl c_r5_7_1 fun A_r5_7_2 p_r5_7_3 k_r5_7_4 w a hk o_r5_7_5 hs => ?_
        refine se (hs.pick [(5, 5), (4, 4)] rfl) hk (hK_r5_7 _ _ ?_)
        refine tqst (.agg #[.slice A_r5_3_2 (([] : List Int) ++ x0.Pos).length p_r5_3_3, .slice A_r5_7_2 (([] : List S_Block) ++ x0.Stash).length p_r5_7_3, .slice (some ⟨b_r5_8_1, 0, none⟩) 0 0]) hk rfl rfl rfl rfl (fun w hs => sbd (pv := [(0, (.slice A_r5_3_2 (([] : List Int) ++ x0.Pos).length p_r5_3_3)), (1, (.slice A_r5_7_2 (([] : List S_Block) ++ x0.Stash).length p_r5_7_3)), (2, (.slice (some ⟨b_r5_8_1, 0, none⟩) 0 0))]) rfl hk rfl rfl rfl (bd31_1 A_r5_3_2 ((([] : List Int) ++ x0.Pos).length) p_r5_3_3 A_r5_7_2 ((([] : List S_Block) ++ x0.Stash).length) p_r5_7_3 (some ⟨b_r5_8_1, 0, none⟩) 0 0) fun a hk => qe hk) fun a hk => ?_
        refine tsst hk rfl rfl (fun K_r5_10 hK_r5_10 w hF => ?_) wt_stop
        have hs := hs.f hF
        refine salx 106201 hs rfl hk rfl rfl ze31 rfl fun b_r5_10_1 w a hk hs => ?_
        refine se (hs.pick [(5, 5), (4, 4)] rfl) hk (hK_r5_10 _ _ ?_)
        refine tlst hk rfl rfl fun K_r5_11 hK_r5_11 w hF => ?_
        have hs := hs.f hF
        refine ssw 106201 hs rfl rfl hk rfl rfl rfl rfl sz31 (by simp [Value.oneCell']) rfl fun w a hk hs => ?_
        refine se trivial hk (hK_r5_11 _ _ fun w hF => ?_)
        have hs := hs.f hF
        show R6 _ _
        rw [hR6]
        exact ⟨b_r5_10_1, A_r5_3_2, p_r5_3_3, A_r5_7_2, p_r5_7_3, b_r5_8_1, k_r5_3_4, k_r5_7_4, k_r5_8_2, (hk.c 1 rfl (hk.c 2 rfl (hk.c 3 rfl hk.k))), (hs.pick [(4, 4), (5, 5), (106201, 106201), (106001, 106001), (106081, 106081), (106161, 106161)] rfl), o_r5_3_5, o_r5_7_5, o_r5_8_3⟩
       refine tsst hk rfl rfl (fun K_r5_10 hK_r5_10 w hF => ?_) wt_stop
       have hs := hs.f hF
       refine salx 106201 hs rfl hk rfl rfl ze31 rfl fun b_r5_10_1 w a hk hs => ?_
       refine se (hs.pick [(5, 5), (4, 4)] rfl) hk (hK_r5_10 _ _ ?_)
       refine tsst hk rfl rfl (fun K_r5_7 hK_r5_7 w hF => ?_) wt_stop
       have hs := hs.f hF
       refine sap 106081 (xs := ([] : List S_Block)) (ys := x0.Stash) (flat_flat : (L_Block).Flat) hs rfl o_r5_4_3 v0_1 (hs.hasD (k := 2) rfl) rfl hk rfl rfl rfl rfl rfl rfl un28 mk102 rfl rfl rfl c_r5_7_1 fun A_r5_7_2 p_r5_7_3 k_r5_7_4 w a hk o_r5_7_5 hs => ?_
       refine se (hs.pick [(5, 5), (4, 4)] rfl) hk (hK_r5_7 _ _ ?_)
       refine tsst hk rfl rfl (fun K_r5_9 hK_r5_9 w hF => ?_) wt_stop
       have hs := hs.f hF
       refine sbd (pv := [(0, (.slice A_r5_3_2 (([] : List Int) ++ x0.Pos).length p_r5_3_3)), (1, (.slice A_r5_7_2 (([] : List S_Block) ++ x0.Stash).length p_r5_7_3)), (2, (.slice (some ⟨b_r5_8_1, 0, none⟩) 0 0))]) rfl hk rfl rfl rfl (bd31_1 A_r5_3_2 ((([] : List Int) ++ x0.Pos).length) p_r5_3_3 A_r5_7_2 ((([] : List S_Block) ++ x0.Stash).length) p_r5_7_3 (some ⟨b_r5_8_1, 0, none⟩) 0 0) fun a hk => ?_
       refine se (hs.pick [(5, 5), (4, 4)] rfl) hk (hK_r5_9 _ _ ?_)
       refine tlst hk rfl rfl fun K_r5_11 hK_r5_11 w hF => ?_
       have hs := hs.f hF
       refine ssw 106201 hs rfl rfl hk rfl rfl rfl rfl sz31 (by simp [Value.oneCell']) rfl fun w a hk hs => ?_
       refine se trivial hk (hK_r5_11 _ _ fun w hF => ?_)
       have hs := hs.f hF
       show R6 _ _
       rw [hR6]
       exact ⟨b_r5_10_1, A_r5_3_2, p_r5_3_3, A_r5_7_2, p_r5_7_3, b_r5_8_1, k_r5_3_4, k_r5_7_4, k_r5_8_2, (hk.c 1 rfl (hk.c 2 rfl (hk.c 3 rfl hk.k))), (hs.pick [(4, 4), (5, 5), (106201, 106201), (106001, 106001), (106081, 106081), (106161, 106161)] rfl), o_r5_3_5, o_r5_7_5, o_r5_8_3⟩
      refine tsst hk rfl rfl (fun K_r5_10 hK_r5_10 w hF => ?_) wt_stop
      have hs := hs.f hF
      refine salx 106201 hs rfl hk rfl rfl ze31 rfl fun b_r5_10_1 w a hk hs => ?_
      refine se (hs.pick [(5, 5), (4, 4)] rfl) hk (hK_r5_10 _ _ ?_)
      refine tsst hk rfl rfl (fun K_r5_4 hK_r5_4 w hF => ?_) wt_stop
      have hs := hs.f hF
      refine sbs0 106081 L_Block hs rfl hk rfl rfl un28 sz102 fun b_r5_4_1 k_r5_4_2 w a hk o_r5_4_3 hs => ?_
      refine se (hs.pick [(5, 5), (4, 4)] rfl) hk (hK_r5_4 _ _ ?_)
      refine tsst hk rfl rfl (fun K_r5_7 hK_r5_7 w hF => ?_) wt_stop
      have hs := hs.f hF
      refine sap 106081 (xs := ([] : List S_Block)) (ys := x0.Stash) (flat_flat : (L_Block).Flat) hs rfl o_r5_4_3 v0_1 (hs.hasD (k := 2) rfl) rfl hk rfl rfl rfl rfl rfl rfl un28 mk102 rfl rfl rfl c_r5_7_1 fun A_r5_7_2 p_r5_7_3 k_r5_7_4 w a hk o_r5_7_5 hs => ?_
      refine se (hs.pick [(5, 5), (4, 4)] rfl) hk (hK_r5_7 _ _ ?_)
      refine tsst hk rfl rfl (fun K_r5_9 hK_r5_9 w hF => ?_) wt_stop
      have hs := hs.f hF
      refine sbd (pv := [(0, (.slice A_r5_3_2 (([] : List Int) ++ x0.Pos).length p_r5_3_3)), (1, (.slice A_r5_7_2 (([] : List S_Block) ++ x0.Stash).length p_r5_7_3)), (2, (.slice (some ⟨b_r5_8_1, 0, none⟩) 0 0))]) rfl hk rfl rfl rfl (bd31_1 A_r5_3_2 ((([] : List Int) ++ x0.Pos).length) p_r5_3_3 A_r5_7_2 ((([] : List S_Block) ++ x0.Stash).length) p_r5_7_3 (some ⟨b_r5_8_1, 0, none⟩) 0 0) fun a hk => ?_
      refine se (hs.pick [(5, 5), (4, 4)] rfl) hk (hK_r5_9 _ _ ?_)
      refine tlst hk rfl rfl fun K_r5_11 hK_r5_11 w hF => ?_
      have hs := hs.f hF
      refine ssw 106201 hs rfl rfl hk rfl rfl rfl rfl sz31 (by simp [Value.oneCell']) rfl fun w a hk hs => ?_
      refine se trivial hk (hK_r5_11 _ _ fun w hF => ?_)
      have hs := hs.f hF
      show R6 _ _
      rw [hR6]
      exact ⟨b_r5_10_1, A_r5_3_2, p_r5_3_3, A_r5_7_2, p_r5_7_3, b_r5_8_1, k_r5_3_4, k_r5_7_4, k_r5_8_2, (hk.c 1 rfl (hk.c 2 rfl (hk.c 3 rfl hk.k))), (hs.pick [(4, 4), (5, 5), (106201, 106201), (106001, 106001), (106081, 106081), (106161, 106161)] rfl), o_r5_3_5, o_r5_7_5, o_r5_8_3⟩
     refine tsst hk rfl rfl (fun K_r5_10 hK_r5_10 w hF => ?_) wt_stop
     have hs := hs.f hF
     refine salx 106201 hs rfl hk rfl rfl ze31 rfl fun b_r5_10_1 w a hk hs => ?_
     refine se (hs.pick [(5, 5), (4, 4)] rfl) hk (hK_r5_10 _ _ ?_)
     refine tsst hk rfl rfl (fun K_r5_4 hK_r5_4 w hF => ?_) ?_
     ·skip
      have hs := hs.f hF
      refine sbs0 106081 L_Block hs rfl hk rfl rfl un28 sz102 fun b_r5_4_1 k_r5_4_2 w a hk o_r5_4_3 hs => ?_
      refine se (hs.pick [(5, 5), (4, 4)] rfl) hk (hK_r5_4 _ _ ?_)
      refine tsst hk rfl rfl (fun K_r5_7 hK_r5_7 w hF => ?_) ?_
      ·skip
       have hs := hs.f hF
       refine sap 106081 (xs := ([] : List S_Block)) (ys := x0.Stash) (flat_flat : (L_Block).Flat) hs rfl o_r5_4_3 v0_1 (hs.hasD (k := 2) rfl) rfl hk rfl rfl rfl rfl rfl rfl un28 mk102 rfl rfl rfl c_r5_7_1 fun A_r5_7_2 p_r5_7_3 k_r5_7_4 w a hk o_r5_7_5 hs => ?_
       refine se (hs.pick [(5, 5), (4, 4)] rfl) hk (hK_r5_7 _ _ ?_)
       refine tsst hk rfl rfl (fun K_r5_8 hK_r5_8 w hF => ?_) wt_stop
       have hs := hs.f hF
       refine sbs0 106161 (Lay.sl L_Block 102) hs rfl hk rfl rfl un29 sz28 fun b_r5_8_1 k_r5_8_2 w a hk o_r5_8_3 hs => ?_
       refine se (hs.pick [(5, 5), (4, 4)] rfl) hk (hK_r5_8 _ _ ?_)
       refine tsst hk rfl rfl (fun K_r5_9 hK_r5_9 w hF => ?_) wt_stop
       have hs := hs.f hF
       refine sbd (pv := [(0, (.slice A_r5_3_2 (([] : List Int) ++ x0.Pos).length p_r5_3_3)), (1, (.slice A_r5_7_2 (([] : List S_Block) ++ x0.Stash).length p_r5_7_3)), (2, (.slice (some ⟨b_r5_8_1, 0, none⟩) 0 0))]) rfl hk rfl rfl rfl (bd31_1 A_r5_3_2 ((([] : List Int) ++ x0.Pos).length) p_r5_3_3 A_r5_7_2 ((([] : List S_Block) ++ x0.Stash).length) p_r5_7_3 (some ⟨b_r5_8_1, 0, none⟩) 0 0) fun a hk => ?_
       refine se (hs.pick [(5, 5), (4, 4)] rfl) hk (hK_r5_9 _ _ ?_)
       refine tlst hk rfl rfl fun K_r5_11 hK_r5_11 w hF => ?_
       have hs := hs.f hF
       refine ssw 106201 hs rfl rfl hk rfl rfl rfl rfl sz31 (by simp [Value.oneCell']) rfl fun w a hk hs => ?_
       refine se trivial hk (hK_r5_11 _ _ fun w hF => ?_)
       have hs := hs.f hF
       show R6 _ _
       rw [hR6]
       exact ⟨b_r5_10_1, A_r5_3_2, p_r5_3_3, A_r5_7_2, p_r5_7_3, b_r5_8_1, k_r5_3_4, k_r5_7_4, k_r5_8_2, (hk.c 1 rfl (hk.c 2 rfl (hk.c 3 rfl hk.k))), (hs.pick [(4, 4), (5, 5), (106201, 106201), (106001, 106001), (106081, 106081), (106161, 106161)] rfl), o_r5_3_5, o_r5_7_5, o_r5_8_3⟩
      refine tsst hk rfl rfl (fun K_r5_8 hK_r5_8 w hF => ?_) wt_stop
      have hs := hs.f hF
      refine sbs0 106161 (Lay.sl L_Block 102) hs rfl hk rfl rfl un29 sz28 fun b_r5_8_1 k_r5_8_2 w a hk o_r5_8_3 hs => ?_
      refine se (hs.pick [(5, 5), (4, 4)] rfl) hk (hK_r5_8 _ _ ?_)
      refine tsst hk rfl rfl (fun K_r5_7 hK_r5_7 w hF => ?_) wt_stop
      have hs := hs.f hF
      refine sap 106081 (xs := ([] : List S_Block)) (ys := x0.Stash) (flat_flat : (L_Block).Flat) hs rfl o_r5_4_3 v0_1 (hs.hasD (k := 2) rfl) rfl hk rfl rfl rfl rfl rfl rfl un28 mk102 rfl rfl rfl c_r5_7_1 fun A_r5_7_2 p_r5_7_3 k_r5_7_4 w a hk o_r5_7_5 hs => ?_
      refine se (hs.pick [(5, 5), (4, 4)] rfl) hk (hK_r5_7 _ _ ?_)
      refine tsst hk rfl rfl (fun K_r5_9 hK_r5_9 w hF => ?_) wt_stop
      have hs := hs.f hF
      refine sbd (pv := [(0, (.slice A_r5_3_2 (([] : List Int) ++ x0.Pos).length p_r5_3_3)), (1, (.slice A_r5_7_2 (([] : List S_Block) ++ x0.Stash).length p_r5_7_3)), (2, (.slice (some ⟨b_r5_8_1, 0, none⟩) 0 0))]) rfl hk rfl rfl rfl (bd31_1 A_r5_3_2 ((([] : List Int) ++ x0.Pos).length) p_r5_3_3 A_r5_7_2 ((([] : List S_Block) ++ x0.Stash).length) p_r5_7_3 (some ⟨b_r5_8_1, 0, none⟩) 0 0) fun a hk => ?_
      refine se (hs.pick [(5, 5), (4, 4)] rfl) hk (hK_r5_9 _ _ ?_)
      refine tlst hk rfl rfl fun K_r5_11 hK_r5_11 w hF => ?_
      have hs := hs.f hF
      refine ssw 106201 hs rfl rfl hk rfl rfl rfl rfl sz31 (by simp [Value.oneCell']) rfl fun w a hk hs => ?_
      refine se trivial hk (hK_r5_11 _ _ fun w hF => ?_)
      have hs := hs.f hF
      show R6 _ _
      rw [hR6]
      exact ⟨b_r5_10_1, A_r5_3_2, p_r5_3_3, A_r5_7_2, p_r5_7_3, b_r5_8_1, k_r5_3_4, k_r5_7_4, k_r5_8_2, (hk.c 1 rfl (hk.c 2 rfl (hk.c 3 rfl hk.k))), (hs.pick [(4, 4), (5, 5), (106201, 106201), (106001, 106001), (106081, 106081), (106161, 106161)] rfl), o_r5_3_5, o_r5_7_5, o_r5_8_3⟩
     refine tsst hk rfl rfl (fun K_r5_8 hK_r5_8 w hF => ?_) wt_stop
     have hs := hs.f hF
     refine sbs0 106161 (Lay.sl L_Block 102) hs rfl hk rfl rfl un29 sz28 fun b_r5_8_1 k_r5_8_2 w a hk o_r5_8_3 hs => ?_
     refine se (hs.pick [(5, 5), (4, 4)] rfl) hk (hK_r5_8 _ _ ?_)
     refine tsst hk rfl rfl (fun K_r5_4 hK_r5_4 w hF => ?_) wt_stop
     have hs := hs.f hF
     refine sbs0 106081 L_Block hs rfl hk rfl rfl un28 sz102 fun b_r5_4_1 k_r5_4_2 w a hk o_r5_4_3 hs => ?_
     refine se (hs.pick [(5, 5), (4, 4)] rfl) hk (hK_r5_4 _ _ ?_)
     refine tsst hk rfl rfl (fun K_r5_7 hK_r5_7 w hF => ?_) wt_stop
     have hs := hs.f hF
     refine sap 106081 (xs := ([] : List S_Block)) (ys := x0.Stash) (flat_flat : (L_Block).Flat) hs rfl o_r5_4_3 v0_1 (hs.hasD (k := 2) rfl) rfl hk rfl rfl rfl rfl rfl rfl un28 mk102 rfl rfl rfl c_r5_7_1 fun A_r5_7_2 p_r5_7_3 k_r5_7_4 w a hk o_r5_7_5 hs => ?_
     refine se (hs.pick [(5, 5), (4, 4)] rfl) hk (hK_r5_7 _ _ ?_)
     refine tsst hk rfl rfl (fun K_r5_9 hK_r5_9 w hF => ?_) wt_stop
     have hs := hs.f hF
     refine sbd (pv := [(0, (.slice A_r5_3_2 (([] : List Int) ++ x0.Pos).length p_r5_3_3)), (1, (.slice A_r5_7_2 (([] : List S_Block) ++ x0.Stash).length p_r5_7_3)), (2, (.slice (some ⟨b_r5_8_1, 0, none⟩) 0 0))]) rfl hk rfl rfl rfl (bd31_1 A_r5_3_2 ((([] : List Int) ++ x0.Pos).length) p_r5_3_3 A_r5_7_2 ((([] : List S_Block) ++ x0.Stash).length) p_r5_7_3 (some ⟨b_r5_8_1, 0, none⟩) 0 0) fun a hk => ?_
     refine se (hs.pick [(5, 5), (4, 4)] rfl) hk (hK_r5_9 _ _ ?_)
     refine tlst hk rfl rfl fun K_r5_11 hK_r5_11 w hF => ?_
     have hs := hs.f hF
     refine ssw 106201 hs rfl rfl hk rfl rfl rfl rfl sz31 (by simp [Value.oneCell']) rfl fun w a hk hs => ?_
     refine se trivial hk (hK_r5_11 _ _ fun w hF => ?_)
     have hs := hs.f hF
     show R6 _ _
     rw [hR6]
     exact ⟨b_r5_10_1, A_r5_3_2, p_r5_3_3, A_r5_7_2, p_r5_7_3, b_r5_8_1, k_r5_3_4, k_r5_7_4, k_r5_8_2, (hk.c 1 rfl (hk.c 2 rfl (hk.c 3 rfl hk.k))), (hs.pick [(4, 4), (5, 5), (106201, 106201), (106001, 106001), (106081, 106081), (106161, 106161)] rfl), o_r5_3_5, o_r5_7_5, o_r5_8_3⟩
    refine tsst hk rfl rfl (fun K_r5_4 hK_r5_4 w hF => ?_) ?_
    ·skip
     have hs := hs.f hF
     refine sbs0 106081 L_Block hs rfl hk rfl rfl un28 sz102 fun b_r5_4_1 k_r5_4_2 w a hk o_r5_4_3 hs => ?_
     refine se (hs.pick [(5, 5), (4, 4)] rfl) hk (hK_r5_4 _ _ ?_)
     refine tsst hk rfl rfl (fun K_r5_3 hK_r5_3 w hF => ?_) ?_
     ·skip
      have hs := hs.f hF
      refine sap 106001 (xs := ([] : List Int)) (ys := x0.Pos) (flat_flat : ((Lay.int .i64)).Flat) hs rfl o_r5_0_3 v0_0 (hs.hasD (k := 1) rfl) rfl hk rfl rfl rfl rfl rfl rfl un22 mk3 rfl rfl rfl c_r5_3_1 fun A_r5_3_2 p_r5_3_3 k_r5_3_4 w a hk o_r5_3_5 hs => ?_
      refine se (hs.pick [(5, 5), (4, 4)] rfl) hk (hK_r5_3 _ _ ?_)
      refine tsst hk rfl rfl (fun K_r5_7 hK_r5_7 w hF => ?_) ?_
      ·skip
       have hs := hs.f hF
       refine sap 106081 (xs := ([] : List S_Block)) (ys := x0.Stash) (flat_flat : (L_Block).Flat) hs rfl o_r5_4_3 v0_1 (hs.hasD (k := 2) rfl) rfl hk rfl rfl rfl rfl rfl rfl un28 mk102 rfl rfl rfl c_r5_7_1 fun A_r5_7_2 p_r5_7_3 k_r5_7_4 w a hk o_r5_7_5 hs => ?_
       refine se (hs.pick [(5, 5), (4, 4)] rfl) hk (hK_r5_7 _ _ ?_)
       refine tsst hk rfl rfl (fun K_r5_8 hK_r5_8 w hF => ?_) ?_
       ·skip
        have hs := hs.f hF
        refine sbs0 106161 (Lay.sl L_Block 102) hs rfl hk rfl rfl un29 sz28 fun b_r5_8_1 k_r5_8_2 w a hk o_r5_8_3 hs => ?_
        refine se (hs.pick [(5, 5), (4, 4)] rfl) hk (hK_r5_8 _ _ ?_)
        refine tqst (.agg #[.slice A_r5_3_2 (([] : List Int) ++ x0.Pos).length p_r5_3_3, .slice A_r5_7_2 (([] : List S_Block) ++ x0.Stash).length p_r5_7_3, .slice (some ⟨b_r5_8_1, 0, none⟩) 0 0]) hk rfl rfl rfl rfl (fun w hs => sbd (pv := [(0, (.slice A_r5_3_2 (([] : List Int) ++ x0.Pos).length p_r5_3_3)), (1, (.slice A_r5_7_2 (([] : List S_Block) ++ x0.Stash).length p_r5_7_3)), (2, (.slice (some ⟨b_r5_8_1, 0, none⟩) 0 0))]) rfl hk rfl rfl rfl (bd31_1 A_r5_3_2 ((([] : List Int) ++ x0.Pos).length) p_r5_3_3 A_r5_7_2 ((([] : List S_Block) ++ x0.Stash).length) p_r5_7_3 (some ⟨b_r5_8_1, 0, none⟩) 0 0) fun a hk => qe hk) fun a hk => ?_
        refine tsst hk rfl rfl (fun K_r5_10 hK_r5_10 w hF => ?_) wt_stop
        have hs := hs.f hF
        refine salx 106201 hs rfl hk rfl rfl ze31 rfl fun b_r5_10_1 w a hk hs => ?_
        refine se (hs.pick [(5, 5), (4, 4)] rfl) hk (hK_r5_10 _ _ ?_)
        refine tlst hk rfl rfl fun K_r5_11 hK_r5_11 w hF => ?_
        have hs := hs.f hF
        refine ssw 106201 hs rfl rfl hk rfl rfl rfl rfl sz31 (by simp [Value.oneCell']) rfl fun w a hk hs => ?_
        refine se trivial hk (hK_r5_11 _ _ fun w hF => ?_)
        have hs := hs.f hF
        show R6 _ _
        rw [hR6]
        exact ⟨b_r5_10_1, A_r5_3_2, p_r5_3_3, A_r5_7_2, p_r5_7_3, b_r5_8_1, k_r5_3_4, k_r5_7_4, k_r5_8_2, (hk.c 1 rfl (hk.c 2 rfl (hk.c 3 rfl hk.k))), (hs.pick [(4, 4), (5, 5), (106201, 106201), (106001, 106001), (106081, 106081), (106161, 106161)] rfl), o_r5_3_5, o_r5_7_5, o_r5_8_3⟩
       refine tsst hk rfl rfl (fun K_r5_10 hK_r5_10 w hF => ?_) wt_stop
       have hs := hs.f hF
       refine salx 106201 hs rfl hk rfl rfl ze31 rfl fun b_r5_10_1 w a hk hs => ?_
       refine se (hs.pick [(5, 5), (4, 4)] rfl) hk (hK_r5_10 _ _ ?_)
       refine tsst hk rfl rfl (fun K_r5_8 hK_r5_8 w hF => ?_) wt_stop
       have hs := hs.f hF
       refine sbs0 106161 (Lay.sl L_Block 102) hs rfl hk rfl rfl un29 sz28 fun b_r5_8_1 k_r5_8_2 w a hk o_r5_8_3 hs => ?_
       refine se (hs.pick [(5, 5), (4, 4)] rfl) hk (hK_r5_8 _ _ ?_)
       refine tsst hk rfl rfl (fun K_r5_9 hK_r5_9 w hF => ?_) wt_stop
       have hs := hs.f hF
       refine sbd (pv := [(0, (.slice A_r5_3_2 (([] : List Int) ++ x0.Pos).length p_r5_3_3)), (1, (.slice A_r5_7_2 (([] : List S_Block) ++ x0.Stash).length p_r5_7_3)), (2, (.slice (some ⟨b_r5_8_1, 0, none⟩) 0 0))]) rfl hk rfl rfl rfl (bd31_1 A_r5_3_2 ((([] : List Int) ++ x0.Pos).length) p_r5_3_3 A_r5_7_2 ((([] : List S_Block) ++ x0.Stash).length) p_r5_7_3 (some ⟨b_r5_8_1, 0, none⟩) 0 0) fun a hk => ?_
       refine se (hs.pick [(5, 5), (4, 4)] rfl) hk (hK_r5_9 _ _ ?_)
       refine tlst hk rfl rfl fun K_r5_11 hK_r5_11 w hF => ?_
       have hs := hs.f hF
       refine ssw 106201 hs rfl rfl hk rfl rfl rfl rfl sz31 (by simp [Value.oneCell']) rfl fun w a hk hs => ?_
       refine se trivial hk (hK_r5_11 _ _ fun w hF => ?_)
       have hs := hs.f hF
       show R6 _ _
       rw [hR6]
       exact ⟨b_r5_10_1, A_r5_3_2, p_r5_3_3, A_r5_7_2, p_r5_7_3, b_r5_8_1, k_r5_3_4, k_r5_7_4, k_r5_8_2, (hk.c 1 rfl (hk.c 2 rfl (hk.c 3 rfl hk.k))), (hs.pick [(4, 4), (5, 5), (106201, 106201), (106001, 106001), (106081, 106081), (106161, 106161)] rfl), o_r5_3_5, o_r5_7_5, o_r5_8_3⟩
      refine tsst hk rfl rfl (fun K_r5_8 hK_r5_8 w hF => ?_) ?_
      ·skip
       have hs := hs.f hF
       refine sbs0 106161 (Lay.sl L_Block 102) hs rfl hk rfl rfl un29 sz28 fun b_r5_8_1 k_r5_8_2 w a hk o_r5_8_3 hs => ?_
       refine se (hs.pick [(5, 5), (4, 4)] rfl) hk (hK_r5_8 _ _ ?_)
       refine tsst hk rfl rfl (fun K_r5_7 hK_r5_7 w hF => ?_) ?_
       ·skip
        have hs := hs.f hF
        refine sap 106081 (xs := ([] : List S_Block)) (ys := x0.Stash) (flat_flat : (L_Block).Flat) hs rfl o_r5_4_3 v0_1 (hs.hasD (k := 2) rfl) rfl hk rfl rfl rfl rfl rfl rfl un28 mk102 rfl rfl rfl c_r5_7_1 fun A_r5_7_2 p_r5_7_3 k_r5_7_4 w a hk o_r5_7_5 hs => ?_
        refine se (hs.pick [(5, 5), (4, 4)] rfl) hk (hK_r5_7 _ _ ?_)
        refine tqst (.agg #[.slice A_r5_3_2 (([] : List Int) ++ x0.Pos).length p_r5_3_3, .slice A_r5_7_2 (([] : List S_Block) ++ x0.Stash).length p_r5_7_3, .slice (some ⟨b_r5_8_1, 0, none⟩) 0 0]) hk rfl rfl rfl rfl (fun w hs => sbd (pv := [(0, (.slice A_r5_3_2 (([] : List Int) ++ x0.Pos).length p_r5_3_3)), (1, (.slice A_r5_7_2 (([] : List S_Block) ++ x0.Stash).length p_r5_7_3)), (2, (.slice (some ⟨b_r5_8_1, 0, none⟩) 0 0))]) rfl hk rfl rfl rfl (bd31_1 A_r5_3_2 ((([] : List Int) ++ x0.Pos).length) p_r5_3_3 A_r5_7_2 ((([] : List S_Block) ++ x0.Stash).length) p_r5_7_3 (some ⟨b_r5_8_1, 0, none⟩) 0 0) fun a hk => qe hk) fun a hk => ?_
        refine tsst hk rfl rfl (fun K_r5_10 hK_r5_10 w hF => ?_) wt_stop
        have hs := hs.f hF
        refine salx 106201 hs rfl hk rfl rfl ze31 rfl fun b_r5_10_1 w a hk hs => ?_
        refine se (hs.pick [(5, 5), (4, 4)] rfl) hk (hK_r5_10 _ _ ?_)
        refine tlst hk rfl rfl fun K_r5_11 hK_r5_11 w hF => ?_
        have hs := hs.f hF
        refine ssw 106201 hs rfl rfl hk rfl rfl rfl rfl sz31 (by simp [Value.oneCell']) rfl fun w a hk hs => ?_
        refine se trivial hk (hK_r5_11 _ _ fun w hF => ?_)
        have hs := hs.f hF
        show R6 _ _
        rw [hR6]
        exact ⟨b_r5_10_1, A_r5_3_2, p_r5_3_3, A_r5_7_2, p_r5_7_3, b_r5_8_1, k_r5_3_4, k_r5_7_4, k_r5_8_2, (hk.c 1 rfl (hk.c 2 rfl (hk.c 3 rfl hk.k))), (hs.pick [(4, 4), (5, 5), (106201, 106201), (106001, 106001), (106081, 106081), (106161, 106161)] rfl), o_r5_3_5, o_r5_7_5, o_r5_8_3⟩
       refine tsst hk rfl rfl (fun K_r5_10 hK_r5_10 w hF => ?_) wt_stop
       have hs := hs.f hF
       refine salx 106201 hs rfl hk rfl rfl ze31 rfl fun b_r5_10_1 w a hk hs => ?_
       refine se (hs.pick [(5, 5), (4, 4)] rfl) hk (hK_r5_10 _ _ ?_)
       refine tsst hk rfl rfl (fun K_r5_7 hK_r5_7 w hF => ?_) wt_stop
       have hs := hs.f hF
       refine sap 106081 (xs := ([] : List S_Block)) (ys := x0.Stash) (flat_flat : (L_Block).Flat) hs rfl o_r5_4_3 v0_1 (hs.hasD (k := 2) rfl) rfl hk rfl rfl rfl rfl rfl rfl un28 mk102 rfl rfl rfl c_r5_7_1 fun A_r5_7_2 p_r5_7_3 k_r5_7_4 w a hk o_r5_7_5 hs => ?_
       refine se (hs.pick [(5, 5), (4, 4)] rfl) hk (hK_r5_7 _ _ ?_)
       refine tsst hk rfl rfl (fun K_r5_9 hK_r5_9 w hF => ?_) wt_stop
       have hs := hs.f hF
       refine sbd (pv := [(0, (.slice A_r5_3_2 (([] : List Int) ++ x0.Pos).length p_r5_3_3)), (1, (.slice A_r5_7_2 (([] : List S_Block) ++ x0.Stash).length p_r5_7_3)), (2, (.slice (some ⟨b_r5_8_1, 0, none⟩) 0 0))]) rfl hk rfl rfl rfl (bd31_1 A_r5_3_2 ((([] : List Int) ++ x0.Pos).length) p_r5_3_3 A_r5_7_2 ((([] : List S_Block) ++ x0.Stash).length) p_r5_7_3 (some ⟨b_r5_8_1, 0, none⟩) 0 0) fun a hk => ?_
       refine se (hs.pick [(5, 5), (4, 4)] rfl) hk (hK_r5_9 _ _ ?_)
       refine tlst hk rfl rfl fun K_r5_11 hK_r5_11 w hF => ?_
       have hs := hs.f hF
       refine ssw 106201 hs rfl rfl hk rfl rfl rfl rfl sz31 (by simp [Value.oneCell']) rfl fun w a hk hs => ?_
       refine se trivial hk (hK_r5_11 _ _ fun w hF => ?_)
       have hs := hs.f hF
       show R6 _ _
       rw [hR6]
       exact ⟨b_r5_10_1, A_r5_3_2, p_r5_3_3, A_r5_7_2, p_r5_7_3, b_r5_8_1, k_r5_3_4, k_r5_7_4, k_r5_8_2, (hk.c 1 rfl (hk.c 2 rfl (hk.c 3 rfl hk.k))), (hs.pick [(4, 4), (5, 5), (106201, 106201), (106001, 106001), (106081, 106081), (106161, 106161)] rfl), o_r5_3_5, o_r5_7_5, o_r5_8_3⟩
      refine tsst hk rfl rfl (fun K_r5_10 hK_r5_10 w hF => ?_) wt_stop
      have hs := hs.f hF
      refine salx 106201 hs rfl hk rfl rfl ze31 rfl fun b_r5_10_1 w a hk hs => ?_
      refine se (hs.pick [(5, 5), (4, 4)] rfl) hk (hK_r5_10 _ _ ?_)
      refine tsst hk rfl rfl (fun K_r5_7 hK_r5_7 w hF => ?_) ?_
      ·skip
       have hs := hs.f hF
       refine sap 106081 (xs := ([] : List S_Block)) (ys := x0.Stash) (flat_flat : (L_Block).Flat) hs rfl o_r5_4_3 v0_1 (hs.hasD (k := 2) rfl) rfl hk rfl rfl rfl rfl rfl rfl un28 mk102 rfl rfl rfl c_r5_7_1 fun A_r5_7_2 p_r5_7_3 k_r5_7_4 w a hk o_r5_7_5 hs => ?_
       refine se (hs.pick [(5, 5), (4, 4)] rfl) hk (hK_r5_7 _ _ ?_)
       refine tsst hk rfl rfl (fun K_r5_8 hK_r5_8 w hF => ?_) wt_stop
       have hs := hs.f hF
       refine sbs0 106161 (Lay.sl L_Block 102) hs rfl hk rfl rfl un29 sz28 fun b_r5_8_1 k_r5_8_2 w a hk o_r5_8_3 hs => ?_
       refine se (hs.pick [(5, 5), (4, 4)] rfl) hk (hK_r5_8 _ _ ?_)
       refine tsst hk rfl rfl (fun K_r5_9 hK_r5_9 w hF => ?_) wt_stop
       have hs := hs.f hF
       refine sbd (pv := [(0, (.slice A_r5_3_2 (([] : List Int) ++ x0.Pos).length p_r5_3_3)), (1, (.slice A_r5_7_2 (([] : List S_Block) ++ x0.Stash).length p_r5_7_3)), (2, (.slice (some ⟨b_r5_8_1, 0, none⟩) 0 0))]) rfl hk rfl rfl rfl (bd31_1 A_r5_3_2 ((([] : List Int) ++ x0.Pos).length) p_r5_3_3 A_r5_7_2 ((([] : List S_Block) ++ x0.Stash).length) p_r5_7_3 (some ⟨b_r5_8_1, 0, none⟩) 0 0) fun a hk => ?_
       refine se (hs.pick [(5, 5), (4, 4)] rfl) hk (hK_r5_9 _ _ ?_)
       refine tlst hk rfl rfl fun K_r5_11 hK_r5_11 w hF => ?_
       have hs := hs.f hF
       refine ssw 106201 hs rfl rfl hk rfl rfl rfl rfl sz31 (by simp [Value.oneCell']) rfl fun w a hk hs => ?_
       refine se trivial hk (hK_r5_11 _ _ fun w hF => ?_)
       have hs := hs.f hF
       show R6 _ _
       rw [hR6]
       exact ⟨b_r5_10_1, A_r5_3_2, p_r5_3_3, A_r5_7_2, p_r5_7_3, b_r5_8_1, k_r5_3_4, k_r5_7_4, k_r5_8_2, (hk.c 1 rfl (hk.c 2 rfl (hk.c 3 rfl hk.k))), (hs.pick [(4, 4), (5, 5), (106201, 106201), (106001, 106001), (106081, 106081), (106161, 106161)] rfl), o_r5_3_5, o_r5_7_5, o_r5_8_3⟩
      refine tsst hk rfl rfl (fun K_r5_8 hK_r5_8 w hF => ?_) wt_stop
      have hs := hs.f hF
      refine sbs0 106161 (Lay.sl L_Block 102) hs rfl hk rfl rfl un29 sz28 fun b_r5_8_1 k_r5_8_2 w a hk o_r5_8_3 hs => ?_
      refine se (hs.pick [(5, 5), (4, 4)] rfl) hk (hK_r5_8 _ _ ?_)
      refine tsst hk rfl rfl (fun K_r5_7 hK_r5_7 w hF => ?_) wt_stop
      have hs := hs.f hF
      refine sap 106081 (xs := ([] : List S_Block)) (ys := x0.Stash) (flat_flat : (L_Block).Flat) hs rfl o_r5_4_3 v0_1 (hs.hasD (k := 2) rfl) rfl hk rfl rfl rfl rfl rfl rfl un28 mk102 rfl rfl rfl c_r5_7_1 fun A_r5_7_2 p_r5_7_3 k_r5_7_4 w a hk o_r5_7_5 hs => ?_
      refine se (hs.pick [(5, 5), (4, 4)] rfl) hk (hK_r5_7 _ _ ?_)
      refine tsst hk rfl rfl (fun K_r5_9 hK_r5_9 w hF => ?_) wt_stop
      have hs := hs.f hF
      refine sbd (pv := [(0, (.slice A_r5_3_2 (([] : List Int) ++ x0.Pos).length p_r5_3_3)), (1, (.slice A_r5_7_2 (([] : List S_Block) ++ x0.Stash).length p_r5_7_3)), (2, (.slice (some ⟨b_r5_8_1, 0, none⟩) 0 0))]) rfl hk rfl rfl rfl (bd31_1 A_r5_3_2 ((([] : List Int) ++ x0.Pos).length) p_r5_3_3 A_r5_7_2 ((([] : List S_Block) ++ x0.Stash).length) p_r5_7_3 (some ⟨b_r5_8_1, 0, none⟩) 0 0) fun a hk => ?_
      refine se (hs.pick [(5, 5), (4, 4)] rfl) hk (hK_r5_9 _ _ ?_)
      refine tlst hk rfl rfl fun K_r5_11 hK_r5_11 w hF => ?_
      have hs := hs.f hF
      refine ssw 106201 hs rfl rfl hk rfl rfl rfl rfl sz31 (by simp [Value.oneCell']) rfl fun w a hk hs => ?_
      refine se trivial hk (hK_r5_11 _ _ fun w hF => ?_)
      have hs := hs.f hF
      show R6 _ _
      rw [hR6]
      exact ⟨b_r5_10_1, A_r5_3_2, p_r5_3_3, A_r5_7_2, p_r5_7_3, b_r5_8_1, k_r5_3_4, k_r5_7_4, k_r5_8_2, (hk.c 1 rfl (hk.c 2 rfl (hk.c 3 rfl hk.k))), (hs.pick [(4, 4), (5, 5), (106201, 106201), (106001, 106001), (106081, 106081), (106161, 106161)] rfl), o_r5_3_5, o_r5_7_5, o_r5_8_3⟩
     refine tsst hk rfl rfl (fun K_r5_8 hK_r5_8 w hF => ?_) ?_
     ·skip
      have hs := hs.f hF
      refine sbs0 106161 (Lay.sl L_Block 102) hs rfl hk rfl rfl un29 sz28 fun b_r5_8_1 k_r5_8_2 w a hk o_r5_8_3 hs => ?_
      refine se (hs.pick [(5, 5), (4, 4)] rfl) hk (hK_r5_8 _ _ ?_)
      refine tsst hk rfl rfl (fun K_r5_3 hK_r5_3 w hF => ?_) ?_
      ·skip
       have hs := hs.f hF
       refine sap 106001 (xs := ([] : List Int)) (ys := x0.Pos) (flat_flat : ((Lay.int .i64)).Flat) hs rfl o_r5_0_3 v0_0 (hs.hasD (k := 1) rfl) rfl hk rfl rfl rfl rfl rfl rfl un22 mk3 rfl rfl rfl c_r5_3_1 fun A_r5_3_2 p_r5_3_3 k_r5_3_4 w a hk o_r5_3_5 hs => ?_
       refine se (hs.pick [(5, 5), (4, 4)] rfl) hk (hK_r5_3 _ _ ?_)
       refine tsst hk rfl rfl (fun K_r5_7 hK_r5_7 w hF => ?_) ?_
       ·skip
        have hs := hs.f hF
        refine sap 106081 (xs := ([] : List S_Block)) (ys := x0.Stash) (flat_flat : (L_Block).Flat) hs rfl o_r5_4_3 v0_1 (hs.hasD (k := 2) rfl) rfl hk rfl rfl rfl rfl rfl rfl un28 mk102 rfl rfl rfl c_r5_7_1 fun A_r5_7_2 p_r5_7_3 k_r5_7_4 w a hk o_r5_7_5 hs => ?_
        refine se (hs.pick [(5, 5), (4, 4)] rfl) hk (hK_r5_7 _ _ ?_)
        refine tqst (.agg #[.slice A_r5_3_2 (([] : List Int) ++ x0.Pos).length p_r5_3_3, .slice A_r5_7_2 (([] : List S_Block) ++ x0.Stash).length p_r5_7_3, .slice (some ⟨b_r5_8_1, 0, none⟩) 0 0]) hk rfl rfl rfl rfl (fun w hs => sbd (pv := [(0, (.slice A_r5_3_2 (([] : List Int) ++ x0.Pos).length p_r5_3_3)), (1, (.slice A_r5_7_2 (([] : List S_Block) ++ x0.Stash).length p_r5_7_3)), (2, (.slice (some ⟨b_r5_8_1, 0, none⟩) 0 0))]) rfl hk rfl rfl rfl (bd31_1 A_r5_3_2 ((([] : List Int) ++ x0.Pos).length) p_r5_3_3 A_r5_7_2 ((([] : List S_Block) ++ x0.Stash).length) p_r5_7_3 (some ⟨b_r5_8_1, 0, none⟩) 0 0) fun a hk => qe hk) fun a hk => ?_
        refine tsst hk rfl rfl (fun K_r5_10 hK_r5_10 w hF => ?_) wt_stop
        have hs := hs.f hF
        refine salx 106201 hs rfl hk rfl rfl ze31 rfl fun b_r5_10_1 w a hk hs => ?_
        refine se (hs.pick [(5, 5), (4, 4)] rfl) hk (hK_r5_10 _ _ ?_)
        refine tlst hk rfl rfl fun K_r5_11 hK_r5_11 w hF => ?_
        have hs := hs.f hF
        refine ssw 106201 hs rfl rfl hk rfl rfl rfl rfl sz31 (by simp [Value.oneCell']) rfl fun w a hk hs => ?_
        refine se trivial hk (hK_r5_11 _ _ fun w hF => ?_)
        have hs := hs.f hF
        show R6 _ _
        rw [hR6]
        exact ⟨b_r5_10_1, A_r5_3_2, p_r5_3_3, A_r5_7_2, p_r5_7_3, b_r5_8_1, k_r5_3_4, k_r5_7_4, k_r5_8_2, (hk.c 1 rfl (hk.c 2 rfl (hk.c 3 rfl hk.k))), (hs.pick [(4, 4), (5, 5), (106201, 106201), (106001, 106001), (106081, 106081), (106161, 106161)] rfl), o_r5_3_5, o_r5_7_5, o_r5_8_3⟩
       refine tsst hk rfl rfl (fun K_r5_10 hK_r5_10 w hF => ?_) wt_stop
       have hs := hs.f hF
       refine salx 106201 hs rfl hk rfl rfl ze31 rfl fun b_r5_10_1 w a hk hs => ?_
       refine se (hs.pick [(5, 5), (4, 4)] rfl) hk (hK_r5_10 _ _ ?_)
       refine tsst hk rfl rfl (fun K_r5_7 hK_r5_7 w hF => ?_) wt_stop
       have hs := hs.f hF
       refine sap 106081 (xs := ([] : List S_Block)) (ys := x0.Stash) (flat_flat : (L_Block).Flat) hs rfl o_r5_4_3 v0_1 (hs.hasD (k := 2) rfl) rfl hk rfl rfl rfl rfl rfl rfl un28 mk102 rfl rfl rfl c_r5_7_1 fun A_r5_7_2 p_r5_7_3 k_r5_7_4 w a hk o_r5_7_5 hs => ?_
       refine se (hs.pick [(5, 5), (4, 4)] rfl) hk (hK_r5_7 _ _ ?_)
       refine tsst hk rfl rfl (fun K_r5_9 hK_r5_9 w hF => ?_) wt_stop
       have hs := hs.f hF
       refine sbd (pv := [(0, (.slice A_r5_3_2 (([] : List Int) ++ x0.Pos).length p_r5_3_3)), (1, (.slice A_r5_7_2 (([] : List S_Block) ++ x0.Stash).length p_r5_7_3)), (2, (.slice (some ⟨b_r5_8_1, 0, none⟩) 0 0))]) rfl hk rfl rfl rfl (bd31_1 A_r5_3_2 ((([] : List Int) ++ x0.Pos).length) p_r5_3_3 A_r5_7_2 ((([] : List S_Block) ++ x0.Stash).length) p_r5_7_3 (some ⟨b_r5_8_1, 0, none⟩) 0 0) fun a hk => ?_
       refine se (hs.pick [(5, 5), (4, 4)] rfl) hk (hK_r5_9 _ _ ?_)
       refine tlst hk rfl rfl fun K_r5_11 hK_r5_11 w hF => ?_
       have hs := hs.f hF
       refine ssw 106201 hs rfl rfl hk rfl rfl rfl rfl sz31 (by simp [Value.oneCell']) rfl fun w a hk hs => ?_
       refine se trivial hk (hK_r5_11 _ _ fun w hF => ?_)
       have hs := hs.f hF
       show R6 _ _
       rw [hR6]
       exact ⟨b_r5_10_1, A_r5_3_2, p_r5_3_3, A_r5_7_2, p_r5_7_3, b_r5_8_1, k_r5_3_4, k_r5_7_4, k_r5_8_2, (hk.c 1 rfl (hk.c 2 rfl (hk.c 3 rfl hk.k))), (hs.pick [(4, 4), (5, 5), (106201, 106201), (106001, 106001), (106081, 106081), (106161, 106161)] rfl), o_r5_3_5, o_r5_7_5, o_r5_8_3⟩
      refine tsst hk rfl rfl (fun K_r5_10 hK_r5_10 w hF => ?_) wt_stop
      have hs := hs.f hF
      refine salx 106201 hs rfl hk rfl rfl ze31 rfl fun b_r5_10_1 w a hk hs => ?_
      refine se (hs.pick [(5, 5), (4, 4)] rfl) hk (hK_r5_10 _ _ ?_)
      refine tsst hk rfl rfl (fun K_r5_3 hK_r5_3 w hF => ?_) wt_stop
      have hs := hs.f hF
      refine sap 106001 (xs := ([] : List Int)) (ys := x0.Pos) (flat_flat : ((Lay.int .i64)).Flat) hs rfl o_r5_0_3 v0_0 (hs.hasD (k := 1) rfl) rfl hk rfl rfl rfl rfl rfl rfl un22 mk3 rfl rfl rfl c_r5_3_1 fun A_r5_3_2 p_r5_3_3 k_r5_3_4 w a hk o_r5_3_5 hs => ?_
      refine se (hs.pick [(5, 5), (4, 4)] rfl) hk (hK_r5_3 _ _ ?_)
      refine tsst hk rfl rfl (fun K_r5_7 hK_r5_7 w hF => ?_) wt_stop
      have hs := hs.f hF
      refine sap 106081 (xs := ([] : List S_Block)) (ys := x0.Stash) (flat_flat : (L_Block).Flat) hs rfl o_r5_4_3 v0_1 (hs.hasD (k := 2) rfl) rfl hk rfl rfl rfl rfl rfl rfl un28 mk102 rfl rfl rfl c_r5_7_1 fun A_r5_7_2 p_r5_7_3 k_r5_7_4 w a hk o_r5_7_5 hs => ?_
      refine se (hs.pick [(5, 5), (4, 4)] rfl) hk (hK_r5_7 _ _ ?_)
      refine tsst hk rfl rfl (fun K_r5_9 hK_r5_9 w hF => ?_) wt_stop
      have hs := hs.f hF
      refine sbd (pv := [(0, (.slice A_r5_3_2 (([] : List Int) ++ x0.Pos).length p_r5_3_3)), (1, (.slice A_r5_7_2 (([] : List S_Block) ++ x0.Stash).length p_r5_7_3)), (2, (.slice (some ⟨b_r5_8_1, 0, none⟩) 0 0))]) rfl hk rfl rfl rfl (bd31_1 A_r5_3_2 ((([] : List Int) ++ x0.Pos).length) p_r5_3_3 A_r5_7_2 ((([] : List S_Block) ++ x0.Stash).length) p_r5_7_3 (some ⟨b_r5_8_1, 0, none⟩) 0 0) fun a hk => ?_
      refine se (hs.pick [(5, 5), (4, 4)] rfl) hk (hK_r5_9 _ _ ?_)
      refine tlst hk rfl rfl fun K_r5_11 hK_r5_11 w hF => ?_
      have hs := hs.f hF
      refine ssw 106201 hs rfl rfl hk rfl rfl rfl rfl sz31 (by simp [Value.oneCell']) rfl fun w a hk hs => ?_
      refine se trivial hk (hK_r5_11 _ _ fun w hF => ?_)
      have hs := hs.f hF
      show R6 _ _
      rw [hR6]
      exact ⟨b_r5_10_1, A_r5_3_2, p_r5_3_3, A_r5_7_2, p_r5_7_3, b_r5_8_1, k_r5_3_4, k_r5_7_4, k_r5_8_2, (hk.c 1 rfl (hk.c 2 rfl (hk.c 3 rfl hk.k))), (hs.pick [(4, 4), (5, 5), (106201, 106201), (106001, 106001), (106081, 106081), (106161, 106161)] rfl), o_r5_3_5, o_r5_7_5, o_r5_8_3⟩
     refine tsst hk rfl rfl (fun K_r5_10 hK_r5_10 w hF => ?_) wt_stop
     have hs := hs.f hF
     refine salx 106201 hs rfl hk rfl rfl ze31 rfl fun b_r5_10_1 w a hk hs => ?_
     refine se (hs.pick [(5, 5), (4, 4)] rfl) hk (hK_r5_10 _ _ ?_)
     refine tsst hk rfl rfl (fun K_r5_3 hK_r5_3 w hF => ?_) ?_
     ·skip
      have hs := hs.f hF
      refine sap 106001 (xs := ([] : List Int)) (ys := x0.Pos) (flat_flat : ((Lay.int .i64)).Flat) hs rfl o_r5_0_3 v0_0 (hs.hasD (k := 1) rfl) rfl hk rfl rfl rfl rfl rfl rfl un22 mk3 rfl rfl rfl c_r5_3_1 fun A_r5_3_2 p_r5_3_3 k_r5_3_4 w a hk o_r5_3_5 hs => ?_
      refine se (hs.pick [(5, 5), (4, 4)] rfl) hk (hK_r5_3 _ _ ?_)
      refine tsst hk rfl rfl (fun K_r5_7 hK_r5_7 w hF => ?_) ?_
      ·skip
       have hs := hs.f hF
       refine sap 106081 (xs := ([] : List S_Block)) (ys := x0.Stash) (flat_flat : (L_Block).Flat) hs rfl o_r5_4_3 v0_1 (hs.hasD (k := 2) rfl) rfl hk rfl rfl rfl rfl rfl rfl un28 mk102 rfl rfl rfl c_r5_7_1 fun A_r5_7_2 p_r5_7_3 k_r5_7_4 w a hk o_r5_7_5 hs => ?_
       refine se (hs.pick [(5, 5), (4, 4)] rfl) hk (hK_r5_7 _ _ ?_)
       refine tsst hk rfl rfl (fun K_r5_8 hK_r5_8 w hF => ?_) wt_stop
       have hs := hs.f hF
       refine sbs0 106161 (Lay.sl L_Block 102) hs rfl hk rfl rfl un29 sz28 fun b_r5_8_1 k_r5_8_2 w a hk o_r5_8_3 hs => ?_
       refine se (hs.pick [(5, 5), (4, 4)] rfl) hk (hK_r5_8 _ _ ?_)
       refine tsst hk rfl rfl (fun K_r5_9 hK_r5_9 w hF => ?_) wt_stop
       have hs := hs.f hF
       refine sbd (pv := [(0, (.slice A_r5_3_2 (([] : List Int) ++ x0.Pos).length p_r5_3_3)), (1, (.slice A_r5_7_2 (([] : List S_Block) ++ x0.Stash).length p_r5_7_3)), (2, (.slice (some ⟨b_r5_8_1, 0, none⟩) 0 0))]) rfl hk rfl rfl rfl (bd31_1 A_r5_3_2 ((([] : List Int) ++ x0.Pos).length) p_r5_3_3 A_r5_7_2 ((([] : List S_Block) ++ x0.Stash).length) p_r5_7_3 (some ⟨b_r5_8_1, 0, none⟩) 0 0) fun a hk => ?_
       refine se (hs.pick [(5, 5), (4, 4)] rfl) hk (hK_r5_9 _ _ ?_)
       refine tlst hk rfl rfl fun K_r5_11 hK_r5_11 w hF => ?_
       have hs := hs.f hF
       refine ssw 106201 hs rfl rfl hk rfl rfl rfl rfl sz31 (by simp [Value.oneCell']) rfl fun w a hk hs => ?_
       refine se trivial hk (hK_r5_11 _ _ fun w hF => ?_)
       have hs := hs.f hF
       show R6 _ _
       rw [hR6]
       exact ⟨b_r5_10_1, A_r5_3_2, p_r5_3_3, A_r5_7_2, p_r5_7_3, b_r5_8_1, k_r5_3_4, k_r5_7_4, k_r5_8_2, (hk.c 1 rfl (hk.c 2 rfl (hk.c 3 rfl hk.k))), (hs.pick [(4, 4), (5, 5), (106201, 106201), (106001, 106001), (106081, 106081), (106161, 106161)] rfl), o_r5_3_5, o_r5_7_5, o_r5_8_3⟩
      refine tsst hk rfl rfl (fun K_r5_8 hK_r5_8 w hF => ?_) wt_stop
      have hs := hs.f hF
      refine sbs0 106161 (Lay.sl L_Block 102) hs rfl hk rfl rfl un29 sz28 fun b_r5_8_1 k_r5_8_2 w a hk o_r5_8_3 hs => ?_
      refine se (hs.pick [(5, 5), (4, 4)] rfl) hk (hK_r5_8 _ _ ?_)
      refine tsst hk rfl rfl (fun K_r5_7 hK_r5_7 w hF => ?_) wt_stop
      have hs := hs.f hF
      refine sap 106081 (xs := ([] : List S_Block)) (ys := x0.Stash) (flat_flat : (L_Block).Flat) hs rfl o_r5_4_3 v0_1 (hs.hasD (k := 2) rfl) rfl hk rfl rfl rfl rfl rfl rfl un28 mk102 rfl rfl rfl c_r5_7_1 fun A_r5_7_2 p_r5_7_3 k_r5_7_4 w a hk o_r5_7_5 hs => ?_
      refine se (hs.pick [(5, 5), (4, 4)] rfl) hk (hK_r5_7 _ _ ?_)
      refine tsst hk rfl rfl (fun K_r5_9 hK_r5_9 w hF => ?_) wt_stop
      have hs := hs.f hF
      refine sbd (pv := [(0, (.slice A_r5_3_2 (([] : List Int) ++ x0.Pos).length p_r5_3_3)), (1, (.slice A_r5_7_2 (([] : List S_Block) ++ x0.Stash).length p_r5_7_3)), (2, (.slice (some ⟨b_r5_8_1, 0, none⟩) 0 0))]) rfl hk rfl rfl rfl (bd31_1 A_r5_3_2 ((([] : List Int) ++ x0.Pos).length) p_r5_3_3 A_r5_7_2 ((([] : List S_Block) ++ x0.Stash).length) p_r5_7_3 (some ⟨b_r5_8_1, 0, none⟩) 0 0) fun a hk => ?_
      refine se (hs.pick [(5, 5), (4, 4)] rfl) hk (hK_r5_9 _ _ ?_)
      refine tlst hk rfl rfl fun K_r5_11 hK_r5_11 w hF => ?_
      have hs := hs.f hF
      refine ssw 106201 hs rfl rfl hk rfl rfl rfl rfl sz31 (by simp [Value.oneCell']) rfl fun w a hk hs => ?_
      refine se trivial hk (hK_r5_11 _ _ fun w hF => ?_)
      have hs := hs.f hF
      show R6 _ _
      rw [hR6]
      exact ⟨b_r5_10_1, A_r5_3_2, p_r5_3_3, A_r5_7_2, p_r5_7_3, b_r5_8_1, k_r5_3_4, k_r5_7_4, k_r5_8_2, (hk.c 1 rfl (hk.c 2 rfl (hk.c 3 rfl hk.k))), (hs.pick [(4, 4), (5, 5), (106201, 106201), (106001, 106001), (106081, 106081), (106161, 106161)] rfl), o_r5_3_5, o_r5_7_5, o_r5_8_3⟩
     refine tsst hk rfl rfl (fun K_r5_8 hK_r5_8 w hF => ?_) wt_stop
     have hs := hs.f hF
     refine sbs0 106161 (Lay.sl L_Block 102) hs rfl hk rfl rfl un29 sz28 fun b_r5_8_1 k_r5_8_2 w a hk o_r5_8_3 hs => ?_
     refine se (hs.pick [(5, 5), (4, 4)] rfl) hk (hK_r5_8 _ _ ?_)
     refine tsst hk rfl rfl (fun K_r5_3 hK_r5_3 w hF => ?_) wt_stop
     have hs := hs.f hF
     refine sap 106001 (xs := ([] : List Int)) (ys := x0.Pos) (flat_flat : ((Lay.int .i64)).Flat) hs rfl o_r5_0_3 v0_0 (hs.hasD (k := 1) rfl) rfl hk rfl rfl rfl rfl rfl rfl un22 mk3 rfl rfl rfl c_r5_3_1 fun A_r5_3_2 p_r5_3_3 k_r5_3_4 w a hk o_r5_3_5 hs => ?_
     refine se (hs.pick [(5, 5), (4, 4)] rfl) hk (hK_r5_3 _ _ ?_)
     refine tsst hk rfl rfl (fun K_r5_7 hK_r5_7 w hF => ?_) wt_stop
     have hs := hs.f hF
     refine sap 106081 (xs := ([] : List S_Block)) (ys := x0.Stash) (flat_flat : (L_Block).Flat) hs rfl o_r5_4_3 v0_1 (hs.hasD (k := 2) rfl) rfl hk rfl rfl rfl rfl rfl rfl un28 mk102 rfl rfl rfl c_r5_7_1 fun A_r5_7_2 p_r5_7_3 k_r5_7_4 w a hk o_r5_7_5 hs => ?_
     refine se (hs.pick [(5, 5), (4, 4)] rfl) hk (hK_r5_7 _ _ ?_)
     refine tsst hk rfl rfl (fun K_r5_9 hK_r5_9 w hF => ?_) wt_stop
     have hs := hs.f hF
     refine sbd (pv := [(0, (.slice A_r5_3_2 (([] : List Int) ++ x0.Pos).length p_r5_3_3)), (1, (.slice A_r5_7_2 (([] : List S_Block) ++ x0.Stash).length p_r5_7_3)), (2, (.slice (some ⟨b_r5_8_1, 0, none⟩) 0 0))]) rfl hk rfl rfl rfl (bd31_1 A_r5_3_2 ((([] : List Int) ++ x0.Pos).length) p_r5_3_3 A_r5_7_2 ((([] : List S_Block) ++ x0.Stash).length) p_r5_7_3 (some ⟨b_r5_8_1, 0, none⟩) 0 0) fun a hk => ?_
     refine se (hs.pick [(5, 5), (4, 4)] rfl) hk (hK_r5_9 _ _ ?_)
     refine tlst hk rfl rfl fun K_r5_11 hK_r5_11 w hF => ?_
     have hs := hs.f hF
     refine ssw 106201 hs rfl rfl hk rfl rfl rfl rfl sz31 (by simp [Value.oneCell']) rfl fun w a hk hs => ?_
     refine se trivial hk (hK_r5_11 _ _ fun w hF => ?_)
     have hs := hs.f hF
     show R6 _ _
     rw [hR6]
     exact ⟨b_r5_10_1, A_r5_3_2, p_r5_3_3, A_r5_7_2, p_r5_7_3, b_r5_8_1, k_r5_3_4, k_r5_7_4, k_r5_8_2, (hk.c 1 rfl (hk.c 2 rfl (hk.c 3 rfl hk.k))), (hs.pick [(4, 4), (5, 5), (106201, 106201), (106001, 106001), (106081, 106081), (106161, 106161)] rfl), o_r5_3_5, o_r5_7_5, o_r5_8_3⟩
    refine tsst hk rfl rfl (fun K_r5_8 hK_r5_8 w hF => ?_) ?_
    ·skip
     have hs := hs.f hF
     refine sbs0 106161 (Lay.sl L_Block 102) hs rfl hk rfl rfl un29 sz28 fun b_r5_8_1 k_r5_8_2 w a hk o_r5_8_3 hs => ?_
     refine se (hs.pick [(5, 5), (4, 4)] rfl) hk (hK_r5_8 _ _ ?_)
     refine tsst hk rfl rfl (fun K_r5_3 hK_r5_3 w hF => ?_) ?_
     ·skip
      have hs := hs.f hF
      refine sap 106001 (xs := ([] : List Int)) (ys := x0.Pos) (flat_flat : ((Lay.int .i64)).Flat) hs rfl o_r5_0_3 v0_0 (hs.hasD (k := 1) rfl) rfl hk rfl rfl rfl rfl rfl rfl un22 mk3 rfl rfl rfl c_r5_3_1 fun A_r5_3_2 p_r5_3_3 k_r5_3_4 w a hk o_r5_3_5 hs => ?_
      refine se (hs.pick [(5, 5), (4, 4)] rfl) hk (hK_r5_3 _ _ ?_)
      refine tsst hk rfl rfl (fun K_r5_4 hK_r5_4 w hF => ?_) ?_
      ·skip
       have hs := hs.f hF
       refine sbs0 106081 L_Block hs rfl hk rfl rfl un28 sz102 fun b_r5_4_1 k_r5_4_2 w a hk o_r5_4_3 hs => ?_
       refine se (hs.pick [(5, 5), (4, 4)] rfl) hk (hK_r5_4 _ _ ?_)
       refine tsst hk rfl rfl (fun K_r5_7 hK_r5_7 w hF => ?_) ?_
       ·skip
        have hs := hs.f hF
        refine sap 106081 (xs := ([] : List S_Block)) (ys := x0.Stash) (flat_flat : (L_Block).Flat) hs rfl o_r5_4_3 v0_1 (hs.hasD (k := 2) rfl) rfl hk rfl rfl rfl rfl rfl rfl un28 mk102 rfl rfl rfl c_r5_7_1 fun A_r5_7_2 p_r5_7_3 k_r5_7_4 w a hk o_r5_7_5 hs => ?_
        refine se (hs.pick [(5, 5), (4, 4)] rfl) hk (hK_r5_7 _ _ ?_)
        refine tqst (.agg #[.slice A_r5_3_2 (([] : List Int) ++ x0.Pos).length p_r5_3_3, .slice A_r5_7_2 (([] : List S_Block) ++ x0.Stash).length p_r5_7_3, .slice (some ⟨b_r5_8_1, 0, none⟩) 0 0]) hk rfl rfl rfl rfl (fun w hs => sbd (pv := [(0, (.slice A_r5_3_2 (([] : List Int) ++ x0.Pos).length p_r5_3_3)), (1, (.slice A_r5_7_2 (([] : List S_Block) ++ x0.Stash).length p_r5_7_3)), (2, (.slice (some ⟨b_r5_8_1, 0, none⟩) 0 0))]) rfl hk rfl rfl rfl (bd31_1 A_r5_3_2 ((([] : List Int) ++ x0.Pos).length) p_r5_3_3 A_r5_7_2 ((([] : List S_Block) ++ x0.Stash).length) p_r5_7_3 (some ⟨b_r5_8_1, 0, none⟩) 0 0) fun a hk => qe hk) fun a hk => ?_
        refine tsst hk rfl rfl (fun K_r5_10 hK_r5_10 w hF => ?_) wt_stop
        have hs := hs.f hF
        refine salx 106201 hs rfl hk rfl rfl ze31 rfl fun b_r5_10_1 w a hk hs => ?_
        refine se (hs.pick [(5, 5), (4, 4)] rfl) hk (hK_r5_10 _ _ ?_)
        refine tlst hk rfl rfl fun K_r5_11 hK_r5_11 w hF => ?_
        have hs := hs.f hF
        refine ssw 106201 hs rfl rfl hk rfl rfl rfl rfl sz31 (by simp [Value.oneCell']) rfl fun w a hk hs => ?_
        refine se trivial hk (hK_r5_11 _ _ fun w hF => ?_)
        have hs := hs.f hF
        show R6 _ _
        rw [hR6]
        exact ⟨b_r5_10_1, A_r5_3_2, p_r5_3_3, A_r5_7_2, p_r5_7_3, b_r5_8_1, k_r5_3_4, k_r5_7_4, k_r5_8_2, (hk.c 1 rfl (hk.c 2 rfl (hk.c 3 rfl hk.k))), (hs.pick [(4, 4), (5, 5), (106201, 106201), (106001, 106001), (106081, 106081), (106161, 106161)] rfl), o_r5_3_5, o_r5_7_5, o_r5_8_3⟩
       refine tsst hk rfl rfl (fun K_r5_10 hK_r5_10 w hF => ?_) wt_stop
       have hs := hs.f hF
       refine salx 106201 hs rfl hk rfl rfl ze31 rfl fun b_r5_10_1 w a hk hs => ?_
       refine se (hs.pick [(5, 5), (4, 4)] rfl) hk (hK_r5_10 _ _ ?_)
       refine tsst hk rfl rfl (fun K_r5_7 hK_r5_7 w hF => ?_) wt_stop
       have hs := hs.f hF
       refine sap 106081 (xs := ([] : List S_Block)) (ys := x0.Stash) (flat_flat : (L_Block).Flat) hs rfl o_r5_4_3 v0_1 (hs.hasD (k := 2) rfl) rfl hk rfl rfl rfl rfl rfl rfl un28 mk102 rfl rfl rfl c_r5_7_1 fun A_r5_7_2 p_r5_7_3 k_r5_7_4 w a hk o_r5_7_5 hs => ?_
       refine se (hs.pick [(5, 5), (4, 4)] rfl) hk (hK_r5_7 _ _ ?_)
       refine tsst hk rfl rfl (fun K_r5_9 hK_r5_9 w hF => ?_) wt_stop
       have hs := hs.f hF
       refine sbd (pv := [(0, (.slice A_r5_3_2 (([] : List Int) ++ x0.Pos).length p_r5_3_3)), (1, (.slice A_r5_7_2 (([] : List S_Block) ++ x0.Stash).length p_r5_7_3)), (2, (.slice (some ⟨b_r5_8_1, 0, none⟩) 0 0))]) rfl hk rfl rfl rfl (bd31_1 A_r5_3_2 ((([] : List Int) ++ x0.Pos).length) p_r5_3_3 A_r5_7_2 ((([] : List S_Block) ++ x0.Stash).length) p_r5_7_3 (some ⟨b_r5_8_1, 0, none⟩) 0 0) fun a hk => ?_
       refine se (hs.pick [(5, 5), (4, 4)] rfl) hk (hK_r5_9 _ _ ?_)
       refine tlst hk rfl rfl fun K_r5_11 hK_r5_11 w hF => ?_
       have hs := hs.f hF
       refine ssw 106201 hs rfl rfl hk rfl rfl rfl rfl sz31 (by simp [Value.oneCell']) rfl fun w a hk hs => ?_
       refine se trivial hk (hK_r5_11 _ _ fun w hF => ?_)
       have hs := hs.f hF
       show R6 _ _
       rw [hR6]
       exact ⟨b_r5_10_1, A_r5_3_2, p_r5_3_3, A_r5_7_2, p_r5_7_3, b_r5_8_1, k_r5_3_4, k_r5_7_4, k_r5_8_2, (hk.c 1 rfl (hk.c 2 rfl (hk.c 3 rfl hk.k))), (hs.pick [(4, 4), (5, 5), (106201, 106201), (106001, 106001), (106081, 106081), (106161, 106161)] rfl), o_r5_3_5, o_r5_7_5, o_r5_8_3⟩
      refine tsst hk rfl rfl (fun K_r5_10 hK_r5_10 w hF => ?_) wt_stop
      have hs := hs.f hF
      refine salx 106201 hs rfl hk rfl rfl ze31 rfl fun b_r5_10_1 w a hk hs => ?_
      refine se (hs.pick [(5, 5), (4, 4)] rfl) hk (hK_r5_10 _ _ ?_)
      refine tsst hk rfl rfl (fun K_r5_4 hK_r5_4 w hF => ?_) wt_stop
      have hs := hs.f hF
      refine sbs0 106081 L_Block hs rfl hk rfl rfl un28 sz102 fun b_r5_4_1 k_r5_4_2 w a hk o_r5_4_3 hs => ?_
      refine se (hs.pick [(5, 5), (4, 4)] rfl) hk (hK_r5_4 _ _ ?_)
      refine tsst hk rfl rfl (fun K_r5_7 hK_r5_7 w hF => ?_) wt_stop
      have hs := hs.f hF
      refine sap 106081 (xs := ([] : List S_Block)) (ys := x0.Stash) (flat_flat : (L_Block).Flat) hs rfl o_r5_4_3 v0_1 (hs.hasD (k := 2) rfl) rfl hk rfl rfl rfl rfl rfl rfl un28 mk102 rfl rfl rfl c_r5_7_1 fun A_r5_7_2 p_r5_7_3 k_r5_7_4 w a hk o_r5_7_5 hs => ?_
      refine se (hs.pick [(5, 5), (4, 4)] rfl) hk (hK_r5_7 _ _ ?_)
      refine tsst hk rfl rfl (fun K_r5_9 hK_r5_9 w hF => ?_) wt_stop
      have hs := hs.f hF
      refine sbd (pv := [(0, (.slice A_r5_3_2 (([] : List Int) ++ x0.Pos).length p_r5_3_3)), (1, (.slice A_r5_7_2 (([] : List S_Block) ++ x0.Stash).length p_r5_7_3)), (2, (.slice (some ⟨b_r5_8_1, 0, none⟩) 0 0))]) rfl hk rfl rfl rfl (bd31_1 A_r5_3_2 ((([] : List Int) ++ x0.Pos).length) p_r5_3_3 A_r5_7_2 ((([] : List S_Block) ++ x0.Stash).length) p_r5_7_3 (some ⟨b_r5_8_1, 0, none⟩) 0 0) fun a hk => ?_
      refine se (hs.pick [(5, 5), (4, 4)] rfl) hk (hK_r5_9 _ _ ?_)
      refine tlst hk rfl rfl fun K_r5_11 hK_r5_11 w hF => ?_
      have hs := hs.f hF
      refine ssw 106201 hs rfl rfl hk rfl rfl rfl rfl sz31 (by simp [Value.oneCell']) rfl fun w a hk hs => ?_
      refine se trivial hk (hK_r5_11 _ _ fun w hF => ?_)
      have hs := hs.f hF
      show R6 _ _
      rw [hR6]
      exact ⟨b_r5_10_1, A_r5_3_2, p_r5_3_3, A_r5_7_2, p_r5_7_3, b_r5_8_1, k_r5_3_4, k_r5_7_4, k_r5_8_2, (hk.c 1 rfl (hk.c 2 rfl (hk.c 3 rfl hk.k))), (hs.pick [(4, 4), (5, 5), (106201, 106201), (106001, 106001), (106081, 106081), (106161, 106161)] rfl), o_r5_3_5, o_r5_7_5, o_r5_8_3⟩
     refine tsst hk rfl rfl (fun K_r5_4 hK_r5_4 w hF => ?_) ?_
     ·skip
      have hs := hs.f hF
      refine sbs0 106081 L_Block hs rfl hk rfl rfl un28 sz102 fun b_r5_4_1 k_r5_4_2 w a hk o_r5_4_3 hs => ?_
      refine se (hs.pick [(5, 5), (4, 4)] rfl) hk (hK_r5_4 _ _ ?_)
      refine tsst hk rfl rfl (fun K_r5_3 hK_r5_3 w hF => ?_) ?_
      ·skip
       have hs := hs.f hF
       refine sap 106001 (xs := ([] : List Int)) (ys := x0.Pos) (flat_flat : ((Lay.int .i64)).Flat) hs rfl o_r5_0_3 v0_0 (hs.hasD (k := 1) rfl) rfl hk rfl rfl rfl rfl rfl rfl un22 mk3 rfl rfl rfl c_r5_3_1 fun A_r5_3_2 p_r5_3_3 k_r5_3_4 w a hk o_r5_3_5 hs => ?_
       refine se (hs.pick [(5, 5), (4, 4)] rfl) hk (hK_r5_3 _ _ ?_)
       refine tsst hk rfl rfl (fun K_r5_7 hK_r5_7 w hF => ?_) ?_
       ·skip
        have hs := hs.f hF
        refine sap 106081 (xs := ([] : List S_Block)) (ys := x0.Stash) (flat_flat : (L_Block).Flat) hs rfl o_r5_4_3 v0_1 (hs.hasD (k := 2) rfl) rfl hk rfl rfl rfl rfl rfl rfl un28 mk102 rfl rfl rfl c_r5_7_1 fun A_r5_7_2 p_r5_7_3 k_r5_7_4 w a hk o_r5_7_5 hs => ?_
        refine se (hs.pick [(5, 5), (4, 4)] rfl) hk (hK_r5_7 _ _ ?_)
        refine tqst (.agg #[.slice A_r5_3_2 (([] : List Int) ++ x0.Pos).length p_r5_3_3, .slice A_r5_7_2 (([] : List S_Block) ++ x0.Stash).length p_r5_7_3, .slice (some ⟨b_r5_8_1, 0, none⟩) 0 0]) hk rfl rfl rfl rfl (fun w hs => sbd (pv := [(0, (.slice A_r5_3_2 (([] : List Int) ++ x0.Pos).length p_r5_3_3)), (1, (.slice A_r5_7_2 (([] : List S_Block) ++ x0.Stash).length p_r5_7_3)), (2, (.slice (some ⟨b_r5_8_1, 0, none⟩) 0 0))]) rfl hk rfl rfl rfl (bd31_1 A_r5_3_2 ((([] : List Int) ++ x0.Pos).length) p_r5_3_3 A_r5_7_2 ((([] : List S_Block) ++ x0.Stash).length) p_r5_7_3 (some ⟨b_r5_8_1, 0, none⟩) 0 0) fun a hk => qe hk) fun a hk => ?_
        refine tsst hk rfl rfl (fun K_r5_10 hK_r5_10 w hF => ?_) wt_stop
        have hs := hs.f hF
        refine salx 106201 hs rfl hk rfl rfl ze31 rfl fun b_r5_10_1 w a hk hs => ?_
        refine se (hs.pick [(5, 5), (4, 4)] rfl) hk (hK_r5_10 _ _ ?_)
        refine tlst hk rfl rfl fun K_r5_11 hK_r5_11 w hF => ?_
        have hs := hs.f hF
        refine ssw 106201 hs rfl rfl hk rfl rfl rfl rfl sz31 (by simp [Value.oneCell']) rfl fun w a hk hs => ?_
        refine se trivial hk (hK_r5_11 _ _ fun w hF => ?_)
        have hs := hs.f hF
        show R6 _ _
        rw [hR6]
        exact ⟨b_r5_10_1, A_r5_3_2, p_r5_3_3, A_r5_7_2, p_r5_7_3, b_r5_8_1, k_r5_3_4, k_r5_7_4, k_r5_8_2, (hk.c 1 rfl (hk.c 2 rfl (hk.c 3 rfl hk.k))), (hs.pick [(4, 4), (5, 5), (106201, 106201), (106001, 106001), (106081, 106081), (106161, 106161)] rfl), o_r5_3_5, o_r5_7_5, o_r5_8_3⟩
       refine tsst hk rfl rfl (fun K_r5_10 hK_r5_10 w hF => ?_) wt_stop
       have hs := hs.f hF
       refine salx 106201 hs rfl hk rfl rfl ze31 rfl fun b_r5_10_1 w a hk hs => ?_
       refine se (hs.pick [(5, 5), (4, 4)] rfl) hk (hK_r5_10 _ _ ?_)
       refine tsst hk rfl rfl (fun K_r5_7 hK_r5_7 w hF => ?_) wt_stop
       have hs := hs.f hF
       refine sap 106081 (xs := ([] : List S_Block)) (ys := x0.Stash) (flat_flat : (L_Block).Flat) hs rfl o_r5_4_3 v0_1 (hs.hasD (k := 2) rfl) rfl hk rfl rfl rfl rfl rfl rfl un28 mk102 rfl rfl rfl c_r5_7_1 fun A_r5_7_2 p_r5_7_3 k_r5_7_4 w a hk o_r5_7_5 hs => ?_
       refine se (hs.pick [(5, 5), (4, 4)] rfl) hk (hK_r5_7 _ _ ?_)
       refine tsst hk rfl rfl (fun K_r5_9 hK_r5_9 w hF => ?_) wt_stop
       have hs := hs.f hF
       refine sbd (pv := [(0, (.slice A_r5_3_2 (([] : List Int) ++ x0.Pos).length p_r5_3_3)), (1, (.slice A_r5_7_2 (([] : List S_Block) ++ x0.Stash).length p_r5_7_3)), (2, (.slice (some ⟨b_r5_8_1, 0, none⟩) 0 0))]) rfl hk rfl rfl rfl (bd31_1 A_r5_3_2 ((([] : List Int) ++ x0.Pos).length) p_r5_3_3 A_r5_7_2 ((([] : List S_Block) ++ x0.Stash).length) p_r5_7_3 (some ⟨b_r5_8_1, 0, none⟩) 0 0) fun a hk => ?_
       refine se (hs.pick [(5, 5), (4, 4)] rfl) hk (hK_r5_9 _ _ ?_)
       refine tlst hk rfl rfl fun K_r5_11 hK_r5_11 w hF => ?_
       have hs := hs.f hF
       refine ssw 106201 hs rfl rfl hk rfl rfl rfl rfl sz31 (by simp [Value.oneCell']) rfl fun w a hk hs => ?_
       refine se trivial hk (hK_r5_11 _ _ fun w hF => ?_)
       have hs := hs.f hF
       show R6 _ _
       rw [hR6]
       exact ⟨b_r5_10_1, A_r5_3_2, p_r5_3_3, A_r5_7_2, p_r5_7_3, b_r5_8_1, k_r5_3_4, k_r5_7_4, k_r5_8_2, (hk.c 1 rfl (hk.c 2 rfl (hk.c 3 rfl hk.k))), (hs.pick [(4, 4), (5, 5), (106201, 106201), (106001, 106001), (106081, 106081), (106161, 106161)] rfl), o_r5_3_5, o_r5_7_5, o_r5_8_3⟩
      refine tsst hk rfl rfl (fun K_r5_10 hK_r5_10 w hF => ?_) wt_stop
      have hs := hs.f hF
      refine salx 106201 hs rfl hk rfl rfl ze31 rfl fun b_r5_10_1 w a hk hs => ?_
      refine se (hs.pick [(5, 5), (4, 4)] rfl) hk (hK_r5_10 _ _ ?_)
      refine tsst hk rfl rfl (fun K_r5_3 hK_r5_3 w hF => ?_) wt_stop
      have hs := hs.f hF
      refine sap 106001 (xs := ([] : List Int)) (ys := x0.Pos) (flat_flat : ((Lay.int .i64)).Flat) hs rfl o_r5_0_3 v0_0 (hs.hasD (k := 1) rfl) rfl hk rfl rfl rfl rfl rfl rfl un22 mk3 rfl rfl rfl c_r5_3_1 fun A_r5_3_2 p_r5_3_3 k_r5_3_4 w a hk o_r5_3_5 hs => ?_
      refine se (hs.pick [(5, 5), (4, 4)] rfl) hk (hK_r5_3 _ _ ?_)
      refine tsst hk rfl rfl (fun K_r5_7 hK_r5_7 w hF => ?_) wt_stop
      have hs := hs.f hF
      refine sap 106081 (xs := ([] : List S_Block)) (ys := x0.Stash) (flat_flat : (L_Block).Flat) hs rfl o_r5_4_3 v0_1 (hs.hasD (k := 2) rfl) rfl hk rfl rfl rfl rfl rfl rfl un28 mk102 rfl rfl rfl c_r5_7_1 fun A_r5_7_2 p_r5_7_3 k_r5_7_4 w a hk o_r5_7_5 hs => ?_
      refine se (hs.pick [(5, 5), (4, 4)] rfl) hk (hK_r5_7 _ _ ?_)
      refine tsst hk rfl rfl (fun K_r5_9 hK_r5_9 w hF => ?_) wt_stop
      have hs := hs.f hF
      refine sbd (pv := [(0, (.slice A_r5_3_2 (([] : List Int) ++ x0.Pos).length p_r5_3_3)), (1, (.slice A_r5_7_2 (([] : List S_Block) ++ x0.Stash).length p_r5_7_3)), (2, (.slice (some ⟨b_r5_8_1, 0, none⟩) 0 0))]) rfl hk rfl rfl rfl (bd31_1 A_r5_3_2 ((([] : List Int) ++ x0.Pos).length) p_r5_3_3 A_r5_7_2 ((([] : List S_Block) ++ x0.Stash).length) p_r5_7_3 (some ⟨b_r5_8_1, 0, none⟩) 0 0) fun a hk => ?_
      refine se (hs.pick [(5, 5), (4, 4)] rfl) hk (hK_r5_9 _ _ ?_)
      refine tlst hk rfl rfl fun K_r5_11 hK_r5_11 w hF => ?_
      have hs := hs.f hF
      refine ssw 106201 hs rfl rfl hk rfl rfl rfl rfl sz31 (by simp [Value.oneCell']) rfl fun w a hk hs => ?_
      refine se trivial hk (hK_r5_11 _ _ fun w hF => ?_)
      have hs := hs.f hF
      show R6 _ _
      rw [hR6]
      exact ⟨b_r5_10_1, A_r5_3_2, p_r5_3_3, A_r5_7_2, p_r5_7_3, b_r5_8_1, k_r5_3_4, k_r5_7_4, k_r5_8_2, (hk.c 1 rfl (hk.c 2 rfl (hk.c 3 rfl hk.k))), (hs.pick [(4, 4), (5, 5), (106201, 106201), (106001, 106001), (106081, 106081), (106161, 106161)] rfl), o_r5_3_5, o_r5_7_5, o_r5_8_3⟩
     refine tsst hk rfl rfl (fun K_r5_10 hK_r5_10 w hF => ?_) wt_stop
     have hs := hs.f hF
     refine salx 106201 hs rfl hk rfl rfl ze31 rfl fun b_r5_10_1 w a hk hs => ?_
     refine se (hs.pick [(5, 5), (4, 4)] rfl) hk (hK_r5_10 _ _ ?_)
     refine tsst hk rfl rfl (fun K_r5_3 hK_r5_3 w hF => ?_) ?_
     ·skip
      have hs := hs.f hF
      refine sap 106001 (xs := ([] : List Int)) (ys := x0.Pos) (flat_flat : ((Lay.int .i64)).Flat) hs rfl o_r5_0_3 v0_0 (hs.hasD (k := 1) rfl) rfl hk rfl rfl rfl rfl rfl rfl un22 mk3 rfl rfl rfl c_r5_3_1 fun A_r5_3_2 p_r5_3_3 k_r5_3_4 w a hk o_r5_3_5 hs => ?_
      refine se (hs.pick [(5, 5), (4, 4)] rfl) hk (hK_r5_3 _ _ ?_)
      refine tsst hk rfl rfl (fun K_r5_4 hK_r5_4 w hF => ?_) wt_stop
      have hs := hs.f hF
      refine sbs0 106081 L_Block hs rfl hk rfl rfl un28 sz102 fun b_r5_4_1 k_r5_4_2 w a hk o_r5_4_3 hs => ?_
      refine se (hs.pick [(5, 5), (4, 4)] rfl) hk (hK_r5_4 _ _ ?_)
      refine tsst hk rfl rfl (fun K_r5_7 hK_r5_7 w hF => ?_) wt_stop
      have hs := hs.f hF
      refine sap 106081 (xs := ([] : List S_Block)) (ys := x0.Stash) (flat_flat : (L_Block).Flat) hs rfl o_r5_4_3 v0_1 (hs.hasD (k := 2) rfl) rfl hk rfl rfl rfl rfl rfl rfl un28 mk102 rfl rfl rfl c_r5_7_1 fun A_r5_7_2 p_r5_7_3 k_r5_7_4 w a hk o_r5_7_5 hs => ?_
      refine se (hs.pick [(5, 5), (4, 4)] rfl) hk (hK_r5_7 _ _ ?_)
      refine tsst hk rfl rfl (fun K_r5_9 hK_r5_9 w hF => ?_) wt_stop
      have hs := hs.f hF
      refine sbd (pv := [(0, (.slice A_r5_3_2 (([] : List Int) ++ x0.Pos).length p_r5_3_3)), (1, (.slice A_r5_7_2 (([] : List S_Block) ++ x0.Stash).length p_r5_7_3)), (2, (.slice (some ⟨b_r5_8_1, 0, none⟩) 0 0))]) rfl hk rfl rfl rfl (bd31_1 A_r5_3_2 ((([] : List Int) ++ x0.Pos).length) p_r5_3_3 A_r5_7_2 ((([] : List S_Block) ++ x0.Stash).length) p_r5_7_3 (some ⟨b_r5_8_1, 0, none⟩) 0 0) fun a hk => ?_
      refine se (hs.pick [(5, 5), (4, 4)] rfl) hk (hK_r5_9 _ _ ?_)
      refine tlst hk rfl rfl fun K_r5_11 hK_r5_11 w hF => ?_
      have hs := hs.f hF
      refine ssw 106201 hs rfl rfl hk rfl rfl rfl rfl sz31 (by simp [Value.oneCell']) rfl fun w a hk hs => ?_
      refine se trivial hk (hK_r5_11 _ _ fun w hF => ?_)
      have hs := hs.f hF
      show R6 _ _
      rw [hR6]
      exact ⟨b_r5_10_1, A_r5_3_2, p_r5_3_3, A_r5_7_2, p_r5_7_3, b_r5_8_1, k_r5_3_4, k_r5_7_4, k_r5_8_2, (hk.c 1 rfl (hk.c 2 rfl (hk.c 3 rfl hk.k))), (hs.pick [(4, 4), (5, 5), (106201, 106201), (106001, 106001), (106081, 106081), (106161, 106161)] rfl), o_r5_3_5, o_r5_7_5, o_r5_8_3⟩
     refine tsst hk rfl rfl (fun K_r5_4 hK_r5_4 w hF => ?_) wt_stop
     have hs := hs.f hF
     refine sbs0 106081 L_Block hs rfl hk rfl rfl un28 sz102 fun b_r5_4_1 k_r5_4_2 w a hk o_r5_4_3 hs => ?_
     refine se (hs.pick [(5, 5), (4, 4)] rfl) hk (hK_r5_4 _ _ ?_)
     refine tsst hk rfl rfl (fun K_r5_3 hK_r5_3 w hF => ?_) wt_stop
     have hs := hs.f hF
     refine sap 106001 (xs := ([] : List Int)) (ys := x0.Pos) (flat_flat : ((Lay.int .i64)).Flat) hs rfl o_r5_0_3 v0_0 (hs.hasD (k := 1) rfl) rfl hk rfl rfl rfl rfl rfl rfl un22 mk3 rfl rfl rfl c_r5_3_1 fun A_r5_3_2 p_r5_3_3 k_r5_3_4 w a hk o_r5_3_5 hs => ?_
     refine se (hs.pick [(5, 5), (4, 4)] rfl) hk (hK_r5_3 _ _ ?_)
     refine tsst hk rfl rfl (fun K_r5_7 hK_r5_7 w hF => ?_) wt_stop
     have hs := hs.f hF
     refine sap 106081 (xs := ([] : List S_Block)) (ys := x0.Stash) (flat_flat : (L_Block).Flat) hs rfl o_r5_4_3 v0_1 (hs.hasD (k := 2) rfl) rfl hk rfl rfl rfl rfl rfl rfl un28 mk102 rfl rfl rfl c_r5_7_1 fun A_r5_7_2 p_r5_7_3 k_r5_7_4 w a hk o_r5_7_5 hs => ?_
     refine se (hs.pick [(5, 5), (4, 4)] rfl) hk (hK_r5_7 _ _ ?_)
     refine tsst hk rfl rfl (fun K_r5_9 hK_r5_9 w hF => ?_) wt_stop
     have hs := hs.f hF
     refine sbd (pv := [(0, (.slice A_r5_3_2 (([] : List Int) ++ x0.Pos).length p_r5_3_3)), (1, (.slice A_r5_7_2 (([] : List S_Block) ++ x0.Stash).length p_r5_7_3)), (2, (.slice (some ⟨b_r5_8_1, 0, none⟩) 0 0))]) rfl hk rfl rfl rfl (bd31_1 A_r5_3_2 ((([] : List Int) ++ x0.Pos).length) p_r5_3_3 A_r5_7_2 ((([] : List S_Block) ++ x0.Stash).length) p_r5_7_3 (some ⟨b_r5_8_1, 0, none⟩) 0 0) fun a hk => ?_
     refine se (hs.pick [(5, 5), (4, 4)] rfl) hk (hK_r5_9 _ _ ?_)
     refine tlst hk rfl rfl fun K_r5_11 hK_r5_11 w hF => ?_
     have hs := hs.f hF
     refine ssw 106201 hs rfl rfl hk rfl rfl rfl rfl sz31 (by simp [Value.oneCell']) rfl fun w a hk hs => ?_
     refine se trivial hk (hK_r5_11 _ _ fun w hF => ?_)
     have hs := hs.f hF
     show R6 _ _
     rw [hR6]
     exact ⟨b_r5_10_1, A_r5_3_2, p_r5_3_3, A_r5_7_2, p_r5_7_3, b_r5_8_1, k_r5_3_4, k_r5_7_4, k_r5_8_2, (hk.c 1 rfl (hk.c 2 rfl (hk.c 3 rfl hk.k))), (hs.pick [(4, 4), (5, 5), (106201, 106201), (106001, 106001), (106081, 106081), (106161, 106161)] rfl), o_r5_3_5, o_r5_7_5, o_r5_8_3⟩
    refine tsst hk rfl rfl (fun K_r5_10 hK_r5_10 w hF => ?_) wt_stop
    have hs := hs.f hF
    refine salx 106201 hs rfl hk rfl rfl ze31 rfl fun b_r5_10_1 w a hk hs => ?_
    refine se (hs.pick [(5, 5), (4, 4)] rfl) hk (hK_r5_10 _ _ ?_)
    refine tsst hk rfl rfl (fun K_r5_3 hK_r5_3 w hF => ?_) ?_
    ·skip
     have hs := hs.f hF
     refine sap 106001 (xs := ([] : List Int)) (ys := x0.Pos) (flat_flat : ((Lay.int .i64)).Flat) hs rfl o_r5_0_3 v0_0 (hs.hasD (k := 1) rfl) rfl hk rfl rfl rfl rfl rfl rfl un22 mk3 rfl rfl rfl c_r5_3_1 fun A_r5_3_2 p_r5_3_3 k_r5_3_4 w a hk o_r5_3_5 hs => ?_
     refine se (hs.pick [(5, 5), (4, 4)] rfl) hk (hK_r5_3 _ _ ?_)
     refine tsst hk rfl rfl (fun K_r5_4 hK_r5_4 w hF => ?_) ?_
     ·skip
      have hs := hs.f hF
      refine sbs0 106081 L_Block hs rfl hk rfl rfl un28 sz102 fun b_r5_4_1 k_r5_4_2 w a hk o_r5_4_3 hs => ?_
      refine se (hs.pick [(5, 5), (4, 4)] rfl) hk (hK_r5_4 _ _ ?_)
      refine tsst hk rfl rfl (fun K_r5_7 hK_r5_7 w hF => ?_) ?_
      ·skip
       have hs := hs.f hF
       refine sap 106081 (xs := ([] : List S_Block)) (ys := x0.Stash) (flat_flat : (L_Block).Flat) hs rfl o_r5_4_3 v0_1 (hs.hasD (k := 2) rfl) rfl hk rfl rfl rfl rfl rfl rfl un28 mk102 rfl rfl rfl c_r5_7_1 fun A_r5_7_2 p_r5_7_3 k_r5_7_4 w a hk o_r5_7_5 hs => ?_
       refine se (hs.pick [(5, 5), (4, 4)] rfl) hk (hK_r5_7 _ _ ?_)
       refine tsst hk rfl rfl (fun K_r5_8 hK_r5_8 w hF => ?_) wt_stop
       have hs := hs.f hF
       refine sbs0 106161 (Lay.sl L_Block 102) hs rfl hk rfl rfl un29 sz28 fun b_r5_8_1 k_r5_8_2 w a hk o_r5_8_3 hs => ?_
       refine se (hs.pick [(5, 5), (4, 4)] rfl) hk (hK_r5_8 _ _ ?_)
       refine tsst hk rfl rfl (fun K_r5_9 hK_r5_9 w hF => ?_) wt_stop
       have hs := hs.f hF
       refine sbd (pv := [(0, (.slice A_r5_3_2 (([] : List Int) ++ x0.Pos).length p_r5_3_3)), (1, (.slice A_r5_7_2 (([] : List S_Block) ++ x0.Stash).length p_r5_7_3)), (2, (.slice (some ⟨b_r5_8_1, 0, none⟩) 0 0))]) rfl hk rfl rfl rfl (bd31_1 A_r5_3_2 ((([] : List Int) ++ x0.Pos).length) p_r5_3_3 A_r5_7_2 ((([] : List S_Block) ++ x0.Stash).length) p_r5_7_3 (some ⟨b_r5_8_1, 0, none⟩) 0 0) fun a hk => ?_
       refine se (hs.pick [(5, 5), (4, 4)] rfl) hk (hK_r5_9 _ _ ?_)
       refine tlst hk rfl rfl fun K_r5_11 hK_r5_11 w hF => ?_
       have hs := hs.f hF
       refine ssw 106201 hs rfl rfl hk rfl rfl rfl rfl sz31 (by simp [Value.oneCell']) rfl fun w a hk hs => ?_
       refine se trivial hk (hK_r5_11 _ _ fun w hF => ?_)
       have hs := hs.f hF
       show R6 _ _
       rw [hR6]
       exact ⟨b_r5_10_1, A_r5_3_2, p_r5_3_3, A_r5_7_2, p_r5_7_3, b_r5_8_1, k_r5_3_4, k_r5_7_4, k_r5_8_2, (hk.c 1 rfl (hk.c 2 rfl (hk.c 3 rfl hk.k))), (hs.pick [(4, 4), (5, 5), (106201, 106201), (106001, 106001), (106081, 106081), (106161, 106161)] rfl), o_r5_3_5, o_r5_7_5, o_r5_8_3⟩
      refine tsst hk rfl rfl (fun K_r5_8 hK_r5_8 w hF => ?_) wt_stop
      have hs := hs.f hF
      refine sbs0 106161 (Lay.sl L_Block 102) hs rfl hk rfl rfl un29 sz28 fun b_r5_8_1 k_r5_8_2 w a hk o_r5_8_3 hs => ?_
      refine se (hs.pick [(5, 5), (4, 4)] rfl) hk (hK_r5_8 _ _ ?_)
      refine tsst hk rfl rfl (fun K_r5_7 hK_r5_7 w hF => ?_) wt_stop
      have hs := hs.f hF
      refine sap 106081 (xs := ([] : List S_Block)) (ys := x0.Stash) (flat_flat : (L_Block).Flat) hs rfl o_r5_4_3 v0_1 (hs.hasD (k := 2) rfl) rfl hk rfl rfl rfl rfl rfl rfl un28 mk102 rfl rfl rfl c_r5_7_1 fun A_r5_7_2 p_r5_7_3 k_r5_7_4 w a hk o_r5_7_5 hs => ?_
      refine se (hs.pick [(5, 5), (4, 4)] rfl) hk (hK_r5_7 _ _ ?_)
      refine tsst hk rfl rfl (fun K_r5_9 hK_r5_9 w hF => ?_) wt_stop
      have hs := hs.f hF
      refine sbd (pv := [(0, (.slice A_r5_3_2 (([] : List Int) ++ x0.Pos).length p_r5_3_3)), (1, (.slice A_r5_7_2 (([] : List S_Block) ++ x0.Stash).length p_r5_7_3)), (2, (.slice (some ⟨b_r5_8_1, 0, none⟩) 0 0))]) rfl hk rfl rfl rfl (bd31_1 A_r5_3_2 ((([] : List Int) ++ x0.Pos).length) p_r5_3_3 A_r5_7_2 ((([] : List S_Block) ++ x0.Stash).length) p_r5_7_3 (some ⟨b_r5_8_1, 0, none⟩) 0 0) fun a hk => ?_
      refine se (hs.pick [(5, 5), (4, 4)] rfl) hk (hK_r5_9 _ _ ?_)
      refine tlst hk rfl rfl fun K_r5_11 hK_r5_11 w hF => ?_
      have hs := hs.f hF
      refine ssw 106201 hs rfl rfl hk rfl rfl rfl rfl sz31 (by simp [Value.oneCell']) rfl fun w a hk hs => ?_
      refine se trivial hk (hK_r5_11 _ _ fun w hF => ?_)
      have hs := hs.f hF
      show R6 _ _
      rw [hR6]
      exact ⟨b_r5_10_1, A_r5_3_2, p_r5_3_3, A_r5_7_2, p_r5_7_3, b_r5_8_1, k_r5_3_4, k_r5_7_4, k_r5_8_2, (hk.c 1 rfl (hk.c 2 rfl (hk.c 3 rfl hk.k))), (hs.pick [(4, 4), (5, 5), (106201, 106201), (106001, 106001), (106081, 106081), (106161, 106161)] rfl), o_r5_3_5, o_r5_7_5, o_r5_8_3⟩
     refine tsst hk rfl rfl (fun K_r5_8 hK_r5_8 w hF => ?_) wt_stop
     have hs := hs.f hF
     refine sbs0 106161 (Lay.sl L_Block 102) hs rfl hk rfl rfl un29 sz28 fun b_r5_8_1 k_r5_8_2 w a hk o_r5_8_3 hs => ?_
     refine se (hs.pick [(5, 5), (4, 4)] rfl) hk (hK_r5_8 _ _ ?_)
     refine tsst hk rfl rfl (fun K_r5_4 hK_r5_4 w hF => ?_) wt_stop
     have hs := hs.f hF
     refine sbs0 106081 L_Block hs rfl hk rfl rfl un28 sz102 fun b_r5_4_1 k_r5_4_2 w a hk o_r5_4_3 hs => ?_
     refine se (hs.pick [(5, 5), (4, 4)] rfl) hk (hK_r5_4 _ _ ?_)
     refine tsst hk rfl rfl (fun K_r5_7 hK_r5_7 w hF => ?_) wt_stop
     have hs := hs.f hF
     refine sap 106081 (xs := ([] : List S_Block)) (ys := x0.Stash) (flat_flat : (L_Block).Flat) hs rfl o_r5_4_3 v0_1 (hs.hasD (k := 2) rfl) rfl hk rfl rfl rfl rfl rfl rfl un28 mk102 rfl rfl rfl c_r5_7_1 fun A_r5_7_2 p_r5_7_3 k_r5_7_4 w a hk o_r5_7_5 hs => ?_
     refine se (hs.pick [(5, 5), (4, 4)] rfl) hk (hK_r5_7 _ _ ?_)
     refine tsst hk rfl rfl (fun K_r5_9 hK_r5_9 w hF => ?_) wt_stop
     have hs := hs.f hF
     refine sbd (pv := [(0, (.slice A_r5_3_2 (([] : List Int) ++ x0.Pos).length p_r5_3_3)), (1, (.slice A_r5_7_2 (([] : List S_Block) ++ x0.Stash).length p_r5_7_3)), (2, (.slice (some ⟨b_r5_8_1, 0, none⟩) 0 0))]) rfl hk rfl rfl rfl (bd31_1 A_r5_3_2 ((([] : List Int) ++ x0.Pos).length) p_r5_3_3 A_r5_7_2 ((([] : List S_Block) ++ x0.Stash).length) p_r5_7_3 (some ⟨b_r5_8_1, 0, none⟩) 0 0) fun a hk => ?_
     refine se (hs.pick [(5, 5), (4, 4)] rfl) hk (hK_r5_9 _ _ ?_)
     refine tlst hk rfl rfl fun K_r5_11 hK_r5_11 w hF => ?_
     have hs := hs.f hF
     refine ssw 106201 hs rfl rfl hk rfl rfl rfl rfl sz31 (by simp [Value.oneCell']) rfl fun w a hk hs => ?_
     refine se trivial hk (hK_r5_11 _ _ fun w hF => ?_)
     have hs := hs.f hF
     show R6 _ _
     rw [hR6]
     exact ⟨b_r5_10_1, A_r5_3_2, p_r5_3_3, A_r5_7_2, p_r5_7_3, b_r5_8_1, k_r5_3_4, k_r5_7_4, k_r5_8_2, (hk.c 1 rfl (hk.c 2 rfl (hk.c 3 rfl hk.k))), (hs.pick [(4, 4), (5, 5), (106201, 106201), (106001, 106001), (106081, 106081), (106161, 106161)] rfl), o_r5_3_5, o_r5_7_5, o_r5_8_3⟩
    refine tsst hk rfl rfl (fun K_r5_4 hK_r5_4 w hF => ?_) ?_
    ·skip
     have hs := hs.f hF
     refine sbs0 106081 L_Block hs rfl hk rfl rfl un28 sz102 fun b_r5_4_1 k_r5_4_2 w a hk o_r5_4_3 hs => ?_
     refine se (hs.pick [(5, 5), (4, 4)] rfl) hk (hK_r5_4 _ _ ?_)
     refine tsst hk rfl rfl (fun K_r5_3 hK_r5_3 w hF => ?_) ?_
     ·skip
      have hs := hs.f hF
      refine sap 106001 (xs := ([] : List Int)) (ys := x0.Pos) (flat_flat : ((Lay.int .i64)).Flat) hs rfl o_r5_0_3 v0_0 (hs.hasD (k := 1) rfl) rfl hk rfl rfl rfl rfl rfl rfl un22 mk3 rfl rfl rfl c_r5_3_1 fun A_r5_3_2 p_r5_3_3 k_r5_3_4 w a hk o_r5_3_5 hs => ?_
      refine se (hs.pick [(5, 5), (4, 4)] rfl) hk (hK_r5_3 _ _ ?_)
      refine tsst hk rfl rfl (fun K_r5_7 hK_r5_7 w hF => ?_) ?_
      ·skip
       have hs := hs.f hF
       refine sap 106081 (xs := ([] : List S_Block)) (ys := x0.Stash) (flat_flat : (L_Block).Flat) hs rfl o_r5_4_3 v0_1 (hs.hasD (k := 2) rfl) rfl hk rfl rfl rfl rfl rfl rfl un28 mk102 rfl rfl rfl c_r5_7_1 fun A_r5_7_2 p_r5_7_3 k_r5_7_4 w a hk o_r5_7_5 hs => ?_
       refine se (hs.pick [(5, 5), (4, 4)] rfl) hk (hK_r5_7 _ _ ?_)
       refine tsst hk rfl rfl (fun K_r5_8 hK_r5_8 w hF => ?_) wt_stop
       have hs := hs.f hF
       refine sbs0 106161 (Lay.sl L_Block 102) hs rfl hk rfl rfl un29 sz28 fun b_r5_8_1 k_r5_8_2 w a hk o_r5_8_3 hs => ?_
       refine se (hs.pick [(5, 5), (4, 4)] rfl) hk (hK_r5_8 _ _ ?_)
       refine tsst hk rfl rfl (fun K_r5_9 hK_r5_9 w hF => ?_) wt_stop
       have hs := hs.f hF
       refine sbd (pv := [(0, (.slice A_r5_3_2 (([] : List Int) ++ x0.Pos).length p_r5_3_3)), (1, (.slice A_r5_7_2 (([] : List S_Block) ++ x0.Stash).length p_r5_7_3)), (2, (.slice (some ⟨b_r5_8_1, 0, none⟩) 0 0))]) rfl hk rfl rfl rfl (bd31_1 A_r5_3_2 ((([] : List Int) ++ x0.Pos).length) p_r5_3_3 A_r5_7_2 ((([] : List S_Block) ++ x0.Stash).length) p_r5_7_3 (some ⟨b_r5_8_1, 0, none⟩) 0 0) fun a hk => ?_
       refine se (hs.pick [(5, 5), (4, 4)] rfl) hk (hK_r5_9 _ _ ?_)
       refine tlst hk rfl rfl fun K_r5_11 hK_r5_11 w hF => ?_
       have hs := hs.f hF
       refine ssw 106201 hs rfl rfl hk rfl rfl rfl rfl sz31 (by simp [Value.oneCell']) rfl fun w a hk hs => ?_
       refine se trivial hk (hK_r5_11 _ _ fun w hF => ?_)
       have hs := hs.f hF
       show R6 _ _
       rw [hR6]
       exact ⟨b_r5_10_1, A_r5_3_2, p_r5_3_3, A_r5_7_2, p_r5_7_3, b_r5_8_1, k_r5_3_4, k_r5_7_4, k_r5_8_2, (hk.c 1 rfl (hk.c 2 rfl (hk.c 3 rfl hk.k))), (hs.pick [(4, 4), (5, 5), (106201, 106201), (106001, 106001), (106081, 106081), (106161, 106161)] rfl), o_r5_3_5, o_r5_7_5, o_r5_8_3⟩
      refine tsst hk rfl rfl (fun K_r5_8 hK_r5_8 w hF => ?_) wt_stop
      have hs := hs.f hF
      refine sbs0 106161 (Lay.sl L_Block 102) hs rfl hk rfl rfl un29 sz28 fun b_r5_8_1 k_r5_8_2 w a hk o_r5_8_3 hs => ?_
      refine se (hs.pick [(5, 5), (4, 4)] rfl) hk (hK_r5_8 _ _ ?_)
      refine tsst hk rfl rfl (fun K_r5_7 hK_r5_7 w hF => ?_) wt_stop
      have hs := hs.f hF
      refine sap 106081 (xs := ([] : List S_Block)) (ys := x0.Stash) (flat_flat : (L_Block).Flat) hs rfl o_r5_4_3 v0_1 (hs.hasD (k := 2) rfl) rfl hk rfl rfl rfl rfl rfl rfl un28 mk102 rfl rfl rfl c_r5_7_1 fun A_r5_7_2 p_r5_7_3 k_r5_7_4 w a hk o_r5_7_5 hs => ?_
      refine se (hs.pick [(5, 5), (4, 4)] rfl) hk (hK_r5_7 _ _ ?_)
      refine tsst hk rfl rfl (fun K_r5_9 hK_r5_9 w hF => ?_) wt_stop
      have hs := hs.f hF
      refine sbd (pv := [(0, (.slice A_r5_3_2 (([] : List Int) ++ x0.Pos).length p_r5_3_3)), (1, (.slice A_r5_7_2 (([] : List S_Block) ++ x0.Stash).length p_r5_7_3)), (2, (.slice (some ⟨b_r5_8_1, 0, none⟩) 0 0))]) rfl hk rfl rfl rfl (bd31_1 A_r5_3_2 ((([] : List Int) ++ x0.Pos).length) p_r5_3_3 A_r5_7_2 ((([] : List S_Block) ++ x0.Stash).length) p_r5_7_3 (some ⟨b_r5_8_1, 0, none⟩) 0 0) fun a hk => ?_
      refine se (hs.pick [(5, 5), (4, 4)] rfl) hk (hK_r5_9 _ _ ?_)
      refine tlst hk rfl rfl fun K_r5_11 hK_r5_11 w hF => ?_
      have hs := hs.f hF
      refine ssw 106201 hs rfl rfl hk rfl rfl rfl rfl sz31 (by simp [Value.oneCell']) rfl fun w a hk hs => ?_
      refine se trivial hk (hK_r5_11 _ _ fun w hF => ?_)
      have hs := hs.f hF
      show R6 _ _
      rw [hR6]
      exact ⟨b_r5_10_1, A_r5_3_2, p_r5_3_3, A_r5_7_2, p_r5_7_3, b_r5_8_1, k_r5_3_4, k_r5_7_4, k_r5_8_2, (hk.c 1 rfl (hk.c 2 rfl (hk.c 3 rfl hk.k))), (hs.pick [(4, 4), (5, 5), (106201, 106201), (106001, 106001), (106081, 106081), (106161, 106161)] rfl), o_r5_3_5, o_r5_7_5, o_r5_8_3⟩
     refine tsst hk rfl rfl (fun K_r5_8 hK_r5_8 w hF => ?_) wt_stop
     have hs := hs.f hF
     refine sbs0 106161 (Lay.sl L_Block 102) hs rfl hk rfl rfl un29 sz28 fun b_r5_8_1 k_r5_8_2 w a hk o_r5_8_3 hs => ?_
     refine se (hs.pick [(5, 5), (4, 4)] rfl) hk (hK_r5_8 _ _ ?_)
     refine tsst hk rfl rfl (fun K_r5_3 hK_r5_3 w hF => ?_) wt_stop
     have hs := hs.f hF
     refine sap 106001 (xs := ([] : List Int)) (ys := x0.Pos) (flat_flat : ((Lay.int .i64)).Flat) hs rfl o_r5_0_3 v0_0 (hs.hasD (k := 1) rfl) rfl hk rfl rfl rfl rfl rfl rfl un22 mk3 rfl rfl rfl c_r5_3_1 fun A_r5_3_2 p_r5_3_3 k_r5_3_4 w a hk o_r5_3_5 hs => ?_
     refine se (hs.pick [(5, 5), (4, 4)] rfl) hk (hK_r5_3 _ _ ?_)
     refine tsst hk rfl rfl (fun K_r5_7 hK_r5_7 w hF => ?_) wt_stop
     have hs := hs.f hF
     refine sap 106081 (xs := ([] : List S_Block)) (ys := x0.Stash) (flat_flat : (L_Block).Flat) hs rfl o_r5_4_3 v0_1 (hs.hasD (k := 2) rfl) rfl hk rfl rfl rfl rfl rfl rfl un28 mk102 rfl rfl rfl c_r5_7_1 fun A_r5_7_2 p_r5_7_3 k_r5_7_4 w a hk o_r5_7_5 hs => ?_
     refine se (hs.pick [(5, 5), (4, 4)] rfl) hk (hK_r5_7 _ _ ?_)
     refine tsst hk rfl rfl (fun K_r5_9 hK_r5_9 w hF => ?_) wt_stop
     have hs := hs.f hF
     refine sbd (pv := [(0, (.slice A_r5_3_2 (([] : List Int) ++ x0.Pos).length p_r5_3_3)), (1, (.slice A_r5_7_2 (([] : List S_Block) ++ x0.Stash).length p_r5_7_3)), (2, (.slice (some ⟨b_r5_8_1, 0, none⟩) 0 0))]) rfl hk rfl rfl rfl (bd31_1 A_r5_3_2 ((([] : List Int) ++ x0.Pos).length) p_r5_3_3 A_r5_7_2 ((([] : List S_Block) ++ x0.Stash).length) p_r5_7_3 (some ⟨b_r5_8_1, 0, none⟩) 0 0) fun a hk => ?_
     refine se (hs.pick [(5, 5), (4, 4)] rfl) hk (hK_r5_9 _ _ ?_)
     refine tlst hk rfl rfl fun K_r5_11 hK_r5_11 w hF => ?_
     have hs := hs.f hF
     refine ssw 106201 hs rfl rfl hk rfl rfl rfl rfl sz31 (by simp [Value.oneCell']) rfl fun w a hk hs => ?_
     refine se trivial hk (hK_r5_11 _ _ fun w hF => ?_)
     have hs := hs.f hF
     show R6 _ _
     rw [hR6]
     exact ⟨b_r5_10_1, A_r5_3_2, p_r5_3_3, A_r5_7_2, p_r5_7_3, b_r5_8_1, k_r5_3_4, k_r5_7_4, k_r5_8_2, (hk.c 1 rfl (hk.c 2 rfl (hk.c 3 rfl hk.k))), (hs.pick [(4, 4), (5, 5), (106201, 106201), (106001, 106001), (106081, 106081), (106161, 106161)] rfl), o_r5_3_5, o_r5_7_5, o_r5_8_3⟩
    refine tsst hk rfl rfl (fun K_r5_8 hK_r5_8 w hF => ?_) wt_stop
    have hs := hs.f hF
    refine sbs0 106161 (Lay.sl L_Block 102) hs rfl hk rfl rfl un29 sz28 fun b_r5_8_1 k_r5_8_2 w a hk o_r5_8_3 hs => ?_
    refine se (hs.pick [(5, 5), (4, 4)] rfl) hk (hK_r5_8 _ _ ?_)
    refine tsst hk rfl rfl (fun K_r5_3 hK_r5_3 w hF => ?_) ?_
    ·skip
     have hs := hs.f hF
     refine sap 106001 (xs := ([] : List Int)) (ys := x0.Pos) (flat_flat : ((Lay.int .i64)).Flat) hs rfl o_r5_0_3 v0_0 (hs.hasD (k := 1) rfl) rfl hk rfl rfl rfl rfl rfl rfl un22 mk3 rfl rfl rfl c_r5_3_1 fun A_r5_3_2 p_r5_3_3 k_r5_3_4 w a hk o_r5_3_5 hs => ?_
     refine se (hs.pick [(5, 5), (4, 4)] rfl) hk (hK_r5_3 _ _ ?_)
     refine tsst hk rfl rfl (fun K_r5_4 hK_r5_4 w hF => ?_) wt_stop
     have hs := hs.f hF
     refine sbs0 106081 L_Block hs rfl hk rfl rfl un28 sz102 fun b_r5_4_1 k_r5_4_2 w a hk o_r5_4_3 hs => ?_
     refine se (hs.pick [(5, 5), (4, 4)] rfl) hk (hK_r5_4 _ _ ?_)
     refine tsst hk rfl rfl (fun K_r5_7 hK_r5_7 w hF => ?_) wt_stop
     have hs := hs.f hF
     refine sap 106081 (xs := ([] : List S_Block)) (ys := x0.Stash) (flat_flat : (L_Block).Flat) hs rfl o_r5_4_3 v0_1 (hs.hasD (k := 2) rfl) rfl hk rfl rfl rfl rfl rfl rfl un28 mk102 rfl rfl rfl c_r5_7_1 fun A_r5_7_2 p_r5_7_3 k_r5_7_4 w a hk o_r5_7_5 hs => ?_
     refine se (hs.pick [(5, 5), (4, 4)] rfl) hk (hK_r5_7 _ _ ?_)
     refine tsst hk rfl rfl (fun K_r5_9 hK_r5_9 w hF => ?_) wt_stop
     have hs := hs.f hF
     refine sbd (pv := [(0, (.slice A_r5_3_2 (([] : List Int) ++ x0.Pos).length p_r5_3_3)), (1, (.slice A_r5_7_2 (([] : List S_Block) ++ x0.Stash).length p_r5_7_3)), (2, (.slice (some ⟨b_r5_8_1, 0, none⟩) 0 0))]) rfl hk rfl rfl rfl (bd31_1 A_r5_3_2 ((([] : List Int) ++ x0.Pos).length) p_r5_3_3 A_r5_7_2 ((([] : List S_Block) ++ x0.Stash).length) p_r5_7_3 (some ⟨b_r5_8_1, 0, none⟩) 0 0) fun a hk => ?_
     refine se (hs.pick [(5, 5), (4, 4)] rfl) hk (hK_r5_9 _ _ ?_)
     refine tlst hk rfl rfl fun K_r5_11 hK_r5_11 w hF => ?_
     have hs := hs.f hF
     refine ssw 106201 hs rfl rfl hk rfl rfl rfl rfl sz31 (by simp [Value.oneCell']) rfl fun w a hk hs => ?_
     refine se trivial hk (hK_r5_11 _ _ fun w hF => ?_)
     have hs := hs.f hF
     show R6 _ _
     rw [hR6]
     exact ⟨b_r5_10_1, A_r5_3_2, p_r5_3_3, A_r5_7_2, p_r5_7_3, b_r5_8_1, k_r5_3_4, k_r5_7_4, k_r5_8_2, (hk.c 1 rfl (hk.c 2 rfl (hk.c 3 rfl hk.k))), (hs.pick [(4, 4), (5, 5), (106201, 106201), (106001, 106001), (106081, 106081), (106161, 106161)] rfl), o_r5_3_5, o_r5_7_5, o_r5_8_3⟩
    refine tsst hk rfl rfl (fun K_r5_4 hK_r5_4 w hF => ?_) wt_stop
    have hs := hs.f hF
    refine sbs0 106081 L_Block hs rfl hk rfl rfl un28 sz102 fun b_r5_4_1 k_r5_4_2 w a hk o_r5_4_3 hs => ?_
    refine se (hs.pick [(5, 5), (4, 4)] rfl) hk (hK_r5_4 _ _ ?_)
    refine tsst hk rfl rfl (fun K_r5_3 hK_r5_3 w hF => ?_) wt_stop
    have hs := hs.f hF
    refine sap 106001 (xs := ([] : List Int)) (ys := x0.Pos) (flat_flat : ((Lay.int .i64)).Flat) hs rfl o_r5_0_3 v0_0 (hs.hasD (k := 1) rfl) rfl hk rfl rfl rfl rfl rfl rfl un22 mk3 rfl rfl rfl c_r5_3_1 fun A_r5_3_2 p_r5_3_3 k_r5_3_4 w a hk o_r5_3_5 hs => ?_
    refine se (hs.pick [(5, 5), (4, 4)] rfl) hk (hK_r5_3 _ _ ?_)
    refine tsst hk rfl rfl (fun K_r5_7 hK_r5_7 w hF => ?_) wt_stop
    have hs := hs.f hF
    refine sap 106081 (xs := ([] : List S_Block)) (ys := x0.Stash) (flat_flat : (L_Block).Flat) hs rfl o_r5_4_3 v0_1 (hs.hasD (k := 2) rfl) rfl hk rfl rfl rfl rfl rfl rfl un28 mk102 rfl rfl rfl c_r5_7_1 fun A_r5_7_2 p_r5_7_3 k_r5_7_4 w a hk o_r5_7_5 hs => ?_
    refine se (hs.pick [(5, 5), (4, 4)] rfl) hk (hK_r5_7 _ _ ?_)
    refine tsst hk rfl rfl (fun K_r5_9 hK_r5_9 w hF => ?_) wt_stop
    have hs := hs.f hF
    refine sbd (pv := [(0, (.slice A_r5_3_2 (([] : List Int) ++ x0.Pos).length p_r5_3_3)), (1, (.slice A_r5_7_2 (([] : List S_Block) ++ x0.Stash).length p_r5_7_3)), (2, (.slice (some ⟨b_r5_8_1, 0, none⟩) 0 0))]) rfl hk rfl rfl rfl (bd31_1 A_r5_3_2 ((([] : List Int) ++ x0.Pos).length) p_r5_3_3 A_r5_7_2 ((([] : List S_Block) ++ x0.Stash).length) p_r5_7_3 (some ⟨b_r5_8_1, 0, none⟩) 0 0) fun a hk => ?_
    refine se (hs.pick [(5, 5), (4, 4)] rfl) hk (hK_r5_9 _ _ ?_)
    refine tlst hk rfl rfl fun K_r5_11 hK_r5_11 w hF => ?_
    have hs := hs.f hF
    refine ssw 106201 hs rfl rfl hk rfl rfl rfl rfl sz31 (by simp [Value.oneCell']) rfl fun w a hk hs => ?_
    refine se trivial hk (hK_r5_11 _ _ fun w hF => ?_)
    have hs := hs.f hF
    show R6 _ _
    rw [hR6]
    exact ⟨b_r5_10_1, A_r5_3_2, p_r5_3_3, A_r5_7_2, p_r5_7_3, b_r5_8_1, k_r5_3_4, k_r5_7_4, k_r5_8_2, (hk.c 1 rfl (hk.c 2 rfl (hk.c 3 rfl hk.k))), (hs.pick [(4, 4), (5, 5), (106201, 106201), (106001, 106001), (106081, 106081), (106161, 106161)] rfl), o_r5_3_5, o_r5_7_5, o_r5_8_3⟩
   refine tsst hk rfl rfl (fun K_r5_4 hK_r5_4 w hF => ?_) ?_
   ·skip
    have hs := hs.f hF
    refine sbs0 106081 L_Block hs rfl hk rfl rfl un28 sz102 fun b_r5_4_1 k_r5_4_2 w a hk o_r5_4_3 hs => ?_
    refine se (hs.pick [(5, 5), (4, 4)] rfl) hk (hK_r5_4 _ _ ?_)
    refine tsst hk rfl rfl (fun K_r5_0 hK_r5_0 w hF => ?_) ?_
    ·skip
     have hs := hs.f hF
     refine sbs0 106001 (Lay.int .i64) hs rfl hk rfl rfl un22 sz3 fun b_r5_0_1 k_r5_0_2 w a hk o_r5_0_3 hs => ?_
     refine se (hs.pick [(5, 5), (4, 4)] rfl) hk (hK_r5_0 _ _ ?_)
     refine tsst hk rfl rfl (fun K_r5_3 hK_r5_3 w hF => ?_) ?_
     ·skip
      have hs := hs.f hF
      refine sap 106001 (xs := ([] : List Int)) (ys := x0.Pos) (flat_flat : ((Lay.int .i64)).Flat) hs rfl o_r5_0_3 v0_0 (hs.hasD (k := 1) rfl) rfl hk rfl rfl rfl rfl rfl rfl un22 mk3 rfl rfl rfl c_r5_3_1 fun A_r5_3_2 p_r5_3_3 k_r5_3_4 w a hk o_r5_3_5 hs => ?_
      refine se (hs.pick [(5, 5), (4, 4)] rfl) hk (hK_r5_3 _ _ ?_)
      refine tsst hk rfl rfl (fun K_r5_7 hK_r5_7 w hF => ?_) ?_
      ·skip
       have hs := hs.f hF
       refine sap 106081 (xs := ([] : List S_Block)) (ys := x0.Stash) (flat_flat : (L_Block).Flat) hs rfl o_r5_4_3 v0_1 (hs.hasD (k := 2) rfl) rfl hk rfl rfl rfl rfl rfl rfl un28 mk102 rfl rfl rfl c_r5_7_1 fun A_r5_7_2 p_r5_7_3 k_r5_7_4 w a hk o_r5_7_5 hs => ?_
       refine se (hs.pick [(5, 5), (4, 4)] rfl) hk (hK_r5_7 _ _ ?_)
       refine tsst hk rfl rfl (fun K_r5_8 hK_r5_8 w hF => ?_) ?_
       ·skip
        have hs := hs.f hF
        refine sbs0 106161 (Lay.sl L_Block 102) hs rfl hk rfl rfl un29 sz28 fun b_r5_8_1 k_r5_8_2 w a hk o_r5_8_3 hs => ?_
        refine se (hs.pick [(5, 5), (4, 4)] rfl) hk (hK_r5_8 _ _ ?_)
        refine tqst (.agg #[.slice A_r5_3_2 (([] : List Int) ++ x0.Pos).length p_r5_3_3, .slice A_r5_7_2 (([] : List S_Block) ++ x0.Stash).length p_r5_7_3, .slice (some ⟨b_r5_8_1, 0, none⟩) 0 0]) hk rfl rfl rfl rfl (fun w hs => sbd (pv := [(0, (.slice A_r5_3_2 (([] : List Int) ++ x0.Pos).length p_r5_3_3)), (1, (.slice A_r5_7_2 (([] : List S_Block) ++ x0.Stash).length p_r5_7_3)), (2, (.slice (some ⟨b_r5_8_1, 0, none⟩) 0 0))]) rfl hk rfl rfl rfl (bd31_1 A_r5_3_2 ((([] : List Int) ++ x0.Pos).length) p_r5_3_3 A_r5_7_2 ((([] : List S_Block) ++ x0.Stash).length) p_r5_7_3 (some ⟨b_r5_8_1, 0, none⟩) 0 0) fun a hk => qe hk) fun a hk => ?_
        refine tsst hk rfl rfl (fun K_r5_10 hK_r5_10 w hF => ?_) wt_stop
        have hs := hs.f hF
        refine salx 106201 hs rfl hk rfl rfl ze31 rfl fun b_r5_10_1 w a hk hs => ?_
        refine se (hs.pick [(5, 5), (4, 4)] rfl) hk (hK_r5_10 _ _ ?_)
        refine tlst hk rfl rfl fun K_r5_11 hK_r5_11 w hF => ?_
        have hs := hs.f hF
        refine ssw 106201 hs rfl rfl hk rfl rfl rfl rfl sz31 (by simp [Value.oneCell']) rfl fun w a hk hs => ?_
        refine se trivial hk (hK_r5_11 _ _ fun w hF => ?_)
        have hs := hs.f hF
        show R6 _ _
        rw [hR6]
        exact ⟨b_r5_10_1, A_r5_3_2, p_r5_3_3, A_r5_7_2, p_r5_7_3, b_r5_8_1, k_r5_3_4, k_r5_7_4, k_r5_8_2, (hk.c 1 rfl (hk.c 2 rfl (hk.c 3 rfl hk.k))), (hs.pick [(4, 4), (5, 5), (106201, 106201), (106001, 106001), (106081, 106081), (106161, 106161)] rfl), o_r5_3_5, o_r5_7_5, o_r5_8_3⟩
       refine tsst hk rfl rfl (fun K_r5_10 hK_r5_10 w hF => ?_) wt_stop
       have hs := hs.f hF
       refine salx 106201 hs rfl hk rfl rfl ze31 rfl fun b_r5_10_1 w a hk hs => ?_
       refine se (hs.pick [(5, 5), (4, 4)] rfl) hk (hK_r5_10 _ _ ?_)
       refine tsst hk rfl rfl (fun K_r5_8 hK_r5_8 w hF => ?_) wt_stop
       have hs := hs.f hF
       refine sbs0 106161 (Lay.sl L_Block 102) hs rfl hk rfl rfl un29 sz28 fun b_r5_8_1 k_r5_8_2 w a hk o_r5_8_3 hs => ?_
       refine se (hs.pick [(5, 5), (4, 4)] rfl) hk (hK_r5_8 _ _ ?_)
       refine tsst hk rfl rfl (fun K_r5_9 hK_r5_9 w hF => ?_) wt_stop
       have hs := hs.f hF
       refine sbd (pv := [(0, (.slice A_r5_3_2 (([] : List Int) ++ x0.Pos).length p_r5_3_3)), (1, (.slice A_r5_7_2 (([] : List S_Block) ++ x0.Stash).length p_r5_7_3)), (2, (.slice (some ⟨b_r5_8_1, 0, none⟩) 0 0))]) rfl hk rfl rfl rfl (bd31_1 A_r5_3_2 ((([] : List Int) ++ x0.Pos).length) p_r5_3_3 A_r5_7_2 ((([] : List S_Block) ++ x0.Stash).length) p_r5_7_3 (some ⟨b_r5_8_1, 0, none⟩) 0 0) fun a hk => ?_
       refine se (hs.pick [(5, 5), (4, 4)] rfl) hk (hK_r5_9 _ _ ?_)
       refine tlst hk rfl rfl fun K_r5_11 hK_r5_11 w hF => ?_
       have hs := hs.f hF
       refine ssw 106201 hs rfl rfl hk rfl rfl rfl rfl sz31 (by simp [Value.oneCell']) rfl fun w a hk hs => ?_
       refine se trivial hk (hK_r5_11 _ _ fun w hF => ?_)
       have hs := hs.f hF
       show R6 _ _
       rw [hR6]
       exact ⟨b_r5_10_1, A_r5_3_2, p_r5_3_3, A_r5_7_2, p_r5_7_3, b_r5_8_1, k_r5_3_4, k_r5_7_4, k_r5_8_2, (hk.c 1 rfl (hk.c 2 rfl (hk.c 3 rfl hk.k))), (hs.pick [(4, 4), (5, 5), (106201, 106201), (106001, 106001), (106081, 106081), (106161, 106161)] rfl), o_r5_3_5, o_r5_7_5, o_r5_8_3⟩
      refine tsst hk rfl rfl (fun K_r5_8 hK_r5_8 w hF => ?_) ?_
      ·skip
       have hs := hs.f hF
       refine sbs0 106161 (Lay.sl L_Block 102) hs rfl hk rfl rfl un29 sz28 fun b_r5_8_1 k_r5_8_2 w a hk o_r5_8_3 hs => ?_
       refine se (hs.pick [(5, 5), (4, 4)] rfl) hk (hK_r5_8 _ _ ?_)
       refine tsst hk rfl rfl (fun K_r5_7 hK_r5_7 w hF => ?_) ?_
       ·skip
        have hs := hs.f hF
        refine sap 106081 (xs := ([] : List S_Block)) (ys := x0.Stash) (flat_flat : (L_Block).Flat) hs rfl o_r5_4_3 v0_1 (hs.hasD (k := 2) rfl) rfl hk rfl rfl rfl rfl rfl rfl un28 mk102 rfl rfl rfl c_r5_7_1 fun A_r5_7_2 p_r5_7_3 k_r5_7_4 w a hk o_r5_7_5 hs => ?_
        refine se (hs.pick [(5, 5), (4, 4)] rfl) hk (hK_r5_7 _ _ ?_)
        refine tqst (.agg #[.slice A_r5_3_2 (([] : List Int) ++ x0.Pos).length p_r5_3_3, .slice A_r5_7_2 (([] : List S_Block) ++ x0.Stash).length p_r5_7_3, .slice (some ⟨b_r5_8_1, 0, none⟩) 0 0]) hk rfl rfl rfl rfl (fun w hs => sbd (pv := [(0, (.slice A_r5_3_2 (([] : List Int) ++ x0.Pos).length p_r5_3_3)), (1, (.slice A_r5_7_2 (([] : List S_Block) ++ x0.Stash).length p_r5_7_3)), (2, (.slice (some ⟨b_r5_8_1, 0, none⟩) 0 0))]) rfl hk rfl rfl rfl (bd31_1 A_r5_3_2 ((([] : List Int) ++ x0.Pos).length) p_r5_3_3 A_r5_7_2 ((([] : List S_Block) ++ x0.Stash).length) p_r5_7_3 (some ⟨b_r5_8_1, 0, none⟩) 0 0) fun a hk => qe hk) fun a hk => ?_
        refine tsst hk rfl rfl (fun K_r5_10 hK_r5_10 w hF => ?_) wt_stop
        have hs := hs.f hF
        refine salx 106201 hs rfl hk rfl rfl ze31 rfl fun b_r5_10_1 w a hk hs => ?_
        refine se (hs.pick [(5, 5), (4, 4)] rfl) hk (hK_r5_10 _ _ ?_)
        refine tlst hk rfl rfl fun K_r5_11 hK_r5_11 w hF => ?_
        have hs := hs.f hF
        refine ssw 106201 hs rfl rfl hk rfl rfl rfl rfl sz31 (by simp [Value.oneCell']) rfl fun w a hk hs => ?_
        refine se trivial hk (hK_r5_11 _ _ fun w hF => ?_)
        have hs := hs.f hF
        show R6 _ _
        rw [hR6]
        exact ⟨b_r5_10_1, A_r5_3_2, p_r5_3_3, A_r5_7_2, p_r5_7_3, b_r5_8_1, k_r5_3_4, k_r5_7_4, k_r5_8_2, (hk.c 1 rfl (hk.c 2 rfl (hk.c 3 rfl hk.k))), (hs.pick [(4, 4), (5, 5), (106201, 106201), (106001, 106001), (106081, 106081), (106161, 106161)] rfl), o_r5_3_5, o_r5_7_5, o_r5_8_3⟩
       refine tsst hk rfl rfl (fun K_r5_10 hK_r5_10 w hF => ?_) wt_stop
       have hs := hs.f hF
       refine salx 106201 hs rfl hk rfl rfl ze31 rfl fun b_r5_10_1 w a hk hs => ?_
       refine se (hs.pick [(5, 5), (4, 4)] rfl) hk (hK_r5_10 _ _ ?_)
       refine tsst hk rfl rfl (fun K_r5_7 hK_r5_7 w hF => ?_) wt_stop
       have hs := hs.f hF
       refine sap 106081 (xs := ([] : List S_Block)) (ys := x0.Stash) (flat_flat : (L_Block).Flat) hs rfl o_r5_4_3 v0_1 (hs.hasD (k := 2) rfl) rfl hk rfl rfl rfl rfl rfl rfl un28 mk102 rfl rfl rfl c_r5_7_1 fun A_r5_7_2 p_r5_7_3 k_r5_7_4 w a hk o_r5_7_5 hs => ?_
       refine se (hs.pick [(5, 5), (4, 4)] rfl) hk (hK_r5_7 _ _ ?_)
       refine tsst hk rfl rfl (fun K_r5_9 hK_r5_9 w hF => ?_) wt_stop
       have hs := hs.f hF
       refine sbd (pv := [(0, (.slice A_r5_3_2 (([] : List Int) ++ x0.Pos).length p_r5_3_3)), (1, (.slice A_r5_7_2 (([] : List S_Block) ++ x0.Stash).length p_r5_7_3)), (2, (.slice (some ⟨b_r5_8_1, 0, none⟩) 0 0))]) rfl hk rfl rfl rfl (bd31_1 A_r5_3_2 ((([] : List Int) ++ x0.Pos).length) p_r5_3_3 A_r5_7_2 ((([] : List S_Block) ++ x0.Stash).length) p_r5_7_3 (some ⟨b_r5_8_1, 0, none⟩) 0 0) fun a hk => ?_
       refine se (hs.pick [(5, 5), (4, 4)] rfl) hk (hK_r5_9 _ _ ?_)
       refine tlst hk rfl rfl fun K_r5_11 hK_r5_11 w hF => ?_
       have hs := hs.f hF
       refine ssw 106201 hs rfl rfl hk rfl rfl rfl rfl sz31 (by simp [Value.oneCell']) rfl fun w a hk hs => ?_
       refine se trivial hk (hK_r5_11 _ _ fun w hF => ?_)
       have hs := hs.f hF
       show R6 _ _
       rw [hR6]
       exact ⟨b_r5_10_1, A_r5_3_2, p_r5_3_3, A_r5_7_2, p_r5_7_3, b_r5_8_1, k_r5_3_4, k_r5_7_4, k_r5_8_2, (hk.c 1 rfl (hk.c 2 rfl (hk.c 3 rfl hk.k))), (hs.pick [(4, 4), (5, 5), (106201, 106201), (106001, 106001), (106081, 106081), (106161, 106161)] rfl), o_r5_3_5, o_r5_7_5, o_r5_8_3⟩
      refine tsst hk rfl rfl (fun K_r5_10 hK_r5_10 w hF => ?_) wt_stop
      have hs := hs.f hF
      refine salx 106201 hs rfl hk rfl rfl ze31 rfl fun b_r5_10_1 w a hk hs => ?_
      refine se (hs.pick [(5, 5), (4, 4)] rfl) hk (hK_r5_10 _ _ ?_)
      refine tsst hk rfl rfl (fun K_r5_7 hK_r5_7 w hF => ?_) ?_
      ·skip
       have hs := hs.f hF
       refine sap 106081 (xs := ([] : List S_Block)) (ys := x0.Stash) (flat_flat : (L_Block).Flat) hs rfl o_r5_4_3 v0_1 (hs.hasD (k := 2) rfl) rfl hk rfl rfl rfl rfl rfl rfl un28 mk102 rfl rfl rfl c_r5_7_1 fun A_r5_7_2 p_r5_7_3 k_r5_7_4 w a hk o_r5_7_5 hs => ?_
       refine se (hs.pick [(5, 5), (4, 4)] rfl) hk (hK_r5_7 _ _ ?_)
       refine tsst hk rfl rfl (fun K_r5_8 hK_r5_8 w hF => ?_) wt_stop
       have hs := hs.f hF
       refine sbs0 106161 (Lay.sl L_Block 102) hs rfl hk rfl rfl un29 sz28 fun b_r5_8_1 k_r5_8_2 w a hk o_r5_8_3 hs => ?_
       refine se (hs.pick [(5, 5), (4, 4)] rfl) hk (hK_r5_8 _ _ ?_)
       refine tsst hk rfl rfl (fun K_r5_9 hK_r5_9 w hF => ?_) wt_stop
       have hs := hs.f hF
       refine sbd (pv := [(0, (.slice A_r5_3_2 (([] : List Int) ++ x0.Pos).length p_r5_3_3)), (1, (.slice A_r5_7_2 (([] : List S_Block) ++ x0.Stash).length p_r5_7_3)), (2, (.slice (some ⟨b_r5_8_1, 0, none⟩) 0 0))]) rfl hk rfl rfl rfl (bd31_1 A_r5_3_2 ((([] : List Int) ++ x0.Pos).length) p_r5_3_3 A_r5_7_2 ((([] : List S_Block) ++ x0.Stash).length) p_r5_7_3 (some ⟨b_r5_8_1, 0, none⟩) 0 0) fun a hk => ?_
       refine se (hs.pick [(5, 5), (4, 4)] rfl) hk (hK_r5_9 _ _ ?_)
       refine tlst hk rfl rfl fun K_r5_11 hK_r5_11 w hF => ?_
       have hs := hs.f hF
       refine ssw 106201 hs rfl rfl hk rfl rfl rfl rfl sz31 (by simp [Value.oneCell']) rfl fun w a hk hs => ?_
       refine se trivial hk (hK_r5_11 _ _ fun w hF => ?_)
       have hs := hs.f hF
       show R6 _ _
       rw [hR6]
       exact ⟨b_r5_10_1, A_r5_3_2, p_r5_3_3, A_r5_7_2, p_r5_7_3, b_r5_8_1, k_r5_3_4, k_r5_7_4, k_r5_8_2, (hk.c 1 rfl (hk.c 2 rfl (hk.c 3 rfl hk.k))), (hs.pick [(4, 4), (5, 5), (106201, 106201), (106001, 106001), (106081, 106081), (106161, 106161)] rfl), o_r5_3_5, o_r5_7_5, o_r5_8_3⟩
      refine tsst hk rfl rfl (fun K_r5_8 hK_r5_8 w hF => ?_) wt_stop
      have hs := hs.f hF
      refine sbs0 106161 (Lay.sl L_Block 102) hs rfl hk rfl rfl un29 sz28 fun b_r5_8_1 k_r5_8_2 w a hk o_r5_8_3 hs => ?_
      refine se (hs.pick [(5, 5), (4, 4)] rfl) hk (hK_r5_8 _ _ ?_)
      refine tsst hk rfl rfl (fun K_r5_7 hK_r5_7 w hF => ?_) wt_stop
      have hs := hs.f hF
      refine sap 106081 (xs := ([] : List S_Block)) (ys := x0.Stash) (flat_flat : (L_Block).Flat) hs rfl o_r5_4_3 v0_1 (hs.hasD (k := 2) rfl) rfl hk rfl rfl rfl rfl rfl rfl un28 mk102 rfl rfl rfl c_r5_7_1 fun A_r5_7_2 p_r5_7_3 k_r5_7_4 w a hk o_r5_7_5 hs => ?_
      refine se (hs.pick [(5, 5), (4, 4)] rfl) hk (hK_r5_7 _ _ ?_)
      refine tsst hk rfl rfl (fun K_r5_9 hK_r5_9 w hF => ?_) wt_stop
      have hs := hs.f hF
      refine sbd (pv := [(0, (.slice A_r5_3_2 (([] : List Int) ++ x0.Pos).length p_r5_3_3)), (1, (.slice A_r5_7_2 (([] : List S_Block) ++ x0.Stash).length p_r5_7_3)), (2, (.slice (some ⟨b_r5_8_1, 0, none⟩) 0 0))]) rfl hk rfl rfl rfl (bd31_1 A_r5_3_2 ((([] : List Int) ++ x0.Pos).length) p_r5_3_3 A_r5_7_2 ((([] : List S_Block) ++ x0.Stash).length) p_r5_7_3 (some ⟨b_r5_8_1, 0, none⟩) 0 0) fun a hk => ?_
      refine se (hs.pick [(5, 5), (4, 4)] rfl) hk (hK_r5_9 _ _ ?_)
      refine tlst hk rfl rfl fun K_r5_11 hK_r5_11 w hF => ?_
      have hs := hs.f hF
      refine ssw 106201 hs rfl rfl hk rfl rfl rfl rfl sz31 (by simp [Value.oneCell']) rfl fun w a hk hs => ?_
      refine se trivial hk (hK_r5_11 _ _ fun w hF => ?_)
      have hs := hs.f hF
      show R6 _ _
      rw [hR6]
      exact ⟨b_r5_10_1, A_r5_3_2, p_r5_3_3, A_r5_7_2, p_r5_7_3, b_r5_8_1, k_r5_3_4, k_r5_7_4, k_r5_8_2, (hk.c 1 rfl (hk.c 2 rfl (hk.c 3 rfl hk.k))), (hs.pick [(4, 4), (5, 5), (106201, 106201), (106001, 106001), (106081, 106081), (106161, 106161)] rfl), o_r5_3_5, o_r5_7_5, o_r5_8_3⟩
     refine tsst hk rfl rfl (fun K_r5_8 hK_r5_8 w hF => ?_) ?_
     ·skip
      have hs := hs.f hF
      refine sbs0 106161 (Lay.sl L_Block 102) hs rfl hk rfl rfl un29 sz28 fun b_r5_8_1 k_r5_8_2 w a hk o_r5_8_3 hs => ?_
      refine se (hs.pick [(5, 5), (4, 4)] rfl) hk (hK_r5_8 _ _ ?_)
      refine tsst hk rfl rfl (fun K_r5_3 hK_r5_3 w hF => ?_) ?_
      ·skip
       have hs := hs.f hF
       refine sap 106001 (xs := ([] : List Int)) (ys := x0.Pos) (flat_flat : ((Lay.int .i64)).Flat) hs rfl o_r5_0_3 v0_0 (hs.hasD (k := 1) rfl) rfl hk rfl rfl rfl rfl rfl rfl un22 mk3 rfl rfl rfl c_r5_3_1 fun A_r5_3_2 p_r5_3_3 k_r5_3_4 w a hk o_r5_3_5 hs => ?_
       refine se (hs.pick [(5, 5), (4, 4)] rfl) hk (hK_r5_3 _ _ ?_)
       refine tsst hk rfl rfl (fun K_r5_7 hK_r5_7 w hF => ?_) ?_
       ·skip
        have hs := hs.f hF
        refine sap 106081 (xs := ([] : List S_Block)) (ys := x0.Stash) (flat_flat : (L_Block).Flat) hs rfl o_r5_4_3 v0_1 (hs.hasD (k := 2) rfl) rfl hk rfl rfl rfl rfl rfl rfl un28 mk102 rfl rfl rfl c_r5_7_1 fun A_r5_7_2 p_r5_7_3 k_r5_7_4 w a hk o_r5_7_5 hs => ?_
        refine se (hs.pick [(5, 5), (4, 4)] rfl) hk (hK_r5_7 _ _ ?_)
        refine tqst (.agg #[.slice A_r5_3_2 (([] : List Int) ++ x0.Pos).length p_r5_3_3, .slice A_r5_7_2 (([] : List S_Block) ++ x0.Stash).length p_r5_7_3, .slice (some ⟨b_r5_8_1, 0, none⟩) 0 0]) hk rfl rfl rfl rfl (fun w hs => sbd (pv := [(0, (.slice A_r5_3_2 (([] : List Int) ++ x0.Pos).length p_r5_3_3)), (1, (.slice A_r5_7_2 (([] : List S_Block) ++ x0.Stash).length p_r5_7_3)), (2, (.slice (some ⟨b_r5_8_1, 0, none⟩) 0 0))]) rfl hk rfl rfl rfl (bd31_1 A_r5_3_2 ((([] : List Int) ++ x0.Pos).length) p_r5_3_3 A_r5_7_2 ((([] : List S_Block) ++ x0.Stash).length) p_r5_7_3 (some ⟨b_r5_8_1, 0, none⟩) 0 0) fun a hk => qe hk) fun a hk => ?_
        refine tsst hk rfl rfl (fun K_r5_10 hK_r5_10 w hF => ?_) wt_stop
        have hs := hs.f hF
        refine salx 106201 hs rfl hk rfl rfl ze31 rfl fun b_r5_10_1 w a hk hs => ?_
        refine se (hs.pick [(5, 5), (4, 4)] rfl) hk (hK_r5_10 _ _ ?_)
        refine tlst hk rfl rfl fun K_r5_11 hK_r5_11 w hF => ?_
        have hs := hs.f hF
        refine ssw 106201 hs rfl rfl hk rfl rfl rfl rfl sz31 (by simp [Value.oneCell']) rfl fun w a hk hs => ?_
        refine se trivial hk (hK_r5_11 _ _ fun w hF => ?_)
        have hs := hs.f hF
        show R6 _ _
        rw [hR6]
        exact ⟨b_r5_10_1, A_r5_3_2, p_r5_3_3, A_r5_7_2, p_r5_7_3, b_r5_8_1, k_r5_3_4, k_r5_7_4, k_r5_8_2, (hk.c 1 rfl (hk.c 2 rfl (hk.c 3 rfl hk.k))), (hs.pick [(4, 4), (5, 5), (106201, 106201), (106001, 106001), (106081, 106081), (106161, 106161)] rfl), o_r5_3_5, o_r5_7_5, o_r5_8_3⟩
       refine tsst hk rfl rfl (fun K_r5_10 hK_r5_10 w hF => ?_) wt_stop
       have hs := hs.f hF
       refine salx 106201 hs rfl hk rfl rfl ze31 rfl fun b_r5_10_1 w a hk hs => ?_
       refine se (hs.pick [(5, 5), (4, 4)] rfl) hk (hK_r5_10 _ _ ?_)
       refine tsst hk rfl rfl (fun K_r5_7 hK_r5_7 w hF => ?_) wt_stop
       have hs := hs.f hF
       refine sap 106081 (xs := ([] : List S_Block)) (ys := x0.Stash) (flat_flat : (L_Block).Flat) hs rfl o_r5_4_3 v0_1 (hs.hasD (k := 2) rfl) rfl hk rfl rfl rfl rfl rfl rfl un28 mk102 rfl rfl rfl c_r5_7_1 fun A_r5_7_2 p_r5_7_3 k_r5_7_4 w a hk o_r5_7_5 hs => ?_
       refine se (hs.pick [(5, 5), (4, 4)] rfl) hk (hK_r5_7 _ _ ?_)
       refine tsst hk rfl rfl (fun K_r5_9 hK_r5_9 w hF => ?_) wt_stop
       have hs := hs.f hF
       refine sbd (pv := [(0, (.slice A_r5_3_2 (([] : List Int) ++ x0.Pos).length p_r5_3_3)), (1, (.slice A_r5_7_2 (([] : List S_Block) ++ x0.Stash).length p_r5_7_3)), (2, (.slice (some ⟨b_r5_8_1, 0, none⟩) 0 0))]) rfl hk rfl rfl rfl (bd31_1 A_r5_3_2 ((([] : List Int) ++ x0.Pos).length) p_r5_3_3 A_r5_7_2 ((([] : List S_Block) ++ x0.Stash).length) p_r5_7_3 (some ⟨b_r5_8_1, 0, none⟩) 0 0) fun a hk => ?_
       refine se (hs.pick [(5, 5), (4, 4)] rfl) hk (hK_r5_9 _ _ ?_)
       refine tlst hk rfl rfl fun K_r5_11 hK_r5_11 w hF => ?_
       have hs := hs.f hF
       refine ssw 106201 hs rfl rfl hk rfl rfl rfl rfl sz31 (by simp [Value.oneCell']) rfl fun w a hk hs => ?_
       refine se trivial hk (hK_r5_11 _ _ fun w hF => ?_)
       have hs := hs.f hF
       show R6 _ _
       rw [hR6]
       exact ⟨b_r5_10_1, A_r5_3_2, p_r5_3_3, A_r5_7_2, p_r5_7_3, b_r5_8_1, k_r5_3_4, k_r5_7_4, k_r5_8_2, (hk.c 1 rfl (hk.c 2 rfl (hk.c 3 rfl hk.k))), (hs.pick [(4, 4), (5, 5), (106201, 106201), (106001, 106001), (106081, 106081), (106161, 106161)] rfl), o_r5_3_5, o_r5_7_5, o_r5_8_3⟩
      refine tsst hk rfl rfl (fun K_r5_10 hK_r5_10 w hF => ?_) wt_stop
      have hs := hs.f hF
      refine salx 106201 hs rfl hk rfl rfl ze31 rfl fun b_r5_10_1 w a hk hs => ?_
      refine se (hs.pick [(5, 5), (4, 4)] rfl) hk (hK_r5_10 _ _ ?_)
      refine tsst hk rfl rfl (fun K_r5_3 hK_r5_3 w hF => ?_) wt_stop
      have hs := hs.f hF
      refine sap 106001 (xs := ([] : List Int)) (ys := x0.Pos) (flat_flat : ((Lay.int .i64)).Flat) hs rfl o_r5_0_3 v0_0 (hs.hasD (k := 1) rfl) rfl hk rfl rfl rfl rfl rfl rfl un22 mk3 rfl rfl rfl c_r5_3_1 fun A_r5_3_2 p_r5_3_3 k_r5_3_4 w a hk o_r5_3_5 hs => ?_
      refine se (hs.pick [(5, 5), (4, 4)] rfl) hk (hK_r5_3 _ _ ?_)
      refine tsst hk rfl rfl (fun K_r5_7 hK_r5_7 w hF => ?_) wt_stop
      have hs := hs.f hF
      refine sap 106081 (xs := ([] : List S_Block)) (ys := x0.Stash) (flat_flat : (L_Block).Flat) hs rfl o_r5_4_3 v0_1 (hs.hasD (k := 2) rfl) rfl hk rfl rfl rfl rfl rfl rfl un28 mk102 rfl rfl rfl c_r5_7_1 fun A_r5_7_2 p_r5_7_3 k_r5_7_4 w a hk o_r5_7_5 hs => ?_
      refine se (hs.pick [(5, 5), (4, 4)] rfl) hk (hK_r5_7 _ _ ?_)
      refine tsst hk rfl rfl (fun K_r5_9 hK_r5_9 w hF => ?_) wt_stop
      have hs := hs.f hF
      refine sbd (pv := [(0, (.slice A_r5_3_2 (([] : List Int) ++ x0.Pos).length p_r5_3_3)), (1, (.slice A_r5_7_2 (([] : List S_Block) ++ x0.Stash).length p_r5_7_3)), (2, (.slice (some ⟨b_r5_8_1, 0, none⟩) 0 0))]) rfl hk rfl rfl rfl (bd31_1 A_r5_3_2 ((([] : List Int) ++ x0.Pos).length) p_r5_3_3 A_r5_7_2 ((([] : List S_Block) ++ x0.Stash).length) p_r5_7_3 (some ⟨b_r5_8_1, 0, none⟩) 0 0) fun a hk => ?_
      refine se (hs.pick [(5, 5), (4, 4)] rfl) hk (hK_r5_9 _ _ ?_)
      refine tlst hk rfl rfl fun K_r5_11 hK_r5_11 w hF => ?_
      have hs := hs.f hF
      refine ssw 106201 hs rfl rfl hk rfl rfl rfl rfl sz31 (by simp [Value.oneCell']) rfl fun w a hk hs => ?_
      refine se trivial hk (hK_r5_11 _ _ fun w hF => ?_)
      have hs := hs.f hF
      show R6 _ _
      rw [hR6]
      exact ⟨b_r5_10_1, A_r5_3_2, p_r5_3_3, A_r5_7_2, p_r5_7_3, b_r5_8_1, k_r5_3_4, k_r5_7_4, k_r5_8_2, (hk.c 1 rfl (hk.c 2 rfl (hk.c 3 rfl hk.k))), (hs.pick [(4, 4), (5, 5), (106201, 106201), (106001, 106001), (106081, 106081), (106161, 106161)] rfl), o_r5_3_5, o_r5_7_5, o_r5_8_3⟩
     refine tsst hk rfl rfl (fun K_r5_10 hK_r5_10 w hF => ?_) wt_stop
     have hs := hs.f hF
     refine salx 106201 hs rfl hk rfl rfl ze31 rfl fun b_r5_10_1 w a hk hs => ?_
     refine se (hs.pick [(5, 5), (4, 4)] rfl) hk (hK_r5_10 _ _ ?_)
     refine tsst hk rfl rfl (fun K_r5_3 hK_r5_3 w hF => ?_) ?_
     ·skip
      have hs := hs.f hF
      refine sap 106001 (xs := ([] : List Int)) (ys := x0.Pos) (flat_flat : ((Lay.int .i64)).Flat) hs rfl o_r5_0_3 v0_0 (hs.hasD (k := 1) rfl) rfl hk rfl rfl rfl rfl rfl rfl un22 mk3 rfl rfl rfl c_r5_3_1 fun A_r5_3_2 p_r5_3_3 k_r5_3_4 w a hk o_r5_3_5 hs => ?_
      refine se (hs.pick [(5, 5), (4, 4)] rfl) hk (hK_r5_3 _ _ ?_)
      refine tsst hk rfl rfl (fun K_r5_7 hK_r5_7 w hF => ?_) ?_
      ·skip
       have hs := hs.f hF
       refine sap 106081 (xs := ([] : List S_Block)) (ys := x0.Stash) (flat_flat : (L_Block).Flat) hs rfl o_r5_4_3 v0_1 (hs.hasD (k := 2) rfl) rfl hk rfl rfl rfl rfl rfl rfl un28 mk102 rfl rfl rfl c_r5_7_1 fun A_r5_7_2 p_r5_7_3 k_r5_7_4 w a hk o_r5_7_5 hs => ?_
       refine se (hs.pick [(5, 5), (4, 4)] rfl) hk (hK_r5_7 _ _ ?_)
       refine tsst hk rfl rfl (fun K_r5_8 hK_r5_8 w hF => ?_) wt_stop
       have hs := hs.f hF
       refine sbs0 106161 (Lay.sl L_Block 102) hs rfl hk rfl rfl un29 sz28 fun b_r5_8_1 k_r5_8_2 w a hk o_r5_8_3 hs => ?_
       refine se (hs.pick [(5, 5), (4, 4)] rfl) hk (hK_r5_8 _ _ ?_)
       refine tsst hk rfl rfl (fun K_r5_9 hK_r5_9 w hF => ?_) wt_stop
       have hs := hs.f hF
       refine sbd (pv := [(0, (.slice A_r5_3_2 (([] : List Int) ++ x0.Pos).length p_r5_3_3)), (1, (.slice A_r5_7_2 (([] : List S_Block) ++ x0.Stash).length p_r5_7_3)), (2, (.slice (some ⟨b_r5_8_1, 0, none⟩) 0 0))]) rfl hk rfl rfl rfl (bd31_1 A_r5_3_2 ((([] : List Int) ++ x0.Pos).length) p_r5_3_3 A_r5_7_2 ((([] : List S_Block) ++ x0.Stash).length) p_r5_7_3 (some ⟨b_r5_8_1, 0, none⟩) 0 0) fun a hk => ?_
       refine se (hs.pick [(5, 5), (4, 4)] rfl) hk (hK_r5_9 _ _ ?_)
       refine tlst hk rfl rfl fun K_r5_11 hK_r5_11 w hF => ?_
       have hs := hs.f hF
       refine ssw 106201 hs rfl rfl hk rfl rfl rfl rfl sz31 (by simp [Value.oneCell']) rfl fun w a hk hs => ?_
       refine se trivial hk (hK_r5_11 _ _ fun w hF => ?_)
       have hs := hs.f hF
       show R6 _ _
       rw [hR6]
       exact ⟨b_r5_10_1, A_r5_3_2, p_r5_3_3, A_r5_7_2, p_r5_7_3, b_r5_8_1, k_r5_3_4, k_r5_7_4, k_r5_8_2, (hk.c 1 rfl (hk.c 2 rfl (hk.c 3 rfl hk.k))), (hs.pick [(4, 4), (5, 5), (106201, 106201), (106001, 106001), (106081, 106081), (106161, 106161)] rfl), o_r5_3_5, o_r5_7_5, o_r5_8_3⟩
      refine tsst hk rfl rfl (fun K_r5_8 hK_r5_8 w hF => ?_) wt_stop
      have hs := hs.f hF
      refine sbs0 106161 (Lay.sl L_Block 102) hs rfl hk rfl rfl un29 sz28 fun b_r5_8_1 k_r5_8_2 w a hk o_r5_8_3 hs => ?_
      refine se (hs.pick [(5, 5), (4, 4)] rfl) hk (hK_r5_8 _ _ ?_)
      refine tsst hk rfl rfl (fun K_r5_7 hK_r5_7 w hF => ?_) wt_stop
      have hs := hs.f hF
      refine sap 106081 (xs := ([] : List S_Block)) (ys := x0.Stash) (flat_flat : (L_Block).Flat) hs rfl o_r5_4_3 v0_1 (hs.hasD (k := 2) rfl) rfl hk rfl rfl rfl rfl rfl rfl un28 mk102 rfl rfl rfl c_r5_7_1 fun A_r5_7_2 p_r5_7_3 k_r5_7_4 w a hk o_r5_7_5 hs => ?_
      refine se (hs.pick [(5, 5), (4, 4)] rfl) hk (hK_r5_7 _ _ ?_)
      refine tsst hk rfl rfl (fun K_r5_9 hK_r5_9 w hF => ?_) wt_stop
      have hs := hs.f hF
      refine sbd (pv := [(0, (.slice A_r5_3_2 (([] : List Int) ++ x0.Pos).length p_r5_3_3)), (1, (.slice A_r5_7_2 (([] : List S_Block) ++ x0.Stash).length p_r5_7_3)), (2, (.slice (some ⟨b_r5_8_1, 0, none⟩) 0 0))]) rfl hk rfl rfl rfl (bd31_1 A_r5_3_2 ((([] : List Int) ++ x0.Pos).length) p_r5_3_3 A_r5_7_2 ((([] : List S_Block) ++ x0.Stash).length) p_r5_7_3 (some ⟨b_r5_8_1, 0, none⟩) 0 0) fun a hk => ?_
      refine se (hs.pick [(5, 5), (4, 4)] rfl) hk (hK_r5_9 _ _ ?_)
      refine tlst hk rfl rfl fun K_r5_11 hK_r5_11 w hF => ?_
      have hs := hs.f hF
      refine ssw 106201 hs rfl rfl hk rfl rfl rfl rfl sz31 (by simp [Value.oneCell']) rfl fun w a hk hs => ?_
      refine se trivial hk (hK_r5_11 _ _ fun w hF => ?_)
      have hs := hs.f hF
      show R6 _ _
      rw [hR6]
      exact ⟨b_r5_10_1, A_r5_3_2, p_r5_3_3, A_r5_7_2, p_r5_7_3, b_r5_8_1, k_r5_3_4, k_r5_7_4, k_r5_8_2, (hk.c 1 rfl (hk.c 2 rfl (hk.c 3 rfl hk.k))), (hs.pick [(4, 4), (5, 5), (106201, 106201), (106001, 106001), (106081, 106081), (106161, 106161)] rfl), o_r5_3_5, o_r5_7_5, o_r5_8_3⟩
     refine tsst hk rfl rfl (fun K_r5_8 hK_r5_8 w hF => ?_) wt_stop
     have hs := hs.f hF
     refine sbs0 106161 (Lay.sl L_Block 102) hs rfl hk rfl rfl un29 sz28 fun b_r5_8_1 k_r5_8_2 w a hk o_r5_8_3 hs => ?_
     refine se (hs.pick [(5, 5), (4, 4)] rfl) hk (hK_r5_8 _ _ ?_)
     refine tsst hk rfl rfl (fun K_r5_3 hK_r5_3 w hF => ?_) wt_stop
     have hs := hs.f hF
     refine sap 106001 (xs := ([] : List Int)) (ys := x0.Pos) (flat_flat : ((Lay.int .i64)).Flat) hs rfl o_r5_0_3 v0_0 (hs.hasD (k := 1) rfl) rfl hk rfl rfl rfl rfl rfl rfl un22 mk3 rfl rfl rfl c_r5_3_1 fun A_r5_3_2 p_r5_3_3 k_r5_3_4 w a hk o_r5_3_5 hs => ?_
     refine se (hs.pick [(5, 5), (4, 4)] rfl) hk (hK_r5_3 _ _ ?_)
     refine tsst hk rfl rfl (fun K_r5_7 hK_r5_7 w hF => ?_) wt_stop
     have hs := hs.f hF
     refine sap 106081 (xs := ([] : List S_Block)) (ys := x0.Stash) (flat_flat : (L_Block).Flat) hs rfl o_r5_4_3 v0_1 (hs.hasD (k := 2) rfl) rfl hk rfl rfl rfl rfl rfl rfl un28 mk102 rfl rfl rfl c_r5_7_1 fun A_r5_7_2 p_r5_7_3 k_r5_7_4 w a hk o_r5_7_5 hs => ?_
     refine se (hs.pick [(5, 5), (4, 4)] rfl) hk (hK_r5_7 _ _ ?_)
     refine tsst hk rfl rfl (fun K_r5_9 hK_r5_9 w hF => ?_) wt_stop
     have hs := hs.f hF
     refine sbd (pv := [(0, (.slice A_r5_3_2 (([] : List Int) ++ x0.Pos).length p_r5_3_3)), (1, (.slice A_r5_7_2 (([] : List S_Block) ++ x0.Stash).length p_r5_7_3)), (2, (.slice (some ⟨b_r5_8_1, 0, none⟩) 0 0))]) rfl hk rfl rfl rfl (bd31_1 A_r5_3_2 ((([] : List Int) ++ x0.Pos).length) p_r5_3_3 A_r5_7_2 ((([] : List S_Block) ++ x0.Stash).length) p_r5_7_3 (some ⟨b_r5_8_1, 0, none⟩) 0 0) fun a hk => ?_
     refine se (hs.pick [(5, 5), (4, 4)] rfl) hk (hK_r5_9 _ _ ?_)
     refine tlst hk rfl rfl fun K_r5_11 hK_r5_11 w hF => ?_
     have hs := hs.f hF
     refine ssw 106201 hs rfl rfl hk rfl rfl rfl rfl sz31 (by simp [Value.oneCell']) rfl fun w a hk hs => ?_
     refine se trivial hk (hK_r5_11 _ _ fun w hF => ?_)
     have hs := hs.f hF
     show R6 _ _
     rw [hR6]
     exact ⟨b_r5_10_1, A_r5_3_2, p_r5_3_3, A_r5_7_2, p_r5_7_3, b_r5_8_1, k_r5_3_4, k_r5_7_4, k_r5_8_2, (hk.c 1 rfl (hk.c 2 rfl (hk.c 3 rfl hk.k))), (hs.pick [(4, 4), (5, 5), (106201, 106201), (106001, 106001), (106081, 106081), (106161, 106161)] rfl), o_r5_3_5, o_r5_7_5, o_r5_8_3⟩
    refine tsst hk rfl rfl (fun K_r5_8 hK_r5_8 w hF => ?_) ?_
    ·skip
     have hs := hs.f hF
     refine sbs0 106161 (Lay.sl L_Block 102) hs rfl hk rfl rfl un29 sz28 fun b_r5_8_1 k_r5_8_2 w a hk o_r5_8_3 hs => ?_
     refine se (hs.pick [(5, 5), (4, 4)] rfl) hk (hK_r5_8 _ _ ?_)
     refine tsst hk rfl rfl (fun K_r5_0 hK_r5_0 w hF => ?_) ?_
     ·skip
      have hs := hs.f hF
      refine sbs0 106001 (Lay.int .i64) hs rfl hk rfl rfl un22 sz3 fun b_r5_0_1 k_r5_0_2 w a hk o_r5_0_3 hs => ?_
      refine se (hs.pick [(5, 5), (4, 4)] rfl) hk (hK_r5_0 _ _ ?_)
      refine tsst hk rfl rfl (fun K_r5_3 hK_r5_3 w hF => ?_) ?_
      ·skip
       have hs := hs.f hF
       refine sap 106001 (xs := ([] : List Int)) (ys := x0.Pos) (flat_flat : ((Lay.int .i64)).Flat) hs rfl o_r5_0_3 v0_0 (hs.hasD (k := 1) rfl) rfl hk rfl rfl rfl rfl rfl rfl un22 mk3 rfl rfl rfl c_r5_3_1 fun A_r5_3_2 p_r5_3_3 k_r5_3_4 w a hk o_r5_3_5 hs => ?_
       refine se (hs.pick [(5, 5), (4, 4)] rfl) hk (hK_r5_3 _ _ ?_)
       refine tsst hk rfl rfl (fun K_r5_7 hK_r5_7 w hF => ?_) ?_
       ·skip
        have hs := hs.f hF
        refine sap 106081 (xs := ([] : List S_Block)) (ys := x0.Stash) (flat_flat : (L_Block).Flat) hs rfl o_r5_4_3 v0_1 (hs.hasD (k := 2) rfl) rfl hk rfl rfl rfl rfl rfl rfl un28 mk102 rfl rfl rfl c_r5_7_1 fun A_r5_7_2 p_r5_7_3 k_r5_7_4 w a hk o_r5_7_5 hs => ?_
        refine se (hs.pick [(5, 5), (4, 4)] rfl) hk (hK_r5_7 _ _ ?_)
        refine tqst (.agg #[.slice A_r5_3_2 (([] : List Int) ++ x0.Pos).length p_r5_3_3, .slice A_r5_7_2 (([] : List S_Block) ++ x0.Stash).length p_r5_7_3, .slice (some ⟨b_r5_8_1, 0, none⟩) 0 0]) hk rfl rfl rfl rfl (fun w hs => sbd (pv := [(0, (.slice A_r5_3_2 (([] : List Int) ++ x0.Pos).length p_r5_3_3)), (1, (.slice A_r5_7_2 (([] : List S_Block) ++ x0.Stash).length p_r5_7_3)), (2, (.slice (some ⟨b_r5_8_1, 0, none⟩) 0 0))]) rfl hk rfl rfl rfl (bd31_1 A_r5_3_2 ((([] : List Int) ++ x0.Pos).length) p_r5_3_3 A_r5_7_2 ((([] : List S_Block) ++ x0.Stash).length) p_r5_7_3 (some ⟨b_r5_8_1, 0, none⟩) 0 0) fun a hk => qe hk) fun a hk => ?_
        refine tsst hk rfl rfl (fun K_r5_10 hK_r5_10 w hF => ?_) wt_stop
        have hs := hs.f hF
        refine salx 106201 hs rfl hk rfl rfl ze31 rfl fun b_r5_10_1 w a hk hs => ?_
        refine se (hs.pick [(5, 5), (4, 4)] rfl) hk (hK_r5_10 _ _ ?_)
        refine tlst hk rfl rfl fun K_r5_11 hK_r5_11 w hF => ?_
        have hs := hs.f hF
        refine ssw 106201 hs rfl rfl hk rfl rfl rfl rfl sz31 (by simp [Value.oneCell']) rfl fun w a hk hs => ?_
        refine se trivial hk (hK_r5_11 _ _ fun w hF => ?_)
        have hs := hs.f hF
        show R6 _ _
        rw [hR6]
        exact ⟨b_r5_10_1, A_r5_3_2, p_r5_3_3, A_r5_7_2, p_r5_7_3, b_r5_8_1, k_r5_3_4, k_r5_7_4, k_r5_8_2, (hk.c 1 rfl (hk.c 2 rfl (hk.c 3 rfl hk.k))), (hs.pick [(4, 4), (5, 5), (106201, 106201), (106001, 106001), (106081, 106081), (106161, 106161)] rfl), o_r5_3_5, o_r5_7_5, o_r5_8_3⟩
       refine tsst hk rfl rfl (fun K_r5_10 hK_r5_10 w hF => ?_) wt_stop
       have hs := hs.f hF
       refine salx 106201 hs rfl hk rfl rfl ze31 rfl fun b_r5_10_1 w a hk hs => ?_
       refine se (hs.pick [(5, 5), (4, 4)] rfl) hk (hK_r5_10 _ _ ?_)
       refine tsst hk rfl rfl (fun K_r5_7 hK_r5_7 w hF => ?_) wt_stop
       have hs := hs.f hF
       refine sap 106081 (xs := ([] : List S_Block)) (ys := x0.Stash) (flat_flat : (L_Block).Flat) hs rfl o_r5_4_3 v0_1 (hs.hasD (k := 2) rfl) rfl hk rfl rfl rfl rfl rfl rfl un28 mk102 rfl rfl rfl c_r5_7_1 fun A_r5_7_2 p_r5_7_3 k_r5_7_4 w a hk o_r5_7_5 hs => ?_
       refine se (hs.pick [(5, 5), (4, 4)] rfl) hk (hK_r5_7 _ _ ?_)
       refine tsst hk rfl rfl (fun K_r5_9 hK_r5_9 w hF => ?_) wt_stop
       have hs := hs.f hF
       refine sbd (pv := [(0, (.slice A_r5_3_2 (([] : List Int) ++ x0.Pos).length p_r5_3_3)), (1, (.slice A_r5_7_2 (([] : List S_Block) ++ x0.Stash).length p_r5_7_3)), (2, (.slice (some ⟨b_r5_8_1, 0, none⟩) 0 0))]) rfl hk rfl rfl rfl (bd31_1 A_r5_3_2 ((([] : List Int) ++ x0.Pos).length) p_r5_3_3 A_r5_7_2 ((([] : List S_Block) ++ x0.Stash).length) p_r5_7_3 (some ⟨b_r5_8_1, 0, none⟩) 0 0) fun a hk => ?_
       refine se (hs.pick [(5, 5), (4, 4)] rfl) hk (hK_r5_9 _ _ ?_)
       refine tlst hk rfl rfl fun K_r5_11 hK_r5_11 w hF => ?_
       have hs := hs.f hF
       refine ssw 106201 hs rfl rfl hk rfl rfl rfl rfl sz31 (by simp [Value.oneCell']) rfl fun w a hk hs => ?_
       refine se trivial hk (hK_r5_11 _ _ fun w hF => ?_)
       have hs := hs.f hF
       show R6 _ _
       rw [hR6]
       exact ⟨b_r5_10_1, A_r5_3_2, p_r5_3_3, A_r5_7_2, p_r5_7_3, b_r5_8_1, k_r5_3_4, k_r5_7_4, k_r5_8_2, (hk.c 1 rfl (hk.c 2 rfl (hk.c 3 rfl hk.k))), (hs.pick [(4, 4), (5, 5), (106201, 106201), (106001, 106001), (106081, 106081), (106161, 106161)] rfl), o_r5_3_5, o_r5_7_5, o_r5_8_3⟩
      refine tsst hk rfl rfl (fun K_r5_10 hK_r5_10 w hF => ?_) wt_stop
      have hs := hs.f hF
      refine salx 106201 hs rfl hk rfl rfl ze31 rfl fun b_r5_10_1 w a hk hs => ?_
      refine se (hs.pick [(5, 5), (4, 4)] rfl) hk (hK_r5_10 _ _ ?_)
      refine tsst hk rfl rfl (fun K_r5_3 hK_r5_3 w hF => ?_) wt_stop
      have hs := hs.f hF
      refine sap 106001 (xs := ([] : List Int)) (ys := x0.Pos) (flat_flat : ((Lay.int .i64)).Flat) hs rfl o_r5_0_3 v0_0 (hs.hasD (k := 1) rfl) rfl hk rfl rfl rfl rfl rfl rfl un22 mk3 rfl rfl rfl c_r5_3_1 fun A_r5_3_2 p_r5_3_3 k_r5_3_4 w a hk o_r5_3_5 hs => ?_
      refine se (hs.pick [(5, 5), (4, 4)] rfl) hk (hK_r5_3 _ _ ?_)
      refine tsst hk rfl rfl (fun K_r5_7 hK_r5_7 w hF => ?_) wt_stop
      have hs := hs.f hF
      refine sap 106081 (xs := ([] : List S_Block)) (ys := x0.Stash) (flat_flat : (L_Block).Flat) hs rfl o_r5_4_3 v0_1 (hs.hasD (k := 2) rfl) rfl hk rfl rfl rfl rfl rfl rfl un28 mk102 rfl rfl rfl c_r5_7_1 fun A_r5_7_2 p_r5_7_3 k_r5_7_4 w a hk o_r5_7_5 hs => ?_
      refine se (hs.pick [(5, 5), (4, 4)] rfl) hk (hK_r5_7 _ _ ?_)
      refine tsst hk rfl rfl (fun K_r5_9 hK_r5_9 w hF => ?_) wt_stop
      have hs := hs.f hF
      refine sbd (pv := [(0, (.slice A_r5_3_2 (([] : List Int) ++ x0.Pos).length p_r5_3_3)), (1, (.slice A_r5_7_2 (([] : List S_Block) ++ x0.Stash).length p_r5_7_3)), (2, (.slice (some ⟨b_r5_8_1, 0, none⟩) 0 0))]) rfl hk rfl rfl rfl (bd31_1 A_r5_3_2 ((([] : List Int) ++ x0.Pos).length) p_r5_3_3 A_r5_7_2 ((([] : List S_Block) ++ x0.Stash).length) p_r5_7_3 (some ⟨b_r5_8_1, 0, none⟩) 0 0) fun a hk => ?_
      refine se (hs.pick [(5, 5), (4, 4)] rfl) hk (hK_r5_9 _ _ ?_)
      refine tlst hk rfl rfl fun K_r5_11 hK_r5_11 w hF => ?_
      have hs := hs.f hF
      refine ssw 106201 hs rfl rfl hk rfl rfl rfl rfl sz31 (by simp [Value.oneCell']) rfl fun w a hk hs => ?_
      refine se trivial hk (hK_r5_11 _ _ fun w hF => ?_)
      have hs := hs.f hF
      show R6 _ _
      rw [hR6]
      exact ⟨b_r5_10_1, A_r5_3_2, p_r5_3_3, A_r5_7_2, p_r5_7_3, b_r5_8_1, k_r5_3_4, k_r5_7_4, k_r5_8_2, (hk.c 1 rfl (hk.c 2 rfl (hk.c 3 rfl hk.k))), (hs.pick [(4, 4), (5, 5), (106201, 106201), (106001, 106001), (106081, 106081), (106161, 106161)] rfl), o_r5_3_5, o_r5_7_5, o_r5_8_3⟩
     refine tsst hk rfl rfl (fun K_r5_10 hK_r5_10 w hF => ?_) wt_stop
     have hs := hs.f hF
     refine salx 106201 hs rfl hk rfl rfl ze31 rfl fun b_r5_10_1 w a hk hs => ?_
     refine se (hs.pick [(5, 5), (4, 4)] rfl) hk (hK_r5_10 _ _ ?_)
     refine tsst hk rfl rfl (fun K_r5_0 hK_r5_0 w hF => ?_) wt_stop
     have hs := hs.f hF
     refine sbs0 106001 (Lay.int .i64) hs rfl hk rfl rfl un22 sz3 fun b_r5_0_1 k_r5_0_2 w a hk o_r5_0_3 hs => ?_
     refine se (hs.pick [(5, 5), (4, 4)] rfl) hk (hK_r5_0 _ _ ?_)
     refine tsst hk rfl rfl (fun K_r5_3 hK_r5_3 w hF => ?_) wt_stop
     have hs := hs.f hF
     refine sap 106001 (xs := ([] : List Int)) (ys := x0.Pos) (flat_flat : ((Lay.int .i64)).Flat) hs rfl o_r5_0_3 v0_0 (hs.hasD (k := 1) rfl) rfl hk rfl rfl rfl rfl rfl rfl un22 mk3 rfl rfl rfl c_r5_3_1 fun A_r5_3_2 p_r5_3_3 k_r5_3_4 w a hk o_r5_3_5 hs => ?_
     refine se (hs.pick [(5, 5), (4, 4)] rfl) hk (hK_r5_3 _ _ ?_)
     refine tsst hk rfl rfl (fun K_r5_7 hK_r5_7 w hF => ?_) wt_stop
     have hs := hs.f hF
     refine sap 106081 (xs := ([] : List S_Block)) (ys := x0.Stash) (flat_flat : (L_Block).Flat) hs rfl o_r5_4_3 v0_1 (hs.hasD (k := 2) rfl) rfl hk rfl rfl rfl rfl rfl rfl un28 mk102 rfl rfl rfl c_r5_7_1 fun A_r5_7_2 p_r5_7_3 k_r5_7_4 w a hk o_r5_7_5 hs => ?_
     refine se (hs.pick [(5, 5), (4, 4)] rfl) hk (hK_r5_7 _ _ ?_)
     refine tsst hk rfl rfl (fun K_r5_9 hK_r5_9 w hF => ?_) wt_stop
     have hs := hs.f hF
     refine sbd (pv := [(0, (.slice A_r5_3_2 (([] : List Int) ++ x0.Pos).length p_r5_3_3)), (1, (.slice A_r5_7_2 (([] : List S_Block) ++ x0.Stash).length p_r5_7_3)), (2, (.slice (some ⟨b_r5_8_1, 0, none⟩) 0 0))]) rfl hk rfl rfl rfl (bd31_1 A_r5_3_2 ((([] : List Int) ++ x0.Pos).length) p_r5_3_3 A_r5_7_2 ((([] : List S_Block) ++ x0.Stash).length) p_r5_7_3 (some ⟨b_r5_8_1, 0, none⟩) 0 0) fun a hk => ?_
     refine se (hs.pick [(5, 5), (4, 4)] rfl) hk (hK_r5_9 _ _ ?_)
     refine tlst hk rfl rfl fun K_r5_11 hK_r5_11 w hF => ?_
     have hs := hs.f hF
     refine ssw 106201 hs rfl rfl hk rfl rfl rfl rfl sz31 (by simp [Value.oneCell']) rfl fun w a hk hs => ?_
     refine se trivial hk (hK_r5_11 _ _ fun w hF => ?_)
     have hs := hs.f hF
     show R6 _ _
     rw [hR6]
     exact ⟨b_r5_10_1, A_r5_3_2, p_r5_3_3, A_r5_7_2, p_r5_7_3, b_r5_8_1, k_r5_3_4, k_r5_7_4, k_r5_8_2, (hk.c 1 rfl (hk.c 2 rfl (hk.c 3 rfl hk.k))), (hs.pick [(4, 4), (5, 5), (106201, 106201), (106001, 106001), (106081, 106081), (106161, 106161)] rfl), o_r5_3_5, o_r5_7_5, o_r5_8_3⟩
    refine tsst hk rfl rfl (fun K_r5_10 hK_r5_10 w hF => ?_) wt_stop
    have hs := hs.f hF
    refine salx 106201 hs rfl hk rfl rfl ze31 rfl fun b_r5_10_1 w a hk hs => ?_
    refine se (hs.pick [(5, 5), (4, 4)] rfl) hk (hK_r5_10 _ _ ?_)
    refine tsst hk rfl rfl (fun K_r5_0 hK_r5_0 w hF => ?_) ?_
    ·skip
     have hs := hs.f hF
     refine sbs0 106001 (Lay.int .i64) hs rfl hk rfl rfl un22 sz3 fun b_r5_0_1 k_r5_0_2 w a hk o_r5_0_3 hs => ?_
     refine se (hs.pick [(5, 5), (4, 4)] rfl) hk (hK_r5_0 _ _ ?_)
     refine tsst hk rfl rfl (fun K_r5_3 hK_r5_3 w hF => ?_) ?_
     ·skip
      have hs := hs.f hF
      refine sap 106001 (xs := ([] : List Int)) (ys := x0.Pos) (flat_flat : ((Lay.int .i64)).Flat) hs rfl o_r5_0_3 v0_0 (hs.hasD (k := 1) rfl) rfl hk rfl rfl rfl rfl rfl rfl un22 mk3 rfl rfl rfl c_r5_3_1 fun A_r5_3_2 p_r5_3_3 k_r5_3_4 w a hk o_r5_3_5 hs => ?_
      refine se (hs.pick [(5, 5), (4, 4)] rfl) hk (hK_r5_3 _ _ ?_)
      refine tsst hk rfl rfl (fun K_r5_7 hK_r5_7 w hF => ?_) ?_
      ·skip
       have hs := hs.f hF
       refine sap 106081 (xs := ([] : List S_Block)) (ys := x0.Stash) (flat_flat : (L_Block).Flat) hs rfl o_r5_4_3 v0_1 (hs.hasD (k := 2) rfl) rfl hk rfl rfl rfl rfl rfl rfl un28 mk102 rfl rfl rfl c_r5_7_1 fun A_r5_7_2 p_r5_7_3 k_r5_7_4 w a hk o_r5_7_5 hs => ?_
       refine se (hs.pick [(5, 5), (4, 4)] rfl) hk (hK_r5_7 _ _ ?_)
       refine tsst hk rfl rfl (fun K_r5_8 hK_r5_8 w hF => ?_) wt_stop
       have hs := hs.f hF
       refine sbs0 106161 (Lay.sl L_Block 102) hs rfl hk rfl rfl un29 sz28 fun b_r5_8_1 k_r5_8_2 w a hk o_r5_8_3 hs => ?_
       refine se (hs.pick [(5, 5), (4, 4)] rfl) hk (hK_r5_8 _ _ ?_)
       refine tsst hk rfl rfl (fun K_r5_9 hK_r5_9 w hF => ?_) wt_stop
       have hs := hs.f hF
       refine sbd (pv := [(0, (.slice A_r5_3_2 (([] : List Int) ++ x0.Pos).length p_r5_3_3)), (1, (.slice A_r5_7_2 (([] : List S_Block) ++ x0.Stash).length p_r5_7_3)), (2, (.slice (some ⟨b_r5_8_1, 0, none⟩) 0 0))]) rfl hk rfl rfl rfl (bd31_1 A_r5_3_2 ((([] : List Int) ++ x0.Pos).length) p_r5_3_3 A_r5_7_2 ((([] : List S_Block) ++ x0.Stash).length) p_r5_7_3 (some ⟨b_r5_8_1, 0, none⟩) 0 0) fun a hk => ?_
       refine se (hs.pick [(5, 5), (4, 4)] rfl) hk (hK_r5_9 _ _ ?_)
       refine tlst hk rfl rfl fun K_r5_11 hK_r5_11 w hF => ?_
       have hs := hs.f hF
       refine ssw 106201 hs rfl rfl hk rfl rfl rfl rfl sz31 (by simp [Value.oneCell']) rfl fun w a hk hs => ?_
       refine se trivial hk (hK_r5_11 _ _ fun w hF => ?_)
       have hs := hs.f hF
       show R6 _ _
       rw [hR6]
       exact ⟨b_r5_10_1, A_r5_3_2, p_r5_3_3, A_r5_7_2, p_r5_7_3, b_r5_8_1, k_r5_3_4, k_r5_7_4, k_r5_8_2, (hk.c 1 rfl (hk.c 2 rfl (hk.c 3 rfl hk.k))), (hs.pick [(4, 4), (5, 5), (106201, 106201), (106001, 106001), (106081, 106081), (106161, 106161)] rfl), o_r5_3_5, o_r5_7_5, o_r5_8_3⟩
      refine tsst hk rfl rfl (fun K_r5_8 hK_r5_8 w hF => ?_) wt_stop
      have hs := hs.f hF
      refine sbs0 106161 (Lay.sl L_Block 102) hs rfl hk rfl rfl un29 sz28 fun b_r5_8_1 k_r5_8_2 w a hk o_r5_8_3 hs => ?_
      refine se (hs.pick [(5, 5), (4, 4)] rfl) hk (hK_r5_8 _ _ ?_)
      refine tsst hk rfl rfl (fun K_r5_7 hK_r5_7 w hF => ?_) wt_stop
      have hs := hs.f hF
      refine sap 106081 (xs := ([] : List S_Block)) (ys := x0.Stash) (flat_flat : (L_Block).Flat) hs rfl o_r5_4_3 v0_1 (hs.hasD (k := 2) rfl) rfl hk rfl rfl rfl rfl rfl rfl un28 mk102 rfl rfl rfl c_r5_7_1 fun A_r5_7_2 p_r5_7_3 k_r5_7_4 w a hk o_r5_7_5 hs => ?_
      refine se (hs.pick [(5, 5), (4, 4)] rfl) hk (hK_r5_7 _ _ ?_)
      refine tsst hk rfl rfl (fun K_r5_9 hK_r5_9 w hF => ?_) wt_stop
      have hs := hs.f hF
      refine sbd (pv := [(0, (.slice A_r5_3_2 (([] : List Int) ++ x0.Pos).length p_r5_3_3)), (1, (.slice A_r5_7_2 (([] : List S_Block) ++ x0.Stash).length p_r5_7_3)), (2, (.slice (some ⟨b_r5_8_1, 0, none⟩) 0 0))]) rfl hk rfl rfl rfl (bd31_1 A_r5_3_2 ((([] : List Int) ++ x0.Pos).length) p_r5_3_3 A_r5_7_2 ((([] : List S_Block) ++ x0.Stash).length) p_r5_7_3 (some ⟨b_r5_8_1, 0, none⟩) 0 0) fun a hk => ?_
      refine se (hs.pick [(5, 5), (4, 4)] rfl) hk (hK_r5_9 _ _ ?_)
      refine tlst hk rfl rfl fun K_r5_11 hK_r5_11 w hF => ?_
      have hs := hs.f hF
      refine ssw 106201 hs rfl rfl hk rfl rfl rfl rfl sz31 (by simp [Value.oneCell']) rfl fun w a hk hs => ?_
      refine se trivial hk (hK_r5_11 _ _ fun w hF => ?_)
      have hs := hs.f hF
      show R6 _ _
      rw [hR6]
      exact ⟨b_r5_10_1, A_r5_3_2, p_r5_3_3, A_r5_7_2, p_r5_7_3, b_r5_8_1, k_r5_3_4, k_r5_7_4, k_r5_8_2, (hk.c 1 rfl (hk.c 2 rfl (hk.c 3 rfl hk.k))), (hs.pick [(4, 4), (5, 5), (106201, 106201), (106001, 106001), (106081, 106081), (106161, 106161)] rfl), o_r5_3_5, o_r5_7_5, o_r5_8_3⟩
     refine tsst hk rfl rfl (fun K_r5_8 hK_r5_8 w hF => ?_) wt_stop
     have hs := hs.f hF
     refine sbs0 106161 (Lay.sl L_Block 102) hs rfl hk rfl rfl un29 sz28 fun b_r5_8_1 k_r5_8_2 w a hk o_r5_8_3 hs => ?_
     refine se (hs.pick [(5, 5), (4, 4)] rfl) hk (hK_r5_8 _ _ ?_)
     refine tsst hk rfl rfl (fun K_r5_3 hK_r5_3 w hF => ?_) wt_stop
     have hs := hs.f hF
     refine sap 106001 (xs := ([] : List Int)) (ys := x0.Pos) (flat_flat : ((Lay.int .i64)).Flat) hs rfl o_r5_0_3 v0_0 (hs.hasD (k := 1) rfl) rfl hk rfl rfl rfl rfl rfl rfl un22 mk3 rfl rfl rfl c_r5_3_1 fun A_r5_3_2 p_r5_3_3 k_r5_3_4 w a hk o_r5_3_5 hs => ?_
     refine se (hs.pick [(5, 5), (4, 4)] rfl) hk (hK_r5_3 _ _ ?_)
     refine tsst hk rfl rfl (fun K_r5_7 hK_r5_7 w hF => ?_) wt_stop
     have hs := hs.f hF
     refine sap 106081 (xs := ([] : List S_Block)) (ys := x0.Stash) (flat_flat : (L_Block).Flat) hs rfl o_r5_4_3 v0_1 (hs.hasD (k := 2) rfl) rfl hk rfl rfl rfl rfl rfl rfl un28 mk102 rfl rfl rfl c_r5_7_1 fun A_r5_7_2 p_r5_7_3 k_r5_7_4 w a hk o_r5_7_5 hs => ?_
     refine se (hs.pick [(5, 5), (4, 4)] rfl) hk (hK_r5_7 _ _ ?_)
     refine tsst hk rfl rfl (fun K_r5_9 hK_r5_9 w hF => ?_) wt_stop
     have hs := hs.f hF
     refine sbd (pv := [(0, (.slice A_r5_3_2 (([] : List Int) ++ x0.Pos).length p_r5_3_3)), (1, (.slice A_r5_7_2 (([] : List S_Block) ++ x0.Stash).length p_r5_7_3)), (2, (.slice (some ⟨b_r5_8_1, 0, none⟩) 0 0))]) rfl hk rfl rfl rfl (bd31_1 A_r5_3_2 ((([] : List Int) ++ x0.Pos).length) p_r5_3_3 A_r5_7_2 ((([] : List S_Block) ++ x0.Stash).length) p_r5_7_3 (some ⟨b_r5_8_1, 0, none⟩) 0 0) fun a hk => ?_
     refine se (hs.pick [(5, 5), (4, 4)] rfl) hk (hK_r5_9 _ _ ?_)
     refine tlst hk rfl rfl fun K_r5_11 hK_r5_11 w hF => ?_
     have hs := hs.f hF
     refine ssw 106201 hs rfl rfl hk rfl rfl rfl rfl sz31 (by simp [Value.oneCell']) rfl fun w a hk hs => ?_
     refine se trivial hk (hK_r5_11 _ _ fun w hF => ?_)
     have hs := hs.f hF
     show R6 _ _
     rw [hR6]
     exact ⟨b_r5_10_1, A_r5_3_2, p_r5_3_3, A_r5_7_2, p_r5_7_3, b_r5_8_1, k_r5_3_4, k_r5_7_4, k_r5_8_2, (hk.c 1 rfl (hk.c 2 rfl (hk.c 3 rfl hk.k))), (hs.pick [(4, 4), (5, 5), (106201, 106201), (106001, 106001), (106081, 106081), (106161, 106161)] rfl), o_r5_3_5, o_r5_7_5, o_r5_8_3⟩
    refine tsst hk rfl rfl (fun K_r5_8 hK_r5_8 w hF => ?_) wt_stop
    have hs := hs.f hF
    refine sbs0 106161 (Lay.sl L_Block 102) hs rfl hk rfl rfl un29 sz28 fun b_r5_8_1 k_r5_8_2 w a hk o_r5_8_3 hs => ?_
    refine se (hs.pick [(5, 5), (4, 4)] rfl) hk (hK_r5_8 _ _ ?_)
    refine tsst hk rfl rfl (fun K_r5_0 hK_r5_0 w hF => ?_) wt_stop
    have hs := hs.f hF
    refine sbs0 106001 (Lay.int .i64) hs rfl hk rfl rfl un22 sz3 fun b_r5_0_1 k_r5_0_2 w a hk o_r5_0_3 hs => ?_
    refine se (hs.pick [(5, 5), (4, 4)] rfl) hk (hK_r5_0 _ _ ?_)
    refine tsst hk rfl rfl (fun K_r5_3 hK_r5_3 w hF => ?_) wt_stop
    have hs := hs.f hF
    refine sap 106001 (xs := ([] : List Int)) (ys := x0.Pos) (flat_flat : ((Lay.int .i64)).Flat) hs rfl o_r5_0_3 v0_0 (hs.hasD (k := 1) rfl) rfl hk rfl rfl rfl rfl rfl rfl un22 mk3 rfl rfl rfl c_r5_3_1 fun A_r5_3_2 p_r5_3_3 k_r5_3_4 w a hk o_r5_3_5 hs => ?_
    refine se (hs.pick [(5, 5), (4, 4)] rfl) hk (hK_r5_3 _ _ ?_)
    refine tsst hk rfl rfl (fun K_r5_7 hK_r5_7 w hF => ?_) wt_stop
    have hs := hs.f hF
    refine sap 106081 (xs := ([] : List S_Block)) (ys := x0.Stash) (flat_flat : (L_Block).Flat) hs rfl o_r5_4_3 v0_1 (hs.hasD (k := 2) rfl) rfl hk rfl rfl rfl rfl rfl rfl un28 mk102 rfl rfl rfl c_r5_7_1 fun A_r5_7_2 p_r5_7_3 k_r5_7_4 w a hk o_r5_7_5 hs => ?_
    refine se (hs.pick [(5, 5), (4, 4)] rfl) hk (hK_r5_7 _ _ ?_)
    refine tsst hk rfl rfl (fun K_r5_9 hK_r5_9 w hF => ?_) wt_stop
    have hs := hs.f hF
    refine sbd (pv := [(0, (.slice A_r5_3_2 (([] : List Int) ++ x0.Pos).length p_r5_3_3)), (1, (.slice A_r5_7_2 (([] : List S_Block) ++ x0.Stash).length p_r5_7_3)), (2, (.slice (some ⟨b_r5_8_1, 0, none⟩) 0 0))]) rfl hk rfl rfl rfl (bd31_1 A_r5_3_2 ((([] : List Int) ++ x0.Pos).length) p_r5_3_3 A_r5_7_2 ((([] : List S_Block) ++ x0.Stash).length) p_r5_7_3 (some ⟨b_r5_8_1, 0, none⟩) 0 0) fun a hk => ?_
    refine se (hs.pick [(5, 5), (4, 4)] rfl) hk (hK_r5_9 _ _ ?_)
    refine tlst hk rfl rfl fun K_r5_11 hK_r5_11 w hF => ?_
    have hs := hs.f hF
    refine ssw 106201 hs rfl rfl hk rfl rfl rfl rfl sz31 (by simp [Value.oneCell']) rfl fun w a hk hs => ?_
    refine se trivial hk (hK_r5_11 _ _ fun w hF => ?_)
    have hs := hs.f hF
    show R6 _ _
    rw [hR6]
    exact ⟨b_r5_10_1, A_r5_3_2, p_r5_3_3, A_r5_7_2, p_r5_7_3, b_r5_8_1, k_r5_3_4, k_r5_7_4, k_r5_8_2, (hk.c 1 rfl (hk.c 2 rfl (hk.c 3 rfl hk.k))), (hs.pick [(4, 4), (5, 5), (106201, 106201), (106001, 106001), (106081, 106081), (106161, 106161)] rfl), o_r5_3_5, o_r5_7_5, o_r5_8_3⟩
   refine tsst hk rfl rfl (fun K_r5_8 hK_r5_8 w hF => ?_) ?_
   ·skip
    have hs := hs.f hF
    refine sbs0 106161 (Lay.sl L_Block 102) hs rfl hk rfl rfl un29 sz28 fun b_r5_8_1 k_r5_8_2 w a hk o_r5_8_3 hs => ?_
    refine se (hs.pick [(5, 5), (4, 4)] rfl) hk (hK_r5_8 _ _ ?_)
    refine tsst hk rfl rfl (fun K_r5_0 hK_r5_0 w hF => ?_) ?_
    ·skip
     have hs := hs.f hF
     refine sbs0 106001 (Lay.int .i64) hs rfl hk rfl rfl un22 sz3 fun b_r5_0_1 k_r5_0_2 w a hk o_r5_0_3 hs => ?_
     refine se (hs.pick [(5, 5), (4, 4)] rfl) hk (hK_r5_0 _ _ ?_)
     refine tsst hk rfl rfl (fun K_r5_3 hK_r5_3 w hF => ?_) ?_
     ·skip
      have hs := hs.f hF
      refine sap 106001 (xs := ([] : List Int)) (ys := x0.Pos) (flat_flat : ((Lay.int .i64)).Flat) hs rfl o_r5_0_3 v0_0 (hs.hasD (k := 1) rfl) rfl hk rfl rfl rfl rfl rfl rfl un22 mk3 rfl rfl rfl c_r5_3_1 fun A_r5_3_2 p_r5_3_3 k_r5_3_4 w a hk o_r5_3_5 hs => ?_
      refine se (hs.pick [(5, 5), (4, 4)] rfl) hk (hK_r5_3 _ _ ?_)
      refine tsst hk rfl rfl (fun K_r5_4 hK_r5_4 w hF => ?_) ?_
      ·skip
       have hs := hs.f hF
       refine sbs0 106081 L_Block hs rfl hk rfl rfl un28 sz102 fun b_r5_4_1 k_r5_4_2 w a hk o_r5_4_3 hs => ?_
       refine se (hs.pick [(5, 5), (4, 4)] rfl) hk (hK_r5_4 _ _ ?_)
       refine tsst hk rfl rfl (fun K_r5_7 hK_r5_7 w hF => ?_) ?_
       ·skip
        have hs := hs.f hF
        refine sap 106081 (xs := ([] : List S_Block)) (ys := x0.Stash) (flat_flat : (L_Block).Flat) hs rfl o_r5_4_3 v0_1 (hs.hasD (k := 2) rfl) rfl hk rfl rfl rfl rfl rfl rfl un28 mk102 rfl rfl rfl c_r5_7_1 fun A_r5_7_2 p_r5_7_3 k_r5_7_4 w a hk o_r5_7_5 hs => ?_
        refine se (hs.pick [(5, 5), (4, 4)] rfl) hk (hK_r5_7 _ _ ?_)
        refine tqst (.agg #[.slice A_r5_3_2 (([] : List Int) ++ x0.Pos).length p_r5_3_3, .slice A_r5_7_2 (([] : List S_Block) ++ x0.Stash).length p_r5_7_3, .slice (some ⟨b_r5_8_1, 0, none⟩) 0 0]) hk rfl rfl rfl rfl (fun w hs => sbd (pv := [(0, (.slice A_r5_3_2 (([] : List Int) ++ x0.Pos).length p_r5_3_3)), (1, (.slice A_r5_7_2 (([] : List S_Block) ++ x0.Stash).length p_r5_7_3)), (2, (.slice (some ⟨b_r5_8_1, 0, none⟩) 0 0))]) rfl hk rfl rfl rfl (bd31_1 A_r5_3_2 ((([] : List Int) ++ x0.Pos).length) p_r5_3_3 A_r5_7_2 ((([] : List S_Block) ++ x0.Stash).length) p_r5_7_3 (some ⟨b_r5_8_1, 0, none⟩) 0 0) fun a hk => qe hk) fun a hk => ?_
        refine tsst hk rfl rfl (fun K_r5_10 hK_r5_10 w hF => ?_) wt_stop
        have hs := hs.f hF
        refine salx 106201 hs rfl hk rfl rfl ze31 rfl fun b_r5_10_1 w a hk hs => ?_
        refine se (hs.pick [(5, 5), (4, 4)] rfl) hk (hK_r5_10 _ _ ?_)
        refine tlst hk rfl rfl fun K_r5_11 hK_r5_11 w hF => ?_
        have hs := hs.f hF
        refine ssw 106201 hs rfl rfl hk rfl rfl rfl rfl sz31 (by simp [Value.oneCell']) rfl fun w a hk hs => ?_
        refine se trivial hk (hK_r5_11 _ _ fun w hF => ?_)
        have hs := hs.f hF
        show R6 _ _
        rw [hR6]
        exact ⟨b_r5_10_1, A_r5_3_2, p_r5_3_3, A_r5_7_2, p_r5_7_3, b_r5_8_1, k_r5_3_4, k_r5_7_4, k_r5_8_2, (hk.c 1 rfl (hk.c 2 rfl (hk.c 3 rfl hk.k))), (hs.pick [(4, 4), (5, 5), (106201, 106201), (106001, 106001), (106081, 106081), (106161, 106161)] rfl), o_r5_3_5, o_r5_7_5, o_r5_8_3⟩
       refine tsst hk rfl rfl (fun K_r5_10 hK_r5_10 w hF => ?_) wt_stop
       have hs := hs.f hF
       refine salx 106201 hs rfl hk rfl rfl ze31 rfl fun b_r5_10_1 w a hk hs => ?_
       refine se (hs.pick [(5, 5), (4, 4)] rfl) hk (hK_r5_10 _ _ ?_)
       refine tsst hk rfl rfl (fun K_r5_7 hK_r5_7 w hF => ?_) wt_stop
       have hs := hs.f hF
       refine sap 106081 (xs := ([] : List S_Block)) (ys := x0.Stash) (flat_flat : (L_Block).Flat) hs rfl o_r5_4_3 v0_1 (hs.hasD (k := 2) rfl) rfl hk rfl rfl rfl rfl rfl rfl un28 mk102 rfl rfl rfl c_r5_7_1 fun A_r5_7_2 p_r5_7_3 k_r5_7_4 w a hk o_r5_7_5 hs => ?_
       refine se (hs.pick [(5, 5), (4, 4)] rfl) hk (hK_r5_7 _ _ ?_)
       refine tsst hk rfl rfl (fun K_r5_9 hK_r5_9 w hF => ?_) wt_stop
       have hs := hs.f hF
       refine sbd (pv := [(0, (.slice A_r5_3_2 (([] : List Int) ++ x0.Pos).length p_r5_3_3)), (1, (.slice A_r5_7_2 (([] : List S_Block) ++ x0.Stash).length p_r5_7_3)), (2, (.slice (some ⟨b_r5_8_1, 0, none⟩) 0 0))]) rfl hk rfl rfl rfl (bd31_1 A_r5_3_2 ((([] : List Int) ++ x0.Pos).length) p_r5_3_3 A_r5_7_2 ((([] : List S_Block) ++ x0.Stash).length) p_r5_7_3 (some ⟨b_r5_8_1, 0, none⟩) 0 0) fun a hk => ?_
       refine se (hs.pick [(5, 5), (4, 4)] rfl) hk (hK_r5_9 _ _ ?_)
       refine tlst hk rfl rfl fun K_r5_11 hK_r5_11 w hF => ?_
       have hs := hs.f hF
       refine ssw 106201 hs rfl rfl hk rfl rfl rfl rfl sz31 (by simp [Value.oneCell']) rfl fun w a hk hs => ?_
       refine se trivial hk (hK_r5_11 _ _ fun w hF => ?_)
       have hs := hs.f hF
       show R6 _ _
       rw [hR6]
       exact ⟨b_r5_10_1, A_r5_3_2, p_r5_3_3, A_r5_7_2, p_r5_7_3, b_r5_8_1, k_r5_3_4, k_r5_7_4, k_r5_8_2, (hk.c 1 rfl (hk.c 2 rfl (hk.c 3 rfl hk.k))), (hs.pick [(4, 4), (5, 5), (106201, 106201), (106001, 106001), (106081, 106081), (106161, 106161)] rfl), o_r5_3_5, o_r5_7_5, o_r5_8_3⟩
      refine tsst hk rfl rfl (fun K_r5_10 hK_r5_10 w hF => ?_) wt_stop
      have hs := hs.f hF
      refine salx 106201 hs rfl hk rfl rfl ze31 rfl fun b_r5_10_1 w a hk hs => ?_
      refine se (hs.pick [(5, 5), (4, 4)] rfl) hk (hK_r5_10 _ _ ?_)
      refine tsst hk rfl rfl (fun K_r5_4 hK_r5_4 w hF => ?_) wt_stop
      have hs := hs.f hF
      refine sbs0 106081 L_Block hs rfl hk rfl rfl un28 sz102 fun b_r5_4_1 k_r5_4_2 w a hk o_r5_4_3 hs => ?_
      refine se (hs.pick [(5, 5), (4, 4)] rfl) hk (hK_r5_4 _ _ ?_)
      refine tsst hk rfl rfl (fun K_r5_7 hK_r5_7 w hF => ?_) wt_stop
      have hs := hs.f hF
      refine sap 106081 (xs := ([] : List S_Block)) (ys := x0.Stash) (flat_flat : (L_Block).Flat) hs rfl o_r5_4_3 v0_1 (hs.hasD (k := 2) rfl) rfl hk rfl rfl rfl rfl rfl rfl un28 mk102 rfl rfl rfl c_r5_7_1 fun A_r5_7_2 p_r5_7_3 k_r5_7_4 w a hk o_r5_7_5 hs => ?_
      refine se (hs.pick [(5, 5), (4, 4)] rfl) hk (hK_r5_7 _ _ ?_)
      refine tsst hk rfl rfl (fun K_r5_9 hK_r5_9 w hF => ?_) wt_stop
      have hs := hs.f hF
      refine sbd (pv := [(0, (.slice A_r5_3_2 (([] : List Int) ++ x0.Pos).length p_r5_3_3)), (1, (.slice A_r5_7_2 (([] : List S_Block) ++ x0.Stash).length p_r5_7_3)), (2, (.slice (some ⟨b_r5_8_1, 0, none⟩) 0 0))]) rfl hk rfl rfl rfl (bd31_1 A_r5_3_2 ((([] : List Int) ++ x0.Pos).length) p_r5_3_3 A_r5_7_2 ((([] : List S_Block) ++ x0.Stash).length) p_r5_7_3 (some ⟨b_r5_8_1, 0, none⟩) 0 0) fun a hk => ?_
      refine se (hs.pick [(5, 5), (4, 4)] rfl) hk (hK_r5_9 _ _ ?_)
      refine tlst hk rfl rfl fun K_r5_11 hK_r5_11 w hF => ?_
      have hs := hs.f hF
      refine ssw 106201 hs rfl rfl hk rfl rfl rfl rfl sz31 (by simp [Value.oneCell']) rfl fun w a hk hs => ?_
      refine se trivial hk (hK_r5_11 _ _ fun w hF => ?_)
      have hs := hs.f hF
      show R6 _ _
      rw [hR6]
      exact ⟨b_r5_10_1, A_r5_3_2, p_r5_3_3, A_r5_7_2, p_r5_7_3, b_r5_8_1, k_r5_3_4, k_r5_7_4, k_r5_8_2, (hk.c 1 rfl (hk.c 2 rfl (hk.c 3 rfl hk.k))), (hs.pick [(4, 4), (5, 5), (106201, 106201), (106001, 106001), (106081, 106081), (106161, 106161)] rfl), o_r5_3_5, o_r5_7_5, o_r5_8_3⟩
     refine tsst hk rfl rfl (fun K_r5_4 hK_r5_4 w hF => ?_) ?_
     ·skip
      have hs := hs.f hF
      refine sbs0 106081 L_Block hs rfl hk rfl rfl un28 sz102 fun b_r5_4_1 k_r5_4_2 w a hk o_r5_4_3 hs => ?_
      refine se (hs.pick [(5, 5), (4, 4)] rfl) hk (hK_r5_4 _ _ ?_)
      refine tsst hk rfl rfl (fun K_r5_3 hK_r5_3 w hF => ?_) ?_
      ·skip
       have hs := hs.f hF
       refine sap 106001 (xs := ([] : List Int)) (ys := x0.Pos) (flat_flat : ((Lay.int .i64)).Flat) hs rfl o_r5_0_3 v0_0 (hs.hasD (k := 1) rfl) rfl hk rfl rfl rfl rfl rfl rfl un22 mk3 rfl rfl rfl c_r5_3_1 fun A_r5_3_2 p_r5_3_3 k_r5_3_4 w a hk o_r5_3_5 hs => ?_
       refine se (hs.pick [(5, 5), (4, 4)] rfl) hk (hK_r5_3 _ _ ?_)
       refine tsst hk rfl rfl (fun K_r5_7 hK_r5_7 w hF => ?_) ?_
       ·skip
        have hs := hs.f hF
        refine sap 106081 (xs := ([] : List S_Block)) (ys := x0.Stash) (flat_flat : (L_Block).Flat) hs rfl o_r5_4_3 v0_1 (hs.hasD (k := 2) rfl) rfl hk rfl rfl rfl rfl rfl rfl un28 mk102 rfl rfl rfl c_r5_7_1 fun A_r5_7_2 p_r5_7_3 k_r5_7_4 w a hk o_r5_7_5 hs => ?_
        refine se (hs.pick [(5, 5), (4, 4)] rfl) hk (hK_r5_7 _ _ ?_)
        refine tqst (.agg #[.slice A_r5_3_2 (([] : List Int) ++ x0.Pos).length p_r5_3_3, .slice A_r5_7_2 (([] : List S_Block) ++ x0.Stash).length p_r5_7_3, .slice (some ⟨b_r5_8_1, 0, none⟩) 0 0]) hk rfl rfl rfl rfl (fun w hs => sbd (pv := [(0, (.slice A_r5_3_2 (([] : List Int) ++ x0.Pos).length p_r5_3_3)), (1, (.slice A_r5_7_2 (([] : List S_Block) ++ x0.Stash).length p_r5_7_3)), (2, (.slice (some ⟨b_r5_8_1, 0, none⟩) 0 0))]) rfl hk rfl rfl rfl (bd31_1 A_r5_3_2 ((([] : List Int) ++ x0.Pos).length) p_r5_3_3 A_r5_7_2 ((([] : List S_Block) ++ x0.Stash).length) p_r5_7_3 (some ⟨b_r5_8_1, 0, none⟩) 0 0) fun a hk => qe hk) fun a hk => ?_
        refine tsst hk rfl rfl (fun K_r5_10 hK_r5_10 w hF => ?_) wt_stop
        have hs := hs.f hF
        refine salx 106201 hs rfl hk rfl rfl ze31 rfl fun b_r5_10_1 w a hk hs => ?_
        refine se (hs.pick [(5, 5), (4, 4)] rfl) hk (hK_r5_10 _ _ ?_)
        refine tlst hk rfl rfl fun K_r5_11 hK_r5_11 w hF => ?_
        have hs := hs.f hF
        refine ssw 106201 hs rfl rfl hk rfl rfl rfl rfl sz31 (by simp [Value.oneCell']) rfl fun w a hk hs => ?_
        refine se trivial hk (hK_r5_11 _ _ fun w hF => ?_)
        have hs := hs.f hF
        show R6 _ _
        rw [hR6]
        exact ⟨b_r5_10_1, A_r5_3_2, p_r5_3_3, A_r5_7_2, p_r5_7_3, b_r5_8_1, k_r5_3_4, k_r5_7_4, k_r5_8_2, (hk.c 1 rfl (hk.c 2 rfl (hk.c 3 rfl hk.k))), (hs.pick [(4, 4), (5, 5), (106201, 106201), (106001, 106001), (106081, 106081), (106161, 106161)] rfl), o_r5_3_5, o_r5_7_5, o_r5_8_3⟩
       refine tsst hk rfl rfl (fun K_r5_10 hK_r5_10 w hF => ?_) wt_stop
       have hs := hs.f hF
       refine salx 106201 hs rfl hk rfl rfl ze31 rfl fun b_r5_10_1 w a hk hs => ?_
       refine se (hs.pick [(5, 5), (4, 4)] rfl) hk (hK_r5_10 _ _ ?_)
       refine tsst hk rfl rfl (fun K_r5_7 hK_r5_7 w hF => ?_) wt_stop
       have hs := hs.f hF
       refine sap 106081 (xs := ([] : List S_Block)) (ys := x0.Stash) (flat_flat : (L_Block).Flat) hs rfl o_r5_4_3 v0_1 (hs.hasD (k := 2) rfl) rfl hk rfl rfl rfl rfl rfl rfl un28 mk102 rfl rfl rfl c_r5_7_1 fun A_r5_7_2 p_r5_7_3 k_r5_7_4 w a hk o_r5_7_5 hs => ?_
       refine se (hs.pick [(5, 5), (4, 4)] rfl) hk (hK_r5_7 _ _ ?_)
       refine tsst hk rfl rfl (fun K_r5_9 hK_r5_9 w hF => ?_) wt_stop
       have hs := hs.f hF
       refine sbd (pv := [(0, (.slice A_r5_3_2 (([] : List Int) ++ x0.Pos).length p_r5_3_3)), (1, (.slice A_r5_7_2 (([] : List S_Block) ++ x0.Stash).length p_r5_7_3)), (2, (.slice (some ⟨b_r5_8_1, 0, none⟩) 0 0))]) rfl hk rfl rfl rfl (bd31_1 A_r5_3_2 ((([] : List Int) ++ x0.Pos).length) p_r5_3_3 A_r5_7_2 ((([] : List S_Block) ++ x0.Stash).length) p_r5_7_3 (some ⟨b_r5_8_1, 0, none⟩) 0 0) fun a hk => ?_
       refine se (hs.pick [(5, 5), (4, 4)] rfl) hk (hK_r5_9 _ _ ?_)
       refine tlst hk rfl rfl fun K_r5_11 hK_r5_11 w hF => ?_
       have hs := hs.f hF
       refine ssw 106201 hs rfl rfl hk rfl rfl rfl rfl sz31 (by simp [Value.oneCell']) rfl fun w a hk hs => ?_
       refine se trivial hk (hK_r5_11 _ _ fun w hF => ?_)
       have hs := hs.f hF
       show R6 _ _
       rw [hR6]
       exact ⟨b_r5_10_1, A_r5_3_2, p_r5_3_3, A_r5_7_2, p_r5_7_3, b_r5_8_1, k_r5_3_4, k_r5_7_4, k_r5_8_2, (hk.c 1 rfl (hk.c 2 rfl (hk.c 3 rfl hk.k))), (hs.pick [(4, 4), (5, 5), (106201, 106201), (106001, 106001), (106081, 106081), (106161, 106161)] rfl), o_r5_3_5, o_r5_7_5, o_r5_8_3⟩
      refine tsst hk rfl rfl (fun K_r5_10 hK_r5_10 w hF => ?_) wt_stop
      have hs := hs.f hF
      refine salx 106201 hs rfl hk rfl rfl ze31 rfl fun b_r5_10_1 w a hk hs => ?_
      refine se (hs.pick [(5, 5), (4, 4)] rfl) hk (hK_r5_10 _ _ ?_)
      refine tsst hk rfl rfl (fun K_r5_3 hK_r5_3 w hF => ?_) wt_stop
      have hs := hs.f hF
      refine sap 106001 (xs := ([] : List Int)) (ys := x0.Pos) (flat_flat : ((Lay.int .i64)).Flat) hs rfl o_r5_0_3 v0_0 (hs.hasD (k := 1) rfl) rfl hk rfl rfl rfl rfl rfl rfl un22 mk3 rfl rfl rfl c_r5_3_1 fun A_r5_3_2 p_r5_3_3 k_r5_3_4 w a hk o_r5_3_5 hs => ?_
      refine se (hs.pick [(5, 5), (4, 4)] rfl) hk (hK_r5_3 _ _ ?_)
      refine tsst hk rfl rfl (fun K_r5_7 hK_r5_7 w hF => ?_) wt_stop
      have hs := hs.f hF
      refine sap 106081 (xs := ([] : List S_Block)) (ys := x0.Stash) (flat_flat : (L_Block).Flat) hs rfl o_r5_4_3 v0_1 (hs.hasD (k := 2) rfl) rfl hk rfl rfl rfl rfl rfl rfl un28 mk102 rfl rfl rfl c_r5_7_1 fun A_r5_7_2 p_r5_7_3 k_r5_7_4 w a hk o_r5_7_5 hs => ?_
      refine se (hs.pick [(5, 5), (4, 4)] rfl) hk (hK_r5_7 _ _ ?_)
      refine tsst hk rfl rfl (fun K_r5_9 hK_r5_9 w hF => ?_) wt_stop
      have hs := hs.f hF
      refine sbd (pv := [(0, (.slice A_r5_3_2 (([] : List Int) ++ x0.Pos).length p_r5_3_3)), (1, (.slice A_r5_7_2 (([] : List S_Block) ++ x0.Stash).length p_r5_7_3)), (2, (.slice (some ⟨b_r5_8_1, 0, none⟩) 0 0))]) rfl hk rfl rfl rfl (bd31_1 A_r5_3_2 ((([] : List Int) ++ x0.Pos).length) p_r5_3_3 A_r5_7_2 ((([] : List S_Block) ++ x0.Stash).length) p_r5_7_3 (some ⟨b_r5_8_1, 0, none⟩) 0 0) fun a hk => ?_
      refine se (hs.pick [(5, 5), (4, 4)] rfl) hk (hK_r5_9 _ _ ?_)
      refine tlst hk rfl rfl fun K_r5_11 hK_r5_11 w hF => ?_
      have hs := hs.f hF
      refine ssw 106201 hs rfl rfl hk rfl rfl rfl rfl sz31 (by simp [Value.oneCell']) rfl fun w a hk hs => ?_
      refine se trivial hk (hK_r5_11 _ _ fun w hF => ?_)
      have hs := hs.f hF
      show R6 _ _
      rw [hR6]
      exact ⟨b_r5_10_1, A_r5_3_2, p_r5_3_3, A_r5_7_2, p_r5_7_3, b_r5_8_1, k_r5_3_4, k_r5_7_4, k_r5_8_2, (hk.c 1 rfl (hk.c 2 rfl (hk.c 3 rfl hk.k))), (hs.pick [(4, 4), (5, 5), (106201, 106201), (106001, 106001), (106081, 106081), (106161, 106161)] rfl), o_r5_3_5, o_r5_7_5, o_r5_8_3⟩
     refine tsst hk rfl rfl (fun K_r5_10 hK_r5_10 w hF => ?_) wt_stop
     have hs := hs.f hF
     refine salx 106201 hs rfl hk rfl rfl ze31 rfl fun b_r5_10_1 w a hk hs => ?_
     refine se (hs.pick [(5, 5), (4, 4)] rfl) hk (hK_r5_10 _ _ ?_)
     refine tsst hk rfl rfl (fun K_r5_3 hK_r5_3 w hF => ?_) ?_
     ·skip
      have hs := hs.f hF
      refine sap 106001 (xs := ([] : List Int)) (ys := x0.Pos) (flat_flat : ((Lay.int .i64)).Flat) hs rfl o_r5_0_3 v0_0 (hs.hasD (k := 1) rfl) rfl hk rfl rfl rfl rfl rfl rfl un22 mk3 rfl rfl rfl c_r5_3_1 fun A_r5_3_2 p_r5_3_3 k_r5_3_4 w a hk o_r5_3_5 hs => ?_
      refine se (hs.pick [(5, 5), (4, 4)] rfl) hk (hK_r5_3 _ _ ?_)
      refine tsst hk rfl rfl (fun K_r5_4 hK_r5_4 w hF => ?_) wt_stop
      have hs := hs.f hF
      refine sbs0 106081 L_Block hs rfl hk rfl rfl un28 sz102 fun b_r5_4_1 k_r5_4_2 w a hk o_r5_4_3 hs => ?_
      refine se (hs.pick [(5, 5), (4, 4)] rfl) hk (hK_r5_4 _ _ ?_)
      refine tsst hk rfl rfl (fun K_r5_7 hK_r5_7 w hF => ?_) wt_stop
      have hs := hs.f hF
      refine sap 106081 (xs := ([] : List S_Block)) (ys := x0.Stash) (flat_flat : (L_Block).Flat) hs rfl o_r5_4_3 v0_1 (hs.hasD (k := 2) rfl) rfl hk rfl rfl rfl rfl rfl rfl un28 mk102 rfl rfl rfl c_r5_7_1 fun A_r5_7_2 p_r5_7_3 k_r5_7_4 w a hk o_r5_7_5 hs => ?_
      refine se (hs.pick [(5, 5), (4, 4)] rfl) hk (hK_r5_7 _ _ ?_)
      refine tsst hk rfl rfl (fun K_r5_9 hK_r5_9 w hF => ?_) wt_stop
      have hs := hs.f hF
      refine sbd (pv := [(0, (.slice A_r5_3_2 (([] : List Int) ++ x0.Pos).length p_r5_3_3)), (1, (.slice A_r5_7_2 (([] : List S_Block) ++ x0.Stash).length p_r5_7_3)), (2, (.slice (some ⟨b_r5_8_1, 0, none⟩) 0 0))]) rfl hk rfl rfl rfl (bd31_1 A_r5_3_2 ((([] : List Int) ++ x0.Pos).length) p_r5_3_3 A_r5_7_2 ((([] : List S_Block) ++ x0.Stash).length) p_r5_7_3 (some ⟨b_r5_8_1, 0, none⟩) 0 0) fun a hk => ?_
      refine se (hs.pick [(5, 5), (4, 4)] rfl) hk (hK_r5_9 _ _ ?_)
      refine tlst hk rfl rfl fun K_r5_11 hK_r5_11 w hF => ?_
      have hs := hs.f hF
      refine ssw 106201 hs rfl rfl hk rfl rfl rfl rfl sz31 (by simp [Value.oneCell']) rfl fun w a hk hs => ?_
      refine se trivial hk (hK_r5_11 _ _ fun w hF => ?_)
      have hs := hs.f hF
      show R6 _ _
      rw [hR6]
      exact ⟨b_r5_10_1, A_r5_3_2, p_r5_3_3, A_r5_7_2, p_r5_7_3, b_r5_8_1, k_r5_3_4, k_r5_7_4, k_r5_8_2, (hk.c 1 rfl (hk.c 2 rfl (hk.c 3 rfl hk.k))), (hs.pick [(4, 4), (5, 5), (106201, 106201), (106001, 106001), (106081, 106081), (106161, 106161)] rfl), o_r5_3_5, o_r5_7_5, o_r5_8_3⟩
     refine tsst hk rfl rfl (fun K_r5_4 hK_r5_4 w hF => ?_) wt_stop
     have hs := hs.f hF
     refine sbs0 106081 L_Block hs rfl hk rfl rfl un28 sz102 fun b_r5_4_1 k_r5_4_2 w a hk o_r5_4_3 hs => ?_
     refine se (hs.pick [(5, 5), (4, 4)] rfl) hk (hK_r5_4 _ _ ?_)
     refine tsst hk rfl rfl (fun K_r5_3 hK_r5_3 w hF => ?_) wt_stop
     have hs := hs.f hF
     refine sap 106001 (xs := ([] : List Int)) (ys := x0.Pos) (flat_flat : ((Lay.int .i64)).Flat) hs rfl o_r5_0_3 v0_0 (hs.hasD (k := 1) rfl) rfl hk rfl rfl rfl rfl rfl rfl un22 mk3 rfl rfl rfl c_r5_3_1 fun A_r5_3_2 p_r5_3_3 k_r5_3_4 w a hk o_r5_3_5 hs => ?_
     refine se (hs.pick [(5, 5), (4, 4)] rfl) hk (hK_r5_3 _ _ ?_)
     refine tsst hk rfl rfl (fun K_r5_7 hK_r5_7 w hF => ?_) wt_stop
     have hs := hs.f hF
     refine sap 106081 (xs := ([] : List S_Block)) (ys := x0.Stash) (flat_flat : (L_Block).Flat) hs rfl o_r5_4_3 v0_1 (hs.hasD (k := 2) rfl) rfl hk rfl rfl rfl rfl rfl rfl un28 mk102 rfl rfl rfl c_r5_7_1 fun A_r5_7_2 p_r5_7_3 k_r5_7_4 w a hk o_r5_7_5 hs => ?_
     refine se (hs.pick [(5, 5), (4, 4)] rfl) hk (hK_r5_7 _ _ ?_)
     refine tsst hk rfl rfl (fun K_r5_9 hK_r5_9 w hF => ?_) wt_stop
     have hs := hs.f hF
     refine sbd (pv := [(0, (.slice A_r5_3_2 (([] : List Int) ++ x0.Pos).length p_r5_3_3)), (1, (.slice A_r5_7_2 (([] : List S_Block) ++ x0.Stash).length p_r5_7_3)), (2, (.slice (some ⟨b_r5_8_1, 0, none⟩) 0 0))]) rfl hk rfl rfl rfl (bd31_1 A_r5_3_2 ((([] : List Int) ++ x0.Pos).length) p_r5_3_3 A_r5_7_2 ((([] : List S_Block) ++ x0.Stash).length) p_r5_7_3 (some ⟨b_r5_8_1, 0, none⟩) 0 0) fun a hk => ?_
     refine se (hs.pick [(5, 5), (4, 4)] rfl) hk (hK_r5_9 _ _ ?_)
     refine tlst hk rfl rfl fun K_r5_11 hK_r5_11 w hF => ?_
     have hs := hs.f hF
     refine ssw 106201 hs rfl rfl hk rfl rfl rfl rfl sz31 (by simp [Value.oneCell']) rfl fun w a hk hs => ?_
     refine se trivial hk (hK_r5_11 _ _ fun w hF => ?_)
     have hs := hs.f hF
     show R6 _ _
     rw [hR6]
     exact ⟨b_r5_10_1, A_r5_3_2, p_r5_3_3, A_r5_7_2, p_r5_7_3, b_r5_8_1, k_r5_3_4, k_r5_7_4, k_r5_8_2, (hk.c 1 rfl (hk.c 2 rfl (hk.c 3 rfl hk.k))), (hs.pick [(4, 4), (5, 5), (106201, 106201), (106001, 106001), (106081, 106081), (106161, 106161)] rfl), o_r5_3_5, o_r5_7_5, o_r5_8_3⟩
    refine tsst hk rfl rfl (fun K_r5_4 hK_r5_4 w hF => ?_) ?_
    ·skip
     have hs := hs.f hF
     refine sbs0 106081 L_Block hs rfl hk rfl rfl un28 sz102 fun b_r5_4_1 k_r5_4_2 w a hk o_r5_4_3 hs => ?_
     refine se (hs.pick [(5, 5), (4, 4)] rfl) hk (hK_r5_4 _ _ ?_)
     refine tsst hk rfl rfl (fun K_r5_0 hK_r5_0 w hF => ?_) ?_
     ·skip
      have hs := hs.f hF
      refine sbs0 106001 (Lay.int .i64) hs rfl hk rfl rfl un22 sz3 fun b_r5_0_1 k_r5_0_2 w a hk o_r5_0_3 hs => ?_
      refine se (hs.pick [(5, 5), (4, 4)] rfl) hk (hK_r5_0 _ _ ?_)
      refine tsst hk rfl rfl (fun K_r5_3 hK_r5_3 w hF => ?_) ?_
      ·skip
       have hs := hs.f hF
       refine sap 106001 (xs := ([] : List Int)) (ys := x0.Pos) (flat_flat : ((Lay.int .i64)).Flat) hs rfl o_r5_0_3 v0_0 (hs.hasD (k := 1) rfl) rfl hk rfl rfl rfl rfl rfl rfl un22 mk3 rfl rfl rfl c_r5_3_1 fun A_r5_3_2 p_r5_3_3 k_r5_3_4 w a hk o_r5_3_5 hs => ?_
       refine se (hs.pick [(5, 5), (4, 4)] rfl) hk (hK_r5_3 _ _ ?_)
       refine tsst hk rfl rfl (fun K_r5_7 hK_r5_7 w hF => ?_) ?_
       ·skip
        have hs := hs.f hF
        refine sap 106081 (xs := ([] : List S_Block)) (ys := x0.Stash) (flat_flat : (L_Block).Flat) hs rfl o_r5_4_3 v0_1 (hs.hasD (k := 2) rfl) rfl hk rfl rfl rfl rfl rfl rfl un28 mk102 rfl rfl rfl c_r5_7_1 fun A_r5_7_2 p_r5_7_3 k_r5_7_4 w a hk o_r5_7_5 hs => ?_
        refine se (hs.pick [(5, 5), (4, 4)] rfl) hk (hK_r5_7 _ _ ?_)
        refine tqst (.agg #[.slice A_r5_3_2 (([] : List Int) ++ x0.Pos).length p_r5_3_3, .slice A_r5_7_2 (([] : List S_Block) ++ x0.Stash).length p_r5_7_3, .slice (some ⟨b_r5_8_1, 0, none⟩) 0 0]) hk rfl rfl rfl rfl (fun w hs => sbd (pv := [(0, (.slice A_r5_3_2 (([] : List Int) ++ x0.Pos).length p_r5_3_3)), (1, (.slice A_r5_7_2 (([] : List S_Block) ++ x0.Stash).length p_r5_7_3)), (2, (.slice (some ⟨b_r5_8_1, 0, none⟩) 0 0))]) rfl hk rfl rfl rfl (bd31_1 A_r5_3_2 ((([] : List Int) ++ x0.Pos).length) p_r5_3_3 A_r5_7_2 ((([] : List S_Block) ++ x0.Stash).length) p_r5_7_3 (some ⟨b_r5_8_1, 0, none⟩) 0 0) fun a hk => qe hk) fun a hk => ?_
        refine tsst hk rfl rfl (fun K_r5_10 hK_r5_10 w hF => ?_) wt_stop
        have hs := hs.f hF
        refine salx 106201 hs rfl hk rfl rfl ze31 rfl fun b_r5_10_1 w a hk hs => ?_
        refine se (hs.pick [(5, 5), (4, 4)] rfl) hk (hK_r5_10 _ _ ?_)
        refine tlst hk rfl rfl fun K_r5_11 hK_r5_11 w hF => ?_
        have hs := hs.f hF
        refine ssw 106201 hs rfl rfl hk rfl rfl rfl rfl sz31 (by simp [Value.oneCell']) rfl fun w a hk hs => ?_
        refine se trivial hk (hK_r5_11 _ _ fun w hF => ?_)
        have hs := hs.f hF
        show R6 _ _
        rw [hR6]
        exact ⟨b_r5_10_1, A_r5_3_2, p_r5_3_3, A_r5_7_2, p_r5_7_3, b_r5_8_1, k_r5_3_4, k_r5_7_4, k_r5_8_2, (hk.c 1 rfl (hk.c 2 rfl (hk.c 3 rfl hk.k))), (hs.pick [(4, 4), (5, 5), (106201, 106201), (106001, 106001), (106081, 106081), (106161, 106161)] rfl), o_r5_3_5, o_r5_7_5, o_r5_8_3⟩
       refine tsst hk rfl rfl (fun K_r5_10 hK_r5_10 w hF => ?_) wt_stop
       have hs := hs.f hF
       refine salx 106201 hs rfl hk rfl rfl ze31 rfl fun b_r5_10_1 w a hk hs => ?_
       refine se (hs.pick [(5, 5), (4, 4)] rfl) hk (hK_r5_10 _ _ ?_)
       refine tsst hk rfl rfl (fun K_r5_7 hK_r5_7 w hF => ?_) wt_stop
       have hs := hs.f hF
       refine sap 106081 (xs := ([] : List S_Block)) (ys := x0.Stash) (flat_flat : (L_Block).Flat) hs rfl o_r5_4_3 v0_1 (hs.hasD (k := 2) rfl) rfl hk rfl rfl rfl rfl rfl rfl un28 mk102 rfl rfl rfl c_r5_7_1 fun A_r5_7_2 p_r5_7_3 k_r5_7_4 w a hk o_r5_7_5 hs => ?_
       refine se (hs.pick [(5, 5), (4, 4)] rfl) hk (hK_r5_7 _ _ ?_)
       refine tsst hk rfl rfl (fun K_r5_9 hK_r5_9 w hF => ?_) wt_stop
       have hs := hs.f hF
       refine sbd (pv := [(0, (.slice A_r5_3_2 (([] : List Int) ++ x0.Pos).length p_r5_3_3)), (1, (.slice A_r5_7_2 (([] : List S_Block) ++ x0.Stash).length p_r5_7_3)), (2, (.slice (some ⟨b_r5_8_1, 0, none⟩) 0 0))]) rfl hk rfl rfl rfl (bd31_1 A_r5_3_2 ((([] : List Int) ++ x0.Pos).length) p_r5_3_3 A_r5_7_2 ((([] : List S_Block) ++ x0.Stash).length) p_r5_7_3 (some ⟨b_r5_8_1, 0, none⟩) 0 0) fun a hk => ?_
       refine se (hs.pick [(5, 5), (4, 4)] rfl) hk (hK_r5_9 _ _ ?_)
       refine tlst hk rfl rfl fun K_r5_11 hK_r5_11 w hF => ?_
       have hs := hs.f hF
       refine ssw 106201 hs rfl rfl hk rfl rfl rfl rfl sz31 (by simp [Value.oneCell']) rfl fun w a hk hs => ?_
       refine se trivial hk (hK_r5_11 _ _ fun w hF => ?_)
       have hs := hs.f hF
       show R6 _ _
       rw [hR6]
       exact ⟨b_r5_10_1, A_r5_3_2, p_r5_3_3, A_r5_7_2, p_r5_7_3, b_r5_8_1, k_r5_3_4, k_r5_7_4, k_r5_8_2, (hk.c 1 rfl (hk.c 2 rfl (hk.c 3 rfl hk.k))), (hs.pick [(4, 4), (5, 5), (106201, 106201), (106001, 106001), (106081, 106081), (106161, 106161)] rfl), o_r5_3_5, o_r5_7_5, o_r5_8_3⟩
      refine tsst hk rfl rfl (fun K_r5_10 hK_r5_10 w hF => ?_) wt_stop
      have hs := hs.f hF
      refine salx 106201 hs rfl hk rfl rfl ze31 rfl fun b_r5_10_1 w a hk hs => ?_
      refine se (hs.pick [(5, 5), (4, 4)] rfl) hk (hK_r5_10 _ _ ?_)
      refine tsst hk rfl rfl (fun K_r5_3 hK_r5_3 w hF => ?_) wt_stop
      have hs := hs.f hF
      refine sap 106001 (xs := ([] : List Int)) (ys := x0.Pos) (flat_flat : ((Lay.int .i64)).Flat) hs rfl o_r5_0_3 v0_0 (hs.hasD (k := 1) rfl) rfl hk rfl rfl rfl rfl rfl rfl un22 mk3 rfl rfl rfl c_r5_3_1 fun A_r5_3_2 p_r5_3_3 k_r5_3_4 w a hk o_r5_3_5 hs => ?_
      refine se (hs.pick [(5, 5), (4, 4)] rfl) hk (hK_r5_3 _ _ ?_)
      refine tsst hk rfl rfl (fun K_r5_7 hK_r5_7 w hF => ?_) wt_stop
      have hs := hs.f hF
      refine sap 106081 (xs := ([] : List S_Block)) (ys := x0.Stash) (flat_flat : (L_Block).Flat) hs rfl o_r5_4_3 v0_1 (hs.hasD (k := 2) rfl) rfl hk rfl rfl rfl rfl rfl rfl un28 mk102 rfl rfl rfl c_r5_7_1 fun A_r5_7_2 p_r5_7_3 k_r5_7_4 w a hk o_r5_7_5 hs => ?_
      refine se (hs.pick [(5, 5), (4, 4)] rfl) hk (hK_r5_7 _ _ ?_)
      refine tsst hk rfl rfl (fun K_r5_9 hK_r5_9 w hF => ?_) wt_stop
      have hs := hs.f hF
      refine sbd (pv := [(0, (.slice A_r5_3_2 (([] : List Int) ++ x0.Pos).length p_r5_3_3)), (1, (.slice A_r5_7_2 (([] : List S_Block) ++ x0.Stash).length p_r5_7_3)), (2, (.slice (some ⟨b_r5_8_1, 0, none⟩) 0 0))]) rfl hk rfl rfl rfl (bd31_1 A_r5_3_2 ((([] : List Int) ++ x0.Pos).length) p_r5_3_3 A_r5_7_2 ((([] : List S_Block) ++ x0.Stash).length) p_r5_7_3 (some ⟨b_r5_8_1, 0, none⟩) 0 0) fun a hk => ?_
      refine se (hs.pick [(5, 5), (4, 4)] rfl) hk (hK_r5_9 _ _ ?_)
      refine tlst hk rfl rfl fun K_r5_11 hK_r5_11 w hF => ?_
      have hs := hs.f hF
      refine ssw 106201 hs rfl rfl hk rfl rfl rfl rfl sz31 (by simp [Value.oneCell']) rfl fun w a hk hs => ?_
      refine se trivial hk (hK_r5_11 _ _ fun w hF => ?_)
      have hs := hs.f hF
      show R6 _ _
      rw [hR6]
      exact ⟨b_r5_10_1, A_r5_3_2, p_r5_3_3, A_r5_7_2, p_r5_7_3, b_r5_8_1, k_r5_3_4, k_r5_7_4, k_r5_8_2, (hk.c 1 rfl (hk.c 2 rfl (hk.c 3 rfl hk.k))), (hs.pick [(4, 4), (5, 5), (106201, 106201), (106001, 106001), (106081, 106081), (106161, 106161)] rfl), o_r5_3_5, o_r5_7_5, o_r5_8_3⟩
     refine tsst hk rfl rfl (fun K_r5_10 hK_r5_10 w hF => ?_) wt_stop
     have hs := hs.f hF
     refine salx 106201 hs rfl hk rfl rfl ze31 rfl fun b_r5_10_1 w a hk hs => ?_
     refine se (hs.pick [(5, 5), (4, 4)] rfl) hk (hK_r5_10 _ _ ?_)
     refine tsst hk rfl rfl (fun K_r5_0 hK_r5_0 w hF => ?_) wt_stop
     have hs := hs.f hF
     refine sbs0 106001 (Lay.int .i64) hs rfl hk rfl rfl un22 sz3 fun b_r5_0_1 k_r5_0_2 w a hk o_r5_0_3 hs => ?_
     refine se (hs.pick [(5, 5), (4, 4)] rfl) hk (hK_r5_0 _ _ ?_)
     refine tsst hk rfl rfl (fun K_r5_3 hK_r5_3 w hF => ?_) wt_stop
     have hs := hs.f hF
     refine sap 106001 (xs := ([] : List Int)) (ys := x0.Pos) (flat_flat : ((Lay.int .i64)).Flat) hs rfl o_r5_0_3 v0_0 (hs.hasD (k := 1) rfl) rfl hk rfl rfl rfl rfl rfl rfl un22 mk3 rfl rfl rfl c_r5_3_1 fun A_r5_3_2 p_r5_3_3 k_r5_3_4 w a hk o_r5_3_5 hs => ?_
     refine se (hs.pick [(5, 5), (4, 4)] rfl) hk (hK_r5_3 _ _ ?_)
     refine tsst hk rfl rfl (fun K_r5_7 hK_r5_7 w hF => ?_) wt_stop
     have hs := hs.f hF
     refine sap 106081 (xs := ([] : List S_Block)) (ys := x0.Stash) (flat_flat : (L_Block).Flat) hs rfl o_r5_4_3 v0_1 (hs.hasD (k := 2) rfl) rfl hk rfl rfl rfl rfl rfl rfl un28 mk102 rfl rfl rfl c_r5_7_1 fun A_r5_7_2 p_r5_7_3 k_r5_7_4 w a hk o_r5_7_5 hs => ?_
     refine se (hs.pick [(5, 5), (4, 4)] rfl) hk (hK_r5_7 _ _ ?_)
     refine tsst hk rfl rfl (fun K_r5_9 hK_r5_9 w hF => ?_) wt_stop
     have hs := hs.f hF
     refine sbd (pv := [(0, (.slice A_r5_3_2 (([] : List Int) ++ x0.Pos).length p_r5_3_3)), (1, (.slice A_r5_7_2 (([] : List S_Block) ++ x0.Stash).length p_r5_7_3)), (2, (.slice (some ⟨b_r5_8_1, 0, none⟩) 0 0))]) rfl hk rfl rfl rfl (bd31_1 A_r5_3_2 ((([] : List Int) ++ x0.Pos).length) p_r5_3_3 A_r5_7_2 ((([] : List S_Block) ++ x0.Stash).length) p_r5_7_3 (some ⟨b_r5_8_1, 0, none⟩) 0 0) fun a hk => ?_
     refine se (hs.pick [(5, 5), (4, 4)] rfl) hk (hK_r5_9 _ _ ?_)
     refine tlst hk rfl rfl fun K_r5_11 hK_r5_11 w hF => ?_
     have hs := hs.f hF
     refine ssw 106201 hs rfl rfl hk rfl rfl rfl rfl sz31 (by simp [Value.oneCell']) rfl fun w a hk hs => ?_
     refine se trivial hk (hK_r5_11 _ _ fun w hF => ?_)
     have hs := hs.f hF
     show R6 _ _
     rw [hR6]
     exact ⟨b_r5_10_1, A_r5_3_2, p_r5_3_3, A_r5_7_2, p_r5_7_3, b_r5_8_1, k_r5_3_4, k_r5_7_4, k_r5_8_2, (hk.c 1 rfl (hk.c 2 rfl (hk.c 3 rfl hk.k))), (hs.pick [(4, 4), (5, 5), (106201, 106201), (106001, 106001), (106081, 106081), (106161, 106161)] rfl), o_r5_3_5, o_r5_7_5, o_r5_8_3⟩
    refine tsst hk rfl rfl (fun K_r5_10 hK_r5_10 w hF => ?_) wt_stop
    have hs := hs.f hF
    refine salx 106201 hs rfl hk rfl rfl ze31 rfl fun b_r5_10_1 w a hk hs => ?_
    refine se (hs.pick [(5, 5), (4, 4)] rfl) hk (hK_r5_10 _ _ ?_)
    refine tsst hk rfl rfl (fun K_r5_0 hK_r5_0 w hF => ?_) ?_
    ·skip
     have hs := hs.f hF
     refine sbs0 106001 (Lay.int .i64) hs rfl hk rfl rfl un22 sz3 fun b_r5_0_1 k_r5_0_2 w a hk o_r5_0_3 hs => ?_
     refine se (hs.pick [(5, 5), (4, 4)] rfl) hk (hK_r5_0 _ _ ?_)
     refine tsst hk rfl rfl (fun K_r5_3 hK_r5_3 w hF => ?_) ?_
     ·skip
      have hs := hs.f hF
      refine sap 106001 (xs := ([] : List Int)) (ys := x0.Pos) (flat_flat : ((Lay.int .i64)).Flat) hs rfl o_r5_0_3 v0_0 (hs.hasD (k := 1) rfl) rfl hk rfl rfl rfl rfl rfl rfl un22 mk3 rfl rfl rfl c_r5_3_1 fun A_r5_3_2 p_r5_3_3 k_r5_3_4 w a hk o_r5_3_5 hs => ?_
      refine se (hs.pick [(5, 5), (4, 4)] rfl) hk (hK_r5_3 _ _ ?_)
      refine tsst hk rfl rfl (fun K_r5_4 hK_r5_4 w hF => ?_) wt_stop
      have hs := hs.f hF
      refine sbs0 106081 L_Block hs rfl hk rfl rfl un28 sz102 fun b_r5_4_1 k_r5_4_2 w a hk o_r5_4_3 hs => ?_
      refine se (hs.pick [(5, 5), (4, 4)] rfl) hk (hK_r5_4 _ _ ?_)
      refine tsst hk rfl rfl (fun K_r5_7 hK_r5_7 w hF => ?_) wt_stop
      have hs := hs.f hF
      refine sap 106081 (xs := ([] : List S_Block)) (ys := x0.Stash) (flat_flat : (L_Block).Flat) hs rfl o_r5_4_3 v0_1 (hs.hasD (k := 2) rfl) rfl hk rfl rfl rfl rfl rfl rfl un28 mk102 rfl rfl rfl c_r5_7_1 fun A_r5_7_2 p_r5_7_3 k_r5_7_4 w a hk o_r5_7_5 hs => ?_
      refine se (hs.pick [(5, 5), (4, 4)] rfl) hk (hK_r5_7 _ _ ?_)
      refine tsst hk rfl rfl (fun K_r5_9 hK_r5_9 w hF => ?_) wt_stop
      have hs := hs.f hF
      refine sbd (pv := [(0, (.slice A_r5_3_2 (([] : List Int) ++ x0.Pos).length p_r5_3_3)), (1, (.slice A_r5_7_2 (([] : List S_Block) ++ x0.Stash).length p_r5_7_3)), (2, (.slice (some ⟨b_r5_8_1, 0, none⟩) 0 0))]) rfl hk rfl rfl rfl (bd31_1 A_r5_3_2 ((([] : List Int) ++ x0.Pos).length) p_r5_3_3 A_r5_7_2 ((([] : List S_Block) ++ x0.Stash).length) p_r5_7_3 (some ⟨b_r5_8_1, 0, none⟩) 0 0) fun a hk => ?_
      refine se (hs.pick [(5, 5), (4, 4)] rfl) hk (hK_r5_9 _ _ ?_)
      refine tlst hk rfl rfl fun K_r5_11 hK_r5_11 w hF => ?_
      have hs := hs.f hF
      refine ssw 106201 hs rfl rfl hk rfl rfl rfl rfl sz31 (by simp [Value.oneCell']) rfl fun w a hk hs => ?_
      refine se trivial hk (hK_r5_11 _ _ fun w hF => ?_)
      have hs := hs.f hF
      show R6 _ _
      rw [hR6]
      exact ⟨b_r5_10_1, A_r5_3_2, p_r5_3_3, A_r5_7_2, p_r5_7_3, b_r5_8_1, k_r5_3_4, k_r5_7_4, k_r5_8_2, (hk.c 1 rfl (hk.c 2 rfl (hk.c 3 rfl hk.k))), (hs.pick [(4, 4), (5, 5), (106201, 106201), (106001, 106001), (106081, 106081), (106161, 106161)] rfl), o_r5_3_5, o_r5_7_5, o_r5_8_3⟩
     refine tsst hk rfl rfl (fun K_r5_4 hK_r5_4 w hF => ?_) wt_stop
     have hs := hs.f hF
     refine sbs0 106081 L_Block hs rfl hk rfl rfl un28 sz102 fun b_r5_4_1 k_r5_4_2 w a hk o_r5_4_3 hs => ?_
     refine se (hs.pick [(5, 5), (4, 4)] rfl) hk (hK_r5_4 _ _ ?_)
     refine tsst hk rfl rfl (fun K_r5_3 hK_r5_3 w hF => ?_) wt_stop
     have hs := hs.f hF
     refine sap 106001 (xs := ([] : List Int)) (ys := x0.Pos) (flat_flat : ((Lay.int .i64)).Flat) hs rfl o_r5_0_3 v0_0 (hs.hasD (k := 1) rfl) rfl hk rfl rfl rfl rfl rfl rfl un22 mk3 rfl rfl rfl c_r5_3_1 fun A_r5_3_2 p_r5_3_3 k_r5_3_4 w a hk o_r5_3_5 hs => ?_
     refine se (hs.pick [(5, 5), (4, 4)] rfl) hk (hK_r5_3 _ _ ?_)
     refine tsst hk rfl rfl (fun K_r5_7 hK_r5_7 w hF => ?_) wt_stop
     have hs := hs.f hF
     refine sap 106081 (xs := ([] : List S_Block)) (ys := x0.Stash) (flat_flat : (L_Block).Flat) hs rfl o_r5_4_3 v0_1 (hs.hasD (k := 2) rfl) rfl hk rfl rfl rfl rfl rfl rfl un28 mk102 rfl rfl rfl c_r5_7_1 fun A_r5_7_2 p_r5_7_3 k_r5_7_4 w a hk o_r5_7_5 hs => ?_
     refine se (hs.pick [(5, 5), (4, 4)] rfl) hk (hK_r5_7 _ _ ?_)
     refine tsst hk rfl rfl (fun K_r5_9 hK_r5_9 w hF => ?_) wt_stop
     have hs := hs.f hF
     refine sbd (pv := [(0, (.slice A_r5_3_2 (([] : List Int) ++ x0.Pos).length p_r5_3_3)), (1, (.slice A_r5_7_2 (([] : List S_Block) ++ x0.Stash).length p_r5_7_3)), (2, (.slice (some ⟨b_r5_8_1, 0, none⟩) 0 0))]) rfl hk rfl rfl rfl (bd31_1 A_r5_3_2 ((([] : List Int) ++ x0.Pos).length) p_r5_3_3 A_r5_7_2 ((([] : List S_Block) ++ x0.Stash).length) p_r5_7_3 (some ⟨b_r5_8_1, 0, none⟩) 0 0) fun a hk => ?_
     refine se (hs.pick [(5, 5), (4, 4)] rfl) hk (hK_r5_9 _ _ ?_)
     refine tlst hk rfl rfl fun K_r5_11 hK_r5_11 w hF => ?_
     have hs := hs.f hF
     refine ssw 106201 hs rfl rfl hk rfl rfl rfl rfl sz31 (by simp [Value.oneCell']) rfl fun w a hk hs => ?_
     refine se trivial hk (hK_r5_11 _ _ fun w hF => ?_)
     have hs := hs.f hF
     show R6 _ _
     rw [hR6]
     exact ⟨b_r5_10_1, A_r5_3_2, p_r5_3_3, A_r5_7_2, p_r5_7_3, b_r5_8_1, k_r5_3_4, k_r5_7_4, k_r5_8_2, (hk.c 1 rfl (hk.c 2 rfl (hk.c 3 rfl hk.k))), (hs.pick [(4, 4), (5, 5), (106201, 106201), (106001, 106001), (106081, 106081), (106161, 106161)] rfl), o_r5_3_5, o_r5_7_5, o_r5_8_3⟩
    refine tsst hk rfl rfl (fun K_r5_4 hK_r5_4 w hF => ?_) wt_stop
    have hs := hs.f hF
    refine sbs0 106081 L_Block hs rfl hk rfl rfl un28 sz102 fun b_r5_4_1 k_r5_4_2 w a hk o_r5_4_3 hs => ?_
    refine se (hs.pick [(5, 5), (4, 4)] rfl) hk (hK_r5_4 _ _ ?_)
    refine tsst hk rfl rfl (fun K_r5_0 hK_r5_0 w hF => ?_) wt_stop
    have hs := hs.f hF
    refine sbs0 106001 (Lay.int .i64) hs rfl hk rfl rfl un22 sz3 fun b_r5_0_1 k_r5_0_2 w a hk o_r5_0_3 hs => ?_
    refine se (hs.pick [(5, 5), (4, 4)] rfl) hk (hK_r5_0 _ _ ?_)
    refine tsst hk rfl rfl (fun K_r5_3 hK_r5_3 w hF => ?_) wt_stop
    have hs := hs.f hF
    refine sap 106001 (xs := ([] : List Int)) (ys := x0.Pos) (flat_flat : ((Lay.int .i64)).Flat) hs rfl o_r5_0_3 v0_0 (hs.hasD (k := 1) rfl) rfl hk rfl rfl rfl rfl rfl rfl un22 mk3 rfl rfl rfl c_r5_3_1 fun A_r5_3_2 p_r5_3_3 k_r5_3_4 w a hk o_r5_3_5 hs => ?_
    refine se (hs.pick [(5, 5), (4, 4)] rfl) hk (hK_r5_3 _ _ ?_)
    refine tsst hk rfl rfl (fun K_r5_7 hK_r5_7 w hF => ?_) wt_stop
    have hs := hs.f hF
    refine sap 106081 (xs := ([] : List S_Block)) (ys := x0.Stash) (flat_flat : (L_Block).Flat) hs rfl o_r5_4_3 v0_1 (hs.hasD (k := 2) rfl) rfl hk rfl rfl rfl rfl rfl rfl un28 mk102 rfl rfl rfl c_r5_7_1 fun A_r5_7_2 p_r5_7_3 k_r5_7_4 w a hk o_r5_7_5 hs => ?_
    refine se (hs.pick [(5, 5), (4, 4)] rfl) hk (hK_r5_7 _ _ ?_)
    refine tsst hk rfl rfl (fun K_r5_9 hK_r5_9 w hF => ?_) wt_stop
    have hs := hs.f hF
    refine sbd (pv := [(0, (.slice A_r5_3_2 (([] : List Int) ++ x0.Pos).length p_r5_3_3)), (1, (.slice A_r5_7_2 (([] : List S_Block) ++ x0.Stash).length p_r5_7_3)), (2, (.slice (some ⟨b_r5_8_1, 0, none⟩) 0 0))]) rfl hk rfl rfl rfl (bd31_1 A_r5_3_2 ((([] : List Int) ++ x0.Pos).length) p_r5_3_3 A_r5_7_2 ((([] : List S_Block) ++ x0.Stash).length) p_r5_7_3 (some ⟨b_r5_8_1, 0, none⟩) 0 0) fun a hk => ?_
    refine se (hs.pick [(5, 5), (4, 4)] rfl) hk (hK_r5_9 _ _ ?_)
    refine tlst hk rfl rfl fun K_r5_11 hK_r5_11 w hF => ?_
    have hs := hs.f hF
    refine ssw 106201 hs rfl rfl hk rfl rfl rfl rfl sz31 (by simp [Value.oneCell']) rfl fun w a hk hs => ?_
    refine se trivial hk (hK_r5_11 _ _ fun w hF => ?_)
    have hs := hs.f hF
    show R6 _ _
    rw [hR6]
    exact ⟨b_r5_10_1, A_r5_3_2, p_r5_3_3, A_r5_7_2, p_r5_7_3, b_r5_8_1, k_r5_3_4, k_r5_7_4, k_r5_8_2, (hk.c 1 rfl (hk.c 2 rfl (hk.c 3 rfl hk.k))), (hs.pick [(4, 4), (5, 5), (106201, 106201), (106001, 106001), (106081, 106081), (106161, 106161)] rfl), o_r5_3_5, o_r5_7_5, o_r5_8_3⟩
   refine tsst hk rfl rfl (fun K_r5_10 hK_r5_10 w hF => ?_) wt_stop
   have hs := hs.f hF
   refine salx 106201 hs rfl hk rfl rfl ze31 rfl fun b_r5_10_1 w a hk hs => ?_
   refine se (hs.pick [(5, 5), (4, 4)] rfl) hk (hK_r5_10 _ _ ?_)
   refine tsst hk rfl rfl (fun K_r5_0 hK_r5_0 w hF => ?_) ?_
   ·skip
    have hs := hs.f hF
    refine sbs0 106001 (Lay.int .i64) hs rfl hk rfl rfl un22 sz3 fun b_r5_0_1 k_r5_0_2 w a hk o_r5_0_3 hs => ?_
    refine se (hs.pick [(5, 5), (4, 4)] rfl) hk (hK_r5_0 _ _ ?_)
    refine tsst hk rfl rfl (fun K_r5_3 hK_r5_3 w hF => ?_) ?_
    ·skip
     have hs := hs.f hF
     refine sap 106001 (xs := ([] : List Int)) (ys := x0.Pos) (flat_flat : ((Lay.int .i64)).Flat) hs rfl o_r5_0_3 v0_0 (hs.hasD (k := 1) rfl) rfl hk rfl rfl rfl rfl rfl rfl un22 mk3 rfl rfl rfl c_r5_3_1 fun A_r5_3_2 p_r5_3_3 k_r5_3_4 w a hk o_r5_3_5 hs => ?_
     refine se (hs.pick [(5, 5), (4, 4)] rfl) hk (hK_r5_3 _ _ ?_)
     refine tsst hk rfl rfl (fun K_r5_4 hK_r5_4 w hF => ?_) ?_
     ·skip
      have hs := hs.f hF
      refine sbs0 106081 L_Block hs rfl hk rfl rfl un28 sz102 fun b_r5_4_1 k_r5_4_2 w a hk o_r5_4_3 hs => ?_
      refine se (hs.pick [(5, 5), (4, 4)] rfl) hk (hK_r5_4 _ _ ?_)
      refine tsst hk rfl rfl (fun K_r5_7 hK_r5_7 w hF => ?_) ?_
      ·skip
       have hs := hs.f hF
       refine sap 106081 (xs := ([] : List S_Block)) (ys := x0.Stash) (flat_flat : (L_Block).Flat) hs rfl o_r5_4_3 v0_1 (hs.hasD (k := 2) rfl) rfl hk rfl rfl rfl rfl rfl rfl un28 mk102 rfl rfl rfl c_r5_7_1 fun A_r5_7_2 p_r5_7_3 k_r5_7_4 w a hk o_r5_7_5 hs => ?_
       refine se (hs.pick [(5, 5), (4, 4)] rfl) hk (hK_r5_7 _ _ ?_)
       refine tsst hk rfl rfl (fun K_r5_8 hK_r5_8 w hF => ?_) wt_stop
       have hs := hs.f hF
       refine sbs0 106161 (Lay.sl L_Block 102) hs rfl hk rfl rfl un29 sz28 fun b_r5_8_1 k_r5_8_2 w a hk o_r5_8_3 hs => ?_
       refine se (hs.pick [(5, 5), (4, 4)] rfl) hk (hK_r5_8 _ _ ?_)
       refine tsst hk rfl rfl (fun K_r5_9 hK_r5_9 w hF => ?_) wt_stop
       have hs := hs.f hF
       refine sbd (pv := [(0, (.slice A_r5_3_2 (([] : List Int) ++ x0.Pos).length p_r5_3_3)), (1, (.slice A_r5_7_2 (([] : List S_Block) ++ x0.Stash).length p_r5_7_3)), (2, (.slice (some ⟨b_r5_8_1, 0, none⟩) 0 0))]) rfl hk rfl rfl rfl (bd31_1 A_r5_3_2 ((([] : List Int) ++ x0.Pos).length) p_r5_3_3 A_r5_7_2 ((([] : List S_Block) ++ x0.Stash).length) p_r5_7_3 (some ⟨b_r5_8_1, 0, none⟩) 0 0) fun a hk => ?_
       refine se (hs.pick [(5, 5), (4, 4)] rfl) hk (hK_r5_9 _ _ ?_)
       refine tlst hk rfl rfl fun K_r5_11 hK_r5_11 w hF => ?_
       have hs := hs.f hF
       refine ssw 106201 hs rfl rfl hk rfl rfl rfl rfl sz31 (by simp [Value.oneCell']) rfl fun w a hk hs => ?_
       refine se trivial hk (hK_r5_11 _ _ fun w hF => ?_)
       have hs := hs.f hF
       show R6 _ _
       rw [hR6]
       exact ⟨b_r5_10_1, A_r5_3_2, p_r5_3_3, A_r5_7_2, p_r5_7_3, b_r5_8_1, k_r5_3_4, k_r5_7_4, k_r5_8_2, (hk.c 1 rfl (hk.c 2 rfl (hk.c 3 rfl hk.k))), (hs.pick [(4, 4), (5, 5), (106201, 106201), (106001, 106001), (106081, 106081), (106161, 106161)] rfl), o_r5_3_5, o_r5_7_5, o_r5_8_3⟩
      refine tsst hk rfl rfl (fun K_r5_8 hK_r5_8 w hF => ?_) wt_stop
      have hs := hs.f hF
      refine sbs0 106161 (Lay.sl L_Block 102) hs rfl hk rfl rfl un29 sz28 fun b_r5_8_1 k_r5_8_2 w a hk o_r5_8_3 hs => ?_
      refine se (hs.pick [(5, 5), (4, 4)] rfl) hk (hK_r5_8 _ _ ?_)
      refine tsst hk rfl rfl (fun K_r5_7 hK_r5_7 w hF => ?_) wt_stop
      have hs := hs.f hF
      refine sap 106081 (xs := ([] : List S_Block)) (ys := x0.Stash) (flat_flat : (L_Block).Flat) hs rfl o_r5_4_3 v0_1 (hs.hasD (k := 2) rfl) rfl hk rfl rfl rfl rfl rfl rfl un28 mk102 rfl rfl rfl c_r5_7_1 fun A_r5_7_2 p_r5_7_3 k_r5_7_4 w a hk o_r5_7_5 hs => ?_
      refine se (hs.pick [(5, 5), (4, 4)] rfl) hk (hK_r5_7 _ _ ?_)
      refine tsst hk rfl rfl (fun K_r5_9 hK_r5_9 w hF => ?_) wt_stop
      have hs := hs.f hF
      refine sbd (pv := [(0, (.slice A_r5_3_2 (([] : List Int) ++ x0.Pos).length p_r5_3_3)), (1, (.slice A_r5_7_2 (([] : List S_Block) ++ x0.Stash).length p_r5_7_3)), (2, (.slice (some ⟨b_r5_8_1, 0, none⟩) 0 0))]) rfl hk rfl rfl rfl (bd31_1 A_r5_3_2 ((([] : List Int) ++ x0.Pos).length) p_r5_3_3 A_r5_7_2 ((([] : List S_Block) ++ x0.Stash).length) p_r5_7_3 (some ⟨b_r5_8_1, 0, none⟩) 0 0) fun a hk => ?_
      refine se (hs.pick [(5, 5), (4, 4)] rfl) hk (hK_r5_9 _ _ ?_)
      refine tlst hk rfl rfl fun K_r5_11 hK_r5_11 w hF => ?_
      have hs := hs.f hF
      refine ssw 106201 hs rfl rfl hk rfl rfl rfl rfl sz31 (by simp [Value.oneCell']) rfl fun w a hk hs => ?_
      refine se trivial hk (hK_r5_11 _ _ fun w hF => ?_)
      have hs := hs.f hF
      show R6 _ _
      rw [hR6]
      exact ⟨b_r5_10_1, A_r5_3_2, p_r5_3_3, A_r5_7_2, p_r5_7_3, b_r5_8_1, k_r5_3_4, k_r5_7_4, k_r5_8_2, (hk.c 1 rfl (hk.c 2 rfl (hk.c 3 rfl hk.k))), (hs.pick [(4, 4), (5, 5), (106201, 106201), (106001, 106001), (106081, 106081), (106161, 106161)] rfl), o_r5_3_5, o_r5_7_5, o_r5_8_3⟩
     refine tsst hk rfl rfl (fun K_r5_8 hK_r5_8 w hF => ?_) wt_stop
     have hs := hs.f hF
     refine sbs0 106161 (Lay.sl L_Block 102) hs rfl hk rfl rfl un29 sz28 fun b_r5_8_1 k_r5_8_2 w a hk o_r5_8_3 hs => ?_
     refine se (hs.pick [(5, 5), (4, 4)] rfl) hk (hK_r5_8 _ _ ?_)
     refine tsst hk rfl rfl (fun K_r5_4 hK_r5_4 w hF => ?_) wt_stop
     have hs := hs.f hF
     refine sbs0 106081 L_Block hs rfl hk rfl rfl un28 sz102 fun b_r5_4_1 k_r5_4_2 w a hk o_r5_4_3 hs => ?_
     refine se (hs.pick [(5, 5), (4, 4)] rfl) hk (hK_r5_4 _ _ ?_)
     refine tsst hk rfl rfl (fun K_r5_7 hK_r5_7 w hF => ?_) wt_stop
     have hs := hs.f hF
     refine sap 106081 (xs := ([] : List S_Block)) (ys := x0.Stash) (flat_flat : (L_Block).Flat) hs rfl o_r5_4_3 v0_1 (hs.hasD (k := 2) rfl) rfl hk rfl rfl rfl rfl rfl rfl un28 mk102 rfl rfl rfl c_r5_7_1 fun A_r5_7_2 p_r5_7_3 k_r5_7_4 w a hk o_r5_7_5 hs => ?_
     refine se (hs.pick [(5, 5), (4, 4)] rfl) hk (hK_r5_7 _ _ ?_)
     refine tsst hk rfl rfl (fun K_r5_9 hK_r5_9 w hF => ?_) wt_stop
     have hs := hs.f hF
     refine sbd (pv := [(0, (.slice A_r5_3_2 (([] : List Int) ++ x0.Pos).length p_r5_3_3)), (1, (.slice A_r5_7_2 (([] : List S_Block) ++ x0.Stash).length p_r5_7_3)), (2, (.slice (some ⟨b_r5_8_1, 0, none⟩) 0 0))]) rfl hk rfl rfl rfl (bd31_1 A_r5_3_2 ((([] : List Int) ++ x0.Pos).length) p_r5_3_3 A_r5_7_2 ((([] : List S_Block) ++ x0.Stash).length) p_r5_7_3 (some ⟨b_r5_8_1, 0, none⟩) 0 0) fun a hk => ?_
     refine se (hs.pick [(5, 5), (4, 4)] rfl) hk (hK_r5_9 _ _ ?_)
     refine tlst hk rfl rfl fun K_r5_11 hK_r5_11 w hF => ?_
     have hs := hs.f hF
     refine ssw 106201 hs rfl rfl hk rfl rfl rfl rfl sz31 (by simp [Value.oneCell']) rfl fun w a hk hs => ?_
     refine se trivial hk (hK_r5_11 _ _ fun w hF => ?_)
     have hs := hs.f hF
     show R6 _ _
     rw [hR6]
     exact ⟨b_r5_10_1, A_r5_3_2, p_r5_3_3, A_r5_7_2, p_r5_7_3, b_r5_8_1, k_r5_3_4, k_r5_7_4, k_r5_8_2, (hk.c 1 rfl (hk.c 2 rfl (hk.c 3 rfl hk.k))), (hs.pick [(4, 4), (5, 5), (106201, 106201), (106001, 106001), (106081, 106081), (106161, 106161)] rfl), o_r5_3_5, o_r5_7_5, o_r5_8_3⟩
    refine tsst hk rfl rfl (fun K_r5_4 hK_r5_4 w hF => ?_) ?_
    ·skip
     have hs := hs.f hF
     refine sbs0 106081 L_Block hs rfl hk rfl rfl un28 sz102 fun b_r5_4_1 k_r5_4_2 w a hk o_r5_4_3 hs => ?_
     refine se (hs.pick [(5, 5), (4, 4)] rfl) hk (hK_r5_4 _ _ ?_)
     refine tsst hk rfl rfl (fun K_r5_3 hK_r5_3 w hF => ?_) ?_
     ·skip
      have hs := hs.f hF
      refine sap 106001 (xs := ([] : List Int)) (ys := x0.Pos) (flat_flat : ((Lay.int .i64)).Flat) hs rfl o_r5_0_3 v0_0 (hs.hasD (k := 1) rfl) rfl hk rfl rfl rfl rfl rfl rfl un22 mk3 rfl rfl rfl c_r5_3_1 fun A_r5_3_2 p_r5_3_3 k_r5_3_4 w a hk o_r5_3_5 hs => ?_
      refine se (hs.pick [(5, 5), (4, 4)] rfl) hk (hK_r5_3 _ _ ?_)
      refine tsst hk rfl rfl (fun K_r5_7 hK_r5_7 w hF => ?_) ?_
      ·skip
       have hs := hs.f hF
       refine sap 106081 (xs := ([] : List S_Block)) (ys := x0.Stash) (flat_flat : (L_Block).Flat) hs rfl o_r5_4_3 v0_1 (hs.hasD (k := 2) rfl) rfl hk rfl rfl rfl rfl rfl rfl un28 mk102 rfl rfl rfl c_r5_7_1 fun A_r5_7_2 p_r5_7_3 k_r5_7_4 w a hk o_r5_7_5 hs => ?_
       refine se (hs.pick [(5, 5), (4, 4)] rfl) hk (hK_r5_7 _ _ ?_)
       refine tsst hk rfl rfl (fun K_r5_8 hK_r5_8 w hF => ?_) wt_stop
       have hs := hs.f hF
       refine sbs0 106161 (Lay.sl L_Block 102) hs rfl hk rfl rfl un29 sz28 fun b_r5_8_1 k_r5_8_2 w a hk o_r5_8_3 hs => ?_
       refine se (hs.pick [(5, 5), (4, 4)] rfl) hk (hK_r5_8 _ _ ?_)
       refine tsst hk rfl rfl (fun K_r5_9 hK_r5_9 w hF => ?_) wt_stop
       have hs := hs.f hF
       refine sbd (pv := [(0, (.slice A_r5_3_2 (([] : List Int) ++ x0.Pos).length p_r5_3_3)), (1, (.slice A_r5_7_2 (([] : List S_Block) ++ x0.Stash).length p_r5_7_3)), (2, (.slice (some ⟨b_r5_8_1, 0, none⟩) 0 0))]) rfl hk rfl rfl rfl (bd31_1 A_r5_3_2 ((([] : List Int) ++ x0.Pos).length) p_r5_3_3 A_r5_7_2 ((([] : List S_Block) ++ x0.Stash).length) p_r5_7_3 (some ⟨b_r5_8_1, 0, none⟩) 0 0) fun a hk => ?_
       refine se (hs.pick [(5, 5), (4, 4)] rfl) hk (hK_r5_9 _ _ ?_)
       refine tlst hk rfl rfl fun K_r5_11 hK_r5_11 w hF => ?_
       have hs := hs.f hF
       refine ssw 106201 hs rfl rfl hk rfl rfl rfl rfl sz31 (by simp [Value.oneCell']) rfl fun w a hk hs => ?_
       refine se trivial hk (hK_r5_11 _ _ fun w hF => ?_)
       have hs := hs.f hF
       show R6 _ _
       rw [hR6]
       exact ⟨b_r5_10_1, A_r5_3_2, p_r5_3_3, A_r5_7_2, p_r5_7_3, b_r5_8_1, k_r5_3_4, k_r5_7_4, k_r5_8_2, (hk.c 1 rfl (hk.c 2 rfl (hk.c 3 rfl hk.k))), (hs.pick [(4, 4), (5, 5), (106201, 106201), (106001, 106001), (106081, 106081), (106161, 106161)] rfl), o_r5_3_5, o_r5_7_5, o_r5_8_3⟩
      refine tsst hk rfl rfl (fun K_r5_8 hK_r5_8 w hF => ?_) wt_stop
      have hs := hs.f hF
      refine sbs0 106161 (Lay.sl L_Block 102) hs rfl hk rfl rfl un29 sz28 fun b_r5_8_1 k_r5_8_2 w a hk o_r5_8_3 hs => ?_
      refine se (hs.pick [(5, 5), (4, 4)] rfl) hk (hK_r5_8 _ _ ?_)
      refine tsst hk rfl rfl (fun K_r5_7 hK_r5_7 w hF => ?_) wt_stop
      have hs := hs.f hF
      refine sap 106081 (xs := ([] : List S_Block)) (ys := x0.Stash) (flat_flat : (L_Block).Flat) hs rfl o_r5_4_3 v0_1 (hs.hasD (k := 2) rfl) rfl hk rfl rfl rfl rfl rfl rfl un28 mk102 rfl rfl rfl c_r5_7_1 fun A_r5_7_2 p_r5_7_3 k_r5_7_4 w a hk o_r5_7_5 hs => ?_
      refine se (hs.pick [(5, 5), (4, 4)] rfl) hk (hK_r5_7 _ _ ?_)
      refine tsst hk rfl rfl (fun K_r5_9 hK_r5_9 w hF => ?_) wt_stop
      have hs := hs.f hF
      refine sbd (pv := [(0, (.slice A_r5_3_2 (([] : List Int) ++ x0.Pos).length p_r5_3_3)), (1, (.slice A_r5_7_2 (([] : List S_Block) ++ x0.Stash).length p_r5_7_3)), (2, (.slice (some ⟨b_r5_8_1, 0, none⟩) 0 0))]) rfl hk rfl rfl rfl (bd31_1 A_r5_3_2 ((([] : List Int) ++ x0.Pos).length) p_r5_3_3 A_r5_7_2 ((([] : List S_Block) ++ x0.Stash).length) p_r5_7_3 (some ⟨b_r5_8_1, 0, none⟩) 0 0) fun a hk => ?_
      refine se (hs.pick [(5, 5), (4, 4)] rfl) hk (hK_r5_9 _ _ ?_)
      refine tlst hk rfl rfl fun K_r5_11 hK_r5_11 w hF => ?_
      have hs := hs.f hF
      refine ssw 106201 hs rfl rfl hk rfl rfl rfl rfl sz31 (by simp [Value.oneCell']) rfl fun w a hk hs => ?_
      refine se trivial hk (hK_r5_11 _ _ fun w hF => ?_)
      have hs := hs.f hF
      show R6 _ _
      rw [hR6]
      exact ⟨b_r5_10_1, A_r5_3_2, p_r5_3_3, A_r5_7_2, p_r5_7_3, b_r5_8_1, k_r5_3_4, k_r5_7_4, k_r5_8_2, (hk.c 1 rfl (hk.c 2 rfl (hk.c 3 rfl hk.k))), (hs.pick [(4, 4), (5, 5), (106201, 106201), (106001, 106001), (106081, 106081), (106161, 106161)] rfl), o_r5_3_5, o_r5_7_5, o_r5_8_3⟩
     refine tsst hk rfl rfl (fun K_r5_8 hK_r5_8 w hF => ?_) wt_stop
     have hs := hs.f hF
     refine sbs0 106161 (Lay.sl L_Block 102) hs rfl hk rfl rfl un29 sz28 fun b_r5_8_1 k_r5_8_2 w a hk o_r5_8_3 hs => ?_
     refine se (hs.pick [(5, 5), (4, 4)] rfl) hk (hK_r5_8 _ _ ?_)
     refine tsst hk rfl rfl (fun K_r5_3 hK_r5_3 w hF => ?_) wt_stop
     have hs := hs.f hF
     refine sap 106001 (xs := ([] : List Int)) (ys := x0.Pos) (flat_flat : ((Lay.int .i64)).Flat) hs rfl o_r5_0_3 v0_0 (hs.hasD (k := 1) rfl) rfl hk rfl rfl rfl rfl rfl rfl un22 mk3 rfl rfl rfl c_r5_3_1 fun A_r5_3_2 p_r5_3_3 k_r5_3_4 w a hk o_r5_3_5 hs => ?_
     refine se (hs.pick [(5, 5), (4, 4)] rfl) hk (hK_r5_3 _ _ ?_)
     refine tsst hk rfl rfl (fun K_r5_7 hK_r5_7 w hF => ?_) wt_stop
     have hs := hs.f hF
     refine sap 106081 (xs := ([] : List S_Block)) (ys := x0.Stash) (flat_flat : (L_Block).Flat) hs rfl o_r5_4_3 v0_1 (hs.hasD (k := 2) rfl) rfl hk rfl rfl rfl rfl rfl rfl un28 mk102 rfl rfl rfl c_r5_7_1 fun A_r5_7_2 p_r5_7_3 k_r5_7_4 w a hk o_r5_7_5 hs => ?_
     refine se (hs.pick [(5, 5), (4, 4)] rfl) hk (hK_r5_7 _ _ ?_)
     refine tsst hk rfl rfl (fun K_r5_9 hK_r5_9 w hF => ?_) wt_stop
     have hs := hs.f hF
     refine sbd (pv := [(0, (.slice A_r5_3_2 (([] : List Int) ++ x0.Pos).length p_r5_3_3)), (1, (.slice A_r5_7_2 (([] : List S_Block) ++ x0.Stash).length p_r5_7_3)), (2, (.slice (some ⟨b_r5_8_1, 0, none⟩) 0 0))]) rfl hk rfl rfl rfl (bd31_1 A_r5_3_2 ((([] : List Int) ++ x0.Pos).length) p_r5_3_3 A_r5_7_2 ((([] : List S_Block) ++ x0.Stash).length) p_r5_7_3 (some ⟨b_r5_8_1, 0, none⟩) 0 0) fun a hk => ?_
     refine se (hs.pick [(5, 5), (4, 4)] rfl) hk (hK_r5_9 _ _ ?_)
     refine tlst hk rfl rfl fun K_r5_11 hK_r5_11 w hF => ?_
     have hs := hs.f hF
     refine ssw 106201 hs rfl rfl hk rfl rfl rfl rfl sz31 (by simp [Value.oneCell']) rfl fun w a hk hs => ?_
     refine se trivial hk (hK_r5_11 _ _ fun w hF => ?_)
     have hs := hs.f hF
     show R6 _ _
     rw [hR6]
     exact ⟨b_r5_10_1, A_r5_3_2, p_r5_3_3, A_r5_7_2, p_r5_7_3, b_r5_8_1, k_r5_3_4, k_r5_7_4, k_r5_8_2, (hk.c 1 rfl (hk.c 2 rfl (hk.c 3 rfl hk.k))), (hs.pick [(4, 4), (5, 5), (106201, 106201), (106001, 106001), (106081, 106081), (106161, 106161)] rfl), o_r5_3_5, o_r5_7_5, o_r5_8_3⟩
    refine tsst hk rfl rfl (fun K_r5_8 hK_r5_8 w hF => ?_) wt_stop
    have hs := hs.f hF
    refine sbs0 106161 (Lay.sl L_Block 102) hs rfl hk rfl rfl un29 sz28 fun b_r5_8_1 k_r5_8_2 w a hk o_r5_8_3 hs => ?_
    refine se (hs.pick [(5, 5), (4, 4)] rfl) hk (hK_r5_8 _ _ ?_)
    refine tsst hk rfl rfl (fun K_r5_3 hK_r5_3 w hF => ?_) ?_
    ·skip
     have hs := hs.f hF
     refine sap 106001 (xs := ([] : List Int)) (ys := x0.Pos) (flat_flat : ((Lay.int .i64)).Flat) hs rfl o_r5_0_3 v0_0 (hs.hasD (k := 1) rfl) rfl hk rfl rfl rfl rfl rfl rfl un22 mk3 rfl rfl rfl c_r5_3_1 fun A_r5_3_2 p_r5_3_3 k_r5_3_4 w a hk o_r5_3_5 hs => ?_
     refine se (hs.pick [(5, 5), (4, 4)] rfl) hk (hK_r5_3 _ _ ?_)
     refine tsst hk rfl rfl (fun K_r5_4 hK_r5_4 w hF => ?_) wt_stop
     have hs := hs.f hF
     refine sbs0 106081 L_Block hs rfl hk rfl rfl un28 sz102 fun b_r5_4_1 k_r5_4_2 w a hk o_r5_4_3 hs => ?_
     refine se (hs.pick [(5, 5), (4, 4)] rfl) hk (hK_r5_4 _ _ ?_)
     refine tsst hk rfl rfl (fun K_r5_7 hK_r5_7 w hF => ?_) wt_stop
     have hs := hs.f hF
     refine sap 106081 (xs := ([] : List S_Block)) (ys := x0.Stash) (flat_flat : (L_Block).Flat) hs rfl o_r5_4_3 v0_1 (hs.hasD (k := 2) rfl) rfl hk rfl rfl rfl rfl rfl rfl un28 mk102 rfl rfl rfl c_r5_7_1 fun A_r5_7_2 p_r5_7_3 k_r5_7_4 w a hk o_r5_7_5 hs => ?_
     refine se (hs.pick [(5, 5), (4, 4)] rfl) hk (hK_r5_7 _ _ ?_)
     refine tsst hk rfl rfl (fun K_r5_9 hK_r5_9 w hF => ?_) wt_stop
     have hs := hs.f hF
     refine sbd (pv := [(0, (.slice A_r5_3_2 (([] : List Int) ++ x0.Pos).length p_r5_3_3)), (1, (.slice A_r5_7_2 (([] : List S_Block) ++ x0.Stash).length p_r5_7_3)), (2, (.slice (some ⟨b_r5_8_1, 0, none⟩) 0 0))]) rfl hk rfl rfl rfl (bd31_1 A_r5_3_2 ((([] : List Int) ++ x0.Pos).length) p_r5_3_3 A_r5_7_2 ((([] : List S_Block) ++ x0.Stash).length) p_r5_7_3 (some ⟨b_r5_8_1, 0, none⟩) 0 0) fun a hk => ?_
     refine se (hs.pick [(5, 5), (4, 4)] rfl) hk (hK_r5_9 _ _ ?_)
     refine tlst hk rfl rfl fun K_r5_11 hK_r5_11 w hF => ?_
     have hs := hs.f hF
     refine ssw 106201 hs rfl rfl hk rfl rfl rfl rfl sz31 (by simp [Value.oneCell']) rfl fun w a hk hs => ?_
     refine se trivial hk (hK_r5_11 _ _ fun w hF => ?_)
     have hs := hs.f hF
     show R6 _ _
     rw [hR6]
     exact ⟨b_r5_10_1, A_r5_3_2, p_r5_3_3, A_r5_7_2, p_r5_7_3, b_r5_8_1, k_r5_3_4, k_r5_7_4, k_r5_8_2, (hk.c 1 rfl (hk.c 2 rfl (hk.c 3 rfl hk.k))), (hs.pick [(4, 4), (5, 5), (106201, 106201), (106001, 106001), (106081, 106081), (106161, 106161)] rfl), o_r5_3_5, o_r5_7_5, o_r5_8_3⟩
    refine tsst hk rfl rfl (fun K_r5_4 hK_r5_4 w hF => ?_) wt_stop
    have hs := hs.f hF
    refine sbs0 106081 L_Block hs rfl hk rfl rfl un28 sz102 fun b_r5_4_1 k_r5_4_2 w a hk o_r5_4_3 hs => ?_
    refine se (hs.pick [(5, 5), (4, 4)] rfl) hk (hK_r5_4 _ _ ?_)
    refine tsst hk rfl rfl (fun K_r5_3 hK_r5_3 w hF => ?_) wt_stop
    have hs := hs.f hF
    refine sap 106001 (xs := ([] : List Int)) (ys := x0.Pos) (flat_flat : ((Lay.int .i64)).Flat) hs rfl o_r5_0_3 v0_0 (hs.hasD (k := 1) rfl) rfl hk rfl rfl rfl rfl rfl rfl un22 mk3 rfl rfl rfl c_r5_3_1 fun A_r5_3_2 p_r5_3_3 k_r5_3_4 w a hk o_r5_3_5 hs => ?_
    refine se (hs.pick [(5, 5), (4, 4)] rfl) hk (hK_r5_3 _ _ ?_)
    refine tsst hk rfl rfl (fun K_r5_7 hK_r5_7 w hF => ?_) wt_stop
    have hs := hs.f hF
    refine sap 106081 (xs := ([] : List S_Block)) (ys := x0.Stash) (flat_flat : (L_Block).Flat) hs rfl o_r5_4_3 v0_1 (hs.hasD (k := 2) rfl) rfl hk rfl rfl rfl rfl rfl rfl un28 mk102 rfl rfl rfl c_r5_7_1 fun A_r5_7_2 p_r5_7_3 k_r5_7_4 w a hk o_r5_7_5 hs => ?_
    refine se (hs.pick [(5, 5), (4, 4)] rfl) hk (hK_r5_7 _ _ ?_)
    refine tsst hk rfl rfl (fun K_r5_9 hK_r5_9 w hF => ?_) wt_stop
    have hs := hs.f hF
    refine sbd (pv := [(0, (.slice A_r5_3_2 (([] : List Int) ++ x0.Pos).length p_r5_3_3)), (1, (.slice A_r5_7_2 (([] : List S_Block) ++ x0.Stash).length p_r5_7_3)), (2, (.slice (some ⟨b_r5_8_1, 0, none⟩) 0 0))]) rfl hk rfl rfl rfl (bd31_1 A_r5_3_2 ((([] : List Int) ++ x0.Pos).length) p_r5_3_3 A_r5_7_2 ((([] : List S_Block) ++ x0.Stash).length) p_r5_7_3 (some ⟨b_r5_8_1, 0, none⟩) 0 0) fun a hk => ?_
    refine se (hs.pick [(5, 5), (4, 4)] rfl) hk (hK_r5_9 _ _ ?_)
    refine tlst hk rfl rfl fun K_r5_11 hK_r5_11 w hF => ?_
    have hs := hs.f hF
    refine ssw 106201 hs rfl rfl hk rfl rfl rfl rfl sz31 (by simp [Value.oneCell']) rfl fun w a hk hs => ?_
    refine se trivial hk (hK_r5_11 _ _ fun w hF => ?_)
    have hs := hs.f hF
    show R6 _ _
    rw [hR6]
    exact ⟨b_r5_10_1, A_r5_3_2, p_r5_3_3, A_r5_7_2, p_r5_7_3, b_r5_8_1, k_r5_3_4, k_r5_7_4, k_r5_8_2, (hk.c 1 rfl (hk.c 2 rfl (hk.c 3 rfl hk.k))), (hs.pick [(4, 4), (5, 5), (106201, 106201), (106001, 106001), (106081, 106081), (106161, 106161)] rfl), o_r5_3_5, o_r5_7_5, o_r5_8_3⟩
   refine tsst hk rfl rfl (fun K_r5_4 hK_r5_4 w hF => ?_) ?_
   ·skip
    have hs := hs.f hF
    refine sbs0 106081 L_Block hs rfl hk rfl rfl un28 sz102 fun b_r5_4_1 k_r5_4_2 w a hk o_r5_4_3 hs => ?_
    refine se (hs.pick [(5, 5), (4, 4)] rfl) hk (hK_r5_4 _ _ ?_)
    refine tsst hk rfl rfl (fun K_r5_0 hK_r5_0 w hF => ?_) ?_
    ·skip
     have hs := hs.f hF
     refine sbs0 106001 (Lay.int .i64) hs rfl hk rfl rfl un22 sz3 fun b_r5_0_1 k_r5_0_2 w a hk o_r5_0_3 hs => ?_
     refine se (hs.pick [(5, 5), (4, 4)] rfl) hk (hK_r5_0 _ _ ?_)
     refine tsst hk rfl rfl (fun K_r5_3 hK_r5_3 w hF => ?_) ?_
     ·skip
      have hs := hs.f hF
      refine sap 106001 (xs := ([] : List Int)) (ys := x0.Pos) (flat_flat : ((Lay.int .i64)).Flat) hs rfl o_r5_0_3 v0_0 (hs.hasD (k := 1) rfl) rfl hk rfl rfl rfl rfl rfl rfl un22 mk3 rfl rfl rfl c_r5_3_1 fun A_r5_3_2 p_r5_3_3 k_r5_3_4 w a hk o_r5_3_5 hs => ?_
      refine se (hs.pick [(5, 5), (4, 4)] rfl) hk (hK_r5_3 _ _ ?_)
      refine tsst hk rfl rfl (fun K_r5_7 hK_r5_7 w hF => ?_) ?_
      ·skip
       have hs := hs.f hF
       refine sap 106081 (xs := ([] : List S_Block)) (ys := x0.Stash) (flat_flat : (L_Block).Flat) hs rfl o_r5_4_3 v0_1 (hs.hasD (k := 2) rfl) rfl hk rfl rfl rfl rfl rfl rfl un28 mk102 rfl rfl rfl c_r5_7_1 fun A_r5_7_2 p_r5_7_3 k_r5_7_4 w a hk o_r5_7_5 hs => ?_
       refine se (hs.pick [(5, 5), (4, 4)] rfl) hk (hK_r5_7 _ _ ?_)
       refine tsst hk rfl rfl (fun K_r5_8 hK_r5_8 w hF => ?_) wt_stop
       have hs := hs.f hF
       refine sbs0 106161 (Lay.sl L_Block 102) hs rfl hk rfl rfl un29 sz28 fun b_r5_8_1 k_r5_8_2 w a hk o_r5_8_3 hs => ?_
       refine se (hs.pick [(5, 5), (4, 4)] rfl) hk (hK_r5_8 _ _ ?_)
       refine tsst hk rfl rfl (fun K_r5_9 hK_r5_9 w hF => ?_) wt_stop
       have hs := hs.f hF
       refine sbd (pv := [(0, (.slice A_r5_3_2 (([] : List Int) ++ x0.Pos).length p_r5_3_3)), (1, (.slice A_r5_7_2 (([] : List S_Block) ++ x0.Stash).length p_r5_7_3)), (2, (.slice (some ⟨b_r5_8_1, 0, none⟩) 0 0))]) rfl hk rfl rfl rfl (bd31_1 A_r5_3_2 ((([] : List Int) ++ x0.Pos).length) p_r5_3_3 A_r5_7_2 ((([] : List S_Block) ++ x0.Stash).length) p_r5_7_3 (some ⟨b_r5_8_1, 0, none⟩) 0 0) fun a hk => ?_
       refine se (hs.pick [(5, 5), (4, 4)] rfl) hk (hK_r5_9 _ _ ?_)
       refine tlst hk rfl rfl fun K_r5_11 hK_r5_11 w hF => ?_
       have hs := hs.f hF
       refine ssw 106201 hs rfl rfl hk rfl rfl rfl rfl sz31 (by simp [Value.oneCell']) rfl fun w a hk hs => ?_
       refine se trivial hk (hK_r5_11 _ _ fun w hF => ?_)
       have hs := hs.f hF
       show R6 _ _
       rw [hR6]
       exact ⟨b_r5_10_1, A_r5_3_2, p_r5_3_3, A_r5_7_2, p_r5_7_3, b_r5_8_1, k_r5_3_4, k_r5_7_4, k_r5_8_2, (hk.c 1 rfl (hk.c 2 rfl (hk.c 3 rfl hk.k))), (hs.pick [(4, 4), (5, 5), (106201, 106201), (106001, 106001), (106081, 106081), (106161, 106161)] rfl), o_r5_3_5, o_r5_7_5, o_r5_8_3⟩
      refine tsst hk rfl rfl (fun K_r5_8 hK_r5_8 w hF => ?_) wt_stop
      have hs := hs.f hF
      refine sbs0 106161 (Lay.sl L_Block 102) hs rfl hk rfl rfl un29 sz28 fun b_r5_8_1 k_r5_8_2 w a hk o_r5_8_3 hs => ?_
      refine se (hs.pick [(5, 5), (4, 4)] rfl) hk (hK_r5_8 _ _ ?_)
      refine tsst hk rfl rfl (fun K_r5_7 hK_r5_7 w hF => ?_) wt_stop
      have hs := hs.f hF
      refine sap 106081 (xs := ([] : List S_Block)) (ys := x0.Stash) (flat_flat : (L_Block).Flat) hs rfl o_r5_4_3 v0_1 (hs.hasD (k := 2) rfl) rfl hk rfl rfl rfl rfl rfl rfl un28 mk102 rfl rfl rfl c_r5_7_1 fun A_r5_7_2 p_r5_7_3 k_r5_7_4 w a hk o_r5_7_5 hs => ?_
      refine se (hs.pick [(5, 5), (4, 4)] rfl) hk (hK_r5_7 _ _ ?_)
      refine tsst hk rfl rfl (fun K_r5_9 hK_r5_9 w hF => ?_) wt_stop
      have hs := hs.f hF
      refine sbd (pv := [(0, (.slice A_r5_3_2 (([] : List Int) ++ x0.Pos).length p_r5_3_3)), (1, (.slice A_r5_7_2 (([] : List S_Block) ++ x0.Stash).length p_r5_7_3)), (2, (.slice (some ⟨b_r5_8_1, 0, none⟩) 0 0))]) rfl hk rfl rfl rfl (bd31_1 A_r5_3_2 ((([] : List Int) ++ x0.Pos).length) p_r5_3_3 A_r5_7_2 ((([] : List S_Block) ++ x0.Stash).length) p_r5_7_3 (some ⟨b_r5_8_1, 0, none⟩) 0 0) fun a hk => ?_
      refine se (hs.pick [(5, 5), (4, 4)] rfl) hk (hK_r5_9 _ _ ?_)
      refine tlst hk rfl rfl fun K_r5_11 hK_r5_11 w hF => ?_
      have hs := hs.f hF
      refine ssw 106201 hs rfl rfl hk rfl rfl rfl rfl sz31 (by simp [Value.oneCell']) rfl fun w a hk hs => ?_
      refine se trivial hk (hK_r5_11 _ _ fun w hF => ?_)
      have hs := hs.f hF
      show R6 _ _
      rw [hR6]
      exact ⟨b_r5_10_1, A_r5_3_2, p_r5_3_3, A_r5_7_2, p_r5_7_3, b_r5_8_1, k_r5_3_4, k_r5_7_4, k_r5_8_2, (hk.c 1 rfl (hk.c 2 rfl (hk.c 3 rfl hk.k))), (hs.pick [(4, 4), (5, 5), (106201, 106201), (106001, 106001), (106081, 106081), (106161, 106161)] rfl), o_r5_3_5, o_r5_7_5, o_r5_8_3⟩
     refine tsst hk rfl rfl (fun K_r5_8 hK_r5_8 w hF => ?_) wt_stop
     have hs := hs.f hF
     refine sbs0 106161 (Lay.sl L_Block 102) hs rfl hk rfl rfl un29 sz28 fun b_r5_8_1 k_r5_8_2 w a hk o_r5_8_3 hs => ?_
     refine se (hs.pick [(5, 5), (4, 4)] rfl) hk (hK_r5_8 _ _ ?_)
     refine tsst hk rfl rfl (fun K_r5_3 hK_r5_3 w hF => ?_) wt_stop
     have hs := hs.f hF
     refine sap 106001 (xs := ([] : List Int)) (ys := x0.Pos) (flat_flat : ((Lay.int .i64)).Flat) hs rfl o_r5_0_3 v0_0 (hs.hasD (k := 1) rfl) rfl hk rfl rfl rfl rfl rfl rfl un22 mk3 rfl rfl rfl c_r5_3_1 fun A_r5_3_2 p_r5_3_3 k_r5_3_4 w a hk o_r5_3_5 hs => ?_
     refine se (hs.pick [(5, 5), (4, 4)] rfl) hk (hK_r5_3 _ _ ?_)
     refine tsst hk rfl rfl (fun K_r5_7 hK_r5_7 w hF => ?_) wt_stop
     have hs := hs.f hF
     refine sap 106081 (xs := ([] : List S_Block)) (ys := x0.Stash) (flat_flat : (L_Block).Flat) hs rfl o_r5_4_3 v0_1 (hs.hasD (k := 2) rfl) rfl hk rfl rfl rfl rfl rfl rfl un28 mk102 rfl rfl rfl c_r5_7_1 fun A_r5_7_2 p_r5_7_3 k_r5_7_4 w a hk o_r5_7_5 hs => ?_
     refine se (hs.pick [(5, 5), (4, 4)] rfl) hk (hK_r5_7 _ _ ?_)
     refine tsst hk rfl rfl (fun K_r5_9 hK_r5_9 w hF => ?_) wt_stop
     have hs := hs.f hF
     refine sbd (pv := [(0, (.slice A_r5_3_2 (([] : List Int) ++ x0.Pos).length p_r5_3_3)), (1, (.slice A_r5_7_2 (([] : List S_Block) ++ x0.Stash).length p_r5_7_3)), (2, (.slice (some ⟨b_r5_8_1, 0, none⟩) 0 0))]) rfl hk rfl rfl rfl (bd31_1 A_r5_3_2 ((([] : List Int) ++ x0.Pos).length) p_r5_3_3 A_r5_7_2 ((([] : List S_Block) ++ x0.Stash).length) p_r5_7_3 (some ⟨b_r5_8_1, 0, none⟩) 0 0) fun a hk => ?_
     refine se (hs.pick [(5, 5), (4, 4)] rfl) hk (hK_r5_9 _ _ ?_)
     refine tlst hk rfl rfl fun K_r5_11 hK_r5_11 w hF => ?_
     have hs := hs.f hF
     refine ssw 106201 hs rfl rfl hk rfl rfl rfl rfl sz31 (by simp [Value.oneCell']) rfl fun w a hk hs => ?_
     refine se trivial hk (hK_r5_11 _ _ fun w hF => ?_)
     have hs := hs.f hF
     show R6 _ _
     rw [hR6]
     exact ⟨b_r5_10_1, A_r5_3_2, p_r5_3_3, A_r5_7_2, p_r5_7_3, b_r5_8_1, k_r5_3_4, k_r5_7_4, k_r5_8_2, (hk.c 1 rfl (hk.c 2 rfl (hk.c 3 rfl hk.k))), (hs.pick [(4, 4), (5, 5), (106201, 106201), (106001, 106001), (106081, 106081), (106161, 106161)] rfl), o_r5_3_5, o_r5_7_5, o_r5_8_3⟩
    refine tsst hk rfl rfl (fun K_r5_8 hK_r5_8 w hF => ?_) wt_stop
    have hs := hs.f hF
    refine sbs0 106161 (Lay.sl L_Block 102) hs rfl hk rfl rfl un29 sz28 fun b_r5_8_1 k_r5_8_2 w a hk o_r5_8_3 hs => ?_
    refine se (hs.pick [(5, 5), (4, 4)] rfl) hk (hK_r5_8 _ _ ?_)
    refine tsst hk rfl rfl (fun K_r5_0 hK_r5_0 w hF => ?_) wt_stop
    have hs := hs.f hF
    refine sbs0 106001 (Lay.int .i64) hs rfl hk rfl rfl un22 sz3 fun b_r5_0_1 k_r5_0_2 w a hk o_r5_0_3 hs => ?_
    refine se (hs.pick [(5, 5), (4, 4)] rfl) hk (hK_r5_0 _ _ ?_)
    refine tsst hk rfl rfl (fun K_r5_3 hK_r5_3 w hF => ?_) wt_stop
    have hs := hs.f hF
    refine sap 106001 (xs := ([] : List Int)) (ys := x0.Pos) (flat_flat : ((Lay.int .i64)).Flat) hs rfl o_r5_0_3 v0_0 (hs.hasD (k := 1) rfl) rfl hk rfl rfl rfl rfl rfl rfl un22 mk3 rfl rfl rfl c_r5_3_1 fun A_r5_3_2 p_r5_3_3 k_r5_3_4 w a hk o_r5_3_5 hs => ?_
    refine se (hs.pick [(5, 5), (4, 4)] rfl) hk (hK_r5_3 _ _ ?_)
    refine tsst hk rfl rfl (fun K_r5_7 hK_r5_7 w hF => ?_) wt_stop
    have hs := hs.f hF
    refine sap 106081 (xs := ([] : List S_Block)) (ys := x0.Stash) (flat_flat : (L_Block).Flat) hs rfl o_r5_4_3 v0_1 (hs.hasD (k := 2) rfl) rfl hk rfl rfl rfl rfl rfl rfl un28 mk102 rfl rfl rfl c_r5_7_1 fun A_r5_7_2 p_r5_7_3 k_r5_7_4 w a hk o_r5_7_5 hs => ?_
    refine se (hs.pick [(5, 5), (4, 4)] rfl) hk (hK_r5_7 _ _ ?_)
    refine tsst hk rfl rfl (fun K_r5_9 hK_r5_9 w hF => ?_) wt_stop
    have hs := hs.f hF
    refine sbd (pv := [(0, (.slice A_r5_3_2 (([] : List Int) ++ x0.Pos).length p_r5_3_3)), (1, (.slice A_r5_7_2 (([] : List S_Block) ++ x0.Stash).length p_r5_7_3)), (2, (.slice (some ⟨b_r5_8_1, 0, none⟩) 0 0))]) rfl hk rfl rfl rfl (bd31_1 A_r5_3_2 ((([] : List Int) ++ x0.Pos).length) p_r5_3_3 A_r5_7_2 ((([] : List S_Block) ++ x0.Stash).length) p_r5_7_3 (some ⟨b_r5_8_1, 0, none⟩) 0 0) fun a hk => ?_
    refine se (hs.pick [(5, 5), (4, 4)] rfl) hk (hK_r5_9 _ _ ?_)
    refine tlst hk rfl rfl fun K_r5_11 hK_r5_11 w hF => ?_
    have hs := hs.f hF
    refine ssw 106201 hs rfl rfl hk rfl rfl rfl rfl sz31 (by simp [Value.oneCell']) rfl fun w a hk hs => ?_
    refine se trivial hk (hK_r5_11 _ _ fun w hF => ?_)
    have hs := hs.f hF
    show R6 _ _
    rw [hR6]
    exact ⟨b_r5_10_1, A_r5_3_2, p_r5_3_3, A_r5_7_2, p_r5_7_3, b_r5_8_1, k_r5_3_4, k_r5_7_4, k_r5_8_2, (hk.c 1 rfl (hk.c 2 rfl (hk.c 3 rfl hk.k))), (hs.pick [(4, 4), (5, 5), (106201, 106201), (106001, 106001), (106081, 106081), (106161, 106161)] rfl), o_r5_3_5, o_r5_7_5, o_r5_8_3⟩
   refine tsst hk rfl rfl (fun K_r5_8 hK_r5_8 w hF => ?_) wt_stop
   have hs := hs.f hF
   refine sbs0 106161 (Lay.sl L_Block 102) hs rfl hk rfl rfl un29 sz28 fun b_r5_8_1 k_r5_8_2 w a hk o_r5_8_3 hs => ?_
   refine se (hs.pick [(5, 5), (4, 4)] rfl) hk (hK_r5_8 _ _ ?_)
   refine tsst hk rfl rfl (fun K_r5_0 hK_r5_0 w hF => ?_) ?_
   ·skip
    have hs := hs.f hF
    refine sbs0 106001 (Lay.int .i64) hs rfl hk rfl rfl un22 sz3 fun b_r5_0_1 k_r5_0_2 w a hk o_r5_0_3 hs => ?_
    refine se (hs.pick [(5, 5), (4, 4)] rfl) hk (hK_r5_0 _ _ ?_)
    refine tsst hk rfl rfl (fun K_r5_3 hK_r5_3 w hF => ?_) ?_
    ·skip
     have hs := hs.f hF
     refine sap 106001 (xs := ([] : List Int)) (ys := x0.Pos) (flat_flat : ((Lay.int .i64)).Flat) hs rfl o_r5_0_3 v0_0 (hs.hasD (k := 1) rfl) rfl hk rfl rfl rfl rfl rfl rfl un22 mk3 rfl rfl rfl c_r5_3_1 fun A_r5_3_2 p_r5_3_3 k_r5_3_4 w a hk o_r5_3_5 hs => ?_
     refine se (hs.pick [(5, 5), (4, 4)] rfl) hk (hK_r5_3 _ _ ?_)
     refine tsst hk rfl rfl (fun K_r5_4 hK_r5_4 w hF => ?_) wt_stop
     have hs := hs.f hF
     refine sbs0 106081 L_Block hs rfl hk rfl rfl un28 sz102 fun b_r5_4_1 k_r5_4_2 w a hk o_r5_4_3 hs => ?_
     refine se (hs.pick [(5, 5), (4, 4)] rfl) hk (hK_r5_4 _ _ ?_)
     refine tsst hk rfl rfl (fun K_r5_7 hK_r5_7 w hF => ?_) wt_stop
     have hs := hs.f hF
     refine sap 106081 (xs := ([] : List S_Block)) (ys := x0.Stash) (flat_flat : (L_Block).Flat) hs rfl o_r5_4_3 v0_1 (hs.hasD (k := 2) rfl) rfl hk rfl rfl rfl rfl rfl rfl un28 mk102 rfl rfl rfl c_r5_7_1 fun A_r5_7_2 p_r5_7_3 k_r5_7_4 w a hk o_r5_7_5 hs => ?_
     refine se (hs.pick [(5, 5), (4, 4)] rfl) hk (hK_r5_7 _ _ ?_)
     refine tsst hk rfl rfl (fun K_r5_9 hK_r5_9 w hF => ?_) wt_stop
     have hs := hs.f hF
     refine sbd (pv := [(0, (.slice A_r5_3_2 (([] : List Int) ++ x0.Pos).length p_r5_3_3)), (1, (.slice A_r5_7_2 (([] : List S_Block) ++ x0.Stash).length p_r5_7_3)), (2, (.slice (some ⟨b_r5_8_1, 0, none⟩) 0 0))]) rfl hk rfl rfl rfl (bd31_1 A_r5_3_2 ((([] : List Int) ++ x0.Pos).length) p_r5_3_3 A_r5_7_2 ((([] : List S_Block) ++ x0.Stash).length) p_r5_7_3 (some ⟨b_r5_8_1, 0, none⟩) 0 0) fun a hk => ?_
     refine se (hs.pick [(5, 5), (4, 4)] rfl) hk (hK_r5_9 _ _ ?_)
     refine tlst hk rfl rfl fun K_r5_11 hK_r5_11 w hF => ?_
     have hs := hs.f hF
     refine ssw 106201 hs rfl rfl hk rfl rfl rfl rfl sz31 (by simp [Value.oneCell']) rfl fun w a hk hs => ?_
     refine se trivial hk (hK_r5_11 _ _ fun w hF => ?_)
     have hs := hs.f hF
     show R6 _ _
     rw [hR6]
     exact ⟨b_r5_10_1, A_r5_3_2, p_r5_3_3, A_r5_7_2, p_r5_7_3, b_r5_8_1, k_r5_3_4, k_r5_7_4, k_r5_8_2, (hk.c 1 rfl (hk.c 2 rfl (hk.c 3 rfl hk.k))), (hs.pick [(4, 4), (5, 5), (106201, 106201), (106001, 106001), (106081, 106081), (106161, 106161)] rfl), o_r5_3_5, o_r5_7_5, o_r5_8_3⟩
    refine tsst hk rfl rfl (fun K_r5_4 hK_r5_4 w hF => ?_) wt_stop
    have hs := hs.f hF
    refine sbs0 106081 L_Block hs rfl hk rfl rfl un28 sz102 fun b_r5_4_1 k_r5_4_2 w a hk o_r5_4_3 hs => ?_
    refine se (hs.pick [(5, 5), (4, 4)] rfl) hk (hK_r5_4 _ _ ?_)
    refine tsst hk rfl rfl (fun K_r5_3 hK_r5_3 w hF => ?_) wt_stop
    have hs := hs.f hF
    refine sap 106001 (xs := ([] : List Int)) (ys := x0.Pos) (flat_flat : ((Lay.int .i64)).Flat) hs rfl o_r5_0_3 v0_0 (hs.hasD (k := 1) rfl) rfl hk rfl rfl rfl rfl rfl rfl un22 mk3 rfl rfl rfl c_r5_3_1 fun A_r5_3_2 p_r5_3_3 k_r5_3_4 w a hk o_r5_3_5 hs => ?_
    refine se (hs.pick [(5, 5), (4, 4)] rfl) hk (hK_r5_3 _ _ ?_)
    refine tsst hk rfl rfl (fun K_r5_7 hK_r5_7 w hF => ?_) wt_stop
    have hs := hs.f hF
    refine sap 106081 (xs := ([] : List S_Block)) (ys := x0.Stash) (flat_flat : (L_Block).Flat) hs rfl o_r5_4_3 v0_1 (hs.hasD (k := 2) rfl) rfl hk rfl rfl rfl rfl rfl rfl un28 mk102 rfl rfl rfl c_r5_7_1 fun A_r5_7_2 p_r5_7_3 k_r5_7_4 w a hk o_r5_7_5 hs => ?_
    refine se (hs.pick [(5, 5), (4, 4)] rfl) hk (hK_r5_7 _ _ ?_)
    refine tsst hk rfl rfl (fun K_r5_9 hK_r5_9 w hF => ?_) wt_stop
    have hs := hs.f hF
    refine sbd (pv := [(0, (.slice A_r5_3_2 (([] : List Int) ++ x0.Pos).length p_r5_3_3)), (1, (.slice A_r5_7_2 (([] : List S_Block) ++ x0.Stash).length p_r5_7_3)), (2, (.slice (some ⟨b_r5_8_1, 0, none⟩) 0 0))]) rfl hk rfl rfl rfl (bd31_1 A_r5_3_2 ((([] : List Int) ++ x0.Pos).length) p_r5_3_3 A_r5_7_2 ((([] : List S_Block) ++ x0.Stash).length) p_r5_7_3 (some ⟨b_r5_8_1, 0, none⟩) 0 0) fun a hk => ?_
    refine se (hs.pick [(5, 5), (4, 4)] rfl) hk (hK_r5_9 _ _ ?_)
    refine tlst hk rfl rfl fun K_r5_11 hK_r5_11 w hF => ?_
    have hs := hs.f hF
    refine ssw 106201 hs rfl rfl hk rfl rfl rfl rfl sz31 (by simp [Value.oneCell']) rfl fun w a hk hs => ?_
    refine se trivial hk (hK_r5_11 _ _ fun w hF => ?_)
    have hs := hs.f hF
    show R6 _ _
    rw [hR6]
    exact ⟨b_r5_10_1, A_r5_3_2, p_r5_3_3, A_r5_7_2, p_r5_7_3, b_r5_8_1, k_r5_3_4, k_r5_7_4, k_r5_8_2, (hk.c 1 rfl (hk.c 2 rfl (hk.c 3 rfl hk.k))), (hs.pick [(4, 4), (5, 5), (106201, 106201), (106001, 106001), (106081, 106081), (106161, 106161)] rfl), o_r5_3_5, o_r5_7_5, o_r5_8_3⟩
   refine tsst hk rfl rfl (fun K_r5_4 hK_r5_4 w hF => ?_) wt_stop
   have hs := hs.f hF
   refine sbs0 106081 L_Block hs rfl hk rfl rfl un28 sz102 fun b_r5_4_1 k_r5_4_2 w a hk o_r5_4_3 hs => ?_
   refine se (hs.pick [(5, 5), (4, 4)] rfl) hk (hK_r5_4 _ _ ?_)
   refine tsst hk rfl rfl (fun K_r5_0 hK_r5_0 w hF => ?_) wt_stop
   have hs := hs.f hF
   refine sbs0 106001 (Lay.int .i64) hs rfl hk rfl rfl un22 sz3 fun b_r5_0_1 k_r5_0_2 w a hk o_r5_0_3 hs => ?_
   refine se (hs.pick [(5, 5), (4, 4)] rfl) hk (hK_r5_0 _ _ ?_)
   refine tsst hk rfl rfl (fun K_r5_3 hK_r5_3 w hF => ?_) wt_stop
   have hs := hs.f hF
   refine sap 106001 (xs := ([] : List Int)) (ys := x0.Pos) (flat_flat : ((Lay.int .i64)).Flat) hs rfl o_r5_0_3 v0_0 (hs.hasD (k := 1) rfl) rfl hk rfl rfl rfl rfl rfl rfl un22 mk3 rfl rfl rfl c_r5_3_1 fun A_r5_3_2 p_r5_3_3 k_r5_3_4 w a hk o_r5_3_5 hs => ?_
   refine se (hs.pick [(5, 5), (4, 4)] rfl) hk (hK_r5_3 _ _ ?_)
   refine tsst hk rfl rfl (fun K_r5_7 hK_r5_7 w hF => ?_) wt_stop
   have hs := hs.f hF
   refine sap 106081 (xs := ([] : List S_Block)) (ys := x0.Stash) (flat_flat : (L_Block).Flat) hs rfl o_r5_4_3 v0_1 (hs.hasD (k := 2) rfl) rfl hk rfl rfl rfl rfl rfl rfl un28 mk102 rfl rfl rfl c_r5_7_1 fun A_r5_7_2 p_r5_7_3 k_r5_7_4 w a hk o_r5_7_5 hs => ?_
   refine se (hs.pick [(5, 5), (4, 4)] rfl) hk (hK_r5_7 _ _ ?_)
   refine tsst hk rfl rfl (fun K_r5_9 hK_r5_9 w hF => ?_) wt_stop
   have hs := hs.f hF
   refine sbd (pv := [(0, (.slice A_r5_3_2 (([] : List Int) ++ x0.Pos).length p_r5_3_3)), (1, (.slice A_r5_7_2 (([] : List S_Block) ++ x0.Stash).length p_r5_7_3)), (2, (.slice (some ⟨b_r5_8_1, 0, none⟩) 0 0))]) rfl hk rfl rfl rfl (bd31_1 A_r5_3_2 ((([] : List Int) ++ x0.Pos).length) p_r5_3_3 A_r5_7_2 ((([] : List S_Block) ++ x0.Stash).length) p_r5_7_3 (some ⟨b_r5_8_1, 0, none⟩) 0 0) fun a hk => ?_
   refine se (hs.pick [(5, 5), (4, 4)] rfl) hk (hK_r5_9 _ _ ?_)
   refine tlst hk rfl rfl fun K_r5_11 hK_r5_11 w hF => ?_
   have hs := hs.f hF
   refine ssw 106201 hs rfl rfl hk rfl rfl rfl rfl sz31 (by simp [Value.oneCell']) rfl fun w a hk hs => ?_
   refine se trivial hk (hK_r5_11 _ _ fun w hF => ?_)
   have hs := hs.f hF
   show R6 _ _
   rw [hR6]
   exact ⟨b_r5_10_1, A_r5_3_2, p_r5_3_3, A_r5_7_2, p_r5_7_3, b_r5_8_1, k_r5_3_4, k_r5_7_4, k_r5_8_2, (hk.c 1 rfl (hk.c 2 rfl (hk.c 3 rfl hk.k))), (hs.pick [(4, 4), (5, 5), (106201, 106201), (106001, 106001), (106081, 106081), (106161, 106161)] rfl), o_r5_3_5, o_r5_7_5, o_r5_8_3⟩
  ·intro a w hR0
   rw [hR6] at hR0
   obtain ⟨b_r5_10_1, A_r5_3_2, p_r5_3_3, A_r5_7_2, p_r5_7_3, b_r5_8_1, k_r5_3_4, k_r5_7_4, k_r5_8_2, hk, hs, o_r5_3_5, o_r5_7_5, o_r5_8_3⟩ := hR0
   refine hK4 _ _ ?_
   apply wp_seq_k; intro K7 hK7
   apply wp_seq_k; intro K8 hK8
   apply wp_region_lit
   refine sa _ rfl hk rfl rfl rfl fun a hk => ?_
   show wpList _ _ _ [] _ _
   refine wpList_nil ?_
   refine hK8 _ _ ?_
   obtain ⟨o26, h27, HL28⟩ := bind_some H
   clear H
   obtain ⟨R29, hR29⟩ : ∃ R : Act → World → Prop, R = fun a w => ∃ (u21 : List (List S_Block)) (A24 : Option Addr) (p25 : Nat) (k22 : Chunk), o26 = .out u21 ∧ Kn [(2, (.pointer (some ⟨b3, 0, none⟩))), (3, (.pointer (some ⟨b_r5_10_1, 0, none⟩)))] 35 a ∧ Sat [] w0 w [(1, k0_0), (2, k0_1), (3, k0_2)] [(5, [(b3, .cells #[.slice none 0 0, .slice none 0 0, .slice none 0 0] 31 (0, 0))]), (106201, [(b_r5_10_1, .cells #[.slice A_r5_3_2 (([] : List Int) ++ x0.Pos).length p_r5_3_3, .slice A_r5_7_2 (([] : List S_Block) ++ x0.Stash).length p_r5_7_3, .slice A24 u21.length p25] 31 (0, 0))]), (106001, k_r5_3_4), (106081, k_r5_7_4), (106161, k22)] ∧ Own (Lay.sl L_Block 102) 28 A24 p25 u21 k22 := ⟨_, rfl⟩
   refine wp_cutq R29 ?_ ?_
   ·refine wp_block ?_
    obtain ⟨fu31, h27⟩ := loopO_some h27
    obtain ⟨I30, hI30⟩ : ∃ I : Nat → Act → World → Prop, I = fun fu a w => ∃ (u11 : Int) (u16 : List (List S_Block)) (A19 : Option Addr) (p20 : Nat) (k17 : Chunk), loopN (fun s => spec_l08Own.s0 x0 s.1 s.2) fu (u11, u16) = some o26 ∧ Kn [(1, (.pointer (some ⟨b2, 0, none⟩))), (2, (.pointer (some ⟨b3, 0, none⟩))), (3, (.pointer (some ⟨b_r5_10_1, 0, none⟩))), (4, (.int .i64 u11))] 35 a ∧ Sat [] w0 w [(1, k0_0), (2, k0_1), (3, k0_2)] [(4, [(b2, .cells #[.slice A0_0 x0.Pos.length p0_0, .slice A0_1 x0.Stash.length p0_1, .slice A0_2 x0.Buckets.length p0_2] 31 (0, 0))]), (5, [(b3, .cells #[.slice none 0 0, .slice none 0 0, .slice none 0 0] 31 (0, 0))]), (106201, [(b_r5_10_1, .cells #[.slice A_r5_3_2 (([] : List Int) ++ x0.Pos).length p_r5_3_3, .slice A_r5_7_2 (([] : List S_Block) ++ x0.Stash).length p_r5_7_3, .slice A19 u16.length p20] 31 (0, 0))]), (106001, k_r5_3_4), (106081, k_r5_7_4), (106161, k17)] ∧ Own (Lay.sl L_Block 102) 28 A19 p20 u16 k17 := ⟨_, rfl⟩
    refine wp_loop_ghost I30 fu31 ?_ ?_
    ·rw [hI30]
     exact ⟨0, ([] : List (List S_Block)), (some ⟨b_r5_8_1, 0, none⟩), 0, _, h27, (hk.c 1 rfl (hk.c 2 rfl (hk.c 3 rfl (hk.c 4 rfl hk.k)))), (hs.pick [(4, 4), (5, 5), (106201, 106201), (106001, 106001), (106081, 106081), (106161, 106161)] rfl), o_r5_8_3⟩
    ·clear h27 hk hs
     intro fu31 a w hI0
     rw [hI30] at hI0
     obtain ⟨u11, u16, A19, p20, k17, hi, hk, hs, o18⟩ := hI0
     obtain ⟨x32, H, h33⟩ := loop_round hi
     try dsimp only at H
     unfold spec_l08Own.s0 at H
     apply wp_seq_k; intro K34 hK34
     apply wp_seq_k; intro K35 hK35
     apply wp_region_lit
     refine sm _ rfl hk rfl rfl rfl fun a hk => ?_
     refine sf ⟨b2, 2, none⟩ rfl hk rfl rfl rfl fd31_2 rfl fun a hk => ?_
     refine sl rfl hk rfl rfl rfl ag29 (box_cell hs (k := 4) rfl rfl) fun a hk => ?_
     refine sle rfl hk rfl rfl rfl un29 fun a hk => ?_
     refine sv (.bool (decide (u11 < (x0.Buckets.length : Int)))) hk rfl rfl rfl fun a hk => ?_
     show wpList _ _ _ [] _ _
     refine wpList_nil ?_
     refine hK35 _ _ ?_
     have hs := hs.pick [(4, 4), (5, 5), (106201, 106201), (106001, 106001), (106081, 106081), (106161, 106161)] rfl
     rcases cond_some H with ⟨c36, H⟩ | ⟨c36, H⟩
     ·have hk := hk.lit 19 c36 rfl
      refine cnd_true hk rfl rfl ?_
      refine wp_skip ?_
      refine hK34 _ _ ?_
      apply wp_seq_k; intro K37 hK37
      refine wp_block ?_
      refine wp_region_tree (.q 0 (.q 1 (.q 3 (.q 4 (.q 5 (.q 6 (.q 7 (.alt 2 (.alt 8 (.alt 9 (.alt 10 (.alt 11 (.last 12) .stop) .stop) .stop) .stop) .stop)))))))) mo (by kernel_rfl) (hs.pick [(4, 4), (5, 5), (106201, 106201), (106001, 106001), (106081, 106081)] rfl) fun _ => ?_
      have hs := hs.drew
      refine tqst (.pointer (some ⟨b_r5_10_1, 2, none⟩)) hk rfl rfl rfl rfl (fun w hs => sf ⟨b_r5_10_1, 2, none⟩ rfl hk rfl rfl rfl fd31_2 rfl fun a hk => qe hk) fun a hk => ?_
      refine tqst (.slice A19 u16.length p20) hk rfl rfl rfl rfl (fun w hs => sl rfl hk rfl rfl rfl ag29 (box_cell hs (k := 106201) rfl rfl) fun a hk => qe hk) fun a hk => ?_
      refine tqst (.pointer (some ⟨b2, 2, none⟩)) hk rfl rfl rfl rfl (fun w hs => sf ⟨b2, 2, none⟩ rfl hk rfl rfl rfl fd31_2 rfl fun a hk => qe hk) fun a hk => ?_
      refine tqst (.slice A0_2 x0.Buckets.length p0_2) hk rfl rfl rfl rfl (fun w hs => sl rfl hk rfl rfl rfl ag29 (box_cell hs (k := 4) rfl rfl) fun a hk => qe hk) fun a hk => ?_
      refine tqst (.int .i64 u11) hk rfl rfl rfl rfl (fun w hs => sm _ rfl hk rfl rfl rfl fun a hk => qe hk) fun a hk => ?_
      rcases ite_some H with ⟨c39, H⟩ | ⟨_, H⟩
      rotate_left
      ·cases H
      obtain ⟨b40, q41, hAc39⟩ := (v0_2).some_ u11 c39.1 c39.2
      refine tqst (.pointer (some (padd A0_2 (u11.toNat * 1)))) hk rfl rfl rfl rfl (fun w hs => si rfl hk rfl rfl rfl rfl un29 sz28 c39.1 c39.2 hAc39 fun a hk => qe hk) fun a hk => ?_
      obtain ⟨_, ⟨_, rfl, A43, p44, rfl, v45⟩, e42⟩ := (v0_2).at_ [] u11 c39.1 c39.2
      refine tqst (.slice A43 (x0.Buckets.getD u11.toNat []).length p44) hk rfl rfl rfl rfl (fun w hs => sl (v := (.slice A43 (x0.Buckets.getD u11.toNat []).length p44)) rfl hk rfl rfl rfl ag28 ((e42 0 _ rfl).cell (hs.hasD (k := 3) rfl)) fun a hk => qe hk) fun a hk => ?_
      refine tsst hk rfl rfl (fun K_r38_2 hK_r38_2 w hF => ?_) wt_stop
      have hs := hs.f hF
      refine sbs0 9 L_Block hs rfl hk rfl rfl un28 sz102 fun b46 k47 w a hk o48 hs => ?_
      refine se (hs.pick [(4, 4), (5, 5), (106201, 106201), (106001, 106001), (106081, 106081)] rfl) hk (hK_r38_2 _ _ ?_)
      refine tsst hk rfl rfl (fun K_r38_8 hK_r38_8 w hF => ?_) wt_stop
      have hs := hs.f hF
      rcases ite_some H with ⟨c49, H⟩ | ⟨_, H⟩
      rotate_left
      ·cases H
      refine sap 9 (xs := ([] : List S_Block)) (ys := (x0.Buckets.getD u11.toNat [])) (flat_flat : (L_Block).Flat) hs rfl o48 v45 (hs.hasD (k := 3) rfl) rfl hk rfl rfl rfl rfl rfl rfl un28 mk102 rfl rfl rfl c49 fun A50 p51 k52 w a hk o53 hs => ?_
      refine se (hs.pick [(4, 4), (5, 5), (106201, 106201), (106001, 106001), (106081, 106081)] rfl) hk (hK_r38_8 _ _ ?_)
      refine tsst hk rfl rfl (fun K_r38_9 hK_r38_9 w hF => ?_) wt_stop
      have hs := hs.f hF
      refine sbs1 (L := (Lay.sl L_Block 102)) (pv := [(0, (.slice A50 (([] : List S_Block) ++ (x0.Buckets.getD u11.toNat [])).length p51))]) (xs := [(([] : List S_Block) ++ (x0.Buckets.getD u11.toNat []))]) (ess := [[.slice A50 (([] : List S_Block) ++ (x0.Buckets.getD u11.toNat [])).length p51]]) 10 9 hs rfl rfl hk rfl rfl rfl un29 (bs28_2 A50 ((([] : List S_Block) ++ (x0.Buckets.getD u11.toNat [])).length) p51) (AllOwn.one ⟨_, rfl, o53.toV⟩) rfl rfl rfl fun b54 k55 w a hk o56 hs => ?_
      refine se (hs.pick [(4, 4), (5, 5), (106201, 106201), (106001, 106001), (106081, 106081)] rfl) hk (hK_r38_9 _ _ ?_)
      refine tsst hk rfl rfl (fun K_r38_10 hK_r38_10 w hF => ?_) wt_stop
      have hs := hs.f hF
      rcases ite_some H with ⟨c57, H⟩ | ⟨_, H⟩
      rotate_left
      ·cases H
      refine sapm 106161 10 (xs := u16) (ys := [(([] : List S_Block) ++ (x0.Buckets.getD u11.toNat []))]) hs rfl rfl o18 o56 rfl hk rfl rfl rfl rfl rfl rfl un29 mk28 rfl rfl rfl c57 fun A58 p59 k60 w a hk o61 hs => ?_
      refine se (hs.pick [(4, 4), (5, 5), (106201, 106201), (106001, 106001), (106081, 106081)] rfl) hk (hK_r38_10 _ _ ?_)
      refine tsst hk rfl rfl (fun K_r38_11 hK_r38_11 w hF => ?_) wt_stop
      have hs := hs.f hF
      refine sf ⟨b_r5_10_1, 2, none⟩ rfl hk rfl rfl rfl fd31_2 rfl fun a hk => ?_
      refine se (hs.pick [(4, 4), (5, 5), (106201, 106201), (106001, 106001), (106081, 106081)] rfl) hk (hK_r38_11 _ _ ?_)
      refine tlst hk rfl rfl fun K_r38_12 hK_r38_12 w hF => ?_
      have hs := hs.f hF
      refine ssx (cs' := #[.slice A_r5_3_2 (([] : List Int) ++ x0.Pos).length p_r5_3_3, .slice A_r5_7_2 (([] : List S_Block) ++ x0.Stash).length p_r5_7_3, .slice A58 (u16 ++ ([(([] : List S_Block) ++ (x0.Buckets.getD u11.toNat []))])).length p59]) 106201 hs rfl rfl hk rfl rfl rfl rfl sz29 rfl rfl rfl rfl fun w a hk hs => ?_
      refine se trivial hk (hK_r38_12 _ _ fun w hF => ?_)
      have hs := hs.f hF
      refine hK37 _ _ ?_
      apply wp_region_lit
      refine sm _ rfl hk rfl rfl rfl fun a hk => ?_
      refine sv (.int .i64 (w64 (u11 + 1))) hk rfl rfl rfl fun a hk => ?_
      refine sa _ rfl hk rfl rfl rfl fun a hk => ?_
      show wpList _ _ _ [] _ _
      refine wpList_nil ?_
      obtain rfl := Option.some.inj H
      obtain ⟨m62, hmm62, h33⟩ := h33
      show ∃ n', n' < _ ∧ I30 n' _ _
      refine ⟨m62, hmm62, ?_⟩
      rw [hI30]
      exact ⟨(w64 (u11 + 1)), (u16 ++ ([(([] : List S_Block) ++ (x0.Buckets.getD u11.toNat []))])), A58, p59, _, h33, (hk.c 1 rfl (hk.c 2 rfl (hk.c 3 rfl (hk.c 4 rfl hk.k)))), (hs.pick [(4, 4), (5, 5), (106201, 106201), (106001, 106001), (106081, 106081), (106161, 106161)] rfl), o61⟩
     ·have hk := hk.lit 19 c36 rfl
      refine cnd_false hk rfl rfl ?_
      refine wp_exit ?_
      obtain rfl := Option.some.inj H
      show R29 _ _
      rw [hR29]
      exact ⟨u16, A19, p20, _, h33.symm, (hk.c 2 rfl (hk.c 3 rfl hk.k)), (hs.pick [(5, 5), (106201, 106201), (106001, 106001), (106081, 106081), (106161, 106161)] rfl), o18⟩
   ·intro a w hR0
    rw [hR29] at hR0
    obtain ⟨u21, A24, p25, k22, rfl, hk, hs, o23⟩ := hR0
    have H := HL28
    try dsimp only at H
    refine hK7 _ _ ?_
    have hs := hs.pick [(5, 5), (106201, 106201), (106001, 106001), (106081, 106081), (106161, 106161)] rfl
    apply wp_seq_k; intro K63 hK63
    apply wp_region_lit
    refine sln [.slice A_r5_3_2 (([] : List Int) ++ x0.Pos).length p_r5_3_3, .slice A_r5_7_2 (([] : List S_Block) ++ x0.Stash).length p_r5_7_3, .slice A24 u21.length p25] rfl hk rfl rfl rfl ag31 sz31 (box_cells hs (k := 106201) rfl) fun a hk => ?_
    refine ssw 5 hs rfl rfl hk rfl rfl rfl rfl sz31 (by simp [Value.oneCell']) rfl fun w a hk hs => ?_
    show wpList _ _ _ [] _ _
    refine wpList_nil ?_
    refine hK63 _ _ ?_
    refine wp_ret ?_
    obtain rfl := Option.some.inj H
    exact fin hk _ [(.agg #[.slice A_r5_3_2 (([] : List Int) ++ x0.Pos).length p_r5_3_3, .slice A_r5_7_2 (([] : List S_Block) ++ x0.Stash).length p_r5_7_3, .slice A24 u21.length p25])] rfl ⟨⟨_, rfl, run_loadN ag31 sz31 (box_cells hs (k := 5) rfl)⟩, trivial⟩ ⟨A_r5_3_2, p_r5_3_3, _, A_r5_7_2, p_r5_7_3, _, A24, p25, _, rfl, o_r5_3_5, o_r5_7_5, o23, (hs.pick [(0, 106001), (1, 106081), (2, 106161)] rfl).dnil⟩

end Go.Proofs.Ytjlhmcieholdiaa
