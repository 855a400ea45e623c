/- Further functions. -/
import Derived.Test.YtmgfkpfacdlfbaaGXReadState
namespace Go.Proofs.Ytmgfkpfacdlfbaa
open Go Go.Z Go.Proofs Go.MuLone Go.ChangeShapes Go.WideShapes Go.ChangeAt Go.RowKit
set_option linter.unusedVariables false
set_option linter.unusedSimpArgs false
noncomputable def spec_l08New.f (l0 : List Int) : Option (S_Oram) :=
  (if ([] : List Int).length + l0.length ≤ 1073741824 then (if 0 ≤ (15 : Int) ∧ (15 : Int) ≤ 1073741824 then (some (⟨(([] : List Int) ++ l0), ([] : List S_Block), (List.replicate ((15 : Int)).toNat ([] : List S_Block))⟩ : S_Oram)) else none) else none)
set_option maxRecDepth 100000 in
set_option maxHeartbeats 0 in
theorem spec_l08New_t (w0 : World) (A0_ : Option Addr) (p0_ : Nat) (l0 : List Int) (k0_ : Chunk) (v0_ : View (Lay.int .i64) A0_ p0_ l0 k0_) (w0_ : Has w0 k0_) (r : S_Oram) (H : spec_l08New.f l0 = some r) :
    Calls Try.prog 142 #[.slice A0_ l0.length p0_] w0 (Ret (fun v w => ∃ (A0 : Option Addr) (p0 : Nat) (k0 : Chunk), ∃ (A1 : Option Addr) (p1 : Nat) (k1 : Chunk), ∃ (A2 : Option Addr) (p2 : Nat) (k2 : Chunk), v = .agg #[.slice A0 r.Pos.length p0, .slice A1 r.Stash.length p1, .slice A2 r.Buckets.length p2] ∧ Own (Lay.int .i64) 3 A0 p0 r.Pos k0 ∧ Own L_Block 81 A1 p1 r.Stash k1 ∧ Own (Lay.sl L_Block 81) 26 A2 p2 r.Buckets k2 ∧ Sat [] w0 w [] [(0, k0), (1, k1), (2, k2)])) := by
  have hs : Sat [] w0 w0 [(1, k0_)] [] := Sat.init w0 [(1, k0_)] [] (by simp only [List.mem_cons, List.not_mem_nil, or_false]; rintro x (rfl) <;> assumption) (by simp) List.nodup_nil (by simp [blks])
  unfold spec_l08New.f at H
  refine enter Try.func142 rfl Try.ntmps142 rfl fun a hk => ?_
  apply wp_seq_k; intro K1 hK1
  apply wp_region_lit
  refine salx 2 hs rfl hk rfl rfl ze51 rfl fun b2 w a hk hs => ?_
  show wpList _ _ _ [] _ _
  refine wpList_nil ?_
  refine hK1 _ _ ?_
  apply wp_seq_k; intro K3 hK3
  rcases ite_some H with ⟨c_r4_2_1, H⟩ | ⟨_, H⟩
  rotate_left
  ·cases H
  rcases ite_some H with ⟨c_r4_4_1, H⟩ | ⟨_, H⟩
  rotate_left
  ·cases H
  obtain ⟨R5, hR5⟩ : ∃ R : Act → World → Prop, R = fun a w => ∃ (A_r4_2_2 : Option Addr) (p_r4_2_3 : Nat) (b_r4_3_1 : Nat) (b_r4_4_2 : Nat) (k_r4_2_4 : Chunk) (k_r4_3_2 : Chunk) (k_r4_4_3 : Chunk), Kn [(2, (.pointer (some ⟨b2, 0, none⟩)))] 9 a ∧ Sat [] w0 w [(1, k0_)] [(2, [(b2, .cells #[.slice A_r4_2_2 (([] : List Int) ++ l0).length p_r4_2_3, .slice (some ⟨b_r4_3_1, 0, none⟩) 0 0, .slice (some ⟨b_r4_4_2, 0, none⟩) (((15 : Int)).toNat) (((15 : Int)).toNat)] 51 (0, 0))]), (103001, k_r4_2_4), (103061, k_r4_3_2), (103081, k_r4_4_3)] ∧ Own (Lay.int .i64) 3 A_r4_2_2 p_r4_2_3 (([] : List Int) ++ l0) k_r4_2_4 ∧ Own L_Block 81 (some ⟨b_r4_3_1, 0, none⟩) 0 ([] : List S_Block) k_r4_3_2 ∧ Own (Lay.sl L_Block 81) 26 (some ⟨b_r4_4_2, 0, none⟩) (((15 : Int)).toNat) (List.replicate ((15 : Int)).toNat ([] : List S_Block)) k_r4_4_3 ∧ (List.replicate ((15 : Int)).toNat ([] : List S_Block)).length = (((15 : Int)).toNat) := ⟨_, rfl⟩
  refine wp_cutq R5 ?_ ?_
  ·skip
   refine wp_region_tree (.q 1 (.alt 0 (.alt 2 (.alt 3 (.alt 4 (.alt 5 (.last 6) .stop) .stop) (.alt 4 (.alt 3 (.alt 5 (.last 6) .stop) .stop) .stop)) (.alt 3 (.alt 2 (.alt 4 (.alt 5 (.last 6) .stop) .stop) (.alt 4 (.alt 2 (.alt 5 (.last 6) .stop) .stop) .stop)) (.alt 4 (.alt 2 (.alt 3 (.alt 5 (.last 6) .stop) .stop) (.alt 3 (.alt 2 (.alt 5 (.last 6) .stop) .stop) .stop)) .stop))) (.alt 3 (.alt 0 (.alt 2 (.alt 4 (.alt 5 (.last 6) .stop) .stop) (.alt 4 (.alt 2 (.alt 5 (.last 6) .stop) .stop) .stop)) (.alt 4 (.alt 0 (.alt 2 (.alt 5 (.last 6) .stop) .stop) .stop) .stop)) (.alt 4 (.alt 0 (.alt 2 (.alt 3 (.alt 5 (.last 6) .stop) .stop) (.alt 3 (.alt 2 (.alt 5 (.last 6) .stop) .stop) .stop)) (.alt 3 (.alt 0 (.alt 2 (.alt 5 (.last 6) .stop) .stop) .stop) .stop)) .stop)))) mo (by kernel_rfl) (hs.pick [(2, 2)] rfl) fun _ => ?_
   have hs := hs.drew
   refine tqst (.slice A0_ l0.length p0_) hk rfl rfl rfl rfl (fun w hs => sm _ rfl hk rfl rfl rfl fun a hk => qe hk) fun a hk => ?_
   refine tsst hk rfl rfl (fun K_r4_0 hK_r4_0 w hF => ?_) ?_
   ·skip
    have hs := hs.f hF
    refine sbs0 103001 (Lay.int .i64) hs rfl hk rfl rfl un31 sz3 fun b_r4_0_1 k_r4_0_2 w a hk o_r4_0_3 hs => ?_
    refine se (hs.pick [(2, 2)] rfl) hk (hK_r4_0 _ _ ?_)
    refine tsst hk rfl rfl (fun K_r4_2 hK_r4_2 w hF => ?_) ?_
    ·skip
     have hs := hs.f hF
     refine sap 103001 (xs := ([] : List Int)) (ys := l0) (flat_flat : ((Lay.int .i64)).Flat) hs rfl o_r4_0_3 v0_ (hs.hasD (k := 1) rfl) rfl hk rfl rfl rfl rfl rfl rfl un31 mk3 rfl rfl rfl c_r4_2_1 fun A_r4_2_2 p_r4_2_3 k_r4_2_4 w a hk o_r4_2_5 hs => ?_
     refine se (hs.pick [(2, 2)] rfl) hk (hK_r4_2 _ _ ?_)
     refine tsst hk rfl rfl (fun K_r4_3 hK_r4_3 w hF => ?_) ?_
     ·skip
      have hs := hs.f hF
      refine sbs0 103061 L_Block hs rfl hk rfl rfl un26 sz81 fun b_r4_3_1 k_r4_3_2 w a hk o_r4_3_3 hs => ?_
      refine se (hs.pick [(2, 2)] rfl) hk (hK_r4_3 _ _ ?_)
      refine tsst hk rfl rfl (fun K_r4_4 hK_r4_4 w hF => ?_) wt_stop
      have hs := hs.f hF
      refine smk 103081 (Lay.sl L_Block 81) hs rfl hk rfl rfl rfl rfl un49 mk26 lz26 rfl rfl c_r4_4_1.1 c_r4_4_1.2 fun b_r4_4_2 k_r4_4_3 w a hk o_r4_4_4 hs => ?_
      have lh_r4_4_5 : (List.replicate ((15 : Int)).toNat ([] : List S_Block)).length = ((15 : Int)).toNat := List.length_replicate
      refine se (hs.pick [(2, 2)] rfl) hk (hK_r4_4 _ _ ?_)
      refine tsst hk rfl rfl (fun K_r4_5 hK_r4_5 w hF => ?_) wt_stop
      have hs := hs.f hF
      refine sbd (pv := [(0, (.slice A_r4_2_2 (([] : List Int) ++ l0).length p_r4_2_3)), (1, (.slice (some ⟨b_r4_3_1, 0, none⟩) 0 0)), (2, (.slice (some ⟨b_r4_4_2, 0, none⟩) (((15 : Int)).toNat) (((15 : Int)).toNat)))]) rfl hk rfl rfl rfl (bd51_3 A_r4_2_2 ((([] : List Int) ++ l0).length) p_r4_2_3 (some ⟨b_r4_3_1, 0, none⟩) 0 0 (some ⟨b_r4_4_2, 0, none⟩) (((15 : Int)).toNat) (((15 : Int)).toNat)) fun a hk => ?_
      refine se (hs.pick [(2, 2)] rfl) hk (hK_r4_5 _ _ ?_)
      refine tlst hk rfl rfl fun K_r4_6 hK_r4_6 w hF => ?_
      have hs := hs.f hF
      refine ssw 2 hs rfl rfl hk rfl rfl rfl rfl sz51 (by simp [Value.oneCell']) rfl fun w a hk hs => ?_
      refine se trivial hk (hK_r4_6 _ _ fun w hF => ?_)
      have hs := hs.f hF
      show R5 _ _
      rw [hR5]
      exact ⟨A_r4_2_2, p_r4_2_3, b_r4_3_1, b_r4_4_2, k_r4_2_4, k_r4_3_2, k_r4_4_3, (hk.c 2 rfl hk.k), (hs.pick [(2, 2), (103001, 103001), (103061, 103061), (103081, 103081)] rfl), o_r4_2_5, o_r4_3_3, o_r4_4_4, lh_r4_4_5⟩
     refine tsst hk rfl rfl (fun K_r4_4 hK_r4_4 w hF => ?_) wt_stop
     have hs := hs.f hF
     refine smk 103081 (Lay.sl L_Block 81) hs rfl hk rfl rfl rfl rfl un49 mk26 lz26 rfl rfl c_r4_4_1.1 c_r4_4_1.2 fun b_r4_4_2 k_r4_4_3 w a hk o_r4_4_4 hs => ?_
     have lh_r4_4_5 : (List.replicate ((15 : Int)).toNat ([] : List S_Block)).length = ((15 : Int)).toNat := List.length_replicate
     refine se (hs.pick [(2, 2)] rfl) hk (hK_r4_4 _ _ ?_)
     refine tsst hk rfl rfl (fun K_r4_3 hK_r4_3 w hF => ?_) wt_stop
     have hs := hs.f hF
     refine sbs0 103061 L_Block hs rfl hk rfl rfl un26 sz81 fun b_r4_3_1 k_r4_3_2 w a hk o_r4_3_3 hs => ?_
     refine se (hs.pick [(2, 2)] rfl) hk (hK_r4_3 _ _ ?_)
     refine tsst hk rfl rfl (fun K_r4_5 hK_r4_5 w hF => ?_) wt_stop
     have hs := hs.f hF
     refine sbd (pv := [(0, (.slice A_r4_2_2 (([] : List Int) ++ l0).length p_r4_2_3)), (1, (.slice (some ⟨b_r4_3_1, 0, none⟩) 0 0)), (2, (.slice (some ⟨b_r4_4_2, 0, none⟩) (((15 : Int)).toNat) (((15 : Int)).toNat)))]) rfl hk rfl rfl rfl (bd51_3 A_r4_2_2 ((([] : List Int) ++ l0).length) p_r4_2_3 (some ⟨b_r4_3_1, 0, none⟩) 0 0 (some ⟨b_r4_4_2, 0, none⟩) (((15 : Int)).toNat) (((15 : Int)).toNat)) fun a hk => ?_
     refine se (hs.pick [(2, 2)] rfl) hk (hK_r4_5 _ _ ?_)
     refine tlst hk rfl rfl fun K_r4_6 hK_r4_6 w hF => ?_
     have hs := hs.f hF
     refine ssw 2 hs rfl rfl hk rfl rfl rfl rfl sz51 (by simp [Value.oneCell']) rfl fun w a hk hs => ?_
     refine se trivial hk (hK_r4_6 _ _ fun w hF => ?_)
     have hs := hs.f hF
     show R5 _ _
     rw [hR5]
     exact ⟨A_r4_2_2, p_r4_2_3, b_r4_3_1, b_r4_4_2, k_r4_2_4, k_r4_3_2, k_r4_4_3, (hk.c 2 rfl hk.k), (hs.pick [(2, 2), (103001, 103001), (103061, 103061), (103081, 103081)] rfl), o_r4_2_5, o_r4_3_3, o_r4_4_4, lh_r4_4_5⟩
    refine tsst hk rfl rfl (fun K_r4_3 hK_r4_3 w hF => ?_) ?_
    ·skip
     have hs := hs.f hF
     refine sbs0 103061 L_Block hs rfl hk rfl rfl un26 sz81 fun b_r4_3_1 k_r4_3_2 w a hk o_r4_3_3 hs => ?_
     refine se (hs.pick [(2, 2)] rfl) hk (hK_r4_3 _ _ ?_)
     refine tsst hk rfl rfl (fun K_r4_2 hK_r4_2 w hF => ?_) ?_
     ·skip
      have hs := hs.f hF
      refine sap 103001 (xs := ([] : List Int)) (ys := l0) (flat_flat : ((Lay.int .i64)).Flat) hs rfl o_r4_0_3 v0_ (hs.hasD (k := 1) rfl) rfl hk rfl rfl rfl rfl rfl rfl un31 mk3 rfl rfl rfl c_r4_2_1 fun A_r4_2_2 p_r4_2_3 k_r4_2_4 w a hk o_r4_2_5 hs => ?_
      refine se (hs.pick [(2, 2)] rfl) hk (hK_r4_2 _ _ ?_)
      refine tsst hk rfl rfl (fun K_r4_4 hK_r4_4 w hF => ?_) wt_stop
      have hs := hs.f hF
      refine smk 103081 (Lay.sl L_Block 81) hs rfl hk rfl rfl rfl rfl un49 mk26 lz26 rfl rfl c_r4_4_1.1 c_r4_4_1.2 fun b_r4_4_2 k_r4_4_3 w a hk o_r4_4_4 hs => ?_
      have lh_r4_4_5 : (List.replicate ((15 : Int)).toNat ([] : List S_Block)).length = ((15 : Int)).toNat := List.length_replicate
      refine se (hs.pick [(2, 2)] rfl) hk (hK_r4_4 _ _ ?_)
      refine tsst hk rfl rfl (fun K_r4_5 hK_r4_5 w hF => ?_) wt_stop
      have hs := hs.f hF
      refine sbd (pv := [(0, (.slice A_r4_2_2 (([] : List Int) ++ l0).length p_r4_2_3)), (1, (.slice (some ⟨b_r4_3_1, 0, none⟩) 0 0)), (2, (.slice (some ⟨b_r4_4_2, 0, none⟩) (((15 : Int)).toNat) (((15 : Int)).toNat)))]) rfl hk rfl rfl rfl (bd51_3 A_r4_2_2 ((([] : List Int) ++ l0).length) p_r4_2_3 (some ⟨b_r4_3_1, 0, none⟩) 0 0 (some ⟨b_r4_4_2, 0, none⟩) (((15 : Int)).toNat) (((15 : Int)).toNat)) fun a hk => ?_
      refine se (hs.pick [(2, 2)] rfl) hk (hK_r4_5 _ _ ?_)
      refine tlst hk rfl rfl fun K_r4_6 hK_r4_6 w hF => ?_
      have hs := hs.f hF
      refine ssw 2 hs rfl rfl hk rfl rfl rfl rfl sz51 (by simp [Value.oneCell']) rfl fun w a hk hs => ?_
      refine se trivial hk (hK_r4_6 _ _ fun w hF => ?_)
      have hs := hs.f hF
      show R5 _ _
      rw [hR5]
      exact ⟨A_r4_2_2, p_r4_2_3, b_r4_3_1, b_r4_4_2, k_r4_2_4, k_r4_3_2, k_r4_4_3, (hk.c 2 rfl hk.k), (hs.pick [(2, 2), (103001, 103001), (103061, 103061), (103081, 103081)] rfl), o_r4_2_5, o_r4_3_3, o_r4_4_4, lh_r4_4_5⟩
     refine tsst hk rfl rfl (fun K_r4_4 hK_r4_4 w hF => ?_) wt_stop
     have hs := hs.f hF
     refine smk 103081 (Lay.sl L_Block 81) hs rfl hk rfl rfl rfl rfl un49 mk26 lz26 rfl rfl c_r4_4_1.1 c_r4_4_1.2 fun b_r4_4_2 k_r4_4_3 w a hk o_r4_4_4 hs => ?_
     have lh_r4_4_5 : (List.replicate ((15 : Int)).toNat ([] : List S_Block)).length = ((15 : Int)).toNat := List.length_replicate
     refine se (hs.pick [(2, 2)] rfl) hk (hK_r4_4 _ _ ?_)
     refine tsst hk rfl rfl (fun K_r4_2 hK_r4_2 w hF => ?_) wt_stop
     have hs := hs.f hF
     refine sap 103001 (xs := ([] : List Int)) (ys := l0) (flat_flat : ((Lay.int .i64)).Flat) hs rfl o_r4_0_3 v0_ (hs.hasD (k := 1) rfl) rfl hk rfl rfl rfl rfl rfl rfl un31 mk3 rfl rfl rfl c_r4_2_1 fun A_r4_2_2 p_r4_2_3 k_r4_2_4 w a hk o_r4_2_5 hs => ?_
     refine se (hs.pick [(2, 2)] rfl) hk (hK_r4_2 _ _ ?_)
     refine tsst hk rfl rfl (fun K_r4_5 hK_r4_5 w hF => ?_) wt_stop
     have hs := hs.f hF
     refine sbd (pv := [(0, (.slice A_r4_2_2 (([] : List Int) ++ l0).length p_r4_2_3)), (1, (.slice (some ⟨b_r4_3_1, 0, none⟩) 0 0)), (2, (.slice (some ⟨b_r4_4_2, 0, none⟩) (((15 : Int)).toNat) (((15 : Int)).toNat)))]) rfl hk rfl rfl rfl (bd51_3 A_r4_2_2 ((([] : List Int) ++ l0).length) p_r4_2_3 (some ⟨b_r4_3_1, 0, none⟩) 0 0 (some ⟨b_r4_4_2, 0, none⟩) (((15 : Int)).toNat) (((15 : Int)).toNat)) fun a hk => ?_
     refine se (hs.pick [(2, 2)] rfl) hk (hK_r4_5 _ _ ?_)
     refine tlst hk rfl rfl fun K_r4_6 hK_r4_6 w hF => ?_
     have hs := hs.f hF
     refine ssw 2 hs rfl rfl hk rfl rfl rfl rfl sz51 (by simp [Value.oneCell']) rfl fun w a hk hs => ?_
     refine se trivial hk (hK_r4_6 _ _ fun w hF => ?_)
     have hs := hs.f hF
     show R5 _ _
     rw [hR5]
     exact ⟨A_r4_2_2, p_r4_2_3, b_r4_3_1, b_r4_4_2, k_r4_2_4, k_r4_3_2, k_r4_4_3, (hk.c 2 rfl hk.k), (hs.pick [(2, 2), (103001, 103001), (103061, 103061), (103081, 103081)] rfl), o_r4_2_5, o_r4_3_3, o_r4_4_4, lh_r4_4_5⟩
    refine tsst hk rfl rfl (fun K_r4_4 hK_r4_4 w hF => ?_) wt_stop
    have hs := hs.f hF
    refine smk 103081 (Lay.sl L_Block 81) hs rfl hk rfl rfl rfl rfl un49 mk26 lz26 rfl rfl c_r4_4_1.1 c_r4_4_1.2 fun b_r4_4_2 k_r4_4_3 w a hk o_r4_4_4 hs => ?_
    have lh_r4_4_5 : (List.replicate ((15 : Int)).toNat ([] : List S_Block)).length = ((15 : Int)).toNat := List.length_replicate
    refine se (hs.pick [(2, 2)] rfl) hk (hK_r4_4 _ _ ?_)
    refine tsst hk rfl rfl (fun K_r4_2 hK_r4_2 w hF => ?_) ?_
    ·skip
     have hs := hs.f hF
     refine sap 103001 (xs := ([] : List Int)) (ys := l0) (flat_flat : ((Lay.int .i64)).Flat) hs rfl o_r4_0_3 v0_ (hs.hasD (k := 1) rfl) rfl hk rfl rfl rfl rfl rfl rfl un31 mk3 rfl rfl rfl c_r4_2_1 fun A_r4_2_2 p_r4_2_3 k_r4_2_4 w a hk o_r4_2_5 hs => ?_
     refine se (hs.pick [(2, 2)] rfl) hk (hK_r4_2 _ _ ?_)
     refine tsst hk rfl rfl (fun K_r4_3 hK_r4_3 w hF => ?_) wt_stop
     have hs := hs.f hF
     refine sbs0 103061 L_Block hs rfl hk rfl rfl un26 sz81 fun b_r4_3_1 k_r4_3_2 w a hk o_r4_3_3 hs => ?_
     refine se (hs.pick [(2, 2)] rfl) hk (hK_r4_3 _ _ ?_)
     refine tsst hk rfl rfl (fun K_r4_5 hK_r4_5 w hF => ?_) wt_stop
     have hs := hs.f hF
     refine sbd (pv := [(0, (.slice A_r4_2_2 (([] : List Int) ++ l0).length p_r4_2_3)), (1, (.slice (some ⟨b_r4_3_1, 0, none⟩) 0 0)), (2, (.slice (some ⟨b_r4_4_2, 0, none⟩) (((15 : Int)).toNat) (((15 : Int)).toNat)))]) rfl hk rfl rfl rfl (bd51_3 A_r4_2_2 ((([] : List Int) ++ l0).length) p_r4_2_3 (some ⟨b_r4_3_1, 0, none⟩) 0 0 (some ⟨b_r4_4_2, 0, none⟩) (((15 : Int)).toNat) (((15 : Int)).toNat)) fun a hk => ?_
     refine se (hs.pick [(2, 2)] rfl) hk (hK_r4_5 _ _ ?_)
     refine tlst hk rfl rfl fun K_r4_6 hK_r4_6 w hF => ?_
     have hs := hs.f hF
     refine ssw 2 hs rfl rfl hk rfl rfl rfl rfl sz51 (by simp [Value.oneCell']) rfl fun w a hk hs => ?_
     refine se trivial hk (hK_r4_6 _ _ fun w hF => ?_)
     have hs := hs.f hF
     show R5 _ _
     rw [hR5]
     exact ⟨A_r4_2_2, p_r4_2_3, b_r4_3_1, b_r4_4_2, k_r4_2_4, k_r4_3_2, k_r4_4_3, (hk.c 2 rfl hk.k), (hs.pick [(2, 2), (103001, 103001), (103061, 103061), (103081, 103081)] rfl), o_r4_2_5, o_r4_3_3, o_r4_4_4, lh_r4_4_5⟩
    refine tsst hk rfl rfl (fun K_r4_3 hK_r4_3 w hF => ?_) wt_stop
    have hs := hs.f hF
    refine sbs0 103061 L_Block hs rfl hk rfl rfl un26 sz81 fun b_r4_3_1 k_r4_3_2 w a hk o_r4_3_3 hs => ?_
    refine se (hs.pick [(2, 2)] rfl) hk (hK_r4_3 _ _ ?_)
    refine tsst hk rfl rfl (fun K_r4_2 hK_r4_2 w hF => ?_) wt_stop
    have hs := hs.f hF
    refine sap 103001 (xs := ([] : List Int)) (ys := l0) (flat_flat : ((Lay.int .i64)).Flat) hs rfl o_r4_0_3 v0_ (hs.hasD (k := 1) rfl) rfl hk rfl rfl rfl rfl rfl rfl un31 mk3 rfl rfl rfl c_r4_2_1 fun A_r4_2_2 p_r4_2_3 k_r4_2_4 w a hk o_r4_2_5 hs => ?_
    refine se (hs.pick [(2, 2)] rfl) hk (hK_r4_2 _ _ ?_)
    refine tsst hk rfl rfl (fun K_r4_5 hK_r4_5 w hF => ?_) wt_stop
    have hs := hs.f hF
    refine sbd (pv := [(0, (.slice A_r4_2_2 (([] : List Int) ++ l0).length p_r4_2_3)), (1, (.slice (some ⟨b_r4_3_1, 0, none⟩) 0 0)), (2, (.slice (some ⟨b_r4_4_2, 0, none⟩) (((15 : Int)).toNat) (((15 : Int)).toNat)))]) rfl hk rfl rfl rfl (bd51_3 A_r4_2_2 ((([] : List Int) ++ l0).length) p_r4_2_3 (some ⟨b_r4_3_1, 0, none⟩) 0 0 (some ⟨b_r4_4_2, 0, none⟩) (((15 : Int)).toNat) (((15 : Int)).toNat)) fun a hk => ?_
    refine se (hs.pick [(2, 2)] rfl) hk (hK_r4_5 _ _ ?_)
    refine tlst hk rfl rfl fun K_r4_6 hK_r4_6 w hF => ?_
    have hs := hs.f hF
    refine ssw 2 hs rfl rfl hk rfl rfl rfl rfl sz51 (by simp [Value.oneCell']) rfl fun w a hk hs => ?_
    refine se trivial hk (hK_r4_6 _ _ fun w hF => ?_)
    have hs := hs.f hF
    show R5 _ _
    rw [hR5]
    exact ⟨A_r4_2_2, p_r4_2_3, b_r4_3_1, b_r4_4_2, k_r4_2_4, k_r4_3_2, k_r4_4_3, (hk.c 2 rfl hk.k), (hs.pick [(2, 2), (103001, 103001), (103061, 103061), (103081, 103081)] rfl), o_r4_2_5, o_r4_3_3, o_r4_4_4, lh_r4_4_5⟩
   refine tsst hk rfl rfl (fun K_r4_3 hK_r4_3 w hF => ?_) ?_
   ·skip
    have hs := hs.f hF
    refine sbs0 103061 L_Block hs rfl hk rfl rfl un26 sz81 fun b_r4_3_1 k_r4_3_2 w a hk o_r4_3_3 hs => ?_
    refine se (hs.pick [(2, 2)] rfl) hk (hK_r4_3 _ _ ?_)
    refine tsst hk rfl rfl (fun K_r4_0 hK_r4_0 w hF => ?_) ?_
    ·skip
     have hs := hs.f hF
     refine sbs0 103001 (Lay.int .i64) hs rfl hk rfl rfl un31 sz3 fun b_r4_0_1 k_r4_0_2 w a hk o_r4_0_3 hs => ?_
     refine se (hs.pick [(2, 2)] rfl) hk (hK_r4_0 _ _ ?_)
     refine tsst hk rfl rfl (fun K_r4_2 hK_r4_2 w hF => ?_) ?_
     ·skip
      have hs := hs.f hF
      refine sap 103001 (xs := ([] : List Int)) (ys := l0) (flat_flat : ((Lay.int .i64)).Flat) hs rfl o_r4_0_3 v0_ (hs.hasD (k := 1) rfl) rfl hk rfl rfl rfl rfl rfl rfl un31 mk3 rfl rfl rfl c_r4_2_1 fun A_r4_2_2 p_r4_2_3 k_r4_2_4 w a hk o_r4_2_5 hs => ?_
      refine se (hs.pick [(2, 2)] rfl) hk (hK_r4_2 _ _ ?_)
      refine tsst hk rfl rfl (fun K_r4_4 hK_r4_4 w hF => ?_) wt_stop
      have hs := hs.f hF
      refine smk 103081 (Lay.sl L_Block 81) hs rfl hk rfl rfl rfl rfl un49 mk26 lz26 rfl rfl c_r4_4_1.1 c_r4_4_1.2 fun b_r4_4_2 k_r4_4_3 w a hk o_r4_4_4 hs => ?_
      have lh_r4_4_5 : (List.replicate ((15 : Int)).toNat ([] : List S_Block)).length = ((15 : Int)).toNat := List.length_replicate
      refine se (hs.pick [(2, 2)] rfl) hk (hK_r4_4 _ _ ?_)
      refine tsst hk rfl rfl (fun K_r4_5 hK_r4_5 w hF => ?_) wt_stop
      have hs := hs.f hF
      refine sbd (pv := [(0, (.slice A_r4_2_2 (([] : List Int) ++ l0).length p_r4_2_3)), (1, (.slice (some ⟨b_r4_3_1, 0, none⟩) 0 0)), (2, (.slice (some ⟨b_r4_4_2, 0, none⟩) (((15 : Int)).toNat) (((15 : Int)).toNat)))]) rfl hk rfl rfl rfl (bd51_3 A_r4_2_2 ((([] : List Int) ++ l0).length) p_r4_2_3 (some ⟨b_r4_3_1, 0, none⟩) 0 0 (some ⟨b_r4_4_2, 0, none⟩) (((15 : Int)).toNat) (((15 : Int)).toNat)) fun a hk => ?_
      refine se (hs.pick [(2, 2)] rfl) hk (hK_r4_5 _ _ ?_)
      refine tlst hk rfl rfl fun K_r4_6 hK_r4_6 w hF => ?_
      have hs := hs.f hF
      refine ssw 2 hs rfl rfl hk rfl rfl rfl rfl sz51 (by simp [Value.oneCell']) rfl fun w a hk hs => ?_
      refine se trivial hk (hK_r4_6 _ _ fun w hF => ?_)
      have hs := hs.f hF
      show R5 _ _
      rw [hR5]
      exact ⟨A_r4_2_2, p_r4_2_3, b_r4_3_1, b_r4_4_2, k_r4_2_4, k_r4_3_2, k_r4_4_3, (hk.c 2 rfl hk.k), (hs.pick [(2, 2), (103001, 103001), (103061, 103061), (103081, 103081)] rfl), o_r4_2_5, o_r4_3_3, o_r4_4_4, lh_r4_4_5⟩
     refine tsst hk rfl rfl (fun K_r4_4 hK_r4_4 w hF => ?_) wt_stop
     have hs := hs.f hF
     refine smk 103081 (Lay.sl L_Block 81) hs rfl hk rfl rfl rfl rfl un49 mk26 lz26 rfl rfl c_r4_4_1.1 c_r4_4_1.2 fun b_r4_4_2 k_r4_4_3 w a hk o_r4_4_4 hs => ?_
     have lh_r4_4_5 : (List.replicate ((15 : Int)).toNat ([] : List S_Block)).length = ((15 : Int)).toNat := List.length_replicate
     refine se (hs.pick [(2, 2)] rfl) hk (hK_r4_4 _ _ ?_)
     refine tsst hk rfl rfl (fun K_r4_2 hK_r4_2 w hF => ?_) wt_stop
     have hs := hs.f hF
     refine sap 103001 (xs := ([] : List Int)) (ys := l0) (flat_flat : ((Lay.int .i64)).Flat) hs rfl o_r4_0_3 v0_ (hs.hasD (k := 1) rfl) rfl hk rfl rfl rfl rfl rfl rfl un31 mk3 rfl rfl rfl c_r4_2_1 fun A_r4_2_2 p_r4_2_3 k_r4_2_4 w a hk o_r4_2_5 hs => ?_
     refine se (hs.pick [(2, 2)] rfl) hk (hK_r4_2 _ _ ?_)
     refine tsst hk rfl rfl (fun K_r4_5 hK_r4_5 w hF => ?_) wt_stop
     have hs := hs.f hF
     refine sbd (pv := [(0, (.slice A_r4_2_2 (([] : List Int) ++ l0).length p_r4_2_3)), (1, (.slice (some ⟨b_r4_3_1, 0, none⟩) 0 0)), (2, (.slice (some ⟨b_r4_4_2, 0, none⟩) (((15 : Int)).toNat) (((15 : Int)).toNat)))]) rfl hk rfl rfl rfl (bd51_3 A_r4_2_2 ((([] : List Int) ++ l0).length) p_r4_2_3 (some ⟨b_r4_3_1, 0, none⟩) 0 0 (some ⟨b_r4_4_2, 0, none⟩) (((15 : Int)).toNat) (((15 : Int)).toNat)) fun a hk => ?_
     refine se (hs.pick [(2, 2)] rfl) hk (hK_r4_5 _ _ ?_)
     refine tlst hk rfl rfl fun K_r4_6 hK_r4_6 w hF => ?_
     have hs := hs.f hF
     refine ssw 2 hs rfl rfl hk rfl rfl rfl rfl sz51 (by simp [Value.oneCell']) rfl fun w a hk hs => ?_
     refine se trivial hk (hK_r4_6 _ _ fun w hF => ?_)
     have hs := hs.f hF
     show R5 _ _
     rw [hR5]
     exact ⟨A_r4_2_2, p_r4_2_3, b_r4_3_1, b_r4_4_2, k_r4_2_4, k_r4_3_2, k_r4_4_3, (hk.c 2 rfl hk.k), (hs.pick [(2, 2), (103001, 103001), (103061, 103061), (103081, 103081)] rfl), o_r4_2_5, o_r4_3_3, o_r4_4_4, lh_r4_4_5⟩
    refine tsst hk rfl rfl (fun K_r4_4 hK_r4_4 w hF => ?_) wt_stop
    have hs := hs.f hF
    refine smk 103081 (Lay.sl L_Block 81) hs rfl hk rfl rfl rfl rfl un49 mk26 lz26 rfl rfl c_r4_4_1.1 c_r4_4_1.2 fun b_r4_4_2 k_r4_4_3 w a hk o_r4_4_4 hs => ?_
    have lh_r4_4_5 : (List.replicate ((15 : Int)).toNat ([] : List S_Block)).length = ((15 : Int)).toNat := List.length_replicate
    refine se (hs.pick [(2, 2)] rfl) hk (hK_r4_4 _ _ ?_)
    refine tsst hk rfl rfl (fun K_r4_0 hK_r4_0 w hF => ?_) wt_stop
    have hs := hs.f hF
    refine sbs0 103001 (Lay.int .i64) hs rfl hk rfl rfl un31 sz3 fun b_r4_0_1 k_r4_0_2 w a hk o_r4_0_3 hs => ?_
    refine se (hs.pick [(2, 2)] rfl) hk (hK_r4_0 _ _ ?_)
    refine tsst hk rfl rfl (fun K_r4_2 hK_r4_2 w hF => ?_) wt_stop
    have hs := hs.f hF
    refine sap 103001 (xs := ([] : List Int)) (ys := l0) (flat_flat : ((Lay.int .i64)).Flat) hs rfl o_r4_0_3 v0_ (hs.hasD (k := 1) rfl) rfl hk rfl rfl rfl rfl rfl rfl un31 mk3 rfl rfl rfl c_r4_2_1 fun A_r4_2_2 p_r4_2_3 k_r4_2_4 w a hk o_r4_2_5 hs => ?_
    refine se (hs.pick [(2, 2)] rfl) hk (hK_r4_2 _ _ ?_)
    refine tsst hk rfl rfl (fun K_r4_5 hK_r4_5 w hF => ?_) wt_stop
    have hs := hs.f hF
    refine sbd (pv := [(0, (.slice A_r4_2_2 (([] : List Int) ++ l0).length p_r4_2_3)), (1, (.slice (some ⟨b_r4_3_1, 0, none⟩) 0 0)), (2, (.slice (some ⟨b_r4_4_2, 0, none⟩) (((15 : Int)).toNat) (((15 : Int)).toNat)))]) rfl hk rfl rfl rfl (bd51_3 A_r4_2_2 ((([] : List Int) ++ l0).length) p_r4_2_3 (some ⟨b_r4_3_1, 0, none⟩) 0 0 (some ⟨b_r4_4_2, 0, none⟩) (((15 : Int)).toNat) (((15 : Int)).toNat)) fun a hk => ?_
    refine se (hs.pick [(2, 2)] rfl) hk (hK_r4_5 _ _ ?_)
    refine tlst hk rfl rfl fun K_r4_6 hK_r4_6 w hF => ?_
    have hs := hs.f hF
    refine ssw 2 hs rfl rfl hk rfl rfl rfl rfl sz51 (by simp [Value.oneCell']) rfl fun w a hk hs => ?_
    refine se trivial hk (hK_r4_6 _ _ fun w hF => ?_)
    have hs := hs.f hF
    show R5 _ _
    rw [hR5]
    exact ⟨A_r4_2_2, p_r4_2_3, b_r4_3_1, b_r4_4_2, k_r4_2_4, k_r4_3_2, k_r4_4_3, (hk.c 2 rfl hk.k), (hs.pick [(2, 2), (103001, 103001), (103061, 103061), (103081, 103081)] rfl), o_r4_2_5, o_r4_3_3, o_r4_4_4, lh_r4_4_5⟩
   refine tsst hk rfl rfl (fun K_r4_4 hK_r4_4 w hF => ?_) wt_stop
   have hs := hs.f hF
   refine smk 103081 (Lay.sl L_Block 81) hs rfl hk rfl rfl rfl rfl un49 mk26 lz26 rfl rfl c_r4_4_1.1 c_r4_4_1.2 fun b_r4_4_2 k_r4_4_3 w a hk o_r4_4_4 hs => ?_
   have lh_r4_4_5 : (List.replicate ((15 : Int)).toNat ([] : List S_Block)).length = ((15 : Int)).toNat := List.length_replicate
   refine se (hs.pick [(2, 2)] rfl) hk (hK_r4_4 _ _ ?_)
   refine tsst hk rfl rfl (fun K_r4_0 hK_r4_0 w hF => ?_) ?_
   ·skip
    have hs := hs.f hF
    refine sbs0 103001 (Lay.int .i64) hs rfl hk rfl rfl un31 sz3 fun b_r4_0_1 k_r4_0_2 w a hk o_r4_0_3 hs => ?_
    refine se (hs.pick [(2, 2)] rfl) hk (hK_r4_0 _ _ ?_)
    refine tsst hk rfl rfl (fun K_r4_2 hK_r4_2 w hF => ?_) ?_
    ·skip
     have hs := hs.f hF
     refine sap 103001 (xs := ([] : List Int)) (ys := l0) (flat_flat : ((Lay.int .i64)).Flat) hs rfl o_r4_0_3 v0_ (hs.hasD (k := 1) rfl) rfl hk rfl rfl rfl rfl rfl rfl un31 mk3 rfl rfl rfl c_r4_2_1 fun A_r4_2_2 p_r4_2_3 k_r4_2_4 w a hk o_r4_2_5 hs => ?_
     refine se (hs.pick [(2, 2)] rfl) hk (hK_r4_2 _ _ ?_)
     refine tsst hk rfl rfl (fun K_r4_3 hK_r4_3 w hF => ?_) wt_stop
     have hs := hs.f hF
     refine sbs0 103061 L_Block hs rfl hk rfl rfl un26 sz81 fun b_r4_3_1 k_r4_3_2 w a hk o_r4_3_3 hs => ?_
     refine se (hs.pick [(2, 2)] rfl) hk (hK_r4_3 _ _ ?_)
     refine tsst hk rfl rfl (fun K_r4_5 hK_r4_5 w hF => ?_) wt_stop
     have hs := hs.f hF
     refine sbd (pv := [(0, (.slice A_r4_2_2 (([] : List Int) ++ l0).length p_r4_2_3)), (1, (.slice (some ⟨b_r4_3_1, 0, none⟩) 0 0)), (2, (.slice (some ⟨b_r4_4_2, 0, none⟩) (((15 : Int)).toNat) (((15 : Int)).toNat)))]) rfl hk rfl rfl rfl (bd51_3 A_r4_2_2 ((([] : List Int) ++ l0).length) p_r4_2_3 (some ⟨b_r4_3_1, 0, none⟩) 0 0 (some ⟨b_r4_4_2, 0, none⟩) (((15 : Int)).toNat) (((15 : Int)).toNat)) fun a hk => ?_
     refine se (hs.pick [(2, 2)] rfl) hk (hK_r4_5 _ _ ?_)
     refine tlst hk rfl rfl fun K_r4_6 hK_r4_6 w hF => ?_
     have hs := hs.f hF
     refine ssw 2 hs rfl rfl hk rfl rfl rfl rfl sz51 (by simp [Value.oneCell']) rfl fun w a hk hs => ?_
     refine se trivial hk (hK_r4_6 _ _ fun w hF => ?_)
     have hs := hs.f hF
     show R5 _ _
     rw [hR5]
     exact ⟨A_r4_2_2, p_r4_2_3, b_r4_3_1, b_r4_4_2, k_r4_2_4, k_r4_3_2, k_r4_4_3, (hk.c 2 rfl hk.k), (hs.pick [(2, 2), (103001, 103001), (103061, 103061), (103081, 103081)] rfl), o_r4_2_5, o_r4_3_3, o_r4_4_4, lh_r4_4_5⟩
    refine tsst hk rfl rfl (fun K_r4_3 hK_r4_3 w hF => ?_) wt_stop
    have hs := hs.f hF
    refine sbs0 103061 L_Block hs rfl hk rfl rfl un26 sz81 fun b_r4_3_1 k_r4_3_2 w a hk o_r4_3_3 hs => ?_
    refine se (hs.pick [(2, 2)] rfl) hk (hK_r4_3 _ _ ?_)
    refine tsst hk rfl rfl (fun K_r4_2 hK_r4_2 w hF => ?_) wt_stop
    have hs := hs.f hF
    refine sap 103001 (xs := ([] : List Int)) (ys := l0) (flat_flat : ((Lay.int .i64)).Flat) hs rfl o_r4_0_3 v0_ (hs.hasD (k := 1) rfl) rfl hk rfl rfl rfl rfl rfl rfl un31 mk3 rfl rfl rfl c_r4_2_1 fun A_r4_2_2 p_r4_2_3 k_r4_2_4 w a hk o_r4_2_5 hs => ?_
    refine se (hs.pick [(2, 2)] rfl) hk (hK_r4_2 _ _ ?_)
    refine tsst hk rfl rfl (fun K_r4_5 hK_r4_5 w hF => ?_) wt_stop
    have hs := hs.f hF
    refine sbd (pv := [(0, (.slice A_r4_2_2 (([] : List Int) ++ l0).length p_r4_2_3)), (1, (.slice (some ⟨b_r4_3_1, 0, none⟩) 0 0)), (2, (.slice (some ⟨b_r4_4_2, 0, none⟩) (((15 : Int)).toNat) (((15 : Int)).toNat)))]) rfl hk rfl rfl rfl (bd51_3 A_r4_2_2 ((([] : List Int) ++ l0).length) p_r4_2_3 (some ⟨b_r4_3_1, 0, none⟩) 0 0 (some ⟨b_r4_4_2, 0, none⟩) (((15 : Int)).toNat) (((15 : Int)).toNat)) fun a hk => ?_
    refine se (hs.pick [(2, 2)] rfl) hk (hK_r4_5 _ _ ?_)
    refine tlst hk rfl rfl fun K_r4_6 hK_r4_6 w hF => ?_
    have hs := hs.f hF
    refine ssw 2 hs rfl rfl hk rfl rfl rfl rfl sz51 (by simp [Value.oneCell']) rfl fun w a hk hs => ?_
    refine se trivial hk (hK_r4_6 _ _ fun w hF => ?_)
    have hs := hs.f hF
    show R5 _ _
    rw [hR5]
    exact ⟨A_r4_2_2, p_r4_2_3, b_r4_3_1, b_r4_4_2, k_r4_2_4, k_r4_3_2, k_r4_4_3, (hk.c 2 rfl hk.k), (hs.pick [(2, 2), (103001, 103001), (103061, 103061), (103081, 103081)] rfl), o_r4_2_5, o_r4_3_3, o_r4_4_4, lh_r4_4_5⟩
   refine tsst hk rfl rfl (fun K_r4_3 hK_r4_3 w hF => ?_) wt_stop
   have hs := hs.f hF
   refine sbs0 103061 L_Block hs rfl hk rfl rfl un26 sz81 fun b_r4_3_1 k_r4_3_2 w a hk o_r4_3_3 hs => ?_
   refine se (hs.pick [(2, 2)] rfl) hk (hK_r4_3 _ _ ?_)
   refine tsst hk rfl rfl (fun K_r4_0 hK_r4_0 w hF => ?_) wt_stop
   have hs := hs.f hF
   refine sbs0 103001 (Lay.int .i64) hs rfl hk rfl rfl un31 sz3 fun b_r4_0_1 k_r4_0_2 w a hk o_r4_0_3 hs => ?_
   refine se (hs.pick [(2, 2)] rfl) hk (hK_r4_0 _ _ ?_)
   refine tsst hk rfl rfl (fun K_r4_2 hK_r4_2 w hF => ?_) wt_stop
   have hs := hs.f hF
   refine sap 103001 (xs := ([] : List Int)) (ys := l0) (flat_flat : ((Lay.int .i64)).Flat) hs rfl o_r4_0_3 v0_ (hs.hasD (k := 1) rfl) rfl hk rfl rfl rfl rfl rfl rfl un31 mk3 rfl rfl rfl c_r4_2_1 fun A_r4_2_2 p_r4_2_3 k_r4_2_4 w a hk o_r4_2_5 hs => ?_
   refine se (hs.pick [(2, 2)] rfl) hk (hK_r4_2 _ _ ?_)
   refine tsst hk rfl rfl (fun K_r4_5 hK_r4_5 w hF => ?_) wt_stop
   have hs := hs.f hF
   refine sbd (pv := [(0, (.slice A_r4_2_2 (([] : List Int) ++ l0).length p_r4_2_3)), (1, (.slice (some ⟨b_r4_3_1, 0, none⟩) 0 0)), (2, (.slice (some ⟨b_r4_4_2, 0, none⟩) (((15 : Int)).toNat) (((15 : Int)).toNat)))]) rfl hk rfl rfl rfl (bd51_3 A_r4_2_2 ((([] : List Int) ++ l0).length) p_r4_2_3 (some ⟨b_r4_3_1, 0, none⟩) 0 0 (some ⟨b_r4_4_2, 0, none⟩) (((15 : Int)).toNat) (((15 : Int)).toNat)) fun a hk => ?_
   refine se (hs.pick [(2, 2)] rfl) hk (hK_r4_5 _ _ ?_)
   refine tlst hk rfl rfl fun K_r4_6 hK_r4_6 w hF => ?_
   have hs := hs.f hF
   refine ssw 2 hs rfl rfl hk rfl rfl rfl rfl sz51 (by simp [Value.oneCell']) rfl fun w a hk hs => ?_
   refine se trivial hk (hK_r4_6 _ _ fun w hF => ?_)
   have hs := hs.f hF
   show R5 _ _
   rw [hR5]
   exact ⟨A_r4_2_2, p_r4_2_3, b_r4_3_1, b_r4_4_2, k_r4_2_4, k_r4_3_2, k_r4_4_3, (hk.c 2 rfl hk.k), (hs.pick [(2, 2), (103001, 103001), (103061, 103061), (103081, 103081)] rfl), o_r4_2_5, o_r4_3_3, o_r4_4_4, lh_r4_4_5⟩
  ·intro a w hR0
   rw [hR5] at hR0
   obtain ⟨A_r4_2_2, p_r4_2_3, b_r4_3_1, b_r4_4_2, k_r4_2_4, k_r4_3_2, k_r4_4_3, hk, hs, o_r4_2_5, o_r4_3_3, o_r4_4_4, lh_r4_4_5⟩ := hR0
   refine hK3 _ _ ?_
   refine wp_ret ?_
   obtain rfl := Option.some.inj H
   exact fin hk _ [(.agg #[.slice A_r4_2_2 (([] : List Int) ++ l0).length p_r4_2_3, .slice (some ⟨b_r4_3_1, 0, none⟩) 0 0, .slice (some ⟨b_r4_4_2, 0, none⟩) (((15 : Int)).toNat) (((15 : Int)).toNat)])] rfl ⟨⟨_, rfl, run_loadN ag51 sz51 (box_cells hs (k := 2) rfl)⟩, trivial⟩ ⟨A_r4_2_2, p_r4_2_3, _, (some ⟨b_r4_3_1, 0, none⟩), 0, _, (some ⟨b_r4_4_2, 0, none⟩), (((15 : Int)).toNat), _, (by first | (rw [lh_r4_4_5]; done) | (rw [lh_r4_4_5]; rfl)), o_r4_2_5, o_r4_3_3, o_r4_4_4, (hs.pick [(0, 103001), (1, 103061), (2, 103081)] rfl).dnil⟩

noncomputable def spec_l12ToState.s0 (y4 : S_l12Reader) (u34 : Int) (u35 : Int) (u40 : List Int) : Option ((Int × Int × (List Int)) ⊕ Ex (Int × (List Int)) (S_Enc × (List S_Result) × Bool)) :=
  (bif (decide (u34 < 12)) then ((spec_l12Reader_next.f (⟨y4.list, u35⟩ : S_l12Reader)).bind fun y_r63_4_1 => (if u40.length + ([y_r63_4_1.1]).length ≤ 1073741824 then (some (.inl ((w64 (u34 + 1)), y_r63_4_1.2, (u40 ++ ([y_r63_4_1.1]))))) else none)) else (some (.inr (.out (u35, u40)))))
noncomputable def spec_l12ToState.s1 (y4 : S_l12Reader) (u72 : Int) (u73 : Int) (u78 : List S_Block) : Option ((Int × Int × (List S_Block)) ⊕ Ex (Int × (List S_Block)) (S_Enc × (List S_Result) × Bool)) :=
  (bif (decide (u72 > 0)) then ((spec_l12Reader_next.f (⟨y4.list, u73⟩ : S_l12Reader)).bind fun y102 => ((spec_l12Reader_next.f (⟨y4.list, y102.2⟩ : S_l12Reader)).bind fun y106 => ((spec_l12Reader_next.f (⟨y4.list, y106.2⟩ : S_l12Reader)).bind fun y109 => (if u78.length + ([(⟨y102.1, y106.1, y109.1⟩ : S_Block)]).length ≤ 1073741824 then (some (.inl ((w64 (u72 - 1)), y109.2, (u78 ++ ([(⟨y102.1, y106.1, y109.1⟩ : S_Block)]))))) else none)))) else (some (.inr (.out (u73, u78)))))
noncomputable def spec_l12ToState.s2 (y4 : S_l12Reader) (u124 : Int) (u125 : Int) (u131 : List Int) : Option ((Int × Int × (List Int)) ⊕ Ex (Int × (List Int)) (S_Enc × (List S_Result) × Bool)) :=
  (bif (decide (u124 < 11)) then ((spec_l12Reader_next.f (⟨y4.list, u125⟩ : S_l12Reader)).bind fun y155 => (if u131.length + ([y155.1]).length ≤ 1073741824 then (some (.inl ((w64 (u124 + 1)), y155.2, (u131 ++ ([y155.1]))))) else none)) else (some (.inr (.out (u125, u131)))))
noncomputable def spec_l12ToState.s4 (y4 : S_l12Reader) (u218 : Int) (u219 : Int) (u224 : List Int) : Option ((Int × Int × (List Int)) ⊕ Ex (Int × (List Int)) (S_Enc × (List S_Result) × Bool)) :=
  (bif (decide (u218 > 0)) then ((spec_l12Reader_next.f (⟨y4.list, u219⟩ : S_l12Reader)).bind fun y248 => (if u224.length + ([y248.1]).length ≤ 1073741824 then (some (.inl ((w64 (u218 - 1)), y248.2, (u224 ++ ([y248.1]))))) else none)) else (some (.inr (.out (u219, u224)))))
noncomputable def spec_l12ToState.s3 (y4 : S_l12Reader) (u182 : List S_Result) (u180 : Int) (u181 : Int) : Option (((List S_Result) × Int × Int) ⊕ Ex ((List S_Result) × Int) (S_Enc × (List S_Result) × Bool)) :=
  (bif (decide (u180 > 0)) then ((spec_l12Reader_next.f (⟨y4.list, u181⟩ : S_l12Reader)).bind fun y206 => ((spec_l12Reader_count.f (⟨y4.list, y206.2⟩ : S_l12Reader) 32).bind fun y214 => ((loopO (fun s => spec_l12ToState.s4 y4 s.1 s.2.1 s.2.2) (y214.1, y214.2, ([] : List Int))).bind fun o => match o with | .out (u229, u230) => (if u182.length + ([(⟨y206.1, u230⟩ : S_Result)]).length ≤ 1073741824 then (some (.inl ((u182 ++ ([(⟨y206.1, u230⟩ : S_Result)])), (w64 (u180 - 1)), u229))) else none) | .ret r => (some (.inr (.ret r)))))) else (some (.inr (.out (u182, u181)))))
noncomputable def spec_l12ToState.f (x0 : ByteArray) : Option (S_Enc × (List S_Result) × Bool) :=
  ((spec_l12Read.f x0 140).bind fun y4 => ((spec_l08New.f ([] : List Int)).bind fun y15 => ((loopO (fun s => spec_l12ToState.s0 y4 s.1 s.2.1 s.2.2) (0, y4.at_, y15.Pos)).bind fun o => match o with | .out (u45, u46) => ((spec_l12Reader_count.f (⟨y4.list, u45⟩ : S_l12Reader) 12).bind fun y68 => ((loopO (fun s => spec_l12ToState.s1 y4 s.1 s.2.1 s.2.2) (y68.1, y68.2, y15.Stash)).bind fun o => match o with | .out (u83, u84) => ((loopO (fun s => spec_l12ToState.s2 y4 s.1 s.2.1 s.2.2) (0, u83, ([] : List Int))).bind fun o => match o with | .out (u136, u137) => ((spec_l12Reader_count.f (⟨y4.list, u136⟩ : S_l12Reader) 2).bind fun y172 => ((loopO (fun s => spec_l12ToState.s3 y4 s.1 s.2.1 s.2.2) (([] : List S_Result), y172.1, y172.2)).bind fun o => match o with | .out (u187, u192) => ((((spec_l12Reader_rest.f (⟨y4.list, u192⟩ : S_l12Reader)).bind fun y301 => (bif y301.1 then ((spec_EncOK.f (⟨u137, (⟨u46, u84, y15.Buckets⟩ : S_Oram)⟩ : S_Enc)).bind fun y307 => (bif y307 then ((spec_l12Results.f u187).bind fun y314 => (some (u187, y314, u137, u46, u84, y15.Buckets))) else (some (u187, false, u137, u46, u84, y15.Buckets)))) else (some (u187, false, u137, u46, u84, y15.Buckets)))) : Option ((List S_Result) × Bool × (List Int) × (List Int) × (List S_Block) × (List (List S_Block)))).bind fun o => match o with | (u270, u275, u276, u281, u286, u291) => (some ((⟨u276, (⟨u281, u286, u291⟩ : S_Oram)⟩ : S_Enc), u270, u275))) | .ret r => (some r))) | .ret r => (some r)) | .ret r => (some r))) | .ret r => (some r))))
set_option maxRecDepth 100000 in
set_option maxHeartbeats 0 in
theorem spec_l12ToState_t (w0 : World) (x0 : ByteArray) (r : S_Enc × (List S_Result) × Bool) (H : spec_l12ToState.f x0 = some r) :
    Calls Try.prog 92 #[.string x0] w0 (Ret (fun v w => ∃ (A0 : Option Addr) (p0 : Nat) (k0 : Chunk), ∃ (A1 : Option Addr) (p1 : Nat) (k1 : Chunk), ∃ (A2 : Option Addr) (p2 : Nat) (k2 : Chunk), ∃ (A3 : Option Addr) (p3 : Nat) (k3 : Chunk), ∃ (A4 : Option Addr) (p4 : Nat) (k4 : Chunk), v = .tuple #[.agg #[.slice A0 r.1.Keys.length p0, .slice A1 r.1.Oram.Pos.length p1, .slice A2 r.1.Oram.Stash.length p2, .slice A3 r.1.Oram.Buckets.length p3], .slice A4 r.2.1.length p4, .bool r.2.2] ∧ Own (Lay.int .i64) 3 A0 p0 r.1.Keys k0 ∧ Own (Lay.int .i64) 3 A1 p1 r.1.Oram.Pos k1 ∧ Own L_Block 81 A2 p2 r.1.Oram.Stash k2 ∧ Own (Lay.sl L_Block 81) 26 A3 p3 r.1.Oram.Buckets k3 ∧ Own L_impl_Result 105 A4 p4 r.2.1 k4 ∧ Sat [] w0 w [] [(0, k0), (1, k1), (2, k2), (3, k3), (4, k4)])) := by
  have hs : Sat [] w0 w0 [] [] := Sat.init w0 [] [] (by simp) (by simp) List.nodup_nil (by simp [blks])
  unfold spec_l12ToState.f at H
  refine enter Try.func92 rfl Try.ntmps92 rfl fun a hk => ?_
  apply wp_seq_k; intro K1 hK1
  apply wp_region_lit
  refine salx 1 hs rfl hk rfl rfl ze53 rfl fun b2 w a hk hs => ?_
  refine sa _ rfl hk rfl rfl rfl fun a hk => ?_
  refine sa _ rfl hk rfl rfl rfl fun a hk => ?_
  show wpList _ _ _ [] _ _
  refine wpList_nil ?_
  refine hK1 _ _ ?_
  apply wp_seq_k; intro K3 hK3
  apply wp_region_lit
  refine sm _ rfl hk rfl rfl rfl fun a hk => ?_
  obtain ⟨y4, h5, H⟩ := bind_some H
  refine sc rfl en131 hk rfl rfl rfl (spec_l12Read_t _ x0 140 _ h5) ?_
  rintro _ w ⟨b6, A7, p8, k9, rfl, o10, hG⟩ a hk
  have hs := hs.call0k hG [2, 3] rfl
  refine sa _ rfl hk rfl rfl rfl fun a hk => ?_
  show wpList _ _ _ [] _ _
  refine wpList_nil ?_
  refine hK3 _ _ ?_
  apply wp_seq_k; intro K11 hK11
  apply wp_region_lit
  refine sbs0 4 (Lay.int .i64) hs rfl hk rfl rfl un31 sz3 fun b12 k13 w a hk o14 hs => ?_
  obtain ⟨y15, h16, H⟩ := bind_some H
  refine sc rfl en142 hk rfl rfl rfl (spec_l08New_t _ (some ⟨b12, 0, none⟩) 0 [] _ o14.view (hs.hasG (k := 4) rfl) _ h16) ?_
  rintro _ w ⟨A17, p18, k19, A21, p22, k23, A25, p26, k27, rfl, o20, o24, o28, hG⟩ a hk
  have hs := hs.call0k hG [5, 6, 7] rfl
  refine sbd (pv := [(1, (.agg #[.slice A17 y15.Pos.length p18, .slice A21 y15.Stash.length p22, .slice A25 y15.Buckets.length p26]))]) rfl hk rfl rfl rfl (bd53_4 A17 y15.Pos.length p18 A21 y15.Stash.length p22 A25 y15.Buckets.length p26) fun a hk => ?_
  refine salx 8 hs rfl hk rfl rfl ze53 rfl fun b29 w a hk hs => ?_
  refine ssw 8 hs rfl rfl hk rfl rfl rfl rfl sz53 (by simp [Value.oneCell']) rfl fun w a hk hs => ?_
  show wpList _ _ _ [] _ _
  refine wpList_nil ?_
  refine hK11 _ _ ?_
  apply wp_seq_k; intro K30 hK30
  apply wp_seq_k; intro K31 hK31
  apply wp_region_lit
  refine sa _ rfl hk rfl rfl rfl fun a hk => ?_
  show wpList _ _ _ [] _ _
  refine wpList_nil ?_
  refine hK31 _ _ ?_
  obtain ⟨o51, h52, HL53⟩ := bind_some H
  clear H
  obtain ⟨R54, hR54⟩ : ∃ R : Act → World → Prop, R = fun a w => ∃ (u45 : Int) (u46 : List Int) (A49 : Option Addr) (p50 : Nat) (k47 : Chunk), o51 = .out (u45, u46) ∧ Kn [(2, (.pointer (some ⟨b2, 0, none⟩))), (5, (.pointer (some ⟨b6, 0, none⟩))), (6, (.pointer (some ⟨b29, 0, none⟩)))] 107 a ∧ Sat [] w0 w [] [(1, [(b2, .cells #[.slice none 0 0, .slice none 0 0, .slice none 0 0, .slice none 0 0] 53 (0, 0))]), (2, [(b6, .cells #[.slice A7 y4.list.length p8, .int .i64 u45] 181 (0, 0))]), (3, k9), (8, [(b29, .cells #[.slice none 0 0, .slice A49 u46.length p50, .slice A21 y15.Stash.length p22, .slice A25 y15.Buckets.length p26] 53 (0, 0))]), (5, k47), (6, k23), (7, k27)] ∧ Own (Lay.int .i64) 3 A49 p50 u46 k47 := ⟨_, rfl⟩
  refine wp_cutq R54 ?_ ?_
  ·refine wp_block ?_
   obtain ⟨fu56, h52⟩ := loopO_some h52
   obtain ⟨I55, hI55⟩ : ∃ I : Nat → Act → World → Prop, I = fun fu a w => ∃ (u34 : Int) (u35 : Int) (u40 : List Int) (A43 : Option Addr) (p44 : Nat) (k41 : Chunk), loopN (fun s => spec_l12ToState.s0 y4 s.1 s.2.1 s.2.2) fu (u34, u35, u40) = some o51 ∧ Kn [(2, (.pointer (some ⟨b2, 0, none⟩))), (5, (.pointer (some ⟨b6, 0, none⟩))), (6, (.pointer (some ⟨b29, 0, none⟩))), (7, (.int .i64 u34))] 107 a ∧ Sat [] w0 w [] [(1, [(b2, .cells #[.slice none 0 0, .slice none 0 0, .slice none 0 0, .slice none 0 0] 53 (0, 0))]), (2, [(b6, .cells #[.slice A7 y4.list.length p8, .int .i64 u35] 181 (0, 0))]), (3, k9), (8, [(b29, .cells #[.slice none 0 0, .slice A43 u40.length p44, .slice A21 y15.Stash.length p22, .slice A25 y15.Buckets.length p26] 53 (0, 0))]), (5, k41), (6, k23), (7, k27)] ∧ Own (Lay.int .i64) 3 A43 p44 u40 k41 := ⟨_, rfl⟩
   refine wp_loop_ghost I55 fu56 ?_ ?_
   ·rw [hI55]
    exact ⟨0, y4.at_, y15.Pos, A17, p18, _, h52, (hk.c 2 rfl (hk.c 5 rfl (hk.c 6 rfl (hk.c 7 rfl hk.k)))), (hs.pick [(1, 1), (2, 2), (3, 3), (8, 8), (5, 5), (6, 6), (7, 7)] rfl), o20⟩
   ·clear h52 hk hs
    intro fu56 a w hI0
    rw [hI55] at hI0
    obtain ⟨u34, u35, u40, A43, p44, k41, hi, hk, hs, o42⟩ := hI0
    obtain ⟨x57, H, h58⟩ := loop_round hi
    try dsimp only at H
    unfold spec_l12ToState.s0 at H
    apply wp_seq_k; intro K59 hK59
    apply wp_seq_k; intro K60 hK60
    apply wp_region_lit
    refine sm _ rfl hk rfl rfl rfl fun a hk => ?_
    refine sv (.bool (decide (u34 < 12))) hk rfl rfl rfl fun a hk => ?_
    show wpList _ _ _ [] _ _
    refine wpList_nil ?_
    refine hK60 _ _ ?_
    rcases cond_some H with ⟨c61, H⟩ | ⟨c61, H⟩
    ·have hk := hk.lit 21 c61 rfl
     refine cnd_true hk rfl rfl ?_
     refine wp_skip ?_
     refine hK59 _ _ ?_
     apply wp_seq_k; intro K62 hK62
     refine wp_block ?_
     obtain ⟨y_r63_4_1, h_r63_4_2, H⟩ := bind_some H
     rcases ite_some H with ⟨c_r63_6_1, H⟩ | ⟨_, H⟩
     rotate_left
     ·cases H
     obtain ⟨R64, hR64⟩ : ∃ R : Act → World → Prop, R = fun a w => ∃ (A_r63_6_2 : Option Addr) (p_r63_6_3 : Nat) (k_r63_6_4 : Chunk), Kn [(2, (.pointer (some ⟨b2, 0, none⟩))), (5, (.pointer (some ⟨b6, 0, none⟩))), (6, (.pointer (some ⟨b29, 0, none⟩))), (7, (.int .i64 u34))] 107 a ∧ Sat [] w0 w [] [(1, [(b2, .cells #[.slice none 0 0, .slice none 0 0, .slice none 0 0, .slice none 0 0] 53 (0, 0))]), (2, [(b6, .cells #[.slice A7 y4.list.length p8, .int .i64 y_r63_4_1.2] 181 (0, 0))]), (3, k9), (8, [(b29, .cells #[.slice none 0 0, .slice A_r63_6_2 (u40 ++ ([y_r63_4_1.1])).length p_r63_6_3, .slice A21 y15.Stash.length p22, .slice A25 y15.Buckets.length p26] 53 (0, 0))]), (5, k_r63_6_4), (6, k23), (7, k27)] ∧ Own (Lay.int .i64) 3 A_r63_6_2 p_r63_6_3 (u40 ++ ([y_r63_4_1.1])) k_r63_6_4 := ⟨_, rfl⟩
     refine wp_cutq R64 ?_ ?_
     ·skip
      refine wp_region_tree (.q 0 (.q 1 (.q 3 (.alt 2 (.alt 4 (.alt 5 (.alt 6 (.alt 7 (.alt 8 (.alt 9 .done .stop) .stop) .stop) .stop) .stop) .stop) (.alt 4 (.alt 2 (.alt 5 (.alt 6 (.alt 7 (.alt 8 (.alt 9 .done .stop) .stop) .stop) .stop) .stop) (.alt 5 (.alt 2 (.alt 6 (.alt 7 (.alt 8 (.alt 9 .done .stop) .stop) .stop) .stop) .stop) .stop)) .stop))))) mo (by kernel_rfl) (hs.pick [(1, 1), (3, 3), (6, 6), (7, 7)] rfl) fun _ => ?_
      have hs := hs.drew
      refine tqst (.pointer (some ⟨b29, 1, none⟩)) hk rfl rfl rfl rfl (fun w hs => sf ⟨b29, 1, none⟩ rfl hk rfl rfl rfl fd53_1 rfl fun a hk => qe hk) fun a hk => ?_
      refine tqst (.pointer (some ⟨b29, 1, none⟩)) hk rfl rfl rfl rfl (fun w hs => sf ⟨b29, 1, none⟩ rfl hk rfl rfl rfl fd51_0 rfl fun a hk => qe hk) fun a hk => ?_
      refine tqst (.pointer (some ⟨b6, 0, none⟩)) hk rfl rfl rfl rfl (fun w hs => sm _ rfl hk rfl rfl rfl fun a hk => qe hk) fun a hk => ?_
      refine tsst hk rfl rfl (fun K_r63_2 hK_r63_2 w hF => ?_) ?_
      ·skip
       have hs := hs.f hF
       refine sl rfl hk rfl rfl rfl ag31 (box_cell hs (k := 8) rfl rfl) fun a hk => ?_
       refine se (hs.pick [(1, 1), (3, 3), (6, 6), (7, 7)] rfl) hk (hK_r63_2 _ _ ?_)
       refine tsst hk rfl rfl (fun K_r63_4 hK_r63_4 w hF => ?_) wt_stop
       have hs := hs.f hF
       refine sc rfl en133 hk rfl rfl rfl (spec_l12Reader_next_t _ b6 (⟨y4.list, u35⟩ : S_l12Reader) A7 p8 _ o10.view (hs.hasG (k := 3) rfl) ((hs.hand [(1, 2)] rfl).dpick [(2, 3)] rfl) _ h_r63_4_2) ?_
       rintro _ w ⟨rfl, hG⟩ a hk
       have hs := hs.back [(1, 2)] rfl hG [2] rfl
       refine se (hs.pick [(1, 1), (3, 3), (6, 6), (7, 7)] rfl) hk (hK_r63_4 _ _ ?_)
       refine tsst hk rfl rfl (fun K_r63_5 hK_r63_5 w hF => ?_) wt_stop
       have hs := hs.f hF
       refine sbs (L := (Lay.int .i64)) (pv := [(0, (.int .i64 y_r63_4_1.1))]) (xs := [y_r63_4_1.1]) (ess := [[.int .i64 y_r63_4_1.1]]) 110101 hs rfl hk rfl rfl rfl un31 (bs3_0 y_r63_4_1.1) (AllOwn.cons0 ⟨rfl, rfl⟩ AllOwn.nil) rfl rfl rfl fun b_r63_5_1 k_r63_5_2 w a hk o_r63_5_3 hs => ?_
       refine se (hs.pick [(1, 1), (3, 3), (6, 6), (7, 7)] rfl) hk (hK_r63_5 _ _ ?_)
       refine tsst hk rfl rfl (fun K_r63_6 hK_r63_6 w hF => ?_) wt_stop
       have hs := hs.f hF
       refine sap 5 (xs := u40) (ys := [y_r63_4_1.1]) (flat_flat : ((Lay.int .i64)).Flat) hs rfl o42 o_r63_5_3.view (hs.hasG (k := 110101) rfl) rfl hk rfl rfl rfl rfl rfl rfl un31 mk3 rfl rfl rfl c_r63_6_1 fun A_r63_6_2 p_r63_6_3 k_r63_6_4 w a hk o_r63_6_5 hs => ?_
       refine se (hs.pick [(1, 1), (3, 3), (6, 6), (7, 7)] rfl) hk (hK_r63_6 _ _ ?_)
       refine tsst hk rfl rfl (fun K_r63_7 hK_r63_7 w hF => ?_) wt_stop
       have hs := hs.f hF
       refine sf ⟨b29, 1, none⟩ rfl hk rfl rfl rfl fd53_1 rfl fun a hk => ?_
       refine se (hs.pick [(1, 1), (3, 3), (6, 6), (7, 7)] rfl) hk (hK_r63_7 _ _ ?_)
       refine tsst hk rfl rfl (fun K_r63_8 hK_r63_8 w hF => ?_) wt_stop
       have hs := hs.f hF
       refine sf ⟨b29, 1, none⟩ rfl hk rfl rfl rfl fd51_0 rfl fun a hk => ?_
       refine se (hs.pick [(1, 1), (3, 3), (6, 6), (7, 7)] rfl) hk (hK_r63_8 _ _ ?_)
       refine tsst hk rfl rfl (fun K_r63_9 hK_r63_9 w hF => ?_) wt_stop
       have hs := hs.f hF
       refine ssx (cs' := #[.slice none 0 0, .slice A_r63_6_2 (u40 ++ ([y_r63_4_1.1])).length p_r63_6_3, .slice A21 y15.Stash.length p22, .slice A25 y15.Buckets.length p26]) 8 hs rfl rfl hk rfl rfl rfl rfl sz31 rfl rfl rfl rfl fun w a hk hs => ?_
       refine se (hs.pick [(1, 1), (3, 3), (6, 6), (7, 7)] rfl) hk (hK_r63_9 _ _ ?_)
       refine wtl_nil fun w hF _ => ?_
       have hs := hs.f hF
       show R64 _ _
       rw [hR64]
       exact ⟨A_r63_6_2, p_r63_6_3, k_r63_6_4, (hk.c 2 rfl (hk.c 5 rfl (hk.c 6 rfl (hk.c 7 rfl hk.k)))), (hs.pick [(1, 1), (2, 2), (3, 3), (8, 8), (5, 5), (6, 6), (7, 7)] rfl), o_r63_6_5⟩
      refine tsst hk rfl rfl (fun K_r63_4 hK_r63_4 w hF => ?_) wt_stop
      have hs := hs.f hF
      refine sc rfl en133 hk rfl rfl rfl (spec_l12Reader_next_t _ b6 (⟨y4.list, u35⟩ : S_l12Reader) A7 p8 _ o10.view (hs.hasG (k := 3) rfl) ((hs.hand [(1, 2)] rfl).dpick [(2, 3)] rfl) _ h_r63_4_2) ?_
      rintro _ w ⟨rfl, hG⟩ a hk
      have hs := hs.back [(1, 2)] rfl hG [2] rfl
      refine se (hs.pick [(1, 1), (3, 3), (6, 6), (7, 7)] rfl) hk (hK_r63_4 _ _ ?_)
      refine tsst hk rfl rfl (fun K_r63_2 hK_r63_2 w hF => ?_) ?_
      ·skip
       have hs := hs.f hF
       refine sl rfl hk rfl rfl rfl ag31 (box_cell hs (k := 8) rfl rfl) fun a hk => ?_
       refine se (hs.pick [(1, 1), (3, 3), (6, 6), (7, 7)] rfl) hk (hK_r63_2 _ _ ?_)
       refine tsst hk rfl rfl (fun K_r63_5 hK_r63_5 w hF => ?_) wt_stop
       have hs := hs.f hF
       refine sbs (L := (Lay.int .i64)) (pv := [(0, (.int .i64 y_r63_4_1.1))]) (xs := [y_r63_4_1.1]) (ess := [[.int .i64 y_r63_4_1.1]]) 110101 hs rfl hk rfl rfl rfl un31 (bs3_0 y_r63_4_1.1) (AllOwn.cons0 ⟨rfl, rfl⟩ AllOwn.nil) rfl rfl rfl fun b_r63_5_1 k_r63_5_2 w a hk o_r63_5_3 hs => ?_
       refine se (hs.pick [(1, 1), (3, 3), (6, 6), (7, 7)] rfl) hk (hK_r63_5 _ _ ?_)
       refine tsst hk rfl rfl (fun K_r63_6 hK_r63_6 w hF => ?_) wt_stop
       have hs := hs.f hF
       refine sap 5 (xs := u40) (ys := [y_r63_4_1.1]) (flat_flat : ((Lay.int .i64)).Flat) hs rfl o42 o_r63_5_3.view (hs.hasG (k := 110101) rfl) rfl hk rfl rfl rfl rfl rfl rfl un31 mk3 rfl rfl rfl c_r63_6_1 fun A_r63_6_2 p_r63_6_3 k_r63_6_4 w a hk o_r63_6_5 hs => ?_
       refine se (hs.pick [(1, 1), (3, 3), (6, 6), (7, 7)] rfl) hk (hK_r63_6 _ _ ?_)
       refine tsst hk rfl rfl (fun K_r63_7 hK_r63_7 w hF => ?_) wt_stop
       have hs := hs.f hF
       refine sf ⟨b29, 1, none⟩ rfl hk rfl rfl rfl fd53_1 rfl fun a hk => ?_
       refine se (hs.pick [(1, 1), (3, 3), (6, 6), (7, 7)] rfl) hk (hK_r63_7 _ _ ?_)
       refine tsst hk rfl rfl (fun K_r63_8 hK_r63_8 w hF => ?_) wt_stop
       have hs := hs.f hF
       refine sf ⟨b29, 1, none⟩ rfl hk rfl rfl rfl fd51_0 rfl fun a hk => ?_
       refine se (hs.pick [(1, 1), (3, 3), (6, 6), (7, 7)] rfl) hk (hK_r63_8 _ _ ?_)
       refine tsst hk rfl rfl (fun K_r63_9 hK_r63_9 w hF => ?_) wt_stop
       have hs := hs.f hF
       refine ssx (cs' := #[.slice none 0 0, .slice A_r63_6_2 (u40 ++ ([y_r63_4_1.1])).length p_r63_6_3, .slice A21 y15.Stash.length p22, .slice A25 y15.Buckets.length p26]) 8 hs rfl rfl hk rfl rfl rfl rfl sz31 rfl rfl rfl rfl fun w a hk hs => ?_
       refine se (hs.pick [(1, 1), (3, 3), (6, 6), (7, 7)] rfl) hk (hK_r63_9 _ _ ?_)
       refine wtl_nil fun w hF _ => ?_
       have hs := hs.f hF
       show R64 _ _
       rw [hR64]
       exact ⟨A_r63_6_2, p_r63_6_3, k_r63_6_4, (hk.c 2 rfl (hk.c 5 rfl (hk.c 6 rfl (hk.c 7 rfl hk.k)))), (hs.pick [(1, 1), (2, 2), (3, 3), (8, 8), (5, 5), (6, 6), (7, 7)] rfl), o_r63_6_5⟩
      refine tsst hk rfl rfl (fun K_r63_5 hK_r63_5 w hF => ?_) wt_stop
      have hs := hs.f hF
      refine sbs (L := (Lay.int .i64)) (pv := [(0, (.int .i64 y_r63_4_1.1))]) (xs := [y_r63_4_1.1]) (ess := [[.int .i64 y_r63_4_1.1]]) 110101 hs rfl hk rfl rfl rfl un31 (bs3_0 y_r63_4_1.1) (AllOwn.cons0 ⟨rfl, rfl⟩ AllOwn.nil) rfl rfl rfl fun b_r63_5_1 k_r63_5_2 w a hk o_r63_5_3 hs => ?_
      refine se (hs.pick [(1, 1), (3, 3), (6, 6), (7, 7)] rfl) hk (hK_r63_5 _ _ ?_)
      refine tsst hk rfl rfl (fun K_r63_2 hK_r63_2 w hF => ?_) wt_stop
      have hs := hs.f hF
      refine sl rfl hk rfl rfl rfl ag31 (box_cell hs (k := 8) rfl rfl) fun a hk => ?_
      refine se (hs.pick [(1, 1), (3, 3), (6, 6), (7, 7)] rfl) hk (hK_r63_2 _ _ ?_)
      refine tsst hk rfl rfl (fun K_r63_6 hK_r63_6 w hF => ?_) wt_stop
      have hs := hs.f hF
      refine sap 5 (xs := u40) (ys := [y_r63_4_1.1]) (flat_flat : ((Lay.int .i64)).Flat) hs rfl o42 o_r63_5_3.view (hs.hasG (k := 110101) rfl) rfl hk rfl rfl rfl rfl rfl rfl un31 mk3 rfl rfl rfl c_r63_6_1 fun A_r63_6_2 p_r63_6_3 k_r63_6_4 w a hk o_r63_6_5 hs => ?_
      refine se (hs.pick [(1, 1), (3, 3), (6, 6), (7, 7)] rfl) hk (hK_r63_6 _ _ ?_)
      refine tsst hk rfl rfl (fun K_r63_7 hK_r63_7 w hF => ?_) wt_stop
      have hs := hs.f hF
      refine sf ⟨b29, 1, none⟩ rfl hk rfl rfl rfl fd53_1 rfl fun a hk => ?_
      refine se (hs.pick [(1, 1), (3, 3), (6, 6), (7, 7)] rfl) hk (hK_r63_7 _ _ ?_)
      refine tsst hk rfl rfl (fun K_r63_8 hK_r63_8 w hF => ?_) wt_stop
      have hs := hs.f hF
      refine sf ⟨b29, 1, none⟩ rfl hk rfl rfl rfl fd51_0 rfl fun a hk => ?_
      refine se (hs.pick [(1, 1), (3, 3), (6, 6), (7, 7)] rfl) hk (hK_r63_8 _ _ ?_)
      refine tsst hk rfl rfl (fun K_r63_9 hK_r63_9 w hF => ?_) wt_stop
      have hs := hs.f hF
      refine ssx (cs' := #[.slice none 0 0, .slice A_r63_6_2 (u40 ++ ([y_r63_4_1.1])).length p_r63_6_3, .slice A21 y15.Stash.length p22, .slice A25 y15.Buckets.length p26]) 8 hs rfl rfl hk rfl rfl rfl rfl sz31 rfl rfl rfl rfl fun w a hk hs => ?_
      refine se (hs.pick [(1, 1), (3, 3), (6, 6), (7, 7)] rfl) hk (hK_r63_9 _ _ ?_)
      refine wtl_nil fun w hF _ => ?_
      have hs := hs.f hF
      show R64 _ _
      rw [hR64]
      exact ⟨A_r63_6_2, p_r63_6_3, k_r63_6_4, (hk.c 2 rfl (hk.c 5 rfl (hk.c 6 rfl (hk.c 7 rfl hk.k)))), (hs.pick [(1, 1), (2, 2), (3, 3), (8, 8), (5, 5), (6, 6), (7, 7)] rfl), o_r63_6_5⟩
     ·intro a w hR0
      rw [hR64] at hR0
      obtain ⟨A_r63_6_2, p_r63_6_3, k_r63_6_4, hk, hs, o_r63_6_5⟩ := hR0
      refine hK62 _ _ ?_
      apply wp_region_lit
      refine sm _ rfl hk rfl rfl rfl fun a hk => ?_
      refine sv (.int .i64 (w64 (u34 + 1))) hk rfl rfl rfl fun a hk => ?_
      refine sa _ rfl hk rfl rfl rfl fun a hk => ?_
      show wpList _ _ _ [] _ _
      refine wpList_nil ?_
      obtain rfl := Option.some.inj H
      obtain ⟨m65, hmm65, h58⟩ := h58
      show ∃ n', n' < _ ∧ I55 n' _ _
      refine ⟨m65, hmm65, ?_⟩
      rw [hI55]
      exact ⟨(w64 (u34 + 1)), y_r63_4_1.2, (u40 ++ ([y_r63_4_1.1])), A_r63_6_2, p_r63_6_3, _, h58, (hk.c 2 rfl (hk.c 5 rfl (hk.c 6 rfl (hk.c 7 rfl hk.k)))), (hs.pick [(1, 1), (2, 2), (3, 3), (8, 8), (5, 5), (6, 6), (7, 7)] rfl), o_r63_6_5⟩
    ·have hk := hk.lit 21 c61 rfl
     refine cnd_false hk rfl rfl ?_
     refine wp_exit ?_
     obtain rfl := Option.some.inj H
     show R54 _ _
     rw [hR54]
     exact ⟨u35, u40, A43, p44, _, h58.symm, (hk.c 2 rfl (hk.c 5 rfl (hk.c 6 rfl hk.k))), (hs.pick [(1, 1), (2, 2), (3, 3), (8, 8), (5, 5), (6, 6), (7, 7)] rfl), o42⟩
  ·intro a w hR0
   rw [hR54] at hR0
   obtain ⟨u45, u46, A49, p50, k47, rfl, hk, hs, o48⟩ := hR0
   have H := HL53
   try dsimp only at H
   refine hK30 _ _ ?_
   apply wp_seq_k; intro K66 hK66
   apply wp_seq_k; intro K67 hK67
   apply wp_region_lit
   refine sm _ rfl hk rfl rfl rfl fun a hk => ?_
   obtain ⟨y68, h69, H⟩ := bind_some H
   refine sc rfl en132 hk rfl rfl rfl (spec_l12Reader_count_t _ b6 (⟨y4.list, u45⟩ : S_l12Reader) A7 p8 _ o10.view (hs.hasG (k := 3) rfl) 12 ((hs.hand [(1, 2)] rfl).dpick [(2, 3)] rfl) _ h69) ?_
   rintro _ w ⟨rfl, hG⟩ a hk
   have hs := hs.back [(1, 2)] rfl hG [2] rfl
   refine sa _ rfl hk rfl rfl rfl fun a hk => ?_
   show wpList _ _ _ [] _ _
   refine wpList_nil ?_
   refine hK67 _ _ ?_
   obtain ⟨o89, h90, HL91⟩ := bind_some H
   clear H
   obtain ⟨R92, hR92⟩ : ∃ R : Act → World → Prop, R = fun a w => ∃ (u83 : Int) (u84 : List S_Block) (A87 : Option Addr) (p88 : Nat) (k85 : Chunk), o89 = .out (u83, u84) ∧ Kn [(2, (.pointer (some ⟨b2, 0, none⟩))), (5, (.pointer (some ⟨b6, 0, none⟩))), (6, (.pointer (some ⟨b29, 0, none⟩)))] 107 a ∧ Sat [] w0 w [] [(1, [(b2, .cells #[.slice none 0 0, .slice none 0 0, .slice none 0 0, .slice none 0 0] 53 (0, 0))]), (2, [(b6, .cells #[.slice A7 y4.list.length p8, .int .i64 u83] 181 (0, 0))]), (3, k9), (8, [(b29, .cells #[.slice none 0 0, .slice A49 u46.length p50, .slice A87 u84.length p88, .slice A25 y15.Buckets.length p26] 53 (0, 0))]), (5, k47), (6, k85), (7, k27)] ∧ Own L_Block 81 A87 p88 u84 k85 := ⟨_, rfl⟩
   refine wp_cutq R92 ?_ ?_
   ·refine wp_block ?_
    obtain ⟨fu94, h90⟩ := loopO_some h90
    obtain ⟨I93, hI93⟩ : ∃ I : Nat → Act → World → Prop, I = fun fu a w => ∃ (u72 : Int) (u73 : Int) (u78 : List S_Block) (A81 : Option Addr) (p82 : Nat) (k79 : Chunk), loopN (fun s => spec_l12ToState.s1 y4 s.1 s.2.1 s.2.2) fu (u72, u73, u78) = some o89 ∧ Kn [(2, (.pointer (some ⟨b2, 0, none⟩))), (5, (.pointer (some ⟨b6, 0, none⟩))), (6, (.pointer (some ⟨b29, 0, none⟩))), (8, (.int .i64 u72))] 107 a ∧ Sat [] w0 w [] [(1, [(b2, .cells #[.slice none 0 0, .slice none 0 0, .slice none 0 0, .slice none 0 0] 53 (0, 0))]), (2, [(b6, .cells #[.slice A7 y4.list.length p8, .int .i64 u73] 181 (0, 0))]), (3, k9), (8, [(b29, .cells #[.slice none 0 0, .slice A49 u46.length p50, .slice A81 u78.length p82, .slice A25 y15.Buckets.length p26] 53 (0, 0))]), (5, k47), (6, k79), (7, k27)] ∧ Own L_Block 81 A81 p82 u78 k79 := ⟨_, rfl⟩
    refine wp_loop_ghost I93 fu94 ?_ ?_
    ·rw [hI93]
     exact ⟨y68.1, y68.2, y15.Stash, A21, p22, _, h90, (hk.c 2 rfl (hk.c 5 rfl (hk.c 6 rfl (hk.c 8 rfl hk.k)))), (hs.pick [(1, 1), (2, 2), (3, 3), (8, 8), (5, 5), (6, 6), (7, 7)] rfl), o24⟩
    ·clear h90 hk hs
     intro fu94 a w hI0
     rw [hI93] at hI0
     obtain ⟨u72, u73, u78, A81, p82, k79, hi, hk, hs, o80⟩ := hI0
     obtain ⟨x95, H, h96⟩ := loop_round hi
     try dsimp only at H
     unfold spec_l12ToState.s1 at H
     apply wp_seq_k; intro K97 hK97
     apply wp_seq_k; intro K98 hK98
     apply wp_region_lit
     refine sm _ rfl hk rfl rfl rfl fun a hk => ?_
     refine sv (.bool (decide (u72 > 0))) hk rfl rfl rfl fun a hk => ?_
     show wpList _ _ _ [] _ _
     refine wpList_nil ?_
     refine hK98 _ _ ?_
     rcases cond_some H with ⟨c99, H⟩ | ⟨c99, H⟩
     ·have hk := hk.lit 36 c99 rfl
      refine cnd_true hk rfl rfl ?_
      refine wp_skip ?_
      refine hK97 _ _ ?_
      apply wp_seq_k; intro K100 hK100
      refine wp_block ?_
      apply wp_seq_k; intro K101 hK101
      apply wp_region_lit
      refine sm _ rfl hk rfl rfl rfl fun a hk => ?_
      obtain ⟨y102, h103, H⟩ := bind_some H
      refine sc rfl en133 hk rfl rfl rfl (spec_l12Reader_next_t _ b6 (⟨y4.list, u73⟩ : S_l12Reader) A7 p8 _ o10.view (hs.hasG (k := 3) rfl) ((hs.hand [(1, 2)] rfl).dpick [(2, 3)] rfl) _ h103) ?_
      rintro _ w ⟨rfl, hG⟩ a hk
      have hs := hs.back [(1, 2)] rfl hG [2] rfl
      refine sbd (pv := [(0, (.int .i64 y102.1))]) rfl hk rfl rfl rfl (bd81_5 y102.1) fun a hk => ?_
      refine salx 12 hs rfl hk rfl rfl ze81 rfl fun b104 w a hk hs => ?_
      refine ssw 12 hs rfl rfl hk rfl rfl rfl rfl sz81 (by simp [Value.oneCell']) rfl fun w a hk hs => ?_
      show wpList _ _ _ [] _ _
      refine wpList_nil ?_
      refine hK101 _ _ ?_
      apply wp_seq_k; intro K105 hK105
      apply wp_region_lit
      refine sm _ rfl hk rfl rfl rfl fun a hk => ?_
      obtain ⟨y106, h107, H⟩ := bind_some H
      refine sc rfl en133 hk rfl rfl rfl (spec_l12Reader_next_t _ b6 (⟨y4.list, y102.2⟩ : S_l12Reader) A7 p8 _ o10.view (hs.hasG (k := 3) rfl) ((hs.hand [(1, 2)] rfl).dpick [(2, 3)] rfl) _ h107) ?_
      rintro _ w ⟨rfl, hG⟩ a hk
      have hs := hs.back [(1, 2)] rfl hG [2] rfl
      refine sf ⟨b104, 1, none⟩ rfl hk rfl rfl rfl fd81_1 rfl fun a hk => ?_
      refine ssx (cs' := #[.int .i64 y102.1, .int .i64 y106.1, .int .i64 0]) 12 hs rfl rfl hk rfl rfl rfl rfl sz3 rfl rfl rfl rfl fun w a hk hs => ?_
      show wpList _ _ _ [] _ _
      refine wpList_nil ?_
      refine hK105 _ _ ?_
      apply wp_seq_k; intro K108 hK108
      apply wp_region_lit
      refine sm _ rfl hk rfl rfl rfl fun a hk => ?_
      obtain ⟨y109, h110, H⟩ := bind_some H
      refine sc rfl en133 hk rfl rfl rfl (spec_l12Reader_next_t _ b6 (⟨y4.list, y106.2⟩ : S_l12Reader) A7 p8 _ o10.view (hs.hasG (k := 3) rfl) ((hs.hand [(1, 2)] rfl).dpick [(2, 3)] rfl) _ h110) ?_
      rintro _ w ⟨rfl, hG⟩ a hk
      have hs := hs.back [(1, 2)] rfl hG [2] rfl
      refine sf ⟨b104, 2, none⟩ rfl hk rfl rfl rfl fd81_2 rfl fun a hk => ?_
      refine ssx (cs' := #[.int .i64 y102.1, .int .i64 y106.1, .int .i64 y109.1]) 12 hs rfl rfl hk rfl rfl rfl rfl sz3 rfl rfl rfl rfl fun w a hk hs => ?_
      show wpList _ _ _ [] _ _
      refine wpList_nil ?_
      refine hK108 _ _ ?_
      apply wp_region_lit
      refine sf ⟨b29, 1, none⟩ rfl hk rfl rfl rfl fd53_1 rfl fun a hk => ?_
      refine sf ⟨b29, 2, none⟩ rfl hk rfl rfl rfl fd51_1 rfl fun a hk => ?_
      refine sl rfl hk rfl rfl rfl ag26 (box_cell hs (k := 8) rfl rfl) fun a hk => ?_
      refine sln [.int .i64 y102.1, .int .i64 y106.1, .int .i64 y109.1] rfl hk rfl rfl rfl ag81 sz81 (box_cells hs (k := 12) rfl) fun a hk => ?_
      refine sbs (L := L_Block) (pv := [(0, (.agg #[.int .i64 y102.1, .int .i64 y106.1, .int .i64 y109.1]))]) (xs := [(⟨y102.1, y106.1, y109.1⟩ : S_Block)]) (ess := [[.int .i64 y102.1, .int .i64 y106.1, .int .i64 y109.1]]) 13 hs rfl hk rfl rfl rfl un26 (bs81_6 y102.1 y106.1 y109.1) (AllOwn.cons0 ⟨rfl, rfl⟩ AllOwn.nil) rfl rfl rfl fun b111 k112 w a hk o113 hs => ?_
      rcases ite_some H with ⟨c114, H⟩ | ⟨_, H⟩
      rotate_left
      ·cases H
      refine sap 6 (xs := u78) (ys := [(⟨y102.1, y106.1, y109.1⟩ : S_Block)]) (flat_flat : (L_Block).Flat) hs rfl o80 o113.view (hs.hasG (k := 13) rfl) rfl hk rfl rfl rfl rfl rfl rfl un26 mk81 rfl rfl rfl c114 fun A115 p116 k117 w a hk o118 hs => ?_
      refine sf ⟨b29, 1, none⟩ rfl hk rfl rfl rfl fd53_1 rfl fun a hk => ?_
      refine sf ⟨b29, 2, none⟩ rfl hk rfl rfl rfl fd51_1 rfl fun a hk => ?_
      refine ssx (cs' := #[.slice none 0 0, .slice A49 u46.length p50, .slice A115 (u78 ++ ([(⟨y102.1, y106.1, y109.1⟩ : S_Block)])).length p116, .slice A25 y15.Buckets.length p26]) 8 hs rfl rfl hk rfl rfl rfl rfl sz26 rfl rfl rfl rfl fun w a hk hs => ?_
      show wpList _ _ _ [] _ _
      refine wpList_nil ?_
      refine hK100 _ _ ?_
      apply wp_region_lit
      refine sm _ rfl hk rfl rfl rfl fun a hk => ?_
      refine sv (.int .i64 (w64 (u72 - 1))) hk rfl rfl rfl fun a hk => ?_
      refine sa _ rfl hk rfl rfl rfl fun a hk => ?_
      show wpList _ _ _ [] _ _
      refine wpList_nil ?_
      obtain rfl := Option.some.inj H
      obtain ⟨m119, hmm119, h96⟩ := h96
      show ∃ n', n' < _ ∧ I93 n' _ _
      refine ⟨m119, hmm119, ?_⟩
      rw [hI93]
      exact ⟨(w64 (u72 - 1)), y109.2, (u78 ++ ([(⟨y102.1, y106.1, y109.1⟩ : S_Block)])), A115, p116, _, h96, (hk.c 2 rfl (hk.c 5 rfl (hk.c 6 rfl (hk.c 8 rfl hk.k)))), (hs.pick [(1, 1), (2, 2), (3, 3), (8, 8), (5, 5), (6, 6), (7, 7)] rfl), o118⟩
     ·have hk := hk.lit 36 c99 rfl
      refine cnd_false hk rfl rfl ?_
      refine wp_exit ?_
      obtain rfl := Option.some.inj H
      show R92 _ _
      rw [hR92]
      exact ⟨u73, u78, A81, p82, _, h96.symm, (hk.c 2 rfl (hk.c 5 rfl (hk.c 6 rfl hk.k))), (hs.pick [(1, 1), (2, 2), (3, 3), (8, 8), (5, 5), (6, 6), (7, 7)] rfl), o80⟩
   ·intro a w hR0
    rw [hR92] at hR0
    obtain ⟨u83, u84, A87, p88, k85, rfl, hk, hs, o86⟩ := hR0
    have H := HL91
    try dsimp only at H
    refine hK66 _ _ ?_
    apply wp_seq_k; intro K120 hK120
    apply wp_seq_k; intro K121 hK121
    apply wp_region_lit
    refine sa _ rfl hk rfl rfl rfl fun a hk => ?_
    show wpList _ _ _ [] _ _
    refine wpList_nil ?_
    refine hK121 _ _ ?_
    obtain ⟨o142, h143, HL144⟩ := bind_some H
    clear H
    obtain ⟨R145, hR145⟩ : ∃ R : Act → World → Prop, R = fun a w => ∃ (u136 : Int) (u137 : List Int) (A140 : Option Addr) (p141 : Nat) (k138 : Chunk), o142 = .out (u136, u137) ∧ Kn [(2, (.pointer (some ⟨b2, 0, none⟩))), (5, (.pointer (some ⟨b6, 0, none⟩))), (6, (.pointer (some ⟨b29, 0, none⟩)))] 107 a ∧ Sat [] w0 w [] [(1, [(b2, .cells #[.slice none 0 0, .slice none 0 0, .slice none 0 0, .slice none 0 0] 53 (0, 0))]), (2, [(b6, .cells #[.slice A7 y4.list.length p8, .int .i64 u136] 181 (0, 0))]), (3, k9), (8, [(b29, .cells #[.slice A140 u137.length p141, .slice A49 u46.length p50, .slice A87 u84.length p88, .slice A25 y15.Buckets.length p26] 53 (0, 0))]), (16, k138), (5, k47), (6, k85), (7, k27)] ∧ Own (Lay.int .i64) 3 A140 p141 u137 k138 := ⟨_, rfl⟩
    refine wp_cutq R145 ?_ ?_
    ·refine wp_block ?_
     obtain ⟨fu147, h143⟩ := loopO_some h143
     obtain ⟨I146, hI146⟩ : ∃ I : Nat → Act → World → Prop, I = fun fu a w => ∃ (u124 : Int) (u125 : Int) (u131 : List Int) (A134 : Option Addr) (p135 : Nat) (k132 : Chunk), loopN (fun s => spec_l12ToState.s2 y4 s.1 s.2.1 s.2.2) fu (u124, u125, u131) = some o142 ∧ Kn [(2, (.pointer (some ⟨b2, 0, none⟩))), (5, (.pointer (some ⟨b6, 0, none⟩))), (6, (.pointer (some ⟨b29, 0, none⟩))), (10, (.int .i64 u124))] 107 a ∧ Sat [] w0 w [] [(1, [(b2, .cells #[.slice none 0 0, .slice none 0 0, .slice none 0 0, .slice none 0 0] 53 (0, 0))]), (2, [(b6, .cells #[.slice A7 y4.list.length p8, .int .i64 u125] 181 (0, 0))]), (3, k9), (8, [(b29, .cells #[.slice A134 u131.length p135, .slice A49 u46.length p50, .slice A87 u84.length p88, .slice A25 y15.Buckets.length p26] 53 (0, 0))]), (16, k132), (5, k47), (6, k85), (7, k27)] ∧ Own (Lay.int .i64) 3 A134 p135 u131 k132 := ⟨_, rfl⟩
     refine wp_loop_ghost I146 fu147 ?_ ?_
     ·rw [hI146]
      exact ⟨0, u83, ([] : List Int), none, 0, _, h143, (hk.c 2 rfl (hk.c 5 rfl (hk.c 6 rfl (hk.c 10 rfl hk.k)))), ((hs.addNil 1016).pick [(1, 1), (2, 2), (3, 3), (8, 8), (16, 1016), (5, 5), (6, 6), (7, 7)] rfl), Own.nil _ _⟩
     ·clear h143 hk hs
      intro fu147 a w hI0
      rw [hI146] at hI0
      obtain ⟨u124, u125, u131, A134, p135, k132, hi, hk, hs, o133⟩ := hI0
      obtain ⟨x148, H, h149⟩ := loop_round hi
      try dsimp only at H
      unfold spec_l12ToState.s2 at H
      apply wp_seq_k; intro K150 hK150
      apply wp_seq_k; intro K151 hK151
      apply wp_region_lit
      refine sm _ rfl hk rfl rfl rfl fun a hk => ?_
      refine sv (.bool (decide (u124 < 11))) hk rfl rfl rfl fun a hk => ?_
      show wpList _ _ _ [] _ _
      refine wpList_nil ?_
      refine hK151 _ _ ?_
      rcases cond_some H with ⟨c152, H⟩ | ⟨c152, H⟩
      ·have hk := hk.lit 57 c152 rfl
       refine cnd_true hk rfl rfl ?_
       refine wp_skip ?_
       refine hK150 _ _ ?_
       apply wp_seq_k; intro K153 hK153
       refine wp_block ?_
       refine wp_region_tree (.q 0 (.q 1 (.alt 2 (.alt 3 (.alt 4 (.alt 5 (.alt 6 (.last 7) .stop) .stop) .stop) .stop) .stop))) mo (by kernel_rfl) (hs.pick [(1, 1), (3, 3), (8, 8), (5, 5), (6, 6), (7, 7)] rfl) fun _ => ?_
       have hs := hs.drew
       refine tqst (.pointer (some ⟨b29, 0, none⟩)) hk rfl rfl rfl rfl (fun w hs => sf ⟨b29, 0, none⟩ rfl hk rfl rfl rfl fd53_0 rfl fun a hk => qe hk) fun a hk => ?_
       refine tqst (.slice A134 u131.length p135) hk rfl rfl rfl rfl (fun w hs => sl rfl hk rfl rfl rfl ag31 (box_cell hs (k := 8) rfl rfl) fun a hk => qe hk) fun a hk => ?_
       refine tsst hk rfl rfl (fun K_r154_2 hK_r154_2 w hF => ?_) wt_stop
       have hs := hs.f hF
       refine sm _ rfl hk rfl rfl rfl fun a hk => ?_
       refine se (hs.pick [(1, 1), (3, 3), (8, 8), (5, 5), (6, 6), (7, 7)] rfl) hk (hK_r154_2 _ _ ?_)
       refine tsst hk rfl rfl (fun K_r154_3 hK_r154_3 w hF => ?_) wt_stop
       have hs := hs.f hF
       obtain ⟨y155, h156, H⟩ := bind_some H
       refine sc rfl en133 hk rfl rfl rfl (spec_l12Reader_next_t _ b6 (⟨y4.list, u125⟩ : S_l12Reader) A7 p8 _ o10.view (hs.hasG (k := 3) rfl) ((hs.hand [(1, 2)] rfl).dpick [(2, 3)] rfl) _ h156) ?_
       rintro _ w ⟨rfl, hG⟩ a hk
       have hs := hs.back [(1, 2)] rfl hG [2] rfl
       refine se (hs.pick [(1, 1), (3, 3), (8, 8), (5, 5), (6, 6), (7, 7)] rfl) hk (hK_r154_3 _ _ ?_)
       refine tsst hk rfl rfl (fun K_r154_4 hK_r154_4 w hF => ?_) wt_stop
       have hs := hs.f hF
       refine sbs (L := (Lay.int .i64)) (pv := [(0, (.int .i64 y155.1))]) (xs := [y155.1]) (ess := [[.int .i64 y155.1]]) 18 hs rfl hk rfl rfl rfl un31 (bs3_0 y155.1) (AllOwn.cons0 ⟨rfl, rfl⟩ AllOwn.nil) rfl rfl rfl fun b157 k158 w a hk o159 hs => ?_
       refine se (hs.pick [(1, 1), (3, 3), (8, 8), (5, 5), (6, 6), (7, 7)] rfl) hk (hK_r154_4 _ _ ?_)
       refine tsst hk rfl rfl (fun K_r154_5 hK_r154_5 w hF => ?_) wt_stop
       have hs := hs.f hF
       rcases ite_some H with ⟨c160, H⟩ | ⟨_, H⟩
       rotate_left
       ·cases H
       refine sap 16 (xs := u131) (ys := [y155.1]) (flat_flat : ((Lay.int .i64)).Flat) hs rfl o133 o159.view (hs.hasG (k := 18) rfl) rfl hk rfl rfl rfl rfl rfl rfl un31 mk3 rfl rfl rfl c160 fun A161 p162 k163 w a hk o164 hs => ?_
       refine se (hs.pick [(1, 1), (3, 3), (8, 8), (5, 5), (6, 6), (7, 7)] rfl) hk (hK_r154_5 _ _ ?_)
       refine tsst hk rfl rfl (fun K_r154_6 hK_r154_6 w hF => ?_) wt_stop
       have hs := hs.f hF
       refine sf ⟨b29, 0, none⟩ rfl hk rfl rfl rfl fd53_0 rfl fun a hk => ?_
       refine se (hs.pick [(1, 1), (3, 3), (8, 8), (5, 5), (6, 6), (7, 7)] rfl) hk (hK_r154_6 _ _ ?_)
       refine tlst hk rfl rfl fun K_r154_7 hK_r154_7 w hF => ?_
       have hs := hs.f hF
       refine ssx (cs' := #[.slice A161 (u131 ++ ([y155.1])).length p162, .slice A49 u46.length p50, .slice A87 u84.length p88, .slice A25 y15.Buckets.length p26]) 8 hs rfl rfl hk rfl rfl rfl rfl sz31 rfl rfl rfl rfl fun w a hk hs => ?_
       refine se trivial hk (hK_r154_7 _ _ fun w hF => ?_)
       have hs := hs.f hF
       refine hK153 _ _ ?_
       apply wp_region_lit
       refine sm _ rfl hk rfl rfl rfl fun a hk => ?_
       refine sv (.int .i64 (w64 (u124 + 1))) hk rfl rfl rfl fun a hk => ?_
       refine sa _ rfl hk rfl rfl rfl fun a hk => ?_
       show wpList _ _ _ [] _ _
       refine wpList_nil ?_
       obtain rfl := Option.some.inj H
       obtain ⟨m165, hmm165, h149⟩ := h149
       show ∃ n', n' < _ ∧ I146 n' _ _
       refine ⟨m165, hmm165, ?_⟩
       rw [hI146]
       exact ⟨(w64 (u124 + 1)), y155.2, (u131 ++ ([y155.1])), A161, p162, _, h149, (hk.c 2 rfl (hk.c 5 rfl (hk.c 6 rfl (hk.c 10 rfl hk.k)))), (hs.pick [(1, 1), (2, 2), (3, 3), (8, 8), (16, 16), (5, 5), (6, 6), (7, 7)] rfl), o164⟩
      ·have hk := hk.lit 57 c152 rfl
       refine cnd_false hk rfl rfl ?_
       refine wp_exit ?_
       obtain rfl := Option.some.inj H
       show R145 _ _
       rw [hR145]
       exact ⟨u125, u131, A134, p135, _, h149.symm, (hk.c 2 rfl (hk.c 5 rfl (hk.c 6 rfl hk.k))), (hs.pick [(1, 1), (2, 2), (3, 3), (8, 8), (16, 16), (5, 5), (6, 6), (7, 7)] rfl), o133⟩
    ·intro a w hR0
     rw [hR145] at hR0
     obtain ⟨u136, u137, A140, p141, k138, rfl, hk, hs, o139⟩ := hR0
     have H := HL144
     try dsimp only at H
     refine hK120 _ _ ?_
     apply wp_seq_k; intro K166 hK166
     apply wp_region_lit
     refine sbs0 19 L_impl_Result hs rfl hk rfl rfl un55 sz105 fun b167 k168 w a hk o169 hs => ?_
     refine sa _ rfl hk rfl rfl rfl fun a hk => ?_
     show wpList _ _ _ [] _ _
     refine wpList_nil ?_
     refine hK166 _ _ ?_
     apply wp_seq_k; intro K170 hK170
     apply wp_seq_k; intro K171 hK171
     apply wp_region_lit
     refine sm _ rfl hk rfl rfl rfl fun a hk => ?_
     obtain ⟨y172, h173, H⟩ := bind_some H
     refine sc rfl en132 hk rfl rfl rfl (spec_l12Reader_count_t _ b6 (⟨y4.list, u136⟩ : S_l12Reader) A7 p8 _ o10.view (hs.hasG (k := 3) rfl) 2 ((hs.hand [(1, 2)] rfl).dpick [(2, 3)] rfl) _ h173) ?_
     rintro _ w ⟨rfl, hG⟩ a hk
     have hs := hs.back [(1, 2)] rfl hG [2] rfl
     refine sa _ rfl hk rfl rfl rfl fun a hk => ?_
     show wpList _ _ _ [] _ _
     refine wpList_nil ?_
     refine hK171 _ _ ?_
     obtain ⟨o193, h194, HL195⟩ := bind_some H
     clear H
     obtain ⟨R196, hR196⟩ : ∃ R : Act → World → Prop, R = fun a w => ∃ (u187 : List S_Result) (u192 : Int) (A190 : Option Addr) (p191 : Nat) (k188 : Chunk), o193 = .out (u187, u192) ∧ Kn [(2, (.pointer (some ⟨b2, 0, none⟩))), (5, (.pointer (some ⟨b6, 0, none⟩))), (6, (.pointer (some ⟨b29, 0, none⟩))), (11, (.slice A190 u187.length p191))] 107 a ∧ Sat [] w0 w [] [(19, k188), (1, [(b2, .cells #[.slice none 0 0, .slice none 0 0, .slice none 0 0, .slice none 0 0] 53 (0, 0))]), (2, [(b6, .cells #[.slice A7 y4.list.length p8, .int .i64 u192] 181 (0, 0))]), (3, k9), (8, [(b29, .cells #[.slice A140 u137.length p141, .slice A49 u46.length p50, .slice A87 u84.length p88, .slice A25 y15.Buckets.length p26] 53 (0, 0))]), (16, k138), (5, k47), (6, k85), (7, k27)] ∧ Own L_impl_Result 105 A190 p191 u187 k188 := ⟨_, rfl⟩
     refine wp_cutq R196 ?_ ?_
     ·refine wp_block ?_
      obtain ⟨fu198, h194⟩ := loopO_some h194
      obtain ⟨I197, hI197⟩ : ∃ I : Nat → Act → World → Prop, I = fun fu a w => ∃ (u182 : List S_Result) (u180 : Int) (u181 : Int) (A185 : Option Addr) (p186 : Nat) (k183 : Chunk), loopN (fun s => spec_l12ToState.s3 y4 s.1 s.2.1 s.2.2) fu (u182, u180, u181) = some o193 ∧ Kn [(2, (.pointer (some ⟨b2, 0, none⟩))), (5, (.pointer (some ⟨b6, 0, none⟩))), (6, (.pointer (some ⟨b29, 0, none⟩))), (11, (.slice A185 u182.length p186)), (12, (.int .i64 u180))] 107 a ∧ Sat [] w0 w [] [(19, k183), (1, [(b2, .cells #[.slice none 0 0, .slice none 0 0, .slice none 0 0, .slice none 0 0] 53 (0, 0))]), (2, [(b6, .cells #[.slice A7 y4.list.length p8, .int .i64 u181] 181 (0, 0))]), (3, k9), (8, [(b29, .cells #[.slice A140 u137.length p141, .slice A49 u46.length p50, .slice A87 u84.length p88, .slice A25 y15.Buckets.length p26] 53 (0, 0))]), (16, k138), (5, k47), (6, k85), (7, k27)] ∧ Own L_impl_Result 105 A185 p186 u182 k183 := ⟨_, rfl⟩
      refine wp_loop_ghost I197 fu198 ?_ ?_
      ·rw [hI197]
       exact ⟨([] : List S_Result), y172.1, y172.2, (some ⟨b167, 0, none⟩), 0, _, h194, (hk.c 2 rfl (hk.c 5 rfl (hk.c 6 rfl (hk.c 11 rfl (hk.c 12 rfl hk.k))))), (hs.pick [(19, 19), (1, 1), (2, 2), (3, 3), (8, 8), (16, 16), (5, 5), (6, 6), (7, 7)] rfl), o169⟩
      ·clear h194 hk hs
       intro fu198 a w hI0
       rw [hI197] at hI0
       obtain ⟨u182, u180, u181, A185, p186, k183, hi, hk, hs, o184⟩ := hI0
       obtain ⟨x199, H, h200⟩ := loop_round hi
       try dsimp only at H
       unfold spec_l12ToState.s3 at H
       apply wp_seq_k; intro K201 hK201
       apply wp_seq_k; intro K202 hK202
       apply wp_region_lit
       refine sm _ rfl hk rfl rfl rfl fun a hk => ?_
       refine sv (.bool (decide (u180 > 0))) hk rfl rfl rfl fun a hk => ?_
       show wpList _ _ _ [] _ _
       refine wpList_nil ?_
       refine hK202 _ _ ?_
       rcases cond_some H with ⟨c203, H⟩ | ⟨c203, H⟩
       ·have hk := hk.lit 71 c203 rfl
        refine cnd_true hk rfl rfl ?_
        refine wp_skip ?_
        refine hK201 _ _ ?_
        apply wp_seq_k; intro K204 hK204
        refine wp_block ?_
        apply wp_seq_k; intro K205 hK205
        apply wp_region_lit
        refine sm _ rfl hk rfl rfl rfl fun a hk => ?_
        obtain ⟨y206, h207, H⟩ := bind_some H
        refine sc rfl en133 hk rfl rfl rfl (spec_l12Reader_next_t _ b6 (⟨y4.list, u181⟩ : S_l12Reader) A7 p8 _ o10.view (hs.hasG (k := 3) rfl) ((hs.hand [(1, 2)] rfl).dpick [(2, 3)] rfl) _ h207) ?_
        rintro _ w ⟨rfl, hG⟩ a hk
        have hs := hs.back [(1, 2)] rfl hG [2] rfl
        refine sbs0 21 (Lay.int .i64) hs rfl hk rfl rfl un31 sz3 fun b208 k209 w a hk o210 hs => ?_
        refine sbd (pv := [(0, (.int .i64 y206.1)), (1, (.slice (some ⟨b208, 0, none⟩) 0 0))]) rfl hk rfl rfl rfl (bd105_7 y206.1 (some ⟨b208, 0, none⟩) 0 0) fun a hk => ?_
        refine salx 22 hs rfl hk rfl rfl ze105 rfl fun b211 w a hk hs => ?_
        refine ssw 22 hs rfl rfl hk rfl rfl rfl rfl sz105 (by simp [Value.oneCell']) rfl fun w a hk hs => ?_
        show wpList _ _ _ [] _ _
        refine wpList_nil ?_
        refine hK205 _ _ ?_
        apply wp_seq_k; intro K212 hK212
        apply wp_seq_k; intro K213 hK213
        apply wp_region_lit
        refine sm _ rfl hk rfl rfl rfl fun a hk => ?_
        obtain ⟨y214, h215, H⟩ := bind_some H
        refine sc rfl en132 hk rfl rfl rfl (spec_l12Reader_count_t _ b6 (⟨y4.list, y206.2⟩ : S_l12Reader) A7 p8 _ o10.view (hs.hasG (k := 3) rfl) 32 ((hs.hand [(1, 2)] rfl).dpick [(2, 3)] rfl) _ h215) ?_
        rintro _ w ⟨rfl, hG⟩ a hk
        have hs := hs.back [(1, 2)] rfl hG [2] rfl
        refine sa _ rfl hk rfl rfl rfl fun a hk => ?_
        show wpList _ _ _ [] _ _
        refine wpList_nil ?_
        refine hK213 _ _ ?_
        obtain ⟨o235, h236, HL237⟩ := bind_some H
        clear H
        obtain ⟨R238, hR238⟩ : ∃ R : Act → World → Prop, R = fun a w => ∃ (u229 : Int) (u230 : List Int) (A233 : Option Addr) (p234 : Nat) (k231 : Chunk), o235 = .out (u229, u230) ∧ Kn [(2, (.pointer (some ⟨b2, 0, none⟩))), (5, (.pointer (some ⟨b6, 0, none⟩))), (6, (.pointer (some ⟨b29, 0, none⟩))), (11, (.slice A185 u182.length p186)), (12, (.int .i64 u180)), (13, (.pointer (some ⟨b211, 0, none⟩)))] 107 a ∧ Sat [] w0 w [] [(19, k183), (1, [(b2, .cells #[.slice none 0 0, .slice none 0 0, .slice none 0 0, .slice none 0 0] 53 (0, 0))]), (2, [(b6, .cells #[.slice A7 y4.list.length p8, .int .i64 u229] 181 (0, 0))]), (3, k9), (8, [(b29, .cells #[.slice A140 u137.length p141, .slice A49 u46.length p50, .slice A87 u84.length p88, .slice A25 y15.Buckets.length p26] 53 (0, 0))]), (16, k138), (5, k47), (6, k85), (7, k27), (22, [(b211, .cells #[.int .i64 y206.1, .slice A233 u230.length p234] 105 (0, 0))]), (21, k231)] ∧ Own (Lay.int .i64) 3 A233 p234 u230 k231 := ⟨_, rfl⟩
        refine wp_cutq R238 ?_ ?_
        ·refine wp_block ?_
         obtain ⟨fu240, h236⟩ := loopO_some h236
         obtain ⟨I239, hI239⟩ : ∃ I : Nat → Act → World → Prop, I = fun fu a w => ∃ (u218 : Int) (u219 : Int) (u224 : List Int) (A227 : Option Addr) (p228 : Nat) (k225 : Chunk), loopN (fun s => spec_l12ToState.s4 y4 s.1 s.2.1 s.2.2) fu (u218, u219, u224) = some o235 ∧ Kn [(2, (.pointer (some ⟨b2, 0, none⟩))), (5, (.pointer (some ⟨b6, 0, none⟩))), (6, (.pointer (some ⟨b29, 0, none⟩))), (11, (.slice A185 u182.length p186)), (12, (.int .i64 u180)), (13, (.pointer (some ⟨b211, 0, none⟩))), (14, (.int .i64 u218))] 107 a ∧ Sat [] w0 w [] [(19, k183), (1, [(b2, .cells #[.slice none 0 0, .slice none 0 0, .slice none 0 0, .slice none 0 0] 53 (0, 0))]), (2, [(b6, .cells #[.slice A7 y4.list.length p8, .int .i64 u219] 181 (0, 0))]), (3, k9), (8, [(b29, .cells #[.slice A140 u137.length p141, .slice A49 u46.length p50, .slice A87 u84.length p88, .slice A25 y15.Buckets.length p26] 53 (0, 0))]), (16, k138), (5, k47), (6, k85), (7, k27), (22, [(b211, .cells #[.int .i64 y206.1, .slice A227 u224.length p228] 105 (0, 0))]), (21, k225)] ∧ Own (Lay.int .i64) 3 A227 p228 u224 k225 := ⟨_, rfl⟩
         refine wp_loop_ghost I239 fu240 ?_ ?_
         ·rw [hI239]
          exact ⟨y214.1, y214.2, ([] : List Int), (some ⟨b208, 0, none⟩), 0, _, h236, (hk.c 2 rfl (hk.c 5 rfl (hk.c 6 rfl (hk.c 11 rfl (hk.c 12 rfl (hk.c 13 rfl (hk.c 14 rfl hk.k))))))), (hs.pick [(19, 19), (1, 1), (2, 2), (3, 3), (8, 8), (16, 16), (5, 5), (6, 6), (7, 7), (22, 22), (21, 21)] rfl), o210⟩
         ·clear h236 hk hs
          intro fu240 a w hI0
          rw [hI239] at hI0
          obtain ⟨u218, u219, u224, A227, p228, k225, hi, hk, hs, o226⟩ := hI0
          obtain ⟨x241, H, h242⟩ := loop_round hi
          try dsimp only at H
          unfold spec_l12ToState.s4 at H
          apply wp_seq_k; intro K243 hK243
          apply wp_seq_k; intro K244 hK244
          apply wp_region_lit
          refine sm _ rfl hk rfl rfl rfl fun a hk => ?_
          refine sv (.bool (decide (u218 > 0))) hk rfl rfl rfl fun a hk => ?_
          show wpList _ _ _ [] _ _
          refine wpList_nil ?_
          refine hK244 _ _ ?_
          rcases cond_some H with ⟨c245, H⟩ | ⟨c245, H⟩
          ·have hk := hk.lit 81 c245 rfl
           refine cnd_true hk rfl rfl ?_
           refine wp_skip ?_
           refine hK243 _ _ ?_
           apply wp_seq_k; intro K246 hK246
           refine wp_block ?_
           refine wp_region_tree (.q 0 (.q 1 (.alt 2 (.alt 3 (.alt 4 (.alt 5 (.alt 6 (.last 7) .stop) .stop) .stop) .stop) .stop))) mo (by kernel_rfl) (hs.pick [(19, 19), (1, 1), (3, 3), (8, 8), (16, 16), (5, 5), (6, 6), (7, 7), (22, 22)] rfl) fun _ => ?_
           have hs := hs.drew
           refine tqst (.pointer (some ⟨b211, 1, none⟩)) hk rfl rfl rfl rfl (fun w hs => sf ⟨b211, 1, none⟩ rfl hk rfl rfl rfl fd105_1 rfl fun a hk => qe hk) fun a hk => ?_
           refine tqst (.slice A227 u224.length p228) hk rfl rfl rfl rfl (fun w hs => sl rfl hk rfl rfl rfl ag31 (box_cell hs (k := 22) rfl rfl) fun a hk => qe hk) fun a hk => ?_
           refine tsst hk rfl rfl (fun K_r247_2 hK_r247_2 w hF => ?_) wt_stop
           have hs := hs.f hF
           refine sm _ rfl hk rfl rfl rfl fun a hk => ?_
           refine se (hs.pick [(19, 19), (1, 1), (3, 3), (8, 8), (16, 16), (5, 5), (6, 6), (7, 7), (22, 22)] rfl) hk (hK_r247_2 _ _ ?_)
           refine tsst hk rfl rfl (fun K_r247_3 hK_r247_3 w hF => ?_) wt_stop
           have hs := hs.f hF
           obtain ⟨y248, h249, H⟩ := bind_some H
           refine sc rfl en133 hk rfl rfl rfl (spec_l12Reader_next_t _ b6 (⟨y4.list, u219⟩ : S_l12Reader) A7 p8 _ o10.view (hs.hasG (k := 3) rfl) ((hs.hand [(1, 2)] rfl).dpick [(2, 3)] rfl) _ h249) ?_
           rintro _ w ⟨rfl, hG⟩ a hk
           have hs := hs.back [(1, 2)] rfl hG [2] rfl
           refine se (hs.pick [(19, 19), (1, 1), (3, 3), (8, 8), (16, 16), (5, 5), (6, 6), (7, 7), (22, 22)] rfl) hk (hK_r247_3 _ _ ?_)
           refine tsst hk rfl rfl (fun K_r247_4 hK_r247_4 w hF => ?_) wt_stop
           have hs := hs.f hF
           refine sbs (L := (Lay.int .i64)) (pv := [(0, (.int .i64 y248.1))]) (xs := [y248.1]) (ess := [[.int .i64 y248.1]]) 25 hs rfl hk rfl rfl rfl un31 (bs3_0 y248.1) (AllOwn.cons0 ⟨rfl, rfl⟩ AllOwn.nil) rfl rfl rfl fun b250 k251 w a hk o252 hs => ?_
           refine se (hs.pick [(19, 19), (1, 1), (3, 3), (8, 8), (16, 16), (5, 5), (6, 6), (7, 7), (22, 22)] rfl) hk (hK_r247_4 _ _ ?_)
           refine tsst hk rfl rfl (fun K_r247_5 hK_r247_5 w hF => ?_) wt_stop
           have hs := hs.f hF
           rcases ite_some H with ⟨c253, H⟩ | ⟨_, H⟩
           rotate_left
           ·cases H
           refine sap 21 (xs := u224) (ys := [y248.1]) (flat_flat : ((Lay.int .i64)).Flat) hs rfl o226 o252.view (hs.hasG (k := 25) rfl) rfl hk rfl rfl rfl rfl rfl rfl un31 mk3 rfl rfl rfl c253 fun A254 p255 k256 w a hk o257 hs => ?_
           refine se (hs.pick [(19, 19), (1, 1), (3, 3), (8, 8), (16, 16), (5, 5), (6, 6), (7, 7), (22, 22)] rfl) hk (hK_r247_5 _ _ ?_)
           refine tsst hk rfl rfl (fun K_r247_6 hK_r247_6 w hF => ?_) wt_stop
           have hs := hs.f hF
           refine sf ⟨b211, 1, none⟩ rfl hk rfl rfl rfl fd105_1 rfl fun a hk => ?_
           refine se (hs.pick [(19, 19), (1, 1), (3, 3), (8, 8), (16, 16), (5, 5), (6, 6), (7, 7), (22, 22)] rfl) hk (hK_r247_6 _ _ ?_)
           refine tlst hk rfl rfl fun K_r247_7 hK_r247_7 w hF => ?_
           have hs := hs.f hF
           refine ssx (cs' := #[.int .i64 y206.1, .slice A254 (u224 ++ ([y248.1])).length p255]) 22 hs rfl rfl hk rfl rfl rfl rfl sz31 rfl rfl rfl rfl fun w a hk hs => ?_
           refine se trivial hk (hK_r247_7 _ _ fun w hF => ?_)
           have hs := hs.f hF
           refine hK246 _ _ ?_
           apply wp_region_lit
           refine sm _ rfl hk rfl rfl rfl fun a hk => ?_
           refine sv (.int .i64 (w64 (u218 - 1))) hk rfl rfl rfl fun a hk => ?_
           refine sa _ rfl hk rfl rfl rfl fun a hk => ?_
           show wpList _ _ _ [] _ _
           refine wpList_nil ?_
           obtain rfl := Option.some.inj H
           obtain ⟨m258, hmm258, h242⟩ := h242
           show ∃ n', n' < _ ∧ I239 n' _ _
           refine ⟨m258, hmm258, ?_⟩
           rw [hI239]
           exact ⟨(w64 (u218 - 1)), y248.2, (u224 ++ ([y248.1])), A254, p255, _, h242, (hk.c 2 rfl (hk.c 5 rfl (hk.c 6 rfl (hk.c 11 rfl (hk.c 12 rfl (hk.c 13 rfl (hk.c 14 rfl hk.k))))))), (hs.pick [(19, 19), (1, 1), (2, 2), (3, 3), (8, 8), (16, 16), (5, 5), (6, 6), (7, 7), (22, 22), (21, 21)] rfl), o257⟩
          ·have hk := hk.lit 81 c245 rfl
           refine cnd_false hk rfl rfl ?_
           refine wp_exit ?_
           obtain rfl := Option.some.inj H
           show R238 _ _
           rw [hR238]
           exact ⟨u219, u224, A227, p228, _, h242.symm, (hk.c 2 rfl (hk.c 5 rfl (hk.c 6 rfl (hk.c 11 rfl (hk.c 12 rfl (hk.c 13 rfl hk.k)))))), (hs.pick [(19, 19), (1, 1), (2, 2), (3, 3), (8, 8), (16, 16), (5, 5), (6, 6), (7, 7), (22, 22), (21, 21)] rfl), o226⟩
        ·intro a w hR0
         rw [hR238] at hR0
         obtain ⟨u229, u230, A233, p234, k231, rfl, hk, hs, o232⟩ := hR0
         have H := HL237
         try dsimp only at H
         refine hK212 _ _ ?_
         apply wp_region_lit
         refine sm _ rfl hk rfl rfl rfl fun a hk => ?_
         refine sln [.int .i64 y206.1, .slice A233 u230.length p234] rfl hk rfl rfl rfl ag105 sz105 (box_cells hs (k := 22) rfl) fun a hk => ?_
         refine sbs1 (L := L_impl_Result) (pv := [(0, (.agg #[.int .i64 y206.1, .slice A233 u230.length p234]))]) (xs := [(⟨y206.1, u230⟩ : S_Result)]) (ess := [[.int .i64 y206.1, .slice A233 u230.length p234]]) 26 21 hs rfl rfl hk rfl rfl rfl un55 (bs105_8 y206.1 A233 u230.length p234) (AllOwn.one ⟨[.int .i64 y206.1], [.slice A233 u230.length p234], [], _, rfl, rfl, ⟨rfl, rfl⟩, ⟨_, rfl, o232.toV⟩⟩) rfl rfl rfl fun b259 k260 w a hk o261 hs => ?_
         rcases ite_some H with ⟨c262, H⟩ | ⟨_, H⟩
         rotate_left
         ·cases H
         refine sapm 19 26 (xs := u182) (ys := [(⟨y206.1, u230⟩ : S_Result)]) hs rfl rfl o184 o261 rfl hk rfl rfl rfl rfl rfl rfl un55 mk105 rfl rfl rfl c262 fun A263 p264 k265 w a hk o266 hs => ?_
         refine sa _ rfl hk rfl rfl rfl fun a hk => ?_
         show wpList _ _ _ [] _ _
         refine wpList_nil ?_
         refine hK204 _ _ ?_
         apply wp_region_lit
         refine sm _ rfl hk rfl rfl rfl fun a hk => ?_
         refine sv (.int .i64 (w64 (u180 - 1))) hk rfl rfl rfl fun a hk => ?_
         refine sa _ rfl hk rfl rfl rfl fun a hk => ?_
         show wpList _ _ _ [] _ _
         refine wpList_nil ?_
         obtain rfl := Option.some.inj H
         obtain ⟨m267, hmm267, h200⟩ := h200
         show ∃ n', n' < _ ∧ I197 n' _ _
         refine ⟨m267, hmm267, ?_⟩
         rw [hI197]
         exact ⟨(u182 ++ ([(⟨y206.1, u230⟩ : S_Result)])), (w64 (u180 - 1)), u229, A263, p264, _, h200, (hk.c 2 rfl (hk.c 5 rfl (hk.c 6 rfl (hk.c 11 rfl (hk.c 12 rfl hk.k))))), (hs.pick [(19, 19), (1, 1), (2, 2), (3, 3), (8, 8), (16, 16), (5, 5), (6, 6), (7, 7)] rfl), o266⟩
       ·have hk := hk.lit 71 c203 rfl
        refine cnd_false hk rfl rfl ?_
        refine wp_exit ?_
        obtain rfl := Option.some.inj H
        show R196 _ _
        rw [hR196]
        exact ⟨u182, u181, A185, p186, _, h200.symm, (hk.c 2 rfl (hk.c 5 rfl (hk.c 6 rfl (hk.c 11 rfl hk.k)))), (hs.pick [(19, 19), (1, 1), (2, 2), (3, 3), (8, 8), (16, 16), (5, 5), (6, 6), (7, 7)] rfl), o184⟩
     ·intro a w hR0
      rw [hR196] at hR0
      obtain ⟨u187, u192, A190, p191, k188, rfl, hk, hs, o189⟩ := hR0
      have H := HL195
      try dsimp only at H
      refine hK170 _ _ ?_
      apply wp_seq_k; intro K268 hK268
      obtain ⟨o296, h297, HL298⟩ := bind_some H
      clear H
      obtain ⟨R299, hR299⟩ : ∃ R : Act → World → Prop, R = fun a w => ∃ (u270 : List S_Result) (u275 : Bool) (u276 : List Int) (u281 : List Int) (u286 : List S_Block) (u291 : List (List S_Block)) (A273 : Option Addr) (p274 : Nat) (k271 : Chunk) (A279 : Option Addr) (p280 : Nat) (k277 : Chunk) (A284 : Option Addr) (p285 : Nat) (k282 : Chunk) (A289 : Option Addr) (p290 : Nat) (k287 : Chunk) (A294 : Option Addr) (p295 : Nat) (k292 : Chunk), (u270, u275, u276, u281, u286, u291) = o296 ∧ Kn [(2, (.pointer (some ⟨b2, 0, none⟩))), (3, (.slice A273 u270.length p274)), (4, (.bool u275))] 107 a ∧ Sat [] w0 w [] [(19, k271), (1, [(b2, .cells #[.slice A279 u276.length p280, .slice A284 u281.length p285, .slice A289 u286.length p290, .slice A294 u291.length p295] 53 (0, 0))]), (16, k277), (5, k282), (6, k287), (7, k292)] ∧ Own L_impl_Result 105 A273 p274 u270 k271 ∧ Own (Lay.int .i64) 3 A279 p280 u276 k277 ∧ Own (Lay.int .i64) 3 A284 p285 u281 k282 ∧ Own L_Block 81 A289 p290 u286 k287 ∧ Own (Lay.sl L_Block 81) 26 A294 p295 u291 k292 := ⟨_, rfl⟩
      refine wp_cutq R299 ?_ ?_
      ·have H := h297
       refine wp_region_mix [(0, true), (1, true), (2, true), (3, false), (4, false), (5, false), (6, false), (7, false), (8, false), (9, false), (10, false), (11, true), (12, false), (13, false), (14, false)] mo (by kernel_rfl) (hs.pick [(19, 19), (3, 3), (8, 8), (16, 16), (5, 5), (6, 6), (7, 7)] rfl) fun _ => ?_
       have hs := hs.drew
       refine qst (.agg #[.slice A140 u137.length p141, .slice A49 u46.length p50, .slice A87 u84.length p88, .slice A25 y15.Buckets.length p26]) hk rfl rfl rfl rfl (fun w hs => sln [.slice A140 u137.length p141, .slice A49 u46.length p50, .slice A87 u84.length p88, .slice A25 y15.Buckets.length p26] rfl hk rfl rfl rfl ag53 sz53 (box_cells hs (k := 8) rfl) fun a hk => qe hk) fun a hk => ?_
       refine qst (.slice A190 u187.length p191) hk rfl rfl rfl rfl (fun w hs => sm _ rfl hk rfl rfl rfl fun a hk => qe hk) fun a hk => ?_
       refine qst (.pointer (some ⟨b6, 0, none⟩)) hk rfl rfl rfl rfl (fun w hs => sm _ rfl hk rfl rfl rfl fun a hk => qe hk) fun a hk => ?_
       refine sst hk rfl rfl fun K300 hK300 w hF => ?_
       have hs := hs.f hF
       obtain ⟨y301, h302, H⟩ := bind_some H
       refine sc rfl en134 hk rfl rfl rfl (spec_l12Reader_rest_t _ b6 (⟨y4.list, u192⟩ : S_l12Reader) A7 p8 _ o10.view (hs.hasG (k := 3) rfl) ((hs.hand [(1, 2)] rfl).dpick [(2, 3)] rfl) _ h302) ?_
       rintro _ w ⟨rfl, hG⟩ a hk
       have hs := hs.back [(1, 2)] rfl hG [2] rfl
       refine se (hs.pick [(19, 19), (3, 3), (8, 8), (16, 16), (5, 5), (6, 6), (7, 7)] rfl) hk (hK300 _ _ ?_)
       refine sst hk rfl rfl fun K303 hK303 w hF => ?_
       have hs := hs.f hF
       refine sm _ rfl hk rfl rfl rfl fun a hk => ?_
       refine se (hs.pick [(19, 19), (3, 3), (8, 8), (16, 16), (5, 5), (6, 6), (7, 7)] rfl) hk (hK303 _ _ ?_)
       rcases cond_some H with ⟨c304, H⟩ | ⟨c304, H⟩
       ·have hk := hk.lit 99 c304 rfl
        refine sst hk rfl rfl fun K305 hK305 w hF => ?_
        have hs := hs.f hF
        refine sln [.slice A140 u137.length p141, .slice A49 u46.length p50, .slice A87 u84.length p88, .slice A25 y15.Buckets.length p26] rfl hk rfl rfl rfl ag53 sz53 (box_cells hs (k := 8) rfl) fun a hk => ?_
        refine se (hs.pick [(19, 19), (3, 3), (8, 8), (16, 16), (5, 5), (6, 6), (7, 7)] rfl) hk (hK305 _ _ ?_)
        refine sst hk rfl rfl fun K306 hK306 w hF => ?_
        have hs := hs.f hF
        obtain ⟨y307, h308, H⟩ := bind_some H
        refine sc rfl en31 hk rfl rfl rfl (spec_EncOK_t _ (⟨u137, (⟨u46, u84, y15.Buckets⟩ : S_Oram)⟩ : S_Enc) A140 p141 _ o139.view (hs.hasG (k := 16) rfl) A49 p50 _ o48.view (hs.hasG (k := 5) rfl) A87 p88 _ o86.view (hs.hasG (k := 6) rfl) A25 p26 _ o28.view (hs.hasG (k := 7) rfl) _ h308) ?_
        rintro _ w ⟨rfl, hG⟩ a hk
        have hs := hs.call0 hG
        refine se (hs.pick [(19, 19), (3, 3), (8, 8), (16, 16), (5, 5), (6, 6), (7, 7)] rfl) hk (hK306 _ _ ?_)
        refine sst hk rfl rfl fun K309 hK309 w hF => ?_
        have hs := hs.f hF
        refine sv (.bool y307) hk rfl rfl rfl fun a hk => ?_
        refine se (hs.pick [(19, 19), (3, 3), (8, 8), (16, 16), (5, 5), (6, 6), (7, 7)] rfl) hk (hK309 _ _ ?_)
        refine sst hk rfl rfl fun K310 hK310 w hF => ?_
        have hs := hs.f hF
        refine sm _ rfl hk rfl rfl rfl fun a hk => ?_
        refine se (hs.pick [(19, 19), (3, 3), (8, 8), (16, 16), (5, 5), (6, 6), (7, 7)] rfl) hk (hK310 _ _ ?_)
        rcases cond_some H with ⟨c311, H⟩ | ⟨c311, H⟩
        ·have hk := hk.lit 103 c311 rfl
         refine sst hk rfl rfl fun K312 hK312 w hF => ?_
         have hs := hs.f hF
         refine sm _ rfl hk rfl rfl rfl fun a hk => ?_
         refine se (hs.pick [(19, 19), (3, 3), (8, 8), (16, 16), (5, 5), (6, 6), (7, 7)] rfl) hk (hK312 _ _ ?_)
         refine sst hk rfl rfl fun K313 hK313 w hF => ?_
         have hs := hs.f hF
         obtain ⟨y314, h315, H⟩ := bind_some H
         refine sc rfl en72 hk rfl rfl rfl (spec_l12Results_t _ A190 p191 u187 _ o189.view (hs.hasG (k := 19) rfl) _ h315) ?_
         rintro _ w ⟨rfl, hG⟩ a hk
         have hs := hs.call0 hG
         refine se (hs.pick [(19, 19), (3, 3), (8, 8), (16, 16), (5, 5), (6, 6), (7, 7)] rfl) hk (hK313 _ _ ?_)
         refine qst (.bool y314) hk rfl rfl rfl rfl (fun w hs => sv (.bool y314) hk rfl rfl rfl fun a hk => qe hk) fun a hk => ?_
         refine sst hk rfl rfl fun K316 hK316 w hF => ?_
         have hs := hs.f hF
         refine ssw 1 hs rfl rfl hk rfl rfl rfl rfl sz53 (by simp [Value.oneCell']) rfl fun w a hk hs => ?_
         refine se (hs.pick [(19, 19), (3, 3), (8, 8), (16, 16), (5, 5), (6, 6), (7, 7)] rfl) hk (hK316 _ _ ?_)
         refine sst hk rfl rfl fun K317 hK317 w hF => ?_
         have hs := hs.f hF
         refine sa _ rfl hk rfl rfl rfl fun a hk => ?_
         refine se (hs.pick [(19, 19), (3, 3), (8, 8), (16, 16), (5, 5), (6, 6), (7, 7)] rfl) hk (hK317 _ _ ?_)
         refine sst hk rfl rfl fun K318 hK318 w hF => ?_
         have hs := hs.f hF
         refine sa _ rfl hk rfl rfl rfl fun a hk => ?_
         refine se (hs.pick [(19, 19), (3, 3), (8, 8), (16, 16), (5, 5), (6, 6), (7, 7)] rfl) hk (hK318 _ _ ?_)
         refine wml_nil fun w hF _ => ?_
         have hs := hs.f hF
         obtain rfl := Option.some.inj H
         show R299 _ _
         rw [hR299]
         exact ⟨u187, y314, u137, u46, u84, y15.Buckets, A190, p191, _, A140, p141, _, A49, p50, _, A87, p88, _, A25, p26, _, rfl, (hk.c 2 rfl (hk.c 3 rfl (hk.c 4 rfl hk.k))), (hs.pick [(19, 19), (1, 1), (16, 16), (5, 5), (6, 6), (7, 7)] rfl), o189, o139, o48, o86, o28⟩
        ·have hk := hk.lit 103 c311 rfl
         refine ssk hk rfl rfl rfl rfl (fun w hF => (hs.f hF).pick [(19, 19), (3, 3), (8, 8), (16, 16), (5, 5), (6, 6), (7, 7)] rfl) fun w a hF hk => ?_
         have hs := hs.f hF
         refine ssk hk rfl rfl rfl rfl (fun w hF => (hs.f hF).pick [(19, 19), (3, 3), (8, 8), (16, 16), (5, 5), (6, 6), (7, 7)] rfl) fun w a hF hk => ?_
         have hs := hs.f hF
         refine qst (.bool false) hk rfl rfl rfl rfl (fun w hs => sv (.bool false) hk rfl rfl rfl fun a hk => qe hk) fun a hk => ?_
         refine sst hk rfl rfl fun K319 hK319 w hF => ?_
         have hs := hs.f hF
         refine ssw 1 hs rfl rfl hk rfl rfl rfl rfl sz53 (by simp [Value.oneCell']) rfl fun w a hk hs => ?_
         refine se (hs.pick [(19, 19), (3, 3), (8, 8), (16, 16), (5, 5), (6, 6), (7, 7)] rfl) hk (hK319 _ _ ?_)
         refine sst hk rfl rfl fun K320 hK320 w hF => ?_
         have hs := hs.f hF
         refine sa _ rfl hk rfl rfl rfl fun a hk => ?_
         refine se (hs.pick [(19, 19), (3, 3), (8, 8), (16, 16), (5, 5), (6, 6), (7, 7)] rfl) hk (hK320 _ _ ?_)
         refine sst hk rfl rfl fun K321 hK321 w hF => ?_
         have hs := hs.f hF
         refine sa _ rfl hk rfl rfl rfl fun a hk => ?_
         refine se (hs.pick [(19, 19), (3, 3), (8, 8), (16, 16), (5, 5), (6, 6), (7, 7)] rfl) hk (hK321 _ _ ?_)
         refine wml_nil fun w hF _ => ?_
         have hs := hs.f hF
         obtain rfl := Option.some.inj H
         show R299 _ _
         rw [hR299]
         exact ⟨u187, false, u137, u46, u84, y15.Buckets, A190, p191, _, A140, p141, _, A49, p50, _, A87, p88, _, A25, p26, _, rfl, (hk.c 2 rfl (hk.c 3 rfl (hk.c 4 rfl hk.k))), (hs.pick [(19, 19), (1, 1), (16, 16), (5, 5), (6, 6), (7, 7)] rfl), o189, o139, o48, o86, o28⟩
       ·have hk := hk.lit 99 c304 rfl
        refine ssk hk rfl rfl rfl rfl (fun w hF => (hs.f hF).pick [(19, 19), (3, 3), (8, 8), (16, 16), (5, 5), (6, 6), (7, 7)] rfl) fun w a hF hk => ?_
        have hs := hs.f hF
        refine ssk hk rfl rfl rfl rfl (fun w hF => (hs.f hF).pick [(19, 19), (3, 3), (8, 8), (16, 16), (5, 5), (6, 6), (7, 7)] rfl) fun w a hF hk => ?_
        have hs := hs.f hF
        refine sst hk rfl rfl fun K322 hK322 w hF => ?_
        have hs := hs.f hF
        refine sv (.bool false) hk rfl rfl rfl fun a hk => ?_
        refine se (hs.pick [(19, 19), (3, 3), (8, 8), (16, 16), (5, 5), (6, 6), (7, 7)] rfl) hk (hK322 _ _ ?_)
        refine sst hk rfl rfl fun K323 hK323 w hF => ?_
        have hs := hs.f hF
        refine sm _ rfl hk rfl rfl rfl fun a hk => ?_
        refine se (hs.pick [(19, 19), (3, 3), (8, 8), (16, 16), (5, 5), (6, 6), (7, 7)] rfl) hk (hK323 _ _ ?_)
        refine ssk hk rfl rfl rfl rfl (fun w hF => (hs.f hF).pick [(19, 19), (3, 3), (8, 8), (16, 16), (5, 5), (6, 6), (7, 7)] rfl) fun w a hF hk => ?_
        have hs := hs.f hF
        refine ssk hk rfl rfl rfl rfl (fun w hF => (hs.f hF).pick [(19, 19), (3, 3), (8, 8), (16, 16), (5, 5), (6, 6), (7, 7)] rfl) fun w a hF hk => ?_
        have hs := hs.f hF
        refine qst (.bool false) hk rfl rfl rfl rfl (fun w hs => sv (.bool false) hk rfl rfl rfl fun a hk => qe hk) fun a hk => ?_
        refine sst hk rfl rfl fun K324 hK324 w hF => ?_
        have hs := hs.f hF
        refine ssw 1 hs rfl rfl hk rfl rfl rfl rfl sz53 (by simp [Value.oneCell']) rfl fun w a hk hs => ?_
        refine se (hs.pick [(19, 19), (3, 3), (8, 8), (16, 16), (5, 5), (6, 6), (7, 7)] rfl) hk (hK324 _ _ ?_)
        refine sst hk rfl rfl fun K325 hK325 w hF => ?_
        have hs := hs.f hF
        refine sa _ rfl hk rfl rfl rfl fun a hk => ?_
        refine se (hs.pick [(19, 19), (3, 3), (8, 8), (16, 16), (5, 5), (6, 6), (7, 7)] rfl) hk (hK325 _ _ ?_)
        refine sst hk rfl rfl fun K326 hK326 w hF => ?_
        have hs := hs.f hF
        refine sa _ rfl hk rfl rfl rfl fun a hk => ?_
        refine se (hs.pick [(19, 19), (3, 3), (8, 8), (16, 16), (5, 5), (6, 6), (7, 7)] rfl) hk (hK326 _ _ ?_)
        refine wml_nil fun w hF _ => ?_
        have hs := hs.f hF
        obtain rfl := Option.some.inj H
        show R299 _ _
        rw [hR299]
        exact ⟨u187, false, u137, u46, u84, y15.Buckets, A190, p191, _, A140, p141, _, A49, p50, _, A87, p88, _, A25, p26, _, rfl, (hk.c 2 rfl (hk.c 3 rfl (hk.c 4 rfl hk.k))), (hs.pick [(19, 19), (1, 1), (16, 16), (5, 5), (6, 6), (7, 7)] rfl), o189, o139, o48, o86, o28⟩
      ·intro a w hR0
       rw [hR299] at hR0
       obtain ⟨u270, u275, u276, u281, u286, u291, A273, p274, k271, A279, p280, k277, A284, p285, k282, A289, p290, k287, A294, p295, k292, rfl, hk, hs, o272, o278, o283, o288, o293⟩ := hR0
       have H := HL298
       try dsimp only at H
       refine hK268 _ _ ?_
       refine wp_ret ?_
       obtain rfl := Option.some.inj H
       exact fin hk _ [(.agg #[.slice A279 u276.length p280, .slice A284 u281.length p285, .slice A289 u286.length p290, .slice A294 u291.length p295]), (.slice A273 u270.length p274), (.bool u275)] rfl ⟨⟨_, rfl, run_loadN ag53 sz53 (box_cells hs (k := 1) rfl)⟩, ⟨rfl, ⟨rfl, trivial⟩⟩⟩ ⟨A279, p280, _, A284, p285, _, A289, p290, _, A294, p295, _, A273, p274, _, rfl, o278, o283, o288, o293, o272, (hs.pick [(0, 16), (1, 5), (2, 6), (3, 7), (4, 19)] rfl).dnil⟩

end Go.Proofs.Ytmgfkpfacdlfbaa
